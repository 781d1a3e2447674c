import Derived.Test.YtkihplehmkbfaaaDoorZS2
import Derived.Test.YtkihplehmkbfaaaDoorZS1
import Derived.Test.YtkihplehmkbfaaaDoorZL5
import Derived.Shelf.Strings.OnBuilder
set_option linter.unusedVariables false
set_option linter.unusedSimpArgs false
namespace Go.Proofs
open Go.Vc
set_option maxRecDepth 20000
namespace Nu
noncomputable def oF (a_0 : qI0) : Option Bool :=
 (cO (a_0.1)).bind (fun v_5 => ck (((v_5 = true) → (((cO ((a_0.2).1)).isSome = true)))) (ck ((((v_5 = true) ∧ (((cO ((a_0.2).1)).getD false) = true)) → (((nA (a_0.1) ((a_0.2).1)).isSome = true)))) (some ((v_5 && ((cO ((a_0.2).1)).getD false)) && (decide (((nA (a_0.1) ((a_0.2).1)).getD (0 : Int)) ≤ (0 : Int)))))))
def aEp : PlR := ⟨[(0, .B [1]), (1, .A [2])], []⟩
def aGL : Ty := .pair (.pair (.pair .bool (.pair (.sl (.u .u64)) (.pair (.i .i64) .unit))) (.pair (.pair .bool (.pair (.sl (.u .u64)) (.pair (.i .i64) .unit))) .unit)) .unit
noncomputable def mT : aJ := mSpec aGL (.one .bool) (fun x => oF x.1)
noncomputable def aCf : List (FuncId × aJ) := [(21, fD), (40, pY)]
theorem aMa : cB Tryd.prog GL aCf := .cons pX (by kernel_rfl) (.cons aEg (by kernel_rfl) (.nil))
theorem aHT : gam aCf 21 = some fD := rfl
theorem aHU : gam aCf 40 = some pY := rfl
attribute [go_sem] aGL aEp aHT aHU
set_option maxHeartbeats 4000000 in
theorem aA6 : FOK Tryd.prog GL 20 mT := by
 refine cE (bW aMa) mix Tryd.func20 rfl (by kernel_rfl) (by decide) aEp fun w0 S x Θ hw h hF => ?_
 obtain ⟨(a_0 : qI0), u⟩ := x
 simp only [cH, go_sem]
 replace h : sat (oF a_0) _ := h
 unfold oF at h
 obtain ⟨v_5, hv, h⟩ := cI h
 try simp only [hv, go_sem]
 refine aN h fun g0 h => aN h fun g1 h => ?_
 exact aK hF [.tmp 2] rfl rfl rfl (aB h) (by simp only [aZ, go_sem])
attribute [go_sem] mT
noncomputable def fK (a_0 : qI0) (digits_1 : Int) : Option ((List Nat) × (Int × Unit)) :=
 (oF a_0).bind (fun v_8 => if ¬ (v_8 = true) then some ((aX ⟨#[]⟩), (1 : Int), ()) else (iL (a_0.1) digits_1 false).bind (fun v_12 => if ¬ (((v_12.2).1) = (0 : Int)) then some ((aX ⟨#[]⟩), ((v_12.2).1), ()) else (iL ((a_0.2).1) digits_1 true).bind (fun v_16 => if ¬ (((v_16.2).1) = (0 : Int)) then some ((aX ⟨#[]⟩), ((v_16.2).1), ()) else ck (((aX ⟨#[91]⟩).length) + ((v_12.1).length) ≤ 9223372036854775807) (ck ((((aX ⟨#[91]⟩) ++ (v_12.1)).length) + ((aX ⟨#[44, 32]⟩).length) ≤ 9223372036854775807) (ck (((((aX ⟨#[91]⟩) ++ (v_12.1)) ++ (aX ⟨#[44, 32]⟩)).length) + ((v_16.1).length) ≤ 9223372036854775807) (ck ((((((aX ⟨#[91]⟩) ++ (v_12.1)) ++ (aX ⟨#[44, 32]⟩)) ++ (v_16.1)).length) + ((aX ⟨#[93]⟩).length) ≤ 9223372036854775807) (some ((((((aX ⟨#[91]⟩) ++ (v_12.1)) ++ (aX ⟨#[44, 32]⟩)) ++ (v_16.1)) ++ (aX ⟨#[93]⟩)), (0 : Int), ()))))))))
def aA7 : PlR := ⟨[], []⟩
def aBO : Ty := .pair (.pair (.pair .bool (.pair (.sl (.u .u64)) (.pair (.i .i64) .unit))) (.pair (.pair .bool (.pair (.sl (.u .u64)) (.pair (.i .i64) .unit))) .unit)) (.pair (.i .i64) .unit)
noncomputable def mB : aJ := mSpec aBO (.tup (.pair .str (.pair (.i .i64) .unit))) (fun x => fK x.1 x.2.1)
noncomputable def xK : List (FuncId × aJ) := [(16, pZ), (20, mT)]
theorem aHV : cB Tryd.prog GL xK := .cons aEn (by kernel_rfl) (.cons aA6 (by kernel_rfl) (.nil))
theorem aDB : gam xK 16 = some pZ := rfl
theorem aDC : gam xK 20 = some mT := rfl
attribute [go_sem] aBO aA7 aDB aDC
set_option maxHeartbeats 4000000 in
theorem aA8 : FOK Tryd.prog GL 8 mB := by
 refine cE (bW aHV) mix Tryd.func8 rfl (by kernel_rfl) (by decide) aA7 fun w0 S x Θ hw h hF => ?_
 obtain ⟨(a_0 : qI0), (digits_1 : Int), u⟩ := x
 simp only [cH, go_sem]
 replace h : sat (fK a_0 digits_1) _ := h
 unfold fK at h
 refine aI9 hF [1, 2] ?_
 simp only [go_sem]
 refine cZ hF [1, 2, 11] ?_
 simp only [go_sem]
 obtain ⟨v_8, hv, h⟩ := cI h
 try simp only [hv, go_sem]
 refine aF5 h (fun hc h => ?_) fun hc h => ?_
 ·refine cZ hF [4, 5] ?_
  simp only [go_sem]
  exact aK hF [.tmp 4, .tmp 5] rfl rfl rfl (aB h) (by simp only [aZ, go_sem])
 ·refine cZ hF [1, 2, 6, 7] ?_
  simp only [go_sem]
  obtain ⟨v_12, hv, h⟩ := cI h
  try simp only [hv, go_sem]
  refine cZ hF [1, 2, 6, 7, 20] ?_
  simp only [go_sem]
  refine iX h (fun hc h => ?_) fun hc h => ?_
  ·refine cZ hF [4, 5] ?_
   simp only [go_sem]
   exact aK hF [.tmp 4, .tmp 5] rfl rfl rfl (aB h) (by simp only [aZ, go_sem])
  ·refine cZ hF [6, 7, 8] ?_
   simp only [go_sem]
   obtain ⟨v_16, hv, h⟩ := cI h
   try simp only [hv, go_sem]
   refine cZ hF [6, 7, 8, 30] ?_
   simp only [go_sem]
   refine iX h (fun hc h => ?_) fun hc h => ?_
   ·refine cZ hF [4, 5] ?_
    simp only [go_sem]
    exact aK hF [.tmp 4, .tmp 5] rfl rfl rfl (aB h) (by simp only [aZ, go_sem])
   ·refine cZ hF [4, 5] ?_
    simp only [go_sem]
    refine aN h fun g0 h => aN h fun g1 h => aN h fun g2 h => aN h fun g3 h => ?_
    exact aK hF [.tmp 4, .tmp 5] rfl rfl rfl (aB h) (by simp only [aZ, go_sem])
attribute [go_sem] mB
noncomputable def kB (a_0 : qI0) : Option Bool :=
 (oF a_0).bind (fun v_5 => some (!v_5))
def zY : PlR := ⟨[(0, .B [1]), (1, .A [2])], []⟩
def aA9 : Ty := .pair (.pair (.pair .bool (.pair (.sl (.u .u64)) (.pair (.i .i64) .unit))) (.pair (.pair .bool (.pair (.sl (.u .u64)) (.pair (.i .i64) .unit))) .unit)) .unit
noncomputable def pE : aJ := mSpec aA9 (.one .bool) (fun x => kB x.1)
noncomputable def aBa : List (FuncId × aJ) := [(20, mT)]
theorem aGM : cB Tryd.prog GL aBa := .cons aA6 (by kernel_rfl) (.nil)
theorem aCW : gam aBa 20 = some mT := rfl
attribute [go_sem] aA9 zY aCW
set_option maxHeartbeats 4000000 in
theorem aEN : FOK Tryd.prog GL 23 pE := by
 refine cE (bW aGM) mix Tryd.func23 rfl (by kernel_rfl) (by decide) zY fun w0 S x Θ hw h hF => ?_
 obtain ⟨(a_0 : qI0), u⟩ := x
 simp only [cH, go_sem]
 replace h : sat (kB a_0) _ := h
 unfold kB at h
 obtain ⟨v_5, hv, h⟩ := cI h
 try simp only [hv, go_sem]
 exact aK hF [.tmp 2] rfl rfl rfl (aB h) (by simp only [aZ, go_sem])
attribute [go_sem] pE
noncomputable def bR (s_0 : (List qI0)) (x8_14 : Int) : Option ((Int) ⊕ ((Unit) ⊕ Int)) :=
 if x8_14 < (s_0.length : Int) then ck (0 ≤ x8_14 ∧ x8_14 < (s_0.length : Int)) ((kB (s_0.getD (x8_14.toNat) ((false, ([] : List Nat), (0 : Int), ()), (false, ([] : List Nat), (0 : Int), ()), ()))).bind (fun v_27 => if v_27 = true then some (.inr (.inr x8_14)) else ck (I64 (x8_14 + (1 : Int))) (some (.inl (x8_14 + (1 : Int)))))) else some (.inr (.inl ()))
noncomputable def bG (s_0 : (List qI0)) (f_1 : Unit) : Option Int :=
 (cX (fun d : Int => bR s_0 d) (0 : Int)).bind (fun e => match e with | (.inl e) => some (-1 : Int) | (.inr e) => some e)
def eD : PlR := ⟨[(0, .A [0, 1]), (1, .A [0, 1, 7, 8]), (2, .A [0, 1, 7, 8, 9]), (3, .A [0, 1, 5, 7, 8]), (4, .A [0, 1, 5, 7, 8, 16]), (5, .A [4]), (6, .A [0, 1, 7, 8]), (7, .A [4])], []⟩
def eK : Ty := .pair (.sl (.pair (.pair .bool (.pair (.sl (.u .u64)) (.pair (.i .i64) .unit))) (.pair (.pair .bool (.pair (.sl (.u .u64)) (.pair (.i .i64) .unit))) .unit))) (.pair (.clo 23 .unit) .unit)
noncomputable def bY : aJ := mSpec eK (.one (.i .i64)) (fun x => bG x.1 x.2.1)
noncomputable def eL : List (FuncId × aJ) := [(23, pE)]
theorem kN : cB Tryd.prog GL eL := .cons aEN (by kernel_rfl) (.nil)
theorem jA : gam eL 23 = some pE := rfl
attribute [go_sem] eK eD jA
set_option maxHeartbeats 4000000 in
theorem kC : FOK Tryd.prog GL 42 bY := by
 refine cE (bW kN) mix Tryd.func42 rfl (by kernel_rfl) (by decide) eD fun w0 S x Θ hw h hF => ?_
 obtain ⟨(s_0 : (List qI0)), (f_1 : Unit), u⟩ := x
 simp only [cH, go_sem]
 replace h : sat (bG s_0 f_1) _ := h
 unfold bG at h
 refine cK hF (D := Int) [0, 1, 7] (fun d => [(8, .val (.i .i64) d)]) (fun d => []) h rfl (by simp only [go_sem]) ?_
 rintro x8_14 A2 T2 hA2 hE2 h
 simp only [go_sem]
 replace h : sat (bR s_0 x8_14) _ := h
 unfold bR at h
 refine eZ h (fun hc h => ?_) fun hc h => ?_
 ·refine aN h fun g0 h => ?_
  obtain ⟨v_27, hv, h⟩ := cI h
  try simp only [hv, go_sem]
  refine aDX h (fun hc h => ?_) fun hc h => ?_
  ·replace h := hE2 _ (aB h)
   try dsimp only at h
   exact aK hF [.tmp 4] rfl rfl rfl (aB h) (by simp only [aZ, go_sem])
  ·refine aN h fun g0 h => ?_
   replace h := hA2 _ (aB h)
   exact aY _ h rfl (by simp only [go_sem])
 ·replace h := hE2 _ (aB h)
  try dsimp only at h
  exact aK hF [.tmp 4] rfl rfl rfl (aB h) (by simp only [aZ, go_sem])
attribute [go_sem] bY
noncomputable def aT (s_0 : (List qI0)) (f_1 : Unit) : Option Bool :=
 (bG s_0 f_1).bind (fun v_6 => some (decide ((0 : Int) ≤ v_6)))
def dO : PlR := ⟨[(0, .A [0, 1]), (1, .A [4])], []⟩
def dS : Ty := .pair (.sl (.pair (.pair .bool (.pair (.sl (.u .u64)) (.pair (.i .i64) .unit))) (.pair (.pair .bool (.pair (.sl (.u .u64)) (.pair (.i .i64) .unit))) .unit))) (.pair (.clo 23 .unit) .unit)
noncomputable def bN : aJ := mSpec dS (.one .bool) (fun x => aT x.1 x.2.1)
noncomputable def dT : List (FuncId × aJ) := [(42, bY)]
theorem jB : cB Tryd.prog GL dT := .cons kC (by kernel_rfl) (.nil)
theorem gZ : gam dT 42 = some bY := rfl
attribute [go_sem] dS dO gZ
set_option maxHeartbeats 4000000 in
theorem iQ : FOK Tryd.prog GL 22 bN := by
 refine cE (bW jB) mix Tryd.func22 rfl (by kernel_rfl) (by decide) dO fun w0 S x Θ hw h hF => ?_
 obtain ⟨(s_0 : (List qI0)), (f_1 : Unit), u⟩ := x
 simp only [cH, go_sem]
 replace h : sat (aT s_0 f_1) _ := h
 unfold aT at h
 obtain ⟨v_6, hv, h⟩ := cI h
 try simp only [hv, go_sem]
 exact aK hF [.tmp 4] rfl rfl rfl (aB h) (by simp only [aZ, go_sem])
attribute [go_sem] bN
noncomputable def nC (a_0 : qI0) : Option Bool :=
 (oF a_0).bind (fun v_5 => some (!v_5))
def aBP : PlR := ⟨[(0, .B [1]), (1, .A [2])], []⟩
def aCX : Ty := .pair (.pair (.pair .bool (.pair (.sl (.u .u64)) (.pair (.i .i64) .unit))) (.pair (.pair .bool (.pair (.sl (.u .u64)) (.pair (.i .i64) .unit))) .unit)) .unit
noncomputable def sN : aJ := mSpec aCX (.one .bool) (fun x => nC x.1)
noncomputable def aCY : List (FuncId × aJ) := [(20, mT)]
theorem aJO : cB Tryd.prog GL aCY := .cons aA6 (by kernel_rfl) (.nil)
theorem aEO : gam aCY 20 = some mT := rfl
attribute [go_sem] aCX aBP aEO
set_option maxHeartbeats 4000000 in
theorem aHW : FOK Tryd.prog GL 45 sN := by
 refine cE (bW aJO) mix Tryd.func45 rfl (by kernel_rfl) (by decide) aBP fun w0 S x Θ hw h hF => ?_
 obtain ⟨(a_0 : qI0), u⟩ := x
 simp only [cH, go_sem]
 replace h : sat (nC a_0) _ := h
 unfold nC at h
 obtain ⟨v_5, hv, h⟩ := cI h
 try simp only [hv, go_sem]
 exact aK hF [.tmp 2] rfl rfl rfl (aB h) (by simp only [aZ, go_sem])
attribute [go_sem] sN
noncomputable def bZ (s_0 : (List qI0)) (x8_14 : Int) : Option ((Int) ⊕ ((Unit) ⊕ Int)) :=
 if x8_14 < (s_0.length : Int) then ck (0 ≤ x8_14 ∧ x8_14 < (s_0.length : Int)) ((nC (s_0.getD (x8_14.toNat) ((false, ([] : List Nat), (0 : Int), ()), (false, ([] : List Nat), (0 : Int), ()), ()))).bind (fun v_27 => if v_27 = true then some (.inr (.inr x8_14)) else ck (I64 (x8_14 + (1 : Int))) (some (.inl (x8_14 + (1 : Int)))))) else some (.inr (.inl ()))
noncomputable def bI (s_0 : (List qI0)) (f_1 : Unit) : Option Int :=
 (cX (fun d : Int => bZ s_0 d) (0 : Int)).bind (fun e => match e with | (.inl e) => some (-1 : Int) | (.inr e) => some e)
def eX : PlR := ⟨[(0, .A [0, 1]), (1, .A [0, 1, 7, 8]), (2, .A [0, 1, 7, 8, 9]), (3, .A [0, 1, 5, 7, 8]), (4, .A [0, 1, 5, 7, 8, 16]), (5, .A [4]), (6, .A [0, 1, 7, 8]), (7, .A [4])], []⟩
def fE : Ty := .pair (.sl (.pair (.pair .bool (.pair (.sl (.u .u64)) (.pair (.i .i64) .unit))) (.pair (.pair .bool (.pair (.sl (.u .u64)) (.pair (.i .i64) .unit))) .unit))) (.pair (.clo 45 .unit) .unit)
noncomputable def cC : aJ := mSpec fE (.one (.i .i64)) (fun x => bI x.1 x.2.1)
noncomputable def fF : List (FuncId × aJ) := [(45, sN)]
theorem kZ : cB Tryd.prog GL fF := .cons aHW (by kernel_rfl) (.nil)
theorem kD : gam fF 45 = some sN := rfl
attribute [go_sem] fE eX kD
set_option maxHeartbeats 4000000 in
theorem kP : FOK Tryd.prog GL 42 cC := by
 refine cE (bW kZ) mix Tryd.func42 rfl (by kernel_rfl) (by decide) eX fun w0 S x Θ hw h hF => ?_
 obtain ⟨(s_0 : (List qI0)), (f_1 : Unit), u⟩ := x
 simp only [cH, go_sem]
 replace h : sat (bI s_0 f_1) _ := h
 unfold bI at h
 refine cK hF (D := Int) [0, 1, 7] (fun d => [(8, .val (.i .i64) d)]) (fun d => []) h rfl (by simp only [go_sem]) ?_
 rintro x8_14 A2 T2 hA2 hE2 h
 simp only [go_sem]
 replace h : sat (bZ s_0 x8_14) _ := h
 unfold bZ at h
 refine eZ h (fun hc h => ?_) fun hc h => ?_
 ·refine aN h fun g0 h => ?_
  obtain ⟨v_27, hv, h⟩ := cI h
  try simp only [hv, go_sem]
  refine aDX h (fun hc h => ?_) fun hc h => ?_
  ·replace h := hE2 _ (aB h)
   try dsimp only at h
   exact aK hF [.tmp 4] rfl rfl rfl (aB h) (by simp only [aZ, go_sem])
  ·refine aN h fun g0 h => ?_
   replace h := hA2 _ (aB h)
   exact aY _ h rfl (by simp only [go_sem])
 ·replace h := hE2 _ (aB h)
  try dsimp only at h
  exact aK hF [.tmp 4] rfl rfl rfl (aB h) (by simp only [aZ, go_sem])
attribute [go_sem] cC
noncomputable def aW (s_0 : (List qI0)) (f_1 : Unit) : Option Bool :=
 (bI s_0 f_1).bind (fun v_6 => some (decide ((0 : Int) ≤ v_6)))
def dX : PlR := ⟨[(0, .A [0, 1]), (1, .A [4])], []⟩
def eE : Ty := .pair (.sl (.pair (.pair .bool (.pair (.sl (.u .u64)) (.pair (.i .i64) .unit))) (.pair (.pair .bool (.pair (.sl (.u .u64)) (.pair (.i .i64) .unit))) .unit))) (.pair (.clo 45 .unit) .unit)
noncomputable def bU : aJ := mSpec eE (.one .bool) (fun x => aW x.1 x.2.1)
noncomputable def eF : List (FuncId × aJ) := [(42, cC)]
theorem kE : cB Tryd.prog GL eF := .cons kP (by kernel_rfl) (.nil)
theorem iR : gam eF 42 = some cC := rfl
attribute [go_sem] eE dX iR
set_option maxHeartbeats 4000000 in
theorem jN : FOK Tryd.prog GL 22 bU := by
 refine cE (bW kE) mix Tryd.func22 rfl (by kernel_rfl) (by decide) dX fun w0 S x Θ hw h hF => ?_
 obtain ⟨(s_0 : (List qI0)), (f_1 : Unit), u⟩ := x
 simp only [cH, go_sem]
 replace h : sat (aW s_0 f_1) _ := h
 unfold aW at h
 obtain ⟨v_6, hv, h⟩ := cI h
 try simp only [hv, go_sem]
 exact aK hF [.tmp 4] rfl rfl rfl (aB h) (by simp only [aZ, go_sem])
attribute [go_sem] bU
noncomputable def nP (t_0 : qT0) (x26_13 : Int) : Option ((Int) ⊕ ((Unit) ⊕ Bool)) :=
 if x26_13 < ((t_0.1).length : Int) then ck (0 ≤ x26_13 ∧ x26_13 < ((t_0.1).length : Int)) ((cO ((t_0.1).getD (x26_13.toNat) (false, ([] : List Nat), (0 : Int), ()))).bind (fun v_26 => ck ((¬ (¬ (v_26 = true)) → ((0 : Int) < x26_13) → (I64 (x26_13 - (1 : Int))))) (ck ((¬ (¬ (v_26 = true)) → ((0 : Int) < x26_13) → (0 ≤ (x26_13 - (1 : Int)) ∧ (x26_13 - (1 : Int)) < ((t_0.1).length : Int)))) (ck ((¬ (¬ (v_26 = true)) → ((0 : Int) < x26_13) → (((nA ((t_0.1).getD ((x26_13 - (1 : Int)).toNat) (false, ([] : List Nat), (0 : Int), ())) ((t_0.1).getD (x26_13.toNat) (false, ([] : List Nat), (0 : Int), ()))).isSome = true)))) (if (¬ (v_26 = true)) ∨ (((0 : Int) < x26_13) ∧ ((0 : Int) ≤ ((nA ((t_0.1).getD ((x26_13 - (1 : Int)).toNat) (false, ([] : List Nat), (0 : Int), ())) ((t_0.1).getD (x26_13.toNat) (false, ([] : List Nat), (0 : Int), ()))).getD (0 : Int)))) then some (.inr (.inr false)) else ck (I64 (x26_13 + (1 : Int))) (some (.inl (x26_13 + (1 : Int))))))))) else some (.inr (.inl ()))
noncomputable def sD (t_0 : qT0) : Option Bool :=
 ck ((¬ (((((((t_0.2).1).length) : Nat) : Int) < (1 : Int)) ∨ ((256 : Int) < (((t_0.2).1).length : Int))) → (I64 ((((((t_0.2).1).length) : Nat) : Int) + (1 : Int))))) (if (((((((t_0.2).1).length) : Nat) : Int) < (1 : Int)) ∨ ((256 : Int) < (((t_0.2).1).length : Int))) ∨ (¬ (((((t_0.1).length) : Nat) : Int) = ((((((t_0.2).1).length) : Nat) : Int) + (1 : Int)))) then some false else (cX (fun d : Int => nP t_0 d) (0 : Int)).bind (fun e => match e with | (.inl e) => (aW ((t_0.2).1) ()).bind (fun v_34 => some (!v_34)) | (.inr e) => some e))
def aEq : PlR := ⟨[(0, .B [1]), (1, .A [1, 3]), (2, .A [1, 22]), (3, .A [2]), (4, .A [1, 24, 25, 26]), (5, .A [1, 24, 25, 26, 27]), (6, .B [1, 4, 5, 24, 25, 26]), (7, .A [1, 24, 25, 26, 48]), (8, .A [2]), (9, .A [1, 24, 25, 26]), (10, .A [2])], []⟩
def aGN : Ty := .pair (.pair (.sl (.pair .bool (.pair (.sl (.u .u64)) (.pair (.i .i64) .unit)))) (.pair (.sl (.pair (.pair .bool (.pair (.sl (.u .u64)) (.pair (.i .i64) .unit))) (.pair (.pair .bool (.pair (.sl (.u .u64)) (.pair (.i .i64) .unit))) .unit))) .unit)) .unit
noncomputable def wV : aJ := mSpec aGN (.one .bool) (fun x => sD x.1)
noncomputable def zU : List (FuncId × aJ) := [(22, bU), (21, fD), (40, pY)]
theorem aMb : cB Tryd.prog GL zU := .cons jN (by kernel_rfl) (.cons pX (by kernel_rfl) (.cons aEg (by kernel_rfl) (.nil)))
theorem aHX : gam zU 22 = some bU := rfl
theorem aHY : gam zU 21 = some fD := rfl
theorem aHZ : gam zU 40 = some pY := rfl
attribute [go_sem] aGN aEq aHX aHY aHZ
set_option maxHeartbeats 4000000 in
theorem aLc : FOK Tryd.prog GL 28 wV := by
 refine cE (bW aMb) mix Tryd.func28 rfl (by kernel_rfl) (by decide) aEq fun w0 S x Θ hw h hF => ?_
 obtain ⟨(t_0 : qT0), u⟩ := x
 simp only [cH, go_sem]
 replace h : sat (sD t_0) _ := h
 unfold sD at h
 obtain ⟨g0, h⟩ := aV h
 try simp only [I64, I32] at g0
 repeat (refine ⟨by first | with_reducible assumption | omega | (intros; first | assumption | omega) | (simp only [go_sem] at *; first | assumption | omega) | (intro q0; (try have e0 := g0 (by first | exact q0 | omega | (simpa using q0))); first | assumption | omega) | decide, ?_⟩)
 refine ⟨fun hc => ?_, fun hc => ?_⟩
 ·replace h := mO hc h
  exact aK hF [.tmp 2] rfl rfl rfl (aB h) (by simp only [aZ, go_sem])
 ·replace h := mP hc h
  refine cK hF (D := Int) [24, 25] (fun d => [(1, .ptr 0 []), (26, .val (.i .i64) d)]) (fun d => [.inr (.box 2 (.val (.pair (.sl (.pair .bool (.pair (.sl (.u .u64)) (.pair (.i .i64) .unit)))) (.pair (.sl (.pair (.pair .bool (.pair (.sl (.u .u64)) (.pair (.i .i64) .unit))) (.pair (.pair .bool (.pair (.sl (.u .u64)) (.pair (.i .i64) .unit))) .unit))) .unit)) t_0))]) h rfl (by simp only [go_sem]) ?_
  rintro x26_13 A5 T5 hA5 hE5 h
  simp only [go_sem]
  replace h : sat (nP t_0 x26_13) _ := h
  unfold nP at h
  refine eZ h (fun hc h => ?_) fun hc h => ?_
  ·obtain ⟨g0, h⟩ := aV h
   repeat (refine ⟨by first | with_reducible assumption | omega | (intros; first | assumption | omega) | (simp only [go_sem] at *; first | assumption | omega) | decide, ?_⟩)
   obtain ⟨v_26, hv, h⟩ := cI h
   try simp only [hv, go_sem]
   obtain ⟨g0, h⟩ := aV h
   obtain ⟨g1, h⟩ := aV h
   obtain ⟨g2, h⟩ := aV h
   try simp only [I64, I32] at g0
   repeat (refine ⟨by first | with_reducible assumption | omega | (intros; first | assumption | omega) | (simp only [go_sem] at *; first | assumption | omega) | (intro q0 q1; (try have e0 := g0 (by first | exact q0 | omega | (simpa using q0)) (by first | exact q1 | omega | (simpa using q1))); (try have e1 := g1 (by first | exact q0 | omega | (simpa using q0)) (by first | exact q1 | omega | (simpa using q1))); (try have e2 := g2 (by first | exact q0 | omega | (simpa using q0)) (by first | exact q1 | omega | (simpa using q1))); first | assumption | omega) | (rintro ⟨q0, q1⟩; (try have e0 := g0 (by first | exact q0 | omega | (simpa using q0)) (by first | exact q1 | omega | (simpa using q1))); (try have e1 := g1 (by first | exact q0 | omega | (simpa using q0)) (by first | exact q1 | omega | (simpa using q1))); (try have e2 := g2 (by first | exact q0 | omega | (simpa using q0)) (by first | exact q1 | omega | (simpa using q1))); first | assumption | omega) | decide, ?_⟩)
   refine ⟨fun hc => ?_, fun hc => ?_⟩
   ·replace h := mO (by first | exact hc | omega | (simpa using hc) | (simp at hc ⊢; omega)) h
    replace h := hE5 _ (aB h)
    try dsimp only at h
    exact aK hF [.tmp 2] rfl rfl rfl (aB h) (by simp only [aZ, go_sem])
   ·replace h := mP (by first | exact hc | omega | (simpa using hc) | (simp at hc ⊢; omega)) h
    obtain ⟨g0, h⟩ := aV h
    try simp only [I64, I32] at g0
    repeat (refine ⟨by first | with_reducible assumption | omega | (intros; first | assumption | omega) | (simp only [go_sem] at *; first | assumption | omega) | decide, ?_⟩)
    replace h := hA5 _ (aB h)
    refine qO [0] rfl rfl ?_
    simp only [go_sem]
    exact aY _ h rfl (by simp only [go_sem])
  ·replace h := hE5 _ (aB h)
   try dsimp only at h
   obtain ⟨v_30, hv, h⟩ := cI h
   try simp only [hv, go_sem]
   exact aK hF [.tmp 2] rfl rfl rfl (aB h) (by simp only [aZ, go_sem])
attribute [go_sem] wV
noncomputable def gK (t_0 : qT0) : Option Bool :=
 (sD t_0).bind (fun v_5 => some (!v_5))
def wW : PlR := ⟨[(0, .B [1]), (1, .A [2])], []⟩
def yH : Ty := .pair (.pair (.sl (.pair .bool (.pair (.sl (.u .u64)) (.pair (.i .i64) .unit)))) (.pair (.sl (.pair (.pair .bool (.pair (.sl (.u .u64)) (.pair (.i .i64) .unit))) (.pair (.pair .bool (.pair (.sl (.u .u64)) (.pair (.i .i64) .unit))) .unit))) .unit)) .unit
noncomputable def nV : aJ := mSpec yH (.one .bool) (fun x => gK x.1)
noncomputable def yI : List (FuncId × aJ) := [(28, wV)]
theorem aDD : cB Tryd.prog GL yI := .cons aLc (by kernel_rfl) (.nil)
theorem aBy : gam yI 28 = some wV := rfl
attribute [go_sem] yH wW aBy
set_option maxHeartbeats 4000000 in
theorem aCZ : FOK Tryd.prog GL 27 nV := by
 refine cE (bW aDD) mix Tryd.func27 rfl (by kernel_rfl) (by decide) wW fun w0 S x Θ hw h hF => ?_
 obtain ⟨(t_0 : qT0), u⟩ := x
 simp only [cH, go_sem]
 replace h : sat (gK t_0) _ := h
 unfold gK at h
 obtain ⟨v_5, hv, h⟩ := cI h
 try simp only [hv, go_sem]
 exact aK hF [.tmp 2] rfl rfl rfl (aB h) (by simp only [aZ, go_sem])
attribute [go_sem] nV
noncomputable def bM (s_0 : (List qT0)) (x8_14 : Int) : Option ((Int) ⊕ ((Unit) ⊕ Int)) :=
 if x8_14 < (s_0.length : Int) then ck (0 ≤ x8_14 ∧ x8_14 < (s_0.length : Int)) ((gK (s_0.getD (x8_14.toNat) (([] : List qD0), ([] : List qI0), ()))).bind (fun v_27 => if v_27 = true then some (.inr (.inr x8_14)) else ck (I64 (x8_14 + (1 : Int))) (some (.inl (x8_14 + (1 : Int)))))) else some (.inr (.inl ()))
noncomputable def bE (s_0 : (List qT0)) (f_1 : Unit) : Option Int :=
 (cX (fun d : Int => bM s_0 d) (0 : Int)).bind (fun e => match e with | (.inl e) => some (-1 : Int) | (.inr e) => some e)
def dU : PlR := ⟨[(0, .A [0, 1]), (1, .A [0, 1, 7, 8]), (2, .A [0, 1, 7, 8, 9]), (3, .A [0, 1, 5, 7, 8]), (4, .A [0, 1, 5, 7, 8, 16]), (5, .A [4]), (6, .A [0, 1, 7, 8]), (7, .A [4])], []⟩
def dY : Ty := .pair (.sl (.pair (.sl (.pair .bool (.pair (.sl (.u .u64)) (.pair (.i .i64) .unit)))) (.pair (.sl (.pair (.pair .bool (.pair (.sl (.u .u64)) (.pair (.i .i64) .unit))) (.pair (.pair .bool (.pair (.sl (.u .u64)) (.pair (.i .i64) .unit))) .unit))) .unit))) (.pair (.clo 27 .unit) .unit)
noncomputable def bS : aJ := mSpec dY (.one (.i .i64)) (fun x => bE x.1 x.2.1)
noncomputable def dZ : List (FuncId × aJ) := [(27, nV)]
theorem jO : cB Tryd.prog GL dZ := .cons aCZ (by kernel_rfl) (.nil)
theorem iM : gam dZ 27 = some nV := rfl
attribute [go_sem] dY dU iM
set_option maxHeartbeats 4000000 in
theorem jC : FOK Tryd.prog GL 44 bS := by
 refine cE (bW jO) mix Tryd.func44 rfl (by kernel_rfl) (by decide) dU fun w0 S x Θ hw h hF => ?_
 obtain ⟨(s_0 : (List qT0)), (f_1 : Unit), u⟩ := x
 simp only [cH, go_sem]
 replace h : sat (bE s_0 f_1) _ := h
 unfold bE at h
 refine cK hF (D := Int) [0, 1, 7] (fun d => [(8, .val (.i .i64) d)]) (fun d => []) h rfl (by simp only [go_sem]) ?_
 rintro x8_14 A2 T2 hA2 hE2 h
 simp only [go_sem]
 replace h : sat (bM s_0 x8_14) _ := h
 unfold bM at h
 refine eZ h (fun hc h => ?_) fun hc h => ?_
 ·refine aN h fun g0 h => ?_
  obtain ⟨v_27, hv, h⟩ := cI h
  try simp only [hv, go_sem]
  refine aDX h (fun hc h => ?_) fun hc h => ?_
  ·replace h := hE2 _ (aB h)
   try dsimp only at h
   exact aK hF [.tmp 4] rfl rfl rfl (aB h) (by simp only [aZ, go_sem])
  ·refine aN h fun g0 h => ?_
   replace h := hA2 _ (aB h)
   exact aY _ h rfl (by simp only [go_sem])
 ·replace h := hE2 _ (aB h)
  try dsimp only at h
  exact aK hF [.tmp 4] rfl rfl rfl (aB h) (by simp only [aZ, go_sem])
attribute [go_sem] bS
noncomputable def aS (s_0 : (List qT0)) (f_1 : Unit) : Option Bool :=
 (bE s_0 f_1).bind (fun v_6 => some (decide ((0 : Int) ≤ v_6)))
def dH : PlR := ⟨[(0, .A [0, 1]), (1, .A [4])], []⟩
def dI : Ty := .pair (.sl (.pair (.sl (.pair .bool (.pair (.sl (.u .u64)) (.pair (.i .i64) .unit)))) (.pair (.sl (.pair (.pair .bool (.pair (.sl (.u .u64)) (.pair (.i .i64) .unit))) (.pair (.pair .bool (.pair (.sl (.u .u64)) (.pair (.i .i64) .unit))) .unit))) .unit))) (.pair (.clo 27 .unit) .unit)
noncomputable def bJ : aJ := mSpec dI (.one .bool) (fun x => aS x.1 x.2.1)
noncomputable def dJ : List (FuncId × aJ) := [(44, bS)]
theorem iN : cB Tryd.prog GL dJ := .cons jC (by kernel_rfl) (.nil)
theorem gS : gam dJ 44 = some bS := rfl
attribute [go_sem] dI dH gS
set_option maxHeartbeats 4000000 in
theorem hO : FOK Tryd.prog GL 26 bJ := by
 refine cE (bW iN) mix Tryd.func26 rfl (by kernel_rfl) (by decide) dH fun w0 S x Θ hw h hF => ?_
 obtain ⟨(s_0 : (List qT0)), (f_1 : Unit), u⟩ := x
 simp only [cH, go_sem]
 replace h : sat (aS s_0 f_1) _ := h
 unfold aS at h
 obtain ⟨v_6, hv, h⟩ := cI h
 try simp only [hv, go_sem]
 exact aK hF [.tmp 4] rfl rfl rfl (aB h) (by simp only [aZ, go_sem])
attribute [go_sem] bJ
noncomputable def kF (l_0 : (List qT0)) : Option Bool :=
 ck ((¬ ((64 : Int) < (l_0.length : Int)) → (((aS l_0 ()).isSome = true)))) (some ((decide ((64 : Int) < (l_0.length : Int))) || ((aS l_0 ()).getD false)))
def zZ : PlR := ⟨[(0, .A [0]), (1, .A [2])], []⟩
def aBb : Ty := .pair (.sl (.pair (.sl (.pair .bool (.pair (.sl (.u .u64)) (.pair (.i .i64) .unit)))) (.pair (.sl (.pair (.pair .bool (.pair (.sl (.u .u64)) (.pair (.i .i64) .unit))) (.pair (.pair .bool (.pair (.sl (.u .u64)) (.pair (.i .i64) .unit))) .unit))) .unit))) .unit
noncomputable def pF : aJ := mSpec aBb (.one .bool) (fun x => kF x.1)
noncomputable def aBc : List (FuncId × aJ) := [(26, bJ)]
theorem aGO : cB Tryd.prog GL aBc := .cons hO (by kernel_rfl) (.nil)
theorem aC0 : gam aBc 26 = some bJ := rfl
attribute [go_sem] aBb zZ aC0
set_option maxHeartbeats 4000000 in
theorem aEP : FOK Tryd.prog GL 25 pF := by
 refine cE (bW aGO) mix Tryd.func25 rfl (by kernel_rfl) (by decide) zZ fun w0 S x Θ hw h hF => ?_
 obtain ⟨(l_0 : (List qT0)), u⟩ := x
 simp only [cH, go_sem]
 replace h : sat (kF l_0) _ := h
 unfold kF at h
 obtain ⟨g0, h⟩ := aV h
 repeat (refine ⟨by first | with_reducible assumption | omega | (intros; first | assumption | omega) | (simp only [go_sem] at *; first | assumption | omega) | (intro q0; (try have e0 := g0 (by first | exact q0 | omega | (simpa using q0))); first | assumption | omega) | decide, ?_⟩)
 exact aK hF [.tmp 2] rfl rfl rfl (aB h) (by simp only [aZ, go_sem])
attribute [go_sem] pF
noncomputable def bT (s_0 : (List (List qT0))) (x8_14 : Int) : Option ((Int) ⊕ ((Unit) ⊕ Int)) :=
 if x8_14 < (s_0.length : Int) then ck (0 ≤ x8_14 ∧ x8_14 < (s_0.length : Int)) ((kF (s_0.getD (x8_14.toNat) ([] : List qT0))).bind (fun v_27 => if v_27 = true then some (.inr (.inr x8_14)) else ck (I64 (x8_14 + (1 : Int))) (some (.inl (x8_14 + (1 : Int)))))) else some (.inr (.inl ()))
noncomputable def bH (s_0 : (List (List qT0))) (f_1 : Unit) : Option Int :=
 (cX (fun d : Int => bT s_0 d) (0 : Int)).bind (fun e => match e with | (.inl e) => some (-1 : Int) | (.inr e) => some e)
def eG : PlR := ⟨[(0, .A [0, 1]), (1, .A [0, 1, 7, 8]), (2, .A [0, 1, 7, 8, 9]), (3, .A [0, 1, 5, 7, 8]), (4, .A [0, 1, 5, 7, 8, 16]), (5, .A [4]), (6, .A [0, 1, 7, 8]), (7, .A [4])], []⟩
def eM : Ty := .pair (.sl (.sl (.pair (.sl (.pair .bool (.pair (.sl (.u .u64)) (.pair (.i .i64) .unit)))) (.pair (.sl (.pair (.pair .bool (.pair (.sl (.u .u64)) (.pair (.i .i64) .unit))) (.pair (.pair .bool (.pair (.sl (.u .u64)) (.pair (.i .i64) .unit))) .unit))) .unit)))) (.pair (.clo 25 .unit) .unit)
noncomputable def cA : aJ := mSpec eM (.one (.i .i64)) (fun x => bH x.1 x.2.1)
noncomputable def eO : List (FuncId × aJ) := [(25, pF)]
theorem kO : cB Tryd.prog GL eO := .cons aEP (by kernel_rfl) (.nil)
theorem jD : gam eO 25 = some pF := rfl
attribute [go_sem] eM eG jD
set_option maxHeartbeats 4000000 in
theorem kG : FOK Tryd.prog GL 43 cA := by
 refine cE (bW kO) mix Tryd.func43 rfl (by kernel_rfl) (by decide) eG fun w0 S x Θ hw h hF => ?_
 obtain ⟨(s_0 : (List (List qT0))), (f_1 : Unit), u⟩ := x
 simp only [cH, go_sem]
 replace h : sat (bH s_0 f_1) _ := h
 unfold bH at h
 refine cK hF (D := Int) [0, 1, 7] (fun d => [(8, .val (.i .i64) d)]) (fun d => []) h rfl (by simp only [go_sem]) ?_
 rintro x8_14 A2 T2 hA2 hE2 h
 simp only [go_sem]
 replace h : sat (bT s_0 x8_14) _ := h
 unfold bT at h
 refine eZ h (fun hc h => ?_) fun hc h => ?_
 ·refine aN h fun g0 h => ?_
  obtain ⟨v_27, hv, h⟩ := cI h
  try simp only [hv, go_sem]
  refine aDX h (fun hc h => ?_) fun hc h => ?_
  ·replace h := hE2 _ (aB h)
   try dsimp only at h
   exact aK hF [.tmp 4] rfl rfl rfl (aB h) (by simp only [aZ, go_sem])
  ·refine aN h fun g0 h => ?_
   replace h := hA2 _ (aB h)
   exact aY _ h rfl (by simp only [go_sem])
 ·replace h := hE2 _ (aB h)
  try dsimp only at h
  exact aK hF [.tmp 4] rfl rfl rfl (aB h) (by simp only [aZ, go_sem])
attribute [go_sem] cA
noncomputable def aU (s_0 : (List (List qT0))) (f_1 : Unit) : Option Bool :=
 (bH s_0 f_1).bind (fun v_6 => some (decide ((0 : Int) ≤ v_6)))
def dP : PlR := ⟨[(0, .A [0, 1]), (1, .A [4])], []⟩
def dV : Ty := .pair (.sl (.sl (.pair (.sl (.pair .bool (.pair (.sl (.u .u64)) (.pair (.i .i64) .unit)))) (.pair (.sl (.pair (.pair .bool (.pair (.sl (.u .u64)) (.pair (.i .i64) .unit))) (.pair (.pair .bool (.pair (.sl (.u .u64)) (.pair (.i .i64) .unit))) .unit))) .unit)))) (.pair (.clo 25 .unit) .unit)
noncomputable def bO : aJ := mSpec dV (.one .bool) (fun x => aU x.1 x.2.1)
noncomputable def dW : List (FuncId × aJ) := [(43, cA)]
theorem jE : cB Tryd.prog GL dW := .cons kG (by kernel_rfl) (.nil)
theorem hZ : gam dW 43 = some cA := rfl
attribute [go_sem] dV dP hZ
set_option maxHeartbeats 4000000 in
theorem iS : FOK Tryd.prog GL 24 bO := by
 refine cE (bW jE) mix Tryd.func24 rfl (by kernel_rfl) (by decide) dP fun w0 S x Θ hw h hF => ?_
 obtain ⟨(s_0 : (List (List qT0))), (f_1 : Unit), u⟩ := x
 simp only [cH, go_sem]
 replace h : sat (aU s_0 f_1) _ := h
 unfold aU at h
 obtain ⟨v_6, hv, h⟩ := cI h
 try simp only [hv, go_sem]
 exact aK hF [.tmp 4] rfl rfl rfl (aB h) (by simp only [aZ, go_sem])
attribute [go_sem] bO
noncomputable def kR (r_0 : qR0) (x60_4 : Int) : Option ((Int) ⊕ ((Unit) ⊕ Bool)) :=
 if x60_4 < (((((((r_0.2).2).2).2).2).1).length : Int) then ck (0 ≤ x60_4 ∧ x60_4 < (((((((r_0.2).2).2).2).2).1).length : Int)) (ck ((¬ ((64 : Int) < ((((((((((r_0.2).2).2).2).2).1).getD (x60_4.toNat) ([] : List qI0)).length) : Nat) : Int)) → (((aT (((((((r_0.2).2).2).2).2).1).getD (x60_4.toNat) ([] : List qI0)) ()).isSome = true)))) (if ((64 : Int) < ((((((((((r_0.2).2).2).2).2).1).getD (x60_4.toNat) ([] : List qI0)).length) : Nat) : Int)) ∨ (((aT (((((((r_0.2).2).2).2).2).1).getD (x60_4.toNat) ([] : List qI0)) ()).getD false) = true) then some (.inr (.inr false)) else ck (I64 (x60_4 + (1 : Int))) (some (.inl (x60_4 + (1 : Int)))))) else some (.inr (.inl ()))
noncomputable def nD (r_0 : qR0) : Option Bool :=
 ck ((¬ (((((((r_0.1) < (1 : Int)) ∨ ((3 : Int) < (r_0.1))) ∨ (((r_0.2).1) < (0 : Int))) ∨ ((1073741824 : Int) < ((r_0.2).1))) ∨ ((((r_0.2).2).1) < (0 : Int))) ∨ ((200 : Int) < (((r_0.2).2).1))) → (((cO ((((r_0.2).2).2).1)).isSome = true)))) (ck ((¬ ((((((((r_0.1) < (1 : Int)) ∨ ((3 : Int) < (r_0.1))) ∨ (((r_0.2).1) < (0 : Int))) ∨ ((1073741824 : Int) < ((r_0.2).1))) ∨ ((((r_0.2).2).1) < (0 : Int))) ∨ ((200 : Int) < (((r_0.2).2).1))) ∨ (¬ (((cO ((((r_0.2).2).2).1)).getD false) = true))) → (((cO (((((r_0.2).2).2).2).1)).isSome = true)))) (if ((((((((((r_0.1) < (1 : Int)) ∨ ((3 : Int) < (r_0.1))) ∨ (((r_0.2).1) < (0 : Int))) ∨ ((1073741824 : Int) < ((r_0.2).1))) ∨ ((((r_0.2).2).1) < (0 : Int))) ∨ ((200 : Int) < (((r_0.2).2).1))) ∨ (¬ (((cO ((((r_0.2).2).2).1)).getD false) = true))) ∨ (¬ (((cO (((((r_0.2).2).2).2).1)).getD false) = true))) ∨ ((16 : Int) < (((((((r_0.2).2).2).2).2).1).length : Int))) ∨ ((16 : Int) < ((((((((r_0.2).2).2).2).2).2).1).length : Int)) then some false else (cX (fun d : Int => kR r_0 d) (0 : Int)).bind (fun e => match e with | (.inl e) => (aU (((((((r_0.2).2).2).2).2).2).1) ()).bind (fun v_13 => some (!v_13)) | (.inr e) => some e)))
def aBQ : PlR := ⟨[(0, .B [1]), (1, .A [1, 56]), (2, .A [2]), (3, .A [1, 58, 59, 60]), (4, .A [1, 58, 59, 60, 61]), (5, .A [1, 4, 58, 59, 60]), (6, .A [1, 58, 59, 60, 70]), (7, .A [2]), (8, .A [1, 58, 59, 60]), (9, .A [2])], []⟩
def aC1 : Ty := .pair (.pair (.i .i64) (.pair (.i .i64) (.pair (.i .i64) (.pair (.pair .bool (.pair (.sl (.u .u64)) (.pair (.i .i64) .unit))) (.pair (.pair .bool (.pair (.sl (.u .u64)) (.pair (.i .i64) .unit))) (.pair (.sl (.sl (.pair (.pair .bool (.pair (.sl (.u .u64)) (.pair (.i .i64) .unit))) (.pair (.pair .bool (.pair (.sl (.u .u64)) (.pair (.i .i64) .unit))) .unit)))) (.pair (.sl (.sl (.pair (.sl (.pair .bool (.pair (.sl (.u .u64)) (.pair (.i .i64) .unit)))) (.pair (.sl (.pair (.pair .bool (.pair (.sl (.u .u64)) (.pair (.i .i64) .unit))) (.pair (.pair .bool (.pair (.sl (.u .u64)) (.pair (.i .i64) .unit))) .unit))) .unit)))) .unit))))))) .unit
noncomputable def sO : aJ := mSpec aC1 (.one .bool) (fun x => nD x.1)
noncomputable def uP : List (FuncId × aJ) := [(22, bN), (24, bO), (21, fD)]
theorem aJP : cB Tryd.prog GL uP := .cons iQ (by kernel_rfl) (.cons iS (by kernel_rfl) (.cons pX (by kernel_rfl) (.nil)))
theorem aEQ : gam uP 22 = some bN := rfl
theorem aER : gam uP 24 = some bO := rfl
theorem aES : gam uP 21 = some fD := rfl
attribute [go_sem] aC1 aBQ aEQ aER aES
set_option maxHeartbeats 4000000 in
theorem aH0 : FOK Tryd.prog GL 11 sO := by
 refine cE (bW aJP) mix Tryd.func11 rfl (by kernel_rfl) (by decide) aBQ fun w0 S x Θ hw h hF => ?_
 obtain ⟨(r_0 : qR0), u⟩ := x
 simp only [cH, go_sem]
 replace h : sat (nD r_0) _ := h
 unfold nD at h
 obtain ⟨g0, h⟩ := aV h
 obtain ⟨g1, h⟩ := aV h
 repeat (refine ⟨by first | with_reducible assumption | omega | (intros; first | assumption | omega) | (simp only [go_sem] at *; first | assumption | omega) | (intro q0; (try have e0 := g0 (by first | exact q0 | omega | (simpa using q0))); (try have e1 := g1 (by first | exact q0 | omega | (simpa using q0))); first | assumption | omega) | decide, ?_⟩)
 refine ⟨fun hc => ?_, fun hc => ?_⟩
 ·replace h := mO (by first | exact hc | omega | (simpa using hc) | (simp at hc ⊢; omega)) h
  exact aK hF [.tmp 2] rfl rfl rfl (aB h) (by simp only [aZ, go_sem])
 ·replace h := mP (by first | exact hc | omega | (simpa using hc) | (simp at hc ⊢; omega)) h
  refine cK hF (D := Int) [58, 59] (fun d => [(1, .ptr 0 []), (60, .val (.i .i64) d)]) (fun d => [.inr (.box 11 (.val (.pair (.i .i64) (.pair (.i .i64) (.pair (.i .i64) (.pair (.pair .bool (.pair (.sl (.u .u64)) (.pair (.i .i64) .unit))) (.pair (.pair .bool (.pair (.sl (.u .u64)) (.pair (.i .i64) .unit))) (.pair (.sl (.sl (.pair (.pair .bool (.pair (.sl (.u .u64)) (.pair (.i .i64) .unit))) (.pair (.pair .bool (.pair (.sl (.u .u64)) (.pair (.i .i64) .unit))) .unit)))) (.pair (.sl (.sl (.pair (.sl (.pair .bool (.pair (.sl (.u .u64)) (.pair (.i .i64) .unit)))) (.pair (.sl (.pair (.pair .bool (.pair (.sl (.u .u64)) (.pair (.i .i64) .unit))) (.pair (.pair .bool (.pair (.sl (.u .u64)) (.pair (.i .i64) .unit))) .unit))) .unit)))) .unit))))))) r_0))]) h rfl (by simp only [go_sem]) ?_
  rintro x60_4 A4 T4 hA4 hE4 h
  simp only [go_sem]
  replace h : sat (kR r_0 x60_4) _ := h
  unfold kR at h
  refine eZ h (fun hc h => ?_) fun hc h => ?_
  ·obtain ⟨g0, h⟩ := aV h
   repeat (refine ⟨by first | with_reducible assumption | omega | (intros; first | assumption | omega) | (simp only [go_sem] at *; first | assumption | omega) | decide, ?_⟩)
   obtain ⟨g0, h⟩ := aV h
   repeat (refine ⟨by first | with_reducible assumption | omega | (intros; first | assumption | omega) | (simp only [go_sem] at *; first | assumption | omega) | (intro q0; (try have e0 := g0 (by first | exact q0 | omega | (simpa using q0))); first | assumption | omega) | decide, ?_⟩)
   refine ⟨fun hc => ?_, fun hc => ?_⟩
   ·replace h := mO hc h
    replace h := hE4 _ (aB h)
    try dsimp only at h
    exact aK hF [.tmp 2] rfl rfl rfl (aB h) (by simp only [aZ, go_sem])
   ·replace h := mP hc h
    obtain ⟨g0, h⟩ := aV h
    try simp only [I64, I32] at g0
    repeat (refine ⟨by first | with_reducible assumption | omega | (intros; first | assumption | omega) | (simp only [go_sem] at *; first | assumption | omega) | decide, ?_⟩)
    replace h := hA4 _ (aB h)
    exact aY _ h rfl (by simp only [go_sem])
  ·replace h := hE4 _ (aB h)
   try dsimp only at h
   obtain ⟨v_9, hv, h⟩ := cI h
   try simp only [hv, go_sem]
   exact aK hF [.tmp 2] rfl rfl rfl (aB h) (by simp only [aZ, go_sem])
attribute [go_sem] sO
end Nu
end Go.Proofs
namespace Go.Proofs
open Go.Vc
set_option maxRecDepth 20000
namespace Nu
abbrev Iv := Dy × Dy × Unit
abbrev Tb := List Dy × List Iv × Unit
abbrev Rec := Int × Int × Int × Dy × Dy × List (List Iv) × List (List Tb) × Unit
def LmI (a : Iv) : Prop := Lm a.1.2.1 ∧ Lm a.2.1.2.1
def LmT (t : Tb) : Prop := (∀ d ∈ t.1, Lm d.2.1) ∧ ∀ a ∈ t.2.1, LmI a
def LmR (r : Rec) : Prop := Lm r.2.2.2.1.2.1 ∧ Lm r.2.2.2.2.1.2.1 ∧ (∀ b ∈ r.2.2.2.2.2.1, ∀ a ∈ b, LmI a) ∧ ∀ l ∈ r.2.2.2.2.2.2.1, ∀ t ∈ l, LmT t
def aC2 (a : Iv) : Bool := oW a.1 && oW a.2.1 && decide (aP0 a.1 a.2.1 ≤ 0)
def stepT (l : List Dy) (i : Nat) : Bool := oW (l.getD i d0) && (decide (i = 0) || decide (aP0 (l.getD (i - 1) d0) (l.getD i d0) < 0))
def aMc (t : Tb) : Bool := decide (1 ≤ t.2.1.length ∧ t.2.1.length ≤ 256 ∧ t.1.length = t.2.1.length + 1) && (List.range t.1.length).all (stepT t.1) && t.2.1.all aC2
def aIF (r : Rec) : Bool := decide (1 ≤ r.1 ∧ r.1 ≤ 3 ∧ 0 ≤ r.2.1 ∧ r.2.1 ≤ 1073741824 ∧ 0 ≤ r.2.2.1 ∧ r.2.2.1 ≤ 200) && oW r.2.2.2.1 && oW r.2.2.2.2.1 && decide (r.2.2.2.2.2.1.length ≤ 16 ∧ r.2.2.2.2.2.2.1.length ≤ 16)
def aMd (b : List Iv) : Bool := decide (b.length ≤ 64) && b.all aC2
def aP2 (l : List Tb) : Bool := decide (l.length ≤ 64) && l.all aMc
def tQ (r : Rec) : Bool := aIF r && r.2.2.2.2.2.1.all aMd && r.2.2.2.2.2.2.1.all aP2
theorem xL {α : Type} {l : List α} {i : Nat} {z : α} (h : i < l.length) : l.getD i z ∈ l := by simp [List.getD, h]
theorem sE {α : Type} (l : List α) (z : α) (p : α → Bool) : (List.range l.length).all (fun i => p (l.getD i z)) = l.all p := by
 rw [Bool.eq_iff_iff, List.all_eq_true, List.all_eq_true]
 constructor
 ·intro h x hx
  obtain ⟨i, hi, rfl⟩ := List.getElem_of_mem hx
  have := h i (List.mem_range.2 hi)
  simpa [List.getD, hi] using this
 ·intro h i hi
  exact h _ (xL (List.mem_range.1 hi))
def stp {E : Type} (o : Option E) (i : Int) : Int ⊕ E := match o with
 | some e => .inr e
 | none => .inl i
theorem aIG {E : Type} {step : Int → Option (Int ⊕ E)} (n : Nat) (stop : Nat → Option E) (z : E) (h : ∀ i, i < n → step (i : Int) = some (stp (stop i) ((i : Int) + 1))) (h3 : step (n : Int) = some (.inr z)) : cX step 0 = some (((List.range n).findSome? stop).getD z) := by
 have key := nX (step := step) (I := fun d : Int => ∃ i : Nat, d = i ∧ i ≤ n) (fun d => (n - d).toNat) (fun d => ((List.range' d.toNat (n - d.toNat)).findSome? stop).getD z) (fun d hd => by
  obtain ⟨i, rfl, hi⟩ := hd
  simp only [Int.toNat_natCast]
  rcases Nat.lt_or_ge i n with hlt | hge
  ·have e : n - i = (n - (i + 1)) + 1 := by omega
   have hs := h i hlt
   cases ho : stop i with
   | none =>
    left
    refine ⟨(i : Int) + 1, by rw [hs, ho]; rfl, ⟨i + 1, by simp, hlt⟩, by omega, ?_⟩
    rw [e, List.range'_succ, List.findSome?_cons, ho]
    rfl
   | some v =>
    right
    rw [hs, ho, e, List.range'_succ, List.findSome?_cons, ho]
    rfl
  ·right
   obtain rfl : i = n := by omega
   rw [h3, Nat.sub_self]
   rfl) 0 ⟨0, rfl, Nat.zero_le _⟩
 rw [key, List.range_eq_range']
 rfl
theorem aP3 {E : Type} {n : Nat} {p : Nat → Bool} {e : E} : (List.range n).findSome? (fun i => bif p i then none else some e) = bif (List.range n).all p then none else some e := by
 generalize List.range n = l
 induction l with
 | nil => rfl
 | cons x r ih =>
  rw [List.findSome?_cons, List.all_cons, ih]
  cases p x <;> rfl
theorem rB {step : Int → Option (Int ⊕ (Unit ⊕ Bool))} (n : Nat) (p : Nat → Bool) (h1 : ∀ i, i < n → step (i : Int) = some (bif p i then .inl ((i : Int) + 1) else .inr (.inr false))) (h3 : step (n : Int) = some (.inr (.inl ()))) : cX step 0 = some (bif (List.range n).all p then .inl () else .inr false) := by
 rw [aIG n (fun i => bif p i then none else some (.inr false)) (.inl ()) (fun i hi => ?_) h3, aP3]
 ·cases (List.range n).all p <;> rfl
 ·rw [h1 i hi]
  cases p i <;> rfl
theorem aP4 {α : Type} (s : List α) (z : α) (p : α → Bool) : ∃ v, (((List.range s.length).findSome? (fun i => bif p (s.getD i z) then some (Sum.inr (i : Int)) else none)).getD (Sum.inl ()) : Unit ⊕ Int) = v ∧ ((v = .inl () ∧ s.any p = false) ∨ ∃ i : Nat, v = .inr (i : Int) ∧ s.any p = true) := by
 refine ⟨_, rfl, ?_⟩
 cases hf : (List.range s.length).findSome? (fun i => bif p (s.getD i z) then some (Sum.inr (i : Int) : Unit ⊕ Int) else none) with
 | none =>
  left
  refine ⟨rfl, ?_⟩
  rw [List.findSome?_eq_none_iff] at hf
  rw [List.any_eq_false]
  intro x hx
  obtain ⟨i, hi, rfl⟩ := List.getElem_of_mem hx
  have := hf i (List.mem_range.2 hi)
  intro hp
  rw [show s.getD i z = s[i] from by simp [List.getD, hi], hp] at this
  cases this
 | some v =>
  right
  obtain ⟨i, hi, hv⟩ := List.exists_of_findSome?_eq_some hf
  have hi := List.mem_range.1 hi
  cases hp : p (s.getD i z) with
  | false => rw [hp] at hv; cases hv
  | true =>
   rw [hp] at hv
   refine ⟨i, (Option.some.inj hv).symm, List.any_eq_true.2 ⟨_, xL hi, hp⟩⟩
theorem aFh {α : Type} (s : List α) (z : α) (p : α → Bool) (m : α → Option Bool) (hl : s.length ≤ 4611686018427387904) (hm : ∀ x ∈ s, m x = some (p x)) (step : Int → Option (Int ⊕ (Unit ⊕ Int)))
  (hs : ∀ x, step x = if x < (s.length : Int) then ck (0 ≤ x ∧ x < (s.length : Int)) ((m (s.getD x.toNat z)).bind (fun v => if v = true then some (.inr (.inr x)) else ck (I64 (x + 1)) (some (.inl (x + 1))))) else some (.inr (.inl ()))) :
  ∃ e, cX step 0 = some e ∧ ((e = .inl () ∧ s.any p = false) ∨ ∃ i : Nat, e = .inr (i : Int) ∧ s.any p = true) := by
 obtain ⟨v, hv, hq⟩ := aP4 s z p
 refine ⟨v, ?_, hq⟩
 rw [← hv]
 refine aIG _ _ _ (fun i hi => ?_) (by rw [hs, if_neg (by omega)])
 have h1 : (0 : Int) ≤ i ∧ (i : Int) < (s.length : Int) := by omega
 have h2 := hm _ (xL (z := z) hi)
 rw [hs, if_pos h1.2, xA h1, Int.toNat_natCast, h2, Option.bind_some]
 cases p (s.getD i z) with
 | true => rfl
 | false =>
  rw [if_neg (by decide), xA (by constructor <;> omega)]
  rfl
theorem aBd (a : Iv) (lm : LmI a) : oF a = some (aC2 a) := by
 unfold oF aC2
 rw [aA5, aA5, aP1 _ _ lm.1 lm.2]
 exact aC (fun _ => rfl) (aC (fun _ => rfl) rfl)
theorem aET (a : Iv) (lm : LmI a) : kB a = some (!aC2 a) := by
 unfold kB
 rw [aBd a lm]; rfl
theorem aH1 (a : Iv) (lm : LmI a) : nC a = some (!aC2 a) := by
 unfold nC
 rw [aBd a lm]; rfl
theorem aFi {α : Type} (s : List α) (p : α → Bool) : s.any (fun x => !p x) = !s.all p := by rw [List.any_eq_not_all_not]; simp
theorem aP5 (s : List Iv) (lm : ∀ a ∈ s, LmI a) (hl : s.length ≤ 4611686018427387904) : aT s () = some (!s.all aC2) := by
 obtain ⟨e, h1, h2⟩ := aFh s _ (fun a => !aC2 a) kB hl (fun a ha => aET a (lm a ha)) (bR s) (fun x => rfl)
 rw [aFi] at h2
 unfold aT bG
 rw [h1]
 rcases h2 with ⟨rfl, h2⟩ | ⟨i, rfl, h2⟩ <;> rw [h2] <;> simp
theorem aP6 (s : List Iv) (lm : ∀ a ∈ s, LmI a) (hl : s.length ≤ 4611686018427387904) : aW s () = some (!s.all aC2) := by
 obtain ⟨e, h1, h2⟩ := aFh s _ (fun a => !aC2 a) nC hl (fun a ha => aH1 a (lm a ha)) (bZ s) (fun x => rfl)
 rw [aFi] at h2
 unfold aW bI
 rw [h1]
 rcases h2 with ⟨rfl, h2⟩ | ⟨i, rfl, h2⟩ <;> rw [h2] <;> simp
theorem aLd (t : Tb) (lm : LmT t) : sD t = some (aMc t) := by
 unfold sD
 refine aC (fun h => by constructor <;> omega) ?_
 by_cases h : 1 ≤ t.2.1.length ∧ t.2.1.length ≤ 256 ∧ t.1.length = t.2.1.length + 1
 ·rw [if_neg (by omega)]
  have hc := aP6 t.2.1 lm.2 (by omega)
  have hlp : cX (fun d : Int => nP t d) 0 = some (bif (List.range t.1.length).all (stepT t.1) then .inl () else .inr false) := by
   refine rB t.1.length (stepT t.1) (fun i hi => ?_) (by unfold nP; rw [if_neg (by omega)])
   have h1 := lm.1 _ (xL (z := (d0 : Dy)) hi)
   have hi1 : i - 1 < t.1.length := by omega
   have h2 := lm.1 _ (xL (z := (d0 : Dy)) hi1)
   have e1 : ((i : Int) - 1).toNat = i - 1 := by omega
   unfold nP
   rw [if_pos (by omega)]
   refine aC (by constructor <;> omega) (bB (aA5 _) ?_)
   rw [Int.toNat_natCast, e1]
   have hcmp := aP1 _ _ h2 h1
   refine aC (fun _ _ => by constructor <;> omega) (aC (fun _ _ => by constructor <;> omega) (aC (fun _ _ => by rw [show ((false, [], (0 : Int), ()) : Dy) = d0 from rfl, hcmp]; rfl) ?_))
   rw [show ((false, [], (0 : Int), ()) : Dy) = d0 from rfl, hcmp, Option.getD_some]
   have hI : I64 ((i : Int) + 1) := by constructor <;> omega
   unfold stepT
   generalize aP0 (t.1.getD (i - 1) d0) (t.1.getD i d0) = c
   cases oW (t.1.getD i d0) with
   | false => rw [if_pos (by simp)]; rfl
   | true =>
    by_cases h0 : i = 0
    ·rw [if_neg (by simp; omega), xA hI]; simp [h0]
    ·by_cases hq : c < 0
     ·rw [if_neg (by simp; omega), xA hI]; simp [hq]
     ·rw [if_pos (by simp; omega)]; simp [hq, h0]
  rw [hlp]
  unfold aMc
  rw [decide_eq_true h]
  cases (List.range t.1.length).all (stepT t.1) with
  | false => rfl
  | true =>
   show (aW t.2.1 ()).bind _ = _
   rw [hc]; simp
 ·rw [if_pos (by omega)]
  unfold aMc
  rw [decide_eq_false h]; rfl
theorem aC3 (t : Tb) (lm : LmT t) : gK t = some (!aMc t) := by
 unfold gK
 rw [aLd t lm]; rfl
theorem aP7 (s : List Tb) (lm : ∀ a ∈ s, LmT a) (hl : s.length ≤ 4611686018427387904) : aS s () = some (!s.all aMc) := by
 obtain ⟨e, h1, h2⟩ := aFh s _ (fun a => !aMc a) gK hl (fun a ha => aC3 a (lm a ha)) (bM s) (fun x => rfl)
 rw [aFi] at h2
 unfold aS bE
 rw [h1]
 rcases h2 with ⟨rfl, h2⟩ | ⟨i, rfl, h2⟩ <;> rw [h2] <;> simp
theorem aEU (l : List Tb) (lm : ∀ a ∈ l, LmT a) : kF l = some (!aP2 l) := by
 unfold kF aP2
 by_cases h : l.length ≤ 64
 ·rw [aP7 l lm (by omega)]
  refine aC (fun _ => rfl) ?_
  rw [decide_eq_false (by omega), decide_eq_true h]; simp
 ·refine aC (fun hh => absurd (by omega) hh) ?_
  rw [decide_eq_true (by omega), decide_eq_false h]; simp
theorem aP8 (s : List (List Tb)) (lm : ∀ l ∈ s, ∀ a ∈ l, LmT a) (hl : s.length ≤ 4611686018427387904) : aU s () = some (!s.all aP2) := by
 obtain ⟨e, h1, h2⟩ := aFh s _ (fun a => !aP2 a) kF hl (fun a ha => aEU a (lm a ha)) (bT s) (fun x => rfl)
 rw [aFi] at h2
 unfold aU bH
 rw [h1]
 rcases h2 with ⟨rfl, h2⟩ | ⟨i, rfl, h2⟩ <;> rw [h2] <;> simp
theorem aH2 (r : Rec) (lm : LmR r) : nD r = some (tQ r) := by
 unfold nD
 rw [aA5, aA5]
 refine aC (fun _ => rfl) (aC (fun _ => rfl) ?_)
 rw [Option.getD_some, Option.getD_some]
 cases hh : aIF r with
 | false =>
  rw [if_pos]
  ·unfold tQ; rw [hh]; rfl
  ·unfold aIF at hh
   simp only [Bool.and_eq_false_iff, decide_eq_false_iff_not] at hh
   rcases hh with ((hh | hh) | hh) | hh
   ·omega
   ·rw [hh]; simp
   ·rw [hh]; simp
   ·omega
 | true =>
  have hh' := hh
  unfold aIF at hh'
  simp only [Bool.and_eq_true, decide_eq_true_eq] at hh'
  obtain ⟨⟨⟨q1, q2⟩, q3⟩, q4⟩ := hh'
  rw [if_neg (by rw [q2, q3]; simp; omega)]
  have hlp : cX (fun d : Int => kR r d) 0 = some (bif (List.range r.2.2.2.2.2.1.length).all (fun i => aMd (r.2.2.2.2.2.1.getD i [])) then .inl () else .inr false) := by
   refine rB r.2.2.2.2.2.1.length _ (fun i hi => ?_) (by unfold kR; rw [if_neg (by omega)])
   have hm := xL (z := ([] : List Iv)) hi
   unfold kR
   rw [if_pos (by omega)]
   refine aC (by constructor <;> omega) ?_
   rw [Int.toNat_natCast]
   have hI : I64 ((i : Int) + 1) := by constructor <;> omega
   generalize r.2.2.2.2.2.1.getD i [] = b at hm ⊢
   unfold aMd
   by_cases h : b.length ≤ 64
   ·rw [aP5 b (lm.2.2.1 b hm) (by omega)]
    refine aC (fun _ => rfl) ?_
    rw [decide_eq_true h, Option.getD_some]
    cases b.all aC2 with
    | true => rw [if_neg (by simp; omega), xA hI]; rfl
    | false => rw [if_pos (by simp)]; rfl
   ·refine aC (fun hx => absurd (by omega) hx) ?_
    rw [if_pos (.inl (by omega)), decide_eq_false h]; rfl
  rw [hlp, sE]
  unfold tQ
  rw [hh]
  cases r.2.2.2.2.2.1.all aMd with
  | false => rfl
  | true =>
   show (aU r.2.2.2.2.2.2.1 ()).bind _ = _
   rw [aP8 _ lm.2.2.2 (by omega)]; simp
end Nu
end Go.Proofs
namespace Go.Proofs
open Go.Shelf
def Tryd.lays156_ren : Go.Shelf.Ren := ⟨fun | 156 => 17 | 165 => 38 | 166 => 18 | 169 => 19 | 240 => 39 | 241 => 57 | 276 => 58 | 277 => 73 | n => n, fun | 31 => 48 | 9 => 9 | 3 => 3 | 4 => 4 | 0 => 0 | 20 => 20 | 72 => 59 | 76 => 62 | 70 => 56 | 37 => 57 | 75 => 61 | 127 => 77 | 164 => 96 | 5 => 5 | 80 => 64 | n => n, fun | n => n⟩
theorem Tryd.lays156 : Go.Proofs.Lays.n156 Tryd.prog Tryd.lays156_ren := {
 mixed := by kernel_rfl
 f156 := Tryd.func17.trans (congrArg some (by kernel_rfl))
 f165 := Tryd.func38.trans (congrArg some (by kernel_rfl))
 f166 := Tryd.func18.trans (congrArg some (by kernel_rfl))
 f169 := Tryd.func19.trans (congrArg some (by kernel_rfl))
 f240 := Tryd.func39.trans (congrArg some (by kernel_rfl))
 f241 := Tryd.func57.trans (congrArg some (by kernel_rfl))
 f276 := Tryd.func58.trans (congrArg some (by kernel_rfl))
 f277 := Tryd.func73.trans (congrArg some (by kernel_rfl))
 t0 := Tryd.underlying0
 a0 := Tryd.isAgg0
 z0 := Tryd.sizeOf0
 v0 := Tryd.zeroValue0
 t3 := Tryd.underlying3
 a3 := Tryd.isAgg3
 z3 := Tryd.sizeOf3
 v3 := Tryd.zeroValue3
 t4 := Tryd.underlying4
 a4 := Tryd.isAgg4
 z4 := Tryd.sizeOf4
 v4 := Tryd.zeroValue4
 t9 := Tryd.underlying9
 a9 := Tryd.isAgg9
 z9 := Tryd.sizeOf9
 v9 := Tryd.zeroValue9
 t20 := Tryd.underlying20
 a20 := Tryd.isAgg20
 z20 := Tryd.sizeOf20
 v20 := Tryd.zeroValue20
 t31 := Tryd.underlying48
 a31 := Tryd.isAgg48
 z31 := Tryd.sizeOf48
 v31 := Tryd.zeroValue48
 t37 := Tryd.underlying57
 a37 := Tryd.isAgg57
 z37 := Tryd.sizeOf57
 v37 := Tryd.zeroValue57
 t70 := Tryd.underlying56
 a70 := Tryd.isAgg56
 z70 := Tryd.sizeOf56
 v70 := Tryd.zeroValue56
 t72 := Tryd.underlying59
 a72 := Tryd.isAgg59
 z72 := Tryd.sizeOf59
 v72 := Tryd.zeroValue59
 t75 := Tryd.underlying61
 a75 := Tryd.isAgg61
 z75 := Tryd.sizeOf61
 v75 := Tryd.zeroValue61
 t76 := Tryd.underlying62
 a76 := Tryd.isAgg62
 z76 := Tryd.sizeOf62
 v76 := Tryd.zeroValue62
 t127 := Tryd.underlying77
 a127 := Tryd.isAgg77
 z127 := Tryd.sizeOf77
 v127 := Tryd.zeroValue77
 t164 := Tryd.underlying96
 a164 := Tryd.isAgg96
 z164 := Tryd.sizeOf96
 v164 := Tryd.zeroValue96 }
theorem Tryd.bx156 : Builder.Extra Tryd.prog Tryd.lays156_ren where
 sizeBuilder := by kernel_rfl
 liesBuilder := by kernel_rfl
 t5 := Tryd.underlying5
 a5 := Tryd.isAgg5
 z5 := Tryd.sizeOf5
 v5 := Tryd.zeroValue5
 infoByte := by kernel_rfl
 cellsByte := by kernel_rfl
 sizeByte := by kernel_rfl
 neB5 := by decide
open Go.Vc
set_option maxRecDepth 20000
namespace Nu
noncomputable def jF (o : Bool × List Nat) : Option (Bool × List Nat) := some (false, o.2)
noncomputable def iO : vK where
 D := (Bool × (List Nat)) × ((Bool × (List Nat)))
 av := fun d => [.ptr 0 []]
 hp := fun d => [.box 4294967355 (.agg [pk (d.1.1) 0, .own 1]), .row 5 (.u .u8) (d.1.2)]
 m := 1
 pre := fun d => jF d.1 = some d.2
 out := fun d => (fun r : (Bool × (List Nat)) => .ret (.tup []) [.box 4294967355 (.agg [pk ((r).1) 0, .own 1]), .row 5 (.u .u8) ((r).2)]) d.2
attribute [go_sem] iO
noncomputable def gT (o : Bool × List Nat) : Option (List Nat) := some o.2
noncomputable def gH : vK where
 D := (Bool × (List Nat)) × ((List Nat))
 av := fun d => [.ptr 0 []]
 hp := fun d => [.box 4294967355 (.agg [pk (d.1.1) 0, .own 1]), .row 5 (.u .u8) (d.1.2)]
 m := 1
 pre := fun d => gT d.1 = some d.2
 out := fun d => (fun r : (List Nat) => .ret (.val .str r) [.dead]) d.2
attribute [go_sem] gH
theorem aLe {b : Nat} {c : Ctx} {w : World} {vs : Array Value} (hl : vs.toList.length = 1) (hb : c.hd 0 = .pointer (some ⟨b, 0, none⟩)) (hv : ∀ (h2 : 0 < vs.toList.length), aM c w (.ptr 0 []) vs.toList[0]) : vs = #[.pointer (some ⟨b, 0, none⟩)] := by
 obtain ⟨_, b', hb', e⟩ := wC (hv (by omega))
 rw [hb] at hb'
 simp only [aP, Option.some.injEq] at hb'
 subst hb'
 rw [← Array.toList_inj]
 refine List.ext_getElem hl fun i a1 a2 => ?_
 match i, a2 with
 | 0, _ => exact e
theorem tR : GOK Tryd.prog GL 39 iO := by
 rintro c w ⟨⟨b, xs⟩, r⟩ vs hpre ⟨good, glob, len, val⟩
 obtain rfl : (false, xs) = r := Option.some.inj hpre
 obtain ⟨B, q1, q2, q3⟩ := aF6 good (i := 0) (j := 1) (tb := 59) rfl rfl
 have hvs := aLe len q1 (fun h2 => val 0 (by show 0 < 1; decide) h2)
 rw [hvs]
 have hr : aM c w (.tup []) (.tuple #[]) := ⟨[], rfl, rfl, fun i h1 _ => by cases h1⟩
 cases b with
 | true =>
  refine Calls.mono (f := 39) (Any.Builder_copyCheck_fresh { Tryd.lays156 with } Tryd.bx156.toX72 B w (by rw [Lib.cell_of_heap q2]; rfl) (by simp [World.shape?, q2]; rfl) (Lib.frozen_of_heap q2 0)) ?_
  rintro e w' ⟨rfl, rfl⟩
  exact ⟨c, .tuple #[], rfl, aPl good (i := 0) (j := 1) (tb := 59) rfl rfl q1, ⟨[], rfl, rfl, fun i h1 _ => by cases h1⟩⟩
 | false =>
  refine Calls.mono (f := 39) (Any.Builder_copyCheck_used { Tryd.lays156 with } Tryd.bx156.toX72 B w (by rw [Lib.cell_of_heap q2]; rfl)) ?_
  rintro e w' ⟨rfl, rfl⟩
  exact ⟨c, .tuple #[], rfl, good, hr⟩
theorem wA : GOK Tryd.prog GL 19 gH := by
 rintro c w ⟨⟨b, xs⟩, r⟩ vs hpre ⟨good, glob, len, val⟩
 obtain rfl : xs = r := Option.some.inj hpre
 obtain ⟨B, q1, q2, q3⟩ := aF6 good (i := 0) (j := 1) (tb := 59) rfl rfl
 have hvs := aLe len q1 (fun h2 => val 0 (by show 0 < 1; decide) h2)
 rw [hvs]
 obtain ⟨l, hx, hl⟩ := aNO q3
 have hlm : l.length ≤ maxLen := by
  rcases hl with ⟨_, rfl⟩ | ⟨g, cap, cur, _, _, h1, h2, _⟩
  ·exact Nat.zero_le _
  ·exact Nat.le_trans h1 h2
 have hfin : ∀ (g : Option Nat) (w' : World), (∀ b', g = some b' → aP (c.hd 1) = some b') → w.grownBy w' g → aOP gH c w ((b, xs), xs) (.returned (.string ⟨l.toArray⟩)) w' := fun g w' hg hgr => by
  refine ⟨⟨c.S, c.hd, 1⟩, .string ⟨l.toArray⟩, rfl, aPm good (i := 0) (j := 1) rfl rfl rfl hgr hg, ?_, (fun h => by cases h), fun _ cs => by simp⟩
  show aQ w' c.S .str xs [.string ⟨l.toArray⟩]
  exact ⟨_, rfl, (by simp only [aX]; exact hx.symm), hlm⟩
 rcases hl with ⟨e1, rfl⟩ | ⟨g, cap, cur, e1, hg, hnc, hcm, hcs, hcell⟩
 ·rw [e1] at q2
  refine Calls.mono (f := 19) (aLL { Tryd.lays156 with } Tryd.bx156 B _ w q2) ?_
  rintro e w' ⟨rfl, hgr⟩
  exact hfin _ _ (fun _ h => by cases h) hgr
 ·rw [e1] at q2
  by_cases h0 : l = []
  ·subst h0
   by_cases hc0 : cap = 0
   ·subst hc0
    refine Calls.mono (f := 19) (aG4 { Tryd.lays156 with } Tryd.bx156 B g _ cur w q2 hg) ?_
    rintro e w' ⟨rfl, hgr⟩
    exact hfin _ _ (fun _ h => by cases h) hgr
   ·refine Calls.mono (f := 19) (aKy { Tryd.lays156 with } Tryd.bx156 B g cap _ w hc0 q2) ?_
    rintro e w' ⟨rfl, hgr⟩
    exact hfin _ _ (fun _ h => by cases h) hgr
  ·refine Calls.mono (f := 19) (aKx { Tryd.lays156 with } Tryd.bx156 B g cap _ cur l w h0 q2 hg hnc hcm hcs hcell) ?_
   rintro e w' ⟨rfl, hgr⟩
   exact hfin _ _ (fun b' h => by cases h; rw [e1]; rfl) hgr
def qA (xs : List (List Nat)) (sep : List Nat) : List Nat := sep.intercalate xs
def aNo (xs : List (List Nat)) (sep : List Nat) : Prop := xs.length ≤ 140737488355328 ∧ (qA xs sep).length ≤ 140737488355328
instance (xs : List (List Nat)) (sep : List Nat) : Decidable (aNo xs sep) := by unfold aNo; infer_instance
theorem aIH {s : ByteArray} {x : List Nat} (h : aX s = x) : s.data.toList = x.map UInt8.ofNat := by
 subst h
 simp [aX, List.map_map, Function.comp_def]
theorem aLf {α β : Type} (f : α → β) (sep : List α) : ∀ xs : List (List α), (sep.intercalate xs).map f = (sep.map f).intercalate (xs.map (List.map f))
 | [] => rfl
 | [x] => by simp [List.intercalate]
 | x :: y :: r => by
  have := aLf f sep (y :: r)
  simp only [List.intercalate, List.intersperse, List.flatten_cons, List.map_append, List.map_cons] at this ⊢
  rw [this]
def aBe : Ty := .pair (.sl .str) (.pair .str .unit)
noncomputable def pG : aJ := ⟨aBe, .one .str, fun x => aNo x.1 x.2.1, fun x => qA x.1 x.2.1⟩
attribute [go_sem] pG aBe
theorem aEV : FOK Tryd.prog GL 17 pG := by
 rintro w S vs ⟨xs, sep, u⟩ hS hG ⟨v, vs', e1, h1, v2, vs2, e2, h2, e3⟩ ⟨p1, p2⟩
 have h1 : aQ w S (.sl .str) xs [v] := h1
 obtain ⟨a, len, cap, ev, hl, hlc, hcm, hr⟩ := h1
 have h2 : aQ w S .str sep [v2] := h2
 obtain ⟨s, es, hs, hsz⟩ := h2
 have hl : xs.length = len := hl
 have e3 : vs2 = [] := e3
 have hvs : vs = #[.slice a len cap, .string s] := by
  rw [← Array.toList_inj, e1, e2, e3, (List.cons.inj ev).1, (List.cons.inj es).1]
 rw [hvs]
 have hres : ∀ (t : List UInt8) (w' : World), t.map (·.toNat) = qA xs sep → cF w' (fun b => S b ∨ (w.heap.size ≤ b ∧ b < w'.heap.size)) .str (qA xs sep) (.string ⟨t.toArray⟩) := fun t w' ht => by
  show aQ w' (fun b => S b ∨ (w.heap.size ≤ b ∧ b < w'.heap.size)) .str (qA xs sep) [.string ⟨t.toArray⟩]
  refine ⟨_, rfl, by simp [aX, ht], ?_⟩
  have : t.length = (qA xs sep).length := by rw [← ht, List.length_map]
  have hp : (qA xs sep).length ≤ 140737488355328 := p2
  show t.length ≤ maxLen
  unfold maxLen
  omega
 rcases hr with hr | ⟨b, off, ea, hb, hc⟩
 ·have hr : xs = [] := hr
  subst hr
  have hl0 : len = 0 := hl.symm
  subst hl0
  refine Calls.mono (f := 17) (Any.strings_Join_none Tryd.lays156 Tryd.bx156 a cap s w) ?_
  rintro e w' ⟨rfl, rfl⟩
  exact ⟨.string ⟨#[]⟩, rfl, .refl _ _, hres [] w' rfl⟩
 ·have ex : xs = (xs.map (fun l => (⟨(l.map UInt8.ofNat).toArray⟩ : ByteArray))).map aX := by
   rw [List.map_map]
   apply List.ext_getElem
   ·simp
   ·intro i h1 h2
    obtain ⟨ds, hd, _⟩ := hc i h1
    obtain ⟨s', _, hs', _⟩ := hd
    have hb := aIH hs'
    simp only [List.getElem_map, Function.comp]
    show xs[i] = List.map _ ((xs[i]).map UInt8.ofNat)
    rw [← hb]; exact hs'.symm
  subst ea
  have hcells : ∀ (j : Nat) x, (xs.map (fun l => (⟨(l.map UInt8.ofNat).toArray⟩ : ByteArray)))[j]? = some x → w.cell? ⟨b, off + j, none⟩ = some (.string x) := fun j x hx => by
   have hj : j < xs.length := by
    rcases Nat.lt_or_ge j xs.length with h | h
    ·exact h
    ·rw [List.getElem?_eq_none (by simpa using h)] at hx; cases hx
   obtain ⟨ds, hd, hcell⟩ := hc j hj
   obtain ⟨s', hds, hs', _⟩ := hd
   have hds : ds = [.string s'] := hds
   have := hcell 0 (.string s') (by rw [hds]; rfl)
   rw [List.getElem?_map, List.getElem?_eq_getElem hj] at hx
   have hx : (⟨((xs[j]).map UInt8.ofNat).toArray⟩ : ByteArray) = x := Option.some.inj hx
   rw [← hx, ← aIH hs']
   simpa [Ty.cells] using this
  have hsd : s.data.toList.map (·.toNat) = sep := hs
  have hj : (Lib.join ((xs.map (fun l => (⟨(l.map UInt8.ofNat).toArray⟩ : ByteArray))).map (·.data.toList)) s.data.toList).map (·.toNat) = qA xs sep := by
   unfold Lib.join qA
   rw [aLf, hsd]
   congr 1
   conv => rhs; rw [ex]
   simp only [List.map_map]
   rfl
  have key := Any.strings_Join Tryd.lays156 Tryd.bx156 b off cap (xs.map (fun l => (⟨(l.map UInt8.ofNat).toArray⟩ : ByteArray))) s w hcells (hS b hb) (by rw [List.length_map]; exact p1) (by rw [List.length_map, hl]; exact hlc) (by
   have := congrArg List.length hj
   rw [List.length_map] at this
   rw [this]; exact p2)
  rw [List.length_map, hl] at key
  refine Calls.mono (f := 17) key ?_
  rintro e w' ⟨rfl, hbel⟩
  exact ⟨_, rfl, fA.of_below hbel, hres _ w' hj⟩
end Nu
end Go.Proofs
namespace Go.Proofs
open Go.Vc
set_option maxRecDepth 20000
namespace Nu
noncomputable def fT (i_0 : Int) (u_5 : Nat) : Option ((List Nat)) :=
 ck (((aI u_5).isSome = true)) (ck (I64 ((1 : Int) + ((aI u_5).getD (0 : Int)))) (ck ((1 : Int) < ((1 : Int) + ((aI u_5).getD (0 : Int))) ∧ ((1 : Int) + ((aI u_5).getD (0 : Int))) ≤ 24) (((cJ (1 : Nat) ((((1 : Int) + ((aI u_5).getD (0 : Int))) - (1 : Int)).toNat) u_5 (List.replicate 24 (0 : Nat)))).bind (fun r_7 => if i_0 < (0 : Int) then ck (I64 ((1 : Int) + ((aI u_5).getD (0 : Int)))) (ck ((0 : Int) < ((1 : Int) + ((aI u_5).getD (0 : Int))) ∧ ((1 : Int) + ((aI u_5).getD (0 : Int))) ≤ 24) (ck ((0 : Nat) + ((((1 : Int) + ((aI u_5).getD (0 : Int))) - (0 : Int)).toNat) ≤ 24) (some (List.take ((((1 : Int) + ((aI u_5).getD (0 : Int))) - (0 : Int)).toNat) (List.drop (0 : Nat) (r_7.set (0 : Nat) (45 : Nat))))))) else ck (I64 ((1 : Int) + ((aI u_5).getD (0 : Int)))) (ck ((1 : Int) < ((1 : Int) + ((aI u_5).getD (0 : Int))) ∧ ((1 : Int) + ((aI u_5).getD (0 : Int))) ≤ 24) (ck ((1 : Nat) + ((((1 : Int) + ((aI u_5).getD (0 : Int))) - (1 : Int)).toNat) ≤ 24) (some (List.take ((((1 : Int) + ((aI u_5).getD (0 : Int))) - (1 : Int)).toNat) (List.drop (1 : Nat) r_7)))))))))
noncomputable def gV (i_0 : Int) (base_1 : Int) : Option (List Nat) :=
 if base_1 = (10 : Int) then if ((0 : Int) ≤ i_0) ∧ (i_0 < (100 : Int)) then ck (((eS i_0).isSome = true)) (some ((eS i_0).getD ([] : List Nat))) else if i_0 < (0 : Int) then fT i_0 (aGY .u64 ((i_0 % (18446744073709551616 : Int)).toNat)) else fT i_0 ((i_0 % (18446744073709551616 : Int)).toNat) else none
def lB : Ty := .pair (.i .i64) (.pair (.i .i64) .unit)
attribute [go_sem] lB
noncomputable def kM : aJ := mSpec lB (.one .str) (fun x => gV x.1 x.2.1)
noncomputable def lC : List (FuncId × aJ) := [(61, iB), (62, fG)]
theorem tK : cB Tryd.prog GL lC := .cons wQ (by kernel_rfl) (.cons rM (by kernel_rfl) (.nil))
theorem yJ : gam lC 61 = some iB := rfl
attribute [go_sem] yJ
theorem yK : gam lC 62 = some fG := rfl
attribute [go_sem] yK
set_option maxHeartbeats 4000000 in
theorem aAo : FOK Tryd.prog GL 46 kM := by
 refine rY (bW tK) Tryd.func46 rfl (by kernel_rfl) (by decide) fun w0 S x r hw h => ?_
 have hF : rD (fr Tryd.prog (EM lC) S w0 Tryd.f46.ntmps) := ⟨bW tK, mix⟩
 obtain ⟨(i_0 : Int), (base_1 : Int), u⟩ := x
 simp only [lB, Ty.wf, rS] at hw
 simp only [cH, lB]
 try dsimp only at h
 unfold gV at h
 refine aE (aD hF [0, 1] ?_)
 simp only [go_sem]
 refine aF (aE (aE (aD hF [0, 1, 11] ?_)))
 simp only [go_sem]
 refine aF (bK rfl (fun hc => ?_) (fun hc => ?_))
 ·try simp only [go_sem] at hc
  have h := fP (by first | exact hc | omega | (simpa using hc) | (simp at hc ⊢; omega)) h
  refine aE (aE (aD hF [0, 17] ?_))
  simp only [go_sem]
  refine aF (bK rfl (fun hc => ?_) (fun hc => ?_))
  ·try simp only [go_sem] at hc
   have h := fP (by first | exact hc | omega | (simpa using hc) | (simp at hc ⊢; omega)) h
   refine aE (aD hF [4] ?_)
   simp only [go_sem]
   obtain ⟨g0, h⟩ := aH h
   repeat (refine ⟨by first | with_reducible assumption | omega | (intros; first | assumption | omega) | (simp only [go_sem] at *; first | assumption | omega) | decide, ?_⟩)
   obtain rfl := Option.some.inj h
   refine aF (eP (bV (bV (fW hF [.tmp 4] rfl rfl rfl ?_))))
   (try simp only [lZ, aZ, go_sem]) <;> first | rfl | (simp; done)
  ·try simp only [go_sem] at hc
   have h := fQ (by first | exact hc | omega | (simpa using hc) | (simp at hc ⊢; omega)) h
   refine cG (aF (aE (cD hF [0, 5] ?_)))
   simp only [go_sem]
   refine aF (aE (aD hF [0, 5, 6] ?_))
   simp only [go_sem]
   refine aF (nL (D := Nat) (fun d => fT i_0 d = some r) [0] (fun d => [(5, .ptr 0 []), (6, .val (.u .u64) d)]) (fun d => [.inr (.box 24 (.val (.arr 24 (.u .u8)) (List.replicate 24 (0 : Nat))))]) ?_ ?_)
   ·refine aE (aD hF [0, 5, 6, 23] ?_)
    simp only [go_sem]
    refine aF (bK rfl (fun hc => ?_) (fun hc => ?_))
    ·try simp only [go_sem] at hc
     have h := fP (by first | exact hc | omega | (simpa using hc) | (simp at hc ⊢; omega)) h
     refine aD hF [0, 5, 6] ?_
     simp only [go_sem]
     refine bC (aY ((aGY .u64 ((i_0 % (18446744073709551616 : Int)).toNat))) h rfl ?_)
     ·(try simp only [kW, gY, true_or, and_self, go_sem]) <;> (repeat' apply And.intro) <;> first | rfl | (left; rfl) | (right; rfl) | (left; simp only [go_sem]; done) | (right; simp only [go_sem]; done) | (simp; done) | (simp only [*]; done) | omega
    ·try simp only [go_sem] at hc
     have h := fQ (by first | exact hc | omega | (simpa using hc) | (simp at hc ⊢; omega)) h
     refine cG (bC (aY (((i_0 % (18446744073709551616 : Int)).toNat)) h rfl ?_))
     ·(try simp only [kW, gY, true_or, and_self, go_sem]) <;> (repeat' apply And.intro) <;> first | rfl | (left; rfl) | (right; rfl) | (left; simp only [go_sem]; done) | (right; simp only [go_sem]; done) | (simp; done) | (simp only [*]; done) | omega
   ·rintro u_5 h
    try dsimp only at h
    simp only [go_sem]
    unfold fT at h
    refine aE (aD hF [0, 5, 6, 7] ?_)
    simp only [go_sem]
    obtain ⟨g0, h⟩ := aH h
    repeat (refine ⟨by first | with_reducible assumption | omega | (intros; first | assumption | omega) | (simp only [go_sem] at *; first | assumption | omega) | decide, ?_⟩)
    obtain ⟨g0, h⟩ := aH h
    try simp only [I64, I32] at g0
    obtain ⟨g1, h⟩ := aH h
    obtain ⟨r_7, he1, h⟩ := bind_some h
    try dsimp only at h
    refine aF (aE (dL hF (iW (l := [(63, ⟨gQ, [0], ((1 : Nat), ((((1 : Int) + ((aI u_5).getD (0 : Int))) - (1 : Int)).toNat), u_5, (List.replicate 24 (0 : Nat)), r_7)⟩)]) (.cons pA (by kernel_rfl) (.nil))) [0, 5, 7] [30] ?_))
    simp only [go_sem]
    repeat (refine ⟨by first | with_reducible assumption | omega | (intros; first | assumption | omega) | (simp only [go_sem] at *; first | assumption | omega) | decide, ?_⟩)
    refine aF (aE (aE (aD hF [5, 7, 34] ?_)))
    simp only [go_sem]
    refine aF (bK rfl (fun hc => ?_) (fun hc => ?_))
    ·try simp only [go_sem] at hc
     have h := fP (by first | exact hc | omega | (simpa using hc) | (simp at hc ⊢; omega)) h
     refine aE (cD hF [5, 7] ?_)
     simp only [go_sem]
     obtain ⟨g0, h⟩ := aH h
     try simp only [I64, I32] at g0
     obtain ⟨g1, h⟩ := aH h
     obtain ⟨g2, h⟩ := aH h
     refine aF (aE (dL hF (iW (l := []) (.nil)) [4] [38] ?_))
     simp only [go_sem]
     repeat (refine ⟨by first | with_reducible assumption | omega | (intros; first | assumption | omega) | (simp only [go_sem] at *; first | assumption | omega) | decide, ?_⟩)
     obtain rfl := Option.some.inj h
     refine aF (eP (bV (bV (fW hF [.tmp 4] rfl rfl rfl ?_))))
     (try simp only [lZ, aZ, go_sem]) <;> first | rfl | (simp; done)
    ·try simp only [go_sem] at hc
     have h := fQ (by first | exact hc | omega | (simpa using hc) | (simp at hc ⊢; omega)) h
     obtain ⟨g0, h⟩ := aH h
     try simp only [I64, I32] at g0
     obtain ⟨g1, h⟩ := aH h
     obtain ⟨g2, h⟩ := aH h
     refine cG (aF (aE (dL hF (iW (l := []) (.nil)) [4] [42] ?_)))
     simp only [go_sem]
     repeat (refine ⟨by first | with_reducible assumption | omega | (intros; first | assumption | omega) | (simp only [go_sem] at *; first | assumption | omega) | decide, ?_⟩)
     obtain rfl := Option.some.inj h
     refine aF (eP (bV (fW hF [.tmp 4] rfl rfl rfl ?_)))
     (try simp only [lZ, aZ, go_sem]) <;> first | rfl | (simp; done)
 ·try simp only [go_sem] at hc
  have h := fQ (by first | exact hc | omega | (simpa using hc) | (simp at hc ⊢; omega)) h
  cases h
attribute [go_sem] kM
noncomputable def nK (i_0 : Int) : Option (List Nat) :=
 (gV i_0 (10 : Int)).bind (fun v_5 => some v_5)
def yL : PlR := ⟨[(0, .A [0]), (1, .A [2])], []⟩
def aAa : Ty := .pair (.i .i64) .unit
noncomputable def oQ : aJ := mSpec aAa (.one .str) (fun x => nK x.1)
noncomputable def aAb : List (FuncId × aJ) := [(46, kM)]
theorem aEW : cB Tryd.prog GL aAb := .cons aAo (by kernel_rfl) (.nil)
theorem aCg : gam aAb 46 = some kM := rfl
attribute [go_sem] aAa yL aCg
set_option maxHeartbeats 4000000 in
theorem aDE : FOK Tryd.prog GL 29 oQ := by
 refine cE (bW aEW) mix Tryd.func29 rfl (by kernel_rfl) (by decide) yL fun w0 S x Θ hw h hF => ?_
 obtain ⟨(i_0 : Int), u⟩ := x
 simp only [cH, go_sem]
 replace h : sat (nK i_0) _ := h
 unfold nK at h
 obtain ⟨v_5, hv, h⟩ := cI h
 try simp only [hv, go_sem]
 exact aK hF [.tmp 2] rfl rfl rfl (aB h) (by simp only [aZ, go_sem])
attribute [go_sem] oQ
noncomputable def gW (i_0 : Int) : Option (List Nat) :=
 (nK i_0).bind (fun v_5 => some v_5)
def aAc : PlR := ⟨[(0, .A [0]), (1, .A [2])], []⟩
def aBf : Ty := .pair (.i .i64) .unit
noncomputable def pH : aJ := mSpec aBf (.one .str) (fun x => gW x.1)
noncomputable def aBg : List (FuncId × aJ) := [(29, oQ)]
theorem aGP : cB Tryd.prog GL aBg := .cons aDE (by kernel_rfl) (.nil)
theorem aC4 : gam aBg 29 = some oQ := rfl
attribute [go_sem] aBf aAc aC4
set_option maxHeartbeats 4000000 in
theorem aEX : FOK Tryd.prog GL 14 pH := by
 refine cE (bW aGP) mix Tryd.func14 rfl (by kernel_rfl) (by decide) aAc fun w0 S x Θ hw h hF => ?_
 obtain ⟨(i_0 : Int), u⟩ := x
 simp only [cH, go_sem]
 replace h : sat (gW i_0) _ := h
 unfold gW at h
 obtain ⟨v_5, hv, h⟩ := cI h
 try simp only [hv, go_sem]
 exact aK hF [.tmp 2] rfl rfl rfl (aB h) (by simp only [aZ, go_sem])
attribute [go_sem] pH
noncomputable def fL (s_0 : (List Nat)) (e_1 : Int) (o0_4 : Int) (o1_5 : (List (List Nat))) : Option ((Int × (List (List Nat)))) :=
 if o0_4 = (0 : Int) then ck (((o1_5.length) + (1 : Nat)) * 16 ≤ 140737488355328) (some (e_1, (o1_5 ++ ([s_0] : List (List Nat))))) else ck (((o1_5.length) + (1 : Nat)) * 16 ≤ 140737488355328) (some (o0_4, (o1_5 ++ ([s_0] : List (List Nat)))))
noncomputable def gL : vK where
 D := (List Nat) × Int × Int × (List (List Nat)) × ((Int × (List (List Nat))))
 av := fun d => [.val .str d.1, .val (.i .i64) d.2.1, .ptr 0 [], .ptr 1 []]
 hp := fun d => [.box 1 (.val (.i .i64) d.2.2.1), .box 1 (.own 2), .row 9 .str d.2.2.2.1]
 m := 2
 pre := fun d => fL d.1 d.2.1 d.2.2.1 d.2.2.2.1 = some d.2.2.2.2
 out := fun d => (fun r : (Int × (List (List Nat))) => .ret (.tup []) [.box 1 (.val (.i .i64) (r.1)), .box 1 (.own 2), .row 9 .str (r.2)]) d.2.2.2.2
noncomputable def aAd : List (FuncId × aJ) := []
theorem aAe : cB Tryd.prog GL aAd := .nil
set_option maxHeartbeats 4000000 in
theorem oR : GOK Tryd.prog GL 12 gL := by
 refine aAM (bW aAe) Tryd.func12 rfl (by kernel_rfl) (fun _ => Nat.le_of_ble_eq_true rfl) fun c0 w0 d hw1 hw2 h hn => ?_
 have hF : rD ⟨Tryd.prog, EM aAd, GM gL c0 d, w0, Tryd.f12.ntmps, []⟩ := ⟨bW aAe, mix⟩
 obtain ⟨(s_0 : (List Nat)), (e_1 : Int), (o0_4 : Int), (o1_5 : (List (List Nat))), r⟩ := d
 replace h : fL s_0 e_1 o0_4 o1_5 = some r := h
 have hw1 : AV.wfL [.val .str s_0, .val (.i .i64) e_1, .ptr 0 [], .ptr 1 []] := hw1
 simp only [AV.wfL, AV.wfV, Ty.wf, rS] at hw1
 show Tri _ _ _ [(0, .val .str s_0), (1, .val (.i .i64) e_1), (2, .ptr 0 []), (3, .ptr 1 [])] [.box 1 (.val (.i .i64) o0_4), .box 1 (.own 2), .row 9 .str o1_5]
 unfold fL at h
 refine aE (aE (aD hF [0, 1, 2, 3, 7] ?_))
 simp only [go_sem]
 refine aF (bK rfl (fun hc => ?_) (fun hc => ?_))
 ·try simp only [go_sem] at hc
  have h := fP (by first | exact hc | omega | (simpa using hc) | (simp at hc ⊢; omega)) h
  refine cD hF [0, 3] ?_
  simp only [go_sem]
  refine aF (cD hF [] ?_)
  simp only [go_sem]
  obtain ⟨g0, h⟩ := aH h
  repeat (refine ⟨by first | with_reducible assumption | omega | (intros; first | assumption | omega) | (simp only [go_sem] at *; first | assumption | omega) | decide, ?_⟩)
  obtain rfl := Option.some.inj h
  refine aFe (qO [0, 1, 3] rfl rfl ?_)
  simp only [ren, jM, uB, posOf, lK, go_sem]
  refine zD hF [] rfl rfl rfl rfl rfl rfl ?_
  (try simp only [aZ, aI7, aFZ, gY, rV, AV.isAgg, go_sem]) <;> first | trivial | rfl | (simp; done)
 ·try simp only [go_sem] at hc
  have h := fQ (by first | exact hc | omega | (simpa using hc) | (simp at hc ⊢; omega)) h
  refine cG (aF (cD hF [] ?_))
  simp only [go_sem]
  obtain ⟨g0, h⟩ := aH h
  repeat (refine ⟨by first | with_reducible assumption | omega | (intros; first | assumption | omega) | (simp only [go_sem] at *; first | assumption | omega) | decide, ?_⟩)
  obtain rfl := Option.some.inj h
  refine aFe (qO [0, 1, 3] rfl rfl ?_)
  simp only [ren, jM, uB, posOf, lK, go_sem]
  refine zD hF [] rfl rfl rfl rfl rfl rfl ?_
  (try simp only [aZ, aI7, aFZ, gY, rV, AV.isAgg, go_sem]) <;> first | trivial | rfl | (simp; done)
attribute [go_sem] gL
noncomputable def gD (n_0 : Int) (o1_3 : Int) (o2_4 : (List (List Nat))) : Option ((Int × (List (List Nat)))) :=
 ck (((gW n_0).isSome = true)) (((fL ((gW n_0).getD ([] : List Nat)) (0 : Int) o1_3 o2_4)).bind (fun r_7 => some ((r_7.1), (r_7.2))))
noncomputable def jP : vK where
 D := Int × Int × (List (List Nat)) × ((Int × (List (List Nat))))
 av := fun d => [.val (.i .i64) d.1, .ptr 0 []]
 hp := fun d => [.box 1 (.fn 12 [] [1, 2]), .box 1 (.val (.i .i64) d.2.1), .box 1 (.own 3), .row 9 .str d.2.2.1]
 m := 3
 pre := fun d => gD d.1 d.2.1 d.2.2.1 = some d.2.2.2
 out := fun d => (fun r : (Int × (List (List Nat))) => .ret (.tup []) [.box 1 (.fn 12 [] [1, 2]), .box 1 (.val (.i .i64) (r.1)), .box 1 (.own 3), .row 9 .str (r.2)]) d.2.2.2
noncomputable def tS : List (FuncId × aJ) := [(14, pH)]
theorem aAf : cB Tryd.prog GL tS := .cons aEX (by kernel_rfl) (.nil)
theorem aCh : gam tS 14 = some pH := rfl
attribute [go_sem] aCh
set_option maxHeartbeats 4000000 in
theorem sF : GOK Tryd.prog GL 13 jP := by
 refine aAM (bW aAf) Tryd.func13 rfl (by kernel_rfl) (fun _ => Nat.le_of_ble_eq_true rfl) fun c0 w0 d hw1 hw2 h hn => ?_
 have hF : rD ⟨Tryd.prog, EM tS, GM jP c0 d, w0, Tryd.f13.ntmps, []⟩ := ⟨bW aAf, mix⟩
 obtain ⟨(n_0 : Int), (o1_3 : Int), (o2_4 : (List (List Nat))), r⟩ := d
 replace h : gD n_0 o1_3 o2_4 = some r := h
 have hw1 : AV.wfL [.val (.i .i64) n_0, .ptr 0 []] := hw1
 simp only [AV.wfL, AV.wfV, Ty.wf, rS] at hw1
 show Tri _ _ _ [(0, .val (.i .i64) n_0), (1, .ptr 0 [])] [.box 1 (.fn 12 [] [1, 2]), .box 1 (.val (.i .i64) o1_3), .box 1 (.own 3), .row 9 .str o2_4]
 unfold gD at h
 obtain ⟨g0, h⟩ := aH h
 obtain ⟨r_7, he1, h⟩ := bind_some h
 try dsimp only at h
 refine zF hF (iW (l := [(12, ⟨gL, [1, 2, 3], (((gW n_0).getD ([] : List Nat)), (0 : Int), o1_3, o2_4, r_7)⟩)]) (.cons oR (by kernel_rfl) (.nil))) 3 (by decide) [] [] ?_
 simp only [go_sem]
 repeat (refine ⟨by first | with_reducible assumption | omega | (intros; first | assumption | omega) | (simp only [go_sem] at *; first | assumption | omega) | decide | ((repeat' apply And.intro) <;> first | assumption | rfl | omega) | fail, ?_⟩)
 simp only [aM0, go_sem]
 repeat (refine ⟨by first | with_reducible assumption | omega | (intros; first | assumption | omega) | (simp only [go_sem] at *; first | assumption | omega) | decide | ((repeat' apply And.intro) <;> first | assumption | rfl | omega) | fail, ?_⟩)
 obtain rfl := Option.some.inj h
 refine aFe (qO [0, 1, 2, 4] rfl rfl ?_)
 simp only [ren, jM, uB, posOf, lK, go_sem]
 refine zD hF [] rfl rfl rfl rfl rfl rfl ?_
 (try simp only [aZ, aI7, aFZ, gY, rV, AV.isAgg, go_sem]) <;> first | trivial | rfl | (simp; done)
attribute [go_sem] jP
noncomputable def gE (d_0 : qD0) (o1_4 : Int) (o2_5 : Int) (o3_6 : (List (List Nat))) : Option ((Int × (Int × (List (List Nat))))) :=
 ck (((iL d_0 o1_4 false).isSome = true)) (((fL (((iL d_0 o1_4 false).getD (([] : List Nat), (0 : Int), ())).1) ((((iL d_0 o1_4 false).getD (([] : List Nat), (0 : Int), ())).2).1) o2_5 o3_6)).bind (fun r_9 => some (o1_4, (r_9.1), (r_9.2))))
noncomputable def jQ : vK where
 D := qD0 × Int × Int × (List (List Nat)) × ((Int × (Int × (List (List Nat)))))
 av := fun d => [.val (.pair .bool (.pair (.sl (.u .u64)) (.pair (.i .i64) .unit))) d.1, .ptr 0 [], .ptr 1 []]
 hp := fun d => [.box 1 (.fn 12 [] [2, 3]), .box 1 (.val (.i .i64) d.2.1), .box 1 (.val (.i .i64) d.2.2.1), .box 1 (.own 4), .row 9 .str d.2.2.2.1]
 m := 4
 pre := fun d => gE d.1 d.2.1 d.2.2.1 d.2.2.2.1 = some d.2.2.2.2
 out := fun d => (fun r : (Int × (Int × (List (List Nat)))) => .ret (.tup []) [.box 1 (.fn 12 [] [2, 3]), .box 1 (.val (.i .i64) (r.1)), .box 1 (.val (.i .i64) (r.2.1)), .box 1 (.own 4), .row 9 .str (r.2.2)]) d.2.2.2.2
noncomputable def tT : List (FuncId × aJ) := [(16, pZ)]
theorem aAg : cB Tryd.prog GL tT := .cons aEn (by kernel_rfl) (.nil)
theorem aCi : gam tT 16 = some pZ := rfl
attribute [go_sem] aCi
set_option maxHeartbeats 4000000 in
theorem sG : GOK Tryd.prog GL 15 jQ := by
 refine aAM (bW aAg) Tryd.func15 rfl (by kernel_rfl) (fun _ => Nat.le_of_ble_eq_true rfl) fun c0 w0 d hw1 hw2 h hn => ?_
 have hF : rD ⟨Tryd.prog, EM tT, GM jQ c0 d, w0, Tryd.f15.ntmps, []⟩ := ⟨bW aAg, mix⟩
 obtain ⟨(d_0 : qD0), (o1_4 : Int), (o2_5 : Int), (o3_6 : (List (List Nat))), r⟩ := d
 replace h : gE d_0 o1_4 o2_5 o3_6 = some r := h
 have hw1 : AV.wfL [.val (.pair .bool (.pair (.sl (.u .u64)) (.pair (.i .i64) .unit))) d_0, .ptr 0 [], .ptr 1 []] := hw1
 simp only [AV.wfL, AV.wfV, Ty.wf, rS] at hw1
 show Tri _ _ _ [(0, .val (.pair .bool (.pair (.sl (.u .u64)) (.pair (.i .i64) .unit))) d_0), (1, .ptr 0 []), (2, .ptr 1 [])] [.box 1 (.fn 12 [] [2, 3]), .box 1 (.val (.i .i64) o1_4), .box 1 (.val (.i .i64) o2_5), .box 1 (.own 4), .row 9 .str o3_6]
 unfold gE at h
 refine aE (cD hF [1, 2, 3] ?_)
 simp only [go_sem]
 obtain ⟨g0, h⟩ := aH h
 obtain ⟨r_9, he1, h⟩ := bind_some h
 try dsimp only at h
 refine aF (zF hF (iW (l := [(12, ⟨gL, [2, 3, 4], ((((iL d_0 o1_4 false).getD (([] : List Nat), (0 : Int), ())).1), ((((iL d_0 o1_4 false).getD (([] : List Nat), (0 : Int), ())).2).1), o2_5, o3_6, r_9)⟩)]) (.cons oR (by kernel_rfl) (.nil))) 6 (by decide) [] [] ?_)
 simp only [go_sem]
 repeat (refine ⟨by first | with_reducible assumption | omega | (intros; first | assumption | omega) | (simp only [go_sem] at *; first | assumption | omega) | decide | ((repeat' apply And.intro) <;> first | assumption | rfl | omega) | fail, ?_⟩)
 simp only [aM0, go_sem]
 repeat (refine ⟨by first | with_reducible assumption | omega | (intros; first | assumption | omega) | (simp only [go_sem] at *; first | assumption | omega) | decide | ((repeat' apply And.intro) <;> first | assumption | rfl | omega) | fail, ?_⟩)
 obtain rfl := Option.some.inj h
 refine aFe (qO [0, 1, 2, 3, 6] rfl rfl ?_)
 simp only [ren, jM, uB, posOf, lK, go_sem]
 refine zD hF [] rfl rfl rfl rfl rfl rfl ?_
 (try simp only [aZ, aI7, aFZ, gY, rV, AV.isAgg, go_sem]) <;> first | trivial | rfl | (simp; done)
attribute [go_sem] jQ
noncomputable def cQ (s_1 : (List Nat)) (o0_2 : (Bool × (List Nat))) : Option (((Int × (Unit × Unit)) × (Bool × (List Nat)))) :=
 ((jF ((o0_2.1), (o0_2.2)))).bind (fun r_6 => ck ((((r_6.2).length) + (s_1.length)) * 1 ≤ 140737488355328) (some (((s_1.length : Int), (), ()), (r_6.1), ((r_6.2) ++ s_1))))
noncomputable def eT : vK where
 D := (List Nat) × (Bool × (List Nat)) × (((Int × (Unit × Unit)) × (Bool × (List Nat))))
 av := fun d => [.ptr 0 [], .val .str d.1]
 hp := fun d => [.box 4294967355 (.agg [pk (d.2.1.1) 0, .own 1]), .row 5 (.u .u8) (d.2.1.2)]
 m := 1
 pre := fun d => cQ d.1 d.2.1 = some d.2.2
 out := fun d => (fun r : ((Int × (Unit × Unit)) × (Bool × (List Nat))) => .ret (.tup [.val (.i .i64) r.1.1, .val .nili r.1.2.1]) [.box 4294967355 (.agg [pk ((r.2).1) 0, .own 1]), .row 5 (.u .u8) ((r.2).2)]) d.2.2
noncomputable def mU : List (FuncId × aJ) := []
theorem mV : cB Tryd.prog GL mU := .nil
set_option maxHeartbeats 4000000 in
theorem sH : GOK Tryd.prog GL 18 eT := by
 refine aAM (bW mV) Tryd.func18 rfl (by kernel_rfl) (fun _ => Nat.le_of_ble_eq_true rfl) fun c0 w0 d hw1 hw2 h hn => ?_
 have hF : rD ⟨Tryd.prog, EM mU, GM eT c0 d, w0, Tryd.f18.ntmps, []⟩ := ⟨bW mV, mix⟩
 obtain ⟨(s_1 : (List Nat)), (o0_2 : (Bool × (List Nat))), r⟩ := d
 replace h : cQ s_1 o0_2 = some r := h
 have hw1 : AV.wfL [.ptr 0 [], .val .str s_1] := hw1
 simp only [AV.wfL, AV.wfV, Ty.wf, rS] at hw1
 show Tri _ _ _ [(0, .ptr 0 []), (1, .val .str s_1)] [.box 4294967355 (.agg [pk (o0_2.1) 0, .own 1]), .row 5 (.u .u8) (o0_2.2)]
 unfold cQ at h
 refine aE (aD hF [0, 1] ?_)
 simp only [go_sem]
 obtain ⟨r_6, he1, h⟩ := bind_some h
 try dsimp only at h
 refine aF (aE (dL hF (iW (l := [(39, ⟨iO, [0, 1], (((o0_2.1), (o0_2.2)), r_6)⟩)]) (.cons tR (by kernel_rfl) (.nil))) [0, 1] [] ?_))
 simp only [go_sem]
 repeat (refine ⟨by first | with_reducible assumption | omega | (intros; first | assumption | omega) | (simp only [go_sem] at *; first | assumption | omega) | decide | ((repeat' apply And.intro) <;> first | assumption | rfl | omega) | fail, ?_⟩)
 refine aF (aE (cD hF [1] ?_))
 simp only [go_sem]
 obtain ⟨g0, h⟩ := aH h
 repeat (refine ⟨by first | with_reducible assumption | omega | (intros; first | assumption | omega) | (simp only [go_sem] at *; first | assumption | omega) | decide, ?_⟩)
 refine aF (aE (aD hF [4, 5] ?_))
 simp only [go_sem]
 obtain rfl := Option.some.inj h
 refine aF (eP (qO [0, 3] rfl rfl ?_))
 simp only [ren, jM, uB, posOf, lK, go_sem]
 refine zD hF [.tmp 4, .tmp 5] rfl rfl rfl rfl rfl rfl ?_
 (try simp only [aZ, aI7, aFZ, gY, rV, AV.isAgg, go_sem]) <;> first | trivial | rfl | (simp; done)
attribute [go_sem] eT
noncomputable def fU (x_42 : (List (List Nat))) (first_43 : Int) : Option (((List Nat) × (Int × Unit))) :=
 if ¬ (first_43 = (0 : Int)) then some ((aX ⟨#[]⟩), first_43, ()) else ck ((aNo x_42 (aX ⟨#[32]⟩))) (ck (((qA x_42 (aX ⟨#[32]⟩)).length) + ((aX ⟨#[10]⟩).length) ≤ 9223372036854775807) (some (((qA x_42 (aX ⟨#[32]⟩)) ++ (aX ⟨#[10]⟩)), (0 : Int), ())))
noncomputable def lD (r_0 : qR0) (x49_142 : Int) (r_131 : (Int × (Int × (List (List Nat))))) (x55_169 : Int) (x_170 : (List (List Nat))) (first_171 : Int) : Option ((Int × (List (List Nat)) × Int) ⊕ (((List (List Nat)) × Int))) :=
 if x55_169 < ((((((((((r_0.2).2).2).2).2).1).getD (x49_142.toNat) ([] : List qI0)).length) : Nat) : Int) then ck (0 ≤ x55_169 ∧ x55_169 < ((((((((((r_0.2).2).2).2).2).1).getD (x49_142.toNat) ([] : List qI0)).length) : Nat) : Int)) (ck (((fK ((((((((r_0.2).2).2).2).2).1).getD (x49_142.toNat) ([] : List qI0)).getD (x55_169.toNat) ((false, ([] : List Nat), (0 : Int), ()), (false, ([] : List Nat), (0 : Int), ()), ())) (r_131.1)).isSome = true)) (((fL (((fK ((((((((r_0.2).2).2).2).2).1).getD (x49_142.toNat) ([] : List qI0)).getD (x55_169.toNat) ((false, ([] : List Nat), (0 : Int), ()), (false, ([] : List Nat), (0 : Int), ()), ())) (r_131.1)).getD (([] : List Nat), (0 : Int), ())).1) ((((fK ((((((((r_0.2).2).2).2).2).1).getD (x49_142.toNat) ([] : List qI0)).getD (x55_169.toNat) ((false, ([] : List Nat), (0 : Int), ()), (false, ([] : List Nat), (0 : Int), ()), ())) (r_131.1)).getD (([] : List Nat), (0 : Int), ())).2).1) first_171 x_170)).bind (fun r_179 => ck (I64 (x55_169 + (1 : Int))) (some (.inl ((x55_169 + (1 : Int)), (r_179.2), (r_179.1))))))) else some (.inr (x_170, first_171))
noncomputable def lE (r_0 : qR0) (r_131 : (Int × (Int × (List (List Nat))))) (x49_142 : Int) (x_143 : (List (List Nat))) (first_144 : Int) : Option ((Int × (List (List Nat)) × Int) ⊕ (((List (List Nat)) × Int))) :=
 if x49_142 < (((((((r_0.2).2).2).2).2).1).length : Int) then ck (0 ≤ x49_142 ∧ x49_142 < (((((((r_0.2).2).2).2).2).1).length : Int)) ((cX (fun d : Int × (List (List Nat)) × Int => lD r_0 x49_142 r_131 d.1 d.2.1 d.2.2) ((0 : Int), x_143, first_144)).bind (fun e => ck (I64 (x49_142 + (1 : Int))) (some (.inl ((x49_142 + (1 : Int)), e.1, e.2))))) else some (.inr (x_143, first_144))
noncomputable def eI (r_0 : qR0) (digits_1 : Int) : Option ((List Nat) × (Int × Unit)) :=
 ck (((nD r_0).isSome = true)) (if ¬ (((nD r_0).getD false) = true) then some ((aX ⟨#[]⟩), (1 : Int), ()) else ((fL ((yW (.i .i64) (aBW (.i .i64) (aBW (.i .i64) (aBW (.i .i64) ([] : List (Int × (List Nat))) (1 : Int) (aX ⟨#[99, 111, 109, 109, 105, 116]⟩)) (2 : Int) (aX ⟨#[114, 101, 106, 101, 99, 116]⟩)) (3 : Int) (aX ⟨#[101, 110, 100]⟩)) (r_0.1)).getD ([] : List Nat)) (0 : Int) (0 : Int) ([] : List (List Nat)))).bind (fun r_4 => ((gD ((r_0.2).1) (r_4.1) (r_4.2))).bind (fun r_6 => ((gE ((((r_0.2).2).2).1) digits_1 (r_6.1) (r_6.2))).bind (fun r_8 => if (r_0.1) = (1 : Int) then ((gE (((((r_0.2).2).2).2).1) (r_8.1) ((r_8.2).1) ((r_8.2).2))).bind (fun r_131 => (cX (fun d : Int × (List (List Nat)) × Int => lE r_0 r_131 d.1 d.2.1 d.2.2) ((0 : Int), ((r_131.2).2), ((r_131.2).1))).bind (fun e => fU e.1 e.2)) else if (r_0.1) = (2 : Int) then ((gE (((((r_0.2).2).2).2).1) (r_8.1) ((r_8.2).1) ((r_8.2).2))).bind (fun r_180 => ((gD (((r_0.2).2).1) ((r_180.2).1) ((r_180.2).2))).bind (fun r_182 => fU (r_182.2) (r_182.1))) else ((gD (((r_0.2).2).1) ((r_8.2).1) ((r_8.2).2))).bind (fun r_184 => fU (r_184.2) (r_184.1))))))
def sP : Ty := .pair (.pair (.i .i64) (.pair (.i .i64) (.pair (.i .i64) (.pair (.pair .bool (.pair (.sl (.u .u64)) (.pair (.i .i64) .unit))) (.pair (.pair .bool (.pair (.sl (.u .u64)) (.pair (.i .i64) .unit))) (.pair (.sl (.sl (.pair (.pair .bool (.pair (.sl (.u .u64)) (.pair (.i .i64) .unit))) (.pair (.pair .bool (.pair (.sl (.u .u64)) (.pair (.i .i64) .unit))) .unit)))) (.pair (.sl (.sl (.pair (.sl (.pair .bool (.pair (.sl (.u .u64)) (.pair (.i .i64) .unit)))) (.pair (.sl (.pair (.pair .bool (.pair (.sl (.u .u64)) (.pair (.i .i64) .unit))) (.pair (.pair .bool (.pair (.sl (.u .u64)) (.pair (.i .i64) .unit))) .unit))) .unit)))) .unit))))))) (.pair (.i .i64) .unit)
attribute [go_sem] sP
noncomputable def gX : aJ := mSpec sP (.tup (.pair .str (.pair (.i .i64) .unit))) (fun x => eI x.1 x.2.1)
noncomputable def pC : List (FuncId × aJ) := [(11, sO), (17, pG), (8, mB)]
theorem aBR : cB Tryd.prog GL pC := .cons aH0 (by kernel_rfl) (.cons aEV (by kernel_rfl) (.cons aA8 (by kernel_rfl) (.nil)))
theorem aDF : gam pC 11 = some sO := rfl
attribute [go_sem] aDF
theorem aDG : gam pC 17 = some pG := rfl
attribute [go_sem] aDG
theorem aEY : gam pC 8 = some mB := rfl
attribute [go_sem] aEY
set_option maxHeartbeats 4000000 in
theorem vY : FOK Tryd.prog GL 6 gX := by
 refine rY (bW aBR) Tryd.func6 rfl (by kernel_rfl) (by decide) fun w0 S x r hw h => ?_
 have hF : rD (fr Tryd.prog (EM pC) S w0 Tryd.f6.ntmps) := ⟨bW aBR, mix⟩
 obtain ⟨(r_0 : qR0), (digits_1 : Int), u⟩ := x
 simp only [sP, Ty.wf, rS] at hw
 simp only [cH, sP]
 try dsimp only at h
 unfold eI at h
 refine aE (cD hF [2, 3] ?_)
 simp only [go_sem]
 refine aF (aE (aE (aD hF [2, 3, 17] ?_)))
 simp only [go_sem]
 obtain ⟨g0, h⟩ := aH h
 repeat (refine ⟨by first | with_reducible assumption | omega | (intros; first | assumption | omega) | (simp only [go_sem] at *; first | assumption | omega) | decide, ?_⟩)
 refine aF (bK rfl (fun hc => ?_) (fun hc => ?_))
 ·try simp only [go_sem] at hc
  have h := fP (by first | exact hc | omega | (simpa using hc) | (simp at hc ⊢; omega)) h
  refine aE (aD hF [4, 5] ?_)
  simp only [go_sem]
  obtain rfl := Option.some.inj h
  refine aF (eP (bV (fW hF [.tmp 4, .tmp 5] rfl rfl rfl ?_)))
  (try simp only [lZ, aZ, go_sem]) <;> first | rfl | (simp; done)
 ·try simp only [go_sem] at hc
  have h := fQ (by first | exact hc | omega | (simpa using hc) | (simp at hc ⊢; omega)) h
  refine cG (aF (aE (cD hF [2, 3, 6] ?_)))
  simp only [go_sem]
  refine aQ4 2 1 9 .str rfl ?_
  simp only [go_sem]
  refine aF (aE (cD hF [2, 3, 6, 7] ?_))
  simp only [go_sem]
  refine aF (aE (cD hF [2, 3, 6, 7, 8] ?_))
  simp only [go_sem]
  refine aF (aE (aD hF [2, 3, 6, 7, 8, 9] ?_))
  simp only [go_sem]
  refine aF (aE (aD hF [2, 3, 6, 7, 8, 9, 10] ?_))
  simp only [go_sem]
  obtain ⟨r_4, he1, h⟩ := bind_some h
  try dsimp only at h
  refine aF (aE (dL hF (iW (l := [(12, ⟨gL, [4, 2, 3], (((yW (.i .i64) (aBW (.i .i64) (aBW (.i .i64) (aBW (.i .i64) ([] : List (Int × (List Nat))) (1 : Int) (aX ⟨#[99, 111, 109, 109, 105, 116]⟩)) (2 : Int) (aX ⟨#[114, 101, 106, 101, 99, 116]⟩)) (3 : Int) (aX ⟨#[101, 110, 100]⟩)) (r_0.1)).getD ([] : List Nat)), (0 : Int), (0 : Int), ([] : List (List Nat)), r_4)⟩)]) (.cons oR (by kernel_rfl) (.nil))) [2, 3, 6, 7, 8, 9, 10] [] ?_))
  simp only [go_sem]
  repeat (refine ⟨by first | with_reducible assumption | omega | (intros; first | assumption | omega) | (simp only [go_sem] at *; first | assumption | omega) | decide | ((repeat' apply And.intro) <;> first | assumption | rfl | omega) | fail, ?_⟩)
  obtain ⟨r_6, he2, h⟩ := bind_some h
  try dsimp only at h
  refine aF (aE (dL hF (iW (l := [(13, ⟨jP, [5, 4, 2, 7], (((r_0.2).1), (r_4.1), (r_4.2), r_6)⟩)]) (.cons sF (by kernel_rfl) (.nil))) [2, 3, 6, 7, 8, 9, 10] [] ?_))
  simp only [go_sem]
  repeat (refine ⟨by first | with_reducible assumption | omega | (intros; first | assumption | omega) | (simp only [go_sem] at *; first | assumption | omega) | decide | ((repeat' apply And.intro) <;> first | assumption | rfl | omega) | fail, ?_⟩)
  obtain ⟨r_8, he3, h⟩ := bind_some h
  try dsimp only at h
  refine aF (aE (dL hF (iW (l := [(15, ⟨jQ, [5, 1, 4, 2, 8], (((((r_0.2).2).2).1), digits_1, (r_6.1), (r_6.2), r_8)⟩)]) (.cons sG (by kernel_rfl) (.nil))) [2, 3, 6, 7, 8, 9, 10] [] ?_))
  simp only [go_sem]
  repeat (refine ⟨by first | with_reducible assumption | omega | (intros; first | assumption | omega) | (simp only [go_sem] at *; first | assumption | omega) | decide | ((repeat' apply And.intro) <;> first | assumption | rfl | omega) | fail, ?_⟩)
  refine aF (nL (D := (List (List Nat)) × Int) (fun d => fU d.1 d.2 = some r) [] (fun d => [(6, .ptr 0 []), (7, .ptr 2 [])]) (fun d => [.inr (.box 1 (.own 1)), .inr (.row 9 .str d.1), .inr (.box 1 (.val (.i .i64) d.2))]) ?_ ?_)
  ·refine aE (aD hF [2, 3, 6, 7, 8, 9, 10, 37] ?_)
   simp only [go_sem]
   refine aF (dF (aE (dF (aE (dF (aE (dF (aE (aE (aE (aD hF [2, 3, 6, 7, 8, 9, 10, 37, 38] ?_)))))))))))
   simp only [go_sem]
   refine aF (bK rfl (fun hc => ?_) (fun hc => ?_))
   ·try simp only [go_sem] at hc
    have h := fP (by first | exact hc | omega | (simpa using hc) | (simp at hc ⊢; omega)) h
    obtain ⟨r_131, he4, h⟩ := bind_some h
    try dsimp only at h
    refine jS (bQ (bQ (cR (aF (aE (aE (dL hF (iW (l := [(15, ⟨jQ, [5, 1, 4, 2, 9], ((((((r_0.2).2).2).2).1), (r_8.1), ((r_8.2).1), ((r_8.2).2), r_131)⟩)]) (.cons sG (by kernel_rfl) (.nil))) [2, 3, 6, 7, 8] [] ?_)))))))
    simp only [go_sem]
    repeat (refine ⟨by first | with_reducible assumption | omega | (intros; first | assumption | omega) | (simp only [go_sem] at *; first | assumption | omega) | decide | ((repeat' apply And.intro) <;> first | assumption | rfl | omega) | fail, ?_⟩)
    refine aF (aE (aD hF [3, 6, 7, 8, 47, 48, 49] ?_))
    simp only [go_sem]
    refine aF (dF (aI4 [1, 2, 10, 4, 5] rfl rfl ?_))
    simp only [ren, jM, uB, posOf, lK, go_sem]
    refine rX (D := Int × (List (List Nat)) × Int) [47, 48] (fun d => [(3, .ptr 0 []), (6, .ptr 1 []), (7, .ptr 3 []), (8, .ptr 4 []), (49, .val (.i .i64) d.1)]) (fun d => [.inr (.box 1 (.val (.i .i64) (r_131.1))), .inr (.box 1 (.own 2)), .inr (.row 9 .str d.2.1), .inr (.box 1 (.val (.i .i64) d.2.2)), .inr (.box 1 (.fn 12 [] [3, 1]))]) h ?_ ?_ ?_
    ·first | rfl | (simp only [go_sem]; done)
    ·(try simp only [kW, gY, true_or, and_self, go_sem]) <;> (repeat' apply And.intro) <;> first | rfl | (left; rfl) | (right; rfl) | (left; simp only [go_sem]; done) | (right; simp only [go_sem]; done) | (simp; done) | (simp only [*]; done) | omega
    rintro ⟨x49_142, x_143, first_144⟩ s16 h hs16
    simp only [go_sem]
    try dsimp only at h
    unfold lE at h
    refine aE (aD hF [3, 6, 7, 8, 47, 48, 49, 50] ?_)
    simp only [go_sem]
    refine aF (aE (bK rfl (fun hc => ?_) (fun hc => ?_)))
    ·try simp only [go_sem] at hc
     have h := fP (by first | exact hc | omega | (simpa using hc) | (simp at hc ⊢; omega)) h
     refine cG (aF (aE (dF (aE (aD hF [3, 6, 7, 8, 12, 47, 48, 49] ?_)))))
     simp only [go_sem]
     obtain ⟨g0, h⟩ := aH h
     repeat (refine ⟨by first | with_reducible assumption | omega | (intros; first | assumption | omega) | (simp only [go_sem] at *; first | assumption | omega) | decide, ?_⟩)
     refine aF (aE (aD hF [3, 6, 7, 8, 47, 48, 49, 53, 54, 55] ?_))
     simp only [go_sem]
     refine aF (dF (rX (D := Int × (List (List Nat)) × Int) [47, 48, 49, 53, 54] (fun d => [(3, .ptr 0 []), (6, .ptr 1 []), (7, .ptr 3 []), (8, .ptr 4 []), (55, .val (.i .i64) d.1)]) (fun d => [.inr (.box 1 (.val (.i .i64) (r_131.1))), .inr (.box 1 (.own 2)), .inr (.row 9 .str d.2.1), .inr (.box 1 (.val (.i .i64) d.2.2)), .inr (.box 1 (.fn 12 [] [3, 1]))]) h ?_ ?_ ?_))
     ·first | rfl | (simp only [go_sem]; done)
     ·(try simp only [kW, gY, true_or, and_self, go_sem]) <;> (repeat' apply And.intro) <;> first | rfl | (left; rfl) | (right; rfl) | (left; simp only [go_sem]; done) | (right; simp only [go_sem]; done) | (simp; done) | (simp only [*]; done) | omega
     rintro ⟨x55_169, x_170, first_171⟩ s19 h hs19
     simp only [go_sem]
     try dsimp only at h
     unfold lD at h
     refine aE (aD hF [3, 6, 7, 8, 47, 48, 49, 53, 54, 55, 56] ?_)
     simp only [go_sem]
     refine aF (aE (bK rfl (fun hc => ?_) (fun hc => ?_)))
     ·try simp only [go_sem] at hc
      have h := fP (by first | exact hc | omega | (simpa using hc) | (simp at hc ⊢; omega)) h
      refine cG (aF (aE (dF (aE (cD hF [3, 6, 7, 8, 14, 47, 48, 49, 53, 54, 55] ?_)))))
      simp only [go_sem]
      obtain ⟨g0, h⟩ := aH h
      repeat (refine ⟨by first | with_reducible assumption | omega | (intros; first | assumption | omega) | (simp only [go_sem] at *; first | assumption | omega) | decide, ?_⟩)
      obtain ⟨g0, h⟩ := aH h
      obtain ⟨r_179, he5, h⟩ := bind_some h
      try dsimp only at h
      refine aF (zF hF (iW (l := [(12, ⟨gL, [3, 1, 2], ((((fK ((((((((r_0.2).2).2).2).2).1).getD (x49_142.toNat) ([] : List qI0)).getD (x55_169.toNat) ((false, ([] : List Nat), (0 : Int), ()), (false, ([] : List Nat), (0 : Int), ()), ())) (r_131.1)).getD (([] : List Nat), (0 : Int), ())).1), ((((fK ((((((((r_0.2).2).2).2).2).1).getD (x49_142.toNat) ([] : List qI0)).getD (x55_169.toNat) ((false, ([] : List Nat), (0 : Int), ()), (false, ([] : List Nat), (0 : Int), ()), ())) (r_131.1)).getD (([] : List Nat), (0 : Int), ())).2).1), first_171, x_170, r_179)⟩)]) (.cons oR (by kernel_rfl) (.nil))) 6 (by decide) [3, 6, 7, 8, 47, 48, 49, 53, 54, 55] [] ?_)
      simp only [go_sem]
      repeat (refine ⟨by first | with_reducible assumption | omega | (intros; first | assumption | omega) | (simp only [go_sem] at *; first | assumption | omega) | decide | ((repeat' apply And.intro) <;> first | assumption | rfl | omega) | fail, ?_⟩)
      simp only [aM0, go_sem]
      repeat (refine ⟨by first | with_reducible assumption | omega | (intros; first | assumption | omega) | (simp only [go_sem] at *; first | assumption | omega) | decide | ((repeat' apply And.intro) <;> first | assumption | rfl | omega) | fail, ?_⟩)
      refine eH (aF (aD hF [3, 6, 7, 8, 47, 48, 49, 53, 54, 55] ?_))
      simp only [go_sem]
      obtain ⟨g0, h⟩ := aH h
      try simp only [I64, I32] at g0
      repeat (refine ⟨by first | with_reducible assumption | omega | (intros; first | assumption | omega) | (simp only [go_sem] at *; first | assumption | omega) | decide, ?_⟩)
      obtain rfl := Option.some.inj h
      dsimp only [qR] at hs19
      refine bC (qO [0, 1, 6, 3, 4] rfl rfl ?_)
      simp only [ren, jM, uB, posOf, lK, go_sem]
      refine aY (((x55_169 + (1 : Int)), (r_179.2), (r_179.1))) hs19 rfl ?_
      ·(try simp only [kW, gY, true_or, and_self, go_sem]) <;> (repeat' apply And.intro) <;> first | rfl | (left; rfl) | (right; rfl) | (left; simp only [go_sem]; done) | (right; simp only [go_sem]; done) | (simp; done) | (simp only [*]; done) | omega
     ·try simp only [go_sem] at hc
      have h := fQ (by first | exact hc | omega | (simpa using hc) | (simp at hc ⊢; omega)) h
      obtain rfl := Option.some.inj h
      dsimp only [qR] at hs19
      have h := hs19
      try dsimp only at h
      refine jS (bQ (bQ (cR (eH (aF (aD hF [3, 6, 7, 8, 47, 48, 49] ?_))))))
      simp only [go_sem]
      obtain ⟨g0, h⟩ := aH h
      try simp only [I64, I32] at g0
      repeat (refine ⟨by first | with_reducible assumption | omega | (intros; first | assumption | omega) | (simp only [go_sem] at *; first | assumption | omega) | decide, ?_⟩)
      obtain rfl := Option.some.inj h
      dsimp only [qR] at hs16
      refine bC (aY (((x49_142 + (1 : Int)), x_170, first_171)) hs16 rfl ?_)
      ·(try simp only [kW, gY, true_or, and_self, go_sem]) <;> (repeat' apply And.intro) <;> first | rfl | (left; rfl) | (right; rfl) | (left; simp only [go_sem]; done) | (right; simp only [go_sem]; done) | (simp; done) | (simp only [*]; done) | omega
    ·try simp only [go_sem] at hc
     have h := fQ (by first | exact hc | omega | (simpa using hc) | (simp at hc ⊢; omega)) h
     obtain rfl := Option.some.inj h
     dsimp only [qR] at hs16
     have h := hs16
     try dsimp only at h
     refine jS (bQ (bQ (cR (aF (jS (gU (by decide) (bQ (gU (by decide) (bQ (cR (bC (qO [1, 2, 3] rfl rfl ?_))))))))))))
     simp only [ren, jM, uB, posOf, lK, go_sem]
     refine aY ((x_143, first_144)) h rfl ?_
     ·(try simp only [kW, gY, true_or, and_self, go_sem]) <;> (repeat' apply And.intro) <;> first | rfl | (left; rfl) | (right; rfl) | (left; simp only [go_sem]; done) | (right; simp only [go_sem]; done) | (simp; done) | (simp only [*]; done) | omega
   ·try simp only [go_sem] at hc
    have h := fQ (by first | exact hc | omega | (simpa using hc) | (simp at hc ⊢; omega)) h
    refine cG (aF (aE (aD hF [2, 6, 7, 9, 10, 40] ?_)))
    simp only [go_sem]
    refine aF (bK rfl (fun hc => ?_) (fun hc => ?_))
    ·try simp only [go_sem] at hc
     have h := fP (by first | exact hc | omega | (simpa using hc) | (simp at hc ⊢; omega)) h
     obtain ⟨r_180, he6, h⟩ := bind_some h
     try dsimp only at h
     refine jS (bQ (gU (by decide) (bQ (cR (aF (dL hF (iW (l := [(15, ⟨jQ, [5, 1, 4, 2, 9], ((((((r_0.2).2).2).2).1), (r_8.1), ((r_8.2).1), ((r_8.2).2), r_180)⟩)]) (.cons sG (by kernel_rfl) (.nil))) [2, 6, 7, 9] [] ?_))))))
     simp only [go_sem]
     repeat (refine ⟨by first | with_reducible assumption | omega | (intros; first | assumption | omega) | (simp only [go_sem] at *; first | assumption | omega) | decide | ((repeat' apply And.intro) <;> first | assumption | rfl | omega) | fail, ?_⟩)
     obtain ⟨r_182, he7, h⟩ := bind_some h
     try dsimp only at h
     refine eH (aF (aE (dL hF (iW (l := [(13, ⟨jP, [5, 4, 2, 10], ((((r_0.2).2).1), ((r_180.2).1), ((r_180.2).2), r_182)⟩)]) (.cons sF (by kernel_rfl) (.nil))) [6, 7] [] ?_)))
     simp only [go_sem]
     repeat (refine ⟨by first | with_reducible assumption | omega | (intros; first | assumption | omega) | (simp only [go_sem] at *; first | assumption | omega) | decide | ((repeat' apply And.intro) <;> first | assumption | rfl | omega) | fail, ?_⟩)
     refine aF (jS (cR (bC (qO [2, 11, 4] rfl rfl ?_))))
     simp only [ren, jM, uB, posOf, lK, go_sem]
     refine aY (((r_182.2), (r_182.1))) h rfl ?_
     ·(try simp only [kW, gY, true_or, and_self, go_sem]) <;> (repeat' apply And.intro) <;> first | rfl | (left; rfl) | (right; rfl) | (left; simp only [go_sem]; done) | (right; simp only [go_sem]; done) | (simp; done) | (simp only [*]; done) | omega
    ·try simp only [go_sem] at hc
     have h := fQ (by first | exact hc | omega | (simpa using hc) | (simp at hc ⊢; omega)) h
     obtain ⟨r_184, he8, h⟩ := bind_some h
     try dsimp only at h
     refine cG (aF (jS (gU (by decide) (bQ (gU (by decide) (bQ (cR (aF (aE (dL hF (iW (l := [(13, ⟨jP, [5, 4, 2, 9], ((((r_0.2).2).1), ((r_8.2).1), ((r_8.2).2), r_184)⟩)]) (.cons sF (by kernel_rfl) (.nil))) [6, 7] [] ?_))))))))))
     simp only [go_sem]
     repeat (refine ⟨by first | with_reducible assumption | omega | (intros; first | assumption | omega) | (simp only [go_sem] at *; first | assumption | omega) | decide | ((repeat' apply And.intro) <;> first | assumption | rfl | omega) | fail, ?_⟩)
     refine aF (jS (cR (bC (qO [2, 10, 4] rfl rfl ?_))))
     simp only [ren, jM, uB, posOf, lK, go_sem]
     refine aY (((r_184.2), (r_184.1))) h rfl ?_
     ·(try simp only [kW, gY, true_or, and_self, go_sem]) <;> (repeat' apply And.intro) <;> first | rfl | (left; rfl) | (right; rfl) | (left; simp only [go_sem]; done) | (right; simp only [go_sem]; done) | (simp; done) | (simp only [*]; done) | omega
  ·rintro ⟨x_42, first_43⟩ h
   try dsimp only at h
   simp only [go_sem]
   unfold fU at h
   refine aE (aE (aD hF [6, 7, 77] ?_))
   simp only [go_sem]
   refine aF (bK rfl (fun hc => ?_) (fun hc => ?_))
   ·try simp only [go_sem] at hc
    have h := fP (by first | exact hc | omega | (simpa using hc) | (simp at hc ⊢; omega)) h
    refine aE (aD hF [4, 5] ?_)
    simp only [go_sem]
    obtain rfl := Option.some.inj h
    refine aF (eP (bV (fW hF [.tmp 4, .tmp 5] rfl rfl rfl ?_)))
    (try simp only [lZ, aZ, go_sem]) <;> first | rfl | (simp; done)
   ·try simp only [go_sem] at hc
    have h := fQ (by first | exact hc | omega | (simpa using hc) | (simp at hc ⊢; omega)) h
    refine cG (aF (aE (aD hF [4, 5] ?_)))
    simp only [go_sem]
    obtain ⟨g0, h⟩ := aH h
    obtain ⟨g1, h⟩ := aH h
    repeat (refine ⟨by first | with_reducible assumption | omega | (intros; first | assumption | omega) | (simp only [go_sem] at *; first | assumption | omega) | decide, ?_⟩)
    obtain rfl := Option.some.inj h
    refine aF (eP (fW hF [.tmp 4, .tmp 5] rfl rfl rfl ?_))
    (try simp only [lZ, aZ, go_sem]) <;> first | rfl | (simp; done)
attribute [go_sem] gX
noncomputable def oS (l_0 : (List qR0)) (digits_1 : Int) (x13_12 : Int) (b_13 : Bool) (x_14 : (List Nat)) : Option ((Int × Bool × (List Nat)) ⊕ ((Bool × (List Nat)) ⊕ ((List Nat) × (Int × Unit)))) :=
 if x13_12 < (l_0.length : Int) then ck (0 ≤ x13_12 ∧ x13_12 < (l_0.length : Int)) (ck (((eI (l_0.getD (x13_12.toNat) ((0 : Int), (0 : Int), (0 : Int), (false, ([] : List Nat), (0 : Int), ()), (false, ([] : List Nat), (0 : Int), ()), ([] : List (List qI0)), ([] : List (List qT0)), ())) digits_1).isSome = true)) (if ¬ (((((eI (l_0.getD (x13_12.toNat) ((0 : Int), (0 : Int), (0 : Int), (false, ([] : List Nat), (0 : Int), ()), (false, ([] : List Nat), (0 : Int), ()), ([] : List (List qI0)), ([] : List (List qT0)), ())) digits_1).getD (([] : List Nat), (0 : Int), ())).2).1) = (0 : Int)) then some (.inr (.inr ((aX ⟨#[]⟩), ((((eI (l_0.getD (x13_12.toNat) ((0 : Int), (0 : Int), (0 : Int), (false, ([] : List Nat), (0 : Int), ()), (false, ([] : List Nat), (0 : Int), ()), ([] : List (List qI0)), ([] : List (List qT0)), ())) digits_1).getD (([] : List Nat), (0 : Int), ())).2).1), ()))) else ((cQ (((eI (l_0.getD (x13_12.toNat) ((0 : Int), (0 : Int), (0 : Int), (false, ([] : List Nat), (0 : Int), ()), (false, ([] : List Nat), (0 : Int), ()), ([] : List (List qI0)), ([] : List (List qT0)), ())) digits_1).getD (([] : List Nat), (0 : Int), ())).1) (b_13, x_14))).bind (fun r_22 => ck (I64 (x13_12 + (1 : Int))) (some (.inl ((x13_12 + (1 : Int)), ((r_22.2).1), ((r_22.2).2))))))) else some (.inr (.inl (b_13, x_14)))
noncomputable def lS (l_0 : (List qR0)) (digits_1 : Int) : Option ((List Nat) × (Int × Unit)) :=
 (cX (fun d : Int × Bool × (List Nat) => oS l_0 digits_1 d.1 d.2.1 d.2.2) ((0 : Int), true, ([] : List Nat))).bind (fun e => match e with | (.inl e) => ((gT (e.1, e.2))).bind (fun r_26 => some (r_26, (0 : Int), ())) | (.inr e) => some e)
def sQ : Ty := .pair (.sl (.pair (.i .i64) (.pair (.i .i64) (.pair (.i .i64) (.pair (.pair .bool (.pair (.sl (.u .u64)) (.pair (.i .i64) .unit))) (.pair (.pair .bool (.pair (.sl (.u .u64)) (.pair (.i .i64) .unit))) (.pair (.sl (.sl (.pair (.pair .bool (.pair (.sl (.u .u64)) (.pair (.i .i64) .unit))) (.pair (.pair .bool (.pair (.sl (.u .u64)) (.pair (.i .i64) .unit))) .unit)))) (.pair (.sl (.sl (.pair (.sl (.pair .bool (.pair (.sl (.u .u64)) (.pair (.i .i64) .unit)))) (.pair (.sl (.pair (.pair .bool (.pair (.sl (.u .u64)) (.pair (.i .i64) .unit))) (.pair (.pair .bool (.pair (.sl (.u .u64)) (.pair (.i .i64) .unit))) .unit))) .unit)))) .unit)))))))) (.pair (.i .i64) .unit)
attribute [go_sem] sQ
noncomputable def mC : aJ := mSpec sQ (.tup (.pair .str (.pair (.i .i64) .unit))) (fun x => lS x.1 x.2.1)
noncomputable def xM : List (FuncId × aJ) := [(6, gX)]
theorem aBS : cB Tryd.prog GL xM := .cons vY (by kernel_rfl) (.nil)
theorem aEZ : gam xM 6 = some gX := rfl
attribute [go_sem] aEZ
set_option maxHeartbeats 4000000 in
theorem aBh : FOK Tryd.prog GL 7 mC := by
 refine rY (bW aBS) Tryd.func7 rfl (by kernel_rfl) (by decide) fun w0 S x r hw h => ?_
 have hF : rD (fr Tryd.prog (EM xM) S w0 Tryd.f7.ntmps) := ⟨bW aBS, mix⟩
 obtain ⟨(l_0 : (List qR0)), (digits_1 : Int), u⟩ := x
 simp only [sQ, Ty.wf, rS] at hw
 simp only [cH, sQ]
 try dsimp only at h
 unfold lS at h
 refine aE (aD hF [0, 1] ?_)
 simp only [go_sem]
 refine aF (aE (cD hF [0, 1, 6] ?_))
 simp only [go_sem]
 refine aPj 0 4294967355 5 rfl ?_
 simp only [go_sem]
 refine aF (aE (aE (aD hF [1, 6, 11, 12, 13] ?_)))
 simp only [go_sem]
 refine aF (dF (rX (D := Int × Bool × (List Nat)) [1, 11, 12] (fun d => [(6, .ptr 0 []), (13, .val (.i .i64) d.1)]) (fun d => [.inr (.box 4294967355 (.agg [pk d.2.1 0, .own 1])), .inr (.row 5 (.u .u8) d.2.2)]) h ?_ ?_ ?_))
 ·first | rfl | (simp only [go_sem]; done)
 ·(try simp only [kW, gY, true_or, and_self, go_sem]) <;> (repeat' apply And.intro) <;> first | rfl | (left; rfl) | (right; rfl) | (left; simp only [go_sem]; done) | (right; simp only [go_sem]; done) | (simp; done) | (simp only [*]; done) | omega
 rintro ⟨x13_12, b_13, x_14⟩ s3 h hs3
 simp only [go_sem]
 try dsimp only at h
 unfold oS at h
 refine aE (aD hF [1, 6, 11, 12, 13, 14] ?_)
 simp only [go_sem]
 refine aF (aE (bK rfl (fun hc => ?_) (fun hc => ?_)))
 ·try simp only [go_sem] at hc
  have h := fP (by first | exact hc | omega | (simpa using hc) | (simp at hc ⊢; omega)) h
  refine cG (aF (aE (dF (aE (cD hF [1, 6, 8, 11, 12, 13] ?_)))))
  simp only [go_sem]
  obtain ⟨g0, h⟩ := aH h
  repeat (refine ⟨by first | with_reducible assumption | omega | (intros; first | assumption | omega) | (simp only [go_sem] at *; first | assumption | omega) | decide, ?_⟩)
  refine aF (aE (aD hF [1, 6, 9, 10, 11, 12, 13] ?_))
  simp only [go_sem]
  obtain ⟨g0, h⟩ := aH h
  repeat (refine ⟨by first | with_reducible assumption | omega | (intros; first | assumption | omega) | (simp only [go_sem] at *; first | assumption | omega) | decide, ?_⟩)
  refine aF (aE (aE (aD hF [1, 6, 9, 10, 11, 12, 13, 24] ?_)))
  simp only [go_sem]
  refine aF (bK rfl (fun hc => ?_) (fun hc => ?_))
  ·try simp only [go_sem] at hc
   have h := fP (by first | exact hc | omega | (simpa using hc) | (simp at hc ⊢; omega)) h
   refine aE (aD hF [4, 5] ?_)
   simp only [go_sem]
   obtain rfl := Option.some.inj h
   dsimp only [qR] at hs3
   have h := hs3
   try dsimp only at h
   obtain rfl := Option.some.inj h
   refine aF (eP (bV (dQ (bV (bV (dQ (bV (fW hF [.tmp 4, .tmp 5] rfl rfl rfl ?_))))))))
   (try simp only [lZ, aZ, go_sem]) <;> first | rfl | (simp; done)
  ·try simp only [go_sem] at hc
   have h := fQ (by first | exact hc | omega | (simpa using hc) | (simp at hc ⊢; omega)) h
   obtain ⟨r_22, he1, h⟩ := bind_some h
   try dsimp only at h
   refine cG (aF (dL hF (iW (l := [(18, ⟨eT, [0, 1], ((((eI (l_0.getD (x13_12.toNat) ((0 : Int), (0 : Int), (0 : Int), (false, ([] : List Nat), (0 : Int), ()), (false, ([] : List Nat), (0 : Int), ()), ([] : List (List qI0)), ([] : List (List qT0)), ())) digits_1).getD (([] : List Nat), (0 : Int), ())).1), (b_13, x_14), r_22)⟩)]) (.cons sH (by kernel_rfl) (.nil))) [1, 6, 11, 12, 13] [] ?_))
   simp only [go_sem]
   repeat (refine ⟨by first | with_reducible assumption | omega | (intros; first | assumption | omega) | (simp only [go_sem] at *; first | assumption | omega) | decide | ((repeat' apply And.intro) <;> first | assumption | rfl | omega) | fail, ?_⟩)
   refine eH (aF (aD hF [1, 6, 11, 12, 13] ?_))
   simp only [go_sem]
   obtain ⟨g0, h⟩ := aH h
   try simp only [I64, I32] at g0
   repeat (refine ⟨by first | with_reducible assumption | omega | (intros; first | assumption | omega) | (simp only [go_sem] at *; first | assumption | omega) | decide, ?_⟩)
   obtain rfl := Option.some.inj h
   dsimp only [qR] at hs3
   refine bC (qO [0, 3] rfl rfl ?_)
   simp only [ren, jM, uB, posOf, lK, go_sem]
   refine aY (((x13_12 + (1 : Int)), ((r_22.2).1), ((r_22.2).2))) hs3 rfl ?_
   ·(try simp only [kW, gY, true_or, and_self, go_sem]) <;> (repeat' apply And.intro) <;> first | rfl | (left; rfl) | (right; rfl) | (left; simp only [go_sem]; done) | (right; simp only [go_sem]; done) | (simp; done) | (simp only [*]; done) | omega
 ·try simp only [go_sem] at hc
  have h := fQ (by first | exact hc | omega | (simpa using hc) | (simp at hc ⊢; omega)) h
  obtain rfl := Option.some.inj h
  dsimp only [qR] at hs3
  have h := hs3
  try dsimp only at h
  obtain ⟨r_24, he2, h⟩ := bind_some h
  try dsimp only at h
  refine jS (bQ (bQ (cR (aF (aE (dL hF (iW (l := [(19, ⟨gH, [0, 1], ((b_13, x_14), r_24)⟩)]) (.cons wA (by kernel_rfl) (.nil))) [4, 5] [] ?_))))))
  simp only [go_sem]
  repeat (refine ⟨by first | with_reducible assumption | omega | (intros; first | assumption | omega) | (simp only [go_sem] at *; first | assumption | omega) | decide | ((repeat' apply And.intro) <;> first | assumption | rfl | omega) | fail, ?_⟩)
  obtain rfl := Option.some.inj h
  refine aF (eP (fW hF [.tmp 4, .tmp 5] rfl rfl rfl ?_))
  (try simp only [lZ, aZ, go_sem]) <;> first | rfl | (simp; done)
attribute [go_sem] mC
end Nu
end Go.Proofs
namespace Go.Proofs
open Go.Vc
set_option maxRecDepth 20000
namespace Nu
theorem aRz (u : Nat) (h : u < 4294967296) : gW (u : Int) = some (mJ u) := by
 have key : gV (u : Int) 10 = some (mJ u) := by
  unfold gV
  rw [if_pos rfl]
  by_cases h1 : u < 100
  ·rw [if_pos (by omega)]
   simp only [aK9 u h1, Option.getD_some]
   exact aC rfl rfl
  ·have hB : u < 18446744073709551616 := by show u < 18446744073709551616; omega
   rw [if_neg (by omega), if_neg (by omega)]
   have hn := aBN u (by omega) hB
   obtain ⟨k1, k2⟩ := Lib.numDigits_eq u (by omega) hB
   have hle : Lib.nDigits u ≤ 20 := by split at k1 <;> omega
   have hpos := Lib.nDigits_pos u
   have hlt := Lib.lt_pow_nDigits u
   have eu : ((u : Int) % 18446744073709551616).toNat = u := by omega
   unfold fT
   simp only [eu, hn, Option.getD_some]
   have e : ((1 : Int) + (Lib.nDigits u : Int) - 1).toNat = Lib.nDigits u := by omega
   rw [e]
   have hf : cJ 1 (Lib.nDigits u) u (List.replicate 24 0) = some ([0] ++ mJ u ++ (List.replicate 24 0).drop (1 + Lib.nDigits u)) := by
    unfold cJ
    refine aC (by omega) (aC hlt ?_)
    rfl
   refine aC rfl (aC (by constructor <;> omega) (aC (by constructor <;> omega) (bB hf ?_)))
   rw [if_neg (by omega)]
   refine aC (by constructor <;> omega) (aC (by constructor <;> omega) (aC (by omega) ?_))
   rw [List.append_assoc, List.drop_append_of_le_length (by simp), List.drop_of_length_le (by simp), List.nil_append, List.take_append_of_le_length (by unfold mJ; rw [nB]; exact Nat.le_refl _), List.take_of_length_le (by unfold mJ; rw [nB]; exact Nat.le_refl _)]
 unfold gW nK
 rw [key]; rfl
theorem aLg {u : Nat} (h : u < 4294967296) : (mJ u).length ≤ 20 := by
 unfold mJ
 rw [nB]
 by_cases h0 : u < 10
 ·rw [Lib.nDigits_small h0]; decide
 ·have hB : u < 18446744073709551616 := by show u < 18446744073709551616; omega
  obtain ⟨k1, k2⟩ := Lib.numDigits_eq u (by omega) hB
  split at k1 <;> omega
theorem vA (d : Dy) (k : Int) (up : Bool) (lm : Lm d.2.1) : (jK d k up).1.length ≤ 3000000 := by
 unfold jK
 split
 ·exact Nat.zero_le _
 ·rename_i h1
  split
  ·exact Nat.zero_le _
  ·rename_i h2
   have hm : oW d = true := by
    cases hh : oW d with
    | true => rfl
    | false => exact absurd (.inl hh) h1
   obtain ⟨a1, a2, a3, a4⟩ := aBr hm
   have hM := aPZ (k := k.toNat) lm a1 (by omega) (by omega)
   have hq : txQ d k.toNat up < 18446744073709551616 ^ 10000 := by
    have hb : 18446744073709551616 ^ 200 < 18446744073709551616 ^ 10000 := aRM 200 10000 (by decide)
    have hx := Nat.div_le_self (txM d k.toNat) (2 ^ (max (-d.2.2.1) 0).toNat)
    unfold txQ
    simp only
    split <;> omega
   have hl := aNl (Nat.le_trans (aRN hq) (by decide))
   have hp : (aAn k.toNat (txt (txQ d k.toNat up))).length ≤ 2000000 := by
    unfold aAn
    rw [List.length_append, List.length_replicate]
    omega
   have hpt : (ptS k.toNat (aAn k.toNat (txt (txQ d k.toNat up)))).length ≤ 2000001 := by
    unfold ptS
    split
    ·simp only [List.length_append, List.length_take, List.length_drop, List.length_cons, List.length_nil]
     omega
    ·omega
   show (sgS _ _ _).length ≤ _
   unfold sgS
   split
   ·simp only [List.length_cons]; omega
   ·omega
def oU (a : Iv) (n : Int) : List Nat × Int × Unit :=
 if aC2 a = false then ([], 1, ())
 else if (jK a.1 n false).2.1 ≠ 0 then ([], (jK a.1 n false).2.1, ())
 else if (jK a.2.1 n true).2.1 ≠ 0 then ([], (jK a.2.1 n true).2.1, ())
 else ([91] ++ (jK a.1 n false).1 ++ [44, 32] ++ (jK a.2.1 n true).1 ++ [93], 0, ())
theorem aN6 (a : Iv) (n : Int) (lm : LmI a) : (oU a n).1.length ≤ 6000010 := by
 have h1 := vA a.1 n false lm.1
 have h2 := vA a.2.1 n true lm.2
 unfold oU
 split
 ·exact Nat.zero_le _
 ·split
  ·exact Nat.zero_le _
  ·split
   ·exact Nat.zero_le _
   ·simp only [List.length_append, List.length_cons, List.length_nil]
    omega
theorem aRO : aX ⟨#[]⟩ = [] := rfl
theorem aTa : aX ⟨#[91]⟩ = [91] := rfl
theorem aTb : aX ⟨#[93]⟩ = [93] := rfl
theorem aTc : aX ⟨#[44, 32]⟩ = [44, 32] := rfl
theorem aTd : aX ⟨#[32]⟩ = [32] := rfl
theorem aTe : aX ⟨#[10]⟩ = [10] := rfl
theorem aLh (a : Iv) (n : Int) (lm : LmI a) : fK a n = some (oU a n) := by
 have l1 := vA a.1 n false lm.1
 have l2 := vA a.2.1 n true lm.2
 unfold fK oU
 refine bB (aBd a lm) ?_
 cases aC2 a with
 | false => rw [if_pos (by decide), if_pos rfl]; rfl
 | true =>
  rw [if_neg (by decide), if_neg (by decide)]
  refine bB (aJN a.1 n false lm.1) ?_
  by_cases h1 : (jK a.1 n false).2.1 ≠ 0
  ·rw [if_pos h1, if_pos h1]; rfl
  ·rw [if_neg h1, if_neg h1]
   refine bB (aJN a.2.1 n true lm.2) ?_
   by_cases h2 : (jK a.2.1 n true).2.1 ≠ 0
   ·rw [if_pos h2, if_pos h2]; rfl
   ·rw [if_neg h2, if_neg h2, aTa, aTb, aTc]
    refine aC ?_ (aC ?_ (aC ?_ (aC ?_ rfl))) <;> simp only [List.length_append, List.length_cons, List.length_nil] <;> omega
abbrev Tx := List Nat × Int × Unit
def lF (st : Int × List (List Nat)) (x : Tx) : Int × List (List Nat) := (if st.1 = 0 then x.2.1 else st.1, st.2 ++ [x.1])
def yM (k : Int) : List Nat := if k = 1 then [99, 111, 109, 109, 105, 116] else if k = 2 then [114, 101, 106, 101, 99, 116] else if k = 3 then [101, 110, 100] else []
def aEr (r : Rec) (n : Int) : List Tx :=
 if r.1 = 1 then jK r.2.2.2.2.1 n false :: (r.2.2.2.2.2.1.flatten.map (oU · n))
 else if r.1 = 2 then [jK r.2.2.2.2.1 n false, (mJ r.2.2.1.toNat, 0, ())]
 else [(mJ r.2.2.1.toNat, 0, ())]
def nE (r : Rec) (n : Int) : List Tx := [(yM r.1, 0, ()), (mJ r.2.1.toNat, 0, ()), jK r.2.2.2.1 n false] ++ aEr r n
def aRA (l : List Tx) : Int := (l.foldl lF (0, [])).1
def lG (r : Rec) (n : Int) : Tx :=
 if tQ r = false then ([], 1, ())
 else if aRA (nE r n) ≠ 0 then ([], aRA (nE r n), ())
 else (qA ((nE r n).map (·.1)) [32] ++ [10], 0, ())
theorem aDH : ∀ (l : List Tx) (st : Int × List (List Nat)), (l.foldl lF st).2 = st.2 ++ l.map (·.1)
 | [], st => by simp
 | x :: r, st => by
  rw [List.foldl_cons, aDH r, List.map_cons]
  show (st.2 ++ [x.1]) ++ _ = _
  simp
theorem put_eq (x : Tx) (st : Int × List (List Nat)) (h : st.2.length ≤ 100000) : fL x.1 x.2.1 st.1 st.2 = some (lF st x) := by
 unfold fL lF
 by_cases h0 : st.1 = 0
 ·rw [if_pos h0, if_pos h0]; exact aC (by omega) rfl
 ·rw [if_neg h0, if_neg h0]; exact aC (by omega) rfl
theorem aMe (n : Int) (st : Int × List (List Nat)) (h0 : 0 ≤ n) (h1 : n ≤ 4294967295) (h : st.2.length ≤ 100000) : gD n st.1 st.2 = some (lF st (mJ n.toNat, 0, ())) := by
 have hi := aRz n.toNat (by omega)
 rw [Int.toNat_of_nonneg h0] at hi
 have hp := put_eq (mJ n.toNat, 0, ()) st h
 unfold gD
 rw [hi]
 exact aC rfl (bB hp rfl)
theorem aP9 (d : Dy) (n : Int) (st : Int × List (List Nat)) (lm : Lm d.2.1) (h : st.2.length ≤ 100000) : gE d n st.1 st.2 = some (n, lF st (jK d n false)) := by
 have hp := put_eq (jK d n false) st h
 unfold gE
 rw [aJN d n false lm]
 exact aC rfl (bB hp rfl)
theorem aRB (l : List Tx) (st : Int × List (List Nat)) : (l.foldl lF st).2.length = st.2.length + l.length := by
 rw [aDH]; simp
theorem aQa (r : Rec) (q : Int × Int × List (List Nat)) (x : Nat) (b : List Iv) (hb : r.2.2.2.2.2.1.getD x [] = b) (lm : ∀ a ∈ b, LmI a) (st : Int × List (List Nat)) (hb2 : b.length ≤ 100) (hl : st.2.length ≤ 10000) :
  cX (fun d : Int × List (List Nat) × Int => lD r (x : Int) q d.1 d.2.1 d.2.2) (0, st.2, st.1) = some (((b.map (oU · q.1)).foldl lF st).2, ((b.map (oU · q.1)).foldl lF st).1) := by
 have key := nX (step := fun d : Int × List (List Nat) × Int => lD r (x : Int) q d.1 d.2.1 d.2.2)
  (I := fun d => ∃ i : Nat, d.1 = i ∧ i ≤ b.length ∧ d.2.1.length = st.2.length + i)
  (fun d => (b.length - d.1).toNat) (fun d => ((((b.drop d.1.toNat).map (oU · q.1)).foldl lF (d.2.2, d.2.1)).2, (((b.drop d.1.toNat).map (oU · q.1)).foldl lF (d.2.2, d.2.1)).1)) (fun d hd => by
   obtain ⟨d1, d2, d3⟩ := d
   obtain ⟨i, rfl, hi, hlen⟩ := hd
   simp only at hlen ⊢
   unfold lD
   rw [Int.toNat_natCast, Int.toNat_natCast, hb]
   rcases Nat.lt_or_ge i b.length with hlt | hge
   ·left
    have hm := xL (z := (((false, [], 0, ()), (false, [], 0, ()), ()) : Iv)) hlt
    have hw := aLh _ q.1 (lm _ hm)
    have hp := put_eq (oU (b.getD i ((false, [], 0, ()), (false, [], 0, ()), ())) q.1) (d3, d2) (by simp only; omega)
    refine ⟨((i : Int) + 1, (lF (d3, d2) (oU (b.getD i ((false, [], 0, ()), (false, [], 0, ()), ())) q.1)).2, (lF (d3, d2) (oU (b.getD i ((false, [], 0, ()), (false, [], 0, ()), ())) q.1)).1), ?_, ⟨i + 1, by simp, hlt, by simp [lF, hlen]; omega⟩, by simp only; omega, ?_⟩
    ·rw [if_pos (by omega), hw]
     refine aC (by constructor <;> omega) (aC rfl (bB hp (aC (by constructor <;> omega) rfl)))
    ·have e : b.drop i = b.getD i ((false, [], 0, ()), (false, [], 0, ()), ()) :: b.drop (i + 1) := by
      rw [List.drop_eq_getElem_cons hlt]; simp [List.getD, hlt]
     have e1 : ((i : Int) + 1).toNat = i + 1 := by omega
     simp only [e1]
     rw [e, List.map_cons, List.foldl_cons]
   ·right
    obtain rfl : i = b.length := by omega
    rw [if_neg (by omega), List.drop_length]; rfl) (0, st.2, st.1) ⟨0, rfl, Nat.zero_le _, rfl⟩
 exact key
theorem aQb (r : Rec) (q : Int × Int × List (List Nat)) (lm : ∀ b ∈ r.2.2.2.2.2.1, ∀ a ∈ b, LmI a) (hb : ∀ b ∈ r.2.2.2.2.2.1, b.length ≤ 64) (hn : r.2.2.2.2.2.1.length ≤ 16) (st : Int × List (List Nat)) (hl : st.2.length ≤ 100) :
  cX (fun d : Int × List (List Nat) × Int => lE r q d.1 d.2.1 d.2.2) (0, st.2, st.1) = some (((r.2.2.2.2.2.1.flatten.map (oU · q.1)).foldl lF st).2, ((r.2.2.2.2.2.1.flatten.map (oU · q.1)).foldl lF st).1) := by
 have key := nX (step := fun d : Int × List (List Nat) × Int => lE r q d.1 d.2.1 d.2.2)
  (I := fun d => ∃ i : Nat, d.1 = i ∧ i ≤ r.2.2.2.2.2.1.length ∧ d.2.1.length ≤ 100 + 64 * i)
  (fun d => (r.2.2.2.2.2.1.length - d.1).toNat) (fun d => ((((r.2.2.2.2.2.1.drop d.1.toNat).flatten.map (oU · q.1)).foldl lF (d.2.2, d.2.1)).2, (((r.2.2.2.2.2.1.drop d.1.toNat).flatten.map (oU · q.1)).foldl lF (d.2.2, d.2.1)).1)) (fun d hd => by
   obtain ⟨d1, d2, d3⟩ := d
   obtain ⟨i, rfl, hi, hlen⟩ := hd
   simp only at hlen ⊢
   unfold lE
   rw [Int.toNat_natCast]
   rcases Nat.lt_or_ge i r.2.2.2.2.2.1.length with hlt | hge
   ·left
    have hm := xL (z := ([] : List Iv)) hlt
    have h19 := aQa r q i _ rfl (lm _ hm) (d3, d2) (by have := hb _ hm; omega) (by simp only; omega)
    have hbl := hb _ hm
    refine ⟨((i : Int) + 1, (((r.2.2.2.2.2.1.getD i []).map (oU · q.1)).foldl lF (d3, d2)).2, (((r.2.2.2.2.2.1.getD i []).map (oU · q.1)).foldl lF (d3, d2)).1), ?_, ⟨i + 1, by simp, hlt, ?_⟩, by simp only; omega, ?_⟩
    ·rw [if_pos (by omega)]
     exact aC (by constructor <;> omega) (bB h19 (aC (by constructor <;> omega) rfl))
    ·simp only [aRB, List.length_map]; omega
    ·have e : r.2.2.2.2.2.1.drop i = r.2.2.2.2.2.1.getD i [] :: r.2.2.2.2.2.1.drop (i + 1) := by
      rw [List.drop_eq_getElem_cons hlt]; simp [List.getD, hlt]
     have e1 : ((i : Int) + 1).toNat = i + 1 := by omega
     simp only [e1]
     rw [e, List.flatten_cons, List.map_append, List.foldl_append]
   ·right
    obtain rfl : i = r.2.2.2.2.2.1.length := by omega
    rw [if_neg (by omega), List.drop_length]; rfl) (0, st.2, st.1) ⟨0, rfl, Nat.zero_le _, by simp only; omega⟩
 exact key
theorem aDI (xs : List (List Nat)) (sep : List Nat) (m : Nat) (h : ∀ x ∈ xs, x.length ≤ m) : (qA xs sep).length ≤ xs.length * (m + sep.length) := by
 unfold qA
 match xs with
 | [] => exact Nat.zero_le _
 | [x] =>
  have := h x (by simp)
  simp [List.intercalate]; omega
 | x :: y :: r =>
  have ih := aDI (y :: r) sep m (fun z hz => h z (by simp at hz ⊢; exact .inr hz))
  have hx := h x (by simp)
  unfold qA at ih
  simp only [List.intercalate, List.intersperse, List.flatten_cons, List.length_append, List.length_cons] at ih ⊢
  rw [Nat.add_mul _ 1]
  omega
theorem aGQ (r : Rec) (n : Int) (lm : LmR r) (hm : tQ r = true) : (nE r n).length ≤ 2000 ∧ ∀ x ∈ (nE r n).map (·.1), x.length ≤ 6000010 := by
 unfold tQ aIF at hm
 simp only [Bool.and_eq_true, decide_eq_true_eq, List.all_eq_true] at hm
 obtain ⟨⟨⟨⟨⟨q1, q2⟩, q3⟩, q4⟩, q5⟩, q6⟩ := hm
 have hfl : r.2.2.2.2.2.1.flatten.length ≤ 1024 := by
  have : ∀ l : List (List Iv), (∀ b ∈ l, aMd b = true) → l.flatten.length ≤ 64 * l.length := fun l => by
   induction l with
   | nil => intro _; simp
   | cons x t ih =>
    intro hx
    have h1 := hx x (by simp)
    unfold aMd at h1
    simp only [Bool.and_eq_true, decide_eq_true_eq] at h1
    have := ih (fun b hb => hx b (by simp [hb]))
    simp only [List.flatten_cons, List.length_append, List.length_cons]
    omega
  have := this _ q5
  omega
 have l1 := vA r.2.2.2.1 n false lm.1
 have l2 := vA r.2.2.2.2.1 n false lm.2.1
 have l3 := aLg (u := r.2.1.toNat) (by omega)
 have l4 := aLg (u := r.2.2.1.toNat) (by omega)
 have l5 : (yM r.1).length ≤ 20 := by
  unfold yM
  split
  ·decide
  ·split
   ·decide
   ·split <;> decide
 have ht : (aEr r n).length ≤ 1025 ∧ ∀ x ∈ (aEr r n).map (·.1), x.length ≤ 6000010 := by
  unfold aEr
  split
  ·refine ⟨by rw [List.length_cons, List.length_map]; omega, fun x hx => ?_⟩
   simp only [List.map_cons, List.map_map, List.mem_cons, List.mem_map] at hx
   rcases hx with rfl | ⟨a, ha, rfl⟩
   ·omega
   ·obtain ⟨b, hb, ha⟩ := List.mem_flatten.1 ha
    exact aN6 a n (lm.2.2.1 b hb a ha)
  ·split
   ·refine ⟨by simp, fun x hx => ?_⟩
    simp only [List.map_cons, List.map_nil, List.mem_cons, List.not_mem_nil, or_false] at hx
    rcases hx with rfl | rfl <;> omega
   ·refine ⟨by simp, fun x hx => ?_⟩
    simp only [List.map_cons, List.map_nil, List.mem_cons, List.not_mem_nil, or_false] at hx
    subst hx; omega
 unfold nE
 refine ⟨by simp; omega, fun x hx => ?_⟩
 simp only [List.map_append, List.map_cons, List.map_nil, List.mem_append, List.mem_cons, List.not_mem_nil, or_false] at hx
 rcases hx with (rfl | rfl | rfl) | hx
 ·omega
 ·omega
 ·omega
 ·exact ht.2 x hx
theorem aRC (r : Rec) (n : Int) (lm : LmR r) (hm : tQ r = true) : fU ((nE r n).foldl lF (0, [])).2 ((nE r n).foldl lF (0, [])).1 = some (lG r n) := by
 obtain ⟨w1, w2⟩ := aGQ r n lm hm
 have hj := aDI ((nE r n).map (·.1)) [32] 6000010 w2
 rw [List.length_map] at hj
 have hj2 : (qA ((nE r n).map (·.1)) [32]).length ≤ 2000 * (6000010 + 1) := Nat.le_trans hj (Nat.mul_le_mul_right _ w1)
 rw [aDH, List.nil_append]
 show fU _ (aRA (nE r n)) = _
 unfold fU lG
 rw [hm, if_neg (by decide : ¬ true = false)]
 by_cases h : aRA (nE r n) ≠ 0
 ·rw [if_pos h, if_pos h]; rfl
 ·rw [if_neg h, if_neg h, aTd, aTe]
  refine aC ⟨by rw [List.length_map]; omega, by omega⟩ (aC ?_ rfl)
  simp only [List.length_cons, List.length_nil]; omega
theorem aFj (r : Rec) (n : Int) (lm : LmR r) : eI r n = some (lG r n) := by
 unfold eI
 rw [aH2 r lm, Option.getD_some]
 refine aC rfl ?_
 cases hm : tQ r with
 | false => rw [if_pos (by decide)]; unfold lG; rw [hm]; rfl
 | true =>
  have hj := aRC r n lm hm
  have hm' := hm
  unfold tQ aIF at hm'
  simp only [Bool.and_eq_true, decide_eq_true_eq, List.all_eq_true] at hm'
  obtain ⟨⟨⟨⟨⟨q1, q2⟩, q3⟩, q4⟩, q5⟩, q6⟩ := hm'
  have hk : (yW (.i .i64) (aBW (.i .i64) (aBW (.i .i64) (aBW (.i .i64) ([] : List (Int × List Nat)) (1 : Int) (aX ⟨#[99, 111, 109, 109, 105, 116]⟩)) (2 : Int) (aX ⟨#[114, 101, 106, 101, 99, 116]⟩)) (3 : Int) (aX ⟨#[101, 110, 100]⟩)) r.1).getD [] = yM r.1 := by
   have : r.1 = 1 ∨ r.1 = 2 ∨ r.1 = 3 := by omega
   rcases this with h | h | h <;> rw [h] <;> rfl
  rw [if_neg (by decide), hk]
  have a0 := put_eq (yM r.1, 0, ()) (0, []) (by simp)
  refine bB a0 ?_
  refine bB (aMe r.2.1 (lF (0, []) (yM r.1, 0, ())) (by omega) (by omega) (by simp [lF])) ?_
  refine bB (aP9 r.2.2.2.1 n (lF (lF (0, []) (yM r.1, 0, ())) (mJ r.2.1.toNat, 0, ())) lm.1 (by simp [lF])) ?_
  unfold nE aEr at hj
  have hf : ∀ l : List Tx, ([(yM r.1, 0, ()), (mJ r.2.1.toNat, 0, ()), jK r.2.2.2.1 n false] ++ l).foldl lF (0, []) = l.foldl lF (lF (lF (lF (0, []) (yM r.1, 0, ())) (mJ r.2.1.toNat, 0, ())) (jK r.2.2.2.1 n false)) := fun l => rfl
  rw [hf] at hj
  have hl3 : (lF (lF (lF (0, []) (yM r.1, 0, ())) (mJ r.2.1.toNat, 0, ())) (jK r.2.2.2.1 n false)).2.length = 3 := by simp [lF]
  generalize lF (lF (lF (0, []) (yM r.1, 0, ())) (mJ r.2.1.toNat, 0, ())) (jK r.2.2.2.1 n false) = st at hj hl3 ⊢
  by_cases h1 : r.1 = 1
  ·rw [if_pos h1]
   rw [if_pos h1, List.foldl_cons] at hj
   refine bB (aP9 r.2.2.2.2.1 n st lm.2.1 (by omega)) ?_
   have hb : ∀ b ∈ r.2.2.2.2.2.1, b.length ≤ 64 := fun b hb => by
    have := q5 b hb
    unfold aMd at this
    simp only [Bool.and_eq_true, decide_eq_true_eq] at this
    exact this.1
   refine bB (aQb r (n, lF st (jK r.2.2.2.2.1 n false)) lm.2.2.1 hb (by omega) (lF st (jK r.2.2.2.2.1 n false)) (by simp [lF]; omega)) ?_
   exact hj
  ·rw [if_neg h1]
   rw [if_neg h1] at hj
   by_cases h2 : r.1 = 2
   ·rw [if_pos h2]
    rw [if_pos h2] at hj
    refine bB (aP9 r.2.2.2.2.1 n st lm.2.1 (by omega)) ?_
    refine bB (aMe r.2.2.1 (lF st (jK r.2.2.2.2.1 n false)) (by omega) (by omega) (by simp [lF]; omega)) ?_
    exact hj
   ·rw [if_neg h2]
    rw [if_neg h2] at hj
    refine bB (aMe r.2.2.1 st (by omega) (by omega) (by omega)) ?_
    exact hj
def cS : List Rec → Int → Tx
 | [], _ => ([], 0, ())
 | r :: l, n => if (lG r n).2.1 ≠ 0 then ([], (lG r n).2.1, ()) else if (cS l n).2.1 ≠ 0 then ([], (cS l n).2.1, ()) else ((lG r n).1 ++ (cS l n).1, 0, ())
theorem aII (r : Rec) (n : Int) (lm : LmR r) : (lG r n).1.length ≤ 20000000000 := by
 unfold lG
 cases hm : tQ r with
 | false => exact Nat.zero_le _
 | true =>
  obtain ⟨w1, w2⟩ := aGQ r n lm hm
  have hj := aDI ((nE r n).map (·.1)) [32] 6000010 w2
  rw [List.length_map] at hj
  have hj2 : (qA ((nE r n).map (·.1)) [32]).length ≤ 2000 * (6000010 + 1) := Nat.le_trans hj (Nat.mul_le_mul_right _ w1)
  rw [if_neg (by decide)]
  split
  ·exact Nat.zero_le _
  ·simp only [List.length_append, List.length_cons, List.length_nil]; omega
end Nu
end Go.Proofs
namespace Go.Proofs
open Go.Vc
set_option maxRecDepth 20000
namespace Nu
abbrev rz : Rec := (0, 0, 0, (false, [], 0, ()), (false, [], 0, ()), [], [], ())
theorem aGR (l : List Rec) (n : Int) (lm : ∀ r ∈ l, LmR r) (hl : l.length ≤ 1000) : lS l n = some (cS l n) := by
 have key := nX (step := fun d : Int × Bool × List Nat => oS l n d.1 d.2.1 d.2.2)
  (I := fun d => ∃ i : Nat, d.1 = i ∧ i ≤ l.length ∧ d.2.2.length ≤ 20000000000 * i)
  (fun d => (l.length - d.1).toNat)
  (fun d => (if (cS (l.drop d.1.toNat) n).2.1 ≠ 0 then .inr ([], (cS (l.drop d.1.toNat) n).2.1, ()) else .inl ((l.drop d.1.toNat).isEmpty && d.2.1, d.2.2 ++ (cS (l.drop d.1.toNat) n).1) : (Bool × List Nat) ⊕ Tx)) (fun d hd => by
   obtain ⟨d1, d2, d3⟩ := d
   obtain ⟨i, rfl, hi, hlen⟩ := hd
   simp only at hlen ⊢
   unfold oS
   rw [Int.toNat_natCast]
   rcases Nat.lt_or_ge i l.length with hlt | hge
   ·have hm := xL (z := rz) hlt
    have hw := aFj _ n (lm _ hm)
    have hwl := aII _ n (lm _ hm)
    have e : l.drop i = l.getD i rz :: l.drop (i + 1) := by
     rw [List.drop_eq_getElem_cons hlt]; simp [List.getD, hlt]
    rw [if_pos (by omega), hw, e]
    generalize l.getD i rz = r at hwl ⊢
    simp only [Option.getD_some]
    by_cases h1 : (lG r n).2.1 ≠ 0
    ·right
     refine aC (by constructor <;> omega) (aC rfl ?_)
     have et : cS (r :: l.drop (i + 1)) n = ([], (lG r n).2.1, ()) := by rw [cS, if_pos h1]
     rw [if_pos h1, et, if_pos h1]; rfl
    ·left
     refine ⟨((i : Int) + 1, false, d3 ++ (lG r n).1), ?_, ⟨i + 1, by simp, hlt, by simp; omega⟩, by simp only; omega, ?_⟩
     ·refine aC (by constructor <;> omega) (aC rfl ?_)
      rw [if_neg h1]
      have hws : cQ (lG r n).1 (d2, d3) = some (((((lG r n).1.length : Nat) : Int), (), ()), false, d3 ++ (lG r n).1) := by
       unfold cQ jF
       exact bB rfl (aC (by simp only; omega) rfl)
      refine bB hws ?_
      exact aC (by constructor <;> omega) rfl
     ·have e1 : ((i : Int) + 1).toNat = i + 1 := by omega
      simp only [e1]
      have et : cS (r :: l.drop (i + 1)) n = if (cS (l.drop (i + 1)) n).2.1 ≠ 0 then ([], (cS (l.drop (i + 1)) n).2.1, ()) else ((lG r n).1 ++ (cS (l.drop (i + 1)) n).1, 0, ()) := by rw [cS, if_neg h1]
      rw [et]
      by_cases h2 : (cS (l.drop (i + 1)) n).2.1 ≠ 0
      ·rw [if_pos h2, if_pos h2, if_pos h2]
      ·rw [if_neg h2, if_neg h2, if_neg (by simp)]
       simp
   ·right
    obtain rfl : i = l.length := by omega
    rw [if_neg (by omega), List.drop_length]
    simp [cS]) (0, true, []) ⟨0, rfl, Nat.zero_le _, Nat.zero_le _⟩
 unfold lS
 refine bB key ?_
 simp only [Int.toNat_zero, List.drop_zero, List.nil_append]
 by_cases h : (cS l n).2.1 ≠ 0
 ·rw [if_pos h]
  have : cS l n = ([], (cS l n).2.1, ()) := by
   cases l with
   | nil => exact absurd rfl h
   | cons r l =>
    rw [cS] at h ⊢
    split at h
    ·rename_i h1; rw [if_pos h1]
    ·rename_i h1
     rw [if_neg h1]
     split at h
     ·rename_i h2; rw [if_pos h2]
     ·exact absurd rfl h
  rw [← this]
 ·rw [if_neg h]
  have hx : (cS l n).2.1 = 0 := by simpa using h
  show (gT _).bind _ = _
  unfold gT
  show some ((cS l n).1, (0 : Int), ()) = some (cS l n)
  rw [← hx]
end Nu
end Go.Proofs
namespace Go.Proofs
open Go.Vc
set_option maxRecDepth 20000
namespace Nu
noncomputable def nQ (l_0 : (List qI0)) (i_4 : Int) : Option ((Int) ⊕ ((Unit) ⊕ Bool)) :=
 if i_4 < (l_0.length : Int) then ck (0 ≤ i_4 ∧ i_4 < (l_0.length : Int)) (ck ((¬ ((6 : Int) < (((((((l_0.getD (i_4.toNat) ((false, ([] : List Nat), (0 : Int), ()), (false, ([] : List Nat), (0 : Int), ()), ())).1).2).1).length) : Nat) : Int)) → (0 ≤ i_4 ∧ i_4 < (l_0.length : Int)))) (if ((6 : Int) < (((((((l_0.getD (i_4.toNat) ((false, ([] : List Nat), (0 : Int), ()), (false, ([] : List Nat), (0 : Int), ()), ())).1).2).1).length) : Nat) : Int)) ∨ ((6 : Int) < ((((((((l_0.getD (i_4.toNat) ((false, ([] : List Nat), (0 : Int), ()), (false, ([] : List Nat), (0 : Int), ()), ())).2).1).2).1).length) : Nat) : Int)) then some (.inr (.inr false)) else ck (I64 (i_4 + (1 : Int))) (some (.inl (i_4 + (1 : Int)))))) else some (.inr (.inl ()))
noncomputable def pN (l_0 : (List qI0)) : Option Bool :=
 if (8 : Int) < (l_0.length : Int) then some false else (cX (fun d : Int => nQ l_0 d) (0 : Int)).bind (fun e => match e with | (.inl e) => some true | (.inr e) => some e)
def aEs : PlR := ⟨[(0, .A [0]), (1, .A [0, 6]), (2, .A [2]), (3, .A [0, 3]), (4, .A [0, 3, 10]), (5, .A [0, 3]), (6, .A [0, 3, 30]), (7, .A [2]), (8, .A [2])], []⟩
def aGS : Ty := .pair (.sl (.pair (.pair .bool (.pair (.sl (.u .u64)) (.pair (.i .i64) .unit))) (.pair (.pair .bool (.pair (.sl (.u .u64)) (.pair (.i .i64) .unit))) .unit))) .unit
noncomputable def qB : aJ := mSpec aGS (.one .bool) (fun x => pN x.1)
noncomputable def aMf : List (FuncId × aJ) := []
theorem aMg : cB Tryd.prog GL aMf := .nil
attribute [go_sem] aGS aEs
set_option maxHeartbeats 4000000 in
theorem aEt : FOK Tryd.prog GL 9 qB := by
 refine cE (bW aMg) mix Tryd.func9 rfl (by kernel_rfl) (by decide) aEs fun w0 S x Θ hw h hF => ?_
 obtain ⟨(l_0 : (List qI0)), u⟩ := x
 simp only [cH, go_sem]
 replace h : sat (pN l_0) _ := h
 unfold pN at h
 refine eZ h (fun hc h => ?_) fun hc h => ?_
 ·exact aK hF [.tmp 2] rfl rfl rfl (aB h) (by simp only [aZ, go_sem])
 ·refine cK hF (D := Int) [0] (fun d => [(3, .val (.i .i64) d)]) (fun d => []) h rfl (by simp only [go_sem]) ?_
  rintro i_4 A4 T4 hA4 hE4 h
  simp only [go_sem]
  replace h : sat (nQ l_0 i_4) _ := h
  unfold nQ at h
  refine eZ h (fun hc h => ?_) fun hc h => ?_
  ·obtain ⟨g0, h⟩ := aV h
   obtain ⟨g1, h⟩ := aV h
   repeat (refine ⟨by omega, ?_⟩)
   refine ⟨fun hc => ?_, fun hc => ?_⟩
   ·replace h := mO hc h
    replace h := hE4 _ (aB h)
    try dsimp only at h
    exact aK hF [.tmp 2] rfl rfl rfl (aB h) (by simp only [aZ, go_sem])
   ·replace h := mP hc h
    obtain ⟨g0, h⟩ := aV h
    repeat (refine ⟨by omega, ?_⟩)
    replace h := hA4 _ (aB h)
    exact aY _ h rfl (by simp only [go_sem])
  ·replace h := hE4 _ (aB h)
   try dsimp only at h
   exact aK hF [.tmp 2] rfl rfl rfl (aB h) (by simp only [aZ, go_sem])
attribute [go_sem] qB
noncomputable def mD (t_0 : qT0) (i_12 : Int) : Option ((Int) ⊕ ((Unit) ⊕ Bool)) :=
 if i_12 < (((t_0.2).1).length : Int) then ck (I64 (i_12 + (1 : Int))) (ck (0 ≤ i_12 ∧ i_12 ≤ (i_12 + (1 : Int)) ∧ (i_12 + (1 : Int)) ≤ (((t_0.2).1).length : Int)) ((pN (List.drop (i_12.toNat) (List.take ((i_12 + (1 : Int)).toNat) ((t_0.2).1)))).bind (fun v_21 => if ¬ (v_21 = true) then some (.inr (.inr false)) else ck (I64 (i_12 + (1 : Int))) (some (.inl (i_12 + (1 : Int))))))) else some (.inr (.inl ()))
noncomputable def mE (t_0 : qT0) : Option (Bool) :=
 (cX (fun d : Int => mD t_0 d) (0 : Int)).bind (fun e => match e with | (.inl e) => some true | (.inr e) => some e)
noncomputable def mF (t_0 : qT0) (i_23 : Int) : Option ((Int) ⊕ ((Unit) ⊕ Bool)) :=
 if i_23 < ((t_0.1).length : Int) then ck (0 ≤ i_23 ∧ i_23 < ((t_0.1).length : Int)) (if (6 : Int) < (((((((t_0.1).getD (i_23.toNat) (false, ([] : List Nat), (0 : Int), ())).2).1).length) : Nat) : Int) then some (.inr (.inr false)) else ck (I64 (i_23 + (1 : Int))) (some (.inl (i_23 + (1 : Int))))) else some (.inr (.inl ()))
noncomputable def qC (t_0 : qT0) : Option Bool :=
 if ((12 : Int) < (((t_0.2).1).length : Int)) ∨ ((14 : Int) < ((t_0.1).length : Int)) then some false else (cX (fun d : Int => mF t_0 d) (0 : Int)).bind (fun e => match e with | (.inl e) => mE t_0 | (.inr e) => some e)
def aC5 : PlR := ⟨[(0, .B [1]), (1, .A [1, 14]), (2, .A [2]), (3, .A [1, 3]), (4, .A [1, 3, 19]), (5, .A [1, 3]), (6, .A [1, 3, 29]), (7, .A [2]), (8, .A [1, 4]), (9, .A [1, 4, 34]), (10, .A [1, 4]), (11, .A [1, 4, 44]), (12, .A [2]), (13, .A [2])], [(6, 11)]⟩
def aEu : Ty := .pair (.pair (.sl (.pair .bool (.pair (.sl (.u .u64)) (.pair (.i .i64) .unit)))) (.pair (.sl (.pair (.pair .bool (.pair (.sl (.u .u64)) (.pair (.i .i64) .unit))) (.pair (.pair .bool (.pair (.sl (.u .u64)) (.pair (.i .i64) .unit))) .unit))) .unit)) .unit
noncomputable def uQ : aJ := mSpec aEu (.one .bool) (fun x => qC x.1)
noncomputable def aEv : List (FuncId × aJ) := [(9, qB)]
theorem aLi : cB Tryd.prog GL aEv := .cons aEt (by kernel_rfl) (.nil)
theorem aH3 : gam aEv 9 = some qB := rfl
attribute [go_sem] aEu aC5 aH3
set_option maxHeartbeats 4000000 in
theorem aJQ : FOK Tryd.prog GL 10 uQ := by
 refine cE (bW aLi) mix Tryd.func10 rfl (by kernel_rfl) (by decide) aC5 fun w0 S x Θ hw h hF => ?_
 obtain ⟨(t_0 : qT0), u⟩ := x
 simp only [cH, go_sem]
 replace h : sat (qC t_0) _ := h
 unfold qC at h
 refine ⟨fun hc => ?_, fun hc => ?_⟩
 ·replace h := mO hc h
  exact aK hF [.tmp 2] rfl rfl rfl (aB h) (by simp only [aZ, go_sem])
 ·replace h := mP hc h
  refine gB hF (D := Unit) (fun d => sat (mE t_0) Θ) [] (fun d => [(1, .ptr 0 [])]) (fun d => [.inr (.box 2 (.val (.pair (.sl (.pair .bool (.pair (.sl (.u .u64)) (.pair (.i .i64) .unit)))) (.pair (.sl (.pair (.pair .bool (.pair (.sl (.u .u64)) (.pair (.i .i64) .unit))) (.pair (.pair .bool (.pair (.sl (.u .u64)) (.pair (.i .i64) .unit))) .unit))) .unit)) t_0))]) ?_ ?_
  ·simp only [go_sem]
   refine cK hF (D := Int) [] (fun d => [(1, .ptr 0 []), (3, .val (.i .i64) d)]) (fun d => [.inr (.box 2 (.val (.pair (.sl (.pair .bool (.pair (.sl (.u .u64)) (.pair (.i .i64) .unit)))) (.pair (.sl (.pair (.pair .bool (.pair (.sl (.u .u64)) (.pair (.i .i64) .unit))) (.pair (.pair .bool (.pair (.sl (.u .u64)) (.pair (.i .i64) .unit))) .unit))) .unit)) t_0))]) h rfl (by simp only [go_sem]) ?_
   rintro i_23 A4 T4 hA4 hE4 h
   simp only [go_sem]
   replace h : sat (mF t_0 i_23) _ := h
   unfold mF at h
   refine eZ h (fun hc h => ?_) fun hc h => ?_
   ·refine aN h fun g0 h => ?_
    refine eZ h (fun hc h => ?_) fun hc h => ?_
    ·replace h := hE4 _ (aB h)
     try dsimp only at h
     exact aK hF [.tmp 2] rfl rfl rfl (aB h) (by simp only [aZ, go_sem])
    ·refine aN h fun g0 h => ?_
     replace h := hA4 _ (aB h)
     exact aY _ h rfl (by simp only [go_sem])
   ·replace h := hE4 _ (aB h)
    try dsimp only at h
    exact aY (()) h rfl (by simp only [go_sem])
  ·rintro u h
   simp only [go_sem]
   replace h : sat (mE t_0) _ := h
   unfold mE at h
   refine cK hF (D := Int) [] (fun d => [(1, .ptr 0 []), (4, .val (.i .i64) d)]) (fun d => [.inr (.box 2 (.val (.pair (.sl (.pair .bool (.pair (.sl (.u .u64)) (.pair (.i .i64) .unit)))) (.pair (.sl (.pair (.pair .bool (.pair (.sl (.u .u64)) (.pair (.i .i64) .unit))) (.pair (.pair .bool (.pair (.sl (.u .u64)) (.pair (.i .i64) .unit))) .unit))) .unit)) t_0))]) h rfl (by simp only [go_sem]) ?_
   rintro i_12 A9 T9 hA9 hE9 h
   simp only [go_sem]
   replace h : sat (mD t_0 i_12) _ := h
   unfold mD at h
   refine eZ h (fun hc h => ?_) fun hc h => ?_
   ·refine aN h fun g0 h => aN h fun g1 h => ?_
    obtain ⟨v_21, hv, h⟩ := cI h
    try simp only [hv, go_sem]
    refine aF5 h (fun hc h => ?_) fun hc h => ?_
    ·replace h := hE9 _ (aB h)
     try dsimp only at h
     exact aK hF [.tmp 2] rfl rfl rfl (aB h) (by simp only [aZ, go_sem])
    ·refine aN h fun g0 h => ?_
     replace h := hA9 _ (aB h)
     exact aY _ h rfl (by simp only [go_sem])
   ·replace h := hE9 _ (aB h)
    try dsimp only at h
    exact aK hF [.tmp 2] rfl rfl rfl (aB h) (by simp only [aZ, go_sem])
attribute [go_sem] uQ
noncomputable def kS (i_28 : Int) (r_0 : qR0) (k_44 : Int) : Option ((Int) ⊕ ((Unit) ⊕ Bool)) :=
 ck (0 ≤ i_28 ∧ i_28 < ((((((((r_0.2).2).2).2).2).2).1).length : Int)) (if k_44 < (((((((((((r_0.2).2).2).2).2).2).1).getD (i_28.toNat) ([] : List qT0)).length) : Nat) : Int) then ck (0 ≤ i_28 ∧ i_28 < ((((((((r_0.2).2).2).2).2).2).1).length : Int)) (ck (0 ≤ k_44 ∧ k_44 < (((((((((((r_0.2).2).2).2).2).2).1).getD (i_28.toNat) ([] : List qT0)).length) : Nat) : Int)) ((qC (((((((((r_0.2).2).2).2).2).2).1).getD (i_28.toNat) ([] : List qT0)).getD (k_44.toNat) (([] : List qD0), ([] : List qI0), ()))).bind (fun v_53 => if ¬ (v_53 = true) then some (.inr (.inr false)) else ck (I64 (k_44 + (1 : Int))) (some (.inl (k_44 + (1 : Int))))))) else some (.inr (.inl ())))
noncomputable def mG (r_0 : qR0) (i_28 : Int) : Option ((Int) ⊕ ((Unit) ⊕ Bool)) :=
 if i_28 < ((((((((r_0.2).2).2).2).2).2).1).length : Int) then ck (0 ≤ i_28 ∧ i_28 < ((((((((r_0.2).2).2).2).2).2).1).length : Int)) (if (5 : Int) < (((((((((((r_0.2).2).2).2).2).2).1).getD (i_28.toNat) ([] : List qT0)).length) : Nat) : Int) then some (.inr (.inr false)) else (cX (fun d : Int => kS i_28 r_0 d) (0 : Int)).bind (fun e => match e with | (.inl e) => ck (I64 (i_28 + (1 : Int))) (some (.inl (i_28 + (1 : Int)))) | (.inr e) => some (.inr (.inr e)))) else some (.inr (.inl ()))
noncomputable def mH (r_0 : qR0) : Option (Bool) :=
 (cX (fun d : Int => mG r_0 d) (0 : Int)).bind (fun e => match e with | (.inl e) => some true | (.inr e) => some e)
noncomputable def mI (r_0 : qR0) (i_58 : Int) : Option ((Int) ⊕ ((Unit) ⊕ Bool)) :=
 if i_58 < (((((((r_0.2).2).2).2).2).1).length : Int) then ck (0 ≤ i_58 ∧ i_58 < (((((((r_0.2).2).2).2).2).1).length : Int)) ((pN (((((((r_0.2).2).2).2).2).1).getD (i_58.toNat) ([] : List qI0))).bind (fun v_67 => if ¬ (v_67 = true) then some (.inr (.inr false)) else ck (I64 (i_58 + (1 : Int))) (some (.inl (i_58 + (1 : Int)))))) else some (.inr (.inl ()))
noncomputable def qD (r_0 : qR0) : Option Bool :=
 if ((((6 : Int) < (((((((r_0.2).2).2).2).2).1).length : Int)) ∨ ((6 : Int) < ((((((((r_0.2).2).2).2).2).2).1).length : Int))) ∨ ((70 : Int) < (((((((r_0.2).2).2).1).2).1).length : Int))) ∨ ((70 : Int) < ((((((((r_0.2).2).2).2).1).2).1).length : Int)) then some false else (cX (fun d : Int => mI r_0 d) (0 : Int)).bind (fun e => match e with | (.inl e) => mH r_0 | (.inr e) => some e)
def aC6 : PlR := ⟨[(0, .B [1]), (1, .A [1, 29]), (2, .A [2]), (3, .A [1, 3]), (4, .A [1, 3, 34]), (5, .A [1, 3]), (6, .A [1, 3, 43]), (7, .A [2]), (8, .A [1, 4]), (9, .A [1, 4, 48]), (10, .A [1, 4]), (11, .A [1, 4, 57]), (12, .A [2]), (13, .A [1, 4, 5]), (14, .A [1, 4, 5, 65]), (15, .A [1, 4, 5]), (16, .A [1, 4, 5, 77]), (17, .A [2]), (18, .A [2])], [(6, 11)]⟩
def aEw : Ty := .pair (.pair (.i .i64) (.pair (.i .i64) (.pair (.i .i64) (.pair (.pair .bool (.pair (.sl (.u .u64)) (.pair (.i .i64) .unit))) (.pair (.pair .bool (.pair (.sl (.u .u64)) (.pair (.i .i64) .unit))) (.pair (.sl (.sl (.pair (.pair .bool (.pair (.sl (.u .u64)) (.pair (.i .i64) .unit))) (.pair (.pair .bool (.pair (.sl (.u .u64)) (.pair (.i .i64) .unit))) .unit)))) (.pair (.sl (.sl (.pair (.sl (.pair .bool (.pair (.sl (.u .u64)) (.pair (.i .i64) .unit)))) (.pair (.sl (.pair (.pair .bool (.pair (.sl (.u .u64)) (.pair (.i .i64) .unit))) (.pair (.pair .bool (.pair (.sl (.u .u64)) (.pair (.i .i64) .unit))) .unit))) .unit)))) .unit))))))) .unit
noncomputable def uR : aJ := mSpec aEw (.one .bool) (fun x => qD x.1)
noncomputable def aBi : List (FuncId × aJ) := [(10, uQ), (9, qB)]
theorem aLj : cB Tryd.prog GL aBi := .cons aJQ (by kernel_rfl) (.cons aEt (by kernel_rfl) (.nil))
theorem aGT : gam aBi 10 = some uQ := rfl
theorem aH4 : gam aBi 9 = some qB := rfl
attribute [go_sem] aEw aC6 aGT aH4
set_option maxHeartbeats 4000000 in
theorem aJR : FOK Tryd.prog GL 5 uR := by
 refine cE (bW aLj) mix Tryd.func5 rfl (by kernel_rfl) (by decide) aC6 fun w0 S x Θ hw h hF => ?_
 obtain ⟨(r_0 : qR0), u⟩ := x
 simp only [cH, go_sem]
 replace h : sat (qD r_0) _ := h
 unfold qD at h
 refine ⟨fun hc => ?_, fun hc => ?_⟩
 ·replace h := mO hc h
  exact aK hF [.tmp 2] rfl rfl rfl (aB h) (by simp only [aZ, go_sem])
 ·replace h := mP hc h
  refine gB hF (D := Unit) (fun d => sat (mH r_0) Θ) [] (fun d => [(1, .ptr 0 [])]) (fun d => [.inr (.box 11 (.val (.pair (.i .i64) (.pair (.i .i64) (.pair (.i .i64) (.pair (.pair .bool (.pair (.sl (.u .u64)) (.pair (.i .i64) .unit))) (.pair (.pair .bool (.pair (.sl (.u .u64)) (.pair (.i .i64) .unit))) (.pair (.sl (.sl (.pair (.pair .bool (.pair (.sl (.u .u64)) (.pair (.i .i64) .unit))) (.pair (.pair .bool (.pair (.sl (.u .u64)) (.pair (.i .i64) .unit))) .unit)))) (.pair (.sl (.sl (.pair (.sl (.pair .bool (.pair (.sl (.u .u64)) (.pair (.i .i64) .unit)))) (.pair (.sl (.pair (.pair .bool (.pair (.sl (.u .u64)) (.pair (.i .i64) .unit))) (.pair (.pair .bool (.pair (.sl (.u .u64)) (.pair (.i .i64) .unit))) .unit))) .unit)))) .unit))))))) r_0))]) ?_ ?_
  ·simp only [go_sem]
   refine cK hF (D := Int) [] (fun d => [(1, .ptr 0 []), (3, .val (.i .i64) d)]) (fun d => [.inr (.box 11 (.val (.pair (.i .i64) (.pair (.i .i64) (.pair (.i .i64) (.pair (.pair .bool (.pair (.sl (.u .u64)) (.pair (.i .i64) .unit))) (.pair (.pair .bool (.pair (.sl (.u .u64)) (.pair (.i .i64) .unit))) (.pair (.sl (.sl (.pair (.pair .bool (.pair (.sl (.u .u64)) (.pair (.i .i64) .unit))) (.pair (.pair .bool (.pair (.sl (.u .u64)) (.pair (.i .i64) .unit))) .unit)))) (.pair (.sl (.sl (.pair (.sl (.pair .bool (.pair (.sl (.u .u64)) (.pair (.i .i64) .unit)))) (.pair (.sl (.pair (.pair .bool (.pair (.sl (.u .u64)) (.pair (.i .i64) .unit))) (.pair (.pair .bool (.pair (.sl (.u .u64)) (.pair (.i .i64) .unit))) .unit))) .unit)))) .unit))))))) r_0))]) h rfl (by simp only [go_sem]) ?_
   rintro i_58 A4 T4 hA4 hE4 h
   simp only [go_sem]
   replace h : sat (mI r_0 i_58) _ := h
   unfold mI at h
   refine eZ h (fun hc h => ?_) fun hc h => ?_
   ·refine aN h fun g0 h => ?_
    obtain ⟨v_67, hv, h⟩ := cI h
    try simp only [hv, go_sem]
    refine aF5 h (fun hc h => ?_) fun hc h => ?_
    ·replace h := hE4 _ (aB h)
     try dsimp only at h
     exact aK hF [.tmp 2] rfl rfl rfl (aB h) (by simp only [aZ, go_sem])
    ·refine aN h fun g0 h => ?_
     replace h := hA4 _ (aB h)
     exact aY _ h rfl (by simp only [go_sem])
   ·replace h := hE4 _ (aB h)
    try dsimp only at h
    exact aY (()) h rfl (by simp only [go_sem])
  ·rintro u h
   simp only [go_sem]
   replace h : sat (mH r_0) _ := h
   unfold mH at h
   refine cK hF (D := Int) [] (fun d => [(1, .ptr 0 []), (4, .val (.i .i64) d)]) (fun d => [.inr (.box 11 (.val (.pair (.i .i64) (.pair (.i .i64) (.pair (.i .i64) (.pair (.pair .bool (.pair (.sl (.u .u64)) (.pair (.i .i64) .unit))) (.pair (.pair .bool (.pair (.sl (.u .u64)) (.pair (.i .i64) .unit))) (.pair (.sl (.sl (.pair (.pair .bool (.pair (.sl (.u .u64)) (.pair (.i .i64) .unit))) (.pair (.pair .bool (.pair (.sl (.u .u64)) (.pair (.i .i64) .unit))) .unit)))) (.pair (.sl (.sl (.pair (.sl (.pair .bool (.pair (.sl (.u .u64)) (.pair (.i .i64) .unit)))) (.pair (.sl (.pair (.pair .bool (.pair (.sl (.u .u64)) (.pair (.i .i64) .unit))) (.pair (.pair .bool (.pair (.sl (.u .u64)) (.pair (.i .i64) .unit))) .unit))) .unit)))) .unit))))))) r_0))]) h rfl (by simp only [go_sem]) ?_
   rintro i_28 A9 T9 hA9 hE9 h
   simp only [go_sem]
   replace h : sat (mG r_0 i_28) _ := h
   unfold mG at h
   refine eZ h (fun hc h => ?_) fun hc h => ?_
   ·refine aN h fun g0 h => ?_
    refine eZ h (fun hc h => ?_) fun hc h => ?_
    ·replace h := hE9 _ (aB h)
     try dsimp only at h
     exact aK hF [.tmp 2] rfl rfl rfl (aB h) (by simp only [aZ, go_sem])
    ·refine cK hF (D := Int) [4] (fun d => [(1, .ptr 0 []), (5, .val (.i .i64) d)]) (fun d => [.inr (.box 11 (.val (.pair (.i .i64) (.pair (.i .i64) (.pair (.i .i64) (.pair (.pair .bool (.pair (.sl (.u .u64)) (.pair (.i .i64) .unit))) (.pair (.pair .bool (.pair (.sl (.u .u64)) (.pair (.i .i64) .unit))) (.pair (.sl (.sl (.pair (.pair .bool (.pair (.sl (.u .u64)) (.pair (.i .i64) .unit))) (.pair (.pair .bool (.pair (.sl (.u .u64)) (.pair (.i .i64) .unit))) .unit)))) (.pair (.sl (.sl (.pair (.sl (.pair .bool (.pair (.sl (.u .u64)) (.pair (.i .i64) .unit)))) (.pair (.sl (.pair (.pair .bool (.pair (.sl (.u .u64)) (.pair (.i .i64) .unit))) (.pair (.pair .bool (.pair (.sl (.u .u64)) (.pair (.i .i64) .unit))) .unit))) .unit)))) .unit))))))) r_0))]) h rfl (by simp only [go_sem]) ?_
     rintro k_44 A14 T14 hA14 hE14 h
     simp only [go_sem]
     replace h : sat (kS i_28 r_0 k_44) _ := h
     unfold kS at h
     refine aN h fun g0 h => ?_
     refine eZ h (fun hc h => ?_) fun hc h => ?_
     ·refine aN h fun g0 h => aN h fun g1 h => ?_
      obtain ⟨v_53, hv, h⟩ := cI h
      try simp only [hv, go_sem]
      refine aF5 h (fun hc h => ?_) fun hc h => ?_
      ·replace h := hE14 _ (aB h)
       try dsimp only at h
       replace h := hE9 _ (aB h)
       try dsimp only at h
       exact aK hF [.tmp 2] rfl rfl rfl (aB h) (by simp only [aZ, go_sem])
      ·refine aN h fun g0 h => ?_
       replace h := hA14 _ (aB h)
       exact aY _ h rfl (by simp only [go_sem])
     ·replace h := hE14 _ (aB h)
      try dsimp only at h
      refine aN h fun g0 h => ?_
      replace h := hA9 _ (aB h)
      exact aY _ h rfl (by simp only [go_sem])
   ·replace h := hE9 _ (aB h)
    try dsimp only at h
    exact aK hF [.tmp 2] rfl rfl rfl (aB h) (by simp only [aZ, go_sem])
attribute [go_sem] uR
noncomputable def jG : Option Bool :=
 (fK ((false, ([] : List Nat), (0 : Int), ()), (false, ([1] : List Nat), (-3 : Int), ()), ()) (1 : Int)).bind (fun v_5 => (eI ((3 : Int), (3 : Int), (100 : Int), (false, ([1] : List Nat), (0 : Int), ()), (false, ([] : List Nat), (0 : Int), ()), ([] : List (List qI0)), ([] : List (List qT0)), ()) (1 : Int)).bind (fun v_9 => (eI ((0 : Int), (0 : Int), (0 : Int), (false, ([] : List Nat), (0 : Int), ()), (false, ([] : List Nat), (0 : Int), ()), ([] : List (List qI0)), ([] : List (List qT0)), ()) (1 : Int)).bind (fun v_13 => (lS ([] : List qR0) (1 : Int)).bind (fun v_17 => some (((((((decide (((v_5.2).1) = (0 : Int))) && (decide ((v_5.1) = (aX ⟨#[91, 48, 46, 48, 44, 32, 48, 46, 50, 93]⟩)))) && (decide (((v_9.2).1) = (0 : Int)))) && (decide ((v_9.1) = (aX ⟨#[101, 110, 100, 32, 51, 32, 49, 46, 48, 32, 49, 48, 48, 10]⟩)))) && (decide (((v_13.2).1) = (1 : Int)))) && (decide (((v_17.2).1) = (0 : Int)))) && (decide ((v_17.1) = (aX ⟨#[]⟩))))))))
def aBT : PlR := ⟨[(0, .A []), (1, .B [1]), (2, .A [2, 3]), (3, .A [2, 3, 4, 5]), (4, .A [2, 3, 4, 5, 7]), (5, .A [2, 3, 4, 5, 7, 8, 9]), (6, .A [0])], []⟩
def aC7 : Ty := .unit
noncomputable def sR : aJ := mSpec aC7 (.one .bool) (fun x => jG )
noncomputable def uS : List (FuncId × aJ) := [(6, gX), (7, mC), (8, mB)]
theorem aJS : cB Tryd.prog GL uS := .cons vY (by kernel_rfl) (.cons aBh (by kernel_rfl) (.cons aA8 (by kernel_rfl) (.nil)))
theorem aGU : gam uS 6 = some gX := rfl
theorem aGV : gam uS 7 = some mC := rfl
theorem aGW : gam uS 8 = some mB := rfl
attribute [go_sem] aC7 aBT aGU aGV aGW
set_option maxHeartbeats 4000000 in
theorem aH5 : FOK Tryd.prog GL 4 sR := by
 refine cE (bW aJS) mix Tryd.func4 rfl (by kernel_rfl) (by decide) aBT fun w0 S x Θ hw h hF => ?_
 simp only [cH, go_sem]
 replace h : sat (jG) _ := h
 unfold jG at h
 obtain ⟨v_5, hv, h⟩ := cI h
 try simp only [hv, go_sem]
 obtain ⟨v_9, hv, h⟩ := cI h
 try simp only [hv, go_sem]
 obtain ⟨v_13, hv, h⟩ := cI h
 try simp only [hv, go_sem]
 obtain ⟨v_17, hv, h⟩ := cI h
 try simp only [hv, go_sem]
 exact aK hF [.tmp 0] rfl rfl rfl (aB h) (by simp only [aZ, go_sem])
attribute [go_sem] sR
end Nu
end Go.Proofs
namespace Go.Proofs
open Go.Vc
set_option maxRecDepth 20000
namespace Nu
theorem aSv : txt 0 = [] := by unfold txt; rw [if_pos rfl]
theorem aSw : txt 2 = [50] := by unfold txt; rw [if_neg (by decide), aL9 (by decide)]
theorem aRD : txt 10 = [49, 48] := by unfold txt; rw [if_neg (by decide), aPV (by decide) (by decide)]
abbrev w8 : Dy := (false, [1], -3, ())
abbrev w1 : Dy := (false, [1], 0, ())
theorem aQc : oW d0 = true ∧ oW w8 = true ∧ oW w1 = true := by decide +kernel
theorem aTf : txQ d0 1 false = 0 := by decide +kernel
theorem aTg : txQ w8 1 true = 2 := by decide +kernel
theorem aTh : txQ w1 1 false = 10 := by decide +kernel
theorem aTi : jK d0 1 false = ([48, 46, 48], 0, ()) := by
 unfold jK
 rw [if_neg (by rw [aQc.1]; decide), if_neg (by decide), show ((1 : Int).toNat) = 1 from rfl, aTf, aSv]
 rfl
theorem aTj : jK w8 1 true = ([48, 46, 50], 0, ()) := by
 unfold jK
 rw [if_neg (by rw [aQc.2.1]; decide), if_neg (by decide), show ((1 : Int).toNat) = 1 from rfl, aTg, aSw]
 rfl
theorem aTk : jK w1 1 false = ([49, 46, 48], 0, ()) := by
 unfold jK
 rw [if_neg (by rw [aQc.2.2]; decide), if_neg (by decide), show ((1 : Int).toNat) = 1 from rfl, aTh, aRD]
 rfl
theorem aTl : oU (d0, w8, ()) 1 = ([91, 48, 46, 48, 44, 32, 48, 46, 50, 93], 0, ()) := by
 unfold oU
 have hm : aC2 (d0, w8, ()) = true := by decide +kernel
 rw [if_neg (by rw [hm]; decide)]
 simp only
 rw [aTi, aTj]
 rfl
theorem aSR : tQ (3, 3, 100, w1, d0, [], [], ()) = true := by decide +kernel
theorem aTm : tQ rz = false := by decide +kernel
theorem aQd : mJ 100 = [49, 48, 48] := by
 unfold mJ
 rw [Lib.nDigits_big (by decide), Lib.nDigits_big (by decide), Lib.nDigits_small (by decide)]
 rfl
theorem aSx : lG (3, 3, 100, w1, d0, [], [], ()) 1 = ([101, 110, 100, 32, 51, 32, 49, 46, 48, 32, 49, 48, 48, 10], 0, ()) := by
 have hw : nE (3, 3, 100, w1, d0, [], [], ()) 1 = [([101, 110, 100], 0, ()), ([51], 0, ()), ([49, 46, 48], 0, ()), ([49, 48, 48], 0, ())] := by
  unfold nE aEr
  rw [if_neg (by decide), if_neg (by decide)]
  simp only
  rw [aTk, show ((3 : Int).toNat) = 3 from rfl, show ((100 : Int).toNat) = 100 from rfl, aQd, aL9 (by decide)]
  rfl
 unfold lG
 rw [if_neg (by rw [aSR]; decide), hw]
 rfl
theorem aQe : Lm [1] := by intro x hx; simp at hx; subst hx; decide
theorem aJT : Lm [] := fun x hx => by cases hx
theorem aBs : jG = some true := by
 have lr : LmR (3, 3, 100, w1, d0, [], [], ()) := ⟨aQe, aJT, fun b hb => by (first | cases hb | simp at hb), fun b hb => by (first | cases hb | simp at hb)⟩
 have lz : LmR rz := ⟨aJT, aJT, fun b hb => by (first | cases hb | simp at hb), fun b hb => by (first | cases hb | simp at hb)⟩
 have h1 := aLh (d0, w8, ()) 1 ⟨aJT, aQe⟩
 have h2 := aFj (3, 3, 100, w1, d0, [], [], ()) 1 lr
 have h3 := aFj rz 1 lz
 have h4 := aGR [] 1 (fun r hr => by (first | cases hr | simp at hr)) (by simp)
 rw [aTl] at h1
 rw [aSx] at h2
 have e3 : lG rz 1 = ([], 1, ()) := by unfold lG; rw [if_pos aTm]
 rw [e3] at h3
 unfold jG
 refine bB h1 (bB h2 (bB h3 (bB h4 ?_)))
 decide +kernel
def shB (a : Iv) : Bool := decide (a.1.2.1.length ≤ 6) && decide (a.2.1.2.1.length ≤ 6)
def aLk (l : List Iv) : Bool := decide (l.length ≤ 8) && l.all shB
def aIJ (t : Tb) : Bool := decide (t.2.1.length ≤ 12 ∧ t.1.length ≤ 14) && t.1.all (fun d => decide (d.2.1.length ≤ 6)) && t.2.1.all shB
def aQf (l : List Tb) : Bool := decide (l.length ≤ 5) && l.all aIJ
def aQg (r : Rec) : Bool := decide (r.2.2.2.2.2.1.length ≤ 6 ∧ r.2.2.2.2.2.2.1.length ≤ 6 ∧ r.2.2.2.1.2.1.length ≤ 70 ∧ r.2.2.2.2.1.2.1.length ≤ 70) && r.2.2.2.2.2.1.all aLk && r.2.2.2.2.2.2.1.all aQf
theorem aQh (l : List Iv) : pN l = some (aLk l) := by
 unfold pN aLk
 by_cases h : l.length ≤ 8
 ·rw [if_neg (by omega), decide_eq_true h, Bool.true_and]
  have hlp : cX (fun d : Int => nQ l d) 0 = some (bif (List.range l.length).all (fun i => shB (l.getD i ((false, [], 0, ()), (false, [], 0, ()), ()))) then .inl () else .inr false) := by
   refine rB l.length _ (fun i hi => ?_) (by unfold nQ; rw [if_neg (by omega)])
   unfold nQ
   rw [if_pos (by omega), Int.toNat_natCast]
   refine aC (by constructor <;> omega) (aC (fun _ => by constructor <;> omega) ?_)
   generalize l.getD i ((false, [], 0, ()), (false, [], 0, ()), ()) = a
   have hI : I64 ((i : Int) + 1) := by constructor <;> omega
   unfold shB
   by_cases h1 : a.1.2.1.length ≤ 6
   ·by_cases h2 : a.2.1.2.1.length ≤ 6
    ·rw [if_neg (by omega), decide_eq_true h1, decide_eq_true h2, xA hI]; rfl
    ·rw [if_pos (by omega), decide_eq_false h2, Bool.and_false]; rfl
   ·rw [if_pos (by omega), decide_eq_false h1]; rfl
  rw [hlp, sE]
  cases l.all shB <;> rfl
 ·rw [if_pos (by omega), decide_eq_false h]; rfl
theorem aQi (t : Tb) : qC t = some (aIJ t) := by
 unfold qC aIJ
 by_cases h : t.2.1.length ≤ 12 ∧ t.1.length ≤ 14
 ·rw [if_neg (by omega), decide_eq_true h, Bool.true_and]
  have h1 : cX (fun d : Int => mF t d) 0 = some (bif (List.range t.1.length).all (fun i => (fun d : Dy => decide (d.2.1.length ≤ 6)) (t.1.getD i (false, [], 0, ()))) then .inl () else .inr false) := by
   refine rB t.1.length _ (fun i hi => ?_) (by unfold mF; rw [if_neg (by omega)])
   unfold mF
   rw [if_pos (by omega), Int.toNat_natCast]
   refine aC (by constructor <;> omega) ?_
   generalize t.1.getD i (false, [], 0, ()) = d
   have hI : I64 ((i : Int) + 1) := by constructor <;> omega
   simp only
   by_cases h1 : d.2.1.length ≤ 6
   ·rw [if_neg (by omega), decide_eq_true h1, xA hI]; rfl
   ·rw [if_pos (by omega), decide_eq_false h1]; rfl
  have h2 : cX (fun d : Int => mD t d) 0 = some (bif (List.range t.2.1.length).all (fun i => shB (t.2.1.getD i ((false, [], 0, ()), (false, [], 0, ()), ()))) then .inl () else .inr false) := by
   refine rB t.2.1.length _ (fun i hi => ?_) (by unfold mD; rw [if_neg (by omega)])
   have e : List.drop i (List.take (i + 1) t.2.1) = [t.2.1.getD i ((false, [], 0, ()), (false, [], 0, ()), ())] := by
    rw [List.take_add_one, List.drop_append_of_le_length (by rw [List.length_take]; omega), List.drop_of_length_le (by rw [List.length_take]; omega)]
    simp [List.getD, hi]
   have hr := aQh [t.2.1.getD i ((false, [], 0, ()), (false, [], 0, ()), ())]
   unfold mD
   rw [if_pos (by omega), Int.toNat_natCast, show ((i : Int) + 1).toNat = i + 1 from by omega, e]
   refine aC (by constructor <;> omega) (aC (by refine ⟨?_, ?_, ?_⟩ <;> omega) (bB hr ?_))
   generalize t.2.1.getD i ((false, [], 0, ()), (false, [], 0, ()), ()) = a
   have hI : I64 ((i : Int) + 1) := by constructor <;> omega
   have hb : aLk [a] = shB a := by simp [aLk]
   rw [hb]
   cases shB a with
   | true => rw [if_neg (by decide), xA hI]; rfl
   | false => rw [if_pos (by decide)]; rfl
  have hj : mE t = some (t.2.1.all shB) := by
   unfold mE
   rw [h2, sE]
   cases t.2.1.all shB <;> rfl
  rw [h1, sE t.1 (false, [], 0, ()) (fun d : Dy => decide (d.2.1.length ≤ 6))]
  cases t.1.all (fun d => decide (d.2.1.length ≤ 6)) with
  | true => exact hj
  | false => rfl
 ·rw [if_pos (by omega), decide_eq_false h]; rfl
theorem aN7 (r : Rec) (i : Nat) (hi : i < r.2.2.2.2.2.2.1.length) (hn : r.2.2.2.2.2.2.1.length ≤ 6) (s : List Tb) (hs : r.2.2.2.2.2.2.1.getD i [] = s) (hl : s.length ≤ 5) :
  cX (fun d : Int => kS (i : Int) r d) 0 = some (bif s.all aIJ then .inl () else .inr false) := by
 rw [← sE s ([], [], ())]
 refine rB s.length _ (fun k hk => ?_) (by unfold kS; rw [Int.toNat_natCast, hs]; exact aC (by constructor <;> omega) (by rw [if_neg (by omega)]))
 unfold kS
 rw [Int.toNat_natCast, Int.toNat_natCast, hs]
 refine aC (by constructor <;> omega) ?_
 rw [if_pos (by omega)]
 refine aC (by constructor <;> omega) (aC (by constructor <;> omega) (bB (aQi _) ?_))
 cases aIJ (s.getD k ([], [], ())) with
 | true => rw [if_neg (by decide)]; exact aC (by constructor <;> omega) rfl
 | false => rw [if_pos (by decide)]; rfl
theorem aGX (r : Rec) : qD r = some (aQg r) := by
 unfold qD aQg
 by_cases h : r.2.2.2.2.2.1.length ≤ 6 ∧ r.2.2.2.2.2.2.1.length ≤ 6 ∧ r.2.2.2.1.2.1.length ≤ 70 ∧ r.2.2.2.2.1.2.1.length ≤ 70
 ·rw [if_neg (by omega), decide_eq_true h, Bool.true_and]
  have h1 : cX (fun d : Int => mI r d) 0 = some (bif (List.range r.2.2.2.2.2.1.length).all (fun i => aLk (r.2.2.2.2.2.1.getD i [])) then .inl () else .inr false) := by
   refine rB r.2.2.2.2.2.1.length _ (fun i hi => ?_) (by unfold mI; rw [if_neg (by omega)])
   unfold mI
   rw [if_pos (by omega), Int.toNat_natCast]
   refine aC (by constructor <;> omega) (bB (aQh _) ?_)
   have hI : I64 ((i : Int) + 1) := by constructor <;> omega
   cases aLk (r.2.2.2.2.2.1.getD i []) with
   | true => rw [if_neg (by decide), xA hI]; rfl
   | false => rw [if_pos (by decide)]; rfl
  have h2 : cX (fun d : Int => mG r d) 0 = some (bif (List.range r.2.2.2.2.2.2.1.length).all (fun i => aQf (r.2.2.2.2.2.2.1.getD i [])) then .inl () else .inr false) := by
   refine rB r.2.2.2.2.2.2.1.length _ (fun i hi => ?_) (by unfold mG; rw [if_neg (by omega)])
   unfold mG
   rw [if_pos (by omega), Int.toNat_natCast]
   refine aC (by constructor <;> omega) ?_
   have hI : I64 ((i : Int) + 1) := by constructor <;> omega
   unfold aQf
   by_cases h5 : (r.2.2.2.2.2.2.1.getD i []).length ≤ 5
   ·have h14 := aN7 r i hi (by omega) _ rfl h5
    rw [if_neg (by omega), decide_eq_true h5, h14]
    cases (r.2.2.2.2.2.2.1.getD i []).all aIJ with
    | true => exact bB rfl (aC hI rfl)
    | false => rfl
   ·rw [if_pos (by omega), decide_eq_false h5]; rfl
  have hj : mH r = some (r.2.2.2.2.2.2.1.all aQf) := by
   unfold mH
   rw [h2, sE]
   cases r.2.2.2.2.2.2.1.all aQf <;> rfl
  rw [h1, sE]
  cases r.2.2.2.2.2.1.all aLk with
  | true => exact hj
  | false => rfl
 ·rw [if_pos (by omega), decide_eq_false h]; rfl
abbrev tyD : Ty := .pair .bool (.pair (.sl (.u .u64)) (.pair (.i .i64) .unit))
abbrev tyI : Ty := .pair tyD (.pair tyD .unit)
abbrev tyT : Ty := .pair (.sl tyD) (.pair (.sl tyI) .unit)
abbrev tyR : Ty := .pair (.i .i64) (.pair (.i .i64) (.pair (.i .i64) (.pair tyD (.pair tyD (.pair (.sl (.sl tyI)) (.pair (.sl (.sl tyT)) .unit))))))
theorem aQj {d : Dy} (h : tyD.wf d) : Lm d.2.1 := rH h.2.1
theorem aSS {a : Iv} (h : tyI.wf a) : LmI a := ⟨aQj h.1, aQj h.2.1⟩
theorem aTn {t : Tb} (h : tyT.wf t) : LmT t := ⟨fun d hd => aQj (h.1.2 d hd), fun a ha => aSS (h.2.1.2 a ha)⟩
theorem aTo {r : Rec} (h : tyR.wf r) : LmR r := ⟨aQj h.2.2.2.1, aQj h.2.2.2.2.1, fun b hb a ha => aSS ((h.2.2.2.2.2.1.2 b hb).2 a ha), fun l hl t ht => aTn ((h.2.2.2.2.2.2.1.2 l hl).2 t ht)⟩
end Nu
end Go.Proofs
namespace Go.Proofs
open Go.Vc
set_option maxRecDepth 20000
namespace Nu
noncomputable def eU (l_0 : (List qR0)) (digits_1 : Int) (s_39 : (List Nat)) : Option (Bool) :=
 (lS l_0 (IntKind.i64.wrap (((((digits_1 % (18446744073709551616 : Int)).toNat) % (21 : Nat)) : Nat) : Int))).bind (fun v_43 => (jG).bind (fun v_47 => some ((v_47 && (decide (((v_43.2).1) = (0 : Int)))) && (decide ((v_43.1) = s_39)))))
noncomputable def dB (v_106 : ((List Nat) × (Int × Unit))) (k_121 : Int) : Option ((Int) ⊕ ((Unit) ⊕ Bool)) :=
 if k_121 < ((v_106.1).length : Int) then ck (0 ≤ k_121 ∧ k_121 < ((v_106.1).length : Int)) (ck (I64 (((((v_106.1).length) : Nat) : Int) - (1 : Int))) (if ((decide (((v_106.1).getD (k_121.toNat) (0 : Nat)) = (10 : Nat))) != (decide (k_121 = (((((v_106.1).length) : Nat) : Int) - (1 : Int))))) = true then some (.inr (.inr false)) else ck (I64 (k_121 + (1 : Int))) (some (.inl (k_121 + (1 : Int)))))) else some (.inr (.inl ()))
noncomputable def eV (l_0 : (List qR0)) (digits_1 : Int) (s_61 : (List Nat)) (i_62 : Int) : Option (((List Nat) × Int) ⊕ (((List Nat)) ⊕ Bool)) :=
 if i_62 < (l_0.length : Int) then ck (0 ≤ i_62 ∧ i_62 < (l_0.length : Int)) ((qD (l_0.getD (i_62.toNat) ((0 : Int), (0 : Int), (0 : Int), (false, ([] : List Nat), (0 : Int), ()), (false, ([] : List Nat), (0 : Int), ()), ([] : List (List qI0)), ([] : List (List qT0)), ()))).bind (fun v_98 => if ¬ (v_98 = true) then (jG).bind (fun v_102 => some (.inr (.inr v_102))) else ck (0 ≤ i_62 ∧ i_62 < (l_0.length : Int)) ((eI (l_0.getD (i_62.toNat) ((0 : Int), (0 : Int), (0 : Int), (false, ([] : List Nat), (0 : Int), ()), (false, ([] : List Nat), (0 : Int), ()), ([] : List (List qI0)), ([] : List (List qT0)), ())) (IntKind.i64.wrap (((((digits_1 % (18446744073709551616 : Int)).toNat) % (21 : Nat)) : Nat) : Int))).bind (fun v_106 => if ¬ (((v_106.2).1) = (0 : Int)) then (lS l_0 (IntKind.i64.wrap (((((digits_1 % (18446744073709551616 : Int)).toNat) % (21 : Nat)) : Nat) : Int))).bind (fun v_114 => (jG).bind (fun v_118 => some (.inr (.inr ((v_118 && (decide (((v_114.2).1) = ((v_106.2).1)))) && (decide ((v_114.1) = (aX ⟨#[]⟩)))))))) else (cX (fun d : Int => dB v_106 d) (0 : Int)).bind (fun e => match e with | (.inl e) => ck ((s_61.length) + ((v_106.1).length) ≤ 9223372036854775807) (ck (I64 (i_62 + (1 : Int))) (some (.inl ((s_61 ++ (v_106.1)), (i_62 + (1 : Int)))))) | (.inr e) => some (.inr (.inr e))))))) else some (.inr (.inl s_61))
noncomputable def iT (l_0 : (List qR0)) (digits_1 : Int) : Option Bool :=
 if (6 : Int) < (l_0.length : Int) then (jG).bind (fun v_8 => some v_8) else (cX (fun d : (List Nat) × Int => eV l_0 digits_1 d.1 d.2) ((aX ⟨#[]⟩), (0 : Int))).bind (fun e => match e with | (.inl e) => eU l_0 digits_1 e | (.inr e) => some e)
def tL : PlR := ⟨[(0, .A [0, 1]), (1, .A [0, 1, 17]), (2, .A [4]), (3, .A [0, 5]), (4, .A [0, 5, 6]), (5, .A [0, 5, 6, 7]), (6, .A [0, 5, 6, 7, 26]), (7, .A [0, 5, 6, 7]), (8, .A [0, 5, 6, 7, 34]), (9, .A [4]), (10, .A [0, 5, 6, 7, 8, 9]), (11, .A [0, 5, 6, 7, 8, 9, 46]), (12, .A [9, 10, 11]), (13, .A [4]), (14, .A [0, 5, 6, 7, 8, 12]), (15, .A [0, 5, 6, 7, 8, 12, 66]), (16, .A [0, 5, 6, 7, 8, 12]), (17, .A [0, 5, 6, 7, 8, 12, 78]), (18, .A [4]), (19, .A [0, 5, 6, 7]), (20, .A [6, 13, 14]), (21, .A [4])], [(8, 23)]⟩
def lX : Ty := .pair (.sl (.pair (.i .i64) (.pair (.i .i64) (.pair (.i .i64) (.pair (.pair .bool (.pair (.sl (.u .u64)) (.pair (.i .i64) .unit))) (.pair (.pair .bool (.pair (.sl (.u .u64)) (.pair (.i .i64) .unit))) (.pair (.sl (.sl (.pair (.pair .bool (.pair (.sl (.u .u64)) (.pair (.i .i64) .unit))) (.pair (.pair .bool (.pair (.sl (.u .u64)) (.pair (.i .i64) .unit))) .unit)))) (.pair (.sl (.sl (.pair (.sl (.pair .bool (.pair (.sl (.u .u64)) (.pair (.i .i64) .unit)))) (.pair (.sl (.pair (.pair .bool (.pair (.sl (.u .u64)) (.pair (.i .i64) .unit))) (.pair (.pair .bool (.pair (.sl (.u .u64)) (.pair (.i .i64) .unit))) .unit))) .unit)))) .unit)))))))) (.pair (.i .i64) .unit)
noncomputable def tM : aJ := mSpec lX (.one .bool) (fun x => iT x.1 x.2.1)
noncomputable def iU : List (FuncId × aJ) := [(4, sR), (5, uR), (6, gX), (7, mC)]
theorem aBz : cB Tryd.prog GL iU := .cons aH5 (by kernel_rfl) (.cons aJR (by kernel_rfl) (.cons vY (by kernel_rfl) (.cons aBh (by kernel_rfl) (.nil))))
theorem aAp : gam iU 4 = some sR := rfl
theorem aAq : gam iU 5 = some uR := rfl
theorem aAr : gam iU 6 = some gX := rfl
theorem aAs : gam iU 7 = some mC := rfl
attribute [go_sem] lX tL aAp aAq aAr aAs
set_option maxHeartbeats 4000000 in
theorem aBj : FOK Tryd.prog GL 3 tM := by
 refine cE (bW aBz) mix Tryd.func3 rfl (by kernel_rfl) (by decide) tL fun w0 S x Θ hw h hF => ?_
 obtain ⟨(l_0 : (List qR0)), (digits_1 : Int), u⟩ := x
 simp only [cH, go_sem]
 replace h : sat (iT l_0 digits_1) _ := h
 unfold iT at h
 refine eZ h (fun hc h => ?_) fun hc h => ?_
 ·obtain ⟨v_8, hv, h⟩ := cI h
  try simp only [hv, go_sem]
  exact aK hF [.tmp 4] rfl rfl rfl (aB h) (by simp only [aZ, go_sem])
 ·refine gB hF (D := (List Nat)) (fun d => sat (eU l_0 digits_1 d) Θ) [0, 5] (fun d => [(6, .val .str d)]) (fun d => []) ?_ ?_
  ·simp only [go_sem]
   refine cK hF (D := (List Nat) × Int) [0, 5] (fun d => [(6, .val .str d.1), (7, .val (.i .i64) d.2)]) (fun d => []) h rfl (by simp only [go_sem]) ?_
   rintro ⟨s_61, i_62⟩ A6 T6 hA6 hE6 h
   simp only [go_sem]
   replace h : sat (eV l_0 digits_1 s_61 i_62) _ := h
   unfold eV at h
   refine eZ h (fun hc h => ?_) fun hc h => ?_
   ·refine aN h fun g0 h => ?_
    obtain ⟨v_98, hv, h⟩ := cI h
    try simp only [hv, go_sem]
    refine aF5 h (fun hc h => ?_) fun hc h => ?_
    ·obtain ⟨v_102, hv, h⟩ := cI h
     try simp only [hv, go_sem]
     replace h := hE6 _ (aB h)
     try dsimp only at h
     exact aK hF [.tmp 4] rfl rfl rfl (aB h) (by simp only [aZ, go_sem])
    ·refine aN h fun g0 h => ?_
     obtain ⟨v_106, hv, h⟩ := cI h
     try simp only [hv, go_sem]
     refine iX h (fun hc h => ?_) fun hc h => ?_
     ·obtain ⟨v_114, hv, h⟩ := cI h
      try simp only [hv, go_sem]
      obtain ⟨v_118, hv, h⟩ := cI h
      try simp only [hv, go_sem]
      replace h := hE6 _ (aB h)
      try dsimp only at h
      exact aK hF [.tmp 4] rfl rfl rfl (aB h) (by simp only [aZ, go_sem])
     ·refine cK hF (D := Int) [0, 5, 6, 7, 8] (fun d => [(12, .val (.i .i64) d)]) (fun d => []) h rfl (by simp only [go_sem]) ?_
      rintro k_121 A15 T15 hA15 hE15 h
      simp only [go_sem]
      replace h : sat (dB v_106 k_121) _ := h
      unfold dB at h
      refine eZ h (fun hc h => ?_) fun hc h => ?_
      ·refine aN h fun g0 h => aN h fun g1 h => ?_
       refine aDX h (fun hc h => ?_) fun hc h => ?_
       ·replace h := hE15 _ (aB h)
        try dsimp only at h
        replace h := hE6 _ (aB h)
        try dsimp only at h
        exact aK hF [.tmp 4] rfl rfl rfl (aB h) (by simp only [aZ, go_sem])
       ·refine aN h fun g0 h => ?_
        replace h := hA15 _ (aB h)
        exact aY _ h rfl (by simp only [go_sem])
      ·replace h := hE15 _ (aB h)
       try dsimp only at h
       refine aN h fun g0 h => ?_
       refine aN h fun g0 h => ?_
       replace h := hA6 _ (aB h)
       exact aY _ h rfl (by simp only [go_sem])
   ·replace h := hE6 _ (aB h)
    try dsimp only at h
    exact aY (s_61) h rfl (by simp only [go_sem])
  ·rintro s_39 h
   simp only [go_sem]
   replace h : sat (eU l_0 digits_1 s_39) _ := h
   unfold eU at h
   obtain ⟨v_43, hv, h⟩ := cI h
   try simp only [hv, go_sem]
   obtain ⟨v_47, hv, h⟩ := cI h
   try simp only [hv, go_sem]
   exact aK hF [.tmp 4] rfl rfl rfl (aB h) (by simp only [aZ, go_sem])
attribute [go_sem] tM
end Nu
end Go.Proofs
namespace Go.Proofs
open Go.Vc
set_option maxRecDepth 20000
namespace Nu
def yN (l : List Nat) : Prop := ∀ x ∈ l, x ≠ 10
theorem rC {a b : List Nat} (h1 : yN a) (h2 : yN b) : yN (a ++ b) := fun x hx => by
 rcases List.mem_append.1 hx with h | h
 ·exact h1 x h
 ·exact h2 x h
theorem aC8 (u : Nat) : yN (mJ u) := fun x hx => by
 unfold mJ dgs at hx
 obtain ⟨t, _, rfl⟩ := List.mem_map.1 hx
 omega
theorem aQk (u : Nat) : yN (txt u) := by
 unfold txt
 split
 ·exact fun x hx => by cases hx
 ·exact aC8 u
theorem yO (d : Dy) (n : Int) (up : Bool) : yN (jK d n up).1 := by
 have h0 : yN [] := fun x hx => by cases hx
 unfold jK
 split
 ·exact h0
 ·split
  ·exact h0
  ·have hp : yN (aAn n.toNat (txt (txQ d n.toNat up))) := by
    unfold aAn
    refine rC (fun x hx => ?_) (aQk _)
    rw [(List.mem_replicate.1 hx).2]; decide
   have hpt : yN (ptS n.toNat (aAn n.toNat (txt (txQ d n.toNat up)))) := by
    unfold ptS
    split
    ·refine rC (rC (fun x hx => hp x (List.mem_of_mem_take hx)) (fun x hx => ?_)) (fun x hx => hp x (List.mem_of_mem_drop hx))
     simp only [List.mem_cons, List.not_mem_nil, or_false] at hx
     rw [hx]; decide
    ·exact hp
   show yN (sgS _ _ _)
   unfold sgS
   split
   ·intro x hx
    rcases List.mem_cons.1 hx with rfl | hx
    ·decide
    ·exact hpt x hx
   ·exact hpt
theorem oG {l : List Nat} (h : l.all (fun x => decide (x ≠ 10)) = true) : yN l := fun x hx => by
 have := List.all_eq_true.1 h x hx
 simpa using this
theorem aN8 (a : Iv) (n : Int) : yN (oU a n).1 := by
 have h0 : yN [] := fun x hx => by cases hx
 unfold oU
 split
 ·exact h0
 ·split
  ·exact h0
  ·split
   ·exact h0
   ·exact rC (rC (rC (rC (oG (by decide)) (yO _ _ _)) (oG (by decide))) (yO _ _ _)) (oG (by decide))
theorem aMh (r : Rec) (n : Int) : ∀ w ∈ (nE r n).map (·.1), yN w := by
 have hk : yN (yM r.1) := by
  unfold yM
  split
  ·exact oG (by decide)
  ·split
   ·exact oG (by decide)
   ·split
    ·exact oG (by decide)
    ·exact oG (by decide)
 have ht : ∀ w ∈ (aEr r n).map (·.1), yN w := by
  unfold aEr
  split
  ·intro w hw
   simp only [List.map_cons, List.map_map, List.mem_cons, List.mem_map] at hw
   rcases hw with rfl | ⟨a, _, rfl⟩
   ·exact yO _ _ _
   ·exact aN8 a n
  ·split
   ·intro w hw
    simp only [List.map_cons, List.map_nil, List.mem_cons, List.not_mem_nil, or_false] at hw
    rcases hw with rfl | rfl
    ·exact yO _ _ _
    ·exact aC8 _
   ·intro w hw
    simp only [List.map_cons, List.map_nil, List.mem_cons, List.not_mem_nil, or_false] at hw
    subst hw
    exact aC8 _
 intro w hw
 unfold nE at hw
 simp only [List.map_append, List.map_cons, List.map_nil, List.mem_append, List.mem_cons, List.not_mem_nil, or_false] at hw
 rcases hw with (rfl | rfl | rfl) | hw
 ·exact hk
 ·exact aC8 _
 ·exact yO _ _ _
 ·exact ht w hw
theorem aIK : ∀ (xs : List (List Nat)), (∀ x ∈ xs, yN x) → yN (qA xs [32])
 | [], _ => fun x hx => by cases hx
 | [x], h => by
  have := h x (by simp)
  simpa [qA, List.intercalate] using this
 | x :: y :: r, h => by
  have h1 := h x (by simp)
  have h2 := aIK (y :: r) (fun z hz => h z (by simp at hz ⊢; exact .inr hz))
  unfold qA at h2 ⊢
  simp only [List.intercalate, List.intersperse, List.flatten_cons] at h2 ⊢
  exact rC h1 (rC (oG (by decide)) h2)
theorem aMi (r : Rec) (n : Int) (h : (lG r n).2.1 = 0) : ∃ w, (lG r n).1 = w ++ [10] ∧ yN w := by
 unfold lG at h ⊢
 split at h
 ·cases h
 ·rename_i h1
  split at h
  ·rename_i h2; exact absurd h h2
  ·rename_i h2
   rw [if_neg h1, if_neg h2]
   exact ⟨_, rfl, aIK _ (aMh r n)⟩
theorem aMj (v : Tx) (w : List Nat) (hv : v.1 = w ++ [10]) (hw : yN w) (hl : w.length ≤ 100000000000) : cX (fun d : Int => dB v d) 0 = some (.inl ()) := by
 have hlen : v.1.length = w.length + 1 := by rw [hv]; simp
 have h := rB (step := fun d : Int => dB v d) v.1.length (fun _ => true) (fun i hi => by
  unfold dB
  rw [if_pos (by omega), Int.toNat_natCast]
  refine aC (by constructor <;> omega) (aC (by constructor <;> omega) ?_)
  have hb : (decide (v.1.getD i 0 = 10) != decide ((i : Int) = (v.1.length : Int) - 1)) = false := by
   rcases Nat.lt_or_ge i w.length with h1 | h1
   ·have e : v.1.getD i 0 = w[i] := by rw [hv]; simp [List.getD, List.getElem?_append_left h1, h1]
    have := hw w[i] (List.getElem_mem h1)
    rw [e, decide_eq_false this, decide_eq_false (by omega)]; rfl
   ·obtain rfl : i = w.length := by omega
    have e : v.1.getD w.length 0 = 10 := by rw [hv]; simp [List.getD]
    rw [e, decide_eq_true rfl, decide_eq_true (by omega)]; rfl
  rw [hb, if_neg (by decide)]
  exact aC (by constructor <;> omega) rfl) (by unfold dB; rw [if_neg (by omega)])
 have ha : (List.range v.1.length).all (fun _ => true) = true := List.all_eq_true.2 fun _ _ => rfl
 rw [h, ha]
 rfl
theorem aMk (l : List Rec) (n : Int) (h : (cS l n).2.1 ≠ 0) : cS l n = ([], (cS l n).2.1, ()) := by
 cases l with
 | nil => exact absurd rfl h
 | cons r l =>
  rw [cS] at h ⊢
  split at h
  ·rename_i h1; rw [if_pos h1]
  ·rename_i h1
   rw [if_neg h1]
   split at h
   ·rename_i h2; rw [if_pos h2]
   ·exact absurd rfl h
theorem aDJ (l : List Rec) (n0 : Int) (lm : ∀ r ∈ l, LmR r) : iT l n0 = some true := by
 unfold iT
 by_cases h : (6 : Int) < (l.length : Int)
 ·rw [if_pos h]; exact bB aBs rfl
 ·rw [if_neg h]
  have hn : ∃ n, IntKind.i64.wrap ((((n0 % (18446744073709551616 : Int)).toNat % 21 : Nat)) : Int) = n := ⟨_, rfl⟩
  obtain ⟨n, hn⟩ := hn
  have key : ∃ e, cX (fun d : List Nat × Int => eV l n0 d.1 d.2) ([], 0) = some e ∧ (e = .inr true ∨ ∃ s, e = .inl s ∧ cS l n = (s, 0, ())) :=
   iF (step := fun d : List Nat × Int => eV l n0 d.1 d.2)
    (I := fun d => ∃ i : Nat, d.2 = i ∧ i ≤ l.length ∧ d.1.length ≤ 20000000000 * i ∧ cS l n = if (cS (l.drop i) n).2.1 ≠ 0 then ([], (cS (l.drop i) n).2.1, ()) else (d.1 ++ (cS (l.drop i) n).1, 0, ())) (fun d => (l.length - d.2).toNat)
    (fun e => e = .inr true ∨ ∃ s, e = .inl s ∧ cS l n = (s, 0, ())) (fun d hd => by
     obtain ⟨s, d2⟩ := d
     obtain ⟨i, rfl, hi, hlen, ht⟩ := hd
     simp only at hlen ht ⊢
     unfold eV
     rw [Int.toNat_natCast, hn]
     rcases Nat.lt_or_ge i l.length with hlt | hge
     ·have hm := xL (z := rz) hlt
      have hw := aFj _ n (lm _ hm)
      have hwl := aII _ n (lm _ hm)
      have e : l.drop i = l.getD i rz :: l.drop (i + 1) := by
       rw [List.drop_eq_getElem_cons hlt]; simp [List.getD, hlt]
      rw [e] at ht
      rw [if_pos (by omega)]
      generalize l.getD i rz = r at hm hw hwl ht ⊢
      cases hf : aQg r with
      | false =>
       right
       refine ⟨.inr true, ?_, .inl rfl⟩
       refine aC (by constructor <;> omega) (bB (aGX r) ?_)
       rw [hf, if_pos (by decide)]
       exact bB aBs rfl
      | true =>
       by_cases h1 : (lG r n).2.1 ≠ 0
       ·right
        have et : cS (r :: l.drop (i + 1)) n = ([], (lG r n).2.1, ()) := by rw [cS, if_pos h1]
        rw [et, if_pos h1] at ht
        refine ⟨.inr true, ?_, .inl rfl⟩
        refine aC (by constructor <;> omega) (bB (aGX r) ?_)
        rw [hf, if_neg (by decide)]
        refine aC (by constructor <;> omega) (bB hw ?_)
        rw [if_pos h1]
        refine bB (aGR l n lm (by omega)) (bB aBs ?_)
        rw [ht, aRO]
        simp
       ·left
        have h1' : (lG r n).2.1 = 0 := by simpa using h1
        obtain ⟨w, hw1, hw2⟩ := aMi r n h1'
        have hbl := aMj (lG r n) w hw1 hw2 (by have := congrArg List.length hw1; simp at this; omega)
        refine ⟨(s ++ (lG r n).1, (i : Int) + 1), ?_, ⟨i + 1, by simp, hlt, by simp only [List.length_append]; omega, ?_⟩, by simp only; omega⟩
        ·refine aC (by constructor <;> omega) (bB (aGX r) ?_)
         rw [hf, if_neg (by decide)]
         refine aC (by constructor <;> omega) (bB hw ?_)
         rw [if_neg h1]
         exact bB hbl (aC (by omega) (aC (by constructor <;> omega) rfl))
        ·have et : cS (r :: l.drop (i + 1)) n = if (cS (l.drop (i + 1)) n).2.1 ≠ 0 then ([], (cS (l.drop (i + 1)) n).2.1, ()) else ((lG r n).1 ++ (cS (l.drop (i + 1)) n).1, 0, ()) := by rw [cS, if_neg h1]
         rw [et] at ht
         rw [ht]
         by_cases h2 : (cS (l.drop (i + 1)) n).2.1 ≠ 0
         ·rw [if_pos h2, if_pos h2, if_pos h2]
         ·rw [if_neg h2, if_neg h2, if_neg (by simp)]
          simp
     ·right
      obtain rfl : i = l.length := by omega
      rw [List.drop_length] at ht
      refine ⟨.inl s, by rw [if_neg (by omega)], .inr ⟨s, rfl, ?_⟩⟩
      rw [ht, if_neg (by simp [cS])]
      simp [cS]) ([], 0) ⟨0, rfl, Nat.zero_le _, Nat.zero_le _, by
       rw [List.drop_zero]
       by_cases h2 : (cS l n).2.1 ≠ 0
       ·rw [if_pos h2]; exact aMk l n h2
       ·rw [if_neg h2]
        have hx : (cS l n).2.1 = 0 := by simpa using h2
        simp only [List.nil_append]
        rw [← hx]⟩
  obtain ⟨e, he, hq⟩ := key
  rw [aRO]
  refine bB he ?_
  rcases hq with rfl | ⟨s, rfl, hs⟩
  ·rfl
  ·show eU l n0 s = _
   unfold eU
   rw [hn]
   refine bB (aGR l n lm (by omega)) (bB aBs ?_)
   rw [hs]; simp
end Nu
end Go.Proofs
