import Derived.Test.YtkihplehmkbfaaaGreatDoorZS2
import Derived.Test.YtkihplehmkbfaaaGreatDoorZS1
import Derived.Test.YtkihplehmkbfaaaGreatDoorZL5
import Derived.Shelf.Strings.OnBuilder
set_option linter.unusedVariables false
set_option linter.unusedSimpArgs false
namespace Go.Proofs
open Go.Vc
set_option maxRecDepth 20000
namespace Nu
noncomputable def rF (a_0 : qI0) : Option Bool :=
 (cS (a_0.1)).bind (fun v_5 => ck (((v_5 = true) → (((cS ((a_0.2).1)).isSome = true)))) (ck ((((v_5 = true) ∧ (((cS ((a_0.2).1)).getD false) = true)) → (((pM (a_0.1) ((a_0.2).1)).isSome = true)))) (some ((v_5 && ((cS ((a_0.2).1)).getD false)) && (decide (((pM (a_0.1) ((a_0.2).1)).getD (0 : Int)) ≤ (0 : Int)))))))
def aHG : PlR := ⟨[(0, .B [1]), (1, .A [2])], []⟩
def aK5 : Ty := .pair (.pair (.pair .bool (.pair (.sl (.u .u64)) (.pair (.i .i64) .unit))) (.pair (.pair .bool (.pair (.sl (.u .u64)) (.pair (.i .i64) .unit))) .unit)) .unit
noncomputable def pA : aI := mSpec aK5 (.one .bool) (fun x => rF x.1)
noncomputable def aEQ : List (FuncId × aI) := [(22, tW), (58, fM)]
theorem aRS : bF Tryz.prog GL aEQ := .cons aHx (by kernel_rfl) (.cons tV (by kernel_rfl) (.nil))
theorem aMN : gam aEQ 22 = some tW := rfl
theorem aMO : gam aEQ 58 = some fM := rfl
attribute [go_sem] aK5 aHG aMN aMO
set_option maxHeartbeats 4000000 in
theorem aDu : FOK Tryz.prog GL 52 pA := by
 refine bD (bE aRS) mix Tryz.func52 rfl (by kernel_rfl) (by decide) aHG fun w0 S x Θ hw h hF => ?_
 obtain ⟨(a_0 : qI0), u⟩ := x
 simp only [bH, go_sem]
 replace h : sat (rF a_0) _ := h
 unfold rF at h
 obtain ⟨v_5, hv, h⟩ := aQ h
 try simp only [hv, go_sem]
 refine aH h fun g0 h => aH h fun g1 h => ?_
 exact aG hF [.tmp 2] rfl rfl rfl (aA h) (by simp only [aV, go_sem])
attribute [go_sem] pA
noncomputable def eU (a_0 : qI0) (digits_1 : Int) : Option ((List Nat) × (Int × Unit)) :=
 (rF a_0).bind (fun v_8 => if ¬ (v_8 = true) then some ((aN ⟨#[]⟩), (1 : Int), ()) else (jJ (a_0.1) digits_1 false).bind (fun v_12 => if ¬ (((v_12.2).1) = (0 : Int)) then some ((aN ⟨#[]⟩), ((v_12.2).1), ()) else (jJ ((a_0.2).1) digits_1 true).bind (fun v_16 => if ¬ (((v_16.2).1) = (0 : Int)) then some ((aN ⟨#[]⟩), ((v_16.2).1), ()) else ck (((aN ⟨#[91]⟩).length) + ((v_12.1).length) ≤ 9223372036854775807) (ck ((((aN ⟨#[91]⟩) ++ (v_12.1)).length) + ((aN ⟨#[44, 32]⟩).length) ≤ 9223372036854775807) (ck (((((aN ⟨#[91]⟩) ++ (v_12.1)) ++ (aN ⟨#[44, 32]⟩)).length) + ((v_16.1).length) ≤ 9223372036854775807) (ck ((((((aN ⟨#[91]⟩) ++ (v_12.1)) ++ (aN ⟨#[44, 32]⟩)) ++ (v_16.1)).length) + ((aN ⟨#[93]⟩).length) ≤ 9223372036854775807) (some ((((((aN ⟨#[91]⟩) ++ (v_12.1)) ++ (aN ⟨#[44, 32]⟩)) ++ (v_16.1)) ++ (aN ⟨#[93]⟩)), (0 : Int), ()))))))))
def aDv : PlR := ⟨[], []⟩
def aEi : Ty := .pair (.pair (.pair .bool (.pair (.sl (.u .u64)) (.pair (.i .i64) .unit))) (.pair (.pair .bool (.pair (.sl (.u .u64)) (.pair (.i .i64) .unit))) .unit)) (.pair (.i .i64) .unit)
noncomputable def iO : aI := mSpec aEi (.tup (.pair .str (.pair (.i .i64) .unit))) (fun x => eU x.1 x.2.1)
noncomputable def aBc : List (FuncId × aI) := [(45, tX), (52, pA)]
theorem aMP : bF Tryz.prog GL aBc := .cons aHE (by kernel_rfl) (.cons aDu (by kernel_rfl) (.nil))
theorem aGM : gam aBc 45 = some tX := rfl
theorem aGN : gam aBc 52 = some pA := rfl
attribute [go_sem] aEi aDv aGM aGN
set_option maxHeartbeats 4000000 in
theorem aAm : FOK Tryz.prog GL 18 iO := by
 refine bD (bE aMP) mix Tryz.func18 rfl (by kernel_rfl) (by decide) aDv fun w0 S x Θ hw h hF => ?_
 obtain ⟨(a_0 : qI0), (digits_1 : Int), u⟩ := x
 simp only [bH, go_sem]
 replace h : sat (eU a_0 digits_1) _ := h
 unfold eU at h
 refine aKr hF [1, 2] ?_
 simp only [go_sem]
 refine cT hF [1, 2, 11] ?_
 simp only [go_sem]
 obtain ⟨v_8, hv, h⟩ := aQ h
 try simp only [hv, go_sem]
 refine aC5 h (fun hc h => ?_) fun hc h => ?_
 ·refine cT hF [4, 5] ?_
  simp only [go_sem]
  exact aG hF [.tmp 4, .tmp 5] rfl rfl rfl (aA h) (by simp only [aV, go_sem])
 ·refine cT hF [1, 2, 6, 7] ?_
  simp only [go_sem]
  obtain ⟨v_12, hv, h⟩ := aQ h
  try simp only [hv, go_sem]
  refine cT hF [1, 2, 6, 7, 20] ?_
  simp only [go_sem]
  refine cX h (fun hc h => ?_) fun hc h => ?_
  ·refine cT hF [4, 5] ?_
   simp only [go_sem]
   exact aG hF [.tmp 4, .tmp 5] rfl rfl rfl (aA h) (by simp only [aV, go_sem])
  ·refine cT hF [6, 7, 8] ?_
   simp only [go_sem]
   obtain ⟨v_16, hv, h⟩ := aQ h
   try simp only [hv, go_sem]
   refine cT hF [6, 7, 8, 30] ?_
   simp only [go_sem]
   refine cX h (fun hc h => ?_) fun hc h => ?_
   ·refine cT hF [4, 5] ?_
    simp only [go_sem]
    exact aG hF [.tmp 4, .tmp 5] rfl rfl rfl (aA h) (by simp only [aV, go_sem])
   ·refine cT hF [4, 5] ?_
    simp only [go_sem]
    refine aH h fun g0 h => aH h fun g1 h => aH h fun g2 h => aH h fun g3 h => ?_
    exact aG hF [.tmp 4, .tmp 5] rfl rfl rfl (aA h) (by simp only [aV, go_sem])
attribute [go_sem] iO
noncomputable def lF (a_0 : qI0) : Option Bool :=
 (rF a_0).bind (fun v_5 => some (!v_5))
def aCg : PlR := ⟨[(0, .B [1]), (1, .A [2])], []⟩
def aDw : Ty := .pair (.pair (.pair .bool (.pair (.sl (.u .u64)) (.pair (.i .i64) .unit))) (.pair (.pair .bool (.pair (.sl (.u .u64)) (.pair (.i .i64) .unit))) .unit)) .unit
noncomputable def sV : aI := mSpec aDw (.one .bool) (fun x => lF x.1)
noncomputable def aDx : List (FuncId × aI) := [(52, pA)]
theorem aK6 : bF Tryz.prog GL aDx := .cons aDu (by kernel_rfl) (.nil)
theorem aFF : gam aDx 52 = some pA := rfl
attribute [go_sem] aDw aCg aFF
set_option maxHeartbeats 4000000 in
theorem aIC : FOK Tryz.prog GL 87 sV := by
 refine bD (bE aK6) mix Tryz.func87 rfl (by kernel_rfl) (by decide) aCg fun w0 S x Θ hw h hF => ?_
 obtain ⟨(a_0 : qI0), u⟩ := x
 simp only [bH, go_sem]
 replace h : sat (lF a_0) _ := h
 unfold lF at h
 obtain ⟨v_5, hv, h⟩ := aQ h
 try simp only [hv, go_sem]
 exact aG hF [.tmp 2] rfl rfl rfl (aA h) (by simp only [aV, go_sem])
attribute [go_sem] sV
noncomputable def cA (s_0 : (List qI0)) (x8_14 : Int) : Option ((Int) ⊕ ((Unit) ⊕ Int)) :=
 if x8_14 < (s_0.length : Int) then ck (0 ≤ x8_14 ∧ x8_14 < (s_0.length : Int)) ((lF (s_0.getD (x8_14.toNat) ((false, ([] : List Nat), (0 : Int), ()), (false, ([] : List Nat), (0 : Int), ()), ()))).bind (fun v_27 => if v_27 = true then some (.inr (.inr x8_14)) else ck (I64 (x8_14 + (1 : Int))) (some (.inl (x8_14 + (1 : Int)))))) else some (.inr (.inl ()))
noncomputable def bM (s_0 : (List qI0)) (f_1 : Unit) : Option Int :=
 (bO (fun d : Int => cA s_0 d) (0 : Int)).bind (fun e => match e with | (.inl e) => some (-1 : Int) | (.inr e) => some e)
def eO : PlR := ⟨[(0, .A [0, 1]), (1, .A [0, 1, 7, 8]), (2, .A [0, 1, 7, 8, 9]), (3, .A [0, 1, 5, 7, 8]), (4, .A [0, 1, 5, 7, 8, 16]), (5, .A [4]), (6, .A [0, 1, 7, 8]), (7, .A [4])], []⟩
def eY : Ty := .pair (.sl (.pair (.pair .bool (.pair (.sl (.u .u64)) (.pair (.i .i64) .unit))) (.pair (.pair .bool (.pair (.sl (.u .u64)) (.pair (.i .i64) .unit))) .unit))) (.pair (.clo 87 .unit) .unit)
noncomputable def cG : aI := mSpec eY (.one (.i .i64)) (fun x => bM x.1 x.2.1)
noncomputable def eZ : List (FuncId × aI) := [(87, sV)]
theorem mA : bF Tryz.prog GL eZ := .cons aIC (by kernel_rfl) (.nil)
theorem jY : gam eZ 87 = some sV := rfl
attribute [go_sem] eY eO jY
set_option maxHeartbeats 4000000 in
theorem lG : FOK Tryz.prog GL 156 cG := by
 refine bD (bE mA) mix Tryz.func156 rfl (by kernel_rfl) (by decide) eO fun w0 S x Θ hw h hF => ?_
 obtain ⟨(s_0 : (List qI0)), (f_1 : Unit), u⟩ := x
 simp only [bH, go_sem]
 replace h : sat (bM s_0 f_1) _ := h
 unfold bM at h
 refine bC hF (D := Int) [0, 1, 7] (fun d => [(8, .val (.i .i64) d)]) (fun d => []) h rfl (by simp only [go_sem]) ?_
 rintro x8_14 A2 T2 hA2 hE2 h
 simp only [go_sem]
 replace h : sat (cA s_0 x8_14) _ := h
 unfold cA at h
 refine bW h (fun hc h => ?_) fun hc h => ?_
 ·refine aH h fun g0 h => ?_
  obtain ⟨v_27, hv, h⟩ := aQ h
  try simp only [hv, go_sem]
  refine aHe h (fun hc h => ?_) fun hc h => ?_
  ·replace h := hE2 _ (aA h)
   try dsimp only at h
   exact aG hF [.tmp 4] rfl rfl rfl (aA h) (by simp only [aV, go_sem])
  ·refine aH h fun g0 h => ?_
   replace h := hA2 _ (aA h)
   exact aP _ h rfl (by simp only [go_sem])
 ·replace h := hE2 _ (aA h)
  try dsimp only at h
  exact aG hF [.tmp 4] rfl rfl rfl (aA h) (by simp only [aV, go_sem])
attribute [go_sem] cG
noncomputable def aZ (s_0 : (List qI0)) (f_1 : Unit) : Option Bool :=
 (bM s_0 f_1).bind (fun v_6 => some (decide ((0 : Int) ≤ v_6)))
def dX : PlR := ⟨[(0, .A [0, 1]), (1, .A [4])], []⟩
def eB : Ty := .pair (.sl (.pair (.pair .bool (.pair (.sl (.u .u64)) (.pair (.i .i64) .unit))) (.pair (.pair .bool (.pair (.sl (.u .u64)) (.pair (.i .i64) .unit))) .unit))) (.pair (.clo 87 .unit) .unit)
noncomputable def bU : aI := mSpec eB (.one .bool) (fun x => aZ x.1 x.2.1)
noncomputable def eC : List (FuncId × aI) := [(156, cG)]
theorem jZ : bF Tryz.prog GL eC := .cons lG (by kernel_rfl) (.nil)
theorem iP : gam eC 156 = some cG := rfl
attribute [go_sem] eB dX iP
set_option maxHeartbeats 4000000 in
theorem jS : FOK Tryz.prog GL 86 bU := by
 refine bD (bE jZ) mix Tryz.func86 rfl (by kernel_rfl) (by decide) dX fun w0 S x Θ hw h hF => ?_
 obtain ⟨(s_0 : (List qI0)), (f_1 : Unit), u⟩ := x
 simp only [bH, go_sem]
 replace h : sat (aZ s_0 f_1) _ := h
 unfold aZ at h
 obtain ⟨v_6, hv, h⟩ := aQ h
 try simp only [hv, go_sem]
 exact aG hF [.tmp 4] rfl rfl rfl (aA h) (by simp only [aV, go_sem])
attribute [go_sem] bU
noncomputable def pO (a_0 : qI0) : Option Bool :=
 (rF a_0).bind (fun v_5 => some (!v_5))
def aEj : PlR := ⟨[(0, .B [1]), (1, .A [2])], []⟩
def aFG : Ty := .pair (.pair (.pair .bool (.pair (.sl (.u .u64)) (.pair (.i .i64) .unit))) (.pair (.pair .bool (.pair (.sl (.u .u64)) (.pair (.i .i64) .unit))) .unit)) .unit
noncomputable def wX : aI := mSpec aFG (.one .bool) (fun x => pO x.1)
noncomputable def aFH : List (FuncId × aI) := [(52, pA)]
theorem aOQ : bF Tryz.prog GL aFH := .cons aDu (by kernel_rfl) (.nil)
theorem aID : gam aFH 52 = some pA := rfl
attribute [go_sem] aFG aEj aID
set_option maxHeartbeats 4000000 in
theorem aMQ : FOK Tryz.prog GL 159 wX := by
 refine bD (bE aOQ) mix Tryz.func159 rfl (by kernel_rfl) (by decide) aEj fun w0 S x Θ hw h hF => ?_
 obtain ⟨(a_0 : qI0), u⟩ := x
 simp only [bH, go_sem]
 replace h : sat (pO a_0) _ := h
 unfold pO at h
 obtain ⟨v_5, hv, h⟩ := aQ h
 try simp only [hv, go_sem]
 exact aG hF [.tmp 2] rfl rfl rfl (aA h) (by simp only [aV, go_sem])
attribute [go_sem] wX
noncomputable def cH (s_0 : (List qI0)) (x8_14 : Int) : Option ((Int) ⊕ ((Unit) ⊕ Int)) :=
 if x8_14 < (s_0.length : Int) then ck (0 ≤ x8_14 ∧ x8_14 < (s_0.length : Int)) ((pO (s_0.getD (x8_14.toNat) ((false, ([] : List Nat), (0 : Int), ()), (false, ([] : List Nat), (0 : Int), ()), ()))).bind (fun v_27 => if v_27 = true then some (.inr (.inr x8_14)) else ck (I64 (x8_14 + (1 : Int))) (some (.inl (x8_14 + (1 : Int)))))) else some (.inr (.inl ()))
noncomputable def bP (s_0 : (List qI0)) (f_1 : Unit) : Option Int :=
 (bO (fun d : Int => cH s_0 d) (0 : Int)).bind (fun e => match e with | (.inl e) => some (-1 : Int) | (.inr e) => some e)
def fI : PlR := ⟨[(0, .A [0, 1]), (1, .A [0, 1, 7, 8]), (2, .A [0, 1, 7, 8, 9]), (3, .A [0, 1, 5, 7, 8]), (4, .A [0, 1, 5, 7, 8, 16]), (5, .A [4]), (6, .A [0, 1, 7, 8]), (7, .A [4])], []⟩
def fN : Ty := .pair (.sl (.pair (.pair .bool (.pair (.sl (.u .u64)) (.pair (.i .i64) .unit))) (.pair (.pair .bool (.pair (.sl (.u .u64)) (.pair (.i .i64) .unit))) .unit))) (.pair (.clo 159 .unit) .unit)
noncomputable def cJ : aI := mSpec fN (.one (.i .i64)) (fun x => bP x.1 x.2.1)
noncomputable def fO : List (FuncId × aI) := [(159, wX)]
theorem mR : bF Tryz.prog GL fO := .cons aMQ (by kernel_rfl) (.nil)
theorem kL : gam fO 159 = some wX := rfl
attribute [go_sem] fN fI kL
set_option maxHeartbeats 4000000 in
theorem mC : FOK Tryz.prog GL 156 cJ := by
 refine bD (bE mR) mix Tryz.func156 rfl (by kernel_rfl) (by decide) fI fun w0 S x Θ hw h hF => ?_
 obtain ⟨(s_0 : (List qI0)), (f_1 : Unit), u⟩ := x
 simp only [bH, go_sem]
 replace h : sat (bP s_0 f_1) _ := h
 unfold bP at h
 refine bC hF (D := Int) [0, 1, 7] (fun d => [(8, .val (.i .i64) d)]) (fun d => []) h rfl (by simp only [go_sem]) ?_
 rintro x8_14 A2 T2 hA2 hE2 h
 simp only [go_sem]
 replace h : sat (cH s_0 x8_14) _ := h
 unfold cH at h
 refine bW h (fun hc h => ?_) fun hc h => ?_
 ·refine aH h fun g0 h => ?_
  obtain ⟨v_27, hv, h⟩ := aQ h
  try simp only [hv, go_sem]
  refine aHe h (fun hc h => ?_) fun hc h => ?_
  ·replace h := hE2 _ (aA h)
   try dsimp only at h
   exact aG hF [.tmp 4] rfl rfl rfl (aA h) (by simp only [aV, go_sem])
  ·refine aH h fun g0 h => ?_
   replace h := hA2 _ (aA h)
   exact aP _ h rfl (by simp only [go_sem])
 ·replace h := hE2 _ (aA h)
  try dsimp only at h
  exact aG hF [.tmp 4] rfl rfl rfl (aA h) (by simp only [aV, go_sem])
attribute [go_sem] cJ
noncomputable def bB (s_0 : (List qI0)) (f_1 : Unit) : Option Bool :=
 (bP s_0 f_1).bind (fun v_6 => some (decide ((0 : Int) ≤ v_6)))
def eG : PlR := ⟨[(0, .A [0, 1]), (1, .A [4])], []⟩
def eP : Ty := .pair (.sl (.pair (.pair .bool (.pair (.sl (.u .u64)) (.pair (.i .i64) .unit))) (.pair (.pair .bool (.pair (.sl (.u .u64)) (.pair (.i .i64) .unit))) .unit))) (.pair (.clo 159 .unit) .unit)
noncomputable def cD : aI := mSpec eP (.one .bool) (fun x => bB x.1 x.2.1)
noncomputable def eR : List (FuncId × aI) := [(156, cJ)]
theorem lH : bF Tryz.prog GL eR := .cons mC (by kernel_rfl) (.nil)
theorem jL : gam eR 156 = some cJ := rfl
attribute [go_sem] eP eG jL
set_option maxHeartbeats 4000000 in
theorem kM : FOK Tryz.prog GL 86 cD := by
 refine bD (bE lH) mix Tryz.func86 rfl (by kernel_rfl) (by decide) eG fun w0 S x Θ hw h hF => ?_
 obtain ⟨(s_0 : (List qI0)), (f_1 : Unit), u⟩ := x
 simp only [bH, go_sem]
 replace h : sat (bB s_0 f_1) _ := h
 unfold bB at h
 obtain ⟨v_6, hv, h⟩ := aQ h
 try simp only [hv, go_sem]
 exact aG hF [.tmp 4] rfl rfl rfl (aA h) (by simp only [aV, go_sem])
attribute [go_sem] cD
noncomputable def qG (t_0 : qT0) (x26_13 : Int) : Option ((Int) ⊕ ((Unit) ⊕ Bool)) :=
 if x26_13 < ((t_0.1).length : Int) then ck (0 ≤ x26_13 ∧ x26_13 < ((t_0.1).length : Int)) ((cS ((t_0.1).getD (x26_13.toNat) (false, ([] : List Nat), (0 : Int), ()))).bind (fun v_26 => ck ((¬ (¬ (v_26 = true)) → ((0 : Int) < x26_13) → (I64 (x26_13 - (1 : Int))))) (ck ((¬ (¬ (v_26 = true)) → ((0 : Int) < x26_13) → (0 ≤ (x26_13 - (1 : Int)) ∧ (x26_13 - (1 : Int)) < ((t_0.1).length : Int)))) (ck ((¬ (¬ (v_26 = true)) → ((0 : Int) < x26_13) → (((pM ((t_0.1).getD ((x26_13 - (1 : Int)).toNat) (false, ([] : List Nat), (0 : Int), ())) ((t_0.1).getD (x26_13.toNat) (false, ([] : List Nat), (0 : Int), ()))).isSome = true)))) (if (¬ (v_26 = true)) ∨ (((0 : Int) < x26_13) ∧ ((0 : Int) ≤ ((pM ((t_0.1).getD ((x26_13 - (1 : Int)).toNat) (false, ([] : List Nat), (0 : Int), ())) ((t_0.1).getD (x26_13.toNat) (false, ([] : List Nat), (0 : Int), ()))).getD (0 : Int)))) then some (.inr (.inr false)) else ck (I64 (x26_13 + (1 : Int))) (some (.inl (x26_13 + (1 : Int))))))))) else some (.inr (.inl ()))
noncomputable def wL (t_0 : qT0) : Option Bool :=
 ck ((¬ (((((((t_0.2).1).length) : Nat) : Int) < (1 : Int)) ∨ ((256 : Int) < (((t_0.2).1).length : Int))) → (I64 ((((((t_0.2).1).length) : Nat) : Int) + (1 : Int))))) (if (((((((t_0.2).1).length) : Nat) : Int) < (1 : Int)) ∨ ((256 : Int) < (((t_0.2).1).length : Int))) ∨ (¬ (((((t_0.1).length) : Nat) : Int) = ((((((t_0.2).1).length) : Nat) : Int) + (1 : Int)))) then some false else (bO (fun d : Int => qG t_0 d) (0 : Int)).bind (fun e => match e with | (.inl e) => (bB ((t_0.2).1) ()).bind (fun v_34 => some (!v_34)) | (.inr e) => some e))
def aHH : PlR := ⟨[(0, .B [1]), (1, .A [1, 3]), (2, .A [1, 22]), (3, .A [2]), (4, .A [1, 24, 25, 26]), (5, .A [1, 24, 25, 26, 27]), (6, .B [1, 4, 5, 24, 25, 26]), (7, .A [1, 24, 25, 26, 48]), (8, .A [2]), (9, .A [1, 24, 25, 26]), (10, .A [2])], []⟩
def aK7 : Ty := .pair (.pair (.sl (.pair .bool (.pair (.sl (.u .u64)) (.pair (.i .i64) .unit)))) (.pair (.sl (.pair (.pair .bool (.pair (.sl (.u .u64)) (.pair (.i .i64) .unit))) (.pair (.pair .bool (.pair (.sl (.u .u64)) (.pair (.i .i64) .unit))) .unit))) .unit)) .unit
noncomputable def aAO : aI := mSpec aK7 (.one .bool) (fun x => wL x.1)
noncomputable def aCb : List (FuncId × aI) := [(86, cD), (22, tW), (58, fM)]
theorem aRT : bF Tryz.prog GL aCb := .cons kM (by kernel_rfl) (.cons aHx (by kernel_rfl) (.cons tV (by kernel_rfl) (.nil)))
theorem aMR : gam aCb 86 = some cD := rfl
theorem aMS : gam aCb 22 = some tW := rfl
theorem aMT : gam aCb 58 = some fM := rfl
attribute [go_sem] aK7 aHH aMR aMS aMT
set_option maxHeartbeats 4000000 in
theorem aQz : FOK Tryz.prog GL 92 aAO := by
 refine bD (bE aRT) mix Tryz.func92 rfl (by kernel_rfl) (by decide) aHH fun w0 S x Θ hw h hF => ?_
 obtain ⟨(t_0 : qT0), u⟩ := x
 simp only [bH, go_sem]
 replace h : sat (wL t_0) _ := h
 unfold wL at h
 obtain ⟨g0, h⟩ := aJ h
 try simp only [I64, I32] at g0
 repeat (refine ⟨by first | with_reducible assumption | omega | (intros; first | assumption | omega) | (simp only [go_sem] at *; first | assumption | omega) | (intro q0; (try have e0 := g0 (by first | exact q0 | omega | (simpa using q0))); first | assumption | omega) | decide, ?_⟩)
 refine ⟨fun hc => ?_, fun hc => ?_⟩
 ·replace h := fU hc h
  exact aG hF [.tmp 2] rfl rfl rfl (aA h) (by simp only [aV, go_sem])
 ·replace h := fV hc h
  refine bC hF (D := Int) [24, 25] (fun d => [(1, .ptr 0 []), (26, .val (.i .i64) d)]) (fun d => [.inr (.box 2 (.val (.pair (.sl (.pair .bool (.pair (.sl (.u .u64)) (.pair (.i .i64) .unit)))) (.pair (.sl (.pair (.pair .bool (.pair (.sl (.u .u64)) (.pair (.i .i64) .unit))) (.pair (.pair .bool (.pair (.sl (.u .u64)) (.pair (.i .i64) .unit))) .unit))) .unit)) t_0))]) h rfl (by simp only [go_sem]) ?_
  rintro x26_13 A5 T5 hA5 hE5 h
  simp only [go_sem]
  replace h : sat (qG t_0 x26_13) _ := h
  unfold qG at h
  refine bW h (fun hc h => ?_) fun hc h => ?_
  ·obtain ⟨g0, h⟩ := aJ h
   repeat (refine ⟨by first | with_reducible assumption | omega | (intros; first | assumption | omega) | (simp only [go_sem] at *; first | assumption | omega) | decide, ?_⟩)
   obtain ⟨v_26, hv, h⟩ := aQ h
   try simp only [hv, go_sem]
   obtain ⟨g0, h⟩ := aJ h
   obtain ⟨g1, h⟩ := aJ h
   obtain ⟨g2, h⟩ := aJ h
   try simp only [I64, I32] at g0
   repeat (refine ⟨by first | with_reducible assumption | omega | (intros; first | assumption | omega) | (simp only [go_sem] at *; first | assumption | omega) | (intro q0 q1; (try have e0 := g0 (by first | exact q0 | omega | (simpa using q0)) (by first | exact q1 | omega | (simpa using q1))); (try have e1 := g1 (by first | exact q0 | omega | (simpa using q0)) (by first | exact q1 | omega | (simpa using q1))); (try have e2 := g2 (by first | exact q0 | omega | (simpa using q0)) (by first | exact q1 | omega | (simpa using q1))); first | assumption | omega) | (rintro ⟨q0, q1⟩; (try have e0 := g0 (by first | exact q0 | omega | (simpa using q0)) (by first | exact q1 | omega | (simpa using q1))); (try have e1 := g1 (by first | exact q0 | omega | (simpa using q0)) (by first | exact q1 | omega | (simpa using q1))); (try have e2 := g2 (by first | exact q0 | omega | (simpa using q0)) (by first | exact q1 | omega | (simpa using q1))); first | assumption | omega) | decide, ?_⟩)
   refine ⟨fun hc => ?_, fun hc => ?_⟩
   ·replace h := fU (by first | exact hc | omega | (simpa using hc) | (simp at hc ⊢; omega)) h
    replace h := hE5 _ (aA h)
    try dsimp only at h
    exact aG hF [.tmp 2] rfl rfl rfl (aA h) (by simp only [aV, go_sem])
   ·replace h := fV (by first | exact hc | omega | (simpa using hc) | (simp at hc ⊢; omega)) h
    obtain ⟨g0, h⟩ := aJ h
    try simp only [I64, I32] at g0
    repeat (refine ⟨by first | with_reducible assumption | omega | (intros; first | assumption | omega) | (simp only [go_sem] at *; first | assumption | omega) | decide, ?_⟩)
    replace h := hA5 _ (aA h)
    refine nE [0] rfl rfl ?_
    simp only [go_sem]
    exact aP _ h rfl (by simp only [go_sem])
  ·replace h := hE5 _ (aA h)
   try dsimp only at h
   obtain ⟨v_30, hv, h⟩ := aQ h
   try simp only [hv, go_sem]
   exact aG hF [.tmp 2] rfl rfl rfl (aA h) (by simp only [aV, go_sem])
attribute [go_sem] aAO
noncomputable def iA (t_0 : qT0) : Option Bool :=
 (wL t_0).bind (fun v_5 => some (!v_5))
def aAP : PlR := ⟨[(0, .B [1]), (1, .A [2])], []⟩
def aBA : Ty := .pair (.pair (.sl (.pair .bool (.pair (.sl (.u .u64)) (.pair (.i .i64) .unit)))) (.pair (.sl (.pair (.pair .bool (.pair (.sl (.u .u64)) (.pair (.i .i64) .unit))) (.pair (.pair .bool (.pair (.sl (.u .u64)) (.pair (.i .i64) .unit))) .unit))) .unit)) .unit
noncomputable def qV : aI := mSpec aBA (.one .bool) (fun x => iA x.1)
noncomputable def aBB : List (FuncId × aI) := [(92, aAO)]
theorem aGO : bF Tryz.prog GL aBB := .cons aQz (by kernel_rfl) (.nil)
theorem aD0 : gam aBB 92 = some aAO := rfl
attribute [go_sem] aBA aAP aD0
set_option maxHeartbeats 4000000 in
theorem aFI : FOK Tryz.prog GL 91 qV := by
 refine bD (bE aGO) mix Tryz.func91 rfl (by kernel_rfl) (by decide) aAP fun w0 S x Θ hw h hF => ?_
 obtain ⟨(t_0 : qT0), u⟩ := x
 simp only [bH, go_sem]
 replace h : sat (iA t_0) _ := h
 unfold iA at h
 obtain ⟨v_5, hv, h⟩ := aQ h
 try simp only [hv, go_sem]
 exact aG hF [.tmp 2] rfl rfl rfl (aA h) (by simp only [aV, go_sem])
attribute [go_sem] qV
noncomputable def bT (s_0 : (List qT0)) (x8_14 : Int) : Option ((Int) ⊕ ((Unit) ⊕ Int)) :=
 if x8_14 < (s_0.length : Int) then ck (0 ≤ x8_14 ∧ x8_14 < (s_0.length : Int)) ((iA (s_0.getD (x8_14.toNat) (([] : List qD0), ([] : List qI0), ()))).bind (fun v_27 => if v_27 = true then some (.inr (.inr x8_14)) else ck (I64 (x8_14 + (1 : Int))) (some (.inl (x8_14 + (1 : Int)))))) else some (.inr (.inl ()))
noncomputable def bK (s_0 : (List qT0)) (f_1 : Unit) : Option Int :=
 (bO (fun d : Int => bT s_0 d) (0 : Int)).bind (fun e => match e with | (.inl e) => some (-1 : Int) | (.inr e) => some e)
def eD : PlR := ⟨[(0, .A [0, 1]), (1, .A [0, 1, 7, 8]), (2, .A [0, 1, 7, 8, 9]), (3, .A [0, 1, 5, 7, 8]), (4, .A [0, 1, 5, 7, 8, 16]), (5, .A [4]), (6, .A [0, 1, 7, 8]), (7, .A [4])], []⟩
def eH : Ty := .pair (.sl (.pair (.sl (.pair .bool (.pair (.sl (.u .u64)) (.pair (.i .i64) .unit)))) (.pair (.sl (.pair (.pair .bool (.pair (.sl (.u .u64)) (.pair (.i .i64) .unit))) (.pair (.pair .bool (.pair (.sl (.u .u64)) (.pair (.i .i64) .unit))) .unit))) .unit))) (.pair (.clo 91 .unit) .unit)
noncomputable def cB : aI := mSpec eH (.one (.i .i64)) (fun x => bK x.1 x.2.1)
noncomputable def eI : List (FuncId × aI) := [(91, qV)]
theorem kN : bF Tryz.prog GL eI := .cons aFI (by kernel_rfl) (.nil)
theorem jM : gam eI 91 = some qV := rfl
attribute [go_sem] eH eD jM
set_option maxHeartbeats 4000000 in
theorem kA : FOK Tryz.prog GL 158 cB := by
 refine bD (bE kN) mix Tryz.func158 rfl (by kernel_rfl) (by decide) eD fun w0 S x Θ hw h hF => ?_
 obtain ⟨(s_0 : (List qT0)), (f_1 : Unit), u⟩ := x
 simp only [bH, go_sem]
 replace h : sat (bK s_0 f_1) _ := h
 unfold bK at h
 refine bC hF (D := Int) [0, 1, 7] (fun d => [(8, .val (.i .i64) d)]) (fun d => []) h rfl (by simp only [go_sem]) ?_
 rintro x8_14 A2 T2 hA2 hE2 h
 simp only [go_sem]
 replace h : sat (bT s_0 x8_14) _ := h
 unfold bT at h
 refine bW h (fun hc h => ?_) fun hc h => ?_
 ·refine aH h fun g0 h => ?_
  obtain ⟨v_27, hv, h⟩ := aQ h
  try simp only [hv, go_sem]
  refine aHe h (fun hc h => ?_) fun hc h => ?_
  ·replace h := hE2 _ (aA h)
   try dsimp only at h
   exact aG hF [.tmp 4] rfl rfl rfl (aA h) (by simp only [aV, go_sem])
  ·refine aH h fun g0 h => ?_
   replace h := hA2 _ (aA h)
   exact aP _ h rfl (by simp only [go_sem])
 ·replace h := hE2 _ (aA h)
  try dsimp only at h
  exact aG hF [.tmp 4] rfl rfl rfl (aA h) (by simp only [aV, go_sem])
attribute [go_sem] cB
noncomputable def aY (s_0 : (List qT0)) (f_1 : Unit) : Option Bool :=
 (bK s_0 f_1).bind (fun v_6 => some (decide ((0 : Int) ≤ v_6)))
def dQ : PlR := ⟨[(0, .A [0, 1]), (1, .A [4])], []⟩
def dR : Ty := .pair (.sl (.pair (.sl (.pair .bool (.pair (.sl (.u .u64)) (.pair (.i .i64) .unit)))) (.pair (.sl (.pair (.pair .bool (.pair (.sl (.u .u64)) (.pair (.i .i64) .unit))) (.pair (.pair .bool (.pair (.sl (.u .u64)) (.pair (.i .i64) .unit))) .unit))) .unit))) (.pair (.clo 91 .unit) .unit)
noncomputable def bQ : aI := mSpec dR (.one .bool) (fun x => aY x.1 x.2.1)
noncomputable def dS : List (FuncId × aI) := [(158, cB)]
theorem jN : bF Tryz.prog GL dS := .cons kA (by kernel_rfl) (.nil)
theorem iB : gam dS 158 = some cB := rfl
attribute [go_sem] dR dQ iB
set_option maxHeartbeats 4000000 in
theorem iY : FOK Tryz.prog GL 90 bQ := by
 refine bD (bE jN) mix Tryz.func90 rfl (by kernel_rfl) (by decide) dQ fun w0 S x Θ hw h hF => ?_
 obtain ⟨(s_0 : (List qT0)), (f_1 : Unit), u⟩ := x
 simp only [bH, go_sem]
 replace h : sat (aY s_0 f_1) _ := h
 unfold aY at h
 obtain ⟨v_6, hv, h⟩ := aQ h
 try simp only [hv, go_sem]
 exact aG hF [.tmp 4] rfl rfl rfl (aA h) (by simp only [aV, go_sem])
attribute [go_sem] bQ
noncomputable def lI (l_0 : (List qT0)) : Option Bool :=
 ck ((¬ ((64 : Int) < (l_0.length : Int)) → (((aY l_0 ()).isSome = true)))) (some ((decide ((64 : Int) < (l_0.length : Int))) || ((aY l_0 ()).getD false)))
def aCh : PlR := ⟨[(0, .A [0]), (1, .A [2])], []⟩
def aDy : Ty := .pair (.sl (.pair (.sl (.pair .bool (.pair (.sl (.u .u64)) (.pair (.i .i64) .unit)))) (.pair (.sl (.pair (.pair .bool (.pair (.sl (.u .u64)) (.pair (.i .i64) .unit))) (.pair (.pair .bool (.pair (.sl (.u .u64)) (.pair (.i .i64) .unit))) .unit))) .unit))) .unit
noncomputable def sW : aI := mSpec aDy (.one .bool) (fun x => lI x.1)
noncomputable def aDz : List (FuncId × aI) := [(90, bQ)]
theorem aK8 : bF Tryz.prog GL aDz := .cons iY (by kernel_rfl) (.nil)
theorem aFJ : gam aDz 90 = some bQ := rfl
attribute [go_sem] aDy aCh aFJ
set_option maxHeartbeats 4000000 in
theorem aIE : FOK Tryz.prog GL 89 sW := by
 refine bD (bE aK8) mix Tryz.func89 rfl (by kernel_rfl) (by decide) aCh fun w0 S x Θ hw h hF => ?_
 obtain ⟨(l_0 : (List qT0)), u⟩ := x
 simp only [bH, go_sem]
 replace h : sat (lI l_0) _ := h
 unfold lI at h
 obtain ⟨g0, h⟩ := aJ h
 repeat (refine ⟨by first | with_reducible assumption | omega | (intros; first | assumption | omega) | (simp only [go_sem] at *; first | assumption | omega) | (intro q0; (try have e0 := g0 (by first | exact q0 | omega | (simpa using q0))); first | assumption | omega) | decide, ?_⟩)
 exact aG hF [.tmp 2] rfl rfl rfl (aA h) (by simp only [aV, go_sem])
attribute [go_sem] sW
noncomputable def cC (s_0 : (List (List qT0))) (x8_14 : Int) : Option ((Int) ⊕ ((Unit) ⊕ Int)) :=
 if x8_14 < (s_0.length : Int) then ck (0 ≤ x8_14 ∧ x8_14 < (s_0.length : Int)) ((lI (s_0.getD (x8_14.toNat) ([] : List qT0))).bind (fun v_27 => if v_27 = true then some (.inr (.inr x8_14)) else ck (I64 (x8_14 + (1 : Int))) (some (.inl (x8_14 + (1 : Int)))))) else some (.inr (.inl ()))
noncomputable def bN (s_0 : (List (List qT0))) (f_1 : Unit) : Option Int :=
 (bO (fun d : Int => cC s_0 d) (0 : Int)).bind (fun e => match e with | (.inl e) => some (-1 : Int) | (.inr e) => some e)
def eS : PlR := ⟨[(0, .A [0, 1]), (1, .A [0, 1, 7, 8]), (2, .A [0, 1, 7, 8, 9]), (3, .A [0, 1, 5, 7, 8]), (4, .A [0, 1, 5, 7, 8, 16]), (5, .A [4]), (6, .A [0, 1, 7, 8]), (7, .A [4])], []⟩
def fA : Ty := .pair (.sl (.sl (.pair (.sl (.pair .bool (.pair (.sl (.u .u64)) (.pair (.i .i64) .unit)))) (.pair (.sl (.pair (.pair .bool (.pair (.sl (.u .u64)) (.pair (.i .i64) .unit))) (.pair (.pair .bool (.pair (.sl (.u .u64)) (.pair (.i .i64) .unit))) .unit))) .unit)))) (.pair (.clo 89 .unit) .unit)
noncomputable def cI : aI := mSpec fA (.one (.i .i64)) (fun x => bN x.1 x.2.1)
noncomputable def fB : List (FuncId × aI) := [(89, sW)]
theorem mB : bF Tryz.prog GL fB := .cons aIE (by kernel_rfl) (.nil)
theorem kB : gam fB 89 = some sW := rfl
attribute [go_sem] fA eS kB
set_option maxHeartbeats 4000000 in
theorem lJ : FOK Tryz.prog GL 157 cI := by
 refine bD (bE mB) mix Tryz.func157 rfl (by kernel_rfl) (by decide) eS fun w0 S x Θ hw h hF => ?_
 obtain ⟨(s_0 : (List (List qT0))), (f_1 : Unit), u⟩ := x
 simp only [bH, go_sem]
 replace h : sat (bN s_0 f_1) _ := h
 unfold bN at h
 refine bC hF (D := Int) [0, 1, 7] (fun d => [(8, .val (.i .i64) d)]) (fun d => []) h rfl (by simp only [go_sem]) ?_
 rintro x8_14 A2 T2 hA2 hE2 h
 simp only [go_sem]
 replace h : sat (cC s_0 x8_14) _ := h
 unfold cC at h
 refine bW h (fun hc h => ?_) fun hc h => ?_
 ·refine aH h fun g0 h => ?_
  obtain ⟨v_27, hv, h⟩ := aQ h
  try simp only [hv, go_sem]
  refine aHe h (fun hc h => ?_) fun hc h => ?_
  ·replace h := hE2 _ (aA h)
   try dsimp only at h
   exact aG hF [.tmp 4] rfl rfl rfl (aA h) (by simp only [aV, go_sem])
  ·refine aH h fun g0 h => ?_
   replace h := hA2 _ (aA h)
   exact aP _ h rfl (by simp only [go_sem])
 ·replace h := hE2 _ (aA h)
  try dsimp only at h
  exact aG hF [.tmp 4] rfl rfl rfl (aA h) (by simp only [aV, go_sem])
attribute [go_sem] cI
noncomputable def bA (s_0 : (List (List qT0))) (f_1 : Unit) : Option Bool :=
 (bN s_0 f_1).bind (fun v_6 => some (decide ((0 : Int) ≤ v_6)))
def dY : PlR := ⟨[(0, .A [0, 1]), (1, .A [4])], []⟩
def eE : Ty := .pair (.sl (.sl (.pair (.sl (.pair .bool (.pair (.sl (.u .u64)) (.pair (.i .i64) .unit)))) (.pair (.sl (.pair (.pair .bool (.pair (.sl (.u .u64)) (.pair (.i .i64) .unit))) (.pair (.pair .bool (.pair (.sl (.u .u64)) (.pair (.i .i64) .unit))) .unit))) .unit)))) (.pair (.clo 89 .unit) .unit)
noncomputable def bV : aI := mSpec eE (.one .bool) (fun x => bA x.1 x.2.1)
noncomputable def eF : List (FuncId × aI) := [(157, cI)]
theorem kC : bF Tryz.prog GL eF := .cons lJ (by kernel_rfl) (.nil)
theorem iQ : gam eF 157 = some cI := rfl
attribute [go_sem] eE dY iQ
set_option maxHeartbeats 4000000 in
theorem jT : FOK Tryz.prog GL 88 bV := by
 refine bD (bE kC) mix Tryz.func88 rfl (by kernel_rfl) (by decide) dY fun w0 S x Θ hw h hF => ?_
 obtain ⟨(s_0 : (List (List qT0))), (f_1 : Unit), u⟩ := x
 simp only [bH, go_sem]
 replace h : sat (bA s_0 f_1) _ := h
 unfold bA at h
 obtain ⟨v_6, hv, h⟩ := aQ h
 try simp only [hv, go_sem]
 exact aG hF [.tmp 4] rfl rfl rfl (aA h) (by simp only [aV, go_sem])
attribute [go_sem] bV
noncomputable def mF (r_0 : qR0) (x60_4 : Int) : Option ((Int) ⊕ ((Unit) ⊕ Bool)) :=
 if x60_4 < (((((((r_0.2).2).2).2).2).1).length : Int) then ck (0 ≤ x60_4 ∧ x60_4 < (((((((r_0.2).2).2).2).2).1).length : Int)) (ck ((¬ ((64 : Int) < ((((((((((r_0.2).2).2).2).2).1).getD (x60_4.toNat) ([] : List qI0)).length) : Nat) : Int)) → (((aZ (((((((r_0.2).2).2).2).2).1).getD (x60_4.toNat) ([] : List qI0)) ()).isSome = true)))) (if ((64 : Int) < ((((((((((r_0.2).2).2).2).2).1).getD (x60_4.toNat) ([] : List qI0)).length) : Nat) : Int)) ∨ (((aZ (((((((r_0.2).2).2).2).2).1).getD (x60_4.toNat) ([] : List qI0)) ()).getD false) = true) then some (.inr (.inr false)) else ck (I64 (x60_4 + (1 : Int))) (some (.inl (x60_4 + (1 : Int)))))) else some (.inr (.inl ()))
noncomputable def pP (r_0 : qR0) : Option Bool :=
 ck ((¬ (((((((r_0.1) < (1 : Int)) ∨ ((3 : Int) < (r_0.1))) ∨ (((r_0.2).1) < (0 : Int))) ∨ ((1073741824 : Int) < ((r_0.2).1))) ∨ ((((r_0.2).2).1) < (0 : Int))) ∨ ((200 : Int) < (((r_0.2).2).1))) → (((cS ((((r_0.2).2).2).1)).isSome = true)))) (ck ((¬ ((((((((r_0.1) < (1 : Int)) ∨ ((3 : Int) < (r_0.1))) ∨ (((r_0.2).1) < (0 : Int))) ∨ ((1073741824 : Int) < ((r_0.2).1))) ∨ ((((r_0.2).2).1) < (0 : Int))) ∨ ((200 : Int) < (((r_0.2).2).1))) ∨ (¬ (((cS ((((r_0.2).2).2).1)).getD false) = true))) → (((cS (((((r_0.2).2).2).2).1)).isSome = true)))) (if ((((((((((r_0.1) < (1 : Int)) ∨ ((3 : Int) < (r_0.1))) ∨ (((r_0.2).1) < (0 : Int))) ∨ ((1073741824 : Int) < ((r_0.2).1))) ∨ ((((r_0.2).2).1) < (0 : Int))) ∨ ((200 : Int) < (((r_0.2).2).1))) ∨ (¬ (((cS ((((r_0.2).2).2).1)).getD false) = true))) ∨ (¬ (((cS (((((r_0.2).2).2).2).1)).getD false) = true))) ∨ ((16 : Int) < (((((((r_0.2).2).2).2).2).1).length : Int))) ∨ ((16 : Int) < ((((((((r_0.2).2).2).2).2).2).1).length : Int)) then some false else (bO (fun d : Int => mF r_0 d) (0 : Int)).bind (fun e => match e with | (.inl e) => (bA (((((((r_0.2).2).2).2).2).2).1) ()).bind (fun v_13 => some (!v_13)) | (.inr e) => some e)))
def aEk : PlR := ⟨[(0, .B [1]), (1, .A [1, 56]), (2, .A [2]), (3, .A [1, 58, 59, 60]), (4, .A [1, 58, 59, 60, 61]), (5, .A [1, 4, 58, 59, 60]), (6, .A [1, 58, 59, 60, 70]), (7, .A [2]), (8, .A [1, 58, 59, 60]), (9, .A [2])], []⟩
def aFK : Ty := .pair (.pair (.i .i64) (.pair (.i .i64) (.pair (.i .i64) (.pair (.pair .bool (.pair (.sl (.u .u64)) (.pair (.i .i64) .unit))) (.pair (.pair .bool (.pair (.sl (.u .u64)) (.pair (.i .i64) .unit))) (.pair (.sl (.sl (.pair (.pair .bool (.pair (.sl (.u .u64)) (.pair (.i .i64) .unit))) (.pair (.pair .bool (.pair (.sl (.u .u64)) (.pair (.i .i64) .unit))) .unit)))) (.pair (.sl (.sl (.pair (.sl (.pair .bool (.pair (.sl (.u .u64)) (.pair (.i .i64) .unit)))) (.pair (.sl (.pair (.pair .bool (.pair (.sl (.u .u64)) (.pair (.i .i64) .unit))) (.pair (.pair .bool (.pair (.sl (.u .u64)) (.pair (.i .i64) .unit))) .unit))) .unit)))) .unit))))))) .unit
noncomputable def wY : aI := mSpec aFK (.one .bool) (fun x => pP x.1)
noncomputable def zB : List (FuncId × aI) := [(86, bU), (88, bV), (58, fM)]
theorem aOR : bF Tryz.prog GL zB := .cons jS (by kernel_rfl) (.cons jT (by kernel_rfl) (.cons tV (by kernel_rfl) (.nil)))
theorem aIF : gam zB 86 = some bU := rfl
theorem aIG : gam zB 88 = some bV := rfl
theorem aIH : gam zB 58 = some fM := rfl
attribute [go_sem] aFK aEk aIF aIG aIH
set_option maxHeartbeats 4000000 in
theorem aMU : FOK Tryz.prog GL 40 wY := by
 refine bD (bE aOR) mix Tryz.func40 rfl (by kernel_rfl) (by decide) aEk fun w0 S x Θ hw h hF => ?_
 obtain ⟨(r_0 : qR0), u⟩ := x
 simp only [bH, go_sem]
 replace h : sat (pP r_0) _ := h
 unfold pP at h
 obtain ⟨g0, h⟩ := aJ h
 obtain ⟨g1, h⟩ := aJ h
 repeat (refine ⟨by first | with_reducible assumption | omega | (intros; first | assumption | omega) | (simp only [go_sem] at *; first | assumption | omega) | (intro q0; (try have e0 := g0 (by first | exact q0 | omega | (simpa using q0))); (try have e1 := g1 (by first | exact q0 | omega | (simpa using q0))); first | assumption | omega) | decide, ?_⟩)
 refine ⟨fun hc => ?_, fun hc => ?_⟩
 ·replace h := fU (by first | exact hc | omega | (simpa using hc) | (simp at hc ⊢; omega)) h
  exact aG hF [.tmp 2] rfl rfl rfl (aA h) (by simp only [aV, go_sem])
 ·replace h := fV (by first | exact hc | omega | (simpa using hc) | (simp at hc ⊢; omega)) h
  refine bC hF (D := Int) [58, 59] (fun d => [(1, .ptr 0 []), (60, .val (.i .i64) d)]) (fun d => [.inr (.box 11 (.val (.pair (.i .i64) (.pair (.i .i64) (.pair (.i .i64) (.pair (.pair .bool (.pair (.sl (.u .u64)) (.pair (.i .i64) .unit))) (.pair (.pair .bool (.pair (.sl (.u .u64)) (.pair (.i .i64) .unit))) (.pair (.sl (.sl (.pair (.pair .bool (.pair (.sl (.u .u64)) (.pair (.i .i64) .unit))) (.pair (.pair .bool (.pair (.sl (.u .u64)) (.pair (.i .i64) .unit))) .unit)))) (.pair (.sl (.sl (.pair (.sl (.pair .bool (.pair (.sl (.u .u64)) (.pair (.i .i64) .unit)))) (.pair (.sl (.pair (.pair .bool (.pair (.sl (.u .u64)) (.pair (.i .i64) .unit))) (.pair (.pair .bool (.pair (.sl (.u .u64)) (.pair (.i .i64) .unit))) .unit))) .unit)))) .unit))))))) r_0))]) h rfl (by simp only [go_sem]) ?_
  rintro x60_4 A4 T4 hA4 hE4 h
  simp only [go_sem]
  replace h : sat (mF r_0 x60_4) _ := h
  unfold mF at h
  refine bW h (fun hc h => ?_) fun hc h => ?_
  ·obtain ⟨g0, h⟩ := aJ h
   repeat (refine ⟨by first | with_reducible assumption | omega | (intros; first | assumption | omega) | (simp only [go_sem] at *; first | assumption | omega) | decide, ?_⟩)
   obtain ⟨g0, h⟩ := aJ h
   repeat (refine ⟨by first | with_reducible assumption | omega | (intros; first | assumption | omega) | (simp only [go_sem] at *; first | assumption | omega) | (intro q0; (try have e0 := g0 (by first | exact q0 | omega | (simpa using q0))); first | assumption | omega) | decide, ?_⟩)
   refine ⟨fun hc => ?_, fun hc => ?_⟩
   ·replace h := fU hc h
    replace h := hE4 _ (aA h)
    try dsimp only at h
    exact aG hF [.tmp 2] rfl rfl rfl (aA h) (by simp only [aV, go_sem])
   ·replace h := fV hc h
    obtain ⟨g0, h⟩ := aJ h
    try simp only [I64, I32] at g0
    repeat (refine ⟨by first | with_reducible assumption | omega | (intros; first | assumption | omega) | (simp only [go_sem] at *; first | assumption | omega) | decide, ?_⟩)
    replace h := hA4 _ (aA h)
    exact aP _ h rfl (by simp only [go_sem])
  ·replace h := hE4 _ (aA h)
   try dsimp only at h
   obtain ⟨v_9, hv, h⟩ := aQ h
   try simp only [hv, go_sem]
   exact aG hF [.tmp 2] rfl rfl rfl (aA h) (by simp only [aV, go_sem])
attribute [go_sem] wY
end Nu
end Go.Proofs
namespace Go.Proofs
open Go.Vc
set_option maxRecDepth 20000
namespace Nu
abbrev Iv := Dy × Dy × Unit
abbrev Tb := List Dy × List Iv × Unit
abbrev Rec := Int × Int × Int × Dy × Dy × List (List Iv) × List (List Tb) × Unit
def LmI (a : Iv) : Prop := Lm a.1.2.1 ∧ Lm a.2.1.2.1
def LmT (t : Tb) : Prop := (∀ d ∈ t.1, Lm d.2.1) ∧ ∀ a ∈ t.2.1, LmI a
def LmR (r : Rec) : Prop := Lm r.2.2.2.1.2.1 ∧ Lm r.2.2.2.2.1.2.1 ∧ (∀ b ∈ r.2.2.2.2.2.1, ∀ a ∈ b, LmI a) ∧ ∀ l ∈ r.2.2.2.2.2.2.1, ∀ t ∈ l, LmT t
def aAn (a : Iv) : Bool := jR a.1 && jR a.2.1 && decide (aOP a.1 a.2.1 ≤ 0)
def stepT (l : List Dy) (i : Nat) : Bool := jR (l.getD i d0) && (decide (i = 0) || decide (aOP (l.getD (i - 1) d0) (l.getD i d0) < 0))
def aGP (t : Tb) : Bool := decide (1 ≤ t.2.1.length ∧ t.2.1.length ≤ 256 ∧ t.1.length = t.2.1.length + 1) && (List.range t.1.length).all (stepT t.1) && t.2.1.all aAn
def aEl (r : Rec) : Bool := decide (1 ≤ r.1 ∧ r.1 ≤ 3 ∧ 0 ≤ r.2.1 ∧ r.2.1 ≤ 1073741824 ∧ 0 ≤ r.2.2.1 ∧ r.2.2.1 ≤ 200) && jR r.2.2.2.1 && jR r.2.2.2.2.1 && decide (r.2.2.2.2.2.1.length ≤ 16 ∧ r.2.2.2.2.2.2.1.length ≤ 16)
def aII (b : List Iv) : Bool := decide (b.length ≤ 64) && b.all aAn
def aOS (l : List Tb) : Bool := decide (l.length ≤ 64) && l.all aGP
def rG (r : Rec) : Bool := aEl r && r.2.2.2.2.2.1.all aII && r.2.2.2.2.2.2.1.all aOS
theorem pQ {α : Type} {l : List α} {i : Nat} {z : α} (h : i < l.length) : l.getD i z ∈ l := by simp [List.getD, h]
theorem oG {α : Type} (l : List α) (z : α) (p : α → Bool) : (List.range l.length).all (fun i => p (l.getD i z)) = l.all p := by
 rw [Bool.eq_iff_iff, List.all_eq_true, List.all_eq_true]
 constructor
 ·intro h x hx
  obtain ⟨i, hi, rfl⟩ := List.getElem_of_mem hx
  have := h i (List.mem_range.2 hi)
  simpa [List.getD, hi] using this
 ·intro h i hi
  exact h _ (pQ (List.mem_range.1 hi))
def stp {E : Type} (o : Option E) (i : Int) : Int ⊕ E := match o with
 | some e => .inr e
 | none => .inl i
theorem aNy {E : Type} {step : Int → Option (Int ⊕ E)} (n : Nat) (stop : Nat → Option E) (z : E) (h : ∀ i, i < n → step (i : Int) = some (stp (stop i) ((i : Int) + 1))) (h3 : step (n : Int) = some (.inr z)) : bO step 0 = some (((List.range n).findSome? stop).getD z) := by
 have key := gF (step := step) (I := fun d : Int => ∃ i : Nat, d = i ∧ i ≤ n) (fun d => (n - d).toNat) (fun d => ((List.range' d.toNat (n - d.toNat)).findSome? stop).getD z) (fun d hd => by
  obtain ⟨i, rfl, hi⟩ := hd
  simp only [Int.toNat_natCast]
  rcases Nat.lt_or_ge i n with hlt | hge
  ·have e : n - i = (n - (i + 1)) + 1 := by omega
   have hs := h i hlt
   cases ho : stop i with
   | none =>
    left
    refine ⟨(i : Int) + 1, by rw [hs, ho]; rfl, ⟨i + 1, by simp, hlt⟩, by omega, ?_⟩
    rw [e, List.range'_succ, List.findSome?_cons, ho]
    rfl
   | some v =>
    right
    rw [hs, ho, e, List.range'_succ, List.findSome?_cons, ho]
    rfl
  ·right
   obtain rfl : i = n := by omega
   rw [h3, Nat.sub_self]
   rfl) 0 ⟨0, rfl, Nat.zero_le _⟩
 rw [key, List.range_eq_range']
 rfl
theorem aWf {E : Type} {n : Nat} {p : Nat → Bool} {e : E} : (List.range n).findSome? (fun i => bif p i then none else some e) = bif (List.range n).all p then none else some e := by
 generalize List.range n = l
 induction l with
 | nil => rfl
 | cons x r ih =>
  rw [List.findSome?_cons, List.all_cons, ih]
  cases p x <;> rfl
theorem oH {step : Int → Option (Int ⊕ (Unit ⊕ Bool))} (n : Nat) (p : Nat → Bool) (h1 : ∀ i, i < n → step (i : Int) = some (bif p i then .inl ((i : Int) + 1) else .inr (.inr false))) (h3 : step (n : Int) = some (.inr (.inl ()))) : bO step 0 = some (bif (List.range n).all p then .inl () else .inr false) := by
 rw [aNy n (fun i => bif p i then none else some (.inr false)) (.inl ()) (fun i hi => ?_) h3, aWf]
 ·cases (List.range n).all p <;> rfl
 ·rw [h1 i hi]
  cases p i <;> rfl
theorem aWg {α : Type} (s : List α) (z : α) (p : α → Bool) : ∃ v, (((List.range s.length).findSome? (fun i => bif p (s.getD i z) then some (Sum.inr (i : Int)) else none)).getD (Sum.inl ()) : Unit ⊕ Int) = v ∧ ((v = .inl () ∧ s.any p = false) ∨ ∃ i : Nat, v = .inr (i : Int) ∧ s.any p = true) := by
 refine ⟨_, rfl, ?_⟩
 cases hf : (List.range s.length).findSome? (fun i => bif p (s.getD i z) then some (Sum.inr (i : Int) : Unit ⊕ Int) else none) with
 | none =>
  left
  refine ⟨rfl, ?_⟩
  rw [List.findSome?_eq_none_iff] at hf
  rw [List.any_eq_false]
  intro x hx
  obtain ⟨i, hi, rfl⟩ := List.getElem_of_mem hx
  have := hf i (List.mem_range.2 hi)
  intro hp
  rw [show s.getD i z = s[i] from by simp [List.getD, hi], hp] at this
  cases this
 | some v =>
  right
  obtain ⟨i, hi, hv⟩ := List.exists_of_findSome?_eq_some hf
  have hi := List.mem_range.1 hi
  cases hp : p (s.getD i z) with
  | false => rw [hp] at hv; cases hv
  | true =>
   rw [hp] at hv
   refine ⟨i, (Option.some.inj hv).symm, List.any_eq_true.2 ⟨_, pQ hi, hp⟩⟩
theorem aJC {α : Type} (s : List α) (z : α) (p : α → Bool) (m : α → Option Bool) (hl : s.length ≤ 4611686018427387904) (hm : ∀ x ∈ s, m x = some (p x)) (step : Int → Option (Int ⊕ (Unit ⊕ Int)))
  (hs : ∀ x, step x = if x < (s.length : Int) then ck (0 ≤ x ∧ x < (s.length : Int)) ((m (s.getD x.toNat z)).bind (fun v => if v = true then some (.inr (.inr x)) else ck (I64 (x + 1)) (some (.inl (x + 1))))) else some (.inr (.inl ()))) :
  ∃ e, bO step 0 = some e ∧ ((e = .inl () ∧ s.any p = false) ∨ ∃ i : Nat, e = .inr (i : Int) ∧ s.any p = true) := by
 obtain ⟨v, hv, hq⟩ := aWg s z p
 refine ⟨v, ?_, hq⟩
 rw [← hv]
 refine aNy _ _ _ (fun i hi => ?_) (by rw [hs, if_neg (by omega)])
 have h1 : (0 : Int) ≤ i ∧ (i : Int) < (s.length : Int) := by omega
 have h2 := hm _ (pQ (z := z) hi)
 rw [hs, if_pos h1.2, wC h1, Int.toNat_natCast, h2, Option.bind_some]
 cases p (s.getD i z) with
 | true => rfl
 | false =>
  rw [if_neg (by decide), wC (by constructor <;> omega)]
  rfl
theorem aDA (a : Iv) (lm : LmI a) : rF a = some (aAn a) := by
 unfold rF aAn
 rw [aDs, aDs, aWe _ _ lm.1 lm.2]
 exact aB (fun _ => rfl) (aB (fun _ => rfl) rfl)
theorem aIJ (a : Iv) (lm : LmI a) : lF a = some (!aAn a) := by
 unfold lF
 rw [aDA a lm]; rfl
theorem aMV (a : Iv) (lm : LmI a) : pO a = some (!aAn a) := by
 unfold pO
 rw [aDA a lm]; rfl
theorem aJD {α : Type} (s : List α) (p : α → Bool) : s.any (fun x => !p x) = !s.all p := by rw [List.any_eq_not_all_not]; simp
theorem aWh (s : List Iv) (lm : ∀ a ∈ s, LmI a) (hl : s.length ≤ 4611686018427387904) : aZ s () = some (!s.all aAn) := by
 obtain ⟨e, h1, h2⟩ := aJC s _ (fun a => !aAn a) lF hl (fun a ha => aIJ a (lm a ha)) (cA s) (fun x => rfl)
 rw [aJD] at h2
 unfold aZ bM
 rw [h1]
 rcases h2 with ⟨rfl, h2⟩ | ⟨i, rfl, h2⟩ <;> rw [h2] <;> simp
theorem aWi (s : List Iv) (lm : ∀ a ∈ s, LmI a) (hl : s.length ≤ 4611686018427387904) : bB s () = some (!s.all aAn) := by
 obtain ⟨e, h1, h2⟩ := aJC s _ (fun a => !aAn a) pO hl (fun a ha => aMV a (lm a ha)) (cH s) (fun x => rfl)
 rw [aJD] at h2
 unfold bB bP
 rw [h1]
 rcases h2 with ⟨rfl, h2⟩ | ⟨i, rfl, h2⟩ <;> rw [h2] <;> simp
theorem aQA (t : Tb) (lm : LmT t) : wL t = some (aGP t) := by
 unfold wL
 refine aB (fun h => by constructor <;> omega) ?_
 by_cases h : 1 ≤ t.2.1.length ∧ t.2.1.length ≤ 256 ∧ t.1.length = t.2.1.length + 1
 ·rw [if_neg (by omega)]
  have hc := aWi t.2.1 lm.2 (by omega)
  have hlp : bO (fun d : Int => qG t d) 0 = some (bif (List.range t.1.length).all (stepT t.1) then .inl () else .inr false) := by
   refine oH t.1.length (stepT t.1) (fun i hi => ?_) (by unfold qG; rw [if_neg (by omega)])
   have h1 := lm.1 _ (pQ (z := (d0 : Dy)) hi)
   have hi1 : i - 1 < t.1.length := by omega
   have h2 := lm.1 _ (pQ (z := (d0 : Dy)) hi1)
   have e1 : ((i : Int) - 1).toNat = i - 1 := by omega
   unfold qG
   rw [if_pos (by omega)]
   refine aB (by constructor <;> omega) (aK (aDs _) ?_)
   rw [Int.toNat_natCast, e1]
   have hcmp := aWe _ _ h2 h1
   refine aB (fun _ _ => by constructor <;> omega) (aB (fun _ _ => by constructor <;> omega) (aB (fun _ _ => by rw [show ((false, [], (0 : Int), ()) : Dy) = d0 from rfl, hcmp]; rfl) ?_))
   rw [show ((false, [], (0 : Int), ()) : Dy) = d0 from rfl, hcmp, Option.getD_some]
   have hI : I64 ((i : Int) + 1) := by constructor <;> omega
   unfold stepT
   generalize aOP (t.1.getD (i - 1) d0) (t.1.getD i d0) = c
   cases jR (t.1.getD i d0) with
   | false => rw [if_pos (by simp)]; rfl
   | true =>
    by_cases h0 : i = 0
    ·rw [if_neg (by simp; omega), wC hI]; simp [h0]
    ·by_cases hq : c < 0
     ·rw [if_neg (by simp; omega), wC hI]; simp [hq]
     ·rw [if_pos (by simp; omega)]; simp [hq, h0]
  rw [hlp]
  unfold aGP
  rw [decide_eq_true h]
  cases (List.range t.1.length).all (stepT t.1) with
  | false => rfl
  | true =>
   show (bB t.2.1 ()).bind _ = _
   rw [hc]; simp
 ·rw [if_pos (by omega)]
  unfold aGP
  rw [decide_eq_false h]; rfl
theorem aFL (t : Tb) (lm : LmT t) : iA t = some (!aGP t) := by
 unfold iA
 rw [aQA t lm]; rfl
theorem aWj (s : List Tb) (lm : ∀ a ∈ s, LmT a) (hl : s.length ≤ 4611686018427387904) : aY s () = some (!s.all aGP) := by
 obtain ⟨e, h1, h2⟩ := aJC s _ (fun a => !aGP a) iA hl (fun a ha => aFL a (lm a ha)) (bT s) (fun x => rfl)
 rw [aJD] at h2
 unfold aY bK
 rw [h1]
 rcases h2 with ⟨rfl, h2⟩ | ⟨i, rfl, h2⟩ <;> rw [h2] <;> simp
theorem aIK (l : List Tb) (lm : ∀ a ∈ l, LmT a) : lI l = some (!aOS l) := by
 unfold lI aOS
 by_cases h : l.length ≤ 64
 ·rw [aWj l lm (by omega)]
  refine aB (fun _ => rfl) ?_
  rw [decide_eq_false (by omega), decide_eq_true h]; simp
 ·refine aB (fun hh => absurd (by omega) hh) ?_
  rw [decide_eq_true (by omega), decide_eq_false h]; simp
theorem aWk (s : List (List Tb)) (lm : ∀ l ∈ s, ∀ a ∈ l, LmT a) (hl : s.length ≤ 4611686018427387904) : bA s () = some (!s.all aOS) := by
 obtain ⟨e, h1, h2⟩ := aJC s _ (fun a => !aOS a) lI hl (fun a ha => aIK a (lm a ha)) (cC s) (fun x => rfl)
 rw [aJD] at h2
 unfold bA bN
 rw [h1]
 rcases h2 with ⟨rfl, h2⟩ | ⟨i, rfl, h2⟩ <;> rw [h2] <;> simp
theorem aMW (r : Rec) (lm : LmR r) : pP r = some (rG r) := by
 unfold pP
 rw [aDs, aDs]
 refine aB (fun _ => rfl) (aB (fun _ => rfl) ?_)
 rw [Option.getD_some, Option.getD_some]
 cases hh : aEl r with
 | false =>
  rw [if_pos]
  ·unfold rG; rw [hh]; rfl
  ·unfold aEl at hh
   simp only [Bool.and_eq_false_iff, decide_eq_false_iff_not] at hh
   rcases hh with ((hh | hh) | hh) | hh
   ·omega
   ·rw [hh]; simp
   ·rw [hh]; simp
   ·omega
 | true =>
  have hh' := hh
  unfold aEl at hh'
  simp only [Bool.and_eq_true, decide_eq_true_eq] at hh'
  obtain ⟨⟨⟨q1, q2⟩, q3⟩, q4⟩ := hh'
  rw [if_neg (by rw [q2, q3]; simp; omega)]
  have hlp : bO (fun d : Int => mF r d) 0 = some (bif (List.range r.2.2.2.2.2.1.length).all (fun i => aII (r.2.2.2.2.2.1.getD i [])) then .inl () else .inr false) := by
   refine oH r.2.2.2.2.2.1.length _ (fun i hi => ?_) (by unfold mF; rw [if_neg (by omega)])
   have hm := pQ (z := ([] : List Iv)) hi
   unfold mF
   rw [if_pos (by omega)]
   refine aB (by constructor <;> omega) ?_
   rw [Int.toNat_natCast]
   have hI : I64 ((i : Int) + 1) := by constructor <;> omega
   generalize r.2.2.2.2.2.1.getD i [] = b at hm ⊢
   unfold aII
   by_cases h : b.length ≤ 64
   ·rw [aWh b (lm.2.2.1 b hm) (by omega)]
    refine aB (fun _ => rfl) ?_
    rw [decide_eq_true h, Option.getD_some]
    cases b.all aAn with
    | true => rw [if_neg (by simp; omega), wC hI]; rfl
    | false => rw [if_pos (by simp)]; rfl
   ·refine aB (fun hx => absurd (by omega) hx) ?_
    rw [if_pos (.inl (by omega)), decide_eq_false h]; rfl
  rw [hlp, oG]
  unfold rG
  rw [hh]
  cases r.2.2.2.2.2.1.all aII with
  | false => rfl
  | true =>
   show (bA r.2.2.2.2.2.2.1 ()).bind _ = _
   rw [aWk _ lm.2.2.2 (by omega)]; simp
end Nu
end Go.Proofs
namespace Go.Proofs
open Go.Shelf
def Tryz.lays156_ren : Go.Shelf.Ren := ⟨fun | 156 => 46 | 165 => 102 | 166 => 50 | 169 => 51 | 240 => 114 | 241 => 171 | 276 => 175 | 277 => 225 | n => n, fun | 31 => 48 | 9 => 9 | 3 => 3 | 4 => 4 | 0 => 0 | 20 => 20 | 72 => 101 | 76 => 104 | 70 => 98 | 37 => 99 | 75 => 103 | 127 => 148 | 164 => 198 | 5 => 5 | 80 => 106 | n => n, fun | n => n⟩
theorem Tryz.lays156 : Go.Proofs.Lays.n156 Tryz.prog Tryz.lays156_ren := {
 mixed := by kernel_rfl
 f156 := Tryz.func46.trans (congrArg some (by kernel_rfl))
 f165 := Tryz.func102.trans (congrArg some (by kernel_rfl))
 f166 := Tryz.func50.trans (congrArg some (by kernel_rfl))
 f169 := Tryz.func51.trans (congrArg some (by kernel_rfl))
 f240 := Tryz.func114.trans (congrArg some (by kernel_rfl))
 f241 := Tryz.func171.trans (congrArg some (by kernel_rfl))
 f276 := Tryz.func175.trans (congrArg some (by kernel_rfl))
 f277 := Tryz.func225.trans (congrArg some (by kernel_rfl))
 t0 := Tryz.underlying0
 a0 := Tryz.isAgg0
 z0 := Tryz.sizeOf0
 v0 := Tryz.zeroValue0
 t3 := Tryz.underlying3
 a3 := Tryz.isAgg3
 z3 := Tryz.sizeOf3
 v3 := Tryz.zeroValue3
 t4 := Tryz.underlying4
 a4 := Tryz.isAgg4
 z4 := Tryz.sizeOf4
 v4 := Tryz.zeroValue4
 t9 := Tryz.underlying9
 a9 := Tryz.isAgg9
 z9 := Tryz.sizeOf9
 v9 := Tryz.zeroValue9
 t20 := Tryz.underlying20
 a20 := Tryz.isAgg20
 z20 := Tryz.sizeOf20
 v20 := Tryz.zeroValue20
 t31 := Tryz.underlying48
 a31 := Tryz.isAgg48
 z31 := Tryz.sizeOf48
 v31 := Tryz.zeroValue48
 t37 := Tryz.underlying99
 a37 := Tryz.isAgg99
 z37 := Tryz.sizeOf99
 v37 := Tryz.zeroValue99
 t70 := Tryz.underlying98
 a70 := Tryz.isAgg98
 z70 := Tryz.sizeOf98
 v70 := Tryz.zeroValue98
 t72 := Tryz.underlying101
 a72 := Tryz.isAgg101
 z72 := Tryz.sizeOf101
 v72 := Tryz.zeroValue101
 t75 := Tryz.underlying103
 a75 := Tryz.isAgg103
 z75 := Tryz.sizeOf103
 v75 := Tryz.zeroValue103
 t76 := Tryz.underlying104
 a76 := Tryz.isAgg104
 z76 := Tryz.sizeOf104
 v76 := Tryz.zeroValue104
 t127 := Tryz.underlying148
 a127 := Tryz.isAgg148
 z127 := Tryz.sizeOf148
 v127 := Tryz.zeroValue148
 t164 := Tryz.underlying198
 a164 := Tryz.isAgg198
 z164 := Tryz.sizeOf198
 v164 := Tryz.zeroValue198 }
theorem Tryz.bx156 : Builder.Extra Tryz.prog Tryz.lays156_ren where
 sizeBuilder := by kernel_rfl
 liesBuilder := by kernel_rfl
 t5 := Tryz.underlying5
 a5 := Tryz.isAgg5
 z5 := Tryz.sizeOf5
 v5 := Tryz.zeroValue5
 infoByte := by kernel_rfl
 cellsByte := by kernel_rfl
 sizeByte := by kernel_rfl
 neB5 := by decide
open Go.Vc
set_option maxRecDepth 20000
namespace Nu
noncomputable def kD (o : Bool × List Nat) : Option (Bool × List Nat) := some (false, o.2)
noncomputable def jO : zZ where
 D := (Bool × (List Nat)) × ((Bool × (List Nat)))
 av := fun d => [.ptr 0 []]
 hp := fun d => [.box 4294967397 (.agg [pk (d.1.1) 0, .own 1]), .row 5 (.u .u8) (d.1.2)]
 m := 1
 pre := fun d => kD d.1 = some d.2
 out := fun d => (fun r : (Bool × (List Nat)) => .ret (.tup []) [.box 4294967397 (.agg [pk ((r).1) 0, .own 1]), .row 5 (.u .u8) ((r).2)]) d.2
attribute [go_sem] jO
noncomputable def iL (o : Bool × List Nat) : Option (List Nat) := some o.2
noncomputable def gY : zZ where
 D := (Bool × (List Nat)) × ((List Nat))
 av := fun d => [.ptr 0 []]
 hp := fun d => [.box 4294967397 (.agg [pk (d.1.1) 0, .own 1]), .row 5 (.u .u8) (d.1.2)]
 m := 1
 pre := fun d => iL d.1 = some d.2
 out := fun d => (fun r : (List Nat) => .ret (.val .str r) [.dead]) d.2
attribute [go_sem] gY
theorem aQB {b : Nat} {c : Ctx} {w : World} {vs : Array Value} (hl : vs.toList.length = 1) (hb : c.hd 0 = .pointer (some ⟨b, 0, none⟩)) (hv : ∀ (h2 : 0 < vs.toList.length), aS c w (.ptr 0 []) vs.toList[0]) : vs = #[.pointer (some ⟨b, 0, none⟩)] := by
 obtain ⟨_, b', hb', e⟩ := aAw (hv (by omega))
 rw [hb] at hb'
 simp only [aU, Option.some.injEq] at hb'
 subst hb'
 rw [← Array.toList_inj]
 refine List.ext_getElem hl fun i a1 a2 => ?_
 match i, a2 with
 | 0, _ => exact e
theorem yB : GOK Tryz.prog GL 114 jO := by
 rintro c w ⟨⟨b, xs⟩, r⟩ vs hpre ⟨good, glob, len, val⟩
 obtain rfl : (false, xs) = r := Option.some.inj hpre
 obtain ⟨B, q1, q2, q3⟩ := aKs good (i := 0) (j := 1) (tb := 101) rfl rfl
 have hvs := aQB len q1 (fun h2 => val 0 (by show 0 < 1; decide) h2)
 rw [hvs]
 have hr : aS c w (.tup []) (.tuple #[]) := ⟨[], rfl, rfl, fun i h1 _ => by cases h1⟩
 cases b with
 | true =>
  refine Calls.mono (f := 114) (Any.Builder_copyCheck_fresh { Tryz.lays156 with } Tryz.bx156.toX72 B w (by rw [Lib.cell_of_heap q2]; rfl) (by simp [World.shape?, q2]; rfl) (Lib.frozen_of_heap q2 0)) ?_
  rintro e w' ⟨rfl, rfl⟩
  exact ⟨c, .tuple #[], rfl, aVD good (i := 0) (j := 1) (tb := 101) rfl rfl q1, ⟨[], rfl, rfl, fun i h1 _ => by cases h1⟩⟩
 | false =>
  refine Calls.mono (f := 114) (Any.Builder_copyCheck_used { Tryz.lays156 with } Tryz.bx156.toX72 B w (by rw [Lib.cell_of_heap q2]; rfl)) ?_
  rintro e w' ⟨rfl, rfl⟩
  exact ⟨c, .tuple #[], rfl, good, hr⟩
theorem aAu : GOK Tryz.prog GL 51 gY := by
 rintro c w ⟨⟨b, xs⟩, r⟩ vs hpre ⟨good, glob, len, val⟩
 obtain rfl : xs = r := Option.some.inj hpre
 obtain ⟨B, q1, q2, q3⟩ := aKs good (i := 0) (j := 1) (tb := 101) rfl rfl
 have hvs := aQB len q1 (fun h2 => val 0 (by show 0 < 1; decide) h2)
 rw [hvs]
 obtain ⟨l, hx, hl⟩ := aTX q3
 have hlm : l.length ≤ maxLen := by
  rcases hl with ⟨_, rfl⟩ | ⟨g, cap, cur, _, _, h1, h2, _⟩
  ·exact Nat.zero_le _
  ·exact Nat.le_trans h1 h2
 have hfin : ∀ (g : Option Nat) (w' : World), (∀ b', g = some b' → aU (c.hd 1) = some b') → w.grownBy w' g → aU7 gY c w ((b, xs), xs) (.returned (.string ⟨l.toArray⟩)) w' := fun g w' hg hgr => by
  refine ⟨⟨c.S, c.hd, 1⟩, .string ⟨l.toArray⟩, rfl, aVE good (i := 0) (j := 1) rfl rfl rfl hgr hg, ?_, (fun h => by cases h), fun _ cs => by simp⟩
  show aW w' c.S .str xs [.string ⟨l.toArray⟩]
  exact ⟨_, rfl, (by simp only [aN]; exact hx.symm), hlm⟩
 rcases hl with ⟨e1, rfl⟩ | ⟨g, cap, cur, e1, hg, hnc, hcm, hcs, hcell⟩
 ·rw [e1] at q2
  refine Calls.mono (f := 51) (aRt { Tryz.lays156 with } Tryz.bx156 B _ w q2) ?_
  rintro e w' ⟨rfl, hgr⟩
  exact hfin _ _ (fun _ h => by cases h) hgr
 ·rw [e1] at q2
  by_cases h0 : l = []
  ·subst h0
   by_cases hc0 : cap = 0
   ·subst hc0
    refine Calls.mono (f := 51) (aMa { Tryz.lays156 with } Tryz.bx156 B g _ cur w q2 hg) ?_
    rintro e w' ⟨rfl, hgr⟩
    exact hfin _ _ (fun _ h => by cases h) hgr
   ·refine Calls.mono (f := 51) (aPR { Tryz.lays156 with } Tryz.bx156 B g cap _ w hc0 q2) ?_
    rintro e w' ⟨rfl, hgr⟩
    exact hfin _ _ (fun _ h => by cases h) hgr
  ·refine Calls.mono (f := 51) (aPQ { Tryz.lays156 with } Tryz.bx156 B g cap _ cur l w h0 q2 hg hnc hcm hcs hcell) ?_
   rintro e w' ⟨rfl, hgr⟩
   exact hfin _ _ (fun b' h => by cases h; rw [e1]; rfl) hgr
def sQ (xs : List (List Nat)) (sep : List Nat) : List Nat := sep.intercalate xs
def aTo (xs : List (List Nat)) (sep : List Nat) : Prop := xs.length ≤ 140737488355328 ∧ (sQ xs sep).length ≤ 140737488355328
instance (xs : List (List Nat)) (sep : List Nat) : Decidable (aTo xs sep) := by unfold aTo; infer_instance
theorem aNz {s : ByteArray} {x : List Nat} (h : aN s = x) : s.data.toList = x.map UInt8.ofNat := by
 subst h
 simp [aN, List.map_map, Function.comp_def]
theorem aQC {α β : Type} (f : α → β) (sep : List α) : ∀ xs : List (List α), (sep.intercalate xs).map f = (sep.map f).intercalate (xs.map (List.map f))
 | [] => rfl
 | [x] => by simp [List.intercalate]
 | x :: y :: r => by
  have := aQC f sep (y :: r)
  simp only [List.intercalate, List.intersperse, List.flatten_cons, List.map_append, List.map_cons] at this ⊢
  rw [this]
def aDB : Ty := .pair (.sl .str) (.pair .str .unit)
noncomputable def sX : aI := ⟨aDB, .one .str, fun x => aTo x.1 x.2.1, fun x => sQ x.1 x.2.1⟩
attribute [go_sem] sX aDB
theorem aIL : FOK Tryz.prog GL 46 sX := by
 rintro w S vs ⟨xs, sep, u⟩ hS hG ⟨v, vs', e1, h1, v2, vs2, e2, h2, e3⟩ ⟨p1, p2⟩
 have h1 : aW w S (.sl .str) xs [v] := h1
 obtain ⟨a, len, cap, ev, hl, hlc, hcm, hr⟩ := h1
 have h2 : aW w S .str sep [v2] := h2
 obtain ⟨s, es, hs, hsz⟩ := h2
 have hl : xs.length = len := hl
 have e3 : vs2 = [] := e3
 have hvs : vs = #[.slice a len cap, .string s] := by
  rw [← Array.toList_inj, e1, e2, e3, (List.cons.inj ev).1, (List.cons.inj es).1]
 rw [hvs]
 have hres : ∀ (t : List UInt8) (w' : World), t.map (·.toNat) = sQ xs sep → cL w' (fun b => S b ∨ (w.heap.size ≤ b ∧ b < w'.heap.size)) .str (sQ xs sep) (.string ⟨t.toArray⟩) := fun t w' ht => by
  show aW w' (fun b => S b ∨ (w.heap.size ≤ b ∧ b < w'.heap.size)) .str (sQ xs sep) [.string ⟨t.toArray⟩]
  refine ⟨_, rfl, by simp [aN, ht], ?_⟩
  have : t.length = (sQ xs sep).length := by rw [← ht, List.length_map]
  have hp : (sQ xs sep).length ≤ 140737488355328 := p2
  show t.length ≤ maxLen
  unfold maxLen
  omega
 rcases hr with hr | ⟨b, off, ea, hb, hc⟩
 ·have hr : xs = [] := hr
  subst hr
  have hl0 : len = 0 := hl.symm
  subst hl0
  refine Calls.mono (f := 46) (Any.strings_Join_none Tryz.lays156 Tryz.bx156 a cap s w) ?_
  rintro e w' ⟨rfl, rfl⟩
  exact ⟨.string ⟨#[]⟩, rfl, .refl _ _, hres [] w' rfl⟩
 ·have ex : xs = (xs.map (fun l => (⟨(l.map UInt8.ofNat).toArray⟩ : ByteArray))).map aN := by
   rw [List.map_map]
   apply List.ext_getElem
   ·simp
   ·intro i h1 h2
    obtain ⟨ds, hd, _⟩ := hc i h1
    obtain ⟨s', _, hs', _⟩ := hd
    have hb := aNz hs'
    simp only [List.getElem_map, Function.comp]
    show xs[i] = List.map _ ((xs[i]).map UInt8.ofNat)
    rw [← hb]; exact hs'.symm
  subst ea
  have hcells : ∀ (j : Nat) x, (xs.map (fun l => (⟨(l.map UInt8.ofNat).toArray⟩ : ByteArray)))[j]? = some x → w.cell? ⟨b, off + j, none⟩ = some (.string x) := fun j x hx => by
   have hj : j < xs.length := by
    rcases Nat.lt_or_ge j xs.length with h | h
    ·exact h
    ·rw [List.getElem?_eq_none (by simpa using h)] at hx; cases hx
   obtain ⟨ds, hd, hcell⟩ := hc j hj
   obtain ⟨s', hds, hs', _⟩ := hd
   have hds : ds = [.string s'] := hds
   have := hcell 0 (.string s') (by rw [hds]; rfl)
   rw [List.getElem?_map, List.getElem?_eq_getElem hj] at hx
   have hx : (⟨((xs[j]).map UInt8.ofNat).toArray⟩ : ByteArray) = x := Option.some.inj hx
   rw [← hx, ← aNz hs']
   simpa [Ty.cells] using this
  have hsd : s.data.toList.map (·.toNat) = sep := hs
  have hj : (Lib.join ((xs.map (fun l => (⟨(l.map UInt8.ofNat).toArray⟩ : ByteArray))).map (·.data.toList)) s.data.toList).map (·.toNat) = sQ xs sep := by
   unfold Lib.join sQ
   rw [aQC, hsd]
   congr 1
   conv => rhs; rw [ex]
   simp only [List.map_map]
   rfl
  have key := Any.strings_Join Tryz.lays156 Tryz.bx156 b off cap (xs.map (fun l => (⟨(l.map UInt8.ofNat).toArray⟩ : ByteArray))) s w hcells (hS b hb) (by rw [List.length_map]; exact p1) (by rw [List.length_map, hl]; exact hlc) (by
   have := congrArg List.length hj
   rw [List.length_map] at this
   rw [this]; exact p2)
  rw [List.length_map, hl] at key
  refine Calls.mono (f := 46) key ?_
  rintro e w' ⟨rfl, hbel⟩
  exact ⟨_, rfl, fK.of_below hbel, hres _ w' hj⟩
end Nu
end Go.Proofs
namespace Go.Proofs
open Go.Vc
set_option maxRecDepth 20000
namespace Nu
noncomputable def gI (i_0 : Int) (u_5 : Nat) : Option ((List Nat)) :=
 ck (((aO u_5).isSome = true)) (ck (I64 ((1 : Int) + ((aO u_5).getD (0 : Int)))) (ck ((1 : Int) < ((1 : Int) + ((aO u_5).getD (0 : Int))) ∧ ((1 : Int) + ((aO u_5).getD (0 : Int))) ≤ 24) (((cP (1 : Nat) ((((1 : Int) + ((aO u_5).getD (0 : Int))) - (1 : Int)).toNat) u_5 (List.replicate 24 (0 : Nat)))).bind (fun r_7 => if i_0 < (0 : Int) then ck (I64 ((1 : Int) + ((aO u_5).getD (0 : Int)))) (ck ((0 : Int) < ((1 : Int) + ((aO u_5).getD (0 : Int))) ∧ ((1 : Int) + ((aO u_5).getD (0 : Int))) ≤ 24) (ck ((0 : Nat) + ((((1 : Int) + ((aO u_5).getD (0 : Int))) - (0 : Int)).toNat) ≤ 24) (some (List.take ((((1 : Int) + ((aO u_5).getD (0 : Int))) - (0 : Int)).toNat) (List.drop (0 : Nat) (r_7.set (0 : Nat) (45 : Nat))))))) else ck (I64 ((1 : Int) + ((aO u_5).getD (0 : Int)))) (ck ((1 : Int) < ((1 : Int) + ((aO u_5).getD (0 : Int))) ∧ ((1 : Int) + ((aO u_5).getD (0 : Int))) ≤ 24) (ck ((1 : Nat) + ((((1 : Int) + ((aO u_5).getD (0 : Int))) - (1 : Int)).toNat) ≤ 24) (some (List.take ((((1 : Int) + ((aO u_5).getD (0 : Int))) - (1 : Int)).toNat) (List.drop (1 : Nat) r_7)))))))))
noncomputable def iR (i_0 : Int) (base_1 : Int) : Option (List Nat) :=
 if base_1 = (10 : Int) then if ((0 : Int) ≤ i_0) ∧ (i_0 < (100 : Int)) then ck (((fG i_0).isSome = true)) (some ((fG i_0).getD ([] : List Nat))) else if i_0 < (0 : Int) then gI i_0 (aL4 .u64 ((i_0 % (18446744073709551616 : Int)).toNat)) else gI i_0 ((i_0 % (18446744073709551616 : Int)).toNat) else none
def mS : Ty := .pair (.i .i64) (.pair (.i .i64) .unit)
attribute [go_sem] mS
noncomputable def lZ : aI := mSpec mS (.one .str) (fun x => iR x.1 x.2.1)
noncomputable def mT : List (FuncId × aI) := [(215, jA), (216, fQ)]
theorem xV : bF Tryz.prog GL mT := .cons aAJ (by kernel_rfl) (.cons vR (by kernel_rfl) (.nil))
theorem aBd : gam mT 215 = some jA := rfl
attribute [go_sem] aBd
theorem aBe : gam mT 216 = some fQ := rfl
attribute [go_sem] aBe
set_option maxHeartbeats 4000000 in
theorem aCB : FOK Tryz.prog GL 160 lZ := by
 refine wE (bE xV) Tryz.func160 rfl (by kernel_rfl) (by decide) fun w0 S x r hw h => ?_
 have hF : vI (fr Tryz.prog (EM mT) S w0 Tryz.f160.ntmps) := ⟨bE xV, mix⟩
 obtain ⟨(i_0 : Int), (base_1 : Int), u⟩ := x
 simp only [mS, Ty.wf, vX] at hw
 simp only [bH, mS]
 try dsimp only at h
 unfold iR at h
 refine aE (aD hF [0, 1] ?_)
 simp only [go_sem]
 refine aF (aE (aE (aD hF [0, 1, 11] ?_)))
 simp only [go_sem]
 refine aF (bR rfl (fun hc => ?_) (fun hc => ?_))
 ·try simp only [go_sem] at hc
  have h := gD (by first | exact hc | omega | (simpa using hc) | (simp at hc ⊢; omega)) h
  refine aE (aE (aD hF [0, 17] ?_))
  simp only [go_sem]
  refine aF (bR rfl (fun hc => ?_) (fun hc => ?_))
  ·try simp only [go_sem] at hc
   have h := gD (by first | exact hc | omega | (simpa using hc) | (simp at hc ⊢; omega)) h
   refine aE (aD hF [4] ?_)
   simp only [go_sem]
   obtain ⟨g0, h⟩ := aM h
   repeat (refine ⟨by first | with_reducible assumption | omega | (intros; first | assumption | omega) | (simp only [go_sem] at *; first | assumption | omega) | decide, ?_⟩)
   obtain rfl := Option.some.inj h
   refine aF (fC (cE (cE (gL hF [.tmp 4] rfl rfl rfl ?_))))
   (try simp only [oE, aV, go_sem]) <;> first | rfl | (simp; done)
  ·try simp only [go_sem] at hc
   have h := gE (by first | exact hc | omega | (simpa using hc) | (simp at hc ⊢; omega)) h
   refine cM (aF (aE (cK hF [0, 5] ?_)))
   simp only [go_sem]
   refine aF (aE (aD hF [0, 5, 6] ?_))
   simp only [go_sem]
   refine aF (qC (D := Nat) (fun d => gI i_0 d = some r) [0] (fun d => [(5, .ptr 0 []), (6, .val (.u .u64) d)]) (fun d => [.inr (.box 24 (.val (.arr 24 (.u .u8)) (List.replicate 24 (0 : Nat))))]) ?_ ?_)
   ·refine aE (aD hF [0, 5, 6, 23] ?_)
    simp only [go_sem]
    refine aF (bR rfl (fun hc => ?_) (fun hc => ?_))
    ·try simp only [go_sem] at hc
     have h := gD (by first | exact hc | omega | (simpa using hc) | (simp at hc ⊢; omega)) h
     refine aD hF [0, 5, 6] ?_
     simp only [go_sem]
     refine bI (aP ((aL4 .u64 ((i_0 % (18446744073709551616 : Int)).toNat))) h rfl ?_)
     ·(try simp only [kU, hZ, true_or, and_self, go_sem]) <;> (repeat' apply And.intro) <;> first | rfl | (left; rfl) | (right; rfl) | (left; simp only [go_sem]; done) | (right; simp only [go_sem]; done) | (simp; done) | (simp only [*]; done) | omega
    ·try simp only [go_sem] at hc
     have h := gE (by first | exact hc | omega | (simpa using hc) | (simp at hc ⊢; omega)) h
     refine cM (bI (aP (((i_0 % (18446744073709551616 : Int)).toNat)) h rfl ?_))
     ·(try simp only [kU, hZ, true_or, and_self, go_sem]) <;> (repeat' apply And.intro) <;> first | rfl | (left; rfl) | (right; rfl) | (left; simp only [go_sem]; done) | (right; simp only [go_sem]; done) | (simp; done) | (simp only [*]; done) | omega
   ·rintro u_5 h
    try dsimp only at h
    simp only [go_sem]
    unfold gI at h
    refine aE (aD hF [0, 5, 6, 7] ?_)
    simp only [go_sem]
    obtain ⟨g0, h⟩ := aM h
    repeat (refine ⟨by first | with_reducible assumption | omega | (intros; first | assumption | omega) | (simp only [go_sem] at *; first | assumption | omega) | decide, ?_⟩)
    obtain ⟨g0, h⟩ := aM h
    try simp only [I64, I32] at g0
    obtain ⟨g1, h⟩ := aM h
    obtain ⟨r_7, he1, h⟩ := bind_some h
    try dsimp only at h
    refine aF (aE (dU hF (jV (l := [(217, ⟨iJ, [0], ((1 : Nat), ((((1 : Int) + ((aO u_5).getD (0 : Int))) - (1 : Int)).toNat), u_5, (List.replicate 24 (0 : Nat)), r_7)⟩)]) (.cons sO (by kernel_rfl) (.nil))) [0, 5, 7] [30] ?_))
    simp only [go_sem]
    repeat (refine ⟨by first | with_reducible assumption | omega | (intros; first | assumption | omega) | (simp only [go_sem] at *; first | assumption | omega) | decide, ?_⟩)
    refine aF (aE (aE (aD hF [5, 7, 34] ?_)))
    simp only [go_sem]
    refine aF (bR rfl (fun hc => ?_) (fun hc => ?_))
    ·try simp only [go_sem] at hc
     have h := gD (by first | exact hc | omega | (simpa using hc) | (simp at hc ⊢; omega)) h
     refine aE (cK hF [5, 7] ?_)
     simp only [go_sem]
     obtain ⟨g0, h⟩ := aM h
     try simp only [I64, I32] at g0
     obtain ⟨g1, h⟩ := aM h
     obtain ⟨g2, h⟩ := aM h
     refine aF (aE (dU hF (jV (l := []) (.nil)) [4] [38] ?_))
     simp only [go_sem]
     repeat (refine ⟨by first | with_reducible assumption | omega | (intros; first | assumption | omega) | (simp only [go_sem] at *; first | assumption | omega) | decide, ?_⟩)
     obtain rfl := Option.some.inj h
     refine aF (fC (cE (cE (gL hF [.tmp 4] rfl rfl rfl ?_))))
     (try simp only [oE, aV, go_sem]) <;> first | rfl | (simp; done)
    ·try simp only [go_sem] at hc
     have h := gE (by first | exact hc | omega | (simpa using hc) | (simp at hc ⊢; omega)) h
     obtain ⟨g0, h⟩ := aM h
     try simp only [I64, I32] at g0
     obtain ⟨g1, h⟩ := aM h
     obtain ⟨g2, h⟩ := aM h
     refine cM (aF (aE (dU hF (jV (l := []) (.nil)) [4] [42] ?_)))
     simp only [go_sem]
     repeat (refine ⟨by first | with_reducible assumption | omega | (intros; first | assumption | omega) | (simp only [go_sem] at *; first | assumption | omega) | decide, ?_⟩)
     obtain rfl := Option.some.inj h
     refine aF (fC (cE (gL hF [.tmp 4] rfl rfl rfl ?_)))
     (try simp only [oE, aV, go_sem]) <;> first | rfl | (simp; done)
 ·try simp only [go_sem] at hc
  have h := gE (by first | exact hc | omega | (simpa using hc) | (simp at hc ⊢; omega)) h
  cases h
attribute [go_sem] lZ
noncomputable def qA (i_0 : Int) : Option (List Nat) :=
 (iR i_0 (10 : Int)).bind (fun v_5 => some v_5)
def aBC : PlR := ⟨[(0, .A [0]), (1, .A [2])], []⟩
def aCi : Ty := .pair (.i .i64) .unit
noncomputable def rX : aI := mSpec aCi (.one .str) (fun x => qA x.1)
noncomputable def aCj : List (FuncId × aI) := [(160, lZ)]
theorem aIM : bF Tryz.prog GL aCj := .cons aCB (by kernel_rfl) (.nil)
theorem aD1 : gam aCj 160 = some lZ := rfl
attribute [go_sem] aCi aBC aD1
set_option maxHeartbeats 4000000 in
theorem aGQ : FOK Tryz.prog GL 93 rX := by
 refine bD (bE aIM) mix Tryz.func93 rfl (by kernel_rfl) (by decide) aBC fun w0 S x Θ hw h hF => ?_
 obtain ⟨(i_0 : Int), u⟩ := x
 simp only [bH, go_sem]
 replace h : sat (qA i_0) _ := h
 unfold qA at h
 obtain ⟨v_5, hv, h⟩ := aQ h
 try simp only [hv, go_sem]
 exact aG hF [.tmp 2] rfl rfl rfl (aA h) (by simp only [aV, go_sem])
attribute [go_sem] rX
noncomputable def iS (i_0 : Int) : Option (List Nat) :=
 (qA i_0).bind (fun v_5 => some v_5)
def aCk : PlR := ⟨[(0, .A [0]), (1, .A [2])], []⟩
def aDC : Ty := .pair (.i .i64) .unit
noncomputable def sY : aI := mSpec aDC (.one .str) (fun x => iS x.1)
noncomputable def aDD : List (FuncId × aI) := [(93, rX)]
theorem aK9 : bF Tryz.prog GL aDD := .cons aGQ (by kernel_rfl) (.nil)
theorem aFM : gam aDD 93 = some rX := rfl
attribute [go_sem] aDC aCk aFM
set_option maxHeartbeats 4000000 in
theorem aIN : FOK Tryz.prog GL 43 sY := by
 refine bD (bE aK9) mix Tryz.func43 rfl (by kernel_rfl) (by decide) aCk fun w0 S x Θ hw h hF => ?_
 obtain ⟨(i_0 : Int), u⟩ := x
 simp only [bH, go_sem]
 replace h : sat (iS i_0) _ := h
 unfold iS at h
 obtain ⟨v_5, hv, h⟩ := aQ h
 try simp only [hv, go_sem]
 exact aG hF [.tmp 2] rfl rfl rfl (aA h) (by simp only [aV, go_sem])
attribute [go_sem] sY
noncomputable def fY (s_0 : (List Nat)) (e_1 : Int) (o0_4 : Int) (o1_5 : (List (List Nat))) : Option ((Int × (List (List Nat)))) :=
 if o0_4 = (0 : Int) then ck (((o1_5.length) + (1 : Nat)) * 16 ≤ 140737488355328) (some (e_1, (o1_5 ++ ([s_0] : List (List Nat))))) else ck (((o1_5.length) + (1 : Nat)) * 16 ≤ 140737488355328) (some (o0_4, (o1_5 ++ ([s_0] : List (List Nat)))))
noncomputable def iC : zZ where
 D := (List Nat) × Int × Int × (List (List Nat)) × ((Int × (List (List Nat))))
 av := fun d => [.val .str d.1, .val (.i .i64) d.2.1, .ptr 0 [], .ptr 1 []]
 hp := fun d => [.box 1 (.val (.i .i64) d.2.2.1), .box 1 (.own 2), .row 9 .str d.2.2.2.1]
 m := 2
 pre := fun d => fY d.1 d.2.1 d.2.2.1 d.2.2.2.1 = some d.2.2.2.2
 out := fun d => (fun r : (Int × (List (List Nat))) => .ret (.tup []) [.box 1 (.val (.i .i64) (r.1)), .box 1 (.own 2), .row 9 .str (r.2)]) d.2.2.2.2
noncomputable def aCl : List (FuncId × aI) := []
theorem aCm : bF Tryz.prog GL aCl := .nil
set_option maxHeartbeats 4000000 in
theorem rY : GOK Tryz.prog GL 41 iC := by
 refine aC4 (bE aCm) Tryz.func41 rfl (by kernel_rfl) (fun _ => Nat.le_of_ble_eq_true rfl) fun c0 w0 d hw1 hw2 h hn => ?_
 have hF : vI ⟨Tryz.prog, EM aCl, GM iC c0 d, w0, Tryz.f41.ntmps, []⟩ := ⟨bE aCm, mix⟩
 obtain ⟨(s_0 : (List Nat)), (e_1 : Int), (o0_4 : Int), (o1_5 : (List (List Nat))), r⟩ := d
 replace h : fY s_0 e_1 o0_4 o1_5 = some r := h
 have hw1 : AV.wfL [.val .str s_0, .val (.i .i64) e_1, .ptr 0 [], .ptr 1 []] := hw1
 simp only [AV.wfL, AV.wfV, Ty.wf, vX] at hw1
 show Tri _ _ _ [(0, .val .str s_0), (1, .val (.i .i64) e_1), (2, .ptr 0 []), (3, .ptr 1 [])] [.box 1 (.val (.i .i64) o0_4), .box 1 (.own 2), .row 9 .str o1_5]
 unfold fY at h
 refine aE (aE (aD hF [0, 1, 2, 3, 7] ?_))
 simp only [go_sem]
 refine aF (bR rfl (fun hc => ?_) (fun hc => ?_))
 ·try simp only [go_sem] at hc
  have h := gD (by first | exact hc | omega | (simpa using hc) | (simp at hc ⊢; omega)) h
  refine cK hF [0, 3] ?_
  simp only [go_sem]
  refine aF (cK hF [] ?_)
  simp only [go_sem]
  obtain ⟨g0, h⟩ := aM h
  repeat (refine ⟨by first | with_reducible assumption | omega | (intros; first | assumption | omega) | (simp only [go_sem] at *; first | assumption | omega) | decide, ?_⟩)
  obtain rfl := Option.some.inj h
  refine aJy (nE [0, 1, 3] rfl rfl ?_)
  simp only [ren, kK, yP, posOf, nD, go_sem]
  refine aBT hF [] rfl rfl rfl rfl rfl rfl ?_
  (try simp only [aV, aN8, aKl, hZ, wA, AV.isAgg, go_sem]) <;> first | trivial | rfl | (simp; done)
 ·try simp only [go_sem] at hc
  have h := gE (by first | exact hc | omega | (simpa using hc) | (simp at hc ⊢; omega)) h
  refine cM (aF (cK hF [] ?_))
  simp only [go_sem]
  obtain ⟨g0, h⟩ := aM h
  repeat (refine ⟨by first | with_reducible assumption | omega | (intros; first | assumption | omega) | (simp only [go_sem] at *; first | assumption | omega) | decide, ?_⟩)
  obtain rfl := Option.some.inj h
  refine aJy (nE [0, 1, 3] rfl rfl ?_)
  simp only [ren, kK, yP, posOf, nD, go_sem]
  refine aBT hF [] rfl rfl rfl rfl rfl rfl ?_
  (try simp only [aV, aN8, aKl, hZ, wA, AV.isAgg, go_sem]) <;> first | trivial | rfl | (simp; done)
attribute [go_sem] iC
noncomputable def gS (n_0 : Int) (o1_3 : Int) (o2_4 : (List (List Nat))) : Option ((Int × (List (List Nat)))) :=
 ck (((iS n_0).isSome = true)) (((fY ((iS n_0).getD ([] : List Nat)) (0 : Int) o1_3 o2_4)).bind (fun r_7 => some ((r_7.1), (r_7.2))))
noncomputable def kO : zZ where
 D := Int × Int × (List (List Nat)) × ((Int × (List (List Nat))))
 av := fun d => [.val (.i .i64) d.1, .ptr 0 []]
 hp := fun d => [.box 1 (.fn 41 [] [1, 2]), .box 1 (.val (.i .i64) d.2.1), .box 1 (.own 3), .row 9 .str d.2.2.1]
 m := 3
 pre := fun d => gS d.1 d.2.1 d.2.2.1 = some d.2.2.2
 out := fun d => (fun r : (Int × (List (List Nat))) => .ret (.tup []) [.box 1 (.fn 41 [] [1, 2]), .box 1 (.val (.i .i64) (r.1)), .box 1 (.own 3), .row 9 .str (r.2)]) d.2.2.2
noncomputable def yC : List (FuncId × aI) := [(43, sY)]
theorem aCn : bF Tryz.prog GL yC := .cons aIN (by kernel_rfl) (.nil)
theorem aER : gam yC 43 = some sY := rfl
attribute [go_sem] aER
set_option maxHeartbeats 4000000 in
theorem wM : GOK Tryz.prog GL 42 kO := by
 refine aC4 (bE aCn) Tryz.func42 rfl (by kernel_rfl) (fun _ => Nat.le_of_ble_eq_true rfl) fun c0 w0 d hw1 hw2 h hn => ?_
 have hF : vI ⟨Tryz.prog, EM yC, GM kO c0 d, w0, Tryz.f42.ntmps, []⟩ := ⟨bE aCn, mix⟩
 obtain ⟨(n_0 : Int), (o1_3 : Int), (o2_4 : (List (List Nat))), r⟩ := d
 replace h : gS n_0 o1_3 o2_4 = some r := h
 have hw1 : AV.wfL [.val (.i .i64) n_0, .ptr 0 []] := hw1
 simp only [AV.wfL, AV.wfV, Ty.wf, vX] at hw1
 show Tri _ _ _ [(0, .val (.i .i64) n_0), (1, .ptr 0 [])] [.box 1 (.fn 41 [] [1, 2]), .box 1 (.val (.i .i64) o1_3), .box 1 (.own 3), .row 9 .str o2_4]
 unfold gS at h
 obtain ⟨g0, h⟩ := aM h
 obtain ⟨r_7, he1, h⟩ := bind_some h
 try dsimp only at h
 refine aBV hF (jV (l := [(41, ⟨iC, [1, 2, 3], (((iS n_0).getD ([] : List Nat)), (0 : Int), o1_3, o2_4, r_7)⟩)]) (.cons rY (by kernel_rfl) (.nil))) 3 (by decide) [] [] ?_
 simp only [go_sem]
 repeat (refine ⟨by first | with_reducible assumption | omega | (intros; first | assumption | omega) | (simp only [go_sem] at *; first | assumption | omega) | decide | ((repeat' apply And.intro) <;> first | assumption | rfl | omega) | fail, ?_⟩)
 simp only [aS0, go_sem]
 repeat (refine ⟨by first | with_reducible assumption | omega | (intros; first | assumption | omega) | (simp only [go_sem] at *; first | assumption | omega) | decide | ((repeat' apply And.intro) <;> first | assumption | rfl | omega) | fail, ?_⟩)
 obtain rfl := Option.some.inj h
 refine aJy (nE [0, 1, 2, 4] rfl rfl ?_)
 simp only [ren, kK, yP, posOf, nD, go_sem]
 refine aBT hF [] rfl rfl rfl rfl rfl rfl ?_
 (try simp only [aV, aN8, aKl, hZ, wA, AV.isAgg, go_sem]) <;> first | trivial | rfl | (simp; done)
attribute [go_sem] kO
noncomputable def gT (d_0 : qD0) (o1_4 : Int) (o2_5 : Int) (o3_6 : (List (List Nat))) : Option ((Int × (Int × (List (List Nat))))) :=
 ck (((jJ d_0 o1_4 false).isSome = true)) (((fY (((jJ d_0 o1_4 false).getD (([] : List Nat), (0 : Int), ())).1) ((((jJ d_0 o1_4 false).getD (([] : List Nat), (0 : Int), ())).2).1) o2_5 o3_6)).bind (fun r_9 => some (o1_4, (r_9.1), (r_9.2))))
noncomputable def kP : zZ where
 D := qD0 × Int × Int × (List (List Nat)) × ((Int × (Int × (List (List Nat)))))
 av := fun d => [.val (.pair .bool (.pair (.sl (.u .u64)) (.pair (.i .i64) .unit))) d.1, .ptr 0 [], .ptr 1 []]
 hp := fun d => [.box 1 (.fn 41 [] [2, 3]), .box 1 (.val (.i .i64) d.2.1), .box 1 (.val (.i .i64) d.2.2.1), .box 1 (.own 4), .row 9 .str d.2.2.2.1]
 m := 4
 pre := fun d => gT d.1 d.2.1 d.2.2.1 d.2.2.2.1 = some d.2.2.2.2
 out := fun d => (fun r : (Int × (Int × (List (List Nat)))) => .ret (.tup []) [.box 1 (.fn 41 [] [2, 3]), .box 1 (.val (.i .i64) (r.1)), .box 1 (.val (.i .i64) (r.2.1)), .box 1 (.own 4), .row 9 .str (r.2.2)]) d.2.2.2.2
noncomputable def yD : List (FuncId × aI) := [(45, tX)]
theorem aCo : bF Tryz.prog GL yD := .cons aHE (by kernel_rfl) (.nil)
theorem aES : gam yD 45 = some tX := rfl
attribute [go_sem] aES
set_option maxHeartbeats 4000000 in
theorem wN : GOK Tryz.prog GL 44 kP := by
 refine aC4 (bE aCo) Tryz.func44 rfl (by kernel_rfl) (fun _ => Nat.le_of_ble_eq_true rfl) fun c0 w0 d hw1 hw2 h hn => ?_
 have hF : vI ⟨Tryz.prog, EM yD, GM kP c0 d, w0, Tryz.f44.ntmps, []⟩ := ⟨bE aCo, mix⟩
 obtain ⟨(d_0 : qD0), (o1_4 : Int), (o2_5 : Int), (o3_6 : (List (List Nat))), r⟩ := d
 replace h : gT d_0 o1_4 o2_5 o3_6 = some r := h
 have hw1 : AV.wfL [.val (.pair .bool (.pair (.sl (.u .u64)) (.pair (.i .i64) .unit))) d_0, .ptr 0 [], .ptr 1 []] := hw1
 simp only [AV.wfL, AV.wfV, Ty.wf, vX] at hw1
 show Tri _ _ _ [(0, .val (.pair .bool (.pair (.sl (.u .u64)) (.pair (.i .i64) .unit))) d_0), (1, .ptr 0 []), (2, .ptr 1 [])] [.box 1 (.fn 41 [] [2, 3]), .box 1 (.val (.i .i64) o1_4), .box 1 (.val (.i .i64) o2_5), .box 1 (.own 4), .row 9 .str o3_6]
 unfold gT at h
 refine aE (cK hF [1, 2, 3] ?_)
 simp only [go_sem]
 obtain ⟨g0, h⟩ := aM h
 obtain ⟨r_9, he1, h⟩ := bind_some h
 try dsimp only at h
 refine aF (aBV hF (jV (l := [(41, ⟨iC, [2, 3, 4], ((((jJ d_0 o1_4 false).getD (([] : List Nat), (0 : Int), ())).1), ((((jJ d_0 o1_4 false).getD (([] : List Nat), (0 : Int), ())).2).1), o2_5, o3_6, r_9)⟩)]) (.cons rY (by kernel_rfl) (.nil))) 6 (by decide) [] [] ?_)
 simp only [go_sem]
 repeat (refine ⟨by first | with_reducible assumption | omega | (intros; first | assumption | omega) | (simp only [go_sem] at *; first | assumption | omega) | decide | ((repeat' apply And.intro) <;> first | assumption | rfl | omega) | fail, ?_⟩)
 simp only [aS0, go_sem]
 repeat (refine ⟨by first | with_reducible assumption | omega | (intros; first | assumption | omega) | (simp only [go_sem] at *; first | assumption | omega) | decide | ((repeat' apply And.intro) <;> first | assumption | rfl | omega) | fail, ?_⟩)
 obtain rfl := Option.some.inj h
 refine aJy (nE [0, 1, 2, 3, 6] rfl rfl ?_)
 simp only [ren, kK, yP, posOf, nD, go_sem]
 refine aBT hF [] rfl rfl rfl rfl rfl rfl ?_
 (try simp only [aV, aN8, aKl, hZ, wA, AV.isAgg, go_sem]) <;> first | trivial | rfl | (simp; done)
attribute [go_sem] kP
noncomputable def cY (s_1 : (List Nat)) (o0_2 : (Bool × (List Nat))) : Option (((Int × (Unit × Unit)) × (Bool × (List Nat)))) :=
 ((kD ((o0_2.1), (o0_2.2)))).bind (fun r_6 => ck ((((r_6.2).length) + (s_1.length)) * 1 ≤ 140737488355328) (some (((s_1.length : Int), (), ()), (r_6.1), ((r_6.2) ++ s_1))))
noncomputable def fH : zZ where
 D := (List Nat) × (Bool × (List Nat)) × (((Int × (Unit × Unit)) × (Bool × (List Nat))))
 av := fun d => [.ptr 0 [], .val .str d.1]
 hp := fun d => [.box 4294967397 (.agg [pk (d.2.1.1) 0, .own 1]), .row 5 (.u .u8) (d.2.1.2)]
 m := 1
 pre := fun d => cY d.1 d.2.1 = some d.2.2
 out := fun d => (fun r : ((Int × (Unit × Unit)) × (Bool × (List Nat))) => .ret (.tup [.val (.i .i64) r.1.1, .val .nili r.1.2.1]) [.box 4294967397 (.agg [pk ((r.2).1) 0, .own 1]), .row 5 (.u .u8) ((r.2).2)]) d.2.2
noncomputable def pB : List (FuncId × aI) := []
theorem pC : bF Tryz.prog GL pB := .nil
set_option maxHeartbeats 4000000 in
theorem wO : GOK Tryz.prog GL 50 fH := by
 refine aC4 (bE pC) Tryz.func50 rfl (by kernel_rfl) (fun _ => Nat.le_of_ble_eq_true rfl) fun c0 w0 d hw1 hw2 h hn => ?_
 have hF : vI ⟨Tryz.prog, EM pB, GM fH c0 d, w0, Tryz.f50.ntmps, []⟩ := ⟨bE pC, mix⟩
 obtain ⟨(s_1 : (List Nat)), (o0_2 : (Bool × (List Nat))), r⟩ := d
 replace h : cY s_1 o0_2 = some r := h
 have hw1 : AV.wfL [.ptr 0 [], .val .str s_1] := hw1
 simp only [AV.wfL, AV.wfV, Ty.wf, vX] at hw1
 show Tri _ _ _ [(0, .ptr 0 []), (1, .val .str s_1)] [.box 4294967397 (.agg [pk (o0_2.1) 0, .own 1]), .row 5 (.u .u8) (o0_2.2)]
 unfold cY at h
 refine aE (aD hF [0, 1] ?_)
 simp only [go_sem]
 obtain ⟨r_6, he1, h⟩ := bind_some h
 try dsimp only at h
 refine aF (aE (dU hF (jV (l := [(114, ⟨jO, [0, 1], (((o0_2.1), (o0_2.2)), r_6)⟩)]) (.cons yB (by kernel_rfl) (.nil))) [0, 1] [] ?_))
 simp only [go_sem]
 repeat (refine ⟨by first | with_reducible assumption | omega | (intros; first | assumption | omega) | (simp only [go_sem] at *; first | assumption | omega) | decide | ((repeat' apply And.intro) <;> first | assumption | rfl | omega) | fail, ?_⟩)
 refine aF (aE (cK hF [1] ?_))
 simp only [go_sem]
 obtain ⟨g0, h⟩ := aM h
 repeat (refine ⟨by first | with_reducible assumption | omega | (intros; first | assumption | omega) | (simp only [go_sem] at *; first | assumption | omega) | decide, ?_⟩)
 refine aF (aE (aD hF [4, 5] ?_))
 simp only [go_sem]
 obtain rfl := Option.some.inj h
 refine aF (fC (nE [0, 3] rfl rfl ?_))
 simp only [ren, kK, yP, posOf, nD, go_sem]
 refine aBT hF [.tmp 4, .tmp 5] rfl rfl rfl rfl rfl rfl ?_
 (try simp only [aV, aN8, aKl, hZ, wA, AV.isAgg, go_sem]) <;> first | trivial | rfl | (simp; done)
attribute [go_sem] fH
noncomputable def gJ (x_42 : (List (List Nat))) (first_43 : Int) : Option (((List Nat) × (Int × Unit))) :=
 if ¬ (first_43 = (0 : Int)) then some ((aN ⟨#[]⟩), first_43, ()) else ck ((aTo x_42 (aN ⟨#[32]⟩))) (ck (((sQ x_42 (aN ⟨#[32]⟩)).length) + ((aN ⟨#[10]⟩).length) ≤ 9223372036854775807) (some (((sQ x_42 (aN ⟨#[32]⟩)) ++ (aN ⟨#[10]⟩)), (0 : Int), ())))
noncomputable def mU (r_0 : qR0) (x49_142 : Int) (r_131 : (Int × (Int × (List (List Nat))))) (x55_169 : Int) (x_170 : (List (List Nat))) (first_171 : Int) : Option ((Int × (List (List Nat)) × Int) ⊕ (((List (List Nat)) × Int))) :=
 if x55_169 < ((((((((((r_0.2).2).2).2).2).1).getD (x49_142.toNat) ([] : List qI0)).length) : Nat) : Int) then ck (0 ≤ x55_169 ∧ x55_169 < ((((((((((r_0.2).2).2).2).2).1).getD (x49_142.toNat) ([] : List qI0)).length) : Nat) : Int)) (ck (((eU ((((((((r_0.2).2).2).2).2).1).getD (x49_142.toNat) ([] : List qI0)).getD (x55_169.toNat) ((false, ([] : List Nat), (0 : Int), ()), (false, ([] : List Nat), (0 : Int), ()), ())) (r_131.1)).isSome = true)) (((fY (((eU ((((((((r_0.2).2).2).2).2).1).getD (x49_142.toNat) ([] : List qI0)).getD (x55_169.toNat) ((false, ([] : List Nat), (0 : Int), ()), (false, ([] : List Nat), (0 : Int), ()), ())) (r_131.1)).getD (([] : List Nat), (0 : Int), ())).1) ((((eU ((((((((r_0.2).2).2).2).2).1).getD (x49_142.toNat) ([] : List qI0)).getD (x55_169.toNat) ((false, ([] : List Nat), (0 : Int), ()), (false, ([] : List Nat), (0 : Int), ()), ())) (r_131.1)).getD (([] : List Nat), (0 : Int), ())).2).1) first_171 x_170)).bind (fun r_179 => ck (I64 (x55_169 + (1 : Int))) (some (.inl ((x55_169 + (1 : Int)), (r_179.2), (r_179.1))))))) else some (.inr (x_170, first_171))
noncomputable def mV (r_0 : qR0) (r_131 : (Int × (Int × (List (List Nat))))) (x49_142 : Int) (x_143 : (List (List Nat))) (first_144 : Int) : Option ((Int × (List (List Nat)) × Int) ⊕ (((List (List Nat)) × Int))) :=
 if x49_142 < (((((((r_0.2).2).2).2).2).1).length : Int) then ck (0 ≤ x49_142 ∧ x49_142 < (((((((r_0.2).2).2).2).2).1).length : Int)) ((bO (fun d : Int × (List (List Nat)) × Int => mU r_0 x49_142 r_131 d.1 d.2.1 d.2.2) ((0 : Int), x_143, first_144)).bind (fun e => ck (I64 (x49_142 + (1 : Int))) (some (.inl ((x49_142 + (1 : Int)), e.1, e.2))))) else some (.inr (x_143, first_144))
noncomputable def eV (r_0 : qR0) (digits_1 : Int) : Option ((List Nat) × (Int × Unit)) :=
 ck (((pP r_0).isSome = true)) (if ¬ (((pP r_0).getD false) = true) then some ((aN ⟨#[]⟩), (1 : Int), ()) else ((fY ((aBM (.i .i64) (aEw (.i .i64) (aEw (.i .i64) (aEw (.i .i64) ([] : List (Int × (List Nat))) (1 : Int) (aN ⟨#[99, 111, 109, 109, 105, 116]⟩)) (2 : Int) (aN ⟨#[114, 101, 106, 101, 99, 116]⟩)) (3 : Int) (aN ⟨#[101, 110, 100]⟩)) (r_0.1)).getD ([] : List Nat)) (0 : Int) (0 : Int) ([] : List (List Nat)))).bind (fun r_4 => ((gS ((r_0.2).1) (r_4.1) (r_4.2))).bind (fun r_6 => ((gT ((((r_0.2).2).2).1) digits_1 (r_6.1) (r_6.2))).bind (fun r_8 => if (r_0.1) = (1 : Int) then ((gT (((((r_0.2).2).2).2).1) (r_8.1) ((r_8.2).1) ((r_8.2).2))).bind (fun r_131 => (bO (fun d : Int × (List (List Nat)) × Int => mV r_0 r_131 d.1 d.2.1 d.2.2) ((0 : Int), ((r_131.2).2), ((r_131.2).1))).bind (fun e => gJ e.1 e.2)) else if (r_0.1) = (2 : Int) then ((gT (((((r_0.2).2).2).2).1) (r_8.1) ((r_8.2).1) ((r_8.2).2))).bind (fun r_180 => ((gS (((r_0.2).2).1) ((r_180.2).1) ((r_180.2).2))).bind (fun r_182 => gJ (r_182.2) (r_182.1))) else ((gS (((r_0.2).2).1) ((r_8.2).1) ((r_8.2).2))).bind (fun r_184 => gJ (r_184.2) (r_184.1))))))
def wZ : Ty := .pair (.pair (.i .i64) (.pair (.i .i64) (.pair (.i .i64) (.pair (.pair .bool (.pair (.sl (.u .u64)) (.pair (.i .i64) .unit))) (.pair (.pair .bool (.pair (.sl (.u .u64)) (.pair (.i .i64) .unit))) (.pair (.sl (.sl (.pair (.pair .bool (.pair (.sl (.u .u64)) (.pair (.i .i64) .unit))) (.pair (.pair .bool (.pair (.sl (.u .u64)) (.pair (.i .i64) .unit))) .unit)))) (.pair (.sl (.sl (.pair (.sl (.pair .bool (.pair (.sl (.u .u64)) (.pair (.i .i64) .unit)))) (.pair (.sl (.pair (.pair .bool (.pair (.sl (.u .u64)) (.pair (.i .i64) .unit))) (.pair (.pair .bool (.pair (.sl (.u .u64)) (.pair (.i .i64) .unit))) .unit))) .unit)))) .unit))))))) (.pair (.i .i64) .unit)
attribute [go_sem] wZ
noncomputable def iT : aI := mSpec wZ (.tup (.pair .str (.pair (.i .i64) .unit))) (fun x => eV x.1 x.2.1)
noncomputable def sR : List (FuncId × aI) := [(18, iO), (40, wY), (46, sX)]
theorem aEm : bF Tryz.prog GL sR := .cons aAm (by kernel_rfl) (.cons aMU (by kernel_rfl) (.cons aIL (by kernel_rfl) (.nil)))
theorem aGR : gam sR 18 = some iO := rfl
attribute [go_sem] aGR
theorem aGS : gam sR 40 = some wY := rfl
attribute [go_sem] aGS
theorem aGT : gam sR 46 = some sX := rfl
attribute [go_sem] aGT
set_option maxHeartbeats 4000000 in
theorem aAo : FOK Tryz.prog GL 14 iT := by
 refine wE (bE aEm) Tryz.func14 rfl (by kernel_rfl) (by decide) fun w0 S x r hw h => ?_
 have hF : vI (fr Tryz.prog (EM sR) S w0 Tryz.f14.ntmps) := ⟨bE aEm, mix⟩
 obtain ⟨(r_0 : qR0), (digits_1 : Int), u⟩ := x
 simp only [wZ, Ty.wf, vX] at hw
 simp only [bH, wZ]
 try dsimp only at h
 unfold eV at h
 refine aE (cK hF [2, 3] ?_)
 simp only [go_sem]
 refine aF (aE (aE (aD hF [2, 3, 17] ?_)))
 simp only [go_sem]
 obtain ⟨g0, h⟩ := aM h
 repeat (refine ⟨by first | with_reducible assumption | omega | (intros; first | assumption | omega) | (simp only [go_sem] at *; first | assumption | omega) | decide, ?_⟩)
 refine aF (bR rfl (fun hc => ?_) (fun hc => ?_))
 ·try simp only [go_sem] at hc
  have h := gD (by first | exact hc | omega | (simpa using hc) | (simp at hc ⊢; omega)) h
  refine aE (aD hF [4, 5] ?_)
  simp only [go_sem]
  obtain rfl := Option.some.inj h
  refine aF (fC (cE (gL hF [.tmp 4, .tmp 5] rfl rfl rfl ?_)))
  (try simp only [oE, aV, go_sem]) <;> first | rfl | (simp; done)
 ·try simp only [go_sem] at hc
  have h := gE (by first | exact hc | omega | (simpa using hc) | (simp at hc ⊢; omega)) h
  refine cM (aF (aE (cK hF [2, 3, 6] ?_)))
  simp only [go_sem]
  refine aXr 2 1 9 .str rfl ?_
  simp only [go_sem]
  refine aF (aE (cK hF [2, 3, 6, 7] ?_))
  simp only [go_sem]
  refine aF (aE (cK hF [2, 3, 6, 7, 8] ?_))
  simp only [go_sem]
  refine aF (aE (aD hF [2, 3, 6, 7, 8, 9] ?_))
  simp only [go_sem]
  refine aF (aE (aD hF [2, 3, 6, 7, 8, 9, 10] ?_))
  simp only [go_sem]
  obtain ⟨r_4, he1, h⟩ := bind_some h
  try dsimp only at h
  refine aF (aE (dU hF (jV (l := [(41, ⟨iC, [4, 2, 3], (((aBM (.i .i64) (aEw (.i .i64) (aEw (.i .i64) (aEw (.i .i64) ([] : List (Int × (List Nat))) (1 : Int) (aN ⟨#[99, 111, 109, 109, 105, 116]⟩)) (2 : Int) (aN ⟨#[114, 101, 106, 101, 99, 116]⟩)) (3 : Int) (aN ⟨#[101, 110, 100]⟩)) (r_0.1)).getD ([] : List Nat)), (0 : Int), (0 : Int), ([] : List (List Nat)), r_4)⟩)]) (.cons rY (by kernel_rfl) (.nil))) [2, 3, 6, 7, 8, 9, 10] [] ?_))
  simp only [go_sem]
  repeat (refine ⟨by first | with_reducible assumption | omega | (intros; first | assumption | omega) | (simp only [go_sem] at *; first | assumption | omega) | decide | ((repeat' apply And.intro) <;> first | assumption | rfl | omega) | fail, ?_⟩)
  obtain ⟨r_6, he2, h⟩ := bind_some h
  try dsimp only at h
  refine aF (aE (dU hF (jV (l := [(42, ⟨kO, [5, 4, 2, 7], (((r_0.2).1), (r_4.1), (r_4.2), r_6)⟩)]) (.cons wM (by kernel_rfl) (.nil))) [2, 3, 6, 7, 8, 9, 10] [] ?_))
  simp only [go_sem]
  repeat (refine ⟨by first | with_reducible assumption | omega | (intros; first | assumption | omega) | (simp only [go_sem] at *; first | assumption | omega) | decide | ((repeat' apply And.intro) <;> first | assumption | rfl | omega) | fail, ?_⟩)
  obtain ⟨r_8, he3, h⟩ := bind_some h
  try dsimp only at h
  refine aF (aE (dU hF (jV (l := [(44, ⟨kP, [5, 1, 4, 2, 8], (((((r_0.2).2).2).1), digits_1, (r_6.1), (r_6.2), r_8)⟩)]) (.cons wN (by kernel_rfl) (.nil))) [2, 3, 6, 7, 8, 9, 10] [] ?_))
  simp only [go_sem]
  repeat (refine ⟨by first | with_reducible assumption | omega | (intros; first | assumption | omega) | (simp only [go_sem] at *; first | assumption | omega) | decide | ((repeat' apply And.intro) <;> first | assumption | rfl | omega) | fail, ?_⟩)
  refine aF (qC (D := (List (List Nat)) × Int) (fun d => gJ d.1 d.2 = some r) [] (fun d => [(6, .ptr 0 []), (7, .ptr 2 [])]) (fun d => [.inr (.box 1 (.own 1)), .inr (.row 9 .str d.1), .inr (.box 1 (.val (.i .i64) d.2))]) ?_ ?_)
  ·refine aE (aD hF [2, 3, 6, 7, 8, 9, 10, 37] ?_)
   simp only [go_sem]
   refine aF (dN (aE (dN (aE (dN (aE (dN (aE (aE (aE (aD hF [2, 3, 6, 7, 8, 9, 10, 37, 38] ?_)))))))))))
   simp only [go_sem]
   refine aF (bR rfl (fun hc => ?_) (fun hc => ?_))
   ·try simp only [go_sem] at hc
    have h := gD (by first | exact hc | omega | (simpa using hc) | (simp at hc ⊢; omega)) h
    obtain ⟨r_131, he4, h⟩ := bind_some h
    try dsimp only at h
    refine kT (bZ (bZ (cZ (aF (aE (aE (dU hF (jV (l := [(44, ⟨kP, [5, 1, 4, 2, 9], ((((((r_0.2).2).2).2).1), (r_8.1), ((r_8.2).1), ((r_8.2).2), r_131)⟩)]) (.cons wN (by kernel_rfl) (.nil))) [2, 3, 6, 7, 8] [] ?_)))))))
    simp only [go_sem]
    repeat (refine ⟨by first | with_reducible assumption | omega | (intros; first | assumption | omega) | (simp only [go_sem] at *; first | assumption | omega) | decide | ((repeat' apply And.intro) <;> first | assumption | rfl | omega) | fail, ?_⟩)
    refine aF (aE (aD hF [3, 6, 7, 8, 47, 48, 49] ?_))
    simp only [go_sem]
    refine aF (dN (aN5 [1, 2, 10, 4, 5] rfl rfl ?_))
    simp only [ren, kK, yP, posOf, nD, go_sem]
    refine wD (D := Int × (List (List Nat)) × Int) [47, 48] (fun d => [(3, .ptr 0 []), (6, .ptr 1 []), (7, .ptr 3 []), (8, .ptr 4 []), (49, .val (.i .i64) d.1)]) (fun d => [.inr (.box 1 (.val (.i .i64) (r_131.1))), .inr (.box 1 (.own 2)), .inr (.row 9 .str d.2.1), .inr (.box 1 (.val (.i .i64) d.2.2)), .inr (.box 1 (.fn 41 [] [3, 1]))]) h ?_ ?_ ?_
    ·first | rfl | (simp only [go_sem]; done)
    ·(try simp only [kU, hZ, true_or, and_self, go_sem]) <;> (repeat' apply And.intro) <;> first | rfl | (left; rfl) | (right; rfl) | (left; simp only [go_sem]; done) | (right; simp only [go_sem]; done) | (simp; done) | (simp only [*]; done) | omega
    rintro ⟨x49_142, x_143, first_144⟩ s16 h hs16
    simp only [go_sem]
    try dsimp only at h
    unfold mV at h
    refine aE (aD hF [3, 6, 7, 8, 47, 48, 49, 50] ?_)
    simp only [go_sem]
    refine aF (aE (bR rfl (fun hc => ?_) (fun hc => ?_)))
    ·try simp only [go_sem] at hc
     have h := gD (by first | exact hc | omega | (simpa using hc) | (simp at hc ⊢; omega)) h
     refine cM (aF (aE (dN (aE (aD hF [3, 6, 7, 8, 12, 47, 48, 49] ?_)))))
     simp only [go_sem]
     obtain ⟨g0, h⟩ := aM h
     repeat (refine ⟨by first | with_reducible assumption | omega | (intros; first | assumption | omega) | (simp only [go_sem] at *; first | assumption | omega) | decide, ?_⟩)
     refine aF (aE (aD hF [3, 6, 7, 8, 47, 48, 49, 53, 54, 55] ?_))
     simp only [go_sem]
     refine aF (dN (wD (D := Int × (List (List Nat)) × Int) [47, 48, 49, 53, 54] (fun d => [(3, .ptr 0 []), (6, .ptr 1 []), (7, .ptr 3 []), (8, .ptr 4 []), (55, .val (.i .i64) d.1)]) (fun d => [.inr (.box 1 (.val (.i .i64) (r_131.1))), .inr (.box 1 (.own 2)), .inr (.row 9 .str d.2.1), .inr (.box 1 (.val (.i .i64) d.2.2)), .inr (.box 1 (.fn 41 [] [3, 1]))]) h ?_ ?_ ?_))
     ·first | rfl | (simp only [go_sem]; done)
     ·(try simp only [kU, hZ, true_or, and_self, go_sem]) <;> (repeat' apply And.intro) <;> first | rfl | (left; rfl) | (right; rfl) | (left; simp only [go_sem]; done) | (right; simp only [go_sem]; done) | (simp; done) | (simp only [*]; done) | omega
     rintro ⟨x55_169, x_170, first_171⟩ s19 h hs19
     simp only [go_sem]
     try dsimp only at h
     unfold mU at h
     refine aE (aD hF [3, 6, 7, 8, 47, 48, 49, 53, 54, 55, 56] ?_)
     simp only [go_sem]
     refine aF (aE (bR rfl (fun hc => ?_) (fun hc => ?_)))
     ·try simp only [go_sem] at hc
      have h := gD (by first | exact hc | omega | (simpa using hc) | (simp at hc ⊢; omega)) h
      refine cM (aF (aE (dN (aE (cK hF [3, 6, 7, 8, 14, 47, 48, 49, 53, 54, 55] ?_)))))
      simp only [go_sem]
      obtain ⟨g0, h⟩ := aM h
      repeat (refine ⟨by first | with_reducible assumption | omega | (intros; first | assumption | omega) | (simp only [go_sem] at *; first | assumption | omega) | decide, ?_⟩)
      obtain ⟨g0, h⟩ := aM h
      obtain ⟨r_179, he5, h⟩ := bind_some h
      try dsimp only at h
      refine aF (aBV hF (jV (l := [(41, ⟨iC, [3, 1, 2], ((((eU ((((((((r_0.2).2).2).2).2).1).getD (x49_142.toNat) ([] : List qI0)).getD (x55_169.toNat) ((false, ([] : List Nat), (0 : Int), ()), (false, ([] : List Nat), (0 : Int), ()), ())) (r_131.1)).getD (([] : List Nat), (0 : Int), ())).1), ((((eU ((((((((r_0.2).2).2).2).2).1).getD (x49_142.toNat) ([] : List qI0)).getD (x55_169.toNat) ((false, ([] : List Nat), (0 : Int), ()), (false, ([] : List Nat), (0 : Int), ()), ())) (r_131.1)).getD (([] : List Nat), (0 : Int), ())).2).1), first_171, x_170, r_179)⟩)]) (.cons rY (by kernel_rfl) (.nil))) 6 (by decide) [3, 6, 7, 8, 47, 48, 49, 53, 54, 55] [] ?_)
      simp only [go_sem]
      repeat (refine ⟨by first | with_reducible assumption | omega | (intros; first | assumption | omega) | (simp only [go_sem] at *; first | assumption | omega) | decide | ((repeat' apply And.intro) <;> first | assumption | rfl | omega) | fail, ?_⟩)
      simp only [aS0, go_sem]
      repeat (refine ⟨by first | with_reducible assumption | omega | (intros; first | assumption | omega) | (simp only [go_sem] at *; first | assumption | omega) | decide | ((repeat' apply And.intro) <;> first | assumption | rfl | omega) | fail, ?_⟩)
      refine eT (aF (aD hF [3, 6, 7, 8, 47, 48, 49, 53, 54, 55] ?_))
      simp only [go_sem]
      obtain ⟨g0, h⟩ := aM h
      try simp only [I64, I32] at g0
      repeat (refine ⟨by first | with_reducible assumption | omega | (intros; first | assumption | omega) | (simp only [go_sem] at *; first | assumption | omega) | decide, ?_⟩)
      obtain rfl := Option.some.inj h
      dsimp only [uT] at hs19
      refine bI (nE [0, 1, 6, 3, 4] rfl rfl ?_)
      simp only [ren, kK, yP, posOf, nD, go_sem]
      refine aP (((x55_169 + (1 : Int)), (r_179.2), (r_179.1))) hs19 rfl ?_
      ·(try simp only [kU, hZ, true_or, and_self, go_sem]) <;> (repeat' apply And.intro) <;> first | rfl | (left; rfl) | (right; rfl) | (left; simp only [go_sem]; done) | (right; simp only [go_sem]; done) | (simp; done) | (simp only [*]; done) | omega
     ·try simp only [go_sem] at hc
      have h := gE (by first | exact hc | omega | (simpa using hc) | (simp at hc ⊢; omega)) h
      obtain rfl := Option.some.inj h
      dsimp only [uT] at hs19
      have h := hs19
      try dsimp only at h
      refine kT (bZ (bZ (cZ (eT (aF (aD hF [3, 6, 7, 8, 47, 48, 49] ?_))))))
      simp only [go_sem]
      obtain ⟨g0, h⟩ := aM h
      try simp only [I64, I32] at g0
      repeat (refine ⟨by first | with_reducible assumption | omega | (intros; first | assumption | omega) | (simp only [go_sem] at *; first | assumption | omega) | decide, ?_⟩)
      obtain rfl := Option.some.inj h
      dsimp only [uT] at hs16
      refine bI (aP (((x49_142 + (1 : Int)), x_170, first_171)) hs16 rfl ?_)
      ·(try simp only [kU, hZ, true_or, and_self, go_sem]) <;> (repeat' apply And.intro) <;> first | rfl | (left; rfl) | (right; rfl) | (left; simp only [go_sem]; done) | (right; simp only [go_sem]; done) | (simp; done) | (simp only [*]; done) | omega
    ·try simp only [go_sem] at hc
     have h := gE (by first | exact hc | omega | (simpa using hc) | (simp at hc ⊢; omega)) h
     obtain rfl := Option.some.inj h
     dsimp only [uT] at hs16
     have h := hs16
     try dsimp only at h
     refine kT (bZ (bZ (cZ (aF (kT (iN (by decide) (bZ (iN (by decide) (bZ (cZ (bI (nE [1, 2, 3] rfl rfl ?_))))))))))))
     simp only [ren, kK, yP, posOf, nD, go_sem]
     refine aP ((x_143, first_144)) h rfl ?_
     ·(try simp only [kU, hZ, true_or, and_self, go_sem]) <;> (repeat' apply And.intro) <;> first | rfl | (left; rfl) | (right; rfl) | (left; simp only [go_sem]; done) | (right; simp only [go_sem]; done) | (simp; done) | (simp only [*]; done) | omega
   ·try simp only [go_sem] at hc
    have h := gE (by first | exact hc | omega | (simpa using hc) | (simp at hc ⊢; omega)) h
    refine cM (aF (aE (aD hF [2, 6, 7, 9, 10, 40] ?_)))
    simp only [go_sem]
    refine aF (bR rfl (fun hc => ?_) (fun hc => ?_))
    ·try simp only [go_sem] at hc
     have h := gD (by first | exact hc | omega | (simpa using hc) | (simp at hc ⊢; omega)) h
     obtain ⟨r_180, he6, h⟩ := bind_some h
     try dsimp only at h
     refine kT (bZ (iN (by decide) (bZ (cZ (aF (dU hF (jV (l := [(44, ⟨kP, [5, 1, 4, 2, 9], ((((((r_0.2).2).2).2).1), (r_8.1), ((r_8.2).1), ((r_8.2).2), r_180)⟩)]) (.cons wN (by kernel_rfl) (.nil))) [2, 6, 7, 9] [] ?_))))))
     simp only [go_sem]
     repeat (refine ⟨by first | with_reducible assumption | omega | (intros; first | assumption | omega) | (simp only [go_sem] at *; first | assumption | omega) | decide | ((repeat' apply And.intro) <;> first | assumption | rfl | omega) | fail, ?_⟩)
     obtain ⟨r_182, he7, h⟩ := bind_some h
     try dsimp only at h
     refine eT (aF (aE (dU hF (jV (l := [(42, ⟨kO, [5, 4, 2, 10], ((((r_0.2).2).1), ((r_180.2).1), ((r_180.2).2), r_182)⟩)]) (.cons wM (by kernel_rfl) (.nil))) [6, 7] [] ?_)))
     simp only [go_sem]
     repeat (refine ⟨by first | with_reducible assumption | omega | (intros; first | assumption | omega) | (simp only [go_sem] at *; first | assumption | omega) | decide | ((repeat' apply And.intro) <;> first | assumption | rfl | omega) | fail, ?_⟩)
     refine aF (kT (cZ (bI (nE [2, 11, 4] rfl rfl ?_))))
     simp only [ren, kK, yP, posOf, nD, go_sem]
     refine aP (((r_182.2), (r_182.1))) h rfl ?_
     ·(try simp only [kU, hZ, true_or, and_self, go_sem]) <;> (repeat' apply And.intro) <;> first | rfl | (left; rfl) | (right; rfl) | (left; simp only [go_sem]; done) | (right; simp only [go_sem]; done) | (simp; done) | (simp only [*]; done) | omega
    ·try simp only [go_sem] at hc
     have h := gE (by first | exact hc | omega | (simpa using hc) | (simp at hc ⊢; omega)) h
     obtain ⟨r_184, he8, h⟩ := bind_some h
     try dsimp only at h
     refine cM (aF (kT (iN (by decide) (bZ (iN (by decide) (bZ (cZ (aF (aE (dU hF (jV (l := [(42, ⟨kO, [5, 4, 2, 9], ((((r_0.2).2).1), ((r_8.2).1), ((r_8.2).2), r_184)⟩)]) (.cons wM (by kernel_rfl) (.nil))) [6, 7] [] ?_))))))))))
     simp only [go_sem]
     repeat (refine ⟨by first | with_reducible assumption | omega | (intros; first | assumption | omega) | (simp only [go_sem] at *; first | assumption | omega) | decide | ((repeat' apply And.intro) <;> first | assumption | rfl | omega) | fail, ?_⟩)
     refine aF (kT (cZ (bI (nE [2, 10, 4] rfl rfl ?_))))
     simp only [ren, kK, yP, posOf, nD, go_sem]
     refine aP (((r_184.2), (r_184.1))) h rfl ?_
     ·(try simp only [kU, hZ, true_or, and_self, go_sem]) <;> (repeat' apply And.intro) <;> first | rfl | (left; rfl) | (right; rfl) | (left; simp only [go_sem]; done) | (right; simp only [go_sem]; done) | (simp; done) | (simp only [*]; done) | omega
  ·rintro ⟨x_42, first_43⟩ h
   try dsimp only at h
   simp only [go_sem]
   unfold gJ at h
   refine aE (aE (aD hF [6, 7, 77] ?_))
   simp only [go_sem]
   refine aF (bR rfl (fun hc => ?_) (fun hc => ?_))
   ·try simp only [go_sem] at hc
    have h := gD (by first | exact hc | omega | (simpa using hc) | (simp at hc ⊢; omega)) h
    refine aE (aD hF [4, 5] ?_)
    simp only [go_sem]
    obtain rfl := Option.some.inj h
    refine aF (fC (cE (gL hF [.tmp 4, .tmp 5] rfl rfl rfl ?_)))
    (try simp only [oE, aV, go_sem]) <;> first | rfl | (simp; done)
   ·try simp only [go_sem] at hc
    have h := gE (by first | exact hc | omega | (simpa using hc) | (simp at hc ⊢; omega)) h
    refine cM (aF (aE (aD hF [4, 5] ?_)))
    simp only [go_sem]
    obtain ⟨g0, h⟩ := aM h
    obtain ⟨g1, h⟩ := aM h
    repeat (refine ⟨by first | with_reducible assumption | omega | (intros; first | assumption | omega) | (simp only [go_sem] at *; first | assumption | omega) | decide, ?_⟩)
    obtain rfl := Option.some.inj h
    refine aF (fC (gL hF [.tmp 4, .tmp 5] rfl rfl rfl ?_))
    (try simp only [oE, aV, go_sem]) <;> first | rfl | (simp; done)
attribute [go_sem] iT
noncomputable def rZ (l_0 : (List qR0)) (digits_1 : Int) (x13_12 : Int) (b_13 : Bool) (x_14 : (List Nat)) : Option ((Int × Bool × (List Nat)) ⊕ ((Bool × (List Nat)) ⊕ ((List Nat) × (Int × Unit)))) :=
 if x13_12 < (l_0.length : Int) then ck (0 ≤ x13_12 ∧ x13_12 < (l_0.length : Int)) (ck (((eV (l_0.getD (x13_12.toNat) ((0 : Int), (0 : Int), (0 : Int), (false, ([] : List Nat), (0 : Int), ()), (false, ([] : List Nat), (0 : Int), ()), ([] : List (List qI0)), ([] : List (List qT0)), ())) digits_1).isSome = true)) (if ¬ (((((eV (l_0.getD (x13_12.toNat) ((0 : Int), (0 : Int), (0 : Int), (false, ([] : List Nat), (0 : Int), ()), (false, ([] : List Nat), (0 : Int), ()), ([] : List (List qI0)), ([] : List (List qT0)), ())) digits_1).getD (([] : List Nat), (0 : Int), ())).2).1) = (0 : Int)) then some (.inr (.inr ((aN ⟨#[]⟩), ((((eV (l_0.getD (x13_12.toNat) ((0 : Int), (0 : Int), (0 : Int), (false, ([] : List Nat), (0 : Int), ()), (false, ([] : List Nat), (0 : Int), ()), ([] : List (List qI0)), ([] : List (List qT0)), ())) digits_1).getD (([] : List Nat), (0 : Int), ())).2).1), ()))) else ((cY (((eV (l_0.getD (x13_12.toNat) ((0 : Int), (0 : Int), (0 : Int), (false, ([] : List Nat), (0 : Int), ()), (false, ([] : List Nat), (0 : Int), ()), ([] : List (List qI0)), ([] : List (List qT0)), ())) digits_1).getD (([] : List Nat), (0 : Int), ())).1) (b_13, x_14))).bind (fun r_22 => ck (I64 (x13_12 + (1 : Int))) (some (.inl ((x13_12 + (1 : Int)), ((r_22.2).1), ((r_22.2).2))))))) else some (.inr (.inl (b_13, x_14)))
noncomputable def qH (l_0 : (List qR0)) (digits_1 : Int) : Option ((List Nat) × (Int × Unit)) :=
 (bO (fun d : Int × Bool × (List Nat) => rZ l_0 digits_1 d.1 d.2.1 d.2.2) ((0 : Int), true, ([] : List Nat))).bind (fun e => match e with | (.inl e) => ((iL (e.1, e.2))).bind (fun r_26 => some (r_26, (0 : Int), ())) | (.inr e) => some e)
def xA : Ty := .pair (.sl (.pair (.i .i64) (.pair (.i .i64) (.pair (.i .i64) (.pair (.pair .bool (.pair (.sl (.u .u64)) (.pair (.i .i64) .unit))) (.pair (.pair .bool (.pair (.sl (.u .u64)) (.pair (.i .i64) .unit))) (.pair (.sl (.sl (.pair (.pair .bool (.pair (.sl (.u .u64)) (.pair (.i .i64) .unit))) (.pair (.pair .bool (.pair (.sl (.u .u64)) (.pair (.i .i64) .unit))) .unit)))) (.pair (.sl (.sl (.pair (.sl (.pair .bool (.pair (.sl (.u .u64)) (.pair (.i .i64) .unit)))) (.pair (.sl (.pair (.pair .bool (.pair (.sl (.u .u64)) (.pair (.i .i64) .unit))) (.pair (.pair .bool (.pair (.sl (.u .u64)) (.pair (.i .i64) .unit))) .unit))) .unit)))) .unit)))))))) (.pair (.i .i64) .unit)
attribute [go_sem] xA
noncomputable def oI : aI := mSpec xA (.tup (.pair .str (.pair (.i .i64) .unit))) (fun x => qH x.1 x.2.1)
noncomputable def aBf : List (FuncId × aI) := [(14, iT)]
theorem aEn : bF Tryz.prog GL aBf := .cons aAo (by kernel_rfl) (.nil)
theorem aGU : gam aBf 14 = some iT := rfl
attribute [go_sem] aGU
set_option maxHeartbeats 4000000 in
theorem aDE : FOK Tryz.prog GL 16 oI := by
 refine wE (bE aEn) Tryz.func16 rfl (by kernel_rfl) (by decide) fun w0 S x r hw h => ?_
 have hF : vI (fr Tryz.prog (EM aBf) S w0 Tryz.f16.ntmps) := ⟨bE aEn, mix⟩
 obtain ⟨(l_0 : (List qR0)), (digits_1 : Int), u⟩ := x
 simp only [xA, Ty.wf, vX] at hw
 simp only [bH, xA]
 try dsimp only at h
 unfold qH at h
 refine aE (aD hF [0, 1] ?_)
 simp only [go_sem]
 refine aF (aE (cK hF [0, 1, 6] ?_))
 simp only [go_sem]
 refine aVB 0 4294967397 5 rfl ?_
 simp only [go_sem]
 refine aF (aE (aE (aD hF [1, 6, 11, 12, 13] ?_)))
 simp only [go_sem]
 refine aF (dN (wD (D := Int × Bool × (List Nat)) [1, 11, 12] (fun d => [(6, .ptr 0 []), (13, .val (.i .i64) d.1)]) (fun d => [.inr (.box 4294967397 (.agg [pk d.2.1 0, .own 1])), .inr (.row 5 (.u .u8) d.2.2)]) h ?_ ?_ ?_))
 ·first | rfl | (simp only [go_sem]; done)
 ·(try simp only [kU, hZ, true_or, and_self, go_sem]) <;> (repeat' apply And.intro) <;> first | rfl | (left; rfl) | (right; rfl) | (left; simp only [go_sem]; done) | (right; simp only [go_sem]; done) | (simp; done) | (simp only [*]; done) | omega
 rintro ⟨x13_12, b_13, x_14⟩ s3 h hs3
 simp only [go_sem]
 try dsimp only at h
 unfold rZ at h
 refine aE (aD hF [1, 6, 11, 12, 13, 14] ?_)
 simp only [go_sem]
 refine aF (aE (bR rfl (fun hc => ?_) (fun hc => ?_)))
 ·try simp only [go_sem] at hc
  have h := gD (by first | exact hc | omega | (simpa using hc) | (simp at hc ⊢; omega)) h
  refine cM (aF (aE (dN (aE (cK hF [1, 6, 8, 11, 12, 13] ?_)))))
  simp only [go_sem]
  obtain ⟨g0, h⟩ := aM h
  repeat (refine ⟨by first | with_reducible assumption | omega | (intros; first | assumption | omega) | (simp only [go_sem] at *; first | assumption | omega) | decide, ?_⟩)
  refine aF (aE (aD hF [1, 6, 9, 10, 11, 12, 13] ?_))
  simp only [go_sem]
  obtain ⟨g0, h⟩ := aM h
  repeat (refine ⟨by first | with_reducible assumption | omega | (intros; first | assumption | omega) | (simp only [go_sem] at *; first | assumption | omega) | decide, ?_⟩)
  refine aF (aE (aE (aD hF [1, 6, 9, 10, 11, 12, 13, 24] ?_)))
  simp only [go_sem]
  refine aF (bR rfl (fun hc => ?_) (fun hc => ?_))
  ·try simp only [go_sem] at hc
   have h := gD (by first | exact hc | omega | (simpa using hc) | (simp at hc ⊢; omega)) h
   refine aE (aD hF [4, 5] ?_)
   simp only [go_sem]
   obtain rfl := Option.some.inj h
   dsimp only [uT] at hs3
   have h := hs3
   try dsimp only at h
   obtain rfl := Option.some.inj h
   refine aF (fC (cE (dZ (cE (cE (dZ (cE (gL hF [.tmp 4, .tmp 5] rfl rfl rfl ?_))))))))
   (try simp only [oE, aV, go_sem]) <;> first | rfl | (simp; done)
  ·try simp only [go_sem] at hc
   have h := gE (by first | exact hc | omega | (simpa using hc) | (simp at hc ⊢; omega)) h
   obtain ⟨r_22, he1, h⟩ := bind_some h
   try dsimp only at h
   refine cM (aF (dU hF (jV (l := [(50, ⟨fH, [0, 1], ((((eV (l_0.getD (x13_12.toNat) ((0 : Int), (0 : Int), (0 : Int), (false, ([] : List Nat), (0 : Int), ()), (false, ([] : List Nat), (0 : Int), ()), ([] : List (List qI0)), ([] : List (List qT0)), ())) digits_1).getD (([] : List Nat), (0 : Int), ())).1), (b_13, x_14), r_22)⟩)]) (.cons wO (by kernel_rfl) (.nil))) [1, 6, 11, 12, 13] [] ?_))
   simp only [go_sem]
   repeat (refine ⟨by first | with_reducible assumption | omega | (intros; first | assumption | omega) | (simp only [go_sem] at *; first | assumption | omega) | decide | ((repeat' apply And.intro) <;> first | assumption | rfl | omega) | fail, ?_⟩)
   refine eT (aF (aD hF [1, 6, 11, 12, 13] ?_))
   simp only [go_sem]
   obtain ⟨g0, h⟩ := aM h
   try simp only [I64, I32] at g0
   repeat (refine ⟨by first | with_reducible assumption | omega | (intros; first | assumption | omega) | (simp only [go_sem] at *; first | assumption | omega) | decide, ?_⟩)
   obtain rfl := Option.some.inj h
   dsimp only [uT] at hs3
   refine bI (nE [0, 3] rfl rfl ?_)
   simp only [ren, kK, yP, posOf, nD, go_sem]
   refine aP (((x13_12 + (1 : Int)), ((r_22.2).1), ((r_22.2).2))) hs3 rfl ?_
   ·(try simp only [kU, hZ, true_or, and_self, go_sem]) <;> (repeat' apply And.intro) <;> first | rfl | (left; rfl) | (right; rfl) | (left; simp only [go_sem]; done) | (right; simp only [go_sem]; done) | (simp; done) | (simp only [*]; done) | omega
 ·try simp only [go_sem] at hc
  have h := gE (by first | exact hc | omega | (simpa using hc) | (simp at hc ⊢; omega)) h
  obtain rfl := Option.some.inj h
  dsimp only [uT] at hs3
  have h := hs3
  try dsimp only at h
  obtain ⟨r_24, he2, h⟩ := bind_some h
  try dsimp only at h
  refine kT (bZ (bZ (cZ (aF (aE (dU hF (jV (l := [(51, ⟨gY, [0, 1], ((b_13, x_14), r_24)⟩)]) (.cons aAu (by kernel_rfl) (.nil))) [4, 5] [] ?_))))))
  simp only [go_sem]
  repeat (refine ⟨by first | with_reducible assumption | omega | (intros; first | assumption | omega) | (simp only [go_sem] at *; first | assumption | omega) | decide | ((repeat' apply And.intro) <;> first | assumption | rfl | omega) | fail, ?_⟩)
  obtain rfl := Option.some.inj h
  refine aF (fC (gL hF [.tmp 4, .tmp 5] rfl rfl rfl ?_))
  (try simp only [oE, aV, go_sem]) <;> first | rfl | (simp; done)
attribute [go_sem] oI
end Nu
end Go.Proofs
namespace Go.Proofs
open Go.Vc
set_option maxRecDepth 20000
namespace Nu
theorem aXW (u : Nat) (h : u < 4294967296) : iS (u : Int) = some (jK u) := by
 have key : iR (u : Int) 10 = some (jK u) := by
  unfold iR
  rw [if_pos rfl]
  by_cases h1 : u < 100
  ·rw [if_pos (by omega)]
   simp only [aQw u h1, Option.getD_some]
   exact aB rfl rfl
  ·have hB : u < 18446744073709551616 := by show u < 18446744073709551616; omega
   rw [if_neg (by omega), if_neg (by omega)]
   have hn := aEh u (by omega) hB
   obtain ⟨k1, k2⟩ := Lib.numDigits_eq u (by omega) hB
   have hle : Lib.nDigits u ≤ 20 := by split at k1 <;> omega
   have hpos := Lib.nDigits_pos u
   have hlt := Lib.lt_pow_nDigits u
   have eu : ((u : Int) % 18446744073709551616).toNat = u := by omega
   unfold gI
   simp only [eu, hn, Option.getD_some]
   have e : ((1 : Int) + (Lib.nDigits u : Int) - 1).toNat = Lib.nDigits u := by omega
   rw [e]
   have hf : cP 1 (Lib.nDigits u) u (List.replicate 24 0) = some ([0] ++ jK u ++ (List.replicate 24 0).drop (1 + Lib.nDigits u)) := by
    unfold cP
    refine aB (by omega) (aB hlt ?_)
    rfl
   refine aB rfl (aB (by constructor <;> omega) (aB (by constructor <;> omega) (aK hf ?_)))
   rw [if_neg (by omega)]
   refine aB (by constructor <;> omega) (aB (by constructor <;> omega) (aB (by omega) ?_))
   rw [List.append_assoc, List.drop_append_of_le_length (by simp), List.drop_of_length_le (by simp), List.nil_append, List.take_append_of_le_length (by unfold jK; rw [pN]; exact Nat.le_refl _), List.take_of_length_le (by unfold jK; rw [pN]; exact Nat.le_refl _)]
 unfold iS qA
 rw [key]; rfl
theorem aBD {u : Nat} (h : u < 4294967296) : (jK u).length ≤ 20 := by
 unfold jK
 rw [pN]
 by_cases h0 : u < 10
 ·rw [Lib.nDigits_small h0]; decide
 ·have hB : u < 18446744073709551616 := by show u < 18446744073709551616; omega
  obtain ⟨k1, k2⟩ := Lib.numDigits_eq u (by omega) hB
  split at k1 <;> omega
theorem qI (d : Dy) (k : Int) (up : Bool) (lm : Lm d.2.1) : (eL d k up).1.length ≤ 3000000 := by
 unfold eL
 split
 ·exact Nat.zero_le _
 ·rename_i h1
  split
  ·exact Nat.zero_le _
  ·rename_i h2
   have hm : jR d = true := by
    cases hh : jR d with
    | true => rfl
    | false => exact absurd (.inl hh) h1
   obtain ⟨a1, a2, a3, a4⟩ := wJ hm
   have hM := aRR (k := k.toNat) lm a1 (by omega) (by omega)
   have hq : txQ d k.toNat up < 18446744073709551616 ^ 10000 := by
    have hb : 18446744073709551616 ^ 200 < 18446744073709551616 ^ 10000 := aTk 200 10000 (by decide)
    have hx := Nat.div_le_self (txM d k.toNat) (2 ^ (max (-d.2.2.1) 0).toNat)
    unfold txQ
    simp only
    split <;> omega
   have hl := aJB (Nat.le_trans (aYz hq) (by decide))
   have hp : (wK k.toNat (txt (txQ d k.toNat up))).length ≤ 2000000 := by
    unfold wK
    rw [List.length_append, List.length_replicate]
    omega
   have hpt : (ptS k.toNat (wK k.toNat (txt (txQ d k.toNat up)))).length ≤ 2000001 := by
    unfold ptS
    split
    ·simp only [List.length_append, List.length_take, List.length_drop, List.length_cons, List.length_nil]
     omega
    ·omega
   show (sgS _ _ _).length ≤ _
   unfold sgS
   split
   ·simp only [List.length_cons]; omega
   ·omega
def fP (a : Iv) (n : Int) : List Nat × Int × Unit :=
 if aAn a = false then ([], 1, ())
 else if (eL a.1 n false).2.1 ≠ 0 then ([], (eL a.1 n false).2.1, ())
 else if (eL a.2.1 n true).2.1 ≠ 0 then ([], (eL a.2.1 n true).2.1, ())
 else ([91] ++ (eL a.1 n false).1 ++ [44, 32] ++ (eL a.2.1 n true).1 ++ [93], 0, ())
theorem aDW (a : Iv) (n : Int) (lm : LmI a) : (fP a n).1.length ≤ 6000010 := by
 have h1 := qI a.1 n false lm.1
 have h2 := qI a.2.1 n true lm.2
 unfold fP
 split
 ·exact Nat.zero_le _
 ·split
  ·exact Nat.zero_le _
  ·split
   ·exact Nat.zero_le _
   ·simp only [List.length_append, List.length_cons, List.length_nil]
    omega
theorem aZH : aN ⟨#[91]⟩ = [91] := rfl
theorem aZI : aN ⟨#[93]⟩ = [93] := rfl
theorem aZJ : aN ⟨#[44, 32]⟩ = [44, 32] := rfl
theorem aWl : aN ⟨#[32]⟩ = [32] := rfl
theorem aXX : aN ⟨#[10]⟩ = [10] := rfl
theorem aLa (a : Iv) (n : Int) (lm : LmI a) : eU a n = some (fP a n) := by
 have l1 := qI a.1 n false lm.1
 have l2 := qI a.2.1 n true lm.2
 unfold eU fP
 refine aK (aDA a lm) ?_
 cases aAn a with
 | false => rw [if_pos (by decide), if_pos rfl]; rfl
 | true =>
  rw [if_neg (by decide), if_neg (by decide)]
  refine aK (aOO a.1 n false lm.1) ?_
  by_cases h1 : (eL a.1 n false).2.1 ≠ 0
  ·rw [if_pos h1, if_pos h1]; rfl
  ·rw [if_neg h1, if_neg h1]
   refine aK (aOO a.2.1 n true lm.2) ?_
   by_cases h2 : (eL a.2.1 n true).2.1 ≠ 0
   ·rw [if_pos h2, if_pos h2]; rfl
   ·rw [if_neg h2, if_neg h2, aZH, aZI, aZJ]
    refine aB ?_ (aB ?_ (aB ?_ (aB ?_ rfl))) <;> simp only [List.length_append, List.length_cons, List.length_nil] <;> omega
abbrev Tx := List Nat × Int × Unit
def mD (st : Int × List (List Nat)) (x : Tx) : Int × List (List Nat) := (if st.1 = 0 then x.2.1 else st.1, st.2 ++ [x.1])
def xW (k : Int) : List Nat := if k = 1 then [99, 111, 109, 109, 105, 116] else if k = 2 then [114, 101, 106, 101, 99, 116] else if k = 3 then [101, 110, 100] else []
def yI (r : Rec) (n : Int) : List Tx :=
 if r.1 = 1 then eL r.2.2.2.2.1 n false :: (r.2.2.2.2.2.1.flatten.map (fP · n))
 else if r.1 = 2 then [eL r.2.2.2.2.1 n false, (jK r.2.2.1.toNat, 0, ())]
 else [(jK r.2.2.1.toNat, 0, ())]
def nM (r : Rec) (n : Int) : List Tx := [(xW r.1, 0, ()), (jK r.2.1.toNat, 0, ()), eL r.2.2.2.1 n false] ++ yI r n
def tH (l : List Tx) : Int := (l.foldl mD (0, [])).1
def pD (r : Rec) (n : Int) : Tx :=
 if rG r = false then ([], 1, ())
 else if tH (nM r n) ≠ 0 then ([], tH (nM r n), ())
 else (sQ ((nM r n).map (·.1)) [32] ++ [10], 0, ())
theorem aGV : ∀ (l : List Tx) (st : Int × List (List Nat)), (l.foldl mD st).2 = st.2 ++ l.map (·.1)
 | [], st => by simp
 | x :: r, st => by
  rw [List.foldl_cons, aGV r, List.map_cons]
  show (st.2 ++ [x.1]) ++ _ = _
  simp
theorem aJE : ∀ (l : List Tx) (st : Int × List (List Nat)), (l.foldl mD st).1 = if st.1 = 0 then tH l else st.1
 | [], st => by
  show st.1 = _
  split
  ·rename_i h; rw [h]; rfl
  ·rfl
 | x :: r, st => by
  have e : tH (x :: r) = if x.2.1 = 0 then tH r else x.2.1 := by
   unfold tH
   rw [List.foldl_cons, aJE r]
   rfl
  rw [List.foldl_cons, aJE r, e]
  show (if (if st.1 = 0 then x.2.1 else st.1) = 0 then _ else (if st.1 = 0 then x.2.1 else st.1)) = _
  by_cases h : st.1 = 0
  ·rw [if_pos h, if_pos h]
  ·rw [if_neg h, if_neg h, if_neg h]
theorem qJ (x : Tx) (r : List Tx) : tH (x :: r) = if x.2.1 = 0 then tH r else x.2.1 := by
 unfold tH
 rw [List.foldl_cons, aJE r]
 rfl
theorem aFN : tH [] = 0 := rfl
theorem put_eq (x : Tx) (st : Int × List (List Nat)) (h : st.2.length ≤ 100000) : fY x.1 x.2.1 st.1 st.2 = some (mD st x) := by
 unfold fY mD
 by_cases h0 : st.1 = 0
 ·rw [if_pos h0, if_pos h0]; exact aB (by omega) rfl
 ·rw [if_neg h0, if_neg h0]; exact aB (by omega) rfl
theorem aRU (n : Int) (st : Int × List (List Nat)) (h0 : 0 ≤ n) (h1 : n ≤ 4294967295) (h : st.2.length ≤ 100000) : gS n st.1 st.2 = some (mD st (jK n.toNat, 0, ())) := by
 have hi := aXW n.toNat (by omega)
 rw [Int.toNat_of_nonneg h0] at hi
 have hp := put_eq (jK n.toNat, 0, ()) st h
 unfold gS
 rw [hi]
 exact aB rfl (aK hp rfl)
theorem aWm (d : Dy) (n : Int) (st : Int × List (List Nat)) (lm : Lm d.2.1) (h : st.2.length ≤ 100000) : gT d n st.1 st.2 = some (n, mD st (eL d n false)) := by
 have hp := put_eq (eL d n false) st h
 unfold gT
 rw [aOO d n false lm]
 exact aB rfl (aK hp rfl)
theorem aXY (l : List Tx) (st : Int × List (List Nat)) : (l.foldl mD st).2.length = st.2.length + l.length := by
 rw [aGV]; simp
theorem aWn (r : Rec) (q : Int × Int × List (List Nat)) (x : Nat) (b : List Iv) (hb : r.2.2.2.2.2.1.getD x [] = b) (lm : ∀ a ∈ b, LmI a) (st : Int × List (List Nat)) (hb2 : b.length ≤ 100) (hl : st.2.length ≤ 10000) :
  bO (fun d : Int × List (List Nat) × Int => mU r (x : Int) q d.1 d.2.1 d.2.2) (0, st.2, st.1) = some (((b.map (fP · q.1)).foldl mD st).2, ((b.map (fP · q.1)).foldl mD st).1) := by
 have key := gF (step := fun d : Int × List (List Nat) × Int => mU r (x : Int) q d.1 d.2.1 d.2.2)
  (I := fun d => ∃ i : Nat, d.1 = i ∧ i ≤ b.length ∧ d.2.1.length = st.2.length + i)
  (fun d => (b.length - d.1).toNat) (fun d => ((((b.drop d.1.toNat).map (fP · q.1)).foldl mD (d.2.2, d.2.1)).2, (((b.drop d.1.toNat).map (fP · q.1)).foldl mD (d.2.2, d.2.1)).1)) (fun d hd => by
   obtain ⟨d1, d2, d3⟩ := d
   obtain ⟨i, rfl, hi, hlen⟩ := hd
   simp only at hlen ⊢
   unfold mU
   rw [Int.toNat_natCast, Int.toNat_natCast, hb]
   rcases Nat.lt_or_ge i b.length with hlt | hge
   ·left
    have hm := pQ (z := (((false, [], 0, ()), (false, [], 0, ()), ()) : Iv)) hlt
    have hw := aLa _ q.1 (lm _ hm)
    have hp := put_eq (fP (b.getD i ((false, [], 0, ()), (false, [], 0, ()), ())) q.1) (d3, d2) (by simp only; omega)
    refine ⟨((i : Int) + 1, (mD (d3, d2) (fP (b.getD i ((false, [], 0, ()), (false, [], 0, ()), ())) q.1)).2, (mD (d3, d2) (fP (b.getD i ((false, [], 0, ()), (false, [], 0, ()), ())) q.1)).1), ?_, ⟨i + 1, by simp, hlt, by simp [mD, hlen]; omega⟩, by simp only; omega, ?_⟩
    ·rw [if_pos (by omega), hw]
     refine aB (by constructor <;> omega) (aB rfl (aK hp (aB (by constructor <;> omega) rfl)))
    ·have e : b.drop i = b.getD i ((false, [], 0, ()), (false, [], 0, ()), ()) :: b.drop (i + 1) := by
      rw [List.drop_eq_getElem_cons hlt]; simp [List.getD, hlt]
     have e1 : ((i : Int) + 1).toNat = i + 1 := by omega
     simp only [e1]
     rw [e, List.map_cons, List.foldl_cons]
   ·right
    obtain rfl : i = b.length := by omega
    rw [if_neg (by omega), List.drop_length]; rfl) (0, st.2, st.1) ⟨0, rfl, Nat.zero_le _, rfl⟩
 exact key
theorem aWo (r : Rec) (q : Int × Int × List (List Nat)) (lm : ∀ b ∈ r.2.2.2.2.2.1, ∀ a ∈ b, LmI a) (hb : ∀ b ∈ r.2.2.2.2.2.1, b.length ≤ 64) (hn : r.2.2.2.2.2.1.length ≤ 16) (st : Int × List (List Nat)) (hl : st.2.length ≤ 100) :
  bO (fun d : Int × List (List Nat) × Int => mV r q d.1 d.2.1 d.2.2) (0, st.2, st.1) = some (((r.2.2.2.2.2.1.flatten.map (fP · q.1)).foldl mD st).2, ((r.2.2.2.2.2.1.flatten.map (fP · q.1)).foldl mD st).1) := by
 have key := gF (step := fun d : Int × List (List Nat) × Int => mV r q d.1 d.2.1 d.2.2)
  (I := fun d => ∃ i : Nat, d.1 = i ∧ i ≤ r.2.2.2.2.2.1.length ∧ d.2.1.length ≤ 100 + 64 * i)
  (fun d => (r.2.2.2.2.2.1.length - d.1).toNat) (fun d => ((((r.2.2.2.2.2.1.drop d.1.toNat).flatten.map (fP · q.1)).foldl mD (d.2.2, d.2.1)).2, (((r.2.2.2.2.2.1.drop d.1.toNat).flatten.map (fP · q.1)).foldl mD (d.2.2, d.2.1)).1)) (fun d hd => by
   obtain ⟨d1, d2, d3⟩ := d
   obtain ⟨i, rfl, hi, hlen⟩ := hd
   simp only at hlen ⊢
   unfold mV
   rw [Int.toNat_natCast]
   rcases Nat.lt_or_ge i r.2.2.2.2.2.1.length with hlt | hge
   ·left
    have hm := pQ (z := ([] : List Iv)) hlt
    have h19 := aWn r q i _ rfl (lm _ hm) (d3, d2) (by have := hb _ hm; omega) (by simp only; omega)
    have hbl := hb _ hm
    refine ⟨((i : Int) + 1, (((r.2.2.2.2.2.1.getD i []).map (fP · q.1)).foldl mD (d3, d2)).2, (((r.2.2.2.2.2.1.getD i []).map (fP · q.1)).foldl mD (d3, d2)).1), ?_, ⟨i + 1, by simp, hlt, ?_⟩, by simp only; omega, ?_⟩
    ·rw [if_pos (by omega)]
     exact aB (by constructor <;> omega) (aK h19 (aB (by constructor <;> omega) rfl))
    ·simp only [aXY, List.length_map]; omega
    ·have e : r.2.2.2.2.2.1.drop i = r.2.2.2.2.2.1.getD i [] :: r.2.2.2.2.2.1.drop (i + 1) := by
      rw [List.drop_eq_getElem_cons hlt]; simp [List.getD, hlt]
     have e1 : ((i : Int) + 1).toNat = i + 1 := by omega
     simp only [e1]
     rw [e, List.flatten_cons, List.map_append, List.foldl_append]
   ·right
    obtain rfl : i = r.2.2.2.2.2.1.length := by omega
    rw [if_neg (by omega), List.drop_length]; rfl) (0, st.2, st.1) ⟨0, rfl, Nat.zero_le _, by simp only; omega⟩
 exact key
theorem aGW (xs : List (List Nat)) (sep : List Nat) (m : Nat) (h : ∀ x ∈ xs, x.length ≤ m) : (sQ xs sep).length ≤ xs.length * (m + sep.length) := by
 unfold sQ
 match xs with
 | [] => exact Nat.zero_le _
 | [x] =>
  have := h x (by simp)
  simp [List.intercalate]; omega
 | x :: y :: r =>
  have ih := aGW (y :: r) sep m (fun z hz => h z (by simp at hz ⊢; exact .inr hz))
  have hx := h x (by simp)
  unfold sQ at ih
  simp only [List.intercalate, List.intersperse, List.flatten_cons, List.length_append, List.length_cons] at ih ⊢
  rw [Nat.add_mul _ 1]
  omega
theorem aLb (r : Rec) (n : Int) (lm : LmR r) (hm : rG r = true) : (nM r n).length ≤ 2000 ∧ ∀ x ∈ (nM r n).map (·.1), x.length ≤ 6000010 := by
 unfold rG aEl at hm
 simp only [Bool.and_eq_true, decide_eq_true_eq, List.all_eq_true] at hm
 obtain ⟨⟨⟨⟨⟨q1, q2⟩, q3⟩, q4⟩, q5⟩, q6⟩ := hm
 have hfl : r.2.2.2.2.2.1.flatten.length ≤ 1024 := by
  have : ∀ l : List (List Iv), (∀ b ∈ l, aII b = true) → l.flatten.length ≤ 64 * l.length := fun l => by
   induction l with
   | nil => intro _; simp
   | cons x t ih =>
    intro hx
    have h1 := hx x (by simp)
    unfold aII at h1
    simp only [Bool.and_eq_true, decide_eq_true_eq] at h1
    have := ih (fun b hb => hx b (by simp [hb]))
    simp only [List.flatten_cons, List.length_append, List.length_cons]
    omega
  have := this _ q5
  omega
 have l1 := qI r.2.2.2.1 n false lm.1
 have l2 := qI r.2.2.2.2.1 n false lm.2.1
 have l3 := aBD (u := r.2.1.toNat) (by omega)
 have l4 := aBD (u := r.2.2.1.toNat) (by omega)
 have l5 : (xW r.1).length ≤ 20 := by
  unfold xW
  split
  ·decide
  ·split
   ·decide
   ·split <;> decide
 have ht : (yI r n).length ≤ 1025 ∧ ∀ x ∈ (yI r n).map (·.1), x.length ≤ 6000010 := by
  unfold yI
  split
  ·refine ⟨by rw [List.length_cons, List.length_map]; omega, fun x hx => ?_⟩
   simp only [List.map_cons, List.map_map, List.mem_cons, List.mem_map] at hx
   rcases hx with rfl | ⟨a, ha, rfl⟩
   ·omega
   ·obtain ⟨b, hb, ha⟩ := List.mem_flatten.1 ha
    exact aDW a n (lm.2.2.1 b hb a ha)
  ·split
   ·refine ⟨by simp, fun x hx => ?_⟩
    simp only [List.map_cons, List.map_nil, List.mem_cons, List.not_mem_nil, or_false] at hx
    rcases hx with rfl | rfl <;> omega
   ·refine ⟨by simp, fun x hx => ?_⟩
    simp only [List.map_cons, List.map_nil, List.mem_cons, List.not_mem_nil, or_false] at hx
    subst hx; omega
 unfold nM
 refine ⟨by simp; omega, fun x hx => ?_⟩
 simp only [List.map_append, List.map_cons, List.map_nil, List.mem_append, List.mem_cons, List.not_mem_nil, or_false] at hx
 rcases hx with (rfl | rfl | rfl) | hx
 ·omega
 ·omega
 ·omega
 ·exact ht.2 x hx
theorem aXZ (r : Rec) (n : Int) (lm : LmR r) (hm : rG r = true) : gJ ((nM r n).foldl mD (0, [])).2 ((nM r n).foldl mD (0, [])).1 = some (pD r n) := by
 obtain ⟨w1, w2⟩ := aLb r n lm hm
 have hj := aGW ((nM r n).map (·.1)) [32] 6000010 w2
 rw [List.length_map] at hj
 have hj2 : (sQ ((nM r n).map (·.1)) [32]).length ≤ 2000 * (6000010 + 1) := Nat.le_trans hj (Nat.mul_le_mul_right _ w1)
 rw [aGV, List.nil_append]
 show gJ _ (tH (nM r n)) = _
 unfold gJ pD
 rw [hm, if_neg (by decide : ¬ true = false)]
 by_cases h : tH (nM r n) ≠ 0
 ·rw [if_pos h, if_pos h]; rfl
 ·rw [if_neg h, if_neg h, aWl, aXX]
  refine aB ⟨by rw [List.length_map]; omega, by omega⟩ (aB ?_ rfl)
  simp only [List.length_cons, List.length_nil]; omega
theorem aJF (r : Rec) (n : Int) (lm : LmR r) : eV r n = some (pD r n) := by
 unfold eV
 rw [aMW r lm, Option.getD_some]
 refine aB rfl ?_
 cases hm : rG r with
 | false => rw [if_pos (by decide)]; unfold pD; rw [hm]; rfl
 | true =>
  have hj := aXZ r n lm hm
  have hm' := hm
  unfold rG aEl at hm'
  simp only [Bool.and_eq_true, decide_eq_true_eq, List.all_eq_true] at hm'
  obtain ⟨⟨⟨⟨⟨q1, q2⟩, q3⟩, q4⟩, q5⟩, q6⟩ := hm'
  have hk : (aBM (.i .i64) (aEw (.i .i64) (aEw (.i .i64) (aEw (.i .i64) ([] : List (Int × List Nat)) (1 : Int) (aN ⟨#[99, 111, 109, 109, 105, 116]⟩)) (2 : Int) (aN ⟨#[114, 101, 106, 101, 99, 116]⟩)) (3 : Int) (aN ⟨#[101, 110, 100]⟩)) r.1).getD [] = xW r.1 := by
   have : r.1 = 1 ∨ r.1 = 2 ∨ r.1 = 3 := by omega
   rcases this with h | h | h <;> rw [h] <;> rfl
  rw [if_neg (by decide), hk]
  have a0 := put_eq (xW r.1, 0, ()) (0, []) (by simp)
  refine aK a0 ?_
  refine aK (aRU r.2.1 (mD (0, []) (xW r.1, 0, ())) (by omega) (by omega) (by simp [mD])) ?_
  refine aK (aWm r.2.2.2.1 n (mD (mD (0, []) (xW r.1, 0, ())) (jK r.2.1.toNat, 0, ())) lm.1 (by simp [mD])) ?_
  unfold nM yI at hj
  have hf : ∀ l : List Tx, ([(xW r.1, 0, ()), (jK r.2.1.toNat, 0, ()), eL r.2.2.2.1 n false] ++ l).foldl mD (0, []) = l.foldl mD (mD (mD (mD (0, []) (xW r.1, 0, ())) (jK r.2.1.toNat, 0, ())) (eL r.2.2.2.1 n false)) := fun l => rfl
  rw [hf] at hj
  have hl3 : (mD (mD (mD (0, []) (xW r.1, 0, ())) (jK r.2.1.toNat, 0, ())) (eL r.2.2.2.1 n false)).2.length = 3 := by simp [mD]
  generalize mD (mD (mD (0, []) (xW r.1, 0, ())) (jK r.2.1.toNat, 0, ())) (eL r.2.2.2.1 n false) = st at hj hl3 ⊢
  by_cases h1 : r.1 = 1
  ·rw [if_pos h1]
   rw [if_pos h1, List.foldl_cons] at hj
   refine aK (aWm r.2.2.2.2.1 n st lm.2.1 (by omega)) ?_
   have hb : ∀ b ∈ r.2.2.2.2.2.1, b.length ≤ 64 := fun b hb => by
    have := q5 b hb
    unfold aII at this
    simp only [Bool.and_eq_true, decide_eq_true_eq] at this
    exact this.1
   refine aK (aWo r (n, mD st (eL r.2.2.2.2.1 n false)) lm.2.2.1 hb (by omega) (mD st (eL r.2.2.2.2.1 n false)) (by simp [mD]; omega)) ?_
   exact hj
  ·rw [if_neg h1]
   rw [if_neg h1] at hj
   by_cases h2 : r.1 = 2
   ·rw [if_pos h2]
    rw [if_pos h2] at hj
    refine aK (aWm r.2.2.2.2.1 n st lm.2.1 (by omega)) ?_
    refine aK (aRU r.2.2.1 (mD st (eL r.2.2.2.2.1 n false)) (by omega) (by omega) (by simp [mD]; omega)) ?_
    exact hj
   ·rw [if_neg h2]
    rw [if_neg h2] at hj
    refine aK (aRU r.2.2.1 st (by omega) (by omega) (by omega)) ?_
    exact hj
def dE : List Rec → Int → Tx
 | [], _ => ([], 0, ())
 | r :: l, n => if (pD r n).2.1 ≠ 0 then ([], (pD r n).2.1, ()) else if (dE l n).2.1 ≠ 0 then ([], (dE l n).2.1, ()) else ((pD r n).1 ++ (dE l n).1, 0, ())
theorem aNA (r : Rec) (n : Int) (lm : LmR r) : (pD r n).1.length ≤ 20000000000 := by
 unfold pD
 cases hm : rG r with
 | false => exact Nat.zero_le _
 | true =>
  obtain ⟨w1, w2⟩ := aLb r n lm hm
  have hj := aGW ((nM r n).map (·.1)) [32] 6000010 w2
  rw [List.length_map] at hj
  have hj2 : (sQ ((nM r n).map (·.1)) [32]).length ≤ 2000 * (6000010 + 1) := Nat.le_trans hj (Nat.mul_le_mul_right _ w1)
  rw [if_neg (by decide)]
  split
  ·exact Nat.zero_le _
  ·simp only [List.length_append, List.length_cons, List.length_nil]; omega
end Nu
end Go.Proofs
namespace Go.Proofs
open Go.Vc
set_option maxRecDepth 20000
namespace Nu
abbrev rz : Rec := (0, 0, 0, (false, [], 0, ()), (false, [], 0, ()), [], [], ())
theorem aQD (l : List Rec) (n : Int) (lm : ∀ r ∈ l, LmR r) (hl : l.length ≤ 1000) : qH l n = some (dE l n) := by
 have key := gF (step := fun d : Int × Bool × List Nat => rZ l n d.1 d.2.1 d.2.2)
  (I := fun d => ∃ i : Nat, d.1 = i ∧ i ≤ l.length ∧ d.2.2.length ≤ 20000000000 * i)
  (fun d => (l.length - d.1).toNat)
  (fun d => (if (dE (l.drop d.1.toNat) n).2.1 ≠ 0 then .inr ([], (dE (l.drop d.1.toNat) n).2.1, ()) else .inl ((l.drop d.1.toNat).isEmpty && d.2.1, d.2.2 ++ (dE (l.drop d.1.toNat) n).1) : (Bool × List Nat) ⊕ Tx)) (fun d hd => by
   obtain ⟨d1, d2, d3⟩ := d
   obtain ⟨i, rfl, hi, hlen⟩ := hd
   simp only at hlen ⊢
   unfold rZ
   rw [Int.toNat_natCast]
   rcases Nat.lt_or_ge i l.length with hlt | hge
   ·have hm := pQ (z := rz) hlt
    have hw := aJF _ n (lm _ hm)
    have hwl := aNA _ n (lm _ hm)
    have e : l.drop i = l.getD i rz :: l.drop (i + 1) := by
     rw [List.drop_eq_getElem_cons hlt]; simp [List.getD, hlt]
    rw [if_pos (by omega), hw, e]
    generalize l.getD i rz = r at hwl ⊢
    simp only [Option.getD_some]
    by_cases h1 : (pD r n).2.1 ≠ 0
    ·right
     refine aB (by constructor <;> omega) (aB rfl ?_)
     have et : dE (r :: l.drop (i + 1)) n = ([], (pD r n).2.1, ()) := by rw [dE, if_pos h1]
     rw [if_pos h1, et, if_pos h1]; rfl
    ·left
     refine ⟨((i : Int) + 1, false, d3 ++ (pD r n).1), ?_, ⟨i + 1, by simp, hlt, by simp; omega⟩, by simp only; omega, ?_⟩
     ·refine aB (by constructor <;> omega) (aB rfl ?_)
      rw [if_neg h1]
      have hws : cY (pD r n).1 (d2, d3) = some (((((pD r n).1.length : Nat) : Int), (), ()), false, d3 ++ (pD r n).1) := by
       unfold cY kD
       exact aK rfl (aB (by simp only; omega) rfl)
      refine aK hws ?_
      exact aB (by constructor <;> omega) rfl
     ·have e1 : ((i : Int) + 1).toNat = i + 1 := by omega
      simp only [e1]
      have et : dE (r :: l.drop (i + 1)) n = if (dE (l.drop (i + 1)) n).2.1 ≠ 0 then ([], (dE (l.drop (i + 1)) n).2.1, ()) else ((pD r n).1 ++ (dE (l.drop (i + 1)) n).1, 0, ()) := by rw [dE, if_neg h1]
      rw [et]
      by_cases h2 : (dE (l.drop (i + 1)) n).2.1 ≠ 0
      ·rw [if_pos h2, if_pos h2, if_pos h2]
      ·rw [if_neg h2, if_neg h2, if_neg (by simp)]
       simp
   ·right
    obtain rfl : i = l.length := by omega
    rw [if_neg (by omega), List.drop_length]
    simp [dE]) (0, true, []) ⟨0, rfl, Nat.zero_le _, Nat.zero_le _⟩
 unfold qH
 refine aK key ?_
 simp only [Int.toNat_zero, List.drop_zero, List.nil_append]
 by_cases h : (dE l n).2.1 ≠ 0
 ·rw [if_pos h]
  have : dE l n = ([], (dE l n).2.1, ()) := by
   cases l with
   | nil => exact absurd rfl h
   | cons r l =>
    rw [dE] at h ⊢
    split at h
    ·rename_i h1; rw [if_pos h1]
    ·rename_i h1
     rw [if_neg h1]
     split at h
     ·rename_i h2; rw [if_pos h2]
     ·exact absurd rfl h
  rw [← this]
 ·rw [if_neg h]
  have hx : (dE l n).2.1 = 0 := by simpa using h
  show (iL _).bind _ = _
  unfold iL
  show some ((dE l n).1, (0 : Int), ()) = some (dE l n)
  rw [← hx]
end Nu
end Go.Proofs
namespace Go.Proofs
open Go.Vc
set_option maxRecDepth 20000
namespace Nu
noncomputable def lK (a_0 : (List Nat)) (n_4 : Int) : Option ((Int) ⊕ ((Int))) :=
 ck ((((0 : Int) < n_4) → (I64 (n_4 - (1 : Int))))) (ck ((((0 : Int) < n_4) → (0 ≤ (n_4 - (1 : Int)) ∧ (n_4 - (1 : Int)) < (a_0.length : Int)))) (if ((0 : Int) < n_4) ∧ ((a_0.getD ((n_4 - (1 : Int)).toNat) (0 : Nat)) = (0 : Nat)) then ck (I64 (n_4 - (1 : Int))) (some (.inl (n_4 - (1 : Int)))) else some (.inr n_4)))
noncomputable def gU (a_0 : (List Nat)) : Option (List Nat) :=
 (bO (fun d : Int => lK a_0 d) (a_0.length : Int)).bind (fun e => ck (0 ≤ e ∧ e ≤ (a_0.length : Int)) (some (List.take (e.toNat) a_0)))
def aFO : PlR := ⟨[(0, .A [0]), (1, .A [0, 3]), (2, .A [0, 3, 15]), (3, .A [0, 3]), (4, .A [2])], []⟩
def aHI : Ty := .pair (.sl (.u .u32)) .unit
noncomputable def dH : aI := mSpec aHI (.one (.sl (.u .u32))) (fun x => gU x.1)
noncomputable def aQE : List (FuncId × aI) := []
theorem aQF : bF Tryz.prog GL aQE := .nil
attribute [go_sem] aHI aFO
set_option maxHeartbeats 4000000 in
theorem pR : FOK Tryz.prog GL 173 dH := by
 refine bD (bE aQF) mix Tryz.func173 rfl (by kernel_rfl) (by decide) aFO fun w0 S x Θ hw h hF => ?_
 obtain ⟨(a_0 : (List Nat)), u⟩ := x
 simp only [bH, go_sem]
 replace h : sat (gU a_0) _ := h
 unfold gU at h
 refine bC hF (D := Int) [0] (fun d => [(3, .val (.i .i64) d)]) (fun d => []) h rfl (by simp only [go_sem]) ?_
 rintro n_4 A2 T2 hA2 hE2 h
 simp only [go_sem]
 replace h : sat (lK a_0 n_4) _ := h
 unfold lK at h
 refine aH h fun g0 h => aH h fun g1 h => ?_
 refine ⟨fun hc => ?_, fun hc => ?_⟩
 ·replace h := fU hc h
  refine aH h fun g0 h => ?_
  replace h := hA2 _ (aA h)
  exact aP _ h rfl (by simp only [go_sem])
 ·replace h := fV hc h
  replace h := hE2 _ (aA h)
  try dsimp only at h
  refine aH h fun g0 h => ?_
  exact aG hF [.tmp 2] rfl rfl rfl (aA h) (by simp only [aV, go_sem])
attribute [go_sem] dH
noncomputable def fX (c_106 : Nat) (k_107 : Int) (out_108 : (List Nat)) : Option ((Nat × Int × (List Nat)) ⊕ (((List Nat)))) :=
 if (0 : Nat) < c_106 then ck (0 ≤ k_107 ∧ k_107 < (out_108.length : Int)) (ck (0 ≤ k_107 ∧ k_107 < (out_108.length : Int)) (ck (I64 (k_107 + (1 : Int))) (some (.inl ((((c_106 + (out_108.getD (k_107.toNat) (0 : Nat))) % 4294967296) / (65536 : Nat)), (k_107 + (1 : Int)), (out_108.set (k_107.toNat) (((c_106 + (out_108.getD (k_107.toNat) (0 : Nat))) % 4294967296) &&& (65535 : Nat)))))))) else some (.inr out_108)
noncomputable def sS (i_58 : Int) (b_1 : (List Nat)) (c_104 : Nat) (out_105 : (List Nat)) : Option ((Int × (List Nat)) ⊕ (((List Nat)))) :=
 ck (I64 (i_58 + (b_1.length : Int))) ((bO (fun d : Nat × Int × (List Nat) => fX d.1 d.2.1 d.2.2) (c_104, (i_58 + (b_1.length : Int)), out_105)).bind (fun e => ck (I64 (i_58 + (1 : Int))) (some (.inl ((i_58 + (1 : Int)), e)))))
noncomputable def qK (i_58 : Int) (k_115 : Int) (out_116 : (List Nat)) (a_0 : (List Nat)) (b_1 : (List Nat)) (c_114 : Nat) (over_124 : Nat) : Option ((Nat × Int × (List Nat)) ⊕ ((Nat × (List Nat)))) :=
 ck (I64 (i_58 + k_115)) (ck (0 ≤ (i_58 + k_115) ∧ (i_58 + k_115) < (out_116.length : Int)) (ck (I64 (k_115 + (1 : Int))) (some (.inl (((((((((jU .u32 (a_0.getD (i_58.toNat) (0 : Nat)) (b_1.getD (k_115.toNat) (0 : Nat))) + (out_116.getD ((i_58 + k_115).toNat) (0 : Nat))) % 4294967296) + c_114) % 4294967296) / (65536 : Nat)) + over_124) % 4294967296), (k_115 + (1 : Int)), (out_116.set ((i_58 + k_115).toNat) ((((((jU .u32 (a_0.getD (i_58.toNat) (0 : Nat)) (b_1.getD (k_115.toNat) (0 : Nat))) + (out_116.getD ((i_58 + k_115).toNat) (0 : Nat))) % 4294967296) + c_114) % 4294967296) &&& (65535 : Nat))))))))
noncomputable def kH (b_1 : (List Nat)) (i_58 : Int) (a_0 : (List Nat)) (c_114 : Nat) (k_115 : Int) (out_116 : (List Nat)) : Option ((Nat × Int × (List Nat)) ⊕ ((Nat × (List Nat)))) :=
 if k_115 < (b_1.length : Int) then ck (0 ≤ i_58 ∧ i_58 < (a_0.length : Int)) (ck (0 ≤ k_115 ∧ k_115 < (b_1.length : Int)) (ck (I64 (i_58 + k_115)) (ck (0 ≤ (i_58 + k_115) ∧ (i_58 + k_115) < (out_116.length : Int)) (if (((((jU .u32 (a_0.getD (i_58.toNat) (0 : Nat)) (b_1.getD (k_115.toNat) (0 : Nat))) + (out_116.getD ((i_58 + k_115).toNat) (0 : Nat))) % 4294967296) + c_114) % 4294967296) < (((jU .u32 (a_0.getD (i_58.toNat) (0 : Nat)) (b_1.getD (k_115.toNat) (0 : Nat))) + (out_116.getD ((i_58 + k_115).toNat) (0 : Nat))) % 4294967296) then qK i_58 k_115 out_116 a_0 b_1 c_114 (65536 : Nat) else qK i_58 k_115 out_116 a_0 b_1 c_114 (0 : Nat))))) else some (.inr (c_114, out_116))
noncomputable def nN (a_0 : (List Nat)) (b_1 : (List Nat)) (i_58 : Int) (out_59 : (List Nat)) : Option ((Int × (List Nat)) ⊕ (((List Nat)))) :=
 if i_58 < (a_0.length : Int) then (bO (fun d : Nat × Int × (List Nat) => kH b_1 i_58 a_0 d.1 d.2.1 d.2.2) ((0 : Nat), (0 : Int), out_59)).bind (fun e => sS i_58 b_1 e.1 e.2) else some (.inr out_59)
noncomputable def pS (a_0 : (List Nat)) (b_1 : (List Nat)) : Option (List Nat) :=
 ck (I64 ((a_0.length : Int) + (b_1.length : Int))) (ck (0 ≤ ((a_0.length : Int) + (b_1.length : Int))) (ck ((4 : Int) * ((a_0.length : Int) + (b_1.length : Int)) ≤ 281474976710656) ((bO (fun d : Int × (List Nat) => nN a_0 b_1 d.1 d.2) ((0 : Int), (List.replicate (((a_0.length : Int) + (b_1.length : Int)).toNat) (0 : Nat)))).bind (fun e => (gU e).bind (fun v_128 => some v_128)))))
def aHJ : PlR := ⟨[(0, .A [0, 1]), (1, .B [0, 1, 5]), (2, .A [0, 1, 5, 6]), (3, .A [0, 1, 5, 6, 22]), (4, .A [0, 1, 5, 6]), (5, .A [0, 1, 5, 6, 7]), (6, .A [0, 1, 5, 6, 7, 8]), (7, .A [0, 1, 5, 6, 7, 8, 28]), (8, .A [0, 1, 5, 6, 7, 8]), (9, .A [0, 1, 5, 6, 7, 8, 9]), (10, .A [0, 1, 5, 6, 8, 9, 10]), (11, .A [0, 1, 5, 6, 8, 9, 10, 11]), (12, .A [0, 1, 5, 6, 8, 10, 11, 52]), (13, .A [0, 1, 5, 6, 8, 10, 11]), (14, .B [0, 1, 5, 6, 8, 10, 11]), (15, .A [0, 1, 5, 6, 7, 8]), (16, .A [0, 1, 5, 6, 7, 12]), (17, .A [0, 1, 5, 6, 7, 12, 69]), (18, .A [0, 1, 5, 6, 7, 12]), (19, .A [0, 1, 5, 6, 7, 12]), (20, .B [0, 1, 5, 6, 7, 12]), (21, .A [0, 1, 5, 6, 7, 12]), (22, .B [4])], [(9, 19), (15, 17)]⟩
def aLc : Ty := .pair (.sl (.u .u32)) (.pair (.sl (.u .u32)) .unit)
noncomputable def tY : aI := mSpec aLc (.one (.sl (.u .u32))) (fun x => pS x.1 x.2.1)
noncomputable def aLd : List (FuncId × aI) := [(173, dH)]
theorem aRV : bF Tryz.prog GL aLd := .cons pR (by kernel_rfl) (.nil)
theorem aLe : gam aLd 173 = some dH := rfl
attribute [go_sem] aLc aHJ aLe
set_option maxHeartbeats 4000000 in
theorem aHK : FOK Tryz.prog GL 106 tY := by
 refine bD (bE aRV) mix Tryz.func106 rfl (by kernel_rfl) (by decide) aHJ fun w0 S x Θ hw h hF => ?_
 obtain ⟨(a_0 : (List Nat)), (b_1 : (List Nat)), u⟩ := x
 simp only [bH, go_sem]
 replace h : sat (pS a_0 b_1) _ := h
 unfold pS at h
 obtain ⟨g0, h⟩ := aJ h
 repeat (refine ⟨by omega, ?_⟩)
 obtain ⟨g0, h⟩ := aJ h
 obtain ⟨g1, h⟩ := aJ h
 repeat (refine ⟨by omega, ?_⟩)
 refine bC hF (D := Int × (List Nat)) [0, 1] (fun d => [(5, .own 0), (6, .val (.i .i64) d.1)]) (fun d => [.inr (.row 146 (.u .u32) d.2)]) h rfl (by simp only [go_sem]) ?_
 rintro ⟨i_58, out_59⟩ A3 T3 hA3 hE3 h
 simp only [go_sem]
 replace h : sat (nN a_0 b_1 i_58 out_59) _ := h
 unfold nN at h
 refine bW h (fun hc h => ?_) fun hc h => ?_
 ·refine cO hF (D := Nat × (List Nat)) (fun d => sat (sS i_58 b_1 d.1 d.2) T3) [0, 1, 6] (fun d => [(5, .own 0), (7, .val (.u .u32) d.1)]) (fun d => [.inr (.row 146 (.u .u32) d.2)]) ?_ ?_
  ·simp only [go_sem]
   refine bC hF (D := Nat × Int × (List Nat)) [0, 1, 6] (fun d => [(5, .own 0), (7, .val (.u .u32) d.1), (8, .val (.i .i64) d.2.1)]) (fun d => [.inr (.row 146 (.u .u32) d.2.2)]) h rfl (by simp only [go_sem]) ?_
   rintro ⟨c_114, k_115, out_116⟩ A7 T7 hA7 hE7 h
   simp only [go_sem]
   replace h : sat (kH b_1 i_58 a_0 c_114 k_115 out_116) _ := h
   unfold kH at h
   refine bW h (fun hc h => ?_) fun hc h => ?_
   ·obtain ⟨g0, h⟩ := aJ h
    obtain ⟨g1, h⟩ := aJ h
    obtain ⟨g2, h⟩ := aJ h
    obtain ⟨g3, h⟩ := aJ h
    repeat (refine ⟨by omega, ?_⟩)
    refine cO hF (D := Nat) (fun d => sat (qK i_58 k_115 out_116 a_0 b_1 c_114 d) T7) [0, 1, 6, 8, 10] (fun d => [(5, .own 0), (11, .val (.u .u32) d)]) (fun d => [.inr (.row 146 (.u .u32) out_116)]) ?_ ?_
    ·simp only [go_sem]
     refine cX h (fun hc h => ?_) fun hc h => ?_
     ·exact aP ((65536 : Nat)) h rfl (by simp only [go_sem])
     ·exact aP ((0 : Nat)) h rfl (by simp only [go_sem])
    ·rintro over_124 h
     simp only [go_sem]
     replace h : sat (qK i_58 k_115 out_116 a_0 b_1 c_114 over_124) _ := h
     unfold qK at h
     obtain ⟨g0, h⟩ := aJ h
     repeat (refine ⟨by omega, ?_⟩)
     obtain ⟨g0, h⟩ := aJ h
     repeat (refine ⟨by omega, ?_⟩)
     obtain ⟨g0, h⟩ := aJ h
     repeat (refine ⟨by omega, ?_⟩)
     replace h := hA7 _ (aA h)
     exact aP _ h rfl (by simp only [go_sem])
   ·replace h := hE7 _ (aA h)
    try dsimp only at h
    exact aP ((c_114, out_116)) h rfl (by simp only [go_sem])
  ·rintro ⟨c_104, out_105⟩ h
   simp only [go_sem]
   replace h : sat (sS i_58 b_1 c_104 out_105) _ := h
   unfold sS at h
   obtain ⟨g0, h⟩ := aJ h
   repeat (refine ⟨by omega, ?_⟩)
   refine bC hF (D := Nat × Int × (List Nat)) [0, 1, 6] (fun d => [(5, .own 0), (7, .val (.u .u32) d.1), (12, .val (.i .i64) d.2.1)]) (fun d => [.inr (.row 146 (.u .u32) d.2.2)]) h rfl (by simp only [go_sem]) ?_
   rintro ⟨c_106, k_107, out_108⟩ A17 T17 hA17 hE17 h
   simp only [go_sem]
   replace h : sat (fX c_106 k_107 out_108) _ := h
   unfold fX at h
   refine cX h (fun hc h => ?_) fun hc h => ?_
   ·obtain ⟨g0, h⟩ := aJ h
    repeat (refine ⟨by omega, ?_⟩)
    obtain ⟨g0, h⟩ := aJ h
    repeat (refine ⟨by omega, ?_⟩)
    obtain ⟨g0, h⟩ := aJ h
    repeat (refine ⟨by omega, ?_⟩)
    replace h := hA17 _ (aA h)
    exact aP _ h rfl (by simp only [go_sem])
   ·replace h := hE17 _ (aA h)
    try dsimp only at h
    obtain ⟨g0, h⟩ := aJ h
    repeat (refine ⟨by omega, ?_⟩)
    replace h := hA3 _ (aA h)
    exact aP _ h rfl (by simp only [go_sem])
 ·replace h := hE3 _ (aA h)
  try dsimp only at h
  obtain ⟨v_126, hv, h⟩ := aQ h
  try simp only [hv, go_sem]
  exact aG hF [.tmp 4] rfl rfl rfl (aA h) (by simp only [aV, go_sem])
attribute [go_sem] tY
noncomputable def iU (i_21 : Int) (a_0 : (List Nat)) (k_35 : Int) (out_36 : (List Nat)) : Option ((Int × (List Nat)) ⊕ (((List Nat)))) :=
 if k_35 < (4 : Int) then ck (0 ≤ i_21 ∧ i_21 < (a_0.length : Int)) (ck (I64 ((16 : Int) * k_35)) (ck (((out_36.length) + (1 : Nat)) * 4 ≤ 140737488355328) (ck (I64 (k_35 + (1 : Int))) (some (.inl ((k_35 + (1 : Int)), (out_36 ++ ([((((a_0.getD (i_21.toNat) (0 : Nat)) / (2 ^ ((((16 : Int) * k_35) % (18446744073709551616 : Int)).toNat))) % 4294967296) &&& (65535 : Nat))] : List Nat)))))))) else some (.inr out_36)
noncomputable def lL (a_0 : (List Nat)) (i_21 : Int) (out_22 : (List Nat)) : Option ((Int × (List Nat)) ⊕ (((List Nat)))) :=
 if i_21 < (a_0.length : Int) then (bO (fun d : Int × (List Nat) => iU i_21 a_0 d.1 d.2) ((0 : Int), out_22)).bind (fun e => ck (I64 (i_21 + (1 : Int))) (some (.inl ((i_21 + (1 : Int)), e)))) else some (.inr out_22)
noncomputable def rH (a_0 : (List Nat)) : Option (List Nat) :=
 (bO (fun d : Int × (List Nat) => lL a_0 d.1 d.2) ((0 : Int), ([] : List Nat))).bind (fun e => (gU e).bind (fun v_43 => some v_43))
def aFP : PlR := ⟨[(0, .A [0]), (1, .A [0, 3]), (2, .A [0, 3, 4]), (3, .A [0, 3, 4, 9]), (4, .A [0, 3, 4]), (5, .A [0, 3, 4, 5]), (6, .A [0, 3, 4, 5, 13]), (7, .A [0, 3, 4, 5]), (8, .B [0, 3, 4, 5]), (9, .B [2])], []⟩
def aHL : Ty := .pair (.sl (.u .u64)) .unit
noncomputable def sA : aI := mSpec aHL (.one (.sl (.u .u32))) (fun x => rH x.1)
noncomputable def aHM : List (FuncId × aI) := [(173, dH)]
theorem aQG : bF Tryz.prog GL aHM := .cons pR (by kernel_rfl) (.nil)
theorem aIO : gam aHM 173 = some dH := rfl
attribute [go_sem] aHL aFP aIO
set_option maxHeartbeats 4000000 in
theorem aFQ : FOK Tryz.prog GL 107 sA := by
 refine bD (bE aQG) mix Tryz.func107 rfl (by kernel_rfl) (by decide) aFP fun w0 S x Θ hw h hF => ?_
 obtain ⟨(a_0 : (List Nat)), u⟩ := x
 simp only [bH, go_sem]
 replace h : sat (rH a_0) _ := h
 unfold rH at h
 refine zY 3 146 (.u .u32) rfl ?_
 simp only [go_sem]
 refine bC hF (D := Int × (List Nat)) [0] (fun d => [(3, .own 0), (4, .val (.i .i64) d.1)]) (fun d => [.inr (.row 146 (.u .u32) d.2)]) h rfl (by simp only [go_sem]) ?_
 rintro ⟨i_21, out_22⟩ A3 T3 hA3 hE3 h
 simp only [go_sem]
 replace h : sat (lL a_0 i_21 out_22) _ := h
 unfold lL at h
 refine bW h (fun hc h => ?_) fun hc h => ?_
 ·refine bC hF (D := Int × (List Nat)) [0, 4] (fun d => [(3, .own 0), (5, .val (.i .i64) d.1)]) (fun d => [.inr (.row 146 (.u .u32) d.2)]) h rfl (by simp only [go_sem]) ?_
  rintro ⟨k_35, out_36⟩ A6 T6 hA6 hE6 h
  simp only [go_sem]
  replace h : sat (iU i_21 a_0 k_35 out_36) _ := h
  unfold iU at h
  refine bW h (fun hc h => ?_) fun hc h => ?_
  ·obtain ⟨g0, h⟩ := aJ h
   repeat (refine ⟨by omega, ?_⟩)
   obtain ⟨g0, h⟩ := aJ h
   repeat (refine ⟨by omega, ?_⟩)
   obtain ⟨g0, h⟩ := aJ h
   repeat (refine ⟨by omega, ?_⟩)
   obtain ⟨g0, h⟩ := aJ h
   repeat (refine ⟨by omega, ?_⟩)
   replace h := hA6 _ (aA h)
   refine nE [1] rfl rfl ?_
   simp only [go_sem]
   exact aP _ h rfl (by simp only [go_sem])
  ·replace h := hE6 _ (aA h)
   try dsimp only at h
   obtain ⟨g0, h⟩ := aJ h
   repeat (refine ⟨by omega, ?_⟩)
   replace h := hA3 _ (aA h)
   exact aP _ h rfl (by simp only [go_sem])
 ·replace h := hE3 _ (aA h)
  try dsimp only at h
  obtain ⟨v_41, hv, h⟩ := aQ h
  try simp only [hv, go_sem]
  exact aG hF [.tmp 2] rfl rfl rfl (aA h) (by simp only [aV, go_sem])
attribute [go_sem] sA
noncomputable def nO (i_16 : Int) (b_1 : (List Nat)) (out_17 : (List Nat)) (c_26 : Nat) : Option ((Nat × Int × (List Nat)) ⊕ (((List Nat)))) :=
 if i_16 < (b_1.length : Int) then ck (0 ≤ i_16 ∧ i_16 < (b_1.length : Int)) (ck (((out_17.length) + (1 : Nat)) * 4 ≤ 140737488355328) (ck (I64 (i_16 + (1 : Int))) (some (.inl ((((c_26 + (b_1.getD (i_16.toNat) (0 : Nat))) % 4294967296) / (65536 : Nat)), (i_16 + (1 : Int)), (out_17 ++ ([(((c_26 + (b_1.getD (i_16.toNat) (0 : Nat))) % 4294967296) &&& (65535 : Nat))] : List Nat))))))) else ck (((out_17.length) + (1 : Nat)) * 4 ≤ 140737488355328) (ck (I64 (i_16 + (1 : Int))) (some (.inl ((c_26 / (65536 : Nat)), (i_16 + (1 : Int)), (out_17 ++ ([(c_26 &&& (65535 : Nat))] : List Nat))))))
noncomputable def nP (a_0 : (List Nat)) (b_1 : (List Nat)) (c_15 : Nat) (i_16 : Int) (out_17 : (List Nat)) : Option ((Nat × Int × (List Nat)) ⊕ (((List Nat)))) :=
 if ((i_16 < (a_0.length : Int)) ∨ (i_16 < (b_1.length : Int))) ∨ ((0 : Nat) < c_15) then if i_16 < (a_0.length : Int) then ck (0 ≤ i_16 ∧ i_16 < (a_0.length : Int)) (nO i_16 b_1 out_17 ((c_15 + (a_0.getD (i_16.toNat) (0 : Nat))) % 4294967296)) else nO i_16 b_1 out_17 c_15 else some (.inr out_17)
noncomputable def rI (a_0 : (List Nat)) (b_1 : (List Nat)) : Option (List Nat) :=
 (bO (fun d : Nat × Int × (List Nat) => nP a_0 b_1 d.1 d.2.1 d.2.2) ((0 : Nat), (0 : Int), ([] : List Nat))).bind (fun e => (gU e).bind (fun v_30 => some v_30))
def aHN : PlR := ⟨[(0, .A [0, 1]), (1, .A [0, 1, 5]), (2, .A [0, 1, 5, 6]), (3, .A [0, 1, 5, 6, 7]), (4, .A [0, 1, 5, 6, 7, 21]), (5, .A [0, 1, 5, 6, 7]), (6, .A [0, 1, 5, 6, 7, 27]), (7, .A [0, 1, 5, 6, 7]), (8, .A [0, 1, 5, 6, 7, 37]), (9, .A [0, 1, 5, 6, 7]), (10, .B [0, 1, 5, 6, 7]), (11, .A [0, 1, 5, 6, 7]), (12, .B [4])], [(9, 11)]⟩
def aLf : Ty := .pair (.sl (.u .u32)) (.pair (.sl (.u .u32)) .unit)
noncomputable def tZ : aI := mSpec aLf (.one (.sl (.u .u32))) (fun x => rI x.1 x.2.1)
noncomputable def aLg : List (FuncId × aI) := [(173, dH)]
theorem aRW : bF Tryz.prog GL aLg := .cons pR (by kernel_rfl) (.nil)
theorem aLh : gam aLg 173 = some dH := rfl
attribute [go_sem] aLf aHN aLh
set_option maxHeartbeats 4000000 in
theorem aHO : FOK Tryz.prog GL 112 tZ := by
 refine bD (bE aRW) mix Tryz.func112 rfl (by kernel_rfl) (by decide) aHN fun w0 S x Θ hw h hF => ?_
 obtain ⟨(a_0 : (List Nat)), (b_1 : (List Nat)), u⟩ := x
 simp only [bH, go_sem]
 replace h : sat (rI a_0 b_1) _ := h
 unfold rI at h
 refine zY 5 146 (.u .u32) rfl ?_
 simp only [go_sem]
 refine bC hF (D := Nat × Int × (List Nat)) [0, 1] (fun d => [(5, .own 0), (6, .val (.u .u32) d.1), (7, .val (.i .i64) d.2.1)]) (fun d => [.inr (.row 146 (.u .u32) d.2.2)]) h rfl (by simp only [go_sem]) ?_
 rintro ⟨c_15, i_16, out_17⟩ A4 T4 hA4 hE4 h
 simp only [go_sem]
 replace h : sat (nP a_0 b_1 c_15 i_16 out_17) _ := h
 unfold nP at h
 refine ⟨fun hc => ?_, fun hc => ?_⟩
 ·replace h := fU hc h
  refine cO hF (D := Nat) (fun d => sat (nO i_16 b_1 out_17 d) T4) [0, 1, 7] (fun d => [(5, .own 0), (6, .val (.u .u32) d)]) (fun d => [.inr (.row 146 (.u .u32) out_17)]) ?_ ?_
  ·simp only [go_sem]
   refine bW h (fun hc h => ?_) fun hc h => ?_
   ·obtain ⟨g0, h⟩ := aJ h
    repeat (refine ⟨by omega, ?_⟩)
    exact aP (((c_15 + (a_0.getD (i_16.toNat) (0 : Nat))) % 4294967296)) h rfl (by simp only [go_sem])
   ·exact aP (c_15) h rfl (by simp only [go_sem])
  ·rintro c_26 h
   simp only [go_sem]
   replace h : sat (nO i_16 b_1 out_17 c_26) _ := h
   unfold nO at h
   refine bW h (fun hc h => ?_) fun hc h => ?_
   ·obtain ⟨g0, h⟩ := aJ h
    repeat (refine ⟨by omega, ?_⟩)
    obtain ⟨g0, h⟩ := aJ h
    repeat (refine ⟨by omega, ?_⟩)
    refine aH h fun g0 h => ?_
    replace h := hA4 _ (aA h)
    refine nE [1] rfl rfl ?_
    simp only [go_sem]
    exact aP _ h rfl (by simp only [go_sem])
   ·obtain ⟨g0, h⟩ := aJ h
    repeat (refine ⟨by omega, ?_⟩)
    refine aH h fun g0 h => ?_
    replace h := hA4 _ (aA h)
    refine nE [1] rfl rfl ?_
    simp only [go_sem]
    exact aP _ h rfl (by simp only [go_sem])
 ·replace h := fV hc h
  replace h := hE4 _ (aA h)
  try dsimp only at h
  obtain ⟨v_28, hv, h⟩ := aQ h
  try simp only [hv, go_sem]
  exact aG hF [.tmp 4] rfl rfl rfl (aA h) (by simp only [aV, go_sem])
attribute [go_sem] tZ
noncomputable def nQ (n_0 : Int) (out_12 : (List Nat)) (i_13 : Int) : Option (((List Nat) × Int) ⊕ (((List Nat)))) :=
 if i_13 < n_0 then (pS out_12 ([10] : List Nat)).bind (fun v_22 => ck (I64 (i_13 + (1 : Int))) (some (.inl (v_22, (i_13 + (1 : Int)))))) else some (.inr out_12)
noncomputable def wP (n_0 : Int) : Option (List Nat) :=
 (bO (fun d : (List Nat) × Int => nQ n_0 d.1 d.2) (([1] : List Nat), (0 : Int))).bind (fun e => some e)
def aHP : PlR := ⟨[], []⟩
def aLi : Ty := .pair (.i .i64) .unit
noncomputable def aAQ : aI := mSpec aLi (.one (.sl (.u .u32))) (fun x => wP x.1)
noncomputable def aLj : List (FuncId × aI) := [(106, tY)]
theorem aRX : bF Tryz.prog GL aLj := .cons aHK (by kernel_rfl) (.nil)
theorem aLk : gam aLj 106 = some tY := rfl
attribute [go_sem] aLi aHP aLk
set_option maxHeartbeats 4000000 in
theorem aQH : FOK Tryz.prog GL 108 aAQ := by
 refine bD (bE aRX) mix Tryz.func108 rfl (by kernel_rfl) (by decide) aHP fun w0 S x Θ hw h hF => ?_
 obtain ⟨(n_0 : Int), u⟩ := x
 simp only [bH, go_sem]
 replace h : sat (wP n_0) _ := h
 unfold wP at h
 refine cT hF [0] ?_
 simp only [go_sem]
 refine cT hF [0, 3] ?_
 simp only [go_sem]
 refine cT hF [0, 3, 4] ?_
 simp only [go_sem]
 refine bC hF (D := (List Nat) × Int) [0] (fun d => [(3, .val (.sl (.u .u32)) d.1), (4, .val (.i .i64) d.2)]) (fun d => []) h rfl (by simp only [go_sem]) ?_
 rintro ⟨out_12, i_13⟩ A3 T3 hA3 hE3 h
 simp only [go_sem]
 replace h : sat (nQ n_0 out_12 i_13) _ := h
 unfold nQ at h
 refine cT hF [0, 3, 4, 8] ?_
 simp only [go_sem]
 refine bW h (fun hc h => ?_) fun hc h => ?_
 ·refine cT hF [0, 3, 4] ?_
  simp only [go_sem]
  obtain ⟨v_22, hv, h⟩ := aQ h
  try simp only [hv, go_sem]
  refine cT hF [0, 3, 4] ?_
  simp only [go_sem]
  refine aH h fun g0 h => ?_
  replace h := hA3 _ (aA h)
  exact aP _ h rfl (by simp only [go_sem])
 ·replace h := hE3 _ (aA h)
  try dsimp only at h
  refine cT hF [2] ?_
  simp only [go_sem]
  exact aG hF [.tmp 2] rfl rfl rfl (aA h) (by simp only [aV, go_sem])
attribute [go_sem] aAQ
noncomputable def lO (n_6 : Int) (x_7 : Nat) : Option ((Int × Nat) ⊕ ((Int))) :=
 if (0 : Nat) < x_7 then ck (I64 (n_6 + (1 : Int))) (some (.inl ((n_6 + (1 : Int)), (x_7 / (2 : Nat))))) else some (.inr n_6)
noncomputable def pE (a_0 : (List Nat)) : Option Int :=
 if (a_0.length : Int) = (0 : Int) then some (0 : Int) else ck (I64 ((a_0.length : Int) - (1 : Int))) (ck (I64 ((16 : Int) * ((a_0.length : Int) - (1 : Int)))) (ck (I64 ((a_0.length : Int) - (1 : Int))) (ck (0 ≤ ((a_0.length : Int) - (1 : Int)) ∧ ((a_0.length : Int) - (1 : Int)) < (a_0.length : Int)) ((bO (fun d : Int × Nat => lO d.1 d.2) (((16 : Int) * ((a_0.length : Int) - (1 : Int))), (a_0.getD (((a_0.length : Int) - (1 : Int)).toNat) (0 : Nat)))).bind (fun e => some e)))))
def aFR : PlR := ⟨[(0, .A [0]), (1, .A [0, 7]), (2, .A [2]), (3, .A [0, 3]), (4, .A [3, 4]), (5, .A [3, 4, 19]), (6, .A [3, 4]), (7, .A [3, 4]), (8, .A [2])], []⟩
def aHQ : Ty := .pair (.sl (.u .u32)) .unit
noncomputable def sB : aI := mSpec aHQ (.one (.i .i64)) (fun x => pE x.1)
noncomputable def aQI : List (FuncId × aI) := []
theorem aQJ : bF Tryz.prog GL aQI := .nil
attribute [go_sem] aHQ aFR
set_option maxHeartbeats 4000000 in
theorem aFS : FOK Tryz.prog GL 226 sB := by
 refine bD (bE aQJ) mix Tryz.func226 rfl (by kernel_rfl) (by decide) aFR fun w0 S x Θ hw h hF => ?_
 obtain ⟨(a_0 : (List Nat)), u⟩ := x
 simp only [bH, go_sem]
 replace h : sat (pE a_0) _ := h
 unfold pE at h
 refine cX h (fun hc h => ?_) fun hc h => ?_
 ·exact aG hF [.tmp 2] rfl rfl rfl (aA h) (by simp only [aV, go_sem])
 ·refine aH h fun g0 h => aH h fun g1 h => ?_
  refine aH h fun g0 h => aH h fun g1 h => ?_
  refine bC hF (D := Int × Nat) [] (fun d => [(3, .val (.i .i64) d.1), (4, .val (.u .u32) d.2)]) (fun d => []) h rfl (by simp only [go_sem]) ?_
  rintro ⟨n_6, x_7⟩ A5 T5 hA5 hE5 h
  simp only [go_sem]
  replace h : sat (lO n_6 x_7) _ := h
  unfold lO at h
  refine cX h (fun hc h => ?_) fun hc h => ?_
  ·refine aH h fun g0 h => ?_
   replace h := hA5 _ (aA h)
   exact aP _ h rfl (by simp only [go_sem])
  ·replace h := hE5 _ (aA h)
   try dsimp only at h
   exact aG hF [.tmp 2] rfl rfl rfl (aA h) (by simp only [aV, go_sem])
attribute [go_sem] sB
noncomputable def nR (a_0 : (List Nat)) (n_1 : Int) (c_9 : Nat) (i_10 : Int) (out_11 : (List Nat)) : Option ((Nat × Int × (List Nat)) ⊕ ((Nat × (List Nat)))) :=
 if i_10 < (a_0.length : Int) then ck (0 ≤ i_10 ∧ i_10 < (a_0.length : Int)) (ck (((out_11.length) + (1 : Nat)) * 4 ≤ 140737488355328) (ck (I64 (i_10 + (1 : Int))) (some (.inl ((((((a_0.getD (i_10.toNat) (0 : Nat)) * (2 ^ (((Int.tmod n_1 (16 : Int)) % (18446744073709551616 : Int)).toNat))) % 4294967296) ||| c_9) / (65536 : Nat)), (i_10 + (1 : Int)), (out_11 ++ ([(((((a_0.getD (i_10.toNat) (0 : Nat)) * (2 ^ (((Int.tmod n_1 (16 : Int)) % (18446744073709551616 : Int)).toNat))) % 4294967296) ||| c_9) &&& (65535 : Nat))] : List Nat))))))) else some (.inr (c_9, out_11))
noncomputable def iD (a_0 : (List Nat)) (n_1 : Int) : Option (List Nat) :=
 if (a_0.length : Int) = (0 : Int) then some a_0 else ck (I64 (Int.tdiv n_1 (16 : Int))) (ck (0 ≤ (Int.tdiv n_1 (16 : Int))) (ck ((4 : Int) * (Int.tdiv n_1 (16 : Int)) ≤ 281474976710656) ((bO (fun d : Nat × Int × (List Nat) => nR a_0 n_1 d.1 d.2.1 d.2.2) ((0 : Nat), (0 : Int), (List.replicate ((Int.tdiv n_1 (16 : Int)).toNat) (0 : Nat)))).bind (fun e => ck (((e.2.length) + (1 : Nat)) * 4 ≤ 140737488355328) ((gU (e.2 ++ ([e.1] : List Nat))).bind (fun v_20 => some v_20))))))
def aHR : PlR := ⟨[(0, .A [0, 1]), (1, .A [0, 1, 11]), (2, .A [4]), (3, .B [0, 1, 5]), (4, .A [0, 1, 5, 6]), (5, .A [0, 1, 5, 6, 7]), (6, .A [0, 1, 5, 6, 7, 19]), (7, .A [0, 1, 5, 6, 7]), (8, .A [0, 1, 5, 7, 8]), (9, .B [0, 1, 5, 7, 8]), (10, .A [0, 1, 5, 6, 7]), (11, .B [4])], []⟩
def aLl : Ty := .pair (.sl (.u .u32)) (.pair (.i .i64) .unit)
noncomputable def pF : aI := mSpec aLl (.one (.sl (.u .u32))) (fun x => iD x.1 x.2.1)
noncomputable def aLm : List (FuncId × aI) := [(173, dH)]
theorem aRY : bF Tryz.prog GL aLm := .cons pR (by kernel_rfl) (.nil)
theorem aLn : gam aLm 173 = some dH := rfl
attribute [go_sem] aLl aHR aLn
set_option maxHeartbeats 4000000 in
theorem aDF : FOK Tryz.prog GL 109 pF := by
 refine bD (bE aRY) mix Tryz.func109 rfl (by kernel_rfl) (by decide) aHR fun w0 S x Θ hw h hF => ?_
 obtain ⟨(a_0 : (List Nat)), (n_1 : Int), u⟩ := x
 simp only [bH, go_sem]
 replace h : sat (iD a_0 n_1) _ := h
 unfold iD at h
 refine cX h (fun hc h => ?_) fun hc h => ?_
 ·exact aG hF [.tmp 4] rfl rfl rfl (aA h) (by simp only [aV, go_sem])
 ·refine aH h fun g0 h => ?_
  obtain ⟨g0, h⟩ := aJ h
  obtain ⟨g1, h⟩ := aJ h
  repeat (refine ⟨by omega, ?_⟩)
  refine bC hF (D := Nat × Int × (List Nat)) [0, 1] (fun d => [(5, .own 0), (6, .val (.u .u32) d.1), (7, .val (.i .i64) d.2.1)]) (fun d => [.inr (.row 146 (.u .u32) d.2.2)]) h rfl (by simp only [go_sem]) ?_
  rintro ⟨c_9, i_10, out_11⟩ A6 T6 hA6 hE6 h
  simp only [go_sem]
  replace h : sat (nR a_0 n_1 c_9 i_10 out_11) _ := h
  unfold nR at h
  refine bW h (fun hc h => ?_) fun hc h => ?_
  ·obtain ⟨g0, h⟩ := aJ h
   repeat (refine ⟨by omega, ?_⟩)
   obtain ⟨g0, h⟩ := aJ h
   repeat (refine ⟨by omega, ?_⟩)
   refine aH h fun g0 h => ?_
   replace h := hA6 _ (aA h)
   refine nE [1] rfl rfl ?_
   simp only [go_sem]
   exact aP _ h rfl (by (try simp only [kU, hZ, true_or, and_self, go_sem]) <;> (repeat' apply And.intro) <;> first | rfl | (left; rfl) | (right; rfl) | (left; simp only [go_sem]; done) | (right; simp only [go_sem]; done) | (simp; done) | (simp only [*]; done) | omega)
  ·replace h := hE6 _ (aA h)
   try dsimp only at h
   obtain ⟨g0, h⟩ := aJ h
   repeat (refine ⟨by omega, ?_⟩)
   obtain ⟨v_18, hv, h⟩ := aQ h
   try simp only [hv, go_sem]
   exact aG hF [.tmp 4] rfl rfl rfl (aA h) (by simp only [aV, go_sem])
attribute [go_sem] pF
noncomputable def wQ (a_0 : (List Nat)) (i_1 : Int) : Option Nat :=
 ck (I64 (Int.tdiv i_1 (16 : Int))) (if (a_0.length : Int) ≤ (Int.tdiv i_1 (16 : Int)) then some (0 : Nat) else ck (I64 (Int.tdiv i_1 (16 : Int))) (ck (0 ≤ (Int.tdiv i_1 (16 : Int)) ∧ (Int.tdiv i_1 (16 : Int)) < (a_0.length : Int)) (some (((a_0.getD ((Int.tdiv i_1 (16 : Int)).toNat) (0 : Nat)) / (2 ^ (((Int.tmod i_1 (16 : Int)) % (18446744073709551616 : Int)).toNat))) &&& (1 : Nat)))))
def aHS : PlR := ⟨[(0, .A [0, 1]), (1, .A [0, 1, 9]), (2, .A [4]), (3, .A [4])], []⟩
def aLo : Ty := .pair (.sl (.u .u32)) (.pair (.i .i64) .unit)
noncomputable def aAR : aI := mSpec aLo (.one (.u .u32)) (fun x => wQ x.1 x.2.1)
noncomputable def aRZ : List (FuncId × aI) := []
theorem aR0 : bF Tryz.prog GL aRZ := .nil
attribute [go_sem] aLo aHS
set_option maxHeartbeats 4000000 in
theorem aQK : FOK Tryz.prog GL 227 aAR := by
 refine bD (bE aR0) mix Tryz.func227 rfl (by kernel_rfl) (by decide) aHS fun w0 S x Θ hw h hF => ?_
 obtain ⟨(a_0 : (List Nat)), (i_1 : Int), u⟩ := x
 simp only [bH, go_sem]
 replace h : sat (wQ a_0 i_1) _ := h
 unfold wQ at h
 refine aH h fun g0 h => ?_
 refine aBW h (fun hc h => ?_) fun hc h => ?_
 ·exact aG hF [.tmp 4] rfl rfl rfl (aA h) (by simp only [aV, go_sem])
 ·refine aH h fun g0 h => aH h fun g1 h => ?_
  exact aG hF [.tmp 4] rfl rfl rfl (aA h) (by (simp only [aV, go_sem]) <;> first | rfl | (simp; done))
attribute [go_sem] aAR
noncomputable def nS (a_0 : (List Nat)) (b_1 : (List Nat)) (i_5 : Int) : Option ((Int) ⊕ ((Unit) ⊕ Int)) :=
 if (0 : Int) ≤ i_5 then ck (0 ≤ i_5 ∧ i_5 < (a_0.length : Int)) (ck (0 ≤ i_5 ∧ i_5 < (b_1.length : Int)) (if (a_0.getD (i_5.toNat) (0 : Nat)) < (b_1.getD (i_5.toNat) (0 : Nat)) then some (.inr (.inr (-1 : Int))) else ck (0 ≤ i_5 ∧ i_5 < (a_0.length : Int)) (ck (0 ≤ i_5 ∧ i_5 < (b_1.length : Int)) (if (b_1.getD (i_5.toNat) (0 : Nat)) < (a_0.getD (i_5.toNat) (0 : Nat)) then some (.inr (.inr (1 : Int))) else ck (I64 (i_5 - (1 : Int))) (some (.inl (i_5 - (1 : Int)))))))) else some (.inr (.inl ()))
noncomputable def nT (a_0 : (List Nat)) (b_1 : (List Nat)) : Option Int :=
 if ¬ ((a_0.length : Int) = (b_1.length : Int)) then if (a_0.length : Int) < (b_1.length : Int) then some (-1 : Int) else some (1 : Int) else ck (I64 ((a_0.length : Int) - (1 : Int))) ((bO (fun d : Int => nS a_0 b_1 d) ((a_0.length : Int) - (1 : Int))).bind (fun e => match e with | (.inl e) => some (0 : Int) | (.inr e) => some e))
def aHT : PlR := ⟨[(0, .A [0, 1]), (1, .A [0, 1, 10]), (2, .A [15]), (3, .A [4]), (4, .A [4]), (5, .A [0, 1, 5]), (6, .A [0, 1, 5, 20]), (7, .A [0, 1, 5]), (8, .A [0, 1, 5, 31]), (9, .A [4]), (10, .A [0, 1, 5, 40]), (11, .A [4]), (12, .A [4])], []⟩
def aLp : Ty := .pair (.sl (.u .u32)) (.pair (.sl (.u .u32)) .unit)
noncomputable def pG : aI := mSpec aLp (.one (.i .i64)) (fun x => nT x.1 x.2.1)
noncomputable def aR1 : List (FuncId × aI) := []
theorem aR2 : bF Tryz.prog GL aR1 := .nil
attribute [go_sem] aLp aHT
set_option maxHeartbeats 4000000 in
theorem aDG : FOK Tryz.prog GL 111 pG := by
 refine bD (bE aR2) mix Tryz.func111 rfl (by kernel_rfl) (by decide) aHT fun w0 S x Θ hw h hF => ?_
 obtain ⟨(a_0 : (List Nat)), (b_1 : (List Nat)), u⟩ := x
 simp only [bH, go_sem]
 replace h : sat (nT a_0 b_1) _ := h
 unfold nT at h
 refine cX h (fun hc h => ?_) fun hc h => ?_
 ·refine bW h (fun hc h => ?_) fun hc h => ?_
  ·exact aG hF [.tmp 4] rfl rfl rfl (aA h) (by simp only [aV, go_sem])
  ·exact aG hF [.tmp 4] rfl rfl rfl (aA h) (by simp only [aV, go_sem])
 ·refine aH h fun g0 h => ?_
  refine bC hF (D := Int) [0, 1] (fun d => [(5, .val (.i .i64) d)]) (fun d => []) h rfl (by simp only [go_sem]) ?_
  rintro i_5 A6 T6 hA6 hE6 h
  simp only [go_sem]
  replace h : sat (nS a_0 b_1 i_5) _ := h
  unfold nS at h
  refine aBW h (fun hc h => ?_) fun hc h => ?_
  ·refine aH h fun g0 h => aH h fun g1 h => ?_
   refine cX h (fun hc h => ?_) fun hc h => ?_
   ·replace h := hE6 _ (aA h)
    try dsimp only at h
    exact aG hF [.tmp 4] rfl rfl rfl (aA h) (by simp only [aV, go_sem])
   ·refine aH h fun g0 h => aH h fun g1 h => ?_
    refine cX h (fun hc h => ?_) fun hc h => ?_
    ·replace h := hE6 _ (aA h)
     try dsimp only at h
     exact aG hF [.tmp 4] rfl rfl rfl (aA h) (by simp only [aV, go_sem])
    ·refine aH h fun g0 h => ?_
     replace h := hA6 _ (aA h)
     exact aP _ h rfl (by simp only [go_sem])
  ·replace h := hE6 _ (aA h)
   try dsimp only at h
   exact aG hF [.tmp 4] rfl rfl rfl (aA h) (by simp only [aV, go_sem])
attribute [go_sem] pG
noncomputable def nU (out_20 : (List Nat)) (i_19 : Int) (x_31 : Int) : Option ((Int × Int × (List Nat)) ⊕ (((List Nat)))) :=
 if x_31 < (0 : Int) then ck (I32 (x_31 + (65536 : Int))) (ck (((out_20.length) + (1 : Nat)) * 4 ≤ 140737488355328) (ck (I64 (i_19 + (1 : Int))) (some (.inl ((1 : Int), (i_19 + (1 : Int)), (out_20 ++ ([(((x_31 + (65536 : Int)) % (4294967296 : Int)).toNat)] : List Nat))))))) else ck (((out_20.length) + (1 : Nat)) * 4 ≤ 140737488355328) (ck (I64 (i_19 + (1 : Int))) (some (.inl ((0 : Int), (i_19 + (1 : Int)), (out_20 ++ ([((x_31 % (4294967296 : Int)).toNat)] : List Nat))))))
noncomputable def nV (a_0 : (List Nat)) (b_1 : (List Nat)) (c_18 : Int) (i_19 : Int) (out_20 : (List Nat)) : Option ((Int × Int × (List Nat)) ⊕ (((List Nat)))) :=
 if i_19 < (a_0.length : Int) then ck (0 ≤ i_19 ∧ i_19 < (a_0.length : Int)) (ck (I32 ((IntKind.i32.wrap (((a_0.getD (i_19.toNat) (0 : Nat)) : Nat) : Int)) - c_18)) (if i_19 < (b_1.length : Int) then ck (0 ≤ i_19 ∧ i_19 < (b_1.length : Int)) (ck (I32 (((IntKind.i32.wrap (((a_0.getD (i_19.toNat) (0 : Nat)) : Nat) : Int)) - c_18) - (IntKind.i32.wrap (((b_1.getD (i_19.toNat) (0 : Nat)) : Nat) : Int)))) (nU out_20 i_19 (((IntKind.i32.wrap (((a_0.getD (i_19.toNat) (0 : Nat)) : Nat) : Int)) - c_18) - (IntKind.i32.wrap (((b_1.getD (i_19.toNat) (0 : Nat)) : Nat) : Int))))) else nU out_20 i_19 ((IntKind.i32.wrap (((a_0.getD (i_19.toNat) (0 : Nat)) : Nat) : Int)) - c_18))) else some (.inr out_20)
noncomputable def tI (a_0 : (List Nat)) (b_1 : (List Nat)) : Option (List Nat) :=
 (bO (fun d : Int × Int × (List Nat) => nV a_0 b_1 d.1 d.2.1 d.2.2) ((0 : Int), (0 : Int), ([] : List Nat))).bind (fun e => (gU e).bind (fun v_35 => some v_35))
def aHU : PlR := ⟨[(0, .A [0, 1]), (1, .A [0, 1, 5]), (2, .A [0, 1, 5, 6]), (3, .A [0, 1, 5, 6, 7]), (4, .A [0, 1, 5, 6, 7, 12]), (5, .A [0, 1, 5, 6, 7]), (6, .A [0, 1, 5, 7, 8]), (7, .A [0, 1, 5, 7, 8, 25]), (8, .A [0, 1, 5, 7, 8]), (9, .A [0, 1, 5, 6, 7, 8]), (10, .A [0, 1, 5, 6, 7, 8, 34]), (11, .A [0, 1, 5, 7, 8]), (12, .A [0, 1, 5, 6, 7, 8]), (13, .B [0, 1, 5, 6, 7]), (14, .B [4])], [(10, 12)]⟩
def aLq : Ty := .pair (.sl (.u .u32)) (.pair (.sl (.u .u32)) .unit)
noncomputable def aAS : aI := mSpec aLq (.one (.sl (.u .u32))) (fun x => tI x.1 x.2.1)
noncomputable def aLr : List (FuncId × aI) := [(173, dH)]
theorem aR3 : bF Tryz.prog GL aLr := .cons pR (by kernel_rfl) (.nil)
theorem aLs : gam aLr 173 = some dH := rfl
attribute [go_sem] aLq aHU aLs
set_option maxHeartbeats 4000000 in
theorem aQL : FOK Tryz.prog GL 228 aAS := by
 refine bD (bE aR3) mix Tryz.func228 rfl (by kernel_rfl) (by decide) aHU fun w0 S x Θ hw h hF => ?_
 obtain ⟨(a_0 : (List Nat)), (b_1 : (List Nat)), u⟩ := x
 simp only [bH, go_sem]
 replace h : sat (tI a_0 b_1) _ := h
 unfold tI at h
 refine zY 5 146 (.u .u32) rfl ?_
 simp only [go_sem]
 refine bC hF (D := Int × Int × (List Nat)) [0, 1] (fun d => [(5, .own 0), (6, .val (.i .i32) d.1), (7, .val (.i .i64) d.2.1)]) (fun d => [.inr (.row 146 (.u .u32) d.2.2)]) h rfl (by simp only [go_sem]) ?_
 rintro ⟨c_18, i_19, out_20⟩ A4 T4 hA4 hE4 h
 simp only [go_sem]
 replace h : sat (nV a_0 b_1 c_18 i_19 out_20) _ := h
 unfold nV at h
 refine bW h (fun hc h => ?_) fun hc h => ?_
 ·obtain ⟨g0, h⟩ := aJ h
  obtain ⟨g1, h⟩ := aJ h
  try simp only [I64, I32] at g1
  repeat (refine ⟨by first | with_reducible assumption | omega | (intros; first | assumption | omega) | (simp only [go_sem] at *; first | assumption | omega) | decide, ?_⟩)
  refine cO hF (D := Int) (fun d => sat (nU out_20 i_19 d) T4) [0, 1, 7] (fun d => [(5, .own 0), (8, .val (.i .i32) d)]) (fun d => [.inr (.row 146 (.u .u32) out_20)]) ?_ ?_
  ·simp only [go_sem]
   refine bW h (fun hc h => ?_) fun hc h => ?_
   ·obtain ⟨g0, h⟩ := aJ h
    obtain ⟨g1, h⟩ := aJ h
    try simp only [I64, I32] at g1
    repeat (refine ⟨by first | with_reducible assumption | omega | (intros; first | assumption | omega) | (simp only [go_sem] at *; first | assumption | omega) | decide, ?_⟩)
    exact aP ((((IntKind.i32.wrap (((a_0.getD (i_19.toNat) (0 : Nat)) : Nat) : Int)) - c_18) - (IntKind.i32.wrap (((b_1.getD (i_19.toNat) (0 : Nat)) : Nat) : Int)))) h rfl (by simp only [go_sem])
   ·exact aP (((IntKind.i32.wrap (((a_0.getD (i_19.toNat) (0 : Nat)) : Nat) : Int)) - c_18)) h rfl (by simp only [go_sem])
  ·rintro x_31 h
   simp only [go_sem]
   replace h : sat (nU out_20 i_19 x_31) _ := h
   unfold nU at h
   refine bW h (fun hc h => ?_) fun hc h => ?_
   ·obtain ⟨g0, h⟩ := aJ h
    try simp only [I64, I32] at g0
    repeat (refine ⟨by first | with_reducible assumption | omega | (intros; first | assumption | omega) | (simp only [go_sem] at *; first | assumption | omega) | decide, ?_⟩)
    obtain ⟨g0, h⟩ := aJ h
    repeat (refine ⟨by first | with_reducible assumption | omega | (intros; first | assumption | omega) | (simp only [go_sem] at *; first | assumption | omega) | decide, ?_⟩)
    obtain ⟨g0, h⟩ := aJ h
    try simp only [I64, I32] at g0
    repeat (refine ⟨by first | with_reducible assumption | omega | (intros; first | assumption | omega) | (simp only [go_sem] at *; first | assumption | omega) | decide, ?_⟩)
    replace h := hA4 _ (aA h)
    refine nE [1] rfl rfl ?_
    simp only [go_sem]
    exact aP _ h rfl (by simp only [go_sem])
   ·obtain ⟨g0, h⟩ := aJ h
    repeat (refine ⟨by first | with_reducible assumption | omega | (intros; first | assumption | omega) | (simp only [go_sem] at *; first | assumption | omega) | decide, ?_⟩)
    obtain ⟨g0, h⟩ := aJ h
    try simp only [I64, I32] at g0
    repeat (refine ⟨by first | with_reducible assumption | omega | (intros; first | assumption | omega) | (simp only [go_sem] at *; first | assumption | omega) | decide, ?_⟩)
    replace h := hA4 _ (aA h)
    refine nE [1] rfl rfl ?_
    simp only [go_sem]
    exact aP _ h rfl (by simp only [go_sem])
 ·replace h := hE4 _ (aA h)
  try dsimp only at h
  obtain ⟨v_33, hv, h⟩ := aQ h
  try simp only [hv, go_sem]
  exact aG hF [.tmp 4] rfl rfl rfl (aA h) (by simp only [aV, go_sem])
attribute [go_sem] aAS
noncomputable def nW (b_1 : (List Nat)) (i_53 : Int) (q_54 : (List Nat)) (r_92 : (List Nat)) : Option (((List Nat) × Int × (List Nat)) ⊕ (((List Nat) × (List Nat)))) :=
 (nT r_92 b_1).bind (fun v_96 => if (0 : Int) ≤ v_96 then (tI r_92 b_1).bind (fun v_100 => ck (I64 (Int.tdiv i_53 (16 : Int))) (ck (I64 (Int.tdiv i_53 (16 : Int))) (ck (0 ≤ (Int.tdiv i_53 (16 : Int)) ∧ (Int.tdiv i_53 (16 : Int)) < (q_54.length : Int)) (ck (0 ≤ (Int.tdiv i_53 (16 : Int)) ∧ (Int.tdiv i_53 (16 : Int)) < (q_54.length : Int)) (ck (I64 (i_53 - (1 : Int))) (some (.inl (v_100, (i_53 - (1 : Int)), (q_54.set ((Int.tdiv i_53 (16 : Int)).toNat) ((q_54.getD ((Int.tdiv i_53 (16 : Int)).toNat) (0 : Nat)) ||| (((1 : Nat) * (2 ^ (((Int.tmod i_53 (16 : Int)) % (18446744073709551616 : Int)).toNat))) % 4294967296))))))))))) else ck (I64 (i_53 - (1 : Int))) (some (.inl (r_92, (i_53 - (1 : Int)), q_54))))
noncomputable def nX (a_0 : (List Nat)) (b_1 : (List Nat)) (r_52 : (List Nat)) (i_53 : Int) (q_54 : (List Nat)) : Option (((List Nat) × Int × (List Nat)) ⊕ (((List Nat) × (List Nat)))) :=
 if (0 : Int) ≤ i_53 then (iD r_52 (1 : Int)).bind (fun v_87 => (wQ a_0 i_53).bind (fun v_104 => if v_104 = (1 : Nat) then (rI v_87 ([1] : List Nat)).bind (fun v_106 => nW b_1 i_53 q_54 v_106) else nW b_1 i_53 q_54 v_87)) else some (.inr (r_52, q_54))
noncomputable def wR (a_0 : (List Nat)) (b_1 : (List Nat)) : Option ((List Nat) × ((List Nat) × Unit)) :=
 (pE a_0).bind (fun v_6 => ck (0 ≤ (a_0.length : Int)) (ck ((4 : Int) * (a_0.length : Int) ≤ 281474976710656) (ck (I64 (v_6 - (1 : Int))) ((bO (fun d : (List Nat) × Int × (List Nat) => nX a_0 b_1 d.1 d.2.1 d.2.2) (([] : List Nat), (v_6 - (1 : Int)), (List.replicate (a_0.length) (0 : Nat)))).bind (fun e => (gU e.2).bind (fun v_110 => some (v_110, e.1, ())))))))
def aHV : PlR := ⟨[(0, .A [0, 1]), (1, .A [0, 1, 6]), (2, .B [0, 1, 6, 7]), (3, .A [0, 1, 6, 7, 8]), (4, .A [0, 1, 7, 8, 9]), (5, .A [0, 1, 7, 8, 9, 18]), (6, .A [0, 1, 7, 8, 9]), (7, .A [0, 1, 7, 8, 9]), (8, .A [0, 1, 7, 8, 9, 26]), (9, .A [0, 1, 7, 8, 9]), (10, .A [0, 1, 7, 8, 9, 33]), (11, .A [0, 1, 7, 8, 9]), (12, .B [0, 1, 7, 8, 9]), (13, .B [4, 5])], [(11, 13)]⟩
def aLt : Ty := .pair (.sl (.u .u32)) (.pair (.sl (.u .u32)) .unit)
noncomputable def aAT : aI := mSpec aLt (.tup (.pair (.sl (.u .u32)) (.pair (.sl (.u .u32)) .unit))) (fun x => wR x.1 x.2.1)
noncomputable def rJ : List (FuncId × aI) := [(109, pF), (111, pG), (112, tZ), (173, dH), (226, sB), (227, aAR), (228, aAS)]
theorem aR4 : bF Tryz.prog GL rJ := .cons aDF (by kernel_rfl) (.cons aDG (by kernel_rfl) (.cons aHO (by kernel_rfl) (.cons pR (by kernel_rfl) (.cons aFS (by kernel_rfl) (.cons aQK (by kernel_rfl) (.cons aQL (by kernel_rfl) (.nil)))))))
theorem aLu : gam rJ 109 = some pF := rfl
theorem aLv : gam rJ 111 = some pG := rfl
theorem aLw : gam rJ 112 = some tZ := rfl
theorem aLx : gam rJ 173 = some dH := rfl
theorem aLy : gam rJ 226 = some sB := rfl
theorem aLz : gam rJ 227 = some aAR := rfl
theorem aLA : gam rJ 228 = some aAS := rfl
attribute [go_sem] aLt aHV aLu aLv aLw aLx aLy aLz aLA
set_option maxHeartbeats 4000000 in
theorem aQM : FOK Tryz.prog GL 174 aAT := by
 refine bD (bE aR4) mix Tryz.func174 rfl (by kernel_rfl) (by decide) aHV fun w0 S x Θ hw h hF => ?_
 obtain ⟨(a_0 : (List Nat)), (b_1 : (List Nat)), u⟩ := x
 simp only [bH, go_sem]
 replace h : sat (wR a_0 b_1) _ := h
 unfold wR at h
 obtain ⟨v_6, hv, h⟩ := aQ h
 try simp only [hv, go_sem]
 obtain ⟨g0, h⟩ := aJ h
 obtain ⟨g1, h⟩ := aJ h
 repeat (refine ⟨by omega, ?_⟩)
 refine aH h fun g0 h => ?_
 refine bC hF (D := (List Nat) × Int × (List Nat)) [0, 1] (fun d => [(7, .own 0), (8, .val (.sl (.u .u32)) d.1), (9, .val (.i .i64) d.2.1)]) (fun d => [.inr (.row 146 (.u .u32) d.2.2)]) h rfl (by simp only [go_sem]) ?_
 rintro ⟨r_52, i_53, q_54⟩ A5 T5 hA5 hE5 h
 simp only [go_sem]
 replace h : sat (nX a_0 b_1 r_52 i_53 q_54) _ := h
 unfold nX at h
 refine aBW h (fun hc h => ?_) fun hc h => ?_
 ·obtain ⟨v_87, hv, h⟩ := aQ h
  try simp only [hv, go_sem]
  refine cO hF (D := (List Nat)) (fun d => sat (nW b_1 i_53 q_54 d) T5) [0, 1, 9] (fun d => [(7, .own 0), (8, .val (.sl (.u .u32)) d)]) (fun d => [.inr (.row 146 (.u .u32) q_54)]) ?_ ?_
  ·simp only [go_sem]
   obtain ⟨v_104, hv, h⟩ := aQ h
   try simp only [hv, go_sem]
   refine cX h (fun hc h => ?_) fun hc h => ?_
   ·obtain ⟨v_106, hv, h⟩ := aQ h
    try simp only [hv, go_sem]
    exact aP (v_106) h rfl (by simp only [go_sem])
   ·exact aP (v_87) h rfl (by simp only [go_sem])
  ·rintro r_92 h
   simp only [go_sem]
   replace h : sat (nW b_1 i_53 q_54 r_92) _ := h
   unfold nW at h
   obtain ⟨v_96, hv, h⟩ := aQ h
   try simp only [hv, go_sem]
   refine aBW h (fun hc h => ?_) fun hc h => ?_
   ·obtain ⟨v_100, hv, h⟩ := aQ h
    try simp only [hv, go_sem]
    obtain ⟨g0, h⟩ := aJ h
    repeat (refine ⟨by omega, ?_⟩)
    obtain ⟨g0, h⟩ := aJ h
    repeat (refine ⟨by omega, ?_⟩)
    obtain ⟨g0, h⟩ := aJ h
    repeat (refine ⟨by omega, ?_⟩)
    obtain ⟨g0, h⟩ := aJ h
    repeat (refine ⟨by omega, ?_⟩)
    refine aH h fun g0 h => ?_
    replace h := hA5 _ (aA h)
    exact aP _ h rfl (by simp only [go_sem])
   ·refine aH h fun g0 h => ?_
    replace h := hA5 _ (aA h)
    exact aP _ h rfl (by simp only [go_sem])
 ·replace h := hE5 _ (aA h)
  try dsimp only at h
  obtain ⟨v_108, hv, h⟩ := aQ h
  try simp only [hv, go_sem]
  exact aG hF [.tmp 4, .tmp 5] rfl rfl rfl (aA h) (by simp only [aV, go_sem])
attribute [go_sem] aAT
noncomputable def qL (out_11 : (List Nat)) (i_10 : Int) (n_1 : Int) (x_17 : Nat) : Option ((Int × (List Nat)) ⊕ (((List Nat)))) :=
 ck (((out_11.length) + (1 : Nat)) * 4 ≤ 140737488355328) (ck (I64 (i_10 + (1 : Int))) (some (.inl ((i_10 + (1 : Int)), (out_11 ++ ([((x_17 / (2 ^ (((Int.tmod n_1 (16 : Int)) % (18446744073709551616 : Int)).toNat))) &&& (65535 : Nat))] : List Nat))))))
noncomputable def nY (a_0 : (List Nat)) (n_1 : Int) (i_10 : Int) (out_11 : (List Nat)) : Option ((Int × (List Nat)) ⊕ (((List Nat)))) :=
 if i_10 < (a_0.length : Int) then ck (0 ≤ i_10 ∧ i_10 < (a_0.length : Int)) (ck (I64 (i_10 + (1 : Int))) (if (i_10 + (1 : Int)) < (a_0.length : Int) then ck (I64 (i_10 + (1 : Int))) (ck (0 ≤ (i_10 + (1 : Int)) ∧ (i_10 + (1 : Int)) < (a_0.length : Int)) (qL out_11 i_10 n_1 ((a_0.getD (i_10.toNat) (0 : Nat)) ||| (((a_0.getD ((i_10 + (1 : Int)).toNat) (0 : Nat)) * (65536 : Nat)) % 4294967296)))) else qL out_11 i_10 n_1 (a_0.getD (i_10.toNat) (0 : Nat)))) else some (.inr out_11)
noncomputable def tJ (a_0 : (List Nat)) (n_1 : Int) : Option (List Nat) :=
 ck (I64 (Int.tdiv n_1 (16 : Int))) (if (a_0.length : Int) ≤ (Int.tdiv n_1 (16 : Int)) then some ([] : List Nat) else ck (I64 (Int.tdiv n_1 (16 : Int))) ((bO (fun d : Int × (List Nat) => nY a_0 n_1 d.1 d.2) ((Int.tdiv n_1 (16 : Int)), ([] : List Nat))).bind (fun e => (gU e).bind (fun v_21 => some v_21))))
def aHW : PlR := ⟨[(0, .A [0, 1]), (1, .A [0, 1, 12]), (2, .A [4]), (3, .A [0, 1, 5]), (4, .A [0, 1, 5, 6]), (5, .A [0, 1, 5, 6, 18]), (6, .A [0, 1, 5, 6]), (7, .A [0, 1, 5, 6, 7]), (8, .A [0, 1, 5, 6, 7, 29]), (9, .A [0, 1, 5, 6, 7]), (10, .B [0, 1, 5, 6]), (11, .B [4])], [(11, 13)]⟩
def aLB : Ty := .pair (.sl (.u .u32)) (.pair (.i .i64) .unit)
noncomputable def aAU : aI := mSpec aLB (.one (.sl (.u .u32))) (fun x => tJ x.1 x.2.1)
noncomputable def aLC : List (FuncId × aI) := [(173, dH)]
theorem aR5 : bF Tryz.prog GL aLC := .cons pR (by kernel_rfl) (.nil)
theorem aLD : gam aLC 173 = some dH := rfl
attribute [go_sem] aLB aHW aLD
set_option maxHeartbeats 4000000 in
theorem aQN : FOK Tryz.prog GL 110 aAU := by
 refine bD (bE aR5) mix Tryz.func110 rfl (by kernel_rfl) (by decide) aHW fun w0 S x Θ hw h hF => ?_
 obtain ⟨(a_0 : (List Nat)), (n_1 : Int), u⟩ := x
 simp only [bH, go_sem]
 replace h : sat (tJ a_0 n_1) _ := h
 unfold tJ at h
 refine aH h fun g0 h => ?_
 refine aBW h (fun hc h => ?_) fun hc h => ?_
 ·exact aG hF [.tmp 4] rfl rfl rfl (aA h) (by simp only [aV, go_sem])
 ·refine aH h fun g0 h => ?_
  refine zY 5 146 (.u .u32) rfl ?_
  simp only [go_sem]
  refine bC hF (D := Int × (List Nat)) [0, 1] (fun d => [(5, .own 0), (6, .val (.i .i64) d.1)]) (fun d => [.inr (.row 146 (.u .u32) d.2)]) h rfl (by simp only [go_sem]) ?_
  rintro ⟨i_10, out_11⟩ A5 T5 hA5 hE5 h
  simp only [go_sem]
  replace h : sat (nY a_0 n_1 i_10 out_11) _ := h
  unfold nY at h
  refine bW h (fun hc h => ?_) fun hc h => ?_
  ·obtain ⟨g0, h⟩ := aJ h
   repeat (refine ⟨by omega, ?_⟩)
   refine cO hF (D := Nat) (fun d => sat (qL out_11 i_10 n_1 d) T5) [0, 1, 6] (fun d => [(5, .own 0), (7, .val (.u .u32) d)]) (fun d => [.inr (.row 146 (.u .u32) out_11)]) ?_ ?_
   ·simp only [go_sem]
    refine aH h fun g0 h => ?_
    refine bW h (fun hc h => ?_) fun hc h => ?_
    ·obtain ⟨g0, h⟩ := aJ h
     obtain ⟨g1, h⟩ := aJ h
     repeat (refine ⟨by omega, ?_⟩)
     exact aP (((a_0.getD (i_10.toNat) (0 : Nat)) ||| (((a_0.getD ((i_10 + (1 : Int)).toNat) (0 : Nat)) * (65536 : Nat)) % 4294967296))) h rfl (by simp only [go_sem])
    ·exact aP ((a_0.getD (i_10.toNat) (0 : Nat))) h rfl (by simp only [go_sem])
   ·rintro x_17 h
    simp only [go_sem]
    replace h : sat (qL out_11 i_10 n_1 x_17) _ := h
    unfold qL at h
    obtain ⟨g0, h⟩ := aJ h
    repeat (refine ⟨by omega, ?_⟩)
    refine aH h fun g0 h => ?_
    replace h := hA5 _ (aA h)
    refine nE [1] rfl rfl ?_
    simp only [go_sem]
    exact aP _ h rfl (by simp only [go_sem])
  ·replace h := hE5 _ (aA h)
   try dsimp only at h
   obtain ⟨v_19, hv, h⟩ := aQ h
   try simp only [hv, go_sem]
   exact aG hF [.tmp 4] rfl rfl rfl (aA h) (by simp only [aV, go_sem])
attribute [go_sem] aAU
noncomputable def wS (a_0 : (List Nat)) : Option Bool :=
 ck ((((a_0.length : Int) ≤ (64 : Int)) → ¬ ((a_0.length : Int) = (0 : Int)) → (I64 ((a_0.length : Int) - (1 : Int))))) (ck ((((a_0.length : Int) ≤ (64 : Int)) → ¬ ((a_0.length : Int) = (0 : Int)) → (0 ≤ ((a_0.length : Int) - (1 : Int)) ∧ ((a_0.length : Int) - (1 : Int)) < (a_0.length : Int)))) (some ((decide ((a_0.length : Int) ≤ (64 : Int))) && ((decide ((a_0.length : Int) = (0 : Int))) || (!(decide ((a_0.getD (((a_0.length : Int) - (1 : Int)).toNat) (0 : Nat)) = (0 : Nat))))))))
def aHX : PlR := ⟨[(0, .A [0]), (1, .A [2])], []⟩
def aLE : Ty := .pair (.sl (.u .u64)) .unit
noncomputable def aAV : aI := mSpec aLE (.one .bool) (fun x => wS x.1)
noncomputable def aR6 : List (FuncId × aI) := []
theorem aR7 : bF Tryz.prog GL aR6 := .nil
attribute [go_sem] aLE aHX
set_option maxHeartbeats 4000000 in
theorem aQO : FOK Tryz.prog GL 172 aAV := by
 refine bD (bE aR7) mix Tryz.func172 rfl (by kernel_rfl) (by decide) aHX fun w0 S x Θ hw h hF => ?_
 obtain ⟨(a_0 : (List Nat)), u⟩ := x
 simp only [bH, go_sem]
 replace h : sat (wS a_0) _ := h
 unfold wS at h
 obtain ⟨g0, h⟩ := aJ h
 obtain ⟨g1, h⟩ := aJ h
 try simp only [I64, I32] at g0
 repeat (refine ⟨by first | with_reducible assumption | omega | (intros; first | assumption | omega) | (simp only [go_sem] at *; first | assumption | omega) | (intro q0 q1; (try have e0 := g0 (by first | exact q0 | omega | (simpa using q0)) (by first | exact q1 | omega | (simpa using q1))); (try have e1 := g1 (by first | exact q0 | omega | (simpa using q0)) (by first | exact q1 | omega | (simpa using q1))); first | assumption | omega) | (rintro ⟨q0, q1⟩; (try have e0 := g0 (by first | exact q0 | omega | (simpa using q0)) (by first | exact q1 | omega | (simpa using q1))); (try have e1 := g1 (by first | exact q0 | omega | (simpa using q0)) (by first | exact q1 | omega | (simpa using q1))); first | assumption | omega) | decide, ?_⟩)
 exact aG hF [.tmp 2] rfl rfl rfl (aA h) (by simp only [aV, go_sem])
attribute [go_sem] aAV
noncomputable def bY (d_0 : qD0) : Option Bool :=
 (wS ((d_0.2).1)).bind (fun v_7 => if ((¬ (v_7 = true)) ∨ ((((d_0.2).2).1) < (-1048576 : Int))) ∨ ((1048576 : Int) < (((d_0.2).2).1)) then some false else if (((d_0.2).1).length : Int) = (0 : Int) then some ((!(d_0.1)) && (decide ((((d_0.2).2).1) = (0 : Int)))) else ck ((0 : Int) < (((d_0.2).1).length : Int)) (some (decide (((((d_0.2).1).getD (0 : Nat) (0 : Nat)) &&& (1 : Nat)) = (1 : Nat)))))
def aCp : PlR := ⟨[(0, .B [1]), (1, .A [1, 16]), (2, .A [2]), (3, .A [1, 20]), (4, .A [2]), (5, .A [2])], []⟩
def aDH : Ty := .pair (.pair .bool (.pair (.sl (.u .u64)) (.pair (.i .i64) .unit))) .unit
noncomputable def cU : aI := mSpec aDH (.one .bool) (fun x => bY x.1)
noncomputable def aDI : List (FuncId × aI) := [(172, aAV)]
theorem aLF : bF Tryz.prog GL aDI := .cons aQO (by kernel_rfl) (.nil)
theorem aET : gam aDI 172 = some aAV := rfl
attribute [go_sem] aDH aCp aET
set_option maxHeartbeats 4000000 in
theorem mG : FOK Tryz.prog GL 103 cU := by
 refine bD (bE aLF) mix Tryz.func103 rfl (by kernel_rfl) (by decide) aCp fun w0 S x Θ hw h hF => ?_
 obtain ⟨(d_0 : qD0), u⟩ := x
 simp only [bH, go_sem]
 replace h : sat (bY d_0) _ := h
 unfold bY at h
 obtain ⟨v_7, hv, h⟩ := aQ h
 try simp only [hv, go_sem]
 refine ⟨fun hc => ?_, fun hc => ?_⟩
 ·replace h := fU (by first | exact hc | omega | (simpa using hc) | (simp at hc ⊢; omega)) h
  exact aG hF [.tmp 2] rfl rfl rfl (aA h) (by simp only [aV, go_sem])
 ·replace h := fV (by first | exact hc | omega | (simpa using hc) | (simp at hc ⊢; omega)) h
  refine cX h (fun hc h => ?_) fun hc h => ?_
  ·exact aG hF [.tmp 2] rfl rfl rfl (aA h) (by simp only [aV, go_sem])
  ·refine aH h fun g0 h => ?_
   exact aG hF [.tmp 2] rfl rfl rfl (aA h) (by simp only [aV, go_sem])
attribute [go_sem] cU
noncomputable def gP (s_16 : (List Nat)) (v_26 : ((List Nat) × ((List Nat) × Unit))) (n_27 : Nat) : Option (((List Nat) × (List Nat)) ⊕ (((List Nat)))) :=
 ck (0 ≤ ((n_27 : Nat) : Int) ∧ ((n_27 : Nat) : Int) ≤ ((((n_27 + (1 : Nat)) % 4294967296) : Nat) : Int) ∧ ((((n_27 + (1 : Nat)) % 4294967296) : Nat) : Int) ≤ ((((aN ⟨#[48, 49, 50, 51, 52, 53, 54, 55, 56, 57]⟩).length) : Nat) : Int)) (ck (((List.drop n_27 (List.take ((n_27 + (1 : Nat)) % 4294967296) (aN ⟨#[48, 49, 50, 51, 52, 53, 54, 55, 56, 57]⟩))).length) + (s_16.length) ≤ 9223372036854775807) (some (.inl ((v_26.1), ((List.drop n_27 (List.take ((n_27 + (1 : Nat)) % 4294967296) (aN ⟨#[48, 49, 50, 51, 52, 53, 54, 55, 56, 57]⟩))) ++ s_16)))))
noncomputable def gQ (a_15 : (List Nat)) (s_16 : (List Nat)) : Option (((List Nat) × (List Nat)) ⊕ (((List Nat)))) :=
 if (0 : Int) < (a_15.length : Int) then (wR a_15 ([10] : List Nat)).bind (fun v_26 => if (0 : Int) < (((v_26.2).1).length : Int) then ck ((0 : Int) < (((v_26.2).1).length : Int)) (gP s_16 v_26 (((v_26.2).1).getD (0 : Nat) (0 : Nat))) else gP s_16 v_26 (0 : Nat)) else some (.inr s_16)
noncomputable def oJ (a_0 : (List Nat)) : Option (List Nat) :=
 (bO (fun d : (List Nat) × (List Nat) => gQ d.1 d.2) (a_0, (aN ⟨#[]⟩))).bind (fun e => some e)
def aCq : PlR := ⟨[(0, .A [0]), (1, .A [0, 3]), (2, .A [0, 3, 9]), (3, .A [3, 4, 5]), (4, .A [3, 4, 5, 6]), (5, .A [3, 4, 5, 6, 18]), (6, .A [3, 4, 6]), (7, .A [3, 4]), (8, .A [0, 3]), (9, .A [2])], [(8, 10)]⟩
def aDJ : Ty := .pair (.sl (.u .u32)) .unit
noncomputable def sZ : aI := mSpec aDJ (.one .str) (fun x => oJ x.1)
noncomputable def aDK : List (FuncId × aI) := [(174, aAT)]
theorem aLG : bF Tryz.prog GL aDK := .cons aQM (by kernel_rfl) (.nil)
theorem aEU : gam aDK 174 = some aAT := rfl
attribute [go_sem] aDJ aCq aEU
set_option maxHeartbeats 4000000 in
theorem aIP : FOK Tryz.prog GL 113 sZ := by
 refine bD (bE aLG) mix Tryz.func113 rfl (by kernel_rfl) (by decide) aCq fun w0 S x Θ hw h hF => ?_
 obtain ⟨(a_0 : (List Nat)), u⟩ := x
 simp only [bH, go_sem]
 replace h : sat (oJ a_0) _ := h
 unfold oJ at h
 refine bC hF (D := (List Nat) × (List Nat)) [] (fun d => [(0, .val (.sl (.u .u32)) d.1), (3, .val .str d.2)]) (fun d => []) h rfl (by simp only [go_sem]) ?_
 rintro ⟨a_15, s_16⟩ A2 T2 hA2 hE2 h
 simp only [go_sem]
 replace h : sat (gQ a_15 s_16) _ := h
 unfold gQ at h
 refine bW h (fun hc h => ?_) fun hc h => ?_
 ·obtain ⟨v_26, hv, h⟩ := aQ h
  try simp only [hv, go_sem]
  refine cO hF (D := Nat) (fun d => sat (gP s_16 v_26 d) T2) [3, 4] (fun d => [(6, .val (.u .u32) d)]) (fun d => []) ?_ ?_
  ·simp only [go_sem]
   refine bW h (fun hc h => ?_) fun hc h => ?_
   ·refine aH h fun g0 h => ?_
    exact aP ((((v_26.2).1).getD (0 : Nat) (0 : Nat))) h rfl (by simp only [go_sem])
   ·exact aP ((0 : Nat)) h rfl (by simp only [go_sem])
  ·rintro n_27 h
   simp only [go_sem]
   replace h : sat (gP s_16 v_26 n_27) _ := h
   unfold gP at h
   refine aH h fun g0 h => aH h fun g1 h => ?_
   replace h := hA2 _ (aA h)
   exact aP _ h rfl (by simp only [go_sem])
 ·replace h := hE2 _ (aA h)
  try dsimp only at h
  exact aG hF [.tmp 2] rfl rfl rfl (aA h) (by simp only [aV, go_sem])
attribute [go_sem] sZ
noncomputable def lP (d_0 : qD0) (m_29 : (List Nat)) (s_37 : (List Nat)) : Option (((List Nat) × (Int × Unit))) :=
 if ((d_0.1) = true) ∧ ((0 : Int) < (m_29.length : Int)) then ck (((aN ⟨#[45]⟩).length) + (s_37.length) ≤ 9223372036854775807) (some (((aN ⟨#[45]⟩) ++ s_37), (0 : Int), ())) else some (s_37, (0 : Int), ())
noncomputable def rK (digits_1 : Int) (d_0 : qD0) (m_29 : (List Nat)) (s_36 : (List Nat)) : Option (((List Nat) × (Int × Unit))) :=
 if (0 : Int) < digits_1 then ck (I64 ((s_36.length : Int) - digits_1)) (ck (0 ≤ ((s_36.length : Int) - digits_1) ∧ ((s_36.length : Int) - digits_1) ≤ (s_36.length : Int)) (ck (((List.take (((s_36.length : Int) - digits_1).toNat) s_36).length) + ((aN ⟨#[46]⟩).length) ≤ 9223372036854775807) (ck (I64 ((s_36.length : Int) - digits_1)) (ck (0 ≤ ((s_36.length : Int) - digits_1) ∧ ((s_36.length : Int) - digits_1) ≤ (s_36.length : Int)) (ck ((((List.take (((s_36.length : Int) - digits_1).toNat) s_36) ++ (aN ⟨#[46]⟩)).length) + ((List.drop (((s_36.length : Int) - digits_1).toNat) s_36).length) ≤ 9223372036854775807) (lP d_0 m_29 (((List.take (((s_36.length : Int) - digits_1).toNat) s_36) ++ (aN ⟨#[46]⟩)) ++ (List.drop (((s_36.length : Int) - digits_1).toNat) s_36)))))))) else lP d_0 m_29 s_36
noncomputable def gV (digits_1 : Int) (s_38 : (List Nat)) : Option (((List Nat)) ⊕ (((List Nat)))) :=
 ck (I64 (digits_1 + (1 : Int))) (if (s_38.length : Int) < (digits_1 + (1 : Int)) then ck (((aN ⟨#[48]⟩).length) + (s_38.length) ≤ 9223372036854775807) (some (.inl ((aN ⟨#[48]⟩) ++ s_38))) else some (.inr s_38))
noncomputable def iV (digits_1 : Int) (d_0 : qD0) (m_29 : (List Nat)) : Option (((List Nat) × (Int × Unit))) :=
 (oJ m_29).bind (fun v_33 => (bO (fun d : (List Nat) => gV digits_1 d) v_33).bind (fun e => rK digits_1 d_0 m_29 e))
noncomputable def mW (d_0 : qD0) (digits_1 : Int) (up_2 : Bool) : Option ((List Nat) × (Int × Unit)) :=
 (bY d_0).bind (fun v_9 => if ((¬ (v_9 = true)) ∨ (digits_1 < (0 : Int))) ∨ ((60 : Int) < digits_1) then some ((aN ⟨#[]⟩), (1 : Int), ()) else if ((2000 : Int) < (((d_0.2).2).1)) ∨ ((((d_0.2).2).1) < (-2000 : Int)) then some ((aN ⟨#[]⟩), (2 : Int), ()) else (rH ((d_0.2).1)).bind (fun v_19 => (wP digits_1).bind (fun v_20 => (pS v_19 v_20).bind (fun v_21 => if (0 : Int) ≤ (((d_0.2).2).1) then (iD v_21 (((d_0.2).2).1)).bind (fun v_42 => iV digits_1 d_0 v_42) else ck (I64 (0 - (((d_0.2).2).1))) ((tJ v_21 (0 - (((d_0.2).2).1))).bind (fun v_46 => ck ((((up_2 != (d_0.1)) = true) → (I64 (0 - (((d_0.2).2).1))))) (ck ((((up_2 != (d_0.1)) = true) → (((iD v_46 (0 - (((d_0.2).2).1))).isSome = true)))) (ck ((((up_2 != (d_0.1)) = true) → (((nT ((iD v_46 (0 - (((d_0.2).2).1))).getD ([] : List Nat)) v_21).isSome = true)))) (if ((up_2 != (d_0.1)) = true) ∧ (¬ (((nT ((iD v_46 (0 - (((d_0.2).2).1))).getD ([] : List Nat)) v_21).getD (0 : Int)) = (0 : Int))) then (rI v_46 ([1] : List Nat)).bind (fun v_50 => iV digits_1 d_0 v_50) else iV digits_1 d_0 v_46)))))))))
def aFT : PlR := ⟨[(0, .B [1, 2, 3]), (1, .A [1, 2, 3, 21]), (2, .A [6, 7]), (3, .A [1, 2, 3, 29]), (4, .A [6, 7]), (5, .A [1, 2, 3, 8]), (6, .A [1, 2, 3, 8, 38]), (7, .A [1, 3, 8]), (8, .A [1, 2, 3, 8, 9]), (9, .A [1, 3, 9, 61]), (10, .A [1, 3, 9]), (11, .A [1, 3, 8]), (12, .A [1, 3, 8, 10]), (13, .A [1, 3, 8, 10, 72]), (14, .A [1, 3, 8, 10]), (15, .A [1, 3, 8, 10, 76]), (16, .A [3, 8, 10]), (17, .A [10, 97]), (18, .A [10]), (19, .A [6, 7])], [(9, 15), (16, 18), (18, 20)]⟩
def aHY : Ty := .pair (.pair .bool (.pair (.sl (.u .u64)) (.pair (.i .i64) .unit))) (.pair (.i .i64) (.pair .bool .unit))
noncomputable def sC : aI := mSpec aHY (.tup (.pair .str (.pair (.i .i64) .unit))) (fun x => mW x.1 x.2.1 x.2.2.1)
noncomputable def kI : List (FuncId × aI) := [(103, cU), (106, tY), (107, sA), (108, aAQ), (109, pF), (110, aAU), (111, pG), (112, tZ), (113, sZ)]
theorem aQP : bF Tryz.prog GL kI := .cons mG (by kernel_rfl) (.cons aHK (by kernel_rfl) (.cons aFQ (by kernel_rfl) (.cons aQH (by kernel_rfl) (.cons aDF (by kernel_rfl) (.cons aQN (by kernel_rfl) (.cons aDG (by kernel_rfl) (.cons aHO (by kernel_rfl) (.cons aIP (by kernel_rfl) (.nil)))))))))
theorem aIQ : gam kI 103 = some cU := rfl
theorem aIR : gam kI 106 = some tY := rfl
theorem aIS : gam kI 107 = some sA := rfl
theorem aIT : gam kI 108 = some aAQ := rfl
theorem aIU : gam kI 109 = some pF := rfl
theorem aIV : gam kI 110 = some aAU := rfl
theorem aIW : gam kI 111 = some pG := rfl
theorem aIX : gam kI 112 = some tZ := rfl
theorem aIY : gam kI 113 = some sZ := rfl
attribute [go_sem] aHY aFT aIQ aIR aIS aIT aIU aIV aIW aIX aIY
set_option maxHeartbeats 4000000 in
theorem aFU : FOK Tryz.prog GL 48 sC := by
 refine bD (bE aQP) mix Tryz.func48 rfl (by kernel_rfl) (by decide) aFT fun w0 S x Θ hw h hF => ?_
 obtain ⟨(d_0 : qD0), (digits_1 : Int), (up_2 : Bool), u⟩ := x
 simp only [bH, go_sem]
 replace h : sat (mW d_0 digits_1 up_2) _ := h
 unfold mW at h
 obtain ⟨v_9, hv, h⟩ := aQ h
 try simp only [hv, go_sem]
 refine ⟨fun hc => ?_, fun hc => ?_⟩
 ·replace h := fU (by first | exact hc | omega | (simpa using hc) | (simp at hc ⊢; omega)) h
  exact aG hF [.tmp 6, .tmp 7] rfl rfl rfl (aA h) (by simp only [aV, go_sem])
 ·replace h := fV (by first | exact hc | omega | (simpa using hc) | (simp at hc ⊢; omega)) h
  refine ⟨fun hc => ?_, fun hc => ?_⟩
  ·replace h := fU hc h
   exact aG hF [.tmp 6, .tmp 7] rfl rfl rfl (aA h) (by simp only [aV, go_sem])
  ·replace h := fV hc h
   obtain ⟨v_19, hv, h⟩ := aQ h
   try simp only [hv, go_sem]
   obtain ⟨v_20, hv, h⟩ := aQ h
   try simp only [hv, go_sem]
   obtain ⟨v_21, hv, h⟩ := aQ h
   try simp only [hv, go_sem]
   refine cO hF (D := (List Nat)) (fun d => sat (iV digits_1 d_0 d) Θ) [1] (fun d => [(3, .ptr 0 []), (8, .val (.sl (.u .u32)) d)]) (fun d => [.inr (.box 3 (.val (.pair .bool (.pair (.sl (.u .u64)) (.pair (.i .i64) .unit))) d_0))]) ?_ ?_
   ·simp only [go_sem]
    refine aBW h (fun hc h => ?_) fun hc h => ?_
    ·obtain ⟨v_42, hv, h⟩ := aQ h
     try simp only [hv, go_sem]
     exact aP (v_42) h rfl (by simp only [go_sem])
    ·refine aH h fun g0 h => ?_
     obtain ⟨v_46, hv, h⟩ := aQ h
     try simp only [hv, go_sem]
     refine aH h fun g0 h => aH h fun g1 h => aH h fun g2 h => ?_
     refine ⟨fun hc => ?_, fun hc => ?_⟩
     ·replace h := fU hc h
      obtain ⟨v_50, hv, h⟩ := aQ h
      try simp only [hv, go_sem]
      exact aP (v_50) h rfl (by simp only [go_sem])
     ·replace h := fV hc h
      exact aP (v_46) h rfl (by simp only [go_sem])
   ·rintro m_29 h
    simp only [go_sem]
    replace h : sat (iV digits_1 d_0 m_29) _ := h
    unfold iV at h
    obtain ⟨v_33, hv, h⟩ := aQ h
    try simp only [hv, go_sem]
    refine cO hF (D := (List Nat)) (fun d => sat (rK digits_1 d_0 m_29 d) Θ) [1, 8] (fun d => [(3, .ptr 0 []), (10, .val .str d)]) (fun d => [.inr (.box 3 (.val (.pair .bool (.pair (.sl (.u .u64)) (.pair (.i .i64) .unit))) d_0))]) ?_ ?_
    ·simp only [go_sem]
     refine bC hF (D := (List Nat)) [1, 8] (fun d => [(3, .ptr 0 []), (10, .val .str d)]) (fun d => [.inr (.box 3 (.val (.pair .bool (.pair (.sl (.u .u64)) (.pair (.i .i64) .unit))) d_0))]) h rfl (by simp only [go_sem]) ?_
     rintro s_38 A13 T13 hA13 hE13 h
     simp only [go_sem]
     replace h : sat (gV digits_1 s_38) _ := h
     unfold gV at h
     refine aH h fun g0 h => ?_
     refine bW h (fun hc h => ?_) fun hc h => ?_
     ·refine aH h fun g0 h => ?_
      replace h := hA13 _ (aA h)
      exact aP _ h rfl (by simp only [go_sem])
     ·replace h := hE13 _ (aA h)
      try dsimp only at h
      exact aP (s_38) h rfl (by simp only [go_sem])
    ·rintro s_36 h
     simp only [go_sem]
     replace h : sat (rK digits_1 d_0 m_29 s_36) _ := h
     unfold rK at h
     refine cO hF (D := (List Nat)) (fun d => sat (lP d_0 m_29 d) Θ) [8] (fun d => [(3, .ptr 0 []), (10, .val .str d)]) (fun d => [.inr (.box 3 (.val (.pair .bool (.pair (.sl (.u .u64)) (.pair (.i .i64) .unit))) d_0))]) ?_ ?_
     ·simp only [go_sem]
      refine bW h (fun hc h => ?_) fun hc h => ?_
      ·refine aH h fun g0 h => aH h fun g1 h => aH h fun g2 h => aH h fun g3 h => aH h fun g4 h => aH h fun g5 h => ?_
       exact aP ((((List.take (((s_36.length : Int) - digits_1).toNat) s_36) ++ (aN ⟨#[46]⟩)) ++ (List.drop (((s_36.length : Int) - digits_1).toNat) s_36))) h rfl (by simp only [go_sem])
      ·exact aP (s_36) h rfl (by simp only [go_sem])
     ·rintro s_37 h
      simp only [go_sem]
      replace h : sat (lP d_0 m_29 s_37) _ := h
      unfold lP at h
      refine ⟨fun hc => ?_, fun hc => ?_⟩
      ·replace h := fU hc h
       refine aH h fun g0 h => ?_
       exact aG hF [.tmp 6, .tmp 7] rfl rfl rfl (aA h) (by simp only [aV, go_sem])
      ·replace h := fV hc h
       exact aG hF [.tmp 6, .tmp 7] rfl rfl rfl (aA h) (by simp only [aV, go_sem])
attribute [go_sem] sC
end Nu
end Go.Proofs
namespace Go.Proofs
open Go.Vc
set_option maxRecDepth 20000
namespace Nu
def hv : List Nat → Nat
 | [] => 0
 | x :: r => x + 65536 * hv r
def hb (n : Nat) : List Nat := if h : n = 0 then [] else n % 65536 :: hb (n / 65536)
termination_by n
decreasing_by exact Nat.div_lt_self (by omega) (by decide)
def Hm (a : List Nat) : Prop := ∀ x ∈ a, x < 65536
theorem aOT : hv [] = 0 := rfl
theorem qW (x : Nat) (r : List Nat) : hv (x :: r) = x + 65536 * hv r := rfl
theorem oC : hb 0 = [] := by rw [hb]; simp
theorem aEV {n : Nat} (h : n ≠ 0) : hb n = n % 65536 :: hb (n / 65536) := by rw [hb, dif_neg h]
theorem sT (n : Nat) : hv (hb n) = n := by
 induction n using Nat.strongRecOn with
 | _ n ih =>
  by_cases h : n = 0
  ·subst h; rw [oC]; rfl
  ·rw [aEV h, qW, ih (n / 65536) (Nat.div_lt_self (by omega) (by decide))]
   exact Nat.mod_add_div n 65536
theorem yJ (n : Nat) : Hm (hb n) := by
 induction n using Nat.strongRecOn with
 | _ n ih =>
  by_cases h : n = 0
  ·subst h; rw [oC]; intro x hx; cases hx
  ·rw [aEV h]
   intro x hx
   rcases List.mem_cons.1 hx with rfl | hx
   ·exact Nat.mod_lt _ (by decide)
   ·exact ih (n / 65536) (Nat.div_lt_self (by omega) (by decide)) x hx
theorem aR8 {n : Nat} : hb n = [] ↔ n = 0 := by
 constructor
 ·intro h
  rcases Nat.eq_zero_or_pos n with h0 | h0
  ·exact h0
  ·rw [aEV (by omega)] at h; cases h
 ·rintro rfl; exact oC
theorem aLH (n : Nat) : Nrm (hb n) := by
 induction n using Nat.strongRecOn with
 | _ n ih =>
  by_cases h : n = 0
  ·subst h; rw [oC]; exact aOd
  ·rw [aEV h]
   refine aPU (ih _ (Nat.div_lt_self (by omega) (by decide))) fun e => ?_
   have := aR8.1 e
   intro h0
   have := Nat.div_add_mod n 65536
   omega
theorem aTp {x : Nat} {r : List Nat} (h : Hm (x :: r)) : x < 65536 ∧ Hm r := ⟨h x (by simp), fun y hy => h y (by simp [hy])⟩
theorem aGX {a b : List Nat} (ha : Hm a) (hb : Hm b) : Hm (a ++ b) := fun x hx => (List.mem_append.1 hx).elim (ha x) (hb x)
theorem aNB {a : List Nat} (h : Nrm a) (hne : a ≠ []) : 0 < hv a := by
  induction a with
  | nil => exact absurd rfl hne
  | cons x r ih =>
    rw [qW]
    cases r with
    | nil => have : x ≠ 0 := by simpa [Nrm] using h
             rw [aOT]; omega
    | cons y r =>
      have := ih (aBo h) (by simp)
      have : 65536 * 1 ≤ 65536 * hv (y :: r) := Nat.mul_le_mul_left _ this
      omega
theorem aZK {a : List Nat} (hl : Hm a) (hn : Nrm a) : hb (hv a) = a := by
 induction a with
 | nil => rw [aOT, oC]
 | cons x r ih =>
  have hx := aTp hl
  have hpos : hv (x :: r) ≠ 0 := by have := aNB hn (by simp); omega
  have h1 : hv (x :: r) % 65536 = x := by rw [qW, Nat.add_mul_mod_self_left]; exact Nat.mod_eq_of_lt hx.1
  have h2 : hv (x :: r) / 65536 = hv r := by rw [qW, Nat.add_mul_div_left _ _ (by decide), Nat.div_eq_of_lt hx.1, Nat.zero_add]
  rw [aEV hpos, h1, h2]
  cases r with
  | nil => rw [aOT, oC]
  | cons y r => rw [ih hx.2 (aBo hn)]
theorem aLI (a b : List Nat) : hv (a ++ b) = hv a + 65536 ^ a.length * hv b := by
 induction a with
 | nil => simp [hv]
 | cons x r ih =>
  rw [List.cons_append, qW, qW, ih, List.length_cons, Nat.pow_succ, Nat.mul_add]
  have : 65536 * (65536 ^ r.length * hv b) = 65536 ^ r.length * 65536 * hv b := by rw [← Nat.mul_assoc, Nat.mul_comm 65536]
  omega
theorem xX {a : List Nat} (hl : Hm a) : hv a < 65536 ^ a.length := by
 induction a with
 | nil => simp [hv]
 | cons x r ih =>
  have hx := aTp hl
  have := ih hx.2
  rw [qW, List.length_cons, Nat.pow_succ]
  have h2 : 65536 * (hv r + 1) ≤ 65536 * 65536 ^ r.length := Nat.mul_le_mul_left _ this
  rw [Nat.mul_add] at h2
  rw [Nat.mul_comm (65536 ^ r.length)]
  omega
theorem aYA {a : List Nat} (hn : Nrm a) (hne : a ≠ []) : 65536 ^ (a.length - 1) ≤ hv a := by
 induction a with
 | nil => exact absurd rfl hne
 | cons x r ih =>
  cases r with
  | nil => have := aNB hn hne; simp only [List.length_cons, List.length_nil, Nat.zero_add, Nat.sub_self, Nat.pow_zero]; omega
  | cons y r =>
   have := ih (aBo hn) (by simp)
   rw [qW]
   simp only [List.length_cons, Nat.add_sub_cancel] at this ⊢
   rw [Nat.pow_succ, Nat.mul_comm]
   have := Nat.mul_le_mul_left 65536 this
   omega
theorem aLJ {n k : Nat} : (hb n).length ≤ k ↔ n < 65536 ^ k := by
 constructor
 ·intro h
  have := xX (yJ n)
  rw [sT] at this
  exact Nat.lt_of_lt_of_le this (Nat.pow_le_pow_right (by decide) h)
 ·intro h
  by_cases h0 : n = 0
  ·subst h0; rw [oC]; exact Nat.zero_le _
  ·have hne : hb n ≠ [] := fun e => h0 (aR8.1 e)
   have := aYA (aLH n) hne
   rw [sT] at this
   have hlt : 65536 ^ ((hb n).length - 1) < 65536 ^ k := Nat.lt_of_le_of_lt this h
   have := (Nat.pow_lt_pow_iff_right (by decide)).1 hlt
   omega
theorem aR9 (n : Nat) : hv (List.replicate n 0) = 0 := by
 induction n with
 | zero => rfl
 | succ n ih => rw [List.replicate_succ, qW, ih]
theorem aOU (a : List Nat) (k : Nat) : hv a = hv (a.take k) + 65536 ^ (min k a.length) * hv (a.drop k) := by
 have := aLI (a.take k) (a.drop k)
 rw [List.take_append_drop, List.length_take] at this
 exact this
theorem aDX {a : List Nat} (h : Hm a) (k : Nat) : Hm (a.take k) := fun x hx => h x (List.mem_of_mem_take hx)
theorem aTq {a : List Nat} (h : Hm a) (k : Nat) : hv (a.drop k) = hv a / 65536 ^ k := by
 rcases Nat.lt_or_ge k a.length with hk | hk
 ·rw [aOU a k, Nat.min_eq_left (Nat.le_of_lt hk), Nat.add_mul_div_left _ _ (Nat.pow_pos (by decide)), Nat.div_eq_of_lt, Nat.zero_add]
  have := xX (aDX h k)
  rw [List.length_take, Nat.min_eq_left (Nat.le_of_lt hk)] at this
  exact this
 ·rw [List.drop_eq_nil_of_le hk, aOT, Nat.div_eq_of_lt]
  exact Nat.lt_of_lt_of_le (xX h) (Nat.pow_le_pow_right (by decide) hk)
theorem iW {a : List Nat} (h : Hm a) (i : Nat) : a.getD i 0 < 65536 := by
 rw [List.getD_eq_getElem?_getD]
 cases e : a[i]? with
 | none => exact (by decide : (0 : Nat) < 65536)
 | some x => exact h x (List.mem_of_getElem? e)
theorem sD {a : List Nat} {k : Nat} (h : k < a.length) : hv (a.take (k + 1)) = hv (a.take k) + 65536 ^ k * a.getD k 0 := by
 rw [take_succ h, aLI, List.length_take, Nat.min_eq_left (Nat.le_of_lt h)]
 simp [hv]
theorem aSa {a : List Nat} {k v : Nat} (h : k < a.length) : hv (a.set k v) + 65536 ^ k * a.getD k 0 = hv a + 65536 ^ k * v := by
 induction a generalizing k with
 | nil => simp at h
 | cons x r ih =>
  cases k with
  | zero => simp [hv]; omega
  | succ k =>
   have := ih (k := k) (by simpa using h)
   simp only [List.set_cons_succ, qW, List.getD_cons_succ, Nat.pow_succ]
   have h1 : 65536 ^ k * 65536 * r.getD k 0 = 65536 * (65536 ^ k * r.getD k 0) := by rw [Nat.mul_comm (65536 ^ k) 65536, Nat.mul_assoc]
   have h2 : 65536 ^ k * 65536 * v = 65536 * (65536 ^ k * v) := by rw [Nat.mul_comm (65536 ^ k) 65536, Nat.mul_assoc]
   rw [h1, h2]
   have := congrArg (65536 * ·) this
   simp only [Nat.mul_add] at this
   omega
theorem aSb {a : List Nat} (h : Hm a) (k : Nat) {v : Nat} (hv : v < 65536) : Hm (a.set k v) := fun x hx => by
 rcases List.mem_or_eq_of_mem_set hx with hx | rfl
 ·exact h x hx
 ·exact hv
theorem aSc (n : Nat) : Hm (List.replicate n 0) := fun x hx => by
 rw [List.eq_of_mem_replicate hx]; decide
end Nu
end Go.Proofs
namespace Go.Proofs
open Go.Vc
set_option maxRecDepth 20000
namespace Nu
theorem h16 : (65536 : Nat) ^ 4 = 18446744073709551616 := by decide
theorem aOV (k : Nat) : 65536 ^ (4 * k) = 18446744073709551616 ^ k := by rw [Nat.pow_mul, h16]
theorem xB (k : Nat) : (65536 : Nat) ^ k = 2 ^ (16 * k) := by rw [Nat.pow_mul]
theorem aHZ (x : Nat) : x &&& 65535 = x % 65536 := Nat.and_two_pow_sub_one_eq_mod x 16
theorem aAp (a : List Nat) (ha : Hm a) (hl : a.length ≤ 4611686018427387904) : gU a = some (hb (hv a)) := by
 unfold gU
 have key := cV (step := fun d : Int => lK a d) (I := fun n => 0 ≤ n ∧ n ≤ a.length ∧ hv (a.take n.toNat) = hv a) (fun n => n.toNat)
  (fun e => 0 ≤ e ∧ e ≤ a.length ∧ a.take e.toNat = hb (hv a)) ?_ (a.length : Int) ⟨by omega, by omega, by rw [Int.toNat_natCast, List.take_length]⟩
 ·obtain ⟨e, h1, h2, h3, h4⟩ := key
  refine aK h1 (aB ⟨h2, h3⟩ ?_)
  rw [h4]
 ·intro n ⟨n0, n1, n2⟩
  show (∃ d', lK a n = _ ∧ _) ∨ ∃ e, lK a n = _ ∧ _
  unfold lK
  by_cases h0 : 0 < n
  ·have hk : n.toNat - 1 < a.length := by omega
   have e1 : (n - 1).toNat = n.toNat - 1 := by omega
   have hs := sD hk
   rw [show n.toNat - 1 + 1 = n.toNat from by omega] at hs
   by_cases hz : a.getD (n.toNat - 1) 0 = 0
   ·left
    refine ⟨n - 1, aB (fun _ => by constructor <;> omega) (aB (fun _ => by constructor <;> omega) ?_), ⟨by omega, by omega, ?_⟩, by omega⟩
    ·rw [e1, if_pos ⟨h0, hz⟩]; exact aB (by constructor <;> omega) rfl
    ·rw [e1, ← n2, hs, hz]; omega
   ·right
    refine ⟨n, aB (fun _ => by constructor <;> omega) (aB (fun _ => by constructor <;> omega) ?_), n0, n1, ?_⟩
    ·rw [e1, if_neg (fun h => hz h.2)]
    ·rw [← n2, aZK (aDX ha _)]
     have hl' : (a.take n.toNat).length = n.toNat := by rw [List.length_take]; omega
     refine (aDV (by omega)).2 ?_
     rw [hl', List.getD_eq_getElem?_getD, List.getElem?_take_of_lt (by omega), ← List.getD_eq_getElem?_getD]
     exact hz
  ·right
   have e0 : n = 0 := by omega
   subst e0
   refine ⟨0, aB (fun h => absurd h h0) (aB (fun h => absurd h h0) ?_), by omega, by omega, ?_⟩
   ·rw [if_neg (fun h => h0 h.1)]
   ·rw [← n2]; simp [hv, oC]
def aEW (x k : Nat) : List Nat := (List.range k).map fun j => x / 65536 ^ j % 65536
theorem aNC (x k : Nat) : aEW x (k + 1) = aEW x k ++ [x / 65536 ^ k % 65536] := by simp [aEW, List.range_succ]
theorem aLK (x k : Nat) : (aEW x k).length = k := by simp [aEW]
theorem aX0 (x k : Nat) : Hm (aEW x k) := fun y hy => by
 obtain ⟨j, _, rfl⟩ := List.mem_map.1 hy
 exact Nat.mod_lt _ (by decide)
theorem aX1 (x k : Nat) : hv (aEW x k) = x % 65536 ^ k := by
 induction k with
 | zero => simp [aEW, hv, Nat.mod_one]
 | succ k ih =>
  rw [aNC, aLI, aLK, ih, Nat.pow_succ, Nat.mod_mul]
  simp [hv]
theorem aX2 (a : List Nat) (i : Int) (h0 : 0 ≤ i) (h1 : i < a.length) (out : List Nat) (hs : out.length ≤ 1099511627776) :
  bO (fun d : Int × List Nat => iU i a d.1 d.2) (0, out) = some (out ++ aEW (a.getD i.toNat 0) 4) := by
 refine gF (step := fun d : Int × List Nat => iU i a d.1 d.2) (I := fun d => 0 ≤ d.1 ∧ d.1 ≤ 4 ∧ d.2 = out ++ aEW (a.getD i.toNat 0) d.1.toNat) (fun d => (4 - d.1).toNat) (fun _ => out ++ aEW (a.getD i.toNat 0) 4) ?_ (0, out) ⟨by simp, by simp, by simp [aEW]⟩
 rintro ⟨k, o⟩ ⟨k0, k1, k2⟩
 have k0 : 0 ≤ k := k0
 have k1 : k ≤ 4 := k1
 have k2 : o = out ++ aEW (a.getD i.toNat 0) k.toNat := k2
 show (∃ d', iU i a k o = _ ∧ _) ∨ iU i a k o = _
 unfold iU
 by_cases hk : k < 4
 ·left
  have e1 : (k + 1).toNat = k.toNat + 1 := by omega
  have e2 : ((16 * k) % (18446744073709551616 : Int)).toNat = 16 * k.toNat := by omega
  have e3 : (a.getD i.toNat 0 / 2 ^ (16 * k.toNat)) % 4294967296 % 65536 = a.getD i.toNat 0 / 65536 ^ k.toNat % 65536 := by
   rw [xB]; omega
  have ol : o.length ≤ 1099511627780 := by rw [k2, List.length_append, aLK]; omega
  refine ⟨(k + 1, out ++ aEW (a.getD i.toNat 0) (k + 1).toNat), ?_, ⟨by simp only; omega, by simp only; omega, rfl⟩, by simp only; omega, rfl⟩
  rw [if_pos hk, aHZ, e2, e3]
  refine aB ⟨h0, h1⟩ (aB (by constructor <;> omega) (aB (by omega) (aB (by constructor <;> omega) ?_)))
  rw [e1, aNC, k2, List.append_assoc]
 ·right
  rw [if_neg hk, k2, show k.toNat = 4 from by omega]
theorem aOW (a : List Nat) (ha : Lm a) (hl : a.length ≤ 68719476736) : rH a = some (hb (nv a)) := by
 unfold rH
 have key := cV (step := fun d : Int × List Nat => lL a d.1 d.2) (I := fun d => 0 ≤ d.1 ∧ d.1 ≤ a.length ∧ d.2.length = 4 * d.1.toNat ∧ Hm d.2 ∧ hv d.2 = nv (a.take d.1.toNat)) (fun d => (a.length - d.1).toNat)
  (fun e => e.length = 4 * a.length ∧ Hm e ∧ hv e = nv a) ?_ (0, []) ⟨by simp, by simp, by simp, (fun x hx => by cases hx), by simp [hv, nv]⟩
 ·obtain ⟨e, h1, h2, h3, h4⟩ := key
  refine aK h1 (aK (aAp e h3 (by omega)) ?_)
  rw [h4]
 ·rintro ⟨i, o⟩ ⟨i0, i1, i2, i3, i4⟩
  have i0 : 0 ≤ i := i0
  have i1 : i ≤ a.length := i1
  have i2 : o.length = 4 * i.toNat := i2
  have i3 : Hm o := i3
  have i4 : hv o = nv (a.take i.toNat) := i4
  show (∃ d', lL a i o = _ ∧ _) ∨ ∃ e, lL a i o = _ ∧ _
  unfold lL
  by_cases hi : i < a.length
  ·left
   have hk : i.toNat < a.length := by omega
   refine ⟨(i + 1, o ++ aEW (a.getD i.toNat 0) 4), ?_, ⟨by simp only; omega, by simp only; omega, ?_, ?_, ?_⟩, by simp only; omega⟩
   ·rw [if_pos hi]
    exact aK (aX2 a i i0 hi o (by omega)) (aB (by constructor <;> omega) rfl)
   ·simp only; rw [List.length_append, aLK]; omega
   ·exact aGX i3 (aX0 _ _)
   ·simp only
    rw [show (i + 1).toNat = i.toNat + 1 from by omega, pI hk, aLI, aX1, i2, i4, aOV, h16, Nat.mod_eq_of_lt (fE ha _)]
  ·right
   have e : i.toNat = a.length := by omega
   rw [e, List.take_length] at i4
   exact ⟨o, by rw [if_neg hi], by rw [i2, e], i3, i4⟩
theorem aOX {n : Int} (h : 0 ≤ n) : Int.tdiv n 16 = ((n.toNat / 16 : Nat) : Int) ∧ Int.tmod n 16 = ((n.toNat % 16 : Nat) : Int) := by
 obtain ⟨k, rfl⟩ : ∃ k : Nat, n = (k : Int) := ⟨n.toNat, by omega⟩
 rw [Int.toNat_natCast]
 exact ⟨rfl, rfl⟩
theorem aOY (x y k : Nat) (h : x < 2 ^ k) : x ||| (y * 2 ^ k) = x + y * 2 ^ k := by
 have := Nat.two_pow_add_eq_or_of_lt h y
 rw [Nat.or_comm, Nat.mul_comm y, ← this, Nat.add_comm]
end Nu
end Go.Proofs
