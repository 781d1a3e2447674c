import Derived.Test.YtcpnniahnmjnpaaGreatDoorZS2
import Derived.Test.YtcpnniahnmjnpaaGreatDoorZS3
import Derived.Test.YtcpnniahnmjnpaaGreatDoorZS1
set_option linter.unusedVariables false
set_option linter.unusedSimpArgs false
namespace Go.Proofs
open Go.Vc
set_option maxRecDepth 20000
namespace Nu
noncomputable section
set_option maxHeartbeats 4000000
attribute [-go_sem] Ex.kind Ex.text Ex.l
@[reducible] def aY6 (xs : List qd) : Prop := xs.length * 16 ≤ 140737488355328
def uB : Ty := .pair wh .unit
def mD : aI := ⟨uB, .own 9 .str, fun x => aY6 x.1, fun x => id x.1⟩
attribute [go_sem] mD uB
abbrev aA0 (F : Md) : List (FuncId × aI) := []
theorem aA1 [Mx] (F : Md) : bH Tryz.prog GL (aA0 F) := .nil
theorem aGl [Mx] : FOK Tryz.prog GL 73 mD := by
 refine aTP (aU (aA1 none)) Tryz.func73 rfl xAa xAc fun w0 S x hw hp => ?_
 have hF : gD (fr Tryz.prog (EM (aA0 none)) S w0 Tryz.f73.ntmps) := ⟨aU (aA1 none), mix⟩
 obtain ⟨(s : qw), u⟩ := x
 have hp : s.length * 16 ≤ 140737488355328 := hp
 simp only [bZ, uB, mD]
 exact zab
def qW (F : Md) (e_0 : Ex) (names_1 : qw) : Option Bool :=
 (pM F e_0).bind (fun v_6 => ck ((v_6 = true) → ((aCR F 64 e_0 names_1).isSome = true)) (some (v_6 && ((aCR F 64 e_0 names_1).getD false))))
def aFi : PlR := ⟨[(0, .B [1, 2]), (1, .A [4])], []⟩
def aGO : Ty := .pair .expr (.pair wh .unit)
def pR (F : Md) : aI := mSpec aGO (.one .bool) (fun x => qW F x.1 x.2.1)
abbrev aB6 (F : Md) : List (FuncId × aI) := [(115, (aBs F 64)), (21, (vO F))]
theorem aOg [Mx] (F : Md) : bH Tryz.prog GL (aB6 F) := .cons (aI1 F 64) xAa (.cons (aKX F) xAa (.nil))
attribute [go_sem] aGO aFi
theorem aFj [Mx] (F : Md) : FOK Tryz.prog GL 75 (pR F) := by
 refine bT (aU (aOg F)) mix Tryz.func75 rfl xAa xAc aFi fun w0 S x Θ hw h hF => ?_
 obtain ⟨(e_0 : Ex), (names_1 : qw), u⟩ := x
 simp only [bZ, go_sem]
 replace h : sat (qW F e_0 names_1) _ := h
 unfold qW at h
 obtain ⟨v_6, hv, h⟩ := aP h
 try simp only [hv, go_sem]
 refine bB h fun g0 h => ?_
 exact zaD
attribute [go_sem] pR
def vX (F : Md) (a_0 : qz) (a1_1 : qw) : Option Bool :=
 (qW F a_0.2.1 a1_1).bind (fun v_6 => some (!v_6))
def aEj : PlR := ⟨[(0, .B [1, 2]), (1, .A [3])], []⟩
def aFk : Ty := .pair qr w4
def uI (F : Md) : aI := mSpec aFk (.one .bool) (fun x => vX F x.1 x.2.1)
abbrev aFl (F : Md) : List (FuncId × aI) := [(75, (pR F))]
theorem aMw [Mx] (F : Md) : bH Tryz.prog GL (aFl F) := .cons (aFj F) xAa (.nil)
attribute [go_sem] aFk aEj
theorem aK9 [Mx] (F : Md) : FOK Tryz.prog GL 77 (uI F) := by
 refine bT (aU (aMw F)) mix Tryz.func77 rfl xAa xAc aEj fun w0 S x Θ hw h hF => ?_
 obtain ⟨(a_0 : qz), (a1_1 : qw), u⟩ := x
 simp only [bZ, go_sem]
 replace h : sat (vX F a_0 a1_1) _ := h
 unfold vX at h
 obtain ⟨v_6, hv, h⟩ := aP h
 try simp only [hv, go_sem]
 exact aK hF [.tmp 3] rfl rfl rfl (aE h) xAd
attribute [go_sem] uI
def eU (F : Md) (s_0 : wv) (f_1 : ws) (x8_14 : Int) : Option ((Int) ⊕ ((Unit) ⊕ Int)) :=
 if x8_14 < (s_0.length : Int) then ck (0 ≤ x8_14 ∧ x8_14 < (s_0.length : Int)) ((vX F (s_0.getD (x8_14.toNat) ([], (Ex.mk 0 [] []), ())) f_1.1).bind (fun v_27 => if v_27 = true then some (.inr (.inr x8_14)) else ck (I64 (x8_14 + (1 : Int))) (some (.inl (x8_14 + (1 : Int)))))) else some (.inr (.inl ()))
def dV (F : Md) (s_0 : wv) (f_1 : ws) : Option Int :=
 (eJ F (fun d : Int => eU F s_0 f_1 d) (0 : Int)).bind (fun e => match e with | (.inl e) => some (-1 : Int) | (.inr e) => some e)
def jF : PlR := ⟨[(0, .A [0, 1]), (1, .A [0, 1, 7, 8]), (2, .A [0, 1, 7, 8, 9]), (3, .A [0, 1, 5, 7, 8]), (4, .A [0, 1, 5, 7, 8, 16]), (5, .A [4]), (6, .A [0, 1, 7, 8]), (7, .A [4])], []⟩
def jM : Ty := .pair (.sl qr) (.pair (.clo 77 w4) .unit)
def dM (F : Md) : aI := mSpec jM (.one qe) (fun x => dV F x.1 x.2.1)
abbrev jN (F : Md) : List (FuncId × aI) := [(77, (uI F))]
theorem qK [Mx] (F : Md) : bH Tryz.prog GL (jN F) := .cons (aK9 F) xAa (.nil)
attribute [go_sem] jM jF
theorem qB [Mx] (F : Md) : FOK Tryz.prog GL 116 (dM F) := by
 refine bT (aU (qK F)) mix Tryz.func116 rfl xAa xAc jF fun w0 S x Θ hw h hF => ?_
 obtain ⟨(s_0 : wv), (f_1 : ws), u⟩ := x
 simp only [bZ, go_sem]
 replace h : sat (dV F s_0 f_1) _ := h
 unfold dV at h
 refine cL hF (D := Int) [0, 1, 7] (fun d => [(8, .val qe d)]) (fun d => []) h rfl xAb ?_
 rintro x8_14 A2 T2 hA2 hE2 h
 simp only [go_sem]
 replace h : sat (eU F s_0 f_1 x8_14) _ := h
 unfold eU at h
 exact zaP
attribute [go_sem] dM
def cO (F : Md) (s_0 : wv) (f_1 : ws) : Option Bool :=
 (dV F s_0 f_1).bind (fun v_8 => some (decide ((0 : Int) ≤ v_8)))
def hU : PlR := ⟨[(0, .A [0, 1]), (1, .A [4])], []⟩
def iK : Ty := .pair (.sl qr) (.pair (.clo 77 w4) .unit)
def dC (F : Md) : aI := mSpec iK (.one .bool) (fun x => cO F x.1 x.2.1)
abbrev iL (F : Md) : List (FuncId × aI) := [(116, (dM F))]
theorem pE [Mx] (F : Md) : bH Tryz.prog GL (iL F) := .cons (qB F) xAa (.nil)
attribute [go_sem] iK hU
theorem oP [Mx] (F : Md) : FOK Tryz.prog GL 76 (dC F) := by
 refine bT (aU (pE F)) mix Tryz.func76 rfl xAa xAc hU fun w0 S x Θ hw h hF => ?_
 obtain ⟨(s_0 : wv), (f_1 : ws), u⟩ := x
 simp only [bZ, go_sem]
 replace h : sat (cO F s_0 f_1) _ := h
 unfold cO at h
 obtain ⟨v_8, hv, h⟩ := aP h
 exact zaR
attribute [go_sem] dC
def aDD (F : Md) (s_0 : qc) (x93_11 : Int) : Option ((Int) ⊕ ((Unit) ⊕ Bool)) :=
 if x93_11 < (s_0.2.2.1.length : Int) then ck (0 ≤ x93_11 ∧ x93_11 < (s_0.2.2.1.length : Int)) (ck ((nT F (s_0.2.2.1.getD (x93_11.toNat) ([], ([], [], ()), ())).2.1).isSome = true) (if ¬ (((nT F (s_0.2.2.1.getD (x93_11.toNat) ([], ([], [], ()), ())).2.1).getD false) = true) then some (.inr (.inr false)) else ck (I64 (x93_11 + (1 : Int))) (some (.inl (x93_11 + (1 : Int)))))) else some (.inr (.inl ()))
def aAu (F : Md) (s_0 : qc) : Option (Bool) :=
 (eJ F (fun d : Int => aDD F s_0 d) (0 : Int)).bind (fun e => match e with | (.inl e) => ck ((cO F s_0.2.2.2.2.1 (((cH F ([((bI F s_0).getD (([] : List qd), ([] : List qd), ([] : List qd), ())).1, ((bI F s_0).getD (([] : List qd), ([] : List qd), ([] : List qd), ())).2.1, ((bI F s_0).getD (([] : List qd), ([] : List qd), ([] : List qd), ())).2.2.1] : List qw)).getD ([] : List qd)), ())).isSome = true) (some (!((cO F s_0.2.2.2.2.1 (((cH F ([((bI F s_0).getD (([] : List qd), ([] : List qd), ([] : List qd), ())).1, ((bI F s_0).getD (([] : List qd), ([] : List qd), ([] : List qd), ())).2.1, ((bI F s_0).getD (([] : List qd), ([] : List qd), ([] : List qd), ())).2.2.1] : List qw)).getD ([] : List qd)), ())).getD false))) | (.inr e) => some e)
def aDE (F : Md) (s_0 : qc) (x74_14 : Int) : Option ((Int) ⊕ ((Unit) ⊕ Bool)) :=
 if x74_14 < (s_0.2.1.length : Int) then ck (0 ≤ x74_14 ∧ x74_14 < (s_0.2.1.length : Int)) (ck ((nT F (s_0.2.1.getD (x74_14.toNat) ([], ([], [], ()), (Ex.mk 0 [] []), ())).2.1).isSome = true) (ck (¬ (¬ (((nT F (s_0.2.1.getD (x74_14.toNat) ([], ([], [], ()), (Ex.mk 0 [] []), ())).2.1).getD false) = true)) → ((qW F (s_0.2.1.getD (x74_14.toNat) ([], ([], [], ()), (Ex.mk 0 [] []), ())).2.2.1 ((cH F ([((bI F s_0).getD (([] : List qd), ([] : List qd), ([] : List qd), ())).1, ((bI F s_0).getD (([] : List qd), ([] : List qd), ([] : List qd), ())).2.1, ((bI F s_0).getD (([] : List qd), ([] : List qd), ([] : List qd), ())).2.2.1] : List qw)).getD ([] : List qd))).isSome = true)) (if (¬ (((nT F (s_0.2.1.getD (x74_14.toNat) ([], ([], [], ()), (Ex.mk 0 [] []), ())).2.1).getD false) = true)) ∨ (¬ (((qW F (s_0.2.1.getD (x74_14.toNat) ([], ([], [], ()), (Ex.mk 0 [] []), ())).2.2.1 ((cH F ([((bI F s_0).getD (([] : List qd), ([] : List qd), ([] : List qd), ())).1, ((bI F s_0).getD (([] : List qd), ([] : List qd), ([] : List qd), ())).2.1, ((bI F s_0).getD (([] : List qd), ([] : List qd), ([] : List qd), ())).2.2.1] : List qw)).getD ([] : List qd))).getD false) = true)) then some (.inr (.inr false)) else ck (I64 (x74_14 + (1 : Int))) (some (.inl (x74_14 + (1 : Int))))))) else some (.inr (.inl ()))
def aAv (F : Md) (s_0 : qc) (all_6 : qw) : Option (Bool) :=
 ck ((tV F all_6).isSome = true) (if ¬ (((tV F all_6).getD false) = true) then some false else (eJ F (fun d : Int => aDE F s_0 d) (0 : Int)).bind (fun e => match e with | (.inl e) => aAu F s_0 | (.inr e) => some e))
def aEk (F : Md) (s_0 : qc) (x58_17 : Int) (all_18 : qw) : Option ((Int × qw) ⊕ qw) :=
 if x58_17 < (s_0.2.2.2.2.1.length : Int) then ck (0 ≤ x58_17 ∧ x58_17 < (s_0.2.2.2.2.1.length : Int)) (ck (((all_18.length) + (1 : Nat)) * 16 ≤ 140737488355328) (ck (I64 (x58_17 + (1 : Int))) (some (.inl ((x58_17 + (1 : Int)), (all_18 ++ ([(s_0.2.2.2.2.1.getD (x58_17.toNat) ([], (Ex.mk 0 [] []), ())).1] : List qd))))))) else some (.inr all_18)
def aAw (F : Md) (s_0 : qc) : Option Bool :=
 if (((((s_0.2.1.length : Int) < (1 : Int)) ∨ ((6 : Int) < (s_0.2.1.length : Int))) ∨ ((6 : Int) < (s_0.2.2.1.length : Int))) ∨ ((4 : Int) < (s_0.2.2.2.1.length : Int))) ∨ ((4 : Int) < (s_0.2.2.2.2.1.length : Int)) then some false else ck ((bI F s_0).isSome = true) (ck ((cH F ([((bI F s_0).getD (([] : List qd), ([] : List qd), ([] : List qd), ())).1, ((bI F s_0).getD (([] : List qd), ([] : List qd), ([] : List qd), ())).2.1, ((bI F s_0).getD (([] : List qd), ([] : List qd), ([] : List qd), ())).2.2.1] : List qw)).isSome = true) (ck (aY6 ((cH F ([((bI F s_0).getD (([] : List qd), ([] : List qd), ([] : List qd), ())).1, ((bI F s_0).getD (([] : List qd), ([] : List qd), ([] : List qd), ())).2.1, ((bI F s_0).getD (([] : List qd), ([] : List qd), ([] : List qd), ())).2.2.1] : List qw)).getD ([] : List qd))) ((eJ F (fun d : Int × qw => aEk F s_0 d.1 d.2) ((0 : Int), (id ((cH F ([((bI F s_0).getD (([] : List qd), ([] : List qd), ([] : List qd), ())).1, ((bI F s_0).getD (([] : List qd), ([] : List qd), ([] : List qd), ())).2.1, ((bI F s_0).getD (([] : List qd), ([] : List qd), ([] : List qd), ())).2.2.1] : List qw)).getD ([] : List qd))))).bind (fun e => aAv F s_0 e))))
@[go_sem]def aAx : Ty := .pair qa .unit
def yC (F : Md) : aI := mSpec aAx (.one .bool) (fun x => aAw F x.1)
abbrev mE (F : Md) : List (FuncId × aI) := [(76, (dC F)), (37, (sG F)), (71, (aAl F)), (72, (oG F)), (73, mD), (74, (yA F)), (75, (pR F))]
theorem aH7 [Mx] (F : Md) : bH Tryz.prog GL (mE F) := .cons (oP F) xAa (.cons (aHR F) xAa (.cons (aP6 F) xAa (.cons (aFc F) xAa (.cons aGl xAa (.cons (aOc F) xAa (.cons (aFj F) xAa (.nil)))))))
theorem aOh [Mx] (F : Md) : FOK Tryz.prog GL 36 (yC F) := by
 refine rY (aU (aH7 F)) Tryz.func36 rfl xAa xAc fun w0 S x r hw h => ?_
 have hF : gD (fr Tryz.prog (EM (mE F)) S w0 Tryz.f36.ntmps) := ⟨aU (aH7 F), mix⟩
 obtain ⟨(s_0 : qc), u⟩ := x
 simp only [aAx, Ty.wf, fG] at hw
 simp only [bZ, aAx]
 try dsimp only at h
 replace h : aAw F s_0 = some r := h
 unfold aAw at h
 refine aB (aR hF [1] (yaA ?_))
 refine aA (aB (aB (aF hF [1, 41] (yaA ?_))))
 refine aA (bC rfl (fun hc => ?_) (fun hc => ?_))
 ·try simp only [go_sem] at hc
  have h := dP zAB h
  refine aB (aF hF [2] (yaA ?_))
  obtain rfl := Option.some.inj h
  refine aA (cA (cE (gX hF [.tmp 2] rfl rfl rfl ?_)))
  exact zAH
 ·try simp only [go_sem] at hc
  have h := dQ zAB h
  refine bY (aA (aB (aF hF [1, 3, 4, 5] (yaA ?_))))
  obtain ⟨g0, h⟩ := aM h
  repeat (refine ⟨zAA, ?_⟩)
  refine aA (aB (aR hF [1, 6] (yaA ?_)))
  obtain ⟨g0, h⟩ := aM h
  repeat (refine ⟨zAA, ?_⟩)
  refine aA (aB (aR hF [1, 6, 7] (yaA ?_)))
  obtain ⟨g0, h⟩ := aM h
  repeat (refine ⟨zAA, ?_⟩)
  refine aA (oB (D := qw) (fun d => aAv F s_0 d = some r) [] (fun d => [(1, .ptr 0 []), (6, .ptr 1 []), (7, .own 2)]) (fun d => [.inr (.box 5 (.val qa s_0)), .inr (.box 1 (.val wh ((cH F ([((bI F s_0).getD (([] : List qd), ([] : List qd), ([] : List qd), ())).1, ((bI F s_0).getD (([] : List qd), ([] : List qd), ([] : List qd), ())).2.1, ((bI F s_0).getD (([] : List qd), ([] : List qd), ([] : List qd), ())).2.2.1] : List qw)).getD ([] : List qd)))), .inr (.row 9 .str d)]) ?_ ?_)
  ·refine aB (aF hF [1, 6, 7, 56, 57, 58] (yaA ?_))
   refine aA (dH (oC (D := Int × qw) [56, 57] (fun d => [(1, .ptr 0 []), (6, .ptr 1 []), (7, .own 2), (58, .val qe d.1)]) (fun d => [.inr (.box 5 (.val qa s_0)), .inr (.box 1 (.val wh ((cH F ([((bI F s_0).getD (([] : List qd), ([] : List qd), ([] : List qd), ())).1, ((bI F s_0).getD (([] : List qd), ([] : List qd), ([] : List qd), ())).2.1, ((bI F s_0).getD (([] : List qd), ([] : List qd), ([] : List qd), ())).2.2.1] : List qw)).getD ([] : List qd)))), .inr (.row 9 .str d.2)]) h ?_ ?_ ?_))
   ·first | rfl | (simp only [go_sem]; done)
   ·exact zAG
   rintro ⟨x58_17, all_18⟩ s7 h hs7
   simp only [go_sem]
   try dsimp only at h
   unfold aEk at h
   refine aB (aF hF [1, 6, 7, 56, 57, 58, 59] (yaA ?_))
   refine aA (aB (bC rfl (fun hc => ?_) (fun hc => ?_)))
   ·try simp only [go_sem] at hc
    have h := dP zAB h
    refine bY (aA (aB (dH (aB (aR hF [1, 6, 7, 9, 56, 57, 58] (yaA ?_))))))
    obtain ⟨g0, h⟩ := aM h
    repeat (refine ⟨zAA, ?_⟩)
    refine aA (aR hF [1, 6, 7, 56, 57, 58] (yaA ?_))
    obtain ⟨g0, h⟩ := aM h
    repeat (refine ⟨zAA, ?_⟩)
    refine aZ (aA (aF hF [1, 6, 7, 56, 57, 58] (yaA ?_)))
    obtain ⟨g0, h⟩ := aM h
    try simp only [I64, I32] at g0
    repeat (refine ⟨zAA, ?_⟩)
    obtain rfl := Option.some.inj h
    dsimp only [lR] at hs7
    refine bO (iB [0, 1, 4] rfl rfl (yaC ?_))
    refine aY ((x58_17 + (1 : Int)), (all_18 ++ ([(s_0.2.2.2.2.1.getD (x58_17.toNat) ([], (Ex.mk 0 [] []), ())).1] : List qd))) hs7 rfl ?_
    ·exact zAG
   ·try simp only [go_sem] at hc
    have h := dQ zAB h
    obtain rfl := Option.some.inj h
    dsimp only [lR] at hs7
    have h := yaF (hs7)
    refine pV (cV (cV (fH (bO (aY (all_18) h rfl ?_)))))
    ·exact zAG
  ·rintro all_6 h
   try dsimp only at h
   simp only [go_sem]
   unfold aAv at h
   refine aB (aB (aF hF [1, 6, 70] (yaA ?_)))
   obtain ⟨g0, h⟩ := aM h
   repeat (refine ⟨zAA, ?_⟩)
   refine aA (bC rfl (fun hc => ?_) (fun hc => ?_))
   ·try simp only [go_sem] at hc
    have h := dP zAB h
    refine aB (aF hF [2] (yaA ?_))
    obtain rfl := Option.some.inj h
    refine aA (cA (cE (gX hF [.tmp 2] rfl rfl rfl ?_)))
    exact zAH
   ·try simp only [go_sem] at hc
    have h := dQ zAB h
    refine bY (aA (oB (D := Unit) (fun d => aAu F s_0 = some r) [] (fun d => [(1, .ptr 0 []), (6, .ptr 1 [])]) (fun d => [.inr (.box 5 (.val qa s_0)), .inr (.box 1 (.val wh ((cH F ([((bI F s_0).getD (([] : List qd), ([] : List qd), ([] : List qd), ())).1, ((bI F s_0).getD (([] : List qd), ([] : List qd), ([] : List qd), ())).2.1, ((bI F s_0).getD (([] : List qd), ([] : List qd), ([] : List qd), ())).2.2.1] : List qw)).getD ([] : List qd))))]) ?_ ?_))
    ·refine aB (aF hF [1, 6, 72, 73, 74] (yaA ?_))
     refine aA (dH (aKj [0, 1] rfl rfl (yaC ?_)))
     refine oC (D := Int) [72, 73] (fun d => [(1, .ptr 0 []), (6, .ptr 1 []), (74, .val qe d)]) (fun d => [.inr (.box 5 (.val qa s_0)), .inr (.box 1 (.val wh ((cH F ([((bI F s_0).getD (([] : List qd), ([] : List qd), ([] : List qd), ())).1, ((bI F s_0).getD (([] : List qd), ([] : List qd), ([] : List qd), ())).2.1, ((bI F s_0).getD (([] : List qd), ([] : List qd), ([] : List qd), ())).2.2.1] : List qw)).getD ([] : List qd))))]) h ?_ ?_ ?_
     ·first | rfl | (simp only [go_sem]; done)
     ·exact zAG
     rintro x74_14 s14 h hs14
     simp only [go_sem]
     try dsimp only at h
     unfold aDE at h
     refine aB (aF hF [1, 6, 72, 73, 74, 75] (yaA ?_))
     refine aA (aB (bC rfl (fun hc => ?_) (fun hc => ?_)))
     ·try simp only [go_sem] at hc
      have h := dP zAB h
      refine bY (aA (aB (dH (aB (aR hF [1, 6, 11, 72, 73, 74] (yaA ?_))))))
      obtain ⟨g0, h⟩ := aM h
      repeat (refine ⟨zAA, ?_⟩)
      refine aA (aB (aF hF [1, 6, 72, 73, 74, 88] (yaA ?_)))
      obtain ⟨g0, h⟩ := aM h
      obtain ⟨g1, h⟩ := aM h
      repeat (refine ⟨by first | with_reducible assumption | omega | (intros; first | with_reducible assumption | omega) | (simp only [go_sem] at *; first | with_reducible assumption | omega) | (intro _; exact ⟨rfl, by decide⟩) | (intro _; refine (?_ : _ = aD _); rfl) | (refine (?_ : _ = aD _); rfl) | exact ⟨rfl, rfl⟩ | (intro q0; (try have e1 := g1 zAF); first | assumption | omega) | decide, ?_⟩)
      refine aA (bC rfl (fun hc => ?_) (fun hc => ?_))
      ·try simp only [go_sem] at hc
       have h := dP zAB h
       refine aB (aF hF [2] (yaA ?_))
       obtain rfl := Option.some.inj h
       dsimp only [lR] at hs14
       have h := yaF (hs14)
       obtain rfl := Option.some.inj h
       refine aA (cA (fQ (cE (cE (fQ (cE (gX hF [.tmp 2] rfl rfl rfl ?_)))))))
       exact zAH
      ·try simp only [go_sem] at hc
       have h := dQ zAB h
       refine bY (aZ (aA (aF hF [1, 6, 72, 73, 74] (yaA ?_))))
       obtain ⟨g0, h⟩ := aM h
       try simp only [I64, I32] at g0
       repeat (refine ⟨zAA, ?_⟩)
       obtain rfl := Option.some.inj h
       dsimp only [lR] at hs14
       refine bO (iB [0, 1] rfl rfl (yaC ?_))
       refine aY (x74_14 + (1 : Int)) hs14 rfl ?_
       ·exact zAG
     ·try simp only [go_sem] at hc
      have h := dQ zAB h
      obtain rfl := Option.some.inj h
      dsimp only [lR] at hs14
      have h := yaF (hs14)
      refine pV (cV (cV (fH (bO (aY () h rfl ?_)))))
      ·exact zAG
    ·rintro u h
     try dsimp only at h
     simp only [go_sem]
     unfold aAu at h
     refine aB (aB (aF hF [1, 6, 91, 92, 93] (yaA ?_)))
     refine aA (dH (oC (D := Int) [91, 92] (fun d => [(1, .ptr 0 []), (6, .ptr 1 []), (93, .val qe d)]) (fun d => [.inr (.box 5 (.val qa s_0)), .inr (.box 1 (.val wh ((cH F ([((bI F s_0).getD (([] : List qd), ([] : List qd), ([] : List qd), ())).1, ((bI F s_0).getD (([] : List qd), ([] : List qd), ([] : List qd), ())).2.1, ((bI F s_0).getD (([] : List qd), ([] : List qd), ([] : List qd), ())).2.2.1] : List qw)).getD ([] : List qd))))]) h ?_ ?_ ?_))
     ·first | rfl | (simp only [go_sem]; done)
     ·exact zAG
     rintro x93_11 s20 h hs20
     simp only [go_sem]
     try dsimp only at h
     unfold aDD at h
     refine aB (aF hF [1, 6, 91, 92, 93, 94] (yaA ?_))
     refine aA (aB (bC rfl (fun hc => ?_) (fun hc => ?_)))
     ·try simp only [go_sem] at hc
      have h := dP zAB h
      refine bY (aA (aB (dH (aB (aR hF [1, 6, 13, 91, 92, 93] (yaA ?_))))))
      obtain ⟨g0, h⟩ := aM h
      repeat (refine ⟨zAA, ?_⟩)
      refine aA (aB (aF hF [1, 6, 91, 92, 93, 100] (yaA ?_)))
      obtain ⟨g0, h⟩ := aM h
      repeat (refine ⟨zAA, ?_⟩)
      refine aA (bC rfl (fun hc => ?_) (fun hc => ?_))
      ·try simp only [go_sem] at hc
       have h := dP zAB h
       refine aB (aF hF [2] (yaA ?_))
       obtain rfl := Option.some.inj h
       dsimp only [lR] at hs20
       have h := yaF (hs20)
       obtain rfl := Option.some.inj h
       refine aA (cA (fQ (cE (cE (fQ (cE (gX hF [.tmp 2] rfl rfl rfl ?_)))))))
       exact zAH
      ·try simp only [go_sem] at hc
       have h := dQ zAB h
       refine bY (aZ (aA (aF hF [1, 6, 91, 92, 93] (yaA ?_))))
       obtain ⟨g0, h⟩ := aM h
       try simp only [I64, I32] at g0
       repeat (refine ⟨zAA, ?_⟩)
       obtain rfl := Option.some.inj h
       dsimp only [lR] at hs20
       refine bO (iB [0, 1] rfl rfl (yaC ?_))
       refine aY (x93_11 + (1 : Int)) hs20 rfl ?_
       ·exact zAG
     ·try simp only [go_sem] at hc
      have h := dQ zAB h
      obtain rfl := Option.some.inj h
      dsimp only [lR] at hs20
      have h := yaF (hs20)
      refine pV (cV (cV (fH (aA (aB (aBG 1 rfl (yaA ?_)))))))
      refine aF hF [2] (yaA ?_)
      obtain ⟨g0, h⟩ := aM h
      repeat (refine ⟨zAA, ?_⟩)
      exact za5
attribute [go_sem] yC
def aB7 (F : Md) (s_0 : qf) (sub_1 : qd) (x10_5 : Int) : Option ((Int) ⊕ ((Unit) ⊕ Int)) :=
 if x10_5 < (s_0.2.2.2.2.2.2.2.2.1.length : Int) then ck (0 ≤ x10_5 ∧ x10_5 < (s_0.2.2.2.2.2.2.2.2.1.length : Int)) (if (s_0.2.2.2.2.2.2.2.2.1.getD (x10_5.toNat) ([], [], [], [], [], ())).1 = sub_1 then some (.inr (.inr x10_5)) else ck (I64 (x10_5 + (1 : Int))) (some (.inl (x10_5 + (1 : Int))))) else some (.inr (.inl ()))
def aCX (F : Md) (s_0 : qf) (sub_1 : qd) : Option Int :=
 (eJ F (fun d : Int => aB7 F s_0 sub_1 d) (0 : Int)).bind (fun e => match e with | (.inl e) => some (-1 : Int) | (.inr e) => some e)
def aI9 : PlR := ⟨[(0, .B [1, 2]), (1, .A [1, 8, 9, 10]), (2, .A [1, 8, 9, 10, 11]), (3, .B [1, 5, 6, 8, 9, 10]), (4, .A [1, 5, 8, 9, 10, 18]), (5, .A [4]), (6, .A [1, 8, 9, 10]), (7, .A [4])], []⟩
def aLh : Ty := .pair qj wg
def aBt (F : Md) : aI := mSpec aLh (.one qe) (fun x => aCX F x.1 x.2.1)
abbrev aSl (F : Md) : List (FuncId × aI) := []
theorem aSm [Mx] (F : Md) : bH Tryz.prog GL (aSl F) := .nil
attribute [go_sem] aLh aI9
theorem aQP [Mx] (F : Md) : FOK Tryz.prog GL 79 (aBt F) := by
 refine bT (aU (aSm F)) mix Tryz.func79 rfl xAa xAc aI9 fun w0 S x Θ hw h hF => ?_
 obtain ⟨(s_0 : qf), (sub_1 : qd), u⟩ := x
 simp only [bZ, go_sem]
 replace h : sat (aCX F s_0 sub_1) _ := h
 unfold aCX at h
 refine aKj [] rfl rfl (yaA ?_)
 refine cL hF (D := Int) [1, 8, 9] (fun d => [(10, .val qe d)]) (fun d => []) h rfl xAb ?_
 rintro x10_5 A2 T2 hA2 hE2 h
 simp only [go_sem]
 replace h : sat (aB7 F s_0 sub_1 x10_5) _ := h
 unfold aB7 at h
 refine fY h (fun hc h => ?_) fun hc h => ?_
 ·refine bB h fun g0 h => ?_
  refine fL h (fun hc h => ?_) fun hc h => ?_
  ·replace h := yaF (hE2 _ (aE h))
   exact zaD
  ·refine bB h fun g0 h => ?_
   replace h := hA2 _ (aE h)
   refine iB [] rfl rfl (yaA ?_)
   exact zaK
 ·replace h := yaF (hE2 _ (aE h))
  exact zaD
attribute [go_sem] aBt
def vY (F : Md) (o_0 : qz) (a1_1 : wd) : Option Bool :=
 ck ((0 : Int) < (a1_1.length : Int)) (some (decide (o_0.1 = (a1_1.getD (0 : Nat) ([], [], [], [], ())).2.2.2.1)))
def aEl : PlR := ⟨[(0, .B [1, 2]), (1, .A [3])], []⟩
def aFm : Ty := .pair qr (.pair (.rp (.sl qs)) .unit)
def uJ (F : Md) : aI := mSpec aFm (.one .bool) (fun x => vY F x.1 x.2.1)
abbrev aMx (F : Md) : List (FuncId × aI) := []
theorem aMy [Mx] (F : Md) : bH Tryz.prog GL (aMx F) := .nil
attribute [go_sem] aFm aEl
theorem aLi [Mx] (F : Md) : FOK Tryz.prog GL 80 (uJ F) := by
 refine bT (aU (aMy F)) mix Tryz.func80 rfl xAa xAc aEl fun w0 S x Θ hw h hF => ?_
 obtain ⟨(o_0 : qz), (a1_1 : wd), u⟩ := x
 simp only [bZ, go_sem]
 replace h : sat (vY F o_0 a1_1) _ := h
 unfold vY at h
 refine bB h fun g0 h => ?_
 exact aK hF [.tmp 3] rfl rfl rfl (aE h) xAd
attribute [go_sem] uJ
def eV (F : Md) (s_0 : wv) (f_1 : (wd × Unit)) (x8_14 : Int) : Option ((Int) ⊕ ((Unit) ⊕ Int)) :=
 if x8_14 < (s_0.length : Int) then ck (0 ≤ x8_14 ∧ x8_14 < (s_0.length : Int)) ((vY F (s_0.getD (x8_14.toNat) ([], (Ex.mk 0 [] []), ())) f_1.1).bind (fun v_27 => if v_27 = true then some (.inr (.inr x8_14)) else ck (I64 (x8_14 + (1 : Int))) (some (.inl (x8_14 + (1 : Int)))))) else some (.inr (.inl ()))
def dW (F : Md) (s_0 : wv) (f_1 : (wd × Unit)) : Option Int :=
 (eJ F (fun d : Int => eV F s_0 f_1 d) (0 : Int)).bind (fun e => match e with | (.inl e) => some (-1 : Int) | (.inr e) => some e)
def jG : PlR := ⟨[(0, .A [0, 1]), (1, .A [0, 1, 7, 8]), (2, .A [0, 1, 7, 8, 9]), (3, .A [0, 1, 5, 7, 8]), (4, .A [0, 1, 5, 7, 8, 16]), (5, .A [4]), (6, .A [0, 1, 7, 8]), (7, .A [4])], []⟩
def jO : Ty := .pair (.sl qr) (.pair (.clo 80 (.pair (.rp (.sl qs)) .unit)) .unit)
def dN (F : Md) : aI := mSpec jO (.one qe) (fun x => dW F x.1 x.2.1)
abbrev jP (F : Md) : List (FuncId × aI) := [(80, (uJ F))]
theorem qL [Mx] (F : Md) : bH Tryz.prog GL (jP F) := .cons (aLi F) xAa (.nil)
attribute [go_sem] jO jG
theorem qC [Mx] (F : Md) : FOK Tryz.prog GL 116 (dN F) := by
 refine bT (aU (qL F)) mix Tryz.func116 rfl xAa xAc jG fun w0 S x Θ hw h hF => ?_
 obtain ⟨(s_0 : wv), (f_1 : (wd × Unit)), u⟩ := x
 simp only [bZ, go_sem]
 replace h : sat (dW F s_0 f_1) _ := h
 unfold dW at h
 refine cL hF (D := Int) [0, 1, 7] (fun d => [(8, .val qe d)]) (fun d => []) h rfl xAb ?_
 rintro x8_14 A2 T2 hA2 hE2 h
 simp only [go_sem]
 replace h : sat (eV F s_0 f_1 x8_14) _ := h
 unfold eV at h
 exact zaP
attribute [go_sem] dN
def cP (F : Md) (s_0 : wv) (f_1 : (wd × Unit)) : Option Bool :=
 (dW F s_0 f_1).bind (fun v_8 => some (decide ((0 : Int) ≤ v_8)))
def hZ : PlR := ⟨[(0, .A [0, 1]), (1, .A [4])], []⟩
def iM : Ty := .pair (.sl qr) (.pair (.clo 80 (.pair (.rp (.sl qs)) .unit)) .unit)
def dD (F : Md) : aI := mSpec iM (.one .bool) (fun x => cP F x.1 x.2.1)
abbrev iN (F : Md) : List (FuncId × aI) := [(116, (dN F))]
theorem pG [Mx] (F : Md) : bH Tryz.prog GL (iN F) := .cons (qC F) xAa (.nil)
attribute [go_sem] iM hZ
theorem oQ [Mx] (F : Md) : FOK Tryz.prog GL 76 (dD F) := by
 refine bT (aU (pG F)) mix Tryz.func76 rfl xAa xAc hZ fun w0 S x Θ hw h hF => ?_
 obtain ⟨(s_0 : wv), (f_1 : (wd × Unit)), u⟩ := x
 simp only [bZ, go_sem]
 replace h : sat (cP F s_0 f_1) _ := h
 unfold cP at h
 obtain ⟨v_8, hv, h⟩ := aP h
 exact zaR
attribute [go_sem] dD
def aAy (F : Md) (s_0 : qf) (x14_42 : Int) (x21_83 : Int) (l_84 : wd) : Option ((Int × wd) ⊕ (wd ⊕ Bool)) :=
 if x21_83 < (((s_0.2.2.2.2.2.2.2.2.1.getD (x14_42.toNat) ([], [], [], [], [], ())).2.2.2.1.length : Nat) : Int) then ck (0 ≤ x21_83 ∧ x21_83 < (((s_0.2.2.2.2.2.2.2.2.1.getD (x14_42.toNat) ([], [], [], [], [], ())).2.2.2.1.length : Nat) : Int)) (ck (¬ ((l_84.length : Int) = (0 : Int)) → ((0 : Int) < (l_84.length : Int))) (ck (¬ (((l_84.length : Int) = (0 : Int)) ∨ (¬ ((l_84.getD (0 : Nat) ([], [], [], [], ())).1 = (s_0.2.2.2.2.2.2.2.2.1.getD (x14_42.toNat) ([], [], [], [], [], ())).1))) → ((0 : Int) < (l_84.length : Int))) (if (((l_84.length : Int) = (0 : Int)) ∨ (¬ ((l_84.getD (0 : Nat) ([], [], [], [], ())).1 = (s_0.2.2.2.2.2.2.2.2.1.getD (x14_42.toNat) ([], [], [], [], [], ())).1))) ∨ (¬ ((l_84.getD (0 : Nat) ([], [], [], [], ())).2.1 = ((s_0.2.2.2.2.2.2.2.2.1.getD (x14_42.toNat) ([], [], [], [], [], ())).2.2.2.1.getD (x21_83.toNat) ([] : List Nat)))) then some (.inr (.inr false)) else ck ((0 : Int) < (l_84.length : Int)) ((aCX F s_0 (l_84.getD (0 : Nat) ([], [], [], [], ())).2.2.1).bind (fun v_99 => ck (¬ (v_99 < (0 : Int)) → (0 ≤ v_99 ∧ v_99 < (s_0.2.2.2.2.2.2.2.2.1.length : Int))) (ck (¬ (v_99 < (0 : Int)) → ((cP F (s_0.2.2.2.2.2.2.2.2.1.getD (v_99.toNat) ([], [], [], [], [], ())).2.2.2.2.1 (l_84, ())).isSome = true)) (if (v_99 < (0 : Int)) ∨ (¬ (((cP F (s_0.2.2.2.2.2.2.2.2.1.getD (v_99.toNat) ([], [], [], [], [], ())).2.2.2.2.1 (l_84, ())).getD false) = true)) then some (.inr (.inr false)) else ck ((1 : Int) ≤ (l_84.length : Int)) (ck (I64 (x21_83 + (1 : Int))) (some (.inl ((x21_83 + (1 : Int)), (List.drop (1 : Nat) l_84)))))))))))) else some (.inr (.inl l_84))
def aAz (F : Md) (s_0 : qf) (x14_42 : Int) (l_43 : wd) : Option ((Int × wd) ⊕ (wd ⊕ Bool)) :=
 if x14_42 < (s_0.2.2.2.2.2.2.2.2.1.length : Int) then ck (0 ≤ x14_42 ∧ x14_42 < (s_0.2.2.2.2.2.2.2.2.1.length : Int)) ((eJ F (fun d : Int × wd => aAy F s_0 x14_42 d.1 d.2) ((0 : Int), l_43)).bind (fun e => match e with | (.inl e) => ck (I64 (x14_42 + (1 : Int))) (some (.inl ((x14_42 + (1 : Int)), e))) | (.inr e) => some (.inr (.inr e)))) else some (.inr (.inl l_43))
def vE (F : Md) (s_0 : qf) : Option Bool :=
 (eJ F (fun d : Int × wd => aAz F s_0 d.1 d.2) ((0 : Int), s_0.2.2.2.2.2.2.2.2.2.1)).bind (fun e => match e with | (.inl e) => some (decide ((e.length : Int) = (0 : Int))) | (.inr e) => some e)
def aGP : PlR := ⟨[(0, .B [1]), (1, .B [1, 3]), (2, .A [1, 3, 12, 13, 14]), (3, .A [1, 3, 12, 13, 14, 15]), (4, .B [1, 3, 5, 12, 13, 14]), (5, .A [1, 3, 5, 12, 13, 14, 19, 20, 21]), (6, .A [1, 3, 5, 12, 13, 14, 19, 20, 21, 22]), (7, .A [1, 3, 5, 7, 12, 13, 14, 19, 20, 21]), (8, .A [1, 3, 5, 12, 13, 14, 19, 20, 21, 44]), (9, .A [2]), (10, .A [1, 3, 5, 8, 12, 13, 14, 19, 20, 21]), (11, .A [1, 3, 5, 12, 13, 14, 19, 20, 21, 63]), (12, .A [2]), (13, .B [1, 3, 5, 12, 13, 14, 19, 20, 21]), (14, .A [1, 3, 5, 12, 13, 14, 19, 20, 21]), (15, .A [1, 3, 12, 13, 14]), (16, .A [2])], []⟩
def aH8 : Ty := .pair qj .unit
def yD (F : Md) : aI := mSpec aH8 (.one .bool) (fun x => vE F x.1)
abbrev aDF (F : Md) : List (FuncId × aI) := [(76, (dD F)), (79, (aBt F))]
theorem aQa [Mx] (F : Md) : bH Tryz.prog GL (aDF F) := .cons (oQ F) xAa (.cons (aQP F) xAa (.nil))
attribute [go_sem] aH8 aGP
theorem aOi [Mx] (F : Md) : FOK Tryz.prog GL 38 (yD F) := by
 refine bT (aU (aQa F)) mix Tryz.func38 rfl xAa xAc aGP fun w0 S x Θ hw h hF => ?_
 obtain ⟨(s_0 : qf), u⟩ := x
 simp only [bZ, go_sem]
 replace h : sat (vE F s_0) _ := h
 unfold vE at h
 refine cL hF (D := Int × wd) [12, 13] (fun d => [(1, .ptr 0 []), (3, .ptr 1 []), (14, .val qe d.1)]) (fun d => [.inr (.box 10 (.val qj s_0)), .inr (.box 1 (.val (.sl qs) d.2))]) h rfl xAb ?_
 rintro ⟨x14_42, l_43⟩ A3 T3 hA3 hE3 h
 simp only [go_sem]
 replace h : sat (aAz F s_0 x14_42 l_43) _ := h
 unfold aAz at h
 refine fY h (fun hc h => ?_) fun hc h => ?_
 ·obtain ⟨g0, h⟩ := aQ h
  repeat (refine ⟨zAA, ?_⟩)
  refine cL hF (D := Int × wd) [12, 13, 14, 19, 20] (fun d => [(1, .ptr 0 []), (3, .ptr 1 []), (5, .ptr 2 []), (21, .val qe d.1)]) (fun d => [.inr (.box 10 (.val qj s_0)), .inr (.box 1 (.val (.sl qs) d.2)), .inr (.box 5 (.val qa (s_0.2.2.2.2.2.2.2.2.1.getD (x14_42.toNat) ([], [], [], [], [], ()))))]) h rfl xAb ?_
  rintro ⟨x21_83, l_84⟩ A6 T6 hA6 hE6 h
  simp only [go_sem]
  replace h : sat (aAy F s_0 x14_42 x21_83 l_84) _ := h
  unfold aAy at h
  refine fY h (fun hc h => ?_) fun hc h => ?_
  ·obtain ⟨g0, h⟩ := aQ h
   repeat (refine ⟨zAA, ?_⟩)
   obtain ⟨g0, h⟩ := aQ h
   obtain ⟨g1, h⟩ := aQ h
   repeat (refine ⟨zAE, ?_⟩)
   refine ⟨fun hc => ?_, fun hc => ?_⟩
   ·replace h := jV hc h
    replace h := yaF (hE6 _ (aE h))
    replace h := yaF (hE3 _ (aE h))
    exact zaF
   ·replace h := jW hc h
    obtain ⟨g0, h⟩ := aQ h
    repeat (refine ⟨zAA, ?_⟩)
    obtain ⟨v_99, hv, h⟩ := aP h
    try simp only [hv, go_sem]
    obtain ⟨g0, h⟩ := aQ h
    obtain ⟨g1, h⟩ := aQ h
    repeat (refine ⟨zAE, ?_⟩)
    refine ⟨fun hc => ?_, fun hc => ?_⟩
    ·replace h := jV zAB h
     replace h := yaF (hE6 _ (aE h))
     replace h := yaF (hE3 _ (aE h))
     exact zaF
    ·replace h := jW zAB h
     obtain ⟨g0, h⟩ := aQ h
     repeat (refine ⟨zAA, ?_⟩)
     obtain ⟨g0, h⟩ := aQ h
     try simp only [I64, I32] at g0
     repeat (refine ⟨zAA, ?_⟩)
     replace h := hA6 _ (aE h)
     exact zaK
  ·replace h := yaF (hE6 _ (aE h))
   obtain ⟨g0, h⟩ := aQ h
   try simp only [I64, I32] at g0
   repeat (refine ⟨zAA, ?_⟩)
   replace h := hA3 _ (aE h)
   refine iB [0, 1] rfl rfl (yaA ?_)
   exact zaK
 ·replace h := yaF (hE3 _ (aE h))
  exact zaF
attribute [go_sem] yD
def aAA (F : Md) (s_0 : qf) (names_16 : qw) : Option (Bool) :=
 (tV F names_16).bind (fun v_20 => ck ((v_20 = true) → ((vE F s_0).isSome = true)) (some (v_20 && ((vE F s_0).getD false))))
def aDG (F : Md) (s_0 : qf) (x24_23 : Int) (names_24 : qw) : Option ((Int × qw) ⊕ (qw ⊕ Bool)) :=
 if x24_23 < (s_0.2.2.2.2.2.2.2.2.1.length : Int) then ck (0 ≤ x24_23 ∧ x24_23 < (s_0.2.2.2.2.2.2.2.2.1.length : Int)) ((aAw F (s_0.2.2.2.2.2.2.2.2.1.getD (x24_23.toNat) ([], [], [], [], [], ()))).bind (fun v_37 => if ¬ (v_37 = true) then some (.inr (.inr false)) else ck (((names_24.length) + (1 : Nat)) * 16 ≤ 140737488355328) (ck (I64 (x24_23 + (1 : Int))) (some (.inl ((x24_23 + (1 : Int)), (names_24 ++ ([(s_0.2.2.2.2.2.2.2.2.1.getD (x24_23.toNat) ([], [], [], [], [], ())).1] : List qd)))))))) else some (.inr (.inl names_24))
def aBS (F : Md) (s_0 : qf) : Option Bool :=
 (xZ F s_0).bind (fun v_7 => if ((¬ (v_7 = true)) ∨ ((s_0.2.2.2.2.2.2.2.2.1.length : Int) < (1 : Int))) ∨ ((4 : Int) < (s_0.2.2.2.2.2.2.2.2.1.length : Int)) then some false else (eJ F (fun d : Int × qw => aDG F s_0 d.1 d.2) ((0 : Int), ([] : List qd))).bind (fun e => match e with | (.inl e) => aAA F s_0 e | (.inr e) => some e))
def aLl : PlR := ⟨[(0, .B [1]), (1, .A [1, 20]), (2, .A [2]), (3, .A [1, 3]), (4, .A [1, 3, 22, 23, 24]), (5, .A [1, 3, 22, 23, 24, 25]), (6, .B [1, 3, 5, 22, 23, 24]), (7, .A [1, 3, 5, 22, 23, 24, 30]), (8, .A [2]), (9, .B [1, 3, 22, 23, 24]), (10, .A [1, 3, 22, 23, 24]), (11, .A [2])], [(7, 14)]⟩
def aNA : Ty := .pair qj .unit
def aCY (F : Md) : aI := mSpec aNA (.one .bool) (fun x => aBS F x.1)
abbrev aBT (F : Md) : List (FuncId × aI) := [(35, (vT F)), (36, (yC F)), (37, (sG F)), (38, (yD F))]
theorem aTt [Mx] (F : Md) : bH Tryz.prog GL (aBT F) := .cons (aMt F) xAa (.cons (aOh F) xAa (.cons (aHR F) xAa (.cons (aOi F) xAa (.nil))))
attribute [go_sem] aNA aLl
theorem aSn [Mx] (F : Md) : FOK Tryz.prog GL 16 (aCY F) := by
 refine bT (aU (aTt F)) mix Tryz.func16 rfl xAa xAc aLl fun w0 S x Θ hw h hF => ?_
 obtain ⟨(s_0 : qf), u⟩ := x
 simp only [bZ, go_sem]
 replace h : sat (aBS F s_0) _ := h
 unfold aBS at h
 obtain ⟨v_7, hv, h⟩ := aP h
 try simp only [hv, go_sem]
 refine ⟨fun hc => ?_, fun hc => ?_⟩
 ·replace h := jV zAB h
  exact zaF
 ·replace h := jW zAB h
  refine fD hF (D := qw) (fun d => sat (aAA F s_0 d) Θ) [] (fun d => [(1, .ptr 0 []), (3, .own 1)]) (fun d => [.inr (.box 10 (.val qj s_0)), .inr (.row 9 .str d)]) ?_ ?_
  ·simp only [go_sem]
   refine aDf 3 9 .str rfl (yaA ?_)
   refine cL hF (D := Int × qw) [22, 23] (fun d => [(1, .ptr 0 []), (3, .own 1), (24, .val qe d.1)]) (fun d => [.inr (.box 10 (.val qj s_0)), .inr (.row 9 .str d.2)]) h rfl xAb ?_
   rintro ⟨x24_23, names_24⟩ A5 T5 hA5 hE5 h
   simp only [go_sem]
   replace h : sat (aDG F s_0 x24_23 names_24) _ := h
   unfold aDG at h
   refine fY h (fun hc h => ?_) fun hc h => ?_
   ·obtain ⟨g0, h⟩ := aQ h
    repeat (refine ⟨by omega, ?_⟩)
    obtain ⟨v_37, hv, h⟩ := aP h
    try simp only [hv, go_sem]
    refine aEx h (fun hc h => ?_) fun hc h => ?_
    ·replace h := yaF (hE5 _ (aE h))
     exact zaF
    ·obtain ⟨g0, h⟩ := aQ h
     repeat (refine ⟨by omega, ?_⟩)
     obtain ⟨g0, h⟩ := aQ h
     repeat (refine ⟨by omega, ?_⟩)
     replace h := hA5 _ (aE h)
     refine iB [0, 3] rfl rfl (yaA ?_)
     exact zaK
   ·replace h := yaF (hE5 _ (aE h))
    exact aY (names_24) h rfl xAb
  ·rintro names_16 h
   simp only [go_sem]
   replace h : sat (aAA F s_0 names_16) _ := h
   unfold aAA at h
   obtain ⟨v_20, hv, h⟩ := aP h
   try simp only [hv, go_sem]
   obtain ⟨g0, h⟩ := aQ h
   repeat (refine ⟨by omega, ?_⟩)
   exact zaF
attribute [go_sem] aCY
end
end Nu
end Go.Proofs
namespace Go.Proofs
open Go.Vc
set_option maxRecDepth 20000
namespace Nu
noncomputable section
set_option maxHeartbeats 4000000
attribute [-go_sem] Ex.kind Ex.text Ex.l
def tO : gH where
 D := qf × (Int × qp) × Int × Unit
 av := fun _ => [.ptr 0 [], .ptr 1 [], .ptr 2 []]
 hp := fun d => [.box 10 (.val qj d.1), .box 2 (.val qn d.2.1), .box 1 (.val qe d.2.2.1)]
 m := 3
 pre := fun _ => True
 out := fun d => .ret (.tup []) [.box 10 (.val qj d.1), .box 2 (.val qn d.2.1), .box 1 (.val qe d.2.2.1)]
def eX (x : q8) : gH where
 D := Unit
 av := fun _ => [.ptr 0 [], .ptr 1 [], .ptr 2 []]
 hp := fun _ => [.box 10 .junk, .box 2 .junk, .box 1 .junk]
 m := 3
 pre := fun _ => True
 out := fun _ => .ret (.tup []) [.box 10 (.val qj ((0 : Int), (0 : Int), (0 : Int), (0 : Int), ([] : List Nat), ([] : List Nat), ([] : List Nat), ([] : List Nat), ([] : List qc), ([] : List qm), ())), .box 2 (.val qn (x).1), .box 1 (.val qe (6 : Int))]
theorem aMz [Mx] : DOK Tryz.prog GL 23 none tO := by
 refine aLR (aU aAS) Tryz.func23 rfl xAa (fun _ => Nat.le_of_ble_eq_true rfl) rfl fun c w d hw1 hw2 hp hn => ?_
 have hF : gD ⟨Tryz.prog, EM [], GM tO c d, w, Tryz.f23.ntmps, []⟩ := ⟨aU aAS, mix⟩
 obtain ⟨d0, d1, d2, du⟩ := d
 show sN _ _ _ [(6, .val .nili ()), (0, .ptr 0 []), (1, .ptr 1 []), (2, .ptr 2 [])] [.box 10 (.val qj d0), .box 2 (.val qn d1), .box 1 (.val qe d2)] _
 exact za1
theorem vZ [Mx] (x : q8) : DOK Tryz.prog GL 23 (some ⟨65, wi, x⟩) (eX x) := by
 refine aLR (aU aAS) Tryz.func23 rfl xAa (fun _ => Nat.le_of_ble_eq_true rfl) rfl fun c w d hw1 hw2 hp hn => ?_
 have hF : gD ⟨Tryz.prog, EM [], GM (eX x) c d, w, Tryz.f23.ntmps, []⟩ := ⟨aU aAS, mix⟩
 show sN _ _ _ [(6, .val (.ifc 65 wi) x), (0, .ptr 0 []), (1, .ptr 1 []), (2, .ptr 2 [])] [.box 10 .junk, .box 2 .junk, .box 1 .junk] _
 simp only [go_sem]
 refine aB (aF hF [0, 1, 2, 3, 10] (yaA ?_))
 refine aA (bC rfl (fun hc => ?_) (fun hc => absurd hc xAc))
 refine aDU hF [] [] [.box 10 (.val qj ((0 : Int), (0 : Int), (0 : Int), (0 : Int), ([] : List Nat), ([] : List Nat), ([] : List Nat), ([] : List Nat), ([] : List qc), ([] : List qm), ())), .box 2 (.val qn (x).1), .box 1 (.val qe (6 : Int)), .box 2 (.val wi x)] xAc ?_ ?_
 ·simp only [go_sem]
  exact zaX
 refine iB [0, 1, 2] rfl rfl (yaC ?_)
 exact zaf
def aBf (F : Md) (k_66 : Int) (s_67 : Int) (s_68 : Int) (s_69 : Int) (s_70 : Int) (s_71 : qd) (s_72 : qd) (s_73 : qd) (s_74 : qd) (x_75 : ww) (x_76 : wd) : Option (qf × ((Int × qp) × qp)) :=
 ck ((kQ F (s_67, s_68, s_69, s_70, s_71, s_72, s_73, s_74, x_75, x_76, ())).isSome = true) (ck (¬ (k_66 < (7 : Int)) → ((aBS F (s_67, s_68, s_69, s_70, s_71, s_72, s_73, s_74, x_75, ((kQ F (s_67, s_68, s_69, s_70, s_71, s_72, s_73, s_74, x_75, x_76, ())).getD ([] : List qm)), ())).isSome = true)) (if (k_66 < (7 : Int)) ∨ (¬ (((aBS F (s_67, s_68, s_69, s_70, s_71, s_72, s_73, s_74, x_75, ((kQ F (s_67, s_68, s_69, s_70, s_71, s_72, s_73, s_74, x_75, x_76, ())).getD ([] : List qm)), ())).getD false) = true)) then some (((0 : Int), (0 : Int), (0 : Int), (0 : Int), ([] : List Nat), ([] : List Nat), ([] : List Nat), ([] : List Nat), ([] : List qc), ([] : List qm), ()), (((0 : Int), (0 : Int), ()), ()).1, (6 : Int), ()) else some ((s_67, s_68, s_69, s_70, s_71, s_72, s_73, s_74, x_75, ((kQ F (s_67, s_68, s_69, s_70, s_71, s_72, s_73, s_74, x_75, x_76, ())).getD ([] : List qm)), ()), ((0 : Int), (0 : Int), ()), (0 : Int), ())))
def aFn (F : Md) (text_0 : qd) (k_91 : Int) (x18_92 : Int) (s_93 : Int) (s_94 : Int) (s_95 : Int) (s_96 : Int) (s_97 : qd) (s_98 : qd) (s_99 : qd) (s_100 : qd) (x_101 : ww) (x_102 : wd) : Option ((Int × Int × Int × Int × Int × Int × qd × qd × qd × qd × ww × wd) ⊕ ((Int × Int × Int × Int × Int × qd × qd × qd × qd × ww × wd) ⊕ q8)) :=
 if x18_92 < (((aEJ text_0 (aS ⟨#[10]⟩)).length : Nat) : Int) then ck (0 ≤ x18_92 ∧ x18_92 < (((aEJ text_0 (aS ⟨#[10]⟩)).length : Nat) : Int)) (ck (aQK ((aEJ text_0 (aS ⟨#[10]⟩)).getD (x18_92.toNat) ([] : List Nat)) (aS ⟨#[35]⟩)) (ck (I64 (x18_92 + (1 : Int))) (ck ((mJ F (xJ ((aEJ text_0 (aS ⟨#[10]⟩)).getD (x18_92.toNat) ([] : List Nat)) (aS ⟨#[35]⟩)).1 (aS ⟨#[32]⟩)).isSome = true) ((kC F ((x18_92 + (1 : Int)), (0 : Int), ((mJ F (xJ ((aEJ text_0 (aS ⟨#[10]⟩)).getD (x18_92.toNat) ([] : List Nat)) (aS ⟨#[35]⟩)).1 (aS ⟨#[32]⟩)).getD ([] : List Nat)), ())).bind (fun r_169 => if r_169.1 = (aS ⟨#[]⟩) then ck (I64 (x18_92 + (1 : Int))) (some (.inl (k_91, (x18_92 + (1 : Int)), s_93, s_94, s_95, s_96, s_97, s_98, s_99, s_100, x_101, x_102))) else if k_91 < (7 : Int) then (aCV F k_91 (s_93, s_94, s_95, s_96, s_97, s_98, s_99, s_100, x_101, x_102, ()) r_169.2).bind (fun e => match e with | .inl r_174 => ck (I64 (k_91 + (1 : Int))) (ck (I64 (x18_92 + (1 : Int))) (some (.inl ((k_91 + (1 : Int)), (x18_92 + (1 : Int)), r_174.1.1, r_174.1.2.1, r_174.1.2.2.1, r_174.1.2.2.2.1, r_174.1.2.2.2.2.1, r_174.1.2.2.2.2.2.1, r_174.1.2.2.2.2.2.2.1, r_174.1.2.2.2.2.2.2.2.1, r_174.1.2.2.2.2.2.2.2.2.1, r_174.1.2.2.2.2.2.2.2.2.2.1)))) | .inr p_175 => some (.inr (.inr p_175))) else (aAt F (s_93, s_94, s_95, s_96, s_97, s_98, s_99, s_100, x_101, x_102, ()) r_169.2).bind (fun e => match e with | .inl r_176 => ck (I64 (k_91 + (1 : Int))) (ck (I64 (x18_92 + (1 : Int))) (some (.inl ((k_91 + (1 : Int)), (x18_92 + (1 : Int)), r_176.1.1, r_176.1.2.1, r_176.1.2.2.1, r_176.1.2.2.2.1, r_176.1.2.2.2.2.1, r_176.1.2.2.2.2.2.1, r_176.1.2.2.2.2.2.2.1, r_176.1.2.2.2.2.2.2.2.1, r_176.1.2.2.2.2.2.2.2.2.1, r_176.1.2.2.2.2.2.2.2.2.2.1)))) | .inr p_177 => some (.inr (.inr p_177)))))))) else some (.inr (.inl (k_91, s_93, s_94, s_95, s_96, s_97, s_98, s_99, s_100, x_101, x_102)))
def xQ (F : Md) (text_0 : qd) : Option (qf × ((Int × qp) × qp)) :=
 if (20000 : Int) < (text_0.length : Int) then some (((0 : Int), (0 : Int), (0 : Int), (0 : Int), ([] : List Nat), ([] : List Nat), ([] : List Nat), ([] : List Nat), ([] : List qc), ([] : List qm), ()), (((0 : Int), (0 : Int), ()), ()).1, (6 : Int), ()) else ck (aQK text_0 (aS ⟨#[10]⟩)) ((eJ F (fun d : Int × Int × Int × Int × Int × Int × qd × qd × qd × qd × ww × wd => aFn F text_0 d.1 d.2.1 d.2.2.1 d.2.2.2.1 d.2.2.2.2.1 d.2.2.2.2.2.1 d.2.2.2.2.2.2.1 d.2.2.2.2.2.2.2.1 d.2.2.2.2.2.2.2.2.1 d.2.2.2.2.2.2.2.2.2.1 d.2.2.2.2.2.2.2.2.2.2.1 d.2.2.2.2.2.2.2.2.2.2.2) ((0 : Int), (0 : Int), (0 : Int), (0 : Int), (0 : Int), (0 : Int), ([] : List Nat), ([] : List Nat), ([] : List Nat), ([] : List Nat), ([] : List qc), ([] : List qm))).bind (fun e => match e with | (.inl e) => aBf F e.1 e.2.1 e.2.2.1 e.2.2.2.1 e.2.2.2.2.1 e.2.2.2.2.2.1 e.2.2.2.2.2.2.1 e.2.2.2.2.2.2.2.1 e.2.2.2.2.2.2.2.2.1 e.2.2.2.2.2.2.2.2.2.1 e.2.2.2.2.2.2.2.2.2.2 | (.inr e) => some (((0 : Int), (0 : Int), (0 : Int), (0 : Int), ([] : List Nat), ([] : List Nat), ([] : List Nat), ([] : List Nat), ([] : List qc), ([] : List qm), ()), (e).1, (6 : Int), ())))
@[go_sem]def aBu : Ty := .pair .str .unit
def aAB (F : Md) : aI := mSpec aBu (.tup (.pair qj (.pair qn q9))) (fun x => xQ F x.1)
abbrev pO (F : Md) : List (FuncId × aI) := [(16, (aCY F)), (24, vS), (25, nS), (26, (rG F)), (30, (vW F))]
theorem aJa [Mx] (F : Md) : bH Tryz.prog GL (pO F) := .cons (aSn F) xAa (.cons aMs xAa (.cons aDz xAa (.cons (aHV F) xAa (.cons (aMv F) xAa (.nil)))))
theorem aQf [Mx] (F : Md) : FOK Tryz.prog GL 11 (aAB F) := by
 refine aFS (aM0 (aJa F)) Tryz.func11 rfl xAa xAc fun w0 S x r hw h => ?_
 have hF : gD (fr Tryz.prog (EX (pO F)) S w0 Tryz.f11.ntmps) := ⟨aM0 (aJa F), mix⟩
 obtain ⟨(text_0 : qd), u⟩ := x
 simp only [aBu, Ty.wf, fG] at hw
 simp only [bZ, aBu]
 try dsimp only at h
 replace h : xQ F text_0 = some r := h
 unfold xQ at h
 refine aB (aR hF [0, 2, 3, 4] (yaB ?_))
 refine aA (aRf (aBh 3 [0, 1, 2] rfl rfl (Nat.zero_le _) xAc fun roots hroots => (yaA ?_)))
 have hF : gD { fr Tryz.prog (EX (pO F)) S w0 Tryz.f11.ntmps with M := ⟨nothing, S, 3, roots⟩, ds := [⟨.fn (.func 23) ([0, 1, 2].map roots).toArray, #[]⟩] } := ⟨hF.env, mix⟩
 refine aB (aB (aF hF [0, 2, 3, 4, 12] (yaB ?_)))
 refine aA (bC rfl (fun hc => ?_) (fun hc => ?_))
 ·try simp only [go_sem] at hc
  have h := dP zAB h
  refine aC hF (aG (l := []) (.nil)) [0, 2, 3, 4] [] (yaB ?_)
  exact zaY
 ·try simp only [go_sem] at hc
  have h := dQ zAB h
  refine bY (aA (aB (aF hF [0, 2, 3, 4, 5] (yaB ?_))))
  refine aA (aB (aQ8 (aA (oB (D := Int × Int × Int × Int × Int × qd × qd × qd × qd × ww × wd) (fun d => aBf F d.1 d.2.1 d.2.2.1 d.2.2.2.1 d.2.2.2.2.1 d.2.2.2.2.2.1 d.2.2.2.2.2.2.1 d.2.2.2.2.2.2.2.1 d.2.2.2.2.2.2.2.2.1 d.2.2.2.2.2.2.2.2.2.1 d.2.2.2.2.2.2.2.2.2.2 = some r) [] (fun d => [(2, .ptr 0 []), (3, .ptr 1 []), (4, .ptr 2 []), (5, .val qe d.1)]) (fun d => [.inr (.box 10 (.agg [.val qe d.2.1, .val qe d.2.2.1, .val qe d.2.2.2.1, .val qe d.2.2.2.2.1, .val .str d.2.2.2.2.2.1, .val .str d.2.2.2.2.2.2.1, .val .str d.2.2.2.2.2.2.2.1, .val .str d.2.2.2.2.2.2.2.2.1, .own 3, .own 4])), .inr (.box 2 (.val qn ((0 : Int), (0 : Int), ()))), .inr (.box 1 (.val qe (0 : Int))), .inr (.tre 53 qh qa d.2.2.2.2.2.2.2.2.2.1), .inr (.row 83 qs d.2.2.2.2.2.2.2.2.2.2)]) ?_ ?_))))
  ·refine aB (aF hF [2, 3, 4, 5, 16, 17, 18] (yaA ?_))
   obtain ⟨g0, h⟩ := aM h
   repeat (refine ⟨zAA, ?_⟩)
   refine aA (dH (aPm 0 8 53 qh qa rfl rfl rfl (yaA ?_)))
   refine aPm 0 9 83 .no qs rfl rfl rfl (yaA ?_)
   refine oC (D := Int × Int × Int × Int × Int × Int × qd × qd × qd × qd × ww × wd) [16, 17] (fun d => [(2, .ptr 0 []), (3, .ptr 1 []), (4, .ptr 2 []), (5, .val qe d.1), (18, .val qe d.2.1)]) (fun d => [.inr (.box 10 (.agg [.val qe d.2.2.1, .val qe d.2.2.2.1, .val qe d.2.2.2.2.1, .val qe d.2.2.2.2.2.1, .val .str d.2.2.2.2.2.2.1, .val .str d.2.2.2.2.2.2.2.1, .val .str d.2.2.2.2.2.2.2.2.1, .val .str d.2.2.2.2.2.2.2.2.2.1, .own 3, .own 4])), .inr (.box 2 (.val qn ((0 : Int), (0 : Int), ()))), .inr (.box 1 (.val qe (0 : Int))), .inr (.tre 53 qh qa d.2.2.2.2.2.2.2.2.2.2.1), .inr (.row 83 qs d.2.2.2.2.2.2.2.2.2.2.2)]) h ?_ ?_ ?_
   ·first | rfl | (simp only [go_sem]; done)
   ·exact zAG
   rintro ⟨k_91, x18_92, s_93, s_94, s_95, s_96, s_97, s_98, s_99, s_100, x_101, x_102⟩ s6 h hs6
   simp only [go_sem]
   try dsimp only at h
   unfold aFn at h
   refine aB (aF hF [2, 3, 4, 5, 16, 17, 18, 19] (yaB ?_))
   refine aA (aB (bC rfl (fun hc => ?_) (fun hc => ?_)))
   ·try simp only [go_sem] at hc
    have h := dP zAB h
    refine bY (aA (aB (dH (aB (aF hF [2, 3, 4, 5, 6, 7, 16, 17, 18] (yaA ?_))))))
    obtain ⟨g0, h⟩ := aM h
    repeat (refine ⟨zAA, ?_⟩)
    refine aA (aB (aF hF [2, 3, 4, 5, 6, 7, 16, 17, 18] (yaA ?_)))
    obtain ⟨g0, h⟩ := aM h
    repeat (refine ⟨zAA, ?_⟩)
    refine aA (aB (aR hF [2, 3, 4, 5, 8, 16, 17, 18] (yaA ?_)))
    obtain ⟨g0, h⟩ := aM h
    try simp only [I64, I32] at g0
    repeat (refine ⟨zAA, ?_⟩)
    obtain ⟨g0, h⟩ := aM h
    repeat (refine ⟨zAA, ?_⟩)
    obtain ⟨r_169, he1, h⟩ := bind_some h
    try dsimp only at h
    refine aA (aB (aB (aC hF (aG (l := [(27, ⟨gU F, [5], (((x18_92 + (1 : Int)), (0 : Int), ((mJ F (xJ ((aEJ text_0 (aS ⟨#[10]⟩)).getD (x18_92.toNat) ([] : List Nat)) (aS ⟨#[35]⟩)).1 (aS ⟨#[32]⟩)).getD ([] : List Nat)), ()), r_169)⟩)]) (.cons (mV F) xAa (.nil))) [2, 3, 4, 5, 8, 16, 17, 18, 37] [] (yaB ?_))))
    refine aA (bC rfl (fun hc => ?_) (fun hc => ?_))
    ·try simp only [go_sem] at hc
     have h := dP zAB h
     refine pV (cV (fH (aA (aF hF [2, 3, 4, 5, 16, 17, 18] (yaA ?_)))))
     obtain ⟨g0, h⟩ := aM h
     try simp only [I64, I32] at g0
     repeat (refine ⟨zAA, ?_⟩)
     obtain rfl := Option.some.inj h
     dsimp only [lR] at hs6
     refine bO (iB [0, 1, 2, 3, 4] rfl rfl (yaC ?_))
     refine aY (k_91, (x18_92 + (1 : Int)), s_93, s_94, s_95, s_96, s_97, s_98, s_99, s_100, x_101, x_102) hs6 rfl ?_
     ·exact zAG
    ·try simp only [go_sem] at hc
     have h := dQ zAB h
     refine bY (aA (aB (aB (aF hF [2, 3, 4, 5, 8, 16, 17, 18, 39] (yaB ?_)))))
     refine aA (bC rfl (fun hc => ?_) (fun hc => ?_))
     ·try simp only [go_sem] at hc
      have h := dP zAB h
      obtain ⟨e, he2, h⟩ := bind_some h
      rcases e with r_174 | p_175
      ·try dsimp only at h
       refine aC hF (aG (l := [(28, ⟨xO F, [0, 5, 3, 4], (k_91, (s_93, s_94, s_95, s_96, s_97, s_98, s_99, s_100, x_101, x_102, ()), r_169.2, .inl r_174)⟩)]) (.cons (aI7 F) xAa (.nil))) [2, 3, 4, 5, 16, 17, 18] [] (yaE ?_)
       refine aA (aF hF [2, 3, 4, 5, 16, 17, 18] (yaA ?_))
       obtain ⟨g0, h⟩ := aM h
       try simp only [I64, I32] at g0
       repeat (refine ⟨zAA, ?_⟩)
       refine aZ (aA (aF hF [2, 3, 4, 5, 16, 17, 18] (yaA ?_)))
       obtain ⟨g0, h⟩ := aM h
       try simp only [I64, I32] at g0
       repeat (refine ⟨zAA, ?_⟩)
       obtain rfl := Option.some.inj h
       dsimp only [lR] at hs6
       refine bO (iB [0, 1, 2, 6, 7] rfl rfl (yaC ?_))
       refine aY ((k_91 + (1 : Int)), (x18_92 + (1 : Int)), r_174.1.1, r_174.1.2.1, r_174.1.2.2.1, r_174.1.2.2.2.1, r_174.1.2.2.2.2.1, r_174.1.2.2.2.2.2.1, r_174.1.2.2.2.2.2.2.1, r_174.1.2.2.2.2.2.2.2.1, r_174.1.2.2.2.2.2.2.2.2.1, r_174.1.2.2.2.2.2.2.2.2.2.1) hs6 rfl ?_
       ·exact zAG
      ·try dsimp only at h
       refine aC hF (aG (l := [(28, ⟨xO F, [0, 5, 3, 4], (k_91, (s_93, s_94, s_95, s_96, s_97, s_98, s_99, s_100, x_101, x_102, ()), r_169.2, .inr p_175)⟩)]) (.cons (aI7 F) xAa (.nil))) [2, 3, 4, 5, 16, 17, 18] [] (yaE ?_)
       obtain rfl := Option.some.inj h
       dsimp only [lR] at hs6
       have h := yaF (hs6)
       obtain rfl := Option.some.inj h
       refine aO (bX (aO (aO (bX (aO (aIv (aL (aJ 0 rfl aH) ?_)))))))
       refine aL (aJ 1 rfl aH) ?_
       refine aL (aJ 2 rfl aH) (yaA ?_)
       refine aCv (fn := Tryz.f11) (k := 3) (l2 := [0, 1, 2]) hF rfl rfl xAc rfl (sO xAa) ⟨eX (p_175), [0, 1, 2], ()⟩ (vZ (p_175)) rfl [.cell 2 36, .cell 3 38, .cell 4 3] rfl ?_ ?_
       ·(simp only [eX, go_sem]) <;> first | decide | trivial
       ·(simp only [eX, aT, iF, go_sem]) <;> first | decide | trivial | rfl | (simp; done)
     ·try simp only [go_sem] at hc
      have h := dQ zAB h
      obtain ⟨e, he3, h⟩ := bind_some h
      rcases e with r_176 | p_177
      ·try dsimp only at h
       refine aC hF (aG (l := [(29, ⟨tN F, [0, 5, 3, 4], ((s_93, s_94, s_95, s_96, s_97, s_98, s_99, s_100, x_101, x_102, ()), r_169.2, .inl r_176)⟩)]) (.cons (aGM F) xAa (.nil))) [2, 3, 4, 5, 16, 17, 18] [] (yaE ?_)
       refine aA (aF hF [2, 3, 4, 5, 16, 17, 18] (yaA ?_))
       obtain ⟨g0, h⟩ := aM h
       try simp only [I64, I32] at g0
       repeat (refine ⟨zAA, ?_⟩)
       refine aZ (aA (aF hF [2, 3, 4, 5, 16, 17, 18] (yaA ?_)))
       obtain ⟨g0, h⟩ := aM h
       try simp only [I64, I32] at g0
       repeat (refine ⟨zAA, ?_⟩)
       obtain rfl := Option.some.inj h
       dsimp only [lR] at hs6
       refine bO (iB [0, 1, 2, 6, 7] rfl rfl (yaC ?_))
       refine aY ((k_91 + (1 : Int)), (x18_92 + (1 : Int)), r_176.1.1, r_176.1.2.1, r_176.1.2.2.1, r_176.1.2.2.2.1, r_176.1.2.2.2.2.1, r_176.1.2.2.2.2.2.1, r_176.1.2.2.2.2.2.2.1, r_176.1.2.2.2.2.2.2.2.1, r_176.1.2.2.2.2.2.2.2.2.1, r_176.1.2.2.2.2.2.2.2.2.2.1) hs6 rfl ?_
       ·exact zAG
      ·try dsimp only at h
       refine aC hF (aG (l := [(29, ⟨tN F, [0, 5, 3, 4], ((s_93, s_94, s_95, s_96, s_97, s_98, s_99, s_100, x_101, x_102, ()), r_169.2, .inr p_177)⟩)]) (.cons (aGM F) xAa (.nil))) [2, 3, 4, 5, 16, 17, 18] [] (yaE ?_)
       obtain rfl := Option.some.inj h
       dsimp only [lR] at hs6
       have h := yaF (hs6)
       obtain rfl := Option.some.inj h
       refine aO (bX (aO (aO (bX (aO (aIv (aL (aJ 0 rfl aH) ?_)))))))
       refine aL (aJ 1 rfl aH) ?_
       refine aL (aJ 2 rfl aH) (yaA ?_)
       refine aCv (fn := Tryz.f11) (k := 3) (l2 := [0, 1, 2]) hF rfl rfl xAc rfl (sO xAa) ⟨eX (p_177), [0, 1, 2], ()⟩ (vZ (p_177)) rfl [.cell 2 36, .cell 3 38, .cell 4 3] rfl ?_ ?_
       ·(simp only [eX, go_sem]) <;> first | decide | trivial
       ·(simp only [eX, aT, iF, go_sem]) <;> first | decide | trivial | rfl | (simp; done)
   ·try simp only [go_sem] at hc
    have h := dQ zAB h
    obtain rfl := Option.some.inj h
    dsimp only [lR] at hs6
    have h := yaF (hs6)
    refine pV (cV (cV (fH (bO (aY (k_91, s_93, s_94, s_95, s_96, s_97, s_98, s_99, s_100, x_101, x_102) h rfl ?_)))))
    ·exact zAG
  ·rintro ⟨k_66, s_67, s_68, s_69, s_70, s_71, s_72, s_73, s_74, x_75, x_76⟩ h
   try dsimp only at h
   simp only [go_sem]
   unfold aBf at h
   refine aB (aR hF [2, 3, 4, 5] (yaA ?_))
   obtain ⟨g0, h⟩ := aM h
   repeat (refine ⟨zAA, ?_⟩)
   refine aA (aB (aB (aF hF [2, 3, 4, 57] (yaA ?_))))
   obtain ⟨g0, h⟩ := aM h
   repeat (refine ⟨zAC, ?_⟩)
   refine aA (bC rfl (fun hc => ?_) (fun hc => ?_))
   ·try simp only [go_sem] at hc
    have h := dP zAB h
    refine aC hF (aG (l := []) (.nil)) [2, 3, 4] [] (yaB ?_)
    exact zaY
   ·try simp only [go_sem] at hc
    have h := dQ zAB h
    refine bY (aA (aB (aR hF [2, 3, 4] (yaB ?_))))
    refine aA (cA (aRR (aVV (aYG 0 (t := qj) (s_67, s_68, s_69, s_70, s_71, s_72, s_73, s_74, x_75, ((kQ F (s_67, s_68, s_69, s_70, s_71, s_72, s_73, s_74, x_75, x_76, ())).getD ([] : List qm)), ()) rfl (by first | rfl | (simp only [go_sem]; done)) aH) (yaA ?_))))
    obtain rfl := Option.some.inj h
    refine aOB (fn := Tryz.f11) (k := 3) (l2 := [0, 1, 2]) hF rfl rfl xAc rfl (sO xAa) ⟨tO, [0, 1, 2], ((s_67, s_68, s_69, s_70, s_71, s_72, s_73, s_74, x_75, ((kQ F (s_67, s_68, s_69, s_70, s_71, s_72, s_73, s_74, x_75, x_76, ())).getD ([] : List qm)), ()), ((0 : Int), (0 : Int), ()), (0 : Int), ())⟩ aMz rfl [.cell 2 36, .cell 3 38, .cell 4 3] rfl ?_ ?_
    ·(simp only [tO, go_sem]) <;> first | decide | trivial
    ·(simp only [tO, aT, iF, go_sem]) <;> first | decide | trivial | rfl | (simp; done)
attribute [go_sem] aAB
end
end Nu
end Go.Proofs
namespace Go.Proofs
open Go.Vc
set_option maxRecDepth 20000
namespace Nu
noncomputable section
set_option maxHeartbeats 4000000
attribute [-go_sem] Ex.kind Ex.text Ex.l
def qR (F : Md) (a0_0 : (List wc)) (a1_1 : (List wc)) (x13_5 : Int) : Option ((Int) ⊕ ((Unit) ⊕ Bool)) :=
 if x13_5 < (a0_0.length : Int) then ck (0 ≤ x13_5 ∧ x13_5 < (a0_0.length : Int)) (ck (0 ≤ x13_5 ∧ x13_5 < (a1_1.length : Int)) (if ¬ ((Ty.eqb qu (a0_0.getD (x13_5.toNat) ([], ([], [], ()), ())) (a1_1.getD (x13_5.toNat) ([], ([], [], ()), ()))) = true) then some (.inr (.inr false)) else ck (I64 (x13_5 + (1 : Int))) (some (.inl (x13_5 + (1 : Int)))))) else some (.inr (.inl ()))
def jS (F : Md) (a0_0 : (List wc)) (a1_1 : (List wc)) : Option Bool :=
 if ¬ ((a0_0.length : Int) = (a1_1.length : Int)) then some false else (eJ F (fun d : Int => qR F a0_0 a1_1 d) (0 : Int)).bind (fun e => match e with | (.inl e) => some true | (.inr e) => some e)
def zH : PlR := ⟨[(0, .A [0, 1]), (1, .A [0, 1, 10]), (2, .A [4]), (3, .A [0, 1, 12, 13]), (4, .A [0, 1, 12, 13, 14]), (5, .A [0, 1, 5, 12, 13]), (6, .A [0, 1, 12, 13, 24]), (7, .A [4]), (8, .A [0, 1, 12, 13]), (9, .A [4])], []⟩
def aAC : Ty := .pair (.sl qu) (.pair (.sl qu) .unit)
def oH (F : Md) : aI := mSpec aAC (.one .bool) (fun x => jS F x.1 x.2.1)
abbrev aGm (F : Md) : List (FuncId × aI) := []
theorem aGn [Mx] (F : Md) : bH Tryz.prog GL (aGm F) := .nil
attribute [go_sem] aAC zH
theorem aFo [Mx] (F : Md) : FOK Tryz.prog GL 65 (oH F) := by
 refine bT (aU (aGn F)) mix Tryz.func65 rfl xAa xAc zH fun w0 S x Θ hw h hF => ?_
 obtain ⟨(a0_0 : (List wc)), (a1_1 : (List wc)), u⟩ := x
 simp only [bZ, go_sem]
 replace h : sat (jS F a0_0 a1_1) _ := h
 unfold jS at h
 refine fL h (fun hc h => ?_) fun hc h => ?_
 ·exact aK hF [.tmp 4] rfl rfl rfl (aE h) xAd
 ·refine cL hF (D := Int) [0, 1, 12] (fun d => [(13, .val qe d)]) (fun d => []) h rfl xAb ?_
  rintro x13_5 A4 T4 hA4 hE4 h
  simp only [go_sem]
  replace h : sat (qR F a0_0 a1_1 x13_5) _ := h
  unfold qR at h
  exact zac
attribute [go_sem] oH
def rP (F : Md) (a0_0 : qw) (a1_1 : qw) (x13_5 : Int) : Option ((Int) ⊕ ((Unit) ⊕ Bool)) :=
 if x13_5 < (a0_0.length : Int) then ck (0 ≤ x13_5 ∧ x13_5 < (a0_0.length : Int)) (ck (0 ≤ x13_5 ∧ x13_5 < (a1_1.length : Int)) (if ¬ ((a0_0.getD (x13_5.toNat) ([] : List Nat)) = (a1_1.getD (x13_5.toNat) ([] : List Nat))) then some (.inr (.inr false)) else ck (I64 (x13_5 + (1 : Int))) (some (.inl (x13_5 + (1 : Int)))))) else some (.inr (.inl ()))
def mS (F : Md) (a0_0 : qw) (a1_1 : qw) : Option Bool :=
 if ¬ ((a0_0.length : Int) = (a1_1.length : Int)) then some false else (eJ F (fun d : Int => rP F a0_0 a1_1 d) (0 : Int)).bind (fun e => match e with | (.inl e) => some true | (.inr e) => some e)
def aAD : PlR := ⟨[(0, .A [0, 1]), (1, .A [0, 1, 10]), (2, .A [4]), (3, .A [0, 1, 12, 13]), (4, .A [0, 1, 12, 13, 14]), (5, .A [0, 1, 5, 12, 13]), (6, .A [0, 1, 12, 13, 24]), (7, .A [4]), (8, .A [0, 1, 12, 13]), (9, .A [4])], []⟩
def aA2 : Ty := .pair wh (.pair wh .unit)
def pH (F : Md) : aI := mSpec aA2 (.one .bool) (fun x => mS F x.1 x.2.1)
abbrev aG7 (F : Md) : List (FuncId × aI) := []
theorem aG8 [Mx] (F : Md) : bH Tryz.prog GL (aG7 F) := .nil
attribute [go_sem] aA2 aAD
theorem aGo [Mx] (F : Md) : FOK Tryz.prog GL 66 (pH F) := by
 refine bT (aU (aG8 F)) mix Tryz.func66 rfl xAa xAc aAD fun w0 S x Θ hw h hF => ?_
 obtain ⟨(a0_0 : qw), (a1_1 : qw), u⟩ := x
 simp only [bZ, go_sem]
 replace h : sat (mS F a0_0 a1_1) _ := h
 unfold mS at h
 refine fL h (fun hc h => ?_) fun hc h => ?_
 ·exact aK hF [.tmp 4] rfl rfl rfl (aE h) xAd
 ·refine cL hF (D := Int) [0, 1, 12] (fun d => [(13, .val qe d)]) (fun d => []) h rfl xAb ?_
  rintro x13_5 A4 T4 hA4 hE4 h
  simp only [go_sem]
  replace h : sat (rP F a0_0 a1_1 x13_5) _ := h
  unfold rP at h
  refine fY h (fun hc h => ?_) fun hc h => ?_
  ·refine bB h fun g0 h => bB h fun g1 h => ?_
   refine fL h (fun hc h => ?_) fun hc h => ?_
   ·replace h := yaF (hE4 _ (aE h))
    exact zaD
   ·refine bB h fun g0 h => ?_
    replace h := hA4 _ (aE h)
    exact zaK
  ·replace h := yaF (hE4 _ (aE h))
   exact zaD
attribute [go_sem] pH
def qD (F : Md) (a0_0 : wd) (a1_1 : wd) (x13_5 : Int) : Option ((Int) ⊕ ((Unit) ⊕ Bool)) :=
 if x13_5 < (a0_0.length : Int) then ck (0 ≤ x13_5 ∧ x13_5 < (a0_0.length : Int)) (ck (0 ≤ x13_5 ∧ x13_5 < (a1_1.length : Int)) (if ¬ ((Ty.eqb qs (a0_0.getD (x13_5.toNat) ([], [], [], [], ())) (a1_1.getD (x13_5.toNat) ([], [], [], [], ()))) = true) then some (.inr (.inr false)) else ck (I64 (x13_5 + (1 : Int))) (some (.inl (x13_5 + (1 : Int)))))) else some (.inr (.inl ()))
def lJ (F : Md) (a0_0 : wd) (a1_1 : wd) : Option Bool :=
 if ¬ ((a0_0.length : Int) = (a1_1.length : Int)) then some false else (eJ F (fun d : Int => qD F a0_0 a1_1 d) (0 : Int)).bind (fun e => match e with | (.inl e) => some true | (.inr e) => some e)
def xR : PlR := ⟨[(0, .A [0, 1]), (1, .A [0, 1, 10]), (2, .A [4]), (3, .A [0, 1, 12, 13]), (4, .A [0, 1, 12, 13, 14]), (5, .A [0, 1, 5, 12, 13]), (6, .A [0, 1, 12, 13, 24]), (7, .A [4]), (8, .A [0, 1, 12, 13]), (9, .A [4])], []⟩
def zI : Ty := .pair (.sl qs) (.pair (.sl qs) .unit)
def nF (F : Md) : aI := mSpec zI (.one .bool) (fun x => lJ F x.1 x.2.1)
abbrev aFp (F : Md) : List (FuncId × aI) := []
theorem aFq [Mx] (F : Md) : bH Tryz.prog GL (aFp F) := .nil
attribute [go_sem] zI xR
theorem aEP [Mx] (F : Md) : FOK Tryz.prog GL 33 (nF F) := by
 refine bT (aU (aFq F)) mix Tryz.func33 rfl xAa xAc xR fun w0 S x Θ hw h hF => ?_
 obtain ⟨(a0_0 : wd), (a1_1 : wd), u⟩ := x
 simp only [bZ, go_sem]
 replace h : sat (lJ F a0_0 a1_1) _ := h
 unfold lJ at h
 refine fL h (fun hc h => ?_) fun hc h => ?_
 ·exact aK hF [.tmp 4] rfl rfl rfl (aE h) xAd
 ·refine cL hF (D := Int) [0, 1, 12] (fun d => [(13, .val qe d)]) (fun d => []) h rfl xAb ?_
  rintro x13_5 A4 T4 hA4 hE4 h
  simp only [go_sem]
  replace h : sat (qD F a0_0 a1_1 x13_5) _ := h
  unfold qD at h
  exact zac
attribute [go_sem] nF
@[go_sem]def wA : Ty := .pair .expr (.pair .expr .unit)
def mF (g : Ex → Ex → Option (Bool)) : aI := mSpec wA (.one .bool) (fun x => g x.1 x.2.1)
attribute [go_sem] mF
def cT (F : Md) (g : Ex → Ex → Option (Bool)) (a0_0 : wz) (a1_1 : wz) (x17_15 : Int) : Option ((Int) ⊕ ((Unit) ⊕ Bool)) :=
 if x17_15 < (a0_0.length : Int) then ck (0 ≤ x17_15 ∧ x17_15 < (a0_0.length : Int)) (ck (0 ≤ x17_15 ∧ x17_15 < (a1_1.length : Int)) ((g (a0_0.getD (x17_15.toNat) (Ex.mk 0 [] [])) (a1_1.getD (x17_15.toNat) (Ex.mk 0 [] []))).bind (fun v_28 => if ¬ (v_28 = true) then some (.inr (.inr false)) else ck (I64 (x17_15 + (1 : Int))) (some (.inl (x17_15 + (1 : Int))))))) else some (.inr (.inl ()))
def bQ (F : Md) (g : Ex → Ex → Option (Bool)) (a0_0 : wz) (a1_1 : wz) (eq_2 : Unit) : Option Bool :=
 if ¬ ((a0_0.length : Int) = (a1_1.length : Int)) then some false else (eJ F (fun d : Int => cT F g a0_0 a1_1 d) (0 : Int)).bind (fun e => match e with | (.inl e) => some true | (.inr e) => some e)
def eP : PlR := ⟨[(0, .A [0, 1, 2]), (1, .A [0, 1, 2, 14]), (2, .A [6]), (3, .A [1, 2, 15, 16, 17]), (4, .A [1, 2, 15, 16, 17, 18]), (5, .B [1, 2, 7, 8, 15, 16, 17]), (6, .B [1, 2, 8, 9, 15, 16, 17]), (7, .A [1, 2, 15, 16, 17, 30]), (8, .A [6]), (9, .A [1, 2, 15, 16, 17]), (10, .A [6])], []⟩
def eQ : Ty := .pair (.sl .expr) (.pair (.sl .expr) (.pair (.clo 62 .unit) .unit))
def cB (F : Md) (g : Ex → Ex → Option (Bool)) : aI := mSpec eQ (.one .bool) (fun x => bQ F g x.1 x.2.1 x.2.2.1)
abbrev eR (F : Md) (g : Ex → Ex → Option (Bool)) : List (FuncId × aI) := [(62, (mF g))]
theorem kE [Mx] (F : Md) (g : Ex → Ex → Option (Bool)) (hg : FOK Tryz.prog GL 62 (mF g)) : bH Tryz.prog GL (eR F g) := .cons hg xAa (.nil)
attribute [go_sem] eQ eP
theorem kB [Mx] (F : Md) (g : Ex → Ex → Option (Bool)) (hg : FOK Tryz.prog GL 62 (mF g)) : FOK Tryz.prog GL 101 (cB F g) := by
 refine bT (aU (kE F g hg)) mix Tryz.func101 rfl xAa xAc eP fun w0 S x Θ hw h hF => ?_
 obtain ⟨(a0_0 : wz), (a1_1 : wz), (eq_2 : Unit), u⟩ := x
 simp only [bZ, go_sem]
 replace h : sat (bQ F g a0_0 a1_1 eq_2) _ := h
 unfold bQ at h
 refine fL h (fun hc h => ?_) fun hc h => ?_
 ·exact aK hF [.tmp 6] rfl rfl rfl (aE h) xAd
 ·refine cL hF (D := Int) [1, 2, 15, 16] (fun d => [(17, .val qe d)]) (fun d => []) h rfl xAb ?_
  rintro x17_15 A4 T4 hA4 hE4 h
  simp only [go_sem]
  replace h : sat (cT F g a0_0 a1_1 x17_15) _ := h
  unfold cT at h
  exact zaE
attribute [go_sem] cB
def tB (F : Md) (g : Ex → Ex → Option (Bool)) (a_0 : Ex) (b_1 : Ex) : Option Bool :=
 ck ((((a_0.kind) = (b_1.kind)) ∧ ((a_0.text) = (b_1.text))) → ((bQ F g (a_0.l) (b_1.l) ()).isSome = true)) (some (((decide ((a_0.kind) = (b_1.kind))) && (decide ((a_0.text) = (b_1.text)))) && ((bQ F g (a_0.l) (b_1.l) ()).getD false)))
def aEm : PlR := ⟨[(0, .B [2, 3]), (1, .A [4])], []⟩
abbrev aFr (F : Md) (g : Ex → Ex → Option (Bool)) : List (FuncId × aI) := [(101, (cB F g))]
theorem aMF [Mx] (F : Md) (g : Ex → Ex → Option (Bool)) (hg : FOK Tryz.prog GL 62 (mF g)) : bH Tryz.prog GL (aFr F g) := .cons (kB F g hg) xAa (.nil)
attribute [go_sem] aEm
theorem aJL [Mx] (F : Md) (g : Ex → Ex → Option (Bool)) (hg : FOK Tryz.prog GL 62 (mF g)) : FOK Tryz.prog GL 62 (mSpec wA (.one .bool) (fun x => tB F g x.1 x.2.1)) := by
 refine bT (aU (aMF F g hg)) mix Tryz.func62 rfl xAa xAc aEm fun w0 S x Θ hw h hF => ?_
 obtain ⟨(a_0 : Ex), (b_1 : Ex), u⟩ := x
 simp only [bZ, go_sem]
 replace h : sat (tB F g a_0 b_1) _ := h
 unfold tB at h
 refine bB h fun g0 h => ?_
 exact zaD
def pS (F : Md) : Nat → Ex → Ex → Option (Bool)
 | 0 => fun _ _ => none
 | n + 1 => tB F (pS F n)
def oI (F : Md) (n : Nat) : aI := mSpec wA (.one .bool) (fun x => pS F n x.1 x.2.1)
theorem aAE [Mx] (F : Md) : ∀ n, FOK Tryz.prog GL 62 (oI F n)
 | 0 => fun _ _ _ _ _ _ _ hp => Bool.noConfusion (show false = true from hp)
 | n + 1 => aJL F _ (aAE F n)
attribute [go_sem] oI
end
end Nu
end Go.Proofs
namespace Go.Proofs
open Go.Vc
set_option maxRecDepth 20000
namespace Nu
noncomputable section
set_option maxHeartbeats 4000000
attribute [-go_sem] Ex.kind Ex.text Ex.l
def uK (F : Md) (x_0 : wa) (y_1 : wa) : Option Bool :=
 ck (((x_0.1 = y_1.1) ∧ ((Ty.eqb qg x_0.2.1 y_1.2.1) = true)) → ((pS F 64 x_0.2.2.1 y_1.2.2.1).isSome = true)) (some (((decide (x_0.1 = y_1.1)) && (Ty.eqb qg x_0.2.1 y_1.2.1)) && ((pS F 64 x_0.2.2.1 y_1.2.2.1).getD false)))
@[go_sem]def uL : Ty := .pair qq (.pair qq .unit)
def tC (F : Md) : aI := mSpec uL (.one .bool) (fun x => uK F x.1 x.2.1)
abbrev aAF (F : Md) : List (FuncId × aI) := [(62, (oI F 64))]
theorem aEn [Mx] (F : Md) : bH Tryz.prog GL (aAF F) := .cons (aAE F 64) xAa (.nil)
theorem aJM [Mx] (F : Md) : FOK Tryz.prog GL 61 (tC F) := by
 refine rY (aU (aEn F)) Tryz.func61 rfl xAa xAc fun w0 S x r hw h => ?_
 have hF : gD (fr Tryz.prog (EM (aAF F)) S w0 Tryz.f61.ntmps) := ⟨aU (aEn F), mix⟩
 obtain ⟨(x_0 : wa), (y_1 : wa), u⟩ := x
 simp only [uL, Ty.wf, fG] at hw
 simp only [bZ, uL]
 try dsimp only at h
 replace h : uK F x_0 y_1 = some r := h
 unfold uK at h
 refine aB (aR hF [2, 3] (yaA ?_))
 refine aA (aB (aF hF [4] (yaA ?_)))
 exact zar
attribute [go_sem] tC
def cQ (F : Md) (a0_0 : (List wa)) (a1_1 : (List wa)) (x17_15 : Int) : Option ((Int) ⊕ ((Unit) ⊕ Bool)) :=
 if x17_15 < (a0_0.length : Int) then ck (0 ≤ x17_15 ∧ x17_15 < (a0_0.length : Int)) (ck (0 ≤ x17_15 ∧ x17_15 < (a1_1.length : Int)) ((uK F (a0_0.getD (x17_15.toNat) ([], ([], [], ()), (Ex.mk 0 [] []), ())) (a1_1.getD (x17_15.toNat) ([], ([], [], ()), (Ex.mk 0 [] []), ()))).bind (fun v_28 => if ¬ (v_28 = true) then some (.inr (.inr false)) else ck (I64 (x17_15 + (1 : Int))) (some (.inl (x17_15 + (1 : Int))))))) else some (.inr (.inl ()))
def bW (F : Md) (a0_0 : (List wa)) (a1_1 : (List wa)) (eq_2 : Unit) : Option Bool :=
 if ¬ ((a0_0.length : Int) = (a1_1.length : Int)) then some false else (eJ F (fun d : Int => cQ F a0_0 a1_1 d) (0 : Int)).bind (fun e => match e with | (.inl e) => some true | (.inr e) => some e)
def eI : PlR := ⟨[(0, .A [0, 1, 2]), (1, .A [0, 1, 2, 14]), (2, .A [6]), (3, .A [1, 2, 15, 16, 17]), (4, .A [1, 2, 15, 16, 17, 18]), (5, .B [1, 2, 7, 8, 15, 16, 17]), (6, .B [1, 2, 8, 9, 15, 16, 17]), (7, .A [1, 2, 15, 16, 17, 30]), (8, .A [6]), (9, .A [1, 2, 15, 16, 17]), (10, .A [6])], []⟩
def eK : Ty := .pair (.sl qq) (.pair (.sl qq) (.pair (.clo 61 .unit) .unit))
def bU (F : Md) : aI := mSpec eK (.one .bool) (fun x => bW F x.1 x.2.1 x.2.2.1)
abbrev eL (F : Md) : List (FuncId × aI) := [(61, (tC F))]
theorem jH [Mx] (F : Md) : bH Tryz.prog GL (eL F) := .cons (aJM F) xAa (.nil)
attribute [go_sem] eK eI
theorem iW [Mx] (F : Md) : FOK Tryz.prog GL 60 (bU F) := by
 refine bT (aU (jH F)) mix Tryz.func60 rfl xAa xAc eI fun w0 S x Θ hw h hF => ?_
 obtain ⟨(a0_0 : (List wa)), (a1_1 : (List wa)), (eq_2 : Unit), u⟩ := x
 simp only [bZ, go_sem]
 replace h : sat (bW F a0_0 a1_1 eq_2) _ := h
 unfold bW at h
 refine fL h (fun hc h => ?_) fun hc h => ?_
 ·exact aK hF [.tmp 6] rfl rfl rfl (aE h) xAd
 ·refine cL hF (D := Int) [1, 2, 15, 16] (fun d => [(17, .val qe d)]) (fun d => []) h rfl xAb ?_
  rintro x17_15 A4 T4 hA4 hE4 h
  simp only [go_sem]
  replace h : sat (cQ F a0_0 a1_1 x17_15) _ := h
  unfold cQ at h
  exact zaE
attribute [go_sem] bU
def uM (F : Md) (x_0 : qz) (y_1 : qz) : Option Bool :=
 ck ((x_0.1 = y_1.1) → ((pS F 64 x_0.2.1 y_1.2.1).isSome = true)) (some ((decide (x_0.1 = y_1.1)) && ((pS F 64 x_0.2.1 y_1.2.1).getD false)))
def aDH : PlR := ⟨[(0, .B [2, 3]), (1, .A [4])], []⟩
def aEo : Ty := .pair qr (.pair qr .unit)
def tD (F : Md) : aI := mSpec aEo (.one .bool) (fun x => uM F x.1 x.2.1)
abbrev aEp (F : Md) : List (FuncId × aI) := [(62, (oI F 64))]
theorem aLm [Mx] (F : Md) : bH Tryz.prog GL (aEp F) := .cons (aAE F 64) xAa (.nil)
attribute [go_sem] aEo aDH
theorem aJN [Mx] (F : Md) : FOK Tryz.prog GL 64 (tD F) := by
 refine bT (aU (aLm F)) mix Tryz.func64 rfl xAa xAc aDH fun w0 S x Θ hw h hF => ?_
 obtain ⟨(x_0 : qz), (y_1 : qz), u⟩ := x
 simp only [bZ, go_sem]
 replace h : sat (uM F x_0 y_1) _ := h
 unfold uM at h
 refine bB h fun g0 h => ?_
 exact zaD
attribute [go_sem] tD
def cW (F : Md) (a0_0 : wv) (a1_1 : wv) (x17_15 : Int) : Option ((Int) ⊕ ((Unit) ⊕ Bool)) :=
 if x17_15 < (a0_0.length : Int) then ck (0 ≤ x17_15 ∧ x17_15 < (a0_0.length : Int)) (ck (0 ≤ x17_15 ∧ x17_15 < (a1_1.length : Int)) ((uM F (a0_0.getD (x17_15.toNat) ([], (Ex.mk 0 [] []), ())) (a1_1.getD (x17_15.toNat) ([], (Ex.mk 0 [] []), ()))).bind (fun v_28 => if ¬ (v_28 = true) then some (.inr (.inr false)) else ck (I64 (x17_15 + (1 : Int))) (some (.inl (x17_15 + (1 : Int))))))) else some (.inr (.inl ()))
def cI (F : Md) (a0_0 : wv) (a1_1 : wv) (eq_2 : Unit) : Option Bool :=
 if ¬ ((a0_0.length : Int) = (a1_1.length : Int)) then some false else (eJ F (fun d : Int => cW F a0_0 a1_1 d) (0 : Int)).bind (fun e => match e with | (.inl e) => some true | (.inr e) => some e)
def eY : PlR := ⟨[(0, .A [0, 1, 2]), (1, .A [0, 1, 2, 14]), (2, .A [6]), (3, .A [1, 2, 15, 16, 17]), (4, .A [1, 2, 15, 16, 17, 18]), (5, .B [1, 2, 7, 8, 15, 16, 17]), (6, .B [1, 2, 8, 9, 15, 16, 17]), (7, .A [1, 2, 15, 16, 17, 30]), (8, .A [6]), (9, .A [1, 2, 15, 16, 17]), (10, .A [6])], []⟩
def fA : Ty := .pair (.sl qr) (.pair (.sl qr) (.pair (.clo 64 .unit) .unit))
def cD (F : Md) : aI := mSpec fA (.one .bool) (fun x => cI F x.1 x.2.1 x.2.2.1)
abbrev fB (F : Md) : List (FuncId × aI) := [(64, (tD F))]
theorem lC [Mx] (F : Md) : bH Tryz.prog GL (fB F) := .cons (aJN F) xAa (.nil)
attribute [go_sem] fA eY
theorem kR [Mx] (F : Md) : FOK Tryz.prog GL 63 (cD F) := by
 refine bT (aU (lC F)) mix Tryz.func63 rfl xAa xAc eY fun w0 S x Θ hw h hF => ?_
 obtain ⟨(a0_0 : wv), (a1_1 : wv), (eq_2 : Unit), u⟩ := x
 simp only [bZ, go_sem]
 replace h : sat (cI F a0_0 a1_1 eq_2) _ := h
 unfold cI at h
 refine fL h (fun hc h => ?_) fun hc h => ?_
 ·exact aK hF [.tmp 6] rfl rfl rfl (aE h) xAd
 ·refine cL hF (D := Int) [1, 2, 15, 16] (fun d => [(17, .val qe d)]) (fun d => []) h rfl xAb ?_
  rintro x17_15 A4 T4 hA4 hE4 h
  simp only [go_sem]
  replace h : sat (cW F a0_0 a1_1 x17_15) _ := h
  unfold cW at h
  exact zaE
attribute [go_sem] cD
def yE (F : Md) (a_0 : qc) (b_1 : qc) : Option Bool :=
 (bW F a_0.2.1 b_1.2.1 ()).bind (fun v_8 => (cI F a_0.2.2.2.2.1 b_1.2.2.2.2.1 ()).bind (fun v_14 => ck ((((v_8 = true) ∧ (v_14 = true)) ∧ (a_0.1 = b_1.1)) → ((jS F a_0.2.2.1 b_1.2.2.1).isSome = true)) (ck (((((v_8 = true) ∧ (v_14 = true)) ∧ (a_0.1 = b_1.1)) ∧ (((jS F a_0.2.2.1 b_1.2.2.1).getD false) = true)) → ((mS F a_0.2.2.2.1 b_1.2.2.2.1).isSome = true)) (some ((((v_8 && v_14) && (decide (a_0.1 = b_1.1))) && ((jS F a_0.2.2.1 b_1.2.2.1).getD false)) && ((mS F a_0.2.2.2.1 b_1.2.2.2.1).getD false))))))
def aFs : PlR := ⟨[(0, .B [2, 3]), (1, .A [2, 3, 5]), (2, .A [2, 3, 5, 6]), (3, .A [4])], []⟩
def aGQ : Ty := .pair qa (.pair qa .unit)
def wB (F : Md) : aI := mSpec aGQ (.one .bool) (fun x => yE F x.1 x.2.1)
abbrev tP (F : Md) : List (FuncId × aI) := [(60, (bU F)), (63, (cD F)), (65, (oH F)), (66, (pH F))]
theorem aOj [Mx] (F : Md) : bH Tryz.prog GL (tP F) := .cons (iW F) xAa (.cons (kR F) xAa (.cons (aFo F) xAa (.cons (aGo F) xAa (.nil))))
attribute [go_sem] aGQ aFs
theorem aMG [Mx] (F : Md) : FOK Tryz.prog GL 32 (wB F) := by
 refine bT (aU (aOj F)) mix Tryz.func32 rfl xAa xAc aFs fun w0 S x Θ hw h hF => ?_
 obtain ⟨(a_0 : qc), (b_1 : qc), u⟩ := x
 simp only [bZ, go_sem]
 replace h : sat (yE F a_0 b_1) _ := h
 unfold yE at h
 obtain ⟨v_8, hv, h⟩ := aP h
 try simp only [hv, go_sem]
 obtain ⟨v_14, hv, h⟩ := aP h
 try simp only [hv, go_sem]
 refine bB h fun g0 h => bB h fun g1 h => ?_
 exact zaD
attribute [go_sem] wB
def dA (F : Md) (a0_0 : ww) (a1_1 : ww) (x17_15 : Int) : Option ((Int) ⊕ ((Unit) ⊕ Bool)) :=
 if x17_15 < (a0_0.length : Int) then ck (0 ≤ x17_15 ∧ x17_15 < (a0_0.length : Int)) (ck (0 ≤ x17_15 ∧ x17_15 < (a1_1.length : Int)) ((yE F (a0_0.getD (x17_15.toNat) ([], [], [], [], [], ())) (a1_1.getD (x17_15.toNat) ([], [], [], [], [], ()))).bind (fun v_28 => if ¬ (v_28 = true) then some (.inr (.inr false)) else ck (I64 (x17_15 + (1 : Int))) (some (.inl (x17_15 + (1 : Int))))))) else some (.inr (.inl ()))
def bL (F : Md) (a0_0 : ww) (a1_1 : ww) (eq_2 : Unit) : Option Bool :=
 if ¬ ((a0_0.length : Int) = (a1_1.length : Int)) then some false else (eJ F (fun d : Int => dA F a0_0 a1_1 d) (0 : Int)).bind (fun e => match e with | (.inl e) => some true | (.inr e) => some e)
def fF : PlR := ⟨[(0, .A [0, 1, 2]), (1, .A [0, 1, 2, 14]), (2, .A [6]), (3, .A [1, 2, 15, 16, 17]), (4, .A [1, 2, 15, 16, 17, 18]), (5, .B [1, 2, 7, 8, 15, 16, 17]), (6, .B [1, 2, 8, 9, 15, 16, 17]), (7, .A [1, 2, 15, 16, 17, 30]), (8, .A [6]), (9, .A [1, 2, 15, 16, 17]), (10, .A [6])], []⟩
def fJ : Ty := .pair (.sl qa) (.pair (.sl qa) (.pair (.clo 32 .unit) .unit))
def cJ (F : Md) : aI := mSpec fJ (.one .bool) (fun x => bL F x.1 x.2.1 x.2.2.1)
abbrev fK (F : Md) : List (FuncId × aI) := [(32, (wB F))]
theorem lQ [Mx] (F : Md) : bH Tryz.prog GL (fK F) := .cons (aMG F) xAa (.nil)
attribute [go_sem] fJ fF
theorem lK [Mx] (F : Md) : FOK Tryz.prog GL 31 (cJ F) := by
 refine bT (aU (lQ F)) mix Tryz.func31 rfl xAa xAc fF fun w0 S x Θ hw h hF => ?_
 obtain ⟨(a0_0 : ww), (a1_1 : ww), (eq_2 : Unit), u⟩ := x
 simp only [bZ, go_sem]
 replace h : sat (bL F a0_0 a1_1 eq_2) _ := h
 unfold bL at h
 refine fL h (fun hc h => ?_) fun hc h => ?_
 ·exact aK hF [.tmp 6] rfl rfl rfl (aE h) xAd
 ·refine cL hF (D := Int) [1, 2, 15, 16] (fun d => [(17, .val qe d)]) (fun d => []) h rfl xAb ?_
  rintro x17_15 A4 T4 hA4 hE4 h
  simp only [go_sem]
  replace h : sat (dA F a0_0 a1_1 x17_15) _ := h
  unfold dA at h
  exact zaE
attribute [go_sem] cJ
def aAG (F : Md) (a_0 : qf) (b_1 : qf) : Option Bool :=
 ck (((((((((a_0.1 = b_1.1) ∧ (a_0.2.1 = b_1.2.1)) ∧ (a_0.2.2.1 = b_1.2.2.1)) ∧ (a_0.2.2.2.1 = b_1.2.2.2.1)) ∧ (a_0.2.2.2.2.1 = b_1.2.2.2.2.1)) ∧ (a_0.2.2.2.2.2.1 = b_1.2.2.2.2.2.1)) ∧ (a_0.2.2.2.2.2.2.1 = b_1.2.2.2.2.2.2.1)) ∧ (a_0.2.2.2.2.2.2.2.1 = b_1.2.2.2.2.2.2.2.1)) → ((bL F a_0.2.2.2.2.2.2.2.2.1 b_1.2.2.2.2.2.2.2.2.1 ()).isSome = true)) (ck ((((((((((a_0.1 = b_1.1) ∧ (a_0.2.1 = b_1.2.1)) ∧ (a_0.2.2.1 = b_1.2.2.1)) ∧ (a_0.2.2.2.1 = b_1.2.2.2.1)) ∧ (a_0.2.2.2.2.1 = b_1.2.2.2.2.1)) ∧ (a_0.2.2.2.2.2.1 = b_1.2.2.2.2.2.1)) ∧ (a_0.2.2.2.2.2.2.1 = b_1.2.2.2.2.2.2.1)) ∧ (a_0.2.2.2.2.2.2.2.1 = b_1.2.2.2.2.2.2.2.1)) ∧ (((bL F a_0.2.2.2.2.2.2.2.2.1 b_1.2.2.2.2.2.2.2.2.1 ()).getD false) = true)) → ((lJ F a_0.2.2.2.2.2.2.2.2.2.1 b_1.2.2.2.2.2.2.2.2.2.1).isSome = true)) (some ((((((((((decide (a_0.1 = b_1.1)) && (decide (a_0.2.1 = b_1.2.1))) && (decide (a_0.2.2.1 = b_1.2.2.1))) && (decide (a_0.2.2.2.1 = b_1.2.2.2.1))) && (decide (a_0.2.2.2.2.1 = b_1.2.2.2.2.1))) && (decide (a_0.2.2.2.2.2.1 = b_1.2.2.2.2.2.1))) && (decide (a_0.2.2.2.2.2.2.1 = b_1.2.2.2.2.2.2.1))) && (decide (a_0.2.2.2.2.2.2.2.1 = b_1.2.2.2.2.2.2.2.1))) && ((bL F a_0.2.2.2.2.2.2.2.2.1 b_1.2.2.2.2.2.2.2.2.1 ()).getD false)) && ((lJ F a_0.2.2.2.2.2.2.2.2.2.1 b_1.2.2.2.2.2.2.2.2.2.1).getD false))))
def aJb : PlR := ⟨[(0, .B [2, 3]), (1, .A [2, 3, 5]), (2, .A [4])], []⟩
def aLn : Ty := .pair qj (.pair qj .unit)
def aBv (F : Md) : aI := mSpec aLn (.one .bool) (fun x => aAG F x.1 x.2.1)
abbrev aGp (F : Md) : List (FuncId × aI) := [(31, (cJ F)), (33, (nF F))]
theorem aSo [Mx] (F : Md) : bH Tryz.prog GL (aGp F) := .cons (lK F) xAa (.cons (aEP F) xAa (.nil))
attribute [go_sem] aLn aJb
theorem aQQ [Mx] (F : Md) : FOK Tryz.prog GL 12 (aBv F) := by
 refine bT (aU (aSo F)) mix Tryz.func12 rfl xAa xAc aJb fun w0 S x Θ hw h hF => ?_
 obtain ⟨(a_0 : qf), (b_1 : qf), u⟩ := x
 simp only [bZ, go_sem]
 replace h : sat (aAG F a_0 b_1) _ := h
 unfold aAG at h
 refine bB h fun g0 h => bB h fun g1 h => ?_
 exact zaD
attribute [go_sem] aBv
end
end Nu
end Go.Proofs
namespace Go.Proofs
open Go.Vc
set_option maxRecDepth 20000
namespace Nu
noncomputable section
set_option maxHeartbeats 4000000
attribute [-go_sem] Ex.kind Ex.text Ex.l
def tW (F : Md) : Option qf :=
 some ((40 : Int), (4 : Int), (0 : Int), (1 : Int), (aS ⟨#[49]⟩), (aS ⟨#[48, 46, 53]⟩), (aS ⟨#[48, 46, 49, 50, 53]⟩), (aS ⟨#[49]⟩), ([((aS ⟨#[97]⟩), ([((aS ⟨#[120]⟩), ((aS ⟨#[49]⟩), ([] : List Nat), ()), (Ex.mk (2 : Int) (aS ⟨#[120]⟩) ([] : List Ex)), ())] : List wa), ([] : List wc), ([] : List qd), ([((aS ⟨#[121]⟩), (Ex.mk (2 : Int) (aS ⟨#[120]⟩) ([] : List Ex)), ())] : List qz), ())] : List qc), ([] : List qm), ())
def aIc : PlR := ⟨[(0, .B [0]), (1, .B [0, 1]), (2, .B [0])], []⟩
def aJc : Ty := .unit
def aAH (F : Md) : aI := mSpec aJc (.one qj) (fun x => tW F )
abbrev aQR (F : Md) : List (FuncId × aI) := []
theorem aQS [Mx] (F : Md) : bH Tryz.prog GL (aQR F) := .nil
attribute [go_sem] aJc aIc
theorem aQg [Mx] (F : Md) : FOK Tryz.prog GL 13 (aAH F) := by
 refine bT (aU (aQS F)) mix Tryz.func13 rfl xAa xAc aIc fun w0 S x Θ hw h hF => ?_
 simp only [bZ, go_sem]
 replace h : sat (tW F) _ := h
 unfold tW at h
 exact aK hF [.cell 0 36] rfl rfl rfl (aE h) xAd
attribute [go_sem] aAH
end
end Nu
end Go.Proofs
namespace Go.Proofs
open Go.Vc
set_option maxRecDepth 20000
namespace Nu
noncomputable section
set_option maxHeartbeats 4000000
def aQh : ByteArray := ⟨⟨112 :: 114 :: 101 :: 99 :: 32 :: 52 :: 48 :: 10 :: 101 :: 110 :: 100 :: 32 :: 49 :: 10 :: 115 :: 116 :: 101 :: 112 :: 32 :: 48 :: 46 :: 53 :: 32 :: 48 :: 46 :: 49 :: 50 :: 53 :: 32 :: 35 :: 32 :: 102 :: 105 :: 110 :: 101 :: 10 :: 116 :: 111 :: 108 :: 32 :: 49 :: 10 :: 116 :: 114 :: 105 :: 101 :: 115 :: 32 :: 52 :: 10 :: 111 :: 114 :: 100 :: 101 :: 114 :: 32 :: 48 :: 10 :: 106 :: 97 :: 99 :: 111 :: 98 :: 105 :: 10 :: 10 :: 115 :: 117 :: 98 :: 32 :: 97 :: 10 :: 32 :: 115 :: 116 :: 97 :: 116 :: 101 :: 32 :: 120 :: 32 :: 61 :: 32 :: 49 :: 32 :: 100 :: 101 :: 114 :: 32 :: 120 :: 10 :: 111 :: 117 :: 116 :: 32 :: 121 :: 32 :: 61 :: 32 :: 120 :: 10 :: []⟩⟩
@[go_sem]theorem aQT : (⟨⟨112 :: 114 :: 101 :: 99 :: 32 :: 52 :: 48 :: 10 :: 101 :: 110 :: 100 :: 32 :: 49 :: 10 :: 115 :: 116 :: 101 :: 112 :: 32 :: 48 :: 46 :: 53 :: 32 :: 48 :: 46 :: 49 :: 50 :: 53 :: 32 :: 35 :: 32 :: 102 :: 105 :: 110 :: 101 :: 10 :: 116 :: 111 :: 108 :: 32 :: 49 :: 10 :: 116 :: 114 :: 105 :: 101 :: 115 :: 32 :: 52 :: 10 :: 111 :: 114 :: 100 :: 101 :: 114 :: 32 :: 48 :: 10 :: 106 :: 97 :: 99 :: 111 :: 98 :: 105 :: 10 :: 10 :: 115 :: 117 :: 98 :: 32 :: 97 :: 10 :: 32 :: 115 :: 116 :: 97 :: 116 :: 101 :: 32 :: 120 :: 32 :: 61 :: 32 :: 49 :: 32 :: 100 :: 101 :: 114 :: 32 :: 120 :: 10 :: 111 :: 117 :: 116 :: 32 :: 121 :: 32 :: 61 :: 32 :: 120 :: 10 :: []⟩⟩ : ByteArray) = aQh := rfl
attribute [-go_sem] Ex.kind Ex.text Ex.l
def aCZ (F : Md) : Option Bool :=
 (gF F (aS ⟨#[49, 43, 120, 42, 50]⟩)).bind (fun v_3 => (gF F (aS ⟨#[49, 32, 43, 32]⟩)).bind (fun v_5 => (xQ F (aS aQh)).bind (fun v_7 => (xQ F (aS ⟨#[112, 114, 101, 99, 32, 52, 48, 10, 101, 110, 100, 32, 120, 10]⟩)).bind (fun v_9 => ck ((((v_3.2.2.1 = (0 : Int)) ∧ ((v_3.1.kind) = (6 : Int))) ∧ ((((v_3.1.l).length : Nat) : Int) = (2 : Int))) → ((1 : Int) < (((v_3.1.l).length : Nat) : Int))) (ck (((((((((v_3.2.2.1 = (0 : Int)) ∧ ((v_3.1.kind) = (6 : Int))) ∧ ((((v_3.1.l).length : Nat) : Int) = (2 : Int))) ∧ (((v_3.1.l).getD (1 : Nat) (Ex.mk 0 [] [])).kind = (8 : Int))) ∧ (v_5.2.1 = (4 : Int))) ∧ (v_5.2.2.1 = (6 : Int))) ∧ (v_7.2.2.1 = (0 : Int))) ∧ ((Ty.eqb qn v_7.2.1 ((0 : Int), (0 : Int), ())) = true)) → ((tW F).isSome = true)) (ck (((((((((v_3.2.2.1 = (0 : Int)) ∧ ((v_3.1.kind) = (6 : Int))) ∧ ((((v_3.1.l).length : Nat) : Int) = (2 : Int))) ∧ (((v_3.1.l).getD (1 : Nat) (Ex.mk 0 [] [])).kind = (8 : Int))) ∧ (v_5.2.1 = (4 : Int))) ∧ (v_5.2.2.1 = (6 : Int))) ∧ (v_7.2.2.1 = (0 : Int))) ∧ ((Ty.eqb qn v_7.2.1 ((0 : Int), (0 : Int), ())) = true)) → ((aAG F v_7.1 ((tW F).getD ((0 : Int), (0 : Int), (0 : Int), (0 : Int), ([] : List Nat), ([] : List Nat), ([] : List Nat), ([] : List Nat), ([] : List qc), ([] : List qm), ()))).isSome = true)) (some (((((((((((decide (v_3.2.2.1 = (0 : Int))) && (decide ((v_3.1.kind) = (6 : Int)))) && (decide ((((v_3.1.l).length : Nat) : Int) = (2 : Int)))) && (decide (((v_3.1.l).getD (1 : Nat) (Ex.mk 0 [] [])).kind = (8 : Int)))) && (decide (v_5.2.1 = (4 : Int)))) && (decide (v_5.2.2.1 = (6 : Int)))) && (decide (v_7.2.2.1 = (0 : Int)))) && (Ty.eqb qn v_7.2.1 ((0 : Int), (0 : Int), ()))) && ((aAG F v_7.1 ((tW F).getD ((0 : Int), (0 : Int), (0 : Int), (0 : Int), ([] : List Nat), ([] : List Nat), ([] : List Nat), ([] : List Nat), ([] : List qc), ([] : List qm), ()))).getD false)) && (decide (v_9.2.2.1 = (6 : Int)))) && (Ty.eqb qn v_9.2.1 ((2 : Int), (1 : Int), ()))))))))))
def aJd : PlR := ⟨[(0, .A []), (1, .B [1, 3]), (2, .B [1, 3, 5, 6]), (3, .B [1, 3, 5, 6, 7, 8, 9]), (4, .B [1, 3, 5, 6, 7, 8, 9, 11, 12]), (5, .A [0])], []⟩
def aGq : Ty := .unit
def aJe (F : Md) : aI := mSpec aGq (.one .bool) (fun x => aCZ F )
abbrev aAI (F : Md) : List (FuncId × aI) := [(11, (aAB F)), (12, (aBv F)), (13, (aAH F)), (9, (pN F))]
theorem aSp [Mx] (F : Md) : bH Tryz.prog GL (aAI F) := .cons (aQf F) xAa (.cons (aQQ F) xAa (.cons (aQg F) xAa (.cons (aEI F) xAa (.nil))))
attribute [go_sem] aGq aJd
theorem aQU [Mx] (F : Md) : FOK Tryz.prog GL 8 (aJe F) := by
 refine bT (aU (aSp F)) mix Tryz.func8 rfl xAa xAc aJd fun w0 S x Θ hw h hF => ?_
 simp only [bZ, go_sem]
 replace h : sat (aCZ F) _ := h
 unfold aCZ at h
 obtain ⟨v_3, hv, h⟩ := aP h
 try simp only [hv, go_sem]
 obtain ⟨v_5, hv, h⟩ := aP h
 try simp only [hv, go_sem]
 obtain ⟨v_7, hv, h⟩ := aP h
 try simp only [hv, go_sem]
 obtain ⟨v_9, hv, h⟩ := aP h
 try simp only [hv, go_sem]
 obtain ⟨g0, h⟩ := aQ h
 obtain ⟨g1, h⟩ := aQ h
 obtain ⟨g2, h⟩ := aQ h
 repeat (refine ⟨by first | with_reducible assumption | omega | (intros; first | with_reducible assumption | omega) | (simp only [go_sem] at *; first | with_reducible assumption | omega) | (intro _; exact ⟨rfl, by decide⟩) | (intro _; refine (?_ : _ = aD _); rfl) | (refine (?_ : _ = aD _); rfl) | exact ⟨rfl, rfl⟩ | (intro q0; (try have e0 := g0 zAF); (try have e1 := g1 zAF); (try have e2 := g2 zAF); first | assumption | omega) | decide, ?_⟩)
 exact aK hF [.tmp 0] rfl rfl rfl (aE h) xAd
attribute [go_sem] aJe
end
end Nu
end Go.Proofs
namespace Go.Proofs
open Go.Vc
set_option maxRecDepth 20000
namespace Nu
noncomputable section
theorem aZH [Mx] : aCZ (some 1000) = some true := by kernel_rfl
def aLo : Bool := true
def aBw : aI := ⟨aGq, .one .bool, fun _ => True, fun _ => aLo⟩
attribute [go_sem] aBw
theorem aQV [Mx] [Mx] : FOK Tryz.prog GL 8 aBw := aRp (aQU (some 1000)) (fun _ _ _ => aZH)
end
end Nu
end Go.Proofs
namespace Go.Proofs
open Go.Vc
set_option maxRecDepth 20000
namespace Nu
noncomputable section
set_option maxHeartbeats 4000000
attribute [-go_sem] Ex.kind Ex.text Ex.l
def nG (F : Md) (e_0 : Ex) (d_1 : Int) : Option Bool :=
 ck (((e_0.kind) = (1 : Int)) → (I64 ((IntKind.i64.wrap ((((d_1 % (18446744073709551616 : Int)).toNat % (10 : Nat)) : Nat) : Int)) + (1 : Int)))) (ck (((e_0.kind) = (1 : Int)) → (0 ≤ (IntKind.i64.wrap ((((d_1 % (18446744073709551616 : Int)).toNat % (10 : Nat)) : Nat) : Int)) ∧ (IntKind.i64.wrap ((((d_1 % (18446744073709551616 : Int)).toNat % (10 : Nat)) : Nat) : Int)) ≤ ((IntKind.i64.wrap ((((d_1 % (18446744073709551616 : Int)).toNat % (10 : Nat)) : Nat) : Int)) + (1 : Int)) ∧ ((IntKind.i64.wrap ((((d_1 % (18446744073709551616 : Int)).toNat % (10 : Nat)) : Nat) : Int)) + (1 : Int)) ≤ (((aS ⟨#[48, 49, 50, 51, 52, 53, 54, 55, 56, 57]⟩).length : Nat) : Int))) (some ((decide ((e_0.kind) = (1 : Int))) && (decide ((e_0.text) = (List.drop (IntKind.i64.wrap ((((d_1 % (18446744073709551616 : Int)).toNat % (10 : Nat)) : Nat) : Int)).toNat (List.take ((IntKind.i64.wrap ((((d_1 % (18446744073709551616 : Int)).toNat % (10 : Nat)) : Nat) : Int)) + (1 : Int)).toNat (aS ⟨#[48, 49, 50, 51, 52, 53, 54, 55, 56, 57]⟩))))))))
def aId : PlR := ⟨[(0, .B [1, 2]), (1, .A [2, 5]), (2, .A [4])], []⟩
def aJf : Ty := .pair .expr q9
def aAJ (F : Md) : aI := mSpec aJf (.one .bool) (fun x => nG F x.1 x.2.1)
abbrev aQW (F : Md) : List (FuncId × aI) := []
theorem aQX [Mx] (F : Md) : bH Tryz.prog GL (aQW F) := .nil
attribute [go_sem] aJf aId
theorem aQj [Mx] (F : Md) : FOK Tryz.prog GL 22 (aAJ F) := by
 refine bT (aU (aQX F)) mix Tryz.func22 rfl xAa xAc aId fun w0 S x Θ hw h hF => ?_
 obtain ⟨(e_0 : Ex), (d_1 : Int), u⟩ := x
 simp only [bZ, go_sem]
 replace h : sat (nG F e_0 d_1) _ := h
 unfold nG at h
 refine bB h fun g0 h => bB h fun g1 h => ?_
 exact zaD
attribute [go_sem] aAJ
def mW (F : Md) (from_3 : Int) (l_1 : wj) (e_10 : Ex) : Option (Bool) :=
 ck (0 ≤ from_3 ∧ from_3 < (l_1.length : Int)) ((nG F e_10 (l_1.getD (from_3.toNat) (0 : Int))).bind (fun v_16 => some v_16))
def jI (F : Md) (from_3 : Int) (signs_2 : wj) (l_1 : wj) (i_17 : Int) (e_18 : Ex) : Option ((Int × Ex) ⊕ ((Ex) ⊕ Bool)) :=
 if from_3 < i_17 then ck (0 ≤ i_17 ∧ i_17 < (signs_2.length : Int)) (ck (I64 ((6 : Int) + (IntKind.i64.wrap (((((signs_2.getD (i_17.toNat) (0 : Int)) % (18446744073709551616 : Int)).toNat % (4 : Nat)) : Nat) : Int)))) (ck (¬ ((¬ ((e_18.kind) = ((6 : Int) + (IntKind.i64.wrap (((((signs_2.getD (i_17.toNat) (0 : Int)) % (18446744073709551616 : Int)).toNat % (4 : Nat)) : Nat) : Int))))) ∨ (¬ ((((e_18.l).length : Nat) : Int) = (2 : Int)))) → ((1 : Int) < (((e_18.l).length : Nat) : Int))) (ck (¬ ((¬ ((e_18.kind) = ((6 : Int) + (IntKind.i64.wrap (((((signs_2.getD (i_17.toNat) (0 : Int)) % (18446744073709551616 : Int)).toNat % (4 : Nat)) : Nat) : Int))))) ∨ (¬ ((((e_18.l).length : Nat) : Int) = (2 : Int)))) → (0 ≤ i_17 ∧ i_17 < (l_1.length : Int))) (ck (¬ ((¬ ((e_18.kind) = ((6 : Int) + (IntKind.i64.wrap (((((signs_2.getD (i_17.toNat) (0 : Int)) % (18446744073709551616 : Int)).toNat % (4 : Nat)) : Nat) : Int))))) ∨ (¬ ((((e_18.l).length : Nat) : Int) = (2 : Int)))) → ((nG F ((e_18.l).getD (1 : Nat) (Ex.mk 0 [] [])) (l_1.getD (i_17.toNat) (0 : Int))).isSome = true)) (if ((¬ ((e_18.kind) = ((6 : Int) + (IntKind.i64.wrap (((((signs_2.getD (i_17.toNat) (0 : Int)) % (18446744073709551616 : Int)).toNat % (4 : Nat)) : Nat) : Int))))) ∨ (¬ ((((e_18.l).length : Nat) : Int) = (2 : Int)))) ∨ (¬ (((nG F ((e_18.l).getD (1 : Nat) (Ex.mk 0 [] [])) (l_1.getD (i_17.toNat) (0 : Int))).getD false) = true)) then some (.inr (.inr false)) else ck ((0 : Int) < (((e_18.l).length : Nat) : Int)) (ck (I64 (i_17 - (1 : Int))) (some (.inl ((i_17 - (1 : Int)), ((e_18.l).getD (0 : Nat) (Ex.mk 0 [] []))))))))))) else some (.inr (.inl e_18))
def gW (F : Md) (e_0 : Ex) (l_1 : wj) (signs_2 : wj) (from_3 : Int) (to_4 : Int) : Option Bool :=
 ck (I64 (to_4 - (1 : Int))) ((eJ F (fun d : Int × Ex => jI F from_3 signs_2 l_1 d.1 d.2) ((to_4 - (1 : Int)), e_0)).bind (fun e => match e with | (.inl e) => mW F from_3 l_1 e | (.inr e) => some e))
def aFt : PlR := ⟨[(0, .B [1, 2, 3, 4, 5]), (1, .A [1, 2, 3, 5, 11]), (2, .A [1, 2, 3, 5, 11, 16]), (3, .A [1, 2, 3, 5, 11]), (4, .A [1, 2, 3, 5, 11, 47]), (5, .A [10]), (6, .B [1, 2, 3, 5, 11]), (7, .A [10])], [(4, 10)]⟩
def aGR : Ty := .pair .expr (.pair (.sl qe) (.pair (.sl qe) qn))
def wC (F : Md) : aI := mSpec aGR (.one .bool) (fun x => gW F x.1 x.2.1 x.2.2.1 x.2.2.2.1 x.2.2.2.2.1)
abbrev aGS (F : Md) : List (FuncId × aI) := [(22, (aAJ F))]
theorem aOp [Mx] (F : Md) : bH Tryz.prog GL (aGS F) := .cons (aQj F) xAa (.nil)
attribute [go_sem] aGR aFt
theorem aMH [Mx] (F : Md) : FOK Tryz.prog GL 10 (wC F) := by
 refine bT (aU (aOp F)) mix Tryz.func10 rfl xAa xAc aFt fun w0 S x Θ hw h hF => ?_
 obtain ⟨(e_0 : Ex), (l_1 : wj), (signs_2 : wj), (from_3 : Int), (to_4 : Int), u⟩ := x
 simp only [bZ, go_sem]
 replace h : sat (gW F e_0 l_1 signs_2 from_3 to_4) _ := h
 unfold gW at h
 refine fD hF (D := Ex) (fun d => sat (mW F from_3 l_1 d) Θ) [1, 3] (fun d => [(5, .ptr 0 [])]) (fun d => [.inr (.box 3 (.val .expr d))]) ?_ ?_
 ·simp only [go_sem]
  obtain ⟨g0, h⟩ := aQ h
  try simp only [I64, I32] at g0
  repeat (refine ⟨zAA, ?_⟩)
  refine cL hF (D := Int × Ex) [1, 2, 3] (fun d => [(5, .ptr 0 []), (11, .val qe d.1)]) (fun d => [.inr (.box 3 (.val .expr d.2))]) h rfl xAb ?_
  rintro ⟨i_17, e_18⟩ A2 T2 hA2 hE2 h
  simp only [go_sem]
  replace h : sat (jI F from_3 signs_2 l_1 i_17 e_18) _ := h
  unfold jI at h
  refine fY h (fun hc h => ?_) fun hc h => ?_
  ·obtain ⟨g0, h⟩ := aQ h
   obtain ⟨g1, h⟩ := aQ h
   obtain ⟨g2, h⟩ := aQ h
   obtain ⟨g3, h⟩ := aQ h
   obtain ⟨g4, h⟩ := aQ h
   try simp only [I64, I32] at g1
   repeat (refine ⟨by first | with_reducible assumption | omega | (intros; first | with_reducible assumption | omega) | (simp only [go_sem] at *; first | with_reducible assumption | omega) | (intro _; exact ⟨rfl, by decide⟩) | (intro _; refine (?_ : _ = aD _); rfl) | (refine (?_ : _ = aD _); rfl) | exact ⟨rfl, rfl⟩ | (intro q0; (try have e2 := g2 zAF); (try have e3 := g3 zAF); (try have e4 := g4 zAF); first | assumption | omega) | decide, ?_⟩)
   refine ⟨fun hc => ?_, fun hc => ?_⟩
   ·replace h := jV zAB h
    replace h := yaF (hE2 _ (aE h))
    exact aK hF [.tmp 10] rfl rfl rfl (aE h) xAd
   ·replace h := jW zAB h
    obtain ⟨g0, h⟩ := aQ h
    repeat (refine ⟨zAA, ?_⟩)
    obtain ⟨g0, h⟩ := aQ h
    try simp only [I64, I32] at g0
    repeat (refine ⟨zAA, ?_⟩)
    replace h := hA2 _ (aE h)
    exact zaK
  ·replace h := yaF (hE2 _ (aE h))
   exact aY (e_18) h rfl xAb
 ·rintro e_10 h
  simp only [go_sem]
  replace h : sat (mW F from_3 l_1 e_10) _ := h
  unfold mW at h
  obtain ⟨g0, h⟩ := aQ h
  repeat (refine ⟨zAA, ?_⟩)
  obtain ⟨v_16, hv, h⟩ := aP h
  try simp only [hv, go_sem]
  exact aK hF [.tmp 10] rfl rfl rfl (aE h) xAd
attribute [go_sem] wC
def lL (F : Md) (l_0 : wj) (signs_1 : wj) (n_19 : Int) (e_20 : Ex) : Option (Bool) :=
 ck ((aLo = true) → ((gW F e_20 l_0 signs_1 (0 : Int) n_19).isSome = true)) (some (aLo && ((gW F e_20 l_0 signs_1 (0 : Int) n_19).getD false)))
def cX (F : Md) (signs_1 : wj) (l_0 : wj) (n_23 : Int) (i_24 : Int) (e_25 : Ex) : Option ((Int × Int × Ex) ⊕ ((Int × Ex) ⊕ Bool)) :=
 if (0 : Int) < i_24 then ck (0 ≤ i_24 ∧ i_24 < (signs_1.length : Int)) (if (1 : Int) < (IntKind.i64.wrap (((((signs_1.getD (i_24.toNat) (0 : Int)) % (18446744073709551616 : Int)).toNat % (4 : Nat)) : Nat) : Int)) then ck (I64 (i_24 - (1 : Int))) (some (.inl (n_23, (i_24 - (1 : Int)), e_25))) else ck (I64 ((6 : Int) + (IntKind.i64.wrap (((((signs_1.getD (i_24.toNat) (0 : Int)) % (18446744073709551616 : Int)).toNat % (4 : Nat)) : Nat) : Int)))) (ck (¬ ((¬ ((e_25.kind) = ((6 : Int) + (IntKind.i64.wrap (((((signs_1.getD (i_24.toNat) (0 : Int)) % (18446744073709551616 : Int)).toNat % (4 : Nat)) : Nat) : Int))))) ∨ (¬ ((((e_25.l).length : Nat) : Int) = (2 : Int)))) → ((1 : Int) < (((e_25.l).length : Nat) : Int))) (ck (¬ ((¬ ((e_25.kind) = ((6 : Int) + (IntKind.i64.wrap (((((signs_1.getD (i_24.toNat) (0 : Int)) % (18446744073709551616 : Int)).toNat % (4 : Nat)) : Nat) : Int))))) ∨ (¬ ((((e_25.l).length : Nat) : Int) = (2 : Int)))) → ((gW F ((e_25.l).getD (1 : Nat) (Ex.mk 0 [] [])) l_0 signs_1 i_24 n_23).isSome = true)) (if ((¬ ((e_25.kind) = ((6 : Int) + (IntKind.i64.wrap (((((signs_1.getD (i_24.toNat) (0 : Int)) % (18446744073709551616 : Int)).toNat % (4 : Nat)) : Nat) : Int))))) ∨ (¬ ((((e_25.l).length : Nat) : Int) = (2 : Int)))) ∨ (¬ (((gW F ((e_25.l).getD (1 : Nat) (Ex.mk 0 [] [])) l_0 signs_1 i_24 n_23).getD false) = true)) then some (.inr (.inr false)) else ck ((0 : Int) < (((e_25.l).length : Nat) : Int)) (ck (I64 (i_24 - (1 : Int))) (some (.inl (i_24, (i_24 - (1 : Int)), ((e_25.l).getD (0 : Nat) (Ex.mk 0 [] [])))))))))) else some (.inr (.inl (n_23, e_25)))
def oJ (F : Md) (l_0 : wj) (signs_1 : wj) (s_8 : qd) : Option (Bool) :=
 ck ((gF F s_8).isSome = true) (if ¬ (((gF F s_8).getD ((Ex.mk 0 [] []), (0 : Int), (0 : Int), ())).2.2.1 = (0 : Int)) then some false else ck (I64 ((min (l_0.length : Int) (12 : Int)) - (1 : Int))) ((eJ F (fun d : Int × Int × Ex => cX F signs_1 l_0 d.1 d.2.1 d.2.2) ((min (l_0.length : Int) (12 : Int)), ((min (l_0.length : Int) (12 : Int)) - (1 : Int)), ((gF F s_8).getD ((Ex.mk 0 [] []), (0 : Int), (0 : Int), ())).1)).bind (fun e => match e with | (.inl e) => lL F l_0 signs_1 e.1 e.2 | (.inr e) => some e)))
def iV (F : Md) (l_0 : wj) (i_35 : Int) (s_41 : qd) : Option (wt ⊕ qd) :=
 ck (I64 ((IntKind.i64.wrap (((((l_0.getD (i_35.toNat) (0 : Int)) % (18446744073709551616 : Int)).toNat % (10 : Nat)) : Nat) : Int)) + (1 : Int))) (ck (0 ≤ (IntKind.i64.wrap (((((l_0.getD (i_35.toNat) (0 : Int)) % (18446744073709551616 : Int)).toNat % (10 : Nat)) : Nat) : Int)) ∧ (IntKind.i64.wrap (((((l_0.getD (i_35.toNat) (0 : Int)) % (18446744073709551616 : Int)).toNat % (10 : Nat)) : Nat) : Int)) ≤ ((IntKind.i64.wrap (((((l_0.getD (i_35.toNat) (0 : Int)) % (18446744073709551616 : Int)).toNat % (10 : Nat)) : Nat) : Int)) + (1 : Int)) ∧ ((IntKind.i64.wrap (((((l_0.getD (i_35.toNat) (0 : Int)) % (18446744073709551616 : Int)).toNat % (10 : Nat)) : Nat) : Int)) + (1 : Int)) ≤ (((aS ⟨#[48, 49, 50, 51, 52, 53, 54, 55, 56, 57]⟩).length : Nat) : Int)) (ck ((s_41.length) + (List.drop (IntKind.i64.wrap (((((l_0.getD (i_35.toNat) (0 : Int)) % (18446744073709551616 : Int)).toNat % (10 : Nat)) : Nat) : Int)).toNat (List.take ((IntKind.i64.wrap (((((l_0.getD (i_35.toNat) (0 : Int)) % (18446744073709551616 : Int)).toNat % (10 : Nat)) : Nat) : Int)) + (1 : Int)).toNat (aS ⟨#[48, 49, 50, 51, 52, 53, 54, 55, 56, 57]⟩))).length ≤ 9223372036854775807) (ck (I64 (i_35 + (1 : Int))) (some (.inl ((s_41 ++ (List.drop (IntKind.i64.wrap (((((l_0.getD (i_35.toNat) (0 : Int)) % (18446744073709551616 : Int)).toNat % (10 : Nat)) : Nat) : Int)).toNat (List.take ((IntKind.i64.wrap (((((l_0.getD (i_35.toNat) (0 : Int)) % (18446744073709551616 : Int)).toNat % (10 : Nat)) : Nat) : Int)) + (1 : Int)).toNat (aS ⟨#[48, 49, 50, 51, 52, 53, 54, 55, 56, 57]⟩)))), (i_35 + (1 : Int))))))))
def gJ (F : Md) (l_0 : wj) (signs_1 : wj) (s_34 : qd) (i_35 : Int) : Option (wt ⊕ qd) :=
 if i_35 < (min (l_0.length : Int) (12 : Int)) then ck (0 ≤ i_35 ∧ i_35 < (l_0.length : Int)) (if (0 : Int) < i_35 then ck (0 ≤ i_35 ∧ i_35 < (signs_1.length : Int)) (ck (0 ≤ i_35 ∧ i_35 < (signs_1.length : Int)) (ck (0 ≤ (IntKind.i64.wrap ((BitVec.ofInt 64 (signs_1.getD (i_35.toNat) (0 : Int)) &&& BitVec.ofInt 64 (1 : Int)).toNat : Int)) ∧ (IntKind.i64.wrap ((BitVec.ofInt 64 (signs_1.getD (i_35.toNat) (0 : Int)) &&& BitVec.ofInt 64 (1 : Int)).toNat : Int)) ≤ (((aS ⟨#[32]⟩).length : Nat) : Int)) (ck ((s_34.length) + (List.take (IntKind.i64.wrap ((BitVec.ofInt 64 (signs_1.getD (i_35.toNat) (0 : Int)) &&& BitVec.ofInt 64 (1 : Int)).toNat : Int)).toNat (aS ⟨#[32]⟩)).length ≤ 9223372036854775807) (ck (I64 ((IntKind.i64.wrap (((((signs_1.getD (i_35.toNat) (0 : Int)) % (18446744073709551616 : Int)).toNat % (4 : Nat)) : Nat) : Int)) + (1 : Int))) (ck (0 ≤ (IntKind.i64.wrap (((((signs_1.getD (i_35.toNat) (0 : Int)) % (18446744073709551616 : Int)).toNat % (4 : Nat)) : Nat) : Int)) ∧ (IntKind.i64.wrap (((((signs_1.getD (i_35.toNat) (0 : Int)) % (18446744073709551616 : Int)).toNat % (4 : Nat)) : Nat) : Int)) ≤ ((IntKind.i64.wrap (((((signs_1.getD (i_35.toNat) (0 : Int)) % (18446744073709551616 : Int)).toNat % (4 : Nat)) : Nat) : Int)) + (1 : Int)) ∧ ((IntKind.i64.wrap (((((signs_1.getD (i_35.toNat) (0 : Int)) % (18446744073709551616 : Int)).toNat % (4 : Nat)) : Nat) : Int)) + (1 : Int)) ≤ (((aS ⟨#[43, 45, 42, 47]⟩).length : Nat) : Int)) (ck ((s_34 ++ (List.take (IntKind.i64.wrap ((BitVec.ofInt 64 (signs_1.getD (i_35.toNat) (0 : Int)) &&& BitVec.ofInt 64 (1 : Int)).toNat : Int)).toNat (aS ⟨#[32]⟩))).length + (List.drop (IntKind.i64.wrap (((((signs_1.getD (i_35.toNat) (0 : Int)) % (18446744073709551616 : Int)).toNat % (4 : Nat)) : Nat) : Int)).toNat (List.take ((IntKind.i64.wrap (((((signs_1.getD (i_35.toNat) (0 : Int)) % (18446744073709551616 : Int)).toNat % (4 : Nat)) : Nat) : Int)) + (1 : Int)).toNat (aS ⟨#[43, 45, 42, 47]⟩))).length ≤ 9223372036854775807) (iV F l_0 i_35 ((s_34 ++ (List.take (IntKind.i64.wrap ((BitVec.ofInt 64 (signs_1.getD (i_35.toNat) (0 : Int)) &&& BitVec.ofInt 64 (1 : Int)).toNat : Int)).toNat (aS ⟨#[32]⟩))) ++ (List.drop (IntKind.i64.wrap (((((signs_1.getD (i_35.toNat) (0 : Int)) % (18446744073709551616 : Int)).toNat % (4 : Nat)) : Nat) : Int)).toNat (List.take ((IntKind.i64.wrap (((((signs_1.getD (i_35.toNat) (0 : Int)) % (18446744073709551616 : Int)).toNat % (4 : Nat)) : Nat) : Int)) + (1 : Int)).toNat (aS ⟨#[43, 45, 42, 47]⟩))))))))))) else iV F l_0 i_35 s_34) else some (.inr s_34)
def nW (F : Md) (l_0 : wj) (signs_1 : wj) : Option Bool :=
 if ((min (l_0.length : Int) (12 : Int)) < (1 : Int)) ∨ ((signs_1.length : Int) < (min (l_0.length : Int) (12 : Int))) then some aLo else (eJ F (fun d : qd × Int => gJ F l_0 signs_1 d.1 d.2) ((aS ⟨#[]⟩), (0 : Int))).bind (fun e => oJ F l_0 signs_1 e)
@[go_sem]def lM : Ty := .pair (.sl qe) (.pair (.sl qe) .unit)
def aA3 (F : Md) : aI := mSpec lM (.one .bool) (fun x => nW F x.1 x.2.1)
abbrev nX (F : Md) : List (FuncId × aI) := [(10, (wC F)), (8, aBw), (9, (pN F))]
theorem aBU [Mx] (F : Md) : bH Tryz.prog GL (nX F) := .cons (aMH F) xAa (.cons aQV xAa (.cons (aEI F) xAa (.nil)))
theorem aG9 [Mx] (F : Md) : FOK Tryz.prog GL 3 (aA3 F) := by
 refine rY (aU (aBU F)) Tryz.func3 rfl xAa xAc fun w0 S x r hw h => ?_
 have hF : gD (fr Tryz.prog (EM (nX F)) S w0 Tryz.f3.ntmps) := ⟨aU (aBU F), mix⟩
 obtain ⟨(l_0 : wj), (signs_1 : wj), u⟩ := x
 simp only [lM, Ty.wf, fG] at hw
 simp only [bZ, lM]
 try dsimp only at h
 replace h : nW F l_0 signs_1 = some r := h
 unfold nW at h
 refine aB (aF hF [0, 1] (yaA ?_))
 refine aA (aB (aF hF [0, 1, 5] (yaA ?_)))
 refine aA (aB (aB (aF hF [0, 1, 5, 25] (yaA ?_))))
 refine aA (bC rfl (fun hc => ?_) (fun hc => ?_))
 ·try simp only [go_sem] at hc
  exact zaq
 ·try simp only [go_sem] at hc
  have h := dQ zAB h
  refine bY (aA (aB (aF hF [0, 1, 5, 6] (yaA ?_))))
  refine aA (oB (D := qd) (fun d => oJ F l_0 signs_1 d = some r) [0, 1, 5] (fun d => [(6, .val .str d)]) (fun d => []) ?_ ?_)
  ·refine aB (aF hF [0, 1, 5, 6, 7] (yaA ?_))
   refine aA (dH (oC (D := qd × Int) [0, 1, 5] (fun d => [(6, .val .str d.1), (7, .val qe d.2)]) (fun d => []) h ?_ ?_ ?_))
   ·first | rfl | (simp only [go_sem]; done)
   ·exact zAG
   rintro ⟨s_34, i_35⟩ s6 h hs6
   simp only [go_sem]
   try dsimp only at h
   unfold gJ at h
   refine aB (aB (aF hF [0, 1, 5, 6, 7, 29] (yaA ?_)))
   refine aA (bC rfl (fun hc => ?_) (fun hc => ?_))
   ·try simp only [go_sem] at hc
    have h := dP zAB h
    refine bY (aA (aB (dH (aB (aF hF [0, 1, 5, 6, 7, 8] (yaA ?_))))))
    obtain ⟨g0, h⟩ := aM h
    repeat (refine ⟨zAA, ?_⟩)
    refine aA (oB (D := qd) (fun d => iV F l_0 i_35 d = some s6) [0, 1, 5, 7, 8] (fun d => [(6, .val .str d)]) (fun d => []) ?_ ?_)
    ·refine aB (aF hF [0, 1, 5, 6, 7, 8, 40] (yaA ?_))
     refine aA (bC rfl (fun hc => ?_) (fun hc => ?_))
     ·try simp only [go_sem] at hc
      have h := dP zAB h
      refine aB (aF hF [0, 1, 5, 6, 7, 8, 9] (yaA ?_))
      obtain ⟨g0, h⟩ := aM h
      repeat (refine ⟨zAA, ?_⟩)
      refine aA (aF hF [0, 1, 5, 6, 7, 8] (yaA ?_))
      obtain ⟨g0, h⟩ := aM h
      obtain ⟨g1, h⟩ := aM h
      obtain ⟨g2, h⟩ := aM h
      obtain ⟨g3, h⟩ := aM h
      obtain ⟨g4, h⟩ := aM h
      obtain ⟨g5, h⟩ := aM h
      try simp only [I64, I32] at g3
      repeat (refine ⟨by first | with_reducible assumption | exact g0 | exact g1 | exact g2 | exact g3 | exact g4 | exact g5 | omega, ?_⟩)
      refine bO (aY ((s_34 ++ (List.take (IntKind.i64.wrap ((BitVec.ofInt 64 (signs_1.getD (i_35.toNat) (0 : Int)) &&& BitVec.ofInt 64 (1 : Int)).toNat : Int)).toNat (aS ⟨#[32]⟩))) ++ (List.drop (IntKind.i64.wrap (((((signs_1.getD (i_35.toNat) (0 : Int)) % (18446744073709551616 : Int)).toNat % (4 : Nat)) : Nat) : Int)).toNat (List.take ((IntKind.i64.wrap (((((signs_1.getD (i_35.toNat) (0 : Int)) % (18446744073709551616 : Int)).toNat % (4 : Nat)) : Nat) : Int)) + (1 : Int)).toNat (aS ⟨#[43, 45, 42, 47]⟩)))) h rfl ?_)
      ·exact zAG
     ·try simp only [go_sem] at hc
      have h := dQ zAB h
      refine bY (bO (aY (s_34) h rfl ?_))
      ·exact zAG
    ·rintro s_41 h
     try dsimp only at h
     simp only [go_sem]
     unfold iV at h
     refine aF hF [0, 1, 5, 6, 7] (yaA ?_)
     obtain ⟨g0, h⟩ := aM h
     obtain ⟨g1, h⟩ := aM h
     obtain ⟨g2, h⟩ := aM h
     try simp only [I64, I32] at g0
     repeat (refine ⟨zAA, ?_⟩)
     refine aZ (aA (aF hF [0, 1, 5, 6, 7] (yaA ?_)))
     obtain ⟨g0, h⟩ := aM h
     try simp only [I64, I32] at g0
     repeat (refine ⟨zAA, ?_⟩)
     obtain rfl := Option.some.inj h
     dsimp only [lR] at hs6
     refine bO (aY ((s_41 ++ (List.drop (IntKind.i64.wrap (((((l_0.getD (i_35.toNat) (0 : Int)) % (18446744073709551616 : Int)).toNat % (10 : Nat)) : Nat) : Int)).toNat (List.take ((IntKind.i64.wrap (((((l_0.getD (i_35.toNat) (0 : Int)) % (18446744073709551616 : Int)).toNat % (10 : Nat)) : Nat) : Int)) + (1 : Int)).toNat (aS ⟨#[48, 49, 50, 51, 52, 53, 54, 55, 56, 57]⟩)))), (i_35 + (1 : Int))) hs6 rfl ?_)
     ·exact zAG
   ·try simp only [go_sem] at hc
    have h := dQ zAB h
    obtain rfl := Option.some.inj h
    dsimp only [lR] at hs6
    have h := yaF (hs6)
    refine pV (cV (cV (fH (bO (aY (s_34) h rfl ?_)))))
    ·exact zAG
  ·rintro s_8 h
   try dsimp only at h
   simp only [go_sem]
   unfold oJ at h
   refine aB (aR hF [0, 1, 5, 10, 12] (yaA ?_))
   obtain ⟨g0, h⟩ := aM h
   repeat (refine ⟨zAA, ?_⟩)
   refine aA (aB (aB (aF hF [0, 1, 5, 10, 74] (yaA ?_))))
   refine aA (bC rfl (fun hc => ?_) (fun hc => ?_))
   ·try simp only [go_sem] at hc
    exact zaq
   ·try simp only [go_sem] at hc
    have h := dQ zAB h
    refine bY (aA (oB (D := Int × Ex) (fun d => lL F l_0 signs_1 d.1 d.2 = some r) [0, 1] (fun d => [(5, .val qe d.1), (10, .ptr 0 [])]) (fun d => [.inr (.box 3 (.val .expr d.2))]) ?_ ?_))
    ·refine aB (aF hF [0, 1, 5, 10, 13] (yaA ?_))
     obtain ⟨g0, h⟩ := aM h
     try simp only [I64, I32] at g0
     repeat (refine ⟨zAA, ?_⟩)
     refine aA (dH (oC (D := Int × Int × Ex) [0, 1] (fun d => [(5, .val qe d.1), (10, .ptr 0 []), (13, .val qe d.2.1)]) (fun d => [.inr (.box 3 (.val .expr d.2.2))]) h ?_ ?_ ?_))
     ·first | rfl | (simp only [go_sem]; done)
     ·exact zAG
     rintro ⟨n_23, i_24, e_25⟩ s17 h hs17
     simp only [go_sem]
     try dsimp only at h
     unfold cX at h
     refine aB (aB (aF hF [0, 1, 5, 10, 13, 78] (yaA ?_)))
     refine aA (bC rfl (fun hc => ?_) (fun hc => ?_))
     ·try simp only [go_sem] at hc
      have h := dP zAB h
      refine bY (aA (aB (dH (aB (aF hF [0, 1, 5, 10, 13, 14] (yaA ?_))))))
      obtain ⟨g0, h⟩ := aM h
      repeat (refine ⟨zAA, ?_⟩)
      refine aA (aB (aB (aF hF [0, 1, 5, 10, 13, 14, 89] (yaA ?_))))
      refine aA (bC rfl (fun hc => ?_) (fun hc => ?_))
      ·try simp only [go_sem] at hc
       have h := dP zAB h
       refine pV (cV (fH (aA (aF hF [0, 1, 5, 10, 13] (yaA ?_)))))
       obtain ⟨g0, h⟩ := aM h
       try simp only [I64, I32] at g0
       repeat (refine ⟨zAA, ?_⟩)
       obtain rfl := Option.some.inj h
       dsimp only [lR] at hs17
       refine bO (aY (n_23, (i_24 - (1 : Int)), e_25) hs17 rfl ?_)
       ·exact zAG
      ·try simp only [go_sem] at hc
       have h := dQ zAB h
       refine bY (aA (aB (aB (aF hF [0, 1, 10, 13, 112] (yaA ?_)))))
       obtain ⟨g0, h⟩ := aM h
       obtain ⟨g1, h⟩ := aM h
       obtain ⟨g2, h⟩ := aM h
       try simp only [I64, I32] at g0
       repeat (refine ⟨by first | with_reducible assumption | omega | (intros; first | with_reducible assumption | omega) | (simp only [go_sem] at *; first | with_reducible assumption | omega) | (intro _; exact ⟨rfl, by decide⟩) | (intro _; refine (?_ : _ = aD _); rfl) | (refine (?_ : _ = aD _); rfl) | exact ⟨rfl, rfl⟩ | (intro q0; (try have e1 := g1 zAF); (try have e2 := g2 zAF); first | assumption | omega) | decide, ?_⟩)
       refine aA (bC rfl (fun hc => ?_) (fun hc => ?_))
       ·try simp only [go_sem] at hc
        have h := dP zAB h
        refine aB (aF hF [4] (yaA ?_))
        obtain rfl := Option.some.inj h
        dsimp only [lR] at hs17
        have h := yaF (hs17)
        obtain rfl := Option.some.inj h
        refine aA (cA (cE (fQ (cE (cE (fQ (cE (gX hF [.tmp 4] rfl rfl rfl ?_))))))))
        exact zAH
       ·try simp only [go_sem] at hc
        have h := dQ zAB h
        refine bY (aA (aR hF [0, 1, 5, 10, 13] (yaA ?_)))
        obtain ⟨g0, h⟩ := aM h
        repeat (refine ⟨zAA, ?_⟩)
        refine aZ (aA (aF hF [0, 1, 5, 10, 13] (yaA ?_)))
        obtain ⟨g0, h⟩ := aM h
        try simp only [I64, I32] at g0
        repeat (refine ⟨zAA, ?_⟩)
        obtain rfl := Option.some.inj h
        dsimp only [lR] at hs17
        refine bO (aY (i_24, (i_24 - (1 : Int)), ((e_25.l).getD (0 : Nat) (Ex.mk 0 [] []))) hs17 rfl ?_)
        ·exact zAG
     ·try simp only [go_sem] at hc
      have h := dQ zAB h
      obtain rfl := Option.some.inj h
      dsimp only [lR] at hs17
      have h := yaF (hs17)
      refine pV (cV (cV (fH (bO (aY (n_23, e_25) h rfl ?_)))))
      ·exact zAG
    ·rintro ⟨n_19, e_20⟩ h
     try dsimp only at h
     simp only [go_sem]
     unfold lL at h
     refine aB (aF hF [4] (yaA ?_))
     exact zar
attribute [go_sem] aA3
end
end Nu
end Go.Proofs
namespace Go.Proofs
open Go.Vc
set_option maxRecDepth 20000
namespace Nu
theorem cC {α : Type} {p : Prop} [Decidable p] {k : Option α} {r : Option α} (hp : p) (h : k = r) : ck p k = r := (aZB hp).trans h
theorem aY7 {α : Type} {p : Prop} [Decidable p] {x y r : α} (h1 : p → x = r) (h2 : ¬ p → y = r) : (if p then x else y) = r := by
 split
 ·exact h1 ‹_›
 ·exact h2 ‹_›
theorem dO {α β : Type} {x : Option α} {a : α} {k : α → Option β} {r : Option β} (hx : x = some a) (h : k a = r) : x.bind k = r := by rw [hx]; exact h
theorem take_succ {s : List Nat} {k : Nat} (h : k < s.length) : s.take (k + 1) = s.take k ++ [s.getD k 0] := by
 rw [List.take_add_one, List.getElem?_eq_getElem h, List.getD_eq_getElem?_getD, List.getElem?_eq_getElem h]
 rfl
def aA4 (c : Nat) : Bool := decide (48 ≤ c ∧ c ≤ 57)
def iQ (s : List Nat) (i : Nat) : Nat := ((s.drop i).takeWhile aA4).length
theorem aY8 {p : Nat → Bool} : ∀ (l : List Nat) (n : Nat), n ≤ (l.takeWhile p).length → (n < (l.takeWhile p).length ↔ n < l.length ∧ p (l.getD n 0) = true)
 | [], n, h => by simp
 | x :: r, n, h => by
  by_cases hp : p x = true
  ·rw [List.takeWhile_cons_of_pos hp] at h ⊢
   cases n with
   | zero => simp [hp]
   | succ n =>
    have := aY8 (p := p) r n (by simpa using h)
    simpa using this
  ·rw [List.takeWhile_cons_of_neg hp] at h ⊢
   have : n = 0 := by simpa using h
   subst this
   simp [hp]
theorem aIz (s : List Nat) (i : Nat) : iQ s i ≤ s.length - i := by
 have := (List.takeWhile_prefix (p := aA4) (l := s.drop i)).length_le
 rw [List.length_drop] at this
 exact this
theorem aC4 (s : List Nat) (i : Nat) (hs : s.length ≤ 4611686018427387904) (hi : i ≤ 4611686018427387904) : lX none s (i : Int) = some (iQ s i : Int) := by
 have hd := aIz s i
 unfold lX
 refine dO (aS3 (step := fun d : Int => oM none (i : Int) s d) (I := fun n => 0 ≤ n ∧ n ≤ iQ s i) (fun n => ((iQ s i : Int) - n).toNat) (fun _ => (iQ s i : Int)) ?_ 0 ⟨by omega, by omega⟩) rfl
 rintro n ⟨n0, n1⟩
 obtain ⟨k, rfl⟩ := Int.eq_ofNat_of_zero_le n0
 show (∃ d', oM none (i : Int) s k = _ ∧ _) ∨ oM none (i : Int) s k = _
 have e : ((i : Int) + (k : Int)).toNat = i + k := by omega
 have hx : s.getD (i + k) 0 = (s.drop i).getD k 0 := by simp [List.getD_eq_getElem?_getD, List.getElem?_drop]
 have ht := aY8 (p := aA4) (s.drop i) k (by show k ≤ iQ s i; omega)
 have ht : k < iQ s i ↔ i + k < s.length ∧ 48 ≤ s.getD (i + k) 0 ∧ s.getD (i + k) 0 ≤ 57 := by
  rw [hx]
  refine ht.trans ?_
  rw [List.length_drop, aA4, decide_eq_true_iff]
  constructor
  ·rintro ⟨h1, h2⟩; exact ⟨by omega, h2⟩
  ·rintro ⟨h1, h2⟩; exact ⟨by omega, h2⟩
 unfold oM
 rw [e]
 by_cases hk : k < iQ s i
 ·left
  obtain ⟨h1, h2, h3⟩ := ht.1 hk
  refine ⟨(k : Int) + 1, ?_, ⟨by omega, by omega⟩, by omega, rfl⟩
  refine cC (by constructor <;> omega) (cC (fun _ => by constructor <;> omega) (cC (fun _ => by constructor <;> omega) (cC (fun _ => by constructor <;> omega) (cC (fun _ => by constructor <;> omega) ?_))))
  rw [if_pos ⟨⟨by omega, h2⟩, h3⟩]
  exact cC (by constructor <;> omega) rfl
 ·right
  refine cC (by constructor <;> omega) (cC (fun _ => by constructor <;> omega) (cC (fun _ => by constructor <;> omega) (cC (fun _ => by constructor <;> omega) (cC (fun _ => by constructor <;> omega) ?_))))
  rw [if_neg (fun h => hk (ht.2 ⟨by omega, h.1.2, h.2⟩)), show (k : Int) = (iQ s i : Int) from by omega]
theorem bAN {a b : Nat} (ha : a < 256) (hb : b ≤ a) : aAN none .u8 a b = a - b := by
 have hm : kI .u8 = 256 := by decide +kernel
 rw [aU5, aOs, hm, show a + (256 - b) = (a - b) + 256 from by omega, Nat.add_mod_right, Nat.mod_eq_of_lt (by omega)]
def aEQ (s : List Nat) : Nat := s.foldl (fun m c => m * 10 + (c - 48)) 0
theorem aV0 (s : List Nat) (c : Nat) : aEQ (s ++ [c]) = aEQ s * 10 + (c - 48) := by simp [aEQ]
theorem aRw : ∀ (s : List Nat) (m : Nat), (∀ c ∈ s, aA4 c = true) → s.foldl (fun m c => m * 10 + (c - 48)) m < (m + 1) * 10 ^ s.length
 | [], m, _ => by simp
 | x :: r, m, h => by
  have hx := h x (by simp)
  simp only [aA4, decide_eq_true_iff] at hx
  have ih := aRw r (m * 10 + (x - 48)) (fun c hc => h c (by simp [hc]))
  rw [List.foldl_cons, List.length_cons, Nat.pow_succ, Nat.mul_comm (10 ^ r.length) 10, ← Nat.mul_assoc]
  exact Nat.lt_of_lt_of_le ih (Nat.mul_le_mul_right _ (by omega))
theorem aYK {s : List Nat} (h : ∀ c ∈ s, aA4 c = true) : aEQ s < 10 ^ s.length := by
 have := aRw s 0 h
 rw [Nat.zero_add, Nat.one_mul] at this
 exact this
theorem aXA {k : Nat} (h : k ≤ 18) : 10 ^ k ≤ 1000000000000000000 := Nat.pow_le_pow_right (n := 10) xAc h
theorem aYL (s : List Nat) (hd : ∀ c ∈ s, aA4 c = true) (h0 : 0 < s.length) (h1 : s.length ≤ 18) : lW none s = some ((aEQ s : Int), (), ()) := by
 have hget : ∀ k, k < s.length → 48 ≤ s.getD k 0 ∧ s.getD k 0 ≤ 57 := fun k hk => by
  have hg : s.getD k 0 ∈ s := by rw [List.getD_eq_getElem?_getD, List.getElem?_eq_getElem hk]; exact List.getElem_mem hk
  have := hd _ hg
  simpa only [aA4, decide_eq_true_iff] using this
 have hlt : ∀ k, aEQ (s.take k) < 1000000000000000000 ∨ k > s.length := fun k => by
  rcases Nat.lt_or_ge s.length k with h | h
  ·exact .inr h
  ·left
   have a := aYK (s := s.take k) (fun c hc => hd c (List.mem_of_mem_take hc))
   have b := aXA (k := (s.take k).length) (by rw [List.length_take]; omega)
   omega
 have key : kW none s s = some ((aEQ s : Int), (), ()) := by
  unfold kW
  refine dO (aS3 (step := fun d : Int × Int => jY none s d.1 d.2) (I := fun d => 0 ≤ d.2 ∧ d.2 ≤ s.length ∧ d.1 = (aEQ (s.take d.2.toNat) : Int)) (fun d => ((s.length : Int) - d.2).toNat) (fun _ => .inl (aEQ s : Int)) ?_ (0, 0) ⟨by simp, by simp, by simp [aEQ]⟩) ?_
  ·rintro ⟨n, i⟩ ⟨i0, i1, i2⟩
   have i0 : 0 ≤ i := i0
   have i1 : i ≤ s.length := i1
   have i2 : n = (aEQ (s.take i.toNat) : Int) := i2
   show (∃ d', jY none s n i = _ ∧ _) ∨ jY none s n i = _
   unfold jY
   by_cases hi : i < s.length
   ·left
    have hk : i.toNat < s.length := by omega
    obtain ⟨c1, c2⟩ := hget _ hk
    have hsub : aAN none .u8 (s.getD i.toNat 0) 48 = s.getD i.toNat 0 - 48 := bAN (by omega) c1
    have hb : aEQ (s.take (i.toNat + 1)) = aEQ (s.take i.toNat) * 10 + (s.getD i.toNat 0 - 48) := by rw [take_succ hk, aV0]
    have hl := hlt (i.toNat + 1)
    refine ⟨((aEQ (s.take (i + 1).toNat) : Int), i + 1), ?_, ⟨by simp only; omega, by simp only; omega, rfl⟩, by simp only; omega, rfl⟩
    rw [if_pos hi, hsub, show (i + 1).toNat = i.toNat + 1 from by omega, hb]
    refine cC (by constructor <;> omega) ?_
    rw [if_neg (by omega), i2]
    refine cC (by constructor <;> omega) (cC (by constructor <;> omega) (cC (by constructor <;> omega) ?_))
    congr 3
   ·right
    rw [if_neg hi, i2, List.take_of_length_le (by omega)]
  ·unfold pZ
   obtain ⟨c1, c2⟩ := hget 0 h0
   refine cC (by omega) ?_
   rw [if_neg (by omega)]
 have h2 : qT none s = some ((aEQ s : Int), (), ()) := by
  unfold qT
  obtain ⟨c1, c2⟩ := hget 0 h0
  rw [if_pos (.inr ⟨trivial, by omega, by omega⟩)]
  refine cC (by omega) (cC (fun _ => by omega) ?_)
  rw [if_neg (by omega)]
  exact key
 unfold lW
 exact dO h2 rfl
theorem aXB (s : List Nat) (i : Nat) : ∀ c ∈ (s.drop i).take (iQ s i), aA4 c = true := by
 intro c hc
 have h : (s.drop i).take (iQ s i) = (s.drop i).takeWhile aA4 := by
  have := List.prefix_iff_eq_take.1 (List.takeWhile_prefix (p := aA4) (l := s.drop i))
  exact this.symm
 rw [h] at hc
 exact List.all_eq_true.1 List.all_takeWhile c hc
def aAK (s : List Nat) (i : Nat) (c : Nat) : Prop := i < s.length ∧ s.getD i 0 = c
instance (s : List Nat) (i c : Nat) : Decidable (aAK s i c) := inferInstanceAs (Decidable (_ ∧ _))
end Nu
end Go.Proofs
namespace Go.Proofs
open Go.Vc
set_option maxRecDepth 20000
namespace Nu
def mx (l : List Nat) : Nat := l.foldr max 0
theorem aYM (l : List Nat) (b : Nat) : mx (l ++ [b]) = max (mx l) b := by
 induction l with
 | nil => simp [mx]
 | cons a r ih =>
  simp only [mx, List.cons_append, List.foldr_cons] at ih ⊢
  rw [ih, Nat.max_assoc]
theorem aVc {l : List Ex} {k : Nat} (h : k < l.length) : l.take (k + 1) = l.take k ++ [l.getD k (Ex.mk 0 [] [])] := by
 rw [List.take_succ_eq_append_getElem h, List.getD_eq_getElem?_getD, List.getElem?_eq_getElem h]; rfl
theorem aXC {l : List Ex} {k : Nat} (h : k < l.length) : l.getD k (Ex.mk 0 [] []) ∈ l := by
 rw [List.getD_eq_getElem?_getD, List.getElem?_eq_getElem h]; exact List.getElem_mem h
def aGt (f : Ex → Nat) (l : List Ex) : Nat := (l.map f).sum
def mxN (f : Ex → Nat) (l : List Ex) : Nat := mx (l.map f)
theorem aRx (f : Ex → Nat) {l : List Ex} {k : Nat} (h : k < l.length) : aGt f (l.take (k + 1)) = aGt f (l.take k) + f (l.getD k (Ex.mk 0 [] [])) := by
 rw [aVc h]; simp [aGt]
theorem aXD (f : Ex → Nat) {l : List Ex} {k : Nat} (h : k < l.length) : mxN f (l.take (k + 1)) = max (mxN f (l.take k)) (f (l.getD k (Ex.mk 0 [] []))) := by
 rw [aVc h, mxN, List.map_append]; exact aYM _ _
theorem aYN (f : Ex → Nat) (l : List Ex) (k : Nat) : aGt f (l.take k) ≤ aGt f l := by
 have : aGt f l = aGt f (l.take k ++ l.drop k) := by rw [List.take_append_drop]
 rw [this, aGt, aGt, List.map_append, List.sum_append]
 exact Nat.le_add_right _ _
theorem aXE (f : Ex → Nat) {l : List Ex} {k : Nat} (h : k < l.length) : aGt f (l.take k) + f (l.getD k (Ex.mk 0 [] [])) ≤ aGt f l := by
 rw [← aRx f h]; exact aYN f l _
theorem aZI (f : Ex → Nat) (l : List Ex) : aGt f (l.take 0) = 0 := by simp [aGt]
theorem bAa (f : Ex → Nat) (l : List Ex) : mxN f (l.take 0) = 0 := by simp [mxN, mx]
theorem aV1 {l : List Ex} {k : Nat} (h : l.length ≤ k) : l.take k = l := List.take_of_length_le h
def fits : Nat → Ex → Prop
 | 0, _ => False
 | n + 1, e => e.text.length ≤ 100 ∧ e.l.length ≤ 1000 ∧ ∀ x ∈ e.l, fits n x
def nd : Nat → Ex → Nat
 | 0, _ => 0
 | n + 1, e => 1 + aGt (nd n) e.l
def ht : Nat → Ex → Nat
 | 0, _ => 0
 | n + 1, e => 1 + mxN (ht n) e.l
theorem aUm {f : Ex → Nat} {b : Nat} (h : ∀ x, f x ≤ b) : ∀ l : List Ex, mxN f l ≤ b
 | [] => by simp [mxN, mx]
 | x :: r => by
  have h1 := h x
  have h2 := aUm h r
  have : mxN f (x :: r) = max (f x) (mxN f r) := rfl
  omega
theorem aY9 : ∀ (n : Nat) (e : Ex), ht n e ≤ n
 | 0, e => Nat.le_refl 0
 | n + 1, e => by
  have := aUm (aY9 n) e.l
  have h : ht (n + 1) e = 1 + mxN (ht n) e.l := rfl
  omega
theorem aZJ {n : Nat} {e : Ex} (h : fits n e) : 1 ≤ ht n e := by
 cases n with
 | zero => exact h.elim
 | succ n => have : ht (n + 1) e = 1 + mxN (ht n) e.l := rfl; omega
theorem aVd : ∀ (n k : Nat) (e : Ex) (a n0 d0 : Nat), n ≤ k → fits n e → a + n ≤ 1000 → n0 + nd n e ≤ 100000 → d0 ≤ 100000 →
  ∃ n' d' : Nat, nN none k e (a : Int) (n0 : Int) (d0 : Int) = some ((n' : Int), (d' : Int)) ∧ n0 < n' ∧ n' ≤ n0 + nd n e ∧ d0 ≤ d' ∧ a ≤ d' ∧ d' ≤ max d0 (a + ht n e - 1) ∧ (n' ≤ 60 → d' ≤ 30 → n' = n0 + nd n e ∧ d' = max d0 (a + ht n e - 1))
 | 0, k, e, a, n0, d0, hk, hf, ha, hn, hd => hf.elim
 | n + 1, 0, e, a, n0, d0, hk, hf, ha, hn, hd => absurd hk (by omega)
 | n + 1, k + 1, e, a, n0, d0, hk, hf, ha, hn, hd => by
  obtain ⟨hf1, hf2, hf3⟩ := hf
  have hnd : nd (n + 1) e = 1 + aGt (nd n) e.l := rfl
  have hht : ht (n + 1) e = 1 + mxN (ht n) e.l := rfl
  show ∃ n' d' : Nat, pQ none (nN none k) e (a : Int) (n0 : Int) (d0 : Int) = _ ∧ _
  unfold pQ
  by_cases hc : (60 : Int) < (n0 : Int) + 1 ∨ (30 : Int) < (a : Int)
  ·refine ⟨n0 + 1, max d0 a, ?_, by omega, by omega, by omega, by omega, by omega, fun _ _ => by omega⟩
   refine cC (by constructor <;> omega) ?_
   rw [if_pos hc]
   congr 2
   omega
  ·obtain ⟨r, hr, x, y, rfl, q1, q2, q3, q4, q5⟩ := aTZ (step := fun d : Int × Int × Int => mG none (nN none k) e (a : Int) d.1 d.2.1 d.2.2)
    (I := fun d => ∃ i x y : Nat, d = ((i : Int), (x : Int), (y : Int)) ∧ i ≤ e.l.length ∧ n0 + 1 ≤ x ∧ x ≤ n0 + 1 + aGt (nd n) (e.l.take i) ∧ max d0 a ≤ y ∧ y ≤ max (max d0 a) (a + mxN (ht n) (e.l.take i)) ∧ (x ≤ 60 → y ≤ 30 → x = n0 + 1 + aGt (nd n) (e.l.take i) ∧ y = max (max d0 a) (a + mxN (ht n) (e.l.take i))))
    (fun d => ((e.l.length : Int) - d.1).toNat)
    (fun r => ∃ x y : Nat, r = ((x : Int), (y : Int)) ∧ n0 + 1 ≤ x ∧ x ≤ n0 + 1 + aGt (nd n) e.l ∧ max d0 a ≤ y ∧ y ≤ max (max d0 a) (a + mxN (ht n) e.l) ∧ (x ≤ 60 → y ≤ 30 → x = n0 + 1 + aGt (nd n) e.l ∧ y = max (max d0 a) (a + mxN (ht n) e.l)))
    (by
     rintro d ⟨i, x, y, rfl, h1, h2, h3, h4, h5, h6⟩
     show (∃ d', mG none (nN none k) e (a : Int) (i : Int) (x : Int) (y : Int) = _ ∧ _) ∨ ∃ r, mG none (nN none k) e (a : Int) (i : Int) (x : Int) (y : Int) = _ ∧ _
     unfold mG
     by_cases hi : i < e.l.length
     ·left
      have s1 := aXE (nd n) hi
      have s2 := aRx (nd n) hi
      have s3 := aXD (ht n) hi
      have hmem := hf3 _ (aXC hi)
      have hm := aUm (aY9 n) (e.l.take i)
      have hy : y ≤ 100000 := by omega
      ·obtain ⟨x', y', p1, p2, p3, p4, p5, p6, p7⟩ := aVd n k (e.l.getD i (Ex.mk 0 [] [])) (a + 1) x y (by omega) hmem (by omega) (by omega) hy
       rw [show ((a + 1 : Nat) : Int) = (a : Int) + 1 from by omega] at p1
       refine ⟨(((i + 1 : Nat) : Int), (x' : Int), (y' : Int)), ?_, ⟨i + 1, x', y', rfl, by omega, by omega, by omega, by omega, by omega, fun c1 c2 => ?_⟩, by simp only; omega⟩
       ·rw [if_pos (by omega), Int.toNat_natCast]
        refine cC (by constructor <;> omega) (cC (by constructor <;> omega) (dO p1 (cC (by constructor <;> omega) ?_)))
        congr 3
       ·obtain ⟨u1, u2⟩ := p7 c1 c2
        obtain ⟨v1, v2⟩ := h6 (by omega) (by omega)
        omega
     ·right
      have e1 : e.l.take i = e.l := aV1 (by omega)
      rw [e1] at h3 h5 h6
      refine ⟨((x : Int), (y : Int)), ?_, x, y, rfl, h2, h3, h4, h5, h6⟩
      rw [if_neg (by omega)])
    ((0 : Int), (n0 : Int) + 1, max (d0 : Int) (a : Int)) ⟨0, n0 + 1, max d0 a, by congr 2; omega, by omega, by omega, by omega, by omega, by omega, fun _ _ => by rw [aZI, bAa]; omega⟩
   refine ⟨x, y, ?_, by omega, by omega, by omega, by omega, by omega, fun c1 c2 => by have := q5 c1 c2; omega⟩
   refine cC (by constructor <;> omega) ?_
   rw [if_neg hc]
   exact dO hr rfl
theorem aZK {n : Nat} {e : Ex} (hf : fits n e) (hn : n ≤ 64) (hd : nd n e ≤ 1000) : pM none e = some (decide (nd n e ≤ 60 ∧ ht n e ≤ 30)) := by
 obtain ⟨x, y, h1, h2, h3, h4, h5, h6, h7⟩ := aVd n 64 e 1 0 0 hn hf (by omega) (by omega) (by omega)
 have hp := aZJ hf
 unfold pM aAc
 refine dO (dO h1 rfl) ?_
 congr 1
 rw [← Bool.decide_and]
 refine decide_eq_decide.2 ⟨fun ⟨a, b⟩ => ?_, fun ⟨a, b⟩ => ?_⟩
 ·have a : (x : Int) ≤ 60 := a
  have b : (y : Int) ≤ 30 := b
  have := h7 (by omega) (by omega)
  omega
 ·show (x : Int) ≤ 60 ∧ (y : Int) ≤ 30
  omega
end Nu
end Go.Proofs
namespace Go.Proofs
open Go.Vc
set_option maxRecDepth 20000
namespace Nu
theorem aEq {D E : Type} {step : D → Option (D ⊕ E)} {d d' : D} {r : E} (h : step d = some (.inl d')) (h2 : aDh step d' = some r) : aDh step d = some r := by
 obtain ⟨n, hn⟩ := aVO.1 h2
 exact aFP (n := n + 1) (by rw [iter, h]; exact hn)
theorem aAL {D E : Type} {step : D → Option (D ⊕ E)} {d : D} {r : E} (h : step d = some (.inr r)) : aDh step d = some r := aFP (n := 1) (by rw [iter, h])
theorem ify {α : Type} {p : Prop} {i : Decidable p} {x y r : α} (hp : p) (h : x = r) : @ite α p i x y = r := (if_pos hp).trans h
theorem ifn {α : Type} {p : Prop} {i : Decidable p} {x y r : α} (hp : ¬ p) (h : y = r) : @ite α p i x y = r := (if_neg hp).trans h
def aQY (c : Nat) : Bool := c == 32
def aQk (c : Nat) : Bool := decide (97 ≤ c ∧ c ≤ 122)
def rQ (c : Nat) : Bool := aQk c || aA4 c || c == 95
def run (p : Nat → Bool) (s : List Nat) (i : Nat) : Nat := ((s.drop i).takeWhile p).length
theorem aSq (p : Nat → Bool) (s : List Nat) (i : Nat) : run p s i ≤ s.length - i := by
 have := (List.takeWhile_prefix (p := p) (l := s.drop i)).length_le
 rw [List.length_drop] at this
 exact this
theorem aQl {p : Nat → Bool} {s : List Nat} {i : Nat} (h : i < s.length) (hp : p (s.getD i 0) = true) : run p s i = run p s (i + 1) + 1 := by
 have e : s.getD i 0 = s[i] := by rw [List.getD_eq_getElem?_getD, List.getElem?_eq_getElem h]; rfl
 rw [e] at hp
 unfold run
 rw [List.drop_eq_getElem_cons h, List.takeWhile_cons_of_pos hp, List.length_cons]
theorem aEr {p : Nat → Bool} {s : List Nat} {i : Nat} (h : i < s.length → p (s.getD i 0) = false) : run p s i = 0 := by
 unfold run
 by_cases hi : i < s.length
 ·have e : s.getD i 0 = s[i] := by rw [List.getD_eq_getElem?_getD, List.getElem?_eq_getElem hi]; rfl
  have := h hi
  rw [e] at this
  rw [List.drop_eq_getElem_cons hi, List.takeWhile_cons_of_neg (by rw [this]; decide)]
  rfl
 ·rw [List.drop_eq_nil_of_le (by omega)]; rfl
def skp (s : List Nat) (i : Nat) : Nat := i + run aQY s i
theorem aJT (s : List Nat) (i : Nat) (h : i ≤ s.length) : i ≤ skp s i ∧ skp s i ≤ s.length := by
 have := aSq aQY s i
 unfold skp; omega
abbrev RD0 : Type := List Nat × (Int × qp)
abbrev st (s : List Nat) (p n : Nat) : RD0 := (s, (p : Int), (n : Int), ())
theorem aSr (s : List Nat) (hs : s.length ≤ 1099511627776) : ∀ (k p n : Nat), k = s.length - p → p ≤ s.length → jZ none (st s p n) = some (st s (skp s p) n) := by
 have main : ∀ (k p n : Nat), k = s.length - p → p ≤ s.length → aDh (fun d : RD0 => eT none d) (st s p n) = some (st s (skp s p) n) := by
  intro k
  induction k with
  | zero =>
   intro p n hk hp
   have e : skp s p = p := by have := aJT s p hp; omega
   rw [e]
   refine aAL ?_
   show eT none (st s p n) = _
   unfold eT
   refine cC (fun h => by have h : (p : Int) < (s.length : Int) := h; omega) ?_
   rw [if_neg (fun h => by have h : (p : Int) < (s.length : Int) := h.1; omega)]
  | succ k ih =>
   intro p n hk hp
   by_cases hb : aQY (s.getD p 0) = true
   ·have e : skp s p = skp s (p + 1) := by unfold skp; rw [aQl (by omega) hb]; omega
    rw [e]
    refine aEq (d' := st s (p + 1) n) ?_ (ih (p + 1) n (by omega) (by omega))
    show eT none (st s p n) = _
    unfold eT
    have hb : s.getD p 0 = 32 := by simpa [aQY] using hb
    refine cC (fun _ => ⟨by show (0 : Int) ≤ (p : Int); omega, by show (p : Int) < (s.length : Int); omega⟩) ?_
    rw [if_pos ⟨by show (p : Int) < (s.length : Int); omega, by show s.getD (p : Int).toNat 0 = 32; rw [Int.toNat_natCast]; exact hb⟩]
    refine cC (by constructor <;> (show _ ≤ _; simp only; omega)) rfl
   ·have e : skp s p = p := by
     unfold skp
     rw [aEr (fun _ => by simpa using hb)]; rfl
    rw [e]
    refine aAL ?_
    show eT none (st s p n) = _
    unfold eT
    refine cC (fun _ => ⟨by show (0 : Int) ≤ (p : Int); omega, by show (p : Int) < (s.length : Int); omega⟩) ?_
    rw [if_neg]
    rintro ⟨_, h⟩
    have h : s.getD (p : Int).toNat 0 = 32 := h
    rw [Int.toNat_natCast] at h
    exact hb (by unfold aQY; rw [h]; rfl)
 intro k p n hk hp
 unfold jZ
 exact dO (main k p n hk hp) rfl
theorem aXF (l : List Nat) (c : Nat) : ∀ k, aSj l c k < 0 ↔ c ∉ l := by
 induction l with
 | nil => intro k; simp [aSj]
 | cons b r ih =>
  intro k
  rw [aSj]
  by_cases h : b = c
  ·rw [if_pos h]; subst h; simp
  ·rw [if_neg h, ih]
   simp [Ne.symm h]
theorem aIA (l : List Nat) (c : Nat) : aV none l c = some (aG0 l c) := rfl
theorem aOC (l : List Nat) (c : Nat) : aG0 l c < 0 ↔ c ∉ l := aXF l c 0
def aMI (s : List Nat) (l : List Nat) (q : Nat) : Prop := q < s.length ∧ s.getD q 0 ∈ l
instance (s l : List Nat) (q : Nat) : Decidable (aMI s l q) := inferInstanceAs (Decidable (_ ∧ _))
theorem aUn {s l : List Nat} (hs : s.length ≤ 1099511627776) {p n : Nat} (hp : p ≤ s.length) (h : aMI s l (skp s p)) :
  fT none l (st s p n) = some ((s.getD (skp s p) 0, true, ()), st s (skp s p + 1) n) := by
 have hk := aJT s p hp
 have h1 := h.1
 have h2 : ¬ aG0 l (s.getD (skp s p) 0) < 0 := fun e => (aOC _ _).1 e h.2
 unfold fT
 refine dO (aSr s hs _ p n rfl hp) ?_
 simp only [aIA, Int.toNat_natCast, Option.isSome_some, Option.getD_some]
 refine cC (fun h => ⟨by omega, by omega⟩) (cC (fun _ => trivial) (ifn (by rintro (e | e) <;> omega) ?_))
 refine cC (by constructor <;> omega) (cC (by constructor <;> omega) (cC (by constructor <;> omega) ?_))
 rw [show ((skp s p : Int) + 1 - 1).toNat = skp s p from by omega]
 rfl
theorem aXG {s l : List Nat} (hs : s.length ≤ 1099511627776) {p n : Nat} (hp : p ≤ s.length) (h : ¬ aMI s l (skp s p)) :
  fT none l (st s p n) = some ((0, false, ()), st s (skp s p) n) := by
 have hk := aJT s p hp
 unfold fT
 refine dO (aSr s hs _ p n rfl hp) ?_
 simp only [aIA, Int.toNat_natCast, Option.isSome_some, Option.getD_some]
 refine cC (fun h => ⟨by omega, by omega⟩) (cC (fun _ => trivial) (ify ?_ rfl))
 by_cases h1 : skp s p < s.length
 ·exact .inr ((aOC _ _).2 fun e => h ⟨h1, e⟩)
 ·exact .inl (by omega)
theorem aTu {s l : List Nat} (hs : s.length ≤ 1099511627776) {p n : Nat} (hp : p ≤ s.length) (h : aMI s l (skp s p)) :
  fI none l (st s p n) = some (.inl (st s (skp s p + 1) n)) := by
 unfold fI
 exact dO (aUn hs hp h) (ifn (by simp) rfl)
theorem aVe {s l : List Nat} (hs : s.length ≤ 1099511627776) {p n : Nat} (hp : p ≤ s.length) (h : ¬ aMI s l (skp s p)) :
  fI none l (st s p n) = some (.inr ((skp s p : Int), ())) := by
 unfold fI
 exact dO (aXG hs hp h) (ify (by simp) rfl)
theorem aIe (k : Int) (t : List Nat) (l : List Ex) (s : List Nat) (p n : Nat) (hn : n ≤ 4611686018427387904) : eF none k t l (st s p n) = some (Ex.mk k t l, st s p (n + 1)) := by
 unfold eF
 exact cC (by constructor <;> (simp only; omega)) rfl
def aLp (s : List Nat) (i : Nat) : Nat :=
 if aAK s i 101 then
  let k := if aAK s (i + 1) 43 ∨ aAK s (i + 1) 45 then i + 2 else i + 1
  if 1 ≤ iQ s k ∧ iQ s k ≤ 3 ∧ aEQ ((s.drop k).take (iQ s k)) ≤ 100 then k + iQ s k else i
 else i
def aAM (s : List Nat) (p : Nat) : Nat :=
 if iQ s p = 0 then 0
 else aLp s (if aAK s (p + iQ s p) 46 ∧ 0 < iQ s (p + iQ s p + 1) then p + iQ s p + 1 + iQ s (p + iQ s p + 1) else p + iQ s p) - p
theorem aVf (s : List Nat) (hs : s.length ≤ 1099511627776) (p i k : Nat) (hp : p ≤ i) (hi : i ≤ s.length) (hk : k ≤ s.length) (hpk : p ≤ k) :
  rO none s (p : Int) (i : Int) (k : Int) = some ((if 1 ≤ iQ s k ∧ iQ s k ≤ 3 ∧ aEQ ((s.drop k).take (iQ s k)) ≤ 100 then k + iQ s k else i : Nat) - (p : Int)) := by
 have hd := aIz s k
 unfold rO
 refine dO (aC4 s k (by omega) (by omega)) ?_
 have hm : min (iQ s k : Int) 4 = ((min (iQ s k) 4 : Nat) : Int) := by omega
 rw [hm]
 have ht : List.drop (k : Int).toNat (List.take ((k : Int) + ((min (iQ s k) 4 : Nat) : Int)).toNat s) = (s.drop k).take (min (iQ s k) 4) := by
  rw [List.drop_take, Int.toNat_natCast]
  congr 1
  omega
 have hl : ((s.drop k).take (min (iQ s k) 4)).length = min (iQ s k) 4 := by rw [List.length_take, List.length_drop]; omega
 have h0 : aS ⟨#[48]⟩ = [48] := rfl
 have hall : ∀ c ∈ [48] ++ (s.drop k).take (min (iQ s k) 4), aA4 c = true := by
  intro c hc
  rcases List.mem_append.1 hc with hc | hc
  ·simp at hc; subst hc; decide
  ·refine aXB s k c ?_
   have : (s.drop k).take (min (iQ s k) 4) = ((s.drop k).take (iQ s k)).take 4 := by rw [List.take_take, Nat.min_comm]
   rw [this] at hc
   exact List.mem_of_mem_take hc
 simp only [ht, h0]
 refine cC (by constructor <;> omega) (cC (by constructor <;> omega) (cC (by simp only [List.length_cons, List.length_nil, hl]; omega) ?_))
 refine dO (aYL _ hall (by simp) (by rw [List.length_append, hl]; simp only [List.length_cons, List.length_nil]; omega)) ?_
 have hn : aEQ ([48] ++ (s.drop k).take (min (iQ s k) 4)) = aEQ ((s.drop k).take (min (iQ s k) 4)) := by simp [aEQ]
 by_cases hc : 1 ≤ iQ s k ∧ iQ s k ≤ 3 ∧ aEQ ((s.drop k).take (iQ s k)) ≤ 100
 ·have hm2 : min (iQ s k) 4 = iQ s k := by omega
  rw [hm2] at hn
  rw [if_pos ⟨by constructor <;> omega, by simp only [hm2, hn]; omega⟩, if_pos hc]
  refine cC (by constructor <;> omega) (cC (by constructor <;> omega) ?_)
  congr 1
 ·rw [if_neg, if_neg hc]
  ·refine cC (by constructor <;> omega) rfl
  ·rintro ⟨⟨h1, h2⟩, h3⟩
   have hm2 : min (iQ s k) 4 = iQ s k := by omega
   simp only [hm2] at h3 hn
   rw [hn] at h3
   exact hc ⟨by omega, by omega, by omega⟩
theorem aYO (s : List Nat) (hs : s.length ≤ 1099511627776) (p i : Nat) (hp : p ≤ i) (hi : i ≤ s.length) : nD none s (p : Int) (i : Int) = some ((aLp s i : Int) - (p : Int)) := by
 unfold nD aLp
 have e1 : ((i : Int) + 1).toNat = i + 1 := by omega
 simp only [Int.toNat_natCast, e1]
 refine cC (fun h => ⟨by omega, by omega⟩) ?_
 by_cases h1 : aAK s i 101
 ·have h1' : i < s.length ∧ s.getD i 0 = 101 := h1
  rw [if_pos ⟨by omega, h1'.2⟩, if_pos h1]
  refine cC (by constructor <;> omega) (cC (fun _ => by constructor <;> omega) (cC (fun _ _ => by constructor <;> omega) ?_))
  by_cases h2 : aAK s (i + 1) 43 ∨ aAK s (i + 1) 45
  ·have h2' : (i + 1 < s.length ∧ s.getD (i + 1) 0 = 43) ∨ (i + 1 < s.length ∧ s.getD (i + 1) 0 = 45) := h2
   rw [if_pos ⟨by omega, by rcases h2' with h | h; exact .inl h.2; exact .inr h.2⟩, if_pos h2]
   refine cC (by constructor <;> omega) ?_
   have := aVf s hs p i (i + 2) hp hi (by omega) (by omega)
   rw [show ((i + 2 : Nat) : Int) = (i : Int) + 1 + 1 from by omega] at this
   exact this
  ·have h2' : ¬ ((i + 1 < s.length ∧ s.getD (i + 1) 0 = 43) ∨ (i + 1 < s.length ∧ s.getD (i + 1) 0 = 45)) := h2
   rw [if_neg (by rintro ⟨a, b | b⟩; exact h2' (.inl ⟨by omega, b⟩); exact h2' (.inr ⟨by omega, b⟩)), if_neg h2]
   have := aVf s hs p i (i + 1) hp hi (by omega) (by omega)
   rw [show ((i + 1 : Nat) : Int) = (i : Int) + 1 from by omega] at this
   exact this
 ·have h1' : ¬ (i < s.length ∧ s.getD i 0 = 101) := h1
  rw [if_neg (fun h => h1' ⟨by omega, h.2⟩), if_neg h1]
  exact cC (by constructor <;> omega) rfl
theorem aXH (s : List Nat) (i : Nat) : i ≤ aLp s i ∧ (i ≤ s.length → aLp s i ≤ s.length) := by
 unfold aLp
 split
 ·rename_i h
  have h : i < s.length ∧ s.getD i 0 = 101 := h
  split
  ·rename_i h2
   have a := aIz s (i + 2)
   have h2 : (i + 1 < s.length ∧ s.getD (i + 1) 0 = 43) ∨ (i + 1 < s.length ∧ s.getD (i + 1) 0 = 45) := h2
   dsimp only
   split <;> constructor <;> intros <;> omega
  ·have a := aIz s (i + 1)
   dsimp only
   split <;> constructor <;> intros <;> omega
 ·exact ⟨Nat.le_refl _, id⟩
theorem aYP (s : List Nat) (hs : s.length ≤ 1099511627776) (p : Nat) (hp : p ≤ s.length) : eN none s (p : Int) = some (aAM s p : Int) ∧ p + aAM s p ≤ s.length := by
 have hd := aIz s p
 have hd2 := aIz s (p + iQ s p + 1)
 unfold aAM
 have key : ∀ i, p ≤ i → i ≤ s.length → nD none s (p : Int) (i : Int) = some ((aLp s i - p : Nat) : Int) ∧ p + (aLp s i - p) ≤ s.length := fun i h1 h2 => by
  have := aXH s i
  have h3 := this.2 h2
  refine ⟨?_, by omega⟩
  rw [aYO s hs p i h1 h2]
  congr 1; omega
 unfold eN
 by_cases h0 : iQ s p = 0
 ·rw [if_pos h0]
  refine ⟨dO (aC4 s p (by omega) (by omega)) (cC (by constructor <;> omega) ?_), by omega⟩
  rw [if_pos (by omega)]; rfl
 ·rw [if_neg h0]
  have e1 : ((p : Int) + (iQ s p : Int)).toNat = p + iQ s p := by omega
  have e2 : ((p : Int) + (iQ s p : Int)) = ((p + iQ s p : Nat) : Int) := by omega
  by_cases h1 : aAK s (p + iQ s p) 46
  ·have h1' : p + iQ s p < s.length ∧ s.getD (p + iQ s p) 0 = 46 := h1
   have e3 := aC4 s (p + iQ s p + 1) (by omega) (by omega)
   rw [show ((p + iQ s p + 1 : Nat) : Int) = (p : Int) + (iQ s p : Int) + 1 from by omega] at e3
   by_cases h2 : 0 < iQ s (p + iQ s p + 1)
   ·have kk := key (p + iQ s p + 1 + iQ s (p + iQ s p + 1)) (by omega) (by omega)
    rw [if_pos ⟨h1, h2⟩]
    refine ⟨dO (aC4 s p (by omega) (by omega)) (cC (by constructor <;> omega) ?_), kk.2⟩
    rw [if_neg (by omega)]
    refine cC (fun h => by constructor <;> omega) ?_
    rw [if_pos ⟨by omega, by rw [e1]; exact h1'.2⟩]
    refine cC (by constructor <;> omega) (dO e3 ?_)
    rw [if_pos (by omega)]
    refine cC (by constructor <;> omega) (cC (by constructor <;> omega) ?_)
    have := kk.1
    rw [show ((p + iQ s p + 1 + iQ s (p + iQ s p + 1) : Nat) : Int) = (p : Int) + (iQ s p : Int) + 1 + (iQ s (p + iQ s p + 1) : Int) from by omega] at this
    exact this
   ·have kk := key (p + iQ s p) (by omega) (by omega)
    rw [if_neg (fun h => h2 h.2)]
    refine ⟨dO (aC4 s p (by omega) (by omega)) (cC (by constructor <;> omega) ?_), kk.2⟩
    rw [if_neg (by omega)]
    refine cC (fun h => by constructor <;> omega) ?_
    rw [if_pos ⟨by omega, by rw [e1]; exact h1'.2⟩]
    refine cC (by constructor <;> omega) (dO e3 ?_)
    rw [if_neg (by omega), e2]
    exact kk.1
  ·have h1' : ¬ (p + iQ s p < s.length ∧ s.getD (p + iQ s p) 0 = 46) := h1
   have kk := key (p + iQ s p) (by omega) (by omega)
   rw [if_neg (fun h => h1 h.1)]
   refine ⟨dO (aC4 s p (by omega) (by omega)) (cC (by constructor <;> omega) ?_), kk.2⟩
   rw [if_neg (by omega)]
   refine cC (fun h => by constructor <;> omega) ?_
   rw [if_neg (fun h => h1' ⟨by omega, by rw [e1] at h; exact h.2⟩), e2]
   exact kk.1
end Nu
end Go.Proofs
namespace Go.Proofs
open Go.Vc
set_option maxRecDepth 20000
namespace Nu
abbrev PR : Type := (Ex × Nat) ⊕ Nat
def aIf (o : Option PR) (k : Ex → Nat → Option PR) : Option PR := match o with
 | some (.inl (e, q)) => k e q
 | x => x
def aOq (one : Nat → Option PR) (s : List Nat) (a b : Nat) (ka kb : Int) : Nat → Ex → Nat → Option PR
 | 0, _, _ => none
 | f + 1, e, p => if aMI s [a, b] (skp s p) then
   aIf (one (skp s p + 1)) (fun r z => aOq one s a b ka kb f (Ex.mk (if s.getD (skp s p) 0 = a then ka else kb) [] [e, r]) z)
  else some (.inl (e, skp s p))
def aRy (one : Nat → Option PR) (s : List Nat) (p : Nat) : Option PR := aIf (one p) (aOq one s 42 47 8 9 (s.length + 1))
def aXI (one : Nat → Option PR) (s : List Nat) (p : Nat) : Option PR := aIf (aRy one s p) (aOq (aRy one s) s 43 45 6 7 (s.length + 1))
def pIn (one : Nat → Option PR) (s : List Nat) (p : Nat) : Option PR :=
 if aMI s [40] (skp s p) then
  aIf (aXI one s (skp s p + 1)) (fun e q => if aMI s [41] (skp s q) then some (.inl (e, skp s q + 1)) else some (.inr (skp s q)))
 else some (.inr (skp s p))
def aYQ (s : List Nat) (q : Nat) : Option PR :=
 if aAM s q = 0 ∨ 60 < aAM s q then some (.inr q) else some (.inl (Ex.mk 1 ((s.drop q).take (aAM s q)) [], q + aAM s q))
def aMJ (s : List Nat) (q : Nat) : List Nat := (s.drop q).take (run rQ s q)
def aYR (w : List Nat) : Option Int := if w = [115, 113, 114] then some 11 else if w = [115, 113, 114, 116] then some 12 else if w = [101, 120, 112] then some 13 else none
def aZa (one : Nat → Option PR) (s : List Nat) (q : Nat) : Option PR := match aYR (aMJ s q) with
 | some k => aIf (pIn one s (q + run rQ s q)) (fun e z => some (.inl (Ex.mk k [] [e], z)))
 | none => some (.inl (Ex.mk 2 (aMJ s q) [], q + run rQ s q))
def aXJ (one : Nat → Option PR) (s : List Nat) (q : Nat) : Option PR :=
 if s.length ≤ q then some (.inr q)
 else if s.getD q 0 = 40 then pIn one s q
 else if aQk (s.getD q 0) = true then aZa one s q else aYQ s q
def aOr (s : List Nat) : Nat → Nat → Option PR
 | 0, _ => none
 | n + 1, p => if aMI s [45] (skp s p) then aIf (aOr s n (skp s p + 1)) (fun e z => some (.inl (Ex.mk 10 [] [e], z)))
  else aXJ (aOr s n) s (skp s p)
abbrev CR : Type := (Ex × RD0) ⊕ qp
def Cor (s : List Nat) (p n : Nat) (x : Option CR) : PR → Prop
 | .inl (e, q) => p ≤ q ∧ q ≤ s.length ∧ ∃ n', n' + p ≤ n + q ∧ x = some (.inl (e, st s q n'))
 | .inr q => q ≤ s.length ∧ x = some (.inr ((q : Int), ()))
def Gd (s : List Nat) (g : RD0 → Option CR) (one : Nat → Option PR) : Prop :=
 ∀ p n r, p ≤ s.length → n + s.length ≤ 1099511627776 + p → one p = some r → Cor s p n (g (st s p n)) r
theorem Cor.mv {s : List Nat} {p q n n' : Nat} {x : Option CR} {r : PR} (h : p ≤ q) (hn : n' + p ≤ n + q) (c : Cor s q n' x r) : Cor s p n x r := by
 cases r with
 | inl z =>
  obtain ⟨e2, q2⟩ := z
  obtain ⟨b1, b2, n2, b3, b4⟩ := c
  exact ⟨by omega, b2, n2, by omega, b4⟩
 | inr z => exact c
theorem aLq {s : List Nat} {o : Option PR} {k : Ex → Nat → Option PR} {r : PR} {p0 p n : Nat} {x : Option CR} {f : CR → Option CR} (hr : aIf o k = some r)
  (h1 : ∀ r', o = some r' → Cor s p n x r')
  (hl : ∀ e q n', p ≤ q → q ≤ s.length → n' + p ≤ n + q → k e q = some r → Cor s p0 n (f (.inl (e, st s q n'))) r)
  (hf : ∀ z, f (.inr z) = some (.inr z)) : Cor s p0 n (x.bind f) r := by
 unfold aIf at hr
 cases o with
 | none => cases hr
 | some r' =>
  cases r' with
  | inl y =>
   obtain ⟨e, q⟩ := y
   obtain ⟨a1, a2, n', a3, a4⟩ := h1 _ rfl
   rw [a4]
   exact hl e q n' a1 a2 a3 hr
  | inr y =>
   obtain ⟨a1, a2⟩ := h1 _ rfl
   obtain rfl : .inr y = r := Option.some.inj hr
   rw [a2]
   exact ⟨a1, hf _⟩
theorem aVg {s : List Nat} (hs : s.length ≤ 1099511627776) {g : RD0 → Option CR} {one : Nat → Option PR} (hg : Gd s g one) {a b : Nat} {ka kb : Int} (hab : a ≠ b) : ∀ (f : Nat) (e : Ex) (p n : Nat) (r : PR), p ≤ s.length → n + s.length ≤ 1099511627776 + p →
  aOq one s a b ka kb f e p = some r → Cor s p n (aDh (fun d : RD0 × Ex => cK none g [a, b] [ka, kb] d.1 d.2) (st s p n, e)) r
 | 0, e, p, n, r, hp, hn, hr => by cases hr
 | f + 1, e, p, n, r, hp, hn, hr => by
  have hk := aJT s p hp
  rw [aOq] at hr
  by_cases h : aMI s [a, b] (skp s p)
  ·rw [if_pos h] at hr
   have h1 := h.1
   have hm := h.2
   have round : ∀ x, g (st s (skp s p + 1) n) = some x → cK none g [a, b] [ka, kb] (st s p n) e =
     match x with
     | .inl r => (eF none (if s.getD (skp s p) 0 = a then ka else kb) [] [e, r.1] r.2).bind (fun r => some (.inl (r.2, r.1)))
     | .inr z => some (.inr (.inr z)) := fun x hx => by
    unfold cK
    refine dO (aUn hs hp h) (ifn (by simp) ?_)
    simp only [aIA, Option.isSome_some, Option.getD_some]
    have hi : aG0 [a, b] (s.getD (skp s p) 0) = if s.getD (skp s p) 0 = a then 0 else 1 := by
     unfold aG0 aSj
     by_cases e1 : s.getD (skp s p) 0 = a
     ·rw [if_pos e1, if_pos e1.symm]; rfl
     ·have e2 : s.getD (skp s p) 0 = b := by
       rcases List.mem_cons.1 hm with h | h
       ·exact absurd h e1
       ·exact List.mem_singleton.1 h
      rw [if_neg e1, if_neg (fun q => e1 q.symm), aSj, if_pos e2.symm]; rfl
    refine cC trivial (cC (by rw [hi]; split <;> decide) (dO hx ?_))
    have hkd : ([ka, kb] : List Int).getD (aG0 [a, b] (s.getD (skp s p) 0)).toNat 0 = if s.getD (skp s p) 0 = a then ka else kb := by rw [hi]; split <;> rfl
    cases x with
    | inl y => simp only; rw [hkd]; rfl
    | inr y => rfl
   unfold aIf at hr
   cases ho : one (skp s p + 1) with
   | none => rw [ho] at hr; cases hr
   | some r' =>
    rw [ho] at hr
    have hc := hg (skp s p + 1) n r' (by omega) (by omega) ho
    cases r' with
    | inl y =>
     obtain ⟨x, q⟩ := y
     obtain ⟨a1, a2, n', a3, a4⟩ := hc
     have hr : aOq one s a b ka kb f (Ex.mk (if s.getD (skp s p) 0 = a then ka else kb) [] [e, x]) q = some r := hr
     have ih := aVg hs hg hab f _ q (n' + 1) r a2 (by omega) hr
     have hstep := round _ a4
     have hstep : cK none g [a, b] [ka, kb] (st s p n) e = some (.inl (st s q (n' + 1), Ex.mk (if s.getD (skp s p) 0 = a then ka else kb) [] [e, x])) := hstep.trans (dO (aIe _ _ _ s q n' (by omega)) rfl)
     cases r with
     | inl z =>
      obtain ⟨e2, q2⟩ := z
      obtain ⟨b1, b2, n2, b3, b4⟩ := ih
      exact ⟨by omega, b2, n2, by omega, aEq hstep b4⟩
     | inr z => exact ⟨ih.1, aEq hstep ih.2⟩
    | inr y =>
     obtain ⟨a1, a2⟩ := hc
     obtain rfl : .inr y = r := Option.some.inj hr
     exact ⟨a1, aAL (round _ a2)⟩
  ·rw [if_neg h] at hr
   obtain rfl : .inl (e, skp s p) = r := Option.some.inj hr
   refine ⟨hk.1, hk.2, n, by omega, aAL ?_⟩
   unfold cK
   exact dO (aXG hs hp h) (ify (by simp) rfl)
theorem aXK {s : List Nat} (hs : s.length ≤ 1099511627776) {g : RD0 → Option CR} {one : Nat → Option PR} (hg : Gd s g one) {a b : Nat} {ka kb : Int} (hab : a ≠ b) :
  Gd s (fun o => cR none g [a, b] [ka, kb] o) (fun p => aIf (one p) (aOq one s a b ka kb (s.length + 1))) := fun p n r hp hn hr => by
 show Cor s p n (cR none g [a, b] [ka, kb] (st s p n)) r
 unfold cR
 refine aLq (p := p) hr (fun r' h => hg p n r' hp hn h) (fun e q n' h1 h2 h3 h4 => ?_) (fun z => rfl)
 have := aVg hs hg hab _ e q n' r h2 (by omega) h4
 refine Cor.mv h1 h3 ?_
 cases r with
 | inl z =>
  obtain ⟨e2, q2⟩ := z
  obtain ⟨b1, b2, n2, b3, b4⟩ := this
  exact ⟨b1, b2, n2, b3, dO b4 rfl⟩
 | inr z => exact ⟨this.1, dO this.2 rfl⟩
theorem Gd.of {s : List Nat} {g g' : RD0 → Option CR} {one : Nat → Option PR} (h : Gd s g one) (e : ∀ o, g' o = (g o).bind fun x => some x) : Gd s g' one := fun p n r hp hn hr => by
 rw [e]
 have := h p n r hp hn hr
 cases r with
 | inl z =>
  obtain ⟨e2, q2⟩ := z
  obtain ⟨b1, b2, n2, b3, b4⟩ := this
  exact ⟨b1, b2, n2, b3, dO b4 rfl⟩
 | inr z => exact ⟨this.1, dO this.2 rfl⟩
theorem aTv (x : Option CR) : (x.bind fun e => match e with | .inl r => some (Sum.inl (r.1, r.2)) | .inr p => some (Sum.inr p)) = x.bind fun x => some x := by
 cases x with
 | none => rfl
 | some e => cases e <;> rfl
theorem aYS {s : List Nat} (hs : s.length ≤ 1099511627776) {g : RD0 → Option CR} {one : Nat → Option PR} (hg : Gd s g one) : Gd s (gS none g) (aRy one s) :=
 (aXK hs hg (a := 42) (b := 47) (ka := 8) (kb := 9) xAc).of fun o => (show gS none g o = _ from aTv _)
theorem aXL {s : List Nat} (hs : s.length ≤ 1099511627776) {g : RD0 → Option CR} {one : Nat → Option PR} (hg : Gd s g one) : Gd s (kY none g) (aXI one s) :=
 (aXK hs (aYS hs hg) (a := 43) (b := 45) (ka := 6) (kb := 7) xAc).of fun o => (show kY none g o = _ from aTv _)
theorem aZb {s : List Nat} (hs : s.length ≤ 1099511627776) {g : RD0 → Option CR} {one : Nat → Option PR} (hg : Gd s g one) : Gd s (iC none g) (pIn one s) := fun p n r hp hn hr => by
 have hk := aJT s p hp
 unfold iC
 unfold pIn at hr
 by_cases h : aMI s [40] (skp s p)
 ·rw [if_pos h] at hr
  have h1 := h.1
  have e : fI none (aS ⟨#[40]⟩) (st s p n) = some (.inl (st s (skp s p + 1) n)) := aTu hs hp h
  rw [e]
  refine aLq (p := skp s p + 1) hr (fun r' h => aXL hs hg _ n r' (by omega) (by omega) h) (fun e q n' h1 h2 h3 h4 => ?_) (fun z => rfl)
  refine Cor.mv (q := q) (by omega) (by omega : n' + p ≤ n + q) ?_
  have hk2 := aJT s q h2
  by_cases h5 : aMI s [41] (skp s q)
  ·rw [if_pos h5] at h4
   obtain rfl := Option.some.inj h4
   have h6 := h5.1
   exact ⟨by omega, by omega, n', by omega, dO (aTu hs h2 h5) rfl⟩
  ·rw [if_neg h5] at h4
   obtain rfl := Option.some.inj h4
   exact ⟨hk2.2, dO (aVe hs h2 h5) rfl⟩
 ·rw [if_neg h] at hr
  obtain rfl := Option.some.inj hr
  exact ⟨hk.2, dO (aVe hs hp h) rfl⟩
theorem aZL {s : List Nat} (hs : s.length ≤ 1099511627776) {p n : Nat} {r : PR} (hp : p ≤ s.length) (hn : n + s.length ≤ 1099511627776 + p) (hr : aYQ s p = some r) : Cor s p n (kG none (st s p n)) r := by
 obtain ⟨h1, h2⟩ := aYP s hs p hp
 unfold kG
 unfold aYQ at hr
 simp only [h1, Option.isSome_some, Option.getD_some]
 by_cases h : aAM s p = 0 ∨ 60 < aAM s p
 ·rw [if_pos h] at hr
  obtain rfl := Option.some.inj hr
  exact ⟨hp, cC trivial (ify (by omega) rfl)⟩
 ·rw [if_neg h] at hr
  obtain rfl := Option.some.inj hr
  refine ⟨by omega, h2, n + 1, by omega, cC trivial (ifn (by omega) ?_)⟩
  refine cC (by constructor <;> omega) (cC (by constructor <;> omega) (cC (by constructor <;> omega) ?_))
  have e1 : ((p : Int) + (aAM s p : Int) - (aAM s p : Int)).toNat = p := by omega
  have e2 : ((p : Int) + (aAM s p : Int)).toNat = p + aAM s p := by omega
  have e3 : (p : Int) + (aAM s p : Int) = ((p + aAM s p : Nat) : Int) := by omega
  have e4 : List.drop p (List.take (p + aAM s p) s) = (s.drop p).take (aAM s p) := by rw [List.drop_take]; congr 1; omega
  rw [e1, e2, e4, e3]
  exact dO (aIe _ _ _ s _ n (by omega)) rfl
theorem aVh (c : Nat) : aG0 (aS sQ) c < 0 ↔ ¬ rQ c = true := by
 rw [aOC]
 have e : aS sQ = List.range' 97 26 ++ (List.range' 48 10 ++ [95]) := by decide
 rw [e]
 simp only [List.mem_append, List.mem_range'_1, List.mem_singleton, rQ, aQk, aA4, Bool.or_eq_true, decide_eq_true_eq, beq_iff_eq]
 omega
theorem aXM (c : Nat) : aG0 (aS yL) c < 0 ↔ ¬ aQk c = true := by
 rw [aOC]
 have e : aS yL = List.range' 97 26 := by decide
 rw [e]
 simp only [List.mem_range'_1, aQk, decide_eq_true_eq]
 omega
theorem aYT {s : List Nat} (hs : s.length ≤ 1099511627776) {p n : Nat} (hp : p ≤ s.length) : mH none (st s p n) = some (aMJ s p, st s (p + run rQ s p) n) := by
 have hw := aSq rQ s p
 have main : ∀ (k p : Nat), k = s.length - p → p ≤ s.length → aDh (fun d : RD0 => fV none d) (st s p n) = some (st s (p + run rQ s p) n) := by
  intro k
  induction k with
  | zero =>
   intro p hk hp
   have e : run rQ s p = 0 := by have := aSq rQ s p; omega
   rw [e]
   refine aAL ?_
   show fV none (st s p n) = _
   unfold fV
   refine cC (fun h => by have h : (p : Int) < (s.length : Int) := h; omega) (cC (fun _ => rfl) (ifn (fun h => by have h : (p : Int) < (s.length : Int) := h.1; omega) rfl))
  | succ k ih =>
   intro p hk hp
   have hck : ∀ x, fV none (st s p n) = x ↔ (if (p : Int) < (s.length : Int) ∧ (0 : Int) ≤ aG0 (aS sQ) (s.getD p 0) then some (.inl (st s (p + 1) n)) else some (.inr (st s p n))) = x := by
    intro x
    have : fV none (st s p n) = (if (p : Int) < (s.length : Int) ∧ (0 : Int) ≤ aG0 (aS sQ) (s.getD p 0) then some (.inl (st s (p + 1) n)) else some (.inr (st s p n))) := by
     unfold fV
     simp only [aIA, Int.toNat_natCast, Option.isSome_some, Option.getD_some]
     refine cC (fun h => ⟨by omega, by omega⟩) (cC (fun _ => trivial) ?_)
     refine aY7 (fun h => ?_) (fun h => ?_)
     ·rw [if_pos h]
      exact cC (by constructor <;> omega) rfl
     ·rw [if_neg h]
    rw [this]
   by_cases hb : rQ (s.getD p 0) = true
   ·have e : p + run rQ s p = (p + 1) + run rQ s (p + 1) := by rw [aQl (by omega) hb]; omega
    rw [e]
    refine aEq (d' := st s (p + 1) n) ((hck _).2 ?_) (ih (p + 1) (by omega) (by omega))
    have : ¬ aG0 (aS sQ) (s.getD p 0) < 0 := fun h => (aVh _).1 h hb
    rw [if_pos ⟨by omega, by omega⟩]
   ·have e : run rQ s p = 0 := aEr (fun _ => by simpa using hb)
    rw [e]
    refine aAL ((hck _).2 ?_)
    have := (aVh _).2 hb
    rw [if_neg (fun h => by omega)]
    rfl
 unfold mH
 refine dO (main _ p rfl hp) ?_
 unfold oZ
 refine cC (by constructor <;> (simp only; omega)) ?_
 have e4 : List.drop (p : Int).toNat (List.take ((p + run rQ s p : Nat) : Int).toNat s) = aMJ s p := by
  rw [Int.toNat_natCast, Int.toNat_natCast, List.drop_take]
  unfold aMJ
  congr 1; omega
 show some (List.drop (p : Int).toNat (List.take ((p + run rQ s p : Nat) : Int).toNat s), _) = _
 rw [e4]
end Nu
end Go.Proofs
