import Derived.Test.YtcpnniahnmjnpaaGreatDoorZS2
import Derived.Test.YtcpnniahnmjnpaaGreatDoorZS3
set_option linter.unusedVariables false
set_option linter.unusedSimpArgs false
namespace Go.Proofs
open Go.Vc
set_option maxRecDepth 20000
namespace Nu
noncomputable section
set_option maxHeartbeats 4000000
attribute [-go_sem] Ex.kind Ex.text Ex.l
@[reducible] def aXy (xs : List qd) : Prop := xs.length * 16 ≤ 140737488355328
def tE : Ty := .pair wg .unit
def lD : aI := ⟨tE, .own 9 .str, fun x => aXy x.1, fun x => id x.1⟩
attribute [go_sem] lD tE
def aAF (F : Md) : List (FuncId × aI) := []
theorem aAG [Mx] (F : Md) : bH Tryz.prog GL (aAF F) := .nil
theorem aF1 [Mx] : FOK Tryz.prog GL 73 lD := by
 refine aS4 (aT (aAG none)) Tryz.func73 rfl (by kernel_rfl) (by decide) fun w0 S x hw hp => ?_
 have hF : fT (fr Tryz.prog (EM (aAF none)) S w0 Tryz.f73.ntmps) := ⟨aT (aAG none), mix⟩
 obtain ⟨(s : qv), u⟩ := x
 have hp : s.length * 16 ≤ 140737488355328 := hp
 simp only [bX, tE, lD]
 exact zad
def pU (F : Md) (e_0 : Ex) (names_1 : qv) : Option Bool :=
 (yQ F e_0).bind (fun v_6 => ck ((v_6 = true) → ((aCC F 64 e_0 names_1).isSome = true)) (some (v_6 && ((aCC F 64 e_0 names_1).getD false))))
def aE0 : PlR := ⟨[(0, .B [1, 2]), (1, .A [4])], []⟩
def aGq : Ty := .pair .expr (.pair wg .unit)
def oM (F : Md) : aI := mSpec aGq (.one .bool) (fun x => pU F x.1 x.2.1)
def aBN (F : Md) : List (FuncId × aI) := [(115, (aA6 F 64)), (21, (uT F))]
theorem aNL [Mx] (F : Md) : bH Tryz.prog GL (aBN F) := .cons (aIC F 64) (by kernel_rfl) (.cons (aKx F) (by kernel_rfl) (.nil))
theorem aIg (F : Md) : gam (aBN F) 115 = some (aA6 F 64) := rfl
theorem aJm (F : Md) : gam (aBN F) 21 = some (uT F) := rfl
attribute [go_sem] aGq aE0 aIg aJm
theorem aE1 [Mx] (F : Md) : FOK Tryz.prog GL 75 (oM F) := by
 refine bS (aT (aNL F)) mix Tryz.func75 rfl (by kernel_rfl) (by decide) aE0 fun w0 S x Θ hw h hF => ?_
 obtain ⟨(e_0 : Ex), (names_1 : qv), u⟩ := x
 simp only [bX, go_sem]
 replace h : sat (pU F e_0 names_1) _ := h
 unfold pU at h
 obtain ⟨v_6, hv, h⟩ := aN h
 try simp only [hv, go_sem]
 refine aZ h fun g0 h => ?_
 exact zaD
attribute [go_sem] oM
def vC (F : Md) (a_0 : qz) (a1_1 : qv) : Option Bool :=
 (pU F a_0.2.1 a1_1).bind (fun v_6 => some (!v_6))
def aD5 : PlR := ⟨[(0, .B [1, 2]), (1, .A [3])], []⟩
def aE2 : Ty := .pair qr wy
def tK (F : Md) : aI := mSpec aE2 (.one .bool) (fun x => vC F x.1 x.2.1)
def aE3 (F : Md) : List (FuncId × aI) := [(75, (oM F))]
theorem aL4 [Mx] (F : Md) : bH Tryz.prog GL (aE3 F) := .cons (aE1 F) (by kernel_rfl) (.nil)
theorem aIh (F : Md) : gam (aE3 F) 75 = some (oM F) := rfl
attribute [go_sem] aE2 aD5 aIh
theorem aKJ [Mx] (F : Md) : FOK Tryz.prog GL 77 (tK F) := by
 refine bS (aT (aL4 F)) mix Tryz.func77 rfl (by kernel_rfl) (by decide) aD5 fun w0 S x Θ hw h hF => ?_
 obtain ⟨(a_0 : qz), (a1_1 : qv), u⟩ := x
 simp only [bX, go_sem]
 replace h : sat (vC F a_0 a1_1) _ := h
 unfold vC at h
 obtain ⟨v_6, hv, h⟩ := aN h
 try simp only [hv, go_sem]
 exact aK hF [.tmp 3] rfl rfl rfl (aE h) (by simp only [aS, go_sem])
attribute [go_sem] tK
def eM (F : Md) (s_0 : wt) (f_1 : ws) (x8_14 : Int) : Option ((Int) ⊕ ((Unit) ⊕ Int)) :=
 if x8_14 < (s_0.length : Int) then ck (0 ≤ x8_14 ∧ x8_14 < (s_0.length : Int)) ((vC F (s_0.getD (x8_14.toNat) ([], (Ex.mk 0 [] []), ())) f_1.1).bind (fun v_27 => if v_27 = true then some (.inr (.inr x8_14)) else ck (I64 (x8_14 + (1 : Int))) (some (.inl (x8_14 + (1 : Int)))))) else some (.inr (.inl ()))
def dL (F : Md) (s_0 : wt) (f_1 : ws) : Option Int :=
 (eH F (fun d : Int => eM F s_0 f_1 d) (0 : Int)).bind (fun e => match e with | (.inl e) => some (-1 : Int) | (.inr e) => some e)
def iM : PlR := ⟨[(0, .A [0, 1]), (1, .A [0, 1, 7, 8]), (2, .A [0, 1, 7, 8, 9]), (3, .A [0, 1, 5, 7, 8]), (4, .A [0, 1, 5, 7, 8, 16]), (5, .A [4]), (6, .A [0, 1, 7, 8]), (7, .A [4])], []⟩
def iT : Ty := .pair (.sl qr) (.pair (.clo 77 wy) .unit)
def dF (F : Md) : aI := mSpec iT (.one qe) (fun x => dL F x.1 x.2.1)
def iU (F : Md) : List (FuncId × aI) := [(77, (tK F))]
theorem pI [Mx] (F : Md) : bH Tryz.prog GL (iU F) := .cons (aKJ F) (by kernel_rfl) (.nil)
theorem oA (F : Md) : gam (iU F) 77 = some (tK F) := rfl
attribute [go_sem] iT iM oA
theorem oX [Mx] (F : Md) : FOK Tryz.prog GL 116 (dF F) := by
 refine bS (aT (pI F)) mix Tryz.func116 rfl (by kernel_rfl) (by decide) iM fun w0 S x Θ hw h hF => ?_
 obtain ⟨(s_0 : wt), (f_1 : ws), u⟩ := x
 simp only [bX, go_sem]
 replace h : sat (dL F s_0 f_1) _ := h
 unfold dL at h
 refine cI hF (D := Int) [0, 1, 7] (fun d => [(8, .val qe d)]) (fun d => []) h rfl (by simp only [go_sem]) ?_
 rintro x8_14 A2 T2 hA2 hE2 h
 simp only [go_sem]
 replace h : sat (eM F s_0 f_1 x8_14) _ := h
 unfold eM at h
 exact zaQ
attribute [go_sem] dF
def cK (F : Md) (s_0 : wt) (f_1 : ws) : Option Bool :=
 (dL F s_0 f_1).bind (fun v_8 => some (decide ((0 : Int) ≤ v_8)))
def gQ : PlR := ⟨[(0, .A [0, 1]), (1, .A [4])], []⟩
def hD : Ty := .pair (.sl qr) (.pair (.clo 77 wy) .unit)
def cX (F : Md) : aI := mSpec hD (.one .bool) (fun x => cK F x.1 x.2.1)
def hN (F : Md) : List (FuncId × aI) := [(116, (dF F))]
theorem oB [Mx] (F : Md) : bH Tryz.prog GL (hN F) := .cons (oX F) (by kernel_rfl) (.nil)
theorem mS (F : Md) : gam (hN F) 116 = some (dF F) := rfl
attribute [go_sem] hD gQ mS
theorem nL [Mx] (F : Md) : FOK Tryz.prog GL 76 (cX F) := by
 refine bS (aT (oB F)) mix Tryz.func76 rfl (by kernel_rfl) (by decide) gQ fun w0 S x Θ hw h hF => ?_
 obtain ⟨(s_0 : wt), (f_1 : ws), u⟩ := x
 simp only [bX, go_sem]
 replace h : sat (cK F s_0 f_1) _ := h
 unfold cK at h
 obtain ⟨v_8, hv, h⟩ := aN h
 exact zaZ
attribute [go_sem] cX
def aDp (F : Md) (s_0 : qc) (x93_11 : Int) : Option ((Int) ⊕ ((Unit) ⊕ Bool)) :=
 if x93_11 < (s_0.2.2.1.length : Int) then ck (0 ≤ x93_11 ∧ x93_11 < (s_0.2.2.1.length : Int)) (ck ((mR F (s_0.2.2.1.getD (x93_11.toNat) ([], ([], [], ()), ())).2.1).isSome = true) (if ¬ (((mR F (s_0.2.2.1.getD (x93_11.toNat) ([], ([], [], ()), ())).2.1).getD false) = true) then some (.inr (.inr false)) else ck (I64 (x93_11 + (1 : Int))) (some (.inl (x93_11 + (1 : Int)))))) else some (.inr (.inl ()))
def aAg (F : Md) (s_0 : qc) : Option (Bool) :=
 (eH F (fun d : Int => aDp F s_0 d) (0 : Int)).bind (fun e => match e with | (.inl e) => ck ((cK F s_0.2.2.2.2.1 (((cE F ([((bI F s_0).getD (([] : List qd), ([] : List qd), ([] : List qd), ())).1, ((bI F s_0).getD (([] : List qd), ([] : List qd), ([] : List qd), ())).2.1, ((bI F s_0).getD (([] : List qd), ([] : List qd), ([] : List qd), ())).2.2.1] : List qv)).getD ([] : List qd)), ())).isSome = true) (some (!((cK F s_0.2.2.2.2.1 (((cE F ([((bI F s_0).getD (([] : List qd), ([] : List qd), ([] : List qd), ())).1, ((bI F s_0).getD (([] : List qd), ([] : List qd), ([] : List qd), ())).2.1, ((bI F s_0).getD (([] : List qd), ([] : List qd), ([] : List qd), ())).2.2.1] : List qv)).getD ([] : List qd)), ())).getD false))) | (.inr e) => some e)
def aDq (F : Md) (s_0 : qc) (x74_14 : Int) : Option ((Int) ⊕ ((Unit) ⊕ Bool)) :=
 if x74_14 < (s_0.2.1.length : Int) then ck (0 ≤ x74_14 ∧ x74_14 < (s_0.2.1.length : Int)) (ck ((mR F (s_0.2.1.getD (x74_14.toNat) ([], ([], [], ()), (Ex.mk 0 [] []), ())).2.1).isSome = true) (ck (¬ (¬ (((mR F (s_0.2.1.getD (x74_14.toNat) ([], ([], [], ()), (Ex.mk 0 [] []), ())).2.1).getD false) = true)) → ((pU F (s_0.2.1.getD (x74_14.toNat) ([], ([], [], ()), (Ex.mk 0 [] []), ())).2.2.1 ((cE F ([((bI F s_0).getD (([] : List qd), ([] : List qd), ([] : List qd), ())).1, ((bI F s_0).getD (([] : List qd), ([] : List qd), ([] : List qd), ())).2.1, ((bI F s_0).getD (([] : List qd), ([] : List qd), ([] : List qd), ())).2.2.1] : List qv)).getD ([] : List qd))).isSome = true)) (if (¬ (((mR F (s_0.2.1.getD (x74_14.toNat) ([], ([], [], ()), (Ex.mk 0 [] []), ())).2.1).getD false) = true)) ∨ (¬ (((pU F (s_0.2.1.getD (x74_14.toNat) ([], ([], [], ()), (Ex.mk 0 [] []), ())).2.2.1 ((cE F ([((bI F s_0).getD (([] : List qd), ([] : List qd), ([] : List qd), ())).1, ((bI F s_0).getD (([] : List qd), ([] : List qd), ([] : List qd), ())).2.1, ((bI F s_0).getD (([] : List qd), ([] : List qd), ([] : List qd), ())).2.2.1] : List qv)).getD ([] : List qd))).getD false) = true)) then some (.inr (.inr false)) else ck (I64 (x74_14 + (1 : Int))) (some (.inl (x74_14 + (1 : Int))))))) else some (.inr (.inl ()))
def aAh (F : Md) (s_0 : qc) (all_6 : qv) : Option (Bool) :=
 ck ((sZ F all_6).isSome = true) (if ¬ (((sZ F all_6).getD false) = true) then some false else (eH F (fun d : Int => aDq F s_0 d) (0 : Int)).bind (fun e => match e with | (.inl e) => aAg F s_0 | (.inr e) => some e))
def aD6 (F : Md) (s_0 : qc) (x58_17 : Int) (all_18 : qv) : Option ((Int × qv) ⊕ qv) :=
 if x58_17 < (s_0.2.2.2.2.1.length : Int) then ck (0 ≤ x58_17 ∧ x58_17 < (s_0.2.2.2.2.1.length : Int)) (ck (((all_18.length) + (1 : Nat)) * 16 ≤ 140737488355328) (ck (I64 (x58_17 + (1 : Int))) (some (.inl ((x58_17 + (1 : Int)), (all_18 ++ ([(s_0.2.2.2.2.1.getD (x58_17.toNat) ([], (Ex.mk 0 [] []), ())).1] : List qd))))))) else some (.inr all_18)
def aAi (F : Md) (s_0 : qc) : Option Bool :=
 if (((((s_0.2.1.length : Int) < (1 : Int)) ∨ ((6 : Int) < (s_0.2.1.length : Int))) ∨ ((6 : Int) < (s_0.2.2.1.length : Int))) ∨ ((4 : Int) < (s_0.2.2.2.1.length : Int))) ∨ ((4 : Int) < (s_0.2.2.2.2.1.length : Int)) then some false else ck ((bI F s_0).isSome = true) (ck ((cE F ([((bI F s_0).getD (([] : List qd), ([] : List qd), ([] : List qd), ())).1, ((bI F s_0).getD (([] : List qd), ([] : List qd), ([] : List qd), ())).2.1, ((bI F s_0).getD (([] : List qd), ([] : List qd), ([] : List qd), ())).2.2.1] : List qv)).isSome = true) (ck (aXy ((cE F ([((bI F s_0).getD (([] : List qd), ([] : List qd), ([] : List qd), ())).1, ((bI F s_0).getD (([] : List qd), ([] : List qd), ([] : List qd), ())).2.1, ((bI F s_0).getD (([] : List qd), ([] : List qd), ([] : List qd), ())).2.2.1] : List qv)).getD ([] : List qd))) ((eH F (fun d : Int × qv => aD6 F s_0 d.1 d.2) ((0 : Int), (id ((cE F ([((bI F s_0).getD (([] : List qd), ([] : List qd), ([] : List qd), ())).1, ((bI F s_0).getD (([] : List qd), ([] : List qd), ([] : List qd), ())).2.1, ((bI F s_0).getD (([] : List qd), ([] : List qd), ([] : List qd), ())).2.2.1] : List qv)).getD ([] : List qd))))).bind (fun e => aAh F s_0 e))))
@[go_sem]def aAj : Ty := .pair qa .unit
def xN (F : Md) : aI := mSpec aAj (.one .bool) (fun x => aAi F x.1)
def lE (F : Md) : List (FuncId × aI) := [(76, (cX F)), (37, (rE F)), (71, (zX F)), (72, (nC F)), (73, lD), (74, (xL F)), (75, (oM F))]
theorem aHL [Mx] (F : Md) : bH Tryz.prog GL (lE F) := .cons (nL F) (by kernel_rfl) (.cons (aHv F) (by kernel_rfl) (.cons (aPy F) (by kernel_rfl) (.cons (aEU F) (by kernel_rfl) (.cons aF1 (by kernel_rfl) (.cons (aNH F) (by kernel_rfl) (.cons (aE1 F) (by kernel_rfl) (.nil)))))))
@[go_sem]theorem aKK (F : Md) : gam (lE F) 76 = some (cX F) := rfl
@[go_sem]theorem aKL (F : Md) : gam (lE F) 37 = some (rE F) := rfl
@[go_sem]theorem aKM (F : Md) : gam (lE F) 71 = some (zX F) := rfl
@[go_sem]theorem aKN (F : Md) : gam (lE F) 72 = some (nC F) := rfl
@[go_sem]theorem aKO (F : Md) : gam (lE F) 73 = some lD := rfl
@[go_sem]theorem aKP (F : Md) : gam (lE F) 74 = some (xL F) := rfl
@[go_sem]theorem aKQ (F : Md) : gam (lE F) 75 = some (oM F) := rfl
theorem aNM [Mx] (F : Md) : FOK Tryz.prog GL 36 (xN F) := by
 refine qW (aT (aHL F)) Tryz.func36 rfl (by kernel_rfl) (by decide) fun w0 S x r hw h => ?_
 have hF : fT (fr Tryz.prog (EM (lE F)) S w0 Tryz.f36.ntmps) := ⟨aT (aHL F), mix⟩
 obtain ⟨(s_0 : qc), u⟩ := x
 simp only [aAj, Ty.wf, eR] at hw
 simp only [bX, aAj]
 try dsimp only at h
 replace h : aAi F s_0 = some r := h
 unfold aAi at h
 refine aB (aR hF [1] ?_)
 simp only [go_sem]
 refine aA (aB (aB (aF hF [1, 41] ?_)))
 simp only [go_sem]
 refine aA (bG rfl (fun hc => ?_) (fun hc => ?_))
 ·try simp only [go_sem] at hc
  exact zbB
 ·try simp only [go_sem] at hc
  have h := eC zAB h
  refine cH (aA (aB (aF hF [1, 3, 4, 5] ?_)))
  simp only [go_sem]
  obtain ⟨g0, h⟩ := aP h
  repeat (refine ⟨zAA, ?_⟩)
  refine aA (aB (aR hF [1, 6] ?_))
  simp only [go_sem]
  obtain ⟨g0, h⟩ := aP h
  repeat (refine ⟨zAA, ?_⟩)
  refine aA (aB (aR hF [1, 6, 7] ?_))
  simp only [go_sem]
  obtain ⟨g0, h⟩ := aP h
  repeat (refine ⟨zAA, ?_⟩)
  refine aA (qV (D := qv) (fun d => aAh F s_0 d = some r) [] (fun d => [(1, .ptr 0 []), (6, .ptr 1 []), (7, .own 2)]) (fun d => [.inr (.box 5 (.val qa s_0)), .inr (.box 1 (.val wg ((cE F ([((bI F s_0).getD (([] : List qd), ([] : List qd), ([] : List qd), ())).1, ((bI F s_0).getD (([] : List qd), ([] : List qd), ([] : List qd), ())).2.1, ((bI F s_0).getD (([] : List qd), ([] : List qd), ([] : List qd), ())).2.2.1] : List qv)).getD ([] : List qd)))), .inr (.row 9 .str d)]) ?_ ?_)
  ·refine aB (aF hF [1, 6, 7, 56, 57, 58] ?_)
   simp only [go_sem]
   refine aA (eA (pQ (D := Int × qv) [56, 57] (fun d => [(1, .ptr 0 []), (6, .ptr 1 []), (7, .own 2), (58, .val qe d.1)]) (fun d => [.inr (.box 5 (.val qa s_0)), .inr (.box 1 (.val wg ((cE F ([((bI F s_0).getD (([] : List qd), ([] : List qd), ([] : List qd), ())).1, ((bI F s_0).getD (([] : List qd), ([] : List qd), ([] : List qd), ())).2.1, ((bI F s_0).getD (([] : List qd), ([] : List qd), ([] : List qd), ())).2.2.1] : List qv)).getD ([] : List qd)))), .inr (.row 9 .str d.2)]) h ?_ ?_ ?_))
   ·first | rfl | (simp only [go_sem]; done)
   ·exact zAF
   rintro ⟨x58_17, all_18⟩ s7 h hs7
   simp only [go_sem]
   try dsimp only at h
   unfold aD6 at h
   refine aB (aF hF [1, 6, 7, 56, 57, 58, 59] ?_)
   simp only [go_sem]
   refine aA (aB (bG rfl (fun hc => ?_) (fun hc => ?_)))
   ·try simp only [go_sem] at hc
    have h := eB zAB h
    refine cH (aA (aB (eA (aB (aR hF [1, 6, 7, 9, 56, 57, 58] ?_)))))
    simp only [go_sem]
    obtain ⟨g0, h⟩ := aP h
    repeat (refine ⟨zAA, ?_⟩)
    refine aA (aR hF [1, 6, 7, 56, 57, 58] ?_)
    simp only [go_sem]
    obtain ⟨g0, h⟩ := aP h
    repeat (refine ⟨zAA, ?_⟩)
    refine bC (aA (aF hF [1, 6, 7, 56, 57, 58] ?_))
    simp only [go_sem]
    obtain ⟨g0, h⟩ := aP h
    try simp only [I64, I32] at g0
    repeat (refine ⟨zAA, ?_⟩)
    obtain rfl := Option.some.inj h
    dsimp only [mX] at hs7
    refine bY (gT [0, 1, 4] rfl rfl ?_)
    simp only [ren, cQ, dB, posOf, bF, go_sem]
    refine bB ((x58_17 + (1 : Int)), (all_18 ++ ([(s_0.2.2.2.2.1.getD (x58_17.toNat) ([], (Ex.mk 0 [] []), ())).1] : List qd))) hs7 rfl ?_
    ·exact zAF
   ·try simp only [go_sem] at hc
    have h := eC zAB h
    obtain rfl := Option.some.inj h
    dsimp only [mX] at hs7
    have h := hs7
    try dsimp only at h
    refine sI (dY (dY (gL (bY (bB (all_18) h rfl ?_)))))
    ·exact zAF
  ·rintro all_6 h
   try dsimp only at h
   simp only [go_sem]
   unfold aAh at h
   refine aB (aB (aF hF [1, 6, 70] ?_))
   simp only [go_sem]
   obtain ⟨g0, h⟩ := aP h
   repeat (refine ⟨zAA, ?_⟩)
   refine aA (bG rfl (fun hc => ?_) (fun hc => ?_))
   ·try simp only [go_sem] at hc
    exact zbB
   ·try simp only [go_sem] at hc
    have h := eC zAB h
    refine cH (aA (qV (D := Unit) (fun d => aAg F s_0 = some r) [] (fun d => [(1, .ptr 0 []), (6, .ptr 1 [])]) (fun d => [.inr (.box 5 (.val qa s_0)), .inr (.box 1 (.val wg ((cE F ([((bI F s_0).getD (([] : List qd), ([] : List qd), ([] : List qd), ())).1, ((bI F s_0).getD (([] : List qd), ([] : List qd), ([] : List qd), ())).2.1, ((bI F s_0).getD (([] : List qd), ([] : List qd), ([] : List qd), ())).2.2.1] : List qv)).getD ([] : List qd))))]) ?_ ?_))
    ·refine aB (aF hF [1, 6, 72, 73, 74] ?_)
     simp only [go_sem]
     refine aA (eA (aH7 [0, 1] rfl rfl ?_))
     simp only [ren, cQ, dB, posOf, bF, go_sem]
     refine pQ (D := Int) [72, 73] (fun d => [(1, .ptr 0 []), (6, .ptr 1 []), (74, .val qe d)]) (fun d => [.inr (.box 5 (.val qa s_0)), .inr (.box 1 (.val wg ((cE F ([((bI F s_0).getD (([] : List qd), ([] : List qd), ([] : List qd), ())).1, ((bI F s_0).getD (([] : List qd), ([] : List qd), ([] : List qd), ())).2.1, ((bI F s_0).getD (([] : List qd), ([] : List qd), ([] : List qd), ())).2.2.1] : List qv)).getD ([] : List qd))))]) h ?_ ?_ ?_
     ·first | rfl | (simp only [go_sem]; done)
     ·exact zAF
     rintro x74_14 s14 h hs14
     simp only [go_sem]
     try dsimp only at h
     unfold aDq at h
     refine aB (aF hF [1, 6, 72, 73, 74, 75] ?_)
     simp only [go_sem]
     refine aA (aB (bG rfl (fun hc => ?_) (fun hc => ?_)))
     ·try simp only [go_sem] at hc
      have h := eB zAB h
      refine cH (aA (aB (eA (aB (aR hF [1, 6, 11, 72, 73, 74] ?_)))))
      simp only [go_sem]
      obtain ⟨g0, h⟩ := aP h
      repeat (refine ⟨zAA, ?_⟩)
      refine aA (aB (aF hF [1, 6, 72, 73, 74, 88] ?_))
      simp only [go_sem]
      obtain ⟨g0, h⟩ := aP h
      obtain ⟨g1, h⟩ := aP h
      repeat (refine ⟨by first | with_reducible assumption | omega | (intros; first | with_reducible assumption | omega) | (simp only [go_sem] at *; first | with_reducible assumption | omega) | (intro _; exact ⟨rfl, by decide⟩) | (intro _; refine (?_ : _ = aD _); rfl) | (refine (?_ : _ = aD _); rfl) | exact ⟨rfl, rfl⟩ | (intro q0; (try have e1 := g1 (by first | exact q0 | omega | (simpa using q0))); first | assumption | omega) | decide, ?_⟩)
      refine aA (bG rfl (fun hc => ?_) (fun hc => ?_))
      ·try simp only [go_sem] at hc
       have h := eB zAB h
       refine aB (aF hF [2] ?_)
       simp only [go_sem]
       obtain rfl := Option.some.inj h
       dsimp only [mX] at hs14
       have h := hs14
       try dsimp only at h
       obtain rfl := Option.some.inj h
       refine aA (cA (gE (cR (cR (gE (cR (iZ hF [.tmp 2] rfl rfl rfl ?_)))))))
       exact zAG
      ·try simp only [go_sem] at hc
       have h := eC zAB h
       refine cH (bC (aA (aF hF [1, 6, 72, 73, 74] ?_)))
       simp only [go_sem]
       obtain ⟨g0, h⟩ := aP h
       try simp only [I64, I32] at g0
       repeat (refine ⟨zAA, ?_⟩)
       obtain rfl := Option.some.inj h
       dsimp only [mX] at hs14
       refine bY (gT [0, 1] rfl rfl ?_)
       simp only [ren, cQ, dB, posOf, bF, go_sem]
       refine bB (x74_14 + (1 : Int)) hs14 rfl ?_
       ·exact zAF
     ·try simp only [go_sem] at hc
      have h := eC zAB h
      obtain rfl := Option.some.inj h
      dsimp only [mX] at hs14
      have h := hs14
      try dsimp only at h
      refine sI (dY (dY (gL (bY (bB () h rfl ?_)))))
      ·exact zAF
    ·rintro u h
     try dsimp only at h
     simp only [go_sem]
     unfold aAg at h
     refine aB (aB (aF hF [1, 6, 91, 92, 93] ?_))
     simp only [go_sem]
     refine aA (eA (pQ (D := Int) [91, 92] (fun d => [(1, .ptr 0 []), (6, .ptr 1 []), (93, .val qe d)]) (fun d => [.inr (.box 5 (.val qa s_0)), .inr (.box 1 (.val wg ((cE F ([((bI F s_0).getD (([] : List qd), ([] : List qd), ([] : List qd), ())).1, ((bI F s_0).getD (([] : List qd), ([] : List qd), ([] : List qd), ())).2.1, ((bI F s_0).getD (([] : List qd), ([] : List qd), ([] : List qd), ())).2.2.1] : List qv)).getD ([] : List qd))))]) h ?_ ?_ ?_))
     ·first | rfl | (simp only [go_sem]; done)
     ·exact zAF
     rintro x93_11 s20 h hs20
     simp only [go_sem]
     try dsimp only at h
     unfold aDp at h
     refine aB (aF hF [1, 6, 91, 92, 93, 94] ?_)
     simp only [go_sem]
     refine aA (aB (bG rfl (fun hc => ?_) (fun hc => ?_)))
     ·try simp only [go_sem] at hc
      have h := eB zAB h
      refine cH (aA (aB (eA (aB (aR hF [1, 6, 13, 91, 92, 93] ?_)))))
      simp only [go_sem]
      obtain ⟨g0, h⟩ := aP h
      repeat (refine ⟨zAA, ?_⟩)
      refine aA (aB (aF hF [1, 6, 91, 92, 93, 100] ?_))
      simp only [go_sem]
      obtain ⟨g0, h⟩ := aP h
      repeat (refine ⟨zAA, ?_⟩)
      refine aA (bG rfl (fun hc => ?_) (fun hc => ?_))
      ·try simp only [go_sem] at hc
       have h := eB zAB h
       refine aB (aF hF [2] ?_)
       simp only [go_sem]
       obtain rfl := Option.some.inj h
       dsimp only [mX] at hs20
       have h := hs20
       try dsimp only at h
       obtain rfl := Option.some.inj h
       refine aA (cA (gE (cR (cR (gE (cR (iZ hF [.tmp 2] rfl rfl rfl ?_)))))))
       exact zAG
      ·try simp only [go_sem] at hc
       have h := eC zAB h
       refine cH (bC (aA (aF hF [1, 6, 91, 92, 93] ?_)))
       simp only [go_sem]
       obtain ⟨g0, h⟩ := aP h
       try simp only [I64, I32] at g0
       repeat (refine ⟨zAA, ?_⟩)
       obtain rfl := Option.some.inj h
       dsimp only [mX] at hs20
       refine bY (gT [0, 1] rfl rfl ?_)
       simp only [ren, cQ, dB, posOf, bF, go_sem]
       refine bB (x93_11 + (1 : Int)) hs20 rfl ?_
       ·exact zAF
     ·try simp only [go_sem] at hc
      have h := eC zAB h
      obtain rfl := Option.some.inj h
      dsimp only [mX] at hs20
      have h := hs20
      try dsimp only at h
      refine sI (dY (dY (gL (aA (aB (aBo 1 rfl ?_))))))
      simp only [go_sem]
      refine aF hF [2] ?_
      simp only [go_sem]
      obtain ⟨g0, h⟩ := aP h
      repeat (refine ⟨zAA, ?_⟩)
      exact za7
attribute [go_sem] xN
def aBO (F : Md) (s_0 : qf) (sub_1 : qd) (x10_5 : Int) : Option ((Int) ⊕ ((Unit) ⊕ Int)) :=
 if x10_5 < (s_0.2.2.2.2.2.2.2.2.1.length : Int) then ck (0 ≤ x10_5 ∧ x10_5 < (s_0.2.2.2.2.2.2.2.2.1.length : Int)) (if (s_0.2.2.2.2.2.2.2.2.1.getD (x10_5.toNat) ([], [], [], [], [], ())).1 = sub_1 then some (.inr (.inr x10_5)) else ck (I64 (x10_5 + (1 : Int))) (some (.inl (x10_5 + (1 : Int))))) else some (.inr (.inl ()))
def aCI (F : Md) (s_0 : qf) (sub_1 : qd) : Option Int :=
 (eH F (fun d : Int => aBO F s_0 sub_1 d) (0 : Int)).bind (fun e => match e with | (.inl e) => some (-1 : Int) | (.inr e) => some e)
def aIK : PlR := ⟨[(0, .B [1, 2]), (1, .A [1, 8, 9, 10]), (2, .A [1, 8, 9, 10, 11]), (3, .B [1, 5, 6, 8, 9, 10]), (4, .A [1, 5, 8, 9, 10, 18]), (5, .A [4]), (6, .A [1, 8, 9, 10]), (7, .A [4])], []⟩
def aKR : Ty := .pair qj wh
def aA8 (F : Md) : aI := mSpec aKR (.one qe) (fun x => aCI F x.1 x.2.1)
def aRG (F : Md) : List (FuncId × aI) := []
theorem aRH [Mx] (F : Md) : bH Tryz.prog GL (aRG F) := .nil
attribute [go_sem] aKR aIK
theorem aQe [Mx] (F : Md) : FOK Tryz.prog GL 79 (aA8 F) := by
 refine bS (aT (aRH F)) mix Tryz.func79 rfl (by kernel_rfl) (by decide) aIK fun w0 S x Θ hw h hF => ?_
 obtain ⟨(s_0 : qf), (sub_1 : qd), u⟩ := x
 simp only [bX, go_sem]
 replace h : sat (aCI F s_0 sub_1) _ := h
 unfold aCI at h
 refine aH7 [] rfl rfl ?_
 simp only [go_sem]
 refine cI hF (D := Int) [1, 8, 9] (fun d => [(10, .val qe d)]) (fun d => []) h rfl (by simp only [go_sem]) ?_
 rintro x10_5 A2 T2 hA2 hE2 h
 simp only [go_sem]
 replace h : sat (aBO F s_0 sub_1 x10_5) _ := h
 unfold aBO at h
 refine fN h (fun hc h => ?_) fun hc h => ?_
 ·refine aZ h fun g0 h => ?_
  refine fC h (fun hc h => ?_) fun hc h => ?_
  ·replace h := hE2 _ (aE h)
   exact zan
  ·refine aZ h fun g0 h => ?_
   replace h := hA2 _ (aE h)
   refine gT [] rfl rfl ?_
   exact za4
 ·replace h := hE2 _ (aE h)
  exact zan
attribute [go_sem] aA8
def vD (F : Md) (o_0 : qz) (a1_1 : wc) : Option Bool :=
 ck ((0 : Int) < (a1_1.length : Int)) (some (decide (o_0.1 = (a1_1.getD (0 : Nat) ([], [], [], [], ())).2.2.2.1)))
def aD7 : PlR := ⟨[(0, .B [1, 2]), (1, .A [3])], []⟩
def aE4 : Ty := .pair qr (.pair (.rp (.sl qs)) .unit)
def tL (F : Md) : aI := mSpec aE4 (.one .bool) (fun x => vD F x.1 x.2.1)
def aL5 (F : Md) : List (FuncId × aI) := []
theorem aL6 [Mx] (F : Md) : bH Tryz.prog GL (aL5 F) := .nil
attribute [go_sem] aE4 aD7
theorem aKS [Mx] (F : Md) : FOK Tryz.prog GL 80 (tL F) := by
 refine bS (aT (aL6 F)) mix Tryz.func80 rfl (by kernel_rfl) (by decide) aD7 fun w0 S x Θ hw h hF => ?_
 obtain ⟨(o_0 : qz), (a1_1 : wc), u⟩ := x
 simp only [bX, go_sem]
 replace h : sat (vD F o_0 a1_1) _ := h
 unfold vD at h
 refine aZ h fun g0 h => ?_
 exact aK hF [.tmp 3] rfl rfl rfl (aE h) (by simp only [aS, go_sem])
attribute [go_sem] tL
def eN (F : Md) (s_0 : wt) (f_1 : (wc × Unit)) (x8_14 : Int) : Option ((Int) ⊕ ((Unit) ⊕ Int)) :=
 if x8_14 < (s_0.length : Int) then ck (0 ≤ x8_14 ∧ x8_14 < (s_0.length : Int)) ((vD F (s_0.getD (x8_14.toNat) ([], (Ex.mk 0 [] []), ())) f_1.1).bind (fun v_27 => if v_27 = true then some (.inr (.inr x8_14)) else ck (I64 (x8_14 + (1 : Int))) (some (.inl (x8_14 + (1 : Int)))))) else some (.inr (.inl ()))
def dM (F : Md) (s_0 : wt) (f_1 : (wc × Unit)) : Option Int :=
 (eH F (fun d : Int => eN F s_0 f_1 d) (0 : Int)).bind (fun e => match e with | (.inl e) => some (-1 : Int) | (.inr e) => some e)
def iN : PlR := ⟨[(0, .A [0, 1]), (1, .A [0, 1, 7, 8]), (2, .A [0, 1, 7, 8, 9]), (3, .A [0, 1, 5, 7, 8]), (4, .A [0, 1, 5, 7, 8, 16]), (5, .A [4]), (6, .A [0, 1, 7, 8]), (7, .A [4])], []⟩
def iV : Ty := .pair (.sl qr) (.pair (.clo 80 (.pair (.rp (.sl qs)) .unit)) .unit)
def dG (F : Md) : aI := mSpec iV (.one qe) (fun x => dM F x.1 x.2.1)
def iW (F : Md) : List (FuncId × aI) := [(80, (tL F))]
theorem pJ [Mx] (F : Md) : bH Tryz.prog GL (iW F) := .cons (aKS F) (by kernel_rfl) (.nil)
theorem oC (F : Md) : gam (iW F) 80 = some (tL F) := rfl
attribute [go_sem] iV iN oC
theorem oY [Mx] (F : Md) : FOK Tryz.prog GL 116 (dG F) := by
 refine bS (aT (pJ F)) mix Tryz.func116 rfl (by kernel_rfl) (by decide) iN fun w0 S x Θ hw h hF => ?_
 obtain ⟨(s_0 : wt), (f_1 : (wc × Unit)), u⟩ := x
 simp only [bX, go_sem]
 replace h : sat (dM F s_0 f_1) _ := h
 unfold dM at h
 refine cI hF (D := Int) [0, 1, 7] (fun d => [(8, .val qe d)]) (fun d => []) h rfl (by simp only [go_sem]) ?_
 rintro x8_14 A2 T2 hA2 hE2 h
 simp only [go_sem]
 replace h : sat (eN F s_0 f_1 x8_14) _ := h
 unfold eN at h
 exact zaQ
attribute [go_sem] dG
def cL (F : Md) (s_0 : wt) (f_1 : (wc × Unit)) : Option Bool :=
 (dM F s_0 f_1).bind (fun v_8 => some (decide ((0 : Int) ≤ v_8)))
def gR : PlR := ⟨[(0, .A [0, 1]), (1, .A [4])], []⟩
def hO : Ty := .pair (.sl qr) (.pair (.clo 80 (.pair (.rp (.sl qs)) .unit)) .unit)
def cY (F : Md) : aI := mSpec hO (.one .bool) (fun x => cL F x.1 x.2.1)
def hP (F : Md) : List (FuncId × aI) := [(116, (dG F))]
theorem oD [Mx] (F : Md) : bH Tryz.prog GL (hP F) := .cons (oY F) (by kernel_rfl) (.nil)
theorem mT (F : Md) : gam (hP F) 116 = some (dG F) := rfl
attribute [go_sem] hO gR mT
theorem nM [Mx] (F : Md) : FOK Tryz.prog GL 76 (cY F) := by
 refine bS (aT (oD F)) mix Tryz.func76 rfl (by kernel_rfl) (by decide) gR fun w0 S x Θ hw h hF => ?_
 obtain ⟨(s_0 : wt), (f_1 : (wc × Unit)), u⟩ := x
 simp only [bX, go_sem]
 replace h : sat (cL F s_0 f_1) _ := h
 unfold cL at h
 obtain ⟨v_8, hv, h⟩ := aN h
 exact zaZ
attribute [go_sem] cY
def aAk (F : Md) (s_0 : qf) (x14_42 : Int) (x21_83 : Int) (l_84 : wc) : Option ((Int × wc) ⊕ (wc ⊕ Bool)) :=
 if x21_83 < (((s_0.2.2.2.2.2.2.2.2.1.getD (x14_42.toNat) ([], [], [], [], [], ())).2.2.2.1.length : Nat) : Int) then ck (0 ≤ x21_83 ∧ x21_83 < (((s_0.2.2.2.2.2.2.2.2.1.getD (x14_42.toNat) ([], [], [], [], [], ())).2.2.2.1.length : Nat) : Int)) (ck (¬ ((l_84.length : Int) = (0 : Int)) → ((0 : Int) < (l_84.length : Int))) (ck (¬ (((l_84.length : Int) = (0 : Int)) ∨ (¬ ((l_84.getD (0 : Nat) ([], [], [], [], ())).1 = (s_0.2.2.2.2.2.2.2.2.1.getD (x14_42.toNat) ([], [], [], [], [], ())).1))) → ((0 : Int) < (l_84.length : Int))) (if (((l_84.length : Int) = (0 : Int)) ∨ (¬ ((l_84.getD (0 : Nat) ([], [], [], [], ())).1 = (s_0.2.2.2.2.2.2.2.2.1.getD (x14_42.toNat) ([], [], [], [], [], ())).1))) ∨ (¬ ((l_84.getD (0 : Nat) ([], [], [], [], ())).2.1 = ((s_0.2.2.2.2.2.2.2.2.1.getD (x14_42.toNat) ([], [], [], [], [], ())).2.2.2.1.getD (x21_83.toNat) ([] : List Nat)))) then some (.inr (.inr false)) else ck ((0 : Int) < (l_84.length : Int)) ((aCI F s_0 (l_84.getD (0 : Nat) ([], [], [], [], ())).2.2.1).bind (fun v_99 => ck (¬ (v_99 < (0 : Int)) → (0 ≤ v_99 ∧ v_99 < (s_0.2.2.2.2.2.2.2.2.1.length : Int))) (ck (¬ (v_99 < (0 : Int)) → ((cL F (s_0.2.2.2.2.2.2.2.2.1.getD (v_99.toNat) ([], [], [], [], [], ())).2.2.2.2.1 (l_84, ())).isSome = true)) (if (v_99 < (0 : Int)) ∨ (¬ (((cL F (s_0.2.2.2.2.2.2.2.2.1.getD (v_99.toNat) ([], [], [], [], [], ())).2.2.2.2.1 (l_84, ())).getD false) = true)) then some (.inr (.inr false)) else ck ((1 : Int) ≤ (l_84.length : Int)) (ck (I64 (x21_83 + (1 : Int))) (some (.inl ((x21_83 + (1 : Int)), (List.drop (1 : Nat) l_84)))))))))))) else some (.inr (.inl l_84))
def aAl (F : Md) (s_0 : qf) (x14_42 : Int) (l_43 : wc) : Option ((Int × wc) ⊕ (wc ⊕ Bool)) :=
 if x14_42 < (s_0.2.2.2.2.2.2.2.2.1.length : Int) then ck (0 ≤ x14_42 ∧ x14_42 < (s_0.2.2.2.2.2.2.2.2.1.length : Int)) ((eH F (fun d : Int × wc => aAk F s_0 x14_42 d.1 d.2) ((0 : Int), l_43)).bind (fun e => match e with | (.inl e) => ck (I64 (x14_42 + (1 : Int))) (some (.inl ((x14_42 + (1 : Int)), e))) | (.inr e) => some (.inr (.inr e)))) else some (.inr (.inl l_43))
def uG (F : Md) (s_0 : qf) : Option Bool :=
 (eH F (fun d : Int × wc => aAl F s_0 d.1 d.2) ((0 : Int), s_0.2.2.2.2.2.2.2.2.2.1)).bind (fun e => match e with | (.inl e) => some (decide ((e.length : Int) = (0 : Int))) | (.inr e) => some e)
def aGr : PlR := ⟨[(0, .B [1]), (1, .B [1, 3]), (2, .A [1, 3, 12, 13, 14]), (3, .A [1, 3, 12, 13, 14, 15]), (4, .B [1, 3, 5, 12, 13, 14]), (5, .A [1, 3, 5, 12, 13, 14, 19, 20, 21]), (6, .A [1, 3, 5, 12, 13, 14, 19, 20, 21, 22]), (7, .A [1, 3, 5, 7, 12, 13, 14, 19, 20, 21]), (8, .A [1, 3, 5, 12, 13, 14, 19, 20, 21, 44]), (9, .A [2]), (10, .A [1, 3, 5, 8, 12, 13, 14, 19, 20, 21]), (11, .A [1, 3, 5, 12, 13, 14, 19, 20, 21, 63]), (12, .A [2]), (13, .B [1, 3, 5, 12, 13, 14, 19, 20, 21]), (14, .A [1, 3, 5, 12, 13, 14, 19, 20, 21]), (15, .A [1, 3, 12, 13, 14]), (16, .A [2])], []⟩
def aHM : Ty := .pair qj .unit
def xO (F : Md) : aI := mSpec aHM (.one .bool) (fun x => uG F x.1)
def aDr (F : Md) : List (FuncId × aI) := [(76, (cY F)), (79, (aA8 F))]
theorem aPC [Mx] (F : Md) : bH Tryz.prog GL (aDr F) := .cons (nM F) (by kernel_rfl) (.cons (aQe F) (by kernel_rfl) (.nil))
theorem aKT (F : Md) : gam (aDr F) 76 = some (cY F) := rfl
theorem aKU (F : Md) : gam (aDr F) 79 = some (aA8 F) := rfl
attribute [go_sem] aHM aGr aKT aKU
theorem aNN [Mx] (F : Md) : FOK Tryz.prog GL 38 (xO F) := by
 refine bS (aT (aPC F)) mix Tryz.func38 rfl (by kernel_rfl) (by decide) aGr fun w0 S x Θ hw h hF => ?_
 obtain ⟨(s_0 : qf), u⟩ := x
 simp only [bX, go_sem]
 replace h : sat (uG F s_0) _ := h
 unfold uG at h
 refine cI hF (D := Int × wc) [12, 13] (fun d => [(1, .ptr 0 []), (3, .ptr 1 []), (14, .val qe d.1)]) (fun d => [.inr (.box 10 (.val qj s_0)), .inr (.box 1 (.val (.sl qs) d.2))]) h rfl (by simp only [go_sem]) ?_
 rintro ⟨x14_42, l_43⟩ A3 T3 hA3 hE3 h
 simp only [go_sem]
 replace h : sat (aAl F s_0 x14_42 l_43) _ := h
 unfold aAl at h
 refine fN h (fun hc h => ?_) fun hc h => ?_
 ·obtain ⟨g0, h⟩ := aQ h
  repeat (refine ⟨zAA, ?_⟩)
  refine cI hF (D := Int × wc) [12, 13, 14, 19, 20] (fun d => [(1, .ptr 0 []), (3, .ptr 1 []), (5, .ptr 2 []), (21, .val qe d.1)]) (fun d => [.inr (.box 10 (.val qj s_0)), .inr (.box 1 (.val (.sl qs) d.2)), .inr (.box 5 (.val qa (s_0.2.2.2.2.2.2.2.2.1.getD (x14_42.toNat) ([], [], [], [], [], ()))))]) h rfl (by simp only [go_sem]) ?_
  rintro ⟨x21_83, l_84⟩ A6 T6 hA6 hE6 h
  simp only [go_sem]
  replace h : sat (aAk F s_0 x14_42 x21_83 l_84) _ := h
  unfold aAk at h
  refine fN h (fun hc h => ?_) fun hc h => ?_
  ·obtain ⟨g0, h⟩ := aQ h
   repeat (refine ⟨zAA, ?_⟩)
   obtain ⟨g0, h⟩ := aQ h
   obtain ⟨g1, h⟩ := aQ h
   repeat (refine ⟨zAC, ?_⟩)
   refine ⟨fun hc => ?_, fun hc => ?_⟩
   ·replace h := jE hc h
    replace h := hE6 _ (aE h)
    try dsimp only at h
    replace h := hE3 _ (aE h)
    exact zaz
   ·replace h := jF hc h
    obtain ⟨g0, h⟩ := aQ h
    repeat (refine ⟨zAA, ?_⟩)
    obtain ⟨v_99, hv, h⟩ := aN h
    try simp only [hv, go_sem]
    obtain ⟨g0, h⟩ := aQ h
    obtain ⟨g1, h⟩ := aQ h
    repeat (refine ⟨zAC, ?_⟩)
    refine ⟨fun hc => ?_, fun hc => ?_⟩
    ·replace h := jE zAB h
     replace h := hE6 _ (aE h)
     try dsimp only at h
     replace h := hE3 _ (aE h)
     exact zaz
    ·replace h := jF zAB h
     obtain ⟨g0, h⟩ := aQ h
     repeat (refine ⟨zAA, ?_⟩)
     obtain ⟨g0, h⟩ := aQ h
     try simp only [I64, I32] at g0
     repeat (refine ⟨zAA, ?_⟩)
     replace h := hA6 _ (aE h)
     exact zaO
  ·replace h := hE6 _ (aE h)
   try dsimp only at h
   obtain ⟨g0, h⟩ := aQ h
   try simp only [I64, I32] at g0
   repeat (refine ⟨zAA, ?_⟩)
   replace h := hA3 _ (aE h)
   refine gT [0, 1] rfl rfl ?_
   exact za4
 ·replace h := hE3 _ (aE h)
  exact zaz
attribute [go_sem] xO
def aAm (F : Md) (s_0 : qf) (names_16 : qv) : Option (Bool) :=
 (sZ F names_16).bind (fun v_20 => ck ((v_20 = true) → ((uG F s_0).isSome = true)) (some (v_20 && ((uG F s_0).getD false))))
def aDs (F : Md) (s_0 : qf) (x24_23 : Int) (names_24 : qv) : Option ((Int × qv) ⊕ (qv ⊕ Bool)) :=
 if x24_23 < (s_0.2.2.2.2.2.2.2.2.1.length : Int) then ck (0 ≤ x24_23 ∧ x24_23 < (s_0.2.2.2.2.2.2.2.2.1.length : Int)) ((aAi F (s_0.2.2.2.2.2.2.2.2.1.getD (x24_23.toNat) ([], [], [], [], [], ()))).bind (fun v_37 => if ¬ (v_37 = true) then some (.inr (.inr false)) else ck (((names_24.length) + (1 : Nat)) * 16 ≤ 140737488355328) (ck (I64 (x24_23 + (1 : Int))) (some (.inl ((x24_23 + (1 : Int)), (names_24 ++ ([(s_0.2.2.2.2.2.2.2.2.1.getD (x24_23.toNat) ([], [], [], [], [], ())).1] : List qd)))))))) else some (.inr (.inl names_24))
def uH (F : Md) (s_0 : qf) : Option Bool :=
 (xK F s_0).bind (fun v_7 => if ((¬ (v_7 = true)) ∨ ((s_0.2.2.2.2.2.2.2.2.1.length : Int) < (1 : Int))) ∨ ((4 : Int) < (s_0.2.2.2.2.2.2.2.2.1.length : Int)) then some false else (eH F (fun d : Int × qv => aDs F s_0 d.1 d.2) ((0 : Int), ([] : List qd))).bind (fun e => match e with | (.inl e) => aAm F s_0 e | (.inr e) => some e))
def aKV : PlR := ⟨[(0, .B [1]), (1, .A [1, 20]), (2, .A [2]), (3, .A [1, 3]), (4, .A [1, 3, 22, 23, 24]), (5, .A [1, 3, 22, 23, 24, 25]), (6, .B [1, 3, 5, 22, 23, 24]), (7, .A [1, 3, 5, 22, 23, 24, 30]), (8, .A [2]), (9, .B [1, 3, 22, 23, 24]), (10, .A [1, 3, 22, 23, 24]), (11, .A [2])], [(7, 14)]⟩
def aM5 : Ty := .pair qj .unit
def vE (F : Md) : aI := mSpec aM5 (.one .bool) (fun x => uH F x.1)
def aBA (F : Md) : List (FuncId × aI) := [(35, (uY F)), (36, (xN F)), (37, (rE F)), (38, (xO F))]
theorem aSN [Mx] (F : Md) : bH Tryz.prog GL (aBA F) := .cons (aL1 F) (by kernel_rfl) (.cons (aNM F) (by kernel_rfl) (.cons (aHv F) (by kernel_rfl) (.cons (aNN F) (by kernel_rfl) (.nil))))
theorem aPD (F : Md) : gam (aBA F) 35 = some (uY F) := rfl
theorem aPE (F : Md) : gam (aBA F) 36 = some (xN F) := rfl
theorem aPF (F : Md) : gam (aBA F) 37 = some (rE F) := rfl
theorem aPG (F : Md) : gam (aBA F) 38 = some (xO F) := rfl
attribute [go_sem] aM5 aKV aPD aPE aPF aPG
theorem aKW [Mx] (F : Md) : FOK Tryz.prog GL 16 (vE F) := by
 refine bS (aT (aSN F)) mix Tryz.func16 rfl (by kernel_rfl) (by decide) aKV fun w0 S x Θ hw h hF => ?_
 obtain ⟨(s_0 : qf), u⟩ := x
 simp only [bX, go_sem]
 replace h : sat (uH F s_0) _ := h
 unfold uH at h
 obtain ⟨v_7, hv, h⟩ := aN h
 try simp only [hv, go_sem]
 refine ⟨fun hc => ?_, fun hc => ?_⟩
 ·replace h := jE zAB h
  exact zaG
 ·replace h := jF zAB h
  refine eX hF (D := qv) (fun d => sat (aAm F s_0 d) Θ) [] (fun d => [(1, .ptr 0 []), (3, .own 1)]) (fun d => [.inr (.box 10 (.val qj s_0)), .inr (.row 9 .str d)]) ?_ ?_
  ·simp only [go_sem]
   refine aC0 3 9 .str rfl ?_
   simp only [go_sem]
   refine cI hF (D := Int × qv) [22, 23] (fun d => [(1, .ptr 0 []), (3, .own 1), (24, .val qe d.1)]) (fun d => [.inr (.box 10 (.val qj s_0)), .inr (.row 9 .str d.2)]) h rfl (by simp only [go_sem]) ?_
   rintro ⟨x24_23, names_24⟩ A5 T5 hA5 hE5 h
   simp only [go_sem]
   replace h : sat (aDs F s_0 x24_23 names_24) _ := h
   unfold aDs at h
   refine fN h (fun hc h => ?_) fun hc h => ?_
   ·obtain ⟨g0, h⟩ := aQ h
    repeat (refine ⟨by omega, ?_⟩)
    obtain ⟨v_37, hv, h⟩ := aN h
    try simp only [hv, go_sem]
    refine aC3 h (fun hc h => ?_) fun hc h => ?_
    ·replace h := hE5 _ (aE h)
     exact zaz
    ·obtain ⟨g0, h⟩ := aQ h
     repeat (refine ⟨by omega, ?_⟩)
     obtain ⟨g0, h⟩ := aQ h
     repeat (refine ⟨by omega, ?_⟩)
     replace h := hA5 _ (aE h)
     refine gT [0, 3] rfl rfl ?_
     exact za4
   ·replace h := hE5 _ (aE h)
    try dsimp only at h
    exact bB (names_24) h rfl (by simp only [go_sem])
  ·rintro names_16 h
   simp only [go_sem]
   replace h : sat (aAm F s_0 names_16) _ := h
   unfold aAm at h
   obtain ⟨v_20, hv, h⟩ := aN h
   try simp only [hv, go_sem]
   obtain ⟨g0, h⟩ := aQ h
   repeat (refine ⟨by omega, ?_⟩)
   exact zaG
attribute [go_sem] vE
end
end Nu
end Go.Proofs
namespace Go.Proofs
open Go.Vc
set_option maxRecDepth 20000
namespace Nu
noncomputable section
set_option maxHeartbeats 4000000
attribute [-go_sem] Ex.kind Ex.text Ex.l
def sR : fU where
 D := qf × (Int × qp) × Int × Unit
 av := fun _ => [.ptr 0 [], .ptr 1 [], .ptr 2 []]
 hp := fun d => [.box 10 (.val qj d.1), .box 2 (.val qo d.2.1), .box 1 (.val qe d.2.2.1)]
 m := 3
 pre := fun _ => True
 out := fun d => .ret (.tup []) [.box 10 (.val qj d.1), .box 2 (.val qo d.2.1), .box 1 (.val qe d.2.2.1)]
def eP (x : q8) : fU where
 D := Unit
 av := fun _ => [.ptr 0 [], .ptr 1 [], .ptr 2 []]
 hp := fun _ => [.box 10 .junk, .box 2 .junk, .box 1 .junk]
 m := 3
 pre := fun _ => True
 out := fun _ => .ret (.tup []) [.box 10 (.val qj ((0 : Int), (0 : Int), (0 : Int), (0 : Int), ([] : List Nat), ([] : List Nat), ([] : List Nat), ([] : List Nat), ([] : List qc), ([] : List qm), ())), .box 2 (.val qo (x).1), .box 1 (.val qe (6 : Int))]
theorem aL7 [Mx] : DOK Tryz.prog GL 23 none sR := by
 refine aLq (aT aAx) Tryz.func23 rfl (by kernel_rfl) (fun _ => Nat.le_of_ble_eq_true rfl) rfl fun c w d hw1 hw2 hp hn => ?_
 have hF : fT ⟨Tryz.prog, EM [], GM sR c d, w, Tryz.f23.ntmps, []⟩ := ⟨aT aAx, mix⟩
 obtain ⟨d0, d1, d2, du⟩ := d
 show rN _ _ _ [(6, .val .nili ()), (0, .ptr 0 []), (1, .ptr 1 []), (2, .ptr 2 [])] [.box 10 (.val qj d0), .box 2 (.val qo d1), .box 1 (.val qe d2)] _
 exact za3
theorem vF [Mx] (x : q8) : DOK Tryz.prog GL 23 (some ⟨65, wi, x⟩) (eP x) := by
 refine aLq (aT aAx) Tryz.func23 rfl (by kernel_rfl) (fun _ => Nat.le_of_ble_eq_true rfl) rfl fun c w d hw1 hw2 hp hn => ?_
 have hF : fT ⟨Tryz.prog, EM [], GM (eP x) c d, w, Tryz.f23.ntmps, []⟩ := ⟨aT aAx, mix⟩
 show rN _ _ _ [(6, .val (.ifc 65 wi) x), (0, .ptr 0 []), (1, .ptr 1 []), (2, .ptr 2 [])] [.box 10 .junk, .box 2 .junk, .box 1 .junk] _
 simp only [go_sem]
 refine aB (aF hF [0, 1, 2, 3, 10] ?_)
 simp only [go_sem]
 refine aA (bG rfl (fun hc => ?_) (fun hc => absurd hc (by decide)))
 refine aDG hF [] [] [.box 10 (.val qj ((0 : Int), (0 : Int), (0 : Int), (0 : Int), ([] : List Nat), ([] : List Nat), ([] : List Nat), ([] : List Nat), ([] : List qc), ([] : List qm), ())), .box 2 (.val qo (x).1), .box 1 (.val qe (6 : Int)), .box 2 (.val wi x)] (by decide) ?_ ?_
 ·simp only [go_sem]
  exact zah
 refine gT [0, 1, 2] rfl rfl ?_
 exact zaV
def aAT (F : Md) (k_66 : Int) (s_67 : Int) (s_68 : Int) (s_69 : Int) (s_70 : Int) (s_71 : qd) (s_72 : qd) (s_73 : qd) (s_74 : qd) (x_75 : wu) (x_76 : wc) : Option (qf × ((Int × qp) × qp)) :=
 ck ((jV F (s_67, s_68, s_69, s_70, s_71, s_72, s_73, s_74, x_75, x_76, ())).isSome = true) (ck (¬ (k_66 < (7 : Int)) → ((uH F (s_67, s_68, s_69, s_70, s_71, s_72, s_73, s_74, x_75, ((jV F (s_67, s_68, s_69, s_70, s_71, s_72, s_73, s_74, x_75, x_76, ())).getD ([] : List qm)), ())).isSome = true)) (if (k_66 < (7 : Int)) ∨ (¬ (((uH F (s_67, s_68, s_69, s_70, s_71, s_72, s_73, s_74, x_75, ((jV F (s_67, s_68, s_69, s_70, s_71, s_72, s_73, s_74, x_75, x_76, ())).getD ([] : List qm)), ())).getD false) = true)) then some (((0 : Int), (0 : Int), (0 : Int), (0 : Int), ([] : List Nat), ([] : List Nat), ([] : List Nat), ([] : List Nat), ([] : List qc), ([] : List qm), ()), (((0 : Int), (0 : Int), ()), ()).1, (6 : Int), ()) else some ((s_67, s_68, s_69, s_70, s_71, s_72, s_73, s_74, x_75, ((jV F (s_67, s_68, s_69, s_70, s_71, s_72, s_73, s_74, x_75, x_76, ())).getD ([] : List qm)), ()), ((0 : Int), (0 : Int), ()), (0 : Int), ())))
def aE5 (F : Md) (text_0 : qd) (k_91 : Int) (x18_92 : Int) (s_93 : Int) (s_94 : Int) (s_95 : Int) (s_96 : Int) (s_97 : qd) (s_98 : qd) (s_99 : qd) (s_100 : qd) (x_101 : wu) (x_102 : wc) : Option ((Int × Int × Int × Int × Int × Int × qd × qd × qd × qd × wu × wc) ⊕ ((Int × Int × Int × Int × Int × qd × qd × qd × qd × wu × wc) ⊕ q8)) :=
 if x18_92 < (((aEq text_0 (aU ⟨#[10]⟩)).length : Nat) : Int) then ck (0 ≤ x18_92 ∧ x18_92 < (((aEq text_0 (aU ⟨#[10]⟩)).length : Nat) : Int)) (ck (aP9 ((aEq text_0 (aU ⟨#[10]⟩)).getD (x18_92.toNat) ([] : List Nat)) (aU ⟨#[35]⟩)) (ck (I64 (x18_92 + (1 : Int))) (ck ((lH F (wS ((aEq text_0 (aU ⟨#[10]⟩)).getD (x18_92.toNat) ([] : List Nat)) (aU ⟨#[35]⟩)).1 (aU ⟨#[32]⟩)).isSome = true) ((jI F ((x18_92 + (1 : Int)), (0 : Int), ((lH F (wS ((aEq text_0 (aU ⟨#[10]⟩)).getD (x18_92.toNat) ([] : List Nat)) (aU ⟨#[35]⟩)).1 (aU ⟨#[32]⟩)).getD ([] : List Nat)), ())).bind (fun r_169 => if r_169.1 = (aU ⟨#[]⟩) then ck (I64 (x18_92 + (1 : Int))) (some (.inl (k_91, (x18_92 + (1 : Int)), s_93, s_94, s_95, s_96, s_97, s_98, s_99, s_100, x_101, x_102))) else if k_91 < (7 : Int) then (aCG F k_91 (s_93, s_94, s_95, s_96, s_97, s_98, s_99, s_100, x_101, x_102, ()) r_169.2).bind (fun e => match e with | .inl r_174 => ck (I64 (k_91 + (1 : Int))) (ck (I64 (x18_92 + (1 : Int))) (some (.inl ((k_91 + (1 : Int)), (x18_92 + (1 : Int)), r_174.1.1, r_174.1.2.1, r_174.1.2.2.1, r_174.1.2.2.2.1, r_174.1.2.2.2.2.1, r_174.1.2.2.2.2.2.1, r_174.1.2.2.2.2.2.2.1, r_174.1.2.2.2.2.2.2.2.1, r_174.1.2.2.2.2.2.2.2.2.1, r_174.1.2.2.2.2.2.2.2.2.2.1)))) | .inr p_175 => some (.inr (.inr p_175))) else (aAf F (s_93, s_94, s_95, s_96, s_97, s_98, s_99, s_100, x_101, x_102, ()) r_169.2).bind (fun e => match e with | .inl r_176 => ck (I64 (k_91 + (1 : Int))) (ck (I64 (x18_92 + (1 : Int))) (some (.inl ((k_91 + (1 : Int)), (x18_92 + (1 : Int)), r_176.1.1, r_176.1.2.1, r_176.1.2.2.1, r_176.1.2.2.2.1, r_176.1.2.2.2.2.1, r_176.1.2.2.2.2.2.1, r_176.1.2.2.2.2.2.2.1, r_176.1.2.2.2.2.2.2.2.1, r_176.1.2.2.2.2.2.2.2.2.1, r_176.1.2.2.2.2.2.2.2.2.2.1)))) | .inr p_177 => some (.inr (.inr p_177)))))))) else some (.inr (.inl (k_91, s_93, s_94, s_95, s_96, s_97, s_98, s_99, s_100, x_101, x_102)))
def wZ (F : Md) (text_0 : qd) : Option (qf × ((Int × qp) × qp)) :=
 if (20000 : Int) < (text_0.length : Int) then some (((0 : Int), (0 : Int), (0 : Int), (0 : Int), ([] : List Nat), ([] : List Nat), ([] : List Nat), ([] : List Nat), ([] : List qc), ([] : List qm), ()), (((0 : Int), (0 : Int), ()), ()).1, (6 : Int), ()) else ck (aP9 text_0 (aU ⟨#[10]⟩)) ((eH F (fun d : Int × Int × Int × Int × Int × Int × qd × qd × qd × qd × wu × wc => aE5 F text_0 d.1 d.2.1 d.2.2.1 d.2.2.2.1 d.2.2.2.2.1 d.2.2.2.2.2.1 d.2.2.2.2.2.2.1 d.2.2.2.2.2.2.2.1 d.2.2.2.2.2.2.2.2.1 d.2.2.2.2.2.2.2.2.2.1 d.2.2.2.2.2.2.2.2.2.2.1 d.2.2.2.2.2.2.2.2.2.2.2) ((0 : Int), (0 : Int), (0 : Int), (0 : Int), (0 : Int), (0 : Int), ([] : List Nat), ([] : List Nat), ([] : List Nat), ([] : List Nat), ([] : List qc), ([] : List qm))).bind (fun e => match e with | (.inl e) => aAT F e.1 e.2.1 e.2.2.1 e.2.2.2.1 e.2.2.2.2.1 e.2.2.2.2.2.1 e.2.2.2.2.2.2.1 e.2.2.2.2.2.2.2.1 e.2.2.2.2.2.2.2.2.1 e.2.2.2.2.2.2.2.2.2.1 e.2.2.2.2.2.2.2.2.2.2 | (.inr e) => some (((0 : Int), (0 : Int), (0 : Int), (0 : Int), ([] : List Nat), ([] : List Nat), ([] : List Nat), ([] : List Nat), ([] : List qc), ([] : List qm), ()), (e).1, (6 : Int), ())))
@[go_sem]def aA9 : Ty := .pair .str .unit
def rF (F : Md) : aI := mSpec aA9 (.tup (.pair qj (.pair qo q9))) (fun x => wZ F x.1)
def oJ (F : Md) : List (FuncId × aI) := [(16, (vE F)), (24, uX), (25, mQ), (26, (qE F)), (30, (vB F))]
theorem aIL [Mx] (F : Md) : bH Tryz.prog GL (oJ F) := .cons (aKW F) (by kernel_rfl) (.cons aL0 (by kernel_rfl) (.cons aDl (by kernel_rfl) (.cons (aHz F) (by kernel_rfl) (.cons (aL3 F) (by kernel_rfl) (.nil)))))
@[go_sem]theorem aL8 (F : Md) : gam (oJ F) 16 = some (vE F) := rfl
@[go_sem]theorem aL9 (F : Md) : gam (oJ F) 24 = some uX := rfl
@[go_sem]theorem aMa (F : Md) : gam (oJ F) 25 = some mQ := rfl
@[go_sem]theorem aMb (F : Md) : gam (oJ F) 26 = some (qE F) := rfl
@[go_sem]theorem aMc (F : Md) : gam (oJ F) 30 = some (vB F) := rfl
theorem aHN [Mx] (F : Md) : FOK Tryz.prog GL 11 (rF F) := by
 refine aFx (aMv (aIL F)) Tryz.func11 rfl (by kernel_rfl) (by decide) fun w0 S x r hw h => ?_
 have hF : fT (fr Tryz.prog (EX (oJ F)) S w0 Tryz.f11.ntmps) := ⟨aMv (aIL F), mix⟩
 obtain ⟨(text_0 : qd), u⟩ := x
 simp only [aA9, Ty.wf, eR] at hw
 simp only [bX, aA9]
 try dsimp only at h
 replace h : wZ F text_0 = some r := h
 unfold wZ at h
 refine aB (aR hF [0, 2, 3, 4] ?_)
 simp only [go_sem]
 repeat (refine ⟨zAA, ?_⟩)
 refine aA (aQD (aAV 3 [0, 1, 2] rfl rfl (Nat.zero_le _) (by decide) fun roots hroots => ?_))
 simp only [go_sem]
 have hF : fT { fr Tryz.prog (EX (oJ F)) S w0 Tryz.f11.ntmps with M := ⟨nothing, S, 3, roots⟩, ds := [⟨.fn (.func 23) ([0, 1, 2].map roots).toArray, #[]⟩] } := ⟨hF.env, mix⟩
 refine aB (aB (aF hF [0, 2, 3, 4, 12] ?_))
 simp only [go_sem]
 repeat (refine ⟨zAA, ?_⟩)
 refine aA (bG rfl (fun hc => ?_) (fun hc => ?_))
 ·try simp only [go_sem] at hc
  have h := eB zAB h
  refine aC hF (aG (l := []) (.nil)) [0, 2, 3, 4] [] ?_
  exact zab
 ·try simp only [go_sem] at hc
  have h := eC zAB h
  refine cH (aA (aB (aF hF [0, 2, 3, 4, 5] ?_)))
  simp only [go_sem]
  repeat (refine ⟨zAA, ?_⟩)
  refine aA (aB (aQw (aA (qV (D := Int × Int × Int × Int × Int × qd × qd × qd × qd × wu × wc) (fun d => aAT F d.1 d.2.1 d.2.2.1 d.2.2.2.1 d.2.2.2.2.1 d.2.2.2.2.2.1 d.2.2.2.2.2.2.1 d.2.2.2.2.2.2.2.1 d.2.2.2.2.2.2.2.2.1 d.2.2.2.2.2.2.2.2.2.1 d.2.2.2.2.2.2.2.2.2.2 = some r) [] (fun d => [(2, .ptr 0 []), (3, .ptr 1 []), (4, .ptr 2 []), (5, .val qe d.1)]) (fun d => [.inr (.box 10 (.agg [.val qe d.2.1, .val qe d.2.2.1, .val qe d.2.2.2.1, .val qe d.2.2.2.2.1, .val .str d.2.2.2.2.2.1, .val .str d.2.2.2.2.2.2.1, .val .str d.2.2.2.2.2.2.2.1, .val .str d.2.2.2.2.2.2.2.2.1, .own 3, .own 4])), .inr (.box 2 (.val qo ((0 : Int), (0 : Int), ()))), .inr (.box 1 (.val qe (0 : Int))), .inr (.tre 53 qh qa d.2.2.2.2.2.2.2.2.2.1), .inr (.row 83 qs d.2.2.2.2.2.2.2.2.2.2)]) ?_ ?_))))
  ·refine aB (aF hF [2, 3, 4, 5, 16, 17, 18] ?_)
   simp only [go_sem]
   obtain ⟨g0, h⟩ := aP h
   repeat (refine ⟨zAA, ?_⟩)
   refine aA (eA (aOO 0 8 53 qh qa rfl rfl rfl ?_))
   simp only [go_sem]
   refine aOO 0 9 83 .no qs rfl rfl rfl ?_
   simp only [go_sem]
   refine pQ (D := Int × Int × Int × Int × Int × Int × qd × qd × qd × qd × wu × wc) [16, 17] (fun d => [(2, .ptr 0 []), (3, .ptr 1 []), (4, .ptr 2 []), (5, .val qe d.1), (18, .val qe d.2.1)]) (fun d => [.inr (.box 10 (.agg [.val qe d.2.2.1, .val qe d.2.2.2.1, .val qe d.2.2.2.2.1, .val qe d.2.2.2.2.2.1, .val .str d.2.2.2.2.2.2.1, .val .str d.2.2.2.2.2.2.2.1, .val .str d.2.2.2.2.2.2.2.2.1, .val .str d.2.2.2.2.2.2.2.2.2.1, .own 3, .own 4])), .inr (.box 2 (.val qo ((0 : Int), (0 : Int), ()))), .inr (.box 1 (.val qe (0 : Int))), .inr (.tre 53 qh qa d.2.2.2.2.2.2.2.2.2.2.1), .inr (.row 83 qs d.2.2.2.2.2.2.2.2.2.2.2)]) h ?_ ?_ ?_
   ·first | rfl | (simp only [go_sem]; done)
   ·exact zAF
   rintro ⟨k_91, x18_92, s_93, s_94, s_95, s_96, s_97, s_98, s_99, s_100, x_101, x_102⟩ s6 h hs6
   simp only [go_sem]
   try dsimp only at h
   unfold aE5 at h
   refine aB (aF hF [2, 3, 4, 5, 16, 17, 18, 19] ?_)
   simp only [go_sem]
   repeat (refine ⟨zAA, ?_⟩)
   refine aA (aB (bG rfl (fun hc => ?_) (fun hc => ?_)))
   ·try simp only [go_sem] at hc
    have h := eB zAB h
    refine cH (aA (aB (eA (aB (aF hF [2, 3, 4, 5, 6, 7, 16, 17, 18] ?_)))))
    simp only [go_sem]
    obtain ⟨g0, h⟩ := aP h
    repeat (refine ⟨zAA, ?_⟩)
    refine aA (aB (aF hF [2, 3, 4, 5, 6, 7, 16, 17, 18] ?_))
    simp only [go_sem]
    obtain ⟨g0, h⟩ := aP h
    repeat (refine ⟨zAA, ?_⟩)
    refine aA (aB (aR hF [2, 3, 4, 5, 8, 16, 17, 18] ?_))
    simp only [go_sem]
    obtain ⟨g0, h⟩ := aP h
    try simp only [I64, I32] at g0
    repeat (refine ⟨zAA, ?_⟩)
    obtain ⟨g0, h⟩ := aP h
    repeat (refine ⟨zAA, ?_⟩)
    obtain ⟨r_169, he1, h⟩ := bind_some h
    try dsimp only at h
    refine aA (aB (aB (aC hF (aG (l := [(27, ⟨gI F, [5], (((x18_92 + (1 : Int)), (0 : Int), ((lH F (wS ((aEq text_0 (aU ⟨#[10]⟩)).getD (x18_92.toNat) ([] : List Nat)) (aU ⟨#[35]⟩)).1 (aU ⟨#[32]⟩)).getD ([] : List Nat)), ()), r_169)⟩)]) (.cons (lX F) (by kernel_rfl) (.nil))) [2, 3, 4, 5, 8, 16, 17, 18, 37] [] ?_)))
    simp only [go_sem]
    repeat (refine ⟨zAA, ?_⟩)
    refine aA (bG rfl (fun hc => ?_) (fun hc => ?_))
    ·try simp only [go_sem] at hc
     have h := eB zAB h
     refine sI (dY (gL (aA (aF hF [2, 3, 4, 5, 16, 17, 18] ?_))))
     simp only [go_sem]
     obtain ⟨g0, h⟩ := aP h
     try simp only [I64, I32] at g0
     repeat (refine ⟨zAA, ?_⟩)
     obtain rfl := Option.some.inj h
     dsimp only [mX] at hs6
     refine bY (gT [0, 1, 2, 3, 4] rfl rfl ?_)
     simp only [ren, cQ, dB, posOf, bF, go_sem]
     refine bB (k_91, (x18_92 + (1 : Int)), s_93, s_94, s_95, s_96, s_97, s_98, s_99, s_100, x_101, x_102) hs6 rfl ?_
     ·exact zAF
    ·try simp only [go_sem] at hc
     have h := eC zAB h
     refine cH (aA (aB (aB (aF hF [2, 3, 4, 5, 8, 16, 17, 18, 39] ?_))))
     simp only [go_sem]
     repeat (refine ⟨zAA, ?_⟩)
     refine aA (bG rfl (fun hc => ?_) (fun hc => ?_))
     ·try simp only [go_sem] at hc
      have h := eB zAB h
      obtain ⟨e, he2, h⟩ := bind_some h
      rcases e with r_174 | p_175
      ·try dsimp only at h
       refine aC hF (aG (l := [(28, ⟨wX F, [0, 5, 3, 4], (k_91, (s_93, s_94, s_95, s_96, s_97, s_98, s_99, s_100, x_101, x_102, ()), r_169.2, .inl r_174)⟩)]) (.cons (aII F) (by kernel_rfl) (.nil))) [2, 3, 4, 5, 16, 17, 18] [] ?_
       simp only [go_sem]
       repeat (refine ⟨zAD, ?_⟩)
       refine aA (aF hF [2, 3, 4, 5, 16, 17, 18] ?_)
       simp only [go_sem]
       obtain ⟨g0, h⟩ := aP h
       try simp only [I64, I32] at g0
       repeat (refine ⟨zAA, ?_⟩)
       refine bC (aA (aF hF [2, 3, 4, 5, 16, 17, 18] ?_))
       simp only [go_sem]
       obtain ⟨g0, h⟩ := aP h
       try simp only [I64, I32] at g0
       repeat (refine ⟨zAA, ?_⟩)
       obtain rfl := Option.some.inj h
       dsimp only [mX] at hs6
       refine bY (gT [0, 1, 2, 6, 7] rfl rfl ?_)
       simp only [ren, cQ, dB, posOf, bF, go_sem]
       refine bB ((k_91 + (1 : Int)), (x18_92 + (1 : Int)), r_174.1.1, r_174.1.2.1, r_174.1.2.2.1, r_174.1.2.2.2.1, r_174.1.2.2.2.2.1, r_174.1.2.2.2.2.2.1, r_174.1.2.2.2.2.2.2.1, r_174.1.2.2.2.2.2.2.2.1, r_174.1.2.2.2.2.2.2.2.2.1, r_174.1.2.2.2.2.2.2.2.2.2.1) hs6 rfl ?_
       ·exact zAF
      ·try dsimp only at h
       refine aC hF (aG (l := [(28, ⟨wX F, [0, 5, 3, 4], (k_91, (s_93, s_94, s_95, s_96, s_97, s_98, s_99, s_100, x_101, x_102, ()), r_169.2, .inr p_175)⟩)]) (.cons (aII F) (by kernel_rfl) (.nil))) [2, 3, 4, 5, 16, 17, 18] [] ?_
       simp only [go_sem]
       repeat (refine ⟨zAD, ?_⟩)
       obtain rfl := Option.some.inj h
       dsimp only [mX] at hs6
       have h := hs6
       try dsimp only at h
       obtain rfl := Option.some.inj h
       refine aO (bW (aO (aO (bW (aO (aH8 (aL (aJ 0 rfl aH) ?_)))))))
       refine aL (aJ 1 rfl aH) ?_
       refine aL (aJ 2 rfl aH) ?_
       simp only [go_sem]
       refine aCf (fn := Tryz.f11) (k := 3) (l2 := [0, 1, 2]) hF rfl rfl (by decide) rfl (rO (by kernel_rfl)) ⟨eP (p_175), [0, 1, 2], ()⟩ (vF (p_175)) rfl [.cell 2 36, .cell 3 38, .cell 4 3] rfl ?_ ?_
       ·(simp only [eP, go_sem]) <;> first | decide | trivial
       ·(simp only [eP, aS, iQ, go_sem]) <;> first | decide | trivial | rfl | (simp; done)
     ·try simp only [go_sem] at hc
      have h := eC zAB h
      obtain ⟨e, he3, h⟩ := bind_some h
      rcases e with r_176 | p_177
      ·try dsimp only at h
       refine aC hF (aG (l := [(29, ⟨sQ F, [0, 5, 3, 4], ((s_93, s_94, s_95, s_96, s_97, s_98, s_99, s_100, x_101, x_102, ()), r_169.2, .inl r_176)⟩)]) (.cons (aGo F) (by kernel_rfl) (.nil))) [2, 3, 4, 5, 16, 17, 18] [] ?_
       simp only [go_sem]
       repeat (refine ⟨zAD, ?_⟩)
       refine aA (aF hF [2, 3, 4, 5, 16, 17, 18] ?_)
       simp only [go_sem]
       obtain ⟨g0, h⟩ := aP h
       try simp only [I64, I32] at g0
       repeat (refine ⟨zAA, ?_⟩)
       refine bC (aA (aF hF [2, 3, 4, 5, 16, 17, 18] ?_))
       simp only [go_sem]
       obtain ⟨g0, h⟩ := aP h
       try simp only [I64, I32] at g0
       repeat (refine ⟨zAA, ?_⟩)
       obtain rfl := Option.some.inj h
       dsimp only [mX] at hs6
       refine bY (gT [0, 1, 2, 6, 7] rfl rfl ?_)
       simp only [ren, cQ, dB, posOf, bF, go_sem]
       refine bB ((k_91 + (1 : Int)), (x18_92 + (1 : Int)), r_176.1.1, r_176.1.2.1, r_176.1.2.2.1, r_176.1.2.2.2.1, r_176.1.2.2.2.2.1, r_176.1.2.2.2.2.2.1, r_176.1.2.2.2.2.2.2.1, r_176.1.2.2.2.2.2.2.2.1, r_176.1.2.2.2.2.2.2.2.2.1, r_176.1.2.2.2.2.2.2.2.2.2.1) hs6 rfl ?_
       ·exact zAF
      ·try dsimp only at h
       refine aC hF (aG (l := [(29, ⟨sQ F, [0, 5, 3, 4], ((s_93, s_94, s_95, s_96, s_97, s_98, s_99, s_100, x_101, x_102, ()), r_169.2, .inr p_177)⟩)]) (.cons (aGo F) (by kernel_rfl) (.nil))) [2, 3, 4, 5, 16, 17, 18] [] ?_
       simp only [go_sem]
       repeat (refine ⟨zAD, ?_⟩)
       obtain rfl := Option.some.inj h
       dsimp only [mX] at hs6
       have h := hs6
       try dsimp only at h
       obtain rfl := Option.some.inj h
       refine aO (bW (aO (aO (bW (aO (aH8 (aL (aJ 0 rfl aH) ?_)))))))
       refine aL (aJ 1 rfl aH) ?_
       refine aL (aJ 2 rfl aH) ?_
       simp only [go_sem]
       refine aCf (fn := Tryz.f11) (k := 3) (l2 := [0, 1, 2]) hF rfl rfl (by decide) rfl (rO (by kernel_rfl)) ⟨eP (p_177), [0, 1, 2], ()⟩ (vF (p_177)) rfl [.cell 2 36, .cell 3 38, .cell 4 3] rfl ?_ ?_
       ·(simp only [eP, go_sem]) <;> first | decide | trivial
       ·(simp only [eP, aS, iQ, go_sem]) <;> first | decide | trivial | rfl | (simp; done)
   ·try simp only [go_sem] at hc
    have h := eC zAB h
    obtain rfl := Option.some.inj h
    dsimp only [mX] at hs6
    have h := hs6
    try dsimp only at h
    refine sI (dY (dY (gL (bY (bB (k_91, s_93, s_94, s_95, s_96, s_97, s_98, s_99, s_100, x_101, x_102) h rfl ?_)))))
    ·exact zAF
  ·rintro ⟨k_66, s_67, s_68, s_69, s_70, s_71, s_72, s_73, s_74, x_75, x_76⟩ h
   try dsimp only at h
   simp only [go_sem]
   unfold aAT at h
   refine aB (aR hF [2, 3, 4, 5] ?_)
   simp only [go_sem]
   obtain ⟨g0, h⟩ := aP h
   repeat (refine ⟨zAA, ?_⟩)
   refine aA (aB (aB (aF hF [2, 3, 4, 57] ?_)))
   simp only [go_sem]
   obtain ⟨g0, h⟩ := aP h
   repeat (refine ⟨zAE, ?_⟩)
   refine aA (bG rfl (fun hc => ?_) (fun hc => ?_))
   ·try simp only [go_sem] at hc
    have h := eB zAB h
    refine aC hF (aG (l := []) (.nil)) [2, 3, 4] [] ?_
    exact zab
   ·try simp only [go_sem] at hc
    have h := eC zAB h
    refine cH (aA (aB (aR hF [2, 3, 4] ?_)))
    simp only [go_sem]
    repeat (refine ⟨zAA, ?_⟩)
    refine aA (cA (aRd (aUS (aXj 0 (t := qj) (s_67, s_68, s_69, s_70, s_71, s_72, s_73, s_74, x_75, ((jV F (s_67, s_68, s_69, s_70, s_71, s_72, s_73, s_74, x_75, x_76, ())).getD ([] : List qm)), ()) rfl (by first | rfl | (simp only [go_sem]; done)) aH) ?_)))
    simp only [go_sem]
    obtain rfl := Option.some.inj h
    refine aN3 (fn := Tryz.f11) (k := 3) (l2 := [0, 1, 2]) hF rfl rfl (by decide) rfl (rO (by kernel_rfl)) ⟨sR, [0, 1, 2], ((s_67, s_68, s_69, s_70, s_71, s_72, s_73, s_74, x_75, ((jV F (s_67, s_68, s_69, s_70, s_71, s_72, s_73, s_74, x_75, x_76, ())).getD ([] : List qm)), ()), ((0 : Int), (0 : Int), ()), (0 : Int), ())⟩ aL7 rfl [.cell 2 36, .cell 3 38, .cell 4 3] rfl ?_ ?_
    ·(simp only [sR, go_sem]) <;> first | decide | trivial
    ·(simp only [sR, aS, iQ, go_sem]) <;> first | decide | trivial | rfl | (simp; done)
attribute [go_sem] rF
end
end Nu
end Go.Proofs
namespace Go.Proofs
open Go.Vc
set_option maxRecDepth 20000
namespace Nu
noncomputable section
set_option maxHeartbeats 4000000
attribute [-go_sem] Ex.kind Ex.text Ex.l
def pP (F : Md) (a0_0 : (List wd)) (a1_1 : (List wd)) (x13_5 : Int) : Option ((Int) ⊕ ((Unit) ⊕ Bool)) :=
 if x13_5 < (a0_0.length : Int) then ck (0 ≤ x13_5 ∧ x13_5 < (a0_0.length : Int)) (ck (0 ≤ x13_5 ∧ x13_5 < (a1_1.length : Int)) (if ¬ ((Ty.eqb qu (a0_0.getD (x13_5.toNat) ([], ([], [], ()), ())) (a1_1.getD (x13_5.toNat) ([], ([], [], ()), ()))) = true) then some (.inr (.inr false)) else ck (I64 (x13_5 + (1 : Int))) (some (.inl (x13_5 + (1 : Int)))))) else some (.inr (.inl ()))
def jB (F : Md) (a0_0 : (List wd)) (a1_1 : (List wd)) : Option Bool :=
 if ¬ ((a0_0.length : Int) = (a1_1.length : Int)) then some false else (eH F (fun d : Int => pP F a0_0 a1_1 d) (0 : Int)).bind (fun e => match e with | (.inl e) => some true | (.inr e) => some e)
def yS : PlR := ⟨[(0, .A [0, 1]), (1, .A [0, 1, 10]), (2, .A [4]), (3, .A [0, 1, 12, 13]), (4, .A [0, 1, 12, 13, 14]), (5, .A [0, 1, 5, 12, 13]), (6, .A [0, 1, 12, 13, 24]), (7, .A [4]), (8, .A [0, 1, 12, 13]), (9, .A [4])], []⟩
def aAn : Ty := .pair (.sl qu) (.pair (.sl qu) .unit)
def nD (F : Md) : aI := mSpec aAn (.one .bool) (fun x => jB F x.1 x.2.1)
def aF2 (F : Md) : List (FuncId × aI) := []
theorem aF3 [Mx] (F : Md) : bH Tryz.prog GL (aF2 F) := .nil
attribute [go_sem] aAn yS
theorem aE6 [Mx] (F : Md) : FOK Tryz.prog GL 65 (nD F) := by
 refine bS (aT (aF3 F)) mix Tryz.func65 rfl (by kernel_rfl) (by decide) yS fun w0 S x Θ hw h hF => ?_
 obtain ⟨(a0_0 : (List wd)), (a1_1 : (List wd)), u⟩ := x
 simp only [bX, go_sem]
 replace h : sat (jB F a0_0 a1_1) _ := h
 unfold jB at h
 refine fC h (fun hc h => ?_) fun hc h => ?_
 ·exact aK hF [.tmp 4] rfl rfl rfl (aE h) (by simp only [aS, go_sem])
 ·refine cI hF (D := Int) [0, 1, 12] (fun d => [(13, .val qe d)]) (fun d => []) h rfl (by simp only [go_sem]) ?_
  rintro x13_5 A4 T4 hA4 hE4 h
  simp only [go_sem]
  replace h : sat (pP F a0_0 a1_1 x13_5) _ := h
  unfold pP at h
  exact zae
attribute [go_sem] nD
def qM (F : Md) (a0_0 : qv) (a1_1 : qv) (x13_5 : Int) : Option ((Int) ⊕ ((Unit) ⊕ Bool)) :=
 if x13_5 < (a0_0.length : Int) then ck (0 ≤ x13_5 ∧ x13_5 < (a0_0.length : Int)) (ck (0 ≤ x13_5 ∧ x13_5 < (a1_1.length : Int)) (if ¬ ((a0_0.getD (x13_5.toNat) ([] : List Nat)) = (a1_1.getD (x13_5.toNat) ([] : List Nat))) then some (.inr (.inr false)) else ck (I64 (x13_5 + (1 : Int))) (some (.inl (x13_5 + (1 : Int)))))) else some (.inr (.inl ()))
def lT (F : Md) (a0_0 : qv) (a1_1 : qv) : Option Bool :=
 if ¬ ((a0_0.length : Int) = (a1_1.length : Int)) then some false else (eH F (fun d : Int => qM F a0_0 a1_1 d) (0 : Int)).bind (fun e => match e with | (.inl e) => some true | (.inr e) => some e)
def aAo : PlR := ⟨[(0, .A [0, 1]), (1, .A [0, 1, 10]), (2, .A [4]), (3, .A [0, 1, 12, 13]), (4, .A [0, 1, 12, 13, 14]), (5, .A [0, 1, 5, 12, 13]), (6, .A [0, 1, 12, 13, 24]), (7, .A [4]), (8, .A [0, 1, 12, 13]), (9, .A [4])], []⟩
def aAH : Ty := .pair wg (.pair wg .unit)
def oE (F : Md) : aI := mSpec aAH (.one .bool) (fun x => lT F x.1 x.2.1)
def aGG (F : Md) : List (FuncId × aI) := []
theorem aGH [Mx] (F : Md) : bH Tryz.prog GL (aGG F) := .nil
attribute [go_sem] aAH aAo
theorem aF4 [Mx] (F : Md) : FOK Tryz.prog GL 66 (oE F) := by
 refine bS (aT (aGH F)) mix Tryz.func66 rfl (by kernel_rfl) (by decide) aAo fun w0 S x Θ hw h hF => ?_
 obtain ⟨(a0_0 : qv), (a1_1 : qv), u⟩ := x
 simp only [bX, go_sem]
 replace h : sat (lT F a0_0 a1_1) _ := h
 unfold lT at h
 refine fC h (fun hc h => ?_) fun hc h => ?_
 ·exact aK hF [.tmp 4] rfl rfl rfl (aE h) (by simp only [aS, go_sem])
 ·refine cI hF (D := Int) [0, 1, 12] (fun d => [(13, .val qe d)]) (fun d => []) h rfl (by simp only [go_sem]) ?_
  rintro x13_5 A4 T4 hA4 hE4 h
  simp only [go_sem]
  replace h : sat (qM F a0_0 a1_1 x13_5) _ := h
  unfold qM at h
  refine fN h (fun hc h => ?_) fun hc h => ?_
  ·refine aZ h fun g0 h => aZ h fun g1 h => ?_
   refine fC h (fun hc h => ?_) fun hc h => ?_
   ·replace h := hE4 _ (aE h)
    exact zan
   ·refine aZ h fun g0 h => ?_
    replace h := hA4 _ (aE h)
    exact zaO
  ·replace h := hE4 _ (aE h)
   exact zan
attribute [go_sem] oE
def oZ (F : Md) (a0_0 : wc) (a1_1 : wc) (x13_5 : Int) : Option ((Int) ⊕ ((Unit) ⊕ Bool)) :=
 if x13_5 < (a0_0.length : Int) then ck (0 ≤ x13_5 ∧ x13_5 < (a0_0.length : Int)) (ck (0 ≤ x13_5 ∧ x13_5 < (a1_1.length : Int)) (if ¬ ((Ty.eqb qs (a0_0.getD (x13_5.toNat) ([], [], [], [], ())) (a1_1.getD (x13_5.toNat) ([], [], [], [], ()))) = true) then some (.inr (.inr false)) else ck (I64 (x13_5 + (1 : Int))) (some (.inl (x13_5 + (1 : Int)))))) else some (.inr (.inl ()))
def kM (F : Md) (a0_0 : wc) (a1_1 : wc) : Option Bool :=
 if ¬ ((a0_0.length : Int) = (a1_1.length : Int)) then some false else (eH F (fun d : Int => oZ F a0_0 a1_1 d) (0 : Int)).bind (fun e => match e with | (.inl e) => some true | (.inr e) => some e)
def xA : PlR := ⟨[(0, .A [0, 1]), (1, .A [0, 1, 10]), (2, .A [4]), (3, .A [0, 1, 12, 13]), (4, .A [0, 1, 12, 13, 14]), (5, .A [0, 1, 5, 12, 13]), (6, .A [0, 1, 12, 13, 24]), (7, .A [4]), (8, .A [0, 1, 12, 13]), (9, .A [4])], []⟩
def yT : Ty := .pair (.sl qs) (.pair (.sl qs) .unit)
def mG (F : Md) : aI := mSpec yT (.one .bool) (fun x => kM F x.1 x.2.1)
def aE7 (F : Md) : List (FuncId × aI) := []
theorem aE8 [Mx] (F : Md) : bH Tryz.prog GL (aE7 F) := .nil
attribute [go_sem] yT xA
theorem aEw [Mx] (F : Md) : FOK Tryz.prog GL 33 (mG F) := by
 refine bS (aT (aE8 F)) mix Tryz.func33 rfl (by kernel_rfl) (by decide) xA fun w0 S x Θ hw h hF => ?_
 obtain ⟨(a0_0 : wc), (a1_1 : wc), u⟩ := x
 simp only [bX, go_sem]
 replace h : sat (kM F a0_0 a1_1) _ := h
 unfold kM at h
 refine fC h (fun hc h => ?_) fun hc h => ?_
 ·exact aK hF [.tmp 4] rfl rfl rfl (aE h) (by simp only [aS, go_sem])
 ·refine cI hF (D := Int) [0, 1, 12] (fun d => [(13, .val qe d)]) (fun d => []) h rfl (by simp only [go_sem]) ?_
  rintro x13_5 A4 T4 hA4 hE4 h
  simp only [go_sem]
  replace h : sat (oZ F a0_0 a1_1 x13_5) _ := h
  unfold oZ at h
  exact zae
attribute [go_sem] mG
@[go_sem]def vG : Ty := .pair .expr (.pair .expr .unit)
def lF (g : Ex → Ex → Option (Bool)) : aI := mSpec vG (.one .bool) (fun x => g x.1 x.2.1)
attribute [go_sem] lF
def cP (F : Md) (g : Ex → Ex → Option (Bool)) (a0_0 : wx) (a1_1 : wx) (x17_15 : Int) : Option ((Int) ⊕ ((Unit) ⊕ Bool)) :=
 if x17_15 < (a0_0.length : Int) then ck (0 ≤ x17_15 ∧ x17_15 < (a0_0.length : Int)) (ck (0 ≤ x17_15 ∧ x17_15 < (a1_1.length : Int)) ((g (a0_0.getD (x17_15.toNat) (Ex.mk 0 [] [])) (a1_1.getD (x17_15.toNat) (Ex.mk 0 [] []))).bind (fun v_28 => if ¬ (v_28 = true) then some (.inr (.inr false)) else ck (I64 (x17_15 + (1 : Int))) (some (.inl (x17_15 + (1 : Int))))))) else some (.inr (.inl ()))
def bP (F : Md) (g : Ex → Ex → Option (Bool)) (a0_0 : wx) (a1_1 : wx) (eq_2 : Unit) : Option Bool :=
 if ¬ ((a0_0.length : Int) = (a1_1.length : Int)) then some false else (eH F (fun d : Int => cP F g a0_0 a1_1 d) (0 : Int)).bind (fun e => match e with | (.inl e) => some true | (.inr e) => some e)
def eI : PlR := ⟨[(0, .A [0, 1, 2]), (1, .A [0, 1, 2, 14]), (2, .A [6]), (3, .A [1, 2, 15, 16, 17]), (4, .A [1, 2, 15, 16, 17, 18]), (5, .B [1, 2, 7, 8, 15, 16, 17]), (6, .B [1, 2, 8, 9, 15, 16, 17]), (7, .A [1, 2, 15, 16, 17, 30]), (8, .A [6]), (9, .A [1, 2, 15, 16, 17]), (10, .A [6])], []⟩
def eJ : Ty := .pair (.sl .expr) (.pair (.sl .expr) (.pair (.clo 62 .unit) .unit))
def bZ (F : Md) (g : Ex → Ex → Option (Bool)) : aI := mSpec eJ (.one .bool) (fun x => bP F g x.1 x.2.1 x.2.2.1)
def eK (F : Md) (g : Ex → Ex → Option (Bool)) : List (FuncId × aI) := [(62, (lF g))]
theorem jK [Mx] (F : Md) (g : Ex → Ex → Option (Bool)) (hg : FOK Tryz.prog GL 62 (lF g)) : bH Tryz.prog GL (eK F g) := .cons hg (by kernel_rfl) (.nil)
theorem jC (F : Md) (g : Ex → Ex → Option (Bool)) : gam (eK F g) 62 = some (lF g) := rfl
attribute [go_sem] eJ eI jC
theorem jH [Mx] (F : Md) (g : Ex → Ex → Option (Bool)) (hg : FOK Tryz.prog GL 62 (lF g)) : FOK Tryz.prog GL 101 (bZ F g) := by
 refine bS (aT (jK F g hg)) mix Tryz.func101 rfl (by kernel_rfl) (by decide) eI fun w0 S x Θ hw h hF => ?_
 obtain ⟨(a0_0 : wx), (a1_1 : wx), (eq_2 : Unit), u⟩ := x
 simp only [bX, go_sem]
 replace h : sat (bP F g a0_0 a1_1 eq_2) _ := h
 unfold bP at h
 refine fC h (fun hc h => ?_) fun hc h => ?_
 ·exact aK hF [.tmp 6] rfl rfl rfl (aE h) (by simp only [aS, go_sem])
 ·refine cI hF (D := Int) [1, 2, 15, 16] (fun d => [(17, .val qe d)]) (fun d => []) h rfl (by simp only [go_sem]) ?_
  rintro x17_15 A4 T4 hA4 hE4 h
  simp only [go_sem]
  replace h : sat (cP F g a0_0 a1_1 x17_15) _ := h
  unfold cP at h
  exact zaF
attribute [go_sem] bZ
def sC (F : Md) (g : Ex → Ex → Option (Bool)) (a_0 : Ex) (b_1 : Ex) : Option Bool :=
 ck ((((a_0.kind) = (b_1.kind)) ∧ ((a_0.text) = (b_1.text))) → ((bP F g (a_0.l) (b_1.l) ()).isSome = true)) (some (((decide ((a_0.kind) = (b_1.kind))) && (decide ((a_0.text) = (b_1.text)))) && ((bP F g (a_0.l) (b_1.l) ()).getD false)))
def aD8 : PlR := ⟨[(0, .B [2, 3]), (1, .A [4])], []⟩
def aE9 (F : Md) (g : Ex → Ex → Option (Bool)) : List (FuncId × aI) := [(101, (bZ F g))]
theorem aMd [Mx] (F : Md) (g : Ex → Ex → Option (Bool)) (hg : FOK Tryz.prog GL 62 (lF g)) : bH Tryz.prog GL (aE9 F g) := .cons (jH F g hg) (by kernel_rfl) (.nil)
theorem aHO (F : Md) (g : Ex → Ex → Option (Bool)) : gam (aE9 F g) 101 = some (bZ F g) := rfl
attribute [go_sem] aD8 aHO
theorem aJn [Mx] (F : Md) (g : Ex → Ex → Option (Bool)) (hg : FOK Tryz.prog GL 62 (lF g)) : FOK Tryz.prog GL 62 (mSpec vG (.one .bool) (fun x => sC F g x.1 x.2.1)) := by
 refine bS (aT (aMd F g hg)) mix Tryz.func62 rfl (by kernel_rfl) (by decide) aD8 fun w0 S x Θ hw h hF => ?_
 obtain ⟨(a_0 : Ex), (b_1 : Ex), u⟩ := x
 simp only [bX, go_sem]
 replace h : sat (sC F g a_0 b_1) _ := h
 unfold sC at h
 refine aZ h fun g0 h => ?_
 exact zaD
def oN (F : Md) : Nat → Ex → Ex → Option (Bool)
 | 0 => fun _ _ => none
 | n + 1 => sC F (oN F n)
def nE (F : Md) (n : Nat) : aI := mSpec vG (.one .bool) (fun x => oN F n x.1 x.2.1)
theorem aAp [Mx] (F : Md) : ∀ n, FOK Tryz.prog GL 62 (nE F n)
 | 0 => fun _ _ _ _ _ _ _ hp => Bool.noConfusion (show false = true from hp)
 | n + 1 => aJn F _ (aAp F n)
attribute [go_sem] nE
end
end Nu
end Go.Proofs
namespace Go.Proofs
open Go.Vc
set_option maxRecDepth 20000
namespace Nu
noncomputable section
set_option maxHeartbeats 4000000
attribute [-go_sem] Ex.kind Ex.text Ex.l
def tM (F : Md) (x_0 : wa) (y_1 : wa) : Option Bool :=
 ck (((x_0.1 = y_1.1) ∧ ((Ty.eqb qg x_0.2.1 y_1.2.1) = true)) → ((oN F 64 x_0.2.2.1 y_1.2.2.1).isSome = true)) (some (((decide (x_0.1 = y_1.1)) && (Ty.eqb qg x_0.2.1 y_1.2.1)) && ((oN F 64 x_0.2.2.1 y_1.2.2.1).getD false)))
@[go_sem]def tN : Ty := .pair qq (.pair qq .unit)
def sD (F : Md) : aI := mSpec tN (.one .bool) (fun x => tM F x.1 x.2.1)
def aAq (F : Md) : List (FuncId × aI) := [(62, (nE F 64))]
theorem aD9 [Mx] (F : Md) : bH Tryz.prog GL (aAq F) := .cons (aAp F 64) (by kernel_rfl) (.nil)
@[go_sem]theorem aHP (F : Md) : gam (aAq F) 62 = some (nE F 64) := rfl
theorem aJo [Mx] (F : Md) : FOK Tryz.prog GL 61 (sD F) := by
 refine qW (aT (aD9 F)) Tryz.func61 rfl (by kernel_rfl) (by decide) fun w0 S x r hw h => ?_
 have hF : fT (fr Tryz.prog (EM (aAq F)) S w0 Tryz.f61.ntmps) := ⟨aT (aD9 F), mix⟩
 obtain ⟨(x_0 : wa), (y_1 : wa), u⟩ := x
 simp only [tN, Ty.wf, eR] at hw
 simp only [bX, tN]
 try dsimp only at h
 replace h : tM F x_0 y_1 = some r := h
 unfold tM at h
 refine aB (aR hF [2, 3] ?_)
 simp only [go_sem]
 refine aA (aB (aF hF [4] ?_))
 exact zbA
attribute [go_sem] sD
def cM (F : Md) (a0_0 : (List wa)) (a1_1 : (List wa)) (x17_15 : Int) : Option ((Int) ⊕ ((Unit) ⊕ Bool)) :=
 if x17_15 < (a0_0.length : Int) then ck (0 ≤ x17_15 ∧ x17_15 < (a0_0.length : Int)) (ck (0 ≤ x17_15 ∧ x17_15 < (a1_1.length : Int)) ((tM F (a0_0.getD (x17_15.toNat) ([], ([], [], ()), (Ex.mk 0 [] []), ())) (a1_1.getD (x17_15.toNat) ([], ([], [], ()), (Ex.mk 0 [] []), ()))).bind (fun v_28 => if ¬ (v_28 = true) then some (.inr (.inr false)) else ck (I64 (x17_15 + (1 : Int))) (some (.inl (x17_15 + (1 : Int))))))) else some (.inr (.inl ()))
def bV (F : Md) (a0_0 : (List wa)) (a1_1 : (List wa)) (eq_2 : Unit) : Option Bool :=
 if ¬ ((a0_0.length : Int) = (a1_1.length : Int)) then some false else (eH F (fun d : Int => cM F a0_0 a1_1 d) (0 : Int)).bind (fun e => match e with | (.inl e) => some true | (.inr e) => some e)
def dZ : PlR := ⟨[(0, .A [0, 1, 2]), (1, .A [0, 1, 2, 14]), (2, .A [6]), (3, .A [1, 2, 15, 16, 17]), (4, .A [1, 2, 15, 16, 17, 18]), (5, .B [1, 2, 7, 8, 15, 16, 17]), (6, .B [1, 2, 8, 9, 15, 16, 17]), (7, .A [1, 2, 15, 16, 17, 30]), (8, .A [6]), (9, .A [1, 2, 15, 16, 17]), (10, .A [6])], []⟩
def eD : Ty := .pair (.sl qq) (.pair (.sl qq) (.pair (.clo 61 .unit) .unit))
def bT (F : Md) : aI := mSpec eD (.one .bool) (fun x => bV F x.1 x.2.1 x.2.2.1)
def eE (F : Md) : List (FuncId × aI) := [(61, (sD F))]
theorem iO [Mx] (F : Md) : bH Tryz.prog GL (eE F) := .cons (aJo F) (by kernel_rfl) (.nil)
theorem hU (F : Md) : gam (eE F) 61 = some (sD F) := rfl
attribute [go_sem] eD dZ hU
theorem iD [Mx] (F : Md) : FOK Tryz.prog GL 60 (bT F) := by
 refine bS (aT (iO F)) mix Tryz.func60 rfl (by kernel_rfl) (by decide) dZ fun w0 S x Θ hw h hF => ?_
 obtain ⟨(a0_0 : (List wa)), (a1_1 : (List wa)), (eq_2 : Unit), u⟩ := x
 simp only [bX, go_sem]
 replace h : sat (bV F a0_0 a1_1 eq_2) _ := h
 unfold bV at h
 refine fC h (fun hc h => ?_) fun hc h => ?_
 ·exact aK hF [.tmp 6] rfl rfl rfl (aE h) (by simp only [aS, go_sem])
 ·refine cI hF (D := Int) [1, 2, 15, 16] (fun d => [(17, .val qe d)]) (fun d => []) h rfl (by simp only [go_sem]) ?_
  rintro x17_15 A4 T4 hA4 hE4 h
  simp only [go_sem]
  replace h : sat (cM F a0_0 a1_1 x17_15) _ := h
  unfold cM at h
  exact zaF
attribute [go_sem] bT
def tO (F : Md) (x_0 : qz) (y_1 : qz) : Option Bool :=
 ck ((x_0.1 = y_1.1) → ((oN F 64 x_0.2.1 y_1.2.1).isSome = true)) (some ((decide (x_0.1 = y_1.1)) && ((oN F 64 x_0.2.1 y_1.2.1).getD false)))
def aDt : PlR := ⟨[(0, .B [2, 3]), (1, .A [4])], []⟩
def aEa : Ty := .pair qr (.pair qr .unit)
def sE (F : Md) : aI := mSpec aEa (.one .bool) (fun x => tO F x.1 x.2.1)
def aEb (F : Md) : List (FuncId × aI) := [(62, (nE F 64))]
theorem aKX [Mx] (F : Md) : bH Tryz.prog GL (aEb F) := .cons (aAp F 64) (by kernel_rfl) (.nil)
theorem aHQ (F : Md) : gam (aEb F) 62 = some (nE F 64) := rfl
attribute [go_sem] aEa aDt aHQ
theorem aJp [Mx] (F : Md) : FOK Tryz.prog GL 64 (sE F) := by
 refine bS (aT (aKX F)) mix Tryz.func64 rfl (by kernel_rfl) (by decide) aDt fun w0 S x Θ hw h hF => ?_
 obtain ⟨(x_0 : qz), (y_1 : qz), u⟩ := x
 simp only [bX, go_sem]
 replace h : sat (tO F x_0 y_1) _ := h
 unfold tO at h
 refine aZ h fun g0 h => ?_
 exact zaD
attribute [go_sem] sE
def cS (F : Md) (a0_0 : wt) (a1_1 : wt) (x17_15 : Int) : Option ((Int) ⊕ ((Unit) ⊕ Bool)) :=
 if x17_15 < (a0_0.length : Int) then ck (0 ≤ x17_15 ∧ x17_15 < (a0_0.length : Int)) (ck (0 ≤ x17_15 ∧ x17_15 < (a1_1.length : Int)) ((tO F (a0_0.getD (x17_15.toNat) ([], (Ex.mk 0 [] []), ())) (a1_1.getD (x17_15.toNat) ([], (Ex.mk 0 [] []), ()))).bind (fun v_28 => if ¬ (v_28 = true) then some (.inr (.inr false)) else ck (I64 (x17_15 + (1 : Int))) (some (.inl (x17_15 + (1 : Int))))))) else some (.inr (.inl ()))
def cF (F : Md) (a0_0 : wt) (a1_1 : wt) (eq_2 : Unit) : Option Bool :=
 if ¬ ((a0_0.length : Int) = (a1_1.length : Int)) then some false else (eH F (fun d : Int => cS F a0_0 a1_1 d) (0 : Int)).bind (fun e => match e with | (.inl e) => some true | (.inr e) => some e)
def eQ : PlR := ⟨[(0, .A [0, 1, 2]), (1, .A [0, 1, 2, 14]), (2, .A [6]), (3, .A [1, 2, 15, 16, 17]), (4, .A [1, 2, 15, 16, 17, 18]), (5, .B [1, 2, 7, 8, 15, 16, 17]), (6, .B [1, 2, 8, 9, 15, 16, 17]), (7, .A [1, 2, 15, 16, 17, 30]), (8, .A [6]), (9, .A [1, 2, 15, 16, 17]), (10, .A [6])], []⟩
def eU : Ty := .pair (.sl qr) (.pair (.sl qr) (.pair (.clo 64 .unit) .unit))
def cB (F : Md) : aI := mSpec eU (.one .bool) (fun x => cF F x.1 x.2.1 x.2.2.1)
def eV (F : Md) : List (FuncId × aI) := [(64, (sE F))]
theorem kE [Mx] (F : Md) : bH Tryz.prog GL (eV F) := .cons (aJp F) (by kernel_rfl) (.nil)
theorem jL (F : Md) : gam (eV F) 64 = some (sE F) := rfl
attribute [go_sem] eU eQ jL
theorem jW [Mx] (F : Md) : FOK Tryz.prog GL 63 (cB F) := by
 refine bS (aT (kE F)) mix Tryz.func63 rfl (by kernel_rfl) (by decide) eQ fun w0 S x Θ hw h hF => ?_
 obtain ⟨(a0_0 : wt), (a1_1 : wt), (eq_2 : Unit), u⟩ := x
 simp only [bX, go_sem]
 replace h : sat (cF F a0_0 a1_1 eq_2) _ := h
 unfold cF at h
 refine fC h (fun hc h => ?_) fun hc h => ?_
 ·exact aK hF [.tmp 6] rfl rfl rfl (aE h) (by simp only [aS, go_sem])
 ·refine cI hF (D := Int) [1, 2, 15, 16] (fun d => [(17, .val qe d)]) (fun d => []) h rfl (by simp only [go_sem]) ?_
  rintro x17_15 A4 T4 hA4 hE4 h
  simp only [go_sem]
  replace h : sat (cS F a0_0 a1_1 x17_15) _ := h
  unfold cS at h
  exact zaF
attribute [go_sem] cB
def xP (F : Md) (a_0 : qc) (b_1 : qc) : Option Bool :=
 (bV F a_0.2.1 b_1.2.1 ()).bind (fun v_8 => (cF F a_0.2.2.2.2.1 b_1.2.2.2.2.1 ()).bind (fun v_14 => ck ((((v_8 = true) ∧ (v_14 = true)) ∧ (a_0.1 = b_1.1)) → ((jB F a_0.2.2.1 b_1.2.2.1).isSome = true)) (ck (((((v_8 = true) ∧ (v_14 = true)) ∧ (a_0.1 = b_1.1)) ∧ (((jB F a_0.2.2.1 b_1.2.2.1).getD false) = true)) → ((lT F a_0.2.2.2.1 b_1.2.2.2.1).isSome = true)) (some ((((v_8 && v_14) && (decide (a_0.1 = b_1.1))) && ((jB F a_0.2.2.1 b_1.2.2.1).getD false)) && ((lT F a_0.2.2.2.1 b_1.2.2.2.1).getD false))))))
def aFa : PlR := ⟨[(0, .B [2, 3]), (1, .A [2, 3, 5]), (2, .A [2, 3, 5, 6]), (3, .A [4])], []⟩
def aGs : Ty := .pair qa (.pair qa .unit)
def vH (F : Md) : aI := mSpec aGs (.one .bool) (fun x => xP F x.1 x.2.1)
def sS (F : Md) : List (FuncId × aI) := [(60, (bT F)), (63, (cB F)), (65, (nD F)), (66, (oE F))]
theorem aNO [Mx] (F : Md) : bH Tryz.prog GL (sS F) := .cons (iD F) (by kernel_rfl) (.cons (jW F) (by kernel_rfl) (.cons (aE6 F) (by kernel_rfl) (.cons (aF4 F) (by kernel_rfl) (.nil))))
theorem aJq (F : Md) : gam (sS F) 60 = some (bT F) := rfl
theorem aJr (F : Md) : gam (sS F) 63 = some (cB F) := rfl
theorem aJs (F : Md) : gam (sS F) 65 = some (nD F) := rfl
theorem aJt (F : Md) : gam (sS F) 66 = some (oE F) := rfl
attribute [go_sem] aGs aFa aJq aJr aJs aJt
theorem aMe [Mx] (F : Md) : FOK Tryz.prog GL 32 (vH F) := by
 refine bS (aT (aNO F)) mix Tryz.func32 rfl (by kernel_rfl) (by decide) aFa fun w0 S x Θ hw h hF => ?_
 obtain ⟨(a_0 : qc), (b_1 : qc), u⟩ := x
 simp only [bX, go_sem]
 replace h : sat (xP F a_0 b_1) _ := h
 unfold xP at h
 obtain ⟨v_8, hv, h⟩ := aN h
 try simp only [hv, go_sem]
 obtain ⟨v_14, hv, h⟩ := aN h
 try simp only [hv, go_sem]
 refine aZ h fun g0 h => aZ h fun g1 h => ?_
 exact zaD
attribute [go_sem] vH
def cV (F : Md) (a0_0 : wu) (a1_1 : wu) (x17_15 : Int) : Option ((Int) ⊕ ((Unit) ⊕ Bool)) :=
 if x17_15 < (a0_0.length : Int) then ck (0 ≤ x17_15 ∧ x17_15 < (a0_0.length : Int)) (ck (0 ≤ x17_15 ∧ x17_15 < (a1_1.length : Int)) ((xP F (a0_0.getD (x17_15.toNat) ([], [], [], [], [], ())) (a1_1.getD (x17_15.toNat) ([], [], [], [], [], ()))).bind (fun v_28 => if ¬ (v_28 = true) then some (.inr (.inr false)) else ck (I64 (x17_15 + (1 : Int))) (some (.inl (x17_15 + (1 : Int))))))) else some (.inr (.inl ()))
def bL (F : Md) (a0_0 : wu) (a1_1 : wu) (eq_2 : Unit) : Option Bool :=
 if ¬ ((a0_0.length : Int) = (a1_1.length : Int)) then some false else (eH F (fun d : Int => cV F a0_0 a1_1 d) (0 : Int)).bind (fun e => match e with | (.inl e) => some true | (.inr e) => some e)
def eZ : PlR := ⟨[(0, .A [0, 1, 2]), (1, .A [0, 1, 2, 14]), (2, .A [6]), (3, .A [1, 2, 15, 16, 17]), (4, .A [1, 2, 15, 16, 17, 18]), (5, .B [1, 2, 7, 8, 15, 16, 17]), (6, .B [1, 2, 8, 9, 15, 16, 17]), (7, .A [1, 2, 15, 16, 17, 30]), (8, .A [6]), (9, .A [1, 2, 15, 16, 17]), (10, .A [6])], []⟩
def fA : Ty := .pair (.sl qa) (.pair (.sl qa) (.pair (.clo 32 .unit) .unit))
def cG (F : Md) : aI := mSpec fA (.one .bool) (fun x => bL F x.1 x.2.1 x.2.2.1)
def fB (F : Md) : List (FuncId × aI) := [(32, (vH F))]
theorem kR [Mx] (F : Md) : bH Tryz.prog GL (fB F) := .cons (aMe F) (by kernel_rfl) (.nil)
theorem jX (F : Md) : gam (fB F) 32 = some (vH F) := rfl
attribute [go_sem] fA eZ jX
theorem kN [Mx] (F : Md) : FOK Tryz.prog GL 31 (cG F) := by
 refine bS (aT (kR F)) mix Tryz.func31 rfl (by kernel_rfl) (by decide) eZ fun w0 S x Θ hw h hF => ?_
 obtain ⟨(a0_0 : wu), (a1_1 : wu), (eq_2 : Unit), u⟩ := x
 simp only [bX, go_sem]
 replace h : sat (bL F a0_0 a1_1 eq_2) _ := h
 unfold bL at h
 refine fC h (fun hc h => ?_) fun hc h => ?_
 ·exact aK hF [.tmp 6] rfl rfl rfl (aE h) (by simp only [aS, go_sem])
 ·refine cI hF (D := Int) [1, 2, 15, 16] (fun d => [(17, .val qe d)]) (fun d => []) h rfl (by simp only [go_sem]) ?_
  rintro x17_15 A4 T4 hA4 hE4 h
  simp only [go_sem]
  replace h : sat (cV F a0_0 a1_1 x17_15) _ := h
  unfold cV at h
  exact zaF
attribute [go_sem] cG
def vI (F : Md) (a_0 : qf) (b_1 : qf) : Option Bool :=
 ck (((((((((a_0.1 = b_1.1) ∧ (a_0.2.1 = b_1.2.1)) ∧ (a_0.2.2.1 = b_1.2.2.1)) ∧ (a_0.2.2.2.1 = b_1.2.2.2.1)) ∧ (a_0.2.2.2.2.1 = b_1.2.2.2.2.1)) ∧ (a_0.2.2.2.2.2.1 = b_1.2.2.2.2.2.1)) ∧ (a_0.2.2.2.2.2.2.1 = b_1.2.2.2.2.2.2.1)) ∧ (a_0.2.2.2.2.2.2.2.1 = b_1.2.2.2.2.2.2.2.1)) → ((bL F a_0.2.2.2.2.2.2.2.2.1 b_1.2.2.2.2.2.2.2.2.1 ()).isSome = true)) (ck ((((((((((a_0.1 = b_1.1) ∧ (a_0.2.1 = b_1.2.1)) ∧ (a_0.2.2.1 = b_1.2.2.1)) ∧ (a_0.2.2.2.1 = b_1.2.2.2.1)) ∧ (a_0.2.2.2.2.1 = b_1.2.2.2.2.1)) ∧ (a_0.2.2.2.2.2.1 = b_1.2.2.2.2.2.1)) ∧ (a_0.2.2.2.2.2.2.1 = b_1.2.2.2.2.2.2.1)) ∧ (a_0.2.2.2.2.2.2.2.1 = b_1.2.2.2.2.2.2.2.1)) ∧ (((bL F a_0.2.2.2.2.2.2.2.2.1 b_1.2.2.2.2.2.2.2.2.1 ()).getD false) = true)) → ((kM F a_0.2.2.2.2.2.2.2.2.2.1 b_1.2.2.2.2.2.2.2.2.2.1).isSome = true)) (some ((((((((((decide (a_0.1 = b_1.1)) && (decide (a_0.2.1 = b_1.2.1))) && (decide (a_0.2.2.1 = b_1.2.2.1))) && (decide (a_0.2.2.2.1 = b_1.2.2.2.1))) && (decide (a_0.2.2.2.2.1 = b_1.2.2.2.2.1))) && (decide (a_0.2.2.2.2.2.1 = b_1.2.2.2.2.2.1))) && (decide (a_0.2.2.2.2.2.2.1 = b_1.2.2.2.2.2.2.1))) && (decide (a_0.2.2.2.2.2.2.2.1 = b_1.2.2.2.2.2.2.2.1))) && ((bL F a_0.2.2.2.2.2.2.2.2.1 b_1.2.2.2.2.2.2.2.2.1 ()).getD false)) && ((kM F a_0.2.2.2.2.2.2.2.2.2.1 b_1.2.2.2.2.2.2.2.2.2.1).getD false))))
def aIM : PlR := ⟨[(0, .B [2, 3]), (1, .A [2, 3, 5]), (2, .A [4])], []⟩
def aKY : Ty := .pair qj (.pair qj .unit)
def aBa (F : Md) : aI := mSpec aKY (.one .bool) (fun x => vI F x.1 x.2.1)
def aF5 (F : Md) : List (FuncId × aI) := [(31, (cG F)), (33, (mG F))]
theorem aRI [Mx] (F : Md) : bH Tryz.prog GL (aF5 F) := .cons (kN F) (by kernel_rfl) (.cons (aEw F) (by kernel_rfl) (.nil))
theorem aNP (F : Md) : gam (aF5 F) 31 = some (cG F) := rfl
theorem aNQ (F : Md) : gam (aF5 F) 33 = some (mG F) := rfl
attribute [go_sem] aKY aIM aNP aNQ
theorem aQf [Mx] (F : Md) : FOK Tryz.prog GL 12 (aBa F) := by
 refine bS (aT (aRI F)) mix Tryz.func12 rfl (by kernel_rfl) (by decide) aIM fun w0 S x Θ hw h hF => ?_
 obtain ⟨(a_0 : qf), (b_1 : qf), u⟩ := x
 simp only [bX, go_sem]
 replace h : sat (vI F a_0 b_1) _ := h
 unfold vI at h
 refine aZ h fun g0 h => aZ h fun g1 h => ?_
 exact zaD
attribute [go_sem] aBa
end
end Nu
end Go.Proofs
namespace Go.Proofs
open Go.Vc
set_option maxRecDepth 20000
namespace Nu
attribute [-go_sem] Ex.kind Ex.text Ex.l
end Nu
end Go.Proofs
namespace Go.Proofs
open Go.Vc
set_option maxRecDepth 20000
namespace Nu
noncomputable section
set_option maxHeartbeats 4000000
def aPH : ByteArray := ⟨⟨112 :: 114 :: 101 :: 99 :: 32 :: 54 :: 52 :: 10 :: 101 :: 110 :: 100 :: 32 :: 48 :: 46 :: 50 :: 53 :: 10 :: 115 :: 116 :: 101 :: 112 :: 32 :: 48 :: 46 :: 48 :: 54 :: 50 :: 53 :: 32 :: 48 :: 46 :: 48 :: 48 :: 48 :: 57 :: 55 :: 54 :: 53 :: 54 :: 50 :: 53 :: 10 :: 116 :: 111 :: 108 :: 32 :: 49 :: 10 :: 116 :: 114 :: 105 :: 101 :: 115 :: 32 :: 56 :: 10 :: 111 :: 114 :: 100 :: 101 :: 114 :: 32 :: 48 :: 10 :: 106 :: 97 :: 99 :: 111 :: 98 :: 105 :: 10 :: 115 :: 117 :: 98 :: 32 :: 112 :: 114 :: 101 :: 121 :: 10 :: 115 :: 116 :: 97 :: 116 :: 101 :: 32 :: 120 :: 32 :: 61 :: 32 :: 49 :: 32 :: 100 :: 101 :: 114 :: 32 :: 120 :: 32 :: 45 :: 32 :: 120 :: 32 :: 42 :: 32 :: 121 :: 10 :: 105 :: 110 :: 32 :: 121 :: 10 :: 111 :: 117 :: 116 :: 32 :: 111 :: 120 :: 32 :: 61 :: 32 :: 120 :: 10 :: 115 :: 117 :: 98 :: 32 :: 104 :: 117 :: 110 :: 116 :: 101 :: 114 :: 115 :: 10 :: 115 :: 116 :: 97 :: 116 :: 101 :: 32 :: 121 :: 32 :: 61 :: 32 :: 48 :: 46 :: 53 :: 32 :: 100 :: 101 :: 114 :: 32 :: 45 :: 121 :: 32 :: 43 :: 32 :: 120 :: 32 :: 42 :: 32 :: 121 :: 10 :: 105 :: 110 :: 32 :: 120 :: 10 :: 111 :: 117 :: 116 :: 32 :: 111 :: 121 :: 32 :: 61 :: 32 :: 121 :: 10 :: 108 :: 105 :: 110 :: 107 :: 32 :: 112 :: 114 :: 101 :: 121 :: 46 :: 121 :: 32 :: 61 :: 32 :: 104 :: 117 :: 110 :: 116 :: 101 :: 114 :: 115 :: 46 :: 111 :: 121 :: 10 :: 108 :: 105 :: 110 :: 107 :: 32 :: 104 :: 117 :: 110 :: 116 :: 101 :: 114 :: 115 :: 46 :: 120 :: 32 :: 61 :: 32 :: 112 :: 114 :: 101 :: 121 :: 46 :: 111 :: 120 :: 10 :: []⟩⟩
@[go_sem]theorem aQg : (⟨⟨112 :: 114 :: 101 :: 99 :: 32 :: 54 :: 52 :: 10 :: 101 :: 110 :: 100 :: 32 :: 48 :: 46 :: 50 :: 53 :: 10 :: 115 :: 116 :: 101 :: 112 :: 32 :: 48 :: 46 :: 48 :: 54 :: 50 :: 53 :: 32 :: 48 :: 46 :: 48 :: 48 :: 48 :: 57 :: 55 :: 54 :: 53 :: 54 :: 50 :: 53 :: 10 :: 116 :: 111 :: 108 :: 32 :: 49 :: 10 :: 116 :: 114 :: 105 :: 101 :: 115 :: 32 :: 56 :: 10 :: 111 :: 114 :: 100 :: 101 :: 114 :: 32 :: 48 :: 10 :: 106 :: 97 :: 99 :: 111 :: 98 :: 105 :: 10 :: 115 :: 117 :: 98 :: 32 :: 112 :: 114 :: 101 :: 121 :: 10 :: 115 :: 116 :: 97 :: 116 :: 101 :: 32 :: 120 :: 32 :: 61 :: 32 :: 49 :: 32 :: 100 :: 101 :: 114 :: 32 :: 120 :: 32 :: 45 :: 32 :: 120 :: 32 :: 42 :: 32 :: 121 :: 10 :: 105 :: 110 :: 32 :: 121 :: 10 :: 111 :: 117 :: 116 :: 32 :: 111 :: 120 :: 32 :: 61 :: 32 :: 120 :: 10 :: 115 :: 117 :: 98 :: 32 :: 104 :: 117 :: 110 :: 116 :: 101 :: 114 :: 115 :: 10 :: 115 :: 116 :: 97 :: 116 :: 101 :: 32 :: 121 :: 32 :: 61 :: 32 :: 48 :: 46 :: 53 :: 32 :: 100 :: 101 :: 114 :: 32 :: 45 :: 121 :: 32 :: 43 :: 32 :: 120 :: 32 :: 42 :: 32 :: 121 :: 10 :: 105 :: 110 :: 32 :: 120 :: 10 :: 111 :: 117 :: 116 :: 32 :: 111 :: 121 :: 32 :: 61 :: 32 :: 121 :: 10 :: 108 :: 105 :: 110 :: 107 :: 32 :: 112 :: 114 :: 101 :: 121 :: 46 :: 121 :: 32 :: 61 :: 32 :: 104 :: 117 :: 110 :: 116 :: 101 :: 114 :: 115 :: 46 :: 111 :: 121 :: 10 :: 108 :: 105 :: 110 :: 107 :: 32 :: 104 :: 117 :: 110 :: 116 :: 101 :: 114 :: 115 :: 46 :: 120 :: 32 :: 61 :: 32 :: 112 :: 114 :: 101 :: 121 :: 46 :: 111 :: 120 :: 10 :: []⟩⟩ : ByteArray) = aPH := rfl
def aPI : ByteArray := ⟨⟨112 :: 114 :: 101 :: 99 :: 32 :: 54 :: 52 :: 10 :: 101 :: 110 :: 100 :: 32 :: 48 :: 46 :: 50 :: 53 :: 10 :: 115 :: 116 :: 101 :: 112 :: 32 :: 48 :: 46 :: 48 :: 54 :: 50 :: 53 :: 32 :: 48 :: 46 :: 48 :: 48 :: 48 :: 57 :: 55 :: 54 :: 53 :: 54 :: 50 :: 53 :: 10 :: 116 :: 111 :: 108 :: 32 :: 49 :: 10 :: 116 :: 114 :: 105 :: 101 :: 115 :: 32 :: 56 :: 10 :: 111 :: 114 :: 100 :: 101 :: 114 :: 32 :: 48 :: 10 :: 106 :: 97 :: 99 :: 111 :: 98 :: 105 :: 10 :: 115 :: 117 :: 98 :: 32 :: 111 :: 110 :: 101 :: 10 :: 115 :: 116 :: 97 :: 116 :: 101 :: 32 :: 120 :: 32 :: 61 :: 32 :: 49 :: 32 :: 100 :: 101 :: 114 :: 32 :: 118 :: 10 :: 115 :: 116 :: 97 :: 116 :: 101 :: 32 :: 118 :: 32 :: 61 :: 32 :: 48 :: 32 :: 100 :: 101 :: 114 :: 32 :: 45 :: 120 :: 32 :: 43 :: 32 :: 121 :: 10 :: 105 :: 110 :: 32 :: 121 :: 10 :: 111 :: 117 :: 116 :: 32 :: 111 :: 120 :: 32 :: 61 :: 32 :: 120 :: 10 :: 115 :: 117 :: 98 :: 32 :: 116 :: 119 :: 111 :: 10 :: 115 :: 116 :: 97 :: 116 :: 101 :: 32 :: 121 :: 32 :: 61 :: 32 :: 48 :: 32 :: 100 :: 101 :: 114 :: 32 :: 119 :: 10 :: 115 :: 116 :: 97 :: 116 :: 101 :: 32 :: 119 :: 32 :: 61 :: 32 :: 48 :: 46 :: 53 :: 32 :: 100 :: 101 :: 114 :: 32 :: 45 :: 121 :: 32 :: 43 :: 32 :: 120 :: 10 :: 105 :: 110 :: 32 :: 120 :: 10 :: 111 :: 117 :: 116 :: 32 :: 111 :: 121 :: 32 :: 61 :: 32 :: 121 :: 10 :: 108 :: 105 :: 110 :: 107 :: 32 :: 111 :: 110 :: 101 :: 46 :: 121 :: 32 :: 61 :: 32 :: 116 :: 119 :: 111 :: 46 :: 111 :: 121 :: 10 :: 108 :: 105 :: 110 :: 107 :: 32 :: 116 :: 119 :: 111 :: 46 :: 120 :: 32 :: 61 :: 32 :: 111 :: 110 :: 101 :: 46 :: 111 :: 120 :: 10 :: []⟩⟩
@[go_sem]theorem aQh : (⟨⟨112 :: 114 :: 101 :: 99 :: 32 :: 54 :: 52 :: 10 :: 101 :: 110 :: 100 :: 32 :: 48 :: 46 :: 50 :: 53 :: 10 :: 115 :: 116 :: 101 :: 112 :: 32 :: 48 :: 46 :: 48 :: 54 :: 50 :: 53 :: 32 :: 48 :: 46 :: 48 :: 48 :: 48 :: 57 :: 55 :: 54 :: 53 :: 54 :: 50 :: 53 :: 10 :: 116 :: 111 :: 108 :: 32 :: 49 :: 10 :: 116 :: 114 :: 105 :: 101 :: 115 :: 32 :: 56 :: 10 :: 111 :: 114 :: 100 :: 101 :: 114 :: 32 :: 48 :: 10 :: 106 :: 97 :: 99 :: 111 :: 98 :: 105 :: 10 :: 115 :: 117 :: 98 :: 32 :: 111 :: 110 :: 101 :: 10 :: 115 :: 116 :: 97 :: 116 :: 101 :: 32 :: 120 :: 32 :: 61 :: 32 :: 49 :: 32 :: 100 :: 101 :: 114 :: 32 :: 118 :: 10 :: 115 :: 116 :: 97 :: 116 :: 101 :: 32 :: 118 :: 32 :: 61 :: 32 :: 48 :: 32 :: 100 :: 101 :: 114 :: 32 :: 45 :: 120 :: 32 :: 43 :: 32 :: 121 :: 10 :: 105 :: 110 :: 32 :: 121 :: 10 :: 111 :: 117 :: 116 :: 32 :: 111 :: 120 :: 32 :: 61 :: 32 :: 120 :: 10 :: 115 :: 117 :: 98 :: 32 :: 116 :: 119 :: 111 :: 10 :: 115 :: 116 :: 97 :: 116 :: 101 :: 32 :: 121 :: 32 :: 61 :: 32 :: 48 :: 32 :: 100 :: 101 :: 114 :: 32 :: 119 :: 10 :: 115 :: 116 :: 97 :: 116 :: 101 :: 32 :: 119 :: 32 :: 61 :: 32 :: 48 :: 46 :: 53 :: 32 :: 100 :: 101 :: 114 :: 32 :: 45 :: 121 :: 32 :: 43 :: 32 :: 120 :: 10 :: 105 :: 110 :: 32 :: 120 :: 10 :: 111 :: 117 :: 116 :: 32 :: 111 :: 121 :: 32 :: 61 :: 32 :: 121 :: 10 :: 108 :: 105 :: 110 :: 107 :: 32 :: 111 :: 110 :: 101 :: 46 :: 121 :: 32 :: 61 :: 32 :: 116 :: 119 :: 111 :: 46 :: 111 :: 121 :: 10 :: 108 :: 105 :: 110 :: 107 :: 32 :: 116 :: 119 :: 111 :: 46 :: 120 :: 32 :: 61 :: 32 :: 111 :: 110 :: 101 :: 46 :: 111 :: 120 :: 10 :: []⟩⟩ : ByteArray) = aPI := rfl
def aPJ : ByteArray := ⟨⟨112 :: 114 :: 101 :: 99 :: 32 :: 54 :: 52 :: 10 :: 101 :: 110 :: 100 :: 32 :: 48 :: 46 :: 50 :: 53 :: 10 :: 115 :: 116 :: 101 :: 112 :: 32 :: 48 :: 46 :: 48 :: 54 :: 50 :: 53 :: 32 :: 48 :: 46 :: 48 :: 48 :: 48 :: 57 :: 55 :: 54 :: 53 :: 54 :: 50 :: 53 :: 10 :: 116 :: 111 :: 108 :: 32 :: 49 :: 10 :: 116 :: 114 :: 105 :: 101 :: 115 :: 32 :: 56 :: 10 :: 111 :: 114 :: 100 :: 101 :: 114 :: 32 :: 48 :: 10 :: 106 :: 97 :: 99 :: 111 :: 98 :: 105 :: 10 :: 115 :: 117 :: 98 :: 32 :: 112 :: 108 :: 97 :: 99 :: 101 :: 10 :: 115 :: 116 :: 97 :: 116 :: 101 :: 32 :: 120 :: 32 :: 61 :: 32 :: 49 :: 32 :: 100 :: 101 :: 114 :: 32 :: 121 :: 10 :: 105 :: 110 :: 32 :: 121 :: 10 :: 111 :: 117 :: 116 :: 32 :: 111 :: 120 :: 32 :: 61 :: 32 :: 120 :: 10 :: 115 :: 117 :: 98 :: 32 :: 115 :: 112 :: 101 :: 101 :: 100 :: 10 :: 115 :: 116 :: 97 :: 116 :: 101 :: 32 :: 121 :: 32 :: 61 :: 32 :: 48 :: 32 :: 100 :: 101 :: 114 :: 32 :: 40 :: 49 :: 32 :: 45 :: 32 :: 120 :: 32 :: 42 :: 32 :: 120 :: 41 :: 32 :: 42 :: 32 :: 121 :: 32 :: 45 :: 32 :: 120 :: 10 :: 105 :: 110 :: 32 :: 120 :: 10 :: 111 :: 117 :: 116 :: 32 :: 111 :: 121 :: 32 :: 61 :: 32 :: 121 :: 10 :: 108 :: 105 :: 110 :: 107 :: 32 :: 112 :: 108 :: 97 :: 99 :: 101 :: 46 :: 121 :: 32 :: 61 :: 32 :: 115 :: 112 :: 101 :: 101 :: 100 :: 46 :: 111 :: 121 :: 10 :: 108 :: 105 :: 110 :: 107 :: 32 :: 115 :: 112 :: 101 :: 101 :: 100 :: 46 :: 120 :: 32 :: 61 :: 32 :: 112 :: 108 :: 97 :: 99 :: 101 :: 46 :: 111 :: 120 :: 10 :: []⟩⟩
@[go_sem]theorem aQi : (⟨⟨112 :: 114 :: 101 :: 99 :: 32 :: 54 :: 52 :: 10 :: 101 :: 110 :: 100 :: 32 :: 48 :: 46 :: 50 :: 53 :: 10 :: 115 :: 116 :: 101 :: 112 :: 32 :: 48 :: 46 :: 48 :: 54 :: 50 :: 53 :: 32 :: 48 :: 46 :: 48 :: 48 :: 48 :: 57 :: 55 :: 54 :: 53 :: 54 :: 50 :: 53 :: 10 :: 116 :: 111 :: 108 :: 32 :: 49 :: 10 :: 116 :: 114 :: 105 :: 101 :: 115 :: 32 :: 56 :: 10 :: 111 :: 114 :: 100 :: 101 :: 114 :: 32 :: 48 :: 10 :: 106 :: 97 :: 99 :: 111 :: 98 :: 105 :: 10 :: 115 :: 117 :: 98 :: 32 :: 112 :: 108 :: 97 :: 99 :: 101 :: 10 :: 115 :: 116 :: 97 :: 116 :: 101 :: 32 :: 120 :: 32 :: 61 :: 32 :: 49 :: 32 :: 100 :: 101 :: 114 :: 32 :: 121 :: 10 :: 105 :: 110 :: 32 :: 121 :: 10 :: 111 :: 117 :: 116 :: 32 :: 111 :: 120 :: 32 :: 61 :: 32 :: 120 :: 10 :: 115 :: 117 :: 98 :: 32 :: 115 :: 112 :: 101 :: 101 :: 100 :: 10 :: 115 :: 116 :: 97 :: 116 :: 101 :: 32 :: 121 :: 32 :: 61 :: 32 :: 48 :: 32 :: 100 :: 101 :: 114 :: 32 :: 40 :: 49 :: 32 :: 45 :: 32 :: 120 :: 32 :: 42 :: 32 :: 120 :: 41 :: 32 :: 42 :: 32 :: 121 :: 32 :: 45 :: 32 :: 120 :: 10 :: 105 :: 110 :: 32 :: 120 :: 10 :: 111 :: 117 :: 116 :: 32 :: 111 :: 121 :: 32 :: 61 :: 32 :: 121 :: 10 :: 108 :: 105 :: 110 :: 107 :: 32 :: 112 :: 108 :: 97 :: 99 :: 101 :: 46 :: 121 :: 32 :: 61 :: 32 :: 115 :: 112 :: 101 :: 101 :: 100 :: 46 :: 111 :: 121 :: 10 :: 108 :: 105 :: 110 :: 107 :: 32 :: 115 :: 112 :: 101 :: 101 :: 100 :: 46 :: 120 :: 32 :: 61 :: 32 :: 112 :: 108 :: 97 :: 99 :: 101 :: 46 :: 111 :: 120 :: 10 :: []⟩⟩ : ByteArray) = aPJ := rfl
attribute [-go_sem] Ex.kind Ex.text Ex.l
def aBb (F : Md) : Option (List (qd × qd)) :=
 some (aAK .str (aAK .str (aAK .str ([] : List (qd × qd)) (aU ⟨#[111, 115, 99, 105, 108, 108, 97, 116, 111, 114, 115]⟩) (aU aPI)) (aU ⟨#[108, 111, 116, 107, 97]⟩) (aU aPH)) (aU ⟨#[118, 97, 110, 100, 101, 114, 112, 111, 108]⟩) (aU aPJ))
def aAr (F : Md) : fU where
 D := (List (qd × qd))
 av := fun d => []
 hp := fun d => []
 m := 0
 pre := fun d => aBb F = some d
 out := fun d => (fun r : (List (qd × qd)) => .ret (.mp 0) [.map .str .str (r)]) d
def aIN (F : Md) : List (FuncId × aI) := []
theorem aIO [Mx] (F : Md) : bH Tryz.prog GL (aIN F) := .nil
theorem aPK [Mx] (F : Md) : GOK Tryz.prog GL 34 (aAr F) := by
 refine eF (aT (aIO F)) Tryz.func34 rfl (by kernel_rfl) (fun _ => Nat.le_of_ble_eq_true rfl) fun c0 w0 r hw1 hw2 h hn => ?_
 have hF : fT ⟨Tryz.prog, EM (aIN F), GM (aAr F) c0 r, w0, Tryz.f34.ntmps, []⟩ := ⟨aT (aIO F), mix⟩
 replace h : aBb F = some r := h
 have hw1 : AV.wfL [] := hw1
 simp only [AV.wfL, AV.wfV, Ty.wf, eR] at hw1
 show Tri _ _ _ [] []
 unfold aBb at h
 refine aB (aF hF [] ?_)
 simp only [go_sem]
 refine aA (aB (aR hF [0] ?_))
 simp only [go_sem]
 obtain rfl := Option.some.inj h
 refine aA (cA (dS hF [.tmp 0] rfl rfl rfl rfl rfl rfl ?_))
 exact zaC
attribute [go_sem] aAr
def vJ (F : Md) (name_0 : qd) : Option (qd × wm) :=
 (aBb F).bind (fun r_3 => some (((aBh .str r_3 name_0).getD ([] : List Nat)), (aBh .str r_3 name_0).isSome, ()))
@[go_sem]def aCJ : Ty := .pair .str .unit
def oK (F : Md) : aI := mSpec aCJ (.tup (.pair .str wq)) (fun x => vJ F x.1)
def aKZ (F : Md) : List (FuncId × aI) := []
theorem aK0 [Mx] (F : Md) : bH Tryz.prog GL (aKZ F) := .nil
theorem aEx [Mx] (F : Md) : FOK Tryz.prog GL 14 (oK F) := by
 refine qW (aT (aK0 F)) Tryz.func14 rfl (by kernel_rfl) (by decide) fun w0 S x r hw h => ?_
 have hF : fT (fr Tryz.prog (EM (aKZ F)) S w0 Tryz.f14.ntmps) := ⟨aT (aK0 F), mix⟩
 obtain ⟨(name_0 : qd), u⟩ := x
 simp only [aCJ, Ty.wf, eR] at hw
 simp only [bX, aCJ]
 try dsimp only at h
 replace h : vJ F name_0 = some r := h
 unfold vJ at h
 refine aB (aF hF [0] ?_)
 simp only [go_sem]
 obtain ⟨r_3, he1, h⟩ := bind_some h
 try dsimp only at h
 refine aA (aB (aC hF (aG (l := [(34, ⟨aAr F, [], r_3⟩)]) (.cons (aPK F) (by kernel_rfl) (.nil))) [4, 5] [] ?_))
 simp only [go_sem]
 repeat (refine ⟨zAA, ?_⟩)
 refine aA (aB (aF hF [2, 3] ?_))
 simp only [go_sem]
 obtain rfl := Option.some.inj h
 refine aA (cA (iZ hF [.tmp 2, .tmp 3] rfl rfl rfl ?_))
 exact zAG
attribute [go_sem] oK
def xB (F : Md) (name_0 : qd) : Option (qf × qp) :=
 (vJ F name_0).bind (fun v_5 => if ¬ (v_5.2.1 = true) then some (((0 : Int), (0 : Int), (0 : Int), (0 : Int), ([] : List Nat), ([] : List Nat), ([] : List Nat), ([] : List Nat), ([] : List qc), ([] : List qm), ()), (5 : Int), ()) else (wZ F v_5.1).bind (fun v_7 => some (v_7.1, v_7.2.2.1, ())))
def aHR : PlR := ⟨[(0, .B [0, 2]), (1, .A [2, 4, 5]), (2, .A [2, 4, 15]), (3, .B [2, 3]), (4, .B [2, 6, 8]), (5, .B [2, 3])], []⟩
def aIP : Ty := .pair .str .unit
def rG (F : Md) : aI := mSpec aIP (.tup (.pair qj q9)) (fun x => xB F x.1)
def aEy (F : Md) : List (FuncId × aI) := [(11, (rF F)), (14, (oK F))]
theorem aQj [Mx] (F : Md) : bH Tryz.prog GL (aEy F) := .cons (aHN F) (by kernel_rfl) (.cons (aEx F) (by kernel_rfl) (.nil))
theorem aMf (F : Md) : gam (aEy F) 11 = some (rF F) := rfl
theorem aMg (F : Md) : gam (aEy F) 14 = some (oK F) := rfl
attribute [go_sem] aIP aHR aMf aMg
theorem aHS [Mx] (F : Md) : FOK Tryz.prog GL 15 (rG F) := by
 refine bS (aT (aQj F)) mix Tryz.func15 rfl (by kernel_rfl) (by decide) aHR fun w0 S x Θ hw h hF => ?_
 obtain ⟨(name_0 : qd), u⟩ := x
 simp only [bX, go_sem]
 replace h : sat (xB F name_0) _ := h
 unfold xB at h
 obtain ⟨v_5, hv, h⟩ := aN h
 try simp only [hv, go_sem]
 refine aC3 h (fun hc h => ?_) fun hc h => ?_
 ·exact aK hF [.cell 2 36, .tmp 3] rfl rfl rfl (aE h) (by simp only [aS, go_sem])
 ·obtain ⟨v_7, hv, h⟩ := aN h
  try simp only [hv, go_sem]
  exact aK hF [.cell 2 36, .tmp 3] rfl rfl rfl (aE h) (by simp only [aS, go_sem])
attribute [go_sem] rG
def aBc (F : Md) : Option qv :=
 some ([(aU ⟨#[111, 115, 99, 105, 108, 108, 97, 116, 111, 114, 115]⟩), (aU ⟨#[108, 111, 116, 107, 97]⟩), (aU ⟨#[118, 97, 110, 100, 101, 114, 112, 111, 108]⟩)] : List qd)
def aHT : PlR := ⟨[(0, .A []), (1, .A [0])], []⟩
def aIQ : Ty := .unit
def aAs (F : Md) : aI := mSpec aIQ (.one wg) (fun x => aBc F )
def aQk (F : Md) : List (FuncId × aI) := []
theorem aQl [Mx] (F : Md) : bH Tryz.prog GL (aQk F) := .nil
attribute [go_sem] aIQ aHT
theorem aPL [Mx] (F : Md) : FOK Tryz.prog GL 39 (aAs F) := by
 refine bS (aT (aQl F)) mix Tryz.func39 rfl (by kernel_rfl) (by decide) aHT fun w0 S x Θ hw h hF => ?_
 simp only [bX, go_sem]
 replace h : sat (aBc F) _ := h
 unfold aBc at h
 exact aK hF [.tmp 0] rfl rfl rfl (aE h) (by simp only [aS, go_sem])
attribute [go_sem] aAs
def aCK (F : Md) : Option Bool :=
 (aBc F).bind (fun v_5 => (vJ F (aU ⟨#[111, 116, 104, 101, 114]⟩)).bind (fun v_9 => (xB F (aU ⟨#[111, 116, 104, 101, 114]⟩)).bind (fun v_11 => ck (((v_5.length : Int) = (3 : Int)) → ((0 : Int) < (v_5.length : Int))) (ck ((((v_5.length : Int) = (3 : Int)) ∧ ((v_5.getD (0 : Nat) ([] : List Nat)) = (aU ⟨#[111, 115, 99, 105, 108, 108, 97, 116, 111, 114, 115]⟩))) → ((1 : Int) < (v_5.length : Int))) (ck (((((v_5.length : Int) = (3 : Int)) ∧ ((v_5.getD (0 : Nat) ([] : List Nat)) = (aU ⟨#[111, 115, 99, 105, 108, 108, 97, 116, 111, 114, 115]⟩))) ∧ ((v_5.getD (1 : Nat) ([] : List Nat)) = (aU ⟨#[108, 111, 116, 107, 97]⟩))) → ((2 : Int) < (v_5.length : Int))) (some ((((((decide ((v_5.length : Int) = (3 : Int))) && (decide ((v_5.getD (0 : Nat) ([] : List Nat)) = (aU ⟨#[111, 115, 99, 105, 108, 108, 97, 116, 111, 114, 115]⟩)))) && (decide ((v_5.getD (1 : Nat) ([] : List Nat)) = (aU ⟨#[108, 111, 116, 107, 97]⟩)))) && (decide ((v_5.getD (2 : Nat) ([] : List Nat)) = (aU ⟨#[118, 97, 110, 100, 101, 114, 112, 111, 108]⟩)))) && (!v_9.2.1)) && (decide (v_11.2.1 = (5 : Int))))))))))
def aIR : PlR := ⟨[(0, .A []), (1, .A [1]), (2, .A [1, 3]), (3, .B [1, 3, 5]), (4, .A [0])], []⟩
def aK1 : Ty := .unit
def aBd (F : Md) : aI := mSpec aK1 (.one .bool) (fun x => aCK F )
def aCL (F : Md) : List (FuncId × aI) := [(14, (oK F)), (15, (rG F)), (39, (aAs F))]
theorem aRJ [Mx] (F : Md) : bH Tryz.prog GL (aCL F) := .cons (aEx F) (by kernel_rfl) (.cons (aHS F) (by kernel_rfl) (.cons (aPL F) (by kernel_rfl) (.nil)))
theorem aNR (F : Md) : gam (aCL F) 14 = some (oK F) := rfl
theorem aNS (F : Md) : gam (aCL F) 15 = some (rG F) := rfl
theorem aNT (F : Md) : gam (aCL F) 39 = some (aAs F) := rfl
attribute [go_sem] aK1 aIR aNR aNS aNT
theorem aQm [Mx] (F : Md) : FOK Tryz.prog GL 17 (aBd F) := by
 refine bS (aT (aRJ F)) mix Tryz.func17 rfl (by kernel_rfl) (by decide) aIR fun w0 S x Θ hw h hF => ?_
 simp only [bX, go_sem]
 replace h : sat (aCK F) _ := h
 unfold aCK at h
 obtain ⟨v_5, hv, h⟩ := aN h
 try simp only [hv, go_sem]
 obtain ⟨v_9, hv, h⟩ := aN h
 try simp only [hv, go_sem]
 obtain ⟨v_11, hv, h⟩ := aN h
 try simp only [hv, go_sem]
 refine aZ h fun g0 h => aZ h fun g1 h => aZ h fun g2 h => ?_
 exact aK hF [.tmp 0] rfl rfl rfl (aE h) (by simp only [aS, go_sem])
attribute [go_sem] aBd
def lU (F : Md) (v_9 : (qf × qp)) (n_14 : Int) : Option (Bool) :=
 (aCK F).bind (fun v_18 => some ((v_18 && (decide (n_14 = (2 : Int)))) && (decide ((v_9.1.2.2.2.2.2.2.2.2.2.1.length : Int) = (2 : Int)))))
def pG (F : Md) (v_9 : (qf × qp)) (n_19 : Int) (i_20 : Int) : Option (wj ⊕ (Int)) :=
 if i_20 < (2 : Int) then ck (0 ≤ i_20 ∧ i_20 < (v_9.1.2.2.2.2.2.2.2.2.1.length : Int)) (ck (I64 (n_19 + (((v_9.1.2.2.2.2.2.2.2.2.1.getD (i_20.toNat) ([], [], [], [], [], ())).2.2.2.1.length : Nat) : Int))) (ck (I64 (i_20 + (1 : Int))) (some (.inl ((n_19 + (((v_9.1.2.2.2.2.2.2.2.2.1.getD (i_20.toNat) ([], [], [], [], [], ())).2.2.2.1.length : Nat) : Int)), (i_20 + (1 : Int))))))) else some (.inr n_19)
def fQ (F : Md) (which_0 : Int) : Option Bool :=
 ck (0 ≤ (IntKind.i64.wrap ((((which_0 % (18446744073709551616 : Int)).toNat % (3 : Nat)) : Nat) : Int)) ∧ (IntKind.i64.wrap ((((which_0 % (18446744073709551616 : Int)).toNat % (3 : Nat)) : Nat) : Int)) < (3 : Int)) ((vJ F (([(aU ⟨#[111, 115, 99, 105, 108, 108, 97, 116, 111, 114, 115]⟩), (aU ⟨#[108, 111, 116, 107, 97]⟩), (aU ⟨#[118, 97, 110, 100, 101, 114, 112, 111, 108]⟩)] : List qd).getD (IntKind.i64.wrap ((((which_0 % (18446744073709551616 : Int)).toNat % (3 : Nat)) : Nat) : Int)).toNat ([] : List Nat))).bind (fun v_5 => (wZ F v_5.1).bind (fun v_7 => (xB F (([(aU ⟨#[111, 115, 99, 105, 108, 108, 97, 116, 111, 114, 115]⟩), (aU ⟨#[108, 111, 116, 107, 97]⟩), (aU ⟨#[118, 97, 110, 100, 101, 114, 112, 111, 108]⟩)] : List qd).getD (IntKind.i64.wrap ((((which_0 % (18446744073709551616 : Int)).toNat % (3 : Nat)) : Nat) : Int)).toNat ([] : List Nat))).bind (fun v_9 => ck (¬ (((¬ (v_5.2.1 = true)) ∨ (¬ (v_7.2.2.1 = (0 : Int)))) ∨ (¬ (v_9.2.1 = (0 : Int)))) → ((vI F v_7.1 v_9.1).isSome = true)) (ck (¬ ((((¬ (v_5.2.1 = true)) ∨ (¬ (v_7.2.2.1 = (0 : Int)))) ∨ (¬ (v_9.2.1 = (0 : Int)))) ∨ (¬ (((vI F v_7.1 v_9.1).getD false) = true))) → ((uH F v_9.1).isSome = true)) (if ((((((¬ (v_5.2.1 = true)) ∨ (¬ (v_7.2.2.1 = (0 : Int)))) ∨ (¬ (v_9.2.1 = (0 : Int)))) ∨ (¬ (((vI F v_7.1 v_9.1).getD false) = true))) ∨ (¬ (((uH F v_9.1).getD false) = true))) ∨ (¬ ((v_9.1.2.2.2.2.2.2.2.2.1.length : Int) = (2 : Int)))) ∨ (¬ (v_9.1.1 = (64 : Int))) then some false else (eH F (fun d : Int × Int => pG F v_9 d.1 d.2) ((0 : Int), (0 : Int))).bind (fun e => lU F v_9 e)))))))
def aB7 : PlR := ⟨[(0, .A [0]), (1, .A [3]), (2, .A [3, 4, 5]), (3, .B [3, 5, 6, 8]), (4, .B [5, 6, 8, 9, 10]), (5, .A [9, 67]), (6, .A [2]), (7, .A [9, 11]), (8, .A [9, 11, 12]), (9, .A [9, 11, 12, 69]), (10, .A [9, 11, 12]), (11, .A [9, 11, 12]), (12, .A [2])], [(11, 15)]⟩
def sF : Ty := .pair qe .unit
def aB8 (F : Md) : aI := mSpec sF (.one .bool) (fun x => fQ F x.1)
def kF (F : Md) : List (FuncId × aI) := [(11, (rF F)), (12, (aBa F)), (14, (oK F)), (15, (rG F)), (16, (vE F)), (17, (aBd F))]
theorem aJu [Mx] (F : Md) : bH Tryz.prog GL (kF F) := .cons (aHN F) (by kernel_rfl) (.cons (aQf F) (by kernel_rfl) (.cons (aEx F) (by kernel_rfl) (.cons (aHS F) (by kernel_rfl) (.cons (aKW F) (by kernel_rfl) (.cons (aQm F) (by kernel_rfl) (.nil))))))
theorem aGI (F : Md) : gam (kF F) 11 = some (rF F) := rfl
theorem aGJ (F : Md) : gam (kF F) 12 = some (aBa F) := rfl
theorem aGK (F : Md) : gam (kF F) 14 = some (oK F) := rfl
theorem aGL (F : Md) : gam (kF F) 15 = some (rG F) := rfl
theorem aGM (F : Md) : gam (kF F) 16 = some (vE F) := rfl
theorem aGN (F : Md) : gam (kF F) 17 = some (aBd F) := rfl
attribute [go_sem] sF aB7 aGI aGJ aGK aGL aGM aGN
theorem aIi [Mx] (F : Md) : FOK Tryz.prog GL 7 (aB8 F) := by
 refine bS (aT (aJu F)) mix Tryz.func7 rfl (by kernel_rfl) (by decide) aB7 fun w0 S x Θ hw h hF => ?_
 obtain ⟨(which_0 : Int), u⟩ := x
 simp only [bX, go_sem]
 replace h : sat (fQ F which_0) _ := h
 unfold fQ at h
 obtain ⟨g0, h⟩ := aQ h
 repeat (refine ⟨zAA, ?_⟩)
 obtain ⟨v_5, hv, h⟩ := aN h
 try simp only [hv, go_sem]
 obtain ⟨v_7, hv, h⟩ := aN h
 try simp only [hv, go_sem]
 obtain ⟨v_9, hv, h⟩ := aN h
 try simp only [hv, go_sem]
 obtain ⟨g0, h⟩ := aQ h
 obtain ⟨g1, h⟩ := aQ h
 repeat (refine ⟨zAC, ?_⟩)
 refine ⟨fun hc => ?_, fun hc => ?_⟩
 ·replace h := jE zAB h
  exact zaG
 ·replace h := jF zAB h
  refine eX hF (D := Int) (fun d => sat (lU F v_9 d) Θ) [] (fun d => [(9, .ptr 0 []), (11, .val qe d)]) (fun d => [.inr (.box 10 (.val qj v_9.1))]) ?_ ?_
  ·simp only [go_sem]
   refine aH7 [2] rfl rfl ?_
   simp only [go_sem]
   refine cI hF (D := Int × Int) [] (fun d => [(9, .ptr 0 []), (11, .val qe d.1), (12, .val qe d.2)]) (fun d => [.inr (.box 10 (.val qj v_9.1))]) h rfl (by simp only [go_sem]) ?_
   rintro ⟨n_19, i_20⟩ A9 T9 hA9 hE9 h
   simp only [go_sem]
   replace h : sat (pG F v_9 n_19 i_20) _ := h
   unfold pG at h
   refine fN h (fun hc h => ?_) fun hc h => ?_
   ·obtain ⟨g0, h⟩ := aQ h
    obtain ⟨g1, h⟩ := aQ h
    try simp only [I64, I32] at g1
    repeat (refine ⟨zAA, ?_⟩)
    obtain ⟨g0, h⟩ := aQ h
    try simp only [I64, I32] at g0
    repeat (refine ⟨zAA, ?_⟩)
    replace h := hA9 _ (aE h)
    exact zaO
   ·replace h := hE9 _ (aE h)
    try dsimp only at h
    exact bB (n_19) h rfl (by simp only [go_sem])
  ·rintro n_14 h
   simp only [go_sem]
   replace h : sat (lU F v_9 n_14) _ := h
   unfold lU at h
   obtain ⟨v_18, hv, h⟩ := aN h
   try simp only [hv, go_sem]
   exact zaG
attribute [go_sem] aB8
end
end Nu
end Go.Proofs
namespace Go.Proofs
open Go.Vc
set_option maxRecDepth 100000
namespace Nu
theorem aRK [Mx] : fQ (some 1000) 0 = some true := by kernel_rfl
theorem aRL [Mx] : fQ (some 1000) 1 = some true := by kernel_rfl
theorem aRM [Mx] : fQ (some 1000) 2 = some true := by kernel_rfl
theorem aNU [Mx] (a : Int) : fQ (some 1000) a = some true := by
 have h1 : (a % 18446744073709551616).toNat % 3 < 3 := Nat.mod_lt _ (by decide)
 have e : fQ (some 1000) a = fQ (some 1000) (((a % 18446744073709551616).toNat % 3 : Nat) : Int) := by
  have e1 : ((((a % 18446744073709551616).toNat % 3 : Nat) : Int) % (18446744073709551616 : Int)).toNat % 3 = (a % 18446744073709551616).toNat % 3 := by
   generalize (a % 18446744073709551616).toNat % 3 = x at *
   rw [show (((x : Nat) : Int) % (18446744073709551616 : Int)) = (x : Int) from by omega, Int.toNat_natCast, Nat.mod_eq_of_lt h1]
  generalize ha : (a % 18446744073709551616).toNat % 3 = i at *
  unfold fQ lU pG
  simp only [ha, e1]
 rw [e]
 generalize (a % 18446744073709551616).toNat % 3 = i at *
 obtain rfl | rfl | rfl : i = 0 ∨ i = 1 ∨ i = 2 := by omega
 ·exact aRK
 ·exact aRL
 ·exact aRM
end Nu
end Go.Proofs
