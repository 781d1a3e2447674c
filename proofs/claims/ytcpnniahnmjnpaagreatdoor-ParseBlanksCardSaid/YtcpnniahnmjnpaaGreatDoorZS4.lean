import Derived.Test.YtcpnniahnmjnpaaGreatDoorZS2
import Derived.Test.YtcpnniahnmjnpaaGreatDoorZS3
set_option linter.unusedVariables false
set_option linter.unusedSimpArgs false
namespace Go.Proofs
open Go.Vc
set_option maxRecDepth 20000
namespace Nu
noncomputable section
set_option maxHeartbeats 4000000
attribute [-go_sem] Ex.kind Ex.text Ex.l
@[reducible] def aXn (xs : List qd) : Prop := xs.length * 16 ≤ 140737488355328
def tK : Ty := .pair wg .unit
def lE : aJ := ⟨tK, .own 9 .str, fun x => aXn x.1, fun x => id x.1⟩
attribute [go_sem] lE tK
abbrev aAE (F : Md) : List (FuncId × aJ) := []
theorem aAF [Mx] (F : Md) : bJ Tryz.prog GL (aAE F) := .nil
theorem aFV [Mx] : FOK Tryz.prog GL 73 lE := by
 refine aSU (aV (aAF none)) Tryz.func73 rfl xAa xAc fun w0 S x hw hp => ?_
 have hF : fT (fr Tryz.prog (EM (aAE none)) S w0 Tryz.f73.ntmps) := ⟨aV (aAF none), mix⟩
 obtain ⟨(s : qw), u⟩ := x
 have hp : s.length * 16 ≤ 140737488355328 := hp
 simp only [bX, tK, lE]
 exact zab
def pW (F : Md) (e_0 : Ex) (names_1 : qw) : Option Bool :=
 (yQ F e_0).bind (fun v_6 => ck ((v_6 = true) → ((aCy F 64 e_0 names_1).isSome = true)) (some (v_6 && ((aCy F 64 e_0 names_1).getD false))))
def aEU : PlR := ⟨[(0, .B [1, 2]), (1, .A [4])], []⟩
def aGo : Ty := .pair .expr (.pair wg .unit)
def oP (F : Md) : aJ := mSpec aGo (.one .bool) (fun x => pW F x.1 x.2.1)
abbrev aBJ (F : Md) : List (FuncId × aJ) := [(115, (aA4 F 64)), (21, (uY F))]
theorem aNz [Mx] (F : Md) : bJ Tryz.prog GL (aBJ F) := .cons (aIv F 64) xAa (.cons (aKq F) xAa (.nil))
attribute [go_sem] aGo aEU
theorem aEV [Mx] (F : Md) : FOK Tryz.prog GL 75 (oP F) := by
 refine bT (aV (aNz F)) mix Tryz.func75 rfl xAa xAc aEU fun w0 S x Θ hw h hF => ?_
 obtain ⟨(e_0 : Ex), (names_1 : qw), u⟩ := x
 simp only [bX, go_sem]
 replace h : sat (pW F e_0 names_1) _ := h
 unfold pW at h
 obtain ⟨v_6, hv, h⟩ := aP h
 try simp only [hv, go_sem]
 refine aR h fun g0 h => ?_
 exact zaD
attribute [go_sem] oP
def vH (F : Md) (a_0 : qz) (a1_1 : qw) : Option Bool :=
 (pW F a_0.2.1 a1_1).bind (fun v_6 => some (!v_6))
def aD0 : PlR := ⟨[(0, .B [1, 2]), (1, .A [3])], []⟩
def aEW : Ty := .pair qr wz
def tQ (F : Md) : aJ := mSpec aEW (.one .bool) (fun x => vH F x.1 x.2.1)
abbrev aEX (F : Md) : List (FuncId × aJ) := [(75, (oP F))]
theorem aLT [Mx] (F : Md) : bJ Tryz.prog GL (aEX F) := .cons (aEV F) xAa (.nil)
attribute [go_sem] aEW aD0
theorem aKC [Mx] (F : Md) : FOK Tryz.prog GL 77 (tQ F) := by
 refine bT (aV (aLT F)) mix Tryz.func77 rfl xAa xAc aD0 fun w0 S x Θ hw h hF => ?_
 obtain ⟨(a_0 : qz), (a1_1 : qw), u⟩ := x
 simp only [bX, go_sem]
 replace h : sat (vH F a_0 a1_1) _ := h
 unfold vH at h
 obtain ⟨v_6, hv, h⟩ := aP h
 try simp only [hv, go_sem]
 exact aL hF [.tmp 3] rfl rfl rfl (aE h) xAd
attribute [go_sem] tQ
def eO (F : Md) (s_0 : wt) (f_1 : wq) (x8_14 : Int) : Option ((Int) ⊕ ((Unit) ⊕ Int)) :=
 if x8_14 < (s_0.length : Int) then ck (0 ≤ x8_14 ∧ x8_14 < (s_0.length : Int)) ((vH F (s_0.getD (x8_14.toNat) ([], (Ex.mk 0 [] []), ())) f_1.1).bind (fun v_27 => if v_27 = true then some (.inr (.inr x8_14)) else ck (I64 (x8_14 + (1 : Int))) (some (.inl (x8_14 + (1 : Int)))))) else some (.inr (.inl ()))
def dM (F : Md) (s_0 : wt) (f_1 : wq) : Option Int :=
 (eG F (fun d : Int => eO F s_0 f_1 d) (0 : Int)).bind (fun e => match e with | (.inl e) => some (-1 : Int) | (.inr e) => some e)
def iM : PlR := ⟨[(0, .A [0, 1]), (1, .A [0, 1, 7, 8]), (2, .A [0, 1, 7, 8, 9]), (3, .A [0, 1, 5, 7, 8]), (4, .A [0, 1, 5, 7, 8, 16]), (5, .A [4]), (6, .A [0, 1, 7, 8]), (7, .A [4])], []⟩
def iS : Ty := .pair (.sl qr) (.pair (.clo 77 wz) .unit)
def dG (F : Md) : aJ := mSpec iS (.one qe) (fun x => dM F x.1 x.2.1)
abbrev iT (F : Md) : List (FuncId × aJ) := [(77, (tQ F))]
theorem pK [Mx] (F : Md) : bJ Tryz.prog GL (iT F) := .cons (aKC F) xAa (.nil)
attribute [go_sem] iS iM
theorem pA [Mx] (F : Md) : FOK Tryz.prog GL 116 (dG F) := by
 refine bT (aV (pK F)) mix Tryz.func116 rfl xAa xAc iM fun w0 S x Θ hw h hF => ?_
 obtain ⟨(s_0 : wt), (f_1 : wq), u⟩ := x
 simp only [bX, go_sem]
 replace h : sat (dM F s_0 f_1) _ := h
 unfold dM at h
 refine cG hF (D := Int) [0, 1, 7] (fun d => [(8, .val qe d)]) (fun d => []) h rfl xAb ?_
 rintro x8_14 A2 T2 hA2 hE2 h
 simp only [go_sem]
 replace h : sat (eO F s_0 f_1 x8_14) _ := h
 unfold eO at h
 exact zaP
attribute [go_sem] dG
def cL (F : Md) (s_0 : wt) (f_1 : wq) : Option Bool :=
 (dM F s_0 f_1).bind (fun v_8 => some (decide ((0 : Int) ≤ v_8)))
def gQ : PlR := ⟨[(0, .A [0, 1]), (1, .A [4])], []⟩
def hD : Ty := .pair (.sl qr) (.pair (.clo 77 wz) .unit)
def cY (F : Md) : aJ := mSpec hD (.one .bool) (fun x => cL F x.1 x.2.1)
abbrev hN (F : Md) : List (FuncId × aJ) := [(116, (dG F))]
theorem oE [Mx] (F : Md) : bJ Tryz.prog GL (hN F) := .cons (pA F) xAa (.nil)
attribute [go_sem] hD gQ
theorem nO [Mx] (F : Md) : FOK Tryz.prog GL 76 (cY F) := by
 refine bT (aV (oE F)) mix Tryz.func76 rfl xAa xAc gQ fun w0 S x Θ hw h hF => ?_
 obtain ⟨(s_0 : wt), (f_1 : wq), u⟩ := x
 simp only [bX, go_sem]
 replace h : sat (cL F s_0 f_1) _ := h
 unfold cL at h
 obtain ⟨v_8, hv, h⟩ := aP h
 exact zaR
attribute [go_sem] cY
def aDj (F : Md) (s_0 : qc) (x93_11 : Int) : Option ((Int) ⊕ ((Unit) ⊕ Bool)) :=
 if x93_11 < (s_0.2.2.1.length : Int) then ck (0 ≤ x93_11 ∧ x93_11 < (s_0.2.2.1.length : Int)) (ck ((mT F (s_0.2.2.1.getD (x93_11.toNat) ([], ([], [], ()), ())).2.1).isSome = true) (if ¬ (((mT F (s_0.2.2.1.getD (x93_11.toNat) ([], ([], [], ()), ())).2.1).getD false) = true) then some (.inr (.inr false)) else ck (I64 (x93_11 + (1 : Int))) (some (.inl (x93_11 + (1 : Int)))))) else some (.inr (.inl ()))
def aAg (F : Md) (s_0 : qc) : Option (Bool) :=
 (eG F (fun d : Int => aDj F s_0 d) (0 : Int)).bind (fun e => match e with | (.inl e) => ck ((cL F s_0.2.2.2.2.1 (((cE F ([((bH F s_0).getD (([] : List qd), ([] : List qd), ([] : List qd), ())).1, ((bH F s_0).getD (([] : List qd), ([] : List qd), ([] : List qd), ())).2.1, ((bH F s_0).getD (([] : List qd), ([] : List qd), ([] : List qd), ())).2.2.1] : List qw)).getD ([] : List qd)), ())).isSome = true) (some (!((cL F s_0.2.2.2.2.1 (((cE F ([((bH F s_0).getD (([] : List qd), ([] : List qd), ([] : List qd), ())).1, ((bH F s_0).getD (([] : List qd), ([] : List qd), ([] : List qd), ())).2.1, ((bH F s_0).getD (([] : List qd), ([] : List qd), ([] : List qd), ())).2.2.1] : List qw)).getD ([] : List qd)), ())).getD false))) | (.inr e) => some e)
def aDk (F : Md) (s_0 : qc) (x74_14 : Int) : Option ((Int) ⊕ ((Unit) ⊕ Bool)) :=
 if x74_14 < (s_0.2.1.length : Int) then ck (0 ≤ x74_14 ∧ x74_14 < (s_0.2.1.length : Int)) (ck ((mT F (s_0.2.1.getD (x74_14.toNat) ([], ([], [], ()), (Ex.mk 0 [] []), ())).2.1).isSome = true) (ck (¬ (¬ (((mT F (s_0.2.1.getD (x74_14.toNat) ([], ([], [], ()), (Ex.mk 0 [] []), ())).2.1).getD false) = true)) → ((pW F (s_0.2.1.getD (x74_14.toNat) ([], ([], [], ()), (Ex.mk 0 [] []), ())).2.2.1 ((cE F ([((bH F s_0).getD (([] : List qd), ([] : List qd), ([] : List qd), ())).1, ((bH F s_0).getD (([] : List qd), ([] : List qd), ([] : List qd), ())).2.1, ((bH F s_0).getD (([] : List qd), ([] : List qd), ([] : List qd), ())).2.2.1] : List qw)).getD ([] : List qd))).isSome = true)) (if (¬ (((mT F (s_0.2.1.getD (x74_14.toNat) ([], ([], [], ()), (Ex.mk 0 [] []), ())).2.1).getD false) = true)) ∨ (¬ (((pW F (s_0.2.1.getD (x74_14.toNat) ([], ([], [], ()), (Ex.mk 0 [] []), ())).2.2.1 ((cE F ([((bH F s_0).getD (([] : List qd), ([] : List qd), ([] : List qd), ())).1, ((bH F s_0).getD (([] : List qd), ([] : List qd), ([] : List qd), ())).2.1, ((bH F s_0).getD (([] : List qd), ([] : List qd), ([] : List qd), ())).2.2.1] : List qw)).getD ([] : List qd))).getD false) = true)) then some (.inr (.inr false)) else ck (I64 (x74_14 + (1 : Int))) (some (.inl (x74_14 + (1 : Int))))))) else some (.inr (.inl ()))
def aAh (F : Md) (s_0 : qc) (all_6 : qw) : Option (Bool) :=
 ck ((tD F all_6).isSome = true) (if ¬ (((tD F all_6).getD false) = true) then some false else (eG F (fun d : Int => aDk F s_0 d) (0 : Int)).bind (fun e => match e with | (.inl e) => aAg F s_0 | (.inr e) => some e))
def aD1 (F : Md) (s_0 : qc) (x58_17 : Int) (all_18 : qw) : Option ((Int × qw) ⊕ qw) :=
 if x58_17 < (s_0.2.2.2.2.1.length : Int) then ck (0 ≤ x58_17 ∧ x58_17 < (s_0.2.2.2.2.1.length : Int)) (ck (((all_18.length) + (1 : Nat)) * 16 ≤ 140737488355328) (ck (I64 (x58_17 + (1 : Int))) (some (.inl ((x58_17 + (1 : Int)), (all_18 ++ ([(s_0.2.2.2.2.1.getD (x58_17.toNat) ([], (Ex.mk 0 [] []), ())).1] : List qd))))))) else some (.inr all_18)
def aAi (F : Md) (s_0 : qc) : Option Bool :=
 if (((((s_0.2.1.length : Int) < (1 : Int)) ∨ ((6 : Int) < (s_0.2.1.length : Int))) ∨ ((6 : Int) < (s_0.2.2.1.length : Int))) ∨ ((4 : Int) < (s_0.2.2.2.1.length : Int))) ∨ ((4 : Int) < (s_0.2.2.2.2.1.length : Int)) then some false else ck ((bH F s_0).isSome = true) (ck ((cE F ([((bH F s_0).getD (([] : List qd), ([] : List qd), ([] : List qd), ())).1, ((bH F s_0).getD (([] : List qd), ([] : List qd), ([] : List qd), ())).2.1, ((bH F s_0).getD (([] : List qd), ([] : List qd), ([] : List qd), ())).2.2.1] : List qw)).isSome = true) (ck (aXn ((cE F ([((bH F s_0).getD (([] : List qd), ([] : List qd), ([] : List qd), ())).1, ((bH F s_0).getD (([] : List qd), ([] : List qd), ([] : List qd), ())).2.1, ((bH F s_0).getD (([] : List qd), ([] : List qd), ([] : List qd), ())).2.2.1] : List qw)).getD ([] : List qd))) ((eG F (fun d : Int × qw => aD1 F s_0 d.1 d.2) ((0 : Int), (id ((cE F ([((bH F s_0).getD (([] : List qd), ([] : List qd), ([] : List qd), ())).1, ((bH F s_0).getD (([] : List qd), ([] : List qd), ([] : List qd), ())).2.1, ((bH F s_0).getD (([] : List qd), ([] : List qd), ([] : List qd), ())).2.2.1] : List qw)).getD ([] : List qd))))).bind (fun e => aAh F s_0 e))))
@[go_sem]def aAj : Ty := .pair qa .unit
def xN (F : Md) : aJ := mSpec aAj (.one .bool) (fun x => aAi F x.1)
abbrev lF (F : Md) : List (FuncId × aJ) := [(76, (cY F)), (37, (rH F)), (71, (zX F)), (72, (nE F)), (73, lE), (74, (xL F)), (75, (oP F))]
theorem aHE [Mx] (F : Md) : bJ Tryz.prog GL (lF F) := .cons (nO F) xAa (.cons (aHo F) xAa (.cons (aPl F) xAa (.cons (aEO F) xAa (.cons aFV xAa (.cons (aNv F) xAa (.cons (aEV F) xAa (.nil)))))))
theorem aNA [Mx] (F : Md) : FOK Tryz.prog GL 36 (xN F) := by
 refine sW (aV (aHE F)) Tryz.func36 rfl xAa xAc fun w0 S x r hw h => ?_
 have hF : fT (fr Tryz.prog (EM (lF F)) S w0 Tryz.f36.ntmps) := ⟨aV (aHE F), mix⟩
 obtain ⟨(s_0 : qc), u⟩ := x
 simp only [aAj, Ty.wf, fF] at hw
 simp only [bX, aAj]
 try dsimp only at h
 replace h : aAi F s_0 = some r := h
 unfold aAi at h
 refine aB (aT hF [1] (yaA ?_))
 refine aA (aB (aB (aF hF [1, 41] (yaA ?_))))
 refine aA (bG rfl (fun hc => ?_) (fun hc => ?_))
 ·try simp only [go_sem] at hc
  have h := eC zAB h
  refine aB (aF hF [2] (yaA ?_))
  obtain rfl := Option.some.inj h
  refine aA (cD (cS (jF hF [.tmp 2] rfl rfl rfl ?_)))
  exact zAG
 ·try simp only [go_sem] at hc
  have h := eD zAB h
  refine cI (aA (aB (aF hF [1, 3, 4, 5] (yaA ?_))))
  obtain ⟨g0, h⟩ := aQ h
  repeat (refine ⟨zAA, ?_⟩)
  refine aA (aB (aT hF [1, 6] (yaA ?_)))
  obtain ⟨g0, h⟩ := aQ h
  repeat (refine ⟨zAA, ?_⟩)
  refine aA (aB (aT hF [1, 6, 7] (yaA ?_)))
  obtain ⟨g0, h⟩ := aQ h
  repeat (refine ⟨zAA, ?_⟩)
  refine aA (qZ (D := qw) (fun d => aAh F s_0 d = some r) [] (fun d => [(1, .ptr 0 []), (6, .ptr 1 []), (7, .own 2)]) (fun d => [.inr (.box 5 (.val qa s_0)), .inr (.box 1 (.val wg ((cE F ([((bH F s_0).getD (([] : List qd), ([] : List qd), ([] : List qd), ())).1, ((bH F s_0).getD (([] : List qd), ([] : List qd), ([] : List qd), ())).2.1, ((bH F s_0).getD (([] : List qd), ([] : List qd), ([] : List qd), ())).2.2.1] : List qw)).getD ([] : List qd)))), .inr (.row 9 .str d)]) ?_ ?_)
  ·refine aB (aF hF [1, 6, 7, 56, 57, 58] (yaA ?_))
   refine aA (eB (pS (D := Int × qw) [56, 57] (fun d => [(1, .ptr 0 []), (6, .ptr 1 []), (7, .own 2), (58, .val qe d.1)]) (fun d => [.inr (.box 5 (.val qa s_0)), .inr (.box 1 (.val wg ((cE F ([((bH F s_0).getD (([] : List qd), ([] : List qd), ([] : List qd), ())).1, ((bH F s_0).getD (([] : List qd), ([] : List qd), ([] : List qd), ())).2.1, ((bH F s_0).getD (([] : List qd), ([] : List qd), ([] : List qd), ())).2.2.1] : List qw)).getD ([] : List qd)))), .inr (.row 9 .str d.2)]) h ?_ ?_ ?_))
   ·first | rfl | (simp only [go_sem]; done)
   ·exact zAF
   rintro ⟨x58_17, all_18⟩ s7 h hs7
   simp only [go_sem]
   try dsimp only at h
   unfold aD1 at h
   refine aB (aF hF [1, 6, 7, 56, 57, 58, 59] (yaA ?_))
   refine aA (aB (bG rfl (fun hc => ?_) (fun hc => ?_)))
   ·try simp only [go_sem] at hc
    have h := eC zAB h
    refine cI (aA (aB (eB (aB (aT hF [1, 6, 7, 9, 56, 57, 58] (yaA ?_))))))
    obtain ⟨g0, h⟩ := aQ h
    repeat (refine ⟨zAA, ?_⟩)
    refine aA (aT hF [1, 6, 7, 56, 57, 58] (yaA ?_))
    obtain ⟨g0, h⟩ := aQ h
    repeat (refine ⟨zAA, ?_⟩)
    refine bC (aA (aF hF [1, 6, 7, 56, 57, 58] (yaA ?_)))
    obtain ⟨g0, h⟩ := aQ h
    try simp only [I64, I32] at g0
    repeat (refine ⟨zAA, ?_⟩)
    obtain rfl := Option.some.inj h
    dsimp only [mZ] at hs7
    refine bY (gT [0, 1, 4] rfl rfl (yaC ?_))
    refine aZ ((x58_17 + (1 : Int)), (all_18 ++ ([(s_0.2.2.2.2.1.getD (x58_17.toNat) ([], (Ex.mk 0 [] []), ())).1] : List qd))) hs7 rfl ?_
    ·exact zAF
   ·try simp only [go_sem] at hc
    have h := eD zAB h
    obtain rfl := Option.some.inj h
    dsimp only [mZ] at hs7
    have h := yaF (hs7)
    refine sK (dY (dY (gL (bY (aZ (all_18) h rfl ?_)))))
    ·exact zAF
  ·rintro all_6 h
   try dsimp only at h
   simp only [go_sem]
   unfold aAh at h
   refine aB (aB (aF hF [1, 6, 70] (yaA ?_)))
   obtain ⟨g0, h⟩ := aQ h
   repeat (refine ⟨zAA, ?_⟩)
   refine aA (bG rfl (fun hc => ?_) (fun hc => ?_))
   ·try simp only [go_sem] at hc
    have h := eC zAB h
    refine aB (aF hF [2] (yaA ?_))
    obtain rfl := Option.some.inj h
    refine aA (cD (cS (jF hF [.tmp 2] rfl rfl rfl ?_)))
    exact zAG
   ·try simp only [go_sem] at hc
    have h := eD zAB h
    refine cI (aA (qZ (D := Unit) (fun d => aAg F s_0 = some r) [] (fun d => [(1, .ptr 0 []), (6, .ptr 1 [])]) (fun d => [.inr (.box 5 (.val qa s_0)), .inr (.box 1 (.val wg ((cE F ([((bH F s_0).getD (([] : List qd), ([] : List qd), ([] : List qd), ())).1, ((bH F s_0).getD (([] : List qd), ([] : List qd), ([] : List qd), ())).2.1, ((bH F s_0).getD (([] : List qd), ([] : List qd), ([] : List qd), ())).2.2.1] : List qw)).getD ([] : List qd))))]) ?_ ?_))
    ·refine aB (aF hF [1, 6, 72, 73, 74] (yaA ?_))
     refine aA (eB (aJM [0, 1] rfl rfl (yaC ?_)))
     refine pS (D := Int) [72, 73] (fun d => [(1, .ptr 0 []), (6, .ptr 1 []), (74, .val qe d)]) (fun d => [.inr (.box 5 (.val qa s_0)), .inr (.box 1 (.val wg ((cE F ([((bH F s_0).getD (([] : List qd), ([] : List qd), ([] : List qd), ())).1, ((bH F s_0).getD (([] : List qd), ([] : List qd), ([] : List qd), ())).2.1, ((bH F s_0).getD (([] : List qd), ([] : List qd), ([] : List qd), ())).2.2.1] : List qw)).getD ([] : List qd))))]) h ?_ ?_ ?_
     ·first | rfl | (simp only [go_sem]; done)
     ·exact zAF
     rintro x74_14 s14 h hs14
     simp only [go_sem]
     try dsimp only at h
     unfold aDk at h
     refine aB (aF hF [1, 6, 72, 73, 74, 75] (yaA ?_))
     refine aA (aB (bG rfl (fun hc => ?_) (fun hc => ?_)))
     ·try simp only [go_sem] at hc
      have h := eC zAB h
      refine cI (aA (aB (eB (aB (aT hF [1, 6, 11, 72, 73, 74] (yaA ?_))))))
      obtain ⟨g0, h⟩ := aQ h
      repeat (refine ⟨zAA, ?_⟩)
      refine aA (aB (aF hF [1, 6, 72, 73, 74, 88] (yaA ?_)))
      obtain ⟨g0, h⟩ := aQ h
      obtain ⟨g1, h⟩ := aQ h
      repeat (refine ⟨by first | with_reducible assumption | omega | (intros; first | with_reducible assumption | omega) | (simp only [go_sem] at *; first | with_reducible assumption | omega) | (intro _; exact ⟨rfl, by decide⟩) | (intro _; refine (?_ : _ = aD _); rfl) | (refine (?_ : _ = aD _); rfl) | exact ⟨rfl, rfl⟩ | (intro q0; (try have e1 := g1 (by first | exact q0 | omega | (simpa using q0))); first | assumption | omega) | decide, ?_⟩)
      refine aA (bG rfl (fun hc => ?_) (fun hc => ?_))
      ·try simp only [go_sem] at hc
       have h := eC zAB h
       refine aB (aF hF [2] (yaA ?_))
       obtain rfl := Option.some.inj h
       dsimp only [mZ] at hs14
       have h := yaF (hs14)
       obtain rfl := Option.some.inj h
       refine aA (cD (gE (cS (cS (gE (cS (jF hF [.tmp 2] rfl rfl rfl ?_)))))))
       exact zAG
      ·try simp only [go_sem] at hc
       have h := eD zAB h
       refine cI (bC (aA (aF hF [1, 6, 72, 73, 74] (yaA ?_))))
       obtain ⟨g0, h⟩ := aQ h
       try simp only [I64, I32] at g0
       repeat (refine ⟨zAA, ?_⟩)
       obtain rfl := Option.some.inj h
       dsimp only [mZ] at hs14
       refine bY (gT [0, 1] rfl rfl (yaC ?_))
       refine aZ (x74_14 + (1 : Int)) hs14 rfl ?_
       ·exact zAF
     ·try simp only [go_sem] at hc
      have h := eD zAB h
      obtain rfl := Option.some.inj h
      dsimp only [mZ] at hs14
      have h := yaF (hs14)
      refine sK (dY (dY (gL (bY (aZ () h rfl ?_)))))
      ·exact zAF
    ·rintro u h
     try dsimp only at h
     simp only [go_sem]
     unfold aAg at h
     refine aB (aB (aF hF [1, 6, 91, 92, 93] (yaA ?_)))
     refine aA (eB (pS (D := Int) [91, 92] (fun d => [(1, .ptr 0 []), (6, .ptr 1 []), (93, .val qe d)]) (fun d => [.inr (.box 5 (.val qa s_0)), .inr (.box 1 (.val wg ((cE F ([((bH F s_0).getD (([] : List qd), ([] : List qd), ([] : List qd), ())).1, ((bH F s_0).getD (([] : List qd), ([] : List qd), ([] : List qd), ())).2.1, ((bH F s_0).getD (([] : List qd), ([] : List qd), ([] : List qd), ())).2.2.1] : List qw)).getD ([] : List qd))))]) h ?_ ?_ ?_))
     ·first | rfl | (simp only [go_sem]; done)
     ·exact zAF
     rintro x93_11 s20 h hs20
     simp only [go_sem]
     try dsimp only at h
     unfold aDj at h
     refine aB (aF hF [1, 6, 91, 92, 93, 94] (yaA ?_))
     refine aA (aB (bG rfl (fun hc => ?_) (fun hc => ?_)))
     ·try simp only [go_sem] at hc
      have h := eC zAB h
      refine cI (aA (aB (eB (aB (aT hF [1, 6, 13, 91, 92, 93] (yaA ?_))))))
      obtain ⟨g0, h⟩ := aQ h
      repeat (refine ⟨zAA, ?_⟩)
      refine aA (aB (aF hF [1, 6, 91, 92, 93, 100] (yaA ?_)))
      obtain ⟨g0, h⟩ := aQ h
      repeat (refine ⟨zAA, ?_⟩)
      refine aA (bG rfl (fun hc => ?_) (fun hc => ?_))
      ·try simp only [go_sem] at hc
       have h := eC zAB h
       refine aB (aF hF [2] (yaA ?_))
       obtain rfl := Option.some.inj h
       dsimp only [mZ] at hs20
       have h := yaF (hs20)
       obtain rfl := Option.some.inj h
       refine aA (cD (gE (cS (cS (gE (cS (jF hF [.tmp 2] rfl rfl rfl ?_)))))))
       exact zAG
      ·try simp only [go_sem] at hc
       have h := eD zAB h
       refine cI (bC (aA (aF hF [1, 6, 91, 92, 93] (yaA ?_))))
       obtain ⟨g0, h⟩ := aQ h
       try simp only [I64, I32] at g0
       repeat (refine ⟨zAA, ?_⟩)
       obtain rfl := Option.some.inj h
       dsimp only [mZ] at hs20
       refine bY (gT [0, 1] rfl rfl (yaC ?_))
       refine aZ (x93_11 + (1 : Int)) hs20 rfl ?_
       ·exact zAF
     ·try simp only [go_sem] at hc
      have h := eD zAB h
      obtain rfl := Option.some.inj h
      dsimp only [mZ] at hs20
      have h := yaF (hs20)
      refine sK (dY (dY (gL (aA (aB (aBh 1 rfl (yaA ?_)))))))
      refine aF hF [2] (yaA ?_)
      obtain ⟨g0, h⟩ := aQ h
      repeat (refine ⟨zAA, ?_⟩)
      exact za4
attribute [go_sem] xN
def aBK (F : Md) (s_0 : qf) (sub_1 : qd) (x10_5 : Int) : Option ((Int) ⊕ ((Unit) ⊕ Int)) :=
 if x10_5 < (s_0.2.2.2.2.2.2.2.2.1.length : Int) then ck (0 ≤ x10_5 ∧ x10_5 < (s_0.2.2.2.2.2.2.2.2.1.length : Int)) (if (s_0.2.2.2.2.2.2.2.2.1.getD (x10_5.toNat) ([], [], [], [], [], ())).1 = sub_1 then some (.inr (.inr x10_5)) else ck (I64 (x10_5 + (1 : Int))) (some (.inl (x10_5 + (1 : Int))))) else some (.inr (.inl ()))
def aCE (F : Md) (s_0 : qf) (sub_1 : qd) : Option Int :=
 (eG F (fun d : Int => aBK F s_0 sub_1 d) (0 : Int)).bind (fun e => match e with | (.inl e) => some (-1 : Int) | (.inr e) => some e)
def aIE : PlR := ⟨[(0, .B [1, 2]), (1, .A [1, 8, 9, 10]), (2, .A [1, 8, 9, 10, 11]), (3, .B [1, 5, 6, 8, 9, 10]), (4, .A [1, 5, 8, 9, 10, 18]), (5, .A [4]), (6, .A [1, 8, 9, 10]), (7, .A [4])], []⟩
def aKK : Ty := .pair qj wh
def aA5 (F : Md) : aJ := mSpec aKK (.one qe) (fun x => aCE F x.1 x.2.1)
abbrev aRy (F : Md) : List (FuncId × aJ) := []
theorem aRz [Mx] (F : Md) : bJ Tryz.prog GL (aRy F) := .nil
attribute [go_sem] aKK aIE
theorem aP5 [Mx] (F : Md) : FOK Tryz.prog GL 79 (aA5 F) := by
 refine bT (aV (aRz F)) mix Tryz.func79 rfl xAa xAc aIE fun w0 S x Θ hw h hF => ?_
 obtain ⟨(s_0 : qf), (sub_1 : qd), u⟩ := x
 simp only [bX, go_sem]
 replace h : sat (aCE F s_0 sub_1) _ := h
 unfold aCE at h
 refine aJM [] rfl rfl (yaA ?_)
 refine cG hF (D := Int) [1, 8, 9] (fun d => [(10, .val qe d)]) (fun d => []) h rfl xAb ?_
 rintro x10_5 A2 T2 hA2 hE2 h
 simp only [go_sem]
 replace h : sat (aBK F s_0 sub_1 x10_5) _ := h
 unfold aBK at h
 refine fI h (fun hc h => ?_) fun hc h => ?_
 ·refine aR h fun g0 h => ?_
  refine eH h (fun hc h => ?_) fun hc h => ?_
  ·replace h := yaF (hE2 _ (aE h))
   exact zaD
  ·refine aR h fun g0 h => ?_
   replace h := hA2 _ (aE h)
   refine gT [] rfl rfl (yaA ?_)
   exact zaI
 ·replace h := yaF (hE2 _ (aE h))
  exact zaD
attribute [go_sem] aA5
def vI (F : Md) (o_0 : qz) (a1_1 : wd) : Option Bool :=
 ck ((0 : Int) < (a1_1.length : Int)) (some (decide (o_0.1 = (a1_1.getD (0 : Nat) ([], [], [], [], ())).2.2.2.1)))
def aD2 : PlR := ⟨[(0, .B [1, 2]), (1, .A [3])], []⟩
def aEY : Ty := .pair qr (.pair (.rp (.sl qs)) .unit)
def tR (F : Md) : aJ := mSpec aEY (.one .bool) (fun x => vI F x.1 x.2.1)
abbrev aLU (F : Md) : List (FuncId × aJ) := []
theorem aLV [Mx] (F : Md) : bJ Tryz.prog GL (aLU F) := .nil
attribute [go_sem] aEY aD2
theorem aKL [Mx] (F : Md) : FOK Tryz.prog GL 80 (tR F) := by
 refine bT (aV (aLV F)) mix Tryz.func80 rfl xAa xAc aD2 fun w0 S x Θ hw h hF => ?_
 obtain ⟨(o_0 : qz), (a1_1 : wd), u⟩ := x
 simp only [bX, go_sem]
 replace h : sat (vI F o_0 a1_1) _ := h
 unfold vI at h
 refine aR h fun g0 h => ?_
 exact aL hF [.tmp 3] rfl rfl rfl (aE h) xAd
attribute [go_sem] tR
def eP (F : Md) (s_0 : wt) (f_1 : (wd × Unit)) (x8_14 : Int) : Option ((Int) ⊕ ((Unit) ⊕ Int)) :=
 if x8_14 < (s_0.length : Int) then ck (0 ≤ x8_14 ∧ x8_14 < (s_0.length : Int)) ((vI F (s_0.getD (x8_14.toNat) ([], (Ex.mk 0 [] []), ())) f_1.1).bind (fun v_27 => if v_27 = true then some (.inr (.inr x8_14)) else ck (I64 (x8_14 + (1 : Int))) (some (.inl (x8_14 + (1 : Int)))))) else some (.inr (.inl ()))
def dN (F : Md) (s_0 : wt) (f_1 : (wd × Unit)) : Option Int :=
 (eG F (fun d : Int => eP F s_0 f_1 d) (0 : Int)).bind (fun e => match e with | (.inl e) => some (-1 : Int) | (.inr e) => some e)
def iN : PlR := ⟨[(0, .A [0, 1]), (1, .A [0, 1, 7, 8]), (2, .A [0, 1, 7, 8, 9]), (3, .A [0, 1, 5, 7, 8]), (4, .A [0, 1, 5, 7, 8, 16]), (5, .A [4]), (6, .A [0, 1, 7, 8]), (7, .A [4])], []⟩
def iU : Ty := .pair (.sl qr) (.pair (.clo 80 (.pair (.rp (.sl qs)) .unit)) .unit)
def dH (F : Md) : aJ := mSpec iU (.one qe) (fun x => dN F x.1 x.2.1)
abbrev iV (F : Md) : List (FuncId × aJ) := [(80, (tR F))]
theorem pL [Mx] (F : Md) : bJ Tryz.prog GL (iV F) := .cons (aKL F) xAa (.nil)
attribute [go_sem] iU iN
theorem pB [Mx] (F : Md) : FOK Tryz.prog GL 116 (dH F) := by
 refine bT (aV (pL F)) mix Tryz.func116 rfl xAa xAc iN fun w0 S x Θ hw h hF => ?_
 obtain ⟨(s_0 : wt), (f_1 : (wd × Unit)), u⟩ := x
 simp only [bX, go_sem]
 replace h : sat (dN F s_0 f_1) _ := h
 unfold dN at h
 refine cG hF (D := Int) [0, 1, 7] (fun d => [(8, .val qe d)]) (fun d => []) h rfl xAb ?_
 rintro x8_14 A2 T2 hA2 hE2 h
 simp only [go_sem]
 replace h : sat (eP F s_0 f_1 x8_14) _ := h
 unfold eP at h
 exact zaP
attribute [go_sem] dH
def cM (F : Md) (s_0 : wt) (f_1 : (wd × Unit)) : Option Bool :=
 (dN F s_0 f_1).bind (fun v_8 => some (decide ((0 : Int) ≤ v_8)))
def gR : PlR := ⟨[(0, .A [0, 1]), (1, .A [4])], []⟩
def hO : Ty := .pair (.sl qr) (.pair (.clo 80 (.pair (.rp (.sl qs)) .unit)) .unit)
def cZ (F : Md) : aJ := mSpec hO (.one .bool) (fun x => cM F x.1 x.2.1)
abbrev hP (F : Md) : List (FuncId × aJ) := [(116, (dH F))]
theorem oG [Mx] (F : Md) : bJ Tryz.prog GL (hP F) := .cons (pB F) xAa (.nil)
attribute [go_sem] hO gR
theorem nP [Mx] (F : Md) : FOK Tryz.prog GL 76 (cZ F) := by
 refine bT (aV (oG F)) mix Tryz.func76 rfl xAa xAc gR fun w0 S x Θ hw h hF => ?_
 obtain ⟨(s_0 : wt), (f_1 : (wd × Unit)), u⟩ := x
 simp only [bX, go_sem]
 replace h : sat (cM F s_0 f_1) _ := h
 unfold cM at h
 obtain ⟨v_8, hv, h⟩ := aP h
 exact zaR
attribute [go_sem] cZ
def aAk (F : Md) (s_0 : qf) (x14_42 : Int) (x21_83 : Int) (l_84 : wd) : Option ((Int × wd) ⊕ (wd ⊕ Bool)) :=
 if x21_83 < (((s_0.2.2.2.2.2.2.2.2.1.getD (x14_42.toNat) ([], [], [], [], [], ())).2.2.2.1.length : Nat) : Int) then ck (0 ≤ x21_83 ∧ x21_83 < (((s_0.2.2.2.2.2.2.2.2.1.getD (x14_42.toNat) ([], [], [], [], [], ())).2.2.2.1.length : Nat) : Int)) (ck (¬ ((l_84.length : Int) = (0 : Int)) → ((0 : Int) < (l_84.length : Int))) (ck (¬ (((l_84.length : Int) = (0 : Int)) ∨ (¬ ((l_84.getD (0 : Nat) ([], [], [], [], ())).1 = (s_0.2.2.2.2.2.2.2.2.1.getD (x14_42.toNat) ([], [], [], [], [], ())).1))) → ((0 : Int) < (l_84.length : Int))) (if (((l_84.length : Int) = (0 : Int)) ∨ (¬ ((l_84.getD (0 : Nat) ([], [], [], [], ())).1 = (s_0.2.2.2.2.2.2.2.2.1.getD (x14_42.toNat) ([], [], [], [], [], ())).1))) ∨ (¬ ((l_84.getD (0 : Nat) ([], [], [], [], ())).2.1 = ((s_0.2.2.2.2.2.2.2.2.1.getD (x14_42.toNat) ([], [], [], [], [], ())).2.2.2.1.getD (x21_83.toNat) ([] : List Nat)))) then some (.inr (.inr false)) else ck ((0 : Int) < (l_84.length : Int)) ((aCE F s_0 (l_84.getD (0 : Nat) ([], [], [], [], ())).2.2.1).bind (fun v_99 => ck (¬ (v_99 < (0 : Int)) → (0 ≤ v_99 ∧ v_99 < (s_0.2.2.2.2.2.2.2.2.1.length : Int))) (ck (¬ (v_99 < (0 : Int)) → ((cM F (s_0.2.2.2.2.2.2.2.2.1.getD (v_99.toNat) ([], [], [], [], [], ())).2.2.2.2.1 (l_84, ())).isSome = true)) (if (v_99 < (0 : Int)) ∨ (¬ (((cM F (s_0.2.2.2.2.2.2.2.2.1.getD (v_99.toNat) ([], [], [], [], [], ())).2.2.2.2.1 (l_84, ())).getD false) = true)) then some (.inr (.inr false)) else ck ((1 : Int) ≤ (l_84.length : Int)) (ck (I64 (x21_83 + (1 : Int))) (some (.inl ((x21_83 + (1 : Int)), (List.drop (1 : Nat) l_84)))))))))))) else some (.inr (.inl l_84))
def aAl (F : Md) (s_0 : qf) (x14_42 : Int) (l_43 : wd) : Option ((Int × wd) ⊕ (wd ⊕ Bool)) :=
 if x14_42 < (s_0.2.2.2.2.2.2.2.2.1.length : Int) then ck (0 ≤ x14_42 ∧ x14_42 < (s_0.2.2.2.2.2.2.2.2.1.length : Int)) ((eG F (fun d : Int × wd => aAk F s_0 x14_42 d.1 d.2) ((0 : Int), l_43)).bind (fun e => match e with | (.inl e) => ck (I64 (x14_42 + (1 : Int))) (some (.inl ((x14_42 + (1 : Int)), e))) | (.inr e) => some (.inr (.inr e)))) else some (.inr (.inl l_43))
def uM (F : Md) (s_0 : qf) : Option Bool :=
 (eG F (fun d : Int × wd => aAl F s_0 d.1 d.2) ((0 : Int), s_0.2.2.2.2.2.2.2.2.2.1)).bind (fun e => match e with | (.inl e) => some (decide ((e.length : Int) = (0 : Int))) | (.inr e) => some e)
def aGp : PlR := ⟨[(0, .B [1]), (1, .B [1, 3]), (2, .A [1, 3, 12, 13, 14]), (3, .A [1, 3, 12, 13, 14, 15]), (4, .B [1, 3, 5, 12, 13, 14]), (5, .A [1, 3, 5, 12, 13, 14, 19, 20, 21]), (6, .A [1, 3, 5, 12, 13, 14, 19, 20, 21, 22]), (7, .A [1, 3, 5, 7, 12, 13, 14, 19, 20, 21]), (8, .A [1, 3, 5, 12, 13, 14, 19, 20, 21, 44]), (9, .A [2]), (10, .A [1, 3, 5, 8, 12, 13, 14, 19, 20, 21]), (11, .A [1, 3, 5, 12, 13, 14, 19, 20, 21, 63]), (12, .A [2]), (13, .B [1, 3, 5, 12, 13, 14, 19, 20, 21]), (14, .A [1, 3, 5, 12, 13, 14, 19, 20, 21]), (15, .A [1, 3, 12, 13, 14]), (16, .A [2])], []⟩
def aHF : Ty := .pair qj .unit
def xO (F : Md) : aJ := mSpec aHF (.one .bool) (fun x => uM F x.1)
abbrev aDl (F : Md) : List (FuncId × aJ) := [(76, (cZ F)), (79, (aA5 F))]
theorem aPp [Mx] (F : Md) : bJ Tryz.prog GL (aDl F) := .cons (nP F) xAa (.cons (aP5 F) xAa (.nil))
attribute [go_sem] aHF aGp
theorem aNB [Mx] (F : Md) : FOK Tryz.prog GL 38 (xO F) := by
 refine bT (aV (aPp F)) mix Tryz.func38 rfl xAa xAc aGp fun w0 S x Θ hw h hF => ?_
 obtain ⟨(s_0 : qf), u⟩ := x
 simp only [bX, go_sem]
 replace h : sat (uM F s_0) _ := h
 unfold uM at h
 refine cG hF (D := Int × wd) [12, 13] (fun d => [(1, .ptr 0 []), (3, .ptr 1 []), (14, .val qe d.1)]) (fun d => [.inr (.box 10 (.val qj s_0)), .inr (.box 1 (.val (.sl qs) d.2))]) h rfl xAb ?_
 rintro ⟨x14_42, l_43⟩ A3 T3 hA3 hE3 h
 simp only [go_sem]
 replace h : sat (aAl F s_0 x14_42 l_43) _ := h
 unfold aAl at h
 refine fI h (fun hc h => ?_) fun hc h => ?_
 ·obtain ⟨g0, h⟩ := aS h
  repeat (refine ⟨zAA, ?_⟩)
  refine cG hF (D := Int × wd) [12, 13, 14, 19, 20] (fun d => [(1, .ptr 0 []), (3, .ptr 1 []), (5, .ptr 2 []), (21, .val qe d.1)]) (fun d => [.inr (.box 10 (.val qj s_0)), .inr (.box 1 (.val (.sl qs) d.2)), .inr (.box 5 (.val qa (s_0.2.2.2.2.2.2.2.2.1.getD (x14_42.toNat) ([], [], [], [], [], ()))))]) h rfl xAb ?_
  rintro ⟨x21_83, l_84⟩ A6 T6 hA6 hE6 h
  simp only [go_sem]
  replace h : sat (aAk F s_0 x14_42 x21_83 l_84) _ := h
  unfold aAk at h
  refine fI h (fun hc h => ?_) fun hc h => ?_
  ·obtain ⟨g0, h⟩ := aS h
   repeat (refine ⟨zAA, ?_⟩)
   obtain ⟨g0, h⟩ := aS h
   obtain ⟨g1, h⟩ := aS h
   repeat (refine ⟨zAE, ?_⟩)
   refine ⟨fun hc => ?_, fun hc => ?_⟩
   ·replace h := jG hc h
    replace h := yaF (hE6 _ (aE h))
    replace h := yaF (hE3 _ (aE h))
    exact zaF
   ·replace h := jH hc h
    obtain ⟨g0, h⟩ := aS h
    repeat (refine ⟨zAA, ?_⟩)
    obtain ⟨v_99, hv, h⟩ := aP h
    try simp only [hv, go_sem]
    obtain ⟨g0, h⟩ := aS h
    obtain ⟨g1, h⟩ := aS h
    repeat (refine ⟨zAE, ?_⟩)
    refine ⟨fun hc => ?_, fun hc => ?_⟩
    ·replace h := jG zAB h
     replace h := yaF (hE6 _ (aE h))
     replace h := yaF (hE3 _ (aE h))
     exact zaF
    ·replace h := jH zAB h
     obtain ⟨g0, h⟩ := aS h
     repeat (refine ⟨zAA, ?_⟩)
     obtain ⟨g0, h⟩ := aS h
     try simp only [I64, I32] at g0
     repeat (refine ⟨zAA, ?_⟩)
     replace h := hA6 _ (aE h)
     exact zaI
  ·replace h := yaF (hE6 _ (aE h))
   obtain ⟨g0, h⟩ := aS h
   try simp only [I64, I32] at g0
   repeat (refine ⟨zAA, ?_⟩)
   replace h := hA3 _ (aE h)
   refine gT [0, 1] rfl rfl (yaA ?_)
   exact zaI
 ·replace h := yaF (hE3 _ (aE h))
  exact zaF
attribute [go_sem] xO
def aAm (F : Md) (s_0 : qf) (names_16 : qw) : Option (Bool) :=
 (tD F names_16).bind (fun v_20 => ck ((v_20 = true) → ((uM F s_0).isSome = true)) (some (v_20 && ((uM F s_0).getD false))))
def aDm (F : Md) (s_0 : qf) (x24_23 : Int) (names_24 : qw) : Option ((Int × qw) ⊕ (qw ⊕ Bool)) :=
 if x24_23 < (s_0.2.2.2.2.2.2.2.2.1.length : Int) then ck (0 ≤ x24_23 ∧ x24_23 < (s_0.2.2.2.2.2.2.2.2.1.length : Int)) ((aAi F (s_0.2.2.2.2.2.2.2.2.1.getD (x24_23.toNat) ([], [], [], [], [], ()))).bind (fun v_37 => if ¬ (v_37 = true) then some (.inr (.inr false)) else ck (((names_24.length) + (1 : Nat)) * 16 ≤ 140737488355328) (ck (I64 (x24_23 + (1 : Int))) (some (.inl ((x24_23 + (1 : Int)), (names_24 ++ ([(s_0.2.2.2.2.2.2.2.2.1.getD (x24_23.toNat) ([], [], [], [], [], ())).1] : List qd)))))))) else some (.inr (.inl names_24))
def aBt (F : Md) (s_0 : qf) : Option Bool :=
 (xK F s_0).bind (fun v_7 => if ((¬ (v_7 = true)) ∨ ((s_0.2.2.2.2.2.2.2.2.1.length : Int) < (1 : Int))) ∨ ((4 : Int) < (s_0.2.2.2.2.2.2.2.2.1.length : Int)) then some false else (eG F (fun d : Int × qw => aDm F s_0 d.1 d.2) ((0 : Int), ([] : List qd))).bind (fun e => match e with | (.inl e) => aAm F s_0 e | (.inr e) => some e))
def aKO : PlR := ⟨[(0, .B [1]), (1, .A [1, 20]), (2, .A [2]), (3, .A [1, 3]), (4, .A [1, 3, 22, 23, 24]), (5, .A [1, 3, 22, 23, 24, 25]), (6, .B [1, 3, 5, 22, 23, 24]), (7, .A [1, 3, 5, 22, 23, 24, 30]), (8, .A [2]), (9, .B [1, 3, 22, 23, 24]), (10, .A [1, 3, 22, 23, 24]), (11, .A [2])], [(7, 14)]⟩
def aMT : Ty := .pair qj .unit
def aCF (F : Md) : aJ := mSpec aMT (.one .bool) (fun x => aBt F x.1)
abbrev aBu (F : Md) : List (FuncId × aJ) := [(35, (vD F)), (36, (xN F)), (37, (rH F)), (38, (xO F))]
theorem aSD [Mx] (F : Md) : bJ Tryz.prog GL (aBu F) := .cons (aLQ F) xAa (.cons (aNA F) xAa (.cons (aHo F) xAa (.cons (aNB F) xAa (.nil))))
attribute [go_sem] aMT aKO
theorem aRA [Mx] (F : Md) : FOK Tryz.prog GL 16 (aCF F) := by
 refine bT (aV (aSD F)) mix Tryz.func16 rfl xAa xAc aKO fun w0 S x Θ hw h hF => ?_
 obtain ⟨(s_0 : qf), u⟩ := x
 simp only [bX, go_sem]
 replace h : sat (aBt F s_0) _ := h
 unfold aBt at h
 obtain ⟨v_7, hv, h⟩ := aP h
 try simp only [hv, go_sem]
 refine ⟨fun hc => ?_, fun hc => ?_⟩
 ·replace h := jG zAB h
  exact zaF
 ·replace h := jH zAB h
  refine eY hF (D := qw) (fun d => sat (aAm F s_0 d) Θ) [] (fun d => [(1, .ptr 0 []), (3, .own 1)]) (fun d => [.inr (.box 10 (.val qj s_0)), .inr (.row 9 .str d)]) ?_ ?_
  ·simp only [go_sem]
   refine aCV 3 9 .str rfl (yaA ?_)
   refine cG hF (D := Int × qw) [22, 23] (fun d => [(1, .ptr 0 []), (3, .own 1), (24, .val qe d.1)]) (fun d => [.inr (.box 10 (.val qj s_0)), .inr (.row 9 .str d.2)]) h rfl xAb ?_
   rintro ⟨x24_23, names_24⟩ A5 T5 hA5 hE5 h
   simp only [go_sem]
   replace h : sat (aDm F s_0 x24_23 names_24) _ := h
   unfold aDm at h
   refine fI h (fun hc h => ?_) fun hc h => ?_
   ·obtain ⟨g0, h⟩ := aS h
    repeat (refine ⟨by omega, ?_⟩)
    obtain ⟨v_37, hv, h⟩ := aP h
    try simp only [hv, go_sem]
    refine aEb h (fun hc h => ?_) fun hc h => ?_
    ·replace h := yaF (hE5 _ (aE h))
     exact zaF
    ·obtain ⟨g0, h⟩ := aS h
     repeat (refine ⟨by omega, ?_⟩)
     obtain ⟨g0, h⟩ := aS h
     repeat (refine ⟨by omega, ?_⟩)
     replace h := hA5 _ (aE h)
     refine gT [0, 3] rfl rfl (yaA ?_)
     exact zaI
   ·replace h := yaF (hE5 _ (aE h))
    exact aZ (names_24) h rfl xAb
  ·rintro names_16 h
   simp only [go_sem]
   replace h : sat (aAm F s_0 names_16) _ := h
   unfold aAm at h
   obtain ⟨v_20, hv, h⟩ := aP h
   try simp only [hv, go_sem]
   obtain ⟨g0, h⟩ := aS h
   repeat (refine ⟨by omega, ?_⟩)
   exact zaF
attribute [go_sem] aCF
end
end Nu
end Go.Proofs
namespace Go.Proofs
open Go.Vc
set_option maxRecDepth 20000
namespace Nu
noncomputable section
set_option maxHeartbeats 4000000
attribute [-go_sem] Ex.kind Ex.text Ex.l
def sT : fW where
 D := qf × (Int × qp) × Int × Unit
 av := fun _ => [.ptr 0 [], .ptr 1 [], .ptr 2 []]
 hp := fun d => [.box 10 (.val qj d.1), .box 2 (.val qn d.2.1), .box 1 (.val qe d.2.2.1)]
 m := 3
 pre := fun _ => True
 out := fun d => .ret (.tup []) [.box 10 (.val qj d.1), .box 2 (.val qn d.2.1), .box 1 (.val qe d.2.2.1)]
def eR (x : q8) : fW where
 D := Unit
 av := fun _ => [.ptr 0 [], .ptr 1 [], .ptr 2 []]
 hp := fun _ => [.box 10 .junk, .box 2 .junk, .box 1 .junk]
 m := 3
 pre := fun _ => True
 out := fun _ => .ret (.tup []) [.box 10 (.val qj ((0 : Int), (0 : Int), (0 : Int), (0 : Int), ([] : List Nat), ([] : List Nat), ([] : List Nat), ([] : List Nat), ([] : List qc), ([] : List qm), ())), .box 2 (.val qn (x).1), .box 1 (.val qe (6 : Int))]
theorem aLW [Mx] : DOK Tryz.prog GL 23 none sT := by
 refine aLf (aV aAw) Tryz.func23 rfl xAa (fun _ => Nat.le_of_ble_eq_true rfl) rfl fun c w d hw1 hw2 hp hn => ?_
 have hF : fT ⟨Tryz.prog, EM [], GM sT c d, w, Tryz.f23.ntmps, []⟩ := ⟨aV aAw, mix⟩
 obtain ⟨d0, d1, d2, du⟩ := d
 show rQ _ _ _ [(6, .val .nili ()), (0, .ptr 0 []), (1, .ptr 1 []), (2, .ptr 2 [])] [.box 10 (.val qj d0), .box 2 (.val qn d1), .box 1 (.val qe d2)] _
 exact za0
theorem vJ [Mx] (x : q8) : DOK Tryz.prog GL 23 (some ⟨65, wi, x⟩) (eR x) := by
 refine aLf (aV aAw) Tryz.func23 rfl xAa (fun _ => Nat.le_of_ble_eq_true rfl) rfl fun c w d hw1 hw2 hp hn => ?_
 have hF : fT ⟨Tryz.prog, EM [], GM (eR x) c d, w, Tryz.f23.ntmps, []⟩ := ⟨aV aAw, mix⟩
 show rQ _ _ _ [(6, .val (.ifc 65 wi) x), (0, .ptr 0 []), (1, .ptr 1 []), (2, .ptr 2 [])] [.box 10 .junk, .box 2 .junk, .box 1 .junk] _
 simp only [go_sem]
 refine aB (aF hF [0, 1, 2, 3, 10] (yaA ?_))
 refine aA (bG rfl (fun hc => ?_) (fun hc => absurd hc xAc))
 refine aDB hF [] [] [.box 10 (.val qj ((0 : Int), (0 : Int), (0 : Int), (0 : Int), ([] : List Nat), ([] : List Nat), ([] : List Nat), ([] : List Nat), ([] : List qc), ([] : List qm), ())), .box 2 (.val qn (x).1), .box 1 (.val qe (6 : Int)), .box 2 (.val wi x)] xAc ?_ ?_
 ·simp only [go_sem]
  exact zaX
 refine gT [0, 1, 2] rfl rfl (yaC ?_)
 exact zaf
def aAR (F : Md) (k_66 : Int) (s_67 : Int) (s_68 : Int) (s_69 : Int) (s_70 : Int) (s_71 : qd) (s_72 : qd) (s_73 : qd) (s_74 : qd) (x_75 : wu) (x_76 : wd) : Option (qf × ((Int × qp) × qp)) :=
 ck ((jV F (s_67, s_68, s_69, s_70, s_71, s_72, s_73, s_74, x_75, x_76, ())).isSome = true) (ck (¬ (k_66 < (7 : Int)) → ((aBt F (s_67, s_68, s_69, s_70, s_71, s_72, s_73, s_74, x_75, ((jV F (s_67, s_68, s_69, s_70, s_71, s_72, s_73, s_74, x_75, x_76, ())).getD ([] : List qm)), ())).isSome = true)) (if (k_66 < (7 : Int)) ∨ (¬ (((aBt F (s_67, s_68, s_69, s_70, s_71, s_72, s_73, s_74, x_75, ((jV F (s_67, s_68, s_69, s_70, s_71, s_72, s_73, s_74, x_75, x_76, ())).getD ([] : List qm)), ())).getD false) = true)) then some (((0 : Int), (0 : Int), (0 : Int), (0 : Int), ([] : List Nat), ([] : List Nat), ([] : List Nat), ([] : List Nat), ([] : List qc), ([] : List qm), ()), (((0 : Int), (0 : Int), ()), ()).1, (6 : Int), ()) else some ((s_67, s_68, s_69, s_70, s_71, s_72, s_73, s_74, x_75, ((jV F (s_67, s_68, s_69, s_70, s_71, s_72, s_73, s_74, x_75, x_76, ())).getD ([] : List qm)), ()), ((0 : Int), (0 : Int), ()), (0 : Int), ())))
def aEZ (F : Md) (text_0 : qd) (k_91 : Int) (x18_92 : Int) (s_93 : Int) (s_94 : Int) (s_95 : Int) (s_96 : Int) (s_97 : qd) (s_98 : qd) (s_99 : qd) (s_100 : qd) (x_101 : wu) (x_102 : wd) : Option ((Int × Int × Int × Int × Int × Int × qd × qd × qd × qd × wu × wd) ⊕ ((Int × Int × Int × Int × Int × qd × qd × qd × qd × wu × wd) ⊕ q8)) :=
 if x18_92 < (((aEm text_0 (aG ⟨#[10]⟩)).length : Nat) : Int) then ck (0 ≤ x18_92 ∧ x18_92 < (((aEm text_0 (aG ⟨#[10]⟩)).length : Nat) : Int)) (ck (aP0 ((aEm text_0 (aG ⟨#[10]⟩)).getD (x18_92.toNat) ([] : List Nat)) (aG ⟨#[35]⟩)) (ck (I64 (x18_92 + (1 : Int))) (ck ((lJ F (wU ((aEm text_0 (aG ⟨#[10]⟩)).getD (x18_92.toNat) ([] : List Nat)) (aG ⟨#[35]⟩)).1 (aG ⟨#[32]⟩)).isSome = true) ((jI F ((x18_92 + (1 : Int)), (0 : Int), ((lJ F (wU ((aEm text_0 (aG ⟨#[10]⟩)).getD (x18_92.toNat) ([] : List Nat)) (aG ⟨#[35]⟩)).1 (aG ⟨#[32]⟩)).getD ([] : List Nat)), ())).bind (fun r_169 => if r_169.1 = (aG ⟨#[]⟩) then ck (I64 (x18_92 + (1 : Int))) (some (.inl (k_91, (x18_92 + (1 : Int)), s_93, s_94, s_95, s_96, s_97, s_98, s_99, s_100, x_101, x_102))) else if k_91 < (7 : Int) then (aCC F k_91 (s_93, s_94, s_95, s_96, s_97, s_98, s_99, s_100, x_101, x_102, ()) r_169.2).bind (fun e => match e with | .inl r_174 => ck (I64 (k_91 + (1 : Int))) (ck (I64 (x18_92 + (1 : Int))) (some (.inl ((k_91 + (1 : Int)), (x18_92 + (1 : Int)), r_174.1.1, r_174.1.2.1, r_174.1.2.2.1, r_174.1.2.2.2.1, r_174.1.2.2.2.2.1, r_174.1.2.2.2.2.2.1, r_174.1.2.2.2.2.2.2.1, r_174.1.2.2.2.2.2.2.2.1, r_174.1.2.2.2.2.2.2.2.2.1, r_174.1.2.2.2.2.2.2.2.2.2.1)))) | .inr p_175 => some (.inr (.inr p_175))) else (aAf F (s_93, s_94, s_95, s_96, s_97, s_98, s_99, s_100, x_101, x_102, ()) r_169.2).bind (fun e => match e with | .inl r_176 => ck (I64 (k_91 + (1 : Int))) (ck (I64 (x18_92 + (1 : Int))) (some (.inl ((k_91 + (1 : Int)), (x18_92 + (1 : Int)), r_176.1.1, r_176.1.2.1, r_176.1.2.2.1, r_176.1.2.2.2.1, r_176.1.2.2.2.2.1, r_176.1.2.2.2.2.2.1, r_176.1.2.2.2.2.2.2.1, r_176.1.2.2.2.2.2.2.2.1, r_176.1.2.2.2.2.2.2.2.2.1, r_176.1.2.2.2.2.2.2.2.2.2.1)))) | .inr p_177 => some (.inr (.inr p_177)))))))) else some (.inr (.inl (k_91, s_93, s_94, s_95, s_96, s_97, s_98, s_99, s_100, x_101, x_102)))
def qO (F : Md) (text_0 : qd) : Option (qf × ((Int × qp) × qp)) :=
 if (20000 : Int) < (text_0.length : Int) then some (((0 : Int), (0 : Int), (0 : Int), (0 : Int), ([] : List Nat), ([] : List Nat), ([] : List Nat), ([] : List Nat), ([] : List qc), ([] : List qm), ()), (((0 : Int), (0 : Int), ()), ()).1, (6 : Int), ()) else ck (aP0 text_0 (aG ⟨#[10]⟩)) ((eG F (fun d : Int × Int × Int × Int × Int × Int × qd × qd × qd × qd × wu × wd => aEZ F text_0 d.1 d.2.1 d.2.2.1 d.2.2.2.1 d.2.2.2.2.1 d.2.2.2.2.2.1 d.2.2.2.2.2.2.1 d.2.2.2.2.2.2.2.1 d.2.2.2.2.2.2.2.2.1 d.2.2.2.2.2.2.2.2.2.1 d.2.2.2.2.2.2.2.2.2.2.1 d.2.2.2.2.2.2.2.2.2.2.2) ((0 : Int), (0 : Int), (0 : Int), (0 : Int), (0 : Int), (0 : Int), ([] : List Nat), ([] : List Nat), ([] : List Nat), ([] : List Nat), ([] : List qc), ([] : List qm))).bind (fun e => match e with | (.inl e) => aAR F e.1 e.2.1 e.2.2.1 e.2.2.2.1 e.2.2.2.2.1 e.2.2.2.2.2.1 e.2.2.2.2.2.2.1 e.2.2.2.2.2.2.2.1 e.2.2.2.2.2.2.2.2.1 e.2.2.2.2.2.2.2.2.2.1 e.2.2.2.2.2.2.2.2.2.2 | (.inr e) => some (((0 : Int), (0 : Int), (0 : Int), (0 : Int), ([] : List Nat), ([] : List Nat), ([] : List Nat), ([] : List Nat), ([] : List qc), ([] : List qm), ()), (e).1, (6 : Int), ())))
@[go_sem]def aA6 : Ty := .pair .str .unit
def rI (F : Md) : aJ := mSpec aA6 (.tup (.pair qj (.pair qn q9))) (fun x => qO F x.1)
abbrev oN (F : Md) : List (FuncId × aJ) := [(16, (aCF F)), (24, vC), (25, mS), (26, (qG F)), (30, (vG F))]
theorem aIF [Mx] (F : Md) : bJ Tryz.prog GL (oN F) := .cons (aRA F) xAa (.cons aLP xAa (.cons aDf xAa (.cons (aHs F) xAa (.cons (aLS F) xAa (.nil)))))
theorem aHG [Mx] (F : Md) : FOK Tryz.prog GL 11 (rI F) := by
 refine aFr (aMj (aIF F)) Tryz.func11 rfl xAa xAc fun w0 S x r hw h => ?_
 have hF : fT (fr Tryz.prog (EX (oN F)) S w0 Tryz.f11.ntmps) := ⟨aMj (aIF F), mix⟩
 obtain ⟨(text_0 : qd), u⟩ := x
 simp only [aA6, Ty.wf, fF] at hw
 simp only [bX, aA6]
 try dsimp only at h
 replace h : qO F text_0 = some r := h
 unfold qO at h
 refine aB (aT hF [0, 2, 3, 4] (yaB ?_))
 refine aA (aQu (aAT 3 [0, 1, 2] rfl rfl (Nat.zero_le _) xAc fun roots hroots => (yaA ?_)))
 have hF : fT { fr Tryz.prog (EX (oN F)) S w0 Tryz.f11.ntmps with M := ⟨nothing, S, 3, roots⟩, ds := [⟨.fn (.func 23) ([0, 1, 2].map roots).toArray, #[]⟩] } := ⟨hF.env, mix⟩
 refine aB (aB (aF hF [0, 2, 3, 4, 12] (yaB ?_)))
 refine aA (bG rfl (fun hc => ?_) (fun hc => ?_))
 ·try simp only [go_sem] at hc
  have h := eC zAB h
  refine aC hF (aH (l := []) (.nil)) [0, 2, 3, 4] [] (yaB ?_)
  exact zaY
 ·try simp only [go_sem] at hc
  have h := eD zAB h
  refine cI (aA (aB (aF hF [0, 2, 3, 4, 5] (yaB ?_))))
  refine aA (aB (aQn (aA (qZ (D := Int × Int × Int × Int × Int × qd × qd × qd × qd × wu × wd) (fun d => aAR F d.1 d.2.1 d.2.2.1 d.2.2.2.1 d.2.2.2.2.1 d.2.2.2.2.2.1 d.2.2.2.2.2.2.1 d.2.2.2.2.2.2.2.1 d.2.2.2.2.2.2.2.2.1 d.2.2.2.2.2.2.2.2.2.1 d.2.2.2.2.2.2.2.2.2.2 = some r) [] (fun d => [(2, .ptr 0 []), (3, .ptr 1 []), (4, .ptr 2 []), (5, .val qe d.1)]) (fun d => [.inr (.box 10 (.agg [.val qe d.2.1, .val qe d.2.2.1, .val qe d.2.2.2.1, .val qe d.2.2.2.2.1, .val .str d.2.2.2.2.2.1, .val .str d.2.2.2.2.2.2.1, .val .str d.2.2.2.2.2.2.2.1, .val .str d.2.2.2.2.2.2.2.2.1, .own 3, .own 4])), .inr (.box 2 (.val qn ((0 : Int), (0 : Int), ()))), .inr (.box 1 (.val qe (0 : Int))), .inr (.tre 53 qh qa d.2.2.2.2.2.2.2.2.2.1), .inr (.row 83 qs d.2.2.2.2.2.2.2.2.2.2)]) ?_ ?_))))
  ·refine aB (aF hF [2, 3, 4, 5, 16, 17, 18] (yaA ?_))
   obtain ⟨g0, h⟩ := aQ h
   repeat (refine ⟨zAA, ?_⟩)
   refine aA (eB (aOB 0 8 53 qh qa rfl rfl rfl (yaA ?_)))
   refine aOB 0 9 83 .no qs rfl rfl rfl (yaA ?_)
   refine pS (D := Int × Int × Int × Int × Int × Int × qd × qd × qd × qd × wu × wd) [16, 17] (fun d => [(2, .ptr 0 []), (3, .ptr 1 []), (4, .ptr 2 []), (5, .val qe d.1), (18, .val qe d.2.1)]) (fun d => [.inr (.box 10 (.agg [.val qe d.2.2.1, .val qe d.2.2.2.1, .val qe d.2.2.2.2.1, .val qe d.2.2.2.2.2.1, .val .str d.2.2.2.2.2.2.1, .val .str d.2.2.2.2.2.2.2.1, .val .str d.2.2.2.2.2.2.2.2.1, .val .str d.2.2.2.2.2.2.2.2.2.1, .own 3, .own 4])), .inr (.box 2 (.val qn ((0 : Int), (0 : Int), ()))), .inr (.box 1 (.val qe (0 : Int))), .inr (.tre 53 qh qa d.2.2.2.2.2.2.2.2.2.2.1), .inr (.row 83 qs d.2.2.2.2.2.2.2.2.2.2.2)]) h ?_ ?_ ?_
   ·first | rfl | (simp only [go_sem]; done)
   ·exact zAF
   rintro ⟨k_91, x18_92, s_93, s_94, s_95, s_96, s_97, s_98, s_99, s_100, x_101, x_102⟩ s6 h hs6
   simp only [go_sem]
   try dsimp only at h
   unfold aEZ at h
   refine aB (aF hF [2, 3, 4, 5, 16, 17, 18, 19] (yaB ?_))
   refine aA (aB (bG rfl (fun hc => ?_) (fun hc => ?_)))
   ·try simp only [go_sem] at hc
    have h := eC zAB h
    refine cI (aA (aB (eB (aB (aF hF [2, 3, 4, 5, 6, 7, 16, 17, 18] (yaA ?_))))))
    obtain ⟨g0, h⟩ := aQ h
    repeat (refine ⟨zAA, ?_⟩)
    refine aA (aB (aF hF [2, 3, 4, 5, 6, 7, 16, 17, 18] (yaA ?_)))
    obtain ⟨g0, h⟩ := aQ h
    repeat (refine ⟨zAA, ?_⟩)
    refine aA (aB (aT hF [2, 3, 4, 5, 8, 16, 17, 18] (yaA ?_)))
    obtain ⟨g0, h⟩ := aQ h
    try simp only [I64, I32] at g0
    repeat (refine ⟨zAA, ?_⟩)
    obtain ⟨g0, h⟩ := aQ h
    repeat (refine ⟨zAA, ?_⟩)
    obtain ⟨r_169, he1, h⟩ := bind_some h
    try dsimp only at h
    refine aA (aB (aB (aC hF (aH (l := [(27, ⟨gI F, [5], (((x18_92 + (1 : Int)), (0 : Int), ((lJ F (wU ((aEm text_0 (aG ⟨#[10]⟩)).getD (x18_92.toNat) ([] : List Nat)) (aG ⟨#[35]⟩)).1 (aG ⟨#[32]⟩)).getD ([] : List Nat)), ()), r_169)⟩)]) (.cons (lZ F) xAa (.nil))) [2, 3, 4, 5, 8, 16, 17, 18, 37] [] (yaB ?_))))
    refine aA (bG rfl (fun hc => ?_) (fun hc => ?_))
    ·try simp only [go_sem] at hc
     have h := eC zAB h
     refine sK (dY (gL (aA (aF hF [2, 3, 4, 5, 16, 17, 18] (yaA ?_)))))
     obtain ⟨g0, h⟩ := aQ h
     try simp only [I64, I32] at g0
     repeat (refine ⟨zAA, ?_⟩)
     obtain rfl := Option.some.inj h
     dsimp only [mZ] at hs6
     refine bY (gT [0, 1, 2, 3, 4] rfl rfl (yaC ?_))
     refine aZ (k_91, (x18_92 + (1 : Int)), s_93, s_94, s_95, s_96, s_97, s_98, s_99, s_100, x_101, x_102) hs6 rfl ?_
     ·exact zAF
    ·try simp only [go_sem] at hc
     have h := eD zAB h
     refine cI (aA (aB (aB (aF hF [2, 3, 4, 5, 8, 16, 17, 18, 39] (yaB ?_)))))
     refine aA (bG rfl (fun hc => ?_) (fun hc => ?_))
     ·try simp only [go_sem] at hc
      have h := eC zAB h
      obtain ⟨e, he2, h⟩ := bind_some h
      rcases e with r_174 | p_175
      ·try dsimp only at h
       refine aC hF (aH (l := [(28, ⟨wZ F, [0, 5, 3, 4], (k_91, (s_93, s_94, s_95, s_96, s_97, s_98, s_99, s_100, x_101, x_102, ()), r_169.2, .inl r_174)⟩)]) (.cons (aIC F) xAa (.nil))) [2, 3, 4, 5, 16, 17, 18] [] (yaE ?_)
       refine aA (aF hF [2, 3, 4, 5, 16, 17, 18] (yaA ?_))
       obtain ⟨g0, h⟩ := aQ h
       try simp only [I64, I32] at g0
       repeat (refine ⟨zAA, ?_⟩)
       refine bC (aA (aF hF [2, 3, 4, 5, 16, 17, 18] (yaA ?_)))
       obtain ⟨g0, h⟩ := aQ h
       try simp only [I64, I32] at g0
       repeat (refine ⟨zAA, ?_⟩)
       obtain rfl := Option.some.inj h
       dsimp only [mZ] at hs6
       refine bY (gT [0, 1, 2, 6, 7] rfl rfl (yaC ?_))
       refine aZ ((k_91 + (1 : Int)), (x18_92 + (1 : Int)), r_174.1.1, r_174.1.2.1, r_174.1.2.2.1, r_174.1.2.2.2.1, r_174.1.2.2.2.2.1, r_174.1.2.2.2.2.2.1, r_174.1.2.2.2.2.2.2.1, r_174.1.2.2.2.2.2.2.2.1, r_174.1.2.2.2.2.2.2.2.2.1, r_174.1.2.2.2.2.2.2.2.2.2.1) hs6 rfl ?_
       ·exact zAF
      ·try dsimp only at h
       refine aC hF (aH (l := [(28, ⟨wZ F, [0, 5, 3, 4], (k_91, (s_93, s_94, s_95, s_96, s_97, s_98, s_99, s_100, x_101, x_102, ()), r_169.2, .inr p_175)⟩)]) (.cons (aIC F) xAa (.nil))) [2, 3, 4, 5, 16, 17, 18] [] (yaE ?_)
       obtain rfl := Option.some.inj h
       dsimp only [mZ] at hs6
       have h := yaF (hs6)
       obtain rfl := Option.some.inj h
       refine aO (bW (aO (aO (bW (aO (aH1 (aM (aK 0 rfl aI) ?_)))))))
       refine aM (aK 1 rfl aI) ?_
       refine aM (aK 2 rfl aI) (yaA ?_)
       refine aCb (fn := Tryz.f11) (k := 3) (l2 := [0, 1, 2]) hF rfl rfl xAc rfl (rR xAa) ⟨eR (p_175), [0, 1, 2], ()⟩ (vJ (p_175)) rfl [.cell 2 36, .cell 3 38, .cell 4 3] rfl ?_ ?_
       ·(simp only [eR, go_sem]) <;> first | decide | trivial
       ·(simp only [eR, aU, jA, go_sem]) <;> first | decide | trivial | rfl | (simp; done)
     ·try simp only [go_sem] at hc
      have h := eD zAB h
      obtain ⟨e, he3, h⟩ := bind_some h
      rcases e with r_176 | p_177
      ·try dsimp only at h
       refine aC hF (aH (l := [(29, ⟨sS F, [0, 5, 3, 4], ((s_93, s_94, s_95, s_96, s_97, s_98, s_99, s_100, x_101, x_102, ()), r_169.2, .inl r_176)⟩)]) (.cons (aGm F) xAa (.nil))) [2, 3, 4, 5, 16, 17, 18] [] (yaE ?_)
       refine aA (aF hF [2, 3, 4, 5, 16, 17, 18] (yaA ?_))
       obtain ⟨g0, h⟩ := aQ h
       try simp only [I64, I32] at g0
       repeat (refine ⟨zAA, ?_⟩)
       refine bC (aA (aF hF [2, 3, 4, 5, 16, 17, 18] (yaA ?_)))
       obtain ⟨g0, h⟩ := aQ h
       try simp only [I64, I32] at g0
       repeat (refine ⟨zAA, ?_⟩)
       obtain rfl := Option.some.inj h
       dsimp only [mZ] at hs6
       refine bY (gT [0, 1, 2, 6, 7] rfl rfl (yaC ?_))
       refine aZ ((k_91 + (1 : Int)), (x18_92 + (1 : Int)), r_176.1.1, r_176.1.2.1, r_176.1.2.2.1, r_176.1.2.2.2.1, r_176.1.2.2.2.2.1, r_176.1.2.2.2.2.2.1, r_176.1.2.2.2.2.2.2.1, r_176.1.2.2.2.2.2.2.2.1, r_176.1.2.2.2.2.2.2.2.2.1, r_176.1.2.2.2.2.2.2.2.2.2.1) hs6 rfl ?_
       ·exact zAF
      ·try dsimp only at h
       refine aC hF (aH (l := [(29, ⟨sS F, [0, 5, 3, 4], ((s_93, s_94, s_95, s_96, s_97, s_98, s_99, s_100, x_101, x_102, ()), r_169.2, .inr p_177)⟩)]) (.cons (aGm F) xAa (.nil))) [2, 3, 4, 5, 16, 17, 18] [] (yaE ?_)
       obtain rfl := Option.some.inj h
       dsimp only [mZ] at hs6
       have h := yaF (hs6)
       obtain rfl := Option.some.inj h
       refine aO (bW (aO (aO (bW (aO (aH1 (aM (aK 0 rfl aI) ?_)))))))
       refine aM (aK 1 rfl aI) ?_
       refine aM (aK 2 rfl aI) (yaA ?_)
       refine aCb (fn := Tryz.f11) (k := 3) (l2 := [0, 1, 2]) hF rfl rfl xAc rfl (rR xAa) ⟨eR (p_177), [0, 1, 2], ()⟩ (vJ (p_177)) rfl [.cell 2 36, .cell 3 38, .cell 4 3] rfl ?_ ?_
       ·(simp only [eR, go_sem]) <;> first | decide | trivial
       ·(simp only [eR, aU, jA, go_sem]) <;> first | decide | trivial | rfl | (simp; done)
   ·try simp only [go_sem] at hc
    have h := eD zAB h
    obtain rfl := Option.some.inj h
    dsimp only [mZ] at hs6
    have h := yaF (hs6)
    refine sK (dY (dY (gL (bY (aZ (k_91, s_93, s_94, s_95, s_96, s_97, s_98, s_99, s_100, x_101, x_102) h rfl ?_)))))
    ·exact zAF
  ·rintro ⟨k_66, s_67, s_68, s_69, s_70, s_71, s_72, s_73, s_74, x_75, x_76⟩ h
   try dsimp only at h
   simp only [go_sem]
   unfold aAR at h
   refine aB (aT hF [2, 3, 4, 5] (yaA ?_))
   obtain ⟨g0, h⟩ := aQ h
   repeat (refine ⟨zAA, ?_⟩)
   refine aA (aB (aB (aF hF [2, 3, 4, 57] (yaA ?_))))
   obtain ⟨g0, h⟩ := aQ h
   repeat (refine ⟨zAD, ?_⟩)
   refine aA (bG rfl (fun hc => ?_) (fun hc => ?_))
   ·try simp only [go_sem] at hc
    have h := eC zAB h
    refine aC hF (aH (l := []) (.nil)) [2, 3, 4] [] (yaB ?_)
    exact zaY
   ·try simp only [go_sem] at hc
    have h := eD zAB h
    refine cI (aA (aB (aT hF [2, 3, 4] (yaB ?_))))
    refine aA (cD (aQ5 (aUH (aW8 0 (t := qj) (s_67, s_68, s_69, s_70, s_71, s_72, s_73, s_74, x_75, ((jV F (s_67, s_68, s_69, s_70, s_71, s_72, s_73, s_74, x_75, x_76, ())).getD ([] : List qm)), ()) rfl (by first | rfl | (simp only [go_sem]; done)) aI) (yaA ?_))))
    obtain rfl := Option.some.inj h
    refine aNQ (fn := Tryz.f11) (k := 3) (l2 := [0, 1, 2]) hF rfl rfl xAc rfl (rR xAa) ⟨sT, [0, 1, 2], ((s_67, s_68, s_69, s_70, s_71, s_72, s_73, s_74, x_75, ((jV F (s_67, s_68, s_69, s_70, s_71, s_72, s_73, s_74, x_75, x_76, ())).getD ([] : List qm)), ()), ((0 : Int), (0 : Int), ()), (0 : Int), ())⟩ aLW rfl [.cell 2 36, .cell 3 38, .cell 4 3] rfl ?_ ?_
    ·(simp only [sT, go_sem]) <;> first | decide | trivial
    ·(simp only [sT, aU, jA, go_sem]) <;> first | decide | trivial | rfl | (simp; done)
attribute [go_sem] rI
end
end Nu
end Go.Proofs
namespace Go.Proofs
open Go.Vc
set_option maxRecDepth 20000
namespace Nu
noncomputable section
set_option maxHeartbeats 4000000
attribute [-go_sem] Ex.kind Ex.text Ex.l
def pR (F : Md) (a0_0 : (List wc)) (a1_1 : (List wc)) (x13_5 : Int) : Option ((Int) ⊕ ((Unit) ⊕ Bool)) :=
 if x13_5 < (a0_0.length : Int) then ck (0 ≤ x13_5 ∧ x13_5 < (a0_0.length : Int)) (ck (0 ≤ x13_5 ∧ x13_5 < (a1_1.length : Int)) (if ¬ ((Ty.eqb qu (a0_0.getD (x13_5.toNat) ([], ([], [], ()), ())) (a1_1.getD (x13_5.toNat) ([], ([], [], ()), ()))) = true) then some (.inr (.inr false)) else ck (I64 (x13_5 + (1 : Int))) (some (.inl (x13_5 + (1 : Int)))))) else some (.inr (.inl ()))
def iY (F : Md) (a0_0 : (List wc)) (a1_1 : (List wc)) : Option Bool :=
 if ¬ ((a0_0.length : Int) = (a1_1.length : Int)) then some false else (eG F (fun d : Int => pR F a0_0 a1_1 d) (0 : Int)).bind (fun e => match e with | (.inl e) => some true | (.inr e) => some e)
def yS : PlR := ⟨[(0, .A [0, 1]), (1, .A [0, 1, 10]), (2, .A [4]), (3, .A [0, 1, 12, 13]), (4, .A [0, 1, 12, 13, 14]), (5, .A [0, 1, 5, 12, 13]), (6, .A [0, 1, 12, 13, 24]), (7, .A [4]), (8, .A [0, 1, 12, 13]), (9, .A [4])], []⟩
def aAn : Ty := .pair (.sl qu) (.pair (.sl qu) .unit)
def nF (F : Md) : aJ := mSpec aAn (.one .bool) (fun x => iY F x.1 x.2.1)
abbrev aFW (F : Md) : List (FuncId × aJ) := []
theorem aFX [Mx] (F : Md) : bJ Tryz.prog GL (aFW F) := .nil
attribute [go_sem] aAn yS
theorem aE0 [Mx] (F : Md) : FOK Tryz.prog GL 65 (nF F) := by
 refine bT (aV (aFX F)) mix Tryz.func65 rfl xAa xAc yS fun w0 S x Θ hw h hF => ?_
 obtain ⟨(a0_0 : (List wc)), (a1_1 : (List wc)), u⟩ := x
 simp only [bX, go_sem]
 replace h : sat (iY F a0_0 a1_1) _ := h
 unfold iY at h
 refine eH h (fun hc h => ?_) fun hc h => ?_
 ·exact aL hF [.tmp 4] rfl rfl rfl (aE h) xAd
 ·refine cG hF (D := Int) [0, 1, 12] (fun d => [(13, .val qe d)]) (fun d => []) h rfl xAb ?_
  rintro x13_5 A4 T4 hA4 hE4 h
  simp only [go_sem]
  replace h : sat (pR F a0_0 a1_1 x13_5) _ := h
  unfold pR at h
  exact zac
attribute [go_sem] nF
def qP (F : Md) (a0_0 : qw) (a1_1 : qw) (x13_5 : Int) : Option ((Int) ⊕ ((Unit) ⊕ Bool)) :=
 if x13_5 < (a0_0.length : Int) then ck (0 ≤ x13_5 ∧ x13_5 < (a0_0.length : Int)) (ck (0 ≤ x13_5 ∧ x13_5 < (a1_1.length : Int)) (if ¬ ((a0_0.getD (x13_5.toNat) ([] : List Nat)) = (a1_1.getD (x13_5.toNat) ([] : List Nat))) then some (.inr (.inr false)) else ck (I64 (x13_5 + (1 : Int))) (some (.inl (x13_5 + (1 : Int)))))) else some (.inr (.inl ()))
def lV (F : Md) (a0_0 : qw) (a1_1 : qw) : Option Bool :=
 if ¬ ((a0_0.length : Int) = (a1_1.length : Int)) then some false else (eG F (fun d : Int => qP F a0_0 a1_1 d) (0 : Int)).bind (fun e => match e with | (.inl e) => some true | (.inr e) => some e)
def aAo : PlR := ⟨[(0, .A [0, 1]), (1, .A [0, 1, 10]), (2, .A [4]), (3, .A [0, 1, 12, 13]), (4, .A [0, 1, 12, 13, 14]), (5, .A [0, 1, 5, 12, 13]), (6, .A [0, 1, 12, 13, 24]), (7, .A [4]), (8, .A [0, 1, 12, 13]), (9, .A [4])], []⟩
def aAG : Ty := .pair wg (.pair wg .unit)
def oH (F : Md) : aJ := mSpec aAG (.one .bool) (fun x => lV F x.1 x.2.1)
abbrev aGE (F : Md) : List (FuncId × aJ) := []
theorem aGF [Mx] (F : Md) : bJ Tryz.prog GL (aGE F) := .nil
attribute [go_sem] aAG aAo
theorem aFY [Mx] (F : Md) : FOK Tryz.prog GL 66 (oH F) := by
 refine bT (aV (aGF F)) mix Tryz.func66 rfl xAa xAc aAo fun w0 S x Θ hw h hF => ?_
 obtain ⟨(a0_0 : qw), (a1_1 : qw), u⟩ := x
 simp only [bX, go_sem]
 replace h : sat (lV F a0_0 a1_1) _ := h
 unfold lV at h
 refine eH h (fun hc h => ?_) fun hc h => ?_
 ·exact aL hF [.tmp 4] rfl rfl rfl (aE h) xAd
 ·refine cG hF (D := Int) [0, 1, 12] (fun d => [(13, .val qe d)]) (fun d => []) h rfl xAb ?_
  rintro x13_5 A4 T4 hA4 hE4 h
  simp only [go_sem]
  replace h : sat (qP F a0_0 a1_1 x13_5) _ := h
  unfold qP at h
  refine fI h (fun hc h => ?_) fun hc h => ?_
  ·refine aR h fun g0 h => aR h fun g1 h => ?_
   refine eH h (fun hc h => ?_) fun hc h => ?_
   ·replace h := yaF (hE4 _ (aE h))
    exact zaD
   ·refine aR h fun g0 h => ?_
    replace h := hA4 _ (aE h)
    exact zaI
  ·replace h := yaF (hE4 _ (aE h))
   exact zaD
attribute [go_sem] oH
def pC (F : Md) (a0_0 : wd) (a1_1 : wd) (x13_5 : Int) : Option ((Int) ⊕ ((Unit) ⊕ Bool)) :=
 if x13_5 < (a0_0.length : Int) then ck (0 ≤ x13_5 ∧ x13_5 < (a0_0.length : Int)) (ck (0 ≤ x13_5 ∧ x13_5 < (a1_1.length : Int)) (if ¬ ((Ty.eqb qs (a0_0.getD (x13_5.toNat) ([], [], [], [], ())) (a1_1.getD (x13_5.toNat) ([], [], [], [], ()))) = true) then some (.inr (.inr false)) else ck (I64 (x13_5 + (1 : Int))) (some (.inl (x13_5 + (1 : Int)))))) else some (.inr (.inl ()))
def kL (F : Md) (a0_0 : wd) (a1_1 : wd) : Option Bool :=
 if ¬ ((a0_0.length : Int) = (a1_1.length : Int)) then some false else (eG F (fun d : Int => pC F a0_0 a1_1 d) (0 : Int)).bind (fun e => match e with | (.inl e) => some true | (.inr e) => some e)
def xB : PlR := ⟨[(0, .A [0, 1]), (1, .A [0, 1, 10]), (2, .A [4]), (3, .A [0, 1, 12, 13]), (4, .A [0, 1, 12, 13, 14]), (5, .A [0, 1, 5, 12, 13]), (6, .A [0, 1, 12, 13, 24]), (7, .A [4]), (8, .A [0, 1, 12, 13]), (9, .A [4])], []⟩
def yT : Ty := .pair (.sl qs) (.pair (.sl qs) .unit)
def mH (F : Md) : aJ := mSpec yT (.one .bool) (fun x => kL F x.1 x.2.1)
abbrev aE1 (F : Md) : List (FuncId × aJ) := []
theorem aE2 [Mx] (F : Md) : bJ Tryz.prog GL (aE1 F) := .nil
attribute [go_sem] yT xB
theorem aEs [Mx] (F : Md) : FOK Tryz.prog GL 33 (mH F) := by
 refine bT (aV (aE2 F)) mix Tryz.func33 rfl xAa xAc xB fun w0 S x Θ hw h hF => ?_
 obtain ⟨(a0_0 : wd), (a1_1 : wd), u⟩ := x
 simp only [bX, go_sem]
 replace h : sat (kL F a0_0 a1_1) _ := h
 unfold kL at h
 refine eH h (fun hc h => ?_) fun hc h => ?_
 ·exact aL hF [.tmp 4] rfl rfl rfl (aE h) xAd
 ·refine cG hF (D := Int) [0, 1, 12] (fun d => [(13, .val qe d)]) (fun d => []) h rfl xAb ?_
  rintro x13_5 A4 T4 hA4 hE4 h
  simp only [go_sem]
  replace h : sat (pC F a0_0 a1_1 x13_5) _ := h
  unfold pC at h
  exact zac
attribute [go_sem] mH
@[go_sem]def vK : Ty := .pair .expr (.pair .expr .unit)
def lG (g : Ex → Ex → Option (Bool)) : aJ := mSpec vK (.one .bool) (fun x => g x.1 x.2.1)
attribute [go_sem] lG
def cQ (F : Md) (g : Ex → Ex → Option (Bool)) (a0_0 : wx) (a1_1 : wx) (x17_15 : Int) : Option ((Int) ⊕ ((Unit) ⊕ Bool)) :=
 if x17_15 < (a0_0.length : Int) then ck (0 ≤ x17_15 ∧ x17_15 < (a0_0.length : Int)) (ck (0 ≤ x17_15 ∧ x17_15 < (a1_1.length : Int)) ((g (a0_0.getD (x17_15.toNat) (Ex.mk 0 [] [])) (a1_1.getD (x17_15.toNat) (Ex.mk 0 [] []))).bind (fun v_28 => if ¬ (v_28 = true) then some (.inr (.inr false)) else ck (I64 (x17_15 + (1 : Int))) (some (.inl (x17_15 + (1 : Int))))))) else some (.inr (.inl ()))
def bP (F : Md) (g : Ex → Ex → Option (Bool)) (a0_0 : wx) (a1_1 : wx) (eq_2 : Unit) : Option Bool :=
 if ¬ ((a0_0.length : Int) = (a1_1.length : Int)) then some false else (eG F (fun d : Int => cQ F g a0_0 a1_1 d) (0 : Int)).bind (fun e => match e with | (.inl e) => some true | (.inr e) => some e)
def eK : PlR := ⟨[(0, .A [0, 1, 2]), (1, .A [0, 1, 2, 14]), (2, .A [6]), (3, .A [1, 2, 15, 16, 17]), (4, .A [1, 2, 15, 16, 17, 18]), (5, .B [1, 2, 7, 8, 15, 16, 17]), (6, .B [1, 2, 8, 9, 15, 16, 17]), (7, .A [1, 2, 15, 16, 17, 30]), (8, .A [6]), (9, .A [1, 2, 15, 16, 17]), (10, .A [6])], []⟩
def eL : Ty := .pair (.sl .expr) (.pair (.sl .expr) (.pair (.clo 62 .unit) .unit))
def bZ (F : Md) (g : Ex → Ex → Option (Bool)) : aJ := mSpec eL (.one .bool) (fun x => bP F g x.1 x.2.1 x.2.2.1)
abbrev eM (F : Md) (g : Ex → Ex → Option (Bool)) : List (FuncId × aJ) := [(62, (lG g))]
theorem jK [Mx] (F : Md) (g : Ex → Ex → Option (Bool)) (hg : FOK Tryz.prog GL 62 (lG g)) : bJ Tryz.prog GL (eM F g) := .cons hg xAa (.nil)
attribute [go_sem] eL eK
theorem jE [Mx] (F : Md) (g : Ex → Ex → Option (Bool)) (hg : FOK Tryz.prog GL 62 (lG g)) : FOK Tryz.prog GL 101 (bZ F g) := by
 refine bT (aV (jK F g hg)) mix Tryz.func101 rfl xAa xAc eK fun w0 S x Θ hw h hF => ?_
 obtain ⟨(a0_0 : wx), (a1_1 : wx), (eq_2 : Unit), u⟩ := x
 simp only [bX, go_sem]
 replace h : sat (bP F g a0_0 a1_1 eq_2) _ := h
 unfold bP at h
 refine eH h (fun hc h => ?_) fun hc h => ?_
 ·exact aL hF [.tmp 6] rfl rfl rfl (aE h) xAd
 ·refine cG hF (D := Int) [1, 2, 15, 16] (fun d => [(17, .val qe d)]) (fun d => []) h rfl xAb ?_
  rintro x17_15 A4 T4 hA4 hE4 h
  simp only [go_sem]
  replace h : sat (cQ F g a0_0 a1_1 x17_15) _ := h
  unfold cQ at h
  exact zaE
attribute [go_sem] bZ
def sF (F : Md) (g : Ex → Ex → Option (Bool)) (a_0 : Ex) (b_1 : Ex) : Option Bool :=
 ck ((((a_0.kind) = (b_1.kind)) ∧ ((a_0.text) = (b_1.text))) → ((bP F g (a_0.l) (b_1.l) ()).isSome = true)) (some (((decide ((a_0.kind) = (b_1.kind))) && (decide ((a_0.text) = (b_1.text)))) && ((bP F g (a_0.l) (b_1.l) ()).getD false)))
def aD3 : PlR := ⟨[(0, .B [2, 3]), (1, .A [4])], []⟩
abbrev aE3 (F : Md) (g : Ex → Ex → Option (Bool)) : List (FuncId × aJ) := [(101, (bZ F g))]
theorem aL2 [Mx] (F : Md) (g : Ex → Ex → Option (Bool)) (hg : FOK Tryz.prog GL 62 (lG g)) : bJ Tryz.prog GL (aE3 F g) := .cons (jE F g hg) xAa (.nil)
attribute [go_sem] aD3
theorem aJg [Mx] (F : Md) (g : Ex → Ex → Option (Bool)) (hg : FOK Tryz.prog GL 62 (lG g)) : FOK Tryz.prog GL 62 (mSpec vK (.one .bool) (fun x => sF F g x.1 x.2.1)) := by
 refine bT (aV (aL2 F g hg)) mix Tryz.func62 rfl xAa xAc aD3 fun w0 S x Θ hw h hF => ?_
 obtain ⟨(a_0 : Ex), (b_1 : Ex), u⟩ := x
 simp only [bX, go_sem]
 replace h : sat (sF F g a_0 b_1) _ := h
 unfold sF at h
 refine aR h fun g0 h => ?_
 exact zaD
def oQ (F : Md) : Nat → Ex → Ex → Option (Bool)
 | 0 => fun _ _ => none
 | n + 1 => sF F (oQ F n)
def nG (F : Md) (n : Nat) : aJ := mSpec vK (.one .bool) (fun x => oQ F n x.1 x.2.1)
theorem aAp [Mx] (F : Md) : ∀ n, FOK Tryz.prog GL 62 (nG F n)
 | 0 => fun _ _ _ _ _ _ _ hp => Bool.noConfusion (show false = true from hp)
 | n + 1 => aJg F _ (aAp F n)
attribute [go_sem] nG
end
end Nu
end Go.Proofs
namespace Go.Proofs
open Go.Vc
set_option maxRecDepth 20000
namespace Nu
noncomputable section
set_option maxHeartbeats 4000000
attribute [-go_sem] Ex.kind Ex.text Ex.l
def tS (F : Md) (x_0 : wa) (y_1 : wa) : Option Bool :=
 ck (((x_0.1 = y_1.1) ∧ ((Ty.eqb qg x_0.2.1 y_1.2.1) = true)) → ((oQ F 64 x_0.2.2.1 y_1.2.2.1).isSome = true)) (some (((decide (x_0.1 = y_1.1)) && (Ty.eqb qg x_0.2.1 y_1.2.1)) && ((oQ F 64 x_0.2.2.1 y_1.2.2.1).getD false)))
@[go_sem]def tT : Ty := .pair qq (.pair qq .unit)
def sG (F : Md) : aJ := mSpec tT (.one .bool) (fun x => tS F x.1 x.2.1)
abbrev aAq (F : Md) : List (FuncId × aJ) := [(62, (nG F 64))]
theorem aD4 [Mx] (F : Md) : bJ Tryz.prog GL (aAq F) := .cons (aAp F 64) xAa (.nil)
theorem aJh [Mx] (F : Md) : FOK Tryz.prog GL 61 (sG F) := by
 refine sW (aV (aD4 F)) Tryz.func61 rfl xAa xAc fun w0 S x r hw h => ?_
 have hF : fT (fr Tryz.prog (EM (aAq F)) S w0 Tryz.f61.ntmps) := ⟨aV (aD4 F), mix⟩
 obtain ⟨(x_0 : wa), (y_1 : wa), u⟩ := x
 simp only [tT, Ty.wf, fF] at hw
 simp only [bX, tT]
 try dsimp only at h
 replace h : tS F x_0 y_1 = some r := h
 unfold tS at h
 refine aB (aT hF [2, 3] (yaA ?_))
 refine aA (aB (aF hF [4] (yaA ?_)))
 obtain ⟨g0, h⟩ := aQ h
 repeat (refine ⟨zAD, ?_⟩)
 obtain rfl := Option.some.inj h
 refine aA (cD (jF hF [.tmp 4] rfl rfl rfl ?_))
 exact zAG
attribute [go_sem] sG
def cO (F : Md) (a0_0 : (List wa)) (a1_1 : (List wa)) (x17_15 : Int) : Option ((Int) ⊕ ((Unit) ⊕ Bool)) :=
 if x17_15 < (a0_0.length : Int) then ck (0 ≤ x17_15 ∧ x17_15 < (a0_0.length : Int)) (ck (0 ≤ x17_15 ∧ x17_15 < (a1_1.length : Int)) ((tS F (a0_0.getD (x17_15.toNat) ([], ([], [], ()), (Ex.mk 0 [] []), ())) (a1_1.getD (x17_15.toNat) ([], ([], [], ()), (Ex.mk 0 [] []), ()))).bind (fun v_28 => if ¬ (v_28 = true) then some (.inr (.inr false)) else ck (I64 (x17_15 + (1 : Int))) (some (.inl (x17_15 + (1 : Int))))))) else some (.inr (.inl ()))
def bV (F : Md) (a0_0 : (List wa)) (a1_1 : (List wa)) (eq_2 : Unit) : Option Bool :=
 if ¬ ((a0_0.length : Int) = (a1_1.length : Int)) then some false else (eG F (fun d : Int => cO F a0_0 a1_1 d) (0 : Int)).bind (fun e => match e with | (.inl e) => some true | (.inr e) => some e)
def eA : PlR := ⟨[(0, .A [0, 1, 2]), (1, .A [0, 1, 2, 14]), (2, .A [6]), (3, .A [1, 2, 15, 16, 17]), (4, .A [1, 2, 15, 16, 17, 18]), (5, .B [1, 2, 7, 8, 15, 16, 17]), (6, .B [1, 2, 8, 9, 15, 16, 17]), (7, .A [1, 2, 15, 16, 17, 30]), (8, .A [6]), (9, .A [1, 2, 15, 16, 17]), (10, .A [6])], []⟩
def eE : Ty := .pair (.sl qq) (.pair (.sl qq) (.pair (.clo 61 .unit) .unit))
def bS (F : Md) : aJ := mSpec eE (.one .bool) (fun x => bV F x.1 x.2.1 x.2.2.1)
abbrev eF (F : Md) : List (FuncId × aJ) := [(61, (sG F))]
theorem iO [Mx] (F : Md) : bJ Tryz.prog GL (eF F) := .cons (aJh F) xAa (.nil)
attribute [go_sem] eE eA
theorem iD [Mx] (F : Md) : FOK Tryz.prog GL 60 (bS F) := by
 refine bT (aV (iO F)) mix Tryz.func60 rfl xAa xAc eA fun w0 S x Θ hw h hF => ?_
 obtain ⟨(a0_0 : (List wa)), (a1_1 : (List wa)), (eq_2 : Unit), u⟩ := x
 simp only [bX, go_sem]
 replace h : sat (bV F a0_0 a1_1 eq_2) _ := h
 unfold bV at h
 refine eH h (fun hc h => ?_) fun hc h => ?_
 ·exact aL hF [.tmp 6] rfl rfl rfl (aE h) xAd
 ·refine cG hF (D := Int) [1, 2, 15, 16] (fun d => [(17, .val qe d)]) (fun d => []) h rfl xAb ?_
  rintro x17_15 A4 T4 hA4 hE4 h
  simp only [go_sem]
  replace h : sat (cO F a0_0 a1_1 x17_15) _ := h
  unfold cO at h
  exact zaE
attribute [go_sem] bS
def tU (F : Md) (x_0 : qz) (y_1 : qz) : Option Bool :=
 ck ((x_0.1 = y_1.1) → ((oQ F 64 x_0.2.1 y_1.2.1).isSome = true)) (some ((decide (x_0.1 = y_1.1)) && ((oQ F 64 x_0.2.1 y_1.2.1).getD false)))
def aDn : PlR := ⟨[(0, .B [2, 3]), (1, .A [4])], []⟩
def aD5 : Ty := .pair qr (.pair qr .unit)
def sH (F : Md) : aJ := mSpec aD5 (.one .bool) (fun x => tU F x.1 x.2.1)
abbrev aD6 (F : Md) : List (FuncId × aJ) := [(62, (nG F 64))]
theorem aKP [Mx] (F : Md) : bJ Tryz.prog GL (aD6 F) := .cons (aAp F 64) xAa (.nil)
attribute [go_sem] aD5 aDn
theorem aJi [Mx] (F : Md) : FOK Tryz.prog GL 64 (sH F) := by
 refine bT (aV (aKP F)) mix Tryz.func64 rfl xAa xAc aDn fun w0 S x Θ hw h hF => ?_
 obtain ⟨(x_0 : qz), (y_1 : qz), u⟩ := x
 simp only [bX, go_sem]
 replace h : sat (tU F x_0 y_1) _ := h
 unfold tU at h
 refine aR h fun g0 h => ?_
 exact zaD
attribute [go_sem] sH
def cT (F : Md) (a0_0 : wt) (a1_1 : wt) (x17_15 : Int) : Option ((Int) ⊕ ((Unit) ⊕ Bool)) :=
 if x17_15 < (a0_0.length : Int) then ck (0 ≤ x17_15 ∧ x17_15 < (a0_0.length : Int)) (ck (0 ≤ x17_15 ∧ x17_15 < (a1_1.length : Int)) ((tU F (a0_0.getD (x17_15.toNat) ([], (Ex.mk 0 [] []), ())) (a1_1.getD (x17_15.toNat) ([], (Ex.mk 0 [] []), ()))).bind (fun v_28 => if ¬ (v_28 = true) then some (.inr (.inr false)) else ck (I64 (x17_15 + (1 : Int))) (some (.inl (x17_15 + (1 : Int))))))) else some (.inr (.inl ()))
def cF (F : Md) (a0_0 : wt) (a1_1 : wt) (eq_2 : Unit) : Option Bool :=
 if ¬ ((a0_0.length : Int) = (a1_1.length : Int)) then some false else (eG F (fun d : Int => cT F a0_0 a1_1 d) (0 : Int)).bind (fun e => match e with | (.inl e) => some true | (.inr e) => some e)
def eS : PlR := ⟨[(0, .A [0, 1, 2]), (1, .A [0, 1, 2, 14]), (2, .A [6]), (3, .A [1, 2, 15, 16, 17]), (4, .A [1, 2, 15, 16, 17, 18]), (5, .B [1, 2, 7, 8, 15, 16, 17]), (6, .B [1, 2, 8, 9, 15, 16, 17]), (7, .A [1, 2, 15, 16, 17, 30]), (8, .A [6]), (9, .A [1, 2, 15, 16, 17]), (10, .A [6])], []⟩
def eV : Ty := .pair (.sl qr) (.pair (.sl qr) (.pair (.clo 64 .unit) .unit))
def cA (F : Md) : aJ := mSpec eV (.one .bool) (fun x => cF F x.1 x.2.1 x.2.2.1)
abbrev eW (F : Md) : List (FuncId × aJ) := [(64, (sH F))]
theorem kE [Mx] (F : Md) : bJ Tryz.prog GL (eW F) := .cons (aJi F) xAa (.nil)
attribute [go_sem] eV eS
theorem jW [Mx] (F : Md) : FOK Tryz.prog GL 63 (cA F) := by
 refine bT (aV (kE F)) mix Tryz.func63 rfl xAa xAc eS fun w0 S x Θ hw h hF => ?_
 obtain ⟨(a0_0 : wt), (a1_1 : wt), (eq_2 : Unit), u⟩ := x
 simp only [bX, go_sem]
 replace h : sat (cF F a0_0 a1_1 eq_2) _ := h
 unfold cF at h
 refine eH h (fun hc h => ?_) fun hc h => ?_
 ·exact aL hF [.tmp 6] rfl rfl rfl (aE h) xAd
 ·refine cG hF (D := Int) [1, 2, 15, 16] (fun d => [(17, .val qe d)]) (fun d => []) h rfl xAb ?_
  rintro x17_15 A4 T4 hA4 hE4 h
  simp only [go_sem]
  replace h : sat (cT F a0_0 a1_1 x17_15) _ := h
  unfold cT at h
  exact zaE
attribute [go_sem] cA
def xP (F : Md) (a_0 : qc) (b_1 : qc) : Option Bool :=
 (bV F a_0.2.1 b_1.2.1 ()).bind (fun v_8 => (cF F a_0.2.2.2.2.1 b_1.2.2.2.2.1 ()).bind (fun v_14 => ck ((((v_8 = true) ∧ (v_14 = true)) ∧ (a_0.1 = b_1.1)) → ((iY F a_0.2.2.1 b_1.2.2.1).isSome = true)) (ck (((((v_8 = true) ∧ (v_14 = true)) ∧ (a_0.1 = b_1.1)) ∧ (((iY F a_0.2.2.1 b_1.2.2.1).getD false) = true)) → ((lV F a_0.2.2.2.1 b_1.2.2.2.1).isSome = true)) (some ((((v_8 && v_14) && (decide (a_0.1 = b_1.1))) && ((iY F a_0.2.2.1 b_1.2.2.1).getD false)) && ((lV F a_0.2.2.2.1 b_1.2.2.2.1).getD false))))))
def aE4 : PlR := ⟨[(0, .B [2, 3]), (1, .A [2, 3, 5]), (2, .A [2, 3, 5, 6]), (3, .A [4])], []⟩
def aGq : Ty := .pair qa (.pair qa .unit)
def vL (F : Md) : aJ := mSpec aGq (.one .bool) (fun x => xP F x.1 x.2.1)
abbrev sU (F : Md) : List (FuncId × aJ) := [(60, (bS F)), (63, (cA F)), (65, (nF F)), (66, (oH F))]
theorem aNC [Mx] (F : Md) : bJ Tryz.prog GL (sU F) := .cons (iD F) xAa (.cons (jW F) xAa (.cons (aE0 F) xAa (.cons (aFY F) xAa (.nil))))
attribute [go_sem] aGq aE4
theorem aL3 [Mx] (F : Md) : FOK Tryz.prog GL 32 (vL F) := by
 refine bT (aV (aNC F)) mix Tryz.func32 rfl xAa xAc aE4 fun w0 S x Θ hw h hF => ?_
 obtain ⟨(a_0 : qc), (b_1 : qc), u⟩ := x
 simp only [bX, go_sem]
 replace h : sat (xP F a_0 b_1) _ := h
 unfold xP at h
 obtain ⟨v_8, hv, h⟩ := aP h
 try simp only [hv, go_sem]
 obtain ⟨v_14, hv, h⟩ := aP h
 try simp only [hv, go_sem]
 refine aR h fun g0 h => aR h fun g1 h => ?_
 exact zaD
attribute [go_sem] vL
def cW (F : Md) (a0_0 : wu) (a1_1 : wu) (x17_15 : Int) : Option ((Int) ⊕ ((Unit) ⊕ Bool)) :=
 if x17_15 < (a0_0.length : Int) then ck (0 ≤ x17_15 ∧ x17_15 < (a0_0.length : Int)) (ck (0 ≤ x17_15 ∧ x17_15 < (a1_1.length : Int)) ((xP F (a0_0.getD (x17_15.toNat) ([], [], [], [], [], ())) (a1_1.getD (x17_15.toNat) ([], [], [], [], [], ()))).bind (fun v_28 => if ¬ (v_28 = true) then some (.inr (.inr false)) else ck (I64 (x17_15 + (1 : Int))) (some (.inl (x17_15 + (1 : Int))))))) else some (.inr (.inl ()))
def bL (F : Md) (a0_0 : wu) (a1_1 : wu) (eq_2 : Unit) : Option Bool :=
 if ¬ ((a0_0.length : Int) = (a1_1.length : Int)) then some false else (eG F (fun d : Int => cW F a0_0 a1_1 d) (0 : Int)).bind (fun e => match e with | (.inl e) => some true | (.inr e) => some e)
def fA : PlR := ⟨[(0, .A [0, 1, 2]), (1, .A [0, 1, 2, 14]), (2, .A [6]), (3, .A [1, 2, 15, 16, 17]), (4, .A [1, 2, 15, 16, 17, 18]), (5, .B [1, 2, 7, 8, 15, 16, 17]), (6, .B [1, 2, 8, 9, 15, 16, 17]), (7, .A [1, 2, 15, 16, 17, 30]), (8, .A [6]), (9, .A [1, 2, 15, 16, 17]), (10, .A [6])], []⟩
def fB : Ty := .pair (.sl qa) (.pair (.sl qa) (.pair (.clo 32 .unit) .unit))
def cH (F : Md) : aJ := mSpec fB (.one .bool) (fun x => bL F x.1 x.2.1 x.2.2.1)
abbrev fC (F : Md) : List (FuncId × aJ) := [(32, (vL F))]
theorem kQ [Mx] (F : Md) : bJ Tryz.prog GL (fC F) := .cons (aL3 F) xAa (.nil)
attribute [go_sem] fB fA
theorem kM [Mx] (F : Md) : FOK Tryz.prog GL 31 (cH F) := by
 refine bT (aV (kQ F)) mix Tryz.func31 rfl xAa xAc fA fun w0 S x Θ hw h hF => ?_
 obtain ⟨(a0_0 : wu), (a1_1 : wu), (eq_2 : Unit), u⟩ := x
 simp only [bX, go_sem]
 replace h : sat (bL F a0_0 a1_1 eq_2) _ := h
 unfold bL at h
 refine eH h (fun hc h => ?_) fun hc h => ?_
 ·exact aL hF [.tmp 6] rfl rfl rfl (aE h) xAd
 ·refine cG hF (D := Int) [1, 2, 15, 16] (fun d => [(17, .val qe d)]) (fun d => []) h rfl xAb ?_
  rintro x17_15 A4 T4 hA4 hE4 h
  simp only [go_sem]
  replace h : sat (cW F a0_0 a1_1 x17_15) _ := h
  unfold cW at h
  exact zaE
attribute [go_sem] cH
def mI (F : Md) (a_0 : qf) (b_1 : qf) : Option Bool :=
 ck (((((((((a_0.1 = b_1.1) ∧ (a_0.2.1 = b_1.2.1)) ∧ (a_0.2.2.1 = b_1.2.2.1)) ∧ (a_0.2.2.2.1 = b_1.2.2.2.1)) ∧ (a_0.2.2.2.2.1 = b_1.2.2.2.2.1)) ∧ (a_0.2.2.2.2.2.1 = b_1.2.2.2.2.2.1)) ∧ (a_0.2.2.2.2.2.2.1 = b_1.2.2.2.2.2.2.1)) ∧ (a_0.2.2.2.2.2.2.2.1 = b_1.2.2.2.2.2.2.2.1)) → ((bL F a_0.2.2.2.2.2.2.2.2.1 b_1.2.2.2.2.2.2.2.2.1 ()).isSome = true)) (ck ((((((((((a_0.1 = b_1.1) ∧ (a_0.2.1 = b_1.2.1)) ∧ (a_0.2.2.1 = b_1.2.2.1)) ∧ (a_0.2.2.2.1 = b_1.2.2.2.1)) ∧ (a_0.2.2.2.2.1 = b_1.2.2.2.2.1)) ∧ (a_0.2.2.2.2.2.1 = b_1.2.2.2.2.2.1)) ∧ (a_0.2.2.2.2.2.2.1 = b_1.2.2.2.2.2.2.1)) ∧ (a_0.2.2.2.2.2.2.2.1 = b_1.2.2.2.2.2.2.2.1)) ∧ (((bL F a_0.2.2.2.2.2.2.2.2.1 b_1.2.2.2.2.2.2.2.2.1 ()).getD false) = true)) → ((kL F a_0.2.2.2.2.2.2.2.2.2.1 b_1.2.2.2.2.2.2.2.2.2.1).isSome = true)) (some ((((((((((decide (a_0.1 = b_1.1)) && (decide (a_0.2.1 = b_1.2.1))) && (decide (a_0.2.2.1 = b_1.2.2.1))) && (decide (a_0.2.2.2.1 = b_1.2.2.2.1))) && (decide (a_0.2.2.2.2.1 = b_1.2.2.2.2.1))) && (decide (a_0.2.2.2.2.2.1 = b_1.2.2.2.2.2.1))) && (decide (a_0.2.2.2.2.2.2.1 = b_1.2.2.2.2.2.2.1))) && (decide (a_0.2.2.2.2.2.2.2.1 = b_1.2.2.2.2.2.2.2.1))) && ((bL F a_0.2.2.2.2.2.2.2.2.1 b_1.2.2.2.2.2.2.2.2.1 ()).getD false)) && ((kL F a_0.2.2.2.2.2.2.2.2.2.1 b_1.2.2.2.2.2.2.2.2.2.1).getD false))))
def aIG : PlR := ⟨[(0, .B [2, 3]), (1, .A [2, 3, 5]), (2, .A [4])], []⟩
def aKQ : Ty := .pair qj (.pair qj .unit)
def tE (F : Md) : aJ := mSpec aKQ (.one .bool) (fun x => mI F x.1 x.2.1)
abbrev aFZ (F : Md) : List (FuncId × aJ) := [(31, (cH F)), (33, (mH F))]
theorem aRB [Mx] (F : Md) : bJ Tryz.prog GL (aFZ F) := .cons (kM F) xAa (.cons (aEs F) xAa (.nil))
attribute [go_sem] aKQ aIG
theorem aIH [Mx] (F : Md) : FOK Tryz.prog GL 12 (tE F) := by
 refine bT (aV (aRB F)) mix Tryz.func12 rfl xAa xAc aIG fun w0 S x Θ hw h hF => ?_
 obtain ⟨(a_0 : qf), (b_1 : qf), u⟩ := x
 simp only [bX, go_sem]
 replace h : sat (mI F a_0 b_1) _ := h
 unfold mI at h
 refine aR h fun g0 h => aR h fun g1 h => ?_
 exact zaD
attribute [go_sem] tE
end
end Nu
end Go.Proofs
namespace Go.Proofs
open Go.Vc
set_option maxRecDepth 20000
namespace Nu
noncomputable section
set_option maxHeartbeats 4000000
attribute [-go_sem] Ex.kind Ex.text Ex.l
def kR (F : Md) : Option qf :=
 some ((40 : Int), (4 : Int), (0 : Int), (1 : Int), (aG ⟨#[49]⟩), (aG ⟨#[48, 46, 53]⟩), (aG ⟨#[48, 46, 49, 50, 53]⟩), (aG ⟨#[49]⟩), ([((aG ⟨#[97]⟩), ([((aG ⟨#[120]⟩), ((aG ⟨#[49]⟩), ([] : List Nat), ()), (Ex.mk (2 : Int) (aG ⟨#[120]⟩) ([] : List Ex)), ())] : List wa), ([] : List wc), ([] : List qd), ([((aG ⟨#[121]⟩), (Ex.mk (2 : Int) (aG ⟨#[120]⟩) ([] : List Ex)), ())] : List qz), ())] : List qc), ([] : List qm), ())
def aHK : PlR := ⟨[(0, .B [0]), (1, .B [0, 1]), (2, .B [0])], []⟩
def aII : Ty := .unit
def rJ (F : Md) : aJ := mSpec aII (.one qj) (fun x => kR F )
abbrev aP6 (F : Md) : List (FuncId × aJ) := []
theorem aP7 [Mx] (F : Md) : bJ Tryz.prog GL (aP6 F) := .nil
attribute [go_sem] aII aHK
theorem aHL [Mx] (F : Md) : FOK Tryz.prog GL 13 (rJ F) := by
 refine bT (aV (aP7 F)) mix Tryz.func13 rfl xAa xAc aHK fun w0 S x Θ hw h hF => ?_
 simp only [bX, go_sem]
 replace h : sat (kR F) _ := h
 unfold kR at h
 exact aL hF [.cell 0 36] rfl rfl rfl (aE h) xAd
attribute [go_sem] rJ
end
end Nu
end Go.Proofs
namespace Go.Proofs
open Go.Vc
set_option maxRecDepth 20000
namespace Nu
noncomputable section
set_option maxHeartbeats 4000000
def aPu : ByteArray := ⟨⟨112 :: 114 :: 101 :: 99 :: 32 :: 52 :: 48 :: 10 :: 101 :: 110 :: 100 :: 32 :: 49 :: 10 :: 115 :: 116 :: 101 :: 112 :: 32 :: 48 :: 46 :: 53 :: 32 :: 48 :: 46 :: 49 :: 50 :: 53 :: 32 :: 35 :: 32 :: 102 :: 105 :: 110 :: 101 :: 10 :: 116 :: 111 :: 108 :: 32 :: 49 :: 10 :: 116 :: 114 :: 105 :: 101 :: 115 :: 32 :: 52 :: 10 :: 111 :: 114 :: 100 :: 101 :: 114 :: 32 :: 48 :: 10 :: 106 :: 97 :: 99 :: 111 :: 98 :: 105 :: 10 :: 10 :: 115 :: 117 :: 98 :: 32 :: 97 :: 10 :: 32 :: 115 :: 116 :: 97 :: 116 :: 101 :: 32 :: 120 :: 32 :: 61 :: 32 :: 49 :: 32 :: 100 :: 101 :: 114 :: 32 :: 120 :: 10 :: 111 :: 117 :: 116 :: 32 :: 121 :: 32 :: 61 :: 32 :: 120 :: 10 :: []⟩⟩
@[go_sem]theorem aP8 : (⟨⟨112 :: 114 :: 101 :: 99 :: 32 :: 52 :: 48 :: 10 :: 101 :: 110 :: 100 :: 32 :: 49 :: 10 :: 115 :: 116 :: 101 :: 112 :: 32 :: 48 :: 46 :: 53 :: 32 :: 48 :: 46 :: 49 :: 50 :: 53 :: 32 :: 35 :: 32 :: 102 :: 105 :: 110 :: 101 :: 10 :: 116 :: 111 :: 108 :: 32 :: 49 :: 10 :: 116 :: 114 :: 105 :: 101 :: 115 :: 32 :: 52 :: 10 :: 111 :: 114 :: 100 :: 101 :: 114 :: 32 :: 48 :: 10 :: 106 :: 97 :: 99 :: 111 :: 98 :: 105 :: 10 :: 10 :: 115 :: 117 :: 98 :: 32 :: 97 :: 10 :: 32 :: 115 :: 116 :: 97 :: 116 :: 101 :: 32 :: 120 :: 32 :: 61 :: 32 :: 49 :: 32 :: 100 :: 101 :: 114 :: 32 :: 120 :: 10 :: 111 :: 117 :: 116 :: 32 :: 121 :: 32 :: 61 :: 32 :: 120 :: 10 :: []⟩⟩ : ByteArray) = aPu := rfl
attribute [-go_sem] Ex.kind Ex.text Ex.l
def aCG (F : Md) : Option Bool :=
 (lA F (aG ⟨#[49, 43, 120, 42, 50]⟩)).bind (fun v_3 => (lA F (aG ⟨#[49, 32, 43, 32]⟩)).bind (fun v_5 => (qO F (aG aPu)).bind (fun v_7 => (qO F (aG ⟨#[112, 114, 101, 99, 32, 52, 48, 10, 101, 110, 100, 32, 120, 10]⟩)).bind (fun v_9 => ck ((((v_3.2.2.1 = (0 : Int)) ∧ ((v_3.1.kind) = (6 : Int))) ∧ ((((v_3.1.l).length : Nat) : Int) = (2 : Int))) → ((1 : Int) < (((v_3.1.l).length : Nat) : Int))) (ck (((((((((v_3.2.2.1 = (0 : Int)) ∧ ((v_3.1.kind) = (6 : Int))) ∧ ((((v_3.1.l).length : Nat) : Int) = (2 : Int))) ∧ (((v_3.1.l).getD (1 : Nat) (Ex.mk 0 [] [])).kind = (8 : Int))) ∧ (v_5.2.1 = (4 : Int))) ∧ (v_5.2.2.1 = (6 : Int))) ∧ (v_7.2.2.1 = (0 : Int))) ∧ ((Ty.eqb qn v_7.2.1 ((0 : Int), (0 : Int), ())) = true)) → ((kR F).isSome = true)) (ck (((((((((v_3.2.2.1 = (0 : Int)) ∧ ((v_3.1.kind) = (6 : Int))) ∧ ((((v_3.1.l).length : Nat) : Int) = (2 : Int))) ∧ (((v_3.1.l).getD (1 : Nat) (Ex.mk 0 [] [])).kind = (8 : Int))) ∧ (v_5.2.1 = (4 : Int))) ∧ (v_5.2.2.1 = (6 : Int))) ∧ (v_7.2.2.1 = (0 : Int))) ∧ ((Ty.eqb qn v_7.2.1 ((0 : Int), (0 : Int), ())) = true)) → ((mI F v_7.1 ((kR F).getD ((0 : Int), (0 : Int), (0 : Int), (0 : Int), ([] : List Nat), ([] : List Nat), ([] : List Nat), ([] : List Nat), ([] : List qc), ([] : List qm), ()))).isSome = true)) (some (((((((((((decide (v_3.2.2.1 = (0 : Int))) && (decide ((v_3.1.kind) = (6 : Int)))) && (decide ((((v_3.1.l).length : Nat) : Int) = (2 : Int)))) && (decide (((v_3.1.l).getD (1 : Nat) (Ex.mk 0 [] [])).kind = (8 : Int)))) && (decide (v_5.2.1 = (4 : Int)))) && (decide (v_5.2.2.1 = (6 : Int)))) && (decide (v_7.2.2.1 = (0 : Int)))) && (Ty.eqb qn v_7.2.1 ((0 : Int), (0 : Int), ()))) && ((mI F v_7.1 ((kR F).getD ((0 : Int), (0 : Int), (0 : Int), (0 : Int), ([] : List Nat), ([] : List Nat), ([] : List Nat), ([] : List Nat), ([] : List qc), ([] : List qm), ()))).getD false)) && (decide (v_9.2.2.1 = (6 : Int)))) && (Ty.eqb qn v_9.2.1 ((2 : Int), (1 : Int), ()))))))))))
def aIJ : PlR := ⟨[(0, .A []), (1, .B [1, 3]), (2, .B [1, 3, 5, 6]), (3, .B [1, 3, 5, 6, 7, 8, 9]), (4, .B [1, 3, 5, 6, 7, 8, 9, 11, 12]), (5, .A [0])], []⟩
def aF0 : Ty := .unit
def aIK (F : Md) : aJ := mSpec aF0 (.one .bool) (fun x => aCG F )
abbrev aAr (F : Md) : List (FuncId × aJ) := [(11, (rI F)), (12, (tE F)), (13, (rJ F)), (9, (tC F))]
theorem aRC [Mx] (F : Md) : bJ Tryz.prog GL (aAr F) := .cons (aHG F) xAa (.cons (aIH F) xAa (.cons (aHL F) xAa (.cons (aIw F) xAa (.nil))))
attribute [go_sem] aF0 aIJ
theorem aP9 [Mx] (F : Md) : FOK Tryz.prog GL 8 (aIK F) := by
 refine bT (aV (aRC F)) mix Tryz.func8 rfl xAa xAc aIJ fun w0 S x Θ hw h hF => ?_
 simp only [bX, go_sem]
 replace h : sat (aCG F) _ := h
 unfold aCG at h
 obtain ⟨v_3, hv, h⟩ := aP h
 try simp only [hv, go_sem]
 obtain ⟨v_5, hv, h⟩ := aP h
 try simp only [hv, go_sem]
 obtain ⟨v_7, hv, h⟩ := aP h
 try simp only [hv, go_sem]
 obtain ⟨v_9, hv, h⟩ := aP h
 try simp only [hv, go_sem]
 obtain ⟨g0, h⟩ := aS h
 obtain ⟨g1, h⟩ := aS h
 obtain ⟨g2, h⟩ := aS h
 repeat (refine ⟨by first | with_reducible assumption | omega | (intros; first | with_reducible assumption | omega) | (simp only [go_sem] at *; first | with_reducible assumption | omega) | (intro _; exact ⟨rfl, by decide⟩) | (intro _; refine (?_ : _ = aD _); rfl) | (refine (?_ : _ = aD _); rfl) | exact ⟨rfl, rfl⟩ | (intro q0; (try have e0 := g0 (by first | exact q0 | omega | (simpa using q0))); (try have e1 := g1 (by first | exact q0 | omega | (simpa using q0))); (try have e2 := g2 (by first | exact q0 | omega | (simpa using q0))); first | assumption | omega) | decide, ?_⟩)
 exact aL hF [.tmp 0] rfl rfl rfl (aE h) xAd
attribute [go_sem] aIK
end
end Nu
end Go.Proofs
namespace Go.Proofs
open Go.Vc
set_option maxRecDepth 20000
namespace Nu
noncomputable section
theorem aXQ [Mx] : aCG (some 1000) = some true := by kernel_rfl
def aHM : Bool := true
def aA7 : aJ := ⟨aF0, .one .bool, fun _ => True, fun _ => aHM⟩
attribute [go_sem] aA7
theorem aQa [Mx] [Mx] : FOK Tryz.prog GL 8 aA7 := aQF (aP9 (some 1000)) (fun _ _ _ => aXQ)
end
end Nu
end Go.Proofs
namespace Go.Proofs
open Go.Vc
set_option maxRecDepth 20000
namespace Nu
noncomputable section
set_option maxHeartbeats 4000000
attribute [-go_sem] Ex.kind Ex.text Ex.l
def lH (F : Md) (s_25 : qd) : Option (Bool) :=
 (qO F s_25).bind (fun v_27 => ck (I64 ((s_25.length : Int) - (1 : Int))) (ck (0 ≤ ((s_25.length : Int) - (1 : Int)) ∧ ((s_25.length : Int) - (1 : Int)) ≤ (s_25.length : Int)) ((qO F (List.take ((s_25.length : Int) - (1 : Int)).toNat s_25)).bind (fun v_29 => ck ((((aHM = true) ∧ (v_27.2.2.1 = (0 : Int))) ∧ (v_29.2.2.1 = (0 : Int))) → ((kR F).isSome = true)) (ck ((((aHM = true) ∧ (v_27.2.2.1 = (0 : Int))) ∧ (v_29.2.2.1 = (0 : Int))) → ((mI F v_27.1 ((kR F).getD ((0 : Int), (0 : Int), (0 : Int), (0 : Int), ([] : List Nat), ([] : List Nat), ([] : List Nat), ([] : List Nat), ([] : List qc), ([] : List qm), ()))).isSome = true)) (ck (((((aHM = true) ∧ (v_27.2.2.1 = (0 : Int))) ∧ (v_29.2.2.1 = (0 : Int))) ∧ (((mI F v_27.1 ((kR F).getD ((0 : Int), (0 : Int), (0 : Int), (0 : Int), ([] : List Nat), ([] : List Nat), ([] : List Nat), ([] : List Nat), ([] : List qc), ([] : List qm), ()))).getD false) = true)) → ((mI F v_29.1 v_27.1).isSome = true)) (some ((((aHM && (decide (v_27.2.2.1 = (0 : Int)))) && (decide (v_29.2.2.1 = (0 : Int)))) && ((mI F v_27.1 ((kR F).getD ((0 : Int), (0 : Int), (0 : Int), (0 : Int), ([] : List Nat), ([] : List Nat), ([] : List Nat), ([] : List Nat), ([] : List qc), ([] : List qm), ()))).getD false)) && ((mI F v_29.1 v_27.1).getD false)))))))))
def nH (F : Md) (i_40 : Int) (n_1 : Int) (y_75 : qd) (j_76 : Int) : Option (wy ⊕ qd) :=
 if j_76 < (((([(aG ⟨#[112, 114, 101, 99, 32, 52, 48]⟩), (aG ⟨#[101, 110, 100, 32, 49]⟩), (aG ⟨#[115, 116, 101, 112, 32, 48, 46, 53, 32, 48, 46, 49, 50, 53]⟩), (aG ⟨#[116, 111, 108, 32, 49]⟩), (aG ⟨#[116, 114, 105, 101, 115, 32, 52]⟩), (aG ⟨#[111, 114, 100, 101, 114, 32, 48]⟩), (aG ⟨#[106, 97, 99, 111, 98, 105]⟩), (aG ⟨#[115, 117, 98, 32, 97]⟩), (aG ⟨#[115, 116, 97, 116, 101, 32, 120, 32, 61, 32, 49, 32, 100, 101, 114, 32, 120]⟩), (aG ⟨#[111, 117, 116, 32, 121, 32, 61, 32, 120]⟩)] : List qd).getD (i_40.toNat) ([] : List Nat)).length : Nat) : Int) then ck (I64 (j_76 + (1 : Int))) (ck (0 ≤ j_76 ∧ j_76 ≤ (j_76 + (1 : Int)) ∧ (j_76 + (1 : Int)) ≤ (((([(aG ⟨#[112, 114, 101, 99, 32, 52, 48]⟩), (aG ⟨#[101, 110, 100, 32, 49]⟩), (aG ⟨#[115, 116, 101, 112, 32, 48, 46, 53, 32, 48, 46, 49, 50, 53]⟩), (aG ⟨#[116, 111, 108, 32, 49]⟩), (aG ⟨#[116, 114, 105, 101, 115, 32, 52]⟩), (aG ⟨#[111, 114, 100, 101, 114, 32, 48]⟩), (aG ⟨#[106, 97, 99, 111, 98, 105]⟩), (aG ⟨#[115, 117, 98, 32, 97]⟩), (aG ⟨#[115, 116, 97, 116, 101, 32, 120, 32, 61, 32, 49, 32, 100, 101, 114, 32, 120]⟩), (aG ⟨#[111, 117, 116, 32, 121, 32, 61, 32, 120]⟩)] : List qd).getD (i_40.toNat) ([] : List Nat)).length : Nat) : Int)) (ck ((y_75.length) + (List.drop (j_76.toNat) (List.take (j_76 + (1 : Int)).toNat (([(aG ⟨#[112, 114, 101, 99, 32, 52, 48]⟩), (aG ⟨#[101, 110, 100, 32, 49]⟩), (aG ⟨#[115, 116, 101, 112, 32, 48, 46, 53, 32, 48, 46, 49, 50, 53]⟩), (aG ⟨#[116, 111, 108, 32, 49]⟩), (aG ⟨#[116, 114, 105, 101, 115, 32, 52]⟩), (aG ⟨#[111, 114, 100, 101, 114, 32, 48]⟩), (aG ⟨#[106, 97, 99, 111, 98, 105]⟩), (aG ⟨#[115, 117, 98, 32, 97]⟩), (aG ⟨#[115, 116, 97, 116, 101, 32, 120, 32, 61, 32, 49, 32, 100, 101, 114, 32, 120]⟩), (aG ⟨#[111, 117, 116, 32, 121, 32, 61, 32, 120]⟩)] : List qd).getD (i_40.toNat) ([] : List Nat)))).length ≤ 9223372036854775807) (ck (0 ≤ j_76 ∧ j_76 < (((([(aG ⟨#[112, 114, 101, 99, 32, 52, 48]⟩), (aG ⟨#[101, 110, 100, 32, 49]⟩), (aG ⟨#[115, 116, 101, 112, 32, 48, 46, 53, 32, 48, 46, 49, 50, 53]⟩), (aG ⟨#[116, 111, 108, 32, 49]⟩), (aG ⟨#[116, 114, 105, 101, 115, 32, 52]⟩), (aG ⟨#[111, 114, 100, 101, 114, 32, 48]⟩), (aG ⟨#[106, 97, 99, 111, 98, 105]⟩), (aG ⟨#[115, 117, 98, 32, 97]⟩), (aG ⟨#[115, 116, 97, 116, 101, 32, 120, 32, 61, 32, 49, 32, 100, 101, 114, 32, 120]⟩), (aG ⟨#[111, 117, 116, 32, 121, 32, 61, 32, 120]⟩)] : List qd).getD (i_40.toNat) ([] : List Nat)).length : Nat) : Int)) (if ((([(aG ⟨#[112, 114, 101, 99, 32, 52, 48]⟩), (aG ⟨#[101, 110, 100, 32, 49]⟩), (aG ⟨#[115, 116, 101, 112, 32, 48, 46, 53, 32, 48, 46, 49, 50, 53]⟩), (aG ⟨#[116, 111, 108, 32, 49]⟩), (aG ⟨#[116, 114, 105, 101, 115, 32, 52]⟩), (aG ⟨#[111, 114, 100, 101, 114, 32, 48]⟩), (aG ⟨#[106, 97, 99, 111, 98, 105]⟩), (aG ⟨#[115, 117, 98, 32, 97]⟩), (aG ⟨#[115, 116, 97, 116, 101, 32, 120, 32, 61, 32, 49, 32, 100, 101, 114, 32, 120]⟩), (aG ⟨#[111, 117, 116, 32, 121, 32, 61, 32, 120]⟩)] : List qd).getD (i_40.toNat) ([] : List Nat)).getD (j_76.toNat) (0 : Nat)) = (32 : Nat) then ck ((y_75 ++ (List.drop (j_76.toNat) (List.take (j_76 + (1 : Int)).toNat (([(aG ⟨#[112, 114, 101, 99, 32, 52, 48]⟩), (aG ⟨#[101, 110, 100, 32, 49]⟩), (aG ⟨#[115, 116, 101, 112, 32, 48, 46, 53, 32, 48, 46, 49, 50, 53]⟩), (aG ⟨#[116, 111, 108, 32, 49]⟩), (aG ⟨#[116, 114, 105, 101, 115, 32, 52]⟩), (aG ⟨#[111, 114, 100, 101, 114, 32, 48]⟩), (aG ⟨#[106, 97, 99, 111, 98, 105]⟩), (aG ⟨#[115, 117, 98, 32, 97]⟩), (aG ⟨#[115, 116, 97, 116, 101, 32, 120, 32, 61, 32, 49, 32, 100, 101, 114, 32, 120]⟩), (aG ⟨#[111, 117, 116, 32, 121, 32, 61, 32, 120]⟩)] : List qd).getD (i_40.toNat) ([] : List Nat))))).length + (List.take ((1 : Int) + (IntKind.i64.wrap ((((n_1 % (18446744073709551616 : Int)).toNat % (5 : Nat)) : Nat) : Int))).toNat (aG ⟨#[32, 32, 32, 32, 32]⟩)).length ≤ 9223372036854775807) (ck (I64 (j_76 + (1 : Int))) (some (.inl (((y_75 ++ (List.drop (j_76.toNat) (List.take (j_76 + (1 : Int)).toNat (([(aG ⟨#[112, 114, 101, 99, 32, 52, 48]⟩), (aG ⟨#[101, 110, 100, 32, 49]⟩), (aG ⟨#[115, 116, 101, 112, 32, 48, 46, 53, 32, 48, 46, 49, 50, 53]⟩), (aG ⟨#[116, 111, 108, 32, 49]⟩), (aG ⟨#[116, 114, 105, 101, 115, 32, 52]⟩), (aG ⟨#[111, 114, 100, 101, 114, 32, 48]⟩), (aG ⟨#[106, 97, 99, 111, 98, 105]⟩), (aG ⟨#[115, 117, 98, 32, 97]⟩), (aG ⟨#[115, 116, 97, 116, 101, 32, 120, 32, 61, 32, 49, 32, 100, 101, 114, 32, 120]⟩), (aG ⟨#[111, 117, 116, 32, 121, 32, 61, 32, 120]⟩)] : List qd).getD (i_40.toNat) ([] : List Nat))))) ++ (List.take ((1 : Int) + (IntKind.i64.wrap ((((n_1 % (18446744073709551616 : Int)).toNat % (5 : Nat)) : Nat) : Int))).toNat (aG ⟨#[32, 32, 32, 32, 32]⟩))), (j_76 + (1 : Int)))))) else ck (I64 (j_76 + (1 : Int))) (some (.inl ((y_75 ++ (List.drop (j_76.toNat) (List.take (j_76 + (1 : Int)).toNat (([(aG ⟨#[112, 114, 101, 99, 32, 52, 48]⟩), (aG ⟨#[101, 110, 100, 32, 49]⟩), (aG ⟨#[115, 116, 101, 112, 32, 48, 46, 53, 32, 48, 46, 49, 50, 53]⟩), (aG ⟨#[116, 111, 108, 32, 49]⟩), (aG ⟨#[116, 114, 105, 101, 115, 32, 52]⟩), (aG ⟨#[111, 114, 100, 101, 114, 32, 48]⟩), (aG ⟨#[106, 97, 99, 111, 98, 105]⟩), (aG ⟨#[115, 117, 98, 32, 97]⟩), (aG ⟨#[115, 116, 97, 116, 101, 32, 120, 32, 61, 32, 49, 32, 100, 101, 114, 32, 120]⟩), (aG ⟨#[111, 117, 116, 32, 121, 32, 61, 32, 120]⟩)] : List qd).getD (i_40.toNat) ([] : List Nat))))), (j_76 + (1 : Int))))))))) else some (.inr y_75)
def oI (F : Md) (where_0 : Int) (n_1 : Int) (s_39 : qd) (i_40 : Int) : Option (wy ⊕ qd) :=
 if i_40 < (10 : Int) then ck (0 ≤ i_40 ∧ i_40 < (10 : Int)) (if i_40 = (Int.tmod (IntKind.i64.wrap ((((where_0 % (18446744073709551616 : Int)).toNat % (40 : Nat)) : Nat) : Int)) (10 : Int)) then ck (I64 (Int.tdiv (IntKind.i64.wrap ((((where_0 % (18446744073709551616 : Int)).toNat % (40 : Nat)) : Nat) : Int)) (10 : Int))) (if (Int.tdiv (IntKind.i64.wrap ((((where_0 % (18446744073709551616 : Int)).toNat % (40 : Nat)) : Nat) : Int)) (10 : Int)) = (0 : Int) then ck ((List.take ((1 : Int) + (IntKind.i64.wrap ((((n_1 % (18446744073709551616 : Int)).toNat % (5 : Nat)) : Nat) : Int))).toNat (aG ⟨#[32, 32, 32, 32, 32]⟩)).length + (([(aG ⟨#[112, 114, 101, 99, 32, 52, 48]⟩), (aG ⟨#[101, 110, 100, 32, 49]⟩), (aG ⟨#[115, 116, 101, 112, 32, 48, 46, 53, 32, 48, 46, 49, 50, 53]⟩), (aG ⟨#[116, 111, 108, 32, 49]⟩), (aG ⟨#[116, 114, 105, 101, 115, 32, 52]⟩), (aG ⟨#[111, 114, 100, 101, 114, 32, 48]⟩), (aG ⟨#[106, 97, 99, 111, 98, 105]⟩), (aG ⟨#[115, 117, 98, 32, 97]⟩), (aG ⟨#[115, 116, 97, 116, 101, 32, 120, 32, 61, 32, 49, 32, 100, 101, 114, 32, 120]⟩), (aG ⟨#[111, 117, 116, 32, 121, 32, 61, 32, 120]⟩)] : List qd).getD (i_40.toNat) ([] : List Nat)).length ≤ 9223372036854775807) (ck (((List.take ((1 : Int) + (IntKind.i64.wrap ((((n_1 % (18446744073709551616 : Int)).toNat % (5 : Nat)) : Nat) : Int))).toNat (aG ⟨#[32, 32, 32, 32, 32]⟩)) ++ (([(aG ⟨#[112, 114, 101, 99, 32, 52, 48]⟩), (aG ⟨#[101, 110, 100, 32, 49]⟩), (aG ⟨#[115, 116, 101, 112, 32, 48, 46, 53, 32, 48, 46, 49, 50, 53]⟩), (aG ⟨#[116, 111, 108, 32, 49]⟩), (aG ⟨#[116, 114, 105, 101, 115, 32, 52]⟩), (aG ⟨#[111, 114, 100, 101, 114, 32, 48]⟩), (aG ⟨#[106, 97, 99, 111, 98, 105]⟩), (aG ⟨#[115, 117, 98, 32, 97]⟩), (aG ⟨#[115, 116, 97, 116, 101, 32, 120, 32, 61, 32, 49, 32, 100, 101, 114, 32, 120]⟩), (aG ⟨#[111, 117, 116, 32, 121, 32, 61, 32, 120]⟩)] : List qd).getD (i_40.toNat) ([] : List Nat))).length + (List.take ((1 : Int) + (IntKind.i64.wrap ((((n_1 % (18446744073709551616 : Int)).toNat % (5 : Nat)) : Nat) : Int))).toNat (aG ⟨#[32, 32, 32, 32, 32]⟩)).length ≤ 9223372036854775807) (ck ((s_39.length) + (((List.take ((1 : Int) + (IntKind.i64.wrap ((((n_1 % (18446744073709551616 : Int)).toNat % (5 : Nat)) : Nat) : Int))).toNat (aG ⟨#[32, 32, 32, 32, 32]⟩)) ++ (([(aG ⟨#[112, 114, 101, 99, 32, 52, 48]⟩), (aG ⟨#[101, 110, 100, 32, 49]⟩), (aG ⟨#[115, 116, 101, 112, 32, 48, 46, 53, 32, 48, 46, 49, 50, 53]⟩), (aG ⟨#[116, 111, 108, 32, 49]⟩), (aG ⟨#[116, 114, 105, 101, 115, 32, 52]⟩), (aG ⟨#[111, 114, 100, 101, 114, 32, 48]⟩), (aG ⟨#[106, 97, 99, 111, 98, 105]⟩), (aG ⟨#[115, 117, 98, 32, 97]⟩), (aG ⟨#[115, 116, 97, 116, 101, 32, 120, 32, 61, 32, 49, 32, 100, 101, 114, 32, 120]⟩), (aG ⟨#[111, 117, 116, 32, 121, 32, 61, 32, 120]⟩)] : List qd).getD (i_40.toNat) ([] : List Nat))) ++ (List.take ((1 : Int) + (IntKind.i64.wrap ((((n_1 % (18446744073709551616 : Int)).toNat % (5 : Nat)) : Nat) : Int))).toNat (aG ⟨#[32, 32, 32, 32, 32]⟩))).length ≤ 9223372036854775807) (ck ((s_39 ++ (((List.take ((1 : Int) + (IntKind.i64.wrap ((((n_1 % (18446744073709551616 : Int)).toNat % (5 : Nat)) : Nat) : Int))).toNat (aG ⟨#[32, 32, 32, 32, 32]⟩)) ++ (([(aG ⟨#[112, 114, 101, 99, 32, 52, 48]⟩), (aG ⟨#[101, 110, 100, 32, 49]⟩), (aG ⟨#[115, 116, 101, 112, 32, 48, 46, 53, 32, 48, 46, 49, 50, 53]⟩), (aG ⟨#[116, 111, 108, 32, 49]⟩), (aG ⟨#[116, 114, 105, 101, 115, 32, 52]⟩), (aG ⟨#[111, 114, 100, 101, 114, 32, 48]⟩), (aG ⟨#[106, 97, 99, 111, 98, 105]⟩), (aG ⟨#[115, 117, 98, 32, 97]⟩), (aG ⟨#[115, 116, 97, 116, 101, 32, 120, 32, 61, 32, 49, 32, 100, 101, 114, 32, 120]⟩), (aG ⟨#[111, 117, 116, 32, 121, 32, 61, 32, 120]⟩)] : List qd).getD (i_40.toNat) ([] : List Nat))) ++ (List.take ((1 : Int) + (IntKind.i64.wrap ((((n_1 % (18446744073709551616 : Int)).toNat % (5 : Nat)) : Nat) : Int))).toNat (aG ⟨#[32, 32, 32, 32, 32]⟩)))).length + (aG ⟨#[10]⟩).length ≤ 9223372036854775807) (ck (I64 (i_40 + (1 : Int))) (some (.inl (((s_39 ++ (((List.take ((1 : Int) + (IntKind.i64.wrap ((((n_1 % (18446744073709551616 : Int)).toNat % (5 : Nat)) : Nat) : Int))).toNat (aG ⟨#[32, 32, 32, 32, 32]⟩)) ++ (([(aG ⟨#[112, 114, 101, 99, 32, 52, 48]⟩), (aG ⟨#[101, 110, 100, 32, 49]⟩), (aG ⟨#[115, 116, 101, 112, 32, 48, 46, 53, 32, 48, 46, 49, 50, 53]⟩), (aG ⟨#[116, 111, 108, 32, 49]⟩), (aG ⟨#[116, 114, 105, 101, 115, 32, 52]⟩), (aG ⟨#[111, 114, 100, 101, 114, 32, 48]⟩), (aG ⟨#[106, 97, 99, 111, 98, 105]⟩), (aG ⟨#[115, 117, 98, 32, 97]⟩), (aG ⟨#[115, 116, 97, 116, 101, 32, 120, 32, 61, 32, 49, 32, 100, 101, 114, 32, 120]⟩), (aG ⟨#[111, 117, 116, 32, 121, 32, 61, 32, 120]⟩)] : List qd).getD (i_40.toNat) ([] : List Nat))) ++ (List.take ((1 : Int) + (IntKind.i64.wrap ((((n_1 % (18446744073709551616 : Int)).toNat % (5 : Nat)) : Nat) : Int))).toNat (aG ⟨#[32, 32, 32, 32, 32]⟩)))) ++ (aG ⟨#[10]⟩)), (i_40 + (1 : Int))))))))) else if (Int.tdiv (IntKind.i64.wrap ((((where_0 % (18446744073709551616 : Int)).toNat % (40 : Nat)) : Nat) : Int)) (10 : Int)) = (1 : Int) then ck ((([(aG ⟨#[112, 114, 101, 99, 32, 52, 48]⟩), (aG ⟨#[101, 110, 100, 32, 49]⟩), (aG ⟨#[115, 116, 101, 112, 32, 48, 46, 53, 32, 48, 46, 49, 50, 53]⟩), (aG ⟨#[116, 111, 108, 32, 49]⟩), (aG ⟨#[116, 114, 105, 101, 115, 32, 52]⟩), (aG ⟨#[111, 114, 100, 101, 114, 32, 48]⟩), (aG ⟨#[106, 97, 99, 111, 98, 105]⟩), (aG ⟨#[115, 117, 98, 32, 97]⟩), (aG ⟨#[115, 116, 97, 116, 101, 32, 120, 32, 61, 32, 49, 32, 100, 101, 114, 32, 120]⟩), (aG ⟨#[111, 117, 116, 32, 121, 32, 61, 32, 120]⟩)] : List qd).getD (i_40.toNat) ([] : List Nat)).length + (List.take ((1 : Int) + (IntKind.i64.wrap ((((n_1 % (18446744073709551616 : Int)).toNat % (5 : Nat)) : Nat) : Int))).toNat (aG ⟨#[32, 32, 32, 32, 32]⟩)).length ≤ 9223372036854775807) (ck (((([(aG ⟨#[112, 114, 101, 99, 32, 52, 48]⟩), (aG ⟨#[101, 110, 100, 32, 49]⟩), (aG ⟨#[115, 116, 101, 112, 32, 48, 46, 53, 32, 48, 46, 49, 50, 53]⟩), (aG ⟨#[116, 111, 108, 32, 49]⟩), (aG ⟨#[116, 114, 105, 101, 115, 32, 52]⟩), (aG ⟨#[111, 114, 100, 101, 114, 32, 48]⟩), (aG ⟨#[106, 97, 99, 111, 98, 105]⟩), (aG ⟨#[115, 117, 98, 32, 97]⟩), (aG ⟨#[115, 116, 97, 116, 101, 32, 120, 32, 61, 32, 49, 32, 100, 101, 114, 32, 120]⟩), (aG ⟨#[111, 117, 116, 32, 121, 32, 61, 32, 120]⟩)] : List qd).getD (i_40.toNat) ([] : List Nat)) ++ (List.take ((1 : Int) + (IntKind.i64.wrap ((((n_1 % (18446744073709551616 : Int)).toNat % (5 : Nat)) : Nat) : Int))).toNat (aG ⟨#[32, 32, 32, 32, 32]⟩))).length + (aG ⟨#[35, 32, 115, 117, 98, 32, 122]⟩).length ≤ 9223372036854775807) (ck ((((([(aG ⟨#[112, 114, 101, 99, 32, 52, 48]⟩), (aG ⟨#[101, 110, 100, 32, 49]⟩), (aG ⟨#[115, 116, 101, 112, 32, 48, 46, 53, 32, 48, 46, 49, 50, 53]⟩), (aG ⟨#[116, 111, 108, 32, 49]⟩), (aG ⟨#[116, 114, 105, 101, 115, 32, 52]⟩), (aG ⟨#[111, 114, 100, 101, 114, 32, 48]⟩), (aG ⟨#[106, 97, 99, 111, 98, 105]⟩), (aG ⟨#[115, 117, 98, 32, 97]⟩), (aG ⟨#[115, 116, 97, 116, 101, 32, 120, 32, 61, 32, 49, 32, 100, 101, 114, 32, 120]⟩), (aG ⟨#[111, 117, 116, 32, 121, 32, 61, 32, 120]⟩)] : List qd).getD (i_40.toNat) ([] : List Nat)) ++ (List.take ((1 : Int) + (IntKind.i64.wrap ((((n_1 % (18446744073709551616 : Int)).toNat % (5 : Nat)) : Nat) : Int))).toNat (aG ⟨#[32, 32, 32, 32, 32]⟩))) ++ (aG ⟨#[35, 32, 115, 117, 98, 32, 122]⟩)).length + (List.take ((1 : Int) + (IntKind.i64.wrap ((((n_1 % (18446744073709551616 : Int)).toNat % (5 : Nat)) : Nat) : Int))).toNat (aG ⟨#[32, 32, 32, 32, 32]⟩)).length ≤ 9223372036854775807) (ck ((s_39.length) + ((((([(aG ⟨#[112, 114, 101, 99, 32, 52, 48]⟩), (aG ⟨#[101, 110, 100, 32, 49]⟩), (aG ⟨#[115, 116, 101, 112, 32, 48, 46, 53, 32, 48, 46, 49, 50, 53]⟩), (aG ⟨#[116, 111, 108, 32, 49]⟩), (aG ⟨#[116, 114, 105, 101, 115, 32, 52]⟩), (aG ⟨#[111, 114, 100, 101, 114, 32, 48]⟩), (aG ⟨#[106, 97, 99, 111, 98, 105]⟩), (aG ⟨#[115, 117, 98, 32, 97]⟩), (aG ⟨#[115, 116, 97, 116, 101, 32, 120, 32, 61, 32, 49, 32, 100, 101, 114, 32, 120]⟩), (aG ⟨#[111, 117, 116, 32, 121, 32, 61, 32, 120]⟩)] : List qd).getD (i_40.toNat) ([] : List Nat)) ++ (List.take ((1 : Int) + (IntKind.i64.wrap ((((n_1 % (18446744073709551616 : Int)).toNat % (5 : Nat)) : Nat) : Int))).toNat (aG ⟨#[32, 32, 32, 32, 32]⟩))) ++ (aG ⟨#[35, 32, 115, 117, 98, 32, 122]⟩)) ++ (List.take ((1 : Int) + (IntKind.i64.wrap ((((n_1 % (18446744073709551616 : Int)).toNat % (5 : Nat)) : Nat) : Int))).toNat (aG ⟨#[32, 32, 32, 32, 32]⟩))).length ≤ 9223372036854775807) (ck ((s_39 ++ ((((([(aG ⟨#[112, 114, 101, 99, 32, 52, 48]⟩), (aG ⟨#[101, 110, 100, 32, 49]⟩), (aG ⟨#[115, 116, 101, 112, 32, 48, 46, 53, 32, 48, 46, 49, 50, 53]⟩), (aG ⟨#[116, 111, 108, 32, 49]⟩), (aG ⟨#[116, 114, 105, 101, 115, 32, 52]⟩), (aG ⟨#[111, 114, 100, 101, 114, 32, 48]⟩), (aG ⟨#[106, 97, 99, 111, 98, 105]⟩), (aG ⟨#[115, 117, 98, 32, 97]⟩), (aG ⟨#[115, 116, 97, 116, 101, 32, 120, 32, 61, 32, 49, 32, 100, 101, 114, 32, 120]⟩), (aG ⟨#[111, 117, 116, 32, 121, 32, 61, 32, 120]⟩)] : List qd).getD (i_40.toNat) ([] : List Nat)) ++ (List.take ((1 : Int) + (IntKind.i64.wrap ((((n_1 % (18446744073709551616 : Int)).toNat % (5 : Nat)) : Nat) : Int))).toNat (aG ⟨#[32, 32, 32, 32, 32]⟩))) ++ (aG ⟨#[35, 32, 115, 117, 98, 32, 122]⟩)) ++ (List.take ((1 : Int) + (IntKind.i64.wrap ((((n_1 % (18446744073709551616 : Int)).toNat % (5 : Nat)) : Nat) : Int))).toNat (aG ⟨#[32, 32, 32, 32, 32]⟩)))).length + (aG ⟨#[10]⟩).length ≤ 9223372036854775807) (ck (I64 (i_40 + (1 : Int))) (some (.inl (((s_39 ++ ((((([(aG ⟨#[112, 114, 101, 99, 32, 52, 48]⟩), (aG ⟨#[101, 110, 100, 32, 49]⟩), (aG ⟨#[115, 116, 101, 112, 32, 48, 46, 53, 32, 48, 46, 49, 50, 53]⟩), (aG ⟨#[116, 111, 108, 32, 49]⟩), (aG ⟨#[116, 114, 105, 101, 115, 32, 52]⟩), (aG ⟨#[111, 114, 100, 101, 114, 32, 48]⟩), (aG ⟨#[106, 97, 99, 111, 98, 105]⟩), (aG ⟨#[115, 117, 98, 32, 97]⟩), (aG ⟨#[115, 116, 97, 116, 101, 32, 120, 32, 61, 32, 49, 32, 100, 101, 114, 32, 120]⟩), (aG ⟨#[111, 117, 116, 32, 121, 32, 61, 32, 120]⟩)] : List qd).getD (i_40.toNat) ([] : List Nat)) ++ (List.take ((1 : Int) + (IntKind.i64.wrap ((((n_1 % (18446744073709551616 : Int)).toNat % (5 : Nat)) : Nat) : Int))).toNat (aG ⟨#[32, 32, 32, 32, 32]⟩))) ++ (aG ⟨#[35, 32, 115, 117, 98, 32, 122]⟩)) ++ (List.take ((1 : Int) + (IntKind.i64.wrap ((((n_1 % (18446744073709551616 : Int)).toNat % (5 : Nat)) : Nat) : Int))).toNat (aG ⟨#[32, 32, 32, 32, 32]⟩)))) ++ (aG ⟨#[10]⟩)), (i_40 + (1 : Int)))))))))) else if (Int.tdiv (IntKind.i64.wrap ((((where_0 % (18446744073709551616 : Int)).toNat % (40 : Nat)) : Nat) : Int)) (10 : Int)) = (2 : Int) then ck ((List.take ((1 : Int) + (IntKind.i64.wrap ((((n_1 % (18446744073709551616 : Int)).toNat % (5 : Nat)) : Nat) : Int))).toNat (aG ⟨#[32, 32, 32, 32, 32]⟩)).length + (aG ⟨#[10, 35, 32, 108, 105, 110, 107, 10, 10]⟩).length ≤ 9223372036854775807) (ck (((List.take ((1 : Int) + (IntKind.i64.wrap ((((n_1 % (18446744073709551616 : Int)).toNat % (5 : Nat)) : Nat) : Int))).toNat (aG ⟨#[32, 32, 32, 32, 32]⟩)) ++ (aG ⟨#[10, 35, 32, 108, 105, 110, 107, 10, 10]⟩)).length + (([(aG ⟨#[112, 114, 101, 99, 32, 52, 48]⟩), (aG ⟨#[101, 110, 100, 32, 49]⟩), (aG ⟨#[115, 116, 101, 112, 32, 48, 46, 53, 32, 48, 46, 49, 50, 53]⟩), (aG ⟨#[116, 111, 108, 32, 49]⟩), (aG ⟨#[116, 114, 105, 101, 115, 32, 52]⟩), (aG ⟨#[111, 114, 100, 101, 114, 32, 48]⟩), (aG ⟨#[106, 97, 99, 111, 98, 105]⟩), (aG ⟨#[115, 117, 98, 32, 97]⟩), (aG ⟨#[115, 116, 97, 116, 101, 32, 120, 32, 61, 32, 49, 32, 100, 101, 114, 32, 120]⟩), (aG ⟨#[111, 117, 116, 32, 121, 32, 61, 32, 120]⟩)] : List qd).getD (i_40.toNat) ([] : List Nat)).length ≤ 9223372036854775807) (ck ((s_39.length) + (((List.take ((1 : Int) + (IntKind.i64.wrap ((((n_1 % (18446744073709551616 : Int)).toNat % (5 : Nat)) : Nat) : Int))).toNat (aG ⟨#[32, 32, 32, 32, 32]⟩)) ++ (aG ⟨#[10, 35, 32, 108, 105, 110, 107, 10, 10]⟩)) ++ (([(aG ⟨#[112, 114, 101, 99, 32, 52, 48]⟩), (aG ⟨#[101, 110, 100, 32, 49]⟩), (aG ⟨#[115, 116, 101, 112, 32, 48, 46, 53, 32, 48, 46, 49, 50, 53]⟩), (aG ⟨#[116, 111, 108, 32, 49]⟩), (aG ⟨#[116, 114, 105, 101, 115, 32, 52]⟩), (aG ⟨#[111, 114, 100, 101, 114, 32, 48]⟩), (aG ⟨#[106, 97, 99, 111, 98, 105]⟩), (aG ⟨#[115, 117, 98, 32, 97]⟩), (aG ⟨#[115, 116, 97, 116, 101, 32, 120, 32, 61, 32, 49, 32, 100, 101, 114, 32, 120]⟩), (aG ⟨#[111, 117, 116, 32, 121, 32, 61, 32, 120]⟩)] : List qd).getD (i_40.toNat) ([] : List Nat))).length ≤ 9223372036854775807) (ck ((s_39 ++ (((List.take ((1 : Int) + (IntKind.i64.wrap ((((n_1 % (18446744073709551616 : Int)).toNat % (5 : Nat)) : Nat) : Int))).toNat (aG ⟨#[32, 32, 32, 32, 32]⟩)) ++ (aG ⟨#[10, 35, 32, 108, 105, 110, 107, 10, 10]⟩)) ++ (([(aG ⟨#[112, 114, 101, 99, 32, 52, 48]⟩), (aG ⟨#[101, 110, 100, 32, 49]⟩), (aG ⟨#[115, 116, 101, 112, 32, 48, 46, 53, 32, 48, 46, 49, 50, 53]⟩), (aG ⟨#[116, 111, 108, 32, 49]⟩), (aG ⟨#[116, 114, 105, 101, 115, 32, 52]⟩), (aG ⟨#[111, 114, 100, 101, 114, 32, 48]⟩), (aG ⟨#[106, 97, 99, 111, 98, 105]⟩), (aG ⟨#[115, 117, 98, 32, 97]⟩), (aG ⟨#[115, 116, 97, 116, 101, 32, 120, 32, 61, 32, 49, 32, 100, 101, 114, 32, 120]⟩), (aG ⟨#[111, 117, 116, 32, 121, 32, 61, 32, 120]⟩)] : List qd).getD (i_40.toNat) ([] : List Nat)))).length + (aG ⟨#[10]⟩).length ≤ 9223372036854775807) (ck (I64 (i_40 + (1 : Int))) (some (.inl (((s_39 ++ (((List.take ((1 : Int) + (IntKind.i64.wrap ((((n_1 % (18446744073709551616 : Int)).toNat % (5 : Nat)) : Nat) : Int))).toNat (aG ⟨#[32, 32, 32, 32, 32]⟩)) ++ (aG ⟨#[10, 35, 32, 108, 105, 110, 107, 10, 10]⟩)) ++ (([(aG ⟨#[112, 114, 101, 99, 32, 52, 48]⟩), (aG ⟨#[101, 110, 100, 32, 49]⟩), (aG ⟨#[115, 116, 101, 112, 32, 48, 46, 53, 32, 48, 46, 49, 50, 53]⟩), (aG ⟨#[116, 111, 108, 32, 49]⟩), (aG ⟨#[116, 114, 105, 101, 115, 32, 52]⟩), (aG ⟨#[111, 114, 100, 101, 114, 32, 48]⟩), (aG ⟨#[106, 97, 99, 111, 98, 105]⟩), (aG ⟨#[115, 117, 98, 32, 97]⟩), (aG ⟨#[115, 116, 97, 116, 101, 32, 120, 32, 61, 32, 49, 32, 100, 101, 114, 32, 120]⟩), (aG ⟨#[111, 117, 116, 32, 121, 32, 61, 32, 120]⟩)] : List qd).getD (i_40.toNat) ([] : List Nat)))) ++ (aG ⟨#[10]⟩)), (i_40 + (1 : Int))))))))) else (eG F (fun d : qd × Int => nH F i_40 n_1 d.1 d.2) ((aG ⟨#[]⟩), (0 : Int))).bind (fun e => ck ((s_39.length) + (e.length) ≤ 9223372036854775807) (ck ((s_39 ++ e).length + (aG ⟨#[10]⟩).length ≤ 9223372036854775807) (ck (I64 (i_40 + (1 : Int))) (some (.inl (((s_39 ++ e) ++ (aG ⟨#[10]⟩)), (i_40 + (1 : Int))))))))) else ck ((s_39.length) + (([(aG ⟨#[112, 114, 101, 99, 32, 52, 48]⟩), (aG ⟨#[101, 110, 100, 32, 49]⟩), (aG ⟨#[115, 116, 101, 112, 32, 48, 46, 53, 32, 48, 46, 49, 50, 53]⟩), (aG ⟨#[116, 111, 108, 32, 49]⟩), (aG ⟨#[116, 114, 105, 101, 115, 32, 52]⟩), (aG ⟨#[111, 114, 100, 101, 114, 32, 48]⟩), (aG ⟨#[106, 97, 99, 111, 98, 105]⟩), (aG ⟨#[115, 117, 98, 32, 97]⟩), (aG ⟨#[115, 116, 97, 116, 101, 32, 120, 32, 61, 32, 49, 32, 100, 101, 114, 32, 120]⟩), (aG ⟨#[111, 117, 116, 32, 121, 32, 61, 32, 120]⟩)] : List qd).getD (i_40.toNat) ([] : List Nat)).length ≤ 9223372036854775807) (ck ((s_39 ++ (([(aG ⟨#[112, 114, 101, 99, 32, 52, 48]⟩), (aG ⟨#[101, 110, 100, 32, 49]⟩), (aG ⟨#[115, 116, 101, 112, 32, 48, 46, 53, 32, 48, 46, 49, 50, 53]⟩), (aG ⟨#[116, 111, 108, 32, 49]⟩), (aG ⟨#[116, 114, 105, 101, 115, 32, 52]⟩), (aG ⟨#[111, 114, 100, 101, 114, 32, 48]⟩), (aG ⟨#[106, 97, 99, 111, 98, 105]⟩), (aG ⟨#[115, 117, 98, 32, 97]⟩), (aG ⟨#[115, 116, 97, 116, 101, 32, 120, 32, 61, 32, 49, 32, 100, 101, 114, 32, 120]⟩), (aG ⟨#[111, 117, 116, 32, 121, 32, 61, 32, 120]⟩)] : List qd).getD (i_40.toNat) ([] : List Nat))).length + (aG ⟨#[10]⟩).length ≤ 9223372036854775807) (ck (I64 (i_40 + (1 : Int))) (some (.inl (((s_39 ++ (([(aG ⟨#[112, 114, 101, 99, 32, 52, 48]⟩), (aG ⟨#[101, 110, 100, 32, 49]⟩), (aG ⟨#[115, 116, 101, 112, 32, 48, 46, 53, 32, 48, 46, 49, 50, 53]⟩), (aG ⟨#[116, 111, 108, 32, 49]⟩), (aG ⟨#[116, 114, 105, 101, 115, 32, 52]⟩), (aG ⟨#[111, 114, 100, 101, 114, 32, 48]⟩), (aG ⟨#[106, 97, 99, 111, 98, 105]⟩), (aG ⟨#[115, 117, 98, 32, 97]⟩), (aG ⟨#[115, 116, 97, 116, 101, 32, 120, 32, 61, 32, 49, 32, 100, 101, 114, 32, 120]⟩), (aG ⟨#[111, 117, 116, 32, 121, 32, 61, 32, 120]⟩)] : List qd).getD (i_40.toNat) ([] : List Nat))) ++ (aG ⟨#[10]⟩)), (i_40 + (1 : Int)))))))) else some (.inr s_39)
def cJ (F : Md) (where_0 : Int) (n_1 : Int) : Option Bool :=
 ck (I64 ((1 : Int) + (IntKind.i64.wrap ((((n_1 % (18446744073709551616 : Int)).toNat % (5 : Nat)) : Nat) : Int)))) (ck (0 ≤ ((1 : Int) + (IntKind.i64.wrap ((((n_1 % (18446744073709551616 : Int)).toNat % (5 : Nat)) : Nat) : Int))) ∧ ((1 : Int) + (IntKind.i64.wrap ((((n_1 % (18446744073709551616 : Int)).toNat % (5 : Nat)) : Nat) : Int))) ≤ (((aG ⟨#[32, 32, 32, 32, 32]⟩).length : Nat) : Int)) ((eG F (fun d : qd × Int => oI F where_0 n_1 d.1 d.2) ((aG ⟨#[]⟩), (0 : Int))).bind (fun e => lH F e)))
def aBv : PlR := ⟨[(0, .A [0, 1]), (1, .A [0, 5]), (2, .A [0, 6]), (3, .A [0, 6, 7]), (4, .A [0, 6, 7, 8]), (5, .A [6, 7, 8, 9]), (6, .A [6, 7, 8, 9, 10]), (7, .A [6, 7, 8, 9, 10, 35]), (8, .A [6, 7, 8, 9, 10]), (9, .A [6, 7, 8, 9, 10, 11]), (10, .A [6, 7, 8, 9, 10, 11, 45]), (11, .A [6, 7, 8, 9, 10, 11, 47]), (12, .A [6, 7, 8, 9, 10, 11, 12]), (13, .A [6, 7, 8, 9, 10, 11, 12, 13]), (14, .A [6, 7, 8, 9, 10, 11, 12, 13, 51]), (15, .A [6, 7, 8, 9, 10, 11, 12, 13]), (16, .A [6, 7, 8, 9, 10, 11, 12, 13]), (17, .A [6, 7, 8, 9, 10, 11, 12, 13, 64]), (18, .A [6, 7, 8, 9, 10, 11, 12, 13]), (19, .A [6, 7, 8, 9, 10, 11]), (20, .A [6, 7, 8, 9, 10, 11, 47, 69]), (21, .A [6, 7, 8, 9, 10, 11]), (22, .A [6, 7, 8, 9, 10, 11, 47, 76]), (23, .A [6, 7, 8, 9, 10, 11]), (24, .A [6, 7, 8, 9, 10, 11, 84]), (25, .A [6, 7, 8, 9, 10, 11]), (26, .A [6, 7, 8, 9, 10]), (27, .B [8, 14, 16]), (28, .B [14, 16, 17, 19]), (29, .A [4])], [(9, 30)]⟩
def qV : Ty := .pair qe q9
def aBw (F : Md) : aJ := mSpec qV (.one .bool) (fun x => cJ F x.1 x.2.1)
abbrev nQ (F : Md) : List (FuncId × aJ) := [(11, (rI F)), (12, (tE F)), (13, (rJ F)), (8, aA7)]
theorem aIb [Mx] (F : Md) : bJ Tryz.prog GL (nQ F) := .cons (aHG F) xAa (.cons (aIH F) xAa (.cons (aHL F) xAa (.cons aQa xAa (.nil))))
attribute [go_sem] qV aBv
theorem aHN [Mx] (F : Md) : FOK Tryz.prog GL 4 (aBw F) := by
 refine bT (aV (aIb F)) mix Tryz.func4 rfl xAa xAc aBv fun w0 S x Θ hw h hF => ?_
 obtain ⟨(where_0 : Int), (n_1 : Int), u⟩ := x
 simp only [bX, go_sem]
 replace h : sat (cJ F where_0 n_1) _ := h
 unfold cJ at h
 refine aR h fun g0 h => ?_
 refine aR h fun g0 h => ?_
 refine eY hF (D := qd) (fun d => sat (lH F d) Θ) [] (fun d => [(8, .val .str d)]) (fun d => []) ?_ ?_
 ·simp only [go_sem]
  refine cG hF (D := qd × Int) [6, 9] (fun d => [(7, .val wg ([(aG ⟨#[112, 114, 101, 99, 32, 52, 48]⟩), (aG ⟨#[101, 110, 100, 32, 49]⟩), (aG ⟨#[115, 116, 101, 112, 32, 48, 46, 53, 32, 48, 46, 49, 50, 53]⟩), (aG ⟨#[116, 111, 108, 32, 49]⟩), (aG ⟨#[116, 114, 105, 101, 115, 32, 52]⟩), (aG ⟨#[111, 114, 100, 101, 114, 32, 48]⟩), (aG ⟨#[106, 97, 99, 111, 98, 105]⟩), (aG ⟨#[115, 117, 98, 32, 97]⟩), (aG ⟨#[115, 116, 97, 116, 101, 32, 120, 32, 61, 32, 49, 32, 100, 101, 114, 32, 120]⟩), (aG ⟨#[111, 117, 116, 32, 121, 32, 61, 32, 120]⟩)] : List qd)), (8, .val .str d.1), (10, .val qe d.2)]) (fun d => []) h rfl (by (try simp only [lX, dQ, true_or, and_self, go_sem]) <;> (repeat' apply And.intro) <;> first | rfl | (left; rfl) | (right; rfl) | (left; simp only [go_sem]; done) | (right; simp only [go_sem]; done) | (simp; done) | (simp only [*]; done) | omega) ?_
  rintro ⟨s_39, i_40⟩ A7 T7 hA7 hE7 h
  simp only [go_sem]
  replace h : sat (oI F where_0 n_1 s_39 i_40) _ := h
  unfold oI at h
  refine fI h (fun hc h => ?_) fun hc h => ?_
  ·refine aR h fun g0 h => ?_
   refine eH h (fun hc h => ?_) fun hc h => ?_
   ·refine aR h fun g0 h => ?_
    refine eH h (fun hc h => ?_) fun hc h => ?_
    ·refine aR h fun g0 h => aR h fun g1 h => ?_
     exact zan
    ·refine eH h (fun hc h => ?_) fun hc h => ?_
     ·refine aR h fun g0 h => aR h fun g1 h => aR h fun g2 h => ?_
      exact zan
     ·refine eH h (fun hc h => ?_) fun hc h => ?_
      ·refine aR h fun g0 h => aR h fun g1 h => ?_
       exact zan
      ·refine cG hF (D := qd × Int) [6, 7, 8, 9, 10, 11] (fun d => [(12, .val .str d.1), (13, .val qe d.2)]) (fun d => []) h rfl xAb ?_
       rintro ⟨y_75, j_76⟩ A14 T14 hA14 hE14 h
       simp only [go_sem]
       replace h : sat (nH F i_40 n_1 y_75 j_76) _ := h
       unfold nH at h
       refine fI h (fun hc h => ?_) fun hc h => ?_
       ·refine aR h fun g0 h => aR h fun g1 h => aR h fun g2 h => ?_
        refine aR h fun g0 h => ?_
        refine eH h (fun hc h => ?_) fun hc h => ?_
        ·refine aR h fun g0 h => ?_
         refine aR h fun g0 h => ?_
         replace h := hA14 _ (aE h)
         exact zaI
        ·refine aR h fun g0 h => ?_
         replace h := hA14 _ (aE h)
         exact zaI
       ·replace h := yaF (hE14 _ (aE h))
        exact zan
   ·refine aR h fun g0 h => aR h fun g1 h => ?_
    refine aR h fun g0 h => ?_
    replace h := hA7 _ (aE h)
    exact zaI
  ·replace h := yaF (hE7 _ (aE h))
   exact aZ (s_39) h rfl xAb
 ·rintro s_25 h
  simp only [go_sem]
  replace h : sat (lH F s_25) _ := h
  unfold lH at h
  obtain ⟨v_27, hv, h⟩ := aP h
  try simp only [hv, go_sem]
  refine aR h fun g0 h => ?_
  refine aR h fun g0 h => ?_
  obtain ⟨v_29, hv, h⟩ := aP h
  try simp only [hv, go_sem]
  refine aR h fun g0 h => aR h fun g1 h => aR h fun g2 h => ?_
  exact zaD
attribute [go_sem] aBw
end
end Nu
end Go.Proofs
namespace Go.Proofs
open Go.Vc
set_option maxRecDepth 100000
namespace Nu
def aDo (f : Int → Int → Option Bool) (a n m : Nat) : Bool := (List.range n).all fun i => (List.range m).all fun k => f ((a + i : Nat) : Int) (k : Int) == some true
theorem tF {f : Int → Int → Option Bool} {a n m : Nat} (h : aDo f a n m = true) {i k : Nat} (h1 : a ≤ i) (h2 : i < a + n) (h3 : k < m) : f (i : Int) (k : Int) = some true := by
 have := List.all_eq_true.1 (List.all_eq_true.1 h (i - a) (List.mem_range.2 (by omega))) k (List.mem_range.2 h3)
 rw [show a + (i - a) = i from by omega] at this
 simpa using this
theorem aQb [Mx] : aDo (cJ (some 1000)) 0 4 5 = true := by kernel_rfl
theorem aQc [Mx] : aDo (cJ (some 1000)) 4 4 5 = true := by kernel_rfl
theorem aQd [Mx] : aDo (cJ (some 1000)) 8 4 5 = true := by kernel_rfl
theorem aPw [Mx] : aDo (cJ (some 1000)) 12 4 5 = true := by kernel_rfl
theorem aPx [Mx] : aDo (cJ (some 1000)) 16 4 5 = true := by kernel_rfl
theorem aPy [Mx] : aDo (cJ (some 1000)) 20 4 5 = true := by kernel_rfl
theorem aPz [Mx] : aDo (cJ (some 1000)) 24 4 5 = true := by kernel_rfl
theorem aPA [Mx] : aDo (cJ (some 1000)) 28 4 5 = true := by kernel_rfl
theorem aPB [Mx] : aDo (cJ (some 1000)) 32 4 5 = true := by kernel_rfl
theorem aPC [Mx] : aDo (cJ (some 1000)) 36 4 5 = true := by kernel_rfl
theorem aPD {x n : Nat} (h : x < n) (hn : n < 18446744073709551616) : (((x : Nat) : Int) % (18446744073709551616 : Int)).toNat % n = x := by
 rw [show (((x : Nat) : Int) % (18446744073709551616 : Int)) = (x : Int) from by omega, Int.toNat_natCast, Nat.mod_eq_of_lt h]
theorem aL4 [Mx] (a b : Int) : cJ (some 1000) a b = some true := by
 have h1 : (a % 18446744073709551616).toNat % 40 < 40 := Nat.mod_lt _ xAc
 have h2 : (b % 18446744073709551616).toNat % 5 < 5 := Nat.mod_lt _ xAc
 have e : cJ (some 1000) a b = cJ (some 1000) (((a % 18446744073709551616).toNat % 40 : Nat) : Int) (((b % 18446744073709551616).toNat % 5 : Nat) : Int) := by
  have e1 := aPD h1 xAc
  have e2 := aPD h2 xAc
  generalize ha : (a % 18446744073709551616).toNat % 40 = i at *
  generalize hb : (b % 18446744073709551616).toNat % 5 = k at *
  unfold cJ lH oI nH
  simp only [ha, hb, e1, e2]
 rw [e]
 generalize (a % 18446744073709551616).toNat % 40 = i at *
 generalize (b % 18446744073709551616).toNat % 5 = k at *
 by_cases g0 : i < 4
 ·exact tF aQb (by omega) (by omega) h2
 by_cases g4 : i < 8
 ·exact tF aQc (by omega) (by omega) h2
 by_cases g8 : i < 12
 ·exact tF aQd (by omega) (by omega) h2
 by_cases g12 : i < 16
 ·exact tF aPw (by omega) (by omega) h2
 by_cases g16 : i < 20
 ·exact tF aPx (by omega) (by omega) h2
 by_cases g20 : i < 24
 ·exact tF aPy (by omega) (by omega) h2
 by_cases g24 : i < 28
 ·exact tF aPz (by omega) (by omega) h2
 by_cases g28 : i < 32
 ·exact tF aPA (by omega) (by omega) h2
 by_cases g32 : i < 36
 ·exact tF aPB (by omega) (by omega) h2
 exact tF aPC (by omega) (by omega) h2
end Nu
end Go.Proofs
