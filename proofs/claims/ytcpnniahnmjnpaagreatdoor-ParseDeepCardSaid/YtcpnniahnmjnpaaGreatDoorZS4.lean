import Derived.Test.YtcpnniahnmjnpaaGreatDoorZS2
import Derived.Test.YtcpnniahnmjnpaaGreatDoorZS3
set_option linter.unusedVariables false
set_option linter.unusedSimpArgs false
namespace Go.Proofs
open Go.Vc
set_option maxRecDepth 20000
namespace Nu
noncomputable section
set_option maxHeartbeats 4000000
attribute [-go_sem] Ex.kind Ex.text Ex.l
@[reducible] def aXn (xs : List qd) : Prop := xs.length * 16 ≤ 140737488355328
def tE : Ty := .pair wh .unit
def lD : aI := ⟨tE, .own 9 .str, fun x => aXn x.1, fun x => id x.1⟩
attribute [go_sem] lD tE
abbrev aAE (F : Md) : List (FuncId × aI) := []
theorem aAF [Mx] (F : Md) : bJ Tryz.prog GL (aAE F) := .nil
theorem aFX [Mx] : FOK Tryz.prog GL 73 lD := by
 refine aSU (aT (aAF none)) Tryz.func73 rfl xAa xAc fun w0 S x hw hp => ?_
 have hF : fT (fr Tryz.prog (EM (aAE none)) S w0 Tryz.f73.ntmps) := ⟨aT (aAF none), mix⟩
 obtain ⟨(s : qw), u⟩ := x
 have hp : s.length * 16 ≤ 140737488355328 := hp
 simp only [bX, tE, lD]
 exact zab
def pT (F : Md) (e_0 : Ex) (names_1 : qw) : Option Bool :=
 (yM F e_0).bind (fun v_6 => ck ((v_6 = true) → ((aCy F 64 e_0 names_1).isSome = true)) (some (v_6 && ((aCy F 64 e_0 names_1).getD false))))
def aEW : PlR := ⟨[(0, .B [1, 2]), (1, .A [4])], []⟩
def aGn : Ty := .pair .expr (.pair wh .unit)
def oM (F : Md) : aI := mSpec aGn (.one .bool) (fun x => pT F x.1 x.2.1)
abbrev aBI (F : Md) : List (FuncId × aI) := [(115, (aA4 F 64)), (21, (uT F))]
theorem aNu [Mx] (F : Md) : bJ Tryz.prog GL (aBI F) := .cons (aIq F 64) xAa (.cons (aKk F) xAa (.nil))
attribute [go_sem] aGn aEW
theorem aEX [Mx] (F : Md) : FOK Tryz.prog GL 75 (oM F) := by
 refine bT (aT (aNu F)) mix Tryz.func75 rfl xAa xAc aEW fun w0 S x Θ hw h hF => ?_
 obtain ⟨(e_0 : Ex), (names_1 : qw), u⟩ := x
 simp only [bX, go_sem]
 replace h : sat (pT F e_0 names_1) _ := h
 unfold pT at h
 obtain ⟨v_6, hv, h⟩ := aN h
 try simp only [hv, go_sem]
 refine bD h fun g0 h => ?_
 exact zaD
attribute [go_sem] oM
def vC (F : Md) (a_0 : qz) (a1_1 : qw) : Option Bool :=
 (pT F a_0.2.1 a1_1).bind (fun v_6 => some (!v_6))
def aD1 : PlR := ⟨[(0, .B [1, 2]), (1, .A [3])], []⟩
def aEY : Ty := .pair qr wy
def tK (F : Md) : aI := mSpec aEY (.one .bool) (fun x => vC F x.1 x.2.1)
abbrev aEZ (F : Md) : List (FuncId × aI) := [(75, (oM F))]
theorem aLP [Mx] (F : Md) : bJ Tryz.prog GL (aEZ F) := .cons (aEX F) xAa (.nil)
attribute [go_sem] aEY aD1
theorem aKw [Mx] (F : Md) : FOK Tryz.prog GL 77 (tK F) := by
 refine bT (aT (aLP F)) mix Tryz.func77 rfl xAa xAc aD1 fun w0 S x Θ hw h hF => ?_
 obtain ⟨(a_0 : qz), (a1_1 : qw), u⟩ := x
 simp only [bX, go_sem]
 replace h : sat (vC F a_0 a1_1) _ := h
 unfold vC at h
 obtain ⟨v_6, hv, h⟩ := aN h
 try simp only [hv, go_sem]
 exact aK hF [.tmp 3] rfl rfl rfl (aE h) xAd
attribute [go_sem] tK
def eN (F : Md) (s_0 : wt) (f_1 : wq) (x8_14 : Int) : Option ((Int) ⊕ ((Unit) ⊕ Int)) :=
 if x8_14 < (s_0.length : Int) then ck (0 ≤ x8_14 ∧ x8_14 < (s_0.length : Int)) ((vC F (s_0.getD (x8_14.toNat) ([], (Ex.mk 0 [] []), ())) f_1.1).bind (fun v_27 => if v_27 = true then some (.inr (.inr x8_14)) else ck (I64 (x8_14 + (1 : Int))) (some (.inl (x8_14 + (1 : Int)))))) else some (.inr (.inl ()))
def dM (F : Md) (s_0 : wt) (f_1 : wq) : Option Int :=
 (eG F (fun d : Int => eN F s_0 f_1 d) (0 : Int)).bind (fun e => match e with | (.inl e) => some (-1 : Int) | (.inr e) => some e)
def iN : PlR := ⟨[(0, .A [0, 1]), (1, .A [0, 1, 7, 8]), (2, .A [0, 1, 7, 8, 9]), (3, .A [0, 1, 5, 7, 8]), (4, .A [0, 1, 5, 7, 8, 16]), (5, .A [4]), (6, .A [0, 1, 7, 8]), (7, .A [4])], []⟩
def iT : Ty := .pair (.sl qr) (.pair (.clo 77 wy) .unit)
def dG (F : Md) : aI := mSpec iT (.one qe) (fun x => dM F x.1 x.2.1)
abbrev iU (F : Md) : List (FuncId × aI) := [(77, (tK F))]
theorem pH [Mx] (F : Md) : bJ Tryz.prog GL (iU F) := .cons (aKw F) xAa (.nil)
attribute [go_sem] iT iN
theorem oX [Mx] (F : Md) : FOK Tryz.prog GL 116 (dG F) := by
 refine bT (aT (pH F)) mix Tryz.func116 rfl xAa xAc iN fun w0 S x Θ hw h hF => ?_
 obtain ⟨(s_0 : wt), (f_1 : wq), u⟩ := x
 simp only [bX, go_sem]
 replace h : sat (dM F s_0 f_1) _ := h
 unfold dM at h
 refine cG hF (D := Int) [0, 1, 7] (fun d => [(8, .val qe d)]) (fun d => []) h rfl xAb ?_
 rintro x8_14 A2 T2 hA2 hE2 h
 simp only [go_sem]
 replace h : sat (eN F s_0 f_1 x8_14) _ := h
 unfold eN at h
 exact zaP
attribute [go_sem] dG
def cK (F : Md) (s_0 : wt) (f_1 : wq) : Option Bool :=
 (dM F s_0 f_1).bind (fun v_8 => some (decide ((0 : Int) ≤ v_8)))
def gQ : PlR := ⟨[(0, .A [0, 1]), (1, .A [4])], []⟩
def hN : Ty := .pair (.sl qr) (.pair (.clo 77 wy) .unit)
def cY (F : Md) : aI := mSpec hN (.one .bool) (fun x => cK F x.1 x.2.1)
abbrev hO (F : Md) : List (FuncId × aI) := [(116, (dG F))]
theorem oB [Mx] (F : Md) : bJ Tryz.prog GL (hO F) := .cons (oX F) xAa (.nil)
attribute [go_sem] hN gQ
theorem nM [Mx] (F : Md) : FOK Tryz.prog GL 76 (cY F) := by
 refine bT (aT (oB F)) mix Tryz.func76 rfl xAa xAc gQ fun w0 S x Θ hw h hF => ?_
 obtain ⟨(s_0 : wt), (f_1 : wq), u⟩ := x
 simp only [bX, go_sem]
 replace h : sat (cK F s_0 f_1) _ := h
 unfold cK at h
 obtain ⟨v_8, hv, h⟩ := aN h
 exact zaR
attribute [go_sem] cY
def aDj (F : Md) (s_0 : qc) (x93_11 : Int) : Option ((Int) ⊕ ((Unit) ⊕ Bool)) :=
 if x93_11 < (s_0.2.2.1.length : Int) then ck (0 ≤ x93_11 ∧ x93_11 < (s_0.2.2.1.length : Int)) (ck ((mQ F (s_0.2.2.1.getD (x93_11.toNat) ([], ([], [], ()), ())).2.1).isSome = true) (if ¬ (((mQ F (s_0.2.2.1.getD (x93_11.toNat) ([], ([], [], ()), ())).2.1).getD false) = true) then some (.inr (.inr false)) else ck (I64 (x93_11 + (1 : Int))) (some (.inl (x93_11 + (1 : Int)))))) else some (.inr (.inl ()))
def aAc (F : Md) (s_0 : qc) : Option (Bool) :=
 (eG F (fun d : Int => aDj F s_0 d) (0 : Int)).bind (fun e => match e with | (.inl e) => ck ((cK F s_0.2.2.2.2.1 (((cE F ([((bH F s_0).getD (([] : List qd), ([] : List qd), ([] : List qd), ())).1, ((bH F s_0).getD (([] : List qd), ([] : List qd), ([] : List qd), ())).2.1, ((bH F s_0).getD (([] : List qd), ([] : List qd), ([] : List qd), ())).2.2.1] : List qw)).getD ([] : List qd)), ())).isSome = true) (some (!((cK F s_0.2.2.2.2.1 (((cE F ([((bH F s_0).getD (([] : List qd), ([] : List qd), ([] : List qd), ())).1, ((bH F s_0).getD (([] : List qd), ([] : List qd), ([] : List qd), ())).2.1, ((bH F s_0).getD (([] : List qd), ([] : List qd), ([] : List qd), ())).2.2.1] : List qw)).getD ([] : List qd)), ())).getD false))) | (.inr e) => some e)
def aDk (F : Md) (s_0 : qc) (x74_14 : Int) : Option ((Int) ⊕ ((Unit) ⊕ Bool)) :=
 if x74_14 < (s_0.2.1.length : Int) then ck (0 ≤ x74_14 ∧ x74_14 < (s_0.2.1.length : Int)) (ck ((mQ F (s_0.2.1.getD (x74_14.toNat) ([], ([], [], ()), (Ex.mk 0 [] []), ())).2.1).isSome = true) (ck (¬ (¬ (((mQ F (s_0.2.1.getD (x74_14.toNat) ([], ([], [], ()), (Ex.mk 0 [] []), ())).2.1).getD false) = true)) → ((pT F (s_0.2.1.getD (x74_14.toNat) ([], ([], [], ()), (Ex.mk 0 [] []), ())).2.2.1 ((cE F ([((bH F s_0).getD (([] : List qd), ([] : List qd), ([] : List qd), ())).1, ((bH F s_0).getD (([] : List qd), ([] : List qd), ([] : List qd), ())).2.1, ((bH F s_0).getD (([] : List qd), ([] : List qd), ([] : List qd), ())).2.2.1] : List qw)).getD ([] : List qd))).isSome = true)) (if (¬ (((mQ F (s_0.2.1.getD (x74_14.toNat) ([], ([], [], ()), (Ex.mk 0 [] []), ())).2.1).getD false) = true)) ∨ (¬ (((pT F (s_0.2.1.getD (x74_14.toNat) ([], ([], [], ()), (Ex.mk 0 [] []), ())).2.2.1 ((cE F ([((bH F s_0).getD (([] : List qd), ([] : List qd), ([] : List qd), ())).1, ((bH F s_0).getD (([] : List qd), ([] : List qd), ([] : List qd), ())).2.1, ((bH F s_0).getD (([] : List qd), ([] : List qd), ([] : List qd), ())).2.2.1] : List qw)).getD ([] : List qd))).getD false) = true)) then some (.inr (.inr false)) else ck (I64 (x74_14 + (1 : Int))) (some (.inl (x74_14 + (1 : Int))))))) else some (.inr (.inl ()))
def aAd (F : Md) (s_0 : qc) (all_6 : qw) : Option (Bool) :=
 ck ((sY F all_6).isSome = true) (if ¬ (((sY F all_6).getD false) = true) then some false else (eG F (fun d : Int => aDk F s_0 d) (0 : Int)).bind (fun e => match e with | (.inl e) => aAc F s_0 | (.inr e) => some e))
def aD2 (F : Md) (s_0 : qc) (x58_17 : Int) (all_18 : qw) : Option ((Int × qw) ⊕ qw) :=
 if x58_17 < (s_0.2.2.2.2.1.length : Int) then ck (0 ≤ x58_17 ∧ x58_17 < (s_0.2.2.2.2.1.length : Int)) (ck (((all_18.length) + (1 : Nat)) * 16 ≤ 140737488355328) (ck (I64 (x58_17 + (1 : Int))) (some (.inl ((x58_17 + (1 : Int)), (all_18 ++ ([(s_0.2.2.2.2.1.getD (x58_17.toNat) ([], (Ex.mk 0 [] []), ())).1] : List qd))))))) else some (.inr all_18)
def aAe (F : Md) (s_0 : qc) : Option Bool :=
 if (((((s_0.2.1.length : Int) < (1 : Int)) ∨ ((6 : Int) < (s_0.2.1.length : Int))) ∨ ((6 : Int) < (s_0.2.2.1.length : Int))) ∨ ((4 : Int) < (s_0.2.2.2.1.length : Int))) ∨ ((4 : Int) < (s_0.2.2.2.2.1.length : Int)) then some false else ck ((bH F s_0).isSome = true) (ck ((cE F ([((bH F s_0).getD (([] : List qd), ([] : List qd), ([] : List qd), ())).1, ((bH F s_0).getD (([] : List qd), ([] : List qd), ([] : List qd), ())).2.1, ((bH F s_0).getD (([] : List qd), ([] : List qd), ([] : List qd), ())).2.2.1] : List qw)).isSome = true) (ck (aXn ((cE F ([((bH F s_0).getD (([] : List qd), ([] : List qd), ([] : List qd), ())).1, ((bH F s_0).getD (([] : List qd), ([] : List qd), ([] : List qd), ())).2.1, ((bH F s_0).getD (([] : List qd), ([] : List qd), ([] : List qd), ())).2.2.1] : List qw)).getD ([] : List qd))) ((eG F (fun d : Int × qw => aD2 F s_0 d.1 d.2) ((0 : Int), (id ((cE F ([((bH F s_0).getD (([] : List qd), ([] : List qd), ([] : List qd), ())).1, ((bH F s_0).getD (([] : List qd), ([] : List qd), ([] : List qd), ())).2.1, ((bH F s_0).getD (([] : List qd), ([] : List qd), ([] : List qd), ())).2.2.1] : List qw)).getD ([] : List qd))))).bind (fun e => aAd F s_0 e))))
@[go_sem]def aAf : Ty := .pair qa .unit
def xJ (F : Md) : aI := mSpec aAf (.one .bool) (fun x => aAe F x.1)
abbrev lE (F : Md) : List (FuncId × aI) := [(76, (cY F)), (37, (rE F)), (71, (zT F)), (72, (nD F)), (73, lD), (74, (xH F)), (75, (oM F))]
theorem aHC [Mx] (F : Md) : bJ Tryz.prog GL (lE F) := .cons (nM F) xAa (.cons (aHm F) xAa (.cons (aPg F) xAa (.cons (aEQ F) xAa (.cons aFX xAa (.cons (aNq F) xAa (.cons (aEX F) xAa (.nil)))))))
theorem aNv [Mx] (F : Md) : FOK Tryz.prog GL 36 (xJ F) := by
 refine sS (aT (aHC F)) Tryz.func36 rfl xAa xAc fun w0 S x r hw h => ?_
 have hF : fT (fr Tryz.prog (EM (lE F)) S w0 Tryz.f36.ntmps) := ⟨aT (aHC F), mix⟩
 obtain ⟨(s_0 : qc), u⟩ := x
 simp only [aAf, Ty.wf, fF] at hw
 simp only [bX, aAf]
 try dsimp only at h
 replace h : aAe F s_0 = some r := h
 unfold aAe at h
 refine aB (aR hF [1] (yaA ?_))
 refine aA (aB (aB (aF hF [1, 41] (yaA ?_))))
 refine aA (bG rfl (fun hc => ?_) (fun hc => ?_))
 ·try simp only [go_sem] at hc
  have h := eC zAB h
  refine aB (aF hF [2] (yaA ?_))
  obtain rfl := Option.some.inj h
  refine aA (cD (cS (jG hF [.tmp 2] rfl rfl rfl ?_)))
  exact zAH
 ·try simp only [go_sem] at hc
  have h := eD zAB h
  refine cI (aA (aB (aF hF [1, 3, 4, 5] (yaA ?_))))
  obtain ⟨g0, h⟩ := aQ h
  repeat (refine ⟨zAA, ?_⟩)
  refine aA (aB (aR hF [1, 6] (yaA ?_)))
  obtain ⟨g0, h⟩ := aQ h
  repeat (refine ⟨zAA, ?_⟩)
  refine aA (aB (aR hF [1, 6, 7] (yaA ?_)))
  obtain ⟨g0, h⟩ := aQ h
  repeat (refine ⟨zAA, ?_⟩)
  refine aA (qW (D := qw) (fun d => aAd F s_0 d = some r) [] (fun d => [(1, .ptr 0 []), (6, .ptr 1 []), (7, .own 2)]) (fun d => [.inr (.box 5 (.val qa s_0)), .inr (.box 1 (.val wh ((cE F ([((bH F s_0).getD (([] : List qd), ([] : List qd), ([] : List qd), ())).1, ((bH F s_0).getD (([] : List qd), ([] : List qd), ([] : List qd), ())).2.1, ((bH F s_0).getD (([] : List qd), ([] : List qd), ([] : List qd), ())).2.2.1] : List qw)).getD ([] : List qd)))), .inr (.row 9 .str d)]) ?_ ?_)
  ·refine aB (aF hF [1, 6, 7, 56, 57, 58] (yaA ?_))
   refine aA (eB (pP (D := Int × qw) [56, 57] (fun d => [(1, .ptr 0 []), (6, .ptr 1 []), (7, .own 2), (58, .val qe d.1)]) (fun d => [.inr (.box 5 (.val qa s_0)), .inr (.box 1 (.val wh ((cE F ([((bH F s_0).getD (([] : List qd), ([] : List qd), ([] : List qd), ())).1, ((bH F s_0).getD (([] : List qd), ([] : List qd), ([] : List qd), ())).2.1, ((bH F s_0).getD (([] : List qd), ([] : List qd), ([] : List qd), ())).2.2.1] : List qw)).getD ([] : List qd)))), .inr (.row 9 .str d.2)]) h ?_ ?_ ?_))
   ·first | rfl | (simp only [go_sem]; done)
   ·exact zAG
   rintro ⟨x58_17, all_18⟩ s7 h hs7
   simp only [go_sem]
   try dsimp only at h
   unfold aD2 at h
   refine aB (aF hF [1, 6, 7, 56, 57, 58, 59] (yaA ?_))
   refine aA (aB (bG rfl (fun hc => ?_) (fun hc => ?_)))
   ·try simp only [go_sem] at hc
    have h := eC zAB h
    refine cI (aA (aB (eB (aB (aR hF [1, 6, 7, 9, 56, 57, 58] (yaA ?_))))))
    obtain ⟨g0, h⟩ := aQ h
    repeat (refine ⟨zAA, ?_⟩)
    refine aA (aR hF [1, 6, 7, 56, 57, 58] (yaA ?_))
    obtain ⟨g0, h⟩ := aQ h
    repeat (refine ⟨zAA, ?_⟩)
    refine bB (aA (aF hF [1, 6, 7, 56, 57, 58] (yaA ?_)))
    obtain ⟨g0, h⟩ := aQ h
    try simp only [I64, I32] at g0
    repeat (refine ⟨zAA, ?_⟩)
    obtain rfl := Option.some.inj h
    dsimp only [mY] at hs7
    refine bY (gT [0, 1, 4] rfl rfl (yaC ?_))
    refine aZ ((x58_17 + (1 : Int)), (all_18 ++ ([(s_0.2.2.2.2.1.getD (x58_17.toNat) ([], (Ex.mk 0 [] []), ())).1] : List qd))) hs7 rfl ?_
    ·exact zAG
   ·try simp only [go_sem] at hc
    have h := eD zAB h
    obtain rfl := Option.some.inj h
    dsimp only [mY] at hs7
    have h := yaF (hs7)
    refine sG (dY (dY (gL (bY (aZ (all_18) h rfl ?_)))))
    ·exact zAG
  ·rintro all_6 h
   try dsimp only at h
   simp only [go_sem]
   unfold aAd at h
   refine aB (aB (aF hF [1, 6, 70] (yaA ?_)))
   obtain ⟨g0, h⟩ := aQ h
   repeat (refine ⟨zAA, ?_⟩)
   refine aA (bG rfl (fun hc => ?_) (fun hc => ?_))
   ·try simp only [go_sem] at hc
    have h := eC zAB h
    refine aB (aF hF [2] (yaA ?_))
    obtain rfl := Option.some.inj h
    refine aA (cD (cS (jG hF [.tmp 2] rfl rfl rfl ?_)))
    exact zAH
   ·try simp only [go_sem] at hc
    have h := eD zAB h
    refine cI (aA (qW (D := Unit) (fun d => aAc F s_0 = some r) [] (fun d => [(1, .ptr 0 []), (6, .ptr 1 [])]) (fun d => [.inr (.box 5 (.val qa s_0)), .inr (.box 1 (.val wh ((cE F ([((bH F s_0).getD (([] : List qd), ([] : List qd), ([] : List qd), ())).1, ((bH F s_0).getD (([] : List qd), ([] : List qd), ([] : List qd), ())).2.1, ((bH F s_0).getD (([] : List qd), ([] : List qd), ([] : List qd), ())).2.2.1] : List qw)).getD ([] : List qd))))]) ?_ ?_))
    ·refine aB (aF hF [1, 6, 72, 73, 74] (yaA ?_))
     refine aA (eB (aJG [0, 1] rfl rfl (yaC ?_)))
     refine pP (D := Int) [72, 73] (fun d => [(1, .ptr 0 []), (6, .ptr 1 []), (74, .val qe d)]) (fun d => [.inr (.box 5 (.val qa s_0)), .inr (.box 1 (.val wh ((cE F ([((bH F s_0).getD (([] : List qd), ([] : List qd), ([] : List qd), ())).1, ((bH F s_0).getD (([] : List qd), ([] : List qd), ([] : List qd), ())).2.1, ((bH F s_0).getD (([] : List qd), ([] : List qd), ([] : List qd), ())).2.2.1] : List qw)).getD ([] : List qd))))]) h ?_ ?_ ?_
     ·first | rfl | (simp only [go_sem]; done)
     ·exact zAG
     rintro x74_14 s14 h hs14
     simp only [go_sem]
     try dsimp only at h
     unfold aDk at h
     refine aB (aF hF [1, 6, 72, 73, 74, 75] (yaA ?_))
     refine aA (aB (bG rfl (fun hc => ?_) (fun hc => ?_)))
     ·try simp only [go_sem] at hc
      have h := eC zAB h
      refine cI (aA (aB (eB (aB (aR hF [1, 6, 11, 72, 73, 74] (yaA ?_))))))
      obtain ⟨g0, h⟩ := aQ h
      repeat (refine ⟨zAA, ?_⟩)
      refine aA (aB (aF hF [1, 6, 72, 73, 74, 88] (yaA ?_)))
      obtain ⟨g0, h⟩ := aQ h
      obtain ⟨g1, h⟩ := aQ h
      repeat (refine ⟨by first | with_reducible assumption | omega | (intros; first | with_reducible assumption | omega) | (simp only [go_sem] at *; first | with_reducible assumption | omega) | (intro _; exact ⟨rfl, by decide⟩) | (intro _; refine (?_ : _ = aD _); rfl) | (refine (?_ : _ = aD _); rfl) | exact ⟨rfl, rfl⟩ | (intro q0; (try have e1 := g1 zAF); first | assumption | omega) | decide, ?_⟩)
      refine aA (bG rfl (fun hc => ?_) (fun hc => ?_))
      ·try simp only [go_sem] at hc
       have h := eC zAB h
       refine aB (aF hF [2] (yaA ?_))
       obtain rfl := Option.some.inj h
       dsimp only [mY] at hs14
       have h := yaF (hs14)
       obtain rfl := Option.some.inj h
       refine aA (cD (gE (cS (cS (gE (cS (jG hF [.tmp 2] rfl rfl rfl ?_)))))))
       exact zAH
      ·try simp only [go_sem] at hc
       have h := eD zAB h
       refine cI (bB (aA (aF hF [1, 6, 72, 73, 74] (yaA ?_))))
       obtain ⟨g0, h⟩ := aQ h
       try simp only [I64, I32] at g0
       repeat (refine ⟨zAA, ?_⟩)
       obtain rfl := Option.some.inj h
       dsimp only [mY] at hs14
       refine bY (gT [0, 1] rfl rfl (yaC ?_))
       refine aZ (x74_14 + (1 : Int)) hs14 rfl ?_
       ·exact zAG
     ·try simp only [go_sem] at hc
      have h := eD zAB h
      obtain rfl := Option.some.inj h
      dsimp only [mY] at hs14
      have h := yaF (hs14)
      refine sG (dY (dY (gL (bY (aZ () h rfl ?_)))))
      ·exact zAG
    ·rintro u h
     try dsimp only at h
     simp only [go_sem]
     unfold aAc at h
     refine aB (aB (aF hF [1, 6, 91, 92, 93] (yaA ?_)))
     refine aA (eB (pP (D := Int) [91, 92] (fun d => [(1, .ptr 0 []), (6, .ptr 1 []), (93, .val qe d)]) (fun d => [.inr (.box 5 (.val qa s_0)), .inr (.box 1 (.val wh ((cE F ([((bH F s_0).getD (([] : List qd), ([] : List qd), ([] : List qd), ())).1, ((bH F s_0).getD (([] : List qd), ([] : List qd), ([] : List qd), ())).2.1, ((bH F s_0).getD (([] : List qd), ([] : List qd), ([] : List qd), ())).2.2.1] : List qw)).getD ([] : List qd))))]) h ?_ ?_ ?_))
     ·first | rfl | (simp only [go_sem]; done)
     ·exact zAG
     rintro x93_11 s20 h hs20
     simp only [go_sem]
     try dsimp only at h
     unfold aDj at h
     refine aB (aF hF [1, 6, 91, 92, 93, 94] (yaA ?_))
     refine aA (aB (bG rfl (fun hc => ?_) (fun hc => ?_)))
     ·try simp only [go_sem] at hc
      have h := eC zAB h
      refine cI (aA (aB (eB (aB (aR hF [1, 6, 13, 91, 92, 93] (yaA ?_))))))
      obtain ⟨g0, h⟩ := aQ h
      repeat (refine ⟨zAA, ?_⟩)
      refine aA (aB (aF hF [1, 6, 91, 92, 93, 100] (yaA ?_)))
      obtain ⟨g0, h⟩ := aQ h
      repeat (refine ⟨zAA, ?_⟩)
      refine aA (bG rfl (fun hc => ?_) (fun hc => ?_))
      ·try simp only [go_sem] at hc
       have h := eC zAB h
       refine aB (aF hF [2] (yaA ?_))
       obtain rfl := Option.some.inj h
       dsimp only [mY] at hs20
       have h := yaF (hs20)
       obtain rfl := Option.some.inj h
       refine aA (cD (gE (cS (cS (gE (cS (jG hF [.tmp 2] rfl rfl rfl ?_)))))))
       exact zAH
      ·try simp only [go_sem] at hc
       have h := eD zAB h
       refine cI (bB (aA (aF hF [1, 6, 91, 92, 93] (yaA ?_))))
       obtain ⟨g0, h⟩ := aQ h
       try simp only [I64, I32] at g0
       repeat (refine ⟨zAA, ?_⟩)
       obtain rfl := Option.some.inj h
       dsimp only [mY] at hs20
       refine bY (gT [0, 1] rfl rfl (yaC ?_))
       refine aZ (x93_11 + (1 : Int)) hs20 rfl ?_
       ·exact zAG
     ·try simp only [go_sem] at hc
      have h := eD zAB h
      obtain rfl := Option.some.inj h
      dsimp only [mY] at hs20
      have h := yaF (hs20)
      refine sG (dY (dY (gL (aA (aB (aBi 1 rfl (yaA ?_)))))))
      refine aF hF [2] (yaA ?_)
      obtain ⟨g0, h⟩ := aQ h
      repeat (refine ⟨zAA, ?_⟩)
      exact za3
attribute [go_sem] xJ
def aBJ (F : Md) (s_0 : qf) (sub_1 : qd) (x10_5 : Int) : Option ((Int) ⊕ ((Unit) ⊕ Int)) :=
 if x10_5 < (s_0.2.2.2.2.2.2.2.2.1.length : Int) then ck (0 ≤ x10_5 ∧ x10_5 < (s_0.2.2.2.2.2.2.2.2.1.length : Int)) (if (s_0.2.2.2.2.2.2.2.2.1.getD (x10_5.toNat) ([], [], [], [], [], ())).1 = sub_1 then some (.inr (.inr x10_5)) else ck (I64 (x10_5 + (1 : Int))) (some (.inl (x10_5 + (1 : Int))))) else some (.inr (.inl ()))
def aCE (F : Md) (s_0 : qf) (sub_1 : qd) : Option Int :=
 (eG F (fun d : Int => aBJ F s_0 sub_1 d) (0 : Int)).bind (fun e => match e with | (.inl e) => some (-1 : Int) | (.inr e) => some e)
def aIy : PlR := ⟨[(0, .B [1, 2]), (1, .A [1, 8, 9, 10]), (2, .A [1, 8, 9, 10, 11]), (3, .B [1, 5, 6, 8, 9, 10]), (4, .A [1, 5, 8, 9, 10, 18]), (5, .A [4]), (6, .A [1, 8, 9, 10]), (7, .A [4])], []⟩
def aKE : Ty := .pair qj wg
def aA5 (F : Md) : aI := mSpec aKE (.one qe) (fun x => aCE F x.1 x.2.1)
abbrev aRn (F : Md) : List (FuncId × aI) := []
theorem aRo [Mx] (F : Md) : bJ Tryz.prog GL (aRn F) := .nil
attribute [go_sem] aKE aIy
theorem aPW [Mx] (F : Md) : FOK Tryz.prog GL 79 (aA5 F) := by
 refine bT (aT (aRo F)) mix Tryz.func79 rfl xAa xAc aIy fun w0 S x Θ hw h hF => ?_
 obtain ⟨(s_0 : qf), (sub_1 : qd), u⟩ := x
 simp only [bX, go_sem]
 replace h : sat (aCE F s_0 sub_1) _ := h
 unfold aCE at h
 refine aJG [] rfl rfl (yaA ?_)
 refine cG hF (D := Int) [1, 8, 9] (fun d => [(10, .val qe d)]) (fun d => []) h rfl xAb ?_
 rintro x10_5 A2 T2 hA2 hE2 h
 simp only [go_sem]
 replace h : sat (aBJ F s_0 sub_1 x10_5) _ := h
 unfold aBJ at h
 refine fI h (fun hc h => ?_) fun hc h => ?_
 ·refine bD h fun g0 h => ?_
  refine fC h (fun hc h => ?_) fun hc h => ?_
  ·replace h := yaF (hE2 _ (aE h))
   exact zaD
  ·refine bD h fun g0 h => ?_
   replace h := hA2 _ (aE h)
   refine gT [] rfl rfl (yaA ?_)
   exact zaK
 ·replace h := yaF (hE2 _ (aE h))
  exact zaD
attribute [go_sem] aA5
def vD (F : Md) (o_0 : qz) (a1_1 : wd) : Option Bool :=
 ck ((0 : Int) < (a1_1.length : Int)) (some (decide (o_0.1 = (a1_1.getD (0 : Nat) ([], [], [], [], ())).2.2.2.1)))
def aD3 : PlR := ⟨[(0, .B [1, 2]), (1, .A [3])], []⟩
def aE0 : Ty := .pair qr (.pair (.rp (.sl qs)) .unit)
def tL (F : Md) : aI := mSpec aE0 (.one .bool) (fun x => vD F x.1 x.2.1)
abbrev aLQ (F : Md) : List (FuncId × aI) := []
theorem aLR [Mx] (F : Md) : bJ Tryz.prog GL (aLQ F) := .nil
attribute [go_sem] aE0 aD3
theorem aKF [Mx] (F : Md) : FOK Tryz.prog GL 80 (tL F) := by
 refine bT (aT (aLR F)) mix Tryz.func80 rfl xAa xAc aD3 fun w0 S x Θ hw h hF => ?_
 obtain ⟨(o_0 : qz), (a1_1 : wd), u⟩ := x
 simp only [bX, go_sem]
 replace h : sat (vD F o_0 a1_1) _ := h
 unfold vD at h
 refine bD h fun g0 h => ?_
 exact aK hF [.tmp 3] rfl rfl rfl (aE h) xAd
attribute [go_sem] tL
def eO (F : Md) (s_0 : wt) (f_1 : (wd × Unit)) (x8_14 : Int) : Option ((Int) ⊕ ((Unit) ⊕ Int)) :=
 if x8_14 < (s_0.length : Int) then ck (0 ≤ x8_14 ∧ x8_14 < (s_0.length : Int)) ((vD F (s_0.getD (x8_14.toNat) ([], (Ex.mk 0 [] []), ())) f_1.1).bind (fun v_27 => if v_27 = true then some (.inr (.inr x8_14)) else ck (I64 (x8_14 + (1 : Int))) (some (.inl (x8_14 + (1 : Int)))))) else some (.inr (.inl ()))
def dN (F : Md) (s_0 : wt) (f_1 : (wd × Unit)) : Option Int :=
 (eG F (fun d : Int => eO F s_0 f_1 d) (0 : Int)).bind (fun e => match e with | (.inl e) => some (-1 : Int) | (.inr e) => some e)
def iO : PlR := ⟨[(0, .A [0, 1]), (1, .A [0, 1, 7, 8]), (2, .A [0, 1, 7, 8, 9]), (3, .A [0, 1, 5, 7, 8]), (4, .A [0, 1, 5, 7, 8, 16]), (5, .A [4]), (6, .A [0, 1, 7, 8]), (7, .A [4])], []⟩
def iV : Ty := .pair (.sl qr) (.pair (.clo 80 (.pair (.rp (.sl qs)) .unit)) .unit)
def dH (F : Md) : aI := mSpec iV (.one qe) (fun x => dN F x.1 x.2.1)
abbrev iW (F : Md) : List (FuncId × aI) := [(80, (tL F))]
theorem pI [Mx] (F : Md) : bJ Tryz.prog GL (iW F) := .cons (aKF F) xAa (.nil)
attribute [go_sem] iV iO
theorem oY [Mx] (F : Md) : FOK Tryz.prog GL 116 (dH F) := by
 refine bT (aT (pI F)) mix Tryz.func116 rfl xAa xAc iO fun w0 S x Θ hw h hF => ?_
 obtain ⟨(s_0 : wt), (f_1 : (wd × Unit)), u⟩ := x
 simp only [bX, go_sem]
 replace h : sat (dN F s_0 f_1) _ := h
 unfold dN at h
 refine cG hF (D := Int) [0, 1, 7] (fun d => [(8, .val qe d)]) (fun d => []) h rfl xAb ?_
 rintro x8_14 A2 T2 hA2 hE2 h
 simp only [go_sem]
 replace h : sat (eO F s_0 f_1 x8_14) _ := h
 unfold eO at h
 exact zaP
attribute [go_sem] dH
def cL (F : Md) (s_0 : wt) (f_1 : (wd × Unit)) : Option Bool :=
 (dN F s_0 f_1).bind (fun v_8 => some (decide ((0 : Int) ≤ v_8)))
def gR : PlR := ⟨[(0, .A [0, 1]), (1, .A [4])], []⟩
def hP : Ty := .pair (.sl qr) (.pair (.clo 80 (.pair (.rp (.sl qs)) .unit)) .unit)
def cZ (F : Md) : aI := mSpec hP (.one .bool) (fun x => cL F x.1 x.2.1)
abbrev hU (F : Md) : List (FuncId × aI) := [(116, (dH F))]
theorem oD [Mx] (F : Md) : bJ Tryz.prog GL (hU F) := .cons (oY F) xAa (.nil)
attribute [go_sem] hP gR
theorem nN [Mx] (F : Md) : FOK Tryz.prog GL 76 (cZ F) := by
 refine bT (aT (oD F)) mix Tryz.func76 rfl xAa xAc gR fun w0 S x Θ hw h hF => ?_
 obtain ⟨(s_0 : wt), (f_1 : (wd × Unit)), u⟩ := x
 simp only [bX, go_sem]
 replace h : sat (cL F s_0 f_1) _ := h
 unfold cL at h
 obtain ⟨v_8, hv, h⟩ := aN h
 exact zaR
attribute [go_sem] cZ
def aAg (F : Md) (s_0 : qf) (x14_42 : Int) (x21_83 : Int) (l_84 : wd) : Option ((Int × wd) ⊕ (wd ⊕ Bool)) :=
 if x21_83 < (((s_0.2.2.2.2.2.2.2.2.1.getD (x14_42.toNat) ([], [], [], [], [], ())).2.2.2.1.length : Nat) : Int) then ck (0 ≤ x21_83 ∧ x21_83 < (((s_0.2.2.2.2.2.2.2.2.1.getD (x14_42.toNat) ([], [], [], [], [], ())).2.2.2.1.length : Nat) : Int)) (ck (¬ ((l_84.length : Int) = (0 : Int)) → ((0 : Int) < (l_84.length : Int))) (ck (¬ (((l_84.length : Int) = (0 : Int)) ∨ (¬ ((l_84.getD (0 : Nat) ([], [], [], [], ())).1 = (s_0.2.2.2.2.2.2.2.2.1.getD (x14_42.toNat) ([], [], [], [], [], ())).1))) → ((0 : Int) < (l_84.length : Int))) (if (((l_84.length : Int) = (0 : Int)) ∨ (¬ ((l_84.getD (0 : Nat) ([], [], [], [], ())).1 = (s_0.2.2.2.2.2.2.2.2.1.getD (x14_42.toNat) ([], [], [], [], [], ())).1))) ∨ (¬ ((l_84.getD (0 : Nat) ([], [], [], [], ())).2.1 = ((s_0.2.2.2.2.2.2.2.2.1.getD (x14_42.toNat) ([], [], [], [], [], ())).2.2.2.1.getD (x21_83.toNat) ([] : List Nat)))) then some (.inr (.inr false)) else ck ((0 : Int) < (l_84.length : Int)) ((aCE F s_0 (l_84.getD (0 : Nat) ([], [], [], [], ())).2.2.1).bind (fun v_99 => ck (¬ (v_99 < (0 : Int)) → (0 ≤ v_99 ∧ v_99 < (s_0.2.2.2.2.2.2.2.2.1.length : Int))) (ck (¬ (v_99 < (0 : Int)) → ((cL F (s_0.2.2.2.2.2.2.2.2.1.getD (v_99.toNat) ([], [], [], [], [], ())).2.2.2.2.1 (l_84, ())).isSome = true)) (if (v_99 < (0 : Int)) ∨ (¬ (((cL F (s_0.2.2.2.2.2.2.2.2.1.getD (v_99.toNat) ([], [], [], [], [], ())).2.2.2.2.1 (l_84, ())).getD false) = true)) then some (.inr (.inr false)) else ck ((1 : Int) ≤ (l_84.length : Int)) (ck (I64 (x21_83 + (1 : Int))) (some (.inl ((x21_83 + (1 : Int)), (List.drop (1 : Nat) l_84)))))))))))) else some (.inr (.inl l_84))
def aAh (F : Md) (s_0 : qf) (x14_42 : Int) (l_43 : wd) : Option ((Int × wd) ⊕ (wd ⊕ Bool)) :=
 if x14_42 < (s_0.2.2.2.2.2.2.2.2.1.length : Int) then ck (0 ≤ x14_42 ∧ x14_42 < (s_0.2.2.2.2.2.2.2.2.1.length : Int)) ((eG F (fun d : Int × wd => aAg F s_0 x14_42 d.1 d.2) ((0 : Int), l_43)).bind (fun e => match e with | (.inl e) => ck (I64 (x14_42 + (1 : Int))) (some (.inl ((x14_42 + (1 : Int)), e))) | (.inr e) => some (.inr (.inr e)))) else some (.inr (.inl l_43))
def uH (F : Md) (s_0 : qf) : Option Bool :=
 (eG F (fun d : Int × wd => aAh F s_0 d.1 d.2) ((0 : Int), s_0.2.2.2.2.2.2.2.2.2.1)).bind (fun e => match e with | (.inl e) => some (decide ((e.length : Int) = (0 : Int))) | (.inr e) => some e)
def aGo : PlR := ⟨[(0, .B [1]), (1, .B [1, 3]), (2, .A [1, 3, 12, 13, 14]), (3, .A [1, 3, 12, 13, 14, 15]), (4, .B [1, 3, 5, 12, 13, 14]), (5, .A [1, 3, 5, 12, 13, 14, 19, 20, 21]), (6, .A [1, 3, 5, 12, 13, 14, 19, 20, 21, 22]), (7, .A [1, 3, 5, 7, 12, 13, 14, 19, 20, 21]), (8, .A [1, 3, 5, 12, 13, 14, 19, 20, 21, 44]), (9, .A [2]), (10, .A [1, 3, 5, 8, 12, 13, 14, 19, 20, 21]), (11, .A [1, 3, 5, 12, 13, 14, 19, 20, 21, 63]), (12, .A [2]), (13, .B [1, 3, 5, 12, 13, 14, 19, 20, 21]), (14, .A [1, 3, 5, 12, 13, 14, 19, 20, 21]), (15, .A [1, 3, 12, 13, 14]), (16, .A [2])], []⟩
def aHD : Ty := .pair qj .unit
def xK (F : Md) : aI := mSpec aHD (.one .bool) (fun x => uH F x.1)
abbrev aDl (F : Md) : List (FuncId × aI) := [(76, (cZ F)), (79, (aA5 F))]
theorem aPk [Mx] (F : Md) : bJ Tryz.prog GL (aDl F) := .cons (nN F) xAa (.cons (aPW F) xAa (.nil))
attribute [go_sem] aHD aGo
theorem aNw [Mx] (F : Md) : FOK Tryz.prog GL 38 (xK F) := by
 refine bT (aT (aPk F)) mix Tryz.func38 rfl xAa xAc aGo fun w0 S x Θ hw h hF => ?_
 obtain ⟨(s_0 : qf), u⟩ := x
 simp only [bX, go_sem]
 replace h : sat (uH F s_0) _ := h
 unfold uH at h
 refine cG hF (D := Int × wd) [12, 13] (fun d => [(1, .ptr 0 []), (3, .ptr 1 []), (14, .val qe d.1)]) (fun d => [.inr (.box 10 (.val qj s_0)), .inr (.box 1 (.val (.sl qs) d.2))]) h rfl xAb ?_
 rintro ⟨x14_42, l_43⟩ A3 T3 hA3 hE3 h
 simp only [go_sem]
 replace h : sat (aAh F s_0 x14_42 l_43) _ := h
 unfold aAh at h
 refine fI h (fun hc h => ?_) fun hc h => ?_
 ·obtain ⟨g0, h⟩ := aP h
  repeat (refine ⟨zAA, ?_⟩)
  refine cG hF (D := Int × wd) [12, 13, 14, 19, 20] (fun d => [(1, .ptr 0 []), (3, .ptr 1 []), (5, .ptr 2 []), (21, .val qe d.1)]) (fun d => [.inr (.box 10 (.val qj s_0)), .inr (.box 1 (.val (.sl qs) d.2)), .inr (.box 5 (.val qa (s_0.2.2.2.2.2.2.2.2.1.getD (x14_42.toNat) ([], [], [], [], [], ()))))]) h rfl xAb ?_
  rintro ⟨x21_83, l_84⟩ A6 T6 hA6 hE6 h
  simp only [go_sem]
  replace h : sat (aAg F s_0 x14_42 x21_83 l_84) _ := h
  unfold aAg at h
  refine fI h (fun hc h => ?_) fun hc h => ?_
  ·obtain ⟨g0, h⟩ := aP h
   repeat (refine ⟨zAA, ?_⟩)
   obtain ⟨g0, h⟩ := aP h
   obtain ⟨g1, h⟩ := aP h
   repeat (refine ⟨zAE, ?_⟩)
   refine ⟨fun hc => ?_, fun hc => ?_⟩
   ·replace h := jH hc h
    replace h := yaF (hE6 _ (aE h))
    replace h := yaF (hE3 _ (aE h))
    exact zaF
   ·replace h := jI hc h
    obtain ⟨g0, h⟩ := aP h
    repeat (refine ⟨zAA, ?_⟩)
    obtain ⟨v_99, hv, h⟩ := aN h
    try simp only [hv, go_sem]
    obtain ⟨g0, h⟩ := aP h
    obtain ⟨g1, h⟩ := aP h
    repeat (refine ⟨zAE, ?_⟩)
    refine ⟨fun hc => ?_, fun hc => ?_⟩
    ·replace h := jH zAB h
     replace h := yaF (hE6 _ (aE h))
     replace h := yaF (hE3 _ (aE h))
     exact zaF
    ·replace h := jI zAB h
     obtain ⟨g0, h⟩ := aP h
     repeat (refine ⟨zAA, ?_⟩)
     obtain ⟨g0, h⟩ := aP h
     try simp only [I64, I32] at g0
     repeat (refine ⟨zAA, ?_⟩)
     replace h := hA6 _ (aE h)
     exact zaK
  ·replace h := yaF (hE6 _ (aE h))
   obtain ⟨g0, h⟩ := aP h
   try simp only [I64, I32] at g0
   repeat (refine ⟨zAA, ?_⟩)
   replace h := hA3 _ (aE h)
   refine gT [0, 1] rfl rfl (yaA ?_)
   exact zaK
 ·replace h := yaF (hE3 _ (aE h))
  exact zaF
attribute [go_sem] xK
def aAi (F : Md) (s_0 : qf) (names_16 : qw) : Option (Bool) :=
 (sY F names_16).bind (fun v_20 => ck ((v_20 = true) → ((uH F s_0).isSome = true)) (some (v_20 && ((uH F s_0).getD false))))
def aDm (F : Md) (s_0 : qf) (x24_23 : Int) (names_24 : qw) : Option ((Int × qw) ⊕ (qw ⊕ Bool)) :=
 if x24_23 < (s_0.2.2.2.2.2.2.2.2.1.length : Int) then ck (0 ≤ x24_23 ∧ x24_23 < (s_0.2.2.2.2.2.2.2.2.1.length : Int)) ((aAe F (s_0.2.2.2.2.2.2.2.2.1.getD (x24_23.toNat) ([], [], [], [], [], ()))).bind (fun v_37 => if ¬ (v_37 = true) then some (.inr (.inr false)) else ck (((names_24.length) + (1 : Nat)) * 16 ≤ 140737488355328) (ck (I64 (x24_23 + (1 : Int))) (some (.inl ((x24_23 + (1 : Int)), (names_24 ++ ([(s_0.2.2.2.2.2.2.2.2.1.getD (x24_23.toNat) ([], [], [], [], [], ())).1] : List qd)))))))) else some (.inr (.inl names_24))
def aBu (F : Md) (s_0 : qf) : Option Bool :=
 (xG F s_0).bind (fun v_7 => if ((¬ (v_7 = true)) ∨ ((s_0.2.2.2.2.2.2.2.2.1.length : Int) < (1 : Int))) ∨ ((4 : Int) < (s_0.2.2.2.2.2.2.2.2.1.length : Int)) then some false else (eG F (fun d : Int × qw => aDm F s_0 d.1 d.2) ((0 : Int), ([] : List qd))).bind (fun e => match e with | (.inl e) => aAi F s_0 e | (.inr e) => some e))
def aKI : PlR := ⟨[(0, .B [1]), (1, .A [1, 20]), (2, .A [2]), (3, .A [1, 3]), (4, .A [1, 3, 22, 23, 24]), (5, .A [1, 3, 22, 23, 24, 25]), (6, .B [1, 3, 5, 22, 23, 24]), (7, .A [1, 3, 5, 22, 23, 24, 30]), (8, .A [2]), (9, .B [1, 3, 22, 23, 24]), (10, .A [1, 3, 22, 23, 24]), (11, .A [2])], [(7, 14)]⟩
def aMO : Ty := .pair qj .unit
def aCF (F : Md) : aI := mSpec aMO (.one .bool) (fun x => aBu F x.1)
abbrev aBv (F : Md) : List (FuncId × aI) := [(35, (uY F)), (36, (xJ F)), (37, (rE F)), (38, (xK F))]
theorem aSB [Mx] (F : Md) : bJ Tryz.prog GL (aBv F) := .cons (aLM F) xAa (.cons (aNv F) xAa (.cons (aHm F) xAa (.cons (aNw F) xAa (.nil))))
attribute [go_sem] aMO aKI
theorem aRp [Mx] (F : Md) : FOK Tryz.prog GL 16 (aCF F) := by
 refine bT (aT (aSB F)) mix Tryz.func16 rfl xAa xAc aKI fun w0 S x Θ hw h hF => ?_
 obtain ⟨(s_0 : qf), u⟩ := x
 simp only [bX, go_sem]
 replace h : sat (aBu F s_0) _ := h
 unfold aBu at h
 obtain ⟨v_7, hv, h⟩ := aN h
 try simp only [hv, go_sem]
 refine ⟨fun hc => ?_, fun hc => ?_⟩
 ·replace h := jH zAB h
  exact zaF
 ·replace h := jI zAB h
  refine eP hF (D := qw) (fun d => sat (aAi F s_0 d) Θ) [] (fun d => [(1, .ptr 0 []), (3, .own 1)]) (fun d => [.inr (.box 10 (.val qj s_0)), .inr (.row 9 .str d)]) ?_ ?_
  ·simp only [go_sem]
   refine aCV 3 9 .str rfl (yaA ?_)
   refine cG hF (D := Int × qw) [22, 23] (fun d => [(1, .ptr 0 []), (3, .own 1), (24, .val qe d.1)]) (fun d => [.inr (.box 10 (.val qj s_0)), .inr (.row 9 .str d.2)]) h rfl xAb ?_
   rintro ⟨x24_23, names_24⟩ A5 T5 hA5 hE5 h
   simp only [go_sem]
   replace h : sat (aDm F s_0 x24_23 names_24) _ := h
   unfold aDm at h
   refine fI h (fun hc h => ?_) fun hc h => ?_
   ·obtain ⟨g0, h⟩ := aP h
    repeat (refine ⟨by omega, ?_⟩)
    obtain ⟨v_37, hv, h⟩ := aN h
    try simp only [hv, go_sem]
    refine aEc h (fun hc h => ?_) fun hc h => ?_
    ·replace h := yaF (hE5 _ (aE h))
     exact zaF
    ·obtain ⟨g0, h⟩ := aP h
     repeat (refine ⟨by omega, ?_⟩)
     obtain ⟨g0, h⟩ := aP h
     repeat (refine ⟨by omega, ?_⟩)
     replace h := hA5 _ (aE h)
     refine gT [0, 3] rfl rfl (yaA ?_)
     exact zaK
   ·replace h := yaF (hE5 _ (aE h))
    exact aZ (names_24) h rfl xAb
  ·rintro names_16 h
   simp only [go_sem]
   replace h : sat (aAi F s_0 names_16) _ := h
   unfold aAi at h
   obtain ⟨v_20, hv, h⟩ := aN h
   try simp only [hv, go_sem]
   obtain ⟨g0, h⟩ := aP h
   repeat (refine ⟨by omega, ?_⟩)
   exact zaF
attribute [go_sem] aCF
end
end Nu
end Go.Proofs
namespace Go.Proofs
open Go.Vc
set_option maxRecDepth 20000
namespace Nu
noncomputable section
set_option maxHeartbeats 4000000
attribute [-go_sem] Ex.kind Ex.text Ex.l
def sP : fW where
 D := qf × (Int × qp) × Int × Unit
 av := fun _ => [.ptr 0 [], .ptr 1 [], .ptr 2 []]
 hp := fun d => [.box 10 (.val qj d.1), .box 2 (.val qn d.2.1), .box 1 (.val qe d.2.2.1)]
 m := 3
 pre := fun _ => True
 out := fun d => .ret (.tup []) [.box 10 (.val qj d.1), .box 2 (.val qn d.2.1), .box 1 (.val qe d.2.2.1)]
def eR (x : q8) : fW where
 D := Unit
 av := fun _ => [.ptr 0 [], .ptr 1 [], .ptr 2 []]
 hp := fun _ => [.box 10 .junk, .box 2 .junk, .box 1 .junk]
 m := 3
 pre := fun _ => True
 out := fun _ => .ret (.tup []) [.box 10 (.val qj ((0 : Int), (0 : Int), (0 : Int), (0 : Int), ([] : List Nat), ([] : List Nat), ([] : List Nat), ([] : List Nat), ([] : List qc), ([] : List qm), ())), .box 2 (.val qn (x).1), .box 1 (.val qe (6 : Int))]
theorem aLS [Mx] : DOK Tryz.prog GL 23 none sP := by
 refine aLb (aT aAw) Tryz.func23 rfl xAa (fun _ => Nat.le_of_ble_eq_true rfl) rfl fun c w d hw1 hw2 hp hn => ?_
 have hF : fT ⟨Tryz.prog, EM [], GM sP c d, w, Tryz.f23.ntmps, []⟩ := ⟨aT aAw, mix⟩
 obtain ⟨d0, d1, d2, du⟩ := d
 show rM _ _ _ [(6, .val .nili ()), (0, .ptr 0 []), (1, .ptr 1 []), (2, .ptr 2 [])] [.box 10 (.val qj d0), .box 2 (.val qn d1), .box 1 (.val qe d2)] _
 exact zaz
theorem vE [Mx] (x : q8) : DOK Tryz.prog GL 23 (some ⟨65, wi, x⟩) (eR x) := by
 refine aLb (aT aAw) Tryz.func23 rfl xAa (fun _ => Nat.le_of_ble_eq_true rfl) rfl fun c w d hw1 hw2 hp hn => ?_
 have hF : fT ⟨Tryz.prog, EM [], GM (eR x) c d, w, Tryz.f23.ntmps, []⟩ := ⟨aT aAw, mix⟩
 show rM _ _ _ [(6, .val (.ifc 65 wi) x), (0, .ptr 0 []), (1, .ptr 1 []), (2, .ptr 2 [])] [.box 10 .junk, .box 2 .junk, .box 1 .junk] _
 simp only [go_sem]
 refine aB (aF hF [0, 1, 2, 3, 10] (yaA ?_))
 refine aA (bG rfl (fun hc => ?_) (fun hc => absurd hc xAc))
 refine aDC hF [] [] [.box 10 (.val qj ((0 : Int), (0 : Int), (0 : Int), (0 : Int), ([] : List Nat), ([] : List Nat), ([] : List Nat), ([] : List Nat), ([] : List qc), ([] : List qm), ())), .box 2 (.val qn (x).1), .box 1 (.val qe (6 : Int)), .box 2 (.val wi x)] xAc ?_ ?_
 ·simp only [go_sem]
  exact zaX
 refine gT [0, 1, 2] rfl rfl (yaC ?_)
 exact zaf
def aAR (F : Md) (k_66 : Int) (s_67 : Int) (s_68 : Int) (s_69 : Int) (s_70 : Int) (s_71 : qd) (s_72 : qd) (s_73 : qd) (s_74 : qd) (x_75 : wu) (x_76 : wd) : Option (qf × ((Int × qp) × qp)) :=
 ck ((jW F (s_67, s_68, s_69, s_70, s_71, s_72, s_73, s_74, x_75, x_76, ())).isSome = true) (ck (¬ (k_66 < (7 : Int)) → ((aBu F (s_67, s_68, s_69, s_70, s_71, s_72, s_73, s_74, x_75, ((jW F (s_67, s_68, s_69, s_70, s_71, s_72, s_73, s_74, x_75, x_76, ())).getD ([] : List qm)), ())).isSome = true)) (if (k_66 < (7 : Int)) ∨ (¬ (((aBu F (s_67, s_68, s_69, s_70, s_71, s_72, s_73, s_74, x_75, ((jW F (s_67, s_68, s_69, s_70, s_71, s_72, s_73, s_74, x_75, x_76, ())).getD ([] : List qm)), ())).getD false) = true)) then some (((0 : Int), (0 : Int), (0 : Int), (0 : Int), ([] : List Nat), ([] : List Nat), ([] : List Nat), ([] : List Nat), ([] : List qc), ([] : List qm), ()), (((0 : Int), (0 : Int), ()), ()).1, (6 : Int), ()) else some ((s_67, s_68, s_69, s_70, s_71, s_72, s_73, s_74, x_75, ((jW F (s_67, s_68, s_69, s_70, s_71, s_72, s_73, s_74, x_75, x_76, ())).getD ([] : List qm)), ()), ((0 : Int), (0 : Int), ()), (0 : Int), ())))
def aE1 (F : Md) (text_0 : qd) (k_91 : Int) (x18_92 : Int) (s_93 : Int) (s_94 : Int) (s_95 : Int) (s_96 : Int) (s_97 : qd) (s_98 : qd) (s_99 : qd) (s_100 : qd) (x_101 : wu) (x_102 : wd) : Option ((Int × Int × Int × Int × Int × Int × qd × qd × qd × qd × wu × wd) ⊕ ((Int × Int × Int × Int × Int × qd × qd × qd × qd × wu × wd) ⊕ q8)) :=
 if x18_92 < (((aEo text_0 (aU ⟨#[10]⟩)).length : Nat) : Int) then ck (0 ≤ x18_92 ∧ x18_92 < (((aEo text_0 (aU ⟨#[10]⟩)).length : Nat) : Int)) (ck (aPR ((aEo text_0 (aU ⟨#[10]⟩)).getD (x18_92.toNat) ([] : List Nat)) (aU ⟨#[35]⟩)) (ck (I64 (x18_92 + (1 : Int))) (ck ((lH F (wP ((aEo text_0 (aU ⟨#[10]⟩)).getD (x18_92.toNat) ([] : List Nat)) (aU ⟨#[35]⟩)).1 (aU ⟨#[32]⟩)).isSome = true) ((jJ F ((x18_92 + (1 : Int)), (0 : Int), ((lH F (wP ((aEo text_0 (aU ⟨#[10]⟩)).getD (x18_92.toNat) ([] : List Nat)) (aU ⟨#[35]⟩)).1 (aU ⟨#[32]⟩)).getD ([] : List Nat)), ())).bind (fun r_169 => if r_169.1 = (aU ⟨#[]⟩) then ck (I64 (x18_92 + (1 : Int))) (some (.inl (k_91, (x18_92 + (1 : Int)), s_93, s_94, s_95, s_96, s_97, s_98, s_99, s_100, x_101, x_102))) else if k_91 < (7 : Int) then (aCC F k_91 (s_93, s_94, s_95, s_96, s_97, s_98, s_99, s_100, x_101, x_102, ()) r_169.2).bind (fun e => match e with | .inl r_174 => ck (I64 (k_91 + (1 : Int))) (ck (I64 (x18_92 + (1 : Int))) (some (.inl ((k_91 + (1 : Int)), (x18_92 + (1 : Int)), r_174.1.1, r_174.1.2.1, r_174.1.2.2.1, r_174.1.2.2.2.1, r_174.1.2.2.2.2.1, r_174.1.2.2.2.2.2.1, r_174.1.2.2.2.2.2.2.1, r_174.1.2.2.2.2.2.2.2.1, r_174.1.2.2.2.2.2.2.2.2.1, r_174.1.2.2.2.2.2.2.2.2.2.1)))) | .inr p_175 => some (.inr (.inr p_175))) else (aAb F (s_93, s_94, s_95, s_96, s_97, s_98, s_99, s_100, x_101, x_102, ()) r_169.2).bind (fun e => match e with | .inl r_176 => ck (I64 (k_91 + (1 : Int))) (ck (I64 (x18_92 + (1 : Int))) (some (.inl ((k_91 + (1 : Int)), (x18_92 + (1 : Int)), r_176.1.1, r_176.1.2.1, r_176.1.2.2.1, r_176.1.2.2.2.1, r_176.1.2.2.2.2.1, r_176.1.2.2.2.2.2.1, r_176.1.2.2.2.2.2.2.1, r_176.1.2.2.2.2.2.2.2.1, r_176.1.2.2.2.2.2.2.2.2.1, r_176.1.2.2.2.2.2.2.2.2.2.1)))) | .inr p_177 => some (.inr (.inr p_177)))))))) else some (.inr (.inl (k_91, s_93, s_94, s_95, s_96, s_97, s_98, s_99, s_100, x_101, x_102)))
def wW (F : Md) (text_0 : qd) : Option (qf × ((Int × qp) × qp)) :=
 if (20000 : Int) < (text_0.length : Int) then some (((0 : Int), (0 : Int), (0 : Int), (0 : Int), ([] : List Nat), ([] : List Nat), ([] : List Nat), ([] : List Nat), ([] : List qc), ([] : List qm), ()), (((0 : Int), (0 : Int), ()), ()).1, (6 : Int), ()) else ck (aPR text_0 (aU ⟨#[10]⟩)) ((eG F (fun d : Int × Int × Int × Int × Int × Int × qd × qd × qd × qd × wu × wd => aE1 F text_0 d.1 d.2.1 d.2.2.1 d.2.2.2.1 d.2.2.2.2.1 d.2.2.2.2.2.1 d.2.2.2.2.2.2.1 d.2.2.2.2.2.2.2.1 d.2.2.2.2.2.2.2.2.1 d.2.2.2.2.2.2.2.2.2.1 d.2.2.2.2.2.2.2.2.2.2.1 d.2.2.2.2.2.2.2.2.2.2.2) ((0 : Int), (0 : Int), (0 : Int), (0 : Int), (0 : Int), (0 : Int), ([] : List Nat), ([] : List Nat), ([] : List Nat), ([] : List Nat), ([] : List qc), ([] : List qm))).bind (fun e => match e with | (.inl e) => aAR F e.1 e.2.1 e.2.2.1 e.2.2.2.1 e.2.2.2.2.1 e.2.2.2.2.2.1 e.2.2.2.2.2.2.1 e.2.2.2.2.2.2.2.1 e.2.2.2.2.2.2.2.2.1 e.2.2.2.2.2.2.2.2.2.1 e.2.2.2.2.2.2.2.2.2.2 | (.inr e) => some (((0 : Int), (0 : Int), (0 : Int), (0 : Int), ([] : List Nat), ([] : List Nat), ([] : List Nat), ([] : List Nat), ([] : List qc), ([] : List qm), ()), (e).1, (6 : Int), ())))
@[go_sem]def aA6 : Ty := .pair .str .unit
def aAj (F : Md) : aI := mSpec aA6 (.tup (.pair qj (.pair qn q9))) (fun x => wW F x.1)
abbrev oK (F : Md) : List (FuncId × aI) := [(16, (aCF F)), (24, uX), (25, mP), (26, (qD F)), (30, (vB F))]
theorem aIz [Mx] (F : Md) : bJ Tryz.prog GL (oK F) := .cons (aRp F) xAa (.cons aLL xAa (.cons aDf xAa (.cons (aHq F) xAa (.cons (aLO F) xAa (.nil)))))
theorem aPp [Mx] (F : Md) : FOK Tryz.prog GL 11 (aAj F) := by
 refine aFt (aMe (aIz F)) Tryz.func11 rfl xAa xAc fun w0 S x r hw h => ?_
 have hF : fT (fr Tryz.prog (EX (oK F)) S w0 Tryz.f11.ntmps) := ⟨aMe (aIz F), mix⟩
 obtain ⟨(text_0 : qd), u⟩ := x
 simp only [aA6, Ty.wf, fF] at hw
 simp only [bX, aA6]
 try dsimp only at h
 replace h : wW F text_0 = some r := h
 unfold wW at h
 refine aB (aR hF [0, 2, 3, 4] (yaB ?_))
 refine aA (aQj (aAT 3 [0, 1, 2] rfl rfl (Nat.zero_le _) xAc fun roots hroots => (yaA ?_)))
 have hF : fT { fr Tryz.prog (EX (oK F)) S w0 Tryz.f11.ntmps with M := ⟨nothing, S, 3, roots⟩, ds := [⟨.fn (.func 23) ([0, 1, 2].map roots).toArray, #[]⟩] } := ⟨hF.env, mix⟩
 refine aB (aB (aF hF [0, 2, 3, 4, 12] (yaB ?_)))
 refine aA (bG rfl (fun hc => ?_) (fun hc => ?_))
 ·try simp only [go_sem] at hc
  have h := eC zAB h
  refine aC hF (aG (l := []) (.nil)) [0, 2, 3, 4] [] (yaB ?_)
  exact zaY
 ·try simp only [go_sem] at hc
  have h := eD zAB h
  refine cI (aA (aB (aF hF [0, 2, 3, 4, 5] (yaB ?_))))
  refine aA (aB (aQc (aA (qW (D := Int × Int × Int × Int × Int × qd × qd × qd × qd × wu × wd) (fun d => aAR F d.1 d.2.1 d.2.2.1 d.2.2.2.1 d.2.2.2.2.1 d.2.2.2.2.2.1 d.2.2.2.2.2.2.1 d.2.2.2.2.2.2.2.1 d.2.2.2.2.2.2.2.2.1 d.2.2.2.2.2.2.2.2.2.1 d.2.2.2.2.2.2.2.2.2.2 = some r) [] (fun d => [(2, .ptr 0 []), (3, .ptr 1 []), (4, .ptr 2 []), (5, .val qe d.1)]) (fun d => [.inr (.box 10 (.agg [.val qe d.2.1, .val qe d.2.2.1, .val qe d.2.2.2.1, .val qe d.2.2.2.2.1, .val .str d.2.2.2.2.2.1, .val .str d.2.2.2.2.2.2.1, .val .str d.2.2.2.2.2.2.2.1, .val .str d.2.2.2.2.2.2.2.2.1, .own 3, .own 4])), .inr (.box 2 (.val qn ((0 : Int), (0 : Int), ()))), .inr (.box 1 (.val qe (0 : Int))), .inr (.tre 53 qh qa d.2.2.2.2.2.2.2.2.2.1), .inr (.row 83 qs d.2.2.2.2.2.2.2.2.2.2)]) ?_ ?_))))
  ·refine aB (aF hF [2, 3, 4, 5, 16, 17, 18] (yaA ?_))
   obtain ⟨g0, h⟩ := aQ h
   repeat (refine ⟨zAA, ?_⟩)
   refine aA (eB (aOw 0 8 53 qh qa rfl rfl rfl (yaA ?_)))
   refine aOw 0 9 83 .no qs rfl rfl rfl (yaA ?_)
   refine pP (D := Int × Int × Int × Int × Int × Int × qd × qd × qd × qd × wu × wd) [16, 17] (fun d => [(2, .ptr 0 []), (3, .ptr 1 []), (4, .ptr 2 []), (5, .val qe d.1), (18, .val qe d.2.1)]) (fun d => [.inr (.box 10 (.agg [.val qe d.2.2.1, .val qe d.2.2.2.1, .val qe d.2.2.2.2.1, .val qe d.2.2.2.2.2.1, .val .str d.2.2.2.2.2.2.1, .val .str d.2.2.2.2.2.2.2.1, .val .str d.2.2.2.2.2.2.2.2.1, .val .str d.2.2.2.2.2.2.2.2.2.1, .own 3, .own 4])), .inr (.box 2 (.val qn ((0 : Int), (0 : Int), ()))), .inr (.box 1 (.val qe (0 : Int))), .inr (.tre 53 qh qa d.2.2.2.2.2.2.2.2.2.2.1), .inr (.row 83 qs d.2.2.2.2.2.2.2.2.2.2.2)]) h ?_ ?_ ?_
   ·first | rfl | (simp only [go_sem]; done)
   ·exact zAG
   rintro ⟨k_91, x18_92, s_93, s_94, s_95, s_96, s_97, s_98, s_99, s_100, x_101, x_102⟩ s6 h hs6
   simp only [go_sem]
   try dsimp only at h
   unfold aE1 at h
   refine aB (aF hF [2, 3, 4, 5, 16, 17, 18, 19] (yaB ?_))
   refine aA (aB (bG rfl (fun hc => ?_) (fun hc => ?_)))
   ·try simp only [go_sem] at hc
    have h := eC zAB h
    refine cI (aA (aB (eB (aB (aF hF [2, 3, 4, 5, 6, 7, 16, 17, 18] (yaA ?_))))))
    obtain ⟨g0, h⟩ := aQ h
    repeat (refine ⟨zAA, ?_⟩)
    refine aA (aB (aF hF [2, 3, 4, 5, 6, 7, 16, 17, 18] (yaA ?_)))
    obtain ⟨g0, h⟩ := aQ h
    repeat (refine ⟨zAA, ?_⟩)
    refine aA (aB (aR hF [2, 3, 4, 5, 8, 16, 17, 18] (yaA ?_)))
    obtain ⟨g0, h⟩ := aQ h
    try simp only [I64, I32] at g0
    repeat (refine ⟨zAA, ?_⟩)
    obtain ⟨g0, h⟩ := aQ h
    repeat (refine ⟨zAA, ?_⟩)
    obtain ⟨r_169, he1, h⟩ := bind_some h
    try dsimp only at h
    refine aA (aB (aB (aC hF (aG (l := [(27, ⟨gI F, [5], (((x18_92 + (1 : Int)), (0 : Int), ((lH F (wP ((aEo text_0 (aU ⟨#[10]⟩)).getD (x18_92.toNat) ([] : List Nat)) (aU ⟨#[35]⟩)).1 (aU ⟨#[32]⟩)).getD ([] : List Nat)), ()), r_169)⟩)]) (.cons (lW F) xAa (.nil))) [2, 3, 4, 5, 8, 16, 17, 18, 37] [] (yaB ?_))))
    refine aA (bG rfl (fun hc => ?_) (fun hc => ?_))
    ·try simp only [go_sem] at hc
     have h := eC zAB h
     refine sG (dY (gL (aA (aF hF [2, 3, 4, 5, 16, 17, 18] (yaA ?_)))))
     obtain ⟨g0, h⟩ := aQ h
     try simp only [I64, I32] at g0
     repeat (refine ⟨zAA, ?_⟩)
     obtain rfl := Option.some.inj h
     dsimp only [mY] at hs6
     refine bY (gT [0, 1, 2, 3, 4] rfl rfl (yaC ?_))
     refine aZ (k_91, (x18_92 + (1 : Int)), s_93, s_94, s_95, s_96, s_97, s_98, s_99, s_100, x_101, x_102) hs6 rfl ?_
     ·exact zAG
    ·try simp only [go_sem] at hc
     have h := eD zAB h
     refine cI (aA (aB (aB (aF hF [2, 3, 4, 5, 8, 16, 17, 18, 39] (yaB ?_)))))
     refine aA (bG rfl (fun hc => ?_) (fun hc => ?_))
     ·try simp only [go_sem] at hc
      have h := eC zAB h
      obtain ⟨e, he2, h⟩ := bind_some h
      rcases e with r_174 | p_175
      ·try dsimp only at h
       refine aC hF (aG (l := [(28, ⟨wU F, [0, 5, 3, 4], (k_91, (s_93, s_94, s_95, s_96, s_97, s_98, s_99, s_100, x_101, x_102, ()), r_169.2, .inl r_174)⟩)]) (.cons (aIw F) xAa (.nil))) [2, 3, 4, 5, 16, 17, 18] [] (yaE ?_)
       refine aA (aF hF [2, 3, 4, 5, 16, 17, 18] (yaA ?_))
       obtain ⟨g0, h⟩ := aQ h
       try simp only [I64, I32] at g0
       repeat (refine ⟨zAA, ?_⟩)
       refine bB (aA (aF hF [2, 3, 4, 5, 16, 17, 18] (yaA ?_)))
       obtain ⟨g0, h⟩ := aQ h
       try simp only [I64, I32] at g0
       repeat (refine ⟨zAA, ?_⟩)
       obtain rfl := Option.some.inj h
       dsimp only [mY] at hs6
       refine bY (gT [0, 1, 2, 6, 7] rfl rfl (yaC ?_))
       refine aZ ((k_91 + (1 : Int)), (x18_92 + (1 : Int)), r_174.1.1, r_174.1.2.1, r_174.1.2.2.1, r_174.1.2.2.2.1, r_174.1.2.2.2.2.1, r_174.1.2.2.2.2.2.1, r_174.1.2.2.2.2.2.2.1, r_174.1.2.2.2.2.2.2.2.1, r_174.1.2.2.2.2.2.2.2.2.1, r_174.1.2.2.2.2.2.2.2.2.2.1) hs6 rfl ?_
       ·exact zAG
      ·try dsimp only at h
       refine aC hF (aG (l := [(28, ⟨wU F, [0, 5, 3, 4], (k_91, (s_93, s_94, s_95, s_96, s_97, s_98, s_99, s_100, x_101, x_102, ()), r_169.2, .inr p_175)⟩)]) (.cons (aIw F) xAa (.nil))) [2, 3, 4, 5, 16, 17, 18] [] (yaE ?_)
       obtain rfl := Option.some.inj h
       dsimp only [mY] at hs6
       have h := yaF (hs6)
       obtain rfl := Option.some.inj h
       refine aO (bW (aO (aO (bW (aO (aHV (aL (aJ 0 rfl aH) ?_)))))))
       refine aL (aJ 1 rfl aH) ?_
       refine aL (aJ 2 rfl aH) (yaA ?_)
       refine aCb (fn := Tryz.f11) (k := 3) (l2 := [0, 1, 2]) hF rfl rfl xAc rfl (rN xAa) ⟨eR (p_175), [0, 1, 2], ()⟩ (vE (p_175)) rfl [.cell 2 36, .cell 3 38, .cell 4 3] rfl ?_ ?_
       ·(simp only [eR, go_sem]) <;> first | decide | trivial
       ·(simp only [eR, aS, jB, go_sem]) <;> first | decide | trivial | rfl | (simp; done)
     ·try simp only [go_sem] at hc
      have h := eD zAB h
      obtain ⟨e, he3, h⟩ := bind_some h
      rcases e with r_176 | p_177
      ·try dsimp only at h
       refine aC hF (aG (l := [(29, ⟨sO F, [0, 5, 3, 4], ((s_93, s_94, s_95, s_96, s_97, s_98, s_99, s_100, x_101, x_102, ()), r_169.2, .inl r_176)⟩)]) (.cons (aGl F) xAa (.nil))) [2, 3, 4, 5, 16, 17, 18] [] (yaE ?_)
       refine aA (aF hF [2, 3, 4, 5, 16, 17, 18] (yaA ?_))
       obtain ⟨g0, h⟩ := aQ h
       try simp only [I64, I32] at g0
       repeat (refine ⟨zAA, ?_⟩)
       refine bB (aA (aF hF [2, 3, 4, 5, 16, 17, 18] (yaA ?_)))
       obtain ⟨g0, h⟩ := aQ h
       try simp only [I64, I32] at g0
       repeat (refine ⟨zAA, ?_⟩)
       obtain rfl := Option.some.inj h
       dsimp only [mY] at hs6
       refine bY (gT [0, 1, 2, 6, 7] rfl rfl (yaC ?_))
       refine aZ ((k_91 + (1 : Int)), (x18_92 + (1 : Int)), r_176.1.1, r_176.1.2.1, r_176.1.2.2.1, r_176.1.2.2.2.1, r_176.1.2.2.2.2.1, r_176.1.2.2.2.2.2.1, r_176.1.2.2.2.2.2.2.1, r_176.1.2.2.2.2.2.2.2.1, r_176.1.2.2.2.2.2.2.2.2.1, r_176.1.2.2.2.2.2.2.2.2.2.1) hs6 rfl ?_
       ·exact zAG
      ·try dsimp only at h
       refine aC hF (aG (l := [(29, ⟨sO F, [0, 5, 3, 4], ((s_93, s_94, s_95, s_96, s_97, s_98, s_99, s_100, x_101, x_102, ()), r_169.2, .inr p_177)⟩)]) (.cons (aGl F) xAa (.nil))) [2, 3, 4, 5, 16, 17, 18] [] (yaE ?_)
       obtain rfl := Option.some.inj h
       dsimp only [mY] at hs6
       have h := yaF (hs6)
       obtain rfl := Option.some.inj h
       refine aO (bW (aO (aO (bW (aO (aHV (aL (aJ 0 rfl aH) ?_)))))))
       refine aL (aJ 1 rfl aH) ?_
       refine aL (aJ 2 rfl aH) (yaA ?_)
       refine aCb (fn := Tryz.f11) (k := 3) (l2 := [0, 1, 2]) hF rfl rfl xAc rfl (rN xAa) ⟨eR (p_177), [0, 1, 2], ()⟩ (vE (p_177)) rfl [.cell 2 36, .cell 3 38, .cell 4 3] rfl ?_ ?_
       ·(simp only [eR, go_sem]) <;> first | decide | trivial
       ·(simp only [eR, aS, jB, go_sem]) <;> first | decide | trivial | rfl | (simp; done)
   ·try simp only [go_sem] at hc
    have h := eD zAB h
    obtain rfl := Option.some.inj h
    dsimp only [mY] at hs6
    have h := yaF (hs6)
    refine sG (dY (dY (gL (bY (aZ (k_91, s_93, s_94, s_95, s_96, s_97, s_98, s_99, s_100, x_101, x_102) h rfl ?_)))))
    ·exact zAG
  ·rintro ⟨k_66, s_67, s_68, s_69, s_70, s_71, s_72, s_73, s_74, x_75, x_76⟩ h
   try dsimp only at h
   simp only [go_sem]
   unfold aAR at h
   refine aB (aR hF [2, 3, 4, 5] (yaA ?_))
   obtain ⟨g0, h⟩ := aQ h
   repeat (refine ⟨zAA, ?_⟩)
   refine aA (aB (aB (aF hF [2, 3, 4, 57] (yaA ?_))))
   obtain ⟨g0, h⟩ := aQ h
   repeat (refine ⟨zAD, ?_⟩)
   refine aA (bG rfl (fun hc => ?_) (fun hc => ?_))
   ·try simp only [go_sem] at hc
    have h := eC zAB h
    refine aC hF (aG (l := []) (.nil)) [2, 3, 4] [] (yaB ?_)
    exact zaY
   ·try simp only [go_sem] at hc
    have h := eD zAB h
    refine cI (aA (aB (aR hF [2, 3, 4] (yaB ?_))))
    refine aA (cD (aQU (aUH (aW8 0 (t := qj) (s_67, s_68, s_69, s_70, s_71, s_72, s_73, s_74, x_75, ((jW F (s_67, s_68, s_69, s_70, s_71, s_72, s_73, s_74, x_75, x_76, ())).getD ([] : List qm)), ()) rfl (by first | rfl | (simp only [go_sem]; done)) aH) (yaA ?_))))
    obtain rfl := Option.some.inj h
    refine aNL (fn := Tryz.f11) (k := 3) (l2 := [0, 1, 2]) hF rfl rfl xAc rfl (rN xAa) ⟨sP, [0, 1, 2], ((s_67, s_68, s_69, s_70, s_71, s_72, s_73, s_74, x_75, ((jW F (s_67, s_68, s_69, s_70, s_71, s_72, s_73, s_74, x_75, x_76, ())).getD ([] : List qm)), ()), ((0 : Int), (0 : Int), ()), (0 : Int), ())⟩ aLS rfl [.cell 2 36, .cell 3 38, .cell 4 3] rfl ?_ ?_
    ·(simp only [sP, go_sem]) <;> first | decide | trivial
    ·(simp only [sP, aS, jB, go_sem]) <;> first | decide | trivial | rfl | (simp; done)
attribute [go_sem] aAj
end
end Nu
end Go.Proofs
namespace Go.Proofs
open Go.Vc
set_option maxRecDepth 20000
namespace Nu
noncomputable section
set_option maxHeartbeats 4000000
attribute [-go_sem] Ex.kind Ex.text Ex.l
def pO (F : Md) (a0_0 : (List wc)) (a1_1 : (List wc)) (x13_5 : Int) : Option ((Int) ⊕ ((Unit) ⊕ Bool)) :=
 if x13_5 < (a0_0.length : Int) then ck (0 ≤ x13_5 ∧ x13_5 < (a0_0.length : Int)) (ck (0 ≤ x13_5 ∧ x13_5 < (a1_1.length : Int)) (if ¬ ((Ty.eqb qu (a0_0.getD (x13_5.toNat) ([], ([], [], ()), ())) (a1_1.getD (x13_5.toNat) ([], ([], [], ()), ()))) = true) then some (.inr (.inr false)) else ck (I64 (x13_5 + (1 : Int))) (some (.inl (x13_5 + (1 : Int)))))) else some (.inr (.inl ()))
def iZ (F : Md) (a0_0 : (List wc)) (a1_1 : (List wc)) : Option Bool :=
 if ¬ ((a0_0.length : Int) = (a1_1.length : Int)) then some false else (eG F (fun d : Int => pO F a0_0 a1_1 d) (0 : Int)).bind (fun e => match e with | (.inl e) => some true | (.inr e) => some e)
def yO : PlR := ⟨[(0, .A [0, 1]), (1, .A [0, 1, 10]), (2, .A [4]), (3, .A [0, 1, 12, 13]), (4, .A [0, 1, 12, 13, 14]), (5, .A [0, 1, 5, 12, 13]), (6, .A [0, 1, 12, 13, 24]), (7, .A [4]), (8, .A [0, 1, 12, 13]), (9, .A [4])], []⟩
def aAk : Ty := .pair (.sl qu) (.pair (.sl qu) .unit)
def nE (F : Md) : aI := mSpec aAk (.one .bool) (fun x => iZ F x.1 x.2.1)
abbrev aFY (F : Md) : List (FuncId × aI) := []
theorem aFZ [Mx] (F : Md) : bJ Tryz.prog GL (aFY F) := .nil
attribute [go_sem] aAk yO
theorem aE2 [Mx] (F : Md) : FOK Tryz.prog GL 65 (nE F) := by
 refine bT (aT (aFZ F)) mix Tryz.func65 rfl xAa xAc yO fun w0 S x Θ hw h hF => ?_
 obtain ⟨(a0_0 : (List wc)), (a1_1 : (List wc)), u⟩ := x
 simp only [bX, go_sem]
 replace h : sat (iZ F a0_0 a1_1) _ := h
 unfold iZ at h
 refine fC h (fun hc h => ?_) fun hc h => ?_
 ·exact aK hF [.tmp 4] rfl rfl rfl (aE h) xAd
 ·refine cG hF (D := Int) [0, 1, 12] (fun d => [(13, .val qe d)]) (fun d => []) h rfl xAb ?_
  rintro x13_5 A4 T4 hA4 hE4 h
  simp only [go_sem]
  replace h : sat (pO F a0_0 a1_1 x13_5) _ := h
  unfold pO at h
  exact zac
attribute [go_sem] nE
def qN (F : Md) (a0_0 : qw) (a1_1 : qw) (x13_5 : Int) : Option ((Int) ⊕ ((Unit) ⊕ Bool)) :=
 if x13_5 < (a0_0.length : Int) then ck (0 ≤ x13_5 ∧ x13_5 < (a0_0.length : Int)) (ck (0 ≤ x13_5 ∧ x13_5 < (a1_1.length : Int)) (if ¬ ((a0_0.getD (x13_5.toNat) ([] : List Nat)) = (a1_1.getD (x13_5.toNat) ([] : List Nat))) then some (.inr (.inr false)) else ck (I64 (x13_5 + (1 : Int))) (some (.inl (x13_5 + (1 : Int)))))) else some (.inr (.inl ()))
def lT (F : Md) (a0_0 : qw) (a1_1 : qw) : Option Bool :=
 if ¬ ((a0_0.length : Int) = (a1_1.length : Int)) then some false else (eG F (fun d : Int => qN F a0_0 a1_1 d) (0 : Int)).bind (fun e => match e with | (.inl e) => some true | (.inr e) => some e)
def aAl : PlR := ⟨[(0, .A [0, 1]), (1, .A [0, 1, 10]), (2, .A [4]), (3, .A [0, 1, 12, 13]), (4, .A [0, 1, 12, 13, 14]), (5, .A [0, 1, 5, 12, 13]), (6, .A [0, 1, 12, 13, 24]), (7, .A [4]), (8, .A [0, 1, 12, 13]), (9, .A [4])], []⟩
def aAG : Ty := .pair wh (.pair wh .unit)
def oE (F : Md) : aI := mSpec aAG (.one .bool) (fun x => lT F x.1 x.2.1)
abbrev aGD (F : Md) : List (FuncId × aI) := []
theorem aGE [Mx] (F : Md) : bJ Tryz.prog GL (aGD F) := .nil
attribute [go_sem] aAG aAl
theorem aF0 [Mx] (F : Md) : FOK Tryz.prog GL 66 (oE F) := by
 refine bT (aT (aGE F)) mix Tryz.func66 rfl xAa xAc aAl fun w0 S x Θ hw h hF => ?_
 obtain ⟨(a0_0 : qw), (a1_1 : qw), u⟩ := x
 simp only [bX, go_sem]
 replace h : sat (lT F a0_0 a1_1) _ := h
 unfold lT at h
 refine fC h (fun hc h => ?_) fun hc h => ?_
 ·exact aK hF [.tmp 4] rfl rfl rfl (aE h) xAd
 ·refine cG hF (D := Int) [0, 1, 12] (fun d => [(13, .val qe d)]) (fun d => []) h rfl xAb ?_
  rintro x13_5 A4 T4 hA4 hE4 h
  simp only [go_sem]
  replace h : sat (qN F a0_0 a1_1 x13_5) _ := h
  unfold qN at h
  refine fI h (fun hc h => ?_) fun hc h => ?_
  ·refine bD h fun g0 h => bD h fun g1 h => ?_
   refine fC h (fun hc h => ?_) fun hc h => ?_
   ·replace h := yaF (hE4 _ (aE h))
    exact zaD
   ·refine bD h fun g0 h => ?_
    replace h := hA4 _ (aE h)
    exact zaK
  ·replace h := yaF (hE4 _ (aE h))
   exact zaD
attribute [go_sem] oE
def oZ (F : Md) (a0_0 : wd) (a1_1 : wd) (x13_5 : Int) : Option ((Int) ⊕ ((Unit) ⊕ Bool)) :=
 if x13_5 < (a0_0.length : Int) then ck (0 ≤ x13_5 ∧ x13_5 < (a0_0.length : Int)) (ck (0 ≤ x13_5 ∧ x13_5 < (a1_1.length : Int)) (if ¬ ((Ty.eqb qs (a0_0.getD (x13_5.toNat) ([], [], [], [], ())) (a1_1.getD (x13_5.toNat) ([], [], [], [], ()))) = true) then some (.inr (.inr false)) else ck (I64 (x13_5 + (1 : Int))) (some (.inl (x13_5 + (1 : Int)))))) else some (.inr (.inl ()))
def kM (F : Md) (a0_0 : wd) (a1_1 : wd) : Option Bool :=
 if ¬ ((a0_0.length : Int) = (a1_1.length : Int)) then some false else (eG F (fun d : Int => oZ F a0_0 a1_1 d) (0 : Int)).bind (fun e => match e with | (.inl e) => some true | (.inr e) => some e)
def wX : PlR := ⟨[(0, .A [0, 1]), (1, .A [0, 1, 10]), (2, .A [4]), (3, .A [0, 1, 12, 13]), (4, .A [0, 1, 12, 13, 14]), (5, .A [0, 1, 5, 12, 13]), (6, .A [0, 1, 12, 13, 24]), (7, .A [4]), (8, .A [0, 1, 12, 13]), (9, .A [4])], []⟩
def yP : Ty := .pair (.sl qs) (.pair (.sl qs) .unit)
def mF (F : Md) : aI := mSpec yP (.one .bool) (fun x => kM F x.1 x.2.1)
abbrev aE3 (F : Md) : List (FuncId × aI) := []
theorem aE4 [Mx] (F : Md) : bJ Tryz.prog GL (aE3 F) := .nil
attribute [go_sem] yP wX
theorem aEu [Mx] (F : Md) : FOK Tryz.prog GL 33 (mF F) := by
 refine bT (aT (aE4 F)) mix Tryz.func33 rfl xAa xAc wX fun w0 S x Θ hw h hF => ?_
 obtain ⟨(a0_0 : wd), (a1_1 : wd), u⟩ := x
 simp only [bX, go_sem]
 replace h : sat (kM F a0_0 a1_1) _ := h
 unfold kM at h
 refine fC h (fun hc h => ?_) fun hc h => ?_
 ·exact aK hF [.tmp 4] rfl rfl rfl (aE h) xAd
 ·refine cG hF (D := Int) [0, 1, 12] (fun d => [(13, .val qe d)]) (fun d => []) h rfl xAb ?_
  rintro x13_5 A4 T4 hA4 hE4 h
  simp only [go_sem]
  replace h : sat (oZ F a0_0 a1_1 x13_5) _ := h
  unfold oZ at h
  exact zac
attribute [go_sem] mF
@[go_sem]def vF : Ty := .pair .expr (.pair .expr .unit)
def lF (g : Ex → Ex → Option (Bool)) : aI := mSpec vF (.one .bool) (fun x => g x.1 x.2.1)
attribute [go_sem] lF
def cQ (F : Md) (g : Ex → Ex → Option (Bool)) (a0_0 : wx) (a1_1 : wx) (x17_15 : Int) : Option ((Int) ⊕ ((Unit) ⊕ Bool)) :=
 if x17_15 < (a0_0.length : Int) then ck (0 ≤ x17_15 ∧ x17_15 < (a0_0.length : Int)) (ck (0 ≤ x17_15 ∧ x17_15 < (a1_1.length : Int)) ((g (a0_0.getD (x17_15.toNat) (Ex.mk 0 [] [])) (a1_1.getD (x17_15.toNat) (Ex.mk 0 [] []))).bind (fun v_28 => if ¬ (v_28 = true) then some (.inr (.inr false)) else ck (I64 (x17_15 + (1 : Int))) (some (.inl (x17_15 + (1 : Int))))))) else some (.inr (.inl ()))
def bP (F : Md) (g : Ex → Ex → Option (Bool)) (a0_0 : wx) (a1_1 : wx) (eq_2 : Unit) : Option Bool :=
 if ¬ ((a0_0.length : Int) = (a1_1.length : Int)) then some false else (eG F (fun d : Int => cQ F g a0_0 a1_1 d) (0 : Int)).bind (fun e => match e with | (.inl e) => some true | (.inr e) => some e)
def eJ : PlR := ⟨[(0, .A [0, 1, 2]), (1, .A [0, 1, 2, 14]), (2, .A [6]), (3, .A [1, 2, 15, 16, 17]), (4, .A [1, 2, 15, 16, 17, 18]), (5, .B [1, 2, 7, 8, 15, 16, 17]), (6, .B [1, 2, 8, 9, 15, 16, 17]), (7, .A [1, 2, 15, 16, 17, 30]), (8, .A [6]), (9, .A [1, 2, 15, 16, 17]), (10, .A [6])], []⟩
def eK : Ty := .pair (.sl .expr) (.pair (.sl .expr) (.pair (.clo 62 .unit) .unit))
def bZ (F : Md) (g : Ex → Ex → Option (Bool)) : aI := mSpec eK (.one .bool) (fun x => bP F g x.1 x.2.1 x.2.2.1)
abbrev eL (F : Md) (g : Ex → Ex → Option (Bool)) : List (FuncId × aI) := [(62, (lF g))]
theorem jL [Mx] (F : Md) (g : Ex → Ex → Option (Bool)) (hg : FOK Tryz.prog GL 62 (lF g)) : bJ Tryz.prog GL (eL F g) := .cons hg xAa (.nil)
attribute [go_sem] eK eJ
theorem jF [Mx] (F : Md) (g : Ex → Ex → Option (Bool)) (hg : FOK Tryz.prog GL 62 (lF g)) : FOK Tryz.prog GL 101 (bZ F g) := by
 refine bT (aT (jL F g hg)) mix Tryz.func101 rfl xAa xAc eJ fun w0 S x Θ hw h hF => ?_
 obtain ⟨(a0_0 : wx), (a1_1 : wx), (eq_2 : Unit), u⟩ := x
 simp only [bX, go_sem]
 replace h : sat (bP F g a0_0 a1_1 eq_2) _ := h
 unfold bP at h
 refine fC h (fun hc h => ?_) fun hc h => ?_
 ·exact aK hF [.tmp 6] rfl rfl rfl (aE h) xAd
 ·refine cG hF (D := Int) [1, 2, 15, 16] (fun d => [(17, .val qe d)]) (fun d => []) h rfl xAb ?_
  rintro x17_15 A4 T4 hA4 hE4 h
  simp only [go_sem]
  replace h : sat (cQ F g a0_0 a1_1 x17_15) _ := h
  unfold cQ at h
  exact zaE
attribute [go_sem] bZ
def sB (F : Md) (g : Ex → Ex → Option (Bool)) (a_0 : Ex) (b_1 : Ex) : Option Bool :=
 ck ((((a_0.kind) = (b_1.kind)) ∧ ((a_0.text) = (b_1.text))) → ((bP F g (a_0.l) (b_1.l) ()).isSome = true)) (some (((decide ((a_0.kind) = (b_1.kind))) && (decide ((a_0.text) = (b_1.text)))) && ((bP F g (a_0.l) (b_1.l) ()).getD false)))
def aD4 : PlR := ⟨[(0, .B [2, 3]), (1, .A [4])], []⟩
abbrev aE5 (F : Md) (g : Ex → Ex → Option (Bool)) : List (FuncId × aI) := [(101, (bZ F g))]
theorem aLY [Mx] (F : Md) (g : Ex → Ex → Option (Bool)) (hg : FOK Tryz.prog GL 62 (lF g)) : bJ Tryz.prog GL (aE5 F g) := .cons (jF F g hg) xAa (.nil)
attribute [go_sem] aD4
theorem aI9 [Mx] (F : Md) (g : Ex → Ex → Option (Bool)) (hg : FOK Tryz.prog GL 62 (lF g)) : FOK Tryz.prog GL 62 (mSpec vF (.one .bool) (fun x => sB F g x.1 x.2.1)) := by
 refine bT (aT (aLY F g hg)) mix Tryz.func62 rfl xAa xAc aD4 fun w0 S x Θ hw h hF => ?_
 obtain ⟨(a_0 : Ex), (b_1 : Ex), u⟩ := x
 simp only [bX, go_sem]
 replace h : sat (sB F g a_0 b_1) _ := h
 unfold sB at h
 refine bD h fun g0 h => ?_
 exact zaD
def oN (F : Md) : Nat → Ex → Ex → Option (Bool)
 | 0 => fun _ _ => none
 | n + 1 => sB F (oN F n)
def nF (F : Md) (n : Nat) : aI := mSpec vF (.one .bool) (fun x => oN F n x.1 x.2.1)
theorem aAm [Mx] (F : Md) : ∀ n, FOK Tryz.prog GL 62 (nF F n)
 | 0 => fun _ _ _ _ _ _ _ hp => Bool.noConfusion (show false = true from hp)
 | n + 1 => aI9 F _ (aAm F n)
attribute [go_sem] nF
end
end Nu
end Go.Proofs
namespace Go.Proofs
open Go.Vc
set_option maxRecDepth 20000
namespace Nu
noncomputable section
set_option maxHeartbeats 4000000
attribute [-go_sem] Ex.kind Ex.text Ex.l
def tM (F : Md) (x_0 : wa) (y_1 : wa) : Option Bool :=
 ck (((x_0.1 = y_1.1) ∧ ((Ty.eqb qg x_0.2.1 y_1.2.1) = true)) → ((oN F 64 x_0.2.2.1 y_1.2.2.1).isSome = true)) (some (((decide (x_0.1 = y_1.1)) && (Ty.eqb qg x_0.2.1 y_1.2.1)) && ((oN F 64 x_0.2.2.1 y_1.2.2.1).getD false)))
@[go_sem]def tN : Ty := .pair qq (.pair qq .unit)
def sC (F : Md) : aI := mSpec tN (.one .bool) (fun x => tM F x.1 x.2.1)
abbrev aAn (F : Md) : List (FuncId × aI) := [(62, (nF F 64))]
theorem aD5 [Mx] (F : Md) : bJ Tryz.prog GL (aAn F) := .cons (aAm F 64) xAa (.nil)
theorem aJa [Mx] (F : Md) : FOK Tryz.prog GL 61 (sC F) := by
 refine sS (aT (aD5 F)) Tryz.func61 rfl xAa xAc fun w0 S x r hw h => ?_
 have hF : fT (fr Tryz.prog (EM (aAn F)) S w0 Tryz.f61.ntmps) := ⟨aT (aD5 F), mix⟩
 obtain ⟨(x_0 : wa), (y_1 : wa), u⟩ := x
 simp only [tN, Ty.wf, fF] at hw
 simp only [bX, tN]
 try dsimp only at h
 replace h : tM F x_0 y_1 = some r := h
 unfold tM at h
 refine aB (aR hF [2, 3] (yaA ?_))
 refine aA (aB (aF hF [4] (yaA ?_)))
 obtain ⟨g0, h⟩ := aQ h
 repeat (refine ⟨zAD, ?_⟩)
 obtain rfl := Option.some.inj h
 refine aA (cD (jG hF [.tmp 4] rfl rfl rfl ?_))
 exact zAH
attribute [go_sem] sC
def cM (F : Md) (a0_0 : (List wa)) (a1_1 : (List wa)) (x17_15 : Int) : Option ((Int) ⊕ ((Unit) ⊕ Bool)) :=
 if x17_15 < (a0_0.length : Int) then ck (0 ≤ x17_15 ∧ x17_15 < (a0_0.length : Int)) (ck (0 ≤ x17_15 ∧ x17_15 < (a1_1.length : Int)) ((tM F (a0_0.getD (x17_15.toNat) ([], ([], [], ()), (Ex.mk 0 [] []), ())) (a1_1.getD (x17_15.toNat) ([], ([], [], ()), (Ex.mk 0 [] []), ()))).bind (fun v_28 => if ¬ (v_28 = true) then some (.inr (.inr false)) else ck (I64 (x17_15 + (1 : Int))) (some (.inl (x17_15 + (1 : Int))))))) else some (.inr (.inl ()))
def bV (F : Md) (a0_0 : (List wa)) (a1_1 : (List wa)) (eq_2 : Unit) : Option Bool :=
 if ¬ ((a0_0.length : Int) = (a1_1.length : Int)) then some false else (eG F (fun d : Int => cM F a0_0 a1_1 d) (0 : Int)).bind (fun e => match e with | (.inl e) => some true | (.inr e) => some e)
def eA : PlR := ⟨[(0, .A [0, 1, 2]), (1, .A [0, 1, 2, 14]), (2, .A [6]), (3, .A [1, 2, 15, 16, 17]), (4, .A [1, 2, 15, 16, 17, 18]), (5, .B [1, 2, 7, 8, 15, 16, 17]), (6, .B [1, 2, 8, 9, 15, 16, 17]), (7, .A [1, 2, 15, 16, 17, 30]), (8, .A [6]), (9, .A [1, 2, 15, 16, 17]), (10, .A [6])], []⟩
def eE : Ty := .pair (.sl qq) (.pair (.sl qq) (.pair (.clo 61 .unit) .unit))
def bS (F : Md) : aI := mSpec eE (.one .bool) (fun x => bV F x.1 x.2.1 x.2.2.1)
abbrev eF (F : Md) : List (FuncId × aI) := [(61, (sC F))]
theorem iP [Mx] (F : Md) : bJ Tryz.prog GL (eF F) := .cons (aJa F) xAa (.nil)
attribute [go_sem] eE eA
theorem iE [Mx] (F : Md) : FOK Tryz.prog GL 60 (bS F) := by
 refine bT (aT (iP F)) mix Tryz.func60 rfl xAa xAc eA fun w0 S x Θ hw h hF => ?_
 obtain ⟨(a0_0 : (List wa)), (a1_1 : (List wa)), (eq_2 : Unit), u⟩ := x
 simp only [bX, go_sem]
 replace h : sat (bV F a0_0 a1_1 eq_2) _ := h
 unfold bV at h
 refine fC h (fun hc h => ?_) fun hc h => ?_
 ·exact aK hF [.tmp 6] rfl rfl rfl (aE h) xAd
 ·refine cG hF (D := Int) [1, 2, 15, 16] (fun d => [(17, .val qe d)]) (fun d => []) h rfl xAb ?_
  rintro x17_15 A4 T4 hA4 hE4 h
  simp only [go_sem]
  replace h : sat (cM F a0_0 a1_1 x17_15) _ := h
  unfold cM at h
  exact zaE
attribute [go_sem] bS
def tO (F : Md) (x_0 : qz) (y_1 : qz) : Option Bool :=
 ck ((x_0.1 = y_1.1) → ((oN F 64 x_0.2.1 y_1.2.1).isSome = true)) (some ((decide (x_0.1 = y_1.1)) && ((oN F 64 x_0.2.1 y_1.2.1).getD false)))
def aDn : PlR := ⟨[(0, .B [2, 3]), (1, .A [4])], []⟩
def aD6 : Ty := .pair qr (.pair qr .unit)
def sD (F : Md) : aI := mSpec aD6 (.one .bool) (fun x => tO F x.1 x.2.1)
abbrev aD7 (F : Md) : List (FuncId × aI) := [(62, (nF F 64))]
theorem aKJ [Mx] (F : Md) : bJ Tryz.prog GL (aD7 F) := .cons (aAm F 64) xAa (.nil)
attribute [go_sem] aD6 aDn
theorem aJb [Mx] (F : Md) : FOK Tryz.prog GL 64 (sD F) := by
 refine bT (aT (aKJ F)) mix Tryz.func64 rfl xAa xAc aDn fun w0 S x Θ hw h hF => ?_
 obtain ⟨(x_0 : qz), (y_1 : qz), u⟩ := x
 simp only [bX, go_sem]
 replace h : sat (tO F x_0 y_1) _ := h
 unfold tO at h
 refine bD h fun g0 h => ?_
 exact zaD
attribute [go_sem] sD
def cT (F : Md) (a0_0 : wt) (a1_1 : wt) (x17_15 : Int) : Option ((Int) ⊕ ((Unit) ⊕ Bool)) :=
 if x17_15 < (a0_0.length : Int) then ck (0 ≤ x17_15 ∧ x17_15 < (a0_0.length : Int)) (ck (0 ≤ x17_15 ∧ x17_15 < (a1_1.length : Int)) ((tO F (a0_0.getD (x17_15.toNat) ([], (Ex.mk 0 [] []), ())) (a1_1.getD (x17_15.toNat) ([], (Ex.mk 0 [] []), ()))).bind (fun v_28 => if ¬ (v_28 = true) then some (.inr (.inr false)) else ck (I64 (x17_15 + (1 : Int))) (some (.inl (x17_15 + (1 : Int))))))) else some (.inr (.inl ()))
def cF (F : Md) (a0_0 : wt) (a1_1 : wt) (eq_2 : Unit) : Option Bool :=
 if ¬ ((a0_0.length : Int) = (a1_1.length : Int)) then some false else (eG F (fun d : Int => cT F a0_0 a1_1 d) (0 : Int)).bind (fun e => match e with | (.inl e) => some true | (.inr e) => some e)
def eS : PlR := ⟨[(0, .A [0, 1, 2]), (1, .A [0, 1, 2, 14]), (2, .A [6]), (3, .A [1, 2, 15, 16, 17]), (4, .A [1, 2, 15, 16, 17, 18]), (5, .B [1, 2, 7, 8, 15, 16, 17]), (6, .B [1, 2, 8, 9, 15, 16, 17]), (7, .A [1, 2, 15, 16, 17, 30]), (8, .A [6]), (9, .A [1, 2, 15, 16, 17]), (10, .A [6])], []⟩
def eV : Ty := .pair (.sl qr) (.pair (.sl qr) (.pair (.clo 64 .unit) .unit))
def cA (F : Md) : aI := mSpec eV (.one .bool) (fun x => cF F x.1 x.2.1 x.2.2.1)
abbrev eW (F : Md) : List (FuncId × aI) := [(64, (sD F))]
theorem kF [Mx] (F : Md) : bJ Tryz.prog GL (eW F) := .cons (aJb F) xAa (.nil)
attribute [go_sem] eV eS
theorem jX [Mx] (F : Md) : FOK Tryz.prog GL 63 (cA F) := by
 refine bT (aT (kF F)) mix Tryz.func63 rfl xAa xAc eS fun w0 S x Θ hw h hF => ?_
 obtain ⟨(a0_0 : wt), (a1_1 : wt), (eq_2 : Unit), u⟩ := x
 simp only [bX, go_sem]
 replace h : sat (cF F a0_0 a1_1 eq_2) _ := h
 unfold cF at h
 refine fC h (fun hc h => ?_) fun hc h => ?_
 ·exact aK hF [.tmp 6] rfl rfl rfl (aE h) xAd
 ·refine cG hF (D := Int) [1, 2, 15, 16] (fun d => [(17, .val qe d)]) (fun d => []) h rfl xAb ?_
  rintro x17_15 A4 T4 hA4 hE4 h
  simp only [go_sem]
  replace h : sat (cT F a0_0 a1_1 x17_15) _ := h
  unfold cT at h
  exact zaE
attribute [go_sem] cA
def xL (F : Md) (a_0 : qc) (b_1 : qc) : Option Bool :=
 (bV F a_0.2.1 b_1.2.1 ()).bind (fun v_8 => (cF F a_0.2.2.2.2.1 b_1.2.2.2.2.1 ()).bind (fun v_14 => ck ((((v_8 = true) ∧ (v_14 = true)) ∧ (a_0.1 = b_1.1)) → ((iZ F a_0.2.2.1 b_1.2.2.1).isSome = true)) (ck (((((v_8 = true) ∧ (v_14 = true)) ∧ (a_0.1 = b_1.1)) ∧ (((iZ F a_0.2.2.1 b_1.2.2.1).getD false) = true)) → ((lT F a_0.2.2.2.1 b_1.2.2.2.1).isSome = true)) (some ((((v_8 && v_14) && (decide (a_0.1 = b_1.1))) && ((iZ F a_0.2.2.1 b_1.2.2.1).getD false)) && ((lT F a_0.2.2.2.1 b_1.2.2.2.1).getD false))))))
def aE6 : PlR := ⟨[(0, .B [2, 3]), (1, .A [2, 3, 5]), (2, .A [2, 3, 5, 6]), (3, .A [4])], []⟩
def aGp : Ty := .pair qa (.pair qa .unit)
def vG (F : Md) : aI := mSpec aGp (.one .bool) (fun x => xL F x.1 x.2.1)
abbrev sQ (F : Md) : List (FuncId × aI) := [(60, (bS F)), (63, (cA F)), (65, (nE F)), (66, (oE F))]
theorem aNx [Mx] (F : Md) : bJ Tryz.prog GL (sQ F) := .cons (iE F) xAa (.cons (jX F) xAa (.cons (aE2 F) xAa (.cons (aF0 F) xAa (.nil))))
attribute [go_sem] aGp aE6
theorem aLZ [Mx] (F : Md) : FOK Tryz.prog GL 32 (vG F) := by
 refine bT (aT (aNx F)) mix Tryz.func32 rfl xAa xAc aE6 fun w0 S x Θ hw h hF => ?_
 obtain ⟨(a_0 : qc), (b_1 : qc), u⟩ := x
 simp only [bX, go_sem]
 replace h : sat (xL F a_0 b_1) _ := h
 unfold xL at h
 obtain ⟨v_8, hv, h⟩ := aN h
 try simp only [hv, go_sem]
 obtain ⟨v_14, hv, h⟩ := aN h
 try simp only [hv, go_sem]
 refine bD h fun g0 h => bD h fun g1 h => ?_
 exact zaD
attribute [go_sem] vG
def cW (F : Md) (a0_0 : wu) (a1_1 : wu) (x17_15 : Int) : Option ((Int) ⊕ ((Unit) ⊕ Bool)) :=
 if x17_15 < (a0_0.length : Int) then ck (0 ≤ x17_15 ∧ x17_15 < (a0_0.length : Int)) (ck (0 ≤ x17_15 ∧ x17_15 < (a1_1.length : Int)) ((xL F (a0_0.getD (x17_15.toNat) ([], [], [], [], [], ())) (a1_1.getD (x17_15.toNat) ([], [], [], [], [], ()))).bind (fun v_28 => if ¬ (v_28 = true) then some (.inr (.inr false)) else ck (I64 (x17_15 + (1 : Int))) (some (.inl (x17_15 + (1 : Int))))))) else some (.inr (.inl ()))
def bL (F : Md) (a0_0 : wu) (a1_1 : wu) (eq_2 : Unit) : Option Bool :=
 if ¬ ((a0_0.length : Int) = (a1_1.length : Int)) then some false else (eG F (fun d : Int => cW F a0_0 a1_1 d) (0 : Int)).bind (fun e => match e with | (.inl e) => some true | (.inr e) => some e)
def eZ : PlR := ⟨[(0, .A [0, 1, 2]), (1, .A [0, 1, 2, 14]), (2, .A [6]), (3, .A [1, 2, 15, 16, 17]), (4, .A [1, 2, 15, 16, 17, 18]), (5, .B [1, 2, 7, 8, 15, 16, 17]), (6, .B [1, 2, 8, 9, 15, 16, 17]), (7, .A [1, 2, 15, 16, 17, 30]), (8, .A [6]), (9, .A [1, 2, 15, 16, 17]), (10, .A [6])], []⟩
def fA : Ty := .pair (.sl qa) (.pair (.sl qa) (.pair (.clo 32 .unit) .unit))
def cH (F : Md) : aI := mSpec fA (.one .bool) (fun x => bL F x.1 x.2.1 x.2.2.1)
abbrev fB (F : Md) : List (FuncId × aI) := [(32, (vG F))]
theorem kR [Mx] (F : Md) : bJ Tryz.prog GL (fB F) := .cons (aLZ F) xAa (.nil)
attribute [go_sem] fA eZ
theorem kN [Mx] (F : Md) : FOK Tryz.prog GL 31 (cH F) := by
 refine bT (aT (kR F)) mix Tryz.func31 rfl xAa xAc eZ fun w0 S x Θ hw h hF => ?_
 obtain ⟨(a0_0 : wu), (a1_1 : wu), (eq_2 : Unit), u⟩ := x
 simp only [bX, go_sem]
 replace h : sat (bL F a0_0 a1_1 eq_2) _ := h
 unfold bL at h
 refine fC h (fun hc h => ?_) fun hc h => ?_
 ·exact aK hF [.tmp 6] rfl rfl rfl (aE h) xAd
 ·refine cG hF (D := Int) [1, 2, 15, 16] (fun d => [(17, .val qe d)]) (fun d => []) h rfl xAb ?_
  rintro x17_15 A4 T4 hA4 hE4 h
  simp only [go_sem]
  replace h : sat (cW F a0_0 a1_1 x17_15) _ := h
  unfold cW at h
  exact zaE
attribute [go_sem] cH
def aAo (F : Md) (a_0 : qf) (b_1 : qf) : Option Bool :=
 ck (((((((((a_0.1 = b_1.1) ∧ (a_0.2.1 = b_1.2.1)) ∧ (a_0.2.2.1 = b_1.2.2.1)) ∧ (a_0.2.2.2.1 = b_1.2.2.2.1)) ∧ (a_0.2.2.2.2.1 = b_1.2.2.2.2.1)) ∧ (a_0.2.2.2.2.2.1 = b_1.2.2.2.2.2.1)) ∧ (a_0.2.2.2.2.2.2.1 = b_1.2.2.2.2.2.2.1)) ∧ (a_0.2.2.2.2.2.2.2.1 = b_1.2.2.2.2.2.2.2.1)) → ((bL F a_0.2.2.2.2.2.2.2.2.1 b_1.2.2.2.2.2.2.2.2.1 ()).isSome = true)) (ck ((((((((((a_0.1 = b_1.1) ∧ (a_0.2.1 = b_1.2.1)) ∧ (a_0.2.2.1 = b_1.2.2.1)) ∧ (a_0.2.2.2.1 = b_1.2.2.2.1)) ∧ (a_0.2.2.2.2.1 = b_1.2.2.2.2.1)) ∧ (a_0.2.2.2.2.2.1 = b_1.2.2.2.2.2.1)) ∧ (a_0.2.2.2.2.2.2.1 = b_1.2.2.2.2.2.2.1)) ∧ (a_0.2.2.2.2.2.2.2.1 = b_1.2.2.2.2.2.2.2.1)) ∧ (((bL F a_0.2.2.2.2.2.2.2.2.1 b_1.2.2.2.2.2.2.2.2.1 ()).getD false) = true)) → ((kM F a_0.2.2.2.2.2.2.2.2.2.1 b_1.2.2.2.2.2.2.2.2.2.1).isSome = true)) (some ((((((((((decide (a_0.1 = b_1.1)) && (decide (a_0.2.1 = b_1.2.1))) && (decide (a_0.2.2.1 = b_1.2.2.1))) && (decide (a_0.2.2.2.1 = b_1.2.2.2.1))) && (decide (a_0.2.2.2.2.1 = b_1.2.2.2.2.1))) && (decide (a_0.2.2.2.2.2.1 = b_1.2.2.2.2.2.1))) && (decide (a_0.2.2.2.2.2.2.1 = b_1.2.2.2.2.2.2.1))) && (decide (a_0.2.2.2.2.2.2.2.1 = b_1.2.2.2.2.2.2.2.1))) && ((bL F a_0.2.2.2.2.2.2.2.2.1 b_1.2.2.2.2.2.2.2.2.1 ()).getD false)) && ((kM F a_0.2.2.2.2.2.2.2.2.2.1 b_1.2.2.2.2.2.2.2.2.2.1).getD false))))
def aIA : PlR := ⟨[(0, .B [2, 3]), (1, .A [2, 3, 5]), (2, .A [4])], []⟩
def aKK : Ty := .pair qj (.pair qj .unit)
def aA7 (F : Md) : aI := mSpec aKK (.one .bool) (fun x => aAo F x.1 x.2.1)
abbrev aF1 (F : Md) : List (FuncId × aI) := [(31, (cH F)), (33, (mF F))]
theorem aRq [Mx] (F : Md) : bJ Tryz.prog GL (aF1 F) := .cons (kN F) xAa (.cons (aEu F) xAa (.nil))
attribute [go_sem] aKK aIA
theorem aPX [Mx] (F : Md) : FOK Tryz.prog GL 12 (aA7 F) := by
 refine bT (aT (aRq F)) mix Tryz.func12 rfl xAa xAc aIA fun w0 S x Θ hw h hF => ?_
 obtain ⟨(a_0 : qf), (b_1 : qf), u⟩ := x
 simp only [bX, go_sem]
 replace h : sat (aAo F a_0 b_1) _ := h
 unfold aAo at h
 refine bD h fun g0 h => bD h fun g1 h => ?_
 exact zaD
attribute [go_sem] aA7
end
end Nu
end Go.Proofs
namespace Go.Proofs
open Go.Vc
set_option maxRecDepth 20000
namespace Nu
noncomputable section
set_option maxHeartbeats 4000000
attribute [-go_sem] Ex.kind Ex.text Ex.l
def sZ (F : Md) : Option qf :=
 some ((40 : Int), (4 : Int), (0 : Int), (1 : Int), (aU ⟨#[49]⟩), (aU ⟨#[48, 46, 53]⟩), (aU ⟨#[48, 46, 49, 50, 53]⟩), (aU ⟨#[49]⟩), ([((aU ⟨#[97]⟩), ([((aU ⟨#[120]⟩), ((aU ⟨#[49]⟩), ([] : List Nat), ()), (Ex.mk (2 : Int) (aU ⟨#[120]⟩) ([] : List Ex)), ())] : List wa), ([] : List wc), ([] : List qd), ([((aU ⟨#[121]⟩), (Ex.mk (2 : Int) (aU ⟨#[120]⟩) ([] : List Ex)), ())] : List qz), ())] : List qc), ([] : List qm), ())
def aHH : PlR := ⟨[(0, .B [0]), (1, .B [0, 1]), (2, .B [0])], []⟩
def aIB : Ty := .unit
def aAp (F : Md) : aI := mSpec aIB (.one qj) (fun x => sZ F )
abbrev aPY (F : Md) : List (FuncId × aI) := []
theorem aPZ [Mx] (F : Md) : bJ Tryz.prog GL (aPY F) := .nil
attribute [go_sem] aIB aHH
theorem aPq [Mx] (F : Md) : FOK Tryz.prog GL 13 (aAp F) := by
 refine bT (aT (aPZ F)) mix Tryz.func13 rfl xAa xAc aHH fun w0 S x Θ hw h hF => ?_
 simp only [bX, go_sem]
 replace h : sat (sZ F) _ := h
 unfold sZ at h
 exact aK hF [.cell 0 36] rfl rfl rfl (aE h) xAd
attribute [go_sem] aAp
end
end Nu
end Go.Proofs
namespace Go.Proofs
open Go.Vc
set_option maxRecDepth 20000
namespace Nu
noncomputable section
set_option maxHeartbeats 4000000
def aPr : ByteArray := ⟨⟨112 :: 114 :: 101 :: 99 :: 32 :: 52 :: 48 :: 10 :: 101 :: 110 :: 100 :: 32 :: 49 :: 10 :: 115 :: 116 :: 101 :: 112 :: 32 :: 48 :: 46 :: 53 :: 32 :: 48 :: 46 :: 49 :: 50 :: 53 :: 32 :: 35 :: 32 :: 102 :: 105 :: 110 :: 101 :: 10 :: 116 :: 111 :: 108 :: 32 :: 49 :: 10 :: 116 :: 114 :: 105 :: 101 :: 115 :: 32 :: 52 :: 10 :: 111 :: 114 :: 100 :: 101 :: 114 :: 32 :: 48 :: 10 :: 106 :: 97 :: 99 :: 111 :: 98 :: 105 :: 10 :: 10 :: 115 :: 117 :: 98 :: 32 :: 97 :: 10 :: 32 :: 115 :: 116 :: 97 :: 116 :: 101 :: 32 :: 120 :: 32 :: 61 :: 32 :: 49 :: 32 :: 100 :: 101 :: 114 :: 32 :: 120 :: 10 :: 111 :: 117 :: 116 :: 32 :: 121 :: 32 :: 61 :: 32 :: 120 :: 10 :: []⟩⟩
@[go_sem]theorem aP0 : (⟨⟨112 :: 114 :: 101 :: 99 :: 32 :: 52 :: 48 :: 10 :: 101 :: 110 :: 100 :: 32 :: 49 :: 10 :: 115 :: 116 :: 101 :: 112 :: 32 :: 48 :: 46 :: 53 :: 32 :: 48 :: 46 :: 49 :: 50 :: 53 :: 32 :: 35 :: 32 :: 102 :: 105 :: 110 :: 101 :: 10 :: 116 :: 111 :: 108 :: 32 :: 49 :: 10 :: 116 :: 114 :: 105 :: 101 :: 115 :: 32 :: 52 :: 10 :: 111 :: 114 :: 100 :: 101 :: 114 :: 32 :: 48 :: 10 :: 106 :: 97 :: 99 :: 111 :: 98 :: 105 :: 10 :: 10 :: 115 :: 117 :: 98 :: 32 :: 97 :: 10 :: 32 :: 115 :: 116 :: 97 :: 116 :: 101 :: 32 :: 120 :: 32 :: 61 :: 32 :: 49 :: 32 :: 100 :: 101 :: 114 :: 32 :: 120 :: 10 :: 111 :: 117 :: 116 :: 32 :: 121 :: 32 :: 61 :: 32 :: 120 :: 10 :: []⟩⟩ : ByteArray) = aPr := rfl
attribute [-go_sem] Ex.kind Ex.text Ex.l
def aCG (F : Md) : Option Bool :=
 (hD F (aU ⟨#[49, 43, 120, 42, 50]⟩)).bind (fun v_3 => (hD F (aU ⟨#[49, 32, 43, 32]⟩)).bind (fun v_5 => (wW F (aU aPr)).bind (fun v_7 => (wW F (aU ⟨#[112, 114, 101, 99, 32, 52, 48, 10, 101, 110, 100, 32, 120, 10]⟩)).bind (fun v_9 => ck ((((v_3.2.2.1 = (0 : Int)) ∧ ((v_3.1.kind) = (6 : Int))) ∧ ((((v_3.1.l).length : Nat) : Int) = (2 : Int))) → ((1 : Int) < (((v_3.1.l).length : Nat) : Int))) (ck (((((((((v_3.2.2.1 = (0 : Int)) ∧ ((v_3.1.kind) = (6 : Int))) ∧ ((((v_3.1.l).length : Nat) : Int) = (2 : Int))) ∧ (((v_3.1.l).getD (1 : Nat) (Ex.mk 0 [] [])).kind = (8 : Int))) ∧ (v_5.2.1 = (4 : Int))) ∧ (v_5.2.2.1 = (6 : Int))) ∧ (v_7.2.2.1 = (0 : Int))) ∧ ((Ty.eqb qn v_7.2.1 ((0 : Int), (0 : Int), ())) = true)) → ((sZ F).isSome = true)) (ck (((((((((v_3.2.2.1 = (0 : Int)) ∧ ((v_3.1.kind) = (6 : Int))) ∧ ((((v_3.1.l).length : Nat) : Int) = (2 : Int))) ∧ (((v_3.1.l).getD (1 : Nat) (Ex.mk 0 [] [])).kind = (8 : Int))) ∧ (v_5.2.1 = (4 : Int))) ∧ (v_5.2.2.1 = (6 : Int))) ∧ (v_7.2.2.1 = (0 : Int))) ∧ ((Ty.eqb qn v_7.2.1 ((0 : Int), (0 : Int), ())) = true)) → ((aAo F v_7.1 ((sZ F).getD ((0 : Int), (0 : Int), (0 : Int), (0 : Int), ([] : List Nat), ([] : List Nat), ([] : List Nat), ([] : List Nat), ([] : List qc), ([] : List qm), ()))).isSome = true)) (some (((((((((((decide (v_3.2.2.1 = (0 : Int))) && (decide ((v_3.1.kind) = (6 : Int)))) && (decide ((((v_3.1.l).length : Nat) : Int) = (2 : Int)))) && (decide (((v_3.1.l).getD (1 : Nat) (Ex.mk 0 [] [])).kind = (8 : Int)))) && (decide (v_5.2.1 = (4 : Int)))) && (decide (v_5.2.2.1 = (6 : Int)))) && (decide (v_7.2.2.1 = (0 : Int)))) && (Ty.eqb qn v_7.2.1 ((0 : Int), (0 : Int), ()))) && ((aAo F v_7.1 ((sZ F).getD ((0 : Int), (0 : Int), (0 : Int), (0 : Int), ([] : List Nat), ([] : List Nat), ([] : List Nat), ([] : List Nat), ([] : List qc), ([] : List qm), ()))).getD false)) && (decide (v_9.2.2.1 = (6 : Int)))) && (Ty.eqb qn v_9.2.1 ((2 : Int), (1 : Int), ()))))))))))
def aIC : PlR := ⟨[(0, .A []), (1, .B [1, 3]), (2, .B [1, 3, 5, 6]), (3, .B [1, 3, 5, 6, 7, 8, 9]), (4, .B [1, 3, 5, 6, 7, 8, 9, 11, 12]), (5, .A [0])], []⟩
def aF2 : Ty := .unit
def aID (F : Md) : aI := mSpec aF2 (.one .bool) (fun x => aCG F )
abbrev aAq (F : Md) : List (FuncId × aI) := [(11, (aAj F)), (12, (aA7 F)), (13, (aAp F)), (9, (oJ F))]
theorem aRr [Mx] (F : Md) : bJ Tryz.prog GL (aAq F) := .cons (aPp F) xAa (.cons (aPX F) xAa (.cons (aPq F) xAa (.cons (aEn F) xAa (.nil))))
attribute [go_sem] aF2 aIC
theorem aP1 [Mx] (F : Md) : FOK Tryz.prog GL 8 (aID F) := by
 refine bT (aT (aRr F)) mix Tryz.func8 rfl xAa xAc aIC fun w0 S x Θ hw h hF => ?_
 simp only [bX, go_sem]
 replace h : sat (aCG F) _ := h
 unfold aCG at h
 obtain ⟨v_3, hv, h⟩ := aN h
 try simp only [hv, go_sem]
 obtain ⟨v_5, hv, h⟩ := aN h
 try simp only [hv, go_sem]
 obtain ⟨v_7, hv, h⟩ := aN h
 try simp only [hv, go_sem]
 obtain ⟨v_9, hv, h⟩ := aN h
 try simp only [hv, go_sem]
 obtain ⟨g0, h⟩ := aP h
 obtain ⟨g1, h⟩ := aP h
 obtain ⟨g2, h⟩ := aP h
 repeat (refine ⟨by first | with_reducible assumption | omega | (intros; first | with_reducible assumption | omega) | (simp only [go_sem] at *; first | with_reducible assumption | omega) | (intro _; exact ⟨rfl, by decide⟩) | (intro _; refine (?_ : _ = aD _); rfl) | (refine (?_ : _ = aD _); rfl) | exact ⟨rfl, rfl⟩ | (intro q0; (try have e0 := g0 zAF); (try have e1 := g1 zAF); (try have e2 := g2 zAF); first | assumption | omega) | decide, ?_⟩)
 exact aK hF [.tmp 0] rfl rfl rfl (aE h) xAd
attribute [go_sem] aID
end
end Nu
end Go.Proofs
namespace Go.Proofs
open Go.Vc
set_option maxRecDepth 20000
namespace Nu
noncomputable section
theorem aXQ [Mx] : aCG (some 1000) = some true := by kernel_rfl
def aKL : Bool := true
def aA8 : aI := ⟨aF2, .one .bool, fun _ => True, fun _ => aKL⟩
attribute [go_sem] aA8
theorem aP2 [Mx] [Mx] : FOK Tryz.prog GL 8 aA8 := aQu (aP1 (some 1000)) (fun _ _ _ => aXQ)
end
end Nu
end Go.Proofs
namespace Go.Proofs
open Go.Vc
set_option maxRecDepth 20000
namespace Nu
noncomputable section
set_option maxHeartbeats 4000000
attribute [-go_sem] Ex.kind Ex.text Ex.l
def mT (F : Md) (s_7 : qd) (m_1 : Int) (neg_14 : qd) (sum_15 : qd) : Option (Bool) :=
 (hD F s_7).bind (fun v_17 => (hD F neg_14).bind (fun v_19 => (hD F sum_15).bind (fun v_21 => ck (I64 (((27 : Int) + (IntKind.i64.wrap ((((m_1 % (18446744073709551616 : Int)).toNat % (6 : Nat)) : Nat) : Int))) + (1 : Int))) (ck (((((aKL = true) ∧ (v_17.2.2.1 = (0 : Int))) ∧ ((v_17.1.kind) = (2 : Int))) ∧ (((decide (v_19.2.2.1 = (0 : Int))) == (decide ((((27 : Int) + (IntKind.i64.wrap ((((m_1 % (18446744073709551616 : Int)).toNat % (6 : Nat)) : Nat) : Int))) + (1 : Int)) ≤ (30 : Int)))) = true)) → ((((27 : Int) + (IntKind.i64.wrap ((((m_1 % (18446744073709551616 : Int)).toNat % (6 : Nat)) : Nat) : Int))) + (1 : Int)) ≤ (30 : Int)) → (I64 ((2 : Int) * ((27 : Int) + (IntKind.i64.wrap ((((m_1 % (18446744073709551616 : Int)).toNat % (6 : Nat)) : Nat) : Int)))))) (ck (((((aKL = true) ∧ (v_17.2.2.1 = (0 : Int))) ∧ ((v_17.1.kind) = (2 : Int))) ∧ (((decide (v_19.2.2.1 = (0 : Int))) == (decide ((((27 : Int) + (IntKind.i64.wrap ((((m_1 % (18446744073709551616 : Int)).toNat % (6 : Nat)) : Nat) : Int))) + (1 : Int)) ≤ (30 : Int)))) = true)) → ((((27 : Int) + (IntKind.i64.wrap ((((m_1 % (18446744073709551616 : Int)).toNat % (6 : Nat)) : Nat) : Int))) + (1 : Int)) ≤ (30 : Int)) → (I64 (((2 : Int) * ((27 : Int) + (IntKind.i64.wrap ((((m_1 % (18446744073709551616 : Int)).toNat % (6 : Nat)) : Nat) : Int)))) + (1 : Int)))) (some ((((((aKL && (decide (v_17.2.2.1 = (0 : Int)))) && (decide ((v_17.1.kind) = (2 : Int)))) && ((decide (v_19.2.2.1 = (0 : Int))) == (decide ((((27 : Int) + (IntKind.i64.wrap ((((m_1 % (18446744073709551616 : Int)).toNat % (6 : Nat)) : Nat) : Int))) + (1 : Int)) ≤ (30 : Int))))) && ((decide (v_21.2.2.1 = (0 : Int))) == ((decide ((((27 : Int) + (IntKind.i64.wrap ((((m_1 % (18446744073709551616 : Int)).toNat % (6 : Nat)) : Nat) : Int))) + (1 : Int)) ≤ (30 : Int))) && (decide ((((2 : Int) * ((27 : Int) + (IntKind.i64.wrap ((((m_1 % (18446744073709551616 : Int)).toNat % (6 : Nat)) : Nat) : Int)))) + (1 : Int)) ≤ (60 : Int)))))) && ((!(decide (v_19.2.2.1 = (0 : Int)))) || (decide ((v_19.1.kind) = (10 : Int))))) && ((!(decide (v_21.2.2.1 = (0 : Int)))) || (decide ((v_21.1.kind) = (6 : Int)))))))))))
def qI (F : Md) (m_1 : Int) (neg_22 : qd) (sum_23 : qd) (i_24 : Int) : Option ((qd × qd × Int) ⊕ (qd × qd)) :=
 if i_24 < ((27 : Int) + (IntKind.i64.wrap ((((m_1 % (18446744073709551616 : Int)).toNat % (6 : Nat)) : Nat) : Int))) then ck ((aU ⟨#[45]⟩).length + (neg_22.length) ≤ 9223372036854775807) (ck ((aU ⟨#[120, 43]⟩).length + (sum_23.length) ≤ 9223372036854775807) (ck (I64 (i_24 + (1 : Int))) (some (.inl (((aU ⟨#[45]⟩) ++ neg_22), ((aU ⟨#[120, 43]⟩) ++ sum_23), (i_24 + (1 : Int))))))) else some (.inr (neg_22, sum_23))
def mU (F : Md) (m_1 : Int) (s_7 : qd) : Option (Bool) :=
 (eG F (fun d : qd × qd × Int => qI F m_1 d.1 d.2.1 d.2.2) ((aU ⟨#[120]⟩), (aU ⟨#[120]⟩), (0 : Int))).bind (fun e => mT F s_7 m_1 e.1 e.2)
def qJ (F : Md) (n_0 : Int) (s_30 : qd) (i_31 : Int) : Option (wz ⊕ qd) :=
 if i_31 < (IntKind.i64.wrap ((((n_0 % (18446744073709551616 : Int)).toNat % (51 : Nat)) : Nat) : Int)) then ck ((aU ⟨#[40]⟩).length + (s_30.length) ≤ 9223372036854775807) (ck (((aU ⟨#[40]⟩) ++ s_30).length + (aU ⟨#[41]⟩).length ≤ 9223372036854775807) (ck (I64 (i_31 + (1 : Int))) (some (.inl ((((aU ⟨#[40]⟩) ++ s_30) ++ (aU ⟨#[41]⟩)), (i_31 + (1 : Int))))))) else some (.inr s_30)
def cP (F : Md) (n_0 : Int) (m_1 : Int) : Option Bool :=
 ck (I64 ((27 : Int) + (IntKind.i64.wrap ((((m_1 % (18446744073709551616 : Int)).toNat % (6 : Nat)) : Nat) : Int)))) ((eG F (fun d : qd × Int => qJ F n_0 d.1 d.2) ((aU ⟨#[120]⟩), (0 : Int))).bind (fun e => mU F m_1 e))
def aDo : PlR := ⟨[(0, .A [0, 1]), (1, .A [5, 6]), (2, .A [5, 6, 7, 8, 9]), (3, .A [5, 6, 7, 8, 9, 10]), (4, .A [5, 6, 7, 8, 9, 10, 33]), (5, .A [5, 6, 7, 8, 9, 10]), (6, .A [5, 6, 7, 8, 9, 10]), (7, .A [6, 7, 8, 9, 11]), (8, .A [6, 7, 8, 9, 11, 41]), (9, .A [6, 7, 8, 9, 11]), (10, .A [6, 7, 8, 9, 11]), (11, .A [6, 7, 8, 9, 11]), (12, .B [6, 8, 9, 12, 14]), (13, .B [6, 9, 12, 14, 15, 17]), (14, .B [6, 12, 14, 15, 17, 18, 20]), (15, .A [6, 12, 14, 15, 17, 18, 20, 21]), (16, .A [4])], [(6, 10), (10, 15)]⟩
def tP : Ty := .pair qe q9
def aDp (F : Md) : aI := mSpec tP (.one .bool) (fun x => cP F x.1 x.2.1)
abbrev aAr (F : Md) : List (FuncId × aI) := [(8, aA8), (9, (oJ F))]
theorem aKM [Mx] (F : Md) : bJ Tryz.prog GL (aAr F) := .cons aP2 xAa (.cons (aEn F) xAa (.nil))
attribute [go_sem] tP aDo
theorem aJg [Mx] (F : Md) : FOK Tryz.prog GL 6 (aDp F) := by
 refine bT (aT (aKM F)) mix Tryz.func6 rfl xAa xAc aDo fun w0 S x Θ hw h hF => ?_
 obtain ⟨(n_0 : Int), (m_1 : Int), u⟩ := x
 simp only [bX, go_sem]
 replace h : sat (cP F n_0 m_1) _ := h
 unfold cP at h
 obtain ⟨g0, h⟩ := aP h
 try simp only [I64, I32] at g0
 repeat (refine ⟨zAA, ?_⟩)
 refine eP hF (D := qd) (fun d => sat (mU F m_1 d) Θ) [6, 8, 9] (fun d => [(7, .val .str d)]) (fun d => []) ?_ ?_
 ·simp only [go_sem]
  refine cG hF (D := qd × Int) [5, 6, 8, 9] (fun d => [(7, .val .str d.1), (10, .val qe d.2)]) (fun d => []) h rfl xAb ?_
  rintro ⟨s_30, i_31⟩ A4 T4 hA4 hE4 h
  simp only [go_sem]
  replace h : sat (qJ F n_0 s_30 i_31) _ := h
  unfold qJ at h
  refine fI h (fun hc h => ?_) fun hc h => ?_
  ·obtain ⟨g0, h⟩ := aP h
   obtain ⟨g1, h⟩ := aP h
   repeat (refine ⟨zAA, ?_⟩)
   obtain ⟨g0, h⟩ := aP h
   try simp only [I64, I32] at g0
   repeat (refine ⟨zAA, ?_⟩)
   replace h := hA4 _ (aE h)
   exact zaK
  ·replace h := yaF (hE4 _ (aE h))
   exact aZ (s_30) h rfl xAb
 ·rintro s_7 h
  simp only [go_sem]
  replace h : sat (mU F m_1 s_7) _ := h
  unfold mU at h
  refine eP hF (D := qd × qd) (fun d => sat (mT F s_7 m_1 d.1 d.2) Θ) [6, 7] (fun d => [(8, .val .str d.1), (9, .val .str d.2)]) (fun d => []) ?_ ?_
  ·simp only [go_sem]
   refine cG hF (D := qd × qd × Int) [6, 7] (fun d => [(8, .val .str d.1), (9, .val .str d.2.1), (11, .val qe d.2.2)]) (fun d => []) h rfl xAb ?_
   rintro ⟨neg_22, sum_23, i_24⟩ A8 T8 hA8 hE8 h
   simp only [go_sem]
   replace h : sat (qI F m_1 neg_22 sum_23 i_24) _ := h
   unfold qI at h
   refine fI h (fun hc h => ?_) fun hc h => ?_
   ·obtain ⟨g0, h⟩ := aP h
    repeat (refine ⟨zAA, ?_⟩)
    obtain ⟨g0, h⟩ := aP h
    repeat (refine ⟨zAA, ?_⟩)
    obtain ⟨g0, h⟩ := aP h
    try simp only [I64, I32] at g0
    repeat (refine ⟨zAA, ?_⟩)
    replace h := hA8 _ (aE h)
    exact zaK
   ·replace h := yaF (hE8 _ (aE h))
    exact aZ (neg_22, sum_23) h rfl xAb
  ·rintro ⟨neg_14, sum_15⟩ h
   simp only [go_sem]
   replace h : sat (mT F s_7 m_1 neg_14 sum_15) _ := h
   unfold mT at h
   obtain ⟨v_17, hv, h⟩ := aN h
   try simp only [hv, go_sem]
   obtain ⟨v_19, hv, h⟩ := aN h
   try simp only [hv, go_sem]
   obtain ⟨v_21, hv, h⟩ := aN h
   try simp only [hv, go_sem]
   obtain ⟨g0, h⟩ := aP h
   try simp only [I64, I32] at g0
   repeat (refine ⟨zAA, ?_⟩)
   obtain ⟨g0, h⟩ := aP h
   obtain ⟨g1, h⟩ := aP h
   try simp only [I64, I32] at g0
   try simp only [I64, I32] at g1
   repeat (refine ⟨by first | with_reducible assumption | omega | (intros; first | with_reducible assumption | omega) | (simp only [go_sem] at *; first | with_reducible assumption | omega) | (intro _; exact ⟨rfl, by decide⟩) | (intro _; refine (?_ : _ = aD _); rfl) | (refine (?_ : _ = aD _); rfl) | exact ⟨rfl, rfl⟩ | (intro q0 q1; (try have e0 := g0 zAF (by first | exact q1 | omega | (simpa using q1))); (try have e1 := g1 zAF (by first | exact q1 | omega | (simpa using q1))); first | assumption | omega) | (rintro ⟨q0, q1⟩; (try have e0 := g0 zAF (by first | exact q1 | omega | (simpa using q1))); (try have e1 := g1 zAF (by first | exact q1 | omega | (simpa using q1))); first | assumption | omega) | decide, ?_⟩)
   exact aK hF [.tmp 4] rfl rfl rfl (aE h) (by (simp only [aS, go_sem]) <;> first | rfl | (simp; done))
attribute [go_sem] aDp
end
end Nu
end Go.Proofs
namespace Go.Proofs
open Go.Vc
set_option maxRecDepth 100000
namespace Nu
def aBK (f : Int → Int → Option Bool) (a n m : Nat) : Bool := (List.range n).all fun i => (List.range m).all fun k => f ((a + i : Nat) : Int) (k : Int) == some true
theorem rF {f : Int → Int → Option Bool} {a n m : Nat} (h : aBK f a n m = true) {i k : Nat} (h1 : a ≤ i) (h2 : i < a + n) (h3 : k < m) : f (i : Int) (k : Int) = some true := by
 have := List.all_eq_true.1 (List.all_eq_true.1 h (i - a) (List.mem_range.2 (by omega))) k (List.mem_range.2 h3)
 rw [show a + (i - a) = i from by omega] at this
 simpa using this
theorem aSC [Mx] : aBK (cP (some 1000)) 0 5 6 = true := by kernel_rfl
theorem aSD [Mx] : aBK (cP (some 1000)) 5 5 6 = true := by kernel_rfl
theorem aRs [Mx] : aBK (cP (some 1000)) 10 5 6 = true := by kernel_rfl
theorem aRt [Mx] : aBK (cP (some 1000)) 15 5 6 = true := by kernel_rfl
theorem aRu [Mx] : aBK (cP (some 1000)) 20 5 6 = true := by kernel_rfl
theorem aRv [Mx] : aBK (cP (some 1000)) 25 5 6 = true := by kernel_rfl
theorem aRw [Mx] : aBK (cP (some 1000)) 30 5 6 = true := by kernel_rfl
theorem aRx [Mx] : aBK (cP (some 1000)) 35 5 6 = true := by kernel_rfl
theorem aRy [Mx] : aBK (cP (some 1000)) 40 5 6 = true := by kernel_rfl
theorem aRz [Mx] : aBK (cP (some 1000)) 45 5 6 = true := by kernel_rfl
theorem aRA [Mx] : aBK (cP (some 1000)) 50 1 6 = true := by kernel_rfl
theorem aPt {x n : Nat} (h : x < n) (hn : n < 18446744073709551616) : (((x : Nat) : Int) % (18446744073709551616 : Int)).toNat % n = x := by
 rw [show (((x : Nat) : Int) % (18446744073709551616 : Int)) = (x : Int) from by omega, Int.toNat_natCast, Nat.mod_eq_of_lt h]
theorem aPu [Mx] (a b : Int) : cP (some 1000) a b = some true := by
 have h1 : (a % 18446744073709551616).toNat % 51 < 51 := Nat.mod_lt _ xAc
 have h2 : (b % 18446744073709551616).toNat % 6 < 6 := Nat.mod_lt _ xAc
 have e : cP (some 1000) a b = cP (some 1000) (((a % 18446744073709551616).toNat % 51 : Nat) : Int) (((b % 18446744073709551616).toNat % 6 : Nat) : Int) := by
  have e1 := aPt h1 xAc
  have e2 := aPt h2 xAc
  generalize ha : (a % 18446744073709551616).toNat % 51 = i at *
  generalize hb : (b % 18446744073709551616).toNat % 6 = k at *
  unfold cP qJ mU qI mT
  simp only [ha, hb, e1, e2]
 rw [e]
 generalize (a % 18446744073709551616).toNat % 51 = i at *
 generalize (b % 18446744073709551616).toNat % 6 = k at *
 by_cases g0 : i < 5
 ·exact rF aSC (by omega) (by omega) h2
 by_cases g5 : i < 10
 ·exact rF aSD (by omega) (by omega) h2
 by_cases g10 : i < 15
 ·exact rF aRs (by omega) (by omega) h2
 by_cases g15 : i < 20
 ·exact rF aRt (by omega) (by omega) h2
 by_cases g20 : i < 25
 ·exact rF aRu (by omega) (by omega) h2
 by_cases g25 : i < 30
 ·exact rF aRv (by omega) (by omega) h2
 by_cases g30 : i < 35
 ·exact rF aRw (by omega) (by omega) h2
 by_cases g35 : i < 40
 ·exact rF aRx (by omega) (by omega) h2
 by_cases g40 : i < 45
 ·exact rF aRy (by omega) (by omega) h2
 by_cases g45 : i < 50
 ·exact rF aRz (by omega) (by omega) h2
 exact rF aRA (by omega) (by omega) h2
end Nu
end Go.Proofs
