import Derived.Test.YtcpnniahnmjnpaaGreatDoorZS2
import Derived.Test.YtcpnniahnmjnpaaGreatDoorZS3
set_option linter.unusedVariables false
set_option linter.unusedSimpArgs false
namespace Go.Proofs
open Go.Vc
set_option maxRecDepth 20000
namespace Nu
noncomputable section
set_option maxHeartbeats 4000000
attribute [-go_sem] Ex.kind Ex.text Ex.l
@[reducible] def aXk (xs : List qd) : Prop := xs.length * 16 ≤ 140737488355328
def tJ : Ty := .pair wg .unit
def lF : aI := ⟨tJ, .own 9 .str, fun x => aXk x.1, fun x => id x.1⟩
attribute [go_sem] lF tJ
abbrev aAE (F : Md) : List (FuncId × aI) := []
theorem aAF [Mx] (F : Md) : bJ Tryz.prog GL (aAE F) := .nil
theorem aFV [Mx] : FOK Tryz.prog GL 73 lF := by
 refine aSR (aU (aAF none)) Tryz.func73 rfl xAa xAc fun w0 S x hw hp => ?_
 have hF : fT (fr Tryz.prog (EM (aAE none)) S w0 Tryz.f73.ntmps) := ⟨aU (aAF none), mix⟩
 obtain ⟨(s : qw), u⟩ := x
 have hp : s.length * 16 ≤ 140737488355328 := hp
 simp only [bX, tJ, lF]
 exact zab
def pU (F : Md) (e_0 : Ex) (names_1 : qw) : Option Bool :=
 (yP F e_0).bind (fun v_6 => ck ((v_6 = true) → ((aCy F 64 e_0 names_1).isSome = true)) (some (v_6 && ((aCy F 64 e_0 names_1).getD false))))
def aET : PlR := ⟨[(0, .B [1, 2]), (1, .A [4])], []⟩
def aGm : Ty := .pair .expr (.pair wg .unit)
def oM (F : Md) : aI := mSpec aGm (.one .bool) (fun x => pU F x.1 x.2.1)
abbrev aBH (F : Md) : List (FuncId × aI) := [(115, (aA4 F 64)), (21, (uX F))]
theorem aNx [Mx] (F : Md) : bJ Tryz.prog GL (aBH F) := .cons (aIs F 64) xAa (.cons (aKo F) xAa (.nil))
attribute [go_sem] aGm aET
theorem aEU [Mx] (F : Md) : FOK Tryz.prog GL 75 (oM F) := by
 refine bT (aU (aNx F)) mix Tryz.func75 rfl xAa xAc aET fun w0 S x Θ hw h hF => ?_
 obtain ⟨(e_0 : Ex), (names_1 : qw), u⟩ := x
 simp only [bX, go_sem]
 replace h : sat (pU F e_0 names_1) _ := h
 unfold pU at h
 obtain ⟨v_6, hv, h⟩ := aO h
 try simp only [hv, go_sem]
 refine bD h fun g0 h => ?_
 exact zaD
attribute [go_sem] oM
def vG (F : Md) (a_0 : qz) (a1_1 : qw) : Option Bool :=
 (pU F a_0.2.1 a1_1).bind (fun v_6 => some (!v_6))
def aDZ : PlR := ⟨[(0, .B [1, 2]), (1, .A [3])], []⟩
def aEV : Ty := .pair qr wz
def tP (F : Md) : aI := mSpec aEV (.one .bool) (fun x => vG F x.1 x.2.1)
abbrev aEW (F : Md) : List (FuncId × aI) := [(75, (oM F))]
theorem aLR [Mx] (F : Md) : bJ Tryz.prog GL (aEW F) := .cons (aEU F) xAa (.nil)
attribute [go_sem] aEV aDZ
theorem aKA [Mx] (F : Md) : FOK Tryz.prog GL 77 (tP F) := by
 refine bT (aU (aLR F)) mix Tryz.func77 rfl xAa xAc aDZ fun w0 S x Θ hw h hF => ?_
 obtain ⟨(a_0 : qz), (a1_1 : qw), u⟩ := x
 simp only [bX, go_sem]
 replace h : sat (vG F a_0 a1_1) _ := h
 unfold vG at h
 obtain ⟨v_6, hv, h⟩ := aO h
 try simp only [hv, go_sem]
 exact aK hF [.tmp 3] rfl rfl rfl (aE h) xAd
attribute [go_sem] tP
def eO (F : Md) (s_0 : wu) (f_1 : ws) (x8_14 : Int) : Option ((Int) ⊕ ((Unit) ⊕ Int)) :=
 if x8_14 < (s_0.length : Int) then ck (0 ≤ x8_14 ∧ x8_14 < (s_0.length : Int)) ((vG F (s_0.getD (x8_14.toNat) ([], (Ex.mk 0 [] []), ())) f_1.1).bind (fun v_27 => if v_27 = true then some (.inr (.inr x8_14)) else ck (I64 (x8_14 + (1 : Int))) (some (.inl (x8_14 + (1 : Int)))))) else some (.inr (.inl ()))
def dL (F : Md) (s_0 : wu) (f_1 : ws) : Option Int :=
 (eH F (fun d : Int => eO F s_0 f_1 d) (0 : Int)).bind (fun e => match e with | (.inl e) => some (-1 : Int) | (.inr e) => some e)
def iO : PlR := ⟨[(0, .A [0, 1]), (1, .A [0, 1, 7, 8]), (2, .A [0, 1, 7, 8, 9]), (3, .A [0, 1, 5, 7, 8]), (4, .A [0, 1, 5, 7, 8, 16]), (5, .A [4]), (6, .A [0, 1, 7, 8]), (7, .A [4])], []⟩
def iU : Ty := .pair (.sl qr) (.pair (.clo 77 wz) .unit)
def dF (F : Md) : aI := mSpec iU (.one qe) (fun x => dL F x.1 x.2.1)
abbrev iV (F : Md) : List (FuncId × aI) := [(77, (tP F))]
theorem pI [Mx] (F : Md) : bJ Tryz.prog GL (iV F) := .cons (aKA F) xAa (.nil)
attribute [go_sem] iU iO
theorem oX [Mx] (F : Md) : FOK Tryz.prog GL 116 (dF F) := by
 refine bT (aU (pI F)) mix Tryz.func116 rfl xAa xAc iO fun w0 S x Θ hw h hF => ?_
 obtain ⟨(s_0 : wu), (f_1 : ws), u⟩ := x
 simp only [bX, go_sem]
 replace h : sat (dL F s_0 f_1) _ := h
 unfold dL at h
 refine cI hF (D := Int) [0, 1, 7] (fun d => [(8, .val qe d)]) (fun d => []) h rfl xAb ?_
 rintro x8_14 A2 T2 hA2 hE2 h
 simp only [go_sem]
 replace h : sat (eO F s_0 f_1 x8_14) _ := h
 unfold eO at h
 exact zaP
attribute [go_sem] dF
def cK (F : Md) (s_0 : wu) (f_1 : ws) : Option Bool :=
 (dL F s_0 f_1).bind (fun v_8 => some (decide ((0 : Int) ≤ v_8)))
def gQ : PlR := ⟨[(0, .A [0, 1]), (1, .A [4])], []⟩
def hD : Ty := .pair (.sl qr) (.pair (.clo 77 wz) .unit)
def cX (F : Md) : aI := mSpec hD (.one .bool) (fun x => cK F x.1 x.2.1)
abbrev hN (F : Md) : List (FuncId × aI) := [(116, (dF F))]
theorem oC [Mx] (F : Md) : bJ Tryz.prog GL (hN F) := .cons (oX F) xAa (.nil)
attribute [go_sem] hD gQ
theorem nN [Mx] (F : Md) : FOK Tryz.prog GL 76 (cX F) := by
 refine bT (aU (oC F)) mix Tryz.func76 rfl xAa xAc gQ fun w0 S x Θ hw h hF => ?_
 obtain ⟨(s_0 : wu), (f_1 : ws), u⟩ := x
 simp only [bX, go_sem]
 replace h : sat (cK F s_0 f_1) _ := h
 unfold cK at h
 obtain ⟨v_8, hv, h⟩ := aO h
 exact zaR
attribute [go_sem] cX
def aDj (F : Md) (s_0 : qc) (x93_11 : Int) : Option ((Int) ⊕ ((Unit) ⊕ Bool)) :=
 if x93_11 < (s_0.2.2.1.length : Int) then ck (0 ≤ x93_11 ∧ x93_11 < (s_0.2.2.1.length : Int)) (ck ((mT F (s_0.2.2.1.getD (x93_11.toNat) ([], ([], [], ()), ())).2.1).isSome = true) (if ¬ (((mT F (s_0.2.2.1.getD (x93_11.toNat) ([], ([], [], ()), ())).2.1).getD false) = true) then some (.inr (.inr false)) else ck (I64 (x93_11 + (1 : Int))) (some (.inl (x93_11 + (1 : Int)))))) else some (.inr (.inl ()))
def aAf (F : Md) (s_0 : qc) : Option (Bool) :=
 (eH F (fun d : Int => aDj F s_0 d) (0 : Int)).bind (fun e => match e with | (.inl e) => ck ((cK F s_0.2.2.2.2.1 (((cE F ([((bH F s_0).getD (([] : List qd), ([] : List qd), ([] : List qd), ())).1, ((bH F s_0).getD (([] : List qd), ([] : List qd), ([] : List qd), ())).2.1, ((bH F s_0).getD (([] : List qd), ([] : List qd), ([] : List qd), ())).2.2.1] : List qw)).getD ([] : List qd)), ())).isSome = true) (some (!((cK F s_0.2.2.2.2.1 (((cE F ([((bH F s_0).getD (([] : List qd), ([] : List qd), ([] : List qd), ())).1, ((bH F s_0).getD (([] : List qd), ([] : List qd), ([] : List qd), ())).2.1, ((bH F s_0).getD (([] : List qd), ([] : List qd), ([] : List qd), ())).2.2.1] : List qw)).getD ([] : List qd)), ())).getD false))) | (.inr e) => some e)
def aDk (F : Md) (s_0 : qc) (x74_14 : Int) : Option ((Int) ⊕ ((Unit) ⊕ Bool)) :=
 if x74_14 < (s_0.2.1.length : Int) then ck (0 ≤ x74_14 ∧ x74_14 < (s_0.2.1.length : Int)) (ck ((mT F (s_0.2.1.getD (x74_14.toNat) ([], ([], [], ()), (Ex.mk 0 [] []), ())).2.1).isSome = true) (ck (¬ (¬ (((mT F (s_0.2.1.getD (x74_14.toNat) ([], ([], [], ()), (Ex.mk 0 [] []), ())).2.1).getD false) = true)) → ((pU F (s_0.2.1.getD (x74_14.toNat) ([], ([], [], ()), (Ex.mk 0 [] []), ())).2.2.1 ((cE F ([((bH F s_0).getD (([] : List qd), ([] : List qd), ([] : List qd), ())).1, ((bH F s_0).getD (([] : List qd), ([] : List qd), ([] : List qd), ())).2.1, ((bH F s_0).getD (([] : List qd), ([] : List qd), ([] : List qd), ())).2.2.1] : List qw)).getD ([] : List qd))).isSome = true)) (if (¬ (((mT F (s_0.2.1.getD (x74_14.toNat) ([], ([], [], ()), (Ex.mk 0 [] []), ())).2.1).getD false) = true)) ∨ (¬ (((pU F (s_0.2.1.getD (x74_14.toNat) ([], ([], [], ()), (Ex.mk 0 [] []), ())).2.2.1 ((cE F ([((bH F s_0).getD (([] : List qd), ([] : List qd), ([] : List qd), ())).1, ((bH F s_0).getD (([] : List qd), ([] : List qd), ([] : List qd), ())).2.1, ((bH F s_0).getD (([] : List qd), ([] : List qd), ([] : List qd), ())).2.2.1] : List qw)).getD ([] : List qd))).getD false) = true)) then some (.inr (.inr false)) else ck (I64 (x74_14 + (1 : Int))) (some (.inl (x74_14 + (1 : Int))))))) else some (.inr (.inl ()))
def aAg (F : Md) (s_0 : qc) (all_6 : qw) : Option (Bool) :=
 ck ((tB F all_6).isSome = true) (if ¬ (((tB F all_6).getD false) = true) then some false else (eH F (fun d : Int => aDk F s_0 d) (0 : Int)).bind (fun e => match e with | (.inl e) => aAf F s_0 | (.inr e) => some e))
def aD0 (F : Md) (s_0 : qc) (x58_17 : Int) (all_18 : qw) : Option ((Int × qw) ⊕ qw) :=
 if x58_17 < (s_0.2.2.2.2.1.length : Int) then ck (0 ≤ x58_17 ∧ x58_17 < (s_0.2.2.2.2.1.length : Int)) (ck (((all_18.length) + (1 : Nat)) * 16 ≤ 140737488355328) (ck (I64 (x58_17 + (1 : Int))) (some (.inl ((x58_17 + (1 : Int)), (all_18 ++ ([(s_0.2.2.2.2.1.getD (x58_17.toNat) ([], (Ex.mk 0 [] []), ())).1] : List qd))))))) else some (.inr all_18)
def aAh (F : Md) (s_0 : qc) : Option Bool :=
 if (((((s_0.2.1.length : Int) < (1 : Int)) ∨ ((6 : Int) < (s_0.2.1.length : Int))) ∨ ((6 : Int) < (s_0.2.2.1.length : Int))) ∨ ((4 : Int) < (s_0.2.2.2.1.length : Int))) ∨ ((4 : Int) < (s_0.2.2.2.2.1.length : Int)) then some false else ck ((bH F s_0).isSome = true) (ck ((cE F ([((bH F s_0).getD (([] : List qd), ([] : List qd), ([] : List qd), ())).1, ((bH F s_0).getD (([] : List qd), ([] : List qd), ([] : List qd), ())).2.1, ((bH F s_0).getD (([] : List qd), ([] : List qd), ([] : List qd), ())).2.2.1] : List qw)).isSome = true) (ck (aXk ((cE F ([((bH F s_0).getD (([] : List qd), ([] : List qd), ([] : List qd), ())).1, ((bH F s_0).getD (([] : List qd), ([] : List qd), ([] : List qd), ())).2.1, ((bH F s_0).getD (([] : List qd), ([] : List qd), ([] : List qd), ())).2.2.1] : List qw)).getD ([] : List qd))) ((eH F (fun d : Int × qw => aD0 F s_0 d.1 d.2) ((0 : Int), (id ((cE F ([((bH F s_0).getD (([] : List qd), ([] : List qd), ([] : List qd), ())).1, ((bH F s_0).getD (([] : List qd), ([] : List qd), ([] : List qd), ())).2.1, ((bH F s_0).getD (([] : List qd), ([] : List qd), ([] : List qd), ())).2.2.1] : List qw)).getD ([] : List qd))))).bind (fun e => aAg F s_0 e))))
@[go_sem]def aAi : Ty := .pair qa .unit
def xM (F : Md) : aI := mSpec aAi (.one .bool) (fun x => aAh F x.1)
abbrev lG (F : Md) : List (FuncId × aI) := [(76, (cX F)), (37, (rD F)), (71, (zW F)), (72, (nE F)), (73, lF), (74, (xK F)), (75, (oM F))]
theorem aHD [Mx] (F : Md) : bJ Tryz.prog GL (lG F) := .cons (nN F) xAa (.cons (aHn F) xAa (.cons (aPk F) xAa (.cons (aEN F) xAa (.cons aFV xAa (.cons (aNt F) xAa (.cons (aEU F) xAa (.nil)))))))
theorem aNy [Mx] (F : Md) : FOK Tryz.prog GL 36 (xM F) := by
 refine sU (aU (aHD F)) Tryz.func36 rfl xAa xAc fun w0 S x r hw h => ?_
 have hF : fT (fr Tryz.prog (EM (lG F)) S w0 Tryz.f36.ntmps) := ⟨aU (aHD F), mix⟩
 obtain ⟨(s_0 : qc), u⟩ := x
 simp only [aAi, Ty.wf, fF] at hw
 simp only [bX, aAi]
 try dsimp only at h
 replace h : aAh F s_0 = some r := h
 unfold aAh at h
 refine aB (aS hF [1] (yaA ?_))
 refine aA (aB (aB (aF hF [1, 41] (yaA ?_))))
 refine aA (bG rfl (fun hc => ?_) (fun hc => ?_))
 ·try simp only [go_sem] at hc
  have h := eB zAB h
  refine aB (aF hF [2] (yaA ?_))
  obtain rfl := Option.some.inj h
  refine aA (cD (cR (jH hF [.tmp 2] rfl rfl rfl ?_)))
  exact zAG
 ·try simp only [go_sem] at hc
  have h := eC zAB h
  refine cH (aA (aB (aF hF [1, 3, 4, 5] (yaA ?_))))
  obtain ⟨g0, h⟩ := aR h
  repeat (refine ⟨zAA, ?_⟩)
  refine aA (aB (aS hF [1, 6] (yaA ?_)))
  obtain ⟨g0, h⟩ := aR h
  repeat (refine ⟨zAA, ?_⟩)
  refine aA (aB (aS hF [1, 6, 7] (yaA ?_)))
  obtain ⟨g0, h⟩ := aR h
  repeat (refine ⟨zAA, ?_⟩)
  refine aA (qV (D := qw) (fun d => aAg F s_0 d = some r) [] (fun d => [(1, .ptr 0 []), (6, .ptr 1 []), (7, .own 2)]) (fun d => [.inr (.box 5 (.val qa s_0)), .inr (.box 1 (.val wg ((cE F ([((bH F s_0).getD (([] : List qd), ([] : List qd), ([] : List qd), ())).1, ((bH F s_0).getD (([] : List qd), ([] : List qd), ([] : List qd), ())).2.1, ((bH F s_0).getD (([] : List qd), ([] : List qd), ([] : List qd), ())).2.2.1] : List qw)).getD ([] : List qd)))), .inr (.row 9 .str d)]) ?_ ?_)
  ·refine aB (aF hF [1, 6, 7, 56, 57, 58] (yaA ?_))
   refine aA (eA (pQ (D := Int × qw) [56, 57] (fun d => [(1, .ptr 0 []), (6, .ptr 1 []), (7, .own 2), (58, .val qe d.1)]) (fun d => [.inr (.box 5 (.val qa s_0)), .inr (.box 1 (.val wg ((cE F ([((bH F s_0).getD (([] : List qd), ([] : List qd), ([] : List qd), ())).1, ((bH F s_0).getD (([] : List qd), ([] : List qd), ([] : List qd), ())).2.1, ((bH F s_0).getD (([] : List qd), ([] : List qd), ([] : List qd), ())).2.2.1] : List qw)).getD ([] : List qd)))), .inr (.row 9 .str d.2)]) h ?_ ?_ ?_))
   ·first | rfl | (simp only [go_sem]; done)
   ·exact zAF
   rintro ⟨x58_17, all_18⟩ s7 h hs7
   simp only [go_sem]
   try dsimp only at h
   unfold aD0 at h
   refine aB (aF hF [1, 6, 7, 56, 57, 58, 59] (yaA ?_))
   refine aA (aB (bG rfl (fun hc => ?_) (fun hc => ?_)))
   ·try simp only [go_sem] at hc
    have h := eB zAB h
    refine cH (aA (aB (eA (aB (aS hF [1, 6, 7, 9, 56, 57, 58] (yaA ?_))))))
    obtain ⟨g0, h⟩ := aR h
    repeat (refine ⟨zAA, ?_⟩)
    refine aA (aS hF [1, 6, 7, 56, 57, 58] (yaA ?_))
    obtain ⟨g0, h⟩ := aR h
    repeat (refine ⟨zAA, ?_⟩)
    refine bB (aA (aF hF [1, 6, 7, 56, 57, 58] (yaA ?_)))
    obtain ⟨g0, h⟩ := aR h
    try simp only [I64, I32] at g0
    repeat (refine ⟨zAA, ?_⟩)
    obtain rfl := Option.some.inj h
    dsimp only [mZ] at hs7
    refine bY (gT [0, 1, 4] rfl rfl (yaC ?_))
    refine aY ((x58_17 + (1 : Int)), (all_18 ++ ([(s_0.2.2.2.2.1.getD (x58_17.toNat) ([], (Ex.mk 0 [] []), ())).1] : List qd))) hs7 rfl ?_
    ·exact zAF
   ·try simp only [go_sem] at hc
    have h := eC zAB h
    obtain rfl := Option.some.inj h
    dsimp only [mZ] at hs7
    have h := yaF (hs7)
    refine sI (dX (dX (gL (bY (aY (all_18) h rfl ?_)))))
    ·exact zAF
  ·rintro all_6 h
   try dsimp only at h
   simp only [go_sem]
   unfold aAg at h
   refine aB (aB (aF hF [1, 6, 70] (yaA ?_)))
   obtain ⟨g0, h⟩ := aR h
   repeat (refine ⟨zAA, ?_⟩)
   refine aA (bG rfl (fun hc => ?_) (fun hc => ?_))
   ·try simp only [go_sem] at hc
    have h := eB zAB h
    refine aB (aF hF [2] (yaA ?_))
    obtain rfl := Option.some.inj h
    refine aA (cD (cR (jH hF [.tmp 2] rfl rfl rfl ?_)))
    exact zAG
   ·try simp only [go_sem] at hc
    have h := eC zAB h
    refine cH (aA (qV (D := Unit) (fun d => aAf F s_0 = some r) [] (fun d => [(1, .ptr 0 []), (6, .ptr 1 [])]) (fun d => [.inr (.box 5 (.val qa s_0)), .inr (.box 1 (.val wg ((cE F ([((bH F s_0).getD (([] : List qd), ([] : List qd), ([] : List qd), ())).1, ((bH F s_0).getD (([] : List qd), ([] : List qd), ([] : List qd), ())).2.1, ((bH F s_0).getD (([] : List qd), ([] : List qd), ([] : List qd), ())).2.2.1] : List qw)).getD ([] : List qd))))]) ?_ ?_))
    ·refine aB (aF hF [1, 6, 72, 73, 74] (yaA ?_))
     refine aA (eA (aJK [0, 1] rfl rfl (yaC ?_)))
     refine pQ (D := Int) [72, 73] (fun d => [(1, .ptr 0 []), (6, .ptr 1 []), (74, .val qe d)]) (fun d => [.inr (.box 5 (.val qa s_0)), .inr (.box 1 (.val wg ((cE F ([((bH F s_0).getD (([] : List qd), ([] : List qd), ([] : List qd), ())).1, ((bH F s_0).getD (([] : List qd), ([] : List qd), ([] : List qd), ())).2.1, ((bH F s_0).getD (([] : List qd), ([] : List qd), ([] : List qd), ())).2.2.1] : List qw)).getD ([] : List qd))))]) h ?_ ?_ ?_
     ·first | rfl | (simp only [go_sem]; done)
     ·exact zAF
     rintro x74_14 s14 h hs14
     simp only [go_sem]
     try dsimp only at h
     unfold aDk at h
     refine aB (aF hF [1, 6, 72, 73, 74, 75] (yaA ?_))
     refine aA (aB (bG rfl (fun hc => ?_) (fun hc => ?_)))
     ·try simp only [go_sem] at hc
      have h := eB zAB h
      refine cH (aA (aB (eA (aB (aS hF [1, 6, 11, 72, 73, 74] (yaA ?_))))))
      obtain ⟨g0, h⟩ := aR h
      repeat (refine ⟨zAA, ?_⟩)
      refine aA (aB (aF hF [1, 6, 72, 73, 74, 88] (yaA ?_)))
      obtain ⟨g0, h⟩ := aR h
      obtain ⟨g1, h⟩ := aR h
      repeat (refine ⟨by first | with_reducible assumption | omega | (intros; first | with_reducible assumption | omega) | (simp only [go_sem] at *; first | with_reducible assumption | omega) | (intro _; exact ⟨rfl, by decide⟩) | (intro _; refine (?_ : _ = aD _); rfl) | (refine (?_ : _ = aD _); rfl) | exact ⟨rfl, rfl⟩ | (intro q0; (try have e1 := g1 (by first | exact q0 | omega | (simpa using q0))); first | assumption | omega) | decide, ?_⟩)
      refine aA (bG rfl (fun hc => ?_) (fun hc => ?_))
      ·try simp only [go_sem] at hc
       have h := eB zAB h
       refine aB (aF hF [2] (yaA ?_))
       obtain rfl := Option.some.inj h
       dsimp only [mZ] at hs14
       have h := yaF (hs14)
       obtain rfl := Option.some.inj h
       refine aA (cD (gE (cR (cR (gE (cR (jH hF [.tmp 2] rfl rfl rfl ?_)))))))
       exact zAG
      ·try simp only [go_sem] at hc
       have h := eC zAB h
       refine cH (bB (aA (aF hF [1, 6, 72, 73, 74] (yaA ?_))))
       obtain ⟨g0, h⟩ := aR h
       try simp only [I64, I32] at g0
       repeat (refine ⟨zAA, ?_⟩)
       obtain rfl := Option.some.inj h
       dsimp only [mZ] at hs14
       refine bY (gT [0, 1] rfl rfl (yaC ?_))
       refine aY (x74_14 + (1 : Int)) hs14 rfl ?_
       ·exact zAF
     ·try simp only [go_sem] at hc
      have h := eC zAB h
      obtain rfl := Option.some.inj h
      dsimp only [mZ] at hs14
      have h := yaF (hs14)
      refine sI (dX (dX (gL (bY (aY () h rfl ?_)))))
      ·exact zAF
    ·rintro u h
     try dsimp only at h
     simp only [go_sem]
     unfold aAf at h
     refine aB (aB (aF hF [1, 6, 91, 92, 93] (yaA ?_)))
     refine aA (eA (pQ (D := Int) [91, 92] (fun d => [(1, .ptr 0 []), (6, .ptr 1 []), (93, .val qe d)]) (fun d => [.inr (.box 5 (.val qa s_0)), .inr (.box 1 (.val wg ((cE F ([((bH F s_0).getD (([] : List qd), ([] : List qd), ([] : List qd), ())).1, ((bH F s_0).getD (([] : List qd), ([] : List qd), ([] : List qd), ())).2.1, ((bH F s_0).getD (([] : List qd), ([] : List qd), ([] : List qd), ())).2.2.1] : List qw)).getD ([] : List qd))))]) h ?_ ?_ ?_))
     ·first | rfl | (simp only [go_sem]; done)
     ·exact zAF
     rintro x93_11 s20 h hs20
     simp only [go_sem]
     try dsimp only at h
     unfold aDj at h
     refine aB (aF hF [1, 6, 91, 92, 93, 94] (yaA ?_))
     refine aA (aB (bG rfl (fun hc => ?_) (fun hc => ?_)))
     ·try simp only [go_sem] at hc
      have h := eB zAB h
      refine cH (aA (aB (eA (aB (aS hF [1, 6, 13, 91, 92, 93] (yaA ?_))))))
      obtain ⟨g0, h⟩ := aR h
      repeat (refine ⟨zAA, ?_⟩)
      refine aA (aB (aF hF [1, 6, 91, 92, 93, 100] (yaA ?_)))
      obtain ⟨g0, h⟩ := aR h
      repeat (refine ⟨zAA, ?_⟩)
      refine aA (bG rfl (fun hc => ?_) (fun hc => ?_))
      ·try simp only [go_sem] at hc
       have h := eB zAB h
       refine aB (aF hF [2] (yaA ?_))
       obtain rfl := Option.some.inj h
       dsimp only [mZ] at hs20
       have h := yaF (hs20)
       obtain rfl := Option.some.inj h
       refine aA (cD (gE (cR (cR (gE (cR (jH hF [.tmp 2] rfl rfl rfl ?_)))))))
       exact zAG
      ·try simp only [go_sem] at hc
       have h := eC zAB h
       refine cH (bB (aA (aF hF [1, 6, 91, 92, 93] (yaA ?_))))
       obtain ⟨g0, h⟩ := aR h
       try simp only [I64, I32] at g0
       repeat (refine ⟨zAA, ?_⟩)
       obtain rfl := Option.some.inj h
       dsimp only [mZ] at hs20
       refine bY (gT [0, 1] rfl rfl (yaC ?_))
       refine aY (x93_11 + (1 : Int)) hs20 rfl ?_
       ·exact zAF
     ·try simp only [go_sem] at hc
      have h := eC zAB h
      obtain rfl := Option.some.inj h
      dsimp only [mZ] at hs20
      have h := yaF (hs20)
      refine sI (dX (dX (gL (aA (aB (aBh 1 rfl (yaA ?_)))))))
      refine aF hF [2] (yaA ?_)
      obtain ⟨g0, h⟩ := aR h
      repeat (refine ⟨zAA, ?_⟩)
      exact za4
attribute [go_sem] xM
def aBI (F : Md) (s_0 : qf) (sub_1 : qd) (x10_5 : Int) : Option ((Int) ⊕ ((Unit) ⊕ Int)) :=
 if x10_5 < (s_0.2.2.2.2.2.2.2.2.1.length : Int) then ck (0 ≤ x10_5 ∧ x10_5 < (s_0.2.2.2.2.2.2.2.2.1.length : Int)) (if (s_0.2.2.2.2.2.2.2.2.1.getD (x10_5.toNat) ([], [], [], [], [], ())).1 = sub_1 then some (.inr (.inr x10_5)) else ck (I64 (x10_5 + (1 : Int))) (some (.inl (x10_5 + (1 : Int))))) else some (.inr (.inl ()))
def aCE (F : Md) (s_0 : qf) (sub_1 : qd) : Option Int :=
 (eH F (fun d : Int => aBI F s_0 sub_1 d) (0 : Int)).bind (fun e => match e with | (.inl e) => some (-1 : Int) | (.inr e) => some e)
def aIB : PlR := ⟨[(0, .B [1, 2]), (1, .A [1, 8, 9, 10]), (2, .A [1, 8, 9, 10, 11]), (3, .B [1, 5, 6, 8, 9, 10]), (4, .A [1, 5, 8, 9, 10, 18]), (5, .A [4]), (6, .A [1, 8, 9, 10]), (7, .A [4])], []⟩
def aKI : Ty := .pair qj wh
def aA5 (F : Md) : aI := mSpec aKI (.one qe) (fun x => aCE F x.1 x.2.1)
abbrev aRq (F : Md) : List (FuncId × aI) := []
theorem aRr [Mx] (F : Md) : bJ Tryz.prog GL (aRq F) := .nil
attribute [go_sem] aKI aIB
theorem aPZ [Mx] (F : Md) : FOK Tryz.prog GL 79 (aA5 F) := by
 refine bT (aU (aRr F)) mix Tryz.func79 rfl xAa xAc aIB fun w0 S x Θ hw h hF => ?_
 obtain ⟨(s_0 : qf), (sub_1 : qd), u⟩ := x
 simp only [bX, go_sem]
 replace h : sat (aCE F s_0 sub_1) _ := h
 unfold aCE at h
 refine aJK [] rfl rfl (yaA ?_)
 refine cI hF (D := Int) [1, 8, 9] (fun d => [(10, .val qe d)]) (fun d => []) h rfl xAb ?_
 rintro x10_5 A2 T2 hA2 hE2 h
 simp only [go_sem]
 replace h : sat (aBI F s_0 sub_1 x10_5) _ := h
 unfold aBI at h
 refine fO h (fun hc h => ?_) fun hc h => ?_
 ·refine bD h fun g0 h => ?_
  refine fC h (fun hc h => ?_) fun hc h => ?_
  ·replace h := yaF (hE2 _ (aE h))
   exact zaD
  ·refine bD h fun g0 h => ?_
   replace h := hA2 _ (aE h)
   refine gT [] rfl rfl (yaA ?_)
   exact zaK
 ·replace h := yaF (hE2 _ (aE h))
  exact zaD
attribute [go_sem] aA5
def vH (F : Md) (o_0 : qz) (a1_1 : wd) : Option Bool :=
 ck ((0 : Int) < (a1_1.length : Int)) (some (decide (o_0.1 = (a1_1.getD (0 : Nat) ([], [], [], [], ())).2.2.2.1)))
def aD1 : PlR := ⟨[(0, .B [1, 2]), (1, .A [3])], []⟩
def aEX : Ty := .pair qr (.pair (.rp (.sl qs)) .unit)
def tQ (F : Md) : aI := mSpec aEX (.one .bool) (fun x => vH F x.1 x.2.1)
abbrev aLS (F : Md) : List (FuncId × aI) := []
theorem aLT [Mx] (F : Md) : bJ Tryz.prog GL (aLS F) := .nil
attribute [go_sem] aEX aD1
theorem aKJ [Mx] (F : Md) : FOK Tryz.prog GL 80 (tQ F) := by
 refine bT (aU (aLT F)) mix Tryz.func80 rfl xAa xAc aD1 fun w0 S x Θ hw h hF => ?_
 obtain ⟨(o_0 : qz), (a1_1 : wd), u⟩ := x
 simp only [bX, go_sem]
 replace h : sat (vH F o_0 a1_1) _ := h
 unfold vH at h
 refine bD h fun g0 h => ?_
 exact aK hF [.tmp 3] rfl rfl rfl (aE h) xAd
attribute [go_sem] tQ
def eP (F : Md) (s_0 : wu) (f_1 : (wd × Unit)) (x8_14 : Int) : Option ((Int) ⊕ ((Unit) ⊕ Int)) :=
 if x8_14 < (s_0.length : Int) then ck (0 ≤ x8_14 ∧ x8_14 < (s_0.length : Int)) ((vH F (s_0.getD (x8_14.toNat) ([], (Ex.mk 0 [] []), ())) f_1.1).bind (fun v_27 => if v_27 = true then some (.inr (.inr x8_14)) else ck (I64 (x8_14 + (1 : Int))) (some (.inl (x8_14 + (1 : Int)))))) else some (.inr (.inl ()))
def dM (F : Md) (s_0 : wu) (f_1 : (wd × Unit)) : Option Int :=
 (eH F (fun d : Int => eP F s_0 f_1 d) (0 : Int)).bind (fun e => match e with | (.inl e) => some (-1 : Int) | (.inr e) => some e)
def iP : PlR := ⟨[(0, .A [0, 1]), (1, .A [0, 1, 7, 8]), (2, .A [0, 1, 7, 8, 9]), (3, .A [0, 1, 5, 7, 8]), (4, .A [0, 1, 5, 7, 8, 16]), (5, .A [4]), (6, .A [0, 1, 7, 8]), (7, .A [4])], []⟩
def iW : Ty := .pair (.sl qr) (.pair (.clo 80 (.pair (.rp (.sl qs)) .unit)) .unit)
def dG (F : Md) : aI := mSpec iW (.one qe) (fun x => dM F x.1 x.2.1)
abbrev iX (F : Md) : List (FuncId × aI) := [(80, (tQ F))]
theorem pJ [Mx] (F : Md) : bJ Tryz.prog GL (iX F) := .cons (aKJ F) xAa (.nil)
attribute [go_sem] iW iP
theorem oY [Mx] (F : Md) : FOK Tryz.prog GL 116 (dG F) := by
 refine bT (aU (pJ F)) mix Tryz.func116 rfl xAa xAc iP fun w0 S x Θ hw h hF => ?_
 obtain ⟨(s_0 : wu), (f_1 : (wd × Unit)), u⟩ := x
 simp only [bX, go_sem]
 replace h : sat (dM F s_0 f_1) _ := h
 unfold dM at h
 refine cI hF (D := Int) [0, 1, 7] (fun d => [(8, .val qe d)]) (fun d => []) h rfl xAb ?_
 rintro x8_14 A2 T2 hA2 hE2 h
 simp only [go_sem]
 replace h : sat (eP F s_0 f_1 x8_14) _ := h
 unfold eP at h
 exact zaP
attribute [go_sem] dG
def cL (F : Md) (s_0 : wu) (f_1 : (wd × Unit)) : Option Bool :=
 (dM F s_0 f_1).bind (fun v_8 => some (decide ((0 : Int) ≤ v_8)))
def gR : PlR := ⟨[(0, .A [0, 1]), (1, .A [4])], []⟩
def hO : Ty := .pair (.sl qr) (.pair (.clo 80 (.pair (.rp (.sl qs)) .unit)) .unit)
def cY (F : Md) : aI := mSpec hO (.one .bool) (fun x => cL F x.1 x.2.1)
abbrev hP (F : Md) : List (FuncId × aI) := [(116, (dG F))]
theorem oE [Mx] (F : Md) : bJ Tryz.prog GL (hP F) := .cons (oY F) xAa (.nil)
attribute [go_sem] hO gR
theorem nO [Mx] (F : Md) : FOK Tryz.prog GL 76 (cY F) := by
 refine bT (aU (oE F)) mix Tryz.func76 rfl xAa xAc gR fun w0 S x Θ hw h hF => ?_
 obtain ⟨(s_0 : wu), (f_1 : (wd × Unit)), u⟩ := x
 simp only [bX, go_sem]
 replace h : sat (cL F s_0 f_1) _ := h
 unfold cL at h
 obtain ⟨v_8, hv, h⟩ := aO h
 exact zaR
attribute [go_sem] cY
def aAj (F : Md) (s_0 : qf) (x14_42 : Int) (x21_83 : Int) (l_84 : wd) : Option ((Int × wd) ⊕ (wd ⊕ Bool)) :=
 if x21_83 < (((s_0.2.2.2.2.2.2.2.2.1.getD (x14_42.toNat) ([], [], [], [], [], ())).2.2.2.1.length : Nat) : Int) then ck (0 ≤ x21_83 ∧ x21_83 < (((s_0.2.2.2.2.2.2.2.2.1.getD (x14_42.toNat) ([], [], [], [], [], ())).2.2.2.1.length : Nat) : Int)) (ck (¬ ((l_84.length : Int) = (0 : Int)) → ((0 : Int) < (l_84.length : Int))) (ck (¬ (((l_84.length : Int) = (0 : Int)) ∨ (¬ ((l_84.getD (0 : Nat) ([], [], [], [], ())).1 = (s_0.2.2.2.2.2.2.2.2.1.getD (x14_42.toNat) ([], [], [], [], [], ())).1))) → ((0 : Int) < (l_84.length : Int))) (if (((l_84.length : Int) = (0 : Int)) ∨ (¬ ((l_84.getD (0 : Nat) ([], [], [], [], ())).1 = (s_0.2.2.2.2.2.2.2.2.1.getD (x14_42.toNat) ([], [], [], [], [], ())).1))) ∨ (¬ ((l_84.getD (0 : Nat) ([], [], [], [], ())).2.1 = ((s_0.2.2.2.2.2.2.2.2.1.getD (x14_42.toNat) ([], [], [], [], [], ())).2.2.2.1.getD (x21_83.toNat) ([] : List Nat)))) then some (.inr (.inr false)) else ck ((0 : Int) < (l_84.length : Int)) ((aCE F s_0 (l_84.getD (0 : Nat) ([], [], [], [], ())).2.2.1).bind (fun v_99 => ck (¬ (v_99 < (0 : Int)) → (0 ≤ v_99 ∧ v_99 < (s_0.2.2.2.2.2.2.2.2.1.length : Int))) (ck (¬ (v_99 < (0 : Int)) → ((cL F (s_0.2.2.2.2.2.2.2.2.1.getD (v_99.toNat) ([], [], [], [], [], ())).2.2.2.2.1 (l_84, ())).isSome = true)) (if (v_99 < (0 : Int)) ∨ (¬ (((cL F (s_0.2.2.2.2.2.2.2.2.1.getD (v_99.toNat) ([], [], [], [], [], ())).2.2.2.2.1 (l_84, ())).getD false) = true)) then some (.inr (.inr false)) else ck ((1 : Int) ≤ (l_84.length : Int)) (ck (I64 (x21_83 + (1 : Int))) (some (.inl ((x21_83 + (1 : Int)), (List.drop (1 : Nat) l_84)))))))))))) else some (.inr (.inl l_84))
def aAk (F : Md) (s_0 : qf) (x14_42 : Int) (l_43 : wd) : Option ((Int × wd) ⊕ (wd ⊕ Bool)) :=
 if x14_42 < (s_0.2.2.2.2.2.2.2.2.1.length : Int) then ck (0 ≤ x14_42 ∧ x14_42 < (s_0.2.2.2.2.2.2.2.2.1.length : Int)) ((eH F (fun d : Int × wd => aAj F s_0 x14_42 d.1 d.2) ((0 : Int), l_43)).bind (fun e => match e with | (.inl e) => ck (I64 (x14_42 + (1 : Int))) (some (.inl ((x14_42 + (1 : Int)), e))) | (.inr e) => some (.inr (.inr e)))) else some (.inr (.inl l_43))
def uL (F : Md) (s_0 : qf) : Option Bool :=
 (eH F (fun d : Int × wd => aAk F s_0 d.1 d.2) ((0 : Int), s_0.2.2.2.2.2.2.2.2.2.1)).bind (fun e => match e with | (.inl e) => some (decide ((e.length : Int) = (0 : Int))) | (.inr e) => some e)
def aGn : PlR := ⟨[(0, .B [1]), (1, .B [1, 3]), (2, .A [1, 3, 12, 13, 14]), (3, .A [1, 3, 12, 13, 14, 15]), (4, .B [1, 3, 5, 12, 13, 14]), (5, .A [1, 3, 5, 12, 13, 14, 19, 20, 21]), (6, .A [1, 3, 5, 12, 13, 14, 19, 20, 21, 22]), (7, .A [1, 3, 5, 7, 12, 13, 14, 19, 20, 21]), (8, .A [1, 3, 5, 12, 13, 14, 19, 20, 21, 44]), (9, .A [2]), (10, .A [1, 3, 5, 8, 12, 13, 14, 19, 20, 21]), (11, .A [1, 3, 5, 12, 13, 14, 19, 20, 21, 63]), (12, .A [2]), (13, .B [1, 3, 5, 12, 13, 14, 19, 20, 21]), (14, .A [1, 3, 5, 12, 13, 14, 19, 20, 21]), (15, .A [1, 3, 12, 13, 14]), (16, .A [2])], []⟩
def aHE : Ty := .pair qj .unit
def xN (F : Md) : aI := mSpec aHE (.one .bool) (fun x => uL F x.1)
abbrev aDl (F : Md) : List (FuncId × aI) := [(76, (cY F)), (79, (aA5 F))]
theorem aPo [Mx] (F : Md) : bJ Tryz.prog GL (aDl F) := .cons (nO F) xAa (.cons (aPZ F) xAa (.nil))
attribute [go_sem] aHE aGn
theorem aNz [Mx] (F : Md) : FOK Tryz.prog GL 38 (xN F) := by
 refine bT (aU (aPo F)) mix Tryz.func38 rfl xAa xAc aGn fun w0 S x Θ hw h hF => ?_
 obtain ⟨(s_0 : qf), u⟩ := x
 simp only [bX, go_sem]
 replace h : sat (uL F s_0) _ := h
 unfold uL at h
 refine cI hF (D := Int × wd) [12, 13] (fun d => [(1, .ptr 0 []), (3, .ptr 1 []), (14, .val qe d.1)]) (fun d => [.inr (.box 10 (.val qj s_0)), .inr (.box 1 (.val (.sl qs) d.2))]) h rfl xAb ?_
 rintro ⟨x14_42, l_43⟩ A3 T3 hA3 hE3 h
 simp only [go_sem]
 replace h : sat (aAk F s_0 x14_42 l_43) _ := h
 unfold aAk at h
 refine fO h (fun hc h => ?_) fun hc h => ?_
 ·obtain ⟨g0, h⟩ := aQ h
  repeat (refine ⟨zAA, ?_⟩)
  refine cI hF (D := Int × wd) [12, 13, 14, 19, 20] (fun d => [(1, .ptr 0 []), (3, .ptr 1 []), (5, .ptr 2 []), (21, .val qe d.1)]) (fun d => [.inr (.box 10 (.val qj s_0)), .inr (.box 1 (.val (.sl qs) d.2)), .inr (.box 5 (.val qa (s_0.2.2.2.2.2.2.2.2.1.getD (x14_42.toNat) ([], [], [], [], [], ()))))]) h rfl xAb ?_
  rintro ⟨x21_83, l_84⟩ A6 T6 hA6 hE6 h
  simp only [go_sem]
  replace h : sat (aAj F s_0 x14_42 x21_83 l_84) _ := h
  unfold aAj at h
  refine fO h (fun hc h => ?_) fun hc h => ?_
  ·obtain ⟨g0, h⟩ := aQ h
   repeat (refine ⟨zAA, ?_⟩)
   obtain ⟨g0, h⟩ := aQ h
   obtain ⟨g1, h⟩ := aQ h
   repeat (refine ⟨zAE, ?_⟩)
   refine ⟨fun hc => ?_, fun hc => ?_⟩
   ·replace h := iG hc h
    replace h := yaF (hE6 _ (aE h))
    replace h := yaF (hE3 _ (aE h))
    exact zaF
   ·replace h := iH hc h
    obtain ⟨g0, h⟩ := aQ h
    repeat (refine ⟨zAA, ?_⟩)
    obtain ⟨v_99, hv, h⟩ := aO h
    try simp only [hv, go_sem]
    obtain ⟨g0, h⟩ := aQ h
    obtain ⟨g1, h⟩ := aQ h
    repeat (refine ⟨zAE, ?_⟩)
    refine ⟨fun hc => ?_, fun hc => ?_⟩
    ·replace h := iG zAB h
     replace h := yaF (hE6 _ (aE h))
     replace h := yaF (hE3 _ (aE h))
     exact zaF
    ·replace h := iH zAB h
     obtain ⟨g0, h⟩ := aQ h
     repeat (refine ⟨zAA, ?_⟩)
     obtain ⟨g0, h⟩ := aQ h
     try simp only [I64, I32] at g0
     repeat (refine ⟨zAA, ?_⟩)
     replace h := hA6 _ (aE h)
     exact zaK
  ·replace h := yaF (hE6 _ (aE h))
   obtain ⟨g0, h⟩ := aQ h
   try simp only [I64, I32] at g0
   repeat (refine ⟨zAA, ?_⟩)
   replace h := hA3 _ (aE h)
   refine gT [0, 1] rfl rfl (yaA ?_)
   exact zaK
 ·replace h := yaF (hE3 _ (aE h))
  exact zaF
attribute [go_sem] xN
def aAl (F : Md) (s_0 : qf) (names_16 : qw) : Option (Bool) :=
 (tB F names_16).bind (fun v_20 => ck ((v_20 = true) → ((uL F s_0).isSome = true)) (some (v_20 && ((uL F s_0).getD false))))
def aDm (F : Md) (s_0 : qf) (x24_23 : Int) (names_24 : qw) : Option ((Int × qw) ⊕ (qw ⊕ Bool)) :=
 if x24_23 < (s_0.2.2.2.2.2.2.2.2.1.length : Int) then ck (0 ≤ x24_23 ∧ x24_23 < (s_0.2.2.2.2.2.2.2.2.1.length : Int)) ((aAh F (s_0.2.2.2.2.2.2.2.2.1.getD (x24_23.toNat) ([], [], [], [], [], ()))).bind (fun v_37 => if ¬ (v_37 = true) then some (.inr (.inr false)) else ck (((names_24.length) + (1 : Nat)) * 16 ≤ 140737488355328) (ck (I64 (x24_23 + (1 : Int))) (some (.inl ((x24_23 + (1 : Int)), (names_24 ++ ([(s_0.2.2.2.2.2.2.2.2.1.getD (x24_23.toNat) ([], [], [], [], [], ())).1] : List qd)))))))) else some (.inr (.inl names_24))
def aBt (F : Md) (s_0 : qf) : Option Bool :=
 (xJ F s_0).bind (fun v_7 => if ((¬ (v_7 = true)) ∨ ((s_0.2.2.2.2.2.2.2.2.1.length : Int) < (1 : Int))) ∨ ((4 : Int) < (s_0.2.2.2.2.2.2.2.2.1.length : Int)) then some false else (eH F (fun d : Int × qw => aDm F s_0 d.1 d.2) ((0 : Int), ([] : List qd))).bind (fun e => match e with | (.inl e) => aAl F s_0 e | (.inr e) => some e))
def aKM : PlR := ⟨[(0, .B [1]), (1, .A [1, 20]), (2, .A [2]), (3, .A [1, 3]), (4, .A [1, 3, 22, 23, 24]), (5, .A [1, 3, 22, 23, 24, 25]), (6, .B [1, 3, 5, 22, 23, 24]), (7, .A [1, 3, 5, 22, 23, 24, 30]), (8, .A [2]), (9, .B [1, 3, 22, 23, 24]), (10, .A [1, 3, 22, 23, 24]), (11, .A [2])], [(7, 14)]⟩
def aMR : Ty := .pair qj .unit
def aCF (F : Md) : aI := mSpec aMR (.one .bool) (fun x => aBt F x.1)
abbrev aBu (F : Md) : List (FuncId × aI) := [(35, (vC F)), (36, (xM F)), (37, (rD F)), (38, (xN F))]
theorem aSA [Mx] (F : Md) : bJ Tryz.prog GL (aBu F) := .cons (aLO F) xAa (.cons (aNy F) xAa (.cons (aHn F) xAa (.cons (aNz F) xAa (.nil))))
attribute [go_sem] aMR aKM
theorem aRs [Mx] (F : Md) : FOK Tryz.prog GL 16 (aCF F) := by
 refine bT (aU (aSA F)) mix Tryz.func16 rfl xAa xAc aKM fun w0 S x Θ hw h hF => ?_
 obtain ⟨(s_0 : qf), u⟩ := x
 simp only [bX, go_sem]
 replace h : sat (aBt F s_0) _ := h
 unfold aBt at h
 obtain ⟨v_7, hv, h⟩ := aO h
 try simp only [hv, go_sem]
 refine ⟨fun hc => ?_, fun hc => ?_⟩
 ·replace h := iG zAB h
  exact zaF
 ·replace h := iH zAB h
  refine eK hF (D := qw) (fun d => sat (aAl F s_0 d) Θ) [] (fun d => [(1, .ptr 0 []), (3, .own 1)]) (fun d => [.inr (.box 10 (.val qj s_0)), .inr (.row 9 .str d)]) ?_ ?_
  ·simp only [go_sem]
   refine aCV 3 9 .str rfl (yaA ?_)
   refine cI hF (D := Int × qw) [22, 23] (fun d => [(1, .ptr 0 []), (3, .own 1), (24, .val qe d.1)]) (fun d => [.inr (.box 10 (.val qj s_0)), .inr (.row 9 .str d.2)]) h rfl xAb ?_
   rintro ⟨x24_23, names_24⟩ A5 T5 hA5 hE5 h
   simp only [go_sem]
   replace h : sat (aDm F s_0 x24_23 names_24) _ := h
   unfold aDm at h
   refine fO h (fun hc h => ?_) fun hc h => ?_
   ·obtain ⟨g0, h⟩ := aQ h
    repeat (refine ⟨by omega, ?_⟩)
    obtain ⟨v_37, hv, h⟩ := aO h
    try simp only [hv, go_sem]
    refine aEa h (fun hc h => ?_) fun hc h => ?_
    ·replace h := yaF (hE5 _ (aE h))
     exact zaF
    ·obtain ⟨g0, h⟩ := aQ h
     repeat (refine ⟨by omega, ?_⟩)
     obtain ⟨g0, h⟩ := aQ h
     repeat (refine ⟨by omega, ?_⟩)
     replace h := hA5 _ (aE h)
     refine gT [0, 3] rfl rfl (yaA ?_)
     exact zaK
   ·replace h := yaF (hE5 _ (aE h))
    exact aY (names_24) h rfl xAb
  ·rintro names_16 h
   simp only [go_sem]
   replace h : sat (aAl F s_0 names_16) _ := h
   unfold aAl at h
   obtain ⟨v_20, hv, h⟩ := aO h
   try simp only [hv, go_sem]
   obtain ⟨g0, h⟩ := aQ h
   repeat (refine ⟨by omega, ?_⟩)
   exact zaF
attribute [go_sem] aCF
end
end Nu
end Go.Proofs
namespace Go.Proofs
open Go.Vc
set_option maxRecDepth 20000
namespace Nu
noncomputable section
set_option maxHeartbeats 4000000
attribute [-go_sem] Ex.kind Ex.text Ex.l
def sR : fW where
 D := qf × wo × Int × Unit
 av := fun _ => [.ptr 0 [], .ptr 1 [], .ptr 2 []]
 hp := fun d => [.box 10 (.val qj d.1), .box 2 (.val qn d.2.1), .box 1 (.val qe d.2.2.1)]
 m := 3
 pre := fun _ => True
 out := fun d => .ret (.tup []) [.box 10 (.val qj d.1), .box 2 (.val qn d.2.1), .box 1 (.val qe d.2.2.1)]
def eR (x : q8) : fW where
 D := Unit
 av := fun _ => [.ptr 0 [], .ptr 1 [], .ptr 2 []]
 hp := fun _ => [.box 10 .junk, .box 2 .junk, .box 1 .junk]
 m := 3
 pre := fun _ => True
 out := fun _ => .ret (.tup []) [.box 10 (.val qj ((0 : Int), (0 : Int), (0 : Int), (0 : Int), ([] : List Nat), ([] : List Nat), ([] : List Nat), ([] : List Nat), ([] : List qc), ([] : List qm), ())), .box 2 (.val qn (x).1), .box 1 (.val qe (6 : Int))]
theorem aLU [Mx] : DOK Tryz.prog GL 23 none sR := by
 refine aLd (aU aAw) Tryz.func23 rfl xAa (fun _ => Nat.le_of_ble_eq_true rfl) rfl fun c w d hw1 hw2 hp hn => ?_
 have hF : fT ⟨Tryz.prog, EM [], GM sR c d, w, Tryz.f23.ntmps, []⟩ := ⟨aU aAw, mix⟩
 obtain ⟨d0, d1, d2, du⟩ := d
 show rL _ _ _ [(6, .val .nili ()), (0, .ptr 0 []), (1, .ptr 1 []), (2, .ptr 2 [])] [.box 10 (.val qj d0), .box 2 (.val qn d1), .box 1 (.val qe d2)] _
 exact za0
theorem vI [Mx] (x : q8) : DOK Tryz.prog GL 23 (some ⟨65, wi, x⟩) (eR x) := by
 refine aLd (aU aAw) Tryz.func23 rfl xAa (fun _ => Nat.le_of_ble_eq_true rfl) rfl fun c w d hw1 hw2 hp hn => ?_
 have hF : fT ⟨Tryz.prog, EM [], GM (eR x) c d, w, Tryz.f23.ntmps, []⟩ := ⟨aU aAw, mix⟩
 show rL _ _ _ [(6, .val (.ifc 65 wi) x), (0, .ptr 0 []), (1, .ptr 1 []), (2, .ptr 2 [])] [.box 10 .junk, .box 2 .junk, .box 1 .junk] _
 simp only [go_sem]
 refine aB (aF hF [0, 1, 2, 3, 10] (yaA ?_))
 refine aA (bG rfl (fun hc => ?_) (fun hc => absurd hc xAc))
 refine aDA hF [] [] [.box 10 (.val qj ((0 : Int), (0 : Int), (0 : Int), (0 : Int), ([] : List Nat), ([] : List Nat), ([] : List Nat), ([] : List Nat), ([] : List qc), ([] : List qm), ())), .box 2 (.val qn (x).1), .box 1 (.val qe (6 : Int)), .box 2 (.val wi x)] xAc ?_ ?_
 ·simp only [go_sem]
  exact zaX
 refine gT [0, 1, 2] rfl rfl (yaC ?_)
 exact zaf
def aAR (F : Md) (k_66 : Int) (s_67 : Int) (s_68 : Int) (s_69 : Int) (s_70 : Int) (s_71 : qd) (s_72 : qd) (s_73 : qd) (s_74 : qd) (x_75 : wv) (x_76 : wd) : Option (qf × (wo × qp)) :=
 ck ((jX F (s_67, s_68, s_69, s_70, s_71, s_72, s_73, s_74, x_75, x_76, ())).isSome = true) (ck (¬ (k_66 < (7 : Int)) → ((aBt F (s_67, s_68, s_69, s_70, s_71, s_72, s_73, s_74, x_75, ((jX F (s_67, s_68, s_69, s_70, s_71, s_72, s_73, s_74, x_75, x_76, ())).getD ([] : List qm)), ())).isSome = true)) (if (k_66 < (7 : Int)) ∨ (¬ (((aBt F (s_67, s_68, s_69, s_70, s_71, s_72, s_73, s_74, x_75, ((jX F (s_67, s_68, s_69, s_70, s_71, s_72, s_73, s_74, x_75, x_76, ())).getD ([] : List qm)), ())).getD false) = true)) then some (((0 : Int), (0 : Int), (0 : Int), (0 : Int), ([] : List Nat), ([] : List Nat), ([] : List Nat), ([] : List Nat), ([] : List qc), ([] : List qm), ()), (((0 : Int), (0 : Int), ()), ()).1, (6 : Int), ()) else some ((s_67, s_68, s_69, s_70, s_71, s_72, s_73, s_74, x_75, ((jX F (s_67, s_68, s_69, s_70, s_71, s_72, s_73, s_74, x_75, x_76, ())).getD ([] : List qm)), ()), ((0 : Int), (0 : Int), ()), (0 : Int), ())))
def aEY (F : Md) (text_0 : qd) (k_91 : Int) (x18_92 : Int) (s_93 : Int) (s_94 : Int) (s_95 : Int) (s_96 : Int) (s_97 : qd) (s_98 : qd) (s_99 : qd) (s_100 : qd) (x_101 : wv) (x_102 : wd) : Option ((Int × Int × Int × Int × Int × Int × qd × qd × qd × qd × wv × wd) ⊕ ((Int × Int × Int × Int × Int × qd × qd × qd × qd × wv × wd) ⊕ q8)) :=
 if x18_92 < (((aEl text_0 (aP ⟨#[10]⟩)).length : Nat) : Int) then ck (0 ≤ x18_92 ∧ x18_92 < (((aEl text_0 (aP ⟨#[10]⟩)).length : Nat) : Int)) (ck (aPU ((aEl text_0 (aP ⟨#[10]⟩)).getD (x18_92.toNat) ([] : List Nat)) (aP ⟨#[35]⟩)) (ck (I64 (x18_92 + (1 : Int))) (ck ((lJ F (wT ((aEl text_0 (aP ⟨#[10]⟩)).getD (x18_92.toNat) ([] : List Nat)) (aP ⟨#[35]⟩)).1 (aP ⟨#[32]⟩)).isSome = true) ((jI F ((x18_92 + (1 : Int)), (0 : Int), ((lJ F (wT ((aEl text_0 (aP ⟨#[10]⟩)).getD (x18_92.toNat) ([] : List Nat)) (aP ⟨#[35]⟩)).1 (aP ⟨#[32]⟩)).getD ([] : List Nat)), ())).bind (fun r_169 => if r_169.1 = (aP ⟨#[]⟩) then ck (I64 (x18_92 + (1 : Int))) (some (.inl (k_91, (x18_92 + (1 : Int)), s_93, s_94, s_95, s_96, s_97, s_98, s_99, s_100, x_101, x_102))) else if k_91 < (7 : Int) then (aCC F k_91 (s_93, s_94, s_95, s_96, s_97, s_98, s_99, s_100, x_101, x_102, ()) r_169.2).bind (fun e => match e with | .inl r_174 => ck (I64 (k_91 + (1 : Int))) (ck (I64 (x18_92 + (1 : Int))) (some (.inl ((k_91 + (1 : Int)), (x18_92 + (1 : Int)), r_174.1.1, r_174.1.2.1, r_174.1.2.2.1, r_174.1.2.2.2.1, r_174.1.2.2.2.2.1, r_174.1.2.2.2.2.2.1, r_174.1.2.2.2.2.2.2.1, r_174.1.2.2.2.2.2.2.2.1, r_174.1.2.2.2.2.2.2.2.2.1, r_174.1.2.2.2.2.2.2.2.2.2.1)))) | .inr p_175 => some (.inr (.inr p_175))) else (aAe F (s_93, s_94, s_95, s_96, s_97, s_98, s_99, s_100, x_101, x_102, ()) r_169.2).bind (fun e => match e with | .inl r_176 => ck (I64 (k_91 + (1 : Int))) (ck (I64 (x18_92 + (1 : Int))) (some (.inl ((k_91 + (1 : Int)), (x18_92 + (1 : Int)), r_176.1.1, r_176.1.2.1, r_176.1.2.2.1, r_176.1.2.2.2.1, r_176.1.2.2.2.2.1, r_176.1.2.2.2.2.2.1, r_176.1.2.2.2.2.2.2.1, r_176.1.2.2.2.2.2.2.2.1, r_176.1.2.2.2.2.2.2.2.2.1, r_176.1.2.2.2.2.2.2.2.2.2.1)))) | .inr p_177 => some (.inr (.inr p_177)))))))) else some (.inr (.inl (k_91, s_93, s_94, s_95, s_96, s_97, s_98, s_99, s_100, x_101, x_102)))
def tC (F : Md) (text_0 : qd) : Option (qf × (wo × qp)) :=
 if (20000 : Int) < (text_0.length : Int) then some (((0 : Int), (0 : Int), (0 : Int), (0 : Int), ([] : List Nat), ([] : List Nat), ([] : List Nat), ([] : List Nat), ([] : List qc), ([] : List qm), ()), (((0 : Int), (0 : Int), ()), ()).1, (6 : Int), ()) else ck (aPU text_0 (aP ⟨#[10]⟩)) ((eH F (fun d : Int × Int × Int × Int × Int × Int × qd × qd × qd × qd × wv × wd => aEY F text_0 d.1 d.2.1 d.2.2.1 d.2.2.2.1 d.2.2.2.2.1 d.2.2.2.2.2.1 d.2.2.2.2.2.2.1 d.2.2.2.2.2.2.2.1 d.2.2.2.2.2.2.2.2.1 d.2.2.2.2.2.2.2.2.2.1 d.2.2.2.2.2.2.2.2.2.2.1 d.2.2.2.2.2.2.2.2.2.2.2) ((0 : Int), (0 : Int), (0 : Int), (0 : Int), (0 : Int), (0 : Int), ([] : List Nat), ([] : List Nat), ([] : List Nat), ([] : List Nat), ([] : List qc), ([] : List qm))).bind (fun e => match e with | (.inl e) => aAR F e.1 e.2.1 e.2.2.1 e.2.2.2.1 e.2.2.2.2.1 e.2.2.2.2.2.1 e.2.2.2.2.2.2.1 e.2.2.2.2.2.2.2.1 e.2.2.2.2.2.2.2.2.1 e.2.2.2.2.2.2.2.2.2.1 e.2.2.2.2.2.2.2.2.2.2 | (.inr e) => some (((0 : Int), (0 : Int), (0 : Int), (0 : Int), ([] : List Nat), ([] : List Nat), ([] : List Nat), ([] : List Nat), ([] : List qc), ([] : List qm), ()), (e).1, (6 : Int), ())))
@[go_sem]def aA6 : Ty := .pair .str .unit
def rE (F : Md) : aI := mSpec aA6 (.tup (.pair qj (.pair qn q9))) (fun x => tC F x.1)
abbrev oK (F : Md) : List (FuncId × aI) := [(16, (aCF F)), (24, vB), (25, mS), (26, (qE F)), (30, (vF F))]
theorem aIC [Mx] (F : Md) : bJ Tryz.prog GL (oK F) := .cons (aRs F) xAa (.cons aLN xAa (.cons aDf xAa (.cons (aHr F) xAa (.cons (aLQ F) xAa (.nil)))))
theorem aHF [Mx] (F : Md) : FOK Tryz.prog GL 11 (rE F) := by
 refine aFr (aMh (aIC F)) Tryz.func11 rfl xAa xAc fun w0 S x r hw h => ?_
 have hF : fT (fr Tryz.prog (EX (oK F)) S w0 Tryz.f11.ntmps) := ⟨aMh (aIC F), mix⟩
 obtain ⟨(text_0 : qd), u⟩ := x
 simp only [aA6, Ty.wf, fF] at hw
 simp only [bX, aA6]
 try dsimp only at h
 replace h : tC F text_0 = some r := h
 unfold tC at h
 refine aB (aS hF [0, 2, 3, 4] (yaB ?_))
 refine aA (aQm (aAT 3 [0, 1, 2] rfl rfl (Nat.zero_le _) xAc fun roots hroots => (yaA ?_)))
 have hF : fT { fr Tryz.prog (EX (oK F)) S w0 Tryz.f11.ntmps with M := ⟨nothing, S, 3, roots⟩, ds := [⟨.fn (.func 23) ([0, 1, 2].map roots).toArray, #[]⟩] } := ⟨hF.env, mix⟩
 refine aB (aB (aF hF [0, 2, 3, 4, 12] (yaB ?_)))
 refine aA (bG rfl (fun hc => ?_) (fun hc => ?_))
 ·try simp only [go_sem] at hc
  have h := eB zAB h
  refine aC hF (aG (l := []) (.nil)) [0, 2, 3, 4] [] (yaB ?_)
  exact zaY
 ·try simp only [go_sem] at hc
  have h := eC zAB h
  refine cH (aA (aB (aF hF [0, 2, 3, 4, 5] (yaB ?_))))
  refine aA (aB (aQf (aA (qV (D := Int × Int × Int × Int × Int × qd × qd × qd × qd × wv × wd) (fun d => aAR F d.1 d.2.1 d.2.2.1 d.2.2.2.1 d.2.2.2.2.1 d.2.2.2.2.2.1 d.2.2.2.2.2.2.1 d.2.2.2.2.2.2.2.1 d.2.2.2.2.2.2.2.2.1 d.2.2.2.2.2.2.2.2.2.1 d.2.2.2.2.2.2.2.2.2.2 = some r) [] (fun d => [(2, .ptr 0 []), (3, .ptr 1 []), (4, .ptr 2 []), (5, .val qe d.1)]) (fun d => [.inr (.box 10 (.agg [.val qe d.2.1, .val qe d.2.2.1, .val qe d.2.2.2.1, .val qe d.2.2.2.2.1, .val .str d.2.2.2.2.2.1, .val .str d.2.2.2.2.2.2.1, .val .str d.2.2.2.2.2.2.2.1, .val .str d.2.2.2.2.2.2.2.2.1, .own 3, .own 4])), .inr (.box 2 (.val qn ((0 : Int), (0 : Int), ()))), .inr (.box 1 (.val qe (0 : Int))), .inr (.tre 53 qh qa d.2.2.2.2.2.2.2.2.2.1), .inr (.row 83 qs d.2.2.2.2.2.2.2.2.2.2)]) ?_ ?_))))
  ·refine aB (aF hF [2, 3, 4, 5, 16, 17, 18] (yaA ?_))
   obtain ⟨g0, h⟩ := aR h
   repeat (refine ⟨zAA, ?_⟩)
   refine aA (eA (aOA 0 8 53 qh qa rfl rfl rfl (yaA ?_)))
   refine aOA 0 9 83 .no qs rfl rfl rfl (yaA ?_)
   refine pQ (D := Int × Int × Int × Int × Int × Int × qd × qd × qd × qd × wv × wd) [16, 17] (fun d => [(2, .ptr 0 []), (3, .ptr 1 []), (4, .ptr 2 []), (5, .val qe d.1), (18, .val qe d.2.1)]) (fun d => [.inr (.box 10 (.agg [.val qe d.2.2.1, .val qe d.2.2.2.1, .val qe d.2.2.2.2.1, .val qe d.2.2.2.2.2.1, .val .str d.2.2.2.2.2.2.1, .val .str d.2.2.2.2.2.2.2.1, .val .str d.2.2.2.2.2.2.2.2.1, .val .str d.2.2.2.2.2.2.2.2.2.1, .own 3, .own 4])), .inr (.box 2 (.val qn ((0 : Int), (0 : Int), ()))), .inr (.box 1 (.val qe (0 : Int))), .inr (.tre 53 qh qa d.2.2.2.2.2.2.2.2.2.2.1), .inr (.row 83 qs d.2.2.2.2.2.2.2.2.2.2.2)]) h ?_ ?_ ?_
   ·first | rfl | (simp only [go_sem]; done)
   ·exact zAF
   rintro ⟨k_91, x18_92, s_93, s_94, s_95, s_96, s_97, s_98, s_99, s_100, x_101, x_102⟩ s6 h hs6
   simp only [go_sem]
   try dsimp only at h
   unfold aEY at h
   refine aB (aF hF [2, 3, 4, 5, 16, 17, 18, 19] (yaB ?_))
   refine aA (aB (bG rfl (fun hc => ?_) (fun hc => ?_)))
   ·try simp only [go_sem] at hc
    have h := eB zAB h
    refine cH (aA (aB (eA (aB (aF hF [2, 3, 4, 5, 6, 7, 16, 17, 18] (yaA ?_))))))
    obtain ⟨g0, h⟩ := aR h
    repeat (refine ⟨zAA, ?_⟩)
    refine aA (aB (aF hF [2, 3, 4, 5, 6, 7, 16, 17, 18] (yaA ?_)))
    obtain ⟨g0, h⟩ := aR h
    repeat (refine ⟨zAA, ?_⟩)
    refine aA (aB (aS hF [2, 3, 4, 5, 8, 16, 17, 18] (yaA ?_)))
    obtain ⟨g0, h⟩ := aR h
    try simp only [I64, I32] at g0
    repeat (refine ⟨zAA, ?_⟩)
    obtain ⟨g0, h⟩ := aR h
    repeat (refine ⟨zAA, ?_⟩)
    obtain ⟨r_169, he1, h⟩ := bind_some h
    try dsimp only at h
    refine aA (aB (aB (aC hF (aG (l := [(27, ⟨gI F, [5], (((x18_92 + (1 : Int)), (0 : Int), ((lJ F (wT ((aEl text_0 (aP ⟨#[10]⟩)).getD (x18_92.toNat) ([] : List Nat)) (aP ⟨#[35]⟩)).1 (aP ⟨#[32]⟩)).getD ([] : List Nat)), ()), r_169)⟩)]) (.cons (mA F) xAa (.nil))) [2, 3, 4, 5, 8, 16, 17, 18, 37] [] (yaB ?_))))
    refine aA (bG rfl (fun hc => ?_) (fun hc => ?_))
    ·try simp only [go_sem] at hc
     have h := eB zAB h
     refine sI (dX (gL (aA (aF hF [2, 3, 4, 5, 16, 17, 18] (yaA ?_)))))
     obtain ⟨g0, h⟩ := aR h
     try simp only [I64, I32] at g0
     repeat (refine ⟨zAA, ?_⟩)
     obtain rfl := Option.some.inj h
     dsimp only [mZ] at hs6
     refine bY (gT [0, 1, 2, 3, 4] rfl rfl (yaC ?_))
     refine aY (k_91, (x18_92 + (1 : Int)), s_93, s_94, s_95, s_96, s_97, s_98, s_99, s_100, x_101, x_102) hs6 rfl ?_
     ·exact zAF
    ·try simp only [go_sem] at hc
     have h := eC zAB h
     refine cH (aA (aB (aB (aF hF [2, 3, 4, 5, 8, 16, 17, 18, 39] (yaB ?_)))))
     refine aA (bG rfl (fun hc => ?_) (fun hc => ?_))
     ·try simp only [go_sem] at hc
      have h := eB zAB h
      obtain ⟨e, he2, h⟩ := bind_some h
      rcases e with r_174 | p_175
      ·try dsimp only at h
       refine aC hF (aG (l := [(28, ⟨wY F, [0, 5, 3, 4], (k_91, (s_93, s_94, s_95, s_96, s_97, s_98, s_99, s_100, x_101, x_102, ()), r_169.2, .inl r_174)⟩)]) (.cons (aIz F) xAa (.nil))) [2, 3, 4, 5, 16, 17, 18] [] (yaE ?_)
       refine aA (aF hF [2, 3, 4, 5, 16, 17, 18] (yaA ?_))
       obtain ⟨g0, h⟩ := aR h
       try simp only [I64, I32] at g0
       repeat (refine ⟨zAA, ?_⟩)
       refine bB (aA (aF hF [2, 3, 4, 5, 16, 17, 18] (yaA ?_)))
       obtain ⟨g0, h⟩ := aR h
       try simp only [I64, I32] at g0
       repeat (refine ⟨zAA, ?_⟩)
       obtain rfl := Option.some.inj h
       dsimp only [mZ] at hs6
       refine bY (gT [0, 1, 2, 6, 7] rfl rfl (yaC ?_))
       refine aY ((k_91 + (1 : Int)), (x18_92 + (1 : Int)), r_174.1.1, r_174.1.2.1, r_174.1.2.2.1, r_174.1.2.2.2.1, r_174.1.2.2.2.2.1, r_174.1.2.2.2.2.2.1, r_174.1.2.2.2.2.2.2.1, r_174.1.2.2.2.2.2.2.2.1, r_174.1.2.2.2.2.2.2.2.2.1, r_174.1.2.2.2.2.2.2.2.2.2.1) hs6 rfl ?_
       ·exact zAF
      ·try dsimp only at h
       refine aC hF (aG (l := [(28, ⟨wY F, [0, 5, 3, 4], (k_91, (s_93, s_94, s_95, s_96, s_97, s_98, s_99, s_100, x_101, x_102, ()), r_169.2, .inr p_175)⟩)]) (.cons (aIz F) xAa (.nil))) [2, 3, 4, 5, 16, 17, 18] [] (yaE ?_)
       obtain rfl := Option.some.inj h
       dsimp only [mZ] at hs6
       have h := yaF (hs6)
       obtain rfl := Option.some.inj h
       refine aN (bW (aN (aN (bW (aN (aHY (aL (aJ 0 rfl aH) ?_)))))))
       refine aL (aJ 1 rfl aH) ?_
       refine aL (aJ 2 rfl aH) (yaA ?_)
       refine aCb (fn := Tryz.f11) (k := 3) (l2 := [0, 1, 2]) hF rfl rfl xAc rfl (rM xAa) ⟨eR (p_175), [0, 1, 2], ()⟩ (vI (p_175)) rfl [.cell 2 36, .cell 3 38, .cell 4 3] rfl ?_ ?_
       ·(simp only [eR, go_sem]) <;> first | decide | trivial
       ·(simp only [eR, aT, jC, go_sem]) <;> first | decide | trivial | rfl | (simp; done)
     ·try simp only [go_sem] at hc
      have h := eC zAB h
      obtain ⟨e, he3, h⟩ := bind_some h
      rcases e with r_176 | p_177
      ·try dsimp only at h
       refine aC hF (aG (l := [(29, ⟨sQ F, [0, 5, 3, 4], ((s_93, s_94, s_95, s_96, s_97, s_98, s_99, s_100, x_101, x_102, ()), r_169.2, .inl r_176)⟩)]) (.cons (aGk F) xAa (.nil))) [2, 3, 4, 5, 16, 17, 18] [] (yaE ?_)
       refine aA (aF hF [2, 3, 4, 5, 16, 17, 18] (yaA ?_))
       obtain ⟨g0, h⟩ := aR h
       try simp only [I64, I32] at g0
       repeat (refine ⟨zAA, ?_⟩)
       refine bB (aA (aF hF [2, 3, 4, 5, 16, 17, 18] (yaA ?_)))
       obtain ⟨g0, h⟩ := aR h
       try simp only [I64, I32] at g0
       repeat (refine ⟨zAA, ?_⟩)
       obtain rfl := Option.some.inj h
       dsimp only [mZ] at hs6
       refine bY (gT [0, 1, 2, 6, 7] rfl rfl (yaC ?_))
       refine aY ((k_91 + (1 : Int)), (x18_92 + (1 : Int)), r_176.1.1, r_176.1.2.1, r_176.1.2.2.1, r_176.1.2.2.2.1, r_176.1.2.2.2.2.1, r_176.1.2.2.2.2.2.1, r_176.1.2.2.2.2.2.2.1, r_176.1.2.2.2.2.2.2.2.1, r_176.1.2.2.2.2.2.2.2.2.1, r_176.1.2.2.2.2.2.2.2.2.2.1) hs6 rfl ?_
       ·exact zAF
      ·try dsimp only at h
       refine aC hF (aG (l := [(29, ⟨sQ F, [0, 5, 3, 4], ((s_93, s_94, s_95, s_96, s_97, s_98, s_99, s_100, x_101, x_102, ()), r_169.2, .inr p_177)⟩)]) (.cons (aGk F) xAa (.nil))) [2, 3, 4, 5, 16, 17, 18] [] (yaE ?_)
       obtain rfl := Option.some.inj h
       dsimp only [mZ] at hs6
       have h := yaF (hs6)
       obtain rfl := Option.some.inj h
       refine aN (bW (aN (aN (bW (aN (aHY (aL (aJ 0 rfl aH) ?_)))))))
       refine aL (aJ 1 rfl aH) ?_
       refine aL (aJ 2 rfl aH) (yaA ?_)
       refine aCb (fn := Tryz.f11) (k := 3) (l2 := [0, 1, 2]) hF rfl rfl xAc rfl (rM xAa) ⟨eR (p_177), [0, 1, 2], ()⟩ (vI (p_177)) rfl [.cell 2 36, .cell 3 38, .cell 4 3] rfl ?_ ?_
       ·(simp only [eR, go_sem]) <;> first | decide | trivial
       ·(simp only [eR, aT, jC, go_sem]) <;> first | decide | trivial | rfl | (simp; done)
   ·try simp only [go_sem] at hc
    have h := eC zAB h
    obtain rfl := Option.some.inj h
    dsimp only [mZ] at hs6
    have h := yaF (hs6)
    refine sI (dX (dX (gL (bY (aY (k_91, s_93, s_94, s_95, s_96, s_97, s_98, s_99, s_100, x_101, x_102) h rfl ?_)))))
    ·exact zAF
  ·rintro ⟨k_66, s_67, s_68, s_69, s_70, s_71, s_72, s_73, s_74, x_75, x_76⟩ h
   try dsimp only at h
   simp only [go_sem]
   unfold aAR at h
   refine aB (aS hF [2, 3, 4, 5] (yaA ?_))
   obtain ⟨g0, h⟩ := aR h
   repeat (refine ⟨zAA, ?_⟩)
   refine aA (aB (aB (aF hF [2, 3, 4, 57] (yaA ?_))))
   obtain ⟨g0, h⟩ := aR h
   repeat (refine ⟨zAC, ?_⟩)
   refine aA (bG rfl (fun hc => ?_) (fun hc => ?_))
   ·try simp only [go_sem] at hc
    have h := eB zAB h
    refine aC hF (aG (l := []) (.nil)) [2, 3, 4] [] (yaB ?_)
    exact zaY
   ·try simp only [go_sem] at hc
    have h := eC zAB h
    refine cH (aA (aB (aS hF [2, 3, 4] (yaB ?_))))
    refine aA (cD (aQX (aUE (aW5 0 (t := qj) (s_67, s_68, s_69, s_70, s_71, s_72, s_73, s_74, x_75, ((jX F (s_67, s_68, s_69, s_70, s_71, s_72, s_73, s_74, x_75, x_76, ())).getD ([] : List qm)), ()) rfl (by first | rfl | (simp only [go_sem]; done)) aH) (yaA ?_))))
    obtain rfl := Option.some.inj h
    refine aNP (fn := Tryz.f11) (k := 3) (l2 := [0, 1, 2]) hF rfl rfl xAc rfl (rM xAa) ⟨sR, [0, 1, 2], ((s_67, s_68, s_69, s_70, s_71, s_72, s_73, s_74, x_75, ((jX F (s_67, s_68, s_69, s_70, s_71, s_72, s_73, s_74, x_75, x_76, ())).getD ([] : List qm)), ()), ((0 : Int), (0 : Int), ()), (0 : Int), ())⟩ aLU rfl [.cell 2 36, .cell 3 38, .cell 4 3] rfl ?_ ?_
    ·(simp only [sR, go_sem]) <;> first | decide | trivial
    ·(simp only [sR, aT, jC, go_sem]) <;> first | decide | trivial | rfl | (simp; done)
attribute [go_sem] rE
end
end Nu
end Go.Proofs
namespace Go.Proofs
open Go.Vc
set_option maxRecDepth 20000
namespace Nu
noncomputable section
set_option maxHeartbeats 4000000
attribute [-go_sem] Ex.kind Ex.text Ex.l
def pP (F : Md) (a0_0 : (List wc)) (a1_1 : (List wc)) (x13_5 : Int) : Option ((Int) ⊕ ((Unit) ⊕ Bool)) :=
 if x13_5 < (a0_0.length : Int) then ck (0 ≤ x13_5 ∧ x13_5 < (a0_0.length : Int)) (ck (0 ≤ x13_5 ∧ x13_5 < (a1_1.length : Int)) (if ¬ ((Ty.eqb qu (a0_0.getD (x13_5.toNat) ([], ([], [], ()), ())) (a1_1.getD (x13_5.toNat) ([], ([], [], ()), ()))) = true) then some (.inr (.inr false)) else ck (I64 (x13_5 + (1 : Int))) (some (.inl (x13_5 + (1 : Int)))))) else some (.inr (.inl ()))
def jA (F : Md) (a0_0 : (List wc)) (a1_1 : (List wc)) : Option Bool :=
 if ¬ ((a0_0.length : Int) = (a1_1.length : Int)) then some false else (eH F (fun d : Int => pP F a0_0 a1_1 d) (0 : Int)).bind (fun e => match e with | (.inl e) => some true | (.inr e) => some e)
def yR : PlR := ⟨[(0, .A [0, 1]), (1, .A [0, 1, 10]), (2, .A [4]), (3, .A [0, 1, 12, 13]), (4, .A [0, 1, 12, 13, 14]), (5, .A [0, 1, 5, 12, 13]), (6, .A [0, 1, 12, 13, 24]), (7, .A [4]), (8, .A [0, 1, 12, 13]), (9, .A [4])], []⟩
def aAm : Ty := .pair (.sl qu) (.pair (.sl qu) .unit)
def nF (F : Md) : aI := mSpec aAm (.one .bool) (fun x => jA F x.1 x.2.1)
abbrev aFW (F : Md) : List (FuncId × aI) := []
theorem aFX [Mx] (F : Md) : bJ Tryz.prog GL (aFW F) := .nil
attribute [go_sem] aAm yR
theorem aEZ [Mx] (F : Md) : FOK Tryz.prog GL 65 (nF F) := by
 refine bT (aU (aFX F)) mix Tryz.func65 rfl xAa xAc yR fun w0 S x Θ hw h hF => ?_
 obtain ⟨(a0_0 : (List wc)), (a1_1 : (List wc)), u⟩ := x
 simp only [bX, go_sem]
 replace h : sat (jA F a0_0 a1_1) _ := h
 unfold jA at h
 refine fC h (fun hc h => ?_) fun hc h => ?_
 ·exact aK hF [.tmp 4] rfl rfl rfl (aE h) xAd
 ·refine cI hF (D := Int) [0, 1, 12] (fun d => [(13, .val qe d)]) (fun d => []) h rfl xAb ?_
  rintro x13_5 A4 T4 hA4 hE4 h
  simp only [go_sem]
  replace h : sat (pP F a0_0 a1_1 x13_5) _ := h
  unfold pP at h
  exact zac
attribute [go_sem] nF
def qM (F : Md) (a0_0 : qw) (a1_1 : qw) (x13_5 : Int) : Option ((Int) ⊕ ((Unit) ⊕ Bool)) :=
 if x13_5 < (a0_0.length : Int) then ck (0 ≤ x13_5 ∧ x13_5 < (a0_0.length : Int)) (ck (0 ≤ x13_5 ∧ x13_5 < (a1_1.length : Int)) (if ¬ ((a0_0.getD (x13_5.toNat) ([] : List Nat)) = (a1_1.getD (x13_5.toNat) ([] : List Nat))) then some (.inr (.inr false)) else ck (I64 (x13_5 + (1 : Int))) (some (.inl (x13_5 + (1 : Int)))))) else some (.inr (.inl ()))
def lV (F : Md) (a0_0 : qw) (a1_1 : qw) : Option Bool :=
 if ¬ ((a0_0.length : Int) = (a1_1.length : Int)) then some false else (eH F (fun d : Int => qM F a0_0 a1_1 d) (0 : Int)).bind (fun e => match e with | (.inl e) => some true | (.inr e) => some e)
def aAn : PlR := ⟨[(0, .A [0, 1]), (1, .A [0, 1, 10]), (2, .A [4]), (3, .A [0, 1, 12, 13]), (4, .A [0, 1, 12, 13, 14]), (5, .A [0, 1, 5, 12, 13]), (6, .A [0, 1, 12, 13, 24]), (7, .A [4]), (8, .A [0, 1, 12, 13]), (9, .A [4])], []⟩
def aAG : Ty := .pair wg (.pair wg .unit)
def oF (F : Md) : aI := mSpec aAG (.one .bool) (fun x => lV F x.1 x.2.1)
abbrev aGC (F : Md) : List (FuncId × aI) := []
theorem aGD [Mx] (F : Md) : bJ Tryz.prog GL (aGC F) := .nil
attribute [go_sem] aAG aAn
theorem aFY [Mx] (F : Md) : FOK Tryz.prog GL 66 (oF F) := by
 refine bT (aU (aGD F)) mix Tryz.func66 rfl xAa xAc aAn fun w0 S x Θ hw h hF => ?_
 obtain ⟨(a0_0 : qw), (a1_1 : qw), u⟩ := x
 simp only [bX, go_sem]
 replace h : sat (lV F a0_0 a1_1) _ := h
 unfold lV at h
 refine fC h (fun hc h => ?_) fun hc h => ?_
 ·exact aK hF [.tmp 4] rfl rfl rfl (aE h) xAd
 ·refine cI hF (D := Int) [0, 1, 12] (fun d => [(13, .val qe d)]) (fun d => []) h rfl xAb ?_
  rintro x13_5 A4 T4 hA4 hE4 h
  simp only [go_sem]
  replace h : sat (qM F a0_0 a1_1 x13_5) _ := h
  unfold qM at h
  refine fO h (fun hc h => ?_) fun hc h => ?_
  ·refine bD h fun g0 h => bD h fun g1 h => ?_
   refine fC h (fun hc h => ?_) fun hc h => ?_
   ·replace h := yaF (hE4 _ (aE h))
    exact zaD
   ·refine bD h fun g0 h => ?_
    replace h := hA4 _ (aE h)
    exact zaK
  ·replace h := yaF (hE4 _ (aE h))
   exact zaD
attribute [go_sem] oF
def oZ (F : Md) (a0_0 : wd) (a1_1 : wd) (x13_5 : Int) : Option ((Int) ⊕ ((Unit) ⊕ Bool)) :=
 if x13_5 < (a0_0.length : Int) then ck (0 ≤ x13_5 ∧ x13_5 < (a0_0.length : Int)) (ck (0 ≤ x13_5 ∧ x13_5 < (a1_1.length : Int)) (if ¬ ((Ty.eqb qs (a0_0.getD (x13_5.toNat) ([], [], [], [], ())) (a1_1.getD (x13_5.toNat) ([], [], [], [], ()))) = true) then some (.inr (.inr false)) else ck (I64 (x13_5 + (1 : Int))) (some (.inl (x13_5 + (1 : Int)))))) else some (.inr (.inl ()))
def kN (F : Md) (a0_0 : wd) (a1_1 : wd) : Option Bool :=
 if ¬ ((a0_0.length : Int) = (a1_1.length : Int)) then some false else (eH F (fun d : Int => oZ F a0_0 a1_1 d) (0 : Int)).bind (fun e => match e with | (.inl e) => some true | (.inr e) => some e)
def xA : PlR := ⟨[(0, .A [0, 1]), (1, .A [0, 1, 10]), (2, .A [4]), (3, .A [0, 1, 12, 13]), (4, .A [0, 1, 12, 13, 14]), (5, .A [0, 1, 5, 12, 13]), (6, .A [0, 1, 12, 13, 24]), (7, .A [4]), (8, .A [0, 1, 12, 13]), (9, .A [4])], []⟩
def yS : Ty := .pair (.sl qs) (.pair (.sl qs) .unit)
def mI (F : Md) : aI := mSpec yS (.one .bool) (fun x => kN F x.1 x.2.1)
abbrev aE0 (F : Md) : List (FuncId × aI) := []
theorem aE1 [Mx] (F : Md) : bJ Tryz.prog GL (aE0 F) := .nil
attribute [go_sem] yS xA
theorem aEr [Mx] (F : Md) : FOK Tryz.prog GL 33 (mI F) := by
 refine bT (aU (aE1 F)) mix Tryz.func33 rfl xAa xAc xA fun w0 S x Θ hw h hF => ?_
 obtain ⟨(a0_0 : wd), (a1_1 : wd), u⟩ := x
 simp only [bX, go_sem]
 replace h : sat (kN F a0_0 a1_1) _ := h
 unfold kN at h
 refine fC h (fun hc h => ?_) fun hc h => ?_
 ·exact aK hF [.tmp 4] rfl rfl rfl (aE h) xAd
 ·refine cI hF (D := Int) [0, 1, 12] (fun d => [(13, .val qe d)]) (fun d => []) h rfl xAb ?_
  rintro x13_5 A4 T4 hA4 hE4 h
  simp only [go_sem]
  replace h : sat (oZ F a0_0 a1_1 x13_5) _ := h
  unfold oZ at h
  exact zac
attribute [go_sem] mI
@[go_sem]def vJ : Ty := .pair .expr (.pair .expr .unit)
def lH (g : Ex → Ex → Option (Bool)) : aI := mSpec vJ (.one .bool) (fun x => g x.1 x.2.1)
attribute [go_sem] lH
def cP (F : Md) (g : Ex → Ex → Option (Bool)) (a0_0 : wy) (a1_1 : wy) (x17_15 : Int) : Option ((Int) ⊕ ((Unit) ⊕ Bool)) :=
 if x17_15 < (a0_0.length : Int) then ck (0 ≤ x17_15 ∧ x17_15 < (a0_0.length : Int)) (ck (0 ≤ x17_15 ∧ x17_15 < (a1_1.length : Int)) ((g (a0_0.getD (x17_15.toNat) (Ex.mk 0 [] [])) (a1_1.getD (x17_15.toNat) (Ex.mk 0 [] []))).bind (fun v_28 => if ¬ (v_28 = true) then some (.inr (.inr false)) else ck (I64 (x17_15 + (1 : Int))) (some (.inl (x17_15 + (1 : Int))))))) else some (.inr (.inl ()))
def bP (F : Md) (g : Ex → Ex → Option (Bool)) (a0_0 : wy) (a1_1 : wy) (eq_2 : Unit) : Option Bool :=
 if ¬ ((a0_0.length : Int) = (a1_1.length : Int)) then some false else (eH F (fun d : Int => cP F g a0_0 a1_1 d) (0 : Int)).bind (fun e => match e with | (.inl e) => some true | (.inr e) => some e)
def eJ : PlR := ⟨[(0, .A [0, 1, 2]), (1, .A [0, 1, 2, 14]), (2, .A [6]), (3, .A [1, 2, 15, 16, 17]), (4, .A [1, 2, 15, 16, 17, 18]), (5, .B [1, 2, 7, 8, 15, 16, 17]), (6, .B [1, 2, 8, 9, 15, 16, 17]), (7, .A [1, 2, 15, 16, 17, 30]), (8, .A [6]), (9, .A [1, 2, 15, 16, 17]), (10, .A [6])], []⟩
def eL : Ty := .pair (.sl .expr) (.pair (.sl .expr) (.pair (.clo 62 .unit) .unit))
def bZ (F : Md) (g : Ex → Ex → Option (Bool)) : aI := mSpec eL (.one .bool) (fun x => bP F g x.1 x.2.1 x.2.2.1)
abbrev eM (F : Md) (g : Ex → Ex → Option (Bool)) : List (FuncId × aI) := [(62, (lH g))]
theorem jK [Mx] (F : Md) (g : Ex → Ex → Option (Bool)) (hg : FOK Tryz.prog GL 62 (lH g)) : bJ Tryz.prog GL (eM F g) := .cons hg xAa (.nil)
attribute [go_sem] eL eJ
theorem jG [Mx] (F : Md) (g : Ex → Ex → Option (Bool)) (hg : FOK Tryz.prog GL 62 (lH g)) : FOK Tryz.prog GL 101 (bZ F g) := by
 refine bT (aU (jK F g hg)) mix Tryz.func101 rfl xAa xAc eJ fun w0 S x Θ hw h hF => ?_
 obtain ⟨(a0_0 : wy), (a1_1 : wy), (eq_2 : Unit), u⟩ := x
 simp only [bX, go_sem]
 replace h : sat (bP F g a0_0 a1_1 eq_2) _ := h
 unfold bP at h
 refine fC h (fun hc h => ?_) fun hc h => ?_
 ·exact aK hF [.tmp 6] rfl rfl rfl (aE h) xAd
 ·refine cI hF (D := Int) [1, 2, 15, 16] (fun d => [(17, .val qe d)]) (fun d => []) h rfl xAb ?_
  rintro x17_15 A4 T4 hA4 hE4 h
  simp only [go_sem]
  replace h : sat (cP F g a0_0 a1_1 x17_15) _ := h
  unfold cP at h
  exact zaE
attribute [go_sem] bZ
def sA (F : Md) (g : Ex → Ex → Option (Bool)) (a_0 : Ex) (b_1 : Ex) : Option Bool :=
 ck ((((a_0.kind) = (b_1.kind)) ∧ ((a_0.text) = (b_1.text))) → ((bP F g (a_0.l) (b_1.l) ()).isSome = true)) (some (((decide ((a_0.kind) = (b_1.kind))) && (decide ((a_0.text) = (b_1.text)))) && ((bP F g (a_0.l) (b_1.l) ()).getD false)))
def aD2 : PlR := ⟨[(0, .B [2, 3]), (1, .A [4])], []⟩
abbrev aE2 (F : Md) (g : Ex → Ex → Option (Bool)) : List (FuncId × aI) := [(101, (bZ F g))]
theorem aL0 [Mx] (F : Md) (g : Ex → Ex → Option (Bool)) (hg : FOK Tryz.prog GL 62 (lH g)) : bJ Tryz.prog GL (aE2 F g) := .cons (jG F g hg) xAa (.nil)
attribute [go_sem] aD2
theorem aJd [Mx] (F : Md) (g : Ex → Ex → Option (Bool)) (hg : FOK Tryz.prog GL 62 (lH g)) : FOK Tryz.prog GL 62 (mSpec vJ (.one .bool) (fun x => sA F g x.1 x.2.1)) := by
 refine bT (aU (aL0 F g hg)) mix Tryz.func62 rfl xAa xAc aD2 fun w0 S x Θ hw h hF => ?_
 obtain ⟨(a_0 : Ex), (b_1 : Ex), u⟩ := x
 simp only [bX, go_sem]
 replace h : sat (sA F g a_0 b_1) _ := h
 unfold sA at h
 refine bD h fun g0 h => ?_
 exact zaD
def oN (F : Md) : Nat → Ex → Ex → Option (Bool)
 | 0 => fun _ _ => none
 | n + 1 => sA F (oN F n)
def nG (F : Md) (n : Nat) : aI := mSpec vJ (.one .bool) (fun x => oN F n x.1 x.2.1)
theorem aAo [Mx] (F : Md) : ∀ n, FOK Tryz.prog GL 62 (nG F n)
 | 0 => fun _ _ _ _ _ _ _ hp => Bool.noConfusion (show false = true from hp)
 | n + 1 => aJd F _ (aAo F n)
attribute [go_sem] nG
end
end Nu
end Go.Proofs
namespace Go.Proofs
open Go.Vc
set_option maxRecDepth 20000
namespace Nu
noncomputable section
set_option maxHeartbeats 4000000
attribute [-go_sem] Ex.kind Ex.text Ex.l
def tR (F : Md) (x_0 : wa) (y_1 : wa) : Option Bool :=
 ck (((x_0.1 = y_1.1) ∧ ((Ty.eqb qg x_0.2.1 y_1.2.1) = true)) → ((oN F 64 x_0.2.2.1 y_1.2.2.1).isSome = true)) (some (((decide (x_0.1 = y_1.1)) && (Ty.eqb qg x_0.2.1 y_1.2.1)) && ((oN F 64 x_0.2.2.1 y_1.2.2.1).getD false)))
@[go_sem]def tS : Ty := .pair qq (.pair qq .unit)
def sB (F : Md) : aI := mSpec tS (.one .bool) (fun x => tR F x.1 x.2.1)
abbrev aAp (F : Md) : List (FuncId × aI) := [(62, (nG F 64))]
theorem aD3 [Mx] (F : Md) : bJ Tryz.prog GL (aAp F) := .cons (aAo F 64) xAa (.nil)
theorem aJe [Mx] (F : Md) : FOK Tryz.prog GL 61 (sB F) := by
 refine sU (aU (aD3 F)) Tryz.func61 rfl xAa xAc fun w0 S x r hw h => ?_
 have hF : fT (fr Tryz.prog (EM (aAp F)) S w0 Tryz.f61.ntmps) := ⟨aU (aD3 F), mix⟩
 obtain ⟨(x_0 : wa), (y_1 : wa), u⟩ := x
 simp only [tS, Ty.wf, fF] at hw
 simp only [bX, tS]
 try dsimp only at h
 replace h : tR F x_0 y_1 = some r := h
 unfold tR at h
 refine aB (aS hF [2, 3] (yaA ?_))
 refine aA (aB (aF hF [4] (yaA ?_)))
 obtain ⟨g0, h⟩ := aR h
 repeat (refine ⟨zAC, ?_⟩)
 obtain rfl := Option.some.inj h
 refine aA (cD (jH hF [.tmp 4] rfl rfl rfl ?_))
 exact zAG
attribute [go_sem] sB
def cM (F : Md) (a0_0 : (List wa)) (a1_1 : (List wa)) (x17_15 : Int) : Option ((Int) ⊕ ((Unit) ⊕ Bool)) :=
 if x17_15 < (a0_0.length : Int) then ck (0 ≤ x17_15 ∧ x17_15 < (a0_0.length : Int)) (ck (0 ≤ x17_15 ∧ x17_15 < (a1_1.length : Int)) ((tR F (a0_0.getD (x17_15.toNat) ([], ([], [], ()), (Ex.mk 0 [] []), ())) (a1_1.getD (x17_15.toNat) ([], ([], [], ()), (Ex.mk 0 [] []), ()))).bind (fun v_28 => if ¬ (v_28 = true) then some (.inr (.inr false)) else ck (I64 (x17_15 + (1 : Int))) (some (.inl (x17_15 + (1 : Int))))))) else some (.inr (.inl ()))
def bV (F : Md) (a0_0 : (List wa)) (a1_1 : (List wa)) (eq_2 : Unit) : Option Bool :=
 if ¬ ((a0_0.length : Int) = (a1_1.length : Int)) then some false else (eH F (fun d : Int => cM F a0_0 a1_1 d) (0 : Int)).bind (fun e => match e with | (.inl e) => some true | (.inr e) => some e)
def dZ : PlR := ⟨[(0, .A [0, 1, 2]), (1, .A [0, 1, 2, 14]), (2, .A [6]), (3, .A [1, 2, 15, 16, 17]), (4, .A [1, 2, 15, 16, 17, 18]), (5, .B [1, 2, 7, 8, 15, 16, 17]), (6, .B [1, 2, 8, 9, 15, 16, 17]), (7, .A [1, 2, 15, 16, 17, 30]), (8, .A [6]), (9, .A [1, 2, 15, 16, 17]), (10, .A [6])], []⟩
def eD : Ty := .pair (.sl qq) (.pair (.sl qq) (.pair (.clo 61 .unit) .unit))
def bS (F : Md) : aI := mSpec eD (.one .bool) (fun x => bV F x.1 x.2.1 x.2.2.1)
abbrev eE (F : Md) : List (FuncId × aI) := [(61, (sB F))]
theorem iQ [Mx] (F : Md) : bJ Tryz.prog GL (eE F) := .cons (aJe F) xAa (.nil)
attribute [go_sem] eD dZ
theorem iD [Mx] (F : Md) : FOK Tryz.prog GL 60 (bS F) := by
 refine bT (aU (iQ F)) mix Tryz.func60 rfl xAa xAc dZ fun w0 S x Θ hw h hF => ?_
 obtain ⟨(a0_0 : (List wa)), (a1_1 : (List wa)), (eq_2 : Unit), u⟩ := x
 simp only [bX, go_sem]
 replace h : sat (bV F a0_0 a1_1 eq_2) _ := h
 unfold bV at h
 refine fC h (fun hc h => ?_) fun hc h => ?_
 ·exact aK hF [.tmp 6] rfl rfl rfl (aE h) xAd
 ·refine cI hF (D := Int) [1, 2, 15, 16] (fun d => [(17, .val qe d)]) (fun d => []) h rfl xAb ?_
  rintro x17_15 A4 T4 hA4 hE4 h
  simp only [go_sem]
  replace h : sat (cM F a0_0 a1_1 x17_15) _ := h
  unfold cM at h
  exact zaE
attribute [go_sem] bS
def tT (F : Md) (x_0 : qz) (y_1 : qz) : Option Bool :=
 ck ((x_0.1 = y_1.1) → ((oN F 64 x_0.2.1 y_1.2.1).isSome = true)) (some ((decide (x_0.1 = y_1.1)) && ((oN F 64 x_0.2.1 y_1.2.1).getD false)))
def aDn : PlR := ⟨[(0, .B [2, 3]), (1, .A [4])], []⟩
def aD4 : Ty := .pair qr (.pair qr .unit)
def sC (F : Md) : aI := mSpec aD4 (.one .bool) (fun x => tT F x.1 x.2.1)
abbrev aD5 (F : Md) : List (FuncId × aI) := [(62, (nG F 64))]
theorem aKN [Mx] (F : Md) : bJ Tryz.prog GL (aD5 F) := .cons (aAo F 64) xAa (.nil)
attribute [go_sem] aD4 aDn
theorem aJf [Mx] (F : Md) : FOK Tryz.prog GL 64 (sC F) := by
 refine bT (aU (aKN F)) mix Tryz.func64 rfl xAa xAc aDn fun w0 S x Θ hw h hF => ?_
 obtain ⟨(x_0 : qz), (y_1 : qz), u⟩ := x
 simp only [bX, go_sem]
 replace h : sat (tT F x_0 y_1) _ := h
 unfold tT at h
 refine bD h fun g0 h => ?_
 exact zaD
attribute [go_sem] sC
def cS (F : Md) (a0_0 : wu) (a1_1 : wu) (x17_15 : Int) : Option ((Int) ⊕ ((Unit) ⊕ Bool)) :=
 if x17_15 < (a0_0.length : Int) then ck (0 ≤ x17_15 ∧ x17_15 < (a0_0.length : Int)) (ck (0 ≤ x17_15 ∧ x17_15 < (a1_1.length : Int)) ((tT F (a0_0.getD (x17_15.toNat) ([], (Ex.mk 0 [] []), ())) (a1_1.getD (x17_15.toNat) ([], (Ex.mk 0 [] []), ()))).bind (fun v_28 => if ¬ (v_28 = true) then some (.inr (.inr false)) else ck (I64 (x17_15 + (1 : Int))) (some (.inl (x17_15 + (1 : Int))))))) else some (.inr (.inl ()))
def cF (F : Md) (a0_0 : wu) (a1_1 : wu) (eq_2 : Unit) : Option Bool :=
 if ¬ ((a0_0.length : Int) = (a1_1.length : Int)) then some false else (eH F (fun d : Int => cS F a0_0 a1_1 d) (0 : Int)).bind (fun e => match e with | (.inl e) => some true | (.inr e) => some e)
def eS : PlR := ⟨[(0, .A [0, 1, 2]), (1, .A [0, 1, 2, 14]), (2, .A [6]), (3, .A [1, 2, 15, 16, 17]), (4, .A [1, 2, 15, 16, 17, 18]), (5, .B [1, 2, 7, 8, 15, 16, 17]), (6, .B [1, 2, 8, 9, 15, 16, 17]), (7, .A [1, 2, 15, 16, 17, 30]), (8, .A [6]), (9, .A [1, 2, 15, 16, 17]), (10, .A [6])], []⟩
def eV : Ty := .pair (.sl qr) (.pair (.sl qr) (.pair (.clo 64 .unit) .unit))
def cA (F : Md) : aI := mSpec eV (.one .bool) (fun x => cF F x.1 x.2.1 x.2.2.1)
abbrev eW (F : Md) : List (FuncId × aI) := [(64, (sC F))]
theorem kG [Mx] (F : Md) : bJ Tryz.prog GL (eW F) := .cons (aJf F) xAa (.nil)
attribute [go_sem] eV eS
theorem jY [Mx] (F : Md) : FOK Tryz.prog GL 63 (cA F) := by
 refine bT (aU (kG F)) mix Tryz.func63 rfl xAa xAc eS fun w0 S x Θ hw h hF => ?_
 obtain ⟨(a0_0 : wu), (a1_1 : wu), (eq_2 : Unit), u⟩ := x
 simp only [bX, go_sem]
 replace h : sat (cF F a0_0 a1_1 eq_2) _ := h
 unfold cF at h
 refine fC h (fun hc h => ?_) fun hc h => ?_
 ·exact aK hF [.tmp 6] rfl rfl rfl (aE h) xAd
 ·refine cI hF (D := Int) [1, 2, 15, 16] (fun d => [(17, .val qe d)]) (fun d => []) h rfl xAb ?_
  rintro x17_15 A4 T4 hA4 hE4 h
  simp only [go_sem]
  replace h : sat (cS F a0_0 a1_1 x17_15) _ := h
  unfold cS at h
  exact zaE
attribute [go_sem] cA
def xO (F : Md) (a_0 : qc) (b_1 : qc) : Option Bool :=
 (bV F a_0.2.1 b_1.2.1 ()).bind (fun v_8 => (cF F a_0.2.2.2.2.1 b_1.2.2.2.2.1 ()).bind (fun v_14 => ck ((((v_8 = true) ∧ (v_14 = true)) ∧ (a_0.1 = b_1.1)) → ((jA F a_0.2.2.1 b_1.2.2.1).isSome = true)) (ck (((((v_8 = true) ∧ (v_14 = true)) ∧ (a_0.1 = b_1.1)) ∧ (((jA F a_0.2.2.1 b_1.2.2.1).getD false) = true)) → ((lV F a_0.2.2.2.1 b_1.2.2.2.1).isSome = true)) (some ((((v_8 && v_14) && (decide (a_0.1 = b_1.1))) && ((jA F a_0.2.2.1 b_1.2.2.1).getD false)) && ((lV F a_0.2.2.2.1 b_1.2.2.2.1).getD false))))))
def aE3 : PlR := ⟨[(0, .B [2, 3]), (1, .A [2, 3, 5]), (2, .A [2, 3, 5, 6]), (3, .A [4])], []⟩
def aGo : Ty := .pair qa (.pair qa .unit)
def vK (F : Md) : aI := mSpec aGo (.one .bool) (fun x => xO F x.1 x.2.1)
abbrev sS (F : Md) : List (FuncId × aI) := [(60, (bS F)), (63, (cA F)), (65, (nF F)), (66, (oF F))]
theorem aNA [Mx] (F : Md) : bJ Tryz.prog GL (sS F) := .cons (iD F) xAa (.cons (jY F) xAa (.cons (aEZ F) xAa (.cons (aFY F) xAa (.nil))))
attribute [go_sem] aGo aE3
theorem aL1 [Mx] (F : Md) : FOK Tryz.prog GL 32 (vK F) := by
 refine bT (aU (aNA F)) mix Tryz.func32 rfl xAa xAc aE3 fun w0 S x Θ hw h hF => ?_
 obtain ⟨(a_0 : qc), (b_1 : qc), u⟩ := x
 simp only [bX, go_sem]
 replace h : sat (xO F a_0 b_1) _ := h
 unfold xO at h
 obtain ⟨v_8, hv, h⟩ := aO h
 try simp only [hv, go_sem]
 obtain ⟨v_14, hv, h⟩ := aO h
 try simp only [hv, go_sem]
 refine bD h fun g0 h => bD h fun g1 h => ?_
 exact zaD
attribute [go_sem] vK
def cV (F : Md) (a0_0 : wv) (a1_1 : wv) (x17_15 : Int) : Option ((Int) ⊕ ((Unit) ⊕ Bool)) :=
 if x17_15 < (a0_0.length : Int) then ck (0 ≤ x17_15 ∧ x17_15 < (a0_0.length : Int)) (ck (0 ≤ x17_15 ∧ x17_15 < (a1_1.length : Int)) ((xO F (a0_0.getD (x17_15.toNat) ([], [], [], [], [], ())) (a1_1.getD (x17_15.toNat) ([], [], [], [], [], ()))).bind (fun v_28 => if ¬ (v_28 = true) then some (.inr (.inr false)) else ck (I64 (x17_15 + (1 : Int))) (some (.inl (x17_15 + (1 : Int))))))) else some (.inr (.inl ()))
def bL (F : Md) (a0_0 : wv) (a1_1 : wv) (eq_2 : Unit) : Option Bool :=
 if ¬ ((a0_0.length : Int) = (a1_1.length : Int)) then some false else (eH F (fun d : Int => cV F a0_0 a1_1 d) (0 : Int)).bind (fun e => match e with | (.inl e) => some true | (.inr e) => some e)
def eZ : PlR := ⟨[(0, .A [0, 1, 2]), (1, .A [0, 1, 2, 14]), (2, .A [6]), (3, .A [1, 2, 15, 16, 17]), (4, .A [1, 2, 15, 16, 17, 18]), (5, .B [1, 2, 7, 8, 15, 16, 17]), (6, .B [1, 2, 8, 9, 15, 16, 17]), (7, .A [1, 2, 15, 16, 17, 30]), (8, .A [6]), (9, .A [1, 2, 15, 16, 17]), (10, .A [6])], []⟩
def fA : Ty := .pair (.sl qa) (.pair (.sl qa) (.pair (.clo 32 .unit) .unit))
def cG (F : Md) : aI := mSpec fA (.one .bool) (fun x => bL F x.1 x.2.1 x.2.2.1)
abbrev fB (F : Md) : List (FuncId × aI) := [(32, (vK F))]
theorem kS [Mx] (F : Md) : bJ Tryz.prog GL (fB F) := .cons (aL1 F) xAa (.nil)
attribute [go_sem] fA eZ
theorem kO [Mx] (F : Md) : FOK Tryz.prog GL 31 (cG F) := by
 refine bT (aU (kS F)) mix Tryz.func31 rfl xAa xAc eZ fun w0 S x Θ hw h hF => ?_
 obtain ⟨(a0_0 : wv), (a1_1 : wv), (eq_2 : Unit), u⟩ := x
 simp only [bX, go_sem]
 replace h : sat (bL F a0_0 a1_1 eq_2) _ := h
 unfold bL at h
 refine fC h (fun hc h => ?_) fun hc h => ?_
 ·exact aK hF [.tmp 6] rfl rfl rfl (aE h) xAd
 ·refine cI hF (D := Int) [1, 2, 15, 16] (fun d => [(17, .val qe d)]) (fun d => []) h rfl xAb ?_
  rintro x17_15 A4 T4 hA4 hE4 h
  simp only [go_sem]
  replace h : sat (cV F a0_0 a1_1 x17_15) _ := h
  unfold cV at h
  exact zaE
attribute [go_sem] cG
def sD (F : Md) (a_0 : qf) (b_1 : qf) : Option Bool :=
 ck (((((((((a_0.1 = b_1.1) ∧ (a_0.2.1 = b_1.2.1)) ∧ (a_0.2.2.1 = b_1.2.2.1)) ∧ (a_0.2.2.2.1 = b_1.2.2.2.1)) ∧ (a_0.2.2.2.2.1 = b_1.2.2.2.2.1)) ∧ (a_0.2.2.2.2.2.1 = b_1.2.2.2.2.2.1)) ∧ (a_0.2.2.2.2.2.2.1 = b_1.2.2.2.2.2.2.1)) ∧ (a_0.2.2.2.2.2.2.2.1 = b_1.2.2.2.2.2.2.2.1)) → ((bL F a_0.2.2.2.2.2.2.2.2.1 b_1.2.2.2.2.2.2.2.2.1 ()).isSome = true)) (ck ((((((((((a_0.1 = b_1.1) ∧ (a_0.2.1 = b_1.2.1)) ∧ (a_0.2.2.1 = b_1.2.2.1)) ∧ (a_0.2.2.2.1 = b_1.2.2.2.1)) ∧ (a_0.2.2.2.2.1 = b_1.2.2.2.2.1)) ∧ (a_0.2.2.2.2.2.1 = b_1.2.2.2.2.2.1)) ∧ (a_0.2.2.2.2.2.2.1 = b_1.2.2.2.2.2.2.1)) ∧ (a_0.2.2.2.2.2.2.2.1 = b_1.2.2.2.2.2.2.2.1)) ∧ (((bL F a_0.2.2.2.2.2.2.2.2.1 b_1.2.2.2.2.2.2.2.2.1 ()).getD false) = true)) → ((kN F a_0.2.2.2.2.2.2.2.2.2.1 b_1.2.2.2.2.2.2.2.2.2.1).isSome = true)) (some ((((((((((decide (a_0.1 = b_1.1)) && (decide (a_0.2.1 = b_1.2.1))) && (decide (a_0.2.2.1 = b_1.2.2.1))) && (decide (a_0.2.2.2.1 = b_1.2.2.2.1))) && (decide (a_0.2.2.2.2.1 = b_1.2.2.2.2.1))) && (decide (a_0.2.2.2.2.2.1 = b_1.2.2.2.2.2.1))) && (decide (a_0.2.2.2.2.2.2.1 = b_1.2.2.2.2.2.2.1))) && (decide (a_0.2.2.2.2.2.2.2.1 = b_1.2.2.2.2.2.2.2.1))) && ((bL F a_0.2.2.2.2.2.2.2.2.1 b_1.2.2.2.2.2.2.2.2.1 ()).getD false)) && ((kN F a_0.2.2.2.2.2.2.2.2.2.1 b_1.2.2.2.2.2.2.2.2.2.1).getD false))))
def aID : PlR := ⟨[(0, .B [2, 3]), (1, .A [2, 3, 5]), (2, .A [4])], []⟩
def aKO : Ty := .pair qj (.pair qj .unit)
def tD (F : Md) : aI := mSpec aKO (.one .bool) (fun x => sD F x.1 x.2.1)
abbrev aFZ (F : Md) : List (FuncId × aI) := [(31, (cG F)), (33, (mI F))]
theorem aRt [Mx] (F : Md) : bJ Tryz.prog GL (aFZ F) := .cons (kO F) xAa (.cons (aEr F) xAa (.nil))
attribute [go_sem] aKO aID
theorem aIE [Mx] (F : Md) : FOK Tryz.prog GL 12 (tD F) := by
 refine bT (aU (aRt F)) mix Tryz.func12 rfl xAa xAc aID fun w0 S x Θ hw h hF => ?_
 obtain ⟨(a_0 : qf), (b_1 : qf), u⟩ := x
 simp only [bX, go_sem]
 replace h : sat (sD F a_0 b_1) _ := h
 unfold sD at h
 refine bD h fun g0 h => bD h fun g1 h => ?_
 exact zaD
attribute [go_sem] tD
end
end Nu
end Go.Proofs
namespace Go.Proofs
open Go.Vc
set_option maxRecDepth 20000
namespace Nu
noncomputable section
set_option maxHeartbeats 4000000
attribute [-go_sem] Ex.kind Ex.text Ex.l
def tE (F : Md) : Option qf :=
 some ((40 : Int), (4 : Int), (0 : Int), (1 : Int), (aP ⟨#[49]⟩), (aP ⟨#[48, 46, 53]⟩), (aP ⟨#[48, 46, 49, 50, 53]⟩), (aP ⟨#[49]⟩), ([((aP ⟨#[97]⟩), ([((aP ⟨#[120]⟩), ((aP ⟨#[49]⟩), ([] : List Nat), ()), (Ex.mk (2 : Int) (aP ⟨#[120]⟩) ([] : List Ex)), ())] : List wa), ([] : List wc), ([] : List qd), ([((aP ⟨#[121]⟩), (Ex.mk (2 : Int) (aP ⟨#[120]⟩) ([] : List Ex)), ())] : List qz), ())] : List qc), ([] : List qm), ())
def aHJ : PlR := ⟨[(0, .B [0]), (1, .B [0, 1]), (2, .B [0])], []⟩
def aIF : Ty := .unit
def aAq (F : Md) : aI := mSpec aIF (.one qj) (fun x => tE F )
abbrev aP0 (F : Md) : List (FuncId × aI) := []
theorem aP1 [Mx] (F : Md) : bJ Tryz.prog GL (aP0 F) := .nil
attribute [go_sem] aIF aHJ
theorem aPt [Mx] (F : Md) : FOK Tryz.prog GL 13 (aAq F) := by
 refine bT (aU (aP1 F)) mix Tryz.func13 rfl xAa xAc aHJ fun w0 S x Θ hw h hF => ?_
 simp only [bX, go_sem]
 replace h : sat (tE F) _ := h
 unfold tE at h
 exact aK hF [.cell 0 36] rfl rfl rfl (aE h) xAd
attribute [go_sem] aAq
end
end Nu
end Go.Proofs
namespace Go.Proofs
open Go.Vc
set_option maxRecDepth 20000
namespace Nu
noncomputable section
set_option maxHeartbeats 4000000
def aPu : ByteArray := ⟨⟨112 :: 114 :: 101 :: 99 :: 32 :: 52 :: 48 :: 10 :: 101 :: 110 :: 100 :: 32 :: 49 :: 10 :: 115 :: 116 :: 101 :: 112 :: 32 :: 48 :: 46 :: 53 :: 32 :: 48 :: 46 :: 49 :: 50 :: 53 :: 32 :: 35 :: 32 :: 102 :: 105 :: 110 :: 101 :: 10 :: 116 :: 111 :: 108 :: 32 :: 49 :: 10 :: 116 :: 114 :: 105 :: 101 :: 115 :: 32 :: 52 :: 10 :: 111 :: 114 :: 100 :: 101 :: 114 :: 32 :: 48 :: 10 :: 106 :: 97 :: 99 :: 111 :: 98 :: 105 :: 10 :: 10 :: 115 :: 117 :: 98 :: 32 :: 97 :: 10 :: 32 :: 115 :: 116 :: 97 :: 116 :: 101 :: 32 :: 120 :: 32 :: 61 :: 32 :: 49 :: 32 :: 100 :: 101 :: 114 :: 32 :: 120 :: 10 :: 111 :: 117 :: 116 :: 32 :: 121 :: 32 :: 61 :: 32 :: 120 :: 10 :: []⟩⟩
@[go_sem]theorem aP2 : (⟨⟨112 :: 114 :: 101 :: 99 :: 32 :: 52 :: 48 :: 10 :: 101 :: 110 :: 100 :: 32 :: 49 :: 10 :: 115 :: 116 :: 101 :: 112 :: 32 :: 48 :: 46 :: 53 :: 32 :: 48 :: 46 :: 49 :: 50 :: 53 :: 32 :: 35 :: 32 :: 102 :: 105 :: 110 :: 101 :: 10 :: 116 :: 111 :: 108 :: 32 :: 49 :: 10 :: 116 :: 114 :: 105 :: 101 :: 115 :: 32 :: 52 :: 10 :: 111 :: 114 :: 100 :: 101 :: 114 :: 32 :: 48 :: 10 :: 106 :: 97 :: 99 :: 111 :: 98 :: 105 :: 10 :: 10 :: 115 :: 117 :: 98 :: 32 :: 97 :: 10 :: 32 :: 115 :: 116 :: 97 :: 116 :: 101 :: 32 :: 120 :: 32 :: 61 :: 32 :: 49 :: 32 :: 100 :: 101 :: 114 :: 32 :: 120 :: 10 :: 111 :: 117 :: 116 :: 32 :: 121 :: 32 :: 61 :: 32 :: 120 :: 10 :: []⟩⟩ : ByteArray) = aPu := rfl
attribute [-go_sem] Ex.kind Ex.text Ex.l
def aCG (F : Md) : Option Bool :=
 (lB F (aP ⟨#[49, 43, 120, 42, 50]⟩)).bind (fun v_3 => (lB F (aP ⟨#[49, 32, 43, 32]⟩)).bind (fun v_5 => (tC F (aP aPu)).bind (fun v_7 => (tC F (aP ⟨#[112, 114, 101, 99, 32, 52, 48, 10, 101, 110, 100, 32, 120, 10]⟩)).bind (fun v_9 => ck ((((v_3.2.2.1 = (0 : Int)) ∧ ((v_3.1.kind) = (6 : Int))) ∧ ((((v_3.1.l).length : Nat) : Int) = (2 : Int))) → ((1 : Int) < (((v_3.1.l).length : Nat) : Int))) (ck (((((((((v_3.2.2.1 = (0 : Int)) ∧ ((v_3.1.kind) = (6 : Int))) ∧ ((((v_3.1.l).length : Nat) : Int) = (2 : Int))) ∧ (((v_3.1.l).getD (1 : Nat) (Ex.mk 0 [] [])).kind = (8 : Int))) ∧ (v_5.2.1 = (4 : Int))) ∧ (v_5.2.2.1 = (6 : Int))) ∧ (v_7.2.2.1 = (0 : Int))) ∧ ((Ty.eqb qn v_7.2.1 ((0 : Int), (0 : Int), ())) = true)) → ((tE F).isSome = true)) (ck (((((((((v_3.2.2.1 = (0 : Int)) ∧ ((v_3.1.kind) = (6 : Int))) ∧ ((((v_3.1.l).length : Nat) : Int) = (2 : Int))) ∧ (((v_3.1.l).getD (1 : Nat) (Ex.mk 0 [] [])).kind = (8 : Int))) ∧ (v_5.2.1 = (4 : Int))) ∧ (v_5.2.2.1 = (6 : Int))) ∧ (v_7.2.2.1 = (0 : Int))) ∧ ((Ty.eqb qn v_7.2.1 ((0 : Int), (0 : Int), ())) = true)) → ((sD F v_7.1 ((tE F).getD ((0 : Int), (0 : Int), (0 : Int), (0 : Int), ([] : List Nat), ([] : List Nat), ([] : List Nat), ([] : List Nat), ([] : List qc), ([] : List qm), ()))).isSome = true)) (some (((((((((((decide (v_3.2.2.1 = (0 : Int))) && (decide ((v_3.1.kind) = (6 : Int)))) && (decide ((((v_3.1.l).length : Nat) : Int) = (2 : Int)))) && (decide (((v_3.1.l).getD (1 : Nat) (Ex.mk 0 [] [])).kind = (8 : Int)))) && (decide (v_5.2.1 = (4 : Int)))) && (decide (v_5.2.2.1 = (6 : Int)))) && (decide (v_7.2.2.1 = (0 : Int)))) && (Ty.eqb qn v_7.2.1 ((0 : Int), (0 : Int), ()))) && ((sD F v_7.1 ((tE F).getD ((0 : Int), (0 : Int), (0 : Int), (0 : Int), ([] : List Nat), ([] : List Nat), ([] : List Nat), ([] : List Nat), ([] : List qc), ([] : List qm), ()))).getD false)) && (decide (v_9.2.2.1 = (6 : Int)))) && (Ty.eqb qn v_9.2.1 ((2 : Int), (1 : Int), ()))))))))))
def aIG : PlR := ⟨[(0, .A []), (1, .B [1, 3]), (2, .B [1, 3, 5, 6]), (3, .B [1, 3, 5, 6, 7, 8, 9]), (4, .B [1, 3, 5, 6, 7, 8, 9, 11, 12]), (5, .A [0])], []⟩
def aF0 : Ty := .unit
def aIH (F : Md) : aI := mSpec aF0 (.one .bool) (fun x => aCG F )
abbrev aAr (F : Md) : List (FuncId × aI) := [(11, (rE F)), (12, (tD F)), (13, (aAq F)), (9, (tA F))]
theorem aRu [Mx] (F : Md) : bJ Tryz.prog GL (aAr F) := .cons (aHF F) xAa (.cons (aIE F) xAa (.cons (aPt F) xAa (.cons (aIt F) xAa (.nil))))
attribute [go_sem] aF0 aIG
theorem aP3 [Mx] (F : Md) : FOK Tryz.prog GL 8 (aIH F) := by
 refine bT (aU (aRu F)) mix Tryz.func8 rfl xAa xAc aIG fun w0 S x Θ hw h hF => ?_
 simp only [bX, go_sem]
 replace h : sat (aCG F) _ := h
 unfold aCG at h
 obtain ⟨v_3, hv, h⟩ := aO h
 try simp only [hv, go_sem]
 obtain ⟨v_5, hv, h⟩ := aO h
 try simp only [hv, go_sem]
 obtain ⟨v_7, hv, h⟩ := aO h
 try simp only [hv, go_sem]
 obtain ⟨v_9, hv, h⟩ := aO h
 try simp only [hv, go_sem]
 obtain ⟨g0, h⟩ := aQ h
 obtain ⟨g1, h⟩ := aQ h
 obtain ⟨g2, h⟩ := aQ h
 repeat (refine ⟨by first | with_reducible assumption | omega | (intros; first | with_reducible assumption | omega) | (simp only [go_sem] at *; first | with_reducible assumption | omega) | (intro _; exact ⟨rfl, by decide⟩) | (intro _; refine (?_ : _ = aD _); rfl) | (refine (?_ : _ = aD _); rfl) | exact ⟨rfl, rfl⟩ | (intro q0; (try have e0 := g0 (by first | exact q0 | omega | (simpa using q0))); (try have e1 := g1 (by first | exact q0 | omega | (simpa using q0))); (try have e2 := g2 (by first | exact q0 | omega | (simpa using q0))); first | assumption | omega) | decide, ?_⟩)
 exact aK hF [.tmp 0] rfl rfl rfl (aE h) xAd
attribute [go_sem] aIH
end
end Nu
end Go.Proofs
namespace Go.Proofs
open Go.Vc
set_option maxRecDepth 20000
namespace Nu
noncomputable section
theorem aXN [Mx] : aCG (some 1000) = some true := by kernel_rfl
def aPw : Bool := true
def aA7 : aI := ⟨aF0, .one .bool, fun _ => True, fun _ => aPw⟩
attribute [go_sem] aA7
theorem aP4 [Mx] [Mx] : FOK Tryz.prog GL 8 aA7 := aQx (aP3 (some 1000)) (fun _ _ _ => aXN)
end
end Nu
end Go.Proofs
namespace Go.Proofs
open Go.Vc
set_option maxRecDepth 20000
namespace Nu
noncomputable section
set_option maxHeartbeats 4000000
def aF1 : ByteArray := ⟨⟨32 :: 32 :: 115 :: 116 :: 97 :: 116 :: 101 :: 32 :: 120 :: 32 :: 61 :: 32 :: 49 :: 32 :: 100 :: 101 :: 114 :: 32 :: 120 :: 32 :: 41 :: 32 :: 35 :: 32 :: 41 :: []⟩⟩
@[go_sem]theorem aP5 : (⟨⟨32 :: 32 :: 115 :: 116 :: 97 :: 116 :: 101 :: 32 :: 120 :: 32 :: 61 :: 32 :: 49 :: 32 :: 100 :: 101 :: 114 :: 32 :: 120 :: 32 :: 41 :: 32 :: 35 :: 32 :: 41 :: []⟩⟩ : ByteArray) = aF1 := rfl
attribute [-go_sem] Ex.kind Ex.text Ex.l
def lW (F : Md) (s_19 : qd) (want_20 : wo) : Option (Bool) :=
 (tC F s_19).bind (fun v_22 => ck ((((aPw = true) ∧ (v_22.2.2.1 = (6 : Int))) ∧ ((Ty.eqb qn v_22.2.1 want_20) = true)) → ((sD F v_22.1 ((0 : Int), (0 : Int), (0 : Int), (0 : Int), ([] : List Nat), ([] : List Nat), ([] : List Nat), ([] : List Nat), ([] : List qc), ([] : List qm), ())).isSome = true)) (some (((aPw && (decide (v_22.2.2.1 = (6 : Int)))) && (Ty.eqb qn v_22.2.1 want_20)) && ((sD F v_22.1 ((0 : Int), (0 : Int), (0 : Int), (0 : Int), ([] : List Nat), ([] : List Nat), ([] : List Nat), ([] : List Nat), ([] : List qc), ([] : List qm), ())).getD false))))
def jN (F : Md) (how_1 : Int) (i_29 : Int) (s_28 : qd) (x_47 : qd) (want_48 : wo) : Option ((qd × Int × wo) ⊕ qi) :=
 if ((IntKind.i64.wrap ((((how_1 % (18446744073709551616 : Int)).toNat % (9 : Nat)) : Nat) : Int)) = (8 : Int)) ∧ (i_29 = (8 : Int)) then ck ((s_28.length) + (aP aF1).length ≤ 9223372036854775807) (ck ((s_28 ++ (aP aF1)).length + (aP ⟨#[10]⟩).length ≤ 9223372036854775807) (ck (I64 (i_29 + (1 : Int))) (some (.inl (((s_28 ++ (aP aF1)) ++ (aP ⟨#[10]⟩)), (i_29 + (1 : Int)), ((9 : Int), (21 : Int), ())))))) else ck ((s_28.length) + (x_47.length) ≤ 9223372036854775807) (ck ((s_28 ++ x_47).length + (aP ⟨#[10]⟩).length ≤ 9223372036854775807) (ck (I64 (i_29 + (1 : Int))) (some (.inl (((s_28 ++ x_47) ++ (aP ⟨#[10]⟩)), (i_29 + (1 : Int)), want_48)))))
def jO (F : Md) (how_1 : Int) (i_29 : Int) (s_28 : qd) (want_30 : wo) (x_46 : qd) : Option ((qd × Int × wo) ⊕ qi) :=
 if ((IntKind.i64.wrap ((((how_1 % (18446744073709551616 : Int)).toNat % (9 : Nat)) : Nat) : Int)) = (7 : Int)) ∧ (i_29 = (9 : Int)) then jN F how_1 i_29 s_28 (aP ⟨#[111, 117, 116, 32, 121, 32, 61, 32, 120, 32, 43]⟩) ((10 : Int), (12 : Int), ()) else jN F how_1 i_29 s_28 x_46 want_30
def pG (F : Md) (where_0 : Int) (how_1 : Int) (s_28 : qd) (i_29 : Int) (want_30 : wo) : Option ((qd × Int × wo) ⊕ qi) :=
 if i_29 < (10 : Int) then ck (0 ≤ i_29 ∧ i_29 < (10 : Int)) (if (i_29 = (IntKind.i64.wrap ((((where_0 % (18446744073709551616 : Int)).toNat % (10 : Nat)) : Nat) : Int))) ∧ ((IntKind.i64.wrap ((((how_1 % (18446744073709551616 : Int)).toNat % (9 : Nat)) : Nat) : Int)) < (7 : Int)) then ck (0 ≤ (IntKind.i64.wrap ((((how_1 % (18446744073709551616 : Int)).toNat % (9 : Nat)) : Nat) : Int)) ∧ (IntKind.i64.wrap ((((how_1 % (18446744073709551616 : Int)).toNat % (9 : Nat)) : Nat) : Int)) < (7 : Int)) (jO F how_1 i_29 s_28 want_30 (([(aP ⟨#[119, 104, 97, 116]⟩), (aP ⟨#[112, 114, 101, 99]⟩), (aP ⟨#[108, 105, 110, 107, 32, 97, 46, 98, 32, 61, 32, 99]⟩), (aP ⟨#[115, 116, 97, 116, 101, 32, 120, 32, 61, 32, 49]⟩), (aP ⟨#[105, 110]⟩), (aP ⟨#[115, 117, 98, 32, 65]⟩), (aP ⟨#[111, 117, 116, 32, 121, 32, 120]⟩)] : List qd).getD (IntKind.i64.wrap ((((how_1 % (18446744073709551616 : Int)).toNat % (9 : Nat)) : Nat) : Int)).toNat ([] : List Nat))) else jO F how_1 i_29 s_28 want_30 (([(aP ⟨#[112, 114, 101, 99, 32, 52, 48]⟩), (aP ⟨#[101, 110, 100, 32, 49]⟩), (aP ⟨#[115, 116, 101, 112, 32, 48, 46, 53, 32, 48, 46, 49, 50, 53]⟩), (aP ⟨#[116, 111, 108, 32, 49]⟩), (aP ⟨#[116, 114, 105, 101, 115, 32, 52]⟩), (aP ⟨#[111, 114, 100, 101, 114, 32, 48]⟩), (aP ⟨#[106, 97, 99, 111, 98, 105]⟩), (aP ⟨#[115, 117, 98, 32, 97]⟩), (aP ⟨#[115, 116, 97, 116, 101, 32, 120, 32, 61, 32, 49, 32, 100, 101, 114, 32, 120]⟩), (aP ⟨#[111, 117, 116, 32, 121, 32, 61, 32, 120]⟩)] : List qd).getD (i_29.toNat) ([] : List Nat))) else some (.inr (s_28, want_30))
def eG (F : Md) (where_0 : Int) (how_1 : Int) : Option Bool :=
 ck (I64 ((IntKind.i64.wrap ((((where_0 % (18446744073709551616 : Int)).toNat % (10 : Nat)) : Nat) : Int)) + (1 : Int))) ((eH F (fun d : qd × Int × wo => pG F where_0 how_1 d.1 d.2.1 d.2.2) ((aP ⟨#[]⟩), (0 : Int), (((IntKind.i64.wrap ((((where_0 % (18446744073709551616 : Int)).toNat % (10 : Nat)) : Nat) : Int)) + (1 : Int)), (1 : Int), ()))).bind (fun e => lW F e.1 e.2))
def aB1 : PlR := ⟨[(0, .A [0, 1]), (1, .A [0, 1, 5]), (2, .A [0, 1, 5, 6]), (3, .A [5, 6, 7, 8]), (4, .B [5, 6, 7, 8, 9]), (5, .A [5, 6, 7, 8, 9, 10]), (6, .A [5, 6, 7, 8, 9, 10, 11]), (7, .A [5, 6, 7, 8, 9, 10, 11, 32]), (8, .A [5, 6, 7, 8, 9, 10, 11]), (9, .A [5, 6, 7, 8, 9, 10, 11, 12]), (10, .A [5, 6, 7, 8, 9, 10, 11, 12, 45]), (11, .A [5, 6, 7, 8, 9, 10, 11, 12]), (12, .A [5, 6, 7, 8, 9, 10, 11, 12, 55]), (13, .A [5, 6, 7, 8, 9, 10, 11, 12]), (14, .B [5, 6, 7, 8, 9, 10, 11, 12]), (15, .A [5, 6, 7, 8, 9, 10, 11, 12, 62]), (16, .A [5, 6, 7, 8, 9, 10, 11, 12]), (17, .B [5, 6, 7, 8, 9, 10, 11, 12]), (18, .A [5, 6, 7, 8, 9, 10, 11]), (19, .B [9, 13, 14, 15]), (20, .A [4])], [(9, 22), (13, 15), (15, 18)]⟩
def sE : Ty := .pair qe q9
def aB2 (F : Md) : aI := mSpec sE (.one .bool) (fun x => eG F x.1 x.2.1)
abbrev sF (F : Md) : List (FuncId × aI) := [(11, (rE F)), (12, (tD F)), (8, aA7)]
theorem aJk [Mx] (F : Md) : bJ Tryz.prog GL (sF F) := .cons (aHF F) xAa (.cons (aIE F) xAa (.cons aP4 xAa (.nil)))
attribute [go_sem] sE aB1
theorem aH8 [Mx] (F : Md) : FOK Tryz.prog GL 5 (aB2 F) := by
 refine bT (aU (aJk F)) mix Tryz.func5 rfl xAa xAc aB1 fun w0 S x Θ hw h hF => ?_
 obtain ⟨(where_0 : Int), (how_1 : Int), u⟩ := x
 simp only [bX, go_sem]
 replace h : sat (eG F where_0 how_1) _ := h
 unfold eG at h
 obtain ⟨g0, h⟩ := aQ h
 try simp only [I64, I32] at g0
 repeat (refine ⟨zAA, ?_⟩)
 refine eK hF (D := qd × wo) (fun d => sat (lW F d.1 d.2) Θ) [] (fun d => [(9, .ptr 0 []), (10, .val .str d.1)]) (fun d => [.inr (.box 2 (.val qn d.2))]) ?_ ?_
 ·simp only [go_sem]
  refine cI hF (D := qd × Int × wo) [7, 8] (fun d => [(5, .val wg ([(aP ⟨#[112, 114, 101, 99, 32, 52, 48]⟩), (aP ⟨#[101, 110, 100, 32, 49]⟩), (aP ⟨#[115, 116, 101, 112, 32, 48, 46, 53, 32, 48, 46, 49, 50, 53]⟩), (aP ⟨#[116, 111, 108, 32, 49]⟩), (aP ⟨#[116, 114, 105, 101, 115, 32, 52]⟩), (aP ⟨#[111, 114, 100, 101, 114, 32, 48]⟩), (aP ⟨#[106, 97, 99, 111, 98, 105]⟩), (aP ⟨#[115, 117, 98, 32, 97]⟩), (aP ⟨#[115, 116, 97, 116, 101, 32, 120, 32, 61, 32, 49, 32, 100, 101, 114, 32, 120]⟩), (aP ⟨#[111, 117, 116, 32, 121, 32, 61, 32, 120]⟩)] : List qd)), (6, .val wg ([(aP ⟨#[119, 104, 97, 116]⟩), (aP ⟨#[112, 114, 101, 99]⟩), (aP ⟨#[108, 105, 110, 107, 32, 97, 46, 98, 32, 61, 32, 99]⟩), (aP ⟨#[115, 116, 97, 116, 101, 32, 120, 32, 61, 32, 49]⟩), (aP ⟨#[105, 110]⟩), (aP ⟨#[115, 117, 98, 32, 65]⟩), (aP ⟨#[111, 117, 116, 32, 121, 32, 120]⟩)] : List qd)), (9, .ptr 0 []), (10, .val .str d.1), (11, .val qe d.2.1)]) (fun d => [.inr (.box 2 (.val qn d.2.2))]) h rfl (by (try simp only [lY, dP, true_or, and_self, go_sem]) <;> (repeat' apply And.intro) <;> first | rfl | (left; rfl) | (right; rfl) | (left; simp only [go_sem]; done) | (right; simp only [go_sem]; done) | (simp; done) | (simp only [*]; done) | omega) ?_
  rintro ⟨s_28, i_29, want_30⟩ A7 T7 hA7 hE7 h
  simp only [go_sem]
  replace h : sat (pG F where_0 how_1 s_28 i_29 want_30) _ := h
  unfold pG at h
  refine fO h (fun hc h => ?_) fun hc h => ?_
  ·obtain ⟨g0, h⟩ := aQ h
   repeat (refine ⟨zAA, ?_⟩)
   refine eK hF (D := qd) (fun d => sat (jO F how_1 i_29 s_28 want_30 d) T7) [5, 6, 7, 8, 10, 11] (fun d => [(9, .ptr 0 []), (12, .val .str d)]) (fun d => [.inr (.box 2 (.val qn want_30))]) ?_ ?_
   ·simp only [go_sem]
    refine ⟨fun hc => ?_, fun hc => ?_⟩
    ·replace h := iG hc h
     obtain ⟨g0, h⟩ := aQ h
     repeat (refine ⟨zAA, ?_⟩)
     exact aY (([(aP ⟨#[119, 104, 97, 116]⟩), (aP ⟨#[112, 114, 101, 99]⟩), (aP ⟨#[108, 105, 110, 107, 32, 97, 46, 98, 32, 61, 32, 99]⟩), (aP ⟨#[115, 116, 97, 116, 101, 32, 120, 32, 61, 32, 49]⟩), (aP ⟨#[105, 110]⟩), (aP ⟨#[115, 117, 98, 32, 65]⟩), (aP ⟨#[111, 117, 116, 32, 121, 32, 120]⟩)] : List qd).getD (IntKind.i64.wrap ((((how_1 % (18446744073709551616 : Int)).toNat % (9 : Nat)) : Nat) : Int)).toNat ([] : List Nat)) h rfl xAb
    ·replace h := iH hc h
     exact aY (([(aP ⟨#[112, 114, 101, 99, 32, 52, 48]⟩), (aP ⟨#[101, 110, 100, 32, 49]⟩), (aP ⟨#[115, 116, 101, 112, 32, 48, 46, 53, 32, 48, 46, 49, 50, 53]⟩), (aP ⟨#[116, 111, 108, 32, 49]⟩), (aP ⟨#[116, 114, 105, 101, 115, 32, 52]⟩), (aP ⟨#[111, 114, 100, 101, 114, 32, 48]⟩), (aP ⟨#[106, 97, 99, 111, 98, 105]⟩), (aP ⟨#[115, 117, 98, 32, 97]⟩), (aP ⟨#[115, 116, 97, 116, 101, 32, 120, 32, 61, 32, 49, 32, 100, 101, 114, 32, 120]⟩), (aP ⟨#[111, 117, 116, 32, 121, 32, 61, 32, 120]⟩)] : List qd).getD (i_29.toNat) ([] : List Nat)) h rfl xAb
   ·rintro x_46 h
    simp only [go_sem]
    replace h : sat (jO F how_1 i_29 s_28 want_30 x_46) _ := h
    unfold jO at h
    refine eK hF (D := qd × wo) (fun d => sat (jN F how_1 i_29 s_28 d.1 d.2) T7) [5, 6, 7, 8, 10, 11] (fun d => [(9, .ptr 0 []), (12, .val .str d.1)]) (fun d => [.inr (.box 2 (.val qn d.2))]) ?_ ?_
    ·simp only [go_sem]
     refine ⟨fun hc => ?_, fun hc => ?_⟩
     ·replace h := iG hc h
      exact aY ((aP ⟨#[111, 117, 116, 32, 121, 32, 61, 32, 120, 32, 43]⟩), ((10 : Int), (12 : Int), ())) h rfl xAb
     ·replace h := iH hc h
      exact aY (x_46, want_30) h rfl xAb
    ·rintro ⟨x_47, want_48⟩ h
     simp only [go_sem]
     replace h : sat (jN F how_1 i_29 s_28 x_47 want_48) _ := h
     unfold jN at h
     refine ⟨fun hc => ?_, fun hc => ?_⟩
     ·replace h := iG hc h
      exact zaz
     ·replace h := iH hc h
      exact zaz
  ·replace h := yaF (hE7 _ (aE h))
   exact aY (s_28, want_30) h rfl xAb
 ·rintro ⟨s_19, want_20⟩ h
  simp only [go_sem]
  replace h : sat (lW F s_19 want_20) _ := h
  unfold lW at h
  obtain ⟨v_22, hv, h⟩ := aO h
  try simp only [hv, go_sem]
  obtain ⟨g0, h⟩ := aQ h
  repeat (refine ⟨zAC, ?_⟩)
  exact aK hF [.tmp 4] rfl rfl rfl (aE h) (by (simp only [aT, go_sem]) <;> first | rfl | (simp; done))
attribute [go_sem] aB2
end
end Nu
end Go.Proofs
namespace Go.Proofs
open Go.Vc
set_option maxRecDepth 100000
namespace Nu
def aL2 (f : Int → Int → Option Bool) (a n m : Nat) : Bool := (List.range n).all fun i => (List.range m).all fun k => f ((a + i : Nat) : Int) (k : Int) == some true
theorem aE4 {f : Int → Int → Option Bool} {a n m : Nat} (h : aL2 f a n m = true) {i k : Nat} (h1 : a ≤ i) (h2 : i < a + n) (h3 : k < m) : f (i : Int) (k : Int) = some true := by
 have := List.all_eq_true.1 (List.all_eq_true.1 h (i - a) (List.mem_range.2 (by omega))) k (List.mem_range.2 h3)
 rw [show a + (i - a) = i from by omega] at this
 simpa using this
theorem aRv [Mx] : aL2 (eG (some 1000)) 0 2 9 = true := by kernel_rfl
theorem aRw [Mx] : aL2 (eG (some 1000)) 2 2 9 = true := by kernel_rfl
theorem aRx [Mx] : aL2 (eG (some 1000)) 4 2 9 = true := by kernel_rfl
theorem aRy [Mx] : aL2 (eG (some 1000)) 6 2 9 = true := by kernel_rfl
theorem aRz [Mx] : aL2 (eG (some 1000)) 8 2 9 = true := by kernel_rfl
theorem aPx {x n : Nat} (h : x < n) (hn : n < 18446744073709551616) : (((x : Nat) : Int) % (18446744073709551616 : Int)).toNat % n = x := by
 rw [show (((x : Nat) : Int) % (18446744073709551616 : Int)) = (x : Int) from by omega, Int.toNat_natCast, Nat.mod_eq_of_lt h]
theorem aNG [Mx] (a b : Int) : eG (some 1000) a b = some true := by
 have h1 : (a % 18446744073709551616).toNat % 10 < 10 := Nat.mod_lt _ xAc
 have h2 : (b % 18446744073709551616).toNat % 9 < 9 := Nat.mod_lt _ xAc
 have e : eG (some 1000) a b = eG (some 1000) (((a % 18446744073709551616).toNat % 10 : Nat) : Int) (((b % 18446744073709551616).toNat % 9 : Nat) : Int) := by
  have e1 := aPx h1 xAc
  have e2 := aPx h2 xAc
  generalize ha : (a % 18446744073709551616).toNat % 10 = i at *
  generalize hb : (b % 18446744073709551616).toNat % 9 = k at *
  unfold eG lW pG jO jN
  simp only [ha, hb, e1, e2]
 rw [e]
 generalize (a % 18446744073709551616).toNat % 10 = i at *
 generalize (b % 18446744073709551616).toNat % 9 = k at *
 by_cases g0 : i < 2
 ·exact aE4 aRv (by omega) (by omega) h2
 by_cases g2 : i < 4
 ·exact aE4 aRw (by omega) (by omega) h2
 by_cases g4 : i < 6
 ·exact aE4 aRx (by omega) (by omega) h2
 by_cases g6 : i < 8
 ·exact aE4 aRy (by omega) (by omega) h2
 exact aE4 aRz (by omega) (by omega) h2
end Nu
end Go.Proofs
