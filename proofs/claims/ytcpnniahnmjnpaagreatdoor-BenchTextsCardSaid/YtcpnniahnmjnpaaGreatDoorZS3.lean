import Derived.Test.YtcpnniahnmjnpaaGreatDoorZS2
set_option linter.unusedVariables false
set_option linter.unusedSimpArgs false
namespace Go.Proofs
open Go.Vc
set_option maxRecDepth 20000
namespace Nu
noncomputable section
set_option maxHeartbeats 4000000
attribute [-go_sem] Ex.kind Ex.text Ex.l
def cO (F : Md) (s_0 : qd) (cutset_1 : qd) : Option qd :=
 if (s_0 = (aU ⟨#[]⟩)) ∨ (cutset_1 = (aU ⟨#[]⟩)) then some s_0 else ck (((cutset_1.length : Int) = (1 : Int)) → ((0 : Int) < (cutset_1.length : Int))) (if ((cutset_1.length : Int) = (1 : Int)) ∧ ((cutset_1.getD (0 : Nat) (0 : Nat)) < (128 : Nat)) then ck ((0 : Int) < (cutset_1.length : Int)) ((kV F s_0 (cutset_1.getD (0 : Nat) (0 : Nat))).bind (fun v_8 => some v_8)) else (jA F cutset_1).bind (fun v_13 => if v_13.2.1 = true then (kJ F s_0 v_13.1).bind (fun v_17 => some v_17) else none))
def aB3 : PlR := ⟨[(0, .A [0, 1]), (1, .A [0, 1, 12]), (2, .A [4]), (3, .A [0, 1, 21]), (4, .A [4]), (5, .B [0, 1, 5, 6]), (6, .A [0, 1, 5, 31]), (7, .A [4]), (8, .stop)], []⟩
def aDm : Ty := .pair .str wh
def lG (F : Md) : aI := mSpec aDm (.one .str) (fun x => cO F x.1 x.2.1)
def rX (F : Md) : List (FuncId × aI) := [(46, (eY F)), (93, (iC F)), (94, (gN F))]
theorem aJk [Mx] (F : Md) : bH Tryz.prog GL (rX F) := .cons (qY F) (by kernel_rfl) (.cons (yM F) (by kernel_rfl) (.cons (wM F) (by kernel_rfl) (.nil)))
theorem aGB (F : Md) : gam (rX F) 46 = some (eY F) := rfl
theorem aGC (F : Md) : gam (rX F) 93 = some (iC F) := rfl
theorem aGD (F : Md) : gam (rX F) 94 = some (gN F) := rfl
attribute [go_sem] aDm aB3 aGB aGC aGD
theorem aB4 [Mx] (F : Md) : FOK Tryz.prog GL 49 (lG F) := by
 refine bS (aT (aJk F)) mix Tryz.func49 rfl (by kernel_rfl) (by decide) aB3 fun w0 S x Θ hw h hF => ?_
 obtain ⟨(s_0 : qd), (cutset_1 : qd), u⟩ := x
 simp only [bX, go_sem]
 replace h : sat (cO F s_0 cutset_1) _ := h
 unfold cO at h
 exact zai
attribute [go_sem] lG
def lH (F : Md) (s_0 : qd) (cutset_1 : qd) : Option qd :=
 if (s_0 = (aU ⟨#[]⟩)) ∨ (cutset_1 = (aU ⟨#[]⟩)) then some s_0 else ck (((cutset_1.length : Int) = (1 : Int)) → ((0 : Int) < (cutset_1.length : Int))) (if ((cutset_1.length : Int) = (1 : Int)) ∧ ((cutset_1.getD (0 : Nat) (0 : Nat)) < (128 : Nat)) then ck ((0 : Int) < (cutset_1.length : Int)) ((kI F s_0 (cutset_1.getD (0 : Nat) (0 : Nat))).bind (fun v_8 => some v_8)) else (jA F cutset_1).bind (fun v_13 => if v_13.2.1 = true then (jQ F s_0 v_13.1).bind (fun v_17 => some v_17) else none))
def aBv : PlR := ⟨[(0, .A [0, 1]), (1, .A [0, 1, 12]), (2, .A [4]), (3, .A [0, 1, 21]), (4, .A [4]), (5, .B [0, 1, 5, 6]), (6, .A [0, 1, 5, 31]), (7, .A [4]), (8, .stop)], []⟩
def aB5 : Ty := .pair .str wh
def qE (F : Md) : aI := mSpec aB5 (.one .str) (fun x => lH F x.1 x.2.1)
def qQ (F : Md) : List (FuncId × aI) := [(45, (gM F)), (46, (eY F)), (47, (gB F))]
theorem aIe [Mx] (F : Md) : bH Tryz.prog GL (qQ F) := .cons (wI F) (by kernel_rfl) (.cons (qY F) (by kernel_rfl) (.cons (vM F) (by kernel_rfl) (.nil)))
theorem aFW (F : Md) : gam (qQ F) 45 = some (gM F) := rfl
theorem aFX (F : Md) : gam (qQ F) 46 = some (eY F) := rfl
theorem aFY (F : Md) : gam (qQ F) 47 = some (gB F) := rfl
attribute [go_sem] aB5 aBv aFW aFX aFY
theorem aHz [Mx] (F : Md) : FOK Tryz.prog GL 26 (qE F) := by
 refine bS (aT (aIe F)) mix Tryz.func26 rfl (by kernel_rfl) (by decide) aBv fun w0 S x Θ hw h hF => ?_
 obtain ⟨(s_0 : qd), (cutset_1 : qd), u⟩ := x
 simp only [bX, go_sem]
 replace h : sat (lH F s_0 cutset_1) _ := h
 unfold lH at h
 exact zai
attribute [go_sem] qE
def lP (F : Md) (s_0 : qd) (prefix_1 : qd) : Option qd :=
 (jS F s_0 prefix_1).bind (fun v_8 => if v_8 = true then ck (0 ≤ (prefix_1.length : Int) ∧ (prefix_1.length : Int) ≤ (s_0.length : Int)) (some (List.drop (prefix_1.length) s_0)) else some s_0)
def uD : PlR := ⟨[(0, .A [0, 1]), (1, .A [0, 1, 7]), (2, .A [4]), (3, .A [4])], []⟩
def vU : Ty := .pair .str wh
def lA (F : Md) : aI := mSpec vU (.one .str) (fun x => lP F x.1 x.2.1)
def vV (F : Md) : List (FuncId × aI) := [(188, (gD F))]
theorem aDz [Mx] (F : Md) : bH Tryz.prog GL (vV F) := .cons (vS F) (by kernel_rfl) (.nil)
theorem aBw (F : Md) : gam (vV F) 188 = some (gD F) := rfl
attribute [go_sem] vU uD aBw
theorem aDn [Mx] (F : Md) : FOK Tryz.prog GL 186 (lA F) := by
 refine bS (aT (aDz F)) mix Tryz.func186 rfl (by kernel_rfl) (by decide) uD fun w0 S x Θ hw h hF => ?_
 obtain ⟨(s_0 : qd), (prefix_1 : qd), u⟩ := x
 simp only [bX, go_sem]
 replace h : sat (lP F s_0 prefix_1) _ := h
 unfold lP at h
 obtain ⟨v_8, hv, h⟩ := aN h
 try simp only [hv, go_sem]
 refine aHc h (fun hc h => ?_) fun hc h => ?_
 ·refine aZ h fun g0 h => ?_
  exact zaD
 ·exact aK hF [.tmp 4] rfl rfl rfl (aE h) (by simp only [aS, go_sem])
attribute [go_sem] lA
def qF (F : Md) (s_0 : qd) (prefix_1 : qd) : Option qd :=
 (lP F s_0 prefix_1).bind (fun v_6 => some v_6)
def aAE : PlR := ⟨[(0, .A [0, 1]), (1, .A [4])], []⟩
def aBx : Ty := .pair .str wh
def pF (F : Md) : aI := mSpec aBx (.one .str) (fun x => qF F x.1 x.2.1)
def aBy (F : Md) : List (FuncId × aI) := [(186, (lA F))]
theorem aHA [Mx] (F : Md) : bH Tryz.prog GL (aBy F) := .cons (aDn F) (by kernel_rfl) (.nil)
theorem aEv (F : Md) : gam (aBy F) 186 = some (lA F) := rfl
attribute [go_sem] aBx aAE aEv
theorem aGE [Mx] (F : Md) : FOK Tryz.prog GL 172 (pF F) := by
 refine bS (aT (aHA F)) mix Tryz.func172 rfl (by kernel_rfl) (by decide) aAE fun w0 S x Θ hw h hF => ?_
 obtain ⟨(s_0 : qd), (prefix_1 : qd), u⟩ := x
 simp only [bX, go_sem]
 replace h : sat (qF F s_0 prefix_1) _ := h
 unfold qF at h
 obtain ⟨v_6, hv, h⟩ := aN h
 exact zaZ
attribute [go_sem] pF
def lB (F : Md) (w_0 : qd) : Option Bool :=
 (qF F w_0 (aU ⟨#[45]⟩)).bind (fun v_8 => (qL F v_8).bind (fun v_9 => some v_9))
def aGl : PlR := ⟨[(0, .A [0]), (1, .A [2])], []⟩
def aHB : Ty := .pair .str .unit
def xM (F : Md) : aI := mSpec aHB (.one .bool) (fun x => lB F x.1)
def aDo (F : Md) : List (FuncId × aI) := [(172, (pF F)), (98, (rK F))]
theorem aPB [Mx] (F : Md) : bH Tryz.prog GL (aDo F) := .cons (aGE F) (by kernel_rfl) (.cons (aHm F) (by kernel_rfl) (.nil))
theorem aJl (F : Md) : gam (aDo F) 172 = some (pF F) := rfl
theorem aKE (F : Md) : gam (aDo F) 98 = some (rK F) := rfl
attribute [go_sem] aHB aGl aJl aKE
theorem aNI [Mx] (F : Md) : FOK Tryz.prog GL 133 (xM F) := by
 refine bS (aT (aPB F)) mix Tryz.func133 rfl (by kernel_rfl) (by decide) aGl fun w0 S x Θ hw h hF => ?_
 obtain ⟨(w_0 : qd), u⟩ := x
 simp only [bX, go_sem]
 replace h : sat (lB F w_0) _ := h
 unfold lB at h
 obtain ⟨v_8, hv, h⟩ := aN h
 try simp only [hv, go_sem]
 obtain ⟨v_9, hv, h⟩ := aN h
 try simp only [hv, go_sem]
 exact zaG
attribute [go_sem] xM
def lC (F : Md) (o0_1 : qn) : Option (qn ⊕ q8) :=
 some (.inr ((o0_1.1, (1 : Int), ()), ()))
def eT (F : Md) : fU where
 D := qn × (qn ⊕ q8)
 av := fun d => [.ptr 0 []]
 hp := fun d => [.box 3 (.val qk d.1)]
 m := 1
 pre := fun d => lC F d.1 = some d.2
 out := fun d => match d.2 with | .inl r => .ret (.tup []) [.box 3 (.val qk (r))] | .inr p => .pan ⟨65, wi, p⟩ [.box 3 (.junk)]
def aDV (F : Md) : List (FuncId × aI) := []
theorem aDW [Mx] (F : Md) : bH Tryz.prog GL (aDV F) := .nil
theorem iL [Mx] (F : Md) : GOK Tryz.prog GL 57 (eT F) := by
 refine eF (aT (aDW F)) Tryz.func57 rfl (by kernel_rfl) (fun _ => Nat.le_of_ble_eq_true rfl) fun c0 w0 d hw1 hw2 h hn => ?_
 have hF : fT ⟨Tryz.prog, EM (aDV F), GM (eT F) c0 d, w0, Tryz.f57.ntmps, []⟩ := ⟨aT (aDW F), mix⟩
 obtain ⟨(o0_1 : qn), r⟩ := d
 replace h : lC F o0_1 = some r := h
 have hw1 : AV.wfL [.ptr 0 []] := hw1
 simp only [AV.wfL, AV.wfV, Ty.wf, eR] at hw1
 show Tri _ _ _ [(0, .ptr 0 [])] [.box 3 (.val qk o0_1)]
 unfold lC at h
 refine aC hF (aG (l := []) (.nil)) [] [] ?_
 exact zaU
attribute [go_sem] eT
def dE (F : Md) (is_1 : Bool) (o0_2 : qn) : Option (qn ⊕ q8) :=
 if ¬ (is_1 = true) then (lC F o0_2).bind (fun e => match e with | .inl r_4 => some (.inl r_4) | .inr p_5 => some (.inr p_5)) else some (.inl o0_2)
def bJ (F : Md) : fU where
 D := Bool × qn × (qn ⊕ q8)
 av := fun d => [.ptr 0 [], .val .bool d.1]
 hp := fun d => [.box 3 (.val qk d.2.1)]
 m := 1
 pre := fun d => dE F d.1 d.2.1 = some d.2.2
 out := fun d => match d.2.2 with | .inl r => .ret (.tup []) [.box 3 (.val qk (r))] | .inr p => .pan ⟨65, wi, p⟩ [.box 3 (.junk)]
def aDX (F : Md) : List (FuncId × aI) := []
theorem aDY [Mx] (F : Md) : bH Tryz.prog GL (aDX F) := .nil
theorem bQ [Mx] (F : Md) : GOK Tryz.prog GL 54 (bJ F) := by
 refine eF (aT (aDY F)) Tryz.func54 rfl (by kernel_rfl) (fun _ => Nat.le_of_ble_eq_true rfl) fun c0 w0 d hw1 hw2 h hn => ?_
 have hF : fT ⟨Tryz.prog, EM (aDX F), GM (bJ F) c0 d, w0, Tryz.f54.ntmps, []⟩ := ⟨aT (aDY F), mix⟩
 obtain ⟨(is_1 : Bool), (o0_2 : qn), r⟩ := d
 replace h : dE F is_1 o0_2 = some r := h
 have hw1 : AV.wfL [.ptr 0 [], .val .bool is_1] := hw1
 simp only [AV.wfL, AV.wfV, Ty.wf, eR] at hw1
 show Tri _ _ _ [(0, .ptr 0 []), (1, .val .bool is_1)] [.box 3 (.val qk o0_2)]
 unfold dE at h
 refine aB (aF hF [0, 5] ?_)
 simp only [go_sem]
 refine aA (bG rfl (fun hc => ?_) (fun hc => ?_))
 ·try simp only [go_sem] at hc
  have h := eB zAB h
  obtain ⟨e, he1, h⟩ := bind_some h
  rcases e with r_4 | p_5
  ·try dsimp only at h
   refine aC hF (aG (l := [(57, ⟨eT F, [0], (o0_2, .inl r_4)⟩)]) (.cons (iL F) (by kernel_rfl) (.nil))) [] [] ?_
   exact zaL
  ·try dsimp only at h
   refine aC hF (aG (l := [(57, ⟨eT F, [0], (o0_2, .inr p_5)⟩)]) (.cons (iL F) (by kernel_rfl) (.nil))) [] [] ?_
   exact zaU
 ·try simp only [go_sem] at hc
  exact za2
attribute [go_sem] bJ
def jI (F : Md) (o0_1 : qn) : Option (qd × qn) :=
 ck (0 ≤ o0_1.2.1 ∧ o0_1.2.1 ≤ (o0_1.2.2.1.length : Int)) (ck ((cO F (List.drop (o0_1.2.1.toNat) o0_1.2.2.1) (aU ⟨#[32]⟩)).isSome = true) (ck (aP9 ((cO F (List.drop (o0_1.2.1.toNat) o0_1.2.2.1) (aU ⟨#[32]⟩)).getD ([] : List Nat)) (aU ⟨#[32]⟩)) (some ((wS ((cO F (List.drop (o0_1.2.1.toNat) o0_1.2.2.1) (aU ⟨#[32]⟩)).getD ([] : List Nat)) (aU ⟨#[32]⟩)).1, o0_1))))
def gI (F : Md) : fU where
 D := qn × (qd × qn)
 av := fun d => [.ptr 0 []]
 hp := fun d => [.box 3 (.val qk d.1)]
 m := 1
 pre := fun d => jI F d.1 = some d.2
 out := fun d => (fun r : (qd × qn) => .ret (.val .str r.1) [.box 3 (.val qk r.2)]) d.2
def tH (F : Md) : List (FuncId × aI) := [(25, mQ), (49, (lG F))]
theorem aDZ [Mx] (F : Md) : bH Tryz.prog GL (tH F) := .cons aDl (by kernel_rfl) (.cons (aB4 F) (by kernel_rfl) (.nil))
@[go_sem]theorem aHC (F : Md) : gam (tH F) 25 = some mQ := rfl
@[go_sem]theorem aHD (F : Md) : gam (tH F) 49 = some (lG F) := rfl
theorem lX [Mx] (F : Md) : GOK Tryz.prog GL 27 (gI F) := by
 refine eF (aT (aDZ F)) Tryz.func27 rfl (by kernel_rfl) (fun _ => Nat.le_of_ble_eq_true rfl) fun c0 w0 d hw1 hw2 h hn => ?_
 have hF : fT ⟨Tryz.prog, EM (tH F), GM (gI F) c0 d, w0, Tryz.f27.ntmps, []⟩ := ⟨aT (aDZ F), mix⟩
 obtain ⟨(o0_1 : qn), r⟩ := d
 replace h : jI F o0_1 = some r := h
 have hw1 : AV.wfL [.ptr 0 []] := hw1
 simp only [AV.wfL, AV.wfV, Ty.wf, eR] at hw1
 show Tri _ _ _ [(0, .ptr 0 [])] [.box 3 (.val qk o0_1)]
 unfold jI at h
 refine aB (aF hF [0] ?_)
 simp only [go_sem]
 refine aA (aB (aF hF [3] ?_))
 simp only [go_sem]
 obtain ⟨g0, h⟩ := aP h
 obtain ⟨g1, h⟩ := aP h
 repeat (refine ⟨zAA, ?_⟩)
 refine aA (aB (aF hF [4] ?_))
 simp only [go_sem]
 obtain ⟨g0, h⟩ := aP h
 exact zaS
attribute [go_sem] gI
def dT (F : Md) (o0_1 : qn) : Option ((qd × qn) ⊕ q8) :=
 (jI F o0_1).bind (fun r_4 => (dE F (!(decide (r_4.1 = (aU ⟨#[]⟩)))) r_4.2).bind (fun e => match e with | .inl r_9 => ck (0 ≤ r_9.2.1 ∧ r_9.2.1 ≤ (r_9.2.2.1.length : Int)) (ck (aP9 (List.drop (r_9.2.1.toNat) r_9.2.2.1) r_4.1) (ck (I64 (r_9.2.1 + (aLW (List.drop (r_9.2.1.toNat) r_9.2.2.1) r_4.1))) (ck (I64 ((r_9.2.1 + (aLW (List.drop (r_9.2.1.toNat) r_9.2.2.1) r_4.1)) + (r_4.1.length : Int))) (some (.inl (r_4.1, r_9.1, ((r_9.2.1 + (aLW (List.drop (r_9.2.1.toNat) r_9.2.2.1) r_4.1)) + (r_4.1.length : Int)), r_9.2.2.1, ())))))) | .inr p_10 => some (.inr p_10)))
def bM (F : Md) : fU where
 D := qn × ((qd × qn) ⊕ q8)
 av := fun d => [.ptr 0 []]
 hp := fun d => [.box 3 (.val qk d.1)]
 m := 1
 pre := fun d => dT F d.1 = some d.2
 out := fun d => match d.2 with | .inl r => .ret (.val .str r.1) [.box 3 (.val qk r.2)] | .inr p => .pan ⟨65, wi, p⟩ [.box 3 (.junk)]
def aAc (F : Md) : List (FuncId × aI) := [(88, uW)]
theorem aD0 [Mx] (F : Md) : bH Tryz.prog GL (aAc F) := .cons aLZ (by kernel_rfl) (.nil)
@[go_sem]theorem aHE (F : Md) : gam (aAc F) 88 = some uW := rfl
theorem bR [Mx] (F : Md) : GOK Tryz.prog GL 53 (bM F) := by
 refine eF (aT (aD0 F)) Tryz.func53 rfl (by kernel_rfl) (fun _ => Nat.le_of_ble_eq_true rfl) fun c0 w0 d hw1 hw2 h hn => ?_
 have hF : fT ⟨Tryz.prog, EM (aAc F), GM (bM F) c0 d, w0, Tryz.f53.ntmps, []⟩ := ⟨aT (aD0 F), mix⟩
 obtain ⟨(o0_1 : qn), r⟩ := d
 replace h : dT F o0_1 = some r := h
 have hw1 : AV.wfL [.ptr 0 []] := hw1
 simp only [AV.wfL, AV.wfV, Ty.wf, eR] at hw1
 show Tri _ _ _ [(0, .ptr 0 [])] [.box 3 (.val qk o0_1)]
 unfold dT at h
 refine aB (aF hF [0] ?_)
 simp only [go_sem]
 obtain ⟨r_4, he1, h⟩ := bind_some h
 try dsimp only at h
 refine aA (aB (aC hF (aG (l := [(27, ⟨gI F, [0], (o0_1, r_4)⟩)]) (.cons (lX F) (by kernel_rfl) (.nil))) [0, 3] [] ?_))
 simp only [go_sem]
 repeat (refine ⟨zAA, ?_⟩)
 obtain ⟨e, he2, h⟩ := bind_some h
 rcases e with r_9 | p_10
 ·try dsimp only at h
  refine aA (aB (aC hF (aG (l := [(54, ⟨bJ F, [0], ((!(decide (r_4.1 = (aU ⟨#[]⟩)))), r_4.2, .inl r_9)⟩)]) (.cons (bQ F) (by kernel_rfl) (.nil))) [0, 3] [] ?_))
  simp only [go_sem]
  repeat (refine ⟨zAA, ?_⟩)
  refine aA (aB (aSj hF 22 (by decide) [3] ?_))
  simp only [go_sem]
  obtain ⟨g0, h⟩ := aP h
  obtain ⟨g1, h⟩ := aP h
  obtain ⟨g2, h⟩ := aP h
  obtain ⟨g3, h⟩ := aP h
  try simp only [I64, I32] at g2
  try simp only [I64, I32] at g3
  repeat (refine ⟨zAA, ?_⟩)
  simp only [aXt, go_sem]
  try simp only [Int.reduceMod, Int.reduceToNat]
  exact zaS
 ·try dsimp only at h
  refine aA (aB (aC hF (aG (l := [(54, ⟨bJ F, [0], ((!(decide (r_4.1 = (aU ⟨#[]⟩)))), r_4.2, .inr p_10)⟩)]) (.cons (bQ F) (by kernel_rfl) (.nil))) [0, 3] [] ?_))
  simp only [go_sem]
  exact zaK
attribute [go_sem] bM
def eO (F : Md) (w_1 : qd) (o0_2 : qn) : Option (qn ⊕ q8) :=
 (dT F o0_2).bind (fun e => match e with | .inl r_4 => (dE F (decide (r_4.1 = w_1)) r_4.2).bind (fun e => match e with | .inl r_5 => some (.inl r_5) | .inr p_6 => some (.inr p_6)) | .inr p_7 => some (.inr p_7))
def bU (F : Md) : fU where
 D := qd × qn × (qn ⊕ q8)
 av := fun d => [.ptr 0 [], .val .str d.1]
 hp := fun d => [.box 3 (.val qk d.2.1)]
 m := 1
 pre := fun d => eO F d.1 d.2.1 = some d.2.2
 out := fun d => match d.2.2 with | .inl r => .ret (.tup []) [.box 3 (.val qk (r))] | .inr p => .pan ⟨65, wi, p⟩ [.box 3 (.junk)]
def aGm (F : Md) : List (FuncId × aI) := []
theorem aGn [Mx] (F : Md) : bH Tryz.prog GL (aGm F) := .nil
theorem cD [Mx] (F : Md) : GOK Tryz.prog GL 50 (bU F) := by
 refine eF (aT (aGn F)) Tryz.func50 rfl (by kernel_rfl) (fun _ => Nat.le_of_ble_eq_true rfl) fun c0 w0 d hw1 hw2 h hn => ?_
 have hF : fT ⟨Tryz.prog, EM (aGm F), GM (bU F) c0 d, w0, Tryz.f50.ntmps, []⟩ := ⟨aT (aGn F), mix⟩
 obtain ⟨(w_1 : qd), (o0_2 : qn), r⟩ := d
 replace h : eO F w_1 o0_2 = some r := h
 have hw1 : AV.wfL [.ptr 0 [], .val .str w_1] := hw1
 simp only [AV.wfL, AV.wfV, Ty.wf, eR] at hw1
 show Tri _ _ _ [(0, .ptr 0 []), (1, .val .str w_1)] [.box 3 (.val qk o0_2)]
 unfold eO at h
 obtain ⟨e, he1, h⟩ := bind_some h
 rcases e with r_4 | p_7
 ·try dsimp only at h
  obtain ⟨e, he2, h⟩ := bind_some h
  rcases e with r_5 | p_6
  ·try dsimp only at h
   refine aC hF (aG (l := [(53, ⟨bM F, [0], (o0_2, .inl r_4)⟩), (54, ⟨bJ F, [0], ((decide (r_4.1 = w_1)), r_4.2, .inl r_5)⟩)]) (.cons (bR F) (by kernel_rfl) (.cons (bQ F) (by kernel_rfl) (.nil)))) [] [] ?_
   exact zaL
  ·try dsimp only at h
   refine aC hF (aG (l := [(53, ⟨bM F, [0], (o0_2, .inl r_4)⟩), (54, ⟨bJ F, [0], ((decide (r_4.1 = w_1)), r_4.2, .inr p_6)⟩)]) (.cons (bR F) (by kernel_rfl) (.cons (bQ F) (by kernel_rfl) (.nil)))) [] [] ?_
   exact zaU
 ·try dsimp only at h
  refine aC hF (aG (l := [(53, ⟨bM F, [0], (o0_2, .inr p_7)⟩)]) (.cons (bR F) (by kernel_rfl) (.nil))) [] [] ?_
  exact zaU
attribute [go_sem] bU
def cZ (F : Md) (o0_1 : qn) : Option (qn ⊕ q8) :=
 (jI F o0_1).bind (fun r_3 => (dE F (decide (r_3.1 = (aU ⟨#[]⟩))) r_3.2).bind (fun e => match e with | .inl r_4 => some (.inl r_4) | .inr p_5 => some (.inr p_5)))
def bE (F : Md) : fU where
 D := qn × (qn ⊕ q8)
 av := fun d => [.ptr 0 []]
 hp := fun d => [.box 3 (.val qk d.1)]
 m := 1
 pre := fun d => cZ F d.1 = some d.2
 out := fun d => match d.2 with | .inl r => .ret (.tup []) [.box 3 (.val qk (r))] | .inr p => .pan ⟨65, wi, p⟩ [.box 3 (.junk)]
def aEW (F : Md) : List (FuncId × aI) := []
theorem aEX [Mx] (F : Md) : bH Tryz.prog GL (aEW F) := .nil
theorem bK [Mx] (F : Md) : GOK Tryz.prog GL 55 (bE F) := by
 refine eF (aT (aEX F)) Tryz.func55 rfl (by kernel_rfl) (fun _ => Nat.le_of_ble_eq_true rfl) fun c0 w0 d hw1 hw2 h hn => ?_
 have hF : fT ⟨Tryz.prog, EM (aEW F), GM (bE F) c0 d, w0, Tryz.f55.ntmps, []⟩ := ⟨aT (aEX F), mix⟩
 obtain ⟨(o0_1 : qn), r⟩ := d
 replace h : cZ F o0_1 = some r := h
 have hw1 : AV.wfL [.ptr 0 []] := hw1
 simp only [AV.wfL, AV.wfV, Ty.wf, eR] at hw1
 show Tri _ _ _ [(0, .ptr 0 [])] [.box 3 (.val qk o0_1)]
 unfold cZ at h
 obtain ⟨r_3, he1, h⟩ := bind_some h
 try dsimp only at h
 obtain ⟨e, he2, h⟩ := bind_some h
 rcases e with r_4 | p_5
 ·try dsimp only at h
  refine aC hF (aG (l := [(27, ⟨gI F, [0], (o0_1, r_3)⟩), (54, ⟨bJ F, [0], ((decide (r_3.1 = (aU ⟨#[]⟩))), r_3.2, .inl r_4)⟩)]) (.cons (lX F) (by kernel_rfl) (.cons (bQ F) (by kernel_rfl) (.nil)))) [] [] ?_
  exact zaL
 ·try dsimp only at h
  refine aC hF (aG (l := [(27, ⟨gI F, [0], (o0_1, r_3)⟩), (54, ⟨bJ F, [0], ((decide (r_3.1 = (aU ⟨#[]⟩))), r_3.2, .inr p_5)⟩)]) (.cons (lX F) (by kernel_rfl) (.cons (bQ F) (by kernel_rfl) (.nil)))) [] [] ?_
  exact zaU
attribute [go_sem] bE
def nZ (F : Md) (r_7 : (qd × qn)) (x_17 : qn) : Option ((Int × qn) ⊕ q8) :=
 ck ((oU F r_7.1).isSome = true) (some (.inl (((oU F r_7.1).getD ((0 : Int), (), ())).1, x_17)))
def lI (F : Md) (o0_1 : qn) : Option ((Int × qn) ⊕ q8) :=
 (dT F o0_1).bind (fun e => match e with | .inl r_7 => if (r_7.1.length : Int) ≤ (4 : Int) then ck ((mK F r_7.1 (aU ⟨#[48, 49, 50, 51, 52, 53, 54, 55, 56, 57]⟩)).isSome = true) ((dE F ((decide ((r_7.1.length : Int) ≤ (4 : Int))) && (decide (((mK F r_7.1 (aU ⟨#[48, 49, 50, 51, 52, 53, 54, 55, 56, 57]⟩)).getD ([] : List Nat)) = (aU ⟨#[]⟩)))) r_7.2).bind (fun e => match e with | .inl r_18 => nZ F r_7 r_18 | .inr p_19 => some (.inr p_19))) else (dE F false r_7.2).bind (fun e => match e with | .inl r_20 => nZ F r_7 r_20 | .inr p_21 => some (.inr p_21)) | .inr p_8 => some (.inr p_8))
def fL (F : Md) : fU where
 D := qn × ((Int × qn) ⊕ q8)
 av := fun d => [.ptr 0 []]
 hp := fun d => [.box 3 (.val qk d.1)]
 m := 1
 pre := fun d => lI F d.1 = some d.2
 out := fun d => match d.2 with | .inl r => .ret (.val qe r.1) [.box 3 (.val qk r.2)] | .inr p => .pan ⟨65, wi, p⟩ [.box 3 (.junk)]
def qR (F : Md) : List (FuncId × aI) := [(96, (pR F)), (97, (lK F))]
theorem aB6 [Mx] (F : Md) : bH Tryz.prog GL (qR F) := .cons (aGc F) (by kernel_rfl) (.cons (aBG F) (by kernel_rfl) (.nil))
@[go_sem]theorem aFZ (F : Md) : gam (qR F) 96 = some (pR F) := rfl
@[go_sem]theorem aF0 (F : Md) : gam (qR F) 97 = some (lK F) := rfl
theorem kL [Mx] (F : Md) : GOK Tryz.prog GL 51 (fL F) := by
 refine eF (aT (aB6 F)) Tryz.func51 rfl (by kernel_rfl) (fun _ => Nat.le_of_ble_eq_true rfl) fun c0 w0 d hw1 hw2 h hn => ?_
 have hF : fT ⟨Tryz.prog, EM (qR F), GM (fL F) c0 d, w0, Tryz.f51.ntmps, []⟩ := ⟨aT (aB6 F), mix⟩
 obtain ⟨(o0_1 : qn), r⟩ := d
 replace h : lI F o0_1 = some r := h
 have hw1 : AV.wfL [.ptr 0 []] := hw1
 simp only [AV.wfL, AV.wfV, Ty.wf, eR] at hw1
 show Tri _ _ _ [(0, .ptr 0 [])] [.box 3 (.val qk o0_1)]
 unfold lI at h
 refine aB (aF hF [0] ?_)
 simp only [go_sem]
 obtain ⟨e, he1, h⟩ := bind_some h
 rcases e with r_7 | p_8
 ·try dsimp only at h
  refine aA (aB (aC hF (aG (l := [(53, ⟨bM F, [0], (o0_1, .inl r_7)⟩)]) (.cons (bR F) (by kernel_rfl) (.nil))) [0, 3] [] ?_))
  simp only [go_sem]
  repeat (refine ⟨zAA, ?_⟩)
  refine aA (qV (D := qn) (fun d => nZ F r_7 d = some r) [3] (fun d => []) (fun d => [.inr (.box 3 (.val qk d))]) ?_ ?_)
  ·by_cases hq : (r_7.1.length : Int) ≤ (4 : Int)
   ·have h := eB hq h
    obtain ⟨g0, h⟩ := aP h
    obtain ⟨e, he2, h⟩ := bind_some h
    rcases e with r_18 | p_19
    ·try dsimp only at h
     refine aC hF (aG (l := [(54, ⟨bJ F, [0], (((decide ((r_7.1.length : Int) ≤ (4 : Int))) && (decide (((mK F r_7.1 (aU ⟨#[48, 49, 50, 51, 52, 53, 54, 55, 56, 57]⟩)).getD ([] : List Nat)) = (aU ⟨#[]⟩)))), r_7.2, .inl r_18)⟩)]) (.cons (bQ F) (by kernel_rfl) (.nil))) [3] [] ?_
     simp only [go_sem]
     repeat (refine ⟨zAA, ?_⟩)
     refine ⟨fun _ => ?_, fun hx => by first | (exfalso; omega) | (exfalso; simp_all; done)⟩
     repeat (refine ⟨zAA, ?_⟩)
     refine ⟨fun _ => ?_, fun hx => by first | (exfalso; omega) | (exfalso; simp_all; done)⟩
     repeat (refine ⟨zAA, ?_⟩)
     refine ⟨fun _ => ?_, fun hx => by first | (exfalso; omega) | (exfalso; simp_all; done)⟩
     repeat (refine ⟨zAA, ?_⟩)
     refine bY (bB (r_18) h rfl ?_)
     ·exact zAF
    ·try dsimp only at h
     refine aC hF (aG (l := [(54, ⟨bJ F, [0], (((decide ((r_7.1.length : Int) ≤ (4 : Int))) && (decide (((mK F r_7.1 (aU ⟨#[48, 49, 50, 51, 52, 53, 54, 55, 56, 57]⟩)).getD ([] : List Nat)) = (aU ⟨#[]⟩)))), r_7.2, .inr p_19)⟩)]) (.cons (bQ F) (by kernel_rfl) (.nil))) [3] [] ?_
     simp only [go_sem]
     exact zaq
   ·have h := eC hq h
    obtain ⟨e, he3, h⟩ := bind_some h
    rcases e with r_20 | p_21
    ·try dsimp only at h
     refine aC hF (aG (l := [(54, ⟨bJ F, [0], (false, r_7.2, .inl r_20)⟩)]) (.cons (bQ F) (by kernel_rfl) (.nil))) [3] [] ?_
     simp only [go_sem]
     repeat (refine ⟨zAA, ?_⟩)
     first | (refine ⟨fun hx => by first | (exfalso; omega) | (exfalso; simp_all; done), fun _ => ?_⟩) | (with_reducible intro _) | skip
     repeat (refine ⟨zAA, ?_⟩)
     first | (refine ⟨fun hx => by first | (exfalso; omega) | (exfalso; simp_all; done), fun _ => ?_⟩) | (with_reducible intro _) | skip
     repeat (refine ⟨zAA, ?_⟩)
     first | (refine ⟨fun hx => by first | (exfalso; omega) | (exfalso; simp_all; done), fun _ => ?_⟩) | (with_reducible intro _) | skip
     repeat (refine ⟨zAA, ?_⟩)
     refine bY (bB (r_20) h rfl ?_)
     ·exact zAF
    ·try dsimp only at h
     refine aC hF (aG (l := [(54, ⟨bJ F, [0], (false, r_7.2, .inr p_21)⟩)]) (.cons (bQ F) (by kernel_rfl) (.nil))) [3] [] ?_
     simp only [go_sem]
     repeat (refine ⟨zAA, ?_⟩)
     first | (refine ⟨fun hx => by first | (exfalso; omega) | (exfalso; simp_all; done), fun _ => ?_⟩) | (with_reducible intro _) | skip
     exact zaY
  ·rintro x_17 h
   try dsimp only at h
   simp only [go_sem]
   unfold nZ at h
   refine aB (aF hF [4] ?_)
   simp only [go_sem]
   obtain ⟨g0, h⟩ := aP h
   exact zaS
 ·try dsimp only at h
  exact zaw
attribute [go_sem] fL
def fM (F : Md) (o0_1 : qn) : Option ((qd × qn) ⊕ q8) :=
 (dT F o0_1).bind (fun e => match e with | .inl r_7 => ck ((qL F r_7.1).isSome = true) ((dE F ((qL F r_7.1).getD false) r_7.2).bind (fun e => match e with | .inl r_13 => some (.inl (r_7.1, r_13)) | .inr p_14 => some (.inr p_14))) | .inr p_8 => some (.inr p_8))
def eG (F : Md) : fU where
 D := qn × ((qd × qn) ⊕ q8)
 av := fun d => [.ptr 0 []]
 hp := fun d => [.box 3 (.val qk d.1)]
 m := 1
 pre := fun d => fM F d.1 = some d.2
 out := fun d => match d.2 with | .inl r => .ret (.val .str r.1) [.box 3 (.val qk r.2)] | .inr p => .pan ⟨65, wi, p⟩ [.box 3 (.junk)]
def uF (F : Md) : List (FuncId × aI) := [(98, (rK F))]
theorem aBz [Mx] (F : Md) : bH Tryz.prog GL (uF F) := .cons (aHm F) (by kernel_rfl) (.nil)
@[go_sem]theorem aEY (F : Md) : gam (uF F) 98 = some (rK F) := rfl
theorem gU [Mx] (F : Md) : GOK Tryz.prog GL 52 (eG F) := by
 refine eF (aT (aBz F)) Tryz.func52 rfl (by kernel_rfl) (fun _ => Nat.le_of_ble_eq_true rfl) fun c0 w0 d hw1 hw2 h hn => ?_
 have hF : fT ⟨Tryz.prog, EM (uF F), GM (eG F) c0 d, w0, Tryz.f52.ntmps, []⟩ := ⟨aT (aBz F), mix⟩
 obtain ⟨(o0_1 : qn), r⟩ := d
 replace h : fM F o0_1 = some r := h
 have hw1 : AV.wfL [.ptr 0 []] := hw1
 simp only [AV.wfL, AV.wfV, Ty.wf, eR] at hw1
 show Tri _ _ _ [(0, .ptr 0 [])] [.box 3 (.val qk o0_1)]
 unfold fM at h
 refine aB (aF hF [0] ?_)
 simp only [go_sem]
 obtain ⟨e, he1, h⟩ := bind_some h
 rcases e with r_7 | p_8
 ·try dsimp only at h
  refine aA (aB (aC hF (aG (l := [(53, ⟨bM F, [0], (o0_1, .inl r_7)⟩)]) (.cons (bR F) (by kernel_rfl) (.nil))) [0, 3] [] ?_))
  simp only [go_sem]
  repeat (refine ⟨zAA, ?_⟩)
  obtain ⟨g0, h⟩ := aP h
  obtain ⟨e, he2, h⟩ := bind_some h
  rcases e with r_13 | p_14
  ·try dsimp only at h
   refine aA (aB (aC hF (aG (l := [(54, ⟨bJ F, [0], (((qL F r_7.1).getD false), r_7.2, .inl r_13)⟩)]) (.cons (bQ F) (by kernel_rfl) (.nil))) [3] [] ?_))
   simp only [go_sem]
   exact zaS
  ·try dsimp only at h
   refine aA (aB (aC hF (aG (l := [(54, ⟨bJ F, [0], (((qL F r_7.1).getD false), r_7.2, .inr p_14)⟩)]) (.cons (bQ F) (by kernel_rfl) (.nil))) [3] [] ?_))
   simp only [go_sem]
   exact zaK
 ·try dsimp only at h
  exact zaw
attribute [go_sem] eG
def jJ (F : Md) (o0_1 : qn) : Option ((qd × qn) ⊕ q8) :=
 (dT F o0_1).bind (fun e => match e with | .inl r_7 => ck ((eW F r_7.1).isSome = true) ((dE F ((eW F r_7.1).getD false) r_7.2).bind (fun e => match e with | .inl r_13 => some (.inl (r_7.1, r_13)) | .inr p_14 => some (.inr p_14))) | .inr p_8 => some (.inr p_8))
def dV (F : Md) : fU where
 D := qn × ((qd × qn) ⊕ q8)
 av := fun d => [.ptr 0 []]
 hp := fun d => [.box 3 (.val qk d.1)]
 m := 1
 pre := fun d => jJ F d.1 = some d.2
 out := fun d => match d.2 with | .inl r => .ret (.val .str r.1) [.box 3 (.val qk r.2)] | .inr p => .pan ⟨65, wi, p⟩ [.box 3 (.junk)]
def aAd (F : Md) : List (FuncId × aI) := [(78, (oI F))]
theorem aD1 [Mx] (F : Md) : bH Tryz.prog GL (aAd F) := .cons (aEm F) (by kernel_rfl) (.nil)
@[go_sem]theorem aHF (F : Md) : gam (aAd F) 78 = some (oI F) := rfl
theorem fP [Mx] (F : Md) : GOK Tryz.prog GL 58 (dV F) := by
 refine eF (aT (aD1 F)) Tryz.func58 rfl (by kernel_rfl) (fun _ => Nat.le_of_ble_eq_true rfl) fun c0 w0 d hw1 hw2 h hn => ?_
 have hF : fT ⟨Tryz.prog, EM (aAd F), GM (dV F) c0 d, w0, Tryz.f58.ntmps, []⟩ := ⟨aT (aD1 F), mix⟩
 obtain ⟨(o0_1 : qn), r⟩ := d
 replace h : jJ F o0_1 = some r := h
 have hw1 : AV.wfL [.ptr 0 []] := hw1
 simp only [AV.wfL, AV.wfV, Ty.wf, eR] at hw1
 show Tri _ _ _ [(0, .ptr 0 [])] [.box 3 (.val qk o0_1)]
 unfold jJ at h
 refine aB (aF hF [0] ?_)
 simp only [go_sem]
 obtain ⟨e, he1, h⟩ := bind_some h
 rcases e with r_7 | p_8
 ·try dsimp only at h
  refine aA (aB (aC hF (aG (l := [(53, ⟨bM F, [0], (o0_1, .inl r_7)⟩)]) (.cons (bR F) (by kernel_rfl) (.nil))) [0, 3] [] ?_))
  simp only [go_sem]
  repeat (refine ⟨zAA, ?_⟩)
  obtain ⟨g0, h⟩ := aP h
  obtain ⟨e, he2, h⟩ := bind_some h
  rcases e with r_13 | p_14
  ·try dsimp only at h
   refine aA (aB (aC hF (aG (l := [(54, ⟨bJ F, [0], (((eW F r_7.1).getD false), r_7.2, .inl r_13)⟩)]) (.cons (bQ F) (by kernel_rfl) (.nil))) [3] [] ?_))
   simp only [go_sem]
   exact zaS
  ·try dsimp only at h
   refine aA (aB (aC hF (aG (l := [(54, ⟨bJ F, [0], (((eW F r_7.1).getD false), r_7.2, .inr p_14)⟩)]) (.cons (bQ F) (by kernel_rfl) (.nil))) [3] [] ?_))
   simp only [go_sem]
   exact zaK
 ·try dsimp only at h
  exact zaw
attribute [go_sem] dV
def qG (F : Md) (o0_1 : qn) : Option ((qw × qn) ⊕ q8) :=
 (dT F o0_1).bind (fun e => match e with | .inl r_7 => ck ((lB F r_7.1).isSome = true) ((dE F ((lB F r_7.1).getD false) r_7.2).bind (fun e => match e with | .inl r_13 => (jI F r_13).bind (fun r_19 => ck ((lB F r_19.1).isSome = true) (if ((lB F r_19.1).getD false) = true then (dT F r_19.2).bind (fun e => match e with | .inl r_20 => some (.inl ((r_7.1, r_20.1, ()), r_20.2)) | .inr p_21 => some (.inr p_21)) else some (.inl ((r_7.1, ([] : List Nat), ()), r_19.2)))) | .inr p_14 => some (.inr p_14))) | .inr p_8 => some (.inr p_8))
def kB (F : Md) : fU where
 D := qn × ((qw × qn) ⊕ q8)
 av := fun d => [.ptr 0 []]
 hp := fun d => [.box 3 (.val qk d.1)]
 m := 1
 pre := fun d => qG F d.1 = some d.2
 out := fun d => match d.2 with | .inl r => .ret (.val qg r.1) [.box 3 (.val qk r.2)] | .inr p => .pan ⟨65, wi, p⟩ [.box 3 (.junk)]
def aAe (F : Md) : List (FuncId × aI) := [(133, (xM F))]
theorem aD2 [Mx] (F : Md) : bH Tryz.prog GL (aAe F) := .cons (aNI F) (by kernel_rfl) (.nil)
@[go_sem]theorem aGF (F : Md) : gam (aAe F) 133 = some (xM F) := rfl
theorem rY [Mx] (F : Md) : GOK Tryz.prog GL 99 (kB F) := by
 refine eF (aT (aD2 F)) Tryz.func99 rfl (by kernel_rfl) (fun _ => Nat.le_of_ble_eq_true rfl) fun c0 w0 d hw1 hw2 h hn => ?_
 have hF : fT ⟨Tryz.prog, EM (aAe F), GM (kB F) c0 d, w0, Tryz.f99.ntmps, []⟩ := ⟨aT (aD2 F), mix⟩
 obtain ⟨(o0_1 : qn), r⟩ := d
 replace h : qG F o0_1 = some r := h
 have hw1 : AV.wfL [.ptr 0 []] := hw1
 simp only [AV.wfL, AV.wfV, Ty.wf, eR] at hw1
 show Tri _ _ _ [(0, .ptr 0 [])] [.box 3 (.val qk o0_1)]
 unfold qG at h
 refine aB (aR hF [0, 2] ?_)
 simp only [go_sem]
 refine aA (aB (aR hF [0, 2, 3] ?_))
 simp only [go_sem]
 obtain ⟨e, he1, h⟩ := bind_some h
 rcases e with r_7 | p_8
 ·try dsimp only at h
  refine aA (aB (aC hF (aG (l := [(53, ⟨bM F, [0], (o0_1, .inl r_7)⟩)]) (.cons (bR F) (by kernel_rfl) (.nil))) [0, 2, 3] [] ?_))
  simp only [go_sem]
  repeat (refine ⟨zAA, ?_⟩)
  obtain ⟨g0, h⟩ := aP h
  obtain ⟨e, he2, h⟩ := bind_some h
  rcases e with r_13 | p_14
  ·try dsimp only at h
   refine aA (aB (aC hF (aG (l := [(54, ⟨bJ F, [0], (((lB F r_7.1).getD false), r_7.2, .inl r_13)⟩)]) (.cons (bQ F) (by kernel_rfl) (.nil))) [0, 2, 3] [] ?_))
   simp only [go_sem]
   repeat (refine ⟨zAA, ?_⟩)
   obtain ⟨r_19, he3, h⟩ := bind_some h
   try dsimp only at h
   refine aA (aB (aB (aC hF (aG (l := [(27, ⟨gI F, [0], (r_13, r_19)⟩)]) (.cons (lX F) (by kernel_rfl) (.nil))) [0, 2, 3, 4] [] ?_)))
   simp only [go_sem]
   repeat (refine ⟨zAA, ?_⟩)
   refine aA (aB (aF hF [0, 2, 3, 16] ?_))
   simp only [go_sem]
   obtain ⟨g0, h⟩ := aP h
   repeat (refine ⟨zAA, ?_⟩)
   refine aA (bG rfl (fun hc => ?_) (fun hc => ?_))
   ·try simp only [go_sem] at hc
    have h := eB zAB h
    obtain ⟨e, he4, h⟩ := bind_some h
    rcases e with r_20 | p_21
    ·try dsimp only at h
     refine aC hF (aG (l := [(53, ⟨bM F, [0], (r_19.2, .inl r_20)⟩)]) (.cons (bR F) (by kernel_rfl) (.nil))) [2, 3] [] ?_
     simp only [go_sem]
     repeat (refine ⟨zAA, ?_⟩)
     refine aA (aB (aR hF [2] ?_))
     simp only [go_sem]
     obtain rfl := Option.some.inj h
     refine aA (cA (jO hF [.cell 2 85] [0] rfl rfl rfl rfl rfl rfl rfl rfl rfl ?_))
     exact zaC
    ·try dsimp only at h
     refine aC hF (aG (l := [(53, ⟨bM F, [0], (r_19.2, .inr p_21)⟩)]) (.cons (bR F) (by kernel_rfl) (.nil))) [2, 3] [] ?_
     exact zaE
   ·try simp only [go_sem] at hc
    have h := eC zAB h
    refine cH (aA (aB (aR hF [2] ?_)))
    simp only [go_sem]
    obtain rfl := Option.some.inj h
    refine aA (cA (jO hF [.cell 2 85] [0] rfl rfl rfl rfl rfl rfl rfl rfl rfl ?_))
    exact zaC
  ·try dsimp only at h
   refine aA (aB (aC hF (aG (l := [(54, ⟨bJ F, [0], (((lB F r_7.1).getD false), r_7.2, .inr p_14)⟩)]) (.cons (bQ F) (by kernel_rfl) (.nil))) [0, 2, 3] [] ?_))
   exact zaE
 ·try dsimp only at h
  refine aA (aB (aC hF (aG (l := [(53, ⟨bM F, [0], (o0_1, .inr p_8)⟩)]) (.cons (bR F) (by kernel_rfl) (.nil))) [0, 2, 3] [] ?_))
  exact zaE
attribute [go_sem] kB
def qH (F : Md) (o0_1 : qn) : Option ((Ex × qn) ⊕ q8) :=
 ck (0 ≤ o0_1.2.1 ∧ o0_1.2.1 ≤ (o0_1.2.2.1.length : Int)) (ck ((cO F (List.drop (o0_1.2.1.toNat) o0_1.2.2.1) (aU ⟨#[32]⟩)).isSome = true) (ck (I64 ((o0_1.2.2.1.length : Int) - ((((cO F (List.drop (o0_1.2.1.toNat) o0_1.2.2.1) (aU ⟨#[32]⟩)).getD ([] : List Nat)).length : Nat) : Int))) (ck ((nX F ((cO F (List.drop (o0_1.2.1.toNat) o0_1.2.2.1) (aU ⟨#[32]⟩)).getD ([] : List Nat))).isSome = true) (if ¬ (((nX F ((cO F (List.drop (o0_1.2.1.toNat) o0_1.2.2.1) (aU ⟨#[32]⟩)).getD ([] : List Nat))).getD ((Ex.mk 0 [] []), (0 : Int), (0 : Int), ())).2.2.1 = (0 : Int)) then ck (I64 (((o0_1.2.2.1.length : Int) - ((((cO F (List.drop (o0_1.2.1.toNat) o0_1.2.2.1) (aU ⟨#[32]⟩)).getD ([] : List Nat)).length : Nat) : Int)) + ((nX F ((cO F (List.drop (o0_1.2.1.toNat) o0_1.2.2.1) (aU ⟨#[32]⟩)).getD ([] : List Nat))).getD ((Ex.mk 0 [] []), (0 : Int), (0 : Int), ())).2.1)) (ck (I64 ((((o0_1.2.2.1.length : Int) - ((((cO F (List.drop (o0_1.2.1.toNat) o0_1.2.2.1) (aU ⟨#[32]⟩)).getD ([] : List Nat)).length : Nat) : Int)) + ((nX F ((cO F (List.drop (o0_1.2.1.toNat) o0_1.2.2.1) (aU ⟨#[32]⟩)).getD ([] : List Nat))).getD ((Ex.mk 0 [] []), (0 : Int), (0 : Int), ())).2.1) + (1 : Int))) (some (.inr ((o0_1.1, ((((o0_1.2.2.1.length : Int) - ((((cO F (List.drop (o0_1.2.1.toNat) o0_1.2.2.1) (aU ⟨#[32]⟩)).getD ([] : List Nat)).length : Nat) : Int)) + ((nX F ((cO F (List.drop (o0_1.2.1.toNat) o0_1.2.2.1) (aU ⟨#[32]⟩)).getD ([] : List Nat))).getD ((Ex.mk 0 [] []), (0 : Int), (0 : Int), ())).2.1) + (1 : Int)), ()), ())))) else some (.inl (((nX F ((cO F (List.drop (o0_1.2.1.toNat) o0_1.2.2.1) (aU ⟨#[32]⟩)).getD ([] : List Nat))).getD ((Ex.mk 0 [] []), (0 : Int), (0 : Int), ())).1, o0_1.1, (o0_1.2.2.1.length : Int), o0_1.2.2.1, ()))))))
def kC (F : Md) : fU where
 D := qn × ((Ex × qn) ⊕ q8)
 av := fun d => [.ptr 0 []]
 hp := fun d => [.box 3 (.val qk d.1)]
 m := 1
 pre := fun d => qH F d.1 = some d.2
 out := fun d => match d.2 with | .inl r => .ret (.val .expr r.1) [.box 3 (.val qk r.2)] | .inr p => .pan ⟨65, wi, p⟩ [.box 3 (.junk)]
def tI (F : Md) : List (FuncId × aI) := [(49, (lG F)), (9, (aA7 F))]
theorem aD3 [Mx] (F : Md) : bH Tryz.prog GL (tI F) := .cons (aB4 F) (by kernel_rfl) (.cons (aP8 F) (by kernel_rfl) (.nil))
@[go_sem]theorem aHG (F : Md) : gam (tI F) 49 = some (lG F) := rfl
@[go_sem]theorem aIf (F : Md) : gam (tI F) 9 = some (aA7 F) := rfl
theorem rZ [Mx] (F : Md) : GOK Tryz.prog GL 100 (kC F) := by
 refine eF (aT (aD3 F)) Tryz.func100 rfl (by kernel_rfl) (fun _ => Nat.le_of_ble_eq_true rfl) fun c0 w0 d hw1 hw2 h hn => ?_
 have hF : fT ⟨Tryz.prog, EM (tI F), GM (kC F) c0 d, w0, Tryz.f100.ntmps, []⟩ := ⟨aT (aD3 F), mix⟩
 obtain ⟨(o0_1 : qn), r⟩ := d
 replace h : qH F o0_1 = some r := h
 have hw1 : AV.wfL [.ptr 0 []] := hw1
 simp only [AV.wfL, AV.wfV, Ty.wf, eR] at hw1
 show Tri _ _ _ [(0, .ptr 0 [])] [.box 3 (.val qk o0_1)]
 unfold qH at h
 refine aB (aR hF [0, 2] ?_)
 simp only [go_sem]
 refine aA (aB (aF hF [0, 2, 3] ?_))
 simp only [go_sem]
 obtain ⟨g0, h⟩ := aP h
 obtain ⟨g1, h⟩ := aP h
 repeat (refine ⟨zAA, ?_⟩)
 refine aA (aB (aF hF [0, 2, 3, 4] ?_))
 simp only [go_sem]
 obtain ⟨g0, h⟩ := aP h
 try simp only [I64, I32] at g0
 repeat (refine ⟨zAA, ?_⟩)
 refine aA (aB (aR hF [0, 2, 4, 5, 6, 7] ?_))
 simp only [go_sem]
 obtain ⟨g0, h⟩ := aP h
 repeat (refine ⟨zAA, ?_⟩)
 refine aA (aB (aB (aF hF [0, 2, 4, 5, 6, 33] ?_)))
 simp only [go_sem]
 refine aA (bG rfl (fun hc => ?_) (fun hc => ?_))
 ·try simp only [go_sem] at hc
  have h := eB zAB h
  obtain ⟨g0, h⟩ := aP h
  try simp only [I64, I32] at g0
  obtain ⟨g1, h⟩ := aP h
  try simp only [I64, I32] at g1
  refine aC hF (aG (l := []) (.nil)) [0, 2, 5] [] ?_
  exact zaE
 ·try simp only [go_sem] at hc
  have h := eC zAB h
  refine cH (aA (aB (aR hF [2, 5] ?_)))
  simp only [go_sem]
  refine aA (aB (aR hF [2] ?_))
  simp only [go_sem]
  exact zaa
attribute [go_sem] kC
def qI (F : Md) (o0_1 : qn) : Option ((qw × qn) ⊕ q8) :=
 (dT F o0_1).bind (fun e => match e with | .inl r_7 => ck (aP9 r_7.1 (aU ⟨#[46]⟩)) (if (wS r_7.1 (aU ⟨#[46]⟩)).2.2.1 = true then ck ((eW F (wS r_7.1 (aU ⟨#[46]⟩)).1).isSome = true) (if ((wS r_7.1 (aU ⟨#[46]⟩)).2.2.1 = true) ∧ (((eW F (wS r_7.1 (aU ⟨#[46]⟩)).1).getD false) = true) then ck ((eW F (wS r_7.1 (aU ⟨#[46]⟩)).2.1).isSome = true) ((dE F (((wS r_7.1 (aU ⟨#[46]⟩)).2.2.1 && ((eW F (wS r_7.1 (aU ⟨#[46]⟩)).1).getD false)) && ((eW F (wS r_7.1 (aU ⟨#[46]⟩)).2.1).getD false)) r_7.2).bind (fun e => match e with | .inl r_21 => some (.inl (((wS r_7.1 (aU ⟨#[46]⟩)).1, (wS r_7.1 (aU ⟨#[46]⟩)).2.1, ()), r_21)) | .inr p_22 => some (.inr p_22))) else (dE F false r_7.2).bind (fun e => match e with | .inl r_23 => some (.inl (((wS r_7.1 (aU ⟨#[46]⟩)).1, (wS r_7.1 (aU ⟨#[46]⟩)).2.1, ()), r_23)) | .inr p_24 => some (.inr p_24))) else (dE F false r_7.2).bind (fun e => match e with | .inl r_25 => some (.inl (((wS r_7.1 (aU ⟨#[46]⟩)).1, (wS r_7.1 (aU ⟨#[46]⟩)).2.1, ()), r_25)) | .inr p_26 => some (.inr p_26))) | .inr p_8 => some (.inr p_8))
def kD (F : Md) : fU where
 D := qn × ((qw × qn) ⊕ q8)
 av := fun d => [.ptr 0 []]
 hp := fun d => [.box 3 (.val qk d.1)]
 m := 1
 pre := fun d => qI F d.1 = some d.2
 out := fun d => match d.2 with | .inl r => .ret (.tup [.val .str r.1.1, .val .str r.1.2.1]) [.box 3 (.val qk r.2)] | .inr p => .pan ⟨65, wi, p⟩ [.box 3 (.junk)]
def tJ (F : Md) : List (FuncId × aI) := [(25, mQ), (78, (oI F))]
theorem aD4 [Mx] (F : Md) : bH Tryz.prog GL (tJ F) := .cons aDl (by kernel_rfl) (.cons (aEm F) (by kernel_rfl) (.nil))
@[go_sem]theorem aHH (F : Md) : gam (tJ F) 25 = some mQ := rfl
@[go_sem]theorem aHI (F : Md) : gam (tJ F) 78 = some (oI F) := rfl
theorem sA [Mx] (F : Md) : GOK Tryz.prog GL 56 (kD F) := by
 refine eF (aT (aD4 F)) Tryz.func56 rfl (by kernel_rfl) (fun _ => Nat.le_of_ble_eq_true rfl) fun c0 w0 d hw1 hw2 h hn => ?_
 have hF : fT ⟨Tryz.prog, EM (tJ F), GM (kD F) c0 d, w0, Tryz.f56.ntmps, []⟩ := ⟨aT (aD4 F), mix⟩
 obtain ⟨(o0_1 : qn), r⟩ := d
 replace h : qI F o0_1 = some r := h
 have hw1 : AV.wfL [.ptr 0 []] := hw1
 simp only [AV.wfL, AV.wfV, Ty.wf, eR] at hw1
 show Tri _ _ _ [(0, .ptr 0 [])] [.box 3 (.val qk o0_1)]
 unfold qI at h
 refine aB (aF hF [0] ?_)
 simp only [go_sem]
 obtain ⟨e, he1, h⟩ := bind_some h
 rcases e with r_7 | p_8
 ·try dsimp only at h
  obtain ⟨g0, h⟩ := aP h
  refine aA (aB (aC hF (aG (l := [(53, ⟨bM F, [0], (o0_1, .inl r_7)⟩)]) (.cons (bR F) (by kernel_rfl) (.nil))) [0, 4, 5, 6] [] ?_))
  simp only [go_sem]
  repeat (refine ⟨zAA, ?_⟩)
  by_cases hq : (wS r_7.1 (aU ⟨#[46]⟩)).2.2.1 = true
  ·have h := eB hq h
   obtain ⟨g0, h⟩ := aP h
   by_cases hq : ((wS r_7.1 (aU ⟨#[46]⟩)).2.2.1 = true) ∧ (((eW F (wS r_7.1 (aU ⟨#[46]⟩)).1).getD false) = true)
   ·have h := eB hq h
    obtain ⟨g1, h⟩ := aP h
    obtain ⟨e, he2, h⟩ := bind_some h
    rcases e with r_21 | p_22
    ·try dsimp only at h
     refine aA (aB (aC hF (aG (l := [(54, ⟨bJ F, [0], ((((wS r_7.1 (aU ⟨#[46]⟩)).2.2.1 && ((eW F (wS r_7.1 (aU ⟨#[46]⟩)).1).getD false)) && ((eW F (wS r_7.1 (aU ⟨#[46]⟩)).2.1).getD false)), r_7.2, .inl r_21)⟩)]) (.cons (bQ F) (by kernel_rfl) (.nil))) [4, 5] [] ?_))
     simp only [go_sem]
     repeat (refine ⟨zAA, ?_⟩)
     refine ⟨fun _ => ?_, fun hx => by first | (exfalso; omega) | (exfalso; simp_all; done)⟩
     repeat (refine ⟨zAA, ?_⟩)
     refine ⟨fun _ => ?_, fun hx => by first | (exfalso; omega) | (exfalso; simp_all; done)⟩
     repeat (refine ⟨zAA, ?_⟩)
     refine ⟨fun _ => ?_, fun hx => by first | (exfalso; omega) | (exfalso; simp_all; done)⟩
     repeat (refine ⟨zAA, ?_⟩)
     refine ⟨fun _ => ?_, fun hx => by first | (exfalso; omega) | (exfalso; simp_all; done)⟩
     repeat (refine ⟨zAA, ?_⟩)
     refine aA (aB (aF hF [2, 3] ?_))
     simp only [go_sem]
     obtain rfl := Option.some.inj h
     refine aA (cA (dS hF [.tmp 2, .tmp 3] rfl rfl rfl rfl rfl rfl ?_))
     exact zaC
    ·try dsimp only at h
     refine aA (aB (aC hF (aG (l := [(54, ⟨bJ F, [0], ((((wS r_7.1 (aU ⟨#[46]⟩)).2.2.1 && ((eW F (wS r_7.1 (aU ⟨#[46]⟩)).1).getD false)) && ((eW F (wS r_7.1 (aU ⟨#[46]⟩)).2.1).getD false)), r_7.2, .inr p_22)⟩)]) (.cons (bQ F) (by kernel_rfl) (.nil))) [4, 5] [] ?_))
     simp only [go_sem]
     repeat (refine ⟨zAA, ?_⟩)
     refine ⟨fun _ => ?_, fun hx => by first | (exfalso; omega) | (exfalso; simp_all; done)⟩
     exact zaq
   ·have h := eC hq h
    obtain ⟨e, he3, h⟩ := bind_some h
    rcases e with r_23 | p_24
    ·try dsimp only at h
     refine aA (aB (aC hF (aG (l := [(54, ⟨bJ F, [0], (false, r_7.2, .inl r_23)⟩)]) (.cons (bQ F) (by kernel_rfl) (.nil))) [4, 5] [] ?_))
     simp only [go_sem]
     repeat (refine ⟨zAA, ?_⟩)
     refine ⟨fun _ => ?_, fun hx => by first | (exfalso; omega) | (exfalso; simp_all; done)⟩
     repeat (refine ⟨zAA, ?_⟩)
     refine ⟨fun _ => ?_, fun hx => by first | (exfalso; omega) | (exfalso; simp_all; done)⟩
     exact zaf
    ·try dsimp only at h
     refine aA (aB (aC hF (aG (l := [(54, ⟨bJ F, [0], (false, r_7.2, .inr p_24)⟩)]) (.cons (bQ F) (by kernel_rfl) (.nil))) [4, 5] [] ?_))
     simp only [go_sem]
     repeat (refine ⟨zAA, ?_⟩)
     refine ⟨fun _ => ?_, fun hx => by first | (exfalso; omega) | (exfalso; simp_all; done)⟩
     repeat (refine ⟨zAA, ?_⟩)
     refine ⟨fun _ => ?_, fun hx => by first | (exfalso; omega) | (exfalso; simp_all; done)⟩
     exact zaY
  ·have h := eC hq h
   obtain ⟨e, he4, h⟩ := bind_some h
   rcases e with r_25 | p_26
   ·try dsimp only at h
    refine aA (aB (aC hF (aG (l := [(54, ⟨bJ F, [0], (false, r_7.2, .inl r_25)⟩)]) (.cons (bQ F) (by kernel_rfl) (.nil))) [4, 5] [] ?_))
    simp only [go_sem]
    repeat (refine ⟨zAA, ?_⟩)
    first | (refine ⟨fun hx => by first | (exfalso; omega) | (exfalso; simp_all; done), fun _ => ?_⟩) | (with_reducible intro _) | skip
    repeat (refine ⟨zAA, ?_⟩)
    first | (refine ⟨fun hx => by first | (exfalso; omega) | (exfalso; simp_all; done), fun _ => ?_⟩) | (with_reducible intro _) | skip
    exact zaf
   ·try dsimp only at h
    refine aA (aB (aC hF (aG (l := [(54, ⟨bJ F, [0], (false, r_7.2, .inr p_26)⟩)]) (.cons (bQ F) (by kernel_rfl) (.nil))) [4, 5] [] ?_))
    simp only [go_sem]
    repeat (refine ⟨zAA, ?_⟩)
    first | (refine ⟨fun hx => by first | (exfalso; omega) | (exfalso; simp_all; done), fun _ => ?_⟩) | (with_reducible intro _) | skip
    repeat (refine ⟨zAA, ?_⟩)
    first | (refine ⟨fun hx => by first | (exfalso; omega) | (exfalso; simp_all; done), fun _ => ?_⟩) | (with_reducible intro _) | skip
    exact zaY
 ·try dsimp only at h
  refine aA (aB (aC hF (aG (l := [(53, ⟨bM F, [0], (o0_1, .inr p_8)⟩)]) (.cons (bR F) (by kernel_rfl) (.nil))) [0, 4, 5, 6] [] ?_))
  simp only [go_sem]
  exact zaK
attribute [go_sem] kD
end
end Nu
end Go.Proofs
namespace Go.Proofs
open Go.Vc
set_option maxRecDepth 20000
namespace Nu
noncomputable section
set_option maxHeartbeats 4000000
attribute [-go_sem] Ex.kind Ex.text Ex.l
def aCG (F : Md) (k_1 : Int) (o0_3 : qf) (o1_4 : qn) : Option ((qf × qn) ⊕ q8) :=
 if k_1 = (0 : Int) then (eO F (aU ⟨#[112, 114, 101, 99]⟩) o1_4).bind (fun e => match e with | .inl r_42 => (lI F r_42).bind (fun e => match e with | .inl r_44 => (cZ F r_44.2).bind (fun e => match e with | .inl r_46 => some (.inl ((r_44.1, o0_3.2.1, o0_3.2.2.1, o0_3.2.2.2.1, o0_3.2.2.2.2.1, o0_3.2.2.2.2.2.1, o0_3.2.2.2.2.2.2.1, o0_3.2.2.2.2.2.2.2.1, o0_3.2.2.2.2.2.2.2.2.1, o0_3.2.2.2.2.2.2.2.2.2.1, ()), r_46)) | .inr p_47 => some (.inr p_47)) | .inr p_45 => some (.inr p_45)) | .inr p_43 => some (.inr p_43)) else if k_1 = (1 : Int) then (eO F (aU ⟨#[101, 110, 100]⟩) o1_4).bind (fun e => match e with | .inl r_52 => (fM F r_52).bind (fun e => match e with | .inl r_54 => (cZ F r_54.2).bind (fun e => match e with | .inl r_56 => some (.inl ((o0_3.1, o0_3.2.1, o0_3.2.2.1, o0_3.2.2.2.1, r_54.1, o0_3.2.2.2.2.2.1, o0_3.2.2.2.2.2.2.1, o0_3.2.2.2.2.2.2.2.1, o0_3.2.2.2.2.2.2.2.2.1, o0_3.2.2.2.2.2.2.2.2.2.1, ()), r_56)) | .inr p_57 => some (.inr p_57)) | .inr p_55 => some (.inr p_55)) | .inr p_53 => some (.inr p_53)) else if k_1 = (2 : Int) then (eO F (aU ⟨#[115, 116, 101, 112]⟩) o1_4).bind (fun e => match e with | .inl r_62 => (fM F r_62).bind (fun e => match e with | .inl r_64 => (fM F r_64.2).bind (fun e => match e with | .inl r_65 => (cZ F r_65.2).bind (fun e => match e with | .inl r_68 => some (.inl ((o0_3.1, o0_3.2.1, o0_3.2.2.1, o0_3.2.2.2.1, o0_3.2.2.2.2.1, r_64.1, r_65.1, o0_3.2.2.2.2.2.2.2.1, o0_3.2.2.2.2.2.2.2.2.1, o0_3.2.2.2.2.2.2.2.2.2.1, ()), r_68)) | .inr p_69 => some (.inr p_69)) | .inr p_66 => some (.inr p_66)) | .inr p_67 => some (.inr p_67)) | .inr p_63 => some (.inr p_63)) else if k_1 = (3 : Int) then (eO F (aU ⟨#[116, 111, 108]⟩) o1_4).bind (fun e => match e with | .inl r_74 => (fM F r_74).bind (fun e => match e with | .inl r_76 => (cZ F r_76.2).bind (fun e => match e with | .inl r_78 => some (.inl ((o0_3.1, o0_3.2.1, o0_3.2.2.1, o0_3.2.2.2.1, o0_3.2.2.2.2.1, o0_3.2.2.2.2.2.1, o0_3.2.2.2.2.2.2.1, r_76.1, o0_3.2.2.2.2.2.2.2.2.1, o0_3.2.2.2.2.2.2.2.2.2.1, ()), r_78)) | .inr p_79 => some (.inr p_79)) | .inr p_77 => some (.inr p_77)) | .inr p_75 => some (.inr p_75)) else if k_1 = (4 : Int) then (eO F (aU ⟨#[116, 114, 105, 101, 115]⟩) o1_4).bind (fun e => match e with | .inl r_84 => (lI F r_84).bind (fun e => match e with | .inl r_86 => (cZ F r_86.2).bind (fun e => match e with | .inl r_88 => some (.inl ((o0_3.1, r_86.1, o0_3.2.2.1, o0_3.2.2.2.1, o0_3.2.2.2.2.1, o0_3.2.2.2.2.2.1, o0_3.2.2.2.2.2.2.1, o0_3.2.2.2.2.2.2.2.1, o0_3.2.2.2.2.2.2.2.2.1, o0_3.2.2.2.2.2.2.2.2.2.1, ()), r_88)) | .inr p_89 => some (.inr p_89)) | .inr p_87 => some (.inr p_87)) | .inr p_85 => some (.inr p_85)) else if k_1 = (5 : Int) then (eO F (aU ⟨#[111, 114, 100, 101, 114]⟩) o1_4).bind (fun e => match e with | .inl r_94 => (lI F r_94).bind (fun e => match e with | .inl r_96 => (cZ F r_96.2).bind (fun e => match e with | .inl r_98 => some (.inl ((o0_3.1, o0_3.2.1, r_96.1, o0_3.2.2.2.1, o0_3.2.2.2.2.1, o0_3.2.2.2.2.2.1, o0_3.2.2.2.2.2.2.1, o0_3.2.2.2.2.2.2.2.1, o0_3.2.2.2.2.2.2.2.2.1, o0_3.2.2.2.2.2.2.2.2.2.1, ()), r_98)) | .inr p_99 => some (.inr p_99)) | .inr p_97 => some (.inr p_97)) | .inr p_95 => some (.inr p_95)) else (dT F o1_4).bind (fun e => match e with | .inl r_104 => (dE F (aBh .str (aAK .str (aAK .str ([] : List (qd × Int)) (aU ⟨#[106, 97, 99, 111, 98, 105]⟩) (1 : Int)) (aU ⟨#[115, 101, 105, 100, 101, 108]⟩) (2 : Int)) r_104.1).isSome r_104.2).bind (fun e => match e with | .inl r_110 => (cZ F r_110).bind (fun e => match e with | .inl r_112 => some (.inl ((o0_3.1, o0_3.2.1, o0_3.2.2.1, ((aBh .str (aAK .str (aAK .str ([] : List (qd × Int)) (aU ⟨#[106, 97, 99, 111, 98, 105]⟩) (1 : Int)) (aU ⟨#[115, 101, 105, 100, 101, 108]⟩) (2 : Int)) r_104.1).getD (0 : Int)), o0_3.2.2.2.2.1, o0_3.2.2.2.2.2.1, o0_3.2.2.2.2.2.2.1, o0_3.2.2.2.2.2.2.2.1, o0_3.2.2.2.2.2.2.2.2.1, o0_3.2.2.2.2.2.2.2.2.2.1, ()), r_112)) | .inr p_113 => some (.inr p_113)) | .inr p_111 => some (.inr p_111)) | .inr p_105 => some (.inr p_105))
def wX (F : Md) : fU where
 D := Int × qf × qn × ((qf × qn) ⊕ q8)
 av := fun d => [.ptr 0 [], .val qe d.1, .ptr 1 []]
 hp := fun d => [.box 10 (.agg [.val qe d.2.1.1, .val qe d.2.1.2.1, .val qe d.2.1.2.2.1, .val qe d.2.1.2.2.2.1, .val .str d.2.1.2.2.2.2.1, .val .str d.2.1.2.2.2.2.2.1, .val .str d.2.1.2.2.2.2.2.2.1, .val .str d.2.1.2.2.2.2.2.2.2.1, .own 2, .own 3]), .box 3 (.val qk d.2.2.1), .tre 53 qh qa d.2.1.2.2.2.2.2.2.2.2.1, .row 83 qs d.2.1.2.2.2.2.2.2.2.2.2.1]
 m := 2
 pre := fun d => aCG F d.1 d.2.1 d.2.2.1 = some d.2.2.2
 out := fun d => match d.2.2.2 with | .inl r => .ret (.tup []) [.box 10 (.agg [.val qe r.1.1, .val qe r.1.2.1, .val qe r.1.2.2.1, .val qe r.1.2.2.2.1, .val .str r.1.2.2.2.2.1, .val .str r.1.2.2.2.2.2.1, .val .str r.1.2.2.2.2.2.2.1, .val .str r.1.2.2.2.2.2.2.2.1, .own 2, .own 3]), .box 3 (.val qk r.2), .tre 53 qh qa r.1.2.2.2.2.2.2.2.2.1, .row 83 qs r.1.2.2.2.2.2.2.2.2.2.1] | .inr p => .pan ⟨65, wi, p⟩ [.box 10 (.junk), .box 3 (.junk)]
def aKF (F : Md) : List (FuncId × aI) := []
theorem aKG [Mx] (F : Md) : bH Tryz.prog GL (aKF F) := .nil
theorem aII [Mx] (F : Md) : GOK Tryz.prog GL 28 (wX F) := by
 refine eF (aMv (aKG F)) Tryz.func28 rfl (by kernel_rfl) (fun _ => Nat.le_of_ble_eq_true rfl) fun c0 w0 d hw1 hw2 h hn => ?_
 have hF : fT ⟨Tryz.prog, EX (aKF F), GM (wX F) c0 d, w0, Tryz.f28.ntmps, []⟩ := ⟨aMv (aKG F), mix⟩
 obtain ⟨(k_1 : Int), (o0_3 : qf), (o1_4 : qn), r⟩ := d
 replace h : aCG F k_1 o0_3 o1_4 = some r := h
 have hw1 : AV.wfL [.ptr 0 [], .val qe k_1, .ptr 1 []] := hw1
 simp only [AV.wfL, AV.wfV, Ty.wf, eR] at hw1
 show Tri _ _ _ [(0, .ptr 0 []), (1, .val qe k_1), (2, .ptr 1 [])] [.box 10 (.agg [.val qe o0_3.1, .val qe o0_3.2.1, .val qe o0_3.2.2.1, .val qe o0_3.2.2.2.1, .val .str o0_3.2.2.2.2.1, .val .str o0_3.2.2.2.2.2.1, .val .str o0_3.2.2.2.2.2.2.1, .val .str o0_3.2.2.2.2.2.2.2.1, .own 2, .own 3]), .box 3 (.val qk o1_4), .tre 53 qh qa o0_3.2.2.2.2.2.2.2.2.1, .row 83 qs o0_3.2.2.2.2.2.2.2.2.2.1]
 unfold aCG at h
 refine aB (aB (aF hF [0, 2, 8] ?_))
 simp only [go_sem]
 repeat (refine ⟨zAA, ?_⟩)
 refine aA (eA (aB (aF hF [0, 2, 8, 24] ?_)))
 simp only [go_sem]
 repeat (refine ⟨zAA, ?_⟩)
 refine aA (bG rfl (fun hc => ?_) (fun hc => ?_))
 ·try simp only [go_sem] at hc
  have h := eB zAB h
  obtain ⟨e, he1, h⟩ := bind_some h
  rcases e with r_42 | p_43
  ·try dsimp only at h
   refine aB (aC hF (aG (l := [(50, ⟨bU F, [1], ((aU ⟨#[112, 114, 101, 99]⟩), o1_4, .inl r_42)⟩)]) (.cons (cD F) (by kernel_rfl) (.nil))) [0, 2] [] ?_)
   simp only [go_sem]
   repeat (refine ⟨zAA, ?_⟩)
   obtain ⟨e, he2, h⟩ := bind_some h
   rcases e with r_44 | p_45
   ·try dsimp only at h
    refine aA (aC hF (aG (l := [(51, ⟨fL F, [1], (r_42, .inl r_44)⟩)]) (.cons (kL F) (by kernel_rfl) (.nil))) [2] [] ?_)
    simp only [go_sem]
    repeat (refine ⟨zAA, ?_⟩)
    obtain ⟨e, he3, h⟩ := bind_some h
    rcases e with r_46 | p_47
    ·try dsimp only at h
     refine bC (aA (aC hF (aG (l := [(55, ⟨bE F, [1], (r_44.2, .inl r_46)⟩)]) (.cons (bK F) (by kernel_rfl) (.nil))) [] [] ?_))
     exact zaL
    ·try dsimp only at h
     refine bC (aA (aC hF (aG (l := [(55, ⟨bE F, [1], (r_44.2, .inr p_47)⟩)]) (.cons (bK F) (by kernel_rfl) (.nil))) [] [] ?_))
     exact zaT
   ·try dsimp only at h
    refine aA (aC hF (aG (l := [(51, ⟨fL F, [1], (r_42, .inr p_45)⟩)]) (.cons (kL F) (by kernel_rfl) (.nil))) [2] [] ?_)
    exact zaW
  ·try dsimp only at h
   refine aB (aC hF (aG (l := [(50, ⟨bU F, [1], ((aU ⟨#[112, 114, 101, 99]⟩), o1_4, .inr p_43)⟩)]) (.cons (cD F) (by kernel_rfl) (.nil))) [0, 2] [] ?_)
   exact zaP
 ·try simp only [go_sem] at hc
  have h := eC zAB h
  refine aB (aF hF [0, 2, 8, 33] ?_)
  simp only [go_sem]
  repeat (refine ⟨zAA, ?_⟩)
  refine aA (bG rfl (fun hc => ?_) (fun hc => ?_))
  ·try simp only [go_sem] at hc
   have h := eB zAB h
   obtain ⟨e, he4, h⟩ := bind_some h
   rcases e with r_52 | p_53
   ·try dsimp only at h
    refine aB (aC hF (aG (l := [(50, ⟨bU F, [1], ((aU ⟨#[101, 110, 100]⟩), o1_4, .inl r_52)⟩)]) (.cons (cD F) (by kernel_rfl) (.nil))) [0, 2] [] ?_)
    simp only [go_sem]
    repeat (refine ⟨zAA, ?_⟩)
    obtain ⟨e, he5, h⟩ := bind_some h
    rcases e with r_54 | p_55
    ·try dsimp only at h
     refine aA (aC hF (aG (l := [(52, ⟨eG F, [1], (r_52, .inl r_54)⟩)]) (.cons (gU F) (by kernel_rfl) (.nil))) [2] [] ?_)
     simp only [go_sem]
     repeat (refine ⟨zAA, ?_⟩)
     obtain ⟨e, he6, h⟩ := bind_some h
     rcases e with r_56 | p_57
     ·try dsimp only at h
      refine bC (aA (aC hF (aG (l := [(55, ⟨bE F, [1], (r_54.2, .inl r_56)⟩)]) (.cons (bK F) (by kernel_rfl) (.nil))) [] [] ?_))
      exact zaL
     ·try dsimp only at h
      refine bC (aA (aC hF (aG (l := [(55, ⟨bE F, [1], (r_54.2, .inr p_57)⟩)]) (.cons (bK F) (by kernel_rfl) (.nil))) [] [] ?_))
      exact zaT
    ·try dsimp only at h
     refine aA (aC hF (aG (l := [(52, ⟨eG F, [1], (r_52, .inr p_55)⟩)]) (.cons (gU F) (by kernel_rfl) (.nil))) [2] [] ?_)
     exact zaW
   ·try dsimp only at h
    refine aB (aC hF (aG (l := [(50, ⟨bU F, [1], ((aU ⟨#[101, 110, 100]⟩), o1_4, .inr p_53)⟩)]) (.cons (cD F) (by kernel_rfl) (.nil))) [0, 2] [] ?_)
    exact zaP
  ·try simp only [go_sem] at hc
   have h := eC zAB h
   refine aB (aF hF [0, 2, 8, 42] ?_)
   simp only [go_sem]
   repeat (refine ⟨zAA, ?_⟩)
   refine aA (bG rfl (fun hc => ?_) (fun hc => ?_))
   ·try simp only [go_sem] at hc
    have h := eB zAB h
    obtain ⟨e, he7, h⟩ := bind_some h
    rcases e with r_62 | p_63
    ·try dsimp only at h
     refine aB (aC hF (aG (l := [(50, ⟨bU F, [1], ((aU ⟨#[115, 116, 101, 112]⟩), o1_4, .inl r_62)⟩)]) (.cons (cD F) (by kernel_rfl) (.nil))) [0, 2] [] ?_)
     simp only [go_sem]
     repeat (refine ⟨zAA, ?_⟩)
     obtain ⟨e, he8, h⟩ := bind_some h
     rcases e with r_64 | p_67
     ·try dsimp only at h
      obtain ⟨e, he9, h⟩ := bind_some h
      rcases e with r_65 | p_66
      ·try dsimp only at h
       refine aA (aC hF (aSt (l := [(52, fun x => ⟨eG F, [1], ((aFy x 1 qk), (fM F (aFy x 1 qk)).getD (.inr (((0 : Int), (0 : Int), ()), ())))⟩)]) (.cons (fun _ => (gU F)) (by kernel_rfl) (.nil))) [2] [] ?_)
       simp only [Option.getD_some, he8, he9, go_sem]
       repeat (refine ⟨zAA, ?_⟩)
       obtain ⟨e, he10, h⟩ := bind_some h
       rcases e with r_68 | p_69
       ·try dsimp only at h
        refine bC (aA (aC hF (aG (l := [(55, ⟨bE F, [1], (r_65.2, .inl r_68)⟩)]) (.cons (bK F) (by kernel_rfl) (.nil))) [] [] ?_))
        exact zaL
       ·try dsimp only at h
        refine bC (aA (aC hF (aG (l := [(55, ⟨bE F, [1], (r_65.2, .inr p_69)⟩)]) (.cons (bK F) (by kernel_rfl) (.nil))) [] [] ?_))
        exact zaT
      ·try dsimp only at h
       refine aA (aC hF (aSt (l := [(52, fun x => ⟨eG F, [1], ((aFy x 1 qk), (fM F (aFy x 1 qk)).getD (.inr (((0 : Int), (0 : Int), ()), ())))⟩)]) (.cons (fun _ => (gU F)) (by kernel_rfl) (.nil))) [2] [] ?_)
       simp only [Option.getD_some, he8, he9, go_sem]
       repeat (refine ⟨zAA, ?_⟩)
       obtain rfl := Option.some.inj h
       refine bW (aO (aL (aJ 0 rfl aH) ?_))
       exact zaA
     ·try dsimp only at h
      refine aA (aC hF (aG (l := [(52, ⟨eG F, [1], (r_62, .inr p_67)⟩)]) (.cons (gU F) (by kernel_rfl) (.nil))) [2] [] ?_)
      exact zaW
    ·try dsimp only at h
     refine aB (aC hF (aG (l := [(50, ⟨bU F, [1], ((aU ⟨#[115, 116, 101, 112]⟩), o1_4, .inr p_63)⟩)]) (.cons (cD F) (by kernel_rfl) (.nil))) [0, 2] [] ?_)
     exact zaP
   ·try simp only [go_sem] at hc
    have h := eC zAB h
    refine aB (aF hF [0, 2, 8, 56] ?_)
    simp only [go_sem]
    repeat (refine ⟨zAA, ?_⟩)
    refine aA (bG rfl (fun hc => ?_) (fun hc => ?_))
    ·try simp only [go_sem] at hc
     have h := eB zAB h
     obtain ⟨e, he11, h⟩ := bind_some h
     rcases e with r_74 | p_75
     ·try dsimp only at h
      refine aB (aC hF (aG (l := [(50, ⟨bU F, [1], ((aU ⟨#[116, 111, 108]⟩), o1_4, .inl r_74)⟩)]) (.cons (cD F) (by kernel_rfl) (.nil))) [0, 2] [] ?_)
      simp only [go_sem]
      repeat (refine ⟨zAA, ?_⟩)
      obtain ⟨e, he12, h⟩ := bind_some h
      rcases e with r_76 | p_77
      ·try dsimp only at h
       refine aA (aC hF (aG (l := [(52, ⟨eG F, [1], (r_74, .inl r_76)⟩)]) (.cons (gU F) (by kernel_rfl) (.nil))) [2] [] ?_)
       simp only [go_sem]
       repeat (refine ⟨zAA, ?_⟩)
       obtain ⟨e, he13, h⟩ := bind_some h
       rcases e with r_78 | p_79
       ·try dsimp only at h
        refine bC (aA (aC hF (aG (l := [(55, ⟨bE F, [1], (r_76.2, .inl r_78)⟩)]) (.cons (bK F) (by kernel_rfl) (.nil))) [] [] ?_))
        exact zaL
       ·try dsimp only at h
        refine bC (aA (aC hF (aG (l := [(55, ⟨bE F, [1], (r_76.2, .inr p_79)⟩)]) (.cons (bK F) (by kernel_rfl) (.nil))) [] [] ?_))
        exact zaT
      ·try dsimp only at h
       refine aA (aC hF (aG (l := [(52, ⟨eG F, [1], (r_74, .inr p_77)⟩)]) (.cons (gU F) (by kernel_rfl) (.nil))) [2] [] ?_)
       exact zaW
     ·try dsimp only at h
      refine aB (aC hF (aG (l := [(50, ⟨bU F, [1], ((aU ⟨#[116, 111, 108]⟩), o1_4, .inr p_75)⟩)]) (.cons (cD F) (by kernel_rfl) (.nil))) [0, 2] [] ?_)
      exact zaP
    ·try simp only [go_sem] at hc
     have h := eC zAB h
     refine aB (aF hF [0, 2, 8, 65] ?_)
     simp only [go_sem]
     repeat (refine ⟨zAA, ?_⟩)
     refine aA (bG rfl (fun hc => ?_) (fun hc => ?_))
     ·try simp only [go_sem] at hc
      have h := eB zAB h
      obtain ⟨e, he14, h⟩ := bind_some h
      rcases e with r_84 | p_85
      ·try dsimp only at h
       refine aB (aC hF (aG (l := [(50, ⟨bU F, [1], ((aU ⟨#[116, 114, 105, 101, 115]⟩), o1_4, .inl r_84)⟩)]) (.cons (cD F) (by kernel_rfl) (.nil))) [0, 2] [] ?_)
       simp only [go_sem]
       repeat (refine ⟨zAA, ?_⟩)
       obtain ⟨e, he15, h⟩ := bind_some h
       rcases e with r_86 | p_87
       ·try dsimp only at h
        refine aA (aC hF (aG (l := [(51, ⟨fL F, [1], (r_84, .inl r_86)⟩)]) (.cons (kL F) (by kernel_rfl) (.nil))) [2] [] ?_)
        simp only [go_sem]
        repeat (refine ⟨zAA, ?_⟩)
        obtain ⟨e, he16, h⟩ := bind_some h
        rcases e with r_88 | p_89
        ·try dsimp only at h
         refine bC (aA (aC hF (aG (l := [(55, ⟨bE F, [1], (r_86.2, .inl r_88)⟩)]) (.cons (bK F) (by kernel_rfl) (.nil))) [] [] ?_))
         exact zaL
        ·try dsimp only at h
         refine bC (aA (aC hF (aG (l := [(55, ⟨bE F, [1], (r_86.2, .inr p_89)⟩)]) (.cons (bK F) (by kernel_rfl) (.nil))) [] [] ?_))
         exact zaT
       ·try dsimp only at h
        refine aA (aC hF (aG (l := [(51, ⟨fL F, [1], (r_84, .inr p_87)⟩)]) (.cons (kL F) (by kernel_rfl) (.nil))) [2] [] ?_)
        exact zaW
      ·try dsimp only at h
       refine aB (aC hF (aG (l := [(50, ⟨bU F, [1], ((aU ⟨#[116, 114, 105, 101, 115]⟩), o1_4, .inr p_85)⟩)]) (.cons (cD F) (by kernel_rfl) (.nil))) [0, 2] [] ?_)
       exact zaP
     ·try simp only [go_sem] at hc
      have h := eC zAB h
      refine aB (aF hF [0, 2, 74] ?_)
      simp only [go_sem]
      repeat (refine ⟨zAA, ?_⟩)
      refine aA (bG rfl (fun hc => ?_) (fun hc => ?_))
      ·try simp only [go_sem] at hc
       have h := eB zAB h
       obtain ⟨e, he17, h⟩ := bind_some h
       rcases e with r_94 | p_95
       ·try dsimp only at h
        refine aB (aC hF (aG (l := [(50, ⟨bU F, [1], ((aU ⟨#[111, 114, 100, 101, 114]⟩), o1_4, .inl r_94)⟩)]) (.cons (cD F) (by kernel_rfl) (.nil))) [0, 2] [] ?_)
        simp only [go_sem]
        repeat (refine ⟨zAA, ?_⟩)
        obtain ⟨e, he18, h⟩ := bind_some h
        rcases e with r_96 | p_97
        ·try dsimp only at h
         refine aA (aC hF (aG (l := [(51, ⟨fL F, [1], (r_94, .inl r_96)⟩)]) (.cons (kL F) (by kernel_rfl) (.nil))) [2] [] ?_)
         simp only [go_sem]
         repeat (refine ⟨zAA, ?_⟩)
         obtain ⟨e, he19, h⟩ := bind_some h
         rcases e with r_98 | p_99
         ·try dsimp only at h
          refine bC (aA (aC hF (aG (l := [(55, ⟨bE F, [1], (r_96.2, .inl r_98)⟩)]) (.cons (bK F) (by kernel_rfl) (.nil))) [] [] ?_))
          exact zaL
         ·try dsimp only at h
          refine bC (aA (aC hF (aG (l := [(55, ⟨bE F, [1], (r_96.2, .inr p_99)⟩)]) (.cons (bK F) (by kernel_rfl) (.nil))) [] [] ?_))
          exact zaT
        ·try dsimp only at h
         refine aA (aC hF (aG (l := [(51, ⟨fL F, [1], (r_94, .inr p_97)⟩)]) (.cons (kL F) (by kernel_rfl) (.nil))) [2] [] ?_)
         exact zaW
       ·try dsimp only at h
        refine aB (aC hF (aG (l := [(50, ⟨bU F, [1], ((aU ⟨#[111, 114, 100, 101, 114]⟩), o1_4, .inr p_95)⟩)]) (.cons (cD F) (by kernel_rfl) (.nil))) [0, 2] [] ?_)
        exact zaP
      ·try simp only [go_sem] at hc
       have h := eC zAB h
       obtain ⟨e, he20, h⟩ := bind_some h
       rcases e with r_104 | p_105
       ·try dsimp only at h
        refine aB (aC hF (aG (l := [(53, ⟨bM F, [1], (o1_4, .inl r_104)⟩)]) (.cons (bR F) (by kernel_rfl) (.nil))) [0, 2, 6, 7] [] ?_)
        simp only [go_sem]
        repeat (refine ⟨zAA, ?_⟩)
        obtain ⟨e, he21, h⟩ := bind_some h
        rcases e with r_110 | p_111
        ·try dsimp only at h
         refine aA (aB (aC hF (aG (l := [(54, ⟨bJ F, [1], ((aBh .str (aAK .str (aAK .str ([] : List (qd × Int)) (aU ⟨#[106, 97, 99, 111, 98, 105]⟩) (1 : Int)) (aU ⟨#[115, 101, 105, 100, 101, 108]⟩) (2 : Int)) r_104.1).isSome, r_104.2, .inl r_110)⟩)]) (.cons (bQ F) (by kernel_rfl) (.nil))) [0, 2, 6] [] ?_))
         simp only [go_sem]
         repeat (refine ⟨zAA, ?_⟩)
         refine aA (aR hF [2] ?_)
         simp only [go_sem]
         repeat (refine ⟨zAA, ?_⟩)
         obtain ⟨e, he22, h⟩ := bind_some h
         rcases e with r_112 | p_113
         ·try dsimp only at h
          refine bC (aA (aC hF (aG (l := [(55, ⟨bE F, [1], (r_110, .inl r_112)⟩)]) (.cons (bK F) (by kernel_rfl) (.nil))) [] [] ?_))
          simp only [go_sem]
          repeat (refine ⟨zAA, ?_⟩)
          obtain rfl := Option.some.inj h
          refine gF (gT [0, 1, 2, 3] rfl rfl ?_)
          exact zaR
         ·try dsimp only at h
          refine bC (aA (aC hF (aG (l := [(55, ⟨bE F, [1], (r_110, .inr p_113)⟩)]) (.cons (bK F) (by kernel_rfl) (.nil))) [] [] ?_))
          exact zaT
        ·try dsimp only at h
         refine aA (aB (aC hF (aG (l := [(54, ⟨bJ F, [1], ((aBh .str (aAK .str (aAK .str ([] : List (qd × Int)) (aU ⟨#[106, 97, 99, 111, 98, 105]⟩) (1 : Int)) (aU ⟨#[115, 101, 105, 100, 101, 108]⟩) (2 : Int)) r_104.1).isSome, r_104.2, .inr p_111)⟩)]) (.cons (bQ F) (by kernel_rfl) (.nil))) [0, 2, 6] [] ?_))
         exact zaP
       ·try dsimp only at h
        refine aB (aC hF (aG (l := [(53, ⟨bM F, [1], (o1_4, .inr p_105)⟩)]) (.cons (bR F) (by kernel_rfl) (.nil))) [0, 2, 6, 7] [] ?_)
        exact zaP
attribute [go_sem] wX
def aCH (F : Md) (ox0_2 : wu) (ok0_2 : Nat) (o0_2 : qc) (o1_3 : qn) : Option ((qc × qn) ⊕ q8) :=
 (dT F o1_3).bind (fun e => match e with | .inl r_41 => if r_41.1 = (aU ⟨#[115, 116, 97, 116, 101]⟩) then (jJ F r_41.2).bind (fun e => match e with | .inl r_47 => (eO F (aU ⟨#[61]⟩) r_47.2).bind (fun e => match e with | .inl r_53 => (qG F r_53).bind (fun e => match e with | .inl r_59 => (eO F (aU ⟨#[100, 101, 114]⟩) r_59.2).bind (fun e => match e with | .inl r_65 => (qH F r_65).bind (fun e => match e with | .inl r_71 => ck (((o0_2.2.1.length) + (1 : Nat)) * 145 ≤ 140737488355328) ((cZ F r_71.2).bind (fun e => match e with | .inl r_73 => some (.inl ((o0_2.1, (o0_2.2.1 ++ ([(r_47.1, r_59.1, r_71.1, ())] : List wa)), o0_2.2.2.1, o0_2.2.2.2.1, o0_2.2.2.2.2.1, ()), r_73)) | .inr p_74 => some (.inr p_74))) | .inr p_72 => some (.inr p_72)) | .inr p_66 => some (.inr p_66)) | .inr p_60 => some (.inr p_60)) | .inr p_54 => some (.inr p_54)) | .inr p_48 => some (.inr p_48)) else if r_41.1 = (aU ⟨#[112, 97, 114]⟩) then (jJ F r_41.2).bind (fun e => match e with | .inl r_79 => (eO F (aU ⟨#[61]⟩) r_79.2).bind (fun e => match e with | .inl r_85 => (qG F r_85).bind (fun e => match e with | .inl r_91 => ck (((o0_2.2.2.1.length) + (1 : Nat)) * 73 ≤ 140737488355328) ((cZ F r_91.2).bind (fun e => match e with | .inl r_93 => some (.inl ((o0_2.1, o0_2.2.1, (o0_2.2.2.1 ++ ([(r_79.1, r_91.1, ())] : List wd)), o0_2.2.2.2.1, o0_2.2.2.2.2.1, ()), r_93)) | .inr p_94 => some (.inr p_94))) | .inr p_92 => some (.inr p_92)) | .inr p_86 => some (.inr p_86)) | .inr p_80 => some (.inr p_80)) else if r_41.1 = (aU ⟨#[105, 110]⟩) then (jJ F r_41.2).bind (fun e => match e with | .inl r_95 => ck (((o0_2.2.2.2.1.length) + (1 : Nat)) * 16 ≤ 140737488355328) ((cZ F r_95.2).bind (fun e => match e with | .inl r_97 => some (.inl ((o0_2.1, o0_2.2.1, o0_2.2.2.1, (o0_2.2.2.2.1 ++ ([r_95.1] : List qd)), o0_2.2.2.2.2.1, ()), r_97)) | .inr p_98 => some (.inr p_98))) | .inr p_96 => some (.inr p_96)) else if r_41.1 = (aU ⟨#[111, 117, 116]⟩) then (jJ F r_41.2).bind (fun e => match e with | .inl r_103 => (eO F (aU ⟨#[61]⟩) r_103.2).bind (fun e => match e with | .inl r_109 => (qH F r_109).bind (fun e => match e with | .inl r_115 => ck (((o0_2.2.2.2.2.1.length) + (1 : Nat)) * 97 ≤ 140737488355328) ((cZ F r_115.2).bind (fun e => match e with | .inl r_117 => some (.inl ((o0_2.1, o0_2.2.1, o0_2.2.2.1, o0_2.2.2.2.1, (o0_2.2.2.2.2.1 ++ ([(r_103.1, r_115.1, ())] : List qz)), ()), r_117)) | .inr p_118 => some (.inr p_118))) | .inr p_116 => some (.inr p_116)) | .inr p_110 => some (.inr p_110)) | .inr p_104 => some (.inr p_104)) else (lC F r_41.2).bind (fun e => match e with | .inl r_119 => (cZ F r_119).bind (fun e => match e with | .inl r_121 => some (.inl ((o0_2.1, o0_2.2.1, o0_2.2.2.1, o0_2.2.2.2.1, o0_2.2.2.2.2.1, ()), r_121)) | .inr p_122 => some (.inr p_122)) | .inr p_120 => some (.inr p_120)) | .inr p_42 => some (.inr p_42))
def wY (F : Md) : fU where
 D := wu × Nat × qc × qn × ((qc × qn) ⊕ q8)
 av := fun d => [.ptr 0 [.idx 5 d.2.1], .ptr 1 []]
 hp := fun d => [.trh 53 qh qa d.1 d.2.1 (.agg [.val .str d.2.2.1.1, .own 2, .own 3, .own 4, .own 5]), .box 3 (.val qk d.2.2.2.1), .row 87 qq d.2.2.1.2.1, .row 123 qu d.2.2.1.2.2.1, .row 9 .str d.2.2.1.2.2.2.1, .row 89 qr d.2.2.1.2.2.2.2.1]
 m := 2
 pre := fun d => aCH F d.1 d.2.1 d.2.2.1 d.2.2.2.1 = some d.2.2.2.2
 out := fun d => match d.2.2.2.2 with | .inl r => .ret (.tup []) [.trh 53 qh qa d.1 d.2.1 (.agg [.val .str r.1.1, .own 2, .own 3, .own 4, .own 5]), .box 3 (.val qk r.2), .row 87 qq r.1.2.1, .row 123 qu r.1.2.2.1, .row 9 .str r.1.2.2.2.1, .row 89 qr r.1.2.2.2.2.1] | .inr p => .pan ⟨65, wi, p⟩ [.dead, .box 3 (.junk)]
def aKH (F : Md) : List (FuncId × aI) := []
theorem aKI [Mx] (F : Md) : bH Tryz.prog GL (aKH F) := .nil
theorem aIJ [Mx] (F : Md) : GOK Tryz.prog GL 59 (wY F) := by
 refine eF (aMv (aKI F)) Tryz.func59 rfl (by kernel_rfl) (fun _ => Nat.le_of_ble_eq_true rfl) fun c0 w0 d hw1 hw2 h hn => ?_
 have hF : fT ⟨Tryz.prog, EX (aKH F), GM (wY F) c0 d, w0, Tryz.f59.ntmps, []⟩ := ⟨aMv (aKI F), mix⟩
 obtain ⟨(ox0_2 : wu), (ok0_2 : Nat), (o0_2 : qc), (o1_3 : qn), r⟩ := d
 replace h : aCH F ox0_2 ok0_2 o0_2 o1_3 = some r := h
 have hw1 : AV.wfL [.ptr 0 [.idx 5 ok0_2], .ptr 1 []] := hw1
 simp only [AV.wfL, AV.wfV, Ty.wf, eR] at hw1
 show Tri _ _ _ [(0, .ptr 0 [.idx 5 ok0_2]), (1, .ptr 1 [])] [.trh 53 qh qa ox0_2 ok0_2 (.agg [.val .str o0_2.1, .own 2, .own 3, .own 4, .own 5]), .box 3 (.val qk o1_3), .row 87 qq o0_2.2.1, .row 123 qu o0_2.2.2.1, .row 9 .str o0_2.2.2.2.1, .row 89 qr o0_2.2.2.2.2.1]
 unfold aCH at h
 obtain ⟨e, he1, h⟩ := bind_some h
 rcases e with r_41 | p_42
 ·try dsimp only at h
  refine aB (aB (aC hF (aG (l := [(53, ⟨bM F, [1], (o1_3, .inl r_41)⟩)]) (.cons (bR F) (by kernel_rfl) (.nil))) [0, 1, 8] [] ?_))
  simp only [go_sem]
  repeat (refine ⟨zAA, ?_⟩)
  refine aA (eA (aB (aF hF [0, 1, 8, 11] ?_)))
  simp only [go_sem]
  repeat (refine ⟨zAA, ?_⟩)
  refine aA (bG rfl (fun hc => ?_) (fun hc => ?_))
  ·try simp only [go_sem] at hc
   have h := eB zAB h
   obtain ⟨e, he2, h⟩ := bind_some h
   rcases e with r_47 | p_48
   ·try dsimp only at h
    refine aB (aC hF (aG (l := [(58, ⟨dV F, [1], (r_41.2, .inl r_47)⟩)]) (.cons (fP F) (by kernel_rfl) (.nil))) [0, 1, 4] [] ?_)
    simp only [go_sem]
    repeat (refine ⟨zAA, ?_⟩)
    obtain ⟨e, he3, h⟩ := bind_some h
    rcases e with r_53 | p_54
    ·try dsimp only at h
     refine aA (aB (aC hF (aG (l := [(50, ⟨bU F, [1], ((aU ⟨#[61]⟩), r_47.2, .inl r_53)⟩)]) (.cons (cD F) (by kernel_rfl) (.nil))) [0, 1, 4] [] ?_))
     simp only [go_sem]
     repeat (refine ⟨zAA, ?_⟩)
     obtain ⟨e, he4, h⟩ := bind_some h
     rcases e with r_59 | p_60
     ·try dsimp only at h
      refine aA (aB (aC hF (aG (l := [(99, ⟨kB F, [1], (r_53, .inl r_59)⟩)]) (.cons (rY F) (by kernel_rfl) (.nil))) [0, 1, 4] [] ?_))
      simp only [go_sem]
      repeat (refine ⟨zAA, ?_⟩)
      obtain ⟨e, he5, h⟩ := bind_some h
      rcases e with r_65 | p_66
      ·try dsimp only at h
       refine aA (aB (aC hF (aG (l := [(50, ⟨bU F, [1], ((aU ⟨#[100, 101, 114]⟩), r_59.2, .inl r_65)⟩)]) (.cons (cD F) (by kernel_rfl) (.nil))) [0, 1, 4] [] ?_))
       simp only [go_sem]
       repeat (refine ⟨zAA, ?_⟩)
       obtain ⟨e, he6, h⟩ := bind_some h
       rcases e with r_71 | p_72
       ·try dsimp only at h
        refine aA (aB (aC hF (aG (l := [(100, ⟨kC F, [1], (r_65, .inl r_71)⟩)]) (.cons (rZ F) (by kernel_rfl) (.nil))) [0, 1, 4] [] ?_))
        simp only [go_sem]
        repeat (refine ⟨zAA, ?_⟩)
        obtain ⟨g0, h⟩ := aP h
        refine aA (aDH hF [1] [6, 7, 10] [[0], [0], [27], [28], [29], [4], [31], [30, 32], [26], [34], [33, 35]] [(0, 0), (0, 1), (0, 2), (1, 0), (1, 1), (1, 2), (2, 0), (2, 1), (2, 2), (3, 0), (3, 1), (3, 2), (4, 0), (4, 1), (5, 0), (6, 0), (7, 1), (8, 2), (8, 3), (9, 2), (10, 2)] [.ptr 0 [.idx 5 ok0_2], .ptr 0 [.idx 5 ok0_2], .ptr 0 [.idx 5 ok0_2], .ptr 0 [.idx 5 ok0_2, .fld 1 1], .own 2, .val qq (r_47.1, r_59.1, r_71.1, ()), .own 7, .own 8, .ptr 0 [.idx 5 ok0_2], .ptr 0 [.idx 5 ok0_2, .fld 1 1], .junk] [[.trh 53 qh qa ox0_2 ok0_2 (.agg [.val .str o0_2.1, .own 2, .own 3, .own 4, .own 5]), .box 3 (.val qk r_71.2), .row 87 qq o0_2.2.1, .row 123 qu o0_2.2.2.1, .row 9 .str o0_2.2.2.2.1, .row 89 qr o0_2.2.2.2.2.1, .box 6 (.val qq (r_47.1, r_59.1, r_71.1, ()))], [.trh 53 qh qa ox0_2 ok0_2 (.agg [.val .str o0_2.1, .own 2, .own 3, .own 4, .own 5]), .box 3 (.val qk r_71.2), .row 87 qq o0_2.2.1, .row 123 qu o0_2.2.2.1, .row 9 .str o0_2.2.2.2.1, .row 89 qr o0_2.2.2.2.2.1, .box 6 (.val qq (r_47.1, r_59.1, r_71.1, ())), .row 87 qq ([(r_47.1, r_59.1, r_71.1, ())] : List wa)], [.trh 53 qh qa ox0_2 ok0_2 (.agg [.val .str o0_2.1, .own 2, .own 3, .own 4, .own 5]), .box 3 (.val qk r_71.2), .dead, .row 123 qu o0_2.2.2.1, .row 9 .str o0_2.2.2.2.1, .row 89 qr o0_2.2.2.2.2.1, .box 6 (.val qq (r_47.1, r_59.1, r_71.1, ())), .dead, .row 87 qq (o0_2.2.1 ++ ([(r_47.1, r_59.1, r_71.1, ())] : List wa))], [.trh 53 qh qa ox0_2 ok0_2 (.agg [.val .str o0_2.1, .own 8, .own 3, .own 4, .own 5]), .box 3 (.val qk r_71.2), .dead, .row 123 qu o0_2.2.2.1, .row 9 .str o0_2.2.2.2.1, .row 89 qr o0_2.2.2.2.2.1, .box 6 (.val qq (r_47.1, r_59.1, r_71.1, ())), .dead, .row 87 qq (o0_2.2.1 ++ ([(r_47.1, r_59.1, r_71.1, ())] : List wa))]] [[(0, .ptr 0 [.idx 5 ok0_2])], [(0, .ptr 0 [.idx 5 ok0_2])], [(27, .ptr 0 [.idx 5 ok0_2])], [(28, .ptr 0 [.idx 5 ok0_2])], [(29, .ptr 0 [.idx 5 ok0_2, .fld 1 1])], [(4, .ptr 6 [])], [(31, .val qq (r_47.1, r_59.1, r_71.1, ()))], [(30, .own 2), (32, .own 7)], [(26, .ptr 0 [.idx 5 ok0_2])], [(34, .ptr 0 [.idx 5 ok0_2])], [(33, .own 8), (35, .ptr 0 [.idx 5 ok0_2, .fld 1 1])]] (by decide) rfl rfl ?_ ?_)
        ·simp only [go_sem]
         exact zaN
        show At _ _ [(1, .ptr 1 [])] [.trh 53 qh qa ox0_2 ok0_2 (.agg [.val .str o0_2.1, .own 8, .own 3, .own 4, .own 5]), .box 3 (.val qk r_71.2), .dead, .row 123 qu o0_2.2.2.1, .row 9 .str o0_2.2.2.2.1, .row 89 qr o0_2.2.2.2.2.1, .box 6 (.val qq (r_47.1, r_59.1, r_71.1, ())), .dead, .row 87 qq (o0_2.2.1 ++ ([(r_47.1, r_59.1, r_71.1, ())] : List wa))]
        obtain ⟨e, he7, h⟩ := bind_some h
        rcases e with r_73 | p_74
        ·try dsimp only at h
         refine bC (aA (aC hF (aG (l := [(55, ⟨bE F, [1], (r_71.2, .inl r_73)⟩)]) (.cons (bK F) (by kernel_rfl) (.nil))) [] [] ?_))
         simp only [go_sem]
         repeat (refine ⟨zAA, ?_⟩)
         obtain rfl := Option.some.inj h
         refine gF (gT [0, 1, 8, 3, 4, 5] rfl rfl ?_)
         exact zaR
        ·try dsimp only at h
         refine bC (aA (aC hF (aG (l := [(55, ⟨bE F, [1], (r_71.2, .inr p_74)⟩)]) (.cons (bK F) (by kernel_rfl) (.nil))) [] [] ?_))
         exact zaj
       ·try dsimp only at h
        refine aA (aB (aC hF (aG (l := [(100, ⟨kC F, [1], (r_65, .inr p_72)⟩)]) (.cons (rZ F) (by kernel_rfl) (.nil))) [0, 1, 4] [] ?_))
        exact zaJ
      ·try dsimp only at h
       refine aA (aB (aC hF (aG (l := [(50, ⟨bU F, [1], ((aU ⟨#[100, 101, 114]⟩), r_59.2, .inr p_66)⟩)]) (.cons (cD F) (by kernel_rfl) (.nil))) [0, 1, 4] [] ?_))
       exact zaJ
     ·try dsimp only at h
      refine aA (aB (aC hF (aG (l := [(99, ⟨kB F, [1], (r_53, .inr p_60)⟩)]) (.cons (rY F) (by kernel_rfl) (.nil))) [0, 1, 4] [] ?_))
      exact zaJ
    ·try dsimp only at h
     refine aA (aB (aC hF (aG (l := [(50, ⟨bU F, [1], ((aU ⟨#[61]⟩), r_47.2, .inr p_54)⟩)]) (.cons (cD F) (by kernel_rfl) (.nil))) [0, 1, 4] [] ?_))
     exact zaJ
   ·try dsimp only at h
    refine aB (aC hF (aG (l := [(58, ⟨dV F, [1], (r_41.2, .inr p_48)⟩)]) (.cons (fP F) (by kernel_rfl) (.nil))) [0, 1, 4] [] ?_)
    exact zaJ
  ·try simp only [go_sem] at hc
   have h := eC zAB h
   refine aB (aF hF [0, 1, 8, 36] ?_)
   simp only [go_sem]
   repeat (refine ⟨zAA, ?_⟩)
   refine aA (bG rfl (fun hc => ?_) (fun hc => ?_))
   ·try simp only [go_sem] at hc
    have h := eB zAB h
    obtain ⟨e, he8, h⟩ := bind_some h
    rcases e with r_79 | p_80
    ·try dsimp only at h
     refine aB (aC hF (aG (l := [(58, ⟨dV F, [1], (r_41.2, .inl r_79)⟩)]) (.cons (fP F) (by kernel_rfl) (.nil))) [0, 1, 5] [] ?_)
     simp only [go_sem]
     repeat (refine ⟨zAA, ?_⟩)
     obtain ⟨e, he9, h⟩ := bind_some h
     rcases e with r_85 | p_86
     ·try dsimp only at h
      refine aA (aB (aC hF (aG (l := [(50, ⟨bU F, [1], ((aU ⟨#[61]⟩), r_79.2, .inl r_85)⟩)]) (.cons (cD F) (by kernel_rfl) (.nil))) [0, 1, 5] [] ?_))
      simp only [go_sem]
      repeat (refine ⟨zAA, ?_⟩)
      obtain ⟨e, he10, h⟩ := bind_some h
      rcases e with r_91 | p_92
      ·try dsimp only at h
       refine aA (aB (aC hF (aG (l := [(99, ⟨kB F, [1], (r_85, .inl r_91)⟩)]) (.cons (rY F) (by kernel_rfl) (.nil))) [0, 1, 5] [] ?_))
       simp only [go_sem]
       repeat (refine ⟨zAA, ?_⟩)
       obtain ⟨g0, h⟩ := aP h
       refine aA (aDH hF [1] [6, 7, 10] [[0], [0], [47], [48], [49], [5], [51], [50, 52], [46], [54], [53, 55]] [(0, 0), (0, 1), (0, 2), (1, 0), (1, 1), (1, 2), (2, 0), (2, 1), (2, 2), (3, 0), (3, 1), (3, 2), (4, 0), (4, 1), (5, 0), (6, 0), (7, 1), (8, 2), (8, 3), (9, 2), (10, 2)] [.ptr 0 [.idx 5 ok0_2], .ptr 0 [.idx 5 ok0_2], .ptr 0 [.idx 5 ok0_2], .ptr 0 [.idx 5 ok0_2, .fld 2 2], .own 3, .val qu (r_79.1, r_91.1, ()), .own 7, .own 8, .ptr 0 [.idx 5 ok0_2], .ptr 0 [.idx 5 ok0_2, .fld 2 2], .junk] [[.trh 53 qh qa ox0_2 ok0_2 (.agg [.val .str o0_2.1, .own 2, .own 3, .own 4, .own 5]), .box 3 (.val qk r_91.2), .row 87 qq o0_2.2.1, .row 123 qu o0_2.2.2.1, .row 9 .str o0_2.2.2.2.1, .row 89 qr o0_2.2.2.2.2.1, .box 3 (.val qu (r_79.1, r_91.1, ()))], [.trh 53 qh qa ox0_2 ok0_2 (.agg [.val .str o0_2.1, .own 2, .own 3, .own 4, .own 5]), .box 3 (.val qk r_91.2), .row 87 qq o0_2.2.1, .row 123 qu o0_2.2.2.1, .row 9 .str o0_2.2.2.2.1, .row 89 qr o0_2.2.2.2.2.1, .box 3 (.val qu (r_79.1, r_91.1, ())), .row 123 qu ([(r_79.1, r_91.1, ())] : List wd)], [.trh 53 qh qa ox0_2 ok0_2 (.agg [.val .str o0_2.1, .own 2, .own 3, .own 4, .own 5]), .box 3 (.val qk r_91.2), .row 87 qq o0_2.2.1, .dead, .row 9 .str o0_2.2.2.2.1, .row 89 qr o0_2.2.2.2.2.1, .box 3 (.val qu (r_79.1, r_91.1, ())), .row 123 qu ([(r_79.1, r_91.1, ())] : List wd), .row 123 qu (o0_2.2.2.1 ++ ([(r_79.1, r_91.1, ())] : List wd))], [.trh 53 qh qa ox0_2 ok0_2 (.agg [.val .str o0_2.1, .own 2, .own 8, .own 4, .own 5]), .box 3 (.val qk r_91.2), .row 87 qq o0_2.2.1, .dead, .row 9 .str o0_2.2.2.2.1, .row 89 qr o0_2.2.2.2.2.1, .box 3 (.val qu (r_79.1, r_91.1, ())), .row 123 qu ([(r_79.1, r_91.1, ())] : List wd), .row 123 qu (o0_2.2.2.1 ++ ([(r_79.1, r_91.1, ())] : List wd))]] [[(0, .ptr 0 [.idx 5 ok0_2])], [(0, .ptr 0 [.idx 5 ok0_2])], [(47, .ptr 0 [.idx 5 ok0_2])], [(48, .ptr 0 [.idx 5 ok0_2])], [(49, .ptr 0 [.idx 5 ok0_2, .fld 2 2])], [(5, .ptr 6 [])], [(51, .val qu (r_79.1, r_91.1, ()))], [(50, .own 3), (52, .own 7)], [(46, .ptr 0 [.idx 5 ok0_2])], [(54, .ptr 0 [.idx 5 ok0_2])], [(53, .own 8), (55, .ptr 0 [.idx 5 ok0_2, .fld 2 2])]] (by decide) rfl rfl ?_ ?_)
       ·simp only [go_sem]
        exact zaN
       show At _ _ [(1, .ptr 1 [])] [.trh 53 qh qa ox0_2 ok0_2 (.agg [.val .str o0_2.1, .own 2, .own 8, .own 4, .own 5]), .box 3 (.val qk r_91.2), .row 87 qq o0_2.2.1, .dead, .row 9 .str o0_2.2.2.2.1, .row 89 qr o0_2.2.2.2.2.1, .box 3 (.val qu (r_79.1, r_91.1, ())), .row 123 qu ([(r_79.1, r_91.1, ())] : List wd), .row 123 qu (o0_2.2.2.1 ++ ([(r_79.1, r_91.1, ())] : List wd))]
       obtain ⟨e, he11, h⟩ := bind_some h
       rcases e with r_93 | p_94
       ·try dsimp only at h
        refine bC (aA (aC hF (aG (l := [(55, ⟨bE F, [1], (r_91.2, .inl r_93)⟩)]) (.cons (bK F) (by kernel_rfl) (.nil))) [] [] ?_))
        simp only [go_sem]
        repeat (refine ⟨zAA, ?_⟩)
        obtain rfl := Option.some.inj h
        refine gF (gT [0, 1, 2, 8, 4, 5] rfl rfl ?_)
        exact zaR
       ·try dsimp only at h
        refine bC (aA (aC hF (aG (l := [(55, ⟨bE F, [1], (r_91.2, .inr p_94)⟩)]) (.cons (bK F) (by kernel_rfl) (.nil))) [] [] ?_))
        exact zaj
      ·try dsimp only at h
       refine aA (aB (aC hF (aG (l := [(99, ⟨kB F, [1], (r_85, .inr p_92)⟩)]) (.cons (rY F) (by kernel_rfl) (.nil))) [0, 1, 5] [] ?_))
       exact zaJ
     ·try dsimp only at h
      refine aA (aB (aC hF (aG (l := [(50, ⟨bU F, [1], ((aU ⟨#[61]⟩), r_79.2, .inr p_86)⟩)]) (.cons (cD F) (by kernel_rfl) (.nil))) [0, 1, 5] [] ?_))
      exact zaJ
    ·try dsimp only at h
     refine aB (aC hF (aG (l := [(58, ⟨dV F, [1], (r_41.2, .inr p_80)⟩)]) (.cons (fP F) (by kernel_rfl) (.nil))) [0, 1, 5] [] ?_)
     exact zaJ
   ·try simp only [go_sem] at hc
    have h := eC zAB h
    refine aB (aF hF [0, 1, 8, 56] ?_)
    simp only [go_sem]
    repeat (refine ⟨zAA, ?_⟩)
    refine aA (bG rfl (fun hc => ?_) (fun hc => ?_))
    ·try simp only [go_sem] at hc
     have h := eB zAB h
     obtain ⟨e, he12, h⟩ := bind_some h
     rcases e with r_95 | p_96
     ·try dsimp only at h
      obtain ⟨g0, h⟩ := aP h
      refine pW hF (aG (l := [(58, ⟨dV F, [1], (r_41.2, .inl r_95)⟩)]) (.cons (fP F) (by kernel_rfl) (.nil))) [] [1] [6, 7, 8, 11] [[0], [0], [59], [60], [61], [1], [63], [64], [62, 65], [58], [67], [66, 68]] [(0, 0), (0, 1), (0, 2), (0, 3), (1, 0), (1, 1), (1, 2), (1, 3), (2, 0), (2, 1), (2, 2), (2, 3), (3, 0), (3, 1), (3, 2), (3, 3), (4, 0), (4, 1), (4, 2), (5, 0), (6, 0), (7, 1), (8, 2), (9, 3), (9, 4), (10, 3), (11, 3)] [.ptr 0 [.idx 5 ok0_2], .ptr 0 [.idx 5 ok0_2], .ptr 0 [.idx 5 ok0_2], .ptr 0 [.idx 5 ok0_2, .fld 3 3], .own 4, .ptr 1 [], .val .str r_95.1, .own 6, .own 7, .ptr 0 [.idx 5 ok0_2], .ptr 0 [.idx 5 ok0_2, .fld 3 3], .junk] [[.trh 53 qh qa ox0_2 ok0_2 (.agg [.val .str o0_2.1, .own 2, .own 3, .own 4, .own 5]), .box 3 (.val qk r_41.2), .row 87 qq o0_2.2.1, .row 123 qu o0_2.2.2.1, .row 9 .str o0_2.2.2.2.1, .row 89 qr o0_2.2.2.2.2.1], [.trh 53 qh qa ox0_2 ok0_2 (.agg [.val .str o0_2.1, .own 2, .own 3, .own 4, .own 5]), .box 3 (.val qk r_95.2), .row 87 qq o0_2.2.1, .row 123 qu o0_2.2.2.1, .row 9 .str o0_2.2.2.2.1, .row 89 qr o0_2.2.2.2.2.1], [.trh 53 qh qa ox0_2 ok0_2 (.agg [.val .str o0_2.1, .own 2, .own 3, .own 4, .own 5]), .box 3 (.val qk r_95.2), .row 87 qq o0_2.2.1, .row 123 qu o0_2.2.2.1, .row 9 .str o0_2.2.2.2.1, .row 89 qr o0_2.2.2.2.2.1, .row 9 .str ([r_95.1] : List qd)], [.trh 53 qh qa ox0_2 ok0_2 (.agg [.val .str o0_2.1, .own 2, .own 3, .own 4, .own 5]), .box 3 (.val qk r_95.2), .row 87 qq o0_2.2.1, .row 123 qu o0_2.2.2.1, .dead, .row 89 qr o0_2.2.2.2.2.1, .row 9 .str ([r_95.1] : List qd), .row 9 .str (o0_2.2.2.2.1 ++ ([r_95.1] : List qd))], [.trh 53 qh qa ox0_2 ok0_2 (.agg [.val .str o0_2.1, .own 2, .own 3, .own 7, .own 5]), .box 3 (.val qk r_95.2), .row 87 qq o0_2.2.1, .row 123 qu o0_2.2.2.1, .dead, .row 89 qr o0_2.2.2.2.2.1, .row 9 .str ([r_95.1] : List qd), .row 9 .str (o0_2.2.2.2.1 ++ ([r_95.1] : List qd))]] [[(0, .ptr 0 [.idx 5 ok0_2])], [(0, .ptr 0 [.idx 5 ok0_2])], [(59, .ptr 0 [.idx 5 ok0_2])], [(60, .ptr 0 [.idx 5 ok0_2])], [(61, .ptr 0 [.idx 5 ok0_2, .fld 3 3])], [(1, .ptr 1 [])], [(63, .ptr 1 [])], [(64, .val .str r_95.1)], [(62, .own 4), (65, .own 6)], [(58, .ptr 0 [.idx 5 ok0_2])], [(67, .ptr 0 [.idx 5 ok0_2])], [(66, .own 7), (68, .ptr 0 [.idx 5 ok0_2, .fld 3 3])]] false (by decide) rfl rfl ?_ ?_
      ·simp only [go_sem]
       exact zaN
      intro _
      show At _ _ [(1, .ptr 1 [])] [.trh 53 qh qa ox0_2 ok0_2 (.agg [.val .str o0_2.1, .own 2, .own 3, .own 7, .own 5]), .box 3 (.val qk r_95.2), .row 87 qq o0_2.2.1, .row 123 qu o0_2.2.2.1, .dead, .row 89 qr o0_2.2.2.2.2.1, .row 9 .str ([r_95.1] : List qd), .row 9 .str (o0_2.2.2.2.1 ++ ([r_95.1] : List qd))]
      obtain ⟨e, he13, h⟩ := bind_some h
      rcases e with r_97 | p_98
      ·try dsimp only at h
       refine bC (aA (aC hF (aG (l := [(55, ⟨bE F, [1], (r_95.2, .inl r_97)⟩)]) (.cons (bK F) (by kernel_rfl) (.nil))) [] [] ?_))
       simp only [go_sem]
       repeat (refine ⟨zAA, ?_⟩)
       obtain rfl := Option.some.inj h
       refine gF (gT [0, 1, 2, 3, 7, 5] rfl rfl ?_)
       exact zaR
      ·try dsimp only at h
       refine bC (aA (aC hF (aG (l := [(55, ⟨bE F, [1], (r_95.2, .inr p_98)⟩)]) (.cons (bK F) (by kernel_rfl) (.nil))) [] [] ?_))
       exact zaj
     ·try dsimp only at h
      refine pW hF (aG (l := [(58, ⟨dV F, [1], (r_41.2, .inr p_96)⟩)]) (.cons (fP F) (by kernel_rfl) (.nil))) [] [1] [6] [[0], [0], [59], [60], [61], [1], [63], [64], [62, 65], [58], [67], [66, 68]] [(0, 0), (1, 0), (2, 0), (3, 0), (4, 0), (5, 0), (6, 0)] [.ptr 0 [.idx 5 ok0_2], .ptr 0 [.idx 5 ok0_2], .ptr 0 [.idx 5 ok0_2], .ptr 0 [.idx 5 ok0_2, .fld 3 3], .own 4, .ptr 1 [], .junk, .junk, .junk, .junk, .junk, .junk] [[.trh 53 qh qa ox0_2 ok0_2 (.agg [.val .str o0_2.1, .own 2, .own 3, .own 4, .own 5]), .box 3 (.val qk r_41.2), .row 87 qq o0_2.2.1, .row 123 qu o0_2.2.2.1, .row 9 .str o0_2.2.2.2.1, .row 89 qr o0_2.2.2.2.2.1]] [[(0, .ptr 0 [.idx 5 ok0_2])], [(0, .ptr 0 [.idx 5 ok0_2])], [(59, .ptr 0 [.idx 5 ok0_2])], [(60, .ptr 0 [.idx 5 ok0_2])], [(61, .ptr 0 [.idx 5 ok0_2, .fld 3 3])], [(1, .ptr 1 [])], [(63, .ptr 1 [])], [(64, .junk)], [(62, .own 4), (65, .junk)], [(58, .ptr 0 [.idx 5 ok0_2])], [(67, .junk)], [(66, .junk), (68, .junk)]] true (by decide) rfl rfl ?_ ?_
      rotate_left
      exact fun h => absurd h (by decide)
      simp only [go_sem]
      (repeat' apply And.intro) <;> try (first | trivial | rfl | with_reducible assumption | omega | (intros; first | with_reducible assumption | omega) | (simp; done) | (simp at *; omega))
      obtain rfl := Option.some.inj h
      refine bW (aO (aL (kU 0 rfl aH) ?_))
      refine aL (aJ 1 rfl aH) ?_
      simp only [go_sem]
      refine bO [0, 1] rfl rfl ?_
      simp only [ren, cQ, dB, posOf, bF, go_sem]
      refine aY rfl rfl rfl rfl
    ·try simp only [go_sem] at hc
     have h := eC zAB h
     refine aB (aF hF [0, 1, 69] ?_)
     simp only [go_sem]
     repeat (refine ⟨zAA, ?_⟩)
     refine aA (bG rfl (fun hc => ?_) (fun hc => ?_))
     ·try simp only [go_sem] at hc
      have h := eB zAB h
      obtain ⟨e, he14, h⟩ := bind_some h
      rcases e with r_103 | p_104
      ·try dsimp only at h
       refine aB (aC hF (aG (l := [(58, ⟨dV F, [1], (r_41.2, .inl r_103)⟩)]) (.cons (fP F) (by kernel_rfl) (.nil))) [0, 1, 6] [] ?_)
       simp only [go_sem]
       repeat (refine ⟨zAA, ?_⟩)
       obtain ⟨e, he15, h⟩ := bind_some h
       rcases e with r_109 | p_110
       ·try dsimp only at h
        refine aA (aB (aC hF (aG (l := [(50, ⟨bU F, [1], ((aU ⟨#[61]⟩), r_103.2, .inl r_109)⟩)]) (.cons (cD F) (by kernel_rfl) (.nil))) [0, 1, 6] [] ?_))
        simp only [go_sem]
        repeat (refine ⟨zAA, ?_⟩)
        obtain ⟨e, he16, h⟩ := bind_some h
        rcases e with r_115 | p_116
        ·try dsimp only at h
         refine aA (aB (aC hF (aG (l := [(100, ⟨kC F, [1], (r_109, .inl r_115)⟩)]) (.cons (rZ F) (by kernel_rfl) (.nil))) [0, 1, 6] [] ?_))
         simp only [go_sem]
         repeat (refine ⟨zAA, ?_⟩)
         obtain ⟨g0, h⟩ := aP h
         refine aA (aDH hF [1] [6, 7, 10] [[0], [0], [80], [81], [82], [6], [84], [83, 85], [79], [87], [86, 88]] [(0, 0), (0, 1), (0, 2), (1, 0), (1, 1), (1, 2), (2, 0), (2, 1), (2, 2), (3, 0), (3, 1), (3, 2), (4, 0), (4, 1), (5, 0), (6, 0), (7, 1), (8, 2), (8, 3), (9, 2), (10, 2)] [.ptr 0 [.idx 5 ok0_2], .ptr 0 [.idx 5 ok0_2], .ptr 0 [.idx 5 ok0_2], .ptr 0 [.idx 5 ok0_2, .fld 4 4], .own 5, .val qr (r_103.1, r_115.1, ()), .own 7, .own 8, .ptr 0 [.idx 5 ok0_2], .ptr 0 [.idx 5 ok0_2, .fld 4 4], .junk] [[.trh 53 qh qa ox0_2 ok0_2 (.agg [.val .str o0_2.1, .own 2, .own 3, .own 4, .own 5]), .box 3 (.val qk r_115.2), .row 87 qq o0_2.2.1, .row 123 qu o0_2.2.2.1, .row 9 .str o0_2.2.2.2.1, .row 89 qr o0_2.2.2.2.2.1, .box 4 (.val qr (r_103.1, r_115.1, ()))], [.trh 53 qh qa ox0_2 ok0_2 (.agg [.val .str o0_2.1, .own 2, .own 3, .own 4, .own 5]), .box 3 (.val qk r_115.2), .row 87 qq o0_2.2.1, .row 123 qu o0_2.2.2.1, .row 9 .str o0_2.2.2.2.1, .row 89 qr o0_2.2.2.2.2.1, .box 4 (.val qr (r_103.1, r_115.1, ())), .row 89 qr ([(r_103.1, r_115.1, ())] : List qz)], [.trh 53 qh qa ox0_2 ok0_2 (.agg [.val .str o0_2.1, .own 2, .own 3, .own 4, .own 5]), .box 3 (.val qk r_115.2), .row 87 qq o0_2.2.1, .row 123 qu o0_2.2.2.1, .row 9 .str o0_2.2.2.2.1, .dead, .box 4 (.val qr (r_103.1, r_115.1, ())), .dead, .row 89 qr (o0_2.2.2.2.2.1 ++ ([(r_103.1, r_115.1, ())] : List qz))], [.trh 53 qh qa ox0_2 ok0_2 (.agg [.val .str o0_2.1, .own 2, .own 3, .own 4, .own 8]), .box 3 (.val qk r_115.2), .row 87 qq o0_2.2.1, .row 123 qu o0_2.2.2.1, .row 9 .str o0_2.2.2.2.1, .dead, .box 4 (.val qr (r_103.1, r_115.1, ())), .dead, .row 89 qr (o0_2.2.2.2.2.1 ++ ([(r_103.1, r_115.1, ())] : List qz))]] [[(0, .ptr 0 [.idx 5 ok0_2])], [(0, .ptr 0 [.idx 5 ok0_2])], [(80, .ptr 0 [.idx 5 ok0_2])], [(81, .ptr 0 [.idx 5 ok0_2])], [(82, .ptr 0 [.idx 5 ok0_2, .fld 4 4])], [(6, .ptr 6 [])], [(84, .val qr (r_103.1, r_115.1, ()))], [(83, .own 5), (85, .own 7)], [(79, .ptr 0 [.idx 5 ok0_2])], [(87, .ptr 0 [.idx 5 ok0_2])], [(86, .own 8), (88, .ptr 0 [.idx 5 ok0_2, .fld 4 4])]] (by decide) rfl rfl ?_ ?_)
         ·simp only [go_sem]
          exact zaN
         show At _ _ [(1, .ptr 1 [])] [.trh 53 qh qa ox0_2 ok0_2 (.agg [.val .str o0_2.1, .own 2, .own 3, .own 4, .own 8]), .box 3 (.val qk r_115.2), .row 87 qq o0_2.2.1, .row 123 qu o0_2.2.2.1, .row 9 .str o0_2.2.2.2.1, .dead, .box 4 (.val qr (r_103.1, r_115.1, ())), .dead, .row 89 qr (o0_2.2.2.2.2.1 ++ ([(r_103.1, r_115.1, ())] : List qz))]
         obtain ⟨e, he17, h⟩ := bind_some h
         rcases e with r_117 | p_118
         ·try dsimp only at h
          refine bC (aA (aC hF (aG (l := [(55, ⟨bE F, [1], (r_115.2, .inl r_117)⟩)]) (.cons (bK F) (by kernel_rfl) (.nil))) [] [] ?_))
          simp only [go_sem]
          repeat (refine ⟨zAA, ?_⟩)
          obtain rfl := Option.some.inj h
          refine gF (gT [0, 1, 2, 3, 4, 8] rfl rfl ?_)
          exact zaR
         ·try dsimp only at h
          refine bC (aA (aC hF (aG (l := [(55, ⟨bE F, [1], (r_115.2, .inr p_118)⟩)]) (.cons (bK F) (by kernel_rfl) (.nil))) [] [] ?_))
          exact zaj
        ·try dsimp only at h
         refine aA (aB (aC hF (aG (l := [(100, ⟨kC F, [1], (r_109, .inr p_116)⟩)]) (.cons (rZ F) (by kernel_rfl) (.nil))) [0, 1, 6] [] ?_))
         exact zaJ
       ·try dsimp only at h
        refine aA (aB (aC hF (aG (l := [(50, ⟨bU F, [1], ((aU ⟨#[61]⟩), r_103.2, .inr p_110)⟩)]) (.cons (cD F) (by kernel_rfl) (.nil))) [0, 1, 6] [] ?_))
        exact zaJ
      ·try dsimp only at h
       refine aB (aC hF (aG (l := [(58, ⟨dV F, [1], (r_41.2, .inr p_104)⟩)]) (.cons (fP F) (by kernel_rfl) (.nil))) [0, 1, 6] [] ?_)
       exact zaJ
     ·try simp only [go_sem] at hc
      have h := eC zAB h
      obtain ⟨e, he18, h⟩ := bind_some h
      rcases e with r_119 | p_120
      ·try dsimp only at h
       refine aC hF (aG (l := [(57, ⟨eT F, [1], (r_41.2, .inl r_119)⟩)]) (.cons (iL F) (by kernel_rfl) (.nil))) [1] [] ?_
       simp only [go_sem]
       repeat (refine ⟨zAA, ?_⟩)
       obtain ⟨e, he19, h⟩ := bind_some h
       rcases e with r_121 | p_122
       ·try dsimp only at h
        refine bC (aA (aC hF (aG (l := [(55, ⟨bE F, [1], (r_119, .inl r_121)⟩)]) (.cons (bK F) (by kernel_rfl) (.nil))) [] [] ?_))
        exact zaL
       ·try dsimp only at h
        refine bC (aA (aC hF (aG (l := [(55, ⟨bE F, [1], (r_119, .inr p_122)⟩)]) (.cons (bK F) (by kernel_rfl) (.nil))) [] [] ?_))
        exact zaj
      ·try dsimp only at h
       refine aC hF (aG (l := [(57, ⟨eT F, [1], (r_41.2, .inr p_120)⟩)]) (.cons (iL F) (by kernel_rfl) (.nil))) [1] [] ?_
       simp only [go_sem]
       repeat (refine ⟨zAA, ?_⟩)
       obtain rfl := Option.some.inj h
       refine bW (aO (aL (kU 0 rfl aH) ?_))
       exact zaA
 ·try dsimp only at h
  refine aB (aB (aC hF (aG (l := [(53, ⟨bM F, [1], (o1_3, .inr p_42)⟩)]) (.cons (bR F) (by kernel_rfl) (.nil))) [0, 1, 8] [] ?_))
  simp only [go_sem]
  repeat (refine ⟨zAA, ?_⟩)
  obtain rfl := Option.some.inj h
  refine aO (aO (aL (kU 0 rfl aH) ?_))
  exact zaA
attribute [go_sem] wY
def aAf (F : Md) (o0_2 : qf) (o1_3 : qn) : Option ((qf × qn) ⊕ q8) :=
 (jI F o1_3).bind (fun r_8 => if r_8.1 = (aU ⟨#[108, 105, 110, 107]⟩) then (dT F r_8.2).bind (fun e => match e with | .inl r_13 => (qI F r_13.2).bind (fun e => match e with | .inl r_19 => (eO F (aU ⟨#[61]⟩) r_19.2).bind (fun e => match e with | .inl r_25 => (qI F r_25).bind (fun e => match e with | .inl r_31 => (cZ F r_31.2).bind (fun e => match e with | .inl r_37 => ck (((o0_2.2.2.2.2.2.2.2.2.2.1.length) + (1 : Nat)) * 97 ≤ 140737488355328) (some (.inl ((o0_2.1, o0_2.2.1, o0_2.2.2.1, o0_2.2.2.2.1, o0_2.2.2.2.2.1, o0_2.2.2.2.2.2.1, o0_2.2.2.2.2.2.2.1, o0_2.2.2.2.2.2.2.2.1, o0_2.2.2.2.2.2.2.2.2.1, (o0_2.2.2.2.2.2.2.2.2.2.1 ++ ([(r_19.1.1, r_19.1.2.1, r_31.1.1, r_31.1.2.1, ())] : List qm)), ()), r_37))) | .inr p_38 => some (.inr p_38)) | .inr p_32 => some (.inr p_32)) | .inr p_26 => some (.inr p_26)) | .inr p_20 => some (.inr p_20)) | .inr p_14 => some (.inr p_14)) else if (0 : Int) < (o0_2.2.2.2.2.2.2.2.2.2.1.length : Int) then (lC F r_8.2).bind (fun e => match e with | .inl r_39 => some (.inl ((o0_2.1, o0_2.2.1, o0_2.2.2.1, o0_2.2.2.2.1, o0_2.2.2.2.2.1, o0_2.2.2.2.2.2.1, o0_2.2.2.2.2.2.2.1, o0_2.2.2.2.2.2.2.2.1, o0_2.2.2.2.2.2.2.2.2.1, o0_2.2.2.2.2.2.2.2.2.2.1, ()), r_39)) | .inr p_40 => some (.inr p_40)) else if r_8.1 = (aU ⟨#[115, 117, 98]⟩) then (dT F r_8.2).bind (fun e => match e with | .inl r_45 => (jJ F r_45.2).bind (fun e => match e with | .inl r_51 => ck (((o0_2.2.2.2.2.2.2.2.2.1.length) + (1 : Nat)) * 121 ≤ 140737488355328) ((cZ F r_51.2).bind (fun e => match e with | .inl r_53 => some (.inl ((o0_2.1, o0_2.2.1, o0_2.2.2.1, o0_2.2.2.2.1, o0_2.2.2.2.2.1, o0_2.2.2.2.2.2.1, o0_2.2.2.2.2.2.2.1, o0_2.2.2.2.2.2.2.2.1, (o0_2.2.2.2.2.2.2.2.2.1 ++ ([(r_51.1, ([] : List wa), ([] : List wd), ([] : List qd), ([] : List qz), ())] : List qc)), o0_2.2.2.2.2.2.2.2.2.2.1, ()), r_53)) | .inr p_54 => some (.inr p_54))) | .inr p_52 => some (.inr p_52)) | .inr p_46 => some (.inr p_46)) else if (0 : Int) < (o0_2.2.2.2.2.2.2.2.2.1.length : Int) then ck (((o0_2.2.2.2.2.2.2.2.2.1.length : Int) - (1 : Int)).toNat < (o0_2.2.2.2.2.2.2.2.2.1.length)) (ck (I64 ((o0_2.2.2.2.2.2.2.2.2.1.length : Int) - (1 : Int))) (ck (0 ≤ ((o0_2.2.2.2.2.2.2.2.2.1.length : Int) - (1 : Int)) ∧ ((o0_2.2.2.2.2.2.2.2.2.1.length : Int) - (1 : Int)) < (o0_2.2.2.2.2.2.2.2.2.1.length : Int)) ((aCH F o0_2.2.2.2.2.2.2.2.2.1 ((o0_2.2.2.2.2.2.2.2.2.1.length : Int) - (1 : Int)).toNat ((o0_2.2.2.2.2.2.2.2.2.1.getD ((o0_2.2.2.2.2.2.2.2.2.1.length : Int) - (1 : Int)).toNat ([], [], [], [], [], ())).1, (o0_2.2.2.2.2.2.2.2.2.1.getD ((o0_2.2.2.2.2.2.2.2.2.1.length : Int) - (1 : Int)).toNat ([], [], [], [], [], ())).2.1, (o0_2.2.2.2.2.2.2.2.2.1.getD ((o0_2.2.2.2.2.2.2.2.2.1.length : Int) - (1 : Int)).toNat ([], [], [], [], [], ())).2.2.1, (o0_2.2.2.2.2.2.2.2.2.1.getD ((o0_2.2.2.2.2.2.2.2.2.1.length : Int) - (1 : Int)).toNat ([], [], [], [], [], ())).2.2.2.1, (o0_2.2.2.2.2.2.2.2.2.1.getD ((o0_2.2.2.2.2.2.2.2.2.1.length : Int) - (1 : Int)).toNat ([], [], [], [], [], ())).2.2.2.2.1, ()) r_8.2).bind (fun e => match e with | .inl r_55 => some (.inl ((o0_2.1, o0_2.2.1, o0_2.2.2.1, o0_2.2.2.2.1, o0_2.2.2.2.2.1, o0_2.2.2.2.2.2.1, o0_2.2.2.2.2.2.2.1, o0_2.2.2.2.2.2.2.2.1, (o0_2.2.2.2.2.2.2.2.2.1.set ((o0_2.2.2.2.2.2.2.2.2.1.length : Int) - (1 : Int)).toNat (r_55.1.1, r_55.1.2.1, r_55.1.2.2.1, r_55.1.2.2.2.1, r_55.1.2.2.2.2.1, ())), o0_2.2.2.2.2.2.2.2.2.2.1, ()), r_55.2)) | .inr p_56 => some (.inr p_56))))) else (lC F r_8.2).bind (fun e => match e with | .inl r_57 => some (.inl ((o0_2.1, o0_2.2.1, o0_2.2.2.1, o0_2.2.2.2.1, o0_2.2.2.2.2.1, o0_2.2.2.2.2.2.1, o0_2.2.2.2.2.2.2.1, o0_2.2.2.2.2.2.2.2.1, o0_2.2.2.2.2.2.2.2.2.1, o0_2.2.2.2.2.2.2.2.2.2.1, ()), r_57)) | .inr p_58 => some (.inr p_58)))
def sQ (F : Md) : fU where
 D := qf × qn × ((qf × qn) ⊕ q8)
 av := fun d => [.ptr 0 [], .ptr 1 []]
 hp := fun d => [.box 10 (.agg [.val qe d.1.1, .val qe d.1.2.1, .val qe d.1.2.2.1, .val qe d.1.2.2.2.1, .val .str d.1.2.2.2.2.1, .val .str d.1.2.2.2.2.2.1, .val .str d.1.2.2.2.2.2.2.1, .val .str d.1.2.2.2.2.2.2.2.1, .own 2, .own 3]), .box 3 (.val qk d.2.1), .tre 53 qh qa d.1.2.2.2.2.2.2.2.2.1, .row 83 qs d.1.2.2.2.2.2.2.2.2.2.1]
 m := 2
 pre := fun d => aAf F d.1 d.2.1 = some d.2.2
 out := fun d => match d.2.2 with | .inl r => .ret (.tup []) [.box 10 (.agg [.val qe r.1.1, .val qe r.1.2.1, .val qe r.1.2.2.1, .val qe r.1.2.2.2.1, .val .str r.1.2.2.2.2.1, .val .str r.1.2.2.2.2.2.1, .val .str r.1.2.2.2.2.2.2.1, .val .str r.1.2.2.2.2.2.2.2.1, .own 2, .own 3]), .box 3 (.val qk r.2), .tre 53 qh qa r.1.2.2.2.2.2.2.2.2.1, .row 83 qs r.1.2.2.2.2.2.2.2.2.2.1] | .inr p => .pan ⟨65, wi, p⟩ [.box 10 (.junk), .box 3 (.junk)]
def aHJ (F : Md) : List (FuncId × aI) := []
theorem aHK [Mx] (F : Md) : bH Tryz.prog GL (aHJ F) := .nil
theorem aGo [Mx] (F : Md) : GOK Tryz.prog GL 29 (sQ F) := by
 refine eF (aMv (aHK F)) Tryz.func29 rfl (by kernel_rfl) (fun _ => Nat.le_of_ble_eq_true rfl) fun c0 w0 d hw1 hw2 h hn => ?_
 have hF : fT ⟨Tryz.prog, EX (aHJ F), GM (sQ F) c0 d, w0, Tryz.f29.ntmps, []⟩ := ⟨aMv (aHK F), mix⟩
 obtain ⟨(o0_2 : qf), (o1_3 : qn), r⟩ := d
 replace h : aAf F o0_2 o1_3 = some r := h
 have hw1 : AV.wfL [.ptr 0 [], .ptr 1 []] := hw1
 simp only [AV.wfL, AV.wfV, Ty.wf, eR] at hw1
 show Tri _ _ _ [(0, .ptr 0 []), (1, .ptr 1 [])] [.box 10 (.agg [.val qe o0_2.1, .val qe o0_2.2.1, .val qe o0_2.2.2.1, .val qe o0_2.2.2.2.1, .val .str o0_2.2.2.2.2.1, .val .str o0_2.2.2.2.2.2.1, .val .str o0_2.2.2.2.2.2.2.1, .val .str o0_2.2.2.2.2.2.2.2.1, .own 2, .own 3]), .box 3 (.val qk o1_3), .tre 53 qh qa o0_2.2.2.2.2.2.2.2.2.1, .row 83 qs o0_2.2.2.2.2.2.2.2.2.2.1]
 unfold aAf at h
 refine aB (aF hF [0, 1, 4] ?_)
 simp only [go_sem]
 repeat (refine ⟨zAA, ?_⟩)
 obtain ⟨r_8, he1, h⟩ := bind_some h
 try dsimp only at h
 refine aA (aB (aC hF (aG (l := [(27, ⟨gI F, [1], (o1_3, r_8)⟩)]) (.cons (lX F) (by kernel_rfl) (.nil))) [0, 1, 4, 5] [] ?_))
 simp only [go_sem]
 repeat (refine ⟨zAA, ?_⟩)
 refine aA (eA (aB (aF hF [0, 1, 4, 5, 16] ?_)))
 simp only [go_sem]
 repeat (refine ⟨zAA, ?_⟩)
 refine aA (bG rfl (fun hc => ?_) (fun hc => ?_))
 ·try simp only [go_sem] at hc
  have h := eB zAB h
  obtain ⟨e, he2, h⟩ := bind_some h
  rcases e with r_13 | p_14
  ·try dsimp only at h
   refine aB (aC hF (aG (l := [(53, ⟨bM F, [1], (r_8.2, .inl r_13)⟩)]) (.cons (bR F) (by kernel_rfl) (.nil))) [0, 1] [] ?_)
   simp only [go_sem]
   repeat (refine ⟨zAA, ?_⟩)
   refine aA (aB (aR hF [0, 1, 6] ?_))
   simp only [go_sem]
   repeat (refine ⟨zAA, ?_⟩)
   obtain ⟨e, he3, h⟩ := bind_some h
   rcases e with r_19 | p_20
   ·try dsimp only at h
    refine aA (aB (aC hF (aG (l := [(56, ⟨kD F, [1], (r_13.2, .inl r_19)⟩)]) (.cons (sA F) (by kernel_rfl) (.nil))) [0, 1, 6] [] ?_))
    simp only [go_sem]
    repeat (refine ⟨zAA, ?_⟩)
    obtain ⟨e, he4, h⟩ := bind_some h
    rcases e with r_25 | p_26
    ·try dsimp only at h
     refine aA (aB (aC hF (aG (l := [(50, ⟨bU F, [1], ((aU ⟨#[61]⟩), r_19.2, .inl r_25)⟩)]) (.cons (cD F) (by kernel_rfl) (.nil))) [0, 1, 6] [] ?_))
     simp only [go_sem]
     repeat (refine ⟨zAA, ?_⟩)
     obtain ⟨e, he5, h⟩ := bind_some h
     rcases e with r_31 | p_32
     ·try dsimp only at h
      refine aA (aB (aC hF (aG (l := [(56, ⟨kD F, [1], (r_25, .inl r_31)⟩)]) (.cons (sA F) (by kernel_rfl) (.nil))) [0, 1, 6] [] ?_))
      simp only [go_sem]
      repeat (refine ⟨zAA, ?_⟩)
      obtain ⟨e, he6, h⟩ := bind_some h
      rcases e with r_37 | p_38
      ·try dsimp only at h
       refine aA (aB (aC hF (aG (l := [(55, ⟨bE F, [1], (r_31.2, .inl r_37)⟩)]) (.cons (bK F) (by kernel_rfl) (.nil))) [0, 6] [] ?_))
       simp only [go_sem]
       repeat (refine ⟨zAA, ?_⟩)
       obtain ⟨g0, h⟩ := aP h
       refine aA (aDH hF [] [6, 7, 10] [[0], [0], [40], [41], [42], [6], [44], [43, 45], [39], [47], [46, 48]] [(0, 0), (0, 1), (0, 2), (1, 0), (1, 1), (1, 2), (2, 0), (2, 1), (2, 2), (3, 0), (3, 1), (3, 2), (4, 0), (4, 1), (5, 0), (6, 0), (7, 1), (8, 2), (8, 3), (9, 2), (10, 2)] [.ptr 0 [], .ptr 0 [], .ptr 0 [], .ptr 0 [.fld 9 9], .own 3, .val qs (r_19.1.1, r_19.1.2.1, r_31.1.1, r_31.1.2.1, ()), .own 5, .own 6, .ptr 0 [], .ptr 0 [.fld 9 9], .junk] [[.box 10 (.agg [.val qe o0_2.1, .val qe o0_2.2.1, .val qe o0_2.2.2.1, .val qe o0_2.2.2.2.1, .val .str o0_2.2.2.2.2.1, .val .str o0_2.2.2.2.2.2.1, .val .str o0_2.2.2.2.2.2.2.1, .val .str o0_2.2.2.2.2.2.2.2.1, .own 2, .own 3]), .box 3 (.val qk r_37), .tre 53 qh qa o0_2.2.2.2.2.2.2.2.2.1, .row 83 qs o0_2.2.2.2.2.2.2.2.2.2.1, .box 4 (.val qs (r_19.1.1, r_19.1.2.1, r_31.1.1, r_31.1.2.1, ()))], [.box 10 (.agg [.val qe o0_2.1, .val qe o0_2.2.1, .val qe o0_2.2.2.1, .val qe o0_2.2.2.2.1, .val .str o0_2.2.2.2.2.1, .val .str o0_2.2.2.2.2.2.1, .val .str o0_2.2.2.2.2.2.2.1, .val .str o0_2.2.2.2.2.2.2.2.1, .own 2, .own 3]), .box 3 (.val qk r_37), .tre 53 qh qa o0_2.2.2.2.2.2.2.2.2.1, .row 83 qs o0_2.2.2.2.2.2.2.2.2.2.1, .box 4 (.val qs (r_19.1.1, r_19.1.2.1, r_31.1.1, r_31.1.2.1, ())), .row 83 qs ([(r_19.1.1, r_19.1.2.1, r_31.1.1, r_31.1.2.1, ())] : List qm)], [.box 10 (.agg [.val qe o0_2.1, .val qe o0_2.2.1, .val qe o0_2.2.2.1, .val qe o0_2.2.2.2.1, .val .str o0_2.2.2.2.2.1, .val .str o0_2.2.2.2.2.2.1, .val .str o0_2.2.2.2.2.2.2.1, .val .str o0_2.2.2.2.2.2.2.2.1, .own 2, .own 3]), .box 3 (.val qk r_37), .tre 53 qh qa o0_2.2.2.2.2.2.2.2.2.1, .dead, .box 4 (.val qs (r_19.1.1, r_19.1.2.1, r_31.1.1, r_31.1.2.1, ())), .row 83 qs ([(r_19.1.1, r_19.1.2.1, r_31.1.1, r_31.1.2.1, ())] : List qm), .row 83 qs (o0_2.2.2.2.2.2.2.2.2.2.1 ++ ([(r_19.1.1, r_19.1.2.1, r_31.1.1, r_31.1.2.1, ())] : List qm))], [.box 10 (.agg [.val qe o0_2.1, .val qe o0_2.2.1, .val qe o0_2.2.2.1, .val qe o0_2.2.2.2.1, .val .str o0_2.2.2.2.2.1, .val .str o0_2.2.2.2.2.2.1, .val .str o0_2.2.2.2.2.2.2.1, .val .str o0_2.2.2.2.2.2.2.2.1, .own 2, .own 6]), .box 3 (.val qk r_37), .tre 53 qh qa o0_2.2.2.2.2.2.2.2.2.1, .dead, .box 4 (.val qs (r_19.1.1, r_19.1.2.1, r_31.1.1, r_31.1.2.1, ())), .row 83 qs ([(r_19.1.1, r_19.1.2.1, r_31.1.1, r_31.1.2.1, ())] : List qm), .row 83 qs (o0_2.2.2.2.2.2.2.2.2.2.1 ++ ([(r_19.1.1, r_19.1.2.1, r_31.1.1, r_31.1.2.1, ())] : List qm))]] [[(0, .ptr 0 [])], [(0, .ptr 0 [])], [(40, .ptr 0 [])], [(41, .ptr 0 [])], [(42, .ptr 0 [.fld 9 9])], [(6, .ptr 4 [])], [(44, .val qs (r_19.1.1, r_19.1.2.1, r_31.1.1, r_31.1.2.1, ()))], [(43, .own 3), (45, .own 5)], [(39, .ptr 0 [])], [(47, .ptr 0 [])], [(46, .own 6), (48, .ptr 0 [.fld 9 9])]] (by decide) rfl rfl ?_ ?_)
       ·simp only [go_sem]
        exact zaN
       show At _ _ [] [.box 10 (.agg [.val qe o0_2.1, .val qe o0_2.2.1, .val qe o0_2.2.2.1, .val qe o0_2.2.2.2.1, .val .str o0_2.2.2.2.2.1, .val .str o0_2.2.2.2.2.2.1, .val .str o0_2.2.2.2.2.2.2.1, .val .str o0_2.2.2.2.2.2.2.2.1, .own 2, .own 6]), .box 3 (.val qk r_37), .tre 53 qh qa o0_2.2.2.2.2.2.2.2.2.1, .dead, .box 4 (.val qs (r_19.1.1, r_19.1.2.1, r_31.1.1, r_31.1.2.1, ())), .row 83 qs ([(r_19.1.1, r_19.1.2.1, r_31.1.1, r_31.1.2.1, ())] : List qm), .row 83 qs (o0_2.2.2.2.2.2.2.2.2.2.1 ++ ([(r_19.1.1, r_19.1.2.1, r_31.1.1, r_31.1.2.1, ())] : List qm))]
       obtain rfl := Option.some.inj h
       refine bC (gF (gT [0, 1, 2, 6] rfl rfl ?_))
       exact zaR
      ·try dsimp only at h
       refine aA (aB (aC hF (aG (l := [(55, ⟨bE F, [1], (r_31.2, .inr p_38)⟩)]) (.cons (bK F) (by kernel_rfl) (.nil))) [0, 6] [] ?_))
       exact zaX
     ·try dsimp only at h
      refine aA (aB (aC hF (aG (l := [(56, ⟨kD F, [1], (r_25, .inr p_32)⟩)]) (.cons (sA F) (by kernel_rfl) (.nil))) [0, 1, 6] [] ?_))
      exact zaX
    ·try dsimp only at h
     refine aA (aB (aC hF (aG (l := [(50, ⟨bU F, [1], ((aU ⟨#[61]⟩), r_19.2, .inr p_26)⟩)]) (.cons (cD F) (by kernel_rfl) (.nil))) [0, 1, 6] [] ?_))
     exact zaX
   ·try dsimp only at h
    refine aA (aB (aC hF (aG (l := [(56, ⟨kD F, [1], (r_13.2, .inr p_20)⟩)]) (.cons (sA F) (by kernel_rfl) (.nil))) [0, 1, 6] [] ?_))
    exact zaX
  ·try dsimp only at h
   refine aB (aC hF (aG (l := [(53, ⟨bM F, [1], (r_8.2, .inr p_14)⟩)]) (.cons (bR F) (by kernel_rfl) (.nil))) [0, 1] [] ?_)
   exact zaX
 ·try simp only [go_sem] at hc
  have h := eC zAB h
  refine aB (aF hF [0, 1, 4, 5, 49] ?_)
  simp only [go_sem]
  repeat (refine ⟨zAA, ?_⟩)
  refine aA (bG rfl (fun hc => ?_) (fun hc => ?_))
  ·try simp only [go_sem] at hc
   have h := eB zAB h
   obtain ⟨e, he7, h⟩ := bind_some h
   rcases e with r_39 | p_40
   ·try dsimp only at h
    refine aC hF (aG (l := [(57, ⟨eT F, [1], (r_8.2, .inl r_39)⟩)]) (.cons (iL F) (by kernel_rfl) (.nil))) [] [] ?_
    simp only [go_sem]
    repeat (refine ⟨zAA, ?_⟩)
    obtain rfl := Option.some.inj h
    refine bC (gF (dS hF [] rfl rfl rfl rfl rfl rfl ?_))
    exact zaC
   ·try dsimp only at h
    refine aC hF (aG (l := [(57, ⟨eT F, [1], (r_8.2, .inr p_40)⟩)]) (.cons (iL F) (by kernel_rfl) (.nil))) [] [] ?_
    exact zay
  ·try simp only [go_sem] at hc
   have h := eC zAB h
   refine aB (aF hF [0, 1, 4, 58] ?_)
   simp only [go_sem]
   repeat (refine ⟨zAA, ?_⟩)
   refine aA (bG rfl (fun hc => ?_) (fun hc => ?_))
   ·try simp only [go_sem] at hc
    have h := eB zAB h
    obtain ⟨e, he8, h⟩ := bind_some h
    rcases e with r_45 | p_46
    ·try dsimp only at h
     refine aB (aC hF (aG (l := [(53, ⟨bM F, [1], (r_8.2, .inl r_45)⟩)]) (.cons (bR F) (by kernel_rfl) (.nil))) [0, 1] [] ?_)
     simp only [go_sem]
     repeat (refine ⟨zAA, ?_⟩)
     obtain ⟨e, he9, h⟩ := bind_some h
     rcases e with r_51 | p_52
     ·try dsimp only at h
      obtain ⟨g0, h⟩ := aP h
      refine aA (aB (pW hF (aG (l := [(58, ⟨dV F, [1], (r_45.2, .inl r_51)⟩)]) (.cons (fP F) (by kernel_rfl) (.nil))) [] [1] [6, 7, 8, 9, 12] [[0], [0], [64], [65], [66], [1], [68], [69], [70], [67, 71], [63], [73], [72, 74]] [(0, 0), (0, 1), (0, 2), (0, 3), (0, 4), (1, 0), (1, 1), (1, 2), (1, 3), (1, 4), (2, 0), (2, 1), (2, 2), (2, 3), (2, 4), (3, 0), (3, 1), (3, 2), (3, 3), (3, 4), (4, 0), (4, 1), (4, 2), (4, 3), (5, 0), (6, 0), (7, 1), (8, 2), (9, 3), (10, 4), (10, 5), (11, 4), (12, 4)] [.ptr 0 [], .ptr 0 [], .ptr 0 [], .ptr 0 [.fld 8 8], .own 2, .ptr 1 [], .val .str r_51.1, .agg [.val .str r_51.1, .nilS, .nilS, .nilS, .nilS], .own 4, .own 5, .ptr 0 [], .ptr 0 [.fld 8 8], .junk] [[.box 10 (.agg [.val qe o0_2.1, .val qe o0_2.2.1, .val qe o0_2.2.2.1, .val qe o0_2.2.2.2.1, .val .str o0_2.2.2.2.2.1, .val .str o0_2.2.2.2.2.2.1, .val .str o0_2.2.2.2.2.2.2.1, .val .str o0_2.2.2.2.2.2.2.2.1, .own 2, .own 3]), .box 3 (.val qk r_45.2), .tre 53 qh qa o0_2.2.2.2.2.2.2.2.2.1, .row 83 qs o0_2.2.2.2.2.2.2.2.2.2.1], [.box 10 (.agg [.val qe o0_2.1, .val qe o0_2.2.1, .val qe o0_2.2.2.1, .val qe o0_2.2.2.2.1, .val .str o0_2.2.2.2.2.1, .val .str o0_2.2.2.2.2.2.1, .val .str o0_2.2.2.2.2.2.2.1, .val .str o0_2.2.2.2.2.2.2.2.1, .own 2, .own 3]), .box 3 (.val qk r_51.2), .tre 53 qh qa o0_2.2.2.2.2.2.2.2.2.1, .row 83 qs o0_2.2.2.2.2.2.2.2.2.2.1], [.box 10 (.agg [.val qe o0_2.1, .val qe o0_2.2.1, .val qe o0_2.2.2.1, .val qe o0_2.2.2.2.1, .val .str o0_2.2.2.2.2.1, .val .str o0_2.2.2.2.2.2.1, .val .str o0_2.2.2.2.2.2.2.1, .val .str o0_2.2.2.2.2.2.2.2.1, .own 2, .own 3]), .box 3 (.val qk r_51.2), .tre 53 qh qa o0_2.2.2.2.2.2.2.2.2.1, .row 83 qs o0_2.2.2.2.2.2.2.2.2.2.1], [.box 10 (.agg [.val qe o0_2.1, .val qe o0_2.2.1, .val qe o0_2.2.2.1, .val qe o0_2.2.2.2.1, .val .str o0_2.2.2.2.2.1, .val .str o0_2.2.2.2.2.2.1, .val .str o0_2.2.2.2.2.2.2.1, .val .str o0_2.2.2.2.2.2.2.2.1, .own 2, .own 3]), .box 3 (.val qk r_51.2), .tre 53 qh qa o0_2.2.2.2.2.2.2.2.2.1, .row 83 qs o0_2.2.2.2.2.2.2.2.2.2.1, .tre 53 qh qa ([(r_51.1, ([] : List wa), ([] : List wd), ([] : List qd), ([] : List qz), ())] : List qc)], [.box 10 (.agg [.val qe o0_2.1, .val qe o0_2.2.1, .val qe o0_2.2.2.1, .val qe o0_2.2.2.2.1, .val .str o0_2.2.2.2.2.1, .val .str o0_2.2.2.2.2.2.1, .val .str o0_2.2.2.2.2.2.2.1, .val .str o0_2.2.2.2.2.2.2.2.1, .own 2, .own 3]), .box 3 (.val qk r_51.2), .dead, .row 83 qs o0_2.2.2.2.2.2.2.2.2.2.1, .dead, .tre 53 qh qa (o0_2.2.2.2.2.2.2.2.2.1 ++ ([(r_51.1, ([] : List wa), ([] : List wd), ([] : List qd), ([] : List qz), ())] : List qc))], [.box 10 (.agg [.val qe o0_2.1, .val qe o0_2.2.1, .val qe o0_2.2.2.1, .val qe o0_2.2.2.2.1, .val .str o0_2.2.2.2.2.1, .val .str o0_2.2.2.2.2.2.1, .val .str o0_2.2.2.2.2.2.2.1, .val .str o0_2.2.2.2.2.2.2.2.1, .own 5, .own 3]), .box 3 (.val qk r_51.2), .dead, .row 83 qs o0_2.2.2.2.2.2.2.2.2.2.1, .dead, .tre 53 qh qa (o0_2.2.2.2.2.2.2.2.2.1 ++ ([(r_51.1, ([] : List wa), ([] : List wd), ([] : List qd), ([] : List qz), ())] : List qc))]] [[(0, .ptr 0 [])], [(0, .ptr 0 [])], [(64, .ptr 0 [])], [(65, .ptr 0 [])], [(66, .ptr 0 [.fld 8 8])], [(1, .ptr 1 [])], [(68, .ptr 1 [])], [(69, .val .str r_51.1)], [(70, .agg [.val .str r_51.1, .nilS, .nilS, .nilS, .nilS])], [(67, .own 2), (71, .own 4)], [(63, .ptr 0 [])], [(73, .ptr 0 [])], [(72, .own 5), (74, .ptr 0 [.fld 8 8])]] false (by decide) rfl rfl ?_ ?_))
      ·simp only [go_sem]
       exact zaN
      intro _
      show At _ _ [(1, .ptr 1 [])] [.box 10 (.agg [.val qe o0_2.1, .val qe o0_2.2.1, .val qe o0_2.2.2.1, .val qe o0_2.2.2.2.1, .val .str o0_2.2.2.2.2.1, .val .str o0_2.2.2.2.2.2.1, .val .str o0_2.2.2.2.2.2.2.1, .val .str o0_2.2.2.2.2.2.2.2.1, .own 5, .own 3]), .box 3 (.val qk r_51.2), .dead, .row 83 qs o0_2.2.2.2.2.2.2.2.2.2.1, .dead, .tre 53 qh qa (o0_2.2.2.2.2.2.2.2.2.1 ++ ([(r_51.1, ([] : List wa), ([] : List wd), ([] : List qd), ([] : List qz), ())] : List qc))]
      obtain ⟨e, he10, h⟩ := bind_some h
      rcases e with r_53 | p_54
      ·try dsimp only at h
       refine aA (aC hF (aG (l := [(55, ⟨bE F, [1], (r_51.2, .inl r_53)⟩)]) (.cons (bK F) (by kernel_rfl) (.nil))) [] [] ?_)
       simp only [go_sem]
       repeat (refine ⟨zAA, ?_⟩)
       obtain rfl := Option.some.inj h
       refine bC (gF (gT [0, 1, 5, 3] rfl rfl ?_))
       exact zaR
      ·try dsimp only at h
       refine aA (aC hF (aG (l := [(55, ⟨bE F, [1], (r_51.2, .inr p_54)⟩)]) (.cons (bK F) (by kernel_rfl) (.nil))) [] [] ?_)
       exact zay
     ·try dsimp only at h
      refine aA (aB (pW hF (aG (l := [(58, ⟨dV F, [1], (r_45.2, .inr p_52)⟩)]) (.cons (fP F) (by kernel_rfl) (.nil))) [] [1] [6] [[0], [0], [64], [65], [66], [1], [68], [69], [70], [67, 71], [63], [73], [72, 74]] [(0, 0), (1, 0), (2, 0), (3, 0), (4, 0), (5, 0), (6, 0)] [.ptr 0 [], .ptr 0 [], .ptr 0 [], .ptr 0 [.fld 8 8], .own 2, .ptr 1 [], .junk, .junk, .junk, .junk, .junk, .junk, .junk] [[.box 10 (.agg [.val qe o0_2.1, .val qe o0_2.2.1, .val qe o0_2.2.2.1, .val qe o0_2.2.2.2.1, .val .str o0_2.2.2.2.2.1, .val .str o0_2.2.2.2.2.2.1, .val .str o0_2.2.2.2.2.2.2.1, .val .str o0_2.2.2.2.2.2.2.2.1, .own 2, .own 3]), .box 3 (.val qk r_45.2), .tre 53 qh qa o0_2.2.2.2.2.2.2.2.2.1, .row 83 qs o0_2.2.2.2.2.2.2.2.2.2.1]] [[(0, .ptr 0 [])], [(0, .ptr 0 [])], [(64, .ptr 0 [])], [(65, .ptr 0 [])], [(66, .ptr 0 [.fld 8 8])], [(1, .ptr 1 [])], [(68, .ptr 1 [])], [(69, .junk)], [(70, .junk)], [(67, .own 2), (71, .junk)], [(63, .ptr 0 [])], [(73, .junk)], [(72, .junk), (74, .junk)]] true (by decide) rfl rfl ?_ ?_))
      rotate_left
      exact fun h => absurd h (by decide)
      simp only [go_sem]
      (repeat' apply And.intro) <;> try (first | trivial | rfl | with_reducible assumption | omega | (intros; first | with_reducible assumption | omega) | (simp; done) | (simp at *; omega))
      obtain rfl := Option.some.inj h
      refine aO (bW (aL (aJ 0 rfl aH) ?_))
      refine aL (aJ 1 rfl aH) ?_
      simp only [go_sem]
      refine bO [0, 1] rfl rfl ?_
      simp only [ren, cQ, dB, posOf, bF, go_sem]
      refine aY rfl rfl rfl rfl
    ·try dsimp only at h
     refine aB (aC hF (aG (l := [(53, ⟨bM F, [1], (r_8.2, .inr p_46)⟩)]) (.cons (bR F) (by kernel_rfl) (.nil))) [0, 1] [] ?_)
     exact zaX
   ·try simp only [go_sem] at hc
    have h := eC zAB h
    refine aB (aF hF [0, 1, 4, 77] ?_)
    simp only [go_sem]
    repeat (refine ⟨zAA, ?_⟩)
    refine aA (bG rfl (fun hc => ?_) (fun hc => ?_))
    ·try simp only [go_sem] at hc
     have h := eB zAB h
     obtain ⟨go, h⟩ := aP h
     refine aVE 2 ((o0_2.2.2.2.2.2.2.2.2.1.length : Int) - (1 : Int)).toNat rfl go rfl ?_
     simp only [go_sem]
     obtain ⟨g0, h⟩ := aP h
     try simp only [I64, I32] at g0
     obtain ⟨g1, h⟩ := aP h
     obtain ⟨e, he11, h⟩ := bind_some h
     rcases e with r_55 | p_56
     ·try dsimp only at h
      refine aC hF (aG (l := [(59, ⟨wY F, [2, 1, 4, 5, 6, 7], (o0_2.2.2.2.2.2.2.2.2.1, ((o0_2.2.2.2.2.2.2.2.2.1.length : Int) - (1 : Int)).toNat, ((o0_2.2.2.2.2.2.2.2.2.1.getD ((o0_2.2.2.2.2.2.2.2.2.1.length : Int) - (1 : Int)).toNat ([], [], [], [], [], ())).1, (o0_2.2.2.2.2.2.2.2.2.1.getD ((o0_2.2.2.2.2.2.2.2.2.1.length : Int) - (1 : Int)).toNat ([], [], [], [], [], ())).2.1, (o0_2.2.2.2.2.2.2.2.2.1.getD ((o0_2.2.2.2.2.2.2.2.2.1.length : Int) - (1 : Int)).toNat ([], [], [], [], [], ())).2.2.1, (o0_2.2.2.2.2.2.2.2.2.1.getD ((o0_2.2.2.2.2.2.2.2.2.1.length : Int) - (1 : Int)).toNat ([], [], [], [], [], ())).2.2.2.1, (o0_2.2.2.2.2.2.2.2.2.1.getD ((o0_2.2.2.2.2.2.2.2.2.1.length : Int) - (1 : Int)).toNat ([], [], [], [], [], ())).2.2.2.2.1, ()), r_8.2, .inl r_55)⟩)]) (.cons (aIJ F) (by kernel_rfl) (.nil))) [] [] ?_
      simp only [go_sem]
      repeat (refine ⟨zAD, ?_⟩)
      refine aVD 2 (r_55.1.1, r_55.1.2.1, r_55.1.2.2.1, r_55.1.2.2.2.1, r_55.1.2.2.2.2.1, ()) [8, 9, 10, 11] rfl (by first | rfl | (simp only [go_sem]; done)) rfl rfl ?_
      simp only [go_sem]
      obtain rfl := Option.some.inj h
      refine bC (gF (gT [0, 1, 2, 3] rfl rfl ?_))
      exact zaR
     ·try dsimp only at h
      refine aC hF (aG (l := [(59, ⟨wY F, [2, 1, 4, 5, 6, 7], (o0_2.2.2.2.2.2.2.2.2.1, ((o0_2.2.2.2.2.2.2.2.2.1.length : Int) - (1 : Int)).toNat, ((o0_2.2.2.2.2.2.2.2.2.1.getD ((o0_2.2.2.2.2.2.2.2.2.1.length : Int) - (1 : Int)).toNat ([], [], [], [], [], ())).1, (o0_2.2.2.2.2.2.2.2.2.1.getD ((o0_2.2.2.2.2.2.2.2.2.1.length : Int) - (1 : Int)).toNat ([], [], [], [], [], ())).2.1, (o0_2.2.2.2.2.2.2.2.2.1.getD ((o0_2.2.2.2.2.2.2.2.2.1.length : Int) - (1 : Int)).toNat ([], [], [], [], [], ())).2.2.1, (o0_2.2.2.2.2.2.2.2.2.1.getD ((o0_2.2.2.2.2.2.2.2.2.1.length : Int) - (1 : Int)).toNat ([], [], [], [], [], ())).2.2.2.1, (o0_2.2.2.2.2.2.2.2.2.1.getD ((o0_2.2.2.2.2.2.2.2.2.1.length : Int) - (1 : Int)).toNat ([], [], [], [], [], ())).2.2.2.2.1, ()), r_8.2, .inr p_56)⟩)]) (.cons (aIJ F) (by kernel_rfl) (.nil))) [] [] ?_
      simp only [go_sem]
      repeat (refine ⟨zAD, ?_⟩)
      obtain rfl := Option.some.inj h
      refine bW (aL (aJ 0 rfl aH) ?_)
      exact zaA
    ·try simp only [go_sem] at hc
     have h := eC zAB h
     obtain ⟨e, he12, h⟩ := bind_some h
     rcases e with r_57 | p_58
     ·try dsimp only at h
      refine aC hF (aG (l := [(57, ⟨eT F, [1], (r_8.2, .inl r_57)⟩)]) (.cons (iL F) (by kernel_rfl) (.nil))) [] [] ?_
      simp only [go_sem]
      repeat (refine ⟨zAA, ?_⟩)
      obtain rfl := Option.some.inj h
      refine bC (gF (dS hF [] rfl rfl rfl rfl rfl rfl ?_))
      exact zaC
     ·try dsimp only at h
      refine aC hF (aG (l := [(57, ⟨eT F, [1], (r_8.2, .inr p_58)⟩)]) (.cons (iL F) (by kernel_rfl) (.nil))) [] [] ?_
      exact zay
attribute [go_sem] sQ
def sB (F : Md) (s_0 : qf) (out_44 : wc) : Option wc :=
 if ¬ ((out_44.length : Int) = (s_0.2.2.2.2.2.2.2.2.2.1.length : Int)) then some s_0.2.2.2.2.2.2.2.2.2.1 else some out_44
def xX (F : Md) (s_0 : qf) (x13_64 : Int) (x20_113 : Int) (x27_132 : Int) (out_133 : wc) : Option ((Int × wc) ⊕ wc) :=
 if x27_132 < (s_0.2.2.2.2.2.2.2.2.2.1.length : Int) then ck (0 ≤ x27_132 ∧ x27_132 < (s_0.2.2.2.2.2.2.2.2.2.1.length : Int)) (if (¬ ((s_0.2.2.2.2.2.2.2.2.2.1.getD (x27_132.toNat) ([], [], [], [], ())).1 = (s_0.2.2.2.2.2.2.2.2.1.getD (x13_64.toNat) ([], [], [], [], [], ())).1)) ∨ (¬ ((s_0.2.2.2.2.2.2.2.2.2.1.getD (x27_132.toNat) ([], [], [], [], ())).2.1 = ((s_0.2.2.2.2.2.2.2.2.1.getD (x13_64.toNat) ([], [], [], [], [], ())).2.2.2.1.getD (x20_113.toNat) ([] : List Nat)))) then ck (I64 (x27_132 + (1 : Int))) (some (.inl ((x27_132 + (1 : Int)), out_133))) else ck (((out_133.length) + (1 : Nat)) * 97 ≤ 140737488355328) (ck (I64 (x27_132 + (1 : Int))) (some (.inl ((x27_132 + (1 : Int)), (out_133 ++ ([(s_0.2.2.2.2.2.2.2.2.2.1.getD (x27_132.toNat) ([], [], [], [], ()))] : List qm))))))) else some (.inr out_133)
def xY (F : Md) (s_0 : qf) (x13_64 : Int) (x20_113 : Int) (out_114 : wc) : Option ((Int × wc) ⊕ wc) :=
 if x20_113 < (((s_0.2.2.2.2.2.2.2.2.1.getD (x13_64.toNat) ([], [], [], [], [], ())).2.2.2.1.length : Nat) : Int) then ck (0 ≤ x20_113 ∧ x20_113 < (((s_0.2.2.2.2.2.2.2.2.1.getD (x13_64.toNat) ([], [], [], [], [], ())).2.2.2.1.length : Nat) : Int)) ((eH F (fun d : Int × wc => xX F s_0 x13_64 x20_113 d.1 d.2) ((0 : Int), out_114)).bind (fun e => ck (I64 (x20_113 + (1 : Int))) (some (.inl ((x20_113 + (1 : Int)), e))))) else some (.inr out_114)
def xZ (F : Md) (s_0 : qf) (x13_64 : Int) (out_65 : wc) : Option ((Int × wc) ⊕ wc) :=
 if x13_64 < (s_0.2.2.2.2.2.2.2.2.1.length : Int) then ck (0 ≤ x13_64 ∧ x13_64 < (s_0.2.2.2.2.2.2.2.2.1.length : Int)) ((eH F (fun d : Int × wc => xY F s_0 x13_64 d.1 d.2) ((0 : Int), out_65)).bind (fun e => ck (I64 (x13_64 + (1 : Int))) (some (.inl ((x13_64 + (1 : Int)), e))))) else some (.inr out_65)
def jV (F : Md) (s_0 : qf) : Option wc :=
 (eH F (fun d : Int × wc => xZ F s_0 d.1 d.2) ((0 : Int), ([] : List qm))).bind (fun e => sB F s_0 e)
def aEZ : PlR := ⟨[(0, .B [1]), (1, .A [1, 3]), (2, .A [1, 3, 11, 12, 13]), (3, .A [1, 3, 11, 12, 13, 14]), (4, .B [1, 3, 5, 11, 12, 13]), (5, .A [1, 3, 5, 11, 12, 13, 18, 19, 20]), (6, .A [1, 3, 5, 11, 12, 13, 18, 19, 20, 21]), (7, .A [1, 3, 5, 7, 11, 12, 13, 18, 19, 20]), (8, .A [1, 3, 5, 7, 11, 12, 13, 18, 19, 20, 25, 26, 27]), (9, .A [1, 3, 5, 7, 11, 12, 13, 18, 19, 20, 25, 26, 27, 28]), (10, .B [1, 3, 5, 7, 9, 11, 12, 13, 18, 19, 20, 25, 26, 27]), (11, .A [1, 3, 5, 7, 9, 11, 12, 13, 18, 19, 20, 25, 26, 27, 41]), (12, .B [1, 3, 5, 7, 11, 12, 13, 18, 19, 20, 25, 26, 27]), (13, .A [1, 3, 5, 7, 11, 12, 13, 18, 19, 20, 25, 26, 27]), (14, .A [1, 3, 5, 11, 12, 13, 18, 19, 20]), (15, .A [1, 3, 11, 12, 13]), (16, .A [1, 3, 54]), (17, .A [2]), (18, .A [2])], [(5, 19)]⟩
def aGp : Ty := .pair qj .unit
def vB (F : Md) : aI := mSpec aGp (.one (.sl qs)) (fun x => jV F x.1)
def aNJ (F : Md) : List (FuncId × aI) := []
theorem aNK [Mx] (F : Md) : bH Tryz.prog GL (aNJ F) := .nil
attribute [go_sem] aGp aEZ
theorem aL3 [Mx] (F : Md) : FOK Tryz.prog GL 30 (vB F) := by
 refine bS (aT (aNK F)) mix Tryz.func30 rfl (by kernel_rfl) (by decide) aEZ fun w0 S x Θ hw h hF => ?_
 obtain ⟨(s_0 : qf), u⟩ := x
 simp only [bX, go_sem]
 replace h : sat (jV F s_0) _ := h
 unfold jV at h
 refine eX hF (D := wc) (fun d => sat (sB F s_0 d) Θ) [] (fun d => [(1, .ptr 0 []), (3, .own 1)]) (fun d => [.inr (.box 10 (.val qj s_0)), .inr (.row 83 qs d)]) ?_ ?_
 ·simp only [go_sem]
  refine aC0 3 83 qs rfl ?_
  simp only [go_sem]
  refine cI hF (D := Int × wc) [11, 12] (fun d => [(1, .ptr 0 []), (3, .own 1), (13, .val qe d.1)]) (fun d => [.inr (.box 10 (.val qj s_0)), .inr (.row 83 qs d.2)]) h rfl (by simp only [go_sem]) ?_
  rintro ⟨x13_64, out_65⟩ A3 T3 hA3 hE3 h
  simp only [go_sem]
  replace h : sat (xZ F s_0 x13_64 out_65) _ := h
  unfold xZ at h
  refine fN h (fun hc h => ?_) fun hc h => ?_
  ·obtain ⟨g0, h⟩ := aQ h
   repeat (refine ⟨by omega, ?_⟩)
   refine cI hF (D := Int × wc) [11, 12, 13, 18, 19] (fun d => [(1, .ptr 0 []), (3, .own 1), (5, .ptr 2 []), (20, .val qe d.1)]) (fun d => [.inr (.box 10 (.val qj s_0)), .inr (.row 83 qs d.2), .inr (.box 5 (.val qa (s_0.2.2.2.2.2.2.2.2.1.getD (x13_64.toNat) ([], [], [], [], [], ()))))]) h rfl (by simp only [go_sem]) ?_
   rintro ⟨x20_113, out_114⟩ A6 T6 hA6 hE6 h
   simp only [go_sem]
   replace h : sat (xY F s_0 x13_64 x20_113 out_114) _ := h
   unfold xY at h
   refine fN h (fun hc h => ?_) fun hc h => ?_
   ·obtain ⟨g0, h⟩ := aQ h
    repeat (refine ⟨by omega, ?_⟩)
    refine cI hF (D := Int × wc) [7, 11, 12, 13, 18, 19, 20, 25, 26] (fun d => [(1, .ptr 0 []), (3, .own 1), (5, .ptr 2 []), (27, .val qe d.1)]) (fun d => [.inr (.box 10 (.val qj s_0)), .inr (.row 83 qs d.2), .inr (.box 5 (.val qa (s_0.2.2.2.2.2.2.2.2.1.getD (x13_64.toNat) ([], [], [], [], [], ()))))]) h rfl (by simp only [go_sem]) ?_
    rintro ⟨x27_132, out_133⟩ A9 T9 hA9 hE9 h
    simp only [go_sem]
    replace h : sat (xX F s_0 x13_64 x20_113 x27_132 out_133) _ := h
    unfold xX at h
    refine fN h (fun hc h => ?_) fun hc h => ?_
    ·obtain ⟨g0, h⟩ := aQ h
     repeat (refine ⟨by omega, ?_⟩)
     refine ⟨fun hc => ?_, fun hc => ?_⟩
     ·replace h := jE hc h
      refine aZ h fun g0 h => ?_
      replace h := hA9 _ (aE h)
      refine gT [0, 1, 2] rfl rfl ?_
      exact za4
     ·replace h := jF hc h
      obtain ⟨g0, h⟩ := aQ h
      repeat (refine ⟨by omega, ?_⟩)
      refine aZ h fun g0 h => ?_
      replace h := hA9 _ (aE h)
      refine gT [0, 4, 2] rfl rfl ?_
      exact za4
    ·replace h := hE9 _ (aE h)
     try dsimp only at h
     refine aZ h fun g0 h => ?_
     replace h := hA6 _ (aE h)
     exact zaO
   ·replace h := hE6 _ (aE h)
    try dsimp only at h
    refine aZ h fun g0 h => ?_
    replace h := hA3 _ (aE h)
    refine gT [0, 1] rfl rfl ?_
    exact za4
  ·replace h := hE3 _ (aE h)
   try dsimp only at h
   exact bB (out_65) h rfl (by simp only [go_sem])
 ·rintro out_44 h
  simp only [go_sem]
  replace h : sat (sB F s_0 out_44) _ := h
  unfold sB at h
  refine fC h (fun hc h => ?_) fun hc h => ?_
  ·exact aK hF [.tmp 2] rfl rfl rfl (aE h) (by simp only [aS, go_sem])
  ·exact aK hF [.tmp 2] rfl rfl rfl (aE h) (by simp only [aS, go_sem])
attribute [go_sem] vB
end
end Nu
end Go.Proofs
