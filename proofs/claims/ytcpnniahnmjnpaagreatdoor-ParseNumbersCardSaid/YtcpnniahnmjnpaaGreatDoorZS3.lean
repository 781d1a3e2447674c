import Derived.Test.YtcpnniahnmjnpaaGreatDoorZS2
set_option linter.unusedVariables false
set_option linter.unusedSimpArgs false
namespace Go.Proofs
open Go.Vc
set_option maxRecDepth 20000
namespace Nu
noncomputable section
set_option maxHeartbeats 4000000
attribute [-go_sem] Ex.kind Ex.text Ex.l
def cS (F : Md) (s_0 : qd) (cutset_1 : qd) : Option qd :=
 if (s_0 = (aS ⟨#[]⟩)) ∨ (cutset_1 = (aS ⟨#[]⟩)) then some s_0 else ck (((cutset_1.length : Int) = (1 : Int)) → ((0 : Int) < (cutset_1.length : Int))) (if ((cutset_1.length : Int) = (1 : Int)) ∧ ((cutset_1.getD (0 : Nat) (0 : Nat)) < (128 : Nat)) then ck ((0 : Int) < (cutset_1.length : Int)) ((lV F s_0 (cutset_1.getD (0 : Nat) (0 : Nat))).bind (fun v_8 => some v_8)) else (jR F cutset_1).bind (fun v_13 => if v_13.2.1 = true then (lG F s_0 v_13.1).bind (fun v_17 => some v_17) else none))
def aCl : PlR := ⟨[(0, .A [0, 1]), (1, .A [0, 1, 12]), (2, .A [4]), (3, .A [0, 1, 21]), (4, .A [4]), (5, .B [0, 1, 5, 6]), (6, .A [0, 1, 5, 31]), (7, .A [4]), (8, .stop)], []⟩
def aDA : Ty := .pair .str wg
def mI (F : Md) : aI := mSpec aDA (.one .str) (fun x => cS F x.1 x.2.1)
abbrev sW (F : Md) : List (FuncId × aI) := [(46, (fE F)), (93, (iT F)), (94, (hN F))]
theorem aJI [Mx] (F : Md) : bH Tryz.prog GL (sW F) := .cons (sA F) xAa (.cons (zC F) xAa (.cons (xE F) xAa (.nil)))
attribute [go_sem] aDA aCl
theorem aCm [Mx] (F : Md) : FOK Tryz.prog GL 49 (mI F) := by
 refine bT (aU (aJI F)) mix Tryz.func49 rfl xAa xAc aCl fun w0 S x Θ hw h hF => ?_
 obtain ⟨(s_0 : qd), (cutset_1 : qd), u⟩ := x
 simp only [bZ, go_sem]
 replace h : sat (cS F s_0 cutset_1) _ := h
 unfold cS at h
 exact zaZ
attribute [go_sem] mI
def mJ (F : Md) (s_0 : qd) (cutset_1 : qd) : Option qd :=
 if (s_0 = (aS ⟨#[]⟩)) ∨ (cutset_1 = (aS ⟨#[]⟩)) then some s_0 else ck (((cutset_1.length : Int) = (1 : Int)) → ((0 : Int) < (cutset_1.length : Int))) (if ((cutset_1.length : Int) = (1 : Int)) ∧ ((cutset_1.getD (0 : Nat) (0 : Nat)) < (128 : Nat)) then ck ((0 : Int) < (cutset_1.length : Int)) ((lF F s_0 (cutset_1.getD (0 : Nat) (0 : Nat))).bind (fun v_8 => some v_8)) else (jR F cutset_1).bind (fun v_13 => if v_13.2.1 = true then (kM F s_0 v_13.1).bind (fun v_17 => some v_17) else none))
def aBN : PlR := ⟨[(0, .A [0, 1]), (1, .A [0, 1, 12]), (2, .A [4]), (3, .A [0, 1, 21]), (4, .A [4]), (5, .B [0, 1, 5, 6]), (6, .A [0, 1, 5, 31]), (7, .A [4]), (8, .stop)], []⟩
def aCn : Ty := .pair .str wg
def rG (F : Md) : aI := mSpec aCn (.one .str) (fun x => mJ F x.1 x.2.1)
abbrev rT (F : Md) : List (FuncId × aI) := [(45, (gZ F)), (46, (fE F)), (47, (gN F))]
theorem aIE [Mx] (F : Md) : bH Tryz.prog GL (rT F) := .cons (xA F) xAa (.cons (sA F) xAa (.cons (wF F) xAa (.nil)))
attribute [go_sem] aCn aBN
theorem aHV [Mx] (F : Md) : FOK Tryz.prog GL 26 (rG F) := by
 refine bT (aU (aIE F)) mix Tryz.func26 rfl xAa xAc aBN fun w0 S x Θ hw h hF => ?_
 obtain ⟨(s_0 : qd), (cutset_1 : qd), u⟩ := x
 simp only [bZ, go_sem]
 replace h : sat (mJ F s_0 cutset_1) _ := h
 unfold mJ at h
 exact zaZ
attribute [go_sem] rG
def mQ (F : Md) (s_0 : qd) (prefix_1 : qd) : Option qd :=
 (kO F s_0 prefix_1).bind (fun v_8 => if v_8 = true then ck (0 ≤ (prefix_1.length : Int) ∧ (prefix_1.length : Int) ≤ (s_0.length : Int)) (some (List.drop (prefix_1.length) s_0)) else some s_0)
def vC : PlR := ⟨[(0, .A [0, 1]), (1, .A [0, 1, 7]), (2, .A [4]), (3, .A [4])], []⟩
def wN : Ty := .pair .str wg
def mA (F : Md) : aI := mSpec wN (.one .str) (fun x => mQ F x.1 x.2.1)
abbrev wO (F : Md) : List (FuncId × aI) := [(188, (gP F))]
theorem aDN [Mx] (F : Md) : bH Tryz.prog GL (wO F) := .cons (wL F) xAa (.nil)
attribute [go_sem] wN vC
theorem aDB [Mx] (F : Md) : FOK Tryz.prog GL 186 (mA F) := by
 refine bT (aU (aDN F)) mix Tryz.func186 rfl xAa xAc vC fun w0 S x Θ hw h hF => ?_
 obtain ⟨(s_0 : qd), (prefix_1 : qd), u⟩ := x
 simp only [bZ, go_sem]
 replace h : sat (mQ F s_0 prefix_1) _ := h
 unfold mQ at h
 obtain ⟨v_8, hv, h⟩ := aP h
 try simp only [hv, go_sem]
 refine aHy h (fun hc h => ?_) fun hc h => ?_
 ·refine bB h fun g0 h => ?_
  exact zaD
 ·exact aK hF [.tmp 4] rfl rfl rfl (aE h) xAd
attribute [go_sem] mA
def rH (F : Md) (s_0 : qd) (prefix_1 : qd) : Option qd :=
 (mQ F s_0 prefix_1).bind (fun v_6 => some v_6)
def aAZ : PlR := ⟨[(0, .A [0, 1]), (1, .A [4])], []⟩
def aBP : Ty := .pair .str wg
def qI (F : Md) : aI := mSpec aBP (.one .str) (fun x => rH F x.1 x.2.1)
abbrev aBQ (F : Md) : List (FuncId × aI) := [(186, (mA F))]
theorem aHW [Mx] (F : Md) : bH Tryz.prog GL (aBQ F) := .cons (aDB F) xAa (.nil)
attribute [go_sem] aBP aAZ
theorem aG5 [Mx] (F : Md) : FOK Tryz.prog GL 172 (qI F) := by
 refine bT (aU (aHW F)) mix Tryz.func172 rfl xAa xAc aAZ fun w0 S x Θ hw h hF => ?_
 obtain ⟨(s_0 : qd), (prefix_1 : qd), u⟩ := x
 simp only [bZ, go_sem]
 replace h : sat (rH F s_0 prefix_1) _ := h
 unfold rH at h
 obtain ⟨v_6, hv, h⟩ := aP h
 exact zaR
attribute [go_sem] qI
def mB (F : Md) (w_0 : qd) : Option Bool :=
 (rH F w_0 (aS ⟨#[45]⟩)).bind (fun v_8 => (rN F v_8).bind (fun v_9 => some v_9))
def aGJ : PlR := ⟨[(0, .A [0]), (1, .A [2])], []⟩
def aHX : Ty := .pair .str .unit
def yB (F : Md) : aI := mSpec aHX (.one .bool) (fun x => mB F x.1)
abbrev aDC (F : Md) : List (FuncId × aI) := [(172, (qI F)), (98, (sK F))]
theorem aP9 [Mx] (F : Md) : bH Tryz.prog GL (aDC F) := .cons (aG5 F) xAa (.cons (aHI F) xAa (.nil))
attribute [go_sem] aHX aGJ
theorem aOd [Mx] (F : Md) : FOK Tryz.prog GL 133 (yB F) := by
 refine bT (aU (aP9 F)) mix Tryz.func133 rfl xAa xAc aGJ fun w0 S x Θ hw h hF => ?_
 obtain ⟨(w_0 : qd), u⟩ := x
 simp only [bZ, go_sem]
 replace h : sat (mB F w_0) _ := h
 unfold mB at h
 obtain ⟨v_8, hv, h⟩ := aP h
 try simp only [hv, go_sem]
 obtain ⟨v_9, hv, h⟩ := aP h
 try simp only [hv, go_sem]
 exact zaF
attribute [go_sem] yB
def mC (F : Md) (o0_1 : qo) : Option (qo ⊕ q8) :=
 some (.inr ((o0_1.1, (1 : Int), ()), ()))
def eZ (F : Md) : gH where
 D := qo × (qo ⊕ q8)
 av := fun d => [.ptr 0 []]
 hp := fun d => [.box 3 (.val qk d.1)]
 m := 1
 pre := fun d => mC F d.1 = some d.2
 out := fun d => match d.2 with | .inl r => .ret (.tup []) [.box 3 (.val qk (r))] | .inr p => .pan ⟨65, wi, p⟩ [.box 3 (.junk)]
abbrev aD9 (F : Md) : List (FuncId × aI) := []
theorem aEa [Mx] (F : Md) : bH Tryz.prog GL (aD9 F) := .nil
theorem jE [Mx] (F : Md) : GOK Tryz.prog GL 57 (eZ F) := by
 refine eO (aU (aEa F)) Tryz.func57 rfl xAa (fun _ => Nat.le_of_ble_eq_true rfl) fun c0 w0 d hw1 hw2 h hn => ?_
 have hF : gD ⟨Tryz.prog, EM (aD9 F), GM (eZ F) c0 d, w0, Tryz.f57.ntmps, []⟩ := ⟨aU (aEa F), mix⟩
 obtain ⟨(o0_1 : qo), r⟩ := d
 replace h : mC F o0_1 = some r := h
 have hw1 : AV.wfL [.ptr 0 []] := hw1
 simp only [AV.wfL, AV.wfV, Ty.wf, fG] at hw1
 show Tri _ _ _ [(0, .ptr 0 [])] [.box 3 (.val qk o0_1)]
 unfold mC at h
 refine aC hF (aG (l := []) (.nil)) [] [] (yaB ?_)
 exact za3
attribute [go_sem] eZ
def dL (F : Md) (is_1 : Bool) (o0_2 : qo) : Option (qo ⊕ q8) :=
 if ¬ (is_1 = true) then (mC F o0_2).bind (fun e => match e with | .inl r_4 => some (.inl r_4) | .inr p_5 => some (.inr p_5)) else some (.inl o0_2)
def bJ (F : Md) : gH where
 D := Bool × qo × (qo ⊕ q8)
 av := fun d => [.ptr 0 [], .val .bool d.1]
 hp := fun d => [.box 3 (.val qk d.2.1)]
 m := 1
 pre := fun d => dL F d.1 d.2.1 = some d.2.2
 out := fun d => match d.2.2 with | .inl r => .ret (.tup []) [.box 3 (.val qk (r))] | .inr p => .pan ⟨65, wi, p⟩ [.box 3 (.junk)]
abbrev aEb (F : Md) : List (FuncId × aI) := []
theorem aEc [Mx] (F : Md) : bH Tryz.prog GL (aEb F) := .nil
theorem bR [Mx] (F : Md) : GOK Tryz.prog GL 54 (bJ F) := by
 refine eO (aU (aEc F)) Tryz.func54 rfl xAa (fun _ => Nat.le_of_ble_eq_true rfl) fun c0 w0 d hw1 hw2 h hn => ?_
 have hF : gD ⟨Tryz.prog, EM (aEb F), GM (bJ F) c0 d, w0, Tryz.f54.ntmps, []⟩ := ⟨aU (aEc F), mix⟩
 obtain ⟨(is_1 : Bool), (o0_2 : qo), r⟩ := d
 replace h : dL F is_1 o0_2 = some r := h
 have hw1 : AV.wfL [.ptr 0 [], .val .bool is_1] := hw1
 simp only [AV.wfL, AV.wfV, Ty.wf, fG] at hw1
 show Tri _ _ _ [(0, .ptr 0 []), (1, .val .bool is_1)] [.box 3 (.val qk o0_2)]
 unfold dL at h
 refine aB (aF hF [0, 5] (yaA ?_))
 refine aA (bC rfl (fun hc => ?_) (fun hc => ?_))
 ·try simp only [go_sem] at hc
  have h := dP zAB h
  obtain ⟨e, he1, h⟩ := bind_some h
  rcases e with r_4 | p_5
  ·try dsimp only at h
   refine aC hF (aG (l := [(57, ⟨eZ F, [0], (o0_2, .inl r_4)⟩)]) (.cons (jE F) xAa (.nil))) [] [] (yaB ?_)
   exact zaO
  ·try dsimp only at h
   refine aC hF (aG (l := [(57, ⟨eZ F, [0], (o0_2, .inr p_5)⟩)]) (.cons (jE F) xAa (.nil))) [] [] (yaB ?_)
   exact za3
 ·try simp only [go_sem] at hc
  exact zay
attribute [go_sem] bJ
def kC (F : Md) (o0_1 : qo) : Option (qd × qo) :=
 ck (0 ≤ o0_1.2.1 ∧ o0_1.2.1 ≤ (o0_1.2.2.1.length : Int)) (ck ((cS F (List.drop (o0_1.2.1.toNat) o0_1.2.2.1) (aS ⟨#[32]⟩)).isSome = true) (ck (aQK ((cS F (List.drop (o0_1.2.1.toNat) o0_1.2.2.1) (aS ⟨#[32]⟩)).getD ([] : List Nat)) (aS ⟨#[32]⟩)) (some ((xJ ((cS F (List.drop (o0_1.2.1.toNat) o0_1.2.2.1) (aS ⟨#[32]⟩)).getD ([] : List Nat)) (aS ⟨#[32]⟩)).1, o0_1))))
def gU (F : Md) : gH where
 D := qo × (qd × qo)
 av := fun d => [.ptr 0 []]
 hp := fun d => [.box 3 (.val qk d.1)]
 m := 1
 pre := fun d => kC F d.1 = some d.2
 out := fun d => (fun r : (qd × qo) => .ret (.val .str r.1) [.box 3 (.val qk r.2)]) d.2
abbrev uF (F : Md) : List (FuncId × aI) := [(25, nS), (49, (mI F))]
theorem aEd [Mx] (F : Md) : bH Tryz.prog GL (uF F) := .cons aDz xAa (.cons (aCm F) xAa (.nil))
theorem mV [Mx] (F : Md) : GOK Tryz.prog GL 27 (gU F) := by
 refine eO (aU (aEd F)) Tryz.func27 rfl xAa (fun _ => Nat.le_of_ble_eq_true rfl) fun c0 w0 d hw1 hw2 h hn => ?_
 have hF : gD ⟨Tryz.prog, EM (uF F), GM (gU F) c0 d, w0, Tryz.f27.ntmps, []⟩ := ⟨aU (aEd F), mix⟩
 obtain ⟨(o0_1 : qo), r⟩ := d
 replace h : kC F o0_1 = some r := h
 have hw1 : AV.wfL [.ptr 0 []] := hw1
 simp only [AV.wfL, AV.wfV, Ty.wf, fG] at hw1
 show Tri _ _ _ [(0, .ptr 0 [])] [.box 3 (.val qk o0_1)]
 unfold kC at h
 refine aB (aF hF [0] (yaA ?_))
 refine aA (aB (aF hF [3] (yaA ?_)))
 obtain ⟨g0, h⟩ := aM h
 obtain ⟨g1, h⟩ := aM h
 repeat (refine ⟨zAA, ?_⟩)
 refine aA (aB (aF hF [4] (yaA ?_)))
 obtain ⟨g0, h⟩ := aM h
 repeat (refine ⟨zAA, ?_⟩)
 exact zaV
attribute [go_sem] gU
def eB (F : Md) (o0_1 : qo) : Option ((qd × qo) ⊕ q8) :=
 (kC F o0_1).bind (fun r_4 => (dL F (!(decide (r_4.1 = (aS ⟨#[]⟩)))) r_4.2).bind (fun e => match e with | .inl r_9 => ck (0 ≤ r_9.2.1 ∧ r_9.2.1 ≤ (r_9.2.2.1.length : Int)) (ck (aQK (List.drop (r_9.2.1.toNat) r_9.2.2.1) r_4.1) (ck (I64 (r_9.2.1 + (aMo (List.drop (r_9.2.1.toNat) r_9.2.2.1) r_4.1))) (ck (I64 ((r_9.2.1 + (aMo (List.drop (r_9.2.1.toNat) r_9.2.2.1) r_4.1)) + (r_4.1.length : Int))) (some (.inl (r_4.1, r_9.1, ((r_9.2.1 + (aMo (List.drop (r_9.2.1.toNat) r_9.2.2.1) r_4.1)) + (r_4.1.length : Int)), r_9.2.2.1, ())))))) | .inr p_10 => some (.inr p_10)))
def bM (F : Md) : gH where
 D := qo × ((qd × qo) ⊕ q8)
 av := fun d => [.ptr 0 []]
 hp := fun d => [.box 3 (.val qk d.1)]
 m := 1
 pre := fun d => eB F d.1 = some d.2
 out := fun d => match d.2 with | .inl r => .ret (.val .str r.1) [.box 3 (.val qk r.2)] | .inr p => .pan ⟨65, wi, p⟩ [.box 3 (.junk)]
abbrev aAq (F : Md) : List (FuncId × aI) := [(88, vR)]
theorem aEe [Mx] (F : Md) : bH Tryz.prog GL (aAq F) := .cons aMr xAa (.nil)
theorem bS [Mx] (F : Md) : GOK Tryz.prog GL 53 (bM F) := by
 refine eO (aU (aEe F)) Tryz.func53 rfl xAa (fun _ => Nat.le_of_ble_eq_true rfl) fun c0 w0 d hw1 hw2 h hn => ?_
 have hF : gD ⟨Tryz.prog, EM (aAq F), GM (bM F) c0 d, w0, Tryz.f53.ntmps, []⟩ := ⟨aU (aEe F), mix⟩
 obtain ⟨(o0_1 : qo), r⟩ := d
 replace h : eB F o0_1 = some r := h
 have hw1 : AV.wfL [.ptr 0 []] := hw1
 simp only [AV.wfL, AV.wfV, Ty.wf, fG] at hw1
 show Tri _ _ _ [(0, .ptr 0 [])] [.box 3 (.val qk o0_1)]
 unfold eB at h
 refine aB (aF hF [0] (yaA ?_))
 obtain ⟨r_4, he1, h⟩ := bind_some h
 try dsimp only at h
 refine aA (aB (aC hF (aG (l := [(27, ⟨gU F, [0], (o0_1, r_4)⟩)]) (.cons (mV F) xAa (.nil))) [0, 3] [] (yaB ?_)))
 obtain ⟨e, he2, h⟩ := bind_some h
 rcases e with r_9 | p_10
 ·try dsimp only at h
  refine aA (aB (aC hF (aG (l := [(54, ⟨bJ F, [0], ((!(decide (r_4.1 = (aS ⟨#[]⟩)))), r_4.2, .inl r_9)⟩)]) (.cons (bR F) xAa (.nil))) [0, 3] [] (yaB ?_)))
  refine aA (aB (aSY hF 22 xAc [3] (yaA ?_)))
  obtain ⟨g0, h⟩ := aM h
  obtain ⟨g1, h⟩ := aM h
  obtain ⟨g2, h⟩ := aM h
  obtain ⟨g3, h⟩ := aM h
  try simp only [I64, I32] at g2
  try simp only [I64, I32] at g3
  repeat (refine ⟨zAA, ?_⟩)
  simp only [aY1, go_sem]
  try simp only [Int.reduceMod, Int.reduceToNat]
  repeat (refine ⟨zAA, ?_⟩)
  exact zaV
 ·try dsimp only at h
  refine aA (aB (aC hF (aG (l := [(54, ⟨bJ F, [0], ((!(decide (r_4.1 = (aS ⟨#[]⟩)))), r_4.2, .inr p_10)⟩)]) (.cons (bR F) xAa (.nil))) [0, 3] [] (yaB ?_)))
  exact zaL
attribute [go_sem] bM
def eW (F : Md) (w_1 : qd) (o0_2 : qo) : Option (qo ⊕ q8) :=
 (eB F o0_2).bind (fun e => match e with | .inl r_4 => (dL F (decide (r_4.1 = w_1)) r_4.2).bind (fun e => match e with | .inl r_5 => some (.inl r_5) | .inr p_6 => some (.inr p_6)) | .inr p_7 => some (.inr p_7))
def bV (F : Md) : gH where
 D := qd × qo × (qo ⊕ q8)
 av := fun d => [.ptr 0 [], .val .str d.1]
 hp := fun d => [.box 3 (.val qk d.2.1)]
 m := 1
 pre := fun d => eW F d.1 d.2.1 = some d.2.2
 out := fun d => match d.2.2 with | .inl r => .ret (.tup []) [.box 3 (.val qk (r))] | .inr p => .pan ⟨65, wi, p⟩ [.box 3 (.junk)]
abbrev aGK (F : Md) : List (FuncId × aI) := []
theorem aGL [Mx] (F : Md) : bH Tryz.prog GL (aGK F) := .nil
theorem cG [Mx] (F : Md) : GOK Tryz.prog GL 50 (bV F) := by
 refine eO (aU (aGL F)) Tryz.func50 rfl xAa (fun _ => Nat.le_of_ble_eq_true rfl) fun c0 w0 d hw1 hw2 h hn => ?_
 have hF : gD ⟨Tryz.prog, EM (aGK F), GM (bV F) c0 d, w0, Tryz.f50.ntmps, []⟩ := ⟨aU (aGL F), mix⟩
 obtain ⟨(w_1 : qd), (o0_2 : qo), r⟩ := d
 replace h : eW F w_1 o0_2 = some r := h
 have hw1 : AV.wfL [.ptr 0 [], .val .str w_1] := hw1
 simp only [AV.wfL, AV.wfV, Ty.wf, fG] at hw1
 show Tri _ _ _ [(0, .ptr 0 []), (1, .val .str w_1)] [.box 3 (.val qk o0_2)]
 unfold eW at h
 obtain ⟨e, he1, h⟩ := bind_some h
 rcases e with r_4 | p_7
 ·try dsimp only at h
  obtain ⟨e, he2, h⟩ := bind_some h
  rcases e with r_5 | p_6
  ·try dsimp only at h
   refine aC hF (aG (l := [(53, ⟨bM F, [0], (o0_2, .inl r_4)⟩), (54, ⟨bJ F, [0], ((decide (r_4.1 = w_1)), r_4.2, .inl r_5)⟩)]) (.cons (bS F) xAa (.cons (bR F) xAa (.nil)))) [] [] (yaB ?_)
   exact zaO
  ·try dsimp only at h
   refine aC hF (aG (l := [(53, ⟨bM F, [0], (o0_2, .inl r_4)⟩), (54, ⟨bJ F, [0], ((decide (r_4.1 = w_1)), r_4.2, .inr p_6)⟩)]) (.cons (bS F) xAa (.cons (bR F) xAa (.nil)))) [] [] (yaB ?_)
   exact za3
 ·try dsimp only at h
  refine aC hF (aG (l := [(53, ⟨bM F, [0], (o0_2, .inr p_7)⟩)]) (.cons (bS F) xAa (.nil))) [] [] (yaB ?_)
  exact za3
attribute [go_sem] bV
def dE (F : Md) (o0_1 : qo) : Option (qo ⊕ q8) :=
 (kC F o0_1).bind (fun r_3 => (dL F (decide (r_3.1 = (aS ⟨#[]⟩))) r_3.2).bind (fun e => match e with | .inl r_4 => some (.inl r_4) | .inr p_5 => some (.inr p_5)))
def bF (F : Md) : gH where
 D := qo × (qo ⊕ q8)
 av := fun d => [.ptr 0 []]
 hp := fun d => [.box 3 (.val qk d.1)]
 m := 1
 pre := fun d => dE F d.1 = some d.2
 out := fun d => match d.2 with | .inl r => .ret (.tup []) [.box 3 (.val qk (r))] | .inr p => .pan ⟨65, wi, p⟩ [.box 3 (.junk)]
abbrev aFe (F : Md) : List (FuncId × aI) := []
theorem aFf [Mx] (F : Md) : bH Tryz.prog GL (aFe F) := .nil
theorem bK [Mx] (F : Md) : GOK Tryz.prog GL 55 (bF F) := by
 refine eO (aU (aFf F)) Tryz.func55 rfl xAa (fun _ => Nat.le_of_ble_eq_true rfl) fun c0 w0 d hw1 hw2 h hn => ?_
 have hF : gD ⟨Tryz.prog, EM (aFe F), GM (bF F) c0 d, w0, Tryz.f55.ntmps, []⟩ := ⟨aU (aFf F), mix⟩
 obtain ⟨(o0_1 : qo), r⟩ := d
 replace h : dE F o0_1 = some r := h
 have hw1 : AV.wfL [.ptr 0 []] := hw1
 simp only [AV.wfL, AV.wfV, Ty.wf, fG] at hw1
 show Tri _ _ _ [(0, .ptr 0 [])] [.box 3 (.val qk o0_1)]
 unfold dE at h
 obtain ⟨r_3, he1, h⟩ := bind_some h
 try dsimp only at h
 obtain ⟨e, he2, h⟩ := bind_some h
 rcases e with r_4 | p_5
 ·try dsimp only at h
  refine aC hF (aG (l := [(27, ⟨gU F, [0], (o0_1, r_3)⟩), (54, ⟨bJ F, [0], ((decide (r_3.1 = (aS ⟨#[]⟩))), r_3.2, .inl r_4)⟩)]) (.cons (mV F) xAa (.cons (bR F) xAa (.nil)))) [] [] (yaB ?_)
  exact zaO
 ·try dsimp only at h
  refine aC hF (aG (l := [(27, ⟨gU F, [0], (o0_1, r_3)⟩), (54, ⟨bJ F, [0], ((decide (r_3.1 = (aS ⟨#[]⟩))), r_3.2, .inr p_5)⟩)]) (.cons (mV F) xAa (.cons (bR F) xAa (.nil)))) [] [] (yaB ?_)
  exact za3
attribute [go_sem] bF
def pC (F : Md) (r_7 : (qd × qo)) (x_17 : qo) : Option ((Int × qo) ⊕ q8) :=
 ck ((lW F r_7.1).isSome = true) (some (.inl (((lW F r_7.1).getD ((0 : Int), (), ())).1, x_17)))
def mK (F : Md) (o0_1 : qo) : Option ((Int × qo) ⊕ q8) :=
 (eB F o0_1).bind (fun e => match e with | .inl r_7 => if (r_7.1.length : Int) ≤ (4 : Int) then ck ((nL F r_7.1 (aS ⟨#[48, 49, 50, 51, 52, 53, 54, 55, 56, 57]⟩)).isSome = true) ((dL F ((decide ((r_7.1.length : Int) ≤ (4 : Int))) && (decide (((nL F r_7.1 (aS ⟨#[48, 49, 50, 51, 52, 53, 54, 55, 56, 57]⟩)).getD ([] : List Nat)) = (aS ⟨#[]⟩)))) r_7.2).bind (fun e => match e with | .inl r_18 => pC F r_7 r_18 | .inr p_19 => some (.inr p_19))) else (dL F false r_7.2).bind (fun e => match e with | .inl r_20 => pC F r_7 r_20 | .inr p_21 => some (.inr p_21)) | .inr p_8 => some (.inr p_8))
def fW (F : Md) : gH where
 D := qo × ((Int × qo) ⊕ q8)
 av := fun d => [.ptr 0 []]
 hp := fun d => [.box 3 (.val qk d.1)]
 m := 1
 pre := fun d => mK F d.1 = some d.2
 out := fun d => match d.2 with | .inl r => .ret (.val qe r.1) [.box 3 (.val qk r.2)] | .inr p => .pan ⟨65, wi, p⟩ [.box 3 (.junk)]
abbrev rU (F : Md) : List (FuncId × aI) := [(96, (qS F)), (97, (mM F))]
theorem aCo [Mx] (F : Md) : bH Tryz.prog GL (rU F) := .cons (aGA F) xAa (.cons (aB0 F) xAa (.nil))
theorem lI [Mx] (F : Md) : GOK Tryz.prog GL 51 (fW F) := by
 refine eO (aU (aCo F)) Tryz.func51 rfl xAa (fun _ => Nat.le_of_ble_eq_true rfl) fun c0 w0 d hw1 hw2 h hn => ?_
 have hF : gD ⟨Tryz.prog, EM (rU F), GM (fW F) c0 d, w0, Tryz.f51.ntmps, []⟩ := ⟨aU (aCo F), mix⟩
 obtain ⟨(o0_1 : qo), r⟩ := d
 replace h : mK F o0_1 = some r := h
 have hw1 : AV.wfL [.ptr 0 []] := hw1
 simp only [AV.wfL, AV.wfV, Ty.wf, fG] at hw1
 show Tri _ _ _ [(0, .ptr 0 [])] [.box 3 (.val qk o0_1)]
 unfold mK at h
 refine aB (aF hF [0] (yaA ?_))
 obtain ⟨e, he1, h⟩ := bind_some h
 rcases e with r_7 | p_8
 ·try dsimp only at h
  refine aA (aB (aC hF (aG (l := [(53, ⟨bM F, [0], (o0_1, .inl r_7)⟩)]) (.cons (bS F) xAa (.nil))) [0, 3] [] (yaB ?_)))
  refine aA (oB (D := qo) (fun d => pC F r_7 d = some r) [3] (fun d => []) (fun d => [.inr (.box 3 (.val qk d))]) ?_ ?_)
  ·by_cases hq : (r_7.1.length : Int) ≤ (4 : Int)
   ·have h := dP hq h
    obtain ⟨g0, h⟩ := aM h
    obtain ⟨e, he2, h⟩ := bind_some h
    rcases e with r_18 | p_19
    ·try dsimp only at h
     refine aC hF (aG (l := [(54, ⟨bJ F, [0], (((decide ((r_7.1.length : Int) ≤ (4 : Int))) && (decide (((nL F r_7.1 (aS ⟨#[48, 49, 50, 51, 52, 53, 54, 55, 56, 57]⟩)).getD ([] : List Nat)) = (aS ⟨#[]⟩)))), r_7.2, .inl r_18)⟩)]) (.cons (bR F) xAa (.nil))) [3] [] (yaB ?_)
     refine ⟨fun _ => (yaD ?_), fun hx => by first | (exfalso; omega) | (exfalso; simp_all; done)⟩
     refine ⟨fun _ => (yaD ?_), fun hx => by first | (exfalso; omega) | (exfalso; simp_all; done)⟩
     refine ⟨fun _ => (yaD ?_), fun hx => by first | (exfalso; omega) | (exfalso; simp_all; done)⟩
     refine bO (aY (r_18) h rfl ?_)
     ·exact zAG
    ·try dsimp only at h
     refine aC hF (aG (l := [(54, ⟨bJ F, [0], (((decide ((r_7.1.length : Int) ≤ (4 : Int))) && (decide (((nL F r_7.1 (aS ⟨#[48, 49, 50, 51, 52, 53, 54, 55, 56, 57]⟩)).getD ([] : List Nat)) = (aS ⟨#[]⟩)))), r_7.2, .inr p_19)⟩)]) (.cons (bR F) xAa (.nil))) [3] [] (yaB ?_)
     exact zau
   ·have h := dQ hq h
    obtain ⟨e, he3, h⟩ := bind_some h
    rcases e with r_20 | p_21
    ·try dsimp only at h
     refine aC hF (aG (l := [(54, ⟨bJ F, [0], (false, r_7.2, .inl r_20)⟩)]) (.cons (bR F) xAa (.nil))) [3] [] (yaB ?_)
     first | (refine ⟨fun hx => by first | (exfalso; omega) | (exfalso; simp_all; done), fun _ => ?_⟩) | (with_reducible intro _) | skip
     repeat (refine ⟨zAA, ?_⟩)
     first | (refine ⟨fun hx => by first | (exfalso; omega) | (exfalso; simp_all; done), fun _ => ?_⟩) | (with_reducible intro _) | skip
     repeat (refine ⟨zAA, ?_⟩)
     first | (refine ⟨fun hx => by first | (exfalso; omega) | (exfalso; simp_all; done), fun _ => ?_⟩) | (with_reducible intro _) | skip
     repeat (refine ⟨zAA, ?_⟩)
     refine bO (aY (r_20) h rfl ?_)
     ·exact zAG
    ·try dsimp only at h
     refine aC hF (aG (l := [(54, ⟨bJ F, [0], (false, r_7.2, .inr p_21)⟩)]) (.cons (bR F) xAa (.nil))) [3] [] (yaB ?_)
     first | (refine ⟨fun hx => by first | (exfalso; omega) | (exfalso; simp_all; done), fun _ => ?_⟩) | (with_reducible intro _) | skip
     repeat (refine ⟨zAA, ?_⟩)
     exact zaQ
  ·rintro x_17 h
   try dsimp only at h
   simp only [go_sem]
   unfold pC at h
   refine aB (aF hF [4] (yaA ?_))
   obtain ⟨g0, h⟩ := aM h
   repeat (refine ⟨zAA, ?_⟩)
   exact zaV
 ·try dsimp only at h
  exact zaw
attribute [go_sem] fW
def fX (F : Md) (o0_1 : qo) : Option ((qd × qo) ⊕ q8) :=
 (eB F o0_1).bind (fun e => match e with | .inl r_7 => ck ((rN F r_7.1).isSome = true) ((dL F ((rN F r_7.1).getD false) r_7.2).bind (fun e => match e with | .inl r_13 => some (.inl (r_7.1, r_13)) | .inr p_14 => some (.inr p_14))) | .inr p_8 => some (.inr p_8))
def eM (F : Md) : gH where
 D := qo × ((qd × qo) ⊕ q8)
 av := fun d => [.ptr 0 []]
 hp := fun d => [.box 3 (.val qk d.1)]
 m := 1
 pre := fun d => fX F d.1 = some d.2
 out := fun d => match d.2 with | .inl r => .ret (.val .str r.1) [.box 3 (.val qk r.2)] | .inr p => .pan ⟨65, wi, p⟩ [.box 3 (.junk)]
abbrev vD (F : Md) : List (FuncId × aI) := [(98, (sK F))]
theorem aBR [Mx] (F : Md) : bH Tryz.prog GL (vD F) := .cons (aHI F) xAa (.nil)
theorem iD [Mx] (F : Md) : GOK Tryz.prog GL 52 (eM F) := by
 refine eO (aU (aBR F)) Tryz.func52 rfl xAa (fun _ => Nat.le_of_ble_eq_true rfl) fun c0 w0 d hw1 hw2 h hn => ?_
 have hF : gD ⟨Tryz.prog, EM (vD F), GM (eM F) c0 d, w0, Tryz.f52.ntmps, []⟩ := ⟨aU (aBR F), mix⟩
 obtain ⟨(o0_1 : qo), r⟩ := d
 replace h : fX F o0_1 = some r := h
 have hw1 : AV.wfL [.ptr 0 []] := hw1
 simp only [AV.wfL, AV.wfV, Ty.wf, fG] at hw1
 show Tri _ _ _ [(0, .ptr 0 [])] [.box 3 (.val qk o0_1)]
 unfold fX at h
 refine aB (aF hF [0] (yaA ?_))
 obtain ⟨e, he1, h⟩ := bind_some h
 rcases e with r_7 | p_8
 ·try dsimp only at h
  refine aA (aB (aC hF (aG (l := [(53, ⟨bM F, [0], (o0_1, .inl r_7)⟩)]) (.cons (bS F) xAa (.nil))) [0, 3] [] (yaB ?_)))
  obtain ⟨g0, h⟩ := aM h
  obtain ⟨e, he2, h⟩ := bind_some h
  rcases e with r_13 | p_14
  ·try dsimp only at h
   refine aA (aB (aC hF (aG (l := [(54, ⟨bJ F, [0], (((rN F r_7.1).getD false), r_7.2, .inl r_13)⟩)]) (.cons (bR F) xAa (.nil))) [3] [] (yaB ?_)))
   exact zaV
  ·try dsimp only at h
   refine aA (aB (aC hF (aG (l := [(54, ⟨bJ F, [0], (((rN F r_7.1).getD false), r_7.2, .inr p_14)⟩)]) (.cons (bR F) xAa (.nil))) [3] [] (yaB ?_)))
   exact zaL
 ·try dsimp only at h
  exact zaw
attribute [go_sem] eM
def kD (F : Md) (o0_1 : qo) : Option ((qd × qo) ⊕ q8) :=
 (eB F o0_1).bind (fun e => match e with | .inl r_7 => ck ((fC F r_7.1).isSome = true) ((dL F ((fC F r_7.1).getD false) r_7.2).bind (fun e => match e with | .inl r_13 => some (.inl (r_7.1, r_13)) | .inr p_14 => some (.inr p_14))) | .inr p_8 => some (.inr p_8))
def eD (F : Md) : gH where
 D := qo × ((qd × qo) ⊕ q8)
 av := fun d => [.ptr 0 []]
 hp := fun d => [.box 3 (.val qk d.1)]
 m := 1
 pre := fun d => kD F d.1 = some d.2
 out := fun d => match d.2 with | .inl r => .ret (.val .str r.1) [.box 3 (.val qk r.2)] | .inr p => .pan ⟨65, wi, p⟩ [.box 3 (.junk)]
abbrev aAr (F : Md) : List (FuncId × aI) := [(78, (pL F))]
theorem aEf [Mx] (F : Md) : bH Tryz.prog GL (aAr F) := .cons (aEE F) xAa (.nil)
theorem gA [Mx] (F : Md) : GOK Tryz.prog GL 58 (eD F) := by
 refine eO (aU (aEf F)) Tryz.func58 rfl xAa (fun _ => Nat.le_of_ble_eq_true rfl) fun c0 w0 d hw1 hw2 h hn => ?_
 have hF : gD ⟨Tryz.prog, EM (aAr F), GM (eD F) c0 d, w0, Tryz.f58.ntmps, []⟩ := ⟨aU (aEf F), mix⟩
 obtain ⟨(o0_1 : qo), r⟩ := d
 replace h : kD F o0_1 = some r := h
 have hw1 : AV.wfL [.ptr 0 []] := hw1
 simp only [AV.wfL, AV.wfV, Ty.wf, fG] at hw1
 show Tri _ _ _ [(0, .ptr 0 [])] [.box 3 (.val qk o0_1)]
 unfold kD at h
 refine aB (aF hF [0] (yaA ?_))
 obtain ⟨e, he1, h⟩ := bind_some h
 rcases e with r_7 | p_8
 ·try dsimp only at h
  refine aA (aB (aC hF (aG (l := [(53, ⟨bM F, [0], (o0_1, .inl r_7)⟩)]) (.cons (bS F) xAa (.nil))) [0, 3] [] (yaB ?_)))
  obtain ⟨g0, h⟩ := aM h
  obtain ⟨e, he2, h⟩ := bind_some h
  rcases e with r_13 | p_14
  ·try dsimp only at h
   refine aA (aB (aC hF (aG (l := [(54, ⟨bJ F, [0], (((fC F r_7.1).getD false), r_7.2, .inl r_13)⟩)]) (.cons (bR F) xAa (.nil))) [3] [] (yaB ?_)))
   exact zaV
  ·try dsimp only at h
   refine aA (aB (aC hF (aG (l := [(54, ⟨bJ F, [0], (((fC F r_7.1).getD false), r_7.2, .inr p_14)⟩)]) (.cons (bR F) xAa (.nil))) [3] [] (yaB ?_)))
   exact zaL
 ·try dsimp only at h
  exact zaw
attribute [go_sem] eD
def rI (F : Md) (o0_1 : qo) : Option ((qv × qo) ⊕ q8) :=
 (eB F o0_1).bind (fun e => match e with | .inl r_7 => ck ((mB F r_7.1).isSome = true) ((dL F ((mB F r_7.1).getD false) r_7.2).bind (fun e => match e with | .inl r_13 => (kC F r_13).bind (fun r_19 => ck ((mB F r_19.1).isSome = true) (if ((mB F r_19.1).getD false) = true then (eB F r_19.2).bind (fun e => match e with | .inl r_20 => some (.inl ((r_7.1, r_20.1, ()), r_20.2)) | .inr p_21 => some (.inr p_21)) else some (.inl ((r_7.1, ([] : List Nat), ()), r_19.2)))) | .inr p_14 => some (.inr p_14))) | .inr p_8 => some (.inr p_8))
def kZ (F : Md) : gH where
 D := qo × ((qv × qo) ⊕ q8)
 av := fun d => [.ptr 0 []]
 hp := fun d => [.box 3 (.val qk d.1)]
 m := 1
 pre := fun d => rI F d.1 = some d.2
 out := fun d => match d.2 with | .inl r => .ret (.val qg r.1) [.box 3 (.val qk r.2)] | .inr p => .pan ⟨65, wi, p⟩ [.box 3 (.junk)]
abbrev aAs (F : Md) : List (FuncId × aI) := [(133, (yB F))]
theorem aEg [Mx] (F : Md) : bH Tryz.prog GL (aAs F) := .cons (aOd F) xAa (.nil)
theorem sX [Mx] (F : Md) : GOK Tryz.prog GL 99 (kZ F) := by
 refine eO (aU (aEg F)) Tryz.func99 rfl xAa (fun _ => Nat.le_of_ble_eq_true rfl) fun c0 w0 d hw1 hw2 h hn => ?_
 have hF : gD ⟨Tryz.prog, EM (aAs F), GM (kZ F) c0 d, w0, Tryz.f99.ntmps, []⟩ := ⟨aU (aEg F), mix⟩
 obtain ⟨(o0_1 : qo), r⟩ := d
 replace h : rI F o0_1 = some r := h
 have hw1 : AV.wfL [.ptr 0 []] := hw1
 simp only [AV.wfL, AV.wfV, Ty.wf, fG] at hw1
 show Tri _ _ _ [(0, .ptr 0 [])] [.box 3 (.val qk o0_1)]
 unfold rI at h
 refine aB (aR hF [0, 2] (yaA ?_))
 refine aA (aB (aR hF [0, 2, 3] (yaA ?_)))
 obtain ⟨e, he1, h⟩ := bind_some h
 rcases e with r_7 | p_8
 ·try dsimp only at h
  refine aA (aB (aC hF (aG (l := [(53, ⟨bM F, [0], (o0_1, .inl r_7)⟩)]) (.cons (bS F) xAa (.nil))) [0, 2, 3] [] (yaB ?_)))
  obtain ⟨g0, h⟩ := aM h
  obtain ⟨e, he2, h⟩ := bind_some h
  rcases e with r_13 | p_14
  ·try dsimp only at h
   refine aA (aB (aC hF (aG (l := [(54, ⟨bJ F, [0], (((mB F r_7.1).getD false), r_7.2, .inl r_13)⟩)]) (.cons (bR F) xAa (.nil))) [0, 2, 3] [] (yaB ?_)))
   obtain ⟨r_19, he3, h⟩ := bind_some h
   try dsimp only at h
   refine aA (aB (aB (aC hF (aG (l := [(27, ⟨gU F, [0], (r_13, r_19)⟩)]) (.cons (mV F) xAa (.nil))) [0, 2, 3, 4] [] (yaB ?_))))
   refine aA (aB (aF hF [0, 2, 3, 16] (yaA ?_)))
   obtain ⟨g0, h⟩ := aM h
   repeat (refine ⟨zAA, ?_⟩)
   refine aA (bC rfl (fun hc => ?_) (fun hc => ?_))
   ·try simp only [go_sem] at hc
    have h := dP zAB h
    obtain ⟨e, he4, h⟩ := bind_some h
    rcases e with r_20 | p_21
    ·try dsimp only at h
     refine aC hF (aG (l := [(53, ⟨bM F, [0], (r_19.2, .inl r_20)⟩)]) (.cons (bS F) xAa (.nil))) [2, 3] [] (yaB ?_)
     refine aA (aB (aR hF [2] (yaA ?_)))
     obtain rfl := Option.some.inj h
     refine aA (cA (kK hF [.cell 2 85] [0] rfl rfl rfl rfl rfl rfl rfl rfl rfl ?_))
     exact zaB
    ·try dsimp only at h
     refine aC hF (aG (l := [(53, ⟨bM F, [0], (r_19.2, .inr p_21)⟩)]) (.cons (bS F) xAa (.nil))) [2, 3] [] (yaB ?_)
     exact zaH
   ·try simp only [go_sem] at hc
    have h := dQ zAB h
    refine bY (aA (aB (aR hF [2] (yaA ?_))))
    obtain rfl := Option.some.inj h
    refine aA (cA (kK hF [.cell 2 85] [0] rfl rfl rfl rfl rfl rfl rfl rfl rfl ?_))
    exact zaB
  ·try dsimp only at h
   refine aA (aB (aC hF (aG (l := [(54, ⟨bJ F, [0], (((mB F r_7.1).getD false), r_7.2, .inr p_14)⟩)]) (.cons (bR F) xAa (.nil))) [0, 2, 3] [] (yaB ?_)))
   exact zaH
 ·try dsimp only at h
  refine aA (aB (aC hF (aG (l := [(53, ⟨bM F, [0], (o0_1, .inr p_8)⟩)]) (.cons (bS F) xAa (.nil))) [0, 2, 3] [] (yaB ?_)))
  exact zaH
attribute [go_sem] kZ
def rJ (F : Md) (o0_1 : qo) : Option ((Ex × qo) ⊕ q8) :=
 ck (0 ≤ o0_1.2.1 ∧ o0_1.2.1 ≤ (o0_1.2.2.1.length : Int)) (ck ((cS F (List.drop (o0_1.2.1.toNat) o0_1.2.2.1) (aS ⟨#[32]⟩)).isSome = true) (ck (I64 ((o0_1.2.2.1.length : Int) - ((((cS F (List.drop (o0_1.2.1.toNat) o0_1.2.2.1) (aS ⟨#[32]⟩)).getD ([] : List Nat)).length : Nat) : Int))) (ck ((gF F ((cS F (List.drop (o0_1.2.1.toNat) o0_1.2.2.1) (aS ⟨#[32]⟩)).getD ([] : List Nat))).isSome = true) (if ¬ (((gF F ((cS F (List.drop (o0_1.2.1.toNat) o0_1.2.2.1) (aS ⟨#[32]⟩)).getD ([] : List Nat))).getD ((Ex.mk 0 [] []), (0 : Int), (0 : Int), ())).2.2.1 = (0 : Int)) then ck (I64 (((o0_1.2.2.1.length : Int) - ((((cS F (List.drop (o0_1.2.1.toNat) o0_1.2.2.1) (aS ⟨#[32]⟩)).getD ([] : List Nat)).length : Nat) : Int)) + ((gF F ((cS F (List.drop (o0_1.2.1.toNat) o0_1.2.2.1) (aS ⟨#[32]⟩)).getD ([] : List Nat))).getD ((Ex.mk 0 [] []), (0 : Int), (0 : Int), ())).2.1)) (ck (I64 ((((o0_1.2.2.1.length : Int) - ((((cS F (List.drop (o0_1.2.1.toNat) o0_1.2.2.1) (aS ⟨#[32]⟩)).getD ([] : List Nat)).length : Nat) : Int)) + ((gF F ((cS F (List.drop (o0_1.2.1.toNat) o0_1.2.2.1) (aS ⟨#[32]⟩)).getD ([] : List Nat))).getD ((Ex.mk 0 [] []), (0 : Int), (0 : Int), ())).2.1) + (1 : Int))) (some (.inr ((o0_1.1, ((((o0_1.2.2.1.length : Int) - ((((cS F (List.drop (o0_1.2.1.toNat) o0_1.2.2.1) (aS ⟨#[32]⟩)).getD ([] : List Nat)).length : Nat) : Int)) + ((gF F ((cS F (List.drop (o0_1.2.1.toNat) o0_1.2.2.1) (aS ⟨#[32]⟩)).getD ([] : List Nat))).getD ((Ex.mk 0 [] []), (0 : Int), (0 : Int), ())).2.1) + (1 : Int)), ()), ())))) else some (.inl (((gF F ((cS F (List.drop (o0_1.2.1.toNat) o0_1.2.2.1) (aS ⟨#[32]⟩)).getD ([] : List Nat))).getD ((Ex.mk 0 [] []), (0 : Int), (0 : Int), ())).1, o0_1.1, (o0_1.2.2.1.length : Int), o0_1.2.2.1, ()))))))
def lA (F : Md) : gH where
 D := qo × ((Ex × qo) ⊕ q8)
 av := fun d => [.ptr 0 []]
 hp := fun d => [.box 3 (.val qk d.1)]
 m := 1
 pre := fun d => rJ F d.1 = some d.2
 out := fun d => match d.2 with | .inl r => .ret (.val .expr r.1) [.box 3 (.val qk r.2)] | .inr p => .pan ⟨65, wi, p⟩ [.box 3 (.junk)]
abbrev uG (F : Md) : List (FuncId × aI) := [(49, (mI F)), (9, (pN F))]
theorem aEh [Mx] (F : Md) : bH Tryz.prog GL (uG F) := .cons (aCm F) xAa (.cons (aEI F) xAa (.nil))
theorem sY [Mx] (F : Md) : GOK Tryz.prog GL 100 (lA F) := by
 refine eO (aU (aEh F)) Tryz.func100 rfl xAa (fun _ => Nat.le_of_ble_eq_true rfl) fun c0 w0 d hw1 hw2 h hn => ?_
 have hF : gD ⟨Tryz.prog, EM (uG F), GM (lA F) c0 d, w0, Tryz.f100.ntmps, []⟩ := ⟨aU (aEh F), mix⟩
 obtain ⟨(o0_1 : qo), r⟩ := d
 replace h : rJ F o0_1 = some r := h
 have hw1 : AV.wfL [.ptr 0 []] := hw1
 simp only [AV.wfL, AV.wfV, Ty.wf, fG] at hw1
 show Tri _ _ _ [(0, .ptr 0 [])] [.box 3 (.val qk o0_1)]
 unfold rJ at h
 refine aB (aR hF [0, 2] (yaA ?_))
 refine aA (aB (aF hF [0, 2, 3] (yaA ?_)))
 obtain ⟨g0, h⟩ := aM h
 obtain ⟨g1, h⟩ := aM h
 repeat (refine ⟨zAA, ?_⟩)
 refine aA (aB (aF hF [0, 2, 3, 4] (yaA ?_)))
 obtain ⟨g0, h⟩ := aM h
 try simp only [I64, I32] at g0
 repeat (refine ⟨zAA, ?_⟩)
 refine aA (aB (aR hF [0, 2, 4, 5, 6, 7] (yaA ?_)))
 obtain ⟨g0, h⟩ := aM h
 repeat (refine ⟨zAA, ?_⟩)
 refine aA (aB (aB (aF hF [0, 2, 4, 5, 6, 33] (yaA ?_))))
 refine aA (bC rfl (fun hc => ?_) (fun hc => ?_))
 ·try simp only [go_sem] at hc
  have h := dP zAB h
  obtain ⟨g0, h⟩ := aM h
  try simp only [I64, I32] at g0
  obtain ⟨g1, h⟩ := aM h
  try simp only [I64, I32] at g1
  refine aC hF (aG (l := []) (.nil)) [0, 2, 5] [] (yaB ?_)
  exact zaH
 ·try simp only [go_sem] at hc
  have h := dQ zAB h
  refine bY (aA (aB (aR hF [2, 5] (yaA ?_))))
  refine aA (aB (aR hF [2] (yaA ?_)))
  exact zaS
attribute [go_sem] lA
def rK (F : Md) (o0_1 : qo) : Option ((qv × qo) ⊕ q8) :=
 (eB F o0_1).bind (fun e => match e with | .inl r_7 => ck (aQK r_7.1 (aS ⟨#[46]⟩)) (if (xJ r_7.1 (aS ⟨#[46]⟩)).2.2.1 = true then ck ((fC F (xJ r_7.1 (aS ⟨#[46]⟩)).1).isSome = true) (if ((xJ r_7.1 (aS ⟨#[46]⟩)).2.2.1 = true) ∧ (((fC F (xJ r_7.1 (aS ⟨#[46]⟩)).1).getD false) = true) then ck ((fC F (xJ r_7.1 (aS ⟨#[46]⟩)).2.1).isSome = true) ((dL F (((xJ r_7.1 (aS ⟨#[46]⟩)).2.2.1 && ((fC F (xJ r_7.1 (aS ⟨#[46]⟩)).1).getD false)) && ((fC F (xJ r_7.1 (aS ⟨#[46]⟩)).2.1).getD false)) r_7.2).bind (fun e => match e with | .inl r_21 => some (.inl (((xJ r_7.1 (aS ⟨#[46]⟩)).1, (xJ r_7.1 (aS ⟨#[46]⟩)).2.1, ()), r_21)) | .inr p_22 => some (.inr p_22))) else (dL F false r_7.2).bind (fun e => match e with | .inl r_23 => some (.inl (((xJ r_7.1 (aS ⟨#[46]⟩)).1, (xJ r_7.1 (aS ⟨#[46]⟩)).2.1, ()), r_23)) | .inr p_24 => some (.inr p_24))) else (dL F false r_7.2).bind (fun e => match e with | .inl r_25 => some (.inl (((xJ r_7.1 (aS ⟨#[46]⟩)).1, (xJ r_7.1 (aS ⟨#[46]⟩)).2.1, ()), r_25)) | .inr p_26 => some (.inr p_26))) | .inr p_8 => some (.inr p_8))
def lB (F : Md) : gH where
 D := qo × ((qv × qo) ⊕ q8)
 av := fun d => [.ptr 0 []]
 hp := fun d => [.box 3 (.val qk d.1)]
 m := 1
 pre := fun d => rK F d.1 = some d.2
 out := fun d => match d.2 with | .inl r => .ret (.tup [.val .str r.1.1, .val .str r.1.2.1]) [.box 3 (.val qk r.2)] | .inr p => .pan ⟨65, wi, p⟩ [.box 3 (.junk)]
abbrev uH (F : Md) : List (FuncId × aI) := [(25, nS), (78, (pL F))]
theorem aEi [Mx] (F : Md) : bH Tryz.prog GL (uH F) := .cons aDz xAa (.cons (aEE F) xAa (.nil))
theorem sZ [Mx] (F : Md) : GOK Tryz.prog GL 56 (lB F) := by
 refine eO (aU (aEi F)) Tryz.func56 rfl xAa (fun _ => Nat.le_of_ble_eq_true rfl) fun c0 w0 d hw1 hw2 h hn => ?_
 have hF : gD ⟨Tryz.prog, EM (uH F), GM (lB F) c0 d, w0, Tryz.f56.ntmps, []⟩ := ⟨aU (aEi F), mix⟩
 obtain ⟨(o0_1 : qo), r⟩ := d
 replace h : rK F o0_1 = some r := h
 have hw1 : AV.wfL [.ptr 0 []] := hw1
 simp only [AV.wfL, AV.wfV, Ty.wf, fG] at hw1
 show Tri _ _ _ [(0, .ptr 0 [])] [.box 3 (.val qk o0_1)]
 unfold rK at h
 refine aB (aF hF [0] (yaA ?_))
 obtain ⟨e, he1, h⟩ := bind_some h
 rcases e with r_7 | p_8
 ·try dsimp only at h
  obtain ⟨g0, h⟩ := aM h
  refine aA (aB (aC hF (aG (l := [(53, ⟨bM F, [0], (o0_1, .inl r_7)⟩)]) (.cons (bS F) xAa (.nil))) [0, 4, 5, 6] [] (yaB ?_)))
  by_cases hq : (xJ r_7.1 (aS ⟨#[46]⟩)).2.2.1 = true
  ·have h := dP hq h
   obtain ⟨g0, h⟩ := aM h
   by_cases hq : ((xJ r_7.1 (aS ⟨#[46]⟩)).2.2.1 = true) ∧ (((fC F (xJ r_7.1 (aS ⟨#[46]⟩)).1).getD false) = true)
   ·have h := dP hq h
    obtain ⟨g1, h⟩ := aM h
    obtain ⟨e, he2, h⟩ := bind_some h
    rcases e with r_21 | p_22
    ·try dsimp only at h
     refine aA (aB (aC hF (aG (l := [(54, ⟨bJ F, [0], ((((xJ r_7.1 (aS ⟨#[46]⟩)).2.2.1 && ((fC F (xJ r_7.1 (aS ⟨#[46]⟩)).1).getD false)) && ((fC F (xJ r_7.1 (aS ⟨#[46]⟩)).2.1).getD false)), r_7.2, .inl r_21)⟩)]) (.cons (bR F) xAa (.nil))) [4, 5] [] (yaB ?_)))
     refine ⟨fun _ => (yaD ?_), fun hx => by first | (exfalso; omega) | (exfalso; simp_all; done)⟩
     refine ⟨fun _ => (yaD ?_), fun hx => by first | (exfalso; omega) | (exfalso; simp_all; done)⟩
     refine ⟨fun _ => (yaD ?_), fun hx => by first | (exfalso; omega) | (exfalso; simp_all; done)⟩
     refine ⟨fun _ => (yaD ?_), fun hx => by first | (exfalso; omega) | (exfalso; simp_all; done)⟩
     refine aA (aB (aF hF [2, 3] (yaA ?_)))
     obtain rfl := Option.some.inj h
     refine aA (cA (eH hF [.tmp 2, .tmp 3] rfl rfl rfl rfl rfl rfl ?_))
     exact zaB
    ·try dsimp only at h
     refine aA (aB (aC hF (aG (l := [(54, ⟨bJ F, [0], ((((xJ r_7.1 (aS ⟨#[46]⟩)).2.2.1 && ((fC F (xJ r_7.1 (aS ⟨#[46]⟩)).1).getD false)) && ((fC F (xJ r_7.1 (aS ⟨#[46]⟩)).2.1).getD false)), r_7.2, .inr p_22)⟩)]) (.cons (bR F) xAa (.nil))) [4, 5] [] (yaB ?_)))
     refine ⟨fun _ => (yaD ?_), fun hx => by first | (exfalso; omega) | (exfalso; simp_all; done)⟩
     exact zau
   ·have h := dQ hq h
    obtain ⟨e, he3, h⟩ := bind_some h
    rcases e with r_23 | p_24
    ·try dsimp only at h
     refine aA (aB (aC hF (aG (l := [(54, ⟨bJ F, [0], (false, r_7.2, .inl r_23)⟩)]) (.cons (bR F) xAa (.nil))) [4, 5] [] (yaB ?_)))
     refine ⟨fun _ => (yaD ?_), fun hx => by first | (exfalso; omega) | (exfalso; simp_all; done)⟩
     refine ⟨fun _ => (yaD ?_), fun hx => by first | (exfalso; omega) | (exfalso; simp_all; done)⟩
     exact zae
    ·try dsimp only at h
     refine aA (aB (aC hF (aG (l := [(54, ⟨bJ F, [0], (false, r_7.2, .inr p_24)⟩)]) (.cons (bR F) xAa (.nil))) [4, 5] [] (yaB ?_)))
     refine ⟨fun _ => (yaD ?_), fun hx => by first | (exfalso; omega) | (exfalso; simp_all; done)⟩
     refine ⟨fun _ => (yaD ?_), fun hx => by first | (exfalso; omega) | (exfalso; simp_all; done)⟩
     exact zaQ
  ·have h := dQ hq h
   obtain ⟨e, he4, h⟩ := bind_some h
   rcases e with r_25 | p_26
   ·try dsimp only at h
    refine aA (aB (aC hF (aG (l := [(54, ⟨bJ F, [0], (false, r_7.2, .inl r_25)⟩)]) (.cons (bR F) xAa (.nil))) [4, 5] [] (yaB ?_)))
    first | (refine ⟨fun hx => by first | (exfalso; omega) | (exfalso; simp_all; done), fun _ => ?_⟩) | (with_reducible intro _) | skip
    repeat (refine ⟨zAA, ?_⟩)
    first | (refine ⟨fun hx => by first | (exfalso; omega) | (exfalso; simp_all; done), fun _ => ?_⟩) | (with_reducible intro _) | skip
    repeat (refine ⟨zAA, ?_⟩)
    exact zae
   ·try dsimp only at h
    refine aA (aB (aC hF (aG (l := [(54, ⟨bJ F, [0], (false, r_7.2, .inr p_26)⟩)]) (.cons (bR F) xAa (.nil))) [4, 5] [] (yaB ?_)))
    first | (refine ⟨fun hx => by first | (exfalso; omega) | (exfalso; simp_all; done), fun _ => ?_⟩) | (with_reducible intro _) | skip
    repeat (refine ⟨zAA, ?_⟩)
    first | (refine ⟨fun hx => by first | (exfalso; omega) | (exfalso; simp_all; done), fun _ => ?_⟩) | (with_reducible intro _) | skip
    repeat (refine ⟨zAA, ?_⟩)
    exact zaQ
 ·try dsimp only at h
  refine aA (aB (aC hF (aG (l := [(53, ⟨bM F, [0], (o0_1, .inr p_8)⟩)]) (.cons (bS F) xAa (.nil))) [0, 4, 5, 6] [] (yaB ?_)))
  exact zaL
attribute [go_sem] lB
end
end Nu
end Go.Proofs
namespace Go.Proofs
open Go.Vc
set_option maxRecDepth 20000
namespace Nu
noncomputable section
set_option maxHeartbeats 4000000
attribute [-go_sem] Ex.kind Ex.text Ex.l
def aCV (F : Md) (k_1 : Int) (o0_3 : qf) (o1_4 : qo) : Option ((qf × qo) ⊕ q8) :=
 if k_1 = (0 : Int) then (eW F (aS ⟨#[112, 114, 101, 99]⟩) o1_4).bind (fun e => match e with | .inl r_42 => (mK F r_42).bind (fun e => match e with | .inl r_44 => (dE F r_44.2).bind (fun e => match e with | .inl r_46 => some (.inl ((r_44.1, o0_3.2.1, o0_3.2.2.1, o0_3.2.2.2.1, o0_3.2.2.2.2.1, o0_3.2.2.2.2.2.1, o0_3.2.2.2.2.2.2.1, o0_3.2.2.2.2.2.2.2.1, o0_3.2.2.2.2.2.2.2.2.1, o0_3.2.2.2.2.2.2.2.2.2.1, ()), r_46)) | .inr p_47 => some (.inr p_47)) | .inr p_45 => some (.inr p_45)) | .inr p_43 => some (.inr p_43)) else if k_1 = (1 : Int) then (eW F (aS ⟨#[101, 110, 100]⟩) o1_4).bind (fun e => match e with | .inl r_52 => (fX F r_52).bind (fun e => match e with | .inl r_54 => (dE F r_54.2).bind (fun e => match e with | .inl r_56 => some (.inl ((o0_3.1, o0_3.2.1, o0_3.2.2.1, o0_3.2.2.2.1, r_54.1, o0_3.2.2.2.2.2.1, o0_3.2.2.2.2.2.2.1, o0_3.2.2.2.2.2.2.2.1, o0_3.2.2.2.2.2.2.2.2.1, o0_3.2.2.2.2.2.2.2.2.2.1, ()), r_56)) | .inr p_57 => some (.inr p_57)) | .inr p_55 => some (.inr p_55)) | .inr p_53 => some (.inr p_53)) else if k_1 = (2 : Int) then (eW F (aS ⟨#[115, 116, 101, 112]⟩) o1_4).bind (fun e => match e with | .inl r_62 => (fX F r_62).bind (fun e => match e with | .inl r_64 => (fX F r_64.2).bind (fun e => match e with | .inl r_65 => (dE F r_65.2).bind (fun e => match e with | .inl r_68 => some (.inl ((o0_3.1, o0_3.2.1, o0_3.2.2.1, o0_3.2.2.2.1, o0_3.2.2.2.2.1, r_64.1, r_65.1, o0_3.2.2.2.2.2.2.2.1, o0_3.2.2.2.2.2.2.2.2.1, o0_3.2.2.2.2.2.2.2.2.2.1, ()), r_68)) | .inr p_69 => some (.inr p_69)) | .inr p_66 => some (.inr p_66)) | .inr p_67 => some (.inr p_67)) | .inr p_63 => some (.inr p_63)) else if k_1 = (3 : Int) then (eW F (aS ⟨#[116, 111, 108]⟩) o1_4).bind (fun e => match e with | .inl r_74 => (fX F r_74).bind (fun e => match e with | .inl r_76 => (dE F r_76.2).bind (fun e => match e with | .inl r_78 => some (.inl ((o0_3.1, o0_3.2.1, o0_3.2.2.1, o0_3.2.2.2.1, o0_3.2.2.2.2.1, o0_3.2.2.2.2.2.1, o0_3.2.2.2.2.2.2.1, r_76.1, o0_3.2.2.2.2.2.2.2.2.1, o0_3.2.2.2.2.2.2.2.2.2.1, ()), r_78)) | .inr p_79 => some (.inr p_79)) | .inr p_77 => some (.inr p_77)) | .inr p_75 => some (.inr p_75)) else if k_1 = (4 : Int) then (eW F (aS ⟨#[116, 114, 105, 101, 115]⟩) o1_4).bind (fun e => match e with | .inl r_84 => (mK F r_84).bind (fun e => match e with | .inl r_86 => (dE F r_86.2).bind (fun e => match e with | .inl r_88 => some (.inl ((o0_3.1, r_86.1, o0_3.2.2.1, o0_3.2.2.2.1, o0_3.2.2.2.2.1, o0_3.2.2.2.2.2.1, o0_3.2.2.2.2.2.2.1, o0_3.2.2.2.2.2.2.2.1, o0_3.2.2.2.2.2.2.2.2.1, o0_3.2.2.2.2.2.2.2.2.2.1, ()), r_88)) | .inr p_89 => some (.inr p_89)) | .inr p_87 => some (.inr p_87)) | .inr p_85 => some (.inr p_85)) else if k_1 = (5 : Int) then (eW F (aS ⟨#[111, 114, 100, 101, 114]⟩) o1_4).bind (fun e => match e with | .inl r_94 => (mK F r_94).bind (fun e => match e with | .inl r_96 => (dE F r_96.2).bind (fun e => match e with | .inl r_98 => some (.inl ((o0_3.1, o0_3.2.1, r_96.1, o0_3.2.2.2.1, o0_3.2.2.2.2.1, o0_3.2.2.2.2.2.1, o0_3.2.2.2.2.2.2.1, o0_3.2.2.2.2.2.2.2.1, o0_3.2.2.2.2.2.2.2.2.1, o0_3.2.2.2.2.2.2.2.2.2.1, ()), r_98)) | .inr p_99 => some (.inr p_99)) | .inr p_97 => some (.inr p_97)) | .inr p_95 => some (.inr p_95)) else (eB F o1_4).bind (fun e => match e with | .inl r_104 => (dL F (aBA .str (zJ .str (zJ .str ([] : List wt) (aS ⟨#[106, 97, 99, 111, 98, 105]⟩) (1 : Int)) (aS ⟨#[115, 101, 105, 100, 101, 108]⟩) (2 : Int)) r_104.1).isSome r_104.2).bind (fun e => match e with | .inl r_110 => (dE F r_110).bind (fun e => match e with | .inl r_112 => some (.inl ((o0_3.1, o0_3.2.1, o0_3.2.2.1, ((aBA .str (zJ .str (zJ .str ([] : List wt) (aS ⟨#[106, 97, 99, 111, 98, 105]⟩) (1 : Int)) (aS ⟨#[115, 101, 105, 100, 101, 108]⟩) (2 : Int)) r_104.1).getD (0 : Int)), o0_3.2.2.2.2.1, o0_3.2.2.2.2.2.1, o0_3.2.2.2.2.2.2.1, o0_3.2.2.2.2.2.2.2.1, o0_3.2.2.2.2.2.2.2.2.1, o0_3.2.2.2.2.2.2.2.2.2.1, ()), r_112)) | .inr p_113 => some (.inr p_113)) | .inr p_111 => some (.inr p_111)) | .inr p_105 => some (.inr p_105))
def xO (F : Md) : gH where
 D := Int × qf × qo × ((qf × qo) ⊕ q8)
 av := fun d => [.ptr 0 [], .val qe d.1, .ptr 1 []]
 hp := fun d => [.box 10 (.agg [.val qe d.2.1.1, .val qe d.2.1.2.1, .val qe d.2.1.2.2.1, .val qe d.2.1.2.2.2.1, .val .str d.2.1.2.2.2.2.1, .val .str d.2.1.2.2.2.2.2.1, .val .str d.2.1.2.2.2.2.2.2.1, .val .str d.2.1.2.2.2.2.2.2.2.1, .own 2, .own 3]), .box 3 (.val qk d.2.2.1), .tre 53 qh qa d.2.1.2.2.2.2.2.2.2.2.1, .row 83 qs d.2.1.2.2.2.2.2.2.2.2.2.1]
 m := 2
 pre := fun d => aCV F d.1 d.2.1 d.2.2.1 = some d.2.2.2
 out := fun d => match d.2.2.2 with | .inl r => .ret (.tup []) [.box 10 (.agg [.val qe r.1.1, .val qe r.1.2.1, .val qe r.1.2.2.1, .val qe r.1.2.2.2.1, .val .str r.1.2.2.2.2.1, .val .str r.1.2.2.2.2.2.1, .val .str r.1.2.2.2.2.2.2.1, .val .str r.1.2.2.2.2.2.2.2.1, .own 2, .own 3]), .box 3 (.val qk r.2), .tre 53 qh qa r.1.2.2.2.2.2.2.2.2.1, .row 83 qs r.1.2.2.2.2.2.2.2.2.2.1] | .inr p => .pan ⟨65, wi, p⟩ [.box 10 (.junk), .box 3 (.junk)]
abbrev aK5 (F : Md) : List (FuncId × aI) := []
theorem aK6 [Mx] (F : Md) : bH Tryz.prog GL (aK5 F) := .nil
theorem aI7 [Mx] (F : Md) : GOK Tryz.prog GL 28 (xO F) := by
 refine eO (aM0 (aK6 F)) Tryz.func28 rfl xAa (fun _ => Nat.le_of_ble_eq_true rfl) fun c0 w0 d hw1 hw2 h hn => ?_
 have hF : gD ⟨Tryz.prog, EX (aK5 F), GM (xO F) c0 d, w0, Tryz.f28.ntmps, []⟩ := ⟨aM0 (aK6 F), mix⟩
 obtain ⟨(k_1 : Int), (o0_3 : qf), (o1_4 : qo), r⟩ := d
 replace h : aCV F k_1 o0_3 o1_4 = some r := h
 have hw1 : AV.wfL [.ptr 0 [], .val qe k_1, .ptr 1 []] := hw1
 simp only [AV.wfL, AV.wfV, Ty.wf, fG] at hw1
 show Tri _ _ _ [(0, .ptr 0 []), (1, .val qe k_1), (2, .ptr 1 [])] [.box 10 (.agg [.val qe o0_3.1, .val qe o0_3.2.1, .val qe o0_3.2.2.1, .val qe o0_3.2.2.2.1, .val .str o0_3.2.2.2.2.1, .val .str o0_3.2.2.2.2.2.1, .val .str o0_3.2.2.2.2.2.2.1, .val .str o0_3.2.2.2.2.2.2.2.1, .own 2, .own 3]), .box 3 (.val qk o1_4), .tre 53 qh qa o0_3.2.2.2.2.2.2.2.2.1, .row 83 qs o0_3.2.2.2.2.2.2.2.2.2.1]
 unfold aCV at h
 refine aB (aB (aF hF [0, 2, 8] (yaB ?_)))
 refine aA (dH (aB (aF hF [0, 2, 8, 24] (yaB ?_))))
 refine aA (bC rfl (fun hc => ?_) (fun hc => ?_))
 ·try simp only [go_sem] at hc
  have h := dP zAB h
  obtain ⟨e, he1, h⟩ := bind_some h
  rcases e with r_42 | p_43
  ·try dsimp only at h
   refine aB (aC hF (aG (l := [(50, ⟨bV F, [1], ((aS ⟨#[112, 114, 101, 99]⟩), o1_4, .inl r_42)⟩)]) (.cons (cG F) xAa (.nil))) [0, 2] [] (yaB ?_))
   obtain ⟨e, he2, h⟩ := bind_some h
   rcases e with r_44 | p_45
   ·try dsimp only at h
    refine aA (aC hF (aG (l := [(51, ⟨fW F, [1], (r_42, .inl r_44)⟩)]) (.cons (lI F) xAa (.nil))) [2] [] (yaB ?_))
    obtain ⟨e, he3, h⟩ := bind_some h
    rcases e with r_46 | p_47
    ·try dsimp only at h
     refine aZ (aA (aC hF (aG (l := [(55, ⟨bF F, [1], (r_44.2, .inl r_46)⟩)]) (.cons (bK F) xAa (.nil))) [] [] (yaB ?_)))
     exact zaO
    ·try dsimp only at h
     refine aZ (aA (aC hF (aG (l := [(55, ⟨bF F, [1], (r_44.2, .inr p_47)⟩)]) (.cons (bK F) xAa (.nil))) [] [] (yaB ?_)))
     exact zah
   ·try dsimp only at h
    refine aA (aC hF (aG (l := [(51, ⟨fW F, [1], (r_42, .inr p_45)⟩)]) (.cons (lI F) xAa (.nil))) [2] [] (yaB ?_))
    exact zad
  ·try dsimp only at h
   refine aB (aC hF (aG (l := [(50, ⟨bV F, [1], ((aS ⟨#[112, 114, 101, 99]⟩), o1_4, .inr p_43)⟩)]) (.cons (cG F) xAa (.nil))) [0, 2] [] (yaB ?_))
   exact zaT
 ·try simp only [go_sem] at hc
  have h := dQ zAB h
  refine aB (aF hF [0, 2, 8, 33] (yaB ?_))
  refine aA (bC rfl (fun hc => ?_) (fun hc => ?_))
  ·try simp only [go_sem] at hc
   have h := dP zAB h
   obtain ⟨e, he4, h⟩ := bind_some h
   rcases e with r_52 | p_53
   ·try dsimp only at h
    refine aB (aC hF (aG (l := [(50, ⟨bV F, [1], ((aS ⟨#[101, 110, 100]⟩), o1_4, .inl r_52)⟩)]) (.cons (cG F) xAa (.nil))) [0, 2] [] (yaB ?_))
    obtain ⟨e, he5, h⟩ := bind_some h
    rcases e with r_54 | p_55
    ·try dsimp only at h
     refine aA (aC hF (aG (l := [(52, ⟨eM F, [1], (r_52, .inl r_54)⟩)]) (.cons (iD F) xAa (.nil))) [2] [] (yaB ?_))
     obtain ⟨e, he6, h⟩ := bind_some h
     rcases e with r_56 | p_57
     ·try dsimp only at h
      refine aZ (aA (aC hF (aG (l := [(55, ⟨bF F, [1], (r_54.2, .inl r_56)⟩)]) (.cons (bK F) xAa (.nil))) [] [] (yaB ?_)))
      exact zaO
     ·try dsimp only at h
      refine aZ (aA (aC hF (aG (l := [(55, ⟨bF F, [1], (r_54.2, .inr p_57)⟩)]) (.cons (bK F) xAa (.nil))) [] [] (yaB ?_)))
      exact zah
    ·try dsimp only at h
     refine aA (aC hF (aG (l := [(52, ⟨eM F, [1], (r_52, .inr p_55)⟩)]) (.cons (iD F) xAa (.nil))) [2] [] (yaB ?_))
     exact zad
   ·try dsimp only at h
    refine aB (aC hF (aG (l := [(50, ⟨bV F, [1], ((aS ⟨#[101, 110, 100]⟩), o1_4, .inr p_53)⟩)]) (.cons (cG F) xAa (.nil))) [0, 2] [] (yaB ?_))
    exact zaT
  ·try simp only [go_sem] at hc
   have h := dQ zAB h
   refine aB (aF hF [0, 2, 8, 42] (yaB ?_))
   refine aA (bC rfl (fun hc => ?_) (fun hc => ?_))
   ·try simp only [go_sem] at hc
    have h := dP zAB h
    obtain ⟨e, he7, h⟩ := bind_some h
    rcases e with r_62 | p_63
    ·try dsimp only at h
     refine aB (aC hF (aG (l := [(50, ⟨bV F, [1], ((aS ⟨#[115, 116, 101, 112]⟩), o1_4, .inl r_62)⟩)]) (.cons (cG F) xAa (.nil))) [0, 2] [] (yaB ?_))
     obtain ⟨e, he8, h⟩ := bind_some h
     rcases e with r_64 | p_67
     ·try dsimp only at h
      obtain ⟨e, he9, h⟩ := bind_some h
      rcases e with r_65 | p_66
      ·try dsimp only at h
       refine aA (aC hF (aS9 (l := [(52, fun x => ⟨eM F, [1], ((aFT x 1 qk), (fX F (aFT x 1 qk)).getD (.inr (((0 : Int), (0 : Int), ()), ())))⟩)]) (.cons (fun _ => (iD F)) xAa (.nil))) [2] [] ?_)
       simp only [Option.getD_some, he8, he9, go_sem]
       repeat (refine ⟨zAA, ?_⟩)
       obtain ⟨e, he10, h⟩ := bind_some h
       rcases e with r_68 | p_69
       ·try dsimp only at h
        refine aZ (aA (aC hF (aG (l := [(55, ⟨bF F, [1], (r_65.2, .inl r_68)⟩)]) (.cons (bK F) xAa (.nil))) [] [] (yaB ?_)))
        exact zaO
       ·try dsimp only at h
        refine aZ (aA (aC hF (aG (l := [(55, ⟨bF F, [1], (r_65.2, .inr p_69)⟩)]) (.cons (bK F) xAa (.nil))) [] [] (yaB ?_)))
        exact zah
      ·try dsimp only at h
       refine aA (aC hF (aS9 (l := [(52, fun x => ⟨eM F, [1], ((aFT x 1 qk), (fX F (aFT x 1 qk)).getD (.inr (((0 : Int), (0 : Int), ()), ())))⟩)]) (.cons (fun _ => (iD F)) xAa (.nil))) [2] [] ?_)
       simp only [Option.getD_some, he8, he9, go_sem]
       repeat (refine ⟨zAA, ?_⟩)
       exact zad
     ·try dsimp only at h
      refine aA (aC hF (aG (l := [(52, ⟨eM F, [1], (r_62, .inr p_67)⟩)]) (.cons (iD F) xAa (.nil))) [2] [] (yaB ?_))
      exact zad
    ·try dsimp only at h
     refine aB (aC hF (aG (l := [(50, ⟨bV F, [1], ((aS ⟨#[115, 116, 101, 112]⟩), o1_4, .inr p_63)⟩)]) (.cons (cG F) xAa (.nil))) [0, 2] [] (yaB ?_))
     exact zaT
   ·try simp only [go_sem] at hc
    have h := dQ zAB h
    refine aB (aF hF [0, 2, 8, 56] (yaB ?_))
    refine aA (bC rfl (fun hc => ?_) (fun hc => ?_))
    ·try simp only [go_sem] at hc
     have h := dP zAB h
     obtain ⟨e, he11, h⟩ := bind_some h
     rcases e with r_74 | p_75
     ·try dsimp only at h
      refine aB (aC hF (aG (l := [(50, ⟨bV F, [1], ((aS ⟨#[116, 111, 108]⟩), o1_4, .inl r_74)⟩)]) (.cons (cG F) xAa (.nil))) [0, 2] [] (yaB ?_))
      obtain ⟨e, he12, h⟩ := bind_some h
      rcases e with r_76 | p_77
      ·try dsimp only at h
       refine aA (aC hF (aG (l := [(52, ⟨eM F, [1], (r_74, .inl r_76)⟩)]) (.cons (iD F) xAa (.nil))) [2] [] (yaB ?_))
       obtain ⟨e, he13, h⟩ := bind_some h
       rcases e with r_78 | p_79
       ·try dsimp only at h
        refine aZ (aA (aC hF (aG (l := [(55, ⟨bF F, [1], (r_76.2, .inl r_78)⟩)]) (.cons (bK F) xAa (.nil))) [] [] (yaB ?_)))
        exact zaO
       ·try dsimp only at h
        refine aZ (aA (aC hF (aG (l := [(55, ⟨bF F, [1], (r_76.2, .inr p_79)⟩)]) (.cons (bK F) xAa (.nil))) [] [] (yaB ?_)))
        exact zah
      ·try dsimp only at h
       refine aA (aC hF (aG (l := [(52, ⟨eM F, [1], (r_74, .inr p_77)⟩)]) (.cons (iD F) xAa (.nil))) [2] [] (yaB ?_))
       exact zad
     ·try dsimp only at h
      refine aB (aC hF (aG (l := [(50, ⟨bV F, [1], ((aS ⟨#[116, 111, 108]⟩), o1_4, .inr p_75)⟩)]) (.cons (cG F) xAa (.nil))) [0, 2] [] (yaB ?_))
      exact zaT
    ·try simp only [go_sem] at hc
     have h := dQ zAB h
     refine aB (aF hF [0, 2, 8, 65] (yaB ?_))
     refine aA (bC rfl (fun hc => ?_) (fun hc => ?_))
     ·try simp only [go_sem] at hc
      have h := dP zAB h
      obtain ⟨e, he14, h⟩ := bind_some h
      rcases e with r_84 | p_85
      ·try dsimp only at h
       refine aB (aC hF (aG (l := [(50, ⟨bV F, [1], ((aS ⟨#[116, 114, 105, 101, 115]⟩), o1_4, .inl r_84)⟩)]) (.cons (cG F) xAa (.nil))) [0, 2] [] (yaB ?_))
       obtain ⟨e, he15, h⟩ := bind_some h
       rcases e with r_86 | p_87
       ·try dsimp only at h
        refine aA (aC hF (aG (l := [(51, ⟨fW F, [1], (r_84, .inl r_86)⟩)]) (.cons (lI F) xAa (.nil))) [2] [] (yaB ?_))
        obtain ⟨e, he16, h⟩ := bind_some h
        rcases e with r_88 | p_89
        ·try dsimp only at h
         refine aZ (aA (aC hF (aG (l := [(55, ⟨bF F, [1], (r_86.2, .inl r_88)⟩)]) (.cons (bK F) xAa (.nil))) [] [] (yaB ?_)))
         exact zaO
        ·try dsimp only at h
         refine aZ (aA (aC hF (aG (l := [(55, ⟨bF F, [1], (r_86.2, .inr p_89)⟩)]) (.cons (bK F) xAa (.nil))) [] [] (yaB ?_)))
         exact zah
       ·try dsimp only at h
        refine aA (aC hF (aG (l := [(51, ⟨fW F, [1], (r_84, .inr p_87)⟩)]) (.cons (lI F) xAa (.nil))) [2] [] (yaB ?_))
        exact zad
      ·try dsimp only at h
       refine aB (aC hF (aG (l := [(50, ⟨bV F, [1], ((aS ⟨#[116, 114, 105, 101, 115]⟩), o1_4, .inr p_85)⟩)]) (.cons (cG F) xAa (.nil))) [0, 2] [] (yaB ?_))
       exact zaT
     ·try simp only [go_sem] at hc
      have h := dQ zAB h
      refine aB (aF hF [0, 2, 74] (yaB ?_))
      refine aA (bC rfl (fun hc => ?_) (fun hc => ?_))
      ·try simp only [go_sem] at hc
       have h := dP zAB h
       obtain ⟨e, he17, h⟩ := bind_some h
       rcases e with r_94 | p_95
       ·try dsimp only at h
        refine aB (aC hF (aG (l := [(50, ⟨bV F, [1], ((aS ⟨#[111, 114, 100, 101, 114]⟩), o1_4, .inl r_94)⟩)]) (.cons (cG F) xAa (.nil))) [0, 2] [] (yaB ?_))
        obtain ⟨e, he18, h⟩ := bind_some h
        rcases e with r_96 | p_97
        ·try dsimp only at h
         refine aA (aC hF (aG (l := [(51, ⟨fW F, [1], (r_94, .inl r_96)⟩)]) (.cons (lI F) xAa (.nil))) [2] [] (yaB ?_))
         obtain ⟨e, he19, h⟩ := bind_some h
         rcases e with r_98 | p_99
         ·try dsimp only at h
          refine aZ (aA (aC hF (aG (l := [(55, ⟨bF F, [1], (r_96.2, .inl r_98)⟩)]) (.cons (bK F) xAa (.nil))) [] [] (yaB ?_)))
          exact zaO
         ·try dsimp only at h
          refine aZ (aA (aC hF (aG (l := [(55, ⟨bF F, [1], (r_96.2, .inr p_99)⟩)]) (.cons (bK F) xAa (.nil))) [] [] (yaB ?_)))
          exact zah
        ·try dsimp only at h
         refine aA (aC hF (aG (l := [(51, ⟨fW F, [1], (r_94, .inr p_97)⟩)]) (.cons (lI F) xAa (.nil))) [2] [] (yaB ?_))
         exact zad
       ·try dsimp only at h
        refine aB (aC hF (aG (l := [(50, ⟨bV F, [1], ((aS ⟨#[111, 114, 100, 101, 114]⟩), o1_4, .inr p_95)⟩)]) (.cons (cG F) xAa (.nil))) [0, 2] [] (yaB ?_))
        exact zaT
      ·try simp only [go_sem] at hc
       have h := dQ zAB h
       obtain ⟨e, he20, h⟩ := bind_some h
       rcases e with r_104 | p_105
       ·try dsimp only at h
        refine aB (aC hF (aG (l := [(53, ⟨bM F, [1], (o1_4, .inl r_104)⟩)]) (.cons (bS F) xAa (.nil))) [0, 2, 6, 7] [] (yaB ?_))
        obtain ⟨e, he21, h⟩ := bind_some h
        rcases e with r_110 | p_111
        ·try dsimp only at h
         refine aA (aB (aC hF (aG (l := [(54, ⟨bJ F, [1], ((aBA .str (zJ .str (zJ .str ([] : List wt) (aS ⟨#[106, 97, 99, 111, 98, 105]⟩) (1 : Int)) (aS ⟨#[115, 101, 105, 100, 101, 108]⟩) (2 : Int)) r_104.1).isSome, r_104.2, .inl r_110)⟩)]) (.cons (bR F) xAa (.nil))) [0, 2, 6] [] (yaB ?_)))
         refine aA (aR hF [2] (yaB ?_))
         obtain ⟨e, he22, h⟩ := bind_some h
         rcases e with r_112 | p_113
         ·try dsimp only at h
          refine aZ (aA (aC hF (aG (l := [(55, ⟨bF F, [1], (r_110, .inl r_112)⟩)]) (.cons (bK F) xAa (.nil))) [] [] (yaB ?_)))
          obtain rfl := Option.some.inj h
          refine gQ (iB [0, 1, 2, 3] rfl rfl (yaC ?_))
          exact zak
         ·try dsimp only at h
          refine aZ (aA (aC hF (aG (l := [(55, ⟨bF F, [1], (r_110, .inr p_113)⟩)]) (.cons (bK F) xAa (.nil))) [] [] (yaB ?_)))
          exact zah
        ·try dsimp only at h
         refine aA (aB (aC hF (aG (l := [(54, ⟨bJ F, [1], ((aBA .str (zJ .str (zJ .str ([] : List wt) (aS ⟨#[106, 97, 99, 111, 98, 105]⟩) (1 : Int)) (aS ⟨#[115, 101, 105, 100, 101, 108]⟩) (2 : Int)) r_104.1).isSome, r_104.2, .inr p_111)⟩)]) (.cons (bR F) xAa (.nil))) [0, 2, 6] [] (yaB ?_)))
         exact zaT
       ·try dsimp only at h
        refine aB (aC hF (aG (l := [(53, ⟨bM F, [1], (o1_4, .inr p_105)⟩)]) (.cons (bS F) xAa (.nil))) [0, 2, 6, 7] [] (yaB ?_))
        exact zaT
attribute [go_sem] xO
def aCW (F : Md) (ox0_2 : ww) (ok0_2 : Nat) (o0_2 : qc) (o1_3 : qo) : Option ((qc × qo) ⊕ q8) :=
 (eB F o1_3).bind (fun e => match e with | .inl r_41 => if r_41.1 = (aS ⟨#[115, 116, 97, 116, 101]⟩) then (kD F r_41.2).bind (fun e => match e with | .inl r_47 => (eW F (aS ⟨#[61]⟩) r_47.2).bind (fun e => match e with | .inl r_53 => (rI F r_53).bind (fun e => match e with | .inl r_59 => (eW F (aS ⟨#[100, 101, 114]⟩) r_59.2).bind (fun e => match e with | .inl r_65 => (rJ F r_65).bind (fun e => match e with | .inl r_71 => ck (((o0_2.2.1.length) + (1 : Nat)) * 145 ≤ 140737488355328) ((dE F r_71.2).bind (fun e => match e with | .inl r_73 => some (.inl ((o0_2.1, (o0_2.2.1 ++ ([(r_47.1, r_59.1, r_71.1, ())] : List wa)), o0_2.2.2.1, o0_2.2.2.2.1, o0_2.2.2.2.2.1, ()), r_73)) | .inr p_74 => some (.inr p_74))) | .inr p_72 => some (.inr p_72)) | .inr p_66 => some (.inr p_66)) | .inr p_60 => some (.inr p_60)) | .inr p_54 => some (.inr p_54)) | .inr p_48 => some (.inr p_48)) else if r_41.1 = (aS ⟨#[112, 97, 114]⟩) then (kD F r_41.2).bind (fun e => match e with | .inl r_79 => (eW F (aS ⟨#[61]⟩) r_79.2).bind (fun e => match e with | .inl r_85 => (rI F r_85).bind (fun e => match e with | .inl r_91 => ck (((o0_2.2.2.1.length) + (1 : Nat)) * 73 ≤ 140737488355328) ((dE F r_91.2).bind (fun e => match e with | .inl r_93 => some (.inl ((o0_2.1, o0_2.2.1, (o0_2.2.2.1 ++ ([(r_79.1, r_91.1, ())] : List wc)), o0_2.2.2.2.1, o0_2.2.2.2.2.1, ()), r_93)) | .inr p_94 => some (.inr p_94))) | .inr p_92 => some (.inr p_92)) | .inr p_86 => some (.inr p_86)) | .inr p_80 => some (.inr p_80)) else if r_41.1 = (aS ⟨#[105, 110]⟩) then (kD F r_41.2).bind (fun e => match e with | .inl r_95 => ck (((o0_2.2.2.2.1.length) + (1 : Nat)) * 16 ≤ 140737488355328) ((dE F r_95.2).bind (fun e => match e with | .inl r_97 => some (.inl ((o0_2.1, o0_2.2.1, o0_2.2.2.1, (o0_2.2.2.2.1 ++ ([r_95.1] : List qd)), o0_2.2.2.2.2.1, ()), r_97)) | .inr p_98 => some (.inr p_98))) | .inr p_96 => some (.inr p_96)) else if r_41.1 = (aS ⟨#[111, 117, 116]⟩) then (kD F r_41.2).bind (fun e => match e with | .inl r_103 => (eW F (aS ⟨#[61]⟩) r_103.2).bind (fun e => match e with | .inl r_109 => (rJ F r_109).bind (fun e => match e with | .inl r_115 => ck (((o0_2.2.2.2.2.1.length) + (1 : Nat)) * 97 ≤ 140737488355328) ((dE F r_115.2).bind (fun e => match e with | .inl r_117 => some (.inl ((o0_2.1, o0_2.2.1, o0_2.2.2.1, o0_2.2.2.2.1, (o0_2.2.2.2.2.1 ++ ([(r_103.1, r_115.1, ())] : List qz)), ()), r_117)) | .inr p_118 => some (.inr p_118))) | .inr p_116 => some (.inr p_116)) | .inr p_110 => some (.inr p_110)) | .inr p_104 => some (.inr p_104)) else (mC F r_41.2).bind (fun e => match e with | .inl r_119 => (dE F r_119).bind (fun e => match e with | .inl r_121 => some (.inl ((o0_2.1, o0_2.2.1, o0_2.2.2.1, o0_2.2.2.2.1, o0_2.2.2.2.2.1, ()), r_121)) | .inr p_122 => some (.inr p_122)) | .inr p_120 => some (.inr p_120)) | .inr p_42 => some (.inr p_42))
def xP (F : Md) : gH where
 D := ww × Nat × qc × qo × ((qc × qo) ⊕ q8)
 av := fun d => [.ptr 0 [.idx 5 d.2.1], .ptr 1 []]
 hp := fun d => [.trh 53 qh qa d.1 d.2.1 (.agg [.val .str d.2.2.1.1, .own 2, .own 3, .own 4, .own 5]), .box 3 (.val qk d.2.2.2.1), .row 87 qq d.2.2.1.2.1, .row 123 qu d.2.2.1.2.2.1, .row 9 .str d.2.2.1.2.2.2.1, .row 89 qr d.2.2.1.2.2.2.2.1]
 m := 2
 pre := fun d => aCW F d.1 d.2.1 d.2.2.1 d.2.2.2.1 = some d.2.2.2.2
 out := fun d => match d.2.2.2.2 with | .inl r => .ret (.tup []) [.trh 53 qh qa d.1 d.2.1 (.agg [.val .str r.1.1, .own 2, .own 3, .own 4, .own 5]), .box 3 (.val qk r.2), .row 87 qq r.1.2.1, .row 123 qu r.1.2.2.1, .row 9 .str r.1.2.2.2.1, .row 89 qr r.1.2.2.2.2.1] | .inr p => .pan ⟨65, wi, p⟩ [.dead, .box 3 (.junk)]
abbrev aK7 (F : Md) : List (FuncId × aI) := []
theorem aK8 [Mx] (F : Md) : bH Tryz.prog GL (aK7 F) := .nil
theorem aI8 [Mx] (F : Md) : GOK Tryz.prog GL 59 (xP F) := by
 refine eO (aM0 (aK8 F)) Tryz.func59 rfl xAa (fun _ => Nat.le_of_ble_eq_true rfl) fun c0 w0 d hw1 hw2 h hn => ?_
 have hF : gD ⟨Tryz.prog, EX (aK7 F), GM (xP F) c0 d, w0, Tryz.f59.ntmps, []⟩ := ⟨aM0 (aK8 F), mix⟩
 obtain ⟨(ox0_2 : ww), (ok0_2 : Nat), (o0_2 : qc), (o1_3 : qo), r⟩ := d
 replace h : aCW F ox0_2 ok0_2 o0_2 o1_3 = some r := h
 have hw1 : AV.wfL [.ptr 0 [.idx 5 ok0_2], .ptr 1 []] := hw1
 simp only [AV.wfL, AV.wfV, Ty.wf, fG] at hw1
 show Tri _ _ _ [(0, .ptr 0 [.idx 5 ok0_2]), (1, .ptr 1 [])] [.trh 53 qh qa ox0_2 ok0_2 (.agg [.val .str o0_2.1, .own 2, .own 3, .own 4, .own 5]), .box 3 (.val qk o1_3), .row 87 qq o0_2.2.1, .row 123 qu o0_2.2.2.1, .row 9 .str o0_2.2.2.2.1, .row 89 qr o0_2.2.2.2.2.1]
 unfold aCW at h
 obtain ⟨e, he1, h⟩ := bind_some h
 rcases e with r_41 | p_42
 ·try dsimp only at h
  refine aB (aB (aC hF (aG (l := [(53, ⟨bM F, [1], (o1_3, .inl r_41)⟩)]) (.cons (bS F) xAa (.nil))) [0, 1, 8] [] (yaB ?_)))
  refine aA (dH (aB (aF hF [0, 1, 8, 11] (yaB ?_))))
  refine aA (bC rfl (fun hc => ?_) (fun hc => ?_))
  ·try simp only [go_sem] at hc
   have h := dP zAB h
   obtain ⟨e, he2, h⟩ := bind_some h
   rcases e with r_47 | p_48
   ·try dsimp only at h
    refine aB (aC hF (aG (l := [(58, ⟨eD F, [1], (r_41.2, .inl r_47)⟩)]) (.cons (gA F) xAa (.nil))) [0, 1, 4] [] (yaB ?_))
    obtain ⟨e, he3, h⟩ := bind_some h
    rcases e with r_53 | p_54
    ·try dsimp only at h
     refine aA (aB (aC hF (aG (l := [(50, ⟨bV F, [1], ((aS ⟨#[61]⟩), r_47.2, .inl r_53)⟩)]) (.cons (cG F) xAa (.nil))) [0, 1, 4] [] (yaB ?_)))
     obtain ⟨e, he4, h⟩ := bind_some h
     rcases e with r_59 | p_60
     ·try dsimp only at h
      refine aA (aB (aC hF (aG (l := [(99, ⟨kZ F, [1], (r_53, .inl r_59)⟩)]) (.cons (sX F) xAa (.nil))) [0, 1, 4] [] (yaB ?_)))
      obtain ⟨e, he5, h⟩ := bind_some h
      rcases e with r_65 | p_66
      ·try dsimp only at h
       refine aA (aB (aC hF (aG (l := [(50, ⟨bV F, [1], ((aS ⟨#[100, 101, 114]⟩), r_59.2, .inl r_65)⟩)]) (.cons (cG F) xAa (.nil))) [0, 1, 4] [] (yaB ?_)))
       obtain ⟨e, he6, h⟩ := bind_some h
       rcases e with r_71 | p_72
       ·try dsimp only at h
        refine aA (aB (aC hF (aG (l := [(100, ⟨lA F, [1], (r_65, .inl r_71)⟩)]) (.cons (sY F) xAa (.nil))) [0, 1, 4] [] (yaB ?_)))
        obtain ⟨g0, h⟩ := aM h
        refine aA (aDV hF [1] [6, 7, 10] [[0], [0], [27], [28], [29], [4], [31], [30, 32], [26], [34], [33, 35]] [(0, 0), (0, 1), (0, 2), (1, 0), (1, 1), (1, 2), (2, 0), (2, 1), (2, 2), (3, 0), (3, 1), (3, 2), (4, 0), (4, 1), (5, 0), (6, 0), (7, 1), (8, 2), (8, 3), (9, 2), (10, 2)] [.ptr 0 [.idx 5 ok0_2], .ptr 0 [.idx 5 ok0_2], .ptr 0 [.idx 5 ok0_2], .ptr 0 [.idx 5 ok0_2, .fld 1 1], .own 2, .val qq (r_47.1, r_59.1, r_71.1, ()), .own 7, .own 8, .ptr 0 [.idx 5 ok0_2], .ptr 0 [.idx 5 ok0_2, .fld 1 1], .junk] [[.trh 53 qh qa ox0_2 ok0_2 (.agg [.val .str o0_2.1, .own 2, .own 3, .own 4, .own 5]), .box 3 (.val qk r_71.2), .row 87 qq o0_2.2.1, .row 123 qu o0_2.2.2.1, .row 9 .str o0_2.2.2.2.1, .row 89 qr o0_2.2.2.2.2.1, .box 6 (.val qq (r_47.1, r_59.1, r_71.1, ()))], [.trh 53 qh qa ox0_2 ok0_2 (.agg [.val .str o0_2.1, .own 2, .own 3, .own 4, .own 5]), .box 3 (.val qk r_71.2), .row 87 qq o0_2.2.1, .row 123 qu o0_2.2.2.1, .row 9 .str o0_2.2.2.2.1, .row 89 qr o0_2.2.2.2.2.1, .box 6 (.val qq (r_47.1, r_59.1, r_71.1, ())), .row 87 qq ([(r_47.1, r_59.1, r_71.1, ())] : List wa)], [.trh 53 qh qa ox0_2 ok0_2 (.agg [.val .str o0_2.1, .own 2, .own 3, .own 4, .own 5]), .box 3 (.val qk r_71.2), .dead, .row 123 qu o0_2.2.2.1, .row 9 .str o0_2.2.2.2.1, .row 89 qr o0_2.2.2.2.2.1, .box 6 (.val qq (r_47.1, r_59.1, r_71.1, ())), .dead, .row 87 qq (o0_2.2.1 ++ ([(r_47.1, r_59.1, r_71.1, ())] : List wa))], [.trh 53 qh qa ox0_2 ok0_2 (.agg [.val .str o0_2.1, .own 8, .own 3, .own 4, .own 5]), .box 3 (.val qk r_71.2), .dead, .row 123 qu o0_2.2.2.1, .row 9 .str o0_2.2.2.2.1, .row 89 qr o0_2.2.2.2.2.1, .box 6 (.val qq (r_47.1, r_59.1, r_71.1, ())), .dead, .row 87 qq (o0_2.2.1 ++ ([(r_47.1, r_59.1, r_71.1, ())] : List wa))]] [[(0, .ptr 0 [.idx 5 ok0_2])], [(0, .ptr 0 [.idx 5 ok0_2])], [(27, .ptr 0 [.idx 5 ok0_2])], [(28, .ptr 0 [.idx 5 ok0_2])], [(29, .ptr 0 [.idx 5 ok0_2, .fld 1 1])], [(4, .ptr 6 [])], [(31, .val qq (r_47.1, r_59.1, r_71.1, ()))], [(30, .own 2), (32, .own 7)], [(26, .ptr 0 [.idx 5 ok0_2])], [(34, .ptr 0 [.idx 5 ok0_2])], [(33, .own 8), (35, .ptr 0 [.idx 5 ok0_2, .fld 1 1])]] xAc rfl rfl ?_ ?_)
        ·simp only [go_sem]
         exact zaJ
        show At _ _ [(1, .ptr 1 [])] [.trh 53 qh qa ox0_2 ok0_2 (.agg [.val .str o0_2.1, .own 8, .own 3, .own 4, .own 5]), .box 3 (.val qk r_71.2), .dead, .row 123 qu o0_2.2.2.1, .row 9 .str o0_2.2.2.2.1, .row 89 qr o0_2.2.2.2.2.1, .box 6 (.val qq (r_47.1, r_59.1, r_71.1, ())), .dead, .row 87 qq (o0_2.2.1 ++ ([(r_47.1, r_59.1, r_71.1, ())] : List wa))]
        obtain ⟨e, he7, h⟩ := bind_some h
        rcases e with r_73 | p_74
        ·try dsimp only at h
         refine aZ (aA (aC hF (aG (l := [(55, ⟨bF F, [1], (r_71.2, .inl r_73)⟩)]) (.cons (bK F) xAa (.nil))) [] [] (yaB ?_)))
         obtain rfl := Option.some.inj h
         refine gQ (iB [0, 1, 8, 3, 4, 5] rfl rfl (yaC ?_))
         exact zak
        ·try dsimp only at h
         refine aZ (aA (aC hF (aG (l := [(55, ⟨bF F, [1], (r_71.2, .inr p_74)⟩)]) (.cons (bK F) xAa (.nil))) [] [] (yaB ?_)))
         exact zav
       ·try dsimp only at h
        refine aA (aB (aC hF (aG (l := [(100, ⟨lA F, [1], (r_65, .inr p_72)⟩)]) (.cons (sY F) xAa (.nil))) [0, 1, 4] [] (yaB ?_)))
        exact zaM
      ·try dsimp only at h
       refine aA (aB (aC hF (aG (l := [(50, ⟨bV F, [1], ((aS ⟨#[100, 101, 114]⟩), r_59.2, .inr p_66)⟩)]) (.cons (cG F) xAa (.nil))) [0, 1, 4] [] (yaB ?_)))
       exact zaM
     ·try dsimp only at h
      refine aA (aB (aC hF (aG (l := [(99, ⟨kZ F, [1], (r_53, .inr p_60)⟩)]) (.cons (sX F) xAa (.nil))) [0, 1, 4] [] (yaB ?_)))
      exact zaM
    ·try dsimp only at h
     refine aA (aB (aC hF (aG (l := [(50, ⟨bV F, [1], ((aS ⟨#[61]⟩), r_47.2, .inr p_54)⟩)]) (.cons (cG F) xAa (.nil))) [0, 1, 4] [] (yaB ?_)))
     exact zaM
   ·try dsimp only at h
    refine aB (aC hF (aG (l := [(58, ⟨eD F, [1], (r_41.2, .inr p_48)⟩)]) (.cons (gA F) xAa (.nil))) [0, 1, 4] [] (yaB ?_))
    exact zaM
  ·try simp only [go_sem] at hc
   have h := dQ zAB h
   refine aB (aF hF [0, 1, 8, 36] (yaB ?_))
   refine aA (bC rfl (fun hc => ?_) (fun hc => ?_))
   ·try simp only [go_sem] at hc
    have h := dP zAB h
    obtain ⟨e, he8, h⟩ := bind_some h
    rcases e with r_79 | p_80
    ·try dsimp only at h
     refine aB (aC hF (aG (l := [(58, ⟨eD F, [1], (r_41.2, .inl r_79)⟩)]) (.cons (gA F) xAa (.nil))) [0, 1, 5] [] (yaB ?_))
     obtain ⟨e, he9, h⟩ := bind_some h
     rcases e with r_85 | p_86
     ·try dsimp only at h
      refine aA (aB (aC hF (aG (l := [(50, ⟨bV F, [1], ((aS ⟨#[61]⟩), r_79.2, .inl r_85)⟩)]) (.cons (cG F) xAa (.nil))) [0, 1, 5] [] (yaB ?_)))
      obtain ⟨e, he10, h⟩ := bind_some h
      rcases e with r_91 | p_92
      ·try dsimp only at h
       refine aA (aB (aC hF (aG (l := [(99, ⟨kZ F, [1], (r_85, .inl r_91)⟩)]) (.cons (sX F) xAa (.nil))) [0, 1, 5] [] (yaB ?_)))
       obtain ⟨g0, h⟩ := aM h
       refine aA (aDV hF [1] [6, 7, 10] [[0], [0], [47], [48], [49], [5], [51], [50, 52], [46], [54], [53, 55]] [(0, 0), (0, 1), (0, 2), (1, 0), (1, 1), (1, 2), (2, 0), (2, 1), (2, 2), (3, 0), (3, 1), (3, 2), (4, 0), (4, 1), (5, 0), (6, 0), (7, 1), (8, 2), (8, 3), (9, 2), (10, 2)] [.ptr 0 [.idx 5 ok0_2], .ptr 0 [.idx 5 ok0_2], .ptr 0 [.idx 5 ok0_2], .ptr 0 [.idx 5 ok0_2, .fld 2 2], .own 3, .val qu (r_79.1, r_91.1, ()), .own 7, .own 8, .ptr 0 [.idx 5 ok0_2], .ptr 0 [.idx 5 ok0_2, .fld 2 2], .junk] [[.trh 53 qh qa ox0_2 ok0_2 (.agg [.val .str o0_2.1, .own 2, .own 3, .own 4, .own 5]), .box 3 (.val qk r_91.2), .row 87 qq o0_2.2.1, .row 123 qu o0_2.2.2.1, .row 9 .str o0_2.2.2.2.1, .row 89 qr o0_2.2.2.2.2.1, .box 3 (.val qu (r_79.1, r_91.1, ()))], [.trh 53 qh qa ox0_2 ok0_2 (.agg [.val .str o0_2.1, .own 2, .own 3, .own 4, .own 5]), .box 3 (.val qk r_91.2), .row 87 qq o0_2.2.1, .row 123 qu o0_2.2.2.1, .row 9 .str o0_2.2.2.2.1, .row 89 qr o0_2.2.2.2.2.1, .box 3 (.val qu (r_79.1, r_91.1, ())), .row 123 qu ([(r_79.1, r_91.1, ())] : List wc)], [.trh 53 qh qa ox0_2 ok0_2 (.agg [.val .str o0_2.1, .own 2, .own 3, .own 4, .own 5]), .box 3 (.val qk r_91.2), .row 87 qq o0_2.2.1, .dead, .row 9 .str o0_2.2.2.2.1, .row 89 qr o0_2.2.2.2.2.1, .box 3 (.val qu (r_79.1, r_91.1, ())), .row 123 qu ([(r_79.1, r_91.1, ())] : List wc), .row 123 qu (o0_2.2.2.1 ++ ([(r_79.1, r_91.1, ())] : List wc))], [.trh 53 qh qa ox0_2 ok0_2 (.agg [.val .str o0_2.1, .own 2, .own 8, .own 4, .own 5]), .box 3 (.val qk r_91.2), .row 87 qq o0_2.2.1, .dead, .row 9 .str o0_2.2.2.2.1, .row 89 qr o0_2.2.2.2.2.1, .box 3 (.val qu (r_79.1, r_91.1, ())), .row 123 qu ([(r_79.1, r_91.1, ())] : List wc), .row 123 qu (o0_2.2.2.1 ++ ([(r_79.1, r_91.1, ())] : List wc))]] [[(0, .ptr 0 [.idx 5 ok0_2])], [(0, .ptr 0 [.idx 5 ok0_2])], [(47, .ptr 0 [.idx 5 ok0_2])], [(48, .ptr 0 [.idx 5 ok0_2])], [(49, .ptr 0 [.idx 5 ok0_2, .fld 2 2])], [(5, .ptr 6 [])], [(51, .val qu (r_79.1, r_91.1, ()))], [(50, .own 3), (52, .own 7)], [(46, .ptr 0 [.idx 5 ok0_2])], [(54, .ptr 0 [.idx 5 ok0_2])], [(53, .own 8), (55, .ptr 0 [.idx 5 ok0_2, .fld 2 2])]] xAc rfl rfl ?_ ?_)
       ·simp only [go_sem]
        exact zaJ
       show At _ _ [(1, .ptr 1 [])] [.trh 53 qh qa ox0_2 ok0_2 (.agg [.val .str o0_2.1, .own 2, .own 8, .own 4, .own 5]), .box 3 (.val qk r_91.2), .row 87 qq o0_2.2.1, .dead, .row 9 .str o0_2.2.2.2.1, .row 89 qr o0_2.2.2.2.2.1, .box 3 (.val qu (r_79.1, r_91.1, ())), .row 123 qu ([(r_79.1, r_91.1, ())] : List wc), .row 123 qu (o0_2.2.2.1 ++ ([(r_79.1, r_91.1, ())] : List wc))]
       obtain ⟨e, he11, h⟩ := bind_some h
       rcases e with r_93 | p_94
       ·try dsimp only at h
        refine aZ (aA (aC hF (aG (l := [(55, ⟨bF F, [1], (r_91.2, .inl r_93)⟩)]) (.cons (bK F) xAa (.nil))) [] [] (yaB ?_)))
        obtain rfl := Option.some.inj h
        refine gQ (iB [0, 1, 2, 8, 4, 5] rfl rfl (yaC ?_))
        exact zak
       ·try dsimp only at h
        refine aZ (aA (aC hF (aG (l := [(55, ⟨bF F, [1], (r_91.2, .inr p_94)⟩)]) (.cons (bK F) xAa (.nil))) [] [] (yaB ?_)))
        exact zav
      ·try dsimp only at h
       refine aA (aB (aC hF (aG (l := [(99, ⟨kZ F, [1], (r_85, .inr p_92)⟩)]) (.cons (sX F) xAa (.nil))) [0, 1, 5] [] (yaB ?_)))
       exact zaM
     ·try dsimp only at h
      refine aA (aB (aC hF (aG (l := [(50, ⟨bV F, [1], ((aS ⟨#[61]⟩), r_79.2, .inr p_86)⟩)]) (.cons (cG F) xAa (.nil))) [0, 1, 5] [] (yaB ?_)))
      exact zaM
    ·try dsimp only at h
     refine aB (aC hF (aG (l := [(58, ⟨eD F, [1], (r_41.2, .inr p_80)⟩)]) (.cons (gA F) xAa (.nil))) [0, 1, 5] [] (yaB ?_))
     exact zaM
   ·try simp only [go_sem] at hc
    have h := dQ zAB h
    refine aB (aF hF [0, 1, 8, 56] (yaB ?_))
    refine aA (bC rfl (fun hc => ?_) (fun hc => ?_))
    ·try simp only [go_sem] at hc
     have h := dP zAB h
     obtain ⟨e, he12, h⟩ := bind_some h
     rcases e with r_95 | p_96
     ·try dsimp only at h
      obtain ⟨g0, h⟩ := aM h
      refine qY hF (aG (l := [(58, ⟨eD F, [1], (r_41.2, .inl r_95)⟩)]) (.cons (gA F) xAa (.nil))) [] [1] [6, 7, 8, 11] [[0], [0], [59], [60], [61], [1], [63], [64], [62, 65], [58], [67], [66, 68]] [(0, 0), (0, 1), (0, 2), (0, 3), (1, 0), (1, 1), (1, 2), (1, 3), (2, 0), (2, 1), (2, 2), (2, 3), (3, 0), (3, 1), (3, 2), (3, 3), (4, 0), (4, 1), (4, 2), (5, 0), (6, 0), (7, 1), (8, 2), (9, 3), (9, 4), (10, 3), (11, 3)] [.ptr 0 [.idx 5 ok0_2], .ptr 0 [.idx 5 ok0_2], .ptr 0 [.idx 5 ok0_2], .ptr 0 [.idx 5 ok0_2, .fld 3 3], .own 4, .ptr 1 [], .val .str r_95.1, .own 6, .own 7, .ptr 0 [.idx 5 ok0_2], .ptr 0 [.idx 5 ok0_2, .fld 3 3], .junk] [[.trh 53 qh qa ox0_2 ok0_2 (.agg [.val .str o0_2.1, .own 2, .own 3, .own 4, .own 5]), .box 3 (.val qk r_41.2), .row 87 qq o0_2.2.1, .row 123 qu o0_2.2.2.1, .row 9 .str o0_2.2.2.2.1, .row 89 qr o0_2.2.2.2.2.1], [.trh 53 qh qa ox0_2 ok0_2 (.agg [.val .str o0_2.1, .own 2, .own 3, .own 4, .own 5]), .box 3 (.val qk r_95.2), .row 87 qq o0_2.2.1, .row 123 qu o0_2.2.2.1, .row 9 .str o0_2.2.2.2.1, .row 89 qr o0_2.2.2.2.2.1], [.trh 53 qh qa ox0_2 ok0_2 (.agg [.val .str o0_2.1, .own 2, .own 3, .own 4, .own 5]), .box 3 (.val qk r_95.2), .row 87 qq o0_2.2.1, .row 123 qu o0_2.2.2.1, .row 9 .str o0_2.2.2.2.1, .row 89 qr o0_2.2.2.2.2.1, .row 9 .str ([r_95.1] : List qd)], [.trh 53 qh qa ox0_2 ok0_2 (.agg [.val .str o0_2.1, .own 2, .own 3, .own 4, .own 5]), .box 3 (.val qk r_95.2), .row 87 qq o0_2.2.1, .row 123 qu o0_2.2.2.1, .dead, .row 89 qr o0_2.2.2.2.2.1, .row 9 .str ([r_95.1] : List qd), .row 9 .str (o0_2.2.2.2.1 ++ ([r_95.1] : List qd))], [.trh 53 qh qa ox0_2 ok0_2 (.agg [.val .str o0_2.1, .own 2, .own 3, .own 7, .own 5]), .box 3 (.val qk r_95.2), .row 87 qq o0_2.2.1, .row 123 qu o0_2.2.2.1, .dead, .row 89 qr o0_2.2.2.2.2.1, .row 9 .str ([r_95.1] : List qd), .row 9 .str (o0_2.2.2.2.1 ++ ([r_95.1] : List qd))]] [[(0, .ptr 0 [.idx 5 ok0_2])], [(0, .ptr 0 [.idx 5 ok0_2])], [(59, .ptr 0 [.idx 5 ok0_2])], [(60, .ptr 0 [.idx 5 ok0_2])], [(61, .ptr 0 [.idx 5 ok0_2, .fld 3 3])], [(1, .ptr 1 [])], [(63, .ptr 1 [])], [(64, .val .str r_95.1)], [(62, .own 4), (65, .own 6)], [(58, .ptr 0 [.idx 5 ok0_2])], [(67, .ptr 0 [.idx 5 ok0_2])], [(66, .own 7), (68, .ptr 0 [.idx 5 ok0_2, .fld 3 3])]] false xAc rfl rfl ?_ ?_
      ·simp only [go_sem]
       exact zaJ
      intro _
      show At _ _ [(1, .ptr 1 [])] [.trh 53 qh qa ox0_2 ok0_2 (.agg [.val .str o0_2.1, .own 2, .own 3, .own 7, .own 5]), .box 3 (.val qk r_95.2), .row 87 qq o0_2.2.1, .row 123 qu o0_2.2.2.1, .dead, .row 89 qr o0_2.2.2.2.2.1, .row 9 .str ([r_95.1] : List qd), .row 9 .str (o0_2.2.2.2.1 ++ ([r_95.1] : List qd))]
      obtain ⟨e, he13, h⟩ := bind_some h
      rcases e with r_97 | p_98
      ·try dsimp only at h
       refine aZ (aA (aC hF (aG (l := [(55, ⟨bF F, [1], (r_95.2, .inl r_97)⟩)]) (.cons (bK F) xAa (.nil))) [] [] (yaB ?_)))
       obtain rfl := Option.some.inj h
       refine gQ (iB [0, 1, 2, 3, 7, 5] rfl rfl (yaC ?_))
       exact zak
      ·try dsimp only at h
       refine aZ (aA (aC hF (aG (l := [(55, ⟨bF F, [1], (r_95.2, .inr p_98)⟩)]) (.cons (bK F) xAa (.nil))) [] [] (yaB ?_)))
       exact zav
     ·try dsimp only at h
      refine qY hF (aG (l := [(58, ⟨eD F, [1], (r_41.2, .inr p_96)⟩)]) (.cons (gA F) xAa (.nil))) [] [1] [6] [[0], [0], [59], [60], [61], [1], [63], [64], [62, 65], [58], [67], [66, 68]] [(0, 0), (1, 0), (2, 0), (3, 0), (4, 0), (5, 0), (6, 0)] [.ptr 0 [.idx 5 ok0_2], .ptr 0 [.idx 5 ok0_2], .ptr 0 [.idx 5 ok0_2], .ptr 0 [.idx 5 ok0_2, .fld 3 3], .own 4, .ptr 1 [], .junk, .junk, .junk, .junk, .junk, .junk] [[.trh 53 qh qa ox0_2 ok0_2 (.agg [.val .str o0_2.1, .own 2, .own 3, .own 4, .own 5]), .box 3 (.val qk r_41.2), .row 87 qq o0_2.2.1, .row 123 qu o0_2.2.2.1, .row 9 .str o0_2.2.2.2.1, .row 89 qr o0_2.2.2.2.2.1]] [[(0, .ptr 0 [.idx 5 ok0_2])], [(0, .ptr 0 [.idx 5 ok0_2])], [(59, .ptr 0 [.idx 5 ok0_2])], [(60, .ptr 0 [.idx 5 ok0_2])], [(61, .ptr 0 [.idx 5 ok0_2, .fld 3 3])], [(1, .ptr 1 [])], [(63, .ptr 1 [])], [(64, .junk)], [(62, .own 4), (65, .junk)], [(58, .ptr 0 [.idx 5 ok0_2])], [(67, .junk)], [(66, .junk), (68, .junk)]] true xAc rfl rfl ?_ ?_
      rotate_left
      exact fun h => absurd h xAc
      simp only [go_sem]
      (repeat' apply And.intro) <;> try (first | trivial | rfl | with_reducible assumption | omega | (intros; first | with_reducible assumption | omega) | (simp; done) | (simp at *; omega))
      obtain rfl := Option.some.inj h
      refine bX (aO (aL (lU 0 rfl aH) ?_))
      refine aL (aJ 1 rfl aH) (yaA ?_)
      refine bP [0, 1] rfl rfl (yaC ?_)
      refine bA rfl rfl rfl rfl
    ·try simp only [go_sem] at hc
     have h := dQ zAB h
     refine aB (aF hF [0, 1, 69] (yaB ?_))
     refine aA (bC rfl (fun hc => ?_) (fun hc => ?_))
     ·try simp only [go_sem] at hc
      have h := dP zAB h
      obtain ⟨e, he14, h⟩ := bind_some h
      rcases e with r_103 | p_104
      ·try dsimp only at h
       refine aB (aC hF (aG (l := [(58, ⟨eD F, [1], (r_41.2, .inl r_103)⟩)]) (.cons (gA F) xAa (.nil))) [0, 1, 6] [] (yaB ?_))
       obtain ⟨e, he15, h⟩ := bind_some h
       rcases e with r_109 | p_110
       ·try dsimp only at h
        refine aA (aB (aC hF (aG (l := [(50, ⟨bV F, [1], ((aS ⟨#[61]⟩), r_103.2, .inl r_109)⟩)]) (.cons (cG F) xAa (.nil))) [0, 1, 6] [] (yaB ?_)))
        obtain ⟨e, he16, h⟩ := bind_some h
        rcases e with r_115 | p_116
        ·try dsimp only at h
         refine aA (aB (aC hF (aG (l := [(100, ⟨lA F, [1], (r_109, .inl r_115)⟩)]) (.cons (sY F) xAa (.nil))) [0, 1, 6] [] (yaB ?_)))
         obtain ⟨g0, h⟩ := aM h
         refine aA (aDV hF [1] [6, 7, 10] [[0], [0], [80], [81], [82], [6], [84], [83, 85], [79], [87], [86, 88]] [(0, 0), (0, 1), (0, 2), (1, 0), (1, 1), (1, 2), (2, 0), (2, 1), (2, 2), (3, 0), (3, 1), (3, 2), (4, 0), (4, 1), (5, 0), (6, 0), (7, 1), (8, 2), (8, 3), (9, 2), (10, 2)] [.ptr 0 [.idx 5 ok0_2], .ptr 0 [.idx 5 ok0_2], .ptr 0 [.idx 5 ok0_2], .ptr 0 [.idx 5 ok0_2, .fld 4 4], .own 5, .val qr (r_103.1, r_115.1, ()), .own 7, .own 8, .ptr 0 [.idx 5 ok0_2], .ptr 0 [.idx 5 ok0_2, .fld 4 4], .junk] [[.trh 53 qh qa ox0_2 ok0_2 (.agg [.val .str o0_2.1, .own 2, .own 3, .own 4, .own 5]), .box 3 (.val qk r_115.2), .row 87 qq o0_2.2.1, .row 123 qu o0_2.2.2.1, .row 9 .str o0_2.2.2.2.1, .row 89 qr o0_2.2.2.2.2.1, .box 4 (.val qr (r_103.1, r_115.1, ()))], [.trh 53 qh qa ox0_2 ok0_2 (.agg [.val .str o0_2.1, .own 2, .own 3, .own 4, .own 5]), .box 3 (.val qk r_115.2), .row 87 qq o0_2.2.1, .row 123 qu o0_2.2.2.1, .row 9 .str o0_2.2.2.2.1, .row 89 qr o0_2.2.2.2.2.1, .box 4 (.val qr (r_103.1, r_115.1, ())), .row 89 qr ([(r_103.1, r_115.1, ())] : List qz)], [.trh 53 qh qa ox0_2 ok0_2 (.agg [.val .str o0_2.1, .own 2, .own 3, .own 4, .own 5]), .box 3 (.val qk r_115.2), .row 87 qq o0_2.2.1, .row 123 qu o0_2.2.2.1, .row 9 .str o0_2.2.2.2.1, .dead, .box 4 (.val qr (r_103.1, r_115.1, ())), .dead, .row 89 qr (o0_2.2.2.2.2.1 ++ ([(r_103.1, r_115.1, ())] : List qz))], [.trh 53 qh qa ox0_2 ok0_2 (.agg [.val .str o0_2.1, .own 2, .own 3, .own 4, .own 8]), .box 3 (.val qk r_115.2), .row 87 qq o0_2.2.1, .row 123 qu o0_2.2.2.1, .row 9 .str o0_2.2.2.2.1, .dead, .box 4 (.val qr (r_103.1, r_115.1, ())), .dead, .row 89 qr (o0_2.2.2.2.2.1 ++ ([(r_103.1, r_115.1, ())] : List qz))]] [[(0, .ptr 0 [.idx 5 ok0_2])], [(0, .ptr 0 [.idx 5 ok0_2])], [(80, .ptr 0 [.idx 5 ok0_2])], [(81, .ptr 0 [.idx 5 ok0_2])], [(82, .ptr 0 [.idx 5 ok0_2, .fld 4 4])], [(6, .ptr 6 [])], [(84, .val qr (r_103.1, r_115.1, ()))], [(83, .own 5), (85, .own 7)], [(79, .ptr 0 [.idx 5 ok0_2])], [(87, .ptr 0 [.idx 5 ok0_2])], [(86, .own 8), (88, .ptr 0 [.idx 5 ok0_2, .fld 4 4])]] xAc rfl rfl ?_ ?_)
         ·simp only [go_sem]
          exact zaJ
         show At _ _ [(1, .ptr 1 [])] [.trh 53 qh qa ox0_2 ok0_2 (.agg [.val .str o0_2.1, .own 2, .own 3, .own 4, .own 8]), .box 3 (.val qk r_115.2), .row 87 qq o0_2.2.1, .row 123 qu o0_2.2.2.1, .row 9 .str o0_2.2.2.2.1, .dead, .box 4 (.val qr (r_103.1, r_115.1, ())), .dead, .row 89 qr (o0_2.2.2.2.2.1 ++ ([(r_103.1, r_115.1, ())] : List qz))]
         obtain ⟨e, he17, h⟩ := bind_some h
         rcases e with r_117 | p_118
         ·try dsimp only at h
          refine aZ (aA (aC hF (aG (l := [(55, ⟨bF F, [1], (r_115.2, .inl r_117)⟩)]) (.cons (bK F) xAa (.nil))) [] [] (yaB ?_)))
          obtain rfl := Option.some.inj h
          refine gQ (iB [0, 1, 2, 3, 4, 8] rfl rfl (yaC ?_))
          exact zak
         ·try dsimp only at h
          refine aZ (aA (aC hF (aG (l := [(55, ⟨bF F, [1], (r_115.2, .inr p_118)⟩)]) (.cons (bK F) xAa (.nil))) [] [] (yaB ?_)))
          exact zav
        ·try dsimp only at h
         refine aA (aB (aC hF (aG (l := [(100, ⟨lA F, [1], (r_109, .inr p_116)⟩)]) (.cons (sY F) xAa (.nil))) [0, 1, 6] [] (yaB ?_)))
         exact zaM
       ·try dsimp only at h
        refine aA (aB (aC hF (aG (l := [(50, ⟨bV F, [1], ((aS ⟨#[61]⟩), r_103.2, .inr p_110)⟩)]) (.cons (cG F) xAa (.nil))) [0, 1, 6] [] (yaB ?_)))
        exact zaM
      ·try dsimp only at h
       refine aB (aC hF (aG (l := [(58, ⟨eD F, [1], (r_41.2, .inr p_104)⟩)]) (.cons (gA F) xAa (.nil))) [0, 1, 6] [] (yaB ?_))
       exact zaM
     ·try simp only [go_sem] at hc
      have h := dQ zAB h
      obtain ⟨e, he18, h⟩ := bind_some h
      rcases e with r_119 | p_120
      ·try dsimp only at h
       refine aC hF (aG (l := [(57, ⟨eZ F, [1], (r_41.2, .inl r_119)⟩)]) (.cons (jE F) xAa (.nil))) [1] [] (yaB ?_)
       obtain ⟨e, he19, h⟩ := bind_some h
       rcases e with r_121 | p_122
       ·try dsimp only at h
        refine aZ (aA (aC hF (aG (l := [(55, ⟨bF F, [1], (r_119, .inl r_121)⟩)]) (.cons (bK F) xAa (.nil))) [] [] (yaB ?_)))
        exact zaO
       ·try dsimp only at h
        refine aZ (aA (aC hF (aG (l := [(55, ⟨bF F, [1], (r_119, .inr p_122)⟩)]) (.cons (bK F) xAa (.nil))) [] [] (yaB ?_)))
        exact zav
      ·try dsimp only at h
       refine aC hF (aG (l := [(57, ⟨eZ F, [1], (r_41.2, .inr p_120)⟩)]) (.cons (jE F) xAa (.nil))) [1] [] (yaB ?_)
       obtain rfl := Option.some.inj h
       refine bX (aO (aL (lU 0 rfl aH) ?_))
       exact zaC
 ·try dsimp only at h
  refine aB (aB (aC hF (aG (l := [(53, ⟨bM F, [1], (o1_3, .inr p_42)⟩)]) (.cons (bS F) xAa (.nil))) [0, 1, 8] [] (yaB ?_)))
  obtain rfl := Option.some.inj h
  refine aO (aO (aL (lU 0 rfl aH) ?_))
  exact zaC
attribute [go_sem] xP
def aAt (F : Md) (o0_2 : qf) (o1_3 : qo) : Option ((qf × qo) ⊕ q8) :=
 (kC F o1_3).bind (fun r_8 => if r_8.1 = (aS ⟨#[108, 105, 110, 107]⟩) then (eB F r_8.2).bind (fun e => match e with | .inl r_13 => (rK F r_13.2).bind (fun e => match e with | .inl r_19 => (eW F (aS ⟨#[61]⟩) r_19.2).bind (fun e => match e with | .inl r_25 => (rK F r_25).bind (fun e => match e with | .inl r_31 => (dE F r_31.2).bind (fun e => match e with | .inl r_37 => ck (((o0_2.2.2.2.2.2.2.2.2.2.1.length) + (1 : Nat)) * 97 ≤ 140737488355328) (some (.inl ((o0_2.1, o0_2.2.1, o0_2.2.2.1, o0_2.2.2.2.1, o0_2.2.2.2.2.1, o0_2.2.2.2.2.2.1, o0_2.2.2.2.2.2.2.1, o0_2.2.2.2.2.2.2.2.1, o0_2.2.2.2.2.2.2.2.2.1, (o0_2.2.2.2.2.2.2.2.2.2.1 ++ ([(r_19.1.1, r_19.1.2.1, r_31.1.1, r_31.1.2.1, ())] : List qm)), ()), r_37))) | .inr p_38 => some (.inr p_38)) | .inr p_32 => some (.inr p_32)) | .inr p_26 => some (.inr p_26)) | .inr p_20 => some (.inr p_20)) | .inr p_14 => some (.inr p_14)) else if (0 : Int) < (o0_2.2.2.2.2.2.2.2.2.2.1.length : Int) then (mC F r_8.2).bind (fun e => match e with | .inl r_39 => some (.inl ((o0_2.1, o0_2.2.1, o0_2.2.2.1, o0_2.2.2.2.1, o0_2.2.2.2.2.1, o0_2.2.2.2.2.2.1, o0_2.2.2.2.2.2.2.1, o0_2.2.2.2.2.2.2.2.1, o0_2.2.2.2.2.2.2.2.2.1, o0_2.2.2.2.2.2.2.2.2.2.1, ()), r_39)) | .inr p_40 => some (.inr p_40)) else if r_8.1 = (aS ⟨#[115, 117, 98]⟩) then (eB F r_8.2).bind (fun e => match e with | .inl r_45 => (kD F r_45.2).bind (fun e => match e with | .inl r_51 => ck (((o0_2.2.2.2.2.2.2.2.2.1.length) + (1 : Nat)) * 121 ≤ 140737488355328) ((dE F r_51.2).bind (fun e => match e with | .inl r_53 => some (.inl ((o0_2.1, o0_2.2.1, o0_2.2.2.1, o0_2.2.2.2.1, o0_2.2.2.2.2.1, o0_2.2.2.2.2.2.1, o0_2.2.2.2.2.2.2.1, o0_2.2.2.2.2.2.2.2.1, (o0_2.2.2.2.2.2.2.2.2.1 ++ ([(r_51.1, ([] : List wa), ([] : List wc), ([] : List qd), ([] : List qz), ())] : List qc)), o0_2.2.2.2.2.2.2.2.2.2.1, ()), r_53)) | .inr p_54 => some (.inr p_54))) | .inr p_52 => some (.inr p_52)) | .inr p_46 => some (.inr p_46)) else if (0 : Int) < (o0_2.2.2.2.2.2.2.2.2.1.length : Int) then ck (((o0_2.2.2.2.2.2.2.2.2.1.length : Int) - (1 : Int)).toNat < (o0_2.2.2.2.2.2.2.2.2.1.length)) (ck (I64 ((o0_2.2.2.2.2.2.2.2.2.1.length : Int) - (1 : Int))) (ck (0 ≤ ((o0_2.2.2.2.2.2.2.2.2.1.length : Int) - (1 : Int)) ∧ ((o0_2.2.2.2.2.2.2.2.2.1.length : Int) - (1 : Int)) < (o0_2.2.2.2.2.2.2.2.2.1.length : Int)) ((aCW F o0_2.2.2.2.2.2.2.2.2.1 ((o0_2.2.2.2.2.2.2.2.2.1.length : Int) - (1 : Int)).toNat ((o0_2.2.2.2.2.2.2.2.2.1.getD ((o0_2.2.2.2.2.2.2.2.2.1.length : Int) - (1 : Int)).toNat ([], [], [], [], [], ())).1, (o0_2.2.2.2.2.2.2.2.2.1.getD ((o0_2.2.2.2.2.2.2.2.2.1.length : Int) - (1 : Int)).toNat ([], [], [], [], [], ())).2.1, (o0_2.2.2.2.2.2.2.2.2.1.getD ((o0_2.2.2.2.2.2.2.2.2.1.length : Int) - (1 : Int)).toNat ([], [], [], [], [], ())).2.2.1, (o0_2.2.2.2.2.2.2.2.2.1.getD ((o0_2.2.2.2.2.2.2.2.2.1.length : Int) - (1 : Int)).toNat ([], [], [], [], [], ())).2.2.2.1, (o0_2.2.2.2.2.2.2.2.2.1.getD ((o0_2.2.2.2.2.2.2.2.2.1.length : Int) - (1 : Int)).toNat ([], [], [], [], [], ())).2.2.2.2.1, ()) r_8.2).bind (fun e => match e with | .inl r_55 => some (.inl ((o0_2.1, o0_2.2.1, o0_2.2.2.1, o0_2.2.2.2.1, o0_2.2.2.2.2.1, o0_2.2.2.2.2.2.1, o0_2.2.2.2.2.2.2.1, o0_2.2.2.2.2.2.2.2.1, (o0_2.2.2.2.2.2.2.2.2.1.set ((o0_2.2.2.2.2.2.2.2.2.1.length : Int) - (1 : Int)).toNat (r_55.1.1, r_55.1.2.1, r_55.1.2.2.1, r_55.1.2.2.2.1, r_55.1.2.2.2.2.1, ())), o0_2.2.2.2.2.2.2.2.2.2.1, ()), r_55.2)) | .inr p_56 => some (.inr p_56))))) else (mC F r_8.2).bind (fun e => match e with | .inl r_57 => some (.inl ((o0_2.1, o0_2.2.1, o0_2.2.2.1, o0_2.2.2.2.1, o0_2.2.2.2.2.1, o0_2.2.2.2.2.2.1, o0_2.2.2.2.2.2.2.1, o0_2.2.2.2.2.2.2.2.1, o0_2.2.2.2.2.2.2.2.2.1, o0_2.2.2.2.2.2.2.2.2.2.1, ()), r_57)) | .inr p_58 => some (.inr p_58)))
def tN (F : Md) : gH where
 D := qf × qo × ((qf × qo) ⊕ q8)
 av := fun d => [.ptr 0 [], .ptr 1 []]
 hp := fun d => [.box 10 (.agg [.val qe d.1.1, .val qe d.1.2.1, .val qe d.1.2.2.1, .val qe d.1.2.2.2.1, .val .str d.1.2.2.2.2.1, .val .str d.1.2.2.2.2.2.1, .val .str d.1.2.2.2.2.2.2.1, .val .str d.1.2.2.2.2.2.2.2.1, .own 2, .own 3]), .box 3 (.val qk d.2.1), .tre 53 qh qa d.1.2.2.2.2.2.2.2.2.1, .row 83 qs d.1.2.2.2.2.2.2.2.2.2.1]
 m := 2
 pre := fun d => aAt F d.1 d.2.1 = some d.2.2
 out := fun d => match d.2.2 with | .inl r => .ret (.tup []) [.box 10 (.agg [.val qe r.1.1, .val qe r.1.2.1, .val qe r.1.2.2.1, .val qe r.1.2.2.2.1, .val .str r.1.2.2.2.2.1, .val .str r.1.2.2.2.2.2.1, .val .str r.1.2.2.2.2.2.2.1, .val .str r.1.2.2.2.2.2.2.2.1, .own 2, .own 3]), .box 3 (.val qk r.2), .tre 53 qh qa r.1.2.2.2.2.2.2.2.2.1, .row 83 qs r.1.2.2.2.2.2.2.2.2.2.1] | .inr p => .pan ⟨65, wi, p⟩ [.box 10 (.junk), .box 3 (.junk)]
abbrev aH5 (F : Md) : List (FuncId × aI) := []
theorem aH6 [Mx] (F : Md) : bH Tryz.prog GL (aH5 F) := .nil
theorem aGM [Mx] (F : Md) : GOK Tryz.prog GL 29 (tN F) := by
 refine eO (aM0 (aH6 F)) Tryz.func29 rfl xAa (fun _ => Nat.le_of_ble_eq_true rfl) fun c0 w0 d hw1 hw2 h hn => ?_
 have hF : gD ⟨Tryz.prog, EX (aH5 F), GM (tN F) c0 d, w0, Tryz.f29.ntmps, []⟩ := ⟨aM0 (aH6 F), mix⟩
 obtain ⟨(o0_2 : qf), (o1_3 : qo), r⟩ := d
 replace h : aAt F o0_2 o1_3 = some r := h
 have hw1 : AV.wfL [.ptr 0 [], .ptr 1 []] := hw1
 simp only [AV.wfL, AV.wfV, Ty.wf, fG] at hw1
 show Tri _ _ _ [(0, .ptr 0 []), (1, .ptr 1 [])] [.box 10 (.agg [.val qe o0_2.1, .val qe o0_2.2.1, .val qe o0_2.2.2.1, .val qe o0_2.2.2.2.1, .val .str o0_2.2.2.2.2.1, .val .str o0_2.2.2.2.2.2.1, .val .str o0_2.2.2.2.2.2.2.1, .val .str o0_2.2.2.2.2.2.2.2.1, .own 2, .own 3]), .box 3 (.val qk o1_3), .tre 53 qh qa o0_2.2.2.2.2.2.2.2.2.1, .row 83 qs o0_2.2.2.2.2.2.2.2.2.2.1]
 unfold aAt at h
 refine aB (aF hF [0, 1, 4] (yaB ?_))
 obtain ⟨r_8, he1, h⟩ := bind_some h
 try dsimp only at h
 refine aA (aB (aC hF (aG (l := [(27, ⟨gU F, [1], (o1_3, r_8)⟩)]) (.cons (mV F) xAa (.nil))) [0, 1, 4, 5] [] (yaB ?_)))
 refine aA (dH (aB (aF hF [0, 1, 4, 5, 16] (yaB ?_))))
 refine aA (bC rfl (fun hc => ?_) (fun hc => ?_))
 ·try simp only [go_sem] at hc
  have h := dP zAB h
  obtain ⟨e, he2, h⟩ := bind_some h
  rcases e with r_13 | p_14
  ·try dsimp only at h
   refine aB (aC hF (aG (l := [(53, ⟨bM F, [1], (r_8.2, .inl r_13)⟩)]) (.cons (bS F) xAa (.nil))) [0, 1] [] (yaB ?_))
   refine aA (aB (aR hF [0, 1, 6] (yaB ?_)))
   obtain ⟨e, he3, h⟩ := bind_some h
   rcases e with r_19 | p_20
   ·try dsimp only at h
    refine aA (aB (aC hF (aG (l := [(56, ⟨lB F, [1], (r_13.2, .inl r_19)⟩)]) (.cons (sZ F) xAa (.nil))) [0, 1, 6] [] (yaB ?_)))
    obtain ⟨e, he4, h⟩ := bind_some h
    rcases e with r_25 | p_26
    ·try dsimp only at h
     refine aA (aB (aC hF (aG (l := [(50, ⟨bV F, [1], ((aS ⟨#[61]⟩), r_19.2, .inl r_25)⟩)]) (.cons (cG F) xAa (.nil))) [0, 1, 6] [] (yaB ?_)))
     obtain ⟨e, he5, h⟩ := bind_some h
     rcases e with r_31 | p_32
     ·try dsimp only at h
      refine aA (aB (aC hF (aG (l := [(56, ⟨lB F, [1], (r_25, .inl r_31)⟩)]) (.cons (sZ F) xAa (.nil))) [0, 1, 6] [] (yaB ?_)))
      obtain ⟨e, he6, h⟩ := bind_some h
      rcases e with r_37 | p_38
      ·try dsimp only at h
       refine aA (aB (aC hF (aG (l := [(55, ⟨bF F, [1], (r_31.2, .inl r_37)⟩)]) (.cons (bK F) xAa (.nil))) [0, 6] [] (yaB ?_)))
       obtain ⟨g0, h⟩ := aM h
       refine aA (aDV hF [] [6, 7, 10] [[0], [0], [40], [41], [42], [6], [44], [43, 45], [39], [47], [46, 48]] [(0, 0), (0, 1), (0, 2), (1, 0), (1, 1), (1, 2), (2, 0), (2, 1), (2, 2), (3, 0), (3, 1), (3, 2), (4, 0), (4, 1), (5, 0), (6, 0), (7, 1), (8, 2), (8, 3), (9, 2), (10, 2)] [.ptr 0 [], .ptr 0 [], .ptr 0 [], .ptr 0 [.fld 9 9], .own 3, .val qs (r_19.1.1, r_19.1.2.1, r_31.1.1, r_31.1.2.1, ()), .own 5, .own 6, .ptr 0 [], .ptr 0 [.fld 9 9], .junk] [[.box 10 (.agg [.val qe o0_2.1, .val qe o0_2.2.1, .val qe o0_2.2.2.1, .val qe o0_2.2.2.2.1, .val .str o0_2.2.2.2.2.1, .val .str o0_2.2.2.2.2.2.1, .val .str o0_2.2.2.2.2.2.2.1, .val .str o0_2.2.2.2.2.2.2.2.1, .own 2, .own 3]), .box 3 (.val qk r_37), .tre 53 qh qa o0_2.2.2.2.2.2.2.2.2.1, .row 83 qs o0_2.2.2.2.2.2.2.2.2.2.1, .box 4 (.val qs (r_19.1.1, r_19.1.2.1, r_31.1.1, r_31.1.2.1, ()))], [.box 10 (.agg [.val qe o0_2.1, .val qe o0_2.2.1, .val qe o0_2.2.2.1, .val qe o0_2.2.2.2.1, .val .str o0_2.2.2.2.2.1, .val .str o0_2.2.2.2.2.2.1, .val .str o0_2.2.2.2.2.2.2.1, .val .str o0_2.2.2.2.2.2.2.2.1, .own 2, .own 3]), .box 3 (.val qk r_37), .tre 53 qh qa o0_2.2.2.2.2.2.2.2.2.1, .row 83 qs o0_2.2.2.2.2.2.2.2.2.2.1, .box 4 (.val qs (r_19.1.1, r_19.1.2.1, r_31.1.1, r_31.1.2.1, ())), .row 83 qs ([(r_19.1.1, r_19.1.2.1, r_31.1.1, r_31.1.2.1, ())] : List qm)], [.box 10 (.agg [.val qe o0_2.1, .val qe o0_2.2.1, .val qe o0_2.2.2.1, .val qe o0_2.2.2.2.1, .val .str o0_2.2.2.2.2.1, .val .str o0_2.2.2.2.2.2.1, .val .str o0_2.2.2.2.2.2.2.1, .val .str o0_2.2.2.2.2.2.2.2.1, .own 2, .own 3]), .box 3 (.val qk r_37), .tre 53 qh qa o0_2.2.2.2.2.2.2.2.2.1, .dead, .box 4 (.val qs (r_19.1.1, r_19.1.2.1, r_31.1.1, r_31.1.2.1, ())), .row 83 qs ([(r_19.1.1, r_19.1.2.1, r_31.1.1, r_31.1.2.1, ())] : List qm), .row 83 qs (o0_2.2.2.2.2.2.2.2.2.2.1 ++ ([(r_19.1.1, r_19.1.2.1, r_31.1.1, r_31.1.2.1, ())] : List qm))], [.box 10 (.agg [.val qe o0_2.1, .val qe o0_2.2.1, .val qe o0_2.2.2.1, .val qe o0_2.2.2.2.1, .val .str o0_2.2.2.2.2.1, .val .str o0_2.2.2.2.2.2.1, .val .str o0_2.2.2.2.2.2.2.1, .val .str o0_2.2.2.2.2.2.2.2.1, .own 2, .own 6]), .box 3 (.val qk r_37), .tre 53 qh qa o0_2.2.2.2.2.2.2.2.2.1, .dead, .box 4 (.val qs (r_19.1.1, r_19.1.2.1, r_31.1.1, r_31.1.2.1, ())), .row 83 qs ([(r_19.1.1, r_19.1.2.1, r_31.1.1, r_31.1.2.1, ())] : List qm), .row 83 qs (o0_2.2.2.2.2.2.2.2.2.2.1 ++ ([(r_19.1.1, r_19.1.2.1, r_31.1.1, r_31.1.2.1, ())] : List qm))]] [[(0, .ptr 0 [])], [(0, .ptr 0 [])], [(40, .ptr 0 [])], [(41, .ptr 0 [])], [(42, .ptr 0 [.fld 9 9])], [(6, .ptr 4 [])], [(44, .val qs (r_19.1.1, r_19.1.2.1, r_31.1.1, r_31.1.2.1, ()))], [(43, .own 3), (45, .own 5)], [(39, .ptr 0 [])], [(47, .ptr 0 [])], [(46, .own 6), (48, .ptr 0 [.fld 9 9])]] xAc rfl rfl ?_ ?_)
       ·simp only [go_sem]
        exact zaJ
       show At _ _ [] [.box 10 (.agg [.val qe o0_2.1, .val qe o0_2.2.1, .val qe o0_2.2.2.1, .val qe o0_2.2.2.2.1, .val .str o0_2.2.2.2.2.1, .val .str o0_2.2.2.2.2.2.1, .val .str o0_2.2.2.2.2.2.2.1, .val .str o0_2.2.2.2.2.2.2.2.1, .own 2, .own 6]), .box 3 (.val qk r_37), .tre 53 qh qa o0_2.2.2.2.2.2.2.2.2.1, .dead, .box 4 (.val qs (r_19.1.1, r_19.1.2.1, r_31.1.1, r_31.1.2.1, ())), .row 83 qs ([(r_19.1.1, r_19.1.2.1, r_31.1.1, r_31.1.2.1, ())] : List qm), .row 83 qs (o0_2.2.2.2.2.2.2.2.2.2.1 ++ ([(r_19.1.1, r_19.1.2.1, r_31.1.1, r_31.1.2.1, ())] : List qm))]
       obtain rfl := Option.some.inj h
       refine aZ (gQ (iB [0, 1, 2, 6] rfl rfl (yaC ?_)))
       exact zak
      ·try dsimp only at h
       refine aA (aB (aC hF (aG (l := [(55, ⟨bF F, [1], (r_31.2, .inr p_38)⟩)]) (.cons (bK F) xAa (.nil))) [0, 6] [] (yaB ?_)))
       exact zaj
     ·try dsimp only at h
      refine aA (aB (aC hF (aG (l := [(56, ⟨lB F, [1], (r_25, .inr p_32)⟩)]) (.cons (sZ F) xAa (.nil))) [0, 1, 6] [] (yaB ?_)))
      exact zaj
    ·try dsimp only at h
     refine aA (aB (aC hF (aG (l := [(50, ⟨bV F, [1], ((aS ⟨#[61]⟩), r_19.2, .inr p_26)⟩)]) (.cons (cG F) xAa (.nil))) [0, 1, 6] [] (yaB ?_)))
     exact zaj
   ·try dsimp only at h
    refine aA (aB (aC hF (aG (l := [(56, ⟨lB F, [1], (r_13.2, .inr p_20)⟩)]) (.cons (sZ F) xAa (.nil))) [0, 1, 6] [] (yaB ?_)))
    exact zaj
  ·try dsimp only at h
   refine aB (aC hF (aG (l := [(53, ⟨bM F, [1], (r_8.2, .inr p_14)⟩)]) (.cons (bS F) xAa (.nil))) [0, 1] [] (yaB ?_))
   exact zaj
 ·try simp only [go_sem] at hc
  have h := dQ zAB h
  refine aB (aF hF [0, 1, 4, 5, 49] (yaB ?_))
  refine aA (bC rfl (fun hc => ?_) (fun hc => ?_))
  ·try simp only [go_sem] at hc
   have h := dP zAB h
   obtain ⟨e, he7, h⟩ := bind_some h
   rcases e with r_39 | p_40
   ·try dsimp only at h
    refine aC hF (aG (l := [(57, ⟨eZ F, [1], (r_8.2, .inl r_39)⟩)]) (.cons (jE F) xAa (.nil))) [] [] (yaB ?_)
    obtain rfl := Option.some.inj h
    refine aZ (gQ (eH hF [] rfl rfl rfl rfl rfl rfl ?_))
    exact zaB
   ·try dsimp only at h
    refine aC hF (aG (l := [(57, ⟨eZ F, [1], (r_8.2, .inr p_40)⟩)]) (.cons (jE F) xAa (.nil))) [] [] (yaB ?_)
    exact za0
  ·try simp only [go_sem] at hc
   have h := dQ zAB h
   refine aB (aF hF [0, 1, 4, 58] (yaB ?_))
   refine aA (bC rfl (fun hc => ?_) (fun hc => ?_))
   ·try simp only [go_sem] at hc
    have h := dP zAB h
    obtain ⟨e, he8, h⟩ := bind_some h
    rcases e with r_45 | p_46
    ·try dsimp only at h
     refine aB (aC hF (aG (l := [(53, ⟨bM F, [1], (r_8.2, .inl r_45)⟩)]) (.cons (bS F) xAa (.nil))) [0, 1] [] (yaB ?_))
     obtain ⟨e, he9, h⟩ := bind_some h
     rcases e with r_51 | p_52
     ·try dsimp only at h
      obtain ⟨g0, h⟩ := aM h
      refine aA (aB (qY hF (aG (l := [(58, ⟨eD F, [1], (r_45.2, .inl r_51)⟩)]) (.cons (gA F) xAa (.nil))) [] [1] [6, 7, 8, 9, 12] [[0], [0], [64], [65], [66], [1], [68], [69], [70], [67, 71], [63], [73], [72, 74]] [(0, 0), (0, 1), (0, 2), (0, 3), (0, 4), (1, 0), (1, 1), (1, 2), (1, 3), (1, 4), (2, 0), (2, 1), (2, 2), (2, 3), (2, 4), (3, 0), (3, 1), (3, 2), (3, 3), (3, 4), (4, 0), (4, 1), (4, 2), (4, 3), (5, 0), (6, 0), (7, 1), (8, 2), (9, 3), (10, 4), (10, 5), (11, 4), (12, 4)] [.ptr 0 [], .ptr 0 [], .ptr 0 [], .ptr 0 [.fld 8 8], .own 2, .ptr 1 [], .val .str r_51.1, .agg [.val .str r_51.1, .nilS, .nilS, .nilS, .nilS], .own 4, .own 5, .ptr 0 [], .ptr 0 [.fld 8 8], .junk] [[.box 10 (.agg [.val qe o0_2.1, .val qe o0_2.2.1, .val qe o0_2.2.2.1, .val qe o0_2.2.2.2.1, .val .str o0_2.2.2.2.2.1, .val .str o0_2.2.2.2.2.2.1, .val .str o0_2.2.2.2.2.2.2.1, .val .str o0_2.2.2.2.2.2.2.2.1, .own 2, .own 3]), .box 3 (.val qk r_45.2), .tre 53 qh qa o0_2.2.2.2.2.2.2.2.2.1, .row 83 qs o0_2.2.2.2.2.2.2.2.2.2.1], [.box 10 (.agg [.val qe o0_2.1, .val qe o0_2.2.1, .val qe o0_2.2.2.1, .val qe o0_2.2.2.2.1, .val .str o0_2.2.2.2.2.1, .val .str o0_2.2.2.2.2.2.1, .val .str o0_2.2.2.2.2.2.2.1, .val .str o0_2.2.2.2.2.2.2.2.1, .own 2, .own 3]), .box 3 (.val qk r_51.2), .tre 53 qh qa o0_2.2.2.2.2.2.2.2.2.1, .row 83 qs o0_2.2.2.2.2.2.2.2.2.2.1], [.box 10 (.agg [.val qe o0_2.1, .val qe o0_2.2.1, .val qe o0_2.2.2.1, .val qe o0_2.2.2.2.1, .val .str o0_2.2.2.2.2.1, .val .str o0_2.2.2.2.2.2.1, .val .str o0_2.2.2.2.2.2.2.1, .val .str o0_2.2.2.2.2.2.2.2.1, .own 2, .own 3]), .box 3 (.val qk r_51.2), .tre 53 qh qa o0_2.2.2.2.2.2.2.2.2.1, .row 83 qs o0_2.2.2.2.2.2.2.2.2.2.1], [.box 10 (.agg [.val qe o0_2.1, .val qe o0_2.2.1, .val qe o0_2.2.2.1, .val qe o0_2.2.2.2.1, .val .str o0_2.2.2.2.2.1, .val .str o0_2.2.2.2.2.2.1, .val .str o0_2.2.2.2.2.2.2.1, .val .str o0_2.2.2.2.2.2.2.2.1, .own 2, .own 3]), .box 3 (.val qk r_51.2), .tre 53 qh qa o0_2.2.2.2.2.2.2.2.2.1, .row 83 qs o0_2.2.2.2.2.2.2.2.2.2.1, .tre 53 qh qa ([(r_51.1, ([] : List wa), ([] : List wc), ([] : List qd), ([] : List qz), ())] : List qc)], [.box 10 (.agg [.val qe o0_2.1, .val qe o0_2.2.1, .val qe o0_2.2.2.1, .val qe o0_2.2.2.2.1, .val .str o0_2.2.2.2.2.1, .val .str o0_2.2.2.2.2.2.1, .val .str o0_2.2.2.2.2.2.2.1, .val .str o0_2.2.2.2.2.2.2.2.1, .own 2, .own 3]), .box 3 (.val qk r_51.2), .dead, .row 83 qs o0_2.2.2.2.2.2.2.2.2.2.1, .dead, .tre 53 qh qa (o0_2.2.2.2.2.2.2.2.2.1 ++ ([(r_51.1, ([] : List wa), ([] : List wc), ([] : List qd), ([] : List qz), ())] : List qc))], [.box 10 (.agg [.val qe o0_2.1, .val qe o0_2.2.1, .val qe o0_2.2.2.1, .val qe o0_2.2.2.2.1, .val .str o0_2.2.2.2.2.1, .val .str o0_2.2.2.2.2.2.1, .val .str o0_2.2.2.2.2.2.2.1, .val .str o0_2.2.2.2.2.2.2.2.1, .own 5, .own 3]), .box 3 (.val qk r_51.2), .dead, .row 83 qs o0_2.2.2.2.2.2.2.2.2.2.1, .dead, .tre 53 qh qa (o0_2.2.2.2.2.2.2.2.2.1 ++ ([(r_51.1, ([] : List wa), ([] : List wc), ([] : List qd), ([] : List qz), ())] : List qc))]] [[(0, .ptr 0 [])], [(0, .ptr 0 [])], [(64, .ptr 0 [])], [(65, .ptr 0 [])], [(66, .ptr 0 [.fld 8 8])], [(1, .ptr 1 [])], [(68, .ptr 1 [])], [(69, .val .str r_51.1)], [(70, .agg [.val .str r_51.1, .nilS, .nilS, .nilS, .nilS])], [(67, .own 2), (71, .own 4)], [(63, .ptr 0 [])], [(73, .ptr 0 [])], [(72, .own 5), (74, .ptr 0 [.fld 8 8])]] false xAc rfl rfl ?_ ?_))
      ·simp only [go_sem]
       exact zaJ
      intro _
      show At _ _ [(1, .ptr 1 [])] [.box 10 (.agg [.val qe o0_2.1, .val qe o0_2.2.1, .val qe o0_2.2.2.1, .val qe o0_2.2.2.2.1, .val .str o0_2.2.2.2.2.1, .val .str o0_2.2.2.2.2.2.1, .val .str o0_2.2.2.2.2.2.2.1, .val .str o0_2.2.2.2.2.2.2.2.1, .own 5, .own 3]), .box 3 (.val qk r_51.2), .dead, .row 83 qs o0_2.2.2.2.2.2.2.2.2.2.1, .dead, .tre 53 qh qa (o0_2.2.2.2.2.2.2.2.2.1 ++ ([(r_51.1, ([] : List wa), ([] : List wc), ([] : List qd), ([] : List qz), ())] : List qc))]
      obtain ⟨e, he10, h⟩ := bind_some h
      rcases e with r_53 | p_54
      ·try dsimp only at h
       refine aA (aC hF (aG (l := [(55, ⟨bF F, [1], (r_51.2, .inl r_53)⟩)]) (.cons (bK F) xAa (.nil))) [] [] (yaB ?_))
       obtain rfl := Option.some.inj h
       refine aZ (gQ (iB [0, 1, 5, 3] rfl rfl (yaC ?_)))
       exact zak
      ·try dsimp only at h
       refine aA (aC hF (aG (l := [(55, ⟨bF F, [1], (r_51.2, .inr p_54)⟩)]) (.cons (bK F) xAa (.nil))) [] [] (yaB ?_))
       exact za0
     ·try dsimp only at h
      refine aA (aB (qY hF (aG (l := [(58, ⟨eD F, [1], (r_45.2, .inr p_52)⟩)]) (.cons (gA F) xAa (.nil))) [] [1] [6] [[0], [0], [64], [65], [66], [1], [68], [69], [70], [67, 71], [63], [73], [72, 74]] [(0, 0), (1, 0), (2, 0), (3, 0), (4, 0), (5, 0), (6, 0)] [.ptr 0 [], .ptr 0 [], .ptr 0 [], .ptr 0 [.fld 8 8], .own 2, .ptr 1 [], .junk, .junk, .junk, .junk, .junk, .junk, .junk] [[.box 10 (.agg [.val qe o0_2.1, .val qe o0_2.2.1, .val qe o0_2.2.2.1, .val qe o0_2.2.2.2.1, .val .str o0_2.2.2.2.2.1, .val .str o0_2.2.2.2.2.2.1, .val .str o0_2.2.2.2.2.2.2.1, .val .str o0_2.2.2.2.2.2.2.2.1, .own 2, .own 3]), .box 3 (.val qk r_45.2), .tre 53 qh qa o0_2.2.2.2.2.2.2.2.2.1, .row 83 qs o0_2.2.2.2.2.2.2.2.2.2.1]] [[(0, .ptr 0 [])], [(0, .ptr 0 [])], [(64, .ptr 0 [])], [(65, .ptr 0 [])], [(66, .ptr 0 [.fld 8 8])], [(1, .ptr 1 [])], [(68, .ptr 1 [])], [(69, .junk)], [(70, .junk)], [(67, .own 2), (71, .junk)], [(63, .ptr 0 [])], [(73, .junk)], [(72, .junk), (74, .junk)]] true xAc rfl rfl ?_ ?_))
      rotate_left
      exact fun h => absurd h xAc
      simp only [go_sem]
      (repeat' apply And.intro) <;> try (first | trivial | rfl | with_reducible assumption | omega | (intros; first | with_reducible assumption | omega) | (simp; done) | (simp at *; omega))
      obtain rfl := Option.some.inj h
      refine aO (bX (aL (aJ 0 rfl aH) ?_))
      refine aL (aJ 1 rfl aH) (yaA ?_)
      refine bP [0, 1] rfl rfl (yaC ?_)
      refine bA rfl rfl rfl rfl
    ·try dsimp only at h
     refine aB (aC hF (aG (l := [(53, ⟨bM F, [1], (r_8.2, .inr p_46)⟩)]) (.cons (bS F) xAa (.nil))) [0, 1] [] (yaB ?_))
     exact zaj
   ·try simp only [go_sem] at hc
    have h := dQ zAB h
    refine aB (aF hF [0, 1, 4, 77] (yaB ?_))
    refine aA (bC rfl (fun hc => ?_) (fun hc => ?_))
    ·try simp only [go_sem] at hc
     have h := dP zAB h
     obtain ⟨go, h⟩ := aM h
     refine aWL 2 ((o0_2.2.2.2.2.2.2.2.2.1.length : Int) - (1 : Int)).toNat rfl go rfl (yaA ?_)
     obtain ⟨g0, h⟩ := aM h
     try simp only [I64, I32] at g0
     obtain ⟨g1, h⟩ := aM h
     obtain ⟨e, he11, h⟩ := bind_some h
     rcases e with r_55 | p_56
     ·try dsimp only at h
      refine aC hF (aG (l := [(59, ⟨xP F, [2, 1, 4, 5, 6, 7], (o0_2.2.2.2.2.2.2.2.2.1, ((o0_2.2.2.2.2.2.2.2.2.1.length : Int) - (1 : Int)).toNat, ((o0_2.2.2.2.2.2.2.2.2.1.getD ((o0_2.2.2.2.2.2.2.2.2.1.length : Int) - (1 : Int)).toNat ([], [], [], [], [], ())).1, (o0_2.2.2.2.2.2.2.2.2.1.getD ((o0_2.2.2.2.2.2.2.2.2.1.length : Int) - (1 : Int)).toNat ([], [], [], [], [], ())).2.1, (o0_2.2.2.2.2.2.2.2.2.1.getD ((o0_2.2.2.2.2.2.2.2.2.1.length : Int) - (1 : Int)).toNat ([], [], [], [], [], ())).2.2.1, (o0_2.2.2.2.2.2.2.2.2.1.getD ((o0_2.2.2.2.2.2.2.2.2.1.length : Int) - (1 : Int)).toNat ([], [], [], [], [], ())).2.2.2.1, (o0_2.2.2.2.2.2.2.2.2.1.getD ((o0_2.2.2.2.2.2.2.2.2.1.length : Int) - (1 : Int)).toNat ([], [], [], [], [], ())).2.2.2.2.1, ()), r_8.2, .inl r_55)⟩)]) (.cons (aI8 F) xAa (.nil))) [] [] (yaE ?_)
      refine aWK 2 (r_55.1.1, r_55.1.2.1, r_55.1.2.2.1, r_55.1.2.2.2.1, r_55.1.2.2.2.2.1, ()) [8, 9, 10, 11] rfl (by first | rfl | (simp only [go_sem]; done)) rfl rfl (yaA ?_)
      obtain rfl := Option.some.inj h
      refine aZ (gQ (iB [0, 1, 2, 3] rfl rfl (yaC ?_)))
      exact zak
     ·try dsimp only at h
      refine aC hF (aG (l := [(59, ⟨xP F, [2, 1, 4, 5, 6, 7], (o0_2.2.2.2.2.2.2.2.2.1, ((o0_2.2.2.2.2.2.2.2.2.1.length : Int) - (1 : Int)).toNat, ((o0_2.2.2.2.2.2.2.2.2.1.getD ((o0_2.2.2.2.2.2.2.2.2.1.length : Int) - (1 : Int)).toNat ([], [], [], [], [], ())).1, (o0_2.2.2.2.2.2.2.2.2.1.getD ((o0_2.2.2.2.2.2.2.2.2.1.length : Int) - (1 : Int)).toNat ([], [], [], [], [], ())).2.1, (o0_2.2.2.2.2.2.2.2.2.1.getD ((o0_2.2.2.2.2.2.2.2.2.1.length : Int) - (1 : Int)).toNat ([], [], [], [], [], ())).2.2.1, (o0_2.2.2.2.2.2.2.2.2.1.getD ((o0_2.2.2.2.2.2.2.2.2.1.length : Int) - (1 : Int)).toNat ([], [], [], [], [], ())).2.2.2.1, (o0_2.2.2.2.2.2.2.2.2.1.getD ((o0_2.2.2.2.2.2.2.2.2.1.length : Int) - (1 : Int)).toNat ([], [], [], [], [], ())).2.2.2.2.1, ()), r_8.2, .inr p_56)⟩)]) (.cons (aI8 F) xAa (.nil))) [] [] (yaE ?_)
      exact za0
    ·try simp only [go_sem] at hc
     have h := dQ zAB h
     obtain ⟨e, he12, h⟩ := bind_some h
     rcases e with r_57 | p_58
     ·try dsimp only at h
      refine aC hF (aG (l := [(57, ⟨eZ F, [1], (r_8.2, .inl r_57)⟩)]) (.cons (jE F) xAa (.nil))) [] [] (yaB ?_)
      obtain rfl := Option.some.inj h
      refine aZ (gQ (eH hF [] rfl rfl rfl rfl rfl rfl ?_))
      exact zaB
     ·try dsimp only at h
      refine aC hF (aG (l := [(57, ⟨eZ F, [1], (r_8.2, .inr p_58)⟩)]) (.cons (jE F) xAa (.nil))) [] [] (yaB ?_)
      exact za0
attribute [go_sem] tN
def tA (F : Md) (s_0 : qf) (out_44 : wd) : Option wd :=
 if ¬ ((out_44.length : Int) = (s_0.2.2.2.2.2.2.2.2.2.1.length : Int)) then some s_0.2.2.2.2.2.2.2.2.2.1 else some out_44
def yN (F : Md) (s_0 : qf) (x13_64 : Int) (x20_113 : Int) (x27_132 : Int) (out_133 : wd) : Option ((Int × wd) ⊕ wd) :=
 if x27_132 < (s_0.2.2.2.2.2.2.2.2.2.1.length : Int) then ck (0 ≤ x27_132 ∧ x27_132 < (s_0.2.2.2.2.2.2.2.2.2.1.length : Int)) (if (¬ ((s_0.2.2.2.2.2.2.2.2.2.1.getD (x27_132.toNat) ([], [], [], [], ())).1 = (s_0.2.2.2.2.2.2.2.2.1.getD (x13_64.toNat) ([], [], [], [], [], ())).1)) ∨ (¬ ((s_0.2.2.2.2.2.2.2.2.2.1.getD (x27_132.toNat) ([], [], [], [], ())).2.1 = ((s_0.2.2.2.2.2.2.2.2.1.getD (x13_64.toNat) ([], [], [], [], [], ())).2.2.2.1.getD (x20_113.toNat) ([] : List Nat)))) then ck (I64 (x27_132 + (1 : Int))) (some (.inl ((x27_132 + (1 : Int)), out_133))) else ck (((out_133.length) + (1 : Nat)) * 97 ≤ 140737488355328) (ck (I64 (x27_132 + (1 : Int))) (some (.inl ((x27_132 + (1 : Int)), (out_133 ++ ([(s_0.2.2.2.2.2.2.2.2.2.1.getD (x27_132.toNat) ([], [], [], [], ()))] : List qm))))))) else some (.inr out_133)
def yO (F : Md) (s_0 : qf) (x13_64 : Int) (x20_113 : Int) (out_114 : wd) : Option ((Int × wd) ⊕ wd) :=
 if x20_113 < (((s_0.2.2.2.2.2.2.2.2.1.getD (x13_64.toNat) ([], [], [], [], [], ())).2.2.2.1.length : Nat) : Int) then ck (0 ≤ x20_113 ∧ x20_113 < (((s_0.2.2.2.2.2.2.2.2.1.getD (x13_64.toNat) ([], [], [], [], [], ())).2.2.2.1.length : Nat) : Int)) ((eJ F (fun d : Int × wd => yN F s_0 x13_64 x20_113 d.1 d.2) ((0 : Int), out_114)).bind (fun e => ck (I64 (x20_113 + (1 : Int))) (some (.inl ((x20_113 + (1 : Int)), e))))) else some (.inr out_114)
def yP (F : Md) (s_0 : qf) (x13_64 : Int) (out_65 : wd) : Option ((Int × wd) ⊕ wd) :=
 if x13_64 < (s_0.2.2.2.2.2.2.2.2.1.length : Int) then ck (0 ≤ x13_64 ∧ x13_64 < (s_0.2.2.2.2.2.2.2.2.1.length : Int)) ((eJ F (fun d : Int × wd => yO F s_0 x13_64 d.1 d.2) ((0 : Int), out_65)).bind (fun e => ck (I64 (x13_64 + (1 : Int))) (some (.inl ((x13_64 + (1 : Int)), e))))) else some (.inr out_65)
def kQ (F : Md) (s_0 : qf) : Option wd :=
 (eJ F (fun d : Int × wd => yP F s_0 d.1 d.2) ((0 : Int), ([] : List qm))).bind (fun e => tA F s_0 e)
def aFh : PlR := ⟨[(0, .B [1]), (1, .A [1, 3]), (2, .A [1, 3, 11, 12, 13]), (3, .A [1, 3, 11, 12, 13, 14]), (4, .B [1, 3, 5, 11, 12, 13]), (5, .A [1, 3, 5, 11, 12, 13, 18, 19, 20]), (6, .A [1, 3, 5, 11, 12, 13, 18, 19, 20, 21]), (7, .A [1, 3, 5, 7, 11, 12, 13, 18, 19, 20]), (8, .A [1, 3, 5, 7, 11, 12, 13, 18, 19, 20, 25, 26, 27]), (9, .A [1, 3, 5, 7, 11, 12, 13, 18, 19, 20, 25, 26, 27, 28]), (10, .B [1, 3, 5, 7, 9, 11, 12, 13, 18, 19, 20, 25, 26, 27]), (11, .A [1, 3, 5, 7, 9, 11, 12, 13, 18, 19, 20, 25, 26, 27, 41]), (12, .B [1, 3, 5, 7, 11, 12, 13, 18, 19, 20, 25, 26, 27]), (13, .A [1, 3, 5, 7, 11, 12, 13, 18, 19, 20, 25, 26, 27]), (14, .A [1, 3, 5, 11, 12, 13, 18, 19, 20]), (15, .A [1, 3, 11, 12, 13]), (16, .A [1, 3, 54]), (17, .A [2]), (18, .A [2])], [(5, 19)]⟩
def aGN : Ty := .pair qj .unit
def vW (F : Md) : aI := mSpec aGN (.one (.sl qs)) (fun x => kQ F x.1)
abbrev aOe (F : Md) : List (FuncId × aI) := []
theorem aOf [Mx] (F : Md) : bH Tryz.prog GL (aOe F) := .nil
attribute [go_sem] aGN aFh
theorem aMv [Mx] (F : Md) : FOK Tryz.prog GL 30 (vW F) := by
 refine bT (aU (aOf F)) mix Tryz.func30 rfl xAa xAc aFh fun w0 S x Θ hw h hF => ?_
 obtain ⟨(s_0 : qf), u⟩ := x
 simp only [bZ, go_sem]
 replace h : sat (kQ F s_0) _ := h
 unfold kQ at h
 refine fD hF (D := wd) (fun d => sat (tA F s_0 d) Θ) [] (fun d => [(1, .ptr 0 []), (3, .own 1)]) (fun d => [.inr (.box 10 (.val qj s_0)), .inr (.row 83 qs d)]) ?_ ?_
 ·simp only [go_sem]
  refine aDf 3 83 qs rfl (yaA ?_)
  refine cL hF (D := Int × wd) [11, 12] (fun d => [(1, .ptr 0 []), (3, .own 1), (13, .val qe d.1)]) (fun d => [.inr (.box 10 (.val qj s_0)), .inr (.row 83 qs d.2)]) h rfl xAb ?_
  rintro ⟨x13_64, out_65⟩ A3 T3 hA3 hE3 h
  simp only [go_sem]
  replace h : sat (yP F s_0 x13_64 out_65) _ := h
  unfold yP at h
  refine fY h (fun hc h => ?_) fun hc h => ?_
  ·obtain ⟨g0, h⟩ := aQ h
   repeat (refine ⟨by omega, ?_⟩)
   refine cL hF (D := Int × wd) [11, 12, 13, 18, 19] (fun d => [(1, .ptr 0 []), (3, .own 1), (5, .ptr 2 []), (20, .val qe d.1)]) (fun d => [.inr (.box 10 (.val qj s_0)), .inr (.row 83 qs d.2), .inr (.box 5 (.val qa (s_0.2.2.2.2.2.2.2.2.1.getD (x13_64.toNat) ([], [], [], [], [], ()))))]) h rfl xAb ?_
   rintro ⟨x20_113, out_114⟩ A6 T6 hA6 hE6 h
   simp only [go_sem]
   replace h : sat (yO F s_0 x13_64 x20_113 out_114) _ := h
   unfold yO at h
   refine fY h (fun hc h => ?_) fun hc h => ?_
   ·obtain ⟨g0, h⟩ := aQ h
    repeat (refine ⟨by omega, ?_⟩)
    refine cL hF (D := Int × wd) [7, 11, 12, 13, 18, 19, 20, 25, 26] (fun d => [(1, .ptr 0 []), (3, .own 1), (5, .ptr 2 []), (27, .val qe d.1)]) (fun d => [.inr (.box 10 (.val qj s_0)), .inr (.row 83 qs d.2), .inr (.box 5 (.val qa (s_0.2.2.2.2.2.2.2.2.1.getD (x13_64.toNat) ([], [], [], [], [], ()))))]) h rfl xAb ?_
    rintro ⟨x27_132, out_133⟩ A9 T9 hA9 hE9 h
    simp only [go_sem]
    replace h : sat (yN F s_0 x13_64 x20_113 x27_132 out_133) _ := h
    unfold yN at h
    refine fY h (fun hc h => ?_) fun hc h => ?_
    ·obtain ⟨g0, h⟩ := aQ h
     repeat (refine ⟨by omega, ?_⟩)
     refine ⟨fun hc => ?_, fun hc => ?_⟩
     ·replace h := jV hc h
      refine bB h fun g0 h => ?_
      replace h := hA9 _ (aE h)
      refine iB [0, 1, 2] rfl rfl (yaA ?_)
      exact zaK
     ·replace h := jW hc h
      obtain ⟨g0, h⟩ := aQ h
      repeat (refine ⟨by omega, ?_⟩)
      refine bB h fun g0 h => ?_
      replace h := hA9 _ (aE h)
      refine iB [0, 4, 2] rfl rfl (yaA ?_)
      exact zaK
    ·replace h := yaF (hE9 _ (aE h))
     refine bB h fun g0 h => ?_
     replace h := hA6 _ (aE h)
     exact zaK
   ·replace h := yaF (hE6 _ (aE h))
    refine bB h fun g0 h => ?_
    replace h := hA3 _ (aE h)
    refine iB [0, 1] rfl rfl (yaA ?_)
    exact zaK
  ·replace h := yaF (hE3 _ (aE h))
   exact aY (out_65) h rfl xAb
 ·rintro out_44 h
  simp only [go_sem]
  replace h : sat (tA F s_0 out_44) _ := h
  unfold tA at h
  refine fL h (fun hc h => ?_) fun hc h => ?_
  ·exact aK hF [.tmp 2] rfl rfl rfl (aE h) xAd
  ·exact aK hF [.tmp 2] rfl rfl rfl (aE h) xAd
attribute [go_sem] vW
end
end Nu
end Go.Proofs
