import Derived.Test.YtcpnniahnmjnpaaGreatDoorZS2
set_option linter.unusedVariables false
set_option linter.unusedSimpArgs false
namespace Go.Proofs
open Go.Vc
set_option maxRecDepth 20000
namespace Nu
noncomputable section
set_option maxHeartbeats 4000000
attribute [-go_sem] Ex.kind Ex.text Ex.l
def cO (F : Md) (s_0 : qd) (cutset_1 : qd) : Option qd :=
 if (s_0 = (aU ⟨#[]⟩)) ∨ (cutset_1 = (aU ⟨#[]⟩)) then some s_0 else ck (((cutset_1.length : Int) = (1 : Int)) → ((0 : Int) < (cutset_1.length : Int))) (if ((cutset_1.length : Int) = (1 : Int)) ∧ ((cutset_1.getD (0 : Nat) (0 : Nat)) < (128 : Nat)) then ck ((0 : Int) < (cutset_1.length : Int)) ((kV F s_0 (cutset_1.getD (0 : Nat) (0 : Nat))).bind (fun v_8 => some v_8)) else (iY F cutset_1).bind (fun v_13 => if v_13.2.1 = true then (kJ F s_0 v_13.1).bind (fun v_17 => some v_17) else none))
def aBZ : PlR := ⟨[(0, .A [0, 1]), (1, .A [0, 1, 12]), (2, .A [4]), (3, .A [0, 1, 21]), (4, .A [4]), (5, .B [0, 1, 5, 6]), (6, .A [0, 1, 5, 31]), (7, .A [4]), (8, .stop)], []⟩
def aDg : Ty := .pair .str wg
def lG (F : Md) : aI := mSpec aDg (.one .str) (fun x => cO F x.1 x.2.1)
abbrev rW (F : Md) : List (FuncId × aI) := [(46, (eY F)), (93, (iD F)), (94, (gN F))]
theorem aI6 [Mx] (F : Md) : bJ Tryz.prog GL (rW F) := .cons (qY F) xAa (.cons (yI F) xAa (.cons (wJ F) xAa (.nil)))
attribute [go_sem] aDg aBZ
theorem aB0 [Mx] (F : Md) : FOK Tryz.prog GL 49 (lG F) := by
 refine bT (aT (aI6 F)) mix Tryz.func49 rfl xAa xAc aBZ fun w0 S x Θ hw h hF => ?_
 obtain ⟨(s_0 : qd), (cutset_1 : qd), u⟩ := x
 simp only [bX, go_sem]
 replace h : sat (cO F s_0 cutset_1) _ := h
 unfold cO at h
 exact zaZ
attribute [go_sem] lG
def lH (F : Md) (s_0 : qd) (cutset_1 : qd) : Option qd :=
 if (s_0 = (aU ⟨#[]⟩)) ∨ (cutset_1 = (aU ⟨#[]⟩)) then some s_0 else ck (((cutset_1.length : Int) = (1 : Int)) → ((0 : Int) < (cutset_1.length : Int))) (if ((cutset_1.length : Int) = (1 : Int)) ∧ ((cutset_1.getD (0 : Nat) (0 : Nat)) < (128 : Nat)) then ck ((0 : Int) < (cutset_1.length : Int)) ((kI F s_0 (cutset_1.getD (0 : Nat) (0 : Nat))).bind (fun v_8 => some v_8)) else (iY F cutset_1).bind (fun v_13 => if v_13.2.1 = true then (jR F s_0 v_13.1).bind (fun v_17 => some v_17) else none))
def aBp : PlR := ⟨[(0, .A [0, 1]), (1, .A [0, 1, 12]), (2, .A [4]), (3, .A [0, 1, 21]), (4, .A [4]), (5, .B [0, 1, 5, 6]), (6, .A [0, 1, 5, 31]), (7, .A [4]), (8, .stop)], []⟩
def aB1 : Ty := .pair .str wg
def qD (F : Md) : aI := mSpec aB1 (.one .str) (fun x => lH F x.1 x.2.1)
abbrev qR (F : Md) : List (FuncId × aI) := [(45, (gM F)), (46, (eY F)), (47, (gB F))]
theorem aH1 [Mx] (F : Md) : bJ Tryz.prog GL (qR F) := .cons (wF F) xAa (.cons (qY F) xAa (.cons (vJ F) xAa (.nil)))
attribute [go_sem] aB1 aBp
theorem aHq [Mx] (F : Md) : FOK Tryz.prog GL 26 (qD F) := by
 refine bT (aT (aH1 F)) mix Tryz.func26 rfl xAa xAc aBp fun w0 S x Θ hw h hF => ?_
 obtain ⟨(s_0 : qd), (cutset_1 : qd), u⟩ := x
 simp only [bX, go_sem]
 replace h : sat (lH F s_0 cutset_1) _ := h
 unfold lH at h
 exact zaZ
attribute [go_sem] qD
def lP (F : Md) (s_0 : qd) (prefix_1 : qd) : Option qd :=
 (jT F s_0 prefix_1).bind (fun v_8 => if v_8 = true then ck (0 ≤ (prefix_1.length : Int) ∧ (prefix_1.length : Int) ≤ (s_0.length : Int)) (some (List.drop (prefix_1.length) s_0)) else some s_0)
def uF : PlR := ⟨[(0, .A [0, 1]), (1, .A [0, 1, 7]), (2, .A [4]), (3, .A [4])], []⟩
def vR : Ty := .pair .str wg
def lA (F : Md) : aI := mSpec vR (.one .str) (fun x => lP F x.1 x.2.1)
abbrev vS (F : Md) : List (FuncId × aI) := [(188, (gD F))]
theorem aDv [Mx] (F : Md) : bJ Tryz.prog GL (vS F) := .cons (vP F) xAa (.nil)
attribute [go_sem] vR uF
theorem aDh [Mx] (F : Md) : FOK Tryz.prog GL 186 (lA F) := by
 refine bT (aT (aDv F)) mix Tryz.func186 rfl xAa xAc uF fun w0 S x Θ hw h hF => ?_
 obtain ⟨(s_0 : qd), (prefix_1 : qd), u⟩ := x
 simp only [bX, go_sem]
 replace h : sat (lP F s_0 prefix_1) _ := h
 unfold lP at h
 obtain ⟨v_8, hv, h⟩ := aN h
 try simp only [hv, go_sem]
 refine aG3 h (fun hc h => ?_) fun hc h => ?_
 ·refine bD h fun g0 h => ?_
  exact zaD
 ·exact aK hF [.tmp 4] rfl rfl rfl (aE h) xAd
attribute [go_sem] lA
def qE (F : Md) (s_0 : qd) (prefix_1 : qd) : Option qd :=
 (lP F s_0 prefix_1).bind (fun v_6 => some v_6)
def aAD : PlR := ⟨[(0, .A [0, 1]), (1, .A [4])], []⟩
def aBr : Ty := .pair .str wg
def pF (F : Md) : aI := mSpec aBr (.one .str) (fun x => qE F x.1 x.2.1)
abbrev aBs (F : Md) : List (FuncId × aI) := [(186, (lA F))]
theorem aHr [Mx] (F : Md) : bJ Tryz.prog GL (aBs F) := .cons (aDh F) xAa (.nil)
attribute [go_sem] aBr aAD
theorem aGB [Mx] (F : Md) : FOK Tryz.prog GL 172 (pF F) := by
 refine bT (aT (aHr F)) mix Tryz.func172 rfl xAa xAc aAD fun w0 S x Θ hw h hF => ?_
 obtain ⟨(s_0 : qd), (prefix_1 : qd), u⟩ := x
 simp only [bX, go_sem]
 replace h : sat (qE F s_0 prefix_1) _ := h
 unfold qE at h
 obtain ⟨v_6, hv, h⟩ := aN h
 exact zaR
attribute [go_sem] pF
def lB (F : Md) (w_0 : qd) : Option Bool :=
 (qE F w_0 (aU ⟨#[45]⟩)).bind (fun v_8 => (qM F v_8).bind (fun v_9 => some v_9))
def aGi : PlR := ⟨[(0, .A [0]), (1, .A [2])], []⟩
def aHs : Ty := .pair .str .unit
def xI (F : Md) : aI := mSpec aHs (.one .bool) (fun x => lB F x.1)
abbrev aDi (F : Md) : List (FuncId × aI) := [(172, (pF F)), (98, (rJ F))]
theorem aPj [Mx] (F : Md) : bJ Tryz.prog GL (aDi F) := .cons (aGB F) xAa (.cons (aHd F) xAa (.nil))
attribute [go_sem] aHs aGi
theorem aNr [Mx] (F : Md) : FOK Tryz.prog GL 133 (xI F) := by
 refine bT (aT (aPj F)) mix Tryz.func133 rfl xAa xAc aGi fun w0 S x Θ hw h hF => ?_
 obtain ⟨(w_0 : qd), u⟩ := x
 simp only [bX, go_sem]
 replace h : sat (lB F w_0) _ := h
 unfold lB at h
 obtain ⟨v_8, hv, h⟩ := aN h
 try simp only [hv, go_sem]
 obtain ⟨v_9, hv, h⟩ := aN h
 try simp only [hv, go_sem]
 exact zaF
attribute [go_sem] xI
def lC (F : Md) (o0_1 : qo) : Option (qo ⊕ q8) :=
 some (.inr ((o0_1.1, (1 : Int), ()), ()))
def eU (F : Md) : fW where
 D := qo × (qo ⊕ q8)
 av := fun d => [.ptr 0 []]
 hp := fun d => [.box 3 (.val qk d.1)]
 m := 1
 pre := fun d => lC F d.1 = some d.2
 out := fun d => match d.2 with | .inl r => .ret (.tup []) [.box 3 (.val qk (r))] | .inr p => .pan ⟨65, wi, p⟩ [.box 3 (.junk)]
abbrev aDR (F : Md) : List (FuncId × aI) := []
theorem aDS [Mx] (F : Md) : bJ Tryz.prog GL (aDR F) := .nil
theorem iM [Mx] (F : Md) : GOK Tryz.prog GL 57 (eU F) := by
 refine eI (aT (aDS F)) Tryz.func57 rfl xAa (fun _ => Nat.le_of_ble_eq_true rfl) fun c0 w0 d hw1 hw2 h hn => ?_
 have hF : fT ⟨Tryz.prog, EM (aDR F), GM (eU F) c0 d, w0, Tryz.f57.ntmps, []⟩ := ⟨aT (aDS F), mix⟩
 obtain ⟨(o0_1 : qo), r⟩ := d
 replace h : lC F o0_1 = some r := h
 have hw1 : AV.wfL [.ptr 0 []] := hw1
 simp only [AV.wfL, AV.wfV, Ty.wf, fF] at hw1
 show Tri _ _ _ [(0, .ptr 0 [])] [.box 3 (.val qk o0_1)]
 unfold lC at h
 refine aC hF (aG (l := []) (.nil)) [] [] (yaB ?_)
 exact za1
attribute [go_sem] eU
def dF (F : Md) (is_1 : Bool) (o0_2 : qo) : Option (qo ⊕ q8) :=
 if ¬ (is_1 = true) then (lC F o0_2).bind (fun e => match e with | .inl r_4 => some (.inl r_4) | .inr p_5 => some (.inr p_5)) else some (.inl o0_2)
def bI (F : Md) : fW where
 D := Bool × qo × (qo ⊕ q8)
 av := fun d => [.ptr 0 [], .val .bool d.1]
 hp := fun d => [.box 3 (.val qk d.2.1)]
 m := 1
 pre := fun d => dF F d.1 d.2.1 = some d.2.2
 out := fun d => match d.2.2 with | .inl r => .ret (.tup []) [.box 3 (.val qk (r))] | .inr p => .pan ⟨65, wi, p⟩ [.box 3 (.junk)]
abbrev aDT (F : Md) : List (FuncId × aI) := []
theorem aDU [Mx] (F : Md) : bJ Tryz.prog GL (aDT F) := .nil
theorem bQ [Mx] (F : Md) : GOK Tryz.prog GL 54 (bI F) := by
 refine eI (aT (aDU F)) Tryz.func54 rfl xAa (fun _ => Nat.le_of_ble_eq_true rfl) fun c0 w0 d hw1 hw2 h hn => ?_
 have hF : fT ⟨Tryz.prog, EM (aDT F), GM (bI F) c0 d, w0, Tryz.f54.ntmps, []⟩ := ⟨aT (aDU F), mix⟩
 obtain ⟨(is_1 : Bool), (o0_2 : qo), r⟩ := d
 replace h : dF F is_1 o0_2 = some r := h
 have hw1 : AV.wfL [.ptr 0 [], .val .bool is_1] := hw1
 simp only [AV.wfL, AV.wfV, Ty.wf, fF] at hw1
 show Tri _ _ _ [(0, .ptr 0 []), (1, .val .bool is_1)] [.box 3 (.val qk o0_2)]
 unfold dF at h
 refine aB (aF hF [0, 5] (yaA ?_))
 refine aA (bG rfl (fun hc => ?_) (fun hc => ?_))
 ·try simp only [go_sem] at hc
  have h := eC zAB h
  obtain ⟨e, he1, h⟩ := bind_some h
  rcases e with r_4 | p_5
  ·try dsimp only at h
   refine aC hF (aG (l := [(57, ⟨eU F, [0], (o0_2, .inl r_4)⟩)]) (.cons (iM F) xAa (.nil))) [] [] (yaB ?_)
   exact zaO
  ·try dsimp only at h
   refine aC hF (aG (l := [(57, ⟨eU F, [0], (o0_2, .inr p_5)⟩)]) (.cons (iM F) xAa (.nil))) [] [] (yaB ?_)
   exact za1
 ·try simp only [go_sem] at hc
  exact zaw
attribute [go_sem] bI
def jJ (F : Md) (o0_1 : qo) : Option (qd × qo) :=
 ck (0 ≤ o0_1.2.1 ∧ o0_1.2.1 ≤ (o0_1.2.2.1.length : Int)) (ck ((cO F (List.drop (o0_1.2.1.toNat) o0_1.2.2.1) (aU ⟨#[32]⟩)).isSome = true) (ck (aPR ((cO F (List.drop (o0_1.2.1.toNat) o0_1.2.2.1) (aU ⟨#[32]⟩)).getD ([] : List Nat)) (aU ⟨#[32]⟩)) (some ((wP ((cO F (List.drop (o0_1.2.1.toNat) o0_1.2.2.1) (aU ⟨#[32]⟩)).getD ([] : List Nat)) (aU ⟨#[32]⟩)).1, o0_1))))
def gI (F : Md) : fW where
 D := qo × (qd × qo)
 av := fun d => [.ptr 0 []]
 hp := fun d => [.box 3 (.val qk d.1)]
 m := 1
 pre := fun d => jJ F d.1 = some d.2
 out := fun d => (fun r : (qd × qo) => .ret (.val .str r.1) [.box 3 (.val qk r.2)]) d.2
abbrev tH (F : Md) : List (FuncId × aI) := [(25, mP), (49, (lG F))]
theorem aDV [Mx] (F : Md) : bJ Tryz.prog GL (tH F) := .cons aDf xAa (.cons (aB0 F) xAa (.nil))
theorem lW [Mx] (F : Md) : GOK Tryz.prog GL 27 (gI F) := by
 refine eI (aT (aDV F)) Tryz.func27 rfl xAa (fun _ => Nat.le_of_ble_eq_true rfl) fun c0 w0 d hw1 hw2 h hn => ?_
 have hF : fT ⟨Tryz.prog, EM (tH F), GM (gI F) c0 d, w0, Tryz.f27.ntmps, []⟩ := ⟨aT (aDV F), mix⟩
 obtain ⟨(o0_1 : qo), r⟩ := d
 replace h : jJ F o0_1 = some r := h
 have hw1 : AV.wfL [.ptr 0 []] := hw1
 simp only [AV.wfL, AV.wfV, Ty.wf, fF] at hw1
 show Tri _ _ _ [(0, .ptr 0 [])] [.box 3 (.val qk o0_1)]
 unfold jJ at h
 refine aB (aF hF [0] (yaA ?_))
 refine aA (aB (aF hF [3] (yaA ?_)))
 obtain ⟨g0, h⟩ := aQ h
 obtain ⟨g1, h⟩ := aQ h
 repeat (refine ⟨zAA, ?_⟩)
 refine aA (aB (aF hF [4] (yaA ?_)))
 obtain ⟨g0, h⟩ := aQ h
 repeat (refine ⟨zAA, ?_⟩)
 exact zaV
attribute [go_sem] gI
def dT (F : Md) (o0_1 : qo) : Option ((qd × qo) ⊕ q8) :=
 (jJ F o0_1).bind (fun r_4 => (dF F (!(decide (r_4.1 = (aU ⟨#[]⟩)))) r_4.2).bind (fun e => match e with | .inl r_9 => ck (0 ≤ r_9.2.1 ∧ r_9.2.1 ≤ (r_9.2.2.1.length : Int)) (ck (aPR (List.drop (r_9.2.1.toNat) r_9.2.2.1) r_4.1) (ck (I64 (r_9.2.1 + (aLH (List.drop (r_9.2.1.toNat) r_9.2.2.1) r_4.1))) (ck (I64 ((r_9.2.1 + (aLH (List.drop (r_9.2.1.toNat) r_9.2.2.1) r_4.1)) + (r_4.1.length : Int))) (some (.inl (r_4.1, r_9.1, ((r_9.2.1 + (aLH (List.drop (r_9.2.1.toNat) r_9.2.2.1) r_4.1)) + (r_4.1.length : Int)), r_9.2.2.1, ())))))) | .inr p_10 => some (.inr p_10)))
def bM (F : Md) : fW where
 D := qo × ((qd × qo) ⊕ q8)
 av := fun d => [.ptr 0 []]
 hp := fun d => [.box 3 (.val qk d.1)]
 m := 1
 pre := fun d => dT F d.1 = some d.2
 out := fun d => match d.2 with | .inl r => .ret (.val .str r.1) [.box 3 (.val qk r.2)] | .inr p => .pan ⟨65, wi, p⟩ [.box 3 (.junk)]
abbrev zY (F : Md) : List (FuncId × aI) := [(88, uW)]
theorem aDW [Mx] (F : Md) : bJ Tryz.prog GL (zY F) := .cons aLK xAa (.nil)
theorem bR [Mx] (F : Md) : GOK Tryz.prog GL 53 (bM F) := by
 refine eI (aT (aDW F)) Tryz.func53 rfl xAa (fun _ => Nat.le_of_ble_eq_true rfl) fun c0 w0 d hw1 hw2 h hn => ?_
 have hF : fT ⟨Tryz.prog, EM (zY F), GM (bM F) c0 d, w0, Tryz.f53.ntmps, []⟩ := ⟨aT (aDW F), mix⟩
 obtain ⟨(o0_1 : qo), r⟩ := d
 replace h : dT F o0_1 = some r := h
 have hw1 : AV.wfL [.ptr 0 []] := hw1
 simp only [AV.wfL, AV.wfV, Ty.wf, fF] at hw1
 show Tri _ _ _ [(0, .ptr 0 [])] [.box 3 (.val qk o0_1)]
 unfold dT at h
 refine aB (aF hF [0] (yaA ?_))
 obtain ⟨r_4, he1, h⟩ := bind_some h
 try dsimp only at h
 refine aA (aB (aC hF (aG (l := [(27, ⟨gI F, [0], (o0_1, r_4)⟩)]) (.cons (lW F) xAa (.nil))) [0, 3] [] (yaB ?_)))
 obtain ⟨e, he2, h⟩ := bind_some h
 rcases e with r_9 | p_10
 ·try dsimp only at h
  refine aA (aB (aC hF (aG (l := [(54, ⟨bI F, [0], ((!(decide (r_4.1 = (aU ⟨#[]⟩)))), r_4.2, .inl r_9)⟩)]) (.cons (bQ F) xAa (.nil))) [0, 3] [] (yaB ?_)))
  refine aA (aB (aR7 hF 22 xAc [3] (yaA ?_)))
  obtain ⟨g0, h⟩ := aQ h
  obtain ⟨g1, h⟩ := aQ h
  obtain ⟨g2, h⟩ := aQ h
  obtain ⟨g3, h⟩ := aQ h
  try simp only [I64, I32] at g2
  try simp only [I64, I32] at g3
  repeat (refine ⟨zAA, ?_⟩)
  simp only [aXi, go_sem]
  try simp only [Int.reduceMod, Int.reduceToNat]
  repeat (refine ⟨zAA, ?_⟩)
  exact zaV
 ·try dsimp only at h
  refine aA (aB (aC hF (aG (l := [(54, ⟨bI F, [0], ((!(decide (r_4.1 = (aU ⟨#[]⟩)))), r_4.2, .inr p_10)⟩)]) (.cons (bQ F) xAa (.nil))) [0, 3] [] (yaB ?_)))
  exact zaL
attribute [go_sem] bM
def eQ (F : Md) (w_1 : qd) (o0_2 : qo) : Option (qo ⊕ q8) :=
 (dT F o0_2).bind (fun e => match e with | .inl r_4 => (dF F (decide (r_4.1 = w_1)) r_4.2).bind (fun e => match e with | .inl r_5 => some (.inl r_5) | .inr p_6 => some (.inr p_6)) | .inr p_7 => some (.inr p_7))
def bU (F : Md) : fW where
 D := qd × qo × (qo ⊕ q8)
 av := fun d => [.ptr 0 [], .val .str d.1]
 hp := fun d => [.box 3 (.val qk d.2.1)]
 m := 1
 pre := fun d => eQ F d.1 d.2.1 = some d.2.2
 out := fun d => match d.2.2 with | .inl r => .ret (.tup []) [.box 3 (.val qk (r))] | .inr p => .pan ⟨65, wi, p⟩ [.box 3 (.junk)]
abbrev aGj (F : Md) : List (FuncId × aI) := []
theorem aGk [Mx] (F : Md) : bJ Tryz.prog GL (aGj F) := .nil
theorem cC [Mx] (F : Md) : GOK Tryz.prog GL 50 (bU F) := by
 refine eI (aT (aGk F)) Tryz.func50 rfl xAa (fun _ => Nat.le_of_ble_eq_true rfl) fun c0 w0 d hw1 hw2 h hn => ?_
 have hF : fT ⟨Tryz.prog, EM (aGj F), GM (bU F) c0 d, w0, Tryz.f50.ntmps, []⟩ := ⟨aT (aGk F), mix⟩
 obtain ⟨(w_1 : qd), (o0_2 : qo), r⟩ := d
 replace h : eQ F w_1 o0_2 = some r := h
 have hw1 : AV.wfL [.ptr 0 [], .val .str w_1] := hw1
 simp only [AV.wfL, AV.wfV, Ty.wf, fF] at hw1
 show Tri _ _ _ [(0, .ptr 0 []), (1, .val .str w_1)] [.box 3 (.val qk o0_2)]
 unfold eQ at h
 obtain ⟨e, he1, h⟩ := bind_some h
 rcases e with r_4 | p_7
 ·try dsimp only at h
  obtain ⟨e, he2, h⟩ := bind_some h
  rcases e with r_5 | p_6
  ·try dsimp only at h
   refine aC hF (aG (l := [(53, ⟨bM F, [0], (o0_2, .inl r_4)⟩), (54, ⟨bI F, [0], ((decide (r_4.1 = w_1)), r_4.2, .inl r_5)⟩)]) (.cons (bR F) xAa (.cons (bQ F) xAa (.nil)))) [] [] (yaB ?_)
   exact zaO
  ·try dsimp only at h
   refine aC hF (aG (l := [(53, ⟨bM F, [0], (o0_2, .inl r_4)⟩), (54, ⟨bI F, [0], ((decide (r_4.1 = w_1)), r_4.2, .inr p_6)⟩)]) (.cons (bR F) xAa (.cons (bQ F) xAa (.nil)))) [] [] (yaB ?_)
   exact za1
 ·try dsimp only at h
  refine aC hF (aG (l := [(53, ⟨bM F, [0], (o0_2, .inr p_7)⟩)]) (.cons (bR F) xAa (.nil))) [] [] (yaB ?_)
  exact za1
attribute [go_sem] bU
def dA (F : Md) (o0_1 : qo) : Option (qo ⊕ q8) :=
 (jJ F o0_1).bind (fun r_3 => (dF F (decide (r_3.1 = (aU ⟨#[]⟩))) r_3.2).bind (fun e => match e with | .inl r_4 => some (.inl r_4) | .inr p_5 => some (.inr p_5)))
def bE (F : Md) : fW where
 D := qo × (qo ⊕ q8)
 av := fun d => [.ptr 0 []]
 hp := fun d => [.box 3 (.val qk d.1)]
 m := 1
 pre := fun d => dA F d.1 = some d.2
 out := fun d => match d.2 with | .inl r => .ret (.tup []) [.box 3 (.val qk (r))] | .inr p => .pan ⟨65, wi, p⟩ [.box 3 (.junk)]
abbrev aES (F : Md) : List (FuncId × aI) := []
theorem aET [Mx] (F : Md) : bJ Tryz.prog GL (aES F) := .nil
theorem bK [Mx] (F : Md) : GOK Tryz.prog GL 55 (bE F) := by
 refine eI (aT (aET F)) Tryz.func55 rfl xAa (fun _ => Nat.le_of_ble_eq_true rfl) fun c0 w0 d hw1 hw2 h hn => ?_
 have hF : fT ⟨Tryz.prog, EM (aES F), GM (bE F) c0 d, w0, Tryz.f55.ntmps, []⟩ := ⟨aT (aET F), mix⟩
 obtain ⟨(o0_1 : qo), r⟩ := d
 replace h : dA F o0_1 = some r := h
 have hw1 : AV.wfL [.ptr 0 []] := hw1
 simp only [AV.wfL, AV.wfV, Ty.wf, fF] at hw1
 show Tri _ _ _ [(0, .ptr 0 [])] [.box 3 (.val qk o0_1)]
 unfold dA at h
 obtain ⟨r_3, he1, h⟩ := bind_some h
 try dsimp only at h
 obtain ⟨e, he2, h⟩ := bind_some h
 rcases e with r_4 | p_5
 ·try dsimp only at h
  refine aC hF (aG (l := [(27, ⟨gI F, [0], (o0_1, r_3)⟩), (54, ⟨bI F, [0], ((decide (r_3.1 = (aU ⟨#[]⟩))), r_3.2, .inl r_4)⟩)]) (.cons (lW F) xAa (.cons (bQ F) xAa (.nil)))) [] [] (yaB ?_)
  exact zaO
 ·try dsimp only at h
  refine aC hF (aG (l := [(27, ⟨gI F, [0], (o0_1, r_3)⟩), (54, ⟨bI F, [0], ((decide (r_3.1 = (aU ⟨#[]⟩))), r_3.2, .inr p_5)⟩)]) (.cons (lW F) xAa (.cons (bQ F) xAa (.nil)))) [] [] (yaB ?_)
  exact za1
attribute [go_sem] bE
def nZ (F : Md) (r_7 : (qd × qo)) (x_17 : qo) : Option ((Int × qo) ⊕ q8) :=
 ck ((oU F r_7.1).isSome = true) (some (.inl (((oU F r_7.1).getD ((0 : Int), (), ())).1, x_17)))
def lI (F : Md) (o0_1 : qo) : Option ((Int × qo) ⊕ q8) :=
 (dT F o0_1).bind (fun e => match e with | .inl r_7 => if (r_7.1.length : Int) ≤ (4 : Int) then ck ((mJ F r_7.1 (aU ⟨#[48, 49, 50, 51, 52, 53, 54, 55, 56, 57]⟩)).isSome = true) ((dF F ((decide ((r_7.1.length : Int) ≤ (4 : Int))) && (decide (((mJ F r_7.1 (aU ⟨#[48, 49, 50, 51, 52, 53, 54, 55, 56, 57]⟩)).getD ([] : List Nat)) = (aU ⟨#[]⟩)))) r_7.2).bind (fun e => match e with | .inl r_18 => nZ F r_7 r_18 | .inr p_19 => some (.inr p_19))) else (dF F false r_7.2).bind (fun e => match e with | .inl r_20 => nZ F r_7 r_20 | .inr p_21 => some (.inr p_21)) | .inr p_8 => some (.inr p_8))
def fN (F : Md) : fW where
 D := qo × ((Int × qo) ⊕ q8)
 av := fun d => [.ptr 0 []]
 hp := fun d => [.box 3 (.val qk d.1)]
 m := 1
 pre := fun d => lI F d.1 = some d.2
 out := fun d => match d.2 with | .inl r => .ret (.val qe r.1) [.box 3 (.val qk r.2)] | .inr p => .pan ⟨65, wi, p⟩ [.box 3 (.junk)]
abbrev qS (F : Md) : List (FuncId × aI) := [(96, (pQ F)), (97, (lK F))]
theorem aB2 [Mx] (F : Md) : bJ Tryz.prog GL (qS F) := .cons (aF9 F) xAa (.cons (aBB F) xAa (.nil))
theorem kL [Mx] (F : Md) : GOK Tryz.prog GL 51 (fN F) := by
 refine eI (aT (aB2 F)) Tryz.func51 rfl xAa (fun _ => Nat.le_of_ble_eq_true rfl) fun c0 w0 d hw1 hw2 h hn => ?_
 have hF : fT ⟨Tryz.prog, EM (qS F), GM (fN F) c0 d, w0, Tryz.f51.ntmps, []⟩ := ⟨aT (aB2 F), mix⟩
 obtain ⟨(o0_1 : qo), r⟩ := d
 replace h : lI F o0_1 = some r := h
 have hw1 : AV.wfL [.ptr 0 []] := hw1
 simp only [AV.wfL, AV.wfV, Ty.wf, fF] at hw1
 show Tri _ _ _ [(0, .ptr 0 [])] [.box 3 (.val qk o0_1)]
 unfold lI at h
 refine aB (aF hF [0] (yaA ?_))
 obtain ⟨e, he1, h⟩ := bind_some h
 rcases e with r_7 | p_8
 ·try dsimp only at h
  refine aA (aB (aC hF (aG (l := [(53, ⟨bM F, [0], (o0_1, .inl r_7)⟩)]) (.cons (bR F) xAa (.nil))) [0, 3] [] (yaB ?_)))
  refine aA (qW (D := qo) (fun d => nZ F r_7 d = some r) [3] (fun d => []) (fun d => [.inr (.box 3 (.val qk d))]) ?_ ?_)
  ·by_cases hq : (r_7.1.length : Int) ≤ (4 : Int)
   ·have h := eC hq h
    obtain ⟨g0, h⟩ := aQ h
    obtain ⟨e, he2, h⟩ := bind_some h
    rcases e with r_18 | p_19
    ·try dsimp only at h
     refine aC hF (aG (l := [(54, ⟨bI F, [0], (((decide ((r_7.1.length : Int) ≤ (4 : Int))) && (decide (((mJ F r_7.1 (aU ⟨#[48, 49, 50, 51, 52, 53, 54, 55, 56, 57]⟩)).getD ([] : List Nat)) = (aU ⟨#[]⟩)))), r_7.2, .inl r_18)⟩)]) (.cons (bQ F) xAa (.nil))) [3] [] (yaB ?_)
     refine ⟨fun _ => (yaD ?_), fun hx => by first | (exfalso; omega) | (exfalso; simp_all; done)⟩
     refine ⟨fun _ => (yaD ?_), fun hx => by first | (exfalso; omega) | (exfalso; simp_all; done)⟩
     refine ⟨fun _ => (yaD ?_), fun hx => by first | (exfalso; omega) | (exfalso; simp_all; done)⟩
     refine bY (aZ (r_18) h rfl ?_)
     ·exact zAG
    ·try dsimp only at h
     refine aC hF (aG (l := [(54, ⟨bI F, [0], (((decide ((r_7.1.length : Int) ≤ (4 : Int))) && (decide (((mJ F r_7.1 (aU ⟨#[48, 49, 50, 51, 52, 53, 54, 55, 56, 57]⟩)).getD ([] : List Nat)) = (aU ⟨#[]⟩)))), r_7.2, .inr p_19)⟩)]) (.cons (bQ F) xAa (.nil))) [3] [] (yaB ?_)
     exact zas
   ·have h := eD hq h
    obtain ⟨e, he3, h⟩ := bind_some h
    rcases e with r_20 | p_21
    ·try dsimp only at h
     refine aC hF (aG (l := [(54, ⟨bI F, [0], (false, r_7.2, .inl r_20)⟩)]) (.cons (bQ F) xAa (.nil))) [3] [] (yaB ?_)
     first | (refine ⟨fun hx => by first | (exfalso; omega) | (exfalso; simp_all; done), fun _ => ?_⟩) | (with_reducible intro _) | skip
     repeat (refine ⟨zAA, ?_⟩)
     first | (refine ⟨fun hx => by first | (exfalso; omega) | (exfalso; simp_all; done), fun _ => ?_⟩) | (with_reducible intro _) | skip
     repeat (refine ⟨zAA, ?_⟩)
     first | (refine ⟨fun hx => by first | (exfalso; omega) | (exfalso; simp_all; done), fun _ => ?_⟩) | (with_reducible intro _) | skip
     repeat (refine ⟨zAA, ?_⟩)
     refine bY (aZ (r_20) h rfl ?_)
     ·exact zAG
    ·try dsimp only at h
     refine aC hF (aG (l := [(54, ⟨bI F, [0], (false, r_7.2, .inr p_21)⟩)]) (.cons (bQ F) xAa (.nil))) [3] [] (yaB ?_)
     first | (refine ⟨fun hx => by first | (exfalso; omega) | (exfalso; simp_all; done), fun _ => ?_⟩) | (with_reducible intro _) | skip
     repeat (refine ⟨zAA, ?_⟩)
     exact zaQ
  ·rintro x_17 h
   try dsimp only at h
   simp only [go_sem]
   unfold nZ at h
   refine aB (aF hF [4] (yaA ?_))
   obtain ⟨g0, h⟩ := aQ h
   repeat (refine ⟨zAA, ?_⟩)
   exact zaV
 ·try dsimp only at h
  exact zau
attribute [go_sem] fN
def fO (F : Md) (o0_1 : qo) : Option ((qd × qo) ⊕ q8) :=
 (dT F o0_1).bind (fun e => match e with | .inl r_7 => ck ((qM F r_7.1).isSome = true) ((dF F ((qM F r_7.1).getD false) r_7.2).bind (fun e => match e with | .inl r_13 => some (.inl (r_7.1, r_13)) | .inr p_14 => some (.inr p_14))) | .inr p_8 => some (.inr p_8))
def eH (F : Md) : fW where
 D := qo × ((qd × qo) ⊕ q8)
 av := fun d => [.ptr 0 []]
 hp := fun d => [.box 3 (.val qk d.1)]
 m := 1
 pre := fun d => fO F d.1 = some d.2
 out := fun d => match d.2 with | .inl r => .ret (.val .str r.1) [.box 3 (.val qk r.2)] | .inr p => .pan ⟨65, wi, p⟩ [.box 3 (.junk)]
abbrev uG (F : Md) : List (FuncId × aI) := [(98, (rJ F))]
theorem aBt [Mx] (F : Md) : bJ Tryz.prog GL (uG F) := .cons (aHd F) xAa (.nil)
theorem gU [Mx] (F : Md) : GOK Tryz.prog GL 52 (eH F) := by
 refine eI (aT (aBt F)) Tryz.func52 rfl xAa (fun _ => Nat.le_of_ble_eq_true rfl) fun c0 w0 d hw1 hw2 h hn => ?_
 have hF : fT ⟨Tryz.prog, EM (uG F), GM (eH F) c0 d, w0, Tryz.f52.ntmps, []⟩ := ⟨aT (aBt F), mix⟩
 obtain ⟨(o0_1 : qo), r⟩ := d
 replace h : fO F o0_1 = some r := h
 have hw1 : AV.wfL [.ptr 0 []] := hw1
 simp only [AV.wfL, AV.wfV, Ty.wf, fF] at hw1
 show Tri _ _ _ [(0, .ptr 0 [])] [.box 3 (.val qk o0_1)]
 unfold fO at h
 refine aB (aF hF [0] (yaA ?_))
 obtain ⟨e, he1, h⟩ := bind_some h
 rcases e with r_7 | p_8
 ·try dsimp only at h
  refine aA (aB (aC hF (aG (l := [(53, ⟨bM F, [0], (o0_1, .inl r_7)⟩)]) (.cons (bR F) xAa (.nil))) [0, 3] [] (yaB ?_)))
  obtain ⟨g0, h⟩ := aQ h
  obtain ⟨e, he2, h⟩ := bind_some h
  rcases e with r_13 | p_14
  ·try dsimp only at h
   refine aA (aB (aC hF (aG (l := [(54, ⟨bI F, [0], (((qM F r_7.1).getD false), r_7.2, .inl r_13)⟩)]) (.cons (bQ F) xAa (.nil))) [3] [] (yaB ?_)))
   exact zaV
  ·try dsimp only at h
   refine aA (aB (aC hF (aG (l := [(54, ⟨bI F, [0], (((qM F r_7.1).getD false), r_7.2, .inr p_14)⟩)]) (.cons (bQ F) xAa (.nil))) [3] [] (yaB ?_)))
   exact zaL
 ·try dsimp only at h
  exact zau
attribute [go_sem] eH
def jK (F : Md) (o0_1 : qo) : Option ((qd × qo) ⊕ q8) :=
 (dT F o0_1).bind (fun e => match e with | .inl r_7 => ck ((eX F r_7.1).isSome = true) ((dF F ((eX F r_7.1).getD false) r_7.2).bind (fun e => match e with | .inl r_13 => some (.inl (r_7.1, r_13)) | .inr p_14 => some (.inr p_14))) | .inr p_8 => some (.inr p_8))
def dV (F : Md) : fW where
 D := qo × ((qd × qo) ⊕ q8)
 av := fun d => [.ptr 0 []]
 hp := fun d => [.box 3 (.val qk d.1)]
 m := 1
 pre := fun d => jK F d.1 = some d.2
 out := fun d => match d.2 with | .inl r => .ret (.val .str r.1) [.box 3 (.val qk r.2)] | .inr p => .pan ⟨65, wi, p⟩ [.box 3 (.junk)]
abbrev zZ (F : Md) : List (FuncId × aI) := [(78, (oI F))]
theorem aDX [Mx] (F : Md) : bJ Tryz.prog GL (zZ F) := .cons (aEj F) xAa (.nil)
theorem fQ [Mx] (F : Md) : GOK Tryz.prog GL 58 (dV F) := by
 refine eI (aT (aDX F)) Tryz.func58 rfl xAa (fun _ => Nat.le_of_ble_eq_true rfl) fun c0 w0 d hw1 hw2 h hn => ?_
 have hF : fT ⟨Tryz.prog, EM (zZ F), GM (dV F) c0 d, w0, Tryz.f58.ntmps, []⟩ := ⟨aT (aDX F), mix⟩
 obtain ⟨(o0_1 : qo), r⟩ := d
 replace h : jK F o0_1 = some r := h
 have hw1 : AV.wfL [.ptr 0 []] := hw1
 simp only [AV.wfL, AV.wfV, Ty.wf, fF] at hw1
 show Tri _ _ _ [(0, .ptr 0 [])] [.box 3 (.val qk o0_1)]
 unfold jK at h
 refine aB (aF hF [0] (yaA ?_))
 obtain ⟨e, he1, h⟩ := bind_some h
 rcases e with r_7 | p_8
 ·try dsimp only at h
  refine aA (aB (aC hF (aG (l := [(53, ⟨bM F, [0], (o0_1, .inl r_7)⟩)]) (.cons (bR F) xAa (.nil))) [0, 3] [] (yaB ?_)))
  obtain ⟨g0, h⟩ := aQ h
  obtain ⟨e, he2, h⟩ := bind_some h
  rcases e with r_13 | p_14
  ·try dsimp only at h
   refine aA (aB (aC hF (aG (l := [(54, ⟨bI F, [0], (((eX F r_7.1).getD false), r_7.2, .inl r_13)⟩)]) (.cons (bQ F) xAa (.nil))) [3] [] (yaB ?_)))
   exact zaV
  ·try dsimp only at h
   refine aA (aB (aC hF (aG (l := [(54, ⟨bI F, [0], (((eX F r_7.1).getD false), r_7.2, .inr p_14)⟩)]) (.cons (bQ F) xAa (.nil))) [3] [] (yaB ?_)))
   exact zaL
 ·try dsimp only at h
  exact zau
attribute [go_sem] dV
def qF (F : Md) (o0_1 : qo) : Option ((qv × qo) ⊕ q8) :=
 (dT F o0_1).bind (fun e => match e with | .inl r_7 => ck ((lB F r_7.1).isSome = true) ((dF F ((lB F r_7.1).getD false) r_7.2).bind (fun e => match e with | .inl r_13 => (jJ F r_13).bind (fun r_19 => ck ((lB F r_19.1).isSome = true) (if ((lB F r_19.1).getD false) = true then (dT F r_19.2).bind (fun e => match e with | .inl r_20 => some (.inl ((r_7.1, r_20.1, ()), r_20.2)) | .inr p_21 => some (.inr p_21)) else some (.inl ((r_7.1, ([] : List Nat), ()), r_19.2)))) | .inr p_14 => some (.inr p_14))) | .inr p_8 => some (.inr p_8))
def kC (F : Md) : fW where
 D := qo × ((qv × qo) ⊕ q8)
 av := fun d => [.ptr 0 []]
 hp := fun d => [.box 3 (.val qk d.1)]
 m := 1
 pre := fun d => qF F d.1 = some d.2
 out := fun d => match d.2 with | .inl r => .ret (.val qg r.1) [.box 3 (.val qk r.2)] | .inr p => .pan ⟨65, wi, p⟩ [.box 3 (.junk)]
abbrev aAa (F : Md) : List (FuncId × aI) := [(133, (xI F))]
theorem aDY [Mx] (F : Md) : bJ Tryz.prog GL (aAa F) := .cons (aNr F) xAa (.nil)
theorem rX [Mx] (F : Md) : GOK Tryz.prog GL 99 (kC F) := by
 refine eI (aT (aDY F)) Tryz.func99 rfl xAa (fun _ => Nat.le_of_ble_eq_true rfl) fun c0 w0 d hw1 hw2 h hn => ?_
 have hF : fT ⟨Tryz.prog, EM (aAa F), GM (kC F) c0 d, w0, Tryz.f99.ntmps, []⟩ := ⟨aT (aDY F), mix⟩
 obtain ⟨(o0_1 : qo), r⟩ := d
 replace h : qF F o0_1 = some r := h
 have hw1 : AV.wfL [.ptr 0 []] := hw1
 simp only [AV.wfL, AV.wfV, Ty.wf, fF] at hw1
 show Tri _ _ _ [(0, .ptr 0 [])] [.box 3 (.val qk o0_1)]
 unfold qF at h
 refine aB (aR hF [0, 2] (yaA ?_))
 refine aA (aB (aR hF [0, 2, 3] (yaA ?_)))
 obtain ⟨e, he1, h⟩ := bind_some h
 rcases e with r_7 | p_8
 ·try dsimp only at h
  refine aA (aB (aC hF (aG (l := [(53, ⟨bM F, [0], (o0_1, .inl r_7)⟩)]) (.cons (bR F) xAa (.nil))) [0, 2, 3] [] (yaB ?_)))
  obtain ⟨g0, h⟩ := aQ h
  obtain ⟨e, he2, h⟩ := bind_some h
  rcases e with r_13 | p_14
  ·try dsimp only at h
   refine aA (aB (aC hF (aG (l := [(54, ⟨bI F, [0], (((lB F r_7.1).getD false), r_7.2, .inl r_13)⟩)]) (.cons (bQ F) xAa (.nil))) [0, 2, 3] [] (yaB ?_)))
   obtain ⟨r_19, he3, h⟩ := bind_some h
   try dsimp only at h
   refine aA (aB (aB (aC hF (aG (l := [(27, ⟨gI F, [0], (r_13, r_19)⟩)]) (.cons (lW F) xAa (.nil))) [0, 2, 3, 4] [] (yaB ?_))))
   refine aA (aB (aF hF [0, 2, 3, 16] (yaA ?_)))
   obtain ⟨g0, h⟩ := aQ h
   repeat (refine ⟨zAA, ?_⟩)
   refine aA (bG rfl (fun hc => ?_) (fun hc => ?_))
   ·try simp only [go_sem] at hc
    have h := eC zAB h
    obtain ⟨e, he4, h⟩ := bind_some h
    rcases e with r_20 | p_21
    ·try dsimp only at h
     refine aC hF (aG (l := [(53, ⟨bM F, [0], (r_19.2, .inl r_20)⟩)]) (.cons (bR F) xAa (.nil))) [2, 3] [] (yaB ?_)
     refine aA (aB (aR hF [2] (yaA ?_)))
     obtain rfl := Option.some.inj h
     refine aA (cD (jP hF [.cell 2 85] [0] rfl rfl rfl rfl rfl rfl rfl rfl rfl ?_))
     exact zaB
    ·try dsimp only at h
     refine aC hF (aG (l := [(53, ⟨bM F, [0], (r_19.2, .inr p_21)⟩)]) (.cons (bR F) xAa (.nil))) [2, 3] [] (yaB ?_)
     exact zaH
   ·try simp only [go_sem] at hc
    have h := eD zAB h
    refine cI (aA (aB (aR hF [2] (yaA ?_))))
    obtain rfl := Option.some.inj h
    refine aA (cD (jP hF [.cell 2 85] [0] rfl rfl rfl rfl rfl rfl rfl rfl rfl ?_))
    exact zaB
  ·try dsimp only at h
   refine aA (aB (aC hF (aG (l := [(54, ⟨bI F, [0], (((lB F r_7.1).getD false), r_7.2, .inr p_14)⟩)]) (.cons (bQ F) xAa (.nil))) [0, 2, 3] [] (yaB ?_)))
   exact zaH
 ·try dsimp only at h
  refine aA (aB (aC hF (aG (l := [(53, ⟨bM F, [0], (o0_1, .inr p_8)⟩)]) (.cons (bR F) xAa (.nil))) [0, 2, 3] [] (yaB ?_)))
  exact zaH
attribute [go_sem] kC
def qG (F : Md) (o0_1 : qo) : Option ((Ex × qo) ⊕ q8) :=
 ck (0 ≤ o0_1.2.1 ∧ o0_1.2.1 ≤ (o0_1.2.2.1.length : Int)) (ck ((cO F (List.drop (o0_1.2.1.toNat) o0_1.2.2.1) (aU ⟨#[32]⟩)).isSome = true) (ck (I64 ((o0_1.2.2.1.length : Int) - ((((cO F (List.drop (o0_1.2.1.toNat) o0_1.2.2.1) (aU ⟨#[32]⟩)).getD ([] : List Nat)).length : Nat) : Int))) (ck ((hD F ((cO F (List.drop (o0_1.2.1.toNat) o0_1.2.2.1) (aU ⟨#[32]⟩)).getD ([] : List Nat))).isSome = true) (if ¬ (((hD F ((cO F (List.drop (o0_1.2.1.toNat) o0_1.2.2.1) (aU ⟨#[32]⟩)).getD ([] : List Nat))).getD ((Ex.mk 0 [] []), (0 : Int), (0 : Int), ())).2.2.1 = (0 : Int)) then ck (I64 (((o0_1.2.2.1.length : Int) - ((((cO F (List.drop (o0_1.2.1.toNat) o0_1.2.2.1) (aU ⟨#[32]⟩)).getD ([] : List Nat)).length : Nat) : Int)) + ((hD F ((cO F (List.drop (o0_1.2.1.toNat) o0_1.2.2.1) (aU ⟨#[32]⟩)).getD ([] : List Nat))).getD ((Ex.mk 0 [] []), (0 : Int), (0 : Int), ())).2.1)) (ck (I64 ((((o0_1.2.2.1.length : Int) - ((((cO F (List.drop (o0_1.2.1.toNat) o0_1.2.2.1) (aU ⟨#[32]⟩)).getD ([] : List Nat)).length : Nat) : Int)) + ((hD F ((cO F (List.drop (o0_1.2.1.toNat) o0_1.2.2.1) (aU ⟨#[32]⟩)).getD ([] : List Nat))).getD ((Ex.mk 0 [] []), (0 : Int), (0 : Int), ())).2.1) + (1 : Int))) (some (.inr ((o0_1.1, ((((o0_1.2.2.1.length : Int) - ((((cO F (List.drop (o0_1.2.1.toNat) o0_1.2.2.1) (aU ⟨#[32]⟩)).getD ([] : List Nat)).length : Nat) : Int)) + ((hD F ((cO F (List.drop (o0_1.2.1.toNat) o0_1.2.2.1) (aU ⟨#[32]⟩)).getD ([] : List Nat))).getD ((Ex.mk 0 [] []), (0 : Int), (0 : Int), ())).2.1) + (1 : Int)), ()), ())))) else some (.inl (((hD F ((cO F (List.drop (o0_1.2.1.toNat) o0_1.2.2.1) (aU ⟨#[32]⟩)).getD ([] : List Nat))).getD ((Ex.mk 0 [] []), (0 : Int), (0 : Int), ())).1, o0_1.1, (o0_1.2.2.1.length : Int), o0_1.2.2.1, ()))))))
def kD (F : Md) : fW where
 D := qo × ((Ex × qo) ⊕ q8)
 av := fun d => [.ptr 0 []]
 hp := fun d => [.box 3 (.val qk d.1)]
 m := 1
 pre := fun d => qG F d.1 = some d.2
 out := fun d => match d.2 with | .inl r => .ret (.val .expr r.1) [.box 3 (.val qk r.2)] | .inr p => .pan ⟨65, wi, p⟩ [.box 3 (.junk)]
abbrev tI (F : Md) : List (FuncId × aI) := [(49, (lG F)), (9, (oJ F))]
theorem aDZ [Mx] (F : Md) : bJ Tryz.prog GL (tI F) := .cons (aB0 F) xAa (.cons (aEn F) xAa (.nil))
theorem rY [Mx] (F : Md) : GOK Tryz.prog GL 100 (kD F) := by
 refine eI (aT (aDZ F)) Tryz.func100 rfl xAa (fun _ => Nat.le_of_ble_eq_true rfl) fun c0 w0 d hw1 hw2 h hn => ?_
 have hF : fT ⟨Tryz.prog, EM (tI F), GM (kD F) c0 d, w0, Tryz.f100.ntmps, []⟩ := ⟨aT (aDZ F), mix⟩
 obtain ⟨(o0_1 : qo), r⟩ := d
 replace h : qG F o0_1 = some r := h
 have hw1 : AV.wfL [.ptr 0 []] := hw1
 simp only [AV.wfL, AV.wfV, Ty.wf, fF] at hw1
 show Tri _ _ _ [(0, .ptr 0 [])] [.box 3 (.val qk o0_1)]
 unfold qG at h
 refine aB (aR hF [0, 2] (yaA ?_))
 refine aA (aB (aF hF [0, 2, 3] (yaA ?_)))
 obtain ⟨g0, h⟩ := aQ h
 obtain ⟨g1, h⟩ := aQ h
 repeat (refine ⟨zAA, ?_⟩)
 refine aA (aB (aF hF [0, 2, 3, 4] (yaA ?_)))
 obtain ⟨g0, h⟩ := aQ h
 try simp only [I64, I32] at g0
 repeat (refine ⟨zAA, ?_⟩)
 refine aA (aB (aR hF [0, 2, 4, 5, 6, 7] (yaA ?_)))
 obtain ⟨g0, h⟩ := aQ h
 repeat (refine ⟨zAA, ?_⟩)
 refine aA (aB (aB (aF hF [0, 2, 4, 5, 6, 33] (yaA ?_))))
 refine aA (bG rfl (fun hc => ?_) (fun hc => ?_))
 ·try simp only [go_sem] at hc
  have h := eC zAB h
  obtain ⟨g0, h⟩ := aQ h
  try simp only [I64, I32] at g0
  obtain ⟨g1, h⟩ := aQ h
  try simp only [I64, I32] at g1
  refine aC hF (aG (l := []) (.nil)) [0, 2, 5] [] (yaB ?_)
  exact zaH
 ·try simp only [go_sem] at hc
  have h := eD zAB h
  refine cI (aA (aB (aR hF [2, 5] (yaA ?_))))
  refine aA (aB (aR hF [2] (yaA ?_)))
  exact zaS
attribute [go_sem] kD
def qH (F : Md) (o0_1 : qo) : Option ((qv × qo) ⊕ q8) :=
 (dT F o0_1).bind (fun e => match e with | .inl r_7 => ck (aPR r_7.1 (aU ⟨#[46]⟩)) (if (wP r_7.1 (aU ⟨#[46]⟩)).2.2.1 = true then ck ((eX F (wP r_7.1 (aU ⟨#[46]⟩)).1).isSome = true) (if ((wP r_7.1 (aU ⟨#[46]⟩)).2.2.1 = true) ∧ (((eX F (wP r_7.1 (aU ⟨#[46]⟩)).1).getD false) = true) then ck ((eX F (wP r_7.1 (aU ⟨#[46]⟩)).2.1).isSome = true) ((dF F (((wP r_7.1 (aU ⟨#[46]⟩)).2.2.1 && ((eX F (wP r_7.1 (aU ⟨#[46]⟩)).1).getD false)) && ((eX F (wP r_7.1 (aU ⟨#[46]⟩)).2.1).getD false)) r_7.2).bind (fun e => match e with | .inl r_21 => some (.inl (((wP r_7.1 (aU ⟨#[46]⟩)).1, (wP r_7.1 (aU ⟨#[46]⟩)).2.1, ()), r_21)) | .inr p_22 => some (.inr p_22))) else (dF F false r_7.2).bind (fun e => match e with | .inl r_23 => some (.inl (((wP r_7.1 (aU ⟨#[46]⟩)).1, (wP r_7.1 (aU ⟨#[46]⟩)).2.1, ()), r_23)) | .inr p_24 => some (.inr p_24))) else (dF F false r_7.2).bind (fun e => match e with | .inl r_25 => some (.inl (((wP r_7.1 (aU ⟨#[46]⟩)).1, (wP r_7.1 (aU ⟨#[46]⟩)).2.1, ()), r_25)) | .inr p_26 => some (.inr p_26))) | .inr p_8 => some (.inr p_8))
def kE (F : Md) : fW where
 D := qo × ((qv × qo) ⊕ q8)
 av := fun d => [.ptr 0 []]
 hp := fun d => [.box 3 (.val qk d.1)]
 m := 1
 pre := fun d => qH F d.1 = some d.2
 out := fun d => match d.2 with | .inl r => .ret (.tup [.val .str r.1.1, .val .str r.1.2.1]) [.box 3 (.val qk r.2)] | .inr p => .pan ⟨65, wi, p⟩ [.box 3 (.junk)]
abbrev tJ (F : Md) : List (FuncId × aI) := [(25, mP), (78, (oI F))]
theorem aD0 [Mx] (F : Md) : bJ Tryz.prog GL (tJ F) := .cons aDf xAa (.cons (aEj F) xAa (.nil))
theorem rZ [Mx] (F : Md) : GOK Tryz.prog GL 56 (kE F) := by
 refine eI (aT (aD0 F)) Tryz.func56 rfl xAa (fun _ => Nat.le_of_ble_eq_true rfl) fun c0 w0 d hw1 hw2 h hn => ?_
 have hF : fT ⟨Tryz.prog, EM (tJ F), GM (kE F) c0 d, w0, Tryz.f56.ntmps, []⟩ := ⟨aT (aD0 F), mix⟩
 obtain ⟨(o0_1 : qo), r⟩ := d
 replace h : qH F o0_1 = some r := h
 have hw1 : AV.wfL [.ptr 0 []] := hw1
 simp only [AV.wfL, AV.wfV, Ty.wf, fF] at hw1
 show Tri _ _ _ [(0, .ptr 0 [])] [.box 3 (.val qk o0_1)]
 unfold qH at h
 refine aB (aF hF [0] (yaA ?_))
 obtain ⟨e, he1, h⟩ := bind_some h
 rcases e with r_7 | p_8
 ·try dsimp only at h
  obtain ⟨g0, h⟩ := aQ h
  refine aA (aB (aC hF (aG (l := [(53, ⟨bM F, [0], (o0_1, .inl r_7)⟩)]) (.cons (bR F) xAa (.nil))) [0, 4, 5, 6] [] (yaB ?_)))
  by_cases hq : (wP r_7.1 (aU ⟨#[46]⟩)).2.2.1 = true
  ·have h := eC hq h
   obtain ⟨g0, h⟩ := aQ h
   by_cases hq : ((wP r_7.1 (aU ⟨#[46]⟩)).2.2.1 = true) ∧ (((eX F (wP r_7.1 (aU ⟨#[46]⟩)).1).getD false) = true)
   ·have h := eC hq h
    obtain ⟨g1, h⟩ := aQ h
    obtain ⟨e, he2, h⟩ := bind_some h
    rcases e with r_21 | p_22
    ·try dsimp only at h
     refine aA (aB (aC hF (aG (l := [(54, ⟨bI F, [0], ((((wP r_7.1 (aU ⟨#[46]⟩)).2.2.1 && ((eX F (wP r_7.1 (aU ⟨#[46]⟩)).1).getD false)) && ((eX F (wP r_7.1 (aU ⟨#[46]⟩)).2.1).getD false)), r_7.2, .inl r_21)⟩)]) (.cons (bQ F) xAa (.nil))) [4, 5] [] (yaB ?_)))
     refine ⟨fun _ => (yaD ?_), fun hx => by first | (exfalso; omega) | (exfalso; simp_all; done)⟩
     refine ⟨fun _ => (yaD ?_), fun hx => by first | (exfalso; omega) | (exfalso; simp_all; done)⟩
     refine ⟨fun _ => (yaD ?_), fun hx => by first | (exfalso; omega) | (exfalso; simp_all; done)⟩
     refine ⟨fun _ => (yaD ?_), fun hx => by first | (exfalso; omega) | (exfalso; simp_all; done)⟩
     refine aA (aB (aF hF [2, 3] (yaA ?_)))
     obtain rfl := Option.some.inj h
     refine aA (cD (dZ hF [.tmp 2, .tmp 3] rfl rfl rfl rfl rfl rfl ?_))
     exact zaB
    ·try dsimp only at h
     refine aA (aB (aC hF (aG (l := [(54, ⟨bI F, [0], ((((wP r_7.1 (aU ⟨#[46]⟩)).2.2.1 && ((eX F (wP r_7.1 (aU ⟨#[46]⟩)).1).getD false)) && ((eX F (wP r_7.1 (aU ⟨#[46]⟩)).2.1).getD false)), r_7.2, .inr p_22)⟩)]) (.cons (bQ F) xAa (.nil))) [4, 5] [] (yaB ?_)))
     refine ⟨fun _ => (yaD ?_), fun hx => by first | (exfalso; omega) | (exfalso; simp_all; done)⟩
     exact zas
   ·have h := eD hq h
    obtain ⟨e, he3, h⟩ := bind_some h
    rcases e with r_23 | p_24
    ·try dsimp only at h
     refine aA (aB (aC hF (aG (l := [(54, ⟨bI F, [0], (false, r_7.2, .inl r_23)⟩)]) (.cons (bQ F) xAa (.nil))) [4, 5] [] (yaB ?_)))
     refine ⟨fun _ => (yaD ?_), fun hx => by first | (exfalso; omega) | (exfalso; simp_all; done)⟩
     refine ⟨fun _ => (yaD ?_), fun hx => by first | (exfalso; omega) | (exfalso; simp_all; done)⟩
     exact zae
    ·try dsimp only at h
     refine aA (aB (aC hF (aG (l := [(54, ⟨bI F, [0], (false, r_7.2, .inr p_24)⟩)]) (.cons (bQ F) xAa (.nil))) [4, 5] [] (yaB ?_)))
     refine ⟨fun _ => (yaD ?_), fun hx => by first | (exfalso; omega) | (exfalso; simp_all; done)⟩
     refine ⟨fun _ => (yaD ?_), fun hx => by first | (exfalso; omega) | (exfalso; simp_all; done)⟩
     exact zaQ
  ·have h := eD hq h
   obtain ⟨e, he4, h⟩ := bind_some h
   rcases e with r_25 | p_26
   ·try dsimp only at h
    refine aA (aB (aC hF (aG (l := [(54, ⟨bI F, [0], (false, r_7.2, .inl r_25)⟩)]) (.cons (bQ F) xAa (.nil))) [4, 5] [] (yaB ?_)))
    first | (refine ⟨fun hx => by first | (exfalso; omega) | (exfalso; simp_all; done), fun _ => ?_⟩) | (with_reducible intro _) | skip
    repeat (refine ⟨zAA, ?_⟩)
    first | (refine ⟨fun hx => by first | (exfalso; omega) | (exfalso; simp_all; done), fun _ => ?_⟩) | (with_reducible intro _) | skip
    repeat (refine ⟨zAA, ?_⟩)
    exact zae
   ·try dsimp only at h
    refine aA (aB (aC hF (aG (l := [(54, ⟨bI F, [0], (false, r_7.2, .inr p_26)⟩)]) (.cons (bQ F) xAa (.nil))) [4, 5] [] (yaB ?_)))
    first | (refine ⟨fun hx => by first | (exfalso; omega) | (exfalso; simp_all; done), fun _ => ?_⟩) | (with_reducible intro _) | skip
    repeat (refine ⟨zAA, ?_⟩)
    first | (refine ⟨fun hx => by first | (exfalso; omega) | (exfalso; simp_all; done), fun _ => ?_⟩) | (with_reducible intro _) | skip
    repeat (refine ⟨zAA, ?_⟩)
    exact zaQ
 ·try dsimp only at h
  refine aA (aB (aC hF (aG (l := [(53, ⟨bM F, [0], (o0_1, .inr p_8)⟩)]) (.cons (bR F) xAa (.nil))) [0, 4, 5, 6] [] (yaB ?_)))
  exact zaL
attribute [go_sem] kE
end
end Nu
end Go.Proofs
namespace Go.Proofs
open Go.Vc
set_option maxRecDepth 20000
namespace Nu
noncomputable section
set_option maxHeartbeats 4000000
attribute [-go_sem] Ex.kind Ex.text Ex.l
def aCC (F : Md) (k_1 : Int) (o0_3 : qf) (o1_4 : qo) : Option ((qf × qo) ⊕ q8) :=
 if k_1 = (0 : Int) then (eQ F (aU ⟨#[112, 114, 101, 99]⟩) o1_4).bind (fun e => match e with | .inl r_42 => (lI F r_42).bind (fun e => match e with | .inl r_44 => (dA F r_44.2).bind (fun e => match e with | .inl r_46 => some (.inl ((r_44.1, o0_3.2.1, o0_3.2.2.1, o0_3.2.2.2.1, o0_3.2.2.2.2.1, o0_3.2.2.2.2.2.1, o0_3.2.2.2.2.2.2.1, o0_3.2.2.2.2.2.2.2.1, o0_3.2.2.2.2.2.2.2.2.1, o0_3.2.2.2.2.2.2.2.2.2.1, ()), r_46)) | .inr p_47 => some (.inr p_47)) | .inr p_45 => some (.inr p_45)) | .inr p_43 => some (.inr p_43)) else if k_1 = (1 : Int) then (eQ F (aU ⟨#[101, 110, 100]⟩) o1_4).bind (fun e => match e with | .inl r_52 => (fO F r_52).bind (fun e => match e with | .inl r_54 => (dA F r_54.2).bind (fun e => match e with | .inl r_56 => some (.inl ((o0_3.1, o0_3.2.1, o0_3.2.2.1, o0_3.2.2.2.1, r_54.1, o0_3.2.2.2.2.2.1, o0_3.2.2.2.2.2.2.1, o0_3.2.2.2.2.2.2.2.1, o0_3.2.2.2.2.2.2.2.2.1, o0_3.2.2.2.2.2.2.2.2.2.1, ()), r_56)) | .inr p_57 => some (.inr p_57)) | .inr p_55 => some (.inr p_55)) | .inr p_53 => some (.inr p_53)) else if k_1 = (2 : Int) then (eQ F (aU ⟨#[115, 116, 101, 112]⟩) o1_4).bind (fun e => match e with | .inl r_62 => (fO F r_62).bind (fun e => match e with | .inl r_64 => (fO F r_64.2).bind (fun e => match e with | .inl r_65 => (dA F r_65.2).bind (fun e => match e with | .inl r_68 => some (.inl ((o0_3.1, o0_3.2.1, o0_3.2.2.1, o0_3.2.2.2.1, o0_3.2.2.2.2.1, r_64.1, r_65.1, o0_3.2.2.2.2.2.2.2.1, o0_3.2.2.2.2.2.2.2.2.1, o0_3.2.2.2.2.2.2.2.2.2.1, ()), r_68)) | .inr p_69 => some (.inr p_69)) | .inr p_66 => some (.inr p_66)) | .inr p_67 => some (.inr p_67)) | .inr p_63 => some (.inr p_63)) else if k_1 = (3 : Int) then (eQ F (aU ⟨#[116, 111, 108]⟩) o1_4).bind (fun e => match e with | .inl r_74 => (fO F r_74).bind (fun e => match e with | .inl r_76 => (dA F r_76.2).bind (fun e => match e with | .inl r_78 => some (.inl ((o0_3.1, o0_3.2.1, o0_3.2.2.1, o0_3.2.2.2.1, o0_3.2.2.2.2.1, o0_3.2.2.2.2.2.1, o0_3.2.2.2.2.2.2.1, r_76.1, o0_3.2.2.2.2.2.2.2.2.1, o0_3.2.2.2.2.2.2.2.2.2.1, ()), r_78)) | .inr p_79 => some (.inr p_79)) | .inr p_77 => some (.inr p_77)) | .inr p_75 => some (.inr p_75)) else if k_1 = (4 : Int) then (eQ F (aU ⟨#[116, 114, 105, 101, 115]⟩) o1_4).bind (fun e => match e with | .inl r_84 => (lI F r_84).bind (fun e => match e with | .inl r_86 => (dA F r_86.2).bind (fun e => match e with | .inl r_88 => some (.inl ((o0_3.1, r_86.1, o0_3.2.2.1, o0_3.2.2.2.1, o0_3.2.2.2.2.1, o0_3.2.2.2.2.2.1, o0_3.2.2.2.2.2.2.1, o0_3.2.2.2.2.2.2.2.1, o0_3.2.2.2.2.2.2.2.2.1, o0_3.2.2.2.2.2.2.2.2.2.1, ()), r_88)) | .inr p_89 => some (.inr p_89)) | .inr p_87 => some (.inr p_87)) | .inr p_85 => some (.inr p_85)) else if k_1 = (5 : Int) then (eQ F (aU ⟨#[111, 114, 100, 101, 114]⟩) o1_4).bind (fun e => match e with | .inl r_94 => (lI F r_94).bind (fun e => match e with | .inl r_96 => (dA F r_96.2).bind (fun e => match e with | .inl r_98 => some (.inl ((o0_3.1, o0_3.2.1, r_96.1, o0_3.2.2.2.1, o0_3.2.2.2.2.1, o0_3.2.2.2.2.2.1, o0_3.2.2.2.2.2.2.1, o0_3.2.2.2.2.2.2.2.1, o0_3.2.2.2.2.2.2.2.2.1, o0_3.2.2.2.2.2.2.2.2.2.1, ()), r_98)) | .inr p_99 => some (.inr p_99)) | .inr p_97 => some (.inr p_97)) | .inr p_95 => some (.inr p_95)) else (dT F o1_4).bind (fun e => match e with | .inl r_104 => (dF F (aB7 .str (aB8 .str (aB8 .str ([] : List wz) (aU ⟨#[106, 97, 99, 111, 98, 105]⟩) (1 : Int)) (aU ⟨#[115, 101, 105, 100, 101, 108]⟩) (2 : Int)) r_104.1).isSome r_104.2).bind (fun e => match e with | .inl r_110 => (dA F r_110).bind (fun e => match e with | .inl r_112 => some (.inl ((o0_3.1, o0_3.2.1, o0_3.2.2.1, ((aB7 .str (aB8 .str (aB8 .str ([] : List wz) (aU ⟨#[106, 97, 99, 111, 98, 105]⟩) (1 : Int)) (aU ⟨#[115, 101, 105, 100, 101, 108]⟩) (2 : Int)) r_104.1).getD (0 : Int)), o0_3.2.2.2.2.1, o0_3.2.2.2.2.2.1, o0_3.2.2.2.2.2.2.1, o0_3.2.2.2.2.2.2.2.1, o0_3.2.2.2.2.2.2.2.2.1, o0_3.2.2.2.2.2.2.2.2.2.1, ()), r_112)) | .inr p_113 => some (.inr p_113)) | .inr p_111 => some (.inr p_111)) | .inr p_105 => some (.inr p_105))
def wU (F : Md) : fW where
 D := Int × qf × qo × ((qf × qo) ⊕ q8)
 av := fun d => [.ptr 0 [], .val qe d.1, .ptr 1 []]
 hp := fun d => [.box 10 (.agg [.val qe d.2.1.1, .val qe d.2.1.2.1, .val qe d.2.1.2.2.1, .val qe d.2.1.2.2.2.1, .val .str d.2.1.2.2.2.2.1, .val .str d.2.1.2.2.2.2.2.1, .val .str d.2.1.2.2.2.2.2.2.1, .val .str d.2.1.2.2.2.2.2.2.2.1, .own 2, .own 3]), .box 3 (.val qk d.2.2.1), .tre 53 qh qa d.2.1.2.2.2.2.2.2.2.2.1, .row 83 qs d.2.1.2.2.2.2.2.2.2.2.2.1]
 m := 2
 pre := fun d => aCC F d.1 d.2.1 d.2.2.1 = some d.2.2.2
 out := fun d => match d.2.2.2 with | .inl r => .ret (.tup []) [.box 10 (.agg [.val qe r.1.1, .val qe r.1.2.1, .val qe r.1.2.2.1, .val qe r.1.2.2.2.1, .val .str r.1.2.2.2.2.1, .val .str r.1.2.2.2.2.2.1, .val .str r.1.2.2.2.2.2.2.1, .val .str r.1.2.2.2.2.2.2.2.1, .own 2, .own 3]), .box 3 (.val qk r.2), .tre 53 qh qa r.1.2.2.2.2.2.2.2.2.1, .row 83 qs r.1.2.2.2.2.2.2.2.2.2.1] | .inr p => .pan ⟨65, wi, p⟩ [.box 10 (.junk), .box 3 (.junk)]
abbrev aKs (F : Md) : List (FuncId × aI) := []
theorem aKt [Mx] (F : Md) : bJ Tryz.prog GL (aKs F) := .nil
theorem aIw [Mx] (F : Md) : GOK Tryz.prog GL 28 (wU F) := by
 refine eI (aMe (aKt F)) Tryz.func28 rfl xAa (fun _ => Nat.le_of_ble_eq_true rfl) fun c0 w0 d hw1 hw2 h hn => ?_
 have hF : fT ⟨Tryz.prog, EX (aKs F), GM (wU F) c0 d, w0, Tryz.f28.ntmps, []⟩ := ⟨aMe (aKt F), mix⟩
 obtain ⟨(k_1 : Int), (o0_3 : qf), (o1_4 : qo), r⟩ := d
 replace h : aCC F k_1 o0_3 o1_4 = some r := h
 have hw1 : AV.wfL [.ptr 0 [], .val qe k_1, .ptr 1 []] := hw1
 simp only [AV.wfL, AV.wfV, Ty.wf, fF] at hw1
 show Tri _ _ _ [(0, .ptr 0 []), (1, .val qe k_1), (2, .ptr 1 [])] [.box 10 (.agg [.val qe o0_3.1, .val qe o0_3.2.1, .val qe o0_3.2.2.1, .val qe o0_3.2.2.2.1, .val .str o0_3.2.2.2.2.1, .val .str o0_3.2.2.2.2.2.1, .val .str o0_3.2.2.2.2.2.2.1, .val .str o0_3.2.2.2.2.2.2.2.1, .own 2, .own 3]), .box 3 (.val qk o1_4), .tre 53 qh qa o0_3.2.2.2.2.2.2.2.2.1, .row 83 qs o0_3.2.2.2.2.2.2.2.2.2.1]
 unfold aCC at h
 refine aB (aB (aF hF [0, 2, 8] (yaB ?_)))
 refine aA (eB (aB (aF hF [0, 2, 8, 24] (yaB ?_))))
 refine aA (bG rfl (fun hc => ?_) (fun hc => ?_))
 ·try simp only [go_sem] at hc
  have h := eC zAB h
  obtain ⟨e, he1, h⟩ := bind_some h
  rcases e with r_42 | p_43
  ·try dsimp only at h
   refine aB (aC hF (aG (l := [(50, ⟨bU F, [1], ((aU ⟨#[112, 114, 101, 99]⟩), o1_4, .inl r_42)⟩)]) (.cons (cC F) xAa (.nil))) [0, 2] [] (yaB ?_))
   obtain ⟨e, he2, h⟩ := bind_some h
   rcases e with r_44 | p_45
   ·try dsimp only at h
    refine aA (aC hF (aG (l := [(51, ⟨fN F, [1], (r_42, .inl r_44)⟩)]) (.cons (kL F) xAa (.nil))) [2] [] (yaB ?_))
    obtain ⟨e, he3, h⟩ := bind_some h
    rcases e with r_46 | p_47
    ·try dsimp only at h
     refine bB (aA (aC hF (aG (l := [(55, ⟨bE F, [1], (r_44.2, .inl r_46)⟩)]) (.cons (bK F) xAa (.nil))) [] [] (yaB ?_)))
     exact zaO
    ·try dsimp only at h
     refine bB (aA (aC hF (aG (l := [(55, ⟨bE F, [1], (r_44.2, .inr p_47)⟩)]) (.cons (bK F) xAa (.nil))) [] [] (yaB ?_)))
     exact zah
   ·try dsimp only at h
    refine aA (aC hF (aG (l := [(51, ⟨fN F, [1], (r_42, .inr p_45)⟩)]) (.cons (kL F) xAa (.nil))) [2] [] (yaB ?_))
    exact zad
  ·try dsimp only at h
   refine aB (aC hF (aG (l := [(50, ⟨bU F, [1], ((aU ⟨#[112, 114, 101, 99]⟩), o1_4, .inr p_43)⟩)]) (.cons (cC F) xAa (.nil))) [0, 2] [] (yaB ?_))
   exact zaT
 ·try simp only [go_sem] at hc
  have h := eD zAB h
  refine aB (aF hF [0, 2, 8, 33] (yaB ?_))
  refine aA (bG rfl (fun hc => ?_) (fun hc => ?_))
  ·try simp only [go_sem] at hc
   have h := eC zAB h
   obtain ⟨e, he4, h⟩ := bind_some h
   rcases e with r_52 | p_53
   ·try dsimp only at h
    refine aB (aC hF (aG (l := [(50, ⟨bU F, [1], ((aU ⟨#[101, 110, 100]⟩), o1_4, .inl r_52)⟩)]) (.cons (cC F) xAa (.nil))) [0, 2] [] (yaB ?_))
    obtain ⟨e, he5, h⟩ := bind_some h
    rcases e with r_54 | p_55
    ·try dsimp only at h
     refine aA (aC hF (aG (l := [(52, ⟨eH F, [1], (r_52, .inl r_54)⟩)]) (.cons (gU F) xAa (.nil))) [2] [] (yaB ?_))
     obtain ⟨e, he6, h⟩ := bind_some h
     rcases e with r_56 | p_57
     ·try dsimp only at h
      refine bB (aA (aC hF (aG (l := [(55, ⟨bE F, [1], (r_54.2, .inl r_56)⟩)]) (.cons (bK F) xAa (.nil))) [] [] (yaB ?_)))
      exact zaO
     ·try dsimp only at h
      refine bB (aA (aC hF (aG (l := [(55, ⟨bE F, [1], (r_54.2, .inr p_57)⟩)]) (.cons (bK F) xAa (.nil))) [] [] (yaB ?_)))
      exact zah
    ·try dsimp only at h
     refine aA (aC hF (aG (l := [(52, ⟨eH F, [1], (r_52, .inr p_55)⟩)]) (.cons (gU F) xAa (.nil))) [2] [] (yaB ?_))
     exact zad
   ·try dsimp only at h
    refine aB (aC hF (aG (l := [(50, ⟨bU F, [1], ((aU ⟨#[101, 110, 100]⟩), o1_4, .inr p_53)⟩)]) (.cons (cC F) xAa (.nil))) [0, 2] [] (yaB ?_))
    exact zaT
  ·try simp only [go_sem] at hc
   have h := eD zAB h
   refine aB (aF hF [0, 2, 8, 42] (yaB ?_))
   refine aA (bG rfl (fun hc => ?_) (fun hc => ?_))
   ·try simp only [go_sem] at hc
    have h := eC zAB h
    obtain ⟨e, he7, h⟩ := bind_some h
    rcases e with r_62 | p_63
    ·try dsimp only at h
     refine aB (aC hF (aG (l := [(50, ⟨bU F, [1], ((aU ⟨#[115, 116, 101, 112]⟩), o1_4, .inl r_62)⟩)]) (.cons (cC F) xAa (.nil))) [0, 2] [] (yaB ?_))
     obtain ⟨e, he8, h⟩ := bind_some h
     rcases e with r_64 | p_67
     ·try dsimp only at h
      obtain ⟨e, he9, h⟩ := bind_some h
      rcases e with r_65 | p_66
      ·try dsimp only at h
       refine aA (aC hF (aSh (l := [(52, fun x => ⟨eH F, [1], ((aFu x 1 qk), (fO F (aFu x 1 qk)).getD (.inr (((0 : Int), (0 : Int), ()), ())))⟩)]) (.cons (fun _ => (gU F)) xAa (.nil))) [2] [] ?_)
       simp only [Option.getD_some, he8, he9, go_sem]
       repeat (refine ⟨zAA, ?_⟩)
       obtain ⟨e, he10, h⟩ := bind_some h
       rcases e with r_68 | p_69
       ·try dsimp only at h
        refine bB (aA (aC hF (aG (l := [(55, ⟨bE F, [1], (r_65.2, .inl r_68)⟩)]) (.cons (bK F) xAa (.nil))) [] [] (yaB ?_)))
        exact zaO
       ·try dsimp only at h
        refine bB (aA (aC hF (aG (l := [(55, ⟨bE F, [1], (r_65.2, .inr p_69)⟩)]) (.cons (bK F) xAa (.nil))) [] [] (yaB ?_)))
        exact zah
      ·try dsimp only at h
       refine aA (aC hF (aSh (l := [(52, fun x => ⟨eH F, [1], ((aFu x 1 qk), (fO F (aFu x 1 qk)).getD (.inr (((0 : Int), (0 : Int), ()), ())))⟩)]) (.cons (fun _ => (gU F)) xAa (.nil))) [2] [] ?_)
       simp only [Option.getD_some, he8, he9, go_sem]
       repeat (refine ⟨zAA, ?_⟩)
       exact zad
     ·try dsimp only at h
      refine aA (aC hF (aG (l := [(52, ⟨eH F, [1], (r_62, .inr p_67)⟩)]) (.cons (gU F) xAa (.nil))) [2] [] (yaB ?_))
      exact zad
    ·try dsimp only at h
     refine aB (aC hF (aG (l := [(50, ⟨bU F, [1], ((aU ⟨#[115, 116, 101, 112]⟩), o1_4, .inr p_63)⟩)]) (.cons (cC F) xAa (.nil))) [0, 2] [] (yaB ?_))
     exact zaT
   ·try simp only [go_sem] at hc
    have h := eD zAB h
    refine aB (aF hF [0, 2, 8, 56] (yaB ?_))
    refine aA (bG rfl (fun hc => ?_) (fun hc => ?_))
    ·try simp only [go_sem] at hc
     have h := eC zAB h
     obtain ⟨e, he11, h⟩ := bind_some h
     rcases e with r_74 | p_75
     ·try dsimp only at h
      refine aB (aC hF (aG (l := [(50, ⟨bU F, [1], ((aU ⟨#[116, 111, 108]⟩), o1_4, .inl r_74)⟩)]) (.cons (cC F) xAa (.nil))) [0, 2] [] (yaB ?_))
      obtain ⟨e, he12, h⟩ := bind_some h
      rcases e with r_76 | p_77
      ·try dsimp only at h
       refine aA (aC hF (aG (l := [(52, ⟨eH F, [1], (r_74, .inl r_76)⟩)]) (.cons (gU F) xAa (.nil))) [2] [] (yaB ?_))
       obtain ⟨e, he13, h⟩ := bind_some h
       rcases e with r_78 | p_79
       ·try dsimp only at h
        refine bB (aA (aC hF (aG (l := [(55, ⟨bE F, [1], (r_76.2, .inl r_78)⟩)]) (.cons (bK F) xAa (.nil))) [] [] (yaB ?_)))
        exact zaO
       ·try dsimp only at h
        refine bB (aA (aC hF (aG (l := [(55, ⟨bE F, [1], (r_76.2, .inr p_79)⟩)]) (.cons (bK F) xAa (.nil))) [] [] (yaB ?_)))
        exact zah
      ·try dsimp only at h
       refine aA (aC hF (aG (l := [(52, ⟨eH F, [1], (r_74, .inr p_77)⟩)]) (.cons (gU F) xAa (.nil))) [2] [] (yaB ?_))
       exact zad
     ·try dsimp only at h
      refine aB (aC hF (aG (l := [(50, ⟨bU F, [1], ((aU ⟨#[116, 111, 108]⟩), o1_4, .inr p_75)⟩)]) (.cons (cC F) xAa (.nil))) [0, 2] [] (yaB ?_))
      exact zaT
    ·try simp only [go_sem] at hc
     have h := eD zAB h
     refine aB (aF hF [0, 2, 8, 65] (yaB ?_))
     refine aA (bG rfl (fun hc => ?_) (fun hc => ?_))
     ·try simp only [go_sem] at hc
      have h := eC zAB h
      obtain ⟨e, he14, h⟩ := bind_some h
      rcases e with r_84 | p_85
      ·try dsimp only at h
       refine aB (aC hF (aG (l := [(50, ⟨bU F, [1], ((aU ⟨#[116, 114, 105, 101, 115]⟩), o1_4, .inl r_84)⟩)]) (.cons (cC F) xAa (.nil))) [0, 2] [] (yaB ?_))
       obtain ⟨e, he15, h⟩ := bind_some h
       rcases e with r_86 | p_87
       ·try dsimp only at h
        refine aA (aC hF (aG (l := [(51, ⟨fN F, [1], (r_84, .inl r_86)⟩)]) (.cons (kL F) xAa (.nil))) [2] [] (yaB ?_))
        obtain ⟨e, he16, h⟩ := bind_some h
        rcases e with r_88 | p_89
        ·try dsimp only at h
         refine bB (aA (aC hF (aG (l := [(55, ⟨bE F, [1], (r_86.2, .inl r_88)⟩)]) (.cons (bK F) xAa (.nil))) [] [] (yaB ?_)))
         exact zaO
        ·try dsimp only at h
         refine bB (aA (aC hF (aG (l := [(55, ⟨bE F, [1], (r_86.2, .inr p_89)⟩)]) (.cons (bK F) xAa (.nil))) [] [] (yaB ?_)))
         exact zah
       ·try dsimp only at h
        refine aA (aC hF (aG (l := [(51, ⟨fN F, [1], (r_84, .inr p_87)⟩)]) (.cons (kL F) xAa (.nil))) [2] [] (yaB ?_))
        exact zad
      ·try dsimp only at h
       refine aB (aC hF (aG (l := [(50, ⟨bU F, [1], ((aU ⟨#[116, 114, 105, 101, 115]⟩), o1_4, .inr p_85)⟩)]) (.cons (cC F) xAa (.nil))) [0, 2] [] (yaB ?_))
       exact zaT
     ·try simp only [go_sem] at hc
      have h := eD zAB h
      refine aB (aF hF [0, 2, 74] (yaB ?_))
      refine aA (bG rfl (fun hc => ?_) (fun hc => ?_))
      ·try simp only [go_sem] at hc
       have h := eC zAB h
       obtain ⟨e, he17, h⟩ := bind_some h
       rcases e with r_94 | p_95
       ·try dsimp only at h
        refine aB (aC hF (aG (l := [(50, ⟨bU F, [1], ((aU ⟨#[111, 114, 100, 101, 114]⟩), o1_4, .inl r_94)⟩)]) (.cons (cC F) xAa (.nil))) [0, 2] [] (yaB ?_))
        obtain ⟨e, he18, h⟩ := bind_some h
        rcases e with r_96 | p_97
        ·try dsimp only at h
         refine aA (aC hF (aG (l := [(51, ⟨fN F, [1], (r_94, .inl r_96)⟩)]) (.cons (kL F) xAa (.nil))) [2] [] (yaB ?_))
         obtain ⟨e, he19, h⟩ := bind_some h
         rcases e with r_98 | p_99
         ·try dsimp only at h
          refine bB (aA (aC hF (aG (l := [(55, ⟨bE F, [1], (r_96.2, .inl r_98)⟩)]) (.cons (bK F) xAa (.nil))) [] [] (yaB ?_)))
          exact zaO
         ·try dsimp only at h
          refine bB (aA (aC hF (aG (l := [(55, ⟨bE F, [1], (r_96.2, .inr p_99)⟩)]) (.cons (bK F) xAa (.nil))) [] [] (yaB ?_)))
          exact zah
        ·try dsimp only at h
         refine aA (aC hF (aG (l := [(51, ⟨fN F, [1], (r_94, .inr p_97)⟩)]) (.cons (kL F) xAa (.nil))) [2] [] (yaB ?_))
         exact zad
       ·try dsimp only at h
        refine aB (aC hF (aG (l := [(50, ⟨bU F, [1], ((aU ⟨#[111, 114, 100, 101, 114]⟩), o1_4, .inr p_95)⟩)]) (.cons (cC F) xAa (.nil))) [0, 2] [] (yaB ?_))
        exact zaT
      ·try simp only [go_sem] at hc
       have h := eD zAB h
       obtain ⟨e, he20, h⟩ := bind_some h
       rcases e with r_104 | p_105
       ·try dsimp only at h
        refine aB (aC hF (aG (l := [(53, ⟨bM F, [1], (o1_4, .inl r_104)⟩)]) (.cons (bR F) xAa (.nil))) [0, 2, 6, 7] [] (yaB ?_))
        obtain ⟨e, he21, h⟩ := bind_some h
        rcases e with r_110 | p_111
        ·try dsimp only at h
         refine aA (aB (aC hF (aG (l := [(54, ⟨bI F, [1], ((aB7 .str (aB8 .str (aB8 .str ([] : List wz) (aU ⟨#[106, 97, 99, 111, 98, 105]⟩) (1 : Int)) (aU ⟨#[115, 101, 105, 100, 101, 108]⟩) (2 : Int)) r_104.1).isSome, r_104.2, .inl r_110)⟩)]) (.cons (bQ F) xAa (.nil))) [0, 2, 6] [] (yaB ?_)))
         refine aA (aR hF [2] (yaB ?_))
         obtain ⟨e, he22, h⟩ := bind_some h
         rcases e with r_112 | p_113
         ·try dsimp only at h
          refine bB (aA (aC hF (aG (l := [(55, ⟨bE F, [1], (r_110, .inl r_112)⟩)]) (.cons (bK F) xAa (.nil))) [] [] (yaB ?_)))
          obtain rfl := Option.some.inj h
          refine gF (gT [0, 1, 2, 3] rfl rfl (yaC ?_))
          exact zak
         ·try dsimp only at h
          refine bB (aA (aC hF (aG (l := [(55, ⟨bE F, [1], (r_110, .inr p_113)⟩)]) (.cons (bK F) xAa (.nil))) [] [] (yaB ?_)))
          exact zah
        ·try dsimp only at h
         refine aA (aB (aC hF (aG (l := [(54, ⟨bI F, [1], ((aB7 .str (aB8 .str (aB8 .str ([] : List wz) (aU ⟨#[106, 97, 99, 111, 98, 105]⟩) (1 : Int)) (aU ⟨#[115, 101, 105, 100, 101, 108]⟩) (2 : Int)) r_104.1).isSome, r_104.2, .inr p_111)⟩)]) (.cons (bQ F) xAa (.nil))) [0, 2, 6] [] (yaB ?_)))
         exact zaT
       ·try dsimp only at h
        refine aB (aC hF (aG (l := [(53, ⟨bM F, [1], (o1_4, .inr p_105)⟩)]) (.cons (bR F) xAa (.nil))) [0, 2, 6, 7] [] (yaB ?_))
        exact zaT
attribute [go_sem] wU
def aCD (F : Md) (ox0_2 : wu) (ok0_2 : Nat) (o0_2 : qc) (o1_3 : qo) : Option ((qc × qo) ⊕ q8) :=
 (dT F o1_3).bind (fun e => match e with | .inl r_41 => if r_41.1 = (aU ⟨#[115, 116, 97, 116, 101]⟩) then (jK F r_41.2).bind (fun e => match e with | .inl r_47 => (eQ F (aU ⟨#[61]⟩) r_47.2).bind (fun e => match e with | .inl r_53 => (qF F r_53).bind (fun e => match e with | .inl r_59 => (eQ F (aU ⟨#[100, 101, 114]⟩) r_59.2).bind (fun e => match e with | .inl r_65 => (qG F r_65).bind (fun e => match e with | .inl r_71 => ck (((o0_2.2.1.length) + (1 : Nat)) * 145 ≤ 140737488355328) ((dA F r_71.2).bind (fun e => match e with | .inl r_73 => some (.inl ((o0_2.1, (o0_2.2.1 ++ ([(r_47.1, r_59.1, r_71.1, ())] : List wa)), o0_2.2.2.1, o0_2.2.2.2.1, o0_2.2.2.2.2.1, ()), r_73)) | .inr p_74 => some (.inr p_74))) | .inr p_72 => some (.inr p_72)) | .inr p_66 => some (.inr p_66)) | .inr p_60 => some (.inr p_60)) | .inr p_54 => some (.inr p_54)) | .inr p_48 => some (.inr p_48)) else if r_41.1 = (aU ⟨#[112, 97, 114]⟩) then (jK F r_41.2).bind (fun e => match e with | .inl r_79 => (eQ F (aU ⟨#[61]⟩) r_79.2).bind (fun e => match e with | .inl r_85 => (qF F r_85).bind (fun e => match e with | .inl r_91 => ck (((o0_2.2.2.1.length) + (1 : Nat)) * 73 ≤ 140737488355328) ((dA F r_91.2).bind (fun e => match e with | .inl r_93 => some (.inl ((o0_2.1, o0_2.2.1, (o0_2.2.2.1 ++ ([(r_79.1, r_91.1, ())] : List wc)), o0_2.2.2.2.1, o0_2.2.2.2.2.1, ()), r_93)) | .inr p_94 => some (.inr p_94))) | .inr p_92 => some (.inr p_92)) | .inr p_86 => some (.inr p_86)) | .inr p_80 => some (.inr p_80)) else if r_41.1 = (aU ⟨#[105, 110]⟩) then (jK F r_41.2).bind (fun e => match e with | .inl r_95 => ck (((o0_2.2.2.2.1.length) + (1 : Nat)) * 16 ≤ 140737488355328) ((dA F r_95.2).bind (fun e => match e with | .inl r_97 => some (.inl ((o0_2.1, o0_2.2.1, o0_2.2.2.1, (o0_2.2.2.2.1 ++ ([r_95.1] : List qd)), o0_2.2.2.2.2.1, ()), r_97)) | .inr p_98 => some (.inr p_98))) | .inr p_96 => some (.inr p_96)) else if r_41.1 = (aU ⟨#[111, 117, 116]⟩) then (jK F r_41.2).bind (fun e => match e with | .inl r_103 => (eQ F (aU ⟨#[61]⟩) r_103.2).bind (fun e => match e with | .inl r_109 => (qG F r_109).bind (fun e => match e with | .inl r_115 => ck (((o0_2.2.2.2.2.1.length) + (1 : Nat)) * 97 ≤ 140737488355328) ((dA F r_115.2).bind (fun e => match e with | .inl r_117 => some (.inl ((o0_2.1, o0_2.2.1, o0_2.2.2.1, o0_2.2.2.2.1, (o0_2.2.2.2.2.1 ++ ([(r_103.1, r_115.1, ())] : List qz)), ()), r_117)) | .inr p_118 => some (.inr p_118))) | .inr p_116 => some (.inr p_116)) | .inr p_110 => some (.inr p_110)) | .inr p_104 => some (.inr p_104)) else (lC F r_41.2).bind (fun e => match e with | .inl r_119 => (dA F r_119).bind (fun e => match e with | .inl r_121 => some (.inl ((o0_2.1, o0_2.2.1, o0_2.2.2.1, o0_2.2.2.2.1, o0_2.2.2.2.2.1, ()), r_121)) | .inr p_122 => some (.inr p_122)) | .inr p_120 => some (.inr p_120)) | .inr p_42 => some (.inr p_42))
def wV (F : Md) : fW where
 D := wu × Nat × qc × qo × ((qc × qo) ⊕ q8)
 av := fun d => [.ptr 0 [.idx 5 d.2.1], .ptr 1 []]
 hp := fun d => [.trh 53 qh qa d.1 d.2.1 (.agg [.val .str d.2.2.1.1, .own 2, .own 3, .own 4, .own 5]), .box 3 (.val qk d.2.2.2.1), .row 87 qq d.2.2.1.2.1, .row 123 qu d.2.2.1.2.2.1, .row 9 .str d.2.2.1.2.2.2.1, .row 89 qr d.2.2.1.2.2.2.2.1]
 m := 2
 pre := fun d => aCD F d.1 d.2.1 d.2.2.1 d.2.2.2.1 = some d.2.2.2.2
 out := fun d => match d.2.2.2.2 with | .inl r => .ret (.tup []) [.trh 53 qh qa d.1 d.2.1 (.agg [.val .str r.1.1, .own 2, .own 3, .own 4, .own 5]), .box 3 (.val qk r.2), .row 87 qq r.1.2.1, .row 123 qu r.1.2.2.1, .row 9 .str r.1.2.2.2.1, .row 89 qr r.1.2.2.2.2.1] | .inr p => .pan ⟨65, wi, p⟩ [.dead, .box 3 (.junk)]
abbrev aKu (F : Md) : List (FuncId × aI) := []
theorem aKv [Mx] (F : Md) : bJ Tryz.prog GL (aKu F) := .nil
theorem aIx [Mx] (F : Md) : GOK Tryz.prog GL 59 (wV F) := by
 refine eI (aMe (aKv F)) Tryz.func59 rfl xAa (fun _ => Nat.le_of_ble_eq_true rfl) fun c0 w0 d hw1 hw2 h hn => ?_
 have hF : fT ⟨Tryz.prog, EX (aKu F), GM (wV F) c0 d, w0, Tryz.f59.ntmps, []⟩ := ⟨aMe (aKv F), mix⟩
 obtain ⟨(ox0_2 : wu), (ok0_2 : Nat), (o0_2 : qc), (o1_3 : qo), r⟩ := d
 replace h : aCD F ox0_2 ok0_2 o0_2 o1_3 = some r := h
 have hw1 : AV.wfL [.ptr 0 [.idx 5 ok0_2], .ptr 1 []] := hw1
 simp only [AV.wfL, AV.wfV, Ty.wf, fF] at hw1
 show Tri _ _ _ [(0, .ptr 0 [.idx 5 ok0_2]), (1, .ptr 1 [])] [.trh 53 qh qa ox0_2 ok0_2 (.agg [.val .str o0_2.1, .own 2, .own 3, .own 4, .own 5]), .box 3 (.val qk o1_3), .row 87 qq o0_2.2.1, .row 123 qu o0_2.2.2.1, .row 9 .str o0_2.2.2.2.1, .row 89 qr o0_2.2.2.2.2.1]
 unfold aCD at h
 obtain ⟨e, he1, h⟩ := bind_some h
 rcases e with r_41 | p_42
 ·try dsimp only at h
  refine aB (aB (aC hF (aG (l := [(53, ⟨bM F, [1], (o1_3, .inl r_41)⟩)]) (.cons (bR F) xAa (.nil))) [0, 1, 8] [] (yaB ?_)))
  refine aA (eB (aB (aF hF [0, 1, 8, 11] (yaB ?_))))
  refine aA (bG rfl (fun hc => ?_) (fun hc => ?_))
  ·try simp only [go_sem] at hc
   have h := eC zAB h
   obtain ⟨e, he2, h⟩ := bind_some h
   rcases e with r_47 | p_48
   ·try dsimp only at h
    refine aB (aC hF (aG (l := [(58, ⟨dV F, [1], (r_41.2, .inl r_47)⟩)]) (.cons (fQ F) xAa (.nil))) [0, 1, 4] [] (yaB ?_))
    obtain ⟨e, he3, h⟩ := bind_some h
    rcases e with r_53 | p_54
    ·try dsimp only at h
     refine aA (aB (aC hF (aG (l := [(50, ⟨bU F, [1], ((aU ⟨#[61]⟩), r_47.2, .inl r_53)⟩)]) (.cons (cC F) xAa (.nil))) [0, 1, 4] [] (yaB ?_)))
     obtain ⟨e, he4, h⟩ := bind_some h
     rcases e with r_59 | p_60
     ·try dsimp only at h
      refine aA (aB (aC hF (aG (l := [(99, ⟨kC F, [1], (r_53, .inl r_59)⟩)]) (.cons (rX F) xAa (.nil))) [0, 1, 4] [] (yaB ?_)))
      obtain ⟨e, he5, h⟩ := bind_some h
      rcases e with r_65 | p_66
      ·try dsimp only at h
       refine aA (aB (aC hF (aG (l := [(50, ⟨bU F, [1], ((aU ⟨#[100, 101, 114]⟩), r_59.2, .inl r_65)⟩)]) (.cons (cC F) xAa (.nil))) [0, 1, 4] [] (yaB ?_)))
       obtain ⟨e, he6, h⟩ := bind_some h
       rcases e with r_71 | p_72
       ·try dsimp only at h
        refine aA (aB (aC hF (aG (l := [(100, ⟨kD F, [1], (r_65, .inl r_71)⟩)]) (.cons (rY F) xAa (.nil))) [0, 1, 4] [] (yaB ?_)))
        obtain ⟨g0, h⟩ := aQ h
        refine aA (aDD hF [1] [6, 7, 10] [[0], [0], [27], [28], [29], [4], [31], [30, 32], [26], [34], [33, 35]] [(0, 0), (0, 1), (0, 2), (1, 0), (1, 1), (1, 2), (2, 0), (2, 1), (2, 2), (3, 0), (3, 1), (3, 2), (4, 0), (4, 1), (5, 0), (6, 0), (7, 1), (8, 2), (8, 3), (9, 2), (10, 2)] [.ptr 0 [.idx 5 ok0_2], .ptr 0 [.idx 5 ok0_2], .ptr 0 [.idx 5 ok0_2], .ptr 0 [.idx 5 ok0_2, .fld 1 1], .own 2, .val qq (r_47.1, r_59.1, r_71.1, ()), .own 7, .own 8, .ptr 0 [.idx 5 ok0_2], .ptr 0 [.idx 5 ok0_2, .fld 1 1], .junk] [[.trh 53 qh qa ox0_2 ok0_2 (.agg [.val .str o0_2.1, .own 2, .own 3, .own 4, .own 5]), .box 3 (.val qk r_71.2), .row 87 qq o0_2.2.1, .row 123 qu o0_2.2.2.1, .row 9 .str o0_2.2.2.2.1, .row 89 qr o0_2.2.2.2.2.1, .box 6 (.val qq (r_47.1, r_59.1, r_71.1, ()))], [.trh 53 qh qa ox0_2 ok0_2 (.agg [.val .str o0_2.1, .own 2, .own 3, .own 4, .own 5]), .box 3 (.val qk r_71.2), .row 87 qq o0_2.2.1, .row 123 qu o0_2.2.2.1, .row 9 .str o0_2.2.2.2.1, .row 89 qr o0_2.2.2.2.2.1, .box 6 (.val qq (r_47.1, r_59.1, r_71.1, ())), .row 87 qq ([(r_47.1, r_59.1, r_71.1, ())] : List wa)], [.trh 53 qh qa ox0_2 ok0_2 (.agg [.val .str o0_2.1, .own 2, .own 3, .own 4, .own 5]), .box 3 (.val qk r_71.2), .dead, .row 123 qu o0_2.2.2.1, .row 9 .str o0_2.2.2.2.1, .row 89 qr o0_2.2.2.2.2.1, .box 6 (.val qq (r_47.1, r_59.1, r_71.1, ())), .dead, .row 87 qq (o0_2.2.1 ++ ([(r_47.1, r_59.1, r_71.1, ())] : List wa))], [.trh 53 qh qa ox0_2 ok0_2 (.agg [.val .str o0_2.1, .own 8, .own 3, .own 4, .own 5]), .box 3 (.val qk r_71.2), .dead, .row 123 qu o0_2.2.2.1, .row 9 .str o0_2.2.2.2.1, .row 89 qr o0_2.2.2.2.2.1, .box 6 (.val qq (r_47.1, r_59.1, r_71.1, ())), .dead, .row 87 qq (o0_2.2.1 ++ ([(r_47.1, r_59.1, r_71.1, ())] : List wa))]] [[(0, .ptr 0 [.idx 5 ok0_2])], [(0, .ptr 0 [.idx 5 ok0_2])], [(27, .ptr 0 [.idx 5 ok0_2])], [(28, .ptr 0 [.idx 5 ok0_2])], [(29, .ptr 0 [.idx 5 ok0_2, .fld 1 1])], [(4, .ptr 6 [])], [(31, .val qq (r_47.1, r_59.1, r_71.1, ()))], [(30, .own 2), (32, .own 7)], [(26, .ptr 0 [.idx 5 ok0_2])], [(34, .ptr 0 [.idx 5 ok0_2])], [(33, .own 8), (35, .ptr 0 [.idx 5 ok0_2, .fld 1 1])]] xAc rfl rfl ?_ ?_)
        ·simp only [go_sem]
         exact zaJ
        show At _ _ [(1, .ptr 1 [])] [.trh 53 qh qa ox0_2 ok0_2 (.agg [.val .str o0_2.1, .own 8, .own 3, .own 4, .own 5]), .box 3 (.val qk r_71.2), .dead, .row 123 qu o0_2.2.2.1, .row 9 .str o0_2.2.2.2.1, .row 89 qr o0_2.2.2.2.2.1, .box 6 (.val qq (r_47.1, r_59.1, r_71.1, ())), .dead, .row 87 qq (o0_2.2.1 ++ ([(r_47.1, r_59.1, r_71.1, ())] : List wa))]
        obtain ⟨e, he7, h⟩ := bind_some h
        rcases e with r_73 | p_74
        ·try dsimp only at h
         refine bB (aA (aC hF (aG (l := [(55, ⟨bE F, [1], (r_71.2, .inl r_73)⟩)]) (.cons (bK F) xAa (.nil))) [] [] (yaB ?_)))
         obtain rfl := Option.some.inj h
         refine gF (gT [0, 1, 8, 3, 4, 5] rfl rfl (yaC ?_))
         exact zak
        ·try dsimp only at h
         refine bB (aA (aC hF (aG (l := [(55, ⟨bE F, [1], (r_71.2, .inr p_74)⟩)]) (.cons (bK F) xAa (.nil))) [] [] (yaB ?_)))
         exact zat
       ·try dsimp only at h
        refine aA (aB (aC hF (aG (l := [(100, ⟨kD F, [1], (r_65, .inr p_72)⟩)]) (.cons (rY F) xAa (.nil))) [0, 1, 4] [] (yaB ?_)))
        exact zaM
      ·try dsimp only at h
       refine aA (aB (aC hF (aG (l := [(50, ⟨bU F, [1], ((aU ⟨#[100, 101, 114]⟩), r_59.2, .inr p_66)⟩)]) (.cons (cC F) xAa (.nil))) [0, 1, 4] [] (yaB ?_)))
       exact zaM
     ·try dsimp only at h
      refine aA (aB (aC hF (aG (l := [(99, ⟨kC F, [1], (r_53, .inr p_60)⟩)]) (.cons (rX F) xAa (.nil))) [0, 1, 4] [] (yaB ?_)))
      exact zaM
    ·try dsimp only at h
     refine aA (aB (aC hF (aG (l := [(50, ⟨bU F, [1], ((aU ⟨#[61]⟩), r_47.2, .inr p_54)⟩)]) (.cons (cC F) xAa (.nil))) [0, 1, 4] [] (yaB ?_)))
     exact zaM
   ·try dsimp only at h
    refine aB (aC hF (aG (l := [(58, ⟨dV F, [1], (r_41.2, .inr p_48)⟩)]) (.cons (fQ F) xAa (.nil))) [0, 1, 4] [] (yaB ?_))
    exact zaM
  ·try simp only [go_sem] at hc
   have h := eD zAB h
   refine aB (aF hF [0, 1, 8, 36] (yaB ?_))
   refine aA (bG rfl (fun hc => ?_) (fun hc => ?_))
   ·try simp only [go_sem] at hc
    have h := eC zAB h
    obtain ⟨e, he8, h⟩ := bind_some h
    rcases e with r_79 | p_80
    ·try dsimp only at h
     refine aB (aC hF (aG (l := [(58, ⟨dV F, [1], (r_41.2, .inl r_79)⟩)]) (.cons (fQ F) xAa (.nil))) [0, 1, 5] [] (yaB ?_))
     obtain ⟨e, he9, h⟩ := bind_some h
     rcases e with r_85 | p_86
     ·try dsimp only at h
      refine aA (aB (aC hF (aG (l := [(50, ⟨bU F, [1], ((aU ⟨#[61]⟩), r_79.2, .inl r_85)⟩)]) (.cons (cC F) xAa (.nil))) [0, 1, 5] [] (yaB ?_)))
      obtain ⟨e, he10, h⟩ := bind_some h
      rcases e with r_91 | p_92
      ·try dsimp only at h
       refine aA (aB (aC hF (aG (l := [(99, ⟨kC F, [1], (r_85, .inl r_91)⟩)]) (.cons (rX F) xAa (.nil))) [0, 1, 5] [] (yaB ?_)))
       obtain ⟨g0, h⟩ := aQ h
       refine aA (aDD hF [1] [6, 7, 10] [[0], [0], [47], [48], [49], [5], [51], [50, 52], [46], [54], [53, 55]] [(0, 0), (0, 1), (0, 2), (1, 0), (1, 1), (1, 2), (2, 0), (2, 1), (2, 2), (3, 0), (3, 1), (3, 2), (4, 0), (4, 1), (5, 0), (6, 0), (7, 1), (8, 2), (8, 3), (9, 2), (10, 2)] [.ptr 0 [.idx 5 ok0_2], .ptr 0 [.idx 5 ok0_2], .ptr 0 [.idx 5 ok0_2], .ptr 0 [.idx 5 ok0_2, .fld 2 2], .own 3, .val qu (r_79.1, r_91.1, ()), .own 7, .own 8, .ptr 0 [.idx 5 ok0_2], .ptr 0 [.idx 5 ok0_2, .fld 2 2], .junk] [[.trh 53 qh qa ox0_2 ok0_2 (.agg [.val .str o0_2.1, .own 2, .own 3, .own 4, .own 5]), .box 3 (.val qk r_91.2), .row 87 qq o0_2.2.1, .row 123 qu o0_2.2.2.1, .row 9 .str o0_2.2.2.2.1, .row 89 qr o0_2.2.2.2.2.1, .box 3 (.val qu (r_79.1, r_91.1, ()))], [.trh 53 qh qa ox0_2 ok0_2 (.agg [.val .str o0_2.1, .own 2, .own 3, .own 4, .own 5]), .box 3 (.val qk r_91.2), .row 87 qq o0_2.2.1, .row 123 qu o0_2.2.2.1, .row 9 .str o0_2.2.2.2.1, .row 89 qr o0_2.2.2.2.2.1, .box 3 (.val qu (r_79.1, r_91.1, ())), .row 123 qu ([(r_79.1, r_91.1, ())] : List wc)], [.trh 53 qh qa ox0_2 ok0_2 (.agg [.val .str o0_2.1, .own 2, .own 3, .own 4, .own 5]), .box 3 (.val qk r_91.2), .row 87 qq o0_2.2.1, .dead, .row 9 .str o0_2.2.2.2.1, .row 89 qr o0_2.2.2.2.2.1, .box 3 (.val qu (r_79.1, r_91.1, ())), .row 123 qu ([(r_79.1, r_91.1, ())] : List wc), .row 123 qu (o0_2.2.2.1 ++ ([(r_79.1, r_91.1, ())] : List wc))], [.trh 53 qh qa ox0_2 ok0_2 (.agg [.val .str o0_2.1, .own 2, .own 8, .own 4, .own 5]), .box 3 (.val qk r_91.2), .row 87 qq o0_2.2.1, .dead, .row 9 .str o0_2.2.2.2.1, .row 89 qr o0_2.2.2.2.2.1, .box 3 (.val qu (r_79.1, r_91.1, ())), .row 123 qu ([(r_79.1, r_91.1, ())] : List wc), .row 123 qu (o0_2.2.2.1 ++ ([(r_79.1, r_91.1, ())] : List wc))]] [[(0, .ptr 0 [.idx 5 ok0_2])], [(0, .ptr 0 [.idx 5 ok0_2])], [(47, .ptr 0 [.idx 5 ok0_2])], [(48, .ptr 0 [.idx 5 ok0_2])], [(49, .ptr 0 [.idx 5 ok0_2, .fld 2 2])], [(5, .ptr 6 [])], [(51, .val qu (r_79.1, r_91.1, ()))], [(50, .own 3), (52, .own 7)], [(46, .ptr 0 [.idx 5 ok0_2])], [(54, .ptr 0 [.idx 5 ok0_2])], [(53, .own 8), (55, .ptr 0 [.idx 5 ok0_2, .fld 2 2])]] xAc rfl rfl ?_ ?_)
       ·simp only [go_sem]
        exact zaJ
       show At _ _ [(1, .ptr 1 [])] [.trh 53 qh qa ox0_2 ok0_2 (.agg [.val .str o0_2.1, .own 2, .own 8, .own 4, .own 5]), .box 3 (.val qk r_91.2), .row 87 qq o0_2.2.1, .dead, .row 9 .str o0_2.2.2.2.1, .row 89 qr o0_2.2.2.2.2.1, .box 3 (.val qu (r_79.1, r_91.1, ())), .row 123 qu ([(r_79.1, r_91.1, ())] : List wc), .row 123 qu (o0_2.2.2.1 ++ ([(r_79.1, r_91.1, ())] : List wc))]
       obtain ⟨e, he11, h⟩ := bind_some h
       rcases e with r_93 | p_94
       ·try dsimp only at h
        refine bB (aA (aC hF (aG (l := [(55, ⟨bE F, [1], (r_91.2, .inl r_93)⟩)]) (.cons (bK F) xAa (.nil))) [] [] (yaB ?_)))
        obtain rfl := Option.some.inj h
        refine gF (gT [0, 1, 2, 8, 4, 5] rfl rfl (yaC ?_))
        exact zak
       ·try dsimp only at h
        refine bB (aA (aC hF (aG (l := [(55, ⟨bE F, [1], (r_91.2, .inr p_94)⟩)]) (.cons (bK F) xAa (.nil))) [] [] (yaB ?_)))
        exact zat
      ·try dsimp only at h
       refine aA (aB (aC hF (aG (l := [(99, ⟨kC F, [1], (r_85, .inr p_92)⟩)]) (.cons (rX F) xAa (.nil))) [0, 1, 5] [] (yaB ?_)))
       exact zaM
     ·try dsimp only at h
      refine aA (aB (aC hF (aG (l := [(50, ⟨bU F, [1], ((aU ⟨#[61]⟩), r_79.2, .inr p_86)⟩)]) (.cons (cC F) xAa (.nil))) [0, 1, 5] [] (yaB ?_)))
      exact zaM
    ·try dsimp only at h
     refine aB (aC hF (aG (l := [(58, ⟨dV F, [1], (r_41.2, .inr p_80)⟩)]) (.cons (fQ F) xAa (.nil))) [0, 1, 5] [] (yaB ?_))
     exact zaM
   ·try simp only [go_sem] at hc
    have h := eD zAB h
    refine aB (aF hF [0, 1, 8, 56] (yaB ?_))
    refine aA (bG rfl (fun hc => ?_) (fun hc => ?_))
    ·try simp only [go_sem] at hc
     have h := eC zAB h
     obtain ⟨e, he12, h⟩ := bind_some h
     rcases e with r_95 | p_96
     ·try dsimp only at h
      obtain ⟨g0, h⟩ := aQ h
      refine pV hF (aG (l := [(58, ⟨dV F, [1], (r_41.2, .inl r_95)⟩)]) (.cons (fQ F) xAa (.nil))) [] [1] [6, 7, 8, 11] [[0], [0], [59], [60], [61], [1], [63], [64], [62, 65], [58], [67], [66, 68]] [(0, 0), (0, 1), (0, 2), (0, 3), (1, 0), (1, 1), (1, 2), (1, 3), (2, 0), (2, 1), (2, 2), (2, 3), (3, 0), (3, 1), (3, 2), (3, 3), (4, 0), (4, 1), (4, 2), (5, 0), (6, 0), (7, 1), (8, 2), (9, 3), (9, 4), (10, 3), (11, 3)] [.ptr 0 [.idx 5 ok0_2], .ptr 0 [.idx 5 ok0_2], .ptr 0 [.idx 5 ok0_2], .ptr 0 [.idx 5 ok0_2, .fld 3 3], .own 4, .ptr 1 [], .val .str r_95.1, .own 6, .own 7, .ptr 0 [.idx 5 ok0_2], .ptr 0 [.idx 5 ok0_2, .fld 3 3], .junk] [[.trh 53 qh qa ox0_2 ok0_2 (.agg [.val .str o0_2.1, .own 2, .own 3, .own 4, .own 5]), .box 3 (.val qk r_41.2), .row 87 qq o0_2.2.1, .row 123 qu o0_2.2.2.1, .row 9 .str o0_2.2.2.2.1, .row 89 qr o0_2.2.2.2.2.1], [.trh 53 qh qa ox0_2 ok0_2 (.agg [.val .str o0_2.1, .own 2, .own 3, .own 4, .own 5]), .box 3 (.val qk r_95.2), .row 87 qq o0_2.2.1, .row 123 qu o0_2.2.2.1, .row 9 .str o0_2.2.2.2.1, .row 89 qr o0_2.2.2.2.2.1], [.trh 53 qh qa ox0_2 ok0_2 (.agg [.val .str o0_2.1, .own 2, .own 3, .own 4, .own 5]), .box 3 (.val qk r_95.2), .row 87 qq o0_2.2.1, .row 123 qu o0_2.2.2.1, .row 9 .str o0_2.2.2.2.1, .row 89 qr o0_2.2.2.2.2.1, .row 9 .str ([r_95.1] : List qd)], [.trh 53 qh qa ox0_2 ok0_2 (.agg [.val .str o0_2.1, .own 2, .own 3, .own 4, .own 5]), .box 3 (.val qk r_95.2), .row 87 qq o0_2.2.1, .row 123 qu o0_2.2.2.1, .dead, .row 89 qr o0_2.2.2.2.2.1, .row 9 .str ([r_95.1] : List qd), .row 9 .str (o0_2.2.2.2.1 ++ ([r_95.1] : List qd))], [.trh 53 qh qa ox0_2 ok0_2 (.agg [.val .str o0_2.1, .own 2, .own 3, .own 7, .own 5]), .box 3 (.val qk r_95.2), .row 87 qq o0_2.2.1, .row 123 qu o0_2.2.2.1, .dead, .row 89 qr o0_2.2.2.2.2.1, .row 9 .str ([r_95.1] : List qd), .row 9 .str (o0_2.2.2.2.1 ++ ([r_95.1] : List qd))]] [[(0, .ptr 0 [.idx 5 ok0_2])], [(0, .ptr 0 [.idx 5 ok0_2])], [(59, .ptr 0 [.idx 5 ok0_2])], [(60, .ptr 0 [.idx 5 ok0_2])], [(61, .ptr 0 [.idx 5 ok0_2, .fld 3 3])], [(1, .ptr 1 [])], [(63, .ptr 1 [])], [(64, .val .str r_95.1)], [(62, .own 4), (65, .own 6)], [(58, .ptr 0 [.idx 5 ok0_2])], [(67, .ptr 0 [.idx 5 ok0_2])], [(66, .own 7), (68, .ptr 0 [.idx 5 ok0_2, .fld 3 3])]] false xAc rfl rfl ?_ ?_
      ·simp only [go_sem]
       exact zaJ
      intro _
      show At _ _ [(1, .ptr 1 [])] [.trh 53 qh qa ox0_2 ok0_2 (.agg [.val .str o0_2.1, .own 2, .own 3, .own 7, .own 5]), .box 3 (.val qk r_95.2), .row 87 qq o0_2.2.1, .row 123 qu o0_2.2.2.1, .dead, .row 89 qr o0_2.2.2.2.2.1, .row 9 .str ([r_95.1] : List qd), .row 9 .str (o0_2.2.2.2.1 ++ ([r_95.1] : List qd))]
      obtain ⟨e, he13, h⟩ := bind_some h
      rcases e with r_97 | p_98
      ·try dsimp only at h
       refine bB (aA (aC hF (aG (l := [(55, ⟨bE F, [1], (r_95.2, .inl r_97)⟩)]) (.cons (bK F) xAa (.nil))) [] [] (yaB ?_)))
       obtain rfl := Option.some.inj h
       refine gF (gT [0, 1, 2, 3, 7, 5] rfl rfl (yaC ?_))
       exact zak
      ·try dsimp only at h
       refine bB (aA (aC hF (aG (l := [(55, ⟨bE F, [1], (r_95.2, .inr p_98)⟩)]) (.cons (bK F) xAa (.nil))) [] [] (yaB ?_)))
       exact zat
     ·try dsimp only at h
      refine pV hF (aG (l := [(58, ⟨dV F, [1], (r_41.2, .inr p_96)⟩)]) (.cons (fQ F) xAa (.nil))) [] [1] [6] [[0], [0], [59], [60], [61], [1], [63], [64], [62, 65], [58], [67], [66, 68]] [(0, 0), (1, 0), (2, 0), (3, 0), (4, 0), (5, 0), (6, 0)] [.ptr 0 [.idx 5 ok0_2], .ptr 0 [.idx 5 ok0_2], .ptr 0 [.idx 5 ok0_2], .ptr 0 [.idx 5 ok0_2, .fld 3 3], .own 4, .ptr 1 [], .junk, .junk, .junk, .junk, .junk, .junk] [[.trh 53 qh qa ox0_2 ok0_2 (.agg [.val .str o0_2.1, .own 2, .own 3, .own 4, .own 5]), .box 3 (.val qk r_41.2), .row 87 qq o0_2.2.1, .row 123 qu o0_2.2.2.1, .row 9 .str o0_2.2.2.2.1, .row 89 qr o0_2.2.2.2.2.1]] [[(0, .ptr 0 [.idx 5 ok0_2])], [(0, .ptr 0 [.idx 5 ok0_2])], [(59, .ptr 0 [.idx 5 ok0_2])], [(60, .ptr 0 [.idx 5 ok0_2])], [(61, .ptr 0 [.idx 5 ok0_2, .fld 3 3])], [(1, .ptr 1 [])], [(63, .ptr 1 [])], [(64, .junk)], [(62, .own 4), (65, .junk)], [(58, .ptr 0 [.idx 5 ok0_2])], [(67, .junk)], [(66, .junk), (68, .junk)]] true xAc rfl rfl ?_ ?_
      rotate_left
      exact fun h => absurd h xAc
      simp only [go_sem]
      (repeat' apply And.intro) <;> try (first | trivial | rfl | with_reducible assumption | omega | (intros; first | with_reducible assumption | omega) | (simp; done) | (simp at *; omega))
      obtain rfl := Option.some.inj h
      refine bW (aO (aL (kU 0 rfl aH) ?_))
      refine aL (aJ 1 rfl aH) (yaA ?_)
      refine bO [0, 1] rfl rfl (yaC ?_)
      refine aY rfl rfl rfl rfl
    ·try simp only [go_sem] at hc
     have h := eD zAB h
     refine aB (aF hF [0, 1, 69] (yaB ?_))
     refine aA (bG rfl (fun hc => ?_) (fun hc => ?_))
     ·try simp only [go_sem] at hc
      have h := eC zAB h
      obtain ⟨e, he14, h⟩ := bind_some h
      rcases e with r_103 | p_104
      ·try dsimp only at h
       refine aB (aC hF (aG (l := [(58, ⟨dV F, [1], (r_41.2, .inl r_103)⟩)]) (.cons (fQ F) xAa (.nil))) [0, 1, 6] [] (yaB ?_))
       obtain ⟨e, he15, h⟩ := bind_some h
       rcases e with r_109 | p_110
       ·try dsimp only at h
        refine aA (aB (aC hF (aG (l := [(50, ⟨bU F, [1], ((aU ⟨#[61]⟩), r_103.2, .inl r_109)⟩)]) (.cons (cC F) xAa (.nil))) [0, 1, 6] [] (yaB ?_)))
        obtain ⟨e, he16, h⟩ := bind_some h
        rcases e with r_115 | p_116
        ·try dsimp only at h
         refine aA (aB (aC hF (aG (l := [(100, ⟨kD F, [1], (r_109, .inl r_115)⟩)]) (.cons (rY F) xAa (.nil))) [0, 1, 6] [] (yaB ?_)))
         obtain ⟨g0, h⟩ := aQ h
         refine aA (aDD hF [1] [6, 7, 10] [[0], [0], [80], [81], [82], [6], [84], [83, 85], [79], [87], [86, 88]] [(0, 0), (0, 1), (0, 2), (1, 0), (1, 1), (1, 2), (2, 0), (2, 1), (2, 2), (3, 0), (3, 1), (3, 2), (4, 0), (4, 1), (5, 0), (6, 0), (7, 1), (8, 2), (8, 3), (9, 2), (10, 2)] [.ptr 0 [.idx 5 ok0_2], .ptr 0 [.idx 5 ok0_2], .ptr 0 [.idx 5 ok0_2], .ptr 0 [.idx 5 ok0_2, .fld 4 4], .own 5, .val qr (r_103.1, r_115.1, ()), .own 7, .own 8, .ptr 0 [.idx 5 ok0_2], .ptr 0 [.idx 5 ok0_2, .fld 4 4], .junk] [[.trh 53 qh qa ox0_2 ok0_2 (.agg [.val .str o0_2.1, .own 2, .own 3, .own 4, .own 5]), .box 3 (.val qk r_115.2), .row 87 qq o0_2.2.1, .row 123 qu o0_2.2.2.1, .row 9 .str o0_2.2.2.2.1, .row 89 qr o0_2.2.2.2.2.1, .box 4 (.val qr (r_103.1, r_115.1, ()))], [.trh 53 qh qa ox0_2 ok0_2 (.agg [.val .str o0_2.1, .own 2, .own 3, .own 4, .own 5]), .box 3 (.val qk r_115.2), .row 87 qq o0_2.2.1, .row 123 qu o0_2.2.2.1, .row 9 .str o0_2.2.2.2.1, .row 89 qr o0_2.2.2.2.2.1, .box 4 (.val qr (r_103.1, r_115.1, ())), .row 89 qr ([(r_103.1, r_115.1, ())] : List qz)], [.trh 53 qh qa ox0_2 ok0_2 (.agg [.val .str o0_2.1, .own 2, .own 3, .own 4, .own 5]), .box 3 (.val qk r_115.2), .row 87 qq o0_2.2.1, .row 123 qu o0_2.2.2.1, .row 9 .str o0_2.2.2.2.1, .dead, .box 4 (.val qr (r_103.1, r_115.1, ())), .dead, .row 89 qr (o0_2.2.2.2.2.1 ++ ([(r_103.1, r_115.1, ())] : List qz))], [.trh 53 qh qa ox0_2 ok0_2 (.agg [.val .str o0_2.1, .own 2, .own 3, .own 4, .own 8]), .box 3 (.val qk r_115.2), .row 87 qq o0_2.2.1, .row 123 qu o0_2.2.2.1, .row 9 .str o0_2.2.2.2.1, .dead, .box 4 (.val qr (r_103.1, r_115.1, ())), .dead, .row 89 qr (o0_2.2.2.2.2.1 ++ ([(r_103.1, r_115.1, ())] : List qz))]] [[(0, .ptr 0 [.idx 5 ok0_2])], [(0, .ptr 0 [.idx 5 ok0_2])], [(80, .ptr 0 [.idx 5 ok0_2])], [(81, .ptr 0 [.idx 5 ok0_2])], [(82, .ptr 0 [.idx 5 ok0_2, .fld 4 4])], [(6, .ptr 6 [])], [(84, .val qr (r_103.1, r_115.1, ()))], [(83, .own 5), (85, .own 7)], [(79, .ptr 0 [.idx 5 ok0_2])], [(87, .ptr 0 [.idx 5 ok0_2])], [(86, .own 8), (88, .ptr 0 [.idx 5 ok0_2, .fld 4 4])]] xAc rfl rfl ?_ ?_)
         ·simp only [go_sem]
          exact zaJ
         show At _ _ [(1, .ptr 1 [])] [.trh 53 qh qa ox0_2 ok0_2 (.agg [.val .str o0_2.1, .own 2, .own 3, .own 4, .own 8]), .box 3 (.val qk r_115.2), .row 87 qq o0_2.2.1, .row 123 qu o0_2.2.2.1, .row 9 .str o0_2.2.2.2.1, .dead, .box 4 (.val qr (r_103.1, r_115.1, ())), .dead, .row 89 qr (o0_2.2.2.2.2.1 ++ ([(r_103.1, r_115.1, ())] : List qz))]
         obtain ⟨e, he17, h⟩ := bind_some h
         rcases e with r_117 | p_118
         ·try dsimp only at h
          refine bB (aA (aC hF (aG (l := [(55, ⟨bE F, [1], (r_115.2, .inl r_117)⟩)]) (.cons (bK F) xAa (.nil))) [] [] (yaB ?_)))
          obtain rfl := Option.some.inj h
          refine gF (gT [0, 1, 2, 3, 4, 8] rfl rfl (yaC ?_))
          exact zak
         ·try dsimp only at h
          refine bB (aA (aC hF (aG (l := [(55, ⟨bE F, [1], (r_115.2, .inr p_118)⟩)]) (.cons (bK F) xAa (.nil))) [] [] (yaB ?_)))
          exact zat
        ·try dsimp only at h
         refine aA (aB (aC hF (aG (l := [(100, ⟨kD F, [1], (r_109, .inr p_116)⟩)]) (.cons (rY F) xAa (.nil))) [0, 1, 6] [] (yaB ?_)))
         exact zaM
       ·try dsimp only at h
        refine aA (aB (aC hF (aG (l := [(50, ⟨bU F, [1], ((aU ⟨#[61]⟩), r_103.2, .inr p_110)⟩)]) (.cons (cC F) xAa (.nil))) [0, 1, 6] [] (yaB ?_)))
        exact zaM
      ·try dsimp only at h
       refine aB (aC hF (aG (l := [(58, ⟨dV F, [1], (r_41.2, .inr p_104)⟩)]) (.cons (fQ F) xAa (.nil))) [0, 1, 6] [] (yaB ?_))
       exact zaM
     ·try simp only [go_sem] at hc
      have h := eD zAB h
      obtain ⟨e, he18, h⟩ := bind_some h
      rcases e with r_119 | p_120
      ·try dsimp only at h
       refine aC hF (aG (l := [(57, ⟨eU F, [1], (r_41.2, .inl r_119)⟩)]) (.cons (iM F) xAa (.nil))) [1] [] (yaB ?_)
       obtain ⟨e, he19, h⟩ := bind_some h
       rcases e with r_121 | p_122
       ·try dsimp only at h
        refine bB (aA (aC hF (aG (l := [(55, ⟨bE F, [1], (r_119, .inl r_121)⟩)]) (.cons (bK F) xAa (.nil))) [] [] (yaB ?_)))
        exact zaO
       ·try dsimp only at h
        refine bB (aA (aC hF (aG (l := [(55, ⟨bE F, [1], (r_119, .inr p_122)⟩)]) (.cons (bK F) xAa (.nil))) [] [] (yaB ?_)))
        exact zat
      ·try dsimp only at h
       refine aC hF (aG (l := [(57, ⟨eU F, [1], (r_41.2, .inr p_120)⟩)]) (.cons (iM F) xAa (.nil))) [1] [] (yaB ?_)
       obtain rfl := Option.some.inj h
       refine bW (aO (aL (kU 0 rfl aH) ?_))
       exact zaC
 ·try dsimp only at h
  refine aB (aB (aC hF (aG (l := [(53, ⟨bM F, [1], (o1_3, .inr p_42)⟩)]) (.cons (bR F) xAa (.nil))) [0, 1, 8] [] (yaB ?_)))
  obtain rfl := Option.some.inj h
  refine aO (aO (aL (kU 0 rfl aH) ?_))
  exact zaC
attribute [go_sem] wV
def aAb (F : Md) (o0_2 : qf) (o1_3 : qo) : Option ((qf × qo) ⊕ q8) :=
 (jJ F o1_3).bind (fun r_8 => if r_8.1 = (aU ⟨#[108, 105, 110, 107]⟩) then (dT F r_8.2).bind (fun e => match e with | .inl r_13 => (qH F r_13.2).bind (fun e => match e with | .inl r_19 => (eQ F (aU ⟨#[61]⟩) r_19.2).bind (fun e => match e with | .inl r_25 => (qH F r_25).bind (fun e => match e with | .inl r_31 => (dA F r_31.2).bind (fun e => match e with | .inl r_37 => ck (((o0_2.2.2.2.2.2.2.2.2.2.1.length) + (1 : Nat)) * 97 ≤ 140737488355328) (some (.inl ((o0_2.1, o0_2.2.1, o0_2.2.2.1, o0_2.2.2.2.1, o0_2.2.2.2.2.1, o0_2.2.2.2.2.2.1, o0_2.2.2.2.2.2.2.1, o0_2.2.2.2.2.2.2.2.1, o0_2.2.2.2.2.2.2.2.2.1, (o0_2.2.2.2.2.2.2.2.2.2.1 ++ ([(r_19.1.1, r_19.1.2.1, r_31.1.1, r_31.1.2.1, ())] : List qm)), ()), r_37))) | .inr p_38 => some (.inr p_38)) | .inr p_32 => some (.inr p_32)) | .inr p_26 => some (.inr p_26)) | .inr p_20 => some (.inr p_20)) | .inr p_14 => some (.inr p_14)) else if (0 : Int) < (o0_2.2.2.2.2.2.2.2.2.2.1.length : Int) then (lC F r_8.2).bind (fun e => match e with | .inl r_39 => some (.inl ((o0_2.1, o0_2.2.1, o0_2.2.2.1, o0_2.2.2.2.1, o0_2.2.2.2.2.1, o0_2.2.2.2.2.2.1, o0_2.2.2.2.2.2.2.1, o0_2.2.2.2.2.2.2.2.1, o0_2.2.2.2.2.2.2.2.2.1, o0_2.2.2.2.2.2.2.2.2.2.1, ()), r_39)) | .inr p_40 => some (.inr p_40)) else if r_8.1 = (aU ⟨#[115, 117, 98]⟩) then (dT F r_8.2).bind (fun e => match e with | .inl r_45 => (jK F r_45.2).bind (fun e => match e with | .inl r_51 => ck (((o0_2.2.2.2.2.2.2.2.2.1.length) + (1 : Nat)) * 121 ≤ 140737488355328) ((dA F r_51.2).bind (fun e => match e with | .inl r_53 => some (.inl ((o0_2.1, o0_2.2.1, o0_2.2.2.1, o0_2.2.2.2.1, o0_2.2.2.2.2.1, o0_2.2.2.2.2.2.1, o0_2.2.2.2.2.2.2.1, o0_2.2.2.2.2.2.2.2.1, (o0_2.2.2.2.2.2.2.2.2.1 ++ ([(r_51.1, ([] : List wa), ([] : List wc), ([] : List qd), ([] : List qz), ())] : List qc)), o0_2.2.2.2.2.2.2.2.2.2.1, ()), r_53)) | .inr p_54 => some (.inr p_54))) | .inr p_52 => some (.inr p_52)) | .inr p_46 => some (.inr p_46)) else if (0 : Int) < (o0_2.2.2.2.2.2.2.2.2.1.length : Int) then ck (((o0_2.2.2.2.2.2.2.2.2.1.length : Int) - (1 : Int)).toNat < (o0_2.2.2.2.2.2.2.2.2.1.length)) (ck (I64 ((o0_2.2.2.2.2.2.2.2.2.1.length : Int) - (1 : Int))) (ck (0 ≤ ((o0_2.2.2.2.2.2.2.2.2.1.length : Int) - (1 : Int)) ∧ ((o0_2.2.2.2.2.2.2.2.2.1.length : Int) - (1 : Int)) < (o0_2.2.2.2.2.2.2.2.2.1.length : Int)) ((aCD F o0_2.2.2.2.2.2.2.2.2.1 ((o0_2.2.2.2.2.2.2.2.2.1.length : Int) - (1 : Int)).toNat ((o0_2.2.2.2.2.2.2.2.2.1.getD ((o0_2.2.2.2.2.2.2.2.2.1.length : Int) - (1 : Int)).toNat ([], [], [], [], [], ())).1, (o0_2.2.2.2.2.2.2.2.2.1.getD ((o0_2.2.2.2.2.2.2.2.2.1.length : Int) - (1 : Int)).toNat ([], [], [], [], [], ())).2.1, (o0_2.2.2.2.2.2.2.2.2.1.getD ((o0_2.2.2.2.2.2.2.2.2.1.length : Int) - (1 : Int)).toNat ([], [], [], [], [], ())).2.2.1, (o0_2.2.2.2.2.2.2.2.2.1.getD ((o0_2.2.2.2.2.2.2.2.2.1.length : Int) - (1 : Int)).toNat ([], [], [], [], [], ())).2.2.2.1, (o0_2.2.2.2.2.2.2.2.2.1.getD ((o0_2.2.2.2.2.2.2.2.2.1.length : Int) - (1 : Int)).toNat ([], [], [], [], [], ())).2.2.2.2.1, ()) r_8.2).bind (fun e => match e with | .inl r_55 => some (.inl ((o0_2.1, o0_2.2.1, o0_2.2.2.1, o0_2.2.2.2.1, o0_2.2.2.2.2.1, o0_2.2.2.2.2.2.1, o0_2.2.2.2.2.2.2.1, o0_2.2.2.2.2.2.2.2.1, (o0_2.2.2.2.2.2.2.2.2.1.set ((o0_2.2.2.2.2.2.2.2.2.1.length : Int) - (1 : Int)).toNat (r_55.1.1, r_55.1.2.1, r_55.1.2.2.1, r_55.1.2.2.2.1, r_55.1.2.2.2.2.1, ())), o0_2.2.2.2.2.2.2.2.2.2.1, ()), r_55.2)) | .inr p_56 => some (.inr p_56))))) else (lC F r_8.2).bind (fun e => match e with | .inl r_57 => some (.inl ((o0_2.1, o0_2.2.1, o0_2.2.2.1, o0_2.2.2.2.1, o0_2.2.2.2.2.1, o0_2.2.2.2.2.2.1, o0_2.2.2.2.2.2.2.1, o0_2.2.2.2.2.2.2.2.1, o0_2.2.2.2.2.2.2.2.2.1, o0_2.2.2.2.2.2.2.2.2.2.1, ()), r_57)) | .inr p_58 => some (.inr p_58)))
def sO (F : Md) : fW where
 D := qf × qo × ((qf × qo) ⊕ q8)
 av := fun d => [.ptr 0 [], .ptr 1 []]
 hp := fun d => [.box 10 (.agg [.val qe d.1.1, .val qe d.1.2.1, .val qe d.1.2.2.1, .val qe d.1.2.2.2.1, .val .str d.1.2.2.2.2.1, .val .str d.1.2.2.2.2.2.1, .val .str d.1.2.2.2.2.2.2.1, .val .str d.1.2.2.2.2.2.2.2.1, .own 2, .own 3]), .box 3 (.val qk d.2.1), .tre 53 qh qa d.1.2.2.2.2.2.2.2.2.1, .row 83 qs d.1.2.2.2.2.2.2.2.2.2.1]
 m := 2
 pre := fun d => aAb F d.1 d.2.1 = some d.2.2
 out := fun d => match d.2.2 with | .inl r => .ret (.tup []) [.box 10 (.agg [.val qe r.1.1, .val qe r.1.2.1, .val qe r.1.2.2.1, .val qe r.1.2.2.2.1, .val .str r.1.2.2.2.2.1, .val .str r.1.2.2.2.2.2.1, .val .str r.1.2.2.2.2.2.2.1, .val .str r.1.2.2.2.2.2.2.2.1, .own 2, .own 3]), .box 3 (.val qk r.2), .tre 53 qh qa r.1.2.2.2.2.2.2.2.2.1, .row 83 qs r.1.2.2.2.2.2.2.2.2.2.1] | .inr p => .pan ⟨65, wi, p⟩ [.box 10 (.junk), .box 3 (.junk)]
abbrev aHA (F : Md) : List (FuncId × aI) := []
theorem aHB [Mx] (F : Md) : bJ Tryz.prog GL (aHA F) := .nil
theorem aGl [Mx] (F : Md) : GOK Tryz.prog GL 29 (sO F) := by
 refine eI (aMe (aHB F)) Tryz.func29 rfl xAa (fun _ => Nat.le_of_ble_eq_true rfl) fun c0 w0 d hw1 hw2 h hn => ?_
 have hF : fT ⟨Tryz.prog, EX (aHA F), GM (sO F) c0 d, w0, Tryz.f29.ntmps, []⟩ := ⟨aMe (aHB F), mix⟩
 obtain ⟨(o0_2 : qf), (o1_3 : qo), r⟩ := d
 replace h : aAb F o0_2 o1_3 = some r := h
 have hw1 : AV.wfL [.ptr 0 [], .ptr 1 []] := hw1
 simp only [AV.wfL, AV.wfV, Ty.wf, fF] at hw1
 show Tri _ _ _ [(0, .ptr 0 []), (1, .ptr 1 [])] [.box 10 (.agg [.val qe o0_2.1, .val qe o0_2.2.1, .val qe o0_2.2.2.1, .val qe o0_2.2.2.2.1, .val .str o0_2.2.2.2.2.1, .val .str o0_2.2.2.2.2.2.1, .val .str o0_2.2.2.2.2.2.2.1, .val .str o0_2.2.2.2.2.2.2.2.1, .own 2, .own 3]), .box 3 (.val qk o1_3), .tre 53 qh qa o0_2.2.2.2.2.2.2.2.2.1, .row 83 qs o0_2.2.2.2.2.2.2.2.2.2.1]
 unfold aAb at h
 refine aB (aF hF [0, 1, 4] (yaB ?_))
 obtain ⟨r_8, he1, h⟩ := bind_some h
 try dsimp only at h
 refine aA (aB (aC hF (aG (l := [(27, ⟨gI F, [1], (o1_3, r_8)⟩)]) (.cons (lW F) xAa (.nil))) [0, 1, 4, 5] [] (yaB ?_)))
 refine aA (eB (aB (aF hF [0, 1, 4, 5, 16] (yaB ?_))))
 refine aA (bG rfl (fun hc => ?_) (fun hc => ?_))
 ·try simp only [go_sem] at hc
  have h := eC zAB h
  obtain ⟨e, he2, h⟩ := bind_some h
  rcases e with r_13 | p_14
  ·try dsimp only at h
   refine aB (aC hF (aG (l := [(53, ⟨bM F, [1], (r_8.2, .inl r_13)⟩)]) (.cons (bR F) xAa (.nil))) [0, 1] [] (yaB ?_))
   refine aA (aB (aR hF [0, 1, 6] (yaB ?_)))
   obtain ⟨e, he3, h⟩ := bind_some h
   rcases e with r_19 | p_20
   ·try dsimp only at h
    refine aA (aB (aC hF (aG (l := [(56, ⟨kE F, [1], (r_13.2, .inl r_19)⟩)]) (.cons (rZ F) xAa (.nil))) [0, 1, 6] [] (yaB ?_)))
    obtain ⟨e, he4, h⟩ := bind_some h
    rcases e with r_25 | p_26
    ·try dsimp only at h
     refine aA (aB (aC hF (aG (l := [(50, ⟨bU F, [1], ((aU ⟨#[61]⟩), r_19.2, .inl r_25)⟩)]) (.cons (cC F) xAa (.nil))) [0, 1, 6] [] (yaB ?_)))
     obtain ⟨e, he5, h⟩ := bind_some h
     rcases e with r_31 | p_32
     ·try dsimp only at h
      refine aA (aB (aC hF (aG (l := [(56, ⟨kE F, [1], (r_25, .inl r_31)⟩)]) (.cons (rZ F) xAa (.nil))) [0, 1, 6] [] (yaB ?_)))
      obtain ⟨e, he6, h⟩ := bind_some h
      rcases e with r_37 | p_38
      ·try dsimp only at h
       refine aA (aB (aC hF (aG (l := [(55, ⟨bE F, [1], (r_31.2, .inl r_37)⟩)]) (.cons (bK F) xAa (.nil))) [0, 6] [] (yaB ?_)))
       obtain ⟨g0, h⟩ := aQ h
       refine aA (aDD hF [] [6, 7, 10] [[0], [0], [40], [41], [42], [6], [44], [43, 45], [39], [47], [46, 48]] [(0, 0), (0, 1), (0, 2), (1, 0), (1, 1), (1, 2), (2, 0), (2, 1), (2, 2), (3, 0), (3, 1), (3, 2), (4, 0), (4, 1), (5, 0), (6, 0), (7, 1), (8, 2), (8, 3), (9, 2), (10, 2)] [.ptr 0 [], .ptr 0 [], .ptr 0 [], .ptr 0 [.fld 9 9], .own 3, .val qs (r_19.1.1, r_19.1.2.1, r_31.1.1, r_31.1.2.1, ()), .own 5, .own 6, .ptr 0 [], .ptr 0 [.fld 9 9], .junk] [[.box 10 (.agg [.val qe o0_2.1, .val qe o0_2.2.1, .val qe o0_2.2.2.1, .val qe o0_2.2.2.2.1, .val .str o0_2.2.2.2.2.1, .val .str o0_2.2.2.2.2.2.1, .val .str o0_2.2.2.2.2.2.2.1, .val .str o0_2.2.2.2.2.2.2.2.1, .own 2, .own 3]), .box 3 (.val qk r_37), .tre 53 qh qa o0_2.2.2.2.2.2.2.2.2.1, .row 83 qs o0_2.2.2.2.2.2.2.2.2.2.1, .box 4 (.val qs (r_19.1.1, r_19.1.2.1, r_31.1.1, r_31.1.2.1, ()))], [.box 10 (.agg [.val qe o0_2.1, .val qe o0_2.2.1, .val qe o0_2.2.2.1, .val qe o0_2.2.2.2.1, .val .str o0_2.2.2.2.2.1, .val .str o0_2.2.2.2.2.2.1, .val .str o0_2.2.2.2.2.2.2.1, .val .str o0_2.2.2.2.2.2.2.2.1, .own 2, .own 3]), .box 3 (.val qk r_37), .tre 53 qh qa o0_2.2.2.2.2.2.2.2.2.1, .row 83 qs o0_2.2.2.2.2.2.2.2.2.2.1, .box 4 (.val qs (r_19.1.1, r_19.1.2.1, r_31.1.1, r_31.1.2.1, ())), .row 83 qs ([(r_19.1.1, r_19.1.2.1, r_31.1.1, r_31.1.2.1, ())] : List qm)], [.box 10 (.agg [.val qe o0_2.1, .val qe o0_2.2.1, .val qe o0_2.2.2.1, .val qe o0_2.2.2.2.1, .val .str o0_2.2.2.2.2.1, .val .str o0_2.2.2.2.2.2.1, .val .str o0_2.2.2.2.2.2.2.1, .val .str o0_2.2.2.2.2.2.2.2.1, .own 2, .own 3]), .box 3 (.val qk r_37), .tre 53 qh qa o0_2.2.2.2.2.2.2.2.2.1, .dead, .box 4 (.val qs (r_19.1.1, r_19.1.2.1, r_31.1.1, r_31.1.2.1, ())), .row 83 qs ([(r_19.1.1, r_19.1.2.1, r_31.1.1, r_31.1.2.1, ())] : List qm), .row 83 qs (o0_2.2.2.2.2.2.2.2.2.2.1 ++ ([(r_19.1.1, r_19.1.2.1, r_31.1.1, r_31.1.2.1, ())] : List qm))], [.box 10 (.agg [.val qe o0_2.1, .val qe o0_2.2.1, .val qe o0_2.2.2.1, .val qe o0_2.2.2.2.1, .val .str o0_2.2.2.2.2.1, .val .str o0_2.2.2.2.2.2.1, .val .str o0_2.2.2.2.2.2.2.1, .val .str o0_2.2.2.2.2.2.2.2.1, .own 2, .own 6]), .box 3 (.val qk r_37), .tre 53 qh qa o0_2.2.2.2.2.2.2.2.2.1, .dead, .box 4 (.val qs (r_19.1.1, r_19.1.2.1, r_31.1.1, r_31.1.2.1, ())), .row 83 qs ([(r_19.1.1, r_19.1.2.1, r_31.1.1, r_31.1.2.1, ())] : List qm), .row 83 qs (o0_2.2.2.2.2.2.2.2.2.2.1 ++ ([(r_19.1.1, r_19.1.2.1, r_31.1.1, r_31.1.2.1, ())] : List qm))]] [[(0, .ptr 0 [])], [(0, .ptr 0 [])], [(40, .ptr 0 [])], [(41, .ptr 0 [])], [(42, .ptr 0 [.fld 9 9])], [(6, .ptr 4 [])], [(44, .val qs (r_19.1.1, r_19.1.2.1, r_31.1.1, r_31.1.2.1, ()))], [(43, .own 3), (45, .own 5)], [(39, .ptr 0 [])], [(47, .ptr 0 [])], [(46, .own 6), (48, .ptr 0 [.fld 9 9])]] xAc rfl rfl ?_ ?_)
       ·simp only [go_sem]
        exact zaJ
       show At _ _ [] [.box 10 (.agg [.val qe o0_2.1, .val qe o0_2.2.1, .val qe o0_2.2.2.1, .val qe o0_2.2.2.2.1, .val .str o0_2.2.2.2.2.1, .val .str o0_2.2.2.2.2.2.1, .val .str o0_2.2.2.2.2.2.2.1, .val .str o0_2.2.2.2.2.2.2.2.1, .own 2, .own 6]), .box 3 (.val qk r_37), .tre 53 qh qa o0_2.2.2.2.2.2.2.2.2.1, .dead, .box 4 (.val qs (r_19.1.1, r_19.1.2.1, r_31.1.1, r_31.1.2.1, ())), .row 83 qs ([(r_19.1.1, r_19.1.2.1, r_31.1.1, r_31.1.2.1, ())] : List qm), .row 83 qs (o0_2.2.2.2.2.2.2.2.2.2.1 ++ ([(r_19.1.1, r_19.1.2.1, r_31.1.1, r_31.1.2.1, ())] : List qm))]
       obtain rfl := Option.some.inj h
       refine bB (gF (gT [0, 1, 2, 6] rfl rfl (yaC ?_)))
       exact zak
      ·try dsimp only at h
       refine aA (aB (aC hF (aG (l := [(55, ⟨bE F, [1], (r_31.2, .inr p_38)⟩)]) (.cons (bK F) xAa (.nil))) [0, 6] [] (yaB ?_)))
       exact zaj
     ·try dsimp only at h
      refine aA (aB (aC hF (aG (l := [(56, ⟨kE F, [1], (r_25, .inr p_32)⟩)]) (.cons (rZ F) xAa (.nil))) [0, 1, 6] [] (yaB ?_)))
      exact zaj
    ·try dsimp only at h
     refine aA (aB (aC hF (aG (l := [(50, ⟨bU F, [1], ((aU ⟨#[61]⟩), r_19.2, .inr p_26)⟩)]) (.cons (cC F) xAa (.nil))) [0, 1, 6] [] (yaB ?_)))
     exact zaj
   ·try dsimp only at h
    refine aA (aB (aC hF (aG (l := [(56, ⟨kE F, [1], (r_13.2, .inr p_20)⟩)]) (.cons (rZ F) xAa (.nil))) [0, 1, 6] [] (yaB ?_)))
    exact zaj
  ·try dsimp only at h
   refine aB (aC hF (aG (l := [(53, ⟨bM F, [1], (r_8.2, .inr p_14)⟩)]) (.cons (bR F) xAa (.nil))) [0, 1] [] (yaB ?_))
   exact zaj
 ·try simp only [go_sem] at hc
  have h := eD zAB h
  refine aB (aF hF [0, 1, 4, 5, 49] (yaB ?_))
  refine aA (bG rfl (fun hc => ?_) (fun hc => ?_))
  ·try simp only [go_sem] at hc
   have h := eC zAB h
   obtain ⟨e, he7, h⟩ := bind_some h
   rcases e with r_39 | p_40
   ·try dsimp only at h
    refine aC hF (aG (l := [(57, ⟨eU F, [1], (r_8.2, .inl r_39)⟩)]) (.cons (iM F) xAa (.nil))) [] [] (yaB ?_)
    obtain rfl := Option.some.inj h
    refine bB (gF (dZ hF [] rfl rfl rfl rfl rfl rfl ?_))
    exact zaB
   ·try dsimp only at h
    refine aC hF (aG (l := [(57, ⟨eU F, [1], (r_8.2, .inr p_40)⟩)]) (.cons (iM F) xAa (.nil))) [] [] (yaB ?_)
    exact zay
  ·try simp only [go_sem] at hc
   have h := eD zAB h
   refine aB (aF hF [0, 1, 4, 58] (yaB ?_))
   refine aA (bG rfl (fun hc => ?_) (fun hc => ?_))
   ·try simp only [go_sem] at hc
    have h := eC zAB h
    obtain ⟨e, he8, h⟩ := bind_some h
    rcases e with r_45 | p_46
    ·try dsimp only at h
     refine aB (aC hF (aG (l := [(53, ⟨bM F, [1], (r_8.2, .inl r_45)⟩)]) (.cons (bR F) xAa (.nil))) [0, 1] [] (yaB ?_))
     obtain ⟨e, he9, h⟩ := bind_some h
     rcases e with r_51 | p_52
     ·try dsimp only at h
      obtain ⟨g0, h⟩ := aQ h
      refine aA (aB (pV hF (aG (l := [(58, ⟨dV F, [1], (r_45.2, .inl r_51)⟩)]) (.cons (fQ F) xAa (.nil))) [] [1] [6, 7, 8, 9, 12] [[0], [0], [64], [65], [66], [1], [68], [69], [70], [67, 71], [63], [73], [72, 74]] [(0, 0), (0, 1), (0, 2), (0, 3), (0, 4), (1, 0), (1, 1), (1, 2), (1, 3), (1, 4), (2, 0), (2, 1), (2, 2), (2, 3), (2, 4), (3, 0), (3, 1), (3, 2), (3, 3), (3, 4), (4, 0), (4, 1), (4, 2), (4, 3), (5, 0), (6, 0), (7, 1), (8, 2), (9, 3), (10, 4), (10, 5), (11, 4), (12, 4)] [.ptr 0 [], .ptr 0 [], .ptr 0 [], .ptr 0 [.fld 8 8], .own 2, .ptr 1 [], .val .str r_51.1, .agg [.val .str r_51.1, .nilS, .nilS, .nilS, .nilS], .own 4, .own 5, .ptr 0 [], .ptr 0 [.fld 8 8], .junk] [[.box 10 (.agg [.val qe o0_2.1, .val qe o0_2.2.1, .val qe o0_2.2.2.1, .val qe o0_2.2.2.2.1, .val .str o0_2.2.2.2.2.1, .val .str o0_2.2.2.2.2.2.1, .val .str o0_2.2.2.2.2.2.2.1, .val .str o0_2.2.2.2.2.2.2.2.1, .own 2, .own 3]), .box 3 (.val qk r_45.2), .tre 53 qh qa o0_2.2.2.2.2.2.2.2.2.1, .row 83 qs o0_2.2.2.2.2.2.2.2.2.2.1], [.box 10 (.agg [.val qe o0_2.1, .val qe o0_2.2.1, .val qe o0_2.2.2.1, .val qe o0_2.2.2.2.1, .val .str o0_2.2.2.2.2.1, .val .str o0_2.2.2.2.2.2.1, .val .str o0_2.2.2.2.2.2.2.1, .val .str o0_2.2.2.2.2.2.2.2.1, .own 2, .own 3]), .box 3 (.val qk r_51.2), .tre 53 qh qa o0_2.2.2.2.2.2.2.2.2.1, .row 83 qs o0_2.2.2.2.2.2.2.2.2.2.1], [.box 10 (.agg [.val qe o0_2.1, .val qe o0_2.2.1, .val qe o0_2.2.2.1, .val qe o0_2.2.2.2.1, .val .str o0_2.2.2.2.2.1, .val .str o0_2.2.2.2.2.2.1, .val .str o0_2.2.2.2.2.2.2.1, .val .str o0_2.2.2.2.2.2.2.2.1, .own 2, .own 3]), .box 3 (.val qk r_51.2), .tre 53 qh qa o0_2.2.2.2.2.2.2.2.2.1, .row 83 qs o0_2.2.2.2.2.2.2.2.2.2.1], [.box 10 (.agg [.val qe o0_2.1, .val qe o0_2.2.1, .val qe o0_2.2.2.1, .val qe o0_2.2.2.2.1, .val .str o0_2.2.2.2.2.1, .val .str o0_2.2.2.2.2.2.1, .val .str o0_2.2.2.2.2.2.2.1, .val .str o0_2.2.2.2.2.2.2.2.1, .own 2, .own 3]), .box 3 (.val qk r_51.2), .tre 53 qh qa o0_2.2.2.2.2.2.2.2.2.1, .row 83 qs o0_2.2.2.2.2.2.2.2.2.2.1, .tre 53 qh qa ([(r_51.1, ([] : List wa), ([] : List wc), ([] : List qd), ([] : List qz), ())] : List qc)], [.box 10 (.agg [.val qe o0_2.1, .val qe o0_2.2.1, .val qe o0_2.2.2.1, .val qe o0_2.2.2.2.1, .val .str o0_2.2.2.2.2.1, .val .str o0_2.2.2.2.2.2.1, .val .str o0_2.2.2.2.2.2.2.1, .val .str o0_2.2.2.2.2.2.2.2.1, .own 2, .own 3]), .box 3 (.val qk r_51.2), .dead, .row 83 qs o0_2.2.2.2.2.2.2.2.2.2.1, .dead, .tre 53 qh qa (o0_2.2.2.2.2.2.2.2.2.1 ++ ([(r_51.1, ([] : List wa), ([] : List wc), ([] : List qd), ([] : List qz), ())] : List qc))], [.box 10 (.agg [.val qe o0_2.1, .val qe o0_2.2.1, .val qe o0_2.2.2.1, .val qe o0_2.2.2.2.1, .val .str o0_2.2.2.2.2.1, .val .str o0_2.2.2.2.2.2.1, .val .str o0_2.2.2.2.2.2.2.1, .val .str o0_2.2.2.2.2.2.2.2.1, .own 5, .own 3]), .box 3 (.val qk r_51.2), .dead, .row 83 qs o0_2.2.2.2.2.2.2.2.2.2.1, .dead, .tre 53 qh qa (o0_2.2.2.2.2.2.2.2.2.1 ++ ([(r_51.1, ([] : List wa), ([] : List wc), ([] : List qd), ([] : List qz), ())] : List qc))]] [[(0, .ptr 0 [])], [(0, .ptr 0 [])], [(64, .ptr 0 [])], [(65, .ptr 0 [])], [(66, .ptr 0 [.fld 8 8])], [(1, .ptr 1 [])], [(68, .ptr 1 [])], [(69, .val .str r_51.1)], [(70, .agg [.val .str r_51.1, .nilS, .nilS, .nilS, .nilS])], [(67, .own 2), (71, .own 4)], [(63, .ptr 0 [])], [(73, .ptr 0 [])], [(72, .own 5), (74, .ptr 0 [.fld 8 8])]] false xAc rfl rfl ?_ ?_))
      ·simp only [go_sem]
       exact zaJ
      intro _
      show At _ _ [(1, .ptr 1 [])] [.box 10 (.agg [.val qe o0_2.1, .val qe o0_2.2.1, .val qe o0_2.2.2.1, .val qe o0_2.2.2.2.1, .val .str o0_2.2.2.2.2.1, .val .str o0_2.2.2.2.2.2.1, .val .str o0_2.2.2.2.2.2.2.1, .val .str o0_2.2.2.2.2.2.2.2.1, .own 5, .own 3]), .box 3 (.val qk r_51.2), .dead, .row 83 qs o0_2.2.2.2.2.2.2.2.2.2.1, .dead, .tre 53 qh qa (o0_2.2.2.2.2.2.2.2.2.1 ++ ([(r_51.1, ([] : List wa), ([] : List wc), ([] : List qd), ([] : List qz), ())] : List qc))]
      obtain ⟨e, he10, h⟩ := bind_some h
      rcases e with r_53 | p_54
      ·try dsimp only at h
       refine aA (aC hF (aG (l := [(55, ⟨bE F, [1], (r_51.2, .inl r_53)⟩)]) (.cons (bK F) xAa (.nil))) [] [] (yaB ?_))
       obtain rfl := Option.some.inj h
       refine bB (gF (gT [0, 1, 5, 3] rfl rfl (yaC ?_)))
       exact zak
      ·try dsimp only at h
       refine aA (aC hF (aG (l := [(55, ⟨bE F, [1], (r_51.2, .inr p_54)⟩)]) (.cons (bK F) xAa (.nil))) [] [] (yaB ?_))
       exact zay
     ·try dsimp only at h
      refine aA (aB (pV hF (aG (l := [(58, ⟨dV F, [1], (r_45.2, .inr p_52)⟩)]) (.cons (fQ F) xAa (.nil))) [] [1] [6] [[0], [0], [64], [65], [66], [1], [68], [69], [70], [67, 71], [63], [73], [72, 74]] [(0, 0), (1, 0), (2, 0), (3, 0), (4, 0), (5, 0), (6, 0)] [.ptr 0 [], .ptr 0 [], .ptr 0 [], .ptr 0 [.fld 8 8], .own 2, .ptr 1 [], .junk, .junk, .junk, .junk, .junk, .junk, .junk] [[.box 10 (.agg [.val qe o0_2.1, .val qe o0_2.2.1, .val qe o0_2.2.2.1, .val qe o0_2.2.2.2.1, .val .str o0_2.2.2.2.2.1, .val .str o0_2.2.2.2.2.2.1, .val .str o0_2.2.2.2.2.2.2.1, .val .str o0_2.2.2.2.2.2.2.2.1, .own 2, .own 3]), .box 3 (.val qk r_45.2), .tre 53 qh qa o0_2.2.2.2.2.2.2.2.2.1, .row 83 qs o0_2.2.2.2.2.2.2.2.2.2.1]] [[(0, .ptr 0 [])], [(0, .ptr 0 [])], [(64, .ptr 0 [])], [(65, .ptr 0 [])], [(66, .ptr 0 [.fld 8 8])], [(1, .ptr 1 [])], [(68, .ptr 1 [])], [(69, .junk)], [(70, .junk)], [(67, .own 2), (71, .junk)], [(63, .ptr 0 [])], [(73, .junk)], [(72, .junk), (74, .junk)]] true xAc rfl rfl ?_ ?_))
      rotate_left
      exact fun h => absurd h xAc
      simp only [go_sem]
      (repeat' apply And.intro) <;> try (first | trivial | rfl | with_reducible assumption | omega | (intros; first | with_reducible assumption | omega) | (simp; done) | (simp at *; omega))
      obtain rfl := Option.some.inj h
      refine aO (bW (aL (aJ 0 rfl aH) ?_))
      refine aL (aJ 1 rfl aH) (yaA ?_)
      refine bO [0, 1] rfl rfl (yaC ?_)
      refine aY rfl rfl rfl rfl
    ·try dsimp only at h
     refine aB (aC hF (aG (l := [(53, ⟨bM F, [1], (r_8.2, .inr p_46)⟩)]) (.cons (bR F) xAa (.nil))) [0, 1] [] (yaB ?_))
     exact zaj
   ·try simp only [go_sem] at hc
    have h := eD zAB h
    refine aB (aF hF [0, 1, 4, 77] (yaB ?_))
    refine aA (bG rfl (fun hc => ?_) (fun hc => ?_))
    ·try simp only [go_sem] at hc
     have h := eC zAB h
     obtain ⟨go, h⟩ := aQ h
     refine aVt 2 ((o0_2.2.2.2.2.2.2.2.2.1.length : Int) - (1 : Int)).toNat rfl go rfl (yaA ?_)
     obtain ⟨g0, h⟩ := aQ h
     try simp only [I64, I32] at g0
     obtain ⟨g1, h⟩ := aQ h
     obtain ⟨e, he11, h⟩ := bind_some h
     rcases e with r_55 | p_56
     ·try dsimp only at h
      refine aC hF (aG (l := [(59, ⟨wV F, [2, 1, 4, 5, 6, 7], (o0_2.2.2.2.2.2.2.2.2.1, ((o0_2.2.2.2.2.2.2.2.2.1.length : Int) - (1 : Int)).toNat, ((o0_2.2.2.2.2.2.2.2.2.1.getD ((o0_2.2.2.2.2.2.2.2.2.1.length : Int) - (1 : Int)).toNat ([], [], [], [], [], ())).1, (o0_2.2.2.2.2.2.2.2.2.1.getD ((o0_2.2.2.2.2.2.2.2.2.1.length : Int) - (1 : Int)).toNat ([], [], [], [], [], ())).2.1, (o0_2.2.2.2.2.2.2.2.2.1.getD ((o0_2.2.2.2.2.2.2.2.2.1.length : Int) - (1 : Int)).toNat ([], [], [], [], [], ())).2.2.1, (o0_2.2.2.2.2.2.2.2.2.1.getD ((o0_2.2.2.2.2.2.2.2.2.1.length : Int) - (1 : Int)).toNat ([], [], [], [], [], ())).2.2.2.1, (o0_2.2.2.2.2.2.2.2.2.1.getD ((o0_2.2.2.2.2.2.2.2.2.1.length : Int) - (1 : Int)).toNat ([], [], [], [], [], ())).2.2.2.2.1, ()), r_8.2, .inl r_55)⟩)]) (.cons (aIx F) xAa (.nil))) [] [] (yaE ?_)
      refine aVs 2 (r_55.1.1, r_55.1.2.1, r_55.1.2.2.1, r_55.1.2.2.2.1, r_55.1.2.2.2.2.1, ()) [8, 9, 10, 11] rfl (by first | rfl | (simp only [go_sem]; done)) rfl rfl (yaA ?_)
      obtain rfl := Option.some.inj h
      refine bB (gF (gT [0, 1, 2, 3] rfl rfl (yaC ?_)))
      exact zak
     ·try dsimp only at h
      refine aC hF (aG (l := [(59, ⟨wV F, [2, 1, 4, 5, 6, 7], (o0_2.2.2.2.2.2.2.2.2.1, ((o0_2.2.2.2.2.2.2.2.2.1.length : Int) - (1 : Int)).toNat, ((o0_2.2.2.2.2.2.2.2.2.1.getD ((o0_2.2.2.2.2.2.2.2.2.1.length : Int) - (1 : Int)).toNat ([], [], [], [], [], ())).1, (o0_2.2.2.2.2.2.2.2.2.1.getD ((o0_2.2.2.2.2.2.2.2.2.1.length : Int) - (1 : Int)).toNat ([], [], [], [], [], ())).2.1, (o0_2.2.2.2.2.2.2.2.2.1.getD ((o0_2.2.2.2.2.2.2.2.2.1.length : Int) - (1 : Int)).toNat ([], [], [], [], [], ())).2.2.1, (o0_2.2.2.2.2.2.2.2.2.1.getD ((o0_2.2.2.2.2.2.2.2.2.1.length : Int) - (1 : Int)).toNat ([], [], [], [], [], ())).2.2.2.1, (o0_2.2.2.2.2.2.2.2.2.1.getD ((o0_2.2.2.2.2.2.2.2.2.1.length : Int) - (1 : Int)).toNat ([], [], [], [], [], ())).2.2.2.2.1, ()), r_8.2, .inr p_56)⟩)]) (.cons (aIx F) xAa (.nil))) [] [] (yaE ?_)
      exact zay
    ·try simp only [go_sem] at hc
     have h := eD zAB h
     obtain ⟨e, he12, h⟩ := bind_some h
     rcases e with r_57 | p_58
     ·try dsimp only at h
      refine aC hF (aG (l := [(57, ⟨eU F, [1], (r_8.2, .inl r_57)⟩)]) (.cons (iM F) xAa (.nil))) [] [] (yaB ?_)
      obtain rfl := Option.some.inj h
      refine bB (gF (dZ hF [] rfl rfl rfl rfl rfl rfl ?_))
      exact zaB
     ·try dsimp only at h
      refine aC hF (aG (l := [(57, ⟨eU F, [1], (r_8.2, .inr p_58)⟩)]) (.cons (iM F) xAa (.nil))) [] [] (yaB ?_)
      exact zay
attribute [go_sem] sO
def sA (F : Md) (s_0 : qf) (out_44 : wd) : Option wd :=
 if ¬ ((out_44.length : Int) = (s_0.2.2.2.2.2.2.2.2.2.1.length : Int)) then some s_0.2.2.2.2.2.2.2.2.2.1 else some out_44
def xT (F : Md) (s_0 : qf) (x13_64 : Int) (x20_113 : Int) (x27_132 : Int) (out_133 : wd) : Option ((Int × wd) ⊕ wd) :=
 if x27_132 < (s_0.2.2.2.2.2.2.2.2.2.1.length : Int) then ck (0 ≤ x27_132 ∧ x27_132 < (s_0.2.2.2.2.2.2.2.2.2.1.length : Int)) (if (¬ ((s_0.2.2.2.2.2.2.2.2.2.1.getD (x27_132.toNat) ([], [], [], [], ())).1 = (s_0.2.2.2.2.2.2.2.2.1.getD (x13_64.toNat) ([], [], [], [], [], ())).1)) ∨ (¬ ((s_0.2.2.2.2.2.2.2.2.2.1.getD (x27_132.toNat) ([], [], [], [], ())).2.1 = ((s_0.2.2.2.2.2.2.2.2.1.getD (x13_64.toNat) ([], [], [], [], [], ())).2.2.2.1.getD (x20_113.toNat) ([] : List Nat)))) then ck (I64 (x27_132 + (1 : Int))) (some (.inl ((x27_132 + (1 : Int)), out_133))) else ck (((out_133.length) + (1 : Nat)) * 97 ≤ 140737488355328) (ck (I64 (x27_132 + (1 : Int))) (some (.inl ((x27_132 + (1 : Int)), (out_133 ++ ([(s_0.2.2.2.2.2.2.2.2.2.1.getD (x27_132.toNat) ([], [], [], [], ()))] : List qm))))))) else some (.inr out_133)
def xU (F : Md) (s_0 : qf) (x13_64 : Int) (x20_113 : Int) (out_114 : wd) : Option ((Int × wd) ⊕ wd) :=
 if x20_113 < (((s_0.2.2.2.2.2.2.2.2.1.getD (x13_64.toNat) ([], [], [], [], [], ())).2.2.2.1.length : Nat) : Int) then ck (0 ≤ x20_113 ∧ x20_113 < (((s_0.2.2.2.2.2.2.2.2.1.getD (x13_64.toNat) ([], [], [], [], [], ())).2.2.2.1.length : Nat) : Int)) ((eG F (fun d : Int × wd => xT F s_0 x13_64 x20_113 d.1 d.2) ((0 : Int), out_114)).bind (fun e => ck (I64 (x20_113 + (1 : Int))) (some (.inl ((x20_113 + (1 : Int)), e))))) else some (.inr out_114)
def xV (F : Md) (s_0 : qf) (x13_64 : Int) (out_65 : wd) : Option ((Int × wd) ⊕ wd) :=
 if x13_64 < (s_0.2.2.2.2.2.2.2.2.1.length : Int) then ck (0 ≤ x13_64 ∧ x13_64 < (s_0.2.2.2.2.2.2.2.2.1.length : Int)) ((eG F (fun d : Int × wd => xU F s_0 x13_64 d.1 d.2) ((0 : Int), out_65)).bind (fun e => ck (I64 (x13_64 + (1 : Int))) (some (.inl ((x13_64 + (1 : Int)), e))))) else some (.inr out_65)
def jW (F : Md) (s_0 : qf) : Option wd :=
 (eG F (fun d : Int × wd => xV F s_0 d.1 d.2) ((0 : Int), ([] : List qm))).bind (fun e => sA F s_0 e)
def aEV : PlR := ⟨[(0, .B [1]), (1, .A [1, 3]), (2, .A [1, 3, 11, 12, 13]), (3, .A [1, 3, 11, 12, 13, 14]), (4, .B [1, 3, 5, 11, 12, 13]), (5, .A [1, 3, 5, 11, 12, 13, 18, 19, 20]), (6, .A [1, 3, 5, 11, 12, 13, 18, 19, 20, 21]), (7, .A [1, 3, 5, 7, 11, 12, 13, 18, 19, 20]), (8, .A [1, 3, 5, 7, 11, 12, 13, 18, 19, 20, 25, 26, 27]), (9, .A [1, 3, 5, 7, 11, 12, 13, 18, 19, 20, 25, 26, 27, 28]), (10, .B [1, 3, 5, 7, 9, 11, 12, 13, 18, 19, 20, 25, 26, 27]), (11, .A [1, 3, 5, 7, 9, 11, 12, 13, 18, 19, 20, 25, 26, 27, 41]), (12, .B [1, 3, 5, 7, 11, 12, 13, 18, 19, 20, 25, 26, 27]), (13, .A [1, 3, 5, 7, 11, 12, 13, 18, 19, 20, 25, 26, 27]), (14, .A [1, 3, 5, 11, 12, 13, 18, 19, 20]), (15, .A [1, 3, 11, 12, 13]), (16, .A [1, 3, 54]), (17, .A [2]), (18, .A [2])], [(5, 19)]⟩
def aGm : Ty := .pair qj .unit
def vB (F : Md) : aI := mSpec aGm (.one (.sl qs)) (fun x => jW F x.1)
abbrev aNs (F : Md) : List (FuncId × aI) := []
theorem aNt [Mx] (F : Md) : bJ Tryz.prog GL (aNs F) := .nil
attribute [go_sem] aGm aEV
theorem aLO [Mx] (F : Md) : FOK Tryz.prog GL 30 (vB F) := by
 refine bT (aT (aNt F)) mix Tryz.func30 rfl xAa xAc aEV fun w0 S x Θ hw h hF => ?_
 obtain ⟨(s_0 : qf), u⟩ := x
 simp only [bX, go_sem]
 replace h : sat (jW F s_0) _ := h
 unfold jW at h
 refine eP hF (D := wd) (fun d => sat (sA F s_0 d) Θ) [] (fun d => [(1, .ptr 0 []), (3, .own 1)]) (fun d => [.inr (.box 10 (.val qj s_0)), .inr (.row 83 qs d)]) ?_ ?_
 ·simp only [go_sem]
  refine aCV 3 83 qs rfl (yaA ?_)
  refine cG hF (D := Int × wd) [11, 12] (fun d => [(1, .ptr 0 []), (3, .own 1), (13, .val qe d.1)]) (fun d => [.inr (.box 10 (.val qj s_0)), .inr (.row 83 qs d.2)]) h rfl xAb ?_
  rintro ⟨x13_64, out_65⟩ A3 T3 hA3 hE3 h
  simp only [go_sem]
  replace h : sat (xV F s_0 x13_64 out_65) _ := h
  unfold xV at h
  refine fI h (fun hc h => ?_) fun hc h => ?_
  ·obtain ⟨g0, h⟩ := aP h
   repeat (refine ⟨by omega, ?_⟩)
   refine cG hF (D := Int × wd) [11, 12, 13, 18, 19] (fun d => [(1, .ptr 0 []), (3, .own 1), (5, .ptr 2 []), (20, .val qe d.1)]) (fun d => [.inr (.box 10 (.val qj s_0)), .inr (.row 83 qs d.2), .inr (.box 5 (.val qa (s_0.2.2.2.2.2.2.2.2.1.getD (x13_64.toNat) ([], [], [], [], [], ()))))]) h rfl xAb ?_
   rintro ⟨x20_113, out_114⟩ A6 T6 hA6 hE6 h
   simp only [go_sem]
   replace h : sat (xU F s_0 x13_64 x20_113 out_114) _ := h
   unfold xU at h
   refine fI h (fun hc h => ?_) fun hc h => ?_
   ·obtain ⟨g0, h⟩ := aP h
    repeat (refine ⟨by omega, ?_⟩)
    refine cG hF (D := Int × wd) [7, 11, 12, 13, 18, 19, 20, 25, 26] (fun d => [(1, .ptr 0 []), (3, .own 1), (5, .ptr 2 []), (27, .val qe d.1)]) (fun d => [.inr (.box 10 (.val qj s_0)), .inr (.row 83 qs d.2), .inr (.box 5 (.val qa (s_0.2.2.2.2.2.2.2.2.1.getD (x13_64.toNat) ([], [], [], [], [], ()))))]) h rfl xAb ?_
    rintro ⟨x27_132, out_133⟩ A9 T9 hA9 hE9 h
    simp only [go_sem]
    replace h : sat (xT F s_0 x13_64 x20_113 x27_132 out_133) _ := h
    unfold xT at h
    refine fI h (fun hc h => ?_) fun hc h => ?_
    ·obtain ⟨g0, h⟩ := aP h
     repeat (refine ⟨by omega, ?_⟩)
     refine ⟨fun hc => ?_, fun hc => ?_⟩
     ·replace h := jH hc h
      refine bD h fun g0 h => ?_
      replace h := hA9 _ (aE h)
      refine gT [0, 1, 2] rfl rfl (yaA ?_)
      exact zaK
     ·replace h := jI hc h
      obtain ⟨g0, h⟩ := aP h
      repeat (refine ⟨by omega, ?_⟩)
      refine bD h fun g0 h => ?_
      replace h := hA9 _ (aE h)
      refine gT [0, 4, 2] rfl rfl (yaA ?_)
      exact zaK
    ·replace h := yaF (hE9 _ (aE h))
     refine bD h fun g0 h => ?_
     replace h := hA6 _ (aE h)
     exact zaK
   ·replace h := yaF (hE6 _ (aE h))
    refine bD h fun g0 h => ?_
    replace h := hA3 _ (aE h)
    refine gT [0, 1] rfl rfl (yaA ?_)
    exact zaK
  ·replace h := yaF (hE3 _ (aE h))
   exact aZ (out_65) h rfl xAb
 ·rintro out_44 h
  simp only [go_sem]
  replace h : sat (sA F s_0 out_44) _ := h
  unfold sA at h
  refine fC h (fun hc h => ?_) fun hc h => ?_
  ·exact aK hF [.tmp 2] rfl rfl rfl (aE h) xAd
  ·exact aK hF [.tmp 2] rfl rfl rfl (aE h) xAd
attribute [go_sem] vB
end
end Nu
end Go.Proofs
