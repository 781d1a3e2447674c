import Derived.Test.YtjfnadgkomdedaaGreatDoorZS1
import Derived.Test.YtjfnadgkomdedaaGreatDoorZL6
import Derived.Shelf.Strconv.Itoa2
import Derived.Shelf.Strings.OnBuilder
set_option linter.unusedVariables false
set_option linter.unusedSimpArgs false
namespace Go.Proofs
open Go.Vc
set_option maxRecDepth 20000
namespace Nu
noncomputable section
set_option maxHeartbeats 4000000
def pS (F : Md) (l_8 : (List qi)) : Option (Bool) :=
 ck ((2 : Int) < (l_8.length : Int)) (ck ((1 : Int) < (l_8.length : Int)) ((yJ F (l_8.getD (2 : Nat) (false, [], 0, ())) (l_8.getD (1 : Nat) (false, [], 0, ()))).bind (fun v_14 => ck ((v_14 ≤ (0 : Int)) → ((0 : Int) < (l_8.length : Int))) (ck ((v_14 ≤ (0 : Int)) → ((1 : Int) < (l_8.length : Int))) (ck ((v_14 ≤ (0 : Int)) → ((kN F (l_8.getD (0 : Nat) (false, [], 0, ())) (l_8.getD (1 : Nat) (false, [], 0, ())) (256 : Int)).isSome = true)) (ck (((v_14 ≤ (0 : Int)) ∧ (((kN F (l_8.getD (0 : Nat) (false, [], 0, ())) (l_8.getD (1 : Nat) (false, [], 0, ())) (256 : Int)).getD false) = true)) → ((1 : Int) < (l_8.length : Int))) (ck (((v_14 ≤ (0 : Int)) ∧ (((kN F (l_8.getD (0 : Nat) (false, [], 0, ())) (l_8.getD (1 : Nat) (false, [], 0, ())) (256 : Int)).getD false) = true)) → ((2 : Int) < (l_8.length : Int))) (ck (((v_14 ≤ (0 : Int)) ∧ (((kN F (l_8.getD (0 : Nat) (false, [], 0, ())) (l_8.getD (1 : Nat) (false, [], 0, ())) (256 : Int)).getD false) = true)) → ((kN F (l_8.getD (1 : Nat) (false, [], 0, ())) (l_8.getD (2 : Nat) (false, [], 0, ())) (4096 : Int)).isSome = true)) (some (((decide (v_14 ≤ (0 : Int))) && ((kN F (l_8.getD (0 : Nat) (false, [], 0, ())) (l_8.getD (1 : Nat) (false, [], 0, ())) (256 : Int)).getD false)) && ((kN F (l_8.getD (1 : Nat) (false, [], 0, ())) (l_8.getD (2 : Nat) (false, [], 0, ())) (4096 : Int)).getD false)))))))))))
def uZ (F : Md) (s_0 : qc) (x56_16 : Int) (l_17 : (List qi)) : Option ((Int × (List qi)) ⊕ ((List qi) ⊕ Bool)) :=
 if x56_16 < (4 : Int) then ck (0 ≤ x56_16 ∧ x56_16 < (4 : Int)) ((aCq F (([s_0.2.2.2.2.1, s_0.2.2.2.2.2.1, s_0.2.2.2.2.2.2.1, s_0.2.2.2.2.2.2.2.1] : List qI).getD (x56_16.toNat) ([] : List Nat))).bind (fun v_24 => ck (¬ (¬ (v_24.2.1 = (0 : Int))) → ((rR F v_24.1).isSome = true)) (if (¬ (v_24.2.1 = (0 : Int))) ∨ (((rR F v_24.1).getD (0 : Int)) ≤ (0 : Int)) then some (.inr (.inr false)) else ck (((l_17.length) + (1 : Nat)) * 73 ≤ 140737488355328) (ck (I64 (x56_16 + (1 : Int))) (some (.inl ((x56_16 + (1 : Int)), (l_17 ++ ([v_24.1] : List qi))))))))) else some (.inr (.inl l_17))
def uJ (F : Md) (s_0 : qc) : Option Bool :=
 if ((((((s_0.1 < (8 : Int)) ∨ ((200 : Int) < s_0.1)) ∨ (s_0.2.1 < (1 : Int))) ∨ ((20 : Int) < s_0.2.1)) ∨ (s_0.2.2.1 < (0 : Int))) ∨ ((3 : Int) < s_0.2.2.1)) ∨ ((¬ (s_0.2.2.2.1 = (1 : Int))) ∧ (¬ (s_0.2.2.2.1 = (2 : Int)))) then some false else (dI F (fun d : Int × (List qi) => uZ F s_0 d.1 d.2) ((0 : Int), ([] : List qi))).bind (fun e => match e with | (.inl e) => pS F e | (.inr e) => some e)
def aDn : PlR := ⟨[(0, .B [1]), (1, .A [1, 45]), (2, .A [2]), (3, .A [1, 3]), (4, .A [3, 54, 55, 56]), (5, .A [3, 54, 55, 56, 57]), (6, .A [3, 5, 54, 55, 56]), (7, .B [3, 6, 7, 54, 55, 56]), (8, .A [3, 6, 54, 55, 56, 71]), (9, .A [2]), (10, .B [3, 54, 55, 56]), (11, .A [3, 54, 55, 56]), (12, .A [2])], [(7, 15)]⟩
def aEw : Ty := .pair qe .unit
def sH (F : Md) : aF := mSpec aEw (.one .bool) (fun x => uJ F x.1)
abbrev qG (F : Md) : List (FuncId × aF) := [(65, (aA7 F)), (66, (sE F)), (67, (vK F)), (68, (zC F))]
theorem aLp (F : Md) : bG Tryz.prog GL (qG F) := .cons (aP0 F) xAa (.cons (aIi F) xAa (.cons (aKK F) xAa (.cons (aOm F) xAa (.nil))))
attribute [go_sem] aEw aDn
theorem aJS (F : Md) : FOK Tryz.prog GL 48 (sH F) := by
 refine bN (aS (aLp F)) mix Tryz.func48 rfl xAa xAb aDn fun w0 S x Θ hw h hF => ?_
 obtain ⟨(s_0 : qc), u⟩ := x
 simp only [bQ, go_sem]
 replace h : sat (uJ F s_0) _ := h
 unfold uJ at h
 refine ⟨fun hc => ?_, fun hc => ?_⟩
 ·replace h := jA hc h
  exact zaB
 ·replace h := jB hc h
  refine dU hF (D := (List qi)) (fun d => sat (pS F d) Θ) [] (fun d => [(3, .own 0)]) (fun d => [.inr (.row 117 qh d)]) ?_ ?_
  ·simp only [go_sem]
   refine aDR 3 117 qh rfl (yaA ?_)
   refine aAO [1] rfl rfl (yaA ?_)
   refine cI hF (D := Int × (List qi)) [55] (fun d => [(3, .own 0), (54, .val qu ([s_0.2.2.2.2.1, s_0.2.2.2.2.2.1, s_0.2.2.2.2.2.2.1, s_0.2.2.2.2.2.2.2.1] : List qI)), (56, .val qj d.1)]) (fun d => [.inr (.row 117 qh d.2)]) h rfl (by (try simp only [gR, dM, true_or, and_self, go_sem]) <;> (repeat' apply And.intro) <;> first | rfl | (left; rfl) | (right; rfl) | (left; simp only [go_sem]; done) | (right; simp only [go_sem]; done) | (simp; done) | (simp only [*]; done) | omega) ?_
   rintro ⟨x56_16, l_17⟩ A5 T5 hA5 hE5 h
   simp only [go_sem]
   replace h : sat (uZ F s_0 x56_16 l_17) _ := h
   unfold uZ at h
   refine fZ h (fun hc h => ?_) fun hc h => ?_
   ·obtain ⟨g0, h⟩ := aL h
    repeat (refine ⟨zAA, ?_⟩)
    obtain ⟨v_24, hv, h⟩ := aJ h
    try simp only [hv, go_sem]
    obtain ⟨g0, h⟩ := aL h
    repeat (refine ⟨zAE, ?_⟩)
    refine ⟨fun hc => ?_, fun hc => ?_⟩
    ·replace h := jA zAB h
     replace h := yaF (hE5 _ (aC h))
     exact zaB
    ·replace h := jB zAB h
     obtain ⟨g0, h⟩ := aL h
     repeat (refine ⟨zAA, ?_⟩)
     obtain ⟨g0, h⟩ := aL h
     try simp only [I64, I32] at g0
     repeat (refine ⟨zAA, ?_⟩)
     replace h := hA5 _ (aC h)
     refine mD [2] rfl rfl (yaA ?_)
     exact zaF
   ·replace h := yaF (hE5 _ (aC h))
    exact aW (l_17) h rfl xAc
  ·rintro l_8 h
   simp only [go_sem]
   replace h : sat (pS F l_8) _ := h
   unfold pS at h
   obtain ⟨g0, h⟩ := aL h
   obtain ⟨g1, h⟩ := aL h
   repeat (refine ⟨zAA, ?_⟩)
   obtain ⟨v_14, hv, h⟩ := aJ h
   try simp only [hv, go_sem]
   obtain ⟨g0, h⟩ := aL h
   obtain ⟨g1, h⟩ := aL h
   obtain ⟨g2, h⟩ := aL h
   obtain ⟨g3, h⟩ := aL h
   obtain ⟨g4, h⟩ := aL h
   obtain ⟨g5, h⟩ := aL h
   repeat (refine ⟨by first | with_reducible assumption | omega | (intros; first | with_reducible assumption | omega) | (simp only [go_sem] at *; first | with_reducible assumption | omega) | (intro _; exact ⟨rfl, by decide⟩) | (intro _; refine (?_ : _ = aE _); rfl) | (refine (?_ : _ = aE _); rfl) | exact ⟨rfl, rfl⟩ | (intro q0; (try have e0 := g0 (by first | exact q0 | omega | (simpa using q0))); (try have e1 := g1 (by first | exact q0 | omega | (simpa using q0))); (try have e2 := g2 (by first | exact q0 | omega | (simpa using q0))); (try have e3 := g3 (by first | exact q0 | omega | (simpa using q0))); (try have e4 := g4 (by first | exact q0 | omega | (simpa using q0))); (try have e5 := g5 (by first | exact q0 | omega | (simpa using q0))); first | assumption | omega) | decide, ?_⟩)
   exact zaB
attribute [go_sem] sH
def sI (F : Md) (x_6 : qm) (s_0 : qg) (p_11 : qm) : Option (qm × (qm × wg)) :=
 some (x_6, p_11, s_0.2.2.2.1, ())
def yK (F : Md) (s_0 : qg) (x25_12 : Int) (p_13 : qm) : Option ((Int × qm) ⊕ qm) :=
 if x25_12 < (s_0.2.2.1.length : Int) then ck (0 ≤ x25_12 ∧ x25_12 < (s_0.2.2.1.length : Int)) (ck (((p_13.length) + (1 : Nat)) * 16 ≤ 140737488355328) (ck (I64 (x25_12 + (1 : Int))) (some (.inl ((x25_12 + (1 : Int)), (p_13 ++ ([(s_0.2.2.1.getD (x25_12.toNat) ([], ([], [], ()), ())).1] : List qI))))))) else some (.inr p_13)
def sJ (F : Md) (s_0 : qg) (x_6 : qm) : Option (qm × (qm × wg)) :=
 (dI F (fun d : Int × qm => yK F s_0 d.1 d.2) ((0 : Int), ([] : List qI))).bind (fun e => sI F x_6 s_0 e)
def yL (F : Md) (s_0 : qg) (x12_17 : Int) (x_18 : qm) : Option ((Int × qm) ⊕ qm) :=
 if x12_17 < (s_0.2.1.length : Int) then ck (0 ≤ x12_17 ∧ x12_17 < (s_0.2.1.length : Int)) (ck (((x_18.length) + (1 : Nat)) * 16 ≤ 140737488355328) (ck (I64 (x12_17 + (1 : Int))) (some (.inl ((x12_17 + (1 : Int)), (x_18 ++ ([(s_0.2.1.getD (x12_17.toNat) ([], ([], [], ()), (Ex.mk 0 [] []), ())).1] : List qI))))))) else some (.inr x_18)
def aX (F : Md) (s_0 : qg) : Option (qm × (qm × wg)) :=
 (dI F (fun d : Int × qm => yL F s_0 d.1 d.2) ((0 : Int), ([] : List qI))).bind (fun e => sJ F s_0 e)
def aFt : PlR := ⟨[(0, .B [1, 2, 3]), (1, .A [1, 2, 3, 10, 11, 12]), (2, .A [1, 2, 3, 10, 11, 12, 13]), (3, .B [1, 2, 3, 6, 10, 11, 12]), (4, .B [1, 2, 3, 10, 11, 12]), (5, .A [1, 2, 3, 10, 11, 12]), (6, .A [1, 2, 3, 23, 24, 25]), (7, .A [1, 2, 3, 23, 24, 25, 26]), (8, .B [1, 2, 3, 8, 23, 24, 25]), (9, .B [1, 2, 3, 23, 24, 25]), (10, .A [1, 2, 3, 23, 24, 25]), (11, .A [2, 3, 4])], [(4, 9), (9, 14)]⟩
def aGJ : Ty := .pair qa .unit
def wP (F : Md) : aF := mSpec aGJ (.tup (.pair qu (.pair qu (.pair qu .unit)))) (fun x => aX F x.1)
abbrev aOn (F : Md) : List (FuncId × aF) := []
theorem aOo (F : Md) : bG Tryz.prog GL (aOn F) := .nil
attribute [go_sem] aGJ aFt
theorem aNA (F : Md) : FOK Tryz.prog GL 69 (wP F) := by
 refine bN (aS (aOo F)) mix Tryz.func69 rfl xAa xAb aFt fun w0 S x Θ hw h hF => ?_
 obtain ⟨(s_0 : qg), u⟩ := x
 simp only [bQ, go_sem]
 replace h : sat (aX F s_0) _ := h
 unfold aX at h
 refine dU hF (D := qm) (fun d => sat (sJ F s_0 d) Θ) [3] (fun d => [(1, .ptr 0 []), (2, .own 1)]) (fun d => [.inr (.box 5 (.val qa s_0)), .inr (.row 9 .str d)]) ?_ ?_
 ·simp only [go_sem]
  refine aDR 2 9 .str rfl (yaA ?_)
  refine cI hF (D := Int × qm) [3, 10, 11] (fun d => [(1, .ptr 0 []), (2, .own 1), (12, .val qj d.1)]) (fun d => [.inr (.box 5 (.val qa s_0)), .inr (.row 9 .str d.2)]) h rfl xAc ?_
  rintro ⟨x12_17, x_18⟩ A2 T2 hA2 hE2 h
  simp only [go_sem]
  replace h : sat (yL F s_0 x12_17 x_18) _ := h
  unfold yL at h
  refine fZ h (fun hc h => ?_) fun hc h => ?_
  ·obtain ⟨g0, h⟩ := aL h
   repeat (refine ⟨by omega, ?_⟩)
   obtain ⟨g0, h⟩ := aL h
   repeat (refine ⟨by omega, ?_⟩)
   refine aU h fun g0 h => ?_
   replace h := hA2 _ (aC h)
   refine mD [0, 3] rfl rfl (yaA ?_)
   exact zaF
  ·replace h := yaF (hE2 _ (aC h))
   exact aW (x_18) h rfl xAc
 ·rintro x_6 h
  simp only [go_sem]
  replace h : sat (sJ F s_0 x_6) _ := h
  unfold sJ at h
  refine dU hF (D := qm) (fun d => sat (sI F x_6 s_0 d) Θ) [] (fun d => [(1, .ptr 0 []), (2, .own 1), (3, .own 2)]) (fun d => [.inr (.box 5 (.val qa s_0)), .inr (.row 9 .str x_6), .inr (.row 9 .str d)]) ?_ ?_
  ·simp only [go_sem]
   refine aDR 3 9 .str rfl (yaA ?_)
   refine cI hF (D := Int × qm) [23, 24] (fun d => [(1, .ptr 0 []), (2, .own 1), (3, .own 2), (25, .val qj d.1)]) (fun d => [.inr (.box 5 (.val qa s_0)), .inr (.row 9 .str x_6), .inr (.row 9 .str d.2)]) h rfl xAc ?_
   rintro ⟨x25_12, p_13⟩ A7 T7 hA7 hE7 h
   simp only [go_sem]
   replace h : sat (yK F s_0 x25_12 p_13) _ := h
   unfold yK at h
   refine fZ h (fun hc h => ?_) fun hc h => ?_
   ·obtain ⟨g0, h⟩ := aL h
    repeat (refine ⟨by omega, ?_⟩)
    obtain ⟨g0, h⟩ := aL h
    repeat (refine ⟨by omega, ?_⟩)
    refine aU h fun g0 h => ?_
    replace h := hA7 _ (aC h)
    refine mD [0, 1, 4] rfl rfl (yaA ?_)
    exact zaF
   ·replace h := yaF (hE7 _ (aC h))
    exact aW (p_13) h rfl xAc
  ·rintro p_11 h
   simp only [go_sem]
   replace h : sat (sI F x_6 s_0 p_11) _ := h
   unfold sI at h
   exact zaY
attribute [go_sem] wP
def rU (F : Md) (slices_0 : (List qm)) (x27_13 : Int) (newslice_14 : qm) : Option ((Int × qm) ⊕ qm) :=
 if x27_13 < (slices_0.length : Int) then ck (0 ≤ x27_13 ∧ x27_13 < (slices_0.length : Int)) (ck (((newslice_14.length) + (slices_0.getD (x27_13.toNat) ([] : List qI)).length) * 16 ≤ 140737488355328) (ck (I64 (x27_13 + (1 : Int))) (some (.inl ((x27_13 + (1 : Int)), (newslice_14 ++ (slices_0.getD (x27_13.toNat) ([] : List qI)))))))) else some (.inr newslice_14)
def nX (F : Md) (slices_0 : (List qm)) (size_6 : Int) : Option qm :=
 (oE F size_6).bind (fun r_8 => (dI F (fun d : Int × qm => rU F slices_0 d.1 d.2) ((0 : Int), r_8)).bind (fun e => some e))
def sZ (F : Md) (slices_0 : (List qm)) (size_18 : Int) (x11_19 : Int) : Option (qz ⊕ (Int)) :=
 if x11_19 < (slices_0.length : Int) then ck (0 ≤ x11_19 ∧ x11_19 < (slices_0.length : Int)) (ck (I64 (size_18 + (((slices_0.getD (x11_19.toNat) ([] : List qI)).length : Nat) : Int))) (if (size_18 + (((slices_0.getD (x11_19.toNat) ([] : List qI)).length : Nat) : Int)) < (0 : Int) then none else ck (I64 (x11_19 + (1 : Int))) (some (.inl ((size_18 + (((slices_0.getD (x11_19.toNat) ([] : List qI)).length : Nat) : Int)), (x11_19 + (1 : Int))))))) else some (.inr size_18)
def bS (F : Md) (slices_0 : (List qm)) : Option qm :=
 (dI F (fun d : Int × Int => sZ F slices_0 d.1 d.2) ((0 : Int), (0 : Int))).bind (fun e => nX F slices_0 e)
@[go_sem]def mL : Ty := .pair (.sl qu) .unit
def lN (F : Md) : aF := mSpec mL (.one qu) (fun x => bS F x.1)
abbrev wQ (F : Md) : List (FuncId × aF) := []
theorem wR (F : Md) : bG Tryz.prog GL (wQ F) := .nil
theorem aDo (F : Md) : FOK Tryz.prog GL 70 (lN F) := by
 refine nY (aS (wR F)) Tryz.func70 rfl xAa xAb fun w0 S x r hw h => ?_
 have hF : hU (fr Tryz.prog (EM (wQ F)) S w0 Tryz.f70.ntmps) := ⟨aS (wR F), mix⟩
 obtain ⟨(slices_0 : (List qm)), u⟩ := x
 simp only [mL, Ty.wf, gW] at hw
 simp only [bQ, mL]
 try dsimp only at h
 replace h : bS F slices_0 = some r := h
 unfold bS at h
 refine aA (aD hF [0] (yaA ?_))
 refine aB (aA (aD hF [0, 3] (yaA ?_)))
 refine aB (jZ (D := Int) (fun d => nX F slices_0 d = some r) [0] (fun d => [(3, .val qj d)]) (fun d => []) ?_ ?_)
 ·refine aA (aD hF [0, 3, 9, 10, 11] (yaA ?_))
  refine aB (cB (hZ (D := Int × Int) [0, 9, 10] (fun d => [(3, .val qj d.1), (11, .val qj d.2)]) (fun d => []) h ?_ ?_ ?_))
  ·first | rfl | (simp only [go_sem]; done)
  ·exact zAF
  rintro ⟨size_18, x11_19⟩ s3 h hs3
  simp only [go_sem]
  try dsimp only at h
  unfold sZ at h
  refine aA (aD hF [0, 3, 9, 10, 11, 12] (yaA ?_))
  refine aB (aA (bF rfl (fun hc => ?_) (fun hc => ?_)))
  ·try simp only [go_sem] at hc
   have h := dT zAB h
   refine bM (aB (aA (cB (aA (aD hF [0, 3, 5, 9, 10, 11] (yaA ?_))))))
   obtain ⟨g0, h⟩ := aI h
   repeat (refine ⟨zAA, ?_⟩)
   refine aB (aA (aD hF [0, 3, 9, 10, 11] (yaA ?_)))
   obtain ⟨g0, h⟩ := aI h
   try simp only [I64, I32] at g0
   repeat (refine ⟨zAA, ?_⟩)
   refine aB (aA (aD hF [0, 3, 9, 10, 11, 20] (yaA ?_)))
   refine aB (bF rfl (fun hc => ?_) (fun hc => ?_))
   ·try simp only [go_sem] at hc
    have h := dT zAB h
    cases h
   ·try simp only [go_sem] at hc
    have h := dP zAB h
    refine bM (cU (aB (aD hF [0, 3, 9, 10, 11] (yaA ?_))))
    obtain ⟨g0, h⟩ := aI h
    try simp only [I64, I32] at g0
    repeat (refine ⟨zAA, ?_⟩)
    obtain rfl := Option.some.inj h
    dsimp only [iM] at hs3
    refine bB (aW ((size_18 + (((slices_0.getD (x11_19.toNat) ([] : List qI)).length : Nat) : Int)), (x11_19 + (1 : Int))) hs3 rfl ?_)
    ·exact zAF
  ·try simp only [go_sem] at hc
   have h := dP zAB h
   obtain rfl := Option.some.inj h
   dsimp only [iM] at hs3
   have h := yaF (hs3)
   refine kT (bP (bP (dG (bB (aW (size_18) h rfl ?_)))))
   ·exact zAF
 ·rintro size_6 h
  try dsimp only at h
  simp only [go_sem]
  unfold nX at h
  obtain ⟨r_8, he1, h⟩ := bind_some h
  try dsimp only at h
  refine aA (aK hF (aY (l := [(98, ⟨iB F, [], (size_6, r_8)⟩)]) (.cons (aEP F) xAa (.nil))) [0, 6] [] (yaB ?_))
  refine aB (aA (aA (aD hF [6, 25, 26, 27] (yaA ?_))))
  refine aB (cB (hZ (D := Int × qm) [25, 26] (fun d => [(6, .own 0), (27, .val qj d.1)]) (fun d => [.inr (.row 9 .str d.2)]) h ?_ ?_ ?_))
  ·first | rfl | (simp only [go_sem]; done)
  ·exact zAF
  rintro ⟨x27_13, newslice_14⟩ s11 h hs11
  simp only [go_sem]
  try dsimp only at h
  unfold rU at h
  refine aA (aD hF [6, 25, 26, 27, 28] (yaA ?_))
  refine aB (aA (bF rfl (fun hc => ?_) (fun hc => ?_)))
  ·try simp only [go_sem] at hc
   have h := dT zAB h
   refine bM (aB (aA (cB (aA (aD hF [6, 8, 25, 26, 27] (yaA ?_))))))
   obtain ⟨g0, h⟩ := aI h
   repeat (refine ⟨zAA, ?_⟩)
   refine aB (aM hF [6, 25, 26, 27] (yaA ?_))
   obtain ⟨g0, h⟩ := aI h
   repeat (refine ⟨zAA, ?_⟩)
   refine cU (aB (aD hF [6, 25, 26, 27] (yaA ?_)))
   obtain ⟨g0, h⟩ := aI h
   try simp only [I64, I32] at g0
   repeat (refine ⟨zAA, ?_⟩)
   obtain rfl := Option.some.inj h
   dsimp only [iM] at hs11
   refine bB (mD [1] rfl rfl (yaC ?_))
   refine aW ((x27_13 + (1 : Int)), (newslice_14 ++ (slices_0.getD (x27_13.toNat) ([] : List qI)))) hs11 rfl ?_
   ·exact zAF
  ·try simp only [go_sem] at hc
   have h := dP zAB h
   obtain rfl := Option.some.inj h
   dsimp only [iM] at hs11
   have h := yaF (hs11)
   refine kT (bP (bP (dG (aB (aA (aD hF [2] (yaA ?_)))))))
   exact zag
attribute [go_sem] lN
def yM (F : Md) (l_0 : qm) (x9_12 : Int) (seen_13 : (List (qI × Bool))) : Option ((Int × (List (qI × Bool))) ⊕ ((Unit) ⊕ Bool)) :=
 if x9_12 < (l_0.length : Int) then ck (0 ≤ x9_12 ∧ x9_12 < (l_0.length : Int)) ((mK F (l_0.getD (x9_12.toNat) ([] : List Nat))).bind (fun v_25 => if (¬ (v_25 = true)) ∨ (((aBW .str seen_13 (l_0.getD (x9_12.toNat) ([] : List Nat))).getD false) = true) then some (.inr (.inr false)) else ck (I64 (x9_12 + (1 : Int))) (some (.inl ((x9_12 + (1 : Int)), (aBX .str seen_13 (l_0.getD (x9_12.toNat) ([] : List Nat)) true)))))) else some (.inr (.inl ()))
def qQ (F : Md) (l_0 : qm) : Option Bool :=
 (dI F (fun d : Int × (List (qI × Bool)) => yM F l_0 d.1 d.2) ((0 : Int), ([] : List (qI × Bool)))).bind (fun e => match e with | (.inl e) => some true | (.inr e) => some e)
def aFu : PlR := ⟨[(0, .A [0]), (1, .B [0, 3]), (2, .A [3, 7, 8, 9]), (3, .A [3, 7, 8, 9, 10]), (4, .A [3, 5, 7, 8, 9]), (5, .A [3, 5, 7, 8, 9, 20]), (6, .A [2]), (7, .B [3, 7, 8, 9]), (8, .A [3, 7, 8, 9]), (9, .A [2])], []⟩
def aGK : Ty := .pair qu .unit
def pG (F : Md) : aF := mSpec aGK (.one .bool) (fun x => qQ F x.1)
abbrev aGL (F : Md) : List (FuncId × aF) := [(7, (qN F))]
theorem aOp (F : Md) : bG Tryz.prog GL (aGL F) := .cons (aGC F) xAa (.nil)
attribute [go_sem] aGK aFu
theorem aFv (F : Md) : FOK Tryz.prog GL 50 (pG F) := by
 refine bN (aS (aOp F)) mix Tryz.func50 rfl xAa xAb aFu fun w0 S x Θ hw h hF => ?_
 obtain ⟨(l_0 : qm), u⟩ := x
 simp only [bQ, go_sem]
 replace h : sat (qQ F l_0) _ := h
 unfold qQ at h
 refine cI hF (D := Int × (List (qI × Bool))) [7, 8] (fun d => [(3, .mp 0), (9, .val qj d.1)]) (fun d => [.inr (.map .str .bool d.2)]) h rfl xAc ?_
 rintro ⟨x9_12, seen_13⟩ A3 T3 hA3 hE3 h
 simp only [go_sem]
 replace h : sat (yM F l_0 x9_12 seen_13) _ := h
 unfold yM at h
 refine fZ h (fun hc h => ?_) fun hc h => ?_
 ·refine aU h fun g0 h => ?_
  obtain ⟨v_25, hv, h⟩ := aJ h
  try simp only [hv, go_sem]
  refine ⟨fun hc => ?_, fun hc => ?_⟩
  ·replace h := jA zAB h
   replace h := yaF (hE3 _ (aC h))
   exact zaB
  ·replace h := jB zAB h
   refine aU h fun g0 h => ?_
   replace h := hA3 _ (aC h)
   exact zaF
 ·replace h := yaF (hE3 _ (aC h))
  exact zaB
attribute [go_sem] pG
def kO (F : Md) (s_0 : qI) (prefix_1 : qI) : Option Bool :=
 ck (((prefix_1.length : Int) ≤ (s_0.length : Int)) → (0 ≤ (prefix_1.length : Int) ∧ (prefix_1.length : Int) ≤ (s_0.length : Int))) (some ((decide ((prefix_1.length : Int) ≤ (s_0.length : Int))) && (decide ((List.take (prefix_1.length) s_0) = prefix_1))))
def tA : PlR := ⟨[(0, .A [0, 1]), (1, .A [4])], []⟩
def tT : Ty := .pair .str wd
def jQ (F : Md) : aF := mSpec tT (.one .bool) (fun x => kO F x.1 x.2.1)
abbrev aCS (F : Md) : List (FuncId × aF) := []
theorem aCT (F : Md) : bG Tryz.prog GL (aCS F) := .nil
attribute [go_sem] tT tA
theorem aB2 (F : Md) : FOK Tryz.prog GL 159 (jQ F) := by
 refine bN (aS (aCT F)) mix Tryz.func159 rfl xAa xAb tA fun w0 S x Θ hw h hF => ?_
 obtain ⟨(s_0 : qI), (prefix_1 : qI), u⟩ := x
 simp only [bQ, go_sem]
 replace h : sat (kO F s_0 prefix_1) _ := h
 unfold kO at h
 refine aU h fun g0 h => ?_
 exact zaA
attribute [go_sem] jQ
def kP (F : Md) (s_0 : qI) (prefix_1 : qI) : Option (qI × wa) :=
 (kO F s_0 prefix_1).bind (fun v_8 => if ¬ (v_8 = true) then some (s_0, false, ()) else ck (0 ≤ (prefix_1.length : Int) ∧ (prefix_1.length : Int) ≤ (s_0.length : Int)) (some ((List.drop (prefix_1.length) s_0), true, ())))
def tB : PlR := ⟨[(0, .A [0, 1]), (1, .A [0, 1, 9]), (2, .A [4, 5]), (3, .A [4, 5])], []⟩
def tU : Ty := .pair .str wd
def jR (F : Md) : aF := mSpec tU (.tup (.pair .str (.pair .bool .unit))) (fun x => kP F x.1 x.2.1)
abbrev tV (F : Md) : List (FuncId × aF) := [(159, (jQ F))]
theorem aCU (F : Md) : bG Tryz.prog GL (tV F) := .cons (aB2 F) xAa (.nil)
attribute [go_sem] tU tB
theorem aB3 (F : Md) : FOK Tryz.prog GL 154 (jR F) := by
 refine bN (aS (aCU F)) mix Tryz.func154 rfl xAa xAb tB fun w0 S x Θ hw h hF => ?_
 obtain ⟨(s_0 : qI), (prefix_1 : qI), u⟩ := x
 simp only [bQ, go_sem]
 replace h : sat (kP F s_0 prefix_1) _ := h
 unfold kP at h
 obtain ⟨v_8, hv, h⟩ := aJ h
 try simp only [hv, go_sem]
 refine aFj h (fun hc h => ?_) fun hc h => ?_
 ·exact aG hF [.tmp 4, .tmp 5] rfl rfl rfl (aC h) xAd
 ·refine aU h fun g0 h => ?_
  exact aG hF [.tmp 4, .tmp 5] rfl rfl rfl (aC h) xAd
attribute [go_sem] jR
def oY (F : Md) (s_0 : qI) (prefix_1 : qI) : Option (qI × wa) :=
 (kP F s_0 prefix_1).bind (fun v_6 => some (v_6.1, v_6.2.1, ()))
def zZ : PlR := ⟨[(0, .A [0, 1]), (1, .A [4, 5])], []⟩
def aAx : Ty := .pair .str wd
def oF (F : Md) : aF := mSpec aAx (.tup (.pair .str (.pair .bool .unit))) (fun x => oY F x.1 x.2.1)
abbrev aAy (F : Md) : List (FuncId × aF) := [(154, (jR F))]
theorem aGf (F : Md) : bG Tryz.prog GL (aAy F) := .cons (aB3 F) xAa (.nil)
attribute [go_sem] aAx zZ
theorem aFw (F : Md) : FOK Tryz.prog GL 137 (oF F) := by
 refine bN (aS (aGf F)) mix Tryz.func137 rfl xAa xAb zZ fun w0 S x Θ hw h hF => ?_
 obtain ⟨(s_0 : qI), (prefix_1 : qI), u⟩ := x
 simp only [bQ, go_sem]
 replace h : sat (oY F s_0 prefix_1) _ := h
 unfold oY at h
 obtain ⟨v_6, hv, h⟩ := aJ h
 try simp only [hv, go_sem]
 exact aG hF [.tmp 4, .tmp 5] rfl rfl rfl (aC h) xAd
attribute [go_sem] oF
def tW (F : Md) (s_0 : qI) : Option (Bool × (qI × (qI × wa))) :=
 (oY F s_0 (aP ⟨#[45]⟩)).bind (fun v_5 => (aCp F v_5.1).bind (fun v_9 => some ((v_5.2.1 && (decide ((0 : Int) < (v_9.1.length : Int)))), v_9.1, v_9.2.1, v_9.2.2.1, ())))
def aFx : PlR := ⟨[(0, .A [0]), (1, .A [6, 7]), (2, .A [7, 8, 9, 10]), (3, .A [2, 3, 4, 5])], []⟩
def aGM : Ty := .pair .str .unit
def wS (F : Md) : aF := mSpec aGM (.tup (.pair .bool (.pair qs (.pair qs (.pair .bool .unit))))) (fun x => tW F x.1)
abbrev aCV (F : Md) : List (FuncId × aF) := [(137, (oF F)), (138, (aA6 F))]
theorem aOq (F : Md) : bG Tryz.prog GL (aCV F) := .cons (aFw F) xAa (.cons (aPZ F) xAa (.nil))
attribute [go_sem] aGM aFx
theorem aNB (F : Md) : FOK Tryz.prog GL 99 (wS F) := by
 refine bN (aS (aOq F)) mix Tryz.func99 rfl xAa xAb aFx fun w0 S x Θ hw h hF => ?_
 obtain ⟨(s_0 : qI), u⟩ := x
 simp only [bQ, go_sem]
 replace h : sat (tW F s_0) _ := h
 unfold tW at h
 obtain ⟨v_5, hv, h⟩ := aJ h
 try simp only [hv, go_sem]
 obtain ⟨v_9, hv, h⟩ := aJ h
 try simp only [hv, go_sem]
 exact aG hF [.tmp 2, .tmp 3, .tmp 4, .tmp 5] rfl rfl rfl (aC h) xAd
attribute [go_sem] wS
def oG (F : Md) (r_0 : qx) (hi_2 : qI) : Option (Bool) :=
 (tW F r_0.1).bind (fun v_6 => (tW F hi_2).bind (fun v_10 => (iU F v_6.2.1 v_10.2.2.1).bind (fun v_20 => (iU F v_10.2.1 v_6.2.2.1).bind (fun v_21 => (rP F v_20 v_21).bind (fun v_22 => if (¬ (v_6.2.2.2.1 = true)) ∨ (¬ (v_10.2.2.2.1 = true)) then some false else if (v_6.1 != v_10.1) = true then some v_6.1 else if v_6.1 = true then some (decide ((0 : Int) ≤ v_22)) else some (decide (v_22 ≤ (0 : Int))))))))
def kX (F : Md) (r_0 : qx) : Option Bool :=
 if r_0.2.1 = (aP ⟨#[]⟩) then oG F r_0 r_0.1 else oG F r_0 r_0.2.1
def aEx : PlR := ⟨[(0, .B [1]), (1, .A [1, 3]), (2, .A [1, 3, 16]), (3, .A [1, 3]), (4, .A [3, 4, 5, 6, 7]), (5, .A [4, 5, 6, 7, 8, 9, 10, 11]), (6, .A [4, 7, 8, 11, 12]), (7, .A [2]), (8, .A [4, 8, 12, 43]), (9, .A [2]), (10, .A [4, 12, 50]), (11, .A [2]), (12, .A [12, 55]), (13, .A [2])], [(5, 7)]⟩
def aFy : Ty := .pair qp .unit
def uK (F : Md) : aF := mSpec aFy (.one .bool) (fun x => kX F x.1)
abbrev wT (F : Md) : List (FuncId × aF) := [(100, (oC F)), (90, (fL F)), (99, (wS F))]
theorem aNC (F : Md) : bG Tryz.prog GL (wT F) := .cons (aD3 F) xAa (.cons (sC F) xAa (.cons (aNB F) xAa (.nil)))
attribute [go_sem] aFy aEx
theorem aLr (F : Md) : FOK Tryz.prog GL 72 (uK F) := by
 refine bN (aS (aNC F)) mix Tryz.func72 rfl xAa xAb aEx fun w0 S x Θ hw h hF => ?_
 obtain ⟨(r_0 : qx), u⟩ := x
 simp only [bQ, go_sem]
 replace h : sat (kX F r_0) _ := h
 unfold kX at h
 refine dU hF (D := qI) (fun d => sat (oG F r_0 d) Θ) [] (fun d => [(1, .ptr 0 []), (3, .val .str d)]) (fun d => [.inr (.box 2 (.val qp r_0))]) ?_ ?_
 ·simp only [go_sem]
  refine dR h (fun hc h => ?_) fun hc h => ?_
  ·exact aW r_0.1 h rfl xAc
  ·exact aW r_0.2.1 h rfl xAc
 ·rintro hi_2 h
  simp only [go_sem]
  replace h : sat (oG F r_0 hi_2) _ := h
  unfold oG at h
  obtain ⟨v_6, hv, h⟩ := aJ h
  try simp only [hv, go_sem]
  obtain ⟨v_10, hv, h⟩ := aJ h
  try simp only [hv, go_sem]
  obtain ⟨v_20, hv, h⟩ := aJ h
  try simp only [hv, go_sem]
  obtain ⟨v_21, hv, h⟩ := aJ h
  try simp only [hv, go_sem]
  obtain ⟨v_22, hv, h⟩ := aJ h
  try simp only [hv, go_sem]
  refine ⟨fun hc => ?_, fun hc => ?_⟩
  ·replace h := jA zAB h
   exact zaB
  ·replace h := jB zAB h
   refine aH0 h (fun hc h => ?_) fun hc h => ?_
   ·exact aG hF [.tmp 2] rfl rfl rfl (aC h) xAd
   ·refine aH0 h (fun hc h => ?_) fun hc h => ?_
    ·exact aG hF [.tmp 2] rfl rfl rfl (aC h) xAd
    ·exact aG hF [.tmp 2] rfl rfl rfl (aC h) xAd
attribute [go_sem] uK
end
end Nu
end Go.Proofs
namespace Go.Proofs
open Go.Vc
set_option maxRecDepth 20000
namespace Nu
noncomputable section
set_option maxHeartbeats 4000000
attribute [-go_sem] Ex.kind Ex.text Ex.l
@[go_sem] theorem aY1 (k : Int) (t : List Nat) (l : List Ex) : Ex.l (.mk k t l) = l := rfl
@[go_sem] theorem aY2 (k : Int) (t : List Nat) (l : List Ex) : Ex.kind (.mk k t l) = k := rfl
@[go_sem] theorem aY3 (k : Int) (t : List Nat) (l : List Ex) : Ex.text (.mk k t l) = t := rfl
def jL (F : Md) (g : Ex → Int → Int → Int → Option qz) (e_0 : Ex) (at_1 : Int) (x23_10 : Int) (x_11 : Int) (x_12 : Int) : Option ((Int × Int × Int) ⊕ qz) :=
 if x23_10 < (((e_0.l).length : Nat) : Int) then ck (0 ≤ x23_10 ∧ x23_10 < (((e_0.l).length : Nat) : Int)) (ck (I64 (at_1 + (1 : Int))) ((g ((e_0.l).getD (x23_10.toNat) (Ex.mk 0 [] [])) (at_1 + (1 : Int)) x_11 x_12).bind (fun r_20 => ck (I64 (x23_10 + (1 : Int))) (some (.inl ((x23_10 + (1 : Int)), r_20.1, r_20.2)))))) else some (.inr (x_11, x_12))
def nB (F : Md) (g : Ex → Int → Int → Int → Option qz) (e_0 : Ex) (at_1 : Int) (o0_5 : Int) (o1_6 : Int) : Option qz :=
 ck (I64 (o0_5 + (1 : Int))) (if ((60 : Int) < (o0_5 + (1 : Int))) ∨ ((30 : Int) < at_1) then some ((o0_5 + (1 : Int)), (max o1_6 at_1)) else (dI F (fun d : Int × Int × Int => jL F g e_0 at_1 d.1 d.2.1 d.2.2) ((0 : Int), (o0_5 + (1 : Int)), (max o1_6 at_1))).bind (fun e => some (e.1, e.2)))
def sK (g : Ex → Int → Int → Int → Option qz) : iE where
 D := Ex × Int × Int × Int × qz
 av := fun d => [.val .expr d.1, .val qj d.2.1, .ptr 0 [], .ptr 1 [], .ptr 2 []]
 hp := fun d => [.box 1 (.val qj d.2.2.1), .box 1 (.val qj d.2.2.2.1), .box 1 (.fn 45 [] [0, 1, 2])]
 m := 3
 pre := fun d => g d.1 d.2.1 d.2.2.1 d.2.2.2.1 = some d.2.2.2.2
 out := fun d => (fun r : qz => .ret (.tup []) [.box 1 (.val qj r.1), .box 1 (.val qj r.2), .box 1 (.fn 45 [] [0, 1, 2])]) d.2.2.2.2
attribute [go_sem] sK
def aDq (F : Md) (g : Ex → Int → Int → Int → Option qz) : iE where
 D := Ex × Int × Int × Int × qz
 av := fun d => [.val .expr d.1, .val qj d.2.1, .ptr 0 [], .ptr 1 [], .ptr 2 []]
 hp := fun d => [.box 1 (.val qj d.2.2.1), .box 1 (.val qj d.2.2.2.1), .box 1 (.fn 45 [] [0, 1, 2])]
 m := 3
 pre := fun d => nB F g d.1 d.2.1 d.2.2.1 d.2.2.2.1 = some d.2.2.2.2
 out := fun d => (fun r : qz => .ret (.tup []) [.box 1 (.val qj r.1), .box 1 (.val qj r.2), .box 1 (.fn 45 [] [0, 1, 2])]) d.2.2.2.2
abbrev aFz (F : Md) (g : Ex → Int → Int → Int → Option qz) : List (FuncId × aF) := []
theorem aFA (F : Md) (g : Ex → Int → Int → Int → Option qz) (hg : GOK Tryz.prog GL 45 (sK g)) : bG Tryz.prog GL (aFz F g) := .nil
theorem aJT (F : Md) (g : Ex → Int → Int → Int → Option qz) (hg : GOK Tryz.prog GL 45 (sK g)) : GOK Tryz.prog GL 45 (aDq F g) := by
 refine iT (aS (aFA F g hg)) Tryz.func45 rfl xAa (fun _ => Nat.le_of_ble_eq_true rfl) fun c0 w0 d hw1 hw2 h hn => ?_
 have hF : hU ⟨Tryz.prog, EM (aFz F g), GM (aDq F g) c0 d, w0, Tryz.f45.ntmps, []⟩ := ⟨aS (aFA F g hg), mix⟩
 obtain ⟨(e_0 : Ex), (at_1 : Int), (o0_5 : Int), (o1_6 : Int), r⟩ := d
 replace h : nB F g e_0 at_1 o0_5 o1_6 = some r := h
 have hw1 : AV.wfL [.val .expr e_0, .val qj at_1, .ptr 0 [], .ptr 1 [], .ptr 2 []] := hw1
 simp only [AV.wfL, AV.wfV, Ty.wf, gW] at hw1
 show Tri _ _ _ [(0, .val .expr e_0), (1, .val qj at_1), (2, .ptr 0 []), (3, .ptr 1 []), (4, .ptr 2 [])] [.box 1 (.val qj o0_5), .box 1 (.val qj o1_6), .box 1 (.fn 45 [] [0, 1, 2])]
 unfold nB at h
 refine aA (aM hF [1, 2, 3, 4, 5] (yaA ?_))
 refine aB (aA (aM hF [1, 2, 3, 4, 5] (yaA ?_)))
 obtain ⟨g0, h⟩ := aI h
 try simp only [I64, I32] at g0
 repeat (refine ⟨zAA, ?_⟩)
 refine aB (aA (aM hF [1, 2, 4, 5] (yaA ?_)))
 refine aB (aA (aA (aD hF [1, 4, 5, 19] (yaA ?_))))
 refine aB (bF rfl (fun hc => ?_) (fun hc => ?_))
 ·try simp only [go_sem] at hc
  have h := dT zAB h
  obtain rfl := Option.some.inj h
  refine bX (bO (mD [0, 1, 2] rfl rfl (yaC ?_)))
  refine qY hF [] rfl rfl rfl rfl rfl rfl ?_
  exact zaD
 ·try simp only [go_sem] at hc
  have h := dP zAB h
  refine bM (aB (aA (aD hF [1, 4, 21, 22, 23] (yaA ?_))))
  refine aB (cB (aAO [0, 1, 2] rfl rfl (yaC ?_)))
  refine hZ (D := Int × Int × Int) [1, 21, 22] (fun d => [(4, .ptr 2 []), (23, .val qj d.1)]) (fun d => [.inr (.box 1 (.val qj d.2.1)), .inr (.box 1 (.val qj d.2.2)), .inr (.box 1 (.fn 45 [] [0, 1, 2]))]) h ?_ ?_ ?_
  ·first | rfl | (simp only [go_sem]; done)
  ·exact zAF
  rintro ⟨x23_10, x_11, x_12⟩ s5 h hs5
  simp only [go_sem]
  try dsimp only at h
  unfold jL at h
  refine aA (aD hF [1, 4, 21, 22, 23, 24] (yaA ?_))
  refine aB (aA (bF rfl (fun hc => ?_) (fun hc => ?_)))
  ·try simp only [go_sem] at hc
   have h := dT zAB h
   refine bM (aB (aA (cB (aA (aM hF [1, 4, 8, 21, 22, 23] (yaA ?_))))))
   obtain ⟨g0, h⟩ := aI h
   repeat (refine ⟨zAA, ?_⟩)
   obtain ⟨g0, h⟩ := aI h
   try simp only [I64, I32] at g0
   obtain ⟨r_20, he1, h⟩ := bind_some h
   try dsimp only at h
   refine aB (aK hF (aY (l := [(45, ⟨(sK g), [0, 1, 2], (((e_0.l).getD (x23_10.toNat) (Ex.mk 0 [] [])), (at_1 + (1 : Int)), x_11, x_12, r_20)⟩)]) (.cons hg xAa (.nil))) [1, 4, 21, 22, 23] [] (yaD ?_))
   refine cU (aB (aD hF [1, 4, 21, 22, 23] (yaA ?_)))
   obtain ⟨g0, h⟩ := aI h
   try simp only [I64, I32] at g0
   repeat (refine ⟨zAA, ?_⟩)
   obtain rfl := Option.some.inj h
   dsimp only [iM] at hs5
   refine bB (mD [0, 1, 2] rfl rfl (yaC ?_))
   refine aW ((x23_10 + (1 : Int)), r_20.1, r_20.2) hs5 rfl ?_
   ·exact zAF
  ·try simp only [go_sem] at hc
   have h := dP zAB h
   obtain rfl := Option.some.inj h
   dsimp only [iM] at hs5
   have h := yaF (hs5)
   obtain rfl := Option.some.inj h
   refine kT (bP (bP (dG (aAQ (qY hF [] rfl rfl rfl rfl rfl rfl ?_)))))
   exact zaD
def kY (F : Md) : Nat → Ex → Int → Int → Int → Option qz
 | 0 => fun _ _ _ _ => none
 | n + 1 => nB F (kY F n)
def aAo (F : Md) (n : Nat) : iE where
 D := Ex × Int × Int × Int × qz
 av := fun d => [.val .expr d.1, .val qj d.2.1, .ptr 0 [], .ptr 1 [], .ptr 2 []]
 hp := fun d => [.box 1 (.val qj d.2.2.1), .box 1 (.val qj d.2.2.2.1), .box 1 (.fn 45 [] [0, 1, 2])]
 m := 3
 pre := fun d => kY F n d.1 d.2.1 d.2.2.1 d.2.2.2.1 = some d.2.2.2.2
 out := fun d => (fun r : qz => .ret (.tup []) [.box 1 (.val qj r.1), .box 1 (.val qj r.2), .box 1 (.fn 45 [] [0, 1, 2])]) d.2.2.2.2
theorem aEy (F : Md) : ∀ n, GOK Tryz.prog GL 45 (aAo F n)
 | 0 => fun _ _ _ _ hp _ => absurd (show none = some _ from hp) (by simp)
 | n + 1 => aJT F _ (aEy F n)
attribute [go_sem] aAo
def wU (F : Md) (e_0 : Ex) : Option (Int × ql) :=
 (kY F 64 e_0 (1 : Int) (0 : Int) (0 : Int)).bind (fun r_3 => some (r_3.1, r_3.2, ()))
@[go_sem]def aA9 : Ty := .pair .expr .unit
def zD (F : Md) : aF := mSpec aA9 (.tup (.pair qj qf)) (fun x => wU F x.1)
abbrev aIE (F : Md) : List (FuncId × aF) := []
theorem aIF (F : Md) : bG Tryz.prog GL (aIE F) := .nil
theorem aOr (F : Md) : FOK Tryz.prog GL 23 (zD F) := by
 refine nY (aS (aIF F)) Tryz.func23 rfl xAa xAb fun w0 S x r hw h => ?_
 have hF : hU (fr Tryz.prog (EM (aIE F)) S w0 Tryz.f23.ntmps) := ⟨aS (aIF F), mix⟩
 obtain ⟨(e_0 : Ex), u⟩ := x
 simp only [aA9, Ty.wf, gW] at hw
 simp only [bQ, aA9]
 try dsimp only at h
 replace h : wU F e_0 = some r := h
 unfold wU at h
 refine aA (aM hF [1, 2, 3] (yaA ?_))
 refine aB (aA (aM hF [1, 2, 3, 4] (yaA ?_)))
 refine aB (aA (aM hF [1, 2, 3, 4] (yaA ?_)))
 obtain ⟨r_3, he1, h⟩ := bind_some h
 try dsimp only at h
 refine aB (aA (aK hF (aY (l := [(45, ⟨(aAo F 64), [1, 2, 3], (e_0, (1 : Int), (0 : Int), (0 : Int), r_3)⟩)]) (.cons (aEy F 64) xAa (.nil))) [2, 3] [] (yaD ?_)))
 refine aB (aA (aFi hF [2, 3] [(2, .ptr 1 []), (3, .ptr 2 [])] [.box 3 (.val .expr e_0), .box 1 (.val qj r_3.1), .box 1 (.val qj r_3.2), .box 1 (.fn 45 [] [1, 2, 3])] xAb ?_ ?_))
 ·simp only [go_sem]
  unfold anyS
  intro i hi
  have hi : i = 0 ∨ i = 1 := by revert hi; revert i; decide
  rcases hi with rfl | rfl
  ·simp only [go_sem]
   repeat (refine ⟨zAA, ?_⟩)
   unfold anyS
   intro i hi
   have hi : i = 1 ∨ i = 2 := by revert hi; revert i; decide
   rcases hi with rfl | rfl
   ·simp only [go_sem]
    repeat (refine ⟨zAA, ?_⟩)
    unfold anyS
    intro i hi
    have hi : i = 2 := by revert hi; revert i; decide
    exact zaK
   ·simp only [go_sem]
    repeat (refine ⟨zAA, ?_⟩)
    unfold anyS
    intro i hi
    have hi : i = 1 := by revert hi; revert i; decide
    exact zaK
  ·simp only [go_sem]
   repeat (refine ⟨zAA, ?_⟩)
   unfold anyS
   intro i hi
   have hi : i = 0 := by revert hi; revert i; decide
   subst hi
   simp only [go_sem]
   repeat (refine ⟨zAA, ?_⟩)
   unfold anyS
   intro i hi
   have hi : i = 2 := by revert hi; revert i; decide
   exact zaK
 obtain rfl := Option.some.inj h
 refine aB (bX (eM hF [.cell 2 3, .cell 3 3] rfl rfl rfl ?_))
 exact zAG
attribute [go_sem] zD
def oH (F : Md) (e_0 : Ex) : Option Bool :=
 (wU F e_0).bind (fun v_5 => some ((decide (v_5.1 ≤ (60 : Int))) && (decide (v_5.2.1 ≤ (30 : Int)))))
def aIG : PlR := ⟨[(0, .B [1]), (1, .A [3, 4]), (2, .A [2])], []⟩
def aKR : Ty := .pair .expr .unit
def sL (F : Md) : aF := mSpec aKR (.one .bool) (fun x => oH F x.1)
abbrev aKS (F : Md) : List (FuncId × aF) := [(23, (zD F))]
theorem aRc (F : Md) : bG Tryz.prog GL (aKS F) := .cons (aOr F) xAa (.nil)
attribute [go_sem] aKR aIG
theorem aIH (F : Md) : FOK Tryz.prog GL 12 (sL F) := by
 refine bN (aS (aRc F)) mix Tryz.func12 rfl xAa xAb aIG fun w0 S x Θ hw h hF => ?_
 obtain ⟨(e_0 : Ex), u⟩ := x
 simp only [bQ, go_sem]
 replace h : sat (oH F e_0) _ := h
 unfold oH at h
 exact zab
attribute [go_sem] sL
def lU (F : Md) (x12_7 : Bool) : Option (Int) :=
 if x12_7 = true then some (1 : Int) else some (-1 : Int)
def lV (F : Md) (kind_0 : Int) (x7_6 : Bool) : Option (Int) :=
 if x7_6 = true then some (2 : Int) else if kind_0 = (10 : Int) then lU F (decide (kind_0 = (10 : Int))) else if kind_0 = (11 : Int) then lU F (decide (kind_0 = (11 : Int))) else if kind_0 = (12 : Int) then lU F (decide (kind_0 = (12 : Int))) else lU F (decide (kind_0 = (13 : Int)))
def qH (F : Md) (kind_0 : Int) (x4_5 : Bool) : Option (Int) :=
 if x4_5 = true then some (0 : Int) else if kind_0 = (6 : Int) then lV F kind_0 (decide (kind_0 = (6 : Int))) else if kind_0 = (7 : Int) then lV F kind_0 (decide (kind_0 = (7 : Int))) else if kind_0 = (8 : Int) then lV F kind_0 (decide (kind_0 = (8 : Int))) else lV F kind_0 (decide (kind_0 = (9 : Int)))
def pT (F : Md) (kind_0 : Int) : Option Int :=
 if kind_0 = (1 : Int) then qH F kind_0 (decide (kind_0 = (1 : Int))) else qH F kind_0 (decide (kind_0 = (2 : Int)))
@[go_sem]def aBa : Ty := .pair qj .unit
def zE (F : Md) : aF := mSpec aBa (.one qj) (fun x => pT F x.1)
abbrev aII (F : Md) : List (FuncId × aF) := []
theorem aIJ (F : Md) : bG Tryz.prog GL (aII F) := .nil
theorem aOs (F : Md) : FOK Tryz.prog GL 24 (zE F) := by
 refine nY (aS (aIJ F)) Tryz.func24 rfl xAa xAb fun w0 S x r hw h => ?_
 have hF : hU (fr Tryz.prog (EM (aII F)) S w0 Tryz.f24.ntmps) := ⟨aS (aIJ F), mix⟩
 obtain ⟨(kind_0 : Int), u⟩ := x
 simp only [aBa, Ty.wf, gW] at hw
 simp only [bQ, aBa]
 try dsimp only at h
 replace h : pT F kind_0 = some r := h
 unfold pT at h
 refine aA (aD hF [0] (yaA ?_))
 refine aB (aA (aA (aD hF [3] (yaA ?_))))
 refine aB (cB (jZ (D := Bool) (fun d => qH F kind_0 d = some r) [3] (fun d => [(4, .val .bool d)]) (fun d => []) ?_ ?_))
 ·refine aA (aD hF [3, 4] (yaA ?_))
  refine aB (bF rfl (fun hc => ?_) (fun hc => ?_))
  ·try simp only [go_sem] at hc
   have h := dT zAB h
   refine bM (bB (aW (decide (kind_0 = (1 : Int))) h rfl ?_))
   ·exact zAF
  ·try simp only [go_sem] at hc
   have h := dP zAB h
   refine aD hF [3, 4] (yaA ?_)
   refine bB (aW (decide (kind_0 = (2 : Int))) h rfl ?_)
   ·exact zAF
 ·rintro x4_5 h
  try dsimp only at h
  simp only [go_sem]
  unfold qH at h
  refine bF rfl (fun hc => ?_) (fun hc => ?_)
  ·try simp only [go_sem] at hc
   exact zaX
  ·try simp only [go_sem] at hc
   have h := dP zAB h
   refine jZ (D := Bool) (fun d => lV F kind_0 d = some r) [3] (fun d => [(7, .val .bool d)]) (fun d => []) ?_ ?_
   ·refine aA (aD hF [3, 7] (yaA ?_))
    refine aB (bF rfl (fun hc => ?_) (fun hc => ?_))
    ·try simp only [go_sem] at hc
     have h := dT zAB h
     refine bM (bB (aW (decide (kind_0 = (6 : Int))) h rfl ?_))
     ·exact zAF
    ·try simp only [go_sem] at hc
     have h := dP zAB h
     refine aA (aD hF [3, 7] (yaA ?_))
     refine aB (bF rfl (fun hc => ?_) (fun hc => ?_))
     ·try simp only [go_sem] at hc
      have h := dT zAB h
      refine bM (bB (aW (decide (kind_0 = (7 : Int))) h rfl ?_))
      ·exact zAF
     ·try simp only [go_sem] at hc
      have h := dP zAB h
      refine aA (aD hF [3, 7] (yaA ?_))
      refine aB (bF rfl (fun hc => ?_) (fun hc => ?_))
      ·try simp only [go_sem] at hc
       have h := dT zAB h
       refine bM (bB (aW (decide (kind_0 = (8 : Int))) h rfl ?_))
       ·exact zAF
      ·try simp only [go_sem] at hc
       have h := dP zAB h
       refine aD hF [3, 7] (yaA ?_)
       refine bB (aW (decide (kind_0 = (9 : Int))) h rfl ?_)
       ·exact zAF
   ·rintro x7_6 h
    try dsimp only at h
    simp only [go_sem]
    unfold lV at h
    refine bF rfl (fun hc => ?_) (fun hc => ?_)
    ·try simp only [go_sem] at hc
     exact zaX
    ·try simp only [go_sem] at hc
     have h := dP zAB h
     refine jZ (D := Bool) (fun d => lU F d = some r) [] (fun d => [(12, .val .bool d)]) (fun d => []) ?_ ?_
     ·refine aA (aD hF [3, 12] (yaA ?_))
      refine aB (bF rfl (fun hc => ?_) (fun hc => ?_))
      ·try simp only [go_sem] at hc
       have h := dT zAB h
       refine bM (bB (aW (decide (kind_0 = (10 : Int))) h rfl ?_))
       ·exact zAF
      ·try simp only [go_sem] at hc
       have h := dP zAB h
       refine aA (aD hF [3, 12] (yaA ?_))
       refine aB (bF rfl (fun hc => ?_) (fun hc => ?_))
       ·try simp only [go_sem] at hc
        have h := dT zAB h
        refine bM (bB (aW (decide (kind_0 = (11 : Int))) h rfl ?_))
        ·exact zAF
       ·try simp only [go_sem] at hc
        have h := dP zAB h
        refine aA (aD hF [3, 12] (yaA ?_))
        refine aB (bF rfl (fun hc => ?_) (fun hc => ?_))
        ·try simp only [go_sem] at hc
         have h := dT zAB h
         refine bM (bB (aW (decide (kind_0 = (12 : Int))) h rfl ?_))
         ·exact zAF
        ·try simp only [go_sem] at hc
         have h := dP zAB h
         refine aD hF [12] (yaA ?_)
         refine bB (aW (decide (kind_0 = (13 : Int))) h rfl ?_)
         ·exact zAF
     ·rintro x12_7 h
      try dsimp only at h
      simp only [go_sem]
      unfold lU at h
      refine bF rfl (fun hc => ?_) (fun hc => ?_)
      ·try simp only [go_sem] at hc
       exact zaX
      ·try simp only [go_sem] at hc
       have h := dP zAB h
       refine bM (cU (aB (aA (aD hF [2] (yaA ?_)))))
       exact zag
attribute [go_sem] zE
@[go_sem]def sM : Ty := .pair .expr (.pair qu .unit)
def iG (g : Ex → qm → Option (Bool)) : aF := mSpec sM (.one .bool) (fun x => g x.1 x.2.1)
attribute [go_sem] iG
def rV (F : Md) (g : Ex → qm → Option (Bool)) (x_0 : Ex) (a1_1 : qm) : Option Bool :=
 (g x_0 a1_1).bind (fun v_6 => some (!v_6))
def aEz : PlR := ⟨[(0, .B [1, 2]), (1, .A [3])], []⟩
def aFB : Ty := .pair .expr wj
def uL (F : Md) (g : Ex → qm → Option (Bool)) : aF := mSpec aFB (.one .bool) (fun x => rV F g x.1 x.2.1)
abbrev aFC (F : Md) (g : Ex → qm → Option (Bool)) : List (FuncId × aF) := [(13, (iG g))]
theorem aNE (F : Md) (g : Ex → qm → Option (Bool)) (hg : FOK Tryz.prog GL 13 (iG g)) : bG Tryz.prog GL (aFC F g) := .cons hg xAa (.nil)
attribute [go_sem] aFB aEz
theorem aLs (F : Md) (g : Ex → qm → Option (Bool)) (hg : FOK Tryz.prog GL 13 (iG g)) : FOK Tryz.prog GL 27 (uL F g) := by
 refine bN (aS (aNE F g hg)) mix Tryz.func27 rfl xAa xAb aEz fun w0 S x Θ hw h hF => ?_
 obtain ⟨(x_0 : Ex), (a1_1 : qm), u⟩ := x
 simp only [bQ, go_sem]
 replace h : sat (rV F g x_0 a1_1) _ := h
 unfold rV at h
 obtain ⟨v_6, hv, h⟩ := aJ h
 try simp only [hv, go_sem]
 exact aG hF [.tmp 3] rfl rfl rfl (aC h) xAd
attribute [go_sem] uL
def bD (F : Md) (g : Ex → qm → Option (Bool)) (s_0 : (List Ex)) (f_1 : wg) (x8_14 : Int) : Option ((Int) ⊕ ((Unit) ⊕ Int)) :=
 if x8_14 < (s_0.length : Int) then ck (0 ≤ x8_14 ∧ x8_14 < (s_0.length : Int)) ((rV F g (s_0.getD (x8_14.toNat) (Ex.mk 0 [] [])) f_1.1).bind (fun v_27 => if v_27 = true then some (.inr (.inr x8_14)) else ck (I64 (x8_14 + (1 : Int))) (some (.inl (x8_14 + (1 : Int)))))) else some (.inr (.inl ()))
def cA (F : Md) (g : Ex → qm → Option (Bool)) (s_0 : (List Ex)) (f_1 : wg) : Option Int :=
 (dI F (fun d : Int => bD F g s_0 f_1 d) (0 : Int)).bind (fun e => match e with | (.inl e) => some (-1 : Int) | (.inr e) => some e)
def gB : PlR := ⟨[(0, .A [0, 1]), (1, .A [0, 1, 7, 8]), (2, .A [0, 1, 7, 8, 9]), (3, .A [0, 1, 5, 7, 8]), (4, .A [0, 1, 5, 7, 8, 16]), (5, .A [4]), (6, .A [0, 1, 7, 8]), (7, .A [4])], []⟩
def gL : Ty := .pair (.sl .expr) (.pair (.clo 27 wj) .unit)
def cK (F : Md) (g : Ex → qm → Option (Bool)) : aF := mSpec gL (.one qj) (fun x => cA F g x.1 x.2.1)
abbrev gM (F : Md) (g : Ex → qm → Option (Bool)) : List (FuncId × aF) := [(27, (uL F g))]
theorem nQ (F : Md) (g : Ex → qm → Option (Bool)) (hg : FOK Tryz.prog GL 13 (iG g)) : bG Tryz.prog GL (gM F g) := .cons (aLs F g hg) xAa (.nil)
attribute [go_sem] gL gB
theorem nH (F : Md) (g : Ex → qm → Option (Bool)) (hg : FOK Tryz.prog GL 13 (iG g)) : FOK Tryz.prog GL 47 (cK F g) := by
 refine bN (aS (nQ F g hg)) mix Tryz.func47 rfl xAa xAb gB fun w0 S x Θ hw h hF => ?_
 obtain ⟨(s_0 : (List Ex)), (f_1 : wg), u⟩ := x
 simp only [bQ, go_sem]
 replace h : sat (cA F g s_0 f_1) _ := h
 unfold cA at h
 refine cI hF (D := Int) [0, 1, 7] (fun d => [(8, .val qj d)]) (fun d => []) h rfl xAc ?_
 rintro x8_14 A2 T2 hA2 hE2 h
 simp only [go_sem]
 replace h : sat (bD F g s_0 f_1 x8_14) _ := h
 unfold bD at h
 exact zaI
attribute [go_sem] cK
def bE (F : Md) (g : Ex → qm → Option (Bool)) (s_0 : (List Ex)) (f_1 : wg) : Option Bool :=
 (cA F g s_0 f_1).bind (fun v_8 => some (decide ((0 : Int) ≤ v_8)))
def fD : PlR := ⟨[(0, .A [0, 1]), (1, .A [4])], []⟩
def fM : Ty := .pair (.sl .expr) (.pair (.clo 27 wj) .unit)
def cD (F : Md) (g : Ex → qm → Option (Bool)) : aF := mSpec fM (.one .bool) (fun x => bE F g x.1 x.2.1)
abbrev fN (F : Md) (g : Ex → qm → Option (Bool)) : List (FuncId × aF) := [(47, (cK F g))]
theorem mN (F : Md) (g : Ex → qm → Option (Bool)) (hg : FOK Tryz.prog GL 13 (iG g)) : bG Tryz.prog GL (fN F g) := .cons (nH F g hg) xAa (.nil)
attribute [go_sem] fM fD
theorem lX (F : Md) (g : Ex → qm → Option (Bool)) (hg : FOK Tryz.prog GL 13 (iG g)) : FOK Tryz.prog GL 26 (cD F g) := by
 refine bN (aS (mN F g hg)) mix Tryz.func26 rfl xAa xAb fD fun w0 S x Θ hw h hF => ?_
 obtain ⟨(s_0 : (List Ex)), (f_1 : wg), u⟩ := x
 simp only [bQ, go_sem]
 replace h : sat (bE F g s_0 f_1) _ := h
 unfold bE at h
 obtain ⟨v_8, hv, h⟩ := aJ h
 exact zaP
attribute [go_sem] cD
def pH (F : Md) (g : Ex → qm → Option (Bool)) (e_0 : Ex) (names_1 : qm) : Option Bool :=
 ck ((pT F (e_0.kind)).isSome = true) (if ¬ (((pT F (e_0.kind)).getD (0 : Int)) = (((e_0.l).length : Nat) : Int)) then some false else if (e_0.kind) = (1 : Int) then ck ((uY F (e_0.text)).isSome = true) (some ((uY F (e_0.text)).getD false)) else if (e_0.kind) = (2 : Int) then ck (¬ ((e_0.text) = (aP ⟨#[116]⟩)) → ((dD F names_1 (e_0.text)).isSome = true)) (some ((decide ((e_0.text) = (aP ⟨#[116]⟩))) || ((dD F names_1 (e_0.text)).getD false))) else ck (((e_0.text) = (aP ⟨#[]⟩)) → ((bE F g (e_0.l) (names_1, ())).isSome = true)) (some ((decide ((e_0.text) = (aP ⟨#[]⟩))) && (!((bE F g (e_0.l) (names_1, ())).getD false)))))
abbrev sN (F : Md) (g : Ex → qm → Option (Bool)) : List (FuncId × aF) := [(26, (cD F g)), (17, (eP F)), (24, (zE F)), (25, (aCo F))]
theorem aIL (F : Md) (g : Ex → qm → Option (Bool)) (hg : FOK Tryz.prog GL 13 (iG g)) : bG Tryz.prog GL (sN F g) := .cons (lX F g hg) xAa (.cons (sY F) xAa (.cons (aOs F) xAa (.cons (aQ8 F) xAa (.nil))))
theorem aNF (F : Md) (g : Ex → qm → Option (Bool)) (hg : FOK Tryz.prog GL 13 (iG g)) : FOK Tryz.prog GL 13 (mSpec sM (.one .bool) (fun x => pH F g x.1 x.2.1)) := by
 refine nY (aS (aIL F g hg)) Tryz.func13 rfl xAa xAb fun w0 S x r hw h => ?_
 have hF : hU (fr Tryz.prog (EM (sN F g)) S w0 Tryz.f13.ntmps) := ⟨aS (aIL F g hg), mix⟩
 obtain ⟨(e_0 : Ex), (names_1 : qm), u⟩ := x
 simp only [sM, Ty.wf, gW] at hw
 simp only [bQ, sM]
 try dsimp only at h
 replace h : pH F g e_0 names_1 = some r := h
 unfold pH at h
 refine aA (aM hF [2, 3] (yaA ?_))
 refine aB (aA (aA (aD hF [2, 3, 11] (yaA ?_))))
 obtain ⟨g0, h⟩ := aI h
 repeat (refine ⟨zAA, ?_⟩)
 refine aB (bF rfl (fun hc => ?_) (fun hc => ?_))
 ·try simp only [go_sem] at hc
  have h := dT zAB h
  refine aA (aD hF [4] (yaA ?_))
  obtain rfl := Option.some.inj h
  refine aB (bX (bO (eM hF [.tmp 4] rfl rfl rfl ?_)))
  exact zAG
 ·try simp only [go_sem] at hc
  have h := dP zAB h
  refine bM (aB (aA (aA (aD hF [2, 3, 13] (yaA ?_)))))
  refine aB (cB (aA (aD hF [2, 3, 13, 14] (yaA ?_))))
  refine aB (bF rfl (fun hc => ?_) (fun hc => ?_))
  ·try simp only [go_sem] at hc
   have h := dT zAB h
   refine aA (aD hF [4] (yaA ?_))
   obtain ⟨g0, h⟩ := aI h
   repeat (refine ⟨zAA, ?_⟩)
   obtain rfl := Option.some.inj h
   refine aB (bX (eR (bO (eM hF [.tmp 4] rfl rfl rfl ?_))))
   exact zAG
  ·try simp only [go_sem] at hc
   have h := dP zAB h
   refine aA (aD hF [2, 3, 19] (yaA ?_))
   refine aB (bF rfl (fun hc => ?_) (fun hc => ?_))
   ·try simp only [go_sem] at hc
    have h := dT zAB h
    refine aA (aD hF [4] (yaA ?_))
    obtain ⟨g0, h⟩ := aI h
    repeat (refine ⟨zAE, ?_⟩)
    obtain rfl := Option.some.inj h
    refine aB (bX (eR (bO (eM hF [.tmp 4] rfl rfl rfl ?_))))
    exact zAG
   ·try simp only [go_sem] at hc
    have h := dP zAB h
    refine bM (cU (aB (aA (zW 1 rfl (yaA ?_)))))
    refine aD hF [4] (yaA ?_)
    obtain ⟨g0, h⟩ := aI h
    repeat (refine ⟨zAE, ?_⟩)
    obtain rfl := Option.some.inj h
    refine aB (bX (eM hF [.tmp 4] rfl rfl rfl ?_))
    exact zAG
def pU (F : Md) : Nat → Ex → qm → Option (Bool)
 | 0 => fun _ _ => none
 | n + 1 => pH F (pU F n)
def zF (F : Md) (n : Nat) : aF := mSpec sM (.one .bool) (fun x => pU F n x.1 x.2.1)
theorem aGN (F : Md) : ∀ n, FOK Tryz.prog GL 13 (zF F n)
 | 0 => fun _ _ _ _ _ _ _ hp => Bool.noConfusion (show false = true from hp)
 | n + 1 => aNF F _ (aGN F n)
attribute [go_sem] zF
end
end Nu
end Go.Proofs
namespace Go.Proofs
open Go.Vc
set_option maxRecDepth 20000
namespace Nu
noncomputable section
set_option maxHeartbeats 4000000
attribute [-go_sem] Ex.kind Ex.text Ex.l
@[reducible] def aXm (xs : List qI) : Prop := xs.length * 16 ≤ 140737488355328
def qV : Ty := .pair qu .unit
def jG : aF := ⟨qV, .own 9 .str, fun x => aXm x.1, fun x => id x.1⟩
attribute [go_sem] jG qV
abbrev xS (F : Md) : List (FuncId × aF) := []
theorem xT (F : Md) : bG Tryz.prog GL (xS F) := .nil
theorem aEi : FOK Tryz.prog GL 71 jG := by
 refine aRH (aS (xT none)) Tryz.func71 rfl xAa xAb fun w0 S x hw hp => ?_
 have hF : hU (fr Tryz.prog (EM (xS none)) S w0 Tryz.f71.ntmps) := ⟨aS (xT none), mix⟩
 obtain ⟨(s : qm), u⟩ := x
 have hp : s.length * 16 ≤ 140737488355328 := hp
 simp only [bQ, qV, jG]
 exact zaM
def gJ (F : Md) (e_0 : Ex) (names_1 : qm) : Option Bool :=
 (oH F e_0).bind (fun v_6 => ck ((v_6 = true) → ((pU F 64 e_0 names_1).isSome = true)) (some (v_6 && ((pU F 64 e_0 names_1).getD false))))
def aDr : PlR := ⟨[(0, .B [1, 2]), (1, .A [4])], []⟩
def aEA : Ty := .pair .expr (.pair qu .unit)
def iV (F : Md) : aF := mSpec aEA (.one .bool) (fun x => gJ F x.1 x.2.1)
abbrev aAp (F : Md) : List (FuncId × aF) := [(12, (sL F)), (13, (zF F 64))]
theorem aLx (F : Md) : bG Tryz.prog GL (aAp F) := .cons (aIH F) xAa (.cons (aGN F 64) xAa (.nil))
attribute [go_sem] aEA aDr
theorem yN (F : Md) : FOK Tryz.prog GL 5 (iV F) := by
 refine bN (aS (aLx F)) mix Tryz.func5 rfl xAa xAb aDr fun w0 S x Θ hw h hF => ?_
 obtain ⟨(e_0 : Ex), (names_1 : qm), u⟩ := x
 simp only [bQ, go_sem]
 replace h : sat (gJ F e_0 names_1) _ := h
 unfold gJ at h
 obtain ⟨v_6, hv, h⟩ := aJ h
 try simp only [hv, go_sem]
 refine aU h fun g0 h => ?_
 exact zaA
attribute [go_sem] iV
def sO (F : Md) (a_0 : qv) (a1_1 : qm) : Option Bool :=
 (gJ F a_0.2.1 a1_1).bind (fun v_6 => some (!v_6))
def aCr : PlR := ⟨[(0, .B [1, 2]), (1, .A [3])], []⟩
def aDs : Ty := .pair wi wj
def rB (F : Md) : aF := mSpec aDs (.one .bool) (fun x => sO F x.1 x.2.1)
abbrev aDt (F : Md) : List (FuncId × aF) := [(5, (iV F))]
theorem aJU (F : Md) : bG Tryz.prog GL (aDt F) := .cons (yN F) xAa (.nil)
attribute [go_sem] aDs aCr
theorem aIM (F : Md) : FOK Tryz.prog GL 74 (rB F) := by
 refine bN (aS (aJU F)) mix Tryz.func74 rfl xAa xAb aCr fun w0 S x Θ hw h hF => ?_
 obtain ⟨(a_0 : qv), (a1_1 : qm), u⟩ := x
 simp only [bQ, go_sem]
 replace h : sat (sO F a_0 a1_1) _ := h
 unfold sO at h
 obtain ⟨v_6, hv, h⟩ := aJ h
 try simp only [hv, go_sem]
 exact aG hF [.tmp 3] rfl rfl rfl (aC h) xAd
attribute [go_sem] rB
def dJ (F : Md) (s_0 : (List qv)) (f_1 : wg) (x8_14 : Int) : Option ((Int) ⊕ ((Unit) ⊕ Int)) :=
 if x8_14 < (s_0.length : Int) then ck (0 ≤ x8_14 ∧ x8_14 < (s_0.length : Int)) ((sO F (s_0.getD (x8_14.toNat) ([], (Ex.mk 0 [] []), ())) f_1.1).bind (fun v_27 => if v_27 = true then some (.inr (.inr x8_14)) else ck (I64 (x8_14 + (1 : Int))) (some (.inl (x8_14 + (1 : Int)))))) else some (.inr (.inl ()))
def cP (F : Md) (s_0 : (List qv)) (f_1 : wg) : Option Int :=
 (dI F (fun d : Int => dJ F s_0 f_1 d) (0 : Int)).bind (fun e => match e with | (.inl e) => some (-1 : Int) | (.inr e) => some e)
def gC : PlR := ⟨[(0, .A [0, 1]), (1, .A [0, 1, 7, 8]), (2, .A [0, 1, 7, 8, 9]), (3, .A [0, 1, 5, 7, 8]), (4, .A [0, 1, 5, 7, 8, 16]), (5, .A [4]), (6, .A [0, 1, 7, 8]), (7, .A [4])], []⟩
def gN : Ty := .pair (.sl wi) (.pair (.clo 74 wj) .unit)
def cL (F : Md) : aF := mSpec gN (.one qj) (fun x => cP F x.1 x.2.1)
abbrev gO (F : Md) : List (FuncId × aF) := [(74, (rB F))]
theorem nR (F : Md) : bG Tryz.prog GL (gO F) := .cons (aIM F) xAa (.nil)
attribute [go_sem] gN gC
theorem nI (F : Md) : FOK Tryz.prog GL 101 (cL F) := by
 refine bN (aS (nR F)) mix Tryz.func101 rfl xAa xAb gC fun w0 S x Θ hw h hF => ?_
 obtain ⟨(s_0 : (List qv)), (f_1 : wg), u⟩ := x
 simp only [bQ, go_sem]
 replace h : sat (cP F s_0 f_1) _ := h
 unfold cP at h
 refine cI hF (D := Int) [0, 1, 7] (fun d => [(8, .val qj d)]) (fun d => []) h rfl xAc ?_
 rintro x8_14 A2 T2 hA2 hE2 h
 simp only [go_sem]
 replace h : sat (dJ F s_0 f_1 x8_14) _ := h
 unfold dJ at h
 exact zaI
attribute [go_sem] cL
def bV (F : Md) (s_0 : (List qv)) (f_1 : wg) : Option Bool :=
 (cP F s_0 f_1).bind (fun v_8 => some (decide ((0 : Int) ≤ v_8)))
def fE : PlR := ⟨[(0, .A [0, 1]), (1, .A [4])], []⟩
def fO : Ty := .pair (.sl wi) (.pair (.clo 74 wj) .unit)
def cE (F : Md) : aF := mSpec fO (.one .bool) (fun x => bV F x.1 x.2.1)
abbrev fP (F : Md) : List (FuncId × aF) := [(101, (cL F))]
theorem mP (F : Md) : bG Tryz.prog GL (fP F) := .cons (nI F) xAa (.nil)
attribute [go_sem] fO fE
theorem lY (F : Md) : FOK Tryz.prog GL 73 (cE F) := by
 refine bN (aS (mP F)) mix Tryz.func73 rfl xAa xAb fE fun w0 S x Θ hw h hF => ?_
 obtain ⟨(s_0 : (List qv)), (f_1 : wg), u⟩ := x
 simp only [bQ, go_sem]
 replace h : sat (bV F s_0 f_1) _ := h
 unfold bV at h
 obtain ⟨v_8, hv, h⟩ := aJ h
 exact zaP
attribute [go_sem] cE
def aBN (F : Md) (s_0 : qg) (x93_11 : Int) : Option ((Int) ⊕ ((Unit) ⊕ Bool)) :=
 if x93_11 < (s_0.2.2.1.length : Int) then ck (0 ≤ x93_11 ∧ x93_11 < (s_0.2.2.1.length : Int)) (ck ((kX F (s_0.2.2.1.getD (x93_11.toNat) ([], ([], [], ()), ())).2.1).isSome = true) (if ¬ (((kX F (s_0.2.2.1.getD (x93_11.toNat) ([], ([], [], ()), ())).2.1).getD false) = true) then some (.inr (.inr false)) else ck (I64 (x93_11 + (1 : Int))) (some (.inl (x93_11 + (1 : Int)))))) else some (.inr (.inl ()))
def wV (F : Md) (s_0 : qg) : Option (Bool) :=
 (dI F (fun d : Int => aBN F s_0 d) (0 : Int)).bind (fun e => match e with | (.inl e) => ck ((bV F s_0.2.2.2.2.1 (((bS F ([((aX F s_0).getD (([] : List qI), ([] : List qI), ([] : List qI), ())).1, ((aX F s_0).getD (([] : List qI), ([] : List qI), ([] : List qI), ())).2.1, ((aX F s_0).getD (([] : List qI), ([] : List qI), ([] : List qI), ())).2.2.1] : List qm)).getD ([] : List qI)), ())).isSome = true) (some (!((bV F s_0.2.2.2.2.1 (((bS F ([((aX F s_0).getD (([] : List qI), ([] : List qI), ([] : List qI), ())).1, ((aX F s_0).getD (([] : List qI), ([] : List qI), ([] : List qI), ())).2.1, ((aX F s_0).getD (([] : List qI), ([] : List qI), ([] : List qI), ())).2.2.1] : List qm)).getD ([] : List qI)), ())).getD false))) | (.inr e) => some e)
def aBO (F : Md) (s_0 : qg) (x74_14 : Int) : Option ((Int) ⊕ ((Unit) ⊕ Bool)) :=
 if x74_14 < (s_0.2.1.length : Int) then ck (0 ≤ x74_14 ∧ x74_14 < (s_0.2.1.length : Int)) (ck ((kX F (s_0.2.1.getD (x74_14.toNat) ([], ([], [], ()), (Ex.mk 0 [] []), ())).2.1).isSome = true) (ck (¬ (¬ (((kX F (s_0.2.1.getD (x74_14.toNat) ([], ([], [], ()), (Ex.mk 0 [] []), ())).2.1).getD false) = true)) → ((gJ F (s_0.2.1.getD (x74_14.toNat) ([], ([], [], ()), (Ex.mk 0 [] []), ())).2.2.1 ((bS F ([((aX F s_0).getD (([] : List qI), ([] : List qI), ([] : List qI), ())).1, ((aX F s_0).getD (([] : List qI), ([] : List qI), ([] : List qI), ())).2.1, ((aX F s_0).getD (([] : List qI), ([] : List qI), ([] : List qI), ())).2.2.1] : List qm)).getD ([] : List qI))).isSome = true)) (if (¬ (((kX F (s_0.2.1.getD (x74_14.toNat) ([], ([], [], ()), (Ex.mk 0 [] []), ())).2.1).getD false) = true)) ∨ (¬ (((gJ F (s_0.2.1.getD (x74_14.toNat) ([], ([], [], ()), (Ex.mk 0 [] []), ())).2.2.1 ((bS F ([((aX F s_0).getD (([] : List qI), ([] : List qI), ([] : List qI), ())).1, ((aX F s_0).getD (([] : List qI), ([] : List qI), ([] : List qI), ())).2.1, ((aX F s_0).getD (([] : List qI), ([] : List qI), ([] : List qI), ())).2.2.1] : List qm)).getD ([] : List qI))).getD false) = true)) then some (.inr (.inr false)) else ck (I64 (x74_14 + (1 : Int))) (some (.inl (x74_14 + (1 : Int))))))) else some (.inr (.inl ()))
def wW (F : Md) (s_0 : qg) (all_6 : qm) : Option (Bool) :=
 ck ((qQ F all_6).isSome = true) (if ¬ (((qQ F all_6).getD false) = true) then some false else (dI F (fun d : Int => aBO F s_0 d) (0 : Int)).bind (fun e => match e with | (.inl e) => wV F s_0 | (.inr e) => some e))
def aCs (F : Md) (s_0 : qg) (x58_17 : Int) (all_18 : qm) : Option ((Int × qm) ⊕ qm) :=
 if x58_17 < (s_0.2.2.2.2.1.length : Int) then ck (0 ≤ x58_17 ∧ x58_17 < (s_0.2.2.2.2.1.length : Int)) (ck (((all_18.length) + (1 : Nat)) * 16 ≤ 140737488355328) (ck (I64 (x58_17 + (1 : Int))) (some (.inl ((x58_17 + (1 : Int)), (all_18 ++ ([(s_0.2.2.2.2.1.getD (x58_17.toNat) ([], (Ex.mk 0 [] []), ())).1] : List qI))))))) else some (.inr all_18)
def wX (F : Md) (s_0 : qg) : Option Bool :=
 if (((((s_0.2.1.length : Int) < (1 : Int)) ∨ ((6 : Int) < (s_0.2.1.length : Int))) ∨ ((6 : Int) < (s_0.2.2.1.length : Int))) ∨ ((4 : Int) < (s_0.2.2.2.1.length : Int))) ∨ ((4 : Int) < (s_0.2.2.2.2.1.length : Int)) then some false else ck ((aX F s_0).isSome = true) (ck ((bS F ([((aX F s_0).getD (([] : List qI), ([] : List qI), ([] : List qI), ())).1, ((aX F s_0).getD (([] : List qI), ([] : List qI), ([] : List qI), ())).2.1, ((aX F s_0).getD (([] : List qI), ([] : List qI), ([] : List qI), ())).2.2.1] : List qm)).isSome = true) (ck (aXm ((bS F ([((aX F s_0).getD (([] : List qI), ([] : List qI), ([] : List qI), ())).1, ((aX F s_0).getD (([] : List qI), ([] : List qI), ([] : List qI), ())).2.1, ((aX F s_0).getD (([] : List qI), ([] : List qI), ([] : List qI), ())).2.2.1] : List qm)).getD ([] : List qI))) ((dI F (fun d : Int × qm => aCs F s_0 d.1 d.2) ((0 : Int), (id ((bS F ([((aX F s_0).getD (([] : List qI), ([] : List qI), ([] : List qI), ())).1, ((aX F s_0).getD (([] : List qI), ([] : List qI), ([] : List qI), ())).2.1, ((aX F s_0).getD (([] : List qI), ([] : List qI), ([] : List qI), ())).2.2.1] : List qm)).getD ([] : List qI))))).bind (fun e => wW F s_0 e))))
@[go_sem]def wY : Ty := .pair qa .unit
def uM (F : Md) : aF := mSpec wY (.one .bool) (fun x => wX F x.1)
abbrev jH (F : Md) : List (FuncId × aF) := [(73, (cE F)), (5, (iV F)), (50, (pG F)), (69, (wP F)), (70, (lN F)), (71, jG), (72, (uK F))]
theorem aFD (F : Md) : bG Tryz.prog GL (jH F) := .cons (lY F) xAa (.cons (yN F) xAa (.cons (aFv F) xAa (.cons (aNA F) xAa (.cons (aDo F) xAa (.cons aEi xAa (.cons (aLr F) xAa (.nil)))))))
theorem aLy (F : Md) : FOK Tryz.prog GL 49 (uM F) := by
 refine nY (aS (aFD F)) Tryz.func49 rfl xAa xAb fun w0 S x r hw h => ?_
 have hF : hU (fr Tryz.prog (EM (jH F)) S w0 Tryz.f49.ntmps) := ⟨aS (aFD F), mix⟩
 obtain ⟨(s_0 : qg), u⟩ := x
 simp only [wY, Ty.wf, gW] at hw
 simp only [bQ, wY]
 try dsimp only at h
 replace h : wX F s_0 = some r := h
 unfold wX at h
 refine aA (aM hF [1] (yaA ?_))
 refine aB (aA (aA (aD hF [1, 41] (yaA ?_))))
 refine aB (bF rfl (fun hc => ?_) (fun hc => ?_))
 ·try simp only [go_sem] at hc
  have h := dT zAB h
  refine aA (aD hF [2] (yaA ?_))
  obtain rfl := Option.some.inj h
  refine aB (bX (bO (eM hF [.tmp 2] rfl rfl rfl ?_)))
  exact zAG
 ·try simp only [go_sem] at hc
  have h := dP zAB h
  refine bM (aB (aA (aD hF [1, 3, 4, 5] (yaA ?_))))
  obtain ⟨g0, h⟩ := aI h
  repeat (refine ⟨zAA, ?_⟩)
  refine aB (aA (aM hF [1, 6] (yaA ?_)))
  obtain ⟨g0, h⟩ := aI h
  repeat (refine ⟨zAA, ?_⟩)
  refine aB (aA (aM hF [1, 6, 7] (yaA ?_)))
  obtain ⟨g0, h⟩ := aI h
  repeat (refine ⟨zAA, ?_⟩)
  refine aB (jZ (D := qm) (fun d => wW F s_0 d = some r) [] (fun d => [(1, .ptr 0 []), (6, .ptr 1 []), (7, .own 2)]) (fun d => [.inr (.box 5 (.val qa s_0)), .inr (.box 1 (.val qu ((bS F ([((aX F s_0).getD (([] : List qI), ([] : List qI), ([] : List qI), ())).1, ((aX F s_0).getD (([] : List qI), ([] : List qI), ([] : List qI), ())).2.1, ((aX F s_0).getD (([] : List qI), ([] : List qI), ([] : List qI), ())).2.2.1] : List qm)).getD ([] : List qI)))), .inr (.row 9 .str d)]) ?_ ?_)
  ·refine aA (aD hF [1, 6, 7, 56, 57, 58] (yaA ?_))
   refine aB (cB (hZ (D := Int × qm) [56, 57] (fun d => [(1, .ptr 0 []), (6, .ptr 1 []), (7, .own 2), (58, .val qj d.1)]) (fun d => [.inr (.box 5 (.val qa s_0)), .inr (.box 1 (.val qu ((bS F ([((aX F s_0).getD (([] : List qI), ([] : List qI), ([] : List qI), ())).1, ((aX F s_0).getD (([] : List qI), ([] : List qI), ([] : List qI), ())).2.1, ((aX F s_0).getD (([] : List qI), ([] : List qI), ([] : List qI), ())).2.2.1] : List qm)).getD ([] : List qI)))), .inr (.row 9 .str d.2)]) h ?_ ?_ ?_))
   ·first | rfl | (simp only [go_sem]; done)
   ·exact zAF
   rintro ⟨x58_17, all_18⟩ s7 h hs7
   simp only [go_sem]
   try dsimp only at h
   unfold aCs at h
   refine aA (aD hF [1, 6, 7, 56, 57, 58, 59] (yaA ?_))
   refine aB (aA (bF rfl (fun hc => ?_) (fun hc => ?_)))
   ·try simp only [go_sem] at hc
    have h := dT zAB h
    refine bM (aB (aA (cB (aA (aM hF [1, 6, 7, 9, 56, 57, 58] (yaA ?_))))))
    obtain ⟨g0, h⟩ := aI h
    repeat (refine ⟨zAA, ?_⟩)
    refine aB (aM hF [1, 6, 7, 56, 57, 58] (yaA ?_))
    obtain ⟨g0, h⟩ := aI h
    repeat (refine ⟨zAA, ?_⟩)
    refine cU (aB (aD hF [1, 6, 7, 56, 57, 58] (yaA ?_)))
    obtain ⟨g0, h⟩ := aI h
    try simp only [I64, I32] at g0
    repeat (refine ⟨zAA, ?_⟩)
    obtain rfl := Option.some.inj h
    dsimp only [iM] at hs7
    refine bB (mD [0, 1, 4] rfl rfl (yaC ?_))
    refine aW ((x58_17 + (1 : Int)), (all_18 ++ ([(s_0.2.2.2.2.1.getD (x58_17.toNat) ([], (Ex.mk 0 [] []), ())).1] : List qI))) hs7 rfl ?_
    ·exact zAF
   ·try simp only [go_sem] at hc
    have h := dP zAB h
    obtain rfl := Option.some.inj h
    dsimp only [iM] at hs7
    have h := yaF (hs7)
    refine kT (bP (bP (dG (bB (aW (all_18) h rfl ?_)))))
    ·exact zAF
  ·rintro all_6 h
   try dsimp only at h
   simp only [go_sem]
   unfold wW at h
   refine aA (aA (aD hF [1, 6, 70] (yaA ?_)))
   obtain ⟨g0, h⟩ := aI h
   repeat (refine ⟨zAA, ?_⟩)
   refine aB (bF rfl (fun hc => ?_) (fun hc => ?_))
   ·try simp only [go_sem] at hc
    have h := dT zAB h
    refine aA (aD hF [2] (yaA ?_))
    obtain rfl := Option.some.inj h
    refine aB (bX (bO (eM hF [.tmp 2] rfl rfl rfl ?_)))
    exact zAG
   ·try simp only [go_sem] at hc
    have h := dP zAB h
    refine bM (aB (jZ (D := Unit) (fun d => wV F s_0 = some r) [] (fun d => [(1, .ptr 0 []), (6, .ptr 1 [])]) (fun d => [.inr (.box 5 (.val qa s_0)), .inr (.box 1 (.val qu ((bS F ([((aX F s_0).getD (([] : List qI), ([] : List qI), ([] : List qI), ())).1, ((aX F s_0).getD (([] : List qI), ([] : List qI), ([] : List qI), ())).2.1, ((aX F s_0).getD (([] : List qI), ([] : List qI), ([] : List qI), ())).2.2.1] : List qm)).getD ([] : List qI))))]) ?_ ?_))
    ·refine aA (aD hF [1, 6, 72, 73, 74] (yaA ?_))
     refine aB (cB (aAO [0, 1] rfl rfl (yaC ?_)))
     refine hZ (D := Int) [72, 73] (fun d => [(1, .ptr 0 []), (6, .ptr 1 []), (74, .val qj d)]) (fun d => [.inr (.box 5 (.val qa s_0)), .inr (.box 1 (.val qu ((bS F ([((aX F s_0).getD (([] : List qI), ([] : List qI), ([] : List qI), ())).1, ((aX F s_0).getD (([] : List qI), ([] : List qI), ([] : List qI), ())).2.1, ((aX F s_0).getD (([] : List qI), ([] : List qI), ([] : List qI), ())).2.2.1] : List qm)).getD ([] : List qI))))]) h ?_ ?_ ?_
     ·first | rfl | (simp only [go_sem]; done)
     ·exact zAF
     rintro x74_14 s14 h hs14
     simp only [go_sem]
     try dsimp only at h
     unfold aBO at h
     refine aA (aD hF [1, 6, 72, 73, 74, 75] (yaA ?_))
     refine aB (aA (bF rfl (fun hc => ?_) (fun hc => ?_)))
     ·try simp only [go_sem] at hc
      have h := dT zAB h
      refine bM (aB (aA (cB (aA (aM hF [1, 6, 11, 72, 73, 74] (yaA ?_))))))
      obtain ⟨g0, h⟩ := aI h
      repeat (refine ⟨zAA, ?_⟩)
      refine aB (aA (aD hF [1, 6, 72, 73, 74, 88] (yaA ?_)))
      obtain ⟨g0, h⟩ := aI h
      obtain ⟨g1, h⟩ := aI h
      repeat (refine ⟨by first | with_reducible assumption | omega | (intros; first | with_reducible assumption | omega) | (simp only [go_sem] at *; first | with_reducible assumption | omega) | (intro _; exact ⟨rfl, by decide⟩) | (intro _; refine (?_ : _ = aE _); rfl) | (refine (?_ : _ = aE _); rfl) | exact ⟨rfl, rfl⟩ | (intro q0; (try have e1 := g1 (by first | exact q0 | omega | (simpa using q0))); first | assumption | omega) | decide, ?_⟩)
      refine aB (bF rfl (fun hc => ?_) (fun hc => ?_))
      ·try simp only [go_sem] at hc
       have h := dT zAB h
       refine aA (aD hF [2] (yaA ?_))
       obtain rfl := Option.some.inj h
       dsimp only [iM] at hs14
       have h := yaF (hs14)
       obtain rfl := Option.some.inj h
       refine aB (bX (eR (bO (bO (eR (bO (eM hF [.tmp 2] rfl rfl rfl ?_)))))))
       exact zAG
      ·try simp only [go_sem] at hc
       have h := dP zAB h
       refine bM (cU (aB (aD hF [1, 6, 72, 73, 74] (yaA ?_))))
       obtain ⟨g0, h⟩ := aI h
       try simp only [I64, I32] at g0
       repeat (refine ⟨zAA, ?_⟩)
       obtain rfl := Option.some.inj h
       dsimp only [iM] at hs14
       refine bB (mD [0, 1] rfl rfl (yaC ?_))
       refine aW (x74_14 + (1 : Int)) hs14 rfl ?_
       ·exact zAF
     ·try simp only [go_sem] at hc
      have h := dP zAB h
      obtain rfl := Option.some.inj h
      dsimp only [iM] at hs14
      have h := yaF (hs14)
      refine kT (bP (bP (dG (bB (aW () h rfl ?_)))))
      ·exact zAF
    ·rintro u h
     try dsimp only at h
     simp only [go_sem]
     unfold wV at h
     refine aA (aA (aD hF [1, 6, 91, 92, 93] (yaA ?_)))
     refine aB (cB (hZ (D := Int) [91, 92] (fun d => [(1, .ptr 0 []), (6, .ptr 1 []), (93, .val qj d)]) (fun d => [.inr (.box 5 (.val qa s_0)), .inr (.box 1 (.val qu ((bS F ([((aX F s_0).getD (([] : List qI), ([] : List qI), ([] : List qI), ())).1, ((aX F s_0).getD (([] : List qI), ([] : List qI), ([] : List qI), ())).2.1, ((aX F s_0).getD (([] : List qI), ([] : List qI), ([] : List qI), ())).2.2.1] : List qm)).getD ([] : List qI))))]) h ?_ ?_ ?_))
     ·first | rfl | (simp only [go_sem]; done)
     ·exact zAF
     rintro x93_11 s20 h hs20
     simp only [go_sem]
     try dsimp only at h
     unfold aBN at h
     refine aA (aD hF [1, 6, 91, 92, 93, 94] (yaA ?_))
     refine aB (aA (bF rfl (fun hc => ?_) (fun hc => ?_)))
     ·try simp only [go_sem] at hc
      have h := dT zAB h
      refine bM (aB (aA (cB (aA (aM hF [1, 6, 13, 91, 92, 93] (yaA ?_))))))
      obtain ⟨g0, h⟩ := aI h
      repeat (refine ⟨zAA, ?_⟩)
      refine aB (aA (aD hF [1, 6, 91, 92, 93, 100] (yaA ?_)))
      obtain ⟨g0, h⟩ := aI h
      repeat (refine ⟨zAA, ?_⟩)
      refine aB (bF rfl (fun hc => ?_) (fun hc => ?_))
      ·try simp only [go_sem] at hc
       have h := dT zAB h
       refine aA (aD hF [2] (yaA ?_))
       obtain rfl := Option.some.inj h
       dsimp only [iM] at hs20
       have h := yaF (hs20)
       obtain rfl := Option.some.inj h
       refine aB (bX (eR (bO (bO (eR (bO (eM hF [.tmp 2] rfl rfl rfl ?_)))))))
       exact zAG
      ·try simp only [go_sem] at hc
       have h := dP zAB h
       refine bM (cU (aB (aD hF [1, 6, 91, 92, 93] (yaA ?_))))
       obtain ⟨g0, h⟩ := aI h
       try simp only [I64, I32] at g0
       repeat (refine ⟨zAA, ?_⟩)
       obtain rfl := Option.some.inj h
       dsimp only [iM] at hs20
       refine bB (mD [0, 1] rfl rfl (yaC ?_))
       refine aW (x93_11 + (1 : Int)) hs20 rfl ?_
       ·exact zAF
     ·try simp only [go_sem] at hc
      have h := dP zAB h
      obtain rfl := Option.some.inj h
      dsimp only [iM] at hs20
      have h := yaF (hs20)
      refine kT (bP (bP (dG (aB (aA (zW 1 rfl (yaA ?_)))))))
      refine aD hF [2] (yaA ?_)
      obtain ⟨g0, h⟩ := aI h
      repeat (refine ⟨zAA, ?_⟩)
      exact zag
attribute [go_sem] uM
def aAq (F : Md) (s_0 : qc) (sub_1 : qI) (x10_5 : Int) : Option ((Int) ⊕ ((Unit) ⊕ Int)) :=
 if x10_5 < (s_0.2.2.2.2.2.2.2.2.1.length : Int) then ck (0 ≤ x10_5 ∧ x10_5 < (s_0.2.2.2.2.2.2.2.2.1.length : Int)) (if (s_0.2.2.2.2.2.2.2.2.1.getD (x10_5.toNat) ([], [], [], [], [], ())).1 = sub_1 then some (.inr (.inr x10_5)) else ck (I64 (x10_5 + (1 : Int))) (some (.inl (x10_5 + (1 : Int))))) else some (.inr (.inl ()))
def aBb (F : Md) (s_0 : qc) (sub_1 : qI) : Option Int :=
 (dI F (fun d : Int => aAq F s_0 sub_1 d) (0 : Int)).bind (fun e => match e with | (.inl e) => some (-1 : Int) | (.inr e) => some e)
def aGO : PlR := ⟨[(0, .B [1, 2]), (1, .A [1, 8, 9, 10]), (2, .A [1, 8, 9, 10, 11]), (3, .B [1, 5, 6, 8, 9, 10]), (4, .A [1, 5, 8, 9, 10, 18]), (5, .A [4]), (6, .A [1, 8, 9, 10]), (7, .A [4])], []⟩
def aIT : Ty := .pair qe wd
def zG (F : Md) : aF := mSpec aIT (.one qj) (fun x => aBb F x.1 x.2.1)
abbrev aP2 (F : Md) : List (FuncId × aF) := []
theorem aP3 (F : Md) : bG Tryz.prog GL (aP2 F) := .nil
attribute [go_sem] aIT aGO
theorem aOt (F : Md) : FOK Tryz.prog GL 75 (zG F) := by
 refine bN (aS (aP3 F)) mix Tryz.func75 rfl xAa xAb aGO fun w0 S x Θ hw h hF => ?_
 obtain ⟨(s_0 : qc), (sub_1 : qI), u⟩ := x
 simp only [bQ, go_sem]
 replace h : sat (aBb F s_0 sub_1) _ := h
 unfold aBb at h
 refine aAO [] rfl rfl (yaA ?_)
 refine cI hF (D := Int) [1, 8, 9] (fun d => [(10, .val qj d)]) (fun d => []) h rfl xAc ?_
 rintro x10_5 A2 T2 hA2 hE2 h
 simp only [go_sem]
 replace h : sat (aAq F s_0 sub_1 x10_5) _ := h
 unfold aAq at h
 refine fZ h (fun hc h => ?_) fun hc h => ?_
 ·refine aU h fun g0 h => ?_
  refine dR h (fun hc h => ?_) fun hc h => ?_
  ·replace h := yaF (hE2 _ (aC h))
   exact zaA
  ·refine aU h fun g0 h => ?_
   replace h := hA2 _ (aC h)
   refine mD [] rfl rfl (yaA ?_)
   exact zaF
 ·replace h := yaF (hE2 _ (aC h))
  exact zaA
attribute [go_sem] zG
def sP (F : Md) (o_0 : qv) (a1_1 : qo) : Option Bool :=
 ck ((0 : Int) < (a1_1.length : Int)) (some (decide (o_0.1 = (a1_1.getD (0 : Nat) ([], [], [], [], ())).2.2.2.1)))
def aCt : PlR := ⟨[(0, .B [1, 2]), (1, .A [3])], []⟩
def aDu : Ty := .pair wi (.pair (.rp (.sl qy)) .unit)
def rC (F : Md) : aF := mSpec aDu (.one .bool) (fun x => sP F x.1 x.2.1)
abbrev aJW (F : Md) : List (FuncId × aF) := []
theorem aJX (F : Md) : bG Tryz.prog GL (aJW F) := .nil
attribute [go_sem] aDu aCt
theorem aIU (F : Md) : FOK Tryz.prog GL 76 (rC F) := by
 refine bN (aS (aJX F)) mix Tryz.func76 rfl xAa xAb aCt fun w0 S x Θ hw h hF => ?_
 obtain ⟨(o_0 : qv), (a1_1 : qo), u⟩ := x
 simp only [bQ, go_sem]
 replace h : sat (sP F o_0 a1_1) _ := h
 unfold sP at h
 refine aU h fun g0 h => ?_
 exact aG hF [.tmp 3] rfl rfl rfl (aC h) xAd
attribute [go_sem] rC
def dK (F : Md) (s_0 : (List qv)) (f_1 : (qo × Unit)) (x8_14 : Int) : Option ((Int) ⊕ ((Unit) ⊕ Int)) :=
 if x8_14 < (s_0.length : Int) then ck (0 ≤ x8_14 ∧ x8_14 < (s_0.length : Int)) ((sP F (s_0.getD (x8_14.toNat) ([], (Ex.mk 0 [] []), ())) f_1.1).bind (fun v_27 => if v_27 = true then some (.inr (.inr x8_14)) else ck (I64 (x8_14 + (1 : Int))) (some (.inl (x8_14 + (1 : Int)))))) else some (.inr (.inl ()))
def cQ (F : Md) (s_0 : (List qv)) (f_1 : (qo × Unit)) : Option Int :=
 (dI F (fun d : Int => dK F s_0 f_1 d) (0 : Int)).bind (fun e => match e with | (.inl e) => some (-1 : Int) | (.inr e) => some e)
def gD : PlR := ⟨[(0, .A [0, 1]), (1, .A [0, 1, 7, 8]), (2, .A [0, 1, 7, 8, 9]), (3, .A [0, 1, 5, 7, 8]), (4, .A [0, 1, 5, 7, 8, 16]), (5, .A [4]), (6, .A [0, 1, 7, 8]), (7, .A [4])], []⟩
def gP : Ty := .pair (.sl wi) (.pair (.clo 76 (.pair (.rp (.sl qy)) .unit)) .unit)
def cM (F : Md) : aF := mSpec gP (.one qj) (fun x => cQ F x.1 x.2.1)
abbrev gQ (F : Md) : List (FuncId × aF) := [(76, (rC F))]
theorem nS (F : Md) : bG Tryz.prog GL (gQ F) := .cons (aIU F) xAa (.nil)
attribute [go_sem] gP gD
theorem nJ (F : Md) : FOK Tryz.prog GL 101 (cM F) := by
 refine bN (aS (nS F)) mix Tryz.func101 rfl xAa xAb gD fun w0 S x Θ hw h hF => ?_
 obtain ⟨(s_0 : (List qv)), (f_1 : (qo × Unit)), u⟩ := x
 simp only [bQ, go_sem]
 replace h : sat (cQ F s_0 f_1) _ := h
 unfold cQ at h
 refine cI hF (D := Int) [0, 1, 7] (fun d => [(8, .val qj d)]) (fun d => []) h rfl xAc ?_
 rintro x8_14 A2 T2 hA2 hE2 h
 simp only [go_sem]
 replace h : sat (dK F s_0 f_1 x8_14) _ := h
 unfold dK at h
 exact zaI
attribute [go_sem] cM
def bW (F : Md) (s_0 : (List qv)) (f_1 : (qo × Unit)) : Option Bool :=
 (cQ F s_0 f_1).bind (fun v_8 => some (decide ((0 : Int) ≤ v_8)))
def fF : PlR := ⟨[(0, .A [0, 1]), (1, .A [4])], []⟩
def fQ : Ty := .pair (.sl wi) (.pair (.clo 76 (.pair (.rp (.sl qy)) .unit)) .unit)
def cF (F : Md) : aF := mSpec fQ (.one .bool) (fun x => bW F x.1 x.2.1)
abbrev fR (F : Md) : List (FuncId × aF) := [(101, (cM F))]
theorem mR (F : Md) : bG Tryz.prog GL (fR F) := .cons (nJ F) xAa (.nil)
attribute [go_sem] fQ fF
theorem lZ (F : Md) : FOK Tryz.prog GL 73 (cF F) := by
 refine bN (aS (mR F)) mix Tryz.func73 rfl xAa xAb fF fun w0 S x Θ hw h hF => ?_
 obtain ⟨(s_0 : (List qv)), (f_1 : (qo × Unit)), u⟩ := x
 simp only [bQ, go_sem]
 replace h : sat (bW F s_0 f_1) _ := h
 unfold bW at h
 obtain ⟨v_8, hv, h⟩ := aJ h
 exact zaP
attribute [go_sem] cF
def wZ (F : Md) (s_0 : qc) (x14_42 : Int) (x21_83 : Int) (l_84 : qo) : Option ((Int × qo) ⊕ (qo ⊕ Bool)) :=
 if x21_83 < (((s_0.2.2.2.2.2.2.2.2.1.getD (x14_42.toNat) ([], [], [], [], [], ())).2.2.2.1.length : Nat) : Int) then ck (0 ≤ x21_83 ∧ x21_83 < (((s_0.2.2.2.2.2.2.2.2.1.getD (x14_42.toNat) ([], [], [], [], [], ())).2.2.2.1.length : Nat) : Int)) (ck (¬ ((l_84.length : Int) = (0 : Int)) → ((0 : Int) < (l_84.length : Int))) (ck (¬ (((l_84.length : Int) = (0 : Int)) ∨ (¬ ((l_84.getD (0 : Nat) ([], [], [], [], ())).1 = (s_0.2.2.2.2.2.2.2.2.1.getD (x14_42.toNat) ([], [], [], [], [], ())).1))) → ((0 : Int) < (l_84.length : Int))) (if (((l_84.length : Int) = (0 : Int)) ∨ (¬ ((l_84.getD (0 : Nat) ([], [], [], [], ())).1 = (s_0.2.2.2.2.2.2.2.2.1.getD (x14_42.toNat) ([], [], [], [], [], ())).1))) ∨ (¬ ((l_84.getD (0 : Nat) ([], [], [], [], ())).2.1 = ((s_0.2.2.2.2.2.2.2.2.1.getD (x14_42.toNat) ([], [], [], [], [], ())).2.2.2.1.getD (x21_83.toNat) ([] : List Nat)))) then some (.inr (.inr false)) else ck ((0 : Int) < (l_84.length : Int)) ((aBb F s_0 (l_84.getD (0 : Nat) ([], [], [], [], ())).2.2.1).bind (fun v_99 => ck (¬ (v_99 < (0 : Int)) → (0 ≤ v_99 ∧ v_99 < (s_0.2.2.2.2.2.2.2.2.1.length : Int))) (ck (¬ (v_99 < (0 : Int)) → ((bW F (s_0.2.2.2.2.2.2.2.2.1.getD (v_99.toNat) ([], [], [], [], [], ())).2.2.2.2.1 (l_84, ())).isSome = true)) (if (v_99 < (0 : Int)) ∨ (¬ (((bW F (s_0.2.2.2.2.2.2.2.2.1.getD (v_99.toNat) ([], [], [], [], [], ())).2.2.2.2.1 (l_84, ())).getD false) = true)) then some (.inr (.inr false)) else ck ((1 : Int) ≤ (l_84.length : Int)) (ck (I64 (x21_83 + (1 : Int))) (some (.inl ((x21_83 + (1 : Int)), (List.drop (1 : Nat) l_84)))))))))))) else some (.inr (.inl l_84))
def xA (F : Md) (s_0 : qc) (x14_42 : Int) (l_43 : qo) : Option ((Int × qo) ⊕ (qo ⊕ Bool)) :=
 if x14_42 < (s_0.2.2.2.2.2.2.2.2.1.length : Int) then ck (0 ≤ x14_42 ∧ x14_42 < (s_0.2.2.2.2.2.2.2.2.1.length : Int)) ((dI F (fun d : Int × qo => wZ F s_0 x14_42 d.1 d.2) ((0 : Int), l_43)).bind (fun e => match e with | (.inl e) => ck (I64 (x14_42 + (1 : Int))) (some (.inl ((x14_42 + (1 : Int)), e))) | (.inr e) => some (.inr (.inr e)))) else some (.inr (.inl l_43))
def rW (F : Md) (s_0 : qc) : Option Bool :=
 (dI F (fun d : Int × qo => xA F s_0 d.1 d.2) ((0 : Int), s_0.2.2.2.2.2.2.2.2.2.1)).bind (fun e => match e with | (.inl e) => some (decide ((e.length : Int) = (0 : Int))) | (.inr e) => some e)
def aEB : PlR := ⟨[(0, .B [1]), (1, .B [1, 3]), (2, .A [1, 3, 12, 13, 14]), (3, .A [1, 3, 12, 13, 14, 15]), (4, .B [1, 3, 5, 12, 13, 14]), (5, .A [1, 3, 5, 12, 13, 14, 19, 20, 21]), (6, .A [1, 3, 5, 12, 13, 14, 19, 20, 21, 22]), (7, .A [1, 3, 5, 7, 12, 13, 14, 19, 20, 21]), (8, .A [1, 3, 5, 12, 13, 14, 19, 20, 21, 44]), (9, .A [2]), (10, .A [1, 3, 5, 8, 12, 13, 14, 19, 20, 21]), (11, .A [1, 3, 5, 12, 13, 14, 19, 20, 21, 63]), (12, .A [2]), (13, .B [1, 3, 5, 12, 13, 14, 19, 20, 21]), (14, .A [1, 3, 5, 12, 13, 14, 19, 20, 21]), (15, .A [1, 3, 12, 13, 14]), (16, .A [2])], []⟩
def aFE : Ty := .pair qe .unit
def uN (F : Md) : aF := mSpec aFE (.one .bool) (fun x => rW F x.1)
abbrev aBP (F : Md) : List (FuncId × aF) := [(73, (cF F)), (75, (zG F))]
theorem aNG (F : Md) : bG Tryz.prog GL (aBP F) := .cons (lZ F) xAa (.cons (aOt F) xAa (.nil))
attribute [go_sem] aFE aEB
theorem aLz (F : Md) : FOK Tryz.prog GL 51 (uN F) := by
 refine bN (aS (aNG F)) mix Tryz.func51 rfl xAa xAb aEB fun w0 S x Θ hw h hF => ?_
 obtain ⟨(s_0 : qc), u⟩ := x
 simp only [bQ, go_sem]
 replace h : sat (rW F s_0) _ := h
 unfold rW at h
 refine cI hF (D := Int × qo) [12, 13] (fun d => [(1, .ptr 0 []), (3, .ptr 1 []), (14, .val qj d.1)]) (fun d => [.inr (.box 10 (.val qe s_0)), .inr (.box 1 (.val (.sl qy) d.2))]) h rfl xAc ?_
 rintro ⟨x14_42, l_43⟩ A3 T3 hA3 hE3 h
 simp only [go_sem]
 replace h : sat (xA F s_0 x14_42 l_43) _ := h
 unfold xA at h
 refine fZ h (fun hc h => ?_) fun hc h => ?_
 ·obtain ⟨g0, h⟩ := aL h
  repeat (refine ⟨zAA, ?_⟩)
  refine cI hF (D := Int × qo) [12, 13, 14, 19, 20] (fun d => [(1, .ptr 0 []), (3, .ptr 1 []), (5, .ptr 2 []), (21, .val qj d.1)]) (fun d => [.inr (.box 10 (.val qe s_0)), .inr (.box 1 (.val (.sl qy) d.2)), .inr (.box 5 (.val qa (s_0.2.2.2.2.2.2.2.2.1.getD (x14_42.toNat) ([], [], [], [], [], ()))))]) h rfl xAc ?_
  rintro ⟨x21_83, l_84⟩ A6 T6 hA6 hE6 h
  simp only [go_sem]
  replace h : sat (wZ F s_0 x14_42 x21_83 l_84) _ := h
  unfold wZ at h
  refine fZ h (fun hc h => ?_) fun hc h => ?_
  ·obtain ⟨g0, h⟩ := aL h
   repeat (refine ⟨zAA, ?_⟩)
   obtain ⟨g0, h⟩ := aL h
   obtain ⟨g1, h⟩ := aL h
   repeat (refine ⟨zAD, ?_⟩)
   refine ⟨fun hc => ?_, fun hc => ?_⟩
   ·replace h := jA hc h
    replace h := yaF (hE6 _ (aC h))
    replace h := yaF (hE3 _ (aC h))
    exact zaB
   ·replace h := jB hc h
    obtain ⟨g0, h⟩ := aL h
    repeat (refine ⟨zAA, ?_⟩)
    obtain ⟨v_99, hv, h⟩ := aJ h
    try simp only [hv, go_sem]
    obtain ⟨g0, h⟩ := aL h
    obtain ⟨g1, h⟩ := aL h
    repeat (refine ⟨zAD, ?_⟩)
    refine ⟨fun hc => ?_, fun hc => ?_⟩
    ·replace h := jA zAB h
     replace h := yaF (hE6 _ (aC h))
     replace h := yaF (hE3 _ (aC h))
     exact zaB
    ·replace h := jB zAB h
     obtain ⟨g0, h⟩ := aL h
     repeat (refine ⟨zAA, ?_⟩)
     obtain ⟨g0, h⟩ := aL h
     try simp only [I64, I32] at g0
     repeat (refine ⟨zAA, ?_⟩)
     replace h := hA6 _ (aC h)
     exact zaF
  ·replace h := yaF (hE6 _ (aC h))
   obtain ⟨g0, h⟩ := aL h
   try simp only [I64, I32] at g0
   repeat (refine ⟨zAA, ?_⟩)
   replace h := hA3 _ (aC h)
   refine mD [0, 1] rfl rfl (yaA ?_)
   exact zaF
 ·replace h := yaF (hE3 _ (aC h))
  exact zaB
attribute [go_sem] uN
def xB (F : Md) (s_0 : qc) (names_16 : qm) : Option (Bool) :=
 (qQ F names_16).bind (fun v_20 => ck ((v_20 = true) → ((rW F s_0).isSome = true)) (some (v_20 && ((rW F s_0).getD false))))
def aBQ (F : Md) (s_0 : qc) (x24_23 : Int) (names_24 : qm) : Option ((Int × qm) ⊕ (qm ⊕ Bool)) :=
 if x24_23 < (s_0.2.2.2.2.2.2.2.2.1.length : Int) then ck (0 ≤ x24_23 ∧ x24_23 < (s_0.2.2.2.2.2.2.2.2.1.length : Int)) ((wX F (s_0.2.2.2.2.2.2.2.2.1.getD (x24_23.toNat) ([], [], [], [], [], ()))).bind (fun v_37 => if ¬ (v_37 = true) then some (.inr (.inr false)) else ck (((names_24.length) + (1 : Nat)) * 16 ≤ 140737488355328) (ck (I64 (x24_23 + (1 : Int))) (some (.inl ((x24_23 + (1 : Int)), (names_24 ++ ([(s_0.2.2.2.2.2.2.2.2.1.getD (x24_23.toNat) ([], [], [], [], [], ())).1] : List qI)))))))) else some (.inr (.inl names_24))
def aAa (F : Md) (s_0 : qc) : Option Bool :=
 (uJ F s_0).bind (fun v_7 => if ((¬ (v_7 = true)) ∨ ((s_0.2.2.2.2.2.2.2.2.1.length : Int) < (1 : Int))) ∨ ((4 : Int) < (s_0.2.2.2.2.2.2.2.2.1.length : Int)) then some false else (dI F (fun d : Int × qm => aBQ F s_0 d.1 d.2) ((0 : Int), ([] : List qI))).bind (fun e => match e with | (.inl e) => xB F s_0 e | (.inr e) => some e))
def aIX : PlR := ⟨[(0, .B [1]), (1, .A [1, 20]), (2, .A [2]), (3, .A [1, 3]), (4, .A [1, 3, 22, 23, 24]), (5, .A [1, 3, 22, 23, 24, 25]), (6, .B [1, 3, 5, 22, 23, 24]), (7, .A [1, 3, 5, 22, 23, 24, 30]), (8, .A [2]), (9, .B [1, 3, 22, 23, 24]), (10, .A [1, 3, 22, 23, 24]), (11, .A [2])], [(7, 14)]⟩
def aKT : Ty := .pair qe .unit
def aBc (F : Md) : aF := mSpec aKT (.one .bool) (fun x => aAa F x.1)
abbrev aAb (F : Md) : List (FuncId × aF) := [(48, (sH F)), (49, (uM F)), (50, (pG F)), (51, (uN F))]
theorem aRd (F : Md) : bG Tryz.prog GL (aAb F) := .cons (aJS F) xAa (.cons (aLy F) xAa (.cons (aFv F) xAa (.cons (aLz F) xAa (.nil))))
attribute [go_sem] aKT aIX
theorem aP4 (F : Md) : FOK Tryz.prog GL 28 (aBc F) := by
 refine bN (aS (aRd F)) mix Tryz.func28 rfl xAa xAb aIX fun w0 S x Θ hw h hF => ?_
 obtain ⟨(s_0 : qc), u⟩ := x
 simp only [bQ, go_sem]
 replace h : sat (aAa F s_0) _ := h
 unfold aAa at h
 obtain ⟨v_7, hv, h⟩ := aJ h
 try simp only [hv, go_sem]
 refine ⟨fun hc => ?_, fun hc => ?_⟩
 ·replace h := jA zAB h
  exact zaB
 ·replace h := jB zAB h
  refine dU hF (D := qm) (fun d => sat (xB F s_0 d) Θ) [] (fun d => [(1, .ptr 0 []), (3, .own 1)]) (fun d => [.inr (.box 10 (.val qe s_0)), .inr (.row 9 .str d)]) ?_ ?_
  ·simp only [go_sem]
   refine aDR 3 9 .str rfl (yaA ?_)
   refine cI hF (D := Int × qm) [22, 23] (fun d => [(1, .ptr 0 []), (3, .own 1), (24, .val qj d.1)]) (fun d => [.inr (.box 10 (.val qe s_0)), .inr (.row 9 .str d.2)]) h rfl xAc ?_
   rintro ⟨x24_23, names_24⟩ A5 T5 hA5 hE5 h
   simp only [go_sem]
   replace h : sat (aBQ F s_0 x24_23 names_24) _ := h
   unfold aBQ at h
   refine fZ h (fun hc h => ?_) fun hc h => ?_
   ·obtain ⟨g0, h⟩ := aL h
    repeat (refine ⟨by omega, ?_⟩)
    obtain ⟨v_37, hv, h⟩ := aJ h
    try simp only [hv, go_sem]
    refine aFj h (fun hc h => ?_) fun hc h => ?_
    ·replace h := yaF (hE5 _ (aC h))
     exact zaB
    ·obtain ⟨g0, h⟩ := aL h
     repeat (refine ⟨by omega, ?_⟩)
     obtain ⟨g0, h⟩ := aL h
     repeat (refine ⟨by omega, ?_⟩)
     replace h := hA5 _ (aC h)
     refine mD [0, 3] rfl rfl (yaA ?_)
     exact zaF
   ·replace h := yaF (hE5 _ (aC h))
    exact aW (names_24) h rfl xAc
  ·rintro names_16 h
   simp only [go_sem]
   replace h : sat (xB F s_0 names_16) _ := h
   unfold xB at h
   obtain ⟨v_20, hv, h⟩ := aJ h
   try simp only [hv, go_sem]
   obtain ⟨g0, h⟩ := aL h
   repeat (refine ⟨by omega, ?_⟩)
   exact zaB
attribute [go_sem] aBc
end
end Nu
end Go.Proofs
namespace Go.Proofs
open Go.Vc
set_option maxRecDepth 20000
namespace Nu
noncomputable section
set_option maxHeartbeats 4000000
attribute [-go_sem] Ex.kind Ex.text Ex.l
def zH (F : Md) : Option qc :=
 some ((40 : Int), (4 : Int), (0 : Int), (1 : Int), (aP ⟨#[49]⟩), (aP ⟨#[48, 46, 53]⟩), (aP ⟨#[48, 46, 49, 50, 53]⟩), (aP ⟨#[49]⟩), ([((aP ⟨#[97]⟩), ([((aP ⟨#[120]⟩), ((aP ⟨#[49]⟩), ([] : List Nat), ()), (Ex.mk (2 : Int) (aP ⟨#[120]⟩) ([] : List Ex)), ())] : List (qI × (qx × (Ex × Unit)))), ([] : List (qI × (qx × Unit))), ([] : List qI), ([((aP ⟨#[121]⟩), (Ex.mk (2 : Int) (aP ⟨#[120]⟩) ([] : List Ex)), ())] : List qv), ())] : List qg), ([] : List (qI × (qI × qx))), ())
def aFF : PlR := ⟨[(0, .B [0]), (1, .B [0, 1]), (2, .B [0])], []⟩
def aGP : Ty := .unit
def xC (F : Md) : aF := mSpec aGP (.one qe) (fun x => zH F )
abbrev aOu (F : Md) : List (FuncId × aF) := []
theorem aOv (F : Md) : bG Tryz.prog GL (aOu F) := .nil
attribute [go_sem] aGP aFF
theorem aNL (F : Md) : FOK Tryz.prog GL 15 (xC F) := by
 refine bN (aS (aOv F)) mix Tryz.func15 rfl xAa xAb aFF fun w0 S x Θ hw h hF => ?_
 simp only [bQ, go_sem]
 replace h : sat (zH F) _ := h
 unfold zH at h
 exact aG hF [.cell 0 40] rfl rfl rfl (aC h) xAd
attribute [go_sem] xC
end
end Nu
end Go.Proofs
namespace Go.Proofs
open Go.Shelf
def Tryz.lays285_ren : Go.Shelf.Ren := ⟨fun | 285 => 105 | n => n, fun | 37 => 59 | 53 => 144 | 3 => 3 | 4 => 4 | 51 => 194 | 9 => 9 | 5 => 5 | 0 => 0 | n => n, fun | n => n⟩
theorem Tryz.lays285 : Go.Proofs.Lays.n285 Tryz.prog Tryz.lays285_ren := {
 mixed := by kernel_rfl
 f285 := Tryz.func105.trans (congrArg some (by kernel_rfl))
 t0 := Tryz.underlying0
 a0 := Tryz.isAgg0
 z0 := Tryz.sizeOf0
 v0 := Tryz.zeroValue0
 t3 := Tryz.underlying3
 a3 := Tryz.isAgg3
 z3 := Tryz.sizeOf3
 v3 := Tryz.zeroValue3
 t4 := Tryz.underlying4
 a4 := Tryz.isAgg4
 z4 := Tryz.sizeOf4
 v4 := Tryz.zeroValue4
 t5 := Tryz.underlying5
 a5 := Tryz.isAgg5
 z5 := Tryz.sizeOf5
 v5 := Tryz.zeroValue5
 t9 := Tryz.underlying9
 a9 := Tryz.isAgg9
 z9 := Tryz.sizeOf9
 v9 := Tryz.zeroValue9
 t37 := Tryz.underlying59
 a37 := Tryz.isAgg59
 z37 := Tryz.sizeOf59
 v37 := Tryz.zeroValue59
 t51 := Tryz.underlying194
 a51 := Tryz.isAgg194
 z51 := Tryz.sizeOf194
 v51 := Tryz.zeroValue194
 t53 := Tryz.underlying144
 a53 := Tryz.isAgg144
 z53 := Tryz.sizeOf144
 v53 := Tryz.zeroValue144 }
open Go.Vc
set_option maxRecDepth 20000
namespace Nu
noncomputable section
def dgs (n u : Nat) : List Nat := (List.range n).map fun t => 48 + u / 10 ^ (n - 1 - t) % 10
theorem aGb (n u : Nat) : (dgs n u).length = n := by simp [dgs]
def lO (F : Md) (uo un u : Nat) (xs : List Nat) : Option qI :=
 ck (uo + un ≤ 24) (ck (u < 10 ^ un) (some (xs.take uo ++ dgs un u ++ xs.drop (uo + un))))
def oT (F : Md) : iE where
 D := Nat × Nat × Nat × qI × qI
 av := fun d => [.sub 0 1 d.1 d.2.1, .val qn d.2.2.1]
 hp := fun d => [.box 24 (.val (.arr 24 qr) d.2.2.2.1)]
 m := 1
 pre := fun d => lO F d.1 d.2.1 d.2.2.1 d.2.2.2.1 = some d.2.2.2.2
 out := fun d => (fun r : qI => .ret (.tup []) [.box 24 (.val (.arr 24 qr) (r))]) d.2.2.2.2
attribute [go_sem] oT
theorem aKU (xs : List Nat) : (xs.map (fun (x : Nat) => [Value.int .u8 (x : Int)])).flatten = xs.map (fun (x : Nat) => Value.int .u8 (x : Int)) := by
 induction xs with
 | nil => rfl
 | cons x r ih => simp [ih]
theorem aWW {w : World} {S : Nat → Prop} {m : Nat} {xs : List Nat} {cs : List Value} (h : aT w S (.arr m qr) xs cs) : xs.length = m ∧ cs = xs.map (fun (x : Nat) => Value.int .u8 (x : Int)) ∧ ∀ x ∈ xs, x < 256 := by
 obtain ⟨hl, css, rfl, hcl, hr⟩ := h
 have hl : xs.length = m := hl
 have key : ∀ i (h : i < xs.length) (h' : i < css.length), css[i] = [Value.int .u8 (xs[i] : Int)] ∧ xs[i] < 256 := fun i h h' => by
  obtain ⟨h1, _, h3⟩ := hr i h h'
  refine ⟨h1, ?_⟩
  simp only [IntKind.max, IntKind.signed, IntKind.bits] at h3
  simp at h3
  omega
 refine ⟨hl, ?_, fun x hx => ?_⟩
 ·have e : css = xs.map (fun (x : Nat) => [Value.int .u8 (x : Int)]) := by
   apply List.ext_getElem
   ·simp; exact hcl
   ·intro i h1 h2
    have := (key i (by simpa using h2) h1).1
    simpa using this
  rw [e, aKU]
 ·obtain ⟨i, hi, rfl⟩ := List.getElem_of_mem hx
  exact (key i hi (by have : css.length = xs.length := hcl; omega)).2
theorem aYm {w : World} {S : Nat → Prop} {m : Nat} {xs : List Nat} (hl : xs.length = m) (hx : ∀ x ∈ xs, x < 256) : aT w S (.arr m qr) xs (xs.map (fun (x : Nat) => Value.int .u8 (x : Int))) := by
 refine ⟨hl, xs.map (fun (x : Nat) => [Value.int .u8 (x : Int)]), (aKU xs).symm, by simp, fun i h h' => ?_⟩
 ·have := hx xs[i] (List.getElem_mem h)
  refine ⟨by simp, rfl, ?_⟩
  simp only [IntKind.max, IntKind.signed, IntKind.bits]
  simp
  omega
open Go.Sort in
theorem aT2 {cells : Array Value} {xs : List Nat} {uo un u v' : Nat} {dk : Array UInt8} (hc : cells.toList = xs.map (fun (x : Nat) => Value.int .u8 (x : Int))) (hle : uo + un ≤ xs.length) (hF : Lib.FmtInv un u 0 v' dk) :
  (putCells (fun (b : UInt8) => Value.int .u8 (b.toNat : Int)) uo dk cells).toList = (xs.take uo ++ dgs un u ++ xs.drop (uo + un)).map (fun (x : Nat) => Value.int .u8 (x : Int)) := by
 have hsz : cells.size = xs.length := by rw [← Array.length_toList, hc, List.length_map]
 have hdk := hF.size
 apply List.ext_getElem
 ·simp [putCells, aGb, hsz]; omega
 ·intro i h1 h2
  have hi : i < xs.length := by simpa [putCells, hsz] using h1
  have hci : cells[i]'(by omega) = Value.int .u8 (xs[i] : Int) := by
   have : cells.toList[i]'(by rw [Array.length_toList]; omega) = Value.int .u8 (xs[i] : Int) := by simp [hc]
   simpa using this
  simp only [putCells, Array.toList_mapIdx, List.getElem_mapIdx, Array.getElem_toList, List.getElem_map]
  by_cases hr : uo ≤ i ∧ i < uo + dk.size
  ·rw [if_pos hr, hF.done (i - uo) (Nat.zero_le _) (by omega)]
   have : (xs.take uo ++ dgs un u ++ xs.drop (uo + un))[i]'(by simpa using h2) = 48 + u / 10 ^ (un - 1 - (i - uo)) % 10 := by
    rw [List.getElem_append_left (by simp [aGb]; omega), List.getElem_append_right (by simp; omega)]
    simp [dgs, Nat.min_eq_left (show uo ≤ xs.length by omega)]
   rw [this]
   have hm := Nat.mod_lt (u / 10 ^ (un - 1 - (i - uo))) (show 0 < 10 by decide)
   simp only [Lib.dg, UInt8.toNat_ofNat']
   rw [Nat.mod_eq_of_lt (by omega)]
  ·rw [if_neg hr, hci]
   rcases Nat.lt_or_ge i uo with h | h
   ·rw [List.getElem_append_left (by simp [aGb]; omega), List.getElem_append_left (by simp; omega)]
    simp
   ·rw [List.getElem_append_right (by simp [aGb]; omega)]
    simp only [List.length_append, List.length_take, aGb, List.getElem_drop]
    congr 3
    omega
open Go.Sort in
theorem aCW (F : Md) : GOK Tryz.prog GL 105 (oT F) := by
 rintro c w ⟨uo, un, u, xs, r⟩ vs hpre ⟨good, glob, len, val⟩
 have hpre : lO F uo un u xs = some r := hpre
 unfold lO at hpre
 obtain ⟨h1, hpre⟩ := aI hpre
 obtain ⟨h2, hpre⟩ := aI hpre
 have hr : xs.take uo ++ dgs un u ++ xs.drop (uo + un) = r := Option.some.inj hpre
 obtain ⟨b, cells, e, hhd, hheap, hsz, hcl⟩ := good.objs 0 _ rfl
 obtain ⟨hl, hcs, hx⟩ := aWW hcl
 have hl : xs.length = 24 := hl
 have hcs : cells.toList = xs.map (fun (x : Nat) => Value.int .u8 (x : Int)) := hcs
 have hx : ∀ x ∈ xs, x < 256 := hx
 have hsz : cells.size = 24 := by
  rcases hsz with h | ⟨_, h⟩
  ·exact h
  ·exact absurd h (by omega)
 have hv0 := val 0 (by show 0 < 2; decide) (by rw [len]; show 0 < 2; decide)
 have hv1 := val 1 (by show 1 < 2; decide) (by rw [len]; show 1 < 2; decide)
 obtain ⟨_, hn, b', cap, hb', e0⟩ := aLM (i := 0) (s := 1) (off := uo) (n := un) hv0
 obtain ⟨e1, _, hu⟩ := aEX (k := .u64) (n := u) hv1
 rw [hhd] at hb'
 simp only [aN, Option.some.injEq] at hb'
 subst hb'
 have hvs : vs = #[.slice (some ⟨b, uo * 1, none⟩) un cap, .int .u64 (u : Int)] := by
  have hlen : vs.toList.length = 2 := len
  rw [← Array.toList_inj]
  apply List.ext_getElem
  ·exact hlen
  ·intro i a1 a2
   match i, a2 with
   | 0, _ => exact e0
   | 1, _ => exact e1
 have hd : (((xs.drop uo).take un).map UInt8.ofNat).toArray.size = un := by simp; omega
 have hcell : ∀ j (hj : j < xs.length), w.cell? ⟨b, j, none⟩ = some (.int .u8 (xs[j] : Int)) := fun j hj => by
  have hj2 : j < cells.size := by omega
  have : cells[j] = Value.int .u8 (xs[j] : Int) := by
   have : cells.toList[j]'(by rw [Array.length_toList]; omega) = Value.int .u8 (xs[j] : Int) := by simp [hcs]
   simpa using this
  simp [World.cell?, hheap, hj2, this]
 have hH : Holds (fun (b : UInt8) => Value.int .u8 (b.toNat : Int)) w b uo (((xs.drop uo).take un).map UInt8.ofNat).toArray := fun j hj => by
  rw [hd] at hj
  have hj2 : uo + j < xs.length := by omega
  refine ⟨?_, ?_⟩
  ·rw [hcell _ hj2]
   have hlt := hx xs[uo + j] (List.getElem_mem hj2)
   have : (((xs.drop uo).take un).map UInt8.ofNat).toArray[j]! = UInt8.ofNat xs[uo + j] := by
    rw [getElem!_pos _ j (by rw [hd]; exact hj)]
    simp
   rw [this]
   simp only [UInt8.toNat_ofNat']
   rw [Nat.mod_eq_of_lt (by omega)]
  ·simp [World.frozen?, hheap]
 have hB : hO .u64 = 18446744073709551616 := by decide +kernel
 have key := Any.internal_strconv_formatBase10 Tryz.lays285 b uo cap u _ w hH (by rw [hd]; exact h2) (by omega) (by rw [hd]; omega)
 rw [hd] at key
 rw [hvs, Nat.mul_one]
 refine Calls.mono (f := 105) key ?_
 rintro e w' ⟨rfl, n, v', dk, rfl, hF⟩
 refine ⟨c, .tuple #[], rfl, ?_, ?_⟩
 ·have hbl : b < w.heap.size := (Array.getElem?_eq_some_iff.1 hheap).1
  have hpc := aT2 (uo := uo) (xs := xs) (u := u) (dk := dk) (un := un) hcs (by omega) hF
  have hheap' : ((putRow (fun (b : UInt8) => Value.int .u8 (b.toNat : Int)) w b uo dk).drewN n).heap[b]? = some (.cells (putCells (fun (b : UInt8) => Value.int .u8 (b.toNat : Int)) uo dk cells) e (0, 0)) := by
   show (w.heap.modify b (onCells _))[b]? = _
   rw [Array.getElem?_modify, if_pos rfl, hheap]
   rfl
  have hoth : ∀ k, k ≠ b → ((putRow (fun (b : UInt8) => Value.int .u8 (b.toNat : Int)) w b uo dk).drewN n).heap[k]? = w.heap[k]? := fun k hk => by
   show (w.heap.modify b (onCells _))[k]? = _
   rw [Array.getElem?_modify, if_neg (fun h => hk h.symm)]
  have hsize : ((putRow (fun (b : UInt8) => Value.int .u8 (b.toNat : Int)) w b uo dk).drewN n).heap.size = w.heap.size := by
   show (w.heap.modify b (onCells _)).size = _
   simp
  have hnS : ¬ c.S b := (good.own 0 _ b rfl (by show aN (c.hd 0) = some b; rw [hhd]; rfl)).2.2
  refine ⟨good.n, ⟨rfl, rfl, rfl, Nat.le_of_eq hsize.symm, fun k hk hM => hoth k (fun hkb => hM ?_)⟩, fun k hk => by rw [hsize]; exact good.sfin k hk, good.src, fun i o hio => ?_, fun i o k hio hk => ?_, fun i j oi oj k hi hj hbi hbj => ?_, good.root⟩
  ·subst hkb
   exact ⟨0, _, rfl, by show aN (c.hd 0) = some k; rw [hhd]; rfl⟩
  ·match i, hio with
   | 0, hio =>
    cases hio
    refine ⟨b, _, e, hhd, hheap', ?_, ?_⟩
    ·exact .inl (by (simp [putCells, hsz]) <;> rfl)
    ·show aT _ c.S (.arr 24 qr) r _
     rw [hpc, hr]
     have hrl : r.length = 24 := by rw [← hr]; simp [aGb]; omega
     refine aYm hrl (fun x hxr => ?_)
     rw [← hr] at hxr
     rcases List.mem_append.1 hxr with hxr | hxr
     ·rcases List.mem_append.1 hxr with hxr | hxr
      ·exact hx x (List.mem_of_mem_take hxr)
      ·obtain ⟨t, _, rfl⟩ := List.mem_map.1 hxr
       have := Nat.mod_lt (u / 10 ^ (un - 1 - t)) (show 0 < 10 by decide)
       omega
     ·exact hx x (List.mem_of_mem_drop hxr)
   | i + 1, hio => cases hio
  ·match i, hio with
   | 0, hio =>
    cases hio
    have := good.own 0 _ k rfl hk
    rw [hsize]; exact this
   | i + 1, hio => cases hio
  ·match i, j, hi, hj with
   | 0, 0, _, _ => rfl
   | 0, j + 1, _, hj => cases hj
   | i + 1, _, hi, _ => cases hi
 ·exact ⟨[], rfl, rfl, fun i h1 _ => by cases h1⟩
end
end Nu
end Go.Proofs
namespace Go.Proofs
open Go.Vc
set_option maxRecDepth 20000
namespace Nu
noncomputable section
set_option maxHeartbeats 4000000
def aHp : ByteArray := ⟨⟨48 :: 48 :: 48 :: 49 :: 48 :: 50 :: 48 :: 51 :: 48 :: 52 :: 48 :: 53 :: 48 :: 54 :: 48 :: 55 :: 48 :: 56 :: 48 :: 57 :: 49 :: 48 :: 49 :: 49 :: 49 :: 50 :: 49 :: 51 :: 49 :: 52 :: 49 :: 53 :: 49 :: 54 :: 49 :: 55 :: 49 :: 56 :: 49 :: 57 :: 50 :: 48 :: 50 :: 49 :: 50 :: 50 :: 50 :: 51 :: 50 :: 52 :: 50 :: 53 :: 50 :: 54 :: 50 :: 55 :: 50 :: 56 :: 50 :: 57 :: 51 :: 48 :: 51 :: 49 :: 51 :: 50 :: 51 :: 51 :: 51 :: 52 :: 51 :: 53 :: 51 :: 54 :: 51 :: 55 :: 51 :: 56 :: 51 :: 57 :: 52 :: 48 :: 52 :: 49 :: 52 :: 50 :: 52 :: 51 :: 52 :: 52 :: 52 :: 53 :: 52 :: 54 :: 52 :: 55 :: 52 :: 56 :: 52 :: 57 :: 53 :: 48 :: 53 :: 49 :: 53 :: 50 :: 53 :: 51 :: 53 :: 52 :: 53 :: 53 :: 53 :: 54 :: 53 :: 55 :: 53 :: 56 :: 53 :: 57 :: 54 :: 48 :: 54 :: 49 :: 54 :: 50 :: 54 :: 51 :: 54 :: 52 :: 54 :: 53 :: 54 :: 54 :: 54 :: 55 :: 54 :: 56 :: 54 :: 57 :: 55 :: 48 :: 55 :: 49 :: 55 :: 50 :: 55 :: 51 :: 55 :: 52 :: 55 :: 53 :: 55 :: 54 :: 55 :: 55 :: 55 :: 56 :: 55 :: 57 :: 56 :: 48 :: 56 :: 49 :: 56 :: 50 :: 56 :: 51 :: 56 :: 52 :: 56 :: 53 :: 56 :: 54 :: 56 :: 55 :: 56 :: 56 :: 56 :: 57 :: 57 :: 48 :: 57 :: 49 :: 57 :: 50 :: 57 :: 51 :: 57 :: 52 :: 57 :: 53 :: 57 :: 54 :: 57 :: 55 :: 57 :: 56 :: 57 :: 57 :: []⟩⟩
@[go_sem]theorem aOw : (⟨⟨48 :: 48 :: 48 :: 49 :: 48 :: 50 :: 48 :: 51 :: 48 :: 52 :: 48 :: 53 :: 48 :: 54 :: 48 :: 55 :: 48 :: 56 :: 48 :: 57 :: 49 :: 48 :: 49 :: 49 :: 49 :: 50 :: 49 :: 51 :: 49 :: 52 :: 49 :: 53 :: 49 :: 54 :: 49 :: 55 :: 49 :: 56 :: 49 :: 57 :: 50 :: 48 :: 50 :: 49 :: 50 :: 50 :: 50 :: 51 :: 50 :: 52 :: 50 :: 53 :: 50 :: 54 :: 50 :: 55 :: 50 :: 56 :: 50 :: 57 :: 51 :: 48 :: 51 :: 49 :: 51 :: 50 :: 51 :: 51 :: 51 :: 52 :: 51 :: 53 :: 51 :: 54 :: 51 :: 55 :: 51 :: 56 :: 51 :: 57 :: 52 :: 48 :: 52 :: 49 :: 52 :: 50 :: 52 :: 51 :: 52 :: 52 :: 52 :: 53 :: 52 :: 54 :: 52 :: 55 :: 52 :: 56 :: 52 :: 57 :: 53 :: 48 :: 53 :: 49 :: 53 :: 50 :: 53 :: 51 :: 53 :: 52 :: 53 :: 53 :: 53 :: 54 :: 53 :: 55 :: 53 :: 56 :: 53 :: 57 :: 54 :: 48 :: 54 :: 49 :: 54 :: 50 :: 54 :: 51 :: 54 :: 52 :: 54 :: 53 :: 54 :: 54 :: 54 :: 55 :: 54 :: 56 :: 54 :: 57 :: 55 :: 48 :: 55 :: 49 :: 55 :: 50 :: 55 :: 51 :: 55 :: 52 :: 55 :: 53 :: 55 :: 54 :: 55 :: 55 :: 55 :: 56 :: 55 :: 57 :: 56 :: 48 :: 56 :: 49 :: 56 :: 50 :: 56 :: 51 :: 56 :: 52 :: 56 :: 53 :: 56 :: 54 :: 56 :: 55 :: 56 :: 56 :: 56 :: 57 :: 57 :: 48 :: 57 :: 49 :: 57 :: 50 :: 57 :: 51 :: 57 :: 52 :: 57 :: 53 :: 57 :: 54 :: 57 :: 55 :: 57 :: 56 :: 57 :: 57 :: []⟩⟩ : ByteArray) = aHp := rfl
def aHq : ByteArray := ⟨⟨48 :: 49 :: 50 :: 51 :: 52 :: 53 :: 54 :: 55 :: 56 :: 57 :: 97 :: 98 :: 99 :: 100 :: 101 :: 102 :: 103 :: 104 :: 105 :: 106 :: 107 :: 108 :: 109 :: 110 :: 111 :: 112 :: 113 :: 114 :: 115 :: 116 :: 117 :: 118 :: 119 :: 120 :: 121 :: 122 :: []⟩⟩
@[go_sem]theorem aOx : (⟨⟨48 :: 49 :: 50 :: 51 :: 52 :: 53 :: 54 :: 55 :: 56 :: 57 :: 97 :: 98 :: 99 :: 100 :: 101 :: 102 :: 103 :: 104 :: 105 :: 106 :: 107 :: 108 :: 109 :: 110 :: 111 :: 112 :: 113 :: 114 :: 115 :: 116 :: 117 :: 118 :: 119 :: 120 :: 121 :: 122 :: []⟩⟩ : ByteArray) = aHq := rfl
def oI (F : Md) (b_0 : Bool) : Option Int :=
 if b_0 = true then some (1 : Int) else some (0 : Int)
def xU : PlR := ⟨[(0, .A [0]), (1, .A [3]), (2, .A [2]), (3, .A [2])], []⟩
def aAc : Ty := .pair .bool .unit
def nM (F : Md) : aF := mSpec aAc (.one qj) (fun x => oI F x.1)
abbrev aFG (F : Md) : List (FuncId × aF) := []
theorem aFH (F : Md) : bG Tryz.prog GL (aFG F) := .nil
attribute [go_sem] aAc xU
theorem aEQ (F : Md) : FOK Tryz.prog GL 142 (nM F) := by
 refine bN (aS (aFH F)) mix Tryz.func142 rfl xAa xAb xU fun w0 S x Θ hw h hF => ?_
 obtain ⟨(b_0 : Bool), u⟩ := x
 simp only [bQ, go_sem]
 replace h : sat (oI F b_0) _ := h
 unfold oI at h
 exact zaS
attribute [go_sem] nM
def oJ (F : Md) (x_0 : Int) : Option Int :=
 ck (I64 (x_0 * (78913 : Int))) (some (Int.fdiv (x_0 * (78913 : Int)) (2 ^ (18 : Nat))))
def xV : PlR := ⟨[(0, .A [0]), (1, .A [2])], []⟩
def aAd : Ty := .pair qj .unit
def nN (F : Md) : aF := mSpec aAd (.one qj) (fun x => oJ F x.1)
abbrev aFI (F : Md) : List (FuncId × aF) := []
theorem aFJ (F : Md) : bG Tryz.prog GL (aFI F) := .nil
attribute [go_sem] aAd xV
theorem aER (F : Md) : FOK Tryz.prog GL 140 (nN F) := by
 refine bN (aS (aFJ F)) mix Tryz.func140 rfl xAa xAb xV fun w0 S x Θ hw h hF => ?_
 obtain ⟨(x_0 : Int), u⟩ := x
 simp only [bQ, go_sem]
 replace h : sat (oJ F x_0) _ := h
 unfold oJ at h
 refine aU h fun g0 h => ?_
 exact zaB
attribute [go_sem] nN
def bL (F : Md) (d_0 : Nat) : Option Int :=
 (wE F d_0).bind (fun v_8 => (oJ F v_8).bind (fun v_9 => ck (0 ≤ v_9 ∧ v_9 < (20 : Int)) ((oI F (decide ((p10.getD (v_9.toNat) (0 : Nat)) ≤ d_0))).bind (fun v_13 => ck (I64 (v_9 + v_13)) (some (v_9 + v_13))))))
def xW : PlR := ⟨[(0, .A [0]), (1, .A [0, 3]), (2, .A [2])], []⟩
def aAe : Ty := .pair qn .unit
def nO (F : Md) : aF := mSpec aAe (.one qj) (fun x => bL F x.1)
abbrev oK (F : Md) : List (FuncId × aF) := [(140, (nN F)), (141, (qM F)), (142, (nM F))]
theorem aFK (F : Md) : bG Tryz.prog GL (oK F) := .cons (aER F) xAa (.cons (aGw F) xAa (.cons (aEQ F) xAa (.nil)))
attribute [go_sem] aAe xW
theorem aES (F : Md) : FOK Tryz.prog GL 104 (nO F) := by
 refine bN (aS (aFK F)) mix Tryz.func104 rfl xAa xAb xW fun w0 S x Θ hw h hF => ?_
 obtain ⟨(d_0 : Nat), u⟩ := x
 simp only [bQ, go_sem]
 replace h : sat (bL F d_0) _ := h
 unfold bL at h
 obtain ⟨v_8, hv, h⟩ := aJ h
 try simp only [hv, go_sem]
 obtain ⟨v_9, hv, h⟩ := aJ h
 try simp only [hv, go_sem]
 refine aU h fun g0 h => ?_
 obtain ⟨v_13, hv, h⟩ := aJ h
 exact zaJ
attribute [go_sem] nO
def pI (F : Md) (i_0 : Int) : Option qI :=
 if i_0 < (10 : Int) then ck (I64 (i_0 + (1 : Int))) (ck (0 ≤ i_0 ∧ i_0 ≤ (i_0 + (1 : Int)) ∧ (i_0 + (1 : Int)) ≤ (((aP aHq).length : Nat) : Int)) (some (List.drop (i_0.toNat) (List.take (i_0 + (1 : Int)).toNat (aP aHq))))) else ck (I64 (i_0 * (2 : Int))) (ck (I64 (i_0 * (2 : Int))) (ck (I64 ((i_0 * (2 : Int)) + (2 : Int))) (ck (0 ≤ (i_0 * (2 : Int)) ∧ (i_0 * (2 : Int)) ≤ ((i_0 * (2 : Int)) + (2 : Int)) ∧ ((i_0 * (2 : Int)) + (2 : Int)) ≤ (((aP aHp).length : Nat) : Int)) (some (List.drop (i_0 * (2 : Int)).toNat (List.take ((i_0 * (2 : Int)) + (2 : Int)).toNat (aP aHp)))))))
def aCu : PlR := ⟨[(0, .A [0]), (1, .A [0, 4]), (2, .A [2]), (3, .A [2])], []⟩
def aDv : Ty := .pair qj .unit
def rD (F : Md) : aF := mSpec aDv (.one .str) (fun x => pI F x.1)
abbrev aJY (F : Md) : List (FuncId × aF) := []
theorem aJZ (F : Md) : bG Tryz.prog GL (aJY F) := .nil
attribute [go_sem] aDv aCu
theorem aIY (F : Md) : FOK Tryz.prog GL 103 (rD F) := by
 refine bN (aS (aJZ F)) mix Tryz.func103 rfl xAa xAb aCu fun w0 S x Θ hw h hF => ?_
 obtain ⟨(i_0 : Int), u⟩ := x
 simp only [bQ, go_sem]
 replace h : sat (pI F i_0) _ := h
 unfold pI at h
 refine fZ h (fun hc h => ?_) fun hc h => ?_
 ·refine aU h fun g0 h => aU h fun g1 h => ?_
  exact zaB
 ·refine aU h fun g0 h => aU h fun g1 h => aU h fun g2 h => aU h fun g3 h => ?_
  exact zaB
attribute [go_sem] rD
def lP (F : Md) (i_0 : Int) (u_5 : Nat) : Option qI :=
 ck ((bL F u_5).isSome = true) (ck (I64 ((1 : Int) + ((bL F u_5).getD (0 : Int)))) (ck ((1 : Int) < ((1 : Int) + ((bL F u_5).getD (0 : Int))) ∧ ((1 : Int) + ((bL F u_5).getD (0 : Int))) ≤ 24) ((lO F (1 : Nat) (((1 : Int) + ((bL F u_5).getD (0 : Int))) - (1 : Int)).toNat u_5 (List.replicate 24 (0 : Nat))).bind (fun r_7 => if i_0 < (0 : Int) then ck (I64 ((1 : Int) + ((bL F u_5).getD (0 : Int)))) (ck ((0 : Int) < ((1 : Int) + ((bL F u_5).getD (0 : Int))) ∧ ((1 : Int) + ((bL F u_5).getD (0 : Int))) ≤ 24) (ck ((0 : Nat) + (((1 : Int) + ((bL F u_5).getD (0 : Int))) - (0 : Int)).toNat ≤ 24) (some (List.take (((1 : Int) + ((bL F u_5).getD (0 : Int))) - (0 : Int)).toNat (List.drop (0 : Nat) (r_7.set (0 : Nat) (45 : Nat))))))) else ck (I64 ((1 : Int) + ((bL F u_5).getD (0 : Int)))) (ck ((1 : Int) < ((1 : Int) + ((bL F u_5).getD (0 : Int))) ∧ ((1 : Int) + ((bL F u_5).getD (0 : Int))) ≤ 24) (ck ((1 : Nat) + (((1 : Int) + ((bL F u_5).getD (0 : Int))) - (1 : Int)).toNat ≤ 24) (some (List.take (((1 : Int) + ((bL F u_5).getD (0 : Int))) - (1 : Int)).toNat (List.drop (1 : Nat) r_7)))))))))
def oL (F : Md) (i_0 : Int) (base_1 : Int) : Option qI :=
 if base_1 = (10 : Int) then if ((0 : Int) ≤ i_0) ∧ (i_0 < (100 : Int)) then ck ((pI F i_0).isSome = true) (some ((pI F i_0).getD ([] : List Nat))) else if i_0 < (0 : Int) then lP F i_0 (aPE F .u64 (i_0 % (18446744073709551616 : Int)).toNat) else lP F i_0 (i_0 % (18446744073709551616 : Int)).toNat else none
@[go_sem]def oM : Ty := .pair qj qf
def nP (F : Md) : aF := mSpec oM (.one .str) (fun x => oL F x.1 x.2.1)
abbrev oN (F : Md) : List (FuncId × aF) := [(103, (rD F)), (104, (nO F))]
theorem aAf (F : Md) : bG Tryz.prog GL (oN F) := .cons (aIY F) xAa (.cons (aES F) xAa (.nil))
theorem aET (F : Md) : FOK Tryz.prog GL 79 (nP F) := by
 refine nY (aS (aAf F)) Tryz.func79 rfl xAa xAb fun w0 S x r hw h => ?_
 have hF : hU (fr Tryz.prog (EM (oN F)) S w0 Tryz.f79.ntmps) := ⟨aS (aAf F), mix⟩
 obtain ⟨(i_0 : Int), (base_1 : Int), u⟩ := x
 simp only [oM, Ty.wf, gW] at hw
 simp only [bQ, oM]
 try dsimp only at h
 replace h : oL F i_0 base_1 = some r := h
 unfold oL at h
 refine aA (aD hF [0, 1] ?_)
 simp only [go_sem, bH F, bI F, bJ F]
 refine aB (aA (aA (aD hF [0, 1, 11] ?_)))
 simp only [go_sem, bH F, bI F, bJ F]
 refine aB (bF rfl (fun hc => ?_) (fun hc => ?_))
 ·try simp only [go_sem, bH F, bI F, bJ F] at hc
  have h := dT zAB h
  refine aA (aA (aD hF [0, 17] ?_))
  simp only [go_sem, bH F, bI F, bJ F]
  refine aB (bF rfl (fun hc => ?_) (fun hc => ?_))
  ·try simp only [go_sem, bH F, bI F, bJ F] at hc
   have h := dT zAB h
   refine aA (aD hF [4] ?_)
   simp only [go_sem, bH F, bI F, bJ F]
   obtain ⟨g0, h⟩ := aI h
   exact zaL
  ·try simp only [go_sem, bH F, bI F, bJ F] at hc
   have h := dP zAB h
   refine bM (aB (aA (aM hF [0, 5] ?_)))
   simp only [go_sem, bH F, bI F, bJ F]
   refine aB (aA (aD hF [0, 5, 6] ?_))
   simp only [go_sem, bH F, bI F, bJ F]
   refine aB (jZ (D := Nat) (fun d => lP F i_0 d = some r) [0] (fun d => [(5, .ptr 0 []), (6, .val qn d)]) (fun d => [.inr (.box 24 (.val (.arr 24 qr) (List.replicate 24 (0 : Nat))))]) ?_ ?_)
   ·refine aA (aD hF [0, 5, 6, 23] ?_)
    simp only [go_sem, bH F, bI F, bJ F]
    refine aB (bF rfl (fun hc => ?_) (fun hc => ?_))
    ·try simp only [go_sem, bH F, bI F, bJ F] at hc
     have h := dT zAB h
     refine aD hF [0, 5, 6] ?_
     simp only [go_sem, bH F, bI F, bJ F]
     refine bB (aW (aPE F .u64 (i_0 % (18446744073709551616 : Int)).toNat) h rfl ?_)
     ·(try simp only [gR, dM, true_or, and_self, go_sem, bH F, bI F, bJ F]) <;> (repeat' apply And.intro) <;> first | rfl | (left; rfl) | (right; rfl) | (left; simp only [go_sem, bH F, bI F, bJ F]; done) | (right; simp only [go_sem, bH F, bI F, bJ F]; done) | (simp; done) | (simp only [*]; done) | omega
    ·try simp only [go_sem, bH F, bI F, bJ F] at hc
     have h := dP zAB h
     refine bM (bB (aW (i_0 % (18446744073709551616 : Int)).toNat h rfl ?_))
     ·(try simp only [gR, dM, true_or, and_self, go_sem, bH F, bI F, bJ F]) <;> (repeat' apply And.intro) <;> first | rfl | (left; rfl) | (right; rfl) | (left; simp only [go_sem, bH F, bI F, bJ F]; done) | (right; simp only [go_sem, bH F, bI F, bJ F]; done) | (simp; done) | (simp only [*]; done) | omega
   ·rintro u_5 h
    try dsimp only at h
    simp only [go_sem, bH F, bI F, bJ F]
    unfold lP at h
    refine aA (aD hF [0, 5, 6, 7] ?_)
    simp only [go_sem, bH F, bI F, bJ F]
    obtain ⟨g0, h⟩ := aI h
    repeat (refine ⟨by first | with_reducible assumption | omega | (intros; first | with_reducible assumption | omega) | (simp only [go_sem, bH F, bI F, bJ F] at *; first | with_reducible assumption | omega) | (intro _; exact ⟨rfl, by decide⟩) | (intro _; refine (?_ : _ = aE _); rfl) | (refine (?_ : _ = aE _); rfl) | exact ⟨rfl, rfl⟩ | decide, ?_⟩)
    obtain ⟨g0, h⟩ := aI h
    try simp only [I64, I32] at g0
    obtain ⟨g1, h⟩ := aI h
    obtain ⟨r_7, he1, h⟩ := bind_some h
    try dsimp only at h
    refine aB (aA (aK hF (aY (l := [(105, ⟨oT F, [0], ((1 : Nat), (((1 : Int) + ((bL F u_5).getD (0 : Int))) - (1 : Int)).toNat, u_5, (List.replicate 24 (0 : Nat)), r_7)⟩)]) (.cons (aCW F) xAa (.nil))) [0, 5, 7] [30] ?_))
    simp only [go_sem, bH F, bI F, bJ F]
    repeat (refine ⟨by first | with_reducible assumption | omega | (intros; first | with_reducible assumption | omega) | (simp only [go_sem, bH F, bI F, bJ F] at *; first | with_reducible assumption | omega) | (intro _; exact ⟨rfl, by decide⟩) | (intro _; refine (?_ : _ = aE _); rfl) | (refine (?_ : _ = aE _); rfl) | exact ⟨rfl, rfl⟩ | decide, ?_⟩)
    refine aB (aA (aA (aD hF [5, 7, 34] ?_)))
    simp only [go_sem, bH F, bI F, bJ F]
    refine aB (bF rfl (fun hc => ?_) (fun hc => ?_))
    ·try simp only [go_sem, bH F, bI F, bJ F] at hc
     have h := dT zAB h
     refine aA (aM hF [5, 7] ?_)
     simp only [go_sem, bH F, bI F, bJ F]
     obtain ⟨g0, h⟩ := aI h
     try simp only [I64, I32] at g0
     obtain ⟨g1, h⟩ := aI h
     obtain ⟨g2, h⟩ := aI h
     refine aB (aA (aK hF (aY (l := []) (.nil)) [4] [38] ?_))
     simp only [go_sem, bH F, bI F, bJ F]
     exact zaL
    ·try simp only [go_sem, bH F, bI F, bJ F] at hc
     have h := dP zAB h
     obtain ⟨g0, h⟩ := aI h
     try simp only [I64, I32] at g0
     obtain ⟨g1, h⟩ := aI h
     obtain ⟨g2, h⟩ := aI h
     refine bM (aB (aA (aK hF (aY (l := []) (.nil)) [4] [42] ?_)))
     simp only [go_sem, bH F, bI F, bJ F]
     repeat (refine ⟨by first | with_reducible assumption | omega | (intros; first | with_reducible assumption | omega) | (simp only [go_sem, bH F, bI F, bJ F] at *; first | with_reducible assumption | omega) | (intro _; exact ⟨rfl, by decide⟩) | (intro _; refine (?_ : _ = aE _); rfl) | (refine (?_ : _ = aE _); rfl) | exact ⟨rfl, rfl⟩ | decide, ?_⟩)
     obtain rfl := Option.some.inj h
     refine aB (bX (bO (eM hF [.tmp 4] rfl rfl rfl ?_)))
     (try simp only [gK, aR, go_sem, bH F, bI F, bJ F]) <;> first | rfl | (simp; done)
 ·try simp only [go_sem, bH F, bI F, bJ F] at hc
  have h := dP zAB h
  cases h
attribute [go_sem] nP
def uP (F : Md) (i_0 : Int) : Option qI :=
 (oL F i_0 (10 : Int)).bind (fun v_5 => some v_5)
def aDw : PlR := ⟨[(0, .A [0]), (1, .A [2])], []⟩
def aEC : Ty := .pair qj .unit
def sQ (F : Md) : aF := mSpec aEC (.one .str) (fun x => uP F x.1)
abbrev aED (F : Md) : List (FuncId × aF) := [(79, (nP F))]
theorem aLA (F : Md) : bG Tryz.prog GL (aED F) := .cons (aET F) xAa (.nil)
attribute [go_sem] aEC aDw
theorem aJ0 (F : Md) : FOK Tryz.prog GL 54 (sQ F) := by
 refine bN (aS (aLA F)) mix Tryz.func54 rfl xAa xAb aDw fun w0 S x Θ hw h hF => ?_
 obtain ⟨(i_0 : Int), u⟩ := x
 simp only [bQ, go_sem]
 replace h : sat (uP F i_0) _ := h
 unfold uP at h
 exact zab
attribute [go_sem] sQ
def eY (F : Md) (i_0 : Int) : Option qI :=
 (uP F i_0).bind (fun v_5 => some v_5)
def aEE : PlR := ⟨[(0, .A [0]), (1, .A [2])], []⟩
def aFL : Ty := .pair qj .unit
def uQ (F : Md) : aF := mSpec aFL (.one .str) (fun x => eY F x.1)
abbrev aFM (F : Md) : List (FuncId × aF) := [(54, (sQ F))]
theorem aNM (F : Md) : bG Tryz.prog GL (aFM F) := .cons (aJ0 F) xAa (.nil)
attribute [go_sem] aFL aEE
theorem aLB (F : Md) : FOK Tryz.prog GL 32 (uQ F) := by
 refine bN (aS (aNM F)) mix Tryz.func32 rfl xAa xAb aEE fun w0 S x Θ hw h hF => ?_
 obtain ⟨(i_0 : Int), u⟩ := x
 simp only [bQ, go_sem]
 replace h : sat (eY F i_0) _ := h
 unfold eY at h
 exact zab
attribute [go_sem] uQ
end
end Nu
end Go.Proofs
namespace Go.Proofs
open Go.Vc
set_option maxRecDepth 20000
namespace Nu
noncomputable section
set_option maxHeartbeats 4000000
attribute [-go_sem] Ex.kind Ex.text Ex.l
@[go_sem]def aBd : Ty := .pair .expr .unit
def oU (g : Ex → Option qI) : aF := mSpec aBd (.one .str) (fun x => g x.1)
attribute [go_sem] oU
def eK (F : Md) (g : Ex → Option qI) (e_0 : Ex) (k_1 : Int) (some_2 : Int) : Option qI :=
 if (((e_0.l).length : Nat) : Int) ≤ k_1 then some (aP ⟨#[]⟩) else ck (0 ≤ k_1 ∧ k_1 < (((e_0.l).length : Nat) : Int)) (if (((0 : Int) ≤ ((e_0.l).getD (k_1.toNat) (Ex.mk 0 [] [])).kind) ∧ (((e_0.l).getD (k_1.toNat) (Ex.mk 0 [] [])).kind < (60 : Int))) ∧ ((IntKind.i64.wrap ((BitVec.ofInt 64 (Int.fdiv some_2 (2 ^ (((e_0.l).getD (k_1.toNat) (Ex.mk 0 [] [])).kind % (18446744073709551616 : Int)).toNat)) &&& BitVec.ofInt 64 (1 : Int)).toNat : Int)) = (1 : Int)) then (g ((e_0.l).getD (k_1.toNat) (Ex.mk 0 [] []))).bind (fun v_9 => ck ((aP ⟨#[40]⟩).length + (v_9.length) ≤ 9223372036854775807) (ck (((aP ⟨#[40]⟩) ++ v_9).length + (aP ⟨#[41]⟩).length ≤ 9223372036854775807) (some (((aP ⟨#[40]⟩) ++ v_9) ++ (aP ⟨#[41]⟩))))) else (g ((e_0.l).getD (k_1.toNat) (Ex.mk 0 [] []))).bind (fun v_13 => some v_13))
def aKV : PlR := ⟨[(0, .B [1, 2, 3]), (1, .A [1, 2, 3, 12]), (2, .A [6]), (3, .B [2, 7]), (4, .A [7, 34]), (5, .A [6]), (6, .A [6])], []⟩
def aNN : Ty := .pair .expr (.pair qj qf)
def aCv (F : Md) (g : Ex → Option qI) : aF := mSpec aNN (.one .str) (fun x => eK F g x.1 x.2.1 x.2.2.1)
abbrev aNO (F : Md) (g : Ex → Option qI) : List (FuncId × aF) := [(8, (oU g))]
theorem aSb (F : Md) (g : Ex → Option qI) (hg : FOK Tryz.prog GL 8 (oU g)) : bG Tryz.prog GL (aNO F g) := .cons hg xAa (.nil)
attribute [go_sem] aNN aKV
theorem aRe (F : Md) (g : Ex → Option qI) (hg : FOK Tryz.prog GL 8 (oU g)) : FOK Tryz.prog GL 19 (aCv F g) := by
 refine bN (aS (aSb F g hg)) mix Tryz.func19 rfl xAa xAb aKV fun w0 S x Θ hw h hF => ?_
 obtain ⟨(e_0 : Ex), (k_1 : Int), (some_2 : Int), u⟩ := x
 simp only [bQ, go_sem]
 replace h : sat (eK F g e_0 k_1 some_2) _ := h
 unfold eK at h
 refine aPF h (fun hc h => ?_) fun hc h => ?_
 ·exact aG hF [.tmp 6] rfl rfl rfl (aC h) xAd
 ·refine aU h fun g0 h => ?_
  refine ⟨fun hc => ?_, fun hc => ?_⟩
  ·replace h := jA hc h
   obtain ⟨v_9, hv, h⟩ := aJ h
   try simp only [hv, go_sem]
   refine aU h fun g0 h => aU h fun g1 h => ?_
   exact aG hF [.tmp 6] rfl rfl rfl (aC h) xAd
  ·replace h := jB hc h
   obtain ⟨v_13, hv, h⟩ := aJ h
   try simp only [hv, go_sem]
   exact aG hF [.tmp 6] rfl rfl rfl (aC h) xAd
attribute [go_sem] aCv
def cG (F : Md) (g : Ex → Option qI) (e_0 : Ex) : Option qI :=
 if (e_0.kind) = (6 : Int) then (eK F g e_0 (0 : Int) (0 : Int)).bind (fun v_44 => ck ((v_44.length) + (aP ⟨#[32, 43, 32]⟩).length ≤ 9223372036854775807) ((eK F g e_0 (1 : Int) (192 : Int)).bind (fun v_45 => ck ((v_44 ++ (aP ⟨#[32, 43, 32]⟩)).length + (v_45.length) ≤ 9223372036854775807) (some ((v_44 ++ (aP ⟨#[32, 43, 32]⟩)) ++ v_45))))) else if (e_0.kind) = (7 : Int) then (eK F g e_0 (0 : Int) (0 : Int)).bind (fun v_56 => ck ((v_56.length) + (aP ⟨#[32, 45, 32]⟩).length ≤ 9223372036854775807) ((eK F g e_0 (1 : Int) (192 : Int)).bind (fun v_57 => ck ((v_56 ++ (aP ⟨#[32, 45, 32]⟩)).length + (v_57.length) ≤ 9223372036854775807) (some ((v_56 ++ (aP ⟨#[32, 45, 32]⟩)) ++ v_57))))) else if (e_0.kind) = (8 : Int) then (eK F g e_0 (0 : Int) (192 : Int)).bind (fun v_68 => ck ((v_68.length) + (aP ⟨#[32, 42, 32]⟩).length ≤ 9223372036854775807) ((eK F g e_0 (1 : Int) (960 : Int)).bind (fun v_69 => ck ((v_68 ++ (aP ⟨#[32, 42, 32]⟩)).length + (v_69.length) ≤ 9223372036854775807) (some ((v_68 ++ (aP ⟨#[32, 42, 32]⟩)) ++ v_69))))) else if (e_0.kind) = (9 : Int) then (eK F g e_0 (0 : Int) (192 : Int)).bind (fun v_80 => ck ((v_80.length) + (aP ⟨#[32, 47, 32]⟩).length ≤ 9223372036854775807) ((eK F g e_0 (1 : Int) (960 : Int)).bind (fun v_81 => ck ((v_80 ++ (aP ⟨#[32, 47, 32]⟩)).length + (v_81.length) ≤ 9223372036854775807) (some ((v_80 ++ (aP ⟨#[32, 47, 32]⟩)) ++ v_81))))) else if (e_0.kind) = (10 : Int) then (eK F g e_0 (0 : Int) (960 : Int)).bind (fun v_85 => ck ((aP ⟨#[45]⟩).length + (v_85.length) ≤ 9223372036854775807) (some ((aP ⟨#[45]⟩) ++ v_85))) else if (e_0.kind) = (11 : Int) then (eK F g e_0 (0 : Int) (0 : Int)).bind (fun v_89 => ck ((aP ⟨#[115, 113, 114, 40]⟩).length + (v_89.length) ≤ 9223372036854775807) (ck (((aP ⟨#[115, 113, 114, 40]⟩) ++ v_89).length + (aP ⟨#[41]⟩).length ≤ 9223372036854775807) (some (((aP ⟨#[115, 113, 114, 40]⟩) ++ v_89) ++ (aP ⟨#[41]⟩))))) else if (e_0.kind) = (12 : Int) then (eK F g e_0 (0 : Int) (0 : Int)).bind (fun v_93 => ck ((aP ⟨#[115, 113, 114, 116, 40]⟩).length + (v_93.length) ≤ 9223372036854775807) (ck (((aP ⟨#[115, 113, 114, 116, 40]⟩) ++ v_93).length + (aP ⟨#[41]⟩).length ≤ 9223372036854775807) (some (((aP ⟨#[115, 113, 114, 116, 40]⟩) ++ v_93) ++ (aP ⟨#[41]⟩))))) else if (e_0.kind) = (13 : Int) then (eK F g e_0 (0 : Int) (0 : Int)).bind (fun v_97 => ck ((aP ⟨#[101, 120, 112, 40]⟩).length + (v_97.length) ≤ 9223372036854775807) (ck (((aP ⟨#[101, 120, 112, 40]⟩) ++ v_97).length + (aP ⟨#[41]⟩).length ≤ 9223372036854775807) (some (((aP ⟨#[101, 120, 112, 40]⟩) ++ v_97) ++ (aP ⟨#[41]⟩))))) else some (e_0.text)
def aGQ : PlR := ⟨[(0, .B [1]), (1, .A [1, 4]), (2, .A [1, 4, 5]), (3, .A [2]), (4, .A [1, 4, 13]), (5, .A [2]), (6, .A [1, 4, 21]), (7, .A [2]), (8, .A [1, 4, 29]), (9, .A [2]), (10, .A [1, 4, 37]), (11, .A [2]), (12, .A [1, 4, 42]), (13, .A [2]), (14, .A [1, 4, 48]), (15, .A [2]), (16, .A [1, 54]), (17, .A [2]), (18, .A [2])], []⟩
abbrev aI0 (F : Md) (g : Ex → Option qI) : List (FuncId × aF) := [(19, (aCv F g))]
theorem aP6 (F : Md) (g : Ex → Option qI) (hg : FOK Tryz.prog GL 8 (oU g)) : bG Tryz.prog GL (aI0 F g) := .cons (aRe F g hg) xAa (.nil)
attribute [go_sem] aGQ
theorem aNP (F : Md) (g : Ex → Option qI) (hg : FOK Tryz.prog GL 8 (oU g)) : FOK Tryz.prog GL 8 (mSpec aBd (.one .str) (fun x => cG F g x.1)) := by
 refine bN (aS (aP6 F g hg)) mix Tryz.func8 rfl xAa xAb aGQ fun w0 S x Θ hw h hF => ?_
 obtain ⟨(e_0 : Ex), u⟩ := x
 simp only [bQ, go_sem]
 replace h : sat (cG F g e_0) _ := h
 unfold cG at h
 refine dR h (fun hc h => ?_) fun hc h => ?_
 ·obtain ⟨v_44, hv, h⟩ := aJ h
  try simp only [hv, go_sem]
  refine aU h fun g0 h => ?_
  obtain ⟨v_45, hv, h⟩ := aJ h
  exact zaJ
 ·refine dR h (fun hc h => ?_) fun hc h => ?_
  ·obtain ⟨v_56, hv, h⟩ := aJ h
   try simp only [hv, go_sem]
   refine aU h fun g0 h => ?_
   obtain ⟨v_57, hv, h⟩ := aJ h
   exact zaJ
  ·refine dR h (fun hc h => ?_) fun hc h => ?_
   ·obtain ⟨v_68, hv, h⟩ := aJ h
    try simp only [hv, go_sem]
    refine aU h fun g0 h => ?_
    obtain ⟨v_69, hv, h⟩ := aJ h
    exact zaJ
   ·refine dR h (fun hc h => ?_) fun hc h => ?_
    ·obtain ⟨v_80, hv, h⟩ := aJ h
     try simp only [hv, go_sem]
     refine aU h fun g0 h => ?_
     obtain ⟨v_81, hv, h⟩ := aJ h
     exact zaJ
    ·refine dR h (fun hc h => ?_) fun hc h => ?_
     ·obtain ⟨v_85, hv, h⟩ := aJ h
      exact zaJ
     ·refine dR h (fun hc h => ?_) fun hc h => ?_
      ·obtain ⟨v_89, hv, h⟩ := aJ h
       try simp only [hv, go_sem]
       refine aU h fun g0 h => aU h fun g1 h => ?_
       exact zaB
      ·refine dR h (fun hc h => ?_) fun hc h => ?_
       ·obtain ⟨v_93, hv, h⟩ := aJ h
        try simp only [hv, go_sem]
        refine aU h fun g0 h => aU h fun g1 h => ?_
        exact zaB
       ·refine dR h (fun hc h => ?_) fun hc h => ?_
        ·obtain ⟨v_97, hv, h⟩ := aJ h
         try simp only [hv, go_sem]
         refine aU h fun g0 h => aU h fun g1 h => ?_
         exact zaB
        ·exact aG hF [.tmp 2] rfl rfl rfl (aC h) xAd
def cH (F : Md) : Nat → Ex → Option qI
 | 0 => fun _ => none
 | n + 1 => cG F (cH F n)
def nA (F : Md) (n : Nat) : aF := mSpec aBd (.one .str) (fun x => cH F n x.1)
theorem zI (F : Md) : ∀ n, FOK Tryz.prog GL 8 (nA F n)
 | 0 => fun _ _ _ _ _ _ _ hp => Bool.noConfusion (show false = true from hp)
 | n + 1 => aNP F _ (zI F n)
attribute [go_sem] nA
def mS (F : Md) (r_0 : qx) : Option qI :=
 if r_0.2.1 = (aP ⟨#[]⟩) then some r_0.1 else ck ((r_0.1.length) + (aP ⟨#[32]⟩).length ≤ 9223372036854775807) (ck ((r_0.1 ++ (aP ⟨#[32]⟩)).length + (r_0.2.1.length) ≤ 9223372036854775807) (some ((r_0.1 ++ (aP ⟨#[32]⟩)) ++ r_0.2.1)))
def aGR : PlR := ⟨[(0, .B [1]), (1, .A [1, 5]), (2, .A [2]), (3, .A [2])], []⟩
def aI1 : Ty := .pair qp .unit
def zJ (F : Md) : aF := mSpec aI1 (.one .str) (fun x => mS F x.1)
abbrev aP7 (F : Md) : List (FuncId × aF) := []
theorem aP8 (F : Md) : bG Tryz.prog GL (aP7 F) := .nil
attribute [go_sem] aI1 aGR
theorem aOy (F : Md) : FOK Tryz.prog GL 33 (zJ F) := by
 refine bN (aS (aP8 F)) mix Tryz.func33 rfl xAa xAb aGR fun w0 S x Θ hw h hF => ?_
 obtain ⟨(r_0 : qx), u⟩ := x
 simp only [bQ, go_sem]
 replace h : sat (mS F r_0) _ := h
 unfold mS at h
 refine dR h (fun hc h => ?_) fun hc h => ?_
 ·exact aG hF [.tmp 2] rfl rfl rfl (aC h) xAd
 ·refine aU h fun g0 h => aU h fun g1 h => ?_
  exact zaB
attribute [go_sem] zJ
end
end Nu
end Go.Proofs
namespace Go.Proofs
open Go.Shelf
def Tryz.lays156_ren : Go.Shelf.Ren := ⟨fun | 156 => 31 | 165 => 53 | 166 => 30 | 169 => 34 | 240 => 52 | 241 => 78 | 276 => 77 | 277 => 102 | n => n, fun | 31 => 25 | 9 => 9 | 3 => 3 | 4 => 4 | 0 => 0 | 20 => 20 | 72 => 61 | 76 => 64 | 70 => 58 | 37 => 59 | 75 => 63 | 127 => 104 | 164 => 132 | 5 => 5 | 80 => 85 | n => n, fun | n => n⟩
theorem Tryz.lays156 : Go.Proofs.Lays.n156 Tryz.prog Tryz.lays156_ren := {
 mixed := by kernel_rfl
 f156 := Tryz.func31.trans (congrArg some (by kernel_rfl))
 f165 := Tryz.func53.trans (congrArg some (by kernel_rfl))
 f166 := Tryz.func30.trans (congrArg some (by kernel_rfl))
 f169 := Tryz.func34.trans (congrArg some (by kernel_rfl))
 f240 := Tryz.func52.trans (congrArg some (by kernel_rfl))
 f241 := Tryz.func78.trans (congrArg some (by kernel_rfl))
 f276 := Tryz.func77.trans (congrArg some (by kernel_rfl))
 f277 := Tryz.func102.trans (congrArg some (by kernel_rfl))
 t0 := Tryz.underlying0
 a0 := Tryz.isAgg0
 z0 := Tryz.sizeOf0
 v0 := Tryz.zeroValue0
 t3 := Tryz.underlying3
 a3 := Tryz.isAgg3
 z3 := Tryz.sizeOf3
 v3 := Tryz.zeroValue3
 t4 := Tryz.underlying4
 a4 := Tryz.isAgg4
 z4 := Tryz.sizeOf4
 v4 := Tryz.zeroValue4
 t9 := Tryz.underlying9
 a9 := Tryz.isAgg9
 z9 := Tryz.sizeOf9
 v9 := Tryz.zeroValue9
 t20 := Tryz.underlying20
 a20 := Tryz.isAgg20
 z20 := Tryz.sizeOf20
 v20 := Tryz.zeroValue20
 t31 := Tryz.underlying25
 a31 := Tryz.isAgg25
 z31 := Tryz.sizeOf25
 v31 := Tryz.zeroValue25
 t37 := Tryz.underlying59
 a37 := Tryz.isAgg59
 z37 := Tryz.sizeOf59
 v37 := Tryz.zeroValue59
 t70 := Tryz.underlying58
 a70 := Tryz.isAgg58
 z70 := Tryz.sizeOf58
 v70 := Tryz.zeroValue58
 t72 := Tryz.underlying61
 a72 := Tryz.isAgg61
 z72 := Tryz.sizeOf61
 v72 := Tryz.zeroValue61
 t75 := Tryz.underlying63
 a75 := Tryz.isAgg63
 z75 := Tryz.sizeOf63
 v75 := Tryz.zeroValue63
 t76 := Tryz.underlying64
 a76 := Tryz.isAgg64
 z76 := Tryz.sizeOf64
 v76 := Tryz.zeroValue64
 t127 := Tryz.underlying104
 a127 := Tryz.isAgg104
 z127 := Tryz.sizeOf104
 v127 := Tryz.zeroValue104
 t164 := Tryz.underlying132
 a164 := Tryz.isAgg132
 z164 := Tryz.sizeOf132
 v164 := Tryz.zeroValue132 }
theorem Tryz.bx156 : Builder.Extra Tryz.prog Tryz.lays156_ren where
 sizeBuilder := by kernel_rfl
 liesBuilder := by kernel_rfl
 t5 := Tryz.underlying5
 a5 := Tryz.isAgg5
 z5 := Tryz.sizeOf5
 v5 := Tryz.zeroValue5
 infoByte := by kernel_rfl
 cellsByte := by kernel_rfl
 sizeByte := by kernel_rfl
 neB5 := by decide
open Go.Vc
set_option maxRecDepth 20000
namespace Nu
noncomputable section
def rE (F : Md) (o : Bool × List Nat) : Option (Bool × List Nat) := some (false, o.2)
def lW (F : Md) : iE where
 D := qw × qw
 av := fun d => [.ptr 0 []]
 hp := fun d => [.box 4294967357 (.agg [pk d.1.1 0, .own 1]), .row 5 qr d.1.2]
 m := 1
 pre := fun d => rE F d.1 = some d.2
 out := fun d => (fun r : qw => .ret (.tup []) [.box 4294967357 (.agg [pk (r).1 0, .own 1]), .row 5 qr (r).2]) d.2
attribute [go_sem] lW
def tX (F : Md) (o : Bool × List Nat) : Option qI := some o.2
def jS (F : Md) : iE where
 D := qw × qI
 av := fun d => [.ptr 0 []]
 hp := fun d => [.box 4294967357 (.agg [pk d.1.1 0, .own 1]), .row 5 qr d.1.2]
 m := 1
 pre := fun d => tX F d.1 = some d.2
 out := fun d => (fun r : qI => .ret (.val .str r) [.dead]) d.2
attribute [go_sem] jS
theorem aRf {b : Nat} {c : Ctx} {w : World} {vs : Array Value} (hl : vs.toList.length = 1) (hb : c.hd 0 = .pointer (some ⟨b, 0, none⟩)) (hv : ∀ (h2 : 0 < vs.toList.length), aQ c w (.ptr 0 []) vs.toList[0]) : vs = #[.pointer (some ⟨b, 0, none⟩)] := by
 obtain ⟨_, b', hb', e⟩ := aB9 (hv (by omega))
 rw [hb] at hb'
 simp only [aN, Option.some.injEq] at hb'
 subst hb'
 rw [← Array.toList_inj]
 refine List.ext_getElem hl fun i a1 a2 => ?_
 match i, a2 with
 | 0, _ => exact e
theorem aAr (F : Md) : GOK Tryz.prog GL 52 (lW F) := by
 rintro c w ⟨⟨b, xs⟩, r⟩ vs hpre ⟨good, glob, len, val⟩
 obtain rfl : (false, xs) = r := Option.some.inj hpre
 obtain ⟨B, q1, q2, q3⟩ := aMM good (i := 0) (j := 1) (tb := 61) rfl rfl
 have hvs := aRf len q1 (fun h2 => val 0 (by show 0 < 1; decide) h2)
 rw [hvs]
 have hr : aQ c w (.tup []) (.tuple #[]) := ⟨[], rfl, rfl, fun i h1 _ => by cases h1⟩
 cases b with
 | true =>
  refine Calls.mono (f := 52) (Any.Builder_copyCheck_fresh { Tryz.lays156 with } Tryz.bx156.toX72 B w (by rw [Lib.cell_of_heap q2]; rfl) (by simp [World.shape?, q2]; rfl) (Lib.frozen_of_heap q2 0)) ?_
  rintro e w' ⟨rfl, rfl⟩
  exact ⟨c, .tuple #[], rfl, aVp good (i := 0) (j := 1) (tb := 61) rfl rfl q1, ⟨[], rfl, rfl, fun i h1 _ => by cases h1⟩⟩
 | false =>
  refine Calls.mono (f := 52) (Any.Builder_copyCheck_used { Tryz.lays156 with } Tryz.bx156.toX72 B w (by rw [Lib.cell_of_heap q2]; rfl)) ?_
  rintro e w' ⟨rfl, rfl⟩
  exact ⟨c, .tuple #[], rfl, good, hr⟩
theorem aB4 (F : Md) : GOK Tryz.prog GL 34 (jS F) := by
 rintro c w ⟨⟨b, xs⟩, r⟩ vs hpre ⟨good, glob, len, val⟩
 obtain rfl : xs = r := Option.some.inj hpre
 obtain ⟨B, q1, q2, q3⟩ := aMM good (i := 0) (j := 1) (tb := 61) rfl rfl
 have hvs := aRf len q1 (fun h2 => val 0 (by show 0 < 1; decide) h2)
 rw [hvs]
 obtain ⟨l, hx, hl⟩ := aTX q3
 have hlm : l.length ≤ maxLen := by
  rcases hl with ⟨_, rfl⟩ | ⟨g, cap, cur, _, _, h1, h2, _⟩
  ·exact Nat.zero_le _
  ·exact Nat.le_trans h1 h2
 have hfin : ∀ (g : Option Nat) (w' : World), (∀ b', g = some b' → aN (c.hd 1) = some b') → w.grownBy w' g → aHW (jS F) c w ((b, xs), xs) (.returned (.string ⟨l.toArray⟩)) w' := fun g w' hg hgr => by
  refine ⟨⟨c.S, c.hd, 1, c.bl⟩, .string ⟨l.toArray⟩, rfl, aVq good (i := 0) (j := 1) rfl rfl rfl hgr hg, ?_, (fun h => by cases h), fun _ cs => by simp⟩
  show aT w' c.S .str xs [.string ⟨l.toArray⟩]
  exact ⟨_, rfl, (by simp only [aP]; exact hx.symm), hlm⟩
 rcases hl with ⟨e1, rfl⟩ | ⟨g, cap, cur, e1, hg, hnc, hcm, hcs, hcell⟩
 ·rw [e1] at q2
  refine Calls.mono (f := 34) (aRV { Tryz.lays156 with } Tryz.bx156 B _ w q2) ?_
  rintro e w' ⟨rfl, hgr⟩
  exact hfin _ _ (fun _ h => by cases h) hgr
 ·rw [e1] at q2
  by_cases h0 : l = []
  ·subst h0
   by_cases hc0 : cap = 0
   ·subst hc0
    refine Calls.mono (f := 34) (aN8 { Tryz.lays156 with } Tryz.bx156 B g _ cur w q2 hg) ?_
    rintro e w' ⟨rfl, hgr⟩
    exact hfin _ _ (fun _ h => by cases h) hgr
   ·refine Calls.mono (f := 34) (aQS { Tryz.lays156 with } Tryz.bx156 B g cap _ w hc0 q2) ?_
    rintro e w' ⟨rfl, hgr⟩
    exact hfin _ _ (fun _ h => by cases h) hgr
  ·refine Calls.mono (f := 34) (aQR { Tryz.lays156 with } Tryz.bx156 B g cap _ cur l w h0 q2 hg hnc hcm hcs hcell) ?_
   rintro e w' ⟨rfl, hgr⟩
   exact hfin _ _ (fun b' h => by cases h; rw [e1]; rfl) hgr
def aEF (xs : List qI) (sep : List Nat) : List Nat := sep.intercalate xs
def aS5 (xs : List qI) (sep : List Nat) : Prop := xs.length ≤ 140737488355328 ∧ (aEF xs sep).length ≤ 140737488355328
instance (xs : List qI) (sep : List Nat) : Decidable (aS5 xs sep) := by unfold aS5; infer_instance
theorem aO9 {s : ByteArray} {x : List Nat} (h : aP s = x) : s.data.toList = x.map UInt8.ofNat := by
 subst h
 simp [aP, List.map_map, Function.comp_def]
theorem aRg {α β : Type} (f : α → β) (sep : List α) : ∀ xs : List (List α), (sep.intercalate xs).map f = (sep.map f).intercalate (xs.map (List.map f))
 | [] => rfl
 | [x] => by simp [List.intercalate]
 | x :: y :: r => by
  have := aRg f sep (y :: r)
  simp only [List.intercalate, List.intersperse, List.flatten_cons, List.map_append, List.map_cons] at this ⊢
  rw [this]
def aFN : Ty := .pair qu wd
def uR : aF := ⟨aFN, .one .str, fun x => aS5 x.1 x.2.1, fun x => aEF x.1 x.2.1⟩
attribute [go_sem] uR aFN
theorem aLD : FOK Tryz.prog GL 31 uR := by
 rintro w S vs ⟨xs, sep, u⟩ hS hG ⟨v, vs', e1, h1, v2, vs2, e2, h2, e3⟩ ⟨p1, p2⟩
 have h1 : aT w S qu xs [v] := h1
 obtain ⟨a, len, cap, ev, hl, hlc, hcm, hr⟩ := h1
 have h2 : aT w S .str sep [v2] := h2
 obtain ⟨s, es, hs, hsz⟩ := h2
 have hl : xs.length = len := hl
 have e3 : vs2 = [] := e3
 have hvs : vs = #[.slice a len cap, .string s] := by
  rw [← Array.toList_inj, e1, e2, e3, (List.cons.inj ev).1, (List.cons.inj es).1]
 rw [hvs]
 have hres : ∀ (t : List UInt8) (w' : World), t.map (·.toNat) = aEF xs sep → cR w' (fun b => S b ∨ (w.heap.size ≤ b ∧ b < w'.heap.size)) .str (aEF xs sep) (.string ⟨t.toArray⟩) := fun t w' ht => by
  show aT w' (fun b => S b ∨ (w.heap.size ≤ b ∧ b < w'.heap.size)) .str (aEF xs sep) [.string ⟨t.toArray⟩]
  refine ⟨_, rfl, by simp [aP, ht], ?_⟩
  have : t.length = (aEF xs sep).length := by rw [← ht, List.length_map]
  have hp : (aEF xs sep).length ≤ 140737488355328 := p2
  show t.length ≤ maxLen
  unfold maxLen
  omega
 rcases hr with hr | ⟨b, off, ea, hb, hc⟩
 ·have hr : xs = [] := hr
  subst hr
  have hl0 : len = 0 := hl.symm
  subst hl0
  refine Calls.mono (f := 31) (Any.strings_Join_none Tryz.lays156 Tryz.bx156 a cap s w) ?_
  rintro e w' ⟨rfl, rfl⟩
  exact ⟨.string ⟨#[]⟩, rfl, .refl _ _, hres [] w' rfl⟩
 ·have ex : xs = (xs.map (fun l => (⟨(l.map UInt8.ofNat).toArray⟩ : ByteArray))).map aP := by
   rw [List.map_map]
   apply List.ext_getElem
   ·simp
   ·intro i h1 h2
    obtain ⟨ds, hd, _⟩ := hc i h1
    obtain ⟨s', _, hs', _⟩ := hd
    have hb := aO9 hs'
    simp only [List.getElem_map, Function.comp]
    show xs[i] = List.map _ ((xs[i]).map UInt8.ofNat)
    rw [← hb]; exact hs'.symm
  subst ea
  have hcells : ∀ (j : Nat) x, (xs.map (fun l => (⟨(l.map UInt8.ofNat).toArray⟩ : ByteArray)))[j]? = some x → w.cell? ⟨b, off + j, none⟩ = some (.string x) := fun j x hx => by
   have hj : j < xs.length := by
    rcases Nat.lt_or_ge j xs.length with h | h
    ·exact h
    ·rw [List.getElem?_eq_none (by simpa using h)] at hx; cases hx
   obtain ⟨ds, hd, hcell⟩ := hc j hj
   obtain ⟨s', hds, hs', _⟩ := hd
   have hds : ds = [.string s'] := hds
   have := hcell 0 (.string s') (by rw [hds]; rfl)
   rw [List.getElem?_map, List.getElem?_eq_getElem hj] at hx
   have hx : (⟨((xs[j]).map UInt8.ofNat).toArray⟩ : ByteArray) = x := Option.some.inj hx
   rw [← hx, ← aO9 hs']
   simpa [Ty.cells] using this
  have hsd : s.data.toList.map (·.toNat) = sep := hs
  have hj : (Lib.join ((xs.map (fun l => (⟨(l.map UInt8.ofNat).toArray⟩ : ByteArray))).map (·.data.toList)) s.data.toList).map (·.toNat) = aEF xs sep := by
   unfold Lib.join aEF
   rw [aRg, hsd]
   congr 1
   conv => rhs; rw [ex]
   simp only [List.map_map]
   rfl
  have key := Any.strings_Join Tryz.lays156 Tryz.bx156 b off cap (xs.map (fun l => (⟨(l.map UInt8.ofNat).toArray⟩ : ByteArray))) s w hcells (hS b hb) (by rw [List.length_map]; exact p1) (by rw [List.length_map, hl]; exact hlc) (by
   have := congrArg List.length hj
   rw [List.length_map] at this
   rw [this]; exact p2)
  rw [List.length_map, hl] at key
  refine Calls.mono (f := 31) key ?_
  rintro e w' ⟨rfl, hbel⟩
  exact ⟨_, rfl, fJ.of_below hbel, hres _ w' hj⟩
end
end Nu
end Go.Proofs
