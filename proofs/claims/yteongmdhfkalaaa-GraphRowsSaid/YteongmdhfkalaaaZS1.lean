import Derived.Test.YteongmdhfkalaaaZL4
import Derived.Test.YteongmdhfkalaaaProg
import Derived.KernelRfl
set_option linter.unusedVariables false
set_option linter.unusedSimpArgs false
namespace Go.Proofs
open Go.Vc
namespace Gr
def tab : List (TypeId × Ty) := [(3, .i .i64), (4, .bool), (22, .sl (.i .i64)), (23, .sl (.sl (.sl (.i .i64)))), (24, .sl (.sl (.arr 2 (.i .i64)))), (27, .sl (.arr 2 (.i .i64))), (30, .arr 2 (.i .i64)), (33, .sl (.sl (.i .i64)))]
def elT : TypeId → TypeId
 | 22 => 3
 | 23 => 33
 | 24 => 27
 | 27 => 30
 | 33 => 22
 | _ => 0
theorem tabOK : TabOK Try.prog (look2 tab) := tabOK_of (by kernel_rfl)
theorem elOK : ∀ t ct, look2 tab t = some (.sl ct) → Try.prog.underlying t = some (.slice (elT t)) := by
 intro t ct h
 have := look2_mem h
 simp only [tab, List.mem_cons, Prod.mk.injEq, reduceCtorEq, and_false, false_or, List.not_mem_nil, or_false] at this
 rcases this with ⟨rfl, _⟩ | ⟨rfl, _⟩ | ⟨rfl, _⟩ | ⟨rfl, _⟩ | ⟨rfl, _⟩ <;> rfl
def mpT : TypeId → Option (TypeId × TypeId)
 | 38 => some (30, 4)
 | _ => none
theorem mpOK : ∀ t k e, mpT t = some (k, e) → Try.prog.underlying t = some (.map k e) := by
 intro t k e h
 unfold mpT at h
 split at h
 ·cases h; rfl
 ·cases h
def E0 : Env := ⟨look2 tab, fun _ => .junk, fun _ _ => none, elT, mpT⟩
theorem mix : Try.prog.follows .mixedOrders = true := by kernel_rfl
def args3 : Ty := .pair (.sl (.i .i64)) (.pair (.sl (.sl (.sl (.i .i64)))) (.pair (.sl (.sl (.arr 2 (.i .i64)))) .unit))
theorem T3 : E0.T 3 = some (.i .i64) := rfl
theorem T4 : E0.T 4 = some (.bool) := rfl
theorem T22 : E0.T 22 = some (.sl (.i .i64)) := rfl
theorem T23 : E0.T 23 = some (.sl (.sl (.sl (.i .i64)))) := rfl
theorem T24 : E0.T 24 = some (.sl (.sl (.arr 2 (.i .i64)))) := rfl
theorem T27 : E0.T 27 = some (.sl (.arr 2 (.i .i64))) := rfl
theorem T30 : E0.T 30 = some (.arr 2 (.i .i64)) := rfl
theorem T33 : E0.T 33 = some (.sl (.sl (.i .i64))) := rfl
theorem all_step {α : Type} (l : List α) (p : α → Bool) (n : Nat) (d : α) (h : n < l.length) : (l.take (n + 1)).all p = ((l.take n).all p && p (l.getD n d)) := by
 rw [List.take_succ_eq_append_getElem h, List.all_append, List.getD_eq_getElem?_getD, List.getElem?_eq_getElem h]; simp
theorem all_false {α : Type} (l : List α) (p : α → Bool) (n : Nat) (d : α) (h : n < l.length) (hp : p (l.getD n d) = false) : l.all p = false := by
 rw [List.all_eq_false]
 rw [List.getD_eq_getElem?_getD, List.getElem?_eq_getElem h] at hp
 exact ⟨l[n], List.getElem_mem h, by simpa using hp⟩
theorem all_end {α : Type} (l : List α) (p : α → Bool) (n : Nat) (h : l.length ≤ n) : (l.take n).all p = l.all p := by
 rw [List.take_of_length_le h]
end Gr
end Go.Proofs
namespace Go.Proofs
open Go.Vc
namespace Gr
theorem range_step (p : Nat → Bool) (n : Nat) : (List.range (n + 1)).all p = ((List.range n).all p && p n) := by
 rw [List.range_succ, List.all_append]; simp
theorem range_false (p : Nat → Bool) {n m : Nat} (h : n < m) (hp : p n = false) : (List.range m).all p = false := by
 rw [List.all_eq_false]
 exact ⟨n, List.mem_range.2 h, by simpa using hp⟩
theorem mem_getD {α : Type} {l : List α} {n : Nat} (d : α) (h : n < l.length) : l.getD n d ∈ l := by
 rw [List.getD_eq_getElem?_getD, List.getElem?_eq_getElem h]; exact List.getElem_mem h
def okI (frm : List (List (List Int))) (s : Nat) (i : Int) : Bool := decide (0 ≤ i) && decide (i < (frm.getD s []).length)
def okX (outs : List Int) (o : List Int) : Bool := decide (0 ≤ o.getD 0 0) && decide (o.getD 0 0 < outs.length) && decide (0 ≤ o.getD 1 0) && decide (o.getD 1 0 < outs.getD (o.getD 0 0).toNat 0)
def okA (outs : List Int) (uses : List (List (List Int))) (s : Nat) : Bool := decide (0 ≤ outs.getD s 0) && decide (outs.getD s 0 ≤ 64) && decide (((uses.getD s []).length : Int) = outs.getD s 0)
def okS (outs : List Int) (uses : List (List (List Int))) (frm : List (List (List Int))) (s : Nat) : Bool :=
 okA outs uses s && (uses.getD s []).all (fun l => l.all (okI frm s)) && (frm.getD s []).all (okX outs)
def mayG (outs : List Int) (uses : List (List (List Int))) (frm : List (List (List Int))) : Bool :=
 decide (outs.length ≤ 16) && decide (uses.length = outs.length) && decide (frm.length = outs.length) && (List.range outs.length).all (okS outs uses frm)
def e3 (outs : List Int) (uses : List (List (List Int))) (frm : List (List (List Int))) : St := [(0, .val (.sl (.i .i64)) outs), (1, .val (.sl (.sl (.sl (.i .i64)))) uses), (2, .val (.sl (.sl (.arr 2 (.i .i64)))) frm)]
end Gr
end Go.Proofs
namespace Go.Proofs
open Go.Vc
namespace Gr
def EL (l : List (FuncId × FSpec)) : Env := ⟨look2 tab, fun _ => .junk, fun f _ => gam l f, elT, mpT⟩
theorem EL_T (l : List (FuncId × FSpec)) (t : TypeId) : (EL l).T t = E0.T t := rfl
theorem EL_G (l : List (FuncId × FSpec)) (t : Nat) : (EL l).G t = .junk := rfl
theorem EL_Γ (l : List (FuncId × FSpec)) (f : FuncId) (vs : List AV) : (EL l).Γ f vs = gam l f := rfl
theorem EL_el (l : List (FuncId × FSpec)) (t : TypeId) : (EL l).el t = elT t := rfl
theorem EL_ok {l : List (FuncId × FSpec)} (h : Known Try.prog (fun _ => .junk) l) : EnvOK Try.prog (EL l) := envOK_of tabOK elOK mpOK h
def capT : Ty := .pair (.rp (.sl (.sl (.arr 2 (.i .i64))))) (.pair (.rp (.i .i64)) .unit)
def sp13 : FSpec := ⟨.pair (.i .i64) capT, .one .bool, fun x => 0 ≤ x.2.2.1 ∧ x.2.2.1 < x.2.1.length, fun x => !(okI x.2.1 x.2.2.1.toNat x.1)⟩
theorem f13_ok : FOK Try.prog (fun _ => .junk) 13 sp13 := by
 refine fok_of (EL_ok .nil) Try.func13 rfl (by kernel_rfl) (by decide) fun w0 S x hw hp => ?_
 obtain ⟨i, frm, s, u⟩ := x
 have hF : FrOK (fr Try.prog (EL []) S w0 Try.f13.ntmps) := ⟨EL_ok .nil, mix⟩
 simp only [args0, sp13, capT] at hp ⊢
 repeat (first | refine at_next ?_ | refine at_then_exit ?_ | refine at_then_ret ?_ | refine at_block_norm ?_ | refine at_block_ret ?_ | refine at_block_exit ?_ | refine at_block_other (by decide) ?_ | refine at_then_norm ?_ | refine tri_seq ?_ | refine tri_skip ?_ | refine tri_label ?_ | refine tri_exit ?_ | refine tri_ret ?_ | refine tri_block ?_)
 (refine tri_region hF [0, 1, 2] ?_; simp only [go_sem, T3, T4, T22, T23, T24, T27, T30, T33, EL_T, EL_G, EL_Γ, EL_el, capT])
 repeat (first | refine at_next ?_ | refine at_then_exit ?_ | refine at_then_ret ?_ | refine at_block_norm ?_ | refine at_block_ret ?_ | refine at_block_exit ?_ | refine at_block_other (by decide) ?_ | refine at_then_norm ?_ | refine tri_seq ?_ | refine tri_skip ?_ | refine tri_label ?_ | refine tri_exit ?_ | refine tri_ret ?_ | refine tri_block ?_)
 (refine tri_region hF [4] ?_; simp only [go_sem, T3, T4, T22, T23, T24, T27, T30, T33, EL_T, EL_G, EL_Γ, EL_el, capT])
 repeat (refine ⟨by first | omega | (intros; omega) | exact ⟨_, rfl, rfl⟩ | exact ⟨_, rfl, rfl, rfl⟩ | (intros; exact ⟨_, rfl, rfl⟩) | (intros; exact ⟨_, rfl, rfl, rfl⟩) | (intro hside; simp only [Bool.or_eq_true, Bool.or_eq_false_iff, Bool.and_eq_true, decide_eq_true_eq, decide_eq_false_iff_not] at hside; omega), ?_⟩)
 repeat (first | refine at_next ?_ | refine at_then_exit ?_ | refine at_then_ret ?_ | refine at_block_norm ?_ | refine at_block_ret ?_ | refine at_block_exit ?_ | refine at_block_other (by decide) ?_ | refine at_then_norm ?_ | refine tri_seq ?_ | refine tri_skip ?_ | refine tri_label ?_ | refine tri_exit ?_ | refine tri_ret ?_ | refine tri_block ?_)
 (refine at_ret [4] rfl rfl rfl ?_; simp only [retOK, as_val, List.map_nil, go_sem, T3, T4, T22, T23, T24, T27, T30, T33, EL_T, EL_G, EL_Γ, EL_el, capT])
 simp only [okI, Bool.not_and]
 congr 1 <;> (rw [Bool.eq_iff_iff]; simp only [decide_eq_true_eq, Bool.not_eq_true', decide_eq_false_iff_not]; omega)
def gl1 : List (FuncId × FSpec) := [(13, sp13)]
theorem G1_13 : gam gl1 13 = some ⟨.pair (.i .i64) capT, .one .bool, fun x => 0 ≤ x.2.2.1 ∧ x.2.2.1 < x.2.1.length, fun x => !(okI x.2.1 x.2.2.1.toNat x.1)⟩ := rfl
theorem K13 : Known Try.prog (fun _ => .junk) gl1 := .cons f13_ok (by kernel_rfl) .nil
def idx {α : Type} (p : α → Bool) (l : List α) : Int := if l.any p then (l.findIdx p : Int) else -1
theorem idx_at {α : Type} {p : α → Bool} {l : List α} {n : Nat} (d : α) (h0 : (l.take n).any p = false) (hn : n < l.length) (hp : p (l.getD n d) = true) : idx p l = (n : Int) := by
 rw [List.getD_eq_getElem?_getD, List.getElem?_eq_getElem hn] at hp
 have hp : p l[n] = true := hp
 have h1 : l.any p = true := List.any_eq_true.2 ⟨l[n], List.getElem_mem hn, hp⟩
 have h2 : l.findIdx p = n := by
  rw [List.findIdx_eq hn]
  refine ⟨hp, fun j hj => ?_⟩
  rw [List.any_eq_false] at h0
  have := h0 (l[j]'(by omega)) (by
   rw [List.mem_take_iff_getElem]
   exact ⟨j, by omega, rfl⟩)
  simpa using this
 simp [idx, h1, h2]
theorem idx_none {α : Type} {p : α → Bool} {l : List α} {n : Nat} (h0 : (l.take n).any p = false) (hn : l.length ≤ n) : idx p l = -1 := by
 rw [List.take_of_length_le hn] at h0
 simp [idx, h0]
theorem any_step {α : Type} (l : List α) (p : α → Bool) (n : Nat) (d : α) (h : n < l.length) : (l.take (n + 1)).any p = ((l.take n).any p || p (l.getD n d)) := by
 rw [List.take_succ_eq_append_getElem h, List.any_append, List.getD_eq_getElem?_getD, List.getElem?_eq_getElem h]; simp
theorem idx_any {α : Type} {p : α → Bool} {l : List α} : decide (0 ≤ idx p l) = l.any p := by
 unfold idx
 cases l.any p <;> simp
def sp14 : FSpec := ⟨.pair (.sl (.i .i64)) (.pair (.clo 13 capT) .unit), .one (.i .i64), fun x => 0 ≤ x.2.1.2.1 ∧ x.2.1.2.1 < x.2.1.1.length, fun x => idx (fun i => !(okI x.2.1.1 x.2.1.2.1.toNat i)) x.1⟩
theorem f14_ok : FOK Try.prog (fun _ => .junk) 14 sp14 := by
 refine fok_of (EL_ok K13) Try.func14 rfl (by kernel_rfl) (by decide) fun w0 S x hw hp => ?_
 obtain ⟨l, ⟨frm, s, u⟩, u'⟩ := x
 simp only [sp14, capT, Ty.wf] at hw
 have hF : FrOK (fr Try.prog (EL gl1) S w0 Try.f14.ntmps) := ⟨EL_ok K13, mix⟩
 simp only [args0, sp14] at hp ⊢
 repeat (first | refine at_next ?_ | refine at_then_exit ?_ | refine at_then_ret ?_ | refine at_block_norm ?_ | refine at_block_ret ?_ | refine at_block_exit ?_ | refine at_block_other (by decide) ?_ | refine at_then_norm ?_ | refine tri_seq ?_ | refine tri_skip ?_ | refine tri_label ?_ | refine tri_exit ?_ | refine tri_ret ?_ | refine tri_block ?_)
 (refine tri_region hF [0, 1] ?_; simp only [go_sem, T3, T4, T22, T23, T24, T27, T30, T33, EL_T, EL_G, EL_Γ, EL_el, capT, G1_13])
 repeat (first | refine at_next ?_ | refine at_then_exit ?_ | refine at_then_ret ?_ | refine at_block_norm ?_ | refine at_block_ret ?_ | refine at_block_exit ?_ | refine at_block_other (by decide) ?_ | refine at_then_norm ?_ | refine tri_seq ?_ | refine tri_skip ?_ | refine tri_label ?_ | refine tri_exit ?_ | refine tri_ret ?_ | refine tri_block ?_)
 (refine tri_region hF [0, 1, 7, 8] ?_; simp only [go_sem, T3, T4, T22, T23, T24, T27, T30, T33, EL_T, EL_G, EL_Γ, EL_el, capT, G1_13])
 repeat (first | refine at_next ?_ | refine at_then_exit ?_ | refine at_then_ret ?_ | refine at_block_norm ?_ | refine at_block_ret ?_ | refine at_block_exit ?_ | refine at_block_other (by decide) ?_ | refine at_then_norm ?_ | refine tri_seq ?_ | refine tri_skip ?_ | refine tri_label ?_ | refine tri_exit ?_ | refine tri_ret ?_ | refine tri_block ?_)
 refine tri_loop (D := Int) (fun i => 0 ≤ i ∧ i ≤ l.length ∧ (l.take i.toNat).any (fun i => !(okI frm s.toNat i)) = false) (fun i => (l.length - i).toNat) (fun i => [(0, .val (.sl (.i .i64)) l), (1, .val (.clo 13 capT) (frm, s, ())), (7, .val (.i .i64) l.length), (8, .val (.i .i64) i)]) (fun _ => []) (at_fit 0 ?_ rfl ?_) ?_
 ·simp
 ·simp only [fitE, fitV, as_val, true_or, List.map_nil, and_self, go_sem, T3, T4, T22, T23, T24, T27, T30, T33, EL_T, EL_G, EL_Γ, EL_el, capT, G1_13]
 rintro i ⟨hi0, hi1, hi2⟩
 repeat (first | refine at_next ?_ | refine at_then_exit ?_ | refine at_then_ret ?_ | refine at_block_norm ?_ | refine at_block_ret ?_ | refine at_block_exit ?_ | refine at_block_other (by decide) ?_ | refine at_then_norm ?_ | refine tri_seq ?_ | refine tri_skip ?_ | refine tri_label ?_ | refine tri_exit ?_ | refine tri_ret ?_ | refine tri_block ?_)
 (refine tri_region hF [0, 1, 7, 8, 9] ?_; simp only [go_sem, T3, T4, T22, T23, T24, T27, T30, T33, EL_T, EL_G, EL_Γ, EL_el, capT, G1_13])
 repeat (first | refine at_next ?_ | refine at_then_exit ?_ | refine at_then_ret ?_ | refine at_block_norm ?_ | refine at_block_ret ?_ | refine at_block_exit ?_ | refine at_block_other (by decide) ?_ | refine at_then_norm ?_ | refine tri_seq ?_ | refine tri_skip ?_ | refine tri_label ?_ | refine tri_exit ?_ | refine tri_ret ?_ | refine tri_block ?_)
 refine tri_cond rfl (fun hc => ?_) (fun hc => ?_) <;> try simp only [Bool.or_eq_true, Bool.or_eq_false_iff, Bool.and_eq_true, decide_eq_true_eq, decide_eq_false_iff_not, Int.not_lt, Int.not_le, Bool.not_eq_true', Bool.not_eq_false'] at hc
 ·repeat (first | refine at_next ?_ | refine at_then_exit ?_ | refine at_then_ret ?_ | refine at_block_norm ?_ | refine at_block_ret ?_ | refine at_block_exit ?_ | refine at_block_other (by decide) ?_ | refine at_then_norm ?_ | refine tri_seq ?_ | refine tri_skip ?_ | refine tri_label ?_ | refine tri_exit ?_ | refine tri_ret ?_ | refine tri_block ?_)
  (refine tri_region hF [0, 1, 5, 7, 8] ?_; simp only [go_sem, T3, T4, T22, T23, T24, T27, T30, T33, EL_T, EL_G, EL_Γ, EL_el, capT, G1_13])
  repeat (first | refine at_next ?_ | refine at_then_exit ?_ | refine at_then_ret ?_ | refine at_block_norm ?_ | refine at_block_ret ?_ | refine at_block_exit ?_ | refine at_block_other (by decide) ?_ | refine at_then_norm ?_ | refine tri_seq ?_ | refine tri_skip ?_ | refine tri_label ?_ | refine tri_exit ?_ | refine tri_ret ?_ | refine tri_block ?_)
  (refine tri_region hF [0, 1, 5, 7, 8, 16] ?_; simp only [go_sem, T3, T4, T22, T23, T24, T27, T30, T33, EL_T, EL_G, EL_Γ, EL_el, capT, G1_13])
  repeat (refine ⟨by first | omega | (intros; omega) | exact ⟨_, rfl, rfl⟩ | exact ⟨_, rfl, rfl, rfl⟩ | (intros; exact ⟨_, rfl, rfl⟩) | (intros; exact ⟨_, rfl, rfl, rfl⟩) | (intro hside; simp only [Bool.or_eq_true, Bool.or_eq_false_iff, Bool.and_eq_true, decide_eq_true_eq, decide_eq_false_iff_not] at hside; omega), ?_⟩)
  have hin : i.toNat < l.length := by omega
  repeat (first | refine at_next ?_ | refine at_then_exit ?_ | refine at_then_ret ?_ | refine at_block_norm ?_ | refine at_block_ret ?_ | refine at_block_exit ?_ | refine at_block_other (by decide) ?_ | refine at_then_norm ?_ | refine tri_seq ?_ | refine tri_skip ?_ | refine tri_label ?_ | refine tri_exit ?_ | refine tri_ret ?_ | refine tri_block ?_)
  refine tri_cond rfl (fun hc => ?_) (fun hc => ?_) <;> try simp only [Bool.or_eq_true, Bool.or_eq_false_iff, Bool.and_eq_true, decide_eq_true_eq, decide_eq_false_iff_not, Int.not_lt, Int.not_le, Bool.not_eq_true', Bool.not_eq_false'] at hc
  ·repeat (first | refine at_next ?_ | refine at_then_exit ?_ | refine at_then_ret ?_ | refine at_block_norm ?_ | refine at_block_ret ?_ | refine at_block_exit ?_ | refine at_block_other (by decide) ?_ | refine at_then_norm ?_ | refine tri_seq ?_ | refine tri_skip ?_ | refine tri_label ?_ | refine tri_exit ?_ | refine tri_ret ?_ | refine tri_block ?_)
   (refine tri_region hF [4] ?_; simp only [go_sem, T3, T4, T22, T23, T24, T27, T30, T33, EL_T, EL_G, EL_Γ, EL_el, capT, G1_13])
   repeat (first | refine at_next ?_ | refine at_then_exit ?_ | refine at_then_ret ?_ | refine at_block_norm ?_ | refine at_block_ret ?_ | refine at_block_exit ?_ | refine at_block_other (by decide) ?_ | refine at_then_norm ?_ | refine tri_seq ?_ | refine tri_skip ?_ | refine tri_label ?_ | refine tri_exit ?_ | refine tri_ret ?_ | refine tri_block ?_)
   (refine at_ret [4] rfl rfl rfl ?_; simp only [retOK, as_val, List.map_nil, go_sem, T3, T4, T22, T23, T24, T27, T30, T33, EL_T, EL_G, EL_Γ, EL_el, capT, G1_13])
   rw [idx_at 0 hi2 hin (by simpa using hc)]; omega
  ·have hlen := hw.1.1
   simp only [maxLen_eq] at hlen
   repeat (first | refine at_next ?_ | refine at_then_exit ?_ | refine at_then_ret ?_ | refine at_block_norm ?_ | refine at_block_ret ?_ | refine at_block_exit ?_ | refine at_block_other (by decide) ?_ | refine at_then_norm ?_ | refine tri_seq ?_ | refine tri_skip ?_ | refine tri_label ?_ | refine tri_exit ?_ | refine tri_ret ?_ | refine tri_block ?_)
   (refine tri_region hF [0, 1, 7, 8] ?_; simp only [go_sem, T3, T4, T22, T23, T24, T27, T30, T33, EL_T, EL_G, EL_Γ, EL_el, capT, G1_13])
   repeat (refine ⟨by first | omega | (intros; omega) | exact ⟨_, rfl, rfl⟩ | exact ⟨_, rfl, rfl, rfl⟩ | (intros; exact ⟨_, rfl, rfl⟩) | (intros; exact ⟨_, rfl, rfl, rfl⟩) | (intro hside; simp only [Bool.or_eq_true, Bool.or_eq_false_iff, Bool.and_eq_true, decide_eq_true_eq, decide_eq_false_iff_not] at hside; omega), ?_⟩)
   repeat (first | refine at_next ?_ | refine at_then_exit ?_ | refine at_then_ret ?_ | refine at_block_norm ?_ | refine at_block_ret ?_ | refine at_block_exit ?_ | refine at_block_other (by decide) ?_ | refine at_then_norm ?_ | refine tri_seq ?_ | refine tri_skip ?_ | refine tri_label ?_ | refine tri_exit ?_ | refine tri_ret ?_ | refine tri_block ?_)
   refine at_fit (i + 1) ⟨⟨by omega, by omega, ?_⟩, by omega⟩ rfl ?_
   ·rw [show (i + 1).toNat = i.toNat + 1 from by omega, any_step _ _ _ 0 hin, hi2, Bool.false_or]; simpa using hc
   ·simp only [fitE, fitV, as_val, true_or, List.map_nil, and_self, go_sem, T3, T4, T22, T23, T24, T27, T30, T33, EL_T, EL_G, EL_Γ, EL_el, capT, G1_13]
 ·repeat (first | refine at_next ?_ | refine at_then_exit ?_ | refine at_then_ret ?_ | refine at_block_norm ?_ | refine at_block_ret ?_ | refine at_block_exit ?_ | refine at_block_other (by decide) ?_ | refine at_then_norm ?_ | refine tri_seq ?_ | refine tri_skip ?_ | refine tri_label ?_ | refine tri_exit ?_ | refine tri_ret ?_ | refine tri_block ?_)
  (refine tri_region hF [4] ?_; simp only [go_sem, T3, T4, T22, T23, T24, T27, T30, T33, EL_T, EL_G, EL_Γ, EL_el, capT, G1_13])
  repeat (first | refine at_next ?_ | refine at_then_exit ?_ | refine at_then_ret ?_ | refine at_block_norm ?_ | refine at_block_ret ?_ | refine at_block_exit ?_ | refine at_block_other (by decide) ?_ | refine at_then_norm ?_ | refine tri_seq ?_ | refine tri_skip ?_ | refine tri_label ?_ | refine tri_exit ?_ | refine tri_ret ?_ | refine tri_block ?_)
  (refine at_ret [4] rfl rfl rfl ?_; simp only [retOK, as_val, List.map_nil, go_sem, T3, T4, T22, T23, T24, T27, T30, T33, EL_T, EL_G, EL_Γ, EL_el, capT, G1_13])
  rw [idx_none hi2 (by omega)]
def gl2 : List (FuncId × FSpec) := [(14, sp14)]
theorem G2_14 : gam gl2 14 = some ⟨.pair (.sl (.i .i64)) (.pair (.clo 13 capT) .unit), .one (.i .i64), fun x => 0 ≤ x.2.1.2.1 ∧ x.2.1.2.1 < x.2.1.1.length, fun x => idx (fun i => !(okI x.2.1.1 x.2.1.2.1.toNat i)) x.1⟩ := rfl
theorem K14 : Known Try.prog (fun _ => .junk) gl2 := .cons f14_ok (by kernel_rfl) .nil
def sp12 : FSpec := ⟨.pair (.sl (.i .i64)) (.pair (.clo 13 capT) .unit), .one .bool, fun x => 0 ≤ x.2.1.2.1 ∧ x.2.1.2.1 < x.2.1.1.length, fun x => x.1.any (fun i => !(okI x.2.1.1 x.2.1.2.1.toNat i))⟩
theorem f12_ok : FOK Try.prog (fun _ => .junk) 12 sp12 := by
 refine fok_of (EL_ok K14) Try.func12 rfl (by kernel_rfl) (by decide) fun w0 S x hw hp => ?_
 obtain ⟨l, ⟨frm, s, u⟩, u'⟩ := x
 have hF : FrOK (fr Try.prog (EL gl2) S w0 Try.f12.ntmps) := ⟨EL_ok K14, mix⟩
 simp only [args0, sp12] at hp ⊢
 repeat (first | refine at_next ?_ | refine at_then_exit ?_ | refine at_then_ret ?_ | refine at_block_norm ?_ | refine at_block_ret ?_ | refine at_block_exit ?_ | refine at_block_other (by decide) ?_ | refine at_then_norm ?_ | refine tri_seq ?_ | refine tri_skip ?_ | refine tri_label ?_ | refine tri_exit ?_ | refine tri_ret ?_ | refine tri_block ?_)
 (refine tri_region hF [0, 1] ?_; simp only [go_sem, T3, T4, T22, T23, T24, T27, T30, T33, EL_T, EL_G, EL_Γ, EL_el, capT, G2_14])
 repeat (first | refine at_next ?_ | refine at_then_exit ?_ | refine at_then_ret ?_ | refine at_block_norm ?_ | refine at_block_ret ?_ | refine at_block_exit ?_ | refine at_block_other (by decide) ?_ | refine at_then_norm ?_ | refine tri_seq ?_ | refine tri_skip ?_ | refine tri_label ?_ | refine tri_exit ?_ | refine tri_ret ?_ | refine tri_block ?_)
 (refine tri_region hF [4] ?_; simp only [go_sem, T3, T4, T22, T23, T24, T27, T30, T33, EL_T, EL_G, EL_Γ, EL_el, capT, G2_14])
 repeat (refine ⟨by first | omega | (intros; omega) | exact ⟨_, rfl, rfl⟩ | exact ⟨_, rfl, rfl, rfl⟩ | (intros; exact ⟨_, rfl, rfl⟩) | (intros; exact ⟨_, rfl, rfl, rfl⟩) | (intro hside; simp only [Bool.or_eq_true, Bool.or_eq_false_iff, Bool.and_eq_true, decide_eq_true_eq, decide_eq_false_iff_not] at hside; omega), ?_⟩)
 repeat (first | refine at_next ?_ | refine at_then_exit ?_ | refine at_then_ret ?_ | refine at_block_norm ?_ | refine at_block_ret ?_ | refine at_block_exit ?_ | refine at_block_other (by decide) ?_ | refine at_then_norm ?_ | refine tri_seq ?_ | refine tri_skip ?_ | refine tri_label ?_ | refine tri_exit ?_ | refine tri_ret ?_ | refine tri_block ?_)
 (refine at_ret [4] rfl rfl rfl ?_; simp only [retOK, as_val, List.map_nil, go_sem, T3, T4, T22, T23, T24, T27, T30, T33, EL_T, EL_G, EL_Γ, EL_el, capT, G2_14])
 exact idx_any
end Gr
end Go.Proofs
namespace Go.Proofs
open Go.Vc
namespace Gr
def gl3 : List (FuncId × FSpec) := [(12, sp12)]
theorem G3_12 : gam gl3 12 = some ⟨.pair (.sl (.i .i64)) (.pair (.clo 13 capT) .unit), .one .bool, fun x => 0 ≤ x.2.1.2.1 ∧ x.2.1.2.1 < x.2.1.1.length, fun x => x.1.any (fun i => !(okI x.2.1.1 x.2.1.2.1.toNat i))⟩ := rfl
theorem K12 : Known Try.prog (fun _ => .junk) gl3 := .cons f12_ok (by kernel_rfl) .nil
theorem any_all {α : Type} (l : List α) (p : α → Bool) : (l.any fun i => !(p i)) = !(l.all p) := by
 induction l with
 | nil => rfl
 | cons a l ih => simp [ih]
theorem may_ok : FOK Try.prog (fun _ => .junk) 11 ⟨args3, .one .bool, fun _ => True, fun x => mayG x.1 x.2.1 x.2.2.1⟩ := by
 refine fok_of (EL_ok K12) Try.func11 rfl (by kernel_rfl) (by decide) fun w0 S x hw _ => ?_
 obtain ⟨outs, uses, frm, u⟩ := x
 simp only [args3, Ty.wf] at hw
 obtain ⟨⟨hw1, hw2⟩, ⟨hw3, hw4⟩, ⟨hw5, hw6⟩, _⟩ := hw
 simp only [maxLen_eq] at hw1 hw3 hw5
 have hF : FrOK (fr Try.prog (EL gl3) S w0 Try.f11.ntmps) := ⟨EL_ok K12, mix⟩
 simp only [args0, args3]
 repeat (first | refine at_next ?_ | refine at_then_exit ?_ | refine at_then_ret ?_ | refine at_block_norm ?_ | refine at_block_ret ?_ | refine at_block_exit ?_ | refine at_block_other (by decide) ?_ | refine at_then_norm ?_ | refine tri_seq ?_ | refine tri_skip ?_ | refine tri_label ?_ | refine tri_exit ?_ | refine tri_ret ?_ | refine tri_block ?_)
 (refine tri_regionB hF [0, 1, 5] ?_; simp only [go_sem, T3, T4, T22, T23, T24, T27, T30, T33, EL_T, EL_G, EL_Γ, EL_el, capT, G3_12])
 repeat (first | refine at_next ?_ | refine at_then_exit ?_ | refine at_then_ret ?_ | refine at_block_norm ?_ | refine at_block_ret ?_ | refine at_block_exit ?_ | refine at_block_other (by decide) ?_ | refine at_then_norm ?_ | refine tri_seq ?_ | refine tri_skip ?_ | refine tri_label ?_ | refine tri_exit ?_ | refine tri_ret ?_ | refine tri_block ?_)
 (refine tri_region hF [0, 1, 5, 7] ?_; simp only [go_sem, T3, T4, T22, T23, T24, T27, T30, T33, EL_T, EL_G, EL_Γ, EL_el, capT, G3_12])
 repeat (first | refine at_next ?_ | refine at_then_exit ?_ | refine at_then_ret ?_ | refine at_block_norm ?_ | refine at_block_ret ?_ | refine at_block_exit ?_ | refine at_block_other (by decide) ?_ | refine at_then_norm ?_ | refine tri_seq ?_ | refine tri_skip ?_ | refine tri_label ?_ | refine tri_exit ?_ | refine tri_ret ?_ | refine tri_block ?_)
 (refine tri_region hF [0, 1, 5, 7, 29] ?_; simp only [go_sem, T3, T4, T22, T23, T24, T27, T30, T33, EL_T, EL_G, EL_Γ, EL_el, capT, G3_12])
 repeat (refine ⟨by first | omega | (intros; omega) | exact ⟨_, rfl, rfl⟩ | exact ⟨_, rfl, rfl, rfl⟩ | (intros; exact ⟨_, rfl, rfl⟩) | (intros; exact ⟨_, rfl, rfl, rfl⟩) | (intro hside; simp only [Bool.or_eq_true, Bool.or_eq_false_iff, Bool.and_eq_true, decide_eq_true_eq, decide_eq_false_iff_not] at hside; omega), ?_⟩)
 repeat (first | refine at_next ?_ | refine at_then_exit ?_ | refine at_then_ret ?_ | refine at_block_norm ?_ | refine at_block_ret ?_ | refine at_block_exit ?_ | refine at_block_other (by decide) ?_ | refine at_then_norm ?_ | refine tri_seq ?_ | refine tri_skip ?_ | refine tri_label ?_ | refine tri_exit ?_ | refine tri_ret ?_ | refine tri_block ?_)
 refine tri_cond rfl (fun hc => ?_) (fun hc => ?_) <;> try simp only [Bool.or_eq_true, Bool.or_eq_false_iff, Bool.and_eq_true, decide_eq_true_eq, decide_eq_false_iff_not, Int.not_lt, Int.not_le, Bool.not_eq_true', Bool.not_eq_false'] at hc
 ·repeat (first | refine at_next ?_ | refine at_then_exit ?_ | refine at_then_ret ?_ | refine at_block_norm ?_ | refine at_block_ret ?_ | refine at_block_exit ?_ | refine at_block_other (by decide) ?_ | refine at_then_norm ?_ | refine tri_seq ?_ | refine tri_skip ?_ | refine tri_label ?_ | refine tri_exit ?_ | refine tri_ret ?_ | refine tri_block ?_)
  (refine tri_region hF [6] ?_; simp only [go_sem, T3, T4, T22, T23, T24, T27, T30, T33, EL_T, EL_G, EL_Γ, EL_el, capT, G3_12])
  repeat (first | refine at_next ?_ | refine at_then_exit ?_ | refine at_then_ret ?_ | refine at_block_norm ?_ | refine at_block_ret ?_ | refine at_block_exit ?_ | refine at_block_other (by decide) ?_ | refine at_then_norm ?_ | refine tri_seq ?_ | refine tri_skip ?_ | refine tri_label ?_ | refine tri_exit ?_ | refine tri_ret ?_ | refine tri_block ?_)
  ((first | refine at_ren [] rfl rfl ?_ | refine tri_ren [] rfl rfl ?_); simp only [ren, ren1, renO, posOf, posAll, go_sem, T3, T4, T22, T23, T24, T27, T30, T33, EL_T, EL_G, EL_Γ, EL_el, capT, G3_12])
  (refine at_ret [6] rfl rfl rfl ?_; simp only [retOK, as_val, List.map_nil, go_sem, T3, T4, T22, T23, T24, T27, T30, T33, EL_T, EL_G, EL_Γ, EL_el, capT, G3_12])
  have : ¬ (outs.length ≤ 16) ∨ ¬ (uses.length = outs.length) ∨ ¬ (frm.length = outs.length) := by omega
  rcases this with h | h | h <;> simp [mayG, h]
 have hl : outs.length ≤ 16 ∧ uses.length = outs.length ∧ frm.length = outs.length := by omega
 obtain ⟨hl1, hl2, hl3⟩ := hl
 have hmay : mayG outs uses frm = (List.range outs.length).all (okS outs uses frm) := by simp [mayG, hl1, hl2, hl3]
 clear hc
 repeat (first | refine at_next ?_ | refine at_then_exit ?_ | refine at_then_ret ?_ | refine at_block_norm ?_ | refine at_block_ret ?_ | refine at_block_exit ?_ | refine at_block_other (by decide) ?_ | refine at_then_norm ?_ | refine tri_seq ?_ | refine tri_skip ?_ | refine tri_label ?_ | refine tri_exit ?_ | refine tri_ret ?_ | refine tri_block ?_)
 (refine tri_region hF [0, 1, 5, 7, 30, 31, 32] ?_; simp only [go_sem, T3, T4, T22, T23, T24, T27, T30, T33, EL_T, EL_G, EL_Γ, EL_el, capT, G3_12])
 repeat (first | refine at_next ?_ | refine at_then_exit ?_ | refine at_then_ret ?_ | refine at_block_norm ?_ | refine at_block_ret ?_ | refine at_block_exit ?_ | refine at_block_other (by decide) ?_ | refine at_then_norm ?_ | refine tri_seq ?_ | refine tri_skip ?_ | refine tri_label ?_ | refine tri_exit ?_ | refine tri_ret ?_ | refine tri_block ?_)
 refine tri_loop (D := Int) (fun s => 0 ≤ s ∧ s ≤ outs.length ∧ (List.range s.toNat).all (okS outs uses frm) = true) (fun s => (outs.length - s).toNat) (fun s => [(0, .val (.sl (.i .i64)) outs), (1, .val (.sl (.sl (.sl (.i .i64)))) uses), (5, .ptr 0 []), (7, .val (.i .i64) outs.length), (30, .val (.sl (.i .i64)) outs), (31, .val (.i .i64) outs.length), (32, .val (.i .i64) s)]) (fun _ => [.box 1 (.val (.sl (.sl (.arr 2 (.i .i64)))) frm)]) (at_fit 0 ?_ rfl ?_) ?_
 ·simp
 ·simp only [fitE, fitV, as_val, true_or, List.map_nil, and_self, go_sem, T3, T4, T22, T23, T24, T27, T30, T33, EL_T, EL_G, EL_Γ, EL_el, capT, G3_12]
 rintro s ⟨hs0, hs1, hs2⟩
 repeat (first | refine at_next ?_ | refine at_then_exit ?_ | refine at_then_ret ?_ | refine at_block_norm ?_ | refine at_block_ret ?_ | refine at_block_exit ?_ | refine at_block_other (by decide) ?_ | refine at_then_norm ?_ | refine tri_seq ?_ | refine tri_skip ?_ | refine tri_label ?_ | refine tri_exit ?_ | refine tri_ret ?_ | refine tri_block ?_)
 (refine tri_region hF [0, 1, 5, 7, 30, 31, 32, 33] ?_; simp only [go_sem, T3, T4, T22, T23, T24, T27, T30, T33, EL_T, EL_G, EL_Γ, EL_el, capT, G3_12])
 repeat (first | refine at_next ?_ | refine at_then_exit ?_ | refine at_then_ret ?_ | refine at_block_norm ?_ | refine at_block_ret ?_ | refine at_block_exit ?_ | refine at_block_other (by decide) ?_ | refine at_then_norm ?_ | refine tri_seq ?_ | refine tri_skip ?_ | refine tri_label ?_ | refine tri_exit ?_ | refine tri_ret ?_ | refine tri_block ?_)
 refine tri_cond rfl (fun hc => ?_) (fun hc => ?_) <;> try simp only [Bool.or_eq_true, Bool.or_eq_false_iff, Bool.and_eq_true, decide_eq_true_eq, decide_eq_false_iff_not, Int.not_lt, Int.not_le, Bool.not_eq_true', Bool.not_eq_false'] at hc
 ·have hsn : s.toNat < outs.length := by omega
  have hfail : okS outs uses frm s.toNat = false → false = mayG outs uses frm := fun h => by rw [hmay, range_false _ hsn h]
  rename_i hc1
  clear hc1
  repeat (first | refine at_next ?_ | refine at_then_exit ?_ | refine at_then_ret ?_ | refine at_block_norm ?_ | refine at_block_ret ?_ | refine at_block_exit ?_ | refine at_block_other (by decide) ?_ | refine at_then_norm ?_ | refine tri_seq ?_ | refine tri_skip ?_ | refine tri_label ?_ | refine tri_exit ?_ | refine tri_ret ?_ | refine tri_block ?_)
  (refine tri_regionB hF [0, 1, 5, 7, 8, 9, 30, 31, 32] ?_; simp only [go_sem, T3, T4, T22, T23, T24, T27, T30, T33, EL_T, EL_G, EL_Γ, EL_el, capT, G3_12])
  repeat (refine ⟨by first | omega | (intros; omega) | exact ⟨_, rfl, rfl⟩ | exact ⟨_, rfl, rfl, rfl⟩ | (intros; exact ⟨_, rfl, rfl⟩) | (intros; exact ⟨_, rfl, rfl, rfl⟩) | (intro hside; simp only [Bool.or_eq_true, Bool.or_eq_false_iff, Bool.and_eq_true, decide_eq_true_eq, decide_eq_false_iff_not] at hside; omega), ?_⟩)
  repeat (first | refine at_next ?_ | refine at_then_exit ?_ | refine at_then_ret ?_ | refine at_block_norm ?_ | refine at_block_ret ?_ | refine at_block_exit ?_ | refine at_block_other (by decide) ?_ | refine at_then_norm ?_ | refine tri_seq ?_ | refine tri_skip ?_ | refine tri_label ?_ | refine tri_exit ?_ | refine tri_ret ?_ | refine tri_block ?_)
  (refine tri_region hF [0, 1, 5, 7, 8, 9, 30, 31, 32, 51] ?_; simp only [go_sem, T3, T4, T22, T23, T24, T27, T30, T33, EL_T, EL_G, EL_Γ, EL_el, capT, G3_12])
  repeat (refine ⟨by first | omega | (intros; omega) | exact ⟨_, rfl, rfl⟩ | exact ⟨_, rfl, rfl, rfl⟩ | (intros; exact ⟨_, rfl, rfl⟩) | (intros; exact ⟨_, rfl, rfl, rfl⟩) | (intro hside; simp only [Bool.or_eq_true, Bool.or_eq_false_iff, Bool.and_eq_true, decide_eq_true_eq, decide_eq_false_iff_not] at hside; omega), ?_⟩)
  repeat (first | refine at_next ?_ | refine at_then_exit ?_ | refine at_then_ret ?_ | refine at_block_norm ?_ | refine at_block_ret ?_ | refine at_block_exit ?_ | refine at_block_other (by decide) ?_ | refine at_then_norm ?_ | refine tri_seq ?_ | refine tri_skip ?_ | refine tri_label ?_ | refine tri_exit ?_ | refine tri_ret ?_ | refine tri_block ?_)
  refine tri_cond rfl (fun hc => ?_) (fun hc => ?_) <;> try simp only [Bool.or_eq_true, Bool.or_eq_false_iff, Bool.and_eq_true, decide_eq_true_eq, decide_eq_false_iff_not, Int.not_lt, Int.not_le, Bool.not_eq_true', Bool.not_eq_false'] at hc
  ·repeat (first | refine at_next ?_ | refine at_then_exit ?_ | refine at_then_ret ?_ | refine at_block_norm ?_ | refine at_block_ret ?_ | refine at_block_exit ?_ | refine at_block_other (by decide) ?_ | refine at_then_norm ?_ | refine tri_seq ?_ | refine tri_skip ?_ | refine tri_label ?_ | refine tri_exit ?_ | refine tri_ret ?_ | refine tri_block ?_)
   (refine tri_region hF [6] ?_; simp only [go_sem, T3, T4, T22, T23, T24, T27, T30, T33, EL_T, EL_G, EL_Γ, EL_el, capT, G3_12])
   repeat (first | refine at_next ?_ | refine at_then_exit ?_ | refine at_then_ret ?_ | refine at_block_norm ?_ | refine at_block_ret ?_ | refine at_block_exit ?_ | refine at_block_other (by decide) ?_ | refine at_then_norm ?_ | refine tri_seq ?_ | refine tri_skip ?_ | refine tri_label ?_ | refine tri_exit ?_ | refine tri_ret ?_ | refine tri_block ?_)
   ((first | refine at_ren [] rfl rfl ?_ | refine tri_ren [] rfl rfl ?_); simp only [ren, ren1, renO, posOf, posAll, go_sem, T3, T4, T22, T23, T24, T27, T30, T33, EL_T, EL_G, EL_Γ, EL_el, capT, G3_12])
   (refine at_ret [6] rfl rfl rfl ?_; simp only [retOK, as_val, List.map_nil, go_sem, T3, T4, T22, T23, T24, T27, T30, T33, EL_T, EL_G, EL_Γ, EL_el, capT, G3_12])
   refine hfail ?_
   have : okA outs uses s.toNat = false := by
    simp only [okA, Bool.and_eq_false_iff, decide_eq_false_iff_not]; omega
   simp only [okS, this, Bool.false_and]
  ·have hA : okA outs uses s.toNat = true := by
    simp only [okA, Bool.and_eq_true, decide_eq_true_eq]; omega
   have hb := hc
   rename_i hc1
   clear hc
   repeat (first | refine at_next ?_ | refine at_then_exit ?_ | refine at_then_ret ?_ | refine at_block_norm ?_ | refine at_block_ret ?_ | refine at_block_exit ?_ | refine at_block_other (by decide) ?_ | refine at_then_norm ?_ | refine tri_seq ?_ | refine tri_skip ?_ | refine tri_label ?_ | refine tri_exit ?_ | refine tri_ret ?_ | refine tri_block ?_)
   (refine tri_region hF [0, 1, 5, 7, 8, 30, 31, 32, 55, 56, 57] ?_; simp only [go_sem, T3, T4, T22, T23, T24, T27, T30, T33, EL_T, EL_G, EL_Γ, EL_el, capT, G3_12])
   repeat (refine ⟨by first | omega | (intros; omega) | exact ⟨_, rfl, rfl⟩ | exact ⟨_, rfl, rfl, rfl⟩ | (intros; exact ⟨_, rfl, rfl⟩) | (intros; exact ⟨_, rfl, rfl, rfl⟩) | (intro hside; simp only [Bool.or_eq_true, Bool.or_eq_false_iff, Bool.and_eq_true, decide_eq_true_eq, decide_eq_false_iff_not] at hside; omega), ?_⟩)
   repeat (first | refine at_next ?_ | refine at_then_exit ?_ | refine at_then_ret ?_ | refine at_block_norm ?_ | refine at_block_ret ?_ | refine at_block_exit ?_ | refine at_block_other (by decide) ?_ | refine at_then_norm ?_ | refine tri_seq ?_ | refine tri_skip ?_ | refine tri_label ?_ | refine tri_exit ?_ | refine tri_ret ?_ | refine tri_block ?_)
   refine tri_loop (D := Int) (fun k => 0 ≤ k ∧ k ≤ (uses.getD s.toNat []).length ∧ ((uses.getD s.toNat []).take k.toNat).all (fun l => l.all (okI frm s.toNat)) = true) (fun k => ((uses.getD s.toNat []).length - k).toNat) (fun k => [(0, .val (.sl (.i .i64)) outs), (1, .val (.sl (.sl (.sl (.i .i64)))) uses), (5, .ptr 0 []), (7, .val (.i .i64) outs.length), (8, .ptr 1 []), (30, .val (.sl (.i .i64)) outs), (31, .val (.i .i64) outs.length), (32, .val (.i .i64) s), (55, .val (.sl (.sl (.i .i64))) (uses.getD s.toNat [])), (56, .val (.i .i64) (uses.getD s.toNat []).length), (57, .val (.i .i64) k)]) (fun _ => [.box 1 (.val (.sl (.sl (.arr 2 (.i .i64)))) frm), .box 1 (.val (.i .i64) s)]) (at_fit 0 ?_ rfl ?_) ?_
   ·simp
   ·simp only [fitE, fitV, as_val, true_or, List.map_nil, and_self, go_sem, T3, T4, T22, T23, T24, T27, T30, T33, EL_T, EL_G, EL_Γ, EL_el, capT, G3_12]
   rintro k ⟨hk0, hk1, hk2⟩
   repeat (first | refine at_next ?_ | refine at_then_exit ?_ | refine at_then_ret ?_ | refine at_block_norm ?_ | refine at_block_ret ?_ | refine at_block_exit ?_ | refine at_block_other (by decide) ?_ | refine at_then_norm ?_ | refine tri_seq ?_ | refine tri_skip ?_ | refine tri_label ?_ | refine tri_exit ?_ | refine tri_ret ?_ | refine tri_block ?_)
   (refine tri_region hF [0, 1, 5, 7, 8, 30, 31, 32, 55, 56, 57, 58] ?_; simp only [go_sem, T3, T4, T22, T23, T24, T27, T30, T33, EL_T, EL_G, EL_Γ, EL_el, capT, G3_12])
   repeat (first | refine at_next ?_ | refine at_then_exit ?_ | refine at_then_ret ?_ | refine at_block_norm ?_ | refine at_block_ret ?_ | refine at_block_exit ?_ | refine at_block_other (by decide) ?_ | refine at_then_norm ?_ | refine tri_seq ?_ | refine tri_skip ?_ | refine tri_label ?_ | refine tri_exit ?_ | refine tri_ret ?_ | refine tri_block ?_)
   refine tri_cond rfl (fun hc => ?_) (fun hc => ?_) <;> try simp only [Bool.or_eq_true, Bool.or_eq_false_iff, Bool.and_eq_true, decide_eq_true_eq, decide_eq_false_iff_not, Int.not_lt, Int.not_le, Bool.not_eq_true', Bool.not_eq_false'] at hc
   ·have hkn : k.toNat < (uses.getD s.toNat []).length := by omega
    repeat (first | refine at_next ?_ | refine at_then_exit ?_ | refine at_then_ret ?_ | refine at_block_norm ?_ | refine at_block_ret ?_ | refine at_block_exit ?_ | refine at_block_other (by decide) ?_ | refine at_then_norm ?_ | refine tri_seq ?_ | refine tri_skip ?_ | refine tri_label ?_ | refine tri_exit ?_ | refine tri_ret ?_ | refine tri_block ?_)
    (refine tri_region hF [0, 1, 5, 7, 8, 11, 30, 31, 32, 55, 56, 57] ?_; simp only [go_sem, T3, T4, T22, T23, T24, T27, T30, T33, EL_T, EL_G, EL_Γ, EL_el, capT, G3_12])
    repeat (refine ⟨by first | omega | (intros; omega) | exact ⟨_, rfl, rfl⟩ | exact ⟨_, rfl, rfl, rfl⟩ | (intros; exact ⟨_, rfl, rfl⟩) | (intros; exact ⟨_, rfl, rfl, rfl⟩) | (intro hside; simp only [Bool.or_eq_true, Bool.or_eq_false_iff, Bool.and_eq_true, decide_eq_true_eq, decide_eq_false_iff_not] at hside; omega), ?_⟩)
    repeat (first | refine at_next ?_ | refine at_then_exit ?_ | refine at_then_ret ?_ | refine at_block_norm ?_ | refine at_block_ret ?_ | refine at_block_exit ?_ | refine at_block_other (by decide) ?_ | refine at_then_norm ?_ | refine tri_seq ?_ | refine tri_skip ?_ | refine tri_label ?_ | refine tri_exit ?_ | refine tri_ret ?_ | refine tri_block ?_)
    (refine tri_region hF [0, 1, 5, 7, 8, 30, 31, 32, 55, 56, 57, 63] ?_; simp only [go_sem, T3, T4, T22, T23, T24, T27, T30, T33, EL_T, EL_G, EL_Γ, EL_el, capT, G3_12])
    repeat (refine ⟨by first | omega | (intros; omega) | exact ⟨_, rfl, rfl⟩ | exact ⟨_, rfl, rfl, rfl⟩ | (intros; exact ⟨_, rfl, rfl⟩) | (intros; exact ⟨_, rfl, rfl, rfl⟩) | (intro hside; simp only [Bool.or_eq_true, Bool.or_eq_false_iff, Bool.and_eq_true, decide_eq_true_eq, decide_eq_false_iff_not] at hside; omega), ?_⟩)
    repeat (first | refine at_next ?_ | refine at_then_exit ?_ | refine at_then_ret ?_ | refine at_block_norm ?_ | refine at_block_ret ?_ | refine at_block_exit ?_ | refine at_block_other (by decide) ?_ | refine at_then_norm ?_ | refine tri_seq ?_ | refine tri_skip ?_ | refine tri_label ?_ | refine tri_exit ?_ | refine tri_ret ?_ | refine tri_block ?_)
    refine tri_cond rfl (fun hc => ?_) (fun hc => ?_) <;> try simp only [Bool.or_eq_true, Bool.or_eq_false_iff, Bool.and_eq_true, decide_eq_true_eq, decide_eq_false_iff_not, Int.not_lt, Int.not_le, Bool.not_eq_true', Bool.not_eq_false'] at hc
    ·repeat (first | refine at_next ?_ | refine at_then_exit ?_ | refine at_then_ret ?_ | refine at_block_norm ?_ | refine at_block_ret ?_ | refine at_block_exit ?_ | refine at_block_other (by decide) ?_ | refine at_then_norm ?_ | refine tri_seq ?_ | refine tri_skip ?_ | refine tri_label ?_ | refine tri_exit ?_ | refine tri_ret ?_ | refine tri_block ?_)
     (refine tri_region hF [6] ?_; simp only [go_sem, T3, T4, T22, T23, T24, T27, T30, T33, EL_T, EL_G, EL_Γ, EL_el, capT, G3_12])
     repeat (first | refine at_next ?_ | refine at_then_exit ?_ | refine at_then_ret ?_ | refine at_block_norm ?_ | refine at_block_ret ?_ | refine at_block_exit ?_ | refine at_block_other (by decide) ?_ | refine at_then_norm ?_ | refine tri_seq ?_ | refine tri_skip ?_ | refine tri_label ?_ | refine tri_exit ?_ | refine tri_ret ?_ | refine tri_block ?_)
     ((first | refine at_ren [] rfl rfl ?_ | refine tri_ren [] rfl rfl ?_); simp only [ren, ren1, renO, posOf, posAll, go_sem, T3, T4, T22, T23, T24, T27, T30, T33, EL_T, EL_G, EL_Γ, EL_el, capT, G3_12])
     (refine at_ret [6] rfl rfl rfl ?_; simp only [retOK, as_val, List.map_nil, go_sem, T3, T4, T22, T23, T24, T27, T30, T33, EL_T, EL_G, EL_Γ, EL_el, capT, G3_12])
     refine hfail ?_
     rw [any_all, Bool.not_eq_true'] at hc
     simp only [okS, all_false (uses.getD s.toNat []) (fun l => l.all (okI frm s.toNat)) k.toNat [] hkn hc, Bool.and_false, Bool.false_and]
    ·have := (hw4 _ (mem_getD [] (show s.toNat < uses.length by omega))).1
     simp only [maxLen_eq] at this
     rw [any_all, Bool.not_eq_false'] at hc
     repeat (first | refine at_next ?_ | refine at_then_exit ?_ | refine at_then_ret ?_ | refine at_block_norm ?_ | refine at_block_ret ?_ | refine at_block_exit ?_ | refine at_block_other (by decide) ?_ | refine at_then_norm ?_ | refine tri_seq ?_ | refine tri_skip ?_ | refine tri_label ?_ | refine tri_exit ?_ | refine tri_ret ?_ | refine tri_block ?_)
     (refine tri_region hF [0, 1, 5, 7, 8, 30, 31, 32, 55, 56, 57] ?_; simp only [go_sem, T3, T4, T22, T23, T24, T27, T30, T33, EL_T, EL_G, EL_Γ, EL_el, capT, G3_12])
     repeat (refine ⟨by first | omega | (intros; omega) | exact ⟨_, rfl, rfl⟩ | exact ⟨_, rfl, rfl, rfl⟩ | (intros; exact ⟨_, rfl, rfl⟩) | (intros; exact ⟨_, rfl, rfl, rfl⟩) | (intro hside; simp only [Bool.or_eq_true, Bool.or_eq_false_iff, Bool.and_eq_true, decide_eq_true_eq, decide_eq_false_iff_not] at hside; omega), ?_⟩)
     repeat (first | refine at_next ?_ | refine at_then_exit ?_ | refine at_then_ret ?_ | refine at_block_norm ?_ | refine at_block_ret ?_ | refine at_block_exit ?_ | refine at_block_other (by decide) ?_ | refine at_then_norm ?_ | refine tri_seq ?_ | refine tri_skip ?_ | refine tri_label ?_ | refine tri_exit ?_ | refine tri_ret ?_ | refine tri_block ?_)
     refine at_fit (k + 1) ⟨⟨by omega, by omega, ?_⟩, by omega⟩ rfl ?_
     ·rw [show (k + 1).toNat = k.toNat + 1 from by omega, all_step _ _ _ [] hkn, hk2, Bool.true_and]; exact hc
     ·simp only [fitE, fitV, as_val, true_or, List.map_nil, and_self, go_sem, T3, T4, T22, T23, T24, T27, T30, T33, EL_T, EL_G, EL_Γ, EL_el, capT, G3_12]
   ·have hU : (uses.getD s.toNat []).all (fun l => l.all (okI frm s.toNat)) = true := by rw [← all_end _ _ k.toNat (by omega)]; exact hk2
    repeat (first | refine at_next ?_ | refine at_then_exit ?_ | refine at_then_ret ?_ | refine at_block_norm ?_ | refine at_block_ret ?_ | refine at_block_exit ?_ | refine at_block_other (by decide) ?_ | refine at_then_norm ?_ | refine tri_seq ?_ | refine tri_skip ?_ | refine tri_label ?_ | refine tri_exit ?_ | refine tri_ret ?_ | refine tri_block ?_)
    (refine tri_region hF [0, 1, 5, 7, 30, 31, 32, 68, 69, 70] ?_; simp only [go_sem, T3, T4, T22, T23, T24, T27, T30, T33, EL_T, EL_G, EL_Γ, EL_el, capT, G3_12])
    repeat (refine ⟨by first | omega | (intros; omega) | exact ⟨_, rfl, rfl⟩ | exact ⟨_, rfl, rfl, rfl⟩ | (intros; exact ⟨_, rfl, rfl⟩) | (intros; exact ⟨_, rfl, rfl, rfl⟩) | (intro hside; simp only [Bool.or_eq_true, Bool.or_eq_false_iff, Bool.and_eq_true, decide_eq_true_eq, decide_eq_false_iff_not] at hside; omega), ?_⟩)
    repeat (first | refine at_next ?_ | refine at_then_exit ?_ | refine at_then_ret ?_ | refine at_block_norm ?_ | refine at_block_ret ?_ | refine at_block_exit ?_ | refine at_block_other (by decide) ?_ | refine at_then_norm ?_ | refine tri_seq ?_ | refine tri_skip ?_ | refine tri_label ?_ | refine tri_exit ?_ | refine tri_ret ?_ | refine tri_block ?_)
    ((first | refine at_ren [0] rfl rfl ?_ | refine tri_ren [0] rfl rfl ?_); simp only [ren, ren1, renO, posOf, posAll, go_sem, T3, T4, T22, T23, T24, T27, T30, T33, EL_T, EL_G, EL_Γ, EL_el, capT, G3_12])
    refine tri_loop (D := Int) (fun i => 0 ≤ i ∧ i ≤ (frm.getD s.toNat []).length ∧ ((frm.getD s.toNat []).take i.toNat).all (okX outs) = true) (fun i => ((frm.getD s.toNat []).length - i).toNat) (fun i => [(0, .val (.sl (.i .i64)) outs), (1, .val (.sl (.sl (.sl (.i .i64)))) uses), (5, .ptr 0 []), (7, .val (.i .i64) outs.length), (30, .val (.sl (.i .i64)) outs), (31, .val (.i .i64) outs.length), (32, .val (.i .i64) s), (68, .val (.sl (.arr 2 (.i .i64))) (frm.getD s.toNat [])), (69, .val (.i .i64) (frm.getD s.toNat []).length), (70, .val (.i .i64) i)]) (fun _ => [.box 1 (.val (.sl (.sl (.arr 2 (.i .i64)))) frm)]) (at_fit 0 ?_ rfl ?_) ?_
    ·simp
    ·simp only [fitE, fitV, as_val, true_or, List.map_nil, and_self, go_sem, T3, T4, T22, T23, T24, T27, T30, T33, EL_T, EL_G, EL_Γ, EL_el, capT, G3_12]
    rintro i ⟨hi0, hi1, hi2⟩
    repeat (first | refine at_next ?_ | refine at_then_exit ?_ | refine at_then_ret ?_ | refine at_block_norm ?_ | refine at_block_ret ?_ | refine at_block_exit ?_ | refine at_block_other (by decide) ?_ | refine at_then_norm ?_ | refine tri_seq ?_ | refine tri_skip ?_ | refine tri_label ?_ | refine tri_exit ?_ | refine tri_ret ?_ | refine tri_block ?_)
    (refine tri_region hF [0, 1, 5, 7, 30, 31, 32, 68, 69, 70, 71] ?_; simp only [go_sem, T3, T4, T22, T23, T24, T27, T30, T33, EL_T, EL_G, EL_Γ, EL_el, capT, G3_12])
    repeat (first | refine at_next ?_ | refine at_then_exit ?_ | refine at_then_ret ?_ | refine at_block_norm ?_ | refine at_block_ret ?_ | refine at_block_exit ?_ | refine at_block_other (by decide) ?_ | refine at_then_norm ?_ | refine tri_seq ?_ | refine tri_skip ?_ | refine tri_label ?_ | refine tri_exit ?_ | refine tri_ret ?_ | refine tri_block ?_)
    refine tri_cond rfl (fun hc => ?_) (fun hc => ?_) <;> try simp only [Bool.or_eq_true, Bool.or_eq_false_iff, Bool.and_eq_true, decide_eq_true_eq, decide_eq_false_iff_not, Int.not_lt, Int.not_le, Bool.not_eq_true', Bool.not_eq_false'] at hc
    ·have hin : i.toNat < (frm.getD s.toNat []).length := by omega
     repeat (first | refine at_next ?_ | refine at_then_exit ?_ | refine at_then_ret ?_ | refine at_block_norm ?_ | refine at_block_ret ?_ | refine at_block_exit ?_ | refine at_block_other (by decide) ?_ | refine at_then_norm ?_ | refine tri_seq ?_ | refine tri_skip ?_ | refine tri_label ?_ | refine tri_exit ?_ | refine tri_ret ?_ | refine tri_block ?_)
     (refine tri_regionB hF [0, 1, 5, 7, 13, 30, 31, 32, 68, 69, 70] ?_; simp only [go_sem, T3, T4, T22, T23, T24, T27, T30, T33, EL_T, EL_G, EL_Γ, EL_el, capT, G3_12])
     repeat (refine ⟨by first | omega | (intros; omega) | exact ⟨_, rfl, rfl⟩ | exact ⟨_, rfl, rfl, rfl⟩ | (intros; exact ⟨_, rfl, rfl⟩) | (intros; exact ⟨_, rfl, rfl, rfl⟩) | (intro hside; simp only [Bool.or_eq_true, Bool.or_eq_false_iff, Bool.and_eq_true, decide_eq_true_eq, decide_eq_false_iff_not] at hside; omega), ?_⟩)
     repeat (first | refine at_next ?_ | refine at_then_exit ?_ | refine at_then_ret ?_ | refine at_block_norm ?_ | refine at_block_ret ?_ | refine at_block_exit ?_ | refine at_block_other (by decide) ?_ | refine at_then_norm ?_ | refine tri_seq ?_ | refine tri_skip ?_ | refine tri_label ?_ | refine tri_exit ?_ | refine tri_ret ?_ | refine tri_block ?_)
     (refine tri_region hF [0, 1, 5, 7, 30, 31, 32, 68, 69, 70, 97] ?_; simp only [go_sem, T3, T4, T22, T23, T24, T27, T30, T33, EL_T, EL_G, EL_Γ, EL_el, capT, G3_12])
     repeat (refine ⟨by first | omega | (intros; omega) | exact ⟨_, rfl, rfl⟩ | exact ⟨_, rfl, rfl, rfl⟩ | (intros; exact ⟨_, rfl, rfl⟩) | (intros; exact ⟨_, rfl, rfl, rfl⟩) | (intro hside; simp only [Bool.or_eq_true, Bool.or_eq_false_iff, Bool.and_eq_true, decide_eq_true_eq, decide_eq_false_iff_not] at hside; omega), ?_⟩)
     repeat (first | refine at_next ?_ | refine at_then_exit ?_ | refine at_then_ret ?_ | refine at_block_norm ?_ | refine at_block_ret ?_ | refine at_block_exit ?_ | refine at_block_other (by decide) ?_ | refine at_then_norm ?_ | refine tri_seq ?_ | refine tri_skip ?_ | refine tri_label ?_ | refine tri_exit ?_ | refine tri_ret ?_ | refine tri_block ?_)
     refine tri_cond rfl (fun hc => ?_) (fun hc => ?_) <;> try simp only [Bool.or_eq_true, Bool.or_eq_false_iff, Bool.and_eq_true, decide_eq_true_eq, decide_eq_false_iff_not, Int.not_lt, Int.not_le, Bool.not_eq_true', Bool.not_eq_false'] at hc
     ·repeat (first | refine at_next ?_ | refine at_then_exit ?_ | refine at_then_ret ?_ | refine at_block_norm ?_ | refine at_block_ret ?_ | refine at_block_exit ?_ | refine at_block_other (by decide) ?_ | refine at_then_norm ?_ | refine tri_seq ?_ | refine tri_skip ?_ | refine tri_label ?_ | refine tri_exit ?_ | refine tri_ret ?_ | refine tri_block ?_)
      (refine tri_region hF [6] ?_; simp only [go_sem, T3, T4, T22, T23, T24, T27, T30, T33, EL_T, EL_G, EL_Γ, EL_el, capT, G3_12])
      repeat (first | refine at_next ?_ | refine at_then_exit ?_ | refine at_then_ret ?_ | refine at_block_norm ?_ | refine at_block_ret ?_ | refine at_block_exit ?_ | refine at_block_other (by decide) ?_ | refine at_then_norm ?_ | refine tri_seq ?_ | refine tri_skip ?_ | refine tri_label ?_ | refine tri_exit ?_ | refine tri_ret ?_ | refine tri_block ?_)
      ((first | refine at_ren [] rfl rfl ?_ | refine tri_ren [] rfl rfl ?_); simp only [ren, ren1, renO, posOf, posAll, go_sem, T3, T4, T22, T23, T24, T27, T30, T33, EL_T, EL_G, EL_Γ, EL_el, capT, G3_12])
      (refine at_ret [6] rfl rfl rfl ?_; simp only [retOK, as_val, List.map_nil, go_sem, T3, T4, T22, T23, T24, T27, T30, T33, EL_T, EL_G, EL_Γ, EL_el, capT, G3_12])
      refine hfail ?_
      have h1 : okX outs ((frm.getD s.toNat []).getD i.toNat (List.replicate 2 0)) = false := by
       simp only [okX, Bool.and_eq_false_iff, decide_eq_false_iff_not]; omega
      simp only [okS, all_false _ _ i.toNat _ hin h1, Bool.and_false]
     ·repeat (first | refine at_next ?_ | refine at_then_exit ?_ | refine at_then_ret ?_ | refine at_block_norm ?_ | refine at_block_ret ?_ | refine at_block_exit ?_ | refine at_block_other (by decide) ?_ | refine at_then_norm ?_ | refine tri_seq ?_ | refine tri_skip ?_ | refine tri_label ?_ | refine tri_exit ?_ | refine tri_ret ?_ | refine tri_block ?_)
      ((first | refine at_ren [0] rfl rfl ?_ | refine tri_ren [0] rfl rfl ?_); simp only [ren, ren1, renO, posOf, posAll, go_sem, T3, T4, T22, T23, T24, T27, T30, T33, EL_T, EL_G, EL_Γ, EL_el, capT, G3_12])
      (refine tri_region hF [0, 1, 5, 7, 30, 31, 32, 68, 69, 70] ?_; simp only [go_sem, T3, T4, T22, T23, T24, T27, T30, T33, EL_T, EL_G, EL_Γ, EL_el, capT, G3_12])
      have := (hw6 _ (mem_getD [] (show s.toNat < frm.length by omega))).1
      simp only [maxLen_eq] at this
      repeat (refine ⟨by first | omega | (intros; omega) | exact ⟨_, rfl, rfl⟩ | exact ⟨_, rfl, rfl, rfl⟩ | (intros; exact ⟨_, rfl, rfl⟩) | (intros; exact ⟨_, rfl, rfl, rfl⟩) | (intro hside; simp only [Bool.or_eq_true, Bool.or_eq_false_iff, Bool.and_eq_true, decide_eq_true_eq, decide_eq_false_iff_not] at hside; omega), ?_⟩)
      repeat (first | refine at_next ?_ | refine at_then_exit ?_ | refine at_then_ret ?_ | refine at_block_norm ?_ | refine at_block_ret ?_ | refine at_block_exit ?_ | refine at_block_other (by decide) ?_ | refine at_then_norm ?_ | refine tri_seq ?_ | refine tri_skip ?_ | refine tri_label ?_ | refine tri_exit ?_ | refine tri_ret ?_ | refine tri_block ?_)
      refine at_fit (i + 1) ⟨⟨by omega, by omega, ?_⟩, by omega⟩ rfl ?_
      ·rw [show (i + 1).toNat = i.toNat + 1 from by omega, all_step _ _ _ (List.replicate 2 0) hin, hi2, Bool.true_and]
       simp only [okX, Bool.and_eq_true, decide_eq_true_eq]; omega
      ·simp only [fitE, fitV, as_val, true_or, List.map_nil, and_self, go_sem, T3, T4, T22, T23, T24, T27, T30, T33, EL_T, EL_G, EL_Γ, EL_el, capT, G3_12]
    ·have hX : (frm.getD s.toNat []).all (okX outs) = true := by rw [← all_end _ _ i.toNat (by omega)]; exact hi2
     repeat (first | refine at_next ?_ | refine at_then_exit ?_ | refine at_then_ret ?_ | refine at_block_norm ?_ | refine at_block_ret ?_ | refine at_block_exit ?_ | refine at_block_other (by decide) ?_ | refine at_then_norm ?_ | refine tri_seq ?_ | refine tri_skip ?_ | refine tri_label ?_ | refine tri_exit ?_ | refine tri_ret ?_ | refine tri_block ?_)
     (refine tri_region hF [0, 1, 5, 7, 30, 31, 32] ?_; simp only [go_sem, T3, T4, T22, T23, T24, T27, T30, T33, EL_T, EL_G, EL_Γ, EL_el, capT, G3_12])
     repeat (refine ⟨by first | omega | (intros; omega) | exact ⟨_, rfl, rfl⟩ | exact ⟨_, rfl, rfl, rfl⟩ | (intros; exact ⟨_, rfl, rfl⟩) | (intros; exact ⟨_, rfl, rfl, rfl⟩) | (intro hside; simp only [Bool.or_eq_true, Bool.or_eq_false_iff, Bool.and_eq_true, decide_eq_true_eq, decide_eq_false_iff_not] at hside; omega), ?_⟩)
     repeat (first | refine at_next ?_ | refine at_then_exit ?_ | refine at_then_ret ?_ | refine at_block_norm ?_ | refine at_block_ret ?_ | refine at_block_exit ?_ | refine at_block_other (by decide) ?_ | refine at_then_norm ?_ | refine tri_seq ?_ | refine tri_skip ?_ | refine tri_label ?_ | refine tri_exit ?_ | refine tri_ret ?_ | refine tri_block ?_)
     refine at_fit (s + 1) ⟨⟨by omega, by omega, ?_⟩, by omega⟩ rfl ?_
     ·rw [show (s + 1).toNat = s.toNat + 1 from by omega, range_step, hs2, okS, hA, hU, hX]; rfl
     ·simp only [fitE, fitV, as_val, true_or, List.map_nil, and_self, go_sem, T3, T4, T22, T23, T24, T27, T30, T33, EL_T, EL_G, EL_Γ, EL_el, capT, G3_12]
 ·repeat (first | refine at_next ?_ | refine at_then_exit ?_ | refine at_then_ret ?_ | refine at_block_norm ?_ | refine at_block_ret ?_ | refine at_block_exit ?_ | refine at_block_other (by decide) ?_ | refine at_then_norm ?_ | refine tri_seq ?_ | refine tri_skip ?_ | refine tri_label ?_ | refine tri_exit ?_ | refine tri_ret ?_ | refine tri_block ?_)
  (refine tri_region hF [6] ?_; simp only [go_sem, T3, T4, T22, T23, T24, T27, T30, T33, EL_T, EL_G, EL_Γ, EL_el, capT, G3_12])
  repeat (first | refine at_next ?_ | refine at_then_exit ?_ | refine at_then_ret ?_ | refine at_block_norm ?_ | refine at_block_ret ?_ | refine at_block_exit ?_ | refine at_block_other (by decide) ?_ | refine at_then_norm ?_ | refine tri_seq ?_ | refine tri_skip ?_ | refine tri_label ?_ | refine tri_exit ?_ | refine tri_ret ?_ | refine tri_block ?_)
  ((first | refine at_ren [] rfl rfl ?_ | refine tri_ren [] rfl rfl ?_); simp only [ren, ren1, renO, posOf, posAll, go_sem, T3, T4, T22, T23, T24, T27, T30, T33, EL_T, EL_G, EL_Γ, EL_el, capT, G3_12])
  (refine at_ret [6] rfl rfl rfl ?_; simp only [retOK, as_val, List.map_nil, go_sem, T3, T4, T22, T23, T24, T27, T30, T33, EL_T, EL_G, EL_Γ, EL_el, capT, G3_12])
  rw [hmay, show outs.length = s.toNat from by omega, hs2]
end Gr
end Go.Proofs
namespace Go.Proofs
open Go.Vc
namespace Gr
def tab2 : List (TypeId × Ty) := [(31, .arr 64 (.i .i64)), (32, .arr 16 (.arr 64 (.i .i64))), (34, .arr 64 .bool), (35, .arr 16 (.arr 64 .bool))] ++ tab
theorem tab2OK : TabOK Try.prog (look2 tab2) := tabOK_of (by kernel_rfl)
theorem el2OK : ∀ t ct, look2 tab2 t = some (.sl ct) → Try.prog.underlying t = some (.slice (elT t)) := by
 intro t ct h
 have := look2_mem h
 simp only [tab2, tab, List.cons_append, List.nil_append, List.mem_cons, Prod.mk.injEq, reduceCtorEq, and_false, false_or, List.not_mem_nil, or_false] at this
 rcases this with ⟨rfl, _⟩ | ⟨rfl, _⟩ | ⟨rfl, _⟩ | ⟨rfl, _⟩ | ⟨rfl, _⟩ <;> rfl
def EM (l : List (FuncId × FSpec)) : Env := ⟨look2 tab2, fun _ => .junk, fun f _ => gam l f, elT, mpT⟩
def TM : Tab := look2 tab2
theorem EM_T (l : List (FuncId × FSpec)) (t : TypeId) : (EM l).T t = TM t := rfl
theorem EM_G (l : List (FuncId × FSpec)) (t : Nat) : (EM l).G t = .junk := rfl
theorem EM_Γ (l : List (FuncId × FSpec)) (f : FuncId) (vs : List AV) : (EM l).Γ f vs = gam l f := rfl
theorem EM_mp (l : List (FuncId × FSpec)) (t : TypeId) : (EM l).mp t = mpT t := rfl
theorem EM_el (l : List (FuncId × FSpec)) (t : TypeId) : (EM l).el t = elT t := rfl
theorem EM_ok {l : List (FuncId × FSpec)} (h : Known Try.prog (fun _ => .junk) l) : EnvOK Try.prog (EM l) := envOK_of tab2OK el2OK mpOK h
theorem U3 : TM 3 = some (.i .i64) := rfl
theorem U4 : TM 4 = some .bool := rfl
theorem U22 : TM 22 = some (.sl (.i .i64)) := rfl
theorem U23 : TM 23 = some (.sl (.sl (.sl (.i .i64)))) := rfl
theorem U24 : TM 24 = some (.sl (.sl (.arr 2 (.i .i64)))) := rfl
theorem U27 : TM 27 = some (.sl (.arr 2 (.i .i64))) := rfl
theorem U30 : TM 30 = some (.arr 2 (.i .i64)) := rfl
theorem U31 : TM 31 = some (.arr 64 (.i .i64)) := rfl
theorem U32 : TM 32 = some (.arr 16 (.arr 64 (.i .i64))) := rfl
theorem U33 : TM 33 = some (.sl (.sl (.i .i64))) := rfl
theorem U34 : TM 34 = some (.arr 64 .bool) := rfl
theorem U35 : TM 35 = some (.arr 16 (.arr 64 .bool)) := rfl
def rdy (uses frm : List (List (List Int))) (out : List (List Int)) (s k : Nat) : Bool :=
 !(out.contains [(s : Int), (k : Int)]) && ((uses.getD s []).getD k []).all (fun i => out.contains ((frm.getD s []).getD i.toNat (List.replicate 2 0)))
def rowP (outs : List Int) (uses frm : List (List (List Int))) (out : List (List Int)) (s : Nat) : Option (List Int) :=
 ((List.range (outs.getD s 0).toNat).find? (rdy uses frm out s)).map fun (k : Nat) => [(s : Int), (k : Int)]
def nextP (outs : List Int) (uses frm : List (List (List Int))) (out : List (List Int)) : Option (List Int) := (List.range outs.length).findSome? (rowP outs uses frm out)
def ordGo (outs : List Int) (uses frm : List (List (List Int))) (all : Int) : Nat → List (List Int) → List (List Int) × Int
 | 0, out => (out, 0)
 | n + 1, out => if (out.length : Int) < all then match nextP outs uses frm out with
  | some p => ordGo outs uses frm all n (out ++ [p])
  | none => ([], 7)
  else (out, 0)
def sumI (l : List Int) : Int := l.foldl (· + ·) 0
def ordF (outs : List Int) (uses frm : List (List (List Int))) (out : List (List Int)) : List (List Int) × Int := ordGo outs uses frm (sumI outs) (sumI outs - out.length).toNat out
def ordT (outs : List Int) (uses frm : List (List (List Int))) : List (List Int) × Int × Unit :=
 if mayG outs uses frm = true then ((ordF outs uses frm []).1, (ordF outs uses frm []).2, ()) else ([], 1, ())
theorem ordF_more {outs : List Int} {uses frm : List (List (List Int))} {out : List (List Int)} (h : (out.length : Int) < sumI outs) : ordF outs uses frm out = match nextP outs uses frm out with
  | some p => ordF outs uses frm (out ++ [p])
  | none => ([], 7) := by
 unfold ordF
 have e : (sumI outs - out.length).toNat = (sumI outs - (out.length + 1 : Nat)).toNat + 1 := by omega
 rw [e, ordGo, if_pos h]
 cases nextP outs uses frm out with
 | none => rfl
 | some p => simp
theorem ordF_end {outs : List Int} {uses frm : List (List (List Int))} {out : List (List Int)} (h : ¬ (out.length : Int) < sumI outs) : ordF outs uses frm out = (out, 0) := by
 unfold ordF
 rw [show (sumI outs - out.length).toNat = 0 from by omega]; rfl
attribute [go_sem] U3 U4 U22 U23 U24 U27 U30 U31 U32 U33 U34 U35 EM_T EM_G EM_Γ EM_el EM_mp mpT
attribute [go_sem] elT
theorem find_at (p : Nat → Bool) {n k : Nat} (h0 : (List.range k).find? p = none) (hk : k < n) (hp : p k = true) : (List.range n).find? p = some k := by
 induction n with
 | zero => omega
 | succ n ih =>
  rw [List.range_succ, List.find?_append]
  rcases Nat.lt_or_ge k n with h | h
  ·rw [ih h]; rfl
  ·obtain rfl : k = n := by omega
   rw [h0]; simp [hp]
theorem find_step (p : Nat → Bool) {k : Nat} (h0 : (List.range k).find? p = none) (hp : p k = false) : (List.range (k + 1)).find? p = none := by
 rw [List.range_succ, List.find?_append, h0]; simp [hp]
theorem some_at {α : Type} (p : Nat → Option α) {n k : Nat} {v : α} (h0 : (List.range k).findSome? p = none) (hk : k < n) (hp : p k = some v) : (List.range n).findSome? p = some v := by
 induction n with
 | zero => omega
 | succ n ih =>
  rw [List.range_succ, List.findSome?_append]
  rcases Nat.lt_or_ge k n with h | h
  ·rw [ih h]; rfl
  ·obtain rfl : k = n := by omega
   rw [h0]; simp [hp]
theorem some_step {α : Type} (p : Nat → Option α) {k : Nat} (h0 : (List.range k).findSome? p = none) (hp : p k = none) : (List.range (k + 1)).findSome? p = none := by
 rw [List.range_succ, List.findSome?_append, h0]; simp [hp]
theorem next_at {outs : List Int} {uses frm : List (List (List Int))} {out : List (List Int)} {s k : Nat} (hs : s < outs.length) (hn : (List.range s).findSome? (rowP outs uses frm out) = none) (hk : (k : Int) < outs.getD s 0) (hn2 : (List.range k).find? (rdy uses frm out s) = none) (hr : rdy uses frm out s k = true) : nextP outs uses frm out = some [(s : Int), (k : Int)] := by
 refine some_at _ hn hs ?_
 rw [rowP, find_at _ hn2 (by omega) hr]; rfl
end Gr
end Go.Proofs
namespace Go.Proofs
open Go.Vc
namespace Gr
abbrev KT : Ty := .arr 2 (.i .i64)
theorem eq2 {x y : List Int} (hx : x.length = 2) (hy : y.length = 2) : KT.eqb x y = decide (x = y) := by
 match x, y, hx, hy with
 | [a, b], [c, d], _, _ => simp [Ty.eqb]
def Key2 (m : List (List Int × Bool)) : Prop := ∀ p ∈ m, p.1.length = 2
theorem mget_mput {m : List (List Int × Bool)} (hm : Key2 m) {x x' : List Int} (hx : x.length = 2) (hx' : x'.length = 2) (y : Bool) : mget KT (mput KT m x y) x' = if x = x' then some y else mget KT m x' := by
 induction m with
 | nil =>
  simp only [mput, mget, eq2 hx' hx, decide_eq_true_eq]
  by_cases e : x = x'
  ·subst e; rfl
  ·rw [if_neg e, if_neg (fun h => e h.symm)]
 | cons p r ih =>
  obtain ⟨k, v⟩ := p
  have hk : k.length = 2 := hm (k, v) (by simp)
  have ih := ih (fun p hp => hm p (by simp [hp]))
  simp only [mput, eq2 hx hk, decide_eq_true_eq]
  by_cases e : x = k
  ·subst e
   simp only [if_true, mget, eq2 hx' hx, decide_eq_true_eq]
   by_cases e2 : x' = x
   ·simp [e2]
   ·rw [if_neg e2, if_neg (fun h => e2 h.symm), if_neg e2]
  ·simp only [e, if_false, mget, eq2 hx' hk, decide_eq_true_eq, ih]
   by_cases e2 : x' = k
   ·subst e2; simp [e]
   ·simp [e2]
theorem Key2_mput {m : List (List Int × Bool)} (hm : Key2 m) {x : List Int} (hx : x.length = 2) (y : Bool) : Key2 (mput KT m x y) := by
 induction m with
 | nil => intro p hp; simp [mput] at hp; rw [hp]; exact hx
 | cons p r ih =>
  obtain ⟨k, v⟩ := p
  have hk : k.length = 2 := hm (k, v) (by simp)
  have ih := ih (fun p hp => hm p (by simp [hp]))
  intro p hp
  simp only [mput] at hp
  split at hp
  ·rcases List.mem_cons.1 hp with rfl | hp
   ·exact hk
   ·exact hm p (by simp [hp])
  ·rcases List.mem_cons.1 hp with rfl | hp
   ·exact hk
   ·exact ih p hp
def MapR (m : List (List Int × Bool)) (out : List (List Int)) : Prop := Key2 m ∧ ∀ x : List Int, x.length = 2 → (mget KT m x).getD false = out.contains x
theorem MapR_start : MapR [] [] := ⟨(fun p hp => by cases hp), fun x hx => rfl⟩
theorem MapR_put {m : List (List Int × Bool)} {out : List (List Int)} (h : MapR m out) {x : List Int} (hx : x.length = 2) : MapR (mput KT m x true) (out ++ [x]) := by
 refine ⟨Key2_mput h.1 hx true, fun x' hx' => ?_⟩
 rw [mget_mput h.1 hx hx', List.contains_append]
 by_cases e : x = x'
 ·subst e; simp
 ·rw [if_neg e, h.2 x' hx']
  have : (List.contains [x] x') = false := by simp [eq_comm, e]
  rw [this, Bool.or_false]
def sp11 : FSpec := ⟨args3, .one .bool, fun _ => True, fun x => mayG x.1 x.2.1 x.2.2.1⟩
def gl5 : List (FuncId × FSpec) := [(11, sp11)]
theorem G11 : gam gl5 11 = some sp11 := rfl
theorem K11 : Known Try.prog (fun _ => .junk) gl5 := .cons may_ok (by kernel_rfl) .nil
attribute [go_sem] G11 sp11
theorem Order_ok : FOK Try.prog (fun _ => .junk) 8 ⟨args3, .tup (.pair (.sl (.arr 2 (.i .i64))) (.pair (.i .i64) .unit)), fun _ => True, fun x => ordT x.1 x.2.1 x.2.2.1⟩ := by
 refine fok_of (EM_ok K11) Try.func8 rfl (by kernel_rfl) (by decide) fun w0 S x hw _ => ?_
 obtain ⟨(outs : List Int), (uses : List (List (List Int))), (frm : List (List (List Int))), u⟩ := x
 simp only [args3, Ty.wf] at hw
 obtain ⟨⟨hw1, hw2⟩, ⟨hw3, hw4⟩, ⟨hw5, hw6⟩, _⟩ := hw
 have hF : FrOK (fr Try.prog (EM gl5) S w0 Try.f8.ntmps) := ⟨EM_ok K11, mix⟩
 simp only [args0, args3]
 refine tri_seq (tri_region hF [0, 1, 2] ?_)
 simp only [go_sem]
 refine at_next (tri_scope (tri_seq (tri_seq (tri_region hF [0, 1, 2, 22] ?_))))
 simp only [go_sem]
 repeat (refine ⟨by (intros; first | omega | assumption | decide), ?_⟩)
 refine at_next (tri_cond rfl (fun hc => ?_) (fun hc => ?_))
 ·try simp only [go_sem] at hc
  refine tri_seq (tri_region hF [6, 7] ?_)
  simp only [go_sem]
  refine at_next (tri_ret (at_then_ret (at_scope_ret (at_ret [6, 7] rfl rfl rfl ?_))))
  simp only [retOK, go_sem]
  simp only [ordT, hc, Bool.false_eq_true, if_false]
 ·try simp only [go_sem] at hc
  have hmay := hc
  clear hc
  have hm : mayG outs uses frm = true := hmay
  simp only [mayG, Bool.and_eq_true, decide_eq_true_eq] at hmay
  obtain ⟨⟨⟨hl1, hl2⟩, hl3⟩, hl4⟩ := hmay
  have hoks : ∀ s, s < outs.length → okS outs uses frm s = true := fun s hs => List.all_eq_true.1 hl4 s (List.mem_range.2 hs)
  have hout : ∀ s, s < outs.length → 0 ≤ outs.getD s 0 ∧ outs.getD s 0 ≤ 64 ∧ ((uses.getD s []).length : Int) = outs.getD s 0 := fun s hs => by
   have := hoks s hs
   simp only [okS, okA, Bool.and_eq_true, decide_eq_true_eq] at this
   exact ⟨this.1.1.1.1, this.1.1.1.2, this.1.1.2⟩
  have hlen : ∀ s k, s < outs.length → k < (uses.getD s []).length → ((uses.getD s []).getD k []).length ≤ maxLen := fun s k hs hk => by
   have := ((hw4 _ (mem_getD [] (show s < uses.length by omega))).2 _ (mem_getD [] hk)).1
   exact this
  have hI : ∀ s k i, s < outs.length → k < (uses.getD s []).length → i < ((uses.getD s []).getD k []).length → 0 ≤ ((uses.getD s []).getD k []).getD i 0 ∧ ((uses.getD s []).getD k []).getD i 0 < (frm.getD s []).length := fun s k i hs hk hi => by
   have := hoks s hs
   simp only [okS, Bool.and_eq_true, List.all_eq_true] at this
   have := this.1.2 _ (mem_getD [] hk) _ (mem_getD 0 hi)
   simpa only [okI, Bool.and_eq_true, decide_eq_true_eq] using this
  refine tri_skip (at_next (tri_seq (tri_region hF [0, 1, 2, 8] ?_)))
  simp only [go_sem]
  refine at_next (tri_seq (tri_regionB hF [0, 1, 2, 8, 9] ?_))
  simp only [go_sem]
  refine at_next (tri_seq (tri_region hF [0, 1, 2, 8, 9, 10] ?_))
  simp only [go_sem]
  refine at_nilrow 8 30 (.arr 2 (.i .i64)) rfl ?_
  simp only [go_sem]
  refine at_next (tri_seq (tri_seq (tri_region hF [0, 1, 2, 8, 9, 10, 24, 25, 26] ?_)))
  simp only [go_sem]
  repeat (refine ⟨by (intros; first | omega | assumption | decide), ?_⟩)
  refine at_next (tri_block (tri_loopU (D := Int) [0, 1, 2, 8, 9, 24, 25] (fun s => 0 ≤ s ∧ s ≤ outs.length ∧ 0 ≤ sumI (outs.take s.toNat) ∧ sumI (outs.take s.toNat) ≤ 64 * s) (fun s => (outs.length - s).toNat) (fun s => [(10, .val (.i .i64) (sumI (outs.take s.toNat))), (26, .val (.i .i64) s)]) (fun s => []) (at_fit (0) ?_ rfl ?_) ?_))
  ·simp [sumI]
  ·simp only [fitE, fitV, true_or, and_self, go_sem]
   simp [sumI]
  rintro s ⟨hs0, hs1, hs2, hs3⟩
  simp only [go_sem]
  refine tri_seq (tri_region hF [0, 1, 2, 8, 9, 10, 24, 25, 26, 27] ?_)
  simp only [go_sem]
  refine at_next (tri_seq (tri_cond rfl (fun hc => ?_) (fun hc => ?_)))
  ·try simp only [go_sem] at hc
   have hsn : s.toNat < outs.length := by omega
   have hstep : sumI (outs.take (s.toNat + 1)) = sumI (outs.take s.toNat) + outs.getD s.toNat 0 := by
    rw [List.take_succ_eq_append_getElem hsn, sumI, List.foldl_append, List.getD_eq_getElem?_getD, List.getElem?_eq_getElem hsn]; rfl
   have hb := hout s.toNat hsn
   refine tri_skip (at_next (tri_seq (tri_block (tri_seq (tri_region hF [0, 1, 2, 8, 9, 10, 12, 24, 25, 26] ?_)))))
   simp only [go_sem]
   repeat (refine ⟨by (intros; first | omega | assumption | decide), ?_⟩)
   refine at_next (tri_region hF [0, 1, 2, 8, 9, 10, 24, 25, 26] ?_)
   simp only [go_sem]
   repeat (refine ⟨by (intros; first | omega | assumption | decide), ?_⟩)
   refine at_block_norm (at_next (tri_region hF [0, 1, 2, 8, 9, 10, 24, 25, 26] ?_))
   simp only [go_sem]
   repeat (refine ⟨by (intros; first | omega | assumption | decide), ?_⟩)
   refine at_then_norm (at_fit (s + 1) ?_ rfl ?_)
   ·refine ⟨⟨by omega, by omega, ?_, ?_⟩, by omega⟩ <;> (rw [show (s + 1).toNat = s.toNat + 1 from by omega, hstep]; omega)
   ·rw [show (s + 1).toNat = s.toNat + 1 from by omega, hstep]
    simp only [fitE, fitV, true_or, and_self, go_sem]
  ·try simp only [go_sem] at hc
   have hall : outs.take s.toNat = outs := List.take_of_length_le (by omega)
   rw [hall] at hs2 hs3
   simp only [hall]
   have hsum : sumI outs ≤ 1024 := by omega
   clear hall hc hs0 hs1 hs3
   refine tri_exit (at_then_exit (at_then_exit (at_block_exit (at_next (tri_seq (tri_label (at_next (tri_seq (tri_block (tri_loopU (D := List (List Int) × List (List Int × Bool)) [0, 1, 2, 9, 10] (fun d => ordF outs uses frm [] = ordF outs uses frm d.1 ∧ d.1.length ≤ sumI outs ∧ MapR d.2 d.1) (fun d => (sumI outs - d.1.length).toNat) (fun d => [(8, .own 1)]) (fun d => [(0, .map (.arr 2 (.i .i64)) .bool d.2), (1, .row 30 (.arr 2 (.i .i64)) d.1)]) (at_fit (([], [])) ?_ rfl ?_) ?_))))))))))
   ·exact ⟨rfl, by simpa using hs2, MapR_start⟩
   ·simp only [fitE, fitV, true_or, and_self, go_sem]
   rintro ⟨out, m⟩ ⟨ho1, ho2, ho3⟩
   simp only [go_sem]
   simp only at ho1 ho2 ho3
   refine tri_seq (tri_seq (tri_region hF [0, 1, 2, 8, 9, 10, 37] ?_))
   simp only [go_sem]
   repeat (refine ⟨by (intros; first | omega | assumption | decide), ?_⟩)
   refine at_next (tri_cond rfl (fun hc => ?_) (fun hc => ?_))
   ·try simp only [go_sem] at hc
    have hmore := ordF_more (outs := outs) (uses := uses) (frm := frm) (out := out) (by simpa using hc)
    refine tri_skip (at_next (tri_block (tri_seq (tri_seq (tri_region hF [0, 1, 2, 8, 9, 10, 38, 39, 40] ?_)))))
    simp only [go_sem]
    repeat (refine ⟨by (intros; first | omega | assumption | decide), ?_⟩)
    refine at_next (tri_block (tri_loopU (D := Int) [0, 1, 2, 9, 10, 38, 39] (fun s => 0 ≤ s ∧ s ≤ outs.length ∧ (List.range s.toNat).findSome? (rowP outs uses frm out) = none) (fun s => (outs.length - s).toNat) (fun s => [(8, .own 1), (40, .val (.i .i64) s)]) (fun s => []) (at_fit (0) ?_ rfl ?_) ?_))
    ·exact ⟨Int.le_refl _, by omega, rfl⟩
    ·simp only [fitE, fitV, true_or, and_self, go_sem]
    rintro s ⟨hs0, hs1, hn⟩
    simp only [go_sem]
    refine tri_seq (tri_region hF [0, 1, 2, 8, 9, 10, 38, 39, 40, 41] ?_)
    simp only [go_sem]
    refine at_next (tri_seq (tri_cond rfl (fun hc => ?_) (fun hc => ?_)))
    ·try simp only [go_sem] at hc
     have hsn : s.toNat < outs.length := by omega
     have hb := hout s.toNat hsn
     refine tri_skip (at_next (tri_seq (tri_block (tri_seq (tri_region hF [0, 1, 2, 8, 9, 10, 13, 14, 38, 39, 40] ?_)))))
     simp only [go_sem]
     repeat (refine ⟨by (intros; first | omega | assumption | decide), ?_⟩)
     refine at_next (tri_scope (tri_seq (tri_label (at_next (tri_seq (tri_region hF [0, 1, 2, 8, 9, 10, 13, 38, 39, 40, 45, 46] ?_))))))
     simp only [go_sem]
     refine at_next (tri_block (tri_loopU (D := Int) [0, 1, 2, 9, 10, 13, 38, 39, 40, 45] (fun k => 0 ≤ k ∧ k ≤ outs.getD s.toNat 0 ∧ (List.range k.toNat).find? (rdy uses frm out s.toNat) = none) (fun k => (outs.getD s.toNat 0 - k).toNat) (fun k => [(8, .own 1), (46, .val (.i .i64) k)]) (fun k => []) (at_fit (0) ?_ rfl ?_) ?_))
     ·exact ⟨Int.le_refl _, hb.1, rfl⟩
     ·simp only [fitE, fitV, true_or, and_self, go_sem]
     rintro k ⟨hk0, hk1, hn2⟩
     simp only [go_sem]
     refine tri_seq (tri_region hF [0, 1, 2, 8, 9, 10, 13, 38, 39, 40, 45, 46, 47] ?_)
     simp only [go_sem]
     refine at_next (tri_seq (tri_cond rfl (fun hc => ?_) (fun hc => ?_)))
     ·try simp only [go_sem] at hc
      have hkn : k.toNat < (uses.getD s.toNat []).length := by omega
      have hlk := hlen s.toNat k.toNat hsn hkn
      simp only [maxLen_eq] at hlk
      have hsk := ho3.2 [s, k] rfl
      have hfail : rdy uses frm out s.toNat k.toNat = false → (List.range (k + 1).toNat).find? (rdy uses frm out s.toNat) = none := fun h => by
       rw [show (k + 1).toNat = k.toNat + 1 from by omega]
       exact find_step _ hn2 h
      refine tri_skip (at_next (tri_seq (tri_block (tri_seq (tri_region hF [0, 1, 2, 8, 9, 10, 13, 15, 38, 39, 40, 45, 46] ?_)))))
      simp only [go_sem]
      refine at_next (tri_seq (tri_seq (tri_region hF [0, 1, 2, 8, 9, 10, 13, 15, 38, 39, 40, 45, 46, 53] ?_)))
      simp only [go_sem]
      repeat (refine ⟨by (intros; first | omega | assumption | decide), ?_⟩)
      simp only [hsk]
      refine at_next (tri_cond rfl (fun hc => ?_) (fun hc => ?_))
      ·try simp only [go_sem] at hc
       have hf := hfail (by simp only [rdy, Int.toNat_of_nonneg hs0, Int.toNat_of_nonneg hk0, hc, Bool.not_true, Bool.false_and])
       refine tri_exit (at_then_exit (at_block_exit (at_next (tri_region hF [0, 1, 2, 8, 9, 10, 13, 38, 39, 40, 45, 46] ?_))))
       simp only [go_sem]
       repeat (refine ⟨by (intros; first | omega | assumption | decide), ?_⟩)
       refine at_then_norm (at_fit (k + 1) ?_ rfl ?_)
       ·exact ⟨⟨by omega, by omega, hf⟩, by omega⟩
       ·simp only [fitE, fitV, true_or, and_self, go_sem]
      ·try simp only [go_sem] at hc
       have hnc := hc
       refine tri_skip (at_next (tri_seq (tri_seq (tri_region hF [0, 1, 2, 8, 9, 10, 13, 15, 38, 39, 40, 45, 46, 60, 61, 62] ?_))))
       simp only [go_sem]
       repeat (refine ⟨by (intros; first | omega | assumption | decide), ?_⟩)
       refine at_next (tri_block (tri_loopU (D := Int) [0, 1, 2, 8, 9, 10, 13, 15, 38, 39, 40, 45, 46, 60, 61] (fun i => 0 ≤ i ∧ i ≤ ((uses.getD s.toNat []).getD k.toNat []).length ∧ (((uses.getD s.toNat []).getD k.toNat []).take i.toNat).all (fun i => out.contains ((frm.getD s.toNat []).getD i.toNat (List.replicate 2 0))) = true) (fun i => (((uses.getD s.toNat []).getD k.toNat []).length - i).toNat) (fun i => [(62, .val (.i .i64) i)]) (fun i => []) (at_fit (0) ?_ rfl ?_) ?_))
       ·exact ⟨Int.le_refl _, by omega, rfl⟩
       ·simp only [fitE, fitV, true_or, and_self, go_sem]
       rintro i ⟨hi0, hi1, hi2⟩
       simp only [go_sem]
       refine tri_seq (tri_region hF [0, 1, 2, 8, 9, 10, 13, 15, 38, 39, 40, 45, 46, 60, 61, 62, 63] ?_)
       simp only [go_sem]
       refine at_next (tri_seq (tri_cond rfl (fun hc => ?_) (fun hc => ?_)))
       ·try simp only [go_sem] at hc
        have hin : i.toNat < ((uses.getD s.toNat []).getD k.toNat []).length := by omega
        have hIi := hI s.toNat k.toNat i.toNat hsn hkn hin
        have hL : (frm.getD s.toNat []).getD (((uses.getD s.toNat []).getD k.toNat []).getD i.toNat 0).toNat (List.replicate 2 0) ∈ frm.getD s.toNat [] := mem_getD _ (by omega)
        have hL := ((hw6 _ (mem_getD [] (show s.toNat < frm.length by omega))).2 _ hL).1
        have hsk2 := ho3.2 _ hL
        refine tri_skip (at_next (tri_seq (tri_block (tri_seq (tri_region hF [0, 1, 2, 8, 9, 10, 13, 15, 17, 38, 39, 40, 45, 46, 60, 61, 62] ?_)))))
        simp only [go_sem]
        repeat (refine ⟨by (intros; first | omega | assumption | decide), ?_⟩)
        refine at_next (tri_seq (tri_region hF [0, 1, 2, 8, 9, 10, 13, 15, 38, 39, 40, 45, 46, 60, 61, 62, 75] ?_))
        simp only [go_sem]
        repeat (refine ⟨by (intros; first | omega | assumption | decide), ?_⟩)
        simp only [hsk2]
        refine at_next (tri_cond rfl (fun hc => ?_) (fun hc => ?_))
        ·try simp only [go_sem] at hc
         have hf := hfail (by
          rw [rdy, all_false _ _ i.toNat 0 hin (by simpa using hc), Bool.and_false])
         refine tri_exit (at_block_other (by decide) (at_then_exit (at_then_exit (at_block_other (by decide) (at_then_exit (at_block_exit (at_next (tri_region hF [0, 1, 2, 8, 9, 10, 13, 38, 39, 40, 45, 46] ?_))))))))
         simp only [go_sem]
         repeat (refine ⟨by (intros; first | omega | assumption | decide), ?_⟩)
         refine at_then_norm (at_fit (k + 1) ?_ rfl ?_)
         ·exact ⟨⟨by omega, by omega, hf⟩, by omega⟩
         ·simp only [fitE, fitV, true_or, and_self, go_sem]
        ·try simp only [go_sem] at hc
         refine tri_skip (at_block_norm (at_next (tri_region hF [0, 1, 2, 8, 9, 10, 13, 15, 38, 39, 40, 45, 46, 60, 61, 62] ?_)))
         simp only [go_sem]
         repeat (refine ⟨by (intros; first | omega | assumption | decide), ?_⟩)
         refine at_then_norm (at_fit (i + 1) ?_ rfl ?_)
         ·refine ⟨⟨by omega, by omega, ?_⟩, by omega⟩
          rw [show (i + 1).toNat = i.toNat + 1 from by omega, all_step _ _ _ 0 hin, hi2, Bool.true_and]; simpa using hc
         ·simp only [fitE, fitV, true_or, and_self, go_sem]
       ·try simp only [go_sem] at hc
        have hrd : rdy uses frm out s.toNat k.toNat = true := by
         rw [rdy, Int.toNat_of_nonneg hs0, Int.toNat_of_nonneg hk0, hnc, ← hi2, all_end _ _ _ (by omega)]; rfl
        have hnx := next_at hsn hn (show ((k.toNat : Nat) : Int) < outs.getD s.toNat 0 by omega) hn2 hrd
        rw [Int.toNat_of_nonneg hs0, Int.toNat_of_nonneg hk0] at hnx
        rw [hnx] at hmore
        have hput := MapR_put ho3 (x := [s, k]) rfl
        refine tri_exit (at_then_exit (at_then_exit (at_block_exit (at_next (tri_seq (tri_regionB hF [0, 1, 2, 8, 9, 10, 13, 15] ?_))))))
        simp only [go_sem]
        repeat (refine ⟨by (intros; first | omega | assumption | decide), ?_⟩)
        refine at_next (tri_seq (tri_regionB hF [0, 1, 2, 8, 9, 10] ?_))
        simp only [go_sem]
        repeat (refine ⟨by (intros; first | omega | assumption | decide), ?_⟩)
        refine at_next (tri_exit (at_block_other (by decide) (at_then_exit (at_then_exit (at_block_other (by decide) (at_scope_exit (at_block_other (by decide) (at_then_exit (at_then_exit (at_block_other (by decide) (at_then_exit (at_block_exit (at_then_norm (at_ren [0, 2] rfl rfl ?_))))))))))))))
        simp only [ren, ren1, renO, posOf, posAll, go_sem]
        refine at_fit ((out ++ [[s, k]], mput KT m [s, k] true)) ?_ rfl ?_
        ·exact ⟨⟨by rw [ho1, hmore], by simp; omega, hput⟩, by simp; omega⟩
        ·simp only [fitE, fitV, true_or, and_self, go_sem]
     ·try simp only [go_sem] at hc
      refine tri_exit (at_then_exit (at_then_exit (at_block_exit (at_scope_norm (at_block_norm (at_next (tri_region hF [0, 1, 2, 8, 9, 10, 38, 39, 40] ?_)))))))
      simp only [go_sem]
      repeat (refine ⟨by (intros; first | omega | assumption | decide), ?_⟩)
      refine at_then_norm (at_fit (s + 1) ?_ rfl ?_)
      ·refine ⟨⟨by omega, by omega, ?_⟩, by omega⟩
       rw [show (s + 1).toNat = s.toNat + 1 from by omega]
       refine some_step _ hn ?_
       rw [rowP, show (outs.getD s.toNat 0).toNat = k.toNat from by omega, hn2]; rfl
      ·simp only [fitE, fitV, true_or, and_self, go_sem]
    ·try simp only [go_sem] at hc
     have hnone : nextP outs uses frm out = none := by
      rw [nextP, show outs.length = s.toNat from by omega]; exact hn
     refine tri_exit (at_then_exit (at_then_exit (at_block_exit (at_next (tri_seq (tri_region hF [6, 7] ?_))))))
     simp only [go_sem]
     refine at_next (tri_ret (at_block_ret (at_then_ret (at_block_ret (at_then_ret (at_scope_ret (at_ren [] rfl rfl ?_)))))))
     simp only [ren, ren1, renO, posOf, posAll, go_sem]
     refine at_ret [6, 7] rfl rfl rfl ?_
     simp only [retOK, go_sem]
     rw [ordT, if_pos hm, ho1, hmore, hnone]
   ·try simp only [go_sem] at hc
    refine tri_exit (at_then_exit (at_then_exit (at_block_exit (at_next (tri_seq (tri_region hF [6, 7] ?_))))))
    simp only [go_sem]
    refine at_next (tri_ret (at_scope_ret (at_ret [6, 7] rfl rfl rfl ?_)))
    simp only [retOK, go_sem]
    rw [ordT, if_pos hm, ho1, ordF_end (by omega)]
end Gr
end Go.Proofs
namespace Go.Proofs
open Go.Vc
namespace Gr
def sp8 : FSpec := ⟨args3, .tup (.pair (.sl (.arr 2 (.i .i64))) (.pair (.i .i64) .unit)), fun _ => True, fun x => ordT x.1 x.2.1 x.2.2.1⟩
def gl6 : List (FuncId × FSpec) := [(8, sp8)]
theorem G8 : gam gl6 8 = some sp8 := rfl
theorem K8 : Known Try.prog (fun _ => .junk) gl6 := .cons Order_ok (by kernel_rfl) .nil
attribute [go_sem] G8 sp8 args3
theorem o1 : ordT [1, 1] [[[0]], [[]]] [[[1, 0]], []] = ([[1, 0], [0, 0]], 0, ()) := by decide
theorem o2 : ordT [1] [[[0]]] [[[0, 0]]] = ([], 7, ()) := by decide
theorem o3 : ordT [1] [] [] = ([], 1, ()) := by decide
theorem o4 : ordT [] [] [] = ([], 0, ()) := by decide
theorem told_ok : FOK Try.prog (fun _ => .junk) 7 ⟨.unit, .one .bool, fun _ => True, fun _ => true⟩ := by
 refine fok_of (EM_ok K8) Try.func7 rfl (by kernel_rfl) (by decide) fun w0 S x hw _ => ?_
 have hF : FrOK (fr Try.prog (EM gl6) S w0 Try.f7.ntmps) := ⟨EM_ok K8, mix⟩
 simp only [args0]
 refine tri_seq (tri_region hF [] ?_)
 simp only [go_sem]
 refine at_next (tri_seq (tri_region hF [1, 2] ?_))
 simp only [go_sem]
 repeat (refine ⟨by (intros; first | omega | assumption | decide), ?_⟩)
 simp only [o1]
 refine at_next (tri_seq (tri_region hF [1, 2, 4] ?_))
 simp only [go_sem]
 repeat (refine ⟨by (intros; first | omega | assumption | decide), ?_⟩)
 simp only [o2]
 refine at_next (tri_seq (tri_region hF [1, 2, 4, 6] ?_))
 simp only [go_sem]
 repeat (refine ⟨by (intros; first | omega | assumption | decide), ?_⟩)
 simp only [o3]
 refine at_next (tri_seq (tri_region hF [1, 2, 4, 6, 7, 8] ?_))
 simp only [go_sem]
 repeat (refine ⟨by (intros; first | omega | assumption | decide), ?_⟩)
 simp only [o4]
 refine at_next (tri_seq (tri_region hF [0] ?_))
 simp only [go_sem]
 repeat (refine ⟨by (intros; first | omega | assumption | decide), ?_⟩)
 refine at_next (tri_ret (at_ret [0] rfl rfl rfl ?_))
 simp only [retOK, go_sem]
 decide
end Gr
end Go.Proofs
namespace Go.Proofs
open Go.Vc
set_option maxRecDepth 20000
namespace Rw
abbrev GL : Nat → AV := fun _ => .junk
attribute [go_sem] mSpec
def tab : List (TypeId × Ty) := [(3, .i .i64), (4, .bool), (22, .sl (.i .i64)), (23, .sl (.sl (.sl (.i .i64)))), (24, .sl (.sl (.arr 2 (.i .i64)))), (27, .sl (.arr 2 (.i .i64))), (30, .arr 2 (.i .i64)), (33, .sl (.sl (.i .i64))), (36, .u .u64)]
def elT : TypeId → TypeId
 | 22 => 3
 | 23 => 33
 | 24 => 27
 | 27 => 30
 | 33 => 22
 | _ => 0
def mpT : TypeId → Option (TypeId × TypeId)
 | _ => none
theorem tabOK : TabOK Try.prog (look2 tab) := tabOK_of (by kernel_rfl)
theorem elOK : ∀ t ct, look2 tab t = some (.sl ct) → Try.prog.underlying t = some (.slice (elT t)) := elOK_of (by kernel_rfl)
theorem mpOK : ∀ t k e, mpT t = some (k, e) → Try.prog.underlying t = some (.map k e) := by
 intro t k e h
 unfold mpT at h
 split at h
 ·cases h
def TM : Tab := look2 tab
def EM (l : List (FuncId × FSpec)) : Env := ⟨TM, GL, fun f _ => gam l f, elT, mpT⟩
theorem EM_T (l : List (FuncId × FSpec)) (t : TypeId) : (EM l).T t = TM t := rfl
theorem EM_G (l : List (FuncId × FSpec)) (t : Nat) : (EM l).G t = GL t := rfl
theorem EM_Γ (l : List (FuncId × FSpec)) (f : FuncId) (vs : List AV) : (EM l).Γ f vs = gam l f := rfl
theorem EM_el (l : List (FuncId × FSpec)) (t : TypeId) : (EM l).el t = elT t := rfl
theorem EM_mp (l : List (FuncId × FSpec)) (t : TypeId) : (EM l).mp t = mpT t := rfl
theorem EM_ok {l : List (FuncId × FSpec)} (h : Known Try.prog GL l) : EnvOK Try.prog (EM l) := envOK_of tabOK elOK mpOK h
theorem mix : Try.prog.follows .mixedOrders = true := by kernel_rfl
theorem T3 : TM 3 = some (.i .i64) := rfl
theorem T4 : TM 4 = some (.bool) := rfl
theorem T22 : TM 22 = some (.sl (.i .i64)) := rfl
theorem T23 : TM 23 = some (.sl (.sl (.sl (.i .i64)))) := rfl
theorem T24 : TM 24 = some (.sl (.sl (.arr 2 (.i .i64)))) := rfl
theorem T27 : TM 27 = some (.sl (.arr 2 (.i .i64))) := rfl
theorem T30 : TM 30 = some (.arr 2 (.i .i64)) := rfl
theorem T33 : TM 33 = some (.sl (.sl (.i .i64))) := rfl
theorem T36 : TM 36 = some (.u .u64) := rfl
attribute [go_sem] EM_T EM_G EM_Γ EM_el EM_mp elT mpT T3 T4 T22 T23 T24 T27 T30 T33 T36
def tru : Bool := true
def a_graph_Order : Ty := .pair (.sl (.i .i64)) (.pair (.sl (.sl (.sl (.i .i64)))) (.pair (.sl (.sl (.arr 2 (.i .i64)))) .unit))
def sp_graph_Order : FSpec := ⟨a_graph_Order, .tup (.pair (.sl (.arr 2 (.i .i64))) (.pair (.i .i64) .unit)), fun _ => True, fun x => Gr.ordT x.1 x.2.1 x.2.2.1⟩
theorem ok_graph_Order : FOK Try.prog GL 8 sp_graph_Order := Gr.Order_ok
def sp_law15_told : FSpec := ⟨.unit, .one .bool, fun _ => True, fun _ => true⟩
theorem ok_law15_told : FOK Try.prog GL 7 sp_law15_told := Gr.told_ok
attribute [go_sem] sp_graph_Order sp_law15_told a_graph_Order tru
noncomputable def m_law15_GraphRows_l19 (n_0 : Int) (outs_14 : (List Int)) (uses_15 : (List (List (List Int)))) (from_16 : (List (List (List Int)))) (shift_1 : Int) (p_19 : Int) : Option ((Int) ⊕ ((Unit) ⊕ Bool)) :=
 if p_19 < ((1 : Int) + (IntKind.i64.wrap (((((n_0 % (18446744073709551616 : Int)).toNat) % (12 : Nat)) : Nat) : Int))) then ck (0 ≤ p_19 ∧ p_19 < (((((Gr.ordT outs_14 uses_15 from_16).1).length) : Nat) : Int)) (ck (I64 (p_19 + ((1 : Int) + (IntKind.i64.wrap (((((n_0 % (18446744073709551616 : Int)).toNat) % (12 : Nat)) : Nat) : Int))))) (ck (I64 ((p_19 + ((1 : Int) + (IntKind.i64.wrap (((((n_0 % (18446744073709551616 : Int)).toNat) % (12 : Nat)) : Nat) : Int)))) - (IntKind.i64.wrap (((((shift_1 % (18446744073709551616 : Int)).toNat) % ((((1 : Int) + (IntKind.i64.wrap (((((n_0 % (18446744073709551616 : Int)).toNat) % (12 : Nat)) : Nat) : Int))) % (18446744073709551616 : Int)).toNat)) : Nat) : Int)))) (ck (((1 : Int) + (IntKind.i64.wrap (((((n_0 % (18446744073709551616 : Int)).toNat) % (12 : Nat)) : Nat) : Int))) ≠ 0) (if ¬ ((Ty.eqb (.arr 2 (.i .i64)) (((Gr.ordT outs_14 uses_15 from_16).1).getD (p_19.toNat) (List.replicate 2 (0 : Int))) ([(Int.tmod ((p_19 + ((1 : Int) + (IntKind.i64.wrap (((((n_0 % (18446744073709551616 : Int)).toNat) % (12 : Nat)) : Nat) : Int)))) - (IntKind.i64.wrap (((((shift_1 % (18446744073709551616 : Int)).toNat) % ((((1 : Int) + (IntKind.i64.wrap (((((n_0 % (18446744073709551616 : Int)).toNat) % (12 : Nat)) : Nat) : Int))) % (18446744073709551616 : Int)).toNat)) : Nat) : Int))) ((1 : Int) + (IntKind.i64.wrap (((((n_0 % (18446744073709551616 : Int)).toNat) % (12 : Nat)) : Nat) : Int)))), 0] : List Int)) = true) then some (.inr (.inr false)) else ck (I64 (p_19 + (1 : Int))) (some (.inl (p_19 + (1 : Int)))))))) else some (.inr (.inl ()))
noncomputable def m_law15_GraphRows_j1 (ring_2 : Bool) (n_0 : Int) (shift_1 : Int) (outs_14 : (List Int)) (uses_15 : (List (List (List Int)))) (from_16 : (List (List (List Int)))) : Option (Bool) :=
 if ring_2 = true then some ((tru && (decide ((((Gr.ordT outs_14 uses_15 from_16).2).1) = (7 : Int)))) && (decide ((((((Gr.ordT outs_14 uses_15 from_16).1).length) : Nat) : Int) = (0 : Int)))) else if (¬ ((((Gr.ordT outs_14 uses_15 from_16).2).1) = (0 : Int))) ∨ (¬ ((((((Gr.ordT outs_14 uses_15 from_16).1).length) : Nat) : Int) = ((1 : Int) + (IntKind.i64.wrap (((((n_0 % (18446744073709551616 : Int)).toNat) % (12 : Nat)) : Nat) : Int))))) then some false else (loopO (fun d : Int => m_law15_GraphRows_l19 n_0 outs_14 uses_15 from_16 shift_1 d) (0 : Int)).bind (fun e => match e with | (.inl e) => some tru | (.inr e) => some e)
noncomputable def m_law15_GraphRows_j2 (i_23 : Int) (n_0 : Int) (from_26 : (List (List (List Int)))) (outs_24 : (List Int)) (uses_36 : (List (List (List Int)))) : Option ((Int × (List Int) × (List (List (List Int))) × (List (List (List Int)))) ⊕ (((List Int) × (List (List (List Int))) × (List (List (List Int)))))) :=
 ck (I64 (i_23 + ((1 : Int) + (IntKind.i64.wrap (((((n_0 % (18446744073709551616 : Int)).toNat) % (12 : Nat)) : Nat) : Int))))) (ck (I64 ((i_23 + ((1 : Int) + (IntKind.i64.wrap (((((n_0 % (18446744073709551616 : Int)).toNat) % (12 : Nat)) : Nat) : Int)))) - (1 : Int))) (ck (((1 : Int) + (IntKind.i64.wrap (((((n_0 % (18446744073709551616 : Int)).toNat) % (12 : Nat)) : Nat) : Int))) ≠ 0) (ck (0 ≤ i_23 ∧ i_23 < (((from_26.length) : Nat) : Int)) (ck (I64 (i_23 + (1 : Int))) (some (.inl ((i_23 + (1 : Int)), (outs_24.set (i_23.toNat) (1 : Int)), uses_36, (from_26.set (i_23.toNat) ([([(Int.tmod ((i_23 + ((1 : Int) + (IntKind.i64.wrap (((((n_0 % (18446744073709551616 : Int)).toNat) % (12 : Nat)) : Nat) : Int)))) - (1 : Int)) ((1 : Int) + (IntKind.i64.wrap (((((n_0 % (18446744073709551616 : Int)).toNat) % (12 : Nat)) : Nat) : Int)))), 0] : List Int)] : List (List Int))))))))))
noncomputable def m_law15_GraphRows_l5 (n_0 : Int) (shift_1 : Int) (ring_2 : Bool) (i_23 : Int) (outs_24 : (List Int)) (uses_25 : (List (List (List Int)))) (from_26 : (List (List (List Int)))) : Option ((Int × (List Int) × (List (List (List Int))) × (List (List (List Int)))) ⊕ (((List Int) × (List (List (List Int))) × (List (List (List Int)))))) :=
 if i_23 < ((1 : Int) + (IntKind.i64.wrap (((((n_0 % (18446744073709551616 : Int)).toNat) % (12 : Nat)) : Nat) : Int))) then ck (I64 (i_23 + (IntKind.i64.wrap (((((shift_1 % (18446744073709551616 : Int)).toNat) % ((((1 : Int) + (IntKind.i64.wrap (((((n_0 % (18446744073709551616 : Int)).toNat) % (12 : Nat)) : Nat) : Int))) % (18446744073709551616 : Int)).toNat)) : Nat) : Int)))) (ck (((1 : Int) + (IntKind.i64.wrap (((((n_0 % (18446744073709551616 : Int)).toNat) % (12 : Nat)) : Nat) : Int))) ≠ 0) (ck (0 ≤ i_23 ∧ i_23 < (((outs_24.length) : Nat) : Int)) (ck (0 ≤ i_23 ∧ i_23 < (((uses_25.length) : Nat) : Int)) (if ((0 : Int) < (Int.tmod (i_23 + (IntKind.i64.wrap (((((shift_1 % (18446744073709551616 : Int)).toNat) % ((((1 : Int) + (IntKind.i64.wrap (((((n_0 % (18446744073709551616 : Int)).toNat) % (12 : Nat)) : Nat) : Int))) % (18446744073709551616 : Int)).toNat)) : Nat) : Int))) ((1 : Int) + (IntKind.i64.wrap (((((n_0 % (18446744073709551616 : Int)).toNat) % (12 : Nat)) : Nat) : Int))))) ∨ (ring_2 = true) then ck (0 ≤ i_23 ∧ i_23 < ((((uses_25.set (i_23.toNat) ([([] : List Int)] : List (List Int))).length) : Nat) : Int)) (m_law15_GraphRows_j2 i_23 n_0 from_26 outs_24 ((uses_25.set (i_23.toNat) ([([] : List Int)] : List (List Int))).set (i_23.toNat) ([([0] : List Int)] : List (List Int)))) else m_law15_GraphRows_j2 i_23 n_0 from_26 outs_24 (uses_25.set (i_23.toNat) ([([] : List Int)] : List (List Int))))))) else some (.inr (outs_24, uses_25, from_26))
noncomputable def m_law15_GraphRows (n_0 : Int) (shift_1 : Int) (ring_2 : Bool) : Option Bool :=
 ck (I64 ((1 : Int) + (IntKind.i64.wrap (((((n_0 % (18446744073709551616 : Int)).toNat) % (12 : Nat)) : Nat) : Int)))) (ck (((((1 : Int) + (IntKind.i64.wrap (((((n_0 % (18446744073709551616 : Int)).toNat) % (12 : Nat)) : Nat) : Int))) % (18446744073709551616 : Int)).toNat) ≠ 0) (ck (0 ≤ ((1 : Int) + (IntKind.i64.wrap (((((n_0 % (18446744073709551616 : Int)).toNat) % (12 : Nat)) : Nat) : Int)))) (ck ((8 : Int) * ((1 : Int) + (IntKind.i64.wrap (((((n_0 % (18446744073709551616 : Int)).toNat) % (12 : Nat)) : Nat) : Int))) ≤ 281474976710656) (ck (0 ≤ ((1 : Int) + (IntKind.i64.wrap (((((n_0 % (18446744073709551616 : Int)).toNat) % (12 : Nat)) : Nat) : Int)))) (ck ((24 : Int) * ((1 : Int) + (IntKind.i64.wrap (((((n_0 % (18446744073709551616 : Int)).toNat) % (12 : Nat)) : Nat) : Int))) ≤ 281474976710656) (ck (0 ≤ ((1 : Int) + (IntKind.i64.wrap (((((n_0 % (18446744073709551616 : Int)).toNat) % (12 : Nat)) : Nat) : Int)))) (ck ((24 : Int) * ((1 : Int) + (IntKind.i64.wrap (((((n_0 % (18446744073709551616 : Int)).toNat) % (12 : Nat)) : Nat) : Int))) ≤ 281474976710656) ((loopO (fun d : Int × (List Int) × (List (List (List Int))) × (List (List (List Int))) => m_law15_GraphRows_l5 n_0 shift_1 ring_2 d.1 d.2.1 d.2.2.1 d.2.2.2) ((0 : Int), (List.replicate (((1 : Int) + (IntKind.i64.wrap (((((n_0 % (18446744073709551616 : Int)).toNat) % (12 : Nat)) : Nat) : Int))).toNat) (0 : Int)), (List.replicate (((1 : Int) + (IntKind.i64.wrap (((((n_0 % (18446744073709551616 : Int)).toNat) % (12 : Nat)) : Nat) : Int))).toNat) ([] : List (List Int))), (List.replicate (((1 : Int) + (IntKind.i64.wrap (((((n_0 % (18446744073709551616 : Int)).toNat) % (12 : Nat)) : Nat) : Int))).toNat) ([] : List (List Int))))).bind (fun e => m_law15_GraphRows_j1 ring_2 n_0 shift_1 e.1 e.2.1 e.2.2)))))))))
def a_law15_GraphRows : Ty := .pair (.i .i64) (.pair (.i .i64) (.pair .bool .unit))
attribute [go_sem] a_law15_GraphRows
noncomputable def sm_law15_GraphRows : FSpec := mSpec a_law15_GraphRows (.one .bool) (fun x => m_law15_GraphRows x.1 x.2.1 x.2.2.1)
noncomputable def l_law15_GraphRows : List (FuncId × FSpec) := [(7, sp_law15_told), (8, sp_graph_Order)]
theorem K_law15_GraphRows : Known Try.prog GL l_law15_GraphRows := .cons ok_law15_told (by kernel_rfl) (.cons ok_graph_Order (by kernel_rfl) (.nil))
theorem l_law15_GraphRows_7 : gam l_law15_GraphRows 7 = some sp_law15_told := rfl
attribute [go_sem] l_law15_GraphRows_7
theorem l_law15_GraphRows_8 : gam l_law15_GraphRows 8 = some sp_graph_Order := rfl
attribute [go_sem] l_law15_GraphRows_8
set_option maxHeartbeats 4000000 in
theorem om_law15_GraphRows : FOK Try.prog GL 5 sm_law15_GraphRows := by
 refine fok_model (EM_ok K_law15_GraphRows) Try.func5 rfl (by kernel_rfl) (by decide) fun w0 S x r hw h => ?_
 have hF : FrOK (fr Try.prog (EM l_law15_GraphRows) S w0 Try.f5.ntmps) := ⟨EM_ok K_law15_GraphRows, mix⟩
 obtain ⟨(n_0 : Int), (shift_1 : Int), (ring_2 : Bool), u⟩ := x
 simp only [a_law15_GraphRows, Ty.wf, fits64] at hw
 simp only [args0, a_law15_GraphRows]
 try dsimp only at h
 unfold m_law15_GraphRows at h
 refine tri_seq (tri_region hF [0, 1, 2] ?_)
 simp only [go_sem]
 refine at_next (tri_seq (tri_region hF [1, 2, 7] ?_))
 simp only [go_sem]
 obtain ⟨g0, h⟩ := ck_some h
 try simp only [I64, I32] at g0
 repeat (refine ⟨by first | with_reducible assumption | omega | (intros; first | assumption | omega) | (simp only [go_sem] at *; first | assumption | omega) | decide, ?_⟩)
 refine at_next (tri_seq (tri_region hF [2, 7, 8] ?_))
 simp only [go_sem]
 obtain ⟨g0, h⟩ := ck_some h
 repeat (refine ⟨by first | with_reducible assumption | omega | (intros; first | assumption | omega) | (simp only [go_sem] at *; first | assumption | omega) | decide, ?_⟩)
 obtain ⟨g0, h⟩ := ck_some h
 obtain ⟨g1, h⟩ := ck_some h
 obtain ⟨g2, h⟩ := ck_some h
 obtain ⟨g3, h⟩ := ck_some h
 obtain ⟨g4, h⟩ := ck_some h
 obtain ⟨g5, h⟩ := ck_some h
 refine at_next (tri_seq (tri_regionU hF [2, 7, 8] [2, 7, 8, 9, 10, 11] [.v 28 (.val (.i .i64) ((1 : Int) + (IntKind.i64.wrap (((((n_0 % (18446744073709551616 : Int)).toNat) % (12 : Nat)) : Nat) : Int)))), .mk 29 (.row 3 (.i .i64) (List.replicate (((1 : Int) + (IntKind.i64.wrap (((((n_0 % (18446744073709551616 : Int)).toNat) % (12 : Nat)) : Nat) : Int))).toNat) (0 : Int))), .v 30 (.val (.i .i64) ((1 : Int) + (IntKind.i64.wrap (((((n_0 % (18446744073709551616 : Int)).toNat) % (12 : Nat)) : Nat) : Int)))), .mk 31 (.row 33 (.sl (.sl (.i .i64))) (List.replicate (((1 : Int) + (IntKind.i64.wrap (((((n_0 % (18446744073709551616 : Int)).toNat) % (12 : Nat)) : Nat) : Int))).toNat) ([] : List (List Int)))), .v 32 (.val (.i .i64) ((1 : Int) + (IntKind.i64.wrap (((((n_0 % (18446744073709551616 : Int)).toNat) % (12 : Nat)) : Nat) : Int)))), .mk 33 (.row 27 (.sl (.arr 2 (.i .i64))) (List.replicate (((1 : Int) + (IntKind.i64.wrap (((((n_0 % (18446744073709551616 : Int)).toNat) % (12 : Nat)) : Nat) : Int))).toNat) ([] : List (List Int)))), .cp 9 1, .cp 10 3, .cp 11 5] [([false, false, false, false, false, false, false, false, false], [0, 2, 4]), ([true, false, false, false, false, false, false, false, false], [1, 2, 4]), ([false, false, true, false, false, false, false, false, false], [0, 3, 4]), ([false, false, false, false, true, false, false, false, false], [0, 2, 5]), ([true, true, false, false, false, false, false, false, false], [2, 4, 6]), ([true, false, true, false, false, false, false, false, false], [1, 3, 4]), ([true, false, false, false, true, false, false, false, false], [1, 2, 5]), ([false, false, true, true, false, false, false, false, false], [0, 4]), ([false, false, true, false, true, false, false, false, false], [0, 3, 5]), ([false, false, false, false, true, true, false, false, false], [0, 2]), ([true, true, true, false, false, false, false, false, false], [3, 4, 6]), ([true, true, false, false, true, false, false, false, false], [2, 5, 6]), ([true, true, false, false, false, false, true, false, false], [2, 4]), ([true, false, true, true, false, false, false, false, false], [1, 4]), ([true, false, true, false, true, false, false, false, false], [1, 3, 5]), ([true, false, false, false, true, true, false, false, false], [1, 2]), ([false, false, true, true, true, false, false, false, false], [0, 5]), ([false, false, true, false, true, true, false, false, false], [0, 3]), ([true, true, true, true, false, false, false, false, false], [4, 6]), ([true, true, true, false, true, false, false, false, false], [3, 5, 6]), ([true, true, true, false, false, false, true, false, false], [3, 4]), ([true, true, false, false, true, true, false, false, false], [2, 6]), ([true, true, false, false, true, false, true, false, false], [2, 5]), ([true, false, true, true, true, false, false, false, false], [1, 5]), ([true, false, true, false, true, true, false, false, false], [1, 3]), ([false, false, true, true, true, true, false, false, false], [0]), ([true, true, true, true, true, false, false, false, false], [5, 6]), ([true, true, true, true, false, false, true, false, false], [4, 7]), ([true, true, true, false, true, true, false, false, false], [3, 6]), ([true, true, true, false, true, false, true, false, false], [3, 5]), ([true, true, false, false, true, true, true, false, false], [2]), ([true, false, true, true, true, true, false, false, false], [1]), ([true, true, true, true, true, true, false, false, false], [6]), ([true, true, true, true, true, false, true, false, false], [5, 7]), ([true, true, true, true, false, false, true, true, false], [4]), ([true, true, true, false, true, true, true, false, false], [3]), ([true, true, true, true, true, true, true, false, false], [7]), ([true, true, true, true, true, false, true, true, false], [5]), ([true, true, true, true, true, true, true, true, false], [8]), ([true, true, true, true, true, true, true, true, true], [])] [true, true, true, true, true, true, true, true, true] (by decide) ?_ ?_))
 ·refine ⟨⟨?_, ?_, ?_, trivial⟩, ⟨?_, ?_, ?_, trivial⟩, ⟨?_, ?_, ?_, trivial⟩, ⟨?_, ?_, ?_, trivial⟩, ⟨?_, ?_, ?_, trivial⟩, ⟨?_, ?_, ?_, trivial⟩, ⟨?_, ?_, ?_, trivial⟩, ⟨?_, ?_, trivial⟩, ⟨?_, ?_, ?_, trivial⟩, ⟨?_, ?_, trivial⟩, ⟨?_, ?_, ?_, trivial⟩, ⟨?_, ?_, ?_, trivial⟩, ⟨?_, ?_, trivial⟩, ⟨?_, ?_, trivial⟩, ⟨?_, ?_, ?_, trivial⟩, ⟨?_, ?_, trivial⟩, ⟨?_, ?_, trivial⟩, ⟨?_, ?_, trivial⟩, ⟨?_, ?_, trivial⟩, ⟨?_, ?_, ?_, trivial⟩, ⟨?_, ?_, trivial⟩, ⟨?_, ?_, trivial⟩, ⟨?_, ?_, trivial⟩, ⟨?_, ?_, trivial⟩, ⟨?_, ?_, trivial⟩, ⟨?_, trivial⟩, ⟨?_, ?_, trivial⟩, ⟨?_, ?_, trivial⟩, ⟨?_, ?_, trivial⟩, ⟨?_, ?_, trivial⟩, ⟨?_, trivial⟩, ⟨?_, trivial⟩, ⟨?_, trivial⟩, ⟨?_, ?_, trivial⟩, ⟨?_, trivial⟩, ⟨?_, trivial⟩, ⟨?_, trivial⟩, ⟨?_, trivial⟩, ⟨?_, trivial⟩, trivial, trivial⟩
  all_goals (simp only [go_sem]) <;> ((repeat (refine ⟨by first | omega | decide | trivial | (simp; done), ?_⟩)); first | (refine ⟨[], ?_⟩; (repeat' apply And.intro) <;> rfl) | (refine ⟨[0], ?_⟩; (repeat' apply And.intro) <;> rfl) | (refine ⟨[1, 0], ?_⟩; (repeat' apply And.intro) <;> rfl) | (refine ⟨[0, 1], ?_⟩; (repeat' apply And.intro) <;> rfl) | (refine ⟨[2, 0, 1], ?_⟩; (repeat' apply And.intro) <;> rfl) | (refine ⟨[0, 2, 1], ?_⟩; (repeat' apply And.intro) <;> rfl) | (refine ⟨[0, 1, 2], ?_⟩; (repeat' apply And.intro) <;> rfl))
 simp only [go_sem]
 refine at_next (tri_joinM (D := (List Int) × (List (List (List Int))) × (List (List (List Int)))) (fun d => m_law15_GraphRows_j1 ring_2 n_0 shift_1 d.1 d.2.1 d.2.2 = some r) [2, 7, 8] (fun d => [(9, .own 0), (10, .own 1), (11, .own 2)]) (fun d => [.inr (.row 3 (.i .i64) d.1), .inr (.row 33 (.sl (.sl (.i .i64))) d.2.1), .inr (.row 27 (.sl (.arr 2 (.i .i64))) d.2.2)]) ?_ ?_)
 ·refine tri_seq (tri_region hF [2, 7, 8, 9, 10, 11, 12] ?_)
  simp only [go_sem]
  refine at_next (tri_block (tri_loopM (D := Int × (List Int) × (List (List (List Int))) × (List (List (List Int)))) [2, 7, 8] (fun d => [(9, .own 0), (10, .own 1), (11, .own 2), (12, .val (.i .i64) d.1)]) (fun d => [.inr (.row 3 (.i .i64) d.2.1), .inr (.row 33 (.sl (.sl (.i .i64))) d.2.2.1), .inr (.row 27 (.sl (.arr 2 (.i .i64))) d.2.2.2)]) h ?_ ?_ ?_))
  ·first | rfl | (simp only [go_sem]; done)
  ·(try simp only [fitE, fitV, true_or, and_self, go_sem]) <;> (repeat' apply And.intro) <;> first | rfl | (left; rfl) | (right; rfl) | (left; simp only [go_sem]; done) | (right; simp only [go_sem]; done) | (simp; done) | (simp only [*]; done) | omega
  rintro ⟨i_23, outs_24, uses_25, from_26⟩ s5 h hs5
  simp only [go_sem]
  try dsimp only at h
  unfold m_law15_GraphRows_l5 at h
  refine tri_seq (tri_seq (tri_region hF [2, 7, 8, 9, 10, 11, 12, 36] ?_))
  simp only [go_sem]
  refine at_next (tri_cond rfl (fun hc => ?_) (fun hc => ?_))
  ·try simp only [go_sem] at hc
   have h := ite_T (by first | exact hc | omega | (simpa using hc) | (simp at hc ⊢; omega)) h
   refine tri_skip (at_next (tri_seq (tri_block (tri_seq (tri_region hF [2, 7, 8, 9, 10, 11, 12, 13] ?_)))))
   simp only [go_sem]
   obtain ⟨g0, h⟩ := ck_some h
   obtain ⟨g1, h⟩ := ck_some h
   try simp only [I64, I32] at g0
   repeat (refine ⟨by first | with_reducible assumption | omega | (intros; first | assumption | omega) | (simp only [go_sem] at *; first | assumption | omega) | decide, ?_⟩)
   refine at_next (tri_seq (tri_regionB hF [2, 7, 8, 9, 10, 11, 12, 13] ?_))
   simp only [go_sem]
   obtain ⟨g0, h⟩ := ck_some h
   repeat (refine ⟨by first | with_reducible assumption | omega | (intros; first | assumption | omega) | (simp only [go_sem] at *; first | assumption | omega) | decide, ?_⟩)
   refine at_next (tri_seq (tri_regionB hF [2, 7, 8, 9, 10, 11, 12, 13] ?_))
   simp only [go_sem]
   obtain ⟨g0, h⟩ := ck_some h
   repeat (refine ⟨by first | with_reducible assumption | omega | (intros; first | assumption | omega) | (simp only [go_sem] at *; first | assumption | omega) | decide, ?_⟩)
   refine at_next (tri_joinM (D := (List (List (List Int)))) (fun d => m_law15_GraphRows_j2 i_23 n_0 from_26 outs_24 d = some s5) [2, 7, 8, 12] (fun d => [(9, .own 0), (10, .own 1), (11, .own 2)]) (fun d => [.inr (.row 3 (.i .i64) (outs_24.set (i_23.toNat) (1 : Int))), .inr (.row 33 (.sl (.sl (.i .i64))) d), .inr (.row 27 (.sl (.arr 2 (.i .i64))) from_26)]) ?_ ?_)
   ·refine tri_seq (tri_region hF [2, 7, 8, 9, 10, 11, 12, 55] ?_)
    simp only [go_sem]
    refine at_next (tri_cond rfl (fun hc => ?_) (fun hc => ?_))
    ·try simp only [go_sem] at hc
     have h := ite_T (by first | exact hc | omega | (simpa using hc) | (simp at hc ⊢; omega)) h
     refine tri_regionB hF [2, 7, 8, 9, 10, 11, 12] ?_
     simp only [go_sem]
     obtain ⟨g0, h⟩ := ck_some h
     repeat (refine ⟨by first | with_reducible assumption | omega | (intros; first | assumption | omega) | (simp only [go_sem] at *; first | assumption | omega) | decide, ?_⟩)
     refine at_then_norm (at_fit (((uses_25.set (i_23.toNat) ([([] : List Int)] : List (List Int))).set (i_23.toNat) ([([0] : List Int)] : List (List Int)))) h rfl ?_)
     ·(try simp only [fitE, fitV, true_or, and_self, go_sem]) <;> (repeat' apply And.intro) <;> first | rfl | (left; rfl) | (right; rfl) | (left; simp only [go_sem]; done) | (right; simp only [go_sem]; done) | (simp; done) | (simp only [*]; done) | omega
    ·try simp only [go_sem] at hc
     have h := ite_F (by first | exact hc | omega | (simpa using hc) | (simp at hc ⊢; omega)) h
     refine tri_skip (at_then_norm (at_fit ((uses_25.set (i_23.toNat) ([([] : List Int)] : List (List Int)))) h rfl ?_))
     ·(try simp only [fitE, fitV, true_or, and_self, go_sem]) <;> (repeat' apply And.intro) <;> first | rfl | (left; rfl) | (right; rfl) | (left; simp only [go_sem]; done) | (right; simp only [go_sem]; done) | (simp; done) | (simp only [*]; done) | omega
   ·rintro uses_36 h
    try dsimp only at h
    simp only [go_sem]
    unfold m_law15_GraphRows_j2 at h
    refine tri_regionB hF [2, 7, 8, 9, 10, 11, 12] ?_
    simp only [go_sem]
    obtain ⟨g0, h⟩ := ck_some h
    try simp only [I64, I32] at g0
    repeat (refine ⟨by first | with_reducible assumption | omega | (intros; first | assumption | omega) | (simp only [go_sem] at *; first | assumption | omega) | decide, ?_⟩)
    obtain ⟨g0, h⟩ := ck_some h
    try simp only [I64, I32] at g0
    repeat (refine ⟨by first | with_reducible assumption | omega | (intros; first | assumption | omega) | (simp only [go_sem] at *; first | assumption | omega) | decide, ?_⟩)
    obtain ⟨g0, h⟩ := ck_some h
    repeat (refine ⟨by first | with_reducible assumption | omega | (intros; first | assumption | omega) | (simp only [go_sem] at *; first | assumption | omega) | decide, ?_⟩)
    obtain ⟨g0, h⟩ := ck_some h
    repeat (refine ⟨by first | with_reducible assumption | omega | (intros; first | assumption | omega) | (simp only [go_sem] at *; first | assumption | omega) | decide, ?_⟩)
    refine at_block_norm (at_next (tri_region hF [2, 7, 8, 9, 10, 11, 12] ?_))
    simp only [go_sem]
    obtain ⟨g0, h⟩ := ck_some h
    try simp only [I64, I32] at g0
    repeat (refine ⟨by first | with_reducible assumption | omega | (intros; first | assumption | omega) | (simp only [go_sem] at *; first | assumption | omega) | decide, ?_⟩)
    obtain rfl := Option.some.inj h
    dsimp only [stepQ] at hs5
    refine at_then_norm (at_fit (((i_23 + (1 : Int)), (outs_24.set (i_23.toNat) (1 : Int)), uses_36, (from_26.set (i_23.toNat) ([([(Int.tmod ((i_23 + ((1 : Int) + (IntKind.i64.wrap (((((n_0 % (18446744073709551616 : Int)).toNat) % (12 : Nat)) : Nat) : Int)))) - (1 : Int)) ((1 : Int) + (IntKind.i64.wrap (((((n_0 % (18446744073709551616 : Int)).toNat) % (12 : Nat)) : Nat) : Int)))), 0] : List Int)] : List (List Int))))) hs5 rfl ?_)
    ·(try simp only [fitE, fitV, true_or, and_self, go_sem]) <;> (repeat' apply And.intro) <;> first | rfl | (left; rfl) | (right; rfl) | (left; simp only [go_sem]; done) | (right; simp only [go_sem]; done) | (simp; done) | (simp only [*]; done) | omega
  ·try simp only [go_sem] at hc
   have h := ite_F (by first | exact hc | omega | (simpa using hc) | (simp at hc ⊢; omega)) h
   obtain rfl := Option.some.inj h
   dsimp only [stepQ] at hs5
   have h := hs5
   try dsimp only at h
   refine tri_exit (at_then_exit (at_then_exit (at_block_exit (at_then_norm (at_fit ((outs_24, uses_25, from_26)) h rfl ?_)))))
   ·(try simp only [fitE, fitV, true_or, and_self, go_sem]) <;> (repeat' apply And.intro) <;> first | rfl | (left; rfl) | (right; rfl) | (left; simp only [go_sem]; done) | (right; simp only [go_sem]; done) | (simp; done) | (simp only [*]; done) | omega
 ·rintro ⟨outs_14, uses_15, from_16⟩ h
  try dsimp only at h
  simp only [go_sem]
  unfold m_law15_GraphRows_j1 at h
  refine tri_seq (tri_regionB hF [2, 7, 8, 14, 15] ?_)
  simp only [go_sem]
  refine at_next (tri_seq (tri_seq (tri_region hF [7, 8, 14, 15, 79] ?_)))
  simp only [go_sem]
  refine at_next (tri_cond rfl (fun hc => ?_) (fun hc => ?_))
  ·try simp only [go_sem] at hc
   have h := ite_T (by first | exact hc | omega | (simpa using hc) | (simp at hc ⊢; omega)) h
   refine tri_seq (tri_region hF [6] ?_)
   simp only [go_sem]
   obtain rfl := Option.some.inj h
   refine at_next (tri_ret (at_then_ret (at_retC hF [.tmp 6] rfl rfl rfl ?_)))
   (try simp only [retOK, resE, go_sem]) <;> first | rfl | (simp; done)
  ·try simp only [go_sem] at hc
   have h := ite_F (by first | exact hc | omega | (simpa using hc) | (simp at hc ⊢; omega)) h
   refine tri_skip (at_next (tri_seq (tri_seq (tri_region hF [7, 8, 14, 97] ?_))))
   simp only [go_sem]
   refine at_next (tri_cond rfl (fun hc => ?_) (fun hc => ?_))
   ·try simp only [go_sem] at hc
    have h := ite_T (by first | exact hc | omega | (simpa using hc) | (simp at hc ⊢; omega)) h
    refine tri_seq (tri_region hF [6] ?_)
    simp only [go_sem]
    obtain rfl := Option.some.inj h
    refine at_next (tri_ret (at_then_ret (at_retC hF [.tmp 6] rfl rfl rfl ?_)))
    (try simp only [retOK, resE, go_sem]) <;> first | rfl | (simp; done)
   ·try simp only [go_sem] at hc
    have h := ite_F (by first | exact hc | omega | (simpa using hc) | (simp at hc ⊢; omega)) h
    refine tri_skip (at_next (tri_seq (tri_seq (tri_region hF [7, 8, 14, 16] ?_))))
    simp only [go_sem]
    refine at_next (tri_block (tri_ren [] rfl rfl ?_))
    simp only [ren, ren1, renO, posOf, posAll, go_sem]
    refine tri_loopM (D := Int) [7, 8, 14] (fun d => [(16, .val (.i .i64) d)]) (fun d => []) h ?_ ?_ ?_
    ·first | rfl | (simp only [go_sem]; done)
    ·(try simp only [fitE, fitV, true_or, and_self, go_sem]) <;> (repeat' apply And.intro) <;> first | rfl | (left; rfl) | (right; rfl) | (left; simp only [go_sem]; done) | (right; simp only [go_sem]; done) | (simp; done) | (simp only [*]; done) | omega
    rintro p_19 s19 h hs19
    simp only [go_sem]
    try dsimp only at h
    unfold m_law15_GraphRows_l19 at h
    refine tri_seq (tri_seq (tri_region hF [7, 8, 14, 16, 100] ?_))
    simp only [go_sem]
    refine at_next (tri_cond rfl (fun hc => ?_) (fun hc => ?_))
    ·try simp only [go_sem] at hc
     have h := ite_T (by first | exact hc | omega | (simpa using hc) | (simp at hc ⊢; omega)) h
     refine tri_skip (at_next (tri_seq (tri_block (tri_seq (tri_region hF [7, 8, 14, 16, 115] ?_)))))
     simp only [go_sem]
     obtain ⟨g0, h⟩ := ck_some h
     obtain ⟨g1, h⟩ := ck_some h
     obtain ⟨g2, h⟩ := ck_some h
     obtain ⟨g3, h⟩ := ck_some h
     try simp only [I64, I32] at g1
     try simp only [I64, I32] at g2
     repeat (refine ⟨by first | with_reducible assumption | omega | (intros; first | assumption | omega) | (simp only [go_sem] at *; first | assumption | omega) | decide, ?_⟩)
     refine at_next (tri_cond rfl (fun hc => ?_) (fun hc => ?_))
     ·try simp only [go_sem] at hc
      have h := ite_T (by first | exact hc | omega | (simpa using hc) | (simp at hc ⊢; omega)) h
      refine tri_seq (tri_region hF [6] ?_)
      simp only [go_sem]
      obtain rfl := Option.some.inj h
      dsimp only [stepQ] at hs19
      have h := hs19
      try dsimp only at h
      obtain rfl := Option.some.inj h
      refine at_next (tri_ret (at_block_ret (at_then_ret (at_then_ret (at_block_ret (at_then_ret (at_retC hF [.tmp 6] rfl rfl rfl ?_)))))))
      (try simp only [retOK, resE, go_sem]) <;> first | rfl | (simp; done)
     ·try simp only [go_sem] at hc
      have h := ite_F (by first | exact hc | omega | (simpa using hc) | (simp at hc ⊢; omega)) h
      refine tri_skip (at_block_norm (at_next (tri_region hF [7, 8, 14, 16] ?_)))
      simp only [go_sem]
      obtain ⟨g0, h⟩ := ck_some h
      try simp only [I64, I32] at g0
      repeat (refine ⟨by first | with_reducible assumption | omega | (intros; first | assumption | omega) | (simp only [go_sem] at *; first | assumption | omega) | decide, ?_⟩)
      obtain rfl := Option.some.inj h
      dsimp only [stepQ] at hs19
      refine at_then_norm (at_fit ((p_19 + (1 : Int))) hs19 rfl ?_)
      ·(try simp only [fitE, fitV, true_or, and_self, go_sem]) <;> (repeat' apply And.intro) <;> first | rfl | (left; rfl) | (right; rfl) | (left; simp only [go_sem]; done) | (right; simp only [go_sem]; done) | (simp; done) | (simp only [*]; done) | omega
    ·try simp only [go_sem] at hc
     have h := ite_F (by first | exact hc | omega | (simpa using hc) | (simp at hc ⊢; omega)) h
     obtain rfl := Option.some.inj h
     dsimp only [stepQ] at hs19
     have h := hs19
     try dsimp only at h
     refine tri_exit (at_then_exit (at_then_exit (at_block_exit (at_next (tri_seq (tri_region hF [6] ?_))))))
     simp only [go_sem]
     obtain rfl := Option.some.inj h
     refine at_next (tri_ret (at_retC hF [.tmp 6] rfl rfl rfl ?_))
     (try simp only [retOK, resE, go_sem]) <;> first | rfl | (simp; done)
attribute [go_sem] sm_law15_GraphRows
end Rw
end Go.Proofs
namespace Go.Proofs
open Go.Vc
set_option maxRecDepth 20000
namespace Rw
def oK (k : Nat) : List Int := (List.range k).map fun _ => 1
def uK (k s : Nat) (ring : Bool) (n : Nat) : List (List (List Int)) := (List.range n).map fun i => if 0 < (i + s) % k ∨ ring = true then [[0]] else [[]]
def fK (k n : Nat) : List (List (List Int)) := (List.range n).map fun i => [[(((i + k - 1) % k : Nat) : Int), 0]]
def rK (k s : Nat) : List (List Int) := (List.range k).map fun p => [(((p + k - s) % k : Nat) : Int), 0]
theorem row_ord : ∀ k, k < 13 → ∀ s, s < k → Gr.ordT (oK k) (uK k s false k) (fK k k) = (rK k s, 0, ()) := by decide +kernel
theorem ring_ord : ∀ k, k < 13 → ∀ s, s < k → Gr.ordT (oK k) (uK k s true k) (fK k k) = ([], 7, ()) := by decide +kernel
theorem fill {α : Type} (g : Nat → α) (z : α) {i k : Nat} (h : i < k) : ((List.range i).map g ++ List.replicate (k - i) z).set i (g i) = (List.range (i + 1)).map g ++ List.replicate (k - (i + 1)) z := by
 rw [List.set_append_right _ _ (by simp), List.length_map, List.length_range, Nat.sub_self, show k - i = (k - (i + 1)) + 1 from by omega, List.replicate_succ, List.set_cons_zero, List.range_succ, List.map_append, List.append_assoc]
 rfl
theorem wrap_small {x : Nat} (h : x < 100) : IntKind.i64.wrap ((x : Nat) : Int) = (x : Int) := by
 refine wrap_i rfl ?_
 simp only [fits, IntKind.min, IntKind.max, IntKind.signed, IntKind.bits]
 simp
 omega
theorem eqb_self (x : List Int) : Ty.eqb (.arr 2 (.i .i64)) x x = true := by
 simp only [Ty.eqb]
 induction x with
 | nil => rfl
 | cons a r ih => simp [ih]
theorem tmod_nat (a b : Nat) : Int.tmod (a : Int) (b : Int) = ((a % b : Nat) : Int) := rfl
def Kx (n : Int) : Int := (1 : Int) + (IntKind.i64.wrap (((((n % (18446744073709551616 : Int)).toNat) % (12 : Nat)) : Nat) : Int))
theorem Kx_is (n : Int) : ∃ k : Nat, Kx n = (k : Int) ∧ 1 ≤ k ∧ k ≤ 12 := by
 have h := Nat.mod_lt (n % 18446744073709551616).toNat (show 0 < 12 by decide)
 refine ⟨1 + (n % 18446744073709551616).toNat % 12, ?_, by omega, by omega⟩
 unfold Kx
 rw [wrap_small (by omega)]
 omega
def Sx (n t : Int) : Int := IntKind.i64.wrap (((((t % (18446744073709551616 : Int)).toNat) % ((Kx n % (18446744073709551616 : Int)).toNat)) : Nat) : Int)
theorem Sx_is {n t : Int} {k : Nat} (hk : Kx n = (k : Int)) (h1 : 1 ≤ k) (h2 : k ≤ 12) : ∃ s : Nat, Sx n t = (s : Int) ∧ s < k := by
 have e : (Kx n % (18446744073709551616 : Int)).toNat = k := by rw [hk]; omega
 have h := Nat.mod_lt (t % 18446744073709551616).toNat (show 0 < k by omega)
 refine ⟨(t % 18446744073709551616).toNat % k, ?_, h⟩
 unfold Sx
 rw [e, wrap_small (by omega)]
section
variable {n t : Int} {k s : Nat} {ring : Bool} (hk : Kx n = (k : Int)) (hs : Sx n t = (s : Int)) (h1 : 1 ≤ k) (h2 : k ≤ 12) (h3 : s < k)
include hk hs h1 h2 h3
theorem fillLoop : loopO (fun d : Int × (List Int) × (List (List (List Int))) × (List (List (List Int))) => m_law15_GraphRows_l5 n t ring d.1 d.2.1 d.2.2.1 d.2.2.2) ((0 : Int), List.replicate k (0 : Int), List.replicate k ([] : List (List Int)), List.replicate k ([] : List (List Int))) = some (oK k, uK k s ring k, fK k k) := by
 have hk' : (1 : Int) + (IntKind.i64.wrap (((((n % (18446744073709551616 : Int)).toNat) % (12 : Nat)) : Nat) : Int)) = (k : Int) := hk
 have hs' : IntKind.i64.wrap (((((t % (18446744073709551616 : Int)).toNat) % (((k : Int) % (18446744073709551616 : Int)).toNat)) : Nat) : Int) = (s : Int) := by
  rw [← hk]; exact hs
 refine loopO_of (I := fun d => ∃ i : Nat, i ≤ k ∧ d = ((i : Int), (List.range i).map (fun _ => (1 : Int)) ++ List.replicate (k - i) (0 : Int), uK k s ring i ++ List.replicate (k - i) [], fK k i ++ List.replicate (k - i) [])) (fun d => ((k : Int) - d.1).toNat) (fun _ => (oK k, uK k s ring k, fK k k)) ?_ _ ⟨0, by omega, by simp [uK, fK]⟩
 rintro d ⟨i, hi, rfl⟩
 by_cases hik : i < k
 ·left
  refine ⟨_, ?_, ⟨i + 1, by omega, rfl⟩, ?_, rfl⟩
  ·have l1 : ((List.range i).map (fun _ => (1 : Int)) ++ List.replicate (k - i) (0 : Int)).length = k := by simp; omega
   have l2 : (uK k s ring i ++ List.replicate (k - i) []).length = k := by simp [uK]; omega
   have l3 : (fK k i ++ List.replicate (k - i) []).length = k := by simp [fK]; omega
   have e1 : Int.tmod ((i : Int) + (s : Int)) (k : Int) = (((i + s) % k : Nat) : Int) := by rw [← tmod_nat]; rfl
   have e2 : Int.tmod ((i : Int) + (k : Int) - 1) (k : Int) = (((i + k - 1) % k : Nat) : Int) := by
    rw [← tmod_nat, show ((i + k - 1 : Nat) : Int) = (i : Int) + (k : Int) - 1 from by omega]
   have f1 := fill (fun _ => (1 : Int)) 0 hik
   have f2 := fill (fun i => if 0 < (i + s) % k ∨ ring = true then [[(0 : Int)]] else [[]]) [] hik
   have f3 := fill (fun i => [[(((i + k - 1) % k : Nat) : Int), 0]]) [] hik
   unfold m_law15_GraphRows_l5
   dsimp only
   simp only [hk', hs', l1, l2, List.length_set, e1]
   rw [if_pos (by omega), ck_pos (by simp only [I64]; omega), ck_pos (by omega), ck_pos (by omega), ck_pos (by omega)]
   unfold m_law15_GraphRows_j2
   simp only [hk', e2, l3]
   have hb : ((0 : Int) < (((i + s) % k : Nat) : Int) ∨ ring = true) ↔ (0 < (i + s) % k ∨ ring = true) := by
    constructor <;> (rintro (h | h); left; omega; right; exact h)
   by_cases hc : 0 < (i + s) % k ∨ ring = true
   ·rw [if_pos (hb.2 hc), ck_pos (by omega), ck_pos (by simp only [I64]; omega), ck_pos (by simp only [I64]; omega), ck_pos (by omega), ck_pos (by omega), ck_pos (by simp only [I64]; omega)]
    simp only [hc, if_true, Int.toNat_natCast] at f1 f2 f3 ⊢
    rw [List.set_set, f1]
    unfold uK fK
    rw [f2, f3]
    rfl
   ·rw [if_neg (fun h => hc (hb.1 h)), ck_pos (by simp only [I64]; omega), ck_pos (by simp only [I64]; omega), ck_pos (by omega), ck_pos (by omega), ck_pos (by simp only [I64]; omega)]
    simp only [hc, if_false, Int.toNat_natCast] at f1 f2 f3 ⊢
    rw [f1]
    unfold uK fK
    rw [f2, f3]
    rfl
  ·dsimp only; omega
 ·right
  have : i = k := by omega
  subst this
  unfold m_law15_GraphRows_l5
  dsimp only
  simp only [hk']
  rw [if_neg (by omega)]
  simp [oK]
theorem askLoop : loopO (fun d : Int => m_law15_GraphRows_l19 n (oK k) (uK k s false k) (fK k k) t d) (0 : Int) = some (.inl ()) := by
 have hk' : (1 : Int) + (IntKind.i64.wrap (((((n % (18446744073709551616 : Int)).toNat) % (12 : Nat)) : Nat) : Int)) = (k : Int) := hk
 have hs' : IntKind.i64.wrap (((((t % (18446744073709551616 : Int)).toNat) % (((k : Int) % (18446744073709551616 : Int)).toNat)) : Nat) : Int) = (s : Int) := by
  rw [← hk]; exact hs
 refine loopO_of (I := fun d => ∃ i : Nat, i ≤ k ∧ d = (i : Int)) (fun d => ((k : Int) - d).toNat) (fun _ => (Sum.inl () : Unit ⊕ Bool)) ?_ _ ⟨0, by omega, rfl⟩
 rintro d ⟨i, hi, rfl⟩
 by_cases hik : i < k
 ·left
  refine ⟨(i : Int) + 1, ?_, ⟨i + 1, by omega, rfl⟩, by omega, rfl⟩
  have e2 : Int.tmod ((i : Int) + (k : Int) - (s : Int)) (k : Int) = (((i + k - s) % k : Nat) : Int) := by
   rw [← tmod_nat, show ((i + k - s : Nat) : Int) = (i : Int) + (k : Int) - (s : Int) from by omega]
  have hl : (rK k s).length = k := by simp [rK]
  have hg : (rK k s).getD i (List.replicate 2 (0 : Int)) = [(((i + k - s) % k : Nat) : Int), 0] := by
   rw [List.getD_eq_getElem?_getD, List.getElem?_eq_getElem (by omega)]
   simp [rK]
  unfold m_law15_GraphRows_l19
  simp only [hk', hs', e2, row_ord k (by omega) s h3, hl, Int.toNat_natCast, hg]
  rw [if_pos (by omega), ck_pos (by omega), ck_pos (by simp only [I64]; omega), ck_pos (by simp only [I64]; omega), ck_pos (by omega), if_neg (by
   have : Ty.eqb (.arr 2 (.i .i64)) [(((i + k - s) % k : Nat) : Int), 0] [(((i + k - s) % k : Nat) : Int), 0] = true := eqb_self _
   exact fun h => h this), ck_pos (by simp only [I64]; omega)]
 ·right
  have : i = k := by omega
  subst this
  unfold m_law15_GraphRows_l19
  simp only [hk']
  rw [if_neg (by omega)]
theorem rows_at : m_law15_GraphRows n t ring = some true := by
 have hk' : (1 : Int) + (IntKind.i64.wrap (((((n % (18446744073709551616 : Int)).toNat) % (12 : Nat)) : Nat) : Int)) = (k : Int) := hk
 unfold m_law15_GraphRows
 simp only [hk']
 rw [ck_pos (by simp only [I64]; omega), ck_pos (by omega), ck_pos (by omega), ck_pos (by omega), ck_pos (by omega), ck_pos (by omega), ck_pos (by omega), ck_pos (by omega)]
 rw [Int.toNat_natCast, fillLoop hk hs h1 h2 h3]
 show m_law15_GraphRows_j1 ring n t (oK k) (uK k s ring k) (fK k k) = some true
 unfold m_law15_GraphRows_j1
 cases ring with
 | true => simp [ring_ord k (by omega) s h3, tru]
 | false =>
  have hl : (rK k s).length = k := by simp [rK]
  simp only [Bool.false_eq_true, if_false, row_ord k (by omega) s h3, hk', hl]
  rw [if_neg (by simp), askLoop hk hs h1 h2 h3]
  rfl
end
theorem rows_true (n t : Int) (ring : Bool) : m_law15_GraphRows n t ring = some true := by
 obtain ⟨k, hk, h1, h2⟩ := Kx_is n
 obtain ⟨s, hs, h3⟩ := Sx_is (t := t) hk h1 h2
 exact rows_at hk hs h1 h2 h3
end Rw
end Go.Proofs
