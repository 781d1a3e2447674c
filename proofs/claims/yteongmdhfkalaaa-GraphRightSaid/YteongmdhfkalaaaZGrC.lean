import Derived.Test.YteongmdhfkalaaaZGrB
namespace Go.Proofs
open Go.Vc
set_option linter.unusedVariables false
set_option linter.unusedSimpArgs false
namespace Gr

def EL (l : List (FuncId × FSpec)) : Env := ⟨look2 tab, fun _ => .junk, fun f _ => gam l f, elT, mpT⟩
theorem EL_T (l : List (FuncId × FSpec)) (t : TypeId) : (EL l).T t = E0.T t := rfl
theorem EL_G (l : List (FuncId × FSpec)) (t : Nat) : (EL l).G t = .junk := rfl
theorem EL_Γ (l : List (FuncId × FSpec)) (f : FuncId) (vs : List AV) : (EL l).Γ f vs = gam l f := rfl
theorem EL_el (l : List (FuncId × FSpec)) (t : TypeId) : (EL l).el t = elT t := rfl
theorem EL_ok {l : List (FuncId × FSpec)} (h : Known Try.prog (fun _ => .junk) l) : EnvOK Try.prog (EL l) := envOK_of tabOK elOK mpOK h

def capT : Ty := .pair (.rp (.sl (.sl (.arr 2 (.i .i64))))) (.pair (.rp (.i .i64)) .unit)
def sp13 : FSpec := ⟨.pair (.i .i64) capT, .one .bool, fun x => 0 ≤ x.2.2.1 ∧ x.2.2.1 < x.2.1.length, fun x => !(okI x.2.1 x.2.2.1.toNat x.1)⟩

theorem f13_ok : FOK Try.prog (fun _ => .junk) 13 sp13 := by
  refine fok_of (EL_ok .nil) Try.func13 rfl (by kernel_rfl) (by decide) fun w0 S x hw hp => ?_
  obtain ⟨i, frm, s, u⟩ := x
  have hF : FrOK ⟨Try.prog, EL [], ⟨nothing, S⟩, w0, Try.f13.ntmps⟩ := ⟨EL_ok .nil, mix⟩
  simp only [args0, sp13, capT] at hp ⊢
  repeat (first | refine at_next ?_ | refine at_then_exit ?_ | refine at_then_ret ?_ | refine at_block_norm ?_ | refine at_block_ret ?_ | refine at_block_exit ?_ | refine at_block_other (by decide) ?_ | refine at_then_norm ?_ | refine tri_seq ?_ | refine tri_skip ?_ | refine tri_label ?_ | refine tri_exit ?_ | refine tri_ret ?_ | refine tri_block ?_)
  (refine tri_region hF [0, 1, 2] ?_; simp only [go_sem, T3, T4, T22, T23, T24, T27, T30, T33, EL_T, EL_G, EL_Γ, EL_el, capT])
  repeat (first | refine at_next ?_ | refine at_then_exit ?_ | refine at_then_ret ?_ | refine at_block_norm ?_ | refine at_block_ret ?_ | refine at_block_exit ?_ | refine at_block_other (by decide) ?_ | refine at_then_norm ?_ | refine tri_seq ?_ | refine tri_skip ?_ | refine tri_label ?_ | refine tri_exit ?_ | refine tri_ret ?_ | refine tri_block ?_)
  (refine tri_region hF [4] ?_; simp only [go_sem, T3, T4, T22, T23, T24, T27, T30, T33, EL_T, EL_G, EL_Γ, EL_el, capT])
  repeat (refine ⟨by first | omega | (intros; omega) | exact ⟨_, rfl, rfl⟩ | exact ⟨_, rfl, rfl, rfl⟩ | (intros; exact ⟨_, rfl, rfl⟩) | (intros; exact ⟨_, rfl, rfl, rfl⟩) | (intro hside; simp only [Bool.or_eq_true, Bool.or_eq_false_iff, Bool.and_eq_true, decide_eq_true_eq, decide_eq_false_iff_not] at hside; omega), ?_⟩)
  repeat (first | refine at_next ?_ | refine at_then_exit ?_ | refine at_then_ret ?_ | refine at_block_norm ?_ | refine at_block_ret ?_ | refine at_block_exit ?_ | refine at_block_other (by decide) ?_ | refine at_then_norm ?_ | refine tri_seq ?_ | refine tri_skip ?_ | refine tri_label ?_ | refine tri_exit ?_ | refine tri_ret ?_ | refine tri_block ?_)
  (refine at_ret [4] rfl rfl ?_; simp only [retOK, as_val, List.map_nil, go_sem, T3, T4, T22, T23, T24, T27, T30, T33, EL_T, EL_G, EL_Γ, EL_el, capT])
  simp only [okI, Bool.not_and]
  congr 1 <;> (rw [Bool.eq_iff_iff]; simp only [decide_eq_true_eq, Bool.not_eq_true', decide_eq_false_iff_not]; omega)

def gl1 : List (FuncId × FSpec) := [(13, sp13)]
theorem G1_13 : gam gl1 13 = some ⟨.pair (.i .i64) capT, .one .bool, fun x => 0 ≤ x.2.2.1 ∧ x.2.2.1 < x.2.1.length, fun x => !(okI x.2.1 x.2.2.1.toNat x.1)⟩ := rfl
theorem K13 : Known Try.prog (fun _ => .junk) gl1 := .cons f13_ok (by kernel_rfl) .nil

/-- the place of the first that is so, or -1 -/
def idx {α : Type} (p : α → Bool) (l : List α) : Int := if l.any p then (l.findIdx p : Int) else -1

theorem idx_at {α : Type} {p : α → Bool} {l : List α} {n : Nat} (d : α) (h0 : (l.take n).any p = false) (hn : n < l.length) (hp : p (l.getD n d) = true) : idx p l = (n : Int) := by
  rw [List.getD_eq_getElem?_getD, List.getElem?_eq_getElem hn] at hp
  have hp : p l[n] = true := hp
  have h1 : l.any p = true := List.any_eq_true.2 ⟨l[n], List.getElem_mem hn, hp⟩
  have h2 : l.findIdx p = n := by
    rw [List.findIdx_eq hn]
    refine ⟨hp, fun j hj => ?_⟩
    rw [List.any_eq_false] at h0
    have := h0 (l[j]'(by omega)) (by
      rw [List.mem_take_iff_getElem]
      exact ⟨j, by omega, rfl⟩)
    simpa using this
  simp [idx, h1, h2]
theorem idx_none {α : Type} {p : α → Bool} {l : List α} {n : Nat} (h0 : (l.take n).any p = false) (hn : l.length ≤ n) : idx p l = -1 := by
  rw [List.take_of_length_le hn] at h0
  simp [idx, h0]
theorem any_step {α : Type} (l : List α) (p : α → Bool) (n : Nat) (d : α) (h : n < l.length) : (l.take (n + 1)).any p = ((l.take n).any p || p (l.getD n d)) := by
  rw [List.take_succ_eq_append_getElem h, List.any_append, List.getD_eq_getElem?_getD, List.getElem?_eq_getElem h]; simp
theorem idx_any {α : Type} {p : α → Bool} {l : List α} : decide (0 ≤ idx p l) = l.any p := by
  unfold idx
  cases l.any p <;> simp

def sp14 : FSpec := ⟨.pair (.sl (.i .i64)) (.pair (.clo 13 capT) .unit), .one (.i .i64), fun x => 0 ≤ x.2.1.2.1 ∧ x.2.1.2.1 < x.2.1.1.length, fun x => idx (fun i => !(okI x.2.1.1 x.2.1.2.1.toNat i)) x.1⟩

theorem f14_ok : FOK Try.prog (fun _ => .junk) 14 sp14 := by
  refine fok_of (EL_ok K13) Try.func14 rfl (by kernel_rfl) (by decide) fun w0 S x hw hp => ?_
  obtain ⟨l, ⟨frm, s, u⟩, u'⟩ := x
  simp only [sp14, capT, Ty.wf] at hw
  have hF : FrOK ⟨Try.prog, EL gl1, ⟨nothing, S⟩, w0, Try.f14.ntmps⟩ := ⟨EL_ok K13, mix⟩
  simp only [args0, sp14] at hp ⊢
  repeat (first | refine at_next ?_ | refine at_then_exit ?_ | refine at_then_ret ?_ | refine at_block_norm ?_ | refine at_block_ret ?_ | refine at_block_exit ?_ | refine at_block_other (by decide) ?_ | refine at_then_norm ?_ | refine tri_seq ?_ | refine tri_skip ?_ | refine tri_label ?_ | refine tri_exit ?_ | refine tri_ret ?_ | refine tri_block ?_)
  (refine tri_region hF [0, 1] ?_; simp only [go_sem, T3, T4, T22, T23, T24, T27, T30, T33, EL_T, EL_G, EL_Γ, EL_el, capT, G1_13])
  repeat (first | refine at_next ?_ | refine at_then_exit ?_ | refine at_then_ret ?_ | refine at_block_norm ?_ | refine at_block_ret ?_ | refine at_block_exit ?_ | refine at_block_other (by decide) ?_ | refine at_then_norm ?_ | refine tri_seq ?_ | refine tri_skip ?_ | refine tri_label ?_ | refine tri_exit ?_ | refine tri_ret ?_ | refine tri_block ?_)
  (refine tri_region hF [0, 1, 7, 8] ?_; simp only [go_sem, T3, T4, T22, T23, T24, T27, T30, T33, EL_T, EL_G, EL_Γ, EL_el, capT, G1_13])
  repeat (first | refine at_next ?_ | refine at_then_exit ?_ | refine at_then_ret ?_ | refine at_block_norm ?_ | refine at_block_ret ?_ | refine at_block_exit ?_ | refine at_block_other (by decide) ?_ | refine at_then_norm ?_ | refine tri_seq ?_ | refine tri_skip ?_ | refine tri_label ?_ | refine tri_exit ?_ | refine tri_ret ?_ | refine tri_block ?_)
  refine tri_loop (D := Int) (fun i => 0 ≤ i ∧ i ≤ l.length ∧ (l.take i.toNat).any (fun i => !(okI frm s.toNat i)) = false) (fun i => (l.length - i).toNat) (fun i => [(0, .val (.sl (.i .i64)) l), (1, .val (.clo 13 capT) (frm, s, ())), (7, .val (.i .i64) l.length), (8, .val (.i .i64) i)]) (fun _ => []) (at_fit 0 ?_ rfl ?_) ?_
  · simp
  · simp only [fitE, fitV, as_val, true_or, List.map_nil, and_self, go_sem, T3, T4, T22, T23, T24, T27, T30, T33, EL_T, EL_G, EL_Γ, EL_el, capT, G1_13]
  rintro i ⟨hi0, hi1, hi2⟩
  repeat (first | refine at_next ?_ | refine at_then_exit ?_ | refine at_then_ret ?_ | refine at_block_norm ?_ | refine at_block_ret ?_ | refine at_block_exit ?_ | refine at_block_other (by decide) ?_ | refine at_then_norm ?_ | refine tri_seq ?_ | refine tri_skip ?_ | refine tri_label ?_ | refine tri_exit ?_ | refine tri_ret ?_ | refine tri_block ?_)
  (refine tri_region hF [0, 1, 7, 8, 9] ?_; simp only [go_sem, T3, T4, T22, T23, T24, T27, T30, T33, EL_T, EL_G, EL_Γ, EL_el, capT, G1_13])
  repeat (first | refine at_next ?_ | refine at_then_exit ?_ | refine at_then_ret ?_ | refine at_block_norm ?_ | refine at_block_ret ?_ | refine at_block_exit ?_ | refine at_block_other (by decide) ?_ | refine at_then_norm ?_ | refine tri_seq ?_ | refine tri_skip ?_ | refine tri_label ?_ | refine tri_exit ?_ | refine tri_ret ?_ | refine tri_block ?_)
  refine tri_cond rfl (fun hc => ?_) (fun hc => ?_) <;> try simp only [Bool.or_eq_true, Bool.or_eq_false_iff, Bool.and_eq_true, decide_eq_true_eq, decide_eq_false_iff_not, Int.not_lt, Int.not_le, Bool.not_eq_true', Bool.not_eq_false'] at hc
  · repeat (first | refine at_next ?_ | refine at_then_exit ?_ | refine at_then_ret ?_ | refine at_block_norm ?_ | refine at_block_ret ?_ | refine at_block_exit ?_ | refine at_block_other (by decide) ?_ | refine at_then_norm ?_ | refine tri_seq ?_ | refine tri_skip ?_ | refine tri_label ?_ | refine tri_exit ?_ | refine tri_ret ?_ | refine tri_block ?_)
    (refine tri_region hF [0, 1, 5, 7, 8] ?_; simp only [go_sem, T3, T4, T22, T23, T24, T27, T30, T33, EL_T, EL_G, EL_Γ, EL_el, capT, G1_13])
    repeat (first | refine at_next ?_ | refine at_then_exit ?_ | refine at_then_ret ?_ | refine at_block_norm ?_ | refine at_block_ret ?_ | refine at_block_exit ?_ | refine at_block_other (by decide) ?_ | refine at_then_norm ?_ | refine tri_seq ?_ | refine tri_skip ?_ | refine tri_label ?_ | refine tri_exit ?_ | refine tri_ret ?_ | refine tri_block ?_)
    (refine tri_region hF [0, 1, 5, 7, 8, 16] ?_; simp only [go_sem, T3, T4, T22, T23, T24, T27, T30, T33, EL_T, EL_G, EL_Γ, EL_el, capT, G1_13])
    repeat (refine ⟨by first | omega | (intros; omega) | exact ⟨_, rfl, rfl⟩ | exact ⟨_, rfl, rfl, rfl⟩ | (intros; exact ⟨_, rfl, rfl⟩) | (intros; exact ⟨_, rfl, rfl, rfl⟩) | (intro hside; simp only [Bool.or_eq_true, Bool.or_eq_false_iff, Bool.and_eq_true, decide_eq_true_eq, decide_eq_false_iff_not] at hside; omega), ?_⟩)
    have hin : i.toNat < l.length := by omega
    repeat (first | refine at_next ?_ | refine at_then_exit ?_ | refine at_then_ret ?_ | refine at_block_norm ?_ | refine at_block_ret ?_ | refine at_block_exit ?_ | refine at_block_other (by decide) ?_ | refine at_then_norm ?_ | refine tri_seq ?_ | refine tri_skip ?_ | refine tri_label ?_ | refine tri_exit ?_ | refine tri_ret ?_ | refine tri_block ?_)
    refine tri_cond rfl (fun hc => ?_) (fun hc => ?_) <;> try simp only [Bool.or_eq_true, Bool.or_eq_false_iff, Bool.and_eq_true, decide_eq_true_eq, decide_eq_false_iff_not, Int.not_lt, Int.not_le, Bool.not_eq_true', Bool.not_eq_false'] at hc
    · repeat (first | refine at_next ?_ | refine at_then_exit ?_ | refine at_then_ret ?_ | refine at_block_norm ?_ | refine at_block_ret ?_ | refine at_block_exit ?_ | refine at_block_other (by decide) ?_ | refine at_then_norm ?_ | refine tri_seq ?_ | refine tri_skip ?_ | refine tri_label ?_ | refine tri_exit ?_ | refine tri_ret ?_ | refine tri_block ?_)
      (refine tri_region hF [4] ?_; simp only [go_sem, T3, T4, T22, T23, T24, T27, T30, T33, EL_T, EL_G, EL_Γ, EL_el, capT, G1_13])
      repeat (first | refine at_next ?_ | refine at_then_exit ?_ | refine at_then_ret ?_ | refine at_block_norm ?_ | refine at_block_ret ?_ | refine at_block_exit ?_ | refine at_block_other (by decide) ?_ | refine at_then_norm ?_ | refine tri_seq ?_ | refine tri_skip ?_ | refine tri_label ?_ | refine tri_exit ?_ | refine tri_ret ?_ | refine tri_block ?_)
      (refine at_ret [4] rfl rfl ?_; simp only [retOK, as_val, List.map_nil, go_sem, T3, T4, T22, T23, T24, T27, T30, T33, EL_T, EL_G, EL_Γ, EL_el, capT, G1_13])
      rw [idx_at 0 hi2 hin (by simpa using hc)]; omega
    · have hlen := hw.1.1
      simp only [maxLen_eq] at hlen
      repeat (first | refine at_next ?_ | refine at_then_exit ?_ | refine at_then_ret ?_ | refine at_block_norm ?_ | refine at_block_ret ?_ | refine at_block_exit ?_ | refine at_block_other (by decide) ?_ | refine at_then_norm ?_ | refine tri_seq ?_ | refine tri_skip ?_ | refine tri_label ?_ | refine tri_exit ?_ | refine tri_ret ?_ | refine tri_block ?_)
      (refine tri_region hF [0, 1, 7, 8] ?_; simp only [go_sem, T3, T4, T22, T23, T24, T27, T30, T33, EL_T, EL_G, EL_Γ, EL_el, capT, G1_13])
      repeat (refine ⟨by first | omega | (intros; omega) | exact ⟨_, rfl, rfl⟩ | exact ⟨_, rfl, rfl, rfl⟩ | (intros; exact ⟨_, rfl, rfl⟩) | (intros; exact ⟨_, rfl, rfl, rfl⟩) | (intro hside; simp only [Bool.or_eq_true, Bool.or_eq_false_iff, Bool.and_eq_true, decide_eq_true_eq, decide_eq_false_iff_not] at hside; omega), ?_⟩)
      repeat (first | refine at_next ?_ | refine at_then_exit ?_ | refine at_then_ret ?_ | refine at_block_norm ?_ | refine at_block_ret ?_ | refine at_block_exit ?_ | refine at_block_other (by decide) ?_ | refine at_then_norm ?_ | refine tri_seq ?_ | refine tri_skip ?_ | refine tri_label ?_ | refine tri_exit ?_ | refine tri_ret ?_ | refine tri_block ?_)
      refine at_fit (i + 1) ⟨⟨by omega, by omega, ?_⟩, by omega⟩ rfl ?_
      · rw [show (i + 1).toNat = i.toNat + 1 from by omega, any_step _ _ _ 0 hin, hi2, Bool.false_or]; simpa using hc
      · simp only [fitE, fitV, as_val, true_or, List.map_nil, and_self, go_sem, T3, T4, T22, T23, T24, T27, T30, T33, EL_T, EL_G, EL_Γ, EL_el, capT, G1_13]
  · repeat (first | refine at_next ?_ | refine at_then_exit ?_ | refine at_then_ret ?_ | refine at_block_norm ?_ | refine at_block_ret ?_ | refine at_block_exit ?_ | refine at_block_other (by decide) ?_ | refine at_then_norm ?_ | refine tri_seq ?_ | refine tri_skip ?_ | refine tri_label ?_ | refine tri_exit ?_ | refine tri_ret ?_ | refine tri_block ?_)
    (refine tri_region hF [4] ?_; simp only [go_sem, T3, T4, T22, T23, T24, T27, T30, T33, EL_T, EL_G, EL_Γ, EL_el, capT, G1_13])
    repeat (first | refine at_next ?_ | refine at_then_exit ?_ | refine at_then_ret ?_ | refine at_block_norm ?_ | refine at_block_ret ?_ | refine at_block_exit ?_ | refine at_block_other (by decide) ?_ | refine at_then_norm ?_ | refine tri_seq ?_ | refine tri_skip ?_ | refine tri_label ?_ | refine tri_exit ?_ | refine tri_ret ?_ | refine tri_block ?_)
    (refine at_ret [4] rfl rfl ?_; simp only [retOK, as_val, List.map_nil, go_sem, T3, T4, T22, T23, T24, T27, T30, T33, EL_T, EL_G, EL_Γ, EL_el, capT, G1_13])
    rw [idx_none hi2 (by omega)]

def gl2 : List (FuncId × FSpec) := [(14, sp14)]
theorem G2_14 : gam gl2 14 = some ⟨.pair (.sl (.i .i64)) (.pair (.clo 13 capT) .unit), .one (.i .i64), fun x => 0 ≤ x.2.1.2.1 ∧ x.2.1.2.1 < x.2.1.1.length, fun x => idx (fun i => !(okI x.2.1.1 x.2.1.2.1.toNat i)) x.1⟩ := rfl
theorem K14 : Known Try.prog (fun _ => .junk) gl2 := .cons f14_ok (by kernel_rfl) .nil
def sp12 : FSpec := ⟨.pair (.sl (.i .i64)) (.pair (.clo 13 capT) .unit), .one .bool, fun x => 0 ≤ x.2.1.2.1 ∧ x.2.1.2.1 < x.2.1.1.length, fun x => x.1.any (fun i => !(okI x.2.1.1 x.2.1.2.1.toNat i))⟩

theorem f12_ok : FOK Try.prog (fun _ => .junk) 12 sp12 := by
  refine fok_of (EL_ok K14) Try.func12 rfl (by kernel_rfl) (by decide) fun w0 S x hw hp => ?_
  obtain ⟨l, ⟨frm, s, u⟩, u'⟩ := x
  have hF : FrOK ⟨Try.prog, EL gl2, ⟨nothing, S⟩, w0, Try.f12.ntmps⟩ := ⟨EL_ok K14, mix⟩
  simp only [args0, sp12] at hp ⊢
  repeat (first | refine at_next ?_ | refine at_then_exit ?_ | refine at_then_ret ?_ | refine at_block_norm ?_ | refine at_block_ret ?_ | refine at_block_exit ?_ | refine at_block_other (by decide) ?_ | refine at_then_norm ?_ | refine tri_seq ?_ | refine tri_skip ?_ | refine tri_label ?_ | refine tri_exit ?_ | refine tri_ret ?_ | refine tri_block ?_)
  (refine tri_region hF [0, 1] ?_; simp only [go_sem, T3, T4, T22, T23, T24, T27, T30, T33, EL_T, EL_G, EL_Γ, EL_el, capT, G2_14])
  repeat (first | refine at_next ?_ | refine at_then_exit ?_ | refine at_then_ret ?_ | refine at_block_norm ?_ | refine at_block_ret ?_ | refine at_block_exit ?_ | refine at_block_other (by decide) ?_ | refine at_then_norm ?_ | refine tri_seq ?_ | refine tri_skip ?_ | refine tri_label ?_ | refine tri_exit ?_ | refine tri_ret ?_ | refine tri_block ?_)
  (refine tri_region hF [4] ?_; simp only [go_sem, T3, T4, T22, T23, T24, T27, T30, T33, EL_T, EL_G, EL_Γ, EL_el, capT, G2_14])
  repeat (refine ⟨by first | omega | (intros; omega) | exact ⟨_, rfl, rfl⟩ | exact ⟨_, rfl, rfl, rfl⟩ | (intros; exact ⟨_, rfl, rfl⟩) | (intros; exact ⟨_, rfl, rfl, rfl⟩) | (intro hside; simp only [Bool.or_eq_true, Bool.or_eq_false_iff, Bool.and_eq_true, decide_eq_true_eq, decide_eq_false_iff_not] at hside; omega), ?_⟩)
  repeat (first | refine at_next ?_ | refine at_then_exit ?_ | refine at_then_ret ?_ | refine at_block_norm ?_ | refine at_block_ret ?_ | refine at_block_exit ?_ | refine at_block_other (by decide) ?_ | refine at_then_norm ?_ | refine tri_seq ?_ | refine tri_skip ?_ | refine tri_label ?_ | refine tri_exit ?_ | refine tri_ret ?_ | refine tri_block ?_)
  (refine at_ret [4] rfl rfl ?_; simp only [retOK, as_val, List.map_nil, go_sem, T3, T4, T22, T23, T24, T27, T30, T33, EL_T, EL_G, EL_Γ, EL_el, capT, G2_14])
  exact idx_any

end Gr
end Go.Proofs
