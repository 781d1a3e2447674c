import Derived.Test.YteongmdhfkalaaaZGrC
namespace Go.Proofs
open Go.Vc
set_option linter.unusedVariables false
set_option linter.unusedSimpArgs false
namespace Gr

def gl3 : List (FuncId × FSpec) := [(12, sp12)]
theorem G3_12 : gam gl3 12 = some ⟨.pair (.sl (.i .i64)) (.pair (.clo 13 capT) .unit), .one .bool, fun x => 0 ≤ x.2.1.2.1 ∧ x.2.1.2.1 < x.2.1.1.length, fun x => x.1.any (fun i => !(okI x.2.1.1 x.2.1.2.1.toNat i))⟩ := rfl
theorem K12 : Known Try.prog (fun _ => .junk) gl3 := .cons f12_ok (by kernel_rfl) .nil

theorem any_all {α : Type} (l : List α) (p : α → Bool) : (l.any fun i => !(p i)) = !(l.all p) := by
  induction l with
  | nil => rfl
  | cons a l ih => simp [ih]

theorem may_ok : FOK Try.prog (fun _ => .junk) 11 ⟨args3, .one .bool, fun _ => True, fun x => mayG x.1 x.2.1 x.2.2.1⟩ := by
  refine fok_of (EL_ok K12) Try.func11 rfl (by kernel_rfl) (by decide) fun w0 S x hw _ => ?_
  obtain ⟨outs, uses, frm, u⟩ := x
  simp only [args3, Ty.wf] at hw
  obtain ⟨⟨hw1, hw2⟩, ⟨hw3, hw4⟩, ⟨hw5, hw6⟩, _⟩ := hw
  simp only [maxLen_eq] at hw1 hw3 hw5
  have hF : FrOK ⟨Try.prog, EL gl3, ⟨nothing, S⟩, w0, Try.f11.ntmps⟩ := ⟨EL_ok K12, mix⟩
  simp only [args0, args3]
  repeat (first | refine at_next ?_ | refine at_then_exit ?_ | refine at_then_ret ?_ | refine at_block_norm ?_ | refine at_block_ret ?_ | refine at_block_exit ?_ | refine at_block_other (by decide) ?_ | refine at_then_norm ?_ | refine tri_seq ?_ | refine tri_skip ?_ | refine tri_label ?_ | refine tri_exit ?_ | refine tri_ret ?_ | refine tri_block ?_)
  (refine tri_regionB hF [0, 1, 5] ?_; simp only [go_sem, T3, T4, T22, T23, T24, T27, T30, T33, EL_T, EL_G, EL_Γ, EL_el, capT, G3_12])
  repeat (first | refine at_next ?_ | refine at_then_exit ?_ | refine at_then_ret ?_ | refine at_block_norm ?_ | refine at_block_ret ?_ | refine at_block_exit ?_ | refine at_block_other (by decide) ?_ | refine at_then_norm ?_ | refine tri_seq ?_ | refine tri_skip ?_ | refine tri_label ?_ | refine tri_exit ?_ | refine tri_ret ?_ | refine tri_block ?_)
  (refine tri_region hF [0, 1, 5, 7] ?_; simp only [go_sem, T3, T4, T22, T23, T24, T27, T30, T33, EL_T, EL_G, EL_Γ, EL_el, capT, G3_12])
  repeat (first | refine at_next ?_ | refine at_then_exit ?_ | refine at_then_ret ?_ | refine at_block_norm ?_ | refine at_block_ret ?_ | refine at_block_exit ?_ | refine at_block_other (by decide) ?_ | refine at_then_norm ?_ | refine tri_seq ?_ | refine tri_skip ?_ | refine tri_label ?_ | refine tri_exit ?_ | refine tri_ret ?_ | refine tri_block ?_)
  (refine tri_region hF [0, 1, 5, 7, 29] ?_; simp only [go_sem, T3, T4, T22, T23, T24, T27, T30, T33, EL_T, EL_G, EL_Γ, EL_el, capT, G3_12])
  repeat (refine ⟨by first | omega | (intros; omega) | exact ⟨_, rfl, rfl⟩ | exact ⟨_, rfl, rfl, rfl⟩ | (intros; exact ⟨_, rfl, rfl⟩) | (intros; exact ⟨_, rfl, rfl, rfl⟩) | (intro hside; simp only [Bool.or_eq_true, Bool.or_eq_false_iff, Bool.and_eq_true, decide_eq_true_eq, decide_eq_false_iff_not] at hside; omega), ?_⟩)
  repeat (first | refine at_next ?_ | refine at_then_exit ?_ | refine at_then_ret ?_ | refine at_block_norm ?_ | refine at_block_ret ?_ | refine at_block_exit ?_ | refine at_block_other (by decide) ?_ | refine at_then_norm ?_ | refine tri_seq ?_ | refine tri_skip ?_ | refine tri_label ?_ | refine tri_exit ?_ | refine tri_ret ?_ | refine tri_block ?_)
  refine tri_cond rfl (fun hc => ?_) (fun hc => ?_) <;> try simp only [Bool.or_eq_true, Bool.or_eq_false_iff, Bool.and_eq_true, decide_eq_true_eq, decide_eq_false_iff_not, Int.not_lt, Int.not_le, Bool.not_eq_true', Bool.not_eq_false'] at hc
  · repeat (first | refine at_next ?_ | refine at_then_exit ?_ | refine at_then_ret ?_ | refine at_block_norm ?_ | refine at_block_ret ?_ | refine at_block_exit ?_ | refine at_block_other (by decide) ?_ | refine at_then_norm ?_ | refine tri_seq ?_ | refine tri_skip ?_ | refine tri_label ?_ | refine tri_exit ?_ | refine tri_ret ?_ | refine tri_block ?_)
    (refine tri_region hF [6] ?_; simp only [go_sem, T3, T4, T22, T23, T24, T27, T30, T33, EL_T, EL_G, EL_Γ, EL_el, capT, G3_12])
    repeat (first | refine at_next ?_ | refine at_then_exit ?_ | refine at_then_ret ?_ | refine at_block_norm ?_ | refine at_block_ret ?_ | refine at_block_exit ?_ | refine at_block_other (by decide) ?_ | refine at_then_norm ?_ | refine tri_seq ?_ | refine tri_skip ?_ | refine tri_label ?_ | refine tri_exit ?_ | refine tri_ret ?_ | refine tri_block ?_)
    ((first | refine at_ren [] rfl ?_ | refine tri_ren [] rfl ?_); simp only [ren, ren1, renO, posOf, posAll, go_sem, T3, T4, T22, T23, T24, T27, T30, T33, EL_T, EL_G, EL_Γ, EL_el, capT, G3_12])
    (refine at_ret [6] rfl rfl ?_; simp only [retOK, as_val, List.map_nil, go_sem, T3, T4, T22, T23, T24, T27, T30, T33, EL_T, EL_G, EL_Γ, EL_el, capT, G3_12])
    have : ¬ (outs.length ≤ 16) ∨ ¬ (uses.length = outs.length) ∨ ¬ (frm.length = outs.length) := by omega
    rcases this with h | h | h <;> simp [mayG, h]
  have hl : outs.length ≤ 16 ∧ uses.length = outs.length ∧ frm.length = outs.length := by omega
  obtain ⟨hl1, hl2, hl3⟩ := hl
  have hmay : mayG outs uses frm = (List.range outs.length).all (okS outs uses frm) := by simp [mayG, hl1, hl2, hl3]
  clear hc
  repeat (first | refine at_next ?_ | refine at_then_exit ?_ | refine at_then_ret ?_ | refine at_block_norm ?_ | refine at_block_ret ?_ | refine at_block_exit ?_ | refine at_block_other (by decide) ?_ | refine at_then_norm ?_ | refine tri_seq ?_ | refine tri_skip ?_ | refine tri_label ?_ | refine tri_exit ?_ | refine tri_ret ?_ | refine tri_block ?_)
  (refine tri_region hF [0, 1, 5, 7, 30, 31, 32] ?_; simp only [go_sem, T3, T4, T22, T23, T24, T27, T30, T33, EL_T, EL_G, EL_Γ, EL_el, capT, G3_12])
  repeat (first | refine at_next ?_ | refine at_then_exit ?_ | refine at_then_ret ?_ | refine at_block_norm ?_ | refine at_block_ret ?_ | refine at_block_exit ?_ | refine at_block_other (by decide) ?_ | refine at_then_norm ?_ | refine tri_seq ?_ | refine tri_skip ?_ | refine tri_label ?_ | refine tri_exit ?_ | refine tri_ret ?_ | refine tri_block ?_)
  refine tri_loop (D := Int) (fun s => 0 ≤ s ∧ s ≤ outs.length ∧ (List.range s.toNat).all (okS outs uses frm) = true) (fun s => (outs.length - s).toNat) (fun s => [(0, .val (.sl (.i .i64)) outs), (1, .val (.sl (.sl (.sl (.i .i64)))) uses), (5, .ptr 0 []), (7, .val (.i .i64) outs.length), (30, .val (.sl (.i .i64)) outs), (31, .val (.i .i64) outs.length), (32, .val (.i .i64) s)]) (fun _ => [.box 1 (.val (.sl (.sl (.arr 2 (.i .i64)))) frm)]) (at_fit 0 ?_ rfl ?_) ?_
  · simp
  · simp only [fitE, fitV, as_val, true_or, List.map_nil, and_self, go_sem, T3, T4, T22, T23, T24, T27, T30, T33, EL_T, EL_G, EL_Γ, EL_el, capT, G3_12]
  rintro s ⟨hs0, hs1, hs2⟩
  repeat (first | refine at_next ?_ | refine at_then_exit ?_ | refine at_then_ret ?_ | refine at_block_norm ?_ | refine at_block_ret ?_ | refine at_block_exit ?_ | refine at_block_other (by decide) ?_ | refine at_then_norm ?_ | refine tri_seq ?_ | refine tri_skip ?_ | refine tri_label ?_ | refine tri_exit ?_ | refine tri_ret ?_ | refine tri_block ?_)
  (refine tri_region hF [0, 1, 5, 7, 30, 31, 32, 33] ?_; simp only [go_sem, T3, T4, T22, T23, T24, T27, T30, T33, EL_T, EL_G, EL_Γ, EL_el, capT, G3_12])
  repeat (first | refine at_next ?_ | refine at_then_exit ?_ | refine at_then_ret ?_ | refine at_block_norm ?_ | refine at_block_ret ?_ | refine at_block_exit ?_ | refine at_block_other (by decide) ?_ | refine at_then_norm ?_ | refine tri_seq ?_ | refine tri_skip ?_ | refine tri_label ?_ | refine tri_exit ?_ | refine tri_ret ?_ | refine tri_block ?_)
  refine tri_cond rfl (fun hc => ?_) (fun hc => ?_) <;> try simp only [Bool.or_eq_true, Bool.or_eq_false_iff, Bool.and_eq_true, decide_eq_true_eq, decide_eq_false_iff_not, Int.not_lt, Int.not_le, Bool.not_eq_true', Bool.not_eq_false'] at hc
  · have hsn : s.toNat < outs.length := by omega
    have hfail : okS outs uses frm s.toNat = false → false = mayG outs uses frm := fun h => by rw [hmay, range_false _ hsn h]
    rename_i hc1
    clear hc1
    repeat (first | refine at_next ?_ | refine at_then_exit ?_ | refine at_then_ret ?_ | refine at_block_norm ?_ | refine at_block_ret ?_ | refine at_block_exit ?_ | refine at_block_other (by decide) ?_ | refine at_then_norm ?_ | refine tri_seq ?_ | refine tri_skip ?_ | refine tri_label ?_ | refine tri_exit ?_ | refine tri_ret ?_ | refine tri_block ?_)
    (refine tri_regionB hF [0, 1, 5, 7, 8, 9, 30, 31, 32] ?_; simp only [go_sem, T3, T4, T22, T23, T24, T27, T30, T33, EL_T, EL_G, EL_Γ, EL_el, capT, G3_12])
    repeat (refine ⟨by first | omega | (intros; omega) | exact ⟨_, rfl, rfl⟩ | exact ⟨_, rfl, rfl, rfl⟩ | (intros; exact ⟨_, rfl, rfl⟩) | (intros; exact ⟨_, rfl, rfl, rfl⟩) | (intro hside; simp only [Bool.or_eq_true, Bool.or_eq_false_iff, Bool.and_eq_true, decide_eq_true_eq, decide_eq_false_iff_not] at hside; omega), ?_⟩)
    repeat (first | refine at_next ?_ | refine at_then_exit ?_ | refine at_then_ret ?_ | refine at_block_norm ?_ | refine at_block_ret ?_ | refine at_block_exit ?_ | refine at_block_other (by decide) ?_ | refine at_then_norm ?_ | refine tri_seq ?_ | refine tri_skip ?_ | refine tri_label ?_ | refine tri_exit ?_ | refine tri_ret ?_ | refine tri_block ?_)
    (refine tri_region hF [0, 1, 5, 7, 8, 9, 30, 31, 32, 51] ?_; simp only [go_sem, T3, T4, T22, T23, T24, T27, T30, T33, EL_T, EL_G, EL_Γ, EL_el, capT, G3_12])
    repeat (refine ⟨by first | omega | (intros; omega) | exact ⟨_, rfl, rfl⟩ | exact ⟨_, rfl, rfl, rfl⟩ | (intros; exact ⟨_, rfl, rfl⟩) | (intros; exact ⟨_, rfl, rfl, rfl⟩) | (intro hside; simp only [Bool.or_eq_true, Bool.or_eq_false_iff, Bool.and_eq_true, decide_eq_true_eq, decide_eq_false_iff_not] at hside; omega), ?_⟩)
    repeat (first | refine at_next ?_ | refine at_then_exit ?_ | refine at_then_ret ?_ | refine at_block_norm ?_ | refine at_block_ret ?_ | refine at_block_exit ?_ | refine at_block_other (by decide) ?_ | refine at_then_norm ?_ | refine tri_seq ?_ | refine tri_skip ?_ | refine tri_label ?_ | refine tri_exit ?_ | refine tri_ret ?_ | refine tri_block ?_)
    refine tri_cond rfl (fun hc => ?_) (fun hc => ?_) <;> try simp only [Bool.or_eq_true, Bool.or_eq_false_iff, Bool.and_eq_true, decide_eq_true_eq, decide_eq_false_iff_not, Int.not_lt, Int.not_le, Bool.not_eq_true', Bool.not_eq_false'] at hc
    · repeat (first | refine at_next ?_ | refine at_then_exit ?_ | refine at_then_ret ?_ | refine at_block_norm ?_ | refine at_block_ret ?_ | refine at_block_exit ?_ | refine at_block_other (by decide) ?_ | refine at_then_norm ?_ | refine tri_seq ?_ | refine tri_skip ?_ | refine tri_label ?_ | refine tri_exit ?_ | refine tri_ret ?_ | refine tri_block ?_)
      (refine tri_region hF [6] ?_; simp only [go_sem, T3, T4, T22, T23, T24, T27, T30, T33, EL_T, EL_G, EL_Γ, EL_el, capT, G3_12])
      repeat (first | refine at_next ?_ | refine at_then_exit ?_ | refine at_then_ret ?_ | refine at_block_norm ?_ | refine at_block_ret ?_ | refine at_block_exit ?_ | refine at_block_other (by decide) ?_ | refine at_then_norm ?_ | refine tri_seq ?_ | refine tri_skip ?_ | refine tri_label ?_ | refine tri_exit ?_ | refine tri_ret ?_ | refine tri_block ?_)
      ((first | refine at_ren [] rfl ?_ | refine tri_ren [] rfl ?_); simp only [ren, ren1, renO, posOf, posAll, go_sem, T3, T4, T22, T23, T24, T27, T30, T33, EL_T, EL_G, EL_Γ, EL_el, capT, G3_12])
      (refine at_ret [6] rfl rfl ?_; simp only [retOK, as_val, List.map_nil, go_sem, T3, T4, T22, T23, T24, T27, T30, T33, EL_T, EL_G, EL_Γ, EL_el, capT, G3_12])
      refine hfail ?_
      have : okA outs uses s.toNat = false := by
        simp only [okA, Bool.and_eq_false_iff, decide_eq_false_iff_not]; omega
      simp only [okS, this, Bool.false_and]
    · have hA : okA outs uses s.toNat = true := by
        simp only [okA, Bool.and_eq_true, decide_eq_true_eq]; omega
      have hb := hc
      rename_i hc1
      clear hc
      repeat (first | refine at_next ?_ | refine at_then_exit ?_ | refine at_then_ret ?_ | refine at_block_norm ?_ | refine at_block_ret ?_ | refine at_block_exit ?_ | refine at_block_other (by decide) ?_ | refine at_then_norm ?_ | refine tri_seq ?_ | refine tri_skip ?_ | refine tri_label ?_ | refine tri_exit ?_ | refine tri_ret ?_ | refine tri_block ?_)
      (refine tri_region hF [0, 1, 5, 7, 8, 30, 31, 32, 55, 56, 57] ?_; simp only [go_sem, T3, T4, T22, T23, T24, T27, T30, T33, EL_T, EL_G, EL_Γ, EL_el, capT, G3_12])
      repeat (refine ⟨by first | omega | (intros; omega) | exact ⟨_, rfl, rfl⟩ | exact ⟨_, rfl, rfl, rfl⟩ | (intros; exact ⟨_, rfl, rfl⟩) | (intros; exact ⟨_, rfl, rfl, rfl⟩) | (intro hside; simp only [Bool.or_eq_true, Bool.or_eq_false_iff, Bool.and_eq_true, decide_eq_true_eq, decide_eq_false_iff_not] at hside; omega), ?_⟩)
      repeat (first | refine at_next ?_ | refine at_then_exit ?_ | refine at_then_ret ?_ | refine at_block_norm ?_ | refine at_block_ret ?_ | refine at_block_exit ?_ | refine at_block_other (by decide) ?_ | refine at_then_norm ?_ | refine tri_seq ?_ | refine tri_skip ?_ | refine tri_label ?_ | refine tri_exit ?_ | refine tri_ret ?_ | refine tri_block ?_)
      refine tri_loop (D := Int) (fun k => 0 ≤ k ∧ k ≤ (uses.getD s.toNat []).length ∧ ((uses.getD s.toNat []).take k.toNat).all (fun l => l.all (okI frm s.toNat)) = true) (fun k => ((uses.getD s.toNat []).length - k).toNat) (fun k => [(0, .val (.sl (.i .i64)) outs), (1, .val (.sl (.sl (.sl (.i .i64)))) uses), (5, .ptr 0 []), (7, .val (.i .i64) outs.length), (8, .ptr 1 []), (30, .val (.sl (.i .i64)) outs), (31, .val (.i .i64) outs.length), (32, .val (.i .i64) s), (55, .val (.sl (.sl (.i .i64))) (uses.getD s.toNat [])), (56, .val (.i .i64) (uses.getD s.toNat []).length), (57, .val (.i .i64) k)]) (fun _ => [.box 1 (.val (.sl (.sl (.arr 2 (.i .i64)))) frm), .box 1 (.val (.i .i64) s)]) (at_fit 0 ?_ rfl ?_) ?_
      · simp
      · simp only [fitE, fitV, as_val, true_or, List.map_nil, and_self, go_sem, T3, T4, T22, T23, T24, T27, T30, T33, EL_T, EL_G, EL_Γ, EL_el, capT, G3_12]
      rintro k ⟨hk0, hk1, hk2⟩
      repeat (first | refine at_next ?_ | refine at_then_exit ?_ | refine at_then_ret ?_ | refine at_block_norm ?_ | refine at_block_ret ?_ | refine at_block_exit ?_ | refine at_block_other (by decide) ?_ | refine at_then_norm ?_ | refine tri_seq ?_ | refine tri_skip ?_ | refine tri_label ?_ | refine tri_exit ?_ | refine tri_ret ?_ | refine tri_block ?_)
      (refine tri_region hF [0, 1, 5, 7, 8, 30, 31, 32, 55, 56, 57, 58] ?_; simp only [go_sem, T3, T4, T22, T23, T24, T27, T30, T33, EL_T, EL_G, EL_Γ, EL_el, capT, G3_12])
      repeat (first | refine at_next ?_ | refine at_then_exit ?_ | refine at_then_ret ?_ | refine at_block_norm ?_ | refine at_block_ret ?_ | refine at_block_exit ?_ | refine at_block_other (by decide) ?_ | refine at_then_norm ?_ | refine tri_seq ?_ | refine tri_skip ?_ | refine tri_label ?_ | refine tri_exit ?_ | refine tri_ret ?_ | refine tri_block ?_)
      refine tri_cond rfl (fun hc => ?_) (fun hc => ?_) <;> try simp only [Bool.or_eq_true, Bool.or_eq_false_iff, Bool.and_eq_true, decide_eq_true_eq, decide_eq_false_iff_not, Int.not_lt, Int.not_le, Bool.not_eq_true', Bool.not_eq_false'] at hc
      · have hkn : k.toNat < (uses.getD s.toNat []).length := by omega
        repeat (first | refine at_next ?_ | refine at_then_exit ?_ | refine at_then_ret ?_ | refine at_block_norm ?_ | refine at_block_ret ?_ | refine at_block_exit ?_ | refine at_block_other (by decide) ?_ | refine at_then_norm ?_ | refine tri_seq ?_ | refine tri_skip ?_ | refine tri_label ?_ | refine tri_exit ?_ | refine tri_ret ?_ | refine tri_block ?_)
        (refine tri_region hF [0, 1, 5, 7, 8, 11, 30, 31, 32, 55, 56, 57] ?_; simp only [go_sem, T3, T4, T22, T23, T24, T27, T30, T33, EL_T, EL_G, EL_Γ, EL_el, capT, G3_12])
        repeat (refine ⟨by first | omega | (intros; omega) | exact ⟨_, rfl, rfl⟩ | exact ⟨_, rfl, rfl, rfl⟩ | (intros; exact ⟨_, rfl, rfl⟩) | (intros; exact ⟨_, rfl, rfl, rfl⟩) | (intro hside; simp only [Bool.or_eq_true, Bool.or_eq_false_iff, Bool.and_eq_true, decide_eq_true_eq, decide_eq_false_iff_not] at hside; omega), ?_⟩)
        repeat (first | refine at_next ?_ | refine at_then_exit ?_ | refine at_then_ret ?_ | refine at_block_norm ?_ | refine at_block_ret ?_ | refine at_block_exit ?_ | refine at_block_other (by decide) ?_ | refine at_then_norm ?_ | refine tri_seq ?_ | refine tri_skip ?_ | refine tri_label ?_ | refine tri_exit ?_ | refine tri_ret ?_ | refine tri_block ?_)
        (refine tri_region hF [0, 1, 5, 7, 8, 30, 31, 32, 55, 56, 57, 63] ?_; simp only [go_sem, T3, T4, T22, T23, T24, T27, T30, T33, EL_T, EL_G, EL_Γ, EL_el, capT, G3_12])
        repeat (refine ⟨by first | omega | (intros; omega) | exact ⟨_, rfl, rfl⟩ | exact ⟨_, rfl, rfl, rfl⟩ | (intros; exact ⟨_, rfl, rfl⟩) | (intros; exact ⟨_, rfl, rfl, rfl⟩) | (intro hside; simp only [Bool.or_eq_true, Bool.or_eq_false_iff, Bool.and_eq_true, decide_eq_true_eq, decide_eq_false_iff_not] at hside; omega), ?_⟩)
        repeat (first | refine at_next ?_ | refine at_then_exit ?_ | refine at_then_ret ?_ | refine at_block_norm ?_ | refine at_block_ret ?_ | refine at_block_exit ?_ | refine at_block_other (by decide) ?_ | refine at_then_norm ?_ | refine tri_seq ?_ | refine tri_skip ?_ | refine tri_label ?_ | refine tri_exit ?_ | refine tri_ret ?_ | refine tri_block ?_)
        refine tri_cond rfl (fun hc => ?_) (fun hc => ?_) <;> try simp only [Bool.or_eq_true, Bool.or_eq_false_iff, Bool.and_eq_true, decide_eq_true_eq, decide_eq_false_iff_not, Int.not_lt, Int.not_le, Bool.not_eq_true', Bool.not_eq_false'] at hc
        · repeat (first | refine at_next ?_ | refine at_then_exit ?_ | refine at_then_ret ?_ | refine at_block_norm ?_ | refine at_block_ret ?_ | refine at_block_exit ?_ | refine at_block_other (by decide) ?_ | refine at_then_norm ?_ | refine tri_seq ?_ | refine tri_skip ?_ | refine tri_label ?_ | refine tri_exit ?_ | refine tri_ret ?_ | refine tri_block ?_)
          (refine tri_region hF [6] ?_; simp only [go_sem, T3, T4, T22, T23, T24, T27, T30, T33, EL_T, EL_G, EL_Γ, EL_el, capT, G3_12])
          repeat (first | refine at_next ?_ | refine at_then_exit ?_ | refine at_then_ret ?_ | refine at_block_norm ?_ | refine at_block_ret ?_ | refine at_block_exit ?_ | refine at_block_other (by decide) ?_ | refine at_then_norm ?_ | refine tri_seq ?_ | refine tri_skip ?_ | refine tri_label ?_ | refine tri_exit ?_ | refine tri_ret ?_ | refine tri_block ?_)
          ((first | refine at_ren [] rfl ?_ | refine tri_ren [] rfl ?_); simp only [ren, ren1, renO, posOf, posAll, go_sem, T3, T4, T22, T23, T24, T27, T30, T33, EL_T, EL_G, EL_Γ, EL_el, capT, G3_12])
          (refine at_ret [6] rfl rfl ?_; simp only [retOK, as_val, List.map_nil, go_sem, T3, T4, T22, T23, T24, T27, T30, T33, EL_T, EL_G, EL_Γ, EL_el, capT, G3_12])
          refine hfail ?_
          rw [any_all, Bool.not_eq_true'] at hc
          simp only [okS, all_false (uses.getD s.toNat []) (fun l => l.all (okI frm s.toNat)) k.toNat [] hkn hc, Bool.and_false, Bool.false_and]
        · have := (hw4 _ (mem_getD [] (show s.toNat < uses.length by omega))).1
          simp only [maxLen_eq] at this
          rw [any_all, Bool.not_eq_false'] at hc
          repeat (first | refine at_next ?_ | refine at_then_exit ?_ | refine at_then_ret ?_ | refine at_block_norm ?_ | refine at_block_ret ?_ | refine at_block_exit ?_ | refine at_block_other (by decide) ?_ | refine at_then_norm ?_ | refine tri_seq ?_ | refine tri_skip ?_ | refine tri_label ?_ | refine tri_exit ?_ | refine tri_ret ?_ | refine tri_block ?_)
          (refine tri_region hF [0, 1, 5, 7, 8, 30, 31, 32, 55, 56, 57] ?_; simp only [go_sem, T3, T4, T22, T23, T24, T27, T30, T33, EL_T, EL_G, EL_Γ, EL_el, capT, G3_12])
          repeat (refine ⟨by first | omega | (intros; omega) | exact ⟨_, rfl, rfl⟩ | exact ⟨_, rfl, rfl, rfl⟩ | (intros; exact ⟨_, rfl, rfl⟩) | (intros; exact ⟨_, rfl, rfl, rfl⟩) | (intro hside; simp only [Bool.or_eq_true, Bool.or_eq_false_iff, Bool.and_eq_true, decide_eq_true_eq, decide_eq_false_iff_not] at hside; omega), ?_⟩)
          repeat (first | refine at_next ?_ | refine at_then_exit ?_ | refine at_then_ret ?_ | refine at_block_norm ?_ | refine at_block_ret ?_ | refine at_block_exit ?_ | refine at_block_other (by decide) ?_ | refine at_then_norm ?_ | refine tri_seq ?_ | refine tri_skip ?_ | refine tri_label ?_ | refine tri_exit ?_ | refine tri_ret ?_ | refine tri_block ?_)
          refine at_fit (k + 1) ⟨⟨by omega, by omega, ?_⟩, by omega⟩ rfl ?_
          · rw [show (k + 1).toNat = k.toNat + 1 from by omega, all_step _ _ _ [] hkn, hk2, Bool.true_and]; exact hc
          · simp only [fitE, fitV, as_val, true_or, List.map_nil, and_self, go_sem, T3, T4, T22, T23, T24, T27, T30, T33, EL_T, EL_G, EL_Γ, EL_el, capT, G3_12]
      · have hU : (uses.getD s.toNat []).all (fun l => l.all (okI frm s.toNat)) = true := by rw [← all_end _ _ k.toNat (by omega)]; exact hk2
        repeat (first | refine at_next ?_ | refine at_then_exit ?_ | refine at_then_ret ?_ | refine at_block_norm ?_ | refine at_block_ret ?_ | refine at_block_exit ?_ | refine at_block_other (by decide) ?_ | refine at_then_norm ?_ | refine tri_seq ?_ | refine tri_skip ?_ | refine tri_label ?_ | refine tri_exit ?_ | refine tri_ret ?_ | refine tri_block ?_)
        (refine tri_region hF [0, 1, 5, 7, 30, 31, 32, 68, 69, 70] ?_; simp only [go_sem, T3, T4, T22, T23, T24, T27, T30, T33, EL_T, EL_G, EL_Γ, EL_el, capT, G3_12])
        repeat (refine ⟨by first | omega | (intros; omega) | exact ⟨_, rfl, rfl⟩ | exact ⟨_, rfl, rfl, rfl⟩ | (intros; exact ⟨_, rfl, rfl⟩) | (intros; exact ⟨_, rfl, rfl, rfl⟩) | (intro hside; simp only [Bool.or_eq_true, Bool.or_eq_false_iff, Bool.and_eq_true, decide_eq_true_eq, decide_eq_false_iff_not] at hside; omega), ?_⟩)
        repeat (first | refine at_next ?_ | refine at_then_exit ?_ | refine at_then_ret ?_ | refine at_block_norm ?_ | refine at_block_ret ?_ | refine at_block_exit ?_ | refine at_block_other (by decide) ?_ | refine at_then_norm ?_ | refine tri_seq ?_ | refine tri_skip ?_ | refine tri_label ?_ | refine tri_exit ?_ | refine tri_ret ?_ | refine tri_block ?_)
        ((first | refine at_ren [0] rfl ?_ | refine tri_ren [0] rfl ?_); simp only [ren, ren1, renO, posOf, posAll, go_sem, T3, T4, T22, T23, T24, T27, T30, T33, EL_T, EL_G, EL_Γ, EL_el, capT, G3_12])
        refine tri_loop (D := Int) (fun i => 0 ≤ i ∧ i ≤ (frm.getD s.toNat []).length ∧ ((frm.getD s.toNat []).take i.toNat).all (okX outs) = true) (fun i => ((frm.getD s.toNat []).length - i).toNat) (fun i => [(0, .val (.sl (.i .i64)) outs), (1, .val (.sl (.sl (.sl (.i .i64)))) uses), (5, .ptr 0 []), (7, .val (.i .i64) outs.length), (30, .val (.sl (.i .i64)) outs), (31, .val (.i .i64) outs.length), (32, .val (.i .i64) s), (68, .val (.sl (.arr 2 (.i .i64))) (frm.getD s.toNat [])), (69, .val (.i .i64) (frm.getD s.toNat []).length), (70, .val (.i .i64) i)]) (fun _ => [.box 1 (.val (.sl (.sl (.arr 2 (.i .i64)))) frm)]) (at_fit 0 ?_ rfl ?_) ?_
        · simp
        · simp only [fitE, fitV, as_val, true_or, List.map_nil, and_self, go_sem, T3, T4, T22, T23, T24, T27, T30, T33, EL_T, EL_G, EL_Γ, EL_el, capT, G3_12]
        rintro i ⟨hi0, hi1, hi2⟩
        repeat (first | refine at_next ?_ | refine at_then_exit ?_ | refine at_then_ret ?_ | refine at_block_norm ?_ | refine at_block_ret ?_ | refine at_block_exit ?_ | refine at_block_other (by decide) ?_ | refine at_then_norm ?_ | refine tri_seq ?_ | refine tri_skip ?_ | refine tri_label ?_ | refine tri_exit ?_ | refine tri_ret ?_ | refine tri_block ?_)
        (refine tri_region hF [0, 1, 5, 7, 30, 31, 32, 68, 69, 70, 71] ?_; simp only [go_sem, T3, T4, T22, T23, T24, T27, T30, T33, EL_T, EL_G, EL_Γ, EL_el, capT, G3_12])
        repeat (first | refine at_next ?_ | refine at_then_exit ?_ | refine at_then_ret ?_ | refine at_block_norm ?_ | refine at_block_ret ?_ | refine at_block_exit ?_ | refine at_block_other (by decide) ?_ | refine at_then_norm ?_ | refine tri_seq ?_ | refine tri_skip ?_ | refine tri_label ?_ | refine tri_exit ?_ | refine tri_ret ?_ | refine tri_block ?_)
        refine tri_cond rfl (fun hc => ?_) (fun hc => ?_) <;> try simp only [Bool.or_eq_true, Bool.or_eq_false_iff, Bool.and_eq_true, decide_eq_true_eq, decide_eq_false_iff_not, Int.not_lt, Int.not_le, Bool.not_eq_true', Bool.not_eq_false'] at hc
        · have hin : i.toNat < (frm.getD s.toNat []).length := by omega
          repeat (first | refine at_next ?_ | refine at_then_exit ?_ | refine at_then_ret ?_ | refine at_block_norm ?_ | refine at_block_ret ?_ | refine at_block_exit ?_ | refine at_block_other (by decide) ?_ | refine at_then_norm ?_ | refine tri_seq ?_ | refine tri_skip ?_ | refine tri_label ?_ | refine tri_exit ?_ | refine tri_ret ?_ | refine tri_block ?_)
          (refine tri_regionB hF [0, 1, 5, 7, 13, 30, 31, 32, 68, 69, 70] ?_; simp only [go_sem, T3, T4, T22, T23, T24, T27, T30, T33, EL_T, EL_G, EL_Γ, EL_el, capT, G3_12])
          repeat (refine ⟨by first | omega | (intros; omega) | exact ⟨_, rfl, rfl⟩ | exact ⟨_, rfl, rfl, rfl⟩ | (intros; exact ⟨_, rfl, rfl⟩) | (intros; exact ⟨_, rfl, rfl, rfl⟩) | (intro hside; simp only [Bool.or_eq_true, Bool.or_eq_false_iff, Bool.and_eq_true, decide_eq_true_eq, decide_eq_false_iff_not] at hside; omega), ?_⟩)
          repeat (first | refine at_next ?_ | refine at_then_exit ?_ | refine at_then_ret ?_ | refine at_block_norm ?_ | refine at_block_ret ?_ | refine at_block_exit ?_ | refine at_block_other (by decide) ?_ | refine at_then_norm ?_ | refine tri_seq ?_ | refine tri_skip ?_ | refine tri_label ?_ | refine tri_exit ?_ | refine tri_ret ?_ | refine tri_block ?_)
          (refine tri_region hF [0, 1, 5, 7, 30, 31, 32, 68, 69, 70, 97] ?_; simp only [go_sem, T3, T4, T22, T23, T24, T27, T30, T33, EL_T, EL_G, EL_Γ, EL_el, capT, G3_12])
          repeat (refine ⟨by first | omega | (intros; omega) | exact ⟨_, rfl, rfl⟩ | exact ⟨_, rfl, rfl, rfl⟩ | (intros; exact ⟨_, rfl, rfl⟩) | (intros; exact ⟨_, rfl, rfl, rfl⟩) | (intro hside; simp only [Bool.or_eq_true, Bool.or_eq_false_iff, Bool.and_eq_true, decide_eq_true_eq, decide_eq_false_iff_not] at hside; omega), ?_⟩)
          repeat (first | refine at_next ?_ | refine at_then_exit ?_ | refine at_then_ret ?_ | refine at_block_norm ?_ | refine at_block_ret ?_ | refine at_block_exit ?_ | refine at_block_other (by decide) ?_ | refine at_then_norm ?_ | refine tri_seq ?_ | refine tri_skip ?_ | refine tri_label ?_ | refine tri_exit ?_ | refine tri_ret ?_ | refine tri_block ?_)
          refine tri_cond rfl (fun hc => ?_) (fun hc => ?_) <;> try simp only [Bool.or_eq_true, Bool.or_eq_false_iff, Bool.and_eq_true, decide_eq_true_eq, decide_eq_false_iff_not, Int.not_lt, Int.not_le, Bool.not_eq_true', Bool.not_eq_false'] at hc
          · repeat (first | refine at_next ?_ | refine at_then_exit ?_ | refine at_then_ret ?_ | refine at_block_norm ?_ | refine at_block_ret ?_ | refine at_block_exit ?_ | refine at_block_other (by decide) ?_ | refine at_then_norm ?_ | refine tri_seq ?_ | refine tri_skip ?_ | refine tri_label ?_ | refine tri_exit ?_ | refine tri_ret ?_ | refine tri_block ?_)
            (refine tri_region hF [6] ?_; simp only [go_sem, T3, T4, T22, T23, T24, T27, T30, T33, EL_T, EL_G, EL_Γ, EL_el, capT, G3_12])
            repeat (first | refine at_next ?_ | refine at_then_exit ?_ | refine at_then_ret ?_ | refine at_block_norm ?_ | refine at_block_ret ?_ | refine at_block_exit ?_ | refine at_block_other (by decide) ?_ | refine at_then_norm ?_ | refine tri_seq ?_ | refine tri_skip ?_ | refine tri_label ?_ | refine tri_exit ?_ | refine tri_ret ?_ | refine tri_block ?_)
            ((first | refine at_ren [] rfl ?_ | refine tri_ren [] rfl ?_); simp only [ren, ren1, renO, posOf, posAll, go_sem, T3, T4, T22, T23, T24, T27, T30, T33, EL_T, EL_G, EL_Γ, EL_el, capT, G3_12])
            (refine at_ret [6] rfl rfl ?_; simp only [retOK, as_val, List.map_nil, go_sem, T3, T4, T22, T23, T24, T27, T30, T33, EL_T, EL_G, EL_Γ, EL_el, capT, G3_12])
            refine hfail ?_
            have h1 : okX outs ((frm.getD s.toNat []).getD i.toNat (List.replicate 2 0)) = false := by
              simp only [okX, Bool.and_eq_false_iff, decide_eq_false_iff_not]; omega
            simp only [okS, all_false _ _ i.toNat _ hin h1, Bool.and_false]
          · repeat (first | refine at_next ?_ | refine at_then_exit ?_ | refine at_then_ret ?_ | refine at_block_norm ?_ | refine at_block_ret ?_ | refine at_block_exit ?_ | refine at_block_other (by decide) ?_ | refine at_then_norm ?_ | refine tri_seq ?_ | refine tri_skip ?_ | refine tri_label ?_ | refine tri_exit ?_ | refine tri_ret ?_ | refine tri_block ?_)
            ((first | refine at_ren [0] rfl ?_ | refine tri_ren [0] rfl ?_); simp only [ren, ren1, renO, posOf, posAll, go_sem, T3, T4, T22, T23, T24, T27, T30, T33, EL_T, EL_G, EL_Γ, EL_el, capT, G3_12])
            (refine tri_region hF [0, 1, 5, 7, 30, 31, 32, 68, 69, 70] ?_; simp only [go_sem, T3, T4, T22, T23, T24, T27, T30, T33, EL_T, EL_G, EL_Γ, EL_el, capT, G3_12])
            have := (hw6 _ (mem_getD [] (show s.toNat < frm.length by omega))).1
            simp only [maxLen_eq] at this
            repeat (refine ⟨by first | omega | (intros; omega) | exact ⟨_, rfl, rfl⟩ | exact ⟨_, rfl, rfl, rfl⟩ | (intros; exact ⟨_, rfl, rfl⟩) | (intros; exact ⟨_, rfl, rfl, rfl⟩) | (intro hside; simp only [Bool.or_eq_true, Bool.or_eq_false_iff, Bool.and_eq_true, decide_eq_true_eq, decide_eq_false_iff_not] at hside; omega), ?_⟩)
            repeat (first | refine at_next ?_ | refine at_then_exit ?_ | refine at_then_ret ?_ | refine at_block_norm ?_ | refine at_block_ret ?_ | refine at_block_exit ?_ | refine at_block_other (by decide) ?_ | refine at_then_norm ?_ | refine tri_seq ?_ | refine tri_skip ?_ | refine tri_label ?_ | refine tri_exit ?_ | refine tri_ret ?_ | refine tri_block ?_)
            refine at_fit (i + 1) ⟨⟨by omega, by omega, ?_⟩, by omega⟩ rfl ?_
            · rw [show (i + 1).toNat = i.toNat + 1 from by omega, all_step _ _ _ (List.replicate 2 0) hin, hi2, Bool.true_and]
              simp only [okX, Bool.and_eq_true, decide_eq_true_eq]; omega
            · simp only [fitE, fitV, as_val, true_or, List.map_nil, and_self, go_sem, T3, T4, T22, T23, T24, T27, T30, T33, EL_T, EL_G, EL_Γ, EL_el, capT, G3_12]
        · have hX : (frm.getD s.toNat []).all (okX outs) = true := by rw [← all_end _ _ i.toNat (by omega)]; exact hi2
          repeat (first | refine at_next ?_ | refine at_then_exit ?_ | refine at_then_ret ?_ | refine at_block_norm ?_ | refine at_block_ret ?_ | refine at_block_exit ?_ | refine at_block_other (by decide) ?_ | refine at_then_norm ?_ | refine tri_seq ?_ | refine tri_skip ?_ | refine tri_label ?_ | refine tri_exit ?_ | refine tri_ret ?_ | refine tri_block ?_)
          (refine tri_region hF [0, 1, 5, 7, 30, 31, 32] ?_; simp only [go_sem, T3, T4, T22, T23, T24, T27, T30, T33, EL_T, EL_G, EL_Γ, EL_el, capT, G3_12])
          repeat (refine ⟨by first | omega | (intros; omega) | exact ⟨_, rfl, rfl⟩ | exact ⟨_, rfl, rfl, rfl⟩ | (intros; exact ⟨_, rfl, rfl⟩) | (intros; exact ⟨_, rfl, rfl, rfl⟩) | (intro hside; simp only [Bool.or_eq_true, Bool.or_eq_false_iff, Bool.and_eq_true, decide_eq_true_eq, decide_eq_false_iff_not] at hside; omega), ?_⟩)
          repeat (first | refine at_next ?_ | refine at_then_exit ?_ | refine at_then_ret ?_ | refine at_block_norm ?_ | refine at_block_ret ?_ | refine at_block_exit ?_ | refine at_block_other (by decide) ?_ | refine at_then_norm ?_ | refine tri_seq ?_ | refine tri_skip ?_ | refine tri_label ?_ | refine tri_exit ?_ | refine tri_ret ?_ | refine tri_block ?_)
          refine at_fit (s + 1) ⟨⟨by omega, by omega, ?_⟩, by omega⟩ rfl ?_
          · rw [show (s + 1).toNat = s.toNat + 1 from by omega, range_step, hs2, okS, hA, hU, hX]; rfl
          · simp only [fitE, fitV, as_val, true_or, List.map_nil, and_self, go_sem, T3, T4, T22, T23, T24, T27, T30, T33, EL_T, EL_G, EL_Γ, EL_el, capT, G3_12]
  · repeat (first | refine at_next ?_ | refine at_then_exit ?_ | refine at_then_ret ?_ | refine at_block_norm ?_ | refine at_block_ret ?_ | refine at_block_exit ?_ | refine at_block_other (by decide) ?_ | refine at_then_norm ?_ | refine tri_seq ?_ | refine tri_skip ?_ | refine tri_label ?_ | refine tri_exit ?_ | refine tri_ret ?_ | refine tri_block ?_)
    (refine tri_region hF [6] ?_; simp only [go_sem, T3, T4, T22, T23, T24, T27, T30, T33, EL_T, EL_G, EL_Γ, EL_el, capT, G3_12])
    repeat (first | refine at_next ?_ | refine at_then_exit ?_ | refine at_then_ret ?_ | refine at_block_norm ?_ | refine at_block_ret ?_ | refine at_block_exit ?_ | refine at_block_other (by decide) ?_ | refine at_then_norm ?_ | refine tri_seq ?_ | refine tri_skip ?_ | refine tri_label ?_ | refine tri_exit ?_ | refine tri_ret ?_ | refine tri_block ?_)
    ((first | refine at_ren [] rfl ?_ | refine tri_ren [] rfl ?_); simp only [ren, ren1, renO, posOf, posAll, go_sem, T3, T4, T22, T23, T24, T27, T30, T33, EL_T, EL_G, EL_Γ, EL_el, capT, G3_12])
    (refine at_ret [6] rfl rfl ?_; simp only [retOK, as_val, List.map_nil, go_sem, T3, T4, T22, T23, T24, T27, T30, T33, EL_T, EL_G, EL_Γ, EL_el, capT, G3_12])
    rw [hmay, show outs.length = s.toNat from by omega, hs2]

end Gr
end Go.Proofs
