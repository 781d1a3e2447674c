import Derived.Test.YteongmdhfkalaaaZGrA
namespace Go.Proofs
open Go.Vc
set_option linter.unusedVariables false
set_option linter.unusedSimpArgs false
namespace Gr

theorem range_step (p : Nat → Bool) (n : Nat) : (List.range (n + 1)).all p = ((List.range n).all p && p n) := by
  rw [List.range_succ, List.all_append]; simp
theorem range_false (p : Nat → Bool) {n m : Nat} (h : n < m) (hp : p n = false) : (List.range m).all p = false := by
  rw [List.all_eq_false]
  exact ⟨n, List.mem_range.2 h, by simpa using hp⟩

theorem mem_getD {α : Type} {l : List α} {n : Nat} (d : α) (h : n < l.length) : l.getD n d ∈ l := by
  rw [List.getD_eq_getElem?_getD, List.getElem?_eq_getElem h]; exact List.getElem_mem h

def okI (frm : List (List (List Int))) (s : Nat) (i : Int) : Bool := decide (0 ≤ i) && decide (i < (frm.getD s []).length)
def okX (outs : List Int) (o : List Int) : Bool := decide (0 ≤ o.getD 0 0) && decide (o.getD 0 0 < outs.length) && decide (0 ≤ o.getD 1 0) && decide (o.getD 1 0 < outs.getD (o.getD 0 0).toNat 0)
def okA (outs : List Int) (uses : List (List (List Int))) (s : Nat) : Bool := decide (0 ≤ outs.getD s 0) && decide (outs.getD s 0 ≤ 64) && decide (((uses.getD s []).length : Int) = outs.getD s 0)
def okS (outs : List Int) (uses : List (List (List Int))) (frm : List (List (List Int))) (s : Nat) : Bool :=
  okA outs uses s && (uses.getD s []).all (fun l => l.all (okI frm s)) && (frm.getD s []).all (okX outs)
def mayG (outs : List Int) (uses : List (List (List Int))) (frm : List (List (List Int))) : Bool :=
  decide (outs.length ≤ 16) && decide (uses.length = outs.length) && decide (frm.length = outs.length) && (List.range outs.length).all (okS outs uses frm)

def e3 (outs : List Int) (uses : List (List (List Int))) (frm : List (List (List Int))) : St := [(0, .val (.sl (.i .i64)) outs), (1, .val (.sl (.sl (.sl (.i .i64)))) uses), (2, .val (.sl (.sl (.arr 2 (.i .i64)))) frm)]

theorem MayGraph_ok : FOK Try.prog E0.G 10 ⟨args3, .one .bool, fun _ => True, fun x => mayG x.1 x.2.1 x.2.2.1⟩ := by
  refine fok_of E0ok Try.func10 rfl (by kernel_rfl) (by decide) fun w0 S x hw _ => ?_
  obtain ⟨outs, uses, frm, u⟩ := x
  simp only [args3, Ty.wf] at hw
  obtain ⟨⟨hw1, hw2⟩, ⟨hw3, hw4⟩, ⟨hw5, hw6⟩, _⟩ := hw
  have hF : FrOK ⟨Try.prog, E0, ⟨nothing, S⟩, w0, Try.f10.ntmps⟩ := ⟨E0ok, mix⟩
  simp only [args0, args3]
  repeat (first | refine at_next ?_ | refine at_then_exit ?_ | refine at_then_ret ?_ | refine at_block_norm ?_ | refine at_block_ret ?_ | refine at_block_exit ?_ | refine at_block_other (by decide) ?_ | refine at_then_norm ?_ | refine tri_seq ?_ | refine tri_skip ?_ | refine tri_label ?_ | refine tri_exit ?_ | refine tri_ret ?_ | refine tri_block ?_)
  (refine tri_region hF [0, 1, 2] ?_; simp only [go_sem, T3, T4, T22, T23, T24, T27, T30, T33])
  repeat (first | refine at_next ?_ | refine at_then_exit ?_ | refine at_then_ret ?_ | refine at_block_norm ?_ | refine at_block_ret ?_ | refine at_block_exit ?_ | refine at_block_other (by decide) ?_ | refine at_then_norm ?_ | refine tri_seq ?_ | refine tri_skip ?_ | refine tri_label ?_ | refine tri_exit ?_ | refine tri_ret ?_ | refine tri_block ?_)
  (refine tri_region hF [0, 1, 2, 28] ?_; simp only [go_sem, T3, T4, T22, T23, T24, T27, T30, T33])
  repeat (first | refine at_next ?_ | refine at_then_exit ?_ | refine at_then_ret ?_ | refine at_block_norm ?_ | refine at_block_ret ?_ | refine at_block_exit ?_ | refine at_block_other (by decide) ?_ | refine at_then_norm ?_ | refine tri_seq ?_ | refine tri_skip ?_ | refine tri_label ?_ | refine tri_exit ?_ | refine tri_ret ?_ | refine tri_block ?_)
  refine tri_cond rfl (fun hc => ?_) (fun hc => ?_) <;> try simp only [Bool.or_eq_true, Bool.or_eq_false_iff, Bool.and_eq_true, decide_eq_true_eq, decide_eq_false_iff_not, Int.not_lt, Int.not_le, Bool.not_eq_true', Bool.not_eq_false'] at hc
  · repeat (first | refine at_next ?_ | refine at_then_exit ?_ | refine at_then_ret ?_ | refine at_block_norm ?_ | refine at_block_ret ?_ | refine at_block_exit ?_ | refine at_block_other (by decide) ?_ | refine at_then_norm ?_ | refine tri_seq ?_ | refine tri_skip ?_ | refine tri_label ?_ | refine tri_exit ?_ | refine tri_ret ?_ | refine tri_block ?_)
    (refine tri_region hF [6] ?_; simp only [go_sem, T3, T4, T22, T23, T24, T27, T30, T33])
    repeat (first | refine at_next ?_ | refine at_then_exit ?_ | refine at_then_ret ?_ | refine at_block_norm ?_ | refine at_block_ret ?_ | refine at_block_exit ?_ | refine at_block_other (by decide) ?_ | refine at_then_norm ?_ | refine tri_seq ?_ | refine tri_skip ?_ | refine tri_label ?_ | refine tri_exit ?_ | refine tri_ret ?_ | refine tri_block ?_)
    (refine at_ret [6] rfl rfl ?_; simp only [retOK, as_val, List.map_nil, go_sem, T3, T4, T22, T23, T24, T27, T30, T33])
    have : ¬ (outs.length ≤ 16) ∨ ¬ (uses.length = outs.length) ∨ ¬ (frm.length = outs.length) := by omega
    rcases this with h | h | h <;> simp [mayG, h]
  have hl : outs.length ≤ 16 ∧ uses.length = outs.length ∧ frm.length = outs.length := by omega
  obtain ⟨hl1, hl2, hl3⟩ := hl
  have hmay : mayG outs uses frm = (List.range outs.length).all (okS outs uses frm) := by simp [mayG, hl1, hl2, hl3]
  clear hc
  repeat (first | refine at_next ?_ | refine at_then_exit ?_ | refine at_then_ret ?_ | refine at_block_norm ?_ | refine at_block_ret ?_ | refine at_block_exit ?_ | refine at_block_other (by decide) ?_ | refine at_then_norm ?_ | refine tri_seq ?_ | refine tri_skip ?_ | refine tri_label ?_ | refine tri_exit ?_ | refine tri_ret ?_ | refine tri_block ?_)
  (refine tri_region hF [0, 1, 2, 7] ?_; simp only [go_sem, T3, T4, T22, T23, T24, T27, T30, T33])
  repeat (first | refine at_next ?_ | refine at_then_exit ?_ | refine at_then_ret ?_ | refine at_block_norm ?_ | refine at_block_ret ?_ | refine at_block_exit ?_ | refine at_block_other (by decide) ?_ | refine at_then_norm ?_ | refine tri_seq ?_ | refine tri_skip ?_ | refine tri_label ?_ | refine tri_exit ?_ | refine tri_ret ?_ | refine tri_block ?_)
  refine tri_loop (D := Int) (fun s => 0 ≤ s ∧ s ≤ outs.length ∧ (List.range s.toNat).all (okS outs uses frm) = true) (fun s => (outs.length - s).toNat) (fun s => [(0, .val (.sl (.i .i64)) outs), (1, .val (.sl (.sl (.sl (.i .i64)))) uses), (2, .val (.sl (.sl (.arr 2 (.i .i64)))) frm), (7, .val (.i .i64) s)]) (fun _ => []) (at_fit 0 ?_ rfl ?_) ?_
  · simp
  · simp only [fitE, fitV, as_val, true_or, List.map_nil, and_self, go_sem, T3, T4, T22, T23, T24, T27, T30, T33]
  rintro s ⟨hs0, hs1, hs2⟩
  repeat (first | refine at_next ?_ | refine at_then_exit ?_ | refine at_then_ret ?_ | refine at_block_norm ?_ | refine at_block_ret ?_ | refine at_block_exit ?_ | refine at_block_other (by decide) ?_ | refine at_then_norm ?_ | refine tri_seq ?_ | refine tri_skip ?_ | refine tri_label ?_ | refine tri_exit ?_ | refine tri_ret ?_ | refine tri_block ?_)
  (refine tri_region hF [0, 1, 2, 7, 32] ?_; simp only [go_sem, T3, T4, T22, T23, T24, T27, T30, T33])
  repeat (first | refine at_next ?_ | refine at_then_exit ?_ | refine at_then_ret ?_ | refine at_block_norm ?_ | refine at_block_ret ?_ | refine at_block_exit ?_ | refine at_block_other (by decide) ?_ | refine at_then_norm ?_ | refine tri_seq ?_ | refine tri_skip ?_ | refine tri_label ?_ | refine tri_exit ?_ | refine tri_ret ?_ | refine tri_block ?_)
  refine tri_cond rfl (fun hc => ?_) (fun hc => ?_) <;> try simp only [Bool.or_eq_true, Bool.or_eq_false_iff, Bool.and_eq_true, decide_eq_true_eq, decide_eq_false_iff_not, Int.not_lt, Int.not_le, Bool.not_eq_true', Bool.not_eq_false'] at hc
  · have hsn : s.toNat < outs.length := by omega
    have hfail : okS outs uses frm s.toNat = false → false = mayG outs uses frm := fun h => by rw [hmay, range_false _ hsn h]
    rename_i hc1
    clear hc1
    repeat (first | refine at_next ?_ | refine at_then_exit ?_ | refine at_then_ret ?_ | refine at_block_norm ?_ | refine at_block_ret ?_ | refine at_block_exit ?_ | refine at_block_other (by decide) ?_ | refine at_then_norm ?_ | refine tri_seq ?_ | refine tri_skip ?_ | refine tri_label ?_ | refine tri_exit ?_ | refine tri_ret ?_ | refine tri_block ?_)
    (refine tri_region hF [0, 1, 2, 7, 58] ?_; simp only [go_sem, T3, T4, T22, T23, T24, T27, T30, T33])
    refine ⟨⟨hs0, hc⟩, fun _ => ⟨hs0, hc⟩, fun _ => ⟨hs0, by omega⟩, fun _ => ⟨hs0, hc⟩, ?_⟩
    repeat (first | refine at_next ?_ | refine at_then_exit ?_ | refine at_then_ret ?_ | refine at_block_norm ?_ | refine at_block_ret ?_ | refine at_block_exit ?_ | refine at_block_other (by decide) ?_ | refine at_then_norm ?_ | refine tri_seq ?_ | refine tri_skip ?_ | refine tri_label ?_ | refine tri_exit ?_ | refine tri_ret ?_ | refine tri_block ?_)
    refine tri_cond rfl (fun hc => ?_) (fun hc => ?_) <;> try simp only [Bool.or_eq_true, Bool.or_eq_false_iff, Bool.and_eq_true, decide_eq_true_eq, decide_eq_false_iff_not, Int.not_lt, Int.not_le, Bool.not_eq_true', Bool.not_eq_false'] at hc
    · repeat (first | refine at_next ?_ | refine at_then_exit ?_ | refine at_then_ret ?_ | refine at_block_norm ?_ | refine at_block_ret ?_ | refine at_block_exit ?_ | refine at_block_other (by decide) ?_ | refine at_then_norm ?_ | refine tri_seq ?_ | refine tri_skip ?_ | refine tri_label ?_ | refine tri_exit ?_ | refine tri_ret ?_ | refine tri_block ?_)
      (refine tri_region hF [6] ?_; simp only [go_sem, T3, T4, T22, T23, T24, T27, T30, T33])
      repeat (first | refine at_next ?_ | refine at_then_exit ?_ | refine at_then_ret ?_ | refine at_block_norm ?_ | refine at_block_ret ?_ | refine at_block_exit ?_ | refine at_block_other (by decide) ?_ | refine at_then_norm ?_ | refine tri_seq ?_ | refine tri_skip ?_ | refine tri_label ?_ | refine tri_exit ?_ | refine tri_ret ?_ | refine tri_block ?_)
      (refine at_ret [6] rfl rfl ?_; simp only [retOK, as_val, List.map_nil, go_sem, T3, T4, T22, T23, T24, T27, T30, T33])
      refine hfail ?_
      have : okA outs uses s.toNat = false := by
        simp only [okA, Bool.and_eq_false_iff, decide_eq_false_iff_not]; omega
      simp only [okS, this, Bool.false_and]
    · have hA : okA outs uses s.toNat = true := by
        simp only [okA, Bool.and_eq_true, decide_eq_true_eq]; omega
      have hb := hc
      rename_i hc1
      clear hc
      repeat (first | refine at_next ?_ | refine at_then_exit ?_ | refine at_then_ret ?_ | refine at_block_norm ?_ | refine at_block_ret ?_ | refine at_block_exit ?_ | refine at_block_other (by decide) ?_ | refine at_then_norm ?_ | refine tri_seq ?_ | refine tri_skip ?_ | refine tri_label ?_ | refine tri_exit ?_ | refine tri_ret ?_ | refine tri_block ?_)
      (refine tri_region hF [0, 1, 2, 7, 8] ?_; simp only [go_sem, T3, T4, T22, T23, T24, T27, T30, T33])
      repeat (first | refine at_next ?_ | refine at_then_exit ?_ | refine at_then_ret ?_ | refine at_block_norm ?_ | refine at_block_ret ?_ | refine at_block_exit ?_ | refine at_block_other (by decide) ?_ | refine at_then_norm ?_ | refine tri_seq ?_ | refine tri_skip ?_ | refine tri_label ?_ | refine tri_exit ?_ | refine tri_ret ?_ | refine tri_block ?_)
      refine tri_loop (D := Int) (fun k => 0 ≤ k ∧ k ≤ outs.getD s.toNat 0 ∧ ((uses.getD s.toNat []).take k.toNat).all (fun l => l.all (okI frm s.toNat)) = true) (fun k => (outs.getD s.toNat 0 - k).toNat) (fun k => [(0, .val (.sl (.i .i64)) outs), (1, .val (.sl (.sl (.sl (.i .i64)))) uses), (2, .val (.sl (.sl (.arr 2 (.i .i64)))) frm), (7, .val (.i .i64) s), (8, .val (.i .i64) k)]) (fun _ => []) (at_fit 0 ?_ rfl ?_) ?_
      · exact ⟨Int.le_refl 0, hb.1.1, by simp⟩
      · simp only [fitE, fitV, as_val, true_or, List.map_nil, and_self, go_sem, T3, T4, T22, T23, T24, T27, T30, T33]
      rintro k ⟨hk0, hk1, hk2⟩
      repeat (first | refine at_next ?_ | refine at_then_exit ?_ | refine at_then_ret ?_ | refine at_block_norm ?_ | refine at_block_ret ?_ | refine at_block_exit ?_ | refine at_block_other (by decide) ?_ | refine at_then_norm ?_ | refine tri_seq ?_ | refine tri_skip ?_ | refine tri_label ?_ | refine tri_exit ?_ | refine tri_ret ?_ | refine tri_block ?_)
      (refine tri_region hF [0, 1, 2, 7, 8, 64] ?_; simp only [go_sem, T3, T4, T22, T23, T24, T27, T30, T33])
      refine ⟨⟨hs0, by omega⟩, ?_⟩
      repeat (first | refine at_next ?_ | refine at_then_exit ?_ | refine at_then_ret ?_ | refine at_block_norm ?_ | refine at_block_ret ?_ | refine at_block_exit ?_ | refine at_block_other (by decide) ?_ | refine at_then_norm ?_ | refine tri_seq ?_ | refine tri_skip ?_ | refine tri_label ?_ | refine tri_exit ?_ | refine tri_ret ?_ | refine tri_block ?_)
      refine tri_cond rfl (fun hc => ?_) (fun hc => ?_) <;> try simp only [Bool.or_eq_true, Bool.or_eq_false_iff, Bool.and_eq_true, decide_eq_true_eq, decide_eq_false_iff_not, Int.not_lt, Int.not_le, Bool.not_eq_true', Bool.not_eq_false'] at hc
      · have hkn : k.toNat < (uses.getD s.toNat []).length := by omega
        repeat (first | refine at_next ?_ | refine at_then_exit ?_ | refine at_then_ret ?_ | refine at_block_norm ?_ | refine at_block_ret ?_ | refine at_block_exit ?_ | refine at_block_other (by decide) ?_ | refine at_then_norm ?_ | refine tri_seq ?_ | refine tri_skip ?_ | refine tri_label ?_ | refine tri_exit ?_ | refine tri_ret ?_ | refine tri_block ?_)
        (refine tri_region hF [0, 1, 2, 7, 8, 9] ?_; simp only [go_sem, T3, T4, T22, T23, T24, T27, T30, T33])
        repeat (first | refine at_next ?_ | refine at_then_exit ?_ | refine at_then_ret ?_ | refine at_block_norm ?_ | refine at_block_ret ?_ | refine at_block_exit ?_ | refine at_block_other (by decide) ?_ | refine at_then_norm ?_ | refine tri_seq ?_ | refine tri_skip ?_ | refine tri_label ?_ | refine tri_exit ?_ | refine tri_ret ?_ | refine tri_block ?_)
        refine tri_loop (D := Int) (fun i => 0 ≤ i ∧ i ≤ ((uses.getD s.toNat []).getD k.toNat []).length ∧ (((uses.getD s.toNat []).getD k.toNat []).take i.toNat).all (okI frm s.toNat) = true) (fun i => (((uses.getD s.toNat []).getD k.toNat []).length - i).toNat) (fun i => [(0, .val (.sl (.i .i64)) outs), (1, .val (.sl (.sl (.sl (.i .i64)))) uses), (2, .val (.sl (.sl (.arr 2 (.i .i64)))) frm), (7, .val (.i .i64) s), (8, .val (.i .i64) k), (9, .val (.i .i64) i)]) (fun _ => []) (at_fit 0 ?_ rfl ?_) ?_
        · simp
        · simp only [fitE, fitV, as_val, true_or, List.map_nil, and_self, go_sem, T3, T4, T22, T23, T24, T27, T30, T33]
        rintro i ⟨hi0, hi1, hi2⟩
        repeat (first | refine at_next ?_ | refine at_then_exit ?_ | refine at_then_ret ?_ | refine at_block_norm ?_ | refine at_block_ret ?_ | refine at_block_exit ?_ | refine at_block_other (by decide) ?_ | refine at_then_norm ?_ | refine tri_seq ?_ | refine tri_skip ?_ | refine tri_label ?_ | refine tri_exit ?_ | refine tri_ret ?_ | refine tri_block ?_)
        (refine tri_region hF [0, 1, 2, 7, 8, 9, 76] ?_; simp only [go_sem, T3, T4, T22, T23, T24, T27, T30, T33])
        refine ⟨⟨hs0, by omega⟩, ⟨hk0, by omega⟩, ?_⟩
        repeat (first | refine at_next ?_ | refine at_then_exit ?_ | refine at_then_ret ?_ | refine at_block_norm ?_ | refine at_block_ret ?_ | refine at_block_exit ?_ | refine at_block_other (by decide) ?_ | refine at_then_norm ?_ | refine tri_seq ?_ | refine tri_skip ?_ | refine tri_label ?_ | refine tri_exit ?_ | refine tri_ret ?_ | refine tri_block ?_)
        refine tri_cond rfl (fun hc => ?_) (fun hc => ?_) <;> try simp only [Bool.or_eq_true, Bool.or_eq_false_iff, Bool.and_eq_true, decide_eq_true_eq, decide_eq_false_iff_not, Int.not_lt, Int.not_le, Bool.not_eq_true', Bool.not_eq_false'] at hc
        · repeat (first | refine at_next ?_ | refine at_then_exit ?_ | refine at_then_ret ?_ | refine at_block_norm ?_ | refine at_block_ret ?_ | refine at_block_exit ?_ | refine at_block_other (by decide) ?_ | refine at_then_norm ?_ | refine tri_seq ?_ | refine tri_skip ?_ | refine tri_label ?_ | refine tri_exit ?_ | refine tri_ret ?_ | refine tri_block ?_)
          (refine tri_region hF [0, 1, 2, 7, 8, 9, 107] ?_; simp only [go_sem, T3, T4, T22, T23, T24, T27, T30, T33])
          repeat (refine ⟨by first | omega | (intros; omega) | exact ⟨_, rfl, rfl⟩ | exact ⟨_, rfl, rfl, rfl⟩ | (intros; exact ⟨_, rfl, rfl⟩) | (intros; exact ⟨_, rfl, rfl, rfl⟩) | (intro hside; simp only [Bool.or_eq_true, Bool.or_eq_false_iff, Bool.and_eq_true, decide_eq_true_eq, decide_eq_false_iff_not] at hside; omega), ?_⟩)
          have hin : i.toNat < ((uses.getD s.toNat []).getD k.toNat []).length := by omega
          repeat (first | refine at_next ?_ | refine at_then_exit ?_ | refine at_then_ret ?_ | refine at_block_norm ?_ | refine at_block_ret ?_ | refine at_block_exit ?_ | refine at_block_other (by decide) ?_ | refine at_then_norm ?_ | refine tri_seq ?_ | refine tri_skip ?_ | refine tri_label ?_ | refine tri_exit ?_ | refine tri_ret ?_ | refine tri_block ?_)
          refine tri_cond rfl (fun hc => ?_) (fun hc => ?_) <;> try simp only [Bool.or_eq_true, Bool.or_eq_false_iff, Bool.and_eq_true, decide_eq_true_eq, decide_eq_false_iff_not, Int.not_lt, Int.not_le, Bool.not_eq_true', Bool.not_eq_false'] at hc
          · repeat (first | refine at_next ?_ | refine at_then_exit ?_ | refine at_then_ret ?_ | refine at_block_norm ?_ | refine at_block_ret ?_ | refine at_block_exit ?_ | refine at_block_other (by decide) ?_ | refine at_then_norm ?_ | refine tri_seq ?_ | refine tri_skip ?_ | refine tri_label ?_ | refine tri_exit ?_ | refine tri_ret ?_ | refine tri_block ?_)
            (refine tri_region hF [6] ?_; simp only [go_sem, T3, T4, T22, T23, T24, T27, T30, T33])
            repeat (first | refine at_next ?_ | refine at_then_exit ?_ | refine at_then_ret ?_ | refine at_block_norm ?_ | refine at_block_ret ?_ | refine at_block_exit ?_ | refine at_block_other (by decide) ?_ | refine at_then_norm ?_ | refine tri_seq ?_ | refine tri_skip ?_ | refine tri_label ?_ | refine tri_exit ?_ | refine tri_ret ?_ | refine tri_block ?_)
            (refine at_ret [6] rfl rfl ?_; simp only [retOK, as_val, List.map_nil, go_sem, T3, T4, T22, T23, T24, T27, T30, T33])
            refine hfail ?_
            have h1 : ((uses.getD s.toNat []).getD k.toNat []).all (okI frm s.toNat) = false := all_false _ _ i.toNat 0 hin (by simp only [okI, Bool.and_eq_false_iff, decide_eq_false_iff_not]; omega)
            simp only [okS, all_false (uses.getD s.toNat []) (fun l => l.all (okI frm s.toNat)) k.toNat [] hkn h1, Bool.and_false, Bool.false_and]
          · repeat (first | refine at_next ?_ | refine at_then_exit ?_ | refine at_then_ret ?_ | refine at_block_norm ?_ | refine at_block_ret ?_ | refine at_block_exit ?_ | refine at_block_other (by decide) ?_ | refine at_then_norm ?_ | refine tri_seq ?_ | refine tri_skip ?_ | refine tri_label ?_ | refine tri_exit ?_ | refine tri_ret ?_ | refine tri_block ?_)
            (refine tri_region hF [0, 1, 2, 7, 8, 9] ?_; simp only [go_sem, T3, T4, T22, T23, T24, T27, T30, T33])
            have := (hw4 _ (mem_getD [] (show s.toNat < uses.length by omega))).2 _ (mem_getD [] hkn)
            have := this.1
            simp only [maxLen_eq] at this
            repeat (refine ⟨by first | omega | (intros; omega) | exact ⟨_, rfl, rfl⟩ | exact ⟨_, rfl, rfl, rfl⟩ | (intros; exact ⟨_, rfl, rfl⟩) | (intros; exact ⟨_, rfl, rfl, rfl⟩) | (intro hside; simp only [Bool.or_eq_true, Bool.or_eq_false_iff, Bool.and_eq_true, decide_eq_true_eq, decide_eq_false_iff_not] at hside; omega), ?_⟩)
            repeat (first | refine at_next ?_ | refine at_then_exit ?_ | refine at_then_ret ?_ | refine at_block_norm ?_ | refine at_block_ret ?_ | refine at_block_exit ?_ | refine at_block_other (by decide) ?_ | refine at_then_norm ?_ | refine tri_seq ?_ | refine tri_skip ?_ | refine tri_label ?_ | refine tri_exit ?_ | refine tri_ret ?_ | refine tri_block ?_)
            refine at_fit (i + 1) ⟨⟨by omega, by omega, ?_⟩, by omega⟩ rfl ?_
            · rw [show (i + 1).toNat = i.toNat + 1 from by omega, all_step _ _ _ 0 hin, hi2, Bool.true_and]
              simp only [okI, Bool.and_eq_true, decide_eq_true_eq]; omega
            · simp only [fitE, fitV, as_val, true_or, List.map_nil, and_self, go_sem, T3, T4, T22, T23, T24, T27, T30, T33]
        · repeat (first | refine at_next ?_ | refine at_then_exit ?_ | refine at_then_ret ?_ | refine at_block_norm ?_ | refine at_block_ret ?_ | refine at_block_exit ?_ | refine at_block_other (by decide) ?_ | refine at_then_norm ?_ | refine tri_seq ?_ | refine tri_skip ?_ | refine tri_label ?_ | refine tri_exit ?_ | refine tri_ret ?_ | refine tri_block ?_)
          (refine tri_region hF [0, 1, 2, 7, 8] ?_; simp only [go_sem, T3, T4, T22, T23, T24, T27, T30, T33])
          repeat (refine ⟨by first | omega | (intros; omega) | exact ⟨_, rfl, rfl⟩ | exact ⟨_, rfl, rfl, rfl⟩ | (intros; exact ⟨_, rfl, rfl⟩) | (intros; exact ⟨_, rfl, rfl, rfl⟩) | (intro hside; simp only [Bool.or_eq_true, Bool.or_eq_false_iff, Bool.and_eq_true, decide_eq_true_eq, decide_eq_false_iff_not] at hside; omega), ?_⟩)
          repeat (first | refine at_next ?_ | refine at_then_exit ?_ | refine at_then_ret ?_ | refine at_block_norm ?_ | refine at_block_ret ?_ | refine at_block_exit ?_ | refine at_block_other (by decide) ?_ | refine at_then_norm ?_ | refine tri_seq ?_ | refine tri_skip ?_ | refine tri_label ?_ | refine tri_exit ?_ | refine tri_ret ?_ | refine tri_block ?_)
          refine at_fit (k + 1) ⟨⟨by omega, by omega, ?_⟩, by omega⟩ rfl ?_
          · rw [show (k + 1).toNat = k.toNat + 1 from by omega, all_step _ _ _ [] hkn, hk2, Bool.true_and, ← hi2, all_end _ _ _ (by omega)]
          · simp only [fitE, fitV, as_val, true_or, List.map_nil, and_self, go_sem, T3, T4, T22, T23, T24, T27, T30, T33]
      · have hU : (uses.getD s.toNat []).all (fun l => l.all (okI frm s.toNat)) = true := by rw [← all_end _ _ k.toNat (by omega)]; exact hk2
        repeat (first | refine at_next ?_ | refine at_then_exit ?_ | refine at_then_ret ?_ | refine at_block_norm ?_ | refine at_block_ret ?_ | refine at_block_exit ?_ | refine at_block_other (by decide) ?_ | refine at_then_norm ?_ | refine tri_seq ?_ | refine tri_skip ?_ | refine tri_label ?_ | refine tri_exit ?_ | refine tri_ret ?_ | refine tri_block ?_)
        (refine tri_region hF [0, 1, 2, 7, 10] ?_; simp only [go_sem, T3, T4, T22, T23, T24, T27, T30, T33])
        repeat (first | refine at_next ?_ | refine at_then_exit ?_ | refine at_then_ret ?_ | refine at_block_norm ?_ | refine at_block_ret ?_ | refine at_block_exit ?_ | refine at_block_other (by decide) ?_ | refine at_then_norm ?_ | refine tri_seq ?_ | refine tri_skip ?_ | refine tri_label ?_ | refine tri_exit ?_ | refine tri_ret ?_ | refine tri_block ?_)
        refine tri_loop (D := Int) (fun i => 0 ≤ i ∧ i ≤ (frm.getD s.toNat []).length ∧ ((frm.getD s.toNat []).take i.toNat).all (okX outs) = true) (fun i => ((frm.getD s.toNat []).length - i).toNat) (fun i => [(0, .val (.sl (.i .i64)) outs), (1, .val (.sl (.sl (.sl (.i .i64)))) uses), (2, .val (.sl (.sl (.arr 2 (.i .i64)))) frm), (7, .val (.i .i64) s), (10, .val (.i .i64) i)]) (fun _ => []) (at_fit 0 ?_ rfl ?_) ?_
        · simp
        · simp only [fitE, fitV, as_val, true_or, List.map_nil, and_self, go_sem, T3, T4, T22, T23, T24, T27, T30, T33]
        rintro i ⟨hi0, hi1, hi2⟩
        repeat (first | refine at_next ?_ | refine at_then_exit ?_ | refine at_then_ret ?_ | refine at_block_norm ?_ | refine at_block_ret ?_ | refine at_block_exit ?_ | refine at_block_other (by decide) ?_ | refine at_then_norm ?_ | refine tri_seq ?_ | refine tri_skip ?_ | refine tri_label ?_ | refine tri_exit ?_ | refine tri_ret ?_ | refine tri_block ?_)
        (refine tri_region hF [0, 1, 2, 7, 10, 114] ?_; simp only [go_sem, T3, T4, T22, T23, T24, T27, T30, T33])
        repeat (refine ⟨by first | omega | (intros; omega) | exact ⟨_, rfl, rfl⟩ | exact ⟨_, rfl, rfl, rfl⟩ | (intros; exact ⟨_, rfl, rfl⟩) | (intros; exact ⟨_, rfl, rfl, rfl⟩) | (intro hside; simp only [Bool.or_eq_true, Bool.or_eq_false_iff, Bool.and_eq_true, decide_eq_true_eq, decide_eq_false_iff_not] at hside; omega), ?_⟩)
        repeat (first | refine at_next ?_ | refine at_then_exit ?_ | refine at_then_ret ?_ | refine at_block_norm ?_ | refine at_block_ret ?_ | refine at_block_exit ?_ | refine at_block_other (by decide) ?_ | refine at_then_norm ?_ | refine tri_seq ?_ | refine tri_skip ?_ | refine tri_label ?_ | refine tri_exit ?_ | refine tri_ret ?_ | refine tri_block ?_)
        refine tri_cond rfl (fun hc => ?_) (fun hc => ?_) <;> try simp only [Bool.or_eq_true, Bool.or_eq_false_iff, Bool.and_eq_true, decide_eq_true_eq, decide_eq_false_iff_not, Int.not_lt, Int.not_le, Bool.not_eq_true', Bool.not_eq_false'] at hc
        · have hin : i.toNat < (frm.getD s.toNat []).length := by omega
          repeat (first | refine at_next ?_ | refine at_then_exit ?_ | refine at_then_ret ?_ | refine at_block_norm ?_ | refine at_block_ret ?_ | refine at_block_exit ?_ | refine at_block_other (by decide) ?_ | refine at_then_norm ?_ | refine tri_seq ?_ | refine tri_skip ?_ | refine tri_label ?_ | refine tri_exit ?_ | refine tri_ret ?_ | refine tri_block ?_)
          (refine tri_regionB hF [0, 1, 2, 7, 10, 11] ?_; simp only [go_sem, T3, T4, T22, T23, T24, T27, T30, T33])
          repeat (refine ⟨by first | omega | (intros; omega) | exact ⟨_, rfl, rfl⟩ | exact ⟨_, rfl, rfl, rfl⟩ | (intros; exact ⟨_, rfl, rfl⟩) | (intros; exact ⟨_, rfl, rfl, rfl⟩) | (intro hside; simp only [Bool.or_eq_true, Bool.or_eq_false_iff, Bool.and_eq_true, decide_eq_true_eq, decide_eq_false_iff_not] at hside; omega), ?_⟩)
          repeat (first | refine at_next ?_ | refine at_then_exit ?_ | refine at_then_ret ?_ | refine at_block_norm ?_ | refine at_block_ret ?_ | refine at_block_exit ?_ | refine at_block_other (by decide) ?_ | refine at_then_norm ?_ | refine tri_seq ?_ | refine tri_skip ?_ | refine tri_label ?_ | refine tri_exit ?_ | refine tri_ret ?_ | refine tri_block ?_)
          (refine tri_region hF [0, 1, 2, 7, 10, 148] ?_; simp only [go_sem, T3, T4, T22, T23, T24, T27, T30, T33])
          repeat (refine ⟨by first | omega | (intros; omega) | exact ⟨_, rfl, rfl⟩ | exact ⟨_, rfl, rfl, rfl⟩ | (intros; exact ⟨_, rfl, rfl⟩) | (intros; exact ⟨_, rfl, rfl, rfl⟩) | (intro hside; simp only [Bool.or_eq_true, Bool.or_eq_false_iff, Bool.and_eq_true, decide_eq_true_eq, decide_eq_false_iff_not] at hside; omega), ?_⟩)
          repeat (first | refine at_next ?_ | refine at_then_exit ?_ | refine at_then_ret ?_ | refine at_block_norm ?_ | refine at_block_ret ?_ | refine at_block_exit ?_ | refine at_block_other (by decide) ?_ | refine at_then_norm ?_ | refine tri_seq ?_ | refine tri_skip ?_ | refine tri_label ?_ | refine tri_exit ?_ | refine tri_ret ?_ | refine tri_block ?_)
          refine tri_cond rfl (fun hc => ?_) (fun hc => ?_) <;> try simp only [Bool.or_eq_true, Bool.or_eq_false_iff, Bool.and_eq_true, decide_eq_true_eq, decide_eq_false_iff_not, Int.not_lt, Int.not_le, Bool.not_eq_true', Bool.not_eq_false'] at hc
          · repeat (first | refine at_next ?_ | refine at_then_exit ?_ | refine at_then_ret ?_ | refine at_block_norm ?_ | refine at_block_ret ?_ | refine at_block_exit ?_ | refine at_block_other (by decide) ?_ | refine at_then_norm ?_ | refine tri_seq ?_ | refine tri_skip ?_ | refine tri_label ?_ | refine tri_exit ?_ | refine tri_ret ?_ | refine tri_block ?_)
            (refine tri_region hF [6] ?_; simp only [go_sem, T3, T4, T22, T23, T24, T27, T30, T33])
            repeat (first | refine at_next ?_ | refine at_then_exit ?_ | refine at_then_ret ?_ | refine at_block_norm ?_ | refine at_block_ret ?_ | refine at_block_exit ?_ | refine at_block_other (by decide) ?_ | refine at_then_norm ?_ | refine tri_seq ?_ | refine tri_skip ?_ | refine tri_label ?_ | refine tri_exit ?_ | refine tri_ret ?_ | refine tri_block ?_)
            ((first | refine at_ren [] rfl ?_ | refine tri_ren [] rfl ?_); simp only [ren, ren1, renO, posOf, posAll, go_sem, T3, T4, T22, T23, T24, T27, T30, T33])
            (refine at_ret [6] rfl rfl ?_; simp only [retOK, as_val, List.map_nil, go_sem, T3, T4, T22, T23, T24, T27, T30, T33])
            refine hfail ?_
            have h1 : okX outs ((frm.getD s.toNat []).getD i.toNat (List.replicate 2 0)) = false := by
              simp only [okX, Bool.and_eq_false_iff, decide_eq_false_iff_not]; omega
            simp only [okS, all_false _ _ i.toNat _ hin h1, Bool.and_false]
          · repeat (first | refine at_next ?_ | refine at_then_exit ?_ | refine at_then_ret ?_ | refine at_block_norm ?_ | refine at_block_ret ?_ | refine at_block_exit ?_ | refine at_block_other (by decide) ?_ | refine at_then_norm ?_ | refine tri_seq ?_ | refine tri_skip ?_ | refine tri_label ?_ | refine tri_exit ?_ | refine tri_ret ?_ | refine tri_block ?_)
            ((first | refine at_ren [] rfl ?_ | refine tri_ren [] rfl ?_); simp only [ren, ren1, renO, posOf, posAll, go_sem, T3, T4, T22, T23, T24, T27, T30, T33])
            (refine tri_region hF [0, 1, 2, 7, 10] ?_; simp only [go_sem, T3, T4, T22, T23, T24, T27, T30, T33])
            have := (hw6 _ (mem_getD [] (show s.toNat < frm.length by omega))).1
            simp only [maxLen_eq] at this
            repeat (refine ⟨by first | omega | (intros; omega) | exact ⟨_, rfl, rfl⟩ | exact ⟨_, rfl, rfl, rfl⟩ | (intros; exact ⟨_, rfl, rfl⟩) | (intros; exact ⟨_, rfl, rfl, rfl⟩) | (intro hside; simp only [Bool.or_eq_true, Bool.or_eq_false_iff, Bool.and_eq_true, decide_eq_true_eq, decide_eq_false_iff_not] at hside; omega), ?_⟩)
            repeat (first | refine at_next ?_ | refine at_then_exit ?_ | refine at_then_ret ?_ | refine at_block_norm ?_ | refine at_block_ret ?_ | refine at_block_exit ?_ | refine at_block_other (by decide) ?_ | refine at_then_norm ?_ | refine tri_seq ?_ | refine tri_skip ?_ | refine tri_label ?_ | refine tri_exit ?_ | refine tri_ret ?_ | refine tri_block ?_)
            refine at_fit (i + 1) ⟨⟨by omega, by omega, ?_⟩, by omega⟩ rfl ?_
            · rw [show (i + 1).toNat = i.toNat + 1 from by omega, all_step _ _ _ (List.replicate 2 0) hin, hi2, Bool.true_and]
              simp only [okX, Bool.and_eq_true, decide_eq_true_eq]; omega
            · simp only [fitE, fitV, as_val, true_or, List.map_nil, and_self, go_sem, T3, T4, T22, T23, T24, T27, T30, T33]
        · have hX : (frm.getD s.toNat []).all (okX outs) = true := by rw [← all_end _ _ i.toNat (by omega)]; exact hi2
          repeat (first | refine at_next ?_ | refine at_then_exit ?_ | refine at_then_ret ?_ | refine at_block_norm ?_ | refine at_block_ret ?_ | refine at_block_exit ?_ | refine at_block_other (by decide) ?_ | refine at_then_norm ?_ | refine tri_seq ?_ | refine tri_skip ?_ | refine tri_label ?_ | refine tri_exit ?_ | refine tri_ret ?_ | refine tri_block ?_)
          (refine tri_region hF [0, 1, 2, 7] ?_; simp only [go_sem, T3, T4, T22, T23, T24, T27, T30, T33])
          repeat (refine ⟨by first | omega | (intros; omega) | exact ⟨_, rfl, rfl⟩ | exact ⟨_, rfl, rfl, rfl⟩ | (intros; exact ⟨_, rfl, rfl⟩) | (intros; exact ⟨_, rfl, rfl, rfl⟩) | (intro hside; simp only [Bool.or_eq_true, Bool.or_eq_false_iff, Bool.and_eq_true, decide_eq_true_eq, decide_eq_false_iff_not] at hside; omega), ?_⟩)
          repeat (first | refine at_next ?_ | refine at_then_exit ?_ | refine at_then_ret ?_ | refine at_block_norm ?_ | refine at_block_ret ?_ | refine at_block_exit ?_ | refine at_block_other (by decide) ?_ | refine at_then_norm ?_ | refine tri_seq ?_ | refine tri_skip ?_ | refine tri_label ?_ | refine tri_exit ?_ | refine tri_ret ?_ | refine tri_block ?_)
          refine at_fit (s + 1) ⟨⟨by omega, by omega, ?_⟩, by omega⟩ rfl ?_
          · rw [show (s + 1).toNat = s.toNat + 1 from by omega, range_step, hs2, okS, hA, hU, hX]; rfl
          · simp only [fitE, fitV, as_val, true_or, List.map_nil, and_self, go_sem, T3, T4, T22, T23, T24, T27, T30, T33]
  · repeat (first | refine at_next ?_ | refine at_then_exit ?_ | refine at_then_ret ?_ | refine at_block_norm ?_ | refine at_block_ret ?_ | refine at_block_exit ?_ | refine at_block_other (by decide) ?_ | refine at_then_norm ?_ | refine tri_seq ?_ | refine tri_skip ?_ | refine tri_label ?_ | refine tri_exit ?_ | refine tri_ret ?_ | refine tri_block ?_)
    (refine tri_region hF [6] ?_; simp only [go_sem, T3, T4, T22, T23, T24, T27, T30, T33])
    repeat (first | refine at_next ?_ | refine at_then_exit ?_ | refine at_then_ret ?_ | refine at_block_norm ?_ | refine at_block_ret ?_ | refine at_block_exit ?_ | refine at_block_other (by decide) ?_ | refine at_then_norm ?_ | refine tri_seq ?_ | refine tri_skip ?_ | refine tri_label ?_ | refine tri_exit ?_ | refine tri_ret ?_ | refine tri_block ?_)
    (refine at_ret [6] rfl rfl ?_; simp only [retOK, as_val, List.map_nil, go_sem, T3, T4, T22, T23, T24, T27, T30, T33])
    rw [hmay, show outs.length = s.toNat from by omega, hs2]

end Gr
end Go.Proofs
