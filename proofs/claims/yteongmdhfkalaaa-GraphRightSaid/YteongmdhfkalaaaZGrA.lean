import Derived.Test.YteongmdhfkalaaaZL4
import Derived.Test.YteongmdhfkalaaaProg
import Derived.KernelRfl
namespace Go.Proofs
open Go.Vc
set_option linter.unusedVariables false
set_option linter.unusedSimpArgs false

namespace Gr
def tab : List (TypeId × Ty) := [(3, .i .i64), (4, .bool), (22, .sl (.i .i64)), (23, .sl (.sl (.sl (.i .i64)))), (24, .sl (.sl (.arr 2 (.i .i64)))), (27, .sl (.arr 2 (.i .i64))), (30, .arr 2 (.i .i64)), (33, .sl (.sl (.i .i64)))]
def elT : TypeId → TypeId
  | 22 => 3
  | 23 => 33
  | 24 => 27
  | 27 => 30
  | 33 => 22
  | _ => 0
theorem tabOK : TabOK Try.prog (look2 tab) := tabOK_of (by kernel_rfl)

def okU (u : List (List Int)) : Bool := decide (u.length ≤ 70) && u.all fun v => decide (v.length ≤ 18)
def few3 (outs : List Int) (uses : List (List (List Int))) (frm : List (List (List Int))) : Bool :=
  decide (outs.length ≤ 18) && decide (uses.length ≤ 18) && decide (frm.length ≤ 18) && uses.all okU && frm.all fun u => decide (u.length ≤ 18)



theorem elOK : ∀ t ct, look2 tab t = some (.sl ct) → Try.prog.underlying t = some (.slice (elT t)) := by
  intro t ct h
  have := look2_mem h
  simp only [tab, List.mem_cons, Prod.mk.injEq, reduceCtorEq, and_false, false_or, List.not_mem_nil, or_false] at this
  rcases this with ⟨rfl, _⟩ | ⟨rfl, _⟩ | ⟨rfl, _⟩ | ⟨rfl, _⟩ | ⟨rfl, _⟩ <;> rfl
def mpT : TypeId → Option (TypeId × TypeId)
  | 38 => some (30, 4)
  | _ => none
theorem mpOK : ∀ t k e, mpT t = some (k, e) → Try.prog.underlying t = some (.map k e) := by
  intro t k e h
  unfold mpT at h
  split at h
  · cases h; rfl
  · cases h
def E0 : Env := ⟨look2 tab, fun _ => .junk, fun _ _ => none, elT, mpT⟩
theorem E0ok : EnvOK Try.prog E0 := ⟨tabOK, fun f vs sp h => by simp [E0] at h, elOK, mpOK, fun f vs sp h => by simp [E0] at h⟩
theorem mix : Try.prog.follows .mixedOrders = true := by kernel_rfl

def args3 : Ty := .pair (.sl (.i .i64)) (.pair (.sl (.sl (.sl (.i .i64)))) (.pair (.sl (.sl (.arr 2 (.i .i64)))) .unit))

theorem T3 : E0.T 3 = some (.i .i64) := rfl
theorem T4 : E0.T 4 = some (.bool) := rfl
theorem T22 : E0.T 22 = some (.sl (.i .i64)) := rfl
theorem T23 : E0.T 23 = some (.sl (.sl (.sl (.i .i64)))) := rfl
theorem T24 : E0.T 24 = some (.sl (.sl (.arr 2 (.i .i64)))) := rfl
theorem T27 : E0.T 27 = some (.sl (.arr 2 (.i .i64))) := rfl
theorem T30 : E0.T 30 = some (.arr 2 (.i .i64)) := rfl
theorem T33 : E0.T 33 = some (.sl (.sl (.i .i64))) := rfl

theorem all_step {α : Type} (l : List α) (p : α → Bool) (n : Nat) (d : α) (h : n < l.length) : (l.take (n + 1)).all p = ((l.take n).all p && p (l.getD n d)) := by
  rw [List.take_succ_eq_append_getElem h, List.all_append, List.getD_eq_getElem?_getD, List.getElem?_eq_getElem h]; simp
theorem all_false {α : Type} (l : List α) (p : α → Bool) (n : Nat) (d : α) (h : n < l.length) (hp : p (l.getD n d) = false) : l.all p = false := by
  rw [List.all_eq_false]
  rw [List.getD_eq_getElem?_getD, List.getElem?_eq_getElem h] at hp
  exact ⟨l[n], List.getElem_mem h, by simpa using hp⟩
theorem all_end {α : Type} (l : List α) (p : α → Bool) (n : Nat) (h : l.length ≤ n) : (l.take n).all p = l.all p := by
  rw [List.take_of_length_le h]

theorem few_ok : FOK Try.prog E0.G 6 ⟨args3, .one .bool, fun _ => True, fun x => few3 x.1 x.2.1 x.2.2.1⟩ := by
  refine fok_of E0ok Try.func6 rfl (by kernel_rfl) (by decide) fun w0 S x hw _ => ?_
  obtain ⟨outs, uses, frm, u⟩ := x
  have hF : FrOK ⟨Try.prog, E0, ⟨nothing, S⟩, w0, Try.f6.ntmps⟩ := ⟨E0ok, mix⟩
  simp only [args0, args3]
  repeat (first | refine at_next ?_ | refine at_then_exit ?_ | refine at_then_ret ?_ | refine at_block_norm ?_ | refine at_block_ret ?_ | refine at_block_exit ?_ | refine at_block_other (by decide) ?_ | refine at_then_norm ?_ | refine tri_seq ?_ | refine tri_skip ?_ | refine tri_label ?_ | refine tri_exit ?_ | refine tri_ret ?_ | refine tri_block ?_)
  (refine tri_region hF [0, 1, 2, 6] ?_; simp only [go_sem, T3, T4, T22, T23, T24, T27, T30, T33])
  repeat (first | refine at_next ?_ | refine at_then_exit ?_ | refine at_then_ret ?_ | refine at_block_norm ?_ | refine at_block_ret ?_ | refine at_block_exit ?_ | refine at_block_other (by decide) ?_ | refine at_then_norm ?_ | refine tri_seq ?_ | refine tri_skip ?_ | refine tri_label ?_ | refine tri_exit ?_ | refine tri_ret ?_ | refine tri_block ?_)
  (refine tri_region hF [0, 1, 2, 22] ?_; simp only [go_sem, T3, T4, T22, T23, T24, T27, T30, T33])
  repeat (first | refine at_next ?_ | refine at_then_exit ?_ | refine at_then_ret ?_ | refine at_block_norm ?_ | refine at_block_ret ?_ | refine at_block_exit ?_ | refine at_block_other (by decide) ?_ | refine at_then_norm ?_ | refine tri_seq ?_ | refine tri_skip ?_ | refine tri_label ?_ | refine tri_exit ?_ | refine tri_ret ?_ | refine tri_block ?_)
  refine tri_cond rfl (fun hc => ?_) (fun hc => ?_) <;> try simp only [Bool.or_eq_true, Bool.or_eq_false_iff, Bool.and_eq_true, decide_eq_true_eq, decide_eq_false_iff_not, Int.not_lt, Int.not_le, Bool.not_eq_true', Bool.not_eq_false'] at hc
  · repeat (first | refine at_next ?_ | refine at_then_exit ?_ | refine at_then_ret ?_ | refine at_block_norm ?_ | refine at_block_ret ?_ | refine at_block_exit ?_ | refine at_block_other (by decide) ?_ | refine at_then_norm ?_ | refine tri_seq ?_ | refine tri_skip ?_ | refine tri_label ?_ | refine tri_exit ?_ | refine tri_ret ?_ | refine tri_block ?_)
    (refine tri_region hF [6] ?_; simp only [go_sem, T3, T4, T22, T23, T24, T27, T30, T33])
    repeat (first | refine at_next ?_ | refine at_then_exit ?_ | refine at_then_ret ?_ | refine at_block_norm ?_ | refine at_block_ret ?_ | refine at_block_exit ?_ | refine at_block_other (by decide) ?_ | refine at_then_norm ?_ | refine tri_seq ?_ | refine tri_skip ?_ | refine tri_label ?_ | refine tri_exit ?_ | refine tri_ret ?_ | refine tri_block ?_)
    (refine at_ret [6] rfl rfl ?_; simp only [retOK, as_val, List.map_nil, go_sem, T3, T4, T22, T23, T24, T27, T30, T33])
    have : ¬ (outs.length ≤ 18) ∨ ¬ (uses.length ≤ 18) ∨ ¬ (frm.length ≤ 18) := by omega
    rcases this with h | h | h <;> simp [few3, h]
  have hl : outs.length ≤ 18 ∧ uses.length ≤ 18 ∧ frm.length ≤ 18 := by omega
  have hfew : few3 outs uses frm = (uses.all okU && frm.all fun u => decide (u.length ≤ 18)) := by simp [few3, hl]
  repeat (first | refine at_next ?_ | refine at_then_exit ?_ | refine at_then_ret ?_ | refine at_block_norm ?_ | refine at_block_ret ?_ | refine at_block_exit ?_ | refine at_block_other (by decide) ?_ | refine at_then_norm ?_ | refine tri_seq ?_ | refine tri_skip ?_ | refine tri_label ?_ | refine tri_exit ?_ | refine tri_ret ?_ | refine tri_block ?_)
  (refine tri_region hF [0, 1, 2, 7] ?_; simp only [go_sem, T3, T4, T22, T23, T24, T27, T30, T33])
  repeat (first | refine at_next ?_ | refine at_then_exit ?_ | refine at_then_ret ?_ | refine at_block_norm ?_ | refine at_block_ret ?_ | refine at_block_exit ?_ | refine at_block_other (by decide) ?_ | refine at_then_norm ?_ | refine tri_seq ?_ | refine tri_skip ?_ | refine tri_label ?_ | refine tri_exit ?_ | refine tri_ret ?_ | refine tri_block ?_)
  refine tri_loop (D := Int) (fun i => 0 ≤ i ∧ i ≤ uses.length ∧ (uses.take i.toNat).all okU = true) (fun i => (uses.length - i).toNat) (fun i => [(0, .val (.sl (.i .i64)) outs), (1, .val (.sl (.sl (.sl (.i .i64)))) uses), (2, .val (.sl (.sl (.arr 2 (.i .i64)))) frm), (7, .val (.i .i64) i)]) (fun _ => []) (at_fit 0 ?_ rfl ?_) ?_
  · simp
  · simp only [fitE, fitV, as_val, true_or, List.map_nil, and_self, go_sem, T3, T4, T22, T23, T24, T27, T30, T33]
  rintro i ⟨hi0, hi1, hi2⟩
  repeat (first | refine at_next ?_ | refine at_then_exit ?_ | refine at_then_ret ?_ | refine at_block_norm ?_ | refine at_block_ret ?_ | refine at_block_exit ?_ | refine at_block_other (by decide) ?_ | refine at_then_norm ?_ | refine tri_seq ?_ | refine tri_skip ?_ | refine tri_label ?_ | refine tri_exit ?_ | refine tri_ret ?_ | refine tri_block ?_)
  (refine tri_region hF [0, 1, 2, 7, 26] ?_; simp only [go_sem, T3, T4, T22, T23, T24, T27, T30, T33])
  repeat (first | refine at_next ?_ | refine at_then_exit ?_ | refine at_then_ret ?_ | refine at_block_norm ?_ | refine at_block_ret ?_ | refine at_block_exit ?_ | refine at_block_other (by decide) ?_ | refine at_then_norm ?_ | refine tri_seq ?_ | refine tri_skip ?_ | refine tri_label ?_ | refine tri_exit ?_ | refine tri_ret ?_ | refine tri_block ?_)
  refine tri_cond rfl (fun hc => ?_) (fun hc => ?_) <;> try simp only [Bool.or_eq_true, Bool.or_eq_false_iff, Bool.and_eq_true, decide_eq_true_eq, decide_eq_false_iff_not, Int.not_lt, Int.not_le, Bool.not_eq_true', Bool.not_eq_false'] at hc
  · rename_i hc1
    have hin : i.toNat < uses.length := by omega
    repeat (first | refine at_next ?_ | refine at_then_exit ?_ | refine at_then_ret ?_ | refine at_block_norm ?_ | refine at_block_ret ?_ | refine at_block_exit ?_ | refine at_block_other (by decide) ?_ | refine at_then_norm ?_ | refine tri_seq ?_ | refine tri_skip ?_ | refine tri_label ?_ | refine tri_exit ?_ | refine tri_ret ?_ | refine tri_block ?_)
    (refine tri_region hF [0, 1, 2, 7, 34] ?_; simp only [go_sem, T3, T4, T22, T23, T24, T27, T30, T33])
    refine ⟨⟨hi0, hc⟩, ?_⟩
    repeat (first | refine at_next ?_ | refine at_then_exit ?_ | refine at_then_ret ?_ | refine at_block_norm ?_ | refine at_block_ret ?_ | refine at_block_exit ?_ | refine at_block_other (by decide) ?_ | refine at_then_norm ?_ | refine tri_seq ?_ | refine tri_skip ?_ | refine tri_label ?_ | refine tri_exit ?_ | refine tri_ret ?_ | refine tri_block ?_)
    refine tri_cond rfl (fun hc => ?_) (fun hc => ?_) <;> try simp only [Bool.or_eq_true, Bool.or_eq_false_iff, Bool.and_eq_true, decide_eq_true_eq, decide_eq_false_iff_not, Int.not_lt, Int.not_le, Bool.not_eq_true', Bool.not_eq_false'] at hc
    · repeat (first | refine at_next ?_ | refine at_then_exit ?_ | refine at_then_ret ?_ | refine at_block_norm ?_ | refine at_block_ret ?_ | refine at_block_exit ?_ | refine at_block_other (by decide) ?_ | refine at_then_norm ?_ | refine tri_seq ?_ | refine tri_skip ?_ | refine tri_label ?_ | refine tri_exit ?_ | refine tri_ret ?_ | refine tri_block ?_)
      (refine tri_region hF [6] ?_; simp only [go_sem, T3, T4, T22, T23, T24, T27, T30, T33])
      repeat (first | refine at_next ?_ | refine at_then_exit ?_ | refine at_then_ret ?_ | refine at_block_norm ?_ | refine at_block_ret ?_ | refine at_block_exit ?_ | refine at_block_other (by decide) ?_ | refine at_then_norm ?_ | refine tri_seq ?_ | refine tri_skip ?_ | refine tri_label ?_ | refine tri_exit ?_ | refine tri_ret ?_ | refine tri_block ?_)
      (refine at_ret [6] rfl rfl ?_; simp only [retOK, as_val, List.map_nil, go_sem, T3, T4, T22, T23, T24, T27, T30, T33])
      have : okU (uses.getD i.toNat []) = false := by
        have : ¬ ((uses.getD i.toNat []).length ≤ 70) := by omega
        simp only [okU, this, decide_false, Bool.false_and]
      rw [hfew, all_false uses okU i.toNat [] hin this]; rfl
    · repeat (first | refine at_next ?_ | refine at_then_exit ?_ | refine at_then_ret ?_ | refine at_block_norm ?_ | refine at_block_ret ?_ | refine at_block_exit ?_ | refine at_block_other (by decide) ?_ | refine at_then_norm ?_ | refine tri_seq ?_ | refine tri_skip ?_ | refine tri_label ?_ | refine tri_exit ?_ | refine tri_ret ?_ | refine tri_block ?_)
      (refine tri_region hF [0, 1, 2, 7, 8] ?_; simp only [go_sem, T3, T4, T22, T23, T24, T27, T30, T33])
      repeat (first | refine at_next ?_ | refine at_then_exit ?_ | refine at_then_ret ?_ | refine at_block_norm ?_ | refine at_block_ret ?_ | refine at_block_exit ?_ | refine at_block_other (by decide) ?_ | refine at_then_norm ?_ | refine tri_seq ?_ | refine tri_skip ?_ | refine tri_label ?_ | refine tri_exit ?_ | refine tri_ret ?_ | refine tri_block ?_)
      refine tri_loop (D := Int) (fun k => 0 ≤ k ∧ k ≤ (uses.getD i.toNat []).length ∧ ((uses.getD i.toNat []).take k.toNat).all (fun v => decide (v.length ≤ 18)) = true) (fun k => ((uses.getD i.toNat []).length - k).toNat) (fun k => [(0, .val (.sl (.i .i64)) outs), (1, .val (.sl (.sl (.sl (.i .i64)))) uses), (2, .val (.sl (.sl (.arr 2 (.i .i64)))) frm), (7, .val (.i .i64) i), (8, .val (.i .i64) k)]) (fun _ => []) (at_fit 0 ?_ rfl ?_) ?_
      · simp
      · simp only [fitE, fitV, as_val, true_or, List.map_nil, and_self, go_sem, T3, T4, T22, T23, T24, T27, T30, T33]
      rintro k ⟨hk0, hk1, hk2⟩
      repeat (first | refine at_next ?_ | refine at_then_exit ?_ | refine at_then_ret ?_ | refine at_block_norm ?_ | refine at_block_ret ?_ | refine at_block_exit ?_ | refine at_block_other (by decide) ?_ | refine at_then_norm ?_ | refine tri_seq ?_ | refine tri_skip ?_ | refine tri_label ?_ | refine tri_exit ?_ | refine tri_ret ?_ | refine tri_block ?_)
      (refine tri_region hF [0, 1, 2, 7, 8, 41] ?_; simp only [go_sem, T3, T4, T22, T23, T24, T27, T30, T33])
      refine ⟨⟨hi0, by omega⟩, ?_⟩
      repeat (first | refine at_next ?_ | refine at_then_exit ?_ | refine at_then_ret ?_ | refine at_block_norm ?_ | refine at_block_ret ?_ | refine at_block_exit ?_ | refine at_block_other (by decide) ?_ | refine at_then_norm ?_ | refine tri_seq ?_ | refine tri_skip ?_ | refine tri_label ?_ | refine tri_exit ?_ | refine tri_ret ?_ | refine tri_block ?_)
      refine tri_cond rfl (fun hc => ?_) (fun hc => ?_) <;> try simp only [Bool.or_eq_true, Bool.or_eq_false_iff, Bool.and_eq_true, decide_eq_true_eq, decide_eq_false_iff_not, Int.not_lt, Int.not_le, Bool.not_eq_true', Bool.not_eq_false'] at hc
      · repeat (first | refine at_next ?_ | refine at_then_exit ?_ | refine at_then_ret ?_ | refine at_block_norm ?_ | refine at_block_ret ?_ | refine at_block_exit ?_ | refine at_block_other (by decide) ?_ | refine at_then_norm ?_ | refine tri_seq ?_ | refine tri_skip ?_ | refine tri_label ?_ | refine tri_exit ?_ | refine tri_ret ?_ | refine tri_block ?_)
        (refine tri_region hF [0, 1, 2, 7, 8, 52] ?_; simp only [go_sem, T3, T4, T22, T23, T24, T27, T30, T33])
        refine ⟨⟨hi0, by omega⟩, ⟨hk0, hc⟩, ?_⟩
        have hkn : k.toNat < (uses.getD i.toNat []).length := by omega
        repeat (first | refine at_next ?_ | refine at_then_exit ?_ | refine at_then_ret ?_ | refine at_block_norm ?_ | refine at_block_ret ?_ | refine at_block_exit ?_ | refine at_block_other (by decide) ?_ | refine at_then_norm ?_ | refine tri_seq ?_ | refine tri_skip ?_ | refine tri_label ?_ | refine tri_exit ?_ | refine tri_ret ?_ | refine tri_block ?_)
        refine tri_cond rfl (fun hc => ?_) (fun hc => ?_) <;> try simp only [Bool.or_eq_true, Bool.or_eq_false_iff, Bool.and_eq_true, decide_eq_true_eq, decide_eq_false_iff_not, Int.not_lt, Int.not_le, Bool.not_eq_true', Bool.not_eq_false'] at hc
        · repeat (first | refine at_next ?_ | refine at_then_exit ?_ | refine at_then_ret ?_ | refine at_block_norm ?_ | refine at_block_ret ?_ | refine at_block_exit ?_ | refine at_block_other (by decide) ?_ | refine at_then_norm ?_ | refine tri_seq ?_ | refine tri_skip ?_ | refine tri_label ?_ | refine tri_exit ?_ | refine tri_ret ?_ | refine tri_block ?_)
          (refine tri_region hF [6] ?_; simp only [go_sem, T3, T4, T22, T23, T24, T27, T30, T33])
          repeat (first | refine at_next ?_ | refine at_then_exit ?_ | refine at_then_ret ?_ | refine at_block_norm ?_ | refine at_block_ret ?_ | refine at_block_exit ?_ | refine at_block_other (by decide) ?_ | refine at_then_norm ?_ | refine tri_seq ?_ | refine tri_skip ?_ | refine tri_label ?_ | refine tri_exit ?_ | refine tri_ret ?_ | refine tri_block ?_)
          (refine at_ret [6] rfl rfl ?_; simp only [retOK, as_val, List.map_nil, go_sem, T3, T4, T22, T23, T24, T27, T30, T33])
          have : okU (uses.getD i.toNat []) = false := by
            rw [okU, all_false (uses.getD i.toNat []) _ k.toNat [] hkn (by simp only [decide_eq_false_iff_not]; omega), Bool.and_false]
          rw [hfew, all_false uses okU i.toNat [] hin this]; rfl
        · repeat (first | refine at_next ?_ | refine at_then_exit ?_ | refine at_then_ret ?_ | refine at_block_norm ?_ | refine at_block_ret ?_ | refine at_block_exit ?_ | refine at_block_other (by decide) ?_ | refine at_then_norm ?_ | refine tri_seq ?_ | refine tri_skip ?_ | refine tri_label ?_ | refine tri_exit ?_ | refine tri_ret ?_ | refine tri_block ?_)
          (refine tri_region hF [0, 1, 2, 7, 8] ?_; simp only [go_sem, T3, T4, T22, T23, T24, T27, T30, T33])
          refine ⟨by omega, ?_⟩
          repeat (first | refine at_next ?_ | refine at_then_exit ?_ | refine at_then_ret ?_ | refine at_block_norm ?_ | refine at_block_ret ?_ | refine at_block_exit ?_ | refine at_block_other (by decide) ?_ | refine at_then_norm ?_ | refine tri_seq ?_ | refine tri_skip ?_ | refine tri_label ?_ | refine tri_exit ?_ | refine tri_ret ?_ | refine tri_block ?_)
          refine at_fit (k + 1) ⟨⟨by omega, by omega, ?_⟩, by omega⟩ rfl ?_
          · rw [show (k + 1).toNat = k.toNat + 1 from by omega, all_step _ _ _ [] hkn, hk2, Bool.true_and, decide_eq_true_eq]; omega
          · simp only [fitE, fitV, as_val, true_or, List.map_nil, and_self, go_sem, T3, T4, T22, T23, T24, T27, T30, T33]
      · have hok : okU (uses.getD i.toNat []) = true := by
          have h1 : (uses.getD i.toNat []).length ≤ 70 := by omega
          rw [all_end _ _ _ (by omega)] at hk2
          simp only [okU, h1, decide_true, Bool.true_and]; exact hk2
        repeat (first | refine at_next ?_ | refine at_then_exit ?_ | refine at_then_ret ?_ | refine at_block_norm ?_ | refine at_block_ret ?_ | refine at_block_exit ?_ | refine at_block_other (by decide) ?_ | refine at_then_norm ?_ | refine tri_seq ?_ | refine tri_skip ?_ | refine tri_label ?_ | refine tri_exit ?_ | refine tri_ret ?_ | refine tri_block ?_)
        (refine tri_region hF [0, 1, 2, 7] ?_; simp only [go_sem, T3, T4, T22, T23, T24, T27, T30, T33])
        refine ⟨by omega, ?_⟩
        repeat (first | refine at_next ?_ | refine at_then_exit ?_ | refine at_then_ret ?_ | refine at_block_norm ?_ | refine at_block_ret ?_ | refine at_block_exit ?_ | refine at_block_other (by decide) ?_ | refine at_then_norm ?_ | refine tri_seq ?_ | refine tri_skip ?_ | refine tri_label ?_ | refine tri_exit ?_ | refine tri_ret ?_ | refine tri_block ?_)
        refine at_fit (i + 1) ⟨⟨by omega, by omega, ?_⟩, by omega⟩ rfl ?_
        · rw [show (i + 1).toNat = i.toNat + 1 from by omega, all_step _ _ _ [] hin, hi2, Bool.true_and]; exact hok
        · simp only [fitE, fitV, as_val, true_or, List.map_nil, and_self, go_sem, T3, T4, T22, T23, T24, T27, T30, T33]
  · have huse : uses.all okU = true := by rw [← all_end uses okU i.toNat (by omega)]; exact hi2
    rw [huse, Bool.true_and] at hfew
    repeat (first | refine at_next ?_ | refine at_then_exit ?_ | refine at_then_ret ?_ | refine at_block_norm ?_ | refine at_block_ret ?_ | refine at_block_exit ?_ | refine at_block_other (by decide) ?_ | refine at_then_norm ?_ | refine tri_seq ?_ | refine tri_skip ?_ | refine tri_label ?_ | refine tri_exit ?_ | refine tri_ret ?_ | refine tri_block ?_)
    (refine tri_region hF [0, 1, 2, 9] ?_; simp only [go_sem, T3, T4, T22, T23, T24, T27, T30, T33])
    repeat (first | refine at_next ?_ | refine at_then_exit ?_ | refine at_then_ret ?_ | refine at_block_norm ?_ | refine at_block_ret ?_ | refine at_block_exit ?_ | refine at_block_other (by decide) ?_ | refine at_then_norm ?_ | refine tri_seq ?_ | refine tri_skip ?_ | refine tri_label ?_ | refine tri_exit ?_ | refine tri_ret ?_ | refine tri_block ?_)
    refine tri_loop (D := Int) (fun i => 0 ≤ i ∧ i ≤ frm.length ∧ (frm.take i.toNat).all (fun u => decide (u.length ≤ 18)) = true) (fun i => (frm.length - i).toNat) (fun i => [(2, .val (.sl (.sl (.arr 2 (.i .i64)))) frm), (9, .val (.i .i64) i)]) (fun _ => []) (at_fit 0 ?_ rfl ?_) ?_
    · simp
    · simp only [fitE, fitV, as_val, true_or, List.map_nil, and_self, go_sem, T3, T4, T22, T23, T24, T27, T30, T33]
    rintro i ⟨hi0, hi1, hi2⟩
    repeat (first | refine at_next ?_ | refine at_then_exit ?_ | refine at_then_ret ?_ | refine at_block_norm ?_ | refine at_block_ret ?_ | refine at_block_exit ?_ | refine at_block_other (by decide) ?_ | refine at_then_norm ?_ | refine tri_seq ?_ | refine tri_skip ?_ | refine tri_label ?_ | refine tri_exit ?_ | refine tri_ret ?_ | refine tri_block ?_)
    (refine tri_region hF [2, 9, 56] ?_; simp only [go_sem, T3, T4, T22, T23, T24, T27, T30, T33])
    repeat (first | refine at_next ?_ | refine at_then_exit ?_ | refine at_then_ret ?_ | refine at_block_norm ?_ | refine at_block_ret ?_ | refine at_block_exit ?_ | refine at_block_other (by decide) ?_ | refine at_then_norm ?_ | refine tri_seq ?_ | refine tri_skip ?_ | refine tri_label ?_ | refine tri_exit ?_ | refine tri_ret ?_ | refine tri_block ?_)
    refine tri_cond rfl (fun hc => ?_) (fun hc => ?_) <;> try simp only [Bool.or_eq_true, Bool.or_eq_false_iff, Bool.and_eq_true, decide_eq_true_eq, decide_eq_false_iff_not, Int.not_lt, Int.not_le, Bool.not_eq_true', Bool.not_eq_false'] at hc
    · have hin : i.toNat < frm.length := by omega
      repeat (first | refine at_next ?_ | refine at_then_exit ?_ | refine at_then_ret ?_ | refine at_block_norm ?_ | refine at_block_ret ?_ | refine at_block_exit ?_ | refine at_block_other (by decide) ?_ | refine at_then_norm ?_ | refine tri_seq ?_ | refine tri_skip ?_ | refine tri_label ?_ | refine tri_exit ?_ | refine tri_ret ?_ | refine tri_block ?_)
      (refine tri_region hF [2, 9, 64] ?_; simp only [go_sem, T3, T4, T22, T23, T24, T27, T30, T33])
      refine ⟨⟨hi0, by omega⟩, ?_⟩
      repeat (first | refine at_next ?_ | refine at_then_exit ?_ | refine at_then_ret ?_ | refine at_block_norm ?_ | refine at_block_ret ?_ | refine at_block_exit ?_ | refine at_block_other (by decide) ?_ | refine at_then_norm ?_ | refine tri_seq ?_ | refine tri_skip ?_ | refine tri_label ?_ | refine tri_exit ?_ | refine tri_ret ?_ | refine tri_block ?_)
      refine tri_cond rfl (fun hc => ?_) (fun hc => ?_) <;> try simp only [Bool.or_eq_true, Bool.or_eq_false_iff, Bool.and_eq_true, decide_eq_true_eq, decide_eq_false_iff_not, Int.not_lt, Int.not_le, Bool.not_eq_true', Bool.not_eq_false'] at hc
      · repeat (first | refine at_next ?_ | refine at_then_exit ?_ | refine at_then_ret ?_ | refine at_block_norm ?_ | refine at_block_ret ?_ | refine at_block_exit ?_ | refine at_block_other (by decide) ?_ | refine at_then_norm ?_ | refine tri_seq ?_ | refine tri_skip ?_ | refine tri_label ?_ | refine tri_exit ?_ | refine tri_ret ?_ | refine tri_block ?_)
        (refine tri_region hF [6] ?_; simp only [go_sem, T3, T4, T22, T23, T24, T27, T30, T33])
        repeat (first | refine at_next ?_ | refine at_then_exit ?_ | refine at_then_ret ?_ | refine at_block_norm ?_ | refine at_block_ret ?_ | refine at_block_exit ?_ | refine at_block_other (by decide) ?_ | refine at_then_norm ?_ | refine tri_seq ?_ | refine tri_skip ?_ | refine tri_label ?_ | refine tri_exit ?_ | refine tri_ret ?_ | refine tri_block ?_)
        (refine at_ret [6] rfl rfl ?_; simp only [retOK, as_val, List.map_nil, go_sem, T3, T4, T22, T23, T24, T27, T30, T33])
        rw [hfew, all_false frm _ i.toNat [] hin (by simp only [decide_eq_false_iff_not]; omega)]
      · repeat (first | refine at_next ?_ | refine at_then_exit ?_ | refine at_then_ret ?_ | refine at_block_norm ?_ | refine at_block_ret ?_ | refine at_block_exit ?_ | refine at_block_other (by decide) ?_ | refine at_then_norm ?_ | refine tri_seq ?_ | refine tri_skip ?_ | refine tri_label ?_ | refine tri_exit ?_ | refine tri_ret ?_ | refine tri_block ?_)
        (refine tri_region hF [2, 9] ?_; simp only [go_sem, T3, T4, T22, T23, T24, T27, T30, T33])
        refine ⟨by omega, ?_⟩
        repeat (first | refine at_next ?_ | refine at_then_exit ?_ | refine at_then_ret ?_ | refine at_block_norm ?_ | refine at_block_ret ?_ | refine at_block_exit ?_ | refine at_block_other (by decide) ?_ | refine at_then_norm ?_ | refine tri_seq ?_ | refine tri_skip ?_ | refine tri_label ?_ | refine tri_exit ?_ | refine tri_ret ?_ | refine tri_block ?_)
        refine at_fit (i + 1) ⟨⟨by omega, by omega, ?_⟩, by omega⟩ rfl ?_
        · rw [show (i + 1).toNat = i.toNat + 1 from by omega, all_step _ _ _ [] hin, hi2, Bool.true_and, decide_eq_true_eq]; omega
        · simp only [fitE, fitV, as_val, true_or, List.map_nil, and_self, go_sem, T3, T4, T22, T23, T24, T27, T30, T33]
    · repeat (first | refine at_next ?_ | refine at_then_exit ?_ | refine at_then_ret ?_ | refine at_block_norm ?_ | refine at_block_ret ?_ | refine at_block_exit ?_ | refine at_block_other (by decide) ?_ | refine at_then_norm ?_ | refine tri_seq ?_ | refine tri_skip ?_ | refine tri_label ?_ | refine tri_exit ?_ | refine tri_ret ?_ | refine tri_block ?_)
      (refine tri_region hF [6] ?_; simp only [go_sem, T3, T4, T22, T23, T24, T27, T30, T33])
      repeat (first | refine at_next ?_ | refine at_then_exit ?_ | refine at_then_ret ?_ | refine at_block_norm ?_ | refine at_block_ret ?_ | refine at_block_exit ?_ | refine at_block_other (by decide) ?_ | refine at_then_norm ?_ | refine tri_seq ?_ | refine tri_skip ?_ | refine tri_label ?_ | refine tri_exit ?_ | refine tri_ret ?_ | refine tri_block ?_)
      (refine at_ret [6] rfl rfl ?_; simp only [retOK, as_val, List.map_nil, go_sem, T3, T4, T22, T23, T24, T27, T30, T33])
      rw [hfew, ← all_end frm _ i.toNat (by omega), hi2]

end Gr
end Go.Proofs
