import Derived.Test.YteongmdhfkalaaaZGrF
namespace Go.Proofs
open Go.Vc
set_option linter.unusedVariables false
set_option linter.unusedSimpArgs false
namespace Gr

/-! ## plain laws of orders -/
theorem pigeon {α : Type} [BEq α] [LawfulBEq α] : ∀ {l m : List α}, l.Nodup → (∀ x ∈ l, x ∈ m) → l.length ≤ m.length ∧ (l.length = m.length → ∀ x ∈ m, x ∈ l)
  | [], m, _, _ => ⟨by simp, fun h x hx => by
    have : m = [] := List.eq_nil_of_length_eq_zero (by simpa using h.symm)
    rw [this] at hx; cases hx⟩
  | a :: l, m, hn, hs => by
    have ha : a ∈ m := hs a (by simp)
    have hn' := List.nodup_cons.1 hn
    have hlen := List.length_erase_of_mem ha
    have hpos : 0 < m.length := List.length_pos_of_mem ha
    have rec_ := pigeon (l := l) (m := m.erase a) hn'.2 (fun x hx => by
      have hne : x ≠ a := fun e => hn'.1 (e ▸ hx)
      exact (List.mem_erase_of_ne hne).2 (hs x (by simp [hx])))
    refine ⟨by simp only [List.length_cons]; omega, fun h x hx => ?_⟩
    by_cases e : x = a
    · subst e; simp
    · have := rec_.2 (by simp only [List.length_cons] at h; omega) x ((List.mem_erase_of_ne e).2 hx)
      simp [this]

def InR (outs : List Int) (p : List Int) : Prop := ∃ s k : Nat, p = [(s : Int), (k : Int)] ∧ s < outs.length ∧ (k : Int) < outs.getD s 0

structure OkO (outs : List Int) (uses frm : List (List (List Int))) (out : List (List Int)) : Prop where
  inr : ∀ p ∈ out, InR outs p
  nodup : out.Nodup
  deps : ∀ (n s k : Nat), out[n]? = some [(s : Int), (k : Int)] → ∀ i ∈ (uses.getD s []).getD k [], (frm.getD s []).getD i.toNat (List.replicate 2 0) ∈ out.take n

theorem nextP_some {outs : List Int} {uses frm : List (List (List Int))} {out : List (List Int)} {p : List Int} (h : nextP outs uses frm out = some p) :
    ∃ s k : Nat, p = [(s : Int), (k : Int)] ∧ s < outs.length ∧ (k : Int) < outs.getD s 0 ∧ rdy uses frm out s k = true := by
  obtain ⟨s, hs, hp⟩ := List.exists_of_findSome?_eq_some h
  rw [rowP, Option.map_eq_some_iff] at hp
  obtain ⟨k, hk, rfl⟩ := hp
  have h1 := List.find?_some hk
  have h2 := List.mem_range.1 (List.mem_of_find?_eq_some hk)
  exact ⟨s, k, rfl, List.mem_range.1 hs, by omega, h1⟩
theorem nextP_none {outs : List Int} {uses frm : List (List (List Int))} {out : List (List Int)} (h : nextP outs uses frm out = none) {s k : Nat} (hs : s < outs.length) (hk : (k : Int) < outs.getD s 0) : rdy uses frm out s k = false := by
  rw [nextP, List.findSome?_eq_none_iff] at h
  have := h s (List.mem_range.2 hs)
  rw [rowP, Option.map_eq_none_iff, List.find?_eq_none] at this
  simpa using this k (List.mem_range.2 (by omega))

theorem OkO.nil {outs : List Int} {uses frm : List (List (List Int))} : OkO outs uses frm [] := ⟨(fun p hp => by cases hp), List.nodup_nil, (fun n s k h => by simp at h)⟩
theorem OkO.more {outs : List Int} {uses frm : List (List (List Int))} {out : List (List Int)} (h : OkO outs uses frm out) {s k : Nat} (hs : s < outs.length) (hk : (k : Int) < outs.getD s 0) (hr : rdy uses frm out s k = true) : OkO outs uses frm (out ++ [[(s : Int), (k : Int)]]) := by
  simp only [rdy, Bool.and_eq_true, Bool.not_eq_true', List.all_eq_true] at hr
  obtain ⟨h1, h2⟩ := hr
  have hnm : [(s : Int), (k : Int)] ∉ out := fun hm => by
    have : out.contains [(s : Int), (k : Int)] = true := by simpa using hm
    rw [h1] at this; cases this
  refine ⟨fun p hp => ?_, ?_, fun n s' k' hn i hi => ?_⟩
  · rcases List.mem_append.1 hp with hp | hp
    · exact h.inr p hp
    · simp at hp; exact ⟨s, k, hp, hs, hk⟩
  · rw [List.nodup_append]
    refine ⟨h.nodup, by simp, fun a ha b hb => ?_⟩
    simp at hb
    subst hb
    exact fun e => hnm (e ▸ ha)
  · rcases Nat.lt_trichotomy n out.length with hlt | heq | hgt
    · rw [List.getElem?_append_left hlt] at hn
      have := h.deps n s' k' hn i hi
      rw [List.take_append_of_le_length (Nat.le_of_lt hlt)]; exact this
    · subst heq
      simp only [List.getElem?_concat_length, Option.some.injEq, List.cons.injEq, Int.natCast_inj, and_true] at hn
      obtain ⟨rfl, rfl⟩ := hn
      rw [List.take_left]
      simpa using h2 i hi
    · rw [List.getElem?_eq_none (by simp; omega)] at hn; cases hn

theorem ordF_ok {outs : List Int} {uses frm : List (List (List Int))} : ∀ (n : Nat) (out : List (List Int)), (sumI outs - out.length).toNat = n → OkO outs uses frm out → (out.length : Int) ≤ sumI outs →
    (∃ l, ordF outs uses frm out = (l, 0) ∧ OkO outs uses frm l ∧ (l.length : Int) = sumI outs) ∨ (ordF outs uses frm out = ([], 7) ∧ ∃ out', OkO outs uses frm out' ∧ (out'.length : Int) < sumI outs ∧ nextP outs uses frm out' = none)
  | 0, out, hn, hok, hle => .inl ⟨out, ordF_end (by omega), hok, by omega⟩
  | n + 1, out, hn, hok, hle => by
    have hlt : (out.length : Int) < sumI outs := by omega
    rw [ordF_more hlt]
    cases hp : nextP outs uses frm out with
    | none => exact .inr ⟨rfl, out, hok, hlt, hp⟩
    | some p =>
      obtain ⟨s, k, rfl, hs, hk, hr⟩ := nextP_some hp
      exact ordF_ok n (out ++ [[(s : Int), (k : Int)]]) (by simp; omega) (hok.more hs hk hr) (by simp; omega)

theorem may_bounds {outs : List Int} {uses frm : List (List (List Int))} (h : mayG outs uses frm = true) : outs.length ≤ 16 ∧ ∀ s, s < outs.length → 0 ≤ outs.getD s 0 ∧ outs.getD s 0 ≤ 64 ∧ ((uses.getD s []).length : Int) = outs.getD s 0 := by
  simp only [mayG, Bool.and_eq_true, decide_eq_true_eq] at h
  obtain ⟨⟨⟨hl1, hl2⟩, hl3⟩, hl4⟩ := h
  refine ⟨hl1, fun s hs => ?_⟩
  have := List.all_eq_true.1 hl4 s (List.mem_range.2 hs)
  simp only [okS, okA, Bool.and_eq_true, decide_eq_true_eq] at this
  exact ⟨this.1.1.1.1, this.1.1.1.2, this.1.1.2⟩
theorem sum_step {outs : List Int} {s : Nat} (h : s < outs.length) : sumI (outs.take (s + 1)) = sumI (outs.take s) + outs.getD s 0 := by
  rw [List.take_succ_eq_append_getElem h, sumI, List.foldl_append, List.getD_eq_getElem?_getD, List.getElem?_eq_getElem h]; rfl
theorem sum_bound {outs : List Int} (hb : ∀ s, s < outs.length → 0 ≤ outs.getD s 0 ∧ outs.getD s 0 ≤ 64) : ∀ n, n ≤ outs.length → 0 ≤ sumI (outs.take n) ∧ sumI (outs.take n) ≤ 64 * n
  | 0, _ => by simp [sumI]
  | n + 1, h => by
    have := sum_bound hb n (by omega)
    have := hb n (by omega)
    rw [sum_step (by omega)]
    omega
theorem sum_may {outs : List Int} {uses frm : List (List (List Int))} (h : mayG outs uses frm = true) : 0 ≤ sumI outs ∧ sumI outs ≤ 1024 := by
  obtain ⟨h1, h2⟩ := may_bounds h
  have := sum_bound (fun s hs => ⟨(h2 s hs).1, (h2 s hs).2.1⟩) outs.length (Nat.le_refl _)
  rw [List.take_length] at this
  omega

/-- what an order is: of all outputs, or there is none -/
theorem ordT_ok {outs : List Int} {uses frm : List (List (List Int))} (h : mayG outs uses frm = true) :
    (∃ l, ordT outs uses frm = (l, 0, ()) ∧ OkO outs uses frm l ∧ (l.length : Int) = sumI outs) ∨ (ordT outs uses frm = ([], 7, ()) ∧ ∃ out', OkO outs uses frm out' ∧ (out'.length : Int) < sumI outs ∧ nextP outs uses frm out' = none) := by
  have hs := sum_may h
  rw [ordT, if_pos h]
  rcases ordF_ok (outs := outs) (uses := uses) (frm := frm) _ [] rfl .nil (by simpa using hs.1) with ⟨l, h1, h2⟩ | ⟨h1, h2⟩
  · exact .inl ⟨l, by rw [h1], h2⟩
  · exact .inr ⟨by rw [h1], h2⟩

theorem ord_len {outs : List Int} {uses frm : List (List (List Int))} : (ordT outs uses frm).1.length ≤ 1024 := by
  by_cases h : mayG outs uses frm = true
  · have hs := sum_may h
    rcases ordT_ok h with ⟨l, h1, h2, h3⟩ | ⟨h1, _⟩
    · rw [h1]; show l.length ≤ 1024; omega
    · rw [h1]; simp
  · rw [ordT, if_neg h]; simp

/-! ## all outputs, as a list -/
def row (s : Nat) (n : Nat) : List (List Int) := (List.range n).map fun (k : Nat) => [(s : Int), (k : Int)]
def rows (outs : List Int) (n : Nat) : List (List Int) := (List.range n).flatMap fun s => row s (outs.getD s 0).toNat
theorem rows_succ (outs : List Int) (n : Nat) : rows outs (n + 1) = rows outs n ++ row n (outs.getD n 0).toNat := by
  simp [rows, List.range_succ]
theorem row_succ (s n : Nat) : row s (n + 1) = row s n ++ [[(s : Int), (n : Int)]] := by
  simp [row, List.range_succ]
theorem mem_rows {outs : List Int} {n : Nat} {p : List Int} : p ∈ rows outs n ↔ ∃ s k : Nat, p = [(s : Int), (k : Int)] ∧ s < n ∧ (k : Int) < outs.getD s 0 := by
  simp only [rows, row, List.mem_flatMap, List.mem_range, List.mem_map]
  constructor
  · rintro ⟨s, hs, k, hk, rfl⟩; exact ⟨s, k, rfl, hs, by omega⟩
  · rintro ⟨s, k, rfl, hs, hk⟩; exact ⟨s, hs, k, by omega, rfl⟩
theorem rows_length {outs : List Int} (hb : ∀ s, s < outs.length → 0 ≤ outs.getD s 0) : ∀ n, n ≤ outs.length → ((rows outs n).length : Int) = sumI (outs.take n)
  | 0, _ => by simp [rows, sumI]
  | n + 1, h => by
    have := hb n (by omega)
    rw [rows_succ, sum_step (by omega), List.length_append, ← rows_length hb n (by omega)]
    simp only [row, List.length_map, List.length_range]
    omega

/-- an order of all has all -/
theorem all_told {outs : List Int} {uses frm : List (List (List Int))} {l : List (List Int)} (hm : mayG outs uses frm = true) (h : OkO outs uses frm l) (hl : (l.length : Int) = sumI outs) {s k : Nat} (hs : s < outs.length) (hk : (k : Int) < outs.getD s 0) : [(s : Int), (k : Int)] ∈ l := by
  have hb := (may_bounds hm).2
  have hr := rows_length (outs := outs) (fun s hs => (hb s hs).1) outs.length (Nat.le_refl _)
  rw [List.take_length] at hr
  refine (pigeon h.nodup (m := rows outs outs.length) (fun p hp => ?_)).2 (by omega) _ (mem_rows.2 ⟨s, k, rfl, hs, hk⟩)
  obtain ⟨s', k', rfl, h1, h2⟩ := h.inr p hp
  exact mem_rows.2 ⟨s', k', rfl, h1, h2⟩

end Gr
end Go.Proofs
