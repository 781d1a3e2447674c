import Derived.Test.YteongmdhfkalaaaZGrH
namespace Go.Proofs
open Go.Vc
set_option linter.unusedVariables false
set_option linter.unusedSimpArgs false
namespace Gr

/-! ## tables -/
def TabR {α : Type} (tb : List (List α)) (d : α) (f : Nat → Nat → α) : Prop :=
  tb.length = 16 ∧ (∀ s, s < 16 → (tb.getD s (List.replicate 64 d)).length = 64) ∧ ∀ s k, s < 16 → k < 64 → (tb.getD s (List.replicate 64 d)).getD k d = f s k
theorem TabR_start {α : Type} (d : α) : TabR (List.replicate 16 (List.replicate 64 d)) d (fun _ _ => d) := by
  refine ⟨by rw [List.length_replicate], fun s hs => ?_, fun s k hs hk => ?_⟩
  · rw [getD_rep _ _ _ _ hs, List.length_replicate]
  · rw [getD_rep _ _ _ _ hs, getD_rep _ _ _ _ hk]
theorem TabR_set {α : Type} {tb : List (List α)} {d : α} {f : Nat → Nat → α} (h : TabR tb d f) {s k : Nat} (v : α) (hs : s < 16) (hk : k < 64) : TabR (tb.set s ((tb.getD s (List.replicate 64 d)).set k v)) d (fun s' k' => if s' = s ∧ k' = k then v else f s' k') := by
  obtain ⟨h1, h2, h3⟩ := h
  have hget : ∀ s', s' < 16 → (tb.set s ((tb.getD s (List.replicate 64 d)).set k v)).getD s' (List.replicate 64 d) = if s' = s then (tb.getD s (List.replicate 64 d)).set k v else tb.getD s' (List.replicate 64 d) := fun s' hs' => by
    simp only [List.getD_eq_getElem?_getD, List.getElem?_set]
    by_cases e : s' = s
    · subst e; rw [if_pos rfl, if_pos (by omega), if_pos rfl]; rfl
    · rw [if_neg (fun h => e h.symm), if_neg e]
  refine ⟨by rw [List.length_set, h1], fun s' hs' => ?_, fun s' k' hs' hk' => ?_⟩
  · rw [hget s' hs']
    split
    · rw [List.length_set]; exact h2 s hs
    · exact h2 s' hs'
  · rw [hget s' hs']
    show _ = (if s' = s ∧ k' = k then v else f s' k')
    by_cases e : s' = s
    · subst e
      rw [if_pos rfl]
      by_cases e2 : k' = k
      · subst e2
        rw [if_pos ⟨rfl, rfl⟩, List.getD_eq_getElem?_getD, List.getElem?_set, if_pos rfl, if_pos (by rw [h2 s' hs]; exact hk)]; rfl
      · rw [if_neg (fun h => e2 h.2), ← h3 s' k' hs' hk', List.getD_eq_getElem?_getD, List.getElem?_set, if_neg (fun h => e2 h.symm), ← List.getD_eq_getElem?_getD]
    · rw [if_neg e, if_neg (fun h => e h.1)]
      exact h3 s' k' hs' hk'

/-- where an output stands, from 1 on; 0: nowhere -/
def posn (l : List (List Int)) (p : List Int) : Int := if p ∈ l then (l.idxOf p : Int) + 1 else 0
theorem posn_snoc {l : List (List Int)} {p q : List Int} (h : p ∉ l) : posn (l ++ [p]) q = if q = p then (l.length : Int) + 1 else posn l q := by
  unfold posn
  by_cases e : q = p
  · subst e
    rw [if_pos (by simp), if_pos rfl, List.idxOf_append, if_neg h]; simp
  · rw [if_neg e]
    by_cases hm : q ∈ l
    · rw [if_pos (by simp [hm]), if_pos hm, List.idxOf_append, if_pos hm]
    · rw [if_neg (by simp [hm, e]), if_neg hm]
theorem posn_lt {l : List (List Int)} (hn : l.Nodup) {n : Nat} {p q : List Int} (hq : l[n]? = some q) (hp : p ∈ l.take n) : posn l p < posn l q := by
  obtain ⟨hlt, hq⟩ := List.getElem?_eq_some_iff.1 hq
  have hql : q ∈ l := hq ▸ List.getElem_mem hlt
  have hpl : p ∈ l := List.mem_of_mem_take hp
  have h1 : l.idxOf q = n := by rw [← hq]; exact hn.idxOf_getElem n hlt
  have h2 : l.idxOf p < n := by
    obtain ⟨j, hj, hjp⟩ := List.mem_take_iff_getElem.1 hp
    have : l.idxOf p = j := by rw [← hjp]; exact hn.idxOf_getElem j (by omega)
    omega
  unfold posn
  rw [if_pos hpl, if_pos hql, h1]; omega

def dget (tb : List (List Bool)) (p : List Int) : Bool := (tb.getD (p.getD 0 0).toNat (List.replicate 64 false)).getD (p.getD 1 0).toNat false
theorem dget_nat (tb : List (List Bool)) (s k : Nat) : dget tb [(s : Int), (k : Int)] = (tb.getD s (List.replicate 64 false)).getD k false := by
  simp only [dget, List.getD_cons_zero, List.getD_cons_succ, Int.toNat_natCast]
theorem filt1 {α : Type} (p : α → Bool) (x : α) : (List.filter p [x]).length = if p x = true then 1 else 0 := by
  by_cases h : p x = true <;> simp [h]
/-- what is marked has been told -/
def SubT (outs : List Int) (out : List (List Int)) (tb : List (List Bool)) : Prop := ∃ f, TabR tb false f ∧ ∀ s k, f s k = true → [(s : Int), (k : Int)] ∈ out
theorem SubT_start {outs : List Int} {out : List (List Int)} : SubT outs out (List.replicate 16 (List.replicate 64 false)) := ⟨_, TabR_start false, fun s k h => by cases h⟩
theorem SubT_set {outs : List Int} {out : List (List Int)} {tb : List (List Bool)} (h : SubT outs out tb) {s k : Nat} {v : Bool} (hs : s < 16) (hk : k < 64) (hv : v = true → [(s : Int), (k : Int)] ∈ out) : SubT outs out (tb.set s ((tb.getD s (List.replicate 64 false)).set k v)) := by
  obtain ⟨f, h1, h2⟩ := h
  refine ⟨_, TabR_set h1 v hs hk, fun s' k' h => ?_⟩
  split at h
  · rename_i e; rw [e.1, e.2]; exact hv h
  · exact h2 s' k' h
theorem SubT_get {outs : List Int} {out : List (List Int)} {tb : List (List Bool)} (h : SubT outs out tb) {s k : Nat} (hs : s < 16) (hk : k < 64) (hd : dget tb [(s : Int), (k : Int)] = true) : [(s : Int), (k : Int)] ∈ out := by
  obtain ⟨f, h1, h2⟩ := h
  refine h2 s k ?_
  rw [← h1.2.2 s k hs hk]; simpa [dget] using hd

theorem rows_nodup (outs : List Int) : ∀ n, (rows outs n).Nodup
  | 0 => by simp [rows]
  | n + 1 => by
    rw [rows_succ, List.nodup_append]
    refine ⟨rows_nodup outs n, ?_, fun a ha b hb e => ?_⟩
    · unfold row
      rw [List.nodup_iff_pairwise_ne, List.pairwise_map]
      have := List.nodup_range (n := (outs.getD n 0).toNat)
      rw [List.nodup_iff_pairwise_ne] at this
      exact this.imp (fun {a b} h e => h (by have h3 := (List.cons.inj (List.cons.inj e).2).1; omega))
    · subst e
      obtain ⟨s, k, rfl, hs, _⟩ := mem_rows.1 ha
      simp only [row, List.mem_map, List.mem_range, List.cons.injEq, Int.natCast_inj] at hb
      obtain ⟨k', _, e, _⟩ := hb
      omega

theorem ordT_is {outs : List Int} {uses frm : List (List (List Int))} (hm : mayG outs uses frm = true) : ∃ (l : List (List Int)) (e : Int), ordT outs uses frm = (l, e, ()) ∧ OkO outs uses frm l ∧ ((e = 0 ∧ (l.length : Int) = sumI outs) ∨ (e = 7 ∧ l = [] ∧ ∃ out', OkO outs uses frm out' ∧ (out'.length : Int) < sumI outs ∧ nextP outs uses frm out' = none)) := by
  rcases ordT_ok hm with ⟨l, h1, h2, h3⟩ | ⟨h1, h2⟩
  · exact ⟨l, 0, h1, h2, .inl ⟨rfl, h3⟩⟩
  · exact ⟨[], 7, h1, .nil, .inr ⟨rfl, rfl, h2⟩⟩

set_option maxHeartbeats 4000000 in
theorem Right_ok : FOK Try.prog (fun _ => .junk) 4 spLaw := by
  refine fok_of (EM_ok K7) Try.func4 rfl (by kernel_rfl) (by decide) fun w0 S x hw _ => ?_
  obtain ⟨(outs : List Int), (uses : List (List (List Int))), (frm : List (List (List Int))), u⟩ := x
  simp only [spLaw, args3, Ty.wf] at hw
  obtain ⟨⟨hw1, hw2⟩, ⟨hw3, hw4⟩, ⟨hw5, hw6⟩, _⟩ := hw
  have hF : FrOK ⟨Try.prog, EM gl7, ⟨nothing, S⟩, w0, Try.f4.ntmps⟩ := ⟨EM_ok K7, mix⟩
  simp only [args0, args3, spLaw]
  refine tri_seq (tri_region hF [0, 1, 2] ?_)
  simp only [go_sem]
  refine at_next (tri_seq (tri_seq (tri_region hF [0, 1, 2, 39] ?_)))
  simp only [go_sem]
  repeat (refine ⟨by (intros; first | omega | assumption | decide), ?_⟩)
  refine at_next (tri_cond rfl (fun hc => ?_) (fun hc => ?_))
  · try simp only [go_sem] at hc
    refine tri_seq (tri_region hF [6] ?_)
    simp only [go_sem]
    repeat (refine ⟨by (intros; first | omega | assumption | decide), ?_⟩)
    refine at_next (tri_ret (at_then_ret (at_ret [6] rfl rfl ?_)))
    simp only [retOK, go_sem]
    skip
  · try simp only [go_sem] at hc
    have hm : mayG outs uses frm = true := hc.2
    clear hc
    have hmay := hm
    simp only [mayG, Bool.and_eq_true, decide_eq_true_eq] at hmay
    obtain ⟨⟨⟨hl1, hl2⟩, hl3⟩, hl4⟩ := hmay
    have hoks : ∀ s, s < outs.length → okS outs uses frm s = true := fun s hs => List.all_eq_true.1 hl4 s (List.mem_range.2 hs)
    have hout := (may_bounds hm).2
    have hlen : ∀ s k, s < outs.length → k < (uses.getD s []).length → ((uses.getD s []).getD k []).length ≤ maxLen := fun s k hs hk =>
      ((hw4 _ (mem_getD [] (show s < uses.length by omega))).2 _ (mem_getD [] hk)).1
    have hI : ∀ s k i, s < outs.length → k < (uses.getD s []).length → i < ((uses.getD s []).getD k []).length → 0 ≤ ((uses.getD s []).getD k []).getD i 0 ∧ ((uses.getD s []).getD k []).getD i 0 < (frm.getD s []).length := fun s k i hs hk hi => by
      have := hoks s hs
      simp only [okS, Bool.and_eq_true, List.all_eq_true] at this
      have := this.1.2 _ (mem_getD [] hk) _ (mem_getD 0 hi)
      simpa only [okI, Bool.and_eq_true, decide_eq_true_eq] using this
    have hX : ∀ s i, s < outs.length → i < (frm.getD s []).length → ∃ s' k' : Nat, (frm.getD s []).getD i (List.replicate 2 0) = [(s' : Int), (k' : Int)] ∧ s' < outs.length ∧ (k' : Int) < outs.getD s' 0 ∧ s' < 16 ∧ k' < 64 := fun s i hs hi => by
      have := hoks s hs
      simp only [okS, Bool.and_eq_true, List.all_eq_true] at this
      have hin := mem_getD (List.replicate 2 0) hi
      have hL := ((hw6 _ (mem_getD [] (show s < frm.length by omega))).2 _ hin).1
      have := this.2 _ hin
      simp only [okX, Bool.and_eq_true, decide_eq_true_eq] at this
      have h2 := hout _ (show (((frm.getD s []).getD i (List.replicate 2 0)).getD 0 0).toNat < outs.length by omega)
      refine ⟨(((frm.getD s []).getD i (List.replicate 2 0)).getD 0 0).toNat, (((frm.getD s []).getD i (List.replicate 2 0)).getD 1 0).toNat, (sq_pair hL (by omega) (by omega)).symm, by omega, by omega, by omega, by omega⟩
    have hsum := sum_may hm
    obtain ⟨l, e, hT, hL, hor⟩ := ordT_is hm
    have hll : l.length ≤ 1024 := by
      rcases hor with ⟨_, h⟩ | ⟨_, h, _⟩
      · omega
      · rw [h]; simp
    refine tri_skip (at_next (tri_seq (tri_region hF [0, 1, 2, 7, 8] ?_)))
    simp only [go_sem]
    repeat (refine ⟨by (intros; first | omega | assumption | decide), ?_⟩)
    simp only [hT]
    refine at_next (tri_seq (tri_regionB hF [0, 1, 2, 7, 8, 9] ?_))
    simp only [go_sem]
    repeat (refine ⟨by (intros; first | omega | assumption | decide), ?_⟩)
    refine at_next (tri_seq (tri_region hF [0, 1, 2, 7, 8, 9, 10] ?_))
    simp only [go_sem]
    refine at_next (tri_seq (tri_seq (tri_region hF [0, 1, 2, 7, 8, 9, 10, 11] ?_)))
    simp only [go_sem]
    refine at_next (tri_block (tri_loopU (D := Int) [0, 1, 2, 7, 8, 9] (fun s => 0 ≤ s ∧ s ≤ outs.length ∧ 0 ≤ sumI (outs.take s.toNat) ∧ sumI (outs.take s.toNat) ≤ 64 * s) (fun s => (outs.length - s).toNat) (fun s => [(10, .val (.i .i64) (sumI (outs.take s.toNat))), (11, .val (.i .i64) s)]) (fun s => []) (at_fit (0) ?_ rfl ?_) ?_))
    · simp [sumI]
    · simp only [fitE, fitV, true_or, and_self, go_sem]
      simp [sumI]
    rintro s ⟨hs0, hs1, hs2, hs3⟩
    simp only [go_sem]
    refine tri_seq (tri_seq (tri_region hF [0, 1, 2, 7, 8, 9, 10, 11, 51] ?_))
    simp only [go_sem]
    repeat (refine ⟨by (intros; first | omega | assumption | decide), ?_⟩)
    refine at_next (tri_cond rfl (fun hc => ?_) (fun hc => ?_))
    · try simp only [go_sem] at hc
      have hsn : s.toNat < outs.length := by omega
      have hstep := sum_step hsn
      have hb := hout s.toNat hsn
      refine tri_skip (at_next (tri_seq (tri_block (tri_region hF [0, 1, 2, 7, 8, 9, 10, 11] ?_))))
      simp only [go_sem]
      repeat (refine ⟨by (intros; first | omega | assumption | decide), ?_⟩)
      refine at_block_norm (at_next (tri_region hF [0, 1, 2, 7, 8, 9, 10, 11] ?_))
      simp only [go_sem]
      repeat (refine ⟨by (intros; first | omega | assumption | decide), ?_⟩)
      refine at_then_norm (at_fit (s + 1) ?_ rfl ?_)
      · refine ⟨⟨by omega, by omega, ?_, ?_⟩, by omega⟩ <;> (rw [show (s + 1).toNat = s.toNat + 1 from by omega, hstep]; omega)
      · rw [show (s + 1).toNat = s.toNat + 1 from by omega, hstep]
        simp only [fitE, fitV, true_or, and_self, go_sem]
    · try simp only [go_sem] at hc
      have hall : outs.take s.toNat = outs := List.take_of_length_le (by omega)
      simp only [hall]
      clear hall hc hs0 hs1 hs3 hs2
      refine tri_exit (at_then_exit (at_then_exit (at_block_exit (at_next (tri_seq (tri_seq (tri_region hF [0, 1, 2, 7, 8, 9, 10, 12] ?_)))))))
      simp only [go_sem]
      refine at_next (tri_block (tri_loopU (D := Int × List (List Int)) [0, 1, 2, 7, 8, 9, 10] (fun d => 0 ≤ d.1 ∧ d.1 ≤ l.length ∧ TabR d.2 0 (fun s k => posn (l.take d.1.toNat) [(s : Int), (k : Int)])) (fun d => (l.length - d.1).toNat) (fun d => [(12, .val (.i .i64) d.1)]) (fun d => [(0, .box 1024 (.val (.arr 16 (.arr 64 (.i .i64))) d.2))]) (at_fit ((0, List.replicate 16 (List.replicate 64 0))) ?_ rfl ?_) ?_))
      · exact ⟨Int.le_refl _, by simp, TabR_start 0⟩
      · simp only [fitE, fitV, true_or, and_self, go_sem]
      rintro ⟨i, tb⟩ ⟨hi0, hi1, hi2⟩
      simp only [go_sem]
      simp only at hi0 hi1 hi2
      refine tri_seq (tri_seq (tri_region hF [0, 1, 2, 7, 8, 9, 10, 12, 63] ?_))
      simp only [go_sem]
      repeat (refine ⟨by (intros; first | omega | assumption | decide), ?_⟩)
      refine at_next (tri_cond rfl (fun hc => ?_) (fun hc => ?_))
      · try simp only [go_sem] at hc
        have hin : i.toNat < l.length := by omega
        obtain ⟨s0, k0, ho, hs0, hk0⟩ := hL.inr (l.getD i.toNat (List.replicate 2 0)) (mem_getD _ hin)
        have hb0 := hout s0 hs0
        have hnew : [(s0 : Int), (k0 : Int)] ∉ l.take i.toNat := fun hmem => by
          obtain ⟨j, hj, hjp⟩ := List.mem_take_iff_getElem.1 hmem
          have h2 : l[i.toNat] = [(s0 : Int), (k0 : Int)] := by rw [← ho, List.getD_eq_getElem?_getD, List.getElem?_eq_getElem hin]; rfl
          have h3 := hL.nodup.idxOf_getElem j (by omega)
          have h4 := hL.nodup.idxOf_getElem i.toNat hin
          rw [hjp] at h3
          rw [h2] at h4
          omega
        have hpz : (tb.getD s0 (List.replicate 64 0)).getD k0 0 = 0 := by
          rw [hi2.2.2 s0 k0 (by omega) (by omega)]
          show posn (l.take i.toNat) [(s0 : Int), (k0 : Int)] = 0
          unfold posn
          rw [if_neg hnew]
        have htk : l.take (i.toNat + 1) = l.take i.toNat ++ [[(s0 : Int), (k0 : Int)]] := by
          rw [List.take_succ_eq_append_getElem hin, ← ho, List.getD_eq_getElem?_getD, List.getElem?_eq_getElem hin]; rfl
        refine tri_skip (at_next (tri_seq (tri_block (tri_seq (tri_regionB hF [0, 1, 2, 7, 8, 9, 10, 12, 13] ?_)))))
        simp only [go_sem]
        repeat (refine ⟨by (intros; first | omega | assumption | decide), ?_⟩)
        simp only [ho]
        refine at_next (tri_seq (tri_seq (tri_region hF [0, 1, 2, 7, 8, 9, 10, 12, 13, 104] ?_)))
        simp only [go_sem]
        repeat (refine ⟨by (intros; first | omega | assumption | decide), ?_⟩)
        refine at_next (tri_cond rfl (fun hc => ?_) (fun hc => ?_))
        · try simp only [go_sem] at hc
          exfalso
          rw [hpz] at hc
          omega
        · try simp only [go_sem] at hc
          refine tri_skip (at_next (tri_regionC hF 8 (by decide) [0, 1, 2, 7, 8, 9, 10, 12] ?_))
          simp only [go_sem]
          repeat (refine ⟨by (intros; first | omega | assumption | decide), ?_⟩)
          simp only [contC, go_sem]
          repeat (refine ⟨by (intros; first | omega | assumption | decide), ?_⟩)
          refine at_block_norm (at_next (tri_region hF [0, 1, 2, 7, 8, 9, 10, 12] ?_))
          simp only [go_sem]
          repeat (refine ⟨by (intros; first | omega | assumption | decide), ?_⟩)
          refine at_then_norm (at_ren [0] rfl ?_)
          simp only [ren, ren1, renO, posOf, posAll, go_sem]
          refine at_fit ((i + 1, tb.set s0 ((tb.getD s0 (List.replicate 64 0)).set k0 (i + 1)))) ?_ rfl ?_
          · refine ⟨⟨by show 0 ≤ i + 1; omega, by show i + 1 ≤ _; omega, ?_⟩, by show (_ - (i + 1)).toNat < (_ - i).toNat; omega⟩
            have h1 := TabR_set hi2 (i + 1) (show s0 < 16 by omega) (show k0 < 64 by omega)
            have h2 : (fun (s' k' : Nat) => if s' = s0 ∧ k' = k0 then i + 1 else posn (l.take i.toNat) [(s' : Int), (k' : Int)]) = fun (s k : Nat) => posn (l.take (i + 1).toNat) [(s : Int), (k : Int)] := by
              funext s' k'
              rw [show (i + 1).toNat = i.toNat + 1 from by omega, htk, posn_snoc hnew]
              have h3 : (l.take i.toNat).length = i.toNat := by rw [List.length_take]; omega
              by_cases h : s' = s0 ∧ k' = k0
              · rw [if_pos h, if_pos (by rw [h.1, h.2]), h3]; omega
              · rw [if_neg h, if_neg (fun e => h (by simp only [List.cons.injEq, Int.natCast_inj, and_true] at e; exact e))]
            show TabR _ 0 (fun (s k : Nat) => posn (l.take (i + 1).toNat) [(s : Int), (k : Int)])
            rw [← h2]; exact h1
          · simp only [fitE, fitV, true_or, and_self, go_sem]
      · try simp only [go_sem] at hc
        have htake : l.take i.toNat = l := List.take_of_length_le (by omega)
        rw [htake] at hi2
        refine tri_exit (at_then_exit (at_then_exit (at_block_exit (at_next (tri_seq (tri_seq (tri_region hF [0, 1, 2, 7, 8, 9, 10, 114] ?_)))))))
        simp only [go_sem]
        refine at_next (tri_cond rfl (fun hc => ?_) (fun hc => ?_))
        · try simp only [go_sem] at hc
          rcases hor with ⟨_, hlen1⟩ | ⟨h7, _⟩
          case inr => omega
          refine tri_seq (tri_seq (tri_region hF [0, 1, 2, 7, 9, 10, 14] ?_))
          simp only [go_sem]
          refine at_next (tri_block (tri_loopU (D := Int) [0, 1, 2, 7, 9, 10] (fun s => 0 ≤ s ∧ s ≤ outs.length) (fun s => (outs.length - s).toNat) (fun s => [(14, .val (.i .i64) s)]) (fun s => []) (at_fit (0) ?_ rfl ?_) ?_))
          · exact ⟨Int.le_refl _, by omega⟩
          · simp only [fitE, fitV, true_or, and_self, go_sem]
          rintro s ⟨hs0, hs1⟩
          simp only [go_sem]
          refine tri_seq (tri_seq (tri_region hF [0, 1, 2, 7, 9, 10, 14, 118] ?_))
          simp only [go_sem]
          repeat (refine ⟨by (intros; first | omega | assumption | decide), ?_⟩)
          refine at_next (tri_cond rfl (fun hc => ?_) (fun hc => ?_))
          · try simp only [go_sem] at hc
            have hsn : s.toNat < outs.length := by omega
            have hb := hout s.toNat hsn
            refine tri_skip (at_next (tri_seq (tri_block (tri_seq (tri_region hF [0, 1, 2, 7, 9, 10, 14, 15] ?_)))))
            simp only [go_sem]
            refine at_next (tri_block (tri_loopU (D := Int) [0, 1, 2, 7, 9, 10, 14] (fun k => 0 ≤ k ∧ k ≤ outs.getD s.toNat 0) (fun k => (outs.getD s.toNat 0 - k).toNat) (fun k => [(15, .val (.i .i64) k)]) (fun k => []) (at_fit (0) ?_ rfl ?_) ?_))
            · exact ⟨Int.le_refl _, by omega⟩
            · simp only [fitE, fitV, true_or, and_self, go_sem]
            rintro k ⟨hk0, hk1⟩
            simp only [go_sem]
            refine tri_seq (tri_seq (tri_region hF [0, 1, 2, 7, 9, 10, 14, 15, 126] ?_))
            simp only [go_sem]
            repeat (refine ⟨by (intros; first | omega | assumption | decide), ?_⟩)
            refine at_next (tri_cond rfl (fun hc => ?_) (fun hc => ?_))
            · try simp only [go_sem] at hc
              have hkn : k.toNat < (uses.getD s.toNat []).length := by omega
              have hlk := hlen s.toNat k.toNat hsn hkn
              simp only [maxLen_eq] at hlk
              obtain ⟨n, hn⟩ := List.mem_iff_getElem?.1 (all_told hm hL hlen1 (s := s.toNat) (k := k.toNat) hsn (by omega))
              refine tri_skip (at_next (tri_seq (tri_block (tri_seq (tri_region hF [0, 1, 2, 7, 9, 10, 14, 15, 16] ?_)))))
              simp only [go_sem]
              refine at_next (tri_block (tri_loopU (D := Int) [0, 1, 2, 7, 9, 10, 14, 15] (fun i => 0 ≤ i ∧ i ≤ ((uses.getD s.toNat []).getD k.toNat []).length) (fun i => (((uses.getD s.toNat []).getD k.toNat []).length - i).toNat) (fun i => [(16, .val (.i .i64) i)]) (fun i => []) (at_fit (0) ?_ rfl ?_) ?_))
              · exact ⟨Int.le_refl _, by omega⟩
              · simp only [fitE, fitV, true_or, and_self, go_sem]
              rintro i ⟨hi0, hi1⟩
              simp only [go_sem]
              refine tri_seq (tri_seq (tri_region hF [0, 1, 2, 7, 9, 10, 14, 15, 16, 138] ?_))
              simp only [go_sem]
              repeat (refine ⟨by (intros; first | omega | assumption | decide), ?_⟩)
              refine at_next (tri_cond rfl (fun hc => ?_) (fun hc => ?_))
              · try simp only [go_sem] at hc
                have hin : i.toNat < ((uses.getD s.toNat []).getD k.toNat []).length := by omega
                have hIi := hI s.toNat k.toNat i.toNat hsn hkn hin
                obtain ⟨s', k', hoX, hs', hk', hs16, hk64⟩ := hX s.toNat (((uses.getD s.toNat []).getD k.toNat []).getD i.toNat 0).toNat hsn (by omega)
                have hdep := hL.deps n s.toNat k.toNat hn _ (mem_getD 0 hin)
                rw [hoX] at hdep
                have hplt := posn_lt hL.nodup hn hdep
                have ha1 := hi2.2.2 s' k' hs16 hk64
                have ha2 := hi2.2.2 s.toNat k.toNat (by omega) (by omega)
                simp only at ha1 ha2
                refine tri_skip (at_next (tri_seq (tri_block (tri_seq (tri_regionC hF 17 (by decide) [0, 1, 2, 7, 9, 10, 14, 15, 16, 17] ?_)))))
                simp only [go_sem]
                repeat (refine ⟨by (intros; first | omega | assumption | decide), ?_⟩)
                simp only [contC, go_sem]
                repeat (refine ⟨by (intros; first | omega | assumption | decide), ?_⟩)
                simp only [hoX]
                refine at_next (tri_seq (tri_region hF [0, 1, 2, 7, 9, 10, 14, 15, 16, 169] ?_))
                simp only [go_sem]
                repeat (refine ⟨by (intros; first | omega | assumption | decide), ?_⟩)
                refine at_next (tri_cond rfl (fun hc => ?_) (fun hc => ?_))
                · try simp only [go_sem] at hc
                  exfalso
                  rw [ha1, ha2] at hc
                  omega
                · try simp only [go_sem] at hc
                  refine tri_skip (at_block_norm (at_next (tri_region hF [0, 1, 2, 7, 9, 10, 14, 15, 16] ?_)))
                  simp only [go_sem]
                  repeat (refine ⟨by (intros; first | omega | assumption | decide), ?_⟩)
                  refine at_then_norm (at_ren [0] rfl ?_)
                  simp only [ren, ren1, renO, posOf, posAll, go_sem]
                  refine at_fit (i + 1) ?_ rfl ?_
                  · exact ⟨⟨by omega, by omega⟩, by omega⟩
                  · simp only [fitE, fitV, true_or, and_self, go_sem]
              · try simp only [go_sem] at hc
                refine tri_exit (at_then_exit (at_then_exit (at_block_exit (at_block_norm (at_next (tri_region hF [0, 1, 2, 7, 9, 10, 14, 15] ?_))))))
                simp only [go_sem]
                repeat (refine ⟨by (intros; first | omega | assumption | decide), ?_⟩)
                refine at_then_norm (at_fit (k + 1) ?_ rfl ?_)
                · exact ⟨⟨by omega, by omega⟩, by omega⟩
                · simp only [fitE, fitV, true_or, and_self, go_sem]
            · try simp only [go_sem] at hc
              refine tri_exit (at_then_exit (at_then_exit (at_block_exit (at_block_norm (at_next (tri_region hF [0, 1, 2, 7, 9, 10, 14] ?_))))))
              simp only [go_sem]
              repeat (refine ⟨by (intros; first | omega | assumption | decide), ?_⟩)
              refine at_then_norm (at_fit (s + 1) ?_ rfl ?_)
              · exact ⟨⟨by omega, by omega⟩, by omega⟩
              · simp only [fitE, fitV, true_or, and_self, go_sem]
          · try simp only [go_sem] at hc
            refine tri_exit (at_then_exit (at_then_exit (at_block_exit (at_next (tri_seq (tri_region hF [6] ?_))))))
            simp only [go_sem]
            repeat (refine ⟨by (intros; first | omega | assumption | decide), ?_⟩)
            refine at_next (tri_ret (at_then_ret (at_ret [6] rfl rfl ?_)))
            simp only [retOK, go_sem]
            simp [hlen1]
        · try simp only [go_sem] at hc
          rcases hor with ⟨h0, _⟩ | ⟨h7, hl0, out', hO, hOl, hN⟩
          case inl => exact absurd h0 hc
          refine tri_skip (at_next (tri_seq (tri_regionB hF [0, 1, 2, 7, 8, 10, 18] ?_)))
          simp only [go_sem]
          repeat (refine ⟨by (intros; first | omega | assumption | decide), ?_⟩)
          refine at_ren [1] rfl ?_
          simp only [ren, ren1, renO, posOf, posAll, go_sem]
          refine at_next (tri_seq (tri_seq (tri_region hF [0, 1, 2, 7, 8, 10, 18, 19] ?_)))
          simp only [go_sem]
          refine at_next (tri_block (tri_loopU (D := Int × List (List Bool)) [0, 1, 2, 7, 8, 10, 18] (fun d => 0 ≤ d.1 ∧ SubT outs out' d.2) (fun d => (sumI outs - d.1).toNat) (fun d => [(19, .val (.i .i64) d.1)]) (fun d => [(0, .box 1024 (.val (.arr 16 (.arr 64 .bool)) d.2))]) (at_fit ((0, List.replicate 16 (List.replicate 64 false))) ?_ rfl ?_) ?_))
          · exact ⟨Int.le_refl _, SubT_start⟩
          · simp only [fitE, fitV, true_or, and_self, go_sem]
          rintro ⟨t, tb1⟩ ⟨ht0, ht1⟩
          simp only [go_sem]
          simp only at ht0 ht1
          refine tri_seq (tri_seq (tri_region hF [0, 1, 2, 7, 8, 10, 18, 19, 179] ?_))
          simp only [go_sem]
          refine at_next (tri_cond rfl (fun hc => ?_) (fun hc => ?_))
          · try simp only [go_sem] at hc
            refine tri_skip (at_next (tri_seq (tri_block (tri_seq (tri_region hF [0, 1, 2, 7, 8, 10, 18, 19, 20] ?_)))))
            simp only [go_sem]
            refine at_next (tri_block (tri_loopU (D := Int × List (List Bool)) [0, 1, 2, 7, 8, 10, 18, 19] (fun d => 0 ≤ d.1 ∧ d.1 ≤ outs.length ∧ SubT outs out' d.2) (fun d => (outs.length - d.1).toNat) (fun d => [(20, .val (.i .i64) d.1)]) (fun d => [(0, .box 1024 (.val (.arr 16 (.arr 64 .bool)) d.2))]) (at_fit ((0, tb1)) ?_ rfl ?_) ?_))
            · exact ⟨Int.le_refl _, by simp, ht1⟩
            · simp only [fitE, fitV, true_or, and_self, go_sem]
            rintro ⟨s, tb2⟩ ⟨hs0, hs1, hq2⟩
            simp only [go_sem]
            simp only at hs0 hs1 hq2
            refine tri_seq (tri_seq (tri_region hF [0, 1, 2, 7, 8, 10, 18, 19, 20, 185] ?_))
            simp only [go_sem]
            repeat (refine ⟨by (intros; first | omega | assumption | decide), ?_⟩)
            refine at_next (tri_cond rfl (fun hc => ?_) (fun hc => ?_))
            · try simp only [go_sem] at hc
              have hsn : s.toNat < outs.length := by omega
              have hb := hout s.toNat hsn
              refine tri_skip (at_next (tri_seq (tri_block (tri_seq (tri_region hF [0, 1, 2, 7, 8, 10, 18, 19, 20, 21] ?_)))))
              simp only [go_sem]
              refine at_next (tri_block (tri_loopU (D := Int × List (List Bool)) [0, 1, 2, 7, 8, 10, 18, 19, 20] (fun d => 0 ≤ d.1 ∧ d.1 ≤ outs.getD s.toNat 0 ∧ SubT outs out' d.2) (fun d => (outs.getD s.toNat 0 - d.1).toNat) (fun d => [(21, .val (.i .i64) d.1)]) (fun d => [(0, .box 1024 (.val (.arr 16 (.arr 64 .bool)) d.2))]) (at_fit ((0, tb2)) ?_ rfl ?_) ?_))
              · exact ⟨Int.le_refl _, hb.1, hq2⟩
              · simp only [fitE, fitV, true_or, and_self, go_sem]
              rintro ⟨k, tb3⟩ ⟨hk0, hk1, hq3⟩
              simp only [go_sem]
              simp only at hk0 hk1 hq3
              refine tri_seq (tri_seq (tri_region hF [0, 1, 2, 7, 8, 10, 18, 19, 20, 21, 193] ?_))
              simp only [go_sem]
              repeat (refine ⟨by (intros; first | omega | assumption | decide), ?_⟩)
              refine at_next (tri_cond rfl (fun hc => ?_) (fun hc => ?_))
              · try simp only [go_sem] at hc
                have hkn : k.toNat < (uses.getD s.toNat []).length := by omega
                have hlk := hlen s.toNat k.toNat hsn hkn
                simp only [maxLen_eq] at hlk
                refine tri_skip (at_next (tri_seq (tri_block (tri_seq (tri_region hF [0, 1, 2, 7, 8, 10, 18, 19, 20, 21, 22] ?_)))))
                simp only [go_sem]
                refine at_next (tri_seq (tri_seq (tri_region hF [0, 1, 2, 7, 8, 10, 18, 19, 20, 21, 22, 23] ?_)))
                simp only [go_sem]
                refine at_next (tri_block (tri_loopU (D := Int) [0, 1, 2, 7, 8, 10, 18, 19, 20, 21] (fun i => 0 ≤ i ∧ i ≤ ((uses.getD s.toNat []).getD k.toNat []).length) (fun i => (((uses.getD s.toNat []).getD k.toNat []).length - i).toNat) (fun i => [(22, .val .bool ((((uses.getD s.toNat []).getD k.toNat []).take i.toNat).all (fun j => dget tb3 ((frm.getD s.toNat []).getD j.toNat (List.replicate 2 0))))), (23, .val (.i .i64) i)]) (fun i => []) (at_fit (0) ?_ rfl ?_) ?_))
                · exact ⟨Int.le_refl _, by omega⟩
                · simp only [fitE, fitV, true_or, and_self, go_sem]
                rintro i ⟨hi0, hi1⟩
                simp only [go_sem]
                refine tri_seq (tri_seq (tri_region hF [0, 1, 2, 7, 8, 10, 18, 19, 20, 21, 22, 23, 205] ?_))
                simp only [go_sem]
                repeat (refine ⟨by (intros; first | omega | assumption | decide), ?_⟩)
                refine at_next (tri_cond rfl (fun hc => ?_) (fun hc => ?_))
                · try simp only [go_sem] at hc
                  have hin : i.toNat < ((uses.getD s.toNat []).getD k.toNat []).length := by omega
                  have hIi := hI s.toNat k.toNat i.toNat hsn hkn hin
                  obtain ⟨s', k', hoX, hs', hk', hs16, hk64⟩ := hX s.toNat (((uses.getD s.toNat []).getD k.toNat []).getD i.toNat 0).toNat hsn (by omega)
                  refine tri_skip (at_next (tri_seq (tri_block (tri_seq (tri_regionC hF 17 (by decide) [0, 1, 2, 7, 8, 10, 18, 19, 20, 21, 22, 23, 24] ?_)))))
                  simp only [go_sem]
                  repeat (refine ⟨by (intros; first | omega | assumption | decide), ?_⟩)
                  simp only [contC, go_sem]
                  repeat (refine ⟨by (intros; first | omega | assumption | decide), ?_⟩)
                  simp only [hoX]
                  refine at_next (tri_region hF [0, 1, 2, 7, 8, 10, 18, 19, 20, 21, 22, 23] ?_)
                  simp only [go_sem]
                  repeat (refine ⟨by (intros; first | omega | assumption | decide), ?_⟩)
                  refine at_block_norm (at_next (tri_region hF [0, 1, 2, 7, 8, 10, 18, 19, 20, 21, 22, 23] ?_))
                  simp only [go_sem]
                  repeat (refine ⟨by (intros; first | omega | assumption | decide), ?_⟩)
                  refine at_then_norm (at_ren [0] rfl ?_)
                  simp only [ren, ren1, renO, posOf, posAll, go_sem]
                  refine at_fit (i + 1) ?_ rfl ?_
                  · exact ⟨⟨by omega, by omega⟩, by omega⟩
                  · simp only [fitE, fitV, true_or, and_self, go_sem]
                    left; rw [show (i + 1).toNat = i.toNat + 1 from by omega, all_step _ _ _ 0 hin]; simp only [hoX, dget, List.getD_cons_zero, List.getD_cons_succ, Int.toNat_natCast]
                · try simp only [go_sem] at hc
                  refine tri_exit (at_then_exit (at_then_exit (at_block_exit (at_next (tri_regionC hF 12 (by decide) [0, 1, 2, 7, 8, 10, 18, 19, 20, 21] ?_)))))
                  simp only [go_sem]
                  repeat (refine ⟨by (intros; first | omega | assumption | decide), ?_⟩)
                  simp only [contC, go_sem]
                  repeat (refine ⟨by (intros; first | omega | assumption | decide), ?_⟩)
                  refine at_block_norm (at_next (tri_region hF [0, 1, 2, 7, 8, 10, 18, 19, 20, 21] ?_))
                  simp only [go_sem]
                  repeat (refine ⟨by (intros; first | omega | assumption | decide), ?_⟩)
                  refine at_then_norm (at_fit ((k + 1, tb3.set s.toNat ((tb3.getD s.toNat (List.replicate 64 false)).set k.toNat ((tb3.getD s.toNat (List.replicate 64 false)).getD k.toNat false || (((uses.getD s.toNat []).getD k.toNat []).take i.toNat).all (fun j => dget tb3 ((frm.getD s.toNat []).getD j.toNat (List.replicate 2 0))))))) ?_ rfl ?_)
                  · refine ⟨⟨by show 0 ≤ k + 1; omega, by show k + 1 ≤ _; omega, SubT_set hq3 (by omega) (by omega) fun hv => ?_⟩, by show (_ - (k + 1)).toNat < (_ - k).toNat; omega⟩
                    rcases Bool.or_eq_true .. |>.mp hv with hv | hv
                    · exact SubT_get hq3 (by omega) (by omega) (by rw [dget_nat]; exact hv)
                    · have hnr := nextP_none hN hsn (show ((k.toNat : Nat) : Int) < outs.getD s.toNat 0 by omega)
                      rw [all_end _ _ _ (by omega), List.all_eq_true] at hv
                      have hall : ((uses.getD s.toNat []).getD k.toNat []).all (fun j => out'.contains ((frm.getD s.toNat []).getD j.toNat (List.replicate 2 0))) = true := by
                        rw [List.all_eq_true]
                        intro j hj
                        have hvj := hv j hj
                        obtain ⟨q, hq, rfl⟩ := List.mem_iff_getElem.1 hj
                        have hIq := hI s.toNat k.toNat q hsn hkn hq
                        rw [List.getD_eq_getElem?_getD, List.getElem?_eq_getElem hq] at hIq
                        obtain ⟨s', k', hoX, hs', hk', hs16, hk64⟩ := hX s.toNat (((uses.getD s.toNat []).getD k.toNat [])[q]).toNat hsn (by have := hIq.2; simp only [Option.getD_some] at this hIq; omega)
                        rw [hoX] at hvj ⊢
                        have := SubT_get hq3 hs16 hk64 hvj
                        simpa using this
                      rw [rdy, hall, Bool.and_true, Bool.not_eq_false'] at hnr
                      simpa using hnr
                  · simp only [fitE, fitV, true_or, and_self, go_sem]
              · try simp only [go_sem] at hc
                refine tri_exit (at_then_exit (at_then_exit (at_block_exit (at_block_norm (at_next (tri_region hF [0, 1, 2, 7, 8, 10, 18, 19, 20] ?_))))))
                simp only [go_sem]
                repeat (refine ⟨by (intros; first | omega | assumption | decide), ?_⟩)
                refine at_then_norm (at_fit ((s + 1, tb3)) ?_ rfl ?_)
                · exact ⟨⟨by show 0 ≤ s + 1; omega, by show s + 1 ≤ _; omega, hq3⟩, by show (_ - (s + 1)).toNat < (_ - s).toNat; omega⟩
                · simp only [fitE, fitV, true_or, and_self, go_sem]
            · try simp only [go_sem] at hc
              refine tri_exit (at_then_exit (at_then_exit (at_block_exit (at_block_norm (at_next (tri_region hF [0, 1, 2, 7, 8, 10, 18, 19] ?_))))))
              simp only [go_sem]
              repeat (refine ⟨by (intros; first | omega | assumption | decide), ?_⟩)
              refine at_then_norm (at_fit ((t + 1, tb2)) ?_ rfl ?_)
              · exact ⟨⟨by show 0 ≤ t + 1; omega, hq2⟩, by show (_ - (t + 1)).toNat < (_ - t).toNat; omega⟩
              · simp only [fitE, fitV, true_or, and_self, go_sem]
          · try simp only [go_sem] at hc
            refine tri_exit (at_then_exit (at_then_exit (at_block_exit (at_next (tri_seq (tri_region hF [0, 7, 8, 10, 18, 25] ?_))))))
            simp only [go_sem]
            refine at_next (tri_seq (tri_seq (tri_region hF [0, 7, 8, 10, 18, 25, 26] ?_)))
            simp only [go_sem]
            refine at_next (tri_block (tri_loopU (D := Int) [0, 7, 8, 10, 18] (fun s => 0 ≤ s ∧ s ≤ outs.length) (fun s => (outs.length - s).toNat) (fun s => [(25, .val (.i .i64) ((((rows outs s.toNat).filter (dget tb1)).length : Nat) : Int)), (26, .val (.i .i64) s)]) (fun s => []) (at_fit (0) ?_ rfl ?_) ?_))
            · exact ⟨Int.le_refl _, by omega⟩
            · simp only [fitE, fitV, true_or, and_self, go_sem]
              simp [rows]
            rintro s ⟨hs0, hs1⟩
            simp only [go_sem]
            refine tri_seq (tri_seq (tri_region hF [0, 7, 8, 10, 18, 25, 26, 249] ?_))
            simp only [go_sem]
            repeat (refine ⟨by (intros; first | omega | assumption | decide), ?_⟩)
            refine at_next (tri_cond rfl (fun hc => ?_) (fun hc => ?_))
            · try simp only [go_sem] at hc
              have hsn : s.toNat < outs.length := by omega
              have hb := hout s.toNat hsn
              have hrl := rows_length (outs := outs) (fun s hs => (hout s hs).1) s.toNat (by omega)
              have hsb := sum_bound (fun s hs => ⟨(hout s hs).1, (hout s hs).2.1⟩) s.toNat (by omega)
              refine tri_skip (at_next (tri_seq (tri_block (tri_seq (tri_region hF [0, 7, 8, 10, 18, 25, 26, 27] ?_)))))
              simp only [go_sem]
              refine at_next (tri_block (tri_loopU (D := Int) [0, 7, 8, 10, 18, 26] (fun k => 0 ≤ k ∧ k ≤ outs.getD s.toNat 0) (fun k => (outs.getD s.toNat 0 - k).toNat) (fun k => [(25, .val (.i .i64) ((((rows outs s.toNat ++ row s.toNat k.toNat).filter (dget tb1)).length : Nat) : Int)), (27, .val (.i .i64) k)]) (fun k => []) (at_fit (0) ?_ rfl ?_) ?_))
              · exact ⟨Int.le_refl _, by omega⟩
              · simp only [fitE, fitV, true_or, and_self, go_sem]
                simp [row]
              rintro k ⟨hk0, hk1⟩
              simp only [go_sem]
              refine tri_seq (tri_seq (tri_region hF [0, 7, 8, 10, 18, 25, 26, 27, 257] ?_))
              simp only [go_sem]
              repeat (refine ⟨by (intros; first | omega | assumption | decide), ?_⟩)
              refine at_next (tri_cond rfl (fun hc => ?_) (fun hc => ?_))
              · try simp only [go_sem] at hc
                have hfl : ((rows outs s.toNat ++ row s.toNat k.toNat).filter (dget tb1)).length ≤ 2000 := by
                  refine Nat.le_trans (List.length_filter_le _ _) ?_
                  simp only [List.length_append, row, List.length_map, List.length_range]
                  omega
                have hstep2 : ((rows outs s.toNat ++ row s.toNat (k + 1).toNat).filter (dget tb1)).length = ((rows outs s.toNat ++ row s.toNat k.toNat).filter (dget tb1)).length + if dget tb1 [((s.toNat : Nat) : Int), ((k.toNat : Nat) : Int)] = true then 1 else 0 := by
                  rw [show (k + 1).toNat = k.toNat + 1 from by omega, row_succ, ← List.append_assoc, List.filter_append, List.length_append]
                  rw [filt1]
                have hdg : dget tb1 [((s.toNat : Nat) : Int), ((k.toNat : Nat) : Int)] = (tb1.getD s.toNat (List.replicate 64 false)).getD k.toNat false := dget_nat _ _ _
                refine tri_skip (at_next (tri_seq (tri_block (tri_seq (tri_region hF [0, 7, 8, 10, 18, 25, 26, 27, 264] ?_)))))
                simp only [go_sem]
                repeat (refine ⟨by (intros; first | omega | assumption | decide), ?_⟩)
                refine at_next (tri_cond rfl (fun hc => ?_) (fun hc => ?_))
                · try simp only [go_sem] at hc
                  refine tri_region hF [0, 7, 8, 10, 18, 25, 26, 27] ?_
                  simp only [go_sem]
                  repeat (refine ⟨by (intros; first | omega | assumption | decide), ?_⟩)
                  refine at_block_norm (at_next (tri_region hF [0, 7, 8, 10, 18, 25, 26, 27] ?_))
                  simp only [go_sem]
                  repeat (refine ⟨by (intros; first | omega | assumption | decide), ?_⟩)
                  refine at_then_norm (at_fit (k + 1) ?_ rfl ?_)
                  · exact ⟨⟨by omega, by omega⟩, by omega⟩
                  · simp only [fitE, fitV, true_or, and_self, go_sem]
                    left; rw [hstep2, hdg, hc]; simp
                · try simp only [go_sem] at hc
                  refine tri_skip (at_block_norm (at_next (tri_region hF [0, 7, 8, 10, 18, 25, 26, 27] ?_)))
                  simp only [go_sem]
                  repeat (refine ⟨by (intros; first | omega | assumption | decide), ?_⟩)
                  refine at_then_norm (at_fit (k + 1) ?_ rfl ?_)
                  · exact ⟨⟨by omega, by omega⟩, by omega⟩
                  · simp only [fitE, fitV, true_or, and_self, go_sem]
                    left; rw [hstep2, hdg, hc]; simp
              · try simp only [go_sem] at hc
                refine tri_exit (at_then_exit (at_then_exit (at_block_exit (at_block_norm (at_next (tri_region hF [0, 7, 8, 10, 18, 25, 26] ?_))))))
                simp only [go_sem]
                repeat (refine ⟨by (intros; first | omega | assumption | decide), ?_⟩)
                refine at_then_norm (at_fit (s + 1) ?_ rfl ?_)
                · exact ⟨⟨by omega, by omega⟩, by omega⟩
                · simp only [fitE, fitV, true_or, and_self, go_sem]
                  left; rw [show (s + 1).toNat = s.toNat + 1 from by omega, rows_succ, show k.toNat = (outs.getD s.toNat 0).toNat from by omega]
            · try simp only [go_sem] at hc
              refine tri_exit (at_then_exit (at_then_exit (at_block_exit (at_next (tri_seq (tri_region hF [6] ?_))))))
              simp only [go_sem]
              repeat (refine ⟨by (intros; first | omega | assumption | decide), ?_⟩)
              refine at_next (tri_ret (at_ret [6] rfl rfl ?_))
              simp only [retOK, go_sem]
              subst hl0
              have hse : s.toNat = outs.length := by omega
              rw [hse]
              have hp := (pigeon (l := (rows outs outs.length).filter (dget tb1)) (m := out') ((rows_nodup outs _).filter _) (fun p hp => by
                obtain ⟨hp1, hp2⟩ := List.mem_filter.1 hp
                obtain ⟨s', k', rfl, h1, h2⟩ := mem_rows.1 hp1
                have := hout s' h1
                exact SubT_get ht1 (by omega) (by omega) hp2)).1
              have h1 : ((((rows outs outs.length).filter (dget tb1)).length : Nat) : Int) < sumI outs := by omega
              simp [h1, h7]

end Gr
end Go.Proofs
