import Derived.Test.YteongmdhfkalaaaZGrE
namespace Go.Proofs
open Go.Vc
set_option linter.unusedVariables false
set_option linter.unusedSimpArgs false
namespace Gr

abbrev KT : Ty := .arr 2 (.i .i64)
theorem eq2 {x y : List Int} (hx : x.length = 2) (hy : y.length = 2) : KT.eqb x y = decide (x = y) := by
  match x, y, hx, hy with
  | [a, b], [c, d], _, _ => simp [Ty.eqb]
def Key2 (m : List (List Int × Bool)) : Prop := ∀ p ∈ m, p.1.length = 2
theorem mget_mput {m : List (List Int × Bool)} (hm : Key2 m) {x x' : List Int} (hx : x.length = 2) (hx' : x'.length = 2) (y : Bool) : mget KT (mput KT m x y) x' = if x = x' then some y else mget KT m x' := by
  induction m with
  | nil =>
    simp only [mput, mget, eq2 hx' hx, decide_eq_true_eq]
    by_cases e : x = x'
    · subst e; rfl
    · rw [if_neg e, if_neg (fun h => e h.symm)]
  | cons p r ih =>
    obtain ⟨k, v⟩ := p
    have hk : k.length = 2 := hm (k, v) (by simp)
    have ih := ih (fun p hp => hm p (by simp [hp]))
    simp only [mput, eq2 hx hk, decide_eq_true_eq]
    by_cases e : x = k
    · subst e
      simp only [if_true, mget, eq2 hx' hx, decide_eq_true_eq]
      by_cases e2 : x' = x
      · simp [e2]
      · rw [if_neg e2, if_neg (fun h => e2 h.symm), if_neg e2]
    · simp only [e, if_false, mget, eq2 hx' hk, decide_eq_true_eq, ih]
      by_cases e2 : x' = k
      · subst e2; simp [e]
      · simp [e2]
theorem Key2_mput {m : List (List Int × Bool)} (hm : Key2 m) {x : List Int} (hx : x.length = 2) (y : Bool) : Key2 (mput KT m x y) := by
  induction m with
  | nil => intro p hp; simp [mput] at hp; rw [hp]; exact hx
  | cons p r ih =>
    obtain ⟨k, v⟩ := p
    have hk : k.length = 2 := hm (k, v) (by simp)
    have ih := ih (fun p hp => hm p (by simp [hp]))
    intro p hp
    simp only [mput] at hp
    split at hp
    · rcases List.mem_cons.1 hp with rfl | hp
      · exact hk
      · exact hm p (by simp [hp])
    · rcases List.mem_cons.1 hp with rfl | hp
      · exact hk
      · exact ih p hp
/-- the map of what has been told -/
def MapR (m : List (List Int × Bool)) (out : List (List Int)) : Prop := Key2 m ∧ ∀ x : List Int, x.length = 2 → (mget KT m x).getD false = out.contains x
theorem MapR_start : MapR [] [] := ⟨(fun p hp => by cases hp), fun x hx => rfl⟩
theorem MapR_put {m : List (List Int × Bool)} {out : List (List Int)} (h : MapR m out) {x : List Int} (hx : x.length = 2) : MapR (mput KT m x true) (out ++ [x]) := by
  refine ⟨Key2_mput h.1 hx true, fun x' hx' => ?_⟩
  rw [mget_mput h.1 hx hx', List.contains_append]
  by_cases e : x = x'
  · subst e; simp
  · rw [if_neg e, h.2 x' hx']
    have : (List.contains [x] x') = false := by simp [eq_comm, e]
    rw [this, Bool.or_false]

def sp11 : FSpec := ⟨args3, .one .bool, fun _ => True, fun x => mayG x.1 x.2.1 x.2.2.1⟩
def gl5 : List (FuncId × FSpec) := [(11, sp11)]
theorem G11 : gam gl5 11 = some sp11 := rfl
theorem K11 : Known Try.prog (fun _ => .junk) gl5 := .cons may_ok (by kernel_rfl) .nil
attribute [go_sem] G11 sp11

theorem Order_ok : FOK Try.prog (fun _ => .junk) 8 ⟨args3, .tup (.pair (.sl (.arr 2 (.i .i64))) (.pair (.i .i64) .unit)), fun _ => True, fun x => ordT x.1 x.2.1 x.2.2.1⟩ := by
  refine fok_of (EM_ok K11) Try.func8 rfl (by kernel_rfl) (by decide) fun w0 S x hw _ => ?_
  obtain ⟨(outs : List Int), (uses : List (List (List Int))), (frm : List (List (List Int))), u⟩ := x
  simp only [args3, Ty.wf] at hw
  obtain ⟨⟨hw1, hw2⟩, ⟨hw3, hw4⟩, ⟨hw5, hw6⟩, _⟩ := hw
  have hF : FrOK ⟨Try.prog, EM gl5, ⟨nothing, S⟩, w0, Try.f8.ntmps⟩ := ⟨EM_ok K11, mix⟩
  simp only [args0, args3]
  refine tri_seq (tri_region hF [0, 1, 2] ?_)
  simp only [go_sem]
  refine at_next (tri_scope (tri_seq (tri_seq (tri_region hF [0, 1, 2, 22] ?_))))
  simp only [go_sem]
  repeat (refine ⟨by (intros; first | omega | assumption | decide), ?_⟩)
  refine at_next (tri_cond rfl (fun hc => ?_) (fun hc => ?_))
  · try simp only [go_sem] at hc
    refine tri_seq (tri_region hF [6, 7] ?_)
    simp only [go_sem]
    refine at_next (tri_ret (at_then_ret (at_scope_ret (at_ret [6, 7] rfl rfl ?_))))
    simp only [retOK, go_sem]
    simp only [ordT, hc, Bool.false_eq_true, if_false]
  · try simp only [go_sem] at hc
    have hmay := hc
    clear hc
    have hm : mayG outs uses frm = true := hmay
    simp only [mayG, Bool.and_eq_true, decide_eq_true_eq] at hmay
    obtain ⟨⟨⟨hl1, hl2⟩, hl3⟩, hl4⟩ := hmay
    have hoks : ∀ s, s < outs.length → okS outs uses frm s = true := fun s hs => List.all_eq_true.1 hl4 s (List.mem_range.2 hs)
    have hout : ∀ s, s < outs.length → 0 ≤ outs.getD s 0 ∧ outs.getD s 0 ≤ 64 ∧ ((uses.getD s []).length : Int) = outs.getD s 0 := fun s hs => by
      have := hoks s hs
      simp only [okS, okA, Bool.and_eq_true, decide_eq_true_eq] at this
      exact ⟨this.1.1.1.1, this.1.1.1.2, this.1.1.2⟩
    have hlen : ∀ s k, s < outs.length → k < (uses.getD s []).length → ((uses.getD s []).getD k []).length ≤ maxLen := fun s k hs hk => by
      have := ((hw4 _ (mem_getD [] (show s < uses.length by omega))).2 _ (mem_getD [] hk)).1
      exact this
    have hI : ∀ s k i, s < outs.length → k < (uses.getD s []).length → i < ((uses.getD s []).getD k []).length → 0 ≤ ((uses.getD s []).getD k []).getD i 0 ∧ ((uses.getD s []).getD k []).getD i 0 < (frm.getD s []).length := fun s k i hs hk hi => by
      have := hoks s hs
      simp only [okS, Bool.and_eq_true, List.all_eq_true] at this
      have := this.1.2 _ (mem_getD [] hk) _ (mem_getD 0 hi)
      simpa only [okI, Bool.and_eq_true, decide_eq_true_eq] using this
    refine tri_skip (at_next (tri_seq (tri_region hF [0, 1, 2, 8] ?_)))
    simp only [go_sem]
    refine at_next (tri_seq (tri_regionB hF [0, 1, 2, 8, 9] ?_))
    simp only [go_sem]
    refine at_next (tri_seq (tri_region hF [0, 1, 2, 8, 9, 10] ?_))
    simp only [go_sem]
    refine at_nilrow 8 30 (.arr 2 (.i .i64)) rfl ?_
    simp only [go_sem]
    refine at_next (tri_seq (tri_seq (tri_region hF [0, 1, 2, 8, 9, 10, 24, 25, 26] ?_)))
    simp only [go_sem]
    repeat (refine ⟨by (intros; first | omega | assumption | decide), ?_⟩)
    refine at_next (tri_block (tri_loopU (D := Int) [0, 1, 2, 8, 9, 24, 25] (fun s => 0 ≤ s ∧ s ≤ outs.length ∧ 0 ≤ sumI (outs.take s.toNat) ∧ sumI (outs.take s.toNat) ≤ 64 * s) (fun s => (outs.length - s).toNat) (fun s => [(10, .val (.i .i64) (sumI (outs.take s.toNat))), (26, .val (.i .i64) s)]) (fun s => []) (at_fit (0) ?_ rfl ?_) ?_))
    · simp [sumI]
    · simp only [fitE, fitV, true_or, and_self, go_sem]
      simp [sumI]
    rintro s ⟨hs0, hs1, hs2, hs3⟩
    simp only [go_sem]
    refine tri_seq (tri_region hF [0, 1, 2, 8, 9, 10, 24, 25, 26, 27] ?_)
    simp only [go_sem]
    refine at_next (tri_seq (tri_cond rfl (fun hc => ?_) (fun hc => ?_)))
    · try simp only [go_sem] at hc
      have hsn : s.toNat < outs.length := by omega
      have hstep : sumI (outs.take (s.toNat + 1)) = sumI (outs.take s.toNat) + outs.getD s.toNat 0 := by
        rw [List.take_succ_eq_append_getElem hsn, sumI, List.foldl_append, List.getD_eq_getElem?_getD, List.getElem?_eq_getElem hsn]; rfl
      have hb := hout s.toNat hsn
      refine tri_skip (at_next (tri_seq (tri_block (tri_seq (tri_region hF [0, 1, 2, 8, 9, 10, 12, 24, 25, 26] ?_)))))
      simp only [go_sem]
      repeat (refine ⟨by (intros; first | omega | assumption | decide), ?_⟩)
      refine at_next (tri_region hF [0, 1, 2, 8, 9, 10, 24, 25, 26] ?_)
      simp only [go_sem]
      repeat (refine ⟨by (intros; first | omega | assumption | decide), ?_⟩)
      refine at_block_norm (at_next (tri_region hF [0, 1, 2, 8, 9, 10, 24, 25, 26] ?_))
      simp only [go_sem]
      repeat (refine ⟨by (intros; first | omega | assumption | decide), ?_⟩)
      refine at_then_norm (at_fit (s + 1) ?_ rfl ?_)
      · refine ⟨⟨by omega, by omega, ?_, ?_⟩, by omega⟩ <;> (rw [show (s + 1).toNat = s.toNat + 1 from by omega, hstep]; omega)
      · rw [show (s + 1).toNat = s.toNat + 1 from by omega, hstep]
        simp only [fitE, fitV, true_or, and_self, go_sem]
    · try simp only [go_sem] at hc
      have hall : outs.take s.toNat = outs := List.take_of_length_le (by omega)
      rw [hall] at hs2 hs3
      simp only [hall]
      have hsum : sumI outs ≤ 1024 := by omega
      clear hall hc hs0 hs1 hs3
      refine tri_exit (at_then_exit (at_then_exit (at_block_exit (at_next (tri_seq (tri_label (at_next (tri_seq (tri_block (tri_loopU (D := List (List Int) × List (List Int × Bool)) [0, 1, 2, 9, 10] (fun d => ordF outs uses frm [] = ordF outs uses frm d.1 ∧ d.1.length ≤ sumI outs ∧ MapR d.2 d.1) (fun d => (sumI outs - d.1.length).toNat) (fun d => [(8, .own 1)]) (fun d => [(0, .map (.arr 2 (.i .i64)) .bool d.2), (1, .row 30 (.arr 2 (.i .i64)) d.1)]) (at_fit (([], [])) ?_ rfl ?_) ?_))))))))))
      · exact ⟨rfl, by simpa using hs2, MapR_start⟩
      · simp only [fitE, fitV, true_or, and_self, go_sem]
      rintro ⟨out, m⟩ ⟨ho1, ho2, ho3⟩
      simp only [go_sem]
      simp only at ho1 ho2 ho3
      refine tri_seq (tri_seq (tri_region hF [0, 1, 2, 8, 9, 10, 37] ?_))
      simp only [go_sem]
      repeat (refine ⟨by (intros; first | omega | assumption | decide), ?_⟩)
      refine at_next (tri_cond rfl (fun hc => ?_) (fun hc => ?_))
      · try simp only [go_sem] at hc
        have hmore := ordF_more (outs := outs) (uses := uses) (frm := frm) (out := out) (by simpa using hc)
        refine tri_skip (at_next (tri_block (tri_seq (tri_seq (tri_region hF [0, 1, 2, 8, 9, 10, 38, 39, 40] ?_)))))
        simp only [go_sem]
        repeat (refine ⟨by (intros; first | omega | assumption | decide), ?_⟩)
        refine at_next (tri_block (tri_loopU (D := Int) [0, 1, 2, 9, 10, 38, 39] (fun s => 0 ≤ s ∧ s ≤ outs.length ∧ (List.range s.toNat).findSome? (rowP outs uses frm out) = none) (fun s => (outs.length - s).toNat) (fun s => [(8, .own 1), (40, .val (.i .i64) s)]) (fun s => []) (at_fit (0) ?_ rfl ?_) ?_))
        · exact ⟨Int.le_refl _, by omega, rfl⟩
        · simp only [fitE, fitV, true_or, and_self, go_sem]
        rintro s ⟨hs0, hs1, hn⟩
        simp only [go_sem]
        refine tri_seq (tri_region hF [0, 1, 2, 8, 9, 10, 38, 39, 40, 41] ?_)
        simp only [go_sem]
        refine at_next (tri_seq (tri_cond rfl (fun hc => ?_) (fun hc => ?_)))
        · try simp only [go_sem] at hc
          have hsn : s.toNat < outs.length := by omega
          have hb := hout s.toNat hsn
          refine tri_skip (at_next (tri_seq (tri_block (tri_seq (tri_region hF [0, 1, 2, 8, 9, 10, 13, 14, 38, 39, 40] ?_)))))
          simp only [go_sem]
          repeat (refine ⟨by (intros; first | omega | assumption | decide), ?_⟩)
          refine at_next (tri_scope (tri_seq (tri_label (at_next (tri_seq (tri_region hF [0, 1, 2, 8, 9, 10, 13, 38, 39, 40, 45, 46] ?_))))))
          simp only [go_sem]
          refine at_next (tri_block (tri_loopU (D := Int) [0, 1, 2, 9, 10, 13, 38, 39, 40, 45] (fun k => 0 ≤ k ∧ k ≤ outs.getD s.toNat 0 ∧ (List.range k.toNat).find? (rdy uses frm out s.toNat) = none) (fun k => (outs.getD s.toNat 0 - k).toNat) (fun k => [(8, .own 1), (46, .val (.i .i64) k)]) (fun k => []) (at_fit (0) ?_ rfl ?_) ?_))
          · exact ⟨Int.le_refl _, hb.1, rfl⟩
          · simp only [fitE, fitV, true_or, and_self, go_sem]
          rintro k ⟨hk0, hk1, hn2⟩
          simp only [go_sem]
          refine tri_seq (tri_region hF [0, 1, 2, 8, 9, 10, 13, 38, 39, 40, 45, 46, 47] ?_)
          simp only [go_sem]
          refine at_next (tri_seq (tri_cond rfl (fun hc => ?_) (fun hc => ?_)))
          · try simp only [go_sem] at hc
            have hkn : k.toNat < (uses.getD s.toNat []).length := by omega
            have hlk := hlen s.toNat k.toNat hsn hkn
            simp only [maxLen_eq] at hlk
            have hsk := ho3.2 [s, k] rfl
            have hfail : rdy uses frm out s.toNat k.toNat = false → (List.range (k + 1).toNat).find? (rdy uses frm out s.toNat) = none := fun h => by
              rw [show (k + 1).toNat = k.toNat + 1 from by omega]
              exact find_step _ hn2 h
            refine tri_skip (at_next (tri_seq (tri_block (tri_seq (tri_region hF [0, 1, 2, 8, 9, 10, 13, 15, 38, 39, 40, 45, 46] ?_)))))
            simp only [go_sem]
            refine at_next (tri_seq (tri_seq (tri_region hF [0, 1, 2, 8, 9, 10, 13, 15, 38, 39, 40, 45, 46, 53] ?_)))
            simp only [go_sem]
            repeat (refine ⟨by (intros; first | omega | assumption | decide), ?_⟩)
            simp only [hsk]
            refine at_next (tri_cond rfl (fun hc => ?_) (fun hc => ?_))
            · try simp only [go_sem] at hc
              have hf := hfail (by simp only [rdy, Int.toNat_of_nonneg hs0, Int.toNat_of_nonneg hk0, hc, Bool.not_true, Bool.false_and])
              refine tri_exit (at_then_exit (at_block_exit (at_next (tri_region hF [0, 1, 2, 8, 9, 10, 13, 38, 39, 40, 45, 46] ?_))))
              simp only [go_sem]
              repeat (refine ⟨by (intros; first | omega | assumption | decide), ?_⟩)
              refine at_then_norm (at_fit (k + 1) ?_ rfl ?_)
              · exact ⟨⟨by omega, by omega, hf⟩, by omega⟩
              · simp only [fitE, fitV, true_or, and_self, go_sem]
            · try simp only [go_sem] at hc
              have hnc := hc
              refine tri_skip (at_next (tri_seq (tri_seq (tri_region hF [0, 1, 2, 8, 9, 10, 13, 15, 38, 39, 40, 45, 46, 60, 61, 62] ?_))))
              simp only [go_sem]
              repeat (refine ⟨by (intros; first | omega | assumption | decide), ?_⟩)
              refine at_next (tri_block (tri_loopU (D := Int) [0, 1, 2, 8, 9, 10, 13, 15, 38, 39, 40, 45, 46, 60, 61] (fun i => 0 ≤ i ∧ i ≤ ((uses.getD s.toNat []).getD k.toNat []).length ∧ (((uses.getD s.toNat []).getD k.toNat []).take i.toNat).all (fun i => out.contains ((frm.getD s.toNat []).getD i.toNat (List.replicate 2 0))) = true) (fun i => (((uses.getD s.toNat []).getD k.toNat []).length - i).toNat) (fun i => [(62, .val (.i .i64) i)]) (fun i => []) (at_fit (0) ?_ rfl ?_) ?_))
              · exact ⟨Int.le_refl _, by omega, rfl⟩
              · simp only [fitE, fitV, true_or, and_self, go_sem]
              rintro i ⟨hi0, hi1, hi2⟩
              simp only [go_sem]
              refine tri_seq (tri_region hF [0, 1, 2, 8, 9, 10, 13, 15, 38, 39, 40, 45, 46, 60, 61, 62, 63] ?_)
              simp only [go_sem]
              refine at_next (tri_seq (tri_cond rfl (fun hc => ?_) (fun hc => ?_)))
              · try simp only [go_sem] at hc
                have hin : i.toNat < ((uses.getD s.toNat []).getD k.toNat []).length := by omega
                have hIi := hI s.toNat k.toNat i.toNat hsn hkn hin
                have hL : (frm.getD s.toNat []).getD (((uses.getD s.toNat []).getD k.toNat []).getD i.toNat 0).toNat (List.replicate 2 0) ∈ frm.getD s.toNat [] := mem_getD _ (by omega)
                have hL := ((hw6 _ (mem_getD [] (show s.toNat < frm.length by omega))).2 _ hL).1
                have hsk2 := ho3.2 _ hL
                refine tri_skip (at_next (tri_seq (tri_block (tri_seq (tri_region hF [0, 1, 2, 8, 9, 10, 13, 15, 17, 38, 39, 40, 45, 46, 60, 61, 62] ?_)))))
                simp only [go_sem]
                repeat (refine ⟨by (intros; first | omega | assumption | decide), ?_⟩)
                refine at_next (tri_seq (tri_region hF [0, 1, 2, 8, 9, 10, 13, 15, 38, 39, 40, 45, 46, 60, 61, 62, 75] ?_))
                simp only [go_sem]
                repeat (refine ⟨by (intros; first | omega | assumption | decide), ?_⟩)
                simp only [hsk2]
                refine at_next (tri_cond rfl (fun hc => ?_) (fun hc => ?_))
                · try simp only [go_sem] at hc
                  have hf := hfail (by
                    rw [rdy, all_false _ _ i.toNat 0 hin (by simpa using hc), Bool.and_false])
                  refine tri_exit (at_block_other (by decide) (at_then_exit (at_then_exit (at_block_other (by decide) (at_then_exit (at_block_exit (at_next (tri_region hF [0, 1, 2, 8, 9, 10, 13, 38, 39, 40, 45, 46] ?_))))))))
                  simp only [go_sem]
                  repeat (refine ⟨by (intros; first | omega | assumption | decide), ?_⟩)
                  refine at_then_norm (at_fit (k + 1) ?_ rfl ?_)
                  · exact ⟨⟨by omega, by omega, hf⟩, by omega⟩
                  · simp only [fitE, fitV, true_or, and_self, go_sem]
                · try simp only [go_sem] at hc
                  refine tri_skip (at_block_norm (at_next (tri_region hF [0, 1, 2, 8, 9, 10, 13, 15, 38, 39, 40, 45, 46, 60, 61, 62] ?_)))
                  simp only [go_sem]
                  repeat (refine ⟨by (intros; first | omega | assumption | decide), ?_⟩)
                  refine at_then_norm (at_fit (i + 1) ?_ rfl ?_)
                  · refine ⟨⟨by omega, by omega, ?_⟩, by omega⟩
                    rw [show (i + 1).toNat = i.toNat + 1 from by omega, all_step _ _ _ 0 hin, hi2, Bool.true_and]; simpa using hc
                  · simp only [fitE, fitV, true_or, and_self, go_sem]
              · try simp only [go_sem] at hc
                have hrd : rdy uses frm out s.toNat k.toNat = true := by
                  rw [rdy, Int.toNat_of_nonneg hs0, Int.toNat_of_nonneg hk0, hnc, ← hi2, all_end _ _ _ (by omega)]; rfl
                have hnx := next_at hsn hn (show ((k.toNat : Nat) : Int) < outs.getD s.toNat 0 by omega) hn2 hrd
                rw [Int.toNat_of_nonneg hs0, Int.toNat_of_nonneg hk0] at hnx
                rw [hnx] at hmore
                have hput := MapR_put ho3 (x := [s, k]) rfl
                refine tri_exit (at_then_exit (at_then_exit (at_block_exit (at_next (tri_seq (tri_regionB hF [0, 1, 2, 8, 9, 10, 13, 15] ?_))))))
                simp only [go_sem]
                repeat (refine ⟨by (intros; first | omega | assumption | decide), ?_⟩)
                refine at_next (tri_seq (tri_regionB hF [0, 1, 2, 8, 9, 10] ?_))
                simp only [go_sem]
                repeat (refine ⟨by (intros; first | omega | assumption | decide), ?_⟩)
                refine at_next (tri_exit (at_block_other (by decide) (at_then_exit (at_then_exit (at_block_other (by decide) (at_scope_exit (at_block_other (by decide) (at_then_exit (at_then_exit (at_block_other (by decide) (at_then_exit (at_block_exit (at_then_norm (at_ren [0, 2] rfl ?_))))))))))))))
                simp only [ren, ren1, renO, posOf, posAll, go_sem]
                refine at_fit ((out ++ [[s, k]], mput KT m [s, k] true)) ?_ rfl ?_
                · exact ⟨⟨by rw [ho1, hmore], by simp; omega, hput⟩, by simp; omega⟩
                · simp only [fitE, fitV, true_or, and_self, go_sem]
          · try simp only [go_sem] at hc
            refine tri_exit (at_then_exit (at_then_exit (at_block_exit (at_scope_norm (at_block_norm (at_next (tri_region hF [0, 1, 2, 8, 9, 10, 38, 39, 40] ?_)))))))
            simp only [go_sem]
            repeat (refine ⟨by (intros; first | omega | assumption | decide), ?_⟩)
            refine at_then_norm (at_fit (s + 1) ?_ rfl ?_)
            · refine ⟨⟨by omega, by omega, ?_⟩, by omega⟩
              rw [show (s + 1).toNat = s.toNat + 1 from by omega]
              refine some_step _ hn ?_
              rw [rowP, show (outs.getD s.toNat 0).toNat = k.toNat from by omega, hn2]; rfl
            · simp only [fitE, fitV, true_or, and_self, go_sem]
        · try simp only [go_sem] at hc
          have hnone : nextP outs uses frm out = none := by
            rw [nextP, show outs.length = s.toNat from by omega]; exact hn
          refine tri_exit (at_then_exit (at_then_exit (at_block_exit (at_next (tri_seq (tri_region hF [6, 7] ?_))))))
          simp only [go_sem]
          refine at_next (tri_ret (at_block_ret (at_then_ret (at_block_ret (at_then_ret (at_scope_ret (at_ren [] rfl ?_)))))))
          simp only [ren, ren1, renO, posOf, posAll, go_sem]
          refine at_ret [6, 7] rfl rfl ?_
          simp only [retOK, go_sem]
          rw [ordT, if_pos hm, ho1, hmore, hnone]
      · try simp only [go_sem] at hc
        refine tri_exit (at_then_exit (at_then_exit (at_block_exit (at_next (tri_seq (tri_region hF [6, 7] ?_))))))
        simp only [go_sem]
        refine at_next (tri_ret (at_scope_ret (at_ret [6, 7] rfl rfl ?_)))
        simp only [retOK, go_sem]
        rw [ordT, if_pos hm, ho1, ordF_end (by omega)]

end Gr
end Go.Proofs
