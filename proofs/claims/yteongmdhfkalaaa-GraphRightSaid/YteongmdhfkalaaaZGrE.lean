import Derived.Test.YteongmdhfkalaaaZGrD
namespace Go.Proofs
open Go.Vc
set_option linter.unusedVariables false
set_option linter.unusedSimpArgs false
namespace Gr

def tab2 : List (TypeId × Ty) := [(31, .arr 64 (.i .i64)), (32, .arr 16 (.arr 64 (.i .i64))), (34, .arr 64 .bool), (35, .arr 16 (.arr 64 .bool))] ++ tab
theorem tab2OK : TabOK Try.prog (look2 tab2) := tabOK_of (by kernel_rfl)
theorem el2OK : ∀ t ct, look2 tab2 t = some (.sl ct) → Try.prog.underlying t = some (.slice (elT t)) := by
  intro t ct h
  have := look2_mem h
  simp only [tab2, tab, List.cons_append, List.nil_append, List.mem_cons, Prod.mk.injEq, reduceCtorEq, and_false, false_or, List.not_mem_nil, or_false] at this
  rcases this with ⟨rfl, _⟩ | ⟨rfl, _⟩ | ⟨rfl, _⟩ | ⟨rfl, _⟩ | ⟨rfl, _⟩ <;> rfl
def EM (l : List (FuncId × FSpec)) : Env := ⟨look2 tab2, fun _ => .junk, fun f _ => gam l f, elT, mpT⟩
def TM : Tab := look2 tab2
theorem EM_T (l : List (FuncId × FSpec)) (t : TypeId) : (EM l).T t = TM t := rfl
theorem EM_G (l : List (FuncId × FSpec)) (t : Nat) : (EM l).G t = .junk := rfl
theorem EM_Γ (l : List (FuncId × FSpec)) (f : FuncId) (vs : List AV) : (EM l).Γ f vs = gam l f := rfl
theorem EM_mp (l : List (FuncId × FSpec)) (t : TypeId) : (EM l).mp t = mpT t := rfl
theorem EM_el (l : List (FuncId × FSpec)) (t : TypeId) : (EM l).el t = elT t := rfl
theorem EM_ok {l : List (FuncId × FSpec)} (h : Known Try.prog (fun _ => .junk) l) : EnvOK Try.prog (EM l) := envOK_of tab2OK el2OK mpOK h
theorem U3 : TM 3 = some (.i .i64) := rfl
theorem U4 : TM 4 = some .bool := rfl
theorem U22 : TM 22 = some (.sl (.i .i64)) := rfl
theorem U23 : TM 23 = some (.sl (.sl (.sl (.i .i64)))) := rfl
theorem U24 : TM 24 = some (.sl (.sl (.arr 2 (.i .i64)))) := rfl
theorem U27 : TM 27 = some (.sl (.arr 2 (.i .i64))) := rfl
theorem U30 : TM 30 = some (.arr 2 (.i .i64)) := rfl
theorem U31 : TM 31 = some (.arr 64 (.i .i64)) := rfl
theorem U32 : TM 32 = some (.arr 16 (.arr 64 (.i .i64))) := rfl
theorem U33 : TM 33 = some (.sl (.sl (.i .i64))) := rfl
theorem U34 : TM 34 = some (.arr 64 .bool) := rfl
theorem U35 : TM 35 = some (.arr 16 (.arr 64 .bool)) := rfl

/-- may this output be told now? -/
def rdy (uses frm : List (List (List Int))) (out : List (List Int)) (s k : Nat) : Bool :=
  !(out.contains [(s : Int), (k : Int)]) && ((uses.getD s []).getD k []).all (fun i => out.contains ((frm.getD s []).getD i.toNat (List.replicate 2 0)))
/-- the first that may -/
def rowP (outs : List Int) (uses frm : List (List (List Int))) (out : List (List Int)) (s : Nat) : Option (List Int) :=
  ((List.range (outs.getD s 0).toNat).find? (rdy uses frm out s)).map fun (k : Nat) => [(s : Int), (k : Int)]
def nextP (outs : List Int) (uses frm : List (List (List Int))) (out : List (List Int)) : Option (List Int) := (List.range outs.length).findSome? (rowP outs uses frm out)
def ordGo (outs : List Int) (uses frm : List (List (List Int))) (all : Int) : Nat → List (List Int) → List (List Int) × Int
  | 0, out => (out, 0)
  | n + 1, out => if (out.length : Int) < all then match nextP outs uses frm out with
    | some p => ordGo outs uses frm all n (out ++ [p])
    | none => ([], 7)
    else (out, 0)
def sumI (l : List Int) : Int := l.foldl (· + ·) 0
def ordF (outs : List Int) (uses frm : List (List (List Int))) (out : List (List Int)) : List (List Int) × Int := ordGo outs uses frm (sumI outs) (sumI outs - out.length).toNat out
def ordT (outs : List Int) (uses frm : List (List (List Int))) : List (List Int) × Int × Unit :=
  if mayG outs uses frm = true then ((ordF outs uses frm []).1, (ordF outs uses frm []).2, ()) else ([], 1, ())

theorem ordF_more {outs : List Int} {uses frm : List (List (List Int))} {out : List (List Int)} (h : (out.length : Int) < sumI outs) : ordF outs uses frm out = match nextP outs uses frm out with
    | some p => ordF outs uses frm (out ++ [p])
    | none => ([], 7) := by
  unfold ordF
  have e : (sumI outs - out.length).toNat = (sumI outs - (out.length + 1 : Nat)).toNat + 1 := by omega
  rw [e, ordGo, if_pos h]
  cases nextP outs uses frm out with
  | none => rfl
  | some p => simp
theorem ordF_end {outs : List Int} {uses frm : List (List (List Int))} {out : List (List Int)} (h : ¬ (out.length : Int) < sumI outs) : ordF outs uses frm out = (out, 0) := by
  unfold ordF
  rw [show (sumI outs - out.length).toNat = 0 from by omega]; rfl

attribute [go_sem] U3 U4 U22 U23 U24 U27 U30 U31 U32 U33 U34 U35 EM_T EM_G EM_Γ EM_el EM_mp mpT
def sp10 : FSpec := ⟨args3, .one .bool, fun _ => True, fun x => mayG x.1 x.2.1 x.2.2.1⟩
def gl4 : List (FuncId × FSpec) := [(10, sp10)]
theorem G4_10 : gam gl4 10 = some ⟨.pair (.sl (.i .i64)) (.pair (.sl (.sl (.sl (.i .i64)))) (.pair (.sl (.sl (.arr 2 (.i .i64)))) .unit)), .one .bool, fun _ => True, fun x => mayG x.1 x.2.1 x.2.2.1⟩ := rfl
theorem K10 : Known Try.prog (fun _ => .junk) gl4 := .cons MayGraph_ok (by kernel_rfl) .nil

theorem G10 : gam gl4 10 = some sp10 := rfl
attribute [go_sem] G10 sp10 elT
/-- the table of what has been told -/
def DoneR (dn : List (List Bool)) (out : List (List Int)) : Prop :=
  dn.length = 16 ∧ (∀ s, s < 16 → (dn.getD s (List.replicate 64 false)).length = 64) ∧ ∀ s k, s < 16 → k < 64 → (dn.getD s (List.replicate 64 false)).getD k false = out.contains [(s : Int), (k : Int)]
theorem getD_rep {α : Type} (n k : Nat) (x d : α) (h : k < n) : (List.replicate n x).getD k d = x := by
  rw [List.getD_eq_getElem?_getD, List.getElem?_replicate, if_pos h]; rfl
theorem DoneR_start : DoneR (List.replicate 16 (List.replicate 64 false)) [] := by
  refine ⟨by simp, fun s hs => ?_, fun s k hs hk => ?_⟩
  · rw [getD_rep _ _ _ _ hs]; simp
  · rw [getD_rep _ _ _ _ hs, getD_rep _ _ _ _ hk]; rfl

theorem find_at (p : Nat → Bool) {n k : Nat} (h0 : (List.range k).find? p = none) (hk : k < n) (hp : p k = true) : (List.range n).find? p = some k := by
  induction n with
  | zero => omega
  | succ n ih =>
    rw [List.range_succ, List.find?_append]
    rcases Nat.lt_or_ge k n with h | h
    · rw [ih h]; rfl
    · obtain rfl : k = n := by omega
      rw [h0]; simp [hp]
theorem find_step (p : Nat → Bool) {k : Nat} (h0 : (List.range k).find? p = none) (hp : p k = false) : (List.range (k + 1)).find? p = none := by
  rw [List.range_succ, List.find?_append, h0]; simp [hp]
theorem some_at {α : Type} (p : Nat → Option α) {n k : Nat} {v : α} (h0 : (List.range k).findSome? p = none) (hk : k < n) (hp : p k = some v) : (List.range n).findSome? p = some v := by
  induction n with
  | zero => omega
  | succ n ih =>
    rw [List.range_succ, List.findSome?_append]
    rcases Nat.lt_or_ge k n with h | h
    · rw [ih h]; rfl
    · obtain rfl : k = n := by omega
      rw [h0]; simp [hp]
theorem some_step {α : Type} (p : Nat → Option α) {k : Nat} (h0 : (List.range k).findSome? p = none) (hp : p k = none) : (List.range (k + 1)).findSome? p = none := by
  rw [List.range_succ, List.findSome?_append, h0]; simp [hp]
theorem next_at {outs : List Int} {uses frm : List (List (List Int))} {out : List (List Int)} {s k : Nat} (hs : s < outs.length) (hn : (List.range s).findSome? (rowP outs uses frm out) = none) (hk : (k : Int) < outs.getD s 0) (hn2 : (List.range k).find? (rdy uses frm out s) = none) (hr : rdy uses frm out s k = true) : nextP outs uses frm out = some [(s : Int), (k : Int)] := by
  refine some_at _ hn hs ?_
  rw [rowP, find_at _ hn2 (by omega) hr]; rfl
theorem DoneR_set {dn : List (List Bool)} {out : List (List Int)} (h : DoneR dn out) {s k : Nat} (hs : s < 16) (hk : k < 64) : DoneR (dn.set s ((dn.getD s (List.replicate 64 false)).set k true)) (out ++ [[(s : Int), (k : Int)]]) := by
  obtain ⟨h1, h2, h3⟩ := h
  have hget : ∀ s', s' < 16 → (dn.set s ((dn.getD s (List.replicate 64 false)).set k true)).getD s' (List.replicate 64 false) = if s = s' then (dn.getD s (List.replicate 64 false)).set k true else dn.getD s' (List.replicate 64 false) := fun s' hs' => by
    simp only [List.getD_eq_getElem?_getD, List.getElem?_set]
    by_cases e : s = s'
    · subst e; rw [if_pos rfl, if_pos (by omega), if_pos rfl]; rfl
    · rw [if_neg e, if_neg e]
  refine ⟨by rw [List.length_set, h1], fun s' hs' => ?_, fun s' k' hs' hk' => ?_⟩
  · rw [hget s' hs']
    split
    · rw [List.length_set]; exact h2 s hs
    · exact h2 s' hs'
  · rw [hget s' hs', List.contains_append]
    have hc : (List.contains [[(s : Int), (k : Int)]] [(s' : Int), (k' : Int)]) = (decide (s = s') && decide (k = k')) := by
      rw [Bool.eq_iff_iff]; simp only [List.contains_cons, List.contains_nil, Bool.or_false, beq_iff_eq, List.cons.injEq, Int.natCast_inj, and_true, Bool.and_eq_true, decide_eq_true_eq]; exact ⟨fun h => ⟨h.1.symm, h.2.symm⟩, fun h => ⟨h.1.symm, h.2.symm⟩⟩
    rw [hc]
    by_cases e : s = s'
    · subst e
      simp only [if_true, decide_true, Bool.true_and]
      by_cases e2 : k = k'
      · subst e2
        simp only [decide_true, Bool.or_true]
        rw [List.getD_eq_getElem?_getD, List.getElem?_set, if_pos rfl, if_pos (by rw [h2 s hs]; exact hk)]; rfl
      · simp only [e2, decide_false, Bool.or_false]
        rw [← h3 s k' hs hk', List.getD_eq_getElem?_getD, List.getElem?_set, if_neg e2, ← List.getD_eq_getElem?_getD]
    · simp only [e, decide_false, Bool.false_and, Bool.or_false, if_false]
      exact h3 s' k' hs' hk'

theorem sq_pair {o : List Int} (h : o.length = 2) (h0 : 0 ≤ o.getD 0 0) (h1 : 0 ≤ o.getD 1 0) : [(((o.getD 0 0).toNat : Nat) : Int), (((o.getD 1 0).toNat : Nat) : Int)] = o := by
  match o, h with
  | [a, b], _ =>
    simp only [List.getD_cons_zero, List.getD_cons_succ] at h0 h1 ⊢
    rw [Int.toNat_of_nonneg h0, Int.toNat_of_nonneg h1]

theorem RefOrder_ok : FOK Try.prog (fun _ => .junk) 9 ⟨args3, .tup (.pair (.sl (.arr 2 (.i .i64))) (.pair (.i .i64) .unit)), fun _ => True, fun x => ordT x.1 x.2.1 x.2.2.1⟩ := by
  refine fok_of (EM_ok K10) Try.func9 rfl (by kernel_rfl) (by decide) fun w0 S x hw _ => ?_
  obtain ⟨(outs : List Int), (uses : List (List (List Int))), (frm : List (List (List Int))), u⟩ := x
  simp only [args3, Ty.wf] at hw
  obtain ⟨⟨hw1, hw2⟩, ⟨hw3, hw4⟩, ⟨hw5, hw6⟩, _⟩ := hw
  have hF : FrOK ⟨Try.prog, EM gl4, ⟨nothing, S⟩, w0, Try.f9.ntmps⟩ := ⟨EM_ok K10, mix⟩
  simp only [args0, args3]
  refine tri_seq (tri_region hF [0, 1, 2] ?_)
  simp only [go_sem]
  refine at_next (tri_seq (tri_seq (tri_region hF [0, 1, 2, 22] ?_)))
  simp only [go_sem]
  repeat (refine ⟨by (intros; first | omega | assumption | decide), ?_⟩)
  refine at_next (tri_cond rfl (fun hc => ?_) (fun hc => ?_))
  · try simp only [go_sem] at hc
    refine tri_seq (tri_region hF [6, 7] ?_)
    simp only [go_sem]
    refine at_next (tri_ret (at_then_ret (at_ret [6, 7] rfl rfl ?_)))
    simp only [retOK, go_sem]
    simp only [ordT, hc, Bool.false_eq_true, if_false]
  · try simp only [go_sem] at hc
    have hmay := hc
    clear hc
    have hm : mayG outs uses frm = true := hmay
    simp only [mayG, Bool.and_eq_true, decide_eq_true_eq] at hmay
    obtain ⟨⟨⟨hl1, hl2⟩, hl3⟩, hl4⟩ := hmay
    have hoks : ∀ s, s < outs.length → okS outs uses frm s = true := fun s hs => List.all_eq_true.1 hl4 s (List.mem_range.2 hs)
    have hout : ∀ s, s < outs.length → 0 ≤ outs.getD s 0 ∧ outs.getD s 0 ≤ 64 ∧ ((uses.getD s []).length : Int) = outs.getD s 0 := fun s hs => by
      have := hoks s hs
      simp only [okS, okA, Bool.and_eq_true, decide_eq_true_eq] at this
      exact ⟨this.1.1.1.1, this.1.1.1.2, this.1.1.2⟩
    have hlen : ∀ s k, s < outs.length → k < (uses.getD s []).length → ((uses.getD s []).getD k []).length ≤ maxLen := fun s k hs hk => by
      have := ((hw4 _ (mem_getD [] (show s < uses.length by omega))).2 _ (mem_getD [] hk)).1
      exact this
    have hI : ∀ s k i, s < outs.length → k < (uses.getD s []).length → i < ((uses.getD s []).getD k []).length → 0 ≤ ((uses.getD s []).getD k []).getD i 0 ∧ ((uses.getD s []).getD k []).getD i 0 < (frm.getD s []).length := fun s k i hs hk hi => by
      have := hoks s hs
      simp only [okS, Bool.and_eq_true, List.all_eq_true] at this
      have := this.1.2 _ (mem_getD [] hk) _ (mem_getD 0 hi)
      simpa only [okI, Bool.and_eq_true, decide_eq_true_eq] using this
    have hX : ∀ s i, s < outs.length → i < (frm.getD s []).length → (0 ≤ ((frm.getD s []).getD i (List.replicate 2 0)).getD 0 0 ∧ ((frm.getD s []).getD i (List.replicate 2 0)).getD 0 0 < 16) ∧ 0 ≤ ((frm.getD s []).getD i (List.replicate 2 0)).getD 1 0 ∧ ((frm.getD s []).getD i (List.replicate 2 0)).getD 1 0 < 64 := fun s i hs hi => by
      have := hoks s hs
      simp only [okS, Bool.and_eq_true, List.all_eq_true] at this
      have := this.2 _ (mem_getD (List.replicate 2 0) hi)
      simp only [okX, Bool.and_eq_true, decide_eq_true_eq] at this
      have h2 := hout _ (show (((frm.getD s []).getD i (List.replicate 2 0)).getD 0 0).toNat < outs.length by omega)
      omega
    refine tri_skip (at_next (tri_seq (tri_region hF [0, 1, 2, 8] ?_)))
    simp only [go_sem]
    refine at_next (tri_seq (tri_regionB hF [0, 1, 2, 8, 9] ?_))
    simp only [go_sem]
    repeat (refine ⟨by (intros; first | omega | assumption | decide), ?_⟩)
    refine at_next (tri_seq (tri_seq (tri_region hF [0, 1, 2, 8, 9, 10] ?_)))
    simp only [go_sem]
    refine at_next (tri_block (tri_loopU (D := Int) [0, 1, 2, 9] (fun s => 0 ≤ s ∧ s ≤ outs.length ∧ 0 ≤ sumI (outs.take s.toNat) ∧ sumI (outs.take s.toNat) ≤ 64 * s) (fun s => (outs.length - s).toNat) (fun s => [(8, .val (.i .i64) (sumI (outs.take s.toNat))), (10, .val (.i .i64) s)]) (fun s => []) (at_fit (0) ?_ rfl ?_) ?_))
    · simp [sumI]
    · simp only [fitE, fitV, true_or, and_self, go_sem]
      simp [sumI]
    rintro s ⟨hs0, hs1, hs2, hs3⟩
    simp only [go_sem]
    refine tri_seq (tri_seq (tri_region hF [0, 1, 2, 8, 9, 10, 26] ?_))
    simp only [go_sem]
    repeat (refine ⟨by (intros; first | omega | assumption | decide), ?_⟩)
    refine at_next (tri_cond rfl (fun hc => ?_) (fun hc => ?_))
    · try simp only [go_sem] at hc
      have hsn : s.toNat < outs.length := by omega
      have hstep : sumI (outs.take (s.toNat + 1)) = sumI (outs.take s.toNat) + outs.getD s.toNat 0 := by
        rw [List.take_succ_eq_append_getElem hsn, sumI, List.foldl_append, List.getD_eq_getElem?_getD, List.getElem?_eq_getElem hsn]; rfl
      have hb := hout s.toNat hsn
      refine tri_skip (at_next (tri_seq (tri_block (tri_region hF [0, 1, 2, 8, 9, 10] ?_))))
      simp only [go_sem]
      repeat (refine ⟨by (intros; first | omega | assumption | decide), ?_⟩)
      refine at_block_norm (at_next (tri_region hF [0, 1, 2, 8, 9, 10] ?_))
      simp only [go_sem]
      repeat (refine ⟨by (intros; first | omega | assumption | decide), ?_⟩)
      refine at_then_norm (at_fit (s + 1) ?_ rfl ?_)
      · refine ⟨⟨by omega, by omega, ?_, ?_⟩, by omega⟩ <;> (rw [show (s + 1).toNat = s.toNat + 1 from by omega, hstep]; omega)
      · rw [show (s + 1).toNat = s.toNat + 1 from by omega, hstep]
        simp only [fitE, fitV, true_or, and_self, go_sem]
    · try simp only [go_sem] at hc
      have hall : outs.take s.toNat = outs := List.take_of_length_le (by omega)
      rw [hall] at hs2 hs3
      simp only [hall]
      have hsum : sumI outs ≤ 1024 := by omega
      clear hall hc hs0 hs1 hs3
      refine tri_exit (at_then_exit (at_then_exit (at_block_exit (at_next (tri_seq (tri_region hF [0, 1, 2, 8, 9, 11] ?_))))))
      simp only [go_sem]
      refine at_nilrow 11 30 (.arr 2 (.i .i64)) rfl ?_
      simp only [go_sem]
      refine at_next (tri_seq (tri_block (tri_loopU (D := List (List Int) × List (List Bool)) [0, 1, 2, 8, 9] (fun d => ordF outs uses frm [] = ordF outs uses frm d.1 ∧ d.1.length ≤ sumI outs ∧ DoneR d.2 d.1) (fun d => (sumI outs - d.1.length).toNat) (fun d => [(11, .own 1)]) (fun d => [(0, .box 1024 (.val (.arr 16 (.arr 64 .bool)) d.2)), (1, .row 30 (.arr 2 (.i .i64)) d.1)]) (at_fit (([], List.replicate 16 (List.replicate 64 false))) ?_ rfl ?_) ?_)))
      · exact ⟨rfl, by simpa using hs2, DoneR_start⟩
      · simp only [fitE, fitV, true_or, and_self, go_sem]
      rintro ⟨out, dn⟩ ⟨ho1, ho2, ho3⟩
      simp only [go_sem]
      simp only at ho1 ho2 ho3
      refine tri_seq (tri_seq (tri_region hF [0, 1, 2, 8, 9, 11, 38] ?_))
      simp only [go_sem]
      repeat (refine ⟨by (intros; first | omega | assumption | decide), ?_⟩)
      refine at_next (tri_cond rfl (fun hc => ?_) (fun hc => ?_))
      · try simp only [go_sem] at hc
        have hmore := ordF_more (outs := outs) (uses := uses) (frm := frm) (out := out) (by simpa using hc)
        refine tri_skip (at_next (tri_block (tri_seq (tri_region hF [0, 1, 2, 8, 9, 11, 12] ?_))))
        simp only [go_sem]
        refine at_next (tri_seq (tri_seq (tri_region hF [0, 1, 2, 8, 9, 11, 12, 13] ?_)))
        simp only [go_sem]
        refine at_next (tri_block (tri_loopU (D := Int × Bool × List (List Int) × List (List Bool)) [0, 1, 2, 8, 9] (fun d => 0 ≤ d.1 ∧ d.1 ≤ outs.length ∧ DoneR d.2.2.2 d.2.2.1 ∧ ((d.2.1 = false ∧ d.2.2.1 = out ∧ (List.range d.1.toNat).findSome? (rowP outs uses frm out) = none) ∨ (d.2.1 = true ∧ ∃ p, nextP outs uses frm out = some p ∧ d.2.2.1 = out ++ [p]))) (fun d => (outs.length - d.1).toNat) (fun d => [(11, .own 1), (12, .val .bool d.2.1), (13, .val (.i .i64) d.1)]) (fun d => [(0, .box 1024 (.val (.arr 16 (.arr 64 .bool)) d.2.2.2)), (1, .row 30 (.arr 2 (.i .i64)) d.2.2.1)]) (at_fit ((0, false, out, dn)) ?_ rfl ?_) ?_))
        · exact ⟨Int.le_refl _, by simp, ho3, .inl ⟨rfl, rfl, rfl⟩⟩
        · simp only [fitE, fitV, true_or, and_self, go_sem]
        rintro ⟨s, fnd, out1, dn1⟩ ⟨hs0, hs1, hd, hor⟩
        simp only [go_sem]
        simp only at hs0 hs1 hd hor
        refine tri_seq (tri_seq (tri_region hF [0, 1, 2, 8, 9, 11, 12, 13, 46] ?_))
        simp only [go_sem]
        repeat (refine ⟨by (intros; first | omega | assumption | decide), ?_⟩)
        refine at_next (tri_cond rfl (fun hc => ?_) (fun hc => ?_))
        · try simp only [go_sem] at hc
          rcases hor with ⟨hf, ho, hn⟩ | ⟨hf, _⟩
          case inr => subst hf; simp at hc
          subst hf; subst ho
          have hsn : s.toNat < outs.length := by omega
          have hb := hout s.toNat hsn
          refine tri_skip (at_next (tri_seq (tri_block (tri_seq (tri_region hF [0, 1, 2, 8, 9, 11, 12, 13, 14] ?_)))))
          simp only [go_sem]
          refine at_next (tri_block (tri_loopU (D := Int × Bool × List (List Int) × List (List Bool)) [0, 1, 2, 8, 9, 13] (fun d => 0 ≤ d.1 ∧ d.1 ≤ outs.getD s.toNat 0 ∧ DoneR d.2.2.2 d.2.2.1 ∧ ((d.2.1 = false ∧ d.2.2.1 = out1 ∧ (List.range d.1.toNat).find? (rdy uses frm out1 s.toNat) = none) ∨ (d.2.1 = true ∧ ∃ p, nextP outs uses frm out1 = some p ∧ d.2.2.1 = out1 ++ [p]))) (fun d => (outs.getD s.toNat 0 - d.1).toNat) (fun d => [(11, .own 1), (12, .val .bool d.2.1), (14, .val (.i .i64) d.1)]) (fun d => [(0, .box 1024 (.val (.arr 16 (.arr 64 .bool)) d.2.2.2)), (1, .row 30 (.arr 2 (.i .i64)) d.2.2.1)]) (at_fit ((0, false, out1, dn1)) ?_ rfl ?_) ?_))
          · exact ⟨Int.le_refl _, hb.1, hd, .inl ⟨rfl, rfl, rfl⟩⟩
          · simp only [fitE, fitV, true_or, and_self, go_sem]
          rintro ⟨k, fnd, out2, dn2⟩ ⟨hk0, hk1, hd2, hor2⟩
          simp only [go_sem]
          simp only at hk0 hk1 hd2 hor2
          refine tri_seq (tri_seq (tri_region hF [0, 1, 2, 8, 9, 11, 12, 13, 14, 58] ?_))
          simp only [go_sem]
          repeat (refine ⟨by (intros; first | omega | assumption | decide), ?_⟩)
          refine at_next (tri_cond rfl (fun hc => ?_) (fun hc => ?_))
          · try simp only [go_sem] at hc
            rcases hor2 with ⟨hf, ho, hn2⟩ | ⟨hf, _⟩
            case inr => subst hf; simp at hc
            subst hf; subst ho
            have hkn : k.toNat < (uses.getD s.toNat []).length := by omega
            have hlk := hlen s.toNat k.toNat hsn hkn
            simp only [maxLen_eq] at hlk
            refine tri_skip (at_next (tri_seq (tri_block (tri_seq (tri_region hF [0, 1, 2, 8, 9, 11, 12, 13, 14, 15] ?_)))))
            simp only [go_sem]
            repeat (refine ⟨by (intros; first | omega | assumption | decide), ?_⟩)
            have hdk := hd2.2.2 s.toNat k.toNat (by omega) (by omega)
            simp only [hdk]
            refine at_next (tri_seq (tri_seq (tri_region hF [0, 1, 2, 8, 9, 11, 12, 13, 14, 15, 16] ?_)))
            simp only [go_sem]
            refine at_next (tri_block (tri_loopU (D := Int) [0, 1, 2, 8, 9, 11, 12, 13, 14] (fun i => 0 ≤ i ∧ i ≤ ((uses.getD s.toNat []).getD k.toNat []).length) (fun i => (((uses.getD s.toNat []).getD k.toNat []).length - i).toNat) (fun i => [(15, .val .bool (!(out2.contains [((s.toNat : Nat) : Int), ((k.toNat : Nat) : Int)]) && (((uses.getD s.toNat []).getD k.toNat []).take i.toNat).all (fun i => out2.contains ((frm.getD s.toNat []).getD i.toNat (List.replicate 2 0))))), (16, .val (.i .i64) i)]) (fun i => []) (at_fit (0) ?_ rfl ?_) ?_))
            · exact ⟨Int.le_refl _, by omega⟩
            · simp only [fitE, fitV, true_or, and_self, go_sem]
            rintro i ⟨hi0, hi1⟩
            simp only [go_sem]
            refine tri_seq (tri_seq (tri_region hF [0, 1, 2, 8, 9, 11, 12, 13, 14, 15, 16, 76] ?_))
            simp only [go_sem]
            repeat (refine ⟨by (intros; first | omega | assumption | decide), ?_⟩)
            refine at_next (tri_cond rfl (fun hc => ?_) (fun hc => ?_))
            · try simp only [go_sem] at hc
              have hin : i.toNat < ((uses.getD s.toNat []).getD k.toNat []).length := by omega
              have hIi := hI s.toNat k.toNat i.toNat hsn hkn hin
              have hL : (frm.getD s.toNat []).getD (((uses.getD s.toNat []).getD k.toNat []).getD i.toNat 0).toNat (List.replicate 2 0) ∈ frm.getD s.toNat [] := mem_getD _ (by omega)
              have hL := ((hw6 _ (mem_getD [] (show s.toNat < frm.length by omega))).2 _ hL).1
              have hXi := hX s.toNat (((uses.getD s.toNat []).getD k.toNat []).getD i.toNat 0).toNat hsn (by omega)
              refine tri_skip (at_next (tri_seq (tri_block (tri_seq (tri_regionC hF 17 (by decide) [0, 1, 2, 8, 9, 11, 12, 13, 14, 15, 16, 17] ?_)))))
              simp only [go_sem]
              repeat (refine ⟨by (intros; first | omega | assumption | decide), ?_⟩)
              simp only [contC, go_sem]
              repeat (refine ⟨by (intros; first | omega | assumption | decide), ?_⟩)
              refine at_next (tri_region hF [0, 1, 2, 8, 9, 11, 12, 13, 14, 15, 16] ?_)
              simp only [go_sem]
              repeat (refine ⟨by (intros; first | omega | assumption | decide), ?_⟩)
              refine at_block_norm (at_next (tri_region hF [0, 1, 2, 8, 9, 11, 12, 13, 14, 15, 16] ?_))
              simp only [go_sem]
              repeat (refine ⟨by (intros; first | omega | assumption | decide), ?_⟩)
              refine at_then_norm (at_ren [0, 1] rfl ?_)
              simp only [ren, ren1, renO, posOf, posAll, go_sem]
              refine at_fit (i + 1) ?_ rfl ?_
              · exact ⟨by omega, by omega⟩
              · simp only [fitE, fitV, true_or, and_self, go_sem]
                left; rw [show (i + 1).toNat = i.toNat + 1 from by omega, all_step _ _ _ 0 hin, hd2.2.2 _ _ (by omega) (by omega), ← Bool.and_assoc, sq_pair (by simpa using hL) (by omega) (by omega)]
            · try simp only [go_sem] at hc
              have hrd : (!(out2.contains [((s.toNat : Nat) : Int), ((k.toNat : Nat) : Int)]) && (((uses.getD s.toNat []).getD k.toNat []).take i.toNat).all (fun i => out2.contains ((frm.getD s.toNat []).getD i.toNat (List.replicate 2 0)))) = rdy uses frm out2 s.toNat k.toNat := by
                rw [all_end _ _ _ (by omega)]; rfl
              simp only [hrd]
              refine tri_exit (at_then_exit (at_then_exit (at_block_exit (at_next (tri_seq (tri_region hF [0, 1, 2, 8, 9, 11, 12, 13, 14, 105] ?_))))))
              simp only [go_sem]
              refine at_next (tri_cond rfl (fun hc => ?_) (fun hc => ?_))
              · try simp only [go_sem] at hc
                have hnx := next_at hsn hn (show ((k.toNat : Nat) : Int) < outs.getD s.toNat 0 by omega) hn2 hc
                rw [Int.toNat_of_nonneg hs0, Int.toNat_of_nonneg hk0] at hnx
                have hds := DoneR_set hd2 (show s.toNat < 16 by omega) (show k.toNat < 64 by omega)
                rw [Int.toNat_of_nonneg hs0, Int.toNat_of_nonneg hk0] at hds
                refine tri_seq (tri_regionB hF [0, 1, 2, 8, 9, 11, 12, 13, 14] ?_)
                simp only [go_sem]
                repeat (refine ⟨by (intros; first | omega | assumption | decide), ?_⟩)
                refine at_next (tri_regionB hF [0, 1, 2, 8, 9, 11, 12, 13, 14] ?_)
                simp only [go_sem]
                repeat (refine ⟨by (intros; first | omega | assumption | decide), ?_⟩)
                refine at_block_norm (at_next (tri_region hF [0, 1, 2, 8, 9, 11, 12, 13, 14] ?_))
                simp only [go_sem]
                repeat (refine ⟨by (intros; first | omega | assumption | decide), ?_⟩)
                refine at_then_norm (at_ren [0, 2] rfl ?_)
                simp only [ren, ren1, renO, posOf, posAll, go_sem]
                refine at_fit ((k + 1, true, out2 ++ [[s, k]], dn2.set s.toNat ((dn2.getD s.toNat (List.replicate 64 false)).set k.toNat true))) ?_ rfl ?_
                · exact ⟨⟨by show 0 ≤ k + 1; omega, by show k + 1 ≤ _; omega, hds, .inr ⟨rfl, _, hnx, rfl⟩⟩, by show (_ - (k + 1)).toNat < (_ - k).toNat; omega⟩
                · simp only [fitE, fitV, true_or, and_self, go_sem]
              · try simp only [go_sem] at hc
                refine tri_skip (at_block_norm (at_next (tri_region hF [0, 1, 2, 8, 9, 11, 12, 13, 14] ?_)))
                simp only [go_sem]
                repeat (refine ⟨by (intros; first | omega | assumption | decide), ?_⟩)
                refine at_then_norm (at_fit ((k + 1, false, out2, dn2)) ?_ rfl ?_)
                · exact ⟨⟨by show 0 ≤ k + 1; omega, by show k + 1 ≤ _; omega, hd2, .inl ⟨rfl, rfl, by show (List.range (k + 1).toNat).find? _ = none; rw [show (k + 1).toNat = k.toNat + 1 from by omega]; exact find_step _ hn2 hc⟩⟩, by show (_ - (k + 1)).toNat < (_ - k).toNat; omega⟩
                · simp only [fitE, fitV, true_or, and_self, go_sem]
          · try simp only [go_sem] at hc
            have hck := hc
            refine tri_exit (at_then_exit (at_then_exit (at_block_exit (at_block_norm (at_next (tri_region hF [0, 1, 2, 8, 9, 11, 12, 13] ?_))))))
            simp only [go_sem]
            repeat (refine ⟨by (intros; first | omega | assumption | decide), ?_⟩)
            refine at_then_norm (at_fit ((s + 1, fnd, out2, dn2)) ?_ rfl ?_)
            · refine ⟨⟨by show 0 ≤ s + 1; omega, by show s + 1 ≤ _; omega, hd2, ?_⟩, by show (_ - (s + 1)).toNat < (_ - s).toNat; omega⟩
              rcases hor2 with ⟨hf, ho, hn2⟩ | ⟨hf, ho⟩
              · refine .inl ⟨hf, ho, ?_⟩
                subst hf; subst ho
                have hk : (outs.getD s.toNat 0).toNat = k.toNat := by rw [Bool.not_false, Bool.and_true, decide_eq_false_iff_not] at hck; omega
                show (List.range (s + 1).toNat).findSome? _ = none
                rw [show (s + 1).toNat = s.toNat + 1 from by omega]
                refine some_step _ hn ?_
                rw [rowP, hk, hn2]; rfl
              · exact .inr ⟨hf, ho⟩
            · simp only [fitE, fitV, true_or, and_self, go_sem]
        · try simp only [go_sem] at hc
          have hcs := hc
          refine tri_exit (at_then_exit (at_then_exit (at_block_exit (at_next (tri_seq (tri_region hF [0, 1, 2, 8, 9, 11, 117] ?_))))))
          simp only [go_sem]
          repeat (refine ⟨by (intros; first | omega | assumption | decide), ?_⟩)
          refine at_next (tri_cond rfl (fun hc => ?_) (fun hc => ?_))
          · try simp only [go_sem] at hc
            rcases hor with ⟨hf, ho, hn⟩ | ⟨hf, _⟩
            case inr => subst hf; simp at hc
            refine tri_seq (tri_region hF [6, 7] ?_)
            simp only [go_sem]
            refine at_next (tri_ret (at_block_ret (at_then_ret (at_block_ret (at_then_ret (at_ren [] rfl ?_))))))
            simp only [ren, ren1, renO, posOf, posAll, go_sem]
            refine at_ret [6, 7] rfl rfl ?_
            simp only [retOK, go_sem]
            subst hf
            have hsl : outs.length ≤ s.toNat := by simp at hcs; omega
            have hnone : nextP outs uses frm out = none := by
              rw [nextP, show outs.length = s.toNat from by omega]; exact hn
            rw [ordT, if_pos hm, ho1, hmore, hnone]
          · try simp only [go_sem] at hc
            rcases hor with ⟨hf, _⟩ | ⟨hf, p, hp, ho⟩
            case inl => subst hf; simp at hc
            rw [hp] at hmore
            refine tri_skip (at_block_norm (at_then_norm (at_fit ((out1, dn1)) ?_ rfl ?_)))
            · exact ⟨⟨by rw [ho, ho1, hmore], by rw [ho]; simp; omega, hd⟩, by rw [ho]; simp; omega⟩
            · simp only [fitE, fitV, true_or, and_self, go_sem]
      · try simp only [go_sem] at hc
        refine tri_exit (at_then_exit (at_then_exit (at_block_exit (at_next (tri_seq (tri_region hF [6, 7] ?_))))))
        simp only [go_sem]
        refine at_next (tri_ret (at_ret [6, 7] rfl rfl ?_))
        simp only [retOK, go_sem]
        rw [ordT, if_pos hm, ho1, ordF_end (by omega)]

end Gr
end Go.Proofs
