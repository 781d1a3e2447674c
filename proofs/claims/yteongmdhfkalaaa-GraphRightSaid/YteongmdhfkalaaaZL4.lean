import Derived.Test.YteongmdhfkalaaaZL3
import Derived.Scope
import Derived.ProofKit
import Derived.OpenShut
import Derived.Below
/-
  A GENERIC LAYER OVER THE KIT'S wp: A REGION THAT DRAWS ITS ORDER, with new variables among its plain operations and a tail that writes. No program text.
-/
namespace Go.Vc
open Go.RowKit
set_option linter.unusedVariables false
set_option linter.unusedSimpArgs false

/-- the new variables of a list of operations: place, type, slot -/
def allocsOf : List Oper → Nat → List (Nat × TypeId × Nat)
  | [], _ => []
  | o :: r, i => match o.op, o.guard, o.dst with
    | .alloc t, none, some d => (i, t, d) :: allocsOf r (i + 1)
    | _, _, _ => allocsOf r (i + 1)

def boxOf (T : Tab) (t : TypeId) : Obj := match T t with
  | some ct => .box ct.cells (.val ct ct.zero)
  | none => .dead

def pushAll (T : Tab) : List (Nat × TypeId × Nat) → St → List Obj → St × List Obj
  | [], env, h => (env, h)
  | (_, t, d) :: r, env, h => pushAll T r ((d, .ptr h.length []) :: env) (h ++ [boxOf T t])

theorem allocsOf_mem : ∀ {l : List Oper} {i : Nat} {p : Nat × TypeId × Nat}, p ∈ allocsOf l i → ∃ o, l[p.1 - i]? = some o ∧ i ≤ p.1 ∧ o.op = .alloc p.2.1 ∧ o.guard = none ∧ o.dst = some p.2.2
  | [], i, p, hp => by cases hp
  | o :: r, i, p, hp => by
    have hrec : p ∈ allocsOf r (i + 1) → ∃ o', (o :: r)[p.1 - i]? = some o' ∧ i ≤ p.1 ∧ o'.op = .alloc p.2.1 ∧ o'.guard = none ∧ o'.dst = some p.2.2 := fun hp => by
      obtain ⟨o', h1, h2, h3⟩ := allocsOf_mem hp
      refine ⟨o', ?_, by omega, h3⟩
      rw [show p.1 - i = (p.1 - (i + 1)) + 1 from by omega, List.getElem?_cons_succ]
      exact h1
    simp only [allocsOf] at hp
    split at hp
    · rename_i t d h1 h2 h3
      rcases List.mem_cons.1 hp with rfl | hp
      · exact ⟨o, by simp, Nat.le_refl _, h1, h2, h3⟩
      · exact hrec hp
    · exact hrec hp

section
variable {P : Program} {E : Env} {M : Perm} {w0 : World} {nt : Nat} {h : List Obj} {env : St} {pre : List Oper}

/-- the blocks just made -/
structure Fresh (T : Tab) (al : List (Nat × TypeId × Nat)) (w : World) (listed : Nat → Prop) (c' : Ctx) (a : Act) (w' : World) (B : Nat → Nat) : Prop where
  size : w.heap.size ≤ w'.heap.size
  at_ : ∀ p ∈ al, listed p.1 → ∃ ct, T p.2.1 = some ct ∧ a.tmps.getD p.2.2 Go.undef = .pointer (some ⟨B p.1, 0, none⟩) ∧ w.heap.size ≤ B p.1 ∧ B p.1 < w'.heap.size ∧ ¬ c'.S (B p.1) ∧ w'.heap[B p.1]? = some (.cells (zval ct).cells p.2.1 (0, 0))
  inj : ∀ p ∈ al, ∀ q ∈ al, listed p.1 → listed q.1 → B p.1 = B q.1 → p.1 = q.1

theorem Fresh.step {T : Tab} {w : World} {listed : Nat → Prop} {c' c'' : Ctx} {a a'' : Act} {w' w'' : World} {B : Nat → Nat} (hf : Fresh T (allocsOf pre 0) w listed c' a w' B) {i : Nat} {o : Oper} (ho : pre[i]? = some o) (hok : okOper a.tmps.size o = true) (hu : uniqB pre = true) (hni : ¬ listed i) (hd : o.dst ≠ none) (hsf : ∀ b, c'.S b → b < w'.heap.size)
    (hs : StepX T o a c' w' c'' a'' w'') : ∃ B', Fresh T (allocsOf pre 0) w (fun k => listed k ∨ k = i) c'' a'' w'' B' := by
  obtain ⟨v, hv, hal⟩ := hs.put
  have hget : ∀ d, o.dst ≠ some d → a''.tmps.getD d Go.undef = a.tmps.getD d Go.undef := fun d hne => by
    rw [hv]
    cases hdd : o.dst with
    | none => rfl
    | some d0 =>
      have : d0 ≠ d := fun e => hne (by rw [hdd, e])
      simp [Act.put, Array.getElem?_setIfInBounds_ne this]
  refine ⟨fun k => if k = i then w'.heap.size else B k, Nat.le_trans hf.size hs.keeps.size, fun p hp hl => ?_, fun p hp q hq hlp hlq hB => ?_⟩
  · obtain ⟨op, h1, _, h2, h3, h4⟩ := allocsOf_mem hp
    simp only [Nat.sub_zero] at h1
    by_cases e : p.1 = i
    · rw [e] at h1
      rw [ho] at h1
      cases h1
      obtain ⟨ct, q1, q2, q3, q4⟩ := hal _ h2 h3
      simp only [e, if_true]
      refine ⟨ct, q1, ?_, hf.size, by rw [q3]; simp, fun hS => ?_, by rw [q3]; exact alloc_get w' _⟩
      · simp only [okOper, Bool.and_eq_true, h4, decide_eq_true_eq] at hok
        rw [hv, h4, q2]
        simp [Act.put, hok.2]
      · rw [q4] at hS
        have := hsf _ hS
        omega
    · have hl : listed p.1 := hl.resolve_right e
      obtain ⟨ct, q1, q2, q3, q4, q5, q6⟩ := hf.at_ p hp hl
      simp only [e, if_false]
      refine ⟨ct, q1, ?_, q3, Nat.lt_of_lt_of_le q4 hs.keeps.size, fun hS => ?_, by rw [hs.keeps.block _ q4 (fun f => f)]; exact q6⟩
      · rw [hget]
        · exact q2
        · intro hdd
          exact e (uniq_of hu ho h1 (by rw [h4, hdd]) hd)
      · rcases hs.new _ hS with h | h
        · exact q5 h
        · omega
  · by_cases ep : p.1 = i <;> by_cases eq : q.1 = i
    · rw [ep, eq]
    · simp only [ep, eq, if_true, if_false] at hB
      obtain ⟨ct, q1, q2, q3, q4, _⟩ := hf.at_ q hq (hlq.resolve_right eq)
      omega
    · simp only [ep, eq, if_true, if_false] at hB
      obtain ⟨ct, q1, q2, q3, q4, _⟩ := hf.at_ p hp (hlp.resolve_right ep)
      omega
    · simp only [ep, eq, if_false] at hB
      exact hf.inj p hp q hq (hlp.resolve_right ep) (hlq.resolve_right eq) hB

/-- a block just made is an object of the call's own -/
theorem Good.adopt {c : Ctx} {w : World} (hg : Good M w0 c h w) {b : Nat} {cells : Array Value} {e : TypeId} {v : AV} {n : Nat} (hb : w.heap[b]? = some (.cells cells e (0, 0))) (hn : cells.size = n) (hv : CellsR c w v cells.toList) (hB : w0.heap.size ≤ b) (hS : ¬ c.S b)
    (hown : ∀ i o, h[i]? = some o → ownBlock c i o ≠ some b) : Good M w0 (c.push (.pointer (some ⟨b, 0, none⟩))) (h ++ [.box n v]) w ∧ Later c w (c.push (.pointer (some ⟨b, 0, none⟩))) w := by
  have hl : Later c w (c.push (.pointer (some ⟨b, 0, none⟩))) w := ⟨c.le_push _, .refl _ _⟩
  have hbl : b < w.heap.size := (Array.getElem?_eq_some_iff.1 hb).1
  have hhd : (c.push (.pointer (some ⟨b, 0, none⟩))).hd c.n = .pointer (some ⟨b, 0, none⟩) := by simp [Ctx.push]
  have hcase : ∀ i o', (h ++ [Obj.box n v])[i]? = some o' → (h[i]? = some o' ∧ i < c.n) ∨ (i = c.n ∧ o' = Obj.box n v) := fun i o' ho => by
    rw [hg.n]
    rcases Nat.lt_trichotomy i h.length with hlt | heq | hgt
    · rw [List.getElem?_append_left hlt] at ho; exact .inl ⟨ho, hlt⟩
    · subst heq; simp at ho; exact .inr ⟨rfl, ho.symm⟩
    · rw [List.getElem?_append_right (by omega), List.getElem?_eq_none (by simp; omega)] at ho; cases ho
  refine ⟨⟨by simp [Ctx.push, hg.n], hg.keeps, hg.sfin, hg.src, fun i o' ho => ?_, fun i o' b' ho hbb => ?_, fun i j oi oj b' hi hj hbi hbj => ?_⟩, hl⟩
  · rcases hcase i o' ho with ⟨ho, hi⟩ | ⟨rfl, rfl⟩
    · exact (hg.objs i o' ho).keep hl hi (fun _ _ => rfl)
    · exact ⟨b, cells, e, hhd, hb, hn, CellsR.keep hl.le hl.same _ _ hv⟩
  · rcases hcase i o' ho with ⟨ho, hi⟩ | ⟨rfl, rfl⟩
    · rw [ownBlock_le hl.le hi] at hbb
      exact hg.own i o' b' ho hbb
    · simp only [ownBlock, hhd, blockOf, Option.some.injEq] at hbb
      subst hbb
      exact ⟨.inl hB, hbl, hS⟩
  · rcases hcase i oi hi with ⟨hi', hin⟩ | ⟨ei, eo⟩ <;> rcases hcase j oj hj with ⟨hj', hjn⟩ | ⟨ej, eo'⟩
    · rw [ownBlock_le hl.le hin] at hbi
      rw [ownBlock_le hl.le hjn] at hbj
      exact hg.sep i j oi oj b' hi' hj' hbi hbj
    · subst ej; subst eo'
      rw [ownBlock_le hl.le hin] at hbi
      simp only [ownBlock, hhd, blockOf, Option.some.injEq] at hbj
      subst hbj
      exact absurd hbi (hown i oi hi')
    · subst ei; subst eo
      rw [ownBlock_le hl.le hjn] at hbj
      simp only [ownBlock, hhd, blockOf, Option.some.injEq] at hbi
      subst hbi
      exact absurd hbj (hown j oj hj')
    · rw [ei, ej]

theorem zval_ok {c : Ctx} {w : World} {ct : Ty} (hok : ct.okB = true) : CellsR c w (.val ct ct.zero) (zval ct).cells.toList ∧ (zval ct).cells.size = ct.cells := by
  rw [zval_cells hok]
  exact ⟨by simpa [CellsR] using zcells_rep w c.S ct hok, by simp [zcells_length hok]⟩

/-- the new variables, as objects -/
theorem pushAll_ok (hE : EnvOK P E) {ds : List Deferred} {a : Act} {w : World} : ∀ (al : List (Nat × TypeId × Nat)) (env : St) (h : List Obj) (c : Ctx) (B : Nat → Nat), Sim E M w0 nt ds c env h a w → 
    (∀ p ∈ al, ∃ ct, E.T p.2.1 = some ct ∧ ct.okB = true ∧ a.tmps.getD p.2.2 Go.undef = .pointer (some ⟨B p.1, 0, none⟩) ∧ w0.heap.size ≤ B p.1 ∧ ¬ c.S (B p.1) ∧ w.heap[B p.1]? = some (.cells (zval ct).cells p.2.1 (0, 0)) ∧ ∀ i o, h[i]? = some o → ownBlock c i o ≠ some (B p.1)) →
    al.Pairwise (fun p q => B p.1 ≠ B q.1) → ∃ c', Sim E M w0 nt ds c' (pushAll E.T al env h).1 (pushAll E.T al env h).2 a w
  | [], env, h, c, B, hs, _, _ => ⟨c, hs⟩
  | (i, t, d) :: r, env, h, c, B, hs, hal, hpw => by
    obtain ⟨ct, q1, q2, q3, q4, q5, q6, q7⟩ := hal (i, t, d) (by simp)
    simp only at q1 q3 q4 q5 q6 q7
    obtain ⟨z1, z2⟩ := zval_ok (c := c) (w := w) q2
    obtain ⟨g1, g2⟩ := hs.good.adopt q6 z2 z1 q4 q5 q7
    have hbox : boxOf E.T t = .box ct.cells (.val ct ct.zero) := by simp [boxOf, q1]
    rw [List.pairwise_cons] at hpw
    have e1 : (c.push (.pointer (some ⟨B i, 0, none⟩))).hd c.n = .pointer (some ⟨B i, 0, none⟩) := by simp [Ctx.push]
    have hs' : Sim E M w0 nt ds (c.push (.pointer (some ⟨B i, 0, none⟩))) ((d, .ptr h.length []) :: env) (h ++ [boxOf E.T t]) a w := by
      refine ⟨by rw [hbox]; exact g1, hs.glob.mono (fun _ h => h) (.refl _ _), fun t' => ?_, hs.size, hs.defers⟩
      simp only [look]
      split
      · rename_i e
        subst e
        rw [q3, ← hs.good.n]
        exact ⟨⟨Nat.lt_succ_self c.n, B i, by rw [e1]; rfl, rfl⟩, (fun h => by cases h), (fun _ cs => by simp)⟩
      · exact g2.val (hs.env t')
    refine pushAll_ok hE r _ _ _ B hs' (fun p hp => ?_) hpw.2
    obtain ⟨ct', p1, p2, p3, p4, p5, p6, p7⟩ := hal p (by simp [hp])
    refine ⟨ct', p1, p2, p3, p4, p5, p6, fun k o ho => ?_⟩
    rcases Nat.lt_trichotomy k h.length with hlt | heq | hgt
    · rw [List.getElem?_append_left hlt] at ho
      rw [ownBlock_le g2.le (by rw [hs.good.n]; exact hlt)]
      exact p7 k o ho
    · subst heq
      simp at ho
      subst ho
      rw [hbox, ← hs.good.n]
      simp only [ownBlock, e1, blockOf, ne_eq, Option.some.injEq]
      exact hpw.1 p hp
    · rw [List.getElem?_append_right (by omega), List.getElem?_eq_none (by simp; omega)] at ho; cases ho

/-- one operation in the text's order -/
theorem seqB_op (hE : EnvOK P E) {ops : List Oper} {Q : Exit → Act → World → Prop} (hok : ∀ o ∈ ops, okOper nt o = true) {K : St → List Obj → Prop} {i : Nat} (hil : i < ops.length) {env : St} {h : List Obj} {c : Ctx} {a : Act} {w : World} (hs : seqB E ops (ops.drop i) env h K) (hsim : Sim E M w0 nt [] c env h a w)
    {Kn : Act → World → Prop} (hn : ∀ env' h' c' a' w', seqB E ops (ops.drop (i + 1)) env' h' K → Sim E M w0 nt [] c' env' h' a' w' → Kn a' w') : wpOp P ops.toArray Q i Kn a w := by
  rw [List.drop_eq_getElem_cons hil] at hs
  have hokO := hok ops[i] (List.getElem_mem hil)
  have hput : ∀ (v : Value) (av : AV), ValR c w av v → Sim E M w0 nt [] c (putE ops[i].dst av env) h (a.put ops[i].dst v) w := fun v av hv => hsim.after hokO ⟨.refl _ _, hsim.good, hv⟩
  unfold wpOp
  simp only [List.getElem?_toArray, List.getElem?_eq_getElem hil]
  have hrun : ((stepB E env h ops[i]).1 ∧ seqB E ops (ops.drop (i + 1)) (putE ops[i].dst (stepB E env h ops[i]).2.1 env) (stepB E env h ops[i]).2.2 K) → Region.wanted ops[i] (yielded ops.toArray a.tmps) = true → (if Region.wanted ops[i] (yielded ops.toArray a.tmps) = true then Oper.wp P ops[i] a w Kn Q ∨ (ops[i].asks P a w ∧ LetsOut Q) else Kn (a.put ops[i].dst Go.undef) w) := fun ⟨h1, h2⟩ hw => by
    rw [if_pos hw]
    left
    refine (step_ok hE hsim hokO h1).wp fun v w' c' ha => ?_
    exact hn _ _ c' _ w' h2 (hsim.after hokO ha)
  have hskip : seqB E ops (ops.drop (i + 1)) (putE ops[i].dst .undef env) h K → Region.wanted ops[i] (yielded ops.toArray a.tmps) = false → (if Region.wanted ops[i] (yielded ops.toArray a.tmps) = true then Oper.wp P ops[i] a w Kn Q ∨ (ops[i].asks P a w ∧ LetsOut Q) else Kn (a.put ops[i].dst Go.undef) w) := fun h2 hw => by
    rw [if_neg (by rw [hw]; simp)]
    exact hn _ _ c _ w h2 (hput _ _ rfl)
  simp only [seqB] at hs
  cases hgd : ops[i].guard with
  | none =>
    rw [hgd] at hs
    exact hrun hs (by simp [Region.wanted, hgd])
  | some jp =>
    obtain ⟨j, pol⟩ := jp
    rw [hgd] at hs
    simp only at hs
    cases hdj : dstAt ops j with
    | none => rw [hdj] at hs; exact hs.elim
    | some dj =>
      rw [hdj] at hs
      simp only at hs
      have hv := hsim.env dj
      split at hs
      · rename_i b hb
        rw [hb] at hv
        have hb' := openB hv
        have hy := dst_yield hok hsim.size hdj hb'
        simp only [yb] at hy
        by_cases e : b = pol
        · exact hrun (hs.1 e) (by simp [Region.wanted, hgd, hy, e])
        · have e' : b = !pol := by cases b <;> cases pol <;> simp_all
          exact hskip (hs.2 e') (by simp [Region.wanted, hgd, hy, e])
      · rename_i hb
        rw [hb] at hv
        have hy := dst_yield hok hsim.size hdj (v := Go.undef) hv
        exact hskip hs (by simp [Region.wanted, hgd, hy, Go.undef, yb])
      · exact hs.elim

/-- the operations that an operation comes behind, step by step -/
def dirE (o : Oper) (k : Nat) : Bool := o.after.toList.any fun e => Region.binds .any e && decide (e.on = k)
def closE : List Oper → List (List Nat) → List (List Nat)
  | [], acc => acc
  | o :: r, acc => closE r (acc ++ [(List.range acc.length).filter fun k => dirE o k || (List.range acc.length).any fun j => dirE o j && (acc.getD j []).contains k])

/-- each operation's edges lead back; behind the first n each comes behind all that stand ahead of it -/
def tailB (n : Nat) (ops : List Oper) : Bool :=
  (ops.zipIdx.all fun p => p.1.after.toList.all fun e => !Region.binds .any e || decide (e.on < p.2)) &&
  ((closE ops []).zipIdx.all fun p => decide (p.2 < n) || (List.range p.2).all fun k => p.1.contains k)

theorem dirE_iff {o : Oper} {k : Nat} : dirE o k = true ↔ ∃ e ∈ o.after, Region.binds .any e = true ∧ e.on = k := by
  simp only [dirE, List.any_eq_true, Bool.and_eq_true, decide_eq_true_eq, Array.mem_toList_iff]

theorem closE_ok {ops : List Oper} : ∀ (r : List Oper) (acc : List (List Nat)), acc.length + r.length = ops.length → (∀ j, ops[acc.length + j]? = r[j]?) →
    (∀ (i : Nat) (S : List Nat), acc[i]? = some S → ∀ k ∈ S, ∀ L : Nat → Prop, (∀ j o, ops[j]? = some o → L j → ∀ e ∈ o.after, Region.binds .any e = true → L e.on) → (∀ o, ops[i]? = some o → ∀ e ∈ o.after, Region.binds .any e = true → L e.on) → L k) →
    (closE r acc).length = ops.length ∧ ∀ (i : Nat) (S : List Nat), (closE r acc)[i]? = some S → ∀ k ∈ S, ∀ L : Nat → Prop, (∀ j o, ops[j]? = some o → L j → ∀ e ∈ o.after, Region.binds .any e = true → L e.on) → (∀ o, ops[i]? = some o → ∀ e ∈ o.after, Region.binds .any e = true → L e.on) → L k
  | [], acc, hl, _, h => ⟨by simpa [closE] using hl, h⟩
  | o :: r, acc, hl, hr, h => by
    simp only [closE]
    have ho : ops[acc.length]? = some o := by have := hr 0; simpa using this
    refine closE_ok r _ (by simp at hl ⊢; omega) (fun j => by have := hr (j + 1); simp only [List.length_append, List.length_singleton, List.getElem?_cons_succ] at this ⊢; rw [← this]; congr 1; omega) fun i S hS k hk L hL hi => ?_
    rcases Nat.lt_trichotomy i acc.length with hlt | heq | hgt
    · rw [List.getElem?_append_left hlt] at hS
      exact h i S hS k hk L hL hi
    · subst heq
      simp only [List.getElem?_concat_length, Option.some.injEq] at hS
      subst hS
      simp only [List.mem_filter, List.mem_range, Bool.or_eq_true, List.any_eq_true, Bool.and_eq_true] at hk
      obtain ⟨_, hk⟩ := hk
      rcases hk with hk | ⟨j, hj, hd, hc⟩
      · obtain ⟨e, he, hb, rfl⟩ := dirE_iff.1 hk
        exact hi o ho e he hb
      · obtain ⟨e, he, hb, rfl⟩ := dirE_iff.1 hd
        have hLj := hi o ho e he hb
        have hj : e.on < acc.length := hj
        have hS' : acc[e.on]? = some (acc.getD e.on []) := by rw [List.getD_eq_getElem?_getD, List.getElem?_eq_getElem hj]; rfl
        exact h e.on _ hS' k (by simpa using hc) L hL (fun o' ho' e' he' hb' => hL e.on o' ho' hLj e' he' hb')
    · rw [List.getElem?_eq_none (by simp; omega)] at hS; cases hS

theorem tail_of {n : Nat} {ops : List Oper} (h : tailB n ops = true) {i : Nat} {o : Oper} (ho : ops[i]? = some o) : (∀ e ∈ o.after, Region.binds .any e = true → e.on < i) ∧
    (n ≤ i → ∀ L : Nat → Prop, (∀ j o, ops[j]? = some o → L j → ∀ e ∈ o.after, Region.binds .any e = true → L e.on) → (∀ e ∈ o.after, Region.binds .any e = true → L e.on) → ∀ k, k < i → L k) := by
  simp only [tailB, Bool.and_eq_true] at h
  obtain ⟨h1, h2⟩ := h
  refine ⟨fun e he hb => ?_, fun hn L hL hi k hk => ?_⟩
  · have := List.all_eq_true.1 h1 (o, i) (by rw [List.mem_zipIdx_iff_getElem?]; exact ho)
    have := List.all_eq_true.1 this e (Array.mem_toList_iff.2 he)
    simpa [hb] using this
  · obtain ⟨q1, q2⟩ := closE_ok (ops := ops) ops [] (by simp) (fun j => by simp) (fun i S hS => by simp at hS)
    have hil : i < ops.length := tail_of.get_lt' ho
    have hS : (closE ops [])[i]? = some ((closE ops [])[i]'(by omega)) := List.getElem?_eq_getElem _
    have := List.all_eq_true.1 h2 (_, i) (by rw [List.mem_zipIdx_iff_getElem?]; exact hS)
    simp only [Bool.or_eq_true, decide_eq_true_eq] at this
    have := List.all_eq_true.1 (this.resolve_left (by omega)) k (List.mem_range.2 hk)
    exact q2 i _ hS k (by simpa using this) L hL (fun o' ho' => by rw [ho] at ho'; cases ho'; exact hi)
where
  get_lt' {ops : List Oper} {i : Nat} {o : Oper} (ho : ops[i]? = some o) : i < ops.length := by
    rcases Nat.lt_or_ge i ops.length with h | h
    · exact h
    · rw [List.getElem?_eq_none h] at ho; cases ho

theorem tail_any (hE : EnvOK P E) {ops : List Oper} {Q : Exit → Act → World → Prop} (hok : ∀ o ∈ ops, okOper nt o = true) {K : St → List Obj → Prop} (hK : ∀ env h c a w, K env h → Sim E M w0 nt [] c env h a w → Q .normal a w) {n : Nat} (ht : tailB n ops = true) :
    ∀ (m i : Nat), i + m = ops.length → n ≤ i → ∀ (listed : Array Bool), listed.size = ops.length → (∀ k, k < ops.length → (listed.getD k false = true ↔ k < i)) → ∀ (env : St) (h : List Obj) (c : Ctx) (a : Act) (w : World), seqB E ops (ops.drop i) env h K → Sim E M w0 nt [] c env h a w → wpAny P .any ops.toArray Q m listed a w
  | 0, i, hi, hni, listed, hsz, hl, env, h, c, a, w, hs, hsim => by
    rw [List.drop_eq_nil_of_le (by omega)] at hs
    refine ⟨?_, hK env h c a w hs hsim⟩
    rw [List.eq_nil_iff_forall_not_mem]
    intro j hj
    obtain ⟨h1, o, ho, _⟩ := mem_ready.1 hj
    have ho : ops[j]? = some o := by simpa using ho
    have hjl := tail_of.get_lt' ho
    have := (hl j hjl).2 (by omega)
    have hlt : j < listed.size := by omega
    simp [hlt] at h1 this
    rw [this] at h1; cases h1
  | m + 1, i, hi, hni, listed, hsz, hl, env, h, c, a, w, hs, hsim => by
    have hil : i < ops.length := by omega
    have hio : ops[i]? = some ops[i] := List.getElem?_eq_getElem hil
    refine ⟨fun hr => ?_, fun j hj => ?_⟩
    · exfalso
      have hmem : i ∈ Region.ready .any ops.toArray listed := by
        rw [mem_ready]
        have hlt : i < listed.size := by omega
        have hun : ¬ listed.getD i false = true := fun h => by have := (hl i hil).1 h; omega
        refine ⟨by simp [hlt] at hun ⊢; exact hun, ops[i], by simp [hil], fun e he hb => ?_⟩
        exact (hl _ (by have := (tail_of ht hio).1 e he hb; omega)).2 ((tail_of ht hio).1 e he hb)
      rw [hr] at hmem; cases hmem
    · obtain ⟨h1, o, ho, hall⟩ := mem_ready.1 hj
      have ho : ops[j]? = some o := by simpa using ho
      have hjl := tail_of.get_lt' ho
      have hji : j = i := by
        rcases Nat.lt_trichotomy j i with hlt | heq | hgt
        · have := (hl j hjl).2 hlt
          have hlt : j < listed.size := by omega
          simp [hlt] at h1 this
          rw [this] at h1; cases h1
        · exact heq
        · have := (tail_of ht ho).2 (by omega) (fun k => k < ops.length → listed.getD k false = true) (fun k o' ho' hk e he hb => fun hlt => by
            have hkl := tail_of.get_lt' ho'
            have h3 := (tail_of ht ho').1 e he hb
            have := (hl k hkl).1 (hk hkl)
            exact (hl _ hlt).2 (by omega)) (fun e he hb _ => hall e he hb) i hgt hil
          have := (hl i hil).1 this
          omega
      subst hji
      refine seqB_op hE hok hil hs hsim fun env' h' c' a' w' hs' hsim' => ?_
      refine tail_any hE hok hK ht m (j + 1) (by omega) (by omega) (listed.setIfInBounds j true) (by simp [hsz]) (fun k hk => ?_) env' h' c' a' w' hs' hsim'
      by_cases e : j = k
      · subst e
        have : j < listed.size := by omega
        simp [this]
      · rw [getD_set_ne false e, hl k hk]
        omega

theorem wpOp_pre {pre tail : List Oper} {Q : Exit → Act → World → Prop} {i : Nat} {o : Oper} (ho : pre[i]? = some o) (hg : ∀ j p, o.guard = some (j, p) → j < pre.length) {K : Act → World → Prop} {a : Act} {w : World} (h : wpOp P pre.toArray Q i K a w) : wpOp P (pre ++ tail).toArray Q i K a w := by
  have hil : i < pre.length := tail_of.get_lt' ho
  have ho' : (pre ++ tail)[i]? = some o := by rw [List.getElem?_append_left hil]; exact ho
  have hw : Region.wanted o (yielded (pre ++ tail).toArray a.tmps) = Region.wanted o (yielded pre.toArray a.tmps) := by
    cases hgd : o.guard with
    | none => simp [Region.wanted, hgd]
    | some jp =>
      obtain ⟨j, p⟩ := jp
      have := hg j p hgd
      simp only [Region.wanted, hgd, yielded, List.getElem?_toArray, List.getElem?_append_left this]
  unfold wpOp at h ⊢
  simp only [List.getElem?_toArray, ho, ho'] at h ⊢
  rw [hw]; exact h

theorem allocs_pw : ∀ (l : List Oper) (i : Nat), (allocsOf l i).Pairwise (fun p q => p.1 < q.1)
  | [], i => List.Pairwise.nil
  | o :: r, i => by
    simp only [allocsOf]
    split
    · refine List.pairwise_cons.2 ⟨fun p hp => ?_, allocs_pw r (i + 1)⟩
      obtain ⟨_, _, h, _⟩ := allocsOf_mem hp
      simp only
      omega
    · exact allocs_pw r (i + 1)

theorem rep_false (n k : Nat) : (Array.replicate n false).getD k false = false := by
  by_cases h : k < n <;> simp [h]

/-- a region that draws its order: plain operations and new variables, then a tail that writes -/
theorem region_C (hE : EnvOK P E) (hmix : P.follows .mixedOrders = true) {pre tail : List Oper} {Q : Exit → Act → World → Prop} (hok : ∀ o ∈ pre ++ tail, okOper nt o = true) (hu : uniqB pre = true) (hany : anyB pre = true) (ht : tailB pre.length (pre ++ tail) = true) {c : Ctx} {a : Act} {w : World} (hs : Sim E M w0 nt [] c env h a w) {K' : St → List Obj → Prop}
    (hv : vcA E h env pre 0 [] (fun acc => seqB E (pre ++ tail) tail (pushAll E.T (allocsOf pre 0) (envOut acc env) h).1 (pushAll E.T (allocsOf pre 0) (envOut acc env) h).2 K')) (hK : ∀ env h c a w, K' env h → Sim E M w0 nt [] c env h a w → Q .normal a w) {id : Nat} : (Code.region id (pre ++ tail).toArray true).wp P Q a w := by
  obtain ⟨F, f1, f2, f3⟩ := vcA_traced pre 0 [] _ hv
  have hF : Traced E h env pre F := ⟨f1, fun i o ho => by have := f2 i o ho; simpa using this⟩
  simp only [Nat.zero_add] at f3
  refine wp_region_any hmix ?_
  have hlat : Later c w c { w with drawn := w.drawn + 1 } := ⟨.refl _, fun b hb => rfl⟩
  have hdr : Sim E M w0 nt [] c env h a { w with drawn := w.drawn + 1 } :=
    ⟨hs.good.step hlat rfl ⟨rfl, rfl, rfl, Nat.le_refl _, fun _ _ _ => rfl⟩ (fun _ _ _ _ _ => rfl) hs.good.sfin (fun _ hb => .inl hb), GlobR.mono (w := w) (w' := { w with drawn := w.drawn + 1 }) (fun _ hb => hb) hlat.same hs.glob, hs.env.keep hlat, hs.size, hs.defers⟩
  generalize ({ w with drawn := w.drawn + 1 } : World) = w at hdr
  clear hs hlat hv
  have hokp : ∀ o ∈ pre, okOper nt o = true := fun o ho => hok o (by simp [ho])
  have hanyI : ∀ i o, pre[i]? = some o → (∀ e ∈ o.after, Region.binds .any e = true → e.on < i) ∧ (∀ j p, o.guard = some (j, p) → ∃ e ∈ o.after, Region.binds .any e = true ∧ e.on = j) ∧
      (∀ t, Operand.tmp t ∈ o.op.operands → ∀ k ok, pre[k]? = some ok → ok.dst = some t → k = i ∨ (k < i ∧ ∃ e ∈ o.after, Region.binds .any e = true ∧ e.on = k) ∨ (i < k ∧ ∃ e ∈ ok.after, Region.binds .any e = true ∧ e.on = i)) := by
    intro i o ho
    have hi : i < pre.length := by
      rcases Nat.lt_or_ge i pre.length with h | h
      · exact h
      · rw [List.getElem?_eq_none h] at ho; cases ho
    simp only [anyB, List.all_eq_true, List.mem_range] at hany
    have := hany i hi
    rw [ho] at this
    simp only [Bool.and_eq_true, List.all_eq_true, Array.mem_toList_iff] at this
    obtain ⟨⟨h1, h2⟩, h3⟩ := this
    refine ⟨fun e he hb => ?_, fun j p hg => ?_, fun t ht k ok hk hd => ?_⟩
    · have := h1 e he
      simpa [hb] using this
    · rw [hg] at h2
      simp only [List.any_eq_true, Bool.and_eq_true, decide_eq_true_eq, Array.mem_toList_iff] at h2
      exact h2
    · have := h3 _ ht
      simp only [List.all_eq_true, List.mem_range] at this
      have hkl : k < pre.length := by
        rcases Nat.lt_or_ge k pre.length with h | h
        · exact h
        · rw [List.getElem?_eq_none h] at hk; cases hk
      have := this k hkl
      rw [hk] at this
      simp only [hd, ne_eq, not_true_eq_false, decide_false, Bool.false_or, Bool.or_eq_true, decide_eq_true_eq, Bool.and_eq_true, List.any_eq_true, Array.mem_toList_iff] at this
      rcases this with (h | h) | h
      · exact .inl h
      · exact .inr (.inl h)
      · exact .inr (.inr h)
  have main : ∀ (cnt : Nat) (listed : Array Bool), listed.size = (pre ++ tail).length → ((List.range pre.length).filter fun k => !listed.getD k false).length = cnt → (∀ k, pre.length ≤ k → listed.getD k false = false) →
      (∀ k o, pre[k]? = some o → listed.getD k false = true → ∀ e ∈ o.after, Region.binds .any e = true → listed.getD e.on false = true) →
      ∀ (c' : Ctx) (a : Act) (w' : World) (B : Nat → Nat), Mid E M w0 nt [] h env pre F c w (fun k => listed.getD k false = true) c' a w' → Fresh E.T (allocsOf pre 0) w (fun k => listed.getD k false = true) c' a w' B → wpAny P .any (pre ++ tail).toArray Q (cnt + tail.length) listed a w' := by
    intro cnt
    induction cnt with
    | zero =>
      intro listed hsz hcnt hlate hcl c' a w' B hm hf
      have hall : ∀ k, k < pre.length → listed.getD k false = true := fun k hk => by
        have := List.eq_nil_of_length_eq_zero hcnt
        rw [List.filter_eq_nil_iff] at this
        have := this k (List.mem_range.2 hk)
        simpa using this
      have hsim := mid_end hF hdr.glob (mid_mono (l2 := fun k => k < pre.length) (fun k hk => ⟨fun _ => hk, fun _ => hall k hk⟩) hF hm)
      obtain ⟨c2, hsim2⟩ := pushAll_ok hE (allocsOf pre 0) _ _ _ B hsim (fun p hp => by
        obtain ⟨o, q1, _, q2, q3, q4⟩ := allocsOf_mem hp
        simp only [Nat.sub_zero] at q1
        have hpl : p.1 < pre.length := tail_of.get_lt' q1
        obtain ⟨ct, r1, r2, r3, r4, r5, r6⟩ := hf.at_ p hp (hall _ hpl)
        obtain ⟨d, s1, s2, s3, s4⟩ := hF.step p.1 o q1
        have hcond := s3 (by rw [q3]; trivial)
        simp only [opA, pv, q2, r1] at hcond
        refine ⟨ct, r1, hcond, r2, Nat.le_trans hdr.good.keeps.size r3, r5, r6, fun i o' ho' e => ?_⟩
        rw [ownBlock_le hm.later.le (by rw [hdr.good.n]; exact get_lt ho')] at e
        have := (hdr.good.own i o' _ ho' e).2.1
        omega) ((allocs_pw pre 0).imp_of_mem fun {p q} hp hq hlt e => by
        obtain ⟨o, q1, _⟩ := allocsOf_mem hp
        obtain ⟨o', q1', _⟩ := allocsOf_mem hq
        simp only [Nat.sub_zero] at q1 q1'
        have := hf.inj p hp q hq (hall _ (tail_of.get_lt' q1)) (hall _ (tail_of.get_lt' q1')) e
        omega)
      rw [Nat.zero_add]
      refine tail_any hE hok hK ht tail.length pre.length (by simp) (Nat.le_refl _) listed hsz (fun k hk => ⟨fun hl => ?_, hall k⟩) _ _ c2 a w' (by rw [List.drop_left]; exact f3) hsim2
      rcases Nat.lt_or_ge k pre.length with h | h
      · exact h
      · rw [hlate k h] at hl; cases hl
    | succ cnt ih =>
      intro listed hsz hcnt hlate hcl c' a w' B hm hf
      rw [show cnt + 1 + tail.length = (cnt + tail.length) + 1 from by omega]
      have hpl : ∀ k, k < pre.length → (pre ++ tail)[k]? = pre[k]? := fun k hk => List.getElem?_append_left hk
      refine ⟨fun hr => ?_, fun i hi => ?_⟩
      · exfalso
        have hex : ∃ k, k < pre.length ∧ listed.getD k false = false := by
          have hne : ((List.range pre.length).filter fun k => !listed.getD k false) ≠ [] := fun e => by rw [e] at hcnt; cases hcnt
          obtain ⟨k, hk⟩ := List.exists_mem_of_ne_nil _ hne
          simp only [List.mem_filter, List.mem_range, Bool.not_eq_true'] at hk
          exact ⟨k, hk⟩
        have hmin : ∃ k, (k < pre.length ∧ listed.getD k false = false) ∧ ∀ j, j < k → ¬ (j < pre.length ∧ listed.getD j false = false) := by
          obtain ⟨k, hk⟩ := hex
          induction k using Nat.strongRecOn with
          | _ k ihk =>
            by_cases hh : ∃ j, j < k ∧ (j < pre.length ∧ listed.getD j false = false)
            · obtain ⟨j, hj, hp⟩ := hh; exact ihk j hj hp
            · exact ⟨k, hk, fun j hj hp => hh ⟨j, hj, hp⟩⟩
        obtain ⟨k, ⟨hk, hun⟩, hlow⟩ := hmin
        have hmem : k ∈ Region.ready .any (pre ++ tail).toArray listed := by
          rw [mem_ready]
          have hlt : k < listed.size := by rw [hsz]; simp; omega
          refine ⟨by simp [hlt] at hun ⊢; exact hun, pre[k], by rw [List.getElem?_toArray, hpl k hk]; exact List.getElem?_eq_getElem hk, fun e he hb => ?_⟩
          have := (hanyI k _ (List.getElem?_eq_getElem hk)).1 e he hb
          have hn := hlow e.on this
          by_cases hh : listed.getD e.on false = true
          · exact hh
          · exact absurd ⟨by omega, by simpa using hh⟩ hn
        rw [hr] at hmem; cases hmem
      · obtain ⟨h1, o, ho, hall⟩ := mem_ready.1 hi
        have ho : (pre ++ tail)[i]? = some o := by simpa using ho
        have hil0 := tail_of.get_lt' ho
        have hex : ∃ k, k < pre.length ∧ listed.getD k false = false := by
          have hne : ((List.range pre.length).filter fun k => !listed.getD k false) ≠ [] := fun e => by rw [e] at hcnt; cases hcnt
          obtain ⟨k, hk⟩ := List.exists_mem_of_ne_nil _ hne
          simp only [List.mem_filter, List.mem_range, Bool.not_eq_true'] at hk
          exact ⟨k, hk⟩
        have hil : i < pre.length := by
          rcases Nat.lt_or_ge i pre.length with h | h
          · exact h
          · obtain ⟨k, hk, hun⟩ := hex
            have hk2 := (tail_of ht ho).2 h (fun k => listed.getD k false = true) (fun j o' ho' hj e he hb => by
              have hjp : j < pre.length := by
                rcases Nat.lt_or_ge j pre.length with h' | h'
                · exact h'
                · rw [hlate j h'] at hj; cases hj
              exact hcl j o' (by rw [← hpl j hjp]; exact ho') hj e he hb) (fun e he hb => hall e he hb) k (by omega)
            rw [hun] at hk2; cases hk2
        rw [hpl i hil] at ho
        have hlt : i < listed.size := by omega
        have hni : ¬ listed.getD i false = true := by simp [hlt] at h1 ⊢; exact h1
        obtain ⟨a1, a2, a3⟩ := hanyI i o ho
        obtain ⟨d, s1, _, _, _⟩ := hF.step i _ ho
        have hokO := hokp o (List.mem_of_getElem? ho)
        refine wpOp_pre ho (fun j p hg => ?_) ?_
        · obtain ⟨e, he, hb, hon⟩ := a2 j p hg
          have := a1 e he hb
          omega
        refine mid_step hE hF hokp hdr.glob hm ho hni (fun t ht k ok hk hd => ?_) (fun j p hg => ?_) (fun k ok hk hd => uniq_of hu ho hk hd (by rw [s1]; simp)) fun c'' a'' w'' hm' hx => ?_
        · rcases a3 t ht k ok hk hd with h | ⟨h, e, he, hb, hon⟩ | ⟨h, e, he, hb, hon⟩
          · exact ⟨fun h' => by omega, fun h' => by omega⟩
          · exact ⟨fun _ => hon ▸ hall e he hb, fun h' => by omega⟩
          · exact ⟨fun h' => by omega, fun _ hkl => hni (hon ▸ hcl k ok hk hkl e he hb)⟩
        · obtain ⟨e, he, hb, hon⟩ := a2 j p hg
          exact hon ▸ hall e he hb
        · have hset : ∀ k, (listed.setIfInBounds i true).getD k false = true ↔ (listed.getD k false = true ∨ k = i) := fun k => by
            by_cases e : i = k
            · subst e; simp [hlt]
            · rw [getD_set_ne false e]
              exact ⟨.inl, fun h => h.resolve_right (fun h => e h.symm)⟩
          obtain ⟨B', hf'⟩ := hf.step ho (by rw [hm.size]; exact hokO) hu hni (by rw [s1]; simp) hm.good.sfin hx
          refine ih (listed.setIfInBounds i true) (by simp [hsz]) ?_ (fun k hk => ?_) (fun k o' hk hkl e he hb => ?_) c'' a'' w'' B' (mid_mono (fun k _ => (hset k).symm) hF hm') ⟨hf'.size, fun p hp hl => hf'.at_ p hp ((hset _).1 hl), fun p hp q hq hl1 hl2 => hf'.inj p hp q hq ((hset _).1 hl1) ((hset _).1 hl2)⟩
          · have hfil : ((List.range pre.length).filter fun k => !(listed.setIfInBounds i true).getD k false) = ((List.range pre.length).filter fun k => !listed.getD k false).filter (fun k => decide (k ≠ i)) := by
              rw [List.filter_filter]
              apply List.filter_congr
              intro k _
              rw [Bool.eq_iff_iff]
              by_cases e : k = i
              · subst e; simp [hlt]
              · have h2 : (listed.setIfInBounds i true).getD k false = listed.getD k false := getD_set_ne false (fun h => e h.symm)
                rw [h2]
                simp [e]
            rw [hfil]
            have hnd : ((List.range pre.length).filter fun k => !listed.getD k false).Nodup := List.nodup_range.filter _
            have hmem : i ∈ ((List.range pre.length).filter fun k => !listed.getD k false) := by
              simp only [List.mem_filter, List.mem_range]
              exact ⟨hil, by simpa using hni⟩
            have := hnd.erase_eq_filter i
            have e2 : (((List.range pre.length).filter fun k => !listed.getD k false).filter (fun k => decide (k ≠ i))) = ((List.range pre.length).filter fun k => !listed.getD k false).erase i := by
              rw [this]
              apply List.filter_congr
              intro k _
              by_cases e : k = i <;> simp [e]
            rw [e2, List.length_erase_of_mem hmem, hcnt]; rfl
          · rw [getD_set_ne false (by omega)]; exact hlate k hk
          · rcases (hset k).1 hkl with h | h
            · exact (hset _).2 (.inl (hcl k o' hk h e he hb))
            · subst h
              rw [ho] at hk
              cases hk
              exact (hset _).2 (.inl (hall e he hb))
  have hstart := main pre.length (Array.replicate (pre ++ tail).length false) (by simp) (by
      rw [List.filter_eq_self.2 (fun k _ => by rw [rep_false]; rfl)]; simp) (fun k _ => rep_false _ _) (fun k o ho hl => by rw [rep_false] at hl; cases hl) c a w (fun _ => 0) (mid_mono (fun k hk => ⟨False.elim, fun h => by rw [rep_false] at h; cases h⟩) hF (mid_start hdr)) ⟨Nat.le_refl _, (fun p hp hl => by rw [rep_false] at hl; cases hl), (fun p hp q hq hl => by rw [rep_false] at hl; cases hl)⟩
  simpa using hstart

/-- what comes behind the plain part of such a region -/
def contC (F : Fr) (Q : Exit → Act → World → Prop) (keep : List Nat) (all pre tail : List Oper) (env : St) (h : List Obj) (acc : List Ent) : Prop :=
  seqB F.E all tail (pushAll F.E.T (allocsOf pre 0) (envOut acc env) h).1 (pushAll F.E.T (allocsOf pre 0) (envOut acc env) h).2 (fun env h => At F (Q .normal) (keep.map fun t => (t, look env t)) h)

theorem tri_regionC {F : Fr} {Q : Exit → Act → World → Prop} {env : St} {h : List Obj} (hF : FrOK F) {id : Nat} {ops : Array Oper} (n : Nat) (hst : (anyB (ops.toList.take n) && uniqB (ops.toList.take n) && tailB (ops.toList.take n).length ops.toList) = true) (keep : List Nat)
    (hv : vcA F.E h env (ops.toList.take n) 0 [] (contC F Q keep ops.toList (ops.toList.take n) (ops.toList.drop n) env h)) : Tri F (.region id ops true) Q env h := fun hok c a w hs => by
  simp only [okCode, Bool.and_eq_true, Bool.or_eq_true, Bool.not_eq_true'] at hok
  obtain ⟨⟨h1, h2⟩, h3⟩ := hok
  simp only [Bool.and_eq_true] at hst
  obtain ⟨⟨t1, t2⟩, t3⟩ := hst
  have e : ops.toList.take n ++ ops.toList.drop n = ops.toList := List.take_append_drop n ops.toList
  have := region_C (id := id) (pre := ops.toList.take n) (tail := ops.toList.drop n) (Q := Q) hF.env hF.mix (by rw [e]; exact List.all_eq_true.1 h1) t2 t1 (by rw [e]; exact t3) hs (K' := fun env h => At F (Q .normal) (keep.map fun t => (t, look env t)) h) (by rw [e]; exact hv) (fun env h c a w hk hs => hk c a w (hs.keep keep))
  rw [e] at this
  simpa using this

end
end Go.Vc

/-
  A GENERIC LAYER OVER THE KIT'S wp: loops and meeting branches told by what turns in them; scopes. No program text.
-/
namespace Go.Vc
open Go.RowKit
set_option linter.unusedVariables false
set_option linter.unusedSimpArgs false

def updO : List Obj → List (Nat × Obj) → List Obj
  | h, [] => h
  | h, (i, o) :: r => updO (h.set i o) r
def updE (env : St) (keep : List Nat) (u : St) : St := u ++ keep.map fun t => (t, look env t)

theorem rep_set1 {α : Type} (a s : α) : (List.replicate 1 a).set 0 s = [s] := rfl
theorem rep_set2 {α : Type} (a s k : α) : ((List.replicate 2 a).set 0 s).set 1 k = [s, k] := rfl
theorem rep_set3 {α : Type} (a s k m : α) : (((List.replicate 3 a).set 0 s).set 1 k).set 2 m = [s, k, m] := rfl

section
variable {F : Fr} {Q : Exit → Act → World → Prop} {env : St} {h : List Obj}

/-- a loop: 'keep' names the slots that no round turns, 'uE' what the others hold, 'uO' the objects that turn -/
theorem tri_loopU {x : Code} {D : Type} (keep : List Nat) (I : D → Prop) (μ : D → Nat) (uE : D → St) (uO : D → List (Nat × Obj))
    (h0 : At F (fun a w => ∃ d c, I d ∧ Sim F.E F.M F.w0 F.nt [] c (updE env keep (uE d)) (updO h (uO d)) a w) env h)
    (round : ∀ d, I d → Tri F x (Exit.then (fun a' w' => ∃ d' c', (I d' ∧ μ d' < μ d) ∧ Sim F.E F.M F.w0 F.nt [] c' (updE env keep (uE d')) (updO h (uO d')) a' w') Q) (updE env keep (uE d)) (updO h (uO d))) : Tri F (.loop x) Q env h :=
  tri_loop I μ (fun d => updE env keep (uE d)) (fun d => updO h (uO d)) h0 round

theorem tri_joinU {x y : Code} {D : Type} (keep : List Nat) (J : D → Prop) (uE : D → St) (uO : D → List (Nat × Obj))
    (hx : Tri F x (Exit.then (fun a' w' => ∃ d' c', J d' ∧ Sim F.E F.M F.w0 F.nt [] c' (updE env keep (uE d')) (updO h (uO d')) a' w') Q) env h)
    (hy : ∀ d, J d → Tri F y Q (updE env keep (uE d)) (updO h (uO d))) : Tri F (.seq x y) Q env h :=
  tri_join J (fun d => updE env keep (uE d)) (fun d => updO h (uO d)) hx hy

theorem tri_scope {x : Code} (hx : Tri F x (Exit.noGoto Q) env h) : Tri F (.scope x) Q env h := fun hok c a w hs =>
  wp_scope_straight (hx (by simpa [okCode] using hok) c a w hs)
theorem at_scope_norm (hq : At F (Q .normal) env h) : At F (Exit.noGoto Q .normal) env h := hq
theorem at_scope_ret (hq : At F (Q .ret) env h) : At F (Exit.noGoto Q .ret) env h := hq
theorem at_scope_exit {id : Nat} (hq : At F (Q (.exit id)) env h) : At F (Exit.noGoto Q (.exit id)) env h := hq

end
end Go.Vc

/-
  A GENERIC LAYER OVER THE KIT'S wp: the words that open its functions, in one set of equations. No program text.
-/
namespace Go.Vc
attribute [go_sem] Int.toNat_natCast vcA opA pv lookA pickA evA entAt entOf gpOf gpHolds guardOK
attribute [go_sem] prefB isBoolAV boolAV constAV constAV1 normT outK outV Go.Vc.look loadAV binAV binI
attribute [go_sem] binU binB binS unAV convAV ixAV faddrAV faddrAV.fldT fieldAV iaddrAV indexAV lenAV
attribute [go_sem] sliceAV extractAV nilCheckAV makeFuncAV callOpAV callAV buildAV buildSliceAV mmAV mm2 getP fieldOf
attribute [go_sem] Go.Vc.elemOf elemC List.all_cons List.all_nil Int.le_refl Nat.le_refl AV.solid AV.solid1 AV.nc AV.nc1 AV.isAgg Ty.isAgg
attribute [go_sem] Ty.cells Ty.zero fits64 List.map List.append List.length Option.map decide_true decide_false Bool.and_true Bool.true_and true_and
attribute [go_sem] and_true implies_true forall_const if_true if_false IntKind.signed Ty.den Nat.succ_ne_self ne_eq not_false_eq_true not_true_eq_false List.getElem?_nil
attribute [go_sem] look2 List.nil_append List.cons_append beq_self_eq_true Bool.and_self cond_true cond_false Bool.cond_true_left Bool.cond_false_right seqB stepB effAV
attribute [go_sem] effCall frzFor freezeAll freeze thaw thaw1 storeAV appendAV makeAV callOwn isOwn pickB
attribute [go_sem] putE dstAt setP setFld setElem explode pathB Ty.strB castL_self bound argsAV as_val
attribute [go_sem] as_nilS as_full as_own rowOf_eq frzAll Ty.scalar frzOnly resAV RK.ty AV.tags AV.tags1 List.flatMap_cons
attribute [go_sem] List.flatMap_nil List.getElem?_cons_zero List.getElem?_cons_succ List.set_cons_zero List.set_cons_succ List.length_cons List.length_nil Nat.zero_add tupAV List.getD_cons_zero List.getD_cons_succ dite_true
attribute [go_sem] Ty.okB Ty.byt IntKind.bits capsB allBox as_fn as_ptr as_roa as_agg as_unit tagOf allTags
attribute [go_sem] gt_iff_lt ge_iff_le List.length_replicate List.replicate_zero List.length_set rep_set1 rep_set2 rep_set3 maxLen_eq updO updE lookupAV
attribute [go_sem] mapT makeMapAV putAV Ty.keyB Ty.key1 Option.some.injEq exists_eq_left' List.append_nil decide_eq_true_eq decide_eq_false_iff_not Bool.or_eq_true Bool.or_eq_false_iff
attribute [go_sem] Bool.and_eq_true Int.not_lt Int.not_le Bool.not_eq_true' Bool.not_eq_false' allocsOf boxOf envOut pushAll List.take_succ_cons List.take_zero List.drop_succ_cons
attribute [go_sem] List.drop_zero zeroAV zerosF setF setE partsOK Ty.flds packAV fldV Ty.fieldOff listAV parse
attribute [go_sem] parse0 as_flat as_flat0 Option.getD_some Option.getD_none Bool.not_true Bool.not_false Bool.false_eq_true Bool.true_eq_false false_implies and_false false_and
attribute [go_sem] or_true true_or or_false false_or Bool.or_true Bool.or_false Bool.true_or Bool.false_or Bool.and_false Bool.false_and Int.reduceToNat Int.reduceLE
attribute [go_sem] Int.reduceLT Nat.reduceEqDiff Nat.reduceAdd Nat.reduceMul Nat.reduceLT Nat.reduceSub Nat.reduceLeDiff Nat.reduceDiv Nat.reduceMod Nat.reducePow Nat.reduceGT Int.reduceEq
attribute [go_sem] Int.reduceNe Int.reduceAdd Int.reduceSub Int.reduceNeg Int.reduceMul reduceIte reduceCtorEq
end Go.Vc

/-
  A GENERIC LAYER OVER THE KIT'S wp: WHAT CAME IN, READ AS PLAIN DATA: what the row's reading tells of an argument is a datum of its type's code. No program text.
-/
namespace Go.Vc
open Go.RowKit
set_option linter.unusedVariables false
set_option linter.unusedSimpArgs false

/-- data that an argument may be -/
def Ty.argB : Ty → Bool
  | .bool => true
  | .u _ => true
  | .i _ => true
  | .str => true
  | .sl t => t.argB
  | .unit => true
  | .pair a b => a.argB && b.argB
  | .arr _ t => t.argB
  | .expr => true
  | _ => false

section
variable {P : Program} {T : Tab} {H : Type} {enc : TypeId × Value → H} {w : World} {spare : Nat → Bool} {held : Bool}

theorem cellsOf_eq {t : TypeId} {c : Ty} (h : TyOK P T t c) : P.cellsOf t = c.cells := by
  obtain ⟨i, hi, hs, _⟩ := h.info
  simp [Program.cellsOf, hi, hs]

def Inside (w : World) : Nat → Prop := fun b => b < w.heap.size

theorem cells_get {a : Addr} {n : Nat} {ds : List Value} (h : w.cells? 0 a n = some ds) : ds.length = n ∧ ∀ j, j < n → w.cell? (a.add j) = ds[j]? := by
  unfold World.cells? at h
  rw [if_pos (Nat.zero_le _)] at h
  have hl := mapM_some_length h
  have hg := mapM_some_get h
  simp only [List.length_range] at hl
  exact ⟨hl, fun j hj => hg j j (by simp [hj])⟩

theorem cell_lt {b off : Nat} {v : Value} (h : w.cell? ⟨b, off, none⟩ = some v) : b < w.heap.size := by
  rcases Nat.lt_or_ge b w.heap.size with hl | hl
  · exact hl
  · simp [World.cell?, Array.getElem?_eq_none hl] at h

theorem add_at (a : Addr) (i j : Nat) (h : a.spot = none) : (a.add i).add j = ⟨a.block, a.off + i + j, none⟩ := by
  obtain ⟨b, o, s⟩ := a
  simp only at h
  subst h
  unfold Addr.add
  by_cases hi : i = 0 <;> by_cases hj : j = 0 <;> simp [hi, hj] <;> omega

theorem elems_of {sz : Nat} (hsz : 0 < sz) {α : Type} {R : α → List Value → Prop} {a : Addr} {len : Nat} (hel : ∀ i, i < len → ∃ ds x, w.cells? 0 (a.add (i * sz)) sz = some ds ∧ R x ds) :
    ∃ xs : List α, xs.length = len ∧ (xs = [] ∨ ∃ b off, some a = some ⟨b, off, none⟩ ∧ Inside w b ∧ ∀ i (h : i < xs.length), ∃ ds, R xs[i] ds ∧ cellsAt w b (off + i * sz) ds) := by
  classical
  by_cases h0 : len = 0
  · exact ⟨[], by simp [h0], .inl rfl⟩
  have hpos : 0 < len := by omega
  obtain ⟨ds0, x0, e0, _⟩ := hel 0 hpos
  have hsp : a.spot = none := by
    obtain ⟨hl, hg⟩ := cells_get e0
    have := hg 0 hsz
    have hd : (ds0)[0]? = some (ds0[0]'(by omega)) := List.getElem?_eq_getElem (by omega)
    rw [hd] at this
    have := World.cell?_spot this
    simpa [Addr.add] using this
  have hf : ∃ f : Nat → α, ∀ i, i < len → ∃ ds, w.cells? 0 (a.add (i * sz)) sz = some ds ∧ R (f i) ds := by
    refine ⟨fun i => if h : i < len then Classical.choose (Classical.choose_spec (hel i h)) else x0, fun i hi => ?_⟩
    simp only [dif_pos hi]
    exact ⟨Classical.choose (hel i hi), Classical.choose_spec (Classical.choose_spec (hel i hi))⟩
  obtain ⟨f, hf⟩ := hf
  have hcell : ∀ i, i < len → ∀ ds, w.cells? 0 (a.add (i * sz)) sz = some ds → cellsAt w a.block (a.off + i * sz) ds := fun i hi ds hds j v hj => by
    obtain ⟨hl, hg⟩ := cells_get hds
    have hjl : j < sz := by
      rcases Nat.lt_or_ge j sz with h | h
      · exact h
      · rw [List.getElem?_eq_none (by omega)] at hj; cases hj
    have := hg j hjl
    rw [add_at a _ j hsp, hj] at this
    exact this
  refine ⟨(List.range len).map f, by simp, .inr ⟨a.block, a.off, ?_, ?_, fun i hi => ?_⟩⟩
  · obtain ⟨b, o, s⟩ := a; simp only at hsp; subst hsp; rfl
  · obtain ⟨ds, hds, _⟩ := hf 0 hpos
    have := hcell 0 hpos ds hds 0 (ds[0]'(by rw [(cells_get hds).1]; exact hsz)) (List.getElem?_eq_getElem _)
    exact cell_lt this
  · simp only [List.length_map, List.length_range] at hi
    obtain ⟨ds, hds, hR⟩ := hf i hi
    exact ⟨ds, by simpa using hR, hcell i hi ds hds⟩

theorem rep_fields {n : Nat} (ih : ∀ (t : TypeId) (c : Ty) (cs : List Value) (x : DataW H × List MemPlace), T t = some c → c.argB = true → DataW.trod enc P w 0 spare held n t cs = some x → ∃ y, RepC w (Inside w) c y cs) (hT : TabOK P T) (cs : List Value) :
    ∀ (fs : List Field) (off : Nat) (c : Ty), fieldsB T fs off c = true → c.argB = true → (cs.drop off).length = c.cells → (∀ f ∈ fs, ∃ x, DataW.trod enc P w 0 spare held n f.type ((cs.drop f.offset).take (P.cellsOf f.type)) = some x) → ∃ y, RepC w (Inside w) c y (cs.drop off)
  | [], off, c, hf, ha, hl, _ => by
    cases c <;> simp [fieldsB] at hf
    exact ⟨(), List.eq_nil_of_length_eq_zero hl⟩
  | f :: fs, off, c, hf, ha, hl, hx => by
    cases c <;> simp only [fieldsB, Bool.false_eq_true] at hf
    case pair a b =>
      simp only [Bool.and_eq_true, decide_eq_true_eq] at hf
      obtain ⟨⟨⟨⟨h1, h2⟩, h3⟩, h4⟩, h5⟩ := hf
      simp only [Ty.argB, Bool.and_eq_true] at ha
      obtain ⟨x, hx0⟩ := hx f (by simp)
      rw [cellsOf_eq (hT _ _ h1), h2] at hx0
      obtain ⟨y1, r1⟩ := ih _ _ _ _ h1 ha.1 hx0
      simp only [Ty.cells] at hl
      obtain ⟨y2, r2⟩ := rep_fields ih hT cs fs (off + a.cells) b h5 ha.2 (by simp only [List.length_drop] at hl ⊢; omega) (fun g hg => hx g (by simp [hg]))
      refine ⟨(y1, y2), (cs.drop off).take a.cells, cs.drop (off + a.cells), ?_, r1, r2⟩
      rw [← List.drop_drop, List.take_append_drop]

theorem rep_of_trod (hT : TabOK P T) : ∀ (n : Nat) (t : TypeId) (c : Ty) (cs : List Value) (x : DataW H × List MemPlace), T t = some c → c.argB = true → DataW.trod enc P w 0 spare held n t cs = some x → ∃ y, RepC w (Inside w) c y cs := by
  intro n
  induction n with
  | zero => intro t c cs x _ _ h; simp [DataW.trod] at h
  | succ n ih =>
    intro t c cs x ht ha h
    obtain ⟨d, hd, hb⟩ := (hT _ _ ht).desc
    cases c with
    | bool =>
      cases d <;> simp [descB] at hb
      obtain ⟨b, e, _⟩ := DataW.trod_bool hd h
      exact ⟨b, e⟩
    | u k =>
      cases d <;> simp [descB] at hb
      rename_i k'
      obtain ⟨rfl, hb⟩ := hb
      obtain ⟨m, e, _, hw⟩ := DataW.trod_int hd h
      simp only [Lit.wf, Bool.and_eq_true, decide_eq_true_eq] at hw
      have hmin : IntKind.min k = 0 := by cases k <;> first | rfl | (simp [IntKind.signed] at hb; done)
      have hm : ((m.toNat : Nat) : Int) = m := Int.toNat_of_nonneg (by omega)
      exact ⟨m.toNat, by rw [hm]; exact e, hb, by rw [hm]; exact hw.2⟩
    | i k =>
      cases d <;> simp [descB] at hb
      rename_i k'
      obtain ⟨rfl, hb⟩ := hb
      obtain ⟨m, e, _, hw⟩ := DataW.trod_int hd h
      simp only [Lit.wf, Bool.and_eq_true, decide_eq_true_eq] at hw
      exact ⟨m, e, hb, hw.1, hw.2⟩
    | str =>
      cases d <;> simp [descB] at hb
      obtain ⟨s, e, _, hs⟩ := DataW.trod_string hd h
      exact ⟨strL s, s, e, rfl, hs⟩
    | sl t1 =>
      cases d <;> simp [descB] at hb
      obtain ⟨hb1, hb2⟩ := hb
      rcases DataW.trod_slice hd h with ⟨rfl, _⟩ | ⟨a, len, cap, elems, rest, m, hm, rfl, _, _, hl, hc, hlen, hel, _⟩
      · exact ⟨[], none, 0, 0, rfl, rfl, Nat.le_refl _, Nat.zero_le _, .inl rfl⟩
      · cases hm
        rw [cellsOf_eq (hT _ _ hb1)] at hel
        obtain ⟨xs, h1, h2⟩ := elems_of (w := w) hb2 (R := RepC w (Inside w) t1) (a := a) (len := len) (fun i hi => by
          have := hel i hi
          rw [List.getElem?_eq_getElem (by omega)] at this
          obtain ⟨ds, hds, hx⟩ := Option.bind_eq_some_iff.1 this
          obtain ⟨y, hy⟩ := ih _ _ _ _ hb1 ha hx
          exact ⟨ds, y, hds, hy⟩)
        exact ⟨xs, some a, len, cap, rfl, h1, hl, hc, h2⟩
    | unit =>
      cases d <;> simp [descB] at hb
      rename_i fs
      obtain ⟨xs, m, _, _, hlen, _⟩ := DataW.trod_struct hd h
      rw [cellsOf_eq (hT _ _ ht)] at hlen
      exact ⟨(), List.eq_nil_of_length_eq_zero hlen⟩
    | pair a b =>
      cases d <;> simp [descB] at hb
      rename_i fs
      obtain ⟨xs, m, hm, _, hlen, hxl, hf⟩ := DataW.trod_struct hd h
      cases hm
      rw [cellsOf_eq (hT _ _ ht)] at hlen
      have := rep_fields ih hT cs fs.toList 0 (.pair a b) hb ha (by simpa using hlen) (fun f hf' => by
        obtain ⟨i, hi, rfl⟩ := List.mem_iff_getElem.1 hf'
        have hi' : i < fs.size := by simpa using hi
        have := hf i fs[i] (Array.getElem?_eq_getElem hi')
        rw [List.getElem?_eq_getElem (by omega)] at this
        exact ⟨_, by simpa using this⟩)
      simpa using this
    | arr m t1 =>
      cases d <;> simp [descB] at hb
      obtain ⟨⟨⟨rfl, hb1⟩, hb2⟩, _⟩ := hb
      obtain ⟨xs, q, hq, _, hlen, hxl, hf⟩ := DataW.trod_array hd h
      cases hq
      rw [cellsOf_eq (hT _ _ ht)] at hlen
      rw [cellsOf_eq (hT _ _ hb1)] at hf
      have hall : ∀ i, i < m → ∃ y, RepC w (Inside w) t1 y ((cs.drop (i * t1.cells)).take t1.cells) := fun i hi => by
        have := hf i hi
        rw [List.getElem?_eq_getElem (by omega)] at this
        exact ih _ _ _ _ hb1 ha this
      classical
      have hfun : ∃ f : Nat → t1.den, ∀ i, i < m → RepC w (Inside w) t1 (f i) ((cs.drop (i * t1.cells)).take t1.cells) := by
        refine ⟨fun i => if h : i < m then Classical.choose (hall i h) else t1.zero, fun i hi => ?_⟩
        simp only [dif_pos hi]
        exact Classical.choose_spec (hall i hi)
      obtain ⟨f, hfun⟩ := hfun
      refine ⟨(List.range m).map f, by simp, (List.range m).map fun i => (cs.drop (i * t1.cells)).take t1.cells, ?_, by simp, fun i h1 h2 => ?_⟩
      · have : ∀ (k : Nat) (l : List Value), l.length = k * t1.cells → l = ((List.range k).map fun i => (l.drop (i * t1.cells)).take t1.cells).flatten := by
          intro k
          induction k with
          | zero => intro l hl; simp at hl; simp [hl]
          | succ k ihk =>
            intro l hl
            rw [List.range_succ, List.map_append, List.flatten_append]
            have h1 := ihk (l.take (k * t1.cells)) (by simp [hl, Nat.add_mul])
            have h2 : ((List.range k).map fun i => ((l.take (k * t1.cells)).drop (i * t1.cells)).take t1.cells) = ((List.range k).map fun i => (l.drop (i * t1.cells)).take t1.cells) := by
              apply List.map_congr_left
              intro i hi
              have hik : i < k := List.mem_range.1 hi
              rw [List.drop_take, List.take_take]
              congr 1
              have : (i + 1) * t1.cells ≤ k * t1.cells := Nat.mul_le_mul_right _ hik
              rw [Nat.add_mul] at this
              omega
            rw [h2] at h1
            rw [← h1]
            simp only [List.map_cons, List.map_nil, List.flatten_cons, List.flatten_nil, List.append_nil]
            rw [List.take_of_length_le (l := l.drop (k * t1.cells)) (by simp [hl, Nat.add_mul]), List.take_append_drop]
        exact this m cs hlen
      · simp only [List.length_map, List.length_range] at h1
        simpa using hfun i h1
    | expr =>
      cases d <;> simp [descB] at hb
      rename_i fs
      obtain ⟨xs, m, hm, _, hlen, hxl, hf⟩ := DataW.trod_struct hd h
      cases hm
      rw [cellsOf_eq (hT _ _ ht)] at hlen
      have hfs : ∃ f0 f1 f2, fs.toList = [f0, f1, f2] ∧ (T f0.type = some (.i .i64) ∧ f0.offset = 0 ∧ T f1.type = some .str ∧ f1.offset = 1 ∧ T f2.type = some (.sl .expr) ∧ f2.offset = 2) := by
        unfold exprB at hb
        split at hb
        · rename_i f0 f1 f2 hfs
          simp only [Bool.and_eq_true, decide_eq_true_eq] at hb
          exact ⟨f0, f1, f2, hfs, hb.1.1.1.1.1, hb.1.1.1.1.2, hb.1.1.1.2, hb.1.1.2, hb.1.2, hb.2⟩
        · cases hb
      obtain ⟨f0, f1, f2, hfs, t0, o0, t1, o1, t2, o2⟩ := hfs
      have hget : ∀ (i : Nat) (f : Field), fs.toList[i]? = some f → ∃ x, DataW.trod enc P w 0 spare held n f.type ((cs.drop f.offset).take (P.cellsOf f.type)) = some x := fun i f hi => by
        have hi' : fs[i]? = some f := by simpa using hi
        have := hf i f hi'
        have hil : i < fs.size := by
          rcases Nat.lt_or_ge i fs.size with h | h
          · exact h
          · rw [Array.getElem?_eq_none h] at hi'; cases hi'
        rw [List.getElem?_eq_getElem (by omega)] at this
        exact ⟨_, this⟩
      obtain ⟨x0, h0⟩ := hget 0 f0 (by rw [hfs]; rfl)
      obtain ⟨x1, h1⟩ := hget 1 f1 (by rw [hfs]; rfl)
      obtain ⟨x2, h2⟩ := hget 2 f2 (by rw [hfs]; rfl)
      rw [cellsOf_eq (hT _ _ t0), o0] at h0
      rw [cellsOf_eq (hT _ _ t1), o1] at h1
      rw [cellsOf_eq (hT _ _ t2), o2] at h2
      obtain ⟨y0, r0⟩ := ih _ _ _ _ t0 rfl h0
      obtain ⟨y1, r1⟩ := ih _ _ _ _ t1 rfl h1
      obtain ⟨y2, r2⟩ := ih _ _ _ _ t2 rfl h2
      match cs, hlen with
      | [c0, c1, c2], _ =>
        simp only [Ty.cells, List.drop_zero, List.drop_succ_cons, List.take_succ_cons, List.take_zero] at r0 r1 r2
        obtain ⟨e0, _, b1, b2⟩ := r0
        obtain ⟨s, e1, rfl, hs⟩ := r1
        obtain ⟨a, len, cap, e2, hl1, hl2, hl3, hl4⟩ := r2
        simp only [List.cons.injEq, and_true] at e0 e1 e2
        subst e0; subst e1; subst e2
        classical
        refine ⟨.mk y0 (strL s) y2, ?_⟩
        rcases hl4 with rfl | ⟨b, off, ha, hb, hel⟩
        · exact RepEx.mk y0 s [] a len cap (fun _ => []) ⟨b1, b2⟩ hs hl1 hl2 hl3 (fun i h => by simp at h) (.inl rfl)
        · refine RepEx.mk y0 s y2 a len cap (fun i => if h : i < List.length y2 then Classical.choose (hel i h) else []) ⟨b1, b2⟩ hs hl1 hl2 hl3 (fun i h => ?_) (.inr ⟨b, off, ha, hb, fun i h => ?_⟩)
          · simp only [dif_pos h]; exact (Classical.choose_spec (hel i h)).1
          · simp only [dif_pos h]; exact (Classical.choose_spec (hel i h)).2
    | rp t1 => simp [Ty.argB] at ha
    | clo g t1 => simp [Ty.argB] at ha

theorem repV_of (hT : TabOK P T) {t : TypeId} {c : Ty} {r : Reach} {base : Nat} {v : Value} {d : DataW H} {ps : List MemPlace} (ht : T t = some c) (ha : c.argB = true) (hw : Value.okWide P w r base t v) (h : DataW.Trod enc P w 0 spare held t v d ps) : ∃ y, RepV w (Inside w) c y v := by
  obtain ⟨n, hn⟩ := h
  obtain ⟨y, hy⟩ := rep_of_trod hT n t c _ _ ht ha hn
  refine ⟨y, RepV.of_cells (fun hag => ?_) (fun hna => ?_) hy⟩
  · obtain ⟨d, hd, hb⟩ := (hT _ _ ht).desc
    unfold Value.okWide at hw
    rw [hd] at hw
    cases c <;> simp [Ty.isAgg] at hag
    all_goals (cases d <;> first | (simp [descB] at hb; done) | skip)
    all_goals (obtain ⟨cs, rfl, _⟩ := hw; exact ⟨cs, rfl⟩)
  · intro cs e
    subst e
    obtain ⟨d, hd, hb⟩ := (hT _ _ ht).desc
    unfold Value.okWide at hw
    rw [hd] at hw
    cases c <;> simp [Ty.isAgg] at hna
    all_goals (cases d <;> first | (simp [descB] at hb; done) | skip)
    all_goals (simp [Cell.okWide, Cell.ok, hd] at hw)

def tysB (T : Tab) : Ty → List TypeId → Bool
  | .unit, [] => true
  | .pair a r, t :: ts => decide (T t = some a) && a.argB && tysB T r ts
  | _, _ => false

theorem args_of (hT : TabOK P T) {r : Reach} {base : Nat} : ∀ (c : Ty) (ts : List TypeId) (vs : List Value) (ds : List (DataW H)) (ps : List MemPlace), tysB T c ts = true → DataW.TrodAll enc P w 0 spare held ts vs ds ps → (∀ (j : Nat) t v, ts[j]? = some t → vs[j]? = some v → Value.okWide P w r base t v) → ∃ x, ArgsR w (Inside w) c x vs
  | .unit, [], vs, ds, ps, _, h, _ => by
    cases vs <;> cases ds <;> simp [DataW.TrodAll] at h
    exact ⟨(), rfl⟩
  | .pair a c, t :: ts, vs, ds, ps, hb, h, hw => by
    simp only [tysB, Bool.and_eq_true, decide_eq_true_eq] at hb
    cases vs <;> cases ds <;> simp only [DataW.TrodAll] at h
    rename_i v vs d ds
    obtain ⟨p, q, h1, h2, _⟩ := h
    obtain ⟨y, hy⟩ := repV_of hT hb.1.1 hb.1.2 (hw 0 t v rfl rfl) h1
    obtain ⟨x, hx⟩ := args_of hT c ts vs ds q hb.2 h2 (fun j t' v' e1 e2 => hw (j + 1) t' v' (by simpa using e1) (by simpa using e2))
    exact ⟨(y, x), v, vs, rfl, hy, hx⟩

end
end Go.Vc

