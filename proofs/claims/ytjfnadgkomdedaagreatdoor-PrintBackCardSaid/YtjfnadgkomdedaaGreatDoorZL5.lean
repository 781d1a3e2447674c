import Derived.Test.YtjfnadgkomdedaaGreatDoorZL4
import Derived.Scope
import Derived.ProofKit
import Derived.OpenShut
import Derived.Below
import Derived.Recover
set_option linter.unusedVariables false
set_option linter.unusedSimpArgs false
namespace Go.Vc
open Go.RowKit
def gam : List (FuncId × aF) → FuncId → Option aF
 | [], _ => none
 | (k, sp) :: r, f => if k = f then some sp else gam r f
theorem aWr {l : List (FuncId × aF)} {f : FuncId} {sp : aF} (h : gam l f = some sp) : (f, sp) ∈ l := by
 induction l with
 | nil => cases h
 | cons p r ih =>
  obtain ⟨k, s⟩ := p
  simp only [gam] at h
  split at h
  ·rename_i e; subst e; cases h; exact List.mem_cons_self
  ·exact List.mem_cons_of_mem _ (ih h)
def fnB (P : Program) (f : FuncId) : Bool := match P.funcs[f]? with
 | some fn => decide (fn.name ≠ "runtime.NumGoroutine") && fn.body.isSome
 | none => false
structure bG (P : Program) (G : Nat → AV) (l : List (FuncId × aF)) : Prop where
 ok : ∀ p ∈ l, (FOK P G p.1 p.2 ∧ fnB P p.1 = true) ∨ NOK P G p.1 p.2
theorem bG.nil {P : Program} {G : Nat → AV} : bG P G [] := ⟨fun p hp => by cases hp⟩
theorem bG.cons {P : Program} {G : Nat → AV} {l : List (FuncId × aF)} {f : FuncId} {sp : aF} (h : FOK P G f sp) (hf : fnB P f = true) (hl : bG P G l) : bG P G ((f, sp) :: l) := by
 refine ⟨fun p hp => ?_⟩
 rcases List.mem_cons.1 hp with rfl | hp
 ·exact .inl ⟨h, hf⟩
 ·exact hl.ok p hp
theorem bG.nat {P : Program} {G : Nat → AV} {l : List (FuncId × aF)} {f : FuncId} {sp : aF} (h : NOK P G f sp) (hl : bG P G l) : bG P G ((f, sp) :: l) := by
 refine ⟨fun p hp => ?_⟩
 rcases List.mem_cons.1 hp with rfl | hp
 ·exact .inr h
 ·exact hl.ok p hp
theorem aUL {P : Program} {T : Tab} {G : Nat → AV} {l : List (FuncId × aF)} {el : TypeId → TypeId} (hT : iS P T) (hel : ∀ t ct, T t = some (.sl ct) → P.underlying t = some (.slice (el t))) {mp : TypeId → Option (TypeId × TypeId)} (hmp : ∀ t k e, mp t = some (k, e) → P.underlying t = some (.map k e)) {dm : TypeId → Option Mk} {dz : TypeId → Bool} (hl : bG P G l) : fU P ⟨T, G, fun f _ => gam l f, el, mp, dm, dz⟩ :=
 ⟨hT, fun f _ sp h => by
  rcases hl.ok _ (aWr h) with ⟨h, this⟩ | h
  ·refine .inl ⟨h, ?_⟩
   unfold fnB at this
   split at this
   ·rename_i fn hf
    simp only [Bool.and_eq_true, decide_eq_true_eq] at this
    exact ⟨fn, hf, this⟩
   ·cases this
  ·exact .inr h, hel, hmp⟩
theorem aXJ {P : Program} {G : Nat → AV} {f : FuncId} {a t : Ty} {pre : a.den → Prop} {fn : a.den → t.den} (h : ∀ (w : World) (S : Nat → Prop) (vs : List Value) (x : a.den), nT w S a x vs → pre x → ∃ us : List Value, (callFunc f vs.toArray).run P w = .ok (.value (.tuple us.toArray)) w ∧ nT w S t (fn x) us) : NOK P G f ⟨a, .tup t, pre, fn⟩ := by
 refine ⟨(fun e t h => by cases h), fun w vs S x hS hG ha hp => ?_⟩
 obtain ⟨us, h1, h2⟩ := h w S vs.toList x ha hp
 refine ⟨_, w, by simpa using h1, _, rfl, .refl _ _, us, rfl, ?_⟩
 have hmono : ∀ (t : Ty) (x : t.den) (xs : List Value), nT w S t x xs → nT w (fun b => S b ∨ (w.heap.size ≤ b ∧ b < w.heap.size)) t x xs := by
  intro t
  induction t with
  | unit => intro x xs h; exact h
  | pair a r _ ih => intro x xs ⟨v, vs', e, h1, h2⟩; exact ⟨v, vs', e, h1.keep (fun b hb => .inl hb) (.refl _ _), ih _ _ h2⟩
  | _ => intro x xs h; exact h.elim
 exact hmono _ _ _ h2
end Go.Vc
namespace Go.Vc
open Go.RowKit
def fK : List Oper → Nat → List (Nat × TypeId × Nat)
 | [], _ => []
 | o :: r, i => match o.op, o.guard, o.dst with
  | .alloc t, none, some d => (i, t, d) :: fK r (i + 1)
  | _, _, _ => fK r (i + 1)
def aQI (T : Tab) (t : TypeId) : Obj := match T t with
 | some ct => .box (bxN t ct) (aEV ct)
 | none => .dead
def oX (T : Tab) : List (Nat × TypeId × Nat) → St → List Obj → St × List Obj
 | [], env, h => (env, h)
 | (_, t, d) :: r, env, h => oX T r ((d, .ptr h.length []) :: env) (h ++ [aQI T t])
theorem sA : ∀ {l : List Oper} {i : Nat} {p : Nat × TypeId × Nat}, p ∈ fK l i → ∃ o, l[p.1 - i]? = some o ∧ i ≤ p.1 ∧ o.op = .alloc p.2.1 ∧ o.guard = none ∧ o.dst = some p.2.2
 | [], i, p, hp => by cases hp
 | o :: r, i, p, hp => by
  have hrec : p ∈ fK r (i + 1) → ∃ o', (o :: r)[p.1 - i]? = some o' ∧ i ≤ p.1 ∧ o'.op = .alloc p.2.1 ∧ o'.guard = none ∧ o'.dst = some p.2.2 := fun hp => by
   obtain ⟨o', h1, h2, h3⟩ := sA hp
   refine ⟨o', ?_, by omega, h3⟩
   rw [show p.1 - i = (p.1 - (i + 1)) + 1 from by omega, List.getElem?_cons_succ]
   exact h1
  simp only [fK] at hp
  split at hp
  ·rename_i t d h1 h2 h3
   rcases List.mem_cons.1 hp with rfl | hp
   ·exact ⟨o, by simp, Nat.le_refl _, h1, h2, h3⟩
   ·exact hrec hp
  ·exact hrec hp
section
variable {P : Program} {E : Env} {M : Perm} {w0 : World} {nt : Nat} {ds : List Deferred} {h : List Obj} {env : St} {pre : List Oper}
structure aSO (T : Tab) (al : List (Nat × TypeId × Nat)) (w : World) (listed : Nat → Prop) (c' : Ctx) (a : Act) (w' : World) (B : Nat → Nat) : Prop where
 size : w.heap.size ≤ w'.heap.size
 at_ : ∀ p ∈ al, listed p.1 → ∃ ct, T p.2.1 = some ct ∧ a.tmps.getD p.2.2 Go.undef = .pointer (some ⟨B p.1, 0, none⟩) ∧ w.heap.size ≤ B p.1 ∧ B p.1 < w'.heap.size ∧ ¬ c'.S (B p.1) ∧ w'.heap[B p.1]? = some (.cells (jO ct).cells p.2.1 (0, 0))
 inj : ∀ p ∈ al, ∀ q ∈ al, listed p.1 → listed q.1 → B p.1 = B q.1 → p.1 = q.1
theorem aSO.step {T : Tab} {w : World} {listed : Nat → Prop} {c' c'' : Ctx} {a a'' : Act} {w' w'' : World} {B : Nat → Nat} (hf : aSO T (fK pre 0) w listed c' a w' B) {i : Nat} {o : Oper} (ho : pre[i]? = some o) (hok : fG a.tmps.size o = true) (hu : aCb pre = true) (hni : ¬ listed i) (hd : o.dst ≠ none) (hsf : ∀ b, c'.S b → b < w'.heap.size)
  (hs : aXg T o a c' w' c'' a'' w'') : ∃ B', aSO T (fK pre 0) w (fun k => listed k ∨ k = i) c'' a'' w'' B' := by
 obtain ⟨v, hv, hal⟩ := hs.put
 have hget : ∀ d, o.dst ≠ some d → a''.tmps.getD d Go.undef = a.tmps.getD d Go.undef := fun d hne => by
  rw [hv]
  cases hdd : o.dst with
  | none => rfl
  | some d0 =>
   have : d0 ≠ d := fun e => hne (by rw [hdd, e])
   simp [Act.put, Array.getElem?_setIfInBounds_ne this]
 refine ⟨fun k => if k = i then w'.heap.size else B k, Nat.le_trans hf.size hs.keeps.size, fun p hp hl => ?_, fun p hp q hq hlp hlq hB => ?_⟩
 ·obtain ⟨op, h1, _, h2, h3, h4⟩ := sA hp
  simp only [Nat.sub_zero] at h1
  by_cases e : p.1 = i
  ·rw [e] at h1
   rw [ho] at h1
   cases h1
   obtain ⟨ct, q1, q2, q3, q4⟩ := hal _ h2 h3
   simp only [e, if_true]
   refine ⟨ct, q1, ?_, hf.size, by rw [q3]; simp, fun hS => ?_, by rw [q3]; exact yD w' _⟩
   ·simp only [fG, Bool.and_eq_true, h4, decide_eq_true_eq] at hok
    rw [hv, h4, q2]
    simp [Act.put, hok.2]
   ·rw [q4] at hS
    have := hsf _ hS
    omega
  ·have hl : listed p.1 := hl.resolve_right e
   obtain ⟨ct, q1, q2, q3, q4, q5, q6⟩ := hf.at_ p hp hl
   simp only [e, if_false]
   refine ⟨ct, q1, ?_, q3, Nat.lt_of_lt_of_le q4 hs.keeps.size, fun hS => ?_, by rw [hs.keeps.block _ q4 (fun f => f)]; exact q6⟩
   ·rw [hget]
    ·exact q2
    ·intro hdd
     exact e (aLN hu ho h1 (by rw [h4, hdd]) hd)
   ·rcases hs.new _ hS with h | h
    ·exact q5 h
    ·omega
 ·by_cases ep : p.1 = i <;> by_cases eq : q.1 = i
  ·rw [ep, eq]
  ·simp only [ep, eq, if_true, if_false] at hB
   obtain ⟨ct, q1, q2, q3, q4, _⟩ := hf.at_ q hq (hlq.resolve_right eq)
   omega
  ·simp only [ep, eq, if_true, if_false] at hB
   obtain ⟨ct, q1, q2, q3, q4, _⟩ := hf.at_ p hp (hlp.resolve_right ep)
   omega
  ·simp only [ep, eq, if_false] at hB
   exact hf.inj p hp q hq (hlp.resolve_right ep) (hlq.resolve_right eq) hB
theorem Good.adopt {c : Ctx} {w : World} (hg : Good M w0 c h w) {b : Nat} {cells : Array Value} {e : TypeId} {v : AV} {n : Nat} (hb : w.heap[b]? = some (.cells cells e (0, 0))) (hn : aV8 n cells.size e) (hv : aH c w v cells.toList) (hB : w0.heap.size ≤ b) (hS : ¬ c.S b)
  (hown : ∀ i o, h[i]? = some o → ¬ dO c i o b) : Good M w0 (c.push (.pointer (some ⟨b, 0, none⟩))) (h ++ [.box n v]) w ∧ dE c w (c.push (.pointer (some ⟨b, 0, none⟩))) w := by
 have hl : dE c w (c.push (.pointer (some ⟨b, 0, none⟩))) w := ⟨c.le_push _, .refl _ _⟩
 have hbl : b < w.heap.size := (Array.getElem?_eq_some_iff.1 hb).1
 have hhd : (c.push (.pointer (some ⟨b, 0, none⟩))).hd c.n = .pointer (some ⟨b, 0, none⟩) := by simp [Ctx.push]
 have hcase : ∀ i o', (h ++ [Obj.box n v])[i]? = some o' → (h[i]? = some o' ∧ i < c.n) ∨ (i = c.n ∧ o' = Obj.box n v) := fun i o' ho => by
  rw [hg.n]
  rcases Nat.lt_trichotomy i h.length with hlt | heq | hgt
  ·rw [List.getElem?_append_left hlt] at ho; exact .inl ⟨ho, hlt⟩
  ·subst heq; simp at ho; exact .inr ⟨rfl, ho.symm⟩
  ·rw [List.getElem?_append_right (by omega), List.getElem?_eq_none (by simp; omega)] at ho; cases ho
 refine ⟨⟨by simp [Ctx.push, hg.n], hg.keeps, hg.sfin, hg.src, fun i o' ho => ?_, fun i o' b' ho hbb => ?_, fun i j oi oj b' hi hj hbi hbj => ?_, yU hg.root hl.le⟩, hl⟩
 ·rcases hcase i o' ho with ⟨ho, hi⟩ | ⟨rfl, rfl⟩
  ·exact (hg.objs i o' ho).keep hl hi rfl (fun _ _ => rfl)
  ·exact ⟨b, cells, e, hhd, hb, hn, aH.keep hl.le hl.same _ _ hv⟩
 ·rcases hcase i o' ho with ⟨ho, hi⟩ | ⟨rfl, rfl⟩
  ·rw [eQ hl.le rfl hi] at hbb
   exact hg.own i o' b' ho hbb
  ·simp only [dO, hhd, aN, Option.some.injEq] at hbb
   subst hbb
   exact ⟨.inl hB, hbl, hS⟩
 ·rcases hcase i oi hi with ⟨hi', hin⟩ | ⟨ei, eo⟩ <;> rcases hcase j oj hj with ⟨hj', hjn⟩ | ⟨ej, eo'⟩
  ·rw [eQ hl.le rfl hin] at hbi
   rw [eQ hl.le rfl hjn] at hbj
   exact hg.sep i j oi oj b' hi' hj' hbi hbj
  ·subst ej; subst eo'
   rw [eQ hl.le rfl hin] at hbi
   simp only [dO, hhd, aN, Option.some.injEq] at hbj
   subst hbj
   exact absurd hbi (hown i oi hi')
  ·subst ei; subst eo
   rw [eQ hl.le rfl hjn] at hbj
   simp only [dO, hhd, aN, Option.some.injEq] at hbi
   subst hbi
   exact absurd hbj (hown j oj hj')
  ·rw [ei, ej]
theorem aWs {c : Ctx} {w : World} {ct : Ty} (hok : ct.okB = true) : aH c w (aEV ct) (jO ct).cells.toList ∧ (jO ct).cells.size = ct.cells := by
 refine ⟨(aHQ hok).1, ?_⟩
 rw [uW hok]
 simp [gI hok]
theorem aMz (hE : fU P E) {a : Act} {w : World} : ∀ (al : List (Nat × TypeId × Nat)) (env : St) (h : List Obj) (c : Ctx) (B : Nat → Nat), Sim E M w0 nt ds c env h a w →
  (∀ p ∈ al, ∃ ct, E.T p.2.1 = some ct ∧ ct.okB = true ∧ a.tmps.getD p.2.2 Go.undef = .pointer (some ⟨B p.1, 0, none⟩) ∧ w0.heap.size ≤ B p.1 ∧ ¬ c.S (B p.1) ∧ w.heap[B p.1]? = some (.cells (jO ct).cells p.2.1 (0, 0)) ∧ ∀ i o, h[i]? = some o → ¬ dO c i o (B p.1)) →
  al.Pairwise (fun p q => B p.1 ≠ B q.1) → ∃ c', Sim E M w0 nt ds c' (oX E.T al env h).1 (oX E.T al env h).2 a w
 | [], env, h, c, B, hs, _, _ => ⟨c, hs⟩
 | (i, t, d) :: r, env, h, c, B, hs, hal, hpw => by
  obtain ⟨ct, q1, q2, q3, q4, q5, q6, q7⟩ := hal (i, t, d) (by simp)
  simp only at q1 q3 q4 q5 q6 q7
  obtain ⟨z1, z2⟩ := aWs (c := c) (w := w) q2
  obtain ⟨g1, g2⟩ := hs.good.adopt q6 (n := bxN t ct) (by rw [z2]; exact aT8 t ct) z1 q4 q5 q7
  have hbox : aQI E.T t = .box (bxN t ct) (aEV ct) := by simp [aQI, q1]
  rw [List.pairwise_cons] at hpw
  have e1 : (c.push (.pointer (some ⟨B i, 0, none⟩))).hd c.n = .pointer (some ⟨B i, 0, none⟩) := by simp [Ctx.push]
  have hs' : Sim E M w0 nt ds (c.push (.pointer (some ⟨B i, 0, none⟩))) ((d, .ptr h.length []) :: env) (h ++ [aQI E.T t]) a w := by
   refine ⟨by rw [hbox]; exact g1, hs.glob.mono (fun _ h => h) (.refl _ _), fun t' => ?_, hs.size, hs.defers⟩
   simp only [look]
   split
   ·rename_i e
    subst e
    rw [q3, ← hs.good.n]
    exact ⟨⟨Nat.lt_succ_self c.n, B i, by rw [e1]; rfl, rfl⟩, (fun h => by cases h), (fun _ cs => by simp)⟩
   ·exact g2.val (hs.env t')
  refine aMz hE r _ _ _ B hs' (fun p hp => ?_) hpw.2
  obtain ⟨ct', p1, p2, p3, p4, p5, p6, p7⟩ := hal p (by simp [hp])
  refine ⟨ct', p1, p2, p3, p4, p5, p6, fun k o ho => ?_⟩
  rcases Nat.lt_trichotomy k h.length with hlt | heq | hgt
  ·rw [List.getElem?_append_left hlt] at ho
   rw [eQ g2.le rfl (by rw [hs.good.n]; exact hlt)]
   exact p7 k o ho
  ·subst heq
   simp at ho
   subst ho
   rw [hbox, ← hs.good.n]
   simp only [dO, e1, aN, ne_eq, Option.some.injEq]
   exact hpw.1 p hp
  ·rw [List.getElem?_append_right (by omega), List.getElem?_eq_none (by simp; omega)] at ho; cases ho
theorem aWt (hE : fU P E) {ops : List Oper} {Q : Exit → Act → World → Prop} (hok : ∀ o ∈ ops, fG nt o = true) {K : St → List Obj → Prop} {i : Nat} (hil : i < ops.length) {env : St} {h : List Obj} {c : Ctx} {a : Act} {w : World} (hs : qS E ops (ops.drop i) env h K) (hsim : Sim E M w0 nt ds c env h a w)
  {Kn : Act → World → Prop} (hn : ∀ env' h' c' a' w', qS E ops (ops.drop (i + 1)) env' h' K → Sim E M w0 nt ds c' env' h' a' w' → Kn a' w') : wpOp P ops.toArray Q i Kn a w := by
 rw [List.drop_eq_getElem_cons hil] at hs
 have hokO := hok ops[i] (List.getElem_mem hil)
 have hput : ∀ (v : Value) (av : AV), aQ c w av v → Sim E M w0 nt ds c (tH ops[i].dst av env) h (a.put ops[i].dst v) w := fun v av hv => hsim.after hokO ⟨.refl _ _, hsim.good, hv⟩
 unfold wpOp
 simp only [List.getElem?_toArray, List.getElem?_eq_getElem hil]
 have hrun : ((wD E env h ops[i]).1 ∧ qS E ops (ops.drop (i + 1)) (tH ops[i].dst (wD E env h ops[i]).2.1 env) (wD E env h ops[i]).2.2 K) → Region.wanted ops[i] (yielded ops.toArray a.tmps) = true → (if Region.wanted ops[i] (yielded ops.toArray a.tmps) = true then Oper.wp P ops[i] a w Kn Q ∨ (ops[i].asks P a w ∧ LetsOut Q) else Kn (a.put ops[i].dst Go.undef) w) := fun ⟨h1, h2⟩ hw => by
  rw [if_pos hw]
  left
  refine (aHT hE hsim hokO h1).wp fun v w' c' ha => ?_
  exact hn _ _ c' _ w' h2 (hsim.after hokO ha)
 have hskip : qS E ops (ops.drop (i + 1)) (tH ops[i].dst .undef env) h K → Region.wanted ops[i] (yielded ops.toArray a.tmps) = false → (if Region.wanted ops[i] (yielded ops.toArray a.tmps) = true then Oper.wp P ops[i] a w Kn Q ∨ (ops[i].asks P a w ∧ LetsOut Q) else Kn (a.put ops[i].dst Go.undef) w) := fun h2 hw => by
  rw [if_neg (by rw [hw]; simp)]
  exact hn _ _ c _ w h2 (hput _ _ rfl)
 simp only [qS] at hs
 cases hgd : ops[i].guard with
 | none =>
  rw [hgd] at hs
  exact hrun hs (by simp [Region.wanted, hgd])
 | some jp =>
  obtain ⟨j, pol⟩ := jp
  rw [hgd] at hs
  simp only at hs
  cases hdj : aGs ops j with
  | none => rw [hdj] at hs; exact hs.elim
  | some dj =>
   rw [hdj] at hs
   simp only at hs
   have hv := hsim.env dj
   split at hs
   ·rename_i b hb
    rw [hb] at hv
    have hb' := aC6 hv
    have hy := vC hok hsim.size hdj hb'
    simp only [yb] at hy
    by_cases e : b = pol
    ·exact hrun (hs.1 e) (by simp [Region.wanted, hgd, hy, e])
    ·have e' : b = !pol := by cases b <;> cases pol <;> simp_all
     exact hskip (hs.2 e') (by simp [Region.wanted, hgd, hy, e])
   ·rename_i hb
    rw [hb] at hv
    have hy := vC hok hsim.size hdj (v := Go.undef) hv
    exact hskip hs (by simp [Region.wanted, hgd, hy, Go.undef, yb])
   ·exact hs.elim
def aWu (o : Oper) (k : Nat) : Bool := o.after.toList.any fun e => Region.binds .any e && decide (e.on = k)
def aKk : List Oper → List (List Nat) → List (List Nat)
 | [], acc => acc
 | o :: r, acc => aKk r (acc ++ [(List.range acc.length).filter fun k => aWu o k || (List.range acc.length).any fun j => aWu o j && (acc.getD j []).contains k])
def aGt (n : Nat) (ops : List Oper) : Bool :=
 (ops.zipIdx.all fun p => p.1.after.toList.all fun e => !Region.binds .any e || decide (e.on < p.2)) &&
 ((aKk ops []).zipIdx.all fun p => decide (p.2 < n) || (List.range p.2).all fun k => p.1.contains k)
theorem aQJ {o : Oper} {k : Nat} : aWu o k = true ↔ ∃ e ∈ o.after, Region.binds .any e = true ∧ e.on = k := by
 simp only [aWu, List.any_eq_true, Bool.and_eq_true, decide_eq_true_eq, Array.mem_toList_iff]
theorem aQK {ops : List Oper} : ∀ (r : List Oper) (acc : List (List Nat)), acc.length + r.length = ops.length → (∀ j, ops[acc.length + j]? = r[j]?) →
  (∀ (i : Nat) (S : List Nat), acc[i]? = some S → ∀ k ∈ S, ∀ L : Nat → Prop, (∀ j o, ops[j]? = some o → L j → ∀ e ∈ o.after, Region.binds .any e = true → L e.on) → (∀ o, ops[i]? = some o → ∀ e ∈ o.after, Region.binds .any e = true → L e.on) → L k) →
  (aKk r acc).length = ops.length ∧ ∀ (i : Nat) (S : List Nat), (aKk r acc)[i]? = some S → ∀ k ∈ S, ∀ L : Nat → Prop, (∀ j o, ops[j]? = some o → L j → ∀ e ∈ o.after, Region.binds .any e = true → L e.on) → (∀ o, ops[i]? = some o → ∀ e ∈ o.after, Region.binds .any e = true → L e.on) → L k
 | [], acc, hl, _, h => ⟨by simpa [aKk] using hl, h⟩
 | o :: r, acc, hl, hr, h => by
  simp only [aKk]
  have ho : ops[acc.length]? = some o := by have := hr 0; simpa using this
  refine aQK r _ (by simp at hl ⊢; omega) (fun j => by have := hr (j + 1); simp only [List.length_append, List.length_singleton, List.getElem?_cons_succ] at this ⊢; rw [← this]; congr 1; omega) fun i S hS k hk L hL hi => ?_
  rcases Nat.lt_trichotomy i acc.length with hlt | heq | hgt
  ·rw [List.getElem?_append_left hlt] at hS
   exact h i S hS k hk L hL hi
  ·subst heq
   simp only [List.getElem?_concat_length, Option.some.injEq] at hS
   subst hS
   simp only [List.mem_filter, List.mem_range, Bool.or_eq_true, List.any_eq_true, Bool.and_eq_true] at hk
   obtain ⟨_, hk⟩ := hk
   rcases hk with hk | ⟨j, hj, hd, hc⟩
   ·obtain ⟨e, he, hb, rfl⟩ := aQJ.1 hk
    exact hi o ho e he hb
   ·obtain ⟨e, he, hb, rfl⟩ := aQJ.1 hd
    have hLj := hi o ho e he hb
    have hj : e.on < acc.length := hj
    have hS' : acc[e.on]? = some (acc.getD e.on []) := by rw [List.getD_eq_getElem?_getD, List.getElem?_eq_getElem hj]; rfl
    exact h e.on _ hS' k (by simpa using hc) L hL (fun o' ho' e' he' hb' => hL e.on o' ho' hLj e' he' hb')
  ·rw [List.getElem?_eq_none (by simp; omega)] at hS; cases hS
theorem iI {n : Nat} {ops : List Oper} (h : aGt n ops = true) {i : Nat} {o : Oper} (ho : ops[i]? = some o) : (∀ e ∈ o.after, Region.binds .any e = true → e.on < i) ∧
  (n ≤ i → ∀ L : Nat → Prop, (∀ j o, ops[j]? = some o → L j → ∀ e ∈ o.after, Region.binds .any e = true → L e.on) → (∀ e ∈ o.after, Region.binds .any e = true → L e.on) → ∀ k, k < i → L k) := by
 simp only [aGt, Bool.and_eq_true] at h
 obtain ⟨h1, h2⟩ := h
 refine ⟨fun e he hb => ?_, fun hn L hL hi k hk => ?_⟩
 ·have := List.all_eq_true.1 h1 (o, i) (by rw [List.mem_zipIdx_iff_getElem?]; exact ho)
  have := List.all_eq_true.1 this e (Array.mem_toList_iff.2 he)
  simpa [hb] using this
 ·obtain ⟨q1, q2⟩ := aQK (ops := ops) ops [] (by simp) (fun j => by simp) (fun i S hS => by simp at hS)
  have hil : i < ops.length := iI.get_lt' ho
  have hS : (aKk ops [])[i]? = some ((aKk ops [])[i]'(by omega)) := List.getElem?_eq_getElem _
  have := List.all_eq_true.1 h2 (_, i) (by rw [List.mem_zipIdx_iff_getElem?]; exact hS)
  simp only [Bool.or_eq_true, decide_eq_true_eq] at this
  have := List.all_eq_true.1 (this.resolve_left (by omega)) k (List.mem_range.2 hk)
  exact q2 i _ hS k (by simpa using this) L hL (fun o' ho' => by rw [ho] at ho'; cases ho'; exact hi)
where
 get_lt' {ops : List Oper} {i : Nat} {o : Oper} (ho : ops[i]? = some o) : i < ops.length := by
  rcases Nat.lt_or_ge i ops.length with h | h
  ·exact h
  ·rw [List.getElem?_eq_none h] at ho; cases ho
theorem aQL (hE : fU P E) {ops : List Oper} {Q : Exit → Act → World → Prop} (hok : ∀ o ∈ ops, fG nt o = true) {K : St → List Obj → Prop} (hK : ∀ env h c a w, K env h → Sim E M w0 nt ds c env h a w → Q .normal a w) {n : Nat} (ht : aGt n ops = true) :
  ∀ (m i : Nat), i + m = ops.length → n ≤ i → ∀ (listed : Array Bool), listed.size = ops.length → (∀ k, k < ops.length → (listed.getD k false = true ↔ k < i)) → ∀ (env : St) (h : List Obj) (c : Ctx) (a : Act) (w : World), qS E ops (ops.drop i) env h K → Sim E M w0 nt ds c env h a w → wpAny P .any ops.toArray Q m listed a w
 | 0, i, hi, hni, listed, hsz, hl, env, h, c, a, w, hs, hsim => by
  rw [List.drop_eq_nil_of_le (by omega)] at hs
  refine ⟨?_, hK env h c a w hs hsim⟩
  rw [List.eq_nil_iff_forall_not_mem]
  intro j hj
  obtain ⟨h1, o, ho, _⟩ := mem_ready.1 hj
  have ho : ops[j]? = some o := by simpa using ho
  have hjl := iI.get_lt' ho
  have := (hl j hjl).2 (by omega)
  have hlt : j < listed.size := by omega
  simp [hlt] at h1 this
  rw [this] at h1; cases h1
 | m + 1, i, hi, hni, listed, hsz, hl, env, h, c, a, w, hs, hsim => by
  have hil : i < ops.length := by omega
  have hio : ops[i]? = some ops[i] := List.getElem?_eq_getElem hil
  refine ⟨fun hr => ?_, fun j hj => ?_⟩
  ·exfalso
   have hmem : i ∈ Region.ready .any ops.toArray listed := by
    rw [mem_ready]
    have hlt : i < listed.size := by omega
    have hun : ¬ listed.getD i false = true := fun h => by have := (hl i hil).1 h; omega
    refine ⟨by simp [hlt] at hun ⊢; exact hun, ops[i], by simp [hil], fun e he hb => ?_⟩
    exact (hl _ (by have := (iI ht hio).1 e he hb; omega)).2 ((iI ht hio).1 e he hb)
   rw [hr] at hmem; cases hmem
  ·obtain ⟨h1, o, ho, hall⟩ := mem_ready.1 hj
   have ho : ops[j]? = some o := by simpa using ho
   have hjl := iI.get_lt' ho
   have hji : j = i := by
    rcases Nat.lt_trichotomy j i with hlt | heq | hgt
    ·have := (hl j hjl).2 hlt
     have hlt : j < listed.size := by omega
     simp [hlt] at h1 this
     rw [this] at h1; cases h1
    ·exact heq
    ·have := (iI ht ho).2 (by omega) (fun k => k < ops.length → listed.getD k false = true) (fun k o' ho' hk e he hb => fun hlt => by
      have hkl := iI.get_lt' ho'
      have h3 := (iI ht ho').1 e he hb
      have := (hl k hkl).1 (hk hkl)
      exact (hl _ hlt).2 (by omega)) (fun e he hb _ => hall e he hb) i hgt hil
     have := (hl i hil).1 this
     omega
   subst hji
   refine aWt hE hok hil hs hsim fun env' h' c' a' w' hs' hsim' => ?_
   refine aQL hE hok hK ht m (j + 1) (by omega) (by omega) (listed.setIfInBounds j true) (by simp [hsz]) (fun k hk => ?_) env' h' c' a' w' hs' hsim'
   by_cases e : j = k
   ·subst e
    have : j < listed.size := by omega
    simp [this]
   ·rw [getD_set_ne false e, hl k hk]
    omega
theorem aUM {pre tail : List Oper} {Q : Exit → Act → World → Prop} {i : Nat} {o : Oper} (ho : pre[i]? = some o) (hg : ∀ j p, o.guard = some (j, p) → j < pre.length) {K : Act → World → Prop} {a : Act} {w : World} (h : wpOp P pre.toArray Q i K a w) : wpOp P (pre ++ tail).toArray Q i K a w := by
 have hil : i < pre.length := iI.get_lt' ho
 have ho' : (pre ++ tail)[i]? = some o := by rw [List.getElem?_append_left hil]; exact ho
 have hw : Region.wanted o (yielded (pre ++ tail).toArray a.tmps) = Region.wanted o (yielded pre.toArray a.tmps) := by
  cases hgd : o.guard with
  | none => simp [Region.wanted, hgd]
  | some jp =>
   obtain ⟨j, p⟩ := jp
   have := hg j p hgd
   simp only [Region.wanted, hgd, yielded, List.getElem?_toArray, List.getElem?_append_left this]
 unfold wpOp at h ⊢
 simp only [List.getElem?_toArray, ho, ho'] at h ⊢
 rw [hw]; exact h
theorem aJt : ∀ (l : List Oper) (i : Nat), (fK l i).Pairwise (fun p q => p.1 < q.1)
 | [], i => List.Pairwise.nil
 | o :: r, i => by
  simp only [fK]
  split
  ·refine List.pairwise_cons.2 ⟨fun p hp => ?_, aJt r (i + 1)⟩
   obtain ⟨_, _, h, _⟩ := sA hp
   simp only
   omega
  ·exact aJt r (i + 1)
theorem vD (n k : Nat) : (Array.replicate n false).getD k false = false := by
 by_cases h : k < n <;> simp [h]
theorem aOT (hE : fU P E) (hmix : P.follows .mixedOrders = true) {pre tail : List Oper} {Q : Exit → Act → World → Prop} (hok : ∀ o ∈ pre ++ tail, fG nt o = true) (hu : aCb pre = true) (hany : aMl pre = true) (ht : aGt pre.length (pre ++ tail) = true) {c : Ctx} {a : Act} {w : World} (hs : Sim E M w0 nt ds c env h a w) {K' : St → List Obj → Prop}
  (hv : vcA E h env pre 0 [] (fun acc => K' (oX E.T (fK pre 0) (mA acc env) h).1 (oX E.T (fK pre 0) (mA acc env) h).2))
  (htail : ∀ env h c a w (listed : Array Bool), listed.size = (pre ++ tail).length → (∀ k, k < (pre ++ tail).length → (listed.getD k false = true ↔ k < pre.length)) → K' env h → Sim E M w0 nt ds c env h a w → wpAny P .any (pre ++ tail).toArray Q tail.length listed a w) {id : Nat} : (Code.region id (pre ++ tail).toArray true).wp P Q a w := by
 obtain ⟨F, f1, f2, f3⟩ := aDL pre 0 [] _ hv
 have hF : tD E h env pre F := ⟨f1, fun i o ho => by have := f2 i o ho; simpa using this⟩
 simp only [Nat.zero_add] at f3
 refine wp_region_any hmix ?_
 have hlat : dE c w c { w with drawn := w.drawn + 1 } := ⟨.refl _, fun b hb => rfl⟩
 have hdr : Sim E M w0 nt ds c env h a { w with drawn := w.drawn + 1 } :=
  ⟨hs.good.step hlat rfl rfl ⟨rfl, rfl, rfl, Nat.le_refl _, fun _ _ _ => rfl⟩ (fun _ _ _ _ _ => rfl) hs.good.sfin (fun _ hb => .inl hb), oW.mono (w := w) (w' := { w with drawn := w.drawn + 1 }) (fun _ hb => hb) hlat.same hs.glob, hs.env.keep hlat, hs.size, hs.defers⟩
 generalize ({ w with drawn := w.drawn + 1 } : World) = w at hdr
 clear hs hlat hv
 have hokp : ∀ o ∈ pre, fG nt o = true := fun o ho => hok o (by simp [ho])
 have hanyI : ∀ i o, pre[i]? = some o → (∀ e ∈ o.after, Region.binds .any e = true → e.on < i) ∧ (∀ j p, o.guard = some (j, p) → ∃ e ∈ o.after, Region.binds .any e = true ∧ e.on = j) ∧
   (∀ t, Operand.tmp t ∈ o.op.operands → ∀ k ok, pre[k]? = some ok → ok.dst = some t → k = i ∨ (k < i ∧ ∃ e ∈ o.after, Region.binds .any e = true ∧ e.on = k) ∨ (i < k ∧ ∃ e ∈ ok.after, Region.binds .any e = true ∧ e.on = i)) := by
  intro i o ho
  have hi : i < pre.length := by
   rcases Nat.lt_or_ge i pre.length with h | h
   ·exact h
   ·rw [List.getElem?_eq_none h] at ho; cases ho
  simp only [aMl, List.all_eq_true, List.mem_range] at hany
  have := hany i hi
  rw [ho] at this
  simp only [Bool.and_eq_true, List.all_eq_true, Array.mem_toList_iff] at this
  obtain ⟨⟨h1, h2⟩, h3⟩ := this
  refine ⟨fun e he hb => ?_, fun j p hg => ?_, fun t ht k ok hk hd => ?_⟩
  ·have := h1 e he
   simpa [hb] using this
  ·rw [hg] at h2
   simp only [List.any_eq_true, Bool.and_eq_true, decide_eq_true_eq, Array.mem_toList_iff] at h2
   exact h2
  ·have := h3 _ ht
   simp only [List.all_eq_true, List.mem_range] at this
   have hkl : k < pre.length := by
    rcases Nat.lt_or_ge k pre.length with h | h
    ·exact h
    ·rw [List.getElem?_eq_none h] at hk; cases hk
   have := this k hkl
   rw [hk] at this
   simp only [hd, ne_eq, not_true_eq_false, decide_false, Bool.false_or, Bool.or_eq_true, decide_eq_true_eq, Bool.and_eq_true, List.any_eq_true, Array.mem_toList_iff] at this
   rcases this with (h | h) | h
   ·exact .inl h
   ·exact .inr (.inl h)
   ·exact .inr (.inr h)
 have main : ∀ (cnt : Nat) (listed : Array Bool), listed.size = (pre ++ tail).length → ((List.range pre.length).filter fun k => !listed.getD k false).length = cnt → (∀ k, pre.length ≤ k → listed.getD k false = false) →
   (∀ k o, pre[k]? = some o → listed.getD k false = true → ∀ e ∈ o.after, Region.binds .any e = true → listed.getD e.on false = true) →
   ∀ (c' : Ctx) (a : Act) (w' : World) (B : Nat → Nat), Mid E M w0 nt ds h env pre F c w (fun k => listed.getD k false = true) c' a w' → aSO E.T (fK pre 0) w (fun k => listed.getD k false = true) c' a w' B → wpAny P .any (pre ++ tail).toArray Q (cnt + tail.length) listed a w' := by
  intro cnt
  induction cnt with
  | zero =>
   intro listed hsz hcnt hlate hcl c' a w' B hm hf
   have hall : ∀ k, k < pre.length → listed.getD k false = true := fun k hk => by
    have := List.eq_nil_of_length_eq_zero hcnt
    rw [List.filter_eq_nil_iff] at this
    have := this k (List.mem_range.2 hk)
    simpa using this
   have hsim := aPp hF hdr.glob (zS (l2 := fun k => k < pre.length) (fun k hk => ⟨fun _ => hk, fun _ => hall k hk⟩) hF hm)
   obtain ⟨c2, hsim2⟩ := aMz hE (fK pre 0) _ _ _ B hsim (fun p hp => by
    obtain ⟨o, q1, _, q2, q3, q4⟩ := sA hp
    simp only [Nat.sub_zero] at q1
    have hpl : p.1 < pre.length := iI.get_lt' q1
    obtain ⟨ct, r1, r2, r3, r4, r5, r6⟩ := hf.at_ p hp (hall _ hpl)
    obtain ⟨d, s1, s2, s3, s4⟩ := hF.step p.1 o q1
    have hcond := s3 (by rw [q3]; trivial)
    simp only [opA, pv, q2, r1] at hcond
    refine ⟨ct, r1, hcond, r2, Nat.le_trans hdr.good.keeps.size r3, r5, r6, fun i o' ho' e => ?_⟩
    rw [eQ hm.later.le (congrFun hm.n.2 _) (by rw [hdr.good.n]; exact jE ho')] at e
    have := (hdr.good.own i o' _ ho' e).2.1
    omega) ((aJt pre 0).imp_of_mem fun {p q} hp hq hlt e => by
    obtain ⟨o, q1, _⟩ := sA hp
    obtain ⟨o', q1', _⟩ := sA hq
    simp only [Nat.sub_zero] at q1 q1'
    have := hf.inj p hp q hq (hall _ (iI.get_lt' q1)) (hall _ (iI.get_lt' q1')) e
    omega)
   rw [Nat.zero_add]
   refine htail _ _ c2 a w' listed hsz (fun k hk => ⟨fun hl => ?_, hall k⟩) f3 hsim2
   rcases Nat.lt_or_ge k pre.length with h | h
   ·exact h
   ·rw [hlate k h] at hl; cases hl
  | succ cnt ih =>
   intro listed hsz hcnt hlate hcl c' a w' B hm hf
   rw [show cnt + 1 + tail.length = (cnt + tail.length) + 1 from by omega]
   have hpl : ∀ k, k < pre.length → (pre ++ tail)[k]? = pre[k]? := fun k hk => List.getElem?_append_left hk
   refine ⟨fun hr => ?_, fun i hi => ?_⟩
   ·exfalso
    have hex : ∃ k, k < pre.length ∧ listed.getD k false = false := by
     have hne : ((List.range pre.length).filter fun k => !listed.getD k false) ≠ [] := fun e => by rw [e] at hcnt; cases hcnt
     obtain ⟨k, hk⟩ := List.exists_mem_of_ne_nil _ hne
     simp only [List.mem_filter, List.mem_range, Bool.not_eq_true'] at hk
     exact ⟨k, hk⟩
    have hmin : ∃ k, (k < pre.length ∧ listed.getD k false = false) ∧ ∀ j, j < k → ¬ (j < pre.length ∧ listed.getD j false = false) := by
     obtain ⟨k, hk⟩ := hex
     induction k using Nat.strongRecOn with
     | _ k ihk =>
      by_cases hh : ∃ j, j < k ∧ (j < pre.length ∧ listed.getD j false = false)
      ·obtain ⟨j, hj, hp⟩ := hh; exact ihk j hj hp
      ·exact ⟨k, hk, fun j hj hp => hh ⟨j, hj, hp⟩⟩
    obtain ⟨k, ⟨hk, hun⟩, hlow⟩ := hmin
    have hmem : k ∈ Region.ready .any (pre ++ tail).toArray listed := by
     rw [mem_ready]
     have hlt : k < listed.size := by rw [hsz]; simp; omega
     refine ⟨by simp [hlt] at hun ⊢; exact hun, pre[k], by rw [List.getElem?_toArray, hpl k hk]; exact List.getElem?_eq_getElem hk, fun e he hb => ?_⟩
     have := (hanyI k _ (List.getElem?_eq_getElem hk)).1 e he hb
     have hn := hlow e.on this
     by_cases hh : listed.getD e.on false = true
     ·exact hh
     ·exact absurd ⟨by omega, by simpa using hh⟩ hn
    rw [hr] at hmem; cases hmem
   ·obtain ⟨h1, o, ho, hall⟩ := mem_ready.1 hi
    have ho : (pre ++ tail)[i]? = some o := by simpa using ho
    have hil0 := iI.get_lt' ho
    have hex : ∃ k, k < pre.length ∧ listed.getD k false = false := by
     have hne : ((List.range pre.length).filter fun k => !listed.getD k false) ≠ [] := fun e => by rw [e] at hcnt; cases hcnt
     obtain ⟨k, hk⟩ := List.exists_mem_of_ne_nil _ hne
     simp only [List.mem_filter, List.mem_range, Bool.not_eq_true'] at hk
     exact ⟨k, hk⟩
    have hil : i < pre.length := by
     rcases Nat.lt_or_ge i pre.length with h | h
     ·exact h
     ·obtain ⟨k, hk, hun⟩ := hex
      have hk2 := (iI ht ho).2 h (fun k => listed.getD k false = true) (fun j o' ho' hj e he hb => by
       have hjp : j < pre.length := by
        rcases Nat.lt_or_ge j pre.length with h' | h'
        ·exact h'
        ·rw [hlate j h'] at hj; cases hj
       exact hcl j o' (by rw [← hpl j hjp]; exact ho') hj e he hb) (fun e he hb => hall e he hb) k (by omega)
      rw [hun] at hk2; cases hk2
    rw [hpl i hil] at ho
    have hlt : i < listed.size := by omega
    have hni : ¬ listed.getD i false = true := by simp [hlt] at h1 ⊢; exact h1
    obtain ⟨a1, a2, a3⟩ := hanyI i o ho
    obtain ⟨d, s1, _, _, _⟩ := hF.step i _ ho
    have hokO := hokp o (List.mem_of_getElem? ho)
    refine aUM ho (fun j p hg => ?_) ?_
    ·obtain ⟨e, he, hb, hon⟩ := a2 j p hg
     have := a1 e he hb
     omega
    refine aMk hE hF hokp hdr.glob hm ho hni (fun t ht k ok hk hd => ?_) (fun j p hg => ?_) (fun k ok hk hd => aLN hu ho hk hd (by rw [s1]; simp)) fun c'' a'' w'' hm' hx => ?_
    ·rcases a3 t ht k ok hk hd with h | ⟨h, e, he, hb, hon⟩ | ⟨h, e, he, hb, hon⟩
     ·exact ⟨fun h' => by omega, fun h' => by omega⟩
     ·exact ⟨fun _ => hon ▸ hall e he hb, fun h' => by omega⟩
     ·exact ⟨fun h' => by omega, fun _ hkl => hni (hon ▸ hcl k ok hk hkl e he hb)⟩
    ·obtain ⟨e, he, hb, hon⟩ := a2 j p hg
     exact hon ▸ hall e he hb
    ·have hset : ∀ k, (listed.setIfInBounds i true).getD k false = true ↔ (listed.getD k false = true ∨ k = i) := fun k => by
      by_cases e : i = k
      ·subst e; simp [hlt]
      ·rw [getD_set_ne false e]
       exact ⟨.inl, fun h => h.resolve_right (fun h => e h.symm)⟩
     obtain ⟨B', hf'⟩ := hf.step ho (by rw [hm.size]; exact hokO) hu hni (by rw [s1]; simp) hm.good.sfin hx
     refine ih (listed.setIfInBounds i true) (by simp [hsz]) ?_ (fun k hk => ?_) (fun k o' hk hkl e he hb => ?_) c'' a'' w'' B' (zS (fun k _ => (hset k).symm) hF hm') ⟨hf'.size, fun p hp hl => hf'.at_ p hp ((hset _).1 hl), fun p hp q hq hl1 hl2 => hf'.inj p hp q hq ((hset _).1 hl1) ((hset _).1 hl2)⟩
     ·have hfil : ((List.range pre.length).filter fun k => !(listed.setIfInBounds i true).getD k false) = ((List.range pre.length).filter fun k => !listed.getD k false).filter (fun k => decide (k ≠ i)) := by
       rw [List.filter_filter]
       apply List.filter_congr
       intro k _
       rw [Bool.eq_iff_iff]
       by_cases e : k = i
       ·subst e; simp [hlt]
       ·have h2 : (listed.setIfInBounds i true).getD k false = listed.getD k false := getD_set_ne false (fun h => e h.symm)
        rw [h2]
        simp [e]
      rw [hfil]
      have hnd : ((List.range pre.length).filter fun k => !listed.getD k false).Nodup := List.nodup_range.filter _
      have hmem : i ∈ ((List.range pre.length).filter fun k => !listed.getD k false) := by
       simp only [List.mem_filter, List.mem_range]
       exact ⟨hil, by simpa using hni⟩
      have := hnd.erase_eq_filter i
      have e2 : (((List.range pre.length).filter fun k => !listed.getD k false).filter (fun k => decide (k ≠ i))) = ((List.range pre.length).filter fun k => !listed.getD k false).erase i := by
       rw [this]
       apply List.filter_congr
       intro k _
       by_cases e : k = i <;> simp [e]
      rw [e2, List.length_erase_of_mem hmem, hcnt]; rfl
     ·rw [getD_set_ne false (by omega)]; exact hlate k hk
     ·rcases (hset k).1 hkl with h | h
      ·exact (hset _).2 (.inl (hcl k o' hk h e he hb))
      ·subst h
       rw [ho] at hk
       cases hk
       exact (hset _).2 (.inl (hall e he hb))
 have hstart := main pre.length (Array.replicate (pre ++ tail).length false) (by simp) (by
   rw [List.filter_eq_self.2 (fun k _ => by rw [vD]; rfl)]; simp) (fun k _ => vD _ _) (fun k o ho hl => by rw [vD] at hl; cases hl) c a w (fun _ => 0) (zS (fun k hk => ⟨False.elim, fun h => by rw [vD] at h; cases h⟩) hF (aJl hdr)) ⟨Nat.le_refl _, (fun p hp hl => by rw [vD] at hl; cases hl), (fun p hp q hq hl => by rw [vD] at hl; cases hl)⟩
 simpa using hstart
theorem aUN (hE : fU P E) (hmix : P.follows .mixedOrders = true) {pre tail : List Oper} {Q : Exit → Act → World → Prop} (hok : ∀ o ∈ pre ++ tail, fG nt o = true) (hu : aCb pre = true) (hany : aMl pre = true) (ht : aGt pre.length (pre ++ tail) = true) {c : Ctx} {a : Act} {w : World} (hs : Sim E M w0 nt ds c env h a w) {K' : St → List Obj → Prop}
  (hv : vcA E h env pre 0 [] (fun acc => qS E (pre ++ tail) tail (oX E.T (fK pre 0) (mA acc env) h).1 (oX E.T (fK pre 0) (mA acc env) h).2 K')) (hK : ∀ env h c a w, K' env h → Sim E M w0 nt ds c env h a w → Q .normal a w) {id : Nat} : (Code.region id (pre ++ tail).toArray true).wp P Q a w :=
 aOT hE hmix hok hu hany ht hs (K' := fun env h => qS E (pre ++ tail) tail env h K') hv fun env h c a w listed hsz hl hk hsim =>
  aQL hE hok hK ht tail.length pre.length (by simp) (Nat.le_refl _) listed hsz hl env h c a w (by rw [List.drop_left]; exact hk) hsim
end
end Go.Vc
namespace Go.Vc
open Go.RowKit
def aYa : List Obj → List (Nat × Obj) → List Obj
 | h, [] => h
 | h, (i, o) :: r => aYa (h.set i o) r
def aG9 (env : St) (keep : List Nat) (u : St) : St := u ++ keep.map fun t => (t, look env t)
theorem aUO {α : Type} (a s : α) : (List.replicate 1 a).set 0 s = [s] := rfl
theorem aUP {α : Type} (a s k : α) : ((List.replicate 2 a).set 0 s).set 1 k = [s, k] := rfl
theorem aUQ {α : Type} (a s k m : α) : (((List.replicate 3 a).set 0 s).set 1 k).set 2 m = [s, k, m] := rfl
def elB (P : Program) (l : List (TypeId × Ty)) (el : TypeId → TypeId) : Bool := l.all fun p => match p.2 with
 | .sl _ => match P.underlying p.1 with
  | some (.slice e) => decide (e = el p.1)
  | _ => false
 | _ => true
theorem aWv {P : Program} {l : List (TypeId × Ty)} {el : TypeId → TypeId} (h : elB P l el = true) : ∀ t ct, aGp l t = some (.sl ct) → P.underlying t = some (.slice (el t)) := fun t ct ht => by
 have := List.all_eq_true.1 h _ (aOH ht)
 simp only at this
 split at this
 ·rename_i e he; rw [he, of_decide_eq_true this]
 ·cases this
section
variable {F : Fr} {Q : Exit → Act → World → Prop} {env : St} {h : List Obj}
theorem aTM {x : Code} (hx : Tri F x (Exit.noGoto Q) env h) : Tri F (.scope x) Q env h := fun hok c a w hs =>
 wp_scope_straight (hx (by simpa [fY] using hok) c a w hs)
end
end Go.Vc
namespace Go.Vc
open Go.RowKit
structure Pan where
 k : TypeId
 t : Ty
 x : t.den
inductive aXK where
 | ret (v : AV) (h : List Obj)
 | pan (p : Pan) (h : List Obj)
structure iE where
 D : Type
 av : D → List AV
 hp : D → List Obj
 m : Nat
 pre : D → Prop
 out : D → aXK
def GM (sp : iE) (c : Ctx) (d : sp.D) : Perm := ⟨fun b => ∃ i o, (sp.hp d)[i]? = some o ∧ dO c i o b, c.S, sp.m, c.hd⟩
structure GIn (G : Nat → AV) (sp : iE) (c : Ctx) (w : World) (d : sp.D) (vs : List Value) : Prop where
 good : Good (GM sp c d) w c (sp.hp d) w
 glob : oW G c.S w
 len : vs.length = (sp.av d).length
 val : ∀ i (h1 : i < (sp.av d).length) (h2 : i < vs.length), aQ c w (sp.av d)[i] vs[i]
def aN7 (k : TypeId) (u : Value) : List PanicEntry := [{ v := .iface k u, recovered := false, goexit := false }]
def aHW (sp : iE) (c : Ctx) (w : World) (d : sp.D) (e : Ending) (w' : World) : Prop :=
 ∃ c', match sp.out d with
  | .ret v h' => ∃ u, e = .returned u ∧ Good (GM sp c d) w c' h' w' ∧ aQ c' w' v u
  | .pan p h' => ∃ u, e = .panicked (aN7 p.k u) ∧ Good (GM sp c d) w c' h' w' ∧ cR w' c'.S p.t p.x u
def GOK (P : Program) (G : Nat → AV) (f : FuncId) (sp : iE) : Prop :=
 ∀ (c : Ctx) (w : World) (d : sp.D) (vs : Array Value), sp.pre d → GIn G sp c w d vs.toList → Calls P f vs w (aHW sp c w d)
def aRO (μ : List Nat) : List Nat → Option (List Nat)
 | [] => some []
 | i :: r => match μ[i]?, aRO μ r with
  | some j, some l => some (j :: l)
  | _, _ => none
def aHX (μ : List Nat) : AV → AV
 | .own i => match μ[i]? with
  | some j => .own j
  | none => .junk
 | .ptr i p => match μ[i]? with
  | some j => .ptr j p
  | none => .junk
 | .sub i s off n => match μ[i]? with
  | some j => .sub j s off n
  | none => .junk
 | .mp i => match μ[i]? with
  | some j => .mp j
  | none => .junk
 | .fn f l1 l2 => match aRO μ l1, aRO μ l2 with
  | some l1, some l2 => .fn f l1 l2
  | _, _ => .junk
 | .agg _ => .junk
 | .flat _ => .junk
 | .tup _ => .junk
 | v => v
def aDc (μ : List Nat) : AV → AV
 | .agg vs => .agg (vs.map (aHX μ))
 | v => aHX μ v
def emb (μ : List Nat) : AV → AV
 | .tup vs => .tup (vs.map (aDc μ))
 | v => aDc μ v
def aMA (μ : List Nat) : Obj → Obj
 | .box n v => .box n (aDc μ v)
 | .trh e m t xs k v => .trh e m t xs k (aDc μ v)
 | o => o
def aBv : List (Nat × Obj) → List Obj → List Obj
 | [], h => h
 | (i, o) :: r, h => aBv r (h.set i o)
def nU (σ : List Nat) (m n k : Nat) : List Nat := σ.take m ++ List.range' n (k - m)
def aDS (σ : List Nat) (m : Nat) (h h' : List Obj) : List Obj :=
 aBv ((σ.take m).zip ((h'.take m).map (aMA (nU σ m h.length h'.length)))) (mC (σ.drop m) h) ++ (h'.drop m).map (aMA (nU σ m h.length h'.length))
section
variable {P : Program} {E : Env} {M : Perm} {w0 : World} {c c' : Ctx} {h : List Obj} {w w' : World}
structure Emb (μ : List Nat) (c' cN : Ctx) : Prop where
 S : ∀ b, c'.S b → cN.S b
 hd : ∀ i j, μ[i]? = some j → j < cN.n ∧ cN.hd j = c'.hd i
theorem aPw {μ : List Nat} {cN : Ctx} (he : Emb μ c' cN) : ∀ {l l' : List Nat}, aRO μ l = some l' → (∀ j ∈ l', j < cN.n) ∧ l'.map cN.hd = l.map c'.hd
 | [], l', h => by simp [aRO] at h; subst h; exact ⟨(fun j hj => by cases hj), rfl⟩
 | i :: r, l', h => by
  simp only [aRO] at h
  split at h
  ·rename_i j l h1 h2
   cases h
   obtain ⟨q1, q2⟩ := he.hd i j h1
   obtain ⟨k1, k2⟩ := aPw he h2
   refine ⟨fun k hk => ?_, by simp [q2, k2]⟩
   rcases List.mem_cons.1 hk with rfl | hk
   ·exact q1
   ·exact k1 k hk
  ·cases h
theorem aMB {μ : List Nat} {cN : Ctx} (he : Emb μ c' cN) : ∀ {v : AV} {cs : List Value}, aH c' w v cs → aH cN w (aHX μ v) cs := by
 intro v cs hr
 have hS : c'.le ⟨cN.S, c'.hd, c'.n, c'.bl⟩ := ⟨he.S, Nat.le_refl _, fun _ _ => rfl⟩
 cases v <;> simp only [aHX] <;> (try trivial)
 case own i =>
  split
  ·rename_i j hp
   obtain ⟨q1, q2⟩ := he.hd i j hp
   simp only [aH] at hr ⊢
   rw [q2]
   exact ⟨q1, hr.2⟩
  ·trivial
 case ptr i p =>
  split
  ·rename_i j hp
   obtain ⟨q1, q2⟩ := he.hd i j hp
   simp only [aH] at hr ⊢
   rw [q2]
   exact ⟨q1, hr.2⟩
  ·trivial
 case sub i s off n =>
  split
  ·rename_i j hp
   obtain ⟨q1, q2⟩ := he.hd i j hp
   simp only [aH] at hr ⊢
   rw [q2]
   exact ⟨q1, hr.2⟩
  ·trivial
 case mp i =>
  split
  ·rename_i j hp
   obtain ⟨q1, q2⟩ := he.hd i j hp
   simp only [aH] at hr ⊢
   rw [q2]
   exact ⟨q1, hr.2⟩
  ·trivial
 case fn f l1 l2 =>
  split
  ·rename_i l1' l2' h1 h2
   obtain ⟨q1, q2⟩ := aPw he h1
   obtain ⟨k1, k2⟩ := aPw he h2
   simp only [aH] at hr ⊢
   rw [q2, k2]
   exact ⟨q1, k1, hr.2.2⟩
  ·trivial
 case val t x => exact aT.keep he.S (.refl _ _) t x cs hr
 case full t xs =>
  simp only [aH] at hr ⊢
  obtain ⟨a, n, e, hs⟩ := hr
  exact ⟨a, n, e, hs.keep he.S (.refl _ _) (fun x cs => aT.keep he.S (.refl _ _) t x cs)⟩
 case roa t x =>
  simp only [aH] at hr ⊢
  obtain ⟨b, off, ds, e, hb, hd, hc⟩ := hr
  exact ⟨b, off, ds, e, he.S b hb, aT.keep he.S (.refl _ _) t x ds hd, hc⟩
 all_goals exact hr
theorem aQM {μ : List Nat} {cN : Ctx} (he : Emb μ c' cN) : ∀ {vs : List AV} {cs : List Value}, jN c' w vs cs → jN cN w (vs.map (aHX μ)) cs
 | [], _, hr => hr
 | v :: r, _, ⟨c1, c2, e, h1, h2⟩ => ⟨c1, c2, e, aMB he h1, aQM he h2⟩
theorem aHa {μ : List Nat} {cN : Ctx} (he : Emb μ c' cN) {v : AV} {cs : List Value} (hr : aH c' w v cs) : aH cN w (aDc μ v) cs := by
 cases v
 case agg vs => exact aQM he hr
 all_goals exact aMB he hr
theorem aUR (μ : List Nat) (v : AV) : aDc μ v = .junk ∨ (aDc μ v).isAgg = v.isAgg := by
 cases v <;> simp only [aDc, aHX] <;> first | exact .inr trivial | exact .inl trivial | exact .inr rfl | exact .inl rfl | (split <;> simp [AV.isAgg])
theorem aOU {μ : List Nat} {cN : Ctx} (he : Emb μ c' cN) {v : AV} {x : Value} (hr : rJ c' w v x) (hj : aDc μ v ≠ .junk) : rJ cN w (aDc μ v) x := by
 have ha := (aUR μ v).resolve_left hj
 exact ⟨aHa he hr.1, by rw [ha]; exact hr.2.1, by rw [ha]; exact hr.2.2⟩
theorem aXL (μ : List Nat) (v : AV) : aDc μ v = .undef → v = .undef := by
 cases v <;> simp only [aDc, aHX] <;> first | exact fun _ => trivial | (intro h; cases h; done) | (intro h; rfl) | (intro h; split at h <;> cases h)
theorem aWw (μ : List Nat) (v : AV) (vs : List AV) : aDc μ v ≠ .tup vs := by
 cases v <;> simp only [aDc, aHX] <;> first | (intro h; cases h; done) | (intro h; split at h <;> cases h)
theorem aWx {μ : List Nat} {cN : Ctx} (he : Emb μ c' cN) {v : AV} {x : Value} (hr : aQ c' w v x) (hj : ∀ vs, v = .tup vs → ∀ u ∈ vs, aDc μ u ≠ .junk) : aQ cN w (emb μ v) x := by
 have main : ∀ v, (∀ vs, v ≠ .tup vs) → v ≠ .junk → v ≠ .undef → rJ c' w v x → aQ cN w (aDc μ v) x := fun v ht hn hu h1 => by
  by_cases hjk : aDc μ v = .junk
  ·rw [hjk]; trivial
  ·have := aOU he h1 hjk
   have e1 := aXL μ v
   have e2 := aWw μ v
   generalize aDc μ v = u at this e1 e2 hjk
   cases u <;> first | exact this | exact absurd rfl hjk | exact absurd (e1 rfl) hu | exact absurd rfl (e2 _)
 cases v
 case junk => trivial
 case undef => exact hr
 case tup vs =>
  obtain ⟨xs, hx, hl, hv⟩ := hr
  refine ⟨xs, hx, by simpa using hl, fun i h1 h2 => ?_⟩
  simp only [List.length_map] at h1
  simp only [List.getElem_map]
  exact aOU he (hv i h1 h2) (hj vs rfl _ (List.getElem_mem h1))
 all_goals exact main _ (by simp) (by simp) (by simp) hr
theorem Good.rebase (hg : Good M w0 c h w) {m : Nat} (hm : m ≤ c.n) : Good ⟨fun b => ∃ i o, h[i]? = some o ∧ dO c i o b, c.S, m, c.hd⟩ w c h w :=
 ⟨hg.n, .refl _ _, hg.sfin, fun b hb _ => .inl hb, hg.objs, fun i o b ho hb => ⟨.inr ⟨i, o, ho, hb⟩, (hg.own i o b ho hb).2⟩, hg.sep, hm, fun _ _ => rfl⟩
end
end Go.Vc
namespace Go.Vc
open Go.RowKit
theorem aCH : ∀ (l : List (Nat × Obj)) (h : List Obj), (aBv l h).length = h.length
 | [], h => rfl
 | (i, o) :: r, h => by rw [aBv, aCH r]; simp
theorem aHb : ∀ (l : List (Nat × Obj)) (h : List Obj) (i : Nat), (∀ p ∈ l, p.1 ≠ i) → (aBv l h)[i]? = h[i]?
 | [], h, i, _ => rfl
 | (j, o) :: r, h, i, hn => by
  rw [aBv, aHb r _ i (fun p hp => hn p (by simp [hp])), List.getElem?_set_ne (hn (j, o) (by simp))]
theorem aOV : ∀ (l : List (Nat × Obj)) (h : List Obj), (l.map (·.1)).Nodup → (∀ p ∈ l, p.1 < h.length) → ∀ p ∈ l, (aBv l h)[p.1]? = some p.2
 | [], h, _, _, p, hp => by cases hp
 | (j, o) :: r, h, hd, hl, p, hp => by
  simp only [List.map_cons, List.nodup_cons] at hd
  rcases List.mem_cons.1 hp with rfl | hp
  ·have : j < h.length := hl (j, o) (by simp)
   rw [aBv, aHb r _ j (fun q hq e => hd.1 (List.mem_map.2 ⟨q, hq, e⟩))]
   simp [this]
  ·rw [aBv]
   exact aOV r _ hd.2 (fun q hq => by rw [List.length_set]; exact hl q (by simp [hq])) p hp
section
variable {P : Program} {E : Env} {M : Perm} {w0 : World} {c c' : Ctx} {h h' : List Obj} {w w' : World}
def cN (c c' : Ctx) (m n' : Nat) (σ μ : List Nat) : Ctx := ⟨fun b => c.S b ∨ c'.S b, fun i => if i < c.n then c.hd i else c'.hd (m + (i - c.n)), c.n + (n' - m), fun i b => (i < c.n ∧ i ∉ σ ∧ c.bl i b) ∨ ∃ j : Nat, μ[j]? = some i ∧ c'.bl j b⟩
theorem aYb (c c' : Ctx) (m n' : Nat) (σ μ : List Nat) : c.le (cN c c' m n' σ μ) := ⟨fun b hb => .inl hb, Nat.le_add_right _ _, fun i hi => by simp [cN, hi]⟩
theorem Good.frame (hg : Good M w0 c h w) {σ : List Nat} {m : Nat} (hd : σ.Nodup) (hσ : ∀ i ∈ σ, i < h.length) (hm : m ≤ σ.length) {Ml : Perm} (hMr : Ml.rd = c.S) (hMw : ∀ b, Ml.wr b → ∃ i o, i ∈ σ ∧ h[i]? = some o ∧ dO c i o b) (hMm : Ml.m = m) (hMd : ∀ j, j < m → Ml.roots j = c.hd (σ.getD j 0))
  (hg' : Good Ml w c' h' w') : Good M w0 (cN c c' m h'.length σ (nU σ m h.length h'.length)) (aDS σ m h h') w' ∧ dE c w (cN c c' m h'.length σ (nU σ m h.length h'.length)) w' ∧ Emb (nU σ m h.length h'.length) c' (cN c c' m h'.length σ (nU σ m h.length h'.length)) := by
 have hk := hg'.keeps
 have hroot := hg'.root
 rw [hMm] at hroot
 have hmn : m ≤ h'.length := by rw [← hg'.n]; exact hroot.1
 have hwrS : ∀ b, Ml.wr b → b < w.heap.size ∧ ¬ c.S b ∧ (w0.heap.size ≤ b ∨ M.wr b) := fun b hb => by
  obtain ⟨i, o, hi, ho, hob⟩ := hMw b hb
  obtain ⟨h1, h2, h3⟩ := hg.own i o b ho hob
  exact ⟨h2, h3, h1⟩
 have hlS : vT c.S w w' := fun b hb => hk.block b (hg.sfin b hb) (fun hw => (hwrS b hw).2.1 hb)
 have hl : dE c w (cN c c' m h'.length σ (nU σ m h.length h'.length)) w' := ⟨aYb _ _ _ _ _ _, hlS⟩
 have hmu : ∀ j i, (nU σ m h.length h'.length)[j]? = some i → (j < m ∧ i = σ.getD j 0 ∧ i < h.length ∧ i ∈ σ) ∨ (m ≤ j ∧ i = h.length + (j - m) ∧ j < h'.length) := fun j i hj => by
  unfold nU at hj
  have hlt : (σ.take m).length = m := by rw [List.length_take]; omega
  by_cases hjm : j < m
  ·rw [List.getElem?_append_left (by rw [hlt]; exact hjm), List.getElem?_take, if_pos hjm] at hj
   have hmem := List.mem_of_getElem? hj
   exact .inl ⟨hjm, by simp [List.getD_eq_getElem?_getD, hj], hσ i hmem, hmem⟩
  ·rw [List.getElem?_append_right (by rw [hlt]; omega), hlt] at hj
   obtain ⟨hlt', e⟩ := List.getElem?_eq_some_iff.1 hj
   simp only [List.length_range'] at hlt'
   rw [List.getElem_range'] at e
   exact .inr ⟨by omega, by omega, by omega⟩
 have hhd : ∀ j i, (nU σ m h.length h'.length)[j]? = some i → i < (cN c c' m h'.length σ (nU σ m h.length h'.length)).n ∧ (cN c c' m h'.length σ (nU σ m h.length h'.length)).hd i = c'.hd j := fun j i hj => by
  rcases hmu j i hj with ⟨h1, h2, h3, _⟩ | ⟨h1, h2, h3⟩
  ·refine ⟨by simp only [cN]; rw [hg.n]; omega, ?_⟩
   simp only [cN, hg.n, h3, if_true]
   rw [hroot.2 j h1, hMd j h1, h2]
  ·refine ⟨by simp only [cN]; rw [hg.n]; omega, ?_⟩
   simp only [cN, hg.n]
   rw [if_neg (by omega), h2]
   congr 1; omega
 have hbli : ∀ i, i < h.length → i ∉ σ → (cN c c' m h'.length σ (nU σ m h.length h'.length)).bl i = c.bl i := fun i hi hn => by
  funext b
  refine propext ⟨?_, fun hb => .inl ⟨by rw [hg.n]; exact hi, hn, hb⟩⟩
  rintro (⟨_, _, hb⟩ | ⟨j, hj, _⟩)
  ·exact hb
  ·rcases hmu j i hj with ⟨_, _, _, q⟩ | ⟨_, q, _⟩
   ·exact absurd q hn
   ·omega
 have hnd : ∀ i j k : Nat, i < m → j < m → σ[i]? = some k → σ[j]? = some k → i = j := fun i j k hi hj h1 h2 => by
  obtain ⟨q1, _⟩ := List.getElem?_eq_some_iff.1 h1
  exact (List.getElem?_inj q1 hd).1 (h1.trans h2.symm)
 have hblj : ∀ j i, (nU σ m h.length h'.length)[j]? = some i → (cN c c' m h'.length σ (nU σ m h.length h'.length)).bl i = c'.bl j := fun j i hj => by
  funext b
  refine propext ⟨?_, fun hb => .inr ⟨j, hj, hb⟩⟩
  rintro (⟨q1, q2, _⟩ | ⟨j2, hj2, hb⟩)
  ·rcases hmu j i hj with ⟨_, _, _, q⟩ | ⟨_, q, _⟩
   ·exact absurd q q2
   ·rw [hg.n] at q1; omega
  ·have e : j2 = j := by
    have hget : ∀ x, x < m → (nU σ m h.length h'.length)[x]? = some i → σ[x]? = some i := fun x hx h1 => by
     unfold nU at h1
     rwa [List.getElem?_append_left (by rw [List.length_take]; omega), List.getElem?_take, if_pos hx] at h1
    rcases hmu j i hj with ⟨p1, p2, p3, p4⟩ | ⟨p1, p2, p3⟩ <;> rcases hmu j2 i hj2 with ⟨r1, r2, r3, r4⟩ | ⟨r1, r2, r3⟩
    ·exact hnd _ _ i r1 p1 (hget _ r1 hj2) (hget _ p1 hj)
    ·omega
    ·omega
    ·omega
   rw [← e]; exact hb
 have hemb : Emb (nU σ m h.length h'.length) c' (cN c c' m h'.length σ (nU σ m h.length h'.length)) := ⟨fun b hb => .inr hb, hhd⟩
 have hcase : ∀ i o, (aDS σ m h h')[i]? = some o → (i ∉ σ ∧ h[i]? = some o) ∨ o = .dead ∨ ∃ j oj, h'[j]? = some oj ∧ (nU σ m h.length h'.length)[j]? = some i ∧ o = aMA (nU σ m h.length h'.length) oj := fun i o ho => by
  unfold aDS at ho
  have hlen : (aBv ((σ.take m).zip ((h'.take m).map (aMA (nU σ m h.length h'.length)))) (mC (σ.drop m) h)).length = h.length := by rw [aCH, kU]
  have hmul : (nU σ m h.length h'.length).length = h'.length := by
   unfold nU; simp [List.length_take]; omega
  rcases Nat.lt_or_ge i h.length with hi | hi
  ·rw [List.getElem?_append_left (by rw [hlen]; exact hi)] at ho
   by_cases hin : ∃ j, j < m ∧ σ[j]? = some i
   ·obtain ⟨j, hj, hji⟩ := hin
    have hjh : j < h'.length := by omega
    have hmem : (i, aMA (nU σ m h.length h'.length) h'[j]) ∈ (σ.take m).zip ((h'.take m).map (aMA (nU σ m h.length h'.length))) := by
     refine List.mem_iff_getElem?.2 ⟨j, ?_⟩
     rw [List.getElem?_zip_eq_some]
     refine ⟨by rw [List.getElem?_take, if_pos hj]; exact hji, ?_⟩
     rw [List.getElem?_map, List.getElem?_take, if_pos hj, List.getElem?_eq_getElem hjh]; rfl
    have := aOV _ (mC (σ.drop m) h) (by
     have : ((σ.take m).zip ((h'.take m).map (aMA (nU σ m h.length h'.length)))).map (·.1) = σ.take m := by
      rw [List.map_fst_zip]; simp [List.length_take]; omega
     rw [this]; exact hd.sublist (List.take_sublist _ _)) (fun p hp => by
     rw [kU]
     have := (List.of_mem_zip hp).1
     exact hσ _ (List.mem_of_mem_take this)) _ hmem
    simp only at this
    rw [this] at ho
    cases ho
    refine .inr (.inr ⟨j, h'[j], List.getElem?_eq_getElem hjh, ?_, rfl⟩)
    unfold nU
    rw [List.getElem?_append_left (by rw [List.length_take]; omega), List.getElem?_take, if_pos hj]; exact hji
   ·rw [aHb _ _ i (fun p hp e => by
     have := (List.of_mem_zip hp).1
     rw [e] at this
     obtain ⟨j, hj, hji⟩ := List.mem_take_iff_getElem.1 this
     exact hin ⟨j, by omega, by rw [List.getElem?_eq_getElem (by omega), hji]⟩)] at ho
    by_cases hdrop : i ∈ σ.drop m
    ·exact .inr (.inl (aAN _ _ i o hdrop ho))
    ·rw [zV _ _ i hdrop] at ho
     refine .inl ⟨fun hmem => ?_, ho⟩
     rw [← List.take_append_drop m σ] at hmem
     rcases List.mem_append.1 hmem with hmem | hmem
     ·obtain ⟨j, hj, hji⟩ := List.mem_take_iff_getElem.1 hmem
      exact hin ⟨j, by omega, by rw [List.getElem?_eq_getElem (by omega), hji]⟩
     ·exact hdrop hmem
  ·rw [List.getElem?_append_right (by rw [hlen]; exact hi), hlen, List.getElem?_map, List.getElem?_drop] at ho
   cases hoj : h'[m + (i - h.length)]? with
   | none => rw [hoj] at ho; simp at ho
   | some oj =>
    rw [hoj] at ho
    simp only [Option.map_some, Option.some.injEq] at ho
    have hjl := jE hoj
    refine .inr (.inr ⟨m + (i - h.length), oj, hoj, ?_, ho.symm⟩)
    unfold nU
    rw [List.getElem?_append_right (by rw [List.length_take]; omega), List.length_take, Nat.min_eq_left hm, List.getElem?_range' (by omega)]
    congr 1; omega
 have hobj : ∀ j oj i, h'[j]? = some oj → (nU σ m h.length h'.length)[j]? = some i → aDB (cN c c' m h'.length σ (nU σ m h.length h'.length)) w' i (aMA (nU σ m h.length h'.length) oj) := fun j oj i hj hi => by
  have hr := hg'.objs j oj hj
  have hS : c'.le ⟨(cN c c' m h'.length σ (nU σ m h.length h'.length)).S, c'.hd, c'.n, c'.bl⟩ := ⟨hemb.S, Nat.le_refl _, fun _ _ => rfl⟩
  have e := (hhd j i hi).2
  cases oj with
  | dead => trivial
  | box n v =>
   obtain ⟨b, cells, et, q1, q2, q3, q4⟩ := hr
   exact ⟨b, cells, et, by rw [e]; exact q1, q2, q3, aHa hemb q4⟩
  | row et t xs =>
   obtain ⟨vals, q1, q2⟩ := hr
   exact ⟨vals, by rw [e]; exact q1, aT.keep hemb.S (.refl _ _) _ _ _ q2⟩
  | frz t xs =>
   show aT _ _ _ _ _
   rw [e]
   exact aT.keep hemb.S (.refl _ _) _ _ _ hr
  | map k v mm =>
   obtain ⟨b, es, clock, q1, q2, q3, q4⟩ := hr
   exact ⟨b, es, clock, by rw [e]; exact q1, q2, q3, fun x h1 h2 => ⟨(q4 x h1 h2).1.keep hemb.S (.refl _ _), (q4 x h1 h2).2.keep hemb.S (.refl _ _)⟩⟩
  | tre et mk t xs =>
   obtain ⟨B, q1, q2, q3⟩ := hr
   exact ⟨B, by rw [e]; exact jU.keep hemb.S (.refl _ _) _ _ _ _ _ (fun _ _ => rfl) q1, q2, by rw [hblj j i hi]; exact q3⟩
  | trh et mk t xs k v =>
   obtain ⟨css, Bs, q⟩ := hr
   exact ⟨css, Bs, ⟨by rw [e]; exact q.row, q.lc, q.lb, q.kl, fun x h h1 h2 hne => jU.keep hemb.S (.refl _ _) _ _ _ _ _ (fun _ _ => rfl) (q.el x h h1 h2 hne), q.hb, fun h1 => ⟨aHa hemb (q.hv h1).1, (q.hv h1).2⟩, by rw [e]; exact q.nd, by rw [e, hblj j i hi]; exact q.bl⟩⟩
 have hown : ∀ j oj i b, h'[j]? = some oj → (nU σ m h.length h'.length)[j]? = some i → dO (cN c c' m h'.length σ (nU σ m h.length h'.length)) i (aMA (nU σ m h.length h'.length) oj) b → dO c' j oj b := fun j oj i b hj hi hb => by
  have e := (hhd j i hi).2
  have e2 := hblj j i hi
  cases oj <;> simp only [dO, aMA, e, e2] at hb ⊢ <;> exact hb
 have hfar : ∀ i o b j oj, i ∉ σ → h[i]? = some o → dO c i o b → h'[j]? = some oj → ¬ dO c' j oj b := fun i o b j oj hi ho hb hj e => by
  have h1 := (hg.own i o b ho hb).2.1
  rcases (hg'.own j oj b hj e).1 with h2 | h2
  ·omega
  ·obtain ⟨i', o', hi', ho', hb'⟩ := hMw b h2
   exact hi (hg.sep i i' o o' b ho ho' hb hb' ▸ hi')
 have hfarS : ∀ i o b, i ∉ σ → h[i]? = some o → dO c i o b → ¬ c'.S b := fun i o b hi ho hb hS => by
  have h1 := (hg.own i o b ho hb).2
  rcases hg'.src b hS h1.1 with h2 | h2
  ·rw [hMr] at h2; exact h1.2 h2
  ·obtain ⟨i', o', hi', ho', hb'⟩ := hMw b h2
   exact hi (hg.sep i i' o o' b ho ho' hb hb' ▸ hi')
 refine ⟨⟨?_, ⟨hk.os.trans hg.keeps.os, hk.tape.trans hg.keeps.tape, hk.output.trans hg.keeps.output, Nat.le_trans hg.keeps.size hk.size, fun b hb hM => ?_⟩, fun b hb => ?_, fun b hb hlt => ?_, fun i o ho => ?_, fun i o b ho hb => ?_, fun i k oi ok b hi hk' hbi hbk => ?_, yU hg.root hl.le⟩, hl, hemb⟩
 ·unfold aDS cN
  simp only [List.length_append, aCH, kU, List.length_map, List.length_drop, hg.n]
 ·have hbw : b < w.heap.size := Nat.lt_of_lt_of_le hb hg.keeps.size
  rw [hk.block b hbw (fun hw => ?_)]
  ·exact hg.keeps.block b hb hM
  ·rcases (hwrS b hw).2.2 with h1 | h1
   ·omega
   ·exact hM h1
 ·rcases hb with hb | hb
  ·exact Nat.lt_of_lt_of_le (hg.sfin b hb) hk.size
  ·exact hg'.sfin b hb
 ·rcases hb with hb | hb
  ·exact hg.src b hb hlt
  ·rcases hg'.src b hb (Nat.lt_of_lt_of_le hlt hg.keeps.size) with h1 | h1
   ·rw [hMr] at h1; exact hg.src b h1 hlt
   ·rcases (hwrS b h1).2.2 with h2 | h2
    ·omega
    ·exact .inr h2
 ·rcases hcase i o ho with ⟨hi, ho⟩ | rfl | ⟨j, oj, hj, hij, rfl⟩
  ·exact (hg.objs i o ho).keep hl (by rw [hg.n]; exact jE ho) (hbli i (jE ho) hi) (fun b hb => hk.block b (hg.own i o b ho hb).2.1 (fun hw => by
    obtain ⟨i', o', hi', ho', hb'⟩ := hMw b hw
    exact hi (hg.sep i i' o o' b ho ho' hb hb' ▸ hi')))
  ·trivial
  ·exact hobj j oj i hj hij
 ·rcases hcase i o ho with ⟨hi, ho⟩ | rfl | ⟨j, oj, hj, hij, rfl⟩
  ·rw [eQ hl.le (hbli i (jE ho) hi) (by rw [hg.n]; exact jE ho)] at hb
   obtain ⟨h1, h2, h3⟩ := hg.own i o b ho hb
   refine ⟨h1, Nat.lt_of_lt_of_le h2 hk.size, fun hS => ?_⟩
   rcases hS with hS | hS
   ·exact h3 hS
   ·exact hfarS i o b hi ho hb hS
  ·cases hb
  ·have hb := hown j oj i b hj hij hb
   obtain ⟨h1, h2, h3⟩ := hg'.own j oj b hj hb
   refine ⟨?_, h2, fun hS => ?_⟩
   ·rcases h1 with h1 | h1
    ·exact .inl (Nat.le_trans hg.keeps.size h1)
    ·exact (hwrS b h1).2.2
   ·rcases hS with hS | hS
    ·rcases h1 with h1 | h1
     ·have := hg.sfin b hS; omega
     ·exact (hwrS b h1).2.1 hS
    ·exact h3 hS
 ·rcases hcase i oi hi with ⟨hi, ho⟩ | rfl | ⟨j, oj, hj, hij, rfl⟩
  ·rw [eQ hl.le (hbli i (jE ho) hi) (by rw [hg.n]; exact jE ho)] at hbi
   rcases hcase k ok hk' with ⟨hk2, ho2⟩ | rfl | ⟨j2, oj2, hj2, hij2, rfl⟩
   ·rw [eQ hl.le (hbli k (jE ho2) hk2) (by rw [hg.n]; exact jE ho2)] at hbk
    exact hg.sep i k oi ok b ho ho2 hbi hbk
   ·cases hbk
   ·exact absurd (hown j2 oj2 k b hj2 hij2 hbk) (hfar i oi b j2 oj2 hi ho hbi hj2)
  ·cases hbi
  ·have hbi := hown j oj i b hj hij hbi
   rcases hcase k ok hk' with ⟨hk2, ho2⟩ | rfl | ⟨j2, oj2, hj2, hij2, rfl⟩
   ·rw [eQ hl.le (hbli k (jE ho2) hk2) (by rw [hg.n]; exact jE ho2)] at hbk
    exact absurd hbi (hfar k ok b j oj hk2 ho2 hbk hj)
   ·cases hbk
   ·have hbk := hown j2 oj2 k b hj2 hij2 hbk
    have := hg'.sep j j2 oj oj2 b hj hj2 hbi hbk
    subst this
    rw [hij] at hij2
    cases hij2; rfl
end
end Go.Vc
namespace Go.Vc
open Go.RowKit
structure Hit where
 sp : iE
 σ : List Nat
 d : sp.D
def aJu (h : List Obj) (σ : List Nat) : List AV → List AV → Prop
 | [], [] => True
 | v :: r, .val t x :: r' => AV.as (h.map eG) t v = some x ∧ aJu h σ r r'
 | v :: r, u :: r' => ren σ v = u ∧ aJu h σ r r'
 | _, _ => False
def aXi (n : Nat) (σ : List Nat) : Bool := σ.all fun i => decide (i < n)
def gS : AV → Bool
 | .junk => false
 | _ => true
def aXM (μ : List Nat) : AV → Bool
 | .tup vs => vs.all fun u => gS (aDc μ u)
 | _ => true
def aMC (h : List Obj) (vs : List AV) (t : Hit) : Prop :=
 nodupB t.σ = true ∧ aXi h.length t.σ = true ∧ t.sp.m ≤ t.σ.length ∧ aJu h t.σ vs (t.sp.av t.d) ∧ t.σ.map (fun i => iN t.σ (h.getD i .dead)) = t.sp.hp t.d ∧ t.sp.pre t.d
def aTN (o : aXK) (k : AV → List Obj → Prop) (kp : Pan → List Obj → Prop) : Prop :=
 match o with
 | .ret v h => k v h
 | .pan p h => kp p h
theorem aUS (v : AV) (h : List Obj) (k : AV → List Obj → Prop) (kp : Pan → List Obj → Prop) : aTN (.ret v h) k kp = k v h := rfl
theorem aUT (p : Pan) (h : List Obj) (k : AV → List Obj → Prop) (kp : Pan → List Obj → Prop) : aTN (.pan p h) k kp = kp p h := rfl
theorem aUU (c : Prop) [Decidable c] (a b : aXK) (k : AV → List Obj → Prop) (kp : Pan → List Obj → Prop) : aTN (if c then a else b) k kp = ((c → aTN a k kp) ∧ (¬ c → aTN b k kp)) := by
 by_cases h : c <;> simp [h]
def aDd (G : Nat → AV) (env : St) (h : List Obj) (o : Oper) : Option (FuncId × List AV) :=
 match o.op with
 | .call c => match c.callee with
  | .value x => match evA G env x with
   | .fn f [] l2 => if aCG h l2 = true then some (f, c.args.toList.map (evA G env) ++ l2.map fun i => .ptr i []) else none
   | .fn f (i :: l1) l2 => if aCG h (i :: l1) = true ∧ aCG h l2 = true then some (f, ((i :: l1).map fun i => .ptr i []) ++ (c.args.toList.map (evA G env) ++ l2.map fun i => .ptr i [])) else none
   | .val (.clo g t) y => if qA t = true then some (g, c.args.toList.map (evA G env) ++ vY t y) else none
   | _ => none
  | _ => none
 | _ => none
def aSP (Δ : FuncId → List AV → List Obj → Option Hit) (h : List Obj) : Option (FuncId × List AV) → Option Hit
 | some (f, vs) => Δ f vs h
 | none => none
def aRP : Option (FuncId × List AV) → List AV
 | some (_, vs) => vs
 | none => []
def aOW (G : Nat → AV) (env : St) (o : Oper) : Option Pan :=
 match o.op with
 | .call c => match c.callee with
  | .builtin .panic => match c.args.toList with
   | [x] => match evA G env x with
    | .val (.ifc k t) d => some ⟨k, t, d⟩
    | _ => none
   | _ => none
  | _ => none
 | .panic x => match evA G env x with
  | .val (.ifc k t) d => some ⟨k, t, d⟩
  | _ => none
 | _ => none
def aJv (T : Tab) (h : List Obj) (t : TypeId) (x : AV) (lo hi : Option AV) : Prop × AV :=
 match x with
 | .own i => match h[i]? with
  | some (.row _ c xs) => match (lo.map zP).getD (some 0), (hi.map zP).getD (some (xs.length : Int)) with
   | some l, some u => (T t = some (.sl c) ∧ 0 ≤ l ∧ l < u ∧ u ≤ (xs.length : Int), .sub i c.cells l.toNat (u - l).toNat)
   | _, _ => (False, .junk)
  | _ => (False, .junk)
 | .ptr i [] => match h[i]? with
  | some (.box _ (.val (.arr n c) _)) => match (lo.map zP).getD (some 0), (hi.map zP).getD (some (n : Int)) with
   | some l, some u => (T t = some (.arr n c) ∧ 0 ≤ l ∧ l < u ∧ u ≤ (n : Int), .sub i c.cells l.toNat (u - l).toNat)
   | _, _ => (False, .junk)
  | _ => (False, .junk)
 | _ => (False, .junk)
noncomputable def aOX (E : Env) (sb : List Nat) (env : St) (h : List Obj) (o : Oper) : Prop × AV × List Obj :=
 match o.op, o.dst with
 | .slice t x lo hi none, some d => bif sb.contains d then ((aJv E.T h t (evA E.G env x) (lo.map (evA E.G env)) (hi.map (evA E.G env))).1, (aJv E.T h t (evA E.G env x) (lo.map (evA E.G env)) (hi.map (evA E.G env))).2, h) else wD E env h o
 | _, _ => wD E env h o
def aKl (E : Env) (Δ : FuncId → List AV → List Obj → Option Hit) (sb : List Nat) (env : St) (h : List Obj) (o : Oper) (k : AV → List Obj → Prop) (kp : Pan → List Obj → Prop) : Prop :=
 match aSP Δ h (aDd E.G env h o) with
 | some t => aMC h (aRP (aDd E.G env h o)) t ∧ aTN (t.sp.out t.d) (fun v h' => aXM (nU t.σ t.sp.m h.length h'.length) v = true ∧ k (emb (nU t.σ t.sp.m h.length h'.length) v) (aDS t.σ t.sp.m h h')) (fun p h' => kp p (aDS t.σ t.sp.m h h'))
 | none => match aOW E.G env o with
  | some p => kp p h
  | none => match aOX E sb env h o with
   | (p, v, h') => p ∧ k v h'
def aEL (E : Env) (Δ : FuncId → List AV → List Obj → Option Hit) (sb : List Nat) (all : List Oper) : List Oper → St → List Obj → (St → List Obj → Prop) → (Pan → St → List Obj → Prop) → Prop
 | [], env, h, K, _ => K env h
 | o :: r, env, h, K, Kp => match o.guard with
  | none => aKl E Δ sb env h o (fun v h' => aEL E Δ sb all r (tH o.dst v env) h' K Kp) (fun p h' => Kp p env h')
  | some (j, pol) => match aGs all j with
   | some dj => match look env dj with
    | .val .bool b => (b = pol → aKl E Δ sb env h o (fun v h' => aEL E Δ sb all r (tH o.dst v env) h' K Kp) (fun p h' => Kp p env h')) ∧ (b = !pol → aEL E Δ sb all r (tH o.dst .undef env) h K Kp)
    | .undef => aEL E Δ sb all r (tH o.dst .undef env) h K Kp
    | _ => False
   | none => False
structure aDT (P : Program) (G : Nat → AV) (Δ : FuncId → List AV → List Obj → Option Hit) : Prop where
 ok : ∀ f vs h t, Δ f vs h = some t → GOK P G f t.sp
 fn : ∀ f vs h t, Δ f vs h = some t → ∃ fn, P.funcs[f]? = some fn ∧ fn.name ≠ "runtime.NumGoroutine" ∧ fn.body.isSome = true
section
variable {P : Program} {E : Env} {M : Perm} {w0 : World} {c : Ctx} {h : List Obj} {w : World}
theorem aPx : ∀ {l : List Nat}, nodupB l = true → l.Nodup
 | [], _ => List.nodup_nil
 | i :: r, h => by
  simp only [nodupB, Bool.and_eq_true, Bool.not_eq_true'] at h
  refine List.nodup_cons.2 ⟨fun hm => ?_, aPx h.2⟩
  have hc : r.contains i = true := by simpa using hm
  rw [h.1] at hc
  cases hc
theorem aOY (hg : Good M w0 c h w) {σ : List Nat} : ∀ {vs us : List AV} {xs : List Value}, aJu h σ vs us → vs.length = xs.length → (∀ i (h1 : i < vs.length) (h2 : i < xs.length), aQ c w vs[i] xs[i]) →
  xs.length = us.length ∧ ∀ i (h1 : i < us.length) (h2 : i < xs.length), aQ (c.ren σ) w us[i] xs[i]
 | [], [], [], _, _, _ => ⟨rfl, fun i h1 => by simp at h1⟩
 | v :: r, u :: r', x :: xs, hf, hl, hv => by
  have h0 := hv 0 (by simp) (by simp)
  simp only [List.getElem_cons_zero] at h0
  have key : aQ (c.ren σ) w u x ∧ aJu h σ r r' := by
   cases u with
   | val t d =>
    obtain ⟨h1, h2⟩ := hf
    exact ⟨aQ.ofV (rZ hg h0 h1), h2⟩
   | _ =>
    obtain ⟨h1, h2⟩ := hf
    exact ⟨h1 ▸ aLQ h0, h2⟩
  obtain ⟨q1, q2⟩ := aOY hg key.2 (by simpa using hl) (fun i h1 h2 => by have := hv (i + 1) (by simpa using h1) (by simpa using h2); simpa using this)
  refine ⟨by simp [q1], fun i h1 h2 => ?_⟩
  cases i with
  | zero => exact key.1
  | succ i => exact q2 i (by simpa using h1) (by simpa using h2)
def aYc (M : Perm) (w0 : World) (c : Ctx) (h : List Obj) (w : World) (t : Hit) (e : Ending) (w' : World) : Prop :=
 ∃ cN, dE c w cN w' ∧ match t.sp.out t.d with
  | .ret v h' => ∃ u, e = .returned u ∧ Good M w0 cN (aDS t.σ t.sp.m h h') w' ∧ (aXM (nU t.σ t.sp.m h.length h'.length) v = true → aQ cN w' (emb (nU t.σ t.sp.m h.length h'.length) v) u)
  | .pan p h' => ∃ u, e = .panicked (aN7 p.k u) ∧ Good M w0 cN (aDS t.σ t.sp.m h h') w' ∧ cR w' cN.S p.t p.x u
theorem aOZ {C : (Ending → World → Prop) → Prop} (hC : ∀ R R' : Ending → World → Prop, C R → (∀ e w', R e w' → R' e w') → C R') {G : Nat → AV} {t : Hit} {vs : List AV} {xs : Array Value} (hok : t.sp.pre t.d → GIn G t.sp (c.ren t.σ) w t.d xs.toList → C (aHW t.sp (c.ren t.σ) w t.d)) (hg : Good M w0 c h w) (hG : oW G c.S w) (hl : vs.length = xs.size) (hv : ∀ i (h1 : i < vs.length) (h2 : i < xs.toList.length), aQ c w vs[i] xs.toList[i]) (hh : aMC h vs t) :
  C (aYc M w0 c h w t) := by
 obtain ⟨h1, h2, h3, h4, h5, h6⟩ := hh
 have hσ : ∀ i ∈ t.σ, i < h.length := fun i hi => by
  have := List.all_eq_true.1 h2 i hi
  simpa using this
 have g0 := hg.rebase (m := 0) (Nat.zero_le _)
 have g1 := g0.ren (σ := t.σ) h1 (by rfl)
 have hcn : (c.ren t.σ).n = t.σ.length := rfl
 have g2 := g1.rebase (m := t.sp.m) (by rw [hcn]; exact h3)
 rw [h5] at g2
 obtain ⟨q1, q2⟩ := aOY (xs := xs.toList) hg h4 (by simpa using hl) hv
 have hin : GIn G t.sp (c.ren t.σ) w t.d xs.toList := ⟨g2, hG, q1, q2⟩
 refine hC _ _ (hok h6 hin) ?_
 rintro e w' ⟨c', hend⟩
 have hfr : ∀ h', Good (GM t.sp (c.ren t.σ) t.d) w c' h' w' → Good M w0 (Vc.cN c c' t.sp.m h'.length t.σ (nU t.σ t.sp.m h.length h'.length)) (aDS t.σ t.sp.m h h') w' ∧ dE c w (Vc.cN c c' t.sp.m h'.length t.σ (nU t.σ t.sp.m h.length h'.length)) w' ∧ Emb (nU t.σ t.sp.m h.length h'.length) c' (Vc.cN c c' t.sp.m h'.length t.σ (nU t.σ t.sp.m h.length h'.length)) := fun h' hg' =>
  hg.frame (aPx h1) hσ h3 (Ml := GM t.sp (c.ren t.σ) t.d) rfl (fun b hb => by
   obtain ⟨j, o', ho, hob⟩ := hb
   rw [← h5, List.getElem?_map] at ho
   cases hj : t.σ[j]? with
   | none => rw [hj] at ho; cases ho
   | some i =>
    rw [hj] at ho
    simp only [Option.map_some, Option.some.injEq] at ho
    subst ho
    rw [aHV hj] at hob
    have hi := hσ i (List.mem_of_getElem? hj)
    exact ⟨i, h[i], List.mem_of_getElem? hj, List.getElem?_eq_getElem hi, by simpa [List.getD_eq_getElem?_getD, hi] using hob⟩) rfl (fun j _ => rfl) hg'
 cases hout : t.sp.out t.d with
 | ret v h' =>
  rw [hout] at hend
  obtain ⟨u, rfl, hg', hu⟩ := hend
  obtain ⟨f1, f2, f3⟩ := hfr h' hg'
  refine ⟨_, f2, ?_⟩
  rw [hout]
  refine ⟨u, rfl, f1, fun hb => aWx f3 hu fun vs hvs a ha => ?_⟩
  subst hvs
  have := List.all_eq_true.1 hb a ha
  intro hj
  rw [hj] at this
  cases this
 | pan p h' =>
  rw [hout] at hend
  obtain ⟨u, rfl, hg', hu⟩ := hend
  obtain ⟨f1, f2, f3⟩ := hfr h' hg'
  refine ⟨_, f2, ?_⟩
  rw [hout]
  exact ⟨u, rfl, f1, hu.keep f3.S (.refl _ _)⟩
theorem aUV {G : Nat → AV} {f : FuncId} {t : Hit} (hok : GOK P G f t.sp) (hg : Good M w0 c h w) (hG : oW G c.S w) {vs : List AV} {xs : Array Value} (hl : vs.length = xs.size) (hv : ∀ i (h1 : i < vs.length) (h2 : i < xs.toList.length), aQ c w vs[i] xs.toList[i]) (hh : aMC h vs t) :
  Calls P f xs w (aYc M w0 c h w t) :=
 aOZ (C := Calls P f xs w) (fun R R' h k => h.mono k) (fun hp hin => hok _ _ _ _ hp hin) hg hG hl hv hh
def AtP (F : Fr) (Q : Exit → Act → World → Prop) (p : Pan) (env : St) (h : List Obj) : Prop :=
 ∀ c a w u, Sim F.E F.M F.w0 F.nt F.ds c env h a w → cR w c.S p.t p.x u → Q (.panic (aN7 p.k u)) a w
theorem aUW {f : FuncId} {l1 l2 : List Nat} {v : Value} (hv : aQ c w (.fn f l1 l2) v) : (∀ i ∈ l1, i < c.n) ∧ (∀ i ∈ l2, i < c.n) ∧ v = .func (.func f) (l1.map c.hd).toArray (l2.map c.hd).toArray := by
 obtain ⟨h1, _, h3⟩ := hv
 have h3 := h3 rfl
 simp only [aH] at h1
 obtain ⟨h0, h2, h1⟩ := h1
 refine ⟨h0, h2, ?_⟩
 cases v <;> simp [Value.cells] at h1 h3
 obtain ⟨rfl, rfl, rfl⟩ := h1
 rfl
theorem aTO (hE : fU P E) {nt : Nat} {ds : List Deferred} {env : St} {a : Act} (hs : Sim E M w0 nt ds c env h a w) {o : Oper} (hok : fG nt o = true) {f : FuncId} {vs : List AV} (hc : aDd E.G env h o = some (f, vs)) (hfn : ∃ fn, P.funcs[f]? = some fn ∧ fn.name ≠ "runtime.NumGoroutine" ∧ fn.body.isSome = true) :
  ∃ xs : Array Value, (execOp a.eval o).run P w = .ok (.enter f xs) w ∧ vs.length = xs.size ∧ ∀ i (h1 : i < vs.length) (h2 : i < xs.toList.length), aQ c w vs[i] xs.toList[i] := by
 obtain ⟨dst, op, ty, pos, aft, gd⟩ := o
 unfold aDd at hc
 split at hc
 ·rename_i cl hop
  simp only at hop
  subst hop
  obtain ⟨callee, args, argTypes⟩ := cl
  simp only at hc
  simp only [fG, Bool.and_eq_true] at hok
  have hall : ∀ x ∈ (Op.call ⟨callee, args, argTypes⟩).operands, lG x = true := Array.all_eq_true_iff_forall_mem.1 hok.1
  have hargs : ∀ x ∈ args.toList, aQ c w (evA E.G env x) (a.eval x) := fun x hx => aBp hs.env hs.glob (hall x (by
   simp only [Op.operands, Call.operands]
   exact Array.mem_append.2 (.inr (by simpa using hx))))
  have hav := aDK (ρ := evA E.G env) (a := a) (c := c) (w := w) hargs
  split at hc
  ·rename_i x
   have hx := aBp hs.env hs.glob (hall x (by simp [Op.operands, Call.operands]))
   have fin : ∀ (g : FuncId) (fs us : List Value) (fv cv : List AV), a.eval x = .func (.func g) fs.toArray us.toArray → fs.length = fv.length → (∀ i (h1 : i < fv.length) (h2 : i < fs.length), aQ c w fv[i] fs[i]) → us.length = cv.length → (∀ i (h1 : i < cv.length) (h2 : i < us.length), aQ c w cv[i] us[i]) → f = g → vs = fv ++ (args.toList.map (evA E.G env) ++ cv) →
     ∃ xs : Array Value, (execOp a.eval ⟨dst, .call ⟨.value x, args, argTypes⟩, ty, pos, aft, gd⟩).run P w = .ok (.enter f xs) w ∧ vs.length = xs.size ∧ ∀ i (h1 : i < vs.length) (h2 : i < xs.toList.length), aQ c w vs[i] xs.toList[i] := fun g fs us fv cv hf hfl hfv hul huv e1 e2 => by
    subst e1
    subst e2
    have app : ∀ {l1 l2 : List AV} {m1 m2 : List Value}, m1.length = l1.length → (∀ i (h1 : i < l1.length) (h2 : i < m1.length), aQ c w l1[i] m1[i]) → (∀ i (h1 : i < l2.length) (h2 : i < m2.length), aQ c w l2[i] m2[i]) → ∀ i (h1 : i < (l1 ++ l2).length) (h2 : i < (m1 ++ m2).length), aQ c w (l1 ++ l2)[i] (m1 ++ m2)[i] := fun {l1 l2 m1 m2} hl k1 k2 i h1 h2 => by
     by_cases hi : i < l1.length
     ·rw [List.getElem_append_left hi, List.getElem_append_left (by omega)]
      exact k1 i hi (by omega)
     ·rw [List.getElem_append_right (by omega), List.getElem_append_right (by omega)]
      have := k2 (i - l1.length) (by simp at h1; omega) (by simp at h2; omega)
      simpa [hl] using this
    refine ⟨(fs ++ (args.toList.map a.eval ++ us)).toArray, ?_, by simp [hul, hfl], fun i h1 h2 => ?_⟩
    ·have hrun := aAM (P := P) (w := w) (args := (fs ++ (args.toList.map a.eval ++ us)).toArray) hfn
     have e2 : fs.toArray ++ args.map a.eval ++ us.toArray = (fs ++ (args.toList.map a.eval ++ us)).toArray := by rw [← Array.toList_inj]; simp
     simp only [execOp, resolve, Deferred.ofValue, hf, pure_bind]
     show ((invoke _ _).run P w) = _
     simp only [invoke]
     rw [e2]
     exact hrun
    ·exact app hfl hfv (app (by simp) hav huv) i (by simpa using h1) (by simpa using h2)
   split at hc
   ·rename_i g l2 hev
    split at hc
    ·rename_i hbx
     simp only [Option.some.injEq, Prod.mk.injEq] at hc
     rw [hev] at hx
     obtain ⟨h1, h2⟩ := aSE hx
     exact fin g [] (l2.map c.hd) [] (l2.map fun i => .ptr i []) h2 rfl (fun i h1 => by cases h1) (by simp) (aFb hs.good hbx h1) hc.1.symm hc.2.symm
    ·cases hc
   ·rename_i g i0 l1 l2 hev
    split at hc
    ·rename_i hbx
     simp only [Option.some.injEq, Prod.mk.injEq] at hc
     rw [hev] at hx
     obtain ⟨h1, h2, h3⟩ := aUW hx
     exact fin g ((i0 :: l1).map c.hd) (l2.map c.hd) ((i0 :: l1).map fun i => .ptr i []) (l2.map fun i => .ptr i []) h3 (by simp) (aFb hs.good hbx.1 h1) (by simp) (aFb hs.good hbx.2 h2) hc.1.symm hc.2.symm
    ·cases hc
   ·rename_i g t y hev
    split at hc
    ·rename_i hcp
     simp only [Option.some.injEq, Prod.mk.injEq] at hc
     rw [hev] at hx
     obtain ⟨us, h1, h2⟩ := aQw hx
     obtain ⟨k1, k2⟩ := aMe hcp h2
     exact fin g [] us [] (vY t y) h1 rfl (fun i h1 => by cases h1) k1 k2 hc.1.symm hc.2.symm
    ·cases hc
   ·cases hc
  ·cases hc
 ·cases hc
theorem aSQ {nt : Nat} {ds : List Deferred} {env : St} {a : Act} (hs : Sim E M w0 nt ds c env h a w) {o : Oper} (hok : fG nt o = true) {p : Pan} (hc : aOW E.G env o = some p) :
  ∃ u, (execOp a.eval o).run P w = .halt (.panic (.iface p.k u)) w ∧ cR w c.S p.t p.x u := by
 obtain ⟨dst, op, ty, pos, aft, gd⟩ := o
 simp only [fG, Bool.and_eq_true] at hok
 unfold aOW at hc
 split at hc
 ·rename_i cl hop
  simp only at hop
  subst hop
  obtain ⟨callee, args, argTypes⟩ := cl
  simp only at hc
  have hall : ∀ x ∈ (Op.call ⟨callee, args, argTypes⟩).operands, lG x = true := Array.all_eq_true_iff_forall_mem.1 hok.1
  split at hc
  ·split at hc
   ·rename_i x hx
    split at hc
    ·rename_i k t d hev
     cases hc
     have hxm : x ∈ args.toList := by rw [hx]; simp
     have hv := aBp hs.env hs.glob (hall x (by
      simp only [Op.operands, Call.operands]
      exact Array.mem_append.2 (.inr (by simpa using hxm))))
     rw [hev] at hv
     obtain ⟨u, hu, hr⟩ := aMg hv
     have e3 : args = #[x] := by rw [← Array.toList_inj]; exact hx
     refine ⟨u, ?_, hr⟩
     simp [execOp, resolve, invoke, builtin, e3, hu, Instr.panic, goPanic]
    ·cases hc
   ·cases hc
  ·cases hc
 ·rename_i x hop
  simp only at hop
  subst hop
  have hall : ∀ y ∈ (Op.panic x).operands, lG y = true := Array.all_eq_true_iff_forall_mem.1 hok.1
  split at hc
  ·rename_i k t d hev
   cases hc
   have hv := aBp hs.env hs.glob (hall x (by simp [Op.operands]))
   rw [hev] at hv
   obtain ⟨u, hu, hr⟩ := aMg hv
   refine ⟨u, ?_, hr⟩
   simp [execOp, hu, Instr.panic, goPanic]
  ·cases hc
 ·cases hc
end
end Go.Vc
namespace Go.Vc
open Go.RowKit
section
variable {P : Program} {E : Env} {M : Perm} {w0 : World} {c : Ctx} {h : List Obj} {w : World}
theorem Sim.step {nt : Nat} {ds : List Deferred} {env : St} {a : Act} (hs : Sim E M w0 nt ds c env h a w) {h' : List Obj} {c' : Ctx} {w' : World} (hl : dE c w c' w') (hg : Good M w0 c' h' w') : Sim E M w0 nt ds c' env h' a w' :=
 ⟨hg, hs.glob.mono hl.le.S hl.same, hs.env.keep hl, hs.size, hs.defers⟩
theorem aWy (hT : iS P E.T) (hg : Good M w0 c h w) {t : TypeId} {x : AV} {v : Value} {lo hi : Option AV} {lv hv : Option Value} (hx : aQ c w x v) (hlo : aN3 c w lo lv) (hhi : aN3 c w hi hv) (hc : (aJv E.T h t x lo hi).1) :
  ∃ u, (Instr.sliceAt t v lv hv none).run P w = .ok u w ∧ aQ c w (aJv E.T h t x lo hi).2 u := by
 unfold aJv at hc ⊢
 split at hc
 ·rename_i i
  split at hc
  ·rename_i e ct xs ho
   split at hc
   ·rename_i l u hl hu
    obtain ⟨ht, h0, h1, h2⟩ := hc
    obtain ⟨hi', rfl⟩ := yV hx
    obtain ⟨vals, ⟨_, hv'⟩, _⟩ := hg.objs i _ ho
    obtain ⟨e', hd, he, hpos⟩ := eE (hT _ _ ht)
    rcases hv' with ⟨_, hz⟩ | ⟨g, cap, cur, hv0, _, _, hle, hcap, _⟩
    ·omega
    have hb : (Instr.sliceBounds true xs.length cap lv hv none).run P w = .ok (l.toNat, u.toNat, cap) w := by
     cases lo with
     | none =>
      cases lv with
      | some _ => cases hlo
      | none =>
       simp at hl
       subst hl
       cases hi with
       | none =>
        cases hv with
        | some _ => cases hhi
        | none =>
         simp at hu
         subst hu
         simp [Instr.sliceBounds]
       | some ha =>
        cases hv with
        | none => cases hhi
        | some hv =>
         simp at hu
         obtain ⟨k, rfl⟩ := (by cases hhi with | some hh => exact vZ hh hu : ∃ k, hv = Value.int k u)
         simp [Instr.sliceBounds, eZ (P := P) (w := w) (i := u) (y := cap) (by omega) (by omega)]
     | some la =>
      cases lv with
      | none => cases hlo
      | some lv =>
       simp at hl
       obtain ⟨k, rfl⟩ := (by cases hlo with | some hh => exact vZ hh hl : ∃ k, lv = Value.int k l)
       cases hi with
       | none =>
        cases hv with
        | some _ => cases hhi
        | none =>
         simp at hu
         subst hu
         simp [Instr.sliceBounds, eZ (P := P) (w := w) (i := l) (y := xs.length) (by omega) (by omega)]
       | some ha =>
        cases hv with
        | none => cases hhi
        | some hv =>
         simp at hu
         obtain ⟨k', rfl⟩ := (by cases hhi with | some hh => exact vZ hh hu : ∃ k, hv = Value.int k u)
         simp [Instr.sliceBounds, eZ (P := P) (w := w) (i := u) (y := cap) (by omega) (by omega), eZ (P := P) (w := w) (i := l) (y := u.toNat) h0 (by omega)]
    have hne : ¬ cap = l.toNat := by omega
    refine ⟨.slice (some ⟨g, l.toNat * ct.cells, none⟩) (u.toNat - l.toNat) (cap - l.toNat), ?_, ?_⟩
    ·rw [hv0]
     simp [Instr.sliceAt, Instr.slice, aV hd, hb, dW (hT _ _ he), hne, Addr.add]
     exact Eq.symm
    ·refine ⟨?_, (fun h => by simp [AV.isAgg] at h), (fun _ cs => by simp)⟩
     simp only [aH]
     refine ⟨hi', by omega, g, cap - l.toNat, by rw [hv0]; rfl, ?_⟩
     simp [Value.cells]
     omega
   ·exact hc.elim
  ·exact hc.elim
 ·rename_i i
  split at hc
  ·rename_i m n ct xs ho
   split at hc
   ·rename_i l u hl hu
    obtain ⟨ht, h0, h1, h2⟩ := hc
    obtain ⟨hi', b, hb', rfl⟩ := aB9 hx
    obtain ⟨e', hd, he, hpos, hn1, hn2⟩ := aBk (hT _ _ ht)
    have hb : (Instr.sliceBounds false n n lv hv none).run P w = .ok (l.toNat, u.toNat, n) w := by
     cases lo with
     | none =>
      cases lv with
      | some _ => cases hlo
      | none =>
       simp at hl
       subst hl
       cases hi with
       | none =>
        cases hv with
        | some _ => cases hhi
        | none =>
         simp at hu
         subst hu
         simp [Instr.sliceBounds]
       | some ha =>
        cases hv with
        | none => cases hhi
        | some hv =>
         simp at hu
         obtain ⟨k, rfl⟩ := (by cases hhi with | some hh => exact vZ hh hu : ∃ k, hv = Value.int k u)
         simp [Instr.sliceBounds, eZ (P := P) (w := w) (i := u) (y := n) (by omega) (by omega)]
     | some la =>
      cases lv with
      | none => cases hlo
      | some lv =>
       simp at hl
       obtain ⟨k, rfl⟩ := (by cases hlo with | some hh => exact vZ hh hl : ∃ k, lv = Value.int k l)
       cases hi with
       | none =>
        cases hv with
        | some _ => cases hhi
        | none =>
         simp at hu
         subst hu
         simp [Instr.sliceBounds, eZ (P := P) (w := w) (i := l) (y := n) (by omega) (by omega)]
       | some ha =>
        cases hv with
        | none => cases hhi
        | some hv =>
         simp at hu
         obtain ⟨k', rfl⟩ := (by cases hhi with | some hh => exact vZ hh hu : ∃ k, hv = Value.int k u)
         simp [Instr.sliceBounds, eZ (P := P) (w := w) (i := u) (y := n) (by omega) (by omega), eZ (P := P) (w := w) (i := l) (y := u.toNat) h0 (by omega)]
    have hne : ¬ n = l.toNat := by omega
    refine ⟨.slice (some ⟨b, l.toNat * ct.cells, none⟩) (u.toNat - l.toNat) (n - l.toNat), ?_, ?_⟩
    ·simp [Instr.sliceAt, Instr.sureAddr, aV hd, hb, dW (hT _ _ he), hne, Addr.add, kS]
     exact Eq.symm
    ·refine ⟨?_, (fun h => by simp [AV.isAgg] at h), (fun _ cs => by simp)⟩
     simp only [aH]
     refine ⟨hi', by simp only [maxLen]; omega, b, n - l.toNat, hb', ?_⟩
     simp [Value.cells]
     omega
   ·exact hc.elim
  ·exact hc.elim
 ·exact hc.elim
theorem aQN (hE : fU P E) {sb : List Nat} {nt : Nat} {ds : List Deferred} {env : St} {a : Act} {o : Oper} (hs : Sim E M w0 nt ds c env h a w) (hok : fG nt o = true) (hc : (aOX E sb env h o).1) : aRL P M w0 c o a w (aOX E sb env h o).2.2 (aOX E sb env h o).2.1 := by
 unfold aOX at hc ⊢
 split at hc
 ·rename_i t x lo hi d hop hdst
  cases hsb : sb.contains d with
  | false =>
   simp only [hsb, cond_false] at hc ⊢
   exact aHT hE hs hok hc
  | true =>
   simp only [hsb, cond_true] at hc ⊢
   simp only [fG, Bool.and_eq_true] at hok
   have hall : ∀ x ∈ o.op.operands, lG x = true := Array.all_eq_true_iff_forall_mem.1 hok.1
   have hev : ∀ y ∈ o.op.operands, aQ c w (evA E.G env y) (a.eval y) := fun y hy => aBp hs.env hs.glob (hall y hy)
   rw [hop] at hev
   obtain ⟨u, hu, hr⟩ := aWy (P := P) hE.T hs.good (hev x (by simp [Op.operands])) (aMd (o := lo) fun y hy => hev y (by simp [Op.operands, hy])) (aMd (o := hi) fun y hy => hev y (by simp [Op.operands, hy])) hc
   refine (Did.of_value (v := u) (h := h) hs.good ?_ hr).toE
   simp [execOp, hop, hu]
 ·exact aHT hE hs hok hc
theorem aMD (hE : fU P E) {sb : List Nat} {Δ : FuncId → List AV → List Obj → Option Hit} (hΔ : aDT P E.G Δ) {nt : Nat} {ds : List Deferred} {env : St} {a : Act} {o : Oper} (hs : Sim E M w0 nt ds c env h a w) (hok : fG nt o = true) {k : AV → List Obj → Prop} {kp : Pan → List Obj → Prop} (hc : aKl E Δ sb env h o k kp)
  {next : Act → World → Prop} {Q : Exit → Act → World → Prop} (hn : ∀ v h' c' u w', k v h' → aG8 M w0 c w h' v u w' c' → next (a.put o.dst u) w') (hp : ∀ p h' c' u w', kp p h' → dE c w c' w' → Good M w0 c' h' w' → cR w' c'.S p.t p.x u → Q (.panic (aN7 p.k u)) a w') : o.wp P a w next Q := by
 unfold aKl at hc
 cases hcal : aDd E.G env h o with
 | some fv =>
  obtain ⟨f, vs⟩ := fv
  simp only [hcal, aSP, aRP] at hc
  cases hd : Δ f vs h with
  | some t =>
   simp only [hd] at hc
   obtain ⟨h1, h2⟩ := hc
   obtain ⟨xs, q1, q2, q3⟩ := aTO hE hs hok hcal (hΔ.fn f vs h t hd)
   unfold Oper.wp
   rw [q1]
   refine Calls.mono (aUV (hΔ.ok f vs h t hd) hs.good hs.glob q2 q3 h1) ?_
   rintro e w' ⟨cN, hl, hend⟩
   cases hout : t.sp.out t.d with
   | ret v h' =>
    rw [hout] at hend h2
    obtain ⟨u, rfl, hg, hv⟩ := hend
    exact hn _ _ cN u w' h2.2 ⟨hl, hg, hv h2.1⟩
   | pan p h' =>
    rw [hout] at hend h2
    obtain ⟨u, rfl, hg, hv⟩ := hend
    exact hp p _ cN u w' h2 hl hg hv
  | none =>
   simp only [hd] at hc
   cases hpo : aOW E.G env o with
   | some p =>
    simp only [hpo] at hc
    obtain ⟨u, q1, q2⟩ := aSQ (P := P) hs hok hpo
    unfold Oper.wp
    rw [q1]
    exact hp p h c u w hc (.refl _ _) hs.good q2
   | none =>
    simp only [hpo] at hc
    exact (aQN hE hs hok hc.1).wp fun v w' c' ha => hn _ _ c' v w' hc.2 ha
 | none =>
  simp only [hcal, aSP] at hc
  cases hpo : aOW E.G env o with
  | some p =>
   simp only [hpo] at hc
   obtain ⟨u, q1, q2⟩ := aSQ (P := P) hs hok hpo
   unfold Oper.wp
   rw [q1]
   exact hp p h c u w hc (.refl _ _) hs.good q2
  | none =>
   simp only [hpo] at hc
   exact (aQN hE hs hok hc.1).wp fun v w' c' ha => hn _ _ c' v w' hc.2 ha
theorem aPy (hE : fU P E) {sb : List Nat} {Δ : FuncId → List AV → List Obj → Option Hit} (hΔ : aDT P E.G Δ) {ops : List Oper} {Q : Exit → Act → World → Prop} {nt : Nat} {ds : List Deferred} (hok : ∀ o ∈ ops, fG nt o = true) {K : St → List Obj → Prop} {Kp : Pan → St → List Obj → Prop}
  (hK : ∀ env h c a w, K env h → Sim E M w0 nt ds c env h a w → Q .normal a w) (hKp : ∀ p env h c a w u, Kp p env h → Sim E M w0 nt ds c env h a w → cR w c.S p.t p.x u → Q (.panic (aN7 p.k u)) a w) :
  ∀ (m i : Nat), i + m = ops.length → ∀ (env : St) (h : List Obj) (c : Ctx) (a : Act) (w : World), aEL E Δ sb ops (ops.drop i) env h K Kp → Sim E M w0 nt ds c env h a w → wpOps P ops.toArray Q (List.range' i m) a w
 | 0, i, hi, env, h, c, a, w, hs, hsim => by
  rw [List.drop_eq_nil_of_le (by omega)] at hs
  simp only [List.range'_zero, wpOps]
  exact hK env h c a w hs hsim
 | m + 1, i, hi, env, h, c, a, w, hs, hsim => by
  have hil : i < ops.length := by omega
  rw [List.drop_eq_getElem_cons hil] at hs
  have hokO := hok ops[i] (List.getElem_mem hil)
  have hput : ∀ (v : Value) (av : AV), aQ c w av v → Sim E M w0 nt ds c (tH ops[i].dst av env) h (a.put ops[i].dst v) w := fun v av hv => hsim.after hokO ⟨.refl _ _, hsim.good, hv⟩
  have hrun : aKl E Δ sb env h ops[i] (fun v h' => aEL E Δ sb ops (ops.drop (i + 1)) (tH ops[i].dst v env) h' K Kp) (fun p h' => Kp p env h') → Region.wanted ops[i] (yielded ops.toArray a.tmps) = true → wpOps P ops.toArray Q (List.range' i (m + 1)) a w := fun h1 hw => by
   rw [List.range'_succ]
   simp only [wpOps, List.getElem?_toArray, List.getElem?_eq_getElem hil, hw, if_true]
   left
   refine aMD hE hΔ hsim hokO h1 (fun v h' c' u w' hk ha => ?_) (fun p h' c' u w' hk hl hg hr => hKp p env h' c' a w' u hk (hsim.step hl hg) hr)
   exact aPy hE hΔ hok hK hKp m (i + 1) (by omega) _ _ c' _ w' hk (hsim.after hokO ha)
  have hskip : aEL E Δ sb ops (ops.drop (i + 1)) (tH ops[i].dst .undef env) h K Kp → Region.wanted ops[i] (yielded ops.toArray a.tmps) = false → wpOps P ops.toArray Q (List.range' i (m + 1)) a w := fun h2 hw => by
   rw [List.range'_succ]
   simp only [wpOps, List.getElem?_toArray, List.getElem?_eq_getElem hil, hw, Bool.false_eq_true, if_false]
   exact aPy hE hΔ hok hK hKp m (i + 1) (by omega) _ _ c _ w h2 (hput _ _ rfl)
  simp only [aEL] at hs
  cases hgd : ops[i].guard with
  | none =>
   rw [hgd] at hs
   exact hrun hs (by simp [Region.wanted, hgd])
  | some jp =>
   obtain ⟨j, pol⟩ := jp
   rw [hgd] at hs
   simp only at hs
   cases hdj : aGs ops j with
   | none => rw [hdj] at hs; exact hs.elim
   | some dj =>
    rw [hdj] at hs
    simp only at hs
    have hv := hsim.env dj
    split at hs
    ·rename_i b hb
     rw [hb] at hv
     have hb' := aC6 hv
     have hy := vC hok hsim.size hdj hb'
     simp only [yb] at hy
     by_cases e : b = pol
     ·exact hrun (hs.1 e) (by simp [Region.wanted, hgd, hy, e])
     ·have e' : b = !pol := by cases b <;> cases pol <;> simp_all
      exact hskip (hs.2 e') (by simp [Region.wanted, hgd, hy, e])
    ·rename_i hb
     rw [hb] at hv
     have hy := vC hok hsim.size hdj (v := Go.undef) hv
     exact hskip hs (by simp [Region.wanted, hgd, hy, Go.undef, yb])
    ·exact hs.elim
theorem aK {F : Fr} {Q : Exit → Act → World → Prop} {env : St} {h : List Obj} (hF : hU F) {Δ : FuncId → List AV → List Obj → Option Hit} (hΔ : aDT F.P F.E.G Δ) {id : Nat} {ops : Array Oper} (keep sb : List Nat)
  (hv : aEL F.E Δ sb ops.toList ops.toList env h (fun env h => At F (Q .normal) (keep.map fun t => (t, look env t)) h) (fun p env h => AtP F Q p env h)) : Tri F (.region id ops false) Q env h := fun hok c a w hs => by
 simp only [fY, Bool.and_eq_true, Bool.or_eq_true, Bool.not_eq_true'] at hok
 obtain ⟨⟨h1, h2⟩, h3⟩ := hok
 refine wp_region ?_
 have := aPy (Q := Q) hF.env hΔ (List.all_eq_true.1 h1) (K := fun env h => At F (Q .normal) (keep.map fun t => (t, look env t)) h) (Kp := fun p env h => AtP F Q p env h) (fun env h c a w hk hs => hk c a w (hs.keep keep)) (fun p env h c a w u hk hs hr => hk c a w u hs hr) ops.toList.length 0 (by simp) env h c a w (by simpa using hv) hs
 simpa [List.range_eq_range'] using this
theorem dF {F : Fr} {K : Act → World → Prop} {Q : Exit → Act → World → Prop} {p : Pan} {env : St} {h : List Obj} (hq : AtP F Q p env h) : AtP F (Exit.then K Q) p env h := hq
theorem yE {F : Fr} {id : Nat} {Q : Exit → Act → World → Prop} {p : Pan} {env : St} {h : List Obj} (hq : AtP F Q p env h) : AtP F (Exit.inBlock id Q) p env h := hq
def aRQ : List AV → Nat → St
 | [], _ => []
 | v :: r, k => (k, v) :: aRQ r (k + 1)
theorem aPz {tmps : Array Value} : ∀ (us : List AV) (vs : List Value) (k : Nat), vs.length = us.length → (∀ i (h1 : i < us.length) (h2 : i < vs.length), aQ c w us[i] vs[i]) → (∀ i v, vs[i]? = some v → tmps.getD (k + i) Go.undef = v) → aEI c w (aRQ us k) tmps
 | [], _, k, _, _, _ => fun t => trivial
 | u :: us, v :: vs, k, hl, hv, ht => by
  have h0 := hv 0 (by simp) (by simp)
  have t0 := ht 0 v (by simp)
  have rec_ := aPz us vs (k + 1) (by simpa using hl) (fun i h1 h2 => by have := hv (i + 1) (by simpa using h1) (by simpa using h2); simpa using this) (fun i x hx => by
   have := ht (i + 1) x (by simpa using hx)
   rw [show k + 1 + i = k + (i + 1) from by omega]; exact this)
  intro t
  simp only [aRQ, look]
  split
  ·rename_i e
   subst e
   simp only [Nat.add_zero] at t0
   rw [t0]; exact h0
  ·exact rec_ t
def AV.wfV : AV → Prop
 | .val t x => t.wf x
 | .full t xs => (Ty.sl t).wf xs
 | _ => True
def AV.wfL : List AV → Prop
 | [] => True
 | v :: r => v.wfV ∧ AV.wfL r
def Obj.wfV : Obj → Prop
 | .box _ (.agg vs) => AV.wfL vs
 | .box _ v => v.wfV
 | .row _ t xs => (Ty.arr xs.length t).wf xs ∧ xs.length ≤ maxLen
 | .frz t xs => (Ty.sl t).wf xs
 | .tre _ _ t xs => (Ty.sl t).wf xs
 | _ => True
def Obj.wfL : List Obj → Prop
 | [] => True
 | o :: r => o.wfV ∧ Obj.wfL r
theorem aME {v : AV} {cs : List Value} (hr : aH c w v cs) : v.wfV := by
 cases v <;> first | trivial | skip
 case val t x => exact aT.wf t x cs hr
 case full t xs =>
  simp only [aH] at hr
  obtain ⟨a, n, e, hs⟩ := hr
  exact aT.wf (.sl t) xs cs ⟨a, n, n, e, hs⟩
theorem aUX : ∀ {vs : List AV} {cs : List Value}, jN c w vs cs → AV.wfL vs
 | [], _, _ => trivial
 | v :: r, _, ⟨c1, c2, e, h1, h2⟩ => ⟨aME h1, aUX h2⟩
theorem aXN {v : AV} {x : Value} (hr : aQ c w v x) : v.wfV := by
 cases v <;> first | trivial | exact aME hr.1
theorem aPA : ∀ {us : List AV} {vs : List Value}, vs.length = us.length → (∀ i (h1 : i < us.length) (h2 : i < vs.length), aQ c w us[i] vs[i]) → AV.wfL us
 | [], _, _, _ => trivial
 | u :: us, v :: vs, hl, hv => ⟨aXN (hv 0 (by simp) (by simp)), aPA (vs := vs) (by simpa using hl) (fun i h1 h2 => by have := hv (i + 1) (by simpa using h1) (by simpa using h2); simpa using this)⟩
theorem aXO {i : Nat} {o : Obj} (hr : aDB c w i o) : o.wfV := by
 cases o with
 | dead => trivial
 | box n v =>
  obtain ⟨b, cells, e, _, _, _, h4⟩ := hr
  cases v <;> first | exact aUX h4 | exact aME h4 | trivial
 | row e t xs =>
  obtain ⟨vals, h1, h2⟩ := hr
  refine ⟨aT.wf _ _ _ h2, ?_⟩
  rcases h1.2 with ⟨_, h0⟩ | ⟨g, cap, cur, _, _, _, h3, h4, _⟩
  ·rw [h0]; exact Nat.zero_le _
  ·exact Nat.le_trans h3 h4
 | frz t xs => exact aT.wf (.sl t) xs _ hr
 | map k v m => trivial
 | tre e m t xs =>
  obtain ⟨B, h1, _⟩ := hr
  exact aT.wf (.sl t) xs _ (jU.toC (S' := fun _ => True) (fun _ _ => trivial) _ _ _ _ _ (fun _ _ => trivial) h1)
 | trh e m t xs k v => trivial
theorem aSR (hg : Good M w0 c h w) : Obj.wfL h := by
 have : ∀ (l : List Obj), (∀ o ∈ l, o.wfV) → Obj.wfL l := fun l => by
  induction l with
  | nil => intro _; trivial
  | cons o r ih => intro hl; exact ⟨hl o (by simp), ih fun x hx => hl x (by simp [hx])⟩
 refine this h fun o ho => ?_
 obtain ⟨i, hi, rfl⟩ := List.mem_iff_getElem.1 ho
 exact aXO (hg.objs i _ (List.getElem?_eq_getElem hi))
def aR (T : Tab) (h : List Obj) (env : St) : List ResultVar → Prop × List AV
 | [] => (True, [])
 | .tmp t :: r => ((aR T h env r).1, look env t :: (aR T h env r).2)
 | .cell a t :: r => ((aE1 T h t (look env a)).1 ∧ (aR T h env r).1, (aE1 T h t (look env a)).2 :: (aR T h env r).2)
theorem aMF (hT : iS P E.T) (hg : Good M w0 c h w) {env : St} {tmps : Array Value} (he : aEI c w env tmps) {g : ResultVar → Sem Value} (hg1 : ∀ t, g (.tmp t) = pure (tmps.getD t Go.undef)) (hg2 : ∀ a t, g (.cell a t) = (do loadVar t (← asAddr (tmps.getD a Go.undef)))) : ∀ (l : List ResultVar), (aR E.T h env l).1 →
  ∃ us : List Value, (l.mapM g).run P w = .ok us w ∧ us.length = (aR E.T h env l).2.length ∧ ∀ i (h1 : i < (aR E.T h env l).2.length) (h2 : i < us.length), aQ c w (aR E.T h env l).2[i] us[i]
 | [], _ => ⟨[], by simp, rfl, fun i h1 => by simp [aR] at h1⟩
 | .tmp t :: r, hc => by
  simp only [aR] at hc ⊢
  obtain ⟨us, q1, q2, q3⟩ := aMF hT hg he hg1 hg2 r hc
  refine ⟨tmps.getD t Go.undef :: us, by simp only [List.mapM_cons, Sem.run_bind, hg1, Sem.run_pure, Result.andThen_ok, q1], by simp [q2], fun i h1 h2 => ?_⟩
  cases i with
  | zero => exact he t
  | succ i => exact q3 i (by simpa using h1) (by simpa using h2)
 | .cell a t :: r, hc => by
  simp only [aR] at hc ⊢
  obtain ⟨us, q1, q2, q3⟩ := aMF hT hg he hg1 hg2 r hc.2
  obtain ⟨u, hu, hr⟩ := aSu (P := P) hT hg (he a) hc.1
  have hrun : (g (.cell a t)).run P w = .ok u w := by
   rw [hg2]
   have hv := he a
   generalize tmps.getD a Go.undef = v at hu hv
   simp only [Instr.loadAt, Sem.run_bind] at hu
   simp only [Sem.run_bind]
   have : ∃ ad, v = .pointer (some ad) := by
    cases v with
    | pointer p =>
     cases p with
     | some ad => exact ⟨ad, rfl⟩
     | none => simp [Instr.sureAddr, Result.andThen] at hu
    | _ => simp [Instr.sureAddr, Result.andThen] at hu
   obtain ⟨ad, rfl⟩ := this
   simpa [Instr.sureAddr, asAddr] using hu
  refine ⟨u :: us, by simp only [List.mapM_cons, Sem.run_bind, hrun, Sem.run_pure, Result.andThen_ok, q1], by simp [q2], fun i h1 h2 => ?_⟩
  cases i with
  | zero => exact hr
  | succ i => exact q3 i (by simpa using h1) (by simpa using h2)
theorem aDU (hT : iS P E.T) (hg : Good M w0 c h w) {env : St} {tmps : Array Value} (he : aEI c w env tmps) {fn : Func} {l : List ResultVar} (hr : fn.results = l.toArray) (hc : (aR E.T h env l).1) :
  ∃ us : List Value, (results fn tmps).run P w = .ok (aGr us) w ∧ us.length = (aR E.T h env l).2.length ∧ ∀ i (h1 : i < (aR E.T h env l).2.length) (h2 : i < us.length), aQ c w (aR E.T h env l).2[i] us[i] := by
 unfold results
 rw [hr]
 simp only [Sem.run_bind]
 rw [List.mapM_toArray, Sem.run_map]
 generalize hm : (List.mapM _ l : Sem (List Value)) = mm
 have key : ∀ (g : ResultVar → Sem Value), (∀ t, g (.tmp t) = pure (tmps.getD t Go.undef)) → (∀ a t, g (.cell a t) = (do loadVar t (← asAddr (tmps.getD a Go.undef)))) → List.mapM g l = mm →
   ∃ us : List Value, mm.run P w = .ok us w ∧ us.length = (aR E.T h env l).2.length ∧ ∀ i (h1 : i < (aR E.T h env l).2.length) (h2 : i < us.length), aQ c w (aR E.T h env l).2[i] us[i] := fun g hg1 hg2 e => by
  subst e; exact aMF (P := P) hT hg he hg1 hg2 l hc
 obtain ⟨us, q1, q2, q3⟩ := key _ (fun t => rfl) (fun a t => rfl) hm
 refine ⟨us, ?_, q2, q3⟩
 rw [q1]
 simp only [Result.andThen_ok, Sem.run_pure]
 congr 1
 match us with
 | [] => rfl
 | [v] => rfl
 | a :: b :: r =>
  rw [dif_neg (by simp)]
  rfl
def rI (h : List Obj) : List AV → List AV → Prop
 | [], [] => True
 | v :: r, u :: r' => (dM h v u ∧ gS u = true) ∧ rI h r r'
 | _, _ => False
def rM (h : List Obj) : AV → List AV → Prop
 | .tup vs, us => us.length ≠ 1 ∧ rI h us vs
 | v, [u] => dM h u v
 | _, _ => False
theorem aPB (hg : Good M w0 c h w) : ∀ {us vs : List AV} {xs : List Value}, rI h us vs → xs.length = us.length → (∀ i (h1 : i < us.length) (h2 : i < xs.length), aQ c w us[i] xs[i]) → xs.length = vs.length ∧ ∀ i (h1 : i < vs.length) (h2 : i < xs.length), aQ c w vs[i] xs[i] ∧ gS vs[i] = true
 | [], [], [], _, _, _ => ⟨rfl, fun i h1 => by simp at h1⟩
 | u :: us, v :: vs, x :: xs, hf, hl, hv => by
  obtain ⟨⟨h1, hj⟩, h2⟩ := hf
  obtain ⟨q1, q2⟩ := aPB hg h2 (xs := xs) (by simpa using hl) (fun i h1 h2 => by have := hv (i + 1) (by simpa using h1) (by simpa using h2); simpa using this)
  refine ⟨by simp [q1], fun i k1 k2 => ?_⟩
  cases i with
  | zero => exact ⟨aLO hg h1 (hv 0 (by simp) (by simp)), hj⟩
  | succ i => exact q2 i (by simpa using k1) (by simpa using k2)
theorem aSS {v : AV} {x : Value} (hv : aQ c w v x) (hj : gS v = true) (ht : ∀ vs, v ≠ .tup vs) (hu : v ≠ .undef) : rJ c w v x := by
 cases v <;> first | exact hv | (simp [gS] at hj; done) | exact absurd rfl (ht _) | exact absurd rfl hu
def aUY : AV → Bool
 | .tup _ => false
 | .undef => false
 | _ => true
theorem qY {F : Fr} {fn : Func} {sp : iE} {c0 : Ctx} {d : sp.D} {env : St} {h h' : List Obj} {v : AV} (hF : hU F) (l : List ResultVar) (hM : F.M = GM sp c0 d) (hds : F.ds = []) (hr : fn.results = l.toArray) (hout : sp.out d = .ret v h') (hh : h = h') (hfl : (match v with | .tup vs => vs.all aUY | _ => true) = true) (hy : (aR F.E.T h env l).1 ∧ rM h v (aR F.E.T h env l).2) :
  At F (bodyPost F.P fn (aHW sp c0 F.w0 d) .ret) env h := fun c a w hs => by
 subst hh
 obtain ⟨us, q1, q2, q3⟩ := aDU (P := F.P) hF.env.T hs.good hs.env hr hy.1
 refine ⟨hs.defers.trans hds, aGr us, q1, c, ?_⟩
 rw [hout]
 refine ⟨aGr us, rfl, by rw [← hM]; exact hs.good, ?_⟩
 have hy2 := hy.2
 generalize (aR F.E.T h env l).2 = rs at q2 q3 hy2
 cases v with
 | tup vs =>
  obtain ⟨h1, h2⟩ := hy2
  obtain ⟨k1, k2⟩ := aPB hs.good h2 q2 q3
  refine ⟨us, ?_, k1, fun i p1 p2 => ?_⟩
  ·match us, q2 with
   | [], _ => rfl
   | [x], q2 => exact absurd q2.symm h1
   | a :: b :: r, _ => rfl
  ·have hfi := List.all_eq_true.1 hfl vs[i] (List.getElem_mem p1)
   exact aSS (k2 i p1 p2).1 (k2 i p1 p2).2 (fun l e => by rw [e] at hfi; cases hfi) (fun e => by rw [e] at hfi; cases hfi)
 | _ =>
  match rs, hy2 with
  | [u], hy2 =>
   match us, q2 with
   | [x], _ => exact aLO hs.good hy2 (q3 0 (by simp) (by simp))
theorem gT {F : Fr} {fn : Func} {sp : iE} {c0 : Ctx} {d : sp.D} {env : St} {h h' : List Obj} {p : Pan} (hM : F.M = GM sp c0 d) (hds : F.ds = []) (hout : sp.out d = .pan p h') (hh : h = h') :
  AtP F (bodyPost F.P fn (aHW sp c0 F.w0 d)) p env h := fun c a w u hs hr => by
 subst hh
 refine ⟨hs.defers.trans hds, c, ?_⟩
 rw [hout]
 exact ⟨u, rfl, by rw [← hM]; exact hs.good, hr⟩
theorem iJ {F : Fr} {Q : Exit → Act → World → Prop} {p : Pan} {env : St} {h : List Obj} (σ : List Nat) (hd : nodupB σ = true) (hp : preB F.M.m σ = true) (hk : AtP F Q p (env.map fun q => (q.1, ren σ q.2)) (σ.map fun i => iN σ (h.getD i .dead))) : AtP F Q p env h := fun c a w u hs hr =>
 hk (c.ren σ) a w u ⟨hs.good.ren hd hp, hs.glob, fun t => by rw [aFf (ren σ) rfl]; exact aLQ (hs.env t), hs.size, hs.defers⟩ hr
end
end Go.Vc
namespace Go.Vc
attribute [go_sem] Int.toNat_natCast vcA opA pv aMi aUC evA aAv tG aBq fX aCa
attribute [go_sem] aHM aDb aMh aHy nC aQl aK2 aXG Go.Vc.look aE1 zO aUd
attribute [go_sem] aPe shU shI hO aWa aUe aRy aJd zP uD uD.fldT aFV
attribute [go_sem] aHB aHC aE2 aHD aJk aG0 aG2 aHJ aDF aFX vX aUj
attribute [go_sem] mm2 tF dC Go.Vc.elemOf aOK List.all_cons List.all_nil Int.le_refl Nat.le_refl AV.solid AV.solid1 AV.nc
attribute [go_sem] AV.nc1 AV.isAgg Ty.isAgg Ty.cells Ty.zero gW List.map List.append List.length Option.map decide_true decide_false
attribute [go_sem] Bool.and_true Bool.true_and true_and and_true implies_true forall_const if_true if_false IntKind.signed Ty.den Nat.succ_ne_self ne_eq
attribute [go_sem] not_false_eq_true not_true_eq_false List.getElem?_nil aGp List.nil_append List.cons_append beq_self_eq_true Bool.and_self cond_true cond_false Bool.cond_true_left Bool.cond_false_right
attribute [go_sem] qS wD aAw aLP aMw aX9 freezeAll freeze aPs aMm aDN rL aF5 aF6 isStr bxN aEV aL0 aRs aRr aLZ aPd
attribute [go_sem] aSM aQu aUv Ty.isNil aJn aF4 aQE aSL tH aGs zT aJm
attribute [go_sem] aCc pO aBs Ty.strB aRD bound yB aXw aWe aWf aXx aUD
attribute [go_sem] frzAll Ty.scalar eG aUk RK.ty AV.tags AV.tags1 List.flatMap_cons List.flatMap_nil List.getElem?_cons_zero List.getElem?_cons_succ List.set_cons_zero
attribute [go_sem] List.set_cons_succ List.length_cons List.length_nil Nat.zero_add vY List.getD_cons_zero List.getD_cons_succ dite_true Ty.okB Ty.byt IntKind.bits qA
attribute [go_sem] aCG aX6 aRx aXy aPg aWg aUy allTags aG1 gt_iff_lt ge_iff_le List.length_replicate
attribute [go_sem] List.replicate_zero List.length_set aUO aUP aUQ aTF aYa aG9 aE9 aUz aBl aBm
attribute [go_sem] aMv Ty.keyB Ty.key1 Option.some.injEq exists_eq_left' List.append_nil decide_eq_true_eq decide_eq_false_iff_not Bool.or_eq_true Bool.or_eq_false_iff Bool.and_eq_true Int.not_lt
attribute [go_sem] Int.not_le Bool.not_eq_true' Bool.not_eq_false' fK aQI mA oX List.take_succ_cons List.take_zero List.drop_succ_cons List.drop_zero aUi
attribute [go_sem] uU aTq aPj aFW Ty.flds aE3 aEK Ty.fieldOff aRz parse aDE aPh
attribute [go_sem] aL4 Option.getD_some Option.getD_none Bool.not_true Bool.not_false Bool.false_eq_true Bool.true_eq_false false_implies and_false false_and or_true true_or
attribute [go_sem] or_false false_or Bool.or_true Bool.or_false Bool.true_or Bool.false_or Bool.and_false Bool.false_and Option.isSome_some Option.isSome_none Int.reduceToNat Int.reduceLE
attribute [go_sem] Int.reduceLT Nat.reduceEqDiff Nat.reduceAdd Nat.reduceMul Nat.reduceLT Nat.reduceSub Nat.reduceLeDiff Nat.reduceDiv Nat.reduceMod Nat.reducePow Nat.reduceGT Int.reduceEq
attribute [go_sem] Int.reduceNe Int.reduceAdd Int.reduceSub Int.reduceNeg Int.reduceMul reduceIte reduceCtorEq
end Go.Vc
namespace Go.Vc
open Go.RowKit
def Ty.argB : Ty → Bool
 | .bool => true
 | .u _ => true
 | .i _ => true
 | .str => true
 | .sl t => t.argB
 | .unit => true
 | .pair a b => a.argB && b.argB
 | .arr _ t => t.argB
 | .expr => true
 | _ => false
section
variable {P : Program} {T : Tab} {H : Type} {enc : TypeId × Value → H} {w : World} {spare : Nat → Bool} {held : Bool}
theorem lS {t : TypeId} {c : Ty} (h : aAJ P T t c) : P.cellsOf t = c.cells := by
 obtain ⟨i, hi, hs, _⟩ := h.info
 simp [Program.cellsOf, hi, hs]
def yF (w : World) : Nat → Prop := fun b => b < w.heap.size
theorem aJw {a : Addr} {n : Nat} {ds : List Value} (h : w.cells? 0 a n = some ds) : ds.length = n ∧ ∀ j, j < n → w.cell? (a.add j) = ds[j]? := by
 unfold World.cells? at h
 rw [if_pos (Nat.zero_le _)] at h
 have hl := mapM_some_length h
 have hg := mapM_some_get h
 simp only [List.length_range] at hl
 exact ⟨hl, fun j hj => hg j j (by simp [hj])⟩
theorem aST {b off : Nat} {v : Value} (h : w.cell? ⟨b, off, none⟩ = some v) : b < w.heap.size := by
 rcases Nat.lt_or_ge b w.heap.size with hl | hl
 ·exact hl
 ·simp [World.cell?, Array.getElem?_eq_none hl] at h
theorem aXP (a : Addr) (i j : Nat) (h : a.spot = none) : (a.add i).add j = ⟨a.block, a.off + i + j, none⟩ := by
 obtain ⟨b, o, s⟩ := a
 simp only at h
 subst h
 unfold Addr.add
 by_cases hi : i = 0 <;> by_cases hj : j = 0 <;> simp [hi, hj] <;> omega
theorem aUZ {sz : Nat} (hsz : 0 < sz) {α : Type} {R : α → List Value → Prop} {a : Addr} {len : Nat} (hel : ∀ i, i < len → ∃ ds x, w.cells? 0 (a.add (i * sz)) sz = some ds ∧ R x ds) :
  ∃ xs : List α, xs.length = len ∧ (xs = [] ∨ ∃ b off, some a = some ⟨b, off, none⟩ ∧ yF w b ∧ ∀ i (h : i < xs.length), ∃ ds, R xs[i] ds ∧ jC w b (off + i * sz) ds) := by
 classical
 by_cases h0 : len = 0
 ·exact ⟨[], by simp [h0], .inl rfl⟩
 have hpos : 0 < len := by omega
 obtain ⟨ds0, x0, e0, _⟩ := hel 0 hpos
 have hsp : a.spot = none := by
  obtain ⟨hl, hg⟩ := aJw e0
  have := hg 0 hsz
  have hd : (ds0)[0]? = some (ds0[0]'(by omega)) := List.getElem?_eq_getElem (by omega)
  rw [hd] at this
  have := World.cell?_spot this
  simpa [Addr.add] using this
 have hf : ∃ f : Nat → α, ∀ i, i < len → ∃ ds, w.cells? 0 (a.add (i * sz)) sz = some ds ∧ R (f i) ds := by
  refine ⟨fun i => if h : i < len then Classical.choose (Classical.choose_spec (hel i h)) else x0, fun i hi => ?_⟩
  simp only [dif_pos hi]
  exact ⟨Classical.choose (hel i hi), Classical.choose_spec (Classical.choose_spec (hel i hi))⟩
 obtain ⟨f, hf⟩ := hf
 have hcell : ∀ i, i < len → ∀ ds, w.cells? 0 (a.add (i * sz)) sz = some ds → jC w a.block (a.off + i * sz) ds := fun i hi ds hds j v hj => by
  obtain ⟨hl, hg⟩ := aJw hds
  have hjl : j < sz := by
   rcases Nat.lt_or_ge j sz with h | h
   ·exact h
   ·rw [List.getElem?_eq_none (by omega)] at hj; cases hj
  have := hg j hjl
  rw [aXP a _ j hsp, hj] at this
  exact this
 refine ⟨(List.range len).map f, by simp, .inr ⟨a.block, a.off, ?_, ?_, fun i hi => ?_⟩⟩
 ·obtain ⟨b, o, s⟩ := a; simp only at hsp; subst hsp; rfl
 ·obtain ⟨ds, hds, _⟩ := hf 0 hpos
  have := hcell 0 hpos ds hds 0 (ds[0]'(by rw [(aJw hds).1]; exact hsz)) (List.getElem?_eq_getElem _)
  exact aST this
 ·simp only [List.length_map, List.length_range] at hi
  obtain ⟨ds, hds, hR⟩ := hf i hi
  exact ⟨ds, by simpa using hR, hcell i hi ds hds⟩
theorem aMG {n : Nat} (ih : ∀ (t : TypeId) (c : Ty) (cs : List Value) (x : DataW H × List MemPlace), T t = some c → c.argB = true → DataW.trod enc P w 0 spare held n t cs = some x → ∃ y, aT w (yF w) c y cs) (hT : iS P T) (cs : List Value) :
  ∀ (fs : List Field) (off : Nat) (c : Ty), dB T fs off c = true → c.argB = true → (cs.drop off).length = c.cells → (∀ f ∈ fs, ∃ x, DataW.trod enc P w 0 spare held n f.type ((cs.drop f.offset).take (P.cellsOf f.type)) = some x) → ∃ y, aT w (yF w) c y (cs.drop off)
 | [], off, c, hf, ha, hl, _ => by
  cases c <;> simp [dB] at hf
  exact ⟨(), List.eq_nil_of_length_eq_zero hl⟩
 | f :: fs, off, c, hf, ha, hl, hx => by
  cases c <;> simp only [dB, Bool.false_eq_true] at hf
  case pair a b =>
   simp only [Bool.and_eq_true, decide_eq_true_eq] at hf
   obtain ⟨⟨⟨⟨h1, h2⟩, h3⟩, h4⟩, h5⟩ := hf
   simp only [Ty.argB, Bool.and_eq_true] at ha
   obtain ⟨x, hx0⟩ := hx f (by simp)
   rw [lS (hT _ _ h1), h2] at hx0
   obtain ⟨y1, r1⟩ := ih _ _ _ _ h1 ha.1 hx0
   simp only [Ty.cells] at hl
   obtain ⟨y2, r2⟩ := aMG ih hT cs fs (off + a.cells) b h5 ha.2 (by simp only [List.length_drop] at hl ⊢; omega) (fun g hg => hx g (by simp [hg]))
   refine ⟨(y1, y2), (cs.drop off).take a.cells, cs.drop (off + a.cells), ?_, r1, r2⟩
   rw [← List.drop_drop, List.take_append_drop]
theorem aQO (hT : iS P T) : ∀ (n : Nat) (t : TypeId) (c : Ty) (cs : List Value) (x : DataW H × List MemPlace), T t = some c → c.argB = true → DataW.trod enc P w 0 spare held n t cs = some x → ∃ y, aT w (yF w) c y cs := by
 intro n
 induction n with
 | zero => intro t c cs x _ _ h; simp [DataW.trod] at h
 | succ n ih =>
  intro t c cs x ht ha h
  obtain ⟨d, hd, hb⟩ := (hT _ _ ht).desc
  cases c with
  | bool =>
   cases d <;> simp [fT] at hb
   obtain ⟨b, e, _⟩ := DataW.trod_bool hd h
   exact ⟨b, e⟩
  | u k =>
   cases d <;> simp [fT] at hb
   rename_i k'
   obtain ⟨rfl, hb⟩ := hb
   obtain ⟨m, e, _, hw⟩ := DataW.trod_int hd h
   simp only [Lit.wf, Bool.and_eq_true, decide_eq_true_eq] at hw
   have hmin : IntKind.min k = 0 := by cases k <;> first | rfl | (simp [IntKind.signed] at hb; done)
   have hm : ((m.toNat : Nat) : Int) = m := Int.toNat_of_nonneg (by omega)
   exact ⟨m.toNat, by rw [hm]; exact e, hb, by rw [hm]; exact hw.2⟩
  | i k =>
   cases d <;> simp [fT] at hb
   rename_i k'
   obtain ⟨rfl, hb⟩ := hb
   obtain ⟨m, e, _, hw⟩ := DataW.trod_int hd h
   simp only [Lit.wf, Bool.and_eq_true, decide_eq_true_eq] at hw
   exact ⟨m, e, hb, hw.1, hw.2⟩
  | str =>
   cases d <;> simp [fT] at hb
   obtain ⟨s, e, _, hs⟩ := DataW.trod_string hd h
   exact ⟨aP s, s, e, rfl, hs⟩
  | sl t1 =>
   cases d <;> simp [fT] at hb
   obtain ⟨hb1, hb2⟩ := hb
   rcases DataW.trod_slice hd h with ⟨rfl, _⟩ | ⟨a, len, cap, elems, rest, m, hm, rfl, _, _, hl, hc, hlen, hel, _⟩
   ·exact ⟨[], none, 0, 0, rfl, rfl, Nat.le_refl _, Nat.zero_le _, .inl rfl⟩
   ·cases hm
    rw [lS (hT _ _ hb1)] at hel
    obtain ⟨xs, h1, h2⟩ := aUZ (w := w) hb2 (R := aT w (yF w) t1) (a := a) (len := len) (fun i hi => by
     have := hel i hi
     rw [List.getElem?_eq_getElem (by omega)] at this
     obtain ⟨ds, hds, hx⟩ := Option.bind_eq_some_iff.1 this
     obtain ⟨y, hy⟩ := ih _ _ _ _ hb1 ha hx
     exact ⟨ds, y, hds, hy⟩)
    exact ⟨xs, some a, len, cap, rfl, h1, hl, hc, h2⟩
  | unit =>
   cases d <;> simp [fT] at hb
   rename_i fs
   obtain ⟨xs, m, _, _, hlen, _⟩ := DataW.trod_struct hd h
   rw [lS (hT _ _ ht)] at hlen
   exact ⟨(), List.eq_nil_of_length_eq_zero hlen⟩
  | pair a b =>
   cases d <;> simp [fT] at hb
   rename_i fs
   obtain ⟨xs, m, hm, _, hlen, hxl, hf⟩ := DataW.trod_struct hd h
   cases hm
   rw [lS (hT _ _ ht)] at hlen
   have := aMG ih hT cs fs.toList 0 (.pair a b) hb ha (by simpa using hlen) (fun f hf' => by
    obtain ⟨i, hi, rfl⟩ := List.mem_iff_getElem.1 hf'
    have hi' : i < fs.size := by simpa using hi
    have := hf i fs[i] (Array.getElem?_eq_getElem hi')
    rw [List.getElem?_eq_getElem (by omega)] at this
    exact ⟨_, by simpa using this⟩)
   simpa using this
  | arr m t1 =>
   cases d <;> simp [fT] at hb
   obtain ⟨⟨⟨rfl, hb1⟩, hb2⟩, _⟩ := hb
   obtain ⟨xs, q, hq, _, hlen, hxl, hf⟩ := DataW.trod_array hd h
   cases hq
   rw [lS (hT _ _ ht)] at hlen
   rw [lS (hT _ _ hb1)] at hf
   have hall : ∀ i, i < m → ∃ y, aT w (yF w) t1 y ((cs.drop (i * t1.cells)).take t1.cells) := fun i hi => by
    have := hf i hi
    rw [List.getElem?_eq_getElem (by omega)] at this
    exact ih _ _ _ _ hb1 ha this
   classical
   have hfun : ∃ f : Nat → t1.den, ∀ i, i < m → aT w (yF w) t1 (f i) ((cs.drop (i * t1.cells)).take t1.cells) := by
    refine ⟨fun i => if h : i < m then Classical.choose (hall i h) else t1.zero, fun i hi => ?_⟩
    simp only [dif_pos hi]
    exact Classical.choose_spec (hall i hi)
   obtain ⟨f, hfun⟩ := hfun
   refine ⟨(List.range m).map f, by simp, (List.range m).map fun i => (cs.drop (i * t1.cells)).take t1.cells, ?_, by simp, fun i h1 h2 => ?_⟩
   ·have : ∀ (k : Nat) (l : List Value), l.length = k * t1.cells → l = ((List.range k).map fun i => (l.drop (i * t1.cells)).take t1.cells).flatten := by
     intro k
     induction k with
     | zero => intro l hl; simp at hl; simp [hl]
     | succ k ihk =>
      intro l hl
      rw [List.range_succ, List.map_append, List.flatten_append]
      have h1 := ihk (l.take (k * t1.cells)) (by simp [hl, Nat.add_mul])
      have h2 : ((List.range k).map fun i => ((l.take (k * t1.cells)).drop (i * t1.cells)).take t1.cells) = ((List.range k).map fun i => (l.drop (i * t1.cells)).take t1.cells) := by
       apply List.map_congr_left
       intro i hi
       have hik : i < k := List.mem_range.1 hi
       rw [List.drop_take, List.take_take]
       congr 1
       have : (i + 1) * t1.cells ≤ k * t1.cells := Nat.mul_le_mul_right _ hik
       rw [Nat.add_mul] at this
       omega
      rw [h2] at h1
      rw [← h1]
      simp only [List.map_cons, List.map_nil, List.flatten_cons, List.flatten_nil, List.append_nil]
      rw [List.take_of_length_le (l := l.drop (k * t1.cells)) (by simp [hl, Nat.add_mul]), List.take_append_drop]
    exact this m cs hlen
   ·simp only [List.length_map, List.length_range] at h1
    simpa using hfun i h1
  | expr =>
   cases d <;> simp [fT] at hb
   rename_i fs
   obtain ⟨xs, m, hm, _, hlen, hxl, hf⟩ := DataW.trod_struct hd h
   cases hm
   rw [lS (hT _ _ ht)] at hlen
   have hfs : ∃ f0 f1 f2, fs.toList = [f0, f1, f2] ∧ (T f0.type = some (.i .i64) ∧ f0.offset = 0 ∧ T f1.type = some .str ∧ f1.offset = 1 ∧ T f2.type = some (.sl .expr) ∧ f2.offset = 2) := by
    unfold aSp at hb
    split at hb
    ·rename_i f0 f1 f2 hfs
     simp only [Bool.and_eq_true, decide_eq_true_eq] at hb
     exact ⟨f0, f1, f2, hfs, hb.1.1.1.1.1, hb.1.1.1.1.2, hb.1.1.1.2, hb.1.1.2, hb.1.2, hb.2⟩
    ·cases hb
   obtain ⟨f0, f1, f2, hfs, t0, o0, t1, o1, t2, o2⟩ := hfs
   have hget : ∀ (i : Nat) (f : Field), fs.toList[i]? = some f → ∃ x, DataW.trod enc P w 0 spare held n f.type ((cs.drop f.offset).take (P.cellsOf f.type)) = some x := fun i f hi => by
    have hi' : fs[i]? = some f := by simpa using hi
    have := hf i f hi'
    have hil : i < fs.size := by
     rcases Nat.lt_or_ge i fs.size with h | h
     ·exact h
     ·rw [Array.getElem?_eq_none h] at hi'; cases hi'
    rw [List.getElem?_eq_getElem (by omega)] at this
    exact ⟨_, this⟩
   obtain ⟨x0, h0⟩ := hget 0 f0 (by rw [hfs]; rfl)
   obtain ⟨x1, h1⟩ := hget 1 f1 (by rw [hfs]; rfl)
   obtain ⟨x2, h2⟩ := hget 2 f2 (by rw [hfs]; rfl)
   rw [lS (hT _ _ t0), o0] at h0
   rw [lS (hT _ _ t1), o1] at h1
   rw [lS (hT _ _ t2), o2] at h2
   obtain ⟨y0, r0⟩ := ih _ _ _ _ t0 rfl h0
   obtain ⟨y1, r1⟩ := ih _ _ _ _ t1 rfl h1
   obtain ⟨y2, r2⟩ := ih _ _ _ _ t2 rfl h2
   match cs, hlen with
   | [c0, c1, c2], _ =>
    simp only [Ty.cells, List.drop_zero, List.drop_succ_cons, List.take_succ_cons, List.take_zero] at r0 r1 r2
    obtain ⟨e0, _, b1, b2⟩ := r0
    obtain ⟨s, e1, rfl, hs⟩ := r1
    obtain ⟨a, len, cap, e2, hl1, hl2, hl3, hl4⟩ := r2
    simp only [List.cons.injEq, and_true] at e0 e1 e2
    subst e0; subst e1; subst e2
    classical
    refine ⟨.mk y0 (aP s) y2, ?_⟩
    rcases hl4 with rfl | ⟨b, off, ha, hb, hel⟩
    ·exact RepEx.mk y0 s [] a len cap (fun _ => []) ⟨b1, b2⟩ hs hl1 hl2 hl3 (fun i h => by simp at h) (.inl rfl)
    ·refine RepEx.mk y0 s y2 a len cap (fun i => if h : i < List.length y2 then Classical.choose (hel i h) else []) ⟨b1, b2⟩ hs hl1 hl2 hl3 (fun i h => ?_) (.inr ⟨b, off, ha, hb, fun i h => ?_⟩)
     ·simp only [dif_pos h]; exact (Classical.choose_spec (hel i h)).1
     ·simp only [dif_pos h]; exact (Classical.choose_spec (hel i h)).2
  | rp t1 => simp [Ty.argB] at ha
  | clo g t1 => simp [Ty.argB] at ha
  | ifc k t1 => simp [Ty.argB] at ha
  | nili => simp [Ty.argB] at ha
  | nilp => simp [Ty.argB] at ha
  | nilf => simp [Ty.argB] at ha
theorem aWz (hT : iS P T) {t : TypeId} {c : Ty} {r : Reach} {base : Nat} {v : Value} {d : DataW H} {ps : List MemPlace} (ht : T t = some c) (ha : c.argB = true) (hw : Value.okWide P w r base t v) (h : DataW.Trod enc P w 0 spare held t v d ps) : ∃ y, cR w (yF w) c y v := by
 obtain ⟨n, hn⟩ := h
 obtain ⟨y, hy⟩ := aQO hT n t c _ _ ht ha hn
 refine ⟨y, cR.of_cells (fun hag => ?_) (fun hna => ?_) hy⟩
 ·obtain ⟨d, hd, hb⟩ := (hT _ _ ht).desc
  unfold Value.okWide at hw
  rw [hd] at hw
  cases c <;> simp [Ty.isAgg] at hag
  all_goals (cases d <;> first | (simp [fT] at hb; done) | skip)
  all_goals (obtain ⟨cs, rfl, _⟩ := hw; exact ⟨cs, rfl⟩)
 ·intro cs e
  subst e
  obtain ⟨d, hd, hb⟩ := (hT _ _ ht).desc
  unfold Value.okWide at hw
  rw [hd] at hw
  cases c <;> simp [Ty.isAgg] at hna
  all_goals (cases d <;> first | (simp [fT] at hb; done) | skip)
  all_goals (simp [Cell.okWide, Cell.ok, hd] at hw)
def aXQ (T : Tab) : Ty → List TypeId → Bool
 | .unit, [] => true
 | .pair a r, t :: ts => decide (T t = some a) && a.argB && aXQ T r ts
 | _, _ => false
theorem aSU (hT : iS P T) {r : Reach} {base : Nat} : ∀ (c : Ty) (ts : List TypeId) (vs : List Value) (ds : List (DataW H)) (ps : List MemPlace), aXQ T c ts = true → DataW.TrodAll enc P w 0 spare held ts vs ds ps → (∀ (j : Nat) t v, ts[j]? = some t → vs[j]? = some v → Value.okWide P w r base t v) → ∃ x, nT w (yF w) c x vs
 | .unit, [], vs, ds, ps, _, h, _ => by
  cases vs <;> cases ds <;> simp [DataW.TrodAll] at h
  exact ⟨(), rfl⟩
 | .pair a c, t :: ts, vs, ds, ps, hb, h, hw => by
  simp only [aXQ, Bool.and_eq_true, decide_eq_true_eq] at hb
  cases vs <;> cases ds <;> simp only [DataW.TrodAll] at h
  rename_i v vs d ds
  obtain ⟨p, q, h1, h2, _⟩ := h
  obtain ⟨y, hy⟩ := aWz hT hb.1.1 hb.1.2 (hw 0 t v rfl rfl) h1
  obtain ⟨x, hx⟩ := aSU hT c ts vs ds q hb.2 h2 (fun j t' v' e1 e2 => hw (j + 1) t' v' (by simpa using e1) (by simpa using e2))
  exact ⟨(y, x), v, vs, rfl, hy, hx⟩
end
end Go.Vc
namespace Go.Vc
attribute [go_sem] aOX aJv List.contains_cons List.contains_nil aEL aKl aSP aRP aDd aOW aUS aUT
attribute [go_sem] aUU aMC aJu aXi nodupB aXM gS emb aDc aHX aRO aMA
attribute [go_sem] aDS nU mC aBv ren eH iN posOf cT aR rI dM
attribute [go_sem] rM aUY aRQ AV.wfL AV.wfV Obj.wfL Obj.wfV List.all_cons List.all_nil List.range'_zero List.range'_succ List.zip_cons_cons
attribute [go_sem] List.zip_nil_left List.zip_nil_right List.drop_nil List.take_nil List.map_cons List.map_nil aQt aFa
end Go.Vc
namespace Go.Vc
open Go.RowKit
section
variable {P : Program} {E : Env} {M : Perm} {w0 : World} {c : Ctx} {h : List Obj} {w : World}
def aSV (P : Program) (fn : Func) (S : Nat → Prop) (w0 : World) (r : RK) (y : r.ty.den) : Exit → Act → World → Prop :=
 bodyPostD P fn fun e w' => ∃ v, e = .returned v ∧ fJ nothing w0 w' ∧ aTp w' S w0.heap.size r y v
theorem aWA {f : FuncId} {fn : Func} {body : Code} {sp : aF} (hE : fU P E) (hf : P.funcs[f]? = some fn) (hb : fn.body = some body) (hok : fY fn.ntmps body = true) (hn : aKj sp.args ≤ fn.ntmps)
  (ht : ∀ (w0 : World) (S : Nat → Prop) (x : sp.args.den), sp.args.wf x → sp.pre x → Tri (fr P E S w0 fn.ntmps) body (aSV P fn S w0 sp.res (sp.fn x)) (bQ sp.args x 0) []) : FOK P E.G f sp := by
 intro w S vs x hS hG ha hp
 refine calls_of_wp_defers hf hb ?_
 refine ht w S x (aF7 _ _ _ ha) hp hok ⟨S, fun _ => Go.undef, 0, fun _ _ => False⟩ _ w ⟨⟨rfl, .refl _ _, hS, fun b hb _ => .inl hb, fun i o ho => by simp at ho, fun i o b ho => by simp at ho, fun i j oi oj b hi => by simp at hi, ⟨Nat.le_refl _, fun i hi => absurd hi (Nat.not_lt_zero i)⟩⟩, hG, ?_, ?_, rfl⟩
 ·refine aMp _ x 0 vs.toList _ ha rfl fun i v hv => ?_
  have hlt : i < vs.size := by
   rcases Nat.lt_or_ge i vs.size with hh | hh
   ·exact hh
   ·rw [List.getElem?_eq_none (by simpa using hh)] at hv; cases hv
  simp only [Nat.zero_add]
  have : vs[i]? = some v := by rw [← Array.getElem?_toList]; exact hv
  simp [Array.getElem?_append, hlt]
  rw [Array.getElem?_eq_getElem hlt] at this
  simpa using this
 ·have := aMq _ _ _ ha
  simp at this
  simp
  omega
theorem aU0 {S : Nat → Prop} (hwr : M.wr = nothing) (hrd : M.rd = S) (hg : Good M w0 c h w) {r : RK} {y : r.ty.den} {avs : List AV} {xs : List Value} (hl : xs.length = avs.length) (hv : ∀ i (h1 : i < avs.length) (h2 : i < xs.length), aQ c w avs[i] xs[i]) (hy : gK h r y avs) : aTp w S w0.heap.size r y (aGr xs) := by
 have hsrc : ∀ {c' : Ctx} {h' : List Obj}, Good M w0 c' h' w → ∀ b, c'.S b → S b ∨ (w0.heap.size ≤ b ∧ b < w.heap.size) := fun hg b hb => by
  rcases Nat.lt_or_ge b w0.heap.size with hlt | hge
  ·have := hg.src b hb hlt
   rw [hwr, hrd] at this
   exact .inl (this.resolve_right (fun f => f))
  ·exact .inr ⟨hge, hg.sfin b hb⟩
 obtain ⟨c', hll, hg'⟩ := hg.frzAll
 have hval : ∀ i (h1 : i < avs.length) (h2 : i < xs.length), aQ c' w avs[i] xs[i] := fun i h1 h2 => hll.val (hv i h1 h2)
 cases r with
 | none =>
  match avs, xs, hl, hy with
  | [], [], _, _ => rfl
 | one t =>
  match avs, xs, hl, hy, hval with
  | [v], [x], _, hy, hval =>
   have hy : AV.as (h.map Vc.frzAll) t v = some y := hy
   rw [← aSJ] at hy
   have := rZ hg' (hval 0 (by simp) (by simp)) hy
   exact cR.keep (hsrc hg') (.refl _ _) this
 | own e t =>
  match avs, xs, hl, hy, hv with
  | [.own i], [x], _, hy, hv =>
   have hvs := hv 0 (by simp) (by simp)
   simp only [List.getElem_cons_zero] at hvs
   have ho : h[i]? = some (.row e t y) := hy
   obtain ⟨hin, rfl⟩ := yV hvs
   obtain ⟨vals, hown, hrep⟩ := hg.objs i _ ho
   refine ⟨vals, ⟨hown.1, hown.2.imp id ?_⟩, aT.keep (fun b hb => ?_) (.refl _ _) _ _ _ hrep⟩
   ·rintro ⟨g, cap, cur, h1, h2, h3⟩
    refine ⟨g, cap, cur, h1, ?_, h3⟩
    have := (hg.own i _ g ho (by simp [dO, h1, aN])).1
    rw [hwr] at this
    exact this.resolve_right (fun f => f)
   ·rcases hsrc hg b hb with h1 | h1
    ·exact .inl h1
    ·exact .inr ⟨h1.1, h1.2, fun e' => (hg.own i _ b ho e').2.2 hb⟩
  | [.nilS], [x], _, hy, hv =>
   have hvs := hv 0 (by simp) (by simp)
   simp only [List.getElem_cons_zero] at hvs
   have hy : y = [] := hy
   subst hy
   have hsv : x = .slice none 0 0 := by
    obtain ⟨h1, _, h3⟩ := hvs
    have h3 := h3 rfl
    simp only [aH] at h1
    cases x <;> simp [Value.cells] at h1 h3 <;> simp [h1]
   subst hsv
   exact ⟨[], ⟨by simp, .inl ⟨rfl, rfl⟩⟩, ⟨rfl, [], rfl, rfl, fun i h => by simp at h⟩⟩
 | tup t =>
  have hy : avs.length ≠ 1 ∧ yB (h.map Vc.frzAll) t avs = some y := hy
  obtain ⟨hne, hy⟩ := hy
  rw [← aSJ] at hy
  have hargs := aE6 hg' hy (xs := xs) hl hval
  refine ⟨xs, ?_, aTE (hsrc hg') hargs⟩
  match xs, hl ▸ hne with
  | [], _ => rfl
  | [s], hne => exact absurd rfl hne
  | s :: s' :: l, _ => rfl
def m0 : Option Pan → Value → FrameMode
 | none, _ => .returning
 | some p, u => .panicking (aN7 p.k u)
def m1 : Option Pan → Value → FrameMode
 | none, _ => .returning
 | some p, u => .panicking [{ v := .iface p.k u, recovered := true, goexit := false }]
theorem aTP (m : Option Pan) (u : Value) : settle (m1 m u) = .returning := by cases m <;> rfl
def aXj (P : Program) (g : FuncId) (vs : Array Value) (u0 u1 : FrameMode) (w : World) (R : Ending → World → Prop) : Prop := CallsD P g vs u0 w fun e u' w' => u' = u1 ∧ R e w'
def DOK (P : Program) (G : Nat → AV) (g : FuncId) (mode : Option Pan) (sp : iE) : Prop :=
 ∀ (c : Ctx) (w : World) (d : sp.D) (vs : Array Value) (u : Value), sp.pre d → GIn G sp c w d vs.toList → (∀ p, mode = some p → cR w c.S p.t p.x u) → aXj P g vs (m0 mode u) (m1 mode u) w (aHW sp c w d)
theorem aQP {F : Fr} {fn : Func} {S : Nat → Prop} {r : RK} {y : r.ty.den} {env : St} {h : List Obj} {k : Nat} {roots : Nat → Value} {g : FuncId} {l2 : List Nat} {mode : Option Pan} (hF : hU F) (hM : F.M = ⟨nothing, S, k, roots⟩) (hds : F.ds = [⟨.fn (.func g) (l2.map roots).toArray, #[]⟩]) (hk : ∀ i ∈ l2, i < k) (hbx : aCG h l2 = true)
  (hfn : ∃ fn, F.P.funcs[g]? = some fn ∧ fn.name ≠ "runtime.NumGoroutine" ∧ fn.body.isSome = true) (t : Hit) (hok : DOK F.P F.E.G g mode t.sp) (hh : aMC h (l2.map fun i => .ptr i []) t) {v : AV} {h' : List Obj} (hout : t.sp.out t.d = .ret v h')
  (l : List ResultVar) (hr : fn.results = l.toArray) (hy : (aR F.E.T (aDS t.σ t.sp.m h h') env l).1 ∧ gK (aDS t.σ t.sp.m h h') r y (aR F.E.T (aDS t.σ t.sp.m h h') env l).2) {c : Ctx} {a : Act} {w : World} {u : Value} (hs : Sim F.E F.M F.w0 F.nt F.ds c env h a w) (hu : ∀ p, mode = some p → cR w c.S p.t p.x u) :
  Leaves F.P fn a.tmps (fun e w' => ∃ v, e = .returned v ∧ fJ nothing F.w0 w' ∧ aTp w' S F.w0.heap.size r y v) a.defers (m0 mode u) w := by
 have hroot := hs.good.root
 rw [hM] at hroot
 have hhd : ∀ i ∈ l2, c.hd i = roots i ∧ i < c.n := fun i hi => ⟨hroot.2 i (hk i hi), Nat.lt_of_lt_of_le (hk i hi) hroot.1⟩
 have hl2 : l2.map roots = l2.map c.hd := List.map_congr_left fun i hi => (hhd i hi).1.symm
 have hvb : ∀ i (h1 : i < (l2.map fun i => AV.ptr i []).length) (h2 : i < (l2.map roots).toArray.toList.length), aQ c w (l2.map fun i => AV.ptr i [])[i] (l2.map roots).toArray.toList[i] := fun i h1 h2 => by
  have := aFb hs.good hbx (fun i hi => (hhd i hi).2) i h1 (by simpa using h2)
  simpa [hl2] using this
 rw [hs.defers, hds]
 refine leaves_cons (f := g) (args := (l2.map roots).toArray) ?_ ?_ ?_
 ·cases mode <;> simp [m0]
 ·have := aAM (w := w) (args := (l2.map roots).toArray) hfn
  simpa [invoke] using this
 ·have hcall := aOZ (C := aXj F.P g (l2.map roots).toArray (m0 mode u) (m1 mode u) w) (fun R R' h k => CallsD.mono h fun e u' w' q => ⟨q.1, k _ _ q.2⟩) (fun hp hin => hok _ _ _ _ _ hp hin hu) hs.good hs.glob (vs := l2.map fun i => AV.ptr i []) (xs := (l2.map roots).toArray) (by simp) hvb hh
  refine CallsD.mono hcall ?_
  rintro e u' w' ⟨rfl, cN, hl, hend⟩
  rw [hout] at hend
  obtain ⟨uv, rfl, hg, _⟩ := hend
  show Leaves F.P fn a.tmps _ [] (settle (m1 mode u)) w'
  rw [aTP]
  obtain ⟨us, q1, q2, q3⟩ := aDU (P := F.P) hF.env.T hg (hs.env.keep hl) hr hy.1
  refine ⟨aGr us, q1, aGr us, rfl, by have := hg.keeps; rw [hM] at this; exact this, ?_⟩
  exact aU0 (by rw [hM]) (by rw [hM]) hg q2 (fun i h1 h2 => q3 i h1 h2) hy.2
theorem aPC {F : Fr} {fn : Func} {S : Nat → Prop} {r : RK} {y : r.ty.den} {env : St} {h : List Obj} {k : Nat} {roots : Nat → Value} {g : FuncId} {l2 : List Nat} (hF : hU F) (hM : F.M = ⟨nothing, S, k, roots⟩) (hds : F.ds = [⟨.fn (.func g) (l2.map roots).toArray, #[]⟩]) (hk : ∀ i ∈ l2, i < k) (hbx : aCG h l2 = true)
  (hfn : ∃ fn, F.P.funcs[g]? = some fn ∧ fn.name ≠ "runtime.NumGoroutine" ∧ fn.body.isSome = true) (t : Hit) (hok : DOK F.P F.E.G g none t.sp) {v : AV} {h' : List Obj} (hout : t.sp.out t.d = .ret v h')
  (l : List ResultVar) (hr : fn.results = l.toArray) (hh : aMC h (l2.map fun i => .ptr i []) t) (hy : (aR F.E.T (aDS t.σ t.sp.m h h') env l).1 ∧ gK (aDS t.σ t.sp.m h h') r y (aR F.E.T (aDS t.σ t.sp.m h h') env l).2) :
  At F (aSV F.P fn S F.w0 r y .ret) env h := fun c a w hs =>
 aQP (u := Go.undef) hF hM hds hk hbx hfn t hok hh hout l hr hy hs (fun p hp => by cases hp)
theorem aHY {F : Fr} {fn : Func} {S : Nat → Prop} {r : RK} {y : r.ty.den} {env : St} {h : List Obj} {k : Nat} {roots : Nat → Value} {g : FuncId} {l2 : List Nat} {p : Pan} (hF : hU F) (hM : F.M = ⟨nothing, S, k, roots⟩) (hds : F.ds = [⟨.fn (.func g) (l2.map roots).toArray, #[]⟩]) (hk : ∀ i ∈ l2, i < k) (hbx : aCG h l2 = true)
  (hfn : ∃ fn, F.P.funcs[g]? = some fn ∧ fn.name ≠ "runtime.NumGoroutine" ∧ fn.body.isSome = true) (t : Hit) (hok : DOK F.P F.E.G g (some p) t.sp) {v : AV} {h' : List Obj} (hout : t.sp.out t.d = .ret v h')
  (l : List ResultVar) (hr : fn.results = l.toArray) (hh : aMC h (l2.map fun i => .ptr i []) t) (hy : (aR F.E.T (aDS t.σ t.sp.m h h') env l).1 ∧ gK (aDS t.σ t.sp.m h h') r y (aR F.E.T (aDS t.σ t.sp.m h h') env l).2) :
  AtP F (aSV F.P fn S F.w0 r y) p env h := fun c a w u hs hu =>
 aQP hF hM hds hk hbx hfn t hok hh hout l hr hy hs (fun q hq => by cases hq; exact hu)
theorem aCI {F : Fr} {Q : Exit → Act → World → Prop} {env : St} {h : List Obj} {id : Nat} {ops : Array Oper} {y : Code} {g : FuncId} {t : Nat} {caps : Array Operand} {ty1 ty2 : TypeId} {pos1 pos2 : String} {aft1 aft2 : Array Edge} (k : Nat) (l2 : List Nat)
  (hops : ops = #[⟨some t, .makeFunc (.func g) #[] caps, ty1, pos1, aft1, none⟩, ⟨none, .defer ⟨.value (.tmp t), #[], #[]⟩, ty2, pos2, aft2, none⟩])
  (htags : allTags h (caps.toList.map (evA F.E.G env)) = some l2) (hm : F.M.m ≤ k) (hk : k ≤ h.length)
  (hy : ∀ roots : Nat → Value, (∀ i, i < F.M.m → roots i = F.M.roots i) → Tri { F with M := ⟨F.M.wr, F.M.rd, k, roots⟩, ds := ⟨.fn (.func g) (l2.map roots).toArray, #[]⟩ :: F.ds } y Q ((t, .junk) :: env) h) : Tri F (.seq (.region id ops false) y) Q env h := fun hok c a w hs => by
 simp only [fY, Bool.and_eq_true] at hok
 obtain ⟨⟨⟨hok1, _⟩, _⟩, hok2⟩ := hok
 subst hops
 have hall := List.all_eq_true.1 hok1
 have hk1 := hall ⟨some t, .makeFunc (.func g) #[] caps, ty1, pos1, aft1, none⟩ (by simp)
 simp only [fG, Bool.and_eq_true] at hk1
 have hops1 : ∀ x ∈ (Op.makeFunc (.func g) #[] caps).operands, lG x = true := Array.all_eq_true_iff_forall_mem.1 hk1.1
 have htn : t < a.tmps.size := by
  have := hk1.2
  rw [hs.size]
  simpa using this
 obtain ⟨hlt, hcv⟩ := aHL hs.good htags (vs := caps.toList.map a.eval) (by simp) (fun i h1 h2 => by
  simp only [List.getElem_map]
  exact aBp hs.env hs.glob (hops1 _ (by simp [Op.operands])))
 have hcv' : caps.map a.eval = (l2.map c.hd).toArray := by rw [← Array.toList_inj]; simpa using hcv
 refine wp_seq (wp_region ?_)
 have hy' := hy c.hd (fun i hi => hs.good.root.2 i hi)
 have hgood : Good ⟨F.M.wr, F.M.rd, k, c.hd⟩ F.w0 c h w := ⟨hs.good.n, hs.good.keeps, hs.good.sfin, hs.good.src, hs.good.objs, hs.good.own, hs.good.sep, by rw [hs.good.n]; exact hk, fun _ _ => rfl⟩
 have hfin := hy' hok2 c { (a.put (some t) (.func (.func g) #[] (l2.map c.hd).toArray)) with defers := ⟨.fn (.func g) (l2.map c.hd).toArray, #[]⟩ :: a.defers } w ⟨hgood, hs.glob, by
  have := hs.env.put (d := t) (v := .junk) (x := .func (.func g) #[] (l2.map c.hd).toArray) htn trivial
  exact this, by simpa [Act.put] using hs.size, by simp [hs.defers]⟩
 have run1 : (execOp a.eval ⟨some t, .makeFunc (.func g) #[] caps, ty1, pos1, aft1, none⟩).run F.P w = .ok (.value (.func (.func g) #[] (l2.map c.hd).toArray)) w := by
  simp [execOp, Instr.makeFunc, hcv']
 have hget : (a.put (some t) (.func (.func g) #[] (l2.map c.hd).toArray)).eval (.tmp t) = .func (.func g) #[] (l2.map c.hd).toArray := by
  simp [Act.eval, Act.put, htn]
 have run2 : (execOp (a.put (some t) (.func (.func g) #[] (l2.map c.hd).toArray)).eval ⟨none, .defer ⟨.value (.tmp t), #[], #[]⟩, ty2, pos2, aft2, none⟩).run F.P w = .ok (.defer ⟨.fn (.func g) (l2.map c.hd).toArray, #[]⟩) w := by
  simp [execOp, resolve, Deferred.ofValue, hget]
 show wpOps F.P _ _ [0, 1] a w
 have w1 : ∀ (o : Oper) (y : Nat → Option Bool), o.guard = none → Region.wanted o y = true := fun o y h => by simp [Region.wanted, h]
 unfold wpOps
 simp only [List.getElem?_toArray, List.getElem?_cons_zero]
 rw [if_pos (w1 _ _ rfl)]
 refine .inl ?_
 unfold Oper.wp
 rw [run1, Oper.upon_value]
 unfold wpOps
 simp only [List.getElem?_toArray, List.getElem?_cons_succ, List.getElem?_cons_zero]
 rw [if_pos (w1 _ _ rfl)]
 refine .inl ?_
 unfold Oper.wp
 rw [run2, Oper.upon_defer]
 exact hfin
theorem aDV {ops : Array Oper} {cs : List Frame} {Q : Exit → Act → List Frame → World → Prop} (hQ : ¬ LetsOut fun e a w => Q e a cs w) : ∀ (l : List Nat) (a : Act) (w : World), wpOps P ops (fun e a w => Q e a cs w) l a w → wpOpsS P ops Q l a cs w
 | [], a, w, hh => hh
 | i :: rest, a, w, hh => by
  unfold wpOps at hh
  unfold wpOpsS
  cases ho : ops[i]? with
  | none => simp only [ho] at hh ⊢; exact aDV hQ rest a w hh
  | some o =>
   simp only [ho] at hh ⊢
   split
   ·rename_i hw
    simp only [hw, if_true] at hh
    have hh := Oper.wp_mono (fun a w => aDV hQ rest a w) (hh.resolve_right fun q => hQ q.2)
    unfold Oper.wp at hh
    revert hh
    generalize (execOp a.eval o).run P w = r
    intro hh
    split
    ·exact hh.elim
    ·exact hh
   ·rename_i hw
    simp only [hw, if_false] at hh
    exact aDV hQ rest _ w hh
def aU1 : Option Pan → AV
 | none => .val .nili ()
 | some p => .val (.ifc p.k p.t) p.x
theorem aPD {g : FuncId} {fn : Func} {rest : Code} {id : Nat} {ops : Array Oper} {sp : iE} {mode : Option Pan} {t5 : Nat} {ty : TypeId} {pos : String} {aft : Array Edge} (hE : fU P E) (hf : P.funcs[g]? = some fn) (hb : fn.body = some (.seq (.region id ops false) rest)) (hok : fY fn.ntmps (.seq (.region id ops false) rest) = true) (hn : ∀ d, (sp.av d).length ≤ fn.ntmps)
  (h0 : ops[0]? = some ⟨some t5, .call ⟨.builtin .recover, #[], #[]⟩, ty, pos, aft, none⟩)
  (ht : ∀ (c : Ctx) (w : World) (d : sp.D), AV.wfL (sp.av d) → Obj.wfL (sp.hp d) → sp.pre d → c.n = (sp.hp d).length →
   qS E ops.toList (ops.toList.drop 1) ((t5, aU1 mode) :: aRQ (sp.av d) 0) (sp.hp d) (fun env h => Tri ⟨P, E, GM sp c d, w, fn.ntmps, []⟩ rest (bodyPost P fn (aHW sp c w d)) env h)) : DOK P E.G g mode sp := by
 intro c w d vs u hp hin hu
 refine callsD_of_wpS hf hb fun c₀ cs hc₀ => ?_
 have hok' := hok
 simp only [fY, Bool.and_eq_true] at hok'
 obtain ⟨⟨⟨hok1, _⟩, _⟩, hok2⟩ := hok'
 refine wpS_seq (wpS_region ?_)
 have hsz : 0 < ops.size := by
  rcases Nat.lt_or_ge 0 ops.size with h | h
  ·exact h
  ·rw [Array.getElem?_eq_none h] at h0; cases h0
 obtain ⟨n, hn'⟩ : ∃ n, ops.size = n + 1 := ⟨ops.size - 1, by omega⟩
 have hrange : List.range ops.size = 0 :: List.range' 1 n := by rw [hn', List.range_eq_range', List.range'_succ]
 rw [hrange]
 unfold wpOpsS
 have w1 : ∀ (o : Oper) (y : Nat → Option Bool), o.guard = none → Region.wanted o y = true := fun o y h => by simp [Region.wanted, h]
 simp only [h0]
 rw [if_pos (w1 _ _ rfl)]
 have hrun : ∀ ρ, (execOp ρ ⟨some t5, .call ⟨.builtin .recover, #[], #[]⟩, ty, pos, aft, none⟩).run P w = .ok .recover w := fun ρ => by
  simp [execOp, resolve, invoke, builtin]
 rw [hrun]
 have key : ∀ v, aQ c w (aU1 mode) v → wpOpsS P ops (Exit.thenS (rest.wpS P (bodyPostS P fn c₀ cs fun e u' w' => u' = m1 mode u ∧ aHW sp c w d e w')) (bodyPostS P fn c₀ cs fun e u' w' => u' = m1 mode u ∧ aHW sp c w d e w')) (List.range' 1 n) (({ tmps := vs ++ Array.replicate (fn.ntmps - vs.size) undef, defers := [] } : Act).put (some t5) v) ({ c₀ with mode := m1 mode u } :: cs) w := fun v hv => by
  refine aDV ?_ _ _ _ ?_
  ·rintro ⟨a', w', u', _, e⟩
   obtain ⟨c', e⟩ := e
   split at e <;> (obtain ⟨_, e, _⟩ := e; cases e)
  ·have hsim : Sim E (GM sp c d) w fn.ntmps [] c ((t5, aU1 mode) :: aRQ (sp.av d) 0) (sp.hp d) (({ tmps := vs ++ Array.replicate (fn.ntmps - vs.size) undef, defers := [] } : Act).put (some t5) v) w := by
    have hlen := hin.len
    have hnn := hn d
    simp at hlen
    have hsz2 : (vs ++ Array.replicate (fn.ntmps - vs.size) undef).size = fn.ntmps := by simp; omega
    have ht5 : t5 < fn.ntmps := by
     have h0' : ops.toList[0]? = some ⟨some t5, .call ⟨.builtin .recover, #[], #[]⟩, ty, pos, aft, none⟩ := by simpa using h0
     have := List.all_eq_true.1 hok1 _ (List.mem_of_getElem? h0')
     simp only [fG, Bool.and_eq_true] at this
     simpa using this.2
    refine ⟨hin.good, hin.glob, ?_, by simpa [Act.put] using hsz2, rfl⟩
    refine aEI.put (a := { tmps := vs ++ Array.replicate (fn.ntmps - vs.size) undef, defers := [] }) ?_ (by rw [hsz2]; exact ht5) hv
    refine aPz _ vs.toList 0 hin.len hin.val fun i v hv => ?_
    have hlt : i < vs.size := by
     rcases Nat.lt_or_ge i vs.size with hh | hh
     ·exact hh
     ·rw [List.getElem?_eq_none (by simpa using hh)] at hv; cases hv
    simp only [Nat.zero_add]
    have : vs[i]? = some v := by rw [← Array.getElem?_toList]; exact hv
    simp [Array.getElem?_append, hlt]
    rw [Array.getElem?_eq_getElem hlt] at this
    simpa using this
   have := aHU (P := P) (ops := ops.toList) (Q := fun e a w' => Exit.thenS (rest.wpS P (bodyPostS P fn c₀ cs fun e u' w' => u' = m1 mode u ∧ aHW sp c w d e w')) (bodyPostS P fn c₀ cs fun e u' w' => u' = m1 mode u ∧ aHW sp c w d e w') e a ({ c₀ with mode := m1 mode u } :: cs) w') hE (List.all_eq_true.1 hok1) (fun env h c' a w' hk hs => by
    refine wpS_of_wp (wp_mono (hk hok2 c' a w' hs) fun e a w' hq => ?_)
    cases e with
    | normal => obtain ⟨q1, v, q2, q3⟩ := hq; exact ⟨q1, _, rfl, v, q2, rfl, q3⟩
    | ret => obtain ⟨q1, v, q2, q3⟩ := hq; exact ⟨q1, _, rfl, v, q2, rfl, q3⟩
    | panic ch => obtain ⟨q1, q3⟩ := hq; exact ⟨q1, _, rfl, rfl, q3⟩
    | outgrown => exact ⟨_, rfl, hq⟩
    | exit id => exact hq.elim
    | goto l => exact hq.elim) n 1 (by simp; omega) _ _ c _ w (ht c w d (aPA hin.len hin.val) (aSR hin.good) hp hin.good.n) hsim
   simpa using this
 cases mode with
 | none =>
  have e : c₀.mode = .returning := hc₀
  have e2 : ({ c₀ with mode := .returning } : Frame) = c₀ := by rw [← e]
  have := key .nilIface (aQ.ofV (by unfold cR; rw [if_neg (by simp [Ty.isAgg])]; exact rfl))
  simp only [m1, e2] at this
  simpa [recoverD, e, m1] using this
 | some p =>
  have e : c₀.mode = .panicking (aN7 p.k u) := hc₀
  have := key (.iface p.k u) (aQ.ofV (by
   unfold cR
   rw [if_neg (by simp [Ty.isAgg])]
   have hr := hu p rfl
   unfold cR at hr
   split at hr
   ·rename_i ha
    obtain ⟨ds, e1, e2⟩ := hr
    exact ⟨u, ds.toList, rfl, fun _ => by simpa using e1, (fun h => by rw [ha] at h; cases h), e2⟩
   ·rename_i ha
    exact ⟨u, [u], rfl, fun h => absurd h ha, fun _ => rfl, hr⟩))
  simp only [m1] at this
  simpa [recoverD, e, aN7, m1] using this
end
end Go.Vc
