import Derived.Test.YtkihplehmkbfaaaGreatDoorZL3
import Derived.Scope
set_option linter.unusedVariables false
set_option linter.unusedSimpArgs false
namespace Go.Vc
open Go.RowKit
def aRn (c x y : AV) : Prop × AV :=
 match c, x, y with
 | .val .bool q, .val .bool a, .val .bool b => (True, .val .bool (bif q then a else b))
 | .val .bool q, .undef, .val .bool b => (q = false, .val .bool b)
 | .val .bool q, .val .bool a, .undef => (q = true, .val .bool a)
 | _, _, _ => (False, .junk)
def aOr (Γ : FuncId → List AV → Option aJ) (f : FuncId) (vs : List AV) : Bool :=
 match Γ f vs with
 | some ⟨_, .own _ _, _, _⟩ => true
 | _ => false
def aRo : Option Ty → Bool
 | some (.i .i64) => true
 | _ => false
noncomputable def aIJ (E : Env) (h : List Obj) (ρ : Operand → AV) (o : Oper) (c : Call) : Prop × AV × List Obj :=
 match c.callee with
 | .builtin .append => match c.args.toList.map ρ, c.argTypes.toList with
  | [s, x], [t, t'] => bif aRo (E.T t') then aDC E h t s x else bif isStr (E.T t') then aDD E h t s x else ((yY E h t s x).1 ∧ t' = t, (yY E h t s x).2)
  | _, _ => (False, .junk, h)
 | .value (.func f) => bif aOr E.Γ f (c.args.toList.map ρ) then aDB E.Γ h f (c.args.toList.map ρ) else ((pv E h ρ o).1, (pv E h ρ o).2, h)
 | _ => ((pv E h ρ o).1, (pv E h ρ o).2, h)
def yM (E : Env) (h : List Obj) (t : TypeId) : Prop × AV × List Obj :=
 match E.mp t with
 | some (k, e) => match E.T k, E.T e with
  | some kc, some vc => (True, .mp h.length, h ++ [.map kc vc []])
  | _, _ => (False, .junk, h)
 | none => (False, .junk, h)
def aJp (E : Env) (h : List Obj) (t : TypeId) (m k v : AV) : Prop × AV × List Obj :=
 match m with
 | .mp i => match h[i]? with
  | some (.map kc vc l) => match AV.as (h.map gX) kc k, AV.as (h.map gX) vc v with
   | some x, some y => (kc.keyB = true ∧ aTF E t kc vc, .junk, h.set i (.map kc vc (aEn kc l x y)))
   | _, _ => (False, .junk, h)
  | _ => (False, .junk, h)
 | _ => (False, .junk, h)
def yN (E : Env) (h : List Obj) (t : TypeId) : Prop × AV × List Obj :=
 match E.T t with
 | some (.sl ct) => (ct.okB = true, .own h.length, h ++ [.row (E.el t) ct []])
 | _ => (False, .junk, h)
noncomputable def xN (E : Env) (h : List Obj) (ρ : Operand → AV) (o : Oper) : Prop × AV × List Obj :=
 match o.op with
 | .alloc t => match E.T t with
  | some ct => (ct.okB = true, .ptr h.length [], h ++ [.box (bxN t ct) (aCt ct)])
  | none => (False, .junk, h)
 | .box t x => ((ρ x).solid = true, .ptr h.length [], h ++ [.box (ρ x).nc (ρ x)])
 | .store t a x => aBw E.T h t (ρ a) (ρ x)
 | .makeSlice t l cp => aGb E h t (ρ l) (ρ cp)
 | .makeMap t none => yM E h t
 | .buildSlice t n ps => match n, ps.toList with
  | 0, [] => yN E h t
  | _, _ => ((pv E h ρ o).1, (pv E h ρ o).2, h)
 | .mapUpdate t m k v => aJp E h t (ρ m) (ρ k) (ρ v)
 | .insert t m k v => aJp E h t (ρ m) (ρ k) (ρ v)
 | .pick c x y => ((aRn (ρ c) (ρ x) (ρ y)).1, (aRn (ρ c) (ρ x) (ρ y)).2, h)
 | .call c => aIJ E h ρ o c
 | _ => ((pv E h ρ o).1, (pv E h ρ o).2, h)
def aYq : Option Ty → Bool
 | some (.sl (.u .u8)) => true
 | _ => false
def aJq (E : Env) (ρ : Operand → AV) (o : Oper) : List Nat :=
 match o.op with
 | .call c => match c.callee with
  | .value (.func f) => match E.Γ f (c.args.toList.map ρ) with
   | some sp => bif sp.res.ty.scalar then [] else (c.args.toList.map ρ).flatMap AV.tags
   | none => []
  | _ => []
 | .slice _ x _ _ _ => (ρ x).tags
 | .buildSlice _ _ ps => ps.toList.flatMap fun p => (ρ p.2).tags
 | .store t a x => match ρ a with
  | .ptr _ (_ :: _) => bif aYq (E.T t) then [] else (ρ x).tags
  | _ => []
 | .mapUpdate _ _ _ v => (ρ v).tags
 | .insert _ _ _ v => (ρ v).tags
 | _ => []
noncomputable def tT (E : Env) (env : St) (h : List Obj) (o : Oper) : Prop × AV × List Obj :=
 xN E (freezeAll (aJq E (evA E.G env) o) h) (fun x => aM5 (freezeAll (aJq E (evA E.G env) o) h) (evA E.G env x)) o
def tI (d : Option Nat) (v : AV) (env : St) : St :=
 match d with
 | some d => (d, v) :: env
 | none => env
def aDW (ops : List Oper) (j : Nat) : Option Nat := match ops[j]? with
 | some o => o.dst
 | none => none
def pY (E : Env) (all : List Oper) : List Oper → St → List Obj → (St → List Obj → Prop) → Prop
 | [], env, h, K => K env h
 | o :: r, env, h, K => match o.guard with
  | none => match tT E env h o with
   | (p, v, h') => p ∧ pY E all r (tI o.dst v env) h' K
  | some (j, pol) => match aDW all j with
   | some dj => match look env dj with
    | .val .bool b => (b = pol → match tT E env h o with
      | (p, v, h') => p ∧ pY E all r (tI o.dst v env) h' K) ∧ (b = !pol → pY E all r (tI o.dst .undef env) h K)
    | .undef => pY E all r (tI o.dst .undef env) h K
    | _ => False
   | none => False
section
variable {P : Program} {E : Env} {M : Perm} {w0 : World} {c : Ctx} {h : List Obj} {w : World}
structure aEu (M : Perm) (w0 : World) (c : Ctx) (w : World) (h' : List Obj) (av : AV) (v : Value) (w' : World) (c' : Ctx) : Prop where
 later : dN c w c' w'
 good : Good M w0 c' h' w'
 val : aP c' w' av v
def aP2 (P : Program) (M : Perm) (w0 : World) (c : Ctx) (o : Oper) (a : Act) (w : World) (h' : List Obj) (av : AV) : Prop :=
 (∃ v w' c', (execOp a.eval o).run P w = .ok (.value v) w' ∧ aEu M w0 c w h' av v w' c') ∨
 (∃ w' c', (execOp a.eval o).run P w = .ok .skip w' ∧ aEu M w0 c w h' av Go.undef w' c') ∨
 (∃ f args, (execOp a.eval o).run P w = .ok (.enter f args) w ∧ Calls P f args w fun e w' => ∃ v c', e = .returned v ∧ aEu M w0 c w h' av v w' c')
theorem Did.toE {o : Oper} {a : Act} {av : AV} (hd : Did P M w0 h c o a w av) : aP2 P M w0 c o a w h av := by
 rcases hd with ⟨v, w', c', hr, ha⟩ | ⟨f, args, hr, hc⟩
 ·exact .inl ⟨v, w', c', hr, ha.later, ha.good, ha.val⟩
 ·refine .inr (.inr ⟨f, args, hr, hc.mono ?_⟩)
  rintro e w' ⟨v, c', he, ha⟩
  exact ⟨v, c', he, ha.later, ha.good, ha.val⟩
theorem aP2.wp {o : Oper} {a : Act} {av : AV} {h' : List Obj} {next : Act → World → Prop} {Q : Exit → Act → World → Prop} (hd : aP2 P M w0 c o a w h' av) (hn : ∀ v w' c', aEu M w0 c w h' av v w' c' → next (a.put o.dst v) w') : o.wp P a w next Q := by
 rcases hd with ⟨v, w', c', hr, ha⟩ | ⟨w', c', hr, ha⟩ | ⟨f, args, hr, hc⟩
 ·unfold Oper.wp; rw [hr]; exact hn v w' c' ha
 ·unfold Oper.wp; rw [hr]; exact hn _ w' c' ha
 ·unfold Oper.wp
  rw [hr]
  refine Calls.mono hc ?_
  rintro e w' ⟨v, c', rfl, ha⟩
  exact hn v w' c' ha
theorem aP3 (hg : Good M w0 c h w) {t : TypeId} (hc : (yM E h t).1) :
  ∃ v w' c', (Instr.makeMap t none).run P w = .ok v w' ∧ aEu M w0 c w (yM E h t).2.2 (yM E h t).2.1 v w' c' := by
 unfold yM at hc ⊢
 split at hc
 ·rename_i k e he
  split at hc
  ·rename_i kc vc hk hv
   simp only [hk, hv]
   have hkeep : fM nothing w (w.alloc (.map #[] 0)) := fM.alloc nothing w _
   have e1 : (c.push (.map (some w.heap.size))).hd c.n = .map (some w.heap.size) := by simp [Ctx.push]
   have := hg.push hkeep (o := .map kc vc []) (hv := .map (some w.heap.size)) (by
    refine ⟨w.heap.size, #[], 0, e1, aA3 w _, rfl, fun j h => by simp at h⟩) (fun b hb => by
    simp only [ownBlock, e1, aQ, Option.some.injEq] at hb
    subst hb
    exact ⟨Nat.le_refl _, by simp⟩)
   refine ⟨.map (some w.heap.size), _, _, rfl, this.2, this.1, ?_⟩
   rw [← hg.n]
   exact ⟨⟨Nat.lt_succ_self c.n, by rw [e1]; rfl, by rw [e1]; trivial⟩, (fun h => by cases h), (fun _ cs => by simp)⟩
  ·exact hc.elim
 ·exact hc.elim
theorem aTN (hE : gA P E) (hg : Good M w0 c h w) {t : TypeId} {m k v : AV} {mv kv vv : Value} (hm : aP c w m mv) (hk : aP c w k kv) (hv : aP c w v vv) (hc : (aJp E h t m k v).1) :
  ∃ w', (Instr.mapUpdate t mv kv vv).run P w = .ok () w' ∧ dN c w c w' ∧ Good M w0 c (aJp E h t m k v).2.2 w' ∧ (aJp E h t m k v).2.1 = .junk := by
 unfold aJp at hc ⊢
 split at hc
 ·rename_i i
  split at hc
  ·rename_i kc vc l ho
   split at hc
   ·rename_i x y hx hy
    obtain ⟨h1, h3⟩ := hc
    simp only [ho, hx, hy]
    obtain ⟨b, es, clock, q1, q2, q3, q4⟩ := hg.objs i _ ho
    have hmv : mv = .map (some b) := by
     obtain ⟨r1, _, r3⟩ := hm
     simp only [aI] at r1
     have r3 := r3 rfl
     obtain ⟨_, r1, _⟩ := r1
     rw [q1] at r1
     cases mv <;> simp [Value.cells] at r1 r3 <;> rw [r1]
    subst hmv
    unfold aTF at h3
    split at h3
    ·rename_i kt et he
     have hkx := qY hg hk hx
     have hvy := qY hg hv hy
     have hu := hE.mp _ _ _ he
     have hgo : (getObj b).run P w = .ok (.map es clock) w := by simp [getObj, Sem.run, q2]
     have hl : es.toList.length = l.length := by simpa using q3
     have hf := aE3 (P := P) hE.T h3.1 h1 hkx w l es.toList hl (fun j h h' => by have := (q4 j h (by simpa using h')).1; simpa using this)
     have hck := aDT (P := P) false 9998 hE.T h3.1 h1 hkx w
     have hff := aF7 (c := kc) (w := w) (S := c.S) (x := x) l es.toList 0 hl
     have hob : ownBlock c i (.map kc vc l) = some b := by simp [ownBlock, q1, aQ]
     have hblt : b < w.heap.size := (hg.own i _ b ho hob).2.1
     have hnS := (hg.own i _ b ho hob).2.2
     have hset : ∀ (es' : Array MapEntry) (clock' : Nat) (l' : List (kc.den × vc.den)), es'.size = l'.length → (∀ j (h : j < l'.length) (h' : j < es'.size), cU w c.S kc l'[j].1 es'[j].key ∧ cU w c.S vc l'[j].2 es'[j].val) →
       ∃ w', (setObj b (.map es' clock')).run P w = .ok () w' ∧ dN c w c w' ∧ Good M w0 c (h.set i (.map kc vc l')) w' := fun es' clock' l' hs hr => by
      have hsame : ∀ k, k ≠ b → (w.heap.setIfInBounds b (Go.Obj.map es' clock'))[k]? = w.heap[k]? := fun k hk => by simp [Ne.symm hk]
      have hkS : wJ c.S w { w with heap := w.heap.setIfInBounds b (.map es' clock') } := fun k hk => hsame k (fun e => hnS (e ▸ hk))
      refine ⟨{ w with heap := w.heap.setIfInBounds b (.map es' clock') }, by simp [setObj, Sem.run, q2], ?_⟩
      have := hg.modify (o' := .map kc vc l') ho hob (w' := { w with heap := w.heap.setIfInBounds b (.map es' clock') }) rfl rfl rfl (by simp) hsame ?_ ?_
      ·exact ⟨this.2, this.1⟩
      ·exact ⟨b, es', clock', q1, by simp [hblt], hs, fun j h h' => ⟨(hr j h h').1.keep (fun _ h => h) hkS, (hr j h h').2.keep (fun _ h => h) hkS⟩⟩
      ·intro b' hb'
       simp [ownBlock, q1, aQ] at hb'
       exact hb'.symm
     cases hgt : aBs kc l x with
     | some y0 =>
      rw [hgt] at hff
      obtain ⟨j, e, k1, r1, r2, r3, r4, r5⟩ := hff
      rw [r1] at hf
      simp only [Nat.zero_add] at hf
      have hjl : j < l.length := by
       rcases Nat.lt_or_ge j l.length with h | h
       ·exact h
       ·rw [List.getElem?_eq_none h] at r3; cases r3
      have hje : j < es.size := by omega
      have e1 : es[j] = e := by
       have : es.toList[j]? = some e := r2
       rw [Array.getElem?_toList, Array.getElem?_eq_getElem hje] at this
       simpa using this
      have e2 : l[j] = (k1, y0) := by rw [List.getElem?_eq_getElem hjl] at r3; simpa using r3
      have hkk := (q4 j hjl hje).1
      rw [e1, e2] at hkk
      have hkey : e.key = kv := ((aTC h1 hkx hkk).1 r4).symm
      obtain ⟨w', s1, s2, s3⟩ := hset (es.modify j fun e => { e with key := kv, val := vv }) clock (l.set j (k1, y)) (by simp [q3]) (fun j' h h' => by
       simp only [List.length_set] at h
       have hj' : j' < es.size := by omega
       have hq := q4 j' h hj'
       simp only [List.getElem_set, Array.getElem_modify]
       by_cases ej : j = j'
       ·subst ej
        simp only [if_true]
        exact ⟨by rw [← hkey]; exact hkk, hvy⟩
       ·simp only [ej, if_false]; exact hq)
      refine ⟨w', ?_, s2, by rw [r5]; exact s3, trivial⟩
      have hst := aSq (P := P) h1 hkx w
      simp [Instr.mapUpdate, aU hu, hgo, hck, hf, Result.andThen, Array.getElem?_eq_getElem hje, e1, hkey, hst, s1]
     | none =>
      rw [hgt] at hff
      rw [hff.1] at hf
      obtain ⟨w', s1, s2, s3⟩ := hset (es.push { key := kv, val := vv, born := clock }) (clock + 1) (l ++ [(x, y)]) (by simp [q3]) (fun j' h h' => by
       rcases Nat.lt_or_ge j' l.length with hj | hj
       ·have hj' : j' < es.size := by omega
        have hq := q4 j' hj hj'
        rw [List.getElem_append_left hj, Array.getElem_push_lt hj']
        exact hq
       ·have ej : j' = l.length := by simp at h; omega
        subst ej
        have e3 : (es.push { key := kv, val := vv, born := clock : MapEntry })[l.length]'h' = { key := kv, val := vv, born := clock } := by
         have : l.length = es.size := q3.symm
         simp [Array.getElem_push, this]
        rw [e3]
        simp only [List.getElem_append_right (Nat.le_refl _), Nat.sub_self, List.getElem_singleton]
        exact ⟨hkx, hvy⟩)
      refine ⟨w', ?_, s2, by rw [hff.2]; exact s3, trivial⟩
      simp [Instr.mapUpdate, aU hu, hgo, hck, hf, Result.andThen, s1]
    ·exact h3.elim
   ·exact hc.elim
  ·exact hc.elim
 ·exact hc.elim
theorem aM7 (hE : gA P E) (hg : Good M w0 c h w) {t : TypeId} (hc : (yN E h t).1) :
  ∃ v' w' c', (Instr.buildSlice t 0 #[]).run P w = .ok v' w' ∧ dN c w c' w' ∧ Good M w0 c' (yN E h t).2.2 w' ∧ aP c' w' (yN E h t).2.1 v' := by
 unfold yN at hc ⊢
 split at hc
 ·rename_i ct ht
  have hd := hE.el t ct ht
  obtain ⟨e', hd', hTe', hpos⟩ := gG (hE.T _ _ ht)
  have : e' = E.el t := by rw [hd] at hd'; cases hd'; rfl
  subst this
  have hTe := hE.T _ _ hTe'
  have hk : fM nothing w (w.alloc (.cells #[] (E.el t) (0, 0))) := fM.alloc nothing w _
  have e : (c.push (.slice (some ⟨w.heap.size, 0, none⟩) 0 0)).hd c.n = .slice (some ⟨w.heap.size, 0, none⟩) 0 0 := by simp [Ctx.push]
  have := hg.push hk (o := .row (E.el t) ct []) (hv := .slice (some ⟨w.heap.size, 0, none⟩) 0 0) (by
   show tJ _ _ _ _ _ _
   rw [e]
   exact ⟨[], ⟨by simp, .inr ⟨w.heap.size, 0, #[], rfl, Nat.zero_le _, aA3 w _, Nat.le_refl _, Nat.zero_le _, by simp, by simp⟩⟩, ⟨rfl, [], rfl, rfl, fun i hi => by simp at hi⟩⟩) (fun b hb => by
   simp only [ownBlock, e, aQ, Option.some.injEq] at hb
   subst hb
   exact ⟨Nat.le_refl _, by simp⟩)
  refine ⟨.slice (some ⟨w.heap.size, 0, none⟩) 0 0, _, _, ?_, this.2, this.1, ?_⟩
  ·have e1 : (Array.range (0 * ct.cells)).map (fun x => (#[] : Array Value)[x % (#[] : Array Value).size]!) = #[] := by simp
   have hle : ¬ (0 * ct.cells > 2 ^ 24) := by omega
   simp only [Instr.buildSlice, Sem.run_bind, aU hd, Result.andThen_ok, gS hTe, hle, if_false, Nat.zero_mul, if_true, Sem.run_ite, Sem.run_pure]
   rw [if_neg (by decide)]
   simp only [Nat.zero_mul] at e1
   rw [e1]
   rfl
  ·have := aAD (c := c) (v' := .slice (some ⟨w.heap.size, 0, none⟩) 0 0) ⟨_, _, _, rfl⟩ (w' := w.alloc (.cells #[] (E.el t) (0, 0))) (S' := c.S)
   rw [← hg.n]
   exact this
 ·exact hc.elim
theorem aXJ (hE : gA P E) (hg : Good M w0 c h w) (hG : oD E.G c.S w) {o : Oper} {a : Act} {ρ : Operand → AV} (hρ : ∀ x ∈ o.op.operands, aP c w (ρ x) (a.eval x)) (hc : (xN E h ρ o).1) : aP2 P M w0 c o a w (xN E h ρ o).2.2 (xN E h ρ o).2.1 := by
 have hpv : (pv E h ρ o).1 → aP2 P M w0 c o a w h (pv E h ρ o).2 := fun hc => (aXl hE hg hG hρ hc).toE
 obtain ⟨dst, op, ty, pos, aft, gd⟩ := o
 cases op
 case alloc t =>
  simp only [xN] at hc ⊢
  split at hc
  ·rename_i ct ht
   have hz := tM (hE.T _ _ ht) hc w
   obtain ⟨w', c', h1, h2, h3, h4⟩ := aMh hg (t := t) (P := P) (x := aCt ct) (by rw [(aE9 (c := c) (w := w) hc).2.2.1]; exact aTh t ct) (aE9 (c := c) (w := w) hc).2.1 (aE9 hc).2.2.2
   refine .inl ⟨_, w', c', ?_, h2, h3, h4⟩
   simp [execOp, Instr.alloc, hz, h1]
  ·exact hc.elim
 case box t x =>
  simp only [xN] at hc ⊢
  obtain ⟨w', c', h1, h2, h3, h4⟩ := aMh hg (t := t) (P := P) (.inl rfl) hc (hρ x (by simp [Op.operands]))
  exact .inl ⟨_, w', c', by simp [execOp, Instr.box, h1], h2, h3, h4⟩
 case store t p x =>
  simp only [xN] at hc ⊢
  obtain ⟨w', h1, h2, h3⟩ := aTK (P := P) hE.T hg (hρ p (by simp [Op.operands])) (hρ x (by simp [Op.operands])) hc
  refine .inr (.inl ⟨w', c, by simp [execOp, h1], h2, h3, ?_⟩)
  have : (aBw E.T h t (ρ p) (ρ x)).2.1 = .junk := by
   unfold aBw
   split <;> (try rfl)
   split <;> (try rfl)
   split <;> (try rfl)
   split <;> rfl
  rw [this]; trivial
 case makeMap t r =>
  cases r with
  | none =>
   simp only [xN] at hc ⊢
   obtain ⟨v, w', c', h1, h2⟩ := aP3 (P := P) hg hc
   exact .inl ⟨v, w', c', by simp [execOp, h1], h2⟩
  | some _ => exact hpv hc
 case buildSlice t n ps =>
  simp only [xN] at hc ⊢
  split at hc
  ·rename_i hps
   obtain rfl : ps = #[] := by rw [← Array.toList_inj]; exact hps
   obtain ⟨v', w', c', h1, h2, h3, h4⟩ := aM7 (P := P) hE hg hc
   exact .inl ⟨v', w', c', by simp [execOp, h1], h2, h3, h4⟩
  ·exact hpv hc
 case mapUpdate t m k v =>
  simp only [xN] at hc ⊢
  obtain ⟨w', h1, h2, h3, h4⟩ := aTN (P := P) hE hg (hρ m (by simp [Op.operands])) (hρ k (by simp [Op.operands])) (hρ v (by simp [Op.operands])) hc
  exact .inr (.inl ⟨w', c, by simp [execOp, h1], h2, h3, by rw [h4]; trivial⟩)
 case insert t m k v =>
  simp only [xN] at hc ⊢
  obtain ⟨w', h1, h2, h3, h4⟩ := aTN (P := P) hE hg (hρ m (by simp [Op.operands])) (hρ k (by simp [Op.operands])) (hρ v (by simp [Op.operands])) hc
  exact .inr (.inl ⟨w', c, by simp [execOp, h1], h2, h3, by rw [h4]; trivial⟩)
 case makeSlice t l cp =>
  simp only [xN] at hc ⊢
  obtain ⟨v', w', c', h1, h2, h3, h4⟩ := aV8 (P := P) hE hg (hρ l (by simp [Op.operands])) (hρ cp (by simp [Op.operands])) hc
  exact .inl ⟨v', w', c', by simp [execOp, h1], h2, h3, h4⟩
 case pick p x y =>
  simp only [xN] at hc ⊢
  have hp := hρ p (by simp [Op.operands])
  have hx := hρ x (by simp [Op.operands])
  have hy := hρ y (by simp [Op.operands])
  unfold aRn at hc ⊢
  split at hc
  ·rename_i q u v e1 e2 e3
   rw [e1] at hp
   rw [e2] at hx
   rw [e3] at hy
   have hb := aAY hp
   cases q
   ·exact (Did.of_value (v := a.eval y) (h := h) hg (by simp [execOp, hb, asBool]) hy).toE
   ·exact (Did.of_value (v := a.eval x) (h := h) hg (by simp [execOp, hb, asBool]) hx).toE
  ·rename_i q v e1 e2 e3
   rw [e1] at hp
   rw [e3] at hy
   have hb := aAY hp
   have hc : q = false := hc
   subst hc
   exact (Did.of_value (v := a.eval y) (h := h) hg (by simp [execOp, hb, asBool]) hy).toE
  ·rename_i q u e1 e2 e3
   rw [e1] at hp
   rw [e2] at hx
   have hb := aAY hp
   have hc : q = true := hc
   subst hc
   exact (Did.of_value (v := a.eval x) (h := h) hg (by simp [execOp, hb, asBool]) hx).toE
  ·exact hc.elim
 case call cl =>
  obtain ⟨callee, args, argTypes⟩ := cl
  have hargs : ∀ x ∈ args.toList, aP c w (ρ x) (a.eval x) := fun x hx => hρ x (by
   simp only [Op.operands, Call.operands]
   exact Array.mem_append.2 (.inr (by simpa using hx)))
  cases callee with
  | builtin b =>
   cases b
   case append =>
    simp only [xN, aIJ] at hc ⊢
    split at hc
    ·rename_i s x t t' e1 e2
     obtain ⟨p, q, epq, rfl, rfl⟩ : ∃ p q, args.toList = [p, q] ∧ ρ p = s ∧ ρ q = x := by
      match hl : args.toList, e1 with
      | [p, q], ex => simp at ex; exact ⟨p, q, rfl, ex.1, ex.2⟩
     cases hz : aRo (E.T t') with
     | true =>
      simp only [hz, cond_true] at hc ⊢
      have htx : P.underlying t' = some (.int .i64) := by
       unfold aRo at hz
       split at hz
       ·rename_i hT
        exact aV9 (hE.T _ _ hT)
       ·cases hz
      obtain ⟨v', w', c', h1, h2, h3, h4⟩ := aP0 (P := P) (ty := ty) hE hg htx (hargs p (by rw [epq]; simp)) (hargs q (by rw [epq]; simp)) hc
      have e3 : args = #[p, q] := by rw [← Array.toList_inj]; exact epq
      have e4 : argTypes = #[t, t'] := by rw [← Array.toList_inj]; exact e2
      exact .inl ⟨v', w', c', by rw [e3, e4]; simp [execOp, resolve, invoke, builtin, h1], h2, h3, h4⟩
     | false =>
     simp only [hz, cond_false] at hc ⊢
     cases hq : isStr (E.T t') with
     | true =>
      simp only [hq, cond_true] at hc ⊢
      have htx : P.underlying t' = some .string := by
       unfold isStr at hq
       split at hq
       ·rename_i hT
        exact sR (hE.T _ _ hT)
       ·cases hq
      obtain ⟨v', w', c', h1, h2, h3, h4⟩ := aP1 (P := P) (ty := ty) hE hg htx (hargs p (by rw [epq]; simp)) (hargs q (by rw [epq]; simp)) hc
      have e3 : args = #[p, q] := by rw [← Array.toList_inj]; exact epq
      have e4 : argTypes = #[t, t'] := by rw [← Array.toList_inj]; exact e2
      exact .inl ⟨v', w', c', by rw [e3, e4]; simp [execOp, resolve, invoke, builtin, h1], h2, h3, h4⟩
     | false =>
     simp only [hq, cond_false] at hc ⊢
     obtain ⟨hc, rfl⟩ := hc
     obtain ⟨v', w', c', h1, h2, h3, h4⟩ := aSu (P := P) (ty := ty) hE hg (hargs p (by rw [epq]; simp)) (hargs q (by rw [epq]; simp)) hc
     have e3 : args = #[p, q] := by rw [← Array.toList_inj]; exact epq
     have e4 : argTypes = #[t', t'] := by rw [← Array.toList_inj]; exact e2
     exact .inl ⟨v', w', c', by rw [e3, e4]; simp [execOp, resolve, invoke, builtin, h1], h2, h3, h4⟩
    ·exact hc.elim
   all_goals exact hpv hc
  | value f =>
   cases f with
   | func f =>
    simp only [xN, aIJ] at hc ⊢
    cases ho : aOr E.Γ f (args.toList.map ρ) with
    | false =>
     simp only [ho, cond_false] at hc ⊢
     exact hpv hc
    | true =>
     simp only [ho, cond_true] at hc ⊢
     have hfok : ∀ sp, E.Γ f (args.toList.map ρ) = some sp → FOK P E.G f sp ∧ ∃ fn, P.funcs[f]? = some fn ∧ fn.name ≠ "runtime.NumGoroutine" ∧ fn.body.isSome = true := fun sp hsp => by
      rcases hE.Γ f _ sp hsp with h | h
      ·exact h
      ·unfold aOr at ho
       rw [hsp] at ho
       obtain ⟨a1, r1, p1, f1⟩ := sp
       cases r1 with
       | own e t => exact absurd rfl (h.1 e t)
       | _ => simp at ho
     have hcall := aPZ (P := P) (Γ := E.Γ) (fun sp hsp => (hfok sp hsp).1) hg hG (f := f) (vs := args.toList.map ρ) (xs := (args.toList.map a.eval).toArray) (by simp) (fun i h1 h2 => by
      have := aBt (ρ := ρ) (a := a) (c := c) (w := w) hargs i h1 (by simpa using h2)
      simpa using this) hc
     have hfn : ∃ fn, P.funcs[f]? = some fn ∧ fn.name ≠ "runtime.NumGoroutine" ∧ fn.body.isSome = true := by
      unfold aOr at ho
      cases hΓ : E.Γ f (args.toList.map ρ) with
      | none => simp [hΓ] at ho
      | some sp => exact (hfok sp hΓ).2
     refine .inr (.inr ⟨f, (args.toList.map a.eval).toArray, ?_, ?_⟩)
     ·have hrun := xT (w := w) (args := (args.map a.eval)) hfn
      have e2 : (args.toList.map a.eval).toArray = args.map a.eval := by rw [← Array.toList_inj]; simp
      rw [e2]
      simp [execOp, resolve, Deferred.ofValue, Act.eval, invoke, hrun]
     ·refine hcall.mono ?_
      rintro e w' ⟨v, c', he, h1, h2, h3⟩
      exact ⟨v, c', he, h1, h2, h3⟩
   | _ => exact hpv hc
  | _ => exact hpv hc
 all_goals exact hpv hc
theorem aTO (hg : Good M w0 c h w) {G : Nat → AV} {env : St} {a : Act} (he : aCl c w env a.tmps) (hG : oD G c.S w) {x : Operand} (hx : jQ x = true) : aP c w (aM5 h (evA G env x)) (a.eval x) := aRj hg (yU he hG hx)
theorem aDF (hE : gA P E) {nt : Nat} {ds : List Deferred} {env : St} {a : Act} {o : Oper} (hs : Sim E M w0 nt ds c env h a w) (hok : eM nt o = true) (hc : (tT E env h o).1) : aP2 P M w0 c o a w (tT E env h o).2.2 (tT E env h o).2.1 := by
 obtain ⟨c1, hl, hn, hg1⟩ := hs.good.freezeAll (aJq E (evA E.G env) o)
 simp only [eM, Bool.and_eq_true] at hok
 have hall : ∀ x ∈ o.op.operands, jQ x = true := Array.all_eq_true_iff_forall_mem.1 hok.1
 have hG1 : oD E.G c1.S w := hs.glob.mono hl.le.S hl.same
 have := aXJ hE hg1 hG1 (o := o) (a := a) (ρ := fun x => aM5 (freezeAll (aJq E (evA E.G env) o) h) (evA E.G env x)) (fun x hx => aTO hg1 (hs.env.keep hl) hG1 (hall x hx)) hc
 rcases this with ⟨v, w', c', hr, ha⟩ | ⟨w', c', hr, ha⟩ | ⟨f, args, hr, hcl⟩
 ·exact .inl ⟨v, w', c', hr, hl.trans ha.later, ha.good, ha.val⟩
 ·exact .inr (.inl ⟨w', c', hr, hl.trans ha.later, ha.good, ha.val⟩)
 ·refine .inr (.inr ⟨f, args, hr, hcl.mono ?_⟩)
  rintro e w' ⟨v, c', he, ha⟩
  exact ⟨v, c', he, hl.trans ha.later, ha.good, ha.val⟩
theorem Sim.after {nt : Nat} {ds : List Deferred} {env : St} {a : Act} {o : Oper} (hs : Sim E M w0 nt ds c env h a w) (hok : eM nt o = true) {h' : List Obj} {av : AV} {v : Value} {w' : World} {c' : Ctx} (ha : aEu M w0 c w h' av v w' c') : Sim E M w0 nt ds c' (tI o.dst av env) h' (a.put o.dst v) w' := by
 simp only [eM, Bool.and_eq_true] at hok
 refine ⟨ha.good, hs.glob.mono ha.later.le.S ha.later.same, ?_, ?_, ?_⟩
 ·cases hd : o.dst with
  | none => exact hs.env.keep ha.later
  | some d =>
   have hdn : d < nt := by have := hok.2; rw [hd] at this; simpa using this
   exact (hs.env.keep ha.later).put (by rw [hs.size]; exact hdn) ha.val
 ·cases hd : o.dst with
  | none => exact hs.size
  | some d => simp [Act.put, hs.size]
 ·cases hd : o.dst with
  | none => exact hs.defers
  | some d => exact hs.defers
def yb : Value → Option Bool
 | .bool b => some b
 | _ => none
theorem sT {nt : Nat} {ops : List Oper} (hok : ∀ o ∈ ops, eM nt o = true) {a : Act} (hsz : a.tmps.size = nt) {j dj : Nat} (hd : aDW ops j = some dj) {v : Value} (hv : a.tmps.getD dj Go.undef = v) : yielded ops.toArray a.tmps j = yb v := by
 unfold aDW at hd
 split at hd
 ·rename_i oj hj
  have hokJ := hok oj (List.mem_of_getElem? hj)
  simp only [eM, Bool.and_eq_true, hd, decide_eq_true_eq] at hokJ
  have hdj : dj < a.tmps.size := by rw [hsz]; exact hokJ.2
  have h1 : a.tmps[dj]? = some v := by
   rw [Array.getElem?_eq_getElem hdj]
   have : a.tmps[dj] = v := by simpa [hdj] using hv
   rw [this]
  simp only [yielded, List.getElem?_toArray, hj, Option.bind_some, hd, h1]
  cases v <;> rfl
 ·cases hd
theorem aFb (hE : gA P E) {ops : List Oper} {Q : Exit → Act → World → Prop} {nt : Nat} {ds : List Deferred} (hok : ∀ o ∈ ops, eM nt o = true) {K : St → List Obj → Prop} (hK : ∀ env h c a w, K env h → Sim E M w0 nt ds c env h a w → Q .normal a w) :
  ∀ (m i : Nat), i + m = ops.length → ∀ (env : St) (h : List Obj) (c : Ctx) (a : Act) (w : World), pY E ops (ops.drop i) env h K → Sim E M w0 nt ds c env h a w → wpOps P ops.toArray Q (List.range' i m) a w
 | 0, i, hi, env, h, c, a, w, hs, hsim => by
  rw [List.drop_eq_nil_of_le (by omega)] at hs
  simp only [List.range'_zero, wpOps]
  exact hK env h c a w hs hsim
 | m + 1, i, hi, env, h, c, a, w, hs, hsim => by
  have hil : i < ops.length := by omega
  rw [List.drop_eq_getElem_cons hil] at hs
  have hokO := hok ops[i] (List.getElem_mem hil)
  have hput : ∀ (v : Value) (av : AV), aP c w av v → Sim E M w0 nt ds c (tI ops[i].dst av env) h (a.put ops[i].dst v) w := fun v av hv => hsim.after hokO ⟨.refl _ _, hsim.good, hv⟩
  have hrun : ((tT E env h ops[i]).1 ∧ pY E ops (ops.drop (i + 1)) (tI ops[i].dst (tT E env h ops[i]).2.1 env) (tT E env h ops[i]).2.2 K) → Region.wanted ops[i] (yielded ops.toArray a.tmps) = true → wpOps P ops.toArray Q (List.range' i (m + 1)) a w := fun ⟨h1, h2⟩ hw => by
   rw [List.range'_succ]
   simp only [wpOps, List.getElem?_toArray, List.getElem?_eq_getElem hil, hw, if_true]
   left
   refine (aDF hE hsim hokO h1).wp fun v w' c' ha => ?_
   exact aFb hE hok hK m (i + 1) (by omega) _ _ c' _ w' h2 (hsim.after hokO ha)
  have hskip : pY E ops (ops.drop (i + 1)) (tI ops[i].dst .undef env) h K → Region.wanted ops[i] (yielded ops.toArray a.tmps) = false → wpOps P ops.toArray Q (List.range' i (m + 1)) a w := fun h2 hw => by
   rw [List.range'_succ]
   simp only [wpOps, List.getElem?_toArray, List.getElem?_eq_getElem hil, hw, Bool.false_eq_true, if_false]
   exact aFb hE hok hK m (i + 1) (by omega) _ _ c _ w h2 (hput _ _ rfl)
  simp only [pY] at hs
  cases hgd : ops[i].guard with
  | none =>
   rw [hgd] at hs
   exact hrun hs (by simp [Region.wanted, hgd])
  | some jp =>
   obtain ⟨j, pol⟩ := jp
   rw [hgd] at hs
   simp only at hs
   cases hdj : aDW ops j with
   | none => rw [hdj] at hs; exact hs.elim
   | some dj =>
    rw [hdj] at hs
    simp only at hs
    have hv := hsim.env dj
    split at hs
    ·rename_i b hb
     rw [hb] at hv
     have hb' := aAY hv
     have hy := sT hok hsim.size hdj hb'
     simp only [yb] at hy
     by_cases e : b = pol
     ·exact hrun (hs.1 e) (by simp [Region.wanted, hgd, hy, e])
     ·have e' : b = !pol := by cases b <;> cases pol <;> simp_all
      exact hskip (hs.2 e') (by simp [Region.wanted, hgd, hy, e])
    ·rename_i hb
     rw [hb] at hv
     have hy := sT hok hsim.size hdj (v := Go.undef) hv
     exact hskip hs (by simp [Region.wanted, hgd, hy, Go.undef, yb])
    ·exact hs.elim
theorem bC {F : Fr} {Q : Exit → Act → World → Prop} {env : St} {h : List Obj} (hF : iZ F) {id : Nat} {ops : Array Oper} (keep : List Nat) (hv : pY F.E ops.toList ops.toList env h (fun env h => At F (Q .normal) (keep.map fun t => (t, look env t)) h)) : Tri F (.region id ops false) Q env h := fun hok c a w hs => by
 simp only [fE, Bool.and_eq_true, Bool.or_eq_true, Bool.not_eq_true'] at hok
 obtain ⟨⟨h1, h2⟩, h3⟩ := hok
 refine wp_region ?_
 have := aFb (Q := Q) hF.env (List.all_eq_true.1 h1) (K := fun env h => At F (Q .normal) (keep.map fun t => (t, look env t)) h) (fun env h c a w hk hs => hk c a w (hs.keep keep)) ops.toList.length 0 (by simp) env h c a w (by simpa using hv) hs
 simpa [List.range_eq_range'] using this
end
end Go.Vc
namespace Go.Vc
open Go.RowKit
def posOf (i : Nat) : List Nat → Option Nat
 | [] => none
 | k :: r => if k = i then some 0 else match posOf i r with
  | some j => some (j + 1)
  | none => none
def eX (σ : List Nat) : List Nat → Option (List Nat)
 | [] => some []
 | i :: r => match posOf i σ, eX σ r with
  | some j, some l => some (j :: l)
  | _, _ => none
def gN (σ : List Nat) : AV → AV
 | .own i => match posOf i σ with
  | some j => .own j
  | none => .junk
 | .ptr i p => match posOf i σ with
  | some j => .ptr j p
  | none => .junk
 | .sub i s off n => match posOf i σ with
  | some j => .sub j s off n
  | none => .junk
 | .mp i => match posOf i σ with
  | some j => .mp j
  | none => .junk
 | .fn f l1 l2 => match eX σ l1, eX σ l2 with
  | some l1, some l2 => .fn f l1 l2
  | _, _ => .junk
 | .agg _ => .junk
 | .flat _ => .junk
 | .tup _ => .junk
 | v => v
def ren (σ : List Nat) : AV → AV
 | .agg vs => .agg (vs.map (gN σ))
 | .tup _ => .junk
 | .flat _ => .junk
 | v => gN σ v
def oE (σ : List Nat) : Obj → Obj
 | .box n v => .box n (ren σ v)
 | o => o
def tU : List Nat → Bool
 | [] => true
 | i :: r => !r.contains i && tU r
def preB (m : Nat) (σ : List Nat) : Bool := (List.range m).all fun i => decide (σ[i]? = some i)
theorem aOs {m : Nat} {σ : List Nat} (h : preB m σ = true) {i : Nat} (hi : i < m) : σ[i]? = some i := by
 have := List.all_eq_true.1 h i (List.mem_range.2 hi)
 simpa using this
section
variable {F : Fr} {M : Perm} {w0 : World} {c : Ctx} {h : List Obj} {w : World} {env : St} {K : Act → World → Prop}
theorem aOt {i : Nat} : ∀ {σ : List Nat} {j : Nat}, posOf i σ = some j → σ[j]? = some i
 | k :: r, j, hp => by
  simp only [posOf] at hp
  split at hp
  ·rename_i e; cases hp; simp [e]
  ·split at hp
   ·rename_i j' hj; cases hp; simp [aOt hj]
   ·cases hp
 | [], _, hp => by cases hp
def Ctx.ren (c : Ctx) (σ : List Nat) : Ctx := ⟨c.S, fun j => c.hd (σ.getD j 0), σ.length⟩
theorem aJr {σ : List Nat} {i j : Nat} (hp : posOf i σ = some j) : j < σ.length ∧ (c.ren σ).hd j = c.hd i := by
 have := aOt hp
 have hlt : j < σ.length := by
  rcases Nat.lt_or_ge j σ.length with hh | hh
  ·exact hh
  ·rw [List.getElem?_eq_none hh] at this; cases this
 refine ⟨hlt, ?_⟩
 simp [Ctx.ren, List.getD_eq_getElem?_getD, this]
theorem aGc {σ : List Nat} : ∀ {l l' : List Nat}, eX σ l = some l' → (∀ j ∈ l', j < σ.length) ∧ l'.map (c.ren σ).hd = l.map c.hd
 | [], l', hp => by simp [eX] at hp; subst hp; exact ⟨(fun j hj => by cases hj), rfl⟩
 | i :: r, l', hp => by
  simp only [eX] at hp
  split at hp
  ·rename_i j l h1 h2
   cases hp
   obtain ⟨q1, q2⟩ := aJr (c := c) h1
   obtain ⟨k1, k2⟩ := aGc h2
   refine ⟨fun k hk => ?_, by simp [q2, k2]⟩
   rcases List.mem_cons.1 hk with rfl | hk
   ·exact q1
   ·exact k1 k hk
  ·cases hp
theorem aJs {σ : List Nat} : ∀ {v : AV} {cs : List Value}, aI c w v cs → aI (c.ren σ) w (gN σ v) cs := by
 intro v cs hr
 cases v <;> simp only [gN] <;> (try trivial)
 case own i =>
  split
  ·rename_i j hp
   obtain ⟨q1, q2⟩ := aJr (c := c) hp
   simp only [aI] at hr ⊢
   rw [q2]
   exact ⟨q1, hr.2⟩
  ·trivial
 case ptr i p =>
  split
  ·rename_i j hp
   obtain ⟨q1, q2⟩ := aJr (c := c) hp
   simp only [aI] at hr ⊢
   rw [q2]
   exact ⟨q1, hr.2⟩
  ·trivial
 case sub i s off n =>
  split
  ·rename_i j hp
   obtain ⟨q1, q2⟩ := aJr (c := c) hp
   simp only [aI] at hr ⊢
   rw [q2]
   exact ⟨q1, hr.2⟩
  ·trivial
 case mp i =>
  split
  ·rename_i j hp
   obtain ⟨q1, q2⟩ := aJr (c := c) hp
   simp only [aI] at hr ⊢
   rw [q2]
   exact ⟨q1, hr.2⟩
  ·trivial
 case fn f l1 l2 =>
  split
  ·rename_i l1' l2' h1 h2
   obtain ⟨q1, q2⟩ := aGc (c := c) h1
   obtain ⟨k1, k2⟩ := aGc (c := c) h2
   simp only [aI] at hr ⊢
   rw [q2, k2]
   exact ⟨q1, k1, hr.2.2⟩
  ·trivial
 all_goals exact hr
theorem aRp {σ : List Nat} : ∀ {vs : List AV} {cs : List Value}, jX c w vs cs → jX (c.ren σ) w (vs.map (gN σ)) cs
 | [], _, hr => hr
 | v :: r, _, ⟨c1, c2, e, h1, h2⟩ => ⟨c1, c2, e, aJs h1, aRp h2⟩
theorem aMi {σ : List Nat} {v : AV} {cs : List Value} (hr : aI c w v cs) : aI (c.ren σ) w (ren σ v) cs := by
 cases v
 case agg vs => exact aRp hr
 case tup => trivial
 case flat => trivial
 all_goals exact aJs hr
theorem aIK {σ : List Nat} {v : AV} {x : Value} (hr : aP c w v x) : aP (c.ren σ) w (ren σ v) x := by
 have main : sQ c w v x → (ren σ v = .junk ∨ (ren σ v).isAgg = v.isAgg) → (∀ vs, ren σ v ≠ .tup vs) → (ren σ v ≠ .undef ∨ v = .undef) → aP (c.ren σ) w (ren σ v) x := fun h1 ha ht hu => by
  rcases ha with ha | ha
  ·rw [ha]; trivial
  ·have h2 := aMi (σ := σ) h1.1
   generalize ren σ v = u at h2 ha ht hu
   have h3 : sQ (c.ren σ) w u x := ⟨h2, by rw [ha]; exact h1.2.1, by rw [ha]; exact h1.2.2⟩
   cases u <;> first | exact h3 | trivial | exact absurd rfl (ht _) | skip
   have h2 : x.cells.toList = [Go.undef] := h2
   have h4 := h1.2.2
   rw [← ha] at h4
   have h4 := h4 rfl
   show x = Go.undef
   cases x <;> simp [Value.cells] at h2 h4 <;> first | exact h2 | skip
 cases v
 case junk => trivial
 case undef => exact hr
 case tup => trivial
 case flat => trivial
 case agg vs => exact main hr (.inr rfl) (fun _ h => by simp [ren] at h) (.inl (by simp [ren]))
 case val => exact main hr (.inr rfl) (fun _ h => by simp [ren, gN] at h) (.inl (by simp [ren, gN]))
 case nilS => exact main hr (.inr rfl) (fun _ h => by simp [ren, gN] at h) (.inl (by simp [ren, gN]))
 case nilP => exact main hr (.inr rfl) (fun _ h => by simp [ren, gN] at h) (.inl (by simp [ren, gN]))
 case full => exact main hr (.inr rfl) (fun _ h => by simp [ren, gN] at h) (.inl (by simp [ren, gN]))
 case roa => exact main hr (.inr rfl) (fun _ h => by simp [ren, gN] at h) (.inl (by simp [ren, gN]))
 case own i => cases hp : posOf i σ <;> exact main hr (by simp [ren, gN, hp, AV.isAgg]) (fun _ h => by simp [ren, gN, hp] at h) (.inl (by simp [ren, gN, hp]))
 case ptr i p => cases hp : posOf i σ <;> exact main hr (by simp [ren, gN, hp, AV.isAgg]) (fun _ h => by simp [ren, gN, hp] at h) (.inl (by simp [ren, gN, hp]))
 case sub i s off n => cases hp : posOf i σ <;> exact main hr (by simp [ren, gN, hp, AV.isAgg]) (fun _ h => by simp [ren, gN, hp] at h) (.inl (by simp [ren, gN, hp]))
 case mp i => cases hp : posOf i σ <;> exact main hr (by simp [ren, gN, hp, AV.isAgg]) (fun _ h => by simp [ren, gN, hp] at h) (.inl (by simp [ren, gN, hp]))
 case fn f l1 l2 => cases hp : eX σ l1 <;> cases hq : eX σ l2 <;> exact main hr (by simp [ren, gN, hp, hq, AV.isAgg]) (fun _ h => by simp [ren, gN, hp, hq] at h) (.inl (by simp [ren, gN, hp, hq]))
theorem aOu : ∀ {σ : List Nat}, tU σ = true → ∀ i j : Nat, ∀ k, σ[i]? = some k → σ[j]? = some k → i = j
 | [], _, i, j, k, hi, _ => by simp at hi
 | a :: r, hd, i, j, k, hi, hj => by
  simp only [tU, Bool.and_eq_true, Bool.not_eq_true', List.contains_eq_mem, decide_eq_false_iff_not] at hd
  cases i with
  | zero =>
   cases j with
   | zero => rfl
   | succ j =>
    simp at hi hj
    subst hi
    exact absurd (List.mem_of_getElem? hj) hd.1
  | succ i =>
   cases j with
   | zero =>
    simp at hi hj
    subst hj
    exact absurd (List.mem_of_getElem? hi) hd.1
   | succ j =>
    simp at hi hj
    rw [aOu hd.2 i j k hi hj]
theorem xU {σ : List Nat} {i j : Nat} (hj : σ[j]? = some i) (o : Obj) : ownBlock (c.ren σ) j (oE σ o) = ownBlock c i o := by
 have : (c.ren σ).hd j = c.hd i := by simp [Ctx.ren, List.getD_eq_getElem?_getD, hj]
 cases o <;> simp [ownBlock, oE, this]
theorem Good.ren (hg : Good M w0 c h w) {σ : List Nat} (hd : tU σ = true) (hp : preB M.m σ = true) : Good M w0 (c.ren σ) (σ.map fun i => oE σ (h.getD i .dead)) w := by
 have hcase : ∀ j o', (σ.map fun i => oE σ (h.getD i .dead))[j]? = some o' → ∃ i, σ[j]? = some i ∧ o' = oE σ (h.getD i .dead) := fun j o' hj => by
  rw [List.getElem?_map] at hj
  cases hs : σ[j]? with
  | none => simp [hs] at hj
  | some i => simp [hs] at hj; exact ⟨i, hs, hj.symm⟩
 have hget : ∀ i, h.getD i .dead = .dead ∨ h[i]? = some (h.getD i .dead) := fun i => by
  cases hi : h[i]? with
  | none => left; simp [List.getD_eq_getElem?_getD, hi]
  | some o => right; simp [List.getD_eq_getElem?_getD, hi]
 refine ⟨by simp [Ctx.ren], hg.keeps, hg.sfin, hg.src, fun j o' hj => ?_, fun j o' b hj hb => ?_, fun j k oj ok b hj hk hbj hbk => ?_, ?_, fun i hi => ?_⟩
 ·obtain ⟨i, hi, rfl⟩ := hcase j o' hj
  have hhd : (c.ren σ).hd j = c.hd i := by simp [Ctx.ren, List.getD_eq_getElem?_getD, hi]
  rcases hget i with e | e
  ·rw [e]; trivial
  ·have := hg.objs i _ e
   revert this
   generalize h.getD i .dead = o
   intro this
   cases o with
   | dead => trivial
   | box n v =>
    obtain ⟨b, cells, e', q1, q2, q3, q4⟩ := this
    exact ⟨b, cells, e', by rw [hhd]; exact q1, q2, q3, aMi q4⟩
   | row e' t xs => simp only [aHM, oE] at *; rw [hhd]; exact this
   | frz t xs => simp only [aHM, oE] at *; rw [hhd]; exact this
   | map k v m =>
    obtain ⟨b, es, clock, q1, q2⟩ := this
    exact ⟨b, es, clock, by rw [hhd]; exact q1, q2⟩
 ·obtain ⟨i, hi, rfl⟩ := hcase j o' hj
  rw [xU hi] at hb
  rcases hget i with e | e
  ·rw [e] at hb; cases hb
  ·exact hg.own i _ b e hb
 ·obtain ⟨i, hi, rfl⟩ := hcase j oj hj
  obtain ⟨i', hi', rfl⟩ := hcase k ok hk
  rw [xU hi] at hbj
  rw [xU hi'] at hbk
  rcases hget i with e | e
  ·rw [e] at hbj; cases hbj
  ·rcases hget i' with e' | e'
   ·rw [e'] at hbk; cases hbk
   ·have := hg.sep i i' _ _ b e e' hbj hbk
    subst this
    exact aOu hd j k i hi hi'
 ·rcases Nat.lt_or_ge σ.length M.m with hlt | hge
  ·have := aOs hp hlt
   rw [List.getElem?_eq_none (Nat.le_refl _)] at this; cases this
  ·exact hge
 ·have hi' := aOs hp hi
  have e : (c.ren σ).hd i = c.hd i := by simp [Ctx.ren, List.getD_eq_getElem?_getD, hi']
  rw [e]; exact hg.root.2 i hi
theorem aCL (f : AV → AV) (hf : f .junk = .junk) : ∀ (env : St) (t : Nat), look (env.map fun p => (p.1, f p.2)) t = f (look env t)
 | [], t => by simp only [List.map_nil, look]; exact hf.symm
 | (k, v) :: r, t => by
  simp only [List.map_cons, look]
  split
  ·rfl
  ·exact aCL f hf r t
theorem oN (σ : List Nat) (hd : tU σ = true) (hp : preB F.M.m σ = true) (hk : At F K (env.map fun p => (p.1, ren σ p.2)) (σ.map fun i => oE σ (h.getD i .dead))) : At F K env h := fun c a w hs =>
 hk (c.ren σ) a w ⟨hs.good.ren hd hp, hs.glob, fun t => by rw [aCL (ren σ) rfl]; exact aIK (hs.env t), hs.size, hs.defers⟩
theorem aM8 {x : Code} {Q : Exit → Act → World → Prop} (σ : List Nat) (hd : tU σ = true) (hp : preB F.M.m σ = true) (hk : Tri F x Q (env.map fun p => (p.1, ren σ p.2)) (σ.map fun i => oE σ (h.getD i .dead))) : Tri F x Q env h := fun hok => oN σ hd hp (hk hok)
theorem aSz (s : Nat) (e : TypeId) (t : Ty) (hn : look env s = .nilS) (hk : At F K ((s, .own h.length) :: env) (h ++ [.row e t []])) : At F K env h := fun c a w hs => by
 have hv := hs.env s
 rw [hn] at hv
 have hsv : a.tmps.getD s Go.undef = .slice none 0 0 := by
  obtain ⟨h1, _, h3⟩ := hv
  have h3 := h3 rfl
  simp only [aI] at h1
  revert h1 h3
  generalize a.tmps.getD s Go.undef = sv
  intro h1 h3
  cases sv <;> simp [Value.cells] at h1 h3 <;> simp [h1]
 have e1 : (c.push (.slice none 0 0)).hd c.n = .slice none 0 0 := by simp [Ctx.push]
 have := hs.good.push (.refl nothing w) (o := .row e t []) (hv := .slice none 0 0) (by
  show tJ _ _ _ _ _ _
  rw [e1]
  exact ⟨[], ⟨by simp, .inl ⟨rfl, rfl⟩⟩, ⟨rfl, [], rfl, rfl, fun i h => by simp at h⟩⟩) (fun b hb => by simp [ownBlock, e1, aQ] at hb)
 refine hk _ a w ⟨this.1, hs.glob.mono (fun _ h => h) (.refl _ _), fun t => ?_, hs.size, hs.defers⟩
 simp only [look]
 split
 ·rename_i e'
  subst e'
  rw [hsv, ← hs.good.n]
  exact aAD (c := c) ⟨_, _, _, rfl⟩ (w' := w) (S' := c.S)
 ·exact this.2.val (hs.env t)
theorem aSA (i : Nat) (hk : At F K (env.map fun p => (p.1, aM5 (freeze i h) p.2)) (freeze i h)) : At F K env h := fun c a w hs => by
 obtain ⟨c', hl, hn, hg⟩ := hs.good.freeze i
 refine hk c' a w ⟨hg, hs.glob.mono hl.le.S hl.same, fun t => ?_, hs.size, hs.defers⟩
 rw [aCL (aM5 (freeze i h)) rfl]
 exact aRj hg (hl.val (hs.env t))
theorem aP4 {x : Code} {Q : Exit → Act → World → Prop} (s : Nat) (e : TypeId) (t : Ty) (hn : look env s = .nilS) (hk : Tri F x Q ((s, .own h.length) :: env) (h ++ [.row e t []])) : Tri F x Q env h := fun hok => aSz s e t hn (hk hok)
theorem aEv {x : Code} {Q : Exit → Act → World → Prop} (i : Nat) (hk : Tri F x Q (env.map fun p => (p.1, aM5 (freeze i h) p.2)) (freeze i h)) : Tri F x Q env h := fun hok => aSA i (hk hok)
end
end Go.Vc
namespace Go.Vc
open Go.RowKit
def gam : List (FuncId × aJ) → FuncId → Option aJ
 | [], _ => none
 | (k, sp) :: r, f => if k = f then some sp else gam r f
theorem aWa {l : List (FuncId × aJ)} {f : FuncId} {sp : aJ} (h : gam l f = some sp) : (f, sp) ∈ l := by
 induction l with
 | nil => cases h
 | cons p r ih =>
  obtain ⟨k, s⟩ := p
  simp only [gam] at h
  split at h
  ·rename_i e; subst e; cases h; exact List.mem_cons_self
  ·exact List.mem_cons_of_mem _ (ih h)
def fnB (P : Program) (f : FuncId) : Bool := match P.funcs[f]? with
 | some fn => decide (fn.name ≠ "runtime.NumGoroutine") && fn.body.isSome
 | none => false
structure bL (P : Program) (G : Nat → AV) (l : List (FuncId × aJ)) : Prop where
 ok : ∀ p ∈ l, (FOK P G p.1 p.2 ∧ fnB P p.1 = true) ∨ NOK P G p.1 p.2
theorem bL.nil {P : Program} {G : Nat → AV} : bL P G [] := ⟨fun p hp => by cases hp⟩
theorem bL.cons {P : Program} {G : Nat → AV} {l : List (FuncId × aJ)} {f : FuncId} {sp : aJ} (h : FOK P G f sp) (hf : fnB P f = true) (hl : bL P G l) : bL P G ((f, sp) :: l) := by
 refine ⟨fun p hp => ?_⟩
 rcases List.mem_cons.1 hp with rfl | hp
 ·exact .inl ⟨h, hf⟩
 ·exact hl.ok p hp
theorem bL.nat {P : Program} {G : Nat → AV} {l : List (FuncId × aJ)} {f : FuncId} {sp : aJ} (h : NOK P G f sp) (hl : bL P G l) : bL P G ((f, sp) :: l) := by
 refine ⟨fun p hp => ?_⟩
 rcases List.mem_cons.1 hp with rfl | hp
 ·exact .inr h
 ·exact hl.ok p hp
theorem aTP {P : Program} {T : Tab} {G : Nat → AV} {l : List (FuncId × aJ)} {el : TypeId → TypeId} (hT : gZ P T) (hel : ∀ t ct, T t = some (.sl ct) → P.underlying t = some (.slice (el t))) {mp : TypeId → Option (TypeId × TypeId)} (hmp : ∀ t k e, mp t = some (k, e) → P.underlying t = some (.map k e)) (hl : bL P G l) : gA P ⟨T, G, fun f _ => gam l f, el, mp⟩ :=
 ⟨hT, fun f _ sp h => by
  rcases hl.ok _ (aWa h) with ⟨h, this⟩ | h
  ·refine .inl ⟨h, ?_⟩
   unfold fnB at this
   split at this
   ·rename_i fn hf
    simp only [Bool.and_eq_true, decide_eq_true_eq] at this
    exact ⟨fn, hf, this⟩
   ·cases this
  ·exact .inr h, hel, hmp⟩
theorem aTQ {P : Program} {G : Nat → AV} {f : FuncId} {a t : Ty} {pre : a.den → Prop} {fn : a.den → t.den} (h : ∀ (w : World) (S : Nat → Prop) (vs : List Value) (x : a.den), nE w S a x vs → pre x → ∃ us : List Value, (callFunc f vs.toArray).run P w = .ok (.value (.tuple us.toArray)) w ∧ nE w S t (fn x) us) : NOK P G f ⟨a, .tup t, pre, fn⟩ := by
 refine ⟨(fun e t h => by cases h), fun w vs S x hS hG ha hp => ?_⟩
 obtain ⟨us, h1, h2⟩ := h w S vs.toList x ha hp
 refine ⟨_, w, by simpa using h1, _, rfl, .refl _ _, us, rfl, ?_⟩
 have hmono : ∀ (t : Ty) (x : t.den) (xs : List Value), nE w S t x xs → nE w (fun b => S b ∨ (w.heap.size ≤ b ∧ b < w.heap.size)) t x xs := by
  intro t
  induction t with
  | unit => intro x xs h; exact h
  | pair a r _ ih => intro x xs ⟨v, vs', e, h1, h2⟩; exact ⟨v, vs', e, h1.keep (fun b hb => .inl hb) (.refl _ _), ih _ _ h2⟩
  | _ => intro x xs h; exact h.elim
 exact hmono _ _ _ h2
end Go.Vc
namespace Go.Vc
open Go.RowKit
def eP : List Oper → Nat → List (Nat × TypeId × Nat)
 | [], _ => []
 | o :: r, i => match o.op, o.guard, o.dst with
  | .alloc t, none, some d => (i, t, d) :: eP r (i + 1)
  | _, _, _ => eP r (i + 1)
def aOv (T : Tab) (t : TypeId) : Obj := match T t with
 | some ct => .box (bxN t ct) (aCt ct)
 | none => .dead
def oF (T : Tab) : List (Nat × TypeId × Nat) → St → List Obj → St × List Obj
 | [], env, h => (env, h)
 | (_, t, d) :: r, env, h => oF T r ((d, .ptr h.length []) :: env) (h ++ [aOv T t])
theorem qZ : ∀ {l : List Oper} {i : Nat} {p : Nat × TypeId × Nat}, p ∈ eP l i → ∃ o, l[p.1 - i]? = some o ∧ i ≤ p.1 ∧ o.op = .alloc p.2.1 ∧ o.guard = none ∧ o.dst = some p.2.2
 | [], i, p, hp => by cases hp
 | o :: r, i, p, hp => by
  have hrec : p ∈ eP r (i + 1) → ∃ o', (o :: r)[p.1 - i]? = some o' ∧ i ≤ p.1 ∧ o'.op = .alloc p.2.1 ∧ o'.guard = none ∧ o'.dst = some p.2.2 := fun hp => by
   obtain ⟨o', h1, h2, h3⟩ := qZ hp
   refine ⟨o', ?_, by omega, h3⟩
   rw [show p.1 - i = (p.1 - (i + 1)) + 1 from by omega, List.getElem?_cons_succ]
   exact h1
  simp only [eP] at hp
  split at hp
  ·rename_i t d h1 h2 h3
   rcases List.mem_cons.1 hp with rfl | hp
   ·exact ⟨o, by simp, Nat.le_refl _, h1, h2, h3⟩
   ·exact hrec hp
  ·exact hrec hp
section
variable {P : Program} {E : Env} {M : Perm} {w0 : World} {nt : Nat} {ds : List Deferred} {h : List Obj} {env : St} {pre : List Oper}
structure aRq (T : Tab) (al : List (Nat × TypeId × Nat)) (w : World) (listed : Nat → Prop) (c' : Ctx) (a : Act) (w' : World) (B : Nat → Nat) : Prop where
 size : w.heap.size ≤ w'.heap.size
 at_ : ∀ p ∈ al, listed p.1 → ∃ ct, T p.2.1 = some ct ∧ a.tmps.getD p.2.2 Go.undef = .pointer (some ⟨B p.1, 0, none⟩) ∧ w.heap.size ≤ B p.1 ∧ B p.1 < w'.heap.size ∧ ¬ c'.S (B p.1) ∧ w'.heap[B p.1]? = some (.cells (nD ct).cells p.2.1 (0, 0))
 inj : ∀ p ∈ al, ∀ q ∈ al, listed p.1 → listed q.1 → B p.1 = B q.1 → p.1 = q.1
theorem aRq.step {T : Tab} {w : World} {listed : Nat → Prop} {c' c'' : Ctx} {a a'' : Act} {w' w'' : World} {B : Nat → Nat} (hf : aRq T (eP pre 0) w listed c' a w' B) {i : Nat} {o : Oper} (ho : pre[i]? = some o) (hok : eM a.tmps.size o = true) (hu : aAg pre = true) (hni : ¬ listed i) (hd : o.dst ≠ none) (hsf : ∀ b, c'.S b → b < w'.heap.size)
  (hs : aXm T o a c' w' c'' a'' w'') : ∃ B', aRq T (eP pre 0) w (fun k => listed k ∨ k = i) c'' a'' w'' B' := by
 obtain ⟨v, hv, hal⟩ := hs.put
 have hget : ∀ d, o.dst ≠ some d → a''.tmps.getD d Go.undef = a.tmps.getD d Go.undef := fun d hne => by
  rw [hv]
  cases hdd : o.dst with
  | none => rfl
  | some d0 =>
   have : d0 ≠ d := fun e => hne (by rw [hdd, e])
   simp [Act.put, Array.getElem?_setIfInBounds_ne this]
 refine ⟨fun k => if k = i then w'.heap.size else B k, Nat.le_trans hf.size hs.keeps.size, fun p hp hl => ?_, fun p hp q hq hlp hlq hB => ?_⟩
 ·obtain ⟨op, h1, _, h2, h3, h4⟩ := qZ hp
  simp only [Nat.sub_zero] at h1
  by_cases e : p.1 = i
  ·rw [e] at h1
   rw [ho] at h1
   cases h1
   obtain ⟨ct, q1, q2, q3, q4⟩ := hal _ h2 h3
   simp only [e, if_true]
   refine ⟨ct, q1, ?_, hf.size, by rw [q3]; simp, fun hS => ?_, by rw [q3]; exact aA3 w' _⟩
   ·simp only [eM, Bool.and_eq_true, h4, decide_eq_true_eq] at hok
    rw [hv, h4, q2]
    simp [Act.put, hok.2]
   ·rw [q4] at hS
    have := hsf _ hS
    omega
  ·have hl : listed p.1 := hl.resolve_right e
   obtain ⟨ct, q1, q2, q3, q4, q5, q6⟩ := hf.at_ p hp hl
   simp only [e, if_false]
   refine ⟨ct, q1, ?_, q3, Nat.lt_of_lt_of_le q4 hs.keeps.size, fun hS => ?_, by rw [hs.keeps.block _ q4 (fun f => f)]; exact q6⟩
   ·rw [hget]
    ·exact q2
    ·intro hdd
     exact e (aIG hu ho h1 (by rw [h4, hdd]) hd)
   ·rcases hs.new _ hS with h | h
    ·exact q5 h
    ·omega
 ·by_cases ep : p.1 = i <;> by_cases eq : q.1 = i
  ·rw [ep, eq]
  ·simp only [ep, eq, if_true, if_false] at hB
   obtain ⟨ct, q1, q2, q3, q4, _⟩ := hf.at_ q hq (hlq.resolve_right eq)
   omega
  ·simp only [ep, eq, if_true, if_false] at hB
   obtain ⟨ct, q1, q2, q3, q4, _⟩ := hf.at_ p hp (hlp.resolve_right ep)
   omega
  ·simp only [ep, eq, if_false] at hB
   exact hf.inj p hp q hq (hlp.resolve_right ep) (hlq.resolve_right eq) hB
theorem Good.adopt {c : Ctx} {w : World} (hg : Good M w0 c h w) {b : Nat} {cells : Array Value} {e : TypeId} {v : AV} {n : Nat} (hb : w.heap[b]? = some (.cells cells e (0, 0))) (hn : aVS n cells.size e) (hv : aI c w v cells.toList) (hB : w0.heap.size ≤ b) (hS : ¬ c.S b)
  (hown : ∀ i o, h[i]? = some o → ownBlock c i o ≠ some b) : Good M w0 (c.push (.pointer (some ⟨b, 0, none⟩))) (h ++ [.box n v]) w ∧ dN c w (c.push (.pointer (some ⟨b, 0, none⟩))) w := by
 have hl : dN c w (c.push (.pointer (some ⟨b, 0, none⟩))) w := ⟨c.le_push _, .refl _ _⟩
 have hbl : b < w.heap.size := (Array.getElem?_eq_some_iff.1 hb).1
 have hhd : (c.push (.pointer (some ⟨b, 0, none⟩))).hd c.n = .pointer (some ⟨b, 0, none⟩) := by simp [Ctx.push]
 have hcase : ∀ i o', (h ++ [Obj.box n v])[i]? = some o' → (h[i]? = some o' ∧ i < c.n) ∨ (i = c.n ∧ o' = Obj.box n v) := fun i o' ho => by
  rw [hg.n]
  rcases Nat.lt_trichotomy i h.length with hlt | heq | hgt
  ·rw [List.getElem?_append_left hlt] at ho; exact .inl ⟨ho, hlt⟩
  ·subst heq; simp at ho; exact .inr ⟨rfl, ho.symm⟩
  ·rw [List.getElem?_append_right (by omega), List.getElem?_eq_none (by simp; omega)] at ho; cases ho
 refine ⟨⟨by simp [Ctx.push, hg.n], hg.keeps, hg.sfin, hg.src, fun i o' ho => ?_, fun i o' b' ho hbb => ?_, fun i j oi oj b' hi hj hbi hbj => ?_, aAb hg.root hl.le⟩, hl⟩
 ·rcases hcase i o' ho with ⟨ho, hi⟩ | ⟨rfl, rfl⟩
  ·exact (hg.objs i o' ho).keep hl hi (fun _ _ => rfl)
  ·exact ⟨b, cells, e, hhd, hb, hn, aI.keep hl.le hl.same _ _ hv⟩
 ·rcases hcase i o' ho with ⟨ho, hi⟩ | ⟨rfl, rfl⟩
  ·rw [bV hl.le hi] at hbb
   exact hg.own i o' b' ho hbb
  ·simp only [ownBlock, hhd, aQ, Option.some.injEq] at hbb
   subst hbb
   exact ⟨.inl hB, hbl, hS⟩
 ·rcases hcase i oi hi with ⟨hi', hin⟩ | ⟨ei, eo⟩ <;> rcases hcase j oj hj with ⟨hj', hjn⟩ | ⟨ej, eo'⟩
  ·rw [bV hl.le hin] at hbi
   rw [bV hl.le hjn] at hbj
   exact hg.sep i j oi oj b' hi' hj' hbi hbj
  ·subst ej; subst eo'
   rw [bV hl.le hin] at hbi
   simp only [ownBlock, hhd, aQ, Option.some.injEq] at hbj
   subst hbj
   exact absurd hbi (hown i oi hi')
  ·subst ei; subst eo
   rw [bV hl.le hjn] at hbj
   simp only [ownBlock, hhd, aQ, Option.some.injEq] at hbi
   subst hbi
   exact absurd hbj (hown j oj hj')
  ·rw [ei, ej]
theorem aWb {c : Ctx} {w : World} {ct : Ty} (hok : ct.okB = true) : aI c w (aCt ct) (nD ct).cells.toList ∧ (nD ct).cells.size = ct.cells := by
 refine ⟨(aE9 hok).1, ?_⟩
 rw [yZ hok]
 simp [nT hok]
theorem aJt (hE : gA P E) {a : Act} {w : World} : ∀ (al : List (Nat × TypeId × Nat)) (env : St) (h : List Obj) (c : Ctx) (B : Nat → Nat), Sim E M w0 nt ds c env h a w →
  (∀ p ∈ al, ∃ ct, E.T p.2.1 = some ct ∧ ct.okB = true ∧ a.tmps.getD p.2.2 Go.undef = .pointer (some ⟨B p.1, 0, none⟩) ∧ w0.heap.size ≤ B p.1 ∧ ¬ c.S (B p.1) ∧ w.heap[B p.1]? = some (.cells (nD ct).cells p.2.1 (0, 0)) ∧ ∀ i o, h[i]? = some o → ownBlock c i o ≠ some (B p.1)) →
  al.Pairwise (fun p q => B p.1 ≠ B q.1) → ∃ c', Sim E M w0 nt ds c' (oF E.T al env h).1 (oF E.T al env h).2 a w
 | [], env, h, c, B, hs, _, _ => ⟨c, hs⟩
 | (i, t, d) :: r, env, h, c, B, hs, hal, hpw => by
  obtain ⟨ct, q1, q2, q3, q4, q5, q6, q7⟩ := hal (i, t, d) (by simp)
  simp only at q1 q3 q4 q5 q6 q7
  obtain ⟨z1, z2⟩ := aWb (c := c) (w := w) q2
  obtain ⟨g1, g2⟩ := hs.good.adopt q6 (n := bxN t ct) (by rw [z2]; exact aTh t ct) z1 q4 q5 q7
  have hbox : aOv E.T t = .box (bxN t ct) (aCt ct) := by simp [aOv, q1]
  rw [List.pairwise_cons] at hpw
  have e1 : (c.push (.pointer (some ⟨B i, 0, none⟩))).hd c.n = .pointer (some ⟨B i, 0, none⟩) := by simp [Ctx.push]
  have hs' : Sim E M w0 nt ds (c.push (.pointer (some ⟨B i, 0, none⟩))) ((d, .ptr h.length []) :: env) (h ++ [aOv E.T t]) a w := by
   refine ⟨by rw [hbox]; exact g1, hs.glob.mono (fun _ h => h) (.refl _ _), fun t' => ?_, hs.size, hs.defers⟩
   simp only [look]
   split
   ·rename_i e
    subst e
    rw [q3, ← hs.good.n]
    exact ⟨⟨Nat.lt_succ_self c.n, B i, by rw [e1]; rfl, rfl⟩, (fun h => by cases h), (fun _ cs => by simp)⟩
   ·exact g2.val (hs.env t')
  refine aJt hE r _ _ _ B hs' (fun p hp => ?_) hpw.2
  obtain ⟨ct', p1, p2, p3, p4, p5, p6, p7⟩ := hal p (by simp [hp])
  refine ⟨ct', p1, p2, p3, p4, p5, p6, fun k o ho => ?_⟩
  rcases Nat.lt_trichotomy k h.length with hlt | heq | hgt
  ·rw [List.getElem?_append_left hlt] at ho
   rw [bV g2.le (by rw [hs.good.n]; exact hlt)]
   exact p7 k o ho
  ·subst heq
   simp at ho
   subst ho
   rw [hbox, ← hs.good.n]
   simp only [ownBlock, e1, aQ, ne_eq, Option.some.injEq]
   exact hpw.1 p hp
  ·rw [List.getElem?_append_right (by omega), List.getElem?_eq_none (by simp; omega)] at ho; cases ho
theorem aWc (hE : gA P E) {ops : List Oper} {Q : Exit → Act → World → Prop} (hok : ∀ o ∈ ops, eM nt o = true) {K : St → List Obj → Prop} {i : Nat} (hil : i < ops.length) {env : St} {h : List Obj} {c : Ctx} {a : Act} {w : World} (hs : pY E ops (ops.drop i) env h K) (hsim : Sim E M w0 nt ds c env h a w)
  {Kn : Act → World → Prop} (hn : ∀ env' h' c' a' w', pY E ops (ops.drop (i + 1)) env' h' K → Sim E M w0 nt ds c' env' h' a' w' → Kn a' w') : wpOp P ops.toArray Q i Kn a w := by
 rw [List.drop_eq_getElem_cons hil] at hs
 have hokO := hok ops[i] (List.getElem_mem hil)
 have hput : ∀ (v : Value) (av : AV), aP c w av v → Sim E M w0 nt ds c (tI ops[i].dst av env) h (a.put ops[i].dst v) w := fun v av hv => hsim.after hokO ⟨.refl _ _, hsim.good, hv⟩
 unfold wpOp
 simp only [List.getElem?_toArray, List.getElem?_eq_getElem hil]
 have hrun : ((tT E env h ops[i]).1 ∧ pY E ops (ops.drop (i + 1)) (tI ops[i].dst (tT E env h ops[i]).2.1 env) (tT E env h ops[i]).2.2 K) → Region.wanted ops[i] (yielded ops.toArray a.tmps) = true → (if Region.wanted ops[i] (yielded ops.toArray a.tmps) = true then Oper.wp P ops[i] a w Kn Q ∨ (ops[i].asks P a w ∧ LetsOut Q) else Kn (a.put ops[i].dst Go.undef) w) := fun ⟨h1, h2⟩ hw => by
  rw [if_pos hw]
  left
  refine (aDF hE hsim hokO h1).wp fun v w' c' ha => ?_
  exact hn _ _ c' _ w' h2 (hsim.after hokO ha)
 have hskip : pY E ops (ops.drop (i + 1)) (tI ops[i].dst .undef env) h K → Region.wanted ops[i] (yielded ops.toArray a.tmps) = false → (if Region.wanted ops[i] (yielded ops.toArray a.tmps) = true then Oper.wp P ops[i] a w Kn Q ∨ (ops[i].asks P a w ∧ LetsOut Q) else Kn (a.put ops[i].dst Go.undef) w) := fun h2 hw => by
  rw [if_neg (by rw [hw]; simp)]
  exact hn _ _ c _ w h2 (hput _ _ rfl)
 simp only [pY] at hs
 cases hgd : ops[i].guard with
 | none =>
  rw [hgd] at hs
  exact hrun hs (by simp [Region.wanted, hgd])
 | some jp =>
  obtain ⟨j, pol⟩ := jp
  rw [hgd] at hs
  simp only at hs
  cases hdj : aDW ops j with
  | none => rw [hdj] at hs; exact hs.elim
  | some dj =>
   rw [hdj] at hs
   simp only at hs
   have hv := hsim.env dj
   split at hs
   ·rename_i b hb
    rw [hb] at hv
    have hb' := aAY hv
    have hy := sT hok hsim.size hdj hb'
    simp only [yb] at hy
    by_cases e : b = pol
    ·exact hrun (hs.1 e) (by simp [Region.wanted, hgd, hy, e])
    ·have e' : b = !pol := by cases b <;> cases pol <;> simp_all
     exact hskip (hs.2 e') (by simp [Region.wanted, hgd, hy, e])
   ·rename_i hb
    rw [hb] at hv
    have hy := sT hok hsim.size hdj (v := Go.undef) hv
    exact hskip hs (by simp [Region.wanted, hgd, hy, Go.undef, yb])
   ·exact hs.elim
def aWd (o : Oper) (k : Nat) : Bool := o.after.toList.any fun e => Region.binds .any e && decide (e.on = k)
def aG6 : List Oper → List (List Nat) → List (List Nat)
 | [], acc => acc
 | o :: r, acc => aG6 r (acc ++ [(List.range acc.length).filter fun k => aWd o k || (List.range acc.length).any fun j => aWd o j && (acc.getD j []).contains k])
def aDX (n : Nat) (ops : List Oper) : Bool :=
 (ops.zipIdx.all fun p => p.1.after.toList.all fun e => !Region.binds .any e || decide (e.on < p.2)) &&
 ((aG6 ops []).zipIdx.all fun p => decide (p.2 < n) || (List.range p.2).all fun k => p.1.contains k)
theorem aOw {o : Oper} {k : Nat} : aWd o k = true ↔ ∃ e ∈ o.after, Region.binds .any e = true ∧ e.on = k := by
 simp only [aWd, List.any_eq_true, Bool.and_eq_true, decide_eq_true_eq, Array.mem_toList_iff]
theorem aOx {ops : List Oper} : ∀ (r : List Oper) (acc : List (List Nat)), acc.length + r.length = ops.length → (∀ j, ops[acc.length + j]? = r[j]?) →
  (∀ (i : Nat) (S : List Nat), acc[i]? = some S → ∀ k ∈ S, ∀ L : Nat → Prop, (∀ j o, ops[j]? = some o → L j → ∀ e ∈ o.after, Region.binds .any e = true → L e.on) → (∀ o, ops[i]? = some o → ∀ e ∈ o.after, Region.binds .any e = true → L e.on) → L k) →
  (aG6 r acc).length = ops.length ∧ ∀ (i : Nat) (S : List Nat), (aG6 r acc)[i]? = some S → ∀ k ∈ S, ∀ L : Nat → Prop, (∀ j o, ops[j]? = some o → L j → ∀ e ∈ o.after, Region.binds .any e = true → L e.on) → (∀ o, ops[i]? = some o → ∀ e ∈ o.after, Region.binds .any e = true → L e.on) → L k
 | [], acc, hl, _, h => ⟨by simpa [aG6] using hl, h⟩
 | o :: r, acc, hl, hr, h => by
  simp only [aG6]
  have ho : ops[acc.length]? = some o := by have := hr 0; simpa using this
  refine aOx r _ (by simp at hl ⊢; omega) (fun j => by have := hr (j + 1); simp only [List.length_append, List.length_singleton, List.getElem?_cons_succ] at this ⊢; rw [← this]; congr 1; omega) fun i S hS k hk L hL hi => ?_
  rcases Nat.lt_trichotomy i acc.length with hlt | heq | hgt
  ·rw [List.getElem?_append_left hlt] at hS
   exact h i S hS k hk L hL hi
  ·subst heq
   simp only [List.getElem?_concat_length, Option.some.injEq] at hS
   subst hS
   simp only [List.mem_filter, List.mem_range, Bool.or_eq_true, List.any_eq_true, Bool.and_eq_true] at hk
   obtain ⟨_, hk⟩ := hk
   rcases hk with hk | ⟨j, hj, hd, hc⟩
   ·obtain ⟨e, he, hb, rfl⟩ := aOw.1 hk
    exact hi o ho e he hb
   ·obtain ⟨e, he, hb, rfl⟩ := aOw.1 hd
    have hLj := hi o ho e he hb
    have hj : e.on < acc.length := hj
    have hS' : acc[e.on]? = some (acc.getD e.on []) := by rw [List.getD_eq_getElem?_getD, List.getElem?_eq_getElem hj]; rfl
    exact h e.on _ hS' k (by simpa using hc) L hL (fun o' ho' e' he' hb' => hL e.on o' ho' hLj e' he' hb')
  ·rw [List.getElem?_eq_none (by simp; omega)] at hS; cases hS
theorem gK {n : Nat} {ops : List Oper} (h : aDX n ops = true) {i : Nat} {o : Oper} (ho : ops[i]? = some o) : (∀ e ∈ o.after, Region.binds .any e = true → e.on < i) ∧
  (n ≤ i → ∀ L : Nat → Prop, (∀ j o, ops[j]? = some o → L j → ∀ e ∈ o.after, Region.binds .any e = true → L e.on) → (∀ e ∈ o.after, Region.binds .any e = true → L e.on) → ∀ k, k < i → L k) := by
 simp only [aDX, Bool.and_eq_true] at h
 obtain ⟨h1, h2⟩ := h
 refine ⟨fun e he hb => ?_, fun hn L hL hi k hk => ?_⟩
 ·have := List.all_eq_true.1 h1 (o, i) (by rw [List.mem_zipIdx_iff_getElem?]; exact ho)
  have := List.all_eq_true.1 this e (Array.mem_toList_iff.2 he)
  simpa [hb] using this
 ·obtain ⟨q1, q2⟩ := aOx (ops := ops) ops [] (by simp) (fun j => by simp) (fun i S hS => by simp at hS)
  have hil : i < ops.length := gK.get_lt' ho
  have hS : (aG6 ops [])[i]? = some ((aG6 ops [])[i]'(by omega)) := List.getElem?_eq_getElem _
  have := List.all_eq_true.1 h2 (_, i) (by rw [List.mem_zipIdx_iff_getElem?]; exact hS)
  simp only [Bool.or_eq_true, decide_eq_true_eq] at this
  have := List.all_eq_true.1 (this.resolve_left (by omega)) k (List.mem_range.2 hk)
  exact q2 i _ hS k (by simpa using this) L hL (fun o' ho' => by rw [ho] at ho'; cases ho'; exact hi)
where
 get_lt' {ops : List Oper} {i : Nat} {o : Oper} (ho : ops[i]? = some o) : i < ops.length := by
  rcases Nat.lt_or_ge i ops.length with h | h
  ·exact h
  ·rw [List.getElem?_eq_none h] at ho; cases ho
theorem aOy (hE : gA P E) {ops : List Oper} {Q : Exit → Act → World → Prop} (hok : ∀ o ∈ ops, eM nt o = true) {K : St → List Obj → Prop} (hK : ∀ env h c a w, K env h → Sim E M w0 nt ds c env h a w → Q .normal a w) {n : Nat} (ht : aDX n ops = true) :
  ∀ (m i : Nat), i + m = ops.length → n ≤ i → ∀ (listed : Array Bool), listed.size = ops.length → (∀ k, k < ops.length → (listed.getD k false = true ↔ k < i)) → ∀ (env : St) (h : List Obj) (c : Ctx) (a : Act) (w : World), pY E ops (ops.drop i) env h K → Sim E M w0 nt ds c env h a w → wpAny P .any ops.toArray Q m listed a w
 | 0, i, hi, hni, listed, hsz, hl, env, h, c, a, w, hs, hsim => by
  rw [List.drop_eq_nil_of_le (by omega)] at hs
  refine ⟨?_, hK env h c a w hs hsim⟩
  rw [List.eq_nil_iff_forall_not_mem]
  intro j hj
  obtain ⟨h1, o, ho, _⟩ := mem_ready.1 hj
  have ho : ops[j]? = some o := by simpa using ho
  have hjl := gK.get_lt' ho
  have := (hl j hjl).2 (by omega)
  have hlt : j < listed.size := by omega
  simp [hlt] at h1 this
  rw [this] at h1; cases h1
 | m + 1, i, hi, hni, listed, hsz, hl, env, h, c, a, w, hs, hsim => by
  have hil : i < ops.length := by omega
  have hio : ops[i]? = some ops[i] := List.getElem?_eq_getElem hil
  refine ⟨fun hr => ?_, fun j hj => ?_⟩
  ·exfalso
   have hmem : i ∈ Region.ready .any ops.toArray listed := by
    rw [mem_ready]
    have hlt : i < listed.size := by omega
    have hun : ¬ listed.getD i false = true := fun h => by have := (hl i hil).1 h; omega
    refine ⟨by simp [hlt] at hun ⊢; exact hun, ops[i], by simp [hil], fun e he hb => ?_⟩
    exact (hl _ (by have := (gK ht hio).1 e he hb; omega)).2 ((gK ht hio).1 e he hb)
   rw [hr] at hmem; cases hmem
  ·obtain ⟨h1, o, ho, hall⟩ := mem_ready.1 hj
   have ho : ops[j]? = some o := by simpa using ho
   have hjl := gK.get_lt' ho
   have hji : j = i := by
    rcases Nat.lt_trichotomy j i with hlt | heq | hgt
    ·have := (hl j hjl).2 hlt
     have hlt : j < listed.size := by omega
     simp [hlt] at h1 this
     rw [this] at h1; cases h1
    ·exact heq
    ·have := (gK ht ho).2 (by omega) (fun k => k < ops.length → listed.getD k false = true) (fun k o' ho' hk e he hb => fun hlt => by
      have hkl := gK.get_lt' ho'
      have h3 := (gK ht ho').1 e he hb
      have := (hl k hkl).1 (hk hkl)
      exact (hl _ hlt).2 (by omega)) (fun e he hb _ => hall e he hb) i hgt hil
     have := (hl i hil).1 this
     omega
   subst hji
   refine aWc hE hok hil hs hsim fun env' h' c' a' w' hs' hsim' => ?_
   refine aOy hE hok hK ht m (j + 1) (by omega) (by omega) (listed.setIfInBounds j true) (by simp [hsz]) (fun k hk => ?_) env' h' c' a' w' hs' hsim'
   by_cases e : j = k
   ·subst e
    have : j < listed.size := by omega
    simp [this]
   ·rw [getD_set_ne false e, hl k hk]
    omega
theorem aTR {pre tail : List Oper} {Q : Exit → Act → World → Prop} {i : Nat} {o : Oper} (ho : pre[i]? = some o) (hg : ∀ j p, o.guard = some (j, p) → j < pre.length) {K : Act → World → Prop} {a : Act} {w : World} (h : wpOp P pre.toArray Q i K a w) : wpOp P (pre ++ tail).toArray Q i K a w := by
 have hil : i < pre.length := gK.get_lt' ho
 have ho' : (pre ++ tail)[i]? = some o := by rw [List.getElem?_append_left hil]; exact ho
 have hw : Region.wanted o (yielded (pre ++ tail).toArray a.tmps) = Region.wanted o (yielded pre.toArray a.tmps) := by
  cases hgd : o.guard with
  | none => simp [Region.wanted, hgd]
  | some jp =>
   obtain ⟨j, p⟩ := jp
   have := hg j p hgd
   simp only [Region.wanted, hgd, yielded, List.getElem?_toArray, List.getElem?_append_left this]
 unfold wpOp at h ⊢
 simp only [List.getElem?_toArray, ho, ho'] at h ⊢
 rw [hw]; exact h
theorem aGd : ∀ (l : List Oper) (i : Nat), (eP l i).Pairwise (fun p q => p.1 < q.1)
 | [], i => List.Pairwise.nil
 | o :: r, i => by
  simp only [eP]
  split
  ·refine List.pairwise_cons.2 ⟨fun p hp => ?_, aGd r (i + 1)⟩
   obtain ⟨_, _, h, _⟩ := qZ hp
   simp only
   omega
  ·exact aGd r (i + 1)
theorem sU (n k : Nat) : (Array.replicate n false).getD k false = false := by
 by_cases h : k < n <;> simp [h]
theorem aMj (hE : gA P E) (hmix : P.follows .mixedOrders = true) {pre tail : List Oper} {Q : Exit → Act → World → Prop} (hok : ∀ o ∈ pre ++ tail, eM nt o = true) (hu : aAg pre = true) (hany : aJj pre = true) (ht : aDX pre.length (pre ++ tail) = true) {c : Ctx} {a : Act} {w : World} (hs : Sim E M w0 nt ds c env h a w) {K' : St → List Obj → Prop}
  (hv : vcA E h env pre 0 [] (fun acc => K' (oF E.T (eP pre 0) (kW acc env) h).1 (oF E.T (eP pre 0) (kW acc env) h).2))
  (htail : ∀ env h c a w (listed : Array Bool), listed.size = (pre ++ tail).length → (∀ k, k < (pre ++ tail).length → (listed.getD k false = true ↔ k < pre.length)) → K' env h → Sim E M w0 nt ds c env h a w → wpAny P .any (pre ++ tail).toArray Q tail.length listed a w) {id : Nat} : (Code.region id (pre ++ tail).toArray true).wp P Q a w := by
 obtain ⟨F, f1, f2, f3⟩ := aBu pre 0 [] _ hv
 have hF : rP E h env pre F := ⟨f1, fun i o ho => by have := f2 i o ho; simpa using this⟩
 simp only [Nat.zero_add] at f3
 refine wp_region_any hmix ?_
 have hlat : dN c w c { w with drawn := w.drawn + 1 } := ⟨.refl _, fun b hb => rfl⟩
 have hdr : Sim E M w0 nt ds c env h a { w with drawn := w.drawn + 1 } :=
  ⟨hs.good.step hlat rfl ⟨rfl, rfl, rfl, Nat.le_refl _, fun _ _ _ => rfl⟩ (fun _ _ _ _ _ => rfl) hs.good.sfin (fun _ hb => .inl hb), oD.mono (w := w) (w' := { w with drawn := w.drawn + 1 }) (fun _ hb => hb) hlat.same hs.glob, hs.env.keep hlat, hs.size, hs.defers⟩
 generalize ({ w with drawn := w.drawn + 1 } : World) = w at hdr
 clear hs hlat hv
 have hokp : ∀ o ∈ pre, eM nt o = true := fun o ho => hok o (by simp [ho])
 have hanyI : ∀ i o, pre[i]? = some o → (∀ e ∈ o.after, Region.binds .any e = true → e.on < i) ∧ (∀ j p, o.guard = some (j, p) → ∃ e ∈ o.after, Region.binds .any e = true ∧ e.on = j) ∧
   (∀ t, Operand.tmp t ∈ o.op.operands → ∀ k ok, pre[k]? = some ok → ok.dst = some t → k = i ∨ (k < i ∧ ∃ e ∈ o.after, Region.binds .any e = true ∧ e.on = k) ∨ (i < k ∧ ∃ e ∈ ok.after, Region.binds .any e = true ∧ e.on = i)) := by
  intro i o ho
  have hi : i < pre.length := by
   rcases Nat.lt_or_ge i pre.length with h | h
   ·exact h
   ·rw [List.getElem?_eq_none h] at ho; cases ho
  simp only [aJj, List.all_eq_true, List.mem_range] at hany
  have := hany i hi
  rw [ho] at this
  simp only [Bool.and_eq_true, List.all_eq_true, Array.mem_toList_iff] at this
  obtain ⟨⟨h1, h2⟩, h3⟩ := this
  refine ⟨fun e he hb => ?_, fun j p hg => ?_, fun t ht k ok hk hd => ?_⟩
  ·have := h1 e he
   simpa [hb] using this
  ·rw [hg] at h2
   simp only [List.any_eq_true, Bool.and_eq_true, decide_eq_true_eq, Array.mem_toList_iff] at h2
   exact h2
  ·have := h3 _ ht
   simp only [List.all_eq_true, List.mem_range] at this
   have hkl : k < pre.length := by
    rcases Nat.lt_or_ge k pre.length with h | h
    ·exact h
    ·rw [List.getElem?_eq_none h] at hk; cases hk
   have := this k hkl
   rw [hk] at this
   simp only [hd, ne_eq, not_true_eq_false, decide_false, Bool.false_or, Bool.or_eq_true, decide_eq_true_eq, Bool.and_eq_true, List.any_eq_true, Array.mem_toList_iff] at this
   rcases this with (h | h) | h
   ·exact .inl h
   ·exact .inr (.inl h)
   ·exact .inr (.inr h)
 have main : ∀ (cnt : Nat) (listed : Array Bool), listed.size = (pre ++ tail).length → ((List.range pre.length).filter fun k => !listed.getD k false).length = cnt → (∀ k, pre.length ≤ k → listed.getD k false = false) →
   (∀ k o, pre[k]? = some o → listed.getD k false = true → ∀ e ∈ o.after, Region.binds .any e = true → listed.getD e.on false = true) →
   ∀ (c' : Ctx) (a : Act) (w' : World) (B : Nat → Nat), Mid E M w0 nt ds h env pre F c w (fun k => listed.getD k false = true) c' a w' → aRq E.T (eP pre 0) w (fun k => listed.getD k false = true) c' a w' B → wpAny P .any (pre ++ tail).toArray Q (cnt + tail.length) listed a w' := by
  intro cnt
  induction cnt with
  | zero =>
   intro listed hsz hcnt hlate hcl c' a w' B hm hf
   have hall : ∀ k, k < pre.length → listed.getD k false = true := fun k hk => by
    have := List.eq_nil_of_length_eq_zero hcnt
    rw [List.filter_eq_nil_iff] at this
    have := this k (List.mem_range.2 hk)
    simpa using this
   have hsim := aM2 hF hdr.glob (wN (l2 := fun k => k < pre.length) (fun k hk => ⟨fun _ => hk, fun _ => hall k hk⟩) hF hm)
   obtain ⟨c2, hsim2⟩ := aJt hE (eP pre 0) _ _ _ B hsim (fun p hp => by
    obtain ⟨o, q1, _, q2, q3, q4⟩ := qZ hp
    simp only [Nat.sub_zero] at q1
    have hpl : p.1 < pre.length := gK.get_lt' q1
    obtain ⟨ct, r1, r2, r3, r4, r5, r6⟩ := hf.at_ p hp (hall _ hpl)
    obtain ⟨d, s1, s2, s3, s4⟩ := hF.step p.1 o q1
    have hcond := s3 (by rw [q3]; trivial)
    simp only [opA, pv, q2, r1] at hcond
    refine ⟨ct, r1, hcond, r2, Nat.le_trans hdr.good.keeps.size r3, r5, r6, fun i o' ho' e => ?_⟩
    rw [bV hm.later.le (by rw [hdr.good.n]; exact oM ho')] at e
    have := (hdr.good.own i o' _ ho' e).2.1
    omega) ((aGd pre 0).imp_of_mem fun {p q} hp hq hlt e => by
    obtain ⟨o, q1, _⟩ := qZ hp
    obtain ⟨o', q1', _⟩ := qZ hq
    simp only [Nat.sub_zero] at q1 q1'
    have := hf.inj p hp q hq (hall _ (gK.get_lt' q1)) (hall _ (gK.get_lt' q1')) e
    omega)
   rw [Nat.zero_add]
   refine htail _ _ c2 a w' listed hsz (fun k hk => ⟨fun hl => ?_, hall k⟩) f3 hsim2
   rcases Nat.lt_or_ge k pre.length with h | h
   ·exact h
   ·rw [hlate k h] at hl; cases hl
  | succ cnt ih =>
   intro listed hsz hcnt hlate hcl c' a w' B hm hf
   rw [show cnt + 1 + tail.length = (cnt + tail.length) + 1 from by omega]
   have hpl : ∀ k, k < pre.length → (pre ++ tail)[k]? = pre[k]? := fun k hk => List.getElem?_append_left hk
   refine ⟨fun hr => ?_, fun i hi => ?_⟩
   ·exfalso
    have hex : ∃ k, k < pre.length ∧ listed.getD k false = false := by
     have hne : ((List.range pre.length).filter fun k => !listed.getD k false) ≠ [] := fun e => by rw [e] at hcnt; cases hcnt
     obtain ⟨k, hk⟩ := List.exists_mem_of_ne_nil _ hne
     simp only [List.mem_filter, List.mem_range, Bool.not_eq_true'] at hk
     exact ⟨k, hk⟩
    have hmin : ∃ k, (k < pre.length ∧ listed.getD k false = false) ∧ ∀ j, j < k → ¬ (j < pre.length ∧ listed.getD j false = false) := by
     obtain ⟨k, hk⟩ := hex
     induction k using Nat.strongRecOn with
     | _ k ihk =>
      by_cases hh : ∃ j, j < k ∧ (j < pre.length ∧ listed.getD j false = false)
      ·obtain ⟨j, hj, hp⟩ := hh; exact ihk j hj hp
      ·exact ⟨k, hk, fun j hj hp => hh ⟨j, hj, hp⟩⟩
    obtain ⟨k, ⟨hk, hun⟩, hlow⟩ := hmin
    have hmem : k ∈ Region.ready .any (pre ++ tail).toArray listed := by
     rw [mem_ready]
     have hlt : k < listed.size := by rw [hsz]; simp; omega
     refine ⟨by simp [hlt] at hun ⊢; exact hun, pre[k], by rw [List.getElem?_toArray, hpl k hk]; exact List.getElem?_eq_getElem hk, fun e he hb => ?_⟩
     have := (hanyI k _ (List.getElem?_eq_getElem hk)).1 e he hb
     have hn := hlow e.on this
     by_cases hh : listed.getD e.on false = true
     ·exact hh
     ·exact absurd ⟨by omega, by simpa using hh⟩ hn
    rw [hr] at hmem; cases hmem
   ·obtain ⟨h1, o, ho, hall⟩ := mem_ready.1 hi
    have ho : (pre ++ tail)[i]? = some o := by simpa using ho
    have hil0 := gK.get_lt' ho
    have hex : ∃ k, k < pre.length ∧ listed.getD k false = false := by
     have hne : ((List.range pre.length).filter fun k => !listed.getD k false) ≠ [] := fun e => by rw [e] at hcnt; cases hcnt
     obtain ⟨k, hk⟩ := List.exists_mem_of_ne_nil _ hne
     simp only [List.mem_filter, List.mem_range, Bool.not_eq_true'] at hk
     exact ⟨k, hk⟩
    have hil : i < pre.length := by
     rcases Nat.lt_or_ge i pre.length with h | h
     ·exact h
     ·obtain ⟨k, hk, hun⟩ := hex
      have hk2 := (gK ht ho).2 h (fun k => listed.getD k false = true) (fun j o' ho' hj e he hb => by
       have hjp : j < pre.length := by
        rcases Nat.lt_or_ge j pre.length with h' | h'
        ·exact h'
        ·rw [hlate j h'] at hj; cases hj
       exact hcl j o' (by rw [← hpl j hjp]; exact ho') hj e he hb) (fun e he hb => hall e he hb) k (by omega)
      rw [hun] at hk2; cases hk2
    rw [hpl i hil] at ho
    have hlt : i < listed.size := by omega
    have hni : ¬ listed.getD i false = true := by simp [hlt] at h1 ⊢; exact h1
    obtain ⟨a1, a2, a3⟩ := hanyI i o ho
    obtain ⟨d, s1, _, _, _⟩ := hF.step i _ ho
    have hokO := hokp o (List.mem_of_getElem? ho)
    refine aTR ho (fun j p hg => ?_) ?_
    ·obtain ⟨e, he, hb, hon⟩ := a2 j p hg
     have := a1 e he hb
     omega
    refine aJi hE hF hokp hdr.glob hm ho hni (fun t ht k ok hk hd => ?_) (fun j p hg => ?_) (fun k ok hk hd => aIG hu ho hk hd (by rw [s1]; simp)) fun c'' a'' w'' hm' hx => ?_
    ·rcases a3 t ht k ok hk hd with h | ⟨h, e, he, hb, hon⟩ | ⟨h, e, he, hb, hon⟩
     ·exact ⟨fun h' => by omega, fun h' => by omega⟩
     ·exact ⟨fun _ => hon ▸ hall e he hb, fun h' => by omega⟩
     ·exact ⟨fun h' => by omega, fun _ hkl => hni (hon ▸ hcl k ok hk hkl e he hb)⟩
    ·obtain ⟨e, he, hb, hon⟩ := a2 j p hg
     exact hon ▸ hall e he hb
    ·have hset : ∀ k, (listed.setIfInBounds i true).getD k false = true ↔ (listed.getD k false = true ∨ k = i) := fun k => by
      by_cases e : i = k
      ·subst e; simp [hlt]
      ·rw [getD_set_ne false e]
       exact ⟨.inl, fun h => h.resolve_right (fun h => e h.symm)⟩
     obtain ⟨B', hf'⟩ := hf.step ho (by rw [hm.size]; exact hokO) hu hni (by rw [s1]; simp) hm.good.sfin hx
     refine ih (listed.setIfInBounds i true) (by simp [hsz]) ?_ (fun k hk => ?_) (fun k o' hk hkl e he hb => ?_) c'' a'' w'' B' (wN (fun k _ => (hset k).symm) hF hm') ⟨hf'.size, fun p hp hl => hf'.at_ p hp ((hset _).1 hl), fun p hp q hq hl1 hl2 => hf'.inj p hp q hq ((hset _).1 hl1) ((hset _).1 hl2)⟩
     ·have hfil : ((List.range pre.length).filter fun k => !(listed.setIfInBounds i true).getD k false) = ((List.range pre.length).filter fun k => !listed.getD k false).filter (fun k => decide (k ≠ i)) := by
       rw [List.filter_filter]
       apply List.filter_congr
       intro k _
       rw [Bool.eq_iff_iff]
       by_cases e : k = i
       ·subst e; simp [hlt]
       ·have h2 : (listed.setIfInBounds i true).getD k false = listed.getD k false := getD_set_ne false (fun h => e h.symm)
        rw [h2]
        simp [e]
      rw [hfil]
      have hnd : ((List.range pre.length).filter fun k => !listed.getD k false).Nodup := List.nodup_range.filter _
      have hmem : i ∈ ((List.range pre.length).filter fun k => !listed.getD k false) := by
       simp only [List.mem_filter, List.mem_range]
       exact ⟨hil, by simpa using hni⟩
      have := hnd.erase_eq_filter i
      have e2 : (((List.range pre.length).filter fun k => !listed.getD k false).filter (fun k => decide (k ≠ i))) = ((List.range pre.length).filter fun k => !listed.getD k false).erase i := by
       rw [this]
       apply List.filter_congr
       intro k _
       by_cases e : k = i <;> simp [e]
      rw [e2, List.length_erase_of_mem hmem, hcnt]; rfl
     ·rw [getD_set_ne false (by omega)]; exact hlate k hk
     ·rcases (hset k).1 hkl with h | h
      ·exact (hset _).2 (.inl (hcl k o' hk h e he hb))
      ·subst h
       rw [ho] at hk
       cases hk
       exact (hset _).2 (.inl (hall e he hb))
 have hstart := main pre.length (Array.replicate (pre ++ tail).length false) (by simp) (by
   rw [List.filter_eq_self.2 (fun k _ => by rw [sU]; rfl)]; simp) (fun k _ => sU _ _) (fun k o ho hl => by rw [sU] at hl; cases hl) c a w (fun _ => 0) (wN (fun k hk => ⟨False.elim, fun h => by rw [sU] at h; cases h⟩) hF (aF9 hdr)) ⟨Nat.le_refl _, (fun p hp hl => by rw [sU] at hl; cases hl), (fun p hp q hq hl => by rw [sU] at hl; cases hl)⟩
 simpa using hstart
theorem aTS (hE : gA P E) (hmix : P.follows .mixedOrders = true) {pre tail : List Oper} {Q : Exit → Act → World → Prop} (hok : ∀ o ∈ pre ++ tail, eM nt o = true) (hu : aAg pre = true) (hany : aJj pre = true) (ht : aDX pre.length (pre ++ tail) = true) {c : Ctx} {a : Act} {w : World} (hs : Sim E M w0 nt ds c env h a w) {K' : St → List Obj → Prop}
  (hv : vcA E h env pre 0 [] (fun acc => pY E (pre ++ tail) tail (oF E.T (eP pre 0) (kW acc env) h).1 (oF E.T (eP pre 0) (kW acc env) h).2 K')) (hK : ∀ env h c a w, K' env h → Sim E M w0 nt ds c env h a w → Q .normal a w) {id : Nat} : (Code.region id (pre ++ tail).toArray true).wp P Q a w :=
 aMj hE hmix hok hu hany ht hs (K' := fun env h => pY E (pre ++ tail) tail env h K') hv fun env h c a w listed hsz hl hk hsim =>
  aOy hE hok hK ht tail.length pre.length (by simp) (Nat.le_refl _) listed hsz hl env h c a w (by rw [List.drop_left]; exact hk) hsim
end
end Go.Vc
namespace Go.Vc
open Go.RowKit
def aYr : List Obj → List (Nat × Obj) → List Obj
 | h, [] => h
 | h, (i, o) :: r => aYr (h.set i o) r
def aEw (env : St) (keep : List Nat) (u : St) : St := u ++ keep.map fun t => (t, look env t)
theorem aTT {α : Type} (a s : α) : (List.replicate 1 a).set 0 s = [s] := rfl
theorem aTU {α : Type} (a s k : α) : ((List.replicate 2 a).set 0 s).set 1 k = [s, k] := rfl
theorem aTV {α : Type} (a s k m : α) : (((List.replicate 3 a).set 0 s).set 1 k).set 2 m = [s, k, m] := rfl
def elB (P : Program) (l : List (TypeId × Ty)) (el : TypeId → TypeId) : Bool := l.all fun p => match p.2 with
 | .sl _ => match P.underlying p.1 with
  | some (.slice e) => decide (e = el p.1)
  | _ => false
 | _ => true
theorem aWe {P : Program} {l : List (TypeId × Ty)} {el : TypeId → TypeId} (h : elB P l el = true) : ∀ t ct, aDS l t = some (.sl ct) → P.underlying t = some (.slice (el t)) := fun t ct ht => by
 have := List.all_eq_true.1 h _ (aL5 ht)
 simp only at this
 split at this
 ·rename_i e he; rw [he, of_decide_eq_true this]
 ·cases this
section
variable {F : Fr} {Q : Exit → Act → World → Prop} {env : St} {h : List Obj}
theorem aSB {x : Code} (hx : Tri F x (Exit.noGoto Q) env h) : Tri F (.scope x) Q env h := fun hok c a w hs =>
 wp_scope_straight (hx (by simpa [fE] using hok) c a w hs)
end
end Go.Vc
namespace Go.Vc
open Go.RowKit
structure Pan where
 k : TypeId
 t : Ty
 x : t.den
inductive aXK where
 | ret (v : AV) (h : List Obj)
 | pan (p : Pan) (h : List Obj)
structure mY where
 D : Type
 av : D → List AV
 hp : D → List Obj
 m : Nat
 pre : D → Prop
 out : D → aXK
def GM (sp : mY) (c : Ctx) (d : sp.D) : Perm := ⟨fun b => ∃ i o, (sp.hp d)[i]? = some o ∧ ownBlock c i o = some b, c.S, sp.m, c.hd⟩
structure GIn (G : Nat → AV) (sp : mY) (c : Ctx) (w : World) (d : sp.D) (vs : List Value) : Prop where
 good : Good (GM sp c d) w c (sp.hp d) w
 glob : oD G c.S w
 len : vs.length = (sp.av d).length
 val : ∀ i (h1 : i < (sp.av d).length) (h2 : i < vs.length), aP c w (sp.av d)[i] vs[i]
def aK4 (k : TypeId) (u : Value) : List PanicEntry := [{ v := .iface k u, recovered := false, goexit := false }]
def aGe (sp : mY) (c : Ctx) (w : World) (d : sp.D) (e : Ending) (w' : World) : Prop :=
 ∃ c', match sp.out d with
  | .ret v h' => ∃ u, e = .returned u ∧ Good (GM sp c d) w c' h' w' ∧ aP c' w' v u
  | .pan p h' => ∃ u, e = .panicked (aK4 p.k u) ∧ Good (GM sp c d) w c' h' w' ∧ cU w' c'.S p.t p.x u
def GOK (P : Program) (G : Nat → AV) (f : FuncId) (sp : mY) : Prop :=
 ∀ (c : Ctx) (w : World) (d : sp.D) (vs : Array Value), sp.pre d → GIn G sp c w d vs.toList → Calls P f vs w (aGe sp c w d)
def aP5 (μ : List Nat) : List Nat → Option (List Nat)
 | [] => some []
 | i :: r => match μ[i]?, aP5 μ r with
  | some j, some l => some (j :: l)
  | _, _ => none
def aFc (μ : List Nat) : AV → AV
 | .own i => match μ[i]? with
  | some j => .own j
  | none => .junk
 | .ptr i p => match μ[i]? with
  | some j => .ptr j p
  | none => .junk
 | .sub i s off n => match μ[i]? with
  | some j => .sub j s off n
  | none => .junk
 | .mp i => match μ[i]? with
  | some j => .mp j
  | none => .junk
 | .fn f l1 l2 => match aP5 μ l1, aP5 μ l2 with
  | some l1, some l2 => .fn f l1 l2
  | _, _ => .junk
 | .agg _ => .junk
 | .flat _ => .junk
 | .tup _ => .junk
 | v => v
def aBx (μ : List Nat) : AV → AV
 | .agg vs => .agg (vs.map (aFc μ))
 | v => aFc μ v
def emb (μ : List Nat) : AV → AV
 | .tup vs => .tup (vs.map (aBx μ))
 | v => aBx μ v
def aJu (μ : List Nat) : Obj → Obj
 | .box n v => .box n (aBx μ v)
 | o => o
def tV : List Nat → List Obj → List Obj
 | [], h => h
 | i :: r, h => tV r (h.set i .dead)
def zA : List (Nat × Obj) → List Obj → List Obj
 | [], h => h
 | (i, o) :: r, h => zA r (h.set i o)
def vH (σ : List Nat) (m n k : Nat) : List Nat := σ.take m ++ List.range' n (k - m)
def aBy (σ : List Nat) (m : Nat) (h h' : List Obj) : List Obj :=
 zA ((σ.take m).zip ((h'.take m).map (aJu (vH σ m h.length h'.length)))) (tV (σ.drop m) h) ++ (h'.drop m).map (aJu (vH σ m h.length h'.length))
section
variable {P : Program} {E : Env} {M : Perm} {w0 : World} {c c' : Ctx} {h : List Obj} {w w' : World}
structure Emb (μ : List Nat) (c' cN : Ctx) : Prop where
 S : ∀ b, c'.S b → cN.S b
 hd : ∀ i j, μ[i]? = some j → j < cN.n ∧ cN.hd j = c'.hd i
theorem aM9 {μ : List Nat} {cN : Ctx} (he : Emb μ c' cN) : ∀ {l l' : List Nat}, aP5 μ l = some l' → (∀ j ∈ l', j < cN.n) ∧ l'.map cN.hd = l.map c'.hd
 | [], l', h => by simp [aP5] at h; subst h; exact ⟨(fun j hj => by cases hj), rfl⟩
 | i :: r, l', h => by
  simp only [aP5] at h
  split at h
  ·rename_i j l h1 h2
   cases h
   obtain ⟨q1, q2⟩ := he.hd i j h1
   obtain ⟨k1, k2⟩ := aM9 he h2
   refine ⟨fun k hk => ?_, by simp [q2, k2]⟩
   rcases List.mem_cons.1 hk with rfl | hk
   ·exact q1
   ·exact k1 k hk
  ·cases h
theorem aJv {μ : List Nat} {cN : Ctx} (he : Emb μ c' cN) : ∀ {v : AV} {cs : List Value}, aI c' w v cs → aI cN w (aFc μ v) cs := by
 intro v cs hr
 have hS : c'.le ⟨cN.S, c'.hd, c'.n⟩ := ⟨he.S, Nat.le_refl _, fun _ _ => rfl⟩
 cases v <;> simp only [aFc] <;> (try trivial)
 case own i =>
  split
  ·rename_i j hp
   obtain ⟨q1, q2⟩ := he.hd i j hp
   simp only [aI] at hr ⊢
   rw [q2]
   exact ⟨q1, hr.2⟩
  ·trivial
 case ptr i p =>
  split
  ·rename_i j hp
   obtain ⟨q1, q2⟩ := he.hd i j hp
   simp only [aI] at hr ⊢
   rw [q2]
   exact ⟨q1, hr.2⟩
  ·trivial
 case sub i s off n =>
  split
  ·rename_i j hp
   obtain ⟨q1, q2⟩ := he.hd i j hp
   simp only [aI] at hr ⊢
   rw [q2]
   exact ⟨q1, hr.2⟩
  ·trivial
 case mp i =>
  split
  ·rename_i j hp
   obtain ⟨q1, q2⟩ := he.hd i j hp
   simp only [aI] at hr ⊢
   rw [q2]
   exact ⟨q1, hr.2⟩
  ·trivial
 case fn f l1 l2 =>
  split
  ·rename_i l1' l2' h1 h2
   obtain ⟨q1, q2⟩ := aM9 he h1
   obtain ⟨k1, k2⟩ := aM9 he h2
   simp only [aI] at hr ⊢
   rw [q2, k2]
   exact ⟨q1, k1, hr.2.2⟩
  ·trivial
 case val t x => exact aS.keep he.S (.refl _ _) t x cs hr
 case full t xs =>
  simp only [aI] at hr ⊢
  obtain ⟨a, n, e, hs⟩ := hr
  exact ⟨a, n, e, hs.keep he.S (.refl _ _) (fun x cs => aS.keep he.S (.refl _ _) t x cs)⟩
 case roa t x =>
  simp only [aI] at hr ⊢
  obtain ⟨b, off, ds, e, hb, hd, hc⟩ := hr
  exact ⟨b, off, ds, e, he.S b hb, aS.keep he.S (.refl _ _) t x ds hd, hc⟩
 all_goals exact hr
theorem aOz {μ : List Nat} {cN : Ctx} (he : Emb μ c' cN) : ∀ {vs : List AV} {cs : List Value}, jX c' w vs cs → jX cN w (vs.map (aFc μ)) cs
 | [], _, hr => hr
 | v :: r, _, ⟨c1, c2, e, h1, h2⟩ => ⟨c1, c2, e, aJv he h1, aOz he h2⟩
theorem aJw {μ : List Nat} {cN : Ctx} (he : Emb μ c' cN) {v : AV} {cs : List Value} (hr : aI c' w v cs) : aI cN w (aBx μ v) cs := by
 cases v
 case agg vs => exact aOz he hr
 all_goals exact aJv he hr
theorem aTW (μ : List Nat) (v : AV) : aBx μ v = .junk ∨ (aBx μ v).isAgg = v.isAgg := by
 cases v <;> simp only [aBx, aFc] <;> first | exact .inr trivial | exact .inl trivial | exact .inr rfl | exact .inl rfl | (split <;> simp [AV.isAgg])
theorem aMk {μ : List Nat} {cN : Ctx} (he : Emb μ c' cN) {v : AV} {x : Value} (hr : sQ c' w v x) (hj : aBx μ v ≠ .junk) : sQ cN w (aBx μ v) x := by
 have ha := (aTW μ v).resolve_left hj
 exact ⟨aJw he hr.1, by rw [ha]; exact hr.2.1, by rw [ha]; exact hr.2.2⟩
theorem aXL (μ : List Nat) (v : AV) : aBx μ v = .undef → v = .undef := by
 cases v <;> simp only [aBx, aFc] <;> first | exact fun _ => trivial | (intro h; cases h; done) | (intro h; rfl) | (intro h; split at h <;> cases h)
theorem aWf (μ : List Nat) (v : AV) (vs : List AV) : aBx μ v ≠ .tup vs := by
 cases v <;> simp only [aBx, aFc] <;> first | (intro h; cases h; done) | (intro h; split at h <;> cases h)
theorem aWg {μ : List Nat} {cN : Ctx} (he : Emb μ c' cN) {v : AV} {x : Value} (hr : aP c' w v x) (hj : ∀ vs, v = .tup vs → ∀ u ∈ vs, aBx μ u ≠ .junk) : aP cN w (emb μ v) x := by
 have main : ∀ v, (∀ vs, v ≠ .tup vs) → v ≠ .junk → v ≠ .undef → sQ c' w v x → aP cN w (aBx μ v) x := fun v ht hn hu h1 => by
  by_cases hjk : aBx μ v = .junk
  ·rw [hjk]; trivial
  ·have := aMk he h1 hjk
   have e1 := aXL μ v
   have e2 := aWf μ v
   generalize aBx μ v = u at this e1 e2 hjk
   cases u <;> first | exact this | exact absurd rfl hjk | exact absurd (e1 rfl) hu | exact absurd rfl (e2 _)
 cases v
 case junk => trivial
 case undef => exact hr
 case tup vs =>
  obtain ⟨xs, hx, hl, hv⟩ := hr
  refine ⟨xs, hx, by simpa using hl, fun i h1 h2 => ?_⟩
  simp only [List.length_map] at h1
  simp only [List.getElem_map]
  exact aMk he (hv i h1 h2) (hj vs rfl _ (List.getElem_mem h1))
 all_goals exact main _ (by simp) (by simp) (by simp) hr
theorem Good.rebase (hg : Good M w0 c h w) {m : Nat} (hm : m ≤ c.n) : Good ⟨fun b => ∃ i o, h[i]? = some o ∧ ownBlock c i o = some b, c.S, m, c.hd⟩ w c h w :=
 ⟨hg.n, .refl _ _, hg.sfin, fun b hb _ => .inl hb, hg.objs, fun i o b ho hb => ⟨.inr ⟨i, o, ho, hb⟩, (hg.own i o b ho hb).2⟩, hg.sep, hm, fun _ _ => rfl⟩
end
end Go.Vc
namespace Go.Vc
open Go.RowKit
theorem aAE : ∀ (l : List (Nat × Obj)) (h : List Obj), (zA l h).length = h.length
 | [], h => rfl
 | (i, o) :: r, h => by rw [zA, aAE r]; simp
theorem tW : ∀ (l : List Nat) (h : List Obj), (tV l h).length = h.length
 | [], h => rfl
 | i :: r, h => by rw [tV, tW r]; simp
theorem aEx : ∀ (l : List (Nat × Obj)) (h : List Obj) (i : Nat), (∀ p ∈ l, p.1 ≠ i) → (zA l h)[i]? = h[i]?
 | [], h, i, _ => rfl
 | (j, o) :: r, h, i, hn => by
  rw [zA, aEx r _ i (fun p hp => hn p (by simp [hp])), List.getElem?_set_ne (hn (j, o) (by simp))]
theorem aMl : ∀ (l : List (Nat × Obj)) (h : List Obj), (l.map (·.1)).Nodup → (∀ p ∈ l, p.1 < h.length) → ∀ p ∈ l, (zA l h)[p.1]? = some p.2
 | [], h, _, _, p, hp => by cases hp
 | (j, o) :: r, h, hd, hl, p, hp => by
  simp only [List.map_cons, List.nodup_cons] at hd
  rcases List.mem_cons.1 hp with rfl | hp
  ·have : j < h.length := hl (j, o) (by simp)
   rw [zA, aEx r _ j (fun q hq e => hd.1 (List.mem_map.2 ⟨q, hq, e⟩))]
   simp [this]
  ·rw [zA]
   exact aMl r _ hd.2 (fun q hq => by rw [List.length_set]; exact hl q (by simp [hq])) p hp
theorem aCM : ∀ (l : List Nat) (h : List Obj) (i : Nat), i ∉ l → (tV l h)[i]? = h[i]?
 | [], h, i, _ => rfl
 | j :: r, h, i, hn => by
  simp only [List.mem_cons, not_or] at hn
  rw [tV, aCM r _ i hn.2, List.getElem?_set_ne (fun e => hn.1 e.symm)]
theorem aFd : ∀ (l : List Nat) (h : List Obj) (i : Nat) (o : Obj), i ∈ l → (tV l h)[i]? = some o → o = .dead
 | [], h, i, o, hi, _ => by cases hi
 | j :: r, h, i, o, hi, ho => by
  rw [tV] at ho
  by_cases hr : i ∈ r
  ·exact aFd r _ i o hr ho
  ·rw [aCM r _ i hr] at ho
   have : i = j := by rcases List.mem_cons.1 hi with h | h; exact h; exact absurd h hr
   subst this
   by_cases hl : i < h.length
   ·simp [hl] at ho; exact ho.symm
   ·rw [List.getElem?_eq_none (by simp; omega)] at ho; cases ho
section
variable {P : Program} {E : Env} {M : Perm} {w0 : World} {c c' : Ctx} {h h' : List Obj} {w w' : World}
def cN (c c' : Ctx) (m n' : Nat) : Ctx := ⟨fun b => c.S b ∨ c'.S b, fun i => if i < c.n then c.hd i else c'.hd (m + (i - c.n)), c.n + (n' - m)⟩
theorem aYs (c c' : Ctx) (m n' : Nat) : c.le (cN c c' m n') := ⟨fun b hb => .inl hb, Nat.le_add_right _ _, fun i hi => by simp [cN, hi]⟩
theorem Good.frame (hg : Good M w0 c h w) {σ : List Nat} {m : Nat} (hd : σ.Nodup) (hσ : ∀ i ∈ σ, i < h.length) (hm : m ≤ σ.length) {Ml : Perm} (hMr : Ml.rd = c.S) (hMw : ∀ b, Ml.wr b → ∃ i o, i ∈ σ ∧ h[i]? = some o ∧ ownBlock c i o = some b) (hMm : Ml.m = m) (hMd : ∀ j, j < m → Ml.roots j = c.hd (σ.getD j 0))
  (hg' : Good Ml w c' h' w') : Good M w0 (cN c c' m h'.length) (aBy σ m h h') w' ∧ dN c w (cN c c' m h'.length) w' ∧ Emb (vH σ m h.length h'.length) c' (cN c c' m h'.length) := by
 have hk := hg'.keeps
 have hroot := hg'.root
 rw [hMm] at hroot
 have hmn : m ≤ h'.length := by rw [← hg'.n]; exact hroot.1
 have hwrS : ∀ b, Ml.wr b → b < w.heap.size ∧ ¬ c.S b ∧ (w0.heap.size ≤ b ∨ M.wr b) := fun b hb => by
  obtain ⟨i, o, hi, ho, hob⟩ := hMw b hb
  obtain ⟨h1, h2, h3⟩ := hg.own i o b ho hob
  exact ⟨h2, h3, h1⟩
 have hlS : wJ c.S w w' := fun b hb => hk.block b (hg.sfin b hb) (fun hw => (hwrS b hw).2.1 hb)
 have hl : dN c w (cN c c' m h'.length) w' := ⟨aYs _ _ _ _, hlS⟩
 have hmu : ∀ j i, (vH σ m h.length h'.length)[j]? = some i → (j < m ∧ i = σ.getD j 0 ∧ i < h.length ∧ i ∈ σ) ∨ (m ≤ j ∧ i = h.length + (j - m) ∧ j < h'.length) := fun j i hj => by
  unfold vH at hj
  have hlt : (σ.take m).length = m := by rw [List.length_take]; omega
  by_cases hjm : j < m
  ·rw [List.getElem?_append_left (by rw [hlt]; exact hjm), List.getElem?_take, if_pos hjm] at hj
   have hmem := List.mem_of_getElem? hj
   exact .inl ⟨hjm, by simp [List.getD_eq_getElem?_getD, hj], hσ i hmem, hmem⟩
  ·rw [List.getElem?_append_right (by rw [hlt]; omega), hlt] at hj
   obtain ⟨hlt', e⟩ := List.getElem?_eq_some_iff.1 hj
   simp only [List.length_range'] at hlt'
   rw [List.getElem_range'] at e
   exact .inr ⟨by omega, by omega, by omega⟩
 have hhd : ∀ j i, (vH σ m h.length h'.length)[j]? = some i → i < (cN c c' m h'.length).n ∧ (cN c c' m h'.length).hd i = c'.hd j := fun j i hj => by
  rcases hmu j i hj with ⟨h1, h2, h3, _⟩ | ⟨h1, h2, h3⟩
  ·refine ⟨by simp only [cN]; rw [hg.n]; omega, ?_⟩
   simp only [cN, hg.n, h3, if_true]
   rw [hroot.2 j h1, hMd j h1, h2]
  ·refine ⟨by simp only [cN]; rw [hg.n]; omega, ?_⟩
   simp only [cN, hg.n]
   rw [if_neg (by omega), h2]
   congr 1; omega
 have hemb : Emb (vH σ m h.length h'.length) c' (cN c c' m h'.length) := ⟨fun b hb => .inr hb, hhd⟩
 have hcase : ∀ i o, (aBy σ m h h')[i]? = some o → (i ∉ σ ∧ h[i]? = some o) ∨ o = .dead ∨ ∃ j oj, h'[j]? = some oj ∧ (vH σ m h.length h'.length)[j]? = some i ∧ o = aJu (vH σ m h.length h'.length) oj := fun i o ho => by
  unfold aBy at ho
  have hlen : (zA ((σ.take m).zip ((h'.take m).map (aJu (vH σ m h.length h'.length)))) (tV (σ.drop m) h)).length = h.length := by rw [aAE, tW]
  have hmul : (vH σ m h.length h'.length).length = h'.length := by
   unfold vH; simp [List.length_take]; omega
  rcases Nat.lt_or_ge i h.length with hi | hi
  ·rw [List.getElem?_append_left (by rw [hlen]; exact hi)] at ho
   by_cases hin : ∃ j, j < m ∧ σ[j]? = some i
   ·obtain ⟨j, hj, hji⟩ := hin
    have hjh : j < h'.length := by omega
    have hmem : (i, aJu (vH σ m h.length h'.length) h'[j]) ∈ (σ.take m).zip ((h'.take m).map (aJu (vH σ m h.length h'.length))) := by
     refine List.mem_iff_getElem?.2 ⟨j, ?_⟩
     rw [List.getElem?_zip_eq_some]
     refine ⟨by rw [List.getElem?_take, if_pos hj]; exact hji, ?_⟩
     rw [List.getElem?_map, List.getElem?_take, if_pos hj, List.getElem?_eq_getElem hjh]; rfl
    have := aMl _ (tV (σ.drop m) h) (by
     have : ((σ.take m).zip ((h'.take m).map (aJu (vH σ m h.length h'.length)))).map (·.1) = σ.take m := by
      rw [List.map_fst_zip]; simp [List.length_take]; omega
     rw [this]; exact hd.sublist (List.take_sublist _ _)) (fun p hp => by
     rw [tW]
     have := (List.of_mem_zip hp).1
     exact hσ _ (List.mem_of_mem_take this)) _ hmem
    simp only at this
    rw [this] at ho
    cases ho
    refine .inr (.inr ⟨j, h'[j], List.getElem?_eq_getElem hjh, ?_, rfl⟩)
    unfold vH
    rw [List.getElem?_append_left (by rw [List.length_take]; omega), List.getElem?_take, if_pos hj]; exact hji
   ·rw [aEx _ _ i (fun p hp e => by
     have := (List.of_mem_zip hp).1
     rw [e] at this
     obtain ⟨j, hj, hji⟩ := List.mem_take_iff_getElem.1 this
     exact hin ⟨j, by omega, by rw [List.getElem?_eq_getElem (by omega), hji]⟩)] at ho
    by_cases hdrop : i ∈ σ.drop m
    ·exact .inr (.inl (aFd _ _ i o hdrop ho))
    ·rw [aCM _ _ i hdrop] at ho
     refine .inl ⟨fun hmem => ?_, ho⟩
     rw [← List.take_append_drop m σ] at hmem
     rcases List.mem_append.1 hmem with hmem | hmem
     ·obtain ⟨j, hj, hji⟩ := List.mem_take_iff_getElem.1 hmem
      exact hin ⟨j, by omega, by rw [List.getElem?_eq_getElem (by omega), hji]⟩
     ·exact hdrop hmem
  ·rw [List.getElem?_append_right (by rw [hlen]; exact hi), hlen, List.getElem?_map, List.getElem?_drop] at ho
   cases hoj : h'[m + (i - h.length)]? with
   | none => rw [hoj] at ho; simp at ho
   | some oj =>
    rw [hoj] at ho
    simp only [Option.map_some, Option.some.injEq] at ho
    have hjl := oM hoj
    refine .inr (.inr ⟨m + (i - h.length), oj, hoj, ?_, ho.symm⟩)
    unfold vH
    rw [List.getElem?_append_right (by rw [List.length_take]; omega), List.length_take, Nat.min_eq_left hm, List.getElem?_range' (by omega)]
    congr 1; omega
 have hobj : ∀ j oj i, h'[j]? = some oj → (vH σ m h.length h'.length)[j]? = some i → aHM (cN c c' m h'.length) w' i (aJu (vH σ m h.length h'.length) oj) := fun j oj i hj hi => by
  have hr := hg'.objs j oj hj
  have hS : c'.le ⟨(cN c c' m h'.length).S, c'.hd, c'.n⟩ := ⟨hemb.S, Nat.le_refl _, fun _ _ => rfl⟩
  have e := (hhd j i hi).2
  cases oj with
  | dead => trivial
  | box n v =>
   obtain ⟨b, cells, et, q1, q2, q3, q4⟩ := hr
   exact ⟨b, cells, et, by rw [e]; exact q1, q2, q3, aJw hemb q4⟩
  | row et t xs =>
   obtain ⟨vals, q1, q2⟩ := hr
   exact ⟨vals, by rw [e]; exact q1, aS.keep hemb.S (.refl _ _) _ _ _ q2⟩
  | frz t xs =>
   show aS _ _ _ _ _
   rw [e]
   exact aS.keep hemb.S (.refl _ _) _ _ _ hr
  | map k v mm =>
   obtain ⟨b, es, clock, q1, q2, q3, q4⟩ := hr
   exact ⟨b, es, clock, by rw [e]; exact q1, q2, q3, fun x h1 h2 => ⟨(q4 x h1 h2).1.keep hemb.S (.refl _ _), (q4 x h1 h2).2.keep hemb.S (.refl _ _)⟩⟩
 have hown : ∀ j oj i b, h'[j]? = some oj → (vH σ m h.length h'.length)[j]? = some i → ownBlock (cN c c' m h'.length) i (aJu (vH σ m h.length h'.length) oj) = some b → ownBlock c' j oj = some b := fun j oj i b hj hi hb => by
  have e := (hhd j i hi).2
  cases oj <;> simp only [ownBlock, aJu, e] at hb ⊢ <;> exact hb
 have hfar : ∀ i o b j oj, i ∉ σ → h[i]? = some o → ownBlock c i o = some b → h'[j]? = some oj → ownBlock c' j oj ≠ some b := fun i o b j oj hi ho hb hj e => by
  have h1 := (hg.own i o b ho hb).2.1
  rcases (hg'.own j oj b hj e).1 with h2 | h2
  ·omega
  ·obtain ⟨i', o', hi', ho', hb'⟩ := hMw b h2
   exact hi (hg.sep i i' o o' b ho ho' hb hb' ▸ hi')
 have hfarS : ∀ i o b, i ∉ σ → h[i]? = some o → ownBlock c i o = some b → ¬ c'.S b := fun i o b hi ho hb hS => by
  have h1 := (hg.own i o b ho hb).2
  rcases hg'.src b hS h1.1 with h2 | h2
  ·rw [hMr] at h2; exact h1.2 h2
  ·obtain ⟨i', o', hi', ho', hb'⟩ := hMw b h2
   exact hi (hg.sep i i' o o' b ho ho' hb hb' ▸ hi')
 refine ⟨⟨?_, ⟨hk.os.trans hg.keeps.os, hk.tape.trans hg.keeps.tape, hk.output.trans hg.keeps.output, Nat.le_trans hg.keeps.size hk.size, fun b hb hM => ?_⟩, fun b hb => ?_, fun b hb hlt => ?_, fun i o ho => ?_, fun i o b ho hb => ?_, fun i k oi ok b hi hk' hbi hbk => ?_, aAb hg.root hl.le⟩, hl, hemb⟩
 ·unfold aBy cN
  simp only [List.length_append, aAE, tW, List.length_map, List.length_drop, hg.n]
 ·have hbw : b < w.heap.size := Nat.lt_of_lt_of_le hb hg.keeps.size
  rw [hk.block b hbw (fun hw => ?_)]
  ·exact hg.keeps.block b hb hM
  ·rcases (hwrS b hw).2.2 with h1 | h1
   ·omega
   ·exact hM h1
 ·rcases hb with hb | hb
  ·exact Nat.lt_of_lt_of_le (hg.sfin b hb) hk.size
  ·exact hg'.sfin b hb
 ·rcases hb with hb | hb
  ·exact hg.src b hb hlt
  ·rcases hg'.src b hb (Nat.lt_of_lt_of_le hlt hg.keeps.size) with h1 | h1
   ·rw [hMr] at h1; exact hg.src b h1 hlt
   ·rcases (hwrS b h1).2.2 with h2 | h2
    ·omega
    ·exact .inr h2
 ·rcases hcase i o ho with ⟨hi, ho⟩ | rfl | ⟨j, oj, hj, hij, rfl⟩
  ·exact (hg.objs i o ho).keep hl (by rw [hg.n]; exact oM ho) (fun b hb => hk.block b (hg.own i o b ho hb).2.1 (fun hw => by
    obtain ⟨i', o', hi', ho', hb'⟩ := hMw b hw
    exact hi (hg.sep i i' o o' b ho ho' hb hb' ▸ hi')))
  ·trivial
  ·exact hobj j oj i hj hij
 ·rcases hcase i o ho with ⟨hi, ho⟩ | rfl | ⟨j, oj, hj, hij, rfl⟩
  ·rw [bV hl.le (by rw [hg.n]; exact oM ho)] at hb
   obtain ⟨h1, h2, h3⟩ := hg.own i o b ho hb
   refine ⟨h1, Nat.lt_of_lt_of_le h2 hk.size, fun hS => ?_⟩
   rcases hS with hS | hS
   ·exact h3 hS
   ·exact hfarS i o b hi ho hb hS
  ·cases hb
  ·have hb := hown j oj i b hj hij hb
   obtain ⟨h1, h2, h3⟩ := hg'.own j oj b hj hb
   refine ⟨?_, h2, fun hS => ?_⟩
   ·rcases h1 with h1 | h1
    ·exact .inl (Nat.le_trans hg.keeps.size h1)
    ·exact (hwrS b h1).2.2
   ·rcases hS with hS | hS
    ·rcases h1 with h1 | h1
     ·have := hg.sfin b hS; omega
     ·exact (hwrS b h1).2.1 hS
    ·exact h3 hS
 ·rcases hcase i oi hi with ⟨hi, ho⟩ | rfl | ⟨j, oj, hj, hij, rfl⟩
  ·rw [bV hl.le (by rw [hg.n]; exact oM ho)] at hbi
   rcases hcase k ok hk' with ⟨hk2, ho2⟩ | rfl | ⟨j2, oj2, hj2, hij2, rfl⟩
   ·rw [bV hl.le (by rw [hg.n]; exact oM ho2)] at hbk
    exact hg.sep i k oi ok b ho ho2 hbi hbk
   ·cases hbk
   ·exact absurd (hown j2 oj2 k b hj2 hij2 hbk) (hfar i oi b j2 oj2 hi ho hbi hj2)
  ·cases hbi
  ·have hbi := hown j oj i b hj hij hbi
   rcases hcase k ok hk' with ⟨hk2, ho2⟩ | rfl | ⟨j2, oj2, hj2, hij2, rfl⟩
   ·rw [bV hl.le (by rw [hg.n]; exact oM ho2)] at hbk
    exact absurd hbi (hfar k ok b j oj hk2 ho2 hbk hj)
   ·cases hbk
   ·have hbk := hown j2 oj2 k b hj2 hij2 hbk
    have := hg'.sep j j2 oj oj2 b hj hj2 hbi hbk
    subst this
    rw [hij] at hij2
    cases hij2; rfl
end
end Go.Vc
namespace Go.Vc
open Go.RowKit
structure Hit where
 sp : mY
 σ : List Nat
 d : sp.D
def aGf (h : List Obj) (σ : List Nat) : List AV → List AV → Prop
 | [], [] => True
 | v :: r, .val t x :: r' => AV.as (h.map gX) t v = some x ∧ aGf h σ r r'
 | v :: r, u :: r' => ren σ v = u ∧ aGf h σ r r'
 | _, _ => False
def aXn (n : Nat) (σ : List Nat) : Bool := σ.all fun i => decide (i < n)
def nU : AV → Bool
 | .junk => false
 | _ => true
def aXM (μ : List Nat) : AV → Bool
 | .tup vs => vs.all fun u => nU (aBx μ u)
 | _ => true
def aJx (h : List Obj) (vs : List AV) (t : Hit) : Prop :=
 tU t.σ = true ∧ aXn h.length t.σ = true ∧ t.sp.m ≤ t.σ.length ∧ aGf h t.σ vs (t.sp.av t.d) ∧ t.σ.map (fun i => oE t.σ (h.getD i .dead)) = t.sp.hp t.d ∧ t.sp.pre t.d
def aSC (o : aXK) (k : AV → List Obj → Prop) (kp : Pan → List Obj → Prop) : Prop :=
 match o with
 | .ret v h => k v h
 | .pan p h => kp p h
theorem aTX (v : AV) (h : List Obj) (k : AV → List Obj → Prop) (kp : Pan → List Obj → Prop) : aSC (.ret v h) k kp = k v h := rfl
theorem aTY (p : Pan) (h : List Obj) (k : AV → List Obj → Prop) (kp : Pan → List Obj → Prop) : aSC (.pan p h) k kp = kp p h := rfl
theorem aTZ (c : Prop) [Decidable c] (a b : aXK) (k : AV → List Obj → Prop) (kp : Pan → List Obj → Prop) : aSC (if c then a else b) k kp = ((c → aSC a k kp) ∧ (¬ c → aSC b k kp)) := by
 by_cases h : c <;> simp [h]
def aA4 (G : Nat → AV) (env : St) (h : List Obj) (o : Oper) : Option (FuncId × List AV) :=
 match o.op with
 | .call c => match c.callee with
  | .value x => match evA G env x with
   | .fn f [] l2 => if aCG h l2 = true then some (f, c.args.toList.map (evA G env) ++ l2.map fun i => .ptr i []) else none
   | .val (.clo g t) y => if pM t = true then some (g, c.args.toList.map (evA G env) ++ tP t y) else none
   | _ => none
  | _ => none
 | _ => none
def aRr (Δ : FuncId → List AV → List Obj → Option Hit) (h : List Obj) : Option (FuncId × List AV) → Option Hit
 | some (f, vs) => Δ f vs h
 | none => none
def aP6 : Option (FuncId × List AV) → List AV
 | some (_, vs) => vs
 | none => []
def aMm (G : Nat → AV) (env : St) (o : Oper) : Option Pan :=
 match o.op with
 | .call c => match c.callee with
  | .builtin .panic => match c.args.toList with
   | [x] => match evA G env x with
    | .val (.ifc k t) d => some ⟨k, t, d⟩
    | _ => none
   | _ => none
  | _ => none
 | .panic x => match evA G env x with
  | .val (.ifc k t) d => some ⟨k, t, d⟩
  | _ => none
 | _ => none
def aGg (T : Tab) (h : List Obj) (t : TypeId) (x : AV) (lo hi : Option AV) : Prop × AV :=
 match x with
 | .own i => match h[i]? with
  | some (.row _ c xs) => match (lo.map xS).getD (some 0), (hi.map xS).getD (some (xs.length : Int)) with
   | some l, some u => (T t = some (.sl c) ∧ 0 ≤ l ∧ l < u ∧ u ≤ (xs.length : Int), .sub i c.cells l.toNat (u - l).toNat)
   | _, _ => (False, .junk)
  | _ => (False, .junk)
 | .ptr i [] => match h[i]? with
  | some (.box _ (.val (.arr n c) _)) => match (lo.map xS).getD (some 0), (hi.map xS).getD (some (n : Int)) with
   | some l, some u => (T t = some (.arr n c) ∧ 0 ≤ l ∧ l < u ∧ u ≤ (n : Int), .sub i c.cells l.toNat (u - l).toNat)
   | _, _ => (False, .junk)
  | _ => (False, .junk)
 | _ => (False, .junk)
noncomputable def aMn (E : Env) (sb : List Nat) (env : St) (h : List Obj) (o : Oper) : Prop × AV × List Obj :=
 match o.op, o.dst with
 | .slice t x lo hi none, some d => bif sb.contains d then ((aGg E.T h t (evA E.G env x) (lo.map (evA E.G env)) (hi.map (evA E.G env))).1, (aGg E.T h t (evA E.G env x) (lo.map (evA E.G env)) (hi.map (evA E.G env))).2, h) else tT E env h o
 | _, _ => tT E env h o
def aJy (E : Env) (Δ : FuncId → List AV → List Obj → Option Hit) (sb : List Nat) (env : St) (h : List Obj) (o : Oper) (k : AV → List Obj → Prop) (kp : Pan → List Obj → Prop) : Prop :=
 match aRr Δ h (aA4 E.G env h o) with
 | some t => aJx h (aP6 (aA4 E.G env h o)) t ∧ aSC (t.sp.out t.d) (fun v h' => aXM (vH t.σ t.sp.m h.length h'.length) v = true ∧ k (emb (vH t.σ t.sp.m h.length h'.length) v) (aBy t.σ t.sp.m h h')) (fun p h' => kp p (aBy t.σ t.sp.m h h'))
 | none => match aMm E.G env o with
  | some p => kp p h
  | none => match aMn E sb env h o with
   | (p, v, h') => p ∧ k v h'
def aCn (E : Env) (Δ : FuncId → List AV → List Obj → Option Hit) (sb : List Nat) (all : List Oper) : List Oper → St → List Obj → (St → List Obj → Prop) → (Pan → St → List Obj → Prop) → Prop
 | [], env, h, K, _ => K env h
 | o :: r, env, h, K, Kp => match o.guard with
  | none => aJy E Δ sb env h o (fun v h' => aCn E Δ sb all r (tI o.dst v env) h' K Kp) (fun p h' => Kp p env h')
  | some (j, pol) => match aDW all j with
   | some dj => match look env dj with
    | .val .bool b => (b = pol → aJy E Δ sb env h o (fun v h' => aCn E Δ sb all r (tI o.dst v env) h' K Kp) (fun p h' => Kp p env h')) ∧ (b = !pol → aCn E Δ sb all r (tI o.dst .undef env) h K Kp)
    | .undef => aCn E Δ sb all r (tI o.dst .undef env) h K Kp
    | _ => False
   | none => False
structure aEy (P : Program) (G : Nat → AV) (Δ : FuncId → List AV → List Obj → Option Hit) : Prop where
 ok : ∀ f vs h t, Δ f vs h = some t → GOK P G f t.sp
 fn : ∀ f vs h t, Δ f vs h = some t → ∃ fn, P.funcs[f]? = some fn ∧ fn.name ≠ "runtime.NumGoroutine" ∧ fn.body.isSome = true
section
variable {P : Program} {E : Env} {M : Perm} {w0 : World} {c : Ctx} {h : List Obj} {w : World}
theorem aRs : ∀ {l : List Nat}, tU l = true → l.Nodup
 | [], _ => List.nodup_nil
 | i :: r, h => by
  simp only [tU, Bool.and_eq_true, Bool.not_eq_true'] at h
  refine List.nodup_cons.2 ⟨fun hm => ?_, aRs h.2⟩
  have hc : r.contains i = true := by simpa using hm
  rw [h.1] at hc
  cases hc
theorem aMo (hg : Good M w0 c h w) {σ : List Nat} : ∀ {vs us : List AV} {xs : List Value}, aGf h σ vs us → vs.length = xs.length → (∀ i (h1 : i < vs.length) (h2 : i < xs.length), aP c w vs[i] xs[i]) →
  xs.length = us.length ∧ ∀ i (h1 : i < us.length) (h2 : i < xs.length), aP (c.ren σ) w us[i] xs[i]
 | [], [], [], _, _, _ => ⟨rfl, fun i h1 => by simp at h1⟩
 | v :: r, u :: r', x :: xs, hf, hl, hv => by
  have h0 := hv 0 (by simp) (by simp)
  simp only [List.getElem_cons_zero] at h0
  have key : aP (c.ren σ) w u x ∧ aGf h σ r r' := by
   cases u with
   | val t d =>
    obtain ⟨h1, h2⟩ := hf
    exact ⟨aP.ofV (qY hg h0 h1), h2⟩
   | _ =>
    obtain ⟨h1, h2⟩ := hf
    exact ⟨h1 ▸ aIK h0, h2⟩
  obtain ⟨q1, q2⟩ := aMo hg key.2 (by simpa using hl) (fun i h1 h2 => by have := hv (i + 1) (by simpa using h1) (by simpa using h2); simpa using this)
  refine ⟨by simp [q1], fun i h1 h2 => ?_⟩
  cases i with
  | zero => exact key.1
  | succ i => exact q2 i (by simpa using h1) (by simpa using h2)
def aYt (M : Perm) (w0 : World) (c : Ctx) (h : List Obj) (w : World) (t : Hit) (e : Ending) (w' : World) : Prop :=
 ∃ cN, dN c w cN w' ∧ match t.sp.out t.d with
  | .ret v h' => ∃ u, e = .returned u ∧ Good M w0 cN (aBy t.σ t.sp.m h h') w' ∧ (aXM (vH t.σ t.sp.m h.length h'.length) v = true → aP cN w' (emb (vH t.σ t.sp.m h.length h'.length) v) u)
  | .pan p h' => ∃ u, e = .panicked (aK4 p.k u) ∧ Good M w0 cN (aBy t.σ t.sp.m h h') w' ∧ cU w' cN.S p.t p.x u
theorem aMp {C : (Ending → World → Prop) → Prop} (hC : ∀ R R' : Ending → World → Prop, C R → (∀ e w', R e w' → R' e w') → C R') {G : Nat → AV} {t : Hit} {vs : List AV} {xs : Array Value} (hok : t.sp.pre t.d → GIn G t.sp (c.ren t.σ) w t.d xs.toList → C (aGe t.sp (c.ren t.σ) w t.d)) (hg : Good M w0 c h w) (hG : oD G c.S w) (hl : vs.length = xs.size) (hv : ∀ i (h1 : i < vs.length) (h2 : i < xs.toList.length), aP c w vs[i] xs.toList[i]) (hh : aJx h vs t) :
  C (aYt M w0 c h w t) := by
 obtain ⟨h1, h2, h3, h4, h5, h6⟩ := hh
 have hσ : ∀ i ∈ t.σ, i < h.length := fun i hi => by
  have := List.all_eq_true.1 h2 i hi
  simpa using this
 have g0 := hg.rebase (m := 0) (Nat.zero_le _)
 have g1 := g0.ren (σ := t.σ) h1 (by rfl)
 have hcn : (c.ren t.σ).n = t.σ.length := rfl
 have g2 := g1.rebase (m := t.sp.m) (by rw [hcn]; exact h3)
 rw [h5] at g2
 obtain ⟨q1, q2⟩ := aMo (xs := xs.toList) hg h4 (by simpa using hl) hv
 have hin : GIn G t.sp (c.ren t.σ) w t.d xs.toList := ⟨g2, hG, q1, q2⟩
 refine hC _ _ (hok h6 hin) ?_
 rintro e w' ⟨c', hend⟩
 have hfr : ∀ h', Good (GM t.sp (c.ren t.σ) t.d) w c' h' w' → Good M w0 (Vc.cN c c' t.sp.m h'.length) (aBy t.σ t.sp.m h h') w' ∧ dN c w (Vc.cN c c' t.sp.m h'.length) w' ∧ Emb (vH t.σ t.sp.m h.length h'.length) c' (Vc.cN c c' t.sp.m h'.length) := fun h' hg' =>
  hg.frame (aRs h1) hσ h3 (Ml := GM t.sp (c.ren t.σ) t.d) rfl (fun b hb => by
   obtain ⟨j, o', ho, hob⟩ := hb
   rw [← h5, List.getElem?_map] at ho
   cases hj : t.σ[j]? with
   | none => rw [hj] at ho; cases ho
   | some i =>
    rw [hj] at ho
    simp only [Option.map_some, Option.some.injEq] at ho
    subst ho
    rw [xU hj] at hob
    have hi := hσ i (List.mem_of_getElem? hj)
    exact ⟨i, h[i], List.mem_of_getElem? hj, List.getElem?_eq_getElem hi, by simpa [List.getD_eq_getElem?_getD, hi] using hob⟩) rfl (fun j _ => rfl) hg'
 cases hout : t.sp.out t.d with
 | ret v h' =>
  rw [hout] at hend
  obtain ⟨u, rfl, hg', hu⟩ := hend
  obtain ⟨f1, f2, f3⟩ := hfr h' hg'
  refine ⟨_, f2, ?_⟩
  rw [hout]
  refine ⟨u, rfl, f1, fun hb => aWg f3 hu fun vs hvs a ha => ?_⟩
  subst hvs
  have := List.all_eq_true.1 hb a ha
  intro hj
  rw [hj] at this
  cases this
 | pan p h' =>
  rw [hout] at hend
  obtain ⟨u, rfl, hg', hu⟩ := hend
  obtain ⟨f1, f2, f3⟩ := hfr h' hg'
  refine ⟨_, f2, ?_⟩
  rw [hout]
  exact ⟨u, rfl, f1, hu.keep f3.S (.refl _ _)⟩
theorem aT0 {G : Nat → AV} {f : FuncId} {t : Hit} (hok : GOK P G f t.sp) (hg : Good M w0 c h w) (hG : oD G c.S w) {vs : List AV} {xs : Array Value} (hl : vs.length = xs.size) (hv : ∀ i (h1 : i < vs.length) (h2 : i < xs.toList.length), aP c w vs[i] xs.toList[i]) (hh : aJx h vs t) :
  Calls P f xs w (aYt M w0 c h w t) :=
 aMp (C := Calls P f xs w) (fun R R' h k => h.mono k) (fun hp hin => hok _ _ _ _ hp hin) hg hG hl hv hh
def AtP (F : Fr) (Q : Exit → Act → World → Prop) (p : Pan) (env : St) (h : List Obj) : Prop :=
 ∀ c a w u, Sim F.E F.M F.w0 F.nt F.ds c env h a w → cU w c.S p.t p.x u → Q (.panic (aK4 p.k u)) a w
theorem aSD (hE : gA P E) {nt : Nat} {ds : List Deferred} {env : St} {a : Act} (hs : Sim E M w0 nt ds c env h a w) {o : Oper} (hok : eM nt o = true) {f : FuncId} {vs : List AV} (hc : aA4 E.G env h o = some (f, vs)) (hfn : ∃ fn, P.funcs[f]? = some fn ∧ fn.name ≠ "runtime.NumGoroutine" ∧ fn.body.isSome = true) :
  ∃ xs : Array Value, (execOp a.eval o).run P w = .ok (.enter f xs) w ∧ vs.length = xs.size ∧ ∀ i (h1 : i < vs.length) (h2 : i < xs.toList.length), aP c w vs[i] xs.toList[i] := by
 obtain ⟨dst, op, ty, pos, aft, gd⟩ := o
 unfold aA4 at hc
 split at hc
 ·rename_i cl hop
  simp only at hop
  subst hop
  obtain ⟨callee, args, argTypes⟩ := cl
  simp only at hc
  simp only [eM, Bool.and_eq_true] at hok
  have hall : ∀ x ∈ (Op.call ⟨callee, args, argTypes⟩).operands, jQ x = true := Array.all_eq_true_iff_forall_mem.1 hok.1
  have hargs : ∀ x ∈ args.toList, aP c w (evA E.G env x) (a.eval x) := fun x hx => yU hs.env hs.glob (hall x (by
   simp only [Op.operands, Call.operands]
   exact Array.mem_append.2 (.inr (by simpa using hx))))
  have hav := aBt (ρ := evA E.G env) (a := a) (c := c) (w := w) hargs
  split at hc
  ·rename_i x
   have hx := yU hs.env hs.glob (hall x (by simp [Op.operands, Call.operands]))
   have fin : ∀ (g : FuncId) (us : List Value) (cv : List AV), a.eval x = .func (.func g) #[] us.toArray → us.length = cv.length → (∀ i (h1 : i < cv.length) (h2 : i < us.length), aP c w cv[i] us[i]) → f = g → vs = args.toList.map (evA E.G env) ++ cv →
     ∃ xs : Array Value, (execOp a.eval ⟨dst, .call ⟨.value x, args, argTypes⟩, ty, pos, aft, gd⟩).run P w = .ok (.enter f xs) w ∧ vs.length = xs.size ∧ ∀ i (h1 : i < vs.length) (h2 : i < xs.toList.length), aP c w vs[i] xs.toList[i] := fun g us cv hf hul huv e1 e2 => by
    subst e1
    subst e2
    refine ⟨(args.toList.map a.eval ++ us).toArray, ?_, by simp [hul], fun i h1 h2 => ?_⟩
    ·have hrun := xT (P := P) (w := w) (args := (args.toList.map a.eval ++ us).toArray) hfn
     have e2 : args.map a.eval ++ us.toArray = (args.toList.map a.eval ++ us).toArray := by rw [← Array.toList_inj]; simp
     simp [execOp, resolve, Deferred.ofValue, hf, invoke]
     rw [e2]
     exact hrun
    ·have key : ∀ i (h1 : i < (args.toList.map (evA E.G env) ++ cv).length) (h2 : i < (args.toList.map a.eval ++ us).length), aP c w (args.toList.map (evA E.G env) ++ cv)[i] (args.toList.map a.eval ++ us)[i] := fun i h1 h2 => by
      by_cases hi : i < args.toList.length
      ·rw [List.getElem_append_left (by simpa using hi), List.getElem_append_left (by simpa using hi)]
       exact hav i (by simpa using hi) (by simpa using hi)
      ·rw [List.getElem_append_right (by simpa using hi), List.getElem_append_right (by simpa using hi)]
       have := huv (i - args.toList.length) (by simp at h1 hi ⊢; omega) (by simp at h2 hi ⊢; omega)
       simpa using this
     exact key i h1 h2
   split at hc
   ·rename_i g l2 hev
    split at hc
    ·rename_i hbx
     simp only [Option.some.injEq, Prod.mk.injEq] at hc
     rw [hev] at hx
     obtain ⟨h1, h2⟩ := aRg hx
     exact fin g (l2.map c.hd) (l2.map fun i => .ptr i []) h2 (by simp) (aJb hs.good hbx h1) hc.1.symm hc.2.symm
    ·cases hc
   ·rename_i g t y hev
    split at hc
    ·rename_i hcp
     simp only [Option.some.injEq, Prod.mk.injEq] at hc
     rw [hev] at hx
     obtain ⟨us, h1, h2⟩ := aOk hx
     obtain ⟨k1, k2⟩ := aJc hcp h2
     exact fin g us (tP t y) h1 k1 k2 hc.1.symm hc.2.symm
    ·cases hc
   ·cases hc
  ·cases hc
 ·cases hc
theorem aRt {nt : Nat} {ds : List Deferred} {env : St} {a : Act} (hs : Sim E M w0 nt ds c env h a w) {o : Oper} (hok : eM nt o = true) {p : Pan} (hc : aMm E.G env o = some p) :
  ∃ u, (execOp a.eval o).run P w = .halt (.panic (.iface p.k u)) w ∧ cU w c.S p.t p.x u := by
 obtain ⟨dst, op, ty, pos, aft, gd⟩ := o
 simp only [eM, Bool.and_eq_true] at hok
 unfold aMm at hc
 split at hc
 ·rename_i cl hop
  simp only at hop
  subst hop
  obtain ⟨callee, args, argTypes⟩ := cl
  simp only at hc
  have hall : ∀ x ∈ (Op.call ⟨callee, args, argTypes⟩).operands, jQ x = true := Array.all_eq_true_iff_forall_mem.1 hok.1
  split at hc
  ·split at hc
   ·rename_i x hx
    split at hc
    ·rename_i k t d hev
     cases hc
     have hxm : x ∈ args.toList := by rw [hx]; simp
     have hv := yU hs.env hs.glob (hall x (by
      simp only [Op.operands, Call.operands]
      exact Array.mem_append.2 (.inr (by simpa using hxm))))
     rw [hev] at hv
     obtain ⟨u, hu, hr⟩ := aJe hv
     have e3 : args = #[x] := by rw [← Array.toList_inj]; exact hx
     refine ⟨u, ?_, hr⟩
     simp [execOp, resolve, invoke, builtin, e3, hu, Instr.panic, goPanic]
    ·cases hc
   ·cases hc
  ·cases hc
 ·rename_i x hop
  simp only at hop
  subst hop
  have hall : ∀ y ∈ (Op.panic x).operands, jQ y = true := Array.all_eq_true_iff_forall_mem.1 hok.1
  split at hc
  ·rename_i k t d hev
   cases hc
   have hv := yU hs.env hs.glob (hall x (by simp [Op.operands]))
   rw [hev] at hv
   obtain ⟨u, hu, hr⟩ := aJe hv
   refine ⟨u, ?_, hr⟩
   simp [execOp, hu, Instr.panic, goPanic]
  ·cases hc
 ·cases hc
end
end Go.Vc
namespace Go.Vc
open Go.RowKit
section
variable {P : Program} {E : Env} {M : Perm} {w0 : World} {c : Ctx} {h : List Obj} {w : World}
theorem Sim.step {nt : Nat} {ds : List Deferred} {env : St} {a : Act} (hs : Sim E M w0 nt ds c env h a w) {h' : List Obj} {c' : Ctx} {w' : World} (hl : dN c w c' w') (hg : Good M w0 c' h' w') : Sim E M w0 nt ds c' env h' a w' :=
 ⟨hg, hs.glob.mono hl.le.S hl.same, hs.env.keep hl, hs.size, hs.defers⟩
theorem aWh (hT : gZ P E.T) (hg : Good M w0 c h w) {t : TypeId} {x : AV} {v : Value} {lo hi : Option AV} {lv hv : Option Value} (hx : aP c w x v) (hlo : aK0 c w lo lv) (hhi : aK0 c w hi hv) (hc : (aGg E.T h t x lo hi).1) :
  ∃ u, (Instr.sliceAt t v lv hv none).run P w = .ok u w ∧ aP c w (aGg E.T h t x lo hi).2 u := by
 unfold aGg at hc ⊢
 split at hc
 ·rename_i i
  split at hc
  ·rename_i e ct xs ho
   split at hc
   ·rename_i l u hl hu
    obtain ⟨ht, h0, h1, h2⟩ := hc
    obtain ⟨hi', rfl⟩ := aAe hx
    obtain ⟨vals, ⟨_, hv'⟩, _⟩ := hg.objs i _ ho
    obtain ⟨e', hd, he, hpos⟩ := gG (hT _ _ ht)
    rcases hv' with ⟨_, hz⟩ | ⟨g, cap, cur, hv0, _, _, hle, hcap, _⟩
    ·omega
    have hb : (Instr.sliceBounds true xs.length cap lv hv none).run P w = .ok (l.toNat, u.toNat, cap) w := by
     cases lo with
     | none =>
      cases lv with
      | some _ => cases hlo
      | none =>
       simp at hl
       subst hl
       cases hi with
       | none =>
        cases hv with
        | some _ => cases hhi
        | none =>
         simp at hu
         subst hu
         simp [Instr.sliceBounds]
       | some ha =>
        cases hv with
        | none => cases hhi
        | some hv =>
         simp at hu
         obtain ⟨k, rfl⟩ := (by cases hhi with | some hh => exact xF hh hu : ∃ k, hv = Value.int k u)
         simp [Instr.sliceBounds, dZ (P := P) (w := w) (i := u) (y := cap) (by omega) (by omega)]
     | some la =>
      cases lv with
      | none => cases hlo
      | some lv =>
       simp at hl
       obtain ⟨k, rfl⟩ := (by cases hlo with | some hh => exact xF hh hl : ∃ k, lv = Value.int k l)
       cases hi with
       | none =>
        cases hv with
        | some _ => cases hhi
        | none =>
         simp at hu
         subst hu
         simp [Instr.sliceBounds, dZ (P := P) (w := w) (i := l) (y := xs.length) (by omega) (by omega)]
       | some ha =>
        cases hv with
        | none => cases hhi
        | some hv =>
         simp at hu
         obtain ⟨k', rfl⟩ := (by cases hhi with | some hh => exact xF hh hu : ∃ k, hv = Value.int k u)
         simp [Instr.sliceBounds, dZ (P := P) (w := w) (i := u) (y := cap) (by omega) (by omega), dZ (P := P) (w := w) (i := l) (y := u.toNat) h0 (by omega)]
    have hne : ¬ cap = l.toNat := by omega
    refine ⟨.slice (some ⟨g, l.toNat * ct.cells, none⟩) (u.toNat - l.toNat) (cap - l.toNat), ?_, ?_⟩
    ·rw [hv0]
     simp [Instr.sliceAt, Instr.slice, aU hd, hb, gS (hT _ _ he), hne, Addr.add]
     exact Eq.symm
    ·refine ⟨?_, (fun h => by simp [AV.isAgg] at h), (fun _ cs => by simp)⟩
     simp only [aI]
     refine ⟨hi', by omega, g, cap - l.toNat, by rw [hv0]; rfl, ?_⟩
     simp [Value.cells]
     omega
   ·exact hc.elim
  ·exact hc.elim
 ·rename_i i
  split at hc
  ·rename_i m n ct xs ho
   split at hc
   ·rename_i l u hl hu
    obtain ⟨ht, h0, h1, h2⟩ := hc
    obtain ⟨hi', b, hb', rfl⟩ := aAd hx
    obtain ⟨e', hd, he, hpos, hn1, hn2⟩ := yL (hT _ _ ht)
    have hb : (Instr.sliceBounds false n n lv hv none).run P w = .ok (l.toNat, u.toNat, n) w := by
     cases lo with
     | none =>
      cases lv with
      | some _ => cases hlo
      | none =>
       simp at hl
       subst hl
       cases hi with
       | none =>
        cases hv with
        | some _ => cases hhi
        | none =>
         simp at hu
         subst hu
         simp [Instr.sliceBounds]
       | some ha =>
        cases hv with
        | none => cases hhi
        | some hv =>
         simp at hu
         obtain ⟨k, rfl⟩ := (by cases hhi with | some hh => exact xF hh hu : ∃ k, hv = Value.int k u)
         simp [Instr.sliceBounds, dZ (P := P) (w := w) (i := u) (y := n) (by omega) (by omega)]
     | some la =>
      cases lv with
      | none => cases hlo
      | some lv =>
       simp at hl
       obtain ⟨k, rfl⟩ := (by cases hlo with | some hh => exact xF hh hl : ∃ k, lv = Value.int k l)
       cases hi with
       | none =>
        cases hv with
        | some _ => cases hhi
        | none =>
         simp at hu
         subst hu
         simp [Instr.sliceBounds, dZ (P := P) (w := w) (i := l) (y := n) (by omega) (by omega)]
       | some ha =>
        cases hv with
        | none => cases hhi
        | some hv =>
         simp at hu
         obtain ⟨k', rfl⟩ := (by cases hhi with | some hh => exact xF hh hu : ∃ k, hv = Value.int k u)
         simp [Instr.sliceBounds, dZ (P := P) (w := w) (i := u) (y := n) (by omega) (by omega), dZ (P := P) (w := w) (i := l) (y := u.toNat) h0 (by omega)]
    have hne : ¬ n = l.toNat := by omega
    refine ⟨.slice (some ⟨b, l.toNat * ct.cells, none⟩) (u.toNat - l.toNat) (n - l.toNat), ?_, ?_⟩
    ·simp [Instr.sliceAt, Instr.sureAddr, aU hd, hb, gS (hT _ _ he), hne, Addr.add, oK]
     exact Eq.symm
    ·refine ⟨?_, (fun h => by simp [AV.isAgg] at h), (fun _ cs => by simp)⟩
     simp only [aI]
     refine ⟨hi', by simp only [maxLen]; omega, b, n - l.toNat, hb', ?_⟩
     simp [Value.cells]
     omega
   ·exact hc.elim
  ·exact hc.elim
 ·exact hc.elim
theorem aOA (hE : gA P E) {sb : List Nat} {nt : Nat} {ds : List Deferred} {env : St} {a : Act} {o : Oper} (hs : Sim E M w0 nt ds c env h a w) (hok : eM nt o = true) (hc : (aMn E sb env h o).1) : aP2 P M w0 c o a w (aMn E sb env h o).2.2 (aMn E sb env h o).2.1 := by
 unfold aMn at hc ⊢
 split at hc
 ·rename_i t x lo hi d hop hdst
  cases hsb : sb.contains d with
  | false =>
   simp only [hsb, cond_false] at hc ⊢
   exact aDF hE hs hok hc
  | true =>
   simp only [hsb, cond_true] at hc ⊢
   simp only [eM, Bool.and_eq_true] at hok
   have hall : ∀ x ∈ o.op.operands, jQ x = true := Array.all_eq_true_iff_forall_mem.1 hok.1
   have hev : ∀ y ∈ o.op.operands, aP c w (evA E.G env y) (a.eval y) := fun y hy => yU hs.env hs.glob (hall y hy)
   rw [hop] at hev
   obtain ⟨u, hu, hr⟩ := aWh (P := P) hE.T hs.good (hev x (by simp [Op.operands])) (aJa (o := lo) fun y hy => hev y (by simp [Op.operands, hy])) (aJa (o := hi) fun y hy => hev y (by simp [Op.operands, hy])) hc
   refine (Did.of_value (v := u) (h := h) hs.good ?_ hr).toE
   simp [execOp, hop, hu]
 ·exact aDF hE hs hok hc
theorem aOB (hE : gA P E) {sb : List Nat} {Δ : FuncId → List AV → List Obj → Option Hit} (hΔ : aEy P E.G Δ) {nt : Nat} {ds : List Deferred} {env : St} {a : Act} {o : Oper} (hs : Sim E M w0 nt ds c env h a w) (hok : eM nt o = true) {k : AV → List Obj → Prop} {kp : Pan → List Obj → Prop} (hc : aJy E Δ sb env h o k kp)
  {next : Act → World → Prop} {Q : Exit → Act → World → Prop} (hn : ∀ v h' c' u w', k v h' → aEu M w0 c w h' v u w' c' → next (a.put o.dst u) w') (hp : ∀ p h' c' u w', kp p h' → dN c w c' w' → Good M w0 c' h' w' → cU w' c'.S p.t p.x u → Q (.panic (aK4 p.k u)) a w') : o.wp P a w next Q := by
 unfold aJy at hc
 cases hcal : aA4 E.G env h o with
 | some fv =>
  obtain ⟨f, vs⟩ := fv
  simp only [hcal, aRr, aP6] at hc
  cases hd : Δ f vs h with
  | some t =>
   simp only [hd] at hc
   obtain ⟨h1, h2⟩ := hc
   obtain ⟨xs, q1, q2, q3⟩ := aSD hE hs hok hcal (hΔ.fn f vs h t hd)
   unfold Oper.wp
   rw [q1]
   refine Calls.mono (aT0 (hΔ.ok f vs h t hd) hs.good hs.glob q2 q3 h1) ?_
   rintro e w' ⟨cN, hl, hend⟩
   cases hout : t.sp.out t.d with
   | ret v h' =>
    rw [hout] at hend h2
    obtain ⟨u, rfl, hg, hv⟩ := hend
    exact hn _ _ cN u w' h2.2 ⟨hl, hg, hv h2.1⟩
   | pan p h' =>
    rw [hout] at hend h2
    obtain ⟨u, rfl, hg, hv⟩ := hend
    exact hp p _ cN u w' h2 hl hg hv
  | none =>
   simp only [hd] at hc
   cases hpo : aMm E.G env o with
   | some p =>
    simp only [hpo] at hc
    obtain ⟨u, q1, q2⟩ := aRt (P := P) hs hok hpo
    unfold Oper.wp
    rw [q1]
    exact hp p h c u w hc (.refl _ _) hs.good q2
   | none =>
    simp only [hpo] at hc
    exact (aOA hE hs hok hc.1).wp fun v w' c' ha => hn _ _ c' v w' hc.2 ha
 | none =>
  simp only [hcal, aRr] at hc
  cases hpo : aMm E.G env o with
  | some p =>
   simp only [hpo] at hc
   obtain ⟨u, q1, q2⟩ := aRt (P := P) hs hok hpo
   unfold Oper.wp
   rw [q1]
   exact hp p h c u w hc (.refl _ _) hs.good q2
  | none =>
   simp only [hpo] at hc
   exact (aOA hE hs hok hc.1).wp fun v w' c' ha => hn _ _ c' v w' hc.2 ha
theorem aNa (hE : gA P E) {sb : List Nat} {Δ : FuncId → List AV → List Obj → Option Hit} (hΔ : aEy P E.G Δ) {ops : List Oper} {Q : Exit → Act → World → Prop} {nt : Nat} {ds : List Deferred} (hok : ∀ o ∈ ops, eM nt o = true) {K : St → List Obj → Prop} {Kp : Pan → St → List Obj → Prop}
  (hK : ∀ env h c a w, K env h → Sim E M w0 nt ds c env h a w → Q .normal a w) (hKp : ∀ p env h c a w u, Kp p env h → Sim E M w0 nt ds c env h a w → cU w c.S p.t p.x u → Q (.panic (aK4 p.k u)) a w) :
  ∀ (m i : Nat), i + m = ops.length → ∀ (env : St) (h : List Obj) (c : Ctx) (a : Act) (w : World), aCn E Δ sb ops (ops.drop i) env h K Kp → Sim E M w0 nt ds c env h a w → wpOps P ops.toArray Q (List.range' i m) a w
 | 0, i, hi, env, h, c, a, w, hs, hsim => by
  rw [List.drop_eq_nil_of_le (by omega)] at hs
  simp only [List.range'_zero, wpOps]
  exact hK env h c a w hs hsim
 | m + 1, i, hi, env, h, c, a, w, hs, hsim => by
  have hil : i < ops.length := by omega
  rw [List.drop_eq_getElem_cons hil] at hs
  have hokO := hok ops[i] (List.getElem_mem hil)
  have hput : ∀ (v : Value) (av : AV), aP c w av v → Sim E M w0 nt ds c (tI ops[i].dst av env) h (a.put ops[i].dst v) w := fun v av hv => hsim.after hokO ⟨.refl _ _, hsim.good, hv⟩
  have hrun : aJy E Δ sb env h ops[i] (fun v h' => aCn E Δ sb ops (ops.drop (i + 1)) (tI ops[i].dst v env) h' K Kp) (fun p h' => Kp p env h') → Region.wanted ops[i] (yielded ops.toArray a.tmps) = true → wpOps P ops.toArray Q (List.range' i (m + 1)) a w := fun h1 hw => by
   rw [List.range'_succ]
   simp only [wpOps, List.getElem?_toArray, List.getElem?_eq_getElem hil, hw, if_true]
   left
   refine aOB hE hΔ hsim hokO h1 (fun v h' c' u w' hk ha => ?_) (fun p h' c' u w' hk hl hg hr => hKp p env h' c' a w' u hk (hsim.step hl hg) hr)
   exact aNa hE hΔ hok hK hKp m (i + 1) (by omega) _ _ c' _ w' hk (hsim.after hokO ha)
  have hskip : aCn E Δ sb ops (ops.drop (i + 1)) (tI ops[i].dst .undef env) h K Kp → Region.wanted ops[i] (yielded ops.toArray a.tmps) = false → wpOps P ops.toArray Q (List.range' i (m + 1)) a w := fun h2 hw => by
   rw [List.range'_succ]
   simp only [wpOps, List.getElem?_toArray, List.getElem?_eq_getElem hil, hw, Bool.false_eq_true, if_false]
   exact aNa hE hΔ hok hK hKp m (i + 1) (by omega) _ _ c _ w h2 (hput _ _ rfl)
  simp only [aCn] at hs
  cases hgd : ops[i].guard with
  | none =>
   rw [hgd] at hs
   exact hrun hs (by simp [Region.wanted, hgd])
  | some jp =>
   obtain ⟨j, pol⟩ := jp
   rw [hgd] at hs
   simp only at hs
   cases hdj : aDW ops j with
   | none => rw [hdj] at hs; exact hs.elim
   | some dj =>
    rw [hdj] at hs
    simp only at hs
    have hv := hsim.env dj
    split at hs
    ·rename_i b hb
     rw [hb] at hv
     have hb' := aAY hv
     have hy := sT hok hsim.size hdj hb'
     simp only [yb] at hy
     by_cases e : b = pol
     ·exact hrun (hs.1 e) (by simp [Region.wanted, hgd, hy, e])
     ·have e' : b = !pol := by cases b <;> cases pol <;> simp_all
      exact hskip (hs.2 e') (by simp [Region.wanted, hgd, hy, e])
    ·rename_i hb
     rw [hb] at hv
     have hy := sT hok hsim.size hdj (v := Go.undef) hv
     exact hskip hs (by simp [Region.wanted, hgd, hy, Go.undef, yb])
    ·exact hs.elim
theorem aT {F : Fr} {Q : Exit → Act → World → Prop} {env : St} {h : List Obj} (hF : iZ F) {Δ : FuncId → List AV → List Obj → Option Hit} (hΔ : aEy F.P F.E.G Δ) {id : Nat} {ops : Array Oper} (keep sb : List Nat)
  (hv : aCn F.E Δ sb ops.toList ops.toList env h (fun env h => At F (Q .normal) (keep.map fun t => (t, look env t)) h) (fun p env h => AtP F Q p env h)) : Tri F (.region id ops false) Q env h := fun hok c a w hs => by
 simp only [fE, Bool.and_eq_true, Bool.or_eq_true, Bool.not_eq_true'] at hok
 obtain ⟨⟨h1, h2⟩, h3⟩ := hok
 refine wp_region ?_
 have := aNa (Q := Q) hF.env hΔ (List.all_eq_true.1 h1) (K := fun env h => At F (Q .normal) (keep.map fun t => (t, look env t)) h) (Kp := fun p env h => AtP F Q p env h) (fun env h c a w hk hs => hk c a w (hs.keep keep)) (fun p env h c a w u hk hs hr => hk c a w u hs hr) ops.toList.length 0 (by simp) env h c a w (by simpa using hv) hs
 simpa [List.range_eq_range'] using this
theorem lU {F : Fr} {K : Act → World → Prop} {Q : Exit → Act → World → Prop} {p : Pan} {env : St} {h : List Obj} (hq : AtP F Q p env h) : AtP F (Exit.then K Q) p env h := hq
theorem aMq {F : Fr} {id : Nat} {Q : Exit → Act → World → Prop} {p : Pan} {env : St} {h : List Obj} (hq : AtP F Q p env h) : AtP F (Exit.inBlock id Q) p env h := hq
def aP7 : List AV → Nat → St
 | [], _ => []
 | v :: r, k => (k, v) :: aP7 r (k + 1)
theorem aNb {tmps : Array Value} : ∀ (us : List AV) (vs : List Value) (k : Nat), vs.length = us.length → (∀ i (h1 : i < us.length) (h2 : i < vs.length), aP c w us[i] vs[i]) → (∀ i v, vs[i]? = some v → tmps.getD (k + i) Go.undef = v) → aCl c w (aP7 us k) tmps
 | [], _, k, _, _, _ => fun t => trivial
 | u :: us, v :: vs, k, hl, hv, ht => by
  have h0 := hv 0 (by simp) (by simp)
  have t0 := ht 0 v (by simp)
  have rec_ := aNb us vs (k + 1) (by simpa using hl) (fun i h1 h2 => by have := hv (i + 1) (by simpa using h1) (by simpa using h2); simpa using this) (fun i x hx => by
   have := ht (i + 1) x (by simpa using hx)
   rw [show k + 1 + i = k + (i + 1) from by omega]; exact this)
  intro t
  simp only [aP7, look]
  split
  ·rename_i e
   subst e
   simp only [Nat.add_zero] at t0
   rw [t0]; exact h0
  ·exact rec_ t
def AV.wfV : AV → Prop
 | .val t x => t.wf x
 | .full t xs => (Ty.sl t).wf xs
 | _ => True
def AV.wfL : List AV → Prop
 | [] => True
 | v :: r => v.wfV ∧ AV.wfL r
def Obj.wfV : Obj → Prop
 | .box _ (.agg vs) => AV.wfL vs
 | .box _ v => v.wfV
 | .row _ t xs => (Ty.arr xs.length t).wf xs ∧ xs.length ≤ maxLen
 | .frz t xs => (Ty.sl t).wf xs
 | _ => True
def Obj.wfL : List Obj → Prop
 | [] => True
 | o :: r => o.wfV ∧ Obj.wfL r
theorem aJz {v : AV} {cs : List Value} (hr : aI c w v cs) : v.wfV := by
 cases v <;> first | trivial | skip
 case val t x => exact aS.wf t x cs hr
 case full t xs =>
  simp only [aI] at hr
  obtain ⟨a, n, e, hs⟩ := hr
  exact aS.wf (.sl t) xs cs ⟨a, n, n, e, hs⟩
theorem aT1 : ∀ {vs : List AV} {cs : List Value}, jX c w vs cs → AV.wfL vs
 | [], _, _ => trivial
 | v :: r, _, ⟨c1, c2, e, h1, h2⟩ => ⟨aJz h1, aT1 h2⟩
theorem aXN {v : AV} {x : Value} (hr : aP c w v x) : v.wfV := by
 cases v <;> first | trivial | exact aJz hr.1
theorem aNc : ∀ {us : List AV} {vs : List Value}, vs.length = us.length → (∀ i (h1 : i < us.length) (h2 : i < vs.length), aP c w us[i] vs[i]) → AV.wfL us
 | [], _, _, _ => trivial
 | u :: us, v :: vs, hl, hv => ⟨aXN (hv 0 (by simp) (by simp)), aNc (vs := vs) (by simpa using hl) (fun i h1 h2 => by have := hv (i + 1) (by simpa using h1) (by simpa using h2); simpa using this)⟩
theorem aXO {i : Nat} {o : Obj} (hr : aHM c w i o) : o.wfV := by
 cases o with
 | dead => trivial
 | box n v =>
  obtain ⟨b, cells, e, _, _, _, h4⟩ := hr
  cases v <;> first | exact aT1 h4 | exact aJz h4 | trivial
 | row e t xs =>
  obtain ⟨vals, h1, h2⟩ := hr
  refine ⟨aS.wf _ _ _ h2, ?_⟩
  rcases h1.2 with ⟨_, h0⟩ | ⟨g, cap, cur, _, _, _, h3, h4, _⟩
  ·rw [h0]; exact Nat.zero_le _
  ·exact Nat.le_trans h3 h4
 | frz t xs => exact aS.wf (.sl t) xs _ hr
 | map k v m => trivial
theorem aRu (hg : Good M w0 c h w) : Obj.wfL h := by
 have : ∀ (l : List Obj), (∀ o ∈ l, o.wfV) → Obj.wfL l := fun l => by
  induction l with
  | nil => intro _; trivial
  | cons o r ih => intro hl; exact ⟨hl o (by simp), ih fun x hx => hl x (by simp [hx])⟩
 refine this h fun o ho => ?_
 obtain ⟨i, hi, rfl⟩ := List.mem_iff_getElem.1 ho
 exact aXO (hg.objs i _ (List.getElem?_eq_getElem hi))
def bA (T : Tab) (h : List Obj) (env : St) : List ResultVar → Prop × List AV
 | [] => (True, [])
 | .tmp t :: r => ((bA T h env r).1, look env t :: (bA T h env r).2)
 | .cell a t :: r => ((aCx T h t (look env a)).1 ∧ (bA T h env r).1, (aCx T h t (look env a)).2 :: (bA T h env r).2)
theorem aJA (hT : gZ P E.T) (hg : Good M w0 c h w) {env : St} {tmps : Array Value} (he : aCl c w env tmps) {g : ResultVar → Sem Value} (hg1 : ∀ t, g (.tmp t) = pure (tmps.getD t Go.undef)) (hg2 : ∀ a t, g (.cell a t) = (do loadVar t (← asAddr (tmps.getD a Go.undef)))) : ∀ (l : List ResultVar), (bA E.T h env l).1 →
  ∃ us : List Value, (l.mapM g).run P w = .ok us w ∧ us.length = (bA E.T h env l).2.length ∧ ∀ i (h1 : i < (bA E.T h env l).2.length) (h2 : i < us.length), aP c w (bA E.T h env l).2[i] us[i]
 | [], _ => ⟨[], by simp, rfl, fun i h1 => by simp [bA] at h1⟩
 | .tmp t :: r, hc => by
  simp only [bA] at hc ⊢
  obtain ⟨us, q1, q2, q3⟩ := aJA hT hg he hg1 hg2 r hc
  refine ⟨tmps.getD t Go.undef :: us, by simp only [List.mapM_cons, Sem.run_bind, hg1, Sem.run_pure, Result.andThen_ok, q1], by simp [q2], fun i h1 h2 => ?_⟩
  cases i with
  | zero => exact he t
  | succ i => exact q3 i (by simpa using h1) (by simpa using h2)
 | .cell a t :: r, hc => by
  simp only [bA] at hc ⊢
  obtain ⟨us, q1, q2, q3⟩ := aJA hT hg he hg1 hg2 r hc.2
  obtain ⟨u, hu, hr⟩ := aQ6 (P := P) hT hg (he a) hc.1
  have hrun : (g (.cell a t)).run P w = .ok u w := by
   rw [hg2]
   have hv := he a
   generalize tmps.getD a Go.undef = v at hu hv
   simp only [Instr.loadAt, Sem.run_bind] at hu
   simp only [Sem.run_bind]
   have : ∃ ad, v = .pointer (some ad) := by
    cases v with
    | pointer p =>
     cases p with
     | some ad => exact ⟨ad, rfl⟩
     | none => simp [Instr.sureAddr, Result.andThen] at hu
    | _ => simp [Instr.sureAddr, Result.andThen] at hu
   obtain ⟨ad, rfl⟩ := this
   simpa [Instr.sureAddr, asAddr] using hu
  refine ⟨u :: us, by simp only [List.mapM_cons, Sem.run_bind, hrun, Sem.run_pure, Result.andThen_ok, q1], by simp [q2], fun i h1 h2 => ?_⟩
  cases i with
  | zero => exact hr
  | succ i => exact q3 i (by simpa using h1) (by simpa using h2)
theorem aBz (hT : gZ P E.T) (hg : Good M w0 c h w) {env : St} {tmps : Array Value} (he : aCl c w env tmps) {fn : Func} {l : List ResultVar} (hr : fn.results = l.toArray) (hc : (bA E.T h env l).1) :
  ∃ us : List Value, (results fn tmps).run P w = .ok (aDV us) w ∧ us.length = (bA E.T h env l).2.length ∧ ∀ i (h1 : i < (bA E.T h env l).2.length) (h2 : i < us.length), aP c w (bA E.T h env l).2[i] us[i] := by
 unfold results
 rw [hr]
 simp only [Sem.run_bind]
 rw [List.mapM_toArray, Sem.run_map]
 generalize hm : (List.mapM _ l : Sem (List Value)) = mm
 have key : ∀ (g : ResultVar → Sem Value), (∀ t, g (.tmp t) = pure (tmps.getD t Go.undef)) → (∀ a t, g (.cell a t) = (do loadVar t (← asAddr (tmps.getD a Go.undef)))) → List.mapM g l = mm →
   ∃ us : List Value, mm.run P w = .ok us w ∧ us.length = (bA E.T h env l).2.length ∧ ∀ i (h1 : i < (bA E.T h env l).2.length) (h2 : i < us.length), aP c w (bA E.T h env l).2[i] us[i] := fun g hg1 hg2 e => by
  subst e; exact aJA (P := P) hT hg he hg1 hg2 l hc
 obtain ⟨us, q1, q2, q3⟩ := key _ (fun t => rfl) (fun a t => rfl) hm
 refine ⟨us, ?_, q2, q3⟩
 rw [q1]
 simp only [Result.andThen_ok, Sem.run_pure]
 congr 1
 match us with
 | [] => rfl
 | [v] => rfl
 | a :: b :: r =>
  rw [dif_neg (by simp)]
  rfl
def zC (h : List Obj) : List AV → List AV → Prop
 | [], [] => True
 | v :: r, u :: r' => (fL h v u ∧ nU u = true) ∧ zC h r r'
 | _, _ => False
def zU (h : List Obj) : AV → List AV → Prop
 | .tup vs, us => us.length ≠ 1 ∧ zC h us vs
 | v, [u] => fL h u v
 | _, _ => False
theorem aNd (hg : Good M w0 c h w) : ∀ {us vs : List AV} {xs : List Value}, zC h us vs → xs.length = us.length → (∀ i (h1 : i < us.length) (h2 : i < xs.length), aP c w us[i] xs[i]) → xs.length = vs.length ∧ ∀ i (h1 : i < vs.length) (h2 : i < xs.length), aP c w vs[i] xs[i] ∧ nU vs[i] = true
 | [], [], [], _, _, _ => ⟨rfl, fun i h1 => by simp at h1⟩
 | u :: us, v :: vs, x :: xs, hf, hl, hv => by
  obtain ⟨⟨h1, hj⟩, h2⟩ := hf
  obtain ⟨q1, q2⟩ := aNd hg h2 (xs := xs) (by simpa using hl) (fun i h1 h2 => by have := hv (i + 1) (by simpa using h1) (by simpa using h2); simpa using this)
  refine ⟨by simp [q1], fun i k1 k2 => ?_⟩
  cases i with
  | zero => exact ⟨aII hg h1 (hv 0 (by simp) (by simp)), hj⟩
  | succ i => exact q2 i (by simpa using k1) (by simpa using k2)
theorem aRv {v : AV} {x : Value} (hv : aP c w v x) (hj : nU v = true) (ht : ∀ vs, v ≠ .tup vs) (hu : v ≠ .undef) : sQ c w v x := by
 cases v <;> first | exact hv | (simp [nU] at hj; done) | exact absurd rfl (ht _) | exact absurd rfl hu
def aT2 : AV → Bool
 | .tup _ => false
 | .undef => false
 | _ => true
theorem qC {F : Fr} {fn : Func} {sp : mY} {c0 : Ctx} {d : sp.D} {env : St} {h h' : List Obj} {v : AV} (hF : iZ F) (l : List ResultVar) (hM : F.M = GM sp c0 d) (hds : F.ds = []) (hr : fn.results = l.toArray) (hout : sp.out d = .ret v h') (hh : h = h') (hfl : (match v with | .tup vs => vs.all aT2 | _ => true) = true) (hy : (bA F.E.T h env l).1 ∧ zU h v (bA F.E.T h env l).2) :
  At F (bodyPost F.P fn (aGe sp c0 F.w0 d) .ret) env h := fun c a w hs => by
 subst hh
 obtain ⟨us, q1, q2, q3⟩ := aBz (P := F.P) hF.env.T hs.good hs.env hr hy.1
 refine ⟨hs.defers.trans hds, aDV us, q1, c, ?_⟩
 rw [hout]
 refine ⟨aDV us, rfl, by rw [← hM]; exact hs.good, ?_⟩
 have hy2 := hy.2
 generalize (bA F.E.T h env l).2 = rs at q2 q3 hy2
 cases v with
 | tup vs =>
  obtain ⟨h1, h2⟩ := hy2
  obtain ⟨k1, k2⟩ := aNd hs.good h2 q2 q3
  refine ⟨us, ?_, k1, fun i p1 p2 => ?_⟩
  ·match us, q2 with
   | [], _ => rfl
   | [x], q2 => exact absurd q2.symm h1
   | a :: b :: r, _ => rfl
  ·have hfi := List.all_eq_true.1 hfl vs[i] (List.getElem_mem p1)
   exact aRv (k2 i p1 p2).1 (k2 i p1 p2).2 (fun l e => by rw [e] at hfi; cases hfi) (fun e => by rw [e] at hfi; cases hfi)
 | _ =>
  match rs, hy2 with
  | [u], hy2 =>
   match us, q2 with
   | [x], _ => exact aII hs.good hy2 (q3 0 (by simp) (by simp))
theorem qD {F : Fr} {fn : Func} {sp : mY} {c0 : Ctx} {d : sp.D} {env : St} {h h' : List Obj} {p : Pan} (hM : F.M = GM sp c0 d) (hds : F.ds = []) (hout : sp.out d = .pan p h') (hh : h = h') :
  AtP F (bodyPost F.P fn (aGe sp c0 F.w0 d)) p env h := fun c a w u hs hr => by
 subst hh
 refine ⟨hs.defers.trans hds, c, ?_⟩
 rw [hout]
 exact ⟨u, rfl, by rw [← hM]; exact hs.good, hr⟩
theorem vX {F : Fr} {Q : Exit → Act → World → Prop} {p : Pan} {env : St} {h : List Obj} (σ : List Nat) (hd : tU σ = true) (hp : preB F.M.m σ = true) (hk : AtP F Q p (env.map fun q => (q.1, ren σ q.2)) (σ.map fun i => oE σ (h.getD i .dead))) : AtP F Q p env h := fun c a w u hs hr =>
 hk (c.ren σ) a w u ⟨hs.good.ren hd hp, hs.glob, fun t => by rw [aCL (ren σ) rfl]; exact aIK (hs.env t), hs.size, hs.defers⟩ hr
end
end Go.Vc
