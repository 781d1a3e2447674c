import Derived.Test.YtkihplehmkbfaaaGreatDoorZL3
import Derived.Scope
set_option linter.unusedVariables false
set_option linter.unusedSimpArgs false
namespace Go.Vc
open Go.RowKit
def aSK (c x y : AV) : Prop × AV :=
 match c, x, y with
 | .val .bool q, .val .bool a, .val .bool b => (True, .val .bool (bif q then a else b))
 | .val .bool q, .undef, .val .bool b => (q = false, .val .bool b)
 | .val .bool q, .val .bool a, .undef => (q = true, .val .bool a)
 | _, _, _ => (False, .junk)
def aPB (Γ : FuncId → List AV → Option aI) (f : FuncId) (vs : List AV) : Bool :=
 match Γ f vs with
 | some ⟨_, .own _ _, _, _⟩ => true
 | _ => false
def aSL : Option Ty → Bool
 | some (.i .i64) => true
 | _ => false
noncomputable def aJv (E : Env) (h : List Obj) (ρ : Operand → AV) (o : Oper) (c : Call) : Prop × AV × List Obj :=
 match c.callee with
 | .builtin .append => match c.args.toList.map ρ, c.argTypes.toList with
  | [s, x], [t, t'] => bif aSL (E.T t') then aDT E h t s x else bif isStr (E.T t') then aDU E h t s x else ((zV E h t s x).1 ∧ t' = t, (zV E h t s x).2)
  | _, _ => (False, .junk, h)
 | .value (.func f) => bif aPB E.Γ f (c.args.toList.map ρ) then aDS E.Γ h f (c.args.toList.map ρ) else ((pv E h ρ o).1, (pv E h ρ o).2, h)
 | _ => ((pv E h ρ o).1, (pv E h ρ o).2, h)
def zL (E : Env) (h : List Obj) (t : TypeId) : Prop × AV × List Obj :=
 match E.mp t with
 | some (k, e) => match E.T k, E.T e with
  | some kc, some vc => (True, .mp h.length, h ++ [.map kc vc []])
  | _, _ => (False, .junk, h)
 | none => (False, .junk, h)
def aJ8 (E : Env) (h : List Obj) (t : TypeId) (m k v : AV) : Prop × AV × List Obj :=
 match m with
 | .mp i => match h[i]? with
  | some (.map kc vc l) => match AV.as (h.map gK) kc k, AV.as (h.map gK) vc v with
   | some x, some y => (kc.keyB = true ∧ aUQ E t kc vc, .junk, h.set i (.map kc vc (aEw kc l x y)))
   | _, _ => (False, .junk, h)
  | _ => (False, .junk, h)
 | _ => (False, .junk, h)
def zM (E : Env) (h : List Obj) (t : TypeId) : Prop × AV × List Obj :=
 match E.T t with
 | some (.sl ct) => (ct.okB = true, .own h.length, h ++ [.row (E.el t) ct []])
 | _ => (False, .junk, h)
noncomputable def yF (E : Env) (h : List Obj) (ρ : Operand → AV) (o : Oper) : Prop × AV × List Obj :=
 match o.op with
 | .alloc t => match E.T t with
  | some ct => (ct.okB = true, .ptr h.length [], h ++ [.box (bxN t ct) (aCK ct)])
  | none => (False, .junk, h)
 | .box t x => ((ρ x).solid = true, .ptr h.length [], h ++ [.box (ρ x).nc (ρ x)])
 | .store t a x => aBR E.T h t (ρ a) (ρ x)
 | .makeSlice t l cp => aGm E h t (ρ l) (ρ cp)
 | .makeMap t none => zL E h t
 | .buildSlice t n ps => match n, ps.toList with
  | 0, [] => zM E h t
  | _, _ => ((pv E h ρ o).1, (pv E h ρ o).2, h)
 | .mapUpdate t m k v => aJ8 E h t (ρ m) (ρ k) (ρ v)
 | .insert t m k v => aJ8 E h t (ρ m) (ρ k) (ρ v)
 | .pick c x y => ((aSK (ρ c) (ρ x) (ρ y)).1, (aSK (ρ c) (ρ x) (ρ y)).2, h)
 | .call c => aJv E h ρ o c
 | _ => ((pv E h ρ o).1, (pv E h ρ o).2, h)
def aZs : Option Ty → Bool
 | some (.sl (.u .u8)) => true
 | _ => false
def aJ9 (E : Env) (ρ : Operand → AV) (o : Oper) : List Nat :=
 match o.op with
 | .call c => match c.callee with
  | .value (.func f) => match E.Γ f (c.args.toList.map ρ) with
   | some sp => bif sp.res.ty.scalar then [] else (c.args.toList.map ρ).flatMap AV.tags
   | none => []
  | _ => []
 | .slice _ x _ _ _ => (ρ x).tags
 | .buildSlice _ _ ps => ps.toList.flatMap fun p => (ρ p.2).tags
 | .store t a x => match ρ a with
  | .ptr _ (_ :: _) => bif aZs (E.T t) then [] else (ρ x).tags
  | _ => []
 | .mapUpdate _ _ _ v => (ρ v).tags
 | .insert _ _ _ v => (ρ v).tags
 | _ => []
noncomputable def xJ (E : Env) (env : St) (h : List Obj) (o : Oper) : Prop × AV × List Obj :=
 yF E (freezeAll (aJ9 E (evA E.G env) o) h) (fun x => aN1 (freezeAll (aJ9 E (evA E.G env) o) h) (evA E.G env x)) o
def vY (d : Option Nat) (v : AV) (env : St) : St :=
 match d with
 | some d => (d, v) :: env
 | none => env
def aEa (ops : List Oper) (j : Nat) : Option Nat := match ops[j]? with
 | some o => o.dst
 | none => none
def sL (E : Env) (all : List Oper) : List Oper → St → List Obj → (St → List Obj → Prop) → Prop
 | [], env, h, K => K env h
 | o :: r, env, h, K => match o.guard with
  | none => match xJ E env h o with
   | (p, v, h') => p ∧ sL E all r (vY o.dst v env) h' K
  | some (j, pol) => match aEa all j with
   | some dj => match look env dj with
    | .val .bool b => (b = pol → match xJ E env h o with
      | (p, v, h') => p ∧ sL E all r (vY o.dst v env) h' K) ∧ (b = !pol → sL E all r (vY o.dst .undef env) h K)
    | .undef => sL E all r (vY o.dst .undef env) h K
    | _ => False
   | none => False
section
variable {P : Program} {E : Env} {M : Perm} {w0 : World} {c : Ctx} {h : List Obj} {w : World}
structure aED (M : Perm) (w0 : World) (c : Ctx) (w : World) (h' : List Obj) (av : AV) (v : Value) (w' : World) (c' : Ctx) : Prop where
 later : dJ c w c' w'
 good : Good M w0 c' h' w'
 val : aS c' w' av v
def aRn (P : Program) (M : Perm) (w0 : World) (c : Ctx) (o : Oper) (a : Act) (w : World) (h' : List Obj) (av : AV) : Prop :=
 (∃ v w' c', (execOp a.eval o).run P w = .ok (.value v) w' ∧ aED M w0 c w h' av v w' c') ∨
 (∃ w' c', (execOp a.eval o).run P w = .ok .skip w' ∧ aED M w0 c w h' av Go.undef w' c') ∨
 (∃ f args, (execOp a.eval o).run P w = .ok (.enter f args) w ∧ Calls P f args w fun e w' => ∃ v c', e = .returned v ∧ aED M w0 c w h' av v w' c')
theorem Did.toE {o : Oper} {a : Act} {av : AV} (hd : Did P M w0 h c o a w av) : aRn P M w0 c o a w h av := by
 rcases hd with ⟨v, w', c', hr, ha⟩ | ⟨f, args, hr, hc⟩
 ·exact .inl ⟨v, w', c', hr, ha.later, ha.good, ha.val⟩
 ·refine .inr (.inr ⟨f, args, hr, hc.mono ?_⟩)
  rintro e w' ⟨v, c', he, ha⟩
  exact ⟨v, c', he, ha.later, ha.good, ha.val⟩
theorem aRn.wp {o : Oper} {a : Act} {av : AV} {h' : List Obj} {next : Act → World → Prop} {Q : Exit → Act → World → Prop} (hd : aRn P M w0 c o a w h' av) (hn : ∀ v w' c', aED M w0 c w h' av v w' c' → next (a.put o.dst v) w') : o.wp P a w next Q := by
 rcases hd with ⟨v, w', c', hr, ha⟩ | ⟨w', c', hr, ha⟩ | ⟨f, args, hr, hc⟩
 ·unfold Oper.wp; rw [hr]; exact hn v w' c' ha
 ·unfold Oper.wp; rw [hr]; exact hn _ w' c' ha
 ·unfold Oper.wp
  rw [hr]
  refine Calls.mono hc ?_
  rintro e w' ⟨v, c', rfl, ha⟩
  exact hn v w' c' ha
theorem aRo (hg : Good M w0 c h w) {t : TypeId} (hc : (zL E h t).1) :
  ∃ v w' c', (Instr.makeMap t none).run P w = .ok v w' ∧ aED M w0 c w (zL E h t).2.2 (zL E h t).2.1 v w' c' := by
 unfold zL at hc ⊢
 split at hc
 ·rename_i k e he
  split at hc
  ·rename_i kc vc hk hv
   simp only [hk, hv]
   have hkeep : fK nothing w (w.alloc (.map #[] 0)) := fK.alloc nothing w _
   have e1 : (c.push (.map (some w.heap.size))).hd c.n = .map (some w.heap.size) := by simp [Ctx.push]
   have := hg.push hkeep (o := .map kc vc []) (hv := .map (some w.heap.size)) (by
    refine ⟨w.heap.size, #[], 0, e1, aBm w _, rfl, fun j h => by simp at h⟩) (fun b hb => by
    simp only [ownBlock, e1, aU, Option.some.injEq] at hb
    subst hb
    exact ⟨Nat.le_refl _, by simp⟩)
   refine ⟨.map (some w.heap.size), _, _, rfl, this.2, this.1, ?_⟩
   rw [← hg.n]
   exact ⟨⟨Nat.lt_succ_self c.n, by rw [e1]; rfl, by rw [e1]; trivial⟩, (fun h => by cases h), (fun _ cs => by simp)⟩
  ·exact hc.elim
 ·exact hc.elim
theorem aUY (hE : gN P E) (hg : Good M w0 c h w) {t : TypeId} {m k v : AV} {mv kv vv : Value} (hm : aS c w m mv) (hk : aS c w k kv) (hv : aS c w v vv) (hc : (aJ8 E h t m k v).1) :
  ∃ w', (Instr.mapUpdate t mv kv vv).run P w = .ok () w' ∧ dJ c w c w' ∧ Good M w0 c (aJ8 E h t m k v).2.2 w' ∧ (aJ8 E h t m k v).2.1 = .junk := by
 unfold aJ8 at hc ⊢
 split at hc
 ·rename_i i
  split at hc
  ·rename_i kc vc l ho
   split at hc
   ·rename_i x y hx hy
    obtain ⟨h1, h3⟩ := hc
    simp only [ho, hx, hy]
    obtain ⟨b, es, clock, q1, q2, q3, q4⟩ := hg.objs i _ ho
    have hmv : mv = .map (some b) := by
     obtain ⟨r1, _, r3⟩ := hm
     simp only [aL] at r1
     have r3 := r3 rfl
     obtain ⟨_, r1, _⟩ := r1
     rw [q1] at r1
     cases mv <;> simp [Value.cells] at r1 r3 <;> rw [r1]
    subst hmv
    unfold aUQ at h3
    split at h3
    ·rename_i kt et he
     have hkx := rP hg hk hx
     have hvy := rP hg hv hy
     have hu := hE.mp _ _ _ he
     have hgo : (getObj b).run P w = .ok (.map es clock) w := by simp [getObj, Sem.run, q2]
     have hl : es.toList.length = l.length := by simpa using q3
     have hf := aFc (P := P) hE.T h3.1 h1 hkx w l es.toList hl (fun j h h' => by have := (q4 j h (by simpa using h')).1; simpa using this)
     have hck := aD8 (P := P) false 9998 hE.T h3.1 h1 hkx w
     have hff := aGi (c := kc) (w := w) (S := c.S) (x := x) l es.toList 0 hl
     have hob : ownBlock c i (.map kc vc l) = some b := by simp [ownBlock, q1, aU]
     have hblt : b < w.heap.size := (hg.own i _ b ho hob).2.1
     have hnS := (hg.own i _ b ho hob).2.2
     have hset : ∀ (es' : Array MapEntry) (clock' : Nat) (l' : List (kc.den × vc.den)), es'.size = l'.length → (∀ j (h : j < l'.length) (h' : j < es'.size), cL w c.S kc l'[j].1 es'[j].key ∧ cL w c.S vc l'[j].2 es'[j].val) →
       ∃ w', (setObj b (.map es' clock')).run P w = .ok () w' ∧ dJ c w c w' ∧ Good M w0 c (h.set i (.map kc vc l')) w' := fun es' clock' l' hs hr => by
      have hsame : ∀ k, k ≠ b → (w.heap.setIfInBounds b (Go.Obj.map es' clock'))[k]? = w.heap[k]? := fun k hk => by simp [Ne.symm hk]
      have hkS : xE c.S w { w with heap := w.heap.setIfInBounds b (.map es' clock') } := fun k hk => hsame k (fun e => hnS (e ▸ hk))
      refine ⟨{ w with heap := w.heap.setIfInBounds b (.map es' clock') }, by simp [setObj, Sem.run, q2], ?_⟩
      have := hg.modify (o' := .map kc vc l') ho hob (w' := { w with heap := w.heap.setIfInBounds b (.map es' clock') }) rfl rfl rfl (by simp) hsame ?_ ?_
      ·exact ⟨this.2, this.1⟩
      ·exact ⟨b, es', clock', q1, by simp [hblt], hs, fun j h h' => ⟨(hr j h h').1.keep (fun _ h => h) hkS, (hr j h h').2.keep (fun _ h => h) hkS⟩⟩
      ·intro b' hb'
       simp [ownBlock, q1, aU] at hb'
       exact hb'.symm
     cases hgt : aBM kc l x with
     | some y0 =>
      rw [hgt] at hff
      obtain ⟨j, e, k1, r1, r2, r3, r4, r5⟩ := hff
      rw [r1] at hf
      simp only [Nat.zero_add] at hf
      have hjl : j < l.length := by
       rcases Nat.lt_or_ge j l.length with h | h
       ·exact h
       ·rw [List.getElem?_eq_none h] at r3; cases r3
      have hje : j < es.size := by omega
      have e1 : es[j] = e := by
       have : es.toList[j]? = some e := r2
       rw [Array.getElem?_toList, Array.getElem?_eq_getElem hje] at this
       simpa using this
      have e2 : l[j] = (k1, y0) := by rw [List.getElem?_eq_getElem hjl] at r3; simpa using r3
      have hkk := (q4 j hjl hje).1
      rw [e1, e2] at hkk
      have hkey : e.key = kv := ((aUN h1 hkx hkk).1 r4).symm
      obtain ⟨w', s1, s2, s3⟩ := hset (es.modify j fun e => { e with key := kv, val := vv }) clock (l.set j (k1, y)) (by simp [q3]) (fun j' h h' => by
       simp only [List.length_set] at h
       have hj' : j' < es.size := by omega
       have hq := q4 j' h hj'
       simp only [List.getElem_set, Array.getElem_modify]
       by_cases ej : j = j'
       ·subst ej
        simp only [if_true]
        exact ⟨by rw [← hkey]; exact hkk, hvy⟩
       ·simp only [ej, if_false]; exact hq)
      refine ⟨w', ?_, s2, by rw [r5]; exact s3, trivial⟩
      have hst := aTC (P := P) h1 hkx w
      simp [Instr.mapUpdate, aX hu, hgo, hck, hf, Result.andThen, Array.getElem?_eq_getElem hje, e1, hkey, hst, s1]
     | none =>
      rw [hgt] at hff
      rw [hff.1] at hf
      obtain ⟨w', s1, s2, s3⟩ := hset (es.push { key := kv, val := vv, born := clock }) (clock + 1) (l ++ [(x, y)]) (by simp [q3]) (fun j' h h' => by
       rcases Nat.lt_or_ge j' l.length with hj | hj
       ·have hj' : j' < es.size := by omega
        have hq := q4 j' hj hj'
        rw [List.getElem_append_left hj, Array.getElem_push_lt hj']
        exact hq
       ·have ej : j' = l.length := by simp at h; omega
        subst ej
        have e3 : (es.push { key := kv, val := vv, born := clock : MapEntry })[l.length]'h' = { key := kv, val := vv, born := clock } := by
         have : l.length = es.size := q3.symm
         simp [Array.getElem_push, this]
        rw [e3]
        simp only [List.getElem_append_right (Nat.le_refl _), Nat.sub_self, List.getElem_singleton]
        exact ⟨hkx, hvy⟩)
      refine ⟨w', ?_, s2, by rw [hff.2]; exact s3, trivial⟩
      simp [Instr.mapUpdate, aX hu, hgo, hck, hf, Result.andThen, s1]
    ·exact h3.elim
   ·exact hc.elim
  ·exact hc.elim
 ·exact hc.elim
theorem aN4 (hE : gN P E) (hg : Good M w0 c h w) {t : TypeId} (hc : (zM E h t).1) :
  ∃ v' w' c', (Instr.buildSlice t 0 #[]).run P w = .ok v' w' ∧ dJ c w c' w' ∧ Good M w0 c' (zM E h t).2.2 w' ∧ aS c' w' (zM E h t).2.1 v' := by
 unfold zM at hc ⊢
 split at hc
 ·rename_i ct ht
  have hd := hE.el t ct ht
  obtain ⟨e', hd', hTe', hpos⟩ := fT (hE.T _ _ ht)
  have : e' = E.el t := by rw [hd] at hd'; cases hd'; rfl
  subst this
  have hTe := hE.T _ _ hTe'
  have hk : fK nothing w (w.alloc (.cells #[] (E.el t) (0, 0))) := fK.alloc nothing w _
  have e : (c.push (.slice (some ⟨w.heap.size, 0, none⟩) 0 0)).hd c.n = .slice (some ⟨w.heap.size, 0, none⟩) 0 0 := by simp [Ctx.push]
  have := hg.push hk (o := .row (E.el t) ct []) (hv := .slice (some ⟨w.heap.size, 0, none⟩) 0 0) (by
   show uG _ _ _ _ _ _
   rw [e]
   exact ⟨[], ⟨by simp, .inr ⟨w.heap.size, 0, #[], rfl, Nat.zero_le _, aBm w _, Nat.le_refl _, Nat.zero_le _, by simp, by simp⟩⟩, ⟨rfl, [], rfl, rfl, fun i hi => by simp at hi⟩⟩) (fun b hb => by
   simp only [ownBlock, e, aU, Option.some.injEq] at hb
   subst hb
   exact ⟨Nat.le_refl _, by simp⟩)
  refine ⟨.slice (some ⟨w.heap.size, 0, none⟩) 0 0, _, _, ?_, this.2, this.1, ?_⟩
  ·have e1 : (Array.range (0 * ct.cells)).map (fun x => (#[] : Array Value)[x % (#[] : Array Value).size]!) = #[] := by simp
   have hle : ¬ (0 * ct.cells > 2 ^ 24) := by omega
   simp only [Instr.buildSlice, Sem.run_bind, aX hd, Result.andThen_ok, gC hTe, hle, if_false, Nat.zero_mul, if_true, Sem.run_ite, Sem.run_pure]
   rw [if_neg (by decide)]
   simp only [Nat.zero_mul] at e1
   rw [e1]
   rfl
  ·have := aA0 (c := c) (v' := .slice (some ⟨w.heap.size, 0, none⟩) 0 0) ⟨_, _, _, rfl⟩ (w' := w.alloc (.cells #[] (E.el t) (0, 0))) (S' := c.S)
   rw [← hg.n]
   exact this
 ·exact hc.elim
theorem aYQ (hE : gN P E) (hg : Good M w0 c h w) (hG : oW E.G c.S w) {o : Oper} {a : Act} {ρ : Operand → AV} (hρ : ∀ x ∈ o.op.operands, aS c w (ρ x) (a.eval x)) (hc : (yF E h ρ o).1) : aRn P M w0 c o a w (yF E h ρ o).2.2 (yF E h ρ o).2.1 := by
 have hpv : (pv E h ρ o).1 → aRn P M w0 c o a w h (pv E h ρ o).2 := fun hc => (aYr hE hg hG hρ hc).toE
 obtain ⟨dst, op, ty, pos, aft, gd⟩ := o
 cases op
 case alloc t =>
  simp only [yF] at hc ⊢
  split at hc
  ·rename_i ct ht
   have hz := uJ (hE.T _ _ ht) hc w
   obtain ⟨w', c', h1, h2, h3, h4⟩ := aNc hg (t := t) (P := P) (x := aCK ct) (by rw [(aFh (c := c) (w := w) hc).2.2.1]; exact aUs t ct) (aFh (c := c) (w := w) hc).2.1 (aFh hc).2.2.2
   refine .inl ⟨_, w', c', ?_, h2, h3, h4⟩
   simp [execOp, Instr.alloc, hz, h1]
  ·exact hc.elim
 case box t x =>
  simp only [yF] at hc ⊢
  obtain ⟨w', c', h1, h2, h3, h4⟩ := aNc hg (t := t) (P := P) (.inl rfl) hc (hρ x (by simp [Op.operands]))
  exact .inl ⟨_, w', c', by simp [execOp, Instr.box, h1], h2, h3, h4⟩
 case store t p x =>
  simp only [yF] at hc ⊢
  obtain ⟨w', h1, h2, h3⟩ := aUV (P := P) hE.T hg (hρ p (by simp [Op.operands])) (hρ x (by simp [Op.operands])) hc
  refine .inr (.inl ⟨w', c, by simp [execOp, h1], h2, h3, ?_⟩)
  have : (aBR E.T h t (ρ p) (ρ x)).2.1 = .junk := by
   unfold aBR
   split <;> (try rfl)
   split <;> (try rfl)
   split <;> (try rfl)
   split <;> rfl
  rw [this]; trivial
 case makeMap t r =>
  cases r with
  | none =>
   simp only [yF] at hc ⊢
   obtain ⟨v, w', c', h1, h2⟩ := aRo (P := P) hg hc
   exact .inl ⟨v, w', c', by simp [execOp, h1], h2⟩
  | some _ => exact hpv hc
 case buildSlice t n ps =>
  simp only [yF] at hc ⊢
  split at hc
  ·rename_i hps
   obtain rfl : ps = #[] := by rw [← Array.toList_inj]; exact hps
   obtain ⟨v', w', c', h1, h2, h3, h4⟩ := aN4 (P := P) hE hg hc
   exact .inl ⟨v', w', c', by simp [execOp, h1], h2, h3, h4⟩
  ·exact hpv hc
 case mapUpdate t m k v =>
  simp only [yF] at hc ⊢
  obtain ⟨w', h1, h2, h3, h4⟩ := aUY (P := P) hE hg (hρ m (by simp [Op.operands])) (hρ k (by simp [Op.operands])) (hρ v (by simp [Op.operands])) hc
  exact .inr (.inl ⟨w', c, by simp [execOp, h1], h2, h3, by rw [h4]; trivial⟩)
 case insert t m k v =>
  simp only [yF] at hc ⊢
  obtain ⟨w', h1, h2, h3, h4⟩ := aUY (P := P) hE hg (hρ m (by simp [Op.operands])) (hρ k (by simp [Op.operands])) (hρ v (by simp [Op.operands])) hc
  exact .inr (.inl ⟨w', c, by simp [execOp, h1], h2, h3, by rw [h4]; trivial⟩)
 case makeSlice t l cp =>
  simp only [yF] at hc ⊢
  obtain ⟨v', w', c', h1, h2, h3, h4⟩ := aW1 (P := P) hE hg (hρ l (by simp [Op.operands])) (hρ cp (by simp [Op.operands])) hc
  exact .inl ⟨v', w', c', by simp [execOp, h1], h2, h3, h4⟩
 case pick p x y =>
  simp only [yF] at hc ⊢
  have hp := hρ p (by simp [Op.operands])
  have hx := hρ x (by simp [Op.operands])
  have hy := hρ y (by simp [Op.operands])
  unfold aSK at hc ⊢
  split at hc
  ·rename_i q u v e1 e2 e3
   rw [e1] at hp
   rw [e2] at hx
   rw [e3] at hy
   have hb := aBh hp
   cases q
   ·exact (Did.of_value (v := a.eval y) (h := h) hg (by simp [execOp, hb, asBool]) hy).toE
   ·exact (Did.of_value (v := a.eval x) (h := h) hg (by simp [execOp, hb, asBool]) hx).toE
  ·rename_i q v e1 e2 e3
   rw [e1] at hp
   rw [e3] at hy
   have hb := aBh hp
   have hc : q = false := hc
   subst hc
   exact (Did.of_value (v := a.eval y) (h := h) hg (by simp [execOp, hb, asBool]) hy).toE
  ·rename_i q u e1 e2 e3
   rw [e1] at hp
   rw [e2] at hx
   have hb := aBh hp
   have hc : q = true := hc
   subst hc
   exact (Did.of_value (v := a.eval x) (h := h) hg (by simp [execOp, hb, asBool]) hx).toE
  ·exact hc.elim
 case call cl =>
  obtain ⟨callee, args, argTypes⟩ := cl
  have hargs : ∀ x ∈ args.toList, aS c w (ρ x) (a.eval x) := fun x hx => hρ x (by
   simp only [Op.operands, Call.operands]
   exact Array.mem_append.2 (.inr (by simpa using hx)))
  cases callee with
  | builtin b =>
   cases b
   case append =>
    simp only [yF, aJv] at hc ⊢
    split at hc
    ·rename_i s x t t' e1 e2
     obtain ⟨p, q, epq, rfl, rfl⟩ : ∃ p q, args.toList = [p, q] ∧ ρ p = s ∧ ρ q = x := by
      match hl : args.toList, e1 with
      | [p, q], ex => simp at ex; exact ⟨p, q, rfl, ex.1, ex.2⟩
     cases hz : aSL (E.T t') with
     | true =>
      simp only [hz, cond_true] at hc ⊢
      have htx : P.underlying t' = some (.int .i64) := by
       unfold aSL at hz
       split at hz
       ·rename_i hT
        exact aW2 (hE.T _ _ hT)
       ·cases hz
      obtain ⟨v', w', c', h1, h2, h3, h4⟩ := aRl (P := P) (ty := ty) hE hg htx (hargs p (by rw [epq]; simp)) (hargs q (by rw [epq]; simp)) hc
      have e3 : args = #[p, q] := by rw [← Array.toList_inj]; exact epq
      have e4 : argTypes = #[t, t'] := by rw [← Array.toList_inj]; exact e2
      exact .inl ⟨v', w', c', by rw [e3, e4]; simp [execOp, resolve, invoke, builtin, h1], h2, h3, h4⟩
     | false =>
     simp only [hz, cond_false] at hc ⊢
     cases hq : isStr (E.T t') with
     | true =>
      simp only [hq, cond_true] at hc ⊢
      have htx : P.underlying t' = some .string := by
       unfold isStr at hq
       split at hq
       ·rename_i hT
        exact tN (hE.T _ _ hT)
       ·cases hq
      obtain ⟨v', w', c', h1, h2, h3, h4⟩ := aRm (P := P) (ty := ty) hE hg htx (hargs p (by rw [epq]; simp)) (hargs q (by rw [epq]; simp)) hc
      have e3 : args = #[p, q] := by rw [← Array.toList_inj]; exact epq
      have e4 : argTypes = #[t, t'] := by rw [← Array.toList_inj]; exact e2
      exact .inl ⟨v', w', c', by rw [e3, e4]; simp [execOp, resolve, invoke, builtin, h1], h2, h3, h4⟩
     | false =>
     simp only [hq, cond_false] at hc ⊢
     obtain ⟨hc, rfl⟩ := hc
     obtain ⟨v', w', c', h1, h2, h3, h4⟩ := aTG (P := P) (ty := ty) hE hg (hargs p (by rw [epq]; simp)) (hargs q (by rw [epq]; simp)) hc
     have e3 : args = #[p, q] := by rw [← Array.toList_inj]; exact epq
     have e4 : argTypes = #[t', t'] := by rw [← Array.toList_inj]; exact e2
     exact .inl ⟨v', w', c', by rw [e3, e4]; simp [execOp, resolve, invoke, builtin, h1], h2, h3, h4⟩
    ·exact hc.elim
   all_goals exact hpv hc
  | value f =>
   cases f with
   | func f =>
    simp only [yF, aJv] at hc ⊢
    cases ho : aPB E.Γ f (args.toList.map ρ) with
    | false =>
     simp only [ho, cond_false] at hc ⊢
     exact hpv hc
    | true =>
     simp only [ho, cond_true] at hc ⊢
     have hfok : ∀ sp, E.Γ f (args.toList.map ρ) = some sp → FOK P E.G f sp ∧ ∃ fn, P.funcs[f]? = some fn ∧ fn.name ≠ "runtime.NumGoroutine" ∧ fn.body.isSome = true := fun sp hsp => by
      rcases hE.Γ f _ sp hsp with h | h
      ·exact h
      ·unfold aPB at ho
       rw [hsp] at ho
       obtain ⟨a1, r1, p1, f1⟩ := sp
       cases r1 with
       | own e t => exact absurd rfl (h.1 e t)
       | _ => simp at ho
     have hcall := aRk (P := P) (Γ := E.Γ) (fun sp hsp => (hfok sp hsp).1) hg hG (f := f) (vs := args.toList.map ρ) (xs := (args.toList.map a.eval).toArray) (by simp) (fun i h1 h2 => by
      have := aBO (ρ := ρ) (a := a) (c := c) (w := w) hargs i h1 (by simpa using h2)
      simpa using this) hc
     have hfn : ∃ fn, P.funcs[f]? = some fn ∧ fn.name ≠ "runtime.NumGoroutine" ∧ fn.body.isSome = true := by
      unfold aPB at ho
      cases hΓ : E.Γ f (args.toList.map ρ) with
      | none => simp [hΓ] at ho
      | some sp => exact (hfok sp hΓ).2
     refine .inr (.inr ⟨f, (args.toList.map a.eval).toArray, ?_, ?_⟩)
     ·have hrun := aBN (w := w) (args := (args.map a.eval)) hfn
      have e2 : (args.toList.map a.eval).toArray = args.map a.eval := by rw [← Array.toList_inj]; simp
      rw [e2]
      simp [execOp, resolve, Deferred.ofValue, Act.eval, invoke, hrun]
     ·refine hcall.mono ?_
      rintro e w' ⟨v, c', he, h1, h2, h3⟩
      exact ⟨v, c', he, h1, h2, h3⟩
   | _ => exact hpv hc
  | _ => exact hpv hc
 all_goals exact hpv hc
theorem aUZ (hg : Good M w0 c h w) {G : Nat → AV} {env : St} {a : Act} (he : aCL c w env a.tmps) (hG : oW G c.S w) {x : Operand} (hx : kJ x = true) : aS c w (aN1 h (evA G env x)) (a.eval x) := aSH hg (aAZ he hG hx)
theorem aJw (hE : gN P E) {nt : Nat} {ds : List Deferred} {env : St} {a : Act} {o : Oper} (hs : Sim E M w0 nt ds c env h a w) (hok : fJ nt o = true) (hc : (xJ E env h o).1) : aRn P M w0 c o a w (xJ E env h o).2.2 (xJ E env h o).2.1 := by
 obtain ⟨c1, hl, hn, hg1⟩ := hs.good.freezeAll (aJ9 E (evA E.G env) o)
 simp only [fJ, Bool.and_eq_true] at hok
 have hall : ∀ x ∈ o.op.operands, kJ x = true := Array.all_eq_true_iff_forall_mem.1 hok.1
 have hG1 : oW E.G c1.S w := hs.glob.mono hl.le.S hl.same
 have := aYQ hE hg1 hG1 (o := o) (a := a) (ρ := fun x => aN1 (freezeAll (aJ9 E (evA E.G env) o) h) (evA E.G env x)) (fun x hx => aUZ hg1 (hs.env.keep hl) hG1 (hall x hx)) hc
 rcases this with ⟨v, w', c', hr, ha⟩ | ⟨w', c', hr, ha⟩ | ⟨f, args, hr, hcl⟩
 ·exact .inl ⟨v, w', c', hr, hl.trans ha.later, ha.good, ha.val⟩
 ·exact .inr (.inl ⟨w', c', hr, hl.trans ha.later, ha.good, ha.val⟩)
 ·refine .inr (.inr ⟨f, args, hr, hcl.mono ?_⟩)
  rintro e w' ⟨v, c', he, ha⟩
  exact ⟨v, c', he, hl.trans ha.later, ha.good, ha.val⟩
theorem Sim.after {nt : Nat} {ds : List Deferred} {env : St} {a : Act} {o : Oper} (hs : Sim E M w0 nt ds c env h a w) (hok : fJ nt o = true) {h' : List Obj} {av : AV} {v : Value} {w' : World} {c' : Ctx} (ha : aED M w0 c w h' av v w' c') : Sim E M w0 nt ds c' (vY o.dst av env) h' (a.put o.dst v) w' := by
 simp only [fJ, Bool.and_eq_true] at hok
 refine ⟨ha.good, hs.glob.mono ha.later.le.S ha.later.same, ?_, ?_, ?_⟩
 ·cases hd : o.dst with
  | none => exact hs.env.keep ha.later
  | some d =>
   have hdn : d < nt := by have := hok.2; rw [hd] at this; simpa using this
   exact (hs.env.keep ha.later).put (by rw [hs.size]; exact hdn) ha.val
 ·cases hd : o.dst with
  | none => exact hs.size
  | some d => simp [Act.put, hs.size]
 ·cases hd : o.dst with
  | none => exact hs.defers
  | some d => exact hs.defers
def yb : Value → Option Bool
 | .bool b => some b
 | _ => none
theorem tP {nt : Nat} {ops : List Oper} (hok : ∀ o ∈ ops, fJ nt o = true) {a : Act} (hsz : a.tmps.size = nt) {j dj : Nat} (hd : aEa ops j = some dj) {v : Value} (hv : a.tmps.getD dj Go.undef = v) : yielded ops.toArray a.tmps j = yb v := by
 unfold aEa at hd
 split at hd
 ·rename_i oj hj
  have hokJ := hok oj (List.mem_of_getElem? hj)
  simp only [fJ, Bool.and_eq_true, hd, decide_eq_true_eq] at hokJ
  have hdj : dj < a.tmps.size := by rw [hsz]; exact hokJ.2
  have h1 : a.tmps[dj]? = some v := by
   rw [Array.getElem?_eq_getElem hdj]
   have : a.tmps[dj] = v := by simpa [hdj] using hv
   rw [this]
  simp only [yielded, List.getElem?_toArray, hj, Option.bind_some, hd, h1]
  cases v <;> rfl
 ·cases hd
theorem aJx (hE : gN P E) {ops : List Oper} {Q : Exit → Act → World → Prop} {nt : Nat} {ds : List Deferred} (hok : ∀ o ∈ ops, fJ nt o = true) {K : St → List Obj → Prop} (hK : ∀ env h c a w, K env h → Sim E M w0 nt ds c env h a w → Q .normal a w) :
  ∀ (m i : Nat), i + m = ops.length → ∀ (env : St) (h : List Obj) (c : Ctx) (a : Act) (w : World), sL E ops (ops.drop i) env h K → Sim E M w0 nt ds c env h a w → wpOps P ops.toArray Q (List.range' i m) a w
 | 0, i, hi, env, h, c, a, w, hs, hsim => by
  rw [List.drop_eq_nil_of_le (by omega)] at hs
  simp only [List.range'_zero, wpOps]
  exact hK env h c a w hs hsim
 | m + 1, i, hi, env, h, c, a, w, hs, hsim => by
  have hil : i < ops.length := by omega
  rw [List.drop_eq_getElem_cons hil] at hs
  have hokO := hok ops[i] (List.getElem_mem hil)
  have hput : ∀ (v : Value) (av : AV), aS c w av v → Sim E M w0 nt ds c (vY ops[i].dst av env) h (a.put ops[i].dst v) w := fun v av hv => hsim.after hokO ⟨.refl _ _, hsim.good, hv⟩
  have hrun : ((xJ E env h ops[i]).1 ∧ sL E ops (ops.drop (i + 1)) (vY ops[i].dst (xJ E env h ops[i]).2.1 env) (xJ E env h ops[i]).2.2 K) → Region.wanted ops[i] (yielded ops.toArray a.tmps) = true → wpOps P ops.toArray Q (List.range' i (m + 1)) a w := fun ⟨h1, h2⟩ hw => by
   rw [List.range'_succ]
   simp only [wpOps, List.getElem?_toArray, List.getElem?_eq_getElem hil, hw, if_true]
   left
   refine (aJw hE hsim hokO h1).wp fun v w' c' ha => ?_
   exact aJx hE hok hK m (i + 1) (by omega) _ _ c' _ w' h2 (hsim.after hokO ha)
  have hskip : sL E ops (ops.drop (i + 1)) (vY ops[i].dst .undef env) h K → Region.wanted ops[i] (yielded ops.toArray a.tmps) = false → wpOps P ops.toArray Q (List.range' i (m + 1)) a w := fun h2 hw => by
   rw [List.range'_succ]
   simp only [wpOps, List.getElem?_toArray, List.getElem?_eq_getElem hil, hw, Bool.false_eq_true, if_false]
   exact aJx hE hok hK m (i + 1) (by omega) _ _ c _ w h2 (hput _ _ rfl)
  simp only [sL] at hs
  cases hgd : ops[i].guard with
  | none =>
   rw [hgd] at hs
   exact hrun hs (by simp [Region.wanted, hgd])
  | some jp =>
   obtain ⟨j, pol⟩ := jp
   rw [hgd] at hs
   simp only at hs
   cases hdj : aEa ops j with
   | none => rw [hdj] at hs; exact hs.elim
   | some dj =>
    rw [hdj] at hs
    simp only at hs
    have hv := hsim.env dj
    split at hs
    ·rename_i b hb
     rw [hb] at hv
     have hb' := aBh hv
     have hy := tP hok hsim.size hdj hb'
     simp only [yb] at hy
     by_cases e : b = pol
     ·exact hrun (hs.1 e) (by simp [Region.wanted, hgd, hy, e])
     ·have e' : b = !pol := by cases b <;> cases pol <;> simp_all
      exact hskip (hs.2 e') (by simp [Region.wanted, hgd, hy, e])
    ·rename_i hb
     rw [hb] at hv
     have hy := tP hok hsim.size hdj (v := Go.undef) hv
     exact hskip hs (by simp [Region.wanted, hgd, hy, Go.undef, yb])
    ·exact hs.elim
theorem cK {F : Fr} {Q : Exit → Act → World → Prop} {env : St} {h : List Obj} (hF : vI F) {id : Nat} {ops : Array Oper} (keep : List Nat) (hv : sL F.E ops.toList ops.toList env h (fun env h => At F (Q .normal) (keep.map fun t => (t, look env t)) h)) : Tri F (.region id ops false) Q env h := fun hok c a w hs => by
 simp only [gW, Bool.and_eq_true, Bool.or_eq_true, Bool.not_eq_true'] at hok
 obtain ⟨⟨h1, h2⟩, h3⟩ := hok
 refine wp_region ?_
 have := aJx (Q := Q) hF.env (List.all_eq_true.1 h1) (K := fun env h => At F (Q .normal) (keep.map fun t => (t, look env t)) h) (fun env h c a w hk hs => hk c a w (hs.keep keep)) ops.toList.length 0 (by simp) env h c a w (by simpa using hv) hs
 simpa [List.range_eq_range'] using this
end
end Go.Vc
namespace Go.Vc
open Go.RowKit
def posOf (i : Nat) : List Nat → Option Nat
 | [] => none
 | k :: r => if k = i then some 0 else match posOf i r with
  | some j => some (j + 1)
  | none => none
def nD (σ : List Nat) : List Nat → Option (List Nat)
 | [] => some []
 | i :: r => match posOf i σ, nD σ r with
  | some j, some l => some (j :: l)
  | _, _ => none
def kK (σ : List Nat) : AV → AV
 | .own i => match posOf i σ with
  | some j => .own j
  | none => .junk
 | .ptr i p => match posOf i σ with
  | some j => .ptr j p
  | none => .junk
 | .sub i s off n => match posOf i σ with
  | some j => .sub j s off n
  | none => .junk
 | .mp i => match posOf i σ with
  | some j => .mp j
  | none => .junk
 | .fn f l1 l2 => match nD σ l1, nD σ l2 with
  | some l1, some l2 => .fn f l1 l2
  | _, _ => .junk
 | .agg _ => .junk
 | .flat _ => .junk
 | .tup _ => .junk
 | v => v
def ren (σ : List Nat) : AV → AV
 | .agg vs => .agg (vs.map (kK σ))
 | .tup _ => .junk
 | .flat _ => .junk
 | v => kK σ v
def yP (σ : List Nat) : Obj → Obj
 | .box n v => .box n (ren σ v)
 | o => o
def zX : List Nat → Bool
 | [] => true
 | i :: r => !r.contains i && zX r
def preB (m : Nat) (σ : List Nat) : Bool := (List.range m).all fun i => decide (σ[i]? = some i)
theorem aPC {m : Nat} {σ : List Nat} (h : preB m σ = true) {i : Nat} (hi : i < m) : σ[i]? = some i := by
 have := List.all_eq_true.1 h i (List.mem_range.2 hi)
 simpa using this
section
variable {F : Fr} {M : Perm} {w0 : World} {c : Ctx} {h : List Obj} {w : World} {env : St} {K : Act → World → Prop}
theorem aPD {i : Nat} : ∀ {σ : List Nat} {j : Nat}, posOf i σ = some j → σ[j]? = some i
 | k :: r, j, hp => by
  simp only [posOf] at hp
  split at hp
  ·rename_i e; cases hp; simp [e]
  ·split at hp
   ·rename_i j' hj; cases hp; simp [aPD hj]
   ·cases hp
 | [], _, hp => by cases hp
def Ctx.ren (c : Ctx) (σ : List Nat) : Ctx := ⟨c.S, fun j => c.hd (σ.getD j 0), σ.length⟩
theorem aKa {σ : List Nat} {i j : Nat} (hp : posOf i σ = some j) : j < σ.length ∧ (c.ren σ).hd j = c.hd i := by
 have := aPD hp
 have hlt : j < σ.length := by
  rcases Nat.lt_or_ge j σ.length with hh | hh
  ·exact hh
  ·rw [List.getElem?_eq_none hh] at this; cases this
 refine ⟨hlt, ?_⟩
 simp [Ctx.ren, List.getD_eq_getElem?_getD, this]
theorem aGn {σ : List Nat} : ∀ {l l' : List Nat}, nD σ l = some l' → (∀ j ∈ l', j < σ.length) ∧ l'.map (c.ren σ).hd = l.map c.hd
 | [], l', hp => by simp [nD] at hp; subst hp; exact ⟨(fun j hj => by cases hj), rfl⟩
 | i :: r, l', hp => by
  simp only [nD] at hp
  split at hp
  ·rename_i j l h1 h2
   cases hp
   obtain ⟨q1, q2⟩ := aKa (c := c) h1
   obtain ⟨k1, k2⟩ := aGn h2
   refine ⟨fun k hk => ?_, by simp [q2, k2]⟩
   rcases List.mem_cons.1 hk with rfl | hk
   ·exact q1
   ·exact k1 k hk
  ·cases hp
theorem aKb {σ : List Nat} : ∀ {v : AV} {cs : List Value}, aL c w v cs → aL (c.ren σ) w (kK σ v) cs := by
 intro v cs hr
 cases v <;> simp only [kK] <;> (try trivial)
 case own i =>
  split
  ·rename_i j hp
   obtain ⟨q1, q2⟩ := aKa (c := c) hp
   simp only [aL] at hr ⊢
   rw [q2]
   exact ⟨q1, hr.2⟩
  ·trivial
 case ptr i p =>
  split
  ·rename_i j hp
   obtain ⟨q1, q2⟩ := aKa (c := c) hp
   simp only [aL] at hr ⊢
   rw [q2]
   exact ⟨q1, hr.2⟩
  ·trivial
 case sub i s off n =>
  split
  ·rename_i j hp
   obtain ⟨q1, q2⟩ := aKa (c := c) hp
   simp only [aL] at hr ⊢
   rw [q2]
   exact ⟨q1, hr.2⟩
  ·trivial
 case mp i =>
  split
  ·rename_i j hp
   obtain ⟨q1, q2⟩ := aKa (c := c) hp
   simp only [aL] at hr ⊢
   rw [q2]
   exact ⟨q1, hr.2⟩
  ·trivial
 case fn f l1 l2 =>
  split
  ·rename_i l1' l2' h1 h2
   obtain ⟨q1, q2⟩ := aGn (c := c) h1
   obtain ⟨k1, k2⟩ := aGn (c := c) h2
   simp only [aL] at hr ⊢
   rw [q2, k2]
   exact ⟨q1, k1, hr.2.2⟩
  ·trivial
 all_goals exact hr
theorem aSM {σ : List Nat} : ∀ {vs : List AV} {cs : List Value}, jC c w vs cs → jC (c.ren σ) w (vs.map (kK σ)) cs
 | [], _, hr => hr
 | v :: r, _, ⟨c1, c2, e, h1, h2⟩ => ⟨c1, c2, e, aKb h1, aSM h2⟩
theorem aNf {σ : List Nat} {v : AV} {cs : List Value} (hr : aL c w v cs) : aL (c.ren σ) w (ren σ v) cs := by
 cases v
 case agg vs => exact aSM hr
 case tup => trivial
 case flat => trivial
 all_goals exact aKb hr
theorem aSN {σ : List Nat} {v : AV} {x : Value} (hr : aS c w v x) : aS (c.ren σ) w (ren σ v) x := by
 have main : tM c w v x → (ren σ v = .junk ∨ (ren σ v).isAgg = v.isAgg) → (∀ vs, ren σ v ≠ .tup vs) → (ren σ v ≠ .undef ∨ v = .undef) → aS (c.ren σ) w (ren σ v) x := fun h1 ha ht hu => by
  rcases ha with ha | ha
  ·rw [ha]; trivial
  ·have h2 := aNf (σ := σ) h1.1
   generalize ren σ v = u at h2 ha ht hu
   have h3 : tM (c.ren σ) w u x := ⟨h2, by rw [ha]; exact h1.2.1, by rw [ha]; exact h1.2.2⟩
   cases u <;> first | exact h3 | trivial | exact absurd rfl (ht _) | skip
   have h2 : x.cells.toList = [Go.undef] := h2
   have h4 := h1.2.2
   rw [← ha] at h4
   have h4 := h4 rfl
   show x = Go.undef
   cases x <;> simp [Value.cells] at h2 h4 <;> first | exact h2 | skip
 cases v
 case junk => trivial
 case undef => exact hr
 case tup => trivial
 case flat => trivial
 case agg vs => exact main hr (.inr rfl) (fun _ h => by simp [ren] at h) (.inl (by simp [ren]))
 case val => exact main hr (.inr rfl) (fun _ h => by simp [ren, kK] at h) (.inl (by simp [ren, kK]))
 case nilS => exact main hr (.inr rfl) (fun _ h => by simp [ren, kK] at h) (.inl (by simp [ren, kK]))
 case nilP => exact main hr (.inr rfl) (fun _ h => by simp [ren, kK] at h) (.inl (by simp [ren, kK]))
 case full => exact main hr (.inr rfl) (fun _ h => by simp [ren, kK] at h) (.inl (by simp [ren, kK]))
 case roa => exact main hr (.inr rfl) (fun _ h => by simp [ren, kK] at h) (.inl (by simp [ren, kK]))
 case own i => cases hp : posOf i σ <;> exact main hr (by simp [ren, kK, hp, AV.isAgg]) (fun _ h => by simp [ren, kK, hp] at h) (.inl (by simp [ren, kK, hp]))
 case ptr i p => cases hp : posOf i σ <;> exact main hr (by simp [ren, kK, hp, AV.isAgg]) (fun _ h => by simp [ren, kK, hp] at h) (.inl (by simp [ren, kK, hp]))
 case sub i s off n => cases hp : posOf i σ <;> exact main hr (by simp [ren, kK, hp, AV.isAgg]) (fun _ h => by simp [ren, kK, hp] at h) (.inl (by simp [ren, kK, hp]))
 case mp i => cases hp : posOf i σ <;> exact main hr (by simp [ren, kK, hp, AV.isAgg]) (fun _ h => by simp [ren, kK, hp] at h) (.inl (by simp [ren, kK, hp]))
 case fn f l1 l2 => cases hp : nD σ l1 <;> cases hq : nD σ l2 <;> exact main hr (by simp [ren, kK, hp, hq, AV.isAgg]) (fun _ h => by simp [ren, kK, hp, hq] at h) (.inl (by simp [ren, kK, hp, hq]))
theorem aPE : ∀ {σ : List Nat}, zX σ = true → ∀ i j : Nat, ∀ k, σ[i]? = some k → σ[j]? = some k → i = j
 | [], _, i, j, k, hi, _ => by simp at hi
 | a :: r, hd, i, j, k, hi, hj => by
  simp only [zX, Bool.and_eq_true, Bool.not_eq_true', List.contains_eq_mem, decide_eq_false_iff_not] at hd
  cases i with
  | zero =>
   cases j with
   | zero => rfl
   | succ j =>
    simp at hi hj
    subst hi
    exact absurd (List.mem_of_getElem? hj) hd.1
  | succ i =>
   cases j with
   | zero =>
    simp at hi hj
    subst hj
    exact absurd (List.mem_of_getElem? hi) hd.1
   | succ j =>
    simp at hi hj
    rw [aPE hd.2 i j k hi hj]
theorem yQ {σ : List Nat} {i j : Nat} (hj : σ[j]? = some i) (o : Obj) : ownBlock (c.ren σ) j (yP σ o) = ownBlock c i o := by
 have : (c.ren σ).hd j = c.hd i := by simp [Ctx.ren, List.getD_eq_getElem?_getD, hj]
 cases o <;> simp [ownBlock, yP, this]
theorem Good.ren (hg : Good M w0 c h w) {σ : List Nat} (hd : zX σ = true) (hp : preB M.m σ = true) : Good M w0 (c.ren σ) (σ.map fun i => yP σ (h.getD i .dead)) w := by
 have hcase : ∀ j o', (σ.map fun i => yP σ (h.getD i .dead))[j]? = some o' → ∃ i, σ[j]? = some i ∧ o' = yP σ (h.getD i .dead) := fun j o' hj => by
  rw [List.getElem?_map] at hj
  cases hs : σ[j]? with
  | none => simp [hs] at hj
  | some i => simp [hs] at hj; exact ⟨i, hs, hj.symm⟩
 have hget : ∀ i, h.getD i .dead = .dead ∨ h[i]? = some (h.getD i .dead) := fun i => by
  cases hi : h[i]? with
  | none => left; simp [List.getD_eq_getElem?_getD, hi]
  | some o => right; simp [List.getD_eq_getElem?_getD, hi]
 refine ⟨by simp [Ctx.ren], hg.keeps, hg.sfin, hg.src, fun j o' hj => ?_, fun j o' b hj hb => ?_, fun j k oj ok b hj hk hbj hbk => ?_, ?_, fun i hi => ?_⟩
 ·obtain ⟨i, hi, rfl⟩ := hcase j o' hj
  have hhd : (c.ren σ).hd j = c.hd i := by simp [Ctx.ren, List.getD_eq_getElem?_getD, hi]
  rcases hget i with e | e
  ·rw [e]; trivial
  ·have := hg.objs i _ e
   revert this
   generalize h.getD i .dead = o
   intro this
   cases o with
   | dead => trivial
   | box n v =>
    obtain ⟨b, cells, e', q1, q2, q3, q4⟩ := this
    exact ⟨b, cells, e', by rw [hhd]; exact q1, q2, q3, aNf q4⟩
   | row e' t xs => simp only [aIf, yP] at *; rw [hhd]; exact this
   | frz t xs => simp only [aIf, yP] at *; rw [hhd]; exact this
   | map k v m =>
    obtain ⟨b, es, clock, q1, q2⟩ := this
    exact ⟨b, es, clock, by rw [hhd]; exact q1, q2⟩
 ·obtain ⟨i, hi, rfl⟩ := hcase j o' hj
  rw [yQ hi] at hb
  rcases hget i with e | e
  ·rw [e] at hb; cases hb
  ·exact hg.own i _ b e hb
 ·obtain ⟨i, hi, rfl⟩ := hcase j oj hj
  obtain ⟨i', hi', rfl⟩ := hcase k ok hk
  rw [yQ hi] at hbj
  rw [yQ hi'] at hbk
  rcases hget i with e | e
  ·rw [e] at hbj; cases hbj
  ·rcases hget i' with e' | e'
   ·rw [e'] at hbk; cases hbk
   ·have := hg.sep i i' _ _ b e e' hbj hbk
    subst this
    exact aPE hd j k i hi hi'
 ·rcases Nat.lt_or_ge σ.length M.m with hlt | hge
  ·have := aPC hp hlt
   rw [List.getElem?_eq_none (Nat.le_refl _)] at this; cases this
  ·exact hge
 ·have hi' := aPC hp hi
  have e : (c.ren σ).hd i = c.hd i := by simp [Ctx.ren, List.getD_eq_getElem?_getD, hi']
  rw [e]; exact hg.root.2 i hi
theorem aKc (f : AV → AV) (hf : f .junk = .junk) : ∀ (env : St) (t : Nat), look (env.map fun p => (p.1, f p.2)) t = f (look env t)
 | [], t => by simp only [List.map_nil, look]; exact hf.symm
 | (k, v) :: r, t => by
  simp only [List.map_cons, look]
  split
  ·rfl
  ·exact aKc f hf r t
theorem nE (σ : List Nat) (hd : zX σ = true) (hp : preB F.M.m σ = true) (hk : At F K (env.map fun p => (p.1, ren σ p.2)) (σ.map fun i => yP σ (h.getD i .dead))) : At F K env h := fun c a w hs =>
 hk (c.ren σ) a w ⟨hs.good.ren hd hp, hs.glob, fun t => by rw [aKc (ren σ) rfl]; exact aSN (hs.env t), hs.size, hs.defers⟩
theorem aN5 {x : Code} {Q : Exit → Act → World → Prop} (σ : List Nat) (hd : zX σ = true) (hp : preB F.M.m σ = true) (hk : Tri F x Q (env.map fun p => (p.1, ren σ p.2)) (σ.map fun i => yP σ (h.getD i .dead))) : Tri F x Q env h := fun hok => nE σ hd hp (hk hok)
theorem aTL (s : Nat) (e : TypeId) (t : Ty) (hn : look env s = .nilS) (hk : At F K ((s, .own h.length) :: env) (h ++ [.row e t []])) : At F K env h := fun c a w hs => by
 have hv := hs.env s
 rw [hn] at hv
 have hsv : a.tmps.getD s Go.undef = .slice none 0 0 := by
  obtain ⟨h1, _, h3⟩ := hv
  have h3 := h3 rfl
  simp only [aL] at h1
  revert h1 h3
  generalize a.tmps.getD s Go.undef = sv
  intro h1 h3
  cases sv <;> simp [Value.cells] at h1 h3 <;> simp [h1]
 have e1 : (c.push (.slice none 0 0)).hd c.n = .slice none 0 0 := by simp [Ctx.push]
 have := hs.good.push (.refl nothing w) (o := .row e t []) (hv := .slice none 0 0) (by
  show uG _ _ _ _ _ _
  rw [e1]
  exact ⟨[], ⟨by simp, .inl ⟨rfl, rfl⟩⟩, ⟨rfl, [], rfl, rfl, fun i h => by simp at h⟩⟩) (fun b hb => by simp [ownBlock, e1, aU] at hb)
 refine hk _ a w ⟨this.1, hs.glob.mono (fun _ h => h) (.refl _ _), fun t => ?_, hs.size, hs.defers⟩
 simp only [look]
 split
 ·rename_i e'
  subst e'
  rw [hsv, ← hs.good.n]
  exact aA0 (c := c) ⟨_, _, _, rfl⟩ (w' := w) (S' := c.S)
 ·exact this.2.val (hs.env t)
theorem aTM (i : Nat) (hk : At F K (env.map fun p => (p.1, aN1 (freeze i h) p.2)) (freeze i h)) : At F K env h := fun c a w hs => by
 obtain ⟨c', hl, hn, hg⟩ := hs.good.freeze i
 refine hk c' a w ⟨hg, hs.glob.mono hl.le.S hl.same, fun t => ?_, hs.size, hs.defers⟩
 rw [aKc (aN1 (freeze i h)) rfl]
 exact aSH hg (hl.val (hs.env t))
theorem zY {x : Code} {Q : Exit → Act → World → Prop} (s : Nat) (e : TypeId) (t : Ty) (hn : look env s = .nilS) (hk : Tri F x Q ((s, .own h.length) :: env) (h ++ [.row e t []])) : Tri F x Q env h := fun hok => aTL s e t hn (hk hok)
theorem aEE {x : Code} {Q : Exit → Act → World → Prop} (i : Nat) (hk : Tri F x Q (env.map fun p => (p.1, aN1 (freeze i h) p.2)) (freeze i h)) : Tri F x Q env h := fun hok => aTM i (hk hok)
end
end Go.Vc
namespace Go.Vc
open Go.RowKit
def gam : List (FuncId × aI) → FuncId → Option aI
 | [], _ => none
 | (k, sp) :: r, f => if k = f then some sp else gam r f
theorem aW3 {l : List (FuncId × aI)} {f : FuncId} {sp : aI} (h : gam l f = some sp) : (f, sp) ∈ l := by
 induction l with
 | nil => cases h
 | cons p r ih =>
  obtain ⟨k, s⟩ := p
  simp only [gam] at h
  split at h
  ·rename_i e; subst e; cases h; exact List.mem_cons_self
  ·exact List.mem_cons_of_mem _ (ih h)
def fnB (P : Program) (f : FuncId) : Bool := match P.funcs[f]? with
 | some fn => decide (fn.name ≠ "runtime.NumGoroutine") && fn.body.isSome
 | none => false
structure bF (P : Program) (G : Nat → AV) (l : List (FuncId × aI)) : Prop where
 ok : ∀ p ∈ l, (FOK P G p.1 p.2 ∧ fnB P p.1 = true) ∨ NOK P G p.1 p.2
theorem bF.nil {P : Program} {G : Nat → AV} : bF P G [] := ⟨fun p hp => by cases hp⟩
theorem bF.cons {P : Program} {G : Nat → AV} {l : List (FuncId × aI)} {f : FuncId} {sp : aI} (h : FOK P G f sp) (hf : fnB P f = true) (hl : bF P G l) : bF P G ((f, sp) :: l) := by
 refine ⟨fun p hp => ?_⟩
 rcases List.mem_cons.1 hp with rfl | hp
 ·exact .inl ⟨h, hf⟩
 ·exact hl.ok p hp
theorem bF.nat {P : Program} {G : Nat → AV} {l : List (FuncId × aI)} {f : FuncId} {sp : aI} (h : NOK P G f sp) (hl : bF P G l) : bF P G ((f, sp) :: l) := by
 refine ⟨fun p hp => ?_⟩
 rcases List.mem_cons.1 hp with rfl | hp
 ·exact .inr h
 ·exact hl.ok p hp
theorem aU0 {P : Program} {T : Tab} {G : Nat → AV} {l : List (FuncId × aI)} {el : TypeId → TypeId} (hT : gM P T) (hel : ∀ t ct, T t = some (.sl ct) → P.underlying t = some (.slice (el t))) {mp : TypeId → Option (TypeId × TypeId)} (hmp : ∀ t k e, mp t = some (k, e) → P.underlying t = some (.map k e)) (hl : bF P G l) : gN P ⟨T, G, fun f _ => gam l f, el, mp⟩ :=
 ⟨hT, fun f _ sp h => by
  rcases hl.ok _ (aW3 h) with ⟨h, this⟩ | h
  ·refine .inl ⟨h, ?_⟩
   unfold fnB at this
   split at this
   ·rename_i fn hf
    simp only [Bool.and_eq_true, decide_eq_true_eq] at this
    exact ⟨fn, hf, this⟩
   ·cases this
  ·exact .inr h, hel, hmp⟩
theorem aU1 {P : Program} {G : Nat → AV} {f : FuncId} {a t : Ty} {pre : a.den → Prop} {fn : a.den → t.den} (h : ∀ (w : World) (S : Nat → Prop) (vs : List Value) (x : a.den), mM w S a x vs → pre x → ∃ us : List Value, (callFunc f vs.toArray).run P w = .ok (.value (.tuple us.toArray)) w ∧ mM w S t (fn x) us) : NOK P G f ⟨a, .tup t, pre, fn⟩ := by
 refine ⟨(fun e t h => by cases h), fun w vs S x hS hG ha hp => ?_⟩
 obtain ⟨us, h1, h2⟩ := h w S vs.toList x ha hp
 refine ⟨_, w, by simpa using h1, _, rfl, .refl _ _, us, rfl, ?_⟩
 have hmono : ∀ (t : Ty) (x : t.den) (xs : List Value), mM w S t x xs → mM w (fun b => S b ∨ (w.heap.size ≤ b ∧ b < w.heap.size)) t x xs := by
  intro t
  induction t with
  | unit => intro x xs h; exact h
  | pair a r _ ih => intro x xs ⟨v, vs', e, h1, h2⟩; exact ⟨v, vs', e, h1.keep (fun b hb => .inl hb) (.refl _ _), ih _ _ h2⟩
  | _ => intro x xs h; exact h.elim
 exact hmono _ _ _ h2
end Go.Vc
namespace Go.Vc
open Go.RowKit
def dK : List Oper → Nat → List (Nat × TypeId × Nat)
 | [], _ => []
 | o :: r, i => match o.op, o.guard, o.dst with
  | .alloc t, none, some d => (i, t, d) :: dK r (i + 1)
  | _, _, _ => dK r (i + 1)
def aPF (T : Tab) (t : TypeId) : Obj := match T t with
 | some ct => .box (bxN t ct) (aCK ct)
 | none => .dead
def lS (T : Tab) : List (Nat × TypeId × Nat) → St → List Obj → St × List Obj
 | [], env, h => (env, h)
 | (_, t, d) :: r, env, h => lS T r ((d, .ptr h.length []) :: env) (h ++ [aPF T t])
theorem rQ : ∀ {l : List Oper} {i : Nat} {p : Nat × TypeId × Nat}, p ∈ dK l i → ∃ o, l[p.1 - i]? = some o ∧ i ≤ p.1 ∧ o.op = .alloc p.2.1 ∧ o.guard = none ∧ o.dst = some p.2.2
 | [], i, p, hp => by cases hp
 | o :: r, i, p, hp => by
  have hrec : p ∈ dK r (i + 1) → ∃ o', (o :: r)[p.1 - i]? = some o' ∧ i ≤ p.1 ∧ o'.op = .alloc p.2.1 ∧ o'.guard = none ∧ o'.dst = some p.2.2 := fun hp => by
   obtain ⟨o', h1, h2, h3⟩ := rQ hp
   refine ⟨o', ?_, by omega, h3⟩
   rw [show p.1 - i = (p.1 - (i + 1)) + 1 from by omega, List.getElem?_cons_succ]
   exact h1
  simp only [dK] at hp
  split at hp
  ·rename_i t d h1 h2 h3
   rcases List.mem_cons.1 hp with rfl | hp
   ·exact ⟨o, by simp, Nat.le_refl _, h1, h2, h3⟩
   ·exact hrec hp
  ·exact hrec hp
section
variable {P : Program} {E : Env} {M : Perm} {w0 : World} {nt : Nat} {ds : List Deferred} {h : List Obj} {env : St} {pre : List Oper}
structure aSO (T : Tab) (al : List (Nat × TypeId × Nat)) (w : World) (listed : Nat → Prop) (c' : Ctx) (a : Act) (w' : World) (B : Nat → Nat) : Prop where
 size : w.heap.size ≤ w'.heap.size
 at_ : ∀ p ∈ al, listed p.1 → ∃ ct, T p.2.1 = some ct ∧ a.tmps.getD p.2.2 Go.undef = .pointer (some ⟨B p.1, 0, none⟩) ∧ w.heap.size ≤ B p.1 ∧ B p.1 < w'.heap.size ∧ ¬ c'.S (B p.1) ∧ w'.heap[B p.1]? = some (.cells (mL ct).cells p.2.1 (0, 0))
 inj : ∀ p ∈ al, ∀ q ∈ al, listed p.1 → listed q.1 → B p.1 = B q.1 → p.1 = q.1
theorem aSO.step {T : Tab} {w : World} {listed : Nat → Prop} {c' c'' : Ctx} {a a'' : Act} {w' w'' : World} {B : Nat → Nat} (hf : aSO T (dK pre 0) w listed c' a w' B) {i : Nat} {o : Oper} (ho : pre[i]? = some o) (hok : fJ a.tmps.size o = true) (hu : zT pre = true) (hni : ¬ listed i) (hd : o.dst ≠ none) (hsf : ∀ b, c'.S b → b < w'.heap.size)
  (hs : aYs T o a c' w' c'' a'' w'') : ∃ B', aSO T (dK pre 0) w (fun k => listed k ∨ k = i) c'' a'' w'' B' := by
 obtain ⟨v, hv, hal⟩ := hs.put
 have hget : ∀ d, o.dst ≠ some d → a''.tmps.getD d Go.undef = a.tmps.getD d Go.undef := fun d hne => by
  rw [hv]
  cases hdd : o.dst with
  | none => rfl
  | some d0 =>
   have : d0 ≠ d := fun e => hne (by rw [hdd, e])
   simp [Act.put, Array.getElem?_setIfInBounds_ne this]
 refine ⟨fun k => if k = i then w'.heap.size else B k, Nat.le_trans hf.size hs.keeps.size, fun p hp hl => ?_, fun p hp q hq hlp hlq hB => ?_⟩
 ·obtain ⟨op, h1, _, h2, h3, h4⟩ := rQ hp
  simp only [Nat.sub_zero] at h1
  by_cases e : p.1 = i
  ·rw [e] at h1
   rw [ho] at h1
   cases h1
   obtain ⟨ct, q1, q2, q3, q4⟩ := hal _ h2 h3
   simp only [e, if_true]
   refine ⟨ct, q1, ?_, hf.size, by rw [q3]; simp, fun hS => ?_, by rw [q3]; exact aBm w' _⟩
   ·simp only [fJ, Bool.and_eq_true, h4, decide_eq_true_eq] at hok
    rw [hv, h4, q2]
    simp [Act.put, hok.2]
   ·rw [q4] at hS
    have := hsf _ hS
    omega
  ·have hl : listed p.1 := hl.resolve_right e
   obtain ⟨ct, q1, q2, q3, q4, q5, q6⟩ := hf.at_ p hp hl
   simp only [e, if_false]
   refine ⟨ct, q1, ?_, q3, Nat.lt_of_lt_of_le q4 hs.keeps.size, fun hS => ?_, by rw [hs.keeps.block _ q4 (fun f => f)]; exact q6⟩
   ·rw [hget]
    ·exact q2
    ·intro hdd
     exact e (aJt hu ho h1 (by rw [h4, hdd]) hd)
   ·rcases hs.new _ hS with h | h
    ·exact q5 h
    ·omega
 ·by_cases ep : p.1 = i <;> by_cases eq : q.1 = i
  ·rw [ep, eq]
  ·simp only [ep, eq, if_true, if_false] at hB
   obtain ⟨ct, q1, q2, q3, q4, _⟩ := hf.at_ q hq (hlq.resolve_right eq)
   omega
  ·simp only [ep, eq, if_true, if_false] at hB
   obtain ⟨ct, q1, q2, q3, q4, _⟩ := hf.at_ p hp (hlp.resolve_right ep)
   omega
  ·simp only [ep, eq, if_false] at hB
   exact hf.inj p hp q hq (hlp.resolve_right ep) (hlq.resolve_right eq) hB
theorem Good.adopt {c : Ctx} {w : World} (hg : Good M w0 c h w) {b : Nat} {cells : Array Value} {e : TypeId} {v : AV} {n : Nat} (hb : w.heap[b]? = some (.cells cells e (0, 0))) (hn : aWK n cells.size e) (hv : aL c w v cells.toList) (hB : w0.heap.size ≤ b) (hS : ¬ c.S b)
  (hown : ∀ i o, h[i]? = some o → ownBlock c i o ≠ some b) : Good M w0 (c.push (.pointer (some ⟨b, 0, none⟩))) (h ++ [.box n v]) w ∧ dJ c w (c.push (.pointer (some ⟨b, 0, none⟩))) w := by
 have hl : dJ c w (c.push (.pointer (some ⟨b, 0, none⟩))) w := ⟨c.le_push _, .refl _ _⟩
 have hbl : b < w.heap.size := (Array.getElem?_eq_some_iff.1 hb).1
 have hhd : (c.push (.pointer (some ⟨b, 0, none⟩))).hd c.n = .pointer (some ⟨b, 0, none⟩) := by simp [Ctx.push]
 have hcase : ∀ i o', (h ++ [Obj.box n v])[i]? = some o' → (h[i]? = some o' ∧ i < c.n) ∨ (i = c.n ∧ o' = Obj.box n v) := fun i o' ho => by
  rw [hg.n]
  rcases Nat.lt_trichotomy i h.length with hlt | heq | hgt
  ·rw [List.getElem?_append_left hlt] at ho; exact .inl ⟨ho, hlt⟩
  ·subst heq; simp at ho; exact .inr ⟨rfl, ho.symm⟩
  ·rw [List.getElem?_append_right (by omega), List.getElem?_eq_none (by simp; omega)] at ho; cases ho
 refine ⟨⟨by simp [Ctx.push, hg.n], hg.keeps, hg.sfin, hg.src, fun i o' ho => ?_, fun i o' b' ho hbb => ?_, fun i j oi oj b' hi hj hbi hbj => ?_, aBF hg.root hl.le⟩, hl⟩
 ·rcases hcase i o' ho with ⟨ho, hi⟩ | ⟨rfl, rfl⟩
  ·exact (hg.objs i o' ho).keep hl hi (fun _ _ => rfl)
  ·exact ⟨b, cells, e, hhd, hb, hn, aL.keep hl.le hl.same _ _ hv⟩
 ·rcases hcase i o' ho with ⟨ho, hi⟩ | ⟨rfl, rfl⟩
  ·rw [bS hl.le hi] at hbb
   exact hg.own i o' b' ho hbb
  ·simp only [ownBlock, hhd, aU, Option.some.injEq] at hbb
   subst hbb
   exact ⟨.inl hB, hbl, hS⟩
 ·rcases hcase i oi hi with ⟨hi', hin⟩ | ⟨ei, eo⟩ <;> rcases hcase j oj hj with ⟨hj', hjn⟩ | ⟨ej, eo'⟩
  ·rw [bS hl.le hin] at hbi
   rw [bS hl.le hjn] at hbj
   exact hg.sep i j oi oj b' hi' hj' hbi hbj
  ·subst ej; subst eo'
   rw [bS hl.le hin] at hbi
   simp only [ownBlock, hhd, aU, Option.some.injEq] at hbj
   subst hbj
   exact absurd hbi (hown i oi hi')
  ·subst ei; subst eo
   rw [bS hl.le hjn] at hbj
   simp only [ownBlock, hhd, aU, Option.some.injEq] at hbi
   subst hbi
   exact absurd hbj (hown j oj hj')
  ·rw [ei, ej]
theorem aW4 {c : Ctx} {w : World} {ct : Ty} (hok : ct.okB = true) : aL c w (aCK ct) (mL ct).cells.toList ∧ (mL ct).cells.size = ct.cells := by
 refine ⟨(aFh hok).1, ?_⟩
 rw [zW hok]
 simp [nC hok]
theorem aKd (hE : gN P E) {a : Act} {w : World} : ∀ (al : List (Nat × TypeId × Nat)) (env : St) (h : List Obj) (c : Ctx) (B : Nat → Nat), Sim E M w0 nt ds c env h a w →
  (∀ p ∈ al, ∃ ct, E.T p.2.1 = some ct ∧ ct.okB = true ∧ a.tmps.getD p.2.2 Go.undef = .pointer (some ⟨B p.1, 0, none⟩) ∧ w0.heap.size ≤ B p.1 ∧ ¬ c.S (B p.1) ∧ w.heap[B p.1]? = some (.cells (mL ct).cells p.2.1 (0, 0)) ∧ ∀ i o, h[i]? = some o → ownBlock c i o ≠ some (B p.1)) →
  al.Pairwise (fun p q => B p.1 ≠ B q.1) → ∃ c', Sim E M w0 nt ds c' (lS E.T al env h).1 (lS E.T al env h).2 a w
 | [], env, h, c, B, hs, _, _ => ⟨c, hs⟩
 | (i, t, d) :: r, env, h, c, B, hs, hal, hpw => by
  obtain ⟨ct, q1, q2, q3, q4, q5, q6, q7⟩ := hal (i, t, d) (by simp)
  simp only at q1 q3 q4 q5 q6 q7
  obtain ⟨z1, z2⟩ := aW4 (c := c) (w := w) q2
  obtain ⟨g1, g2⟩ := hs.good.adopt q6 (n := bxN t ct) (by rw [z2]; exact aUs t ct) z1 q4 q5 q7
  have hbox : aPF E.T t = .box (bxN t ct) (aCK ct) := by simp [aPF, q1]
  rw [List.pairwise_cons] at hpw
  have e1 : (c.push (.pointer (some ⟨B i, 0, none⟩))).hd c.n = .pointer (some ⟨B i, 0, none⟩) := by simp [Ctx.push]
  have hs' : Sim E M w0 nt ds (c.push (.pointer (some ⟨B i, 0, none⟩))) ((d, .ptr h.length []) :: env) (h ++ [aPF E.T t]) a w := by
   refine ⟨by rw [hbox]; exact g1, hs.glob.mono (fun _ h => h) (.refl _ _), fun t' => ?_, hs.size, hs.defers⟩
   simp only [look]
   split
   ·rename_i e
    subst e
    rw [q3, ← hs.good.n]
    exact ⟨⟨Nat.lt_succ_self c.n, B i, by rw [e1]; rfl, rfl⟩, (fun h => by cases h), (fun _ cs => by simp)⟩
   ·exact g2.val (hs.env t')
  refine aKd hE r _ _ _ B hs' (fun p hp => ?_) hpw.2
  obtain ⟨ct', p1, p2, p3, p4, p5, p6, p7⟩ := hal p (by simp [hp])
  refine ⟨ct', p1, p2, p3, p4, p5, p6, fun k o ho => ?_⟩
  rcases Nat.lt_trichotomy k h.length with hlt | heq | hgt
  ·rw [List.getElem?_append_left hlt] at ho
   rw [bS g2.le (by rw [hs.good.n]; exact hlt)]
   exact p7 k o ho
  ·subst heq
   simp at ho
   subst ho
   rw [hbox, ← hs.good.n]
   simp only [ownBlock, e1, aU, ne_eq, Option.some.injEq]
   exact hpw.1 p hp
  ·rw [List.getElem?_append_right (by omega), List.getElem?_eq_none (by simp; omega)] at ho; cases ho
theorem aW5 (hE : gN P E) {ops : List Oper} {Q : Exit → Act → World → Prop} (hok : ∀ o ∈ ops, fJ nt o = true) {K : St → List Obj → Prop} {i : Nat} (hil : i < ops.length) {env : St} {h : List Obj} {c : Ctx} {a : Act} {w : World} (hs : sL E ops (ops.drop i) env h K) (hsim : Sim E M w0 nt ds c env h a w)
  {Kn : Act → World → Prop} (hn : ∀ env' h' c' a' w', sL E ops (ops.drop (i + 1)) env' h' K → Sim E M w0 nt ds c' env' h' a' w' → Kn a' w') : wpOp P ops.toArray Q i Kn a w := by
 rw [List.drop_eq_getElem_cons hil] at hs
 have hokO := hok ops[i] (List.getElem_mem hil)
 have hput : ∀ (v : Value) (av : AV), aS c w av v → Sim E M w0 nt ds c (vY ops[i].dst av env) h (a.put ops[i].dst v) w := fun v av hv => hsim.after hokO ⟨.refl _ _, hsim.good, hv⟩
 unfold wpOp
 simp only [List.getElem?_toArray, List.getElem?_eq_getElem hil]
 have hrun : ((xJ E env h ops[i]).1 ∧ sL E ops (ops.drop (i + 1)) (vY ops[i].dst (xJ E env h ops[i]).2.1 env) (xJ E env h ops[i]).2.2 K) → Region.wanted ops[i] (yielded ops.toArray a.tmps) = true → (if Region.wanted ops[i] (yielded ops.toArray a.tmps) = true then Oper.wp P ops[i] a w Kn Q ∨ (ops[i].asks P a w ∧ LetsOut Q) else Kn (a.put ops[i].dst Go.undef) w) := fun ⟨h1, h2⟩ hw => by
  rw [if_pos hw]
  left
  refine (aJw hE hsim hokO h1).wp fun v w' c' ha => ?_
  exact hn _ _ c' _ w' h2 (hsim.after hokO ha)
 have hskip : sL E ops (ops.drop (i + 1)) (vY ops[i].dst .undef env) h K → Region.wanted ops[i] (yielded ops.toArray a.tmps) = false → (if Region.wanted ops[i] (yielded ops.toArray a.tmps) = true then Oper.wp P ops[i] a w Kn Q ∨ (ops[i].asks P a w ∧ LetsOut Q) else Kn (a.put ops[i].dst Go.undef) w) := fun h2 hw => by
  rw [if_neg (by rw [hw]; simp)]
  exact hn _ _ c _ w h2 (hput _ _ rfl)
 simp only [sL] at hs
 cases hgd : ops[i].guard with
 | none =>
  rw [hgd] at hs
  exact hrun hs (by simp [Region.wanted, hgd])
 | some jp =>
  obtain ⟨j, pol⟩ := jp
  rw [hgd] at hs
  simp only at hs
  cases hdj : aEa ops j with
  | none => rw [hdj] at hs; exact hs.elim
  | some dj =>
   rw [hdj] at hs
   simp only at hs
   have hv := hsim.env dj
   split at hs
   ·rename_i b hb
    rw [hb] at hv
    have hb' := aBh hv
    have hy := tP hok hsim.size hdj hb'
    simp only [yb] at hy
    by_cases e : b = pol
    ·exact hrun (hs.1 e) (by simp [Region.wanted, hgd, hy, e])
    ·have e' : b = !pol := by cases b <;> cases pol <;> simp_all
     exact hskip (hs.2 e') (by simp [Region.wanted, hgd, hy, e])
   ·rename_i hb
    rw [hb] at hv
    have hy := tP hok hsim.size hdj (v := Go.undef) hv
    exact hskip hs (by simp [Region.wanted, hgd, hy, Go.undef, yb])
   ·exact hs.elim
def aW6 (o : Oper) (k : Nat) : Bool := o.after.toList.any fun e => Region.binds .any e && decide (e.on = k)
def aHd : List Oper → List (List Nat) → List (List Nat)
 | [], acc => acc
 | o :: r, acc => aHd r (acc ++ [(List.range acc.length).filter fun k => aW6 o k || (List.range acc.length).any fun j => aW6 o j && (acc.getD j []).contains k])
def aC2 (n : Nat) (ops : List Oper) : Bool :=
 (ops.zipIdx.all fun p => p.1.after.toList.all fun e => !Region.binds .any e || decide (e.on < p.2)) &&
 ((aHd ops []).zipIdx.all fun p => decide (p.2 < n) || (List.range p.2).all fun k => p.1.contains k)
theorem aPG {o : Oper} {k : Nat} : aW6 o k = true ↔ ∃ e ∈ o.after, Region.binds .any e = true ∧ e.on = k := by
 simp only [aW6, List.any_eq_true, Bool.and_eq_true, decide_eq_true_eq, Array.mem_toList_iff]
theorem aPH {ops : List Oper} : ∀ (r : List Oper) (acc : List (List Nat)), acc.length + r.length = ops.length → (∀ j, ops[acc.length + j]? = r[j]?) →
  (∀ (i : Nat) (S : List Nat), acc[i]? = some S → ∀ k ∈ S, ∀ L : Nat → Prop, (∀ j o, ops[j]? = some o → L j → ∀ e ∈ o.after, Region.binds .any e = true → L e.on) → (∀ o, ops[i]? = some o → ∀ e ∈ o.after, Region.binds .any e = true → L e.on) → L k) →
  (aHd r acc).length = ops.length ∧ ∀ (i : Nat) (S : List Nat), (aHd r acc)[i]? = some S → ∀ k ∈ S, ∀ L : Nat → Prop, (∀ j o, ops[j]? = some o → L j → ∀ e ∈ o.after, Region.binds .any e = true → L e.on) → (∀ o, ops[i]? = some o → ∀ e ∈ o.after, Region.binds .any e = true → L e.on) → L k
 | [], acc, hl, _, h => ⟨by simpa [aHd] using hl, h⟩
 | o :: r, acc, hl, hr, h => by
  simp only [aHd]
  have ho : ops[acc.length]? = some o := by have := hr 0; simpa using this
  refine aPH r _ (by simp at hl ⊢; omega) (fun j => by have := hr (j + 1); simp only [List.length_append, List.length_singleton, List.getElem?_cons_succ] at this ⊢; rw [← this]; congr 1; omega) fun i S hS k hk L hL hi => ?_
  rcases Nat.lt_trichotomy i acc.length with hlt | heq | hgt
  ·rw [List.getElem?_append_left hlt] at hS
   exact h i S hS k hk L hL hi
  ·subst heq
   simp only [List.getElem?_concat_length, Option.some.injEq] at hS
   subst hS
   simp only [List.mem_filter, List.mem_range, Bool.or_eq_true, List.any_eq_true, Bool.and_eq_true] at hk
   obtain ⟨_, hk⟩ := hk
   rcases hk with hk | ⟨j, hj, hd, hc⟩
   ·obtain ⟨e, he, hb, rfl⟩ := aPG.1 hk
    exact hi o ho e he hb
   ·obtain ⟨e, he, hb, rfl⟩ := aPG.1 hd
    have hLj := hi o ho e he hb
    have hj : e.on < acc.length := hj
    have hS' : acc[e.on]? = some (acc.getD e.on []) := by rw [List.getD_eq_getElem?_getD, List.getElem?_eq_getElem hj]; rfl
    exact h e.on _ hS' k (by simpa using hc) L hL (fun o' ho' e' he' hb' => hL e.on o' ho' hLj e' he' hb')
  ·rw [List.getElem?_eq_none (by simp; omega)] at hS; cases hS
theorem iH {n : Nat} {ops : List Oper} (h : aC2 n ops = true) {i : Nat} {o : Oper} (ho : ops[i]? = some o) : (∀ e ∈ o.after, Region.binds .any e = true → e.on < i) ∧
  (n ≤ i → ∀ L : Nat → Prop, (∀ j o, ops[j]? = some o → L j → ∀ e ∈ o.after, Region.binds .any e = true → L e.on) → (∀ e ∈ o.after, Region.binds .any e = true → L e.on) → ∀ k, k < i → L k) := by
 simp only [aC2, Bool.and_eq_true] at h
 obtain ⟨h1, h2⟩ := h
 refine ⟨fun e he hb => ?_, fun hn L hL hi k hk => ?_⟩
 ·have := List.all_eq_true.1 h1 (o, i) (by rw [List.mem_zipIdx_iff_getElem?]; exact ho)
  have := List.all_eq_true.1 this e (Array.mem_toList_iff.2 he)
  simpa [hb] using this
 ·obtain ⟨q1, q2⟩ := aPH (ops := ops) ops [] (by simp) (fun j => by simp) (fun i S hS => by simp at hS)
  have hil : i < ops.length := iH.get_lt' ho
  have hS : (aHd ops [])[i]? = some ((aHd ops [])[i]'(by omega)) := List.getElem?_eq_getElem _
  have := List.all_eq_true.1 h2 (_, i) (by rw [List.mem_zipIdx_iff_getElem?]; exact hS)
  simp only [Bool.or_eq_true, decide_eq_true_eq] at this
  have := List.all_eq_true.1 (this.resolve_left (by omega)) k (List.mem_range.2 hk)
  exact q2 i _ hS k (by simpa using this) L hL (fun o' ho' => by rw [ho] at ho'; cases ho'; exact hi)
where
 get_lt' {ops : List Oper} {i : Nat} {o : Oper} (ho : ops[i]? = some o) : i < ops.length := by
  rcases Nat.lt_or_ge i ops.length with h | h
  ·exact h
  ·rw [List.getElem?_eq_none h] at ho; cases ho
theorem aPI (hE : gN P E) {ops : List Oper} {Q : Exit → Act → World → Prop} (hok : ∀ o ∈ ops, fJ nt o = true) {K : St → List Obj → Prop} (hK : ∀ env h c a w, K env h → Sim E M w0 nt ds c env h a w → Q .normal a w) {n : Nat} (ht : aC2 n ops = true) :
  ∀ (m i : Nat), i + m = ops.length → n ≤ i → ∀ (listed : Array Bool), listed.size = ops.length → (∀ k, k < ops.length → (listed.getD k false = true ↔ k < i)) → ∀ (env : St) (h : List Obj) (c : Ctx) (a : Act) (w : World), sL E ops (ops.drop i) env h K → Sim E M w0 nt ds c env h a w → wpAny P .any ops.toArray Q m listed a w
 | 0, i, hi, hni, listed, hsz, hl, env, h, c, a, w, hs, hsim => by
  rw [List.drop_eq_nil_of_le (by omega)] at hs
  refine ⟨?_, hK env h c a w hs hsim⟩
  rw [List.eq_nil_iff_forall_not_mem]
  intro j hj
  obtain ⟨h1, o, ho, _⟩ := mem_ready.1 hj
  have ho : ops[j]? = some o := by simpa using ho
  have hjl := iH.get_lt' ho
  have := (hl j hjl).2 (by omega)
  have hlt : j < listed.size := by omega
  simp [hlt] at h1 this
  rw [this] at h1; cases h1
 | m + 1, i, hi, hni, listed, hsz, hl, env, h, c, a, w, hs, hsim => by
  have hil : i < ops.length := by omega
  have hio : ops[i]? = some ops[i] := List.getElem?_eq_getElem hil
  refine ⟨fun hr => ?_, fun j hj => ?_⟩
  ·exfalso
   have hmem : i ∈ Region.ready .any ops.toArray listed := by
    rw [mem_ready]
    have hlt : i < listed.size := by omega
    have hun : ¬ listed.getD i false = true := fun h => by have := (hl i hil).1 h; omega
    refine ⟨by simp [hlt] at hun ⊢; exact hun, ops[i], by simp [hil], fun e he hb => ?_⟩
    exact (hl _ (by have := (iH ht hio).1 e he hb; omega)).2 ((iH ht hio).1 e he hb)
   rw [hr] at hmem; cases hmem
  ·obtain ⟨h1, o, ho, hall⟩ := mem_ready.1 hj
   have ho : ops[j]? = some o := by simpa using ho
   have hjl := iH.get_lt' ho
   have hji : j = i := by
    rcases Nat.lt_trichotomy j i with hlt | heq | hgt
    ·have := (hl j hjl).2 hlt
     have hlt : j < listed.size := by omega
     simp [hlt] at h1 this
     rw [this] at h1; cases h1
    ·exact heq
    ·have := (iH ht ho).2 (by omega) (fun k => k < ops.length → listed.getD k false = true) (fun k o' ho' hk e he hb => fun hlt => by
      have hkl := iH.get_lt' ho'
      have h3 := (iH ht ho').1 e he hb
      have := (hl k hkl).1 (hk hkl)
      exact (hl _ hlt).2 (by omega)) (fun e he hb _ => hall e he hb) i hgt hil
     have := (hl i hil).1 this
     omega
   subst hji
   refine aW5 hE hok hil hs hsim fun env' h' c' a' w' hs' hsim' => ?_
   refine aPI hE hok hK ht m (j + 1) (by omega) (by omega) (listed.setIfInBounds j true) (by simp [hsz]) (fun k hk => ?_) env' h' c' a' w' hs' hsim'
   by_cases e : j = k
   ·subst e
    have : j < listed.size := by omega
    simp [this]
   ·rw [getD_set_ne false e, hl k hk]
    omega
theorem aU2 {pre tail : List Oper} {Q : Exit → Act → World → Prop} {i : Nat} {o : Oper} (ho : pre[i]? = some o) (hg : ∀ j p, o.guard = some (j, p) → j < pre.length) {K : Act → World → Prop} {a : Act} {w : World} (h : wpOp P pre.toArray Q i K a w) : wpOp P (pre ++ tail).toArray Q i K a w := by
 have hil : i < pre.length := iH.get_lt' ho
 have ho' : (pre ++ tail)[i]? = some o := by rw [List.getElem?_append_left hil]; exact ho
 have hw : Region.wanted o (yielded (pre ++ tail).toArray a.tmps) = Region.wanted o (yielded pre.toArray a.tmps) := by
  cases hgd : o.guard with
  | none => simp [Region.wanted, hgd]
  | some jp =>
   obtain ⟨j, p⟩ := jp
   have := hg j p hgd
   simp only [Region.wanted, hgd, yielded, List.getElem?_toArray, List.getElem?_append_left this]
 unfold wpOp at h ⊢
 simp only [List.getElem?_toArray, ho, ho'] at h ⊢
 rw [hw]; exact h
theorem aGo : ∀ (l : List Oper) (i : Nat), (dK l i).Pairwise (fun p q => p.1 < q.1)
 | [], i => List.Pairwise.nil
 | o :: r, i => by
  simp only [dK]
  split
  ·refine List.pairwise_cons.2 ⟨fun p hp => ?_, aGo r (i + 1)⟩
   obtain ⟨_, _, h, _⟩ := rQ hp
   simp only
   omega
  ·exact aGo r (i + 1)
theorem zN (n k : Nat) : (Array.replicate n false).getD k false = false := by
 by_cases h : k < n <;> simp [h]
theorem aNg (hE : gN P E) (hmix : P.follows .mixedOrders = true) {pre tail : List Oper} {Q : Exit → Act → World → Prop} (hok : ∀ o ∈ pre ++ tail, fJ nt o = true) (hu : zT pre = true) (hany : aIi pre = true) (ht : aC2 pre.length (pre ++ tail) = true) {c : Ctx} {a : Act} {w : World} (hs : Sim E M w0 nt ds c env h a w) {K' : St → List Obj → Prop}
  (hv : vcA E h env pre 0 [] (fun acc => K' (lS E.T (dK pre 0) (iM acc env) h).1 (lS E.T (dK pre 0) (iM acc env) h).2))
  (htail : ∀ env h c a w (listed : Array Bool), listed.size = (pre ++ tail).length → (∀ k, k < (pre ++ tail).length → (listed.getD k false = true ↔ k < pre.length)) → K' env h → Sim E M w0 nt ds c env h a w → wpAny P .any (pre ++ tail).toArray Q tail.length listed a w) {id : Nat} : (Code.region id (pre ++ tail).toArray true).wp P Q a w := by
 obtain ⟨F, f1, f2, f3⟩ := aBP pre 0 [] _ hv
 have hF : sK E h env pre F := ⟨f1, fun i o ho => by have := f2 i o ho; simpa using this⟩
 simp only [Nat.zero_add] at f3
 refine wp_region_any hmix ?_
 have hlat : dJ c w c { w with drawn := w.drawn + 1 } := ⟨.refl _, fun b hb => rfl⟩
 have hdr : Sim E M w0 nt ds c env h a { w with drawn := w.drawn + 1 } :=
  ⟨hs.good.step hlat rfl ⟨rfl, rfl, rfl, Nat.le_refl _, fun _ _ _ => rfl⟩ (fun _ _ _ _ _ => rfl) hs.good.sfin (fun _ hb => .inl hb), oW.mono (w := w) (w' := { w with drawn := w.drawn + 1 }) (fun _ hb => hb) hlat.same hs.glob, hs.env.keep hlat, hs.size, hs.defers⟩
 generalize ({ w with drawn := w.drawn + 1 } : World) = w at hdr
 clear hs hlat hv
 have hokp : ∀ o ∈ pre, fJ nt o = true := fun o ho => hok o (by simp [ho])
 have hanyI : ∀ i o, pre[i]? = some o → (∀ e ∈ o.after, Region.binds .any e = true → e.on < i) ∧ (∀ j p, o.guard = some (j, p) → ∃ e ∈ o.after, Region.binds .any e = true ∧ e.on = j) ∧
   (∀ t, Operand.tmp t ∈ o.op.operands → ∀ k ok, pre[k]? = some ok → ok.dst = some t → k = i ∨ (k < i ∧ ∃ e ∈ o.after, Region.binds .any e = true ∧ e.on = k) ∨ (i < k ∧ ∃ e ∈ ok.after, Region.binds .any e = true ∧ e.on = i)) := by
  intro i o ho
  have hi : i < pre.length := by
   rcases Nat.lt_or_ge i pre.length with h | h
   ·exact h
   ·rw [List.getElem?_eq_none h] at ho; cases ho
  simp only [aIi, List.all_eq_true, List.mem_range] at hany
  have := hany i hi
  rw [ho] at this
  simp only [Bool.and_eq_true, List.all_eq_true, Array.mem_toList_iff] at this
  obtain ⟨⟨h1, h2⟩, h3⟩ := this
  refine ⟨fun e he hb => ?_, fun j p hg => ?_, fun t ht k ok hk hd => ?_⟩
  ·have := h1 e he
   simpa [hb] using this
  ·rw [hg] at h2
   simp only [List.any_eq_true, Bool.and_eq_true, decide_eq_true_eq, Array.mem_toList_iff] at h2
   exact h2
  ·have := h3 _ ht
   simp only [List.all_eq_true, List.mem_range] at this
   have hkl : k < pre.length := by
    rcases Nat.lt_or_ge k pre.length with h | h
    ·exact h
    ·rw [List.getElem?_eq_none h] at hk; cases hk
   have := this k hkl
   rw [hk] at this
   simp only [hd, ne_eq, not_true_eq_false, decide_false, Bool.false_or, Bool.or_eq_true, decide_eq_true_eq, Bool.and_eq_true, List.any_eq_true, Array.mem_toList_iff] at this
   rcases this with (h | h) | h
   ·exact .inl h
   ·exact .inr (.inl h)
   ·exact .inr (.inr h)
 have main : ∀ (cnt : Nat) (listed : Array Bool), listed.size = (pre ++ tail).length → ((List.range pre.length).filter fun k => !listed.getD k false).length = cnt → (∀ k, pre.length ≤ k → listed.getD k false = false) →
   (∀ k o, pre[k]? = some o → listed.getD k false = true → ∀ e ∈ o.after, Region.binds .any e = true → listed.getD e.on false = true) →
   ∀ (c' : Ctx) (a : Act) (w' : World) (B : Nat → Nat), Mid E M w0 nt ds h env pre F c w (fun k => listed.getD k false = true) c' a w' → aSO E.T (dK pre 0) w (fun k => listed.getD k false = true) c' a w' B → wpAny P .any (pre ++ tail).toArray Q (cnt + tail.length) listed a w' := by
  intro cnt
  induction cnt with
  | zero =>
   intro listed hsz hcnt hlate hcl c' a w' B hm hf
   have hall : ∀ k, k < pre.length → listed.getD k false = true := fun k hk => by
    have := List.eq_nil_of_length_eq_zero hcnt
    rw [List.filter_eq_nil_iff] at this
    have := this k (List.mem_range.2 hk)
    simpa using this
   have hsim := aNY hF hdr.glob (xI (l2 := fun k => k < pre.length) (fun k hk => ⟨fun _ => hk, fun _ => hall k hk⟩) hF hm)
   obtain ⟨c2, hsim2⟩ := aKd hE (dK pre 0) _ _ _ B hsim (fun p hp => by
    obtain ⟨o, q1, _, q2, q3, q4⟩ := rQ hp
    simp only [Nat.sub_zero] at q1
    have hpl : p.1 < pre.length := iH.get_lt' q1
    obtain ⟨ct, r1, r2, r3, r4, r5, r6⟩ := hf.at_ p hp (hall _ hpl)
    obtain ⟨d, s1, s2, s3, s4⟩ := hF.step p.1 o q1
    have hcond := s3 (by rw [q3]; trivial)
    simp only [opA, pv, q2, r1] at hcond
    refine ⟨ct, r1, hcond, r2, Nat.le_trans hdr.good.keeps.size r3, r5, r6, fun i o' ho' e => ?_⟩
    rw [bS hm.later.le (by rw [hdr.good.n]; exact qQ ho')] at e
    have := (hdr.good.own i o' _ ho' e).2.1
    omega) ((aGo pre 0).imp_of_mem fun {p q} hp hq hlt e => by
    obtain ⟨o, q1, _⟩ := rQ hp
    obtain ⟨o', q1', _⟩ := rQ hq
    simp only [Nat.sub_zero] at q1 q1'
    have := hf.inj p hp q hq (hall _ (iH.get_lt' q1)) (hall _ (iH.get_lt' q1')) e
    omega)
   rw [Nat.zero_add]
   refine htail _ _ c2 a w' listed hsz (fun k hk => ⟨fun hl => ?_, hall k⟩) f3 hsim2
   rcases Nat.lt_or_ge k pre.length with h | h
   ·exact h
   ·rw [hlate k h] at hl; cases hl
  | succ cnt ih =>
   intro listed hsz hcnt hlate hcl c' a w' B hm hf
   rw [show cnt + 1 + tail.length = (cnt + tail.length) + 1 from by omega]
   have hpl : ∀ k, k < pre.length → (pre ++ tail)[k]? = pre[k]? := fun k hk => List.getElem?_append_left hk
   refine ⟨fun hr => ?_, fun i hi => ?_⟩
   ·exfalso
    have hex : ∃ k, k < pre.length ∧ listed.getD k false = false := by
     have hne : ((List.range pre.length).filter fun k => !listed.getD k false) ≠ [] := fun e => by rw [e] at hcnt; cases hcnt
     obtain ⟨k, hk⟩ := List.exists_mem_of_ne_nil _ hne
     simp only [List.mem_filter, List.mem_range, Bool.not_eq_true'] at hk
     exact ⟨k, hk⟩
    have hmin : ∃ k, (k < pre.length ∧ listed.getD k false = false) ∧ ∀ j, j < k → ¬ (j < pre.length ∧ listed.getD j false = false) := by
     obtain ⟨k, hk⟩ := hex
     induction k using Nat.strongRecOn with
     | _ k ihk =>
      by_cases hh : ∃ j, j < k ∧ (j < pre.length ∧ listed.getD j false = false)
      ·obtain ⟨j, hj, hp⟩ := hh; exact ihk j hj hp
      ·exact ⟨k, hk, fun j hj hp => hh ⟨j, hj, hp⟩⟩
    obtain ⟨k, ⟨hk, hun⟩, hlow⟩ := hmin
    have hmem : k ∈ Region.ready .any (pre ++ tail).toArray listed := by
     rw [mem_ready]
     have hlt : k < listed.size := by rw [hsz]; simp; omega
     refine ⟨by simp [hlt] at hun ⊢; exact hun, pre[k], by rw [List.getElem?_toArray, hpl k hk]; exact List.getElem?_eq_getElem hk, fun e he hb => ?_⟩
     have := (hanyI k _ (List.getElem?_eq_getElem hk)).1 e he hb
     have hn := hlow e.on this
     by_cases hh : listed.getD e.on false = true
     ·exact hh
     ·exact absurd ⟨by omega, by simpa using hh⟩ hn
    rw [hr] at hmem; cases hmem
   ·obtain ⟨h1, o, ho, hall⟩ := mem_ready.1 hi
    have ho : (pre ++ tail)[i]? = some o := by simpa using ho
    have hil0 := iH.get_lt' ho
    have hex : ∃ k, k < pre.length ∧ listed.getD k false = false := by
     have hne : ((List.range pre.length).filter fun k => !listed.getD k false) ≠ [] := fun e => by rw [e] at hcnt; cases hcnt
     obtain ⟨k, hk⟩ := List.exists_mem_of_ne_nil _ hne
     simp only [List.mem_filter, List.mem_range, Bool.not_eq_true'] at hk
     exact ⟨k, hk⟩
    have hil : i < pre.length := by
     rcases Nat.lt_or_ge i pre.length with h | h
     ·exact h
     ·obtain ⟨k, hk, hun⟩ := hex
      have hk2 := (iH ht ho).2 h (fun k => listed.getD k false = true) (fun j o' ho' hj e he hb => by
       have hjp : j < pre.length := by
        rcases Nat.lt_or_ge j pre.length with h' | h'
        ·exact h'
        ·rw [hlate j h'] at hj; cases hj
       exact hcl j o' (by rw [← hpl j hjp]; exact ho') hj e he hb) (fun e he hb => hall e he hb) k (by omega)
      rw [hun] at hk2; cases hk2
    rw [hpl i hil] at ho
    have hlt : i < listed.size := by omega
    have hni : ¬ listed.getD i false = true := by simp [hlt] at h1 ⊢; exact h1
    obtain ⟨a1, a2, a3⟩ := hanyI i o ho
    obtain ⟨d, s1, _, _, _⟩ := hF.step i _ ho
    have hokO := hokp o (List.mem_of_getElem? ho)
    refine aU2 ho (fun j p hg => ?_) ?_
    ·obtain ⟨e, he, hb, hon⟩ := a2 j p hg
     have := a1 e he hb
     omega
    refine aJ4 hE hF hokp hdr.glob hm ho hni (fun t ht k ok hk hd => ?_) (fun j p hg => ?_) (fun k ok hk hd => aJt hu ho hk hd (by rw [s1]; simp)) fun c'' a'' w'' hm' hx => ?_
    ·rcases a3 t ht k ok hk hd with h | ⟨h, e, he, hb, hon⟩ | ⟨h, e, he, hb, hon⟩
     ·exact ⟨fun h' => by omega, fun h' => by omega⟩
     ·exact ⟨fun _ => hon ▸ hall e he hb, fun h' => by omega⟩
     ·exact ⟨fun h' => by omega, fun _ hkl => hni (hon ▸ hcl k ok hk hkl e he hb)⟩
    ·obtain ⟨e, he, hb, hon⟩ := a2 j p hg
     exact hon ▸ hall e he hb
    ·have hset : ∀ k, (listed.setIfInBounds i true).getD k false = true ↔ (listed.getD k false = true ∨ k = i) := fun k => by
      by_cases e : i = k
      ·subst e; simp [hlt]
      ·rw [getD_set_ne false e]
       exact ⟨.inl, fun h => h.resolve_right (fun h => e h.symm)⟩
     obtain ⟨B', hf'⟩ := hf.step ho (by rw [hm.size]; exact hokO) hu hni (by rw [s1]; simp) hm.good.sfin hx
     refine ih (listed.setIfInBounds i true) (by simp [hsz]) ?_ (fun k hk => ?_) (fun k o' hk hkl e he hb => ?_) c'' a'' w'' B' (xI (fun k _ => (hset k).symm) hF hm') ⟨hf'.size, fun p hp hl => hf'.at_ p hp ((hset _).1 hl), fun p hp q hq hl1 hl2 => hf'.inj p hp q hq ((hset _).1 hl1) ((hset _).1 hl2)⟩
     ·have hfil : ((List.range pre.length).filter fun k => !(listed.setIfInBounds i true).getD k false) = ((List.range pre.length).filter fun k => !listed.getD k false).filter (fun k => decide (k ≠ i)) := by
       rw [List.filter_filter]
       apply List.filter_congr
       intro k _
       rw [Bool.eq_iff_iff]
       by_cases e : k = i
       ·subst e; simp [hlt]
       ·have h2 : (listed.setIfInBounds i true).getD k false = listed.getD k false := getD_set_ne false (fun h => e h.symm)
        rw [h2]
        simp [e]
      rw [hfil]
      have hnd : ((List.range pre.length).filter fun k => !listed.getD k false).Nodup := List.nodup_range.filter _
      have hmem : i ∈ ((List.range pre.length).filter fun k => !listed.getD k false) := by
       simp only [List.mem_filter, List.mem_range]
       exact ⟨hil, by simpa using hni⟩
      have := hnd.erase_eq_filter i
      have e2 : (((List.range pre.length).filter fun k => !listed.getD k false).filter (fun k => decide (k ≠ i))) = ((List.range pre.length).filter fun k => !listed.getD k false).erase i := by
       rw [this]
       apply List.filter_congr
       intro k _
       by_cases e : k = i <;> simp [e]
      rw [e2, List.length_erase_of_mem hmem, hcnt]; rfl
     ·rw [getD_set_ne false (by omega)]; exact hlate k hk
     ·rcases (hset k).1 hkl with h | h
      ·exact (hset _).2 (.inl (hcl k o' hk h e he hb))
      ·subst h
       rw [ho] at hk
       cases hk
       exact (hset _).2 (.inl (hall e he hb))
 have hstart := main pre.length (Array.replicate (pre ++ tail).length false) (by simp) (by
   rw [List.filter_eq_self.2 (fun k _ => by rw [zN]; rfl)]; simp) (fun k _ => zN _ _) (fun k o ho hl => by rw [zN] at hl; cases hl) c a w (fun _ => 0) (xI (fun k hk => ⟨False.elim, fun h => by rw [zN] at h; cases h⟩) hF (aGk hdr)) ⟨Nat.le_refl _, (fun p hp hl => by rw [zN] at hl; cases hl), (fun p hp q hq hl => by rw [zN] at hl; cases hl)⟩
 simpa using hstart
theorem aU3 (hE : gN P E) (hmix : P.follows .mixedOrders = true) {pre tail : List Oper} {Q : Exit → Act → World → Prop} (hok : ∀ o ∈ pre ++ tail, fJ nt o = true) (hu : zT pre = true) (hany : aIi pre = true) (ht : aC2 pre.length (pre ++ tail) = true) {c : Ctx} {a : Act} {w : World} (hs : Sim E M w0 nt ds c env h a w) {K' : St → List Obj → Prop}
  (hv : vcA E h env pre 0 [] (fun acc => sL E (pre ++ tail) tail (lS E.T (dK pre 0) (iM acc env) h).1 (lS E.T (dK pre 0) (iM acc env) h).2 K')) (hK : ∀ env h c a w, K' env h → Sim E M w0 nt ds c env h a w → Q .normal a w) {id : Nat} : (Code.region id (pre ++ tail).toArray true).wp P Q a w :=
 aNg hE hmix hok hu hany ht hs (K' := fun env h => sL E (pre ++ tail) tail env h K') hv fun env h c a w listed hsz hl hk hsim =>
  aPI hE hok hK ht tail.length pre.length (by simp) (Nat.le_refl _) listed hsz hl env h c a w (by rw [List.drop_left]; exact hk) hsim
end
end Go.Vc
namespace Go.Vc
open Go.RowKit
def aZt : List Obj → List (Nat × Obj) → List Obj
 | h, [] => h
 | h, (i, o) :: r => aZt (h.set i o) r
def aEF (env : St) (keep : List Nat) (u : St) : St := u ++ keep.map fun t => (t, look env t)
theorem aU4 {α : Type} (a s : α) : (List.replicate 1 a).set 0 s = [s] := rfl
theorem aU5 {α : Type} (a s k : α) : ((List.replicate 2 a).set 0 s).set 1 k = [s, k] := rfl
theorem aU6 {α : Type} (a s k m : α) : (((List.replicate 3 a).set 0 s).set 1 k).set 2 m = [s, k, m] := rfl
def elB (P : Program) (l : List (TypeId × Ty)) (el : TypeId → TypeId) : Bool := l.all fun p => match p.2 with
 | .sl _ => match P.underlying p.1 with
  | some (.slice e) => decide (e = el p.1)
  | _ => false
 | _ => true
theorem aW7 {P : Program} {l : List (TypeId × Ty)} {el : TypeId → TypeId} (h : elB P l el = true) : ∀ t ct, aD7 l t = some (.sl ct) → P.underlying t = some (.slice (el t)) := fun t ct ht => by
 have := List.all_eq_true.1 h _ (aM0 ht)
 simp only at this
 split at this
 ·rename_i e he; rw [he, of_decide_eq_true this]
 ·cases this
section
variable {F : Fr} {Q : Exit → Act → World → Prop} {env : St} {h : List Obj}
theorem aTN {x : Code} (hx : Tri F x (Exit.noGoto Q) env h) : Tri F (.scope x) Q env h := fun hok c a w hs =>
 wp_scope_straight (hx (by simpa [gW] using hok) c a w hs)
end
end Go.Vc
namespace Go.Vc
open Go.RowKit
structure Pan where
 k : TypeId
 t : Ty
 x : t.den
inductive aYR where
 | ret (v : AV) (h : List Obj)
 | pan (p : Pan) (h : List Obj)
structure zZ where
 D : Type
 av : D → List AV
 hp : D → List Obj
 m : Nat
 pre : D → Prop
 out : D → aYR
def GM (sp : zZ) (c : Ctx) (d : sp.D) : Perm := ⟨fun b => ∃ i o, (sp.hp d)[i]? = some o ∧ ownBlock c i o = some b, c.S, sp.m, c.hd⟩
structure GIn (G : Nat → AV) (sp : zZ) (c : Ctx) (w : World) (d : sp.D) (vs : List Value) : Prop where
 good : Good (GM sp c d) w c (sp.hp d) w
 glob : oW G c.S w
 len : vs.length = (sp.av d).length
 val : ∀ i (h1 : i < (sp.av d).length) (h2 : i < vs.length), aS c w (sp.av d)[i] vs[i]
def aPJ (k : TypeId) (u : Value) : List PanicEntry := [{ v := .iface k u, recovered := false, goexit := false }]
def aU7 (sp : zZ) (c : Ctx) (w : World) (d : sp.D) (e : Ending) (w' : World) : Prop :=
 ∃ c', match sp.out d with
  | .ret v h' => ∃ u, e = .returned u ∧ Good (GM sp c d) w c' h' w' ∧ aS c' w' v u
  | .pan p h' => ∃ u, e = .panicked (aPJ p.k u) ∧ Good (GM sp c d) w c' h' w' ∧ cL w' c'.S p.t p.x u
def GOK (P : Program) (G : Nat → AV) (f : FuncId) (sp : zZ) : Prop :=
 ∀ (c : Ctx) (w : World) (d : sp.D) (vs : Array Value), sp.pre d → GIn G sp c w d vs.toList → Calls P f vs w (aU7 sp c w d)
def aRp (μ : List Nat) : List Nat → Option (List Nat)
 | [] => some []
 | i :: r => match μ[i]?, aRp μ r with
  | some j, some l => some (j :: l)
  | _, _ => none
def aFk (μ : List Nat) : AV → AV
 | .own i => match μ[i]? with
  | some j => .own j
  | none => .junk
 | .ptr i p => match μ[i]? with
  | some j => .ptr j p
  | none => .junk
 | .sub i s off n => match μ[i]? with
  | some j => .sub j s off n
  | none => .junk
 | .mp i => match μ[i]? with
  | some j => .mp j
  | none => .junk
 | .fn f l1 l2 => match aRp μ l1, aRp μ l2 with
  | some l1, some l2 => .fn f l1 l2
  | _, _ => .junk
 | .agg _ => .junk
 | .flat _ => .junk
 | .tup _ => .junk
 | v => v
def aBS (μ : List Nat) : AV → AV
 | .agg vs => .agg (vs.map (aFk μ))
 | v => aFk μ v
def emb (μ : List Nat) : AV → AV
 | .tup vs => .tup (vs.map (aBS μ))
 | v => aBS μ v
def aKe (μ : List Nat) : Obj → Obj
 | .box n v => .box n (aBS μ v)
 | o => o
def uR : List Nat → List Obj → List Obj
 | [], h => h
 | i :: r, h => uR r (h.set i .dead)
def aAa : List (Nat × Obj) → List Obj → List Obj
 | [], h => h
 | (i, o) :: r, h => aAa r (h.set i o)
def vZ (σ : List Nat) (m n k : Nat) : List Nat := σ.take m ++ List.range' n (k - m)
def aL9 (σ : List Nat) (m : Nat) (h h' : List Obj) : List Obj :=
 aAa ((σ.take m).zip ((h'.take m).map (aKe (vZ σ m h.length h'.length)))) (uR (σ.drop m) h) ++ (h'.drop m).map (aKe (vZ σ m h.length h'.length))
section
variable {P : Program} {E : Env} {M : Perm} {w0 : World} {c c' : Ctx} {h : List Obj} {w w' : World}
structure Emb (μ : List Nat) (c' cN : Ctx) : Prop where
 S : ∀ b, c'.S b → cN.S b
 hd : ∀ i j, μ[i]? = some j → j < cN.n ∧ cN.hd j = c'.hd i
theorem aN6 {μ : List Nat} {cN : Ctx} (he : Emb μ c' cN) : ∀ {l l' : List Nat}, aRp μ l = some l' → (∀ j ∈ l', j < cN.n) ∧ l'.map cN.hd = l.map c'.hd
 | [], l', h => by simp [aRp] at h; subst h; exact ⟨(fun j hj => by cases hj), rfl⟩
 | i :: r, l', h => by
  simp only [aRp] at h
  split at h
  ·rename_i j l h1 h2
   cases h
   obtain ⟨q1, q2⟩ := he.hd i j h1
   obtain ⟨k1, k2⟩ := aN6 he h2
   refine ⟨fun k hk => ?_, by simp [q2, k2]⟩
   rcases List.mem_cons.1 hk with rfl | hk
   ·exact q1
   ·exact k1 k hk
  ·cases h
theorem aKf {μ : List Nat} {cN : Ctx} (he : Emb μ c' cN) : ∀ {v : AV} {cs : List Value}, aL c' w v cs → aL cN w (aFk μ v) cs := by
 intro v cs hr
 have hS : c'.le ⟨cN.S, c'.hd, c'.n⟩ := ⟨he.S, Nat.le_refl _, fun _ _ => rfl⟩
 cases v <;> simp only [aFk] <;> (try trivial)
 case own i =>
  split
  ·rename_i j hp
   obtain ⟨q1, q2⟩ := he.hd i j hp
   simp only [aL] at hr ⊢
   rw [q2]
   exact ⟨q1, hr.2⟩
  ·trivial
 case ptr i p =>
  split
  ·rename_i j hp
   obtain ⟨q1, q2⟩ := he.hd i j hp
   simp only [aL] at hr ⊢
   rw [q2]
   exact ⟨q1, hr.2⟩
  ·trivial
 case sub i s off n =>
  split
  ·rename_i j hp
   obtain ⟨q1, q2⟩ := he.hd i j hp
   simp only [aL] at hr ⊢
   rw [q2]
   exact ⟨q1, hr.2⟩
  ·trivial
 case mp i =>
  split
  ·rename_i j hp
   obtain ⟨q1, q2⟩ := he.hd i j hp
   simp only [aL] at hr ⊢
   rw [q2]
   exact ⟨q1, hr.2⟩
  ·trivial
 case fn f l1 l2 =>
  split
  ·rename_i l1' l2' h1 h2
   obtain ⟨q1, q2⟩ := aN6 he h1
   obtain ⟨k1, k2⟩ := aN6 he h2
   simp only [aL] at hr ⊢
   rw [q2, k2]
   exact ⟨q1, k1, hr.2.2⟩
  ·trivial
 case val t x => exact aW.keep he.S (.refl _ _) t x cs hr
 case full t xs =>
  simp only [aL] at hr ⊢
  obtain ⟨a, n, e, hs⟩ := hr
  exact ⟨a, n, e, hs.keep he.S (.refl _ _) (fun x cs => aW.keep he.S (.refl _ _) t x cs)⟩
 case roa t x =>
  simp only [aL] at hr ⊢
  obtain ⟨b, off, ds, e, hb, hd, hc⟩ := hr
  exact ⟨b, off, ds, e, he.S b hb, aW.keep he.S (.refl _ _) t x ds hd, hc⟩
 all_goals exact hr
theorem aPK {μ : List Nat} {cN : Ctx} (he : Emb μ c' cN) : ∀ {vs : List AV} {cs : List Value}, jC c' w vs cs → jC cN w (vs.map (aFk μ)) cs
 | [], _, hr => hr
 | v :: r, _, ⟨c1, c2, e, h1, h2⟩ => ⟨c1, c2, e, aKf he h1, aPK he h2⟩
theorem aKg {μ : List Nat} {cN : Ctx} (he : Emb μ c' cN) {v : AV} {cs : List Value} (hr : aL c' w v cs) : aL cN w (aBS μ v) cs := by
 cases v
 case agg vs => exact aPK he hr
 all_goals exact aKf he hr
theorem aU8 (μ : List Nat) (v : AV) : aBS μ v = .junk ∨ (aBS μ v).isAgg = v.isAgg := by
 cases v <;> simp only [aBS, aFk] <;> first | exact .inr trivial | exact .inl trivial | exact .inr rfl | exact .inl rfl | (split <;> simp [AV.isAgg])
theorem aNh {μ : List Nat} {cN : Ctx} (he : Emb μ c' cN) {v : AV} {x : Value} (hr : tM c' w v x) (hj : aBS μ v ≠ .junk) : tM cN w (aBS μ v) x := by
 have ha := (aU8 μ v).resolve_left hj
 exact ⟨aKg he hr.1, by rw [ha]; exact hr.2.1, by rw [ha]; exact hr.2.2⟩
theorem aYS (μ : List Nat) (v : AV) : aBS μ v = .undef → v = .undef := by
 cases v <;> simp only [aBS, aFk] <;> first | exact fun _ => trivial | (intro h; cases h; done) | (intro h; rfl) | (intro h; split at h <;> cases h)
theorem aW8 (μ : List Nat) (v : AV) (vs : List AV) : aBS μ v ≠ .tup vs := by
 cases v <;> simp only [aBS, aFk] <;> first | (intro h; cases h; done) | (intro h; split at h <;> cases h)
theorem aW9 {μ : List Nat} {cN : Ctx} (he : Emb μ c' cN) {v : AV} {x : Value} (hr : aS c' w v x) (hj : ∀ vs, v = .tup vs → ∀ u ∈ vs, aBS μ u ≠ .junk) : aS cN w (emb μ v) x := by
 have main : ∀ v, (∀ vs, v ≠ .tup vs) → v ≠ .junk → v ≠ .undef → tM c' w v x → aS cN w (aBS μ v) x := fun v ht hn hu h1 => by
  by_cases hjk : aBS μ v = .junk
  ·rw [hjk]; trivial
  ·have := aNh he h1 hjk
   have e1 := aYS μ v
   have e2 := aW8 μ v
   generalize aBS μ v = u at this e1 e2 hjk
   cases u <;> first | exact this | exact absurd rfl hjk | exact absurd (e1 rfl) hu | exact absurd rfl (e2 _)
 cases v
 case junk => trivial
 case undef => exact hr
 case tup vs =>
  obtain ⟨xs, hx, hl, hv⟩ := hr
  refine ⟨xs, hx, by simpa using hl, fun i h1 h2 => ?_⟩
  simp only [List.length_map] at h1
  simp only [List.getElem_map]
  exact aNh he (hv i h1 h2) (hj vs rfl _ (List.getElem_mem h1))
 all_goals exact main _ (by simp) (by simp) (by simp) hr
theorem Good.rebase (hg : Good M w0 c h w) {m : Nat} (hm : m ≤ c.n) : Good ⟨fun b => ∃ i o, h[i]? = some o ∧ ownBlock c i o = some b, c.S, m, c.hd⟩ w c h w :=
 ⟨hg.n, .refl _ _, hg.sfin, fun b hb _ => .inl hb, hg.objs, fun i o b ho hb => ⟨.inr ⟨i, o, ho, hb⟩, (hg.own i o b ho hb).2⟩, hg.sep, hm, fun _ _ => rfl⟩
end
end Go.Vc
namespace Go.Vc
open Go.RowKit
theorem aA1 : ∀ (l : List (Nat × Obj)) (h : List Obj), (aAa l h).length = h.length
 | [], h => rfl
 | (i, o) :: r, h => by rw [aAa, aA1 r]; simp
theorem uS : ∀ (l : List Nat) (h : List Obj), (uR l h).length = h.length
 | [], h => rfl
 | i :: r, h => by rw [uR, uS r]; simp
theorem aEG : ∀ (l : List (Nat × Obj)) (h : List Obj) (i : Nat), (∀ p ∈ l, p.1 ≠ i) → (aAa l h)[i]? = h[i]?
 | [], h, i, _ => rfl
 | (j, o) :: r, h, i, hn => by
  rw [aAa, aEG r _ i (fun p hp => hn p (by simp [hp])), List.getElem?_set_ne (hn (j, o) (by simp))]
theorem aNi : ∀ (l : List (Nat × Obj)) (h : List Obj), (l.map (·.1)).Nodup → (∀ p ∈ l, p.1 < h.length) → ∀ p ∈ l, (aAa l h)[p.1]? = some p.2
 | [], h, _, _, p, hp => by cases hp
 | (j, o) :: r, h, hd, hl, p, hp => by
  simp only [List.map_cons, List.nodup_cons] at hd
  rcases List.mem_cons.1 hp with rfl | hp
  ·have : j < h.length := hl (j, o) (by simp)
   rw [aAa, aEG r _ j (fun q hq e => hd.1 (List.mem_map.2 ⟨q, hq, e⟩))]
   simp [this]
  ·rw [aAa]
   exact aNi r _ hd.2 (fun q hq => by rw [List.length_set]; exact hl q (by simp [hq])) p hp
theorem aC3 : ∀ (l : List Nat) (h : List Obj) (i : Nat), i ∉ l → (uR l h)[i]? = h[i]?
 | [], h, i, _ => rfl
 | j :: r, h, i, hn => by
  simp only [List.mem_cons, not_or] at hn
  rw [uR, aC3 r _ i hn.2, List.getElem?_set_ne (fun e => hn.1 e.symm)]
theorem aFl : ∀ (l : List Nat) (h : List Obj) (i : Nat) (o : Obj), i ∈ l → (uR l h)[i]? = some o → o = .dead
 | [], h, i, o, hi, _ => by cases hi
 | j :: r, h, i, o, hi, ho => by
  rw [uR] at ho
  by_cases hr : i ∈ r
  ·exact aFl r _ i o hr ho
  ·rw [aC3 r _ i hr] at ho
   have : i = j := by rcases List.mem_cons.1 hi with h | h; exact h; exact absurd h hr
   subst this
   by_cases hl : i < h.length
   ·simp [hl] at ho; exact ho.symm
   ·rw [List.getElem?_eq_none (by simp; omega)] at ho; cases ho
section
variable {P : Program} {E : Env} {M : Perm} {w0 : World} {c c' : Ctx} {h h' : List Obj} {w w' : World}
def cN (c c' : Ctx) (m n' : Nat) : Ctx := ⟨fun b => c.S b ∨ c'.S b, fun i => if i < c.n then c.hd i else c'.hd (m + (i - c.n)), c.n + (n' - m)⟩
theorem aZu (c c' : Ctx) (m n' : Nat) : c.le (cN c c' m n') := ⟨fun b hb => .inl hb, Nat.le_add_right _ _, fun i hi => by simp [cN, hi]⟩
theorem Good.frame (hg : Good M w0 c h w) {σ : List Nat} {m : Nat} (hd : σ.Nodup) (hσ : ∀ i ∈ σ, i < h.length) (hm : m ≤ σ.length) {Ml : Perm} (hMr : Ml.rd = c.S) (hMw : ∀ b, Ml.wr b → ∃ i o, i ∈ σ ∧ h[i]? = some o ∧ ownBlock c i o = some b) (hMm : Ml.m = m) (hMd : ∀ j, j < m → Ml.roots j = c.hd (σ.getD j 0))
  (hg' : Good Ml w c' h' w') : Good M w0 (cN c c' m h'.length) (aL9 σ m h h') w' ∧ dJ c w (cN c c' m h'.length) w' ∧ Emb (vZ σ m h.length h'.length) c' (cN c c' m h'.length) := by
 have hk := hg'.keeps
 have hroot := hg'.root
 rw [hMm] at hroot
 have hmn : m ≤ h'.length := by rw [← hg'.n]; exact hroot.1
 have hwrS : ∀ b, Ml.wr b → b < w.heap.size ∧ ¬ c.S b ∧ (w0.heap.size ≤ b ∨ M.wr b) := fun b hb => by
  obtain ⟨i, o, hi, ho, hob⟩ := hMw b hb
  obtain ⟨h1, h2, h3⟩ := hg.own i o b ho hob
  exact ⟨h2, h3, h1⟩
 have hlS : xE c.S w w' := fun b hb => hk.block b (hg.sfin b hb) (fun hw => (hwrS b hw).2.1 hb)
 have hl : dJ c w (cN c c' m h'.length) w' := ⟨aZu _ _ _ _, hlS⟩
 have hmu : ∀ j i, (vZ σ m h.length h'.length)[j]? = some i → (j < m ∧ i = σ.getD j 0 ∧ i < h.length ∧ i ∈ σ) ∨ (m ≤ j ∧ i = h.length + (j - m) ∧ j < h'.length) := fun j i hj => by
  unfold vZ at hj
  have hlt : (σ.take m).length = m := by rw [List.length_take]; omega
  by_cases hjm : j < m
  ·rw [List.getElem?_append_left (by rw [hlt]; exact hjm), List.getElem?_take, if_pos hjm] at hj
   have hmem := List.mem_of_getElem? hj
   exact .inl ⟨hjm, by simp [List.getD_eq_getElem?_getD, hj], hσ i hmem, hmem⟩
  ·rw [List.getElem?_append_right (by rw [hlt]; omega), hlt] at hj
   obtain ⟨hlt', e⟩ := List.getElem?_eq_some_iff.1 hj
   simp only [List.length_range'] at hlt'
   rw [List.getElem_range'] at e
   exact .inr ⟨by omega, by omega, by omega⟩
 have hhd : ∀ j i, (vZ σ m h.length h'.length)[j]? = some i → i < (cN c c' m h'.length).n ∧ (cN c c' m h'.length).hd i = c'.hd j := fun j i hj => by
  rcases hmu j i hj with ⟨h1, h2, h3, _⟩ | ⟨h1, h2, h3⟩
  ·refine ⟨by simp only [cN]; rw [hg.n]; omega, ?_⟩
   simp only [cN, hg.n, h3, if_true]
   rw [hroot.2 j h1, hMd j h1, h2]
  ·refine ⟨by simp only [cN]; rw [hg.n]; omega, ?_⟩
   simp only [cN, hg.n]
   rw [if_neg (by omega), h2]
   congr 1; omega
 have hemb : Emb (vZ σ m h.length h'.length) c' (cN c c' m h'.length) := ⟨fun b hb => .inr hb, hhd⟩
 have hcase : ∀ i o, (aL9 σ m h h')[i]? = some o → (i ∉ σ ∧ h[i]? = some o) ∨ o = .dead ∨ ∃ j oj, h'[j]? = some oj ∧ (vZ σ m h.length h'.length)[j]? = some i ∧ o = aKe (vZ σ m h.length h'.length) oj := fun i o ho => by
  unfold aL9 at ho
  have hlen : (aAa ((σ.take m).zip ((h'.take m).map (aKe (vZ σ m h.length h'.length)))) (uR (σ.drop m) h)).length = h.length := by rw [aA1, uS]
  have hmul : (vZ σ m h.length h'.length).length = h'.length := by
   unfold vZ; simp [List.length_take]; omega
  rcases Nat.lt_or_ge i h.length with hi | hi
  ·rw [List.getElem?_append_left (by rw [hlen]; exact hi)] at ho
   by_cases hin : ∃ j, j < m ∧ σ[j]? = some i
   ·obtain ⟨j, hj, hji⟩ := hin
    have hjh : j < h'.length := by omega
    have hmem : (i, aKe (vZ σ m h.length h'.length) h'[j]) ∈ (σ.take m).zip ((h'.take m).map (aKe (vZ σ m h.length h'.length))) := by
     refine List.mem_iff_getElem?.2 ⟨j, ?_⟩
     rw [List.getElem?_zip_eq_some]
     refine ⟨by rw [List.getElem?_take, if_pos hj]; exact hji, ?_⟩
     rw [List.getElem?_map, List.getElem?_take, if_pos hj, List.getElem?_eq_getElem hjh]; rfl
    have := aNi _ (uR (σ.drop m) h) (by
     have : ((σ.take m).zip ((h'.take m).map (aKe (vZ σ m h.length h'.length)))).map (·.1) = σ.take m := by
      rw [List.map_fst_zip]; simp [List.length_take]; omega
     rw [this]; exact hd.sublist (List.take_sublist _ _)) (fun p hp => by
     rw [uS]
     have := (List.of_mem_zip hp).1
     exact hσ _ (List.mem_of_mem_take this)) _ hmem
    simp only at this
    rw [this] at ho
    cases ho
    refine .inr (.inr ⟨j, h'[j], List.getElem?_eq_getElem hjh, ?_, rfl⟩)
    unfold vZ
    rw [List.getElem?_append_left (by rw [List.length_take]; omega), List.getElem?_take, if_pos hj]; exact hji
   ·rw [aEG _ _ i (fun p hp e => by
     have := (List.of_mem_zip hp).1
     rw [e] at this
     obtain ⟨j, hj, hji⟩ := List.mem_take_iff_getElem.1 this
     exact hin ⟨j, by omega, by rw [List.getElem?_eq_getElem (by omega), hji]⟩)] at ho
    by_cases hdrop : i ∈ σ.drop m
    ·exact .inr (.inl (aFl _ _ i o hdrop ho))
    ·rw [aC3 _ _ i hdrop] at ho
     refine .inl ⟨fun hmem => ?_, ho⟩
     rw [← List.take_append_drop m σ] at hmem
     rcases List.mem_append.1 hmem with hmem | hmem
     ·obtain ⟨j, hj, hji⟩ := List.mem_take_iff_getElem.1 hmem
      exact hin ⟨j, by omega, by rw [List.getElem?_eq_getElem (by omega), hji]⟩
     ·exact hdrop hmem
  ·rw [List.getElem?_append_right (by rw [hlen]; exact hi), hlen, List.getElem?_map, List.getElem?_drop] at ho
   cases hoj : h'[m + (i - h.length)]? with
   | none => rw [hoj] at ho; simp at ho
   | some oj =>
    rw [hoj] at ho
    simp only [Option.map_some, Option.some.injEq] at ho
    have hjl := qQ hoj
    refine .inr (.inr ⟨m + (i - h.length), oj, hoj, ?_, ho.symm⟩)
    unfold vZ
    rw [List.getElem?_append_right (by rw [List.length_take]; omega), List.length_take, Nat.min_eq_left hm, List.getElem?_range' (by omega)]
    congr 1; omega
 have hobj : ∀ j oj i, h'[j]? = some oj → (vZ σ m h.length h'.length)[j]? = some i → aIf (cN c c' m h'.length) w' i (aKe (vZ σ m h.length h'.length) oj) := fun j oj i hj hi => by
  have hr := hg'.objs j oj hj
  have hS : c'.le ⟨(cN c c' m h'.length).S, c'.hd, c'.n⟩ := ⟨hemb.S, Nat.le_refl _, fun _ _ => rfl⟩
  have e := (hhd j i hi).2
  cases oj with
  | dead => trivial
  | box n v =>
   obtain ⟨b, cells, et, q1, q2, q3, q4⟩ := hr
   exact ⟨b, cells, et, by rw [e]; exact q1, q2, q3, aKg hemb q4⟩
  | row et t xs =>
   obtain ⟨vals, q1, q2⟩ := hr
   exact ⟨vals, by rw [e]; exact q1, aW.keep hemb.S (.refl _ _) _ _ _ q2⟩
  | frz t xs =>
   show aW _ _ _ _ _
   rw [e]
   exact aW.keep hemb.S (.refl _ _) _ _ _ hr
  | map k v mm =>
   obtain ⟨b, es, clock, q1, q2, q3, q4⟩ := hr
   exact ⟨b, es, clock, by rw [e]; exact q1, q2, q3, fun x h1 h2 => ⟨(q4 x h1 h2).1.keep hemb.S (.refl _ _), (q4 x h1 h2).2.keep hemb.S (.refl _ _)⟩⟩
 have hown : ∀ j oj i b, h'[j]? = some oj → (vZ σ m h.length h'.length)[j]? = some i → ownBlock (cN c c' m h'.length) i (aKe (vZ σ m h.length h'.length) oj) = some b → ownBlock c' j oj = some b := fun j oj i b hj hi hb => by
  have e := (hhd j i hi).2
  cases oj <;> simp only [ownBlock, aKe, e] at hb ⊢ <;> exact hb
 have hfar : ∀ i o b j oj, i ∉ σ → h[i]? = some o → ownBlock c i o = some b → h'[j]? = some oj → ownBlock c' j oj ≠ some b := fun i o b j oj hi ho hb hj e => by
  have h1 := (hg.own i o b ho hb).2.1
  rcases (hg'.own j oj b hj e).1 with h2 | h2
  ·omega
  ·obtain ⟨i', o', hi', ho', hb'⟩ := hMw b h2
   exact hi (hg.sep i i' o o' b ho ho' hb hb' ▸ hi')
 have hfarS : ∀ i o b, i ∉ σ → h[i]? = some o → ownBlock c i o = some b → ¬ c'.S b := fun i o b hi ho hb hS => by
  have h1 := (hg.own i o b ho hb).2
  rcases hg'.src b hS h1.1 with h2 | h2
  ·rw [hMr] at h2; exact h1.2 h2
  ·obtain ⟨i', o', hi', ho', hb'⟩ := hMw b h2
   exact hi (hg.sep i i' o o' b ho ho' hb hb' ▸ hi')
 refine ⟨⟨?_, ⟨hk.os.trans hg.keeps.os, hk.tape.trans hg.keeps.tape, hk.output.trans hg.keeps.output, Nat.le_trans hg.keeps.size hk.size, fun b hb hM => ?_⟩, fun b hb => ?_, fun b hb hlt => ?_, fun i o ho => ?_, fun i o b ho hb => ?_, fun i k oi ok b hi hk' hbi hbk => ?_, aBF hg.root hl.le⟩, hl, hemb⟩
 ·unfold aL9 cN
  simp only [List.length_append, aA1, uS, List.length_map, List.length_drop, hg.n]
 ·have hbw : b < w.heap.size := Nat.lt_of_lt_of_le hb hg.keeps.size
  rw [hk.block b hbw (fun hw => ?_)]
  ·exact hg.keeps.block b hb hM
  ·rcases (hwrS b hw).2.2 with h1 | h1
   ·omega
   ·exact hM h1
 ·rcases hb with hb | hb
  ·exact Nat.lt_of_lt_of_le (hg.sfin b hb) hk.size
  ·exact hg'.sfin b hb
 ·rcases hb with hb | hb
  ·exact hg.src b hb hlt
  ·rcases hg'.src b hb (Nat.lt_of_lt_of_le hlt hg.keeps.size) with h1 | h1
   ·rw [hMr] at h1; exact hg.src b h1 hlt
   ·rcases (hwrS b h1).2.2 with h2 | h2
    ·omega
    ·exact .inr h2
 ·rcases hcase i o ho with ⟨hi, ho⟩ | rfl | ⟨j, oj, hj, hij, rfl⟩
  ·exact (hg.objs i o ho).keep hl (by rw [hg.n]; exact qQ ho) (fun b hb => hk.block b (hg.own i o b ho hb).2.1 (fun hw => by
    obtain ⟨i', o', hi', ho', hb'⟩ := hMw b hw
    exact hi (hg.sep i i' o o' b ho ho' hb hb' ▸ hi')))
  ·trivial
  ·exact hobj j oj i hj hij
 ·rcases hcase i o ho with ⟨hi, ho⟩ | rfl | ⟨j, oj, hj, hij, rfl⟩
  ·rw [bS hl.le (by rw [hg.n]; exact qQ ho)] at hb
   obtain ⟨h1, h2, h3⟩ := hg.own i o b ho hb
   refine ⟨h1, Nat.lt_of_lt_of_le h2 hk.size, fun hS => ?_⟩
   rcases hS with hS | hS
   ·exact h3 hS
   ·exact hfarS i o b hi ho hb hS
  ·cases hb
  ·have hb := hown j oj i b hj hij hb
   obtain ⟨h1, h2, h3⟩ := hg'.own j oj b hj hb
   refine ⟨?_, h2, fun hS => ?_⟩
   ·rcases h1 with h1 | h1
    ·exact .inl (Nat.le_trans hg.keeps.size h1)
    ·exact (hwrS b h1).2.2
   ·rcases hS with hS | hS
    ·rcases h1 with h1 | h1
     ·have := hg.sfin b hS; omega
     ·exact (hwrS b h1).2.1 hS
    ·exact h3 hS
 ·rcases hcase i oi hi with ⟨hi, ho⟩ | rfl | ⟨j, oj, hj, hij, rfl⟩
  ·rw [bS hl.le (by rw [hg.n]; exact qQ ho)] at hbi
   rcases hcase k ok hk' with ⟨hk2, ho2⟩ | rfl | ⟨j2, oj2, hj2, hij2, rfl⟩
   ·rw [bS hl.le (by rw [hg.n]; exact qQ ho2)] at hbk
    exact hg.sep i k oi ok b ho ho2 hbi hbk
   ·cases hbk
   ·exact absurd (hown j2 oj2 k b hj2 hij2 hbk) (hfar i oi b j2 oj2 hi ho hbi hj2)
  ·cases hbi
  ·have hbi := hown j oj i b hj hij hbi
   rcases hcase k ok hk' with ⟨hk2, ho2⟩ | rfl | ⟨j2, oj2, hj2, hij2, rfl⟩
   ·rw [bS hl.le (by rw [hg.n]; exact qQ ho2)] at hbk
    exact absurd hbi (hfar k ok b j oj hk2 ho2 hbk hj)
   ·cases hbk
   ·have hbk := hown j2 oj2 k b hj2 hij2 hbk
    have := hg'.sep j j2 oj oj2 b hj hj2 hbi hbk
    subst this
    rw [hij] at hij2
    cases hij2; rfl
end
end Go.Vc
namespace Go.Vc
open Go.RowKit
structure Hit where
 sp : zZ
 σ : List Nat
 d : sp.D
def aGp (h : List Obj) (σ : List Nat) : List AV → List AV → Prop
 | [], [] => True
 | v :: r, .val t x :: r' => AV.as (h.map gK) t v = some x ∧ aGp h σ r r'
 | v :: r, u :: r' => ren σ v = u ∧ aGp h σ r r'
 | _, _ => False
def aYt (n : Nat) (σ : List Nat) : Bool := σ.all fun i => decide (i < n)
def wA : AV → Bool
 | .junk => false
 | _ => true
def aYT (μ : List Nat) : AV → Bool
 | .tup vs => vs.all fun u => wA (aBS μ u)
 | _ => true
def aSP (h : List Obj) (vs : List AV) (t : Hit) : Prop :=
 zX t.σ = true ∧ aYt h.length t.σ = true ∧ t.sp.m ≤ t.σ.length ∧ aGp h t.σ vs (t.sp.av t.d) ∧ t.σ.map (fun i => yP t.σ (h.getD i .dead)) = t.sp.hp t.d ∧ t.sp.pre t.d
def aTO (o : aYR) (k : AV → List Obj → Prop) (kp : Pan → List Obj → Prop) : Prop :=
 match o with
 | .ret v h => k v h
 | .pan p h => kp p h
theorem aU9 (v : AV) (h : List Obj) (k : AV → List Obj → Prop) (kp : Pan → List Obj → Prop) : aTO (.ret v h) k kp = k v h := rfl
theorem aVa (p : Pan) (h : List Obj) (k : AV → List Obj → Prop) (kp : Pan → List Obj → Prop) : aTO (.pan p h) k kp = kp p h := rfl
theorem aVb (c : Prop) [Decidable c] (a b : aYR) (k : AV → List Obj → Prop) (kp : Pan → List Obj → Prop) : aTO (if c then a else b) k kp = ((c → aTO a k kp) ∧ (¬ c → aTO b k kp)) := by
 by_cases h : c <;> simp [h]
def aBn (G : Nat → AV) (env : St) (h : List Obj) (o : Oper) : Option (FuncId × List AV) :=
 match o.op with
 | .call c => match c.callee with
  | .value x => match evA G env x with
   | .fn f [] l2 => if aJV h l2 = true then some (f, c.args.toList.map (evA G env) ++ l2.map fun i => .ptr i []) else none
   | .val (.clo g t) y => if pX t = true then some (g, c.args.toList.map (evA G env) ++ uM t y) else none
   | _ => none
  | _ => none
 | _ => none
def aSQ (Δ : FuncId → List AV → List Obj → Option Hit) (h : List Obj) : Option (FuncId × List AV) → Option Hit
 | some (f, vs) => Δ f vs h
 | none => none
def aRq : Option (FuncId × List AV) → List AV
 | some (_, vs) => vs
 | none => []
def aNj (G : Nat → AV) (env : St) (o : Oper) : Option Pan :=
 match o.op with
 | .call c => match c.callee with
  | .builtin .panic => match c.args.toList with
   | [x] => match evA G env x with
    | .val (.ifc k t) d => some ⟨k, t, d⟩
    | _ => none
   | _ => none
  | _ => none
 | .panic x => match evA G env x with
  | .val (.ifc k t) d => some ⟨k, t, d⟩
  | _ => none
 | _ => none
def aGq (T : Tab) (h : List Obj) (t : TypeId) (x : AV) (lo hi : Option AV) : Prop × AV :=
 match x with
 | .own i => match h[i]? with
  | some (.row _ c xs) => match (lo.map yO).getD (some 0), (hi.map yO).getD (some (xs.length : Int)) with
   | some l, some u => (T t = some (.sl c) ∧ 0 ≤ l ∧ l < u ∧ u ≤ (xs.length : Int), .sub i c.cells l.toNat (u - l).toNat)
   | _, _ => (False, .junk)
  | _ => (False, .junk)
 | .ptr i [] => match h[i]? with
  | some (.box _ (.val (.arr n c) _)) => match (lo.map yO).getD (some 0), (hi.map yO).getD (some (n : Int)) with
   | some l, some u => (T t = some (.arr n c) ∧ 0 ≤ l ∧ l < u ∧ u ≤ (n : Int), .sub i c.cells l.toNat (u - l).toNat)
   | _, _ => (False, .junk)
  | _ => (False, .junk)
 | _ => (False, .junk)
noncomputable def aNk (E : Env) (sb : List Nat) (env : St) (h : List Obj) (o : Oper) : Prop × AV × List Obj :=
 match o.op, o.dst with
 | .slice t x lo hi none, some d => bif sb.contains d then ((aGq E.T h t (evA E.G env x) (lo.map (evA E.G env)) (hi.map (evA E.G env))).1, (aGq E.T h t (evA E.G env x) (lo.map (evA E.G env)) (hi.map (evA E.G env))).2, h) else xJ E env h o
 | _, _ => xJ E env h o
def aKh (E : Env) (Δ : FuncId → List AV → List Obj → Option Hit) (sb : List Nat) (env : St) (h : List Obj) (o : Oper) (k : AV → List Obj → Prop) (kp : Pan → List Obj → Prop) : Prop :=
 match aSQ Δ h (aBn E.G env h o) with
 | some t => aSP h (aRq (aBn E.G env h o)) t ∧ aTO (t.sp.out t.d) (fun v h' => aYT (vZ t.σ t.sp.m h.length h'.length) v = true ∧ k (emb (vZ t.σ t.sp.m h.length h'.length) v) (aL9 t.σ t.sp.m h h')) (fun p h' => kp p (aL9 t.σ t.sp.m h h'))
 | none => match aNj E.G env o with
  | some p => kp p h
  | none => match aNk E sb env h o with
   | (p, v, h') => p ∧ k v h'
def aCw (E : Env) (Δ : FuncId → List AV → List Obj → Option Hit) (sb : List Nat) (all : List Oper) : List Oper → St → List Obj → (St → List Obj → Prop) → (Pan → St → List Obj → Prop) → Prop
 | [], env, h, K, _ => K env h
 | o :: r, env, h, K, Kp => match o.guard with
  | none => aKh E Δ sb env h o (fun v h' => aCw E Δ sb all r (vY o.dst v env) h' K Kp) (fun p h' => Kp p env h')
  | some (j, pol) => match aEa all j with
   | some dj => match look env dj with
    | .val .bool b => (b = pol → aKh E Δ sb env h o (fun v h' => aCw E Δ sb all r (vY o.dst v env) h' K Kp) (fun p h' => Kp p env h')) ∧ (b = !pol → aCw E Δ sb all r (vY o.dst .undef env) h K Kp)
    | .undef => aCw E Δ sb all r (vY o.dst .undef env) h K Kp
    | _ => False
   | none => False
structure aEH (P : Program) (G : Nat → AV) (Δ : FuncId → List AV → List Obj → Option Hit) : Prop where
 ok : ∀ f vs h t, Δ f vs h = some t → GOK P G f t.sp
 fn : ∀ f vs h t, Δ f vs h = some t → ∃ fn, P.funcs[f]? = some fn ∧ fn.name ≠ "runtime.NumGoroutine" ∧ fn.body.isSome = true
section
variable {P : Program} {E : Env} {M : Perm} {w0 : World} {c : Ctx} {h : List Obj} {w : World}
theorem aSR : ∀ {l : List Nat}, zX l = true → l.Nodup
 | [], _ => List.nodup_nil
 | i :: r, h => by
  simp only [zX, Bool.and_eq_true, Bool.not_eq_true'] at h
  refine List.nodup_cons.2 ⟨fun hm => ?_, aSR h.2⟩
  have hc : r.contains i = true := by simpa using hm
  rw [h.1] at hc
  cases hc
theorem aNl (hg : Good M w0 c h w) {σ : List Nat} : ∀ {vs us : List AV} {xs : List Value}, aGp h σ vs us → vs.length = xs.length → (∀ i (h1 : i < vs.length) (h2 : i < xs.length), aS c w vs[i] xs[i]) →
  xs.length = us.length ∧ ∀ i (h1 : i < us.length) (h2 : i < xs.length), aS (c.ren σ) w us[i] xs[i]
 | [], [], [], _, _, _ => ⟨rfl, fun i h1 => by simp at h1⟩
 | v :: r, u :: r', x :: xs, hf, hl, hv => by
  have h0 := hv 0 (by simp) (by simp)
  simp only [List.getElem_cons_zero] at h0
  have key : aS (c.ren σ) w u x ∧ aGp h σ r r' := by
   cases u with
   | val t d =>
    obtain ⟨h1, h2⟩ := hf
    exact ⟨aS.ofV (rP hg h0 h1), h2⟩
   | _ =>
    obtain ⟨h1, h2⟩ := hf
    exact ⟨h1 ▸ aSN h0, h2⟩
  obtain ⟨q1, q2⟩ := aNl hg key.2 (by simpa using hl) (fun i h1 h2 => by have := hv (i + 1) (by simpa using h1) (by simpa using h2); simpa using this)
  refine ⟨by simp [q1], fun i h1 h2 => ?_⟩
  cases i with
  | zero => exact key.1
  | succ i => exact q2 i (by simpa using h1) (by simpa using h2)
def aZv (M : Perm) (w0 : World) (c : Ctx) (h : List Obj) (w : World) (t : Hit) (e : Ending) (w' : World) : Prop :=
 ∃ cN, dJ c w cN w' ∧ match t.sp.out t.d with
  | .ret v h' => ∃ u, e = .returned u ∧ Good M w0 cN (aL9 t.σ t.sp.m h h') w' ∧ (aYT (vZ t.σ t.sp.m h.length h'.length) v = true → aS cN w' (emb (vZ t.σ t.sp.m h.length h'.length) v) u)
  | .pan p h' => ∃ u, e = .panicked (aPJ p.k u) ∧ Good M w0 cN (aL9 t.σ t.sp.m h h') w' ∧ cL w' cN.S p.t p.x u
theorem aTP {C : (Ending → World → Prop) → Prop} (hC : ∀ R R' : Ending → World → Prop, C R → (∀ e w', R e w' → R' e w') → C R') {G : Nat → AV} {t : Hit} {vs : List AV} {xs : Array Value} (hok : t.sp.pre t.d → GIn G t.sp (c.ren t.σ) w t.d xs.toList → C (aU7 t.sp (c.ren t.σ) w t.d)) (hg : Good M w0 c h w) (hG : oW G c.S w) (hl : vs.length = xs.size) (hv : ∀ i (h1 : i < vs.length) (h2 : i < xs.toList.length), aS c w vs[i] xs.toList[i]) (hh : aSP h vs t) :
  C (aZv M w0 c h w t) := by
 obtain ⟨h1, h2, h3, h4, h5, h6⟩ := hh
 have hσ : ∀ i ∈ t.σ, i < h.length := fun i hi => by
  have := List.all_eq_true.1 h2 i hi
  simpa using this
 have g0 := hg.rebase (m := 0) (Nat.zero_le _)
 have g1 := g0.ren (σ := t.σ) h1 (by rfl)
 have hcn : (c.ren t.σ).n = t.σ.length := rfl
 have g2 := g1.rebase (m := t.sp.m) (by rw [hcn]; exact h3)
 rw [h5] at g2
 obtain ⟨q1, q2⟩ := aNl (xs := xs.toList) hg h4 (by simpa using hl) hv
 have hin : GIn G t.sp (c.ren t.σ) w t.d xs.toList := ⟨g2, hG, q1, q2⟩
 refine hC _ _ (hok h6 hin) ?_
 rintro e w' ⟨c', hend⟩
 have hfr : ∀ h', Good (GM t.sp (c.ren t.σ) t.d) w c' h' w' → Good M w0 (Vc.cN c c' t.sp.m h'.length) (aL9 t.σ t.sp.m h h') w' ∧ dJ c w (Vc.cN c c' t.sp.m h'.length) w' ∧ Emb (vZ t.σ t.sp.m h.length h'.length) c' (Vc.cN c c' t.sp.m h'.length) := fun h' hg' =>
  hg.frame (aSR h1) hσ h3 (Ml := GM t.sp (c.ren t.σ) t.d) rfl (fun b hb => by
   obtain ⟨j, o', ho, hob⟩ := hb
   rw [← h5, List.getElem?_map] at ho
   cases hj : t.σ[j]? with
   | none => rw [hj] at ho; cases ho
   | some i =>
    rw [hj] at ho
    simp only [Option.map_some, Option.some.injEq] at ho
    subst ho
    rw [yQ hj] at hob
    have hi := hσ i (List.mem_of_getElem? hj)
    exact ⟨i, h[i], List.mem_of_getElem? hj, List.getElem?_eq_getElem hi, by simpa [List.getD_eq_getElem?_getD, hi] using hob⟩) rfl (fun j _ => rfl) hg'
 cases hout : t.sp.out t.d with
 | ret v h' =>
  rw [hout] at hend
  obtain ⟨u, rfl, hg', hu⟩ := hend
  obtain ⟨f1, f2, f3⟩ := hfr h' hg'
  refine ⟨_, f2, ?_⟩
  rw [hout]
  refine ⟨u, rfl, f1, fun hb => aW9 f3 hu fun vs hvs a ha => ?_⟩
  subst hvs
  have := List.all_eq_true.1 hb a ha
  intro hj
  rw [hj] at this
  cases this
 | pan p h' =>
  rw [hout] at hend
  obtain ⟨u, rfl, hg', hu⟩ := hend
  obtain ⟨f1, f2, f3⟩ := hfr h' hg'
  refine ⟨_, f2, ?_⟩
  rw [hout]
  exact ⟨u, rfl, f1, hu.keep f3.S (.refl _ _)⟩
theorem aVc {G : Nat → AV} {f : FuncId} {t : Hit} (hok : GOK P G f t.sp) (hg : Good M w0 c h w) (hG : oW G c.S w) {vs : List AV} {xs : Array Value} (hl : vs.length = xs.size) (hv : ∀ i (h1 : i < vs.length) (h2 : i < xs.toList.length), aS c w vs[i] xs.toList[i]) (hh : aSP h vs t) :
  Calls P f xs w (aZv M w0 c h w t) :=
 aTP (C := Calls P f xs w) (fun R R' h k => h.mono k) (fun hp hin => hok _ _ _ _ hp hin) hg hG hl hv hh
def AtP (F : Fr) (Q : Exit → Act → World → Prop) (p : Pan) (env : St) (h : List Obj) : Prop :=
 ∀ c a w u, Sim F.E F.M F.w0 F.nt F.ds c env h a w → cL w c.S p.t p.x u → Q (.panic (aPJ p.k u)) a w
theorem aTQ (hE : gN P E) {nt : Nat} {ds : List Deferred} {env : St} {a : Act} (hs : Sim E M w0 nt ds c env h a w) {o : Oper} (hok : fJ nt o = true) {f : FuncId} {vs : List AV} (hc : aBn E.G env h o = some (f, vs)) (hfn : ∃ fn, P.funcs[f]? = some fn ∧ fn.name ≠ "runtime.NumGoroutine" ∧ fn.body.isSome = true) :
  ∃ xs : Array Value, (execOp a.eval o).run P w = .ok (.enter f xs) w ∧ vs.length = xs.size ∧ ∀ i (h1 : i < vs.length) (h2 : i < xs.toList.length), aS c w vs[i] xs.toList[i] := by
 obtain ⟨dst, op, ty, pos, aft, gd⟩ := o
 unfold aBn at hc
 split at hc
 ·rename_i cl hop
  simp only at hop
  subst hop
  obtain ⟨callee, args, argTypes⟩ := cl
  simp only at hc
  simp only [fJ, Bool.and_eq_true] at hok
  have hall : ∀ x ∈ (Op.call ⟨callee, args, argTypes⟩).operands, kJ x = true := Array.all_eq_true_iff_forall_mem.1 hok.1
  have hargs : ∀ x ∈ args.toList, aS c w (evA E.G env x) (a.eval x) := fun x hx => aAZ hs.env hs.glob (hall x (by
   simp only [Op.operands, Call.operands]
   exact Array.mem_append.2 (.inr (by simpa using hx))))
  have hav := aBO (ρ := evA E.G env) (a := a) (c := c) (w := w) hargs
  split at hc
  ·rename_i x
   have hx := aAZ hs.env hs.glob (hall x (by simp [Op.operands, Call.operands]))
   have fin : ∀ (g : FuncId) (us : List Value) (cv : List AV), a.eval x = .func (.func g) #[] us.toArray → us.length = cv.length → (∀ i (h1 : i < cv.length) (h2 : i < us.length), aS c w cv[i] us[i]) → f = g → vs = args.toList.map (evA E.G env) ++ cv →
     ∃ xs : Array Value, (execOp a.eval ⟨dst, .call ⟨.value x, args, argTypes⟩, ty, pos, aft, gd⟩).run P w = .ok (.enter f xs) w ∧ vs.length = xs.size ∧ ∀ i (h1 : i < vs.length) (h2 : i < xs.toList.length), aS c w vs[i] xs.toList[i] := fun g us cv hf hul huv e1 e2 => by
    subst e1
    subst e2
    refine ⟨(args.toList.map a.eval ++ us).toArray, ?_, by simp [hul], fun i h1 h2 => ?_⟩
    ·have hrun := aBN (P := P) (w := w) (args := (args.toList.map a.eval ++ us).toArray) hfn
     have e2 : args.map a.eval ++ us.toArray = (args.toList.map a.eval ++ us).toArray := by rw [← Array.toList_inj]; simp
     simp [execOp, resolve, Deferred.ofValue, hf, invoke]
     rw [e2]
     exact hrun
    ·have key : ∀ i (h1 : i < (args.toList.map (evA E.G env) ++ cv).length) (h2 : i < (args.toList.map a.eval ++ us).length), aS c w (args.toList.map (evA E.G env) ++ cv)[i] (args.toList.map a.eval ++ us)[i] := fun i h1 h2 => by
      by_cases hi : i < args.toList.length
      ·rw [List.getElem_append_left (by simpa using hi), List.getElem_append_left (by simpa using hi)]
       exact hav i (by simpa using hi) (by simpa using hi)
      ·rw [List.getElem_append_right (by simpa using hi), List.getElem_append_right (by simpa using hi)]
       have := huv (i - args.toList.length) (by simp at h1 hi ⊢; omega) (by simp at h2 hi ⊢; omega)
       simpa using this
     exact key i h1 h2
   split at hc
   ·rename_i g l2 hev
    split at hc
    ·rename_i hbx
     simp only [Option.some.injEq, Prod.mk.injEq] at hc
     rw [hev] at hx
     obtain ⟨h1, h2⟩ := aSE hx
     exact fin g (l2.map c.hd) (l2.map fun i => .ptr i []) h2 (by simp) (aPs hs.good hbx h1) hc.1.symm hc.2.symm
    ·cases hc
   ·rename_i g t y hev
    split at hc
    ·rename_i hcp
     simp only [Option.some.injEq, Prod.mk.injEq] at hc
     rw [hev] at hx
     obtain ⟨us, h1, h2⟩ := aPr hx
     obtain ⟨k1, k2⟩ := aJY hcp h2
     exact fin g us (uM t y) h1 k1 k2 hc.1.symm hc.2.symm
    ·cases hc
   ·cases hc
  ·cases hc
 ·cases hc
theorem aSS {nt : Nat} {ds : List Deferred} {env : St} {a : Act} (hs : Sim E M w0 nt ds c env h a w) {o : Oper} (hok : fJ nt o = true) {p : Pan} (hc : aNj E.G env o = some p) :
  ∃ u, (execOp a.eval o).run P w = .halt (.panic (.iface p.k u)) w ∧ cL w c.S p.t p.x u := by
 obtain ⟨dst, op, ty, pos, aft, gd⟩ := o
 simp only [fJ, Bool.and_eq_true] at hok
 unfold aNj at hc
 split at hc
 ·rename_i cl hop
  simp only at hop
  subst hop
  obtain ⟨callee, args, argTypes⟩ := cl
  simp only at hc
  have hall : ∀ x ∈ (Op.call ⟨callee, args, argTypes⟩).operands, kJ x = true := Array.all_eq_true_iff_forall_mem.1 hok.1
  split at hc
  ·split at hc
   ·rename_i x hx
    split at hc
    ·rename_i k t d hev
     cases hc
     have hxm : x ∈ args.toList := by rw [hx]; simp
     have hv := aAZ hs.env hs.glob (hall x (by
      simp only [Op.operands, Call.operands]
      exact Array.mem_append.2 (.inr (by simpa using hxm))))
     rw [hev] at hv
     obtain ⟨u, hu, hr⟩ := aJ0 hv
     have e3 : args = #[x] := by rw [← Array.toList_inj]; exact hx
     refine ⟨u, ?_, hr⟩
     simp [execOp, resolve, invoke, builtin, e3, hu, Instr.panic, goPanic]
    ·cases hc
   ·cases hc
  ·cases hc
 ·rename_i x hop
  simp only at hop
  subst hop
  have hall : ∀ y ∈ (Op.panic x).operands, kJ y = true := Array.all_eq_true_iff_forall_mem.1 hok.1
  split at hc
  ·rename_i k t d hev
   cases hc
   have hv := aAZ hs.env hs.glob (hall x (by simp [Op.operands]))
   rw [hev] at hv
   obtain ⟨u, hu, hr⟩ := aJ0 hv
   refine ⟨u, ?_, hr⟩
   simp [execOp, hu, Instr.panic, goPanic]
  ·cases hc
 ·cases hc
end
end Go.Vc
namespace Go.Vc
open Go.RowKit
section
variable {P : Program} {E : Env} {M : Perm} {w0 : World} {c : Ctx} {h : List Obj} {w : World}
theorem Sim.step {nt : Nat} {ds : List Deferred} {env : St} {a : Act} (hs : Sim E M w0 nt ds c env h a w) {h' : List Obj} {c' : Ctx} {w' : World} (hl : dJ c w c' w') (hg : Good M w0 c' h' w') : Sim E M w0 nt ds c' env h' a w' :=
 ⟨hg, hs.glob.mono hl.le.S hl.same, hs.env.keep hl, hs.size, hs.defers⟩
theorem aXa (hT : gM P E.T) (hg : Good M w0 c h w) {t : TypeId} {x : AV} {v : Value} {lo hi : Option AV} {lv hv : Option Value} (hx : aS c w x v) (hlo : aL5 c w lo lv) (hhi : aL5 c w hi hv) (hc : (aGq E.T h t x lo hi).1) :
  ∃ u, (Instr.sliceAt t v lv hv none).run P w = .ok u w ∧ aS c w (aGq E.T h t x lo hi).2 u := by
 unfold aGq at hc ⊢
 split at hc
 ·rename_i i
  split at hc
  ·rename_i e ct xs ho
   split at hc
   ·rename_i l u hl hu
    obtain ⟨ht, h0, h1, h2⟩ := hc
    obtain ⟨hi', rfl⟩ := aAx hx
    obtain ⟨vals, ⟨_, hv'⟩, _⟩ := hg.objs i _ ho
    obtain ⟨e', hd, he, hpos⟩ := fT (hT _ _ ht)
    rcases hv' with ⟨_, hz⟩ | ⟨g, cap, cur, hv0, _, _, hle, hcap, _⟩
    ·omega
    have hb : (Instr.sliceBounds true xs.length cap lv hv none).run P w = .ok (l.toNat, u.toNat, cap) w := by
     cases lo with
     | none =>
      cases lv with
      | some _ => cases hlo
      | none =>
       simp at hl
       subst hl
       cases hi with
       | none =>
        cases hv with
        | some _ => cases hhi
        | none =>
         simp at hu
         subst hu
         simp [Instr.sliceBounds]
       | some ha =>
        cases hv with
        | none => cases hhi
        | some hv =>
         simp at hu
         obtain ⟨k, rfl⟩ := (by cases hhi with | some hh => exact xY hh hu : ∃ k, hv = Value.int k u)
         simp [Instr.sliceBounds, dT (P := P) (w := w) (i := u) (y := cap) (by omega) (by omega)]
     | some la =>
      cases lv with
      | none => cases hlo
      | some lv =>
       simp at hl
       obtain ⟨k, rfl⟩ := (by cases hlo with | some hh => exact xY hh hl : ∃ k, lv = Value.int k l)
       cases hi with
       | none =>
        cases hv with
        | some _ => cases hhi
        | none =>
         simp at hu
         subst hu
         simp [Instr.sliceBounds, dT (P := P) (w := w) (i := l) (y := xs.length) (by omega) (by omega)]
       | some ha =>
        cases hv with
        | none => cases hhi
        | some hv =>
         simp at hu
         obtain ⟨k', rfl⟩ := (by cases hhi with | some hh => exact xY hh hu : ∃ k, hv = Value.int k u)
         simp [Instr.sliceBounds, dT (P := P) (w := w) (i := u) (y := cap) (by omega) (by omega), dT (P := P) (w := w) (i := l) (y := u.toNat) h0 (by omega)]
    have hne : ¬ cap = l.toNat := by omega
    refine ⟨.slice (some ⟨g, l.toNat * ct.cells, none⟩) (u.toNat - l.toNat) (cap - l.toNat), ?_, ?_⟩
    ·rw [hv0]
     simp [Instr.sliceAt, Instr.slice, aX hd, hb, gC (hT _ _ he), hne, Addr.add]
     exact Eq.symm
    ·refine ⟨?_, (fun h => by simp [AV.isAgg] at h), (fun _ cs => by simp)⟩
     simp only [aL]
     refine ⟨hi', by omega, g, cap - l.toNat, by rw [hv0]; rfl, ?_⟩
     simp [Value.cells]
     omega
   ·exact hc.elim
  ·exact hc.elim
 ·rename_i i
  split at hc
  ·rename_i m n ct xs ho
   split at hc
   ·rename_i l u hl hu
    obtain ⟨ht, h0, h1, h2⟩ := hc
    obtain ⟨hi', b, hb', rfl⟩ := aAw hx
    obtain ⟨e', hd, he, hpos, hn1, hn2⟩ := zK (hT _ _ ht)
    have hb : (Instr.sliceBounds false n n lv hv none).run P w = .ok (l.toNat, u.toNat, n) w := by
     cases lo with
     | none =>
      cases lv with
      | some _ => cases hlo
      | none =>
       simp at hl
       subst hl
       cases hi with
       | none =>
        cases hv with
        | some _ => cases hhi
        | none =>
         simp at hu
         subst hu
         simp [Instr.sliceBounds]
       | some ha =>
        cases hv with
        | none => cases hhi
        | some hv =>
         simp at hu
         obtain ⟨k, rfl⟩ := (by cases hhi with | some hh => exact xY hh hu : ∃ k, hv = Value.int k u)
         simp [Instr.sliceBounds, dT (P := P) (w := w) (i := u) (y := n) (by omega) (by omega)]
     | some la =>
      cases lv with
      | none => cases hlo
      | some lv =>
       simp at hl
       obtain ⟨k, rfl⟩ := (by cases hlo with | some hh => exact xY hh hl : ∃ k, lv = Value.int k l)
       cases hi with
       | none =>
        cases hv with
        | some _ => cases hhi
        | none =>
         simp at hu
         subst hu
         simp [Instr.sliceBounds, dT (P := P) (w := w) (i := l) (y := n) (by omega) (by omega)]
       | some ha =>
        cases hv with
        | none => cases hhi
        | some hv =>
         simp at hu
         obtain ⟨k', rfl⟩ := (by cases hhi with | some hh => exact xY hh hu : ∃ k, hv = Value.int k u)
         simp [Instr.sliceBounds, dT (P := P) (w := w) (i := u) (y := n) (by omega) (by omega), dT (P := P) (w := w) (i := l) (y := u.toNat) h0 (by omega)]
    have hne : ¬ n = l.toNat := by omega
    refine ⟨.slice (some ⟨b, l.toNat * ct.cells, none⟩) (u.toNat - l.toNat) (n - l.toNat), ?_, ?_⟩
    ·simp [Instr.sliceAt, Instr.sureAddr, aX hd, hb, gC (hT _ _ he), hne, Addr.add, oU]
     exact Eq.symm
    ·refine ⟨?_, (fun h => by simp [AV.isAgg] at h), (fun _ cs => by simp)⟩
     simp only [aL]
     refine ⟨hi', by simp only [maxLen]; omega, b, n - l.toNat, hb', ?_⟩
     simp [Value.cells]
     omega
   ·exact hc.elim
  ·exact hc.elim
 ·exact hc.elim
theorem aPL (hE : gN P E) {sb : List Nat} {nt : Nat} {ds : List Deferred} {env : St} {a : Act} {o : Oper} (hs : Sim E M w0 nt ds c env h a w) (hok : fJ nt o = true) (hc : (aNk E sb env h o).1) : aRn P M w0 c o a w (aNk E sb env h o).2.2 (aNk E sb env h o).2.1 := by
 unfold aNk at hc ⊢
 split at hc
 ·rename_i t x lo hi d hop hdst
  cases hsb : sb.contains d with
  | false =>
   simp only [hsb, cond_false] at hc ⊢
   exact aJw hE hs hok hc
  | true =>
   simp only [hsb, cond_true] at hc ⊢
   simp only [fJ, Bool.and_eq_true] at hok
   have hall : ∀ x ∈ o.op.operands, kJ x = true := Array.all_eq_true_iff_forall_mem.1 hok.1
   have hev : ∀ y ∈ o.op.operands, aS c w (evA E.G env y) (a.eval y) := fun y hy => aAZ hs.env hs.glob (hall y hy)
   rw [hop] at hev
   obtain ⟨u, hu, hr⟩ := aXa (P := P) hE.T hs.good (hev x (by simp [Op.operands])) (aJX (o := lo) fun y hy => hev y (by simp [Op.operands, hy])) (aJX (o := hi) fun y hy => hev y (by simp [Op.operands, hy])) hc
   refine (Did.of_value (v := u) (h := h) hs.good ?_ hr).toE
   simp [execOp, hop, hu]
 ·exact aJw hE hs hok hc
theorem aPM (hE : gN P E) {sb : List Nat} {Δ : FuncId → List AV → List Obj → Option Hit} (hΔ : aEH P E.G Δ) {nt : Nat} {ds : List Deferred} {env : St} {a : Act} {o : Oper} (hs : Sim E M w0 nt ds c env h a w) (hok : fJ nt o = true) {k : AV → List Obj → Prop} {kp : Pan → List Obj → Prop} (hc : aKh E Δ sb env h o k kp)
  {next : Act → World → Prop} {Q : Exit → Act → World → Prop} (hn : ∀ v h' c' u w', k v h' → aED M w0 c w h' v u w' c' → next (a.put o.dst u) w') (hp : ∀ p h' c' u w', kp p h' → dJ c w c' w' → Good M w0 c' h' w' → cL w' c'.S p.t p.x u → Q (.panic (aPJ p.k u)) a w') : o.wp P a w next Q := by
 unfold aKh at hc
 cases hcal : aBn E.G env h o with
 | some fv =>
  obtain ⟨f, vs⟩ := fv
  simp only [hcal, aSQ, aRq] at hc
  cases hd : Δ f vs h with
  | some t =>
   simp only [hd] at hc
   obtain ⟨h1, h2⟩ := hc
   obtain ⟨xs, q1, q2, q3⟩ := aTQ hE hs hok hcal (hΔ.fn f vs h t hd)
   unfold Oper.wp
   rw [q1]
   refine Calls.mono (aVc (hΔ.ok f vs h t hd) hs.good hs.glob q2 q3 h1) ?_
   rintro e w' ⟨cN, hl, hend⟩
   cases hout : t.sp.out t.d with
   | ret v h' =>
    rw [hout] at hend h2
    obtain ⟨u, rfl, hg, hv⟩ := hend
    exact hn _ _ cN u w' h2.2 ⟨hl, hg, hv h2.1⟩
   | pan p h' =>
    rw [hout] at hend h2
    obtain ⟨u, rfl, hg, hv⟩ := hend
    exact hp p _ cN u w' h2 hl hg hv
  | none =>
   simp only [hd] at hc
   cases hpo : aNj E.G env o with
   | some p =>
    simp only [hpo] at hc
    obtain ⟨u, q1, q2⟩ := aSS (P := P) hs hok hpo
    unfold Oper.wp
    rw [q1]
    exact hp p h c u w hc (.refl _ _) hs.good q2
   | none =>
    simp only [hpo] at hc
    exact (aPL hE hs hok hc.1).wp fun v w' c' ha => hn _ _ c' v w' hc.2 ha
 | none =>
  simp only [hcal, aSQ] at hc
  cases hpo : aNj E.G env o with
  | some p =>
   simp only [hpo] at hc
   obtain ⟨u, q1, q2⟩ := aSS (P := P) hs hok hpo
   unfold Oper.wp
   rw [q1]
   exact hp p h c u w hc (.refl _ _) hs.good q2
  | none =>
   simp only [hpo] at hc
   exact (aPL hE hs hok hc.1).wp fun v w' c' ha => hn _ _ c' v w' hc.2 ha
theorem aN7 (hE : gN P E) {sb : List Nat} {Δ : FuncId → List AV → List Obj → Option Hit} (hΔ : aEH P E.G Δ) {ops : List Oper} {Q : Exit → Act → World → Prop} {nt : Nat} {ds : List Deferred} (hok : ∀ o ∈ ops, fJ nt o = true) {K : St → List Obj → Prop} {Kp : Pan → St → List Obj → Prop}
  (hK : ∀ env h c a w, K env h → Sim E M w0 nt ds c env h a w → Q .normal a w) (hKp : ∀ p env h c a w u, Kp p env h → Sim E M w0 nt ds c env h a w → cL w c.S p.t p.x u → Q (.panic (aPJ p.k u)) a w) :
  ∀ (m i : Nat), i + m = ops.length → ∀ (env : St) (h : List Obj) (c : Ctx) (a : Act) (w : World), aCw E Δ sb ops (ops.drop i) env h K Kp → Sim E M w0 nt ds c env h a w → wpOps P ops.toArray Q (List.range' i m) a w
 | 0, i, hi, env, h, c, a, w, hs, hsim => by
  rw [List.drop_eq_nil_of_le (by omega)] at hs
  simp only [List.range'_zero, wpOps]
  exact hK env h c a w hs hsim
 | m + 1, i, hi, env, h, c, a, w, hs, hsim => by
  have hil : i < ops.length := by omega
  rw [List.drop_eq_getElem_cons hil] at hs
  have hokO := hok ops[i] (List.getElem_mem hil)
  have hput : ∀ (v : Value) (av : AV), aS c w av v → Sim E M w0 nt ds c (vY ops[i].dst av env) h (a.put ops[i].dst v) w := fun v av hv => hsim.after hokO ⟨.refl _ _, hsim.good, hv⟩
  have hrun : aKh E Δ sb env h ops[i] (fun v h' => aCw E Δ sb ops (ops.drop (i + 1)) (vY ops[i].dst v env) h' K Kp) (fun p h' => Kp p env h') → Region.wanted ops[i] (yielded ops.toArray a.tmps) = true → wpOps P ops.toArray Q (List.range' i (m + 1)) a w := fun h1 hw => by
   rw [List.range'_succ]
   simp only [wpOps, List.getElem?_toArray, List.getElem?_eq_getElem hil, hw, if_true]
   left
   refine aPM hE hΔ hsim hokO h1 (fun v h' c' u w' hk ha => ?_) (fun p h' c' u w' hk hl hg hr => hKp p env h' c' a w' u hk (hsim.step hl hg) hr)
   exact aN7 hE hΔ hok hK hKp m (i + 1) (by omega) _ _ c' _ w' hk (hsim.after hokO ha)
  have hskip : aCw E Δ sb ops (ops.drop (i + 1)) (vY ops[i].dst .undef env) h K Kp → Region.wanted ops[i] (yielded ops.toArray a.tmps) = false → wpOps P ops.toArray Q (List.range' i (m + 1)) a w := fun h2 hw => by
   rw [List.range'_succ]
   simp only [wpOps, List.getElem?_toArray, List.getElem?_eq_getElem hil, hw, Bool.false_eq_true, if_false]
   exact aN7 hE hΔ hok hK hKp m (i + 1) (by omega) _ _ c _ w h2 (hput _ _ rfl)
  simp only [aCw] at hs
  cases hgd : ops[i].guard with
  | none =>
   rw [hgd] at hs
   exact hrun hs (by simp [Region.wanted, hgd])
  | some jp =>
   obtain ⟨j, pol⟩ := jp
   rw [hgd] at hs
   simp only at hs
   cases hdj : aEa ops j with
   | none => rw [hdj] at hs; exact hs.elim
   | some dj =>
    rw [hdj] at hs
    simp only at hs
    have hv := hsim.env dj
    split at hs
    ·rename_i b hb
     rw [hb] at hv
     have hb' := aBh hv
     have hy := tP hok hsim.size hdj hb'
     simp only [yb] at hy
     by_cases e : b = pol
     ·exact hrun (hs.1 e) (by simp [Region.wanted, hgd, hy, e])
     ·have e' : b = !pol := by cases b <;> cases pol <;> simp_all
      exact hskip (hs.2 e') (by simp [Region.wanted, hgd, hy, e])
    ·rename_i hb
     rw [hb] at hv
     have hy := tP hok hsim.size hdj (v := Go.undef) hv
     exact hskip hs (by simp [Region.wanted, hgd, hy, Go.undef, yb])
    ·exact hs.elim
theorem dU {F : Fr} {Q : Exit → Act → World → Prop} {env : St} {h : List Obj} (hF : vI F) {Δ : FuncId → List AV → List Obj → Option Hit} (hΔ : aEH F.P F.E.G Δ) {id : Nat} {ops : Array Oper} (keep sb : List Nat)
  (hv : aCw F.E Δ sb ops.toList ops.toList env h (fun env h => At F (Q .normal) (keep.map fun t => (t, look env t)) h) (fun p env h => AtP F Q p env h)) : Tri F (.region id ops false) Q env h := fun hok c a w hs => by
 simp only [gW, Bool.and_eq_true, Bool.or_eq_true, Bool.not_eq_true'] at hok
 obtain ⟨⟨h1, h2⟩, h3⟩ := hok
 refine wp_region ?_
 have := aN7 (Q := Q) hF.env hΔ (List.all_eq_true.1 h1) (K := fun env h => At F (Q .normal) (keep.map fun t => (t, look env t)) h) (Kp := fun p env h => AtP F Q p env h) (fun env h c a w hk hs => hk c a w (hs.keep keep)) (fun p env h c a w u hk hs hr => hk c a w u hs hr) ops.toList.length 0 (by simp) env h c a w (by simpa using hv) hs
 simpa [List.range_eq_range'] using this
def aVd : List AV → Nat → St
 | [], _ => []
 | v :: r, k => (k, v) :: aVd r (k + 1)
theorem aST {tmps : Array Value} : ∀ (us : List AV) (vs : List Value) (k : Nat), vs.length = us.length → (∀ i (h1 : i < us.length) (h2 : i < vs.length), aS c w us[i] vs[i]) → (∀ i v, vs[i]? = some v → tmps.getD (k + i) Go.undef = v) → aCL c w (aVd us k) tmps
 | [], _, k, _, _, _ => fun t => trivial
 | u :: us, v :: vs, k, hl, hv, ht => by
  have h0 := hv 0 (by simp) (by simp)
  have t0 := ht 0 v (by simp)
  have rec_ := aST us vs (k + 1) (by simpa using hl) (fun i h1 h2 => by have := hv (i + 1) (by simpa using h1) (by simpa using h2); simpa using this) (fun i x hx => by
   have := ht (i + 1) x (by simpa using hx)
   rw [show k + 1 + i = k + (i + 1) from by omega]; exact this)
  intro t
  simp only [aVd, look]
  split
  ·rename_i e
   subst e
   simp only [Nat.add_zero] at t0
   rw [t0]; exact h0
  ·exact rec_ t
def AV.wfV : AV → Prop
 | .val t x => t.wf x
 | .full t xs => (Ty.sl t).wf xs
 | _ => True
def AV.wfL : List AV → Prop
 | [] => True
 | v :: r => v.wfV ∧ AV.wfL r
def Obj.wfV : Obj → Prop
 | .box _ (.agg vs) => AV.wfL vs
 | .box _ v => v.wfV
 | .row _ t xs => (Ty.arr xs.length t).wf xs ∧ xs.length ≤ maxLen
 | .frz t xs => (Ty.sl t).wf xs
 | _ => True
def Obj.wfL : List Obj → Prop
 | [] => True
 | o :: r => o.wfV ∧ Obj.wfL r
theorem aKi {v : AV} {cs : List Value} (hr : aL c w v cs) : v.wfV := by
 cases v <;> first | trivial | skip
 case val t x => exact aW.wf t x cs hr
 case full t xs =>
  simp only [aL] at hr
  obtain ⟨a, n, e, hs⟩ := hr
  exact aW.wf (.sl t) xs cs ⟨a, n, n, e, hs⟩
theorem aVe : ∀ {vs : List AV} {cs : List Value}, jC c w vs cs → AV.wfL vs
 | [], _, _ => trivial
 | v :: r, _, ⟨c1, c2, e, h1, h2⟩ => ⟨aKi h1, aVe h2⟩
theorem aYU {v : AV} {x : Value} (hr : aS c w v x) : v.wfV := by
 cases v <;> first | trivial | exact aKi hr.1
theorem aSU : ∀ {us : List AV} {vs : List Value}, vs.length = us.length → (∀ i (h1 : i < us.length) (h2 : i < vs.length), aS c w us[i] vs[i]) → AV.wfL us
 | [], _, _, _ => trivial
 | u :: us, v :: vs, hl, hv => ⟨aYU (hv 0 (by simp) (by simp)), aSU (vs := vs) (by simpa using hl) (fun i h1 h2 => by have := hv (i + 1) (by simpa using h1) (by simpa using h2); simpa using this)⟩
theorem aYV {i : Nat} {o : Obj} (hr : aIf c w i o) : o.wfV := by
 cases o with
 | dead => trivial
 | box n v =>
  obtain ⟨b, cells, e, _, _, _, h4⟩ := hr
  cases v <;> first | exact aVe h4 | exact aKi h4 | trivial
 | row e t xs =>
  obtain ⟨vals, h1, h2⟩ := hr
  refine ⟨aW.wf _ _ _ h2, ?_⟩
  rcases h1.2 with ⟨_, h0⟩ | ⟨g, cap, cur, _, _, _, h3, h4, _⟩
  ·rw [h0]; exact Nat.zero_le _
  ·exact Nat.le_trans h3 h4
 | frz t xs => exact aW.wf (.sl t) xs _ hr
 | map k v m => trivial
theorem aXb (hg : Good M w0 c h w) : Obj.wfL h := by
 have : ∀ (l : List Obj), (∀ o ∈ l, o.wfV) → Obj.wfL l := fun l => by
  induction l with
  | nil => intro _; trivial
  | cons o r ih => intro hl; exact ⟨hl o (by simp), ih fun x hx => hl x (by simp [hx])⟩
 refine this h fun o ho => ?_
 obtain ⟨i, hi, rfl⟩ := List.mem_iff_getElem.1 ho
 exact aYV (hg.objs i _ (List.getElem?_eq_getElem hi))
def aV (T : Tab) (h : List Obj) (env : St) : List ResultVar → Prop × List AV
 | [] => (True, [])
 | .tmp t :: r => ((aV T h env r).1, look env t :: (aV T h env r).2)
 | .cell a t :: r => ((aCP T h t (look env a)).1 ∧ (aV T h env r).1, (aCP T h t (look env a)).2 :: (aV T h env r).2)
theorem aKj (hT : gM P E.T) (hg : Good M w0 c h w) {env : St} {tmps : Array Value} (he : aCL c w env tmps) {g : ResultVar → Sem Value} (hg1 : ∀ t, g (.tmp t) = pure (tmps.getD t Go.undef)) (hg2 : ∀ a t, g (.cell a t) = (do loadVar t (← asAddr (tmps.getD a Go.undef)))) : ∀ (l : List ResultVar), (aV E.T h env l).1 →
  ∃ us : List Value, (l.mapM g).run P w = .ok us w ∧ us.length = (aV E.T h env l).2.length ∧ ∀ i (h1 : i < (aV E.T h env l).2.length) (h2 : i < us.length), aS c w (aV E.T h env l).2[i] us[i]
 | [], _ => ⟨[], by simp, rfl, fun i h1 => by simp [aV] at h1⟩
 | .tmp t :: r, hc => by
  simp only [aV] at hc ⊢
  obtain ⟨us, q1, q2, q3⟩ := aKj hT hg he hg1 hg2 r hc
  refine ⟨tmps.getD t Go.undef :: us, by simp only [List.mapM_cons, Sem.run_bind, hg1, Sem.run_pure, Result.andThen_ok, q1], by simp [q2], fun i h1 h2 => ?_⟩
  cases i with
  | zero => exact he t
  | succ i => exact q3 i (by simpa using h1) (by simpa using h2)
 | .cell a t :: r, hc => by
  simp only [aV] at hc ⊢
  obtain ⟨us, q1, q2, q3⟩ := aKj hT hg he hg1 hg2 r hc.2
  obtain ⟨u, hu, hr⟩ := aSu (P := P) hT hg (he a) hc.1
  have hrun : (g (.cell a t)).run P w = .ok u w := by
   rw [hg2]
   have hv := he a
   generalize tmps.getD a Go.undef = v at hu hv
   simp only [Instr.loadAt, Sem.run_bind] at hu
   simp only [Sem.run_bind]
   have : ∃ ad, v = .pointer (some ad) := by
    cases v with
    | pointer p =>
     cases p with
     | some ad => exact ⟨ad, rfl⟩
     | none => simp [Instr.sureAddr, Result.andThen] at hu
    | _ => simp [Instr.sureAddr, Result.andThen] at hu
   obtain ⟨ad, rfl⟩ := this
   simpa [Instr.sureAddr, asAddr] using hu
  refine ⟨u :: us, by simp only [List.mapM_cons, Sem.run_bind, hrun, Sem.run_pure, Result.andThen_ok, q1], by simp [q2], fun i h1 h2 => ?_⟩
  cases i with
  | zero => exact hr
  | succ i => exact q3 i (by simpa using h1) (by simpa using h2)
theorem aKk (hT : gM P E.T) (hg : Good M w0 c h w) {env : St} {tmps : Array Value} (he : aCL c w env tmps) {fn : Func} {l : List ResultVar} (hr : fn.results = l.toArray) (hc : (aV E.T h env l).1) :
  ∃ us : List Value, (results fn tmps).run P w = .ok (aNe us) w ∧ us.length = (aV E.T h env l).2.length ∧ ∀ i (h1 : i < (aV E.T h env l).2.length) (h2 : i < us.length), aS c w (aV E.T h env l).2[i] us[i] := by
 unfold results
 rw [hr]
 simp only [Sem.run_bind]
 rw [List.mapM_toArray, Sem.run_map]
 generalize hm : (List.mapM _ l : Sem (List Value)) = mm
 have key : ∀ (g : ResultVar → Sem Value), (∀ t, g (.tmp t) = pure (tmps.getD t Go.undef)) → (∀ a t, g (.cell a t) = (do loadVar t (← asAddr (tmps.getD a Go.undef)))) → List.mapM g l = mm →
   ∃ us : List Value, mm.run P w = .ok us w ∧ us.length = (aV E.T h env l).2.length ∧ ∀ i (h1 : i < (aV E.T h env l).2.length) (h2 : i < us.length), aS c w (aV E.T h env l).2[i] us[i] := fun g hg1 hg2 e => by
  subst e; exact aKj (P := P) hT hg he hg1 hg2 l hc
 obtain ⟨us, q1, q2, q3⟩ := key _ (fun t => rfl) (fun a t => rfl) hm
 refine ⟨us, ?_, q2, q3⟩
 rw [q1]
 simp only [Result.andThen_ok, Sem.run_pure]
 congr 1
 match us with
 | [] => rfl
 | [v] => rfl
 | a :: b :: r =>
  rw [dif_neg (by simp)]
  rfl
def aKl (h : List Obj) : List AV → List AV → Prop
 | [], [] => True
 | v :: r, u :: r' => (hZ h v u ∧ wA u = true) ∧ aKl h r r'
 | _, _ => False
def aN8 (h : List Obj) : AV → List AV → Prop
 | .tup vs, us => us.length ≠ 1 ∧ aKl h us vs
 | v, [u] => hZ h u v
 | _, _ => False
theorem aSV (hg : Good M w0 c h w) : ∀ {us vs : List AV} {xs : List Value}, aKl h us vs → xs.length = us.length → (∀ i (h1 : i < us.length) (h2 : i < xs.length), aS c w us[i] xs[i]) → xs.length = vs.length ∧ ∀ i (h1 : i < vs.length) (h2 : i < xs.length), aS c w vs[i] xs[i] ∧ wA vs[i] = true
 | [], [], [], _, _, _ => ⟨rfl, fun i h1 => by simp at h1⟩
 | u :: us, v :: vs, x :: xs, hf, hl, hv => by
  obtain ⟨⟨h1, hj⟩, h2⟩ := hf
  obtain ⟨q1, q2⟩ := aSV hg h2 (xs := xs) (by simpa using hl) (fun i h1 h2 => by have := hv (i + 1) (by simpa using h1) (by simpa using h2); simpa using this)
  refine ⟨by simp [q1], fun i k1 k2 => ?_⟩
  cases i with
  | zero => exact ⟨aN3 hg h1 (hv 0 (by simp) (by simp)), hj⟩
  | succ i => exact q2 i (by simpa using k1) (by simpa using k2)
theorem aXc {v : AV} {x : Value} (hv : aS c w v x) (hj : wA v = true) (ht : ∀ vs, v ≠ .tup vs) (hu : v ≠ .undef) : tM c w v x := by
 cases v <;> first | exact hv | (simp [wA] at hj; done) | exact absurd rfl (ht _) | exact absurd rfl hu
def aYu : AV → Bool
 | .tup _ => false
 | .undef => false
 | _ => true
theorem aBT {F : Fr} {fn : Func} {sp : zZ} {c0 : Ctx} {d : sp.D} {env : St} {h h' : List Obj} {v : AV} (hF : vI F) (l : List ResultVar) (hM : F.M = GM sp c0 d) (hds : F.ds = []) (hr : fn.results = l.toArray) (hout : sp.out d = .ret v h') (hh : h = h') (hfl : (match v with | .tup vs => vs.all aYu | _ => true) = true) (hy : (aV F.E.T h env l).1 ∧ aN8 h v (aV F.E.T h env l).2) :
  At F (bodyPost F.P fn (aU7 sp c0 F.w0 d) .ret) env h := fun c a w hs => by
 subst hh
 obtain ⟨us, q1, q2, q3⟩ := aKk (P := F.P) hF.env.T hs.good hs.env hr hy.1
 refine ⟨hs.defers.trans hds, aNe us, q1, c, ?_⟩
 rw [hout]
 refine ⟨aNe us, rfl, by rw [← hM]; exact hs.good, ?_⟩
 have hy2 := hy.2
 generalize (aV F.E.T h env l).2 = rs at q2 q3 hy2
 cases v with
 | tup vs =>
  obtain ⟨h1, h2⟩ := hy2
  obtain ⟨k1, k2⟩ := aSV hs.good h2 q2 q3
  refine ⟨us, ?_, k1, fun i p1 p2 => ?_⟩
  ·match us, q2 with
   | [], _ => rfl
   | [x], q2 => exact absurd q2.symm h1
   | a :: b :: r, _ => rfl
  ·have hfi := List.all_eq_true.1 hfl vs[i] (List.getElem_mem p1)
   exact aXc (k2 i p1 p2).1 (k2 i p1 p2).2 (fun l e => by rw [e] at hfi; cases hfi) (fun e => by rw [e] at hfi; cases hfi)
 | _ =>
  match rs, hy2 with
  | [u], hy2 =>
   match us, q2 with
   | [x], _ => exact aN3 hs.good hy2 (q3 0 (by simp) (by simp))
end
end Go.Vc
namespace Go.Vc
attribute [go_sem] Int.toNat_natCast vcA opA pv aJ2 aUT evA yE sN zR eJ aAy
attribute [go_sem] aFe aBl aJ1 aE5 kS aPf aIl aYP Go.Vc.look aCP xG aUu
attribute [go_sem] aNN shU shI gB aWM aUv aRe aGf yO uK uK.fldT aE6
attribute [go_sem] aE7 aE8 aCQ aE9 aGj aEx aEz aFd aBJ aFa uL aUB
attribute [go_sem] mm2 xF cW Go.Vc.elemOf aM3 List.all_cons List.all_nil Int.le_refl Nat.le_refl AV.solid AV.solid1 AV.nc
attribute [go_sem] AV.nc1 AV.isAgg Ty.isAgg Ty.cells Ty.zero vX List.map List.append List.length Option.map decide_true decide_false
attribute [go_sem] Bool.and_true Bool.true_and true_and and_true implies_true forall_const if_true if_false IntKind.signed Ty.den Nat.succ_ne_self ne_eq
attribute [go_sem] not_false_eq_true not_true_eq_false List.getElem?_nil aD7 List.nil_append List.cons_append beq_self_eq_true Bool.and_self cond_true cond_false Bool.cond_true_left Bool.cond_false_right
attribute [go_sem] sL xJ yF aJv aJ9 aZs freezeAll freeze aN1 aJ5 aBR zV aDT aDU isStr bxN aCK aJI aQ6 aQ5 aJH aNL
attribute [go_sem] aSL aPp aUM Ty.isNil aGm aDS aPB aSK vY aEa zU aGl
attribute [go_sem] aAz uQ aAA Ty.strB aRj bound vV aYE aWQ aWR aYF aUU
attribute [go_sem] frzAll Ty.scalar gK aUC RK.ty AV.tags AV.tags1 List.flatMap_cons List.flatMap_nil List.getElem?_cons_zero List.getElem?_cons_succ List.set_cons_zero
attribute [go_sem] List.set_cons_succ List.length_cons List.length_nil Nat.zero_add uM List.getD_cons_zero List.getD_cons_succ dite_true Ty.okB Ty.byt IntKind.bits pX
attribute [go_sem] aJV aZp aRc aYG aNP aWS aUP allTags aEy gt_iff_lt ge_iff_le List.length_replicate
attribute [go_sem] List.replicate_zero List.length_set aU4 aU5 aU6 aTK aZt aEF aCY aUQ zL zM
attribute [go_sem] aJ8 Ty.keyB Ty.key1 Option.some.injEq exists_eq_left' List.append_nil decide_eq_true_eq decide_eq_false_iff_not Bool.or_eq_true Bool.or_eq_false_iff Bool.and_eq_true Int.not_lt
attribute [go_sem] Int.not_le Bool.not_eq_true' Bool.not_eq_false' dK aPF iM lS List.take_succ_cons List.take_zero List.drop_succ_cons List.drop_zero aUA
attribute [go_sem] tC aWV aNR aJn Ty.flds aEu aDY Ty.fieldOff aRf parse aBI aNQ
attribute [go_sem] aJL Option.getD_some Option.getD_none Bool.not_true Bool.not_false Bool.false_eq_true Bool.true_eq_false false_implies and_false false_and or_true true_or
attribute [go_sem] or_false false_or Bool.or_true Bool.or_false Bool.true_or Bool.false_or Bool.and_false Bool.false_and Option.isSome_some Option.isSome_none Int.reduceToNat Int.reduceLE
attribute [go_sem] Int.reduceLT Nat.reduceEqDiff Nat.reduceAdd Nat.reduceMul Nat.reduceLT Nat.reduceSub Nat.reduceLeDiff Nat.reduceDiv Nat.reduceMod Nat.reducePow Nat.reduceGT Int.reduceEq
attribute [go_sem] Int.reduceNe Int.reduceAdd Int.reduceSub Int.reduceNeg Int.reduceMul reduceIte reduceCtorEq
end Go.Vc
