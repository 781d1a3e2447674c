import Derived.Test.YteongmdhfkalaaaZL3
import Derived.Scope
import Derived.ProofKit
import Derived.OpenShut
import Derived.Below
import Derived.Recover
set_option linter.unusedVariables false
set_option linter.unusedSimpArgs false
namespace Go.Vc
open Go.RowKit
def pickB (c x y : AV) : Prop × AV :=
 match c, x, y with
 | .val .bool q, .val .bool a, .val .bool b => (True, .val .bool (bif q then a else b))
 | .val .bool q, .undef, .val .bool b => (q = false, .val .bool b)
 | .val .bool q, .val .bool a, .undef => (q = true, .val .bool a)
 | _, _, _ => (False, .junk)
def isOwn (Γ : FuncId → List AV → Option FSpec) (f : FuncId) (vs : List AV) : Bool :=
 match Γ f vs with
 | some ⟨_, .own _ _, _, _⟩ => true
 | _ => false
def isI64 : Option Ty → Bool
 | some (.i .i64) => true
 | _ => false
noncomputable def effCall (E : Env) (h : List Obj) (ρ : Operand → AV) (o : Oper) (c : Call) : Prop × AV × List Obj :=
 match c.callee with
 | .builtin .append => match c.args.toList.map ρ, c.argTypes.toList with
  | [s, x], [t, t'] => bif isI64 (E.T t') then appendZ E h t s x else ((appendAV E h t s x).1 ∧ t' = t, (appendAV E h t s x).2)
  | _, _ => (False, .junk, h)
 | .value (.func f) => bif isOwn E.Γ f (c.args.toList.map ρ) then callOwn E.Γ h f (c.args.toList.map ρ) else ((pv E h ρ o).1, (pv E h ρ o).2, h)
 | _ => ((pv E h ρ o).1, (pv E h ρ o).2, h)
def makeMapAV (E : Env) (h : List Obj) (t : TypeId) : Prop × AV × List Obj :=
 match E.mp t with
 | some (k, e) => match E.T k, E.T e with
  | some kc, some vc => (True, .mp h.length, h ++ [.map kc vc []])
  | _, _ => (False, .junk, h)
 | none => (False, .junk, h)
def putAV (E : Env) (h : List Obj) (t : TypeId) (m k v : AV) : Prop × AV × List Obj :=
 match m with
 | .mp i => match h[i]? with
  | some (.map kc vc l) => match AV.as (h.map frzOnly) kc k, AV.as (h.map frzOnly) vc v with
   | some x, some y => (kc.keyB = true ∧ mapT E t kc vc, .junk, h.set i (.map kc vc (mput kc l x y)))
   | _, _ => (False, .junk, h)
  | _ => (False, .junk, h)
 | _ => (False, .junk, h)
def buildNone (E : Env) (h : List Obj) (t : TypeId) : Prop × AV × List Obj :=
 match E.T t with
 | some (.sl ct) => (ct.okB = true, .own h.length, h ++ [.row (E.el t) ct []])
 | _ => (False, .junk, h)
noncomputable def effAV (E : Env) (h : List Obj) (ρ : Operand → AV) (o : Oper) : Prop × AV × List Obj :=
 match o.op with
 | .alloc t => match E.T t with
  | some ct => (ct.okB = true, .ptr h.length [], h ++ [.box ct.cells (.val ct ct.zero)])
  | none => (False, .junk, h)
 | .box t x => ((ρ x).solid = true, .ptr h.length [], h ++ [.box (ρ x).nc (ρ x)])
 | .store t a x => storeAV E.T h t (ρ a) (ρ x)
 | .makeSlice t l cp => makeAV E h t (ρ l) (ρ cp)
 | .makeMap t none => makeMapAV E h t
 | .buildSlice t n ps => match n, ps.toList with
  | 0, [] => buildNone E h t
  | _, _ => ((pv E h ρ o).1, (pv E h ρ o).2, h)
 | .mapUpdate t m k v => putAV E h t (ρ m) (ρ k) (ρ v)
 | .pick c x y => ((pickB (ρ c) (ρ x) (ρ y)).1, (pickB (ρ c) (ρ x) (ρ y)).2, h)
 | .call c => effCall E h ρ o c
 | _ => ((pv E h ρ o).1, (pv E h ρ o).2, h)
def frzFor (E : Env) (ρ : Operand → AV) (o : Oper) : List Nat :=
 match o.op with
 | .call c => match c.callee with
  | .value (.func f) => match E.Γ f (c.args.toList.map ρ) with
   | some sp => bif sp.res.ty.scalar then [] else (c.args.toList.map ρ).flatMap AV.tags
   | none => []
  | _ => []
 | .slice _ x _ _ _ => (ρ x).tags
 | .buildSlice _ _ ps => ps.toList.flatMap fun p => (ρ p.2).tags
 | .store _ a x => match ρ a with
  | .ptr _ (_ :: _) => (ρ x).tags
  | _ => []
 | .mapUpdate _ _ _ v => (ρ v).tags
 | _ => []
noncomputable def stepB (E : Env) (env : St) (h : List Obj) (o : Oper) : Prop × AV × List Obj :=
 effAV E (freezeAll (frzFor E (evA E.G env) o) h) (fun x => thaw (freezeAll (frzFor E (evA E.G env) o) h) (evA E.G env x)) o
def putE (d : Option Nat) (v : AV) (env : St) : St :=
 match d with
 | some d => (d, v) :: env
 | none => env
def dstAt (ops : List Oper) (j : Nat) : Option Nat := match ops[j]? with
 | some o => o.dst
 | none => none
def seqB (E : Env) (all : List Oper) : List Oper → St → List Obj → (St → List Obj → Prop) → Prop
 | [], env, h, K => K env h
 | o :: r, env, h, K => match o.guard with
  | none => match stepB E env h o with
   | (p, v, h') => p ∧ seqB E all r (putE o.dst v env) h' K
  | some (j, pol) => match dstAt all j with
   | some dj => match look env dj with
    | .val .bool b => (b = pol → match stepB E env h o with
      | (p, v, h') => p ∧ seqB E all r (putE o.dst v env) h' K) ∧ (b = !pol → seqB E all r (putE o.dst .undef env) h K)
    | .undef => seqB E all r (putE o.dst .undef env) h K
    | _ => False
   | none => False
section
variable {P : Program} {E : Env} {M : Perm} {w0 : World} {c : Ctx} {h : List Obj} {w : World}
structure AfterE (M : Perm) (w0 : World) (c : Ctx) (w : World) (h' : List Obj) (av : AV) (v : Value) (w' : World) (c' : Ctx) : Prop where
 later : Later c w c' w'
 good : Good M w0 c' h' w'
 val : ValR c' w' av v
def DidE (P : Program) (M : Perm) (w0 : World) (c : Ctx) (o : Oper) (a : Act) (w : World) (h' : List Obj) (av : AV) : Prop :=
 (∃ v w' c', (execOp a.eval o).run P w = .ok (.value v) w' ∧ AfterE M w0 c w h' av v w' c') ∨
 (∃ w' c', (execOp a.eval o).run P w = .ok .skip w' ∧ AfterE M w0 c w h' av Go.undef w' c') ∨
 (∃ f args, (execOp a.eval o).run P w = .ok (.enter f args) w ∧ Calls P f args w fun e w' => ∃ v c', e = .returned v ∧ AfterE M w0 c w h' av v w' c')
theorem Did.toE {o : Oper} {a : Act} {av : AV} (hd : Did P M w0 h c o a w av) : DidE P M w0 c o a w h av := by
 rcases hd with ⟨v, w', c', hr, ha⟩ | ⟨f, args, hr, hc⟩
 ·exact .inl ⟨v, w', c', hr, ha.later, ha.good, ha.val⟩
 ·refine .inr (.inr ⟨f, args, hr, hc.mono ?_⟩)
  rintro e w' ⟨v, c', he, ha⟩
  exact ⟨v, c', he, ha.later, ha.good, ha.val⟩
theorem DidE.wp {o : Oper} {a : Act} {av : AV} {h' : List Obj} {next : Act → World → Prop} {Q : Exit → Act → World → Prop} (hd : DidE P M w0 c o a w h' av) (hn : ∀ v w' c', AfterE M w0 c w h' av v w' c' → next (a.put o.dst v) w') : o.wp P a w next Q := by
 rcases hd with ⟨v, w', c', hr, ha⟩ | ⟨w', c', hr, ha⟩ | ⟨f, args, hr, hc⟩
 ·unfold Oper.wp; rw [hr]; exact hn v w' c' ha
 ·unfold Oper.wp; rw [hr]; exact hn _ w' c' ha
 ·unfold Oper.wp
  rw [hr]
  refine Calls.mono hc ?_
  rintro e w' ⟨v, c', rfl, ha⟩
  exact hn v w' c' ha
theorem makeMap_ok (hg : Good M w0 c h w) {t : TypeId} (hc : (makeMapAV E h t).1) :
  ∃ v w' c', (Instr.makeMap t none).run P w = .ok v w' ∧ AfterE M w0 c w (makeMapAV E h t).2.2 (makeMapAV E h t).2.1 v w' c' := by
 unfold makeMapAV at hc ⊢
 split at hc
 ·rename_i k e he
  split at hc
  ·rename_i kc vc hk hv
   simp only [hk, hv]
   have hkeep : Keeps nothing w (w.alloc (.map #[] 0)) := Keeps.alloc nothing w _
   have e1 : (c.push (.map (some w.heap.size))).hd c.n = .map (some w.heap.size) := by simp [Ctx.push]
   have := hg.push hkeep (o := .map kc vc []) (hv := .map (some w.heap.size)) (by
    refine ⟨w.heap.size, #[], 0, e1, alloc_get w _, rfl, fun j h => by simp at h⟩) (fun b hb => by
    simp only [ownBlock, e1, blockOf, Option.some.injEq] at hb
    subst hb
    exact ⟨Nat.le_refl _, by simp⟩)
   refine ⟨.map (some w.heap.size), _, _, rfl, this.2, this.1, ?_⟩
   rw [← hg.n]
   exact ⟨⟨Nat.lt_succ_self c.n, by rw [e1]; rfl, by rw [e1]; trivial⟩, (fun h => by cases h), (fun _ cs => by simp)⟩
  ·exact hc.elim
 ·exact hc.elim
theorem put_ok (hE : EnvOK P E) (hg : Good M w0 c h w) {t : TypeId} {m k v : AV} {mv kv vv : Value} (hm : ValR c w m mv) (hk : ValR c w k kv) (hv : ValR c w v vv) (hc : (putAV E h t m k v).1) :
  ∃ w', (Instr.mapUpdate t mv kv vv).run P w = .ok () w' ∧ Later c w c w' ∧ Good M w0 c (putAV E h t m k v).2.2 w' ∧ (putAV E h t m k v).2.1 = .junk := by
 unfold putAV at hc ⊢
 split at hc
 ·rename_i i
  split at hc
  ·rename_i kc vc l ho
   split at hc
   ·rename_i x y hx hy
    obtain ⟨h1, h3⟩ := hc
    simp only [ho, hx, hy]
    obtain ⟨b, es, clock, q1, q2, q3, q4⟩ := hg.objs i _ ho
    have hmv : mv = .map (some b) := by
     obtain ⟨r1, _, r3⟩ := hm
     simp only [CellsR] at r1
     have r3 := r3 rfl
     obtain ⟨_, r1, _⟩ := r1
     rw [q1] at r1
     cases mv <;> simp [Value.cells] at r1 r3 <;> rw [r1]
    subst hmv
    unfold mapT at h3
    split at h3
    ·rename_i kt et he
     have hkx := as_frz_ok hg hk hx
     have hvy := as_frz_ok hg hv hy
     have hu := hE.mp _ _ _ he
     have hgo : (getObj b).run P w = .ok (.map es clock) w := by simp [getObj, Sem.run, q2]
     have hl : es.toList.length = l.length := by simpa using q3
     have hf := run_findKey' (P := P) hE.T h3.1 h1 hkx w l es.toList hl (fun j h h' => by have := (q4 j h (by simpa using h')).1; simpa using this)
     have hck := run_checkKey' (P := P) false 9998 hE.T h3.1 h1 hkx w
     have hff := ffind_get (c := kc) (w := w) (S := c.S) (x := x) l es.toList 0 hl
     have hob : ownBlock c i (.map kc vc l) = some b := by simp [ownBlock, q1, blockOf]
     have hblt : b < w.heap.size := (hg.own i _ b ho hob).2.1
     have hnS := (hg.own i _ b ho hob).2.2
     have hset : ∀ (es' : Array MapEntry) (clock' : Nat) (l' : List (kc.den × vc.den)), es'.size = l'.length → (∀ j (h : j < l'.length) (h' : j < es'.size), RepV w c.S kc l'[j].1 es'[j].key ∧ RepV w c.S vc l'[j].2 es'[j].val) →
       ∃ w', (setObj b (.map es' clock')).run P w = .ok () w' ∧ Later c w c w' ∧ Good M w0 c (h.set i (.map kc vc l')) w' := fun es' clock' l' hs hr => by
      have hsame : ∀ k, k ≠ b → (w.heap.setIfInBounds b (Go.Obj.map es' clock'))[k]? = w.heap[k]? := fun k hk => by simp [Ne.symm hk]
      have hkS : Same c.S w { w with heap := w.heap.setIfInBounds b (.map es' clock') } := fun k hk => hsame k (fun e => hnS (e ▸ hk))
      refine ⟨{ w with heap := w.heap.setIfInBounds b (.map es' clock') }, by simp [setObj, Sem.run, q2], ?_⟩
      have := hg.modify (o' := .map kc vc l') ho hob (w' := { w with heap := w.heap.setIfInBounds b (.map es' clock') }) rfl rfl rfl (by simp) hsame ?_ ?_
      ·exact ⟨this.2, this.1⟩
      ·exact ⟨b, es', clock', q1, by simp [hblt], hs, fun j h h' => ⟨(hr j h h').1.keep (fun _ h => h) hkS, (hr j h h').2.keep (fun _ h => h) hkS⟩⟩
      ·intro b' hb'
       simp [ownBlock, q1, blockOf] at hb'
       exact hb'.symm
     cases hgt : mget kc l x with
     | some y0 =>
      rw [hgt] at hff
      obtain ⟨j, e, k1, r1, r2, r3, r4, r5⟩ := hff
      rw [r1] at hf
      simp only [Nat.zero_add] at hf
      have hjl : j < l.length := by
       rcases Nat.lt_or_ge j l.length with h | h
       ·exact h
       ·rw [List.getElem?_eq_none h] at r3; cases r3
      have hje : j < es.size := by omega
      have e1 : es[j] = e := by
       have : es.toList[j]? = some e := r2
       rw [Array.getElem?_toList, Array.getElem?_eq_getElem hje] at this
       simpa using this
      have e2 : l[j] = (k1, y0) := by rw [List.getElem?_eq_getElem hjl] at r3; simpa using r3
      have hkk := (q4 j hjl hje).1
      rw [e1, e2] at hkk
      have hkey : e.key = kv := ((key_eq h1 hkx hkk).1 r4).symm
      obtain ⟨w', s1, s2, s3⟩ := hset (es.modify j fun e => { e with key := kv, val := vv }) clock (l.set j (k1, y)) (by simp [q3]) (fun j' h h' => by
       simp only [List.length_set] at h
       have hj' : j' < es.size := by omega
       have hq := q4 j' h hj'
       simp only [List.getElem_set, Array.getElem_modify]
       by_cases ej : j = j'
       ·subst ej
        simp only [if_true]
        exact ⟨by rw [← hkey]; exact hkk, hvy⟩
       ·simp only [ej, if_false]; exact hq)
      refine ⟨w', ?_, s2, by rw [r5]; exact s3, trivial⟩
      have hst := run_stays (P := P) h1 hkx w
      simp [Instr.mapUpdate, run_under hu, hgo, hck, hf, Result.andThen, Array.getElem?_eq_getElem hje, e1, hkey, hst, s1]
     | none =>
      rw [hgt] at hff
      rw [hff.1] at hf
      obtain ⟨w', s1, s2, s3⟩ := hset (es.push { key := kv, val := vv, born := clock }) (clock + 1) (l ++ [(x, y)]) (by simp [q3]) (fun j' h h' => by
       rcases Nat.lt_or_ge j' l.length with hj | hj
       ·have hj' : j' < es.size := by omega
        have hq := q4 j' hj hj'
        rw [List.getElem_append_left hj, Array.getElem_push_lt hj']
        exact hq
       ·have ej : j' = l.length := by simp at h; omega
        subst ej
        have e3 : (es.push { key := kv, val := vv, born := clock : MapEntry })[l.length]'h' = { key := kv, val := vv, born := clock } := by
         have : l.length = es.size := q3.symm
         simp [Array.getElem_push, this]
        rw [e3]
        simp only [List.getElem_append_right (Nat.le_refl _), Nat.sub_self, List.getElem_singleton]
        exact ⟨hkx, hvy⟩)
      refine ⟨w', ?_, s2, by rw [hff.2]; exact s3, trivial⟩
      simp [Instr.mapUpdate, run_under hu, hgo, hck, hf, Result.andThen, s1]
    ·exact h3.elim
   ·exact hc.elim
  ·exact hc.elim
 ·exact hc.elim
theorem buildNone_ok (hE : EnvOK P E) (hg : Good M w0 c h w) {t : TypeId} (hc : (buildNone E h t).1) :
  ∃ v' w' c', (Instr.buildSlice t 0 #[]).run P w = .ok v' w' ∧ Later c w c' w' ∧ Good M w0 c' (buildNone E h t).2.2 w' ∧ ValR c' w' (buildNone E h t).2.1 v' := by
 unfold buildNone at hc ⊢
 split at hc
 ·rename_i ct ht
  have hd := hE.el t ct ht
  obtain ⟨e', hd', hTe', hpos⟩ := under_sl (hE.T _ _ ht)
  have : e' = E.el t := by rw [hd] at hd'; cases hd'; rfl
  subst this
  have hTe := hE.T _ _ hTe'
  have hk : Keeps nothing w (w.alloc (.cells #[] (E.el t) (0, 0))) := Keeps.alloc nothing w _
  have e : (c.push (.slice (some ⟨w.heap.size, 0, none⟩) 0 0)).hd c.n = .slice (some ⟨w.heap.size, 0, none⟩) 0 0 := by simp [Ctx.push]
  have := hg.push hk (o := .row (E.el t) ct []) (hv := .slice (some ⟨w.heap.size, 0, none⟩) 0 0) (by
   show RowR _ _ _ _ _ _
   rw [e]
   exact ⟨[], ⟨by simp, .inr ⟨w.heap.size, 0, #[], rfl, Nat.zero_le _, alloc_get w _, Nat.le_refl _, Nat.zero_le _, by simp, by simp⟩⟩, ⟨rfl, [], rfl, rfl, fun i hi => by simp at hi⟩⟩) (fun b hb => by
   simp only [ownBlock, e, blockOf, Option.some.injEq] at hb
   subst hb
   exact ⟨Nat.le_refl _, by simp⟩)
  refine ⟨.slice (some ⟨w.heap.size, 0, none⟩) 0 0, _, _, ?_, this.2, this.1, ?_⟩
  ·have e1 : (Array.range (0 * ct.cells)).map (fun x => (#[] : Array Value)[x % (#[] : Array Value).size]!) = #[] := by simp
   have hle : ¬ (0 * ct.cells > 2 ^ 24) := by omega
   simp only [Instr.buildSlice, Sem.run_bind, run_under hd, Result.andThen_ok, run_size hTe, hle, if_false, Nat.zero_mul, if_true, Sem.run_ite, Sem.run_pure]
   rw [if_neg (by decide)]
   simp only [Nat.zero_mul] at e1
   rw [e1]
   rfl
  ·have := own_mk (c := c) (v' := .slice (some ⟨w.heap.size, 0, none⟩) 0 0) ⟨_, _, _, rfl⟩ (w' := w.alloc (.cells #[] (E.el t) (0, 0))) (S' := c.S)
   rw [← hg.n]
   exact this
 ·exact hc.elim
theorem eff_ok (hE : EnvOK P E) (hg : Good M w0 c h w) (hG : GlobR E.G c.S w) {o : Oper} {a : Act} {ρ : Operand → AV} (hρ : ∀ x ∈ o.op.operands, ValR c w (ρ x) (a.eval x)) (hc : (effAV E h ρ o).1) : DidE P M w0 c o a w (effAV E h ρ o).2.2 (effAV E h ρ o).2.1 := by
 have hpv : (pv E h ρ o).1 → DidE P M w0 c o a w h (pv E h ρ o).2 := fun hc => (pv_ok hE hg hG hρ hc).toE
 obtain ⟨dst, op, ty, pos, aft, gd⟩ := o
 cases op
 case alloc t =>
  simp only [effAV] at hc ⊢
  split at hc
  ·rename_i ct ht
   have hz := run_zero (hE.T _ _ ht) hc w
   obtain ⟨w', c', h1, h2, h3, h4⟩ := newVar_ok hg (t := t) (P := P) (x := .val ct ct.zero) rfl (ValR.ofV (zval_rep w c.S ct hc))
   refine .inl ⟨_, w', c', ?_, h2, h3, h4⟩
   simp [execOp, Instr.alloc, hz, h1]
  ·exact hc.elim
 case box t x =>
  simp only [effAV] at hc ⊢
  obtain ⟨w', c', h1, h2, h3, h4⟩ := newVar_ok hg (t := t) (P := P) hc (hρ x (by simp [Op.operands]))
  exact .inl ⟨_, w', c', by simp [execOp, Instr.box, h1], h2, h3, h4⟩
 case store t p x =>
  simp only [effAV] at hc ⊢
  obtain ⟨w', h1, h2, h3⟩ := store_ok (P := P) hE.T hg (hρ p (by simp [Op.operands])) (hρ x (by simp [Op.operands])) hc
  refine .inr (.inl ⟨w', c, by simp [execOp, h1], h2, h3, ?_⟩)
  have : (storeAV E.T h t (ρ p) (ρ x)).2.1 = .junk := by
   unfold storeAV
   split <;> (try rfl)
   split <;> (try rfl)
   split <;> (try rfl)
   split <;> rfl
  rw [this]; trivial
 case makeMap t r =>
  cases r with
  | none =>
   simp only [effAV] at hc ⊢
   obtain ⟨v, w', c', h1, h2⟩ := makeMap_ok (P := P) hg hc
   exact .inl ⟨v, w', c', by simp [execOp, h1], h2⟩
  | some _ => exact hpv hc
 case buildSlice t n ps =>
  simp only [effAV] at hc ⊢
  split at hc
  ·rename_i hps
   obtain rfl : ps = #[] := by rw [← Array.toList_inj]; exact hps
   obtain ⟨v', w', c', h1, h2, h3, h4⟩ := buildNone_ok (P := P) hE hg hc
   exact .inl ⟨v', w', c', by simp [execOp, h1], h2, h3, h4⟩
  ·exact hpv hc
 case mapUpdate t m k v =>
  simp only [effAV] at hc ⊢
  obtain ⟨w', h1, h2, h3, h4⟩ := put_ok (P := P) hE hg (hρ m (by simp [Op.operands])) (hρ k (by simp [Op.operands])) (hρ v (by simp [Op.operands])) hc
  exact .inr (.inl ⟨w', c, by simp [execOp, h1], h2, h3, by rw [h4]; trivial⟩)
 case makeSlice t l cp =>
  simp only [effAV] at hc ⊢
  obtain ⟨v', w', c', h1, h2, h3, h4⟩ := make_ok (P := P) hE hg (hρ l (by simp [Op.operands])) (hρ cp (by simp [Op.operands])) hc
  exact .inl ⟨v', w', c', by simp [execOp, h1], h2, h3, h4⟩
 case pick p x y =>
  simp only [effAV] at hc ⊢
  have hp := hρ p (by simp [Op.operands])
  have hx := hρ x (by simp [Op.operands])
  have hy := hρ y (by simp [Op.operands])
  unfold pickB at hc ⊢
  split at hc
  ·rename_i q u v e1 e2 e3
   rw [e1] at hp
   rw [e2] at hx
   rw [e3] at hy
   have hb := openB hp
   cases q
   ·exact (Did.of_value (v := a.eval y) (h := h) hg (by simp [execOp, hb, asBool]) hy).toE
   ·exact (Did.of_value (v := a.eval x) (h := h) hg (by simp [execOp, hb, asBool]) hx).toE
  ·rename_i q v e1 e2 e3
   rw [e1] at hp
   rw [e3] at hy
   have hb := openB hp
   have hc : q = false := hc
   subst hc
   exact (Did.of_value (v := a.eval y) (h := h) hg (by simp [execOp, hb, asBool]) hy).toE
  ·rename_i q u e1 e2 e3
   rw [e1] at hp
   rw [e2] at hx
   have hb := openB hp
   have hc : q = true := hc
   subst hc
   exact (Did.of_value (v := a.eval x) (h := h) hg (by simp [execOp, hb, asBool]) hx).toE
  ·exact hc.elim
 case call cl =>
  obtain ⟨callee, args, argTypes⟩ := cl
  have hargs : ∀ x ∈ args.toList, ValR c w (ρ x) (a.eval x) := fun x hx => hρ x (by
   simp only [Op.operands, Call.operands]
   exact Array.mem_append.2 (.inr (by simpa using hx)))
  cases callee with
  | builtin b =>
   cases b
   case append =>
    simp only [effAV, effCall] at hc ⊢
    split at hc
    ·rename_i s x t t' e1 e2
     obtain ⟨p, q, epq, rfl, rfl⟩ : ∃ p q, args.toList = [p, q] ∧ ρ p = s ∧ ρ q = x := by
      match hl : args.toList, e1 with
      | [p, q], ex => simp at ex; exact ⟨p, q, rfl, ex.1, ex.2⟩
     cases hz : isI64 (E.T t') with
     | true =>
      simp only [hz, cond_true] at hc ⊢
      have htx : P.underlying t' = some (.int .i64) := by
       unfold isI64 at hz
       split at hz
       ·rename_i hT
        exact under_i (hE.T _ _ hT)
       ·cases hz
      obtain ⟨v', w', c', h1, h2, h3, h4⟩ := appendZ_ok (P := P) (ty := ty) hE hg htx (hargs p (by rw [epq]; simp)) (hargs q (by rw [epq]; simp)) hc
      have e3 : args = #[p, q] := by rw [← Array.toList_inj]; exact epq
      have e4 : argTypes = #[t, t'] := by rw [← Array.toList_inj]; exact e2
      exact .inl ⟨v', w', c', by rw [e3, e4]; simp [execOp, resolve, invoke, builtin, h1], h2, h3, h4⟩
     | false =>
     simp only [hz, cond_false] at hc ⊢
     obtain ⟨hc, rfl⟩ := hc
     obtain ⟨v', w', c', h1, h2, h3, h4⟩ := append_ok (P := P) (ty := ty) hE hg (hargs p (by rw [epq]; simp)) (hargs q (by rw [epq]; simp)) hc
     have e3 : args = #[p, q] := by rw [← Array.toList_inj]; exact epq
     have e4 : argTypes = #[t', t'] := by rw [← Array.toList_inj]; exact e2
     exact .inl ⟨v', w', c', by rw [e3, e4]; simp [execOp, resolve, invoke, builtin, h1], h2, h3, h4⟩
    ·exact hc.elim
   all_goals exact hpv hc
  | value f =>
   cases f with
   | func f =>
    simp only [effAV, effCall] at hc ⊢
    cases ho : isOwn E.Γ f (args.toList.map ρ) with
    | false =>
     simp only [ho, cond_false] at hc ⊢
     exact hpv hc
    | true =>
     simp only [ho, cond_true] at hc ⊢
     have hfok : ∀ sp, E.Γ f (args.toList.map ρ) = some sp → FOK P E.G f sp ∧ ∃ fn, P.funcs[f]? = some fn ∧ fn.name ≠ "runtime.NumGoroutine" ∧ fn.body.isSome = true := fun sp hsp => by
      rcases hE.Γ f _ sp hsp with h | h
      ·exact h
      ·unfold isOwn at ho
       rw [hsp] at ho
       obtain ⟨a1, r1, p1, f1⟩ := sp
       cases r1 with
       | own e t => exact absurd rfl (h.1 e t)
       | _ => simp at ho
     have hcall := callOwn_ok (P := P) (Γ := E.Γ) (fun sp hsp => (hfok sp hsp).1) hg hG (f := f) (vs := args.toList.map ρ) (xs := (args.toList.map a.eval).toArray) (by simp) (fun i h1 h2 => by
      have := vals_ok (ρ := ρ) (a := a) (c := c) (w := w) hargs i h1 (by simpa using h2)
      simpa using this) hc
     have hfn : ∃ fn, P.funcs[f]? = some fn ∧ fn.name ≠ "runtime.NumGoroutine" ∧ fn.body.isSome = true := by
      unfold isOwn at ho
      cases hΓ : E.Γ f (args.toList.map ρ) with
      | none => simp [hΓ] at ho
      | some sp => exact (hfok sp hΓ).2
     refine .inr (.inr ⟨f, (args.toList.map a.eval).toArray, ?_, ?_⟩)
     ·have hrun := run_callFunc (w := w) (args := (args.map a.eval)) hfn
      have e2 : (args.toList.map a.eval).toArray = args.map a.eval := by rw [← Array.toList_inj]; simp
      rw [e2]
      simp [execOp, resolve, Deferred.ofValue, Act.eval, invoke, hrun]
     ·refine hcall.mono ?_
      rintro e w' ⟨v, c', he, h1, h2, h3⟩
      exact ⟨v, c', he, h1, h2, h3⟩
   | _ => exact hpv hc
  | _ => exact hpv hc
 all_goals exact hpv hc
theorem thaw_all (hg : Good M w0 c h w) {G : Nat → AV} {env : St} {a : Act} (he : EnvR c w env a.tmps) (hG : GlobR G c.S w) {x : Operand} (hx : okOperand x = true) : ValR c w (thaw h (evA G env x)) (a.eval x) := thaw_ok hg (evA_ok he hG hx)
theorem step_ok (hE : EnvOK P E) {nt : Nat} {ds : List Deferred} {env : St} {a : Act} {o : Oper} (hs : Sim E M w0 nt ds c env h a w) (hok : okOper nt o = true) (hc : (stepB E env h o).1) : DidE P M w0 c o a w (stepB E env h o).2.2 (stepB E env h o).2.1 := by
 obtain ⟨c1, hl, hn, hg1⟩ := hs.good.freezeAll (frzFor E (evA E.G env) o)
 simp only [okOper, Bool.and_eq_true] at hok
 have hall : ∀ x ∈ o.op.operands, okOperand x = true := Array.all_eq_true_iff_forall_mem.1 hok.1
 have hG1 : GlobR E.G c1.S w := hs.glob.mono hl.le.S hl.same
 have := eff_ok hE hg1 hG1 (o := o) (a := a) (ρ := fun x => thaw (freezeAll (frzFor E (evA E.G env) o) h) (evA E.G env x)) (fun x hx => thaw_all hg1 (hs.env.keep hl) hG1 (hall x hx)) hc
 rcases this with ⟨v, w', c', hr, ha⟩ | ⟨w', c', hr, ha⟩ | ⟨f, args, hr, hcl⟩
 ·exact .inl ⟨v, w', c', hr, hl.trans ha.later, ha.good, ha.val⟩
 ·exact .inr (.inl ⟨w', c', hr, hl.trans ha.later, ha.good, ha.val⟩)
 ·refine .inr (.inr ⟨f, args, hr, hcl.mono ?_⟩)
  rintro e w' ⟨v, c', he, ha⟩
  exact ⟨v, c', he, hl.trans ha.later, ha.good, ha.val⟩
theorem Sim.after {nt : Nat} {ds : List Deferred} {env : St} {a : Act} {o : Oper} (hs : Sim E M w0 nt ds c env h a w) (hok : okOper nt o = true) {h' : List Obj} {av : AV} {v : Value} {w' : World} {c' : Ctx} (ha : AfterE M w0 c w h' av v w' c') : Sim E M w0 nt ds c' (putE o.dst av env) h' (a.put o.dst v) w' := by
 simp only [okOper, Bool.and_eq_true] at hok
 refine ⟨ha.good, hs.glob.mono ha.later.le.S ha.later.same, ?_, ?_, ?_⟩
 ·cases hd : o.dst with
  | none => exact hs.env.keep ha.later
  | some d =>
   have hdn : d < nt := by have := hok.2; rw [hd] at this; simpa using this
   exact (hs.env.keep ha.later).put (by rw [hs.size]; exact hdn) ha.val
 ·cases hd : o.dst with
  | none => exact hs.size
  | some d => simp [Act.put, hs.size]
 ·cases hd : o.dst with
  | none => exact hs.defers
  | some d => exact hs.defers
def yb : Value → Option Bool
 | .bool b => some b
 | _ => none
theorem dst_yield {nt : Nat} {ops : List Oper} (hok : ∀ o ∈ ops, okOper nt o = true) {a : Act} (hsz : a.tmps.size = nt) {j dj : Nat} (hd : dstAt ops j = some dj) {v : Value} (hv : a.tmps.getD dj Go.undef = v) : yielded ops.toArray a.tmps j = yb v := by
 unfold dstAt at hd
 split at hd
 ·rename_i oj hj
  have hokJ := hok oj (List.mem_of_getElem? hj)
  simp only [okOper, Bool.and_eq_true, hd, decide_eq_true_eq] at hokJ
  have hdj : dj < a.tmps.size := by rw [hsz]; exact hokJ.2
  have h1 : a.tmps[dj]? = some v := by
   rw [Array.getElem?_eq_getElem hdj]
   have : a.tmps[dj] = v := by simpa [hdj] using hv
   rw [this]
  simp only [yielded, List.getElem?_toArray, hj, Option.bind_some, hd, h1]
  cases v <;> rfl
 ·cases hd
theorem seqB_ok (hE : EnvOK P E) {ops : List Oper} {Q : Exit → Act → World → Prop} {nt : Nat} {ds : List Deferred} (hok : ∀ o ∈ ops, okOper nt o = true) {K : St → List Obj → Prop} (hK : ∀ env h c a w, K env h → Sim E M w0 nt ds c env h a w → Q .normal a w) :
  ∀ (m i : Nat), i + m = ops.length → ∀ (env : St) (h : List Obj) (c : Ctx) (a : Act) (w : World), seqB E ops (ops.drop i) env h K → Sim E M w0 nt ds c env h a w → wpOps P ops.toArray Q (List.range' i m) a w
 | 0, i, hi, env, h, c, a, w, hs, hsim => by
  rw [List.drop_eq_nil_of_le (by omega)] at hs
  simp only [List.range'_zero, wpOps]
  exact hK env h c a w hs hsim
 | m + 1, i, hi, env, h, c, a, w, hs, hsim => by
  have hil : i < ops.length := by omega
  rw [List.drop_eq_getElem_cons hil] at hs
  have hokO := hok ops[i] (List.getElem_mem hil)
  have hput : ∀ (v : Value) (av : AV), ValR c w av v → Sim E M w0 nt ds c (putE ops[i].dst av env) h (a.put ops[i].dst v) w := fun v av hv => hsim.after hokO ⟨.refl _ _, hsim.good, hv⟩
  have hrun : ((stepB E env h ops[i]).1 ∧ seqB E ops (ops.drop (i + 1)) (putE ops[i].dst (stepB E env h ops[i]).2.1 env) (stepB E env h ops[i]).2.2 K) → Region.wanted ops[i] (yielded ops.toArray a.tmps) = true → wpOps P ops.toArray Q (List.range' i (m + 1)) a w := fun ⟨h1, h2⟩ hw => by
   rw [List.range'_succ]
   simp only [wpOps, List.getElem?_toArray, List.getElem?_eq_getElem hil, hw, if_true]
   left
   refine (step_ok hE hsim hokO h1).wp fun v w' c' ha => ?_
   exact seqB_ok hE hok hK m (i + 1) (by omega) _ _ c' _ w' h2 (hsim.after hokO ha)
  have hskip : seqB E ops (ops.drop (i + 1)) (putE ops[i].dst .undef env) h K → Region.wanted ops[i] (yielded ops.toArray a.tmps) = false → wpOps P ops.toArray Q (List.range' i (m + 1)) a w := fun h2 hw => by
   rw [List.range'_succ]
   simp only [wpOps, List.getElem?_toArray, List.getElem?_eq_getElem hil, hw, Bool.false_eq_true, if_false]
   exact seqB_ok hE hok hK m (i + 1) (by omega) _ _ c _ w h2 (hput _ _ rfl)
  simp only [seqB] at hs
  cases hgd : ops[i].guard with
  | none =>
   rw [hgd] at hs
   exact hrun hs (by simp [Region.wanted, hgd])
  | some jp =>
   obtain ⟨j, pol⟩ := jp
   rw [hgd] at hs
   simp only at hs
   cases hdj : dstAt ops j with
   | none => rw [hdj] at hs; exact hs.elim
   | some dj =>
    rw [hdj] at hs
    simp only at hs
    have hv := hsim.env dj
    split at hs
    ·rename_i b hb
     rw [hb] at hv
     have hb' := openB hv
     have hy := dst_yield hok hsim.size hdj hb'
     simp only [yb] at hy
     by_cases e : b = pol
     ·exact hrun (hs.1 e) (by simp [Region.wanted, hgd, hy, e])
     ·have e' : b = !pol := by cases b <;> cases pol <;> simp_all
      exact hskip (hs.2 e') (by simp [Region.wanted, hgd, hy, e])
    ·rename_i hb
     rw [hb] at hv
     have hy := dst_yield hok hsim.size hdj (v := Go.undef) hv
     exact hskip hs (by simp [Region.wanted, hgd, hy, Go.undef, yb])
    ·exact hs.elim
theorem tri_regionB {F : Fr} {Q : Exit → Act → World → Prop} {env : St} {h : List Obj} (hF : FrOK F) {id : Nat} {ops : Array Oper} (keep : List Nat) (hv : seqB F.E ops.toList ops.toList env h (fun env h => At F (Q .normal) (keep.map fun t => (t, look env t)) h)) : Tri F (.region id ops false) Q env h := fun hok c a w hs => by
 simp only [okCode, Bool.and_eq_true, Bool.or_eq_true, Bool.not_eq_true'] at hok
 obtain ⟨⟨h1, h2⟩, h3⟩ := hok
 refine wp_region ?_
 have := seqB_ok (Q := Q) hF.env (List.all_eq_true.1 h1) (K := fun env h => At F (Q .normal) (keep.map fun t => (t, look env t)) h) (fun env h c a w hk hs => hk c a w (hs.keep keep)) ops.toList.length 0 (by simp) env h c a w (by simpa using hv) hs
 simpa [List.range_eq_range'] using this
end
end Go.Vc
namespace Go.Vc
open Go.RowKit
def posOf (i : Nat) : List Nat → Option Nat
 | [] => none
 | k :: r => if k = i then some 0 else match posOf i r with
  | some j => some (j + 1)
  | none => none
def posAll (σ : List Nat) : List Nat → Option (List Nat)
 | [] => some []
 | i :: r => match posOf i σ, posAll σ r with
  | some j, some l => some (j :: l)
  | _, _ => none
def ren1 (σ : List Nat) : AV → AV
 | .own i => match posOf i σ with
  | some j => .own j
  | none => .junk
 | .ptr i p => match posOf i σ with
  | some j => .ptr j p
  | none => .junk
 | .sub i s off n => match posOf i σ with
  | some j => .sub j s off n
  | none => .junk
 | .mp i => match posOf i σ with
  | some j => .mp j
  | none => .junk
 | .fn f l1 l2 => match posAll σ l1, posAll σ l2 with
  | some l1, some l2 => .fn f l1 l2
  | _, _ => .junk
 | .agg _ => .junk
 | .flat _ => .junk
 | .tup _ => .junk
 | v => v
def ren (σ : List Nat) : AV → AV
 | .agg vs => .agg (vs.map (ren1 σ))
 | .tup _ => .junk
 | .flat _ => .junk
 | v => ren1 σ v
def renO (σ : List Nat) : Obj → Obj
 | .box n v => .box n (ren σ v)
 | o => o
def nodupB : List Nat → Bool
 | [] => true
 | i :: r => !r.contains i && nodupB r
def preB (m : Nat) (σ : List Nat) : Bool := (List.range m).all fun i => decide (σ[i]? = some i)
theorem preB_get {m : Nat} {σ : List Nat} (h : preB m σ = true) {i : Nat} (hi : i < m) : σ[i]? = some i := by
 have := List.all_eq_true.1 h i (List.mem_range.2 hi)
 simpa using this
section
variable {F : Fr} {M : Perm} {w0 : World} {c : Ctx} {h : List Obj} {w : World} {env : St} {K : Act → World → Prop}
theorem posOf_ok {i : Nat} : ∀ {σ : List Nat} {j : Nat}, posOf i σ = some j → σ[j]? = some i
 | k :: r, j, hp => by
  simp only [posOf] at hp
  split at hp
  ·rename_i e; cases hp; simp [e]
  ·split at hp
   ·rename_i j' hj; cases hp; simp [posOf_ok hj]
   ·cases hp
 | [], _, hp => by cases hp
def Ctx.ren (c : Ctx) (σ : List Nat) : Ctx := ⟨c.S, fun j => c.hd (σ.getD j 0), σ.length⟩
theorem ren_hd {σ : List Nat} {i j : Nat} (hp : posOf i σ = some j) : j < σ.length ∧ (c.ren σ).hd j = c.hd i := by
 have := posOf_ok hp
 have hlt : j < σ.length := by
  rcases Nat.lt_or_ge j σ.length with hh | hh
  ·exact hh
  ·rw [List.getElem?_eq_none hh] at this; cases this
 refine ⟨hlt, ?_⟩
 simp [Ctx.ren, List.getD_eq_getElem?_getD, this]
theorem posAll_ok {σ : List Nat} : ∀ {l l' : List Nat}, posAll σ l = some l' → (∀ j ∈ l', j < σ.length) ∧ l'.map (c.ren σ).hd = l.map c.hd
 | [], l', hp => by simp [posAll] at hp; subst hp; exact ⟨(fun j hj => by cases hj), rfl⟩
 | i :: r, l', hp => by
  simp only [posAll] at hp
  split at hp
  ·rename_i j l h1 h2
   cases hp
   obtain ⟨q1, q2⟩ := ren_hd (c := c) h1
   obtain ⟨k1, k2⟩ := posAll_ok h2
   refine ⟨fun k hk => ?_, by simp [q2, k2]⟩
   rcases List.mem_cons.1 hk with rfl | hk
   ·exact q1
   ·exact k1 k hk
  ·cases hp
theorem ren1_cells {σ : List Nat} : ∀ {v : AV} {cs : List Value}, CellsR c w v cs → CellsR (c.ren σ) w (ren1 σ v) cs := by
 intro v cs hr
 cases v <;> simp only [ren1] <;> (try trivial)
 case own i =>
  split
  ·rename_i j hp
   obtain ⟨q1, q2⟩ := ren_hd (c := c) hp
   simp only [CellsR] at hr ⊢
   rw [q2]
   exact ⟨q1, hr.2⟩
  ·trivial
 case ptr i p =>
  split
  ·rename_i j hp
   obtain ⟨q1, q2⟩ := ren_hd (c := c) hp
   simp only [CellsR] at hr ⊢
   rw [q2]
   exact ⟨q1, hr.2⟩
  ·trivial
 case sub i s off n =>
  split
  ·rename_i j hp
   obtain ⟨q1, q2⟩ := ren_hd (c := c) hp
   simp only [CellsR] at hr ⊢
   rw [q2]
   exact ⟨q1, hr.2⟩
  ·trivial
 case mp i =>
  split
  ·rename_i j hp
   obtain ⟨q1, q2⟩ := ren_hd (c := c) hp
   simp only [CellsR] at hr ⊢
   rw [q2]
   exact ⟨q1, hr.2⟩
  ·trivial
 case fn f l1 l2 =>
  split
  ·rename_i l1' l2' h1 h2
   obtain ⟨q1, q2⟩ := posAll_ok (c := c) h1
   obtain ⟨k1, k2⟩ := posAll_ok (c := c) h2
   simp only [CellsR] at hr ⊢
   rw [q2, k2]
   exact ⟨q1, k1, hr.2.2⟩
  ·trivial
 all_goals exact hr
theorem ren_agg {σ : List Nat} : ∀ {vs : List AV} {cs : List Value}, AggR c w vs cs → AggR (c.ren σ) w (vs.map (ren1 σ)) cs
 | [], _, hr => hr
 | v :: r, _, ⟨c1, c2, e, h1, h2⟩ => ⟨c1, c2, e, ren1_cells h1, ren_agg h2⟩
theorem ren_cells {σ : List Nat} {v : AV} {cs : List Value} (hr : CellsR c w v cs) : CellsR (c.ren σ) w (ren σ v) cs := by
 cases v
 case agg vs => exact ren_agg hr
 case tup => trivial
 case flat => trivial
 all_goals exact ren1_cells hr
theorem ren_val {σ : List Nat} {v : AV} {x : Value} (hr : ValR c w v x) : ValR (c.ren σ) w (ren σ v) x := by
 have main : ValR1 c w v x → (ren σ v = .junk ∨ (ren σ v).isAgg = v.isAgg) → (∀ vs, ren σ v ≠ .tup vs) → (ren σ v ≠ .undef ∨ v = .undef) → ValR (c.ren σ) w (ren σ v) x := fun h1 ha ht hu => by
  rcases ha with ha | ha
  ·rw [ha]; trivial
  ·have h2 := ren_cells (σ := σ) h1.1
   generalize ren σ v = u at h2 ha ht hu
   have h3 : ValR1 (c.ren σ) w u x := ⟨h2, by rw [ha]; exact h1.2.1, by rw [ha]; exact h1.2.2⟩
   cases u <;> first | exact h3 | trivial | exact absurd rfl (ht _) | skip
   have h2 : x.cells.toList = [Go.undef] := h2
   have h4 := h1.2.2
   rw [← ha] at h4
   have h4 := h4 rfl
   show x = Go.undef
   cases x <;> simp [Value.cells] at h2 h4 <;> first | exact h2 | skip
 cases v
 case junk => trivial
 case undef => exact hr
 case tup => trivial
 case flat => trivial
 case agg vs => exact main hr (.inr rfl) (fun _ h => by simp [ren] at h) (.inl (by simp [ren]))
 case val => exact main hr (.inr rfl) (fun _ h => by simp [ren, ren1] at h) (.inl (by simp [ren, ren1]))
 case nilS => exact main hr (.inr rfl) (fun _ h => by simp [ren, ren1] at h) (.inl (by simp [ren, ren1]))
 case nilP => exact main hr (.inr rfl) (fun _ h => by simp [ren, ren1] at h) (.inl (by simp [ren, ren1]))
 case full => exact main hr (.inr rfl) (fun _ h => by simp [ren, ren1] at h) (.inl (by simp [ren, ren1]))
 case roa => exact main hr (.inr rfl) (fun _ h => by simp [ren, ren1] at h) (.inl (by simp [ren, ren1]))
 case own i => cases hp : posOf i σ <;> exact main hr (by simp [ren, ren1, hp, AV.isAgg]) (fun _ h => by simp [ren, ren1, hp] at h) (.inl (by simp [ren, ren1, hp]))
 case ptr i p => cases hp : posOf i σ <;> exact main hr (by simp [ren, ren1, hp, AV.isAgg]) (fun _ h => by simp [ren, ren1, hp] at h) (.inl (by simp [ren, ren1, hp]))
 case sub i s off n => cases hp : posOf i σ <;> exact main hr (by simp [ren, ren1, hp, AV.isAgg]) (fun _ h => by simp [ren, ren1, hp] at h) (.inl (by simp [ren, ren1, hp]))
 case mp i => cases hp : posOf i σ <;> exact main hr (by simp [ren, ren1, hp, AV.isAgg]) (fun _ h => by simp [ren, ren1, hp] at h) (.inl (by simp [ren, ren1, hp]))
 case fn f l1 l2 => cases hp : posAll σ l1 <;> cases hq : posAll σ l2 <;> exact main hr (by simp [ren, ren1, hp, hq, AV.isAgg]) (fun _ h => by simp [ren, ren1, hp, hq] at h) (.inl (by simp [ren, ren1, hp, hq]))
theorem nodup_of : ∀ {σ : List Nat}, nodupB σ = true → ∀ i j : Nat, ∀ k, σ[i]? = some k → σ[j]? = some k → i = j
 | [], _, i, j, k, hi, _ => by simp at hi
 | a :: r, hd, i, j, k, hi, hj => by
  simp only [nodupB, Bool.and_eq_true, Bool.not_eq_true', List.contains_eq_mem, decide_eq_false_iff_not] at hd
  cases i with
  | zero =>
   cases j with
   | zero => rfl
   | succ j =>
    simp at hi hj
    subst hi
    exact absurd (List.mem_of_getElem? hj) hd.1
  | succ i =>
   cases j with
   | zero =>
    simp at hi hj
    subst hj
    exact absurd (List.mem_of_getElem? hi) hd.1
   | succ j =>
    simp at hi hj
    rw [nodup_of hd.2 i j k hi hj]
theorem ownBlock_ren {σ : List Nat} {i j : Nat} (hj : σ[j]? = some i) (o : Obj) : ownBlock (c.ren σ) j (renO σ o) = ownBlock c i o := by
 have : (c.ren σ).hd j = c.hd i := by simp [Ctx.ren, List.getD_eq_getElem?_getD, hj]
 cases o <;> simp [ownBlock, renO, this]
theorem Good.ren (hg : Good M w0 c h w) {σ : List Nat} (hd : nodupB σ = true) (hp : preB M.m σ = true) : Good M w0 (c.ren σ) (σ.map fun i => renO σ (h.getD i .dead)) w := by
 have hcase : ∀ j o', (σ.map fun i => renO σ (h.getD i .dead))[j]? = some o' → ∃ i, σ[j]? = some i ∧ o' = renO σ (h.getD i .dead) := fun j o' hj => by
  rw [List.getElem?_map] at hj
  cases hs : σ[j]? with
  | none => simp [hs] at hj
  | some i => simp [hs] at hj; exact ⟨i, hs, hj.symm⟩
 have hget : ∀ i, h.getD i .dead = .dead ∨ h[i]? = some (h.getD i .dead) := fun i => by
  cases hi : h[i]? with
  | none => left; simp [List.getD_eq_getElem?_getD, hi]
  | some o => right; simp [List.getD_eq_getElem?_getD, hi]
 refine ⟨by simp [Ctx.ren], hg.keeps, hg.sfin, hg.src, fun j o' hj => ?_, fun j o' b hj hb => ?_, fun j k oj ok b hj hk hbj hbk => ?_, ?_, fun i hi => ?_⟩
 ·obtain ⟨i, hi, rfl⟩ := hcase j o' hj
  have hhd : (c.ren σ).hd j = c.hd i := by simp [Ctx.ren, List.getD_eq_getElem?_getD, hi]
  rcases hget i with e | e
  ·rw [e]; trivial
  ·have := hg.objs i _ e
   revert this
   generalize h.getD i .dead = o
   intro this
   cases o with
   | dead => trivial
   | box n v =>
    obtain ⟨b, cells, e', q1, q2, q3, q4⟩ := this
    exact ⟨b, cells, e', by rw [hhd]; exact q1, q2, q3, ren_cells q4⟩
   | row e' t xs => simp only [ObjR, renO] at *; rw [hhd]; exact this
   | frz t xs => simp only [ObjR, renO] at *; rw [hhd]; exact this
   | map k v m =>
    obtain ⟨b, es, clock, q1, q2⟩ := this
    exact ⟨b, es, clock, by rw [hhd]; exact q1, q2⟩
 ·obtain ⟨i, hi, rfl⟩ := hcase j o' hj
  rw [ownBlock_ren hi] at hb
  rcases hget i with e | e
  ·rw [e] at hb; cases hb
  ·exact hg.own i _ b e hb
 ·obtain ⟨i, hi, rfl⟩ := hcase j oj hj
  obtain ⟨i', hi', rfl⟩ := hcase k ok hk
  rw [ownBlock_ren hi] at hbj
  rw [ownBlock_ren hi'] at hbk
  rcases hget i with e | e
  ·rw [e] at hbj; cases hbj
  ·rcases hget i' with e' | e'
   ·rw [e'] at hbk; cases hbk
   ·have := hg.sep i i' _ _ b e e' hbj hbk
    subst this
    exact nodup_of hd j k i hi hi'
 ·rcases Nat.lt_or_ge σ.length M.m with hlt | hge
  ·have := preB_get hp hlt
   rw [List.getElem?_eq_none (Nat.le_refl _)] at this; cases this
  ·exact hge
 ·have hi' := preB_get hp hi
  have e : (c.ren σ).hd i = c.hd i := by simp [Ctx.ren, List.getD_eq_getElem?_getD, hi']
  rw [e]; exact hg.root.2 i hi
theorem look_map (f : AV → AV) (hf : f .junk = .junk) : ∀ (env : St) (t : Nat), look (env.map fun p => (p.1, f p.2)) t = f (look env t)
 | [], t => by simp only [List.map_nil, look]; exact hf.symm
 | (k, v) :: r, t => by
  simp only [List.map_cons, look]
  split
  ·rfl
  ·exact look_map f hf r t
theorem at_ren (σ : List Nat) (hd : nodupB σ = true) (hp : preB F.M.m σ = true) (hk : At F K (env.map fun p => (p.1, ren σ p.2)) (σ.map fun i => renO σ (h.getD i .dead))) : At F K env h := fun c a w hs =>
 hk (c.ren σ) a w ⟨hs.good.ren hd hp, hs.glob, fun t => by rw [look_map (ren σ) rfl]; exact ren_val (hs.env t), hs.size, hs.defers⟩
theorem tri_ren {x : Code} {Q : Exit → Act → World → Prop} (σ : List Nat) (hd : nodupB σ = true) (hp : preB F.M.m σ = true) (hk : Tri F x Q (env.map fun p => (p.1, ren σ p.2)) (σ.map fun i => renO σ (h.getD i .dead))) : Tri F x Q env h := fun hok => at_ren σ hd hp (hk hok)
theorem at_nilrow (s : Nat) (e : TypeId) (t : Ty) (hn : look env s = .nilS) (hk : At F K ((s, .own h.length) :: env) (h ++ [.row e t []])) : At F K env h := fun c a w hs => by
 have hv := hs.env s
 rw [hn] at hv
 have hsv : a.tmps.getD s Go.undef = .slice none 0 0 := by
  obtain ⟨h1, _, h3⟩ := hv
  have h3 := h3 rfl
  simp only [CellsR] at h1
  revert h1 h3
  generalize a.tmps.getD s Go.undef = sv
  intro h1 h3
  cases sv <;> simp [Value.cells] at h1 h3 <;> simp [h1]
 have e1 : (c.push (.slice none 0 0)).hd c.n = .slice none 0 0 := by simp [Ctx.push]
 have := hs.good.push (.refl nothing w) (o := .row e t []) (hv := .slice none 0 0) (by
  show RowR _ _ _ _ _ _
  rw [e1]
  exact ⟨[], ⟨by simp, .inl ⟨rfl, rfl⟩⟩, ⟨rfl, [], rfl, rfl, fun i h => by simp at h⟩⟩) (fun b hb => by simp [ownBlock, e1, blockOf] at hb)
 refine hk _ a w ⟨this.1, hs.glob.mono (fun _ h => h) (.refl _ _), fun t => ?_, hs.size, hs.defers⟩
 simp only [look]
 split
 ·rename_i e'
  subst e'
  rw [hsv, ← hs.good.n]
  exact own_mk (c := c) ⟨_, _, _, rfl⟩ (w' := w) (S' := c.S)
 ·exact this.2.val (hs.env t)
end
end Go.Vc
namespace Go.Vc
open Go.RowKit
def gam : List (FuncId × FSpec) → FuncId → Option FSpec
 | [], _ => none
 | (k, sp) :: r, f => if k = f then some sp else gam r f
theorem gam_mem {l : List (FuncId × FSpec)} {f : FuncId} {sp : FSpec} (h : gam l f = some sp) : (f, sp) ∈ l := by
 induction l with
 | nil => cases h
 | cons p r ih =>
  obtain ⟨k, s⟩ := p
  simp only [gam] at h
  split at h
  ·rename_i e; subst e; cases h; exact List.mem_cons_self
  ·exact List.mem_cons_of_mem _ (ih h)
def fnB (P : Program) (f : FuncId) : Bool := match P.funcs[f]? with
 | some fn => decide (fn.name ≠ "runtime.NumGoroutine") && fn.body.isSome
 | none => false
structure Known (P : Program) (G : Nat → AV) (l : List (FuncId × FSpec)) : Prop where
 ok : ∀ p ∈ l, (FOK P G p.1 p.2 ∧ fnB P p.1 = true) ∨ NOK P G p.1 p.2
theorem Known.nil {P : Program} {G : Nat → AV} : Known P G [] := ⟨fun p hp => by cases hp⟩
theorem Known.cons {P : Program} {G : Nat → AV} {l : List (FuncId × FSpec)} {f : FuncId} {sp : FSpec} (h : FOK P G f sp) (hf : fnB P f = true) (hl : Known P G l) : Known P G ((f, sp) :: l) := by
 refine ⟨fun p hp => ?_⟩
 rcases List.mem_cons.1 hp with rfl | hp
 ·exact .inl ⟨h, hf⟩
 ·exact hl.ok p hp
theorem envOK_of {P : Program} {T : Tab} {G : Nat → AV} {l : List (FuncId × FSpec)} {el : TypeId → TypeId} (hT : TabOK P T) (hel : ∀ t ct, T t = some (.sl ct) → P.underlying t = some (.slice (el t))) {mp : TypeId → Option (TypeId × TypeId)} (hmp : ∀ t k e, mp t = some (k, e) → P.underlying t = some (.map k e)) (hl : Known P G l) : EnvOK P ⟨T, G, fun f _ => gam l f, el, mp⟩ :=
 ⟨hT, fun f _ sp h => by
  rcases hl.ok _ (gam_mem h) with ⟨h, this⟩ | h
  ·refine .inl ⟨h, ?_⟩
   unfold fnB at this
   split at this
   ·rename_i fn hf
    simp only [Bool.and_eq_true, decide_eq_true_eq] at this
    exact ⟨fn, hf, this⟩
   ·cases this
  ·exact .inr h, hel, hmp⟩
end Go.Vc
namespace Go.Vc
open Go.RowKit
def allocsOf : List Oper → Nat → List (Nat × TypeId × Nat)
 | [], _ => []
 | o :: r, i => match o.op, o.guard, o.dst with
  | .alloc t, none, some d => (i, t, d) :: allocsOf r (i + 1)
  | _, _, _ => allocsOf r (i + 1)
def boxOf (T : Tab) (t : TypeId) : Obj := match T t with
 | some ct => .box ct.cells (.val ct ct.zero)
 | none => .dead
def pushAll (T : Tab) : List (Nat × TypeId × Nat) → St → List Obj → St × List Obj
 | [], env, h => (env, h)
 | (_, t, d) :: r, env, h => pushAll T r ((d, .ptr h.length []) :: env) (h ++ [boxOf T t])
theorem allocsOf_mem : ∀ {l : List Oper} {i : Nat} {p : Nat × TypeId × Nat}, p ∈ allocsOf l i → ∃ o, l[p.1 - i]? = some o ∧ i ≤ p.1 ∧ o.op = .alloc p.2.1 ∧ o.guard = none ∧ o.dst = some p.2.2
 | [], i, p, hp => by cases hp
 | o :: r, i, p, hp => by
  have hrec : p ∈ allocsOf r (i + 1) → ∃ o', (o :: r)[p.1 - i]? = some o' ∧ i ≤ p.1 ∧ o'.op = .alloc p.2.1 ∧ o'.guard = none ∧ o'.dst = some p.2.2 := fun hp => by
   obtain ⟨o', h1, h2, h3⟩ := allocsOf_mem hp
   refine ⟨o', ?_, by omega, h3⟩
   rw [show p.1 - i = (p.1 - (i + 1)) + 1 from by omega, List.getElem?_cons_succ]
   exact h1
  simp only [allocsOf] at hp
  split at hp
  ·rename_i t d h1 h2 h3
   rcases List.mem_cons.1 hp with rfl | hp
   ·exact ⟨o, by simp, Nat.le_refl _, h1, h2, h3⟩
   ·exact hrec hp
  ·exact hrec hp
section
variable {P : Program} {E : Env} {M : Perm} {w0 : World} {nt : Nat} {ds : List Deferred} {h : List Obj} {env : St} {pre : List Oper}
structure Fresh (T : Tab) (al : List (Nat × TypeId × Nat)) (w : World) (listed : Nat → Prop) (c' : Ctx) (a : Act) (w' : World) (B : Nat → Nat) : Prop where
 size : w.heap.size ≤ w'.heap.size
 at_ : ∀ p ∈ al, listed p.1 → ∃ ct, T p.2.1 = some ct ∧ a.tmps.getD p.2.2 Go.undef = .pointer (some ⟨B p.1, 0, none⟩) ∧ w.heap.size ≤ B p.1 ∧ B p.1 < w'.heap.size ∧ ¬ c'.S (B p.1) ∧ w'.heap[B p.1]? = some (.cells (zval ct).cells p.2.1 (0, 0))
 inj : ∀ p ∈ al, ∀ q ∈ al, listed p.1 → listed q.1 → B p.1 = B q.1 → p.1 = q.1
theorem Fresh.step {T : Tab} {w : World} {listed : Nat → Prop} {c' c'' : Ctx} {a a'' : Act} {w' w'' : World} {B : Nat → Nat} (hf : Fresh T (allocsOf pre 0) w listed c' a w' B) {i : Nat} {o : Oper} (ho : pre[i]? = some o) (hok : okOper a.tmps.size o = true) (hu : uniqB pre = true) (hni : ¬ listed i) (hd : o.dst ≠ none) (hsf : ∀ b, c'.S b → b < w'.heap.size)
  (hs : StepX T o a c' w' c'' a'' w'') : ∃ B', Fresh T (allocsOf pre 0) w (fun k => listed k ∨ k = i) c'' a'' w'' B' := by
 obtain ⟨v, hv, hal⟩ := hs.put
 have hget : ∀ d, o.dst ≠ some d → a''.tmps.getD d Go.undef = a.tmps.getD d Go.undef := fun d hne => by
  rw [hv]
  cases hdd : o.dst with
  | none => rfl
  | some d0 =>
   have : d0 ≠ d := fun e => hne (by rw [hdd, e])
   simp [Act.put, Array.getElem?_setIfInBounds_ne this]
 refine ⟨fun k => if k = i then w'.heap.size else B k, Nat.le_trans hf.size hs.keeps.size, fun p hp hl => ?_, fun p hp q hq hlp hlq hB => ?_⟩
 ·obtain ⟨op, h1, _, h2, h3, h4⟩ := allocsOf_mem hp
  simp only [Nat.sub_zero] at h1
  by_cases e : p.1 = i
  ·rw [e] at h1
   rw [ho] at h1
   cases h1
   obtain ⟨ct, q1, q2, q3, q4⟩ := hal _ h2 h3
   simp only [e, if_true]
   refine ⟨ct, q1, ?_, hf.size, by rw [q3]; simp, fun hS => ?_, by rw [q3]; exact alloc_get w' _⟩
   ·simp only [okOper, Bool.and_eq_true, h4, decide_eq_true_eq] at hok
    rw [hv, h4, q2]
    simp [Act.put, hok.2]
   ·rw [q4] at hS
    have := hsf _ hS
    omega
  ·have hl : listed p.1 := hl.resolve_right e
   obtain ⟨ct, q1, q2, q3, q4, q5, q6⟩ := hf.at_ p hp hl
   simp only [e, if_false]
   refine ⟨ct, q1, ?_, q3, Nat.lt_of_lt_of_le q4 hs.keeps.size, fun hS => ?_, by rw [hs.keeps.block _ q4 (fun f => f)]; exact q6⟩
   ·rw [hget]
    ·exact q2
    ·intro hdd
     exact e (uniq_of hu ho h1 (by rw [h4, hdd]) hd)
   ·rcases hs.new _ hS with h | h
    ·exact q5 h
    ·omega
 ·by_cases ep : p.1 = i <;> by_cases eq : q.1 = i
  ·rw [ep, eq]
  ·simp only [ep, eq, if_true, if_false] at hB
   obtain ⟨ct, q1, q2, q3, q4, _⟩ := hf.at_ q hq (hlq.resolve_right eq)
   omega
  ·simp only [ep, eq, if_true, if_false] at hB
   obtain ⟨ct, q1, q2, q3, q4, _⟩ := hf.at_ p hp (hlp.resolve_right ep)
   omega
  ·simp only [ep, eq, if_false] at hB
   exact hf.inj p hp q hq (hlp.resolve_right ep) (hlq.resolve_right eq) hB
def dirE (o : Oper) (k : Nat) : Bool := o.after.toList.any fun e => Region.binds .any e && decide (e.on = k)
def closE : List Oper → List (List Nat) → List (List Nat)
 | [], acc => acc
 | o :: r, acc => closE r (acc ++ [(List.range acc.length).filter fun k => dirE o k || (List.range acc.length).any fun j => dirE o j && (acc.getD j []).contains k])
def tailB (n : Nat) (ops : List Oper) : Bool :=
 (ops.zipIdx.all fun p => p.1.after.toList.all fun e => !Region.binds .any e || decide (e.on < p.2)) &&
 ((closE ops []).zipIdx.all fun p => decide (p.2 < n) || (List.range p.2).all fun k => p.1.contains k)
theorem dirE_iff {o : Oper} {k : Nat} : dirE o k = true ↔ ∃ e ∈ o.after, Region.binds .any e = true ∧ e.on = k := by
 simp only [dirE, List.any_eq_true, Bool.and_eq_true, decide_eq_true_eq, Array.mem_toList_iff]
theorem closE_ok {ops : List Oper} : ∀ (r : List Oper) (acc : List (List Nat)), acc.length + r.length = ops.length → (∀ j, ops[acc.length + j]? = r[j]?) →
  (∀ (i : Nat) (S : List Nat), acc[i]? = some S → ∀ k ∈ S, ∀ L : Nat → Prop, (∀ j o, ops[j]? = some o → L j → ∀ e ∈ o.after, Region.binds .any e = true → L e.on) → (∀ o, ops[i]? = some o → ∀ e ∈ o.after, Region.binds .any e = true → L e.on) → L k) →
  (closE r acc).length = ops.length ∧ ∀ (i : Nat) (S : List Nat), (closE r acc)[i]? = some S → ∀ k ∈ S, ∀ L : Nat → Prop, (∀ j o, ops[j]? = some o → L j → ∀ e ∈ o.after, Region.binds .any e = true → L e.on) → (∀ o, ops[i]? = some o → ∀ e ∈ o.after, Region.binds .any e = true → L e.on) → L k
 | [], acc, hl, _, h => ⟨by simpa [closE] using hl, h⟩
 | o :: r, acc, hl, hr, h => by
  simp only [closE]
  have ho : ops[acc.length]? = some o := by have := hr 0; simpa using this
  refine closE_ok r _ (by simp at hl ⊢; omega) (fun j => by have := hr (j + 1); simp only [List.length_append, List.length_singleton, List.getElem?_cons_succ] at this ⊢; rw [← this]; congr 1; omega) fun i S hS k hk L hL hi => ?_
  rcases Nat.lt_trichotomy i acc.length with hlt | heq | hgt
  ·rw [List.getElem?_append_left hlt] at hS
   exact h i S hS k hk L hL hi
  ·subst heq
   simp only [List.getElem?_concat_length, Option.some.injEq] at hS
   subst hS
   simp only [List.mem_filter, List.mem_range, Bool.or_eq_true, List.any_eq_true, Bool.and_eq_true] at hk
   obtain ⟨_, hk⟩ := hk
   rcases hk with hk | ⟨j, hj, hd, hc⟩
   ·obtain ⟨e, he, hb, rfl⟩ := dirE_iff.1 hk
    exact hi o ho e he hb
   ·obtain ⟨e, he, hb, rfl⟩ := dirE_iff.1 hd
    have hLj := hi o ho e he hb
    have hj : e.on < acc.length := hj
    have hS' : acc[e.on]? = some (acc.getD e.on []) := by rw [List.getD_eq_getElem?_getD, List.getElem?_eq_getElem hj]; rfl
    exact h e.on _ hS' k (by simpa using hc) L hL (fun o' ho' e' he' hb' => hL e.on o' ho' hLj e' he' hb')
  ·rw [List.getElem?_eq_none (by simp; omega)] at hS; cases hS
theorem tail_of {n : Nat} {ops : List Oper} (h : tailB n ops = true) {i : Nat} {o : Oper} (ho : ops[i]? = some o) : (∀ e ∈ o.after, Region.binds .any e = true → e.on < i) ∧
  (n ≤ i → ∀ L : Nat → Prop, (∀ j o, ops[j]? = some o → L j → ∀ e ∈ o.after, Region.binds .any e = true → L e.on) → (∀ e ∈ o.after, Region.binds .any e = true → L e.on) → ∀ k, k < i → L k) := by
 simp only [tailB, Bool.and_eq_true] at h
 obtain ⟨h1, h2⟩ := h
 refine ⟨fun e he hb => ?_, fun hn L hL hi k hk => ?_⟩
 ·have := List.all_eq_true.1 h1 (o, i) (by rw [List.mem_zipIdx_iff_getElem?]; exact ho)
  have := List.all_eq_true.1 this e (Array.mem_toList_iff.2 he)
  simpa [hb] using this
 ·obtain ⟨q1, q2⟩ := closE_ok (ops := ops) ops [] (by simp) (fun j => by simp) (fun i S hS => by simp at hS)
  have hil : i < ops.length := tail_of.get_lt' ho
  have hS : (closE ops [])[i]? = some ((closE ops [])[i]'(by omega)) := List.getElem?_eq_getElem _
  have := List.all_eq_true.1 h2 (_, i) (by rw [List.mem_zipIdx_iff_getElem?]; exact hS)
  simp only [Bool.or_eq_true, decide_eq_true_eq] at this
  have := List.all_eq_true.1 (this.resolve_left (by omega)) k (List.mem_range.2 hk)
  exact q2 i _ hS k (by simpa using this) L hL (fun o' ho' => by rw [ho] at ho'; cases ho'; exact hi)
where
 get_lt' {ops : List Oper} {i : Nat} {o : Oper} (ho : ops[i]? = some o) : i < ops.length := by
  rcases Nat.lt_or_ge i ops.length with h | h
  ·exact h
  ·rw [List.getElem?_eq_none h] at ho; cases ho
theorem rep_false (n k : Nat) : (Array.replicate n false).getD k false = false := by
 by_cases h : k < n <;> simp [h]
end
end Go.Vc
namespace Go.Vc
open Go.RowKit
def updO : List Obj → List (Nat × Obj) → List Obj
 | h, [] => h
 | h, (i, o) :: r => updO (h.set i o) r
def updE (env : St) (keep : List Nat) (u : St) : St := u ++ keep.map fun t => (t, look env t)
theorem rep_set1 {α : Type} (a s : α) : (List.replicate 1 a).set 0 s = [s] := rfl
theorem rep_set2 {α : Type} (a s k : α) : ((List.replicate 2 a).set 0 s).set 1 k = [s, k] := rfl
theorem rep_set3 {α : Type} (a s k m : α) : (((List.replicate 3 a).set 0 s).set 1 k).set 2 m = [s, k, m] := rfl
def elB (P : Program) (l : List (TypeId × Ty)) (el : TypeId → TypeId) : Bool := l.all fun p => match p.2 with
 | .sl _ => match P.underlying p.1 with
  | some (.slice e) => decide (e = el p.1)
  | _ => false
 | _ => true
theorem elOK_of {P : Program} {l : List (TypeId × Ty)} {el : TypeId → TypeId} (h : elB P l el = true) : ∀ t ct, look2 l t = some (.sl ct) → P.underlying t = some (.slice (el t)) := fun t ct ht => by
 have := List.all_eq_true.1 h _ (look2_mem ht)
 simp only at this
 split at this
 ·rename_i e he; rw [he, of_decide_eq_true this]
 ·cases this
section
variable {F : Fr} {Q : Exit → Act → World → Prop} {env : St} {h : List Obj}
theorem tri_loopU {x : Code} {D : Type} (keep : List Nat) (I : D → Prop) (μ : D → Nat) (uE : D → St) (uO : D → List (Nat × Obj))
  (h0 : At F (fun a w => ∃ d c, I d ∧ Sim F.E F.M F.w0 F.nt F.ds c (updE env keep (uE d)) (updO h (uO d)) a w) env h)
  (round : ∀ d, I d → Tri F x (Exit.then (fun a' w' => ∃ d' c', (I d' ∧ μ d' < μ d) ∧ Sim F.E F.M F.w0 F.nt F.ds c' (updE env keep (uE d')) (updO h (uO d')) a' w') Q) (updE env keep (uE d)) (updO h (uO d))) : Tri F (.loop x) Q env h :=
 tri_loop I μ (fun d => updE env keep (uE d)) (fun d => updO h (uO d)) h0 round
theorem tri_scope {x : Code} (hx : Tri F x (Exit.noGoto Q) env h) : Tri F (.scope x) Q env h := fun hok c a w hs =>
 wp_scope_straight (hx (by simpa [okCode] using hok) c a w hs)
theorem at_scope_norm (hq : At F (Q .normal) env h) : At F (Exit.noGoto Q .normal) env h := hq
theorem at_scope_ret (hq : At F (Q .ret) env h) : At F (Exit.noGoto Q .ret) env h := hq
theorem at_scope_exit {id : Nat} (hq : At F (Q (.exit id)) env h) : At F (Exit.noGoto Q (.exit id)) env h := hq
end
end Go.Vc
namespace Go.Vc
open Go.RowKit
structure Pan where
 k : TypeId
 t : Ty
 x : t.den
inductive GOut where
 | ret (v : AV) (h : List Obj)
 | pan (p : Pan) (h : List Obj)
structure GSpec where
 D : Type
 av : D → List AV
 hp : D → List Obj
 m : Nat
 pre : D → Prop
 out : D → GOut
def GM (sp : GSpec) (c : Ctx) (d : sp.D) : Perm := ⟨fun b => ∃ i o, (sp.hp d)[i]? = some o ∧ ownBlock c i o = some b, c.S, sp.m, c.hd⟩
structure GIn (G : Nat → AV) (sp : GSpec) (c : Ctx) (w : World) (d : sp.D) (vs : List Value) : Prop where
 good : Good (GM sp c d) w c (sp.hp d) w
 glob : GlobR G c.S w
 len : vs.length = (sp.av d).length
 val : ∀ i (h1 : i < (sp.av d).length) (h2 : i < vs.length), ValR c w (sp.av d)[i] vs[i]
def panE (k : TypeId) (u : Value) : List PanicEntry := [{ v := .iface k u, recovered := false, goexit := false }]
def GEnd (sp : GSpec) (c : Ctx) (w : World) (d : sp.D) (e : Ending) (w' : World) : Prop :=
 ∃ c', match sp.out d with
  | .ret v h' => ∃ u, e = .returned u ∧ Good (GM sp c d) w c' h' w' ∧ ValR c' w' v u
  | .pan p h' => ∃ u, e = .panicked (panE p.k u) ∧ Good (GM sp c d) w c' h' w' ∧ RepV w' c'.S p.t p.x u
def GOK (P : Program) (G : Nat → AV) (f : FuncId) (sp : GSpec) : Prop :=
 ∀ (c : Ctx) (w : World) (d : sp.D) (vs : Array Value), sp.pre d → GIn G sp c w d vs.toList → Calls P f vs w (GEnd sp c w d)
def embL (μ : List Nat) : List Nat → Option (List Nat)
 | [] => some []
 | i :: r => match μ[i]?, embL μ r with
  | some j, some l => some (j :: l)
  | _, _ => none
def emb1 (μ : List Nat) : AV → AV
 | .own i => match μ[i]? with
  | some j => .own j
  | none => .junk
 | .ptr i p => match μ[i]? with
  | some j => .ptr j p
  | none => .junk
 | .sub i s off n => match μ[i]? with
  | some j => .sub j s off n
  | none => .junk
 | .mp i => match μ[i]? with
  | some j => .mp j
  | none => .junk
 | .fn f l1 l2 => match embL μ l1, embL μ l2 with
  | some l1, some l2 => .fn f l1 l2
  | _, _ => .junk
 | .agg _ => .junk
 | .flat _ => .junk
 | .tup _ => .junk
 | v => v
def emb0 (μ : List Nat) : AV → AV
 | .agg vs => .agg (vs.map (emb1 μ))
 | v => emb1 μ v
def emb (μ : List Nat) : AV → AV
 | .tup vs => .tup (vs.map (emb0 μ))
 | v => emb0 μ v
def embO (μ : List Nat) : Obj → Obj
 | .box n v => .box n (emb0 μ v)
 | o => o
def killAll : List Nat → List Obj → List Obj
 | [], h => h
 | i :: r, h => killAll r (h.set i .dead)
def putAll : List (Nat × Obj) → List Obj → List Obj
 | [], h => h
 | (i, o) :: r, h => putAll r (h.set i o)
def muOf (σ : List Nat) (m n k : Nat) : List Nat := σ.take m ++ List.range' n (k - m)
def embH (σ : List Nat) (m : Nat) (h h' : List Obj) : List Obj :=
 putAll ((σ.take m).zip ((h'.take m).map (embO (muOf σ m h.length h'.length)))) (killAll (σ.drop m) h) ++ (h'.drop m).map (embO (muOf σ m h.length h'.length))
section
variable {P : Program} {E : Env} {M : Perm} {w0 : World} {c c' : Ctx} {h : List Obj} {w w' : World}
structure Emb (μ : List Nat) (c' cN : Ctx) : Prop where
 S : ∀ b, c'.S b → cN.S b
 hd : ∀ i j, μ[i]? = some j → j < cN.n ∧ cN.hd j = c'.hd i
theorem embL_ok {μ : List Nat} {cN : Ctx} (he : Emb μ c' cN) : ∀ {l l' : List Nat}, embL μ l = some l' → (∀ j ∈ l', j < cN.n) ∧ l'.map cN.hd = l.map c'.hd
 | [], l', h => by simp [embL] at h; subst h; exact ⟨(fun j hj => by cases hj), rfl⟩
 | i :: r, l', h => by
  simp only [embL] at h
  split at h
  ·rename_i j l h1 h2
   cases h
   obtain ⟨q1, q2⟩ := he.hd i j h1
   obtain ⟨k1, k2⟩ := embL_ok he h2
   refine ⟨fun k hk => ?_, by simp [q2, k2]⟩
   rcases List.mem_cons.1 hk with rfl | hk
   ·exact q1
   ·exact k1 k hk
  ·cases h
theorem emb1_cells {μ : List Nat} {cN : Ctx} (he : Emb μ c' cN) : ∀ {v : AV} {cs : List Value}, CellsR c' w v cs → CellsR cN w (emb1 μ v) cs := by
 intro v cs hr
 have hS : c'.le ⟨cN.S, c'.hd, c'.n⟩ := ⟨he.S, Nat.le_refl _, fun _ _ => rfl⟩
 cases v <;> simp only [emb1] <;> (try trivial)
 case own i =>
  split
  ·rename_i j hp
   obtain ⟨q1, q2⟩ := he.hd i j hp
   simp only [CellsR] at hr ⊢
   rw [q2]
   exact ⟨q1, hr.2⟩
  ·trivial
 case ptr i p =>
  split
  ·rename_i j hp
   obtain ⟨q1, q2⟩ := he.hd i j hp
   simp only [CellsR] at hr ⊢
   rw [q2]
   exact ⟨q1, hr.2⟩
  ·trivial
 case sub i s off n =>
  split
  ·rename_i j hp
   obtain ⟨q1, q2⟩ := he.hd i j hp
   simp only [CellsR] at hr ⊢
   rw [q2]
   exact ⟨q1, hr.2⟩
  ·trivial
 case mp i =>
  split
  ·rename_i j hp
   obtain ⟨q1, q2⟩ := he.hd i j hp
   simp only [CellsR] at hr ⊢
   rw [q2]
   exact ⟨q1, hr.2⟩
  ·trivial
 case fn f l1 l2 =>
  split
  ·rename_i l1' l2' h1 h2
   obtain ⟨q1, q2⟩ := embL_ok he h1
   obtain ⟨k1, k2⟩ := embL_ok he h2
   simp only [CellsR] at hr ⊢
   rw [q2, k2]
   exact ⟨q1, k1, hr.2.2⟩
  ·trivial
 case val t x => exact RepC.keep he.S (.refl _ _) t x cs hr
 case full t xs =>
  simp only [CellsR] at hr ⊢
  obtain ⟨a, n, e, hs⟩ := hr
  exact ⟨a, n, e, hs.keep he.S (.refl _ _) (fun x cs => RepC.keep he.S (.refl _ _) t x cs)⟩
 case roa t x =>
  simp only [CellsR] at hr ⊢
  obtain ⟨b, off, ds, e, hb, hd, hc⟩ := hr
  exact ⟨b, off, ds, e, he.S b hb, RepC.keep he.S (.refl _ _) t x ds hd, hc⟩
 all_goals exact hr
theorem emb1_agg {μ : List Nat} {cN : Ctx} (he : Emb μ c' cN) : ∀ {vs : List AV} {cs : List Value}, AggR c' w vs cs → AggR cN w (vs.map (emb1 μ)) cs
 | [], _, hr => hr
 | v :: r, _, ⟨c1, c2, e, h1, h2⟩ => ⟨c1, c2, e, emb1_cells he h1, emb1_agg he h2⟩
theorem emb0_cells {μ : List Nat} {cN : Ctx} (he : Emb μ c' cN) {v : AV} {cs : List Value} (hr : CellsR c' w v cs) : CellsR cN w (emb0 μ v) cs := by
 cases v
 case agg vs => exact emb1_agg he hr
 all_goals exact emb1_cells he hr
end
end Go.Vc
namespace Go.Vc
open Go.RowKit
theorem putAll_length : ∀ (l : List (Nat × Obj)) (h : List Obj), (putAll l h).length = h.length
 | [], h => rfl
 | (i, o) :: r, h => by rw [putAll, putAll_length r]; simp
theorem killAll_length : ∀ (l : List Nat) (h : List Obj), (killAll l h).length = h.length
 | [], h => rfl
 | i :: r, h => by rw [killAll, killAll_length r]; simp
theorem putAll_get : ∀ (l : List (Nat × Obj)) (h : List Obj) (i : Nat), (∀ p ∈ l, p.1 ≠ i) → (putAll l h)[i]? = h[i]?
 | [], h, i, _ => rfl
 | (j, o) :: r, h, i, hn => by
  rw [putAll, putAll_get r _ i (fun p hp => hn p (by simp [hp])), List.getElem?_set_ne (hn (j, o) (by simp))]
theorem putAll_at : ∀ (l : List (Nat × Obj)) (h : List Obj), (l.map (·.1)).Nodup → (∀ p ∈ l, p.1 < h.length) → ∀ p ∈ l, (putAll l h)[p.1]? = some p.2
 | [], h, _, _, p, hp => by cases hp
 | (j, o) :: r, h, hd, hl, p, hp => by
  simp only [List.map_cons, List.nodup_cons] at hd
  rcases List.mem_cons.1 hp with rfl | hp
  ·have : j < h.length := hl (j, o) (by simp)
   rw [putAll, putAll_get r _ j (fun q hq e => hd.1 (List.mem_map.2 ⟨q, hq, e⟩))]
   simp [this]
  ·rw [putAll]
   exact putAll_at r _ hd.2 (fun q hq => by rw [List.length_set]; exact hl q (by simp [hq])) p hp
theorem killAll_get : ∀ (l : List Nat) (h : List Obj) (i : Nat), i ∉ l → (killAll l h)[i]? = h[i]?
 | [], h, i, _ => rfl
 | j :: r, h, i, hn => by
  simp only [List.mem_cons, not_or] at hn
  rw [killAll, killAll_get r _ i hn.2, List.getElem?_set_ne (fun e => hn.1 e.symm)]
theorem killAll_dead : ∀ (l : List Nat) (h : List Obj) (i : Nat) (o : Obj), i ∈ l → (killAll l h)[i]? = some o → o = .dead
 | [], h, i, o, hi, _ => by cases hi
 | j :: r, h, i, o, hi, ho => by
  rw [killAll] at ho
  by_cases hr : i ∈ r
  ·exact killAll_dead r _ i o hr ho
  ·rw [killAll_get r _ i hr] at ho
   have : i = j := by rcases List.mem_cons.1 hi with h | h; exact h; exact absurd h hr
   subst this
   by_cases hl : i < h.length
   ·simp [hl] at ho; exact ho.symm
   ·rw [List.getElem?_eq_none (by simp; omega)] at ho; cases ho
section
variable {P : Program} {E : Env} {M : Perm} {w0 : World} {c c' : Ctx} {h h' : List Obj} {w w' : World}
def cN (c c' : Ctx) (m n' : Nat) : Ctx := ⟨fun b => c.S b ∨ c'.S b, fun i => if i < c.n then c.hd i else c'.hd (m + (i - c.n)), c.n + (n' - m)⟩
theorem cN_le (c c' : Ctx) (m n' : Nat) : c.le (cN c c' m n') := ⟨fun b hb => .inl hb, Nat.le_add_right _ _, fun i hi => by simp [cN, hi]⟩
theorem Good.frame (hg : Good M w0 c h w) {σ : List Nat} {m : Nat} (hd : σ.Nodup) (hσ : ∀ i ∈ σ, i < h.length) (hm : m ≤ σ.length) {Ml : Perm} (hMr : Ml.rd = c.S) (hMw : ∀ b, Ml.wr b → ∃ i o, i ∈ σ ∧ h[i]? = some o ∧ ownBlock c i o = some b) (hMm : Ml.m = m) (hMd : ∀ j, j < m → Ml.roots j = c.hd (σ.getD j 0))
  (hg' : Good Ml w c' h' w') : Good M w0 (cN c c' m h'.length) (embH σ m h h') w' ∧ Later c w (cN c c' m h'.length) w' ∧ Emb (muOf σ m h.length h'.length) c' (cN c c' m h'.length) := by
 have hk := hg'.keeps
 have hroot := hg'.root
 rw [hMm] at hroot
 have hmn : m ≤ h'.length := by rw [← hg'.n]; exact hroot.1
 have hwrS : ∀ b, Ml.wr b → b < w.heap.size ∧ ¬ c.S b ∧ (w0.heap.size ≤ b ∨ M.wr b) := fun b hb => by
  obtain ⟨i, o, hi, ho, hob⟩ := hMw b hb
  obtain ⟨h1, h2, h3⟩ := hg.own i o b ho hob
  exact ⟨h2, h3, h1⟩
 have hlS : Same c.S w w' := fun b hb => hk.block b (hg.sfin b hb) (fun hw => (hwrS b hw).2.1 hb)
 have hl : Later c w (cN c c' m h'.length) w' := ⟨cN_le _ _ _ _, hlS⟩
 have hmu : ∀ j i, (muOf σ m h.length h'.length)[j]? = some i → (j < m ∧ i = σ.getD j 0 ∧ i < h.length ∧ i ∈ σ) ∨ (m ≤ j ∧ i = h.length + (j - m) ∧ j < h'.length) := fun j i hj => by
  unfold muOf at hj
  have hlt : (σ.take m).length = m := by rw [List.length_take]; omega
  by_cases hjm : j < m
  ·rw [List.getElem?_append_left (by rw [hlt]; exact hjm), List.getElem?_take, if_pos hjm] at hj
   have hmem := List.mem_of_getElem? hj
   exact .inl ⟨hjm, by simp [List.getD_eq_getElem?_getD, hj], hσ i hmem, hmem⟩
  ·rw [List.getElem?_append_right (by rw [hlt]; omega), hlt] at hj
   obtain ⟨hlt', e⟩ := List.getElem?_eq_some_iff.1 hj
   simp only [List.length_range'] at hlt'
   rw [List.getElem_range'] at e
   exact .inr ⟨by omega, by omega, by omega⟩
 have hhd : ∀ j i, (muOf σ m h.length h'.length)[j]? = some i → i < (cN c c' m h'.length).n ∧ (cN c c' m h'.length).hd i = c'.hd j := fun j i hj => by
  rcases hmu j i hj with ⟨h1, h2, h3, _⟩ | ⟨h1, h2, h3⟩
  ·refine ⟨by simp only [cN]; rw [hg.n]; omega, ?_⟩
   simp only [cN, hg.n, h3, if_true]
   rw [hroot.2 j h1, hMd j h1, h2]
  ·refine ⟨by simp only [cN]; rw [hg.n]; omega, ?_⟩
   simp only [cN, hg.n]
   rw [if_neg (by omega), h2]
   congr 1; omega
 have hemb : Emb (muOf σ m h.length h'.length) c' (cN c c' m h'.length) := ⟨fun b hb => .inr hb, hhd⟩
 have hcase : ∀ i o, (embH σ m h h')[i]? = some o → (i ∉ σ ∧ h[i]? = some o) ∨ o = .dead ∨ ∃ j oj, h'[j]? = some oj ∧ (muOf σ m h.length h'.length)[j]? = some i ∧ o = embO (muOf σ m h.length h'.length) oj := fun i o ho => by
  unfold embH at ho
  have hlen : (putAll ((σ.take m).zip ((h'.take m).map (embO (muOf σ m h.length h'.length)))) (killAll (σ.drop m) h)).length = h.length := by rw [putAll_length, killAll_length]
  have hmul : (muOf σ m h.length h'.length).length = h'.length := by
   unfold muOf; simp [List.length_take]; omega
  rcases Nat.lt_or_ge i h.length with hi | hi
  ·rw [List.getElem?_append_left (by rw [hlen]; exact hi)] at ho
   by_cases hin : ∃ j, j < m ∧ σ[j]? = some i
   ·obtain ⟨j, hj, hji⟩ := hin
    have hjh : j < h'.length := by omega
    have hmem : (i, embO (muOf σ m h.length h'.length) h'[j]) ∈ (σ.take m).zip ((h'.take m).map (embO (muOf σ m h.length h'.length))) := by
     refine List.mem_iff_getElem?.2 ⟨j, ?_⟩
     rw [List.getElem?_zip_eq_some]
     refine ⟨by rw [List.getElem?_take, if_pos hj]; exact hji, ?_⟩
     rw [List.getElem?_map, List.getElem?_take, if_pos hj, List.getElem?_eq_getElem hjh]; rfl
    have := putAll_at _ (killAll (σ.drop m) h) (by
     have : ((σ.take m).zip ((h'.take m).map (embO (muOf σ m h.length h'.length)))).map (·.1) = σ.take m := by
      rw [List.map_fst_zip]; simp [List.length_take]; omega
     rw [this]; exact hd.sublist (List.take_sublist _ _)) (fun p hp => by
     rw [killAll_length]
     have := (List.of_mem_zip hp).1
     exact hσ _ (List.mem_of_mem_take this)) _ hmem
    simp only at this
    rw [this] at ho
    cases ho
    refine .inr (.inr ⟨j, h'[j], List.getElem?_eq_getElem hjh, ?_, rfl⟩)
    unfold muOf
    rw [List.getElem?_append_left (by rw [List.length_take]; omega), List.getElem?_take, if_pos hj]; exact hji
   ·rw [putAll_get _ _ i (fun p hp e => by
     have := (List.of_mem_zip hp).1
     rw [e] at this
     obtain ⟨j, hj, hji⟩ := List.mem_take_iff_getElem.1 this
     exact hin ⟨j, by omega, by rw [List.getElem?_eq_getElem (by omega), hji]⟩)] at ho
    by_cases hdrop : i ∈ σ.drop m
    ·exact .inr (.inl (killAll_dead _ _ i o hdrop ho))
    ·rw [killAll_get _ _ i hdrop] at ho
     refine .inl ⟨fun hmem => ?_, ho⟩
     rw [← List.take_append_drop m σ] at hmem
     rcases List.mem_append.1 hmem with hmem | hmem
     ·obtain ⟨j, hj, hji⟩ := List.mem_take_iff_getElem.1 hmem
      exact hin ⟨j, by omega, by rw [List.getElem?_eq_getElem (by omega), hji]⟩
     ·exact hdrop hmem
  ·rw [List.getElem?_append_right (by rw [hlen]; exact hi), hlen, List.getElem?_map, List.getElem?_drop] at ho
   cases hoj : h'[m + (i - h.length)]? with
   | none => rw [hoj] at ho; simp at ho
   | some oj =>
    rw [hoj] at ho
    simp only [Option.map_some, Option.some.injEq] at ho
    have hjl := get_lt hoj
    refine .inr (.inr ⟨m + (i - h.length), oj, hoj, ?_, ho.symm⟩)
    unfold muOf
    rw [List.getElem?_append_right (by rw [List.length_take]; omega), List.length_take, Nat.min_eq_left hm, List.getElem?_range' (by omega)]
    congr 1; omega
 have hobj : ∀ j oj i, h'[j]? = some oj → (muOf σ m h.length h'.length)[j]? = some i → ObjR (cN c c' m h'.length) w' i (embO (muOf σ m h.length h'.length) oj) := fun j oj i hj hi => by
  have hr := hg'.objs j oj hj
  have hS : c'.le ⟨(cN c c' m h'.length).S, c'.hd, c'.n⟩ := ⟨hemb.S, Nat.le_refl _, fun _ _ => rfl⟩
  have e := (hhd j i hi).2
  cases oj with
  | dead => trivial
  | box n v =>
   obtain ⟨b, cells, et, q1, q2, q3, q4⟩ := hr
   exact ⟨b, cells, et, by rw [e]; exact q1, q2, q3, emb0_cells hemb q4⟩
  | row et t xs =>
   obtain ⟨vals, q1, q2⟩ := hr
   exact ⟨vals, by rw [e]; exact q1, RepC.keep hemb.S (.refl _ _) _ _ _ q2⟩
  | frz t xs =>
   show RepC _ _ _ _ _
   rw [e]
   exact RepC.keep hemb.S (.refl _ _) _ _ _ hr
  | map k v mm =>
   obtain ⟨b, es, clock, q1, q2, q3, q4⟩ := hr
   exact ⟨b, es, clock, by rw [e]; exact q1, q2, q3, fun x h1 h2 => ⟨(q4 x h1 h2).1.keep hemb.S (.refl _ _), (q4 x h1 h2).2.keep hemb.S (.refl _ _)⟩⟩
 have hown : ∀ j oj i b, h'[j]? = some oj → (muOf σ m h.length h'.length)[j]? = some i → ownBlock (cN c c' m h'.length) i (embO (muOf σ m h.length h'.length) oj) = some b → ownBlock c' j oj = some b := fun j oj i b hj hi hb => by
  have e := (hhd j i hi).2
  cases oj <;> simp only [ownBlock, embO, e] at hb ⊢ <;> exact hb
 have hfar : ∀ i o b j oj, i ∉ σ → h[i]? = some o → ownBlock c i o = some b → h'[j]? = some oj → ownBlock c' j oj ≠ some b := fun i o b j oj hi ho hb hj e => by
  have h1 := (hg.own i o b ho hb).2.1
  rcases (hg'.own j oj b hj e).1 with h2 | h2
  ·omega
  ·obtain ⟨i', o', hi', ho', hb'⟩ := hMw b h2
   exact hi (hg.sep i i' o o' b ho ho' hb hb' ▸ hi')
 have hfarS : ∀ i o b, i ∉ σ → h[i]? = some o → ownBlock c i o = some b → ¬ c'.S b := fun i o b hi ho hb hS => by
  have h1 := (hg.own i o b ho hb).2
  rcases hg'.src b hS h1.1 with h2 | h2
  ·rw [hMr] at h2; exact h1.2 h2
  ·obtain ⟨i', o', hi', ho', hb'⟩ := hMw b h2
   exact hi (hg.sep i i' o o' b ho ho' hb hb' ▸ hi')
 refine ⟨⟨?_, ⟨hk.os.trans hg.keeps.os, hk.tape.trans hg.keeps.tape, hk.output.trans hg.keeps.output, Nat.le_trans hg.keeps.size hk.size, fun b hb hM => ?_⟩, fun b hb => ?_, fun b hb hlt => ?_, fun i o ho => ?_, fun i o b ho hb => ?_, fun i k oi ok b hi hk' hbi hbk => ?_, root_le hg.root hl.le⟩, hl, hemb⟩
 ·unfold embH cN
  simp only [List.length_append, putAll_length, killAll_length, List.length_map, List.length_drop, hg.n]
 ·have hbw : b < w.heap.size := Nat.lt_of_lt_of_le hb hg.keeps.size
  rw [hk.block b hbw (fun hw => ?_)]
  ·exact hg.keeps.block b hb hM
  ·rcases (hwrS b hw).2.2 with h1 | h1
   ·omega
   ·exact hM h1
 ·rcases hb with hb | hb
  ·exact Nat.lt_of_lt_of_le (hg.sfin b hb) hk.size
  ·exact hg'.sfin b hb
 ·rcases hb with hb | hb
  ·exact hg.src b hb hlt
  ·rcases hg'.src b hb (Nat.lt_of_lt_of_le hlt hg.keeps.size) with h1 | h1
   ·rw [hMr] at h1; exact hg.src b h1 hlt
   ·rcases (hwrS b h1).2.2 with h2 | h2
    ·omega
    ·exact .inr h2
 ·rcases hcase i o ho with ⟨hi, ho⟩ | rfl | ⟨j, oj, hj, hij, rfl⟩
  ·exact (hg.objs i o ho).keep hl (by rw [hg.n]; exact get_lt ho) (fun b hb => hk.block b (hg.own i o b ho hb).2.1 (fun hw => by
    obtain ⟨i', o', hi', ho', hb'⟩ := hMw b hw
    exact hi (hg.sep i i' o o' b ho ho' hb hb' ▸ hi')))
  ·trivial
  ·exact hobj j oj i hj hij
 ·rcases hcase i o ho with ⟨hi, ho⟩ | rfl | ⟨j, oj, hj, hij, rfl⟩
  ·rw [ownBlock_le hl.le (by rw [hg.n]; exact get_lt ho)] at hb
   obtain ⟨h1, h2, h3⟩ := hg.own i o b ho hb
   refine ⟨h1, Nat.lt_of_lt_of_le h2 hk.size, fun hS => ?_⟩
   rcases hS with hS | hS
   ·exact h3 hS
   ·exact hfarS i o b hi ho hb hS
  ·cases hb
  ·have hb := hown j oj i b hj hij hb
   obtain ⟨h1, h2, h3⟩ := hg'.own j oj b hj hb
   refine ⟨?_, h2, fun hS => ?_⟩
   ·rcases h1 with h1 | h1
    ·exact .inl (Nat.le_trans hg.keeps.size h1)
    ·exact (hwrS b h1).2.2
   ·rcases hS with hS | hS
    ·rcases h1 with h1 | h1
     ·have := hg.sfin b hS; omega
     ·exact (hwrS b h1).2.1 hS
    ·exact h3 hS
 ·rcases hcase i oi hi with ⟨hi, ho⟩ | rfl | ⟨j, oj, hj, hij, rfl⟩
  ·rw [ownBlock_le hl.le (by rw [hg.n]; exact get_lt ho)] at hbi
   rcases hcase k ok hk' with ⟨hk2, ho2⟩ | rfl | ⟨j2, oj2, hj2, hij2, rfl⟩
   ·rw [ownBlock_le hl.le (by rw [hg.n]; exact get_lt ho2)] at hbk
    exact hg.sep i k oi ok b ho ho2 hbi hbk
   ·cases hbk
   ·exact absurd (hown j2 oj2 k b hj2 hij2 hbk) (hfar i oi b j2 oj2 hi ho hbi hj2)
  ·cases hbi
  ·have hbi := hown j oj i b hj hij hbi
   rcases hcase k ok hk' with ⟨hk2, ho2⟩ | rfl | ⟨j2, oj2, hj2, hij2, rfl⟩
   ·rw [ownBlock_le hl.le (by rw [hg.n]; exact get_lt ho2)] at hbk
    exact absurd hbi (hfar k ok b j oj hk2 ho2 hbk hj)
   ·cases hbk
   ·have hbk := hown j2 oj2 k b hj2 hij2 hbk
    have := hg'.sep j j2 oj oj2 b hj hj2 hbi hbk
    subst this
    rw [hij] at hij2
    cases hij2; rfl
end
end Go.Vc
namespace Go.Vc
open Go.RowKit
structure Hit where
 sp : GSpec
 σ : List Nat
 d : sp.D
def argFit (h : List Obj) (σ : List Nat) : List AV → List AV → Prop
 | [], [] => True
 | v :: r, .val t x :: r' => AV.as (h.map frzOnly) t v = some x ∧ argFit h σ r r'
 | v :: r, u :: r' => ren σ v = u ∧ argFit h σ r r'
 | _, _ => False
def ltAll (n : Nat) (σ : List Nat) : Bool := σ.all fun i => decide (i < n)
def noJunk : AV → Bool
 | .junk => false
 | _ => true
def embB (μ : List Nat) : AV → Bool
 | .tup vs => vs.all fun u => noJunk (emb0 μ u)
 | _ => true
def hitOK (h : List Obj) (vs : List AV) (t : Hit) : Prop :=
 nodupB t.σ = true ∧ ltAll h.length t.σ = true ∧ t.sp.m ≤ t.σ.length ∧ argFit h t.σ vs (t.sp.av t.d) ∧ t.σ.map (fun i => renO t.σ (h.getD i .dead)) = t.sp.hp t.d ∧ t.sp.pre t.d
def outG (o : GOut) (k : AV → List Obj → Prop) (kp : Pan → List Obj → Prop) : Prop :=
 match o with
 | .ret v h => k v h
 | .pan p h => kp p h
theorem outG_ret (v : AV) (h : List Obj) (k : AV → List Obj → Prop) (kp : Pan → List Obj → Prop) : outG (.ret v h) k kp = k v h := rfl
theorem outG_pan (p : Pan) (h : List Obj) (k : AV → List Obj → Prop) (kp : Pan → List Obj → Prop) : outG (.pan p h) k kp = kp p h := rfl
theorem outG_ite (c : Prop) [Decidable c] (a b : GOut) (k : AV → List Obj → Prop) (kp : Pan → List Obj → Prop) : outG (if c then a else b) k kp = ((c → outG a k kp) ∧ (¬ c → outG b k kp)) := by
 by_cases h : c <;> simp [h]
def calleeOf (G : Nat → AV) (env : St) (h : List Obj) (o : Oper) : Option (FuncId × List AV) :=
 match o.op with
 | .call c => match c.callee with
  | .value x => match evA G env x with
   | .fn f [] l2 => if allBox h l2 = true then some (f, c.args.toList.map (evA G env) ++ l2.map fun i => .ptr i []) else none
   | .val (.clo g t) y => if capsB t = true then some (g, c.args.toList.map (evA G env) ++ tupAV t y) else none
   | _ => none
  | _ => none
 | _ => none
def hitOf (Δ : FuncId → List AV → List Obj → Option Hit) (h : List Obj) : Option (FuncId × List AV) → Option Hit
 | some (f, vs) => Δ f vs h
 | none => none
def argsOf : Option (FuncId × List AV) → List AV
 | some (_, vs) => vs
 | none => []
def panOf (G : Nat → AV) (env : St) (o : Oper) : Option Pan :=
 match o.op with
 | .call c => match c.callee with
  | .builtin .panic => match c.args.toList with
   | [x] => match evA G env x with
    | .val (.ifc k t) d => some ⟨k, t, d⟩
    | _ => none
   | _ => none
  | _ => none
 | .panic x => match evA G env x with
  | .val (.ifc k t) d => some ⟨k, t, d⟩
  | _ => none
 | _ => none
def viewAV (T : Tab) (h : List Obj) (t : TypeId) (x : AV) (lo hi : Option AV) : Prop × AV :=
 match x with
 | .own i => match h[i]? with
  | some (.row _ c xs) => match (lo.map ixAV).getD (some 0), (hi.map ixAV).getD (some (xs.length : Int)) with
   | some l, some u => (T t = some (.sl c) ∧ 0 ≤ l ∧ l < u ∧ u ≤ (xs.length : Int), .sub i c.cells l.toNat (u - l).toNat)
   | _, _ => (False, .junk)
  | _ => (False, .junk)
 | .ptr i [] => match h[i]? with
  | some (.box _ (.val (.arr n c) _)) => match (lo.map ixAV).getD (some 0), (hi.map ixAV).getD (some (n : Int)) with
   | some l, some u => (T t = some (.arr n c) ∧ 0 ≤ l ∧ l < u ∧ u ≤ (n : Int), .sub i c.cells l.toNat (u - l).toNat)
   | _, _ => (False, .junk)
  | _ => (False, .junk)
 | _ => (False, .junk)
noncomputable def stepV (E : Env) (sb : List Nat) (env : St) (h : List Obj) (o : Oper) : Prop × AV × List Obj :=
 match o.op, o.dst with
 | .slice t x lo hi none, some d => bif sb.contains d then ((viewAV E.T h t (evA E.G env x) (lo.map (evA E.G env)) (hi.map (evA E.G env))).1, (viewAV E.T h t (evA E.G env x) (lo.map (evA E.G env)) (hi.map (evA E.G env))).2, h) else stepB E env h o
 | _, _ => stepB E env h o
def stepP (E : Env) (Δ : FuncId → List AV → List Obj → Option Hit) (sb : List Nat) (env : St) (h : List Obj) (o : Oper) (k : AV → List Obj → Prop) (kp : Pan → List Obj → Prop) : Prop :=
 match hitOf Δ h (calleeOf E.G env h o) with
 | some t => hitOK h (argsOf (calleeOf E.G env h o)) t ∧ outG (t.sp.out t.d) (fun v h' => embB (muOf t.σ t.sp.m h.length h'.length) v = true ∧ k (emb (muOf t.σ t.sp.m h.length h'.length) v) (embH t.σ t.sp.m h h')) (fun p h' => kp p (embH t.σ t.sp.m h h'))
 | none => match panOf E.G env o with
  | some p => kp p h
  | none => match stepV E sb env h o with
   | (p, v, h') => p ∧ k v h'
def seqP (E : Env) (Δ : FuncId → List AV → List Obj → Option Hit) (sb : List Nat) (all : List Oper) : List Oper → St → List Obj → (St → List Obj → Prop) → (Pan → St → List Obj → Prop) → Prop
 | [], env, h, K, _ => K env h
 | o :: r, env, h, K, Kp => match o.guard with
  | none => stepP E Δ sb env h o (fun v h' => seqP E Δ sb all r (putE o.dst v env) h' K Kp) (fun p h' => Kp p env h')
  | some (j, pol) => match dstAt all j with
   | some dj => match look env dj with
    | .val .bool b => (b = pol → stepP E Δ sb env h o (fun v h' => seqP E Δ sb all r (putE o.dst v env) h' K Kp) (fun p h' => Kp p env h')) ∧ (b = !pol → seqP E Δ sb all r (putE o.dst .undef env) h K Kp)
    | .undef => seqP E Δ sb all r (putE o.dst .undef env) h K Kp
    | _ => False
   | none => False
end Go.Vc
namespace Go.Vc
open Go.RowKit
section
variable {P : Program} {E : Env} {M : Perm} {w0 : World} {c : Ctx} {h : List Obj} {w : World}
theorem Sim.step {nt : Nat} {ds : List Deferred} {env : St} {a : Act} (hs : Sim E M w0 nt ds c env h a w) {h' : List Obj} {c' : Ctx} {w' : World} (hl : Later c w c' w') (hg : Good M w0 c' h' w') : Sim E M w0 nt ds c' env h' a w' :=
 ⟨hg, hs.glob.mono hl.le.S hl.same, hs.env.keep hl, hs.size, hs.defers⟩
def argE : List AV → Nat → St
 | [], _ => []
 | v :: r, k => (k, v) :: argE r (k + 1)
def AV.wfV : AV → Prop
 | .val t x => t.wf x
 | .full t xs => (Ty.sl t).wf xs
 | _ => True
def AV.wfL : List AV → Prop
 | [] => True
 | v :: r => v.wfV ∧ AV.wfL r
def Obj.wfV : Obj → Prop
 | .box _ (.agg vs) => AV.wfL vs
 | .box _ v => v.wfV
 | .row _ t xs => (Ty.arr xs.length t).wf xs ∧ xs.length ≤ maxLen
 | .frz t xs => (Ty.sl t).wf xs
 | _ => True
def Obj.wfL : List Obj → Prop
 | [] => True
 | o :: r => o.wfV ∧ Obj.wfL r
def resE (T : Tab) (h : List Obj) (env : St) : List ResultVar → Prop × List AV
 | [] => (True, [])
 | .tmp t :: r => ((resE T h env r).1, look env t :: (resE T h env r).2)
 | .cell a t :: r => ((loadAV T h t (look env a)).1 ∧ (resE T h env r).1, (loadAV T h t (look env a)).2 :: (resE T h env r).2)
theorem mapM_res (hT : TabOK P E.T) (hg : Good M w0 c h w) {env : St} {tmps : Array Value} (he : EnvR c w env tmps) {g : ResultVar → Sem Value} (hg1 : ∀ t, g (.tmp t) = pure (tmps.getD t Go.undef)) (hg2 : ∀ a t, g (.cell a t) = (do loadVar t (← asAddr (tmps.getD a Go.undef)))) : ∀ (l : List ResultVar), (resE E.T h env l).1 →
  ∃ us : List Value, (l.mapM g).run P w = .ok us w ∧ us.length = (resE E.T h env l).2.length ∧ ∀ i (h1 : i < (resE E.T h env l).2.length) (h2 : i < us.length), ValR c w (resE E.T h env l).2[i] us[i]
 | [], _ => ⟨[], by simp, rfl, fun i h1 => by simp [resE] at h1⟩
 | .tmp t :: r, hc => by
  simp only [resE] at hc ⊢
  obtain ⟨us, q1, q2, q3⟩ := mapM_res hT hg he hg1 hg2 r hc
  refine ⟨tmps.getD t Go.undef :: us, by simp only [List.mapM_cons, Sem.run_bind, hg1, Sem.run_pure, Result.andThen_ok, q1], by simp [q2], fun i h1 h2 => ?_⟩
  cases i with
  | zero => exact he t
  | succ i => exact q3 i (by simpa using h1) (by simpa using h2)
 | .cell a t :: r, hc => by
  simp only [resE] at hc ⊢
  obtain ⟨us, q1, q2, q3⟩ := mapM_res hT hg he hg1 hg2 r hc.2
  obtain ⟨u, hu, hr⟩ := load_ok (P := P) hT hg (he a) hc.1
  have hrun : (g (.cell a t)).run P w = .ok u w := by
   rw [hg2]
   have hv := he a
   generalize tmps.getD a Go.undef = v at hu hv
   simp only [Instr.loadAt, Sem.run_bind] at hu
   simp only [Sem.run_bind]
   have : ∃ ad, v = .pointer (some ad) := by
    cases v with
    | pointer p =>
     cases p with
     | some ad => exact ⟨ad, rfl⟩
     | none => simp [Instr.sureAddr, Result.andThen] at hu
    | _ => simp [Instr.sureAddr, Result.andThen] at hu
   obtain ⟨ad, rfl⟩ := this
   simpa [Instr.sureAddr, asAddr] using hu
  refine ⟨u :: us, by simp only [List.mapM_cons, Sem.run_bind, hrun, Sem.run_pure, Result.andThen_ok, q1], by simp [q2], fun i h1 h2 => ?_⟩
  cases i with
  | zero => exact hr
  | succ i => exact q3 i (by simpa using h1) (by simpa using h2)
theorem results_ok (hT : TabOK P E.T) (hg : Good M w0 c h w) {env : St} {tmps : Array Value} (he : EnvR c w env tmps) {fn : Func} {l : List ResultVar} (hr : fn.results = l.toArray) (hc : (resE E.T h env l).1) :
  ∃ us : List Value, (results fn tmps).run P w = .ok (packV us) w ∧ us.length = (resE E.T h env l).2.length ∧ ∀ i (h1 : i < (resE E.T h env l).2.length) (h2 : i < us.length), ValR c w (resE E.T h env l).2[i] us[i] := by
 unfold results
 rw [hr]
 simp only [Sem.run_bind]
 rw [List.mapM_toArray, Sem.run_map]
 generalize hm : (List.mapM _ l : Sem (List Value)) = mm
 have key : ∀ (g : ResultVar → Sem Value), (∀ t, g (.tmp t) = pure (tmps.getD t Go.undef)) → (∀ a t, g (.cell a t) = (do loadVar t (← asAddr (tmps.getD a Go.undef)))) → List.mapM g l = mm →
   ∃ us : List Value, mm.run P w = .ok us w ∧ us.length = (resE E.T h env l).2.length ∧ ∀ i (h1 : i < (resE E.T h env l).2.length) (h2 : i < us.length), ValR c w (resE E.T h env l).2[i] us[i] := fun g hg1 hg2 e => by
  subst e; exact mapM_res (P := P) hT hg he hg1 hg2 l hc
 obtain ⟨us, q1, q2, q3⟩ := key _ (fun t => rfl) (fun a t => rfl) hm
 refine ⟨us, ?_, q2, q3⟩
 rw [q1]
 simp only [Result.andThen_ok, Sem.run_pure]
 congr 1
 match us with
 | [] => rfl
 | [v] => rfl
 | a :: b :: r =>
  rw [dif_neg (by simp)]
  rfl
def fitT (h : List Obj) : List AV → List AV → Prop
 | [], [] => True
 | v :: r, u :: r' => (fitV h v u ∧ noJunk u = true) ∧ fitT h r r'
 | _, _ => False
def retV (h : List Obj) : AV → List AV → Prop
 | .tup vs, us => us.length ≠ 1 ∧ fitT h us vs
 | v, [u] => fitV h u v
 | _, _ => False
def flatB : AV → Bool
 | .tup _ => false
 | .undef => false
 | _ => true
end
end Go.Vc
namespace Go.Vc
attribute [go_sem] Int.toNat_natCast vcA opA pv lookA pickA evA entAt entOf gpOf gpHolds guardOK
attribute [go_sem] prefB isBoolAV boolAV constAV constAV1 normT outK outV Go.Vc.look loadAV binAV binI
attribute [go_sem] binU shU shI modK binB binS unAV convAV ixAV faddrAV faddrAV.fldT fieldAV
attribute [go_sem] iaddrAV indexAV lenAV sliceAV extractAV nilCheckAV makeFuncAV callOpAV callAV buildAV buildSliceAV mmAV
attribute [go_sem] mm2 getP fieldOf Go.Vc.elemOf elemC List.all_cons List.all_nil Int.le_refl Nat.le_refl AV.solid AV.solid1 AV.nc
attribute [go_sem] AV.nc1 AV.isAgg Ty.isAgg Ty.cells Ty.zero fits64 List.map List.append List.length Option.map decide_true decide_false
attribute [go_sem] Bool.and_true Bool.true_and true_and and_true implies_true forall_const if_true if_false IntKind.signed Ty.den Nat.succ_ne_self ne_eq
attribute [go_sem] not_false_eq_true not_true_eq_false List.getElem?_nil look2 List.nil_append List.cons_append beq_self_eq_true Bool.and_self cond_true cond_false Bool.cond_true_left Bool.cond_false_right
attribute [go_sem] seqB stepB effAV effCall frzFor freezeAll freeze thaw thaw1 storeAV appendAV appendZ
attribute [go_sem] isI64 nilAV convB Ty.isNil makeAV callOwn isOwn pickB putE dstAt setP setFld
attribute [go_sem] setElem explode pathB Ty.strB castL_self bound argsAV as_val as_nilS as_full as_own rowOf_eq
attribute [go_sem] frzAll Ty.scalar frzOnly resAV RK.ty AV.tags AV.tags1 List.flatMap_cons List.flatMap_nil List.getElem?_cons_zero List.getElem?_cons_succ List.set_cons_zero
attribute [go_sem] List.set_cons_succ List.length_cons List.length_nil Nat.zero_add tupAV List.getD_cons_zero List.getD_cons_succ dite_true Ty.okB Ty.byt IntKind.bits capsB
attribute [go_sem] allBox as_fn as_ptr as_roa as_agg as_unit tagOf allTags roaAll gt_iff_lt ge_iff_le List.length_replicate
attribute [go_sem] List.replicate_zero List.length_set rep_set1 rep_set2 rep_set3 maxLen_eq updO updE lookupAV mapT makeMapAV buildNone
attribute [go_sem] putAV Ty.keyB Ty.key1 Option.some.injEq exists_eq_left' List.append_nil decide_eq_true_eq decide_eq_false_iff_not Bool.or_eq_true Bool.or_eq_false_iff Bool.and_eq_true Int.not_lt
attribute [go_sem] Int.not_le Bool.not_eq_true' Bool.not_eq_false' allocsOf boxOf envOut pushAll List.take_succ_cons List.take_zero List.drop_succ_cons List.drop_zero zeroAV
attribute [go_sem] zerosF setF setE partsOK Ty.flds packAV fldV Ty.fieldOff listAV parse parse0 as_flat
attribute [go_sem] as_flat0 Option.getD_some Option.getD_none Bool.not_true Bool.not_false Bool.false_eq_true Bool.true_eq_false false_implies and_false false_and or_true true_or
attribute [go_sem] or_false false_or Bool.or_true Bool.or_false Bool.true_or Bool.false_or Bool.and_false Bool.false_and Option.isSome_some Option.isSome_none Int.reduceToNat Int.reduceLE
attribute [go_sem] Int.reduceLT Nat.reduceEqDiff Nat.reduceAdd Nat.reduceMul Nat.reduceLT Nat.reduceSub Nat.reduceLeDiff Nat.reduceDiv Nat.reduceMod Nat.reducePow Nat.reduceGT Int.reduceEq
attribute [go_sem] Int.reduceNe Int.reduceAdd Int.reduceSub Int.reduceNeg Int.reduceMul reduceIte reduceCtorEq
end Go.Vc
namespace Go.Vc
open Go.RowKit
def Ty.argB : Ty → Bool
 | .bool => true
 | .u _ => true
 | .i _ => true
 | .str => true
 | .sl t => t.argB
 | .unit => true
 | .pair a b => a.argB && b.argB
 | .arr _ t => t.argB
 | .expr => true
 | _ => false
section
variable {P : Program} {T : Tab} {H : Type} {enc : TypeId × Value → H} {w : World} {spare : Nat → Bool} {held : Bool}
theorem cellsOf_eq {t : TypeId} {c : Ty} (h : TyOK P T t c) : P.cellsOf t = c.cells := by
 obtain ⟨i, hi, hs, _⟩ := h.info
 simp [Program.cellsOf, hi, hs]
def Inside (w : World) : Nat → Prop := fun b => b < w.heap.size
theorem cells_get {a : Addr} {n : Nat} {ds : List Value} (h : w.cells? 0 a n = some ds) : ds.length = n ∧ ∀ j, j < n → w.cell? (a.add j) = ds[j]? := by
 unfold World.cells? at h
 rw [if_pos (Nat.zero_le _)] at h
 have hl := mapM_some_length h
 have hg := mapM_some_get h
 simp only [List.length_range] at hl
 exact ⟨hl, fun j hj => hg j j (by simp [hj])⟩
theorem cell_lt {b off : Nat} {v : Value} (h : w.cell? ⟨b, off, none⟩ = some v) : b < w.heap.size := by
 rcases Nat.lt_or_ge b w.heap.size with hl | hl
 ·exact hl
 ·simp [World.cell?, Array.getElem?_eq_none hl] at h
theorem add_at (a : Addr) (i j : Nat) (h : a.spot = none) : (a.add i).add j = ⟨a.block, a.off + i + j, none⟩ := by
 obtain ⟨b, o, s⟩ := a
 simp only at h
 subst h
 unfold Addr.add
 by_cases hi : i = 0 <;> by_cases hj : j = 0 <;> simp [hi, hj] <;> omega
theorem elems_of {sz : Nat} (hsz : 0 < sz) {α : Type} {R : α → List Value → Prop} {a : Addr} {len : Nat} (hel : ∀ i, i < len → ∃ ds x, w.cells? 0 (a.add (i * sz)) sz = some ds ∧ R x ds) :
  ∃ xs : List α, xs.length = len ∧ (xs = [] ∨ ∃ b off, some a = some ⟨b, off, none⟩ ∧ Inside w b ∧ ∀ i (h : i < xs.length), ∃ ds, R xs[i] ds ∧ cellsAt w b (off + i * sz) ds) := by
 classical
 by_cases h0 : len = 0
 ·exact ⟨[], by simp [h0], .inl rfl⟩
 have hpos : 0 < len := by omega
 obtain ⟨ds0, x0, e0, _⟩ := hel 0 hpos
 have hsp : a.spot = none := by
  obtain ⟨hl, hg⟩ := cells_get e0
  have := hg 0 hsz
  have hd : (ds0)[0]? = some (ds0[0]'(by omega)) := List.getElem?_eq_getElem (by omega)
  rw [hd] at this
  have := World.cell?_spot this
  simpa [Addr.add] using this
 have hf : ∃ f : Nat → α, ∀ i, i < len → ∃ ds, w.cells? 0 (a.add (i * sz)) sz = some ds ∧ R (f i) ds := by
  refine ⟨fun i => if h : i < len then Classical.choose (Classical.choose_spec (hel i h)) else x0, fun i hi => ?_⟩
  simp only [dif_pos hi]
  exact ⟨Classical.choose (hel i hi), Classical.choose_spec (Classical.choose_spec (hel i hi))⟩
 obtain ⟨f, hf⟩ := hf
 have hcell : ∀ i, i < len → ∀ ds, w.cells? 0 (a.add (i * sz)) sz = some ds → cellsAt w a.block (a.off + i * sz) ds := fun i hi ds hds j v hj => by
  obtain ⟨hl, hg⟩ := cells_get hds
  have hjl : j < sz := by
   rcases Nat.lt_or_ge j sz with h | h
   ·exact h
   ·rw [List.getElem?_eq_none (by omega)] at hj; cases hj
  have := hg j hjl
  rw [add_at a _ j hsp, hj] at this
  exact this
 refine ⟨(List.range len).map f, by simp, .inr ⟨a.block, a.off, ?_, ?_, fun i hi => ?_⟩⟩
 ·obtain ⟨b, o, s⟩ := a; simp only at hsp; subst hsp; rfl
 ·obtain ⟨ds, hds, _⟩ := hf 0 hpos
  have := hcell 0 hpos ds hds 0 (ds[0]'(by rw [(cells_get hds).1]; exact hsz)) (List.getElem?_eq_getElem _)
  exact cell_lt this
 ·simp only [List.length_map, List.length_range] at hi
  obtain ⟨ds, hds, hR⟩ := hf i hi
  exact ⟨ds, by simpa using hR, hcell i hi ds hds⟩
theorem rep_fields {n : Nat} (ih : ∀ (t : TypeId) (c : Ty) (cs : List Value) (x : DataW H × List MemPlace), T t = some c → c.argB = true → DataW.trod enc P w 0 spare held n t cs = some x → ∃ y, RepC w (Inside w) c y cs) (hT : TabOK P T) (cs : List Value) :
  ∀ (fs : List Field) (off : Nat) (c : Ty), fieldsB T fs off c = true → c.argB = true → (cs.drop off).length = c.cells → (∀ f ∈ fs, ∃ x, DataW.trod enc P w 0 spare held n f.type ((cs.drop f.offset).take (P.cellsOf f.type)) = some x) → ∃ y, RepC w (Inside w) c y (cs.drop off)
 | [], off, c, hf, ha, hl, _ => by
  cases c <;> simp [fieldsB] at hf
  exact ⟨(), List.eq_nil_of_length_eq_zero hl⟩
 | f :: fs, off, c, hf, ha, hl, hx => by
  cases c <;> simp only [fieldsB, Bool.false_eq_true] at hf
  case pair a b =>
   simp only [Bool.and_eq_true, decide_eq_true_eq] at hf
   obtain ⟨⟨⟨⟨h1, h2⟩, h3⟩, h4⟩, h5⟩ := hf
   simp only [Ty.argB, Bool.and_eq_true] at ha
   obtain ⟨x, hx0⟩ := hx f (by simp)
   rw [cellsOf_eq (hT _ _ h1), h2] at hx0
   obtain ⟨y1, r1⟩ := ih _ _ _ _ h1 ha.1 hx0
   simp only [Ty.cells] at hl
   obtain ⟨y2, r2⟩ := rep_fields ih hT cs fs (off + a.cells) b h5 ha.2 (by simp only [List.length_drop] at hl ⊢; omega) (fun g hg => hx g (by simp [hg]))
   refine ⟨(y1, y2), (cs.drop off).take a.cells, cs.drop (off + a.cells), ?_, r1, r2⟩
   rw [← List.drop_drop, List.take_append_drop]
theorem rep_of_trod (hT : TabOK P T) : ∀ (n : Nat) (t : TypeId) (c : Ty) (cs : List Value) (x : DataW H × List MemPlace), T t = some c → c.argB = true → DataW.trod enc P w 0 spare held n t cs = some x → ∃ y, RepC w (Inside w) c y cs := by
 intro n
 induction n with
 | zero => intro t c cs x _ _ h; simp [DataW.trod] at h
 | succ n ih =>
  intro t c cs x ht ha h
  obtain ⟨d, hd, hb⟩ := (hT _ _ ht).desc
  cases c with
  | bool =>
   cases d <;> simp [descB] at hb
   obtain ⟨b, e, _⟩ := DataW.trod_bool hd h
   exact ⟨b, e⟩
  | u k =>
   cases d <;> simp [descB] at hb
   rename_i k'
   obtain ⟨rfl, hb⟩ := hb
   obtain ⟨m, e, _, hw⟩ := DataW.trod_int hd h
   simp only [Lit.wf, Bool.and_eq_true, decide_eq_true_eq] at hw
   have hmin : IntKind.min k = 0 := by cases k <;> first | rfl | (simp [IntKind.signed] at hb; done)
   have hm : ((m.toNat : Nat) : Int) = m := Int.toNat_of_nonneg (by omega)
   exact ⟨m.toNat, by rw [hm]; exact e, hb, by rw [hm]; exact hw.2⟩
  | i k =>
   cases d <;> simp [descB] at hb
   rename_i k'
   obtain ⟨rfl, hb⟩ := hb
   obtain ⟨m, e, _, hw⟩ := DataW.trod_int hd h
   simp only [Lit.wf, Bool.and_eq_true, decide_eq_true_eq] at hw
   exact ⟨m, e, hb, hw.1, hw.2⟩
  | str =>
   cases d <;> simp [descB] at hb
   obtain ⟨s, e, _, hs⟩ := DataW.trod_string hd h
   exact ⟨strL s, s, e, rfl, hs⟩
  | sl t1 =>
   cases d <;> simp [descB] at hb
   obtain ⟨hb1, hb2⟩ := hb
   rcases DataW.trod_slice hd h with ⟨rfl, _⟩ | ⟨a, len, cap, elems, rest, m, hm, rfl, _, _, hl, hc, hlen, hel, _⟩
   ·exact ⟨[], none, 0, 0, rfl, rfl, Nat.le_refl _, Nat.zero_le _, .inl rfl⟩
   ·cases hm
    rw [cellsOf_eq (hT _ _ hb1)] at hel
    obtain ⟨xs, h1, h2⟩ := elems_of (w := w) hb2 (R := RepC w (Inside w) t1) (a := a) (len := len) (fun i hi => by
     have := hel i hi
     rw [List.getElem?_eq_getElem (by omega)] at this
     obtain ⟨ds, hds, hx⟩ := Option.bind_eq_some_iff.1 this
     obtain ⟨y, hy⟩ := ih _ _ _ _ hb1 ha hx
     exact ⟨ds, y, hds, hy⟩)
    exact ⟨xs, some a, len, cap, rfl, h1, hl, hc, h2⟩
  | unit =>
   cases d <;> simp [descB] at hb
   rename_i fs
   obtain ⟨xs, m, _, _, hlen, _⟩ := DataW.trod_struct hd h
   rw [cellsOf_eq (hT _ _ ht)] at hlen
   exact ⟨(), List.eq_nil_of_length_eq_zero hlen⟩
  | pair a b =>
   cases d <;> simp [descB] at hb
   rename_i fs
   obtain ⟨xs, m, hm, _, hlen, hxl, hf⟩ := DataW.trod_struct hd h
   cases hm
   rw [cellsOf_eq (hT _ _ ht)] at hlen
   have := rep_fields ih hT cs fs.toList 0 (.pair a b) hb ha (by simpa using hlen) (fun f hf' => by
    obtain ⟨i, hi, rfl⟩ := List.mem_iff_getElem.1 hf'
    have hi' : i < fs.size := by simpa using hi
    have := hf i fs[i] (Array.getElem?_eq_getElem hi')
    rw [List.getElem?_eq_getElem (by omega)] at this
    exact ⟨_, by simpa using this⟩)
   simpa using this
  | arr m t1 =>
   cases d <;> simp [descB] at hb
   obtain ⟨⟨⟨rfl, hb1⟩, hb2⟩, _⟩ := hb
   obtain ⟨xs, q, hq, _, hlen, hxl, hf⟩ := DataW.trod_array hd h
   cases hq
   rw [cellsOf_eq (hT _ _ ht)] at hlen
   rw [cellsOf_eq (hT _ _ hb1)] at hf
   have hall : ∀ i, i < m → ∃ y, RepC w (Inside w) t1 y ((cs.drop (i * t1.cells)).take t1.cells) := fun i hi => by
    have := hf i hi
    rw [List.getElem?_eq_getElem (by omega)] at this
    exact ih _ _ _ _ hb1 ha this
   classical
   have hfun : ∃ f : Nat → t1.den, ∀ i, i < m → RepC w (Inside w) t1 (f i) ((cs.drop (i * t1.cells)).take t1.cells) := by
    refine ⟨fun i => if h : i < m then Classical.choose (hall i h) else t1.zero, fun i hi => ?_⟩
    simp only [dif_pos hi]
    exact Classical.choose_spec (hall i hi)
   obtain ⟨f, hfun⟩ := hfun
   refine ⟨(List.range m).map f, by simp, (List.range m).map fun i => (cs.drop (i * t1.cells)).take t1.cells, ?_, by simp, fun i h1 h2 => ?_⟩
   ·have : ∀ (k : Nat) (l : List Value), l.length = k * t1.cells → l = ((List.range k).map fun i => (l.drop (i * t1.cells)).take t1.cells).flatten := by
     intro k
     induction k with
     | zero => intro l hl; simp at hl; simp [hl]
     | succ k ihk =>
      intro l hl
      rw [List.range_succ, List.map_append, List.flatten_append]
      have h1 := ihk (l.take (k * t1.cells)) (by simp [hl, Nat.add_mul])
      have h2 : ((List.range k).map fun i => ((l.take (k * t1.cells)).drop (i * t1.cells)).take t1.cells) = ((List.range k).map fun i => (l.drop (i * t1.cells)).take t1.cells) := by
       apply List.map_congr_left
       intro i hi
       have hik : i < k := List.mem_range.1 hi
       rw [List.drop_take, List.take_take]
       congr 1
       have : (i + 1) * t1.cells ≤ k * t1.cells := Nat.mul_le_mul_right _ hik
       rw [Nat.add_mul] at this
       omega
      rw [h2] at h1
      rw [← h1]
      simp only [List.map_cons, List.map_nil, List.flatten_cons, List.flatten_nil, List.append_nil]
      rw [List.take_of_length_le (l := l.drop (k * t1.cells)) (by simp [hl, Nat.add_mul]), List.take_append_drop]
    exact this m cs hlen
   ·simp only [List.length_map, List.length_range] at h1
    simpa using hfun i h1
  | expr =>
   cases d <;> simp [descB] at hb
   rename_i fs
   obtain ⟨xs, m, hm, _, hlen, hxl, hf⟩ := DataW.trod_struct hd h
   cases hm
   rw [cellsOf_eq (hT _ _ ht)] at hlen
   have hfs : ∃ f0 f1 f2, fs.toList = [f0, f1, f2] ∧ (T f0.type = some (.i .i64) ∧ f0.offset = 0 ∧ T f1.type = some .str ∧ f1.offset = 1 ∧ T f2.type = some (.sl .expr) ∧ f2.offset = 2) := by
    unfold exprB at hb
    split at hb
    ·rename_i f0 f1 f2 hfs
     simp only [Bool.and_eq_true, decide_eq_true_eq] at hb
     exact ⟨f0, f1, f2, hfs, hb.1.1.1.1.1, hb.1.1.1.1.2, hb.1.1.1.2, hb.1.1.2, hb.1.2, hb.2⟩
    ·cases hb
   obtain ⟨f0, f1, f2, hfs, t0, o0, t1, o1, t2, o2⟩ := hfs
   have hget : ∀ (i : Nat) (f : Field), fs.toList[i]? = some f → ∃ x, DataW.trod enc P w 0 spare held n f.type ((cs.drop f.offset).take (P.cellsOf f.type)) = some x := fun i f hi => by
    have hi' : fs[i]? = some f := by simpa using hi
    have := hf i f hi'
    have hil : i < fs.size := by
     rcases Nat.lt_or_ge i fs.size with h | h
     ·exact h
     ·rw [Array.getElem?_eq_none h] at hi'; cases hi'
    rw [List.getElem?_eq_getElem (by omega)] at this
    exact ⟨_, this⟩
   obtain ⟨x0, h0⟩ := hget 0 f0 (by rw [hfs]; rfl)
   obtain ⟨x1, h1⟩ := hget 1 f1 (by rw [hfs]; rfl)
   obtain ⟨x2, h2⟩ := hget 2 f2 (by rw [hfs]; rfl)
   rw [cellsOf_eq (hT _ _ t0), o0] at h0
   rw [cellsOf_eq (hT _ _ t1), o1] at h1
   rw [cellsOf_eq (hT _ _ t2), o2] at h2
   obtain ⟨y0, r0⟩ := ih _ _ _ _ t0 rfl h0
   obtain ⟨y1, r1⟩ := ih _ _ _ _ t1 rfl h1
   obtain ⟨y2, r2⟩ := ih _ _ _ _ t2 rfl h2
   match cs, hlen with
   | [c0, c1, c2], _ =>
    simp only [Ty.cells, List.drop_zero, List.drop_succ_cons, List.take_succ_cons, List.take_zero] at r0 r1 r2
    obtain ⟨e0, _, b1, b2⟩ := r0
    obtain ⟨s, e1, rfl, hs⟩ := r1
    obtain ⟨a, len, cap, e2, hl1, hl2, hl3, hl4⟩ := r2
    simp only [List.cons.injEq, and_true] at e0 e1 e2
    subst e0; subst e1; subst e2
    classical
    refine ⟨.mk y0 (strL s) y2, ?_⟩
    rcases hl4 with rfl | ⟨b, off, ha, hb, hel⟩
    ·exact RepEx.mk y0 s [] a len cap (fun _ => []) ⟨b1, b2⟩ hs hl1 hl2 hl3 (fun i h => by simp at h) (.inl rfl)
    ·refine RepEx.mk y0 s y2 a len cap (fun i => if h : i < List.length y2 then Classical.choose (hel i h) else []) ⟨b1, b2⟩ hs hl1 hl2 hl3 (fun i h => ?_) (.inr ⟨b, off, ha, hb, fun i h => ?_⟩)
     ·simp only [dif_pos h]; exact (Classical.choose_spec (hel i h)).1
     ·simp only [dif_pos h]; exact (Classical.choose_spec (hel i h)).2
  | rp t1 => simp [Ty.argB] at ha
  | clo g t1 => simp [Ty.argB] at ha
  | ifc k t1 => simp [Ty.argB] at ha
  | nili => simp [Ty.argB] at ha
theorem repV_of (hT : TabOK P T) {t : TypeId} {c : Ty} {r : Reach} {base : Nat} {v : Value} {d : DataW H} {ps : List MemPlace} (ht : T t = some c) (ha : c.argB = true) (hw : Value.okWide P w r base t v) (h : DataW.Trod enc P w 0 spare held t v d ps) : ∃ y, RepV w (Inside w) c y v := by
 obtain ⟨n, hn⟩ := h
 obtain ⟨y, hy⟩ := rep_of_trod hT n t c _ _ ht ha hn
 refine ⟨y, RepV.of_cells (fun hag => ?_) (fun hna => ?_) hy⟩
 ·obtain ⟨d, hd, hb⟩ := (hT _ _ ht).desc
  unfold Value.okWide at hw
  rw [hd] at hw
  cases c <;> simp [Ty.isAgg] at hag
  all_goals (cases d <;> first | (simp [descB] at hb; done) | skip)
  all_goals (obtain ⟨cs, rfl, _⟩ := hw; exact ⟨cs, rfl⟩)
 ·intro cs e
  subst e
  obtain ⟨d, hd, hb⟩ := (hT _ _ ht).desc
  unfold Value.okWide at hw
  rw [hd] at hw
  cases c <;> simp [Ty.isAgg] at hna
  all_goals (cases d <;> first | (simp [descB] at hb; done) | skip)
  all_goals (simp [Cell.okWide, Cell.ok, hd] at hw)
def tysB (T : Tab) : Ty → List TypeId → Bool
 | .unit, [] => true
 | .pair a r, t :: ts => decide (T t = some a) && a.argB && tysB T r ts
 | _, _ => false
theorem args_of (hT : TabOK P T) {r : Reach} {base : Nat} : ∀ (c : Ty) (ts : List TypeId) (vs : List Value) (ds : List (DataW H)) (ps : List MemPlace), tysB T c ts = true → DataW.TrodAll enc P w 0 spare held ts vs ds ps → (∀ (j : Nat) t v, ts[j]? = some t → vs[j]? = some v → Value.okWide P w r base t v) → ∃ x, ArgsR w (Inside w) c x vs
 | .unit, [], vs, ds, ps, _, h, _ => by
  cases vs <;> cases ds <;> simp [DataW.TrodAll] at h
  exact ⟨(), rfl⟩
 | .pair a c, t :: ts, vs, ds, ps, hb, h, hw => by
  simp only [tysB, Bool.and_eq_true, decide_eq_true_eq] at hb
  cases vs <;> cases ds <;> simp only [DataW.TrodAll] at h
  rename_i v vs d ds
  obtain ⟨p, q, h1, h2, _⟩ := h
  obtain ⟨y, hy⟩ := repV_of hT hb.1.1 hb.1.2 (hw 0 t v rfl rfl) h1
  obtain ⟨x, hx⟩ := args_of hT c ts vs ds q hb.2 h2 (fun j t' v' e1 e2 => hw (j + 1) t' v' (by simpa using e1) (by simpa using e2))
  exact ⟨(y, x), v, vs, rfl, hy, hx⟩
end
end Go.Vc
namespace Go.Vc
attribute [go_sem] stepV viewAV List.contains_cons List.contains_nil seqP stepP hitOf argsOf calleeOf panOf outG_ret outG_pan
attribute [go_sem] outG_ite hitOK argFit ltAll nodupB embB noJunk emb emb0 emb1 embL embO
attribute [go_sem] embH muOf killAll putAll ren ren1 renO posOf posAll resE fitT fitV
attribute [go_sem] retV flatB argE AV.wfL AV.wfV Obj.wfL Obj.wfV List.all_cons List.all_nil List.range'_zero List.range'_succ List.zip_cons_cons
attribute [go_sem] List.zip_nil_left List.zip_nil_right List.drop_nil List.take_nil List.map_cons List.map_nil ifcAV assertAV
end Go.Vc
namespace Go.Vc
open Go.RowKit
section
variable {P : Program} {E : Env} {M : Perm} {w0 : World} {c : Ctx} {h : List Obj} {w : World}
theorem res_ok {S : Nat → Prop} (hwr : M.wr = nothing) (hrd : M.rd = S) (hg : Good M w0 c h w) {r : RK} {y : r.ty.den} {avs : List AV} {xs : List Value} (hl : xs.length = avs.length) (hv : ∀ i (h1 : i < avs.length) (h2 : i < xs.length), ValR c w avs[i] xs[i]) (hy : retOK h r y avs) : ResR w S w0.heap.size r y (packV xs) := by
 have hsrc : ∀ {c' : Ctx} {h' : List Obj}, Good M w0 c' h' w → ∀ b, c'.S b → S b ∨ (w0.heap.size ≤ b ∧ b < w.heap.size) := fun hg b hb => by
  rcases Nat.lt_or_ge b w0.heap.size with hlt | hge
  ·have := hg.src b hb hlt
   rw [hwr, hrd] at this
   exact .inl (this.resolve_right (fun f => f))
  ·exact .inr ⟨hge, hg.sfin b hb⟩
 obtain ⟨c', hll, hg'⟩ := hg.frzAll
 have hval : ∀ i (h1 : i < avs.length) (h2 : i < xs.length), ValR c' w avs[i] xs[i] := fun i h1 h2 => hll.val (hv i h1 h2)
 cases r with
 | none =>
  match avs, xs, hl, hy with
  | [], [], _, _ => rfl
 | one t =>
  match avs, xs, hl, hy, hval with
  | [v], [x], _, hy, hval =>
   have hy : AV.as (h.map Vc.frzAll) t v = some y := hy
   rw [← map_frz] at hy
   have := as_frz_ok hg' (hval 0 (by simp) (by simp)) hy
   exact RepV.keep (hsrc hg') (.refl _ _) this
 | own e t =>
  match avs, xs, hl, hy, hv with
  | [.own i], [x], _, hy, hv =>
   have hvs := hv 0 (by simp) (by simp)
   simp only [List.getElem_cons_zero] at hvs
   have ho : h[i]? = some (.row e t y) := hy
   obtain ⟨hin, rfl⟩ := own_val hvs
   obtain ⟨vals, hown, hrep⟩ := hg.objs i _ ho
   refine ⟨vals, ⟨hown.1, hown.2.imp id ?_⟩, RepC.keep (fun b hb => ?_) (.refl _ _) _ _ _ hrep⟩
   ·rintro ⟨g, cap, cur, h1, h2, h3⟩
    refine ⟨g, cap, cur, h1, ?_, h3⟩
    have := (hg.own i _ g ho (by simp [ownBlock, h1, blockOf])).1
    rw [hwr] at this
    exact this.resolve_right (fun f => f)
   ·rcases hsrc hg b hb with h1 | h1
    ·exact .inl h1
    ·exact .inr ⟨h1.1, h1.2, fun e' => (hg.own i _ b ho e').2.2 hb⟩
  | [.nilS], [x], _, hy, hv =>
   have hvs := hv 0 (by simp) (by simp)
   simp only [List.getElem_cons_zero] at hvs
   have hy : y = [] := hy
   subst hy
   have hsv : x = .slice none 0 0 := by
    obtain ⟨h1, _, h3⟩ := hvs
    have h3 := h3 rfl
    simp only [CellsR] at h1
    cases x <;> simp [Value.cells] at h1 h3 <;> simp [h1]
   subst hsv
   exact ⟨[], ⟨by simp, .inl ⟨rfl, rfl⟩⟩, ⟨rfl, [], rfl, rfl, fun i h => by simp at h⟩⟩
 | tup t =>
  have hy : avs.length ≠ 1 ∧ argsAV (h.map Vc.frzAll) t avs = some y := hy
  obtain ⟨hne, hy⟩ := hy
  rw [← map_frz] at hy
  have hargs := args_frz_ok hg' hy (xs := xs) hl hval
  refine ⟨xs, ?_, args_keep (hsrc hg') hargs⟩
  match xs, hl ▸ hne with
  | [], _ => rfl
  | [s], hne => exact absurd rfl hne
  | s :: s' :: l, _ => rfl
end
end Go.Vc
namespace Go.Vc
open Go.RowKit
def ck {α : Type} (p : Prop) [Decidable p] (k : Option α) : Option α := if p then k else none
theorem ck_some {α : Type} {p : Prop} [Decidable p] {k : Option α} {r : α} (h : ck p k = some r) : p ∧ k = some r := by
 unfold ck at h
 split at h
 ·rename_i hp; exact ⟨hp, h⟩
 ·cases h
theorem ck_pos {α : Type} {p : Prop} [Decidable p] {k : Option α} (hp : p) : ck p k = k := if_pos hp
theorem ite_T {α : Type} {p : Prop} [Decidable p] {x y : α} {r : α} (hp : p) (h : (if p then x else y) = r) : x = r := by rwa [if_pos hp] at h
theorem ite_F {α : Type} {p : Prop} [Decidable p] {x y : α} {r : α} (hp : ¬ p) (h : (if p then x else y) = r) : y = r := by rwa [if_neg hp] at h
abbrev I64 (x : Int) : Prop := -9223372036854775808 ≤ x ∧ x ≤ 9223372036854775807
abbrev I32 (x : Int) : Prop := -2147483648 ≤ x ∧ x ≤ 2147483647
section
variable {D E R : Type} {step : D → Option (D ⊕ E)}
def iter (step : D → Option (D ⊕ E)) : Nat → D → Option E
 | 0, _ => none
 | n + 1, d => match step d with
  | none => none
  | some (.inl d') => iter step n d'
  | some (.inr e) => some e
theorem iter_succ : ∀ {n : Nat} {d : D} {e : E}, iter step n d = some e → iter step (n + 1) d = some e
 | 0, d, e, h => by cases h
 | n + 1, d, e, h => by
  unfold iter at h ⊢
  cases hs : step d with
  | none => rw [hs] at h; cases h
  | some s =>
   rw [hs] at h
   cases s with
   | inl d' => exact iter_succ (n := n) h
   | inr e' => exact h
theorem iter_le {n m : Nat} (hm : n ≤ m) {d : D} {e : E} (h : iter step n d = some e) : iter step m d = some e := by
 induction hm with
 | refl => exact h
 | step _ ih => exact iter_succ ih
theorem iter_uniq {n m : Nat} {d : D} {e e' : E} (h : iter step n d = some e) (h' : iter step m d = some e') : e = e' := by
 have h1 := iter_le (Nat.le_max_left n m) h
 have h2 := iter_le (Nat.le_max_right n m) h'
 rw [h1] at h2; exact Option.some.inj h2
open Classical in
noncomputable def loopO (step : D → Option (D ⊕ E)) (d : D) : Option E := if h : ∃ e, ∃ n, iter step n d = some e then some (Classical.choose h) else none
theorem loopO_iff {d : D} {e : E} : loopO step d = some e ↔ ∃ n, iter step n d = some e := by
 unfold loopO
 constructor
 ·intro h
  split at h
  ·rename_i hx
   have := Classical.choose_spec hx
   rw [Option.some.inj h] at this; exact this
  ·cases h
 ·rintro ⟨n, h⟩
  have hx : ∃ e, ∃ n, iter step n d = some e := ⟨e, n, h⟩
  rw [dif_pos hx]
  obtain ⟨m, hm⟩ := Classical.choose_spec hx
  rw [iter_uniq hm h]
theorem loopO_iter {n : Nat} {d : D} {e : E} (h : iter step n d = some e) : loopO step d = some e := loopO_iff.2 ⟨n, h⟩
theorem least_of {p : Nat → Prop} (h : ∃ n, p n) : ∃ n, p n ∧ ∀ m, p m → n ≤ m := by
 classical
 obtain ⟨n, hn⟩ := h
 induction n using Nat.strongRecOn with
 | _ n ih =>
  by_cases hh : ∃ m, m < n ∧ p m
  ·obtain ⟨m, hm, hp⟩ := hh; exact ih m hm hp
  ·exact ⟨n, hn, fun m hm => Nat.le_of_not_lt fun hlt => hh ⟨m, hlt, hm⟩⟩
open Classical in
noncomputable def rank (step : D → Option (D ⊕ E)) (d : D) : Nat := if h : ∃ n, (iter step n d).isSome = true then Classical.choose (least_of h) else 0
theorem rank_is {d : D} {e : E} (h : loopO step d = some e) : iter step (rank step d) d = some e ∧ ∀ m e', iter step m d = some e' → rank step d ≤ m := by
 obtain ⟨n, hn⟩ := loopO_iff.1 h
 have hx : ∃ n, (iter step n d).isSome = true := ⟨n, by rw [hn]; rfl⟩
 have hs := Classical.choose_spec (least_of hx)
 have e1 : rank step d = Classical.choose (least_of hx) := by unfold rank; rw [dif_pos hx]
 rw [← e1] at hs
 refine ⟨?_, fun m e' hm => hs.2 m (by rw [hm]; rfl)⟩
 cases hi : iter step (rank step d) d with
 | none => have := hs.1; rw [hi] at this; cases this
 | some e' => rw [iter_uniq hi hn]
def stepQ (A : D → Prop) (B : E → Prop) : D ⊕ E → Prop
 | .inl d => A d
 | .inr e => B e
theorem loop_round {k : E → Option R} {r : R} {d : D} (hd : (loopO step d).bind k = some r) : ∃ s, step d = some s ∧ stepQ (fun d' => (loopO step d').bind k = some r ∧ rank step d' < rank step d) (fun e => k e = some r) s := by
 cases hl : loopO step d with
 | none => rw [hl] at hd; cases hd
 | some e =>
  rw [hl] at hd
  have hk : k e = some r := hd
  obtain ⟨hi, hmin⟩ := rank_is hl
  cases hn : rank step d with
  | zero => rw [hn] at hi; cases hi
  | succ n =>
   rw [hn, iter] at hi
   split at hi
   ·cases hi
   ·rename_i d' hs
    refine ⟨_, hs, ?_⟩
    have hl' := loopO_iter hi
    refine ⟨by rw [hl']; exact hk, ?_⟩
    have := (rank_is hl').2 n e hi
    show rank step d' < n + 1
    omega
   ·rename_i e' hs
    refine ⟨_, hs, ?_⟩
    rw [Option.some.inj hi]; exact hk
theorem loopO_of {I : D → Prop} (μ : D → Nat) (f : D → E) (h : ∀ d, I d → (∃ d', step d = some (.inl d') ∧ I d' ∧ μ d' < μ d ∧ f d' = f d) ∨ step d = some (.inr (f d))) : ∀ d, I d → loopO step d = some (f d) := by
 have main : ∀ n d, μ d ≤ n → I d → ∃ m, iter step m d = some (f d) := by
  intro n
  induction n with
  | zero =>
   intro d hn hi
   rcases h d hi with ⟨d', _, _, hlt, _⟩ | hs
   ·omega
   ·exact ⟨1, by rw [iter, hs]⟩
  | succ n ih =>
   intro d hn hi
   rcases h d hi with ⟨d', hs, hi', hlt, hf⟩ | hs
   ·obtain ⟨m, hm⟩ := ih d' (by omega) hi'
    exact ⟨m + 1, by rw [iter, hs]; simp only; rw [hm, hf]⟩
   ·exact ⟨1, by rw [iter, hs]⟩
 intro d hi
 obtain ⟨m, hm⟩ := main (μ d) d (Nat.le_refl _) hi
 exact loopO_iter hm
end
def objsOf (h : List Obj) : List (Nat ⊕ Obj) → List Obj
 | [] => []
 | .inl i :: r => h.getD i .dead :: objsOf h r
 | .inr o :: r => o :: objsOf h r
section
variable {F : Fr} {Q : Exit → Act → World → Prop} {env : St} {h : List Obj}
theorem tri_joinM {x y : Code} {D : Type} (J : D → Prop) (keep : List Nat) (uE : D → St) (uO : D → List (Nat ⊕ Obj))
  (hx : Tri F x (Exit.then (fun a' w' => ∃ d' c', J d' ∧ Sim F.E F.M F.w0 F.nt F.ds c' (updE env keep (uE d')) (objsOf h (uO d')) a' w') Q) env h)
  (hy : ∀ d, J d → Tri F y Q (updE env keep (uE d)) (objsOf h (uO d))) : Tri F (.seq x y) Q env h :=
 tri_join J (fun d => updE env keep (uE d)) (fun d => objsOf h (uO d)) hx hy
theorem tri_loopM {x : Code} {D E R : Type} {step : D → Option (D ⊕ E)} {k : E → Option R} {r : R} {d0 : D} (keep : List Nat) (uE : D → St) (uO : D → List (Nat ⊕ Obj))
  (hd : (loopO step d0).bind k = some r) (hh : h = objsOf h (uO d0)) (hf : fitE h env (updE env keep (uE d0)))
  (round : ∀ d s, step d = some s → stepQ (fun d' => (loopO step d').bind k = some r ∧ rank step d' < rank step d) (fun e => k e = some r) s → Tri F x (Exit.then (fun a' w' => ∃ d' c', ((loopO step d').bind k = some r ∧ rank step d' < rank step d) ∧ Sim F.E F.M F.w0 F.nt F.ds c' (updE env keep (uE d')) (objsOf h (uO d')) a' w') Q) (updE env keep (uE d)) (objsOf h (uO d))) : Tri F (.loop x) Q env h :=
 tri_loop (fun d => (loopO step d).bind k = some r) (rank step) (fun d => updE env keep (uE d)) (fun d => objsOf h (uO d)) (at_fit d0 hd hh hf) fun d hi => by
  obtain ⟨s, h1, h2⟩ := loop_round hi
  exact round d s h1 h2
end
theorem at_retC {F : Fr} {fn : Func} {S : Nat → Prop} {r : RK} {y : r.ty.den} {env : St} {h : List Obj} (hF : FrOK F) (l : List ResultVar) (hM : F.M = top S) (hds : F.ds = []) (hr : fn.results = l.toArray) (hy : (resE F.E.T h env l).1 ∧ retOK h r y (resE F.E.T h env l).2) : At F (post F.P fn S F.w0 r y .ret) env h := fun c a w hs => by
 obtain ⟨us, q1, q2, q3⟩ := results_ok (P := F.P) hF.env.T hs.good hs.env hr hy.1
 refine ⟨hs.defers.trans hds, packV us, q1, packV us, rfl, by have := hs.good.keeps; rw [hM] at this; exact this, ?_⟩
 exact res_ok (by rw [hM]) (by rw [hM]) hs.good q2 (fun i h1 h2 => q3 i h1 h2) hy.2
def thawB (i : Nat) (t : Ty) (x : t.den) : AV → AV
 | .ptr j [] => if j = i then .roa t x else .ptr j []
 | .ptr j p => if j = i then .junk else .ptr j p
 | .agg _ => .junk
 | .tup _ => .junk
 | .fn f l1 l2 => if l1.contains i || l2.contains i then .junk else .fn f l1 l2
 | v => v
def mSpec (a : Ty) (r : RK) (m : a.den → Option r.ty.den) : FSpec := ⟨a, r, fun x => (m x).isSome = true, fun x => (m x).getD r.ty.zero⟩
section
variable {P : Program} {E : Env}
theorem fok_model {f : FuncId} {fn : Func} {body : Code} {a : Ty} {r : RK} {m : a.den → Option r.ty.den} (hE : EnvOK P E) (hf : P.funcs[f]? = some fn) (hb : fn.body = some body) (hok : okCode fn.ntmps body = true) (hn : nargs a ≤ fn.ntmps)
  (ht : ∀ (w0 : World) (S : Nat → Prop) (x : a.den) (y : r.ty.den), a.wf x → m x = some y → Tri (fr P E S w0 fn.ntmps) body (post P fn S w0 r y) (args0 a x 0) []) : FOK P E.G f (mSpec a r m) :=
 fok_of hE hf hb hok hn fun w0 S x hw hp => by
  have hp : (m x).isSome = true := hp
  obtain ⟨y, hy⟩ := Option.isSome_iff_exists.1 hp
  have e : (mSpec a r m).fn x = y := by show (m x).getD r.ty.zero = y; rw [hy]; rfl
  rw [e]
  exact ht w0 S x y hw hy
theorem fok_clean {G : Nat → AV} {f : FuncId} {a : Ty} {r : RK} {m : a.den → Option r.ty.den} {pre : a.den → Prop} {fn : a.den → r.ty.den} (h : FOK P G f (mSpec a r m)) (hc : ∀ x, a.wf x → pre x → m x = some (fn x)) : FOK P G f ⟨a, r, pre, fn⟩ := fun w S vs x hS hG ha hp => by
 have hm := hc x (args_wf _ _ _ ha) hp
 have := h w S vs x hS hG ha (by show (m x).isSome = true; rw [hm]; rfl)
 have e : (mSpec a r m).fn x = fn x := by show (m x).getD r.ty.zero = fn x; rw [hm]; rfl
 rw [e] at this
 exact this
end
attribute [go_sem] objsOf thawB
end Go.Vc
namespace Go.Vc
open Go.RowKit
def hitL : List (FuncId × Hit) → FuncId → List AV → List Obj → Option Hit
 | [], _, _, _ => none
 | (k, t) :: r, f, vs, h => if k = f then some t else hitL r f vs h
structure KnownG (P : Program) (G : Nat → AV) (l : List (FuncId × Hit)) : Prop where
 ok : ∀ p ∈ l, GOK P G p.1 p.2.sp ∧ fnB P p.1 = true
theorem KnownG.nil {P : Program} {G : Nat → AV} : KnownG P G [] := ⟨fun p hp => by cases hp⟩
theorem KnownG.cons {P : Program} {G : Nat → AV} {l : List (FuncId × Hit)} {f : FuncId} {t : Hit} (h : GOK P G f t.sp) (hf : fnB P f = true) (hl : KnownG P G l) : KnownG P G ((f, t) :: l) := by
 refine ⟨fun p hp => ?_⟩
 rcases List.mem_cons.1 hp with rfl | hp
 ·exact ⟨h, hf⟩
 ·exact hl.ok p hp
theorem bind_some {α β : Type} {x : Option α} {k : α → Option β} {r : β} (h : x.bind k = some r) : ∃ e, x = some e ∧ k e = some r := by
 cases x with
 | none => cases h
 | some e => exact ⟨e, rfl, h⟩
def rpV : AV → AV
 | .val (.rp t) x => .roa t x
 | v => v
section
variable {P : Program} {E : Env} {M : Perm} {w0 : World} {nt : Nat} {ds : List Deferred} {h : List Obj} {env : St}
def readyN (ops : List Oper) (done : List Nat) : List Nat := (List.range ops.length).filter fun i => !done.contains i && (match ops[i]? with
 | some o => o.after.toList.all fun e => !Region.binds .any e || done.contains e.on
 | none => false)
def backB (ops : List Oper) : Bool := ops.zipIdx.all fun p => p.1.after.toList.all fun e => !Region.binds .any e || decide (e.on < p.2)
theorem pigeonN : ∀ {l m : List Nat}, l.Nodup → (∀ x ∈ l, x ∈ m) → l.length ≤ m.length ∧ (l.length = m.length → ∀ x ∈ m, x ∈ l)
 | [], m, _, _ => ⟨by simp, fun h x hx => by
  have : m = [] := List.eq_nil_of_length_eq_zero (by simpa using h.symm)
  rw [this] at hx; cases hx⟩
 | a :: l, m, hn, hs => by
  have ha : a ∈ m := hs a (by simp)
  have hn' := List.nodup_cons.1 hn
  have hlen := List.length_erase_of_mem ha
  have hpos : 0 < m.length := List.length_pos_of_mem ha
  have rec_ := pigeonN (l := l) (m := m.erase a) hn'.2 (fun x hx => by
   have hne : x ≠ a := fun e => hn'.1 (e ▸ hx)
   exact (List.mem_erase_of_ne hne).2 (hs x (by simp [hx])))
  refine ⟨by simp only [List.length_cons]; omega, fun h x hx => ?_⟩
  by_cases e : x = a
  ·subst e; simp
  ·have := rec_.2 (by simp only [List.length_cons] at h; omega) x ((List.mem_erase_of_ne e).2 hx)
   simp [this]
end
attribute [go_sem] hitL rpV
end Go.Vc
namespace Go.Vc
open Go.RowKit
theorem cast_lit (n : Nat) : ((no_index (OfNat.ofNat n) : Nat) : Int) = OfNat.ofNat n := rfl
inductive Pl where
 | A (keep : List Nat)
 | B (keep : List Nat)
 | C (n : Nat) (keep : List Nat)
 | stop
structure PlR where
 reg : List (Nat × Pl)
 stops : List (Nat × Nat)
def plOf : List (Nat × Pl) → Nat → Pl
 | [], _ => .stop
 | (i, p) :: r, id => match decide (i = id) with
  | true => p
  | false => plOf r id
def first : Code → Nat
 | .region id _ _ => id + 3
 | .seq x _ => first x
 | .block _ x => first x
 | .loop x => first x
 | .scope x => first x
 | .skip => 1
 | .label _ => 1
 | .ret => 0
 | _ => 2
def stopB : List (Nat × Nat) → Code → Code → Bool
 | [], _, _ => false
 | (a, b) :: r, x, y => match decide (a = first x) with
  | true => match decide (b = first y) with
   | true => true
   | false => stopB r x y
  | false => stopB r x y
def Kseq (V : St → List Obj → Prop) (K : Exit → St → List Obj → Prop) : Exit → St → List Obj → Prop := fun e env h => match e with
 | .normal => V env h
 | e => K e env h
def Kblk (id : Nat) (K : Exit → St → List Obj → Prop) : Exit → St → List Obj → Prop := fun e env h => match e with
 | .normal => K .normal env h
 | .exit j => match decide (j = id) with
  | true => K .normal env h
  | false => K (.exit j) env h
 | .ret => K .ret env h
 | _ => False
def Kscp (K : Exit → St → List Obj → Prop) : Exit → St → List Obj → Prop := fun e env h => match e with
 | .normal => K .normal env h
 | .exit j => K (.exit j) env h
 | .ret => K .ret env h
 | _ => False
def vcC (F : Fr) (p : PlR) : Code → (Exit → St → List Obj → Prop) → (Exit → Act → World → Prop) → St → List Obj → Prop
 | .skip, K, _, env, h => K .normal env h
 | .label _, K, _, env, h => K .normal env h
 | .exit id, K, _, env, h => K (.exit id) env h
 | .ret, K, _, env, h => K .ret env h
 | .seq x y, K, Q, env, h => match stopB p.stops x y with
  | true => Tri F (.seq x y) Q env h
  | false => vcC F p x (Kseq (vcC F p y K Q) K) (Exit.then (Next F y Q) Q) env h
 | .cond o x y, K, Q, env, h => match evA F.E.G env o with
  | .val .bool b => (b = true → vcC F p x K Q env h) ∧ (¬ b = true → vcC F p y K Q env h)
  | _ => False
 | .block id x, K, Q, env, h => vcC F p x (Kblk id K) (Exit.inBlock id Q) env h
 | .scope x, K, Q, env, h => vcC F p x (Kscp K) (Exit.noGoto Q) env h
 | .region id ops draw, K, Q, env, h => match plOf p.reg id with
  | .A keep => vcA F.E h env ops.toList 0 [] (fun acc => K .normal (outK keep acc env) h)
  | .B keep => draw = false ∧ seqB F.E ops.toList ops.toList env h (fun env h => K .normal (keep.map fun t => (t, look env t)) h)
  | .C n keep => (draw = true ∧ (anyB (ops.toList.take n) && uniqB (ops.toList.take n) && tailB (ops.toList.take n).length ops.toList) = true) ∧
    vcA F.E h env (ops.toList.take n) 0 [] (fun acc => seqB F.E ops.toList (ops.toList.drop n) (pushAll F.E.T (allocsOf (ops.toList.take n) 0) (envOut acc env) h).1 (pushAll F.E.T (allocsOf (ops.toList.take n) 0) (envOut acc env) h).2 (fun env h => K .normal (keep.map fun t => (t, look env t)) h))
  | .stop => Tri F (.region id ops draw) Q env h
 | c, _, Q, env, h => Tri F c Q env h
inductive Kt where
 | fin (Q : Exit → Act → World → Prop)
 | seq (y : Code) (k : Kt)
 | blk (id : Nat) (k : Kt)
 | scp (k : Kt)
 | stp (K : Act → World → Prop) (k : Kt)
def denQ (F : Fr) : Kt → Exit → Act → World → Prop
 | .fin Q => Q
 | .seq y k => Exit.then (Next F y (denQ F k)) (denQ F k)
 | .blk id k => Exit.inBlock id (denQ F k)
 | .scp k => Exit.noGoto (denQ F k)
 | .stp K k => Exit.then K (denQ F k)
def den (F : Fr) (p : PlR) : Kt → Exit → St → List Obj → Prop
 | .fin Q => fun e env h => At F (Q e) env h
 | .seq y k => Kseq (vcC F p y (den F p k) (denQ F k)) (den F p k)
 | .blk id k => Kblk id (den F p k)
 | .scp k => Kscp (den F p k)
 | .stp K k => Kseq (fun env h => At F K env h) (den F p k)
def vcT (F : Fr) (p : PlR) (c : Code) (k : Kt) (env : St) (h : List Obj) : Prop := vcC F p c (den F p k) (denQ F k) env h
section
variable {F : Fr} {p : PlR} {k : Kt} {env : St} {h : List Obj}
theorem vcT_skip : vcT F p .skip k env h = den F p k .normal env h := propext Iff.rfl
theorem vcT_label {l : Nat} : vcT F p (.label l) k env h = den F p k .normal env h := propext Iff.rfl
theorem vcT_exit {id : Nat} : vcT F p (.exit id) k env h = den F p k (.exit id) env h := propext Iff.rfl
theorem vcT_ret : vcT F p .ret k env h = den F p k .ret env h := propext Iff.rfl
theorem vcT_seq {x y : Code} : vcT F p (.seq x y) k env h = match stopB p.stops x y with
  | true => Tri F (.seq x y) (denQ F k) env h
  | false => vcT F p x (.seq y k) env h := propext Iff.rfl
theorem vcT_cond {o : Operand} {x y : Code} : vcT F p (.cond o x y) k env h = match evA F.E.G env o with
  | .val .bool b => (b = true → vcT F p x k env h) ∧ (¬ b = true → vcT F p y k env h)
  | _ => False := propext Iff.rfl
theorem vcT_block {id : Nat} {x : Code} : vcT F p (.block id x) k env h = vcT F p x (.blk id k) env h := propext Iff.rfl
theorem vcT_scope {x : Code} : vcT F p (.scope x) k env h = vcT F p x (.scp k) env h := propext Iff.rfl
theorem vcT_loop {x : Code} : vcT F p (.loop x) k env h = Tri F (.loop x) (denQ F k) env h := propext Iff.rfl
theorem vcT_region {id : Nat} {ops : Array Oper} {draw : Bool} : vcT F p (.region id ops draw) k env h = match plOf p.reg id with
  | .A keep => vcA F.E h env ops.toList 0 [] (fun acc => den F p k .normal (outK keep acc env) h)
  | .B keep => draw = false ∧ seqB F.E ops.toList ops.toList env h (fun env h => den F p k .normal (keep.map fun t => (t, look env t)) h)
  | .C n keep => (draw = true ∧ (anyB (ops.toList.take n) && uniqB (ops.toList.take n) && tailB (ops.toList.take n).length ops.toList) = true) ∧
    vcA F.E h env (ops.toList.take n) 0 [] (fun acc => seqB F.E ops.toList (ops.toList.drop n) (pushAll F.E.T (allocsOf (ops.toList.take n) 0) (envOut acc env) h).1 (pushAll F.E.T (allocsOf (ops.toList.take n) 0) (envOut acc env) h).2 (fun env h => den F p k .normal (keep.map fun t => (t, look env t)) h))
  | .stop => Tri F (.region id ops draw) (denQ F k) env h := propext Iff.rfl
theorem den_fin {Q : Exit → Act → World → Prop} {e : Exit} : den F p (.fin Q) e env h = At F (Q e) env h := propext Iff.rfl
theorem den_seqN {y : Code} : den F p (.seq y k) .normal env h = vcT F p y k env h := propext Iff.rfl
theorem den_seqE {y : Code} {id : Nat} : den F p (.seq y k) (.exit id) env h = den F p k (.exit id) env h := propext Iff.rfl
theorem den_seqR {y : Code} : den F p (.seq y k) .ret env h = den F p k .ret env h := propext Iff.rfl
theorem den_blkN {id : Nat} : den F p (.blk id k) .normal env h = den F p k .normal env h := propext Iff.rfl
theorem den_blkE {id j : Nat} : den F p (.blk id k) (.exit j) env h = match decide (j = id) with
  | true => den F p k .normal env h
  | false => den F p k (.exit j) env h := propext Iff.rfl
theorem den_blkR {id : Nat} : den F p (.blk id k) .ret env h = den F p k .ret env h := propext Iff.rfl
theorem den_scpN : den F p (.scp k) .normal env h = den F p k .normal env h := propext Iff.rfl
theorem den_scpE {j : Nat} : den F p (.scp k) (.exit j) env h = den F p k (.exit j) env h := propext Iff.rfl
theorem den_scpR : den F p (.scp k) .ret env h = den F p k .ret env h := propext Iff.rfl
theorem den_stpN {K : Act → World → Prop} : den F p (.stp K k) .normal env h = At F K env h := propext Iff.rfl
theorem den_stpE {K : Act → World → Prop} {j : Nat} : den F p (.stp K k) (.exit j) env h = den F p k (.exit j) env h := propext Iff.rfl
theorem den_stpR {K : Act → World → Prop} : den F p (.stp K k) .ret env h = den F p k .ret env h := propext Iff.rfl
theorem vcA_nil {E : Env} {i : Nat} {acc : List Ent} {K : List Ent → Prop} : vcA E h env [] i acc K = K acc := propext Iff.rfl
theorem vcA_cons {E : Env} {o : Oper} {r : List Oper} {i : Nat} {acc : List Ent} {K : List Ent → Prop} : vcA E h env (o :: r) i acc K = match o.dst, opA E h env acc o with
  | some d, (p, v) => guardOK acc o.guard ∧ (gpHolds acc (gpOf acc o.guard) → p) ∧ vcA E h env r (i + 1) (⟨i, d, gpOf acc o.guard, v⟩ :: acc) K
  | none, _ => False := propext (by rw [vcA]; exact Iff.rfl)
theorem seqB_nil {E : Env} {all : List Oper} {K : St → List Obj → Prop} : seqB E all [] env h K = K env h := propext Iff.rfl
theorem seqB_cons {E : Env} {all : List Oper} {o : Oper} {r : List Oper} {K : St → List Obj → Prop} : seqB E all (o :: r) env h K = match o.guard with
  | none => match stepB E env h o with
   | (p, v, h') => p ∧ seqB E all r (putE o.dst v env) h' K
  | some (j, pol) => match dstAt all j with
   | some dj => match look env dj with
    | .val .bool b => (b = pol → match stepB E env h o with
      | (p, v, h') => p ∧ seqB E all r (putE o.dst v env) h' K) ∧ (b = !pol → seqB E all r (putE o.dst .undef env) h K)
    | .undef => seqB E all r (putE o.dst .undef env) h K
    | _ => False
   | none => False := propext (by rw [seqB] <;> exact Iff.rfl)
end
attribute [go_sem ↓] vcT_skip vcT_label vcT_exit vcT_ret vcT_seq vcT_cond vcT_block vcT_scope vcT_loop vcT_region
attribute [go_sem ↓] den_fin den_seqN den_seqE den_seqR den_blkN den_blkE den_blkR den_scpN den_scpE den_scpR den_stpN den_stpE den_stpR
attribute [go_sem ↓] vcA_nil vcA_cons seqB_nil seqB_cons
attribute [go_sem] plOf first stopB fitE fitV retOK eq_self cast_lit
end Go.Vc
namespace Go.Vc
open Go.RowKit
end Go.Vc
namespace Go.Vc
open Go.RowKit
def bitsOf (n : Nat) (done : List Nat) : List Bool := (List.range n).map fun i => done.contains i
def rdyB (ops : List Oper) (bs : List Bool) : List Nat := (List.range ops.length).filter fun i => !bs.getD i false && (match ops[i]? with
 | some o => o.after.toList.all fun e => !Region.binds .any e || bs.getD e.on false
 | none => false)
theorem bits_getD {n : Nat} {done : List Nat} {i : Nat} (hi : i < n) : (bitsOf n done).getD i false = done.contains i := by
 simp [bitsOf, List.getD_eq_getElem?_getD, hi]
theorem bits_set {n : Nat} {done : List Nat} {i : Nat} (hi : i < n) : (bitsOf n done).set i true = bitsOf n (i :: done) := by
 apply List.ext_getElem
 ·simp [bitsOf]
 ·intro k h1 h2
  simp only [bitsOf, List.length_set, List.length_map, List.length_range] at h1
  rw [List.getElem_set]
  by_cases e : i = k
  ·subst e; simp [bitsOf]
  ·simp only [e, if_false, bitsOf, List.getElem_map, List.getElem_range, List.contains_cons]
   have : (k == i) = false := by simpa using fun h => e h.symm
   rw [this, Bool.false_or]
theorem rdy_bits {ops : List Oper} (hb : backB ops = true) {done : List Nat} {i : Nat} (hi : i ∈ readyN ops done) : i ∈ rdyB ops (bitsOf ops.length done) := by
 simp only [readyN, List.mem_filter, List.mem_range, Bool.and_eq_true] at hi
 obtain ⟨h1, h2, h3⟩ := hi
 simp only [rdyB, List.mem_filter, List.mem_range, Bool.and_eq_true]
 refine ⟨h1, by rw [bits_getD h1]; exact h2, ?_⟩
 rw [List.getElem?_eq_getElem h1] at h3 ⊢
 simp only [List.all_eq_true, Bool.or_eq_true] at h3 ⊢
 intro e he
 rcases h3 e he with h | h
 ·exact .inl h
 ·rcases Bool.eq_false_or_eq_true (Region.binds .any e) with hbe | hbe
  ·right
   have hbk := List.all_eq_true.1 hb (ops[i], i) (by rw [List.mem_zipIdx_iff_getElem?]; exact List.getElem?_eq_getElem h1)
   have hbk := List.all_eq_true.1 hbk e he
   rw [hbe] at hbk
   simp at hbk
   rw [bits_getD (by omega)]; exact h
  ·left; rw [hbe]; rfl
def outT (F : Fr) (inv : List Bool → St × List Obj) (downs : List (List Bool)) (bs' : List Bool) (d : Option Nat) (env : St) (r : Prop × AV × List Obj) : Prop := match r with
 | (p, v, h') => p ∧ bs' ∈ downs ∧ ∃ σ, nodupB σ = true ∧ preB F.M.m σ = true ∧ ((inv bs').1.map fun q => (q.1, ren σ (look (putE d v env) q.1))) = (inv bs').1 ∧ (σ.map fun j => renO σ (h'.getD j .dead)) = (inv bs').2
theorem outT_iff {F : Fr} {inv : List Bool → St × List Obj} {downs : List (List Bool)} {bs' : List Bool} {d : Option Nat} {env : St} {r : Prop × AV × List Obj} (h : outT F inv downs bs' d env r) :
  r.1 ∧ bs' ∈ downs ∧ ∃ σ, nodupB σ = true ∧ preB F.M.m σ = true ∧ ((inv bs').1.map fun q => (q.1, ren σ (look (putE d r.2.1 env) q.1))) = (inv bs').1 ∧ (σ.map fun j => renO σ (r.2.2.getD j .dead)) = (inv bs').2 := h
def stT (F : Fr) (ops : List Oper) (inv : List Bool → St × List Obj) (downs : List (List Bool)) (bs : List Bool) (i : Nat) : Prop :=
 match ops[i]? with
 | some o => o.guard = none ∧ outT F inv downs (bs.set i true) o.dst (inv bs).1 (stepB F.E (inv bs).1 (inv bs).2 o)
 | none => False
theorem anyT_ok {F : Fr} {Q : Exit → Act → World → Prop} (hF : FrOK F) {ops : List Oper} (hok : ∀ o ∈ ops, okOper F.nt o = true) (hb : backB ops = true) (inv : List Bool → St × List Obj) (downs : List (List Bool))
  (hst : ∀ bs ∈ downs, ∀ i ∈ rdyB ops bs, stT F ops inv downs bs i) (hK : At F (Q .normal) (inv (bitsOf ops.length (List.range ops.length))).1 (inv (bitsOf ops.length (List.range ops.length))).2) :
  ∀ (n : Nat) (done : List Nat) (listed : Array Bool), listed.size = ops.length → (∀ k, k < ops.length → (listed.getD k false = true ↔ k ∈ done)) → done.length + n = ops.length → done.Nodup → (∀ k ∈ done, k < ops.length) → bitsOf ops.length done ∈ downs → ∀ (c : Ctx) (a : Act) (w : World), Sim F.E F.M F.w0 F.nt F.ds c (inv (bitsOf ops.length done)).1 (inv (bitsOf ops.length done)).2 a w → wpAny F.P .any ops.toArray Q n listed a w
 | 0, done, listed, hsz, hl, hn, hd, hlt, hdn, c, a, w, hsim => by
  have hsub : ∀ j, j < ops.length → j ∈ done := fun j hjl => (pigeonN hd (m := List.range ops.length) (fun k hk => List.mem_range.2 (hlt k hk))).2 (by simp; omega) j (List.mem_range.2 hjl)
  have e : bitsOf ops.length done = bitsOf ops.length (List.range ops.length) := by
   unfold bitsOf
   apply List.map_congr_left
   intro k hk
   have := hsub k (List.mem_range.1 hk)
   rw [Bool.eq_iff_iff]
   simpa [List.contains_iff_mem, this] using List.mem_range.1 hk
  refine ⟨?_, hK c a w (e ▸ hsim)⟩
  rw [List.eq_nil_iff_forall_not_mem]
  intro j hj
  obtain ⟨h1, o, ho, _⟩ := mem_ready.1 hj
  have ho : ops[j]? = some o := by simpa using ho
  have hjl := tail_of.get_lt' ho
  have := (hl j hjl).2 (hsub j hjl)
  have hlt' : j < listed.size := by omega
  simp [hlt'] at h1 this
  rw [this] at h1; cases h1
 | n + 1, done, listed, hsz, hl, hn, hd, hlt, hdn, c, a, w, hsim => by
  have hrd : ∀ j, j ∈ Region.ready .any ops.toArray listed → j ∈ readyN ops done ∧ j ∉ done ∧ j < ops.length := fun j hj => by
   obtain ⟨h1, o, ho, hall⟩ := mem_ready.1 hj
   have ho : ops[j]? = some o := by simpa using ho
   have hjl := tail_of.get_lt' ho
   have hlt' : j < listed.size := by omega
   have hnd : j ∉ done := fun hm => by
    have := (hl j hjl).2 hm
    simp [hlt'] at h1 this
    rw [this] at h1; cases h1
   refine ⟨?_, hnd, hjl⟩
   simp only [readyN, List.mem_filter, List.mem_range, ho, Bool.and_eq_true, Bool.not_eq_true', List.contains_eq_mem, decide_eq_false_iff_not, List.all_eq_true, Bool.or_eq_true, decide_eq_true_eq]
   refine ⟨hjl, hnd, fun e he => ?_⟩
   cases hbe : Region.binds .any e with
   | false => exact .inl rfl
   | true =>
    right
    have h5 := hall e (by simpa using he) hbe
    rcases Nat.lt_or_ge e.on ops.length with hh | hh
    ·exact (hl _ hh).1 h5
    ·simp [show ¬ e.on < listed.size by omega] at h5
  refine ⟨fun hr => ?_, fun j hj => ?_⟩
  ·exfalso
   have hex : ∃ k, (k < ops.length ∧ k ∉ done) ∧ ∀ j, j < k → ¬ (j < ops.length ∧ j ∉ done) := by
    have hex : ∃ k, k < ops.length ∧ k ∉ done := by
     apply Classical.byContradiction
     intro hc
     have hsub : List.range ops.length ⊆ done := fun k hk => Classical.byContradiction fun hk2 => hc ⟨k, List.mem_range.1 hk, hk2⟩
     have := (pigeonN (List.nodup_range (n := ops.length)) (fun k hk => hsub hk)).1
     simp at this
     omega
    obtain ⟨n, h1, h2⟩ := least_of hex
    exact ⟨n, h1, fun j hj hp => by have := h2 j hp; omega⟩
   obtain ⟨k, ⟨hk, hkd⟩, hlow⟩ := hex
   have hmem : k ∈ Region.ready .any ops.toArray listed := by
    rw [mem_ready]
    have hlt' : k < listed.size := by omega
    have hun : ¬ listed.getD k false = true := fun h => hkd ((hl k hk).1 h)
    refine ⟨by simp [hlt'] at hun ⊢; exact hun, ops[k], by simp [hk], fun e he hbe => ?_⟩
    have hbk := List.all_eq_true.1 hb (ops[k], k) (by rw [List.mem_zipIdx_iff_getElem?]; exact List.getElem?_eq_getElem hk)
    have hbk := List.all_eq_true.1 hbk e (Array.mem_toList_iff.2 he)
    rw [hbe] at hbk
    simp at hbk
    have hne := hlow e.on hbk
    exact (hl _ (by omega)).2 (Classical.byContradiction fun hd => hne ⟨by omega, hd⟩)
   rw [hr] at hmem; cases hmem
  ·obtain ⟨r1, r2, r3⟩ := hrd j hj
   have hs := hst _ hdn j (rdy_bits hb r1)
   have hjo : ops[j]? = some ops[j] := List.getElem?_eq_getElem r3
   unfold stT at hs
   rw [hjo] at hs
   obtain ⟨hg, hs⟩ := hs
   obtain ⟨hp, hin, σ, s1, s2, s3, s4⟩ := outT_iff hs
   rw [bits_set r3] at hin s3 s4
   have hokO := hok ops[j] (List.getElem_mem r3)
   have hw : Region.wanted ops[j] (yielded ops.toArray a.tmps) = true := by simp [Region.wanted, hg]
   unfold wpOp
   simp only [List.getElem?_toArray, hjo]
   rw [if_pos hw]
   left
   refine (step_ok hF.env hsim hokO hp).wp fun v w' c' ha => ?_
   have hsim' := hsim.after hokO ha
   refine at_ren (F := F) (K := fun a w => wpAny F.P .any ops.toArray Q n (listed.setIfInBounds j true) a w) σ s1 s2 ?_ c' _ w' (hsim'.keep ((inv (bitsOf ops.length (j :: done))).1.map Prod.fst))
   rw [List.map_map, List.map_map, s4]
   have e2 : ((inv (bitsOf ops.length (j :: done))).1.map (((fun p : Nat × AV => (p.1, ren σ p.2)) ∘ fun t => (t, look (putE ops[j].dst (stepB F.E (inv (bitsOf ops.length done)).1 (inv (bitsOf ops.length done)).2 ops[j]).2.1 (inv (bitsOf ops.length done)).1) t)) ∘ Prod.fst)) = (inv (bitsOf ops.length (j :: done))).1 := s3
   rw [e2]
   intro c a w hsim
   refine anyT_ok hF hok hb inv downs hst hK n (j :: done) (listed.setIfInBounds j true) (by simp [hsz]) (fun k hk => ?_) (by simp; omega) (List.nodup_cons.2 ⟨r2, hd⟩) (fun k hk => ?_) hin c a w hsim
   ·by_cases e : j = k
    ·subst e
     have : j < listed.size := by omega
     simp [this]
    ·rw [getD_set_ne false e, hl k hk]
     constructor
     ·intro h; exact List.mem_cons_of_mem _ h
     ·intro h; exact (List.mem_cons.1 h).resolve_left (fun e' => e e'.symm)
   ·rcases List.mem_cons.1 hk with rfl | hk
    ·exact r3
    ·exact hlt k hk
theorem tri_regionT {F : Fr} {Q : Exit → Act → World → Prop} {env : St} {h : List Obj} (hF : FrOK F) {id : Nat} {ops : Array Oper} (inv : List Bool → St × List Obj) (downs : List (List Bool)) (hb : backB ops.toList = true) (h0 : bitsOf ops.toList.length [] ∈ downs)
  (hi : inv (bitsOf ops.toList.length []) = (env, h)) (hst : ∀ bs ∈ downs, ∀ i ∈ rdyB ops.toList bs, stT F ops.toList inv downs bs i) (hk : At F (Q .normal) (inv (bitsOf ops.toList.length (List.range ops.toList.length))).1 (inv (bitsOf ops.toList.length (List.range ops.toList.length))).2) : Tri F (.region id ops true) Q env h := fun hok c a w hs => by
 simp only [okCode, Bool.and_eq_true, Bool.or_eq_true, Bool.not_eq_true'] at hok
 obtain ⟨⟨h1, h2⟩, h3⟩ := hok
 refine wp_region_any hF.mix ?_
 have hlat : Later c w c { w with drawn := w.drawn + 1 } := ⟨.refl _, fun b hb => rfl⟩
 have hdr : Sim F.E F.M F.w0 F.nt F.ds c env h a { w with drawn := w.drawn + 1 } :=
  ⟨hs.good.step hlat rfl ⟨rfl, rfl, rfl, Nat.le_refl _, fun _ _ _ => rfl⟩ (fun _ _ _ _ _ => rfl) hs.good.sfin (fun _ hb => .inl hb), GlobR.mono (w := w) (w' := { w with drawn := w.drawn + 1 }) (fun _ hb => hb) hlat.same hs.glob, hs.env.keep hlat, hs.size, hs.defers⟩
 have := anyT_ok (Q := Q) hF (List.all_eq_true.1 h1) hb inv downs hst hk ops.toList.length [] (Array.replicate ops.size false) (by simp) (fun k hk => by rw [rep_false]; simp) (by simp) List.nodup_nil (fun k hk => by cases hk) h0 c a _ (by rw [hi]; exact hdr)
 simpa using this
inductive Dk where
 | v (t : Nat) (x : AV)
 | mk (t : Nat) (o : Obj)
 | cp (t j : Nat)
def cntT : List Dk → List Bool → Nat → Nat
 | _, _, 0 => 0
 | .mk _ _ :: r, true :: bs, j + 1 => cntT r bs j + 1
 | _ :: r, _ :: bs, j + 1 => cntT r bs j
 | _, _, _ + 1 => 0
def entT (ds : List Dk) (bs : List Bool) (n i : Nat) : Dk → Nat × AV
 | .v t x => (t, x)
 | .mk t _ => (t, .own (n + cntT ds bs i))
 | .cp t j => (t, .own (n + cntT ds bs j))
def envT (ds : List Dk) (bs : List Bool) (n : Nat) : List Dk → List Bool → Nat → St
 | _, [], _ => []
 | [], _ :: _, _ => []
 | d :: r, true :: b, i => entT ds bs n i d :: envT ds bs n r b (i + 1)
 | _ :: r, false :: b, i => envT ds bs n r b (i + 1)
def objT : List Dk → List Bool → List Obj
 | .mk _ o :: r, true :: b => o :: objT r b
 | _ :: r, _ :: b => objT r b
 | _, _ => []
def invT (env : St) (h : List Obj) (ds : List Dk) (bs : List Bool) : St × List Obj := (envT ds bs h.length ds bs 0 ++ env, h ++ objT ds bs)
theorem envT_none {ds : List Dk} {bs : List Bool} {n : Nat} : ∀ (r : List Dk) (k i : Nat), envT ds bs n r (List.replicate k false) i = []
 | [], 0, _ => rfl
 | [], k + 1, _ => rfl
 | _ :: r, 0, _ => rfl
 | _ :: r, k + 1, i => by rw [List.replicate_succ, envT]; exact envT_none r k (i + 1)
theorem objT_none : ∀ (r : List Dk) (k : Nat), objT r (List.replicate k false) = []
 | [], 0 => rfl
 | [], k + 1 => rfl
 | d :: r, 0 => by cases d <;> rfl
 | d :: r, k + 1 => by rw [List.replicate_succ]; cases d <;> (simp only [objT]; exact objT_none r k)
def stL (F : Fr) (ops : List Oper) (inv : List Bool → St × List Obj) (downs : List (List Bool)) (bs : List Bool) : List Nat → Prop
 | [] => True
 | i :: r => stT F ops inv downs bs i ∧ stL F ops inv downs bs r
def stM (F : Fr) (ops : List Oper) (inv : List Bool → St × List Obj) (downs : List (List Bool)) : List (List Bool × List Nat) → Prop
 | [] => True
 | p :: r => stL F ops inv downs p.1 p.2 ∧ stM F ops inv downs r
theorem stL_mem {F : Fr} {ops : List Oper} {inv : List Bool → St × List Obj} {downs : List (List Bool)} {bs : List Bool} : ∀ {l : List Nat}, stL F ops inv downs bs l → ∀ i ∈ l, stT F ops inv downs bs i
 | i :: r, h, j, hj => by
  rcases List.mem_cons.1 hj with rfl | hj
  ·exact h.1
  ·exact stL_mem h.2 j hj
theorem stM_mem {F : Fr} {ops : List Oper} {inv : List Bool → St × List Obj} {downs : List (List Bool)} : ∀ {l : List (List Bool × List Nat)}, stM F ops inv downs l → ∀ p ∈ l, stL F ops inv downs p.1 p.2
 | p :: r, h, q, hq => by
  rcases List.mem_cons.1 hq with rfl | hq
  ·exact h.1
  ·exact stM_mem h.2 q hq
theorem tri_regionU {F : Fr} {Q : Exit → Act → World → Prop} {env : St} {h : List Obj} (hF : FrOK F) {id : Nat} {ops : Array Oper} (keep0 keep : List Nat) (ds : List Dk) (pl : List (List Bool × List Nat)) (full : List Bool)
  (hb : (decide (bitsOf ops.toList.length (List.range ops.toList.length) = full) && backB ops.toList && pl.all (fun p => decide (rdyB ops.toList p.1 = p.2)) && (pl.map Prod.fst).contains (bitsOf ops.toList.length [])) = true)
  (hst : stM F ops.toList (invT (keep0.map fun t => (t, look env t)) h ds) (pl.map Prod.fst) pl)
  (hk : At F (Q .normal) (keep.map fun t => (t, look (invT (keep0.map fun t => (t, look env t)) h ds full).1 t)) (invT (keep0.map fun t => (t, look env t)) h ds full).2) : Tri F (.region id ops true) Q env h := by
 simp only [Bool.and_eq_true] at hb
 obtain ⟨⟨⟨hfu, hb⟩, hp⟩, h0⟩ := hb
 have hfu : bitsOf ops.toList.length (List.range ops.toList.length) = full := by simpa using hfu
 subst hfu
 intro hok
 refine at_keep keep0 ?_
 refine tri_regionT hF (invT (keep0.map fun t => (t, look env t)) h ds) (pl.map Prod.fst) hb (by simpa using h0) ?_ (fun bs hbs i hi => ?_) (at_keep keep hk) hok
 ·have e : bitsOf ops.toList.length [] = List.replicate ops.toList.length false := by
   apply List.ext_getElem <;> simp [bitsOf]
  rw [e, invT, envT_none, objT_none]
  simp
 ·obtain ⟨p, hp1, rfl⟩ := List.mem_map.1 hbs
  have := List.all_eq_true.1 hp p hp1
  have e : rdyB ops.toList p.1 = p.2 := by simpa using this
  exact stL_mem (stM_mem hst p hp1) i (e ▸ hi)
attribute [go_sem] stM stL stT outT invT envT entT objT cntT bitsOf
end Go.Vc
