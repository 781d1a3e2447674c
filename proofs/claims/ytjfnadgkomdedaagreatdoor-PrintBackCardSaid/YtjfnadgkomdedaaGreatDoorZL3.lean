import Derived.Test.YtjfnadgkomdedaaGreatDoorZL2
import Derived.Maps.AppendAt
set_option linter.unusedVariables false
set_option linter.unusedSimpArgs false
namespace Go.Vc
open Go.RowKit
section
variable {P : Program} {M : Perm} {w0 : World} {c : Ctx} {h : List Obj} {w : World}
structure fU (P : Program) (E : Env) : Prop where
 T : iS P E.T
 Γ : ∀ f vs sp, E.Γ f vs = some sp → (FOK P E.G f sp ∧ ∃ fn, P.funcs[f]? = some fn ∧ fn.name ≠ "runtime.NumGoroutine" ∧ fn.body.isSome = true) ∨ NOK P E.G f sp
 el : ∀ t ct, E.T t = some (.sl ct) → P.underlying t = some (.slice (E.el t))
 mp : ∀ t k e, E.mp t = some (k, e) → P.underlying t = some (.map k e)
theorem aAM {f : FuncId} {args : Array Value} (hf : ∃ fn, P.funcs[f]? = some fn ∧ fn.name ≠ "runtime.NumGoroutine" ∧ fn.body.isSome = true) : (callFunc f args).run P w = .ok (.enter f args) w := by
 obtain ⟨fn, h1, h2, h3⟩ := hf
 obtain ⟨b, hb⟩ := Option.isSome_iff_exists.1 h3
 simp [callFunc, h1, h2, hb]
theorem aDK {ρ : Operand → AV} {a : Act} {l : List Operand} (h : ∀ x ∈ l, aQ c w (ρ x) (a.eval x)) : ∀ i (h1 : i < (l.map ρ).length) (h2 : i < (l.map a.eval).length), aQ c w (l.map ρ)[i] (l.map a.eval)[i] := fun i h1 h2 => by
 simp only [List.getElem_map]
 exact h _ (List.getElem_mem _)
theorem aSE {f : FuncId} {l2 : List Nat} {v : Value} (hv : aQ c w (.fn f [] l2) v) : (∀ i ∈ l2, i < c.n) ∧ v = .func (.func f) #[] (l2.map c.hd).toArray := by
 obtain ⟨h1, _, h3⟩ := hv
 have h3 := h3 rfl
 simp only [aH] at h1
 obtain ⟨_, h2, h1⟩ := h1
 refine ⟨h2, ?_⟩
 cases v <;> simp [Value.cells] at h1 h3
 obtain ⟨rfl, rfl, rfl⟩ := h1
 rfl
theorem aQw {g : FuncId} {t : Ty} {y : t.den} {v : Value} (hv : aQ c w (.val (.clo g t) y) v) : ∃ us : List Value, v = .func (.func g) #[] us.toArray ∧ aT w c.S t y us := by
 have := aQ.toV hv
 unfold cR at this
 rw [if_neg (by simp [Ty.isAgg])] at this
 obtain ⟨us, e, hr⟩ := this
 simp at e
 exact ⟨us, e, hr⟩
theorem aUB : ∀ {l : List AV} {vs : List Value} {t : Ty} {y : t.den}, aG1 l = some ⟨t, y⟩ → l.length = vs.length → (∀ i (h1 : i < l.length) (h2 : i < vs.length), aQ c w l[i] vs[i]) → aT w c.S t y vs
 | [], vs, t, y, ha, hl, _ => by
  simp only [aG1, Option.some.injEq, Sigma.mk.injEq] at ha
  obtain ⟨rfl, hy⟩ := ha
  cases vs with
  | nil => rfl
  | cons _ _ => simp at hl
 | v :: r, [], t, y, ha, hl, _ => by simp at hl
 | v :: r, x :: vs, t, y, ha, hl, hv => by
  have h0 := hv 0 (by simp) (by simp)
  simp only [List.getElem_cons_zero] at h0
  cases v <;> first | (simp [aG1] at ha; done) | skip
  rename_i t1 x1
  simp only [aG1] at ha
  split at ha
  ·rename_i u z hr
   simp only [Option.some.injEq, Sigma.mk.injEq] at ha
   obtain ⟨rfl, hy⟩ := ha
   have hy := eq_of_heq hy
   subst hy
   have rec_ := aUB hr (vs := vs) (by simpa using hl) (fun i h1 h2 => by have := hv (i + 1) (by simpa using h1) (by simpa using h2); simpa using this)
   obtain ⟨⟨b, off, ds, e, hb, hd, hc⟩, _, h3⟩ := h0
   have h3 := h3 rfl
   have ex : x = .pointer (some ⟨b, off, none⟩) := by
    cases x <;> simp [Value.cells] at e h3 <;> simp [e]
   refine ⟨[x], vs, rfl, ⟨b, off, ds, by rw [ex], hb, hd, hc⟩, rec_⟩
  ·cases ha
theorem aFb (hg : Good M w0 c h w) : ∀ {l2 : List Nat}, aCG h l2 = true → (∀ i ∈ l2, i < c.n) → ∀ i (h1 : i < (l2.map fun i => AV.ptr i []).length) (h2 : i < (l2.map c.hd).length), aQ c w (l2.map fun i => AV.ptr i [])[i] (l2.map c.hd)[i] := by
 intro l2 hb hl i h1 h2
 simp only [List.length_map] at h1
 simp only [List.getElem_map]
 simp only [aCG, List.all_eq_true] at hb
 have := hb l2[i] (List.getElem_mem h1)
 split at this
 ·rename_i n v ho
  obtain ⟨b, cells, e, q1, _⟩ := hg.objs _ _ ho
  refine ⟨⟨hl _ (List.getElem_mem h1), b, by rw [q1]; rfl, by rw [q1]; rfl⟩, (fun h => by cases h), (fun _ cs => by rw [q1]; simp)⟩
 ·cases this
theorem aMe : ∀ {t : Ty} {y : t.den} {us : List Value}, qA t = true → aT w c.S t y us → us.length = (vY t y).length ∧ ∀ i (h1 : i < (vY t y).length) (h2 : i < us.length), aQ c w (vY t y)[i] us[i]
 | .unit, _, us, _, hr => by simp only [aT] at hr; subst hr; exact ⟨rfl, fun i h => by simp [vY] at h⟩
 | .pair (.rp a) r, y, us, hb, hr => by
  obtain ⟨c1, c2, rfl, ⟨b, off, ds, rfl, q⟩, h2⟩ := hr
  obtain ⟨k1, k2⟩ := aMe (t := r) (y := y.2) (by simpa [qA] using hb) h2
  refine ⟨by simp [vY, k1], fun i hi hi' => ?_⟩
  cases i with
  | zero =>
   refine aQ.ofV ?_
   unfold cR
   rw [if_neg (by simp [Ty.isAgg])]
   exact ⟨b, off, ds, rfl, q⟩
  | succ i =>
   have := k2 i (by simpa [vY] using hi) (by simpa using hi')
   simpa [vY] using this
 | .pair .bool _, _, _, hb, _ => by simp [qA] at hb
 | .pair (.u _) _, _, _, hb, _ => by simp [qA] at hb
 | .pair (.i _) _, _, _, hb, _ => by simp [qA] at hb
 | .pair .str _, _, _, hb, _ => by simp [qA] at hb
 | .pair (.sl _) _, _, _, hb, _ => by simp [qA] at hb
 | .pair .unit _, _, _, hb, _ => by simp [qA] at hb
 | .pair (.pair _ _) _, _, _, hb, _ => by simp [qA] at hb
 | .pair (.arr _ _) _, _, _, hb, _ => by simp [qA] at hb
 | .pair .expr _, _, _, hb, _ => by simp [qA] at hb
 | .pair (.clo _ _) _, _, _, hb, _ => by simp [qA] at hb
 | .bool, _, _, hb, _ => by simp [qA] at hb
 | .u _, _, _, hb, _ => by simp [qA] at hb
 | .i _, _, _, hb, _ => by simp [qA] at hb
 | .str, _, _, hb, _ => by simp [qA] at hb
 | .sl _, _, _, hb, _ => by simp [qA] at hb
 | .arr _ _, _, _, hb, _ => by simp [qA] at hb
 | .expr, _, _, hb, _ => by simp [qA] at hb
 | .rp _, _, _, hb, _ => by simp [qA] at hb
 | .clo _ _, _, _, hb, _ => by simp [qA] at hb
theorem aMf {E : Env} (hE : fU P E) (hg : Good M w0 c h w) (hG : oW E.G c.S w) {dst : Option Nat} {ty : TypeId} {pos : String} {aft : Array Edge} {gd : Option (Nat × Bool)} {f : Operand} {args : Array Operand} {argTypes : Array TypeId} {a : Act} {ρ : Operand → AV} {g : FuncId} {us : List Value} {cv : List AV}
  (hf : a.eval f = .func (.func g) #[] us.toArray) (hul : us.length = cv.length) (hav : ∀ i (h1 : i < (args.toList.map ρ).length) (h2 : i < (args.toList.map a.eval).length), aQ c w (args.toList.map ρ)[i] (args.toList.map a.eval)[i])
  (huv : ∀ i (h1 : i < cv.length) (h2 : i < us.length), aQ c w cv[i] us[i]) (hc : (aDF E.Γ h g (args.toList.map ρ ++ cv)).1) :
  Did P M w0 h c { dst := dst, op := .call { callee := .value f, args := args, argTypes := argTypes }, type := ty, pos := pos, after := aft, guard := gd } a w (aDF E.Γ h g (args.toList.map ρ ++ cv)).2 := by
 have hΓ : ∃ sp, E.Γ g (args.toList.map ρ ++ cv) = some sp := by
  unfold aDF at hc
  cases hΓ : E.Γ g (args.toList.map ρ ++ cv) with
  | none => simp [hΓ] at hc
  | some sp => exact ⟨sp, rfl⟩
 obtain ⟨sp, hsp⟩ := hΓ
 have e2 : args.map a.eval ++ us.toArray = (args.toList.map a.eval ++ us).toArray := by rw [← Array.toList_inj]; simp
 have hcall := fun (C : (Ending → World → Prop) → Prop) hC hF => aWj (P := P) (C := C) hC (Γ := E.Γ) hF hg hG (f := g) (vs := args.toList.map ρ ++ cv) (xs := (args.toList.map a.eval ++ us).toArray) (by simp [hul]) (fun i h1 h2 => by
  simp only [List.getElem_toArray]
  by_cases hi : i < args.toList.length
  ·rw [List.getElem_append_left (by simpa using hi), List.getElem_append_left (by simpa using hi)]
   exact hav i (by simpa using hi) (by simpa using hi)
  ·rw [List.getElem_append_right (by simpa using hi), List.getElem_append_right (by simpa using hi)]
   have := huv (i - args.toList.length) (by simp at h1 hi ⊢; omega) (by simp at h2 hi ⊢; omega)
   simpa using this) hc
 rcases hE.Γ g _ sp hsp with ⟨hfok, hfn⟩ | hnok
 ·refine .inr ⟨g, (args.toList.map a.eval ++ us).toArray, ?_, hcall (Calls P g _ w) (fun R R' h k => h.mono k) (fun sp' hs => by rw [hsp] at hs; cases hs; exact fun S x => hfok w S _ x)⟩
  have hrun := aAM (w := w) (args := (args.toList.map a.eval ++ us).toArray) hfn
  simp [execOp, resolve, Deferred.ofValue, hf, invoke]
  rw [e2]
  exact hrun
 ·obtain ⟨v, w', hrun, v', c', e, hA⟩ := hcall (aXe P g (args.toList.map a.eval ++ us).toArray w) (fun R R' ⟨v, w', h, k⟩ hk => ⟨v, w', h, hk _ _ k⟩) (fun sp' hs => by rw [hsp] at hs; cases hs; exact hnok.2 w _)
  cases e
  refine .inl ⟨v, w', c', ?_, hA⟩
  simp [execOp, resolve, Deferred.ofValue, hf, invoke]
  rw [e2]
  exact hrun
theorem aOP {T : Tab} (hT : iS P T) {t : TypeId} {ct : Ty} (ht : T t = some ct) (hok : ct.okB = true) {o : Oper} {a : Act} (ho : o.op = .alloc t) : (execOp a.eval o).run P w = .ok (.value (.pointer (some ⟨w.heap.size, 0, none⟩))) (w.alloc (.cells (jO ct).cells t (0, 0))) := by
 have hz := pA (hT _ _ ht) hok w
 simp [execOp, ho, Instr.alloc, hz, newVar, newRow]
theorem aKe (hg : Good M w0 c h w) {ob : Go.Obj} : aE5 P M w0 h c w .junk (.pointer (some ⟨w.heap.size, 0, none⟩)) (w.alloc ob) c := by
 have hk : fJ nothing w (w.alloc ob) := fJ.alloc nothing w _
 have hl : dE c w c (w.alloc ob) := ⟨.refl _, fun b hb => hk.block b (hg.sfin b hb) (fun f => f)⟩
 exact ⟨hl, ⟨rfl, rfl⟩, hg.step hl rfl rfl hk.any (fun i o b ho hb => hk.block b (hg.own i o b ho hb).2.1 (fun f => f)) (fun b hb => Nat.lt_of_lt_of_le (hg.sfin b hb) hk.size) (fun b hb => .inl hb), hk, fun b hb => .inl hb, trivial⟩
theorem aTx {E : Env} (hE : fU P E) (hg : Good M w0 c h w) {t : TypeId} {m k : AV} {ok : Bool} {mv kv : Value} (hm : aQ c w m mv) (hk : aQ c w k kv) (hc : (aE9 E h t m k ok).1) :
  ∃ u, (Instr.lookup t mv kv ok).run P w = .ok u w ∧ aQ c w (aE9 E h t m k ok).2 u := by
 unfold aE9 at hc ⊢
 split at hc
 ·rename_i i
  split at hc
  ·rename_i kc vc l ho
   split at hc
   ·rename_i x hx
    obtain ⟨h1, h2, h3⟩ := hc
    simp only [ho, hx]
    obtain ⟨b, es, clock, q1, q2, q3, q4⟩ := hg.objs i _ ho
    have hmv : mv = .map (some b) := by
     obtain ⟨r1, _, r3⟩ := hm
     simp only [aH] at r1
     have r3 := r3 rfl
     obtain ⟨_, r1, _⟩ := r1
     rw [q1] at r1
     cases mv <;> simp [Value.cells] at r1 r3 <;> rw [r1]
    subst hmv
    unfold aUz at h3
    split at h3
    ·rename_i kt et he
     have hkx := rZ hg hk hx
     have hu := hE.mp _ _ _ he
     have hgo : (getObj b).run P w = .ok (.map es clock) w := by simp [getObj, Sem.run, q2]
     have hl : es.toList.length = l.length := by simpa using q3
     have hf := aHI (P := P) hE.T h3.1 h1 hkx w l es.toList hl (fun j h h' => by have := (q4 j h (by simpa using h')).1; simpa using this)
     have hck := aGq (P := P) es.isEmpty 9998 hE.T h3.1 h1 hkx w
     have hz := pA (hE.T _ _ h3.2) h2 w
     have hff := aJj (c := kc) (w := w) (S := c.S) (x := x) l es.toList 0 hl
     have hfin : ∀ (z : Value), cR w c.S vc ((aBW kc l x).getD vc.zero) z → aQ c w (if ok = true then AV.tup [.val vc ((aBW kc l x).getD vc.zero), .val .bool (aBW kc l x).isSome] else AV.val vc ((aBW kc l x).getD vc.zero)) (if ok = true then .tuple #[z, .bool (aBW kc l x).isSome] else z) := fun z hz => by
      cases ok
      ·simp only [Bool.false_eq_true, if_false]; exact aQ.ofV hz
      ·simp only [if_true]
       refine ⟨[z, .bool (aBW kc l x).isSome], rfl, rfl, fun i h1 h2 => ?_⟩
       match i, h1, h2 with
       | 0, _, _ => exact aQ.ofV hz
       | 1, _, _ => exact aQ.ofV (t := .bool) (x := (aBW kc l x).isSome) (by simp [cR, Ty.isAgg, aT])
     cases hgt : aBW kc l x with
     | some y =>
      rw [hgt] at hff
      obtain ⟨j, e, k1, r1, r2, r3, _⟩ := hff
      rw [r1] at hf
      have hjl : j < l.length := by
       rcases Nat.lt_or_ge j l.length with h | h
       ·exact h
       ·rw [List.getElem?_eq_none h] at r3; cases r3
      have hje : j < es.size := by omega
      have hv := (q4 j hjl hje).2
      have e1 : es[j] = e := by
       have : es.toList[j]? = some e := r2
       rw [Array.getElem?_toList, Array.getElem?_eq_getElem hje] at this
       simpa using this
      have e2 : l[j].2 = y := by rw [List.getElem?_eq_getElem hjl] at r3; simp at r3; rw [r3]
      rw [e1, e2] at hv
      have := hfin e.val (by rw [hgt]; exact hv)
      refine ⟨if ok = true then .tuple #[e.val, .bool true] else e.val, ?_, by rw [hgt] at this; exact this⟩
      simp [Instr.lookup, aV hu, hgo, hck, hf, Result.andThen]
     | none =>
      rw [hgt] at hff
      rw [hff.1] at hf
      have := hfin (jO vc) (by rw [hgt]; exact aEZ w c.S vc h2)
      refine ⟨if ok = true then .tuple #[jO vc, .bool false] else jO vc, ?_, by rw [hgt] at this; exact this⟩
      simp [Instr.lookup, aV hu, hgo, hck, hf, hz, Result.andThen]
    ·exact h3.elim
   ·exact hc.elim
  ·exact hc.elim
 ·exact hc.elim
theorem aF3 {E : Env} {t : TypeId} {c : Ty} (hT : iS P E.T) (ht : E.T t = some c) (hn : c.isNil = false) : ∃ d, P.underlying t = some d ∧ ∀ ms, d ≠ .interface ms := by
 obtain ⟨d, hd, hb⟩ := (hT _ _ ht).desc
 refine ⟨d, hd, fun ms e => ?_⟩
 subst e
 cases c <;> simp [fT, Ty.isNil] at hb hn
theorem aXD {E : Env} (hE : fU P E) (hg : Good M w0 c h w) {t : TypeId} {x : AV} {v : Value} (hv : aQ c w x v) (hc : (aQt E h t x).1) :
  ∃ u, (Instr.makeInterface t v).run P w = .ok u w ∧ aQ c w (aQt E h t x).2 u := by
 unfold aQt at hc ⊢
 split at hc
 ·rename_i cc ht
  split at hc
  ·rename_i d hd
   simp only [hd]
   have hr := rZ hg hv hd
   obtain ⟨td, h1, h2⟩ := aF3 hE.T ht hc
   refine ⟨.iface t v, ?_, aQ.ofV ?_⟩
   ·simp only [Instr.makeInterface, Sem.run_bind, aV h1, Result.andThen_ok]
    cases td <;> first | rfl | exact absurd rfl (h2 _)
   ·unfold cR at hr ⊢
    rw [if_neg (by simp [Ty.isAgg])]
    split at hr
    ·rename_i ha
     obtain ⟨cs, rfl, hr⟩ := hr
     exact ⟨.agg cs, cs.toList, rfl, (fun _ => by simp), (fun h => by rw [ha] at h; cases h), hr⟩
    ·rename_i ha
     exact ⟨v, [v], rfl, (fun h => absurd h ha), (fun _ => rfl), hr⟩
  ·exact hc.elim
 ·exact hc.elim
theorem aMg {k : TypeId} {t : Ty} {x : t.den} {v : Value} (hv : aQ c w (.val (.ifc k t) x) v) : ∃ u, v = .iface k u ∧ cR w c.S t x u := by
 have hr := aQ.toV hv
 unfold cR at hr
 rw [if_neg (by simp [Ty.isAgg])] at hr
 obtain ⟨u, ds, e, h1, h2, h3⟩ := hr
 simp only [List.cons.injEq, and_true] at e
 refine ⟨u, e, ?_⟩
 unfold cR
 split
 ·rename_i ha; exact ⟨ds.toArray, h1 ha, by simpa using h3⟩
 ·rename_i ha; rw [← h2 (by simpa using ha)]; exact h3
theorem aPo {t : Ty} {x : t.den} {b : Bool} {u : Value} (hu : cR w c.S t x u) : aQ c w (.tup [.val t x, .val .bool b]) (.tuple #[u, .bool b]) := by
 refine ⟨[u, .bool b], rfl, rfl, fun i h1 h2 => ?_⟩
 match i, h1, h2 with
 | 0, _, _ => exact aQ.ofV hu
 | 1, _, _ => exact aQ.ofV (t := .bool) (x := b) (by simp [cR, Ty.isAgg, aT])
theorem aTy {E : Env} (hE : fU P E) {t xt : TypeId} {x : AV} {ok : Bool} {v : Value} (hv : aQ c w x v) (hc : (aFa E x t ok).1) :
  ∃ u, (Instr.typeAssert v xt t ok).run P w = .ok u w ∧ aQ c w (aFa E x t ok).2 u := by
 unfold aFa at hc ⊢
 split at hc
 ·rename_i cc ht
  have hnil : cc.okB = true → cc.isNil = false := fun h => by cases cc <;> simp [Ty.okB, Ty.isNil] at h ⊢
  split at hc
  ·rename_i k c' d
   obtain ⟨u, rfl, hr⟩ := aMg hv
   by_cases e : k = t
   ·subst e
    simp only [if_true] at hc ⊢
    obtain ⟨td, h1, h2⟩ := aF3 hE.T ht hc
    refine ⟨if ok = true then .tuple #[u, .bool true] else u, ?_, ?_⟩
    ·simp only [Instr.typeAssert, Sem.run_bind, aV h1, Result.andThen_ok]
     cases td <;> first | (simp; done) | exact absurd rfl (h2 _)
    ·cases ok
     ·exact aQ.ofV hr
     ·exact aPo hr
   ·simp only [e, if_false] at hc ⊢
    obtain ⟨rfl, hz⟩ := hc
    refine ⟨.tuple #[jO cc, .bool false], ?_, aPo (aEZ w c.S cc hz)⟩
    obtain ⟨td, h1, h2⟩ := aF3 hE.T ht (hnil hz)
    have hz := pA (hE.T _ _ ht) hz w
    simp only [Instr.typeAssert, Sem.run_bind, aV h1, Result.andThen_ok]
    cases td <;> first | (simp [e, hz, Result.andThen]; done) | exact absurd rfl (h2 _)
  ·have hvn : v = .nilIface := by
    have hr := aQ.toV hv
    unfold cR at hr
    rw [if_neg (by simp [Ty.isAgg])] at hr
    simpa [aT] using hr
   subst hvn
   obtain ⟨rfl, hz⟩ := hc
   refine ⟨.tuple #[jO cc, .bool false], ?_, aPo (aEZ w c.S cc hz)⟩
   obtain ⟨td, h1, h2⟩ := aF3 hE.T ht (hnil hz)
   have hz := pA (hE.T _ _ ht) hz w
   simp only [Instr.typeAssert, Sem.run_bind, aV h1, Result.andThen_ok]
   cases td <;> first | (simp [hz, Result.andThen]; done) | exact absurd rfl (h2 _)
  ·exact hc.elim
 ·exact hc.elim
theorem aXE {T : Tab} (hT : iS P T) {op : BinOp} {t : TypeId} {x : AV} {v : Value} {ox : Operand} (hv : aQ c w x v) (hc : (aQu T op t x).1) :
  ∃ r, (eqGuard op t ox (.const .nilIface) v .nilIface).run P w = .ok () w ∧ (binOp op t v .nilIface).run P w = .ok r w ∧ aQ c w (aQu T op t x).2 r := by
 unfold aQu at hc ⊢
 split at hc
 ·rename_i y
  have hvn : v = .nilIface := by
   have hr := aQ.toV hv
   unfold cR at hr
   rw [if_neg (by simp [Ty.isAgg])] at hr
   simpa [aT] using hr
  subst hvn
  have key : T t = some .nili → (Op.equal t .nilIface .nilIface).run P w = .ok true w := fun ht => by
   obtain ⟨d, hd, hb⟩ := (hT _ _ ht).desc
   cases d <;> simp [fT] at hb
   unfold Op.equal Op.maxDepth
   rw [Op.equalIn]
   simp [aV hd]
  cases op <;> simp only at hc ⊢ <;> (try exact hc.elim)
  ·exact ⟨.bool true, by unfold eqGuard; cases ox <;> rfl, by simp [binOp, key hc], vW _⟩
  ·exact ⟨.bool false, by unfold eqGuard; cases ox <;> rfl, by simp [binOp, key hc], vW _⟩
 ·exact hc.elim
theorem aXf {E : Env} (hE : fU P E) (hg : Good M w0 c h w) (hG : oW E.G c.S w) {o : Oper} {a : Act} {ρ : Operand → AV} (hρ : ∀ x ∈ o.op.operands, aQ c w (ρ x) (a.eval x)) (hc : (pv E h ρ o).1) : Did P M w0 h c o a w (pv E h ρ o).2 := by
 obtain ⟨dst, op, ty, pos, aft, gd⟩ := o
 cases op <;> simp only [pv] at hc ⊢ <;> (try exact hc.elim) <;> simp only [Op.operands] at hρ
 case alloc t =>
  split at hc
  ·rename_i ct ht
   exact .inl ⟨_, _, c, aOP hE.T ht hc rfl, aKe hg⟩
  ·exact hc.elim
 case makeInterface t x =>
  obtain ⟨u, hu, hr⟩ := aXD (P := P) hE hg (hρ x (by simp)) hc
  exact Did.of_value hg (by simp [execOp, hu]) hr
 case typeAssert x xt t ok =>
  obtain ⟨u, hu, hr⟩ := aTy (P := P) hE (xt := xt) (hρ x (by simp)) hc
  exact Did.of_value hg (by simp [execOp, hu]) hr
 case lookup t m k ok =>
  obtain ⟨u, hu, hr⟩ := aTx (P := P) hE hg (hρ m (by simp)) (hρ k (by simp)) hc
  exact Did.of_value hg (by simp [execOp, hu]) hr
 case move x =>
  exact Did.of_value (v := a.eval x) hg (by simp [execOp]) (aSB (hρ x (by simp)))
 case assign x =>
  exact Did.of_value (v := a.eval x) hg (by simp [execOp]) (aSB (hρ x (by simp)))
 case load t x =>
  obtain ⟨u, hu, hr⟩ := aSu hE.T hg (hρ x (by simp)) hc
  exact Did.of_value hg (by simp [execOp, hu]) hr
 case binOp op t x y yt =>
  have hx := hρ x (by simp)
  have hy := hρ y (by simp)
  split at hc
  ·obtain ⟨r, h1, h2, h3⟩ := aXE (P := P) (ox := x) hE.T hx hc
   have e : a.eval (.const .nilIface) = .nilIface := rfl
   exact Did.of_value hg (by simp [execOp, e, h1, h2]) h3
  ·obtain ⟨u, hu, hr⟩ := aXB (P := P) hE.T hx hy hc
   have hgd := aUA (P := P) hE.T (u := a.eval y) (ox := x) (oy := y) hx hc
   exact Did.of_value hg (by simp [execOp, hgd, hu]) hr
 case unOp op t x =>
  obtain ⟨u, hu, hr⟩ := aX7 (P := P) (hρ x (by simp)) hc
  exact Did.of_value hg (by simp [execOp, hu]) hr
 case convert s d x =>
  have hx := hρ x (by simp)
  unfold aUv at hc ⊢
  split at hc
  ·rename_i b hd hb
   rw [hb] at hx
   obtain ⟨u, w', c', hr, ha⟩ := aQr (P := P) hE.T hg hc hd hx
   exact .inl ⟨u, w', c', by simp [execOp, hr], by simpa only [hd, hb] using ha⟩
  ·rename_i hd
   split at hc
   ·rename_i hs
    split at hc
    ·rename_i k sz off n hx2
     split at hc
     ·rename_i q m xs ho
      obtain ⟨rfl, hle⟩ := hc
      rw [hx2] at hx
      obtain ⟨u, hu, hr⟩ := aPn (P := P) hE.T hg hs hd hx ho hle
      exact Did.of_value (v := u) hg (by simp [execOp, hu]) (by simpa only [hd, hs, hx2, ho] using hr)
     ·exact hc.elim
    split at hc
    ·rename_i b ha
     obtain ⟨u, hu, hr⟩ := aN5 (P := P) hE.T hg hs hd hx ha
     exact Did.of_value (v := u) hg (by simp [execOp, hu]) (by simpa only [hd, hs, ha] using hr)
    ·exact hc.elim
   ·obtain ⟨u, hu, hr⟩ := aSx (P := P) hE.T hx hc
    exact Did.of_value hg (by simp [execOp, hu]) hr
  ·obtain ⟨u, hu, hr⟩ := aSx (P := P) hE.T hx hc
   exact Did.of_value hg (by simp [execOp, hu]) hr
 case fieldAddr s x k =>
  obtain ⟨u, hu, hr⟩ := aUm (P := P) hE.T (hρ x (by simp)) hc
  exact Did.of_value hg (by simp [execOp, hu]) hr
 case field s x k =>
  obtain ⟨u, hu, hr⟩ := aUo (P := P) hE.T (hρ x (by simp)) hc
  exact Did.of_value hg (by simp [execOp, hu]) hr
 case indexAddr t x i =>
  obtain ⟨u, hu, hr⟩ := aUp (P := P) hE.T hg (hρ x (by simp)) (hρ i (by simp)) hc
  exact Did.of_value hg (by simp [execOp, hu]) hr
 case index t x i =>
  obtain ⟨u, hu, hr⟩ := aUr (P := P) hE.T (hρ x (by simp)) (hρ i (by simp)) hc
  exact Did.of_value hg (by simp [execOp, hu]) hr
 case slice t x lo hi mx =>
  obtain ⟨u, hu, hr⟩ := aUs (P := P) hE.T hg (hρ x (by simp)) (aMd (o := lo) fun y hy => hρ y (by simp [hy])) (aMd (o := hi) fun y hy => hρ y (by simp [hy])) (aMd (o := mx) fun y hy => hρ y (by simp [hy])) hc
  exact Did.of_value hg (by simp [execOp, hu]) hr
 case extract x i =>
  have hx := hρ x (by simp)
  unfold aJk at hc ⊢
  split at hc
  ·rename_i vs e
   rw [e] at hx
   obtain ⟨u, hu, hr⟩ := aWk (P := P) hx hc
   simp only
   exact Did.of_value hg (by simp [execOp, hu]) hr
  ·exact hc.elim
 case build t ps =>
  have hp := aHK (l := ps.toList) (ρ := ρ) (a := a) (c := c) (w := w) (fun p hp => hρ p.2 (List.mem_toArray.2 (List.mem_map_of_mem hp)))
  have key : ∃ u, (Instr.build t (ps.toList.map fun p => (p.1, a.eval p.2)).toArray).run P w = .ok u w ∧ aQ c w (bif E.dz t then aJe E.T t (ps.toList.map fun p => (p.1, ρ p.2)) else aFX E.T t (ps.toList.map fun p => (p.1, ρ p.2))).2 u := by
   cases hdz : E.dz t with
   | true => simp only [pv, hdz, cond_true] at hc ⊢; exact aTv (P := P) hE.T hp hc
   | false => simp only [pv, hdz, cond_false] at hc ⊢; exact aUu (P := P) hE.T hp hc
  obtain ⟨u, hu, hr⟩ := key
  have e : (ps.map fun x => (x.1, a.eval x.2)) = (ps.toList.map fun p => (p.1, a.eval p.2)).toArray := by rw [← Array.toList_inj]; simp
  exact Did.of_value hg (by simp only [execOp]; rw [e]; simp [hu]) hr
 case buildSlice t n ps =>
  have hp := aHK (l := ps.toList) (ρ := ρ) (a := a) (c := c) (w := w) (fun p hp => hρ p.2 (List.mem_toArray.2 (List.mem_map_of_mem hp)))
  obtain ⟨u, w', c', hu, hr⟩ := aN4 (P := P) hE.T hg hp hc
  have e : (ps.map fun x => (x.1, a.eval x.2)) = (ps.toList.map fun p => (p.1, a.eval p.2)).toArray := by rw [← Array.toList_inj]; simp
  exact .inl ⟨u, w', c', by simp only [execOp]; rw [e]; simp [hu], hr⟩
 case nilCheck x =>
  have hx := hρ x (by simp)
  cases hxv : ρ x <;> rw [hxv] at hx hc <;> simp only [aG0] at hc ⊢ <;> (try exact hc.elim)
  ·obtain ⟨_, b, _, e⟩ := aB9 hx
   exact Did.of_value (v := a.eval x) hg (by simp [execOp, e]) hx
  ·obtain ⟨b, off, ds, e, _⟩ := aLL hx
   exact Did.of_value (v := a.eval x) hg (by simp [execOp, e]) hx
  ·have e : ∃ f l1 l2, a.eval x = .func (.func f) l1 l2 := by
    obtain ⟨h1, _, h3⟩ := hx
    have h3 := h3 rfl
    simp only [aH] at h1
    have h1 := h1.2.2
    cases hv : a.eval x <;> rw [hv] at h1 h3 <;> simp [Value.cells] at h1 h3
    obtain ⟨rfl, rfl, rfl⟩ := h1
    exact ⟨_, _, _, rfl⟩
   obtain ⟨f, l1, l2, e⟩ := e
   exact Did.of_value (v := a.eval x) hg (by simp [execOp, e]) hx
 case makeFunc fn first caps =>
  cases fn with
  | func f =>
   simp only at hc ⊢
   unfold aG2 at hc ⊢
   split at hc
   ·rename_i l1 l2 e1 e2
    obtain ⟨q1, q2⟩ := aHL hg e1 (vs := first.toList.map a.eval) (by simp) (aDK fun x hx => hρ x (by simp at hx; simp [hx]))
    obtain ⟨q3, q4⟩ := aHL hg e2 (vs := caps.toList.map a.eval) (by simp) (aDK fun x hx => hρ x (by simp at hx; simp [hx]))
    simp only [e1, e2]
    refine Did.of_value hg (v := .func (.func f) (l1.map c.hd).toArray (l2.map c.hd).toArray) ?_ (aXC q1 q3)
    have e3 : ∀ l : Array Operand, l.map a.eval = (l.toList.map a.eval).toArray := fun l => by rw [← Array.toList_inj]; simp
    rw [← q2, ← q4, ← e3, ← e3]
    simp [execOp, Instr.makeFunc]
   ·rename_i l1 e1 e2
    split at hc
    ·rename_i t y e4
     obtain ⟨q1, q2⟩ := aHL hg e1 (vs := first.toList.map a.eval) (by simp) (aDK fun x hx => hρ x (by simp at hx; simp [hx]))
     simp only [e1, e2, e4]
     have hl1 : l1 = [] := hc
     subst hl1
     have e5 := aUB e4 (vs := caps.toList.map a.eval) (by simp) (aDK fun x hx => hρ x (by simp at hx; simp [hx]))
     refine Did.of_value hg (v := .func (.func f) #[] (caps.toList.map a.eval).toArray) ?_ (aQ.ofV ?_)
     ·have e3 : ∀ l : Array Operand, l.map a.eval = (l.toList.map a.eval).toArray := fun l => by rw [← Array.toList_inj]; simp
      have e6 : first.map a.eval = #[] := by rw [e3, q2]; rfl
      rw [← e3]
      simp [execOp, Instr.makeFunc, e6]
     ·unfold cR
      rw [if_neg (by simp [Ty.isAgg])]
      exact ⟨_, rfl, e5⟩
    ·exact hc.elim
   ·exact hc.elim
  | _ => exact hc.elim
 case call cl =>
  obtain ⟨callee, args, argTypes⟩ := cl
  simp only at hc ⊢
  have hargs : ∀ x ∈ args.toList, aQ c w (ρ x) (a.eval x) := fun x hx => hρ x (by
   simp only [Call.operands]
   exact Array.mem_append.2 (.inr (by simpa using hx)))
  cases callee with
  | builtin b =>
   cases b <;> simp only [aHJ] at hc ⊢ <;> (try exact hc.elim)
   case len =>
    split at hc
    ·rename_i x t ex et
     obtain ⟨y, ey, rfl⟩ : ∃ y, args.toList = [y] ∧ ρ y = x := by
      match hl : args.toList, ex with
      | [y], ex => simp at ex; exact ⟨y, rfl, ex⟩
     have hy := hargs y (by rw [ey]; simp)
     obtain ⟨u, hu, hr⟩ := aXA (P := P) (ty := ty) hE.T hg hy hc
     have e1 : args = #[y] := by rw [← Array.toList_inj]; exact ey
     have e2 : argTypes = #[t] := by rw [← Array.toList_inj]; exact et
     exact Did.of_value hg (by rw [e1, e2]; simp [execOp, resolve, invoke, builtin, hu]) hr
    ·exact hc.elim
   case min =>
    unfold aUj at hc ⊢
    split at hc
    ·rename_i x y exy
     obtain ⟨p, q, epq, rfl, rfl⟩ : ∃ p q, args.toList = [p, q] ∧ ρ p = x ∧ ρ q = y := by
      match hl : args.toList, exy with
      | [p, q], ex => simp at ex; exact ⟨p, q, rfl, ex.1, ex.2⟩
     have hp := hargs p (by rw [epq]; simp)
     have hq := hargs q (by rw [epq]; simp)
     obtain ⟨u, hu, hr⟩ := aJi (P := P) hp hq hc
     have hu : (Builtin.min2 (a.eval p) (a.eval q)).run P w = .ok u w := hu
     have e1 : args = #[p, q] := by rw [← Array.toList_inj]; exact epq
     exact Did.of_value hg (by rw [e1]; simp [execOp, resolve, invoke, builtin, Builtin.min_, hu]) hr
    ·rename_i x y z exyz
     obtain ⟨p, q, r, epq, rfl, rfl, rfl⟩ : ∃ p q r, args.toList = [p, q, r] ∧ ρ p = x ∧ ρ q = y ∧ ρ r = z := by
      match hl : args.toList, exyz with
      | [p, q, r], ex => simp at ex; exact ⟨p, q, r, rfl, ex.1, ex.2.1, ex.2.2⟩
     have hp := hargs p (by rw [epq]; simp)
     have hq := hargs q (by rw [epq]; simp)
     have hr' := hargs r (by rw [epq]; simp)
     obtain ⟨u, hu, hr⟩ := aJi (P := P) hp hq hc.1
     obtain ⟨u2, hu2, hr2⟩ := aJi (P := P) hr hr' hc.2
     have hu : (Builtin.min2 (a.eval p) (a.eval q)).run P w = .ok u w := hu
     have hu2 : (Builtin.min2 u (a.eval r)).run P w = .ok u2 w := hu2
     have e1 : args = #[p, q, r] := by rw [← Array.toList_inj]; exact epq
     exact Did.of_value hg (by rw [e1]; simp [execOp, resolve, invoke, builtin, Builtin.min_, hu, hu2]) hr2
    ·exact hc.elim
   case max =>
    unfold aUj at hc ⊢
    split at hc
    ·rename_i x y exy
     obtain ⟨p, q, epq, rfl, rfl⟩ : ∃ p q, args.toList = [p, q] ∧ ρ p = x ∧ ρ q = y := by
      match hl : args.toList, exy with
      | [p, q], ex => simp at ex; exact ⟨p, q, rfl, ex.1, ex.2⟩
     have hp := hargs p (by rw [epq]; simp)
     have hq := hargs q (by rw [epq]; simp)
     obtain ⟨u, hu, hr⟩ := aJi (P := P) hp hq hc
     have hu : (Builtin.max2 (a.eval p) (a.eval q)).run P w = .ok u w := hu
     have e1 : args = #[p, q] := by rw [← Array.toList_inj]; exact epq
     exact Did.of_value hg (by rw [e1]; simp [execOp, resolve, invoke, builtin, Builtin.max_, hu]) hr
    ·rename_i x y z exyz
     obtain ⟨p, q, r, epq, rfl, rfl, rfl⟩ : ∃ p q r, args.toList = [p, q, r] ∧ ρ p = x ∧ ρ q = y ∧ ρ r = z := by
      match hl : args.toList, exyz with
      | [p, q, r], ex => simp at ex; exact ⟨p, q, r, rfl, ex.1, ex.2.1, ex.2.2⟩
     have hp := hargs p (by rw [epq]; simp)
     have hq := hargs q (by rw [epq]; simp)
     have hr' := hargs r (by rw [epq]; simp)
     obtain ⟨u, hu, hr⟩ := aJi (P := P) hp hq hc.1
     obtain ⟨u2, hu2, hr2⟩ := aJi (P := P) hr hr' hc.2
     have hu : (Builtin.max2 (a.eval p) (a.eval q)).run P w = .ok u w := hu
     have hu2 : (Builtin.max2 u (a.eval r)).run P w = .ok u2 w := hu2
     have e1 : args = #[p, q, r] := by rw [← Array.toList_inj]; exact epq
     exact Did.of_value hg (by rw [e1]; simp [execOp, resolve, invoke, builtin, Builtin.max_, hu, hu2]) hr2
    ·exact hc.elim
  | value f =>
   have hf := hρ f (by simp [Call.operands])
   simp only [aHJ] at hc ⊢
   have hav := aDK (ρ := ρ) (a := a) (c := c) (w := w) hargs
   split at hc
   ·rename_i g l2 e
    rw [e] at hf
    split at hc
    ·rename_i hb
     simp only [e, if_pos hb]
     obtain ⟨hl2, hfv⟩ := aSE hf
     exact aMf (f := f) hE hg hG (us := l2.map c.hd) (by simpa using hfv) (by simp) hav (aFb hg hb hl2) hc
    ·exact hc.elim
   ·rename_i g t y e
    rw [e] at hf
    split at hc
    ·rename_i hb
     simp only [e, if_pos hb]
     obtain ⟨us, hfv, hrep⟩ := aQw hf
     obtain ⟨h1, h2⟩ := aMe hb hrep
     exact aMf (f := f) hE hg hG (us := us) hfv h1 hav h2 hc
    ·exact hc.elim
   ·exact hc.elim
  | _ => exact hc.elim
end
end Go.Vc
namespace Go.Vc
open Go.RowKit
structure Ent where
 i : Nat
 d : Nat
 gp : List (Nat × Bool)
 av : AV
def tG : List Ent → Nat → Option Ent
 | [], _ => none
 | e :: r, j => if e.i = j then some e else tG r j
def aAv : List Ent → Nat → Option Ent
 | [], _ => none
 | e :: r, t => if e.d = t then some e else aAv r t
def aMh : AV → Bool
 | .val .bool b => b
 | _ => false
def aDb : AV → Bool
 | .val .bool _ => true
 | _ => false
def aBq (acc : List Ent) : Option (Nat × Bool) → List (Nat × Bool)
 | none => []
 | some (j, p) => match tG acc j with
  | some e => e.gp ++ [(j, p)]
  | none => [(j, p)]
def fX (acc : List Ent) : List (Nat × Bool) → Prop
 | [] => True
 | (j, p) :: r => (match tG acc j with | some e => aMh e.av = p | none => False) ∧ fX acc r
def aCa (acc : List Ent) : Option (Nat × Bool) → Prop
 | none => True
 | some (j, _) => match tG acc j with
  | some e => aDb e.av = true
  | none => False
def aHM : List (Nat × Bool) → List (Nat × Bool) → Bool
 | [], _ => true
 | _ :: _, [] => false
 | (j, p) :: r, (k, q) :: s => decide (j = k) && (p == q) && aHM r s
def aMi (G : Nat → AV) (acc : List Ent) (env : List (Nat × AV)) (gp : List (Nat × Bool)) : Operand → AV
 | .tmp t => match aAv acc t with
  | some e => if aHM e.gp gp = true then e.av else .junk
  | none => look env t
 | x => evA G env x
def aUC (G : Nat → AV) (acc : List Ent) (env : List (Nat × AV)) (gp : List (Nat × Bool)) (c a b : Operand) : Prop × AV :=
 match c with
 | .tmp t => match aAv acc t with
  | some e => match (if aHM e.gp gp = true then e.av else .junk), aMi G acc env (gp ++ [(e.i, true)]) a, aMi G acc env (gp ++ [(e.i, false)]) b with
   | .val .bool q, .val .bool x, .val .bool y => (True, .val .bool (bif q then x else y))
   | _, _, _ => (False, .junk)
  | none => (False, .junk)
 | _ => (False, .junk)
noncomputable def opA (E : Env) (h : List Obj) (env : List (Nat × AV)) (acc : List Ent) (o : Oper) : Prop × AV :=
 match o.op with
 | .pick c a b => aUC E.G acc env (aBq acc o.guard) c a b
 | _ => pv E h (aMi E.G acc env (aBq acc o.guard)) o
def vcA (E : Env) (h : List Obj) (env : List (Nat × AV)) : List Oper → Nat → List Ent → (List Ent → Prop) → Prop
 | [], _, acc, K => K acc
 | o :: r, i, acc, K => match o.dst, opA E h env acc o with
  | some d, (p, v) => aCa acc o.guard ∧ (fX acc (aBq acc o.guard) → p) ∧ vcA E h env r (i + 1) (⟨i, d, aBq acc o.guard, v⟩ :: acc) K
  | none, _ => False
def mA : List Ent → List (Nat × AV) → List (Nat × AV)
 | [], env => env
 | e :: r, env => (e.d, match e.gp with | [] => e.av | _ :: _ => .junk) :: mA r env
structure tD (E : Env) (h : List Obj) (env : List (Nat × AV)) (ops : List Oper) (F : Nat → List Ent) : Prop where
 zero : F 0 = []
 step : ∀ i o, ops[i]? = some o → ∃ d, o.dst = some d ∧ aCa (F i) o.guard ∧ (fX (F i) (aBq (F i) o.guard) → (opA E h env (F i) o).1) ∧ F (i + 1) = ⟨i, d, aBq (F i) o.guard, (opA E h env (F i) o).2⟩ :: F i
theorem aDL {E : Env} {h : List Obj} {env : List (Nat × AV)} : ∀ (l : List Oper) (i : Nat) (acc : List Ent) (K : List Ent → Prop), vcA E h env l i acc K →
  ∃ F : Nat → List Ent, F i = acc ∧ (∀ k o, l[k]? = some o → ∃ d, o.dst = some d ∧ aCa (F (i + k)) o.guard ∧ (fX (F (i + k)) (aBq (F (i + k)) o.guard) → (opA E h env (F (i + k)) o).1) ∧ F (i + k + 1) = ⟨i + k, d, aBq (F (i + k)) o.guard, (opA E h env (F (i + k)) o).2⟩ :: F (i + k)) ∧ K (F (i + l.length))
 | [], i, acc, K, hv => ⟨fun _ => acc, rfl, fun k o ho => by simp at ho, hv⟩
 | o :: r, i, acc, K, hv => by
  simp only [vcA] at hv
  split at hv
  ·rename_i d p v hd hpv
   obtain ⟨h1, h2, h3⟩ := hv
   obtain ⟨F, f1, f2, f3⟩ := aDL r (i + 1) _ K h3
   refine ⟨fun j => if j ≤ i then acc else F j, by simp, fun k o' ho' => ?_, ?_⟩
   ·cases k with
    | zero =>
     simp at ho'
     subst ho'
     refine ⟨d, hd, by simpa using h1, ?_, ?_⟩
     ·simp only [Nat.add_zero, Nat.le_refl, if_true]
      rw [hpv]; exact h2
     ·simp only [Nat.add_zero, Nat.le_refl, if_true, show ¬ (i + 1 ≤ i) from by omega, if_false]
      rw [f1, hpv]
    | succ k =>
     simp only [List.getElem?_cons_succ] at ho'
     obtain ⟨d', q1, q2, q3, q4⟩ := f2 k o' ho'
     have e1 : ¬ (i + (k + 1) ≤ i) := by omega
     have e2 : ¬ (i + (k + 1) + 1 ≤ i) := by omega
     have e3 : i + (k + 1) = i + 1 + k := by omega
     simp only [e1, e2, if_false]
     rw [e3]
     exact ⟨d', q1, q2, q3, q4⟩
   ·have e1 : ¬ (i + (o :: r).length ≤ i) := by simp
    simp only [e1, if_false]
    rw [show i + (o :: r).length = i + 1 + r.length from by simp; omega]
    exact f3
  ·exact hv.elim
section
variable {E : Env} {h : List Obj} {env : List (Nat × AV)} {ops : List Oper} {F : Nat → List Ent}
theorem jY (hF : tD E h env ops F) : ∀ (i : Nat), i ≤ ops.length → ∀ j, (j < i → ∃ o d, ops[j]? = some o ∧ o.dst = some d ∧ tG (F i) j = some ⟨j, d, aBq (F j) o.guard, (opA E h env (F j) o).2⟩) ∧ (i ≤ j → tG (F i) j = none)
 | 0, _, j => ⟨fun h => absurd h (Nat.not_lt_zero j), fun _ => by rw [hF.zero]; rfl⟩
 | i + 1, hi, j => by
  have ho : ops[i]? = some ops[i] := List.getElem?_eq_getElem (by omega)
  obtain ⟨d, h1, h2, h3, h4⟩ := hF.step i _ ho
  obtain ⟨q1, q2⟩ := jY hF i (by omega) j
  rw [h4]
  refine ⟨fun hj => ?_, fun hj => ?_⟩
  ·by_cases e : j = i
   ·subst e
    exact ⟨_, d, ho, h1, by simp [tG]⟩
   ·obtain ⟨o, d', k1, k2, k3⟩ := q1 (by omega)
    exact ⟨o, d', k1, k2, by rw [tG, if_neg (fun e' => e e'.symm)]; exact k3⟩
  ·rw [tG, if_neg (by intro e; simp only at e; omega)]
   exact q2 (by omega)
theorem aDM (hF : tD E h env ops F) : ∀ (i : Nat), i ≤ ops.length → ∀ t e, aAv (F i) t = some e → e.i < i ∧ e.d = t ∧ tG (F i) e.i = some e ∧ ∃ o, ops[e.i]? = some o ∧ o.dst = some t
 | 0, _, t, e, he => by rw [hF.zero] at he; cases he
 | i + 1, hi, t, e, he => by
  have ho : ops[i]? = some ops[i] := List.getElem?_eq_getElem (by omega)
  obtain ⟨d, h1, h2, h3, h4⟩ := hF.step i _ ho
  rw [h4] at he ⊢
  simp only [aAv] at he
  split at he
  ·rename_i hd
   cases he
   subst hd
   exact ⟨Nat.lt_succ_self _, rfl, by simp [tG], _, ho, h1⟩
  ·obtain ⟨k1, k2, k3, k4⟩ := aDM hF i (by omega) t e he
   exact ⟨by omega, k2, by rw [tG, if_neg (by intro e'; simp only at e'; omega)]; exact k3, k4⟩
theorem aG3 (hF : tD E h env ops F) : ∀ (i : Nat), i ≤ ops.length → ∀ t, aAv (F i) t = none → ∀ k o, k < i → ops[k]? = some o → o.dst ≠ some t
 | 0, _, t, _, k, o, hk, _ => absurd hk (Nat.not_lt_zero k)
 | i + 1, hi, t, he, k, o, hk, hko => by
  have ho : ops[i]? = some ops[i] := List.getElem?_eq_getElem (by omega)
  obtain ⟨d, h1, h2, h3, h4⟩ := hF.step i _ ho
  rw [h4] at he
  simp only [aAv] at he
  split at he
  ·cases he
  ·rename_i hd
   by_cases e : k = i
   ·subst e
    rw [ho] at hko
    cases hko
    rw [h1]
    intro e
    cases e
    exact hd rfl
   ·exact aG3 hF i (by omega) t he k o (by omega) hko
theorem zR (hF : tD E h env ops F) {i j k : Nat} {e : Ent} (hi : i ≤ ops.length) (hk : k ≤ ops.length) (hik : i ≤ k) (he : tG (F i) j = some e) : tG (F k) j = some e := by
 have hj : j < i := by
  rcases Nat.lt_or_ge j i with h | h
  ·exact h
  ·rw [(jY hF i hi j).2 h] at he; cases he
 obtain ⟨o, d, h1, h2, h3⟩ := (jY hF i hi j).1 hj
 obtain ⟨o', d', h1', h2', h3'⟩ := (jY hF k hk j).1 (by omega)
 rw [h1] at h1'
 cases h1'
 rw [h2] at h2'
 cases h2'
 rw [h3] at he
 rw [h3', ← he]
def aK0 (F : List Ent) : List (Nat × Bool) → Prop
 | [] => True
 | (j, _) :: r => (∃ e, tG F j = some e ∧ aDb e.av = true) ∧ aK0 F r
theorem aEo (hF : tD E h env ops F) {i k : Nat} (hi : i ≤ ops.length) (hk : k ≤ ops.length) (hik : i ≤ k) : ∀ {gp : List (Nat × Bool)}, aK0 (F i) gp → fX (F k) gp → fX (F i) gp
 | [], _, _ => trivial
 | (j, p) :: r, hin, hg => by
  simp only [fX, aK0] at hg hin ⊢
  obtain ⟨⟨e, he, _⟩, hin⟩ := hin
  refine ⟨?_, aEo hF hi hk hik hin hg.2⟩
  rw [zR hF hi hk hik he] at hg
  rw [he]; exact hg.1
theorem aBr {F : List Ent} : ∀ {g1 g2 : List (Nat × Bool)}, fX F (g1 ++ g2) ↔ fX F g1 ∧ fX F g2
 | [], g2 => by simp [fX]
 | (j, p) :: r, g2 => by simp only [List.cons_append, fX, aBr (g1 := r), and_assoc]
theorem aKf {F : List Ent} : ∀ {g1 g2 : List (Nat × Bool)}, aK0 F (g1 ++ g2) ↔ aK0 F g1 ∧ aK0 F g2
 | [], g2 => by simp [aK0]
 | (j, p) :: r, g2 => by simp only [List.cons_append, aK0, aKf (g1 := r), and_assoc]
theorem aMj (hF : tD E h env ops F) {i k : Nat} (hi : i ≤ ops.length) (hk : k ≤ ops.length) (hik : i ≤ k) : ∀ {gp : List (Nat × Bool)}, aK0 (F i) gp → aK0 (F k) gp
 | [], _ => trivial
 | (j, p) :: r, hg => by
  simp only [aK0] at hg ⊢
  obtain ⟨⟨e, he, hb⟩, hr⟩ := hg
  exact ⟨⟨e, zR hF hi hk hik he, hb⟩, aMj hF hi hk hik hr⟩
theorem aWl (hF : tD E h env ops F) : ∀ (i : Nat) {o : Oper}, ops[i]? = some o → aK0 (F i) (aBq (F i) o.guard) := by
 intro i
 induction i using Nat.strongRecOn with
 | _ i ih =>
  intro o ho
  have hi : i < ops.length := by
   rcases Nat.lt_or_ge i ops.length with h | h
   ·exact h
   ·rw [List.getElem?_eq_none h] at ho; cases ho
  obtain ⟨d, h1, h2, h3, h4⟩ := hF.step i o ho
  cases hg : o.guard with
  | none => trivial
  | some jp =>
   obtain ⟨j, p⟩ := jp
   rw [hg] at h2
   simp only [aCa] at h2
   simp only [aBq]
   cases he : tG (F i) j with
   | none => rw [he] at h2; exact h2.elim
   | some e =>
    rw [he] at h2
    have hji : j < i := by
     rcases Nat.lt_or_ge j i with h | h
     ·exact h
     ·rw [(jY hF i (by omega) j).2 h] at he; cases he
    obtain ⟨o', d', k1, k2, k3⟩ := (jY hF i (by omega) j).1 hji
    rw [k3] at he
    cases he
    rw [aKf]
    exact ⟨aMj hF (by omega) (by omega) (by omega) (ih j hji k1), ⟨_, k3, h2⟩, trivial⟩
theorem aFc {F : List Ent} : ∀ {g1 g2 : List (Nat × Bool)}, aHM g1 g2 = true → fX F g2 → fX F g1
 | [], _, _, _ => trivial
 | (j, p) :: r, [], hp, _ => by simp [aHM] at hp
 | (j, p) :: r, (k, q) :: s, hp, hg => by
  simp only [aHM, Bool.and_eq_true, decide_eq_true_eq, beq_iff_eq] at hp
  obtain ⟨⟨rfl, rfl⟩, hp⟩ := hp
  simp only [fX] at hg ⊢
  exact ⟨hg.1, aFc hp hg.2⟩
end
end Go.Vc
namespace Go.Vc
open Go.RowKit
structure Sim (E : Env) (M : Perm) (w0 : World) (nt : Nat) (ds : List Deferred) (c : Ctx) (env : List (Nat × AV)) (h : List Obj) (a : Act) (w : World) : Prop where
 good : Good M w0 c h w
 glob : oW E.G c.S w
 env : aEI c w env a.tmps
 size : a.tmps.size = nt
 defers : a.defers = ds
def fG (nt : Nat) (o : Oper) : Bool :=
 o.op.operands.all lG && (match o.dst with | some d => decide (d < nt) | none => true)
section
variable {P : Program} {E : Env} {M : Perm} {w0 : World} {nt : Nat} {ds : List Deferred} {h : List Obj} {env : List (Nat × AV)} {ops : List Oper} {F : Nat → List Ent} {Q : Exit → Act → World → Prop}
theorem Did.wp {c : Ctx} {o : Oper} {a : Act} {w : World} {av : AV} {next : Act → World → Prop} (hd : Did P M w0 h c o a w av) (hn : ∀ v w' c', aE5 P M w0 h c w av v w' c' → next (a.put o.dst v) w') : o.wp P a w next Q := by
 rcases hd with ⟨v, w', c', hr, ha⟩ | ⟨f, args, hr, hc⟩
 ·unfold Oper.wp; rw [hr]; exact hn v w' c' ha
 ·unfold Oper.wp
  rw [hr]
  refine Calls.mono hc ?_
  rintro e w' ⟨v, c', rfl, ha⟩
  exact hn v w' c' ha
theorem Did.wp' {c : Ctx} {o : Oper} {a : Act} {w : World} {av : AV} {next : Act → World → Prop} (hd : Did P M w0 h c o a w av) (hn : ∀ v w' c', aE5 P M w0 h c w av v w' c' → ((execOp a.eval o).run P w = .ok (.value v) w' ∨ ∃ f args, (execOp a.eval o).run P w = .ok (.enter f args) w) → next (a.put o.dst v) w') : o.wp P a w next Q := by
 rcases hd with ⟨v, w', c', hr, ha⟩ | ⟨f, args, hr, hc⟩
 ·have := hn v w' c' ha (.inl hr)
  unfold Oper.wp; rw [hr]; exact this
 ·have hn' := fun v w' c' ha => hn v w' c' ha (.inr ⟨f, args, hr⟩)
  unfold Oper.wp
  rw [hr]
  refine Calls.mono hc ?_
  rintro e w' ⟨v, c', rfl, ha⟩
  exact hn' v w' c' ha
structure aXg (T : Tab) (o : Oper) (a : Act) (c' : Ctx) (w' : World) (c'' : Ctx) (a'' : Act) (w'' : World) : Prop where
 keeps : fJ nothing w' w''
 new : ∀ b, c''.S b → c'.S b ∨ w'.heap.size ≤ b
 put : ∃ v, a'' = a.put o.dst v ∧ ∀ t, o.op = .alloc t → o.guard = none → ∃ ct, T t = some ct ∧ v = .pointer (some ⟨w'.heap.size, 0, none⟩) ∧ w'' = w'.alloc (.cells (jO ct).cells t (0, 0)) ∧ c'' = c'
structure Mid (E : Env) (M : Perm) (w0 : World) (nt : Nat) (ds : List Deferred) (h : List Obj) (env : List (Nat × AV)) (ops : List Oper) (F : Nat → List Ent) (c : Ctx) (w : World) (listed : Nat → Prop) (c' : Ctx) (a : Act) (w' : World) : Prop where
 later : dE c w c' w'
 n : c'.n = c.n ∧ c'.bl = c.bl
 good : Good M w0 c' h w'
 size : a.tmps.size = nt
 defers : a.defers = ds
 base : ∀ t, (∀ k o, listed k → ops[k]? = some o → o.dst ≠ some t) → aQ c' w' (look env t) (a.tmps.getD t Go.undef)
 ent : ∀ i e, listed i → tG (F ops.length) i = some e → (fX (F ops.length) e.gp → aQ c' w' e.av (a.tmps.getD e.d Go.undef)) ∧ (¬ fX (F ops.length) e.gp → a.tmps.getD e.d Go.undef = Go.undef)
theorem aSF {a : Act} {d t : Nat} {v : Value} (hd : d < a.tmps.size) : (a.put (some d) v).tmps.getD t Go.undef = if d = t then v else a.tmps.getD t Go.undef := by
 simp only [Act.put]
 by_cases e : d = t
 ·subst e; simp [hd]
 ·rw [if_neg e]; simp [Array.getElem?_setIfInBounds_ne e]
theorem aSG (hF : tD E h env ops F) {c c' c'' : Ctx} {w w' w'' : World} {listed : Nat → Prop} {a : Act} (hm : Mid E M w0 nt ds h env ops F c w listed c' a w') {i : Nat} {o : Oper} (ho : ops[i]? = some o) {d : Nat} (hd : o.dst = some d) (hdn : d < nt)
  (huniq : ∀ k ok, ops[k]? = some ok → ok.dst = some d → k = i) (hni : ¬ listed i) (hl : dE c' w' c'' w'') (hn : c''.n = c'.n ∧ c''.bl = c'.bl) (hg : Good M w0 c'' h w'') {v : Value}
  (hv : ∀ e, tG (F ops.length) i = some e → (fX (F ops.length) e.gp → aQ c'' w'' e.av v) ∧ (¬ fX (F ops.length) e.gp → v = Go.undef)) :
  Mid E M w0 nt ds h env ops F c w (fun k => listed k ∨ k = i) c'' (a.put o.dst v) w'' := by
 have hds : d < a.tmps.size := by rw [hm.size]; exact hdn
 rw [hd]
 refine ⟨hm.later.trans hl, ⟨hn.1.trans hm.n.1, hn.2.trans hm.n.2⟩, hg, by simp [Act.put, hm.size], hm.defers, fun t ht => ?_, fun k e hk he => ?_⟩
 ·rw [aSF hds]
  have hne : d ≠ t := fun e => ht i o (.inr rfl) ho (by rw [hd, e])
  rw [if_neg hne]
  exact hl.val (hm.base t fun k ok hk hko => ht k ok (.inl hk) hko)
 ·have hkl : k < ops.length := by
   rcases Nat.lt_or_ge k ops.length with h | h
   ·exact h
   ·rw [(jY hF ops.length (Nat.le_refl _) k).2 h] at he; cases he
  obtain ⟨ok, dk, k1, k2, k3⟩ := (jY hF ops.length (Nat.le_refl _) k).1 hkl
  have hed : e.d = dk := by rw [k3] at he; cases he; rfl
  rw [aSF hds]
  by_cases hki : k = i
  ·subst hki
   rw [ho] at k1
   cases k1
   rw [hd] at k2
   cases k2
   rw [hed, if_pos rfl]
   exact hv e he
  ·have hne : d ≠ e.d := fun e' => hki (huniq k ok k1 (by rw [k2, ← hed, ← e']))
   rw [if_neg hne]
   have hk' : listed k := by
    rcases hk with hk | hk
    ·exact hk
    ·exact absurd hk hki
   exact ⟨fun hgp => hl.val ((hm.ent k e hk' he).1 hgp), fun hgp => (hm.ent k e hk' he).2 hgp⟩
theorem aWm {c : Ctx} {w : World} {v : AV} {x : Value} (hb : aDb v = true) (hv : aQ c w v x) : x = .bool (aMh v) := by
 cases v with
 | val t y =>
  cases t <;> simp [aDb] at hb
  exact aC6 hv
 | _ => simp [aDb] at hb
theorem aMk (hE : fU P E) (hF : tD E h env ops F) (hok : ∀ o ∈ ops, fG nt o = true) {c c' : Ctx} {w w' : World} (hglob : oW E.G c.S w) {listed : Nat → Prop} {a : Act} (hm : Mid E M w0 nt ds h env ops F c w listed c' a w') {i : Nat} {o : Oper} (ho : ops[i]? = some o)
  (hni : ¬ listed i) (hop : ∀ t, Operand.tmp t ∈ o.op.operands → ∀ k ok, ops[k]? = some ok → ok.dst = some t → (k < i → listed k) ∧ (i < k → ¬ listed k)) (hgd : ∀ j p, o.guard = some (j, p) → listed j)
  (huniq : ∀ k ok, ops[k]? = some ok → ok.dst = o.dst → k = i) {K : Act → World → Prop} (hK : ∀ c'' a'' w'', Mid E M w0 nt ds h env ops F c w (fun k => listed k ∨ k = i) c'' a'' w'' → aXg E.T o a c' w' c'' a'' w'' → K a'' w'') : wpOp P ops.toArray Q i K a w' := by
 have hil : i < ops.length := by
  rcases Nat.lt_or_ge i ops.length with h | h
  ·exact h
  ·rw [List.getElem?_eq_none h] at ho; cases ho
 have hokO := hok o (List.mem_of_getElem? ho)
 simp only [fG, Bool.and_eq_true] at hokO
 obtain ⟨d, s1, s2, s3, s4⟩ := hF.step i o ho
 have hdn : d < nt := by have := hokO.2; rw [s1] at this; simpa using this
 obtain ⟨o', d', k1, k2, k3⟩ := (jY hF ops.length (Nat.le_refl _) i).1 hil
 rw [ho] at k1; cases k1
 rw [s1] at k2; cases k2
 have hu : ∀ k ok, ops[k]? = some ok → ok.dst = some d → k = i := fun k ok h1 h2 => huniq k ok h1 (by rw [h2, s1])
 have hglob' : oW E.G c'.S w' := hglob.mono hm.later.le.S hm.later.same
 have hin := aWl hF i ho
 have hwant : Region.wanted o (yielded ops.toArray a.tmps) = true ↔ fX (F ops.length) (aBq (F i) o.guard) := by
  cases hgo : o.guard with
  | none => simp [Region.wanted, hgo, aBq, fX]
  | some jp =>
   obtain ⟨j, p⟩ := jp
   have hjl := hgd j p hgo
   rw [hgo] at s2 hin
   simp only [aCa] at s2
   cases he : tG (F i) j with
   | none => rw [he] at s2; exact s2.elim
   | some e =>
    rw [he] at s2
    have heF := zR hF (by omega) (Nat.le_refl _) (by omega) he
    have hji : j < i := by
     rcases Nat.lt_or_ge j i with h | h
     ·exact h
     ·rw [(jY hF i (by omega) j).2 h] at he; cases he
    obtain ⟨oj, dj, j1, j2, j3⟩ := (jY hF i (by omega) j).1 hji
    rw [j3] at he
    cases he
    have hokJ := hok oj (List.mem_of_getElem? j1)
    simp only [fG, Bool.and_eq_true, j2, decide_eq_true_eq] at hokJ
    have hdj : dj < a.tmps.size := by rw [hm.size]; exact hokJ.2
    have hy : ∀ v, a.tmps.getD dj Go.undef = v → yielded ops.toArray a.tmps j = (match v with | .bool b => some b | _ => none) := by
     intro v hv
     have h1 : a.tmps[dj]? = some v := by
      rw [Array.getElem?_eq_getElem hdj]
      have : a.tmps[dj] = v := by simpa [hdj] using hv
      rw [this]
     simp only [yielded, List.getElem?_toArray, j1, Option.bind_some, j2, h1]
     cases v <;> rfl
    have hent := hm.ent j _ hjl heF
    have hgpe : aBq (F i) (some (j, p)) = aBq (F j) oj.guard ++ [(j, p)] := by
     show (match tG (F i) j with | some e => e.gp ++ [(j, p)] | none => [(j, p)]) = _
     rw [j3]
    simp only [Region.wanted, hgo]
    rw [hgpe, aBr]
    by_cases hgp : fX (F ops.length) (aBq (F j) oj.guard)
    ·have hb := aWm s2 (hent.1 hgp)
     rw [hy _ hb]
     have hone : fX (F ops.length) [(j, p)] ↔ aMh (opA E h env (F j) oj).2 = p := by simp only [fX, heF, and_true]
     rw [hone]
     simp [hgp]
    ·have hb := hent.2 hgp
     rw [hy _ hb]
     simp [Go.undef, hgp]
 unfold wpOp
 simp only [List.getElem?_toArray, ho]
 by_cases hw : Region.wanted o (yielded ops.toArray a.tmps) = true
 ·rw [if_pos hw]
  left
  have hgp := hwant.1 hw
  have hgpi := aEo hF (by omega) (Nat.le_refl _) (by omega) hin hgp
  have hcond := s3 hgpi
  have hlook : ∀ gp, fX (F ops.length) gp → ∀ x, lG x = true → x ∈ o.op.operands → aQ c' w' (aMi E.G (F i) env gp x) (a.eval x) := by
   intro gp hgp x hx hxo
   cases x with
   | tmp t =>
    simp only [aMi]
    cases he : aAv (F i) t with
    | none =>
     refine hm.base t fun k ok hk hko hdk => ?_
     rcases Nat.lt_trichotomy k i with hlt | heq | hgt
     ·exact aG3 hF i (by omega) t he k ok hlt hko hdk
     ·subst heq; exact hni hk
     ·exact (hop t hxo k ok hko hdk).2 hgt hk
    | some e =>
     simp only
     split
     ·rename_i hp
      obtain ⟨e1, e2, e3, oe, e4, e5⟩ := aDM hF i (by omega) t e he
      have hle := (hop t hxo e.i oe e4 e5).1 e1
      have := (hm.ent e.i e hle (zR hF (by omega) (Nat.le_refl _) (by omega) e3)).1 (aFc hp hgp)
      rw [e2] at this
      exact this
     ·trivial
   | const v => exact aBp (env := []) (a := a) (c := c') (w := w') (G := E.G) (fun t => trivial) hglob' hx
   | global g => exact aBp (env := []) (a := a) (c := c') (w := w') (G := E.G) (fun t => trivial) hglob' hx
   | func f => exact aBp (env := []) (a := a) (c := c') (w := w') (G := E.G) (fun t => trivial) hglob' hx
  have hall : ∀ x ∈ o.op.operands, lG x = true := Array.all_eq_true_iff_forall_mem.1 hokO.1
  have hdid : Did P M w0 h c' o a w' (opA E h env (F i) o).2 := by
   by_cases hpk : ∃ p q r, o.op = .pick p q r
   ·obtain ⟨p, q, r, hpk⟩ := hpk
    simp only [opA, hpk] at hcond ⊢
    unfold aUC at hcond ⊢
    cases p with
    | tmp t =>
     simp only at hcond ⊢
     cases he : aAv (F i) t with
     | none => simp [he] at hcond
     | some e =>
      simp only [he] at hcond ⊢
      split at hcond
      ·rename_i qb xb yb h1 h2 h3
       have hp : aHM e.gp (aBq (F i) o.guard) = true := by
        by_cases hp : aHM e.gp (aBq (F i) o.guard) = true
        ·exact hp
        ·rw [if_neg hp] at h1; cases h1
       rw [if_pos hp] at h1
       obtain ⟨e1, e2, e3, oe, e4, e5⟩ := aDM hF i (by omega) t e he
       have e3F := zR hF (by omega) (Nat.le_refl _) (by omega) e3
       have hle := (hop t (by rw [hpk]; simp [Op.operands]) e.i oe e4 e5).1 e1
       have hc := (hm.ent e.i e hle e3F).1 (aFc hp hgp)
       rw [e2, h1] at hc
       have hcv := aC6 hc
       simp only [h1, if_pos hp, h2, h3]
       have hcb : aMh e.av = qb := by rw [h1]; rfl
       have hq : ∀ pol, qb = pol → fX (F ops.length) (aBq (F i) o.guard ++ [(e.i, pol)]) := fun pol hpol => by
        rw [aBr]
        refine ⟨hgp, ?_, trivial⟩
        rw [e3F]
        simp only
        rw [hcb, hpol]
       cases qb with
       | true =>
        have hx := hlook _ (hq true rfl) q (hall q (by rw [hpk]; simp [Op.operands])) (by rw [hpk]; simp [Op.operands])
        rw [h2] at hx
        refine Did.of_value (v := a.eval q) hm.good ?_ hx
        have : a.eval (.tmp t) = .bool true := hcv
        simp [execOp, hpk, this, asBool]
       | false =>
        have hx := hlook _ (hq false rfl) r (hall r (by rw [hpk]; simp [Op.operands])) (by rw [hpk]; simp [Op.operands])
        rw [h3] at hx
        refine Did.of_value (v := a.eval r) hm.good ?_ hx
        have : a.eval (.tmp t) = .bool false := hcv
        simp [execOp, hpk, this, asBool]
      ·exact hcond.elim
    | _ => exact hcond.elim
   ·have e : opA E h env (F i) o = pv E h (aMi E.G (F i) env (aBq (F i) o.guard)) o := by
     unfold opA
     split
     ·rename_i p q r hpq; exact absurd ⟨p, q, r, hpq⟩ hpk
     ·rfl
    rw [e] at hcond ⊢
    exact aXf hE hm.good hglob' (fun x hx => hlook _ hgp x (hall x hx) hx) hcond
  have hput : ∀ v w'' c'', aE5 P M w0 h c' w' (opA E h env (F i) o).2 v w'' c'' → Mid E M w0 nt ds h env ops F c w (fun k => listed k ∨ k = i) c'' (a.put o.dst v) w'' := fun v w'' c'' ha => by
   refine aSG hF hm ho s1 hdn hu hni ha.later ha.n ha.good fun e he => ?_
   rw [k3] at he
   cases he
   exact ⟨fun _ => ha.val, fun hn => absurd hgp hn⟩
  by_cases hal : ∃ t, o.op = .alloc t
  ·obtain ⟨t, ht⟩ := hal
   simp only [opA, pv, ht] at hcond
   split at hcond
   ·rename_i ct hT
    have hrun := aOP (w := w') hE.T hT hcond (o := o) (a := a) ht
    have hav : (opA E h env (F i) o).2 = .junk := by simp only [opA, pv, ht, hT]
    have ha : aE5 P M w0 h c' w' (opA E h env (F i) o).2 _ _ c' := hav ▸ aKe (P := P) (ob := .cells (jO ct).cells t (0, 0)) hm.good
    unfold Oper.wp
    rw [hrun]
    refine hK c' _ _ (hput _ _ _ ha) ⟨ha.keeps, ha.new, _, rfl, fun t' ht' _ => ?_⟩
    rw [ht] at ht'
    cases ht'
    exact ⟨ct, hT, rfl, rfl, rfl⟩
   ·exact hcond.elim
  ·exact Did.wp' hdid fun v w'' c'' ha _ => hK c'' _ w'' (hput v w'' c'' ha) ⟨ha.keeps, ha.new, v, rfl, fun t ht => absurd ⟨t, ht⟩ hal⟩
 ·rw [if_neg hw]
  refine hK c' _ w' ?_ ⟨.refl _ _, fun b hb => .inl hb, Go.undef, rfl, fun t ht hgn => absurd (by simp [Region.wanted, hgn]) hw⟩
  refine aSG hF hm ho s1 hdn hu hni (.refl _ _) ⟨rfl, rfl⟩ hm.good fun e he => ?_
  rw [k3] at he
  cases he
  exact ⟨fun hgp => absurd (hwant.2 hgp) hw, fun _ => rfl⟩
end
end Go.Vc
namespace Go.Vc
open Go.RowKit
theorem aFd : ∀ (acc : List Ent) (env : List (Nat × AV)) (t : Nat), look (mA acc env) t = match aAv acc t with | some e => (match e.gp with | [] => e.av | _ :: _ => .junk) | none => look env t
 | [], env, t => rfl
 | e :: r, env, t => by
  simp only [mA, look, aAv]
  split
  ·rfl
  ·exact aFd r env t
def aCb (ops : List Oper) : Bool :=
 (List.range ops.length).all fun i => (List.range ops.length).all fun k => decide (i = k) || (match ops[i]?, ops[k]? with | some o, some ok => decide (o.dst ≠ ok.dst) || o.dst.isNone | _, _ => true)
def aMl (ops : List Oper) : Bool :=
 (List.range ops.length).all fun i => match ops[i]? with
  | none => true
  | some o =>
   (o.after.toList.all fun e => !Region.binds .any e || decide (e.on < i)) &&
   (match o.guard with | none => true | some (j, _) => o.after.toList.any fun e => Region.binds .any e && decide (e.on = j)) &&
   (o.op.operands.toList.all fun x => match x with
    | .tmp t => (List.range ops.length).all fun k => match ops[k]? with
     | none => true
     | some ok => decide (ok.dst ≠ some t) || decide (k = i) || (decide (k < i) && o.after.toList.any fun e => Region.binds .any e && decide (e.on = k)) || (decide (i < k) && ok.after.toList.any fun e => Region.binds .any e && decide (e.on = i))
    | _ => true)
theorem aLN {ops : List Oper} (h : aCb ops = true) {i k : Nat} {o ok : Oper} (ho : ops[i]? = some o) (hk : ops[k]? = some ok) (hd : ok.dst = o.dst) (hs : o.dst ≠ none) : k = i := by
 simp only [aCb, List.all_eq_true, List.mem_range] at h
 have hi : i < ops.length := by
  rcases Nat.lt_or_ge i ops.length with h | h
  ·exact h
  ·rw [List.getElem?_eq_none h] at ho; cases ho
 have hk' : k < ops.length := by
  rcases Nat.lt_or_ge k ops.length with h | h
  ·exact h
  ·rw [List.getElem?_eq_none h] at hk; cases hk
 have := h i hi k hk'
 simp only [ho, hk, Bool.or_eq_true, decide_eq_true_eq] at this
 rcases this with h | h | h
 ·exact h.symm
 ·exact absurd hd.symm h
 ·cases hdd : o.dst with
  | none => exact absurd hdd hs
  | some d => rw [hdd] at h; cases h
section
variable {P : Program} {E : Env} {M : Perm} {w0 : World} {nt : Nat} {ds : List Deferred} {h : List Obj} {env : List (Nat × AV)} {ops : List Oper} {F : Nat → List Ent} {Q : Exit → Act → World → Prop}
theorem zS {c c' : Ctx} {w w' : World} {l1 l2 : Nat → Prop} (he : ∀ k, k < ops.length → (l1 k ↔ l2 k)) (hF : tD E h env ops F) {a : Act} (hm : Mid E M w0 nt ds h env ops F c w l1 c' a w') : Mid E M w0 nt ds h env ops F c w l2 c' a w' := by
 have hlt : ∀ k o, ops[k]? = some o → k < ops.length := fun k o ho => by
  rcases Nat.lt_or_ge k ops.length with h | h
  ·exact h
  ·rw [List.getElem?_eq_none h] at ho; cases ho
 refine ⟨hm.later, hm.n, hm.good, hm.size, hm.defers, fun t ht => hm.base t fun k o hk ho => ht k o ((he k (hlt k o ho)).1 hk) ho, fun i e hi hie => ?_⟩
 have hil : i < ops.length := by
  rcases Nat.lt_or_ge i ops.length with h | h
  ·exact h
  ·rw [(jY hF ops.length (Nat.le_refl _) i).2 h] at hie; cases hie
 exact hm.ent i e ((he i hil).2 hi) hie
theorem aJl {c : Ctx} {a : Act} {w : World} (hs : Sim E M w0 nt ds c env h a w) : Mid E M w0 nt ds h env ops F c w (fun _ => False) c a w :=
 ⟨.refl _ _, ⟨rfl, rfl⟩, hs.good, hs.size, hs.defers, fun t _ => hs.env t, fun i e hi => hi.elim⟩
theorem aPp (hF : tD E h env ops F) {c c' : Ctx} {a : Act} {w w' : World} (hg : oW E.G c.S w) (hm : Mid E M w0 nt ds h env ops F c w (fun k => k < ops.length) c' a w') : Sim E M w0 nt ds c' (mA (F ops.length) env) h a w' := by
 refine ⟨hm.good, hg.mono hm.later.le.S hm.later.same, fun t => ?_, hm.size, hm.defers⟩
 rw [aFd]
 cases he : aAv (F ops.length) t with
 | none => exact hm.base t fun k o hk ho => aG3 hF _ (Nat.le_refl _) t he k o hk ho
 | some e =>
  obtain ⟨e1, e2, e3, _⟩ := aDM hF _ (Nat.le_refl _) t e he
  simp only
  split
  ·rename_i hgp
   have := (hm.ent e.i e e1 e3).1 (by rw [hgp]; trivial)
   rw [e2] at this
   exact this
  ·trivial
theorem aHN (hE : fU P E) (hF : tD E h env ops F) (hok : ∀ o ∈ ops, fG nt o = true) (hu : aCb ops = true) {c : Ctx} {w : World} (hglob : oW E.G c.S w)
  (hQ : ∀ c' a' w', Mid E M w0 nt ds h env ops F c w (fun k => k < ops.length) c' a' w' → Q .normal a' w') : ∀ (m i : Nat), i + m = ops.length → ∀ (c' : Ctx) (a : Act) (w' : World), Mid E M w0 nt ds h env ops F c w (fun k => k < i) c' a w' → wpOps P ops.toArray Q (List.range' i m) a w'
 | 0, i, hi, c', a, w', hm => by
  simp only [List.range'_zero, wpOps]
  have : i = ops.length := by omega
  subst this
  exact hQ c' a w' hm
 | m + 1, i, hi, c', a, w', hm => by
  rw [List.range'_succ, wpOps_cons]
  have ho : ops[i]? = some ops[i] := List.getElem?_eq_getElem (by omega)
  obtain ⟨d, s1, s2, _, _⟩ := hF.step i _ ho
  refine aMk hE hF hok hglob hm ho (Nat.lt_irrefl i) (fun t _ k ok _ _ => ⟨fun h => h, fun h1 h2 => by omega⟩) (fun j p hg => ?_) (fun k ok hk hd => aLN hu ho hk hd (by rw [s1]; simp)) fun c'' a'' w'' hm' _ => ?_
  ·rw [hg] at s2
   simp only [aCa] at s2
   rcases Nat.lt_or_ge j i with h | h
   ·exact h
   ·rw [(jY hF i (by omega) j).2 h] at s2; exact s2.elim
  ·exact aHN hE hF hok hu hglob hQ m (i + 1) (by omega) c'' a'' w'' (zS (fun k _ => by omega) hF hm')
theorem aQx (hE : fU P E) (hok : ∀ o ∈ ops, fG nt o = true) (hu : aCb ops = true) {c : Ctx} {a : Act} {w : World} (hs : Sim E M w0 nt ds c env h a w) {K : List Ent → Prop} (hv : vcA E h env ops 0 [] K) {id : Nat}
  (hQ : ∀ acc c' a' w', K acc → dE c w c' w' → c'.n = c.n → Sim E M w0 nt ds c' (mA acc env) h a' w' → Q .normal a' w') : (Code.region id ops.toArray false).wp P Q a w := by
 obtain ⟨F, f1, f2, f3⟩ := aDL ops 0 [] K hv
 have hF : tD E h env ops F := ⟨f1, fun i o ho => by have := f2 i o ho; simpa using this⟩
 simp only [Nat.zero_add] at f3
 refine wp_region ?_
 have := aHN (Q := Q) hE hF hok hu hs.glob (fun c' a' w' hm => hQ _ c' a' w' f3 hm.later hm.n.1 (aPp hF hs.glob hm)) ops.length 0 (by omega) c a w (zS (fun k _ => by simp) hF (aJl hs))
 simpa [List.range_eq_range'] using this
theorem aPq (hE : fU P E) (hF : tD E h env ops F) (hok : ∀ o ∈ ops, fG nt o = true) (hu : aCb ops = true) (hany : aMl ops = true) {c : Ctx} {w : World} (hglob : oW E.G c.S w)
  (hQ : ∀ c' a' w', Mid E M w0 nt ds h env ops F c w (fun k => k < ops.length) c' a' w' → Q .normal a' w') : ∀ (fuel : Nat) (listed : Array Bool), listed.size = ops.length → ((List.range ops.length).filter fun k => !listed.getD k false).length = fuel →
   (∀ k o, ops[k]? = some o → listed.getD k false = true → ∀ e ∈ o.after, Region.binds .any e = true → listed.getD e.on false = true) →
   ∀ (c' : Ctx) (a : Act) (w' : World), Mid E M w0 nt ds h env ops F c w (fun k => listed.getD k false = true) c' a w' → wpAny P .any ops.toArray Q fuel listed a w' := by
 have hanyI : ∀ i o, ops[i]? = some o → (∀ e ∈ o.after, Region.binds .any e = true → e.on < i) ∧ (∀ j p, o.guard = some (j, p) → ∃ e ∈ o.after, Region.binds .any e = true ∧ e.on = j) ∧
   (∀ t, Operand.tmp t ∈ o.op.operands → ∀ k ok, ops[k]? = some ok → ok.dst = some t → k = i ∨ (k < i ∧ ∃ e ∈ o.after, Region.binds .any e = true ∧ e.on = k) ∨ (i < k ∧ ∃ e ∈ ok.after, Region.binds .any e = true ∧ e.on = i)) := by
  intro i o ho
  have hi : i < ops.length := by
   rcases Nat.lt_or_ge i ops.length with h | h
   ·exact h
   ·rw [List.getElem?_eq_none h] at ho; cases ho
  simp only [aMl, List.all_eq_true, List.mem_range] at hany
  have := hany i hi
  rw [ho] at this
  simp only [Bool.and_eq_true, List.all_eq_true, Array.mem_toList_iff] at this
  obtain ⟨⟨h1, h2⟩, h3⟩ := this
  refine ⟨fun e he hb => ?_, fun j p hg => ?_, fun t ht k ok hk hd => ?_⟩
  ·have := h1 e he
   simpa [hb] using this
  ·rw [hg] at h2
   simp only [List.any_eq_true, Bool.and_eq_true, decide_eq_true_eq, Array.mem_toList_iff] at h2
   exact h2
  ·have := h3 _ ht
   simp only [List.all_eq_true, List.mem_range] at this
   have hkl : k < ops.length := by
    rcases Nat.lt_or_ge k ops.length with h | h
    ·exact h
    ·rw [List.getElem?_eq_none h] at hk; cases hk
   have := this k hkl
   rw [hk] at this
   simp only [hd, ne_eq, not_true_eq_false, decide_false, Bool.false_or, Bool.or_eq_true, decide_eq_true_eq, Bool.and_eq_true, List.any_eq_true, Array.mem_toList_iff] at this
   rcases this with (h | h) | h
   ·exact .inl h
   ·exact .inr (.inl h)
   ·exact .inr (.inr h)
 intro fuel
 induction fuel with
 | zero =>
  intro listed hsz hcnt hcl c' a w' hm
  have hall : ∀ k, k < ops.length → listed.getD k false = true := fun k hk => by
   have := List.eq_nil_of_length_eq_zero hcnt
   rw [List.filter_eq_nil_iff] at this
   have := this k (List.mem_range.2 hk)
   simpa using this
  refine ⟨?_, hQ c' a w' (zS (fun k hk => ⟨fun _ => hk, fun _ => hall k hk⟩) hF hm)⟩
  rw [List.eq_nil_iff_forall_not_mem]
  intro j hj
  obtain ⟨h1, o, ho, _⟩ := mem_ready.1 hj
  have hjl : j < ops.length := by
   have : ops[j]? = some o := by simpa using ho
   rcases Nat.lt_or_ge j ops.length with h | h
   ·exact h
   ·rw [List.getElem?_eq_none h] at this; cases this
  have := hall j hjl
  have hlt : j < listed.size := by omega
  simp [hlt] at h1 this
  rw [this] at h1; cases h1
 | succ fuel ih =>
  intro listed hsz hcnt hcl c' a w' hm
  refine ⟨fun hr => ?_, fun i hi => ?_⟩
  ·exfalso
   have hex : ∃ k, k < ops.length ∧ listed.getD k false = false := by
    have hne : ((List.range ops.length).filter fun k => !listed.getD k false) ≠ [] := fun e => by rw [e] at hcnt; cases hcnt
    obtain ⟨k, hk⟩ := List.exists_mem_of_ne_nil _ hne
    simp only [List.mem_filter, List.mem_range, Bool.not_eq_true'] at hk
    exact ⟨k, hk⟩
   have hmin : ∃ k, (k < ops.length ∧ listed.getD k false = false) ∧ ∀ j, j < k → ¬ (j < ops.length ∧ listed.getD j false = false) := by
    obtain ⟨k, hk⟩ := hex
    induction k using Nat.strongRecOn with
    | _ k ihk =>
     by_cases hh : ∃ j, j < k ∧ (j < ops.length ∧ listed.getD j false = false)
     ·obtain ⟨j, hj, hp⟩ := hh; exact ihk j hj hp
     ·exact ⟨k, hk, fun j hj hp => hh ⟨j, hj, hp⟩⟩
   obtain ⟨k, ⟨hk, hun⟩, hlow⟩ := hmin
   have hmem : k ∈ Region.ready .any ops.toArray listed := by
    rw [mem_ready]
    have hlt : k < listed.size := by omega
    refine ⟨by simp [hlt] at hun ⊢; exact hun, ops[k], by simp [hk], fun e he hb => ?_⟩
    have := (hanyI k _ (List.getElem?_eq_getElem hk)).1 e he hb
    have hn := hlow e.on this
    by_cases hh : listed.getD e.on false = true
    ·exact hh
    ·exact absurd ⟨by omega, by simpa using hh⟩ hn
   rw [hr] at hmem; cases hmem
  ·obtain ⟨h1, o, ho, hall⟩ := mem_ready.1 hi
   have ho : ops[i]? = some o := by simpa using ho
   have hil : i < ops.length := by
    rcases Nat.lt_or_ge i ops.length with h | h
    ·exact h
    ·rw [List.getElem?_eq_none h] at ho; cases ho
   have hlt : i < listed.size := by omega
   have hni : ¬ listed.getD i false = true := by simp [hlt] at h1 ⊢; exact h1
   obtain ⟨a1, a2, a3⟩ := hanyI i o ho
   obtain ⟨d, s1, _, _, _⟩ := hF.step i _ ho
   refine aMk hE hF hok hglob hm ho hni (fun t ht k ok hk hd => ?_) (fun j p hg => ?_) (fun k ok hk hd => aLN hu ho hk hd (by rw [s1]; simp)) fun c'' a'' w'' hm' _ => ?_
   ·rcases a3 t ht k ok hk hd with h | ⟨h, e, he, hb, hon⟩ | ⟨h, e, he, hb, hon⟩
    ·exact ⟨fun h' => by omega, fun h' => by omega⟩
    ·exact ⟨fun _ => hon ▸ hall e he hb, fun h' => by omega⟩
    ·exact ⟨fun h' => by omega, fun _ hkl => hni (hon ▸ hcl k ok hk hkl e he hb)⟩
   ·obtain ⟨e, he, hb, hon⟩ := a2 j p hg
    exact hon ▸ hall e he hb
   ·have hset : ∀ k, (listed.setIfInBounds i true).getD k false = true ↔ (listed.getD k false = true ∨ k = i) := fun k => by
     by_cases e : i = k
     ·subst e; simp [hlt]
     ·rw [getD_set_ne false e]
      exact ⟨.inl, fun h => h.resolve_right (fun h => e h.symm)⟩
    refine ih (listed.setIfInBounds i true) (by simp [hsz]) ?_ (fun k o' hk hkl e he hb => ?_) c'' a'' w'' (zS (fun k _ => (hset k).symm) hF hm')
    ·have hfil : ((List.range ops.length).filter fun k => !(listed.setIfInBounds i true).getD k false) = ((List.range ops.length).filter fun k => !listed.getD k false).filter (fun k => decide (k ≠ i)) := by
      rw [List.filter_filter]
      apply List.filter_congr
      intro k _
      rw [Bool.eq_iff_iff]
      have := hset k
      by_cases e : k = i
      ·subst e; simp [hlt]
      ·have h2 : (listed.setIfInBounds i true).getD k false = listed.getD k false := getD_set_ne false (fun h => e h.symm)
       rw [h2]
       simp [e]
     rw [hfil]
     have hnd : ((List.range ops.length).filter fun k => !listed.getD k false).Nodup := List.nodup_range.filter _
     have hmem : i ∈ ((List.range ops.length).filter fun k => !listed.getD k false) := by
      simp only [List.mem_filter, List.mem_range]
      exact ⟨hil, by simpa using hni⟩
     have := hnd.erase_eq_filter i
     have e2 : (((List.range ops.length).filter fun k => !listed.getD k false).filter (fun k => decide (k ≠ i))) = ((List.range ops.length).filter fun k => !listed.getD k false).erase i := by
      rw [this]
      apply List.filter_congr
      intro k _
      by_cases e : k = i <;> simp [e]
     rw [e2, List.length_erase_of_mem hmem, hcnt]; rfl
    ·rcases (hset k).1 hkl with h | h
     ·exact (hset _).2 (.inl (hcl k o' hk h e he hb))
     ·subst h
      rw [ho] at hk
      cases hk
      exact (hset _).2 (.inl (hall e he hb))
theorem aHO (hE : fU P E) (hmix : P.follows .mixedOrders = true) (hok : ∀ o ∈ ops, fG nt o = true) (hu : aCb ops = true) (hany : aMl ops = true) {c : Ctx} {a : Act} {w : World} (hs : Sim E M w0 nt ds c env h a w) {K : List Ent → Prop} (hv : vcA E h env ops 0 [] K) {id : Nat}
  (hQ : ∀ acc c' a' w', K acc → dE c w c' w' → c'.n = c.n → Sim E M w0 nt ds c' (mA acc env) h a' w' → Q .normal a' w') : (Code.region id ops.toArray true).wp P Q a w := by
 obtain ⟨F, f1, f2, f3⟩ := aDL ops 0 [] K hv
 have hF : tD E h env ops F := ⟨f1, fun i o ho => by have := f2 i o ho; simpa using this⟩
 simp only [Nat.zero_add] at f3
 refine wp_region_any hmix ?_
 have hlat : dE c w c { w with drawn := w.drawn + 1 } := ⟨.refl _, fun b hb => rfl⟩
 have hdr : Sim E M w0 nt ds c env h a { w with drawn := w.drawn + 1 } :=
  ⟨hs.good.step hlat rfl rfl ⟨rfl, rfl, rfl, Nat.le_refl _, fun _ _ _ => rfl⟩ (fun _ _ _ _ _ => rfl) hs.good.sfin (fun _ hb => .inl hb), oW.mono (w := w) (w' := { w with drawn := w.drawn + 1 }) (fun _ hb => hb) hlat.same hs.glob, hs.env.keep hlat, hs.size, hs.defers⟩
 refine aPq (Q := Q) hE hF hok hu hany hdr.glob (fun c' a' w' hm => hQ _ c' a' w' f3 (hlat.trans hm.later) hm.n.1 (aPp hF hdr.glob hm)) _ _ (by simp) ?_ (fun k o ho hl => ?_) c a _ (zS (fun k hk => ?_) hF (aJl hdr))
 ·rw [List.filter_eq_self.2 (fun k hk => by simp at hk; simp [hk])]; simp
 ·exfalso
  by_cases hk : k < ops.length <;> simp [hk] at hl
 ·simp [hk]
end
end Go.Vc
namespace Go.Vc
open Go.RowKit
def Ctx.push (c : Ctx) (v : Value) : Ctx := ⟨c.S, fun i => if i = c.n then v else c.hd i, c.n + 1, c.bl⟩
theorem Ctx.le_push (c : Ctx) (v : Value) : c.le (c.push v) := ⟨fun _ h => h, Nat.le_succ _, fun i hi => by simp [Ctx.push, Nat.ne_of_lt hi]⟩
section
variable {P : Program} {T : Tab} {M : Perm} {w0 : World} {c : Ctx} {h : List Obj} {w : World}
theorem Good.push (hg : Good M w0 c h w) {w' : World} (hk : fJ nothing w w') {o : Obj} {hv : Value} (hob : aDB (c.push hv) w' c.n o) (hb : ∀ b, dO (c.push hv) c.n o b → w.heap.size ≤ b ∧ b < w'.heap.size) :
  Good M w0 (c.push hv) (h ++ [o]) w' ∧ dE c w (c.push hv) w' := by
 have hl : dE c w (c.push hv) w' := ⟨c.le_push hv, fun b hbS => hk.block b (hg.sfin b hbS) (fun f => f)⟩
 have hcase : ∀ i o', (h ++ [o])[i]? = some o' → (h[i]? = some o' ∧ i < c.n) ∨ (i = c.n ∧ o' = o) := fun i o' ho => by
  rw [hg.n]
  rcases Nat.lt_trichotomy i h.length with hlt | heq | hgt
  ·rw [List.getElem?_append_left hlt] at ho; exact .inl ⟨ho, hlt⟩
  ·subst heq; simp at ho; exact .inr ⟨rfl, ho.symm⟩
  ·rw [List.getElem?_append_right (by omega), List.getElem?_eq_none (by simp; omega)] at ho; cases ho
 refine ⟨⟨by simp [Ctx.push, hg.n], hg.keeps.trans hk.any, fun b hbS => Nat.lt_of_lt_of_le (hg.sfin b hbS) hk.size, hg.src, fun i o' ho => ?_, fun i o' b ho hbb => ?_, fun i j oi oj b hi hj hbi hbj => ?_, yU hg.root hl.le⟩, hl⟩
 ·rcases hcase i o' ho with ⟨ho, hi⟩ | ⟨rfl, rfl⟩
  ·exact (hg.objs i o' ho).keep hl hi rfl (fun b hbb => hk.block b (hg.own i o' b ho hbb).2.1 (fun f => f))
  ·exact hob
 ·rcases hcase i o' ho with ⟨ho, hi⟩ | ⟨rfl, rfl⟩
  ·rw [eQ hl.le rfl hi] at hbb
   obtain ⟨h1, h2, h3⟩ := hg.own i o' b ho hbb
   exact ⟨h1, Nat.lt_of_lt_of_le h2 hk.size, h3⟩
  ·obtain ⟨h1, h2⟩ := hb b hbb
   exact ⟨.inl (Nat.le_trans hg.keeps.size h1), h2, fun hS => by have := hg.sfin b hS; omega⟩
 ·rcases hcase i oi hi with ⟨hi', hin⟩ | ⟨ei, eo⟩ <;> rcases hcase j oj hj with ⟨hj', hjn⟩ | ⟨ej, eo'⟩
  ·rw [eQ hl.le rfl hin] at hbi
   rw [eQ hl.le rfl hjn] at hbj
   exact hg.sep i j oi oj b hi' hj' hbi hbj
  ·subst ej; subst eo'
   rw [eQ hl.le rfl hin] at hbi
   have := (hg.own i oi b hi' hbi).2.1
   have := (hb b hbj).1
   omega
  ·subst ei; subst eo
   rw [eQ hl.le rfl hjn] at hbj
   have := (hg.own j oj b hj' hbj).2.1
   have := (hb b hbi).1
   omega
  ·rw [ei, ej]
theorem Good.modifyG (hg : Good M w0 c h w) {i : Nat} {o o' : Obj} {b : Nat} (ho : h[i]? = some o) (hb : dO c i o b) {w' : World} (hos : w'.os = w.os) (htp : w'.tape = w.tape) (hout : w'.output = w.output) (hsz : w'.heap.size = w.heap.size)
  (hsame : ∀ k, k ≠ b → w'.heap[k]? = w.heap[k]?) (hob : aDB c w' i o') (hb' : ∀ b', dO c i o' b' → dO c i o b') :
  Good M w0 c (h.set i o') w' ∧ dE c w c w' := by
 obtain ⟨hB, hblt, hnS⟩ := hg.own i o b ho hb
 have hl : dE c w c w' := ⟨.refl _, fun k hk => hsame k (fun e => hnS (e ▸ hk))⟩
 have hil : i < h.length := jE ho
 have hcase : ∀ j oj, (h.set i o')[j]? = some oj → (j ≠ i ∧ h[j]? = some oj) ∨ (j = i ∧ oj = o') := fun j oj hj => by
  by_cases e : i = j
  ·subst e; simp [hil] at hj; exact .inr ⟨rfl, hj.symm⟩
  ·rw [List.getElem?_set_ne e] at hj; exact .inl ⟨fun h => e h.symm, hj⟩
 refine ⟨⟨by simp [hg.n], ⟨hos.trans hg.keeps.os, htp.trans hg.keeps.tape, hout.trans hg.keeps.output, by rw [hsz]; exact hg.keeps.size, fun k hk hM => ?_⟩, fun k hk => by rw [hsz]; exact hg.sfin k hk, hg.src, fun j oj hj => ?_, fun j oj b' hj hbj => ?_, fun j k oj ok b' hj hk hbj hbk => ?_, hg.root⟩, hl⟩
 ·have hne : k ≠ b := by
   intro e
   rcases hB with h1 | h1
   ·omega
   ·exact hM (e ▸ h1)
  rw [hsame k hne]; exact hg.keeps.block k hk hM
 ·rcases hcase j oj hj with ⟨hne, hj⟩ | ⟨rfl, rfl⟩
  ·refine (hg.objs j oj hj).keep hl (by rw [hg.n]; exact jE hj) rfl (fun b' hb'' => hsame b' (fun e => hne ?_))
   subst e
   exact hg.sep j i oj o b' hj ho hb'' hb
  ·exact hob
 ·rw [hsz]
  rcases hcase j oj hj with ⟨hne, hj⟩ | ⟨rfl, rfl⟩
  ·exact hg.own j oj b' hj hbj
  ·exact hg.own _ _ b' ho (hb' b' hbj)
 ·rcases hcase j oj hj with ⟨hnj, hj'⟩ | ⟨ej, eo⟩ <;> rcases hcase k ok hk with ⟨hnk, hk'⟩ | ⟨ek, eo'⟩
  ·exact hg.sep j k oj ok b' hj' hk' hbj hbk
  ·subst ek; subst eo'
   exact absurd (hg.sep j k oj o b' hj' ho hbj (hb' b' hbk)) hnj
  ·subst ej; subst eo
   exact absurd (hg.sep k j ok o b' hk' ho hbk (hb' b' hbj)) hnk
  ·rw [ej, ek]
theorem Good.modify (hg : Good M w0 c h w) {i : Nat} {o o' : Obj} {b : Nat} (ho : h[i]? = some o) (hb : dO c i o b) {w' : World} (hos : w'.os = w.os) (htp : w'.tape = w.tape) (hout : w'.output = w.output) (hsz : w'.heap.size = w.heap.size)
  (hsame : ∀ k, k ≠ b → w'.heap[k]? = w.heap[k]?) (hob : aDB c w' i o') (hb' : ∀ b', dO c i o' b' → b' = b) :
  Good M w0 c (h.set i o') w' ∧ dE c w c w' :=
 hg.modifyG ho hb hos htp hout hsz hsame hob fun b' h' => by rw [hb' b' h']; exact hb
def freeze (i : Nat) (h : List Obj) : List Obj :=
 match h[i]? with
 | some (.row _ t xs) => h.set i (.frz t xs)
 | some (.tre _ _ t xs) => h.set i (.frz t xs)
 | _ => h
def Ctx.moreP (c : Ctx) (p : Nat → Prop) : Ctx := ⟨fun b => c.S b ∨ p b, c.hd, c.n, c.bl⟩
theorem Good.giveP (hg : Good M w0 c h w) {i : Nat} {o : Obj} (ho : h[i]? = some o) {t : Ty} {xs : List t.den} (hob : aT w (c.moreP (dO c i o)).S (.sl t) xs [c.hd i]) : ∃ c', dE c w c' w ∧ c'.n = c.n ∧ Good M w0 c' (h.set i (.frz t xs)) w := by
 have hle : c.le (c.moreP (dO c i o)) := ⟨fun b hb => .inl hb, Nat.le_refl _, fun _ _ => rfl⟩
 have hl : dE c w (c.moreP (dO c i o)) w := ⟨hle, .refl _ _⟩
 have hil : i < h.length := jE ho
 have hcase : ∀ j oj, (h.set i (.frz t xs))[j]? = some oj → (j ≠ i ∧ h[j]? = some oj) ∨ (j = i ∧ oj = .frz t xs) := fun j oj hj => by
  by_cases e : i = j
  ·subst e; simp [hil] at hj; exact .inr ⟨rfl, hj.symm⟩
  ·rw [List.getElem?_set_ne e] at hj; exact .inl ⟨fun h => e h.symm, hj⟩
 have how : ∀ j oj, dO (c.moreP (dO c i o)) j oj = dO c j oj := fun j oj => by funext b; cases oj <;> rfl
 refine ⟨_, hl, rfl, by simp [Ctx.moreP, hg.n], hg.keeps, fun b hb => ?_, fun b hb hlt => ?_, fun j oj hj => ?_, fun j oj b hj hb => ?_, fun j k oj ok b hj hk hbj hbk => ?_, yU hg.root hle⟩
 ·rcases hb with hb | hb
  ·exact hg.sfin b hb
  ·exact (hg.own i _ b ho hb).2.1
 ·rcases hb with hb | hb
  ·exact hg.src b hb hlt
  ·rcases (hg.own i _ b ho hb).1 with h1 | h1
   ·omega
   ·exact .inr h1
 ·rcases hcase j oj hj with ⟨hne, hj⟩ | ⟨rfl, rfl⟩
  ·exact (hg.objs j oj hj).keep hl (by rw [hg.n]; exact jE hj) rfl (fun _ _ => rfl)
  ·exact hob
 ·rcases hcase j oj hj with ⟨hne, hj⟩ | ⟨rfl, rfl⟩
  ·rw [how] at hb
   obtain ⟨h1, h2, h3⟩ := hg.own j oj b hj hb
   refine ⟨h1, h2, fun hS => ?_⟩
   rcases hS with hS | hS
   ·exact h3 hS
   ·exact hne (hg.sep j i oj _ b hj ho hb hS)
  ·cases hb
 ·rcases hcase j oj hj with ⟨hnj, hj⟩ | ⟨rfl, rfl⟩
  ·rcases hcase k ok hk with ⟨hnk, hk⟩ | ⟨rfl, rfl⟩
   ·rw [how] at hbj hbk
    exact hg.sep j k oj ok b hj hk hbj hbk
   ·cases hbk
  ·cases hbj
def Ctx.more (c : Ctx) (b? : Option Nat) : Ctx := ⟨fun b => c.S b ∨ b? = some b, c.hd, c.n, c.bl⟩
theorem Good.freeze (hg : Good M w0 c h w) (i : Nat) : ∃ c', dE c w c' w ∧ c'.n = c.n ∧ Good M w0 c' (freeze i h) w := by
 unfold Vc.freeze
 split
 ·rename_i e t xs ho
  exact hg.giveP ho (vU.toC (hg.objs i _ ho) (fun b hb => .inl hb) (fun b hb => .inr hb))
 ·rename_i e m t xs ho
  obtain ⟨B, h1, _, h3⟩ := hg.objs i _ ho
  exact hg.giveP ho (jU.toC (fun b hb => .inl hb) _ _ _ _ _ (fun b hb => .inr (h3 b hb)) h1)
 ·exact ⟨c, .refl _ _, rfl, hg⟩
def freezeAll : List Nat → List Obj → List Obj
 | [], h => h
 | i :: r, h => freezeAll r (freeze i h)
theorem Good.freezeAll : ∀ (is : List Nat) {c : Ctx} {h : List Obj}, Good M w0 c h w → ∃ c', dE c w c' w ∧ c'.n = c.n ∧ Good M w0 c' (freezeAll is h) w
 | [], c, h, hg => ⟨c, .refl _ _, rfl, hg⟩
 | i :: r, c, h, hg => by
  obtain ⟨c1, h1, h2, h3⟩ := hg.freeze i
  obtain ⟨c2, k1, k2, k3⟩ := Good.freezeAll r h3
  exact ⟨c2, h1.trans k1, k2.trans h2, k3⟩
def pO : (t : Ty) → t.den → List AV
 | .pair a r, x => .val a x.1 :: pO r x.2
 | .expr, x => [.val (.i .i64) x.kind, .val .str x.text, .val (.sl .expr) x.l]
 | _, _ => []
def aJm (v : AV) (k : Nat) (u : AV) : AV :=
 match v with
 | .val t x => aE3 t ((pO t x).set k u)
 | .agg vs => .agg (vs.set k u)
 | _ => .junk
def aCc (v : AV) (i : Nat) (u : AV) : AV :=
 match v with
 | .val (.arr n t) xs => match AV.as [] t u with
  | some x => .val (.arr n t) (xs.set i x)
  | none => .junk
 | _ => .junk
def zT : AV → List Step → AV → Prop × AV
 | v, [], u => (v.solid = true ∧ u.solid = true ∧ v.nc = u.nc, u)
 | v, .fld off k :: p, u => (v.solid = true ∧ off = (dC v k).2 ∧ (zT (dC v k).1 p u).1 ∧ (zT (dC v k).1 p u).2.solid1 = true ∧ aJm v k (zT (dC v k).1 p u).2 ≠ .junk, aJm v k (zT (dC v k).1 p u).2)
 | v, .idx s i :: p, u => ((elemOf v i).1 ∧ s = aOK v ∧ (zT (elemOf v i).2 p u).1 ∧ aCc v i (zT (elemOf v i).2 p u).2 ≠ .junk, aCc v i (zT (elemOf v i).2 p u).2)
def Ty.strB : Ty → Bool
 | .unit => true
 | .pair _ r => r.strB
 | .expr => true
 | _ => false
theorem aKg : ∀ (t : Ty) (x : t.den) (cs : List Value), t.strB = true → aT w c.S t x cs → jN c w (pO t x) cs ∧ (∀ v ∈ pO t x, v.solid1 = true)
 | .unit, _, cs, _, hr => ⟨hr, fun v hv => by cases hv⟩
 | .pair a r, x, cs, hs, ⟨c1, c2, e, h1, h2⟩ => by
  obtain ⟨q1, q2⟩ := aKg r x.2 c2 hs h2
  refine ⟨⟨c1, c2, e, h1, q1⟩, fun v hv => ?_⟩
  rcases List.mem_cons.1 hv with rfl | hv
  ·rfl
  ·exact q2 v hv
 | .bool, _, _, hs, _ => by simp [Ty.strB] at hs
 | .u _, _, _, hs, _ => by simp [Ty.strB] at hs
 | .i _, _, _, hs, _ => by simp [Ty.strB] at hs
 | .str, _, _, hs, _ => by simp [Ty.strB] at hs
 | .sl _, _, _, hs, _ => by simp [Ty.strB] at hs
 | .arr _ _, _, _, hs, _ => by simp [Ty.strB] at hs
 | .expr, x, cs, _, hr => by
  have h0 := aHz (c := c) .expr x 0 cs hr (by simp [aEK])
  refine ⟨?_, fun v hv => by simp [pO] at hv; rcases hv with rfl | rfl | rfl <;> rfl⟩
  cases hr with
  | mk k s l a len cap dss hk hs hl hc hm hr ha =>
   exact ⟨[_], [_, _], rfl, ⟨rfl, rfl, hk.1, hk.2⟩, [_], [_], rfl, ⟨s, rfl, rfl, hs⟩, [_], [], rfl, ⟨a, len, cap, rfl, hl, hc, hm, ha.imp id fun ⟨b, off, e, hb, hcell⟩ => ⟨b, off, e, hb, fun i hi => ⟨dss i, hr i hi, hcell i hi⟩⟩⟩, rfl⟩
 | .rp _, _, _, hs, _ => by simp [Ty.strB] at hs
 | .clo _ _, _, _, hs, _ => by simp [Ty.strB] at hs
theorem aEp : ∀ (t : Ty) (x : t.den) (k : Nat), aEK t x k ≠ .junk → t.strB = true → k < (pO t x).length ∧ (dC (.agg (pO t x)) k) = (aEK t x k, t.fieldOff k)
 | .pair a r, x, 0, _, _ => ⟨by simp [pO], rfl⟩
 | .pair a r, x, k + 1, hj, hs => by
  obtain ⟨h1, h2⟩ := aEp r x.2 k hj hs
  refine ⟨by simp [pO, h1], ?_⟩
  simp only [pO, dC, h2]
  rfl
 | .unit, x, k, hj, _ => absurd rfl hj
 | .expr, x, k, hj, _ => by
  match k, hj with
  | 0, _ => exact ⟨by simp [pO], rfl⟩
  | 1, _ => exact ⟨by simp [pO], rfl⟩
  | 2, _ => exact ⟨by simp [pO], rfl⟩
  | k + 3, hj => exact absurd rfl hj
 | .bool, x, k, hj, hs => absurd rfl hj
 | .u _, x, k, hj, hs => absurd rfl hj
 | .i _, x, k, hj, hs => absurd rfl hj
 | .str, x, k, hj, hs => absurd rfl hj
 | .sl _, x, k, hj, hs => absurd rfl hj
 | .arr _ _, x, k, hj, hs => absurd rfl hj
 | .rp _, x, k, hj, hs => absurd rfl hj
 | .clo _ _, x, k, hj, hs => absurd rfl hj
theorem aPr : ∀ {vs : List AV} {cs : List Value} {k : Nat}, jN c w vs cs → (∀ v ∈ vs, v.solid1 = true) → k < vs.length → ∃ pre ds post, cs = pre ++ ds ++ post ∧ pre.length = (dC (.agg vs) k).2 ∧ aH c w (dC (.agg vs) k).1 ds ∧ ∀ (u : AV) (ds' : List Value), aH c w u ds' → jN c w (vs.set k u) (pre ++ ds' ++ post)
 | [], _, _, _, _, hk => by simp at hk
 | v :: r, cs, 0, hr, hs, _ => by
  obtain ⟨c1, c2, e, h1, h2⟩ := hr
  exact ⟨[], c1, c2, by simpa using e, rfl, h1, fun u ds' hu => by simp only [List.set_cons_zero, jN, List.nil_append]; exact ⟨ds', c2, rfl, hu, h2⟩⟩
 | v :: r, cs, k + 1, hr, hs, hk => by
  obtain ⟨c1, c2, e, h1, h2⟩ := hr
  obtain ⟨pre, ds, post, e2, hp, hd, hset⟩ := aPr (k := k) h2 (fun u hu => hs u (by simp [hu])) (by simpa using hk)
  refine ⟨c1 ++ pre, ds, post, by rw [e, e2]; simp, ?_, hd, fun u ds' hu => ?_⟩
  ·rw [List.length_append, aGZ (hs v (by simp)) h1, hp]; rfl
  ·simp only [List.set_cons_succ, jN]
   exact ⟨c1, pre ++ ds' ++ post, by simp, h1, hset u ds' hu⟩
theorem aTz {v u : AV} {k : Nat} {cs : List Value} (hs : v.solid = true) (hr : aH c w v cs) (hst : ∀ t x, v = .val t x → t.strB = true) (hj : (dC v k).1 ≠ .junk) :
  ∃ pre ds post, cs = pre ++ ds ++ post ∧ pre.length = (dC v k).2 ∧ aH c w (dC v k).1 ds ∧ ∀ ds', aH c w u ds' → aH c w (aJm v k u) (pre ++ ds' ++ post) := by
 cases v with
 | val t x =>
  have hstr := hst t x rfl
  obtain ⟨q1, q2⟩ := aKg (c := c) (w := w) t x cs hstr hr
  obtain ⟨k1, k2⟩ := aEp t x k (by simpa [dC] using hj) hstr
  obtain ⟨pre, ds, post, e, hp, hd, hset⟩ := aPr q1 q2 k1
  rw [k2] at hp hd
  refine ⟨pre, ds, post, e, by simpa [dC] using hp, by simpa [dC] using hd, fun ds' hu => ?_⟩
  simp only [aJm]
  have := aHG (t := t) (c := c) (w := w) (cells := (pre ++ ds' ++ post).toArray) (by simpa using hset u ds' hu)
  have h1 : rJ c w (aE3 t ((pO t x).set k u)) (.agg (pre ++ ds' ++ post).toArray) := by
   revert this
   unfold aE3
   split <;> exact fun h => h
  simpa [Value.cells] using h1.1
 | agg vs =>
  simp only [aH] at hr
  simp only [AV.solid, List.all_eq_true] at hs
  have hk : k < vs.length := by
   rcases Nat.lt_or_ge k vs.length with h | h
   ·exact h
   ·exfalso; apply hj
    clear hs hr hj hst
    induction vs generalizing k with
    | nil => simp [dC]
    | cons v r ih => cases k with
     | zero => simp at h
     | succ k => simp only [dC]; exact ih (by simpa using h)
  obtain ⟨pre, ds, post, e, hp, hd, hset⟩ := aPr hr hs hk
  exact ⟨pre, ds, post, e, hp, hd, fun ds' hu => by simp only [aJm, aH]; exact hset u ds' hu⟩
 | _ => simp [dC] at hj
theorem aRC {v u : AV} {i : Nat} {cs : List Value} (hr : aH c w v cs) (h : (elemOf v i).1) (hj : aCc v i u ≠ .junk) :
  ∃ pre ds post, cs = pre ++ ds ++ post ∧ pre.length = i * aOK v ∧ aH c w (elemOf v i).2 ds ∧ ∀ ds', ds'.length = ds.length → aH c w u ds' → aH c w (aCc v i u) (pre ++ ds' ++ post) := by
 cases v with
 | val t x =>
  cases t with
  | arr n t =>
   simp only [elemOf] at h ⊢
   obtain ⟨hn, css, e, hl, hrep⟩ := hr
   have hix : i < css.length := by omega
   obtain ⟨pre, post, hf, hp⟩ := jX (t := t) (css := css) (fun j hj => aT.length _ _ _ (hrep j (by omega) hj)) i hix
   refine ⟨pre, css[i], post, by rw [e, hf], hp, ?_, fun ds' hdl hu => ?_⟩
   ·have := hrep i (by omega) (by omega)
    simp only [aH]
    rw [List.getD_eq_getElem?_getD, List.getElem?_eq_getElem (by omega)]
    exact this
   ·simp only [aCc] at hj ⊢
    split at hj
    ·rename_i y hy
     have hyr := (aHG.as_nil t u y ds' hy hu).1
     have hlen : ((css.take i).flatten).length = i * t.cells := by
      rw [jD (n := t.cells) (fun j hj => ?_)]
      ·rw [List.length_take, Nat.min_eq_left (by omega)]
      ·simp at hj; simp only [List.getElem_take]; exact aT.length _ _ _ (hrep j (by omega) (by omega))
     have hsp : css = css.take i ++ [css[i]] ++ css.drop (i + 1) := by simp
     have h3 : css.flatten = (css.take i).flatten ++ css[i] ++ (css.drop (i + 1)).flatten := by
      have h4 := congrArg List.flatten hsp
      simp only [List.flatten_append, List.flatten_cons, List.flatten_nil, List.append_nil] at h4
      exact h4
     rw [h3, List.append_assoc, List.append_assoc] at hf
     obtain ⟨q1, q2⟩ := List.append_inj hf (by rw [hlen, hp])
     obtain ⟨q3, q4⟩ := List.append_inj q2 rfl
     refine ⟨by simpa using hn, css.set i ds', ?_, by simpa using hl, fun j h1 h2 => ?_⟩
     ·rw [← q1, ← q4, List.set_eq_take_append_cons_drop, if_pos hix]
      simp
     ·by_cases hik : i = j
      ·subst hik; simp only [List.getElem_set_self]; exact hyr
      ·simp only [List.getElem_set_ne hik]; exact hrep j (by simpa using h1) (by simpa using h2)
    ·exact absurd rfl hj
  | _ => exact h.elim
 | _ => exact h.elim
def aBs : AV → List Step → Bool
 | _, [] => true
 | .val t x, .fld _ k :: p => t.strB && aBs (dC (.val t x) k).1 p
 | v, .fld _ k :: p => aBs (dC v k).1 p
 | v, .idx _ i :: p => aBs (elemOf v i).2 p
theorem aHP : ∀ (p : List Step) (v u : AV) (cs : List Value), aH c w v cs → (zT v p u).1 → aBs v p = true → ∃ pre ds post, cs = pre ++ ds ++ post ∧ pre.length = kS p ∧ (∀ ds', aH c w u ds' → ds'.length = ds.length ∧ aH c w (zT v p u).2 (pre ++ ds' ++ post))
 | [], v, u, cs, hr, h, _ => by
  obtain ⟨h1, h2, h3⟩ := h
  exact ⟨[], cs, [], by simp, rfl, fun ds' hu => ⟨by rw [aKb h2 hu, aKb h1 hr, h3], by simpa [zT] using hu⟩⟩
 | .fld off k :: p, v, u, cs, hr, h, hb => by
  simp only [zT] at h ⊢
  obtain ⟨hs, ho, h2, h3, h4⟩ := h
  have hj : (dC v k).1 ≠ .junk := by
   intro e
   rw [e] at h2
   cases p with
   | nil => obtain ⟨q, _⟩ := h2; simp [AV.solid, AV.solid1] at q
   | cons s p => cases s with
    | fld _ _ => obtain ⟨q, _⟩ := h2; simp [AV.solid, AV.solid1] at q
    | idx _ _ => exact h2.1.elim
  have hst : ∀ t x, v = .val t x → t.strB = true := fun t x e => by subst e; simp only [aBs, Bool.and_eq_true] at hb; exact hb.1
  have hb2 : aBs (dC v k).1 p = true := by
   cases v <;> first | (simp only [aBs, Bool.and_eq_true] at hb; exact hb.2) | (simp only [aBs] at hb; exact hb)
  obtain ⟨pre, ds, post, e, hp, hd, hset⟩ := aTz (u := (zT (dC v k).1 p u).2) hs hr hst hj
  obtain ⟨pre2, ds2, post2, e2, hp2, hset2⟩ := aHP p _ u ds hd h2 hb2
  refine ⟨pre ++ pre2, ds2, post2 ++ post, by rw [e, e2]; simp, by rw [List.length_append, hp, hp2, kS, Step.off, ho], fun ds' hu => ?_⟩
  obtain ⟨q1, q2⟩ := hset2 ds' hu
  refine ⟨q1, ?_⟩
  have := hset _ q2
  simpa using this
 | .idx s i :: p, v, u, cs, hr, h, hb => by
  simp only [zT] at h ⊢
  obtain ⟨hs, ho, h2, h4⟩ := h
  have hb2 : aBs (elemOf v i).2 p = true := by cases v <;> simpa [aBs] using hb
  obtain ⟨pre, ds, post, e, hp, hd, hset⟩ := aRC (u := (zT (elemOf v i).2 p u).2) hr hs h4
  obtain ⟨pre2, ds2, post2, e2, hp2, hset2⟩ := aHP p _ u ds hd h2 hb2
  refine ⟨pre ++ pre2, ds2, post2 ++ post, by rw [e, e2]; simp, by rw [List.length_append, hp, hp2, kS, Step.off, ho], fun ds' hu => ?_⟩
  obtain ⟨q1, q2⟩ := hset2 ds' hu
  refine ⟨q1, ?_⟩
  have := hset _ (by rw [e2]; simp [q1]) q2
  simpa using this
end
end Go.Vc
namespace Go.Vc
open Go.RowKit
def Ctx.pushS (c : Ctx) (S' : Nat → Prop) (v : Value) : Ctx := ⟨S', fun i => if i = c.n then v else c.hd i, c.n + 1, c.bl⟩
section
variable {P : Program} {T : Tab} {M : Perm} {w0 : World} {c : Ctx} {h : List Obj} {w : World}
theorem Good.pushS (hg : Good M w0 c h w) {w' : World} (hk : fJ nothing w w') {S' : Nat → Prop} (hS : ∀ b, c.S b → S' b) (hSn : ∀ b, S' b → c.S b ∨ (w.heap.size ≤ b ∧ b < w'.heap.size)) {o : Obj} {hv : Value} (hob : aDB (c.pushS S' hv) w' c.n o)
  (hb : ∀ b, dO (c.pushS S' hv) c.n o b → w.heap.size ≤ b ∧ b < w'.heap.size ∧ ¬ S' b) :
  Good M w0 (c.pushS S' hv) (h ++ [o]) w' ∧ dE c w (c.pushS S' hv) w' := by
 have hl : dE c w (c.pushS S' hv) w' := ⟨⟨hS, Nat.le_succ _, fun i hi => by simp [Ctx.pushS, Nat.ne_of_lt hi]⟩, fun b hbS => hk.block b (hg.sfin b hbS) (fun f => f)⟩
 have hcase : ∀ i o', (h ++ [o])[i]? = some o' → (h[i]? = some o' ∧ i < c.n) ∨ (i = c.n ∧ o' = o) := fun i o' ho => by
  rw [hg.n]
  rcases Nat.lt_trichotomy i h.length with hlt | heq | hgt
  ·rw [List.getElem?_append_left hlt] at ho; exact .inl ⟨ho, hlt⟩
  ·subst heq; simp at ho; exact .inr ⟨rfl, ho.symm⟩
  ·rw [List.getElem?_append_right (by omega), List.getElem?_eq_none (by simp; omega)] at ho; cases ho
 refine ⟨⟨by simp [Ctx.pushS, hg.n], hg.keeps.trans hk.any, fun b hbS => ?_, fun b hbS hlt => ?_, fun i o' ho => ?_, fun i o' b ho hbb => ?_, fun i j oi oj b hi hj hbi hbj => ?_, yU hg.root hl.le⟩, hl⟩
 ·rcases hSn b hbS with hbS | hbS
  ·exact Nat.lt_of_lt_of_le (hg.sfin b hbS) hk.size
  ·exact hbS.2
 ·rcases hSn b hbS with hbS | hbS
  ·exact hg.src b hbS hlt
  ·have := hg.keeps.size; omega
 ·rcases hcase i o' ho with ⟨ho, hi⟩ | ⟨rfl, rfl⟩
  ·exact (hg.objs i o' ho).keep hl hi rfl (fun b hbb => hk.block b (hg.own i o' b ho hbb).2.1 (fun f => f))
  ·exact hob
 ·rcases hcase i o' ho with ⟨ho, hi⟩ | ⟨rfl, rfl⟩
  ·rw [eQ hl.le rfl hi] at hbb
   obtain ⟨h1, h2, h3⟩ := hg.own i o' b ho hbb
   refine ⟨h1, Nat.lt_of_lt_of_le h2 hk.size, fun hS' => ?_⟩
   rcases hSn b hS' with hS' | hS'
   ·exact h3 hS'
   ·omega
  ·obtain ⟨h1, h2, h3⟩ := hb b hbb
   exact ⟨.inl (Nat.le_trans hg.keeps.size h1), h2, h3⟩
 ·rcases hcase i oi hi with ⟨hi', hin⟩ | ⟨ei, eo⟩ <;> rcases hcase j oj hj with ⟨hj', hjn⟩ | ⟨ej, eo'⟩
  ·rw [eQ hl.le rfl hin] at hbi
   rw [eQ hl.le rfl hjn] at hbj
   exact hg.sep i j oi oj b hi' hj' hbi hbj
  ·subst ej; subst eo'
   rw [eQ hl.le rfl hin] at hbi
   have := (hg.own i oi b hi' hbi).2.1
   have := (hb b hbj).1
   omega
  ·subst ei; subst eo
   rw [eQ hl.le rfl hjn] at hbj
   have := (hg.own j oj b hj' hbj).2.1
   have := (hb b hbi).1
   omega
  ·rw [ei, ej]
theorem Good.regrow (hg : Good M w0 c h w) {i : Nat} {e : TypeId} {t : Ty} {xs : List t.den} (ho : h[i]? = some (.row e t xs)) {w' : World} (hk : w.grownBy w' (aN (c.hd i))) {v' : Value} {ys : List t.den} (hrow : vU c w' e t ys v')
  (hb : ∀ b, aN v' = some b → aN (c.hd i) = some b ∨ (w.heap.size ≤ b ∧ b < w'.heap.size)) : Good M w0 (c.push v') (h.set i .dead ++ [.row e t ys]) w' ∧ dE c w (c.push v') w' := by
 have hil : i < h.length := jE ho
 have hother : ∀ b, b < w.heap.size → aN (c.hd i) ≠ some b → w'.heap[b]? = w.heap[b]? := fun b hlt hne => hk.block b hlt (fun e => hne e.symm)
 have hiS : ∀ b, c.S b → aN (c.hd i) ≠ some b := fun b hS e => (hg.own i _ b ho e).2.2 hS
 have hl : dE c w (c.push v') w' := ⟨c.le_push v', fun b hbS => hother b (hg.sfin b hbS) (hiS b hbS)⟩
 have hcase : ∀ j o', (h.set i Obj.dead ++ [Obj.row e t ys])[j]? = some o' → (h[j]? = some o' ∧ j < c.n ∧ j ≠ i) ∨ (j = c.n ∧ o' = Obj.row e t ys) ∨ o' = Obj.dead := fun j o' hj => by
  rw [hg.n]
  rcases Nat.lt_trichotomy j h.length with hlt | heq | hgt
  ·rw [List.getElem?_append_left (by simpa using hlt)] at hj
   by_cases e' : i = j
   ·subst e'; simp [hil] at hj; exact .inr (.inr hj.symm)
   ·rw [List.getElem?_set_ne e'] at hj; exact .inl ⟨hj, hlt, fun h => e' h.symm⟩
  ·subst heq
   rw [List.getElem?_append_right (by simp)] at hj
   simp at hj; exact .inr (.inl ⟨rfl, hj.symm⟩)
  ·rw [List.getElem?_append_right (by simp; omega), List.getElem?_eq_none (by simp; omega)] at hj; cases hj
 have hpush : (c.push v').hd c.n = v' := by simp [Ctx.push]
 refine ⟨⟨by simp [Ctx.push, hg.n], ⟨hk.os.trans hg.keeps.os, hk.tape.trans hg.keeps.tape, hk.output.trans hg.keeps.output, Nat.le_trans hg.keeps.size hk.size, fun b hlt hM => ?_⟩, fun b hbS => Nat.lt_of_lt_of_le (hg.sfin b hbS) hk.size, hg.src, fun j o' hj => ?_, fun j o' b hj hbb => ?_, fun j k oj ok b hj hk' hbj hbk => ?_, yU hg.root hl.le⟩, hl⟩
 ·have hne : aN (c.hd i) ≠ some b := fun e' => by
   rcases (hg.own i _ b ho e').1 with h1 | h1
   ·omega
   ·exact hM h1
  rw [hother b (Nat.lt_of_lt_of_le hlt hg.keeps.size) hne]
  exact hg.keeps.block b hlt hM
 ·rcases hcase j o' hj with ⟨hj', hjn, hne⟩ | ⟨ej, eo⟩ | eo
  ·exact (hg.objs j o' hj').keep hl hjn rfl (fun b hbb => hother b (hg.own j o' b hj' hbb).2.1 (fun e' => hne (hg.sep j i o' _ b hj' ho hbb e')))
  ·subst ej; subst eo
   obtain ⟨vals, h1, h2⟩ := hrow
   exact ⟨vals, by rw [hpush]; exact h1, h2⟩
  ·subst eo; trivial
 ·rcases hcase j o' hj with ⟨hj', hjn, hne⟩ | ⟨ej, eo⟩ | eo
  ·rw [eQ hl.le rfl hjn] at hbb
   obtain ⟨h1, h2, h3⟩ := hg.own j o' b hj' hbb
   exact ⟨h1, Nat.lt_of_lt_of_le h2 hk.size, h3⟩
  ·subst ej; subst eo
   have hbb : aN v' = some b := by rw [← hpush]; exact hbb
   rcases hb b hbb with h1 | h1
   ·obtain ⟨q1, q2, q3⟩ := hg.own i _ b ho h1
    exact ⟨q1, Nat.lt_of_lt_of_le q2 hk.size, q3⟩
   ·exact ⟨.inl (Nat.le_trans hg.keeps.size h1.1), h1.2, fun hS => by have := hg.sfin b hS; omega⟩
  ·subst eo; cases hbb
 ·rcases hcase j oj hj with ⟨hj', hjn, hne⟩ | ⟨ej, eo⟩ | eo
  ·rw [eQ hl.le rfl hjn] at hbj
   rcases hcase k ok hk' with ⟨hk'', hkn, hne'⟩ | ⟨ek, eo'⟩ | eo'
   ·rw [eQ hl.le rfl hkn] at hbk
    exact hg.sep j k oj ok b hj' hk'' hbj hbk
   ·subst ek; subst eo'
    have hbk : aN v' = some b := by rw [← hpush]; exact hbk
    rcases hb b hbk with h1 | h1
    ·exact absurd (hg.sep j i oj _ b hj' ho hbj h1) hne
    ·have := (hg.own j oj b hj' hbj).2.1
     omega
   ·subst eo'; cases hbk
  ·subst ej; subst eo
   have hbj : aN v' = some b := by rw [← hpush]; exact hbj
   rcases hcase k ok hk' with ⟨hk'', hkn, hne'⟩ | ⟨ek, eo'⟩ | eo'
   ·rw [eQ hl.le rfl hkn] at hbk
    rcases hb b hbj with h1 | h1
    ·exact absurd (hg.sep k i ok _ b hk'' ho hbk h1) hne'
    ·have := (hg.own k ok b hk'' hbk).2.1
     omega
   ·exact ek.symm
   ·subst eo'; cases hbk
  ·subst eo; cases hbj
def aMm (h : List Obj) : AV → AV
 | .own i => match h[i]? with
  | some (.frz t xs) => .val (.sl t) xs
  | _ => .own i
 | v => v
def aPs (h : List Obj) : AV → AV
 | .agg vs => .agg (vs.map (aMm h))
 | v => aMm h v
theorem aQy (hg : Good M w0 c h w) {v : AV} {cs : List Value} (hr : aH c w v cs) : aH c w (aMm h v) cs := by
 unfold aMm
 split
 ·rename_i i
  split
  ·rename_i t xs ho
   have := hg.objs i _ ho
   simp only [aH] at hr
   rw [hr.2.1]
   exact this
  ·exact hr
 ·exact hr
theorem aQz (hg : Good M w0 c h w) : ∀ {vs : List AV} {cs : List Value}, jN c w vs cs → jN c w (vs.map (aMm h)) cs
 | [], _, hr => hr
 | v :: r, _, ⟨c1, c2, e, h1, h2⟩ => ⟨c1, c2, e, aQy hg h1, aQz hg h2⟩
theorem aSH (hg : Good M w0 c h w) {v : AV} {x : Value} (hr : aQ c w v x) : aQ c w (aPs h v) x := by
 cases v with
 | agg vs =>
  obtain ⟨h1, h2, h3⟩ := hr
  exact ⟨aQz hg (by simpa [aH] using h1), h2, h3⟩
 | own i =>
  simp only [aPs, aMm]
  split
  ·rename_i t xs ho
   have := hg.objs i _ ho
   have hrr := hr
   obtain ⟨h1, h2, h3⟩ := hr
   simp only [aH] at h1
   have hx := (yV hrr).2
   refine ⟨?_, fun h => by simp [AV.isAgg, Ty.isAgg] at h, fun _ => h3 rfl⟩
   simp only [aH]
   rw [h1.2.1]
   exact this
  ·exact hr
 | _ => exact hr
def aDN (T : Tab) (h : List Obj) (t : TypeId) (a x : AV) : Prop × AV × List Obj :=
 match a with
 | .ptr i p => match h[i]? with
  | some (.box n .junk) => match p with
   | [] => (n = x.nc ∧ n < 4294967296 ∧ x.solid = true ∧ ∃ ct, T t = some ct ∧ ct.cells = x.nc, .junk, h.set i (.box n x))
   | _ => (False, .junk, h)
  | some (.box n v) => ((zT v p x).1 ∧ aBs v p = true ∧ x.solid = true ∧ ∃ ct, T t = some ct ∧ ct.cells = x.nc, .junk, h.set i (.box n (zT v p x).2))
  | some (.row e ct xs) => match p with
   | .idx s k :: p => match AV.as [] ct (zT (.val ct (xs.getD k ct.zero)) p x).2 with
    | some y => (k < xs.length ∧ s = ct.cells ∧ (zT (.val ct (xs.getD k ct.zero)) p x).1 ∧ aBs (.val ct (xs.getD k ct.zero)) p = true ∧ x.solid = true ∧ ∃ c', T t = some c' ∧ c'.cells = x.nc, .junk, h.set i (.row e ct (xs.set k y)))
    | none => (False, .junk, h)
   | _ => (False, .junk, h)
  | some (.trh e m ct xs kk v) => match p with
   | .idx s k :: p => (k = kk ∧ s = ct.cells ∧ (zT v p x).1 ∧ aBs v p = true ∧ x.solid = true ∧ ∃ c', T t = some c' ∧ c'.cells = x.nc, .junk, h.set i (.trh e m ct xs kk (zT v p x).2))
   | _ => (False, .junk, h)
  | _ => (False, .junk, h)
 | _ => (False, .junk, h)
def zU (t' t : Ty) (xs : List t'.den) : Option (List t.den) := if e : t' = t then some (e ▸ xs) else none
@[simp] theorem aRD {t : Ty} {xs : List t.den} : zU t t xs = some xs := by simp [zU]
theorem aBt {t' t : Ty} {xs : List t'.den} {ys : List t.den} (h : zU t' t xs = some ys) : ∃ e : t' = t, ys = e ▸ xs := by
 unfold zU at h
 split at h
 ·rename_i e; cases h; exact ⟨e, rfl⟩
 ·cases h
theorem aUD (h : List Obj) (i : Nat) (t : Ty) : rowOf h i t = match h[i]? with
  | some (.row _ t' xs) => zU t' t xs
  | some (.frz t' xs) => zU t' t xs
  | some (.tre _ _ t' xs) => zU t' t xs
  | _ => none := by
 unfold rowOf zU
 cases h[i]? with
 | none => rfl
 | some o => cases o <;> rfl
def bound (ct : Ty) (n : Nat) : Prop := n ≤ maxLen ∧ n * ct.byt ≤ 140737488355328
def rL (E : Env) (h : List Obj) (t : TypeId) (s x : AV) : Prop × AV × List Obj :=
 match E.T t with
 | some (.sl ct) => match AV.as (if ct.scalar then h else h.map eG) (.sl ct) x with
  | some ys => match s with
   | .nilS => (bound ct ys.length ∧ ct.okB = true, .own h.length, h ++ [.row (E.el t) ct ys])
   | .own i => match h[i]? with
    | some (.row e c' xs) => match zU c' ct xs with
     | some xs => (e = E.el t ∧ bound ct (xs.length + ys.length) ∧ ct.okB = true, .own h.length, h.set i .dead ++ [.row (E.el t) ct (xs ++ ys)])
     | none => (False, .junk, h)
    | _ => (False, .junk, h)
   | _ => (False, .junk, h)
  | none => (False, .junk, h)
 | _ => (False, .junk, h)
def aJn (E : Env) (h : List Obj) (t : TypeId) (l cp : AV) : Prop × AV × List Obj :=
 match E.T t with
 | some (.sl ct) => match zP l, zP cp with
  | some n, some m => (ct.okB = true ∧ 0 ≤ n ∧ n ≤ m ∧ (ct.byt : Int) * m ≤ 281474976710656 ∧ m ≤ maxLen, .own h.length, h ++ [.row (E.el t) ct (List.replicate n.toNat ct.zero)])
  | _, _ => (False, .junk, h)
 | _ => (False, .junk, h)
def aF4 (Γ : FuncId → List AV → Option aF) (h : List Obj) (f : FuncId) (vs : List AV) : Prop × AV × List Obj :=
 match Γ f vs with
 | some sp => match sp with
  | ⟨a, .own e t, pre, fn⟩ => match yB (if t.scalar then h else h.map eG) a vs with
   | some x => (pre x, .own h.length, h ++ [.row e t (fn x)])
   | none => (False, .junk, h)
  | _ => (False, .junk, h)
 | none => (False, .junk, h)
theorem aUE {t : Ty} {css : List (List Value)} (hl : ∀ j (hj : j < css.length), (css[j]).length = t.cells) {k : Nat} (hk : k < css.length) {pre post ds : List Value} (hf : css.flatten = pre ++ css[k] ++ post) (hp : pre.length = k * t.cells) : (css.set k ds).flatten = pre ++ ds ++ post := by
 have h1 : css = css.take k ++ css[k] :: css.drop (k + 1) := by rw [← List.drop_eq_getElem_cons hk, List.take_append_drop]
 have h2 : (css.take k).flatten.length = k * t.cells := by
  rw [jD (n := t.cells) (fun i hi => by rw [List.getElem_take]; exact hl i (by simp at hi; omega)), List.length_take, Nat.min_eq_left (Nat.le_of_lt hk)]
 have h3 : css.flatten = (css.take k).flatten ++ css[k] ++ (css.drop (k + 1)).flatten := by
  have h9 := congrArg List.flatten h1
  rw [h9, List.flatten_append, List.flatten_cons, List.append_assoc]
 have h4 : pre = (css.take k).flatten ∧ css[k] ++ post = css[k] ++ (css.drop (k + 1)).flatten := by
  rw [hf, List.append_assoc, List.append_assoc] at h3
  exact List.append_inj h3 (by rw [hp, h2])
 have h5 : post = (css.drop (k + 1)).flatten := List.append_cancel_left h4.2
 rw [h4.1, h5, List.set_eq_take_append_cons_drop, if_pos hk]
 simp
theorem aCd {t : TypeId} {ct : Ty} (hTy : aAJ P T t ct) {x : AV} {u : Value} (hs : x.solid = true) (hx : aQ c w x u) (hn : ct.cells = x.nc) {b off : Nat} {cells : Array Value} {e : TypeId} (hb : w.heap[b]? = some (.cells cells e (0, 0)))
  {pre ds post : List Value} (hc : cells.toList = pre ++ ds ++ post) (hp : pre.length = off) (hl : ds.length = x.nc) :
  aH c w x u.cells.toList ∧ u.cells.toList.length = ds.length ∧ (storeVar t ⟨b, off, none⟩ u).run P w = .ok () (w.setRow b (pre ++ u.cells.toList ++ post).toArray) := by
 have hx1 : rJ c w x u := by cases x <;> first | exact hx | (simp [AV.solid, AV.solid1] at hs)
 have hul := aKb hs hx1.1
 refine ⟨hx1.1, by rw [hul, hl], ?_⟩
 have hone := aJf hs hx1.1
 have hcs : cells.size = (pre ++ ds ++ post).length := by rw [← hc]; simp
 have hst := run_storeCells_at P b off e u.cells.toList 0 cells w hb (by
  simp only [Nat.add_zero]
  rw [hul, hcs, ← hl, ← hp]; simp) (fun v hv => by
   have := hone v hv
   cases v <;> first | rfl | exact this.elim)
 have e1 : cells.toList.take (off + 0) = pre := by rw [hc, Nat.add_zero, ← hp, List.append_assoc, List.take_left]
 have e2 : cells.toList.drop (off + 0 + u.cells.toList.length) = post := by
  rw [hc, Nat.add_zero, hul, ← hl, ← hp, ← List.length_append, List.drop_left]
 rw [e1, e2] at hst
 have hsz : u.cells.size = ct.cells := by rw [hn, ← hul]; simp
 simp only [storeVar, Sem.run_bind, dW hTy, Result.andThen_ok, hsz, ne_eq, not_true_eq_false, if_false, Sem.run_ite]
 simpa using hst
theorem aUF (hT : iS P T) (hg : Good M w0 c h w) {t : TypeId} {a x : AV} {av u : Value} (ha : aQ c w a av) (hx : aQ c w x u) (hc : (aDN T h t a x).1) :
  ∃ w', (Instr.storeAt t av u).run P w = .ok () w' ∧ dE c w c w' ∧ Good M w0 c (aDN T h t a x).2.2 w' := by
 cases a with
 | ptr i p =>
  obtain ⟨hi, b, hb, rfl⟩ := aB9 ha
  simp only [aDN] at hc ⊢
  split at hc
  ·rename_i n ho
   cases p with
   | cons _ _ => exact hc.elim
   | nil =>
   obtain ⟨h1, hbn, h3, ct, h4, h5⟩ := hc
   obtain ⟨b', cells, e, q1, q2, q3, q4⟩ := hg.objs i _ ho
   have hbb : b = b' := by rw [q1] at hb; simp [aN] at hb; exact hb.symm
   subst hbb
   have hx1 : rJ c w x u := by cases x <;> first | exact hx | (simp [AV.solid, AV.solid1] at h3)
   obtain ⟨s1, s2, s3⟩ := aCd (P := P) (hT _ _ h4) h3 hx h5 q2 (pre := []) (ds := cells.toList) (post := []) (by simp) (off := 0) rfl (by rcases q3 with q3 | ⟨_, q3⟩ <;> (simp only [Array.length_toList]; omega))
   simp only [List.nil_append, List.append_nil] at s3
   refine ⟨w.setRow b u.cells.toList.toArray, by simp [Instr.storeAt, Instr.sureAddr, kS, s3], ?_⟩
   have hsame : ∀ k, k ≠ b → (w.setRow b u.cells.toList.toArray).heap[k]? = w.heap[k]? := fun k hk => setRow_other w b k _ hk
   have hob : dO c i (.box n .junk) b := by simp [dO, q1, aN]
   have hnS := (hg.own i _ b ho hob).2.2
   have := hg.modify (o' := .box n x) ho hob (w' := w.setRow b u.cells.toList.toArray) rfl rfl rfl (by simp [World.setRow]) hsame ?_ ?_
   ·exact ⟨this.2, this.1⟩
   ·refine ⟨b, _, e, q1, setRow_heap w b cells _ e _ q2, ?_, ?_⟩
    ·have h8 : u.cells.toList.toArray.size = cells.size := by simpa using s2
     rw [h8]; exact q3
    ·have := aH.keep (c' := c) (.refl c) (fun k hk => hsame k (fun e => hnS (e ▸ hk))) _ _ s1
     simpa using this
   ·intro b' hb'
    simp [dO, q1, aN] at hb'
    exact hb'.symm
  ·rename_i n v _ ho
   obtain ⟨h1, h2, h3, ct, h4, h5⟩ := hc
   obtain ⟨b', cells, e, q1, q2, q3, q4⟩ := hg.objs i _ ho
   have hbb : b = b' := by rw [q1] at hb; simp [aN] at hb; exact hb.symm
   subst hbb
   obtain ⟨pre, ds, post, r1, r2, r3⟩ := aHP p v x cells.toList q4 h1 h2
   have hul := r3 u.cells.toList
   have hx1 : rJ c w x u := by cases x <;> first | exact hx | (simp [AV.solid, AV.solid1] at h3)
   obtain ⟨k1, k2⟩ := r3 _ hx1.1
   obtain ⟨s1, s2, s3⟩ := aCd (P := P) (hT _ _ h4) h3 hx h5 q2 r1 r2 (by rw [← k1, aKb h3 hx1.1])
   refine ⟨w.setRow b (pre ++ u.cells.toList ++ post).toArray, by simp [Instr.storeAt, Instr.sureAddr, s3], ?_⟩
   have hsame : ∀ k, k ≠ b → (w.setRow b (pre ++ u.cells.toList ++ post).toArray).heap[k]? = w.heap[k]? := fun k hk => setRow_other w b k _ hk
   have hob : dO c i (.box n v) b := by simp [dO, q1, aN]
   have hnS := (hg.own i _ b ho hob).2.2
   have := hg.modify (o' := .box n (zT v p x).2) ho hob (w' := w.setRow b (pre ++ u.cells.toList ++ post).toArray) rfl rfl rfl (by simp [World.setRow]) hsame ?_ ?_
   ·exact ⟨this.2, this.1⟩
   ·refine ⟨b, _, e, q1, setRow_heap w b cells _ e _ q2, ?_, ?_⟩
    ·have : cells.size = (pre ++ ds ++ post).length := by rw [← r1]; simp
     have h8 : (pre ++ u.cells.toList ++ post).toArray.size = cells.size := by rw [this]; simp [s2]
     rw [h8]; exact q3
    ·have := aH.keep (c' := c) (.refl c) (fun k hk => hsame k (fun e => hnS (e ▸ hk))) _ _ k2
     simpa using this
   ·intro b' hb'
    simp [dO, q1, aN] at hb'
    exact hb'.symm
  ·rename_i e ct xs ho
   cases p with
   | nil => exact hc.elim
   | cons st p =>
    cases st with
    | fld _ _ => exact hc.elim
    | idx s k =>
     simp only at hc ⊢
     split at hc
     ·rename_i y hy
      obtain ⟨h1, h2, h3, h4, h5, c', h6, h7⟩ := hc
      simp only [hy]
      obtain ⟨vals, hown, hrep⟩ := hg.objs i _ ho
      obtain ⟨hvl, hv⟩ := hown
      rcases hv with ⟨_, h0⟩ | ⟨g, cap, cur, hhd, _, hheap, hle, hcap, hsz, htake⟩
      ·omega
      have hbb : b = g := by rw [hhd] at hb; simp [aN] at hb; exact hb.symm
      subst hbb
      have hset : aCc (.val (.arr xs.length ct) xs) k (zT (.val ct (xs.getD k ct.zero)) p x).2 = .val (.arr xs.length ct) (xs.set k y) := by
       simp only [aCc, hy]
      obtain ⟨pre, ds, post, r1, r2, r3⟩ := aHP (.idx s k :: p) (.val (.arr xs.length ct) xs) x vals (show aT w c.S _ _ _ from hrep) (by
       simp only [zT]
       refine ⟨h1, h2, h3, ?_⟩
       have := hset
       simp only [elemOf]
       rw [this]; simp) (by simp only [aBs, elemOf]; exact h4)
      have hcur : cur.toList = pre ++ ds ++ (post ++ cur.toList.drop (xs.length * ct.cells)) := by
       rw [← List.append_assoc, ← r1, ← htake, List.take_append_drop]
      have hx1 : rJ c w x u := by cases x <;> first | exact hx | (simp [AV.solid, AV.solid1] at h5)
      obtain ⟨k1, k2⟩ := r3 _ hx1.1
      obtain ⟨s1, s2, s3⟩ := aCd (P := P) (hT _ _ h6) h5 hx h7 hheap hcur r2 (by rw [← k1, aKb h5 hx1.1])
      refine ⟨_, by simp only [Instr.storeAt, Instr.sureAddr, Sem.run_bind, Sem.run_pure, Result.andThen_ok]; exact s3, ?_⟩
      have hsame : ∀ k', k' ≠ b → (w.setRow b (pre ++ u.cells.toList ++ (post ++ cur.toList.drop (xs.length * ct.cells))).toArray).heap[k']? = w.heap[k']? := fun k' hk => setRow_other w b k' _ hk
      have hob : dO c i (.row e ct xs) b := by simp [dO, hhd, aN]
      have hnS := (hg.own i _ b ho hob).2.2
      have hS : vT c.S w (w.setRow b (pre ++ u.cells.toList ++ (post ++ cur.toList.drop (xs.length * ct.cells))).toArray) := fun k' hk => hsame k' (fun e => hnS (e ▸ hk))
      have hnew : aT w c.S (.arr xs.length ct) (xs.set k y) (pre ++ u.cells.toList ++ post) := by
       have := k2
       simp only [zT, elemOf] at this
       rw [hset] at this
       exact this
      have hlen : (pre ++ u.cells.toList ++ post).length = vals.length := by rw [r1]; simp [s2]
      have := hg.modify (o' := .row e ct (xs.set k y)) ho hob (w' := w.setRow b (pre ++ u.cells.toList ++ (post ++ cur.toList.drop (xs.length * ct.cells))).toArray) rfl rfl rfl (by simp [World.setRow]) hsame ?_ ?_
      ·exact ⟨this.2, this.1⟩
      ·have hl' : (xs.set k y).length = xs.length := by simp
       refine ⟨pre ++ u.cells.toList ++ post, ⟨by rw [hlen, hl', hvl], .inr ⟨b, cap, _, by rw [hl', hhd], Nat.zero_le _, setRow_heap w b cur _ e _ hheap, by rw [hl']; exact hle, hcap, ?_, ?_⟩⟩, ?_⟩
       ·rw [← hsz]
        have : cur.size = (pre ++ ds ++ (post ++ cur.toList.drop (xs.length * ct.cells))).length := by rw [← hcur]; simp
        rw [this]
        simp [s2]
       ·rw [hl', ← hvl, ← hlen]
        simp only [← List.append_assoc]
        exact List.take_left
       ·rw [hl']
        exact aT.keep (fun _ h => h) hS _ _ _ hnew
      ·intro b' hb'
       simp [dO, hhd, aN] at hb'
       exact hb'.symm
     ·exact hc.elim
  ·rename_i e m ct xs kk v ho
   cases p with
   | nil => exact hc.elim
   | cons st p =>
    cases st with
    | fld _ _ => exact hc.elim
    | idx s k =>
     simp only at hc ⊢
     obtain ⟨rfl, h2, h3, h4, h5, c', h6, h7⟩ := hc
     obtain ⟨css, Bs, q⟩ := hg.objs i _ ho
     have hk := q.kl
     have hlc := q.lc
     have hlb := q.lb
     obtain ⟨hvl, hv⟩ := q.row
     rcases hv with ⟨_, h0⟩ | ⟨g, cap, cur, hhd, _, hheap, hle, hcap, hsz, htake⟩
     ·omega
     have hbb : b = g := by rw [hhd] at hb; simp [aN] at hb; exact hb.symm
     subst hbb
     obtain ⟨hv1, hv2⟩ := q.hv (by omega)
     have hcl : ∀ j (hj : j < css.length), (css[j]).length = ct.cells := fun j hj => by
      by_cases e : j = k
      ·subst e; exact hv2
      ·exact jU.length _ _ _ _ _ (q.el j (by omega) hj (by omega) e)
     obtain ⟨pre0, post0, hf, hp0⟩ := jX (t := ct) (css := css) hcl k (by omega)
     obtain ⟨pre, ds, post, r1, r2, r3⟩ := aHP p v x css[k] hv1 h3 h4
     have hx1 : rJ c w x u := by cases x <;> first | exact hx | (simp [AV.solid, AV.solid1] at h5)
     obtain ⟨k1, k2⟩ := r3 _ hx1.1
     have hcur : cur.toList = (pre0 ++ pre) ++ ds ++ (post ++ post0 ++ cur.toList.drop (xs.length * ct.cells)) := by
      have h9 : cur.toList = css.flatten ++ cur.toList.drop (xs.length * ct.cells) := by rw [← htake, List.take_append_drop]
      rw [hf, r1] at h9
      simpa [List.append_assoc] using h9
     obtain ⟨s1, s2, s3⟩ := aCd (P := P) (off := k * ct.cells + kS p) (hT _ _ h6) h5 hx h7 hheap hcur (by rw [List.length_append, hp0, r2]) (by rw [← k1, aKb h5 hx1.1])
     refine ⟨_, by simp only [Instr.storeAt, Instr.sureAddr, Sem.run_bind, Sem.run_pure, Result.andThen_ok, kS, Step.off, h2]; exact s3, ?_⟩
     have hsame : ∀ k', k' ≠ b → (w.setRow b ((pre0 ++ pre) ++ u.cells.toList ++ (post ++ post0 ++ cur.toList.drop (xs.length * ct.cells))).toArray).heap[k']? = w.heap[k']? := fun k' hk => setRow_other w b k' _ hk
     have hbl : c.bl i b := q.bl b (by simp [hdB, hhd, aN])
     have hob : dO c i (.trh e m ct xs k v) b := hbl
     have hnS := (hg.own i _ b ho hob).2.2
     have hS : vT c.S w (w.setRow b ((pre0 ++ pre) ++ u.cells.toList ++ (post ++ post0 ++ cur.toList.drop (xs.length * ct.cells))).toArray) := fun k' hk => hsame k' (fun e => hnS (e ▸ hk))
     have hset : (css.set k (pre ++ u.cells.toList ++ post)).flatten = pre0 ++ (pre ++ u.cells.toList ++ post) ++ post0 := aUE hcl (by omega) hf hp0
     have hlen : (pre ++ u.cells.toList ++ post).length = ct.cells := by rw [← hv2, r1]; simp [s2]
     have := hg.modifyG (o' := .trh e m ct xs k (zT v p x).2) ho hob (w' := w.setRow b ((pre0 ++ pre) ++ u.cells.toList ++ (post ++ post0 ++ cur.toList.drop (xs.length * ct.cells))).toArray) rfl rfl rfl (by simp [World.setRow]) hsame ?_ (fun _ h => h)
     ·exact ⟨this.2, this.1⟩
     ·refine ⟨css.set k (pre ++ u.cells.toList ++ post), Bs, ⟨?_, by simp [hlc], hlb, hk, fun j hj h1 h2 hne => ?_, q.hb, fun h1 => ?_, q.nd, q.bl⟩⟩
      ·refine ⟨by rw [hset]; simp only [List.length_append, hlen]; rw [← hvl, hf]; simp only [List.length_append]; rw [hv2], .inr ⟨b, cap, _, hhd, Nat.zero_le _, setRow_heap w b cur _ e _ hheap, hle, hcap, ?_, ?_⟩⟩
       ·rw [← hsz]
        have : cur.size = ((pre0 ++ pre) ++ ds ++ (post ++ post0 ++ cur.toList.drop (xs.length * ct.cells))).length := by rw [← hcur]; simp
        rw [this]
        simp [s2]
       ·rw [hset]
        have e1 : (pre0 ++ pre ++ u.cells.toList ++ (post ++ post0 ++ cur.toList.drop (xs.length * ct.cells))).toArray.toList = (pre0 ++ (pre ++ u.cells.toList ++ post) ++ post0) ++ cur.toList.drop (xs.length * ct.cells) := by simp [List.append_assoc]
        have e2 : css.flatten.length = (pre0 ++ (pre ++ u.cells.toList ++ post) ++ post0).length := by
         rw [hf]; simp only [List.length_append]; rw [hv2]
         simp only [List.length_append] at hlen; omega
        rw [e1, show xs.length * ct.cells = (pre0 ++ (pre ++ u.cells.toList ++ post) ++ post0).length from by rw [← hvl, e2]]
        exact List.take_left
      ·rw [List.getElem_set_ne (fun e => hne e.symm)]
       simp only [List.length_set] at h1
       exact jU.keep (fun _ h => h) hS _ _ _ _ _ (fun b' hb' => hsame b' (fun e => by
        subst e
        have := q.nd
        rw [hhd] at this
        simp only [hdB, aN, List.singleton_append, List.nodup_cons] at this
        exact this.1 (List.mem_flatten.2 ⟨_, List.getElem_mem h2, hb'⟩))) (q.el j hj h1 h2 hne)
      ·rw [List.getElem_set_self]
       exact ⟨aH.keep (c' := c) (.refl c) hS _ _ k2, hlen⟩
  ·exact hc.elim
 | _ => exact hc.elim
theorem SlR.flat {S : Nat → Prop} {t : Ty} {xs : List t.den} {a : Option Addr} {len cap : Nat} (hs : SlR w S (aT w S t) t.cells xs a len cap) : ∃ css : List (List Value), css.length = xs.length ∧ css.flatten.length = xs.length * t.cells ∧ aT w S (.arr xs.length t) xs css.flatten ∧ (xs = [] ∨ ∃ b off, a = some ⟨b, off, none⟩ ∧ jC w b off css.flatten) := by
 obtain ⟨h1, h2, h3, h4⟩ := hs
 rcases h4 with rfl | ⟨b, off, rfl, hb, hel⟩
 ·exact ⟨[], rfl, by simp, ⟨rfl, [], rfl, rfl, fun i h => by simp at h⟩, .inl rfl⟩
 ·have hall : ∃ css : List (List Value), css.length = xs.length ∧ ∀ i (h : i < xs.length) (h' : i < css.length), aT w S t xs[i] css[i] ∧ jC w b (off + i * t.cells) css[i] := by
   have : ∀ n, n ≤ xs.length → ∃ css : List (List Value), css.length = n ∧ ∀ i (h : i < xs.length) (h' : i < css.length), aT w S t xs[i] css[i] ∧ jC w b (off + i * t.cells) css[i] := by
    intro n
    induction n with
    | zero => intro _; exact ⟨[], rfl, fun i h h' => by simp at h'⟩
    | succ n ih =>
     intro hn
     obtain ⟨css, hl, hc⟩ := ih (by omega)
     obtain ⟨ds, hd, hcell⟩ := hel n (by omega)
     refine ⟨css ++ [ds], by simp [hl], fun i hi hi' => ?_⟩
     by_cases hin : i < n
     ·rw [List.getElem_append_left (by omega)]; exact hc i hi (by omega)
     ·have : i = n := by simp [hl] at hi'; omega
      subst this
      rw [List.getElem_append_right (by omega)]
      simp only [hl, Nat.sub_self, List.getElem_cons_zero]
      exact ⟨hd, hcell⟩
   exact this xs.length (Nat.le_refl _)
  obtain ⟨css, hl, hc⟩ := hall
  have hlen : ∀ j (hj : j < css.length), (css[j]).length = t.cells := fun j hj => aT.length _ _ _ (hc j (by omega) hj).1
  have hfl : css.flatten.length = xs.length * t.cells := by rw [jD hlen, hl]
  refine ⟨css, hl, hfl, ⟨rfl, css, rfl, hl, fun i h h' => (hc i h h').1⟩, .inr ⟨b, off, rfl, ?_⟩⟩
  intro j v hj
  have hjl : j < css.length * t.cells := by
   rcases Nat.lt_or_ge j (css.length * t.cells) with h | h
   ·exact h
   ·rw [List.getElem?_eq_none (by rw [hfl, ← hl]; exact h)] at hj; cases hj
  have htp : 0 < t.cells := by
   rcases Nat.eq_zero_or_pos t.cells with h | h
   ·rw [h] at hjl; omega
   ·exact h
  have hi : j / t.cells < css.length := Nat.div_lt_of_lt_mul (by rw [Nat.mul_comm]; exact hjl)
  obtain ⟨pre, post, hf, hp⟩ := jX (t := t) (css := css) hlen (j / t.cells) hi
  have hdm := Nat.div_add_mod j t.cells
  have hml := Nat.mod_lt j htp
  have : (css[j / t.cells])[j % t.cells]? = some v := by
   have e : j - pre.length = j % t.cells := by rw [hp, Nat.mul_comm]; omega
   have e1 : pre.length ≤ j := by rw [hp, Nat.mul_comm]; omega
   have hl2 := hlen _ hi
   generalize css[j / t.cells] = ds at hf hl2 ⊢
   rw [hf, List.append_assoc, List.getElem?_append_right e1, e, List.getElem?_append_left (by omega)] at hj
   exact hj
  have := (hc (j / t.cells) (by omega) hi).2 _ _ this
  have e4 : off + j / t.cells * t.cells + j % t.cells = off + j := by rw [Nat.mul_comm, Nat.add_assoc, hdm]
  rw [e4] at this
  exact this
end
end Go.Vc
namespace Go.Vc
open Go.RowKit
section
variable {P : Program} {E : Env} {T : Tab} {M : Perm} {w0 : World} {c : Ctx} {h : List Obj} {w : World}
theorem yD (w : World) (o : Go.Obj) : (w.alloc o).heap[w.heap.size]? = some o := by
 show (w.heap.push o)[w.heap.size]? = some o
 simp
theorem uW {ct : Ty} (hok : ct.okB = true) : (jO ct).cells = (cC ct).toArray := by
 have w : World := default
 have hzc : (jO ct).cells.toList = cC ct := by
  unfold jO
  split
  ·simp [Value.cells]
  ·have h1 : (cC ct).length = 1 := by
    rw [aT.length _ _ _ (eI w (fun _ => False) ct hok)]
    rename_i ha
    cases ct <;> simp_all [Ty.isAgg, Ty.cells]
   match hzz : cC ct, h1 with
   | [v], _ =>
    have hone := aT.one ct _ _ (eI w (fun _ => False) ct hok) v (by rw [hzz]; simp)
    simp only [List.headD_cons]
    cases v <;> first | rfl | exact hone.elim
 rw [← hzc]
theorem gI {ct : Ty} (hok : ct.okB = true) : (cC ct).length = ct.cells := aT.length _ _ _ (eI (default : World) (fun _ => False) ct hok)
theorem aG4 {S : Nat → Prop} {t : Ty} {xs ys : List t.den} {vs us : List Value} (h1 : aT w S (.arr xs.length t) xs vs) (h2 : aT w S (.arr ys.length t) ys us) : aT w S (.arr (xs ++ ys).length t) (xs ++ ys) (vs ++ us) := by
 obtain ⟨_, cs, rfl, hl, hr⟩ := h1
 obtain ⟨_, ds, rfl, hl', hr'⟩ := h2
 refine ⟨rfl, cs ++ ds, by simp, by simp [hl, hl'], fun i hi hi' => ?_⟩
 by_cases hlt : i < xs.length
 ·rw [List.getElem_append_left hlt, List.getElem_append_left (by omega)]; exact hr i hlt (by omega)
 ·rw [List.getElem_append_right (by omega), List.getElem_append_right (by omega)]
  have := hr' (i - xs.length) (by simp at hi; omega) (by simp at hi; omega)
  simpa [hl] using this
theorem aXF (hg : Good M w0 c h w) {ct : Ty} {x : AV} {xv : Value} {ys : List ct.den} (hx : aQ c w x xv) (ha : AV.as (if ct.scalar then h else h.map eG) (.sl ct) x = some ys) :
  ∃ a cap news, xv = .slice a ys.length cap ∧ ys.length ≤ cap ∧ news.length = ys.length * ct.cells ∧ aT w c.S (.arr ys.length ct) ys news ∧ (ys = [] ∨ ∃ b off, a = some ⟨b, off, none⟩ ∧ jC w b off news) := by
 by_cases hs : ct.scalar = true
 ·rw [if_pos hs] at ha
  have hv := aF2 hg hx ha
  obtain ⟨a, len, cap, rfl, hsl⟩ := aBj (c := ⟨aB8 c h, c.hd, c.n, c.bl⟩) hv
  obtain ⟨css, _, hfl, hr, hor⟩ := hsl.flat
  obtain ⟨rfl, hle, _, _⟩ := hsl
  exact ⟨a, cap, css.flatten, rfl, hle, hfl, aT.scalar _ _ _ (by simpa [Ty.scalar] using hs) hr, hor⟩
 ·rw [if_neg hs] at ha
  have hv := rZ hg hx ha
  obtain ⟨a, len, cap, rfl, hsl⟩ := aBj (c := c) hv
  obtain ⟨css, _, hfl, hr, hor⟩ := hsl.flat
  obtain ⟨rfl, hle, _, _⟩ := hsl
  exact ⟨a, cap, css.flatten, rfl, hle, hfl, hr, hor⟩
theorem aEq {t ty e : TypeId} {i : TypeInfo} (ht : P.underlying t = some (.slice e)) (hi : P.info? e = some i) {v : Value} {n : Nat} {xs : List Value} (hown : w.ownsRow 0 e i.size v n xs) {a : Option Addr} {cap : Nat} (hcap : 0 ≤ cap) :
  (Builtin.append_ #[t, t] ty #[v, .slice a 0 cap]).run P w = .ok v w := by
 rcases hown.2 with ⟨rfl, rfl⟩ | ⟨g, cp, cur, rfl, _, hg, hnc, hcm, hcs, htake⟩
 ·cases a <;> simp [Builtin.append_, run_underlying ht, sizeOf, typeInfo, hi, Builtin.lenOf, Builtin.firstCells, loadCells, loadCellsFrom]
 ·cases a <;> simp [Builtin.append_, run_underlying ht, sizeOf, typeInfo, hi, Builtin.lenOf, Builtin.firstCells, loadCells, loadCellsFrom, hnc, storeCells]
theorem pK {v : Value} (h : ∃ a n m, v = .slice a n m) : aN v = v.ownBlock := by
 obtain ⟨a, n, m, rfl⟩ := h
 cases a <;> rfl
theorem iD {B : Nat} {e : TypeId} {sz : Nat} {v : Value} {n : Nat} {xs : List Value} (h : w.ownsRow B e sz v n xs) : ∃ a n m, v = .slice a n m := by
 rcases h.2 with ⟨rfl, _⟩ | ⟨g, cap, cur, rfl, _⟩
 ·exact ⟨_, _, _, rfl⟩
 ·exact ⟨_, _, _, rfl⟩
theorem aMn (hE : fU P E) {t ty : TypeId} {ct : Ty} (ht : E.T t = some (.sl ct)) (hok : ct.okB = true) {sv xv : Value} {xs ys : List ct.den} (hS : True)
  (hrow : vU c w (E.el t) ct xs sv) {a : Option Addr} {cap : Nat} {news : List Value} (hxv : xv = .slice a ys.length cap) (hnl : news.length = ys.length * ct.cells) (hnr : aT w c.S (.arr ys.length ct) ys news) (hor : ys = [] ∨ ∃ b off, a = some ⟨b, off, none⟩ ∧ jC w b off news)
  (hb : bound ct (xs.length + ys.length)) (hSb : ∀ b, c.S b → b < w.heap.size ∧ aN sv ≠ some b) :
  ∃ v' w', (Builtin.append_ #[t, t] ty #[sv, xv]).run P w = .ok v' w' ∧ w.grownBy w' (aN sv) ∧ vU c w' (E.el t) ct (xs ++ ys) v' ∧ (∀ b, aN v' = some b → aN sv = some b ∨ (w.heap.size ≤ b ∧ b < w'.heap.size)) ∧ ∃ a n m, v' = .slice a n m := by
 have hd := hE.el t ct ht
 obtain ⟨e', hd', hTe', hpos⟩ := eE (hE.T _ _ ht)
 have : e' = E.el t := by rw [hd] at hd'; cases hd'; rfl
 subst this
 have hTe := hE.T _ _ hTe'
 obtain ⟨i, hi, hsz, hz, hby⟩ := hTe.info
 obtain ⟨vals, hown, hrep⟩ := hrow
 rw [← hsz] at hown
 subst hxv
 rcases hor with rfl | ⟨b, off, rfl, hcell⟩
 ·have hrun := aEq (P := P) (ty := ty) hd hi hown (a := a) (cap := cap) (Nat.zero_le _)
  refine ⟨sv, w, hrun, ⟨rfl, rfl, rfl, Nat.le_refl _, fun _ _ _ => rfl⟩, ?_, fun b hb => .inl hb, iD hown⟩
  rw [List.append_nil]
  exact ⟨vals, by rw [← hsz]; exact hown, hrep⟩
 ·have hone : ∀ u ∈ news, u.oneCell' = true := fun u hu => by
   have := aT.one _ _ _ hnr u hu
   cases u <;> first | rfl | exact this.elim
  obtain ⟨v', w', hrun, hown', hgr, _, hat⟩ := run_append_own_at (P := P) w 0 t ty (E.el t) i (jO ct) ct.cells i.bytes hd hi (hz hok) hsz rfl (by rw [uW hok]; simp [gI hok]) hpos sv xs.length vals (by rw [← hsz]; exact hown)
   ⟨b, off, none⟩ ys.length cap news hnl (fun j u hj => by rw [pZ]; exact hcell j u hj) hone hb.1 (Nat.le_trans (Nat.mul_le_mul_left _ hby) hb.2) (Nat.zero_le _)
  have hsl := iD hown
  have hsl' := iD hown'
  rw [← pK hsl] at hgr hat
  rw [← pK hsl'] at hat
  have hsame : vT c.S w w' := fun b hb => hgr.block b (hSb b hb).1 (fun e => (hSb b hb).2 e.symm)
  refine ⟨v', w', hrun, hgr, ?_, fun b hb => ?_, hsl'⟩
  ·have := aG4 hrep hnr
   exact ⟨vals ++ news, by simpa using hown', aT.keep (fun _ h => h) hsame _ _ _ this⟩
  ·rcases hat with hat | hat
   ·left; rw [← hat]; exact hb
   ·right
    rw [hat] at hb
    cases hb
    refine ⟨Nat.le_refl _, ?_⟩
    rcases hown'.2 with ⟨rfl, _⟩ | ⟨g, cp, cur, rfl, _, hheap, _⟩
    ·cases hat
    ·simp [aN] at hat
     subst hat
     exact (Array.getElem?_eq_some_iff.1 hheap).1
theorem aBu {v' : Value} (h : ∃ a n m, v' = .slice a n m) {w' : World} {S' : Nat → Prop} : aQ (c.pushS S' v') w' (.own c.n) v' := by
 obtain ⟨a, n, m, rfl⟩ := h
 refine ⟨⟨Nat.lt_succ_self c.n, ?_, ?_⟩, (fun h => by cases h), (fun _ cs => by simp)⟩
 ·show [Value.slice a n m] = [if c.n = c.n then Value.slice a n m else c.hd c.n]
  rw [if_pos rfl]
 ·show one (if c.n = c.n then Value.slice a n m else c.hd c.n)
  rw [if_pos rfl]; trivial
theorem aTA (hE : fU P E) (hg : Good M w0 c h w) {t ty : TypeId} {s x : AV} {sv xv : Value} (hs : aQ c w s sv) (hx : aQ c w x xv) (hc : (rL E h t s x).1) :
  ∃ v' w' c', (Builtin.append_ #[t, t] ty #[sv, xv]).run P w = .ok v' w' ∧ dE c w c' w' ∧ Good M w0 c' (rL E h t s x).2.2 w' ∧ aQ c' w' (rL E h t s x).2.1 v' := by
 unfold rL at hc ⊢
 split at hc
 ·rename_i ct ht
  split at hc
  ·rename_i ys hys
   try simp only [hys]
   obtain ⟨a, cap, news, hxv, hcap, hnl, hnr, hor⟩ := aXF hg hx hys
   split at hc
   ·
    obtain ⟨hb, hok⟩ := hc
    have hsv : sv = .slice none 0 0 := by
     obtain ⟨h1, _, h3⟩ := hs
     have h3 := h3 rfl
     simp only [aH] at h1
     cases sv <;> simp [Value.cells] at h1 h3 <;> simp [h1]
    subst hsv
    obtain ⟨v', w', hrun, hgr, hrow, hbl, hsl⟩ := aMn (c := c) (w := w) (P := P) (ty := ty) (xs := []) hE ht hok trivial (sv := .slice none 0 0) ⟨[], ⟨by simp, .inl ⟨rfl, rfl⟩⟩, ⟨rfl, [], rfl, rfl, fun i h => by simp at h⟩⟩ hxv hnl hnr hor (by simpa using hb) (fun b hb => ⟨hg.sfin b hb, by simp [aN]⟩)
    have hk : fJ nothing w w' := ⟨hgr.os, hgr.tape, hgr.output, hgr.size, fun b hb _ => hgr.block b hb (by simp [aN])⟩
    have := hg.push hk (o := .row (E.el t) ct ys) (hv := v') (by
     show vU _ _ _ _ _ _
     have e : (c.push v').hd c.n = v' := by simp [Ctx.push]
     rw [e]
     exact hrow) (fun b hb => by
     have e : (c.push v').hd c.n = v' := by simp [Ctx.push]
     simp only [dO, e] at hb
     rcases hbl b hb with h1 | h1
     ·simp [aN] at h1
     ·exact h1)
    refine ⟨v', w', _, hrun, this.2, this.1, ?_⟩
    have := aBu (c := c) hsl (w' := w') (S' := c.S)
    rw [← hg.n]
    exact this
   ·rename_i i
    split at hc
    ·rename_i e c' xs ho
     split at hc
     ·rename_i xs' hcast
      obtain ⟨rfl, rfl⟩ := aBt hcast
      obtain ⟨rfl, hb, hok⟩ := hc
      have hsv := (yV hs).2
      have hrow0 : vU c w (E.el t) _ _ (c.hd i) := hg.objs i _ ho
      subst hsv
      obtain ⟨v', w', hrun, hgr, hrow, hbl, hsl⟩ := aMn (c := c) (w := w) (P := P) (ty := ty) hE ht hok trivial hrow0 hxv hnl hnr hor hb (fun b hb => ⟨hg.sfin b hb, fun e => (hg.own i _ b ho e).2.2 hb⟩)
      have := hg.regrow ho hgr hrow hbl
      refine ⟨v', w', _, hrun, this.2, this.1, ?_⟩
      have := aBu (c := c) hsl (w' := w') (S' := c.S)
      rw [← hg.n]
      exact this
     ·exact hc.elim
    ·exact hc.elim
   ·exact hc.elim
  ·exact hc.elim
 ·exact hc.elim
theorem aWn (hE : fU P E) (hg : Good M w0 c h w) {t : TypeId} {l cp : AV} {lv cv : Value} (hl : aQ c w l lv) (hcp : aQ c w cp cv) (hc : (aJn E h t l cp).1) :
  ∃ v' w' c', (Instr.makeSlice t lv cv).run P w = .ok v' w' ∧ dE c w c' w' ∧ Good M w0 c' (aJn E h t l cp).2.2 w' ∧ aQ c' w' (aJn E h t l cp).2.1 v' := by
 unfold aJn at hc ⊢
 split at hc
 ·rename_i ct ht
  split at hc
  ·rename_i n m hn hm
   obtain ⟨hok, h0, h1, h2, h3⟩ := hc
   obtain ⟨k1, rfl⟩ := vZ hl hn
   obtain ⟨k2, rfl⟩ := vZ hcp hm
   have hd := hE.el t ct ht
   obtain ⟨e', hd', hTe', hpos⟩ := eE (hE.T _ _ ht)
   have : e' = E.el t := by rw [hd] at hd'; cases hd'; rfl
   subst this
   obtain ⟨i, hi, hsz, hz, hby⟩ := (hE.T _ _ hTe').info
   have hbytes : (i.bytes : Int) * m ≤ 281474976710656 := by
    have : (i.bytes : Int) * m ≤ (ct.byt : Int) * m := Int.mul_le_mul_of_nonneg_right (by omega) (by omega)
    omega
   have hrun := run_make (P := P) w t (E.el t) i (jO ct) hd hi (hz hok) k1 k2 n m h0 h1 hbytes (by simp only [maxLen] at h3; omega)
   have hk : fJ nothing w (w.alloc (.cells (madeCells (jO ct).cells (m.toNat * i.size)) (E.el t) (0, 0))) := fJ.alloc nothing w _
   have hrow : vU c (w.alloc (.cells (madeCells (jO ct).cells (m.toNat * i.size)) (E.el t) (0, 0))) (E.el t) ct (List.replicate n.toNat ct.zero) (.slice (some ⟨w.heap.size, 0, none⟩) n.toNat m.toNat) := by
    have hcells : (madeCells (jO ct).cells (m.toNat * i.size)).toList = (List.replicate m.toNat (cC ct)).flatten := by
     rw [hsz, uW hok, ← gI hok]
     exact uF _ _ (by rw [gI hok]; exact hpos)
    have hsplit : (List.replicate m.toNat (cC ct)).flatten = (List.replicate n.toNat (cC ct)).flatten ++ (List.replicate (m.toNat - n.toNat) (cC ct)).flatten := by
     rw [← List.flatten_append, List.replicate_append_replicate]
     congr 2; omega
    have hlen : (List.replicate n.toNat (cC ct)).flatten.length = n.toNat * ct.cells := by simp [gI hok]
    refine ⟨(List.replicate n.toNat (cC ct)).flatten, ⟨by simp [gI hok], .inr ⟨w.heap.size, m.toNat, _, by simp, Nat.zero_le _, yD w _, by simp; omega, by omega, by rw [size_madeCells, hsz], ?_⟩⟩, ?_⟩
    ·rw [hcells, hsplit, List.length_replicate, ← hlen]; exact List.take_left
    ·have := eI (w.alloc (.cells (madeCells (jO ct).cells (m.toNat * i.size)) (E.el t) (0, 0))) c.S (.arr n.toNat ct) hok
     rw [List.length_replicate]
     exact this
   have := hg.push hk (o := .row (E.el t) ct (List.replicate n.toNat ct.zero)) (hv := .slice (some ⟨w.heap.size, 0, none⟩) n.toNat m.toNat) (by
    show vU _ _ _ _ _ _
    have e : (c.push (.slice (some ⟨w.heap.size, 0, none⟩) n.toNat m.toNat)).hd c.n = .slice (some ⟨w.heap.size, 0, none⟩) n.toNat m.toNat := by simp [Ctx.push]
    rw [e]
    exact hrow) (fun b hb => by
    have e : (c.push (.slice (some ⟨w.heap.size, 0, none⟩) n.toNat m.toNat)).hd c.n = .slice (some ⟨w.heap.size, 0, none⟩) n.toNat m.toNat := by simp [Ctx.push]
    simp only [dO, e, aN, Option.some.injEq] at hb
    subst hb
    exact ⟨Nat.le_refl _, by simp⟩)
   refine ⟨_, _, _, hrun, this.2, this.1, ?_⟩
   have := aBu (c := c) (v' := .slice (some ⟨w.heap.size, 0, none⟩) n.toNat m.toNat) ⟨_, _, _, rfl⟩ (w' := w.alloc (.cells (madeCells (jO ct).cells (m.toNat * i.size)) (E.el t) (0, 0))) (S' := c.S)
   rw [← hg.n]
   exact this
  ·exact hc.elim
 ·exact hc.elim
theorem aHQ {c : Ctx} {w : World} {ct : Ty} (hok : ct.okB = true) : aH c w (aEV ct) (jO ct).cells.toList ∧ (aEV ct).solid = true ∧ (aEV ct).nc = ct.cells ∧ aQ c w (aEV ct) (jO ct) := by
 unfold aEV
 cases h : aL0 ct with
 | false =>
  cases hs : aLZ ct with
  | true =>
   obtain ⟨b, rfl⟩ := aT7 hs
   have hc : aH c w .nilS (jO (.sl b)).cells.toList := rfl
   exact ⟨hc, rfl, rfl, hc, (fun h => by cases h), fun _ cs => by simp [jO, cC, Ty.isAgg]⟩
  | false =>
   have := aQ.ofV (aEZ w c.S ct hok)
   exact ⟨this.1, rfl, rfl, this⟩
 | true =>
  obtain ⟨b, rfl⟩ := aQh h
  have hc : aH c w (.agg [.nilP, .nilS]) (jO (.pair .nilp (.pair (.sl b) .unit))).cells.toList := by
   simp only [aH]
   exact ⟨[.pointer none], [.slice none 0 0], rfl, rfl, [.slice none 0 0], [], rfl, rfl, rfl⟩
  refine ⟨hc, rfl, rfl, hc, fun _ => ⟨_, rfl⟩, (fun h => by cases h)⟩
theorem aJo (hg : Good M w0 c h w) {t : TypeId} {x : AV} {v : Value} {n : Nat} (hn : aV8 n x.nc t) (hs : x.solid = true) (hx : aQ c w x v) :
  ∃ w' c', (newVar t v).run P w = .ok ⟨w.heap.size, 0, none⟩ w' ∧ dE c w c' w' ∧ Good M w0 c' (h ++ [.box n x]) w' ∧ aQ c' w' (.ptr h.length []) (.pointer (some ⟨w.heap.size, 0, none⟩)) := by
 have hx1 : rJ c w x v := by cases x <;> first | exact hx | (simp [AV.solid, AV.solid1] at hs)
 have hnc := aKb hs hx1.1
 have hk : fJ nothing w (w.alloc (.cells v.cells t (0, 0))) := fJ.alloc nothing w _
 have e : (c.push (.pointer (some ⟨w.heap.size, 0, none⟩))).hd c.n = .pointer (some ⟨w.heap.size, 0, none⟩) := by simp [Ctx.push]
 have := hg.push hk (o := .box n x) (hv := .pointer (some ⟨w.heap.size, 0, none⟩)) (by
  refine ⟨w.heap.size, v.cells, t, e, yD w _, by rw [← hnc] at hn; simpa using hn, ?_⟩
  exact aH.keep (c.le_push _) (fun b hb => hk.block b (hg.sfin b hb) (fun f => f)) _ _ hx1.1) (fun b hb => by
  simp only [dO, e, aN, Option.some.injEq] at hb
  subst hb
  exact ⟨Nat.le_refl _, by simp⟩)
 refine ⟨_, _, by simp [newVar, newRow], this.2, this.1, ?_⟩
 rw [← hg.n]
 refine ⟨⟨Nat.lt_succ_self c.n, w.heap.size, by rw [e]; rfl, rfl⟩, (fun h => by cases h), (fun _ cs => by simp)⟩
theorem aRE {G : Nat → AV} {Γ : FuncId → List AV → Option aF} {f : FuncId} {vs : List AV} {xs : Array Value} (hΓ : ∀ sp, Γ f vs = some sp → FOK P G f sp) (hg : Good M w0 c h w) (hG : oW G c.S w) (hl : xs.size = vs.length)
  (hv : ∀ i (h1 : i < vs.length) (h2 : i < xs.size), aQ c w vs[i] xs[i]) (hc : (aF4 Γ h f vs).1) :
  Calls P f xs w fun e w' => ∃ v c', e = .returned v ∧ dE c w c' w' ∧ Good M w0 c' (aF4 Γ h f vs).2.2 w' ∧ aQ c' w' (aF4 Γ h f vs).2.1 v := by
 unfold aF4 at hc ⊢
 split at hc
 ·rename_i sp hf
  split at hc
  ·rename_i a e t pre fn
   split at hc
   ·rename_i x ha
    have hl' : xs.toList.length = vs.length := by simpa using hl
    have hv' : ∀ i (h1 : i < vs.length) (h2 : i < xs.toList.length), aQ c w vs[i] xs.toList[i] := fun i h1 h2 => by
     have := hv i h1 (by simpa using h2)
     simpa using this
    have key : ∃ S0 : Nat → Prop, (∀ b, S0 b → b < w.heap.size) ∧ oW G S0 w ∧ nT w S0 a x xs.toList ∧ (t.scalar = true ∨ ∀ b, S0 b → c.S b) := by
     by_cases hs : t.scalar = true
     ·rw [if_pos hs] at ha
      exact ⟨aB8 c h, aQp hg, hG.mono (fun b hb => .inl hb) (.refl _ _), aPl hg _ _ _ _ ha hl' hv', .inl hs⟩
     ·rw [if_neg hs] at ha
      exact ⟨c.S, hg.sfin, hG, aE6 hg ha hl' hv', .inr fun b hb => hb⟩
    obtain ⟨S0, k1, k2, k3, k4⟩ := key
    refine (hΓ _ hf w S0 xs x k1 k2 k3 hc).mono ?_
    rintro ex w' ⟨v, rfl, hk, vals, hown, hrep⟩
    have hsl := iD hown
    have e1 : (c.pushS (fun b => c.S b ∨ (w.heap.size ≤ b ∧ b < w'.heap.size ∧ aN v ≠ some b)) v).hd c.n = v := by simp [Ctx.pushS]
    have := hg.pushS hk (S' := fun b => c.S b ∨ (w.heap.size ≤ b ∧ b < w'.heap.size ∧ aN v ≠ some b)) (fun b hb => .inl hb) (fun b hb => hb.imp id fun hb => ⟨hb.1, hb.2.1⟩) (o := .row e t (fn x)) (hv := v) (by
     show vU _ _ _ _ _ _
     rw [e1]
     refine ⟨vals, ?_, ?_⟩
     ·exact ⟨hown.1, hown.2.imp id fun ⟨g, cap, cur, h1, h2, h3⟩ => ⟨g, cap, cur, h1, Nat.zero_le _, h3⟩⟩
     ·rcases k4 with hs | hS
      ·exact aT.scalar _ _ _ (by simpa [Ty.scalar] using hs) hrep
      ·exact aT.keep (fun b hb => hb.imp (hS b) id) (.refl _ _) _ _ _ hrep) (fun b hb => by
     simp only [dO, e1] at hb
     rcases hown.2 with ⟨rfl, _⟩ | ⟨g, cap, cur, rfl, hBg, hheap, _⟩
     ·cases hb
     ·simp [aN] at hb
      subst hb
      have hlt := (Array.getElem?_eq_some_iff.1 hheap).1
      refine ⟨hBg, hlt, fun hS => ?_⟩
      rcases hS with hS | hS
      ·have := hg.sfin _ hS; omega
      ·exact hS.2.2 rfl)
    refine ⟨v, _, rfl, this.2, this.1, ?_⟩
    have := aBu (c := c) hsl (w' := w') (S' := fun b => c.S b ∨ (w.heap.size ≤ b ∧ b < w'.heap.size ∧ aN v ≠ some b))
    rw [← hg.n]
    exact this
   ·exact hc.elim
  ·exact hc.elim
 ·exact hc.elim
end
end Go.Vc
