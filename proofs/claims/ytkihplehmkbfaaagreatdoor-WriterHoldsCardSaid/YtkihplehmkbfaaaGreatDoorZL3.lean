import Derived.Test.YtkihplehmkbfaaaGreatDoorZL2
import Derived.Maps.AppendAt
import Derived.Lib.AppendStr
set_option linter.unusedVariables false
set_option linter.unusedSimpArgs false
namespace Go.Vc
open Go.RowKit
structure Sim (E : Env) (M : Perm) (w0 : World) (nt : Nat) (ds : List Deferred) (c : Ctx) (env : List (Nat × AV)) (h : List Obj) (a : Act) (w : World) : Prop where
 good : Good M w0 c h w
 glob : oD E.G c.S w
 env : aCl c w env a.tmps
 size : a.tmps.size = nt
 defers : a.defers = ds
def eM (nt : Nat) (o : Oper) : Bool :=
 o.op.operands.all jQ && (match o.dst with | some d => decide (d < nt) | none => true)
section
variable {P : Program} {E : Env} {M : Perm} {w0 : World} {nt : Nat} {ds : List Deferred} {h : List Obj} {env : List (Nat × AV)} {ops : List Oper} {F : Nat → List Ent} {Q : Exit → Act → World → Prop}
theorem Did.wp {c : Ctx} {o : Oper} {a : Act} {w : World} {av : AV} {next : Act → World → Prop} (hd : Did P M w0 h c o a w av) (hn : ∀ v w' c', aCA P M w0 h c w av v w' c' → next (a.put o.dst v) w') : o.wp P a w next Q := by
 rcases hd with ⟨v, w', c', hr, ha⟩ | ⟨f, args, hr, hc⟩
 ·unfold Oper.wp; rw [hr]; exact hn v w' c' ha
 ·unfold Oper.wp
  rw [hr]
  refine Calls.mono hc ?_
  rintro e w' ⟨v, c', rfl, ha⟩
  exact hn v w' c' ha
theorem Did.wp' {c : Ctx} {o : Oper} {a : Act} {w : World} {av : AV} {next : Act → World → Prop} (hd : Did P M w0 h c o a w av) (hn : ∀ v w' c', aCA P M w0 h c w av v w' c' → ((execOp a.eval o).run P w = .ok (.value v) w' ∨ ∃ f args, (execOp a.eval o).run P w = .ok (.enter f args) w) → next (a.put o.dst v) w') : o.wp P a w next Q := by
 rcases hd with ⟨v, w', c', hr, ha⟩ | ⟨f, args, hr, hc⟩
 ·have := hn v w' c' ha (.inl hr)
  unfold Oper.wp; rw [hr]; exact this
 ·have hn' := fun v w' c' ha => hn v w' c' ha (.inr ⟨f, args, hr⟩)
  unfold Oper.wp
  rw [hr]
  refine Calls.mono hc ?_
  rintro e w' ⟨v, c', rfl, ha⟩
  exact hn' v w' c' ha
structure aXm (T : Tab) (o : Oper) (a : Act) (c' : Ctx) (w' : World) (c'' : Ctx) (a'' : Act) (w'' : World) : Prop where
 keeps : fM nothing w' w''
 new : ∀ b, c''.S b → c'.S b ∨ w'.heap.size ≤ b
 put : ∃ v, a'' = a.put o.dst v ∧ ∀ t, o.op = .alloc t → o.guard = none → ∃ ct, T t = some ct ∧ v = .pointer (some ⟨w'.heap.size, 0, none⟩) ∧ w'' = w'.alloc (.cells (nD ct).cells t (0, 0)) ∧ c'' = c'
structure Mid (E : Env) (M : Perm) (w0 : World) (nt : Nat) (ds : List Deferred) (h : List Obj) (env : List (Nat × AV)) (ops : List Oper) (F : Nat → List Ent) (c : Ctx) (w : World) (listed : Nat → Prop) (c' : Ctx) (a : Act) (w' : World) : Prop where
 later : dN c w c' w'
 n : c'.n = c.n
 good : Good M w0 c' h w'
 size : a.tmps.size = nt
 defers : a.defers = ds
 base : ∀ t, (∀ k o, listed k → ops[k]? = some o → o.dst ≠ some t) → aP c' w' (look env t) (a.tmps.getD t Go.undef)
 ent : ∀ i e, listed i → rR (F ops.length) i = some e → (fC (F ops.length) e.gp → aP c' w' e.av (a.tmps.getD e.d Go.undef)) ∧ (¬ fC (F ops.length) e.gp → a.tmps.getD e.d Go.undef = Go.undef)
theorem aRh {a : Act} {d t : Nat} {v : Value} (hd : d < a.tmps.size) : (a.put (some d) v).tmps.getD t Go.undef = if d = t then v else a.tmps.getD t Go.undef := by
 simp only [Act.put]
 by_cases e : d = t
 ·subst e; simp [hd]
 ·rw [if_neg e]; simp [Array.getElem?_setIfInBounds_ne e]
theorem aRi (hF : rP E h env ops F) {c c' c'' : Ctx} {w w' w'' : World} {listed : Nat → Prop} {a : Act} (hm : Mid E M w0 nt ds h env ops F c w listed c' a w') {i : Nat} {o : Oper} (ho : ops[i]? = some o) {d : Nat} (hd : o.dst = some d) (hdn : d < nt)
  (huniq : ∀ k ok, ops[k]? = some ok → ok.dst = some d → k = i) (hni : ¬ listed i) (hl : dN c' w' c'' w'') (hn : c''.n = c'.n) (hg : Good M w0 c'' h w'') {v : Value}
  (hv : ∀ e, rR (F ops.length) i = some e → (fC (F ops.length) e.gp → aP c'' w'' e.av v) ∧ (¬ fC (F ops.length) e.gp → v = Go.undef)) :
  Mid E M w0 nt ds h env ops F c w (fun k => listed k ∨ k = i) c'' (a.put o.dst v) w'' := by
 have hds : d < a.tmps.size := by rw [hm.size]; exact hdn
 rw [hd]
 refine ⟨hm.later.trans hl, hn.trans hm.n, hg, by simp [Act.put, hm.size], hm.defers, fun t ht => ?_, fun k e hk he => ?_⟩
 ·rw [aRh hds]
  have hne : d ≠ t := fun e => ht i o (.inr rfl) ho (by rw [hd, e])
  rw [if_neg hne]
  exact hl.val (hm.base t fun k ok hk hko => ht k ok (.inl hk) hko)
 ·have hkl : k < ops.length := by
   rcases Nat.lt_or_ge k ops.length with h | h
   ·exact h
   ·rw [(iP hF ops.length (Nat.le_refl _) k).2 h] at he; cases he
  obtain ⟨ok, dk, k1, k2, k3⟩ := (iP hF ops.length (Nat.le_refl _) k).1 hkl
  have hed : e.d = dk := by rw [k3] at he; cases he; rfl
  rw [aRh hds]
  by_cases hki : k = i
  ·subst hki
   rw [ho] at k1
   cases k1
   rw [hd] at k2
   cases k2
   rw [hed, if_pos rfl]
   exact hv e he
  ·have hne : d ≠ e.d := fun e' => hki (huniq k ok k1 (by rw [k2, ← hed, ← e']))
   rw [if_neg hne]
   have hk' : listed k := by
    rcases hk with hk | hk
    ·exact hk
    ·exact absurd hk hki
   exact ⟨fun hgp => hl.val ((hm.ent k e hk' he).1 hgp), fun hgp => (hm.ent k e hk' he).2 hgp⟩
theorem aV7 {c : Ctx} {w : World} {v : AV} {x : Value} (hb : aA2 v = true) (hv : aP c w v x) : x = .bool (aJf v) := by
 cases v with
 | val t y =>
  cases t <;> simp [aA2] at hb
  exact aAY hv
 | _ => simp [aA2] at hb
theorem aJi (hE : gA P E) (hF : rP E h env ops F) (hok : ∀ o ∈ ops, eM nt o = true) {c c' : Ctx} {w w' : World} (hglob : oD E.G c.S w) {listed : Nat → Prop} {a : Act} (hm : Mid E M w0 nt ds h env ops F c w listed c' a w') {i : Nat} {o : Oper} (ho : ops[i]? = some o)
  (hni : ¬ listed i) (hop : ∀ t, Operand.tmp t ∈ o.op.operands → ∀ k ok, ops[k]? = some ok → ok.dst = some t → (k < i → listed k) ∧ (i < k → ¬ listed k)) (hgd : ∀ j p, o.guard = some (j, p) → listed j)
  (huniq : ∀ k ok, ops[k]? = some ok → ok.dst = o.dst → k = i) {K : Act → World → Prop} (hK : ∀ c'' a'' w'', Mid E M w0 nt ds h env ops F c w (fun k => listed k ∨ k = i) c'' a'' w'' → aXm E.T o a c' w' c'' a'' w'' → K a'' w'') : wpOp P ops.toArray Q i K a w' := by
 have hil : i < ops.length := by
  rcases Nat.lt_or_ge i ops.length with h | h
  ·exact h
  ·rw [List.getElem?_eq_none h] at ho; cases ho
 have hokO := hok o (List.mem_of_getElem? ho)
 simp only [eM, Bool.and_eq_true] at hokO
 obtain ⟨d, s1, s2, s3, s4⟩ := hF.step i o ho
 have hdn : d < nt := by have := hokO.2; rw [s1] at this; simpa using this
 obtain ⟨o', d', k1, k2, k3⟩ := (iP hF ops.length (Nat.le_refl _) i).1 hil
 rw [ho] at k1; cases k1
 rw [s1] at k2; cases k2
 have hu : ∀ k ok, ops[k]? = some ok → ok.dst = some d → k = i := fun k ok h1 h2 => huniq k ok h1 (by rw [h2, s1])
 have hglob' : oD E.G c'.S w' := hglob.mono hm.later.le.S hm.later.same
 have hin := aV6 hF i ho
 have hwant : Region.wanted o (yielded ops.toArray a.tmps) = true ↔ fC (F ops.length) (yV (F i) o.guard) := by
  cases hgo : o.guard with
  | none => simp [Region.wanted, hgo, yV, fC]
  | some jp =>
   obtain ⟨j, p⟩ := jp
   have hjl := hgd j p hgo
   rw [hgo] at s2 hin
   simp only [aAf] at s2
   cases he : rR (F i) j with
   | none => rw [he] at s2; exact s2.elim
   | some e =>
    rw [he] at s2
    have heF := wM hF (by omega) (Nat.le_refl _) (by omega) he
    have hji : j < i := by
     rcases Nat.lt_or_ge j i with h | h
     ·exact h
     ·rw [(iP hF i (by omega) j).2 h] at he; cases he
    obtain ⟨oj, dj, j1, j2, j3⟩ := (iP hF i (by omega) j).1 hji
    rw [j3] at he
    cases he
    have hokJ := hok oj (List.mem_of_getElem? j1)
    simp only [eM, Bool.and_eq_true, j2, decide_eq_true_eq] at hokJ
    have hdj : dj < a.tmps.size := by rw [hm.size]; exact hokJ.2
    have hy : ∀ v, a.tmps.getD dj Go.undef = v → yielded ops.toArray a.tmps j = (match v with | .bool b => some b | _ => none) := by
     intro v hv
     have h1 : a.tmps[dj]? = some v := by
      rw [Array.getElem?_eq_getElem hdj]
      have : a.tmps[dj] = v := by simpa [hdj] using hv
      rw [this]
     simp only [yielded, List.getElem?_toArray, j1, Option.bind_some, j2, h1]
     cases v <;> rfl
    have hent := hm.ent j _ hjl heF
    have hgpe : yV (F i) (some (j, p)) = yV (F j) oj.guard ++ [(j, p)] := by
     show (match rR (F i) j with | some e => e.gp ++ [(j, p)] | none => [(j, p)]) = _
     rw [j3]
    simp only [Region.wanted, hgo]
    rw [hgpe, yW]
    by_cases hgp : fC (F ops.length) (yV (F j) oj.guard)
    ·have hb := aV7 s2 (hent.1 hgp)
     rw [hy _ hb]
     have hone : fC (F ops.length) [(j, p)] ↔ aJf (opA E h env (F j) oj).2 = p := by simp only [fC, heF, and_true]
     rw [hone]
     simp [hgp]
    ·have hb := hent.2 hgp
     rw [hy _ hb]
     simp [Go.undef, hgp]
 unfold wpOp
 simp only [List.getElem?_toArray, ho]
 by_cases hw : Region.wanted o (yielded ops.toArray a.tmps) = true
 ·rw [if_pos hw]
  left
  have hgp := hwant.1 hw
  have hgpi := aB5 hF (by omega) (Nat.le_refl _) (by omega) hin hgp
  have hcond := s3 hgpi
  have hlook : ∀ gp, fC (F ops.length) gp → ∀ x, jQ x = true → x ∈ o.op.operands → aP c' w' (aJg E.G (F i) env gp x) (a.eval x) := by
   intro gp hgp x hx hxo
   cases x with
   | tmp t =>
    simp only [aJg]
    cases he : xM (F i) t with
    | none =>
     refine hm.base t fun k ok hk hko hdk => ?_
     rcases Nat.lt_trichotomy k i with hlt | heq | hgt
     ·exact aEr hF i (by omega) t he k ok hlt hko hdk
     ·subst heq; exact hni hk
     ·exact (hop t hxo k ok hko hdk).2 hgt hk
    | some e =>
     simp only
     split
     ·rename_i hp
      obtain ⟨e1, e2, e3, oe, e4, e5⟩ := aBv hF i (by omega) t e he
      have hle := (hop t hxo e.i oe e4 e5).1 e1
      have := (hm.ent e.i e hle (wM hF (by omega) (Nat.le_refl _) (by omega) e3)).1 (aCJ hp hgp)
      rw [e2] at this
      exact this
     ·trivial
   | const v => exact yU (env := []) (a := a) (c := c') (w := w') (G := E.G) (fun t => trivial) hglob' hx
   | global g => exact yU (env := []) (a := a) (c := c') (w := w') (G := E.G) (fun t => trivial) hglob' hx
   | func f => exact yU (env := []) (a := a) (c := c') (w := w') (G := E.G) (fun t => trivial) hglob' hx
  have hall : ∀ x ∈ o.op.operands, jQ x = true := Array.all_eq_true_iff_forall_mem.1 hokO.1
  have hdid : Did P M w0 h c' o a w' (opA E h env (F i) o).2 := by
   by_cases hpk : ∃ p q r, o.op = .pick p q r
   ·obtain ⟨p, q, r, hpk⟩ := hpk
    simp only [opA, hpk] at hcond ⊢
    unfold aTI at hcond ⊢
    cases p with
    | tmp t =>
     simp only at hcond ⊢
     cases he : xM (F i) t with
     | none => simp [he] at hcond
     | some e =>
      simp only [he] at hcond ⊢
      split at hcond
      ·rename_i qb xb yb h1 h2 h3
       have hp : aE6 e.gp (yV (F i) o.guard) = true := by
        by_cases hp : aE6 e.gp (yV (F i) o.guard) = true
        ·exact hp
        ·rw [if_neg hp] at h1; cases h1
       rw [if_pos hp] at h1
       obtain ⟨e1, e2, e3, oe, e4, e5⟩ := aBv hF i (by omega) t e he
       have e3F := wM hF (by omega) (Nat.le_refl _) (by omega) e3
       have hle := (hop t (by rw [hpk]; simp [Op.operands]) e.i oe e4 e5).1 e1
       have hc := (hm.ent e.i e hle e3F).1 (aCJ hp hgp)
       rw [e2, h1] at hc
       have hcv := aAY hc
       simp only [h1, if_pos hp, h2, h3]
       have hcb : aJf e.av = qb := by rw [h1]; rfl
       have hq : ∀ pol, qb = pol → fC (F ops.length) (yV (F i) o.guard ++ [(e.i, pol)]) := fun pol hpol => by
        rw [yW]
        refine ⟨hgp, ?_, trivial⟩
        rw [e3F]
        simp only
        rw [hcb, hpol]
       cases qb with
       | true =>
        have hx := hlook _ (hq true rfl) q (hall q (by rw [hpk]; simp [Op.operands])) (by rw [hpk]; simp [Op.operands])
        rw [h2] at hx
        refine Did.of_value (v := a.eval q) hm.good ?_ hx
        have : a.eval (.tmp t) = .bool true := hcv
        simp [execOp, hpk, this, asBool]
       | false =>
        have hx := hlook _ (hq false rfl) r (hall r (by rw [hpk]; simp [Op.operands])) (by rw [hpk]; simp [Op.operands])
        rw [h3] at hx
        refine Did.of_value (v := a.eval r) hm.good ?_ hx
        have : a.eval (.tmp t) = .bool false := hcv
        simp [execOp, hpk, this, asBool]
      ·exact hcond.elim
    | _ => exact hcond.elim
   ·have e : opA E h env (F i) o = pv E h (aJg E.G (F i) env (yV (F i) o.guard)) o := by
     unfold opA
     split
     ·rename_i p q r hpq; exact absurd ⟨p, q, r, hpq⟩ hpk
     ·rfl
    rw [e] at hcond ⊢
    exact aXl hE hm.good hglob' (fun x hx => hlook _ hgp x (hall x hx) hx) hcond
  have hput : ∀ v w'' c'', aCA P M w0 h c' w' (opA E h env (F i) o).2 v w'' c'' → Mid E M w0 nt ds h env ops F c w (fun k => listed k ∨ k = i) c'' (a.put o.dst v) w'' := fun v w'' c'' ha => by
   refine aRi hF hm ho s1 hdn hu hni ha.later ha.n ha.good fun e he => ?_
   rw [k3] at he
   cases he
   exact ⟨fun _ => ha.val, fun hn => absurd hgp hn⟩
  by_cases hal : ∃ t, o.op = .alloc t
  ·obtain ⟨t, ht⟩ := hal
   simp only [opA, pv, ht] at hcond
   split at hcond
   ·rename_i ct hT
    have hrun := aMg (w := w') hE.T hT hcond (o := o) (a := a) ht
    have hav : (opA E h env (F i) o).2 = .junk := by simp only [opA, pv, ht, hT]
    have ha : aCA P M w0 h c' w' (opA E h env (F i) o).2 _ _ c' := hav ▸ aGZ (P := P) (ob := .cells (nD ct).cells t (0, 0)) hm.good
    unfold Oper.wp
    rw [hrun]
    refine hK c' _ _ (hput _ _ _ ha) ⟨ha.keeps, ha.new, _, rfl, fun t' ht' _ => ?_⟩
    rw [ht] at ht'
    cases ht'
    exact ⟨ct, hT, rfl, rfl, rfl⟩
   ·exact hcond.elim
  ·exact Did.wp' hdid fun v w'' c'' ha _ => hK c'' _ w'' (hput v w'' c'' ha) ⟨ha.keeps, ha.new, v, rfl, fun t ht => absurd ⟨t, ht⟩ hal⟩
 ·rw [if_neg hw]
  refine hK c' _ w' ?_ ⟨.refl _ _, fun b hb => .inl hb, Go.undef, rfl, fun t ht hgn => absurd (by simp [Region.wanted, hgn]) hw⟩
  refine aRi hF hm ho s1 hdn hu hni (.refl _ _) rfl hm.good fun e he => ?_
  rw [k3] at he
  cases he
  exact ⟨fun hgp => absurd (hwant.2 hgp) hw, fun _ => rfl⟩
end
end Go.Vc
namespace Go.Vc
open Go.RowKit
theorem aCK : ∀ (acc : List Ent) (env : List (Nat × AV)) (t : Nat), look (kW acc env) t = match xM acc t with | some e => (match e.gp with | [] => e.av | _ :: _ => .junk) | none => look env t
 | [], env, t => rfl
 | e :: r, env, t => by
  simp only [kW, look, xM]
  split
  ·rfl
  ·exact aCK r env t
def aAg (ops : List Oper) : Bool :=
 (List.range ops.length).all fun i => (List.range ops.length).all fun k => decide (i = k) || (match ops[i]?, ops[k]? with | some o, some ok => decide (o.dst ≠ ok.dst) || o.dst.isNone | _, _ => true)
def aJj (ops : List Oper) : Bool :=
 (List.range ops.length).all fun i => match ops[i]? with
  | none => true
  | some o =>
   (o.after.toList.all fun e => !Region.binds .any e || decide (e.on < i)) &&
   (match o.guard with | none => true | some (j, _) => o.after.toList.any fun e => Region.binds .any e && decide (e.on = j)) &&
   (o.op.operands.toList.all fun x => match x with
    | .tmp t => (List.range ops.length).all fun k => match ops[k]? with
     | none => true
     | some ok => decide (ok.dst ≠ some t) || decide (k = i) || (decide (k < i) && o.after.toList.any fun e => Region.binds .any e && decide (e.on = k)) || (decide (i < k) && ok.after.toList.any fun e => Region.binds .any e && decide (e.on = i))
    | _ => true)
theorem aIG {ops : List Oper} (h : aAg ops = true) {i k : Nat} {o ok : Oper} (ho : ops[i]? = some o) (hk : ops[k]? = some ok) (hd : ok.dst = o.dst) (hs : o.dst ≠ none) : k = i := by
 simp only [aAg, List.all_eq_true, List.mem_range] at h
 have hi : i < ops.length := by
  rcases Nat.lt_or_ge i ops.length with h | h
  ·exact h
  ·rw [List.getElem?_eq_none h] at ho; cases ho
 have hk' : k < ops.length := by
  rcases Nat.lt_or_ge k ops.length with h | h
  ·exact h
  ·rw [List.getElem?_eq_none h] at hk; cases hk
 have := h i hi k hk'
 simp only [ho, hk, Bool.or_eq_true, decide_eq_true_eq] at this
 rcases this with h | h | h
 ·exact h.symm
 ·exact absurd hd.symm h
 ·cases hdd : o.dst with
  | none => exact absurd hdd hs
  | some d => rw [hdd] at h; cases h
section
variable {P : Program} {E : Env} {M : Perm} {w0 : World} {nt : Nat} {ds : List Deferred} {h : List Obj} {env : List (Nat × AV)} {ops : List Oper} {F : Nat → List Ent} {Q : Exit → Act → World → Prop}
theorem wN {c c' : Ctx} {w w' : World} {l1 l2 : Nat → Prop} (he : ∀ k, k < ops.length → (l1 k ↔ l2 k)) (hF : rP E h env ops F) {a : Act} (hm : Mid E M w0 nt ds h env ops F c w l1 c' a w') : Mid E M w0 nt ds h env ops F c w l2 c' a w' := by
 have hlt : ∀ k o, ops[k]? = some o → k < ops.length := fun k o ho => by
  rcases Nat.lt_or_ge k ops.length with h | h
  ·exact h
  ·rw [List.getElem?_eq_none h] at ho; cases ho
 refine ⟨hm.later, hm.n, hm.good, hm.size, hm.defers, fun t ht => hm.base t fun k o hk ho => ht k o ((he k (hlt k o ho)).1 hk) ho, fun i e hi hie => ?_⟩
 have hil : i < ops.length := by
  rcases Nat.lt_or_ge i ops.length with h | h
  ·exact h
  ·rw [(iP hF ops.length (Nat.le_refl _) i).2 h] at hie; cases hie
 exact hm.ent i e ((he i hil).2 hi) hie
theorem aF9 {c : Ctx} {a : Act} {w : World} (hs : Sim E M w0 nt ds c env h a w) : Mid E M w0 nt ds h env ops F c w (fun _ => False) c a w :=
 ⟨.refl _ _, rfl, hs.good, hs.size, hs.defers, fun t _ => hs.env t, fun i e hi => hi.elim⟩
theorem aM2 (hF : rP E h env ops F) {c c' : Ctx} {a : Act} {w w' : World} (hg : oD E.G c.S w) (hm : Mid E M w0 nt ds h env ops F c w (fun k => k < ops.length) c' a w') : Sim E M w0 nt ds c' (kW (F ops.length) env) h a w' := by
 refine ⟨hm.good, hg.mono hm.later.le.S hm.later.same, fun t => ?_, hm.size, hm.defers⟩
 rw [aCK]
 cases he : xM (F ops.length) t with
 | none => exact hm.base t fun k o hk ho => aEr hF _ (Nat.le_refl _) t he k o hk ho
 | some e =>
  obtain ⟨e1, e2, e3, _⟩ := aBv hF _ (Nat.le_refl _) t e he
  simp only
  split
  ·rename_i hgp
   have := (hm.ent e.i e e1 e3).1 (by rw [hgp]; trivial)
   rw [e2] at this
   exact this
  ·trivial
theorem aE7 (hE : gA P E) (hF : rP E h env ops F) (hok : ∀ o ∈ ops, eM nt o = true) (hu : aAg ops = true) {c : Ctx} {w : World} (hglob : oD E.G c.S w)
  (hQ : ∀ c' a' w', Mid E M w0 nt ds h env ops F c w (fun k => k < ops.length) c' a' w' → Q .normal a' w') : ∀ (m i : Nat), i + m = ops.length → ∀ (c' : Ctx) (a : Act) (w' : World), Mid E M w0 nt ds h env ops F c w (fun k => k < i) c' a w' → wpOps P ops.toArray Q (List.range' i m) a w'
 | 0, i, hi, c', a, w', hm => by
  simp only [List.range'_zero, wpOps]
  have : i = ops.length := by omega
  subst this
  exact hQ c' a w' hm
 | m + 1, i, hi, c', a, w', hm => by
  rw [List.range'_succ, wpOps_cons]
  have ho : ops[i]? = some ops[i] := List.getElem?_eq_getElem (by omega)
  obtain ⟨d, s1, s2, _, _⟩ := hF.step i _ ho
  refine aJi hE hF hok hglob hm ho (Nat.lt_irrefl i) (fun t _ k ok _ _ => ⟨fun h => h, fun h1 h2 => by omega⟩) (fun j p hg => ?_) (fun k ok hk hd => aIG hu ho hk hd (by rw [s1]; simp)) fun c'' a'' w'' hm' _ => ?_
  ·rw [hg] at s2
   simp only [aAf] at s2
   rcases Nat.lt_or_ge j i with h | h
   ·exact h
   ·rw [(iP hF i (by omega) j).2 h] at s2; exact s2.elim
  ·exact aE7 hE hF hok hu hglob hQ m (i + 1) (by omega) c'' a'' w'' (wN (fun k _ => by omega) hF hm')
theorem aOl (hE : gA P E) (hok : ∀ o ∈ ops, eM nt o = true) (hu : aAg ops = true) {c : Ctx} {a : Act} {w : World} (hs : Sim E M w0 nt ds c env h a w) {K : List Ent → Prop} (hv : vcA E h env ops 0 [] K) {id : Nat}
  (hQ : ∀ acc c' a' w', K acc → dN c w c' w' → c'.n = c.n → Sim E M w0 nt ds c' (kW acc env) h a' w' → Q .normal a' w') : (Code.region id ops.toArray false).wp P Q a w := by
 obtain ⟨F, f1, f2, f3⟩ := aBu ops 0 [] K hv
 have hF : rP E h env ops F := ⟨f1, fun i o ho => by have := f2 i o ho; simpa using this⟩
 simp only [Nat.zero_add] at f3
 refine wp_region ?_
 have := aE7 (Q := Q) hE hF hok hu hs.glob (fun c' a' w' hm => hQ _ c' a' w' f3 hm.later hm.n (aM2 hF hs.glob hm)) ops.length 0 (by omega) c a w (wN (fun k _ => by simp) hF (aF9 hs))
 simpa [List.range_eq_range'] using this
theorem aM3 (hE : gA P E) (hF : rP E h env ops F) (hok : ∀ o ∈ ops, eM nt o = true) (hu : aAg ops = true) (hany : aJj ops = true) {c : Ctx} {w : World} (hglob : oD E.G c.S w)
  (hQ : ∀ c' a' w', Mid E M w0 nt ds h env ops F c w (fun k => k < ops.length) c' a' w' → Q .normal a' w') : ∀ (fuel : Nat) (listed : Array Bool), listed.size = ops.length → ((List.range ops.length).filter fun k => !listed.getD k false).length = fuel →
   (∀ k o, ops[k]? = some o → listed.getD k false = true → ∀ e ∈ o.after, Region.binds .any e = true → listed.getD e.on false = true) →
   ∀ (c' : Ctx) (a : Act) (w' : World), Mid E M w0 nt ds h env ops F c w (fun k => listed.getD k false = true) c' a w' → wpAny P .any ops.toArray Q fuel listed a w' := by
 have hanyI : ∀ i o, ops[i]? = some o → (∀ e ∈ o.after, Region.binds .any e = true → e.on < i) ∧ (∀ j p, o.guard = some (j, p) → ∃ e ∈ o.after, Region.binds .any e = true ∧ e.on = j) ∧
   (∀ t, Operand.tmp t ∈ o.op.operands → ∀ k ok, ops[k]? = some ok → ok.dst = some t → k = i ∨ (k < i ∧ ∃ e ∈ o.after, Region.binds .any e = true ∧ e.on = k) ∨ (i < k ∧ ∃ e ∈ ok.after, Region.binds .any e = true ∧ e.on = i)) := by
  intro i o ho
  have hi : i < ops.length := by
   rcases Nat.lt_or_ge i ops.length with h | h
   ·exact h
   ·rw [List.getElem?_eq_none h] at ho; cases ho
  simp only [aJj, List.all_eq_true, List.mem_range] at hany
  have := hany i hi
  rw [ho] at this
  simp only [Bool.and_eq_true, List.all_eq_true, Array.mem_toList_iff] at this
  obtain ⟨⟨h1, h2⟩, h3⟩ := this
  refine ⟨fun e he hb => ?_, fun j p hg => ?_, fun t ht k ok hk hd => ?_⟩
  ·have := h1 e he
   simpa [hb] using this
  ·rw [hg] at h2
   simp only [List.any_eq_true, Bool.and_eq_true, decide_eq_true_eq, Array.mem_toList_iff] at h2
   exact h2
  ·have := h3 _ ht
   simp only [List.all_eq_true, List.mem_range] at this
   have hkl : k < ops.length := by
    rcases Nat.lt_or_ge k ops.length with h | h
    ·exact h
    ·rw [List.getElem?_eq_none h] at hk; cases hk
   have := this k hkl
   rw [hk] at this
   simp only [hd, ne_eq, not_true_eq_false, decide_false, Bool.false_or, Bool.or_eq_true, decide_eq_true_eq, Bool.and_eq_true, List.any_eq_true, Array.mem_toList_iff] at this
   rcases this with (h | h) | h
   ·exact .inl h
   ·exact .inr (.inl h)
   ·exact .inr (.inr h)
 intro fuel
 induction fuel with
 | zero =>
  intro listed hsz hcnt hcl c' a w' hm
  have hall : ∀ k, k < ops.length → listed.getD k false = true := fun k hk => by
   have := List.eq_nil_of_length_eq_zero hcnt
   rw [List.filter_eq_nil_iff] at this
   have := this k (List.mem_range.2 hk)
   simpa using this
  refine ⟨?_, hQ c' a w' (wN (fun k hk => ⟨fun _ => hk, fun _ => hall k hk⟩) hF hm)⟩
  rw [List.eq_nil_iff_forall_not_mem]
  intro j hj
  obtain ⟨h1, o, ho, _⟩ := mem_ready.1 hj
  have hjl : j < ops.length := by
   have : ops[j]? = some o := by simpa using ho
   rcases Nat.lt_or_ge j ops.length with h | h
   ·exact h
   ·rw [List.getElem?_eq_none h] at this; cases this
  have := hall j hjl
  have hlt : j < listed.size := by omega
  simp [hlt] at h1 this
  rw [this] at h1; cases h1
 | succ fuel ih =>
  intro listed hsz hcnt hcl c' a w' hm
  refine ⟨fun hr => ?_, fun i hi => ?_⟩
  ·exfalso
   have hex : ∃ k, k < ops.length ∧ listed.getD k false = false := by
    have hne : ((List.range ops.length).filter fun k => !listed.getD k false) ≠ [] := fun e => by rw [e] at hcnt; cases hcnt
    obtain ⟨k, hk⟩ := List.exists_mem_of_ne_nil _ hne
    simp only [List.mem_filter, List.mem_range, Bool.not_eq_true'] at hk
    exact ⟨k, hk⟩
   have hmin : ∃ k, (k < ops.length ∧ listed.getD k false = false) ∧ ∀ j, j < k → ¬ (j < ops.length ∧ listed.getD j false = false) := by
    obtain ⟨k, hk⟩ := hex
    induction k using Nat.strongRecOn with
    | _ k ihk =>
     by_cases hh : ∃ j, j < k ∧ (j < ops.length ∧ listed.getD j false = false)
     ·obtain ⟨j, hj, hp⟩ := hh; exact ihk j hj hp
     ·exact ⟨k, hk, fun j hj hp => hh ⟨j, hj, hp⟩⟩
   obtain ⟨k, ⟨hk, hun⟩, hlow⟩ := hmin
   have hmem : k ∈ Region.ready .any ops.toArray listed := by
    rw [mem_ready]
    have hlt : k < listed.size := by omega
    refine ⟨by simp [hlt] at hun ⊢; exact hun, ops[k], by simp [hk], fun e he hb => ?_⟩
    have := (hanyI k _ (List.getElem?_eq_getElem hk)).1 e he hb
    have hn := hlow e.on this
    by_cases hh : listed.getD e.on false = true
    ·exact hh
    ·exact absurd ⟨by omega, by simpa using hh⟩ hn
   rw [hr] at hmem; cases hmem
  ·obtain ⟨h1, o, ho, hall⟩ := mem_ready.1 hi
   have ho : ops[i]? = some o := by simpa using ho
   have hil : i < ops.length := by
    rcases Nat.lt_or_ge i ops.length with h | h
    ·exact h
    ·rw [List.getElem?_eq_none h] at ho; cases ho
   have hlt : i < listed.size := by omega
   have hni : ¬ listed.getD i false = true := by simp [hlt] at h1 ⊢; exact h1
   obtain ⟨a1, a2, a3⟩ := hanyI i o ho
   obtain ⟨d, s1, _, _, _⟩ := hF.step i _ ho
   refine aJi hE hF hok hglob hm ho hni (fun t ht k ok hk hd => ?_) (fun j p hg => ?_) (fun k ok hk hd => aIG hu ho hk hd (by rw [s1]; simp)) fun c'' a'' w'' hm' _ => ?_
   ·rcases a3 t ht k ok hk hd with h | ⟨h, e, he, hb, hon⟩ | ⟨h, e, he, hb, hon⟩
    ·exact ⟨fun h' => by omega, fun h' => by omega⟩
    ·exact ⟨fun _ => hon ▸ hall e he hb, fun h' => by omega⟩
    ·exact ⟨fun h' => by omega, fun _ hkl => hni (hon ▸ hcl k ok hk hkl e he hb)⟩
   ·obtain ⟨e, he, hb, hon⟩ := a2 j p hg
    exact hon ▸ hall e he hb
   ·have hset : ∀ k, (listed.setIfInBounds i true).getD k false = true ↔ (listed.getD k false = true ∨ k = i) := fun k => by
     by_cases e : i = k
     ·subst e; simp [hlt]
     ·rw [getD_set_ne false e]
      exact ⟨.inl, fun h => h.resolve_right (fun h => e h.symm)⟩
    refine ih (listed.setIfInBounds i true) (by simp [hsz]) ?_ (fun k o' hk hkl e he hb => ?_) c'' a'' w'' (wN (fun k _ => (hset k).symm) hF hm')
    ·have hfil : ((List.range ops.length).filter fun k => !(listed.setIfInBounds i true).getD k false) = ((List.range ops.length).filter fun k => !listed.getD k false).filter (fun k => decide (k ≠ i)) := by
      rw [List.filter_filter]
      apply List.filter_congr
      intro k _
      rw [Bool.eq_iff_iff]
      have := hset k
      by_cases e : k = i
      ·subst e; simp [hlt]
      ·have h2 : (listed.setIfInBounds i true).getD k false = listed.getD k false := getD_set_ne false (fun h => e h.symm)
       rw [h2]
       simp [e]
     rw [hfil]
     have hnd : ((List.range ops.length).filter fun k => !listed.getD k false).Nodup := List.nodup_range.filter _
     have hmem : i ∈ ((List.range ops.length).filter fun k => !listed.getD k false) := by
      simp only [List.mem_filter, List.mem_range]
      exact ⟨hil, by simpa using hni⟩
     have := hnd.erase_eq_filter i
     have e2 : (((List.range ops.length).filter fun k => !listed.getD k false).filter (fun k => decide (k ≠ i))) = ((List.range ops.length).filter fun k => !listed.getD k false).erase i := by
      rw [this]
      apply List.filter_congr
      intro k _
      by_cases e : k = i <;> simp [e]
     rw [e2, List.length_erase_of_mem hmem, hcnt]; rfl
    ·rcases (hset k).1 hkl with h | h
     ·exact (hset _).2 (.inl (hcl k o' hk h e he hb))
     ·subst h
      rw [ho] at hk
      cases hk
      exact (hset _).2 (.inl (hall e he hb))
theorem aE8 (hE : gA P E) (hmix : P.follows .mixedOrders = true) (hok : ∀ o ∈ ops, eM nt o = true) (hu : aAg ops = true) (hany : aJj ops = true) {c : Ctx} {a : Act} {w : World} (hs : Sim E M w0 nt ds c env h a w) {K : List Ent → Prop} (hv : vcA E h env ops 0 [] K) {id : Nat}
  (hQ : ∀ acc c' a' w', K acc → dN c w c' w' → c'.n = c.n → Sim E M w0 nt ds c' (kW acc env) h a' w' → Q .normal a' w') : (Code.region id ops.toArray true).wp P Q a w := by
 obtain ⟨F, f1, f2, f3⟩ := aBu ops 0 [] K hv
 have hF : rP E h env ops F := ⟨f1, fun i o ho => by have := f2 i o ho; simpa using this⟩
 simp only [Nat.zero_add] at f3
 refine wp_region_any hmix ?_
 have hlat : dN c w c { w with drawn := w.drawn + 1 } := ⟨.refl _, fun b hb => rfl⟩
 have hdr : Sim E M w0 nt ds c env h a { w with drawn := w.drawn + 1 } :=
  ⟨hs.good.step hlat rfl ⟨rfl, rfl, rfl, Nat.le_refl _, fun _ _ _ => rfl⟩ (fun _ _ _ _ _ => rfl) hs.good.sfin (fun _ hb => .inl hb), oD.mono (w := w) (w' := { w with drawn := w.drawn + 1 }) (fun _ hb => hb) hlat.same hs.glob, hs.env.keep hlat, hs.size, hs.defers⟩
 refine aM3 (Q := Q) hE hF hok hu hany hdr.glob (fun c' a' w' hm => hQ _ c' a' w' f3 (hlat.trans hm.later) hm.n (aM2 hF hdr.glob hm)) _ _ (by simp) ?_ (fun k o ho hl => ?_) c a _ (wN (fun k hk => ?_) hF (aF9 hdr))
 ·rw [List.filter_eq_self.2 (fun k hk => by simp at hk; simp [hk])]; simp
 ·exfalso
  by_cases hk : k < ops.length <;> simp [hk] at hl
 ·simp [hk]
end
end Go.Vc
namespace Go.Vc
open Go.RowKit
def Ctx.push (c : Ctx) (v : Value) : Ctx := ⟨c.S, fun i => if i = c.n then v else c.hd i, c.n + 1⟩
theorem Ctx.le_push (c : Ctx) (v : Value) : c.le (c.push v) := ⟨fun _ h => h, Nat.le_succ _, fun i hi => by simp [Ctx.push, Nat.ne_of_lt hi]⟩
section
variable {P : Program} {T : Tab} {M : Perm} {w0 : World} {c : Ctx} {h : List Obj} {w : World}
theorem Good.push (hg : Good M w0 c h w) {w' : World} (hk : fM nothing w w') {o : Obj} {hv : Value} (hob : aHM (c.push hv) w' c.n o) (hb : ∀ b, ownBlock (c.push hv) c.n o = some b → w.heap.size ≤ b ∧ b < w'.heap.size) :
  Good M w0 (c.push hv) (h ++ [o]) w' ∧ dN c w (c.push hv) w' := by
 have hl : dN c w (c.push hv) w' := ⟨c.le_push hv, fun b hbS => hk.block b (hg.sfin b hbS) (fun f => f)⟩
 have hcase : ∀ i o', (h ++ [o])[i]? = some o' → (h[i]? = some o' ∧ i < c.n) ∨ (i = c.n ∧ o' = o) := fun i o' ho => by
  rw [hg.n]
  rcases Nat.lt_trichotomy i h.length with hlt | heq | hgt
  ·rw [List.getElem?_append_left hlt] at ho; exact .inl ⟨ho, hlt⟩
  ·subst heq; simp at ho; exact .inr ⟨rfl, ho.symm⟩
  ·rw [List.getElem?_append_right (by omega), List.getElem?_eq_none (by simp; omega)] at ho; cases ho
 refine ⟨⟨by simp [Ctx.push, hg.n], hg.keeps.trans hk.any, fun b hbS => Nat.lt_of_lt_of_le (hg.sfin b hbS) hk.size, hg.src, fun i o' ho => ?_, fun i o' b ho hbb => ?_, fun i j oi oj b hi hj hbi hbj => ?_, aAb hg.root hl.le⟩, hl⟩
 ·rcases hcase i o' ho with ⟨ho, hi⟩ | ⟨rfl, rfl⟩
  ·exact (hg.objs i o' ho).keep hl hi (fun b hbb => hk.block b (hg.own i o' b ho hbb).2.1 (fun f => f))
  ·exact hob
 ·rcases hcase i o' ho with ⟨ho, hi⟩ | ⟨rfl, rfl⟩
  ·rw [bV hl.le hi] at hbb
   obtain ⟨h1, h2, h3⟩ := hg.own i o' b ho hbb
   exact ⟨h1, Nat.lt_of_lt_of_le h2 hk.size, h3⟩
  ·obtain ⟨h1, h2⟩ := hb b hbb
   exact ⟨.inl (Nat.le_trans hg.keeps.size h1), h2, fun hS => by have := hg.sfin b hS; omega⟩
 ·rcases hcase i oi hi with ⟨hi', hin⟩ | ⟨ei, eo⟩ <;> rcases hcase j oj hj with ⟨hj', hjn⟩ | ⟨ej, eo'⟩
  ·rw [bV hl.le hin] at hbi
   rw [bV hl.le hjn] at hbj
   exact hg.sep i j oi oj b hi' hj' hbi hbj
  ·subst ej; subst eo'
   rw [bV hl.le hin] at hbi
   have := (hg.own i oi b hi' hbi).2.1
   have := (hb b hbj).1
   omega
  ·subst ei; subst eo
   rw [bV hl.le hjn] at hbj
   have := (hg.own j oj b hj' hbj).2.1
   have := (hb b hbi).1
   omega
  ·rw [ei, ej]
theorem Good.modify (hg : Good M w0 c h w) {i : Nat} {o o' : Obj} {b : Nat} (ho : h[i]? = some o) (hb : ownBlock c i o = some b) {w' : World} (hos : w'.os = w.os) (htp : w'.tape = w.tape) (hout : w'.output = w.output) (hsz : w'.heap.size = w.heap.size)
  (hsame : ∀ k, k ≠ b → w'.heap[k]? = w.heap[k]?) (hob : aHM c w' i o') (hb' : ∀ b', ownBlock c i o' = some b' → b' = b) :
  Good M w0 c (h.set i o') w' ∧ dN c w c w' := by
 obtain ⟨hB, hblt, hnS⟩ := hg.own i o b ho hb
 have hl : dN c w c w' := ⟨.refl _, fun k hk => hsame k (fun e => hnS (e ▸ hk))⟩
 have hil : i < h.length := oM ho
 have hcase : ∀ j oj, (h.set i o')[j]? = some oj → (j ≠ i ∧ h[j]? = some oj) ∨ (j = i ∧ oj = o') := fun j oj hj => by
  by_cases e : i = j
  ·subst e; simp [hil] at hj; exact .inr ⟨rfl, hj.symm⟩
  ·rw [List.getElem?_set_ne e] at hj; exact .inl ⟨fun h => e h.symm, hj⟩
 refine ⟨⟨by simp [hg.n], ⟨hos.trans hg.keeps.os, htp.trans hg.keeps.tape, hout.trans hg.keeps.output, by rw [hsz]; exact hg.keeps.size, fun k hk hM => ?_⟩, fun k hk => by rw [hsz]; exact hg.sfin k hk, hg.src, fun j oj hj => ?_, fun j oj b' hj hbj => ?_, fun j k oj ok b' hj hk hbj hbk => ?_, hg.root⟩, hl⟩
 ·have hne : k ≠ b := by
   intro e
   rcases hB with h1 | h1
   ·omega
   ·exact hM (e ▸ h1)
  rw [hsame k hne]; exact hg.keeps.block k hk hM
 ·rcases hcase j oj hj with ⟨hne, hj⟩ | ⟨rfl, rfl⟩
  ·refine (hg.objs j oj hj).keep hl (by rw [hg.n]; exact oM hj) (fun b' hb'' => hsame b' (fun e => hne ?_))
   subst e
   exact hg.sep j i oj o b' hj ho hb'' hb
  ·exact hob
 ·rw [hsz]
  rcases hcase j oj hj with ⟨hne, hj⟩ | ⟨rfl, rfl⟩
  ·exact hg.own j oj b' hj hbj
  ·rw [hb' b' hbj]; exact ⟨hB, hblt, hnS⟩
 ·rcases hcase j oj hj with ⟨hnj, hj'⟩ | ⟨ej, eo⟩ <;> rcases hcase k ok hk with ⟨hnk, hk'⟩ | ⟨ek, eo'⟩
  ·exact hg.sep j k oj ok b' hj' hk' hbj hbk
  ·subst ek; subst eo'
   rw [hb' b' hbk] at hbj
   exact absurd (hg.sep j k oj o b hj' ho hbj hb) hnj
  ·subst ej; subst eo
   rw [hb' b' hbj] at hbk
   exact absurd (hg.sep k j ok o b hk' ho hbk hb) hnk
  ·rw [ej, ek]
def freeze (i : Nat) (h : List Obj) : List Obj :=
 match h[i]? with
 | some (.row _ t xs) => h.set i (.frz t xs)
 | _ => h
def Ctx.more (c : Ctx) (b? : Option Nat) : Ctx := ⟨fun b => c.S b ∨ b? = some b, c.hd, c.n⟩
theorem Good.freeze (hg : Good M w0 c h w) (i : Nat) : ∃ c', dN c w c' w ∧ c'.n = c.n ∧ Good M w0 c' (freeze i h) w := by
 unfold Vc.freeze
 split
 ·rename_i e t xs ho
  have hob := hg.objs i _ ho
  have hle : c.le (c.more (aQ (c.hd i))) := ⟨fun b hb => .inl hb, Nat.le_refl _, fun _ _ => rfl⟩
  have hl : dN c w (c.more (aQ (c.hd i))) w := ⟨hle, .refl _ _⟩
  have hil : i < h.length := oM ho
  have hcase : ∀ j oj, (h.set i (.frz t xs))[j]? = some oj → (j ≠ i ∧ h[j]? = some oj) ∨ (j = i ∧ oj = .frz t xs) := fun j oj hj => by
   by_cases e : i = j
   ·subst e; simp [hil] at hj; exact .inr ⟨rfl, hj.symm⟩
   ·rw [List.getElem?_set_ne e] at hj; exact .inl ⟨fun h => e h.symm, hj⟩
  refine ⟨_, hl, rfl, by simp [Ctx.more, hg.n], hg.keeps, fun b hb => ?_, fun b hb hlt => ?_, fun j oj hj => ?_, fun j oj b hj hb => ?_, fun j k oj ok b hj hk hbj hbk => ?_, aAb hg.root hle⟩
  ·rcases hb with hb | hb
   ·exact hg.sfin b hb
   ·exact (hg.own i _ b ho hb).2.1
  ·rcases hb with hb | hb
   ·exact hg.src b hb hlt
   ·rcases (hg.own i _ b ho hb).1 with h1 | h1
    ·omega
    ·exact .inr h1
  ·rcases hcase j oj hj with ⟨hne, hj⟩ | ⟨rfl, rfl⟩
   ·exact (hg.objs j oj hj).keep hl (by rw [hg.n]; exact oM hj) (fun _ _ => rfl)
   ·exact tJ.toC (S' := (c.more (aQ (c.hd j))).S) hob (fun b hb => .inl hb) (fun b hb => .inr hb)
  ·rcases hcase j oj hj with ⟨hne, hj⟩ | ⟨rfl, rfl⟩
   ·obtain ⟨h1, h2, h3⟩ := hg.own j oj b hj (by cases oj <;> exact hb)
    refine ⟨h1, h2, fun hS => ?_⟩
    rcases hS with hS | hS
    ·exact h3 hS
    ·exact hne (hg.sep j i oj _ b hj ho (by cases oj <;> exact hb) hS)
   ·cases hb
  ·rcases hcase j oj hj with ⟨hnj, hj⟩ | ⟨rfl, rfl⟩
   ·rcases hcase k ok hk with ⟨hnk, hk⟩ | ⟨rfl, rfl⟩
    ·exact hg.sep j k oj ok b hj hk (by cases oj <;> exact hbj) (by cases ok <;> exact hbk)
    ·cases hbk
   ·cases hbj
 ·exact ⟨c, .refl _ _, rfl, hg⟩
def freezeAll : List Nat → List Obj → List Obj
 | [], h => h
 | i :: r, h => freezeAll r (freeze i h)
theorem Good.freezeAll : ∀ (is : List Nat) {c : Ctx} {h : List Obj}, Good M w0 c h w → ∃ c', dN c w c' w ∧ c'.n = c.n ∧ Good M w0 c' (freezeAll is h) w
 | [], c, h, hg => ⟨c, .refl _ _, rfl, hg⟩
 | i :: r, c, h, hg => by
  obtain ⟨c1, h1, h2, h3⟩ := hg.freeze i
  obtain ⟨c2, k1, k2, k3⟩ := Good.freezeAll r h3
  exact ⟨c2, h1.trans k1, k2.trans h2, k3⟩
def tS : (t : Ty) → t.den → List AV
 | .pair a r, x => .val a x.1 :: tS r x.2
 | _, _ => []
def aGa (v : AV) (k : Nat) (u : AV) : AV :=
 match v with
 | .val t x => aEl t ((tS t x).set k u)
 | .agg vs => .agg (vs.set k u)
 | _ => .junk
def aAh (v : AV) (i : Nat) (u : AV) : AV :=
 match v with
 | .val (.arr n t) xs => match AV.as [] t u with
  | some x => .val (.arr n t) (xs.set i x)
  | none => .junk
 | _ => .junk
def yX : AV → List Step → AV → Prop × AV
 | v, [], u => (v.solid = true ∧ u.solid = true ∧ v.nc = u.nc, u)
 | v, .fld off k :: p, u => (v.solid = true ∧ off = (dF v k).2 ∧ (yX (dF v k).1 p u).1 ∧ (yX (dF v k).1 p u).2.solid1 = true ∧ aGa v k (yX (dF v k).1 p u).2 ≠ .junk, aGa v k (yX (dF v k).1 p u).2)
 | v, .idx s i :: p, u => ((elemOf v i).1 ∧ s = aL8 v ∧ (yX (elemOf v i).2 p u).1 ∧ aAh v i (yX (elemOf v i).2 p u).2 ≠ .junk, aAh v i (yX (elemOf v i).2 p u).2)
def Ty.strB : Ty → Bool
 | .unit => true
 | .pair _ r => r.strB
 | _ => false
theorem aG1 : ∀ (t : Ty) (x : t.den) (cs : List Value), t.strB = true → aS w c.S t x cs → jX c w (tS t x) cs ∧ (∀ v ∈ tS t x, v.solid1 = true)
 | .unit, _, cs, _, hr => ⟨hr, fun v hv => by cases hv⟩
 | .pair a r, x, cs, hs, ⟨c1, c2, e, h1, h2⟩ => by
  obtain ⟨q1, q2⟩ := aG1 r x.2 c2 hs h2
  refine ⟨⟨c1, c2, e, h1, q1⟩, fun v hv => ?_⟩
  rcases List.mem_cons.1 hv with rfl | hv
  ·rfl
  ·exact q2 v hv
 | .bool, _, _, hs, _ => by simp [Ty.strB] at hs
 | .u _, _, _, hs, _ => by simp [Ty.strB] at hs
 | .i _, _, _, hs, _ => by simp [Ty.strB] at hs
 | .str, _, _, hs, _ => by simp [Ty.strB] at hs
 | .sl _, _, _, hs, _ => by simp [Ty.strB] at hs
 | .arr _ _, _, _, hs, _ => by simp [Ty.strB] at hs
 | .expr, _, _, hs, _ => by simp [Ty.strB] at hs
 | .rp _, _, _, hs, _ => by simp [Ty.strB] at hs
 | .clo _ _, _, _, hs, _ => by simp [Ty.strB] at hs
theorem aB6 : ∀ (t : Ty) (x : t.den) (k : Nat), aDK t x k ≠ .junk → t.strB = true → k < (tS t x).length ∧ (dF (.agg (tS t x)) k) = (aDK t x k, t.fieldOff k)
 | .pair a r, x, 0, _, _ => ⟨by simp [tS], rfl⟩
 | .pair a r, x, k + 1, hj, hs => by
  obtain ⟨h1, h2⟩ := aB6 r x.2 k hj hs
  refine ⟨by simp [tS, h1], ?_⟩
  simp only [tS, dF, h2]
  rfl
 | .unit, x, k, hj, _ => absurd rfl hj
 | .expr, x, k, _, hs => by simp [Ty.strB] at hs
 | .bool, x, k, hj, hs => absurd rfl hj
 | .u _, x, k, hj, hs => absurd rfl hj
 | .i _, x, k, hj, hs => absurd rfl hj
 | .str, x, k, hj, hs => absurd rfl hj
 | .sl _, x, k, hj, hs => absurd rfl hj
 | .arr _ _, x, k, hj, hs => absurd rfl hj
 | .rp _, x, k, hj, hs => absurd rfl hj
 | .clo _ _, x, k, hj, hs => absurd rfl hj
theorem aM4 : ∀ {vs : List AV} {cs : List Value} {k : Nat}, jX c w vs cs → (∀ v ∈ vs, v.solid1 = true) → k < vs.length → ∃ pre ds post, cs = pre ++ ds ++ post ∧ pre.length = (dF (.agg vs) k).2 ∧ aI c w (dF (.agg vs) k).1 ds ∧ ∀ (u : AV) (ds' : List Value), aI c w u ds' → jX c w (vs.set k u) (pre ++ ds' ++ post)
 | [], _, _, _, _, hk => by simp at hk
 | v :: r, cs, 0, hr, hs, _ => by
  obtain ⟨c1, c2, e, h1, h2⟩ := hr
  exact ⟨[], c1, c2, by simpa using e, rfl, h1, fun u ds' hu => by simp only [List.set_cons_zero, jX, List.nil_append]; exact ⟨ds', c2, rfl, hu, h2⟩⟩
 | v :: r, cs, k + 1, hr, hs, hk => by
  obtain ⟨c1, c2, e, h1, h2⟩ := hr
  obtain ⟨pre, ds, post, e2, hp, hd, hset⟩ := aM4 (k := k) h2 (fun u hu => hs u (by simp [hu])) (by simpa using hk)
  refine ⟨c1 ++ pre, ds, post, by rw [e, e2]; simp, ?_, hd, fun u ds' hu => ?_⟩
  ·rw [List.length_append, aF2 (hs v (by simp)) h1, hp]; rfl
  ·simp only [List.set_cons_succ, jX]
   exact ⟨c1, pre ++ ds' ++ post, by simp, h1, hset u ds' hu⟩
theorem aSt {v u : AV} {k : Nat} {cs : List Value} (hs : v.solid = true) (hr : aI c w v cs) (hst : ∀ t x, v = .val t x → t.strB = true) (hj : (dF v k).1 ≠ .junk) :
  ∃ pre ds post, cs = pre ++ ds ++ post ∧ pre.length = (dF v k).2 ∧ aI c w (dF v k).1 ds ∧ ∀ ds', aI c w u ds' → aI c w (aGa v k u) (pre ++ ds' ++ post) := by
 cases v with
 | val t x =>
  have hstr := hst t x rfl
  obtain ⟨q1, q2⟩ := aG1 (c := c) (w := w) t x cs hstr hr
  obtain ⟨k1, k2⟩ := aB6 t x k (by simpa [dF] using hj) hstr
  obtain ⟨pre, ds, post, e, hp, hd, hset⟩ := aM4 q1 q2 k1
  rw [k2] at hp hd
  refine ⟨pre, ds, post, e, by simpa [dF] using hp, by simpa [dF] using hd, fun ds' hu => ?_⟩
  simp only [aGa]
  have := aIF (t := t) (c := c) (w := w) (cells := (pre ++ ds' ++ post).toArray) (by simpa using hset u ds' hu)
  have h1 : sQ c w (aEl t ((tS t x).set k u)) (.agg (pre ++ ds' ++ post).toArray) := by
   revert this
   unfold aEl
   split <;> exact fun h => h
  simpa [Value.cells] using h1.1
 | agg vs =>
  simp only [aI] at hr
  simp only [AV.solid, List.all_eq_true] at hs
  have hk : k < vs.length := by
   rcases Nat.lt_or_ge k vs.length with h | h
   ·exact h
   ·exfalso; apply hj
    clear hs hr hj hst
    induction vs generalizing k with
    | nil => simp [dF]
    | cons v r ih => cases k with
     | zero => simp at h
     | succ k => simp only [dF]; exact ih (by simpa using h)
  obtain ⟨pre, ds, post, e, hp, hd, hset⟩ := aM4 hr hs hk
  exact ⟨pre, ds, post, e, hp, hd, fun ds' hu => by simp only [aGa, aI]; exact hset u ds' hu⟩
 | _ => simp [dF] at hj
theorem aPX {v u : AV} {i : Nat} {cs : List Value} (hr : aI c w v cs) (h : (elemOf v i).1) (hj : aAh v i u ≠ .junk) :
  ∃ pre ds post, cs = pre ++ ds ++ post ∧ pre.length = i * aL8 v ∧ aI c w (elemOf v i).2 ds ∧ ∀ ds', ds'.length = ds.length → aI c w u ds' → aI c w (aAh v i u) (pre ++ ds' ++ post) := by
 cases v with
 | val t x =>
  cases t with
  | arr n t =>
   simp only [elemOf] at h ⊢
   obtain ⟨hn, css, e, hl, hrep⟩ := hr
   have hix : i < css.length := by omega
   obtain ⟨pre, post, hf, hp⟩ := nS (t := t) (css := css) (fun j hj => aS.length _ _ _ (hrep j (by omega) hj)) i hix
   refine ⟨pre, css[i], post, by rw [e, hf], hp, ?_, fun ds' hdl hu => ?_⟩
   ·have := hrep i (by omega) (by omega)
    simp only [aI]
    rw [List.getD_eq_getElem?_getD, List.getElem?_eq_getElem (by omega)]
    exact this
   ·simp only [aAh] at hj ⊢
    split at hj
    ·rename_i y hy
     have hyr := (aIF.as_nil t u y ds' hy hu).1
     have hlen : ((css.take i).flatten).length = i * t.cells := by
      rw [qB (n := t.cells) (fun j hj => ?_)]
      ·rw [List.length_take, Nat.min_eq_left (by omega)]
      ·simp at hj; simp only [List.getElem_take]; exact aS.length _ _ _ (hrep j (by omega) (by omega))
     have hsp : css = css.take i ++ [css[i]] ++ css.drop (i + 1) := by simp
     have h3 : css.flatten = (css.take i).flatten ++ css[i] ++ (css.drop (i + 1)).flatten := by
      have h4 := congrArg List.flatten hsp
      simp only [List.flatten_append, List.flatten_cons, List.flatten_nil, List.append_nil] at h4
      exact h4
     rw [h3, List.append_assoc, List.append_assoc] at hf
     obtain ⟨q1, q2⟩ := List.append_inj hf (by rw [hlen, hp])
     obtain ⟨q3, q4⟩ := List.append_inj q2 rfl
     refine ⟨by simpa using hn, css.set i ds', ?_, by simpa using hl, fun j h1 h2 => ?_⟩
     ·rw [← q1, ← q4, List.set_eq_take_append_cons_drop, if_pos hix]
      simp
     ·by_cases hik : i = j
      ·subst hik; simp only [List.getElem_set_self]; exact hyr
      ·simp only [List.getElem_set_ne hik]; exact hrep j (by simpa using h1) (by simpa using h2)
    ·exact absurd rfl hj
  | _ => exact h.elim
 | _ => exact h.elim
def aAi : AV → List Step → Bool
 | _, [] => true
 | .val t x, .fld _ k :: p => t.strB && aAi (dF (.val t x) k).1 p
 | v, .fld _ k :: p => aAi (dF v k).1 p
 | v, .idx _ i :: p => aAi (elemOf v i).2 p
theorem aIH : ∀ (p : List Step) (v u : AV) (cs : List Value), aI c w v cs → (yX v p u).1 → aAi v p = true → ∃ pre ds post, cs = pre ++ ds ++ post ∧ pre.length = oK p ∧ (∀ ds', aI c w u ds' → ds'.length = ds.length ∧ aI c w (yX v p u).2 (pre ++ ds' ++ post))
 | [], v, u, cs, hr, h, _ => by
  obtain ⟨h1, h2, h3⟩ := h
  exact ⟨[], cs, [], by simp, rfl, fun ds' hu => ⟨by rw [aI0 h2 hu, aI0 h1 hr, h3], by simpa [yX] using hu⟩⟩
 | .fld off k :: p, v, u, cs, hr, h, hb => by
  simp only [yX] at h ⊢
  obtain ⟨hs, ho, h2, h3, h4⟩ := h
  have hj : (dF v k).1 ≠ .junk := by
   intro e
   rw [e] at h2
   cases p with
   | nil => obtain ⟨q, _⟩ := h2; simp [AV.solid, AV.solid1] at q
   | cons s p => cases s with
    | fld _ _ => obtain ⟨q, _⟩ := h2; simp [AV.solid, AV.solid1] at q
    | idx _ _ => exact h2.1.elim
  have hst : ∀ t x, v = .val t x → t.strB = true := fun t x e => by subst e; simp only [aAi, Bool.and_eq_true] at hb; exact hb.1
  have hb2 : aAi (dF v k).1 p = true := by
   cases v <;> first | (simp only [aAi, Bool.and_eq_true] at hb; exact hb.2) | (simp only [aAi] at hb; exact hb)
  obtain ⟨pre, ds, post, e, hp, hd, hset⟩ := aSt (u := (yX (dF v k).1 p u).2) hs hr hst hj
  obtain ⟨pre2, ds2, post2, e2, hp2, hset2⟩ := aIH p _ u ds hd h2 hb2
  refine ⟨pre ++ pre2, ds2, post2 ++ post, by rw [e, e2]; simp, by rw [List.length_append, hp, hp2, oK, Step.off, ho], fun ds' hu => ?_⟩
  obtain ⟨q1, q2⟩ := hset2 ds' hu
  refine ⟨q1, ?_⟩
  have := hset _ q2
  simpa using this
 | .idx s i :: p, v, u, cs, hr, h, hb => by
  simp only [yX] at h ⊢
  obtain ⟨hs, ho, h2, h4⟩ := h
  have hb2 : aAi (elemOf v i).2 p = true := by cases v <;> simpa [aAi] using hb
  obtain ⟨pre, ds, post, e, hp, hd, hset⟩ := aPX (u := (yX (elemOf v i).2 p u).2) hr hs h4
  obtain ⟨pre2, ds2, post2, e2, hp2, hset2⟩ := aIH p _ u ds hd h2 hb2
  refine ⟨pre ++ pre2, ds2, post2 ++ post, by rw [e, e2]; simp, by rw [List.length_append, hp, hp2, oK, Step.off, ho], fun ds' hu => ?_⟩
  obtain ⟨q1, q2⟩ := hset2 ds' hu
  refine ⟨q1, ?_⟩
  have := hset _ (by rw [e2]; simp [q1]) q2
  simpa using this
end
end Go.Vc
namespace Go.Vc
open Go.RowKit
def Ctx.pushS (c : Ctx) (S' : Nat → Prop) (v : Value) : Ctx := ⟨S', fun i => if i = c.n then v else c.hd i, c.n + 1⟩
section
variable {P : Program} {T : Tab} {M : Perm} {w0 : World} {c : Ctx} {h : List Obj} {w : World}
theorem Good.pushS (hg : Good M w0 c h w) {w' : World} (hk : fM nothing w w') {S' : Nat → Prop} (hS : ∀ b, c.S b → S' b) (hSn : ∀ b, S' b → c.S b ∨ (w.heap.size ≤ b ∧ b < w'.heap.size)) {o : Obj} {hv : Value} (hob : aHM (c.pushS S' hv) w' c.n o)
  (hb : ∀ b, ownBlock (c.pushS S' hv) c.n o = some b → w.heap.size ≤ b ∧ b < w'.heap.size ∧ ¬ S' b) :
  Good M w0 (c.pushS S' hv) (h ++ [o]) w' ∧ dN c w (c.pushS S' hv) w' := by
 have hl : dN c w (c.pushS S' hv) w' := ⟨⟨hS, Nat.le_succ _, fun i hi => by simp [Ctx.pushS, Nat.ne_of_lt hi]⟩, fun b hbS => hk.block b (hg.sfin b hbS) (fun f => f)⟩
 have hcase : ∀ i o', (h ++ [o])[i]? = some o' → (h[i]? = some o' ∧ i < c.n) ∨ (i = c.n ∧ o' = o) := fun i o' ho => by
  rw [hg.n]
  rcases Nat.lt_trichotomy i h.length with hlt | heq | hgt
  ·rw [List.getElem?_append_left hlt] at ho; exact .inl ⟨ho, hlt⟩
  ·subst heq; simp at ho; exact .inr ⟨rfl, ho.symm⟩
  ·rw [List.getElem?_append_right (by omega), List.getElem?_eq_none (by simp; omega)] at ho; cases ho
 refine ⟨⟨by simp [Ctx.pushS, hg.n], hg.keeps.trans hk.any, fun b hbS => ?_, fun b hbS hlt => ?_, fun i o' ho => ?_, fun i o' b ho hbb => ?_, fun i j oi oj b hi hj hbi hbj => ?_, aAb hg.root hl.le⟩, hl⟩
 ·rcases hSn b hbS with hbS | hbS
  ·exact Nat.lt_of_lt_of_le (hg.sfin b hbS) hk.size
  ·exact hbS.2
 ·rcases hSn b hbS with hbS | hbS
  ·exact hg.src b hbS hlt
  ·have := hg.keeps.size; omega
 ·rcases hcase i o' ho with ⟨ho, hi⟩ | ⟨rfl, rfl⟩
  ·exact (hg.objs i o' ho).keep hl hi (fun b hbb => hk.block b (hg.own i o' b ho hbb).2.1 (fun f => f))
  ·exact hob
 ·rcases hcase i o' ho with ⟨ho, hi⟩ | ⟨rfl, rfl⟩
  ·rw [bV hl.le hi] at hbb
   obtain ⟨h1, h2, h3⟩ := hg.own i o' b ho hbb
   refine ⟨h1, Nat.lt_of_lt_of_le h2 hk.size, fun hS' => ?_⟩
   rcases hSn b hS' with hS' | hS'
   ·exact h3 hS'
   ·omega
  ·obtain ⟨h1, h2, h3⟩ := hb b hbb
   exact ⟨.inl (Nat.le_trans hg.keeps.size h1), h2, h3⟩
 ·rcases hcase i oi hi with ⟨hi', hin⟩ | ⟨ei, eo⟩ <;> rcases hcase j oj hj with ⟨hj', hjn⟩ | ⟨ej, eo'⟩
  ·rw [bV hl.le hin] at hbi
   rw [bV hl.le hjn] at hbj
   exact hg.sep i j oi oj b hi' hj' hbi hbj
  ·subst ej; subst eo'
   rw [bV hl.le hin] at hbi
   have := (hg.own i oi b hi' hbi).2.1
   have := (hb b hbj).1
   omega
  ·subst ei; subst eo
   rw [bV hl.le hjn] at hbj
   have := (hg.own j oj b hj' hbj).2.1
   have := (hb b hbi).1
   omega
  ·rw [ei, ej]
theorem Good.regrow (hg : Good M w0 c h w) {i : Nat} {e : TypeId} {t : Ty} {xs : List t.den} (ho : h[i]? = some (.row e t xs)) {w' : World} (hk : w.grownBy w' (aQ (c.hd i))) {v' : Value} {ys : List t.den} (hrow : tJ c w' e t ys v')
  (hb : ∀ b, aQ v' = some b → aQ (c.hd i) = some b ∨ (w.heap.size ≤ b ∧ b < w'.heap.size)) : Good M w0 (c.push v') (h.set i .dead ++ [.row e t ys]) w' ∧ dN c w (c.push v') w' := by
 have hil : i < h.length := oM ho
 have hother : ∀ b, b < w.heap.size → aQ (c.hd i) ≠ some b → w'.heap[b]? = w.heap[b]? := fun b hlt hne => hk.block b hlt (fun e => hne e.symm)
 have hiS : ∀ b, c.S b → aQ (c.hd i) ≠ some b := fun b hS e => (hg.own i _ b ho e).2.2 hS
 have hl : dN c w (c.push v') w' := ⟨c.le_push v', fun b hbS => hother b (hg.sfin b hbS) (hiS b hbS)⟩
 have hcase : ∀ j o', (h.set i Obj.dead ++ [Obj.row e t ys])[j]? = some o' → (h[j]? = some o' ∧ j < c.n ∧ j ≠ i) ∨ (j = c.n ∧ o' = Obj.row e t ys) ∨ o' = Obj.dead := fun j o' hj => by
  rw [hg.n]
  rcases Nat.lt_trichotomy j h.length with hlt | heq | hgt
  ·rw [List.getElem?_append_left (by simpa using hlt)] at hj
   by_cases e' : i = j
   ·subst e'; simp [hil] at hj; exact .inr (.inr hj.symm)
   ·rw [List.getElem?_set_ne e'] at hj; exact .inl ⟨hj, hlt, fun h => e' h.symm⟩
  ·subst heq
   rw [List.getElem?_append_right (by simp)] at hj
   simp at hj; exact .inr (.inl ⟨rfl, hj.symm⟩)
  ·rw [List.getElem?_append_right (by simp; omega), List.getElem?_eq_none (by simp; omega)] at hj; cases hj
 have hpush : (c.push v').hd c.n = v' := by simp [Ctx.push]
 refine ⟨⟨by simp [Ctx.push, hg.n], ⟨hk.os.trans hg.keeps.os, hk.tape.trans hg.keeps.tape, hk.output.trans hg.keeps.output, Nat.le_trans hg.keeps.size hk.size, fun b hlt hM => ?_⟩, fun b hbS => Nat.lt_of_lt_of_le (hg.sfin b hbS) hk.size, hg.src, fun j o' hj => ?_, fun j o' b hj hbb => ?_, fun j k oj ok b hj hk' hbj hbk => ?_, aAb hg.root hl.le⟩, hl⟩
 ·have hne : aQ (c.hd i) ≠ some b := fun e' => by
   rcases (hg.own i _ b ho e').1 with h1 | h1
   ·omega
   ·exact hM h1
  rw [hother b (Nat.lt_of_lt_of_le hlt hg.keeps.size) hne]
  exact hg.keeps.block b hlt hM
 ·rcases hcase j o' hj with ⟨hj', hjn, hne⟩ | ⟨ej, eo⟩ | eo
  ·exact (hg.objs j o' hj').keep hl hjn (fun b hbb => hother b (hg.own j o' b hj' hbb).2.1 (fun e' => hne (hg.sep j i o' _ b hj' ho hbb e')))
  ·subst ej; subst eo
   obtain ⟨vals, h1, h2⟩ := hrow
   exact ⟨vals, by rw [hpush]; exact h1, h2⟩
  ·subst eo; trivial
 ·rcases hcase j o' hj with ⟨hj', hjn, hne⟩ | ⟨ej, eo⟩ | eo
  ·rw [bV hl.le hjn] at hbb
   obtain ⟨h1, h2, h3⟩ := hg.own j o' b hj' hbb
   exact ⟨h1, Nat.lt_of_lt_of_le h2 hk.size, h3⟩
  ·subst ej; subst eo
   have hbb : aQ v' = some b := by rw [← hpush]; exact hbb
   rcases hb b hbb with h1 | h1
   ·obtain ⟨q1, q2, q3⟩ := hg.own i _ b ho h1
    exact ⟨q1, Nat.lt_of_lt_of_le q2 hk.size, q3⟩
   ·exact ⟨.inl (Nat.le_trans hg.keeps.size h1.1), h1.2, fun hS => by have := hg.sfin b hS; omega⟩
  ·subst eo; cases hbb
 ·rcases hcase j oj hj with ⟨hj', hjn, hne⟩ | ⟨ej, eo⟩ | eo
  ·rw [bV hl.le hjn] at hbj
   rcases hcase k ok hk' with ⟨hk'', hkn, hne'⟩ | ⟨ek, eo'⟩ | eo'
   ·rw [bV hl.le hkn] at hbk
    exact hg.sep j k oj ok b hj' hk'' hbj hbk
   ·subst ek; subst eo'
    have hbk : aQ v' = some b := by rw [← hpush]; exact hbk
    rcases hb b hbk with h1 | h1
    ·exact absurd (hg.sep j i oj _ b hj' ho hbj h1) hne
    ·have := (hg.own j oj b hj' hbj).2.1
     omega
   ·subst eo'; cases hbk
  ·subst ej; subst eo
   have hbj : aQ v' = some b := by rw [← hpush]; exact hbj
   rcases hcase k ok hk' with ⟨hk'', hkn, hne'⟩ | ⟨ek, eo'⟩ | eo'
   ·rw [bV hl.le hkn] at hbk
    rcases hb b hbj with h1 | h1
    ·exact absurd (hg.sep k i ok _ b hk'' ho hbk h1) hne'
    ·have := (hg.own k ok b hk'' hbk).2.1
     omega
   ·exact ek.symm
   ·subst eo'; cases hbk
  ·subst eo; cases hbj
def aJk (h : List Obj) : AV → AV
 | .own i => match h[i]? with
  | some (.frz t xs) => .val (.sl t) xs
  | _ => .own i
 | v => v
def aM5 (h : List Obj) : AV → AV
 | .agg vs => .agg (vs.map (aJk h))
 | v => aJk h v
theorem aOm (hg : Good M w0 c h w) {v : AV} {cs : List Value} (hr : aI c w v cs) : aI c w (aJk h v) cs := by
 unfold aJk
 split
 ·rename_i i
  split
  ·rename_i t xs ho
   have := hg.objs i _ ho
   simp only [aI] at hr
   rw [hr.2.1]
   exact this
  ·exact hr
 ·exact hr
theorem aOn (hg : Good M w0 c h w) : ∀ {vs : List AV} {cs : List Value}, jX c w vs cs → jX c w (vs.map (aJk h)) cs
 | [], _, hr => hr
 | v :: r, _, ⟨c1, c2, e, h1, h2⟩ => ⟨c1, c2, e, aOm hg h1, aOn hg h2⟩
theorem aRj (hg : Good M w0 c h w) {v : AV} {x : Value} (hr : aP c w v x) : aP c w (aM5 h v) x := by
 cases v with
 | agg vs =>
  obtain ⟨h1, h2, h3⟩ := hr
  exact ⟨aOn hg (by simpa [aI] using h1), h2, h3⟩
 | own i =>
  simp only [aM5, aJk]
  split
  ·rename_i t xs ho
   have := hg.objs i _ ho
   have hrr := hr
   obtain ⟨h1, h2, h3⟩ := hr
   simp only [aI] at h1
   have hx := (aAe hrr).2
   refine ⟨?_, fun h => by simp [AV.isAgg, Ty.isAgg] at h, fun _ => h3 rfl⟩
   simp only [aI]
   rw [h1.2.1]
   exact this
  ·exact hr
 | _ => exact hr
def aBw (T : Tab) (h : List Obj) (t : TypeId) (a x : AV) : Prop × AV × List Obj :=
 match a with
 | .ptr i p => match h[i]? with
  | some (.box n v) => ((yX v p x).1 ∧ aAi v p = true ∧ x.solid = true ∧ ∃ ct, T t = some ct ∧ ct.cells = x.nc, .junk, h.set i (.box n (yX v p x).2))
  | some (.row e ct xs) => match p with
   | .idx s k :: p => match AV.as [] ct (yX (.val ct (xs.getD k ct.zero)) p x).2 with
    | some y => (k < xs.length ∧ s = ct.cells ∧ (yX (.val ct (xs.getD k ct.zero)) p x).1 ∧ aAi (.val ct (xs.getD k ct.zero)) p = true ∧ x.solid = true ∧ ∃ c', T t = some c' ∧ c'.cells = x.nc, .junk, h.set i (.row e ct (xs.set k y)))
    | none => (False, .junk, h)
   | _ => (False, .junk, h)
  | _ => (False, .junk, h)
 | _ => (False, .junk, h)
def aDU (t' t : Ty) (xs : List t'.den) : Option (List t.den) := if e : t' = t then some (e ▸ xs) else none
@[simp] theorem aPY {t : Ty} {xs : List t.den} : aDU t t xs = some xs := by simp [aDU]
theorem aEs {t' t : Ty} {xs : List t'.den} {ys : List t.den} (h : aDU t' t xs = some ys) : ∃ e : t' = t, ys = e ▸ xs := by
 unfold aDU at h
 split at h
 ·rename_i e; cases h; exact ⟨e, rfl⟩
 ·cases h
theorem aTJ (h : List Obj) (i : Nat) (t : Ty) : rowOf h i t = match h[i]? with
  | some (.row _ t' xs) => aDU t' t xs
  | some (.frz t' xs) => aDU t' t xs
  | _ => none := by
 unfold rowOf aDU
 cases h[i]? with
 | none => rfl
 | some o => cases o <;> rfl
def bound (ct : Ty) (n : Nat) : Prop := n ≤ maxLen ∧ n * ct.byt ≤ 140737488355328
def yY (E : Env) (h : List Obj) (t : TypeId) (s x : AV) : Prop × AV × List Obj :=
 match E.T t with
 | some (.sl ct) => match AV.as (if ct.scalar then h else h.map gX) (.sl ct) x with
  | some ys => match s with
   | .nilS => (bound ct ys.length ∧ ct.okB = true, .own h.length, h ++ [.row (E.el t) ct ys])
   | .own i => match h[i]? with
    | some (.row e c' xs) => match aDU c' ct xs with
     | some xs => (e = E.el t ∧ bound ct (xs.length + ys.length) ∧ ct.okB = true, .own h.length, h.set i .dead ++ [.row (E.el t) ct (xs ++ ys)])
     | none => (False, .junk, h)
    | _ => (False, .junk, h)
   | _ => (False, .junk, h)
  | none => (False, .junk, h)
 | _ => (False, .junk, h)
def aGb (E : Env) (h : List Obj) (t : TypeId) (l cp : AV) : Prop × AV × List Obj :=
 match E.T t with
 | some (.sl ct) => match xS l, xS cp with
  | some n, some m => (ct.okB = true ∧ 0 ≤ n ∧ n ≤ m ∧ (ct.byt : Int) * m ≤ 281474976710656 ∧ m ≤ maxLen, .own h.length, h ++ [.row (E.el t) ct (List.replicate n.toNat ct.zero)])
  | _, _ => (False, .junk, h)
 | _ => (False, .junk, h)
def aDB (Γ : FuncId → List AV → Option aJ) (h : List Obj) (f : FuncId) (vs : List AV) : Prop × AV × List Obj :=
 match Γ f vs with
 | some sp => match sp with
  | ⟨a, .own e t, pre, fn⟩ => match vF (if t.scalar then h else h.map gX) a vs with
   | some x => (pre x, .own h.length, h ++ [.row e t (fn x)])
   | none => (False, .junk, h)
  | _ => (False, .junk, h)
 | none => (False, .junk, h)
theorem aG2 {t : TypeId} {ct : Ty} (hTy : yS P T t ct) {x : AV} {u : Value} (hs : x.solid = true) (hx : aP c w x u) (hn : ct.cells = x.nc) {b off : Nat} {cells : Array Value} {e : TypeId} (hb : w.heap[b]? = some (.cells cells e (0, 0)))
  {pre ds post : List Value} (hc : cells.toList = pre ++ ds ++ post) (hp : pre.length = off) (hl : ds.length = x.nc) :
  aI c w x u.cells.toList ∧ u.cells.toList.length = ds.length ∧ (storeVar t ⟨b, off, none⟩ u).run P w = .ok () (w.setRow b (pre ++ u.cells.toList ++ post).toArray) := by
 have hx1 : sQ c w x u := by cases x <;> first | exact hx | (simp [AV.solid, AV.solid1] at hs)
 have hul := aI0 hs hx1.1
 refine ⟨hx1.1, by rw [hul, hl], ?_⟩
 have hone := aL9 hs hx1.1
 have hcs : cells.size = (pre ++ ds ++ post).length := by rw [← hc]; simp
 have hst := run_storeCells_at P b off e u.cells.toList 0 cells w hb (by
  simp only [Nat.add_zero]
  rw [hul, hcs, ← hl, ← hp]; simp) (fun v hv => by
   have := hone v hv
   cases v <;> first | rfl | exact this.elim)
 have e1 : cells.toList.take (off + 0) = pre := by rw [hc, Nat.add_zero, ← hp, List.append_assoc, List.take_left]
 have e2 : cells.toList.drop (off + 0 + u.cells.toList.length) = post := by
  rw [hc, Nat.add_zero, hul, ← hl, ← hp, ← List.length_append, List.drop_left]
 rw [e1, e2] at hst
 have hsz : u.cells.size = ct.cells := by rw [hn, ← hul]; simp
 simp only [storeVar, Sem.run_bind, gS hTy, Result.andThen_ok, hsz, ne_eq, not_true_eq_false, if_false, Sem.run_ite]
 simpa using hst
theorem aTK (hT : gZ P T) (hg : Good M w0 c h w) {t : TypeId} {a x : AV} {av u : Value} (ha : aP c w a av) (hx : aP c w x u) (hc : (aBw T h t a x).1) :
  ∃ w', (Instr.storeAt t av u).run P w = .ok () w' ∧ dN c w c w' ∧ Good M w0 c (aBw T h t a x).2.2 w' := by
 cases a with
 | ptr i p =>
  obtain ⟨hi, b, hb, rfl⟩ := aAd ha
  simp only [aBw] at hc ⊢
  split at hc
  ·rename_i n v ho
   obtain ⟨h1, h2, h3, ct, h4, h5⟩ := hc
   obtain ⟨b', cells, e, q1, q2, q3, q4⟩ := hg.objs i _ ho
   have hbb : b = b' := by rw [q1] at hb; simp [aQ] at hb; exact hb.symm
   subst hbb
   obtain ⟨pre, ds, post, r1, r2, r3⟩ := aIH p v x cells.toList q4 h1 h2
   have hul := r3 u.cells.toList
   have hx1 : sQ c w x u := by cases x <;> first | exact hx | (simp [AV.solid, AV.solid1] at h3)
   obtain ⟨k1, k2⟩ := r3 _ hx1.1
   obtain ⟨s1, s2, s3⟩ := aG2 (P := P) (hT _ _ h4) h3 hx h5 q2 r1 r2 (by rw [← k1, aI0 h3 hx1.1])
   refine ⟨w.setRow b (pre ++ u.cells.toList ++ post).toArray, by simp [Instr.storeAt, Instr.sureAddr, s3], ?_⟩
   have hsame : ∀ k, k ≠ b → (w.setRow b (pre ++ u.cells.toList ++ post).toArray).heap[k]? = w.heap[k]? := fun k hk => setRow_other w b k _ hk
   have hob : ownBlock c i (.box n v) = some b := by simp [ownBlock, q1, aQ]
   have hnS := (hg.own i _ b ho hob).2.2
   have := hg.modify (o' := .box n (yX v p x).2) ho hob (w' := w.setRow b (pre ++ u.cells.toList ++ post).toArray) rfl rfl rfl (by simp [World.setRow]) hsame ?_ ?_
   ·exact ⟨this.2, this.1⟩
   ·refine ⟨b, _, e, q1, setRow_heap w b cells _ e _ q2, ?_, ?_⟩
    ·have : cells.size = (pre ++ ds ++ post).length := by rw [← r1]; simp
     have h8 : (pre ++ u.cells.toList ++ post).toArray.size = cells.size := by rw [this]; simp [s2]
     rw [h8]; exact q3
    ·have := aI.keep (c' := c) (.refl c) (fun k hk => hsame k (fun e => hnS (e ▸ hk))) _ _ k2
     simpa using this
   ·intro b' hb'
    simp [ownBlock, q1, aQ] at hb'
    exact hb'.symm
  ·rename_i e ct xs ho
   cases p with
   | nil => exact hc.elim
   | cons st p =>
    cases st with
    | fld _ _ => exact hc.elim
    | idx s k =>
     simp only at hc ⊢
     split at hc
     ·rename_i y hy
      obtain ⟨h1, h2, h3, h4, h5, c', h6, h7⟩ := hc
      simp only [hy]
      obtain ⟨vals, hown, hrep⟩ := hg.objs i _ ho
      obtain ⟨hvl, hv⟩ := hown
      rcases hv with ⟨_, h0⟩ | ⟨g, cap, cur, hhd, _, hheap, hle, hcap, hsz, htake⟩
      ·omega
      have hbb : b = g := by rw [hhd] at hb; simp [aQ] at hb; exact hb.symm
      subst hbb
      have hset : aAh (.val (.arr xs.length ct) xs) k (yX (.val ct (xs.getD k ct.zero)) p x).2 = .val (.arr xs.length ct) (xs.set k y) := by
       simp only [aAh, hy]
      obtain ⟨pre, ds, post, r1, r2, r3⟩ := aIH (.idx s k :: p) (.val (.arr xs.length ct) xs) x vals (show aS w c.S _ _ _ from hrep) (by
       simp only [yX]
       refine ⟨h1, h2, h3, ?_⟩
       have := hset
       simp only [elemOf]
       rw [this]; simp) (by simp only [aAi, elemOf]; exact h4)
      have hcur : cur.toList = pre ++ ds ++ (post ++ cur.toList.drop (xs.length * ct.cells)) := by
       rw [← List.append_assoc, ← r1, ← htake, List.take_append_drop]
      have hx1 : sQ c w x u := by cases x <;> first | exact hx | (simp [AV.solid, AV.solid1] at h5)
      obtain ⟨k1, k2⟩ := r3 _ hx1.1
      obtain ⟨s1, s2, s3⟩ := aG2 (P := P) (hT _ _ h6) h5 hx h7 hheap hcur r2 (by rw [← k1, aI0 h5 hx1.1])
      refine ⟨_, by simp only [Instr.storeAt, Instr.sureAddr, Sem.run_bind, Sem.run_pure, Result.andThen_ok]; exact s3, ?_⟩
      have hsame : ∀ k', k' ≠ b → (w.setRow b (pre ++ u.cells.toList ++ (post ++ cur.toList.drop (xs.length * ct.cells))).toArray).heap[k']? = w.heap[k']? := fun k' hk => setRow_other w b k' _ hk
      have hob : ownBlock c i (.row e ct xs) = some b := by simp [ownBlock, hhd, aQ]
      have hnS := (hg.own i _ b ho hob).2.2
      have hS : wJ c.S w (w.setRow b (pre ++ u.cells.toList ++ (post ++ cur.toList.drop (xs.length * ct.cells))).toArray) := fun k' hk => hsame k' (fun e => hnS (e ▸ hk))
      have hnew : aS w c.S (.arr xs.length ct) (xs.set k y) (pre ++ u.cells.toList ++ post) := by
       have := k2
       simp only [yX, elemOf] at this
       rw [hset] at this
       exact this
      have hlen : (pre ++ u.cells.toList ++ post).length = vals.length := by rw [r1]; simp [s2]
      have := hg.modify (o' := .row e ct (xs.set k y)) ho hob (w' := w.setRow b (pre ++ u.cells.toList ++ (post ++ cur.toList.drop (xs.length * ct.cells))).toArray) rfl rfl rfl (by simp [World.setRow]) hsame ?_ ?_
      ·exact ⟨this.2, this.1⟩
      ·have hl' : (xs.set k y).length = xs.length := by simp
       refine ⟨pre ++ u.cells.toList ++ post, ⟨by rw [hlen, hl', hvl], .inr ⟨b, cap, _, by rw [hl', hhd], Nat.zero_le _, setRow_heap w b cur _ e _ hheap, by rw [hl']; exact hle, hcap, ?_, ?_⟩⟩, ?_⟩
       ·rw [← hsz]
        have : cur.size = (pre ++ ds ++ (post ++ cur.toList.drop (xs.length * ct.cells))).length := by rw [← hcur]; simp
        rw [this]
        simp [s2]
       ·rw [hl', ← hvl, ← hlen]
        simp only [← List.append_assoc]
        exact List.take_left
       ·rw [hl']
        exact aS.keep (fun _ h => h) hS _ _ _ hnew
      ·intro b' hb'
       simp [ownBlock, hhd, aQ] at hb'
       exact hb'.symm
     ·exact hc.elim
  ·exact hc.elim
 | _ => exact hc.elim
theorem SlR.flat {S : Nat → Prop} {t : Ty} {xs : List t.den} {a : Option Addr} {len cap : Nat} (hs : SlR w S (aS w S t) t.cells xs a len cap) : ∃ css : List (List Value), css.length = xs.length ∧ css.flatten.length = xs.length * t.cells ∧ aS w S (.arr xs.length t) xs css.flatten ∧ (xs = [] ∨ ∃ b off, a = some ⟨b, off, none⟩ ∧ iX w b off css.flatten) := by
 obtain ⟨h1, h2, h3, h4⟩ := hs
 rcases h4 with rfl | ⟨b, off, rfl, hb, hel⟩
 ·exact ⟨[], rfl, by simp, ⟨rfl, [], rfl, rfl, fun i h => by simp at h⟩, .inl rfl⟩
 ·have hall : ∃ css : List (List Value), css.length = xs.length ∧ ∀ i (h : i < xs.length) (h' : i < css.length), aS w S t xs[i] css[i] ∧ iX w b (off + i * t.cells) css[i] := by
   have : ∀ n, n ≤ xs.length → ∃ css : List (List Value), css.length = n ∧ ∀ i (h : i < xs.length) (h' : i < css.length), aS w S t xs[i] css[i] ∧ iX w b (off + i * t.cells) css[i] := by
    intro n
    induction n with
    | zero => intro _; exact ⟨[], rfl, fun i h h' => by simp at h'⟩
    | succ n ih =>
     intro hn
     obtain ⟨css, hl, hc⟩ := ih (by omega)
     obtain ⟨ds, hd, hcell⟩ := hel n (by omega)
     refine ⟨css ++ [ds], by simp [hl], fun i hi hi' => ?_⟩
     by_cases hin : i < n
     ·rw [List.getElem_append_left (by omega)]; exact hc i hi (by omega)
     ·have : i = n := by simp [hl] at hi'; omega
      subst this
      rw [List.getElem_append_right (by omega)]
      simp only [hl, Nat.sub_self, List.getElem_cons_zero]
      exact ⟨hd, hcell⟩
   exact this xs.length (Nat.le_refl _)
  obtain ⟨css, hl, hc⟩ := hall
  have hlen : ∀ j (hj : j < css.length), (css[j]).length = t.cells := fun j hj => aS.length _ _ _ (hc j (by omega) hj).1
  have hfl : css.flatten.length = xs.length * t.cells := by rw [qB hlen, hl]
  refine ⟨css, hl, hfl, ⟨rfl, css, rfl, hl, fun i h h' => (hc i h h').1⟩, .inr ⟨b, off, rfl, ?_⟩⟩
  intro j v hj
  have hjl : j < css.length * t.cells := by
   rcases Nat.lt_or_ge j (css.length * t.cells) with h | h
   ·exact h
   ·rw [List.getElem?_eq_none (by rw [hfl, ← hl]; exact h)] at hj; cases hj
  have htp : 0 < t.cells := by
   rcases Nat.eq_zero_or_pos t.cells with h | h
   ·rw [h] at hjl; omega
   ·exact h
  have hi : j / t.cells < css.length := Nat.div_lt_of_lt_mul (by rw [Nat.mul_comm]; exact hjl)
  obtain ⟨pre, post, hf, hp⟩ := nS (t := t) (css := css) hlen (j / t.cells) hi
  have hdm := Nat.div_add_mod j t.cells
  have hml := Nat.mod_lt j htp
  have : (css[j / t.cells])[j % t.cells]? = some v := by
   have e : j - pre.length = j % t.cells := by rw [hp, Nat.mul_comm]; omega
   have e1 : pre.length ≤ j := by rw [hp, Nat.mul_comm]; omega
   have hl2 := hlen _ hi
   generalize css[j / t.cells] = ds at hf hl2 ⊢
   rw [hf, List.append_assoc, List.getElem?_append_right e1, e, List.getElem?_append_left (by omega)] at hj
   exact hj
  have := (hc (j / t.cells) (by omega) hi).2 _ _ this
  have e4 : off + j / t.cells * t.cells + j % t.cells = off + j := by rw [Nat.mul_comm, Nat.add_assoc, hdm]
  rw [e4] at this
  exact this
end
end Go.Vc
namespace Go.Vc
open Go.RowKit
section
variable {P : Program} {E : Env} {T : Tab} {M : Perm} {w0 : World} {c : Ctx} {h : List Obj} {w : World}
theorem aA3 (w : World) (o : Go.Obj) : (w.alloc o).heap[w.heap.size]? = some o := by
 show (w.heap.push o)[w.heap.size]? = some o
 simp
theorem yZ {ct : Ty} (hok : ct.okB = true) : (nD ct).cells = (dJ ct).toArray := by
 have w : World := default
 have hzc : (nD ct).cells.toList = dJ ct := by
  unfold nD
  split
  ·simp [Value.cells]
  ·have h1 : (dJ ct).length = 1 := by
    rw [aS.length _ _ _ (gM w (fun _ => False) ct hok)]
    rename_i ha
    cases ct <;> simp_all [Ty.isAgg, Ty.cells]
   match hzz : dJ ct, h1 with
   | [v], _ =>
    have hone := aS.one ct _ _ (gM w (fun _ => False) ct hok) v (by rw [hzz]; simp)
    simp only [List.headD_cons]
    cases v <;> first | rfl | exact hone.elim
 rw [← hzc]
theorem nT {ct : Ty} (hok : ct.okB = true) : (dJ ct).length = ct.cells := aS.length _ _ _ (gM (default : World) (fun _ => False) ct hok)
theorem aEt {S : Nat → Prop} {t : Ty} {xs ys : List t.den} {vs us : List Value} (h1 : aS w S (.arr xs.length t) xs vs) (h2 : aS w S (.arr ys.length t) ys us) : aS w S (.arr (xs ++ ys).length t) (xs ++ ys) (vs ++ us) := by
 obtain ⟨_, cs, rfl, hl, hr⟩ := h1
 obtain ⟨_, ds, rfl, hl', hr'⟩ := h2
 refine ⟨rfl, cs ++ ds, by simp, by simp [hl, hl'], fun i hi hi' => ?_⟩
 by_cases hlt : i < xs.length
 ·rw [List.getElem_append_left hlt, List.getElem_append_left (by omega)]; exact hr i hlt (by omega)
 ·rw [List.getElem_append_right (by omega), List.getElem_append_right (by omega)]
  have := hr' (i - xs.length) (by simp at hi; omega) (by simp at hi; omega)
  simpa [hl] using this
theorem aXH (hg : Good M w0 c h w) {ct : Ty} {x : AV} {xv : Value} {ys : List ct.den} (hx : aP c w x xv) (ha : AV.as (if ct.scalar then h else h.map gX) (.sl ct) x = some ys) :
  ∃ a cap news, xv = .slice a ys.length cap ∧ ys.length ≤ cap ∧ news.length = ys.length * ct.cells ∧ aS w c.S (.arr ys.length ct) ys news ∧ (ys = [] ∨ ∃ b off, a = some ⟨b, off, none⟩ ∧ iX w b off news) := by
 by_cases hs : ct.scalar = true
 ·rw [if_pos hs] at ha
  have hv := aDz hg hx ha
  obtain ⟨a, len, cap, rfl, hsl⟩ := yK (c := ⟨aAc c h, c.hd, c.n⟩) hv
  obtain ⟨css, _, hfl, hr, hor⟩ := hsl.flat
  obtain ⟨rfl, hle, _, _⟩ := hsl
  exact ⟨a, cap, css.flatten, rfl, hle, hfl, aS.scalar _ _ _ (by simpa [Ty.scalar] using hs) hr, hor⟩
 ·rw [if_neg hs] at ha
  have hv := qY hg hx ha
  obtain ⟨a, len, cap, rfl, hsl⟩ := yK (c := c) hv
  obtain ⟨css, _, hfl, hr, hor⟩ := hsl.flat
  obtain ⟨rfl, hle, _, _⟩ := hsl
  exact ⟨a, cap, css.flatten, rfl, hle, hfl, hr, hor⟩
theorem aHP {t ty e : TypeId} {i : TypeInfo} (ht : P.underlying t = some (.slice e)) (hi : P.info? e = some i) {v : Value} {n : Nat} {xs : List Value} (hown : w.ownsRow 0 e i.size v n xs) {a : Option Addr} {cap : Nat} (hcap : 0 ≤ cap) :
  (Builtin.append_ #[t, t] ty #[v, .slice a 0 cap]).run P w = .ok v w := by
 rcases hown.2 with ⟨rfl, rfl⟩ | ⟨g, cp, cur, rfl, _, hg, hnc, hcm, hcs, htake⟩
 ·cases a <;> simp [Builtin.append_, run_underlying ht, sizeOf, typeInfo, hi, Builtin.lenOf, Builtin.firstCells, loadCells, loadCellsFrom]
 ·cases a <;> simp [Builtin.append_, run_underlying ht, sizeOf, typeInfo, hi, Builtin.lenOf, Builtin.firstCells, loadCells, loadCellsFrom, hnc, storeCells]
theorem sS {v : Value} (h : ∃ a n m, v = .slice a n m) : aQ v = v.ownBlock := by
 obtain ⟨a, n, m, rfl⟩ := h
 cases a <;> rfl
theorem iY {B : Nat} {e : TypeId} {sz : Nat} {v : Value} {n : Nat} {xs : List Value} (h : w.ownsRow B e sz v n xs) : ∃ a n m, v = .slice a n m := by
 rcases h.2 with ⟨rfl, _⟩ | ⟨g, cap, cur, rfl, _⟩
 ·exact ⟨_, _, _, rfl⟩
 ·exact ⟨_, _, _, rfl⟩
theorem aJl (hE : gA P E) {t ty : TypeId} {ct : Ty} (ht : E.T t = some (.sl ct)) (hok : ct.okB = true) {sv xv : Value} {xs ys : List ct.den} (hS : True)
  (hrow : tJ c w (E.el t) ct xs sv) {a : Option Addr} {cap : Nat} {news : List Value} (hxv : xv = .slice a ys.length cap) (hnl : news.length = ys.length * ct.cells) (hnr : aS w c.S (.arr ys.length ct) ys news) (hor : ys = [] ∨ ∃ b off, a = some ⟨b, off, none⟩ ∧ iX w b off news)
  (hb : bound ct (xs.length + ys.length)) (hSb : ∀ b, c.S b → b < w.heap.size ∧ aQ sv ≠ some b) :
  ∃ v' w', (Builtin.append_ #[t, t] ty #[sv, xv]).run P w = .ok v' w' ∧ w.grownBy w' (aQ sv) ∧ tJ c w' (E.el t) ct (xs ++ ys) v' ∧ (∀ b, aQ v' = some b → aQ sv = some b ∨ (w.heap.size ≤ b ∧ b < w'.heap.size)) ∧ ∃ a n m, v' = .slice a n m := by
 have hd := hE.el t ct ht
 obtain ⟨e', hd', hTe', hpos⟩ := gG (hE.T _ _ ht)
 have : e' = E.el t := by rw [hd] at hd'; cases hd'; rfl
 subst this
 have hTe := hE.T _ _ hTe'
 obtain ⟨i, hi, hsz, hz, hby⟩ := hTe.info
 obtain ⟨vals, hown, hrep⟩ := hrow
 rw [← hsz] at hown
 subst hxv
 rcases hor with rfl | ⟨b, off, rfl, hcell⟩
 ·have hrun := aHP (P := P) (ty := ty) hd hi hown (a := a) (cap := cap) (Nat.zero_le _)
  refine ⟨sv, w, hrun, ⟨rfl, rfl, rfl, Nat.le_refl _, fun _ _ _ => rfl⟩, ?_, fun b hb => .inl hb, iY hown⟩
  rw [List.append_nil]
  exact ⟨vals, by rw [← hsz]; exact hown, hrep⟩
 ·have hone : ∀ u ∈ news, u.oneCell' = true := fun u hu => by
   have := aS.one _ _ _ hnr u hu
   cases u <;> first | rfl | exact this.elim
  obtain ⟨v', w', hrun, hown', hgr, _, hat⟩ := run_append_own_at (P := P) w 0 t ty (E.el t) i (nD ct) ct.cells i.bytes hd hi (hz hok) hsz rfl (by rw [yZ hok]; simp [nT hok]) hpos sv xs.length vals (by rw [← hsz]; exact hown)
   ⟨b, off, none⟩ ys.length cap news hnl (fun j u hj => by rw [tQ]; exact hcell j u hj) hone hb.1 (Nat.le_trans (Nat.mul_le_mul_left _ hby) hb.2) (Nat.zero_le _)
  have hsl := iY hown
  have hsl' := iY hown'
  rw [← sS hsl] at hgr hat
  rw [← sS hsl'] at hat
  have hsame : wJ c.S w w' := fun b hb => hgr.block b (hSb b hb).1 (fun e => (hSb b hb).2 e.symm)
  refine ⟨v', w', hrun, hgr, ?_, fun b hb => ?_, hsl'⟩
  ·have := aEt hrep hnr
   exact ⟨vals ++ news, by simpa using hown', aS.keep (fun _ h => h) hsame _ _ _ this⟩
  ·rcases hat with hat | hat
   ·left; rw [← hat]; exact hb
   ·right
    rw [hat] at hb
    cases hb
    refine ⟨Nat.le_refl _, ?_⟩
    rcases hown'.2 with ⟨rfl, _⟩ | ⟨g, cp, cur, rfl, _, hheap, _⟩
    ·cases hat
    ·simp [aQ] at hat
     subst hat
     exact (Array.getElem?_eq_some_iff.1 hheap).1
theorem aAD {v' : Value} (h : ∃ a n m, v' = .slice a n m) {w' : World} {S' : Nat → Prop} : aP (c.pushS S' v') w' (.own c.n) v' := by
 obtain ⟨a, n, m, rfl⟩ := h
 refine ⟨⟨Nat.lt_succ_self c.n, ?_, ?_⟩, (fun h => by cases h), (fun _ cs => by simp)⟩
 ·show [Value.slice a n m] = [if c.n = c.n then Value.slice a n m else c.hd c.n]
  rw [if_pos rfl]
 ·show one (if c.n = c.n then Value.slice a n m else c.hd c.n)
  rw [if_pos rfl]; trivial
theorem aSu (hE : gA P E) (hg : Good M w0 c h w) {t ty : TypeId} {s x : AV} {sv xv : Value} (hs : aP c w s sv) (hx : aP c w x xv) (hc : (yY E h t s x).1) :
  ∃ v' w' c', (Builtin.append_ #[t, t] ty #[sv, xv]).run P w = .ok v' w' ∧ dN c w c' w' ∧ Good M w0 c' (yY E h t s x).2.2 w' ∧ aP c' w' (yY E h t s x).2.1 v' := by
 unfold yY at hc ⊢
 split at hc
 ·rename_i ct ht
  split at hc
  ·rename_i ys hys
   try simp only [hys]
   obtain ⟨a, cap, news, hxv, hcap, hnl, hnr, hor⟩ := aXH hg hx hys
   split at hc
   ·
    obtain ⟨hb, hok⟩ := hc
    have hsv : sv = .slice none 0 0 := by
     obtain ⟨h1, _, h3⟩ := hs
     have h3 := h3 rfl
     simp only [aI] at h1
     cases sv <;> simp [Value.cells] at h1 h3 <;> simp [h1]
    subst hsv
    obtain ⟨v', w', hrun, hgr, hrow, hbl, hsl⟩ := aJl (c := c) (w := w) (P := P) (ty := ty) (xs := []) hE ht hok trivial (sv := .slice none 0 0) ⟨[], ⟨by simp, .inl ⟨rfl, rfl⟩⟩, ⟨rfl, [], rfl, rfl, fun i h => by simp at h⟩⟩ hxv hnl hnr hor (by simpa using hb) (fun b hb => ⟨hg.sfin b hb, by simp [aQ]⟩)
    have hk : fM nothing w w' := ⟨hgr.os, hgr.tape, hgr.output, hgr.size, fun b hb _ => hgr.block b hb (by simp [aQ])⟩
    have := hg.push hk (o := .row (E.el t) ct ys) (hv := v') (by
     show tJ _ _ _ _ _ _
     have e : (c.push v').hd c.n = v' := by simp [Ctx.push]
     rw [e]
     exact hrow) (fun b hb => by
     have e : (c.push v').hd c.n = v' := by simp [Ctx.push]
     simp only [ownBlock, e] at hb
     rcases hbl b hb with h1 | h1
     ·simp [aQ] at h1
     ·exact h1)
    refine ⟨v', w', _, hrun, this.2, this.1, ?_⟩
    have := aAD (c := c) hsl (w' := w') (S' := c.S)
    rw [← hg.n]
    exact this
   ·rename_i i
    split at hc
    ·rename_i e c' xs ho
     split at hc
     ·rename_i xs' hcast
      obtain ⟨rfl, rfl⟩ := aEs hcast
      obtain ⟨rfl, hb, hok⟩ := hc
      have hsv := (aAe hs).2
      have hrow0 : tJ c w (E.el t) _ _ (c.hd i) := hg.objs i _ ho
      subst hsv
      obtain ⟨v', w', hrun, hgr, hrow, hbl, hsl⟩ := aJl (c := c) (w := w) (P := P) (ty := ty) hE ht hok trivial hrow0 hxv hnl hnr hor hb (fun b hb => ⟨hg.sfin b hb, fun e => (hg.own i _ b ho e).2.2 hb⟩)
      have := hg.regrow ho hgr hrow hbl
      refine ⟨v', w', _, hrun, this.2, this.1, ?_⟩
      have := aAD (c := c) hsl (w' := w') (S' := c.S)
      rw [← hg.n]
      exact this
     ·exact hc.elim
    ·exact hc.elim
   ·exact hc.elim
  ·exact hc.elim
 ·exact hc.elim
theorem aV8 (hE : gA P E) (hg : Good M w0 c h w) {t : TypeId} {l cp : AV} {lv cv : Value} (hl : aP c w l lv) (hcp : aP c w cp cv) (hc : (aGb E h t l cp).1) :
  ∃ v' w' c', (Instr.makeSlice t lv cv).run P w = .ok v' w' ∧ dN c w c' w' ∧ Good M w0 c' (aGb E h t l cp).2.2 w' ∧ aP c' w' (aGb E h t l cp).2.1 v' := by
 unfold aGb at hc ⊢
 split at hc
 ·rename_i ct ht
  split at hc
  ·rename_i n m hn hm
   obtain ⟨hok, h0, h1, h2, h3⟩ := hc
   obtain ⟨k1, rfl⟩ := xF hl hn
   obtain ⟨k2, rfl⟩ := xF hcp hm
   have hd := hE.el t ct ht
   obtain ⟨e', hd', hTe', hpos⟩ := gG (hE.T _ _ ht)
   have : e' = E.el t := by rw [hd] at hd'; cases hd'; rfl
   subst this
   obtain ⟨i, hi, hsz, hz, hby⟩ := (hE.T _ _ hTe').info
   have hbytes : (i.bytes : Int) * m ≤ 281474976710656 := by
    have : (i.bytes : Int) * m ≤ (ct.byt : Int) * m := Int.mul_le_mul_of_nonneg_right (by omega) (by omega)
    omega
   have hrun := run_make (P := P) w t (E.el t) i (nD ct) hd hi (hz hok) k1 k2 n m h0 h1 hbytes (by simp only [maxLen] at h3; omega)
   have hk : fM nothing w (w.alloc (.cells (madeCells (nD ct).cells (m.toNat * i.size)) (E.el t) (0, 0))) := fM.alloc nothing w _
   have hrow : tJ c (w.alloc (.cells (madeCells (nD ct).cells (m.toNat * i.size)) (E.el t) (0, 0))) (E.el t) ct (List.replicate n.toNat ct.zero) (.slice (some ⟨w.heap.size, 0, none⟩) n.toNat m.toNat) := by
    have hcells : (madeCells (nD ct).cells (m.toNat * i.size)).toList = (List.replicate m.toNat (dJ ct)).flatten := by
     rw [hsz, yZ hok, ← nT hok]
     exact xG _ _ (by rw [nT hok]; exact hpos)
    have hsplit : (List.replicate m.toNat (dJ ct)).flatten = (List.replicate n.toNat (dJ ct)).flatten ++ (List.replicate (m.toNat - n.toNat) (dJ ct)).flatten := by
     rw [← List.flatten_append, List.replicate_append_replicate]
     congr 2; omega
    have hlen : (List.replicate n.toNat (dJ ct)).flatten.length = n.toNat * ct.cells := by simp [nT hok]
    refine ⟨(List.replicate n.toNat (dJ ct)).flatten, ⟨by simp [nT hok], .inr ⟨w.heap.size, m.toNat, _, by simp, Nat.zero_le _, aA3 w _, by simp; omega, by omega, by rw [size_madeCells, hsz], ?_⟩⟩, ?_⟩
    ·rw [hcells, hsplit, List.length_replicate, ← hlen]; exact List.take_left
    ·have := gM (w.alloc (.cells (madeCells (nD ct).cells (m.toNat * i.size)) (E.el t) (0, 0))) c.S (.arr n.toNat ct) hok
     rw [List.length_replicate]
     exact this
   have := hg.push hk (o := .row (E.el t) ct (List.replicate n.toNat ct.zero)) (hv := .slice (some ⟨w.heap.size, 0, none⟩) n.toNat m.toNat) (by
    show tJ _ _ _ _ _ _
    have e : (c.push (.slice (some ⟨w.heap.size, 0, none⟩) n.toNat m.toNat)).hd c.n = .slice (some ⟨w.heap.size, 0, none⟩) n.toNat m.toNat := by simp [Ctx.push]
    rw [e]
    exact hrow) (fun b hb => by
    have e : (c.push (.slice (some ⟨w.heap.size, 0, none⟩) n.toNat m.toNat)).hd c.n = .slice (some ⟨w.heap.size, 0, none⟩) n.toNat m.toNat := by simp [Ctx.push]
    simp only [ownBlock, e, aQ, Option.some.injEq] at hb
    subst hb
    exact ⟨Nat.le_refl _, by simp⟩)
   refine ⟨_, _, _, hrun, this.2, this.1, ?_⟩
   have := aAD (c := c) (v' := .slice (some ⟨w.heap.size, 0, none⟩) n.toNat m.toNat) ⟨_, _, _, rfl⟩ (w' := w.alloc (.cells (madeCells (nD ct).cells (m.toNat * i.size)) (E.el t) (0, 0))) (S' := c.S)
   rw [← hg.n]
   exact this
  ·exact hc.elim
 ·exact hc.elim
theorem aE9 {c : Ctx} {w : World} {ct : Ty} (hok : ct.okB = true) : aI c w (aCt ct) (nD ct).cells.toList ∧ (aCt ct).solid = true ∧ (aCt ct).nc = ct.cells ∧ aP c w (aCt ct) (nD ct) := by
 unfold aCt
 cases h : aIW ct with
 | false =>
  cases hs : aIV ct with
  | true =>
   obtain ⟨b, rfl⟩ := aTg hs
   have hc : aI c w .nilS (nD (.sl b)).cells.toList := rfl
   exact ⟨hc, rfl, rfl, hc, (fun h => by cases h), fun _ cs => by simp [nD, dJ, Ty.isAgg]⟩
  | false =>
   have := aP.ofV (aCw w c.S ct hok)
   exact ⟨this.1, rfl, rfl, this⟩
 | true =>
  obtain ⟨b, rfl⟩ := aN6 h
  have hc : aI c w (.agg [.nilP, .nilS]) (nD (.pair .nilp (.pair (.sl b) .unit))).cells.toList := by
   simp only [aI]
   exact ⟨[.pointer none], [.slice none 0 0], rfl, rfl, [.slice none 0 0], [], rfl, rfl, rfl⟩
  refine ⟨hc, rfl, rfl, hc, fun _ => ⟨_, rfl⟩, (fun h => by cases h)⟩
theorem aMh (hg : Good M w0 c h w) {t : TypeId} {x : AV} {v : Value} {n : Nat} (hn : aVS n x.nc t) (hs : x.solid = true) (hx : aP c w x v) :
  ∃ w' c', (newVar t v).run P w = .ok ⟨w.heap.size, 0, none⟩ w' ∧ dN c w c' w' ∧ Good M w0 c' (h ++ [.box n x]) w' ∧ aP c' w' (.ptr h.length []) (.pointer (some ⟨w.heap.size, 0, none⟩)) := by
 have hx1 : sQ c w x v := by cases x <;> first | exact hx | (simp [AV.solid, AV.solid1] at hs)
 have hnc := aI0 hs hx1.1
 have hk : fM nothing w (w.alloc (.cells v.cells t (0, 0))) := fM.alloc nothing w _
 have e : (c.push (.pointer (some ⟨w.heap.size, 0, none⟩))).hd c.n = .pointer (some ⟨w.heap.size, 0, none⟩) := by simp [Ctx.push]
 have := hg.push hk (o := .box n x) (hv := .pointer (some ⟨w.heap.size, 0, none⟩)) (by
  refine ⟨w.heap.size, v.cells, t, e, aA3 w _, by rw [← hnc] at hn; simpa using hn, ?_⟩
  exact aI.keep (c.le_push _) (fun b hb => hk.block b (hg.sfin b hb) (fun f => f)) _ _ hx1.1) (fun b hb => by
  simp only [ownBlock, e, aQ, Option.some.injEq] at hb
  subst hb
  exact ⟨Nat.le_refl _, by simp⟩)
 refine ⟨_, _, by simp [newVar, newRow], this.2, this.1, ?_⟩
 rw [← hg.n]
 refine ⟨⟨Nat.lt_succ_self c.n, w.heap.size, by rw [e]; rfl, rfl⟩, (fun h => by cases h), (fun _ cs => by simp)⟩
theorem aPZ {G : Nat → AV} {Γ : FuncId → List AV → Option aJ} {f : FuncId} {vs : List AV} {xs : Array Value} (hΓ : ∀ sp, Γ f vs = some sp → FOK P G f sp) (hg : Good M w0 c h w) (hG : oD G c.S w) (hl : xs.size = vs.length)
  (hv : ∀ i (h1 : i < vs.length) (h2 : i < xs.size), aP c w vs[i] xs[i]) (hc : (aDB Γ h f vs).1) :
  Calls P f xs w fun e w' => ∃ v c', e = .returned v ∧ dN c w c' w' ∧ Good M w0 c' (aDB Γ h f vs).2.2 w' ∧ aP c' w' (aDB Γ h f vs).2.1 v := by
 unfold aDB at hc ⊢
 split at hc
 ·rename_i sp hf
  split at hc
  ·rename_i a e t pre fn
   split at hc
   ·rename_i x ha
    have hl' : xs.toList.length = vs.length := by simpa using hl
    have hv' : ∀ i (h1 : i < vs.length) (h2 : i < xs.toList.length), aP c w vs[i] xs.toList[i] := fun i h1 h2 => by
     have := hv i h1 (by simpa using h2)
     simpa using this
    have key : ∃ S0 : Nat → Prop, (∀ b, S0 b → b < w.heap.size) ∧ oD G S0 w ∧ nE w S0 a x xs.toList ∧ (t.scalar = true ∨ ∀ b, S0 b → c.S b) := by
     by_cases hs : t.scalar = true
     ·rw [if_pos hs] at ha
      exact ⟨aAc c h, aOc hg, hG.mono (fun b hb => .inl hb) (.refl _ _), aMY hg _ _ _ _ ha hl' hv', .inl hs⟩
     ·rw [if_neg hs] at ha
      exact ⟨c.S, hg.sfin, hG, aCB hg ha hl' hv', .inr fun b hb => hb⟩
    obtain ⟨S0, k1, k2, k3, k4⟩ := key
    refine (hΓ _ hf w S0 xs x k1 k2 k3 hc).mono ?_
    rintro ex w' ⟨v, rfl, hk, vals, hown, hrep⟩
    have hsl := iY hown
    have e1 : (c.pushS (fun b => c.S b ∨ (w.heap.size ≤ b ∧ b < w'.heap.size ∧ aQ v ≠ some b)) v).hd c.n = v := by simp [Ctx.pushS]
    have := hg.pushS hk (S' := fun b => c.S b ∨ (w.heap.size ≤ b ∧ b < w'.heap.size ∧ aQ v ≠ some b)) (fun b hb => .inl hb) (fun b hb => hb.imp id fun hb => ⟨hb.1, hb.2.1⟩) (o := .row e t (fn x)) (hv := v) (by
     show tJ _ _ _ _ _ _
     rw [e1]
     refine ⟨vals, ?_, ?_⟩
     ·exact ⟨hown.1, hown.2.imp id fun ⟨g, cap, cur, h1, h2, h3⟩ => ⟨g, cap, cur, h1, Nat.zero_le _, h3⟩⟩
     ·rcases k4 with hs | hS
      ·exact aS.scalar _ _ _ (by simpa [Ty.scalar] using hs) hrep
      ·exact aS.keep (fun b hb => hb.imp (hS b) id) (.refl _ _) _ _ _ hrep) (fun b hb => by
     simp only [ownBlock, e1] at hb
     rcases hown.2 with ⟨rfl, _⟩ | ⟨g, cap, cur, rfl, hBg, hheap, _⟩
     ·cases hb
     ·simp [aQ] at hb
      subst hb
      have hlt := (Array.getElem?_eq_some_iff.1 hheap).1
      refine ⟨hBg, hlt, fun hS => ?_⟩
      rcases hS with hS | hS
      ·have := hg.sfin _ hS; omega
      ·exact hS.2.2 rfl)
    refine ⟨v, _, rfl, this.2, this.1, ?_⟩
    have := aAD (c := c) hsl (w' := w') (S' := fun b => c.S b ∨ (w.heap.size ≤ b ∧ b < w'.heap.size ∧ aQ v ≠ some b))
    rw [← hg.n]
    exact this
   ·exact hc.elim
  ·exact hc.elim
 ·exact hc.elim
end
end Go.Vc
namespace Go.Vc
open Go.RowKit
section
variable {P : Program} {E : Env} {T : Tab} {M : Perm} {w0 : World} {c : Ctx} {h : List Obj} {w : World}
theorem aJm (zs : List Value) (n : Nat) (hz : 0 < zs.length) : (Builtin.zeroCells zs.toArray n).toList = (List.replicate n zs).flatten := by
 have := xG zs n hz
 simpa [Builtin.zeroCells] using this
theorem aHQ (w : World) (base : Nat) (t tx ty e : TypeId) (k : IntKind) (i : TypeInfo) (z : Value) (size bytes : Nat) (ht : P.underlying t = some (.slice e)) (hx : P.underlying tx = some (.int k)) (hi : P.info? e = some i) (hz : i.zero = some z)
  (hsize : i.size = size) (hby : i.bytes = bytes) (hzs : z.cells.size = size) (hsz : 0 < size)
  (v : Value) (n : Nat) (xs : List Value) (hown : w.ownsRow base e size v n xs)
  (k' : IntKind) (m : Nat) (news : List Value) (hnews : news = (Builtin.zeroCells z.cells m).toList) (h1 : ∀ u ∈ news, u.oneCell' = true)
  (h63 : n + m ≤ maxLen) (hbytes : (n + m) * bytes ≤ 140737488355328) (hbase : base ≤ w.heap.size) :
  ∃ v' w', (Builtin.append_ #[t, tx] ty #[v, .int k' (m : Int)]).run P w = .ok v' w' ∧ w'.ownsRow base e size v' (n + m) (xs ++ news) ∧ w.grownBy w' v.ownBlock ∧
   (v'.ownBlock = v.ownBlock ∨ v'.ownBlock = some w.heap.size) := by
 subst hsize
 subst hby
 have hl : news.length = m * i.size := by
  rw [hnews, Array.length_toList, size_zeroCells, hzs]
 have hna : (Builtin.zeroCells z.cells m) = news.toArray := by rw [hnews]
 have hsmall : n + m ≤ 9223372036854775807 := by simp only [maxLen] at h63; omega
 have hwrap : IntKind.i64.wrap (m : Int) = m := by
  simp only [IntKind.wrap, IntKind.signed, IntKind.bits]; simp; omega
 have hneg : ¬ ((m : Int) < 0) := by omega
 have hmb : m * i.bytes ≤ (n + m) * i.bytes := Nat.mul_le_mul_right _ (by omega)
 have hfit48 : ¬ (281474976710656 < (m : Int) * (i.bytes : Int)) := by
  have : ((m * i.bytes : Nat) : Int) = (m : Int) * (i.bytes : Int) := Int.natCast_mul _ _
  omega
 have hlen : (xs ++ news).length = (n + m) * i.size := by rw [List.length_append, hown.1, hl, Nat.add_mul]
 have grown : ∀ (old : Nat), old < n + m → ∀ (row : Option Nat),
   (w.drew.alloc (.cells (xs.toArray ++ news.toArray ++ Builtin.zeroCells z.cells (grownCap w (n + m) old e - (n + m))) e)).ownsRow base e i.size
    (.slice (some ⟨w.heap.size, 0, none⟩) (n + m) (grownCap w (n + m) old e)) (n + m) (xs ++ news) ∧
   w.grownBy (w.drew.alloc (.cells (xs.toArray ++ news.toArray ++ Builtin.zeroCells z.cells (grownCap w (n + m) old e - (n + m))) e)) row := by
  intro old ho row
  have hge := grownCap_ge w (n + m) old e
  have hcm : grownCap w (n + m) old e ≤ maxLen := grownCap_le_maxLen w (n + m) old e h63
  refine ⟨⟨hlen, .inr ⟨w.heap.size, _, _, rfl, hbase, heap_alloc_new w.drew _, hge, hcm, ?_, ?_⟩⟩, ⟨rfl, rfl, rfl, by simp, fun k hk _ => Go.heap_alloc_old w.drew _ hk⟩⟩
  ·simp only [Array.size_append, List.size_toArray, size_zeroCells, hzs, hown.1, hl, ← Nat.add_mul]
   congr 1
   omega
  ·simp only [Array.toList_append, List.append_assoc]
   rw [← List.append_assoc, ← hlen]
   exact List.take_left
 rcases hown.2 with ⟨rfl, rfl⟩ | ⟨g, cap, cur, rfl, hbg, hg, hnc, hcm, hcs, htake⟩
 ·have hx0 : xs = [] := List.eq_nil_of_length_eq_zero (by simpa using hown.1)
  subst hx0
  by_cases hm : m = 0
  ·subst hm
   have hn : news = [] := List.eq_nil_of_length_eq_zero (by simpa using hl)
   subst hn
   refine ⟨.slice none 0 0, w, ?_, World.ownsRow_nil w base e i.size, ⟨rfl, rfl, rfl, Nat.le_refl _, fun _ _ _ => rfl⟩, Or.inl rfl⟩
   have hw0 : IntKind.i64.wrap 0 = 0 := by decide
   simp [Builtin.append_, run_underlying ht, run_underlying hx, sizeOf, typeInfo, hi, asInt, asIntOf, hw0]
  ·have h48' : ¬ (281474976710656 < Builtin.nextslicecap m 0 * i.bytes) := by rw [nextslicecap_zero (by omega)]; simp only [Nat.zero_add] at hbytes; omega
   have hms : ¬ (m * i.size = 0) := by
    intro h
    rcases Nat.mul_eq_zero.1 h with h | h <;> omega
   have h63' : ¬ (9223372036854775807 < (m : Int)) := by omega
   have hgr := grown 0 (by omega) (Value.ownBlock (.slice none 0 0))
   simp only [Nat.zero_add, List.nil_append, Array.empty_append] at hgr ⊢
   refine ⟨_, _, ?_, hgr.1, hgr.2, Or.inr rfl⟩
   have hsz0 : i.size ≠ 0 := by omega
   simp [Builtin.append_, run_underlying ht, run_underlying hx, sizeOf, typeInfo, zeroValue, hi, hz, asInt, asIntOf, hwrap, hneg, hfit48, hm, h63', h48', hsz0, hms, Question.forced, run_firstCells_none, newRow, grownCap, hna]
 ·by_cases hroom : n + m ≤ cap
  ·have hfit : n * i.size + news.length ≤ cur.size := by rw [hl, hcs, ← Nat.add_mul]; exact Nat.mul_le_mul_right _ hroom
   have hst := run_storeCells_at P g (n * i.size) e news 0 cur w hg (by simpa using hfit) h1
   simp only [Nat.add_zero] at hst
   refine ⟨.slice (some ⟨g, 0, none⟩) (n + m) cap, w.setRow g (cur.toList.take (n * i.size) ++ news ++ cur.toList.drop (n * i.size + news.length)).toArray, ?_, ⟨hlen, .inr ⟨g, cap, _, rfl, hbg, setRow_heap w g cur _ e _ hg, hroom, hcm, ?_, ?_⟩⟩, ⟨rfl, rfl, rfl, by simp, fun k _ hk => setRow_other w g k _ (fun e => hk (by simp [Value.ownBlock, e]))⟩, Or.inl rfl⟩
   ·by_cases hm : m * i.size = 0
    ·have hn : news = [] := List.eq_nil_of_length_eq_zero (by rw [hl]; exact hm)
     subst hn
     simp [Builtin.append_, run_underlying ht, run_underlying hx, sizeOf, typeInfo, zeroValue, hi, hz, asInt, asIntOf, hwrap, hneg, hfit48, hroom, hm, Addr.add_lit] at hst ⊢
     simp [hst]
    ·have hm' : ¬ (m = 0 ∨ i.size = 0) := fun h => hm (Nat.mul_eq_zero.2 h)
     simp [Builtin.append_, run_underlying ht, run_underlying hx, sizeOf, typeInfo, zeroValue, hi, hz, asInt, asIntOf, hwrap, hneg, hfit48, hroom, hm, hm', Addr.add_lit, hna, hst]
   ·simp only [List.size_toArray, List.length_append, List.length_take, List.length_drop, Array.length_toList]
    omega
   ·rw [htake, ← hlen]
    exact List.take_left
  ·have holds : ∀ j u, xs[j]? = some u → w.cell? ((⟨g, 0, none⟩ : Addr).add j) = some u := hown.cells (g := g) rfl
   have hfo := run_firstCells_some (P := P) w.drew i.size n ⟨g, 0, none⟩ n cap xs hown.1 (by simpa using holds)
   have hm : ¬ (m * i.size = 0) := by
    intro h
    rcases Nat.mul_eq_zero.1 h with h | h <;> omega
   have hm' : ¬ (m = 0 ∨ i.size = 0) := fun h => hm (Nat.mul_eq_zero.2 h)
   have h63' : ¬ (9223372036854775807 < ((n : Int) + (m : Int))) := by omega
   have hgs := growslice_fits (old := cap) (by omega : cap < n + m) hbytes
   have h48' : ¬ (281474976710656 < Builtin.nextslicecap (n + m) cap * i.bytes) := by omega
   have hgr := grown cap (by omega) (Value.ownBlock (.slice (some ⟨g, 0, none⟩) n cap))
   refine ⟨_, _, ?_, hgr.1, hgr.2, Or.inr rfl⟩
   simp [Builtin.append_, run_underlying ht, run_underlying hx, sizeOf, typeInfo, zeroValue, hi, hz, asInt, asIntOf, hwrap, hneg, hfit48, hroom, hm, hm', h63', h48', Question.forced, hfo, newRow, grownCap, hna]
   congr 2
   apply Array.ext'
   simp [List.append_assoc]
theorem aV9 {t : TypeId} {k : IntKind} (hTy : yS P E.T t (.i k)) : P.underlying t = some (.int k) := by
 obtain ⟨d, hd, hb⟩ := hTy.desc
 cases d <;> simp [fN] at hb
 obtain ⟨rfl, _⟩ := hb
 exact hd
def aDC (E : Env) (h : List Obj) (t : TypeId) (s x : AV) : Prop × AV × List Obj :=
 match E.T t with
 | some (.sl ct) => match xS x with
  | some n => match s with
   | .nilS => (0 ≤ n ∧ bound ct n.toNat ∧ ct.okB = true, .own h.length, h ++ [.row (E.el t) ct (List.replicate n.toNat ct.zero)])
   | .own i => match h[i]? with
    | some (.row e c' xs) => match aDU c' ct xs with
     | some xs => (e = E.el t ∧ 0 ≤ n ∧ bound ct (xs.length + n.toNat) ∧ ct.okB = true, .own h.length, h.set i .dead ++ [.row (E.el t) ct (xs ++ List.replicate n.toNat ct.zero)])
     | none => (False, .junk, h)
    | _ => (False, .junk, h)
   | _ => (False, .junk, h)
  | none => (False, .junk, h)
 | _ => (False, .junk, h)
theorem aG3 (hE : gA P E) {t tx ty : TypeId} {ct : Ty} (ht : E.T t = some (.sl ct)) {k : IntKind} (htx : P.underlying tx = some (.int k)) (hok : ct.okB = true) {sv : Value} {xs : List ct.den}
  (hrow : tJ c w (E.el t) ct xs sv) {k' : IntKind} {m : Nat}
  (hb : bound ct (xs.length + m)) (hSb : ∀ b, c.S b → b < w.heap.size ∧ aQ sv ≠ some b) :
  ∃ v' w', (Builtin.append_ #[t, tx] ty #[sv, .int k' (m : Int)]).run P w = .ok v' w' ∧ w.grownBy w' (aQ sv) ∧ tJ c w' (E.el t) ct (xs ++ List.replicate m ct.zero) v' ∧ (∀ b, aQ v' = some b → aQ sv = some b ∨ (w.heap.size ≤ b ∧ b < w'.heap.size)) ∧ ∃ a n m, v' = .slice a n m := by
 have hd := hE.el t ct ht
 obtain ⟨e', hd', hTe', hpos⟩ := gG (hE.T _ _ ht)
 have : e' = E.el t := by rw [hd] at hd'; cases hd'; rfl
 subst this
 have hTe := hE.T _ _ hTe'
 obtain ⟨i, hi, hsz, hz, hby⟩ := hTe.info
 obtain ⟨vals, hown, hrep⟩ := hrow
 rw [← hsz] at hown
 have hzl := nT hok
 have hnews : (List.replicate m (dJ ct)).flatten = (Builtin.zeroCells (nD ct).cells m).toList := by
  rw [yZ hok]; exact (aJm _ _ (by omega)).symm
 have hnr : aS w c.S (.arr m ct) (List.replicate m ct.zero) (List.replicate m (dJ ct)).flatten := gM w c.S (.arr m ct) hok
 have hone : ∀ u ∈ (List.replicate m (dJ ct)).flatten, u.oneCell' = true := fun u hu => by
  have := aS.one _ _ _ hnr u hu
  cases u <;> first | rfl | exact this.elim
 obtain ⟨v', w', hrun, hown', hgr, hat⟩ := aHQ (P := P) w 0 t tx ty (E.el t) k i (nD ct) ct.cells i.bytes hd htx hi (hz hok) hsz rfl (by rw [yZ hok]; simp [hzl]) hpos sv xs.length vals (by rw [← hsz]; exact hown)
  k' m _ hnews hone hb.1 (Nat.le_trans (Nat.mul_le_mul_left _ hby) hb.2) (Nat.zero_le _)
 have hsl := iY hown
 have hsl' := iY hown'
 rw [← sS hsl] at hgr hat
 rw [← sS hsl'] at hat
 have hsame : wJ c.S w w' := fun b hb => hgr.block b (hSb b hb).1 (fun e => (hSb b hb).2 e.symm)
 refine ⟨v', w', hrun, hgr, ?_, fun b hb => ?_, hsl'⟩
 ·have hnr' : aS w c.S (.arr (List.replicate m ct.zero).length ct) (List.replicate m ct.zero) (List.replicate m (dJ ct)).flatten := by
   rw [List.length_replicate]; exact hnr
  have := aEt hrep hnr'
  exact ⟨vals ++ _, by simpa using hown', aS.keep (fun _ h => h) hsame _ _ _ (by simpa using this)⟩
 ·rcases hat with hat | hat
  ·left; rw [← hat]; exact hb
  ·right
   rw [hat] at hb
   cases hb
   refine ⟨Nat.le_refl _, ?_⟩
   rcases hown'.2 with ⟨rfl, _⟩ | ⟨g, cp, cur, rfl, _, hheap, _⟩
   ·cases hat
   ·simp [aQ] at hat
    subst hat
    exact (Array.getElem?_eq_some_iff.1 hheap).1
theorem aP0 (hE : gA P E) (hg : Good M w0 c h w) {t tx ty : TypeId} {k : IntKind} (htx : P.underlying tx = some (.int k)) {s x : AV} {sv xv : Value} (hs : aP c w s sv) (hx : aP c w x xv) (hc : (aDC E h t s x).1) :
  ∃ v' w' c', (Builtin.append_ #[t, tx] ty #[sv, xv]).run P w = .ok v' w' ∧ dN c w c' w' ∧ Good M w0 c' (aDC E h t s x).2.2 w' ∧ aP c' w' (aDC E h t s x).2.1 v' := by
 unfold aDC at hc ⊢
 split at hc
 ·rename_i ct ht
  split at hc
  ·rename_i n hn
   obtain ⟨k', rfl⟩ := xF hx hn
   split at hc
   ·
    obtain ⟨h0, hb, hok⟩ := hc
    obtain ⟨m, rfl⟩ := Int.eq_ofNat_of_zero_le h0
    have hsv : sv = .slice none 0 0 := by
     obtain ⟨h1, _, h3⟩ := hs
     have h3 := h3 rfl
     simp only [aI] at h1
     cases sv <;> simp [Value.cells] at h1 h3 <;> simp [h1]
    subst hsv
    simp only [Int.toNat_natCast] at hb ⊢
    obtain ⟨v', w', hrun, hgr, hrow, hbl, hsl⟩ := aG3 (c := c) (w := w) (P := P) (ty := ty) (xs := []) (k' := k') (m := m) hE ht htx hok (sv := .slice none 0 0) ⟨[], ⟨by simp, .inl ⟨rfl, rfl⟩⟩, ⟨rfl, [], rfl, rfl, fun i h => by simp at h⟩⟩ (by simpa using hb) (fun b hb => ⟨hg.sfin b hb, by simp [aQ]⟩)
    rw [List.nil_append] at hrow
    have hk : fM nothing w w' := ⟨hgr.os, hgr.tape, hgr.output, hgr.size, fun b hb _ => hgr.block b hb (by simp [aQ])⟩
    have := hg.push hk (o := .row (E.el t) ct (List.replicate m ct.zero)) (hv := v') (by
     show tJ _ _ _ _ _ _
     have e : (c.push v').hd c.n = v' := by simp [Ctx.push]
     rw [e]
     exact hrow) (fun b hb => by
     have e : (c.push v').hd c.n = v' := by simp [Ctx.push]
     simp only [ownBlock, e] at hb
     rcases hbl b hb with h1 | h1
     ·simp [aQ] at h1
     ·exact h1)
    refine ⟨v', w', _, hrun, this.2, this.1, ?_⟩
    have := aAD (c := c) hsl (w' := w') (S' := c.S)
    rw [← hg.n]
    exact this
   ·rename_i i
    split at hc
    ·rename_i e c' xs ho
     split at hc
     ·rename_i xs' hcast
      obtain ⟨rfl, rfl⟩ := aEs hcast
      obtain ⟨rfl, h0, hb, hok⟩ := hc
      obtain ⟨m, rfl⟩ := Int.eq_ofNat_of_zero_le h0
      simp only [Int.toNat_natCast] at hb ⊢
      have hsv := (aAe hs).2
      have hrow0 : tJ c w (E.el t) _ _ (c.hd i) := hg.objs i _ ho
      subst hsv
      obtain ⟨v', w', hrun, hgr, hrow, hbl, hsl⟩ := aG3 (c := c) (w := w) (P := P) (ty := ty) (k' := k') (m := m) hE ht htx hok hrow0 hb (fun b hb => ⟨hg.sfin b hb, fun e => (hg.own i _ b ho e).2.2 hb⟩)
      have := hg.regrow ho hgr hrow hbl
      refine ⟨v', w', _, hrun, this.2, this.1, ?_⟩
      have := aAD (c := c) hsl (w' := w') (S' := c.S)
      rw [← hg.n]
      exact this
     ·exact hc.elim
    ·exact hc.elim
   ·exact hc.elim
  ·exact hc.elim
 ·exact hc.elim
end
end Go.Vc
namespace Go.Vc
open Go.RowKit
section
variable {P : Program} {E : Env} {T : Tab} {M : Perm} {w0 : World} {c : Ctx} {h : List Obj} {w : World}
theorem aFa (w : World) (t u ty e : TypeId) (i : TypeInfo) (ht : P.underlying t = some (.slice e)) (hu : P.underlying u = some .string) (hi : P.info? e = some i) (hz : i.zero = some (.int .u8 0))
  (hsize : i.size = 1) (hby : i.bytes = 1) (v : Value) (n : Nat) (xs : List Value) (hown : w.ownsRow 0 e 1 v n xs) (s : ByteArray)
  (h63 : n + s.size ≤ maxLen) (hbytes : n + s.size ≤ 140737488355328) :
  ∃ v' w', (Builtin.append_ #[t, u] ty #[v, .string s]).run P w = .ok v' w' ∧ w'.ownsRow 0 e 1 v' (n + s.size) (xs ++ Lib.strCells s) ∧ w.grownBy w' v.ownBlock ∧ (v'.ownBlock = v.ownBlock ∨ v'.ownBlock = some w.heap.size) := by
 obtain ⟨v', w', hr, h2, h3, _⟩ := Lib.run_append_own_string (P := P) w 0 t u ty e i ht hu hi hz hsize hby v n xs hown s h63 hbytes (Nat.zero_le _)
 refine ⟨v', w', hr, h2, h3, ?_⟩
 have hsmall : n + s.size ≤ 9223372036854775807 := by simp only [maxLen] at h63; omega
 have hxl : xs.length = n := by simpa using hown.1
 rcases hown.2 with ⟨rfl, rfl⟩ | ⟨g, cap, cur, rfl, hbg, hg, hnc, hcm, hcs, htake⟩
 ·by_cases hm : s.size = 0
  ·have hf := Lib.run_firstCells_string (P := P) w 1 s
   rw [hm] at hf
   simp [Builtin.append_, run_underlying ht, run_underlying hu, sizeOf, typeInfo, hi, hsize, Builtin.lenOf, hm, hf] at hr
   rw [← hr.1]; exact .inl rfl
  ·have hr2 := run_append_nil_string (P := P) w t u ty e i (.int .u8 0) ht hu hi hz s (by omega) (by omega) (by rw [hby]; omega)
   rw [hr] at hr2
   injection hr2 with q1 q2
   rw [q1]; exact .inr rfl
 ·by_cases hroom : n + s.size ≤ cap
  ·have hcs' : cur.size = cap := by simpa using hcs
   have hr2 := Lib.run_append_room_string (P := P) w t u ty e i ht hu hi hsize g n cap cur hg s hroom (by omega)
   rw [hr] at hr2
   injection hr2 with q1 q2
   rw [q1]; exact .inl rfl
  ·have holds : ∀ j u, xs[j]? = some u → w.cell? ((⟨g, 0, none⟩ : Addr).add j) = some u := hown.cells (g := g) rfl
   have hr2 := Lib.run_append_grow_string (P := P) w t u ty e i (.int .u8 0) ht hu hi hz ⟨g, 0, none⟩ n cap xs (by rw [hsize]; simpa using hxl) holds s (by omega) (by omega) (by rw [hby]; exact growslice_fits (by omega) (by omega))
   rw [hr] at hr2
   injection hr2 with q1 q2
   rw [q1]; exact .inr rfl
def isStr : Option Ty → Bool
 | some .str => true
 | _ => false
def aDD (E : Env) (h : List Obj) (t : TypeId) (s x : AV) : Prop × AV × List Obj :=
 match E.T t with
 | some (.sl (.u .u8)) => match x with
  | .val .str b => match s with
   | .nilS => (bound (.u .u8) b.length, .own h.length, h ++ [.row (E.el t) (.u .u8) b])
   | .own i => match h[i]? with
    | some (.row e c' xs) => match aDU c' (.u .u8) xs with
     | some xs => (e = E.el t ∧ bound (.u .u8) (xs.length + b.length), .own h.length, h.set i .dead ++ [.row (E.el t) (.u .u8) (xs ++ b)])
     | none => (False, .junk, h)
    | _ => (False, .junk, h)
   | _ => (False, .junk, h)
  | _ => (False, .junk, h)
 | _ => (False, .junk, h)
theorem aM6 {S : Nat → Prop} (s : ByteArray) : aS w S (.arr (bE s).length (.u .u8)) (bE s) (Lib.strCells s) := by
 refine ⟨rfl, (bE s).map (fun (x : Nat) => [Value.int .u8 (x : Int)]), ?_, by simp, fun i h1 h2 => ?_⟩
 ·have key : ∀ l : List UInt8, (l.map fun b => Value.int .u8 (b.toNat : Int)) = ((l.map (·.toNat)).map (fun (x : Nat) => [Value.int .u8 (x : Int)])).flatten := by
   intro l
   induction l with
   | nil => rfl
   | cons a r ih => simp [ih]
  exact key s.data.toList
 ·simp only [List.getElem_map]
  refine ⟨rfl, rfl, ?_⟩
  have : (bE s)[i] = (s.data.toList[i]'(by simpa [bE] using h1)).toNat := by simp [bE]
  rw [this]
  generalize (s.data.toList[i]'(by simpa [bE] using h1)) = q
  have := q.toNat_lt
  simp only [IntKind.max, IntKind.signed, IntKind.bits]
  simp
  omega
theorem aG4 (hE : gA P E) {t tx ty : TypeId} (ht : E.T t = some (.sl (.u .u8))) (htx : P.underlying tx = some .string) {sv : Value} {xs : List Nat}
  (hrow : tJ c w (E.el t) (.u .u8) xs sv) {s : ByteArray} (hb : bound (.u .u8) (xs.length + (bE s).length)) (hSb : ∀ b, c.S b → b < w.heap.size ∧ aQ sv ≠ some b) :
  ∃ v' w', (Builtin.append_ #[t, tx] ty #[sv, .string s]).run P w = .ok v' w' ∧ w.grownBy w' (aQ sv) ∧ tJ c w' (E.el t) (.u .u8) (xs ++ bE s) v' ∧ (∀ b, aQ v' = some b → aQ sv = some b ∨ (w.heap.size ≤ b ∧ b < w'.heap.size)) ∧ ∃ a n m, v' = .slice a n m := by
 have hd := hE.el t _ ht
 obtain ⟨e', hd', hTe', hpos⟩ := gG (hE.T _ _ ht)
 have : e' = E.el t := by rw [hd] at hd'; cases hd'; rfl
 subst this
 have hTe := hE.T _ _ hTe'
 obtain ⟨i, hi, hsz, hz, hby⟩ := hTe.info
 obtain ⟨vals, hown, hrep⟩ := hrow
 have hsl0 : (bE s).length = s.size := nF s
 rw [hsl0] at hb
 have hb1 : i.bytes = 1 := hTe.byte rfl i hi
 obtain ⟨v', w', hrun, hown', hgr, hat⟩ := aFa (P := P) w t tx ty (E.el t) i hd htx hi (hz rfl) hsz hb1 sv xs.length vals hown s hb.1 (by have := hb.2; simpa [Ty.byt, IntKind.bits] using this)
 have hsl := iY hown
 have hsl' := iY hown'
 rw [← sS hsl] at hgr hat
 rw [← sS hsl'] at hat
 have hsame : wJ c.S w w' := fun b hb => hgr.block b (hSb b hb).1 (fun e => (hSb b hb).2 e.symm)
 refine ⟨v', w', hrun, hgr, ?_, fun b hb => ?_, hsl'⟩
 ·have := aEt (t := .u .u8) hrep (aM6 (w := w) (S := c.S) s)
  exact ⟨vals ++ _, by simpa [hsl0, Ty.cells] using hown', aS.keep (fun _ h => h) hsame _ _ _ (by simpa using this)⟩
 ·rcases hat with hat | hat
  ·left; rw [← hat]; exact hb
  ·right
   rw [hat] at hb
   cases hb
   refine ⟨Nat.le_refl _, ?_⟩
   rcases hown'.2 with ⟨rfl, _⟩ | ⟨g, cp, cur, rfl, _, hheap, _⟩
   ·cases hat
   ·simp [aQ] at hat
    subst hat
    exact (Array.getElem?_eq_some_iff.1 hheap).1
theorem aP1 (hE : gA P E) (hg : Good M w0 c h w) {t tx ty : TypeId} (htx : P.underlying tx = some .string) {s x : AV} {sv xv : Value} (hs : aP c w s sv) (hx : aP c w x xv) (hc : (aDD E h t s x).1) :
  ∃ v' w' c', (Builtin.append_ #[t, tx] ty #[sv, xv]).run P w = .ok v' w' ∧ dN c w c' w' ∧ Good M w0 c' (aDD E h t s x).2.2 w' ∧ aP c' w' (aDD E h t s x).2.1 v' := by
 unfold aDD at hc ⊢
 split at hc
 ·rename_i ht
  split at hc
  ·rename_i b
   obtain ⟨st, rfl, rfl, hm⟩ := aGU hx
   split at hc
   ·
    have hsv : sv = .slice none 0 0 := by
     obtain ⟨h1, _, h3⟩ := hs
     have h3 := h3 rfl
     simp only [aI] at h1
     cases sv <;> simp [Value.cells] at h1 h3 <;> simp [h1]
    subst hsv
    obtain ⟨v', w', hrun, hgr, hrow, hbl, hsl⟩ := aG4 (c := c) (w := w) (P := P) (ty := ty) (xs := []) (s := st) hE ht htx (sv := .slice none 0 0) ⟨[], ⟨by simp, .inl ⟨rfl, rfl⟩⟩, ⟨rfl, [], rfl, rfl, fun i h => by simp at h⟩⟩ (by simpa using hc) (fun b hb => ⟨hg.sfin b hb, by simp [aQ]⟩)
    rw [List.nil_append] at hrow
    have hk : fM nothing w w' := ⟨hgr.os, hgr.tape, hgr.output, hgr.size, fun b hb _ => hgr.block b hb (by simp [aQ])⟩
    have := hg.push hk (o := .row (E.el t) (.u .u8) (bE st)) (hv := v') (by
     show tJ _ _ _ _ _ _
     have e : (c.push v').hd c.n = v' := by simp [Ctx.push]
     rw [e]
     exact hrow) (fun b hb => by
     have e : (c.push v').hd c.n = v' := by simp [Ctx.push]
     simp only [ownBlock, e] at hb
     rcases hbl b hb with h1 | h1
     ·simp [aQ] at h1
     ·exact h1)
    refine ⟨v', w', _, hrun, this.2, this.1, ?_⟩
    have := aAD (c := c) hsl (w' := w') (S' := c.S)
    rw [← hg.n]
    exact this
   ·rename_i i
    split at hc
    ·rename_i e c' xs ho
     split at hc
     ·rename_i xs' hcast
      obtain ⟨rfl, rfl⟩ := aEs hcast
      obtain ⟨rfl, hb⟩ := hc
      have hsv := (aAe hs).2
      have hrow0 : tJ c w (E.el t) _ _ (c.hd i) := hg.objs i _ ho
      subst hsv
      obtain ⟨v', w', hrun, hgr, hrow, hbl, hsl⟩ := aG4 (c := c) (w := w) (P := P) (ty := ty) (s := st) hE ht htx hrow0 hb (fun b hb => ⟨hg.sfin b hb, fun e => (hg.own i _ b ho e).2.2 hb⟩)
      have := hg.regrow ho hgr hrow hbl
      refine ⟨v', w', _, hrun, this.2, this.1, ?_⟩
      have := aAD (c := c) hsl (w' := w') (S' := c.S)
      rw [← hg.n]
      exact this
     ·exact hc.elim
    ·exact hc.elim
   ·exact hc.elim
  ·exact hc.elim
 ·exact hc.elim
end
end Go.Vc
namespace Go.Vc
open Go.RowKit
structure Fr where
 P : Program
 E : Env
 M : Perm
 w0 : World
 nt : Nat
 ds : List Deferred
@[reducible] def fr (P : Program) (E : Env) (S : Nat → Prop) (w0 : World) (nt : Nat) : Fr := ⟨P, E, top S, w0, nt, []⟩
structure iZ (F : Fr) : Prop where
 env : gA F.P F.E
 mix : F.P.follows .mixedOrders = true
def fE (nt : Nat) : Code → Bool
 | .region _ ops draw => ops.toList.all (eM nt) && aAg ops.toList && (!draw || aJj ops.toList)
 | .seq a b => fE nt a && fE nt b
 | .cond c a b => jQ c && fE nt a && fE nt b
 | .block _ a => fE nt a
 | .loop a => fE nt a
 | .scope a => fE nt a
 | .rangeFunc _ _ _ _ => false
 | _ => true
abbrev St := List (Nat × AV)
def At (F : Fr) (K : Act → World → Prop) (env : St) (h : List Obj) : Prop := ∀ c a w, Sim F.E F.M F.w0 F.nt F.ds c env h a w → K a w
def Tri (F : Fr) (c : Code) (Q : Exit → Act → World → Prop) (env : St) (h : List Obj) : Prop := fE F.nt c = true → At F (c.wp F.P Q) env h
section
variable {F : Fr} {Q : Exit → Act → World → Prop} {env : St} {h : List Obj}
theorem bR (hq : At F (Q .normal) env h) : Tri F .skip Q env h := fun _ c a w hs => wp_skip (hq c a w hs)
theorem aSv {l : Nat} (hq : At F (Q .normal) env h) : Tri F (.label l) Q env h := fun _ c a w hs => wp_label (hq c a w hs)
theorem kN {id : Nat} (hq : At F (Q (.exit id)) env h) : Tri F (.exit id) Q env h := fun _ c a w hs => wp_exit (hq c a w hs)
theorem dD (hq : At F (Q .ret) env h) : Tri F .ret Q env h := fun _ c a w hs => wp_ret (hq c a w hs)
def Next (F : Fr) (y : Code) (Q : Exit → Act → World → Prop) (a : Act) (w : World) : Prop := fE F.nt y = true → y.wp F.P Q a w
theorem aC {x y : Code} (hx : Tri F x (Exit.then (Next F y Q) Q) env h) : Tri F (.seq x y) Q env h := fun hok c a w hs => by
 simp only [fE, Bool.and_eq_true] at hok
 refine wp_seq (wp_mono (hx hok.1 c a w hs) fun e a' w' hq => ?_)
 cases e <;> first | exact hq | exact hq hok.2
theorem aD {y : Code} (hy : Tri F y Q env h) : At F (Exit.then (Next F y Q) Q .normal) env h := fun c a w hs hok => hy hok c a w hs
theorem bB {K : Act → World → Prop} (hk : At F K env h) : At F (Exit.then K Q .normal) env h := hk
theorem bS {K : Act → World → Prop} {id : Nat} (hq : At F (Q (.exit id)) env h) : At F (Exit.then K Q (.exit id)) env h := hq
theorem bW {K : Act → World → Prop} (hq : At F (Q .ret) env h) : At F (Exit.then K Q .ret) env h := hq
theorem eB {id : Nat} (hq : At F (Q .normal) env h) : At F (Exit.inBlock id Q .normal) env h := hq
theorem eO {id : Nat} (hq : At F (Q .ret) env h) : At F (Exit.inBlock id Q .ret) env h := hq
theorem dA {id : Nat} (hq : At F (Q .normal) env h) : At F (Exit.inBlock id Q (.exit id)) env h := fun c a w hs => by
 simp only [Exit.inBlock, if_true]; exact hq c a w hs
theorem jJ {id id' : Nat} (hne : id' ≠ id) (hq : At F (Q (.exit id')) env h) : At F (Exit.inBlock id Q (.exit id')) env h := fun c a w hs => by
 simp only [Exit.inBlock, hne, if_false]; exact hq c a w hs
theorem dO {id : Nat} {x : Code} (hx : Tri F x (Exit.inBlock id Q) env h) : Tri F (.block id x) Q env h := fun hok c a w hs =>
 wp_block (hx (by simpa [fE] using hok) c a w hs)
theorem bG {x y : Code} {o : Operand} {b : Bool} (hb : evA F.E.G env o = .val .bool b) (ht : b = true → Tri F x Q env h) (hf : b = false → Tri F y Q env h) : Tri F (.cond o x y) Q env h := fun hok c a w hs => by
 simp only [fE, Bool.and_eq_true] at hok
 have hv := yU (a := a) hs.env hs.glob hok.1.1
 rw [hb] at hv
 have hv := aAY hv
 exact wp_cond_split hv (fun e => ht e hok.1.2 c a w hs) (fun e => hf e hok.2 c a w hs)
def aXI (v : AV) : Option Ent → AV
 | none => v
 | some ⟨_, _, [], av⟩ => av
 | some _ => .junk
theorem aOo (acc : List Ent) (env : St) (t : Nat) : look (kW acc env) t = aXI (look env t) (xM acc t) := by
 rw [aCK]
 cases xM acc t with
 | none => rfl
 | some e => obtain ⟨i, d, gp, av⟩ := e; cases gp <;> rfl
def aHR (keep : List Nat) (acc : List Ent) (env : St) : St := keep.map fun t => (t, aXI (look env t) (xM acc t))
theorem aSw {c : Ctx} {w : World} {a : Act} (he : aCl c w env a.tmps) (keep : List Nat) : aCl c w (keep.map fun t => (t, look env t)) a.tmps := fun t => by
 have : look (keep.map fun t => (t, look env t)) t = look env t ∨ look (keep.map fun t => (t, look env t)) t = .junk := by
  induction keep with
  | nil => right; rfl
  | cons k r ih =>
   simp only [List.map_cons, look]
   by_cases e : k = t
   ·rw [if_pos e, e]; exact .inl rfl
   ·rw [if_neg e]; exact ih
 rcases this with e | e
 ·rw [e]; exact he t
 ·rw [e]; trivial
theorem Sim.keep {E : Env} {M : Perm} {w0 : World} {nt : Nat} {ds : List Deferred} {c : Ctx} {a : Act} {w : World} (hs : Sim E M w0 nt ds c env h a w) (keep : List Nat) : Sim E M w0 nt ds c (keep.map fun t => (t, look env t)) h a w :=
 ⟨hs.good, hs.glob, aSw hs.env keep, hs.size, hs.defers⟩
theorem aE (hF : iZ F) {id : Nat} {ops : Array Oper} {draw : Bool} (keep : List Nat) (hv : vcA F.E h env ops.toList 0 [] (fun acc => At F (Q .normal) (aHR keep acc env) h)) : Tri F (.region id ops draw) Q env h := fun hok c a w hs => by
 simp only [fE, Bool.and_eq_true, Bool.or_eq_true, Bool.not_eq_true'] at hok
 obtain ⟨⟨h1, h2⟩, h3⟩ := hok
 have hfin : ∀ acc c' a' w', At F (Q .normal) (aHR keep acc env) h → dN c w c' w' → c'.n = c.n → Sim F.E F.M F.w0 F.nt F.ds c' (kW acc env) h a' w' → Q .normal a' w' := fun acc c' a' w' hk _ _ hs' => by
  have := hs'.keep keep
  refine hk c' a' w' ?_
  have e : aHR keep acc env = keep.map fun t => (t, look (kW acc env) t) := by
   simp only [aHR, aOo]
  rw [e]; exact this
 cases draw with
 | false => exact aOl (ops := ops.toList) hF.env (List.all_eq_true.1 h1) h2 hs hv hfin
 | true => exact aE8 (ops := ops.toList) hF.env hF.mix (List.all_eq_true.1 h1) h2 (h3.resolve_left (by simp)) hs hv hfin
theorem aRk {K : Act → World → Prop} (keep : List Nat) (hk : At F K (keep.map fun t => (t, look env t)) h) : At F K env h := fun c a w hs => hk c a w (hs.keep keep)
theorem aOp {x : Code} {D : Type} (I : D → Prop) (μ : D → Nat) (envI : D → St) (hI : D → List Obj) (h0 : At F (fun a w => ∃ d c, I d ∧ Sim F.E F.M F.w0 F.nt F.ds c (envI d) (hI d) a w) env h)
  (round : ∀ d, I d → Tri F x (Exit.then (fun a' w' => ∃ d' c', (I d' ∧ μ d' < μ d) ∧ Sim F.E F.M F.w0 F.nt F.ds c' (envI d') (hI d') a' w') Q) (envI d) (hI d)) : Tri F (.loop x) Q env h := fun hok c a w hs => by
 classical
 have hok : fE F.nt x = true := by simpa [fE] using hok
 let good : Act → World → Nat → Prop := fun a w n => ∃ d c, I d ∧ Sim F.E F.M F.w0 F.nt F.ds c (envI d) (hI d) a w ∧ μ d = n
 have hleast : ∀ a w, (∃ d c, I d ∧ Sim F.E F.M F.w0 F.nt F.ds c (envI d) (hI d) a w) → ∃ n, good a w n ∧ ∀ m, good a w m → n ≤ m := fun a w ⟨d, c, hi, hs⟩ => by
  have hex : ∃ n, good a w n := ⟨μ d, d, c, hi, hs, rfl⟩
  obtain ⟨n, hn⟩ := hex
  induction n using Nat.strongRecOn with
  | _ n ih =>
   by_cases hh : ∃ m, m < n ∧ good a w m
   ·obtain ⟨m, hm, hg⟩ := hh; exact ih m hm hg
   ·exact ⟨n, hn, fun m hm => Nat.le_of_not_lt fun hlt => hh ⟨m, hlt, hm⟩⟩
 let ms : Act → World → Nat := fun a w => if hx : ∃ d c, I d ∧ Sim F.E F.M F.w0 F.nt F.ds c (envI d) (hI d) a w then Classical.choose (hleast a w hx) else 0
 have hms : ∀ a w (hx : ∃ d c, I d ∧ Sim F.E F.M F.w0 F.nt F.ds c (envI d) (hI d) a w), good a w (ms a w) ∧ ∀ m, good a w m → ms a w ≤ m := fun a w hx => by
  simp only [ms, dif_pos hx]; exact Classical.choose_spec (hleast a w hx)
 refine wp_loop (fun a w => ∃ d c, I d ∧ Sim F.E F.M F.w0 F.nt F.ds c (envI d) (hI d) a w) ms (h0 c a w hs) fun a w hx => ?_
 obtain ⟨⟨d, c, hi, hs, hμ⟩, hmin⟩ := hms a w hx
 refine wp_mono (round d hi hok c a w hs) fun e a' w' hq => ?_
 cases e with
 | normal =>
  obtain ⟨d', c', ⟨hi', hlt⟩, hs'⟩ := hq
  have hx' : ∃ d c, I d ∧ Sim F.E F.M F.w0 F.nt F.ds c (envI d) (hI d) a' w' := ⟨d', c', hi', hs'⟩
  refine ⟨hx', ?_⟩
  have := (hms a' w' hx').2 (μ d') ⟨d', c', hi', hs', rfl⟩
  omega
 | _ => exact hq
theorem aOq {x y : Code} {D : Type} (J : D → Prop) (envJ : D → St) (hJ : D → List Obj) (hx : Tri F x (Exit.then (fun a' w' => ∃ d' c', J d' ∧ Sim F.E F.M F.w0 F.nt F.ds c' (envJ d') (hJ d') a' w') Q) env h)
  (hy : ∀ d, J d → Tri F y Q (envJ d) (hJ d)) : Tri F (.seq x y) Q env h := fun hok c a w hs => by
 simp only [fE, Bool.and_eq_true] at hok
 refine wp_seq (wp_mono (hx hok.1 c a w hs) fun e a' w' hq => ?_)
 cases e with
 | normal =>
  obtain ⟨d', c', hj, hs'⟩ := hq
  exact hy d' hj hok.2 c' a' w' hs'
 | _ => exact hq
def fL (h : List Obj) (v : AV) : AV → Prop
 | .val t x => AV.as (h.map gX) t v = some x ∨ v = .val t x
 | .junk => True
 | u => v = u
def jA (h : List Obj) (env : St) : St → Prop
 | [] => True
 | (t, u) :: r => fL h (look env t) u ∧ jA h env r
theorem aII {M : Perm} {w0 : World} {c : Ctx} {w : World} (hg : Good M w0 c h w) {v u : AV} {x : Value} (hf : fL h v u) (hv : aP c w v x) : aP c w u x := by
 cases u <;> simp only [fL] at hf
 case val t y =>
  rcases hf with hf | rfl
  ·exact aP.ofV (qY hg hv hf)
  ·exact hv
 case junk => trivial
 all_goals (subst hf; exact hv)
theorem aRl {M : Perm} {w0 : World} {c : Ctx} {w : World} {a : Act} (hg : Good M w0 c h w) (he : aCl c w env a.tmps) : ∀ {env' : St}, jA h env env' → aCl c w env' a.tmps
 | [], _, t => trivial
 | (k, u) :: r, hf, t => by
  simp only [look]
  split
  ·rename_i e; subst e; exact aII hg hf.1 (he k)
  ·exact aRl hg he hf.2 t
theorem aX {D : Type} {J : D → Prop} {envJ : D → St} {hJ : D → List Obj} (d : D) (hj : J d) (hh : h = hJ d) (hf : jA h env (envJ d)) : At F (fun a w => ∃ d' c', J d' ∧ Sim F.E F.M F.w0 F.nt F.ds c' (envJ d') (hJ d') a w) env h := fun c a w hs =>
 ⟨d, c, hj, ⟨by rw [← hh]; exact hs.good, hs.glob, aRl hs.good hs.env hf, hs.size, hs.defers⟩⟩
def cC : (t : Ty) → t.den → Nat → St
 | .pair (.rp a) r, x, k => (k, .roa a x.1) :: cC r x.2 (k + 1)
 | .pair a r, x, k => (k, .val a x.1) :: cC r x.2 (k + 1)
 | _, _, _ => []
end
end Go.Vc
namespace Go.Vc
open Go.RowKit
def aTL : Obj → Obj
 | .row _ t xs => .frz t xs
 | o => o
def frzAll : Obj → Obj
 | .row _ t xs => .frz t xs
 | .frz t xs => .frz t xs
 | _ => .dead
def aG5 : Ty → Nat
 | .pair _ r => aG5 r + 1
 | _ => 0
def iH (h : List Obj) : (r : RK) → r.ty.den → List AV → Prop
 | .none, _, [] => True
 | .one t, y, [v] => AV.as (h.map frzAll) t v = some y
 | .own e t, ys, [.own i] => h[i]? = some (.row e t ys)
 | .own e t, ys, [.nilS] => ys = []
 | .tup t, y, vs => vs.length ≠ 1 ∧ vF (h.map frzAll) t vs = some y
 | _, _, _ => False
section
variable {P : Program} {E : Env} {M : Perm} {w0 : World} {c : Ctx} {h : List Obj} {w : World}
theorem aK3 : ∀ (n : Nat) (h : List Obj) (i : Nat), (freezeAll (List.range n) h)[i]? = if i < n then (h[i]?).map aTL else h[i]? := by
 have happ : ∀ (l r : List Nat) (h : List Obj), freezeAll (l ++ r) h = freezeAll r (freezeAll l h) := fun l => by
  induction l with
  | nil => intro r h; rfl
  | cons a l ih => intro r h; simp only [List.cons_append, freezeAll]; exact ih r _
 intro n
 induction n with
 | zero => intro h i; simp [freezeAll]
 | succ n ih =>
  intro h i
  rw [List.range_succ, happ]
  simp only [freezeAll, Vc.freeze]
  have hn := ih h n
  simp only [Nat.lt_irrefl, if_false] at hn
  split
  ·rename_i e t xs ho
   rw [hn] at ho
   by_cases e' : n = i
   ·subst e'
    have hlt : n < h.length := oM ho
    have hl : n < (freezeAll (List.range n) h).length := by
     rcases Nat.lt_or_ge n (freezeAll (List.range n) h).length with hh | hh
     ·exact hh
     ·rw [List.getElem?_eq_none hh] at hn; rw [← hn] at ho; cases ho
    simp [hl, ho, aTL]
   ·rw [List.getElem?_set_ne e', ih h i]
    by_cases hi : i < n
    ·simp [hi, Nat.lt_succ_of_lt hi]
    ·have : ¬ i < n + 1 := by omega
     simp [hi, this]
  ·rename_i hne
   rw [ih h i]
   by_cases hi : i < n
   ·simp [hi, Nat.lt_succ_of_lt hi]
   ·by_cases e' : i = n
    ·subst e'
     simp only [Nat.lt_irrefl, if_false, Nat.lt_succ_self, if_true]
     cases ho : h[i]? with
     | none => rfl
     | some o =>
      rw [ho] at hn
      cases o <;> first | rfl | exact absurd hn (hne _ _ _)
    ·have : ¬ i < n + 1 := by omega
     simp [hi, this]
theorem Good.frzAll (hg : Good M w0 c h w) : ∃ c', dN c w c' w ∧ Good M w0 c' (h.map aTL) w := by
 obtain ⟨c', h1, h2, h3⟩ := hg.freezeAll (List.range h.length)
 have e : Vc.freezeAll (List.range h.length) h = h.map aTL := by
  apply List.ext_getElem?
  intro i
  rw [aK3, List.getElem?_map]
  by_cases hi : i < h.length
  ·simp [hi]
  ·simp [hi]
 rw [e] at h3
 exact ⟨c', h1, h3⟩
theorem aRm : (h.map aTL).map gX = h.map frzAll := by
 rw [List.map_map]
 apply List.map_congr_left
 intro o _
 cases o <;> rfl
theorem aJn {S : Nat → Prop} : ∀ (t : Ty) (x : t.den) (k : Nat) (vs : List Value) (tmps : Array Value), nE w S t x vs → c.S = S → (∀ i v, vs[i]? = some v → tmps.getD (k + i) Go.undef = v) → aCl c w (cC t x k) tmps
 | .pair a r, x, k, vs, tmps, ⟨v, vs', e, h1, h2⟩, hS, ht => by
  subst e
  have rec_ := aJn r x.2 (k + 1) vs' tmps h2 hS (fun i u hu => by
   have := ht (i + 1) u (by simpa using hu)
   rw [show k + 1 + i = k + (i + 1) from by omega]; exact this)
  have hv := ht 0 v (by simp)
  simp only [Nat.add_zero] at hv
  intro t
  have hcase : ∀ u : AV, aP c w u v → aP c w (look ((k, u) :: cC r x.2 (k + 1)) t) (tmps.getD t Go.undef) := fun u hu => by
   simp only [look]
   split
   ·rename_i e; subst e; rw [hv]; exact hu
   ·exact rec_ t
  cases a with
  | rp a =>
   simp only [cC]
   refine hcase _ ?_
   unfold cU at h1
   rw [if_neg (by simp [Ty.isAgg])] at h1
   obtain ⟨b, off, ds, e, hb, hd, hcell⟩ := h1
   simp at e
   subst e
   exact aBq (by rw [hS]; exact hb) (by rw [hS]; exact hd) hcell
  | _ =>
   simp only [cC]
   exact hcase _ (aP.ofV (by rw [hS]; exact h1))
 | .unit, _, _, _, _, _, _, _ => fun t => trivial
 | .bool, _, _, _, _, h, _, _ => h.elim
 | .u _, _, _, _, _, h, _, _ => h.elim
 | .i _, _, _, _, _, h, _, _ => h.elim
 | .str, _, _, _, _, h, _, _ => h.elim
 | .sl _, _, _, _, _, h, _, _ => h.elim
 | .arr _ _, _, _, _, _, h, _, _ => h.elim
 | .expr, _, _, _, _, h, _, _ => h.elim
 | .rp _, _, _, _, _, h, _, _ => h.elim
 | .clo _ _, _, _, _, _, h, _, _ => h.elim
theorem aJo {S : Nat → Prop} : ∀ (t : Ty) (x : t.den) (vs : List Value), nE w S t x vs → vs.length = aG5 t
 | .pair a r, x, vs, ⟨v, vs', e, h1, h2⟩ => by subst e; simp [aG5, aJo r x.2 vs' h2]
 | .unit, _, _, h => by simp only [nE] at h; subst h; rfl
 | .bool, _, _, h => h.elim
 | .u _, _, _, h => h.elim
 | .i _, _, _, h => h.elim
 | .str, _, _, h => h.elim
 | .sl _, _, _, h => h.elim
 | .arr _ _, _, _, h => h.elim
 | .expr, _, _, h => h.elim
 | .rp _, _, _, h => h.elim
 | .clo _ _, _, _, h => h.elim
 | .ifc _ _, _, _, h => h.elim
 | .nili, _, _, h => h.elim
 | .nilp, _, _, h => h.elim
 | .nilf, _, _, h => h.elim
theorem aSx {S S' : Nat → Prop} (hs : ∀ b, S b → S' b) : ∀ {t : Ty} {x : t.den} {vs : List Value}, nE w S t x vs → nE w S' t x vs := by
 intro t
 induction t with
 | unit => intro x vs h; exact h
 | pair a r _ ih => intro x vs ⟨v, vs', e, h1, h2⟩; exact ⟨v, vs', e, h1.keep hs (.refl _ _), ih h2⟩
 | _ => intro x vs h; exact h.elim
def Ty.wf : (t : Ty) → t.den → Prop
 | .u k, n => (n : Int) ≤ k.max
 | .i k, n => fits k n
 | .str, s => s.length ≤ maxLen
 | .sl t, xs => xs.length ≤ maxLen ∧ ∀ x ∈ xs, t.wf x
 | .pair a b, x => a.wf x.1 ∧ b.wf x.2
 | .arr n t, xs => xs.length = n ∧ ∀ x ∈ xs, t.wf x
 | .rp t, x => t.wf x
 | .clo _ t, x => t.wf x
 | .ifc _ t, x => t.wf x
 | _, _ => True
theorem aS.wf {S : Nat → Prop} : ∀ (t : Ty) (x : t.den) (cs : List Value), aS w S t x cs → t.wf x
 | .bool, _, _, _ => trivial
 | .u k, _, _, hr => hr.2.2
 | .i k, _, _, hr => hr.2.2
 | .str, _, _, ⟨s, _, he, hs⟩ => by subst he; simp only [Ty.wf]; rw [nF]; exact hs
 | .sl t, xs, _, ⟨a, len, cap, _, h1, h2, h3, h4⟩ => by
  refine ⟨by rw [h1]; omega, fun x hx => ?_⟩
  rcases h4 with rfl | ⟨b, off, _, _, hel⟩
  ·cases hx
  ·obtain ⟨i, hi, rfl⟩ := List.mem_iff_getElem.1 hx
   obtain ⟨ds, hd, _⟩ := hel i hi
   exact aS.wf t _ _ hd
 | .unit, _, _, _ => trivial
 | .pair a b, _, _, ⟨c1, c2, _, h1, h2⟩ => ⟨aS.wf a _ _ h1, aS.wf b _ _ h2⟩
 | .arr n t, xs, _, ⟨hn, css, _, hl, hr⟩ => ⟨hn, fun x hx => by
  obtain ⟨i, hi, rfl⟩ := List.mem_iff_getElem.1 hx
  exact aS.wf t _ _ (hr i hi (by omega))⟩
 | .expr, _, _, _ => trivial
 | .rp t, _, _, ⟨_, _, ds, _, _, hd, _⟩ => aS.wf t _ _ hd
 | .clo _ t, _, _, ⟨_, _, hd⟩ => aS.wf t _ _ hd
 | .ifc _ t, _, _, ⟨_, _, _, _, _, hd⟩ => aS.wf t _ _ hd
 | .nili, _, _, _ => trivial
 | .nilp, _, _, _ => trivial
 | .nilf, _, _, _ => trivial
theorem aDE {S : Nat → Prop} : ∀ (t : Ty) (x : t.den) (vs : List Value), nE w S t x vs → t.wf x
 | .pair a r, x, vs, ⟨v, vs', e, h1, h2⟩ => ⟨aS.wf a _ _ h1.cells, aDE r _ _ h2⟩
 | .unit, _, _, _ => trivial
 | .bool, _, _, h => h.elim
 | .u _, _, _, h => h.elim
 | .i _, _, _, h => h.elim
 | .str, _, _, h => h.elim
 | .sl _, _, _, h => h.elim
 | .arr _ _, _, _, h => h.elim
 | .expr, _, _, h => h.elim
 | .rp _, _, _, h => h.elim
 | .clo _ _, _, _, h => h.elim
 | .ifc _ _, _, _, h => h.elim
 | .nili, _, _, h => h.elim
 | .nilp, _, _, h => h.elim
 | .nilf, _, _, h => h.elim
theorem lT {n : Int} : fits .i64 n ↔ -9223372036854775808 ≤ n ∧ n ≤ 9223372036854775807 := by
 simp [fits, IntKind.min, IntKind.max, IntKind.signed, IntKind.bits]
theorem aSy : maxLen = 9223372036854775807 := rfl
def post (P : Program) (fn : Func) (S : Nat → Prop) (w0 : World) (r : RK) (y : r.ty.den) : Exit → Act → World → Prop :=
 bodyPost P fn fun e w' => ∃ v, e = .returned v ∧ fM nothing w0 w' ∧ aSo w' S w0.heap.size r y v
theorem aTM {f : FuncId} {fn : Func} {body : Code} {sp : aJ} (hE : gA P E) (hf : P.funcs[f]? = some fn) (hb : fn.body = some body) (hok : fE fn.ntmps body = true) (hn : aG5 sp.args ≤ fn.ntmps)
  (ht : ∀ (w0 : World) (S : Nat → Prop) (x : sp.args.den), sp.args.wf x → sp.pre x → Tri (fr P E S w0 fn.ntmps) body (post P fn S w0 sp.res (sp.fn x)) (cC sp.args x 0) []) : FOK P E.G f sp := by
 intro w S vs x hS hG ha hp
 refine calls_of_wp hf hb ?_
 refine ht w S x (aDE _ _ _ ha) hp hok ⟨S, fun _ => Go.undef, 0⟩ _ w ⟨⟨rfl, .refl _ _, hS, fun b hb _ => .inl hb, fun i o ho => by simp at ho, fun i o b ho => by simp at ho, fun i j oi oj b hi => by simp at hi, ⟨Nat.le_refl _, fun i hi => absurd hi (Nat.not_lt_zero i)⟩⟩, hG, ?_, ?_, rfl⟩
 ·refine aJn _ x 0 vs.toList _ ha rfl fun i v hv => ?_
  have hlt : i < vs.size := by
   rcases Nat.lt_or_ge i vs.size with hh | hh
   ·exact hh
   ·rw [List.getElem?_eq_none (by simpa using hh)] at hv; cases hv
  simp only [Nat.zero_add]
  have : vs[i]? = some v := by rw [← Array.getElem?_toList]; exact hv
  simp [Array.getElem?_append, hlt]
  rw [Array.getElem?_eq_getElem hlt] at this
  simpa using this
 ·have := aJo _ _ _ ha
  simp at this
  simp
  omega
def aDV : List Value → Value
 | [v] => v
 | vs => .tuple vs.toArray
end
end Go.Vc
