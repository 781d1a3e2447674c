import Derived.Test.YtcpnniahnmjnpaaGreatDoorZL4
import Derived.Scope
import Derived.ProofKit
import Derived.OpenShut
import Derived.Below
set_option linter.unusedVariables false
set_option linter.unusedSimpArgs false
namespace Go.Vc
open Go.RowKit
def posOf (i : Nat) : List Nat → Option Nat
 | [] => none
 | k :: r => if k = i then some 0 else match posOf i r with
  | some j => some (j + 1)
  | none => none
def bG (σ : List Nat) : List Nat → Option (List Nat)
 | [] => some []
 | i :: r => match posOf i σ, bG σ r with
  | some j, some l => some (j :: l)
  | _, _ => none
def cU (σ : List Nat) : AV → AV
 | .own i => match posOf i σ with
  | some j => .own j
  | none => .junk
 | .ptr i p => match posOf i σ with
  | some j => .ptr j p
  | none => .junk
 | .sub i s off n => match posOf i σ with
  | some j => .sub j s off n
  | none => .junk
 | .mp i => match posOf i σ with
  | some j => .mp j
  | none => .junk
 | .fn f l1 l2 => match bG σ l1, bG σ l2 with
  | some l1, some l2 => .fn f l1 l2
  | _, _ => .junk
 | .agg _ => .junk
 | .flat _ => .junk
 | .tup _ => .junk
 | v => v
def ren (σ : List Nat) : AV → AV
 | .agg vs => .agg (vs.map (cU σ))
 | .tup _ => .junk
 | .flat _ => .junk
 | v => cU σ v
def dI (σ : List Nat) : Obj → Obj
 | .box n v => .box n (ren σ v)
 | .trh e m t xs k v => .trh e m t xs k (ren σ v)
 | o => o
def nodupB : List Nat → Bool
 | [] => true
 | i :: r => !r.contains i && nodupB r
def preB (m : Nat) (σ : List Nat) : Bool := (List.range m).all fun i => decide (σ[i]? = some i)
theorem aSP {m : Nat} {σ : List Nat} (h : preB m σ = true) {i : Nat} (hi : i < m) : σ[i]? = some i := by
 have := List.all_eq_true.1 h i (List.mem_range.2 hi)
 simpa using this
section
variable {F : Fr} {M : Perm} {w0 : World} {c : Ctx} {h : List Obj} {w : World} {env : St} {K : Act → World → Prop}
theorem aSQ {i : Nat} : ∀ {σ : List Nat} {j : Nat}, posOf i σ = some j → σ[j]? = some i
 | k :: r, j, hp => by
  simp only [posOf] at hp
  split at hp
  ·rename_i e; cases hp; simp [e]
  ·split at hp
   ·rename_i j' hj; cases hp; simp [aSQ hj]
   ·cases hp
 | [], _, hp => by cases hp
def Ctx.ren (c : Ctx) (σ : List Nat) : Ctx := ⟨c.S, fun j => c.hd (σ.getD j 0), σ.length, fun j => c.bl (σ.getD j 0)⟩
theorem aO9 {σ : List Nat} {i j : Nat} (hp : posOf i σ = some j) : j < σ.length ∧ (c.ren σ).hd j = c.hd i := by
 have := aSQ hp
 have hlt : j < σ.length := by
  rcases Nat.lt_or_ge j σ.length with hh | hh
  ·exact hh
  ·rw [List.getElem?_eq_none hh] at this; cases this
 refine ⟨hlt, ?_⟩
 simp [Ctx.ren, List.getD_eq_getElem?_getD, this]
theorem aLK {σ : List Nat} : ∀ {l l' : List Nat}, bG σ l = some l' → (∀ j ∈ l', j < σ.length) ∧ l'.map (c.ren σ).hd = l.map c.hd
 | [], l', hp => by simp [bG] at hp; subst hp; exact ⟨(fun j hj => by cases hj), rfl⟩
 | i :: r, l', hp => by
  simp only [bG] at hp
  split at hp
  ·rename_i j l h1 h2
   cases hp
   obtain ⟨q1, q2⟩ := aO9 (c := c) h1
   obtain ⟨k1, k2⟩ := aLK h2
   refine ⟨fun k hk => ?_, by simp [q2, k2]⟩
   rcases List.mem_cons.1 hk with rfl | hk
   ·exact q1
   ·exact k1 k hk
  ·cases hp
theorem aPa {σ : List Nat} : ∀ {v : AV} {cs : List Value}, aN c w v cs → aN (c.ren σ) w (cU σ v) cs := by
 intro v cs hr
 cases v <;> simp only [cU] <;> (try trivial)
 case own i =>
  split
  ·rename_i j hp
   obtain ⟨q1, q2⟩ := aO9 (c := c) hp
   simp only [aN] at hr ⊢
   rw [q2]
   exact ⟨q1, hr.2⟩
  ·trivial
 case ptr i p =>
  split
  ·rename_i j hp
   obtain ⟨q1, q2⟩ := aO9 (c := c) hp
   simp only [aN] at hr ⊢
   rw [q2]
   exact ⟨q1, hr.2⟩
  ·trivial
 case sub i s off n =>
  split
  ·rename_i j hp
   obtain ⟨q1, q2⟩ := aO9 (c := c) hp
   simp only [aN] at hr ⊢
   rw [q2]
   exact ⟨q1, hr.2⟩
  ·trivial
 case mp i =>
  split
  ·rename_i j hp
   obtain ⟨q1, q2⟩ := aO9 (c := c) hp
   simp only [aN] at hr ⊢
   rw [q2]
   exact ⟨q1, hr.2⟩
  ·trivial
 case fn f l1 l2 =>
  split
  ·rename_i l1' l2' h1 h2
   obtain ⟨q1, q2⟩ := aLK (c := c) h1
   obtain ⟨k1, k2⟩ := aLK (c := c) h2
   simp only [aN] at hr ⊢
   rw [q2, k2]
   exact ⟨q1, k1, hr.2.2⟩
  ·trivial
 all_goals exact hr
theorem aUV {σ : List Nat} : ∀ {vs : List AV} {cs : List Value}, lT c w vs cs → lT (c.ren σ) w (vs.map (cU σ)) cs
 | [], _, hr => hr
 | v :: r, _, ⟨c1, c2, e, h1, h2⟩ => ⟨c1, c2, e, aPa h1, aUV h2⟩
theorem aLL {σ : List Nat} {v : AV} {cs : List Value} (hr : aN c w v cs) : aN (c.ren σ) w (ren σ v) cs := by
 cases v
 case agg vs => exact aUV hr
 case tup => trivial
 case flat => trivial
 all_goals exact aPa hr
theorem aOz {σ : List Nat} {v : AV} {x : Value} (hr : aX c w v x) : aX (c.ren σ) w (ren σ v) x := by
 have main : uN c w v x → (ren σ v = .junk ∨ (ren σ v).isAgg = v.isAgg) → (∀ vs, ren σ v ≠ .tup vs) → (ren σ v ≠ .undef ∨ v = .undef) → aX (c.ren σ) w (ren σ v) x := fun h1 ha ht hu => by
  rcases ha with ha | ha
  ·rw [ha]; trivial
  ·have h2 := aLL (σ := σ) h1.1
   generalize ren σ v = u at h2 ha ht hu
   have h3 : uN (c.ren σ) w u x := ⟨h2, by rw [ha]; exact h1.2.1, by rw [ha]; exact h1.2.2⟩
   cases u <;> first | exact h3 | trivial | exact absurd rfl (ht _) | skip
   have h2 : x.cells.toList = [Go.undef] := h2
   have h4 := h1.2.2
   rw [← ha] at h4
   have h4 := h4 rfl
   show x = Go.undef
   cases x <;> simp [Value.cells] at h2 h4 <;> first | exact h2 | skip
 cases v
 case junk => trivial
 case undef => exact hr
 case tup => trivial
 case flat => trivial
 case agg vs => exact main hr (.inr rfl) (fun _ h => by simp [ren] at h) (.inl (by simp [ren]))
 case val => exact main hr (.inr rfl) (fun _ h => by simp [ren, cU] at h) (.inl (by simp [ren, cU]))
 case nilS => exact main hr (.inr rfl) (fun _ h => by simp [ren, cU] at h) (.inl (by simp [ren, cU]))
 case nilP => exact main hr (.inr rfl) (fun _ h => by simp [ren, cU] at h) (.inl (by simp [ren, cU]))
 case full => exact main hr (.inr rfl) (fun _ h => by simp [ren, cU] at h) (.inl (by simp [ren, cU]))
 case roa => exact main hr (.inr rfl) (fun _ h => by simp [ren, cU] at h) (.inl (by simp [ren, cU]))
 case own i => cases hp : posOf i σ <;> exact main hr (by simp [ren, cU, hp, AV.isAgg]) (fun _ h => by simp [ren, cU, hp] at h) (.inl (by simp [ren, cU, hp]))
 case ptr i p => cases hp : posOf i σ <;> exact main hr (by simp [ren, cU, hp, AV.isAgg]) (fun _ h => by simp [ren, cU, hp] at h) (.inl (by simp [ren, cU, hp]))
 case sub i s off n => cases hp : posOf i σ <;> exact main hr (by simp [ren, cU, hp, AV.isAgg]) (fun _ h => by simp [ren, cU, hp] at h) (.inl (by simp [ren, cU, hp]))
 case mp i => cases hp : posOf i σ <;> exact main hr (by simp [ren, cU, hp, AV.isAgg]) (fun _ h => by simp [ren, cU, hp] at h) (.inl (by simp [ren, cU, hp]))
 case fn f l1 l2 => cases hp : bG σ l1 <;> cases hq : bG σ l2 <;> exact main hr (by simp [ren, cU, hp, hq, AV.isAgg]) (fun _ h => by simp [ren, cU, hp, hq] at h) (.inl (by simp [ren, cU, hp, hq]))
theorem aSR : ∀ {σ : List Nat}, nodupB σ = true → ∀ i j : Nat, ∀ k, σ[i]? = some k → σ[j]? = some k → i = j
 | [], _, i, j, k, hi, _ => by simp at hi
 | a :: r, hd, i, j, k, hi, hj => by
  simp only [nodupB, Bool.and_eq_true, Bool.not_eq_true', List.contains_eq_mem, decide_eq_false_iff_not] at hd
  cases i with
  | zero =>
   cases j with
   | zero => rfl
   | succ j =>
    simp at hi hj
    subst hi
    exact absurd (List.mem_of_getElem? hj) hd.1
  | succ i =>
   cases j with
   | zero =>
    simp at hi hj
    subst hj
    exact absurd (List.mem_of_getElem? hi) hd.1
   | succ j =>
    simp at hi hj
    rw [aSR hd.2 i j k hi hj]
theorem aKi {σ : List Nat} {i j : Nat} (hj : σ[j]? = some i) (o : Obj) : fN (c.ren σ) j (dI σ o) = fN c i o := by
 have : (c.ren σ).hd j = c.hd i := by simp [Ctx.ren, List.getD_eq_getElem?_getD, hj]
 have h2 : (c.ren σ).bl j = c.bl i := by simp [Ctx.ren, List.getD_eq_getElem?_getD, hj]
 funext b
 cases o <;> simp [fN, dI, this, h2]
theorem Good.ren (hg : Good M w0 c h w) {σ : List Nat} (hd : nodupB σ = true) (hp : preB M.m σ = true) : Good M w0 (c.ren σ) (σ.map fun i => dI σ (h.getD i .dead)) w := by
 have hcase : ∀ j o', (σ.map fun i => dI σ (h.getD i .dead))[j]? = some o' → ∃ i, σ[j]? = some i ∧ o' = dI σ (h.getD i .dead) := fun j o' hj => by
  rw [List.getElem?_map] at hj
  cases hs : σ[j]? with
  | none => simp [hs] at hj
  | some i => simp [hs] at hj; exact ⟨i, hs, hj.symm⟩
 have hget : ∀ i, h.getD i .dead = .dead ∨ h[i]? = some (h.getD i .dead) := fun i => by
  cases hi : h[i]? with
  | none => left; simp [List.getD_eq_getElem?_getD, hi]
  | some o => right; simp [List.getD_eq_getElem?_getD, hi]
 refine ⟨by simp [Ctx.ren], hg.keeps, hg.sfin, hg.src, fun j o' hj => ?_, fun j o' b hj hb => ?_, fun j k oj ok b hj hk hbj hbk => ?_, ?_, fun i hi => ?_⟩
 ·obtain ⟨i, hi, rfl⟩ := hcase j o' hj
  have hhd : (c.ren σ).hd j = c.hd i := by simp [Ctx.ren, List.getD_eq_getElem?_getD, hi]
  have hbl : (c.ren σ).bl j = c.bl i := by simp [Ctx.ren, List.getD_eq_getElem?_getD, hi]
  rcases hget i with e | e
  ·rw [e]; trivial
  ·have := hg.objs i _ e
   revert this
   generalize h.getD i .dead = o
   intro this
   cases o with
   | dead => trivial
   | box n v =>
    obtain ⟨b, cells, e', q1, q2, q3, q4⟩ := this
    exact ⟨b, cells, e', by rw [hhd]; exact q1, q2, q3, aLL q4⟩
   | row e' t xs => simp only [aFv, dI] at *; rw [hhd]; exact this
   | frz t xs => simp only [aFv, dI] at *; rw [hhd]; exact this
   | map k v m =>
    obtain ⟨b, es, clock, q1, q2⟩ := this
    exact ⟨b, es, clock, by rw [hhd]; exact q1, q2⟩
   | tre e' m t xs => simp only [aFv, dI] at *; rw [hhd, hbl]; exact this
   | trh e' m t xs k v =>
    obtain ⟨css, Bs, q⟩ := this
    exact ⟨css, Bs, ⟨by rw [hhd]; exact q.row, q.lc, q.lb, q.kl, q.el, q.hb, fun h1 => ⟨aLL (q.hv h1).1, (q.hv h1).2⟩, by rw [hhd]; exact q.nd, by rw [hhd, hbl]; exact q.bl⟩⟩
 ·obtain ⟨i, hi, rfl⟩ := hcase j o' hj
  rw [aKi hi] at hb
  rcases hget i with e | e
  ·rw [e] at hb; cases hb
  ·exact hg.own i _ b e hb
 ·obtain ⟨i, hi, rfl⟩ := hcase j oj hj
  obtain ⟨i', hi', rfl⟩ := hcase k ok hk
  rw [aKi hi] at hbj
  rw [aKi hi'] at hbk
  rcases hget i with e | e
  ·rw [e] at hbj; cases hbj
  ·rcases hget i' with e' | e'
   ·rw [e'] at hbk; cases hbk
   ·have := hg.sep i i' _ _ b e e' hbj hbk
    subst this
    exact aSR hd j k i hi hi'
 ·rcases Nat.lt_or_ge σ.length M.m with hlt | hge
  ·have := aSP hp hlt
   rw [List.getElem?_eq_none (Nat.le_refl _)] at this; cases this
  ·exact hge
 ·have hi' := aSP hp hi
  have e : (c.ren σ).hd i = c.hd i := by simp [Ctx.ren, List.getD_eq_getElem?_getD, hi']
  rw [e]; exact hg.root.2 i hi
theorem aHw (f : AV → AV) (hf : f .junk = .junk) : ∀ (env : St) (t : Nat), look (env.map fun p => (p.1, f p.2)) t = f (look env t)
 | [], t => by simp only [List.map_nil, look]; exact hf.symm
 | (k, v) :: r, t => by
  simp only [List.map_cons, look]
  split
  ·rfl
  ·exact aHw f hf r t
theorem iB (σ : List Nat) (hd : nodupB σ = true) (hp : preB F.M.m σ = true) (hk : At F K (env.map fun p => (p.1, ren σ p.2)) (σ.map fun i => dI σ (h.getD i .dead))) : At F K env h := fun c a w hs =>
 hk (c.ren σ) a w ⟨hs.good.ren hd hp, hs.glob, fun t => by rw [aHw (ren σ) rfl]; exact aOz (hs.env t), hs.size, hs.defers⟩
theorem aKj {x : Code} {Q : Exit → Act → World → Prop} (σ : List Nat) (hd : nodupB σ = true) (hp : preB F.M.m σ = true) (hk : Tri F x Q (env.map fun p => (p.1, ren σ p.2)) (σ.map fun i => dI σ (h.getD i .dead))) : Tri F x Q env h := fun hok => iB σ hd hp (hk hok)
theorem aVJ (s : Nat) (e : TypeId) (t : Ty) (hn : look env s = .nilS) (hk : At F K ((s, .own h.length) :: env) (h ++ [.row e t []])) : At F K env h := fun c a w hs => by
 have hv := hs.env s
 rw [hn] at hv
 have hsv : a.tmps.getD s Go.undef = .slice none 0 0 := by
  obtain ⟨h1, _, h3⟩ := hv
  have h3 := h3 rfl
  simp only [aN] at h1
  revert h1 h3
  generalize a.tmps.getD s Go.undef = sv
  intro h1 h3
  cases sv <;> simp [Value.cells] at h1 h3 <;> simp [h1]
 have e1 : (c.push (.slice none 0 0)).hd c.n = .slice none 0 0 := by simp [Ctx.push]
 have := hs.good.push (.refl nothing w) (o := .row e t []) (hv := .slice none 0 0) (by
  show aBV _ _ _ _ _ _
  rw [e1]
  exact ⟨[], ⟨by simp, .inl ⟨rfl, rfl⟩⟩, ⟨rfl, [], rfl, rfl, fun i h => by simp at h⟩⟩) (fun b hb => by simp [fN, e1, aW] at hb)
 refine hk _ a w ⟨this.1, hs.glob.mono (fun _ h => h) (.refl _ _), fun t => ?_, hs.size, hs.defers⟩
 simp only [look]
 split
 ·rename_i e'
  subst e'
  rw [hsv, ← hs.good.n]
  exact aDd (c := c) ⟨_, _, _, rfl⟩ (w' := w) (S' := c.S)
 ·exact this.2.val (hs.env t)
theorem aVK (i : Nat) (hk : At F K (env.map fun p => (p.1, aRO (freeze i h) p.2)) (freeze i h)) : At F K env h := fun c a w hs => by
 obtain ⟨c', hl, hn, hg⟩ := hs.good.freeze i
 refine hk c' a w ⟨hg, hs.glob.mono hl.le.S hl.same, fun t => ?_, hs.size, hs.defers⟩
 rw [aHw (aRO (freeze i h)) rfl]
 exact aUP hg (hl.val (hs.env t))
theorem aDf {x : Code} {Q : Exit → Act → World → Prop} (s : Nat) (e : TypeId) (t : Ty) (hn : look env s = .nilS) (hk : Tri F x Q ((s, .own h.length) :: env) (h ++ [.row e t []])) : Tri F x Q env h := fun hok => aVJ s e t hn (hk hok)
theorem aTV {x : Code} {Q : Exit → Act → World → Prop} (i : Nat) (hk : Tri F x Q (env.map fun p => (p.1, aRO (freeze i h) p.2)) (freeze i h)) : Tri F x Q env h := fun hok => aVK i (hk hok)
end
end Go.Vc
namespace Go.Vc
open Go.RowKit
section
variable {F : Fr} {M : Perm} {w0 : World} {c : Ctx} {h : List Obj} {w : World} {env : St} {K : Act → World → Prop}
theorem aYc (i k : Nat) {e : TypeId} {m : Mk} {t : Ty} {xs : List t.den} (ho : h[i]? = some (.tre e m t xs)) (hk : k < xs.length) (hb : aLG t m = true)
  (hK : At F K env (h.set i (.trh e m t xs k (aDT t m (xs.getD k t.zero) h.length).1) ++ (aDT t m (xs.getD k t.zero) h.length).2)) : At F K env h := fun c a w hs => by
 obtain ⟨c', hl, hg⟩ := hs.good.opened ho hk hb
 exact hK c' a w ⟨hg, hs.glob.mono hl.le.S hl.same, fun s => hl.val (hs.env s), hs.size, hs.defers⟩
theorem aWK (i : Nat) {e : TypeId} {m : Mk} {t : Ty} {xs : List t.den} {k : Nat} {v : AV} (x : t.den) (l : List Nat) (ho : h[i]? = some (.trh e m t xs k v)) (ha : xU h t m v = some (x, l)) (hn : aEu.nodupN l = true) (hi : l.contains i = false)
  (hK : At F K env ((oA l h).set i (.tre e m t (xs.set k x)))) : At F K env h := fun c a w hs => by
 obtain ⟨c', hl, hg⟩ := hs.good.closed ho ha (aLI hn) (by simpa using hi)
 exact hK c' a w ⟨hg, hs.glob.mono hl.le.S hl.same, fun s => hl.val (hs.env s), hs.size, hs.defers⟩
theorem Good.retell (hg : Good M w0 c h w) {i : Nat} {o o' : Obj} (ho : h[i]? = some o) {S' B' : Nat → Prop} (hS : ∀ b, S' b → c.S b ∨ fN c i o b) (hS1 : ∀ b, c.S b → S' b) (hob : aFv ⟨S', c.hd, c.n, fun j => if j = i then B' else c.bl j⟩ w i o')
  (hown : ∀ b, fN ⟨S', c.hd, c.n, fun j => if j = i then B' else c.bl j⟩ i o' b → fN c i o b ∧ ¬ S' b) : ∃ c', dZ c w c' w ∧ Good M w0 c' (h.set i o') w := by
 have hil := mN ho
 have hle : c.le ⟨S', c.hd, c.n, fun j => if j = i then B' else c.bl j⟩ := ⟨hS1, Nat.le_refl _, fun _ _ => rfl⟩
 have hl : dZ c w ⟨S', c.hd, c.n, fun j => if j = i then B' else c.bl j⟩ w := ⟨hle, .refl _ _⟩
 have hcase : ∀ j oj, (h.set i o')[j]? = some oj → (j ≠ i ∧ h[j]? = some oj) ∨ (j = i ∧ oj = o') := fun j oj hj => by
  by_cases e : i = j
  ·subst e; simp [hil] at hj; exact .inr ⟨rfl, hj.symm⟩
  ·rw [List.getElem?_set_ne e] at hj; exact .inl ⟨fun h => e h.symm, hj⟩
 have hold : ∀ j oj, j < c.n → j ≠ i → fN ⟨S', c.hd, c.n, fun j => if j = i then B' else c.bl j⟩ j oj = fN c j oj := fun j oj hj hne => gK hle (by simp [hne]) hj oj
 have hlt : ∀ j oj, h[j]? = some oj → j < c.n := fun j oj hj => by rw [hg.n]; exact mN hj
 refine ⟨_, hl, ⟨by simp [hg.n], hg.keeps, fun b hb => ?_, fun b hb hb0 => ?_, fun j oj hj => ?_, fun j oj b hj hb => ?_, fun j k oj ok b hj hk hbj hbk => ?_, zL hg.root hle⟩⟩
 ·rcases hS b hb with hb | hb
  ·exact hg.sfin b hb
  ·exact (hg.own i _ b ho hb).2.1
 ·rcases hS b hb with hb | hb
  ·exact hg.src b hb hb0
  ·rcases (hg.own i _ b ho hb).1 with h1 | h1
   ·omega
   ·exact .inr h1
 ·rcases hcase j oj hj with ⟨hne, hj⟩ | ⟨rfl, rfl⟩
  ·exact (hg.objs j oj hj).keep hl (hlt j oj hj) (by simp [hne]) (fun _ _ => rfl)
  ·exact hob
 ·rcases hcase j oj hj with ⟨hne, hj⟩ | ⟨rfl, rfl⟩
  ·rw [hold j oj (hlt j oj hj) hne] at hb
   obtain ⟨h1, h2, h3⟩ := hg.own j oj b hj hb
   refine ⟨h1, h2, fun hb' => ?_⟩
   rcases hS b hb' with hb' | hb'
   ·exact h3 hb'
   ·exact hne (hg.sep j i oj _ b hj ho hb hb')
  ·obtain ⟨h1, h2⟩ := hown b hb
   obtain ⟨q1, q2, _⟩ := hg.own j _ b ho h1
   exact ⟨q1, q2, h2⟩
 ·rcases hcase j oj hj with ⟨hnj, hj1⟩ | ⟨ej, eo⟩ <;> rcases hcase k ok hk with ⟨hnk, hk1⟩ | ⟨ek, eo'⟩
  ·rw [hold j oj (hlt j oj hj1) hnj] at hbj
   rw [hold k ok (hlt k ok hk1) hnk] at hbk
   exact hg.sep j k oj ok b hj1 hk1 hbj hbk
  ·subst ek; subst eo'
   rw [hold j oj (hlt j oj hj1) hnj] at hbj
   exact hg.sep j k oj _ b hj1 ho hbj (hown b hbk).1
  ·subst ej; subst eo
   rw [hold k ok (hlt k ok hk1) hnk] at hbk
   exact hg.sep j k _ ok b ho hk1 (hown b hbj).1 hbk
  ·rw [ej, ek]
section
variable {x : Code} {Q : Exit → Act → World → Prop}
theorem aWL (i k : Nat) {e : TypeId} {m : Mk} {t : Ty} {xs : List t.den} (ho : h[i]? = some (.tre e m t xs)) (hk : k < xs.length) (hb : aLG t m = true)
  (hK : Tri F x Q env (h.set i (.trh e m t xs k (aDT t m (xs.getD k t.zero) h.length).1) ++ (aDT t m (xs.getD k t.zero) h.length).2)) : Tri F x Q env h := fun hok => aYc i k ho hk hb (hK hok)
end
end
attribute [go_sem] asX aWe aZf aZg okD Ex.kind Ex.text Ex.l aRE lP aIl aLv aEu aEu.nodupN aFK xU oR zR aFJ aRd okM ownRow aJo aEY aDT aDe aLG uR Ty.fldTy
end Go.Vc
namespace Go.Vc
open Go.RowKit
def gam : List (FuncId × aI) → FuncId → Option aI
 | [], _ => none
 | (k, sp) :: r, f => if k = f then some sp else gam r f
theorem aYd {l : List (FuncId × aI)} {f : FuncId} {sp : aI} (h : gam l f = some sp) : (f, sp) ∈ l := by
 induction l with
 | nil => cases h
 | cons p r ih =>
  obtain ⟨k, s⟩ := p
  simp only [gam] at h
  split at h
  ·rename_i e; subst e; cases h; exact List.mem_cons_self
  ·exact List.mem_cons_of_mem _ (ih h)
def fnB (P : Program) (f : FuncId) : Bool := match P.funcs[f]? with
 | some fn => decide (fn.name ≠ "runtime.NumGoroutine") && fn.body.isSome
 | none => false
structure bH (P : Program) (G : Nat → AV) (l : List (FuncId × aI)) : Prop where
 ok : ∀ p ∈ l, (FOK P G p.1 p.2 ∧ fnB P p.1 = true) ∨ NOK P G p.1 p.2
theorem bH.nil {P : Program} {G : Nat → AV} : bH P G [] := ⟨fun p hp => by cases hp⟩
theorem bH.cons {P : Program} {G : Nat → AV} {l : List (FuncId × aI)} {f : FuncId} {sp : aI} (h : FOK P G f sp) (hf : fnB P f = true) (hl : bH P G l) : bH P G ((f, sp) :: l) := by
 refine ⟨fun p hp => ?_⟩
 rcases List.mem_cons.1 hp with rfl | hp
 ·exact .inl ⟨h, hf⟩
 ·exact hl.ok p hp
theorem bH.nat {P : Program} {G : Nat → AV} {l : List (FuncId × aI)} {f : FuncId} {sp : aI} (h : NOK P G f sp) (hl : bH P G l) : bH P G ((f, sp) :: l) := by
 refine ⟨fun p hp => ?_⟩
 rcases List.mem_cons.1 hp with rfl | hp
 ·exact .inr h
 ·exact hl.ok p hp
theorem aSS {P : Program} {T : Tab} {G : Nat → AV} {l : List (FuncId × aI)} {el : TypeId → TypeId} (hT : lD P T) (hel : ∀ t ct, T t = some (.sl ct) → P.underlying t = some (.slice (el t))) {mp : TypeId → Option (TypeId × TypeId)} (hmp : ∀ t k e, mp t = some (k, e) → P.underlying t = some (.map k e)) {dm : TypeId → Option Mk} {dz : TypeId → Bool} (hl : bH P G l) : iE P ⟨T, G, fun f _ => gam l f, el, mp, dm, dz⟩ :=
 ⟨hT, fun f _ sp h => by
  rcases hl.ok _ (aYd h) with ⟨h, this⟩ | h
  ·refine .inl ⟨h, ?_⟩
   unfold fnB at this
   split at this
   ·rename_i fn hf
    simp only [Bool.and_eq_true, decide_eq_true_eq] at this
    exact ⟨fn, hf, this⟩
   ·cases this
  ·exact .inr h, hel, hmp⟩
theorem aZt {P : Program} {G : Nat → AV} {f : FuncId} {a t : Ty} {pre : a.den → Prop} {fn : a.den → t.den} (h : ∀ (w : World) (S : Nat → Prop) (vs : List Value) (x : a.den), pU w S a x vs → pre x → ∃ us : List Value, (callFunc f vs.toArray).run P w = .ok (.value (.tuple us.toArray)) w ∧ pU w S t (fn x) us) : NOK P G f ⟨a, .tup t, pre, fn⟩ := by
 refine ⟨(fun e t h => by cases h), fun w vs S x hS hG ha hp => ?_⟩
 obtain ⟨us, h1, h2⟩ := h w S vs.toList x ha hp
 refine ⟨_, w, by simpa using h1, _, rfl, .refl _ _, us, rfl, ?_⟩
 have hmono : ∀ (t : Ty) (x : t.den) (xs : List Value), pU w S t x xs → pU w (fun b => S b ∨ (w.heap.size ≤ b ∧ b < w.heap.size)) t x xs := by
  intro t
  induction t with
  | unit => intro x xs h; exact h
  | pair a r _ ih => intro x xs ⟨v, vs', e, h1, h2⟩; exact ⟨v, vs', e, h1.keep (fun b hb => .inl hb) (.refl _ _), ih _ _ h2⟩
  | _ => intro x xs h; exact h.elim
 exact hmono _ _ _ h2
end Go.Vc
namespace Go.Vc
open Go.RowKit
def gM : List Oper → Nat → List (Nat × TypeId × Nat)
 | [], _ => []
 | o :: r, i => match o.op, o.guard, o.dst with
  | .alloc t, none, some d => (i, t, d) :: gM r (i + 1)
  | _, _, _ => gM r (i + 1)
def aST (T : Tab) (t : TypeId) : Obj := match T t with
 | some ct => .box (bxN t ct) (aHa ct)
 | none => .dead
def qE (T : Tab) : List (Nat × TypeId × Nat) → St → List Obj → St × List Obj
 | [], env, h => (env, h)
 | (_, t, d) :: r, env, h => qE T r ((d, .ptr h.length []) :: env) (h ++ [aST T t])
theorem vG : ∀ {l : List Oper} {i : Nat} {p : Nat × TypeId × Nat}, p ∈ gM l i → ∃ o, l[p.1 - i]? = some o ∧ i ≤ p.1 ∧ o.op = .alloc p.2.1 ∧ o.guard = none ∧ o.dst = some p.2.2
 | [], i, p, hp => by cases hp
 | o :: r, i, p, hp => by
  have hrec : p ∈ gM r (i + 1) → ∃ o', (o :: r)[p.1 - i]? = some o' ∧ i ≤ p.1 ∧ o'.op = .alloc p.2.1 ∧ o'.guard = none ∧ o'.dst = some p.2.2 := fun hp => by
   obtain ⟨o', h1, h2, h3⟩ := vG hp
   refine ⟨o', ?_, by omega, h3⟩
   rw [show p.1 - i = (p.1 - (i + 1)) + 1 from by omega, List.getElem?_cons_succ]
   exact h1
  simp only [gM] at hp
  split at hp
  ·rename_i t d h1 h2 h3
   rcases List.mem_cons.1 hp with rfl | hp
   ·exact ⟨o, by simp, Nat.le_refl _, h1, h2, h3⟩
   ·exact hrec hp
  ·exact hrec hp
section
variable {P : Program} {E : Env} {M : Perm} {w0 : World} {nt : Nat} {ds : List Deferred} {h : List Obj} {env : St} {pre : List Oper}
structure aUW (T : Tab) (al : List (Nat × TypeId × Nat)) (w : World) (listed : Nat → Prop) (c' : Ctx) (a : Act) (w' : World) (B : Nat → Nat) : Prop where
 size : w.heap.size ≤ w'.heap.size
 at_ : ∀ p ∈ al, listed p.1 → ∃ ct, T p.2.1 = some ct ∧ a.tmps.getD p.2.2 Go.undef = .pointer (some ⟨B p.1, 0, none⟩) ∧ w.heap.size ≤ B p.1 ∧ B p.1 < w'.heap.size ∧ ¬ c'.S (B p.1) ∧ w'.heap[B p.1]? = some (.cells (mL ct).cells p.2.1 (0, 0))
 inj : ∀ p ∈ al, ∀ q ∈ al, listed p.1 → listed q.1 → B p.1 = B q.1 → p.1 = q.1
theorem aUW.step {T : Tab} {w : World} {listed : Nat → Prop} {c' c'' : Ctx} {a a'' : Act} {w' w'' : World} {B : Nat → Nat} (hf : aUW T (gM pre 0) w listed c' a w' B) {i : Nat} {o : Oper} (ho : pre[i]? = some o) (hok : gV a.tmps.size o = true) (hu : aDa pre = true) (hni : ¬ listed i) (hd : o.dst ≠ none) (hsf : ∀ b, c'.S b → b < w'.heap.size)
  (hs : aYZ T o a c' w' c'' a'' w'') : ∃ B', aUW T (gM pre 0) w (fun k => listed k ∨ k = i) c'' a'' w'' B' := by
 obtain ⟨v, hv, hal⟩ := hs.put
 have hget : ∀ d, o.dst ≠ some d → a''.tmps.getD d Go.undef = a.tmps.getD d Go.undef := fun d hne => by
  rw [hv]
  cases hdd : o.dst with
  | none => rfl
  | some d0 =>
   have : d0 ≠ d := fun e => hne (by rw [hdd, e])
   simp [Act.put, Array.getElem?_setIfInBounds_ne this]
 refine ⟨fun k => if k = i then w'.heap.size else B k, Nat.le_trans hf.size hs.keeps.size, fun p hp hl => ?_, fun p hp q hq hlp hlq hB => ?_⟩
 ·obtain ⟨op, h1, _, h2, h3, h4⟩ := vG hp
  simp only [Nat.sub_zero] at h1
  by_cases e : p.1 = i
  ·rw [e] at h1
   rw [ho] at h1
   cases h1
   obtain ⟨ct, q1, q2, q3, q4⟩ := hal _ h2 h3
   simp only [e, if_true]
   refine ⟨ct, q1, ?_, hf.size, by rw [q3]; simp, fun hS => ?_, by rw [q3]; exact aA7 w' _⟩
   ·simp only [gV, Bool.and_eq_true, h4, decide_eq_true_eq] at hok
    rw [hv, h4, q2]
    simp [Act.put, hok.2]
   ·rw [q4] at hS
    have := hsf _ hS
    omega
  ·have hl : listed p.1 := hl.resolve_right e
   obtain ⟨ct, q1, q2, q3, q4, q5, q6⟩ := hf.at_ p hp hl
   simp only [e, if_false]
   refine ⟨ct, q1, ?_, q3, Nat.lt_of_lt_of_le q4 hs.keeps.size, fun hS => ?_, by rw [hs.keeps.block _ q4 (fun f => f)]; exact q6⟩
   ·rw [hget]
    ·exact q2
    ·intro hdd
     exact e (aOu hu ho h1 (by rw [h4, hdd]) hd)
   ·rcases hs.new _ hS with h | h
    ·exact q5 h
    ·omega
 ·by_cases ep : p.1 = i <;> by_cases eq : q.1 = i
  ·rw [ep, eq]
  ·simp only [ep, eq, if_true, if_false] at hB
   obtain ⟨ct, q1, q2, q3, q4, _⟩ := hf.at_ q hq (hlq.resolve_right eq)
   omega
  ·simp only [ep, eq, if_true, if_false] at hB
   obtain ⟨ct, q1, q2, q3, q4, _⟩ := hf.at_ p hp (hlp.resolve_right ep)
   omega
  ·simp only [ep, eq, if_false] at hB
   exact hf.inj p hp q hq (hlp.resolve_right ep) (hlq.resolve_right eq) hB
theorem Good.adopt {c : Ctx} {w : World} (hg : Good M w0 c h w) {b : Nat} {cells : Array Value} {e : TypeId} {v : AV} {n : Nat} (hb : w.heap[b]? = some (.cells cells e (0, 0))) (hn : aXT n cells.size e) (hv : aN c w v cells.toList) (hB : w0.heap.size ≤ b) (hS : ¬ c.S b)
  (hown : ∀ i o, h[i]? = some o → ¬ fN c i o b) : Good M w0 (c.push (.pointer (some ⟨b, 0, none⟩))) (h ++ [.box n v]) w ∧ dZ c w (c.push (.pointer (some ⟨b, 0, none⟩))) w := by
 have hl : dZ c w (c.push (.pointer (some ⟨b, 0, none⟩))) w := ⟨c.le_push _, .refl _ _⟩
 have hbl : b < w.heap.size := (Array.getElem?_eq_some_iff.1 hb).1
 have hhd : (c.push (.pointer (some ⟨b, 0, none⟩))).hd c.n = .pointer (some ⟨b, 0, none⟩) := by simp [Ctx.push]
 have hcase : ∀ i o', (h ++ [Obj.box n v])[i]? = some o' → (h[i]? = some o' ∧ i < c.n) ∨ (i = c.n ∧ o' = Obj.box n v) := fun i o' ho => by
  rw [hg.n]
  rcases Nat.lt_trichotomy i h.length with hlt | heq | hgt
  ·rw [List.getElem?_append_left hlt] at ho; exact .inl ⟨ho, hlt⟩
  ·subst heq; simp at ho; exact .inr ⟨rfl, ho.symm⟩
  ·rw [List.getElem?_append_right (by omega), List.getElem?_eq_none (by simp; omega)] at ho; cases ho
 refine ⟨⟨by simp [Ctx.push, hg.n], hg.keeps, hg.sfin, hg.src, fun i o' ho => ?_, fun i o' b' ho hbb => ?_, fun i j oi oj b' hi hj hbi hbj => ?_, zL hg.root hl.le⟩, hl⟩
 ·rcases hcase i o' ho with ⟨ho, hi⟩ | ⟨rfl, rfl⟩
  ·exact (hg.objs i o' ho).keep hl hi rfl (fun _ _ => rfl)
  ·exact ⟨b, cells, e, hhd, hb, hn, aN.keep hl.le hl.same _ _ hv⟩
 ·rcases hcase i o' ho with ⟨ho, hi⟩ | ⟨rfl, rfl⟩
  ·rw [gK hl.le rfl hi] at hbb
   exact hg.own i o' b' ho hbb
  ·simp only [fN, hhd, aW, Option.some.injEq] at hbb
   subst hbb
   exact ⟨.inl hB, hbl, hS⟩
 ·rcases hcase i oi hi with ⟨hi', hin⟩ | ⟨ei, eo⟩ <;> rcases hcase j oj hj with ⟨hj', hjn⟩ | ⟨ej, eo'⟩
  ·rw [gK hl.le rfl hin] at hbi
   rw [gK hl.le rfl hjn] at hbj
   exact hg.sep i j oi oj b' hi' hj' hbi hbj
  ·subst ej; subst eo'
   rw [gK hl.le rfl hin] at hbi
   simp only [fN, hhd, aW, Option.some.injEq] at hbj
   subst hbj
   exact absurd hbi (hown i oi hi')
  ·subst ei; subst eo
   rw [gK hl.le rfl hjn] at hbj
   simp only [fN, hhd, aW, Option.some.injEq] at hbi
   subst hbi
   exact absurd hbj (hown j oj hj')
  ·rw [ei, ej]
theorem aYe {c : Ctx} {w : World} {ct : Ty} (hok : ct.okB = true) : aN c w (aHa ct) (mL ct).cells.toList ∧ (mL ct).cells.size = ct.cells := by
 refine ⟨(aKd hok).1, ?_⟩
 rw [yI hok]
 simp [jJ hok]
theorem aPb (hE : iE P E) {a : Act} {w : World} : ∀ (al : List (Nat × TypeId × Nat)) (env : St) (h : List Obj) (c : Ctx) (B : Nat → Nat), Sim E M w0 nt ds c env h a w →
  (∀ p ∈ al, ∃ ct, E.T p.2.1 = some ct ∧ ct.okB = true ∧ a.tmps.getD p.2.2 Go.undef = .pointer (some ⟨B p.1, 0, none⟩) ∧ w0.heap.size ≤ B p.1 ∧ ¬ c.S (B p.1) ∧ w.heap[B p.1]? = some (.cells (mL ct).cells p.2.1 (0, 0)) ∧ ∀ i o, h[i]? = some o → ¬ fN c i o (B p.1)) →
  al.Pairwise (fun p q => B p.1 ≠ B q.1) → ∃ c', Sim E M w0 nt ds c' (qE E.T al env h).1 (qE E.T al env h).2 a w
 | [], env, h, c, B, hs, _, _ => ⟨c, hs⟩
 | (i, t, d) :: r, env, h, c, B, hs, hal, hpw => by
  obtain ⟨ct, q1, q2, q3, q4, q5, q6, q7⟩ := hal (i, t, d) (by simp)
  simp only at q1 q3 q4 q5 q6 q7
  obtain ⟨z1, z2⟩ := aYe (c := c) (w := w) q2
  obtain ⟨g1, g2⟩ := hs.good.adopt q6 (n := bxN t ct) (by rw [z2]; exact aV5 t ct) z1 q4 q5 q7
  have hbox : aST E.T t = .box (bxN t ct) (aHa ct) := by simp [aST, q1]
  rw [List.pairwise_cons] at hpw
  have e1 : (c.push (.pointer (some ⟨B i, 0, none⟩))).hd c.n = .pointer (some ⟨B i, 0, none⟩) := by simp [Ctx.push]
  have hs' : Sim E M w0 nt ds (c.push (.pointer (some ⟨B i, 0, none⟩))) ((d, .ptr h.length []) :: env) (h ++ [aST E.T t]) a w := by
   refine ⟨by rw [hbox]; exact g1, hs.glob.mono (fun _ h => h) (.refl _ _), fun t' => ?_, hs.size, hs.defers⟩
   simp only [look]
   split
   ·rename_i e
    subst e
    rw [q3, ← hs.good.n]
    exact ⟨⟨Nat.lt_succ_self c.n, B i, by rw [e1]; rfl, rfl⟩, (fun h => by cases h), (fun _ cs => by simp)⟩
   ·exact g2.val (hs.env t')
  refine aPb hE r _ _ _ B hs' (fun p hp => ?_) hpw.2
  obtain ⟨ct', p1, p2, p3, p4, p5, p6, p7⟩ := hal p (by simp [hp])
  refine ⟨ct', p1, p2, p3, p4, p5, p6, fun k o ho => ?_⟩
  rcases Nat.lt_trichotomy k h.length with hlt | heq | hgt
  ·rw [List.getElem?_append_left hlt] at ho
   rw [gK g2.le rfl (by rw [hs.good.n]; exact hlt)]
   exact p7 k o ho
  ·subst heq
   simp at ho
   subst ho
   rw [hbox, ← hs.good.n]
   simp only [fN, e1, aW, ne_eq, Option.some.injEq]
   exact hpw.1 p hp
  ·rw [List.getElem?_append_right (by omega), List.getElem?_eq_none (by simp; omega)] at ho; cases ho
theorem aYf (hE : iE P E) {ops : List Oper} {Q : Exit → Act → World → Prop} (hok : ∀ o ∈ ops, gV nt o = true) {K : St → List Obj → Prop} {i : Nat} (hil : i < ops.length) {env : St} {h : List Obj} {c : Ctx} {a : Act} {w : World} (hs : sN E ops (ops.drop i) env h K) (hsim : Sim E M w0 nt ds c env h a w)
  {Kn : Act → World → Prop} (hn : ∀ env' h' c' a' w', sN E ops (ops.drop (i + 1)) env' h' K → Sim E M w0 nt ds c' env' h' a' w' → Kn a' w') : wpOp P ops.toArray Q i Kn a w := by
 rw [List.drop_eq_getElem_cons hil] at hs
 have hokO := hok ops[i] (List.getElem_mem hil)
 have hput : ∀ (v : Value) (av : AV), aX c w av v → Sim E M w0 nt ds c (wT ops[i].dst av env) h (a.put ops[i].dst v) w := fun v av hv => hsim.after hokO ⟨.refl _ _, hsim.good, hv⟩
 unfold wpOp
 simp only [List.getElem?_toArray, List.getElem?_eq_getElem hil]
 have hrun : ((wD E env h ops[i]).1 ∧ sN E ops (ops.drop (i + 1)) (wT ops[i].dst (wD E env h ops[i]).2.1 env) (wD E env h ops[i]).2.2 K) → Region.wanted ops[i] (yielded ops.toArray a.tmps) = true → (if Region.wanted ops[i] (yielded ops.toArray a.tmps) = true then Oper.wp P ops[i] a w Kn Q ∨ (ops[i].asks P a w ∧ LetsOut Q) else Kn (a.put ops[i].dst Go.undef) w) := fun ⟨h1, h2⟩ hw => by
  rw [if_pos hw]
  left
  refine (aIu hE hsim hokO h1).wp fun v w' c' ha => ?_
  exact hn _ _ c' _ w' h2 (hsim.after hokO ha)
 have hskip : sN E ops (ops.drop (i + 1)) (wT ops[i].dst .undef env) h K → Region.wanted ops[i] (yielded ops.toArray a.tmps) = false → (if Region.wanted ops[i] (yielded ops.toArray a.tmps) = true then Oper.wp P ops[i] a w Kn Q ∨ (ops[i].asks P a w ∧ LetsOut Q) else Kn (a.put ops[i].dst Go.undef) w) := fun h2 hw => by
  rw [if_neg (by rw [hw]; simp)]
  exact hn _ _ c _ w h2 (hput _ _ rfl)
 simp only [sN] at hs
 cases hgd : ops[i].guard with
 | none =>
  rw [hgd] at hs
  exact hrun hs (by simp [Region.wanted, hgd])
 | some jp =>
  obtain ⟨j, pol⟩ := jp
  rw [hgd] at hs
  simp only at hs
  cases hdj : aIN ops j with
  | none => rw [hdj] at hs; exact hs.elim
  | some dj =>
   rw [hdj] at hs
   simp only at hs
   have hv := hsim.env dj
   split at hs
   ·rename_i b hb
    rw [hb] at hv
    have hb' := aES hv
    have hy := yR hok hsim.size hdj hb'
    simp only [yb] at hy
    by_cases e : b = pol
    ·exact hrun (hs.1 e) (by simp [Region.wanted, hgd, hy, e])
    ·have e' : b = !pol := by cases b <;> cases pol <;> simp_all
     exact hskip (hs.2 e') (by simp [Region.wanted, hgd, hy, e])
   ·rename_i hb
    rw [hb] at hv
    have hy := yR hok hsim.size hdj (v := Go.undef) hv
    exact hskip hs (by simp [Region.wanted, hgd, hy, Go.undef, yb])
   ·exact hs.elim
def aYg (o : Oper) (k : Nat) : Bool := o.after.toList.any fun e => Region.binds .any e && decide (e.on = k)
def aMY : List Oper → List (List Nat) → List (List Nat)
 | [], acc => acc
 | o :: r, acc => aMY r (acc ++ [(List.range acc.length).filter fun k => aYg o k || (List.range acc.length).any fun j => aYg o j && (acc.getD j []).contains k])
def aHx (n : Nat) (ops : List Oper) : Bool :=
 (ops.zipIdx.all fun p => p.1.after.toList.all fun e => !Region.binds .any e || decide (e.on < p.2)) &&
 ((aMY ops []).zipIdx.all fun p => decide (p.2 < n) || (List.range p.2).all fun k => p.1.contains k)
theorem aSU {o : Oper} {k : Nat} : aYg o k = true ↔ ∃ e ∈ o.after, Region.binds .any e = true ∧ e.on = k := by
 simp only [aYg, List.any_eq_true, Bool.and_eq_true, decide_eq_true_eq, Array.mem_toList_iff]
theorem aSV {ops : List Oper} : ∀ (r : List Oper) (acc : List (List Nat)), acc.length + r.length = ops.length → (∀ j, ops[acc.length + j]? = r[j]?) →
  (∀ (i : Nat) (S : List Nat), acc[i]? = some S → ∀ k ∈ S, ∀ L : Nat → Prop, (∀ j o, ops[j]? = some o → L j → ∀ e ∈ o.after, Region.binds .any e = true → L e.on) → (∀ o, ops[i]? = some o → ∀ e ∈ o.after, Region.binds .any e = true → L e.on) → L k) →
  (aMY r acc).length = ops.length ∧ ∀ (i : Nat) (S : List Nat), (aMY r acc)[i]? = some S → ∀ k ∈ S, ∀ L : Nat → Prop, (∀ j o, ops[j]? = some o → L j → ∀ e ∈ o.after, Region.binds .any e = true → L e.on) → (∀ o, ops[i]? = some o → ∀ e ∈ o.after, Region.binds .any e = true → L e.on) → L k
 | [], acc, hl, _, h => ⟨by simpa [aMY] using hl, h⟩
 | o :: r, acc, hl, hr, h => by
  simp only [aMY]
  have ho : ops[acc.length]? = some o := by have := hr 0; simpa using this
  refine aSV r _ (by simp at hl ⊢; omega) (fun j => by have := hr (j + 1); simp only [List.length_append, List.length_singleton, List.getElem?_cons_succ] at this ⊢; rw [← this]; congr 1; omega) fun i S hS k hk L hL hi => ?_
  rcases Nat.lt_trichotomy i acc.length with hlt | heq | hgt
  ·rw [List.getElem?_append_left hlt] at hS
   exact h i S hS k hk L hL hi
  ·subst heq
   simp only [List.getElem?_concat_length, Option.some.injEq] at hS
   subst hS
   simp only [List.mem_filter, List.mem_range, Bool.or_eq_true, List.any_eq_true, Bool.and_eq_true] at hk
   obtain ⟨_, hk⟩ := hk
   rcases hk with hk | ⟨j, hj, hd, hc⟩
   ·obtain ⟨e, he, hb, rfl⟩ := aSU.1 hk
    exact hi o ho e he hb
   ·obtain ⟨e, he, hb, rfl⟩ := aSU.1 hd
    have hLj := hi o ho e he hb
    have hj : e.on < acc.length := hj
    have hS' : acc[e.on]? = some (acc.getD e.on []) := by rw [List.getD_eq_getElem?_getD, List.getElem?_eq_getElem hj]; rfl
    exact h e.on _ hS' k (by simpa using hc) L hL (fun o' ho' e' he' hb' => hL e.on o' ho' hLj e' he' hb')
  ·rw [List.getElem?_eq_none (by simp; omega)] at hS; cases hS
theorem jQ {n : Nat} {ops : List Oper} (h : aHx n ops = true) {i : Nat} {o : Oper} (ho : ops[i]? = some o) : (∀ e ∈ o.after, Region.binds .any e = true → e.on < i) ∧
  (n ≤ i → ∀ L : Nat → Prop, (∀ j o, ops[j]? = some o → L j → ∀ e ∈ o.after, Region.binds .any e = true → L e.on) → (∀ e ∈ o.after, Region.binds .any e = true → L e.on) → ∀ k, k < i → L k) := by
 simp only [aHx, Bool.and_eq_true] at h
 obtain ⟨h1, h2⟩ := h
 refine ⟨fun e he hb => ?_, fun hn L hL hi k hk => ?_⟩
 ·have := List.all_eq_true.1 h1 (o, i) (by rw [List.mem_zipIdx_iff_getElem?]; exact ho)
  have := List.all_eq_true.1 this e (Array.mem_toList_iff.2 he)
  simpa [hb] using this
 ·obtain ⟨q1, q2⟩ := aSV (ops := ops) ops [] (by simp) (fun j => by simp) (fun i S hS => by simp at hS)
  have hil : i < ops.length := jQ.get_lt' ho
  have hS : (aMY ops [])[i]? = some ((aMY ops [])[i]'(by omega)) := List.getElem?_eq_getElem _
  have := List.all_eq_true.1 h2 (_, i) (by rw [List.mem_zipIdx_iff_getElem?]; exact hS)
  simp only [Bool.or_eq_true, decide_eq_true_eq] at this
  have := List.all_eq_true.1 (this.resolve_left (by omega)) k (List.mem_range.2 hk)
  exact q2 i _ hS k (by simpa using this) L hL (fun o' ho' => by rw [ho] at ho'; cases ho'; exact hi)
where
 get_lt' {ops : List Oper} {i : Nat} {o : Oper} (ho : ops[i]? = some o) : i < ops.length := by
  rcases Nat.lt_or_ge i ops.length with h | h
  ·exact h
  ·rw [List.getElem?_eq_none h] at ho; cases ho
theorem aSW (hE : iE P E) {ops : List Oper} {Q : Exit → Act → World → Prop} (hok : ∀ o ∈ ops, gV nt o = true) {K : St → List Obj → Prop} (hK : ∀ env h c a w, K env h → Sim E M w0 nt ds c env h a w → Q .normal a w) {n : Nat} (ht : aHx n ops = true) :
  ∀ (m i : Nat), i + m = ops.length → n ≤ i → ∀ (listed : Array Bool), listed.size = ops.length → (∀ k, k < ops.length → (listed.getD k false = true ↔ k < i)) → ∀ (env : St) (h : List Obj) (c : Ctx) (a : Act) (w : World), sN E ops (ops.drop i) env h K → Sim E M w0 nt ds c env h a w → wpAny P .any ops.toArray Q m listed a w
 | 0, i, hi, hni, listed, hsz, hl, env, h, c, a, w, hs, hsim => by
  rw [List.drop_eq_nil_of_le (by omega)] at hs
  refine ⟨?_, hK env h c a w hs hsim⟩
  rw [List.eq_nil_iff_forall_not_mem]
  intro j hj
  obtain ⟨h1, o, ho, _⟩ := mem_ready.1 hj
  have ho : ops[j]? = some o := by simpa using ho
  have hjl := jQ.get_lt' ho
  have := (hl j hjl).2 (by omega)
  have hlt : j < listed.size := by omega
  simp [hlt] at h1 this
  rw [this] at h1; cases h1
 | m + 1, i, hi, hni, listed, hsz, hl, env, h, c, a, w, hs, hsim => by
  have hil : i < ops.length := by omega
  have hio : ops[i]? = some ops[i] := List.getElem?_eq_getElem hil
  refine ⟨fun hr => ?_, fun j hj => ?_⟩
  ·exfalso
   have hmem : i ∈ Region.ready .any ops.toArray listed := by
    rw [mem_ready]
    have hlt : i < listed.size := by omega
    have hun : ¬ listed.getD i false = true := fun h => by have := (hl i hil).1 h; omega
    refine ⟨by simp [hlt] at hun ⊢; exact hun, ops[i], by simp [hil], fun e he hb => ?_⟩
    exact (hl _ (by have := (jQ ht hio).1 e he hb; omega)).2 ((jQ ht hio).1 e he hb)
   rw [hr] at hmem; cases hmem
  ·obtain ⟨h1, o, ho, hall⟩ := mem_ready.1 hj
   have ho : ops[j]? = some o := by simpa using ho
   have hjl := jQ.get_lt' ho
   have hji : j = i := by
    rcases Nat.lt_trichotomy j i with hlt | heq | hgt
    ·have := (hl j hjl).2 hlt
     have hlt : j < listed.size := by omega
     simp [hlt] at h1 this
     rw [this] at h1; cases h1
    ·exact heq
    ·have := (jQ ht ho).2 (by omega) (fun k => k < ops.length → listed.getD k false = true) (fun k o' ho' hk e he hb => fun hlt => by
      have hkl := jQ.get_lt' ho'
      have h3 := (jQ ht ho').1 e he hb
      have := (hl k hkl).1 (hk hkl)
      exact (hl _ hlt).2 (by omega)) (fun e he hb _ => hall e he hb) i hgt hil
     have := (hl i hil).1 this
     omega
   subst hji
   refine aYf hE hok hil hs hsim fun env' h' c' a' w' hs' hsim' => ?_
   refine aSW hE hok hK ht m (j + 1) (by omega) (by omega) (listed.setIfInBounds j true) (by simp [hsz]) (fun k hk => ?_) env' h' c' a' w' hs' hsim'
   by_cases e : j = k
   ·subst e
    have : j < listed.size := by omega
    simp [this]
   ·rw [getD_set_ne false e, hl k hk]
    omega
theorem aWM {pre tail : List Oper} {Q : Exit → Act → World → Prop} {i : Nat} {o : Oper} (ho : pre[i]? = some o) (hg : ∀ j p, o.guard = some (j, p) → j < pre.length) {K : Act → World → Prop} {a : Act} {w : World} (h : wpOp P pre.toArray Q i K a w) : wpOp P (pre ++ tail).toArray Q i K a w := by
 have hil : i < pre.length := jQ.get_lt' ho
 have ho' : (pre ++ tail)[i]? = some o := by rw [List.getElem?_append_left hil]; exact ho
 have hw : Region.wanted o (yielded (pre ++ tail).toArray a.tmps) = Region.wanted o (yielded pre.toArray a.tmps) := by
  cases hgd : o.guard with
  | none => simp [Region.wanted, hgd]
  | some jp =>
   obtain ⟨j, p⟩ := jp
   have := hg j p hgd
   simp only [Region.wanted, hgd, yielded, List.getElem?_toArray, List.getElem?_append_left this]
 unfold wpOp at h ⊢
 simp only [List.getElem?_toArray, ho, ho'] at h ⊢
 rw [hw]; exact h
theorem aLM : ∀ (l : List Oper) (i : Nat), (gM l i).Pairwise (fun p q => p.1 < q.1)
 | [], i => List.Pairwise.nil
 | o :: r, i => by
  simp only [gM]
  split
  ·refine List.pairwise_cons.2 ⟨fun p hp => ?_, aLM r (i + 1)⟩
   obtain ⟨_, _, h, _⟩ := vG hp
   simp only
   omega
  ·exact aLM r (i + 1)
theorem vH (n k : Nat) : (Array.replicate n false).getD k false = false := by
 by_cases h : k < n <;> simp [h]
theorem aRe (hE : iE P E) (hmix : P.follows .mixedOrders = true) {pre tail : List Oper} {Q : Exit → Act → World → Prop} (hok : ∀ o ∈ pre ++ tail, gV nt o = true) (hu : aDa pre = true) (hany : aND pre = true) (ht : aHx pre.length (pre ++ tail) = true) {c : Ctx} {a : Act} {w : World} (hs : Sim E M w0 nt ds c env h a w) {K' : St → List Obj → Prop}
  (hv : vcA E h env pre 0 [] (fun acc => K' (qE E.T (gM pre 0) (nJ acc env) h).1 (qE E.T (gM pre 0) (nJ acc env) h).2))
  (htail : ∀ env h c a w (listed : Array Bool), listed.size = (pre ++ tail).length → (∀ k, k < (pre ++ tail).length → (listed.getD k false = true ↔ k < pre.length)) → K' env h → Sim E M w0 nt ds c env h a w → wpAny P .any (pre ++ tail).toArray Q tail.length listed a w) {id : Nat} : (Code.region id (pre ++ tail).toArray true).wp P Q a w := by
 obtain ⟨F, f1, f2, f3⟩ := aFF pre 0 [] _ hv
 have hF : wP E h env pre F := ⟨f1, fun i o ho => by have := f2 i o ho; simpa using this⟩
 simp only [Nat.zero_add] at f3
 refine wp_region_any hmix ?_
 have hlat : dZ c w c { w with drawn := w.drawn + 1 } := ⟨.refl _, fun b hb => rfl⟩
 have hdr : Sim E M w0 nt ds c env h a { w with drawn := w.drawn + 1 } :=
  ⟨hs.good.step hlat rfl rfl ⟨rfl, rfl, rfl, Nat.le_refl _, fun _ _ _ => rfl⟩ (fun _ _ _ _ _ => rfl) hs.good.sfin (fun _ hb => .inl hb), qM.mono (w := w) (w' := { w with drawn := w.drawn + 1 }) (fun _ hb => hb) hlat.same hs.glob, hs.env.keep hlat, hs.size, hs.defers⟩
 generalize ({ w with drawn := w.drawn + 1 } : World) = w at hdr
 clear hs hlat hv
 have hokp : ∀ o ∈ pre, gV nt o = true := fun o ho => hok o (by simp [ho])
 have hanyI : ∀ i o, pre[i]? = some o → (∀ e ∈ o.after, Region.binds .any e = true → e.on < i) ∧ (∀ j p, o.guard = some (j, p) → ∃ e ∈ o.after, Region.binds .any e = true ∧ e.on = j) ∧
   (∀ t, Operand.tmp t ∈ o.op.operands → ∀ k ok, pre[k]? = some ok → ok.dst = some t → k = i ∨ (k < i ∧ ∃ e ∈ o.after, Region.binds .any e = true ∧ e.on = k) ∨ (i < k ∧ ∃ e ∈ ok.after, Region.binds .any e = true ∧ e.on = i)) := by
  intro i o ho
  have hi : i < pre.length := by
   rcases Nat.lt_or_ge i pre.length with h | h
   ·exact h
   ·rw [List.getElem?_eq_none h] at ho; cases ho
  simp only [aND, List.all_eq_true, List.mem_range] at hany
  have := hany i hi
  rw [ho] at this
  simp only [Bool.and_eq_true, List.all_eq_true, Array.mem_toList_iff] at this
  obtain ⟨⟨h1, h2⟩, h3⟩ := this
  refine ⟨fun e he hb => ?_, fun j p hg => ?_, fun t ht k ok hk hd => ?_⟩
  ·have := h1 e he
   simpa [hb] using this
  ·rw [hg] at h2
   simp only [List.any_eq_true, Bool.and_eq_true, decide_eq_true_eq, Array.mem_toList_iff] at h2
   exact h2
  ·have := h3 _ ht
   simp only [List.all_eq_true, List.mem_range] at this
   have hkl : k < pre.length := by
    rcases Nat.lt_or_ge k pre.length with h | h
    ·exact h
    ·rw [List.getElem?_eq_none h] at hk; cases hk
   have := this k hkl
   rw [hk] at this
   simp only [hd, ne_eq, not_true_eq_false, decide_false, Bool.false_or, Bool.or_eq_true, decide_eq_true_eq, Bool.and_eq_true, List.any_eq_true, Array.mem_toList_iff] at this
   rcases this with (h | h) | h
   ·exact .inl h
   ·exact .inr (.inl h)
   ·exact .inr (.inr h)
 have main : ∀ (cnt : Nat) (listed : Array Bool), listed.size = (pre ++ tail).length → ((List.range pre.length).filter fun k => !listed.getD k false).length = cnt → (∀ k, pre.length ≤ k → listed.getD k false = false) →
   (∀ k o, pre[k]? = some o → listed.getD k false = true → ∀ e ∈ o.after, Region.binds .any e = true → listed.getD e.on false = true) →
   ∀ (c' : Ctx) (a : Act) (w' : World) (B : Nat → Nat), Mid E M w0 nt ds h env pre F c w (fun k => listed.getD k false = true) c' a w' → aUW E.T (gM pre 0) w (fun k => listed.getD k false = true) c' a w' B → wpAny P .any (pre ++ tail).toArray Q (cnt + tail.length) listed a w' := by
  intro cnt
  induction cnt with
  | zero =>
   intro listed hsz hcnt hlate hcl c' a w' B hm hf
   have hall : ∀ k, k < pre.length → listed.getD k false = true := fun k hk => by
    have := List.eq_nil_of_length_eq_zero hcnt
    rw [List.filter_eq_nil_iff] at this
    have := this k (List.mem_range.2 hk)
    simpa using this
   have hsim := aRM hF hdr.glob (aBC (l2 := fun k => k < pre.length) (fun k hk => ⟨fun _ => hk, fun _ => hall k hk⟩) hF hm)
   obtain ⟨c2, hsim2⟩ := aPb hE (gM pre 0) _ _ _ B hsim (fun p hp => by
    obtain ⟨o, q1, _, q2, q3, q4⟩ := vG hp
    simp only [Nat.sub_zero] at q1
    have hpl : p.1 < pre.length := jQ.get_lt' q1
    obtain ⟨ct, r1, r2, r3, r4, r5, r6⟩ := hf.at_ p hp (hall _ hpl)
    obtain ⟨d, s1, s2, s3, s4⟩ := hF.step p.1 o q1
    have hcond := s3 (by rw [q3]; trivial)
    simp only [opA, pv, q2, r1] at hcond
    refine ⟨ct, r1, hcond, r2, Nat.le_trans hdr.good.keeps.size r3, r5, r6, fun i o' ho' e => ?_⟩
    rw [gK hm.later.le (congrFun hm.n.2 _) (by rw [hdr.good.n]; exact mN ho')] at e
    have := (hdr.good.own i o' _ ho' e).2.1
    omega) ((aLM pre 0).imp_of_mem fun {p q} hp hq hlt e => by
    obtain ⟨o, q1, _⟩ := vG hp
    obtain ⟨o', q1', _⟩ := vG hq
    simp only [Nat.sub_zero] at q1 q1'
    have := hf.inj p hp q hq (hall _ (jQ.get_lt' q1)) (hall _ (jQ.get_lt' q1')) e
    omega)
   rw [Nat.zero_add]
   refine htail _ _ c2 a w' listed hsz (fun k hk => ⟨fun hl => ?_, hall k⟩) f3 hsim2
   rcases Nat.lt_or_ge k pre.length with h | h
   ·exact h
   ·rw [hlate k h] at hl; cases hl
  | succ cnt ih =>
   intro listed hsz hcnt hlate hcl c' a w' B hm hf
   rw [show cnt + 1 + tail.length = (cnt + tail.length) + 1 from by omega]
   have hpl : ∀ k, k < pre.length → (pre ++ tail)[k]? = pre[k]? := fun k hk => List.getElem?_append_left hk
   refine ⟨fun hr => ?_, fun i hi => ?_⟩
   ·exfalso
    have hex : ∃ k, k < pre.length ∧ listed.getD k false = false := by
     have hne : ((List.range pre.length).filter fun k => !listed.getD k false) ≠ [] := fun e => by rw [e] at hcnt; cases hcnt
     obtain ⟨k, hk⟩ := List.exists_mem_of_ne_nil _ hne
     simp only [List.mem_filter, List.mem_range, Bool.not_eq_true'] at hk
     exact ⟨k, hk⟩
    have hmin : ∃ k, (k < pre.length ∧ listed.getD k false = false) ∧ ∀ j, j < k → ¬ (j < pre.length ∧ listed.getD j false = false) := by
     obtain ⟨k, hk⟩ := hex
     induction k using Nat.strongRecOn with
     | _ k ihk =>
      by_cases hh : ∃ j, j < k ∧ (j < pre.length ∧ listed.getD j false = false)
      ·obtain ⟨j, hj, hp⟩ := hh; exact ihk j hj hp
      ·exact ⟨k, hk, fun j hj hp => hh ⟨j, hj, hp⟩⟩
    obtain ⟨k, ⟨hk, hun⟩, hlow⟩ := hmin
    have hmem : k ∈ Region.ready .any (pre ++ tail).toArray listed := by
     rw [mem_ready]
     have hlt : k < listed.size := by rw [hsz]; simp; omega
     refine ⟨by simp [hlt] at hun ⊢; exact hun, pre[k], by rw [List.getElem?_toArray, hpl k hk]; exact List.getElem?_eq_getElem hk, fun e he hb => ?_⟩
     have := (hanyI k _ (List.getElem?_eq_getElem hk)).1 e he hb
     have hn := hlow e.on this
     by_cases hh : listed.getD e.on false = true
     ·exact hh
     ·exact absurd ⟨by omega, by simpa using hh⟩ hn
    rw [hr] at hmem; cases hmem
   ·obtain ⟨h1, o, ho, hall⟩ := mem_ready.1 hi
    have ho : (pre ++ tail)[i]? = some o := by simpa using ho
    have hil0 := jQ.get_lt' ho
    have hex : ∃ k, k < pre.length ∧ listed.getD k false = false := by
     have hne : ((List.range pre.length).filter fun k => !listed.getD k false) ≠ [] := fun e => by rw [e] at hcnt; cases hcnt
     obtain ⟨k, hk⟩ := List.exists_mem_of_ne_nil _ hne
     simp only [List.mem_filter, List.mem_range, Bool.not_eq_true'] at hk
     exact ⟨k, hk⟩
    have hil : i < pre.length := by
     rcases Nat.lt_or_ge i pre.length with h | h
     ·exact h
     ·obtain ⟨k, hk, hun⟩ := hex
      have hk2 := (jQ ht ho).2 h (fun k => listed.getD k false = true) (fun j o' ho' hj e he hb => by
       have hjp : j < pre.length := by
        rcases Nat.lt_or_ge j pre.length with h' | h'
        ·exact h'
        ·rw [hlate j h'] at hj; cases hj
       exact hcl j o' (by rw [← hpl j hjp]; exact ho') hj e he hb) (fun e he hb => hall e he hb) k (by omega)
      rw [hun] at hk2; cases hk2
    rw [hpl i hil] at ho
    have hlt : i < listed.size := by omega
    have hni : ¬ listed.getD i false = true := by simp [hlt] at h1 ⊢; exact h1
    obtain ⟨a1, a2, a3⟩ := hanyI i o ho
    obtain ⟨d, s1, _, _, _⟩ := hF.step i _ ho
    have hokO := hokp o (List.mem_of_getElem? ho)
    refine aWM ho (fun j p hg => ?_) ?_
    ·obtain ⟨e, he, hb, hon⟩ := a2 j p hg
     have := a1 e he hb
     omega
    refine aOY hE hF hokp hdr.glob hm ho hni (fun t ht k ok hk hd => ?_) (fun j p hg => ?_) (fun k ok hk hd => aOu hu ho hk hd (by rw [s1]; simp)) fun c'' a'' w'' hm' hx => ?_
    ·rcases a3 t ht k ok hk hd with h | ⟨h, e, he, hb, hon⟩ | ⟨h, e, he, hb, hon⟩
     ·exact ⟨fun h' => by omega, fun h' => by omega⟩
     ·exact ⟨fun _ => hon ▸ hall e he hb, fun h' => by omega⟩
     ·exact ⟨fun h' => by omega, fun _ hkl => hni (hon ▸ hcl k ok hk hkl e he hb)⟩
    ·obtain ⟨e, he, hb, hon⟩ := a2 j p hg
     exact hon ▸ hall e he hb
    ·have hset : ∀ k, (listed.setIfInBounds i true).getD k false = true ↔ (listed.getD k false = true ∨ k = i) := fun k => by
      by_cases e : i = k
      ·subst e; simp [hlt]
      ·rw [getD_set_ne false e]
       exact ⟨.inl, fun h => h.resolve_right (fun h => e h.symm)⟩
     obtain ⟨B', hf'⟩ := hf.step ho (by rw [hm.size]; exact hokO) hu hni (by rw [s1]; simp) hm.good.sfin hx
     refine ih (listed.setIfInBounds i true) (by simp [hsz]) ?_ (fun k hk => ?_) (fun k o' hk hkl e he hb => ?_) c'' a'' w'' B' (aBC (fun k _ => (hset k).symm) hF hm') ⟨hf'.size, fun p hp hl => hf'.at_ p hp ((hset _).1 hl), fun p hp q hq hl1 hl2 => hf'.inj p hp q hq ((hset _).1 hl1) ((hset _).1 hl2)⟩
     ·have hfil : ((List.range pre.length).filter fun k => !(listed.setIfInBounds i true).getD k false) = ((List.range pre.length).filter fun k => !listed.getD k false).filter (fun k => decide (k ≠ i)) := by
       rw [List.filter_filter]
       apply List.filter_congr
       intro k _
       rw [Bool.eq_iff_iff]
       by_cases e : k = i
       ·subst e; simp [hlt]
       ·have h2 : (listed.setIfInBounds i true).getD k false = listed.getD k false := getD_set_ne false (fun h => e h.symm)
        rw [h2]
        simp [e]
      rw [hfil]
      have hnd : ((List.range pre.length).filter fun k => !listed.getD k false).Nodup := List.nodup_range.filter _
      have hmem : i ∈ ((List.range pre.length).filter fun k => !listed.getD k false) := by
       simp only [List.mem_filter, List.mem_range]
       exact ⟨hil, by simpa using hni⟩
      have := hnd.erase_eq_filter i
      have e2 : (((List.range pre.length).filter fun k => !listed.getD k false).filter (fun k => decide (k ≠ i))) = ((List.range pre.length).filter fun k => !listed.getD k false).erase i := by
       rw [this]
       apply List.filter_congr
       intro k _
       by_cases e : k = i <;> simp [e]
      rw [e2, List.length_erase_of_mem hmem, hcnt]; rfl
     ·rw [getD_set_ne false (by omega)]; exact hlate k hk
     ·rcases (hset k).1 hkl with h | h
      ·exact (hset _).2 (.inl (hcl k o' hk h e he hb))
      ·subst h
       rw [ho] at hk
       cases hk
       exact (hset _).2 (.inl (hall e he hb))
 have hstart := main pre.length (Array.replicate (pre ++ tail).length false) (by simp) (by
   rw [List.filter_eq_self.2 (fun k _ => by rw [vH]; rfl)]; simp) (fun k _ => vH _ _) (fun k o ho hl => by rw [vH] at hl; cases hl) c a w (fun _ => 0) (aBC (fun k hk => ⟨False.elim, fun h => by rw [vH] at h; cases h⟩) hF (aLC hdr)) ⟨Nat.le_refl _, (fun p hp hl => by rw [vH] at hl; cases hl), (fun p hp q hq hl => by rw [vH] at hl; cases hl)⟩
 simpa using hstart
theorem aSX (hE : iE P E) (hmix : P.follows .mixedOrders = true) {pre tail : List Oper} {Q : Exit → Act → World → Prop} (hok : ∀ o ∈ pre ++ tail, gV nt o = true) (hu : aDa pre = true) (hany : aND pre = true) (ht : aHx pre.length (pre ++ tail) = true) {c : Ctx} {a : Act} {w : World} (hs : Sim E M w0 nt ds c env h a w) {K' : St → List Obj → Prop}
  (hv : vcA E h env pre 0 [] (fun acc => sN E (pre ++ tail) tail (qE E.T (gM pre 0) (nJ acc env) h).1 (qE E.T (gM pre 0) (nJ acc env) h).2 K')) (hK : ∀ env h c a w, K' env h → Sim E M w0 nt ds c env h a w → Q .normal a w) {id : Nat} : (Code.region id (pre ++ tail).toArray true).wp P Q a w :=
 aRe hE hmix hok hu hany ht hs (K' := fun env h => sN E (pre ++ tail) tail env h K') hv fun env h c a w listed hsz hl hk hsim =>
  aSW hE hok hK ht tail.length pre.length (by simp) (Nat.le_refl _) listed hsz hl env h c a w (by rw [List.drop_left]; exact hk) hsim
def aY1 (F : Fr) (Q : Exit → Act → World → Prop) (keep : List Nat) (all pre tail : List Oper) (env : St) (h : List Obj) (acc : List Ent) : Prop :=
 sN F.E all tail (qE F.E.T (gM pre 0) (nJ acc env) h).1 (qE F.E.T (gM pre 0) (nJ acc env) h).2 (fun env h => At F (Q .normal) (keep.map fun t => (t, look env t)) h)
theorem aSY {F : Fr} {Q : Exit → Act → World → Prop} {env : St} {h : List Obj} (hF : gD F) {id : Nat} {ops : Array Oper} (n : Nat) (hst : (aND (ops.toList.take n) && aDa (ops.toList.take n) && aHx (ops.toList.take n).length ops.toList) = true) (keep : List Nat)
  (hv : vcA F.E h env (ops.toList.take n) 0 [] (aY1 F Q keep ops.toList (ops.toList.take n) (ops.toList.drop n) env h)) : Tri F (.region id ops true) Q env h := fun hok c a w hs => by
 simp only [iA, Bool.and_eq_true, Bool.or_eq_true, Bool.not_eq_true'] at hok
 obtain ⟨⟨h1, h2⟩, h3⟩ := hok
 simp only [Bool.and_eq_true] at hst
 obtain ⟨⟨t1, t2⟩, t3⟩ := hst
 have e : ops.toList.take n ++ ops.toList.drop n = ops.toList := List.take_append_drop n ops.toList
 have := aSX (id := id) (pre := ops.toList.take n) (tail := ops.toList.drop n) (Q := Q) hF.env hF.mix (by rw [e]; exact List.all_eq_true.1 h1) t2 t1 (by rw [e]; exact t3) hs (K' := fun env h => At F (Q .normal) (keep.map fun t => (t, look env t)) h) (by rw [e]; exact hv) (fun env h c a w hk hs => hk c a w (hs.keep keep))
 rw [e] at this
 simpa using this
end
end Go.Vc
namespace Go.Vc
open Go.RowKit
def aZS : List Obj → List (Nat × Obj) → List Obj
 | h, [] => h
 | h, (i, o) :: r => aZS (h.set i o) r
def aJq (env : St) (keep : List Nat) (u : St) : St := u ++ keep.map fun t => (t, look env t)
theorem aWN {α : Type} (a s : α) : (List.replicate 1 a).set 0 s = [s] := rfl
theorem aWO {α : Type} (a s k : α) : ((List.replicate 2 a).set 0 s).set 1 k = [s, k] := rfl
theorem aWP {α : Type} (a s k m : α) : (((List.replicate 3 a).set 0 s).set 1 k).set 2 m = [s, k, m] := rfl
def elB (P : Program) (l : List (TypeId × Ty)) (el : TypeId → TypeId) : Bool := l.all fun p => match p.2 with
 | .sl _ => match P.underlying p.1 with
  | some (.slice e) => decide (e = el p.1)
  | _ => false
 | _ => true
theorem aYh {P : Program} {l : List (TypeId × Ty)} {el : TypeId → TypeId} (h : elB P l el = true) : ∀ t ct, aIK l t = some (.sl ct) → P.underlying t = some (.slice (el t)) := fun t ct ht => by
 have := List.all_eq_true.1 h _ (aQZ ht)
 simp only at this
 split at this
 ·rename_i e he; rw [he, of_decide_eq_true this]
 ·cases this
section
variable {F : Fr} {Q : Exit → Act → World → Prop} {env : St} {h : List Obj}
theorem aRf {x : Code} (hx : Tri F x (Exit.noGoto Q) env h) : Tri F (.scope x) Q env h := fun hok c a w hs =>
 wp_scope_straight (hx (by simpa [iA] using hok) c a w hs)
theorem aRR (hq : At F (Q .ret) env h) : At F (Exit.noGoto Q .ret) env h := hq
end
end Go.Vc
namespace Go.Vc
open Go.RowKit
structure Pan where
 k : TypeId
 t : Ty
 x : t.den
inductive aZu where
 | ret (v : AV) (h : List Obj)
 | pan (p : Pan) (h : List Obj)
structure gH where
 D : Type
 av : D → List AV
 hp : D → List Obj
 m : Nat
 pre : D → Prop
 out : D → aZu
def GM (sp : gH) (c : Ctx) (d : sp.D) : Perm := ⟨fun b => ∃ i o, (sp.hp d)[i]? = some o ∧ fN c i o b, c.S, sp.m, c.hd⟩
structure GIn (G : Nat → AV) (sp : gH) (c : Ctx) (w : World) (d : sp.D) (vs : List Value) : Prop where
 good : Good (GM sp c d) w c (sp.hp d) w
 glob : qM G c.S w
 len : vs.length = (sp.av d).length
 val : ∀ i (h1 : i < (sp.av d).length) (h2 : i < vs.length), aX c w (sp.av d)[i] vs[i]
def aQs (k : TypeId) (u : Value) : List PanicEntry := [{ v := .iface k u, recovered := false, goexit := false }]
def aLN (sp : gH) (c : Ctx) (w : World) (d : sp.D) (e : Ending) (w' : World) : Prop :=
 ∃ c', match sp.out d with
  | .ret v h' => ∃ u, e = .returned u ∧ Good (GM sp c d) w c' h' w' ∧ aX c' w' v u
  | .pan p h' => ∃ u, e = .panicked (aQs p.k u) ∧ Good (GM sp c d) w c' h' w' ∧ dF w' c'.S p.t p.x u
def GOK (P : Program) (G : Nat → AV) (f : FuncId) (sp : gH) : Prop :=
 ∀ (c : Ctx) (w : World) (d : sp.D) (vs : Array Value), sp.pre d → GIn G sp c w d vs.toList → Calls P f vs w (aLN sp c w d)
def aTW (μ : List Nat) : List Nat → Option (List Nat)
 | [] => some []
 | i :: r => match μ[i]?, aTW μ r with
  | some j, some l => some (j :: l)
  | _, _ => none
def aRS (μ : List Nat) : AV → AV
 | .own i => match μ[i]? with
  | some j => .own j
  | none => .junk
 | .ptr i p => match μ[i]? with
  | some j => .ptr j p
  | none => .junk
 | .sub i s off n => match μ[i]? with
  | some j => .sub j s off n
  | none => .junk
 | .mp i => match μ[i]? with
  | some j => .mp j
  | none => .junk
 | .fn f l1 l2 => match aTW μ l1, aTW μ l2 with
  | some l1, some l2 => .fn f l1 l2
  | _, _ => .junk
 | .agg _ => .junk
 | .flat _ => .junk
 | .tup _ => .junk
 | v => v
def aEZ (μ : List Nat) : AV → AV
 | .agg vs => .agg (vs.map (aRS μ))
 | v => aRS μ v
def emb (μ : List Nat) : AV → AV
 | .tup vs => .tup (vs.map (aEZ μ))
 | v => aEZ μ v
def aPc (μ : List Nat) : Obj → Obj
 | .box n v => .box n (aEZ μ v)
 | .trh e m t xs k v => .trh e m t xs k (aEZ μ v)
 | o => o
def aDg : List (Nat × Obj) → List Obj → List Obj
 | [], h => h
 | (i, o) :: r, h => aDg r (h.set i o)
def qN (σ : List Nat) (m n k : Nat) : List Nat := σ.take m ++ List.range' n (k - m)
def aFL (σ : List Nat) (m : Nat) (h h' : List Obj) : List Obj :=
 aDg ((σ.take m).zip ((h'.take m).map (aPc (qN σ m h.length h'.length)))) (oA (σ.drop m) h) ++ (h'.drop m).map (aPc (qN σ m h.length h'.length))
section
variable {P : Program} {E : Env} {M : Perm} {w0 : World} {c c' : Ctx} {h : List Obj} {w w' : World}
structure Emb (μ : List Nat) (c' cN : Ctx) : Prop where
 S : ∀ b, c'.S b → cN.S b
 hd : ∀ i j, μ[i]? = some j → j < cN.n ∧ cN.hd j = c'.hd i
theorem aRT {μ : List Nat} {cN : Ctx} (he : Emb μ c' cN) : ∀ {l l' : List Nat}, aTW μ l = some l' → (∀ j ∈ l', j < cN.n) ∧ l'.map cN.hd = l.map c'.hd
 | [], l', h => by simp [aTW] at h; subst h; exact ⟨(fun j hj => by cases hj), rfl⟩
 | i :: r, l', h => by
  simp only [aTW] at h
  split at h
  ·rename_i j l h1 h2
   cases h
   obtain ⟨q1, q2⟩ := he.hd i j h1
   obtain ⟨k1, k2⟩ := aRT he h2
   refine ⟨fun k hk => ?_, by simp [q2, k2]⟩
   rcases List.mem_cons.1 hk with rfl | hk
   ·exact q1
   ·exact k1 k hk
  ·cases h
theorem aPd {μ : List Nat} {cN : Ctx} (he : Emb μ c' cN) : ∀ {v : AV} {cs : List Value}, aN c' w v cs → aN cN w (aRS μ v) cs := by
 intro v cs hr
 have hS : c'.le ⟨cN.S, c'.hd, c'.n, c'.bl⟩ := ⟨he.S, Nat.le_refl _, fun _ _ => rfl⟩
 cases v <;> simp only [aRS] <;> (try trivial)
 case own i =>
  split
  ·rename_i j hp
   obtain ⟨q1, q2⟩ := he.hd i j hp
   simp only [aN] at hr ⊢
   rw [q2]
   exact ⟨q1, hr.2⟩
  ·trivial
 case ptr i p =>
  split
  ·rename_i j hp
   obtain ⟨q1, q2⟩ := he.hd i j hp
   simp only [aN] at hr ⊢
   rw [q2]
   exact ⟨q1, hr.2⟩
  ·trivial
 case sub i s off n =>
  split
  ·rename_i j hp
   obtain ⟨q1, q2⟩ := he.hd i j hp
   simp only [aN] at hr ⊢
   rw [q2]
   exact ⟨q1, hr.2⟩
  ·trivial
 case mp i =>
  split
  ·rename_i j hp
   obtain ⟨q1, q2⟩ := he.hd i j hp
   simp only [aN] at hr ⊢
   rw [q2]
   exact ⟨q1, hr.2⟩
  ·trivial
 case fn f l1 l2 =>
  split
  ·rename_i l1' l2' h1 h2
   obtain ⟨q1, q2⟩ := aRT he h1
   obtain ⟨k1, k2⟩ := aRT he h2
   simp only [aN] at hr ⊢
   rw [q2, k2]
   exact ⟨q1, k1, hr.2.2⟩
  ·trivial
 case val t x => exact bE.keep he.S (.refl _ _) t x cs hr
 case full t xs =>
  simp only [aN] at hr ⊢
  obtain ⟨a, n, e, hs⟩ := hr
  exact ⟨a, n, e, hs.keep he.S (.refl _ _) (fun x cs => bE.keep he.S (.refl _ _) t x cs)⟩
 case roa t x =>
  simp only [aN] at hr ⊢
  obtain ⟨b, off, ds, e, hb, hd, hc⟩ := hr
  exact ⟨b, off, ds, e, he.S b hb, bE.keep he.S (.refl _ _) t x ds hd, hc⟩
 all_goals exact hr
theorem aSZ {μ : List Nat} {cN : Ctx} (he : Emb μ c' cN) : ∀ {vs : List AV} {cs : List Value}, lT c' w vs cs → lT cN w (vs.map (aRS μ)) cs
 | [], _, hr => hr
 | v :: r, _, ⟨c1, c2, e, h1, h2⟩ => ⟨c1, c2, e, aPd he h1, aSZ he h2⟩
theorem aJr {μ : List Nat} {cN : Ctx} (he : Emb μ c' cN) {v : AV} {cs : List Value} (hr : aN c' w v cs) : aN cN w (aEZ μ v) cs := by
 cases v
 case agg vs => exact aSZ he hr
 all_goals exact aPd he hr
theorem aWQ (μ : List Nat) (v : AV) : aEZ μ v = .junk ∨ (aEZ μ v).isAgg = v.isAgg := by
 cases v <;> simp only [aEZ, aRS] <;> first | exact .inr trivial | exact .inl trivial | exact .inr rfl | exact .inl rfl | (split <;> simp [AV.isAgg])
theorem aRg {μ : List Nat} {cN : Ctx} (he : Emb μ c' cN) {v : AV} {x : Value} (hr : uN c' w v x) (hj : aEZ μ v ≠ .junk) : uN cN w (aEZ μ v) x := by
 have ha := (aWQ μ v).resolve_left hj
 exact ⟨aJr he hr.1, by rw [ha]; exact hr.2.1, by rw [ha]; exact hr.2.2⟩
theorem aZv (μ : List Nat) (v : AV) : aEZ μ v = .undef → v = .undef := by
 cases v <;> simp only [aEZ, aRS] <;> first | exact fun _ => trivial | (intro h; cases h; done) | (intro h; rfl) | (intro h; split at h <;> cases h)
theorem aYi (μ : List Nat) (v : AV) (vs : List AV) : aEZ μ v ≠ .tup vs := by
 cases v <;> simp only [aEZ, aRS] <;> first | (intro h; cases h; done) | (intro h; split at h <;> cases h)
theorem aYj {μ : List Nat} {cN : Ctx} (he : Emb μ c' cN) {v : AV} {x : Value} (hr : aX c' w v x) (hj : ∀ vs, v = .tup vs → ∀ u ∈ vs, aEZ μ u ≠ .junk) : aX cN w (emb μ v) x := by
 have main : ∀ v, (∀ vs, v ≠ .tup vs) → v ≠ .junk → v ≠ .undef → uN c' w v x → aX cN w (aEZ μ v) x := fun v ht hn hu h1 => by
  by_cases hjk : aEZ μ v = .junk
  ·rw [hjk]; trivial
  ·have := aRg he h1 hjk
   have e1 := aZv μ v
   have e2 := aYi μ v
   generalize aEZ μ v = u at this e1 e2 hjk
   cases u <;> first | exact this | exact absurd rfl hjk | exact absurd (e1 rfl) hu | exact absurd rfl (e2 _)
 cases v
 case junk => trivial
 case undef => exact hr
 case tup vs =>
  obtain ⟨xs, hx, hl, hv⟩ := hr
  refine ⟨xs, hx, by simpa using hl, fun i h1 h2 => ?_⟩
  simp only [List.length_map] at h1
  simp only [List.getElem_map]
  exact aRg he (hv i h1 h2) (hj vs rfl _ (List.getElem_mem h1))
 all_goals exact main _ (by simp) (by simp) (by simp) hr
theorem Good.rebase (hg : Good M w0 c h w) {m : Nat} (hm : m ≤ c.n) : Good ⟨fun b => ∃ i o, h[i]? = some o ∧ fN c i o b, c.S, m, c.hd⟩ w c h w :=
 ⟨hg.n, .refl _ _, hg.sfin, fun b hb _ => .inl hb, hg.objs, fun i o b ho hb => ⟨.inr ⟨i, o, ho, hb⟩, (hg.own i o b ho hb).2⟩, hg.sep, hm, fun _ _ => rfl⟩
end
end Go.Vc
namespace Go.Vc
open Go.RowKit
theorem aEv : ∀ (l : List (Nat × Obj)) (h : List Obj), (aDg l h).length = h.length
 | [], h => rfl
 | (i, o) :: r, h => by rw [aDg, aEv r]; simp
theorem aJs : ∀ (l : List (Nat × Obj)) (h : List Obj) (i : Nat), (∀ p ∈ l, p.1 ≠ i) → (aDg l h)[i]? = h[i]?
 | [], h, i, _ => rfl
 | (j, o) :: r, h, i, hn => by
  rw [aDg, aJs r _ i (fun p hp => hn p (by simp [hp])), List.getElem?_set_ne (hn (j, o) (by simp))]
theorem aRh : ∀ (l : List (Nat × Obj)) (h : List Obj), (l.map (·.1)).Nodup → (∀ p ∈ l, p.1 < h.length) → ∀ p ∈ l, (aDg l h)[p.1]? = some p.2
 | [], h, _, _, p, hp => by cases hp
 | (j, o) :: r, h, hd, hl, p, hp => by
  simp only [List.map_cons, List.nodup_cons] at hd
  rcases List.mem_cons.1 hp with rfl | hp
  ·have : j < h.length := hl (j, o) (by simp)
   rw [aDg, aJs r _ j (fun q hq e => hd.1 (List.mem_map.2 ⟨q, hq, e⟩))]
   simp [this]
  ·rw [aDg]
   exact aRh r _ hd.2 (fun q hq => by rw [List.length_set]; exact hl q (by simp [hq])) p hp
section
variable {P : Program} {E : Env} {M : Perm} {w0 : World} {c c' : Ctx} {h h' : List Obj} {w w' : World}
def cN (c c' : Ctx) (m n' : Nat) (σ μ : List Nat) : Ctx := ⟨fun b => c.S b ∨ c'.S b, fun i => if i < c.n then c.hd i else c'.hd (m + (i - c.n)), c.n + (n' - m), fun i b => (i < c.n ∧ i ∉ σ ∧ c.bl i b) ∨ ∃ j : Nat, μ[j]? = some i ∧ c'.bl j b⟩
theorem aZT (c c' : Ctx) (m n' : Nat) (σ μ : List Nat) : c.le (cN c c' m n' σ μ) := ⟨fun b hb => .inl hb, Nat.le_add_right _ _, fun i hi => by simp [cN, hi]⟩
theorem Good.frame (hg : Good M w0 c h w) {σ : List Nat} {m : Nat} (hd : σ.Nodup) (hσ : ∀ i ∈ σ, i < h.length) (hm : m ≤ σ.length) {Ml : Perm} (hMr : Ml.rd = c.S) (hMw : ∀ b, Ml.wr b → ∃ i o, i ∈ σ ∧ h[i]? = some o ∧ fN c i o b) (hMm : Ml.m = m) (hMd : ∀ j, j < m → Ml.roots j = c.hd (σ.getD j 0))
  (hg' : Good Ml w c' h' w') : Good M w0 (cN c c' m h'.length σ (qN σ m h.length h'.length)) (aFL σ m h h') w' ∧ dZ c w (cN c c' m h'.length σ (qN σ m h.length h'.length)) w' ∧ Emb (qN σ m h.length h'.length) c' (cN c c' m h'.length σ (qN σ m h.length h'.length)) := by
 have hk := hg'.keeps
 have hroot := hg'.root
 rw [hMm] at hroot
 have hmn : m ≤ h'.length := by rw [← hg'.n]; exact hroot.1
 have hwrS : ∀ b, Ml.wr b → b < w.heap.size ∧ ¬ c.S b ∧ (w0.heap.size ≤ b ∨ M.wr b) := fun b hb => by
  obtain ⟨i, o, hi, ho, hob⟩ := hMw b hb
  obtain ⟨h1, h2, h3⟩ := hg.own i o b ho hob
  exact ⟨h2, h3, h1⟩
 have hlS : zK c.S w w' := fun b hb => hk.block b (hg.sfin b hb) (fun hw => (hwrS b hw).2.1 hb)
 have hl : dZ c w (cN c c' m h'.length σ (qN σ m h.length h'.length)) w' := ⟨aZT _ _ _ _ _ _, hlS⟩
 have hmu : ∀ j i, (qN σ m h.length h'.length)[j]? = some i → (j < m ∧ i = σ.getD j 0 ∧ i < h.length ∧ i ∈ σ) ∨ (m ≤ j ∧ i = h.length + (j - m) ∧ j < h'.length) := fun j i hj => by
  unfold qN at hj
  have hlt : (σ.take m).length = m := by rw [List.length_take]; omega
  by_cases hjm : j < m
  ·rw [List.getElem?_append_left (by rw [hlt]; exact hjm), List.getElem?_take, if_pos hjm] at hj
   have hmem := List.mem_of_getElem? hj
   exact .inl ⟨hjm, by simp [List.getD_eq_getElem?_getD, hj], hσ i hmem, hmem⟩
  ·rw [List.getElem?_append_right (by rw [hlt]; omega), hlt] at hj
   obtain ⟨hlt', e⟩ := List.getElem?_eq_some_iff.1 hj
   simp only [List.length_range'] at hlt'
   rw [List.getElem_range'] at e
   exact .inr ⟨by omega, by omega, by omega⟩
 have hhd : ∀ j i, (qN σ m h.length h'.length)[j]? = some i → i < (cN c c' m h'.length σ (qN σ m h.length h'.length)).n ∧ (cN c c' m h'.length σ (qN σ m h.length h'.length)).hd i = c'.hd j := fun j i hj => by
  rcases hmu j i hj with ⟨h1, h2, h3, _⟩ | ⟨h1, h2, h3⟩
  ·refine ⟨by simp only [cN]; rw [hg.n]; omega, ?_⟩
   simp only [cN, hg.n, h3, if_true]
   rw [hroot.2 j h1, hMd j h1, h2]
  ·refine ⟨by simp only [cN]; rw [hg.n]; omega, ?_⟩
   simp only [cN, hg.n]
   rw [if_neg (by omega), h2]
   congr 1; omega
 have hbli : ∀ i, i < h.length → i ∉ σ → (cN c c' m h'.length σ (qN σ m h.length h'.length)).bl i = c.bl i := fun i hi hn => by
  funext b
  refine propext ⟨?_, fun hb => .inl ⟨by rw [hg.n]; exact hi, hn, hb⟩⟩
  rintro (⟨_, _, hb⟩ | ⟨j, hj, _⟩)
  ·exact hb
  ·rcases hmu j i hj with ⟨_, _, _, q⟩ | ⟨_, q, _⟩
   ·exact absurd q hn
   ·omega
 have hnd : ∀ i j k : Nat, i < m → j < m → σ[i]? = some k → σ[j]? = some k → i = j := fun i j k hi hj h1 h2 => by
  obtain ⟨q1, _⟩ := List.getElem?_eq_some_iff.1 h1
  exact (List.getElem?_inj q1 hd).1 (h1.trans h2.symm)
 have hblj : ∀ j i, (qN σ m h.length h'.length)[j]? = some i → (cN c c' m h'.length σ (qN σ m h.length h'.length)).bl i = c'.bl j := fun j i hj => by
  funext b
  refine propext ⟨?_, fun hb => .inr ⟨j, hj, hb⟩⟩
  rintro (⟨q1, q2, _⟩ | ⟨j2, hj2, hb⟩)
  ·rcases hmu j i hj with ⟨_, _, _, q⟩ | ⟨_, q, _⟩
   ·exact absurd q q2
   ·rw [hg.n] at q1; omega
  ·have e : j2 = j := by
    have hget : ∀ x, x < m → (qN σ m h.length h'.length)[x]? = some i → σ[x]? = some i := fun x hx h1 => by
     unfold qN at h1
     rwa [List.getElem?_append_left (by rw [List.length_take]; omega), List.getElem?_take, if_pos hx] at h1
    rcases hmu j i hj with ⟨p1, p2, p3, p4⟩ | ⟨p1, p2, p3⟩ <;> rcases hmu j2 i hj2 with ⟨r1, r2, r3, r4⟩ | ⟨r1, r2, r3⟩
    ·exact hnd _ _ i r1 p1 (hget _ r1 hj2) (hget _ p1 hj)
    ·omega
    ·omega
    ·omega
   rw [← e]; exact hb
 have hemb : Emb (qN σ m h.length h'.length) c' (cN c c' m h'.length σ (qN σ m h.length h'.length)) := ⟨fun b hb => .inr hb, hhd⟩
 have hcase : ∀ i o, (aFL σ m h h')[i]? = some o → (i ∉ σ ∧ h[i]? = some o) ∨ o = .dead ∨ ∃ j oj, h'[j]? = some oj ∧ (qN σ m h.length h'.length)[j]? = some i ∧ o = aPc (qN σ m h.length h'.length) oj := fun i o ho => by
  unfold aFL at ho
  have hlen : (aDg ((σ.take m).zip ((h'.take m).map (aPc (qN σ m h.length h'.length)))) (oA (σ.drop m) h)).length = h.length := by rw [aEv, nK]
  have hmul : (qN σ m h.length h'.length).length = h'.length := by
   unfold qN; simp [List.length_take]; omega
  rcases Nat.lt_or_ge i h.length with hi | hi
  ·rw [List.getElem?_append_left (by rw [hlen]; exact hi)] at ho
   by_cases hin : ∃ j, j < m ∧ σ[j]? = some i
   ·obtain ⟨j, hj, hji⟩ := hin
    have hjh : j < h'.length := by omega
    have hmem : (i, aPc (qN σ m h.length h'.length) h'[j]) ∈ (σ.take m).zip ((h'.take m).map (aPc (qN σ m h.length h'.length))) := by
     refine List.mem_iff_getElem?.2 ⟨j, ?_⟩
     rw [List.getElem?_zip_eq_some]
     refine ⟨by rw [List.getElem?_take, if_pos hj]; exact hji, ?_⟩
     rw [List.getElem?_map, List.getElem?_take, if_pos hj, List.getElem?_eq_getElem hjh]; rfl
    have := aRh _ (oA (σ.drop m) h) (by
     have : ((σ.take m).zip ((h'.take m).map (aPc (qN σ m h.length h'.length)))).map (·.1) = σ.take m := by
      rw [List.map_fst_zip]; simp [List.length_take]; omega
     rw [this]; exact hd.sublist (List.take_sublist _ _)) (fun p hp => by
     rw [nK]
     have := (List.of_mem_zip hp).1
     exact hσ _ (List.mem_of_mem_take this)) _ hmem
    simp only at this
    rw [this] at ho
    cases ho
    refine .inr (.inr ⟨j, h'[j], List.getElem?_eq_getElem hjh, ?_, rfl⟩)
    unfold qN
    rw [List.getElem?_append_left (by rw [List.length_take]; omega), List.getElem?_take, if_pos hj]; exact hji
   ·rw [aJs _ _ i (fun p hp e => by
     have := (List.of_mem_zip hp).1
     rw [e] at this
     obtain ⟨j, hj, hji⟩ := List.mem_take_iff_getElem.1 this
     exact hin ⟨j, by omega, by rw [List.getElem?_eq_getElem (by omega), hji]⟩)] at ho
    by_cases hdrop : i ∈ σ.drop m
    ·exact .inr (.inl (aCu _ _ i o hdrop ho))
    ·rw [aBF _ _ i hdrop] at ho
     refine .inl ⟨fun hmem => ?_, ho⟩
     rw [← List.take_append_drop m σ] at hmem
     rcases List.mem_append.1 hmem with hmem | hmem
     ·obtain ⟨j, hj, hji⟩ := List.mem_take_iff_getElem.1 hmem
      exact hin ⟨j, by omega, by rw [List.getElem?_eq_getElem (by omega), hji]⟩
     ·exact hdrop hmem
  ·rw [List.getElem?_append_right (by rw [hlen]; exact hi), hlen, List.getElem?_map, List.getElem?_drop] at ho
   cases hoj : h'[m + (i - h.length)]? with
   | none => rw [hoj] at ho; simp at ho
   | some oj =>
    rw [hoj] at ho
    simp only [Option.map_some, Option.some.injEq] at ho
    have hjl := mN hoj
    refine .inr (.inr ⟨m + (i - h.length), oj, hoj, ?_, ho.symm⟩)
    unfold qN
    rw [List.getElem?_append_right (by rw [List.length_take]; omega), List.length_take, Nat.min_eq_left hm, List.getElem?_range' (by omega)]
    congr 1; omega
 have hobj : ∀ j oj i, h'[j]? = some oj → (qN σ m h.length h'.length)[j]? = some i → aFv (cN c c' m h'.length σ (qN σ m h.length h'.length)) w' i (aPc (qN σ m h.length h'.length) oj) := fun j oj i hj hi => by
  have hr := hg'.objs j oj hj
  have hS : c'.le ⟨(cN c c' m h'.length σ (qN σ m h.length h'.length)).S, c'.hd, c'.n, c'.bl⟩ := ⟨hemb.S, Nat.le_refl _, fun _ _ => rfl⟩
  have e := (hhd j i hi).2
  cases oj with
  | dead => trivial
  | box n v =>
   obtain ⟨b, cells, et, q1, q2, q3, q4⟩ := hr
   exact ⟨b, cells, et, by rw [e]; exact q1, q2, q3, aJr hemb q4⟩
  | row et t xs =>
   obtain ⟨vals, q1, q2⟩ := hr
   exact ⟨vals, by rw [e]; exact q1, bE.keep hemb.S (.refl _ _) _ _ _ q2⟩
  | frz t xs =>
   show bE _ _ _ _ _
   rw [e]
   exact bE.keep hemb.S (.refl _ _) _ _ _ hr
  | map k v mm =>
   obtain ⟨b, es, clock, q1, q2, q3, q4⟩ := hr
   exact ⟨b, es, clock, by rw [e]; exact q1, q2, q3, fun x h1 h2 => ⟨(q4 x h1 h2).1.keep hemb.S (.refl _ _), (q4 x h1 h2).2.keep hemb.S (.refl _ _)⟩⟩
  | tre et mk t xs =>
   obtain ⟨B, q1, q2, q3⟩ := hr
   exact ⟨B, by rw [e]; exact kT.keep hemb.S (.refl _ _) _ _ _ _ _ (fun _ _ => rfl) q1, q2, by rw [hblj j i hi]; exact q3⟩
  | trh et mk t xs k v =>
   obtain ⟨css, Bs, q⟩ := hr
   exact ⟨css, Bs, ⟨by rw [e]; exact q.row, q.lc, q.lb, q.kl, fun x h h1 h2 hne => kT.keep hemb.S (.refl _ _) _ _ _ _ _ (fun _ _ => rfl) (q.el x h h1 h2 hne), q.hb, fun h1 => ⟨aJr hemb (q.hv h1).1, (q.hv h1).2⟩, by rw [e]; exact q.nd, by rw [e, hblj j i hi]; exact q.bl⟩⟩
 have hown : ∀ j oj i b, h'[j]? = some oj → (qN σ m h.length h'.length)[j]? = some i → fN (cN c c' m h'.length σ (qN σ m h.length h'.length)) i (aPc (qN σ m h.length h'.length) oj) b → fN c' j oj b := fun j oj i b hj hi hb => by
  have e := (hhd j i hi).2
  have e2 := hblj j i hi
  cases oj <;> simp only [fN, aPc, e, e2] at hb ⊢ <;> exact hb
 have hfar : ∀ i o b j oj, i ∉ σ → h[i]? = some o → fN c i o b → h'[j]? = some oj → ¬ fN c' j oj b := fun i o b j oj hi ho hb hj e => by
  have h1 := (hg.own i o b ho hb).2.1
  rcases (hg'.own j oj b hj e).1 with h2 | h2
  ·omega
  ·obtain ⟨i', o', hi', ho', hb'⟩ := hMw b h2
   exact hi (hg.sep i i' o o' b ho ho' hb hb' ▸ hi')
 have hfarS : ∀ i o b, i ∉ σ → h[i]? = some o → fN c i o b → ¬ c'.S b := fun i o b hi ho hb hS => by
  have h1 := (hg.own i o b ho hb).2
  rcases hg'.src b hS h1.1 with h2 | h2
  ·rw [hMr] at h2; exact h1.2 h2
  ·obtain ⟨i', o', hi', ho', hb'⟩ := hMw b h2
   exact hi (hg.sep i i' o o' b ho ho' hb hb' ▸ hi')
 refine ⟨⟨?_, ⟨hk.os.trans hg.keeps.os, hk.tape.trans hg.keeps.tape, hk.output.trans hg.keeps.output, Nat.le_trans hg.keeps.size hk.size, fun b hb hM => ?_⟩, fun b hb => ?_, fun b hb hlt => ?_, fun i o ho => ?_, fun i o b ho hb => ?_, fun i k oi ok b hi hk' hbi hbk => ?_, zL hg.root hl.le⟩, hl, hemb⟩
 ·unfold aFL cN
  simp only [List.length_append, aEv, nK, List.length_map, List.length_drop, hg.n]
 ·have hbw : b < w.heap.size := Nat.lt_of_lt_of_le hb hg.keeps.size
  rw [hk.block b hbw (fun hw => ?_)]
  ·exact hg.keeps.block b hb hM
  ·rcases (hwrS b hw).2.2 with h1 | h1
   ·omega
   ·exact hM h1
 ·rcases hb with hb | hb
  ·exact Nat.lt_of_lt_of_le (hg.sfin b hb) hk.size
  ·exact hg'.sfin b hb
 ·rcases hb with hb | hb
  ·exact hg.src b hb hlt
  ·rcases hg'.src b hb (Nat.lt_of_lt_of_le hlt hg.keeps.size) with h1 | h1
   ·rw [hMr] at h1; exact hg.src b h1 hlt
   ·rcases (hwrS b h1).2.2 with h2 | h2
    ·omega
    ·exact .inr h2
 ·rcases hcase i o ho with ⟨hi, ho⟩ | rfl | ⟨j, oj, hj, hij, rfl⟩
  ·exact (hg.objs i o ho).keep hl (by rw [hg.n]; exact mN ho) (hbli i (mN ho) hi) (fun b hb => hk.block b (hg.own i o b ho hb).2.1 (fun hw => by
    obtain ⟨i', o', hi', ho', hb'⟩ := hMw b hw
    exact hi (hg.sep i i' o o' b ho ho' hb hb' ▸ hi')))
  ·trivial
  ·exact hobj j oj i hj hij
 ·rcases hcase i o ho with ⟨hi, ho⟩ | rfl | ⟨j, oj, hj, hij, rfl⟩
  ·rw [gK hl.le (hbli i (mN ho) hi) (by rw [hg.n]; exact mN ho)] at hb
   obtain ⟨h1, h2, h3⟩ := hg.own i o b ho hb
   refine ⟨h1, Nat.lt_of_lt_of_le h2 hk.size, fun hS => ?_⟩
   rcases hS with hS | hS
   ·exact h3 hS
   ·exact hfarS i o b hi ho hb hS
  ·cases hb
  ·have hb := hown j oj i b hj hij hb
   obtain ⟨h1, h2, h3⟩ := hg'.own j oj b hj hb
   refine ⟨?_, h2, fun hS => ?_⟩
   ·rcases h1 with h1 | h1
    ·exact .inl (Nat.le_trans hg.keeps.size h1)
    ·exact (hwrS b h1).2.2
   ·rcases hS with hS | hS
    ·rcases h1 with h1 | h1
     ·have := hg.sfin b hS; omega
     ·exact (hwrS b h1).2.1 hS
    ·exact h3 hS
 ·rcases hcase i oi hi with ⟨hi, ho⟩ | rfl | ⟨j, oj, hj, hij, rfl⟩
  ·rw [gK hl.le (hbli i (mN ho) hi) (by rw [hg.n]; exact mN ho)] at hbi
   rcases hcase k ok hk' with ⟨hk2, ho2⟩ | rfl | ⟨j2, oj2, hj2, hij2, rfl⟩
   ·rw [gK hl.le (hbli k (mN ho2) hk2) (by rw [hg.n]; exact mN ho2)] at hbk
    exact hg.sep i k oi ok b ho ho2 hbi hbk
   ·cases hbk
   ·exact absurd (hown j2 oj2 k b hj2 hij2 hbk) (hfar i oi b j2 oj2 hi ho hbi hj2)
  ·cases hbi
  ·have hbi := hown j oj i b hj hij hbi
   rcases hcase k ok hk' with ⟨hk2, ho2⟩ | rfl | ⟨j2, oj2, hj2, hij2, rfl⟩
   ·rw [gK hl.le (hbli k (mN ho2) hk2) (by rw [hg.n]; exact mN ho2)] at hbk
    exact absurd hbi (hfar k ok b j oj hk2 ho2 hbk hj)
   ·cases hbk
   ·have hbk := hown j2 oj2 k b hj2 hij2 hbk
    have := hg'.sep j j2 oj oj2 b hj hj2 hbi hbk
    subst this
    rw [hij] at hij2
    cases hij2; rfl
end
end Go.Vc
namespace Go.Vc
open Go.RowKit
structure Hit where
 sp : gH
 σ : List Nat
 d : sp.D
def aLO (h : List Obj) (σ : List Nat) : List AV → List AV → Prop
 | [], [] => True
 | v :: r, .val t x :: r' => AV.as (h.map gB) t v = some x ∧ aLO h σ r r'
 | v :: r, u :: r' => ren σ v = u ∧ aLO h σ r r'
 | _, _ => False
def aY2 (n : Nat) (σ : List Nat) : Bool := σ.all fun i => decide (i < n)
def cZ : AV → Bool
 | .junk => false
 | _ => true
def aZw (μ : List Nat) : AV → Bool
 | .tup vs => vs.all fun u => cZ (aEZ μ u)
 | _ => true
def aPe (h : List Obj) (vs : List AV) (t : Hit) : Prop :=
 nodupB t.σ = true ∧ aY2 h.length t.σ = true ∧ t.sp.m ≤ t.σ.length ∧ aLO h t.σ vs (t.sp.av t.d) ∧ t.σ.map (fun i => dI t.σ (h.getD i .dead)) = t.sp.hp t.d ∧ t.sp.pre t.d
def aVL (o : aZu) (k : AV → List Obj → Prop) (kp : Pan → List Obj → Prop) : Prop :=
 match o with
 | .ret v h => k v h
 | .pan p h => kp p h
theorem aWR (v : AV) (h : List Obj) (k : AV → List Obj → Prop) (kp : Pan → List Obj → Prop) : aVL (.ret v h) k kp = k v h := rfl
theorem aWS (p : Pan) (h : List Obj) (k : AV → List Obj → Prop) (kp : Pan → List Obj → Prop) : aVL (.pan p h) k kp = kp p h := rfl
theorem aWT (c : Prop) [Decidable c] (a b : aZu) (k : AV → List Obj → Prop) (kp : Pan → List Obj → Prop) : aVL (if c then a else b) k kp = ((c → aVL a k kp) ∧ (¬ c → aVL b k kp)) := by
 by_cases h : c <;> simp [h]
def aE0 (G : Nat → AV) (env : St) (h : List Obj) (o : Oper) : Option (FuncId × List AV) :=
 match o.op with
 | .call c => match c.callee with
  | .value x => match evA G env x with
   | .fn f [] l2 => if aEt h l2 = true then some (f, c.args.toList.map (evA G env) ++ l2.map fun i => .ptr i []) else none
   | .fn f (i :: l1) l2 => if aEt h (i :: l1) = true ∧ aEt h l2 = true then some (f, ((i :: l1).map fun i => .ptr i []) ++ (c.args.toList.map (evA G env) ++ l2.map fun i => .ptr i [])) else none
   | .val (.clo g t) y => if tF t = true then some (g, c.args.toList.map (evA G env) ++ zO t y) else none
   | _ => none
  | _ => none
 | _ => none
def aUX (Δ : FuncId → List AV → List Obj → Option Hit) (h : List Obj) : Option (FuncId × List AV) → Option Hit
 | some (f, vs) => Δ f vs h
 | none => none
def aTX : Option (FuncId × List AV) → List AV
 | some (_, vs) => vs
 | none => []
def aRi (G : Nat → AV) (env : St) (o : Oper) : Option Pan :=
 match o.op with
 | .call c => match c.callee with
  | .builtin .panic => match c.args.toList with
   | [x] => match evA G env x with
    | .val (.ifc k t) d => some ⟨k, t, d⟩
    | _ => none
   | _ => none
  | _ => none
 | .panic x => match evA G env x with
  | .val (.ifc k t) d => some ⟨k, t, d⟩
  | _ => none
 | _ => none
def aLP (T : Tab) (h : List Obj) (t : TypeId) (x : AV) (lo hi : Option AV) : Prop × AV :=
 match x with
 | .own i => match h[i]? with
  | some (.row _ c xs) => match (lo.map aBy).getD (some 0), (hi.map aBy).getD (some (xs.length : Int)) with
   | some l, some u => (T t = some (.sl c) ∧ 0 ≤ l ∧ l < u ∧ u ≤ (xs.length : Int), .sub i c.cells l.toNat (u - l).toNat)
   | _, _ => (False, .junk)
  | _ => (False, .junk)
 | .ptr i [] => match h[i]? with
  | some (.box _ (.val (.arr n c) _)) => match (lo.map aBy).getD (some 0), (hi.map aBy).getD (some (n : Int)) with
   | some l, some u => (T t = some (.arr n c) ∧ 0 ≤ l ∧ l < u ∧ u ≤ (n : Int), .sub i c.cells l.toNat (u - l).toNat)
   | _, _ => (False, .junk)
  | _ => (False, .junk)
 | _ => (False, .junk)
noncomputable def aRj (E : Env) (sb : List Nat) (env : St) (h : List Obj) (o : Oper) : Prop × AV × List Obj :=
 match o.op, o.dst with
 | .slice t x lo hi none, some d => bif sb.contains d then ((aLP E.T h t (evA E.G env x) (lo.map (evA E.G env)) (hi.map (evA E.G env))).1, (aLP E.T h t (evA E.G env x) (lo.map (evA E.G env)) (hi.map (evA E.G env))).2, h) else wD E env h o
 | _, _ => wD E env h o
def aMZ (E : Env) (Δ : FuncId → List AV → List Obj → Option Hit) (sb : List Nat) (env : St) (h : List Obj) (o : Oper) (k : AV → List Obj → Prop) (kp : Pan → List Obj → Prop) : Prop :=
 match aUX Δ h (aE0 E.G env h o) with
 | some t => aPe h (aTX (aE0 E.G env h o)) t ∧ aVL (t.sp.out t.d) (fun v h' => aZw (qN t.σ t.sp.m h.length h'.length) v = true ∧ k (emb (qN t.σ t.sp.m h.length h'.length) v) (aFL t.σ t.sp.m h h')) (fun p h' => kp p (aFL t.σ t.sp.m h h'))
 | none => match aRi E.G env o with
  | some p => kp p h
  | none => match aRj E sb env h o with
   | (p, v, h') => p ∧ k v h'
def aGW (E : Env) (Δ : FuncId → List AV → List Obj → Option Hit) (sb : List Nat) (all : List Oper) : List Oper → St → List Obj → (St → List Obj → Prop) → (Pan → St → List Obj → Prop) → Prop
 | [], env, h, K, _ => K env h
 | o :: r, env, h, K, Kp => match o.guard with
  | none => aMZ E Δ sb env h o (fun v h' => aGW E Δ sb all r (wT o.dst v env) h' K Kp) (fun p h' => Kp p env h')
  | some (j, pol) => match aIN all j with
   | some dj => match look env dj with
    | .val .bool b => (b = pol → aMZ E Δ sb env h o (fun v h' => aGW E Δ sb all r (wT o.dst v env) h' K Kp) (fun p h' => Kp p env h')) ∧ (b = !pol → aGW E Δ sb all r (wT o.dst .undef env) h K Kp)
    | .undef => aGW E Δ sb all r (wT o.dst .undef env) h K Kp
    | _ => False
   | none => False
structure aEw (P : Program) (G : Nat → AV) (Δ : FuncId → List AV → List Obj → Option Hit) : Prop where
 ok : ∀ f vs h t, Δ f vs h = some t → GOK P G f t.sp
 fn : ∀ f vs h t, Δ f vs h = some t → ∃ fn, P.funcs[f]? = some fn ∧ fn.name ≠ "runtime.NumGoroutine" ∧ fn.body.isSome = true
section
variable {P : Program} {E : Env} {M : Perm} {w0 : World} {c : Ctx} {h : List Obj} {w : World}
theorem aOA : ∀ {l : List Nat}, nodupB l = true → l.Nodup
 | [], _ => List.nodup_nil
 | i :: r, h => by
  simp only [nodupB, Bool.and_eq_true, Bool.not_eq_true'] at h
  refine List.nodup_cons.2 ⟨fun hm => ?_, aOA h.2⟩
  have hc : r.contains i = true := by simpa using hm
  rw [h.1] at hc
  cases hc
theorem aRk (hg : Good M w0 c h w) {σ : List Nat} : ∀ {vs us : List AV} {xs : List Value}, aLO h σ vs us → vs.length = xs.length → (∀ i (h1 : i < vs.length) (h2 : i < xs.length), aX c w vs[i] xs[i]) →
  xs.length = us.length ∧ ∀ i (h1 : i < us.length) (h2 : i < xs.length), aX (c.ren σ) w us[i] xs[i]
 | [], [], [], _, _, _ => ⟨rfl, fun i h1 => by simp at h1⟩
 | v :: r, u :: r', x :: xs, hf, hl, hv => by
  have h0 := hv 0 (by simp) (by simp)
  simp only [List.getElem_cons_zero] at h0
  have key : aX (c.ren σ) w u x ∧ aLO h σ r r' := by
   cases u with
   | val t d =>
    obtain ⟨h1, h2⟩ := hf
    exact ⟨aX.ofV (vF hg h0 h1), h2⟩
   | _ =>
    obtain ⟨h1, h2⟩ := hf
    exact ⟨h1 ▸ aOz h0, h2⟩
  obtain ⟨q1, q2⟩ := aRk hg key.2 (by simpa using hl) (fun i h1 h2 => by have := hv (i + 1) (by simpa using h1) (by simpa using h2); simpa using this)
  refine ⟨by simp [q1], fun i h1 h2 => ?_⟩
  cases i with
  | zero => exact key.1
  | succ i => exact q2 i (by simpa using h1) (by simpa using h2)
def aZU (M : Perm) (w0 : World) (c : Ctx) (h : List Obj) (w : World) (t : Hit) (e : Ending) (w' : World) : Prop :=
 ∃ cN, dZ c w cN w' ∧ match t.sp.out t.d with
  | .ret v h' => ∃ u, e = .returned u ∧ Good M w0 cN (aFL t.σ t.sp.m h h') w' ∧ (aZw (qN t.σ t.sp.m h.length h'.length) v = true → aX cN w' (emb (qN t.σ t.sp.m h.length h'.length) v) u)
  | .pan p h' => ∃ u, e = .panicked (aQs p.k u) ∧ Good M w0 cN (aFL t.σ t.sp.m h h') w' ∧ dF w' cN.S p.t p.x u
theorem aRl {C : (Ending → World → Prop) → Prop} (hC : ∀ R R' : Ending → World → Prop, C R → (∀ e w', R e w' → R' e w') → C R') {G : Nat → AV} {t : Hit} {vs : List AV} {xs : Array Value} (hok : t.sp.pre t.d → GIn G t.sp (c.ren t.σ) w t.d xs.toList → C (aLN t.sp (c.ren t.σ) w t.d)) (hg : Good M w0 c h w) (hG : qM G c.S w) (hl : vs.length = xs.size) (hv : ∀ i (h1 : i < vs.length) (h2 : i < xs.toList.length), aX c w vs[i] xs.toList[i]) (hh : aPe h vs t) :
  C (aZU M w0 c h w t) := by
 obtain ⟨h1, h2, h3, h4, h5, h6⟩ := hh
 have hσ : ∀ i ∈ t.σ, i < h.length := fun i hi => by
  have := List.all_eq_true.1 h2 i hi
  simpa using this
 have g0 := hg.rebase (m := 0) (Nat.zero_le _)
 have g1 := g0.ren (σ := t.σ) h1 (by rfl)
 have hcn : (c.ren t.σ).n = t.σ.length := rfl
 have g2 := g1.rebase (m := t.sp.m) (by rw [hcn]; exact h3)
 rw [h5] at g2
 obtain ⟨q1, q2⟩ := aRk (xs := xs.toList) hg h4 (by simpa using hl) hv
 have hin : GIn G t.sp (c.ren t.σ) w t.d xs.toList := ⟨g2, hG, q1, q2⟩
 refine hC _ _ (hok h6 hin) ?_
 rintro e w' ⟨c', hend⟩
 have hfr : ∀ h', Good (GM t.sp (c.ren t.σ) t.d) w c' h' w' → Good M w0 (Vc.cN c c' t.sp.m h'.length t.σ (qN t.σ t.sp.m h.length h'.length)) (aFL t.σ t.sp.m h h') w' ∧ dZ c w (Vc.cN c c' t.sp.m h'.length t.σ (qN t.σ t.sp.m h.length h'.length)) w' ∧ Emb (qN t.σ t.sp.m h.length h'.length) c' (Vc.cN c c' t.sp.m h'.length t.σ (qN t.σ t.sp.m h.length h'.length)) := fun h' hg' =>
  hg.frame (aOA h1) hσ h3 (Ml := GM t.sp (c.ren t.σ) t.d) rfl (fun b hb => by
   obtain ⟨j, o', ho, hob⟩ := hb
   rw [← h5, List.getElem?_map] at ho
   cases hj : t.σ[j]? with
   | none => rw [hj] at ho; cases ho
   | some i =>
    rw [hj] at ho
    simp only [Option.map_some, Option.some.injEq] at ho
    subst ho
    rw [aKi hj] at hob
    have hi := hσ i (List.mem_of_getElem? hj)
    exact ⟨i, h[i], List.mem_of_getElem? hj, List.getElem?_eq_getElem hi, by simpa [List.getD_eq_getElem?_getD, hi] using hob⟩) rfl (fun j _ => rfl) hg'
 cases hout : t.sp.out t.d with
 | ret v h' =>
  rw [hout] at hend
  obtain ⟨u, rfl, hg', hu⟩ := hend
  obtain ⟨f1, f2, f3⟩ := hfr h' hg'
  refine ⟨_, f2, ?_⟩
  rw [hout]
  refine ⟨u, rfl, f1, fun hb => aYj f3 hu fun vs hvs a ha => ?_⟩
  subst hvs
  have := List.all_eq_true.1 hb a ha
  intro hj
  rw [hj] at this
  cases this
 | pan p h' =>
  rw [hout] at hend
  obtain ⟨u, rfl, hg', hu⟩ := hend
  obtain ⟨f1, f2, f3⟩ := hfr h' hg'
  refine ⟨_, f2, ?_⟩
  rw [hout]
  exact ⟨u, rfl, f1, hu.keep f3.S (.refl _ _)⟩
theorem aWU {G : Nat → AV} {f : FuncId} {t : Hit} (hok : GOK P G f t.sp) (hg : Good M w0 c h w) (hG : qM G c.S w) {vs : List AV} {xs : Array Value} (hl : vs.length = xs.size) (hv : ∀ i (h1 : i < vs.length) (h2 : i < xs.toList.length), aX c w vs[i] xs.toList[i]) (hh : aPe h vs t) :
  Calls P f xs w (aZU M w0 c h w t) :=
 aRl (C := Calls P f xs w) (fun R R' h k => h.mono k) (fun hp hin => hok _ _ _ _ hp hin) hg hG hl hv hh
def AtP (F : Fr) (Q : Exit → Act → World → Prop) (p : Pan) (env : St) (h : List Obj) : Prop :=
 ∀ c a w u, Sim F.E F.M F.w0 F.nt F.ds c env h a w → dF w c.S p.t p.x u → Q (.panic (aQs p.k u)) a w
theorem aWV {f : FuncId} {l1 l2 : List Nat} {v : Value} (hv : aX c w (.fn f l1 l2) v) : (∀ i ∈ l1, i < c.n) ∧ (∀ i ∈ l2, i < c.n) ∧ v = .func (.func f) (l1.map c.hd).toArray (l2.map c.hd).toArray := by
 obtain ⟨h1, _, h3⟩ := hv
 have h3 := h3 rfl
 simp only [aN] at h1
 obtain ⟨h0, h2, h1⟩ := h1
 refine ⟨h0, h2, ?_⟩
 cases v <;> simp [Value.cells] at h1 h3
 obtain ⟨rfl, rfl, rfl⟩ := h1
 rfl
theorem aVM (hE : iE P E) {nt : Nat} {ds : List Deferred} {env : St} {a : Act} (hs : Sim E M w0 nt ds c env h a w) {o : Oper} (hok : gV nt o = true) {f : FuncId} {vs : List AV} (hc : aE0 E.G env h o = some (f, vs)) (hfn : ∃ fn, P.funcs[f]? = some fn ∧ fn.name ≠ "runtime.NumGoroutine" ∧ fn.body.isSome = true) :
  ∃ xs : Array Value, (execOp a.eval o).run P w = .ok (.enter f xs) w ∧ vs.length = xs.size ∧ ∀ i (h1 : i < vs.length) (h2 : i < xs.toList.length), aX c w vs[i] xs.toList[i] := by
 obtain ⟨dst, op, ty, pos, aft, gd⟩ := o
 unfold aE0 at hc
 split at hc
 ·rename_i cl hop
  simp only at hop
  subst hop
  obtain ⟨callee, args, argTypes⟩ := cl
  simp only at hc
  simp only [gV, Bool.and_eq_true] at hok
  have hall : ∀ x ∈ (Op.call ⟨callee, args, argTypes⟩).operands, nY x = true := Array.all_eq_true_iff_forall_mem.1 hok.1
  have hargs : ∀ x ∈ args.toList, aX c w (evA E.G env x) (a.eval x) := fun x hx => aC7 hs.env hs.glob (hall x (by
   simp only [Op.operands, Call.operands]
   exact Array.mem_append.2 (.inr (by simpa using hx))))
  have hav := aFE (ρ := evA E.G env) (a := a) (c := c) (w := w) hargs
  split at hc
  ·rename_i x
   have hx := aC7 hs.env hs.glob (hall x (by simp [Op.operands, Call.operands]))
   have fin : ∀ (g : FuncId) (fs us : List Value) (fv cv : List AV), a.eval x = .func (.func g) fs.toArray us.toArray → fs.length = fv.length → (∀ i (h1 : i < fv.length) (h2 : i < fs.length), aX c w fv[i] fs[i]) → us.length = cv.length → (∀ i (h1 : i < cv.length) (h2 : i < us.length), aX c w cv[i] us[i]) → f = g → vs = fv ++ (args.toList.map (evA E.G env) ++ cv) →
     ∃ xs : Array Value, (execOp a.eval ⟨dst, .call ⟨.value x, args, argTypes⟩, ty, pos, aft, gd⟩).run P w = .ok (.enter f xs) w ∧ vs.length = xs.size ∧ ∀ i (h1 : i < vs.length) (h2 : i < xs.toList.length), aX c w vs[i] xs.toList[i] := fun g fs us fv cv hf hfl hfv hul huv e1 e2 => by
    subst e1
    subst e2
    have app : ∀ {l1 l2 : List AV} {m1 m2 : List Value}, m1.length = l1.length → (∀ i (h1 : i < l1.length) (h2 : i < m1.length), aX c w l1[i] m1[i]) → (∀ i (h1 : i < l2.length) (h2 : i < m2.length), aX c w l2[i] m2[i]) → ∀ i (h1 : i < (l1 ++ l2).length) (h2 : i < (m1 ++ m2).length), aX c w (l1 ++ l2)[i] (m1 ++ m2)[i] := fun {l1 l2 m1 m2} hl k1 k2 i h1 h2 => by
     by_cases hi : i < l1.length
     ·rw [List.getElem_append_left hi, List.getElem_append_left (by omega)]
      exact k1 i hi (by omega)
     ·rw [List.getElem_append_right (by omega), List.getElem_append_right (by omega)]
      have := k2 (i - l1.length) (by simp at h1; omega) (by simp at h2; omega)
      simpa [hl] using this
    refine ⟨(fs ++ (args.toList.map a.eval ++ us)).toArray, ?_, by simp [hul, hfl], fun i h1 h2 => ?_⟩
    ·have hrun := aCt (P := P) (w := w) (args := (fs ++ (args.toList.map a.eval ++ us)).toArray) hfn
     have e2 : fs.toArray ++ args.map a.eval ++ us.toArray = (fs ++ (args.toList.map a.eval ++ us)).toArray := by rw [← Array.toList_inj]; simp
     simp only [execOp, resolve, Deferred.ofValue, hf, pure_bind]
     show ((invoke _ _).run P w) = _
     simp only [invoke]
     rw [e2]
     exact hrun
    ·exact app hfl hfv (app (by simp) hav huv) i (by simpa using h1) (by simpa using h2)
   split at hc
   ·rename_i g l2 hev
    split at hc
    ·rename_i hbx
     simp only [Option.some.injEq, Prod.mk.injEq] at hc
     rw [hev] at hx
     obtain ⟨h1, h2⟩ := aUM hx
     exact fin g [] (l2.map c.hd) [] (l2.map fun i => .ptr i []) h2 rfl (fun i h1 => by cases h1) (by simp) (aHp hs.good hbx h1) hc.1.symm hc.2.symm
    ·cases hc
   ·rename_i g i0 l1 l2 hev
    split at hc
    ·rename_i hbx
     simp only [Option.some.injEq, Prod.mk.injEq] at hc
     rw [hev] at hx
     obtain ⟨h1, h2, h3⟩ := aWV hx
     exact fin g ((i0 :: l1).map c.hd) (l2.map c.hd) ((i0 :: l1).map fun i => .ptr i []) (l2.map fun i => .ptr i []) h3 (by simp) (aHp hs.good hbx.1 h1) (by simp) (aHp hs.good hbx.2 h2) hc.1.symm hc.2.symm
    ·cases hc
   ·rename_i g t y hev
    split at hc
    ·rename_i hcp
     simp only [Option.some.injEq, Prod.mk.injEq] at hc
     rw [hev] at hx
     obtain ⟨us, h1, h2⟩ := aSH hx
     obtain ⟨k1, k2⟩ := aOS hcp h2
     exact fin g [] us [] (zO t y) h1 rfl (fun i h1 => by cases h1) k1 k2 hc.1.symm hc.2.symm
    ·cases hc
   ·cases hc
  ·cases hc
 ·cases hc
theorem aUY {nt : Nat} {ds : List Deferred} {env : St} {a : Act} (hs : Sim E M w0 nt ds c env h a w) {o : Oper} (hok : gV nt o = true) {p : Pan} (hc : aRi E.G env o = some p) :
  ∃ u, (execOp a.eval o).run P w = .halt (.panic (.iface p.k u)) w ∧ dF w c.S p.t p.x u := by
 obtain ⟨dst, op, ty, pos, aft, gd⟩ := o
 simp only [gV, Bool.and_eq_true] at hok
 unfold aRi at hc
 split at hc
 ·rename_i cl hop
  simp only at hop
  subst hop
  obtain ⟨callee, args, argTypes⟩ := cl
  simp only at hc
  have hall : ∀ x ∈ (Op.call ⟨callee, args, argTypes⟩).operands, nY x = true := Array.all_eq_true_iff_forall_mem.1 hok.1
  split at hc
  ·split at hc
   ·rename_i x hx
    split at hc
    ·rename_i k t d hev
     cases hc
     have hxm : x ∈ args.toList := by rw [hx]; simp
     have hv := aC7 hs.env hs.glob (hall x (by
      simp only [Op.operands, Call.operands]
      exact Array.mem_append.2 (.inr (by simpa using hxm))))
     rw [hev] at hv
     obtain ⟨u, hu, hr⟩ := aOU hv
     have e3 : args = #[x] := by rw [← Array.toList_inj]; exact hx
     refine ⟨u, ?_, hr⟩
     simp [execOp, resolve, invoke, builtin, e3, hu, Instr.panic, goPanic]
    ·cases hc
   ·cases hc
  ·cases hc
 ·rename_i x hop
  simp only at hop
  subst hop
  have hall : ∀ y ∈ (Op.panic x).operands, nY y = true := Array.all_eq_true_iff_forall_mem.1 hok.1
  split at hc
  ·rename_i k t d hev
   cases hc
   have hv := aC7 hs.env hs.glob (hall x (by simp [Op.operands]))
   rw [hev] at hv
   obtain ⟨u, hu, hr⟩ := aOU hv
   refine ⟨u, ?_, hr⟩
   simp [execOp, hu, Instr.panic, goPanic]
  ·cases hc
 ·cases hc
end
end Go.Vc
namespace Go.Vc
open Go.RowKit
section
variable {P : Program} {E : Env} {M : Perm} {w0 : World} {c : Ctx} {h : List Obj} {w : World}
theorem Sim.step {nt : Nat} {ds : List Deferred} {env : St} {a : Act} (hs : Sim E M w0 nt ds c env h a w) {h' : List Obj} {c' : Ctx} {w' : World} (hl : dZ c w c' w') (hg : Good M w0 c' h' w') : Sim E M w0 nt ds c' env h' a w' :=
 ⟨hg, hs.glob.mono hl.le.S hl.same, hs.env.keep hl, hs.size, hs.defers⟩
theorem aYk (hT : lD P E.T) (hg : Good M w0 c h w) {t : TypeId} {x : AV} {v : Value} {lo hi : Option AV} {lv hv : Option Value} (hx : aX c w x v) (hlo : aQo c w lo lv) (hhi : aQo c w hi hv) (hc : (aLP E.T h t x lo hi).1) :
  ∃ u, (Instr.sliceAt t v lv hv none).run P w = .ok u w ∧ aX c w (aLP E.T h t x lo hi).2 u := by
 unfold aLP at hc ⊢
 split at hc
 ·rename_i i
  split at hc
  ·rename_i e ct xs ho
   split at hc
   ·rename_i l u hl hu
    obtain ⟨ht, h0, h1, h2⟩ := hc
    obtain ⟨hi', rfl⟩ := aBg hx
    obtain ⟨vals, ⟨_, hv'⟩, _⟩ := hg.objs i _ ho
    obtain ⟨e', hd, he, hpos⟩ := gC (hT _ _ ht)
    rcases hv' with ⟨_, hz⟩ | ⟨g, cap, cur, hv0, _, _, hle, hcap, _⟩
    ·omega
    have hb : (Instr.sliceBounds true xs.length cap lv hv none).run P w = .ok (l.toNat, u.toNat, cap) w := by
     cases lo with
     | none =>
      cases lv with
      | some _ => cases hlo
      | none =>
       simp at hl
       subst hl
       cases hi with
       | none =>
        cases hv with
        | some _ => cases hhi
        | none =>
         simp at hu
         subst hu
         simp [Instr.sliceBounds]
       | some ha =>
        cases hv with
        | none => cases hhi
        | some hv =>
         simp at hu
         obtain ⟨k, rfl⟩ := (by cases hhi with | some hh => exact zP hh hu : ∃ k, hv = Value.int k u)
         simp [Instr.sliceBounds, gY (P := P) (w := w) (i := u) (y := cap) (by omega) (by omega)]
     | some la =>
      cases lv with
      | none => cases hlo
      | some lv =>
       simp at hl
       obtain ⟨k, rfl⟩ := (by cases hlo with | some hh => exact zP hh hl : ∃ k, lv = Value.int k l)
       cases hi with
       | none =>
        cases hv with
        | some _ => cases hhi
        | none =>
         simp at hu
         subst hu
         simp [Instr.sliceBounds, gY (P := P) (w := w) (i := l) (y := xs.length) (by omega) (by omega)]
       | some ha =>
        cases hv with
        | none => cases hhi
        | some hv =>
         simp at hu
         obtain ⟨k', rfl⟩ := (by cases hhi with | some hh => exact zP hh hu : ∃ k, hv = Value.int k u)
         simp [Instr.sliceBounds, gY (P := P) (w := w) (i := u) (y := cap) (by omega) (by omega), gY (P := P) (w := w) (i := l) (y := u.toNat) h0 (by omega)]
    have hne : ¬ cap = l.toNat := by omega
    refine ⟨.slice (some ⟨g, l.toNat * ct.cells, none⟩) (u.toNat - l.toNat) (cap - l.toNat), ?_, ?_⟩
    ·rw [hv0]
     simp [Instr.sliceAt, Instr.slice, bD hd, hb, fP (hT _ _ he), hne, Addr.add]
     exact Eq.symm
    ·refine ⟨?_, (fun h => by simp [AV.isAgg] at h), (fun _ cs => by simp)⟩
     simp only [aN]
     refine ⟨hi', by omega, g, cap - l.toNat, by rw [hv0]; rfl, ?_⟩
     simp [Value.cells]
     omega
   ·exact hc.elim
  ·exact hc.elim
 ·rename_i i
  split at hc
  ·rename_i m n ct xs ho
   split at hc
   ·rename_i l u hl hu
    obtain ⟨ht, h0, h1, h2⟩ := hc
    obtain ⟨hi', b, hb', rfl⟩ := aFB hx
    obtain ⟨e', hd, he, hpos, hn1, hn2⟩ := aC1 (hT _ _ ht)
    have hb : (Instr.sliceBounds false n n lv hv none).run P w = .ok (l.toNat, u.toNat, n) w := by
     cases lo with
     | none =>
      cases lv with
      | some _ => cases hlo
      | none =>
       simp at hl
       subst hl
       cases hi with
       | none =>
        cases hv with
        | some _ => cases hhi
        | none =>
         simp at hu
         subst hu
         simp [Instr.sliceBounds]
       | some ha =>
        cases hv with
        | none => cases hhi
        | some hv =>
         simp at hu
         obtain ⟨k, rfl⟩ := (by cases hhi with | some hh => exact zP hh hu : ∃ k, hv = Value.int k u)
         simp [Instr.sliceBounds, gY (P := P) (w := w) (i := u) (y := n) (by omega) (by omega)]
     | some la =>
      cases lv with
      | none => cases hlo
      | some lv =>
       simp at hl
       obtain ⟨k, rfl⟩ := (by cases hlo with | some hh => exact zP hh hl : ∃ k, lv = Value.int k l)
       cases hi with
       | none =>
        cases hv with
        | some _ => cases hhi
        | none =>
         simp at hu
         subst hu
         simp [Instr.sliceBounds, gY (P := P) (w := w) (i := l) (y := n) (by omega) (by omega)]
       | some ha =>
        cases hv with
        | none => cases hhi
        | some hv =>
         simp at hu
         obtain ⟨k', rfl⟩ := (by cases hhi with | some hh => exact zP hh hu : ∃ k, hv = Value.int k u)
         simp [Instr.sliceBounds, gY (P := P) (w := w) (i := u) (y := n) (by omega) (by omega), gY (P := P) (w := w) (i := l) (y := u.toNat) h0 (by omega)]
    have hne : ¬ n = l.toNat := by omega
    refine ⟨.slice (some ⟨b, l.toNat * ct.cells, none⟩) (u.toNat - l.toNat) (n - l.toNat), ?_, ?_⟩
    ·simp [Instr.sliceAt, Instr.sureAddr, bD hd, hb, fP (hT _ _ he), hne, Addr.add, nH]
     exact Eq.symm
    ·refine ⟨?_, (fun h => by simp [AV.isAgg] at h), (fun _ cs => by simp)⟩
     simp only [aN]
     refine ⟨hi', by simp only [maxLen]; omega, b, n - l.toNat, hb', ?_⟩
     simp [Value.cells]
     omega
   ·exact hc.elim
  ·exact hc.elim
 ·exact hc.elim
theorem aS0 (hE : iE P E) {sb : List Nat} {nt : Nat} {ds : List Deferred} {env : St} {a : Act} {o : Oper} (hs : Sim E M w0 nt ds c env h a w) (hok : gV nt o = true) (hc : (aRj E sb env h o).1) : aTT P M w0 c o a w (aRj E sb env h o).2.2 (aRj E sb env h o).2.1 := by
 unfold aRj at hc ⊢
 split at hc
 ·rename_i t x lo hi d hop hdst
  cases hsb : sb.contains d with
  | false =>
   simp only [hsb, cond_false] at hc ⊢
   exact aIu hE hs hok hc
  | true =>
   simp only [hsb, cond_true] at hc ⊢
   simp only [gV, Bool.and_eq_true] at hok
   have hall : ∀ x ∈ o.op.operands, nY x = true := Array.all_eq_true_iff_forall_mem.1 hok.1
   have hev : ∀ y ∈ o.op.operands, aX c w (evA E.G env y) (a.eval y) := fun y hy => aC7 hs.env hs.glob (hall y hy)
   rw [hop] at hev
   obtain ⟨u, hu, hr⟩ := aYk (P := P) hE.T hs.good (hev x (by simp [Op.operands])) (aOR (o := lo) fun y hy => hev y (by simp [Op.operands, hy])) (aOR (o := hi) fun y hy => hev y (by simp [Op.operands, hy])) hc
   refine (Did.of_value (v := u) (h := h) hs.good ?_ hr).toE
   simp [execOp, hop, hu]
 ·exact aIu hE hs hok hc
theorem aPf (hE : iE P E) {sb : List Nat} {Δ : FuncId → List AV → List Obj → Option Hit} (hΔ : aEw P E.G Δ) {nt : Nat} {ds : List Deferred} {env : St} {a : Act} {o : Oper} (hs : Sim E M w0 nt ds c env h a w) (hok : gV nt o = true) {k : AV → List Obj → Prop} {kp : Pan → List Obj → Prop} (hc : aMZ E Δ sb env h o k kp)
  {next : Act → World → Prop} {Q : Exit → Act → World → Prop} (hn : ∀ v h' c' u w', k v h' → aJp M w0 c w h' v u w' c' → next (a.put o.dst u) w') (hp : ∀ p h' c' u w', kp p h' → dZ c w c' w' → Good M w0 c' h' w' → dF w' c'.S p.t p.x u → Q (.panic (aQs p.k u)) a w') : o.wp P a w next Q := by
 unfold aMZ at hc
 cases hcal : aE0 E.G env h o with
 | some fv =>
  obtain ⟨f, vs⟩ := fv
  simp only [hcal, aUX, aTX] at hc
  cases hd : Δ f vs h with
  | some t =>
   simp only [hd] at hc
   obtain ⟨h1, h2⟩ := hc
   obtain ⟨xs, q1, q2, q3⟩ := aVM hE hs hok hcal (hΔ.fn f vs h t hd)
   unfold Oper.wp
   rw [q1]
   refine Calls.mono (aWU (hΔ.ok f vs h t hd) hs.good hs.glob q2 q3 h1) ?_
   rintro e w' ⟨cN, hl, hend⟩
   cases hout : t.sp.out t.d with
   | ret v h' =>
    rw [hout] at hend h2
    obtain ⟨u, rfl, hg, hv⟩ := hend
    exact hn _ _ cN u w' h2.2 ⟨hl, hg, hv h2.1⟩
   | pan p h' =>
    rw [hout] at hend h2
    obtain ⟨u, rfl, hg, hv⟩ := hend
    exact hp p _ cN u w' h2 hl hg hv
  | none =>
   simp only [hd] at hc
   cases hpo : aRi E.G env o with
   | some p =>
    simp only [hpo] at hc
    obtain ⟨u, q1, q2⟩ := aUY (P := P) hs hok hpo
    unfold Oper.wp
    rw [q1]
    exact hp p h c u w hc (.refl _ _) hs.good q2
   | none =>
    simp only [hpo] at hc
    exact (aS0 hE hs hok hc.1).wp fun v w' c' ha => hn _ _ c' v w' hc.2 ha
 | none =>
  simp only [hcal, aUX] at hc
  cases hpo : aRi E.G env o with
  | some p =>
   simp only [hpo] at hc
   obtain ⟨u, q1, q2⟩ := aUY (P := P) hs hok hpo
   unfold Oper.wp
   rw [q1]
   exact hp p h c u w hc (.refl _ _) hs.good q2
  | none =>
   simp only [hpo] at hc
   exact (aS0 hE hs hok hc.1).wp fun v w' c' ha => hn _ _ c' v w' hc.2 ha
theorem aRU (hE : iE P E) {sb : List Nat} {Δ : FuncId → List AV → List Obj → Option Hit} (hΔ : aEw P E.G Δ) {ops : List Oper} {Q : Exit → Act → World → Prop} {nt : Nat} {ds : List Deferred} (hok : ∀ o ∈ ops, gV nt o = true) {K : St → List Obj → Prop} {Kp : Pan → St → List Obj → Prop}
  (hK : ∀ env h c a w, K env h → Sim E M w0 nt ds c env h a w → Q .normal a w) (hKp : ∀ p env h c a w u, Kp p env h → Sim E M w0 nt ds c env h a w → dF w c.S p.t p.x u → Q (.panic (aQs p.k u)) a w) :
  ∀ (m i : Nat), i + m = ops.length → ∀ (env : St) (h : List Obj) (c : Ctx) (a : Act) (w : World), aGW E Δ sb ops (ops.drop i) env h K Kp → Sim E M w0 nt ds c env h a w → wpOps P ops.toArray Q (List.range' i m) a w
 | 0, i, hi, env, h, c, a, w, hs, hsim => by
  rw [List.drop_eq_nil_of_le (by omega)] at hs
  simp only [List.range'_zero, wpOps]
  exact hK env h c a w hs hsim
 | m + 1, i, hi, env, h, c, a, w, hs, hsim => by
  have hil : i < ops.length := by omega
  rw [List.drop_eq_getElem_cons hil] at hs
  have hokO := hok ops[i] (List.getElem_mem hil)
  have hput : ∀ (v : Value) (av : AV), aX c w av v → Sim E M w0 nt ds c (wT ops[i].dst av env) h (a.put ops[i].dst v) w := fun v av hv => hsim.after hokO ⟨.refl _ _, hsim.good, hv⟩
  have hrun : aMZ E Δ sb env h ops[i] (fun v h' => aGW E Δ sb ops (ops.drop (i + 1)) (wT ops[i].dst v env) h' K Kp) (fun p h' => Kp p env h') → Region.wanted ops[i] (yielded ops.toArray a.tmps) = true → wpOps P ops.toArray Q (List.range' i (m + 1)) a w := fun h1 hw => by
   rw [List.range'_succ]
   simp only [wpOps, List.getElem?_toArray, List.getElem?_eq_getElem hil, hw, if_true]
   left
   refine aPf hE hΔ hsim hokO h1 (fun v h' c' u w' hk ha => ?_) (fun p h' c' u w' hk hl hg hr => hKp p env h' c' a w' u hk (hsim.step hl hg) hr)
   exact aRU hE hΔ hok hK hKp m (i + 1) (by omega) _ _ c' _ w' hk (hsim.after hokO ha)
  have hskip : aGW E Δ sb ops (ops.drop (i + 1)) (wT ops[i].dst .undef env) h K Kp → Region.wanted ops[i] (yielded ops.toArray a.tmps) = false → wpOps P ops.toArray Q (List.range' i (m + 1)) a w := fun h2 hw => by
   rw [List.range'_succ]
   simp only [wpOps, List.getElem?_toArray, List.getElem?_eq_getElem hil, hw, Bool.false_eq_true, if_false]
   exact aRU hE hΔ hok hK hKp m (i + 1) (by omega) _ _ c _ w h2 (hput _ _ rfl)
  simp only [aGW] at hs
  cases hgd : ops[i].guard with
  | none =>
   rw [hgd] at hs
   exact hrun hs (by simp [Region.wanted, hgd])
  | some jp =>
   obtain ⟨j, pol⟩ := jp
   rw [hgd] at hs
   simp only at hs
   cases hdj : aIN ops j with
   | none => rw [hdj] at hs; exact hs.elim
   | some dj =>
    rw [hdj] at hs
    simp only at hs
    have hv := hsim.env dj
    split at hs
    ·rename_i b hb
     rw [hb] at hv
     have hb' := aES hv
     have hy := yR hok hsim.size hdj hb'
     simp only [yb] at hy
     by_cases e : b = pol
     ·exact hrun (hs.1 e) (by simp [Region.wanted, hgd, hy, e])
     ·have e' : b = !pol := by cases b <;> cases pol <;> simp_all
      exact hskip (hs.2 e') (by simp [Region.wanted, hgd, hy, e])
    ·rename_i hb
     rw [hb] at hv
     have hy := yR hok hsim.size hdj (v := Go.undef) hv
     exact hskip hs (by simp [Region.wanted, hgd, hy, Go.undef, yb])
    ·exact hs.elim
theorem aC {F : Fr} {Q : Exit → Act → World → Prop} {env : St} {h : List Obj} (hF : gD F) {Δ : FuncId → List AV → List Obj → Option Hit} (hΔ : aEw F.P F.E.G Δ) {id : Nat} {ops : Array Oper} (keep sb : List Nat)
  (hv : aGW F.E Δ sb ops.toList ops.toList env h (fun env h => At F (Q .normal) (keep.map fun t => (t, look env t)) h) (fun p env h => AtP F Q p env h)) : Tri F (.region id ops false) Q env h := fun hok c a w hs => by
 simp only [iA, Bool.and_eq_true, Bool.or_eq_true, Bool.not_eq_true'] at hok
 obtain ⟨⟨h1, h2⟩, h3⟩ := hok
 refine wp_region ?_
 have := aRU (Q := Q) hF.env hΔ (List.all_eq_true.1 h1) (K := fun env h => At F (Q .normal) (keep.map fun t => (t, look env t)) h) (Kp := fun p env h => AtP F Q p env h) (fun env h c a w hk hs => hk c a w (hs.keep keep)) (fun p env h c a w u hk hs hr => hk c a w u hs hr) ops.toList.length 0 (by simp) env h c a w (by simpa using hv) hs
 simpa [List.range_eq_range'] using this
theorem aO {F : Fr} {K : Act → World → Prop} {Q : Exit → Act → World → Prop} {p : Pan} {env : St} {h : List Obj} (hq : AtP F Q p env h) : AtP F (Exit.then K Q) p env h := hq
theorem bX {F : Fr} {id : Nat} {Q : Exit → Act → World → Prop} {p : Pan} {env : St} {h : List Obj} (hq : AtP F Q p env h) : AtP F (Exit.inBlock id Q) p env h := hq
theorem aIv {F : Fr} {Q : Exit → Act → World → Prop} {p : Pan} {env : St} {h : List Obj} (hq : AtP F Q p env h) : AtP F (Exit.noGoto Q) p env h := hq
def aTY : List AV → Nat → St
 | [], _ => []
 | v :: r, k => (k, v) :: aTY r (k + 1)
theorem aRV {tmps : Array Value} : ∀ (us : List AV) (vs : List Value) (k : Nat), vs.length = us.length → (∀ i (h1 : i < us.length) (h2 : i < vs.length), aX c w us[i] vs[i]) → (∀ i v, vs[i]? = some v → tmps.getD (k + i) Go.undef = v) → aGT c w (aTY us k) tmps
 | [], _, k, _, _, _ => fun t => trivial
 | u :: us, v :: vs, k, hl, hv, ht => by
  have h0 := hv 0 (by simp) (by simp)
  have t0 := ht 0 v (by simp)
  have rec_ := aRV us vs (k + 1) (by simpa using hl) (fun i h1 h2 => by have := hv (i + 1) (by simpa using h1) (by simpa using h2); simpa using this) (fun i x hx => by
   have := ht (i + 1) x (by simpa using hx)
   rw [show k + 1 + i = k + (i + 1) from by omega]; exact this)
  intro t
  simp only [aTY, look]
  split
  ·rename_i e
   subst e
   simp only [Nat.add_zero] at t0
   rw [t0]; exact h0
  ·exact rec_ t
def AV.wfV : AV → Prop
 | .val t x => t.wf x
 | .full t xs => (Ty.sl t).wf xs
 | _ => True
def AV.wfL : List AV → Prop
 | [] => True
 | v :: r => v.wfV ∧ AV.wfL r
def Obj.wfV : Obj → Prop
 | .box _ (.agg vs) => AV.wfL vs
 | .box _ v => v.wfV
 | .row _ t xs => (Ty.arr xs.length t).wf xs ∧ xs.length ≤ maxLen
 | .frz t xs => (Ty.sl t).wf xs
 | .tre _ _ t xs => (Ty.sl t).wf xs
 | _ => True
def Obj.wfL : List Obj → Prop
 | [] => True
 | o :: r => o.wfV ∧ Obj.wfL r
theorem aPg {v : AV} {cs : List Value} (hr : aN c w v cs) : v.wfV := by
 cases v <;> first | trivial | skip
 case val t x => exact bE.wf t x cs hr
 case full t xs =>
  simp only [aN] at hr
  obtain ⟨a, n, e, hs⟩ := hr
  exact bE.wf (.sl t) xs cs ⟨a, n, n, e, hs⟩
theorem aWW : ∀ {vs : List AV} {cs : List Value}, lT c w vs cs → AV.wfL vs
 | [], _, _ => trivial
 | v :: r, _, ⟨c1, c2, e, h1, h2⟩ => ⟨aPg h1, aWW h2⟩
theorem aZx {v : AV} {x : Value} (hr : aX c w v x) : v.wfV := by
 cases v <;> first | trivial | exact aPg hr.1
theorem aRW : ∀ {us : List AV} {vs : List Value}, vs.length = us.length → (∀ i (h1 : i < us.length) (h2 : i < vs.length), aX c w us[i] vs[i]) → AV.wfL us
 | [], _, _, _ => trivial
 | u :: us, v :: vs, hl, hv => ⟨aZx (hv 0 (by simp) (by simp)), aRW (vs := vs) (by simpa using hl) (fun i h1 h2 => by have := hv (i + 1) (by simpa using h1) (by simpa using h2); simpa using this)⟩
theorem aZy {i : Nat} {o : Obj} (hr : aFv c w i o) : o.wfV := by
 cases o with
 | dead => trivial
 | box n v =>
  obtain ⟨b, cells, e, _, _, _, h4⟩ := hr
  cases v <;> first | exact aWW h4 | exact aPg h4 | trivial
 | row e t xs =>
  obtain ⟨vals, h1, h2⟩ := hr
  refine ⟨bE.wf _ _ _ h2, ?_⟩
  rcases h1.2 with ⟨_, h0⟩ | ⟨g, cap, cur, _, _, _, h3, h4, _⟩
  ·rw [h0]; exact Nat.zero_le _
  ·exact Nat.le_trans h3 h4
 | frz t xs => exact bE.wf (.sl t) xs _ hr
 | map k v m => trivial
 | tre e m t xs =>
  obtain ⟨B, h1, _⟩ := hr
  exact bE.wf (.sl t) xs _ (kT.toC (S' := fun _ => True) (fun _ _ => trivial) _ _ _ _ _ (fun _ _ => trivial) h1)
 | trh e m t xs k v => trivial
theorem aUZ (hg : Good M w0 c h w) : Obj.wfL h := by
 have : ∀ (l : List Obj), (∀ o ∈ l, o.wfV) → Obj.wfL l := fun l => by
  induction l with
  | nil => intro _; trivial
  | cons o r ih => intro hl; exact ⟨hl o (by simp), ih fun x hx => hl x (by simp [hx])⟩
 refine this h fun o ho => ?_
 obtain ⟨i, hi, rfl⟩ := List.mem_iff_getElem.1 ho
 exact aZy (hg.objs i _ (List.getElem?_eq_getElem hi))
def aT (T : Tab) (h : List Obj) (env : St) : List ResultVar → Prop × List AV
 | [] => (True, [])
 | .tmp t :: r => ((aT T h env r).1, look env t :: (aT T h env r).2)
 | .cell a t :: r => ((aHf T h t (look env a)).1 ∧ (aT T h env r).1, (aHf T h t (look env a)).2 :: (aT T h env r).2)
theorem aPh (hT : lD P E.T) (hg : Good M w0 c h w) {env : St} {tmps : Array Value} (he : aGT c w env tmps) {g : ResultVar → Sem Value} (hg1 : ∀ t, g (.tmp t) = pure (tmps.getD t Go.undef)) (hg2 : ∀ a t, g (.cell a t) = (do loadVar t (← asAddr (tmps.getD a Go.undef)))) : ∀ (l : List ResultVar), (aT E.T h env l).1 →
  ∃ us : List Value, (l.mapM g).run P w = .ok us w ∧ us.length = (aT E.T h env l).2.length ∧ ∀ i (h1 : i < (aT E.T h env l).2.length) (h2 : i < us.length), aX c w (aT E.T h env l).2[i] us[i]
 | [], _ => ⟨[], by simp, rfl, fun i h1 => by simp [aT] at h1⟩
 | .tmp t :: r, hc => by
  simp only [aT] at hc ⊢
  obtain ⟨us, q1, q2, q3⟩ := aPh hT hg he hg1 hg2 r hc
  refine ⟨tmps.getD t Go.undef :: us, by simp only [List.mapM_cons, Sem.run_bind, hg1, Sem.run_pure, Result.andThen_ok, q1], by simp [q2], fun i h1 h2 => ?_⟩
  cases i with
  | zero => exact he t
  | succ i => exact q3 i (by simpa using h1) (by simpa using h2)
 | .cell a t :: r, hc => by
  simp only [aT] at hc ⊢
  obtain ⟨us, q1, q2, q3⟩ := aPh hT hg he hg1 hg2 r hc.2
  obtain ⟨u, hu, hr⟩ := aUC (P := P) hT hg (he a) hc.1
  have hrun : (g (.cell a t)).run P w = .ok u w := by
   rw [hg2]
   have hv := he a
   generalize tmps.getD a Go.undef = v at hu hv
   simp only [Instr.loadAt, Sem.run_bind] at hu
   simp only [Sem.run_bind]
   have : ∃ ad, v = .pointer (some ad) := by
    cases v with
    | pointer p =>
     cases p with
     | some ad => exact ⟨ad, rfl⟩
     | none => simp [Instr.sureAddr, Result.andThen] at hu
    | _ => simp [Instr.sureAddr, Result.andThen] at hu
   obtain ⟨ad, rfl⟩ := this
   simpa [Instr.sureAddr, asAddr] using hu
  refine ⟨u :: us, by simp only [List.mapM_cons, Sem.run_bind, hrun, Sem.run_pure, Result.andThen_ok, q1], by simp [q2], fun i h1 h2 => ?_⟩
  cases i with
  | zero => exact hr
  | succ i => exact q3 i (by simpa using h1) (by simpa using h2)
theorem aFM (hT : lD P E.T) (hg : Good M w0 c h w) {env : St} {tmps : Array Value} (he : aGT c w env tmps) {fn : Func} {l : List ResultVar} (hr : fn.results = l.toArray) (hc : (aT E.T h env l).1) :
  ∃ us : List Value, (results fn tmps).run P w = .ok (aIM us) w ∧ us.length = (aT E.T h env l).2.length ∧ ∀ i (h1 : i < (aT E.T h env l).2.length) (h2 : i < us.length), aX c w (aT E.T h env l).2[i] us[i] := by
 unfold results
 rw [hr]
 simp only [Sem.run_bind]
 rw [List.mapM_toArray, Sem.run_map]
 generalize hm : (List.mapM _ l : Sem (List Value)) = mm
 have key : ∀ (g : ResultVar → Sem Value), (∀ t, g (.tmp t) = pure (tmps.getD t Go.undef)) → (∀ a t, g (.cell a t) = (do loadVar t (← asAddr (tmps.getD a Go.undef)))) → List.mapM g l = mm →
   ∃ us : List Value, mm.run P w = .ok us w ∧ us.length = (aT E.T h env l).2.length ∧ ∀ i (h1 : i < (aT E.T h env l).2.length) (h2 : i < us.length), aX c w (aT E.T h env l).2[i] us[i] := fun g hg1 hg2 e => by
  subst e; exact aPh (P := P) hT hg he hg1 hg2 l hc
 obtain ⟨us, q1, q2, q3⟩ := key _ (fun t => rfl) (fun a t => rfl) hm
 refine ⟨us, ?_, q2, q3⟩
 rw [q1]
 simp only [Result.andThen_ok, Sem.run_pure]
 congr 1
 match us with
 | [] => rfl
 | [v] => rfl
 | a :: b :: r =>
  rw [dif_neg (by simp)]
  rfl
def jU (h : List Obj) : List AV → List AV → Prop
 | [], [] => True
 | v :: r, u :: r' => (dG h v u ∧ cZ u = true) ∧ jU h r r'
 | _, _ => False
def jX (h : List Obj) : AV → List AV → Prop
 | .tup vs, us => us.length ≠ 1 ∧ jU h us vs
 | v, [u] => dG h u v
 | _, _ => False
theorem aRX (hg : Good M w0 c h w) : ∀ {us vs : List AV} {xs : List Value}, jU h us vs → xs.length = us.length → (∀ i (h1 : i < us.length) (h2 : i < xs.length), aX c w us[i] xs[i]) → xs.length = vs.length ∧ ∀ i (h1 : i < vs.length) (h2 : i < xs.length), aX c w vs[i] xs[i] ∧ cZ vs[i] = true
 | [], [], [], _, _, _ => ⟨rfl, fun i h1 => by simp at h1⟩
 | u :: us, v :: vs, x :: xs, hf, hl, hv => by
  obtain ⟨⟨h1, hj⟩, h2⟩ := hf
  obtain ⟨q1, q2⟩ := aRX hg h2 (xs := xs) (by simpa using hl) (fun i h1 h2 => by have := hv (i + 1) (by simpa using h1) (by simpa using h2); simpa using this)
  refine ⟨by simp [q1], fun i k1 k2 => ?_⟩
  cases i with
  | zero => exact ⟨aOw hg h1 (hv 0 (by simp) (by simp)), hj⟩
  | succ i => exact q2 i (by simpa using k1) (by simpa using k2)
theorem aU0 {v : AV} {x : Value} (hv : aX c w v x) (hj : cZ v = true) (ht : ∀ vs, v ≠ .tup vs) (hu : v ≠ .undef) : uN c w v x := by
 cases v <;> first | exact hv | (simp [cZ] at hj; done) | exact absurd rfl (ht _) | exact absurd rfl hu
def aWX : AV → Bool
 | .tup _ => false
 | .undef => false
 | _ => true
theorem eH {F : Fr} {fn : Func} {sp : gH} {c0 : Ctx} {d : sp.D} {env : St} {h h' : List Obj} {v : AV} (hF : gD F) (l : List ResultVar) (hM : F.M = GM sp c0 d) (hds : F.ds = []) (hr : fn.results = l.toArray) (hout : sp.out d = .ret v h') (hh : h = h') (hfl : (match v with | .tup vs => vs.all aWX | _ => true) = true) (hy : (aT F.E.T h env l).1 ∧ jX h v (aT F.E.T h env l).2) :
  At F (bodyPost F.P fn (aLN sp c0 F.w0 d) .ret) env h := fun c a w hs => by
 subst hh
 obtain ⟨us, q1, q2, q3⟩ := aFM (P := F.P) hF.env.T hs.good hs.env hr hy.1
 refine ⟨hs.defers.trans hds, aIM us, q1, c, ?_⟩
 rw [hout]
 refine ⟨aIM us, rfl, by rw [← hM]; exact hs.good, ?_⟩
 have hy2 := hy.2
 generalize (aT F.E.T h env l).2 = rs at q2 q3 hy2
 cases v with
 | tup vs =>
  obtain ⟨h1, h2⟩ := hy2
  obtain ⟨k1, k2⟩ := aRX hs.good h2 q2 q3
  refine ⟨us, ?_, k1, fun i p1 p2 => ?_⟩
  ·match us, q2 with
   | [], _ => rfl
   | [x], q2 => exact absurd q2.symm h1
   | a :: b :: r, _ => rfl
  ·have hfi := List.all_eq_true.1 hfl vs[i] (List.getElem_mem p1)
   exact aU0 (k2 i p1 p2).1 (k2 i p1 p2).2 (fun l e => by rw [e] at hfi; cases hfi) (fun e => by rw [e] at hfi; cases hfi)
 | _ =>
  match rs, hy2 with
  | [u], hy2 =>
   match us, q2 with
   | [x], _ => exact aOw hs.good hy2 (q3 0 (by simp) (by simp))
theorem bA {F : Fr} {fn : Func} {sp : gH} {c0 : Ctx} {d : sp.D} {env : St} {h h' : List Obj} {p : Pan} (hM : F.M = GM sp c0 d) (hds : F.ds = []) (hout : sp.out d = .pan p h') (hh : h = h') :
  AtP F (bodyPost F.P fn (aLN sp c0 F.w0 d)) p env h := fun c a w u hs hr => by
 subst hh
 refine ⟨hs.defers.trans hds, c, ?_⟩
 rw [hout]
 exact ⟨u, rfl, by rw [← hM]; exact hs.good, hr⟩
theorem bP {F : Fr} {Q : Exit → Act → World → Prop} {p : Pan} {env : St} {h : List Obj} (σ : List Nat) (hd : nodupB σ = true) (hp : preB F.M.m σ = true) (hk : AtP F Q p (env.map fun q => (q.1, ren σ q.2)) (σ.map fun i => dI σ (h.getD i .dead))) : AtP F Q p env h := fun c a w u hs hr =>
 hk (c.ren σ) a w u ⟨hs.good.ren hd hp, hs.glob, fun t => by rw [aHw (ren σ) rfl]; exact aOz (hs.env t), hs.size, hs.defers⟩ hr
end
end Go.Vc
namespace Go.Vc
attribute [go_sem] Int.toNat_natCast vcA opA pv aOW aWz evA aB8 wS aC8 iX aDQ
attribute [go_sem] aJ9 aEX aOV aJV pT aSw aNF aZr Go.Vc.look aHf aBx aWa
attribute [go_sem] aRA shU shI kI aXV aWb aTG aLu aBy xS xS.fldT aIi
attribute [go_sem] aJY aJZ aHg aJ0 aLB aJh aJj aJ6 aFz aIk zN aWg
attribute [go_sem] mm2 wR dY Go.Vc.elemOf aQ2 List.all_cons List.all_nil Int.le_refl Nat.le_refl AV.solid AV.solid1 AV.nc
attribute [go_sem] AV.nc1 AV.isAgg Ty.isAgg Ty.cells Ty.zero fG List.map List.append List.length Option.map decide_true decide_false
attribute [go_sem] Bool.and_true Bool.true_and true_and and_true implies_true forall_const if_true if_false IntKind.signed Ty.den Nat.succ_ne_self ne_eq
attribute [go_sem] not_false_eq_true not_true_eq_false List.getElem?_nil aIK List.nil_append List.cons_append beq_self_eq_true Bool.and_self cond_true cond_false Bool.cond_true_left Bool.cond_false_right
attribute [go_sem] sN wD aB9 aOy aO8 aZR freezeAll freeze aRO aOZ aFH uQ aIs aIt isStr bxN aHa aOE aTA aTz aOD aRz
attribute [go_sem] aUU aSF aWs Ty.isNil aLE aIr aSO aUT wT aIN aBD aLD
attribute [go_sem] aDR sL aDb Ty.strB aTL bound aA5 aZh aXZ aX0 aZi aWA
attribute [go_sem] frzAll Ty.scalar gB aWh RK.ty AV.tags AV.tags1 List.flatMap_cons List.flatMap_nil List.getElem?_cons_zero List.getElem?_cons_succ List.set_cons_zero
attribute [go_sem] List.set_cons_succ List.length_cons List.length_nil Nat.zero_add zO List.getD_cons_zero List.getD_cons_succ dite_true Ty.okB Ty.byt IntKind.bits tF
attribute [go_sem] aEt aZP aTF aZj aRC aX1 aWv allTags aJi gt_iff_lt ge_iff_le List.length_replicate
attribute [go_sem] List.replicate_zero List.length_set aWN aWO aWP aVG aZS aJq aHn aWw aC2 aC3
attribute [go_sem] aO7 Ty.keyB Ty.key1 Option.some.injEq exists_eq_left' List.append_nil decide_eq_true_eq decide_eq_false_iff_not Bool.or_eq_true Bool.or_eq_false_iff Bool.and_eq_true Int.not_lt
attribute [go_sem] Int.not_le Bool.not_eq_true' Bool.not_eq_false' gM aST nJ qE List.take_succ_cons List.take_zero List.drop_succ_cons List.drop_zero aWf
attribute [go_sem] yG aVs aRF aIj Ty.flds aHh aGV Ty.fieldOff aTH parse aFy aRD
attribute [go_sem] aOI Option.getD_some Option.getD_none Bool.not_true Bool.not_false Bool.false_eq_true Bool.true_eq_false false_implies and_false false_and or_true true_or
attribute [go_sem] or_false false_or Bool.or_true Bool.or_false Bool.true_or Bool.false_or Bool.and_false Bool.false_and Option.isSome_some Option.isSome_none Int.reduceToNat Int.reduceLE
attribute [go_sem] Int.reduceLT Nat.reduceEqDiff Nat.reduceAdd Nat.reduceMul Nat.reduceLT Nat.reduceSub Nat.reduceLeDiff Nat.reduceDiv Nat.reduceMod Nat.reducePow Nat.reduceGT Int.reduceEq
attribute [go_sem] Int.reduceNe Int.reduceAdd Int.reduceSub Int.reduceNeg Int.reduceMul reduceIte reduceCtorEq
end Go.Vc
namespace Go.Vc
open Go.RowKit
def Ty.argB : Ty → Bool
 | .bool => true
 | .u _ => true
 | .i _ => true
 | .str => true
 | .sl t => t.argB
 | .unit => true
 | .pair a b => a.argB && b.argB
 | .arr _ t => t.argB
 | .expr => true
 | _ => false
section
variable {P : Program} {T : Tab} {H : Type} {enc : TypeId × Value → H} {w : World} {spare : Nat → Bool} {held : Bool}
theorem oL {t : TypeId} {c : Ty} (h : aCq P T t c) : P.cellsOf t = c.cells := by
 obtain ⟨i, hi, hs, _⟩ := h.info
 simp [Program.cellsOf, hi, hs]
def yJ (w : World) : Nat → Prop := fun b => b < w.heap.size
theorem aLQ {a : Addr} {n : Nat} {ds : List Value} (h : w.cells? 0 a n = some ds) : ds.length = n ∧ ∀ j, j < n → w.cell? (a.add j) = ds[j]? := by
 unfold World.cells? at h
 rw [if_pos (Nat.zero_le _)] at h
 have hl := mapM_some_length h
 have hg := mapM_some_get h
 simp only [List.length_range] at hl
 exact ⟨hl, fun j hj => hg j j (by simp [hj])⟩
theorem aRY {b off : Nat} {v : Value} (h : w.cell? ⟨b, off, none⟩ = some v) : b < w.heap.size := by
 rcases Nat.lt_or_ge b w.heap.size with hl | hl
 ·exact hl
 ·simp [World.cell?, Array.getElem?_eq_none hl] at h
theorem aZz (a : Addr) (i j : Nat) (h : a.spot = none) : (a.add i).add j = ⟨a.block, a.off + i + j, none⟩ := by
 obtain ⟨b, o, s⟩ := a
 simp only at h
 subst h
 unfold Addr.add
 by_cases hi : i = 0 <;> by_cases hj : j = 0 <;> simp [hi, hj] <;> omega
theorem aWY {sz : Nat} (hsz : 0 < sz) {α : Type} {R : α → List Value → Prop} {a : Addr} {len : Nat} (hel : ∀ i, i < len → ∃ ds x, w.cells? 0 (a.add (i * sz)) sz = some ds ∧ R x ds) :
  ∃ xs : List α, xs.length = len ∧ (xs = [] ∨ ∃ b off, some a = some ⟨b, off, none⟩ ∧ yJ w b ∧ ∀ i (h : i < xs.length), ∃ ds, R xs[i] ds ∧ lN w b (off + i * sz) ds) := by
 classical
 by_cases h0 : len = 0
 ·exact ⟨[], by simp [h0], .inl rfl⟩
 have hpos : 0 < len := by omega
 obtain ⟨ds0, x0, e0, _⟩ := hel 0 hpos
 have hsp : a.spot = none := by
  obtain ⟨hl, hg⟩ := aLQ e0
  have := hg 0 hsz
  have hd : (ds0)[0]? = some (ds0[0]'(by omega)) := List.getElem?_eq_getElem (by omega)
  rw [hd] at this
  have := World.cell?_spot this
  simpa [Addr.add] using this
 have hf : ∃ f : Nat → α, ∀ i, i < len → ∃ ds, w.cells? 0 (a.add (i * sz)) sz = some ds ∧ R (f i) ds := by
  refine ⟨fun i => if h : i < len then Classical.choose (Classical.choose_spec (hel i h)) else x0, fun i hi => ?_⟩
  simp only [dif_pos hi]
  exact ⟨Classical.choose (hel i hi), Classical.choose_spec (Classical.choose_spec (hel i hi))⟩
 obtain ⟨f, hf⟩ := hf
 have hcell : ∀ i, i < len → ∀ ds, w.cells? 0 (a.add (i * sz)) sz = some ds → lN w a.block (a.off + i * sz) ds := fun i hi ds hds j v hj => by
  obtain ⟨hl, hg⟩ := aLQ hds
  have hjl : j < sz := by
   rcases Nat.lt_or_ge j sz with h | h
   ·exact h
   ·rw [List.getElem?_eq_none (by omega)] at hj; cases hj
  have := hg j hjl
  rw [aZz a _ j hsp, hj] at this
  exact this
 refine ⟨(List.range len).map f, by simp, .inr ⟨a.block, a.off, ?_, ?_, fun i hi => ?_⟩⟩
 ·obtain ⟨b, o, s⟩ := a; simp only at hsp; subst hsp; rfl
 ·obtain ⟨ds, hds, _⟩ := hf 0 hpos
  have := hcell 0 hpos ds hds 0 (ds[0]'(by rw [(aLQ hds).1]; exact hsz)) (List.getElem?_eq_getElem _)
  exact aRY this
 ·simp only [List.length_map, List.length_range] at hi
  obtain ⟨ds, hds, hR⟩ := hf i hi
  exact ⟨ds, by simpa using hR, hcell i hi ds hds⟩
theorem aPi {n : Nat} (ih : ∀ (t : TypeId) (c : Ty) (cs : List Value) (x : DataW H × List MemPlace), T t = some c → c.argB = true → DataW.trod enc P w 0 spare held n t cs = some x → ∃ y, bE w (yJ w) c y cs) (hT : lD P T) (cs : List Value) :
  ∀ (fs : List Field) (off : Nat) (c : Ty), eG T fs off c = true → c.argB = true → (cs.drop off).length = c.cells → (∀ f ∈ fs, ∃ x, DataW.trod enc P w 0 spare held n f.type ((cs.drop f.offset).take (P.cellsOf f.type)) = some x) → ∃ y, bE w (yJ w) c y (cs.drop off)
 | [], off, c, hf, ha, hl, _ => by
  cases c <;> simp [eG] at hf
  exact ⟨(), List.eq_nil_of_length_eq_zero hl⟩
 | f :: fs, off, c, hf, ha, hl, hx => by
  cases c <;> simp only [eG, Bool.false_eq_true] at hf
  case pair a b =>
   simp only [Bool.and_eq_true, decide_eq_true_eq] at hf
   obtain ⟨⟨⟨⟨h1, h2⟩, h3⟩, h4⟩, h5⟩ := hf
   simp only [Ty.argB, Bool.and_eq_true] at ha
   obtain ⟨x, hx0⟩ := hx f (by simp)
   rw [oL (hT _ _ h1), h2] at hx0
   obtain ⟨y1, r1⟩ := ih _ _ _ _ h1 ha.1 hx0
   simp only [Ty.cells] at hl
   obtain ⟨y2, r2⟩ := aPi ih hT cs fs (off + a.cells) b h5 ha.2 (by simp only [List.length_drop] at hl ⊢; omega) (fun g hg => hx g (by simp [hg]))
   refine ⟨(y1, y2), (cs.drop off).take a.cells, cs.drop (off + a.cells), ?_, r1, r2⟩
   rw [← List.drop_drop, List.take_append_drop]
theorem aS1 (hT : lD P T) : ∀ (n : Nat) (t : TypeId) (c : Ty) (cs : List Value) (x : DataW H × List MemPlace), T t = some c → c.argB = true → DataW.trod enc P w 0 spare held n t cs = some x → ∃ y, bE w (yJ w) c y cs := by
 intro n
 induction n with
 | zero => intro t c cs x _ _ h; simp [DataW.trod] at h
 | succ n ih =>
  intro t c cs x ht ha h
  obtain ⟨d, hd, hb⟩ := (hT _ _ ht).desc
  cases c with
  | bool =>
   cases d <;> simp [iR] at hb
   obtain ⟨b, e, _⟩ := DataW.trod_bool hd h
   exact ⟨b, e⟩
  | u k =>
   cases d <;> simp [iR] at hb
   rename_i k'
   obtain ⟨rfl, hb⟩ := hb
   obtain ⟨m, e, _, hw⟩ := DataW.trod_int hd h
   simp only [Lit.wf, Bool.and_eq_true, decide_eq_true_eq] at hw
   have hmin : IntKind.min k = 0 := by cases k <;> first | rfl | (simp [IntKind.signed] at hb; done)
   have hm : ((m.toNat : Nat) : Int) = m := Int.toNat_of_nonneg (by omega)
   exact ⟨m.toNat, by rw [hm]; exact e, hb, by rw [hm]; exact hw.2⟩
  | i k =>
   cases d <;> simp [iR] at hb
   rename_i k'
   obtain ⟨rfl, hb⟩ := hb
   obtain ⟨m, e, _, hw⟩ := DataW.trod_int hd h
   simp only [Lit.wf, Bool.and_eq_true, decide_eq_true_eq] at hw
   exact ⟨m, e, hb, hw.1, hw.2⟩
  | str =>
   cases d <;> simp [iR] at hb
   obtain ⟨s, e, _, hs⟩ := DataW.trod_string hd h
   exact ⟨aS s, s, e, rfl, hs⟩
  | sl t1 =>
   cases d <;> simp [iR] at hb
   obtain ⟨hb1, hb2⟩ := hb
   rcases DataW.trod_slice hd h with ⟨rfl, _⟩ | ⟨a, len, cap, elems, rest, m, hm, rfl, _, _, hl, hc, hlen, hel, _⟩
   ·exact ⟨[], none, 0, 0, rfl, rfl, Nat.le_refl _, Nat.zero_le _, .inl rfl⟩
   ·cases hm
    rw [oL (hT _ _ hb1)] at hel
    obtain ⟨xs, h1, h2⟩ := aWY (w := w) hb2 (R := bE w (yJ w) t1) (a := a) (len := len) (fun i hi => by
     have := hel i hi
     rw [List.getElem?_eq_getElem (by omega)] at this
     obtain ⟨ds, hds, hx⟩ := Option.bind_eq_some_iff.1 this
     obtain ⟨y, hy⟩ := ih _ _ _ _ hb1 ha hx
     exact ⟨ds, y, hds, hy⟩)
    exact ⟨xs, some a, len, cap, rfl, h1, hl, hc, h2⟩
  | unit =>
   cases d <;> simp [iR] at hb
   rename_i fs
   obtain ⟨xs, m, _, _, hlen, _⟩ := DataW.trod_struct hd h
   rw [oL (hT _ _ ht)] at hlen
   exact ⟨(), List.eq_nil_of_length_eq_zero hlen⟩
  | pair a b =>
   cases d <;> simp [iR] at hb
   rename_i fs
   obtain ⟨xs, m, hm, _, hlen, hxl, hf⟩ := DataW.trod_struct hd h
   cases hm
   rw [oL (hT _ _ ht)] at hlen
   have := aPi ih hT cs fs.toList 0 (.pair a b) hb ha (by simpa using hlen) (fun f hf' => by
    obtain ⟨i, hi, rfl⟩ := List.mem_iff_getElem.1 hf'
    have hi' : i < fs.size := by simpa using hi
    have := hf i fs[i] (Array.getElem?_eq_getElem hi')
    rw [List.getElem?_eq_getElem (by omega)] at this
    exact ⟨_, by simpa using this⟩)
   simpa using this
  | arr m t1 =>
   cases d <;> simp [iR] at hb
   obtain ⟨⟨⟨rfl, hb1⟩, hb2⟩, _⟩ := hb
   obtain ⟨xs, q, hq, _, hlen, hxl, hf⟩ := DataW.trod_array hd h
   cases hq
   rw [oL (hT _ _ ht)] at hlen
   rw [oL (hT _ _ hb1)] at hf
   have hall : ∀ i, i < m → ∃ y, bE w (yJ w) t1 y ((cs.drop (i * t1.cells)).take t1.cells) := fun i hi => by
    have := hf i hi
    rw [List.getElem?_eq_getElem (by omega)] at this
    exact ih _ _ _ _ hb1 ha this
   classical
   have hfun : ∃ f : Nat → t1.den, ∀ i, i < m → bE w (yJ w) t1 (f i) ((cs.drop (i * t1.cells)).take t1.cells) := by
    refine ⟨fun i => if h : i < m then Classical.choose (hall i h) else t1.zero, fun i hi => ?_⟩
    simp only [dif_pos hi]
    exact Classical.choose_spec (hall i hi)
   obtain ⟨f, hfun⟩ := hfun
   refine ⟨(List.range m).map f, by simp, (List.range m).map fun i => (cs.drop (i * t1.cells)).take t1.cells, ?_, by simp, fun i h1 h2 => ?_⟩
   ·have : ∀ (k : Nat) (l : List Value), l.length = k * t1.cells → l = ((List.range k).map fun i => (l.drop (i * t1.cells)).take t1.cells).flatten := by
     intro k
     induction k with
     | zero => intro l hl; simp at hl; simp [hl]
     | succ k ihk =>
      intro l hl
      rw [List.range_succ, List.map_append, List.flatten_append]
      have h1 := ihk (l.take (k * t1.cells)) (by simp [hl, Nat.add_mul])
      have h2 : ((List.range k).map fun i => ((l.take (k * t1.cells)).drop (i * t1.cells)).take t1.cells) = ((List.range k).map fun i => (l.drop (i * t1.cells)).take t1.cells) := by
       apply List.map_congr_left
       intro i hi
       have hik : i < k := List.mem_range.1 hi
       rw [List.drop_take, List.take_take]
       congr 1
       have : (i + 1) * t1.cells ≤ k * t1.cells := Nat.mul_le_mul_right _ hik
       rw [Nat.add_mul] at this
       omega
      rw [h2] at h1
      rw [← h1]
      simp only [List.map_cons, List.map_nil, List.flatten_cons, List.flatten_nil, List.append_nil]
      rw [List.take_of_length_le (l := l.drop (k * t1.cells)) (by simp [hl, Nat.add_mul]), List.take_append_drop]
    exact this m cs hlen
   ·simp only [List.length_map, List.length_range] at h1
    simpa using hfun i h1
  | expr =>
   cases d <;> simp [iR] at hb
   rename_i fs
   obtain ⟨xs, m, hm, _, hlen, hxl, hf⟩ := DataW.trod_struct hd h
   cases hm
   rw [oL (hT _ _ ht)] at hlen
   have hfs : ∃ f0 f1 f2, fs.toList = [f0, f1, f2] ∧ (T f0.type = some (.i .i64) ∧ f0.offset = 0 ∧ T f1.type = some .str ∧ f1.offset = 1 ∧ T f2.type = some (.sl .expr) ∧ f2.offset = 2) := by
    unfold aUx at hb
    split at hb
    ·rename_i f0 f1 f2 hfs
     simp only [Bool.and_eq_true, decide_eq_true_eq] at hb
     exact ⟨f0, f1, f2, hfs, hb.1.1.1.1.1, hb.1.1.1.1.2, hb.1.1.1.2, hb.1.1.2, hb.1.2, hb.2⟩
    ·cases hb
   obtain ⟨f0, f1, f2, hfs, t0, o0, t1, o1, t2, o2⟩ := hfs
   have hget : ∀ (i : Nat) (f : Field), fs.toList[i]? = some f → ∃ x, DataW.trod enc P w 0 spare held n f.type ((cs.drop f.offset).take (P.cellsOf f.type)) = some x := fun i f hi => by
    have hi' : fs[i]? = some f := by simpa using hi
    have := hf i f hi'
    have hil : i < fs.size := by
     rcases Nat.lt_or_ge i fs.size with h | h
     ·exact h
     ·rw [Array.getElem?_eq_none h] at hi'; cases hi'
    rw [List.getElem?_eq_getElem (by omega)] at this
    exact ⟨_, this⟩
   obtain ⟨x0, h0⟩ := hget 0 f0 (by rw [hfs]; rfl)
   obtain ⟨x1, h1⟩ := hget 1 f1 (by rw [hfs]; rfl)
   obtain ⟨x2, h2⟩ := hget 2 f2 (by rw [hfs]; rfl)
   rw [oL (hT _ _ t0), o0] at h0
   rw [oL (hT _ _ t1), o1] at h1
   rw [oL (hT _ _ t2), o2] at h2
   obtain ⟨y0, r0⟩ := ih _ _ _ _ t0 rfl h0
   obtain ⟨y1, r1⟩ := ih _ _ _ _ t1 rfl h1
   obtain ⟨y2, r2⟩ := ih _ _ _ _ t2 rfl h2
   match cs, hlen with
   | [c0, c1, c2], _ =>
    simp only [Ty.cells, List.drop_zero, List.drop_succ_cons, List.take_succ_cons, List.take_zero] at r0 r1 r2
    obtain ⟨e0, _, b1, b2⟩ := r0
    obtain ⟨s, e1, rfl, hs⟩ := r1
    obtain ⟨a, len, cap, e2, hl1, hl2, hl3, hl4⟩ := r2
    simp only [List.cons.injEq, and_true] at e0 e1 e2
    subst e0; subst e1; subst e2
    classical
    refine ⟨.mk y0 (aS s) y2, ?_⟩
    rcases hl4 with rfl | ⟨b, off, ha, hb, hel⟩
    ·exact RepEx.mk y0 s [] a len cap (fun _ => []) ⟨b1, b2⟩ hs hl1 hl2 hl3 (fun i h => by simp at h) (.inl rfl)
    ·refine RepEx.mk y0 s y2 a len cap (fun i => if h : i < List.length y2 then Classical.choose (hel i h) else []) ⟨b1, b2⟩ hs hl1 hl2 hl3 (fun i h => ?_) (.inr ⟨b, off, ha, hb, fun i h => ?_⟩)
     ·simp only [dif_pos h]; exact (Classical.choose_spec (hel i h)).1
     ·simp only [dif_pos h]; exact (Classical.choose_spec (hel i h)).2
  | rp t1 => simp [Ty.argB] at ha
  | clo g t1 => simp [Ty.argB] at ha
  | ifc k t1 => simp [Ty.argB] at ha
  | nili => simp [Ty.argB] at ha
  | nilp => simp [Ty.argB] at ha
  | nilf => simp [Ty.argB] at ha
theorem aYl (hT : lD P T) {t : TypeId} {c : Ty} {r : Reach} {base : Nat} {v : Value} {d : DataW H} {ps : List MemPlace} (ht : T t = some c) (ha : c.argB = true) (hw : Value.okWide P w r base t v) (h : DataW.Trod enc P w 0 spare held t v d ps) : ∃ y, dF w (yJ w) c y v := by
 obtain ⟨n, hn⟩ := h
 obtain ⟨y, hy⟩ := aS1 hT n t c _ _ ht ha hn
 refine ⟨y, dF.of_cells (fun hag => ?_) (fun hna => ?_) hy⟩
 ·obtain ⟨d, hd, hb⟩ := (hT _ _ ht).desc
  unfold Value.okWide at hw
  rw [hd] at hw
  cases c <;> simp [Ty.isAgg] at hag
  all_goals (cases d <;> first | (simp [iR] at hb; done) | skip)
  all_goals (obtain ⟨cs, rfl, _⟩ := hw; exact ⟨cs, rfl⟩)
 ·intro cs e
  subst e
  obtain ⟨d, hd, hb⟩ := (hT _ _ ht).desc
  unfold Value.okWide at hw
  rw [hd] at hw
  cases c <;> simp [Ty.isAgg] at hna
  all_goals (cases d <;> first | (simp [iR] at hb; done) | skip)
  all_goals (simp [Cell.okWide, Cell.ok, hd] at hw)
def aZA (T : Tab) : Ty → List TypeId → Bool
 | .unit, [] => true
 | .pair a r, t :: ts => decide (T t = some a) && a.argB && aZA T r ts
 | _, _ => false
theorem aU1 (hT : lD P T) {r : Reach} {base : Nat} : ∀ (c : Ty) (ts : List TypeId) (vs : List Value) (ds : List (DataW H)) (ps : List MemPlace), aZA T c ts = true → DataW.TrodAll enc P w 0 spare held ts vs ds ps → (∀ (j : Nat) t v, ts[j]? = some t → vs[j]? = some v → Value.okWide P w r base t v) → ∃ x, pU w (yJ w) c x vs
 | .unit, [], vs, ds, ps, _, h, _ => by
  cases vs <;> cases ds <;> simp [DataW.TrodAll] at h
  exact ⟨(), rfl⟩
 | .pair a c, t :: ts, vs, ds, ps, hb, h, hw => by
  simp only [aZA, Bool.and_eq_true, decide_eq_true_eq] at hb
  cases vs <;> cases ds <;> simp only [DataW.TrodAll] at h
  rename_i v vs d ds
  obtain ⟨p, q, h1, h2, _⟩ := h
  obtain ⟨y, hy⟩ := aYl hT hb.1.1 hb.1.2 (hw 0 t v rfl rfl) h1
  obtain ⟨x, hx⟩ := aU1 hT c ts vs ds q hb.2 h2 (fun j t' v' e1 e2 => hw (j + 1) t' v' (by simpa using e1) (by simpa using e2))
  exact ⟨(y, x), v, vs, rfl, hy, hx⟩
end
end Go.Vc
namespace Go.Vc
attribute [go_sem] aRj aLP List.contains_cons List.contains_nil aGW aMZ aUX aTX aE0 aRi aWR aWS
attribute [go_sem] aWT aPe aLO aY2 nodupB aZw cZ emb aEZ aRS aTW aPc
attribute [go_sem] aFL qN oA aDg ren cU dI posOf bG aT jU dG
attribute [go_sem] jX aWX aTY AV.wfL AV.wfV Obj.wfL Obj.wfV List.all_cons List.all_nil List.range'_zero List.range'_succ List.zip_cons_cons
attribute [go_sem] List.zip_nil_left List.zip_nil_right List.drop_nil List.take_nil List.map_cons List.map_nil aSE aHo
end Go.Vc
