import Derived.Test.YtjfnadgkomdedaaGreatDoorZL5
import Derived.Shelf.Strings.Builder1
import Derived.Test.YtjfnadgkomdedaaGreatDoorZL4
import Derived.LaidMore
import Derived.LaidHandle
import Derived.MakeChecks
set_option linter.unusedVariables false
set_option linter.unusedSimpArgs false
namespace Go.Vc
open Go.RowKit
def ck {α : Type} (p : Prop) [Decidable p] (k : Option α) : Option α := if p then k else none
theorem aI {α : Type} {p : Prop} [Decidable p] {k : Option α} {r : α} (h : ck p k = some r) : p ∧ k = some r := by
 unfold ck at h
 split at h
 ·rename_i hp; exact ⟨hp, h⟩
 ·cases h
theorem aXR {α : Type} {p : Prop} [Decidable p] {k : Option α} (hp : p) : ck p k = k := if_pos hp
theorem dT {α : Type} {p : Prop} [Decidable p] {x y : α} {r : α} (hp : p) (h : (if p then x else y) = r) : x = r := by rwa [if_pos hp] at h
theorem dP {α : Type} {p : Prop} [Decidable p] {x y : α} {r : α} (hp : ¬ p) (h : (if p then x else y) = r) : y = r := by rwa [if_neg hp] at h
abbrev I64 (x : Int) : Prop := -9223372036854775808 ≤ x ∧ x ≤ 9223372036854775807
abbrev I32 (x : Int) : Prop := -2147483648 ≤ x ∧ x ≤ 2147483647
section
variable {D E R : Type} {step : D → Option (D ⊕ E)}
def iter (step : D → Option (D ⊕ E)) : Nat → D → Option E
 | 0, _ => none
 | n + 1, d => match step d with
  | none => none
  | some (.inl d') => iter step n d'
  | some (.inr e) => some e
theorem aJx : ∀ {n : Nat} {d : D} {e : E}, iter step n d = some e → iter step (n + 1) d = some e
 | 0, d, e, h => by cases h
 | n + 1, d, e, h => by
  unfold iter at h ⊢
  cases hs : step d with
  | none => rw [hs] at h; cases h
  | some s =>
   rw [hs] at h
   cases s with
   | inl d' => exact aJx (n := n) h
   | inr e' => exact h
theorem aSW {n m : Nat} (hm : n ≤ m) {d : D} {e : E} (h : iter step n d = some e) : iter step m d = some e := by
 induction hm with
 | refl => exact h
 | step _ ih => exact aJx ih
theorem aO0 {n m : Nat} {d : D} {e e' : E} (h : iter step n d = some e) (h' : iter step m d = some e') : e = e' := by
 have h1 := aSW (Nat.le_max_left n m) h
 have h2 := aSW (Nat.le_max_right n m) h'
 rw [h1] at h2; exact Option.some.inj h2
open Classical in
noncomputable def aO1 (step : D → Option (D ⊕ E)) (d : D) : Option E := if h : ∃ e, ∃ n, iter step n d = some e then some (Classical.choose h) else none
theorem aJy {d : D} {e : E} : aO1 step d = some e ↔ ∃ n, iter step n d = some e := by
 unfold aO1
 constructor
 ·intro h
  split at h
  ·rename_i hx
   have := Classical.choose_spec hx
   rw [Option.some.inj h] at this; exact this
  ·cases h
 ·rintro ⟨n, h⟩
  have hx : ∃ e, ∃ n, iter step n d = some e := ⟨e, n, h⟩
  rw [dif_pos hx]
  obtain ⟨m, hm⟩ := Classical.choose_spec hx
  rw [aO0 hm h]
theorem aHc {n : Nat} {d : D} {e : E} (h : iter step n d = some e) : aO1 step d = some e := aJy.2 ⟨n, h⟩
theorem aFg {p : Nat → Prop} (h : ∃ n, p n) : ∃ n, p n ∧ ∀ m, p m → n ≤ m := by
 classical
 obtain ⟨n, hn⟩ := h
 induction n using Nat.strongRecOn with
 | _ n ih =>
  by_cases hh : ∃ m, m < n ∧ p m
  ·obtain ⟨m, hm, hp⟩ := hh; exact ih m hm hp
  ·exact ⟨n, hn, fun m hm => Nat.le_of_not_lt fun hlt => hh ⟨m, hlt, hm⟩⟩
open Classical in
noncomputable def aDW (step : D → Option (D ⊕ E)) (d : D) : Nat := if h : ∃ n, (iter step n d).isSome = true then Classical.choose (aFg h) else 0
theorem aSX {d : D} {e : E} (h : aO1 step d = some e) : iter step (aDW step d) d = some e ∧ ∀ m e', iter step m d = some e' → aDW step d ≤ m := by
 obtain ⟨n, hn⟩ := aJy.1 h
 have hx : ∃ n, (iter step n d).isSome = true := ⟨n, by rw [hn]; rfl⟩
 have hs := Classical.choose_spec (aFg hx)
 have e1 : aDW step d = Classical.choose (aFg hx) := by unfold aDW; rw [dif_pos hx]
 rw [← e1] at hs
 refine ⟨?_, fun m e' hm => hs.2 m (by rw [hm]; rfl)⟩
 cases hi : iter step (aDW step d) d with
 | none => have := hs.1; rw [hi] at this; cases this
 | some e' => rw [aO0 hi hn]
abbrev Md := Option Nat
noncomputable def dI (F : Md) (step : D → Option (D ⊕ E)) (d : D) : Option E := match F with
 | none => aO1 step d
 | some n => iter step n d
noncomputable abbrev aFh (step : D → Option (D ⊕ E)) (d : D) : Option E := dI none step d
theorem aO2 {d : D} {e : E} : aFh step d = some e ↔ ∃ n, iter step n d = some e := aJy
theorem aBw {n : Nat} {d : D} {e : E} (h : iter step n d = some e) : aFh step d = some e := aHc h
theorem aWB {F : Md} {d : D} {e : E} (h : dI F step d = some e) : aO1 step d = some e := by
 cases F with
 | none => exact h
 | some n => exact aHc h
def iM (A : D → Prop) (B : E → Prop) : D ⊕ E → Prop
 | .inl d => A d
 | .inr e => B e
theorem aMH {k : E → Option R} {r : R} {F : Md} {d : D} (hd : (dI F step d).bind k = some r) : ∃ s, step d = some s ∧ iM (fun d' => (dI F step d').bind k = some r ∧ aDW step d' < aDW step d) (fun e => k e = some r) s := by
 cases hl : dI F step d with
 | none => rw [hl] at hd; cases hd
 | some e =>
  rw [hl] at hd
  have hk : k e = some r := hd
  obtain ⟨hi, hmin⟩ := aSX (aWB hl)
  cases hn : aDW step d with
  | zero => rw [hn] at hi; cases hi
  | succ n =>
   rw [hn, iter] at hi
   split at hi
   ·cases hi
   ·rename_i d' hs
    have hz := aHc hi
    have hl' : dI F step d' = some e := by
     cases F with
     | none => exact hz
     | some m =>
      have hm : iter step m d = some e := hl
      cases m with
      | zero => cases hm
      | succ m =>
       rw [iter, hs] at hm
       exact aJx hm
    refine ⟨_, hs, ?_⟩
    refine ⟨by rw [hl']; exact hk, ?_⟩
    have := (aSX hz).2 n e hi
    show aDW step d' < n + 1
    omega
   ·rename_i e' hs
    refine ⟨_, hs, ?_⟩
    rw [Option.some.inj hi]; exact hk
theorem aMI {I : D → Prop} (μ : D → Nat) (f : D → E) (h : ∀ d, I d → (∃ d', step d = some (.inl d') ∧ I d' ∧ μ d' < μ d ∧ f d' = f d) ∨ step d = some (.inr (f d))) : ∀ d, I d → aFh step d = some (f d) := by
 have main : ∀ n d, μ d ≤ n → I d → ∃ m, iter step m d = some (f d) := by
  intro n
  induction n with
  | zero =>
   intro d hn hi
   rcases h d hi with ⟨d', _, _, hlt, _⟩ | hs
   ·omega
   ·exact ⟨1, by rw [iter, hs]⟩
  | succ n ih =>
   intro d hn hi
   rcases h d hi with ⟨d', hs, hi', hlt, hf⟩ | hs
   ·obtain ⟨m, hm⟩ := ih d' (by omega) hi'
    exact ⟨m + 1, by rw [iter, hs]; simp only; rw [hm, hf]⟩
   ·exact ⟨1, by rw [iter, hs]⟩
 intro d hi
 obtain ⟨m, hm⟩ := main (μ d) d (Nat.le_refl _) hi
 exact aBw hm
theorem uX {I : D → Prop} (μ : D → Nat) (Q : E → Prop) (h : ∀ d, I d → (∃ d', step d = some (.inl d') ∧ I d' ∧ μ d' < μ d) ∨ ∃ e, step d = some (.inr e) ∧ Q e) : ∀ d, I d → ∃ e, aFh step d = some e ∧ Q e := by
 have main : ∀ n d, μ d ≤ n → I d → ∃ m e, iter step m d = some e ∧ Q e := by
  intro n
  induction n with
  | zero =>
   intro d hn hi
   rcases h d hi with ⟨d', _, _, hlt⟩ | ⟨e, hs, hq⟩
   ·omega
   ·exact ⟨1, e, by rw [iter, hs], hq⟩
  | succ n ih =>
   intro d hn hi
   rcases h d hi with ⟨d', hs, hi', hlt⟩ | ⟨e, hs, hq⟩
   ·obtain ⟨m, e, hm, hq⟩ := ih d' (by omega) hi'
    exact ⟨m + 1, e, by rw [iter, hs]; exact hm, hq⟩
   ·exact ⟨1, e, by rw [iter, hs], hq⟩
 intro d hi
 obtain ⟨m, e, hm, hq⟩ := main (μ d) d (Nat.le_refl _) hi
 exact ⟨e, aBw hm, hq⟩
end
noncomputable def xL (F : Md) (k : IntKind) (a b : Nat) : Nat := match F with
 | none => aUa k a b
 | some _ => (a + (hO k - b)) % hO k
noncomputable def mulM (F : Md) (k : IntKind) (a b : Nat) : Nat := match F with
 | none => aUb k a b
 | some _ => (a * b) % hO k
noncomputable def aPE (F : Md) (k : IntKind) (a : Nat) : Nat := match F with
 | none => aUc k a
 | some _ => (0 + (hO k - a)) % hO k
theorem aSY {F : Md} {k : IntKind} {a b : Nat} : xL F k a b = aUa k a b := by
 cases F with
 | none => rfl
 | some _ => exact (aLK k a b).symm
theorem aWC {F : Md} {k : IntKind} {a b : Nat} : mulM F k a b = aUb k a b := by
 cases F with
 | none => rfl
 | some _ => exact (aSm k a b).symm
theorem aWD {F : Md} {k : IntKind} {a : Nat} : aPE F k a = aUc k a := by
 cases F with
 | none => rfl
 | some _ => exact (aSo k a).symm
theorem bH (F : Md) {k : IntKind} {a b : Nat} : aUa k a b = xL F k a b := aSY.symm
theorem bI (F : Md) {k : IntKind} {a b : Nat} : aUb k a b = mulM F k a b := aWC.symm
theorem bJ (F : Md) {k : IntKind} {a : Nat} : aUc k a = aPE F k a := aWD.symm
def rN (h : List Obj) : List (Nat ⊕ Obj) → List Obj
 | [] => []
 | .inl i :: r => h.getD i .dead :: rN h r
 | .inr o :: r => o :: rN h r
section
variable {F : Fr} {Q : Exit → Act → World → Prop} {env : St} {h : List Obj}
theorem jZ {x y : Code} {D : Type} (J : D → Prop) (keep : List Nat) (uE : D → St) (uO : D → List (Nat ⊕ Obj))
  (hx : Tri F x (Exit.then (fun a' w' => ∃ d' c', J d' ∧ Sim F.E F.M F.w0 F.nt F.ds c' (aG9 env keep (uE d')) (rN h (uO d')) a' w') Q) env h)
  (hy : ∀ d, J d → Tri F y Q (aG9 env keep (uE d)) (rN h (uO d))) : Tri F (.seq x y) Q env h :=
 aQC J (fun d => aG9 env keep (uE d)) (fun d => rN h (uO d)) hx hy
theorem hZ {x : Code} {D E R : Type} {G : Md} {step : D → Option (D ⊕ E)} {k : E → Option R} {r : R} {d0 : D} (keep : List Nat) (uE : D → St) (uO : D → List (Nat ⊕ Obj))
  (hd : (dI G step d0).bind k = some r) (hh : h = rN h (uO d0)) (hf : gR h env (aG9 env keep (uE d0)))
  (round : ∀ d s, step d = some s → iM (fun d' => (dI G step d').bind k = some r ∧ aDW step d' < aDW step d) (fun e => k e = some r) s → Tri F x (Exit.then (fun a' w' => ∃ d' c', ((dI G step d').bind k = some r ∧ aDW step d' < aDW step d) ∧ Sim F.E F.M F.w0 F.nt F.ds c' (aG9 env keep (uE d')) (rN h (uO d')) a' w') Q) (aG9 env keep (uE d)) (rN h (uO d))) : Tri F (.loop x) Q env h :=
 aQB (fun d => (dI G step d).bind k = some r) (aDW step) (fun d => aG9 env keep (uE d)) (fun d => rN h (uO d)) (aW d0 hd hh hf) fun d hi => by
  obtain ⟨s, h1, h2⟩ := aMH hi
  exact round d s h1 h2
end
theorem aO3 {F : Fr} {Q : Exit → Act → World → Prop} {env : St} {h : List Obj} {id : Nat} {ops : Array Oper} {t0 t3 t4 : Nat} {tt ty0 ty1 ty2 : TypeId} {pos1 pos2 : String} {aft1 aft2 : Array Edge} {ct : Ty} {xs : List ct.den} (hF : hU F)
  (hops : ops = #[⟨some t3, .move (.tmp t0), ty1, pos1, aft1, none⟩, ⟨some t4, .binOp .eql tt (.tmp t3) (.const (.slice none 0 0)) ty0, ty2, pos2, aft2, none⟩])
  (hT : F.E.T tt = some (.sl ct)) (hv : look env t0 = .val (.sl ct) xs)
  (hq : ∀ b : Bool, (b = true → xs = []) → At F (Q .normal) ((t4, .val .bool b) :: (t3, .val (.sl ct) xs) :: env) h) : Tri F (.region id ops false) Q env h := fun hok c a w hs => by
 simp only [fY, Bool.and_eq_true] at hok
 obtain ⟨⟨hok1, _⟩, _⟩ := hok
 subst hops
 have hall := List.all_eq_true.1 hok1
 have hk1 := hall ⟨some t3, .move (.tmp t0), ty1, pos1, aft1, none⟩ (by simp)
 have hk2 := hall ⟨some t4, .binOp .eql tt (.tmp t3) (.const (.slice none 0 0)) ty0, ty2, pos2, aft2, none⟩ (by simp)
 have h0 := hs.env t0
 rw [hv] at h0
 obtain ⟨⟨ad, len, cap, e1, e2⟩, _, e3⟩ := h0
 have hval : a.tmps.getD t0 Go.undef = .slice ad len cap := by
  have e3 := e3 rfl
  revert e1 e3
  generalize a.tmps.getD t0 Go.undef = sv
  intro e1 e3
  cases sv <;> simp [Value.cells] at e1 e3 <;> simp [e1]
 have h0 := hs.env t0
 rw [hv] at h0
 have s1 := hs.after hk1 (v := a.tmps.getD t0 Go.undef) (av := .val (.sl ct) xs) ⟨.refl _ _, hs.good, h0⟩
 have ht3 : t3 < a.tmps.size := by
  simp only [fG, Bool.and_eq_true] at hk1
  rw [hs.size]; simpa using hk1.2
 have s2 := s1.after hk2 (v := .bool ad.isNone) (av := .val .bool ad.isNone) ⟨.refl _ _, s1.good, vW _⟩
 refine wp_region ?_
 have run1 : (execOp a.eval ⟨some t3, .move (.tmp t0), ty1, pos1, aft1, none⟩).run F.P w = .ok (.value (a.tmps.getD t0 Go.undef)) w := by
  simp [execOp, Act.eval]
 have hget : (a.put (some t3) (a.tmps.getD t0 Go.undef)).eval (.tmp t3) = .slice ad len cap := by
  rw [hval]; simp [Act.eval, Act.put, ht3]
 obtain ⟨_, hd, _⟩ := eE (hF.env.T _ _ hT)
 have run2 : (execOp (a.put (some t3) (a.tmps.getD t0 Go.undef)).eval ⟨some t4, .binOp .eql tt (.tmp t3) (.const (.slice none 0 0)) ty0, ty2, pos2, aft2, none⟩).run F.P w = .ok (.value (.bool ad.isNone)) w := by
  have hc : (a.put (some t3) (a.tmps.getD t0 Go.undef)).eval (.const (.slice none 0 0)) = .slice none 0 0 := rfl
  have hq : ∀ d, (Op.equalIn (d + 1) tt (.slice ad len cap) (.slice none 0 0)).run F.P w = .ok ad.isNone w := fun d => by
   unfold Op.equalIn
   rw [Sem.run_bind, aV hd]
   cases ad <;> rfl
  have hb : (binOp .eql tt (.slice ad len cap) (.slice none 0 0)).run F.P w = .ok (.bool ad.isNone) w := by
   have e : binOp .eql tt (.slice ad len cap) (.slice none 0 0) = (do pure (.bool (← Op.equal tt (.slice ad len cap) (.slice none 0 0)))) := by unfold binOp; rfl
   rw [e, Sem.run_bind, Op.equal, show Op.maxDepth = (Op.maxDepth - 1) + 1 from rfl, hq]
   rfl
  have hg : (eqGuard .eql tt (.tmp t3) (.const (.slice none 0 0)) (.slice ad len cap) (.slice none 0 0)).run F.P w = .ok () w := by
   unfold eqGuard; rfl
  generalize hρ : (a.put (some t3) (a.tmps.getD t0 Go.undef)).eval = ρ at hget hc ⊢
  simp only [execOp, hget, hc]
  simp [hb, hg]
 have w1 : ∀ (o : Oper) (y : Nat → Option Bool), o.guard = none → Region.wanted o y = true := fun o y h => by simp [Region.wanted, h]
 show wpOps F.P _ _ [0, 1] a w
 unfold wpOps
 simp only [List.getElem?_toArray, List.getElem?_cons_zero]
 rw [if_pos (w1 _ _ rfl)]
 refine .inl ?_
 unfold Oper.wp
 rw [run1, Oper.upon_value]
 unfold wpOps
 simp only [List.getElem?_toArray, List.getElem?_cons_succ, List.getElem?_cons_zero]
 rw [if_pos (w1 _ _ rfl)]
 refine .inl ?_
 unfold Oper.wp
 rw [run2, Oper.upon_value]
 refine hq ad.isNone (fun hn => ?_) c _ w s2
 obtain ⟨_, _, _, e4⟩ := e2
 rcases e4 with e4 | ⟨b, off, e4, _⟩
 ·exact e4
 ·rw [e4] at hn; cases hn
theorem eM {F : Fr} {fn : Func} {S : Nat → Prop} {r : RK} {y : r.ty.den} {env : St} {h : List Obj} (hF : hU F) (l : List ResultVar) (hM : F.M = top S) (hds : F.ds = []) (hr : fn.results = l.toArray) (hy : (aR F.E.T h env l).1 ∧ gK h r y (aR F.E.T h env l).2) : At F (post F.P fn S F.w0 r y .ret) env h := fun c a w hs => by
 obtain ⟨us, q1, q2, q3⟩ := aDU (P := F.P) hF.env.T hs.good hs.env hr hy.1
 refine ⟨hs.defers.trans hds, aGr us, q1, aGr us, rfl, by have := hs.good.keeps; rw [hM] at this; exact this, ?_⟩
 exact aU0 (by rw [hM]) (by rw [hM]) hs.good q2 (fun i h1 h2 => q3 i h1 h2) hy.2
def aMJ (i : Nat) (t : Ty) (x : t.den) : AV → AV
 | .ptr j [] => if j = i then .roa t x else .ptr j []
 | .ptr j p => if j = i then .junk else .ptr j p
 | .agg _ => .junk
 | .tup _ => .junk
 | .fn f l1 l2 => if l1.contains i || l2.contains i then .junk else .fn f l1 l2
 | v => v
theorem Good.shut {M : Perm} {w0 : World} {c : Ctx} {h : List Obj} {w : World} (hg : Good M w0 c h w) {i n : Nat} {t : Ty} {x : t.den} (ho : h[i]? = some (.box n (.val t x))) :
  ∃ c', dE c w c' w ∧ c'.n = c.n ∧ Good M w0 c' (h.set i .dead) w ∧ ∀ v, aQ c w (.ptr i []) v → aQ c' w (.roa t x) v := by
 have hob := hg.objs i _ ho
 have hle : c.le (c.more (aN (c.hd i))) := ⟨fun b hb => .inl hb, Nat.le_refl _, fun _ _ => rfl⟩
 have hl : dE c w (c.more (aN (c.hd i))) w := ⟨hle, .refl _ _⟩
 have hil : i < h.length := jE ho
 have hcase : ∀ j oj, (h.set i .dead)[j]? = some oj → (j ≠ i ∧ h[j]? = some oj) ∨ (j = i ∧ oj = .dead) := fun j oj hj => by
  by_cases e : i = j
  ·subst e; simp [hil] at hj; exact .inr ⟨rfl, hj.symm⟩
  ·rw [List.getElem?_set_ne e] at hj; exact .inl ⟨fun h => e h.symm, hj⟩
 refine ⟨_, hl, rfl, ⟨by simp [Ctx.more, hg.n], hg.keeps, fun b hb => ?_, fun b hb hlt => ?_, fun j oj hj => ?_, fun j oj b hj hb => ?_, fun j k oj ok b hj hk hbj hbk => ?_, yU hg.root hle⟩, fun v hv => ?_⟩
 ·rcases hb with hb | hb
  ·exact hg.sfin b hb
  ·exact (hg.own i _ b ho hb).2.1
 ·rcases hb with hb | hb
  ·exact hg.src b hb hlt
  ·rcases (hg.own i _ b ho hb).1 with h1 | h1
   ·omega
   ·exact .inr h1
 ·rcases hcase j oj hj with ⟨hne, hj⟩ | ⟨rfl, rfl⟩
  ·exact (hg.objs j oj hj).keep hl (by rw [hg.n]; exact jE hj) rfl (fun _ _ => rfl)
  ·trivial
 ·rcases hcase j oj hj with ⟨hne, hj⟩ | ⟨rfl, rfl⟩
  ·obtain ⟨h1, h2, h3⟩ := hg.own j oj b hj (by cases oj <;> exact hb)
   refine ⟨h1, h2, fun hS => ?_⟩
   rcases hS with hS | hS
   ·exact h3 hS
   ·exact hne (hg.sep j i oj _ b hj ho (by cases oj <;> exact hb) hS)
  ·cases hb
 ·rcases hcase j oj hj with ⟨hnj, hj⟩ | ⟨rfl, rfl⟩
  ·rcases hcase k ok hk with ⟨hnk, hk⟩ | ⟨rfl, rfl⟩
   ·exact hg.sep j k oj ok b hj hk (by cases oj <;> exact hbj) (by cases ok <;> exact hbk)
   ·cases hbk
  ·cases hbj
 ·obtain ⟨b, cells, e, h1, h2, h3, h4⟩ := hob
  obtain ⟨⟨_, b', hb', e1⟩, _, e3⟩ := hv
  have e3 := e3 rfl
  rw [h1] at hb'
  simp only [aN, Option.some.injEq] at hb'
  subst hb'
  have ev : v = .pointer (some ⟨b, 0, none⟩) := by
   cases v <;> simp [Value.cells, kS] at e1 e3 <;> simp [e1]
  rw [ev]
  have h4 : aT w c.S t x cells.toList := h4
  refine aDH (ds := cells.toList) (.inr (by rw [h1]; rfl)) (aT.keep (fun b hb => .inl hb) (.refl _ _) _ _ _ h4) fun j u hj => ?_
  simp only [Nat.zero_add]
  unfold World.cell?
  simp only [h2]
  simpa using hj
theorem aWE {F : Fr} {K : Act → World → Prop} {env : St} {h : List Obj} (i : Nat) {n : Nat} {t : Ty} {x : t.den} (ho : h[i]? = some (.box n (.val t x))) (hk : At F K (env.map fun p => (p.1, aMJ i t x p.2)) (h.set i .dead)) : At F K env h := fun c a w hs => by
 obtain ⟨c', hl, hn, hg, hv⟩ := hs.good.shut ho
 refine hk c' a w ⟨hg, hs.glob.mono hl.le.S hl.same, fun s => ?_, hs.size, hs.defers⟩
 rw [aFf (aMJ i t x) rfl]
 have h0 := hs.env s
 generalize look env s = v at h0
 generalize a.tmps.getD s Go.undef = u at h0
 cases v with
 | ptr j p =>
  cases p with
  | nil =>
   simp only [aMJ]
   split
   ·rename_i e; subst e; exact hv u h0
   ·exact hl.val h0
  | cons _ _ =>
   simp only [aMJ]
   split
   ·trivial
   ·exact hl.val h0
 | fn f l1 l2 =>
  simp only [aMJ]
  split
  ·trivial
  ·exact hl.val h0
 | agg vs => trivial
 | tup vs => trivial
 | _ => exact hl.val h0
theorem zW {F : Fr} {x : Code} {Q : Exit → Act → World → Prop} {env : St} {h : List Obj} (i : Nat) {n : Nat} {t : Ty} {y : t.den} (ho : h[i]? = some (.box n (.val t y))) (hk : Tri F x Q (env.map fun p => (p.1, aMJ i t y p.2)) (h.set i .dead)) : Tri F x Q env h := fun hok => aWE i ho (hk hok)
def mSpec (a : Ty) (r : RK) (m : a.den → Option r.ty.den) : aF := ⟨a, r, fun x => (m x).isSome = true, fun x => (m x).getD r.ty.zero⟩
section
variable {P : Program} {E : Env}
theorem nY {f : FuncId} {fn : Func} {body : Code} {a : Ty} {r : RK} {m : a.den → Option r.ty.den} (hE : fU P E) (hf : P.funcs[f]? = some fn) (hb : fn.body = some body) (hok : fY fn.ntmps body = true) (hn : aKj a ≤ fn.ntmps)
  (ht : ∀ (w0 : World) (S : Nat → Prop) (x : a.den) (y : r.ty.den), a.wf x → m x = some y → Tri (fr P E S w0 fn.ntmps) body (post P fn S w0 r y) (bQ a x 0) []) : FOK P E.G f (mSpec a r m) :=
 aRH hE hf hb hok hn fun w0 S x hw hp => by
  have hp : (m x).isSome = true := hp
  obtain ⟨y, hy⟩ := Option.isSome_iff_exists.1 hp
  have e : (mSpec a r m).fn x = y := by show (m x).getD r.ty.zero = y; rw [hy]; rfl
  rw [e]
  exact ht w0 S x y hw hy
theorem aTQ {G : Nat → AV} {f : FuncId} {a : Ty} {r : RK} {m : a.den → Option r.ty.den} {pre : a.den → Prop} {fn : a.den → r.ty.den} (h : FOK P G f (mSpec a r m)) (hc : ∀ x, a.wf x → pre x → m x = some (fn x)) : FOK P G f ⟨a, r, pre, fn⟩ := fun w S vs x hS hG ha hp => by
 have hm := hc x (aF7 _ _ _ ha) hp
 have := h w S vs x hS hG ha (by show (m x).isSome = true; rw [hm]; rfl)
 have e : (mSpec a r m).fn x = fn x := by show (m x).getD r.ty.zero = fn x; rw [hm]; rfl
 rw [e] at this
 exact this
end
attribute [go_sem] rN aMJ
end Go.Vc
namespace Go.Vc
open Go.RowKit
def aU2 : List (FuncId × Hit) → FuncId → List AV → List Obj → Option Hit
 | [], _, _, _ => none
 | (k, t) :: r, f, vs, h => if k = f then some t else aU2 r f vs h
structure aJz (P : Program) (G : Nat → AV) (l : List (FuncId × Hit)) : Prop where
 ok : ∀ p ∈ l, GOK P G p.1 p.2.sp ∧ fnB P p.1 = true
theorem aJz.nil {P : Program} {G : Nat → AV} : aJz P G [] := ⟨fun p hp => by cases hp⟩
theorem aJz.cons {P : Program} {G : Nat → AV} {l : List (FuncId × Hit)} {f : FuncId} {t : Hit} (h : GOK P G f t.sp) (hf : fnB P f = true) (hl : aJz P G l) : aJz P G ((f, t) :: l) := by
 refine ⟨fun p hp => ?_⟩
 rcases List.mem_cons.1 hp with rfl | hp
 ·exact ⟨h, hf⟩
 ·exact hl.ok p hp
theorem aMK : ∀ {l : List (FuncId × Hit)} {f : FuncId} {vs : List AV} {h : List Obj} {t : Hit}, aU2 l f vs h = some t → (f, t) ∈ l
 | (k, s) :: r, f, vs, h, t, e => by
  simp only [aU2] at e
  split at e
  ·rename_i ek; subst ek; cases e; exact List.mem_cons_self
  ·exact List.mem_cons_of_mem _ (aMK e)
theorem aAP {P : Program} {f : FuncId} (h : fnB P f = true) : ∃ fn, P.funcs[f]? = some fn ∧ fn.name ≠ "runtime.NumGoroutine" ∧ fn.body.isSome = true := by
 unfold fnB at h
 split at h
 ·rename_i fn hf
  simp only [Bool.and_eq_true, decide_eq_true_eq] at h
  exact ⟨fn, hf, h⟩
 ·cases h
theorem aY {P : Program} {G : Nat → AV} {l : List (FuncId × Hit)} (h : aJz P G l) : aDT P G (aU2 l) :=
 ⟨fun f vs hh t e => (h.ok _ (aMK e)).1, fun f vs hh t e => aAP (h.ok _ (aMK e)).2⟩
theorem bind_some {α β : Type} {x : Option α} {k : α → Option β} {r : β} (h : x.bind k = some r) : ∃ e, x = some e ∧ k e = some r := by
 cases x with
 | none => cases h
 | some e => exact ⟨e, rfl, h⟩
def rpV : AV → AV
 | .val (.rp t) x => .roa t x
 | v => v
theorem aXS {c : Ctx} {w : World} {v : AV} {x : Value} (hv : aQ c w v x) : aQ c w (rpV v) x := by
 cases v with
 | val t y =>
  cases t with
  | rp t =>
   obtain ⟨⟨b, off, ds, e, hb, hd, hc⟩, _, h3⟩ := hv
   have h3 := h3 rfl
   have ex : x = .pointer (some ⟨b, off, none⟩) := by
    cases x <;> simp [Value.cells] at e h3 <;> simp [e]
   rw [ex]
   exact aDH hb hd hc
  | _ => exact hv
 | _ => exact hv
section
variable {P : Program} {E : Env}
theorem iT {f : FuncId} {fn : Func} {body : Code} {sp : iE} (hE : fU P E) (hf : P.funcs[f]? = some fn) (hb : fn.body = some body) (hok : fY fn.ntmps body = true) (hn : ∀ d, (sp.av d).length ≤ fn.ntmps)
  (ht : ∀ (c : Ctx) (w : World) (d : sp.D), AV.wfL (sp.av d) → Obj.wfL (sp.hp d) → sp.pre d → c.n = (sp.hp d).length → Tri ⟨P, E, GM sp c d, w, fn.ntmps, []⟩ body (bodyPost P fn (aHW sp c w d)) (aRQ ((sp.av d).map rpV) 0) (sp.hp d)) : GOK P E.G f sp := by
 intro c w d vs hp hin
 refine calls_of_wp hf hb ?_
 refine ht c w d (aPA hin.len hin.val) (aSR hin.good) hp hin.good.n hok c _ w ⟨hin.good, hin.glob, ?_, ?_, rfl⟩
 ·refine aPz _ vs.toList 0 (by rw [List.length_map]; exact hin.len) (fun i h1 h2 => ?_) fun i v hv => ?_
  ·rw [List.getElem_map]; exact aXS (hin.val i (by simpa using h1) h2)
  ·have hlt : i < vs.size := by
    rcases Nat.lt_or_ge i vs.size with hh | hh
    ·exact hh
    ·rw [List.getElem?_eq_none (by simpa using hh)] at hv; cases hv
   simp only [Nat.zero_add]
   have : vs[i]? = some v := by rw [← Array.getElem?_toList]; exact hv
   simp [Array.getElem?_append, hlt]
   rw [Array.getElem?_eq_getElem hlt] at this
   simpa using this
 ·have h1 := hin.len
  have h2 := hn d
  simp at h1
  simp
  omega
end
section
variable {P : Program} {E : Env} {M : Perm} {w0 : World} {nt : Nat} {ds : List Deferred} {h : List Obj} {env : St}
theorem aWF (hE : fU P E) {sb : List Nat} {Δ : FuncId → List AV → List Obj → Option Hit} (hΔ : aDT P E.G Δ) {ops : List Oper} {Q : Exit → Act → World → Prop} (hok : ∀ o ∈ ops, fG nt o = true) {K : St → List Obj → Prop} {Kp : Pan → St → List Obj → Prop}
  (hKp : ∀ p env h c a w u, Kp p env h → Sim E M w0 nt ds c env h a w → cR w c.S p.t p.x u → Q (.panic (aN7 p.k u)) a w) {i : Nat} (hil : i < ops.length) {env : St} {h : List Obj} {c : Ctx} {a : Act} {w : World} (hs : aEL E Δ sb ops (ops.drop i) env h K Kp) (hsim : Sim E M w0 nt ds c env h a w)
  {Kn : Act → World → Prop} (hn : ∀ env' h' c' a' w', aEL E Δ sb ops (ops.drop (i + 1)) env' h' K Kp → Sim E M w0 nt ds c' env' h' a' w' → Kn a' w') : wpOp P ops.toArray Q i Kn a w := by
 rw [List.drop_eq_getElem_cons hil] at hs
 have hokO := hok ops[i] (List.getElem_mem hil)
 have hput : ∀ (v : Value) (av : AV), aQ c w av v → Sim E M w0 nt ds c (tH ops[i].dst av env) h (a.put ops[i].dst v) w := fun v av hv => hsim.after hokO ⟨.refl _ _, hsim.good, hv⟩
 unfold wpOp
 simp only [List.getElem?_toArray, List.getElem?_eq_getElem hil]
 have hrun : aKl E Δ sb env h ops[i] (fun v h' => aEL E Δ sb ops (ops.drop (i + 1)) (tH ops[i].dst v env) h' K Kp) (fun p h' => Kp p env h') → Region.wanted ops[i] (yielded ops.toArray a.tmps) = true → (if Region.wanted ops[i] (yielded ops.toArray a.tmps) = true then Oper.wp P ops[i] a w Kn Q ∨ (ops[i].asks P a w ∧ LetsOut Q) else Kn (a.put ops[i].dst Go.undef) w) := fun h1 hw => by
  rw [if_pos hw]
  left
  refine aMD hE hΔ hsim hokO h1 (fun v h' c' u w' hk ha => hn _ _ c' _ w' hk (hsim.after hokO ha)) (fun p h' c' u w' hk hl hg hr => hKp p env h' c' a w' u hk (hsim.step hl hg) hr)
 have hskip : aEL E Δ sb ops (ops.drop (i + 1)) (tH ops[i].dst .undef env) h K Kp → Region.wanted ops[i] (yielded ops.toArray a.tmps) = false → (if Region.wanted ops[i] (yielded ops.toArray a.tmps) = true then Oper.wp P ops[i] a w Kn Q ∨ (ops[i].asks P a w ∧ LetsOut Q) else Kn (a.put ops[i].dst Go.undef) w) := fun h2 hw => by
  rw [if_neg (by rw [hw]; simp)]
  exact hn _ _ c _ w h2 (hput _ _ rfl)
 simp only [aEL] at hs
 cases hgd : ops[i].guard with
 | none =>
  rw [hgd] at hs
  exact hrun hs (by simp [Region.wanted, hgd])
 | some jp =>
  obtain ⟨j, pol⟩ := jp
  rw [hgd] at hs
  simp only at hs
  cases hdj : aGs ops j with
  | none => rw [hdj] at hs; exact hs.elim
  | some dj =>
   rw [hdj] at hs
   simp only at hs
   have hv := hsim.env dj
   split at hs
   ·rename_i b hb
    rw [hb] at hv
    have hb' := aC6 hv
    have hy := vC hok hsim.size hdj hb'
    simp only [yb] at hy
    by_cases e : b = pol
    ·exact hrun (hs.1 e) (by simp [Region.wanted, hgd, hy, e])
    ·have e' : b = !pol := by cases b <;> cases pol <;> simp_all
     exact hskip (hs.2 e') (by simp [Region.wanted, hgd, hy, e])
   ·rename_i hb
    rw [hb] at hv
    have hy := vC hok hsim.size hdj (v := Go.undef) hv
    exact hskip hs (by simp [Region.wanted, hgd, hy, Go.undef, yb])
   ·exact hs.elim
theorem aO4 (hE : fU P E) {sb : List Nat} {Δ : FuncId → List AV → List Obj → Option Hit} (hΔ : aDT P E.G Δ) {ops : List Oper} {Q : Exit → Act → World → Prop} (hok : ∀ o ∈ ops, fG nt o = true) {K : St → List Obj → Prop} {Kp : Pan → St → List Obj → Prop} (hK : ∀ env h c a w, K env h → Sim E M w0 nt ds c env h a w → Q .normal a w)
  (hKp : ∀ p env h c a w u, Kp p env h → Sim E M w0 nt ds c env h a w → cR w c.S p.t p.x u → Q (.panic (aN7 p.k u)) a w) {n : Nat} (ht : aGt n ops = true) :
  ∀ (m i : Nat), i + m = ops.length → n ≤ i → ∀ (listed : Array Bool), listed.size = ops.length → (∀ k, k < ops.length → (listed.getD k false = true ↔ k < i)) → ∀ (env : St) (h : List Obj) (c : Ctx) (a : Act) (w : World), aEL E Δ sb ops (ops.drop i) env h K Kp → Sim E M w0 nt ds c env h a w → wpAny P .any ops.toArray Q m listed a w
 | 0, i, hi, hni, listed, hsz, hl, env, h, c, a, w, hs, hsim => by
  rw [List.drop_eq_nil_of_le (by omega)] at hs
  refine ⟨?_, hK env h c a w hs hsim⟩
  rw [List.eq_nil_iff_forall_not_mem]
  intro j hj
  obtain ⟨h1, o, ho, _⟩ := mem_ready.1 hj
  have ho : ops[j]? = some o := by simpa using ho
  have hjl := iI.get_lt' ho
  have := (hl j hjl).2 (by omega)
  have hlt : j < listed.size := by omega
  simp [hlt] at h1 this
  rw [this] at h1; cases h1
 | m + 1, i, hi, hni, listed, hsz, hl, env, h, c, a, w, hs, hsim => by
  have hil : i < ops.length := by omega
  have hio : ops[i]? = some ops[i] := List.getElem?_eq_getElem hil
  refine ⟨fun hr => ?_, fun j hj => ?_⟩
  ·exfalso
   have hmem : i ∈ Region.ready .any ops.toArray listed := by
    rw [mem_ready]
    have hlt : i < listed.size := by omega
    have hun : ¬ listed.getD i false = true := fun h => by have := (hl i hil).1 h; omega
    refine ⟨by simp [hlt] at hun ⊢; exact hun, ops[i], by simp [hil], fun e he hb => ?_⟩
    exact (hl _ (by have := (iI ht hio).1 e he hb; omega)).2 ((iI ht hio).1 e he hb)
   rw [hr] at hmem; cases hmem
  ·obtain ⟨h1, o, ho, hall⟩ := mem_ready.1 hj
   have ho : ops[j]? = some o := by simpa using ho
   have hjl := iI.get_lt' ho
   have hji : j = i := by
    rcases Nat.lt_trichotomy j i with hlt | heq | hgt
    ·have := (hl j hjl).2 hlt
     have hlt : j < listed.size := by omega
     simp [hlt] at h1 this
     rw [this] at h1; cases h1
    ·exact heq
    ·have := (iI ht ho).2 (by omega) (fun k => k < ops.length → listed.getD k false = true) (fun k o' ho' hk e he hb => fun hlt => by
      have hkl := iI.get_lt' ho'
      have h3 := (iI ht ho').1 e he hb
      have := (hl k hkl).1 (hk hkl)
      exact (hl _ hlt).2 (by omega)) (fun e he hb _ => hall e he hb) i hgt hil
     have := (hl i hil).1 this
     omega
   subst hji
   refine aWF hE hΔ hok hKp hil hs hsim fun env' h' c' a' w' hs' hsim' => ?_
   refine aO4 hE hΔ hok hK hKp ht m (j + 1) (by omega) (by omega) (listed.setIfInBounds j true) (by simp [hsz]) (fun k hk => ?_) env' h' c' a' w' hs' hsim'
   by_cases e : j = k
   ·subst e
    have : j < listed.size := by omega
    simp [this]
   ·rw [getD_set_ne false e, hl k hk]
    omega
def aDX (ops : List Oper) (done : List Nat) : List Nat := (List.range ops.length).filter fun i => !done.contains i && (match ops[i]? with
 | some o => o.after.toList.all fun e => !Region.binds .any e || done.contains e.on
 | none => false)
def anyS (E : Env) (ops : List Oper) (K : St → List Obj → Prop) : Nat → List Nat → St → List Obj → Prop
 | 0, _, env, h => K env h
 | n + 1, done, env, h => ∀ i, i ∈ aDX ops done → match ops[i]? with
  | some o => o.guard = none ∧ (match wD E env h o with
   | (p, v, h') => p ∧ anyS E ops K n (i :: done) (tH o.dst v env) h')
  | none => False
def aSZ (ops : List Oper) : Bool := ops.zipIdx.all fun p => p.1.after.toList.all fun e => !Region.binds .any e || decide (e.on < p.2)
theorem aHZ : ∀ {l m : List Nat}, l.Nodup → (∀ x ∈ l, x ∈ m) → l.length ≤ m.length ∧ (l.length = m.length → ∀ x ∈ m, x ∈ l)
 | [], m, _, _ => ⟨by simp, fun h x hx => by
  have : m = [] := List.eq_nil_of_length_eq_zero (by simpa using h.symm)
  rw [this] at hx; cases hx⟩
 | a :: l, m, hn, hs => by
  have ha : a ∈ m := hs a (by simp)
  have hn' := List.nodup_cons.1 hn
  have hlen := List.length_erase_of_mem ha
  have hpos : 0 < m.length := List.length_pos_of_mem ha
  have rec_ := aHZ (l := l) (m := m.erase a) hn'.2 (fun x hx => by
   have hne : x ≠ a := fun e => hn'.1 (e ▸ hx)
   exact (List.mem_erase_of_ne hne).2 (hs x (by simp [hx])))
  refine ⟨by simp only [List.length_cons]; omega, fun h x hx => ?_⟩
  by_cases e : x = a
  ·subst e; simp
  ·have := rec_.2 (by simp only [List.length_cons] at h; omega) x ((List.mem_erase_of_ne e).2 hx)
   simp [this]
theorem aS0 (hE : fU P E) {ops : List Oper} {Q : Exit → Act → World → Prop} (hok : ∀ o ∈ ops, fG nt o = true) {K : St → List Obj → Prop} (hK : ∀ env h c a w, K env h → Sim E M w0 nt ds c env h a w → Q .normal a w) (hb : aSZ ops = true) :
  ∀ (n : Nat) (done : List Nat) (listed : Array Bool), listed.size = ops.length → (∀ k, k < ops.length → (listed.getD k false = true ↔ k ∈ done)) → done.length + n = ops.length → done.Nodup → (∀ k ∈ done, k < ops.length) → ∀ (env : St) (h : List Obj) (c : Ctx) (a : Act) (w : World), anyS E ops K n done env h → Sim E M w0 nt ds c env h a w → wpAny P .any ops.toArray Q n listed a w
 | 0, done, listed, hsz, hl, hn, hd, hlt, env, h, c, a, w, hs, hsim => by
  refine ⟨?_, hK env h c a w hs hsim⟩
  rw [List.eq_nil_iff_forall_not_mem]
  intro j hj
  obtain ⟨h1, o, ho, _⟩ := mem_ready.1 hj
  have ho : ops[j]? = some o := by simpa using ho
  have hjl := iI.get_lt' ho
  have hall : j ∈ done := by
   exact (aHZ hd (m := List.range ops.length) (fun k hk => List.mem_range.2 (hlt k hk))).2 (by simp; omega) j (List.mem_range.2 hjl)
  have := (hl j hjl).2 hall
  have hlt' : j < listed.size := by omega
  simp [hlt'] at h1 this
  rw [this] at h1; cases h1
 | n + 1, done, listed, hsz, hl, hn, hd, hlt, env, h, c, a, w, hs, hsim => by
  have hrd : ∀ j, j ∈ Region.ready .any ops.toArray listed → j ∈ aDX ops done ∧ j ∉ done ∧ j < ops.length := fun j hj => by
   obtain ⟨h1, o, ho, hall⟩ := mem_ready.1 hj
   have ho : ops[j]? = some o := by simpa using ho
   have hjl := iI.get_lt' ho
   have hlt' : j < listed.size := by omega
   have hnd : j ∉ done := fun hm => by
    have := (hl j hjl).2 hm
    simp [hlt'] at h1 this
    rw [this] at h1; cases h1
   refine ⟨?_, hnd, hjl⟩
   simp only [aDX, List.mem_filter, List.mem_range, ho, Bool.and_eq_true, Bool.not_eq_true', List.contains_eq_mem, decide_eq_false_iff_not, List.all_eq_true, Bool.or_eq_true, decide_eq_true_eq]
   refine ⟨hjl, hnd, fun e he => ?_⟩
   cases hbe : Region.binds .any e with
   | false => exact .inl rfl
   | true =>
    right
    have h5 := hall e (by simpa using he) hbe
    rcases Nat.lt_or_ge e.on ops.length with hh | hh
    ·exact (hl _ hh).1 h5
    ·simp [show ¬ e.on < listed.size by omega] at h5
  refine ⟨fun hr => ?_, fun j hj => ?_⟩
  ·exfalso
   have hex : ∃ k, (k < ops.length ∧ k ∉ done) ∧ ∀ j, j < k → ¬ (j < ops.length ∧ j ∉ done) := by
    have hex : ∃ k, k < ops.length ∧ k ∉ done := by
     apply Classical.byContradiction
     intro hc
     have hsub : List.range ops.length ⊆ done := fun k hk => Classical.byContradiction fun hk2 => hc ⟨k, List.mem_range.1 hk, hk2⟩
     have := (aHZ (List.nodup_range (n := ops.length)) (fun k hk => hsub hk)).1
     simp at this
     omega
    obtain ⟨n, h1, h2⟩ := aFg hex
    exact ⟨n, h1, fun j hj hp => by have := h2 j hp; omega⟩
   obtain ⟨k, ⟨hk, hkd⟩, hlow⟩ := hex
   have hmem : k ∈ Region.ready .any ops.toArray listed := by
    rw [mem_ready]
    have hlt' : k < listed.size := by omega
    have hun : ¬ listed.getD k false = true := fun h => hkd ((hl k hk).1 h)
    refine ⟨by simp [hlt'] at hun ⊢; exact hun, ops[k], by simp [hk], fun e he hbe => ?_⟩
    have hbk := List.all_eq_true.1 hb (ops[k], k) (by rw [List.mem_zipIdx_iff_getElem?]; exact List.getElem?_eq_getElem hk)
    have hbk := List.all_eq_true.1 hbk e (Array.mem_toList_iff.2 he)
    rw [hbe] at hbk
    simp at hbk
    have hne := hlow e.on hbk
    exact (hl _ (by omega)).2 (Classical.byContradiction fun hd => hne ⟨by omega, hd⟩)
   rw [hr] at hmem; cases hmem
  ·obtain ⟨r1, r2, r3⟩ := hrd j hj
   have hs := hs j r1
   have hjo : ops[j]? = some ops[j] := List.getElem?_eq_getElem r3
   rw [hjo] at hs
   obtain ⟨hg, hp, hrest⟩ := hs
   have hokO := hok ops[j] (List.getElem_mem r3)
   have hw : Region.wanted ops[j] (yielded ops.toArray a.tmps) = true := by simp [Region.wanted, hg]
   unfold wpOp
   simp only [List.getElem?_toArray, hjo]
   rw [if_pos hw]
   left
   refine (aHT hE hsim hokO hp).wp fun v w' c' ha => ?_
   refine aS0 hE hok hK hb n (j :: done) (listed.setIfInBounds j true) (by simp [hsz]) (fun k hk => ?_) (by simp; omega) (List.nodup_cons.2 ⟨r2, hd⟩) (fun k hk => ?_) _ _ c' _ w' hrest (hsim.after hokO ha)
   ·by_cases e : j = k
    ·subst e
     have : j < listed.size := by omega
     simp [this]
    ·rw [getD_set_ne false e, hl k hk]
     constructor
     ·intro h; exact List.mem_cons_of_mem _ h
     ·intro h; exact (List.mem_cons.1 h).resolve_left (fun e' => e e'.symm)
   ·rcases List.mem_cons.1 hk with rfl | hk
    ·exact r3
    ·exact hlt k hk
theorem aFi {F : Fr} {Q : Exit → Act → World → Prop} {env : St} {h : List Obj} (hF : hU F) {id : Nat} {ops : Array Oper} (keep : List Nat) (env' : St) (h' : List Obj) (hb : aSZ ops.toList = true)
  (hv : anyS F.E ops.toList (fun e o => keep.map (fun t => (t, look e t)) = env' ∧ o = h') ops.toList.length [] env h) (hk : At F (Q .normal) env' h') : Tri F (.region id ops true) Q env h := fun hok c a w hs => by
 simp only [fY, Bool.and_eq_true, Bool.or_eq_true, Bool.not_eq_true'] at hok
 obtain ⟨⟨h1, h2⟩, h3⟩ := hok
 refine wp_region_any hF.mix ?_
 have hlat : dE c w c { w with drawn := w.drawn + 1 } := ⟨.refl _, fun b hb => rfl⟩
 have hdr : Sim F.E F.M F.w0 F.nt F.ds c env h a { w with drawn := w.drawn + 1 } :=
  ⟨hs.good.step hlat rfl rfl ⟨rfl, rfl, rfl, Nat.le_refl _, fun _ _ _ => rfl⟩ (fun _ _ _ _ _ => rfl) hs.good.sfin (fun _ hb => .inl hb), oW.mono (w := w) (w' := { w with drawn := w.drawn + 1 }) (fun _ hb => hb) hlat.same hs.glob, hs.env.keep hlat, hs.size, hs.defers⟩
 have := aS0 (Q := Q) hF.env (List.all_eq_true.1 h1) (K := fun e o => keep.map (fun t => (t, look e t)) = env' ∧ o = h') (fun e o c a w hkk hs => by
  obtain ⟨rfl, rfl⟩ := hkk
  exact hk c a w (hs.keep keep)) hb ops.toList.length [] (Array.replicate ops.size false) (by simp) (fun k hk => by rw [vD]; simp) (by simp) List.nodup_nil (fun k hk => by cases hk) env h c a _ hv hdr
 simpa using this
def aML (F : Fr) (Δ : FuncId → List AV → List Obj → Option Hit) (Q : Exit → Act → World → Prop) (keep sb : List Nat) (all pre tail : List Oper) (env : St) (h : List Obj) (acc : List Ent) : Prop :=
 aEL F.E Δ sb all tail (oX F.E.T (fK pre 0) (mA acc env) h).1 (oX F.E.T (fK pre 0) (mA acc env) h).2 (fun env h => At F (Q .normal) (keep.map fun t => (t, look env t)) h) (fun p env h => AtP F Q p env h)
theorem sB {F : Fr} {Q : Exit → Act → World → Prop} {env : St} {h : List Obj} (hF : hU F) {Δ : FuncId → List AV → List Obj → Option Hit} (hΔ : aDT F.P F.E.G Δ) {id : Nat} {ops : Array Oper} (n : Nat) (hst : (aMl (ops.toList.take n) && aCb (ops.toList.take n) && aGt (ops.toList.take n).length ops.toList) = true) (keep sb : List Nat)
  (hv : vcA F.E h env (ops.toList.take n) 0 [] (aML F Δ Q keep sb ops.toList (ops.toList.take n) (ops.toList.drop n) env h)) : Tri F (.region id ops true) Q env h := fun hok c a w hs => by
 simp only [fY, Bool.and_eq_true, Bool.or_eq_true, Bool.not_eq_true'] at hok
 obtain ⟨⟨h1, h2⟩, h3⟩ := hok
 simp only [Bool.and_eq_true] at hst
 obtain ⟨⟨t1, t2⟩, t3⟩ := hst
 have e : ops.toList.take n ++ ops.toList.drop n = ops.toList := List.take_append_drop n ops.toList
 have := aOT (id := id) (pre := ops.toList.take n) (tail := ops.toList.drop n) (Q := Q) hF.env hF.mix (by rw [e]; exact List.all_eq_true.1 h1) t2 t1 (by rw [e]; exact t3) hs (K' := fun env h => aEL F.E Δ sb ops.toList (ops.toList.drop n) env h (fun env h => At F (Q .normal) (keep.map fun t => (t, look env t)) h) (fun p env h => AtP F Q p env h)) hv
  (fun env h c a w listed hsz hl hk hsim => by
   rw [e] at hsz hl ⊢
   exact aO4 (K := fun env h => At F (Q .normal) (keep.map fun t => (t, look env t)) h) (Kp := fun p env h => AtP F Q p env h) hF.env hΔ (List.all_eq_true.1 h1) (fun env h c a w hk hs => hk c a w (hs.keep keep)) (fun p env h c a w u hk hs hr => hk c a w u hs hr) t3 (ops.toList.drop n).length (ops.toList.take n).length (by rw [← List.length_append, e]) (Nat.le_refl _) listed hsz hl env h c a w (by
    have e2 : ops.toList.drop (ops.toList.take n).length = ops.toList.drop n := by
     rw [List.length_take]
     rcases Nat.lt_or_ge n ops.toList.length with hh | hh
     ·rw [Nat.min_eq_left (Nat.le_of_lt hh)]
     ·rw [Nat.min_eq_right hh, List.drop_eq_nil_of_le (Nat.le_refl _), List.drop_eq_nil_of_le hh]
    rw [e2]; exact hk) hsim)
 rw [e] at this
 simpa using this
theorem aHd {f : FuncId} {fn : Func} {body : Code} {a : Ty} {r : RK} {m : a.den → Option r.ty.den} (hE : fU P E) (hf : P.funcs[f]? = some fn) (hb : fn.body = some body) (hok : fY fn.ntmps body = true) (hn : aKj a ≤ fn.ntmps)
  (ht : ∀ (w0 : World) (S : Nat → Prop) (x : a.den) (y : r.ty.den), a.wf x → m x = some y → Tri (fr P E S w0 fn.ntmps) body (aSV P fn S w0 r y) (bQ a x 0) []) : FOK P E.G f (mSpec a r m) :=
 aWA hE hf hb hok hn fun w0 S x hw hp => by
  have hp : (m x).isSome = true := hp
  obtain ⟨y, hy⟩ := Option.isSome_iff_exists.1 hp
  have e : (mSpec a r m).fn x = y := by show (m x).getD r.ty.zero = y; rw [hy]; rfl
  rw [e]
  exact ht w0 S x y hw hy
def aRR : AV → Bool
 | .val _ _ => true
 | .tup vs => vs.all fun v => match v with | .val _ _ => true | _ => false
 | _ => false
theorem aTR {c : Ctx} {w : World} {σ : List Nat} {v : AV} {x : Value} (hp : aRR v = true) (hv : aQ c w v x) : aQ (c.ren σ) w v x := by
 cases v with
 | val t y => exact aLQ (σ := σ) hv
 | tup vs =>
  obtain ⟨xs, e, hl, hi⟩ := hv
  refine ⟨xs, e, hl, fun i h1 h2 => ?_⟩
  have hq := List.all_eq_true.1 hp vs[i] (List.getElem_mem h1)
  have := hi i h1 h2
  revert hq this
  generalize vs[i] = u
  intro hq this
  cases u <;> first | exact this | (simp at hq; done)
 | _ => simp [aRR] at hp
theorem jV {F : Fr} {fn : Func} {sp : iE} {c0 : Ctx} {d : sp.D} {env : St} {h h' : List Obj} {v : AV} (hF : hU F) (l : List ResultVar) (σ : List Nat) (hM : F.M = GM sp c0 d) (hds : F.ds = []) (hr : fn.results = l.toArray) (hnd : nodupB σ = true) (hpr : preB F.M.m σ = true) (hout : sp.out d = .ret v h') (hh : (σ.map fun i => iN σ (h.getD i .dead)) = h') (hfl : (match v with | .tup vs => vs.all aUY | _ => true) = true) (hpl : aRR v = true) (hy : (aR F.E.T h env l).1 ∧ rM h v (aR F.E.T h env l).2) :
  At F (bodyPost F.P fn (aHW sp c0 F.w0 d) .ret) env h := fun c a w hs => by
 subst hh
 obtain ⟨us, q1, q2, q3⟩ := aDU (P := F.P) hF.env.T hs.good hs.env hr hy.1
 refine ⟨hs.defers.trans hds, aGr us, q1, c.ren σ, ?_⟩
 rw [hout]
 refine ⟨aGr us, rfl, by rw [← hM]; exact hs.good.ren hnd hpr, aTR hpl ?_⟩
 have hy2 := hy.2
 generalize (aR F.E.T h env l).2 = rs at q2 q3 hy2
 cases v with
 | tup vs =>
  obtain ⟨h1, h2⟩ := hy2
  obtain ⟨k1, k2⟩ := aPB hs.good h2 q2 q3
  refine ⟨us, ?_, k1, fun i p1 p2 => ?_⟩
  ·match us, q2 with
   | [], _ => rfl
   | [x], q2 => exact absurd q2.symm h1
   | a :: b :: r, _ => rfl
  ·have hfi := List.all_eq_true.1 hfl vs[i] (List.getElem_mem p1)
   exact aSS (k2 i p1 p2).1 (k2 i p1 p2).2 (fun l e => by rw [e] at hfi; cases hfi) (fun e => by rw [e] at hfi; cases hfi)
 | _ =>
  match rs, hy2 with
  | [u], hy2 =>
   match us, q2 with
   | [x], _ => exact aLO hs.good hy2 (q3 0 (by simp) (by simp))
theorem aAQ {F : Fr} {fn : Func} {R : Ending → World → Prop} {env : St} {h : List Obj} (hk : At F (bodyPost F.P fn R .ret) env h) : At F (bodyPost F.P fn R .normal) env h := hk
end
attribute [go_sem] aU2 rpV
end Go.Vc
namespace Go.Vc
open Go.RowKit
theorem aU3 (n : Nat) : ((no_index (OfNat.ofNat n) : Nat) : Int) = OfNat.ofNat n := rfl
def sat {α : Type} (o : Option α) (Θ : α → Prop) : Prop := ∃ x, o = some x ∧ Θ x
section
variable {α β : Type} {p : Prop} [Decidable p] {k x y : Option α} {Θ : α → Prop} {a : α}
theorem aL (h : sat (ck p k) Θ) : p ∧ sat k Θ := by
 obtain ⟨z, h1, h2⟩ := h
 obtain ⟨hp, hk⟩ := aI h1
 exact ⟨hp, z, hk, h2⟩
theorem jA (hp : p) (h : sat (if p then x else y) Θ) : sat x Θ := by rwa [if_pos hp] at h
theorem jB (hp : ¬ p) (h : sat (if p then x else y) Θ) : sat y Θ := by rwa [if_neg hp] at h
theorem aU {G : Prop} (h : sat (ck p k) Θ) (hg : p → sat k Θ → G) : p ∧ G := ⟨(aL h).1, hg (aL h).1 (aL h).2⟩
theorem dR {G1 G2 : Prop} (h : sat (if p then x else y) Θ) (h1 : p → sat x Θ → G1) (h2 : ¬ p → sat y Θ → G2) : (p → G1) ∧ (¬ p → G2) := ⟨fun c => h1 c (jA c h), fun c => h2 c (jB c h)⟩
theorem fZ {G1 G2 : Prop} {m n : Int} (h : sat (if m < n then x else y) Θ) (h1 : m < n → sat x Θ → G1) (h2 : n ≤ m → sat y Θ → G2) : (m < n → G1) ∧ (n ≤ m → G2) := ⟨fun c => h1 c (jA c h), fun c => h2 c (jB (Int.not_lt.2 c) h)⟩
theorem aPF {G1 G2 : Prop} {m n : Int} (h : sat (if m ≤ n then x else y) Θ) (h1 : m ≤ n → sat x Θ → G1) (h2 : n < m → sat y Θ → G2) : (m ≤ n → G1) ∧ (n < m → G2) := ⟨fun c => h1 c (jA c h), fun c => h2 c (jB (Int.not_le.2 c) h)⟩
theorem aH0 {G1 G2 : Prop} {b : Bool} (h : sat (if b = true then x else y) Θ) (h1 : b = true → sat x Θ → G1) (h2 : ¬ b = true → sat y Θ → G2) : (b = true → G1) ∧ (¬ b = true → G2) := dR h h1 h2
theorem aFj {G1 G2 : Prop} {b : Bool} (h : sat (if ¬ b = true then x else y) Θ) (h1 : b = false → sat x Θ → G1) (h2 : ¬ b = false → sat y Θ → G2) : (b = false → G1) ∧ (¬ b = false → G2) :=
 ⟨fun c => h1 c (jA (by rw [c]; decide) h), fun c => h2 c (jB (fun n => c (by simpa using n)) h)⟩
theorem aC (h : sat (some a) Θ) : Θ a := by
 obtain ⟨z, h1, h2⟩ := h
 cases h1; exact h2
theorem aDe {P : Prop} (h : sat none Θ) : P := by
 obtain ⟨z, h1, h2⟩ := h
 cases h1
theorem aJ {o : Option β} {f : β → Option α} (h : sat (o.bind f) Θ) : ∃ z, o = some z ∧ sat (f z) Θ := by
 obtain ⟨r, h1, h2⟩ := h
 cases o with
 | none => cases h1
 | some z => exact ⟨z, rfl, r, h1, h2⟩
end
inductive Pl where
 | A (keep : List Nat)
 | B (keep : List Nat)
 | C (n : Nat) (keep : List Nat)
 | stop
structure PlR where
 reg : List (Nat × Pl)
 stops : List (Nat × Nat)
def aWG : List (Nat × Pl) → Nat → Pl
 | [], _ => .stop
 | (i, p) :: r, id => match decide (i = id) with
  | true => p
  | false => aWG r id
def first : Code → Nat
 | .region id _ _ => id + 3
 | .seq x _ => first x
 | .block _ x => first x
 | .loop x => first x
 | .scope x => first x
 | .skip => 1
 | .label _ => 1
 | .ret => 0
 | _ => 2
def aQQ : List (Nat × Nat) → Code → Code → Bool
 | [], _, _ => false
 | (a, b) :: r, x, y => match decide (a = first x) with
  | true => match decide (b = first y) with
   | true => true
   | false => aQQ r x y
  | false => aQQ r x y
def aXT (V : St → List Obj → Prop) (K : Exit → St → List Obj → Prop) : Exit → St → List Obj → Prop := fun e env h => match e with
 | .normal => V env h
 | e => K e env h
def aWH (id : Nat) (K : Exit → St → List Obj → Prop) : Exit → St → List Obj → Prop := fun e env h => match e with
 | .normal => K .normal env h
 | .exit j => match decide (j = id) with
  | true => K .normal env h
  | false => K (.exit j) env h
 | .ret => K .ret env h
 | _ => False
def aYd (K : Exit → St → List Obj → Prop) : Exit → St → List Obj → Prop := fun e env h => match e with
 | .normal => K .normal env h
 | .exit j => K (.exit j) env h
 | .ret => K .ret env h
 | _ => False
def vcC (F : Fr) (p : PlR) : Code → (Exit → St → List Obj → Prop) → (Exit → Act → World → Prop) → St → List Obj → Prop
 | .skip, K, _, env, h => K .normal env h
 | .label _, K, _, env, h => K .normal env h
 | .exit id, K, _, env, h => K (.exit id) env h
 | .ret, K, _, env, h => K .ret env h
 | .seq x y, K, Q, env, h => match aQQ p.stops x y with
  | true => Tri F (.seq x y) Q env h
  | false => vcC F p x (aXT (vcC F p y K Q) K) (Exit.then (Next F y Q) Q) env h
 | .cond o x y, K, Q, env, h => match evA F.E.G env o with
  | .val .bool b => (b = true → vcC F p x K Q env h) ∧ (¬ b = true → vcC F p y K Q env h)
  | _ => False
 | .block id x, K, Q, env, h => vcC F p x (aWH id K) (Exit.inBlock id Q) env h
 | .scope x, K, Q, env, h => vcC F p x (aYd K) (Exit.noGoto Q) env h
 | .region id ops draw, K, Q, env, h => match aWG p.reg id with
  | .A keep => vcA F.E h env ops.toList 0 [] (fun acc => K .normal (aK2 keep acc env) h)
  | .B keep => draw = false ∧ qS F.E ops.toList ops.toList env h (fun env h => K .normal (keep.map fun t => (t, look env t)) h)
  | .C n keep => (draw = true ∧ (aMl (ops.toList.take n) && aCb (ops.toList.take n) && aGt (ops.toList.take n).length ops.toList) = true) ∧
    vcA F.E h env (ops.toList.take n) 0 [] (fun acc => qS F.E ops.toList (ops.toList.drop n) (oX F.E.T (fK (ops.toList.take n) 0) (mA acc env) h).1 (oX F.E.T (fK (ops.toList.take n) 0) (mA acc env) h).2 (fun env h => K .normal (keep.map fun t => (t, look env t)) h))
  | .stop => Tri F (.region id ops draw) Q env h
 | c, _, Q, env, h => Tri F c Q env h
section
variable {F : Fr} {p : PlR}
theorem aS1 (hF : hU F) {K : Exit → St → List Obj → Prop} {Q : Exit → Act → World → Prop} (hK : ∀ e env h, K e env h → At F (Q e) env h) {id : Nat} {ops : Array Oper} {draw : Bool} {keep : List Nat} {env : St} {h : List Obj}
  (hv : vcA F.E h env ops.toList 0 [] (fun acc => K .normal (aK2 keep acc env) h)) : Tri F (.region id ops draw) Q env h := fun hok c a w hs => by
 simp only [fY, Bool.and_eq_true, Bool.or_eq_true, Bool.not_eq_true'] at hok
 obtain ⟨⟨h1, h2⟩, h3⟩ := hok
 have hfin : ∀ acc c' a' w', K .normal (aK2 keep acc env) h → dE c w c' w' → c'.n = c.n → Sim F.E F.M F.w0 F.nt F.ds c' (mA acc env) h a' w' → Q .normal a' w' := fun acc c' a' w' hk _ _ hs' => by
  have := hs'.keep keep
  refine hK _ _ _ hk c' a' w' ?_
  have e : aK2 keep acc env = keep.map fun t => (t, look (mA acc env) t) := by
   simp only [aK2, aQA]
  rw [e]; exact this
 cases draw with
 | false => exact aQx (ops := ops.toList) hF.env (List.all_eq_true.1 h1) h2 hs hv hfin
 | true => exact aHO (ops := ops.toList) hF.env hF.mix (List.all_eq_true.1 h1) h2 (h3.resolve_left (by simp)) hs hv hfin
theorem aS2 (hF : hU F) {K : Exit → St → List Obj → Prop} {Q : Exit → Act → World → Prop} (hK : ∀ e env h, K e env h → At F (Q e) env h) {id : Nat} {ops : Array Oper} {keep : List Nat} {env : St} {h : List Obj}
  (hv : qS F.E ops.toList ops.toList env h (fun env h => K .normal (keep.map fun t => (t, look env t)) h)) : Tri F (.region id ops false) Q env h := fun hok c a w hs => by
 simp only [fY, Bool.and_eq_true, Bool.or_eq_true, Bool.not_eq_true'] at hok
 obtain ⟨⟨h1, h2⟩, h3⟩ := hok
 refine wp_region ?_
 have := aHU (Q := Q) hF.env (List.all_eq_true.1 h1) (K := fun env h => K .normal (keep.map fun t => (t, look env t)) h) (fun env h c a w hk hs => hK _ _ _ hk c a w (hs.keep keep)) ops.toList.length 0 (by simp) env h c a w (by simpa using hv) hs
 simpa [List.range_eq_range'] using this
theorem aWI (hF : hU F) {K : Exit → St → List Obj → Prop} {Q : Exit → Act → World → Prop} (hK : ∀ e env h, K e env h → At F (Q e) env h) {id : Nat} {ops : Array Oper} (n : Nat) (hst : (aMl (ops.toList.take n) && aCb (ops.toList.take n) && aGt (ops.toList.take n).length ops.toList) = true) {keep : List Nat} {env : St} {h : List Obj}
  (hv : vcA F.E h env (ops.toList.take n) 0 [] (fun acc => qS F.E ops.toList (ops.toList.drop n) (oX F.E.T (fK (ops.toList.take n) 0) (mA acc env) h).1 (oX F.E.T (fK (ops.toList.take n) 0) (mA acc env) h).2 (fun env h => K .normal (keep.map fun t => (t, look env t)) h))) :
  Tri F (.region id ops true) Q env h := fun hok c a w hs => by
 simp only [fY, Bool.and_eq_true, Bool.or_eq_true, Bool.not_eq_true'] at hok
 obtain ⟨⟨h1, h2⟩, h3⟩ := hok
 simp only [Bool.and_eq_true] at hst
 obtain ⟨⟨t1, t2⟩, t3⟩ := hst
 have e : ops.toList.take n ++ ops.toList.drop n = ops.toList := List.take_append_drop n ops.toList
 have := aUN (id := id) (pre := ops.toList.take n) (tail := ops.toList.drop n) (Q := Q) hF.env hF.mix (by rw [e]; exact List.all_eq_true.1 h1) t2 t1 (by rw [e]; exact t3) hs (K' := fun env h => K .normal (keep.map fun t => (t, look env t)) h) (by rw [e]; exact hv) (fun env h c a w hk hs => hK _ _ _ hk c a w (hs.keep keep))
 rw [e] at this
 simpa using this
theorem aFk (hF : hU F) : ∀ (c : Code) (K : Exit → St → List Obj → Prop) (Q : Exit → Act → World → Prop), (∀ e env h, K e env h → At F (Q e) env h) → ∀ env h, vcC F p c K Q env h → Tri F c Q env h
 | .skip, K, Q, hK, env, h, hv => bM (hK _ _ _ hv)
 | .label _, K, Q, hK, env, h, hv => aTB (hK _ _ _ hv)
 | .exit _, K, Q, hK, env, h, hv => kT (hK _ _ _ hv)
 | .ret, K, Q, hK, env, h, hv => bX (hK _ _ _ hv)
 | .seq x y, K, Q, hK, env, h, hv => by
  unfold vcC at hv
  split at hv
  ·exact hv
  ·refine aA (aFk hF x _ _ (fun e env h hk => ?_) env h hv)
   cases e with
   | normal => exact aB (aFk hF y K Q hK env h hk)
   | _ => exact hK _ env h hk
 | .cond o x y, K, Q, hK, env, h, hv => by
  unfold vcC at hv
  split at hv
  ·rename_i b hb
   exact bF hb (fun e => aFk hF x K Q hK env h (hv.1 e)) (fun e => aFk hF y K Q hK env h (hv.2 (by rw [e]; decide)))
  ·exact hv.elim
 | .block id x, K, Q, hK, env, h, hv => by
  refine cB (aFk hF x _ _ (fun e env h hk => ?_) env h hv)
  cases e with
  | normal => exact hK .normal env h hk
  | ret => exact hK .ret env h hk
  | exit j =>
   simp only [aWH] at hk
   split at hk
   ·rename_i hd
    obtain rfl := of_decide_eq_true hd
    exact dG (hK .normal env h hk)
   ·rename_i hd
    exact aFe (of_decide_eq_false hd) (hK (.exit j) env h hk)
  | _ => exact hk.elim
 | .scope x, K, Q, hK, env, h, hv => by
  refine aTM (aFk hF x _ _ (fun e env h hk => ?_) env h hv)
  cases e with
  | normal => exact hK .normal env h hk
  | ret => exact hK .ret env h hk
  | exit j => exact hK (.exit j) env h hk
  | _ => exact hk.elim
 | .region id ops draw, K, Q, hK, env, h, hv => by
  unfold vcC at hv
  split at hv
  ·exact aS1 hF hK hv
  ·obtain ⟨rfl, hv⟩ := hv; exact aS2 hF hK hv
  ·obtain ⟨⟨rfl, hst⟩, hv⟩ := hv; exact aWI hF hK _ hst hv
  ·exact hv
 | .loop x, K, Q, hK, env, h, hv => hv
 | .rangeFunc _ _ _ _, K, Q, hK, env, h, hv => hv
 | .goto _, K, Q, hK, env, h, hv => hv
 | .refuse _, K, Q, hK, env, h, hv => hv
end
inductive Kt where
 | fin (Q : Exit → Act → World → Prop)
 | seq (y : Code) (k : Kt)
 | blk (id : Nat) (k : Kt)
 | scp (k : Kt)
 | stp (K : Act → World → Prop) (k : Kt)
def aGe (F : Fr) : Kt → Exit → Act → World → Prop
 | .fin Q => Q
 | .seq y k => Exit.then (Next F y (aGe F k)) (aGe F k)
 | .blk id k => Exit.inBlock id (aGe F k)
 | .scp k => Exit.noGoto (aGe F k)
 | .stp K k => Exit.then K (aGe F k)
def den (F : Fr) (p : PlR) : Kt → Exit → St → List Obj → Prop
 | .fin Q => fun e env h => At F (Q e) env h
 | .seq y k => aXT (vcC F p y (den F p k) (aGe F k)) (den F p k)
 | .blk id k => aWH id (den F p k)
 | .scp k => aYd (den F p k)
 | .stp K k => aXT (fun env h => At F K env h) (den F p k)
def vcT (F : Fr) (p : PlR) (c : Code) (k : Kt) (env : St) (h : List Obj) : Prop := vcC F p c (den F p k) (aGe F k) env h
section
variable {F : Fr} {p : PlR} {k : Kt} {env : St} {h : List Obj}
theorem yG (hF : hU F) : ∀ (k : Kt) (e : Exit) (env : St) (h : List Obj), den F p k e env h → At F (aGe F k e) env h
 | .fin Q, e, env, h, hk => hk
 | .seq y k, e, env, h, hk => by
  cases e with
  | normal => exact aB (aFk hF y _ _ (yG hF k) env h hk)
  | _ => exact yG hF k _ env h hk
 | .blk id k, e, env, h, hk => by
  cases e with
  | normal => exact yG hF k .normal env h hk
  | ret => exact yG hF k .ret env h hk
  | exit j =>
   simp only [den, aWH] at hk
   split at hk
   ·rename_i hd
    obtain rfl := of_decide_eq_true hd
    exact dG (yG hF k .normal env h hk)
   ·rename_i hd
    exact aFe (of_decide_eq_false hd) (yG hF k (.exit j) env h hk)
  | _ => exact hk.elim
 | .scp k, e, env, h, hk => by
  cases e with
  | normal => exact yG hF k .normal env h hk
  | ret => exact yG hF k .ret env h hk
  | exit j => exact yG hF k (.exit j) env h hk
  | _ => exact hk.elim
 | .stp K k, e, env, h, hk => by
  cases e with
  | normal => exact hk
  | _ => exact yG hF k _ env h hk
theorem aPG (hF : hU F) {c : Code} (hv : vcT F p c k env h) : Tri F c (aGe F k) env h := aFk hF c _ _ (yG hF k) env h hv
theorem aU4 : vcT F p .skip k env h = den F p k .normal env h := propext Iff.rfl
theorem aTS {l : Nat} : vcT F p (.label l) k env h = den F p k .normal env h := propext Iff.rfl
theorem aU5 {id : Nat} : vcT F p (.exit id) k env h = den F p k (.exit id) env h := propext Iff.rfl
theorem aWJ : vcT F p .ret k env h = den F p k .ret env h := propext Iff.rfl
theorem aWK {x y : Code} : vcT F p (.seq x y) k env h = match aQQ p.stops x y with
  | true => Tri F (.seq x y) (aGe F k) env h
  | false => vcT F p x (.seq y k) env h := propext Iff.rfl
theorem aU6 {o : Operand} {x y : Code} : vcT F p (.cond o x y) k env h = match evA F.E.G env o with
  | .val .bool b => (b = true → vcT F p x k env h) ∧ (¬ b = true → vcT F p y k env h)
  | _ => False := propext Iff.rfl
theorem aTT {id : Nat} {x : Code} : vcT F p (.block id x) k env h = vcT F p x (.blk id k) env h := propext Iff.rfl
theorem aTU {x : Code} : vcT F p (.scope x) k env h = vcT F p x (.scp k) env h := propext Iff.rfl
theorem aU7 {x : Code} : vcT F p (.loop x) k env h = Tri F (.loop x) (aGe F k) env h := propext Iff.rfl
theorem aRS {id : Nat} {ops : Array Oper} {draw : Bool} : vcT F p (.region id ops draw) k env h = match aWG p.reg id with
  | .A keep => vcA F.E h env ops.toList 0 [] (fun acc => den F p k .normal (aK2 keep acc env) h)
  | .B keep => draw = false ∧ qS F.E ops.toList ops.toList env h (fun env h => den F p k .normal (keep.map fun t => (t, look env t)) h)
  | .C n keep => (draw = true ∧ (aMl (ops.toList.take n) && aCb (ops.toList.take n) && aGt (ops.toList.take n).length ops.toList) = true) ∧
    vcA F.E h env (ops.toList.take n) 0 [] (fun acc => qS F.E ops.toList (ops.toList.drop n) (oX F.E.T (fK (ops.toList.take n) 0) (mA acc env) h).1 (oX F.E.T (fK (ops.toList.take n) 0) (mA acc env) h).2 (fun env h => den F p k .normal (keep.map fun t => (t, look env t)) h))
  | .stop => Tri F (.region id ops draw) (aGe F k) env h := propext Iff.rfl
theorem aWL {Q : Exit → Act → World → Prop} {e : Exit} : den F p (.fin Q) e env h = At F (Q e) env h := propext Iff.rfl
theorem aU8 {y : Code} : den F p (.seq y k) .normal env h = vcT F p y k env h := propext Iff.rfl
theorem aU9 {y : Code} {id : Nat} : den F p (.seq y k) (.exit id) env h = den F p k (.exit id) env h := propext Iff.rfl
theorem aVa {y : Code} : den F p (.seq y k) .ret env h = den F p k .ret env h := propext Iff.rfl
theorem aVb {id : Nat} : den F p (.blk id k) .normal env h = den F p k .normal env h := propext Iff.rfl
theorem aVc {id j : Nat} : den F p (.blk id k) (.exit j) env h = match decide (j = id) with
  | true => den F p k .normal env h
  | false => den F p k (.exit j) env h := propext Iff.rfl
theorem aVd {id : Nat} : den F p (.blk id k) .ret env h = den F p k .ret env h := propext Iff.rfl
theorem aVe : den F p (.scp k) .normal env h = den F p k .normal env h := propext Iff.rfl
theorem aVf {j : Nat} : den F p (.scp k) (.exit j) env h = den F p k (.exit j) env h := propext Iff.rfl
theorem aVg : den F p (.scp k) .ret env h = den F p k .ret env h := propext Iff.rfl
theorem aVh {K : Act → World → Prop} : den F p (.stp K k) .normal env h = At F K env h := propext Iff.rfl
theorem aVi {K : Act → World → Prop} {j : Nat} : den F p (.stp K k) (.exit j) env h = den F p k (.exit j) env h := propext Iff.rfl
theorem aVj {K : Act → World → Prop} : den F p (.stp K k) .ret env h = den F p k .ret env h := propext Iff.rfl
theorem aWM {E : Env} {i : Nat} {acc : List Ent} {K : List Ent → Prop} : vcA E h env [] i acc K = K acc := propext Iff.rfl
theorem aVk {E : Env} {o : Oper} {r : List Oper} {i : Nat} {acc : List Ent} {K : List Ent → Prop} : vcA E h env (o :: r) i acc K = match o.dst, opA E h env acc o with
  | some d, (p, v) => aCa acc o.guard ∧ (fX acc (aBq acc o.guard) → p) ∧ vcA E h env r (i + 1) (⟨i, d, aBq acc o.guard, v⟩ :: acc) K
  | none, _ => False := propext (by rw [vcA]; exact Iff.rfl)
theorem aVl {E : Env} {all : List Oper} {K : St → List Obj → Prop} : qS E all [] env h K = K env h := propext Iff.rfl
theorem aTV {E : Env} {all : List Oper} {o : Oper} {r : List Oper} {K : St → List Obj → Prop} : qS E all (o :: r) env h K = match o.guard with
  | none => match wD E env h o with
   | (p, v, h') => p ∧ qS E all r (tH o.dst v env) h' K
  | some (j, pol) => match aGs all j with
   | some dj => match look env dj with
    | .val .bool b => (b = pol → match wD E env h o with
      | (p, v, h') => p ∧ qS E all r (tH o.dst v env) h' K) ∧ (b = !pol → qS E all r (tH o.dst .undef env) h K)
    | .undef => qS E all r (tH o.dst .undef env) h K
    | _ => False
   | none => False := propext (by rw [qS] <;> exact Iff.rfl)
def VOK (F : Fr) (p : PlR) : Prop := hU F
theorem dU (hF : VOK F p) {x y : Code} {D : Type} (J : D → Prop) (keep : List Nat) (uE : D → St) (uO : D → List (Nat ⊕ Obj))
  (hx : vcT F p x (.stp (fun a' w' => ∃ d' c', J d' ∧ Sim F.E F.M F.w0 F.nt F.ds c' (aG9 env keep (uE d')) (rN h (uO d')) a' w') k) env h)
  (hy : ∀ d, J d → vcT F p y k (aG9 env keep (uE d)) (rN h (uO d))) : Tri F (.seq x y) (aGe F k) env h :=
 aQC J (fun d => aG9 env keep (uE d)) (fun d => rN h (uO d)) (aPG hF hx) (fun d hd => aPG hF (hy d hd))
theorem cI (hF : VOK F p) {x : Code} {D E R : Type} {G : Md} {step : D → Option (D ⊕ E)} {kk : E → Option R} {Θ : R → Prop} {d0 : D} (keep : List Nat) (uE : D → St) (uO : D → List (Nat ⊕ Obj))
  (hd : sat ((dI G step d0).bind kk) Θ) (hh : h = rN h (uO d0)) (hf : gR h env (aG9 env keep (uE d0)))
  (round : ∀ d (A : D → Prop) (B : D ⊕ E → Prop), (∀ x, B (.inl x) → A x) → (∀ e, B (.inr e) → sat (kk e) Θ) → sat (step d) B → vcT F p x (.stp (fun a' w' => ∃ d' c', A d' ∧ Sim F.E F.M F.w0 F.nt F.ds c' (aG9 env keep (uE d')) (rN h (uO d')) a' w') k) (aG9 env keep (uE d)) (rN h (uO d))) : Tri F (.loop x) (aGe F k) env h := by
 obtain ⟨r, hr, hΘ⟩ := hd
 refine aQB (fun d => (dI G step d).bind kk = some r) (aDW step) (fun d => aG9 env keep (uE d)) (fun d => rN h (uO d)) (aW d0 hr hh hf) fun d hi => ?_
 obtain ⟨s, h1, h2⟩ := aMH hi
 refine aPG hF (k := .stp _ k) (round d (fun d' => (dI G step d').bind kk = some r ∧ aDW step d' < aDW step d) (iM (fun d' => (dI G step d').bind kk = some r ∧ aDW step d' < aDW step d) (fun e => kk e = some r)) (fun _ hx => hx) (fun e he => ⟨r, he, hΘ⟩) ⟨s, h1, h2⟩)
theorem pD (hF : VOK F p) {id : Nat} {ops : Array Oper} {draw : Bool} (keep : List Nat) (hv : vcA F.E h env ops.toList 0 [] (fun acc => den F p k .normal (aK2 keep acc env) h)) : Tri F (.region id ops draw) (aGe F k) env h :=
 aS1 hF (yG hF k) hv
theorem aRT (hF : VOK F p) {id : Nat} {ops : Array Oper} (keep : List Nat) (hv : qS F.E ops.toList ops.toList env h (fun env h => den F p k .normal (keep.map fun t => (t, look env t)) h)) : Tri F (.region id ops false) (aGe F k) env h :=
 aS2 hF (yG hF k) hv
def aXk (P : Program) (fn : Func) (S : Nat → Prop) (w0 : World) (r : RK) (Θ : r.ty.den → Prop) : Exit → Act → World → Prop := fun e a w => ∃ y, Θ y ∧ post P fn S w0 r y e a w
theorem aG {F : Fr} {fn : Func} {S : Nat → Prop} {r : RK} {Θ : r.ty.den → Prop} {env : St} {h : List Obj} (hF : hU F) (l : List ResultVar) (hM : F.M = top S) (hds : F.ds = []) (hr : fn.results = l.toArray) {y : r.ty.den} (hy : Θ y) (hq : (aR F.E.T h env l).1 ∧ gK h r y (aR F.E.T h env l).2) : At F (aXk F.P fn S F.w0 r Θ .ret) env h :=
 fun c a w hs => ⟨y, hy, eM hF l hM hds hr hq c a w hs⟩
theorem bN {P : Program} {E : Env} {f : FuncId} {fn : Func} {body : Code} {a : Ty} {r : RK} {m : a.den → Option r.ty.den} (hE : fU P E) (hm : P.follows .mixedOrders = true) (hf : P.funcs[f]? = some fn) (hb : fn.body = some body) (hok : fY fn.ntmps body = true) (hn : aKj a ≤ fn.ntmps) (p : PlR)
  (ht : ∀ (w0 : World) (S : Nat → Prop) (x : a.den) (Θ : r.ty.den → Prop), a.wf x → sat (m x) Θ → VOK (fr P E S w0 fn.ntmps) p → vcT (fr P E S w0 fn.ntmps) p body (.fin (aXk P fn S w0 r Θ)) (bQ a x 0) []) : FOK P E.G f (mSpec a r m) :=
 nY hE hf hb hok hn fun w0 S x y hw hx => by
  have hF : hU (fr P E S w0 fn.ntmps) := ⟨hE, hm⟩
  have := aPG hF (ht w0 S x (fun z => z = y) hw ⟨y, hx, rfl⟩ hF)
  intro hok c a w hs
  refine wp_mono (this hok c a w hs) fun e a' w' hq => ?_
  obtain ⟨z, rfl, hz⟩ := hq
  exact hz
end
attribute [go_sem ↓] aU4 aTS aU5 aWJ aWK aU6 aTT aTU aU7 aRS
attribute [go_sem ↓] aWL aU8 aU9 aVa aVb aVc aVd aVe aVf aVg aVh aVi aVj
attribute [go_sem ↓] aWM aVk aVl aTV
attribute [go_sem] aWG first aQQ gR dM gK eq_self aU3
end Go.Vc
namespace Go.Vc
open Go.RowKit
end Go.Vc
namespace Go.Vc
open Go.RowKit
end Go.Vc
namespace Go.Vc
open Go.RowKit
def bitsOf (n : Nat) (done : List Nat) : List Bool := (List.range n).map fun i => done.contains i
def aYe (F : Fr) (inv : List Bool → St × List Obj) (downs : List (List Bool)) (bs' : List Bool) (d : Option Nat) (env : St) (r : Prop × AV × List Obj) : Prop := match r with
 | (p, v, h') => p ∧ bs' ∈ downs ∧ ∃ σ, nodupB σ = true ∧ preB F.M.m σ = true ∧ ((inv bs').1.map fun q => (q.1, ren σ (look (tH d v env) q.1))) = (inv bs').1 ∧ (σ.map fun j => iN σ (h'.getD j .dead)) = (inv bs').2
def stT (F : Fr) (ops : List Oper) (inv : List Bool → St × List Obj) (downs : List (List Bool)) (bs : List Bool) (i : Nat) : Prop :=
 match ops[i]? with
 | some o => o.guard = none ∧ aYe F inv downs (bs.set i true) o.dst (inv bs).1 (wD F.E (inv bs).1 (inv bs).2 o)
 | none => False
inductive Dk where
 | v (t : Nat) (x : AV)
 | mk (t : Nat) (o : Obj)
 | cp (t j : Nat)
 | st (i : Nat) (o : Obj)
def aVm : List Dk → List Bool → Nat → Nat
 | _, _, 0 => 0
 | .mk _ _ :: r, true :: bs, j + 1 => aVm r bs j + 1
 | _ :: r, _ :: bs, j + 1 => aVm r bs j
 | _, _, _ + 1 => 0
def aYf (ds : List Dk) (bs : List Bool) (n i : Nat) : Dk → Nat × AV
 | .v t x => (t, x)
 | .mk t _ => (t, .own (n + aVm ds bs i))
 | .cp t j => (t, .own (n + aVm ds bs j))
 | .st _ _ => (0, .junk)
def aVn (ds : List Dk) (bs : List Bool) (n : Nat) : List Dk → List Bool → Nat → St
 | _, [], _ => []
 | [], _ :: _, _ => []
 | .st _ _ :: r, true :: b, i => aVn ds bs n r b (i + 1)
 | d :: r, true :: b, i => aYf ds bs n i d :: aVn ds bs n r b (i + 1)
 | _ :: r, false :: b, i => aVn ds bs n r b (i + 1)
def aWN : List Dk → List Bool → List Obj
 | .mk _ o :: r, true :: b => o :: aWN r b
 | _ :: r, _ :: b => aWN r b
 | _, _ => []
def aWO : List Dk → List Bool → List Obj → List Obj
 | .st i o :: r, true :: b, h => aWO r b (h.set i o)
 | _ :: r, _ :: b, h => aWO r b h
 | _, _, h => h
def aYx (env : St) (h : List Obj) (ds : List Dk) (bs : List Bool) : St × List Obj := (aVn ds bs h.length ds bs 0 ++ env, aWO ds bs h ++ aWN ds bs)
def stL (F : Fr) (ops : List Oper) (inv : List Bool → St × List Obj) (downs : List (List Bool)) (bs : List Bool) : List Nat → Prop
 | [] => True
 | i :: r => stT F ops inv downs bs i ∧ stL F ops inv downs bs r
def stM (F : Fr) (ops : List Oper) (inv : List Bool → St × List Obj) (downs : List (List Bool)) : List (List Bool × List Nat) → Prop
 | [] => True
 | p :: r => stL F ops inv downs p.1 p.2 ∧ stM F ops inv downs r
attribute [go_sem] stM stL stT aYe aYx aVn aYf aWN aWO aVm bitsOf
end Go.Vc
namespace Go.Vc
open Go.RowKit
def pk (b : Bool) (i : Nat) : AV := bif b then .nilP else .ptr i []
theorem aWP {σ : List Nat} {b : Bool} {i : Nat} : eH σ (pk b i) = match posOf i σ with
 | some j => pk b j
 | none => bif b then .nilP else .junk := by
 cases b
 ·show eH σ (.ptr i []) = _
  simp only [eH]
  cases posOf i σ <;> rfl
 ·show eH σ .nilP = _
  simp only [eH]
  cases posOf i σ <;> rfl
theorem aWQ {μ : List Nat} {b : Bool} {i : Nat} : aHX μ (pk b i) = match μ[i]? with
 | some j => pk b j
 | none => bif b then .nilP else .junk := by
 cases b
 ·show aHX μ (.ptr i []) = _
  simp only [aHX]
  cases μ[i]? <;> rfl
 ·show aHX μ .nilP = _
  simp only [aHX]
  cases μ[i]? <;> rfl
theorem aTW {b : Bool} {i : Nat} : AV.solid1 (pk b i) = true := by cases b <;> rfl
theorem aXU {b : Bool} {i : Nat} : AV.nc1 (pk b i) = 1 := by cases b <;> rfl
section
variable {F : Fr} {K : Act → World → Prop} {env : St} {h : List Obj}
theorem aXV (i n : Nat) (e : TypeId) (ho : h[i]? = some (.box n (.agg [.nilP, .nilS]))) (hk : At F K env (h.set i (.box n (.agg [pk true i, .own h.length])) ++ [.row e (.u .u8) []])) : At F K env h := fun c a w hs => by
 have e1 : (c.push (.slice none 0 0)).hd c.n = .slice none 0 0 := by simp [Ctx.push]
 have hil : i < h.length := jE ho
 obtain ⟨g1, g2⟩ := hs.good.push (.refl nothing w) (o := .row e (.u .u8) []) (hv := .slice none 0 0) (by
  show vU _ _ _ _ _ _
  rw [e1]
  exact ⟨[], ⟨by simp, .inl ⟨rfl, rfl⟩⟩, ⟨rfl, [], rfl, rfl, fun i h => by simp at h⟩⟩) (fun b hb => by simp [dO, e1, aN] at hb)
 have ho' : (h ++ [Obj.row e (.u .u8) []])[i]? = some (.box n (.agg [.nilP, .nilS])) := by rw [List.getElem?_append_left hil]; exact ho
 obtain ⟨b, cells, e', q1, q2, q3, q4⟩ := g1.objs i _ ho'
 have hcells : aH (c.push (.slice none 0 0)) w (.agg [pk true i, .own h.length]) cells.toList := by
  simp only [aH] at q4 ⊢
  obtain ⟨c1, c2, hc, h1, c3, c4, hc2, h2, h3⟩ := q4
  refine ⟨c1, c2, hc, h1, c3, c4, hc2, ?_, h3⟩
  simp only [aH] at h2 ⊢
  rw [← hs.good.n]
  exact ⟨Nat.lt_succ_self _, by rw [h2, e1], by rw [e1]; trivial⟩
 have hob : dO (c.push (.slice none 0 0)) i (.box n (.agg [.nilP, .nilS])) b := by simp [dO, q1, aN]
 have key := g1.modify (o' := .box n (.agg [pk true i, .own h.length])) ho' hob (w' := w) rfl rfl rfl rfl (fun _ _ => rfl) ⟨b, cells, e', q1, q2, q3, hcells⟩ (fun b' hb' => by
  simp only [dO, q1, aN, Option.some.injEq] at hb'
  exact hb'.symm)
 rw [List.set_append_left _ _ hil] at key
 exact hk _ a w ⟨key.1, hs.glob.mono (fun _ h => h) (.refl _ _), fun t => g2.val (hs.env t), hs.size, hs.defers⟩
end
attribute [go_sem ↓] aWP aWQ aTW aXU
end Go.Vc
namespace Go.Proofs
open Go Go.Shelf
section
variable {P : Program} {ρ : Ren}
theorem aHe (w : World) (r : Option Nat) : w.grownBy w.drew r := ⟨rfl, rfl, rfl, Nat.le_refl _, fun _ _ _ => rfl⟩
theorem aPH (w : World) (g n : Nat) : w.grownBy (w.drew.freeze ⟨g, 0, none⟩ n) (some g) := by
 unfold World.freeze
 split
 ·exact aHe w _
 ·refine ⟨rfl, rfl, rfl, by simp, fun k hk hne => ?_⟩
  show (w.drew.heap.modify g _)[k]? = _
  rw [Array.getElem?_modify, if_neg (fun e => hne (by rw [e]))]
  rfl
theorem aRU (w : World) (o : Obj) (r : Option Nat) : w.grownBy (w.drew.alloc o) r := ⟨rfl, rfl, rfl, by show _ ≤ (w.drew.heap.push o).size; rw [Array.size_push]; exact Nat.le_succ _, fun k hk _ => Lib.alloc_old w.drew o k hk⟩
set_option maxHeartbeats 4000000 in
set_option maxRecDepth 100000 in
theorem aQR (L : Lays.n169 P ρ) (X : Builder.Extra P ρ) (b g cap : Nat) (p : Value) (cur : Array Value) (l : List UInt8) (w : World) (h0 : l ≠ []) (hbk : w.heap[b]? = some (.cells #[p, .slice (some ⟨g, 0, none⟩) l.length cap] (ρ.t 72) (0, 0)))
  (hg : w.heap[g]? = some (.cells cur (ρ.t 5) (0, 0))) (hnc : l.length ≤ cap) (hcm : cap ≤ maxLen) (hcs : cur.size = cap) (hcell : ∀ j x, l[j]? = some x → w.cell? ((⟨g, 0, none⟩ : Addr).add j) = some (.int .u8 x.toNat)) :
  Calls P (ρ.f 169) #[.pointer (some ⟨b, 0, none⟩)] w fun e w' => e = .returned (.string ⟨l.toArray⟩) ∧ w.grownBy w' (some g) := by
 have hl0 : l.length ≠ 0 := by simpa using h0
 have c1 : w.drew.cell? ⟨b, 1, none⟩ = some (.slice (some ⟨g, 0, none⟩) l.length cap) := by
  have : w.drew.heap[b]? = some (.cells #[p, .slice (some ⟨g, 0, none⟩) l.length cap] (ρ.t 72) (0, 0)) := hbk
  rw [Lib.cell_of_heap this]; rfl
 have hSD : (Builtin.unsafeSliceData_ #[(ρ.t 37)] (ρ.t 127) #[.slice (some ⟨g, 0, none⟩) l.length cap]).run P w.drew = .ok (.pointer (some ⟨g, 0, none⟩)) w.drew :=
  Lib.run_unsafeSliceData_row _ _ _ _ _ _ (by omega)
 have hUS : (Builtin.unsafeString_ #[(ρ.t 127), (ρ.t 3)] (ρ.t 9) #[.pointer (some ⟨g, 0, none⟩), .int .i64 l.length]).run P w.drew = .ok (.string ⟨l.toArray⟩) (w.drew.freeze ⟨g, 0, none⟩ l.length) := by
  refine Lib.run_unsafeString_row w.drew (ρ.t 127) (ρ.t 3) (ρ.t 9) (ρ.t 5) L.t127 X.cellsByte g cur.size (by have hg' : w.drew.heap[g]? = some (.cells cur (ρ.t 5) (0, 0)) := hg; simp [World.shape?, hg']) l h0 (by omega) (by unfold maxLen at hcm; omega) ?_
  exact hcell
 have mixed := L.mixed
 have t72 := L.t72; have a72 := L.a72; have z72 := L.z72; have v72 := L.v72; have u72 := run_underlying L.t72
 have t70 := L.t70; have a70 := L.a70; have z70 := L.z70; have v70 := L.v70; have u70 := run_underlying L.t70
 have t37 := L.t37; have a37 := L.a37; have z37 := L.z37; have v37 := L.v37; have u37 := run_underlying L.t37
 have t127 := L.t127; have a127 := L.a127; have z127 := L.z127; have v127 := L.v127; have u127 := run_underlying L.t127
 have t3 := L.t3; have a3 := L.a3; have z3 := L.z3; have v3 := L.v3; have u3 := run_underlying L.t3
 have t9 := L.t9; have a9 := L.a9; have z9 := L.z9; have v9 := L.v9; have u9 := run_underlying L.t9
 have t5 := X.t5; have a5 := X.a5; have z5 := X.z5; have v5 := X.v5; have u5 := run_underlying X.t5
 go_enter L.f169, Body.n169_ntmps ρ
 go_wp2
 go_region_o
 all_goals (go_wp2; go_ret; exact ⟨rfl, aPH w g _⟩)
set_option maxHeartbeats 4000000 in
set_option maxRecDepth 100000 in
theorem aRV (L : Lays.n169 P ρ) (X : Builder.Extra P ρ) (b : Nat) (p : Value) (w : World) (hbk : w.heap[b]? = some (.cells #[p, .slice none 0 0] (ρ.t 72) (0, 0))) :
  Calls P (ρ.f 169) #[.pointer (some ⟨b, 0, none⟩)] w fun e w' => e = .returned (.string ⟨#[]⟩) ∧ w.grownBy w' none := by
 have hUS := Any.unsafeString_none L X
 have c1 : w.drew.cell? ⟨b, 1, none⟩ = some (.slice none 0 0) := by
  have : w.drew.heap[b]? = some (.cells #[p, .slice none 0 0] (ρ.t 72) (0, 0)) := hbk
  rw [Lib.cell_of_heap this]; rfl
 have hSD : (Builtin.unsafeSliceData_ #[(ρ.t 37)] (ρ.t 127) #[.slice none 0 0]).run P w.drew = .ok (.pointer none) w.drew := rfl
 have mixed := L.mixed
 have t72 := L.t72; have a72 := L.a72; have z72 := L.z72; have v72 := L.v72; have u72 := run_underlying L.t72
 have t70 := L.t70; have a70 := L.a70; have z70 := L.z70; have v70 := L.v70; have u70 := run_underlying L.t70
 have t37 := L.t37; have a37 := L.a37; have z37 := L.z37; have v37 := L.v37; have u37 := run_underlying L.t37
 have t127 := L.t127; have a127 := L.a127; have z127 := L.z127; have v127 := L.v127; have u127 := run_underlying L.t127
 have t3 := L.t3; have a3 := L.a3; have z3 := L.z3; have v3 := L.v3; have u3 := run_underlying L.t3
 have t9 := L.t9; have a9 := L.a9; have z9 := L.z9; have v9 := L.v9; have u9 := run_underlying L.t9
 have t5 := X.t5; have a5 := X.a5; have z5 := X.z5; have v5 := X.v5; have u5 := run_underlying X.t5
 go_enter L.f169, Body.n169_ntmps ρ
 go_wp2
 go_region_o
 all_goals (go_wp2; go_ret; exact ⟨rfl, aHe w _⟩)
set_option maxHeartbeats 4000000 in
set_option maxRecDepth 100000 in
theorem aN8 (L : Lays.n169 P ρ) (X : Builder.Extra P ρ) (b g : Nat) (p : Value) (cur : Array Value) (w : World) (hbk : w.heap[b]? = some (.cells #[p, .slice (some ⟨g, 0, none⟩) 0 0] (ρ.t 72) (0, 0))) (hg : w.heap[g]? = some (.cells cur (ρ.t 5) (0, 0))) :
  Calls P (ρ.f 169) #[.pointer (some ⟨b, 0, none⟩)] w fun e w' => e = .returned (.string ⟨#[]⟩) ∧ w.grownBy w' none := by
 have hUS := Any.unsafeString_none L X
 have hlt : b < w.heap.size := (Array.getElem?_eq_some_iff.1 hbk).1
 have c1 : w.drew.cell? ⟨b, 1, none⟩ = some (.slice (some ⟨g, 0, none⟩) 0 0) := by
  have : w.drew.heap[b]? = some (.cells #[p, .slice (some ⟨g, 0, none⟩) 0 0] (ρ.t 72) (0, 0)) := hbk
  rw [Lib.cell_of_heap this]; rfl
 have hSD : (Builtin.unsafeSliceData_ #[(ρ.t 37)] (ρ.t 127) #[.slice (some ⟨g, 0, none⟩) 0 0]).run P w.drew = .ok (.pointer (some ⟨w.drew.heap.size, 0, none⟩)) (w.drew.alloc (.view ⟨g, 0, none⟩ (ρ.t 5))) :=
  Lib.run_unsafeSliceData_zero w.drew _ _ (ρ.t 5) L.t127 ⟨g, 0, none⟩ 0 ((ρ.t 5), cur.size) (by have hg' : w.drew.heap[g]? = some (.cells cur (ρ.t 5) (0, 0)) := hg; simp [World.shape?, hg'])
 have c2 : (w.drew.alloc (.view ⟨g, 0, none⟩ (ρ.t 5))).cell? ⟨b, 1, none⟩ = some (.slice (some ⟨g, 0, none⟩) 0 0) := by
  have : (w.drew.alloc (.view ⟨g, 0, none⟩ (ρ.t 5))).heap[b]? = _ := (Lib.alloc_old w.drew _ b hlt).trans hbk
  rw [Lib.cell_of_heap this]; rfl
 have c3 : (w.alloc (.view ⟨g, 0, none⟩ (ρ.t 5))).drew.cell? ⟨b, 1, none⟩ = some (.slice (some ⟨g, 0, none⟩) 0 0) := c2
 have c0 : w.cell? ⟨b, 1, none⟩ = some (.slice (some ⟨g, 0, none⟩) 0 0) := c1
 have mixed := L.mixed
 have t72 := L.t72; have a72 := L.a72; have z72 := L.z72; have v72 := L.v72; have u72 := run_underlying L.t72
 have t70 := L.t70; have a70 := L.a70; have z70 := L.z70; have v70 := L.v70; have u70 := run_underlying L.t70
 have t37 := L.t37; have a37 := L.a37; have z37 := L.z37; have v37 := L.v37; have u37 := run_underlying L.t37
 have t127 := L.t127; have a127 := L.a127; have z127 := L.z127; have v127 := L.v127; have u127 := run_underlying L.t127
 have t3 := L.t3; have a3 := L.a3; have z3 := L.z3; have v3 := L.v3; have u3 := run_underlying L.t3
 have t9 := L.t9; have a9 := L.a9; have z9 := L.z9; have v9 := L.v9; have u9 := run_underlying L.t9
 have t5 := X.t5; have a5 := X.a5; have z5 := X.z5; have v5 := X.v5; have u5 := run_underlying X.t5
 go_enter L.f169, Body.n169_ntmps ρ
 go_wp2
 go_region_o
 all_goals (go_wp2; go_ret; exact ⟨rfl, aRU w _ _⟩)
set_option maxHeartbeats 4000000 in
set_option maxRecDepth 100000 in
theorem aQS (L : Lays.n169 P ρ) (X : Builder.Extra P ρ) (b g cap : Nat) (p : Value) (w : World) (hc0 : cap ≠ 0) (hbk : w.heap[b]? = some (.cells #[p, .slice (some ⟨g, 0, none⟩) 0 cap] (ρ.t 72) (0, 0))) :
  Calls P (ρ.f 169) #[.pointer (some ⟨b, 0, none⟩)] w fun e w' => e = .returned (.string ⟨#[]⟩) ∧ w.grownBy w' none := by
 have hUS := Any.unsafeString_none L X
 have c1 : w.drew.cell? ⟨b, 1, none⟩ = some (.slice (some ⟨g, 0, none⟩) 0 cap) := by
  have : w.drew.heap[b]? = some (.cells #[p, .slice (some ⟨g, 0, none⟩) 0 cap] (ρ.t 72) (0, 0)) := hbk
  rw [Lib.cell_of_heap this]; rfl
 have hSD : (Builtin.unsafeSliceData_ #[(ρ.t 37)] (ρ.t 127) #[.slice (some ⟨g, 0, none⟩) 0 cap]).run P w.drew = .ok (.pointer (some ⟨g, 0, none⟩)) w.drew :=
  Lib.run_unsafeSliceData_row _ _ _ _ _ _ hc0
 clear hc0
 have mixed := L.mixed
 have t72 := L.t72; have a72 := L.a72; have z72 := L.z72; have v72 := L.v72; have u72 := run_underlying L.t72
 have t70 := L.t70; have a70 := L.a70; have z70 := L.z70; have v70 := L.v70; have u70 := run_underlying L.t70
 have t37 := L.t37; have a37 := L.a37; have z37 := L.z37; have v37 := L.v37; have u37 := run_underlying L.t37
 have t127 := L.t127; have a127 := L.a127; have z127 := L.z127; have v127 := L.v127; have u127 := run_underlying L.t127
 have t3 := L.t3; have a3 := L.a3; have z3 := L.z3; have v3 := L.v3; have u3 := run_underlying L.t3
 have t9 := L.t9; have a9 := L.a9; have z9 := L.z9; have v9 := L.v9; have u9 := run_underlying L.t9
 have t5 := X.t5; have a5 := X.a5; have z5 := X.z5; have v5 := X.v5; have u5 := run_underlying X.t5
 go_enter L.f169, Body.n169_ntmps ρ
 go_wp2
 go_region_o
 all_goals (go_wp2; go_ret; exact ⟨rfl, aHe w _⟩)
end
end Go.Proofs
namespace Go.Vc
open Go.RowKit
section
variable {M : Perm} {w0 : World} {c : Ctx} {h : List Obj} {w : World}
def aVo (b : Bool) (B : Nat) : Value := bif b then .pointer none else .pointer (some ⟨B, 0, none⟩)
theorem aMM (hg : Good M w0 c h w) {tb e : TypeId} {b : Bool} {i j : Nat} {xs : List Nat} (hi : h[i]? = some (.box (4294967296 + tb) (.agg [pk b i, .own j]))) (hj : h[j]? = some (.row e (.u .u8) xs)) :
  ∃ B, c.hd i = .pointer (some ⟨B, 0, none⟩) ∧ w.heap[B]? = some (.cells #[aVo b B, c.hd j] tb (0, 0)) ∧ vU c w e (.u .u8) xs (c.hd j) := by
 obtain ⟨B, cells, e', q1, q2, q3, q4⟩ := hg.objs i _ hi
 have hr : vU c w e (.u .u8) xs (c.hd j) := hg.objs j _ hj
 simp only [aH] at q4
 obtain ⟨c1, c2, hc, h1, c3, c4, hc2, h2, h3⟩ := q4
 have h3 : c4 = [] := h3
 simp only [aH] at h2
 have e2 : c2 = [c.hd j] := by rw [hc2, h2.2.1, h3]; rfl
 have e1 : c1 = [aVo b B] := by
  cases b with
  | true => exact h1
  | false =>
   have h1 : aH c w (.ptr i []) c1 := h1
   simp only [aH] at h1
   obtain ⟨_, B', hB, hc1⟩ := h1
   rw [q1] at hB
   cases hB
   exact hc1
 have e3 : cells = #[aVo b B, c.hd j] := by
  rw [← Array.toList_inj, hc, e1, e2]; rfl
 subst e3
 have et : tb = e' := by
  rcases q3 with q3 | ⟨_, q3⟩
  ·have : (2 : Nat) = 4294967296 + tb := q3
   omega
  ·exact Nat.add_left_cancel q3
 subst et
 exact ⟨B, q1, q2, hr⟩
theorem aVp (hg : Good M w0 c h w) {tb e : TypeId} {b : Bool} {i j : Nat} {xs : List Nat} (hi : h[i]? = some (.box (4294967296 + tb) (.agg [pk b i, .own j]))) (hj : h[j]? = some (.row e (.u .u8) xs)) {B : Nat} (hB : c.hd i = .pointer (some ⟨B, 0, none⟩)) :
  Good M w0 c (h.set i (.box (4294967296 + tb) (.agg [pk false i, .own j]))) (w.setCell ⟨B, 0, none⟩ (.pointer (some ⟨B, 0, none⟩))) := by
 obtain ⟨B', q1, q2, q3⟩ := aMM hg hi hj
 rw [hB] at q1
 obtain rfl : B = B' := by cases q1; rfl
 have hob : dO c i (.box (4294967296 + tb) (.agg [pk b i, .own j])) B := by simp [dO, hB, aN]
 have hheap : (w.setCell ⟨B, 0, none⟩ (.pointer (some ⟨B, 0, none⟩))).heap[B]? = some (.cells #[.pointer (some ⟨B, 0, none⟩), c.hd j] tb (0, 0)) := by
  simp [World.setCell, Array.getElem?_modify, q2]
 have hjl := jE hj
 have hil := jE hi
 have hone : one (c.hd j) := by
  obtain ⟨vals, hown, _⟩ := q3
  obtain ⟨a, n, m, hsl⟩ := iD hown
  rw [hsl]; trivial
 exact (hg.modify (o' := .box (4294967296 + tb) (.agg [pk false i, .own j])) hi hob (w' := w.setCell ⟨B, 0, none⟩ (.pointer (some ⟨B, 0, none⟩))) rfl rfl rfl (by simp [World.setCell]) (fun k hk => by simp [World.setCell, Array.getElem?_modify, Ne.symm hk])
  ⟨B, _, tb, hB, hheap, .inr ⟨rfl, rfl⟩, by
   have key : jN c (w.setCell ⟨B, 0, none⟩ (.pointer (some ⟨B, 0, none⟩))) [pk false i, .own j] [.pointer (some ⟨B, 0, none⟩), c.hd j] := ?_
   ·simp only [aH]; exact key
   refine ⟨[.pointer (some ⟨B, 0, none⟩)], [c.hd j], rfl, ?_, [c.hd j], [], rfl, ?_, rfl⟩
   ·show aH c _ (.ptr i []) _
    simp only [aH]
    refine ⟨by rw [hg.n]; exact hil, B, by rw [hB]; rfl, ?_⟩
    first | rfl | trivial
   ·simp only [aH]
    refine ⟨by rw [hg.n]; exact hjl, ?_, hone⟩
    first | rfl | trivial⟩ (fun b' hb' => by simp only [dO, hB, aN, Option.some.injEq] at hb'; exact hb'.symm)).1
theorem aTX {e : TypeId} {xs : List Nat} {v : Value} (h : vU c w e (.u .u8) xs v) : ∃ l : List UInt8, xs = l.map (·.toNat) ∧ ((v = .slice none 0 0 ∧ l = []) ∨ ∃ g cap cur, v = .slice (some ⟨g, 0, none⟩) l.length cap ∧ w.heap[g]? = some (.cells cur e (0, 0)) ∧ l.length ≤ cap ∧ cap ≤ maxLen ∧ cur.size = cap ∧ ∀ j x, l[j]? = some x → w.cell? ((⟨g, 0, none⟩ : Addr).add j) = some (.int .u8 x.toNat)) := by
 obtain ⟨vals, hown, hl, css, hc, hcl, hr⟩ := h
 have key : ∀ i (h : i < xs.length) (h' : i < css.length), css[i] = [Value.int .u8 (xs[i] : Int)] ∧ xs[i] < 256 := fun i h h' => by
  obtain ⟨h1, _, h3⟩ := hr i h h'
  refine ⟨h1, ?_⟩
  simp only [IntKind.max, IntKind.signed, IntKind.bits] at h3
  simp at h3
  omega
 refine ⟨xs.map UInt8.ofNat, ?_, ?_⟩
 ·rw [List.map_map]
  apply List.ext_getElem
  ·simp
  ·intro i h1 h2
   have := (key i h1 (by have : css.length = xs.length := hcl; omega)).2
   simp only [List.getElem_map, Function.comp]
   rw [UInt8.toNat_ofNat']
   omega
 ·have hlen : (xs.map UInt8.ofNat).length = xs.length := by simp
  rcases hown.2 with ⟨h1, h2⟩ | ⟨g, cap, cur, hv, hbg, hg, hnc, hcm, hcs, htake⟩
  ·left; exact ⟨h1, by rw [List.eq_nil_of_length_eq_zero h2]; rfl⟩
  ·right
   refine ⟨g, cap, cur, by rw [hlen]; exact hv, hg, by rw [hlen]; exact hnc, hcm, by simpa [Ty.cells] using hcs, fun j x hx => ?_⟩
   have hj : j < xs.length := by
    rcases Nat.lt_or_ge j xs.length with h | h
    ·exact h
    ·rw [List.getElem?_eq_none (by simpa using h)] at hx; cases hx
   have hjc : j < css.length := by have : css.length = xs.length := hcl; omega
   have hx' : x = UInt8.ofNat xs[j] := by
    rw [List.getElem?_map, List.getElem?_eq_getElem hj] at hx
    simpa using hx.symm
   have hk := key j hj hjc
   have hval : vals[j]? = some (.int .u8 (xs[j] : Int)) := by
    obtain ⟨pre, post, hf, hpl⟩ := jX (t := .u .u8) (css := css) (fun q hq => aT.length _ _ _ (hr q (by have : css.length = xs.length := hcl; omega) hq)) j hjc
    rw [hc, hf, List.append_assoc, List.getElem?_append_right (by rw [hpl]; simp [Ty.cells]), hpl, hk.1]
    simp [Ty.cells]
   subst hv
   have := hown.cells (g := g) rfl j _ hval
   rw [this, hx', UInt8.toNat_ofNat', Nat.mod_eq_of_lt (by omega)]
theorem aVq (hg : Good M w0 c h w) {i j : Nat} (hm : M.m = 1) (hi : i = 0) {oi oj : Obj} (h2 : h = [oi, oj]) {w' : World} {g : Option Nat} (hgr : w.grownBy w' g) (hgb : ∀ b, g = some b → dO c 1 oj b) :
  Good M w0 ⟨c.S, c.hd, 1, c.bl⟩ [.dead] w' := by
 subst h2
 refine ⟨rfl, ⟨hgr.os.trans hg.keeps.os, hgr.tape.trans hg.keeps.tape, hgr.output.trans hg.keeps.output, Nat.le_trans hg.keeps.size hgr.size, fun b hb hM => ?_⟩, fun b hb => Nat.lt_of_lt_of_le (hg.sfin b hb) hgr.size, hg.src, fun k o ho => ?_, fun k o b ho hb => ?_, fun k l ok ol b hk hl hbk hbl => ?_, ⟨by rw [hm]; exact Nat.le_refl _, fun k hk => hg.root.2 k hk⟩⟩
 ·rw [hgr.block b (Nat.lt_of_lt_of_le hb hg.keeps.size) (fun e => ?_)]
  ·exact hg.keeps.block b hb hM
  ·have := hg.own 1 oj b rfl (hgb b e.symm)
   rcases this.1 with h | h
   ·omega
   ·exact hM h
 ·match k, ho with
  | 0, ho => cases ho; trivial
  | k + 1, ho => cases ho
 ·match k, ho with
  | 0, ho => cases ho; cases hb
  | k + 1, ho => cases ho
 ·match k, hk with
  | 0, hk => cases hk; cases hbk
  | k + 1, hk => cases hk
end
end Go.Vc
namespace Go.Vc
open Go.RowKit
def zX (ops : List Oper) (a b : Nat) : Bool := match ops[a]? with
 | some o => o.after.toList.any fun e => Region.binds .any e && e.on == b
 | none => false
def aBY (ops : List Oper) (i : Nat) : Option Nat := match ops[i]? with
 | some o => o.dst
 | none => none
def okK (ops : List Oper) (eff : List Nat) (i k : Nat) : Bool := (List.range eff.length).all fun m => bif m < k then !zX ops (eff.getD m 0) i && !(eff.getD m 0 == i) else !zX ops i (eff.getD m 0)
def aXW (ops : List Oper) (eff : List Nat) : Bool := (List.range eff.length).all fun m => m == 0 || zX ops (eff.getD m 0) (eff.getD (m - 1) 0)
def aYy (ops : List Oper) (us : List (List Nat)) : Bool := (List.range ops.length).all fun j => (us.getD j []).all fun u => (List.range ops.length).all fun i => !(aBY ops i == some u) || zX ops j i
def aYz (ops : List Oper) : Bool := (List.range ops.length).all fun i => (List.range ops.length).all fun j => i == j || (aBY ops i).isNone || !(aBY ops i == aBY ops j)
def aN9 (ops : List Oper) (xs : List AV) (env : St) (t : Nat) : AV := match (List.range ops.length).find? fun i => aBY ops i == some t with
 | some i => xs.getD i .junk
 | none => look env t
def stW (F : Fr) (ops : List Oper) (ues : List St) (xs : List AV) (hs : List (List Obj)) (eff : List Nat) (i k : Nat) : Prop :=
 match ops[i]? with
 | some o => o.guard = none ∧ match wD F.E (ues.getD i []) (hs.getD k []) o with
  | (p, v, h') => p ∧ v = xs.getD i .junk ∧ h' = hs.getD (bif eff.contains i then k + 1 else k) []
 | none => False
def aYg (F : Fr) (ops : List Oper) (ues : List St) (xs : List AV) (hs : List (List Obj)) (eff : List Nat) : List (Nat × Nat) → Prop
 | [] => True
 | p :: r => stW F ops ues xs hs eff p.1 p.2 ∧ aYg F ops ues xs hs eff r
structure aVr (ops : List Oper) (eff : List Nat) (us : List (List Nat)) : Prop where
 back : aSZ ops = true
 chain : ∀ m, m < eff.length → m ≠ 0 → zX ops (eff.getD m 0) (eff.getD (m - 1) 0) = true
 effn : eff.Nodup
 effl : ∀ m, m < eff.length → eff.getD m 0 < ops.length
 use : ∀ j, j < ops.length → ∀ u ∈ us.getD j [], ∀ i, i < ops.length → aBY ops i = some u → zX ops j i = true
 dst : ∀ i j t, i < ops.length → j < ops.length → aBY ops i = some t → aBY ops j = some t → i = j
theorem aWR {ops : List Oper} {eff : List Nat} {us : List (List Nat)} (hc : aVr ops eff us) {xs : List AV} {env : St} {t i : Nat} (hi : i < ops.length) (hd : aBY ops i = some t) : aN9 ops xs env t = xs.getD i .junk := by
 unfold aN9
 cases hf : (List.range ops.length).find? fun i => aBY ops i == some t with
 | none =>
  have := List.find?_eq_none.1 hf i (List.mem_range.2 hi)
  simp [hd] at this
 | some k =>
  have h1 := List.find?_some hf
  have h2 := List.mem_range.1 (List.mem_of_find?_eq_some hf)
  obtain rfl := hc.dst k i t h2 hi (by simpa using h1) hd
  rfl
theorem aWS {ops : List Oper} {xs : List AV} {env : St} {t : Nat} (h : ∀ i, i < ops.length → aBY ops i ≠ some t) : aN9 ops xs env t = look env t := by
 unfold aN9
 cases hf : (List.range ops.length).find? fun i => aBY ops i == some t with
 | none => rfl
 | some k =>
  have h1 := List.find?_some hf
  exact absurd (by simpa using h1) (h k (List.mem_range.1 (List.mem_of_find?_eq_some hf)))
structure aMN (ops : List Oper) (eff : List Nat) (xs : List AV) (env0 : St) (done : List Nat) (k : Nat) (env : St) : Prop where
 kle : k ≤ eff.length
 kd : ∀ m, m < eff.length → (eff.getD m 0 ∈ done ↔ m < k)
 cl : ∀ i ∈ done, ∀ b, zX ops i b = true → b ∈ done
 hit : ∀ i ∈ done, ∀ t, aBY ops i = some t → look env t = xs.getD i .junk
 miss : ∀ t, (∀ i ∈ done, aBY ops i ≠ some t) → look env t = look env0 t
theorem aMN.val {ops : List Oper} {eff : List Nat} {us : List (List Nat)} (hc : aVr ops eff us) {xs : List AV} {env0 env : St} {done : List Nat} {k : Nat} (hv : aMN ops eff xs env0 done k env) (t : Nat) (h : ∀ i, i < ops.length → aBY ops i = some t → i ∈ done) : aN9 ops xs env0 t = look env t := by
 by_cases hex : ∃ i, i < ops.length ∧ aBY ops i = some t
 ·obtain ⟨i, hi, hd⟩ := hex
  rw [aWR hc hi hd, hv.hit i (h i hi hd) t hd]
 ·have hno : ∀ i, i < ops.length → aBY ops i ≠ some t := fun i hi hd => hex ⟨i, hi, hd⟩
  rw [aWS hno, hv.miss t fun i _ hd => ?_]
  rcases Nat.lt_or_ge i ops.length with hi | hi
  ·exact hno i hi hd
  ·simp [aBY, List.getElem?_eq_none hi] at hd
theorem aBx {ops : List Oper} {done : List Nat} {j : Nat} (hr : j ∈ aDX ops done) : ∀ b, zX ops j b = true → b ∈ done := fun b hb => by
 simp only [aDX, List.mem_filter, List.mem_range, Bool.and_eq_true] at hr
 obtain ⟨h1, h2, h3⟩ := hr
 unfold zX at hb
 rw [List.getElem?_eq_getElem h1] at h3 hb
 simp only [List.all_eq_true, Bool.or_eq_true, List.any_eq_true, Bool.and_eq_true, beq_iff_eq] at h3 hb
 obtain ⟨e, he, hbe, rfl⟩ := hb
 rcases h3 e he with h | h
 ·rw [hbe] at h; simp at h
 ·simpa using h
theorem aQT {l : List Nat} {x : Nat} (h : x ∈ l) : ∃ m, m < l.length ∧ l.getD m 0 = x := by
 obtain ⟨m, hm, rfl⟩ := List.getElem_of_mem h
 exact ⟨m, hm, by simp [List.getD_eq_getElem?_getD, hm]⟩
theorem aMN.okk {ops : List Oper} {eff : List Nat} {us : List (List Nat)} {xs : List AV} {env0 env : St} {done : List Nat} {k j : Nat} (hv : aMN ops eff xs env0 done k env) (hr : j ∈ aDX ops done) (hnd : j ∉ done) : okK ops eff j k = true := by
 simp only [okK, List.all_eq_true, List.mem_range]
 intro m hm
 by_cases h : m < k
 ·rw [decide_eq_true h]
  simp only [cond_true, Bool.and_eq_true, Bool.not_eq_true', beq_eq_false_iff_ne, ne_eq]
  refine ⟨?_, fun e => hnd (e ▸ (hv.kd m hm).2 h)⟩
  cases hb : zX ops (eff.getD m 0) j with
  | false => rfl
  | true => exact absurd (hv.cl _ ((hv.kd m hm).2 h) j hb) hnd
 ·rw [decide_eq_false h]
  simp only [cond_false, Bool.not_eq_true']
  cases hb : zX ops j (eff.getD m 0) with
  | false => rfl
  | true => exact absurd ((hv.kd m hm).1 (aBx hr _ hb)) h
theorem aO5 {d : Option Nat} {v : AV} {env : St} {t : Nat} : look (tH d v env) t = if d = some t then v else look env t := by
 cases d with
 | none => simp [tH]
 | some d =>
  simp only [tH, look, Option.some.injEq]
theorem aMN.step {ops : List Oper} {eff : List Nat} {us : List (List Nat)} (hc : aVr ops eff us) {xs : List AV} {env0 env : St} {done : List Nat} {k j : Nat} (hv : aMN ops eff xs env0 done k env) (hr : j ∈ aDX ops done) (hnd : j ∉ done) (hjl : j < ops.length) (hlt : ∀ i ∈ done, i < ops.length) :
  aMN ops eff xs env0 (j :: done) (bif eff.contains j then k + 1 else k) (tH (aBY ops j) (xs.getD j .junk) env) := by
 have hnew : ∀ m, m < eff.length → eff.getD m 0 = j → m = k := fun m hm e => by
  have h1 : ¬ m < k := fun h => hnd (e ▸ (hv.kd m hm).2 h)
  rcases Nat.eq_zero_or_pos m with h0 | h0
  ·omega
  ·have := aBx hr _ (by rw [← e]; exact hc.chain m hm (by omega))
   have := (hv.kd (m - 1) (by omega)).1 this
   omega
 refine ⟨?_, fun m hm => ?_, fun i hi b hb => ?_, fun i hi t ht => ?_, fun t ht => ?_⟩
 ·cases hb : eff.contains j with
  | false => exact hv.kle
  | true =>
   obtain ⟨m, hm, e⟩ := aQT (List.contains_iff_mem.1 hb)
   have := hnew m hm e
   show k + 1 ≤ _
   omega
 ·cases hb : eff.contains j with
  | false =>
   have hne : eff.getD m 0 ≠ j := fun e => by
    have : j ∈ eff := by rw [← e]; simp only [List.getD_eq_getElem?_getD, List.getElem?_eq_getElem hm, Option.getD_some]; exact List.getElem_mem hm
    rw [List.contains_iff_mem.2 this] at hb; cases hb
   show _ ↔ m < k
   rw [← hv.kd m hm]
   simp only [List.mem_cons, hne, false_or]
  | true =>
   obtain ⟨n, hn, e⟩ := aQT (List.contains_iff_mem.1 hb)
   have hk := hnew n hn e
   show _ ↔ m < k + 1
   constructor
   ·intro h
    rcases List.mem_cons.1 h with h | h
    ·have := hnew m hm h; omega
    ·have := (hv.kd m hm).1 h; omega
   ·intro h
    rcases Nat.lt_or_ge m k with h' | h'
    ·exact List.mem_cons_of_mem _ ((hv.kd m hm).2 h')
    ·have : m = n := by omega
     subst this
     rw [e]; exact List.mem_cons_self
 ·rcases List.mem_cons.1 hi with rfl | hi
  ·exact List.mem_cons_of_mem _ (aBx hr b hb)
  ·exact List.mem_cons_of_mem _ (hv.cl i hi b hb)
 ·rw [aO5]
  rcases List.mem_cons.1 hi with rfl | hi
  ·rw [if_pos ht]
  ·by_cases e : aBY ops j = some t
   ·exact absurd (hc.dst i j t (hlt i hi) hjl ht e) (fun e => hnd (e ▸ hi))
   ·rw [if_neg e]; exact hv.hit i hi t ht
 ·rw [aO5, if_neg (ht j List.mem_cons_self)]
  exact hv.miss t fun i hi => ht i (List.mem_cons_of_mem _ hi)
attribute [go_sem] aYg stW
end Go.Vc
namespace Go.Vc
open Go.RowKit
def Ret (h h' : List Obj) : Prop := ∀ (M : Perm) (w0 : World) (c : Ctx) (w : World), Good M w0 c h w → ∃ c', dE c w c' w ∧ Good M w0 c' h' w
theorem eW {h : List Obj} : Ret h h := fun M w0 c w hg => ⟨c, .refl _ _, hg⟩
theorem aTY {a b d : List Obj} (h1 : Ret a b) (h2 : Ret b d) : Ret a d := fun M w0 c w hg => by
 obtain ⟨c1, l1, g1⟩ := h1 M w0 c w hg
 obtain ⟨c2, l2, g2⟩ := h2 M w0 c1 w g1
 exact ⟨c2, l1.trans l2, g2⟩
section
variable {P : Program} {E : Env} {M : Perm} {w0 : World} {nt : Nat} {ds : List Deferred}
theorem Sim.ret {c : Ctx} {env : St} {h h' : List Obj} {a : Act} {w : World} (hs : Sim E M w0 nt ds c env h a w) (hR : Ret h h') : ∃ c', Sim E M w0 nt ds c' env h' a w := by
 obtain ⟨c', hl, hg⟩ := hR _ _ _ _ hs.good
 exact ⟨c', hg, hs.glob.mono hl.le.S hl.same, fun s => hl.val (hs.env s), hs.size, hs.defers⟩
end
end Go.Vc
namespace Go.Vc
open Go.RowKit
section
variable {h : List Obj}
theorem eX (i : Nat) {n : Nat} {v : AV} {h' : List Obj} (ho : h[i]? = some (.box n v)) (hR : Ret (h.set i (.box n .junk)) h') : Ret h h' :=
 aTY (fun M w0 c w hg => by
  refine hg.retell ho (o' := .box n .junk) (S' := c.S) (B' := c.bl i) (fun b hb => .inl hb) (fun b hb => hb) ?_ (fun b hb => ?_)
  ·obtain ⟨b, cells, e, q1, q2, q3, q4⟩ := hg.objs i _ ho
   exact ⟨b, cells, e, q1, q2, q3, trivial⟩
  ·have hb : aN (c.hd i) = some b := hb
   have ho' : dO c i (.box n v) b := hb
   exact ⟨ho', (hg.own i _ b ho ho').2.2⟩) hR
end
theorem iK {F : Fr} {Q : Exit → Act → World → Prop} {p : Pan} {env : St} {h h' : List Obj} (hR : Ret h h') (hk : AtP F Q p env h') : AtP F Q p env h := fun c a w u hs hr => by
 obtain ⟨c', hl, hg⟩ := hR _ _ _ _ hs.good
 refine hk c' a w u ⟨hg, hs.glob.mono hl.le.S hl.same, fun s => hl.val (hs.env s), hs.size, hs.defers⟩ ?_
 exact hr.keep hl.le.S hl.same
end Go.Vc
namespace Go.Vc
open Go.RowKit
def aVs (F : Fr) (Q : Exit → Act → World → Prop) (Δ : FuncId → List AV → List Obj → Option Hit) (sb : List Nat) (ops : List Oper) (ues : List St) (xs : List AV) (hs : List (List Obj)) (eff : List Nat) (stop : Bool) (i k : Nat) : Prop :=
 match ops[i]? with
 | some o => o.guard = none ∧ aKl F.E Δ sb (ues.getD i []) (hs.getD k []) o (fun v h' => (stop && k + 1 == eff.length && eff.contains i) = false ∧ v = xs.getD i .junk ∧ h' = hs.getD (bif eff.contains i then k + 1 else k) []) (fun p h' => AtP F Q p [] h')
 | none => False
def aS3 (F : Fr) (Q : Exit → Act → World → Prop) (Δ : FuncId → List AV → List Obj → Option Hit) (sb : List Nat) (ops : List Oper) (ues : List St) (xs : List AV) (hs : List (List Obj)) (eff : List Nat) (stop : Bool) : List (Nat × Nat) → Prop
 | [] => True
 | p :: r => aVs F Q Δ sb ops ues xs hs eff stop p.1 p.2 ∧ aS3 F Q Δ sb ops ues xs hs eff stop r
theorem aO6 {F : Fr} {Q : Exit → Act → World → Prop} {Δ : FuncId → List AV → List Obj → Option Hit} {sb : List Nat} {ops : List Oper} {ues : List St} {xs : List AV} {hs : List (List Obj)} {eff : List Nat} {stop : Bool} : ∀ {l : List (Nat × Nat)}, aS3 F Q Δ sb ops ues xs hs eff stop l → ∀ p ∈ l, aVs F Q Δ sb ops ues xs hs eff stop p.1 p.2
 | p :: r, h, q, hq => by
  rcases List.mem_cons.1 hq with rfl | hq
  ·exact h.1
  ·exact aO6 h.2 q hq
def reach (ops : List Oper) : Nat → Nat → Nat → Bool
 | 0, i, b => zX ops i b
 | n + 1, i, b => zX ops i b || (List.range ops.length).any fun x => zX ops i x && reach ops n x b
theorem aMO {ops : List Oper} {done : List Nat} (cl : ∀ i ∈ done, ∀ b, zX ops i b = true → b ∈ done) : ∀ (n i b : Nat), (∀ x, zX ops i x = true → x ∈ done) → reach ops n i b = true → b ∈ done
 | 0, i, b, h, hr => h b hr
 | n + 1, i, b, h, hr => by
  simp only [reach, Bool.or_eq_true, List.any_eq_true, Bool.and_eq_true] at hr
  rcases hr with hr | ⟨x, _, hx, hr⟩
  ·exact h b hr
  ·exact aMO cl n x b (cl x (h x hx)) hr
def aVt (ops : List Oper) (eff : List Nat) (i k : Nat) : Bool := okK ops eff i k && (List.range eff.length).all fun m => bif m < k then true else !reach ops 2 i (eff.getD m 0)
theorem aWT {ops : List Oper} {eff : List Nat} {xs : List AV} {env0 env : St} {done : List Nat} {k i : Nat} (hv : aMN ops eff xs env0 done k env) (hn : ∀ x, zX ops i x = true → x ∈ done) (ho : okK ops eff i k = true) : aVt ops eff i k = true := by
 simp only [aVt, ho, Bool.true_and, List.all_eq_true, List.mem_range]
 intro m hm
 by_cases hk : m < k
 ·simp [hk]
 ·simp only [hk, decide_false, cond_false, Bool.not_eq_true']
  cases hr : reach ops 2 i (eff.getD m 0) with
  | false => rfl
  | true => exact absurd ((hv.kd m hm).1 (aMO hv.cl 2 i _ hn hr)) hk
theorem aQU {F : Fr} {Q : Exit → Act → World → Prop} (hF : hU F) {Δ : FuncId → List AV → List Obj → Option Hit} (hΔ : aDT F.P F.E.G Δ) (sb : List Nat) {ops : List Oper} {eff : List Nat} {us : List (List Nat)} (hc : aVr ops eff us) (hok : ∀ o ∈ ops, fG F.nt o = true) (xs : List AV) (env0 : St) (hs : List (List Obj)) (ues : List St)
  (hue : ∀ j, j < ops.length → ues.getD j [] = (us.getD j []).map fun t => (t, aN9 ops xs env0 t)) (stop : Bool) (hst : ∀ i k, i < ops.length → k ≤ eff.length → (stop = true → k < eff.length) → aVt ops eff i k = true → aVs F Q Δ sb ops ues xs hs eff stop i k)
  (keep : List Nat) (hK : stop = false → At F (Q .normal) (keep.map fun t => (t, aN9 ops xs env0 t)) (hs.getD eff.length [])) :
  ∀ (n : Nat) (done : List Nat) (listed : Array Bool), listed.size = ops.length → (∀ k, k < ops.length → (listed.getD k false = true ↔ k ∈ done)) → done.length + n = ops.length → done.Nodup → (∀ k ∈ done, k < ops.length) → ∀ (k : Nat) (env : St), aMN ops eff xs env0 done k env → (stop = true → k < eff.length) → ∀ (c : Ctx) (a : Act) (w : World), Sim F.E F.M F.w0 F.nt F.ds c env (hs.getD k []) a w → wpAny F.P .any ops.toArray Q n listed a w
 | 0, done, listed, hsz, hl, hn, hd, hlt, k, env, hv, hsk, c, a, w, hsim => by
  have hsub : ∀ j, j < ops.length → j ∈ done := fun j hjl => (aHZ hd (m := List.range ops.length) (fun k hk => List.mem_range.2 (hlt k hk))).2 (by simp; omega) j (List.mem_range.2 hjl)
  refine ⟨?_, ?_⟩
  ·rw [List.eq_nil_iff_forall_not_mem]
   intro j hj
   obtain ⟨h1, o, ho, _⟩ := mem_ready.1 hj
   have ho : ops[j]? = some o := by simpa using ho
   have hjl := iI.get_lt' ho
   have := (hl j hjl).2 (hsub j hjl)
   have hlt' : j < listed.size := by omega
   simp [hlt'] at h1 this
   rw [this] at h1; cases h1
  ·have hk : k = eff.length := by
    rcases Nat.lt_or_ge k eff.length with h | h
    ·have := (hv.kd k h).1 (hsub _ (hc.effl k h)); omega
    ·have := hv.kle; omega
   subst hk
   have hsf : stop = false := by
    cases hx : stop with
    | false => rfl
    | true => exact absurd (hsk hx) (Nat.lt_irrefl _)
   refine hK hsf c a w ?_
   have e : (keep.map fun t => (t, aN9 ops xs env0 t)) = keep.map fun t => (t, look env t) := by
    refine List.map_congr_left fun t _ => ?_
    rw [aMN.val hc hv t (fun i hi _ => hsub i hi)]
   rw [e]
   exact hsim.keep keep
 | n + 1, done, listed, hsz, hl, hn, hd, hlt, k, env, hv, hsk, c, a, w, hsim => by
  have hrd : ∀ j, j ∈ Region.ready .any ops.toArray listed → j ∈ aDX ops done ∧ j ∉ done ∧ j < ops.length := fun j hj => by
   obtain ⟨h1, o, ho, hall⟩ := mem_ready.1 hj
   have ho : ops[j]? = some o := by simpa using ho
   have hjl := iI.get_lt' ho
   have hlt' : j < listed.size := by omega
   have hnd : j ∉ done := fun hm => by
    have := (hl j hjl).2 hm
    simp [hlt'] at h1 this
    rw [this] at h1; cases h1
   refine ⟨?_, hnd, hjl⟩
   simp only [aDX, List.mem_filter, List.mem_range, ho, Bool.and_eq_true, Bool.not_eq_true', List.contains_eq_mem, decide_eq_false_iff_not, List.all_eq_true, Bool.or_eq_true, decide_eq_true_eq]
   refine ⟨hjl, hnd, fun e he => ?_⟩
   cases hbe : Region.binds .any e with
   | false => exact .inl rfl
   | true =>
    right
    have h5 := hall e (by simpa using he) hbe
    rcases Nat.lt_or_ge e.on ops.length with hh | hh
    ·exact (hl _ hh).1 h5
    ·simp [show ¬ e.on < listed.size by omega] at h5
  refine ⟨fun hr => ?_, fun j hj => ?_⟩
  ·exfalso
   have hex : ∃ k, (k < ops.length ∧ k ∉ done) ∧ ∀ j, j < k → ¬ (j < ops.length ∧ j ∉ done) := by
    have hex : ∃ k, k < ops.length ∧ k ∉ done := by
     apply Classical.byContradiction
     intro hc
     have hsub : List.range ops.length ⊆ done := fun k hk => Classical.byContradiction fun hk2 => hc ⟨k, List.mem_range.1 hk, hk2⟩
     have := (aHZ (List.nodup_range (n := ops.length)) (fun k hk => hsub hk)).1
     simp at this
     omega
    obtain ⟨n, h1, h2⟩ := aFg hex
    exact ⟨n, h1, fun j hj hp => by have := h2 j hp; omega⟩
   obtain ⟨k, ⟨hk, hkd⟩, hlow⟩ := hex
   have hmem : k ∈ Region.ready .any ops.toArray listed := by
    rw [mem_ready]
    have hlt' : k < listed.size := by omega
    have hun : ¬ listed.getD k false = true := fun h => hkd ((hl k hk).1 h)
    refine ⟨by simp [hlt'] at hun ⊢; exact hun, ops[k], by simp [hk], fun e he hbe => ?_⟩
    have hbk := List.all_eq_true.1 hc.back (ops[k], k) (by rw [List.mem_zipIdx_iff_getElem?]; exact List.getElem?_eq_getElem hk)
    have hbk := List.all_eq_true.1 hbk e (Array.mem_toList_iff.2 he)
    rw [hbe] at hbk
    simp at hbk
    have hne := hlow e.on hbk
    exact (hl _ (by omega)).2 (Classical.byContradiction fun hd => hne ⟨by omega, hd⟩)
   rw [hr] at hmem; cases hmem
  ·obtain ⟨r1, r2, r3⟩ := hrd j hj
   have hs1 := hst j k r3 hv.kle hsk (aWT hv (fun x hx => aBx r1 x hx) (hv.okk (us := us) r1 r2))
   have hjo : ops[j]? = some ops[j] := List.getElem?_eq_getElem r3
   have hdo : aBY ops j = ops[j].dst := by simp [aBY, hjo]
   unfold aVs at hs1
   rw [hjo] at hs1
   obtain ⟨hg, hs1⟩ := hs1
   have hokO := hok ops[j] (List.getElem_mem r3)
   have hw : Region.wanted ops[j] (yielded ops.toArray a.tmps) = true := by simp [Region.wanted, hg]
   have eu : ues.getD j [] = (us.getD j []).map fun t => (t, look env t) := by
    rw [hue j r3]
    refine List.map_congr_left fun t ht => ?_
    rw [aMN.val hc hv t (fun i hi hdi => aBx r1 i (hc.use j r3 t ht i hi hdi))]
   have hsimU := hsim.keep (us.getD j [])
   rw [← eu] at hsimU
   unfold wpOp
   simp only [List.getElem?_toArray, hjo]
   rw [if_pos hw]
   left
   refine aMD hF.env hΔ hsimU hokO hs1 (fun v h' c' u w' hvh ha => ?_) (fun p h' c' u w' hk hl hgd hr => hk c' a w' u ((hsimU.step hl hgd).keep []) hr)
   obtain ⟨hnl, hx, hh⟩ := hvh
   have hsim' := hsim.after hokO ha
   rw [hx, hh] at hsim'
   have hv' := hv.step hc r1 r2 r3 hlt
   rw [hdo] at hv'
   refine aQU hF hΔ sb hc hok xs env0 hs ues hue stop hst keep hK n (j :: done) (listed.setIfInBounds j true) (by simp [hsz]) (fun k hk => ?_) (by simp; omega) (List.nodup_cons.2 ⟨r2, hd⟩) (fun k hk => ?_) _ _ hv' (fun hst => ?_) c' _ w' hsim'
   ·by_cases e : j = k
    ·subst e
     have : j < listed.size := by omega
     simp [this]
    ·rw [getD_set_ne false e, hl k hk]
     constructor
     ·intro h; exact List.mem_cons_of_mem _ h
     ·intro h; exact (List.mem_cons.1 h).resolve_left (fun e' => e e'.symm)
   ·rcases List.mem_cons.1 hk with rfl | hk
    ·exact r3
    ·exact hlt k hk
   ·have h1 := hsk hst
    cases he : eff.contains j with
    | false => exact h1
    | true =>
     show k + 1 < eff.length
     rw [hst, he] at hnl
     have : ¬ k + 1 = eff.length := fun e => by rw [e] at hnl; simp at hnl
     omega
def aVu (ops : List Oper) (eff : List Nat) (us : List (List Nat)) (pl : List (Nat × Nat)) (stop : Bool) : Bool :=
 aSZ ops && aXW ops eff && nodupB eff && aYy ops us && aYz ops && eff.all (fun e => decide (e < ops.length)) && ((List.range ops.length).all fun i => (List.range (bif stop then eff.length else eff.length + 1)).all fun k => !aVt ops eff i k || pl.contains (i, k)) && (!stop || decide (0 < eff.length))
theorem aVv {ops : List Oper} {eff : List Nat} {us : List (List Nat)} {pl : List (Nat × Nat)} {stop : Bool} (h : aVu ops eff us pl stop = true) : aVr ops eff us ∧ (∀ i k, i < ops.length → k ≤ eff.length → (stop = true → k < eff.length) → aVt ops eff i k = true → (i, k) ∈ pl) ∧ (stop = true → 0 < eff.length) := by
 simp only [aVu, Bool.and_eq_true] at h
 obtain ⟨⟨⟨⟨⟨⟨⟨h1, h2⟩, h3⟩, h4⟩, h5⟩, h6⟩, h7⟩, h8⟩ := h
 refine ⟨⟨h1, fun m hm h0 => ?_, aPx h3, fun m hm => ?_, fun j hj u hu i hi hd => ?_, fun i j t hi hj hd hd' => ?_⟩, fun i k hi hk hs ho => ?_, fun hs => by rw [hs] at h8; simpa using h8⟩
 ·have := List.all_eq_true.1 h2 m (List.mem_range.2 hm)
  simpa [h0] using this
 ·have := List.all_eq_true.1 h6 (eff.getD m 0) (by simp only [List.getD_eq_getElem?_getD, List.getElem?_eq_getElem hm, Option.getD_some]; exact List.getElem_mem hm)
  simpa using this
 ·have := List.all_eq_true.1 (List.all_eq_true.1 (List.all_eq_true.1 h4 j (List.mem_range.2 hj)) u hu) i (List.mem_range.2 hi)
  simpa [hd] using this
 ·have := List.all_eq_true.1 (List.all_eq_true.1 h5 i (List.mem_range.2 hi)) j (List.mem_range.2 hj)
  simpa [hd, hd'] using this
 ·have hkr : k < (bif stop then eff.length else eff.length + 1) := by
   cases hx : stop with
   | true => exact hs hx
   | false => exact Nat.lt_succ_of_le hk
  have := List.all_eq_true.1 (List.all_eq_true.1 h7 i (List.mem_range.2 hi)) k (List.mem_range.2 hkr)
  simpa [ho] using this
theorem aAR {F : Fr} {Q : Exit → Act → World → Prop} {env : St} {h : List Obj} (hF : hU F) {Δ : FuncId → List AV → List Obj → Option Hit} (hΔ : aDT F.P F.E.G Δ) (sb : List Nat) {id : Nat} {ops : Array Oper} (keep : List Nat) (eff : List Nat) (us : List (List Nat)) (pl : List (Nat × Nat)) (xs : List AV) (hs : List (List Obj)) (ues : List St) (stop : Bool)
  (hb : aVu ops.toList eff us pl stop = true) (hue : (List.range ops.toList.length).map (fun j => (us.getD j []).map fun t => (t, aN9 ops.toList xs env t)) = ues) (h0 : hs.getD 0 [] = h)
  (hst : aS3 F Q Δ sb ops.toList ues xs hs eff stop pl) (hk : stop = false → At F (Q .normal) (keep.map fun t => (t, aN9 ops.toList xs env t)) (hs.getD eff.length [])) : Tri F (.region id ops true) Q env h := fun hok c a w hsim => by
 simp only [fY, Bool.and_eq_true, Bool.or_eq_true, Bool.not_eq_true'] at hok
 obtain ⟨⟨h1, h2⟩, h3⟩ := hok
 obtain ⟨hc, hp, hs0⟩ := aVv hb
 refine wp_region_any hF.mix ?_
 have hlat : dE c w c { w with drawn := w.drawn + 1 } := ⟨.refl _, fun b hb => rfl⟩
 have hdr : Sim F.E F.M F.w0 F.nt F.ds c env h a { w with drawn := w.drawn + 1 } :=
  ⟨hsim.good.step hlat rfl rfl ⟨rfl, rfl, rfl, Nat.le_refl _, fun _ _ _ => rfl⟩ (fun _ _ _ _ _ => rfl) hsim.good.sfin (fun _ hb => .inl hb), oW.mono (w := w) (w' := { w with drawn := w.drawn + 1 }) (fun _ hb => hb) hlat.same hsim.glob, hsim.env.keep hlat, hsim.size, hsim.defers⟩
 have := aQU (Q := Q) hF hΔ sb hc (List.all_eq_true.1 h1) xs env hs ues (fun j hj => by rw [← hue, List.getD_eq_getElem?_getD, List.getElem?_map, List.getElem?_range hj]; rfl) stop (fun i k hi hk hs1 ho => aO6 hst (i, k) (hp i k hi hk hs1 ho)) keep hk ops.toList.length [] (Array.replicate ops.size false) (by simp) (fun k hk => by rw [vD]; simp) (by simp) List.nodup_nil (fun k hk => by cases hk) 0 env
  ⟨Nat.zero_le _, fun m hm => by simp, fun i hi => (by cases hi), fun i hi => (by cases hi), fun t _ => rfl⟩ hs0 c a _ (by rw [h0]; exact hdr)
 simpa using this
attribute [go_sem] aS3 aVs
def aMP : List Obj → Nat → (t : Ty) → t.den
 | .box _ (.val s x) :: _, 0, t => if e : s = t then e ▸ x else t.zero
 | _ :: h, i + 1, t => aMP h i t
 | _, _, t => t.zero
@[go_sem] theorem aXX {n : Nat} {t : Ty} {x : t.den} {h : List Obj} : aMP (.box n (.val t x) :: h) 0 t = x := by simp [aMP]
@[go_sem] theorem aXl {o : Obj} {h : List Obj} {i : Nat} {t : Ty} : aMP (o :: h) (i + 1) t = aMP h i t := by
 cases o <;> try rfl
 rename_i n v
 cases v <;> rfl
def aYh : List (FuncId × (List Obj → Hit)) → FuncId → List AV → List Obj → Option Hit
 | [], _, _, _ => none
 | (k, t) :: r, f, vs, h => if k = f then some (t h) else aYh r f vs h
structure aMQ (P : Program) (G : Nat → AV) (l : List (FuncId × (List Obj → Hit))) : Prop where
 ok : ∀ p ∈ l, (∀ h, GOK P G p.1 (p.2 h).sp) ∧ fnB P p.1 = true
theorem aMQ.nil {P : Program} {G : Nat → AV} : aMQ P G [] := ⟨fun p hp => by cases hp⟩
theorem aMQ.cons {P : Program} {G : Nat → AV} {l : List (FuncId × (List Obj → Hit))} {f : FuncId} {t : List Obj → Hit} (h : ∀ x, GOK P G f (t x).sp) (hf : fnB P f = true) (hl : aMQ P G l) : aMQ P G ((f, t) :: l) := by
 refine ⟨fun p hp => ?_⟩
 rcases List.mem_cons.1 hp with rfl | hp
 ·exact ⟨h, hf⟩
 ·exact hl.ok p hp
attribute [go_sem] aYh
end Go.Vc
namespace Go.Vc
open Go.RowKit
section
variable {P : Program} {T : Tab} {H : Type} {enc : TypeId × Value → H} {w : World} {spare : Nat → Bool} {held : Bool}
def aVw (k : IntKind) (ys : List Nat) : DataW H := .agg (ys.map fun (y : Nat) => .lit (.int k (y : Int)))
theorem aPI : ∀ (cs : List Value), ((List.range cs.length).map fun i => (cs.drop i).take 1).flatten = cs := by
 intro cs
 have e : ((List.range cs.length).map fun i => (cs.drop i).take 1) = cs.map fun c => [c] := by
  apply List.ext_getElem
  ·simp
  ·intro i h1 h2
   simp only [List.length_map, List.length_range] at h1
   simp only [List.getElem_map, List.getElem_range]
   rw [List.drop_eq_getElem_cons h1]
   rfl
 rw [e]
 clear e
 induction cs with
 | nil => rfl
 | cons c cs ih => simp [ih]
theorem aWU {S : Nat → Prop} (hT : iS P T) {n : Nat} {t : TypeId} {m : Nat} {k : IntKind} {cs : List Value} {p : List MemPlace} {ys : List Nat} (ht : T t = some (.arr m (.u k)))
  (h : DataW.trod enc P w 0 spare held n t cs = some (aVw k ys, p)) : aT w S (.arr m (.u k)) ys cs := by
 obtain ⟨d, hd, hb⟩ := (hT _ _ ht).desc
 cases d <;> simp [fT] at hb
 obtain ⟨⟨⟨rfl, hb1⟩, hb2⟩, _⟩ := hb
 obtain ⟨xs, q, hq, hx, hlen, hxl, hf⟩ := DataW.trod_array hd h
 simp only [aVw, Prod.mk.injEq, DataW.agg.injEq] at hx
 rw [lS (hT _ _ ht)] at hlen
 rw [lS (hT _ _ hb1)] at hf
 have e1 : (Ty.u k).cells = 1 := rfl
 have e2 : (Ty.arr m (.u k)).cells = m := by show m * 1 = m; omega
 rw [e1] at hf
 rw [e2] at hlen
 have hyl : ys.length = m := by
  have := congrArg List.length hx.1
  simp only [List.length_map] at this
  omega
 obtain ⟨du, hdu, hbu⟩ := (hT _ _ hb1).desc
 cases du <;> simp [fT] at hbu
 obtain ⟨rfl, hs⟩ := hbu
 refine ⟨hyl, (List.range cs.length).map (fun i => (cs.drop i).take 1), (aPI cs).symm, by simp; omega, fun i h1 h2 => ?_⟩
 have hi : i < m := by omega
 have h3 := hf i hi
 rw [Nat.mul_one, List.getElem?_eq_getElem (by omega)] at h3
 obtain ⟨v, g1, g2, g3⟩ := DataW.trod_int hdu h3
 simp only [List.getElem_map, List.getElem_range]
 have h4 : (xs.map (·.1))[i]? = (ys.map fun (y : Nat) => (DataW.lit (.int k (y : Int)) : DataW H))[i]? := by rw [hx.1]
 rw [List.getElem?_map, List.getElem?_map, List.getElem?_eq_getElem (by omega), List.getElem?_eq_getElem h1, g2] at h4
 simp only [Option.map_some, Option.some.injEq, DataW.lit.injEq, Lit.int.injEq, true_and] at h4
 rw [h4] at g1 g3
 simp only [Lit.wf, Bool.and_eq_true, decide_eq_true_eq] at g3
 exact ⟨g1, hs, g3.2⟩
theorem aVx {l : List (String × DataW Unit)} {n : String} {d : DataW Unit} (hm : (n, d) ∈ l) {ps : List MemPlace} (h : DataW.LaidVars P w l ps) :
  ∃ g t cs fuel p, P.globalNamed n = some g ∧ (P.globals[g]?).map (·.type) = some t ∧ w.var? P n = some cs ∧ DataW.trod (fun _ => ()) P w 0 (fun _ => true) false fuel t cs.toList = some (d, p) := by
 induction l generalizing ps with
 | nil => cases hm
 | cons x r ih =>
  obtain ⟨n', d'⟩ := x
  obtain ⟨g, t, cs, fuel, p, q, h1, h2, h3, h4, h5, _⟩ := h
  rcases List.mem_cons.1 hm with e | e
  ·cases e
   exact ⟨g, t, cs, fuel, p, h1, h2, h3, h4⟩
  ·exact ih e h5
theorem aQV (hT : iS P T) {l : List (String × DataW Unit)} (h : laidMet P l w) (n : String) (g : Nat) (t : TypeId) (m : Nat) (k : IntKind) (ys : List Nat) (hm : (n, aVw k ys) ∈ l) (hg : P.globalNamed n = some g)
  (ht : (P.globals[g]?).map (·.type) = some t) (hty : T t = some (.arr m (.u k))) (hm0 : 0 < m) : aQ ⟨yF w, fun _ => Go.undef, 0, fun _ _ => False⟩ w (.roa (.arr m (.u k)) ys) (.pointer (some ⟨g, 0, none⟩)) := by
 obtain ⟨ps, hv, _⟩ := h
 obtain ⟨g', t', cs, fuel, p, h1, h2, h3, h4⟩ := aVx hm hv
 obtain rfl := Option.some.inj (hg.symm.trans h1)
 obtain rfl := Option.some.inj (ht.symm.trans h2)
 have hr : aT w (yF w) (.arr m (.u k)) ys cs.toList := aWU hT hty h4
 have hc : jC w g 0 cs.toList := fun j v hj => by
  have := World.var?_cell hg h3 j
  rw [Nat.zero_add, this]
  simpa using hj
 refine aDH ?_ hr hc
 have hl := aT.length _ _ _ hr
 have hl : cs.toList.length = m * 1 := hl
 have h0 : 0 < cs.toList.length := by omega
 exact aST (hc 0 (cs.toList[0]'h0) (List.getElem?_eq_getElem h0))
end
end Go.Vc
