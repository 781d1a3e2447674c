import Derived.Test.YtlijgfkkmamanaaGreatDoorZL4
import Derived.ProofKit
import Derived.OpenShut
import Derived.Below
import Derived.Recover
set_option linter.unusedVariables false
set_option linter.unusedSimpArgs false
namespace Go.Vc
open Go.RowKit
structure Pan where
 k : TypeId
 t : Ty
 x : t.den
inductive bGC where
 | ret (v : AV) (h : List Obj)
 | pan (p : Pan) (h : List Obj)
structure fT where
 D : Type
 av : D → List AV
 hp : D → List Obj
 m : Nat
 pre : D → Prop
 out : D → bGC
def GM (sp : fT) (c : Ctx) (d : sp.D) : Perm := ⟨fun b => ∃ i o, (sp.hp d)[i]? = some o ∧ fI c i o b, c.S, sp.m, c.hd⟩
structure GIn (G : Nat → AV) (sp : fT) (c : Ctx) (w : World) (d : sp.D) (vs : List Value) : Prop where
 good : Good (GM sp c d) w c (sp.hp d) w
 glob : sG G c.S w
 len : vs.length = (sp.av d).length
 val : ∀ i (h1 : i < (sp.av d).length) (h2 : i < vs.length), aW c w (sp.av d)[i] vs[i]
def aTu (k : TypeId) (u : Value) : List PanicEntry := [{ v := .iface k u, recovered := false, goexit := false }]
def aMH (sp : fT) (c : Ctx) (w : World) (d : sp.D) (e : Ending) (w' : World) : Prop :=
 ∃ c', match sp.out d with
  | .ret v h' => ∃ u, e = .returned u ∧ Good (GM sp c d) w c' h' w' ∧ aW c' w' v u
  | .pan p h' => ∃ u, e = .panicked (aTu p.k u) ∧ Good (GM sp c d) w c' h' w' ∧ dE w' c'.S p.t p.x u
def GOK (P : Program) (G : Nat → AV) (f : FuncId) (sp : fT) : Prop :=
 ∀ (c : Ctx) (w : World) (d : sp.D) (vs : Array Value), sp.pre d → GIn G sp c w d vs.toList → Calls P f vs w (aMH sp c w d)
def aYU (b : List Nat) : List Nat → Option (List Nat)
 | [] => some []
 | i :: r => match b[i]?, aYU b r with
  | some j, some l => some (j :: l)
  | _, _ => none
def aVq (b : List Nat) : AV → AV
 | .own i => match b[i]? with
  | some j => .own j
  | none => .junk
 | .ptr i p => match b[i]? with
  | some j => .ptr j p
  | none => .junk
 | .sub i s off n => match b[i]? with
  | some j => .sub j s off n
  | none => .junk
 | .mp i => match b[i]? with
  | some j => .mp j
  | none => .junk
 | .fn f g l2 => match aYU b g, aYU b l2 with
  | some g, some l2 => .fn f g l2
  | _, _ => .junk
 | .agg _ => .junk
 | .flat _ => .junk
 | .tup _ => .junk
 | v => v
def aGl (b : List Nat) : AV → AV
 | .agg f => .agg (f.map (aVq b))
 | v => aVq b v
def emb (b : List Nat) : AV → AV
 | .tup f => .tup (f.map (aGl b))
 | v => aGl b v
def aRX (b : List Nat) : Obj → Obj
 | .box n v => .box n (aGl b v)
 | .trh e m t f k v => .trh e m t f k (aGl b v)
 | o => o
def aEE : List (Nat × Obj) → List Obj → List Obj
 | [], h => h
 | (i, o) :: r, h => aEE r (h.set i o)
def sC (σ : List Nat) (m n k : Nat) : List Nat := σ.take m ++ List.range' n (k - m)
def aEF (σ : List Nat) (m : Nat) (h h' : List Obj) : List Obj :=
 aEE ((σ.take m).zip ((h'.take m).map (aRX (sC σ m h.length h'.length)))) (oS (σ.drop m) h) ++ (h'.drop m).map (aRX (sC σ m h.length h'.length))
section
variable {P : Program} {E : Env} {M : Perm} {w0 : World} {c c' : Ctx} {h : List Obj} {w w' : World}
structure Emb (μ : List Nat) (c' cN : Ctx) : Prop where
 S : ∀ b, c'.S b → cN.S b
 hd : ∀ i j, μ[i]? = some j → j < cN.n ∧ cN.hd j = c'.hd i
theorem aZ9 {f : List Nat} {cN : Ctx} (g : Emb f c' cN) : ∀ {l b : List Nat}, aYU f l = some b → (∀ j ∈ b, j < cN.n) ∧ b.map cN.hd = l.map c'.hd
 | [], b, h => by simp [aYU] at h; simp_all
 | i :: r, b, h => by
  simp only [aYU] at h
  split at h
  ·rename_i j l s q
   cases h
   obtain ⟨z, L⟩ := g.hd i j s
   obtain ⟨J, I⟩ := aZ9 g q
   simp_all
  grind
theorem aRY {I : List Nat} {cN : Ctx} (g : Emb I c' cN) : ∀ {v : AV} {cs : List Value}, aM c' w v cs → aM cN w (aVq I v) cs := by
 intro v cs q
 have J : c'.le ⟨cN.S, c'.hd, c'.n, c'.bl⟩ := ⟨g.S, Nat.le_refl _, fun _ _ => rfl⟩
 cases v <;> simp only [aVq] <;> (try trivial)
 case own i =>
  split
  ·rename_i j hp
   obtain ⟨r, z⟩ := g.hd i j hp
   grind [aM]
  ·trivial
 case ptr i p =>
  split
  ·rename_i j hp
   obtain ⟨r, z⟩ := g.hd i j hp
   grind [aM]
  ·trivial
 case sub i s off n =>
  split
  ·rename_i j hp
   obtain ⟨r, z⟩ := g.hd i j hp
   grind [aM]
  ·trivial
 case mp i =>
  split
  ·rename_i j hp
   obtain ⟨r, z⟩ := g.hd i j hp
   grind [aM]
  ·trivial
 case fn f l1 l2 =>
  grind [aZ9, aM]
 case val t x => exact bB.keep g.S (.refl _ _) t x cs q
 case full t xs =>
  simp only [aM] at q ⊢
  obtain ⟨a, n, e, hs⟩ := q
  exact ⟨a, n, e, hs.keep g.S (.refl _ _) (fun x cs => bB.keep g.S (.refl _ _) t x cs)⟩
 case roa t x =>
  simp only [aM] at q ⊢
  obtain ⟨b, off, ds, e, hb, hd, hc⟩ := q
  exact ⟨b, off, ds, e, g.S b hb, bB.keep g.S (.refl _ _) t x ds hd, hc⟩
 all_goals exact q
theorem aXb {b : List Nat} {cN : Ctx} (f : Emb b c' cN) : ∀ {vs : List AV} {cs : List Value}, mE c' w vs cs → mE cN w (vs.map (aVq b)) cs
 | [], _, g => g
 | v :: r, _, ⟨c1, s, e, q, j⟩ => ⟨c1, s, e, aRY f q, aXb f j⟩
theorem aLz {f : List Nat} {cN : Ctx} (g : Emb f c' cN) {v : AV} {cs : List Value} (b : aM c' w v cs) : aM cN w (aGl f v) cs := by
 cases v
 case agg vs => exact aXb g b
 all_goals exact aRY g b
theorem bCv (b : List Nat) (v : AV) : aGl b v = .junk ∨ (aGl b v).isAgg = v.isAgg := by
 cases v <;> simp only [aGl, aVq] <;> first | exact .inr trivial | exact .inl trivial | exact .inr rfl | exact .inl rfl | grind [AV.isAgg]
theorem aUy {b : List Nat} {cN : Ctx} (q : Emb b c' cN) {v : AV} {x : Value} (f : xD c' w v x) (j : aGl b v ≠ .junk) : xD cN w (aGl b v) x := by
 have g := (bCv b v).resolve_left j
 exact ⟨aLz q f.1, by rw [g]; exact f.2.1, by rw [g]; exact f.2.2⟩
theorem bGD (b : List Nat) (v : AV) : aGl b v = .undef → v = .undef := by
 cases v <;> simp only [aGl, aVq] <;> first | exact fun _ => trivial | (intro h; cases h; done) | grind | grind
theorem bEJ (b : List Nat) (v : AV) (vs : List AV) : aGl b v ≠ .tup vs := by
 cases v <;> simp only [aGl, aVq] <;> first | (intro h; cases h; done) | grind
theorem bEK {b : List Nat} {cN : Ctx} (r : Emb b c' cN) {v : AV} {x : Value} (q : aW c' w v x) (L : ∀ vs, v = .tup vs → ∀ u ∈ vs, aGl b u ≠ .junk) : aW cN w (emb b v) x := by
 have g : ∀ v, (∀ vs, v ≠ .tup vs) → v ≠ .junk → v ≠ .undef → xD c' w v x → aW cN w (aGl b v) x := fun v ht N O j => by
  by_cases f : aGl b v = .junk
  ·rw [f]; trivial
  ·have := aUy r j f
   have e1 := bGD b v
   have s := bEJ b v
   generalize aGl b v = u at this e1 s f
   cases u <;> first | exact this | simp_all | simp_all | simp_all
 cases v
 case junk => trivial
 case undef => exact q
 case tup vs =>
  obtain ⟨J, z, U, hv⟩ := q
  refine ⟨J, z, by simp_all, fun i j I => ?_⟩
  simp only [List.length_map] at j
  simp only [List.getElem_map]
  exact aUy r (hv i j I) (L vs rfl _ (List.getElem_mem j))
 all_goals exact g _ (by simp) (by simp) (by simp) q
theorem Good.rebase (f : Good M w0 c h w) {m : Nat} (hm : m ≤ c.n) : Good ⟨fun b => ∃ i o, h[i]? = some o ∧ fI c i o b, c.S, m, c.hd⟩ w c h w :=
 ⟨f.n, .refl _ _, f.sfin, fun b hb _ => .inl hb, f.objs, fun i o b g hb => ⟨.inr ⟨i, o, g, hb⟩, (f.own i o b g hb).2⟩, f.sep, hm, fun _ _ => rfl⟩
end
end Go.Vc
namespace Go.Vc
open Go.RowKit
theorem aFU : ∀ (l : List (Nat × Obj)) (h : List Obj), (aEE l h).length = h.length
 | [], h => rfl
 | (i, o) :: r, h => by rw [aEE, aFU r]; simp
theorem aLA : ∀ (l : List (Nat × Obj)) (h : List Obj) (i : Nat), (∀ p ∈ l, p.1 ≠ i) → (aEE l h)[i]? = h[i]?
 | [], h, i, _ => rfl
 | (j, o) :: r, h, i, b => by
  rw [aEE, aLA r _ i (fun p hp => b p (by simp [hp])), List.getElem?_set_ne (b (j, o) (by simp))]
theorem aUz : ∀ (l : List (Nat × Obj)) (h : List Obj), (l.map (·.1)).Nodup → (∀ p ∈ l, p.1 < h.length) → ∀ p ∈ l, (aEE l h)[p.1]? = some p.2
 | [], h, _, _, p, hp => by cases hp
 | (j, o) :: r, h, hd, b, p, hp => by
  simp only [List.map_cons, List.nodup_cons] at hd
  rcases List.mem_cons.1 hp with rfl | hp
  ·have : j < h.length := b (j, o) (by simp)
   rw [aEE, aLA r _ j (fun q hq e => hd.1 (List.mem_map.2 ⟨q, hq, e⟩))]
   simp [this]
  ·rw [aEE]
   exact aUz r _ hd.2 (fun q hq => by grind) p hp
section
variable {P : Program} {E : Env} {M : Perm} {w0 : World} {c c' : Ctx} {h h' : List Obj} {w w' : World}
def cN (c c' : Ctx) (m n' : Nat) (σ f : List Nat) : Ctx := ⟨fun b => c.S b ∨ c'.S b, fun i => if i < c.n then c.hd i else c'.hd (m + (i - c.n)), c.n + (n' - m), fun i b => (i < c.n ∧ i ∉ σ ∧ c.bl i b) ∨ ∃ j : Nat, f[j]? = some i ∧ c'.bl j b⟩
theorem bHi (c c' : Ctx) (m n' : Nat) (σ f : List Nat) : c.le (cN c c' m n' σ f) := ⟨fun b hb => .inl hb, Nat.le_add_right _ _, fun i hi => by simp [cN, hi]⟩
theorem Good.frame (f : Good M w0 c h w) {σ : List Nat} {m : Nat} (hd : σ.Nodup) (hσ : ∀ i ∈ σ, i < h.length) (hm : m ≤ σ.length) {Ml : Perm} (hMr : Ml.rd = c.S) (hMw : ∀ b, Ml.wr b → ∃ i o, i ∈ σ ∧ h[i]? = some o ∧ fI c i o b) (hMm : Ml.m = m) (hMd : ∀ j, j < m → Ml.roots j = c.hd (σ.getD j 0))
  (L : Good Ml w c' h' w') : Good M w0 (cN c c' m h'.length σ (sC σ m h.length h'.length)) (aEF σ m h h') w' ∧ dS c w (cN c c' m h'.length σ (sC σ m h.length h'.length)) w' ∧ Emb (sC σ m h.length h'.length) c' (cN c c' m h'.length σ (sC σ m h.length h'.length)) := by
 have hk := L.keeps
 have hroot := L.root
 rw [hMm] at hroot
 have hmn : m ≤ h'.length := by rw [← L.n]; omega
 have hwrS : ∀ b, Ml.wr b → b < w.heap.size ∧ ¬ c.S b ∧ (w0.heap.size ≤ b ∨ M.wr b) := fun b hb => by
  obtain ⟨i, o, hi, r, hob⟩ := hMw b hb
  obtain ⟨s, N, h3⟩ := f.own i o b r hob
  simp_all
 have hlS : aBi c.S w w' := fun b hb => hk.block b (f.sfin b hb) (fun hw => (hwrS b hw).2.1 hb)
 have hl : dS c w (cN c c' m h'.length σ (sC σ m h.length h'.length)) w' := ⟨bHi _ _ _ _ _ _, hlS⟩
 have hmu : ∀ j i, (sC σ m h.length h'.length)[j]? = some i → (j < m ∧ i = σ.getD j 0 ∧ i < h.length ∧ i ∈ σ) ∨ (m ≤ j ∧ i = h.length + (j - m) ∧ j < h'.length) := fun j i J => by
  unfold sC at J
  grind
 have hhd : ∀ j i, (sC σ m h.length h'.length)[j]? = some i → i < (cN c c' m h'.length σ (sC σ m h.length h'.length)).n ∧ (cN c c' m h'.length σ (sC σ m h.length h'.length)).hd i = c'.hd j := fun j i J => by
  rcases hmu j i J with ⟨s, N, h3, _⟩ | ⟨s, N, h3⟩
  ·refine ⟨by simp only [cN]; rw [f.n]; omega, ?_⟩
   simp only [cN, f.n, h3, if_true]
   simp_all
  ·refine ⟨by simp only [cN]; rw [f.n]; omega, ?_⟩
   simp only [cN, f.n]
   grind
 have O : ∀ i, i < h.length → i ∉ σ → (cN c c' m h'.length σ (sC σ m h.length h'.length)).bl i = c.bl i := fun i hi hn => by
  funext b
  refine propext ⟨?_, fun hb => .inl ⟨by rw [f.n]; exact hi, hn, hb⟩⟩
  rintro (⟨_, _, hb⟩ | ⟨j, J, _⟩)
  all_goals grind
 have hnd : ∀ i j k : Nat, i < m → j < m → σ[i]? = some k → σ[j]? = some k → i = j := fun i j k hi J s N => by
  grind [List.getElem?_eq_some_iff, List.getElem?_inj]
 have hblj : ∀ j i, (sC σ m h.length h'.length)[j]? = some i → (cN c c' m h'.length σ (sC σ m h.length h'.length)).bl i = c'.bl j := fun j i J => by
  funext b
  refine propext ⟨?_, fun hb => .inr ⟨j, J, hb⟩⟩
  rintro (⟨q1, q2, _⟩ | ⟨j2, hj2, hb⟩)
  ·rcases hmu j i J with ⟨_, _, _, q⟩ | ⟨_, q, _⟩
   ·grind
   ·rw [f.n] at q1; omega
  grind
 have g : Emb (sC σ m h.length h'.length) c' (cN c c' m h'.length σ (sC σ m h.length h'.length)) := ⟨fun b hb => .inr hb, hhd⟩
 have hcase : ∀ i o, (aEF σ m h h')[i]? = some o → (i ∉ σ ∧ h[i]? = some o) ∨ o = .dead ∨ ∃ j I, h'[j]? = some I ∧ (sC σ m h.length h'.length)[j]? = some i ∧ o = aRX (sC σ m h.length h'.length) I := fun i o r => by
  unfold aEF at r
  have hlen : (aEE ((σ.take m).zip ((h'.take m).map (aRX (sC σ m h.length h'.length)))) (oS (σ.drop m) h)).length = h.length := by rw [aFU, rC]
  have hmul : (sC σ m h.length h'.length).length = h'.length := by
   grind [sC, List.length_take]
  rcases Nat.lt_or_ge i h.length with hi | hi
  ·rw [List.getElem?_append_left (by omega)] at r
   by_cases hin : ∃ j, j < m ∧ σ[j]? = some i
   ·obtain ⟨j, J, hji⟩ := hin
    have hjh : j < h'.length := by omega
    have z : (i, aRX (sC σ m h.length h'.length) h'[j]) ∈ (σ.take m).zip ((h'.take m).map (aRX (sC σ m h.length h'.length))) := by
     refine List.mem_iff_getElem?.2 ⟨j, ?_⟩
     grind
    have := aUz _ (oS (σ.drop m) h) (by
     have : ((σ.take m).zip ((h'.take m).map (aRX (sC σ m h.length h'.length)))).map (·.1) = σ.take m := by
      grind [List.map_fst_zip, List.length_take]
     grind) (fun p hp => by
     rw [rC]
     have := (List.of_mem_zip hp).1
     grind) _ z
    simp only at this
    rw [this] at r
    cases r
    refine .inr (.inr ⟨j, h'[j], List.getElem?_eq_getElem hjh, ?_, rfl⟩)
    unfold sC
    rw [List.getElem?_append_left (by grind), List.getElem?_take, if_pos J]; exact hji
   ·rw [aLA _ _ i (fun p hp e => by
     have := (List.of_mem_zip hp).1
     grind [List.mem_take_iff_getElem, List.getElem?_eq_getElem])] at r
    by_cases hdrop : i ∈ σ.drop m
    ·grind [aDY]
    ·rw [aCY _ _ i hdrop] at r
     refine .inl ⟨fun z => ?_, r⟩
     rw [← List.take_append_drop m σ] at z
     rcases List.mem_append.1 z with z | z
     ·obtain ⟨j, J, hji⟩ := List.mem_take_iff_getElem.1 z
      exact hin ⟨j, by omega, by rw [List.getElem?_eq_getElem (by omega), hji]⟩
     ·exact hdrop z
  grind
 have hobj : ∀ j I i, h'[j]? = some I → (sC σ m h.length h'.length)[j]? = some i → aG0 (cN c c' m h'.length σ (sC σ m h.length h'.length)) w' i (aRX (sC σ m h.length h'.length) I) := fun j I i J hi => by
  have hr := L.objs j I J
  have hS : c'.le ⟨(cN c c' m h'.length σ (sC σ m h.length h'.length)).S, c'.hd, c'.n, c'.bl⟩ := ⟨g.S, Nat.le_refl _, fun _ _ => rfl⟩
  have e := (hhd j i hi).2
  cases I with
  | dead => trivial
  | box n v =>
   obtain ⟨b, cells, et, q1, q2, q3, q4⟩ := hr
   exact ⟨b, cells, et, by grind, q2, q3, aLz g q4⟩
  | row et t xs =>
   obtain ⟨vals, q1, q2⟩ := hr
   exact ⟨vals, by grind, bB.keep g.S (.refl _ _) _ _ _ q2⟩
  | frz t xs =>
   show bB _ _ _ _ _
   rw [e]
   exact bB.keep g.S (.refl _ _) _ _ _ hr
  | map k v mm =>
   obtain ⟨b, es, clock, q1, q2, q3, q4⟩ := hr
   exact ⟨b, es, clock, by grind, q2, q3, fun x s N => ⟨(q4 x s N).1.keep g.S (.refl _ _), (q4 x s N).2.keep g.S (.refl _ _)⟩⟩
  | tre et mk t xs =>
   obtain ⟨B, q1, q2, q3⟩ := hr
   exact ⟨B, by rw [e]; exact lH.keep g.S (.refl _ _) _ _ _ _ _ (fun _ _ => rfl) q1, q2, by grind⟩
  | trh et mk t xs k v =>
   obtain ⟨css, Bs, q⟩ := hr
   exact ⟨css, Bs, ⟨by rw [e]; exact q.row, q.lc, q.lb, q.kl, fun x h s N hne => lH.keep g.S (.refl _ _) _ _ _ _ _ (fun _ _ => rfl) (q.el x h s N hne), q.hb, fun s => ⟨aLz g (q.hv s).1, (q.hv s).2⟩, by rw [e]; exact q.nd, by rw [e, hblj j i hi]; exact q.bl⟩⟩
 have Y : ∀ j I i b, h'[j]? = some I → (sC σ m h.length h'.length)[j]? = some i → fI (cN c c' m h'.length σ (sC σ m h.length h'.length)) i (aRX (sC σ m h.length h'.length) I) b → fI c' j I b := fun j I i b J hi hb => by
  have e := (hhd j i hi).2
  have e2 := hblj j i hi
  cases I <;> simp only [fI, aRX, e, e2] at hb ⊢ <;> exact hb
 have hfar : ∀ i o b j I, i ∉ σ → h[i]? = some o → fI c i o b → h'[j]? = some I → ¬ fI c' j I b := fun i o b j I hi r hb J e => by
  have s := (f.own i o b r hb).2.1
  rcases (L.own j I b J e).1 with N | N
  ·omega
  ·obtain ⟨i', o', hi', Z, hb'⟩ := hMw b N
   exact hi (f.sep i i' o o' b r Z hb hb' ▸ hi')
 have hfarS : ∀ i o b, i ∉ σ → h[i]? = some o → fI c i o b → ¬ c'.S b := fun i o b hi r hb hS => by
  have s := (f.own i o b r hb).2
  rcases L.src b hS s.1 with N | N
  ·grind
  ·obtain ⟨i', o', hi', Z, hb'⟩ := hMw b N
   exact hi (f.sep i i' o o' b r Z hb hb' ▸ hi')
 refine ⟨⟨?_, ⟨hk.os.trans f.keeps.os, hk.tape.trans f.keeps.tape, hk.output.trans f.keeps.output, Nat.le_trans f.keeps.size hk.size, fun b hb hM => ?_⟩, fun b hb => ?_, fun b hb hlt => ?_, fun i o r => ?_, fun i o b r hb => ?_, fun i k oi ok b hi hk' W U => ?_, aBj f.root hl.le⟩, hl, g⟩
 ·unfold aEF cN
  simp only [List.length_append, aFU, rC, List.length_map, List.length_drop, f.n]
 ·have hbw : b < w.heap.size := Nat.lt_of_lt_of_le hb f.keeps.size
  rw [hk.block b hbw (fun hw => ?_)]
  ·exact f.keeps.block b hb hM
  grind
 ·rcases hb with hb | hb
  ·exact Nat.lt_of_lt_of_le (f.sfin b hb) hk.size
  ·exact L.sfin b hb
 ·rcases hb with hb | hb
  ·exact f.src b hb hlt
  ·rcases L.src b hb (Nat.lt_of_lt_of_le hlt f.keeps.size) with s | s
   ·rw [hMr] at s; exact f.src b s hlt
   grind
 ·rcases hcase i o r with ⟨hi, r⟩ | rfl | ⟨j, I, J, hij, rfl⟩
  ·exact (f.objs i o r).keep hl (by rw [f.n]; grind) (O i (aAC r) hi) (fun b hb => hk.block b (f.own i o b r hb).2.1 (fun hw => by
    obtain ⟨i', o', hi', Z, hb'⟩ := hMw b hw
    exact hi (f.sep i i' o o' b r Z hb hb' ▸ hi')))
  ·trivial
  grind
 ·rcases hcase i o r with ⟨hi, r⟩ | rfl | ⟨j, I, J, hij, rfl⟩
  ·rw [gK hl.le (O i (aAC r) hi) (by rw [f.n]; grind)] at hb
   obtain ⟨s, N, h3⟩ := f.own i o b r hb
   refine ⟨s, Nat.lt_of_lt_of_le N hk.size, fun hS => ?_⟩
   rcases hS with hS | hS
   all_goals grind
  ·cases hb
  ·have hb := Y j I i b J hij hb
   obtain ⟨s, N, h3⟩ := L.own j I b J hb
   refine ⟨?_, N, fun hS => ?_⟩
   ·rcases s with s | s
    ·exact .inl (Nat.le_trans f.keeps.size s)
    grind
   ·rcases hS with hS | hS
    ·rcases s with s | s
     ·have := f.sfin b hS; omega
     grind
    grind
 ·rcases hcase i oi hi with ⟨hi, r⟩ | rfl | ⟨j, I, J, hij, rfl⟩
  ·rw [gK hl.le (O i (aAC r) hi) (by rw [f.n]; grind)] at W
   rcases hcase k ok hk' with ⟨hk2, ho2⟩ | rfl | ⟨j2, oj2, hj2, hij2, rfl⟩
   ·rw [gK hl.le (O k (aAC ho2) hk2) (by rw [f.n]; grind)] at U
    exact f.sep i k oi ok b r ho2 W U
   ·cases U
   grind
  ·cases W
  ·have W := Y j I i b J hij W
   rcases hcase k ok hk' with ⟨hk2, ho2⟩ | rfl | ⟨j2, oj2, hj2, hij2, rfl⟩
   ·rw [gK hl.le (O k (aAC ho2) hk2) (by rw [f.n]; grind)] at U
    grind
   ·cases U
   ·have U := Y j2 oj2 k b hj2 hij2 U
    have := L.sep j j2 I oj2 b J hj2 W U
    grind
end
end Go.Vc
namespace Go.Vc
open Go.RowKit
structure Hit where
 sp : fT
 σ : List Nat
 d : sp.D
def aOm (h : List Obj) (σ : List Nat) : List AV → List AV → Prop
 | [], [] => True
 | v :: r, .val t x :: r' => AV.as (h.map fL) t v = some x ∧ aOm h σ r r'
 | v :: r, u :: r' => ren σ v = u ∧ aOm h σ r r'
 | _, _ => False
def bF9 (n : Nat) (σ : List Nat) : Bool := σ.all fun i => decide (i < n)
def cT : AV → Bool
 | .junk => false
 | _ => true
def bCw (f : List Nat) : AV → Bool
 | .tup b => b.all fun u => cT (aGl f u)
 | _ => true
def aMI (h : List Obj) (vs : List AV) (t : Hit) : Prop :=
 nodupB t.σ = true ∧ bF9 h.length t.σ = true ∧ t.sp.m ≤ t.σ.length ∧ aOm h t.σ vs (t.sp.av t.d) ∧ t.σ.map (fun i => dF t.σ (h.getD i .dead)) = t.sp.hp t.d ∧ t.sp.pre t.d
def aXc (o : bGC) (k : AV → List Obj → Prop) (kp : Pan → List Obj → Prop) : Prop :=
 match o with
 | .ret v h => k v h
 | .pan p h => kp p h
theorem aXd (v : AV) (h : List Obj) (k : AV → List Obj → Prop) (kp : Pan → List Obj → Prop) : aXc (.ret v h) k kp = k v h := rfl
theorem aXe (p : Pan) (h : List Obj) (k : AV → List Obj → Prop) (kp : Pan → List Obj → Prop) : aXc (.pan p h) k kp = kp p h := rfl
theorem bCx (c : Prop) [Decidable c] (a b : bGC) (k : AV → List Obj → Prop) (kp : Pan → List Obj → Prop) : aXc (if c then a else b) k kp = ((c → aXc a k kp) ∧ (¬ c → aXc b k kp)) := by
 grind
def aCZ (G : Nat → AV) (env : St) (h : List Obj) (o : Oper) : Option (FuncId × List AV) :=
 match o.op with
 | .call c => match c.callee with
  | .value x => match evA G env x with
   | .fn f [] l2 => if aFS h l2 = true then some (f, c.args.toList.map (evA G env) ++ l2.map fun i => .ptr i []) else none
   | .fn f (i :: l1) l2 => if aFS h (i :: l1) = true ∧ aFS h l2 = true then some (f, ((i :: l1).map fun i => .ptr i []) ++ (c.args.toList.map (evA G env) ++ l2.map fun i => .ptr i [])) else none
   | .val (.clo g t) y => if vQ t = true then some (g, c.args.toList.map (evA G env) ++ aDF t y) else none
   | _ => none
  | _ => none
 | _ => none
def aXf (Δ : FuncId → List AV → List Obj → Option Hit) (h : List Obj) : Option (FuncId × List AV) → Option Hit
 | some (f, b) => Δ f b h
 | none => none
def aVr : Option (FuncId × List AV) → List AV
 | some (_, b) => b
 | none => []
def aRZ (G : Nat → AV) (env : St) (o : Oper) : Option Pan :=
 match o.op with
 | .call c => match c.callee with
  | .builtin .panic => match c.args.toList with
   | [x] => match evA G env x with
    | .val (.ifc k t) d => some ⟨k, t, d⟩
    | _ => none
   | _ => none
  | _ => none
 | .panic x => match evA G env x with
  | .val (.ifc k t) d => some ⟨k, t, d⟩
  | _ => none
 | _ => none
def aOn (T : Tab) (h : List Obj) (t : TypeId) (x : AV) (lo hi : Option AV) : Prop × AV :=
 match x with
 | .own i => match h[i]? with
  | some (.row _ c b) => match (lo.map aCS).getD (some 0), (hi.map aCS).getD (some (b.length : Int)) with
   | some l, some u => (T t = some (.sl c) ∧ 0 ≤ l ∧ l < u ∧ u ≤ (b.length : Int), .sub i c.cells l.toNat (u - l).toNat)
   | _, _ => (False, .junk)
  | _ => (False, .junk)
 | .ptr i [] => match h[i]? with
  | some (.box _ (.val (.arr n c) _)) => match (lo.map aCS).getD (some 0), (hi.map aCS).getD (some (n : Int)) with
   | some l, some u => (T t = some (.arr n c) ∧ 0 ≤ l ∧ l < u ∧ u ≤ (n : Int), .sub i c.cells l.toNat (u - l).toNat)
   | _, _ => (False, .junk)
  | _ => (False, .junk)
 | _ => (False, .junk)
noncomputable def aR0 (E : Env) (sb : List Nat) (env : St) (h : List Obj) (o : Oper) : Prop × AV × List Obj :=
 match o.op, o.dst with
 | .slice t x lo hi none, some d => bif sb.contains d then ((aOn E.T h t (evA E.G env x) (lo.map (evA E.G env)) (hi.map (evA E.G env))).1, (aOn E.T h t (evA E.G env x) (lo.map (evA E.G env)) (hi.map (evA E.G env))).2, h) else zH E env h o
 | _, _ => zH E env h o
def aJe (E : Env) (Δ : FuncId → List AV → List Obj → Option Hit) (sb : List Nat) (env : St) (h : List Obj) (o : Oper) (k : AV → List Obj → Prop) (kp : Pan → List Obj → Prop) : Prop :=
 match aXf Δ h (aCZ E.G env h o) with
 | some t => aMI h (aVr (aCZ E.G env h o)) t ∧ aXc (t.sp.out t.d) (fun v h' => bCw (sC t.σ t.sp.m h.length h'.length) v = true ∧ k (emb (sC t.σ t.sp.m h.length h'.length) v) (aEF t.σ t.sp.m h h')) (fun p h' => kp p (aEF t.σ t.sp.m h h'))
 | none => match aRZ E.G env o with
  | some p => kp p h
  | none => match aR0 E sb env h o with
   | (p, v, h') => p ∧ k v h'
def aBo (E : Env) (Δ : FuncId → List AV → List Obj → Option Hit) (sb : List Nat) (all : List Oper) : List Oper → St → List Obj → (St → List Obj → Prop) → (Pan → St → List Obj → Prop) → Prop
 | [], env, h, K, _ => K env h
 | o :: r, env, h, K, Kp => match o.guard with
  | none => aJe E Δ sb env h o (fun v h' => aBo E Δ sb all r (xH o.dst v env) h' K Kp) (fun p h' => Kp p env h')
  | some (j, f) => match aJc all j with
   | some g => match look env g with
    | .val .bool b => (b = f → aJe E Δ sb env h o (fun v h' => aBo E Δ sb all r (xH o.dst v env) h' K Kp) (fun p h' => Kp p env h')) ∧ (b = !f → aBo E Δ sb all r (xH o.dst .undef env) h K Kp)
    | .undef => aBo E Δ sb all r (xH o.dst .undef env) h K Kp
    | _ => False
   | none => False
structure aEG (P : Program) (G : Nat → AV) (Δ : FuncId → List AV → List Obj → Option Hit) : Prop where
 ok : ∀ f vs h t, Δ f vs h = some t → GOK P G f t.sp
 fn : ∀ f vs h t, Δ f vs h = some t → ∃ fn, P.funcs[f]? = some fn ∧ fn.name ≠ "runtime.NumGoroutine" ∧ fn.body.isSome = true
section
variable {P : Program} {E : Env} {M : Perm} {w0 : World} {c : Ctx} {h : List Obj} {w : World}
theorem aRg : ∀ {l : List Nat}, nodupB l = true → l.Nodup
 | [], _ => List.nodup_nil
 | i :: r, h => by
  simp only [nodupB, Bool.and_eq_true, Bool.not_eq_true'] at h
  refine List.nodup_cons.2 ⟨fun hm => ?_, aRg h.2⟩
  simp_all
theorem aUA (j : Good M w0 c h w) {σ : List Nat} : ∀ {vs us : List AV} {xs : List Value}, aOm h σ vs us → vs.length = xs.length → (∀ i (b : i < vs.length) (f : i < xs.length), aW c w vs[i] xs[i]) →
  xs.length = us.length ∧ ∀ i (b : i < us.length) (f : i < xs.length), aW (c.ren σ) w us[i] xs[i]
 | [], [], [], _, _, _ => ⟨rfl, fun i b => by grind⟩
 | v :: r, u :: r', x :: xs, q, s, hv => by
  have h0 := hv 0 (by simp) (by simp)
  simp only [List.getElem_cons_zero] at h0
  have g : aW (c.ren σ) w u x ∧ aOm h σ r r' := by
   cases u with
   | val t d =>
    obtain ⟨b, f⟩ := q
    exact ⟨aW.ofV (yD j h0 b), f⟩
   | _ =>
    obtain ⟨b, f⟩ := q
    grind [aRf]
  obtain ⟨z, I⟩ := aUA j g.2 (by simpa using s) (fun i b f => by have := hv (i + 1) (by simp_all) (by simp_all); simp_all)
  grind
def bHj (M : Perm) (w0 : World) (c : Ctx) (h : List Obj) (w : World) (t : Hit) (e : Ending) (w' : World) : Prop :=
 ∃ cN, dS c w cN w' ∧ match t.sp.out t.d with
  | .ret v h' => ∃ u, e = .returned u ∧ Good M w0 cN (aEF t.σ t.sp.m h h') w' ∧ (bCw (sC t.σ t.sp.m h.length h'.length) v = true → aW cN w' (emb (sC t.σ t.sp.m h.length h'.length) v) u)
  | .pan p h' => ∃ u, e = .panicked (aTu p.k u) ∧ Good M w0 cN (aEF t.σ t.sp.m h h') w' ∧ dE w' cN.S p.t p.x u
theorem aUB {C : (Ending → World → Prop) → Prop} (hC : ∀ R R' : Ending → World → Prop, C R → (∀ e w', R e w' → R' e w') → C R') {G : Nat → AV} {t : Hit} {vs : List AV} {xs : Array Value} (hok : t.sp.pre t.d → GIn G t.sp (c.ren t.σ) w t.d xs.toList → C (aMH t.sp (c.ren t.σ) w t.d)) (W : Good M w0 c h w) (hG : sG G c.S w) (hl : vs.length = xs.size) (hv : ∀ i (Z : i < vs.length) (h2 : i < xs.toList.length), aW c w vs[i] xs.toList[i]) (hh : aMI h vs t) :
  C (bHj M w0 c h w t) := by
 obtain ⟨Z, h2, h3, h4, h5, h6⟩ := hh
 have hσ : ∀ i ∈ t.σ, i < h.length := fun i hi => by
  have := List.all_eq_true.1 h2 i hi
  simp_all
 have g0 := W.rebase (m := 0) (Nat.zero_le _)
 have g1 := g0.ren (σ := t.σ) Z (by rfl)
 have hcn : (c.ren t.σ).n = t.σ.length := rfl
 have g2 := g1.rebase (m := t.sp.m) (by omega)
 rw [h5] at g2
 obtain ⟨q1, q2⟩ := aUA (xs := xs.toList) W h4 (by omega) hv
 have I : GIn G t.sp (c.ren t.σ) w t.d xs.toList := ⟨g2, hG, q1, q2⟩
 refine hC _ _ (hok h6 I) ?_
 rintro e w' ⟨c', f⟩
 have r : ∀ h', Good (GM t.sp (c.ren t.σ) t.d) w c' h' w' → Good M w0 (Vc.cN c c' t.sp.m h'.length t.σ (sC t.σ t.sp.m h.length h'.length)) (aEF t.σ t.sp.m h h') w' ∧ dS c w (Vc.cN c c' t.sp.m h'.length t.σ (sC t.σ t.sp.m h.length h'.length)) w' ∧ Emb (sC t.σ t.sp.m h.length h'.length) c' (Vc.cN c c' t.sp.m h'.length t.σ (sC t.σ t.sp.m h.length h'.length)) := fun h' q =>
  W.frame (aRg Z) hσ h3 (Ml := GM t.sp (c.ren t.σ) t.d) rfl (fun b hb => by
   obtain ⟨j, o', z, O⟩ := hb
   rw [← h5, List.getElem?_map] at z
   cases s : t.σ[j]? with
   | none => simp_all
   | some i =>
    rw [s] at z
    simp only [Option.map_some, Option.some.injEq] at z
    subst z
    rw [aMG s] at O
    grind) rfl (fun j _ => rfl) q
 cases g : t.sp.out t.d with
 | ret v h' =>
  rw [g] at f
  obtain ⟨u, rfl, q, J⟩ := f
  obtain ⟨N, Y, U⟩ := r h' q
  refine ⟨_, Y, ?_⟩
  rw [g]
  refine ⟨u, rfl, N, fun hb => bEK U J fun vs L a ha => ?_⟩
  subst L
  have := List.all_eq_true.1 hb a ha
  intro s
  rw [s] at this
  cases this
 | pan p h' =>
  rw [g] at f
  obtain ⟨u, rfl, q, J⟩ := f
  obtain ⟨N, Y, U⟩ := r h' q
  refine ⟨_, Y, ?_⟩
  rw [g]
  exact ⟨u, rfl, N, J.keep U.S (.refl _ _)⟩
theorem bCy {G : Nat → AV} {f : FuncId} {t : Hit} (g : GOK P G f t.sp) (j : Good M w0 c h w) (s : sG G c.S w) {vs : List AV} {xs : Array Value} (r : vs.length = xs.size) (hv : ∀ i (J : i < vs.length) (z : i < xs.toList.length), aW c w vs[i] xs.toList[i]) (q : aMI h vs t) :
  Calls P f xs w (bHj M w0 c h w t) :=
 aUB (C := Calls P f xs w) (fun R I h k => h.mono k) (fun hp b => g _ _ _ _ hp b) j s r hv q
def AtP (F : Fr) (Q : Exit → Act → World → Prop) (p : Pan) (env : St) (h : List Obj) : Prop :=
 ∀ c a w u, Sim F.E F.M F.w0 F.nt F.ds c env h a w → dE w c.S p.t p.x u → Q (.panic (aTu p.k u)) a w
theorem bCz {f : FuncId} {j l2 : List Nat} {v : Value} (hv : aW c w (.fn f j l2) v) : (∀ i ∈ j, i < c.n) ∧ (∀ i ∈ l2, i < c.n) ∧ v = .func (.func f) (j.map c.hd).toArray (l2.map c.hd).toArray := by
 obtain ⟨b, _, g⟩ := hv
 have g := g rfl
 simp only [aM] at b
 obtain ⟨h0, q, b⟩ := b
 refine ⟨h0, q, ?_⟩
 cases v <;> simp [Value.cells] at b g
 simp_all
theorem bBe (hE : iA P E) {nt : Nat} {ds : List Deferred} {env : St} {a : Act} (hs : Sim E M w0 nt ds c env h a w) {o : Oper} (W : gY nt o = true) {f : FuncId} {vs : List AV} (hc : aCZ E.G env h o = some (f, vs)) (hfn : ∃ fn, P.funcs[f]? = some fn ∧ fn.name ≠ "runtime.NumGoroutine" ∧ fn.body.isSome = true) :
  ∃ xs : Array Value, (execOp a.eval o).run P w = .ok (.enter f xs) w ∧ vs.length = xs.size ∧ ∀ i (b : i < vs.length) (j : i < xs.toList.length), aW c w vs[i] xs.toList[i] := by
 obtain ⟨dst, op, ty, pos, Z, gd⟩ := o
 unfold aCZ at hc
 split at hc
 ·rename_i cl N
  simp only at N
  subst N
  obtain ⟨callee, args, argTypes⟩ := cl
  simp only at hc
  simp only [gY, Bool.and_eq_true] at W
  have J : ∀ x ∈ (Op.call ⟨callee, args, argTypes⟩).operands, qV x = true := Array.all_eq_true_iff_forall_mem.1 W.1
  have hargs : ∀ x ∈ args.toList, aW c w (evA E.G env x) (a.eval x) := fun x I => aEw hs.env hs.glob (J x (by
   simp only [Op.operands, Call.operands]
   exact Array.mem_append.2 (.inr (by simpa using I))))
  have Y := aKg (ρ := evA E.G env) (a := a) (c := c) (w := w) hargs
  split at hc
  ·rename_i x
   have I := aEw hs.env hs.glob (J x (by simp [Op.operands, Call.operands]))
   have fin : ∀ (g : FuncId) (s us : List Value) (L U : List AV), a.eval x = .func (.func g) s.toArray us.toArray → s.length = L.length → (∀ i (b : i < L.length) (j : i < s.length), aW c w L[i] s[i]) → us.length = U.length → (∀ i (b : i < U.length) (j : i < us.length), aW c w U[i] us[i]) → f = g → vs = L ++ (args.toList.map (evA E.G env) ++ U) →
     ∃ xs : Array Value, (execOp a.eval ⟨dst, .call ⟨.value x, args, argTypes⟩, ty, pos, Z, gd⟩).run P w = .ok (.enter f xs) w ∧ vs.length = xs.size ∧ ∀ i (b : i < vs.length) (j : i < xs.toList.length), aW c w vs[i] xs.toList[i] := fun g s us L U hf hfl hfv hul huv e1 e2 => by
    subst e1
    subst e2
    have app : ∀ {z l2 : List AV} {m1 O : List Value}, m1.length = z.length → (∀ i (b : i < z.length) (j : i < m1.length), aW c w z[i] m1[i]) → (∀ i (b : i < l2.length) (j : i < O.length), aW c w l2[i] O[i]) → ∀ i (b : i < (z ++ l2).length) (j : i < (m1 ++ O).length), aW c w (z ++ l2)[i] (m1 ++ O)[i] := fun {z l2 m1 O} hl k1 k2 i b j => by
     grind
    refine ⟨(s ++ (args.toList.map a.eval ++ us)).toArray, ?_, by simp_all, fun i b j => ?_⟩
    ·have hrun := aDX (P := P) (w := w) (args := (s ++ (args.toList.map a.eval ++ us)).toArray) hfn
     have e2 : s.toArray ++ args.map a.eval ++ us.toArray = (s ++ (args.toList.map a.eval ++ us)).toArray := by simp_all
     simp only [execOp, resolve, Deferred.ofValue, hf, pure_bind]
     grind [invoke]
    ·exact app hfl hfv (app (by simp) Y huv) i (by omega) (by omega)
   split at hc
   ·rename_i g l2 q
    split at hc
    ·rename_i r
     simp only [Option.some.injEq, Prod.mk.injEq] at hc
     rw [q] at I
     obtain ⟨b, j⟩ := aZY I
     exact fin g [] (l2.map c.hd) [] (l2.map fun i => .ptr i []) j rfl (fun i b => by cases b) (by simp) (aI5 hs.good r b) hc.1.symm hc.2.symm
    grind
   ·rename_i g i0 z l2 q
    split at hc
    ·rename_i r
     simp only [Option.some.injEq, Prod.mk.injEq] at hc
     rw [q] at I
     obtain ⟨b, j, h3⟩ := bCz I
     exact fin g ((i0 :: z).map c.hd) (l2.map c.hd) ((i0 :: z).map fun i => .ptr i []) (l2.map fun i => .ptr i []) h3 (by simp) (aI5 hs.good r.1 b) (by simp) (aI5 hs.good r.2 j) hc.1.symm hc.2.symm
    grind
   ·rename_i g t y q
    split at hc
    ·rename_i hcp
     simp only [Option.some.injEq, Prod.mk.injEq] at hc
     rw [q] at I
     obtain ⟨us, b, j⟩ := aWV I
     obtain ⟨k1, k2⟩ := aRD hcp j
     exact fin g [] us [] (aDF t y) b rfl (fun i b => by cases b) k1 k2 hc.1.symm hc.2.symm
    grind
   grind
  grind
 grind
theorem bAa {nt : Nat} {ds : List Deferred} {env : St} {a : Act} (hs : Sim E M w0 nt ds c env h a w) {o : Oper} (g : gY nt o = true) {p : Pan} (hc : aRZ E.G env o = some p) :
  ∃ u, (execOp a.eval o).run P w = .halt (.panic (.iface p.k u)) w ∧ dE w c.S p.t p.x u := by
 obtain ⟨dst, N, ty, z, I, O⟩ := o
 simp only [gY, Bool.and_eq_true] at g
 unfold aRZ at hc
 split at hc
 ·rename_i cl f
  simp only at f
  subst f
  obtain ⟨callee, args, argTypes⟩ := cl
  simp only at hc
  have b : ∀ x ∈ (Op.call ⟨callee, args, argTypes⟩).operands, qV x = true := Array.all_eq_true_iff_forall_mem.1 g.1
  split at hc
  ·split at hc
   ·rename_i x L
    split at hc
    ·rename_i k t d j
     cases hc
     have q : x ∈ args.toList := by simp_all
     have hv := aEw hs.env hs.glob (b x (by
      simp only [Op.operands, Call.operands]
      exact Array.mem_append.2 (.inr (by simpa using q))))
     rw [j] at hv
     obtain ⟨u, s, r⟩ := aRF hv
     have J : args = #[x] := by grind
     refine ⟨u, ?_, r⟩
     simp [execOp, resolve, invoke, builtin, J, s, Instr.panic, goPanic]
    grind
   grind
  grind
 ·rename_i x f
  simp only at f
  subst f
  have b : ∀ y ∈ (Op.panic x).operands, qV y = true := Array.all_eq_true_iff_forall_mem.1 g.1
  split at hc
  ·rename_i k t d j
   cases hc
   have hv := aEw hs.env hs.glob (b x (by simp [Op.operands]))
   rw [j] at hv
   obtain ⟨u, s, r⟩ := aRF hv
   simp_all [execOp, Instr.panic, goPanic]
  grind
 grind
end
end Go.Vc
namespace Go.Vc
open Go.RowKit
section
variable {P : Program} {E : Env} {M : Perm} {w0 : World} {c : Ctx} {h : List Obj} {w : World}
theorem Sim.step {nt : Nat} {ds : List Deferred} {env : St} {a : Act} (hs : Sim E M w0 nt ds c env h a w) {h' : List Obj} {c' : Ctx} {w' : World} (b : dS c w c' w') (f : Good M w0 c' h' w') : Sim E M w0 nt ds c' env h' a w' :=
 ⟨f, hs.glob.mono b.le.S b.same, hs.env.keep b, hs.size, hs.defers⟩
theorem bEL (U : lP P E.T) (hg : Good M w0 c h w) {t : TypeId} {x : AV} {v : Value} {lo hi : Option AV} {s hv : Option Value} (hx : aW c w x v) (r : aTp c w lo s) (f : aTp c w hi hv) (hc : (aOn E.T h t x lo hi).1) :
  ∃ u, (Instr.sliceAt t v s hv none).run P w = .ok u w ∧ aW c w (aOn E.T h t x lo hi).2 u := by
 unfold aOn at hc ⊢
 split at hc
 ·rename_i i
  split at hc
  ·rename_i e ct xs ho
   split at hc
   ·rename_i l u I j
    obtain ⟨ht, h0, h1, h2⟩ := hc
    obtain ⟨L, rfl⟩ := aCy hx
    obtain ⟨vals, ⟨_, W⟩, _⟩ := hg.objs i _ ho
    obtain ⟨e', hd, Y, O⟩ := fZ (U _ _ ht)
    rcases W with ⟨_, hz⟩ | ⟨g, q, cur, N, _, _, hle, hcap, _⟩
    ·omega
    have hb : (Instr.sliceBounds true xs.length q s hv none).run P w = .ok (l.toNat, u.toNat, q) w := by
     cases lo with
     | none =>
      cases s with
      | some _ => cases r
      | none =>
       simp at I
       subst I
       cases hi with
       | none =>
        cases hv with
        | some _ => cases f
        | none =>
         simp at j
         subst j
         rfl
       | some ha =>
        cases hv with
        | none => cases f
        | some hv =>
         simp at j
         obtain ⟨k, rfl⟩ := (by cases f with | some z => exact aBm z j : ∃ k, hv = Value.int k u)
         simp [Instr.sliceBounds, gZ (P := P) (w := w) (i := u) (y := q) (by omega) (by omega)]
     | some la =>
      cases s with
      | none => cases r
      | some s =>
       simp at I
       obtain ⟨k, rfl⟩ := (by cases r with | some z => exact aBm z I : ∃ k, s = Value.int k l)
       cases hi with
       | none =>
        cases hv with
        | some _ => cases f
        | none =>
         simp at j
         subst j
         simp [Instr.sliceBounds, gZ (P := P) (w := w) (i := l) (y := xs.length) (by omega) (by omega)]
       | some ha =>
        cases hv with
        | none => cases f
        | some hv =>
         simp at j
         obtain ⟨k', rfl⟩ := (by cases f with | some z => exact aBm z j : ∃ k, hv = Value.int k u)
         simp [Instr.sliceBounds, gZ (P := P) (w := w) (i := u) (y := q) (by omega) (by omega), gZ (P := P) (w := w) (i := l) (y := u.toNat) h0 (by omega)]
    have J : ¬ q = l.toNat := by omega
    refine ⟨.slice (some ⟨g, l.toNat * ct.cells, none⟩) (u.toNat - l.toNat) (q - l.toNat), ?_, ?_⟩
    ·rw [N]
     simp [Instr.sliceAt, Instr.slice, bA hd, hb, fK (U _ _ Y), J, Addr.add]
     omega
    ·refine ⟨?_, (fun h => by simp [AV.isAgg] at h), (fun _ cs => by simp)⟩
     simp only [aM]
     refine ⟨L, by omega, g, q - l.toNat, by rw [N]; rfl, ?_⟩
     grind [Value.cells]
   simp_all
  simp_all
 ·rename_i i
  split at hc
  ·rename_i m n ct xs ho
   split at hc
   ·rename_i l u I j
    obtain ⟨ht, h0, h1, h2⟩ := hc
    obtain ⟨L, b, Z, rfl⟩ := aG6 hx
    obtain ⟨e', hd, Y, O, hn1, hn2⟩ := aEl (U _ _ ht)
    have hb : (Instr.sliceBounds false n n s hv none).run P w = .ok (l.toNat, u.toNat, n) w := by
     cases lo with
     | none =>
      cases s with
      | some _ => cases r
      | none =>
       simp at I
       subst I
       cases hi with
       | none =>
        cases hv with
        | some _ => cases f
        | none =>
         simp at j
         subst j
         rfl
       | some ha =>
        cases hv with
        | none => cases f
        | some hv =>
         simp at j
         obtain ⟨k, rfl⟩ := (by cases f with | some z => exact aBm z j : ∃ k, hv = Value.int k u)
         simp [Instr.sliceBounds, gZ (P := P) (w := w) (i := u) (y := n) (by omega) (by omega)]
     | some la =>
      cases s with
      | none => cases r
      | some s =>
       simp at I
       obtain ⟨k, rfl⟩ := (by cases r with | some z => exact aBm z I : ∃ k, s = Value.int k l)
       cases hi with
       | none =>
        cases hv with
        | some _ => cases f
        | none =>
         simp at j
         subst j
         simp [Instr.sliceBounds, gZ (P := P) (w := w) (i := l) (y := n) (by omega) (by omega)]
       | some ha =>
        cases hv with
        | none => cases f
        | some hv =>
         simp at j
         obtain ⟨k', rfl⟩ := (by cases f with | some z => exact aBm z j : ∃ k, hv = Value.int k u)
         simp [Instr.sliceBounds, gZ (P := P) (w := w) (i := u) (y := n) (by omega) (by omega), gZ (P := P) (w := w) (i := l) (y := u.toNat) h0 (by omega)]
    have J : ¬ n = l.toNat := by omega
    refine ⟨.slice (some ⟨b, l.toNat * ct.cells, none⟩) (u.toNat - l.toNat) (n - l.toNat), ?_, ?_⟩
    ·simp [Instr.sliceAt, Instr.sureAddr, bA hd, hb, fK (U _ _ Y), J, Addr.add, oF]
     omega
    ·refine ⟨?_, (fun h => by simp [AV.isAgg] at h), (fun _ cs => by simp)⟩
     simp only [aM]
     refine ⟨L, by grind [maxLen], b, n - l.toNat, Z, ?_⟩
     grind [Value.cells]
   simp_all
  simp_all
 simp_all
theorem aXg (J : iA P E) {sb : List Nat} {nt : Nat} {ds : List Deferred} {env : St} {a : Act} {o : Oper} (hs : Sim E M w0 nt ds c env h a w) (q : gY nt o = true) (hc : (aR0 E sb env h o).1) : aYS P M w0 c o a w (aR0 E sb env h o).2.2 (aR0 E sb env h o).2.1 := by
 unfold aR0 at hc ⊢
 split at hc
 ·rename_i t x lo hi d g s
  cases r : sb.contains d with
  | false =>
   simp only [r, cond_false] at hc ⊢
   grind [aKl]
  | true =>
   simp only [r, cond_true] at hc ⊢
   simp only [gY, Bool.and_eq_true] at q
   have f : ∀ x ∈ o.op.operands, qV x = true := Array.all_eq_true_iff_forall_mem.1 q.1
   have b : ∀ y ∈ o.op.operands, aW c w (evA E.G env y) (a.eval y) := fun y j => aEw hs.env hs.glob (f y j)
   rw [g] at b
   obtain ⟨u, I, z⟩ := bEL (P := P) J.T hs.good (b x (by simp [Op.operands])) (aRC (o := lo) fun y j => b y (by simp [Op.operands, j])) (aRC (o := hi) fun y j => b y (by simp [Op.operands, j])) hc
   refine (Did.of_value (v := u) (h := h) hs.good ?_ z).toE
   simp [execOp, g, I]
 grind [aKl]
theorem aR1 (N : iA P E) {sb : List Nat} {Δ : FuncId → List AV → List Obj → Option Hit} (J : aEG P E.G Δ) {nt : Nat} {ds : List Deferred} {env : St} {a : Act} {o : Oper} (hs : Sim E M w0 nt ds c env h a w) (q : gY nt o = true) {k : AV → List Obj → Prop} {kp : Pan → List Obj → Prop} (hc : aJe E Δ sb env h o k kp)
  {next : Act → World → Prop} {Q : Exit → Act → World → Prop} (L : ∀ v h' c' u w', k v h' → aLw M w0 c w h' v u w' c' → next (a.put o.dst u) w') (hp : ∀ p h' c' u w', kp p h' → dS c w c' w' → Good M w0 c' h' w' → dE w' c'.S p.t p.x u → Q (.panic (aTu p.k u)) a w') : o.wp P a w next Q := by
 unfold aJe at hc
 cases j : aCZ E.G env h o with
 | some Z =>
  obtain ⟨f, U⟩ := Z
  simp only [j, aXf, aVr] at hc
  cases hd : Δ f U h with
  | some t =>
   simp only [hd] at hc
   obtain ⟨h1, I⟩ := hc
   obtain ⟨xs, z, s, q3⟩ := bBe N hs q j (J.fn f U h t hd)
   unfold Oper.wp
   rw [z]
   refine Calls.mono (bCy (J.ok f U h t hd) hs.good hs.glob s q3 h1) ?_
   rintro e w' ⟨cN, Y, g⟩
   cases r : t.sp.out t.d with
   | ret v h' =>
    rw [r] at g I
    obtain ⟨u, rfl, O, hv⟩ := g
    exact L _ _ cN u w' I.2 ⟨Y, O, hv I.1⟩
   | pan p h' =>
    rw [r] at g I
    obtain ⟨u, rfl, O, hv⟩ := g
    exact hp p _ cN u w' I Y O hv
  | none =>
   simp only [hd] at hc
   cases b : aRZ E.G env o with
   | some p =>
    simp only [b] at hc
    obtain ⟨u, z, s⟩ := bAa (P := P) hs q b
    unfold Oper.wp
    rw [z]
    exact hp p h c u w hc (.refl _ _) hs.good s
   | none =>
    simp only [b] at hc
    exact (aXg N hs q hc.1).wp fun v w' c' W => L _ _ c' v w' hc.2 W
 | none =>
  simp only [j, aXf] at hc
  cases b : aRZ E.G env o with
  | some p =>
   simp only [b] at hc
   obtain ⟨u, z, s⟩ := bAa (P := P) hs q b
   unfold Oper.wp
   rw [z]
   exact hp p h c u w hc (.refl _ _) hs.good s
  | none =>
   simp only [b] at hc
   exact (aXg N hs q hc.1).wp fun v w' c' W => L _ _ c' v w' hc.2 W
theorem aVs (O : iA P E) {sb : List Nat} {Δ : FuncId → List AV → List Obj → Option Hit} (z : aEG P E.G Δ) {ops : List Oper} {Q : Exit → Act → World → Prop} {nt : Nat} {ds : List Deferred} (q : ∀ o ∈ ops, gY nt o = true) {K : St → List Obj → Prop} {Kp : Pan → St → List Obj → Prop}
  (Z : ∀ env h c a w, K env h → Sim E M w0 nt ds c env h a w → Q .normal a w) (s : ∀ p env h c a w u, Kp p env h → Sim E M w0 nt ds c env h a w → dE w c.S p.t p.x u → Q (.panic (aTu p.k u)) a w) :
  ∀ (m i : Nat), i + m = ops.length → ∀ (env : St) (h : List Obj) (c : Ctx) (a : Act) (w : World), aBo E Δ sb ops (ops.drop i) env h K Kp → Sim E M w0 nt ds c env h a w → wpOps P ops.toArray Q (List.range' i m) a w
 | 0, i, hi, env, h, c, a, w, hs, f => by
  rw [List.drop_eq_nil_of_le (by omega)] at hs
  simp only [List.range'_zero, wpOps]
  exact Z env h c a w hs f
 | m + 1, i, hi, env, h, c, a, w, hs, f => by
  have r : i < ops.length := by omega
  rw [List.drop_eq_getElem_cons r] at hs
  have g := q ops[i] (List.getElem_mem r)
  have L : ∀ (v : Value) (av : AV), aW c w av v → Sim E M w0 nt ds c (xH ops[i].dst av env) h (a.put ops[i].dst v) w := fun v av hv => f.after g ⟨.refl _ _, f.good, hv⟩
  have hrun : aJe E Δ sb env h ops[i] (fun v h' => aBo E Δ sb ops (ops.drop (i + 1)) (xH ops[i].dst v env) h' K Kp) (fun p h' => Kp p env h') → Region.wanted ops[i] (yielded ops.toArray a.tmps) = true → wpOps P ops.toArray Q (List.range' i (m + 1)) a w := fun h1 N => by
   rw [List.range'_succ]
   simp only [wpOps, List.getElem?_toArray, List.getElem?_eq_getElem r, N, if_true]
   left
   refine aR1 O z f g h1 (fun v h' c' u w' Y ha => ?_) (fun p h' c' u w' Y hl hg hr => s p env h' c' a w' u Y (f.step hl hg) hr)
   exact aVs O z q Z s m (i + 1) (by omega) _ _ c' _ w' Y (f.after g ha)
  have hskip : aBo E Δ sb ops (ops.drop (i + 1)) (xH ops[i].dst .undef env) h K Kp → Region.wanted ops[i] (yielded ops.toArray a.tmps) = false → wpOps P ops.toArray Q (List.range' i (m + 1)) a w := fun h2 N => by
   rw [List.range'_succ]
   simp only [wpOps, List.getElem?_toArray, List.getElem?_eq_getElem r, N, Bool.false_eq_true, if_false]
   exact aVs O z q Z s m (i + 1) (by omega) _ _ c _ w h2 (L _ _ rfl)
  simp only [aBo] at hs
  cases W : ops[i].guard with
  | none =>
   grind [Region.wanted]
  | some jp =>
   obtain ⟨j, I⟩ := jp
   rw [W] at hs
   simp only at hs
   cases J : aJc ops j with
   | none => simp_all
   | some dj =>
    rw [J] at hs
    simp only at hs
    have hv := f.env dj
    split at hs
    ·rename_i b hb
     rw [hb] at hv
     have U := aGf hv
     have hy := aAT q f.size J U
     simp only [yb] at hy
     by_cases e : b = I
     ·grind [Region.wanted]
     ·have e' : b = !I := by cases b <;> cases I <;> simp_all
      grind [Region.wanted]
    ·rename_i hb
     rw [hb] at hv
     have hy := aAT q f.size J (v := Go.undef) hv
     grind [Region.wanted, undef, yb]
    simp_all
theorem bAb {F : Fr} {K : Exit → St → List Obj → Prop} {Q : Exit → Act → World → Prop} {env : St} {h : List Obj} (hF : tI F) (r : ∀ e env h, K e env h → At F (Q e) env h) {Δ : FuncId → List AV → List Obj → Option Hit} (f : aEG F.P F.E.G Δ) {id : Nat} {ops : Array Oper} (keep sb : List Nat)
  (hv : aBo F.E Δ sb ops.toList ops.toList env h (fun env h => K .normal (keep.map fun t => (t, look env t)) h) (fun p env h => AtP F Q p env h)) : Tri F (.region id ops false) Q env h := fun b c a w hs => by
 simp only [iH, Bool.and_eq_true, Bool.or_eq_true, Bool.not_eq_true'] at b
 obtain ⟨⟨q, z⟩, s⟩ := b
 refine wp_region ?_
 have := aVs (Q := Q) hF.env f (List.all_eq_true.1 q) (K := fun env h => K .normal (keep.map fun t => (t, look env t)) h) (Kp := fun p env h => AtP F Q p env h) (fun env h c a w g hs => r _ _ _ g c a w (hs.keep keep)) (fun p env h c a w u g hs j => g c a w u hs j) ops.toList.length 0 (by simp) env h c a w (by simpa using hv) hs
 simp_all [List.range_eq_range']
theorem cK {F : Fr} {Q : Exit → Act → World → Prop} {env : St} {h : List Obj} (hF : tI F) {Δ : FuncId → List AV → List Obj → Option Hit} (b : aEG F.P F.E.G Δ) {id : Nat} {ops : Array Oper} (keep sb : List Nat)
  (hv : aBo F.E Δ sb ops.toList ops.toList env h (fun env h => At F (Q .normal) (keep.map fun t => (t, look env t)) h) (fun p env h => AtP F Q p env h)) : Tri F (.region id ops false) Q env h :=
 bAb hF (K := fun e => At F (Q e)) (fun _ _ _ h => h) b keep sb hv
theorem iL {F : Fr} {K : Act → World → Prop} {Q : Exit → Act → World → Prop} {p : Pan} {env : St} {h : List Obj} (hq : AtP F Q p env h) : AtP F (Exit.then K Q) p env h := hq
theorem aCq {F : Fr} {id : Nat} {Q : Exit → Act → World → Prop} {p : Pan} {env : St} {h : List Obj} (hq : AtP F Q p env h) : AtP F (Exit.inBlock id Q) p env h := hq
theorem aKn {F : Fr} {Q : Exit → Act → World → Prop} {p : Pan} {env : St} {h : List Obj} (hq : AtP F Q p env h) : AtP F (Exit.noGoto Q) p env h := hq
def tP : List AV → Nat → St
 | [], _ => []
 | v :: r, k => (k, v) :: tP r (k + 1)
theorem aVt {b : Array Value} : ∀ (us : List AV) (vs : List Value) (k : Nat), vs.length = us.length → (∀ i (j : i < us.length) (g : i < vs.length), aW c w us[i] vs[i]) → (∀ i v, vs[i]? = some v → b.getD (k + i) Go.undef = v) → aIu c w (tP us k) b
 | [], _, k, _, _, _ => fun t => trivial
 | u :: us, v :: vs, k, s, hv, ht => by
  have h0 := hv 0 (by simp) (by simp)
  have r := ht 0 v (by simp)
  have f := aVt us vs (k + 1) (by simp_all) (fun i j g => by have := hv (i + 1) (by simp_all) (by simp_all); simp_all) (fun i x q => by
   have := ht (i + 1) x (by simp_all)
   rw [show k + 1 + i = k + (i + 1) from by omega]; exact this)
  intro t
  simp only [tP, look]
  split
  ·simp_all
  ·exact f t
def AV.wfV : AV → Prop
 | .val t x => t.wf x
 | .full t b => (Ty.sl t).wf b
 | _ => True
def AV.wfL : List AV → Prop
 | [] => True
 | v :: r => v.wfV ∧ AV.wfL r
def Obj.wfV : Obj → Prop
 | .box _ (.agg f) => AV.wfL f
 | .box _ v => v.wfV
 | .row _ t b => (Ty.arr b.length t).wf b ∧ b.length ≤ maxLen
 | .frz t b => (Ty.sl t).wf b
 | .tre _ _ t b => (Ty.sl t).wf b
 | _ => True
def Obj.wfL : List Obj → Prop
 | [] => True
 | o :: r => o.wfV ∧ Obj.wfL r
theorem aR2 {v : AV} {cs : List Value} (b : aM c w v cs) : v.wfV := by
 cases v <;> first | trivial | skip
 case val t x => exact bB.wf t x cs b
 case full t xs =>
  simp only [aM] at b
  obtain ⟨a, n, e, hs⟩ := b
  exact bB.wf (.sl t) xs cs ⟨a, n, n, e, hs⟩
theorem bCA : ∀ {vs : List AV} {cs : List Value}, mE c w vs cs → AV.wfL vs
 | [], _, _ => trivial
 | v :: r, _, ⟨c1, g, e, f, b⟩ => ⟨aR2 f, bCA b⟩
theorem bGE {v : AV} {x : Value} (b : aW c w v x) : v.wfV := by
 cases v <;> first | trivial | exact aR2 b.1
theorem aVu : ∀ {us : List AV} {vs : List Value}, vs.length = us.length → (∀ i (f : i < us.length) (b : i < vs.length), aW c w us[i] vs[i]) → AV.wfL us
 | [], _, _, _ => trivial
 | u :: us, v :: vs, g, hv => ⟨bGE (hv 0 (by simp) (by simp)), aVu (vs := vs) (by simp_all) (fun i f b => by have := hv (i + 1) (by simp_all) (by simp_all); simp_all)⟩
theorem bGF {i : Nat} {o : Obj} (j : aG0 c w i o) : o.wfV := by
 cases o with
 | dead => trivial
 | box n v =>
  obtain ⟨b, cells, e, _, _, _, q⟩ := j
  cases v <;> first | exact bCA q | exact aR2 q | trivial
 | row e t f =>
  obtain ⟨s, r, z⟩ := j
  refine ⟨bB.wf _ _ _ z, ?_⟩
  rcases r.2 with ⟨_, h0⟩ | ⟨g, J, I, _, _, _, L, q, _⟩
  all_goals omega
 | frz t f => exact bB.wf (.sl t) f _ j
 | map k v m => trivial
 | tre e m t f =>
  obtain ⟨B, r, _⟩ := j
  exact bB.wf (.sl t) f _ (lH.toC (S' := fun _ => True) (fun _ _ => trivial) _ _ _ _ _ (fun _ _ => trivial) r)
 | trh e m t f k v => trivial
theorem bAc (g : Good M w0 c h w) : Obj.wfL h := by
 have : ∀ (l : List Obj), (∀ o ∈ l, o.wfV) → Obj.wfL l := fun l => by
  induction l with
  | nil => intro _; trivial
  | cons o r f => intro b; exact ⟨b o (by simp), f fun x j => b x (by simp [j])⟩
 refine this h fun o q => ?_
 obtain ⟨i, hi, rfl⟩ := List.mem_iff_getElem.1 q
 exact bGF (g.objs i _ (List.getElem?_eq_getElem hi))
def aR (T : Tab) (h : List Obj) (env : St) : List ResultVar → Prop × List AV
 | [] => (True, [])
 | .tmp t :: r => ((aR T h env r).1, look env t :: (aR T h env r).2)
 | .cell a t :: r => ((aIU T h t (look env a)).1 ∧ (aR T h env r).1, (aIU T h t (look env a)).2 :: (aR T h env r).2)
theorem aR3 (L : lP P E.T) (J : Good M w0 c h w) {env : St} {b : Array Value} (z : aIu c w env b) {g : ResultVar → Sem Value} (s : ∀ t, g (.tmp t) = pure (b.getD t Go.undef)) (f : ∀ a t, g (.cell a t) = (do loadVar t (← asAddr (b.getD a Go.undef)))) : ∀ (l : List ResultVar), (aR E.T h env l).1 →
  ∃ us : List Value, (l.mapM g).run P w = .ok us w ∧ us.length = (aR E.T h env l).2.length ∧ ∀ i (N : i < (aR E.T h env l).2.length) (W : i < us.length), aW c w (aR E.T h env l).2[i] us[i]
 | [], _ => ⟨[], by simp, rfl, fun i N => by simp_all⟩
 | .tmp t :: r, hc => by
  simp only [aR] at hc ⊢
  obtain ⟨us, U, O, Y⟩ := aR3 L J z s f r hc
  refine ⟨b.getD t Go.undef :: us, by simp_all, by simp [O], fun i N W => ?_⟩
  cases i with
  | zero => exact z t
  | succ i => simp_all
 | .cell a t :: r, hc => by
  simp only [aR] at hc ⊢
  obtain ⟨us, U, O, Y⟩ := aR3 L J z s f r hc.2
  obtain ⟨u, q, Z⟩ := aZO (P := P) L J (z a) hc.1
  have j : (g (.cell a t)).run P w = .ok u w := by
   rw [f]
   have hv := z a
   generalize b.getD a Go.undef = v at q hv
   simp only [Instr.loadAt, Sem.run_bind] at q
   simp only [Sem.run_bind]
   have : ∃ I, v = .pointer (some I) := by
    cases v with
    | pointer p =>
     cases p with
     | some I => simp_all
     | none => simp [Instr.sureAddr, Result.andThen] at q
    | _ => simp [Instr.sureAddr, Result.andThen] at q
   obtain ⟨I, rfl⟩ := this
   simpa [Instr.sureAddr, asAddr] using q
  refine ⟨u :: us, by simp only [List.mapM_cons, Sem.run_bind, j, Sem.run_pure, Result.andThen_ok, U], by simp [O], fun i N W => ?_⟩
  grind
theorem aHh (O : lP P E.T) (L : Good M w0 c h w) {env : St} {f : Array Value} (Z : aIu c w env f) {fn : Func} {l : List ResultVar} (I : fn.results = l.toArray) (hc : (aR E.T h env l).1) :
  ∃ us : List Value, (results fn f).run P w = .ok (aKJ us) w ∧ us.length = (aR E.T h env l).2.length ∧ ∀ i (U : i < (aR E.T h env l).2.length) (N : i < us.length), aW c w (aR E.T h env l).2[i] us[i] := by
 unfold results
 rw [I]
 simp only [Sem.run_bind]
 rw [List.mapM_toArray, Sem.run_map]
 generalize hm : (List.mapM _ l : Sem (List Value)) = z
 have q : ∀ (g : ResultVar → Sem Value), (∀ t, g (.tmp t) = pure (f.getD t Go.undef)) → (∀ a t, g (.cell a t) = (do loadVar t (← asAddr (f.getD a Go.undef)))) → List.mapM g l = z →
   ∃ us : List Value, z.run P w = .ok us w ∧ us.length = (aR E.T h env l).2.length ∧ ∀ i (U : i < (aR E.T h env l).2.length) (N : i < us.length), aW c w (aR E.T h env l).2[i] us[i] := fun g s j e => by
  subst e; exact aR3 (P := P) O L Z s j l hc
 obtain ⟨us, J, Y, W⟩ := q _ (fun t => rfl) (fun a t => rfl) hm
 refine ⟨us, ?_, Y, W⟩
 rw [J]
 simp only [Result.andThen_ok, Sem.run_pure]
 congr 1
 match us with
 | [] => rfl
 | [v] => rfl
 | a :: b :: r =>
  rfl
def jL (h : List Obj) : List AV → List AV → Prop
 | [], [] => True
 | v :: r, u :: r' => (eV h v u ∧ cT u = true) ∧ jL h r r'
 | _, _ => False
def jT (h : List Obj) : AV → List AV → Prop
 | .tup f, b => b.length ≠ 1 ∧ jL h b f
 | v, [u] => eV h u v
 | _, _ => False
theorem aVv (g : Good M w0 c h w) : ∀ {us vs : List AV} {xs : List Value}, jL h us vs → xs.length = us.length → (∀ i (f : i < us.length) (b : i < xs.length), aW c w us[i] xs[i]) → xs.length = vs.length ∧ ∀ i (f : i < vs.length) (b : i < xs.length), aW c w vs[i] xs[i] ∧ cT vs[i] = true
 | [], [], [], _, _, _ => ⟨rfl, fun i f => by grind⟩
 | u :: us, v :: vs, x :: xs, j, z, hv => by
  obtain ⟨⟨f, r⟩, b⟩ := j
  obtain ⟨q, s⟩ := aVv g b (xs := xs) (by simp_all) (fun i f b => by have := hv (i + 1) (by simp_all) (by simp_all); simp_all)
  grind [aRd]
theorem bAd {v : AV} {x : Value} (hv : aW c w v x) (b : cT v = true) (ht : ∀ vs, v ≠ .tup vs) (f : v ≠ .undef) : xD c w v x := by
 cases v <;> first | exact hv | grind [cT] | simp_all | simp_all
def bCB : AV → Bool
 | .tup _ => false
 | .undef => false
 | _ => true
theorem dP {F : Fr} {fn : Func} {sp : fT} {O : Ctx} {d : sp.D} {env : St} {h h' : List Obj} {v : AV} (hF : tI F) (l : List ResultVar) (hM : F.M = GM sp O d) (L : F.ds = []) (hr : fn.results = l.toArray) (q : sp.out d = .ret v h') (hh : h = h') (z : (match v with | .tup J => J.all bCB | _ => true) = true) (W : (aR F.E.T h env l).1 ∧ jT h v (aR F.E.T h env l).2) :
  At F (bodyPost F.P fn (aMH sp O F.w0 d) .ret) env h := fun c a w hs => by
 subst hh
 obtain ⟨s, q1, j, N⟩ := aHh (P := F.P) hF.env.T hs.good hs.env hr W.1
 refine ⟨hs.defers.trans L, aKJ s, q1, c, ?_⟩
 rw [q]
 refine ⟨aKJ s, rfl, by rw [← hM]; exact hs.good, ?_⟩
 have f := W.2
 generalize (aR F.E.T h env l).2 = Z at j N f
 cases v with
 | tup J =>
  obtain ⟨h1, h2⟩ := f
  obtain ⟨k1, U⟩ := aVv hs.good h2 j N
  refine ⟨s, ?_, k1, fun i I Y => ?_⟩
  ·match s, j with
   | [], _ => rfl
   | [x], j => simp_all
   | a :: b :: r, _ => rfl
  ·have g := List.all_eq_true.1 z J[i] (List.getElem_mem I)
   exact bAd (U i I Y).1 (U i I Y).2 (fun l e => by rw [e] at g; cases g) (fun e => by rw [e] at g; cases g)
 | _ =>
  match Z, f with
  | [u], f =>
   match s, j with
   | [x], _ => exact aRd hs.good f (N 0 (by simp) (by simp))
theorem aZ {F : Fr} {fn : Func} {sp : fT} {g : Ctx} {d : sp.D} {env : St} {h h' : List Obj} {p : Pan} (r : F.M = GM sp g d) (f : F.ds = []) (b : sp.out d = .pan p h') (q : h = h') :
  AtP F (bodyPost F.P fn (aMH sp g F.w0 d)) p env h := fun c a w u hs j => by
 subst q
 refine ⟨hs.defers.trans f, c, ?_⟩
 rw [b]
 exact ⟨u, rfl, by rw [← r]; exact hs.good, j⟩
theorem bF {F : Fr} {Q : Exit → Act → World → Prop} {p : Pan} {env : St} {h : List Obj} (σ : List Nat) (hd : nodupB σ = true) (hp : preB F.M.m σ = true) (b : AtP F Q p (env.map fun q => (q.1, ren σ q.2)) (σ.map fun i => dF σ (h.getD i .dead))) : AtP F Q p env h := fun c a w u hs f =>
 b (c.ren σ) a w u ⟨hs.good.ren hd hp, hs.glob, fun t => by rw [aJd (ren σ) rfl]; exact aRf (hs.env t), hs.size, hs.defers⟩ f
end
end Go.Vc
namespace Go.Vc
attribute [go_sem] Int.toNat_natCast vcA opA pv aRH bCc evA aDG zX aFe jB aFp
attribute [go_sem] aPx aGj aRG aMl tM aWJ aTs bGA Go.Vc.look aIU aCR bBN
attribute [go_sem] aU6 shU shI lC bEm bBO aYF aN3 aCS aAp aAp.fldT aJ8
attribute [go_sem] aMo aMp aIV aMq aOa aLo aLq aMw aG4 aKa aBl bBT
attribute [go_sem] mm2 zW dO Go.Vc.elemOf aUk List.all_cons List.all_nil Int.le_refl Nat.le_refl AV.solid AV.solid1 AV.nc
attribute [go_sem] AV.nc1 AV.isAgg Ty.isAgg Ty.cells Ty.zero aHd List.map List.append List.length Option.map decide_true decide_false
attribute [go_sem] Bool.and_true Bool.true_and true_and and_true implies_true forall_const if_true if_false IntKind.signed Ty.den Nat.succ_ne_self ne_eq
attribute [go_sem] not_false_eq_true not_true_eq_false List.getElem?_nil aKH List.nil_append List.cons_append beq_self_eq_true Bool.and_self cond_true cond_false Bool.cond_true_left Bool.cond_false_right
attribute [go_sem] vR zH aDI aRe aRT bHg freezeAll freeze aVl aRK aHb xF aKj aKk isStr bxN aIP aRp aYy aYx aRo aU3
attribute [go_sem] aZ6 aWT bB5 Ty.isNil aOd aKi aW2 aZ5 xH aJc aCX aOc
attribute [go_sem] aFq uP aEy Ty.strB aYK bound aCn bGq bEq bEr bGr bCd
attribute [go_sem] frzAll Ty.scalar fL bBU RK.ty AV.tags AV.tags1 List.flatMap_cons List.flatMap_nil List.getElem?_cons_zero List.getElem?_cons_succ List.set_cons_zero
attribute [go_sem] List.set_cons_succ List.length_cons List.length_nil Nat.zero_add aDF List.getD_cons_zero List.getD_cons_succ dite_true Ty.okB Ty.byt IntKind.bits vQ
attribute [go_sem] aFS bHe aYE bGs aU8 bEs bB8 allTags aLp gt_iff_lt ge_iff_le List.length_replicate
attribute [go_sem] List.replicate_zero List.length_set bCs bCt bCu bA9 bHh aLy aI3 bB9 aEm aEn
attribute [go_sem] aRS Ty.keyB Ty.key1 Option.some.injEq exists_eq_left' List.append_nil decide_eq_true_eq decide_eq_false_iff_not Bool.or_eq_true Bool.or_eq_false_iff Bool.and_eq_true Int.not_lt
attribute [go_sem] Int.not_le Bool.not_eq_true' Bool.not_eq_false' gA aW7 nE oT List.take_succ_cons List.take_zero List.drop_succ_cons List.drop_zero bBS
attribute [go_sem] aAB bAV aVb aJ9 Ty.flds aIW aIw Ty.fieldOff aYG parse aG3 aU9
attribute [go_sem] aRs Option.getD_some Option.getD_none Bool.not_true Bool.not_false Bool.false_eq_true Bool.true_eq_false false_implies and_false false_and or_true true_or
attribute [go_sem] or_false false_or Bool.or_true Bool.or_false Bool.true_or Bool.false_or Bool.and_false Bool.false_and Option.isSome_some Option.isSome_none Int.reduceToNat Int.reduceLE
attribute [go_sem] Int.reduceLT Nat.reduceEqDiff Nat.reduceAdd Nat.reduceMul Nat.reduceLT Nat.reduceSub Nat.reduceLeDiff Nat.reduceDiv Nat.reduceMod Nat.reducePow Nat.reduceGT Int.reduceEq
attribute [go_sem] Int.reduceNe Int.reduceAdd Int.reduceSub Int.reduceNeg Int.reduceMul reduceIte reduceCtorEq
end Go.Vc
namespace Go.Vc
open Go.RowKit
def Ty.argB : Ty → Bool
 | .bool => true
 | .u _ => true
 | .i _ => true
 | .str => true
 | .sl t => t.argB
 | .unit => true
 | .pair a b => a.argB && b.argB
 | .arr _ t => t.argB
 | .expr => true
 | _ => false
section
variable {P : Program} {T : Tab} {H : Type} {enc : TypeId × Value → H} {w : World} {spare : Nat → Bool} {held : Bool}
theorem pC {t : TypeId} {c : Ty} (h : aDU P T t c) : P.cellsOf t = c.cells := by
 obtain ⟨i, hi, hs, _⟩ := h.info
 simp [Program.cellsOf, hi, hs]
def aAE (w : World) : Nat → Prop := fun b => b < w.heap.size
theorem aOo {a : Addr} {n : Nat} {ds : List Value} (h : w.cells? 0 a n = some ds) : ds.length = n ∧ ∀ j, j < n → w.cell? (a.add j) = ds[j]? := by
 unfold World.cells? at h
 rw [if_pos (Nat.zero_le _)] at h
 have f := mapM_some_length h
 have b := mapM_some_get h
 grind
theorem aVw {b off : Nat} {v : Value} (h : w.cell? ⟨b, off, none⟩ = some v) : b < w.heap.size := by
 grind [Nat.lt_or_ge, World.cell?, Array.getElem?_eq_none]
theorem bGG (a : Addr) (i j : Nat) (h : a.spot = none) : (a.add i).add j = ⟨a.block, a.off + i + j, none⟩ := by
 obtain ⟨b, o, s⟩ := a
 grind [Addr.add]
theorem bCC {sz : Nat} (I : 0 < sz) {α : Type} {R : α → List Value → Prop} {a : Addr} {len : Nat} (r : ∀ i, i < len → ∃ ds x, w.cells? 0 (a.add (i * sz)) sz = some ds ∧ R x ds) :
  ∃ xs : List α, xs.length = len ∧ (xs = [] ∨ ∃ b off, some a = some ⟨b, off, none⟩ ∧ aAE w b ∧ ∀ i (h : i < xs.length), ∃ ds, R xs[i] ds ∧ lY w b (off + i * sz) ds) := by
 classical
 by_cases h0 : len = 0
 ·simp_all
 have g : 0 < len := by omega
 obtain ⟨J, N, e0, _⟩ := r 0 g
 have L : a.spot = none := by
  obtain ⟨W, O⟩ := aOo e0
  grind [List.getElem?_eq_getElem, World.cell?_spot, Addr.add]
 have z : ∃ f : Nat → α, ∀ i, i < len → ∃ ds, w.cells? 0 (a.add (i * sz)) sz = some ds ∧ R (f i) ds := by
  refine ⟨fun i => if h : i < len then Classical.choose (Classical.choose_spec (r i h)) else N, fun i hi => ?_⟩
  grind
 obtain ⟨f, z⟩ := z
 have hcell : ∀ i, i < len → ∀ ds, w.cells? 0 (a.add (i * sz)) sz = some ds → lY w a.block (a.off + i * sz) ds := fun i hi ds q j v U => by
  grind [aOo, Nat.lt_or_ge, List.getElem?_eq_none, bGG]
 refine ⟨(List.range len).map f, by simp, .inr ⟨a.block, a.off, ?_, ?_, fun i hi => ?_⟩⟩
 ·obtain ⟨b, o, s⟩ := a; simp_all
 ·obtain ⟨ds, q, _⟩ := z 0 g
  have := hcell 0 g ds q 0 (ds[0]'(by grind [aOo])) (List.getElem?_eq_getElem _)
  exact aVw this
 grind
theorem aR4 {n : Nat} (I : ∀ (t : TypeId) (c : Ty) (cs : List Value) (x : DataW H × List MemPlace), T t = some c → c.argB = true → DataW.trod enc P w 0 spare held n t cs = some x → ∃ y, bB w (aAE w) c y cs) (L : lP P T) (cs : List Value) :
  ∀ (s : List Field) (off : Nat) (c : Ty), dW T s off c = true → c.argB = true → (cs.drop off).length = c.cells → (∀ f ∈ s, ∃ x, DataW.trod enc P w 0 spare held n f.type ((cs.drop f.offset).take (P.cellsOf f.type)) = some x) → ∃ y, bB w (aAE w) c y (cs.drop off)
 | [], off, c, j, r, z, _ => by
  cases c <;> simp [dW] at j
  exact ⟨(), List.eq_nil_of_length_eq_zero z⟩
 | f :: s, off, c, j, r, z, J => by
  cases c <;> simp only [dW, Bool.false_eq_true] at j
  case pair a b =>
   simp only [Bool.and_eq_true, decide_eq_true_eq] at j
   obtain ⟨⟨⟨⟨N, W⟩, h3⟩, h4⟩, h5⟩ := j
   simp only [Ty.argB, Bool.and_eq_true] at r
   obtain ⟨x, q⟩ := J f (by simp)
   rw [pC (L _ _ N), W] at q
   obtain ⟨Z, r1⟩ := I _ _ _ _ N r.1 q
   simp only [Ty.cells] at z
   obtain ⟨U, Y⟩ := aR4 I L cs s (off + a.cells) b h5 r.2 (by grind) (fun g O => J g (by simp [O]))
   refine ⟨(Z, U), (cs.drop off).take a.cells, cs.drop (off + a.cells), ?_, r1, Y⟩
   rw [← List.drop_drop, List.take_append_drop]
theorem aXh (L : lP P T) : ∀ (n : Nat) (t : TypeId) (c : Ty) (cs : List Value) (x : DataW H × List MemPlace), T t = some c → c.argB = true → DataW.trod enc P w 0 spare held n t cs = some x → ∃ y, bB w (aAE w) c y cs := by
 intro n
 induction n with
 | zero => simp_all [DataW.trod]
 | succ n Z =>
  intro t c cs x ht ha h
  obtain ⟨d, hd, hb⟩ := (L _ _ ht).desc
  cases c with
  | bool =>
   cases d <;> simp [iV] at hb
   obtain ⟨b, e, _⟩ := DataW.trod_bool hd h
   exact ⟨b, e⟩
  | u k =>
   cases d <;> simp [iV] at hb
   rename_i k'
   obtain ⟨rfl, hb⟩ := hb
   obtain ⟨m, e, _, hw⟩ := DataW.trod_int hd h
   simp only [Lit.wf, Bool.and_eq_true, decide_eq_true_eq] at hw
   have hmin : IntKind.min k = 0 := by cases k <;> first | rfl | grind [IntKind.signed]
   have hm : ((m.toNat : Nat) : Int) = m := Int.toNat_of_nonneg (by omega)
   exact ⟨m.toNat, by simp_all, hb, by omega⟩
  | i k =>
   cases d <;> simp [iV] at hb
   rename_i k'
   obtain ⟨rfl, hb⟩ := hb
   obtain ⟨m, e, _, hw⟩ := DataW.trod_int hd h
   simp only [Lit.wf, Bool.and_eq_true, decide_eq_true_eq] at hw
   exact ⟨m, e, hb, hw.1, hw.2⟩
  | str =>
   cases d <;> simp [iV] at hb
   obtain ⟨s, e, _, hs⟩ := DataW.trod_string hd h
   exact ⟨aV s, s, e, rfl, hs⟩
  | sl r =>
   cases d <;> simp [iV] at hb
   obtain ⟨I, hb2⟩ := hb
   rcases DataW.trod_slice hd h with ⟨rfl, _⟩ | ⟨a, len, N, elems, rest, m, hm, rfl, _, _, hl, hc, j, z, _⟩
   ·exact ⟨[], none, 0, 0, rfl, rfl, Nat.le_refl _, Nat.zero_le _, .inl rfl⟩
   ·cases hm
    rw [pC (L _ _ I)] at z
    obtain ⟨xs, O, W⟩ := bCC (w := w) hb2 (R := bB w (aAE w) r) (a := a) (len := len) (fun i hi => by
     have := z i hi
     rw [List.getElem?_eq_getElem (by omega)] at this
     obtain ⟨ds, hds, hx⟩ := Option.bind_eq_some_iff.1 this
     obtain ⟨y, hy⟩ := Z _ _ _ _ I ha hx
     grind)
    exact ⟨xs, some a, len, N, rfl, O, hl, hc, W⟩
  | unit =>
   cases d <;> simp [iV] at hb
   rename_i Y
   obtain ⟨xs, m, _, _, j, _⟩ := DataW.trod_struct hd h
   rw [pC (L _ _ ht)] at j
   exact ⟨(), List.eq_nil_of_length_eq_zero j⟩
  | pair a b =>
   cases d <;> simp [iV] at hb
   rename_i Y
   obtain ⟨xs, m, hm, _, j, hxl, hf⟩ := DataW.trod_struct hd h
   cases hm
   rw [pC (L _ _ ht)] at j
   have := aR4 Z L cs Y.toList 0 (.pair a b) hb ha (by simp_all) (fun f hf' => by
    obtain ⟨i, hi, rfl⟩ := List.mem_iff_getElem.1 hf'
    have hi' : i < Y.size := by omega
    have := hf i Y[i] (Array.getElem?_eq_getElem hi')
    simp_all)
   simp_all
  | arr m r =>
   cases d <;> simp [iV] at hb
   obtain ⟨⟨⟨rfl, I⟩, hb2⟩, _⟩ := hb
   obtain ⟨xs, q, hq, _, j, hxl, hf⟩ := DataW.trod_array hd h
   cases hq
   rw [pC (L _ _ ht)] at j
   rw [pC (L _ _ I)] at hf
   have hall : ∀ i, i < m → ∃ y, bB w (aAE w) r y ((cs.drop (i * r.cells)).take r.cells) := fun i hi => by
    have := hf i hi
    rw [List.getElem?_eq_getElem (by omega)] at this
    exact Z _ _ _ _ I ha this
   classical
   have U : ∃ f : Nat → r.den, ∀ i, i < m → bB w (aAE w) r (f i) ((cs.drop (i * r.cells)).take r.cells) := by
    refine ⟨fun i => if h : i < m then Classical.choose (hall i h) else r.zero, fun i hi => ?_⟩
    grind
   obtain ⟨f, U⟩ := U
   refine ⟨(List.range m).map f, by simp, (List.range m).map fun i => (cs.drop (i * r.cells)).take r.cells, ?_, by simp, fun i O W => ?_⟩
   ·have : ∀ (k : Nat) (l : List Value), l.length = k * r.cells → l = ((List.range k).map fun i => (l.drop (i * r.cells)).take r.cells).flatten := by
     intro k
     induction k with
     | zero => simp_all
     | succ k ihk =>
      intro l hl
      rw [List.range_succ, List.map_append, List.flatten_append]
      have O := ihk (l.take (k * r.cells)) (by grind)
      have W : ((List.range k).map fun i => ((l.take (k * r.cells)).drop (i * r.cells)).take r.cells) = ((List.range k).map fun i => (l.drop (i * r.cells)).take r.cells) := by
       apply List.map_congr_left
       intro i hi
       have hik : i < k := List.mem_range.1 hi
       rw [List.drop_take, List.take_take]
       congr 1
       have : (i + 1) * r.cells ≤ k * r.cells := Nat.mul_le_mul_right _ hik
       grind
      rw [W] at O
      rw [← O]
      simp only [List.map_cons, List.map_nil, List.flatten_cons, List.flatten_nil, List.append_nil]
      rw [List.take_of_length_le (l := l.drop (k * r.cells)) (by grind), List.take_append_drop]
    exact this m cs j
   grind
  | expr =>
   cases d <;> simp [iV] at hb
   rename_i Y
   obtain ⟨xs, m, hm, _, j, hxl, hf⟩ := DataW.trod_struct hd h
   cases hm
   rw [pC (L _ _ ht)] at j
   have hfs : ∃ f0 f1 f2, Y.toList = [f0, f1, f2] ∧ (T f0.type = some (.i .i64) ∧ f0.offset = 0 ∧ T f1.type = some .str ∧ f1.offset = 1 ∧ T f2.type = some (.sl .expr) ∧ f2.offset = 2) := by
    unfold aZJ at hb
    grind
   obtain ⟨f0, f1, f2, hfs, t0, o0, r, o1, t2, o2⟩ := hfs
   have J : ∀ (i : Nat) (f : Field), Y.toList[i]? = some f → ∃ x, DataW.trod enc P w 0 spare held n f.type ((cs.drop f.offset).take (P.cellsOf f.type)) = some x := fun i f hi => by
    grind
   obtain ⟨x0, h0⟩ := J 0 f0 (by simp_all)
   obtain ⟨x1, O⟩ := J 1 f1 (by simp_all)
   obtain ⟨x2, W⟩ := J 2 f2 (by simp_all)
   rw [pC (L _ _ t0), o0] at h0
   rw [pC (L _ _ r), o1] at O
   rw [pC (L _ _ t2), o2] at W
   obtain ⟨y0, r0⟩ := Z _ _ _ _ t0 rfl h0
   obtain ⟨y1, r1⟩ := Z _ _ _ _ r rfl O
   obtain ⟨y2, r2⟩ := Z _ _ _ _ t2 rfl W
   match cs, j with
   | [c0, c1, c2], _ =>
    simp only [Ty.cells, List.drop_zero, List.drop_succ_cons, List.take_succ_cons, List.take_zero] at r0 r1 r2
    obtain ⟨e0, _, b1, b2⟩ := r0
    obtain ⟨s, e1, rfl, hs⟩ := r1
    obtain ⟨a, len, N, e2, hl1, hl2, hl3, hl4⟩ := r2
    simp only [List.cons.injEq, and_true] at e0 e1 e2
    subst e0; subst e1; subst e2
    classical
    refine ⟨.mk y0 (aV s) y2, ?_⟩
    rcases hl4 with rfl | ⟨b, off, ha, hb, z⟩
    ·exact RepEx.mk y0 s [] a len N (fun _ => []) ⟨b1, b2⟩ hs hl1 hl2 hl3 (fun i h => by simp at h) (.inl rfl)
    ·refine RepEx.mk y0 s y2 a len N (fun i => if h : i < List.length y2 then Classical.choose (z i h) else []) ⟨b1, b2⟩ hs hl1 hl2 hl3 (fun i h => ?_) (.inr ⟨b, off, ha, hb, fun i h => ?_⟩)
     ·simp only [dif_pos h]; exact (Classical.choose_spec (z i h)).1
     grind
  | rp r => grind [Ty.argB]
  | clo g r => grind [Ty.argB]
  | ifc k r => grind [Ty.argB]
  | nili => grind [Ty.argB]
  | nilp => grind [Ty.argB]
  | nilf => grind [Ty.argB]
theorem bEM (g : lP P T) {t : TypeId} {c : Ty} {r : Reach} {base : Nat} {v : Value} {d : DataW H} {ps : List MemPlace} (ht : T t = some c) (z : c.argB = true) (b : Value.okWide P w r base t v) (h : DataW.Trod enc P w 0 spare held t v d ps) : ∃ y, dE w (aAE w) c y v := by
 obtain ⟨n, q⟩ := h
 obtain ⟨y, s⟩ := aXh g n t c _ _ ht z q
 refine ⟨y, dE.of_cells (fun j => ?_) (fun f => ?_) s⟩
 ·obtain ⟨d, hd, hb⟩ := (g _ _ ht).desc
  unfold Value.okWide at b
  rw [hd] at b
  cases c <;> simp [Ty.isAgg] at j
  all_goals (cases d <;> first | grind [iV] | skip)
  all_goals grind
 ·intro I e
  subst e
  obtain ⟨d, hd, hb⟩ := (g _ _ ht).desc
  unfold Value.okWide at b
  rw [hd] at b
  cases c <;> simp [Ty.isAgg] at f
  all_goals (cases d <;> first | grind [iV] | skip)
  all_goals simp_all [Cell.okWide, Cell.ok]
def bGH (T : Tab) : Ty → List TypeId → Bool
 | .unit, [] => true
 | .pair a r, t :: ts => decide (T t = some a) && a.argB && bGH T r ts
 | _, _ => false
theorem bAe (b : lP P T) {r : Reach} {base : Nat} : ∀ (c : Ty) (ts : List TypeId) (vs : List Value) (ds : List (DataW H)) (ps : List MemPlace), bGH T c ts = true → DataW.TrodAll enc P w 0 spare held ts vs ds ps → (∀ (j : Nat) t v, ts[j]? = some t → vs[j]? = some v → Value.okWide P w r base t v) → ∃ x, qI w (aAE w) c x vs
 | .unit, [], vs, ds, ps, _, h, _ => by
  cases vs <;> cases ds <;> simp [DataW.TrodAll] at h
  exact ⟨(), rfl⟩
 | .pair a c, t :: ts, vs, ds, ps, hb, h, f => by
  simp only [bGH, Bool.and_eq_true, decide_eq_true_eq] at hb
  cases vs <;> cases ds <;> simp only [DataW.TrodAll] at h
  rename_i v vs d ds
  obtain ⟨p, q, L, z, _⟩ := h
  obtain ⟨y, J⟩ := bEM b hb.1.1 hb.1.2 (f 0 t v rfl rfl) L
  obtain ⟨x, g⟩ := bAe b c ts vs ds q hb.2 z (fun j s I e1 N => f (j + 1) s I (by simp_all) (by simp_all))
  exact ⟨(y, x), v, vs, rfl, J, g⟩
end
end Go.Vc
namespace Go.Vc
attribute [go_sem] aR0 aOn List.contains_cons List.contains_nil aBo aJe aXf aVr aCZ aRZ aXd aXe
attribute [go_sem] bCx aMI aOm bF9 nodupB bCw cT emb aGl aVq aYU aRX
attribute [go_sem] aEF sC oS aEE ren cS dF posOf bD aR jL eV
attribute [go_sem] jT bCB tP AV.wfL AV.wfV Obj.wfL Obj.wfV List.all_cons List.all_nil List.range'_zero List.range'_succ List.zip_cons_cons
attribute [go_sem] List.zip_nil_left List.zip_nil_right List.drop_nil List.take_nil List.map_cons List.map_nil aWS aI4
end Go.Vc
namespace Go.Vc
open Go.RowKit
section
variable {P : Program} {E : Env} {M : Perm} {w0 : World} {c : Ctx} {h : List Obj} {w : World}
def bAf (P : Program) (fn : Func) (S : Nat → Prop) (w0 : World) (r : RK) (y : r.ty.den) : Exit → Act → World → Prop :=
 bodyPostD P fn fun e w' => ∃ v, e = .returned v ∧ jC nothing w0 w' ∧ bAU w' S w0.heap.size r y v
theorem bEN {f : FuncId} {fn : Func} {g : Code} {sp : aG} (Y : iA P E) (z : P.funcs[f]? = some fn) (hb : fn.body = some g) (q : iH fn.ntmps g = true) (O : aPC sp.args ≤ fn.ntmps)
  (ht : ∀ (w0 : World) (S : Nat → Prop) (x : sp.args.den), sp.args.wf x → sp.pre x → Tri (fr P E S w0 fn.ntmps) g (bAf P fn S w0 sp.res (sp.fn x)) (bT sp.args x 0) []) : FOK P E.G f sp := by
 intro w S s x N L r hp
 refine calls_of_wp_defers z hb ?_
 refine ht w S x (aHc _ _ _ r) hp q ⟨S, fun _ => Go.undef, 0, fun _ _ => False⟩ _ w ⟨⟨rfl, .refl _ _, N, fun b hb _ => .inl hb, fun i o I => by grind, fun i o b I => by grind, fun i j U W b hi => by grind, ⟨Nat.le_refl _, fun i hi => absurd hi (Nat.not_lt_zero i)⟩⟩, L, ?_, ?_, rfl⟩
 ·refine aRN _ x 0 s.toList _ r rfl fun i v hv => ?_
  have J : i < s.size := by
   grind
  simp_all [Nat.zero_add, Array.getElem?_toList, Array.getElem?_append, Array.getElem?_eq_getElem]
 ·have := aRO _ _ _ r
  simp_all
theorem bCD {S : Nat → Prop} (hwr : M.wr = nothing) (hrd : M.rd = S) (U : Good M w0 c h w) {r : RK} {y : r.ty.den} {j : List AV} {xs : List Value} (Y : xs.length = j.length) (hv : ∀ i (L : i < j.length) (h2 : i < xs.length), aW c w j[i] xs[i]) (q : nH h r y j) : bAU w S w0.heap.size r y (aKJ xs) := by
 have J : ∀ {c' : Ctx} {h' : List Obj}, Good M w0 c' h' w → ∀ b, c'.S b → S b ∨ (w0.heap.size ≤ b ∧ b < w.heap.size) := fun U b hb => by
  rcases Nat.lt_or_ge b w0.heap.size with hlt | hge
  ·have := U.src b hb hlt
   rw [hwr, hrd] at this
   exact .inl (this.resolve_right (fun f => f))
  ·exact .inr ⟨hge, U.sfin b hb⟩
 obtain ⟨c', hll, N⟩ := U.frzAll
 have z : ∀ i (L : i < j.length) (h2 : i < xs.length), aW c' w j[i] xs[i] := fun i L h2 => hll.val (hv i L h2)
 cases r with
 | none =>
  match j, xs, Y, q with
  | [], [], _, _ => rfl
 | one t =>
  match j, xs, Y, q, z with
  | [v], [x], _, q, z =>
   have q : AV.as (h.map Vc.frzAll) t v = some y := q
   rw [← aZ3] at q
   have := yD N (z 0 (by simp) (by simp)) q
   exact dE.keep (J N) (.refl _ _) this
 | own e t =>
  match j, xs, Y, q, hv with
  | [.own i], [x], _, q, hv =>
   have I := hv 0 (by simp) (by simp)
   simp only [List.getElem_cons_zero] at I
   have ho : h[i]? = some (.row e t y) := q
   obtain ⟨hin, rfl⟩ := aCy I
   obtain ⟨vals, O, Z⟩ := U.objs i _ ho
   refine ⟨vals, ⟨O.1, O.2.imp id ?_⟩, bB.keep (fun b hb => ?_) (.refl _ _) _ _ _ Z⟩
   ·rintro ⟨g, cap, cur, L, h2, h3⟩
    refine ⟨g, cap, cur, L, ?_, h3⟩
    have := (U.own i _ g ho (by simp [fI, L, aX])).1
    rw [hwr] at this
    exact this.resolve_right (fun f => f)
   ·rcases J U b hb with L | L
    ·simp_all
    ·exact .inr ⟨L.1, L.2, fun e' => (U.own i _ b ho e').2.2 hb⟩
  | [.nilS], [x], _, q, hv =>
   have I := hv 0 (by simp) (by simp)
   simp only [List.getElem_cons_zero] at I
   have q : y = [] := q
   subst q
   have hsv : x = .slice none 0 0 := by
    obtain ⟨L, _, h3⟩ := I
    have h3 := h3 rfl
    simp_all [aM, Value.cells]
   subst hsv
   exact ⟨[], ⟨by simp, .inl ⟨rfl, rfl⟩⟩, ⟨rfl, [], rfl, rfl, fun i h => by simp at h⟩⟩
 | tup t =>
  have q : j.length ≠ 1 ∧ aCn (h.map Vc.frzAll) t j = some y := q
  obtain ⟨W, q⟩ := q
  rw [← aZ3] at q
  have hargs := aIZ N q (xs := xs) Y z
  refine ⟨xs, ?_, bA8 (J N) hargs⟩
  match xs, Y ▸ W with
  | [], _ => rfl
  | [s], W => simp_all
  | s :: s' :: l, _ => rfl
def m0 : Option Pan → Value → FrameMode
 | none, _ => .returning
 | some p, u => .panicking (aTu p.k u)
def m1 : Option Pan → Value → FrameMode
 | none, _ => .returning
 | some p, u => .panicking [{ v := .iface p.k u, recovered := true, goexit := false }]
theorem bBf (m : Option Pan) (u : Value) : settle (m1 m u) = .returning := by cases m <;> rfl
def bGa (P : Program) (g : FuncId) (vs : Array Value) (b u1 : FrameMode) (w : World) (R : Ending → World → Prop) : Prop := CallsD P g vs b w fun e f w' => f = u1 ∧ R e w'
def DOK (P : Program) (G : Nat → AV) (g : FuncId) (b : Option Pan) (sp : fT) : Prop :=
 ∀ (c : Ctx) (w : World) (d : sp.D) (vs : Array Value) (u : Value), sp.pre d → GIn G sp c w d vs.toList → (∀ p, b = some p → dE w c.S p.t p.x u) → bGa P g vs (m0 b u) (m1 b u) w (aMH sp c w d)
theorem aXi {F : Fr} {fn : Func} {S : Nat → Prop} {r : RK} {y : r.ty.den} {env : St} {h : List Obj} {k : Nat} {roots : Nat → Value} {g : FuncId} {l2 : List Nat} {b : Option Pan} (hF : tI F) (O : F.M = ⟨nothing, S, k, roots⟩) (Y : F.ds = [⟨.fn (.func g) (l2.map roots).toArray, #[]⟩]) (hk : ∀ i ∈ l2, i < k) (J : aFS h l2 = true)
  (hfn : ∃ fn, F.P.funcs[g]? = some fn ∧ fn.name ≠ "runtime.NumGoroutine" ∧ fn.body.isSome = true) (t : Hit) (Z : DOK F.P F.E.G g b t.sp) (hh : aMI h (l2.map fun i => .ptr i []) t) {v : AV} {h' : List Obj} (s : t.sp.out t.d = .ret v h')
  (l : List ResultVar) (hr : fn.results = l.toArray) (hy : (aR F.E.T (aEF t.σ t.sp.m h h') env l).1 ∧ nH (aEF t.σ t.sp.m h h') r y (aR F.E.T (aEF t.σ t.sp.m h h') env l).2) {c : Ctx} {a : Act} {w : World} {u : Value} (hs : Sim F.E F.M F.w0 F.nt F.ds c env h a w) (hu : ∀ p, b = some p → dE w c.S p.t p.x u) :
  Leaves F.P fn a.tmps (fun e w' => ∃ v, e = .returned v ∧ jC nothing F.w0 w' ∧ bAU w' S F.w0.heap.size r y v) a.defers (m0 b u) w := by
 have hroot := hs.good.root
 rw [O] at hroot
 have z : ∀ i ∈ l2, c.hd i = roots i ∧ i < c.n := fun i hi => ⟨hroot.2 i (hk i hi), Nat.lt_of_lt_of_le (hk i hi) hroot.1⟩
 have hl2 : l2.map roots = l2.map c.hd := List.map_congr_left fun i hi => (z i hi).1.symm
 have N : ∀ i (I : i < (l2.map fun i => AV.ptr i []).length) (U : i < (l2.map roots).toArray.toList.length), aW c w (l2.map fun i => AV.ptr i [])[i] (l2.map roots).toArray.toList[i] := fun i I U => by
  have := aI5 hs.good J (fun i hi => (z i hi).2) i I (by simp_all)
  simp_all
 rw [hs.defers, Y]
 refine leaves_cons (f := g) (args := (l2.map roots).toArray) ?_ ?_ ?_
 ·cases b <;> simp [m0]
 ·grind [aDX, invoke]
 ·have hcall := aUB (C := bGa F.P g (l2.map roots).toArray (m0 b u) (m1 b u) w) (fun R R' h k => CallsD.mono h fun e u' w' q => ⟨q.1, k _ _ q.2⟩) (fun hp L => Z _ _ _ _ _ hp L hu) hs.good hs.glob (vs := l2.map fun i => AV.ptr i []) (xs := (l2.map roots).toArray) (by simp) N hh
  refine CallsD.mono hcall ?_
  rintro e u' w' ⟨rfl, cN, hl, j⟩
  rw [s] at j
  obtain ⟨uv, rfl, W, _⟩ := j
  show Leaves F.P fn a.tmps _ [] (settle (m1 b u)) w'
  rw [bBf]
  obtain ⟨us, q1, q2, q3⟩ := aHh (P := F.P) hF.env.T W (hs.env.keep hl) hr hy.1
  refine ⟨aKJ us, q1, aKJ us, rfl, by have := W.keeps; simp_all, ?_⟩
  exact bCD (by rw [O]) (by rw [O]) W q2 (fun i I U => q3 i I U) hy.2
theorem aRh {F : Fr} {fn : Func} {S : Nat → Prop} {r : RK} {y : r.ty.den} {env : St} {h : List Obj} {k : Nat} {roots : Nat → Value} {g : FuncId} {l2 : List Nat} (hF : tI F) (N : F.M = ⟨nothing, S, k, roots⟩) (q : F.ds = [⟨.fn (.func g) (l2.map roots).toArray, #[]⟩]) (L : ∀ i ∈ l2, i < k) (f : aFS h l2 = true)
  (j : ∃ fn, F.P.funcs[g]? = some fn ∧ fn.name ≠ "runtime.NumGoroutine" ∧ fn.body.isSome = true) (t : Hit) (s : DOK F.P F.E.G g none t.sp) {v : AV} {h' : List Obj} (b : t.sp.out t.d = .ret v h')
  (l : List ResultVar) (z : fn.results = l.toArray) (I : aMI h (l2.map fun i => .ptr i []) t) (J : (aR F.E.T (aEF t.σ t.sp.m h h') env l).1 ∧ nH (aEF t.σ t.sp.m h h') r y (aR F.E.T (aEF t.σ t.sp.m h h') env l).2) :
  At F (bAf F.P fn S F.w0 r y .ret) env h := fun c a w hs =>
 aXi (u := Go.undef) hF N q L f j t s I b l z J hs (fun p hp => by cases hp)
theorem aDZ {F : Fr} {fn : Func} {S : Nat → Prop} {r : RK} {y : r.ty.den} {env : St} {h : List Obj} {k : Nat} {roots : Nat → Value} {g : FuncId} {l2 : List Nat} {p : Pan} (hF : tI F) (O : F.M = ⟨nothing, S, k, roots⟩) (s : F.ds = [⟨.fn (.func g) (l2.map roots).toArray, #[]⟩]) (N : ∀ i ∈ l2, i < k) (f : aFS h l2 = true)
  (j : ∃ fn, F.P.funcs[g]? = some fn ∧ fn.name ≠ "runtime.NumGoroutine" ∧ fn.body.isSome = true) (t : Hit) (z : DOK F.P F.E.G g (some p) t.sp) {v : AV} {h' : List Obj} (b : t.sp.out t.d = .ret v h')
  (l : List ResultVar) (I : fn.results = l.toArray) (J : aMI h (l2.map fun i => .ptr i []) t) (L : (aR F.E.T (aEF t.σ t.sp.m h h') env l).1 ∧ nH (aEF t.σ t.sp.m h h') r y (aR F.E.T (aEF t.σ t.sp.m h h') env l).2) :
  AtP F (bAf F.P fn S F.w0 r y) p env h := fun c a w u hs U =>
 aXi hF O s N f j t z J b l I L hs (fun q hq => by grind)
theorem aCA {F : Fr} {Q : Exit → Act → World → Prop} {env : St} {h : List Obj} {id : Nat} {ops : Array Oper} {y : Code} {g : FuncId} {t : Nat} {b : Array Operand} {z N : TypeId} {j r : String} {f q : Array Edge} (k : Nat) (l2 : List Nat)
  (hops : ops = #[⟨some t, .makeFunc (.func g) #[] b, z, j, f, none⟩, ⟨none, .defer ⟨.value (.tmp t), #[], #[]⟩, N, r, q, none⟩])
  (htags : allTags h (b.toList.map (evA F.E.G env)) = some l2) (hm : F.M.m ≤ k) (hk : k ≤ h.length)
  (hy : ∀ roots : Nat → Value, (∀ i, i < F.M.m → roots i = F.M.roots i) → Tri { F with M := ⟨F.M.wr, F.M.rd, k, roots⟩, ds := ⟨.fn (.func g) (l2.map roots).toArray, #[]⟩ :: F.ds } y Q ((t, .junk) :: env) h) : Tri F (.seq (.region id ops false) y) Q env h := fun hok c a w hs => by
 simp only [iH, Bool.and_eq_true] at hok
 obtain ⟨⟨⟨hok1, _⟩, _⟩, W⟩ := hok
 subst hops
 have Y := List.all_eq_true.1 hok1
 have s := Y ⟨some t, .makeFunc (.func g) #[] b, z, j, f, none⟩ (by simp)
 simp only [gY, Bool.and_eq_true] at s
 have I : ∀ x ∈ (Op.makeFunc (.func g) #[] b).operands, qV x = true := Array.all_eq_true_iff_forall_mem.1 s.1
 have Z : t < a.tmps.size := by
  have := s.2
  rw [hs.size]
  simp_all
 obtain ⟨hlt, hcv⟩ := aMy hs.good htags (vs := b.toList.map a.eval) (by simp) (fun i h1 h2 => by
  simp only [List.getElem_map]
  exact aEw hs.env hs.glob (I _ (by simp [Op.operands])))
 have L : b.map a.eval = (l2.map c.hd).toArray := by grind
 refine wp_seq (wp_region ?_)
 have hy' := hy c.hd (fun i hi => hs.good.root.2 i hi)
 have hgood : Good ⟨F.M.wr, F.M.rd, k, c.hd⟩ F.w0 c h w := ⟨hs.good.n, hs.good.keeps, hs.good.sfin, hs.good.src, hs.good.objs, hs.good.own, hs.good.sep, by rw [hs.good.n]; exact hk, fun _ _ => rfl⟩
 have U := hy' W c { (a.put (some t) (.func (.func g) #[] (l2.map c.hd).toArray)) with defers := ⟨.fn (.func g) (l2.map c.hd).toArray, #[]⟩ :: a.defers } w ⟨hgood, hs.glob, by
  have := hs.env.put (d := t) (v := .junk) (x := .func (.func g) #[] (l2.map c.hd).toArray) Z trivial
  omega, by simpa [Act.put] using hs.size, by simp [hs.defers]⟩
 have O : (execOp a.eval ⟨some t, .makeFunc (.func g) #[] b, z, j, f, none⟩).run F.P w = .ok (.value (.func (.func g) #[] (l2.map c.hd).toArray)) w := by
  simp [execOp, Instr.makeFunc, L]
 have hget : (a.put (some t) (.func (.func g) #[] (l2.map c.hd).toArray)).eval (.tmp t) = .func (.func g) #[] (l2.map c.hd).toArray := by
  simp [Act.eval, Act.put, Z]
 have J : (execOp (a.put (some t) (.func (.func g) #[] (l2.map c.hd).toArray)).eval ⟨none, .defer ⟨.value (.tmp t), #[], #[]⟩, N, r, q, none⟩).run F.P w = .ok (.defer ⟨.fn (.func g) (l2.map c.hd).toArray, #[]⟩) w := by
  simp [execOp, resolve, Deferred.ofValue, hget]
 show wpOps F.P _ _ [0, 1] a w
 have w1 : ∀ (o : Oper) (y : Nat → Option Bool), o.guard = none → Region.wanted o y = true := fun o y h => by simp [Region.wanted, h]
 unfold wpOps
 simp only [List.getElem?_toArray, List.getElem?_cons_zero]
 rw [if_pos (w1 _ _ rfl)]
 refine .inl ?_
 unfold Oper.wp
 rw [O, Oper.upon_value]
 unfold wpOps
 simp only [List.getElem?_toArray, List.getElem?_cons_succ, List.getElem?_cons_zero]
 rw [if_pos (w1 _ _ rfl)]
 refine .inl ?_
 unfold Oper.wp
 rw [J, Oper.upon_defer]
 exact U
theorem aHi {ops : Array Oper} {cs : List Frame} {Q : Exit → Act → List Frame → World → Prop} (f : ¬ LetsOut fun e a w => Q e a cs w) : ∀ (l : List Nat) (a : Act) (w : World), wpOps P ops (fun e a w => Q e a cs w) l a w → wpOpsS P ops Q l a cs w
 | [], a, w, b => b
 | i :: rest, a, w, b => by
  unfold wpOps at b
  unfold wpOpsS
  cases j : ops[i]? with
  | none => simp only [j] at b ⊢; exact aHi f rest a w b
  | some o =>
   simp only [j] at b ⊢
   split
   ·rename_i g
    simp only [g, if_true] at b
    have b := Oper.wp_mono (fun a w => aHi f rest a w) (b.resolve_right fun q => f q.2)
    unfold Oper.wp at b
    revert b
    generalize (execOp a.eval o).run P w = r
    intro b
    split
    ·exact b.elim
    omega
   ·rename_i g
    simp only [g, if_false] at b
    exact aHi f rest _ w b
def bCE : Option Pan → AV
 | none => .val .nili ()
 | some p => .val (.ifc p.k p.t) p.x
theorem aOp {g : FuncId} {fn : Func} {rest : Code} {id : Nat} {ops : Array Oper} {sp : fT} {mode : Option Pan} {z : Nat} {ty : TypeId} {L : String} {J : Array Edge} (hE : iA P E) (hf : P.funcs[g]? = some fn) (hb : fn.body = some (.seq (.region id ops false) rest)) (hok : iH fn.ntmps (.seq (.region id ops false) rest) = true) (hn : ∀ d, (sp.av d).length ≤ fn.ntmps)
  (h0 : ops[0]? = some ⟨some z, .call ⟨.builtin .recover, #[], #[]⟩, ty, L, J, none⟩)
  (ht : ∀ (c : Ctx) (w : World) (d : sp.D), AV.wfL (sp.av d) → Obj.wfL (sp.hp d) → sp.pre d → c.n = (sp.hp d).length →
   vR E ops.toList (ops.toList.drop 1) ((z, bCE mode) :: tP (sp.av d) 0) (sp.hp d) (fun env h => Tri ⟨P, E, GM sp c d, w, fn.ntmps, []⟩ rest (bodyPost P fn (aMH sp c w d)) env h)) : DOK P E.G g mode sp := by
 intro c w d q u hp f hu
 refine callsD_of_wpS hf hb fun b N j => ?_
 have I := hok
 simp only [iH, Bool.and_eq_true] at I
 obtain ⟨⟨⟨s, _⟩, _⟩, Z⟩ := I
 refine wpS_seq (wpS_region ?_)
 have hsz : 0 < ops.size := by
  grind
 obtain ⟨n, hn'⟩ : ∃ n, ops.size = n + 1 := ⟨ops.size - 1, by omega⟩
 have hrange : List.range ops.size = 0 :: List.range' 1 n := by rw [hn', List.range_eq_range', List.range'_succ]
 rw [hrange]
 unfold wpOpsS
 have w1 : ∀ (o : Oper) (y : Nat → Option Bool), o.guard = none → Region.wanted o y = true := fun o y h => by simp [Region.wanted, h]
 simp only [h0]
 rw [if_pos (w1 _ _ rfl)]
 have Y : ∀ ρ, (execOp ρ ⟨some z, .call ⟨.builtin .recover, #[], #[]⟩, ty, L, J, none⟩).run P w = .ok .recover w := fun ρ => by
  rfl
 rw [Y]
 have O : ∀ v, aW c w (bCE mode) v → wpOpsS P ops (Exit.thenS (rest.wpS P (bodyPostS P fn b N fun e r w' => r = m1 mode u ∧ aMH sp c w d e w')) (bodyPostS P fn b N fun e r w' => r = m1 mode u ∧ aMH sp c w d e w')) (List.range' 1 n) (({ tmps := q ++ Array.replicate (fn.ntmps - q.size) undef, defers := [] } : Act).put (some z) v) ({ b with mode := m1 mode u } :: N) w := fun v hv => by
  refine aHi ?_ _ _ _ ?_
  ·rintro ⟨a', w', r, _, e⟩
   obtain ⟨c', e⟩ := e
   grind
  ·have hsim : Sim E (GM sp c d) w fn.ntmps [] c ((z, bCE mode) :: tP (sp.av d) 0) (sp.hp d) (({ tmps := q ++ Array.replicate (fn.ntmps - q.size) undef, defers := [] } : Act).put (some z) v) w := by
    have W := f.len
    have hnn := hn d
    simp at W
    have hsz2 : (q ++ Array.replicate (fn.ntmps - q.size) undef).size = fn.ntmps := by grind
    have ht5 : z < fn.ntmps := by
     have h0' : ops.toList[0]? = some ⟨some z, .call ⟨.builtin .recover, #[], #[]⟩, ty, L, J, none⟩ := by simp_all
     have := List.all_eq_true.1 s _ (List.mem_of_getElem? h0')
     simp_all [gY, Bool.and_eq_true]
    refine ⟨f.good, f.glob, ?_, by grind [Act.put], rfl⟩
    refine aIu.put (a := { tmps := q ++ Array.replicate (fn.ntmps - q.size) undef, defers := [] }) ?_ (by simp_all) hv
    refine aVt _ q.toList 0 f.len f.val fun i v hv => ?_
    have hlt : i < q.size := by
     grind
    simp_all [Nat.zero_add, Array.getElem?_toList, Array.getElem?_append, Array.getElem?_eq_getElem]
   have := aMF (P := P) (ops := ops.toList) (Q := fun e a w' => Exit.thenS (rest.wpS P (bodyPostS P fn b N fun e r w' => r = m1 mode u ∧ aMH sp c w d e w')) (bodyPostS P fn b N fun e r w' => r = m1 mode u ∧ aMH sp c w d e w') e a ({ b with mode := m1 mode u } :: N) w') hE (List.all_eq_true.1 s) (fun env h c' a w' hk hs => by
    refine wpS_of_wp (wp_mono (hk Z c' a w' hs) fun e a w' hq => ?_)
    cases e with
    | normal => obtain ⟨U, v, q2, q3⟩ := hq; exact ⟨U, _, rfl, v, q2, rfl, q3⟩
    | ret => obtain ⟨U, v, q2, q3⟩ := hq; exact ⟨U, _, rfl, v, q2, rfl, q3⟩
    | panic ch => obtain ⟨U, q3⟩ := hq; exact ⟨U, _, rfl, rfl, q3⟩
    | outgrown => exact ⟨_, rfl, hq⟩
    | exit id => exact hq.elim
    | goto l => exact hq.elim) n 1 (by grind) _ _ c _ w (ht c w d (aVu f.len f.val) (bAc f.good) hp f.good.n) hsim
   omega
 cases mode with
 | none =>
  have e : b.mode = .returning := j
  have e2 : ({ b with mode := .returning } : Frame) = b := by rw [← e]
  have := O .nilIface (aW.ofV (by rfl))
  grind [m1, recoverD]
 | some p =>
  have e : b.mode = .panicking (aTu p.k u) := j
  have := O (.iface p.k u) (aW.ofV (by
   unfold dE
   rw [if_neg (by simp [Ty.isAgg])]
   have hr := hu p rfl
   unfold dE at hr
   split at hr
   ·rename_i ha
    obtain ⟨ds, e1, e2⟩ := hr
    exact ⟨u, ds.toList, rfl, fun _ => by omega, (fun h => by simp_all), e2⟩
   ·rename_i ha
    exact ⟨u, [u], rfl, fun h => absurd h ha, fun _ => rfl, hr⟩))
  grind [m1, recoverD, aTu]
end
end Go.Vc
namespace Go.Vc
open Go.RowKit
def ck {α : Type} (p : Prop) [Decidable p] (k : Option α) : Option α := if p then k else none
theorem bV {α : Type} {p : Prop} [Decidable p] {k : Option α} {r : α} (h : ck p k = some r) : p ∧ k = some r := by
 grind [ck]
theorem bCF {α : Type} {p : Prop} [Decidable p] {k : Option α} (hp : p) : ck p k = k := if_pos hp
theorem qL {α : Type} {p : Prop} [Decidable p] {x y : α} {r : α} (hp : p) (h : (if p then x else y) = r) : x = r := by simp_all
theorem qM {α : Type} {p : Prop} [Decidable p] {x y : α} {r : α} (hp : ¬ p) (h : (if p then x else y) = r) : y = r := by simp_all
abbrev I64 (x : Int) : Prop := -9223372036854775808 ≤ x ∧ x ≤ 9223372036854775807
abbrev I32 (x : Int) : Prop := -2147483648 ≤ x ∧ x ≤ 2147483647
section
variable {D E R : Type} {step : D → Option (D ⊕ E)}
def iter (step : D → Option (D ⊕ E)) : Nat → D → Option E
 | 0, _ => none
 | n + 1, d => match step d with
  | none => none
  | some (.inl b) => iter step n b
  | some (.inr e) => some e
theorem aOq : ∀ {n : Nat} {d : D} {e : E}, iter step n d = some e → iter step (n + 1) d = some e
 | 0, d, e, h => by cases h
 | n + 1, d, e, h => by
  unfold iter at h ⊢
  cases hs : step d with
  | none => simp_all
  | some s =>
   rw [hs] at h
   cases s with
   | inl f => exact aOq (n := n) h
   | inr b => exact h
theorem bAg {n m : Nat} (hm : n ≤ m) {d : D} {e : E} (h : iter step n d = some e) : iter step m d = some e := by
 induction hm with
 | refl => exact h
 | step _ b => exact aOq b
theorem aUC {n m : Nat} {d : D} {e b : E} (h : iter step n d = some e) (h' : iter step m d = some b) : e = b := by
 have f := bAg (Nat.le_max_left n m) h
 grind [bAg, Nat.le_max_right, Option.some.inj]
open Classical in
noncomputable def aUD (step : D → Option (D ⊕ E)) (d : D) : Option E := if h : ∃ e, ∃ n, iter step n d = some e then some (Classical.choose h) else none
theorem aOr {d : D} {e : E} : aUD step d = some e ↔ ∃ n, iter step n d = some e := by
 unfold aUD
 constructor
 ·intro h
  split at h
  all_goals grind
 ·rintro ⟨n, h⟩
  have b : ∃ e, ∃ n, iter step n d = some e := ⟨e, n, h⟩
  rw [dif_pos b]
  grind [Classical.choose_spec, aUC]
theorem aLB {n : Nat} {d : D} {e : E} (h : iter step n d = some e) : aUD step d = some e := aOr.2 ⟨n, h⟩
theorem aGm {p : Nat → Prop} (h : ∃ n, p n) : ∃ n, p n ∧ ∀ m, p m → n ≤ m := by
 classical
 obtain ⟨n, b⟩ := h
 induction n using Nat.strongRecOn with
 | _ n f =>
  grind
open Classical in
noncomputable def aHj (step : D → Option (D ⊕ E)) (d : D) : Nat := if h : ∃ n, (iter step n d).isSome = true then Classical.choose (aGm h) else 0
theorem bAh {d : D} {e : E} (h : aUD step d = some e) : iter step (aHj step d) d = some e ∧ ∀ m b, iter step m d = some b → aHj step d ≤ m := by
 obtain ⟨n, g⟩ := aOr.1 h
 have f : ∃ n, (iter step n d).isSome = true := ⟨n, by grind⟩
 have hs := Classical.choose_spec (aGm f)
 have e1 : aHj step d = Classical.choose (aGm f) := by unfold aHj; simp_all
 rw [← e1] at hs
 refine ⟨?_, fun m b hm => hs.2 m (by grind)⟩
 cases hi : iter step (aHj step d) d with
 | none => simp_all
 | some b => rw [aUC hi g]
abbrev Md := Option Nat
noncomputable def dG (F : Md) (step : D → Option (D ⊕ E)) (d : D) : Option E := match F with
 | none => aUD step d
 | some n => iter step n d
noncomputable abbrev aGn (step : D → Option (D ⊕ E)) (d : D) : Option E := dG none step d
theorem bBg {d : D} {e : E} : aGn step d = some e ↔ ∃ n, iter step n d = some e := aOr
theorem aHk {n : Nat} {d : D} {e : E} (h : iter step n d = some e) : aGn step d = some e := aLB h
theorem bEO {F : Md} {d : D} {e : E} (h : dG F step d = some e) : aUD step d = some e := by
 cases F with
 | none => exact h
 | some n => exact aLB h
def aBp (A : D → Prop) (B : E → Prop) : D ⊕ E → Prop
 | .inl d => A d
 | .inr e => B e
theorem aR5 {k : E → Option R} {r : R} {F : Md} {d : D} (hd : (dG F step d).bind k = some r) : ∃ s, step d = some s ∧ aBp (fun b => (dG F step b).bind k = some r ∧ aHj step b < aHj step d) (fun e => k e = some r) s := by
 cases f : dG F step d with
 | none => simp_all
 | some e =>
  rw [f] at hd
  have I : k e = some r := hd
  obtain ⟨hi, j⟩ := bAh (bEO f)
  cases g : aHj step d with
  | zero => rw [g] at hi; cases hi
  | succ n =>
   rw [g, iter] at hi
   split at hi
   ·cases hi
   ·rename_i b hs
    have q := aLB hi
    have z : dG F step b = some e := by
     cases F with
     | none => exact q
     | some m =>
      have hm : iter step m d = some e := f
      cases m with
      | zero => cases hm
      | succ m =>
       rw [iter, hs] at hm
       exact aOq hm
    refine ⟨_, hs, ?_⟩
    refine ⟨by simp_all, ?_⟩
    grind [bAh, aHj, step]
   ·rename_i J hs
    refine ⟨_, hs, ?_⟩
    rw [Option.some.inj hi]; exact I
theorem aBq {I : D → Prop} (g : D → Nat) (f : D → E) (h : ∀ d, I d → (∃ d', step d = some (.inl d') ∧ I d' ∧ g d' < g d ∧ f d' = f d) ∨ step d = some (.inr (f d))) : ∀ d, I d → aGn step d = some (f d) := by
 have b : ∀ n d, g d ≤ n → I d → ∃ m, iter step m d = some (f d) := by
  intro n
  induction n with
  | zero =>
   intro d r hi
   rcases h d hi with ⟨d', _, _, q, _⟩ | hs
   ·omega
   ·exact ⟨1, by rw [iter, hs]⟩
  | succ n s =>
   intro d r hi
   rcases h d hi with ⟨d', hs, j, q, z⟩ | hs
   ·obtain ⟨m, hm⟩ := s d' (by omega) j
    exact ⟨m + 1, by grind [iter]⟩
   ·exact ⟨1, by rw [iter, hs]⟩
 intro d hi
 obtain ⟨m, hm⟩ := b (g d) d (Nat.le_refl _) hi
 exact aHk hm
theorem lI {I : D → Prop} (f : D → Nat) (Q : E → Prop) (h : ∀ d, I d → (∃ d', step d = some (.inl d') ∧ I d' ∧ f d' < f d) ∨ ∃ e, step d = some (.inr e) ∧ Q e) : ∀ d, I d → ∃ e, aGn step d = some e ∧ Q e := by
 have b : ∀ n d, f d ≤ n → I d → ∃ m e, iter step m d = some e ∧ Q e := by
  intro n
  induction n with
  | zero =>
   intro d q hi
   rcases h d hi with ⟨d', _, _, j⟩ | ⟨e, hs, hq⟩
   ·omega
   ·exact ⟨1, e, by rw [iter, hs], hq⟩
  | succ n r =>
   intro d q hi
   rcases h d hi with ⟨d', hs, g, j⟩ | ⟨e, hs, hq⟩
   ·obtain ⟨m, e, hm, hq⟩ := r d' (by omega) g
    exact ⟨m + 1, e, by grind [iter], hq⟩
   ·exact ⟨1, e, by rw [iter, hs], hq⟩
 intro d hi
 obtain ⟨m, e, hm, hq⟩ := b (f d) d (Nat.le_refl _) hi
 grind [aHk]
end
noncomputable def uI (F : Md) (k : IntKind) (a b : Nat) : Nat := match F with
 | none => aIv k a b
 | some _ => (a + (lC k - b)) % lC k
noncomputable def mulM (F : Md) (k : IntKind) (a b : Nat) : Nat := match F with
 | none => aG1 k a b
 | some _ => (a * b) % lC k
noncomputable def aMJ (F : Md) (k : IntKind) (a : Nat) : Nat := match F with
 | none => aWF k a
 | some _ => (0 + (lC k - a)) % lC k
theorem bAi {F : Md} {k : IntKind} {a b : Nat} : uI F k a b = aIv k a b := by
 cases F with
 | none => rfl
 | some _ => exact (aJ7 k a b).symm
theorem bEP {F : Md} {k : IntKind} {a b : Nat} : mulM F k a b = aG1 k a b := by
 cases F with
 | none => rfl
 | some _ => exact (aU4 k a b).symm
theorem bEQ {F : Md} {k : IntKind} {a : Nat} : aMJ F k a = aWF k a := by
 cases F with
 | none => rfl
 | some _ => exact (aU5 k a).symm
theorem cA (F : Md) {k : IntKind} {a b : Nat} : aIv k a b = uI F k a b := bAi.symm
theorem cB (F : Md) {k : IntKind} {a b : Nat} : aG1 k a b = mulM F k a b := bEP.symm
theorem cC (F : Md) {k : IntKind} {a : Nat} : aWF k a = aMJ F k a := bEQ.symm
def xI (h : List Obj) : List (Nat ⊕ Obj) → List Obj
 | [] => []
 | .inl i :: r => h.getD i .dead :: xI h r
 | .inr o :: r => o :: xI h r
section
variable {F : Fr} {Q : Exit → Act → World → Prop} {env : St} {h : List Obj}
theorem aCr {x y : Code} {D : Type} (J : D → Prop) (keep : List Nat) (f : D → St) (b : D → List (Nat ⊕ Obj))
  (g : Tri F x (Exit.then (fun j w' => ∃ d' c', J d' ∧ Sim F.E F.M F.w0 F.nt F.ds c' (aLy env keep (f d')) (xI h (b d')) j w') Q) env h)
  (q : ∀ d, J d → Tri F y Q (aLy env keep (f d)) (xI h (b d))) : Tri F (.seq x y) Q env h :=
 aW1 J (fun d => aLy env keep (f d)) (fun d => xI h (b d)) g q
theorem aGo {x : Code} {D E R : Type} {G : Md} {step : D → Option (D ⊕ E)} {k : E → Option R} {r : R} {d0 : D} (keep : List Nat) (f : D → St) (b : D → List (Nat ⊕ Obj))
  (hd : (dG G step d0).bind k = some r) (j : h = xI h (b d0)) (g : xA h env (aLy env keep (f d0)))
  (round : ∀ d s, step d = some s → aBp (fun d' => (dG G step d').bind k = some r ∧ aHj step d' < aHj step d) (fun e => k e = some r) s → Tri F x (Exit.then (fun q w' => ∃ d' c', ((dG G step d').bind k = some r ∧ aHj step d' < aHj step d) ∧ Sim F.E F.M F.w0 F.nt F.ds c' (aLy env keep (f d')) (xI h (b d')) q w') Q) (aLy env keep (f d)) (xI h (b d))) : Tri F (.loop x) Q env h :=
 aW0 (fun d => (dG G step d).bind k = some r) (aHj step) (fun d => aLy env keep (f d)) (fun d => xI h (b d)) (aU d0 hd j g) fun d hi => by
  obtain ⟨s, I, z⟩ := aR5 hi
  grind
end
theorem aUE {F : Fr} {Q : Exit → Act → World → Prop} {env : St} {h : List Obj} {id : Nat} {ops : Array Oper} {j q t4 : Nat} {L O U N : TypeId} {z I : String} {s r : Array Edge} {ct : Ty} {xs : List ct.den} (hF : tI F)
  (hops : ops = #[⟨some q, .move (.tmp j), U, z, s, none⟩, ⟨some t4, .binOp .eql L (.tmp q) (.const (.slice none 0 0)) O, N, I, r, none⟩])
  (hT : F.E.T L = some (.sl ct)) (hv : look env j = .val (.sl ct) xs)
  (hq : ∀ b : Bool, (b = true → xs = []) → At F (Q .normal) ((t4, .val .bool b) :: (q, .val (.sl ct) xs) :: env) h) : Tri F (.region id ops false) Q env h := fun hok c a w hs => by
 simp only [iH, Bool.and_eq_true] at hok
 obtain ⟨⟨hok1, _⟩, _⟩ := hok
 subst hops
 have J := List.all_eq_true.1 hok1
 have Y := J ⟨some q, .move (.tmp j), U, z, s, none⟩ (by simp)
 have hk2 := J ⟨some t4, .binOp .eql L (.tmp q) (.const (.slice none 0 0)) O, N, I, r, none⟩ (by simp)
 have h0 := hs.env j
 rw [hv] at h0
 obtain ⟨⟨f, len, g, e1, e2⟩, _, e3⟩ := h0
 have hval : a.tmps.getD j Go.undef = .slice f len g := by
  have e3 := e3 rfl
  simp_all [undef, Value.cells]
 have h0 := hs.env j
 rw [hv] at h0
 have s1 := hs.after Y (v := a.tmps.getD j Go.undef) (av := .val (.sl ct) xs) ⟨.refl _ _, hs.good, h0⟩
 have ht3 : q < a.tmps.size := by
  simp only [gY, Bool.and_eq_true] at Y
  rw [hs.size]; simp_all
 have s2 := s1.after hk2 (v := .bool f.isNone) (av := .val .bool f.isNone) ⟨.refl _ _, s1.good, aEt _⟩
 refine wp_region ?_
 have Z : (execOp a.eval ⟨some q, .move (.tmp j), U, z, s, none⟩).run F.P w = .ok (.value (a.tmps.getD j Go.undef)) w := by
  rfl
 have hget : (a.put (some q) (a.tmps.getD j Go.undef)).eval (.tmp q) = .slice f len g := by
  simp_all [Act.eval, Act.put]
 obtain ⟨_, hd, _⟩ := fZ (hF.env.T _ _ hT)
 have W : (execOp (a.put (some q) (a.tmps.getD j Go.undef)).eval ⟨some t4, .binOp .eql L (.tmp q) (.const (.slice none 0 0)) O, N, I, r, none⟩).run F.P w = .ok (.value (.bool f.isNone)) w := by
  have hc : (a.put (some q) (a.tmps.getD j Go.undef)).eval (.const (.slice none 0 0)) = .slice none 0 0 := rfl
  have hq : ∀ d, (Op.equalIn (d + 1) L (.slice f len g) (.slice none 0 0)).run F.P w = .ok f.isNone w := fun d => by
   unfold Op.equalIn
   rw [Sem.run_bind, bA hd]
   cases f <;> rfl
  have hb : (binOp .eql L (.slice f len g) (.slice none 0 0)).run F.P w = .ok (.bool f.isNone) w := by
   have e : binOp .eql L (.slice f len g) (.slice none 0 0) = (do pure (.bool (← Op.equal L (.slice f len g) (.slice none 0 0)))) := by rfl
   rw [e, Sem.run_bind, Op.equal, show Op.maxDepth = (Op.maxDepth - 1) + 1 from rfl, hq]
   rfl
  simp_all [eqGuard, undef, execOp]
 have w1 : ∀ (o : Oper) (y : Nat → Option Bool), o.guard = none → Region.wanted o y = true := fun o y h => by simp [Region.wanted, h]
 show wpOps F.P _ _ [0, 1] a w
 unfold wpOps
 simp only [List.getElem?_toArray, List.getElem?_cons_zero]
 rw [if_pos (w1 _ _ rfl)]
 refine .inl ?_
 unfold Oper.wp
 rw [Z, Oper.upon_value]
 unfold wpOps
 simp only [List.getElem?_toArray, List.getElem?_cons_succ, List.getElem?_cons_zero]
 rw [if_pos (w1 _ _ rfl)]
 refine .inl ?_
 unfold Oper.wp
 rw [W, Oper.upon_value]
 refine hq f.isNone (fun hn => ?_) c _ w s2
 obtain ⟨_, _, _, e4⟩ := e2
 simp_all
theorem sA {F : Fr} {fn : Func} {S : Nat → Prop} {r : RK} {y : r.ty.den} {env : St} {h : List Obj} (hF : tI F) (l : List ResultVar) (g : F.M = top S) (b : F.ds = []) (q : fn.results = l.toArray) (f : (aR F.E.T h env l).1 ∧ nH h r y (aR F.E.T h env l).2) : At F (post F.P fn S F.w0 r y .ret) env h := fun c a w hs => by
 obtain ⟨j, s, L, J⟩ := aHh (P := F.P) hF.env.T hs.good hs.env q f.1
 refine ⟨hs.defers.trans b, aKJ j, s, aKJ j, rfl, by have := hs.good.keeps; simp_all, ?_⟩
 exact bCD (by rw [g]) (by rw [g]) hs.good L (fun i I z => J i I z) f.2
def aR6 (i : Nat) (t : Ty) (x : t.den) : AV → AV
 | .ptr j [] => if j = i then .roa t x else .ptr j []
 | .ptr j p => if j = i then .junk else .ptr j p
 | .agg _ => .junk
 | .tup _ => .junk
 | .fn f b l2 => if b.contains i || l2.contains i then .junk else .fn f b l2
 | v => v
theorem Good.shut {M : Perm} {w0 : World} {c : Ctx} {h : List Obj} {w : World} (q : Good M w0 c h w) {i n : Nat} {t : Ty} {x : t.den} (L : h[i]? = some (.box n (.val t x))) :
  ∃ c', dS c w c' w ∧ c'.n = c.n ∧ Good M w0 c' (h.set i .dead) w ∧ ∀ v, aW c w (.ptr i []) v → aW c' w (.roa t x) v := by
 have W := q.objs i _ L
 have J : c.le (c.more (aX (c.hd i))) := ⟨fun b hb => .inl hb, Nat.le_refl _, fun _ _ => rfl⟩
 have hl : dS c w (c.more (aX (c.hd i))) w := ⟨J, .refl _ _⟩
 have hil : i < h.length := aAC L
 have hcase : ∀ j f, (h.set i .dead)[j]? = some f → (j ≠ i ∧ h[j]? = some f) ∨ (j = i ∧ f = .dead) := fun j f g => by
  grind
 refine ⟨_, hl, rfl, ⟨by simp [Ctx.more, q.n], q.keeps, fun b hb => ?_, fun b hb Z => ?_, fun j f g => ?_, fun j f b g hb => ?_, fun j k f ok b g Y z N => ?_, aBj q.root J⟩, fun v hv => ?_⟩
 ·rcases hb with hb | hb
  ·exact q.sfin b hb
  ·exact (q.own i _ b L hb).2.1
 ·rcases hb with hb | hb
  ·exact q.src b hb Z
  ·rcases (q.own i _ b L hb).1 with s | s
   all_goals grind
 ·rcases hcase j f g with ⟨I, g⟩ | ⟨rfl, rfl⟩
  ·exact (q.objs j f g).keep hl (by rw [q.n]; grind) rfl (fun _ _ => rfl)
  ·trivial
 ·rcases hcase j f g with ⟨I, g⟩ | ⟨rfl, rfl⟩
  ·obtain ⟨s, h2, h3⟩ := q.own j f b g (by cases f <;> exact hb)
   refine ⟨s, h2, fun O => ?_⟩
   rcases O with O | O
   ·grind
   ·exact I (q.sep j i f _ b g L (by cases f <;> exact hb) O)
  ·cases hb
 ·rcases hcase j f g with ⟨hnj, g⟩ | ⟨rfl, rfl⟩
  ·rcases hcase k ok Y with ⟨hnk, Y⟩ | ⟨rfl, rfl⟩
   ·exact q.sep j k f ok b g Y (by cases f <;> exact z) (by cases ok <;> exact N)
   ·cases N
  ·cases z
 ·obtain ⟨b, cells, e, s, h2, h3, U⟩ := W
  obtain ⟨⟨_, b', r, e1⟩, _, e3⟩ := hv
  have e3 := e3 rfl
  rw [s] at r
  simp only [aX, Option.some.injEq] at r
  subst r
  have ev : v = .pointer (some ⟨b, 0, none⟩) := by
   simp_all [Value.cells, oF]
  rw [ev]
  have U : bB w c.S t x cells.toList := U
  refine aFo (ds := cells.toList) (.inr (by rw [s]; rfl)) (bB.keep (fun b hb => .inl hb) (.refl _ _) _ _ _ U) fun j u g => ?_
  simp_all [Nat.zero_add, World.cell?]
theorem bER {F : Fr} {K : Act → World → Prop} {env : St} {h : List Obj} (i : Nat) {n : Nat} {t : Ty} {x : t.den} (q : h[i]? = some (.box n (.val t x))) (z : At F K (env.map fun p => (p.1, aR6 i t x p.2)) (h.set i .dead)) : At F K env h := fun c a w hs => by
 obtain ⟨c', b, I, g, hv⟩ := hs.good.shut q
 refine z c' a w ⟨g, hs.glob.mono b.le.S b.same, fun s => ?_, hs.size, hs.defers⟩
 rw [aJd (aR6 i t x) rfl]
 have h0 := hs.env s
 generalize look env s = v at h0
 generalize a.tmps.getD s Go.undef = u at h0
 cases v with
 | ptr j p =>
  cases p with
  | nil =>
   simp only [aR6]
   split
   ·simp_all
   ·exact b.val h0
  | cons _ _ =>
   simp only [aR6]
   split
   ·trivial
   ·exact b.val h0
 | fn f J l2 =>
  simp only [aR6]
  split
  ·trivial
  ·exact b.val h0
 | agg r => trivial
 | tup r => trivial
 | _ => exact b.val h0
theorem aC0 {F : Fr} {x : Code} {Q : Exit → Act → World → Prop} {env : St} {h : List Obj} (i : Nat) {n : Nat} {t : Ty} {y : t.den} (g : h[i]? = some (.box n (.val t y))) (f : Tri F x Q (env.map fun p => (p.1, aR6 i t y p.2)) (h.set i .dead)) : Tri F x Q env h := fun b => bER i g (f b)
def mSpec (a : Ty) (r : RK) (m : a.den → Option r.ty.den) : aG := ⟨a, r, fun x => (m x).isSome = true, fun x => (m x).getD r.ty.zero⟩
section
variable {P : Program} {E : Env}
theorem aGp {f : FuncId} {fn : Func} {b : Code} {a : Ty} {r : RK} {m : a.den → Option r.ty.den} (s : iA P E) (q : P.funcs[f]? = some fn) (hb : fn.body = some b) (g : iH fn.ntmps b = true) (j : aPC a ≤ fn.ntmps)
  (ht : ∀ (w0 : World) (S : Nat → Prop) (x : a.den) (y : r.ty.den), a.wf x → m x = some y → Tri (fr P E S w0 fn.ntmps) b (post P fn S w0 r y) (bT a x 0) []) : FOK P E.G f (mSpec a r m) :=
 aYO s q hb g j fun w0 S x z hp => by
  grind [Option.isSome_iff_exists, mSpec]
theorem iW {G : Nat → AV} {f : FuncId} {a : Ty} {r : RK} {m : a.den → Option r.ty.den} {pre : a.den → Prop} {fn : a.den → r.ty.den} (h : FOK P G f (mSpec a r m)) (hc : ∀ x, a.wf x → pre x → m x = some (fn x)) : FOK P G f ⟨a, r, pre, fn⟩ := fun w S g x q j b hp => by
 have hm := hc x (aHc _ _ _ b) hp
 have := h w S g x q j b (by show (m x).isSome = true; grind)
 simp_all [mSpec]
end
attribute [go_sem] xI aR6
end Go.Vc
namespace Go.Vc
open Go.RowKit
def bCG : List (FuncId × Hit) → FuncId → List AV → List Obj → Option Hit
 | [], _, _, _ => none
 | (k, t) :: r, f, b, h => if k = f then some t else bCG r f b h
structure aOs (P : Program) (G : Nat → AV) (l : List (FuncId × Hit)) : Prop where
 ok : ∀ p ∈ l, GOK P G p.1 p.2.sp ∧ fnB P p.1 = true
theorem aOs.nil {P : Program} {G : Nat → AV} : aOs P G [] := ⟨fun p hp => by cases hp⟩
theorem aOs.cons {P : Program} {G : Nat → AV} {l : List (FuncId × Hit)} {f : FuncId} {t : Hit} (h : GOK P G f t.sp) (g : fnB P f = true) (b : aOs P G l) : aOs P G ((f, t) :: l) := by
 refine ⟨fun p hp => ?_⟩
 rcases List.mem_cons.1 hp with rfl | hp
 ·simp_all
 ·exact b.ok p hp
theorem aR7 : ∀ {l : List (FuncId × Hit)} {f : FuncId} {vs : List AV} {h : List Obj} {t : Hit}, bCG l f vs h = some t → (f, t) ∈ l
 | (k, s) :: r, f, vs, h, t, e => by
  simp only [bCG] at e
  split at e
  ·simp_all
  ·exact List.mem_cons_of_mem _ (aR7 e)
theorem uR {P : Program} {f : FuncId} (h : fnB P f = true) : ∃ fn, P.funcs[f]? = some fn ∧ fn.name ≠ "runtime.NumGoroutine" ∧ fn.body.isSome = true := by
 unfold fnB at h
 grind
theorem eQ {P : Program} {G : Nat → AV} {l : List (FuncId × Hit)} (h : aOs P G l) : aEG P G (bCG l) :=
 ⟨fun f b g t e => (h.ok _ (aR7 e)).1, fun f b g t e => uR (h.ok _ (aR7 e)).2⟩
theorem bind_some {α β : Type} {x : Option α} {k : α → Option β} {r : β} (h : x.bind k = some r) : ∃ e, x = some e ∧ k e = some r := by
 cases x with
 | none => cases h
 | some e => simp_all
def rpV : AV → AV
 | .val (.rp t) x => .roa t x
 | v => v
theorem bGI {c : Ctx} {w : World} {v : AV} {x : Value} (hv : aW c w v x) : aW c w (rpV v) x := by
 cases v with
 | val t y =>
  cases t with
  | rp t =>
   obtain ⟨⟨b, off, ds, e, hb, hd, hc⟩, _, f⟩ := hv
   have f := f rfl
   have g : x = .pointer (some ⟨b, off, none⟩) := by
    simp_all [Value.cells]
   rw [g]
   exact aFo hb hd hc
  | _ => exact hv
 | _ => exact hv
section
variable {P : Program} {E : Env}
theorem aXj {f : FuncId} {fn : Func} {g : Code} {sp : fT} (L : iA P E) (r : P.funcs[f]? = some fn) (hb : fn.body = some g) (j : iH fn.ntmps g = true) (J : ∀ d, (sp.av d).length ≤ fn.ntmps)
  (ht : ∀ (c : Ctx) (w : World) (d : sp.D), AV.wfL (sp.av d) → Obj.wfL (sp.hp d) → sp.pre d → c.n = (sp.hp d).length → Tri ⟨P, E, GM sp c d, w, fn.ntmps, []⟩ g (bodyPost P fn (aMH sp c w d)) (tP ((sp.av d).map rpV) 0) (sp.hp d)) : GOK P E.G f sp := by
 intro c w d q hp b
 refine calls_of_wp r hb ?_
 refine ht c w d (aVu b.len b.val) (bAc b.good) hp b.good.n j c _ w ⟨b.good, b.glob, ?_, ?_, rfl⟩
 ·refine aVt _ q.toList 0 (by rw [List.length_map]; exact b.len) (fun i z s => ?_) fun i v hv => ?_
  ·rw [List.getElem_map]; exact bGI (b.val i (by simp_all) s)
  ·have I : i < q.size := by
    grind
   simp_all [Nat.zero_add, Array.getElem?_toList, Array.getElem?_append, Array.getElem?_eq_getElem]
 ·have z := b.len
  simp_all
end
section
variable {P : Program} {E : Env} {M : Perm} {w0 : World} {nt : Nat} {ds : List Deferred} {h : List Obj} {env : St}
theorem bES (hE : iA P E) {sb : List Nat} {Δ : FuncId → List AV → List Obj → Option Hit} (U : aEG P E.G Δ) {ops : List Oper} {Q : Exit → Act → World → Prop} (s : ∀ o ∈ ops, gY nt o = true) {K : St → List Obj → Prop} {Kp : Pan → St → List Obj → Prop}
  (N : ∀ p env h c a w u, Kp p env h → Sim E M w0 nt ds c env h a w → dE w c.S p.t p.x u → Q (.panic (aTu p.k u)) a w) {i : Nat} (r : i < ops.length) {env : St} {h : List Obj} {c : Ctx} {a : Act} {w : World} (hs : aBo E Δ sb ops (ops.drop i) env h K Kp) (f : Sim E M w0 nt ds c env h a w)
  {J : Act → World → Prop} (Z : ∀ q h' c' a' w', aBo E Δ sb ops (ops.drop (i + 1)) q h' K Kp → Sim E M w0 nt ds c' q h' a' w' → J a' w') : wpOp P ops.toArray Q i J a w := by
 rw [List.drop_eq_getElem_cons r] at hs
 have g := s ops[i] (List.getElem_mem r)
 have L : ∀ (v : Value) (av : AV), aW c w av v → Sim E M w0 nt ds c (xH ops[i].dst av env) h (a.put ops[i].dst v) w := fun v av hv => f.after g ⟨.refl _ _, f.good, hv⟩
 unfold wpOp
 simp only [List.getElem?_toArray, List.getElem?_eq_getElem r]
 have hrun : aJe E Δ sb env h ops[i] (fun v h' => aBo E Δ sb ops (ops.drop (i + 1)) (xH ops[i].dst v env) h' K Kp) (fun p h' => Kp p env h') → Region.wanted ops[i] (yielded ops.toArray a.tmps) = true → (if Region.wanted ops[i] (yielded ops.toArray a.tmps) = true then Oper.wp P ops[i] a w J Q ∨ (ops[i].asks P a w ∧ LetsOut Q) else J (a.put ops[i].dst Go.undef) w) := fun h1 hw => by
  rw [if_pos hw]
  left
  refine aR1 hE U f g h1 (fun v h' c' u w' Y ha => Z _ _ c' _ w' Y (f.after g ha)) (fun p h' c' u w' Y hl hg hr => N p env h' c' a w' u Y (f.step hl hg) hr)
 have hskip : aBo E Δ sb ops (ops.drop (i + 1)) (xH ops[i].dst .undef env) h K Kp → Region.wanted ops[i] (yielded ops.toArray a.tmps) = false → (if Region.wanted ops[i] (yielded ops.toArray a.tmps) = true then Oper.wp P ops[i] a w J Q ∨ (ops[i].asks P a w ∧ LetsOut Q) else J (a.put ops[i].dst Go.undef) w) := fun h2 hw => by
  rw [if_neg (by simp_all)]
  exact Z _ _ c _ w h2 (L _ _ rfl)
 simp only [aBo] at hs
 cases W : ops[i].guard with
 | none =>
  grind [Region.wanted]
 | some jp =>
  obtain ⟨j, z⟩ := jp
  rw [W] at hs
  simp only at hs
  cases I : aJc ops j with
  | none => simp_all
  | some dj =>
   rw [I] at hs
   simp only at hs
   have hv := f.env dj
   split at hs
   ·rename_i b hb
    rw [hb] at hv
    have O := aGf hv
    have hy := aAT s f.size I O
    simp only [yb] at hy
    by_cases e : b = z
    ·grind [Region.wanted]
    ·have e' : b = !z := by cases b <;> cases z <;> simp_all
     grind [Region.wanted]
   ·rename_i hb
    rw [hb] at hv
    have hy := aAT s f.size I (v := Go.undef) hv
    grind [Region.wanted, undef, yb]
   simp_all
theorem aUF (hE : iA P E) {sb : List Nat} {Δ : FuncId → List AV → List Obj → Option Hit} (z : aEG P E.G Δ) {ops : List Oper} {Q : Exit → Act → World → Prop} (I : ∀ o ∈ ops, gY nt o = true) {K : St → List Obj → Prop} {Kp : Pan → St → List Obj → Prop} (hK : ∀ env h c a w, K env h → Sim E M w0 nt ds c env h a w → Q .normal a w)
  (q : ∀ p env h c a w u, Kp p env h → Sim E M w0 nt ds c env h a w → dE w c.S p.t p.x u → Q (.panic (aTu p.k u)) a w) {n : Nat} (ht : aPE n ops = true) :
  ∀ (m i : Nat), i + m = ops.length → n ≤ i → ∀ (listed : Array Bool), listed.size = ops.length → (∀ k, k < ops.length → (listed.getD k false = true ↔ k < i)) → ∀ (env : St) (h : List Obj) (c : Ctx) (a : Act) (w : World), aBo E Δ sb ops (ops.drop i) env h K Kp → Sim E M w0 nt ds c env h a w → wpAny P .any ops.toArray Q m listed a w
 | 0, i, hi, U, listed, Z, hl, env, h, c, a, w, hs, b => by
  rw [List.drop_eq_nil_of_le (by omega)] at hs
  refine ⟨?_, hK env h c a w hs b⟩
  rw [List.eq_nil_iff_forall_not_mem]
  grind [mem_ready, lD.get_lt']
 | m + 1, i, hi, U, listed, Z, hl, env, h, c, a, w, hs, b => by
  have g : i < ops.length := by omega
  have hio : ops[i]? = some ops[i] := List.getElem?_eq_getElem g
  refine ⟨fun hr => ?_, fun j hj => ?_⟩
  ·exfalso
   have hmem : i ∈ Region.ready .any ops.toArray listed := by
    grind [mem_ready, lD]
   simp_all
  ·obtain ⟨h1, o, ho, s⟩ := mem_ready.1 hj
   have ho : ops[j]? = some o := by simp_all
   have hjl := lD.get_lt' ho
   have N : j = i := by
    rcases Nat.lt_trichotomy j i with hlt | Y | O
    ·grind
    ·exact Y
    ·have := (lD ht ho).2 (by omega) (fun k => k < ops.length → listed.getD k false = true) (fun k o' r hk e W hb => fun hlt => by
      have hkl := lD.get_lt' r
      have h3 := (lD ht r).1 e W hb
      grind) (fun e W hb _ => s e W hb) i O g
     simp_all
   subst N
   refine bES hE z I q g hs b fun J h' c' a' w' L f => ?_
   refine aUF hE z I hK q ht m (j + 1) (by omega) (by omega) (listed.setIfInBounds j true) (by grind) (fun k hk => ?_) J h' c' a' w' L f
   by_cases e : j = k
   ·simp_all
   ·rw [getD_set_ne false e, hl k hk]
    omega
def aEH (ops : List Oper) (done : List Nat) : List Nat := (List.range ops.length).filter fun i => !done.contains i && (match ops[i]? with
 | some o => o.after.toList.all fun e => !Region.binds .any e || done.contains e.on
 | none => false)
def anyS (E : Env) (ops : List Oper) (K : St → List Obj → Prop) : Nat → List Nat → St → List Obj → Prop
 | 0, _, env, h => K env h
 | n + 1, done, env, h => ∀ i, i ∈ aEH ops done → match ops[i]? with
  | some o => o.guard = none ∧ (match zH E env h o with
   | (p, v, h') => p ∧ anyS E ops K n (i :: done) (xH o.dst v env) h')
  | none => False
def aXk (ops : List Oper) : Bool := ops.zipIdx.all fun p => p.1.after.toList.all fun e => !Region.binds .any e || decide (e.on < p.2)
theorem aHl : ∀ {l m : List Nat}, l.Nodup → (∀ x ∈ l, x ∈ m) → l.length ≤ m.length ∧ (l.length = m.length → ∀ x ∈ m, x ∈ l)
 | [], m, _, _ => ⟨by simp, fun h x s => by
  grind⟩
 | a :: l, m, r, hs => by
  have j : a ∈ m := hs a (by simp)
  have b := List.nodup_cons.1 r
  have f := List.length_erase_of_mem j
  have q : 0 < m.length := List.length_pos_of_mem j
  have g := aHl (l := l) (m := m.erase a) b.2 (fun x s => by
   grind)
  grind
theorem bAj (hE : iA P E) {ops : List Oper} {Q : Exit → Act → World → Prop} (O : ∀ o ∈ ops, gY nt o = true) {K : St → List Obj → Prop} (hK : ∀ env h c a w, K env h → Sim E M w0 nt ds c env h a w → Q .normal a w) (hb : aXk ops = true) :
  ∀ (n : Nat) (done : List Nat) (listed : Array Bool), listed.size = ops.length → (∀ k, k < ops.length → (listed.getD k false = true ↔ k ∈ done)) → done.length + n = ops.length → done.Nodup → (∀ k ∈ done, k < ops.length) → ∀ (env : St) (h : List Obj) (c : Ctx) (a : Act) (w : World), anyS E ops K n done env h → Sim E M w0 nt ds c env h a w → wpAny P .any ops.toArray Q n listed a w
 | 0, done, listed, hsz, Y, hn, hd, U, env, h, c, a, w, hs, b => by
  refine ⟨?_, hK env h c a w hs b⟩
  rw [List.eq_nil_iff_forall_not_mem]
  intro j J
  obtain ⟨h1, o, s, _⟩ := mem_ready.1 J
  have s : ops[j]? = some o := by simp_all
  have q := lD.get_lt' s
  have z : j ∈ done := by
   exact (aHl hd (m := List.range ops.length) (fun k f => List.mem_range.2 (U k f))).2 (by grind) j (List.mem_range.2 q)
  grind
 | n + 1, done, listed, hsz, Y, hn, hd, U, env, h, c, a, w, hs, b => by
  have W : ∀ j, j ∈ Region.ready .any ops.toArray listed → j ∈ aEH ops done ∧ j ∉ done ∧ j < ops.length := fun j J => by
   obtain ⟨h1, o, s, z⟩ := mem_ready.1 J
   have s : ops[j]? = some o := by simp_all
   have q := lD.get_lt' s
   have L : j < listed.size := by omega
   have Z : j ∉ done := fun hm => by
    grind
   refine ⟨?_, Z, q⟩
   simp only [aEH, List.mem_filter, List.mem_range, s, Bool.and_eq_true, Bool.not_eq_true', List.contains_eq_mem, decide_eq_false_iff_not, List.all_eq_true, Bool.or_eq_true, decide_eq_true_eq]
   grind
  refine ⟨fun hr => ?_, fun j J => ?_⟩
  ·exfalso
   have r : ∃ k, (k < ops.length ∧ k ∉ done) ∧ ∀ j, j < k → ¬ (j < ops.length ∧ j ∉ done) := by
    have r : ∃ k, k < ops.length ∧ k ∉ done := by
     apply Classical.byContradiction
     intro hc
     have N : List.range ops.length ⊆ done := fun k f => Classical.byContradiction fun hk2 => hc ⟨k, List.mem_range.1 f, hk2⟩
     have := (aHl (List.nodup_range (n := ops.length)) (fun k f => N f)).1
     grind
    obtain ⟨n, h1, h2⟩ := aGm r
    grind
   obtain ⟨k, ⟨f, hkd⟩, hlow⟩ := r
   have hmem : k ∈ Region.ready .any ops.toArray listed := by
    rw [mem_ready]
    have L : k < listed.size := by omega
    have hun : ¬ listed.getD k false = true := fun h => hkd ((Y k f).1 h)
    refine ⟨by grind, ops[k], by simp [f], fun e he hbe => ?_⟩
    have hbk := List.all_eq_true.1 hb (ops[k], k) (by grind)
    grind
   simp_all
  ·obtain ⟨r1, r2, r3⟩ := W j J
   have hs := hs j r1
   have I : ops[j]? = some ops[j] := List.getElem?_eq_getElem r3
   rw [I] at hs
   obtain ⟨hg, hp, hrest⟩ := hs
   have g := O ops[j] (List.getElem_mem r3)
   have hw : Region.wanted ops[j] (yielded ops.toArray a.tmps) = true := by simp [Region.wanted, hg]
   unfold wpOp
   simp only [List.getElem?_toArray, I]
   rw [if_pos hw]
   left
   refine (aKl hE b g hp).wp fun v w' c' ha => ?_
   refine bAj hE O hK hb n (j :: done) (listed.setIfInBounds j true) (by grind) (fun k f => ?_) (by grind) (List.nodup_cons.2 ⟨r2, hd⟩) (fun k f => ?_) _ _ c' _ w' hrest (b.after g ha)
   ·by_cases e : j = k
    ·simp_all
    ·rw [getD_set_ne false e, Y k f]
     grind
   grind
theorem aFt {F : Fr} {Q : Exit → Act → World → Prop} {env : St} {h : List Obj} (hF : tI F) {id : Nat} {ops : Array Oper} (keep : List Nat) (g : St) (h' : List Obj) (hb : aXk ops.toList = true)
  (hv : anyS F.E ops.toList (fun e o => keep.map (fun t => (t, look e t)) = g ∧ o = h') ops.toList.length [] env h) (q : At F (Q .normal) g h') : Tri F (.region id ops true) Q env h := fun j c a w hs => by
 simp only [iH, Bool.and_eq_true, Bool.or_eq_true, Bool.not_eq_true'] at j
 obtain ⟨⟨z, J⟩, I⟩ := j
 refine wp_region_any hF.mix ?_
 have f : dS c w c { w with drawn := w.drawn + 1 } := ⟨.refl _, fun b hb => rfl⟩
 have s : Sim F.E F.M F.w0 F.nt F.ds c env h a { w with drawn := w.drawn + 1 } :=
  ⟨hs.good.step f rfl rfl ⟨rfl, rfl, rfl, Nat.le_refl _, fun _ _ _ => rfl⟩ (fun _ _ _ _ _ => rfl) hs.good.sfin (fun _ hb => .inl hb), sG.mono (w := w) (w' := { w with drawn := w.drawn + 1 }) (fun _ hb => hb) f.same hs.glob, hs.env.keep f, hs.size, hs.defers⟩
 have := bAj (Q := Q) hF.env (List.all_eq_true.1 z) (K := fun e o => keep.map (fun t => (t, look e t)) = g ∧ o = h') (fun e o c a w r hs => by
  obtain ⟨rfl, rfl⟩ := r
  exact q c a w (hs.keep keep)) hb ops.toList.length [] (Array.replicate ops.size false) (by simp) (fun k q => by simp_all) (by simp) List.nodup_nil (fun k q => by cases q) env h c a _ hv s
 omega
theorem bET {F : Fr} {K : Exit → St → List Obj → Prop} {Q : Exit → Act → World → Prop} {env : St} {h : List Obj} (hF : tI F) (L : ∀ e env h, K e env h → At F (Q e) env h) {Δ : FuncId → List AV → List Obj → Option Hit} (s : aEG F.P F.E.G Δ) {id : Nat} {ops : Array Oper} (n : Nat) (f : (aVi (ops.toList.take n) && aH5 (ops.toList.take n) && aPE (ops.toList.take n).length ops.toList) = true) (keep sb : List Nat)
  (hv : vcA F.E h env (ops.toList.take n) 0 [] (fun q => aBo F.E Δ sb ops.toList (ops.toList.drop n) (oT F.E.T (gA (ops.toList.take n) 0) (nE q env) h).1 (oT F.E.T (gA (ops.toList.take n) 0) (nE q env) h).2 (fun env h => K .normal (keep.map fun t => (t, look env t)) h) (fun p env h => AtP F Q p env h))) : Tri F (.region id ops true) Q env h := fun g c a w hs => by
 simp only [iH, Bool.and_eq_true, Bool.or_eq_true, Bool.not_eq_true'] at g
 obtain ⟨⟨U, Z⟩, Y⟩ := g
 simp only [Bool.and_eq_true] at f
 obtain ⟨⟨N, O⟩, W⟩ := f
 have e : ops.toList.take n ++ ops.toList.drop n = ops.toList := List.take_append_drop n ops.toList
 have := aUw (id := id) (pre := ops.toList.take n) (tail := ops.toList.drop n) (Q := Q) hF.env hF.mix (by grind) O N (by simp_all) hs (K' := fun env h => aBo F.E Δ sb ops.toList (ops.toList.drop n) env h (fun env h => K .normal (keep.map fun t => (t, look env t)) h) (fun p env h => AtP F Q p env h)) hv
  (fun env h c a w listed b z j r => by
   rw [e] at b z ⊢
   exact aUF (K := fun env h => K .normal (keep.map fun t => (t, look env t)) h) (Kp := fun p env h => AtP F Q p env h) hF.env s (List.all_eq_true.1 U) (fun env h c a w j hs => L _ _ _ j c a w (hs.keep keep)) (fun p env h c a w u j hs J => j c a w u hs J) W (ops.toList.drop n).length (ops.toList.take n).length (by grind) (Nat.le_refl _) listed b z env h c a w (by
    have I : ops.toList.drop (ops.toList.take n).length = ops.toList.drop n := by
     simp_all
    rw [I]; exact j) r)
 simp_all
theorem aHm {f : FuncId} {fn : Func} {b : Code} {a : Ty} {r : RK} {m : a.den → Option r.ty.den} (s : iA P E) (q : P.funcs[f]? = some fn) (hb : fn.body = some b) (g : iH fn.ntmps b = true) (j : aPC a ≤ fn.ntmps)
  (ht : ∀ (w0 : World) (S : Nat → Prop) (x : a.den) (y : r.ty.den), a.wf x → m x = some y → Tri (fr P E S w0 fn.ntmps) b (bAf P fn S w0 r y) (bT a x 0) []) : FOK P E.G f (mSpec a r m) :=
 bEN s q hb g j fun w0 S x z hp => by
  grind [Option.isSome_iff_exists, mSpec]
def aYV : AV → Bool
 | .val _ _ => true
 | .tup b => b.all fun v => match v with | .val _ _ => true | _ => false
 | _ => false
theorem bBh {c : Ctx} {w : World} {σ : List Nat} {v : AV} {x : Value} (hp : aYV v = true) (hv : aW c w v x) : aW (c.ren σ) w v x := by
 cases v with
 | val t y => exact aRf (σ := σ) hv
 | tup b =>
  obtain ⟨j, e, q, hi⟩ := hv
  refine ⟨j, e, q, fun i f g => ?_⟩
  have hq := List.all_eq_true.1 hp b[i] (List.getElem_mem f)
  have := hi i f g
  revert hq this
  generalize b[i] = u
  intro hq this
  cases u <;> first | exact this | simp_all
 | _ => grind [aYV]
theorem kV {F : Fr} {fn : Func} {sp : fT} {Y : Ctx} {d : sp.D} {env : St} {h h' : List Obj} {v : AV} (hF : tI F) (l : List ResultVar) (σ : List Nat) (hM : F.M = GM sp Y d) (U : F.ds = []) (hr : fn.results = l.toArray) (z : nodupB σ = true) (I : preB F.M.m σ = true) (q : sp.out d = .ret v h') (hh : (σ.map fun i => dF σ (h.getD i .dead)) = h') (J : (match v with | .tup N => N.all bCB | _ => true) = true) (O : aYV v = true) (hy : (aR F.E.T h env l).1 ∧ jT h v (aR F.E.T h env l).2) :
  At F (bodyPost F.P fn (aMH sp Y F.w0 d) .ret) env h := fun c a w hs => by
 subst hh
 obtain ⟨s, q1, j, W⟩ := aHh (P := F.P) hF.env.T hs.good hs.env hr hy.1
 refine ⟨hs.defers.trans U, aKJ s, q1, c.ren σ, ?_⟩
 rw [q]
 refine ⟨aKJ s, rfl, by rw [← hM]; exact hs.good.ren z I, bBh O ?_⟩
 have f := hy.2
 generalize (aR F.E.T h env l).2 = rs at j W f
 cases v with
 | tup N =>
  obtain ⟨h1, h2⟩ := f
  obtain ⟨k1, Z⟩ := aVv hs.good h2 j W
  refine ⟨s, ?_, k1, fun i L p2 => ?_⟩
  ·match s, j with
   | [], _ => rfl
   | [x], j => simp_all
   | a :: b :: r, _ => rfl
  ·have g := List.all_eq_true.1 J N[i] (List.getElem_mem L)
   exact bAd (Z i L p2).1 (Z i L p2).2 (fun l e => by rw [e] at g; cases g) (fun e => by rw [e] at g; cases g)
 | _ =>
  match rs, f with
  | [u], f =>
   match s, j with
   | [x], _ => exact aRd hs.good f (W 0 (by simp) (by simp))
theorem gR {F : Fr} {fn : Func} {R : Ending → World → Prop} {env : St} {h : List Obj} (b : At F (bodyPost F.P fn R .ret) env h) : At F (bodyPost F.P fn R .normal) env h := b
end
attribute [go_sem] bCG rpV
end Go.Vc

