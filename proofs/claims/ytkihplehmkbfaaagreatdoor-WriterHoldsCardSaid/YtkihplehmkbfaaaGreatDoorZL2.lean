import Derived.Test.YtkihplehmkbfaaaGreatDoorZL1
import Derived.Laws.IdiomStrings
import Derived.Laws.BytesArg
import Derived.MapKept
set_option linter.unusedVariables false
set_option linter.unusedSimpArgs false
namespace Go.Vc
open Go.RowKit
section
variable {P : Program} {T : Tab} {M : Perm} {w0 : World} {c : Ctx} {h : List Obj} {w : World}
theorem dZ {i : Int} {k : IntKind} {y : Nat} {code : BoundsCode} (h0 : 0 ≤ i) (h1 : i ≤ (y : Int)) : (Instr.sliceBound (.int k i) y code).run P w = .ok i.toNat w := by
 simp [Instr.sliceBound, asIntOf, h0, h1]
inductive aK0 (c : Ctx) (w : World) : Option AV → Option Value → Prop where
 | none : aK0 c w none none
 | some {a : AV} {v : Value} (h : aP c w a v) : aK0 c w (some a) (some v)
theorem vG {o : Option AV} {v : Option Value} (hv : aK0 c w o v) {i : Int} (hi : o.map xS = some (some i)) : ∃ k, v = some (.int k i) := by
 cases hv with
 | none => cases hi
 | some hv =>
  simp at hi
  obtain ⟨k, rfl⟩ := xF hv hi
  exact ⟨k, rfl⟩
theorem oL {o : Option AV} {v : Option Value} (hv : aK0 c w o v) (hi : o.map xS = none) : v = none := by
 cases hv with
 | none => rfl
 | some hv => simp at hi
theorem aMW (s : ByteArray) (l n : Nat) : bE (s.extract l n) = ((bE s).take n).drop l := by
 obtain ⟨⟨x⟩⟩ := s
 simp only [bE, ByteArray.data_extract, List.extract_toArray, List.extract_eq_take_drop]
 simp [List.map_take, List.map_drop, List.drop_take]
theorem aDy {t : TypeId} (hd : P.underlying t = some .string) {s : ByteArray} (hs : s.size ≤ maxLen) {lo hi : Option Value} {l u : Nat}
  (hb : (Instr.sliceBounds false s.size s.size lo hi none).run P w = .ok (l, u, s.size) w) :
  (Instr.sliceAt t (.string s) lo hi none).run P w = .ok (.string (s.extract l u)) w ∧ aP c w (.val .str (((bE s).take u).drop l)) (.string (s.extract l u)) := by
 refine ⟨by simp [Instr.sliceAt, Instr.slice, aU hd, hb], ?_⟩
 rw [← aMW]
 refine aVT ?_
 have : (s.extract l u).size ≤ s.size := by simp; omega
 omega
theorem aAZ {t e : TypeId} {ct : Ty} (hd : P.underlying t = some (.slice e)) (he : yS P T e ct) {xs : List ct.den} {a : Option Addr} {len cap : Nat} (hs : SlR w c.S (aS w c.S ct) ct.cells xs a len cap) {lo hi mx : Option Value} {l u m : Nat}
  (hb : (Instr.sliceBounds true len cap lo hi mx).run P w = .ok (l, u, m) w) (h1 : l ≤ u) (h2 : u ≤ len) (h3 : u ≤ m) (h4 : m ≤ cap) :
  ∃ a' , (Instr.sliceAt t (.slice a len cap) lo hi mx).run P w = .ok (.slice a' (u - l) (m - l)) w ∧ SlR w c.S (aS w c.S ct) ct.cells ((xs.take u).drop l) a' (u - l) (m - l) := by
 refine ⟨if m = l then a else a.map (·.add (l * ct.cells)), by simp [Instr.sliceAt, Instr.slice, aU hd, hb, gS he], ?_⟩
 obtain ⟨hl, hle, hcap, hx⟩ := hs
 refine ⟨by simp; omega, by omega, by omega, ?_⟩
 rcases hx with hx | ⟨b, off, rfl, hb', hcell⟩
 ·subst hx; left; simp
 ·by_cases hml : m = l
  ·left
   have : u = l := by omega
   rw [this]; simp
  ·right
   refine ⟨b, off + l * ct.cells, by simp [hml, tQ], hb', fun i hi => ?_⟩
   have hi' : l + i < xs.length := by simp at hi; omega
   obtain ⟨ds, hds, hc⟩ := hcell (l + i) hi'
   refine ⟨ds, ?_, ?_⟩
   ·have : ((xs.take u).drop l)[i] = xs[l + i] := by simp
    rw [this]; exact hds
   ·rw [show off + l * ct.cells + i * ct.cells = off + (l + i) * ct.cells from by rw [Nat.add_mul]; omega]; exact hc
theorem Good.frz (hg : Good M w0 c h w) : Good M w0 c (h.map gX) w := by
 have hget : ∀ i : Nat, (h.map gX)[i]? = (h[i]?).map gX := fun i => by simp
 have hob : ∀ (i : Nat) (o : Obj), (h.map gX)[i]? = some o → o = .dead ∨ h[i]? = some o := fun i o ho => by
  rw [hget] at ho
  cases hi : h[i]? with
  | none => simp [hi] at ho
  | some o' =>
   rw [hi] at ho
   simp only [Option.map_some, Option.some.injEq] at ho
   cases o' <;> simp only [gX] at ho <;> subst ho <;> first | exact .inl rfl | exact .inr rfl
 refine ⟨by rw [hg.n]; simp, hg.keeps, hg.sfin, hg.src, fun i o ho => ?_, fun i o b ho hb => ?_, fun i j oi oj b hi hj hbi hbj => ?_, hg.root⟩
 ·rcases hob i o ho with rfl | ho
  ·trivial
  ·exact hg.objs i o ho
 ·rcases hob i o ho with rfl | ho
  ·simp [ownBlock] at hb
  ·exact hg.own i o b ho hb
 ·rcases hob i oi hi with rfl | hi
  ·simp [ownBlock] at hbi
  ·rcases hob j oj hj with rfl | hj
   ·simp [ownBlock] at hbj
   ·exact hg.sep i j oi oj b hi hj hbi hbj
theorem aMa (b : Nat) (hb : aAc c (h.map gX) b) : c.S b := by
 rcases hb with hb | ⟨i, o', ho, hb⟩
 ·exact hb
 ·simp only [List.getElem?_map] at ho
  cases hi : h[i]? with
  | none => simp [hi] at ho
  | some o => rw [hi] at ho; simp only [Option.map_some, Option.some.injEq] at ho; subst ho; cases o <;> simp [gX, ownBlock] at hb
theorem aOb {av : AV} {v : Value} {t : Ty} {x : t.den} (hv : aP c w av v) (ha : AV.as h t av = some x) : aI c w av v.cells.toList ∧ (av.isAgg = true → ∃ cs, v = .agg cs) ∧ (av.isAgg = false → ∀ cs, v ≠ .agg cs) := by
 cases av with
 | junk => cases t <;> simp [AV.as] at ha
 | undef => cases t <;> simp [AV.as] at ha
 | tup vs => cases t <;> simp [AV.as] at ha
 | _ => exact hv
theorem aDz (hg : Good M w0 c h w) {av : AV} {v : Value} {t : Ty} {x : t.den} (hv : aP c w av v) (ha : AV.as h t av = some x) : cU w (aAc c h) t x v := by
 obtain ⟨h1, h2, h3⟩ := aOb hv ha
 obtain ⟨hr, he⟩ := aYo hg t av x _ ha h1
 exact cU.of_cells (fun e => h2 (by rw [← he]; exact e)) (fun e => h3 (by rw [← he]; exact e)) hr
theorem qY (hg : Good M w0 c h w) {av : AV} {v : Value} {t : Ty} {x : t.den} (hv : aP c w av v) (ha : AV.as (h.map gX) t av = some x) : cU w c.S t x v :=
 (aDz hg.frz hv ha).keep aMa (.refl _ _)
theorem aTy (hT : gZ P T) (hg : Good M w0 c h w) {t : TypeId} {x : AV} {v : Value} {lo hi mx : Option AV} {lv hv mv : Option Value} (hx : aP c w x v) (hlo : aK0 c w lo lv) (hhi : aK0 c w hi hv) (hmx : aK0 c w mx mv) (hc : (aE0 T h t x lo hi mx).1) :
  ∃ u, (Instr.sliceAt t v lv hv mv).run P w = .ok u w ∧ aP c w (aE0 T h t x lo hi mx).2 u := by
 unfold aE0 at hc ⊢
 cases ht : T t with
 | none => simp [ht] at hc
 | some ct =>
  cases ct with
  | str =>
   simp only [ht] at hc ⊢
   have hd := sR (hT _ _ ht)
   split at hc
   ·rename_i s
    cases hmx
    obtain ⟨s, rfl, rfl, hs⟩ := aGU hx
    have hlen := nF s
    split at hc
    ·rename_i e1 e2
     obtain rfl := oL hlo e1
     obtain rfl := oL hhi e2
     have := aDy (c := c) (w := w) hd hs (lo := none) (hi := none) (l := 0) (u := s.size) (by simp [Instr.sliceBounds])
     refine ⟨_, this.1, ?_⟩
     have e : ((bE s).take s.size).drop 0 = bE s := by rw [List.drop_zero, List.take_of_length_le (by omega)]
     rw [e] at this
     simp only [e1, e2]
     exact this.2
    ·rename_i l e1 e2
     obtain ⟨k, rfl⟩ := vG hlo e1
     obtain rfl := oL hhi e2
     rw [hlen] at hc
     have := aDy (c := c) (w := w) hd hs (lo := some (.int k l)) (hi := none) (l := l.toNat) (u := s.size) (by simp [Instr.sliceBounds, dZ hc.1 hc.2])
     refine ⟨_, this.1, ?_⟩
     have e : ((bE s).take s.size).drop l.toNat = (bE s).drop l.toNat := by rw [List.take_of_length_le (by omega)]
     rw [e] at this
     simp only [e1, e2]
     exact this.2
    ·rename_i u e1 e2
     obtain rfl := oL hlo e1
     obtain ⟨k, rfl⟩ := vG hhi e2
     rw [hlen] at hc
     have := aDy (c := c) (w := w) hd hs (lo := none) (hi := some (.int k u)) (l := 0) (u := u.toNat) (by simp [Instr.sliceBounds, dZ hc.1 hc.2])
     refine ⟨_, this.1, ?_⟩
     simp only [e1, e2]
     simpa using this.2
    ·rename_i l u e1 e2
     obtain ⟨k, rfl⟩ := vG hlo e1
     obtain ⟨k', rfl⟩ := vG hhi e2
     rw [hlen] at hc
     obtain ⟨h0, h1, h2⟩ := hc
     have := aDy (c := c) (w := w) hd hs (lo := some (.int k l)) (hi := some (.int k' u)) (l := l.toNat) (u := u.toNat) (by simp [Instr.sliceBounds, dZ (P := P) (w := w) (show 0 ≤ u by omega) h2, dZ (P := P) (w := w) (i := l) (y := u.toNat) h0 (by omega)])
     refine ⟨_, this.1, ?_⟩
     simp only [e1, e2]
     exact this.2
    ·exact hc.elim
   ·exact hc.elim
  | sl ct =>
   simp only [ht] at hc ⊢
   obtain ⟨e, hd, he, hpos⟩ := gG (hT _ _ ht)
   have hTe := hT _ _ he
   cases hl : aPU h ct x with
   | none => simp [hl] at hc
   | some xs =>
    simp only [hl] at hc ⊢
    obtain ⟨a, len, cap, rfl, hs⟩ := yK (qY hg hx hl)
    have hlen := hs.1
    have hle := hs.2.1
    have mk : ∀ {ys : List ct.den} {a' : Option Addr} {n m : Nat}, SlR w c.S (aS w c.S ct) ct.cells ys a' n m → aP c w (.val (.sl ct) ys) (.slice a' n m) := fun hs' => ⟨⟨_, _, _, rfl, hs'⟩, (fun h => by cases h), (fun _ cs => by simp)⟩
    have mkF : ∀ {ys : List ct.den} {a' : Option Addr} {n m : Nat}, SlR w c.S (aS w c.S ct) ct.cells ys a' n m → m = n → aP c w (.full ct ys) (.slice a' n m) := fun hs' e => by subst e; exact ⟨⟨_, _, rfl, hs'⟩, (fun h => by cases h), (fun _ cs => by simp)⟩
    split at hc
    ·rename_i e1 e2 e3
     obtain rfl := oL hlo e1
     obtain rfl := oL hhi e2
     obtain rfl := oL hmx e3
     obtain ⟨a', h1, h2⟩ := aAZ (w := w) hd hTe hs (lo := none) (hi := none) (mx := none) (l := 0) (u := len) (m := cap) (by simp [Instr.sliceBounds]) (Nat.zero_le _) (Nat.le_refl _) hle (Nat.le_refl _)
     refine ⟨_, h1, ?_⟩
     have e : (xs.take len).drop 0 = xs := by rw [List.drop_zero, List.take_of_length_le (by omega)]
     rw [e] at h2
     simp only [e1, e2, e3]
     exact mk h2
    ·rename_i l e1 e2 e3
     obtain ⟨k, rfl⟩ := vG hlo e1
     obtain rfl := oL hhi e2
     obtain rfl := oL hmx e3
     rw [hlen] at hc
     obtain ⟨a', h1, h2⟩ := aAZ (w := w) hd hTe hs (lo := some (.int k l)) (hi := none) (mx := none) (l := l.toNat) (u := len) (m := cap) (by simp [Instr.sliceBounds, dZ hc.1 hc.2]) (by omega) (Nat.le_refl _) hle (Nat.le_refl _)
     refine ⟨_, h1, ?_⟩
     have e : (xs.take len).drop l.toNat = xs.drop l.toNat := by rw [List.take_of_length_le (by omega)]
     rw [e] at h2
     simp only [e1, e2, e3]
     exact mk h2
    ·rename_i u e1 e2 e3
     obtain rfl := oL hlo e1
     obtain ⟨k, rfl⟩ := vG hhi e2
     obtain rfl := oL hmx e3
     rw [hlen] at hc
     obtain ⟨a', h1, h2⟩ := aAZ (w := w) hd hTe hs (lo := none) (hi := some (.int k u)) (mx := none) (l := 0) (u := u.toNat) (m := cap) (by simp [Instr.sliceBounds, dZ (P := P) (w := w) (y := cap) hc.1 (by omega)]) (by omega) (by omega) (by omega) (Nat.le_refl _)
     refine ⟨_, h1, ?_⟩
     simp only [e1, e2, e3]
     exact mk (by simpa using h2)
    ·rename_i l u e1 e2 e3
     obtain ⟨k, rfl⟩ := vG hlo e1
     obtain ⟨k', rfl⟩ := vG hhi e2
     obtain rfl := oL hmx e3
     rw [hlen] at hc
     obtain ⟨h0, h1, h2⟩ := hc
     obtain ⟨a', h1, h2⟩ := aAZ (w := w) hd hTe hs (lo := some (.int k l)) (hi := some (.int k' u)) (mx := none) (l := l.toNat) (u := u.toNat) (m := cap) (by simp [Instr.sliceBounds, dZ (P := P) (w := w) (i := u) (y := cap) (by omega) (by omega), dZ (P := P) (w := w) (i := l) (y := u.toNat) h0 (by omega)]) (by omega) (by omega) (by omega) (Nat.le_refl _)
     refine ⟨_, h1, ?_⟩
     simp only [e1, e2, e3]
     exact mk h2
    ·rename_i u m e1 e2 e3
     obtain rfl := oL hlo e1
     obtain ⟨k, rfl⟩ := vG hhi e2
     obtain ⟨k', rfl⟩ := vG hmx e3
     rw [hlen] at hc
     obtain ⟨h0, h1, rfl⟩ := hc
     obtain ⟨a', h1, h2⟩ := aAZ (w := w) hd hTe hs (lo := none) (hi := some (.int k m)) (mx := some (.int k' m)) (l := 0) (u := m.toNat) (m := m.toNat) (by simp [Instr.sliceBounds, dZ (P := P) (w := w) (i := m) (y := cap) (by omega) (by omega), dZ (P := P) (w := w) (i := m) (y := m.toNat) h0 (by omega)]) (by omega) (by omega) (by omega) (by omega)
     refine ⟨_, h1, ?_⟩
     simp only [e1, e2, e3]
     exact mkF (by simpa using h2) rfl
    ·rename_i l u m e1 e2 e3
     obtain ⟨k, rfl⟩ := vG hlo e1
     obtain ⟨k', rfl⟩ := vG hhi e2
     obtain ⟨k'', rfl⟩ := vG hmx e3
     rw [hlen] at hc
     obtain ⟨h0, h1, h2, rfl⟩ := hc
     obtain ⟨a', h1, h2⟩ := aAZ (w := w) hd hTe hs (lo := some (.int k l)) (hi := some (.int k' m)) (mx := some (.int k'' m)) (l := l.toNat) (u := m.toNat) (m := m.toNat) (by simp [Instr.sliceBounds, dZ (P := P) (w := w) (i := m) (y := cap) (by omega) (by omega), dZ (P := P) (w := w) (i := m) (y := m.toNat) (by omega) (by omega), dZ (P := P) (w := w) (i := l) (y := m.toNat) h0 (by omega)]) (by omega) (by omega) (by omega) (by omega)
     refine ⟨_, h1, ?_⟩
     simp only [e1, e2, e3]
     exact mkF h2 rfl
    ·exact hc.elim
  | _ => simp [ht] at hc
end
end Go.Vc
namespace Go.Vc
open Go.RowKit
section
variable {P : Program} {T : Tab} {M : Perm} {w0 : World} {c : Ctx} {h : List Obj} {w : World}
theorem aMX {w w' : World} {B : Nat} {e : TypeId} {sz : Nat} {v : Value} {n : Nat} {vals : List Value} (hb : ∀ b, aQ v = some b → w'.heap[b]? = w.heap[b]?) (h : w.ownsRow B e sz v n vals) : w'.ownsRow B e sz v n vals := by
 obtain ⟨h1, h2⟩ := h
 refine ⟨h1, h2.imp id ?_⟩
 rintro ⟨g, cap, cur, rfl, hB, hh, r⟩
 exact ⟨g, cap, cur, rfl, hB, by rw [hb g rfl]; exact hh, r⟩
theorem aHM.keep {c c' : Ctx} {w w' : World} {i : Nat} {o : Obj} (hl : dN c w c' w') (hi : i < c.n) (hb : ∀ b, ownBlock c i o = some b → w'.heap[b]? = w.heap[b]?) (hr : aHM c w i o) : aHM c' w' i o := by
 have hhd := hl.le.hd i hi
 cases o with
 | dead => trivial
 | box n v =>
  obtain ⟨b, cells, e, h1, h2, h3, h4⟩ := hr
  exact ⟨b, cells, e, by rw [hhd]; exact h1, by rw [hb b (by simp [ownBlock, h1, aQ])]; exact h2, h3, aI.keep hl.le hl.same _ _ h4⟩
 | row e t xs =>
  obtain ⟨vals, h1, h2⟩ := hr
  refine ⟨vals, ?_, aS.keep hl.le.S hl.same _ _ _ h2⟩
  rw [hhd]
  exact aMX (fun b hbb => hb b hbb) h1
 | frz t xs => simp only [aHM] at *; rw [hhd]; exact aS.keep hl.le.S hl.same _ _ _ hr
 | map k v m =>
  obtain ⟨b, es, clock, h1, h2, h3, h4⟩ := hr
  exact ⟨b, es, clock, by rw [hhd]; exact h1, by rw [hb b (by simp [ownBlock, h1, aQ])]; exact h2, h3, fun j hj hj' => ⟨(h4 j hj hj').1.keep hl.le.S hl.same, (h4 j hj hj').2.keep hl.le.S hl.same⟩⟩
theorem bV {c c' : Ctx} (hl : c.le c') {i : Nat} (hi : i < c.n) (o : Obj) : ownBlock c' i o = ownBlock c i o := by
 cases o <;> simp [ownBlock, hl.hd i hi]
theorem oM {h : List Obj} {i : Nat} {o : Obj} (ho : h[i]? = some o) : i < h.length := by
 rcases Nat.lt_or_ge i h.length with hlt | hge
 ·exact hlt
 ·rw [List.getElem?_eq_none hge] at ho; cases ho
theorem Good.step (hg : Good M w0 c h w) {c' : Ctx} {w' : World} (hl : dN c w c' w') (hn : c'.n = c.n) (hk : fM M.wr w w') (hb : ∀ i o b, h[i]? = some o → ownBlock c i o = some b → w'.heap[b]? = w.heap[b]?)
  (hs : ∀ b, c'.S b → b < w'.heap.size) (hd : ∀ b, c'.S b → c.S b ∨ w.heap.size ≤ b) : Good M w0 c' h w' := by
 have hlt : ∀ i o, h[i]? = some o → i < c.n := fun i o ho => by rw [hg.n]; exact oM ho
 refine ⟨by rw [hn, hg.n], hg.keeps.trans hk, hs, fun b hb hlt => (hd b hb).elim (fun hb => hg.src b hb hlt) (fun hb => absurd hb (Nat.not_le_of_lt (Nat.lt_of_lt_of_le hlt hg.keeps.size))), fun i o ho => (hg.objs i o ho).keep hl (hlt i o ho) (fun b hbb => hb i o b ho hbb), fun i o b ho hbb => ?_, fun i j oi oj b hi hj hbi hbj => ?_, aAb hg.root hl.le⟩
 ·rw [bV hl.le (hlt i o ho)] at hbb
  obtain ⟨h1, h2, h3⟩ := hg.own i o b ho hbb
  refine ⟨h1, Nat.lt_of_lt_of_le h2 hk.size, fun hS => ?_⟩
  rcases hd b hS with hS | hge
  ·exact h3 hS
  ·omega
 ·rw [bV hl.le (hlt i oi hi)] at hbi
  rw [bV hl.le (hlt j oj hj)] at hbj
  exact hg.sep i j oi oj b hi hj hbi hbj
def Ctx.upto (c : Ctx) (lo hi : Nat) : Ctx := ⟨fun b => c.S b ∨ (lo ≤ b ∧ b < hi), c.hd, c.n⟩
theorem Ctx.le_upto (c : Ctx) (lo hi : Nat) : c.le (c.upto lo hi) := ⟨fun b hb => .inl hb, Nat.le_refl _, fun _ _ => rfl⟩
theorem qG (hg : Good M w0 c h w) {w' : World} (hk : fM nothing w w') : dN c w (c.upto w.heap.size w'.heap.size) w' :=
 ⟨c.le_upto _ _, fun b hb => hk.block b (hg.sfin b hb) (fun f => f)⟩
theorem fM.any {w w' : World} (hk : fM nothing w w') : fM M.wr w w' := ⟨hk.os, hk.tape, hk.output, hk.size, fun b hb _ => hk.block b hb (fun f => f)⟩
theorem Good.call (hg : Good M w0 c h w) {w' : World} (hk : fM nothing w w') : Good M w0 (c.upto w.heap.size w'.heap.size) h w' :=
 hg.step (qG hg hk) rfl hk.any (fun i o b ho hb => hk.block b (hg.own i o b ho hb).2.1 (fun f => f)) (fun b hb => hb.elim (fun hb => Nat.lt_of_lt_of_le (hg.sfin b hb) hk.size) (fun hb => hb.2)) (fun b hb => hb.imp id (fun hb => hb.1))
theorem fM.alloc (M : Nat → Prop) (w : World) (o : Go.Obj) : fM M w { w with heap := w.heap.push o } :=
 ⟨rfl, rfl, rfl, by simp, fun b hb _ => by simp [Array.getElem?_push, Nat.ne_of_lt hb]⟩
structure aCA (P : Program) (M : Perm) (w0 : World) (h : List Obj) (c : Ctx) (w : World) (av : AV) (v : Value) (w' : World) (c' : Ctx) : Prop where
 later : dN c w c' w'
 n : c'.n = c.n
 good : Good M w0 c' h w'
 keeps : fM nothing w w'
 new : ∀ b, c'.S b → c.S b ∨ w.heap.size ≤ b
 val : aP c' w' av v
def Did (P : Program) (M : Perm) (w0 : World) (h : List Obj) (c : Ctx) (o : Oper) (a : Act) (w : World) (av : AV) : Prop :=
 (∃ v w' c', (execOp a.eval o).run P w = .ok (.value v) w' ∧ aCA P M w0 h c w av v w' c') ∨
 (∃ f args, (execOp a.eval o).run P w = .ok (.enter f args) w ∧ Calls P f args w fun e w' => ∃ v c', e = .returned v ∧ aCA P M w0 h c w av v w' c')
theorem Did.of_value (hg : Good M w0 c h w) {o : Oper} {a : Act} {av : AV} {v : Value} (hr : (execOp a.eval o).run P w = .ok (.value v) w) (hv : aP c w av v) : Did P M w0 h c o a w av :=
 .inl ⟨v, w, c, hr, .refl _ _, rfl, hg, .refl _ _, fun b hb => .inl hb, hv⟩
theorem aS.scalar {w w' : World} {S S' : Nat → Prop} : ∀ (t : Ty) (x : t.den) (cs : List Value), t.scalar = true → aS w S t x cs → aS w' S' t x cs
 | .bool, _, _, _, hr => hr
 | .u _, _, _, _, hr => hr
 | .i _, _, _, _, hr => hr
 | .str, _, _, _, hr => hr
 | .sl t, _, _, hs, _ => by simp [Ty.scalar] at hs
 | .unit, _, _, _, hr => hr
 | .pair a b, _, _, hs, ⟨c1, c2, hc, h1, h2⟩ => by
  simp only [Ty.scalar, Bool.and_eq_true] at hs
  exact ⟨c1, c2, hc, aS.scalar a _ _ hs.1 h1, aS.scalar b _ _ hs.2 h2⟩
 | .arr _ t, _, _, hs, ⟨hn, css, hc, hl, hr⟩ => ⟨hn, css, hc, hl, fun i h1 h2 => aS.scalar t _ _ (by simpa [Ty.scalar] using hs) (hr i h1 h2)⟩
 | .expr, _, _, hs, _ => by simp [Ty.scalar] at hs
 | .rp _, _, _, hs, _ => by simp [Ty.scalar] at hs
 | .clo _ _, _, _, hs, _ => by simp [Ty.scalar] at hs
theorem cU.scalar {w w' : World} {S S' : Nat → Prop} {t : Ty} {x : t.den} {v : Value} (hs : t.scalar = true) (hr : cU w S t x v) : cU w' S' t x v := by
 unfold cU at *
 split
 ·rename_i ha; simp only [ha, if_true] at hr; obtain ⟨cs, hv, hc⟩ := hr; exact ⟨cs, hv, aS.scalar _ _ _ hs hc⟩
 ·rename_i ha; simp only [ha] at hr; exact aS.scalar _ _ _ hs hr
theorem nE.scalar {w w' : World} {S S' : Nat → Prop} : ∀ (t : Ty) (x : t.den) (vs : List Value), t.scalar = true → nE w S t x vs → nE w' S' t x vs
 | .unit, _, _, _, hr => hr
 | .pair a r, x, vs, hs, ⟨v, vs', e, h1, h2⟩ => by
  simp only [Ty.scalar, Bool.and_eq_true] at hs
  exact ⟨v, vs', e, h1.scalar hs.1, nE.scalar r _ _ hs.2 h2⟩
 | .bool, _, _, _, hr => hr.elim
 | .u _, _, _, _, hr => hr.elim
 | .i _, _, _, _, hr => hr.elim
 | .str, _, _, _, hr => hr.elim
 | .sl _, _, _, _, hr => hr.elim
 | .arr _ _, _, _, _, hr => hr.elim
 | .expr, _, _, _, hr => hr.elim
 | .rp _, _, _, _, hr => hr.elim
 | .clo _ _, _, _, _, hr => hr.elim
theorem aMY (hg : Good M w0 c h w) : ∀ (t : Ty) (vs : List AV) (xs : List Value) (x : t.den), vF h t vs = some x → xs.length = vs.length → (∀ i (h1 : i < vs.length) (h2 : i < xs.length), aP c w vs[i] xs[i]) → nE w (aAc c h) t x xs := by
 intro t
 induction t with
 | unit =>
  intro vs xs x ha hl hv
  cases vs with
  | nil => exact List.eq_nil_of_length_eq_zero hl
  | cons v vs => simp [vF] at ha
 | pair a r _ ih =>
  intro vs xs x ha hl hv
  cases vs with
  | nil => simp [vF] at ha
  | cons v vs =>
   cases xs with
   | nil => simp at hl
   | cons u xs =>
    simp only [vF] at ha
    split at ha
    ·rename_i xa xb h1 h2
     cases ha
     refine ⟨u, xs, rfl, aDz hg (hv 0 (by simp) (by simp)) h1, ih vs xs xb h2 (by simpa using hl) (fun i hi hi' => ?_)⟩
     have := hv (i + 1) (by simpa using hi) (by simpa using hi')
     simpa using this
    ·cases ha
 | _ => intro vs xs x ha; simp [vF] at ha
theorem aCB (hg : Good M w0 c h w) {t : Ty} {vs : List AV} {xs : List Value} {x : t.den} (ha : vF (h.map gX) t vs = some x) (hl : xs.length = vs.length) (hv : ∀ i (h1 : i < vs.length) (h2 : i < xs.length), aP c w vs[i] xs[i]) : nE w c.S t x xs := by
 have := aMY hg.frz t vs xs x ha hl hv
 have hmono : ∀ (t : Ty) (x : t.den) (xs : List Value), nE w (aAc c (h.map gX)) t x xs → nE w c.S t x xs := by
  intro t
  induction t with
  | unit => intro x xs h; exact h
  | pair a r _ ih => intro x xs ⟨v, vs', e, h1, h2⟩; exact ⟨v, vs', e, h1.keep aMa (.refl _ _), ih _ _ h2⟩
  | _ => intro x xs h; exact h.elim
 exact hmono t x xs this
theorem aOc (hg : Good M w0 c h w) (b : Nat) (hb : aAc c h b) : b < w.heap.size := by
 rcases hb with hb | ⟨i, o, ho, hb⟩
 ·exact hg.sfin b hb
 ·exact (hg.own i _ b ho hb).2.1
theorem oD.mono {G : Nat → AV} {S S' : Nat → Prop} {w w' : World} (hs : ∀ b, S b → S' b) (h : wJ S w w') (hr : oD G S w) : oD G S' w' := fun g =>
 (hr g).keep (c := ⟨S, fun _ => Go.undef, 0⟩) (c' := ⟨S', fun _ => Go.undef, 0⟩) ⟨hs, Nat.le_refl _, fun _ _ => rfl⟩ h
theorem aPW {S : Nat → Prop} {w : World} {c : Ctx} (hS : c.S = S) : ∀ (t : Ty) (x : t.den) (vs : List Value), nE w S t x vs → vs.length = (tP t x).length ∧ ∀ i (h : i < (tP t x).length) (h' : i < vs.length), sQ c w (tP t x)[i] vs[i]
 | .unit, _, vs, hr => by simp only [nE] at hr; subst hr; exact ⟨rfl, fun i h => by simp [tP] at h⟩
 | .pair a r, x, vs, ⟨v, vs', e, h1, h2⟩ => by
  subst e
  obtain ⟨hl, hr⟩ := aPW hS r x.2 vs' h2
  refine ⟨by simp [tP, hl], fun i hi hi' => ?_⟩
  cases i with
  | zero => exact aP.ofV (by rw [hS]; exact h1)
  | succ i => exact hr i (by simpa [tP] using hi) (by simpa using hi')
 | .bool, _, _, hr => hr.elim
 | .u _, _, _, hr => hr.elim
 | .i _, _, _, hr => hr.elim
 | .str, _, _, hr => hr.elim
 | .sl _, _, _, hr => hr.elim
 | .arr _ _, _, _, hr => hr.elim
 | .expr, _, _, hr => hr.elim
 | .rp _, _, _, hr => hr.elim
 | .clo _ _, _, _, hr => hr.elim
def FAt (G : Nat → AV) (sp : aJ) (vs : Array Value) (w : World) (C : (Ending → World → Prop) → Prop) : Prop :=
 ∀ (S : Nat → Prop) (x : sp.args.den), (∀ b, S b → b < w.heap.size) → oD G S w → nE w S sp.args x vs.toList → sp.pre x →
  C fun e w' => ∃ v, e = .returned v ∧ fM nothing w w' ∧ aSo w' S w.heap.size sp.res (sp.fn x) v
def aXk (P : Program) (f : FuncId) (vs : Array Value) (w : World) (R : Ending → World → Prop) : Prop :=
 ∃ v w', (callFunc f vs).run P w = .ok (.value v) w' ∧ R (.returned v) w'
def NOK (P : Program) (G : Nat → AV) (f : FuncId) (sp : aJ) : Prop :=
 (∀ e t, sp.res ≠ .own e t) ∧ ∀ (w : World) (vs : Array Value), FAt G sp vs w (aXk P f vs w)
theorem aV4 {C : (Ending → World → Prop) → Prop} (hC : ∀ R R' : Ending → World → Prop, C R → (∀ e w', R e w' → R' e w') → C R') {G : Nat → AV} {Γ : FuncId → List AV → Option aJ} {f : FuncId} {vs : List AV} {xs : Array Value} (hΓ : ∀ sp, Γ f vs = some sp → FAt G sp xs w C) (hg : Good M w0 c h w) (hG : oD G c.S w) (hl : xs.size = vs.length)
  (hv : ∀ i (h1 : i < vs.length) (h2 : i < xs.size), aP c w vs[i] xs[i]) (hc : (aBo Γ h f vs).1) :
  C fun e w' => ∃ v c', e = .returned v ∧ aCA P M w0 h c w (aBo Γ h f vs).2 v w' c' := by
 unfold aBo at hc ⊢
 cases hf : Γ f vs with
 | none => simp [hf] at hc
 | some sp =>
  simp only [hf] at hc ⊢
  have hl' : xs.toList.length = vs.length := by simpa using hl
  have hv' : ∀ i (h1 : i < vs.length) (h2 : i < xs.toList.length), aP c w vs[i] xs.toList[i] := fun i h1 h2 => by
   have := hv i h1 (by simpa using h2)
   simpa using this
  obtain ⟨argT, res, pre, fn⟩ := sp
  have key : ∀ (x : argT.den), vF (if res.ty.scalar then h else h.map gX) argT vs = some x → pre x → (∀ e t, res ≠ .own e t) → C fun e w' => ∃ v c', e = .returned v ∧ aCA P M w0 h c w (aTr res (fn x)) v w' c' := by
   intro x ha hp hno
   by_cases hsc : res.ty.scalar = true
   ·rw [if_pos hsc] at ha
    have hargs := aMY hg _ _ _ _ ha hl' hv'
    refine hC _ _ (hΓ _ hf (aAc c h) x (aOc hg) (hG.mono (fun b hb => .inl hb) (.refl _ _)) hargs hp) ?_
    rintro e w' ⟨v, rfl, hk, hres⟩
    refine ⟨v, _, rfl, qG hg hk, rfl, hg.call hk, hk, fun b hb => hb.imp id And.left, ?_⟩
    cases res with
    | none => trivial
    | one t => exact aP.ofV (cU.scalar hsc hres)
    | own e t => exact absurd rfl (hno _ _)
    | tup t =>
     obtain ⟨us, rfl, hus⟩ := hres
     have := nE.scalar (w' := w') (S' := (c.upto w.heap.size w'.heap.size).S) t _ _ hsc hus
     obtain ⟨h1, h2⟩ := aPW (c := c.upto w.heap.size w'.heap.size) rfl t _ _ this
     exact ⟨us, rfl, h1, h2⟩
   ·rw [if_neg hsc] at ha
    have hargs := aCB hg ha hl' hv'
    refine hC _ _ (hΓ _ hf c.S x hg.sfin hG hargs hp) ?_
    rintro e w' ⟨v, rfl, hk, hres⟩
    refine ⟨v, _, rfl, qG hg hk, rfl, hg.call hk, hk, fun b hb => hb.imp id And.left, ?_⟩
    cases res with
    | none => trivial
    | one t => exact aP.ofV hres
    | own e t => exact absurd rfl (hno _ _)
    | tup t =>
     obtain ⟨us, rfl, hus⟩ := hres
     obtain ⟨h1, h2⟩ := aPW (c := c.upto w.heap.size w'.heap.size) rfl t _ _ hus
     exact ⟨us, rfl, h1, h2⟩
  cases res with
  | own e t => exact hc.elim
  | none =>
   simp only at hc ⊢
   split at hc
   ·rename_i x ha; exact key x ha hc (fun _ _ h => by cases h)
   ·exact hc.elim
  | one t =>
   simp only at hc ⊢
   split at hc
   ·rename_i x ha; exact key x ha hc (fun _ _ h => by cases h)
   ·exact hc.elim
  | tup t =>
   simp only at hc ⊢
   split at hc
   ·rename_i x ha; exact key x ha hc (fun _ _ h => by cases h)
   ·exact hc.elim
end
end Go.Vc
namespace Go.Vc
open Go.RowKit
section
variable {P : Program} {T : Tab} {M : Perm} {w0 : World} {c : Ctx} {h : List Obj} {w : World}
theorem aOd (pre : List Value) : ∀ (ns old post : List Value) (cells : Array Value) (j : Nat), cells.toList = pre ++ old ++ post → old.length = j + ns.length →
  ((ns.zipIdx j).foldl (fun cs (p : Value × Nat) => cs.setIfInBounds (pre.length + p.2) p.1) cells).toList = pre ++ (old.take j ++ ns) ++ post
 | [], old, post, cells, j, hc, hl => by
  simp only [List.zipIdx_nil, List.foldl_nil, List.append_nil]
  rw [hc, List.take_of_length_le (by simp at hl; omega)]
 | v :: ns, old, post, cells, j, hc, hl => by
  simp only [List.zipIdx_cons, List.foldl_cons]
  simp only [List.length_cons] at hl
  have h1 : (cells.setIfInBounds (pre.length + j) v).toList = pre ++ (old.set j v) ++ post := by
   rw [Array.toList_setIfInBounds, hc, List.append_assoc, List.set_append_right _ _ (by omega), Nat.add_sub_cancel_left, List.set_append_left _ _ (by omega), ← List.append_assoc]
  have := aOd pre ns (old.set j v) post _ (j + 1) h1 (by simp; omega)
  rw [this]
  congr 2
  rw [List.take_succ_eq_append_getElem (by simp; omega)]
  simp [List.take_set_of_le]
theorem aMb {pre old post : List Value} {cells : Array Value} (hc : cells.toList = pre ++ old ++ post) {v : Value} (hv : v.cells.size = old.length) :
  (v.cells.zipIdx.foldl (fun cs (p : Value × Nat) => cs.setIfInBounds (pre.length + p.2) p.1) cells).toList = pre ++ v.cells.toList ++ post := by
 have := aOd pre v.cells.toList old post cells 0 hc (by simp [hv])
 rw [← Array.foldl_toList, Array.toList_zipIdx]
 simpa using this
theorem aTz : ∀ {L : List AV} {cs : List Value} {k : Nat} {ts : List Ty}, jX c w L cs → L.length = ts.length → (∀ i (h : i < L.length), (L[i]).solid1 = true) → (∀ i (h : i < L.length) (h' : i < ts.length), (L[i]).nc1 = ts[i].cells) → k < L.length →
  ∃ pre ds post, cs = pre ++ ds ++ post ∧ pre.length = ((ts.take k).map Ty.cells).foldr (· + ·) 0 ∧ ds.length = (ts.getD k .unit).cells ∧ ∀ (v : AV) (ds' : List Value), aI c w v ds' → jX c w (L.set k v) (pre ++ ds' ++ post)
 | [], _, _, _, _, _, _, _, hk => by simp at hk
 | v :: L, cs, k, ts, hr, hl, hs, hn, hk => by
  cases ts with
  | nil => simp at hl
  | cons t ts =>
   simp only [jX] at hr
   obtain ⟨c1, c2, rfl, h1, h2⟩ := hr
   have h0 := hn 0 (by simp) (by simp)
   have s0 := hs 0 (by simp)
   simp only [List.getElem_cons_zero] at h0 s0
   have hl1 := aF2 s0 h1
   cases k with
   | zero => exact ⟨[], c1, c2, by simp, rfl, by simp [hl1, h0], fun v' ds' hv' => by simp only [List.set_cons_zero, jX, List.nil_append]; exact ⟨ds', c2, rfl, hv', h2⟩⟩
   | succ k =>
    obtain ⟨pre, ds, post, e, hp, hd, hset⟩ := aTz (k := k) (ts := ts) h2 (by simpa using hl) (fun i hi => by have := hs (i + 1) (by simpa using hi); simpa using this) (fun i hi hi' => by have := hn (i + 1) (by simpa using hi) (by simpa using hi'); simpa using this) (by simpa using hk)
    refine ⟨c1 ++ pre, ds, post, by rw [e]; simp, by simp [hl1, h0, hp], by simpa using hd, fun v' ds' hv' => ?_⟩
    simp only [List.set_cons_succ, jX]
    exact ⟨c1, pre ++ ds' ++ post, by simp, h1, hset v' ds' hv'⟩
theorem aCC : ∀ {fs : List Field} {off : Nat} {t : Ty} {k : Nat} {ct : Ty}, cZ T fs off t = true → t.flds[k]? = some ct → ∃ f, fs[k]? = some f ∧ T f.type = some ct ∧ f.offset = off + ((t.flds.take k).map Ty.cells).foldr (· + ·) 0
 | [], off, .unit, k, ct, _, hk => by simp [Ty.flds] at hk
 | f :: fs, off, .pair a r, 0, ct, hf, hk => by
  simp only [cZ, Bool.and_eq_true, decide_eq_true_eq] at hf
  simp [Ty.flds] at hk
  subst hk
  exact ⟨f, rfl, hf.1.1.1.1, by simp [hf.1.1.1.2]⟩
 | f :: fs, off, .pair a r, k + 1, ct, hf, hk => by
  simp only [cZ, Bool.and_eq_true, decide_eq_true_eq] at hf
  simp only [Ty.flds, List.getElem?_cons_succ] at hk
  obtain ⟨f', h1, h2, h3⟩ := aCC hf.2 hk
  exact ⟨f', by simpa using h1, h2, by rw [h3]; simp [Ty.flds]; omega⟩
 | [], _, .pair _ _, _, _, hf, _ => by simp [cZ] at hf
 | _ :: _, _, .unit, _, _, hf, _ => by simp [cZ] at hf
theorem aI6 : ∀ {fs : List Field} {off : Nat} {t : Ty}, cZ T fs off t = true → fs.length = t.flds.length
 | [], _, .unit, _ => rfl
 | f :: fs, off, .pair a r, hf => by
  simp only [cZ, Bool.and_eq_true] at hf
  simp [Ty.flds, aI6 hf.2]
 | [], _, .pair _ _, hf => by simp [cZ] at hf
 | _ :: _, _, .unit, hf => by simp [cZ] at hf
theorem aMc : ∀ (t : Ty), t.okB = true → ∀ fs off, cZ T fs off t = true → jX c w (sK t) (dJ t) ∧ (sK t).length = t.flds.length ∧ (∀ i (h : i < (sK t).length), ((sK t)[i]).solid1 = true) ∧ (∀ i (h : i < (sK t).length) (h' : i < t.flds.length), ((sK t)[i]).nc1 = (t.flds[i]).cells)
 | .unit, _, _, _, _ => ⟨rfl, rfl, fun i h => by simp [sK] at h, fun i h => by simp [sK] at h⟩
 | .pair a r, hok, f :: fs, off, hf => by
  simp only [Ty.okB, Bool.and_eq_true] at hok
  simp only [cZ, Bool.and_eq_true] at hf
  obtain ⟨h1, h2, h3, h4⟩ := aMc r hok.2 fs _ hf.2
  refine ⟨⟨dJ a, dJ r, rfl, gM w c.S a hok.1, h1⟩, by simp [sK, Ty.flds, h2], fun i hi => ?_, fun i hi hi' => ?_⟩
  ·cases i with
   | zero => rfl
   | succ i => exact h3 i (by simpa [sK] using hi)
  ·cases i with
   | zero => rfl
   | succ i => exact h4 i (by simpa [sK] using hi) (by simpa [Ty.flds] using hi')
 | .pair _ _, _, [], _, hf => by simp [cZ] at hf
 | .bool, _, fs, _, hf => by cases fs <;> simp [cZ] at hf
 | .u _, _, fs, _, hf => by cases fs <;> simp [cZ] at hf
 | .i _, _, fs, _, hf => by cases fs <;> simp [cZ] at hf
 | .str, _, fs, _, hf => by cases fs <;> simp [cZ] at hf
 | .sl _, _, fs, _, hf => by cases fs <;> simp [cZ] at hf
 | .arr _ _, _, fs, _, hf => by cases fs <;> simp [cZ] at hf
 | .expr, _, fs, _, hf => by cases fs <;> simp [cZ] at hf
 | .rp _, _, fs, _, hf => by cases fs <;> simp [cZ] at hf
 | .clo _ _, _, fs, _, hf => by cases fs <;> simp [cZ] at hf
 | .nilp, _, fs, _, hf => by cases fs <;> simp [cZ] at hf
 | .nilf, _, fs, _, hf => by cases fs <;> simp [cZ] at hf
inductive aCD (c : Ctx) (w : World) : List (Nat × AV) → List (Nat × Value) → Prop where
 | nil : aCD c w [] []
 | cons {k : Nat} {a : AV} {v : Value} {ps : List (Nat × AV)} {vs : List (Nat × Value)} (h : aP c w a v) (r : aCD c w ps vs) : aCD c w ((k, a) :: ps) ((k, v) :: vs)
theorem aOe {place : Nat → Option (Nat × Nat)} {ts : List Ty} (hp : ∀ k t, ts[k]? = some t → place k = some (((ts.take k).map Ty.cells).foldr (· + ·) 0, t.cells)) : ∀ (ps : List (Nat × AV)) (vs : List (Nat × Value)) (L : List AV) (cells : Array Value),
  aCD c w ps vs → aIB ts ps → jX c w L cells.toList → L.length = ts.length → (∀ i (h : i < L.length), (L[i]).solid1 = true) → (∀ i (h : i < L.length) (h' : i < ts.length), (L[i]).nc1 = ts[i].cells) →
  ∃ cells', Instr.fill place cells vs = some cells' ∧ jX c w (aV2 L ps) cells'.toList
 | _, _, L, cells, .nil, _, hr, _, _, _ => ⟨cells, rfl, hr⟩
 | _, _, L, cells, .cons (k := k) (a := a) (v := v) (ps := ps) (vs := vs) hv r, hok, hr, hl, hs, hn => by
  obtain ⟨⟨hsa, t, htk, hnc⟩, hok⟩ := hok
  have hkt : k < ts.length := get_lt' htk
  obtain ⟨pre, ds, post, e, hpl, hdl, hset⟩ := aTz (k := k) hr hl hs hn (by omega)
  have hgd : ts.getD k .unit = t := by simp [List.getD_eq_getElem?_getD, htk]
  rw [hgd] at hdl
  have hva : sQ c w a v := by cases a <;> first | exact hv | (simp [AV.solid1] at hsa)
  have hvc := aF2 hsa hva.1
  have hsz : v.cells.size = t.cells := by rw [← hnc, ← hvc]; simp
  have hstep := aMb (v := v) e (by rw [hsz, hdl])
  have hcs : cells.size = (pre ++ ds ++ post).length := by rw [← e]; simp
  obtain ⟨cells', h1, h2⟩ := aOe hp ps vs (L.set k a) _ r hok (by rw [hstep]; exact hset a _ hva.1) (by simpa using hl) (fun i hi => by
    by_cases hik : k = i
    ·subst hik; simp [hsa]
    ·simp only [List.getElem_set_ne hik]; exact hs i (by simpa using hi)) (fun i hi hi' => by
    by_cases hik : k = i
    ·subst hik
     simp only [List.getElem_set_self, hnc]
     rw [List.getElem?_eq_getElem hkt] at htk
     simp at htk; rw [htk]
    ·simp only [List.getElem_set_ne hik]; exact hn i (by simpa using hi) hi')
  refine ⟨cells', ?_, h2⟩
  rw [Instr.fill, hp k t htk]
  have hcond : ¬ (v.cells.size ≠ t.cells ∨ ((((ts.take k).map Ty.cells).foldr (· + ·) 0) + v.cells.size > cells.size)) := by
   rw [← hpl, hsz, hcs]
   simp
   omega
  dsimp only
  rw [if_neg (by simpa using hcond), ← hpl]
  exact h1
where
 get_lt' {α : Type} {l : List α} {k : Nat} {x : α} (h : l[k]? = some x) : k < l.length := by
  rcases Nat.lt_or_ge k l.length with hlt | hge
  ·exact hlt
  ·rw [List.getElem?_eq_none hge] at h; cases h
theorem aIF {t : Ty} {L : List AV} {cells : Array Value} (hr : jX c w L cells.toList) : aP c w (aEl t L) (.agg cells) := by
 unfold aEl
 have hL : aP c w (.agg L) (.agg cells) := ⟨by simpa [aI, Value.cells] using hr, fun _ => ⟨_, rfl⟩, fun h => by cases h⟩
 split
 ·rename_i x ha
  have key : ∀ (t : Ty) (v : AV) (x : t.den) (cs : List Value), AV.as [] t v = some x → aI c w v cs → aS w c.S t x cs ∧ t.isAgg = v.isAgg := by
   intro t v x cs ha hr
   exact as_nil t v x cs ha hr
  obtain ⟨h1, h2⟩ := key _ _ _ _ ha hL.1
  exact aP.ofV (cU.of_cells (fun _ => ⟨_, rfl⟩) (fun h => by rw [h2] at h; cases h) h1)
 ·exact hL
where
 as_nil (t : Ty) (v : AV) (x : t.den) (cs : List Value) (ha : AV.as [] t v = some x) (hr : aI c w v cs) : aS w c.S t x cs ∧ t.isAgg = v.isAgg := by
  have hval : ∀ (t t' : Ty) (y : t'.den) (x : t.den) (cs : List Value), AV.as [] t (.val t' y) = some x → aI c w (.val t' y) cs → aS w c.S t x cs ∧ t.isAgg = AV.isAgg (.val t' y) := by
   intro t t' y x cs ha hr
   have : ∃ e : t' = t, x = e ▸ y := by
    have h2 : (if e : t' = t then some (e ▸ y) else none) = some x := by cases t <;> simpa [AV.as] using ha
    split at h2
    ·rename_i e; cases h2; exact ⟨e, rfl⟩
    ·cases h2
   obtain ⟨rfl, rfl⟩ := this
   exact ⟨hr, rfl⟩
  have hflat : ∀ (t : Ty) (l : List AV) (x : t.den) (cs : List Value), aBn t l = some x → jX c w l cs → aS w c.S t x cs := by
   intro t l x cs ha hr
   unfold aBn at ha
   split at ha
   ·rename_i y hp
    cases ha
    obtain ⟨c1, c2, e, r1, r2⟩ := aN7 t l _ _ cs hp hr
    simp only [jX] at r2
    subst r2
    rw [e, List.append_nil]; exact r1
   ·cases ha
  induction t generalizing v cs with
  | pair a b iha ihb =>
   cases v with
   | val t' y => exact hval _ _ _ _ _ ha hr
   | agg vs =>
    cases vs with
    | nil => simp [AV.as] at ha
    | cons v vs =>
     simp only [aMT] at ha
     split at ha
     ·rename_i xa xb h1 h2
      cases ha
      simp only [aI, jX] at hr
      obtain ⟨c1, c2, e, r1, r2⟩ := hr
      exact ⟨⟨c1, c2, e, (iha v xa c1 h1 r1).1, (ihb (.agg vs) xb c2 h2 (by simpa [aI] using r2)).1⟩, rfl⟩
     ·cases ha
   | flat l => simp only [aMU] at ha; exact ⟨hflat _ _ _ _ ha (by simpa [aI] using hr), rfl⟩
   | _ => simp [AV.as] at ha
  | sl t ih =>
   cases v with
   | val t' y => exact hval _ _ _ _ _ ha hr
   | nilS => simp at ha; subst ha; simp only [aI] at hr; exact ⟨⟨none, 0, 0, hr, rfl, Nat.le_refl _, Nat.zero_le _, .inl rfl⟩, rfl⟩
   | full t' xs =>
    have h2 : (if e : t' = t then some (e ▸ xs) else none) = some x := by simpa [AV.as] using ha
    split at h2
    ·rename_i e
     subst e
     cases h2
     simp only [aI] at hr
     obtain ⟨p, n, e, hsl⟩ := hr
     exact ⟨⟨p, n, n, e, hsl⟩, rfl⟩
    ·cases h2
   | own i => simp [rowOf] at ha
   | _ => simp [AV.as] at ha
  | unit =>
   cases v with
   | val t' y => exact hval _ _ _ _ _ ha hr
   | agg vs => cases vs with
    | nil => simp only [aI, jX] at hr; exact ⟨hr, rfl⟩
    | cons v vs => simp [AV.as] at ha
   | flat l => simp only [aIZ] at ha; exact ⟨hflat _ _ _ _ ha (by simpa [aI] using hr), rfl⟩
   | _ => simp [AV.as] at ha
  | rp t ih =>
   cases v with
   | val t' y => exact hval _ _ _ _ _ ha hr
   | roa t' y =>
    have h2 : (if e : t' = t then some (e ▸ y) else none) = some x := by simpa [AV.as] using ha
    split at h2
    ·rename_i e
     subst e
     cases h2
     simp only [aI] at hr
     exact ⟨hr, rfl⟩
    ·cases h2
   | ptr i p =>
    cases p with
    | nil => simp at ha
    | cons s p => simp [AV.as] at ha
   | _ => simp [AV.as] at ha
  | clo g t ih =>
   cases v with
   | val t' y => exact hval _ _ _ _ _ ha hr
   | fn g' l1 l2 =>
    cases l1 with
    | nil =>
     have h2 : g' = g ∧ AV.as [] t (.agg (l2.map fun i => .ptr i [])) = some x := by simpa [AV.as] using ha
     obtain ⟨rfl, ha⟩ := h2
     simp only [aI] at hr
     obtain ⟨_, h2, e⟩ := hr
     cases l2 with
     | nil =>
      have := ih (.agg []) x [] ha rfl
      exact ⟨⟨[], by simpa using e, this.1⟩, rfl⟩
     | cons i l2 =>
      exfalso
      have hp : ∀ a : Ty, AV.as [] a (.ptr i []) = none := fun a => by cases a <;> simp [AV.as]
      cases t <;> first | (simp [AV.as] at ha; done) | (simp [hp] at ha; done)
    | cons i l1 => simp [AV.as] at ha
   | _ => simp [AV.as] at ha
  | _ =>
   cases v with
   | val t' y => exact hval _ _ _ _ _ ha hr
   | _ => simp [AV.as] at ha
theorem aMd {av : AV} {v : Value} {t : Ty} {x : t.den} (hv : aP c w av v) (ha : AV.as [] t av = some x) : cU w c.S t x v := by
 obtain ⟨h1, h2, h3⟩ := aOb hv ha
 obtain ⟨hr, he⟩ := aIF.as_nil t av x _ ha h1
 exact cU.of_cells (fun e => h2 (by rw [← he]; exact e)) (fun e => h3 (by rw [← he]; exact e)) hr
theorem aI7 {ct : Ty} {n : Nat} {place : Nat → Option (Nat × Nat)} (hp : ∀ k, place k = some (k * ct.cells, ct.cells)) : ∀ (ps : List (Nat × AV)) (vs : List (Nat × Value)) (xs : List ct.den) (cells : Array Value) (ys : List ct.den),
  aCD c w ps vs → aMV ct xs ps = some ys → aS w c.S (.arr n ct) xs cells.toList → ∃ cells', Instr.fill place cells vs = some cells' ∧ aS w c.S (.arr n ct) ys cells'.toList
 | _, _, xs, cells, ys, .nil, he, hr => by simp [aMV] at he; subst he; exact ⟨cells, rfl, hr⟩
 | _, _, xs, cells, ys, .cons (k := k) (a := a) (v := v) (ps := ps) (vs := vs) hv r, he, hr => by
  simp only [aMV] at he
  split at he
  ·rename_i x hx
   split at he
   ·rename_i hk
    obtain ⟨hn, css, e, hl, hrep⟩ := hr
    obtain ⟨pre, post, hf, hpl⟩ := nS (t := ct) (css := css) (fun j hj => aS.length _ _ _ (hrep j (by omega) hj)) k (by omega)
    have hvr := (aMd hv hx).cells
    have hvl := aS.length _ _ _ hvr
    have hcl := aS.length _ _ _ (hrep k hk (by omega))
    have hsz : v.cells.size = ct.cells := by rw [← hvl]; simp
    have hstep := aMb (v := v) (e.trans hf) (by rw [hsz, hcl])
    have hnew : aS w c.S (.arr n ct) (xs.set k x) (pre ++ v.cells.toList ++ post) := by
     refine ⟨by simpa using hn, css.set k v.cells.toList, ?_, by simpa using hl, fun i h1 h2 => ?_⟩
     ·have hsp : css = css.take k ++ [css[k]] ++ css.drop (k + 1) := by simp
      have hpre : pre = (css.take k).flatten ∧ post = (css.drop (k + 1)).flatten := by
       have hlen : ((css.take k).flatten).length = k * ct.cells := by
        rw [qB (n := ct.cells) (fun i hi => ?_)]
        ·rw [List.length_take, Nat.min_eq_left (by omega)]
        ·simp at hi; simp only [List.getElem_take]; exact aS.length _ _ _ (hrep i (by omega) (by omega))
       have h3 : css.flatten = (css.take k).flatten ++ css[k] ++ (css.drop (k + 1)).flatten := by
        have h4 := congrArg List.flatten hsp
        simp only [List.flatten_append, List.flatten_cons, List.flatten_nil, List.append_nil] at h4
        exact h4
       rw [h3, List.append_assoc, List.append_assoc] at hf
       obtain ⟨q1, q2⟩ := List.append_inj hf (by rw [hlen, hpl])
       obtain ⟨q3, q4⟩ := List.append_inj q2 rfl
       exact ⟨q1.symm, q4.symm⟩
      rw [hpre.1, hpre.2, List.set_eq_take_append_cons_drop, if_pos (by omega)]
      simp
     ·by_cases hik : k = i
      ·subst hik; simp only [List.getElem_set_self]; exact hvr
      ·simp only [List.getElem_set_ne hik]; exact hrep i (by simpa using h1) (by simpa using h2)
    obtain ⟨cells', h1, h2⟩ := aI7 hp ps vs (xs.set k x) _ ys r he (by rw [hstep]; exact hnew)
    refine ⟨cells', ?_, h2⟩
    rw [Instr.fill, hp k]
    have hcs : cells.size = (pre ++ css[k] ++ post).length := by rw [← hf, ← e]; simp
    have hcond : ¬ (v.cells.size ≠ ct.cells ∨ (k * ct.cells + v.cells.size > cells.size)) := by
     rw [← hpl, hsz, hcs]
     simp
     omega
    dsimp only
    rw [if_neg (by simpa using hcond), ← hpl]
    exact h1
   ·cases he
  ·cases he
end
end Go.Vc
namespace Go.Vc
open Go.RowKit
section
variable {P : Program} {T : Tab} {M : Perm} {w0 : World} {c : Ctx} {h : List Obj} {w : World}
theorem aTA (hT : gZ P T) {t : TypeId} {ps : List (Nat × AV)} {vs : List (Nat × Value)} (hp : aCD c w ps vs) (hc : (aE1 T t ps).1) :
  ∃ u, (Instr.build t vs.toArray).run P w = .ok u w ∧ aP c w (aE1 T t ps).2 u := by
 unfold aE1 at hc ⊢
 cases ht : T t with
 | none => simp [ht] at hc
 | some ct =>
  have hTy := hT _ _ ht
  obtain ⟨d, hd, hb⟩ := hTy.desc
  cases ct with
  | pair a r =>
   simp only [ht] at hc ⊢
   obtain ⟨hok, hpo⟩ := hc
   have hz := tM hTy hok w
   cases d <;> simp only [fN, Bool.false_eq_true] at hb
   rename_i fs
   obtain ⟨h1, h2, h3, h4⟩ := aMc (c := c) (w := w) (T := T) (.pair a r) hok fs.toList 0 hb
   have hzc : (nD (.pair a r)).cells.toList = dJ (.pair a r) := by simp [nD, Ty.isAgg, Value.cells]
   have hplaces : ∃ places : Array (Nat × Nat), (fs.mapM (fun f => do pure (f.offset, ← sizeOf f.type)) : Sem _).run P w = .ok places w ∧ ∀ k t, (Ty.pair a r).flds[k]? = some t → places[k]? = some ((((Ty.pair a r).flds.take k).map Ty.cells).foldr (· + ·) 0, t.cells) := by
    have hlen := aI6 hb
    refine ⟨(fs.toList.zipWith (fun f t => (f.offset, t.cells)) (Ty.pair a r).flds).toArray, ?_, fun k t hk => ?_⟩
    ·have key : ∀ (l : List Field) (ts : List Ty) (acc : Array (Nat × Nat)), l.length = ts.length → (∀ i (h : i < l.length) (h' : i < ts.length), T (l[i]).type = some ts[i]) →
       ((l.mapM (fun f => do pure (f.offset, ← sizeOf f.type)) : Sem (List (Nat × Nat)))).run P w = .ok (l.zipWith (fun f t => (f.offset, t.cells)) ts) w := by
      intro l
      induction l with
      | nil => intro ts acc hl _; cases ts <;> simp at hl ⊢
      | cons f l ih =>
       intro ts acc hl hty
       cases ts with
       | nil => simp at hl
       | cons t ts =>
        have ht0 := hty 0 (by simp) (by simp)
        simp only [List.getElem_cons_zero] at ht0
        have hsz := gS (hT _ _ ht0) w
        have := ih ts acc (by simpa using hl) (fun i hi hi' => by have := hty (i + 1) (by simpa using hi) (by simpa using hi'); simpa using this)
        simp only [List.mapM_cons, Sem.run_bind, hsz, Result.andThen_ok, Sem.run_pure, this, List.zipWith_cons_cons]
     rw [Array.mapM_eq_mapM_toList]
     have := key fs.toList (Ty.pair a r).flds #[] hlen (fun i hi hi' => by
      obtain ⟨f, q1, q2, q3⟩ := aCC (k := i) hb (List.getElem?_eq_getElem hi')
      rw [List.getElem?_eq_getElem hi] at q1
      simp at q1
      rw [Array.getElem_toList, q1]; exact q2)
     show ((fs.toList.mapM (fun f => do pure (f.offset, ← sizeOf f.type)) : Sem (List (Nat × Nat))) >>= fun l => pure l.toArray).run P w = _
     rw [Sem.run_bind, this]
     rfl
    ·obtain ⟨f, q1, q2, q3⟩ := aCC hb hk
     simp only [List.getElem?_toArray, List.getElem?_zipWith, hk, q1]
     simp [q3]
   obtain ⟨places, hpl, hpp⟩ := hplaces
   obtain ⟨cells', hf, hr⟩ := aOe (c := c) (w := w) (place := (places[·]?)) hpp ps vs (sK (.pair a r)) (nD (.pair a r)).cells hp hpo (by rw [hzc]; exact h1) h2 h3 h4
   refine ⟨.agg cells', ?_, aIF hr⟩
   simp only [Instr.build, Sem.run_bind, hz, Result.andThen_ok, aU hd, hpl, hf, Sem.run_pure]
  | unit =>
   simp only [ht] at hc ⊢
   subst hc
   cases hp
   have hz := tM hTy rfl w
   cases d <;> simp only [fN, Bool.false_eq_true] at hb
   rename_i fs
   have hfs : fs = #[] := by
    have := aI6 hb
    simp [Ty.flds] at this
    exact this
   subst hfs
   refine ⟨.agg #[], ?_, ⟨rfl, fun _ => ⟨_, rfl⟩, fun h => by cases h⟩⟩
   simp [Instr.build, hz, aU hd, Result.andThen, Instr.fill, nD, Ty.isAgg, dJ, Value.cells]
  | arr n ct =>
   simp only [ht] at hc ⊢
   cases hs : aMV ct (List.replicate n ct.zero) ps with
   | none => simp [hs] at hc
   | some ys =>
    simp only [hs] at hc ⊢
    obtain ⟨e, hd', he, hpos, _⟩ := yL hTy
    have hz := tM hTy hc w
    obtain ⟨cells', hf, hr⟩ := aI7 (c := c) (w := w) (n := n) (place := fun i => some (i * ct.cells, ct.cells)) (fun _ => rfl) ps vs (List.replicate n ct.zero) (nD (.arr n ct)).cells ys hp hs (by
     have := gM w c.S (.arr n ct) hc
     have e1 : (nD (.arr n ct)).cells.toList = dJ (.arr n ct) := by simp [nD, Ty.isAgg, Value.cells]
     rw [e1]; exact this)
    refine ⟨.agg cells', ?_, ⟨hr, fun _ => ⟨_, rfl⟩, fun h => by cases h⟩⟩
    simp [Instr.build, hz, aU hd', gS (hT _ _ he), Result.andThen, hf]
  | _ => simp [ht] at hc
theorem xG (zs : List Value) (n : Nat) (hz : 0 < zs.length) : ((Array.range (n * zs.length)).map (fun i => (zs.toArray)[i % zs.toArray.size]!)).toList = (List.replicate n zs).flatten := by
 simp only [Array.toList_map, Array.toList_range, List.size_toArray]
 induction n with
 | zero => simp
 | succ n ih =>
  rw [Nat.add_mul, Nat.one_mul, List.range_add, List.map_append, ih, List.replicate_succ']
  simp only [List.flatten_append, List.flatten_cons, List.flatten_nil, List.append_nil]
  congr 1
  apply List.ext_getElem
  ·simp
  ·intro i h1 h2
   simp only [List.length_map, List.length_range] at h1
   simp [Nat.mod_eq_of_lt, h1, Nat.add_comm]
theorem Good.alloc (hg : Good M w0 c h w) (o : Go.Obj) : Good M w0 (c.upto w.heap.size (w.heap.size + 1)) h (w.alloc o) ∧ dN c w (c.upto w.heap.size (w.heap.size + 1)) (w.alloc o) := by
 have hk : fM nothing w (w.alloc o) := fM.alloc nothing w o
 have h1 := hg.call hk
 have h2 := qG hg hk
 have e : (w.alloc o).heap.size = w.heap.size + 1 := by simp
 rw [e] at h1 h2
 exact ⟨h1, h2⟩
theorem aK1 (hT : gZ P T) (hg : Good M w0 c h w) {t : TypeId} {n : Nat} {ps : List (Nat × AV)} {vs : List (Nat × Value)} (hp : aCD c w ps vs) (hc : (tO T t n ps).1) :
  ∃ u w' c', (Instr.buildSlice t n vs.toArray).run P w = .ok u w' ∧ aCA P M w0 h c w (tO T t n ps).2 u w' c' := by
 unfold tO at hc ⊢
 cases ht : T t with
 | none => simp [ht] at hc
 | some ct =>
  cases ct with
  | sl ct =>
   simp only [ht] at hc ⊢
   cases hs : aMV ct (List.replicate n ct.zero) ps with
   | none => simp [hs] at hc
   | some ys =>
    simp only [hs] at hc ⊢
    obtain ⟨hok, hn1, hn2⟩ := hc
    obtain ⟨e, hd, he, hpos⟩ := gG (hT _ _ ht)
    have hTe := hT _ _ he
    have hz := tM hTe hok w
    have hzc : (nD ct).cells.toList = dJ ct := by
     have := (aCw w c.S ct hok).cells
     unfold nD
     split
     ·simp [Value.cells]
     ·have h1 : (dJ ct).length = 1 := by
       rw [aS.length _ _ _ (gM w c.S ct hok)]
       rename_i ha
       cases ct <;> simp_all [Ty.isAgg, Ty.cells]
      match hzz : dJ ct, h1 with
      | [v], _ =>
       have hone := aS.one ct _ _ (gM w c.S ct hok) v (by rw [hzz]; simp)
       simp only [List.headD_cons]
       cases v <;> first | rfl | exact hone.elim
    have hzl : (dJ ct).length = ct.cells := aS.length _ _ _ (gM w c.S ct hok)
    have hza : (nD ct).cells = (dJ ct).toArray := by rw [← hzc]
    have hcells : ((Array.range (n * ct.cells)).map (fun i => (dJ ct).toArray[i % (dJ ct).toArray.size]!)).toList = (List.replicate n (dJ ct)).flatten := by
     rw [← hzl]; exact xG _ n (by omega)
    obtain ⟨cells', hf, hr⟩ := aI7 (c := c) (w := w) (n := n) (place := fun i => some (i * ct.cells, ct.cells)) (fun _ => rfl) ps vs (List.replicate n ct.zero) ((Array.range (n * ct.cells)).map (fun i => (dJ ct).toArray[i % (dJ ct).toArray.size]!)) ys hp hs (by
     rw [hcells]
     exact gM w c.S (.arr n ct) hok)
    obtain ⟨g1, g2⟩ := hg.alloc (.cells cells' e (0, 0))
    refine ⟨.slice (some ⟨w.heap.size, 0, none⟩) n n, w.alloc (.cells cells' e (0, 0)), _, ?_, g2, rfl, g1, fM.alloc nothing w _, fun b hb => hb.imp id And.left, ?_⟩
    ·have hle : ¬ (n * ct.cells > 2 ^ 24) := by omega
     by_cases h0 : n * ct.cells = 0
     ·have hn0 : n = 0 := by
       rcases Nat.mul_eq_zero.1 h0 with h | h
       ·exact h
       ·omega
      subst hn0
      have e0 : (Array.range (0 * ct.cells)).map (fun i => (dJ ct).toArray[i % (dJ ct).toArray.size]!) = #[] := by simp
      rw [e0] at hf
      have hle : ¬ (0 * ct.cells > 2 ^ 24) := by omega
      have e1 : (Array.range (0 * ct.cells)).map (fun x => (#[] : Array Value)[x % (#[] : Array Value).size]!) = #[] := by simp
      simp only [Instr.buildSlice, Sem.run_bind, aU hd, Result.andThen_ok, gS hTe, hle, if_false, Nat.zero_mul, if_true, Sem.run_ite, Sem.run_pure]
      simp only [Nat.zero_mul] at e1
      rw [e1, hf]
      rfl
     ·rw [← hza] at hf
      simp only [Instr.buildSlice, Sem.run_bind, aU hd, Result.andThen_ok, gS hTe, hle, if_false, h0, hz, Sem.run_ite, Sem.run_pure, hf]
      rfl
    ·obtain ⟨hyn, css, hcs, hl, hrep⟩ := hr
     refine ⟨⟨some ⟨w.heap.size, 0, none⟩, n, rfl, hyn, Nat.le_refl _, hn2, .inr ⟨w.heap.size, 0, rfl, .inr ⟨Nat.le_refl _, Nat.lt_succ_self _⟩, fun i hi => ?_⟩⟩, (fun h => by cases h), (fun _ cs => by simp)⟩
     refine ⟨css[i], aS.keep g2.le.S g2.same _ _ _ (hrep i hi (by omega)), ?_⟩
     obtain ⟨pre, post, hf', hpl⟩ := nS (t := ct) (css := css) (fun j hj => aS.length _ _ _ (hrep j (by omega) hj)) i (by omega)
     rw [Nat.zero_add, ← hpl]
     refine rQ (cells := cells') (e := e) (fz := (0, 0)) ?_ (hcs.trans hf')
     show (w.heap.push _)[w.heap.size]? = _
     rw [Array.getElem?_push_size]
  | _ => simp [ht] at hc
theorem aF6 {mx : Bool} {x y : AV} {v u : Value} (hv : aP c w x v) (hu : aP c w y u) (hc : (mm2 mx x y).1) :
  ∃ r, ((if mx then Builtin.max2 v u else Builtin.min2 v u)).run P w = .ok r w ∧ aP c w (mm2 mx x y).2 r := by
 cases x with
 | val t1 a =>
  cases t1 with
  | i k =>
   cases y with
   | val t2 b =>
    cases t2 with
    | i k' =>
     obtain ⟨rfl, hk, ha⟩ := aDQ hv
     obtain ⟨rfl, hk', hb⟩ := aDQ hu
     simp only [mm2] at hc ⊢
     split at hc
     ·rename_i e
      subst e
      simp only [if_true]
      cases mx
      ·refine ⟨_, by simp only [Builtin.min2]; rfl, ?_⟩
       simp only [Bool.false_eq_true, if_false]
       rw [show (if b < a then b else a) = min a b from minI a b]
       refine vE hk ?_
       rcases minI_or a b with e | e <;> rw [e] <;> assumption
      ·refine ⟨_, by simp only [Builtin.max2]; rfl, ?_⟩
       simp only [if_true]
       rw [show (if b > a then b else a) = max a b from maxI a b]
       refine vE hk ?_
       rcases maxI_or a b with e | e <;> rw [e] <;> assumption
     ·exact hc.elim
    | _ => exact hc.elim
   | _ => exact hc.elim
  | u k =>
   cases y with
   | val t2 b =>
    cases t2 with
    | u k' =>
     obtain ⟨rfl, hk, ha⟩ := aCv hv
     obtain ⟨rfl, hk', hb⟩ := aCv hu
     simp only [mm2] at hc ⊢
     split at hc
     ·rename_i e
      subst e
      simp only [if_true]
      cases mx
      ·refine ⟨_, by simp only [Builtin.min2]; rfl, ?_⟩
       simp only [Bool.false_eq_true, if_false]
       rw [show (if (b : Int) < a then (b : Int) else a) = ((min a b : Nat) : Int) from minN a b]
       refine aCm hk ?_
       rcases minN_or a b with e | e <;> rw [e] <;> assumption
      ·refine ⟨_, by simp only [Builtin.max2]; rfl, ?_⟩
       simp only [if_true]
       rw [show (if (b : Int) > a then (b : Int) else a) = ((max a b : Nat) : Int) from maxN a b]
       refine aCm hk ?_
       rcases maxN_or a b with e | e <;> rw [e] <;> assumption
     ·exact hc.elim
    | _ => exact hc.elim
   | _ => exact hc.elim
  | _ => exact hc.elim
 | _ => exact hc.elim
where
 minI (a b : Int) : (if b < a then b else a) = min a b := by omega
 maxI (a b : Int) : (if b > a then b else a) = max a b := by omega
 minI_or (a b : Int) : min a b = a ∨ min a b = b := by omega
 maxI_or (a b : Int) : max a b = a ∨ max a b = b := by omega
 minN (a b : Nat) : (if (b : Int) < a then (b : Int) else a) = ((min a b : Nat) : Int) := by omega
 maxN (a b : Nat) : (if (b : Int) > a then (b : Int) else a) = ((max a b : Nat) : Int) := by omega
 minN_or (a b : Nat) : min a b = a ∨ min a b = b := by omega
 maxN_or (a b : Nat) : max a b = a ∨ max a b = b := by omega
theorem aRd {t : TypeId} {x : AV} {v : Value} (hv : aP c w x v) : aP c w (aN8 T t x) v := by
 cases x with
 | flat l =>
  simp only [aN8]
  split
  ·split
   ·rename_i ct _ x ha
    exact aP.ofV (aMd hv ha)
   ·exact hv
  ·exact hv
 | _ => exact hv
end
end Go.Vc
namespace Go.Vc
open Go.RowKit
section
variable {P : Program} {T : Tab} {M : Perm} {w0 : World} {c : Ctx} {h : List Obj} {w : World}
theorem aMZ {t : TypeId} {k : IntKind} (hTy : yS P T t (.u k)) : P.underlying t = some (.int k) := by
 obtain ⟨d, hd, hb⟩ := hTy.desc
 cases d <;> simp [fN] at hb
 obtain ⟨rfl, _⟩ := hb
 exact hd
noncomputable def aTB (T : Tab) (h : List Obj) (s d : TypeId) (x : AV) : Prop × AV :=
 match T d, x with
 | some (.sl (.u .u8)), .val .str b => (T s = some .str, .val (.sl (.u .u8)) b)
 | some .str, x => match T s with
  | some (.sl (.u .u8)) => match x with
   | .sub k sz off n => match h[k]? with
    | some (.box _ (.val (.arr m (.u .u8)) xs)) => (sz = 1 ∧ off + n ≤ m, .val .str ((xs.drop off).take n))
    | _ => (False, .junk)
   | x => match AV.as h (.sl (.u .u8)) x with
    | some b => (True, .val .str b)
    | none => (False, .junk)
  | _ => aF4 T s d x
 | _, x => aF4 T s d x
theorem aOf (hT : gZ P T) (hg : Good M w0 c h w) {s d : TypeId} {b : List Nat} {v : Value} (hs : T s = some .str) (hd : T d = some (.sl (.u .u8))) (hv : aP c w (.val .str b) v) :
  ∃ u w' c', (convert s d v).run P w = .ok u w' ∧ aCA P M w0 h c w (.val (.sl (.u .u8)) b) u w' c' := by
 obtain ⟨st, rfl, rfl, hm⟩ := aGU hv
 obtain ⟨e, hd', he, _⟩ := gG (hT _ _ hd)
 have hrun := run_bytes_of_string (P := P) w s d e st (sR (hT _ _ hs)) hd' (aMZ (hT _ _ he))
 obtain ⟨w', hw'⟩ : ∃ w', w' = w.drew.alloc (.cells (bytesRow st (grownCap w st.size 0 e)) e ((bytesRow st (grownCap w st.size 0 e)).size, (bytesRow st (grownCap w st.size 0 e)).size + 1)) := ⟨_, rfl⟩
 rw [← hw'] at hrun
 have hheap : w'.heap = w.heap.push (.cells (bytesRow st (grownCap w st.size 0 e)) e ((bytesRow st (grownCap w st.size 0 e)).size, (bytesRow st (grownCap w st.size 0 e)).size + 1)) := by rw [hw']; rfl
 have hk : fM nothing w w' := ⟨by rw [hw']; rfl, by rw [hw']; rfl, by rw [hw']; rfl, by rw [hheap]; simp, fun b hb _ => by rw [hheap]; simp [Array.getElem?_push, Nat.ne_of_lt hb]⟩
 have g1 := hg.call hk
 have g2 := qG hg hk
 refine ⟨_, w', _, hrun, g2, rfl, g1, hk, fun b hb => hb.imp id And.left, ⟨⟨_, _, _, rfl, ?_, grownCap_ge _ _ _ _, grownCap_le_maxLen _ _ _ _ hm, .inr ⟨w.heap.size, 0, rfl, .inr ⟨Nat.le_refl _, by rw [hheap]; simp⟩, fun i hi => ?_⟩⟩, (fun h => by cases h), (fun _ cs => by simp)⟩⟩
 ·exact nF st
 ·have hi' : i < st.data.size := by rw [nF] at hi; exact hi
  have hsz : st.data.size = st.size := rfl
  have hge := grownCap_ge w st.size 0 e
  refine ⟨[.int .u8 (st.data[i].toNat : Int)], ⟨?_, rfl, ?_⟩, ?_⟩
  ·simp [bE]
  ·have : (bE st)[i] = st.data[i].toNat := by simp [bE]
   rw [this]
   have := st.data[i].toNat_lt
   simp only [IntKind.max, IntKind.signed, IntKind.bits]
   simp
   omega
  ·have hc := rQ (w := w') (b := w.heap.size) (cells := bytesRow st (grownCap w st.size 0 e)) (e := e) (fz := ((bytesRow st (grownCap w st.size 0 e)).size, (bytesRow st (grownCap w st.size 0 e)).size + 1)) (pre := (bytesRow st (grownCap w st.size 0 e)).toList.take i) (ds := [.int .u8 (st.data[i].toNat : Int)]) (post := (bytesRow st (grownCap w st.size 0 e)).toList.drop (i + 1)) (by rw [hheap]; simp) (by
    have hlt : i < (bytesRow st (grownCap w st.size 0 e)).toList.length := by simp [bytesRow]; omega
    have hg : (bytesRow st (grownCap w st.size 0 e)).toList[i] = .int .u8 (st.data[i].toNat : Int) := by
     simp only [bytesRow, Array.toList_append, Array.toList_map, Array.toList_replicate]
     rw [List.getElem_append_left (by simpa using hi')]
     simp
    rw [← hg, List.append_assoc, List.singleton_append, List.getElem_cons_drop, List.take_append_drop])
   have hl : ((bytesRow st (grownCap w st.size 0 e)).toList.take i).length = i := by simp [bytesRow]; omega
   rw [hl] at hc
   simpa [Ty.cells] using hc
theorem aA0 {s d e : TypeId} {b : List Nat} {bl off cap : Nat} (hs' : P.underlying s = some (.slice e)) (he' : P.underlying e = some (.int .u8)) (hd' : P.underlying d = some .string) (hm : b.length ≤ maxLen)
  (hb : ∀ i (hi : i < b.length), b[i] < 256 ∧ w.cell? ⟨bl, off + i, none⟩ = some (.int .u8 (b[i] : Int))) :
  ∃ u, (convert s d (.slice (some ⟨bl, off, none⟩) b.length cap)).run P w = .ok u w ∧ aP c w (.val .str b) u := by
 have hl : (b.map UInt8.ofNat).length = b.length := by simp
 have hback : ∀ i (hi : i < b.length), (UInt8.ofNat b[i]).toNat = b[i] := fun i hi => by
  have := (hb i hi).1
  simp [UInt8.toNat_ofNat']
  omega
 have hrun := run_convert_bytes_back (P := P) w s d e ⟨bl, off, none⟩ cap (b.map UInt8.ofNat) hs' he' hd' (fun j hj => by
  have hj' : j < b.length := by simpa using hj
  have h2 := (hb j hj').2
  rw [List.getElem_map, hback j hj']
  simp only [Addr.add]
  split
  ·rename_i h0; subst h0; simpa using h2
  ·exact h2)
 rw [hl] at hrun
 refine ⟨_, hrun, ⟨⟨⟨(b.map UInt8.ofNat).toArray⟩, rfl, ?_, ?_⟩, (fun h => by cases h), (fun _ cs => by simp)⟩⟩
 ·apply List.ext_getElem
  ·simp [bE]
  ·intro i h1 h2
   have := hback i h2
   simpa [bE] using this
 ·show (b.map UInt8.ofNat).toArray.size ≤ maxLen
  simp
  exact hm
theorem aM0 (hT : gZ P T) (hg : Good M w0 c h w) {s d : TypeId} {k off n m q : Nat} {xs : List Nat} {v : Value} (hs : T s = some (.sl (.u .u8))) (hd : T d = some .str) (hv : aP c w (.sub k 1 off n) v)
  (ho : h[k]? = some (.box q (.val (.arr m (.u .u8)) xs))) (hle : off + n ≤ m) :
  ∃ u, (convert s d v).run P w = .ok u w ∧ aP c w (.val .str ((xs.drop off).take n)) u := by
 obtain ⟨_, hn, b, cap, hb, rfl⟩ := aIE hv
 obtain ⟨b', cells, e2, hhd, hheap, _, hcl⟩ := hg.objs k _ ho
 rw [hhd] at hb
 simp only [aQ, Option.some.injEq] at hb
 subst hb
 obtain ⟨e, hs', he, _⟩ := gG (hT _ _ hs)
 obtain ⟨hlen, css, hcs, hcl2, hrep⟩ := hcl
 have hlen : xs.length = m := hlen
 have hl : ((xs.drop off).take n).length = n := by simp; omega
 have key := aA0 (P := P) (w := w) (c := c) (b := (xs.drop off).take n) (bl := b') (off := off * 1) (cap := cap) hs' (aMZ (hT _ _ he)) (sR (hT _ _ hd)) (by rw [hl]; exact hn) (fun i hi => by
  rw [hl] at hi
  have hx : off + i < xs.length := by omega
  have hx' : off + i < css.length := by omega
  obtain ⟨h1, _, h3⟩ := hrep (off + i) hx hx'
  have hg2 : ((xs.drop off).take n)[i]'(by rw [hl]; exact hi) = xs[off + i] := by simp
  rw [hg2]
  refine ⟨?_, ?_⟩
  ·simp only [IntKind.max, IntKind.signed, IntKind.bits] at h3
   simp at h3
   omega
  ·obtain ⟨pre, post, hf, hpl⟩ := nS (t := .u .u8) (css := css) (fun j hj => aS.length _ _ _ (hrep j (by omega) hj)) (off + i) hx'
   have hc := rQ (w := w) (b := b') (cells := cells) (e := e2) (fz := (0, 0)) hheap (hcs.trans hf)
   have := hc 0 (.int .u8 (xs[off + i] : Int)) (by rw [h1]; rfl)
   rw [hpl] at this
   simpa [Ty.cells, Nat.mul_one] using this)
 rw [hl] at key
 exact key
theorem aK2 (hT : gZ P T) (hg : Good M w0 c h w) {s d : TypeId} {x : AV} {b : List Nat} {v : Value} (hs : T s = some (.sl (.u .u8))) (hd : T d = some .str) (hv : aP c w x v) (ha : AV.as h (.sl (.u .u8)) x = some b) :
  ∃ u, (convert s d v).run P w = .ok u w ∧ aP c w (.val .str b) u := by
 obtain ⟨a, len, cap, rfl, hlen, hle, hm, hor⟩ := yK (c := ⟨aAc c h, c.hd, c.n⟩) (aDz hg hv ha)
 obtain ⟨e, hs', he, _⟩ := gG (hT _ _ hs)
 have hd' := sR (hT _ _ hd)
 have he' := aMZ (hT _ _ he)
 subst hlen
 rcases hor with rfl | ⟨bl, off, rfl, _, hcell⟩
 ·cases a with
  | none => exact ⟨_, run_convert_bytes_nil w s e hs' he' _ _ d hd', ⟨⟨ByteArray.empty, rfl, rfl, Nat.zero_le _⟩, (fun h => by cases h), (fun _ cs => by simp)⟩⟩
  | some a => exact ⟨_, run_convert_bytes_back w s d e a cap [] hs' he' hd' (fun j hj => by simp at hj), ⟨⟨⟨#[]⟩, rfl, rfl, Nat.zero_le _⟩, (fun h => by cases h), (fun _ cs => by simp)⟩⟩
 ·have hb : ∀ i (hi : i < b.length), b[i] < 256 ∧ w.cell? ⟨bl, off + i, none⟩ = some (.int .u8 (b[i] : Int)) := fun i hi => by
   obtain ⟨ds, ⟨rfl, _, hmx⟩, hc⟩ := hcell i hi
   refine ⟨?_, ?_⟩
   ·simp only [IntKind.max, IntKind.signed, IntKind.bits] at hmx
    simp at hmx
    omega
   ·have := hc 0 (.int .u8 (b[i] : Int)) rfl
    simpa [Ty.cells] using this
  exact aA0 hs' he' hd' (Nat.le_trans hle hm) hb
end
end Go.Vc
namespace Go.Vc
open Go.RowKit
def Ty.key1 : Ty → Bool
 | .bool => true
 | .u _ => true
 | .i _ => true
 | .str => true
 | _ => false
def Ty.keyB : Ty → Bool
 | .arr _ t => t.key1
 | t => t.key1
def aBs {β : Type} (c : Ty) : List (c.den × β) → c.den → Option β
 | [], _ => none
 | (k, v) :: r, x => if c.eqb x k = true then some v else aBs c r x
def aEn {β : Type} (c : Ty) : List (c.den × β) → c.den → β → List (c.den × β)
 | [], x, y => [(x, y)]
 | (k, v) :: r, x, y => if c.eqb x k = true then (k, y) :: r else (k, v) :: aEn c r x y
theorem aE2 {c : Ty} (h : c.key1 = true) : c.cmpB = true ∧ c.deep = 0 ∧ c.isAgg = false ∧ c.cells = 1 := by
 cases c <;> simp_all [Ty.key1, Ty.cmpB, Ty.deep, Ty.isAgg, Ty.cells]
theorem aOg {c : Ty} (h : c.keyB = true) : c.cmpB = true ∧ c.deep ≤ 100 := by
 cases c <;> first | (simp_all [Ty.keyB, Ty.key1, Ty.cmpB, Ty.deep]; done) | skip
 rename_i n t
 have := aE2 (c := t) h
 simp [Ty.cmpB, Ty.deep, this.1, this.2.1]
theorem aRe {w w' : World} {S S' : Nat → Prop} : ∀ {c : Ty} {x y : c.den} {v u : Value}, c.key1 = true → aS w S c x [v] → aS w' S' c y [u] → (c.eqb x y = true ↔ v = u)
 | .bool, x, y, v, u, _, hx, hy => by
  simp only [aS, List.cons.injEq, and_true] at hx hy; subst hx; subst hy; simp [Ty.eqb]
 | .u k, x, y, v, u, _, hx, hy => by
  obtain ⟨hx, _⟩ := hx
  obtain ⟨hy, _⟩ := hy
  simp only [List.cons.injEq, and_true] at hx hy; subst hx; subst hy; simp [Ty.eqb, Int.natCast_inj]
 | .i k, x, y, v, u, _, hx, hy => by
  obtain ⟨hx, _⟩ := hx
  obtain ⟨hy, _⟩ := hy
  simp only [List.cons.injEq, and_true] at hx hy; subst hx; subst hy; simp [Ty.eqb]
 | .str, x, y, v, u, _, hx, hy => by
  obtain ⟨s, hx, e1, _⟩ := hx
  obtain ⟨t, hy, e2, _⟩ := hy
  simp only [List.cons.injEq, and_true] at hx hy
  subst hx; subst hy; subst e1; subst e2
  simp only [Ty.eqb, decide_eq_true_eq, Value.string.injEq]
  exact ⟨aIX, fun h => by rw [h]⟩
theorem aI8 {w : World} {S : Nat → Prop} {c : Ty} {x : c.den} {cs : List Value} (h1 : c.cells = 1) (h : aS w S c x cs) : ∃ v, cs = [v] := by
 have hl := (aS.length _ _ _ h).trans h1
 match cs, hl with
 | [v], _ => exact ⟨v, rfl⟩
theorem aRf {t : Ty} {w w' : World} {S S' : Nat → Prop} (ht : t.key1 = true) : ∀ (X Y : List t.den) (css css' : List (List Value)), css.length = X.length → css'.length = Y.length → X.length = Y.length →
  (∀ i (h : i < X.length) (h' : i < css.length), aS w S t X[i] css[i]) → (∀ i (h : i < Y.length) (h' : i < css'.length), aS w' S' t Y[i] css'[i]) → ((List.zipWith t.eqb X Y).all id = true ↔ css.flatten = css'.flatten)
 | [], [], [], [], _, _, _, _, _ => by simp
 | x :: X, y :: Y, a :: css, b :: css', h1, h2, h3, hx, hy => by
  have r0 := hx 0 (by simp) (by simp)
  have r0' := hy 0 (by simp) (by simp)
  simp only [List.getElem_cons_zero] at r0 r0'
  obtain ⟨v, rfl⟩ := aI8 (aE2 ht).2.2.2 r0
  obtain ⟨u, rfl⟩ := aI8 (aE2 ht).2.2.2 r0'
  have rec_ := aRf ht X Y css css' (by simpa using h1) (by simpa using h2) (by simpa using h3) (fun i h h' => by have := hx (i + 1) (by simpa using h) (by simpa using h'); simpa using this) (fun i h h' => by have := hy (i + 1) (by simpa using h) (by simpa using h'); simpa using this)
  simp only [List.zipWith_cons_cons, List.all_cons, id, Bool.and_eq_true, rec_, aRe ht r0 r0', List.flatten_cons, List.cons_append, List.nil_append, List.cons.injEq]
theorem aTC {w w' : World} {S S' : Nat → Prop} {c : Ty} {x y : c.den} {v u : Value} (hc : c.keyB = true) (hx : cU w S c x v) (hy : cU w' S' c y u) : c.eqb x y = true ↔ v = u := by
 unfold cU at hx hy
 cases c <;> first | (simp [Ty.keyB, Ty.key1] at hc; done) | skip
 case arr n t =>
  simp only [Ty.isAgg, if_true] at hx hy
  obtain ⟨⟨cs⟩, rfl, hx⟩ := hx
  obtain ⟨⟨ds⟩, rfl, hy⟩ := hy
  obtain ⟨h1, css, h2, h3, h4⟩ := hx
  obtain ⟨h1', css', h2', h3', h4'⟩ := hy
  simp only at h2 h2'
  have := aRf (t := t) hc x y css css' h3 h3' (h1.trans h1'.symm) (fun i h h' => h4 i h h') (fun i h h' => h4' i h h')
  simp only [Ty.eqb, this]
  subst h2; subst h2'
  simp
 all_goals (simp only [Ty.isAgg, Bool.false_eq_true, if_false] at hx hy; exact aRe hc hx hy)
section
variable {P : Program} {T : Tab}
theorem aTD (em : Bool) (n : Nat) {t : TypeId} {c : Ty} (hT : yS P T t c) (hc : c.key1 = true) (v : Value) (w : World) : (Instr.checkKey em (n + 1) t v).run P w = .ok () w := by
 obtain ⟨d, hd, hb⟩ := hT.desc
 unfold Instr.checkKey
 simp only [Sem.run_bind, aU hd, Result.andThen_ok]
 cases c <;> first | (simp [Ty.key1] at hc; done) | skip
 all_goals (cases d <;> first | (simp [fN] at hb; done) | skip)
 all_goals (cases v <;> rfl)
def sL (em : Bool) (d : Nat) (e : TypeId) (n : Nat) (xs : Array Value) : List Nat → Sem Unit
 | [] => pure ()
 | i :: r => do
  let a ← part e xs (i * n)
  Instr.checkKey em d e a
  sL em d e n xs r
theorem aHN (em : Bool) (d : Nat) (t e : TypeId) (len n : Nat) (xs : Array Value) (w : World) (ht : P.underlying t = some (.array len e)) (hn : ∀ w, (sizeOf e).run P w = .ok n w) :
  (Instr.checkKey em (d + 1) t (.agg xs)).run P w = (sL em d e n xs (List.range' 0 len)).run P w := by
 simp only [Instr.checkKey, Sem.run_bind, aU ht, Result.andThen_ok]
 simp only [Std.Legacy.Range.forIn_eq_forIn_range', Std.Legacy.Range.size]
 simp only [Nat.sub_zero, Nat.add_sub_cancel, Nat.div_one]
 generalize List.range' 0 len = is
 clear ht
 induction is generalizing w with
 | nil => simp [sL]
 | cons i r ih =>
  simp only [List.forIn_cons, sL, Sem.run_bind, hn, Result.andThen_ok]
  generalize (part e xs (i * n)).run P w = r1
  cases r1 with
  | ok a w1 =>
   simp only [Result.andThen_ok]
   generalize (Instr.checkKey em d e a).run P w1 = r2
   cases r2 with
   | ok b w2 => simp only [Result.andThen_ok, Sem.run_pure]; exact ih w2
   | halt x w2 => simp [Result.andThen]
  | halt x w1 => simp [Result.andThen]
theorem aCE (em : Bool) (d : Nat) {w : World} {S : Nat → Prop} {e : TypeId} {t : Ty} (hT : yS P T e t) (ht : t.key1 = true) {xs : Array Value} : ∀ (k i : Nat) (X : List t.den) (pre : List Value) (css : List (List Value)) (w' : World),
   X.length = k → css.length = k → (∀ j (h : j < X.length) (h' : j < css.length), aS w S t X[j] css[j]) → xs.toList = pre ++ css.flatten → pre.length = i * t.cells → (sL em (d + 1) e t.cells xs (List.range' i k)).run P w' = .ok () w'
 | 0, i, X, _, _, w', hX, _, _, _, _ => by simp [sL]
 | k + 1, i, X, pre, css, w', hX, hc, hr, hx, hp => by
  match X, css, hX, hc with
  | x :: X, c :: cs, hX, hc =>
   have r0 := hr 0 (by simp) (by simp)
   simp only [List.getElem_cons_zero] at r0
   obtain ⟨va, e1, q1⟩ := yT hT (cs := xs) (pre := pre) (ds := c) (post := cs.flatten) (by rw [hx]; simp) r0 w'
   rw [hp] at e1
   have l1 := aS.length _ _ _ r0
   have rec_ := aCE em d hT ht (xs := xs) k (i + 1) X (pre ++ c) cs w' (by simpa using hX) (by simpa using hc)
    (fun j h h' => by have := hr (j + 1) (by simpa using h) (by simpa using h'); simpa using this) (by rw [hx]; simp) (by simp [hp, l1, Nat.add_mul])
   simp only [List.range'_succ, sL, Sem.run_bind, e1, Result.andThen_ok, aTD em d hT ht, rec_]
theorem aDT (em : Bool) (n : Nat) (hT : gZ P T) {t : TypeId} {c : Ty} (ht : T t = some c) (hc : c.keyB = true) {w : World} {S : Nat → Prop} {x : c.den} {v : Value} (hx : cU w S c x v) (w' : World) : (Instr.checkKey em (n + 2) t v).run P w' = .ok () w' := by
 cases c <;> first | (simp [Ty.keyB, Ty.key1] at hc; done) | exact aTD em (n + 1) (hT _ _ ht) hc v w' | skip
 rename_i m q
 obtain ⟨d, hd, hb⟩ := (hT _ _ ht).desc
 cases d <;> simp [fN] at hb
 rename_i len e
 obtain ⟨⟨⟨rfl, hb2⟩, hb3⟩, hb4⟩ := hb
 unfold cU at hx
 simp only [Ty.isAgg, if_true] at hx
 obtain ⟨cs, rfl, hx⟩ := hx
 obtain ⟨h1, css, h2, h3, h4⟩ := hx
 rw [aHN em (n + 1) t e m q.cells cs w' hd (gS (hT _ _ hb2))]
 exact aCE em n (hT _ _ hb2) hc m 0 x [] css w' h1 (h3.trans h1) (fun j h h' => h4 j h h') (by simpa using h2) (by simp)
def aA1 (c : Ty) {β : Type} (x : c.den) : List (c.den × β) → List MapEntry → Nat → Option (Nat × Value)
 | (k, _) :: m, e :: es, i => if c.eqb x k = true then some (i, e.val) else aA1 c x m es (i + 1)
 | _, _, _ => none
theorem aF7 {c : Ty} {β : Type} {w : World} {S : Nat → Prop} {x : c.den} : ∀ (m : List (c.den × β)) (es : List MapEntry) (i : Nat), es.length = m.length →
  match aBs c m x with
  | some y => ∃ j e k, aA1 c x m es i = some (i + j, e.val) ∧ es[j]? = some e ∧ m[j]? = some (k, y) ∧ c.eqb x k = true ∧ ∀ y', aEn c m x y' = m.set j (k, y')
  | none => aA1 c x m es i = none ∧ ∀ y', aEn c m x y' = m ++ [(x, y')]
 | [], [], i, _ => by simp [aBs, aA1, aEn]
 | (k, y) :: m, e :: es, i, hl => by
  have rec_ := aF7 (w := w) (S := S) (x := x) m es (i + 1) (by simpa using hl)
  simp only [aBs, aA1, aEn]
  by_cases hq : c.eqb x k = true
  ·simp only [hq, if_true]
   exact ⟨0, e, k, rfl, rfl, rfl, hq, fun y' => rfl⟩
  ·simp only [hq, if_false]
   split at rec_
   ·rename_i y1 hy
    obtain ⟨j, e1, k1, r1, r2, r3, r4, r5⟩ := rec_
    simp only [hy]
    exact ⟨j + 1, e1, k1, by simp [hq, r1]; omega, by simpa using r2, by simpa using r3, r4, fun y' => by simp [hq, r5]⟩
   ·rename_i hy
    simp only [hy]
    exact ⟨by simp [hq, rec_.1], fun y' => by simp [hq, rec_.2]⟩
theorem aCF (hT : gZ P T) {t : TypeId} {c : Ty} (ht : T t = some c) (hc : c.keyB = true) {β : Type} {w : World} {S : Nat → Prop} {x : c.den} {v : Value} (hx : cU w S c x v) (w' : World) : ∀ (m : List (c.den × β)) (es : List MapEntry) (i : Nat), es.length = m.length →
  (∀ j (h : j < m.length) (h' : j < es.length), cU w S c m[j].1 es[j].key) → (Instr.findAsking t v es i).run P w' = .ok (aA1 c x m es i) w'
 | [], [], i, _, _ => by simp [Instr.findAsking, aA1]
 | (k, y) :: m, e :: es, i, hl, hr => by
  have h0 := hr 0 (by simp) (by simp)
  simp only [List.getElem_cons_zero] at h0
  have hq := aBm (P := P) hT w' ht (aOg hc).1 (aOg hc).2 hx h0
  have rec_ := aCF hT ht hc hx w' m es (i + 1) (by simpa using hl) (fun j h h' => by have := hr (j + 1) (by simpa using h) (by simpa using h'); simpa using this)
  simp only [Instr.findAsking, Sem.run_bind, hq, Result.andThen_ok, aA1, Sem.run_ite, rec_, Sem.run_pure]
  split <;> rfl
theorem aGY {t : TypeId} {c : Ty} (hT : yS P T t c) (hc : c.key1 = true) {d : TypeDesc} (hd : P.underlying t = some d) {β : Type} {w : World} {S : Nat → Prop} {x : c.den} {v : Value} (hx : cU w S c x v) : ∀ (m : List (c.den × β)) (es : List MapEntry) (i : Nat), es.length = m.length →
  (∀ j (h : j < m.length) (h' : j < es.length), cU w S c m[j].1 es[j].key) → Instr.findNow d v es i = some (aA1 c x m es i)
 | [], [], i, _, _ => by simp [Instr.findNow, aA1]
 | (k, y) :: m, e :: es, i, hl, hr => by
  have h0 := hr 0 (by simp) (by simp)
  simp only [List.getElem_cons_zero] at h0
  have rec_ := aGY hT hc hd hx m es (i + 1) (by simpa using hl) (fun j h h' => by have := hr (j + 1) (by simpa using h) (by simpa using h'); simpa using this)
  have hsame : Instr.sameNow d v e.key = some (c.eqb x k) := by
   have he := aTC (c := c) (by cases c <;> simp_all [Ty.key1, Ty.keyB]) hx h0
   obtain ⟨d', hd', hb⟩ := hT.desc
   rw [hd] at hd'
   cases hd'
   unfold cU at hx h0
   cases c <;> first | (simp [Ty.key1] at hc; done) | skip
   all_goals (cases d <;> first | (simp [fN] at hb; done) | skip)
   all_goals simp only [Ty.isAgg, Bool.false_eq_true, if_false] at hx h0
   ·simp only [aS, List.cons.injEq, and_true] at hx h0
    rw [hx, h0]; rfl
   ·obtain ⟨hx, _⟩ := hx
    obtain ⟨h0, _⟩ := h0
    simp only [List.cons.injEq, and_true] at hx h0
    rw [hx, h0]
    simp only [Instr.sameNow, if_true, Ty.eqb, Option.some.injEq]
    rw [Bool.eq_iff_iff]; simp [Int.natCast_inj]
   ·obtain ⟨hx, _⟩ := hx
    obtain ⟨h0, _⟩ := h0
    simp only [List.cons.injEq, and_true] at hx h0
    rw [hx, h0]
    simp only [Instr.sameNow, if_true, Ty.eqb, Option.some.injEq]
    rw [Bool.eq_iff_iff]; simp
   ·obtain ⟨s, hx, e1, _⟩ := hx
    obtain ⟨u, h0, e2, _⟩ := h0
    simp only [List.cons.injEq, and_true] at hx h0
    rw [hx, h0]
    have : (s == u) = decide (bE s = bE u) := by
     rw [Bool.eq_iff_iff, Go.MapKept.bytes_beq, decide_eq_true_eq]
     exact ⟨fun h => by rw [h], aIX⟩
    simp only [Instr.sameNow, this, Ty.eqb, e1, e2]
  simp only [Instr.findNow, hsame, aA1]
  cases hq : c.eqb x k <;> simp [rec_]
theorem aE3 (hT : gZ P T) {t : TypeId} {c : Ty} (ht : T t = some c) (hc : c.keyB = true) {β : Type} {w : World} {S : Nat → Prop} {x : c.den} {v : Value} (hx : cU w S c x v) (w' : World) (m : List (c.den × β)) (es : List MapEntry) (hl : es.length = m.length)
  (hr : ∀ j (h : j < m.length) (h' : j < es.length), cU w S c m[j].1 es[j].key) : (Instr.findKey t v es).run P w' = .ok (aA1 c x m es 0) w' := by
 obtain ⟨d, hd, hb⟩ := (hT _ _ ht).desc
 simp only [Instr.findKey, Sem.run_bind, aU hd, Result.andThen_ok]
 by_cases h1 : c.key1 = true
 ·rw [aGY (hT _ _ ht) h1 hd hx m es 0 hl hr]; rfl
 ·have hn : Instr.findNow d v es 0 = none ∨ Instr.findNow d v es 0 = some (aA1 c x m es 0) := by
   cases es with
   | nil =>
    cases m with
    | nil => right; rfl
    | cons _ _ => simp at hl
   | cons e es =>
    left
    cases c <;> first | (simp_all [Ty.keyB, Ty.key1]; done) | skip
    cases d <;> simp [fN] at hb
    simp [Instr.findNow, Instr.sameNow]
  rcases hn with h | h
  ·rw [h]; exact aCF hT ht hc hx w' m es 0 hl hr
  ·rw [h]; rfl
theorem aMe {c : Ty} {x : c.den} {v : Value} {w : World} {S : Nat → Prop} (hc : c.key1 = true) (hx : aS w S c x [v]) (n : Nat) : Instr.sameBits n v v = true := by
 cases c <;> first | (simp [Ty.key1] at hc; done) | skip
 ·simp only [aS, List.cons.injEq, and_true] at hx; subst hx; simp [Instr.sameBits]
 ·obtain ⟨hx, _⟩ := hx; simp only [List.cons.injEq, and_true] at hx; subst hx; simp [Instr.sameBits]
 ·obtain ⟨hx, _⟩ := hx; simp only [List.cons.injEq, and_true] at hx; subst hx; simp [Instr.sameBits]
 ·obtain ⟨s, hx, _⟩ := hx; simp only [List.cons.injEq, and_true] at hx; subst hx
  simp only [Instr.sameBits]
  exact (Go.MapKept.bytes_beq _ _).2 rfl
theorem aSq {c : Ty} {x : c.den} {v : Value} {w : World} {S : Nat → Prop} (hc : c.keyB = true) (hx : cU w S c x v) (w' : World) : (Instr.keyThatStays v v).run P w' = .ok v w' := by
 have hs : Instr.sameBits 10000 v v = true := by
  unfold cU at hx
  cases c <;> first | (simp [Ty.keyB, Ty.key1] at hc; done) | skip
  case arr n t =>
   simp only [Ty.isAgg, if_true] at hx
   obtain ⟨⟨cs⟩, rfl, hx⟩ := hx
   obtain ⟨h1, css, h2, h3, h4⟩ := hx
   simp only at h2
   subst h2
   simp only [Instr.sameBits, beq_self_eq_true, Bool.true_and, List.all_eq_true]
   have hall : ∀ v ∈ css.flatten, Instr.sameBits 9999 v v = true := fun v hv => by
    obtain ⟨l, hl, hv⟩ := List.mem_flatten.1 hv
    obtain ⟨i, hi, rfl⟩ := List.mem_iff_getElem.1 hl
    have := h4 i (by omega) hi
    obtain ⟨u, hu⟩ := aI8 (aE2 (c := t) hc).2.2.2 this
    rw [hu] at hv this
    simp at hv
    subst hv
    exact aMe (c := t) hc this 9999
   intro p hp
   have : p.1 = p.2 ∧ p.1 ∈ css.flatten := by
    obtain ⟨i, hi, rfl⟩ := List.mem_iff_getElem.1 hp
    simp
   obtain ⟨a, b⟩ := p
   obtain ⟨e, hm⟩ := this
   simp only at e hm ⊢
   subst e
   exact hall a hm
  all_goals (simp only [Ty.isAgg, Bool.false_eq_true, if_false] at hx; exact aMe (by simpa [Ty.keyB] using hc) hx 10000)
 simp [Instr.keyThatStays, hs]
end
end Go.Vc
namespace Go.Vc
open Go.RowKit
def aTE (h : List Obj) : AV → Option Nat
 | .ptr i [] => match h[i]? with
  | some (.box _ _) => some i
  | _ => none
 | _ => none
def allTags (h : List Obj) : List AV → Option (List Nat)
 | [] => some []
 | v :: r => match aTE h v, allTags h r with
  | some i, some l => some (i :: l)
  | _, _ => none
def evA (G : Nat → AV) (env : List (Nat × AV)) : Operand → AV
 | .tmp t => look env t
 | .const v => aEW v
 | .global g => G g
 | .func f => .fn f [] []
def jQ : Operand → Bool
 | .const (.func _ _ _) => false
 | .const v => aPQ v
 | _ => true
theorem yU {c : Ctx} {w : World} {G : Nat → AV} {env : List (Nat × AV)} {a : Act} (he : aCl c w env a.tmps) (hG : oD G c.S w) {x : Operand} (hx : jQ x = true) : aP c w (evA G env x) (a.eval x) := by
 cases x with
 | tmp t => exact he t
 | const v =>
  refine aTn ?_ ?_
  ·cases v <;> first | exact hx | (simp [jQ] at hx)
  ·intro f p q e; subst e; simp [jQ] at hx
 | global g =>
  exact (hG g).keep (c := ⟨c.S, fun _ => Go.undef, 0⟩) (c' := c) ⟨fun _ h => h, Nat.zero_le _, fun i hi => absurd hi (Nat.not_lt_zero i)⟩ (.refl _ _)
 | func f => exact ⟨⟨(fun i hi => by cases hi), (fun i hi => by cases hi), rfl⟩, (fun h => by cases h), (fun _ cs => by simp [Act.eval])⟩
def aF8 (i : Nat) : AV → Prop × AV
 | .tup vs => (i < vs.length, vs.getD i .junk)
 | _ => (False, .junk)
def aEo : AV → Prop × AV
 | .ptr i p => (True, .ptr i p)
 | .roa t x => (True, .roa t x)
 | .fn f l1 l2 => (True, .fn f l1 l2)
 | _ => (False, .junk)
def aEp : List AV → Option ((t : Ty) × t.den)
 | [] => some ⟨.unit, ()⟩
 | .roa t x :: r => match aEp r with
  | some ⟨u, y⟩ => some ⟨.pair (.rp t) u, (x, y)⟩
  | none => none
 | _ => none
def aEq (h : List Obj) (f : FuncId) (first caps : List AV) : Prop × AV :=
 match allTags h first, allTags h caps with
 | some l1, some l2 => (True, .fn f l1 l2)
 | some l1, none => match aEp caps with
  | some ⟨t, y⟩ => (l1 = [], .val (.clo f t) y)
  | none => (False, .junk)
 | _, _ => (False, .junk)
def aCG (h : List Obj) (l : List Nat) : Bool := l.all fun i => match h[i]? with
 | some (.box _ _) => true
 | _ => false
def pM : Ty → Bool
 | .unit => true
 | .pair (.rp _) r => pM r
 | _ => false
def aE4 (E : Env) (h : List Obj) (callee : Callee) (args : List AV) (argTypes : List TypeId) (ρ : Operand → AV) : Prop × AV :=
 match callee with
 | .builtin .len => match args, argTypes with
  | [x], [t] => aCy E.T h t x
  | _, _ => (False, .junk)
 | .builtin .min => aTq false args
 | .builtin .max => aTq true args
 | .value x => match ρ x with
  | .fn f [] l2 => if aCG h l2 = true then aBo E.Γ h f (args ++ l2.map fun i => .ptr i []) else (False, .junk)
  | .val (.clo g t) y => if pM t = true then aBo E.Γ h g (args ++ tP t y) else (False, .junk)
  | _ => (False, .junk)
 | _ => (False, .junk)
def aTF (E : Env) (t : TypeId) (kc vc : Ty) : Prop := match E.mp t with
 | some (k, e) => E.T k = some kc ∧ E.T e = some vc
 | none => False
def aCH (E : Env) (h : List Obj) (t : TypeId) (m k : AV) (ok : Bool) : Prop × AV :=
 match m with
 | .mp i => match h[i]? with
  | some (.map kc vc l) => match AV.as (h.map gX) kc k with
   | some x => (kc.keyB = true ∧ vc.okB = true ∧ aTF E t kc vc, if ok then .tup [.val vc ((aBs kc l x).getD vc.zero), .val .bool (aBs kc l x).isSome] else .val vc ((aBs kc l x).getD vc.zero))
   | none => (False, .junk)
  | _ => (False, .junk)
 | _ => (False, .junk)
def Ty.isNil : Ty → Bool
 | .nili => true
 | _ => false
def aOh (E : Env) (h : List Obj) (t : TypeId) (x : AV) : Prop × AV :=
 match E.T t with
 | some c => match AV.as (h.map gX) c x with
  | some d => (c.isNil = false, .val (.ifc t c) d)
  | none => (False, .junk)
 | none => (False, .junk)
def aCI (E : Env) (x : AV) (t : TypeId) (ok : Bool) : Prop × AV :=
 match E.T t with
 | some c => match x with
  | .val (.ifc k c') d => if k = t then (c.isNil = false, if ok then .tup [.val c' d, .val .bool true] else .val c' d) else (ok = true ∧ c.okB = true, .tup [.val c c.zero, .val .bool false])
  | .val .nili _ => (ok = true ∧ c.okB = true, .tup [.val c c.zero, .val .bool false])
  | _ => (False, .junk)
 | none => (False, .junk)
def aOi (T : Tab) (op : BinOp) (t : TypeId) (x : AV) : Prop × AV :=
 match x with
 | .val .nili _ => match op with
  | .eql => (T t = some .nili, .val .bool true)
  | .neq => (T t = some .nili, .val .bool false)
  | _ => (False, .junk)
 | _ => (False, .junk)
noncomputable def pv (E : Env) (h : List Obj) (ρ : Operand → AV) (o : Oper) : Prop × AV :=
 match o.op with
 | .move x => (True, aN8 E.T o.type (ρ x))
 | .assign x => (True, aN8 E.T o.type (ρ x))
 | .load t a => aCx E.T h t (ρ a)
 | .binOp op t x y _ => match y with
  | .const .nilIface => aOi E.T op t (ρ x)
  | y => wL E.T op t (ρ x) (ρ y)
 | .unOp op _ x => aPT op (ρ x)
 | .convert s d x => aTB E.T h s d (ρ x)
 | .fieldAddr s x k => tN E.T s (ρ x) k
 | .field s x k => aEX E.T s (ρ x) k
 | .indexAddr t x i => aEY E.T h t (ρ x) (ρ i)
 | .index t x i => aEZ E.T t (ρ x) (ρ i)
 | .slice t x lo hi mx => aE0 E.T h t (ρ x) (lo.map ρ) (hi.map ρ) (mx.map ρ)
 | .extract x i => aF8 i (ρ x)
 | .build t ps => aE1 E.T t (ps.toList.map fun p => (p.1, ρ p.2))
 | .buildSlice t n ps => tO E.T t n (ps.toList.map fun p => (p.1, ρ p.2))
 | .makeFunc (.func f) first caps => aEq h f (first.toList.map ρ) (caps.toList.map ρ)
 | .nilCheck x => aEo (ρ x)
 | .lookup t m k ok => aCH E h t (ρ m) (ρ k) ok
 | .makeInterface t x => aOh E h t (ρ x)
 | .typeAssert x _ t ok => aCI E (ρ x) t ok
 | .call c => aE4 E h c.callee (c.args.toList.map ρ) c.argTypes.toList ρ
 | .alloc t => match E.T t with
  | some ct => (ct.okB = true, .junk)
  | none => (False, .junk)
 | _ => (False, .junk)
section
variable {P : Program} {M : Perm} {w0 : World} {c : Ctx} {h : List Obj} {w : World}
theorem cU.shape {w : World} {S : Nat → Prop} {t : Ty} {x : t.den} {v : Value} (h : cU w S t x v) (hn : t ≠ .nili) : v ≠ .nilIface ∧ (t.isAgg = false → ∀ cs, v ≠ .agg cs) := by
 unfold cU at h
 split at h
 ·rename_i ha
  obtain ⟨cs, rfl, _⟩ := h
  exact ⟨by simp, fun h => by rw [ha] at h; cases h⟩
 ·rename_i ha
  cases t <;> first | (simp [Ty.isAgg] at ha; done) | skip
  case bool => simp only [aS] at h; simp at h; subst h; simp
  case u => simp only [aS] at h; simp at h; rw [h.1]; simp
  case i => simp only [aS] at h; simp at h; rw [h.1]; simp
  case str => obtain ⟨s, e, _⟩ := h; simp at e; subst e; simp
  case sl => obtain ⟨a, l, q, e, _⟩ := h; simp at e; subst e; simp
  case rp => obtain ⟨b, off, ds, e, _⟩ := h; simp at e; subst e; simp
  case clo => obtain ⟨vs, e, _⟩ := h; simp at e; subst e; simp
  case ifc => obtain ⟨u, ds, e, _⟩ := h; simp at e; subst e; simp
  case nili => exact absurd rfl hn
  case nilp => simp only [aS] at h; simp at h; subst h; simp
  case nilf => simp only [aS] at h; simp at h; subst h; simp
theorem aOj {op : BinOp} {t : TypeId} {v u : Value} {ox oy : Operand} (h1 : v ≠ .nilIface) (h2 : ∀ cs, v ≠ .agg cs) : (eqGuard op t ox oy v u).run P w = .ok () w := by
 cases op <;> first | rfl | skip
 all_goals (cases v <;> first | exact absurd rfl h1 | exact absurd rfl (h2 _) | rfl)
theorem aMf {T : Tab} {op : BinOp} {t : TypeId} {ct : Ty} (hTy : yS P T t ct) (hag : ct.isAgg = true) {xs : Array Value} {u : Value} {ox oy : Operand} : (eqGuard op t ox oy (.agg xs) u).run P w = .ok () w := by
 have hgd := hTy.guard hag
 cases u with
 | agg ys => exact run_eqGuard_agg w op t ox oy xs ys hgd
 | _ => cases op <;> rfl
theorem aTG {T : Tab} (hT : gZ P T) {op : BinOp} {t : TypeId} {x y : AV} {v u : Value} {ox oy : Operand} (hv : aP c w x v) (hc : (wL T op t x y).1) : (eqGuard op t ox oy v u).run P w = .ok () w := by
 cases x with
 | val tx a =>
  have hsh := fun hn => (aP.toV hv).shape hn
  cases tx with
  | pair p q =>
   obtain ⟨xs, rfl⟩ := hv.2.1 rfl
   cases y with
   | val t2 b =>
    simp only [wL] at hc
    by_cases e : t2 = .pair p q
    ·subst e
     simp only [dite_true] at hc
     cases op <;> simp only at hc <;> first | exact hc.elim | exact aMf (hT _ _ hc.1) rfl
    ·simp only [e, dite_false] at hc
   | _ => exact hc.elim
  | arr n q =>
   obtain ⟨xs, rfl⟩ := hv.2.1 rfl
   cases y with
   | val t2 b =>
    simp only [wL] at hc
    by_cases e : t2 = .arr n q
    ·subst e
     simp only [dite_true] at hc
     cases op <;> simp only at hc <;> first | exact hc.elim | exact aMf (hT _ _ hc.1) rfl
    ·simp only [e, dite_false] at hc
   | _ => exact hc.elim
  | unit => exact hc.elim
  | expr => exact hc.elim
  | nili => exact hc.elim
  | ifc _ _ => exact hc.elim
  | _ => exact aOj (hsh (by simp)).1 ((hsh (by simp)).2 rfl)
 | _ => exact hc.elim
theorem aI9 {ρ : Operand → AV} {a : Act} : ∀ {l : List (Nat × Operand)}, (∀ p ∈ l, aP c w (ρ p.2) (a.eval p.2)) → aCD c w (l.map fun p => (p.1, ρ p.2)) (l.map fun p => (p.1, a.eval p.2))
 | [], _ => .nil
 | p :: r, h => .cons (h p (by simp)) (aI9 fun q hq => h q (by simp [hq]))
theorem aJa {ρ : Operand → AV} {a : Act} {o : Option Operand} (h : ∀ x, o = some x → aP c w (ρ x) (a.eval x)) : aK0 c w (o.map ρ) (o.map a.eval) := by
 cases o with
 | none => exact .none
 | some x => exact .some (h x rfl)
theorem aE5 (hg : Good M w0 c h w) : ∀ {l : List AV} {vs : List Value} {is : List Nat}, allTags h l = some is → l.length = vs.length → (∀ i (h1 : i < l.length) (h2 : i < vs.length), aP c w l[i] vs[i]) → (∀ i ∈ is, i < c.n) ∧ vs = is.map c.hd
 | [], vs, is, ha, hl, _ => by
  simp [allTags] at ha; subst ha
  cases vs <;> simp at hl ⊢
 | v :: r, [], is, ha, hl, _ => by simp at hl
 | v :: r, u :: us, is, ha, hl, hv => by
  simp only [allTags] at ha
  split at ha
  ·rename_i i l h1 h2
   cases ha
   obtain ⟨q1, q3⟩ := aE5 hg h2 (by simpa using hl) (fun i hi hi' => by have := hv (i + 1) (by simpa using hi) (by simpa using hi'); simpa using this)
   have h0 := hv 0 (by simp) (by simp)
   simp only [List.getElem_cons_zero] at h0
   unfold aTE at h1
   split at h1
   ·rename_i j
    split at h1
    ·rename_i bv ho
     cases h1
     obtain ⟨hj, b, hb, rfl⟩ := aAd h0
     obtain ⟨b', cells, e, hhd, _⟩ := hg.objs _ _ ho
     rw [hhd] at hb
     simp [aQ] at hb
     subst hb
     refine ⟨fun k hk => ?_, ?_⟩
     ·rcases List.mem_cons.1 hk with rfl | hk
      ·exact hj
      ·exact q1 k hk
     ·rw [List.map_cons, ← q3, hhd]; rfl
    ·cases h1
   ·cases h1
  ·cases ha
theorem aXE {f : FuncId} {l1 l2 : List Nat} (h1 : ∀ i ∈ l1, i < c.n) (h2 : ∀ i ∈ l2, i < c.n) : aP c w (.fn f l1 l2) (.func (.func f) (l1.map c.hd).toArray (l2.map c.hd).toArray) :=
 ⟨⟨h1, h2, rfl⟩, (fun h => by cases h), (fun _ cs => by simp)⟩
theorem aV5 {vs : List AV} {v : Value} (hv : aP c w (.tup vs) v) {i : Nat} (hi : i < vs.length) : ∃ u, (Instr.extract v i).run P w = .ok u w ∧ aP c w (vs.getD i .junk) u := by
 obtain ⟨xs, rfl, hl, hx⟩ := hv
 have hi' : i < xs.length := by omega
 refine ⟨xs[i], by simp [Instr.extract, hi'], ?_⟩
 rw [List.getD_eq_getElem?_getD, List.getElem?_eq_getElem hi]
 have := hx i hi hi'
 simp only [Option.getD_some]
 have hne : ∀ us, vs[i] ≠ .tup us := fun us e => by rw [e] at this; exact this.1.elim
 revert this hne
 generalize vs[i] = a
 generalize xs[i] = x
 intro this hne
 cases a <;> first | exact absurd rfl (hne _) | trivial | exact this | skip
 obtain ⟨h1, _, h3⟩ := this
 have h3 := h3 rfl
 simp only [aI] at h1
 cases x <;> simp [Value.cells] at h1 h3 <;> first | exact h1 | skip
end
end Go.Vc
namespace Go.Vc
open Go.RowKit
section
variable {P : Program} {M : Perm} {w0 : World} {c : Ctx} {h : List Obj} {w : World}
structure gA (P : Program) (E : Env) : Prop where
 T : gZ P E.T
 Γ : ∀ f vs sp, E.Γ f vs = some sp → (FOK P E.G f sp ∧ ∃ fn, P.funcs[f]? = some fn ∧ fn.name ≠ "runtime.NumGoroutine" ∧ fn.body.isSome = true) ∨ NOK P E.G f sp
 el : ∀ t ct, E.T t = some (.sl ct) → P.underlying t = some (.slice (E.el t))
 mp : ∀ t k e, E.mp t = some (k, e) → P.underlying t = some (.map k e)
theorem xT {f : FuncId} {args : Array Value} (hf : ∃ fn, P.funcs[f]? = some fn ∧ fn.name ≠ "runtime.NumGoroutine" ∧ fn.body.isSome = true) : (callFunc f args).run P w = .ok (.enter f args) w := by
 obtain ⟨fn, h1, h2, h3⟩ := hf
 obtain ⟨b, hb⟩ := Option.isSome_iff_exists.1 h3
 simp [callFunc, h1, h2, hb]
theorem aBt {ρ : Operand → AV} {a : Act} {l : List Operand} (h : ∀ x ∈ l, aP c w (ρ x) (a.eval x)) : ∀ i (h1 : i < (l.map ρ).length) (h2 : i < (l.map a.eval).length), aP c w (l.map ρ)[i] (l.map a.eval)[i] := fun i h1 h2 => by
 simp only [List.getElem_map]
 exact h _ (List.getElem_mem _)
theorem aRg {f : FuncId} {l2 : List Nat} {v : Value} (hv : aP c w (.fn f [] l2) v) : (∀ i ∈ l2, i < c.n) ∧ v = .func (.func f) #[] (l2.map c.hd).toArray := by
 obtain ⟨h1, _, h3⟩ := hv
 have h3 := h3 rfl
 simp only [aI] at h1
 obtain ⟨_, h2, h1⟩ := h1
 refine ⟨h2, ?_⟩
 cases v <;> simp [Value.cells] at h1 h3
 obtain ⟨rfl, rfl, rfl⟩ := h1
 rfl
theorem aOk {g : FuncId} {t : Ty} {y : t.den} {v : Value} (hv : aP c w (.val (.clo g t) y) v) : ∃ us : List Value, v = .func (.func g) #[] us.toArray ∧ aS w c.S t y us := by
 have := aP.toV hv
 unfold cU at this
 rw [if_neg (by simp [Ty.isAgg])] at this
 obtain ⟨us, e, hr⟩ := this
 simp at e
 exact ⟨us, e, hr⟩
theorem aTH : ∀ {l : List AV} {vs : List Value} {t : Ty} {y : t.den}, aEp l = some ⟨t, y⟩ → l.length = vs.length → (∀ i (h1 : i < l.length) (h2 : i < vs.length), aP c w l[i] vs[i]) → aS w c.S t y vs
 | [], vs, t, y, ha, hl, _ => by
  simp only [aEp, Option.some.injEq, Sigma.mk.injEq] at ha
  obtain ⟨rfl, hy⟩ := ha
  cases vs with
  | nil => rfl
  | cons _ _ => simp at hl
 | v :: r, [], t, y, ha, hl, _ => by simp at hl
 | v :: r, x :: vs, t, y, ha, hl, hv => by
  have h0 := hv 0 (by simp) (by simp)
  simp only [List.getElem_cons_zero] at h0
  cases v <;> first | (simp [aEp] at ha; done) | skip
  rename_i t1 x1
  simp only [aEp] at ha
  split at ha
  ·rename_i u z hr
   simp only [Option.some.injEq, Sigma.mk.injEq] at ha
   obtain ⟨rfl, hy⟩ := ha
   have hy := eq_of_heq hy
   subst hy
   have rec_ := aTH hr (vs := vs) (by simpa using hl) (fun i h1 h2 => by have := hv (i + 1) (by simpa using h1) (by simpa using h2); simpa using this)
   obtain ⟨⟨b, off, ds, e, hb, hd, hc⟩, _, h3⟩ := h0
   have h3 := h3 rfl
   have ex : x = .pointer (some ⟨b, off, none⟩) := by
    cases x <;> simp [Value.cells] at e h3 <;> simp [e]
   refine ⟨[x], vs, rfl, ⟨b, off, ds, by rw [ex], hb, hd, hc⟩, rec_⟩
  ·cases ha
theorem aJb (hg : Good M w0 c h w) : ∀ {l2 : List Nat}, aCG h l2 = true → (∀ i ∈ l2, i < c.n) → ∀ i (h1 : i < (l2.map fun i => AV.ptr i []).length) (h2 : i < (l2.map c.hd).length), aP c w (l2.map fun i => AV.ptr i [])[i] (l2.map c.hd)[i] := by
 intro l2 hb hl i h1 h2
 simp only [List.length_map] at h1
 simp only [List.getElem_map]
 simp only [aCG, List.all_eq_true] at hb
 have := hb l2[i] (List.getElem_mem h1)
 split at this
 ·rename_i n v ho
  obtain ⟨b, cells, e, q1, _⟩ := hg.objs _ _ ho
  refine ⟨⟨hl _ (List.getElem_mem h1), b, by rw [q1]; rfl, by rw [q1]; rfl⟩, (fun h => by cases h), (fun _ cs => by rw [q1]; simp)⟩
 ·cases this
theorem aJc : ∀ {t : Ty} {y : t.den} {us : List Value}, pM t = true → aS w c.S t y us → us.length = (tP t y).length ∧ ∀ i (h1 : i < (tP t y).length) (h2 : i < us.length), aP c w (tP t y)[i] us[i]
 | .unit, _, us, _, hr => by simp only [aS] at hr; subst hr; exact ⟨rfl, fun i h => by simp [tP] at h⟩
 | .pair (.rp a) r, y, us, hb, hr => by
  obtain ⟨c1, c2, rfl, ⟨b, off, ds, rfl, q⟩, h2⟩ := hr
  obtain ⟨k1, k2⟩ := aJc (t := r) (y := y.2) (by simpa [pM] using hb) h2
  refine ⟨by simp [tP, k1], fun i hi hi' => ?_⟩
  cases i with
  | zero =>
   refine aP.ofV ?_
   unfold cU
   rw [if_neg (by simp [Ty.isAgg])]
   exact ⟨b, off, ds, rfl, q⟩
  | succ i =>
   have := k2 i (by simpa [tP] using hi) (by simpa using hi')
   simpa [tP] using this
 | .pair .bool _, _, _, hb, _ => by simp [pM] at hb
 | .pair (.u _) _, _, _, hb, _ => by simp [pM] at hb
 | .pair (.i _) _, _, _, hb, _ => by simp [pM] at hb
 | .pair .str _, _, _, hb, _ => by simp [pM] at hb
 | .pair (.sl _) _, _, _, hb, _ => by simp [pM] at hb
 | .pair .unit _, _, _, hb, _ => by simp [pM] at hb
 | .pair (.pair _ _) _, _, _, hb, _ => by simp [pM] at hb
 | .pair (.arr _ _) _, _, _, hb, _ => by simp [pM] at hb
 | .pair .expr _, _, _, hb, _ => by simp [pM] at hb
 | .pair (.clo _ _) _, _, _, hb, _ => by simp [pM] at hb
 | .bool, _, _, hb, _ => by simp [pM] at hb
 | .u _, _, _, hb, _ => by simp [pM] at hb
 | .i _, _, _, hb, _ => by simp [pM] at hb
 | .str, _, _, hb, _ => by simp [pM] at hb
 | .sl _, _, _, hb, _ => by simp [pM] at hb
 | .arr _ _, _, _, hb, _ => by simp [pM] at hb
 | .expr, _, _, hb, _ => by simp [pM] at hb
 | .rp _, _, _, hb, _ => by simp [pM] at hb
 | .clo _ _, _, _, hb, _ => by simp [pM] at hb
theorem aJd {E : Env} (hE : gA P E) (hg : Good M w0 c h w) (hG : oD E.G c.S w) {dst : Option Nat} {ty : TypeId} {pos : String} {aft : Array Edge} {gd : Option (Nat × Bool)} {f : Operand} {args : Array Operand} {argTypes : Array TypeId} {a : Act} {ρ : Operand → AV} {g : FuncId} {us : List Value} {cv : List AV}
  (hf : a.eval f = .func (.func g) #[] us.toArray) (hul : us.length = cv.length) (hav : ∀ i (h1 : i < (args.toList.map ρ).length) (h2 : i < (args.toList.map a.eval).length), aP c w (args.toList.map ρ)[i] (args.toList.map a.eval)[i])
  (huv : ∀ i (h1 : i < cv.length) (h2 : i < us.length), aP c w cv[i] us[i]) (hc : (aBo E.Γ h g (args.toList.map ρ ++ cv)).1) :
  Did P M w0 h c { dst := dst, op := .call { callee := .value f, args := args, argTypes := argTypes }, type := ty, pos := pos, after := aft, guard := gd } a w (aBo E.Γ h g (args.toList.map ρ ++ cv)).2 := by
 have hΓ : ∃ sp, E.Γ g (args.toList.map ρ ++ cv) = some sp := by
  unfold aBo at hc
  cases hΓ : E.Γ g (args.toList.map ρ ++ cv) with
  | none => simp [hΓ] at hc
  | some sp => exact ⟨sp, rfl⟩
 obtain ⟨sp, hsp⟩ := hΓ
 have e2 : args.map a.eval ++ us.toArray = (args.toList.map a.eval ++ us).toArray := by rw [← Array.toList_inj]; simp
 have hcall := fun (C : (Ending → World → Prop) → Prop) hC hF => aV4 (P := P) (C := C) hC (Γ := E.Γ) hF hg hG (f := g) (vs := args.toList.map ρ ++ cv) (xs := (args.toList.map a.eval ++ us).toArray) (by simp [hul]) (fun i h1 h2 => by
  simp only [List.getElem_toArray]
  by_cases hi : i < args.toList.length
  ·rw [List.getElem_append_left (by simpa using hi), List.getElem_append_left (by simpa using hi)]
   exact hav i (by simpa using hi) (by simpa using hi)
  ·rw [List.getElem_append_right (by simpa using hi), List.getElem_append_right (by simpa using hi)]
   have := huv (i - args.toList.length) (by simp at h1 hi ⊢; omega) (by simp at h2 hi ⊢; omega)
   simpa using this) hc
 rcases hE.Γ g _ sp hsp with ⟨hfok, hfn⟩ | hnok
 ·refine .inr ⟨g, (args.toList.map a.eval ++ us).toArray, ?_, hcall (Calls P g _ w) (fun R R' h k => h.mono k) (fun sp' hs => by rw [hsp] at hs; cases hs; exact fun S x => hfok w S _ x)⟩
  have hrun := xT (w := w) (args := (args.toList.map a.eval ++ us).toArray) hfn
  simp [execOp, resolve, Deferred.ofValue, hf, invoke]
  rw [e2]
  exact hrun
 ·obtain ⟨v, w', hrun, v', c', e, hA⟩ := hcall (aXk P g (args.toList.map a.eval ++ us).toArray w) (fun R R' ⟨v, w', h, k⟩ hk => ⟨v, w', h, hk _ _ k⟩) (fun sp' hs => by rw [hsp] at hs; cases hs; exact hnok.2 w _)
  cases e
  refine .inl ⟨v, w', c', ?_, hA⟩
  simp [execOp, resolve, Deferred.ofValue, hf, invoke]
  rw [e2]
  exact hrun
theorem aMg {T : Tab} (hT : gZ P T) {t : TypeId} {ct : Ty} (ht : T t = some ct) (hok : ct.okB = true) {o : Oper} {a : Act} (ho : o.op = .alloc t) : (execOp a.eval o).run P w = .ok (.value (.pointer (some ⟨w.heap.size, 0, none⟩))) (w.alloc (.cells (nD ct).cells t (0, 0))) := by
 have hz := tM (hT _ _ ht) hok w
 simp [execOp, ho, Instr.alloc, hz, newVar, newRow]
theorem aGZ (hg : Good M w0 c h w) {ob : Go.Obj} : aCA P M w0 h c w .junk (.pointer (some ⟨w.heap.size, 0, none⟩)) (w.alloc ob) c := by
 have hk : fM nothing w (w.alloc ob) := fM.alloc nothing w _
 have hl : dN c w c (w.alloc ob) := ⟨.refl _, fun b hb => hk.block b (hg.sfin b hb) (fun f => f)⟩
 exact ⟨hl, rfl, hg.step hl rfl hk.any (fun i o b ho hb => hk.block b (hg.own i o b ho hb).2.1 (fun f => f)) (fun b hb => Nat.lt_of_lt_of_le (hg.sfin b hb) hk.size) (fun b hb => .inl hb), hk, fun b hb => .inl hb, trivial⟩
theorem aSr {E : Env} (hE : gA P E) (hg : Good M w0 c h w) {t : TypeId} {m k : AV} {ok : Bool} {mv kv : Value} (hm : aP c w m mv) (hk : aP c w k kv) (hc : (aCH E h t m k ok).1) :
  ∃ u, (Instr.lookup t mv kv ok).run P w = .ok u w ∧ aP c w (aCH E h t m k ok).2 u := by
 unfold aCH at hc ⊢
 split at hc
 ·rename_i i
  split at hc
  ·rename_i kc vc l ho
   split at hc
   ·rename_i x hx
    obtain ⟨h1, h2, h3⟩ := hc
    simp only [ho, hx]
    obtain ⟨b, es, clock, q1, q2, q3, q4⟩ := hg.objs i _ ho
    have hmv : mv = .map (some b) := by
     obtain ⟨r1, _, r3⟩ := hm
     simp only [aI] at r1
     have r3 := r3 rfl
     obtain ⟨_, r1, _⟩ := r1
     rw [q1] at r1
     cases mv <;> simp [Value.cells] at r1 r3 <;> rw [r1]
    subst hmv
    unfold aTF at h3
    split at h3
    ·rename_i kt et he
     have hkx := qY hg hk hx
     have hu := hE.mp _ _ _ he
     have hgo : (getObj b).run P w = .ok (.map es clock) w := by simp [getObj, Sem.run, q2]
     have hl : es.toList.length = l.length := by simpa using q3
     have hf := aE3 (P := P) hE.T h3.1 h1 hkx w l es.toList hl (fun j h h' => by have := (q4 j h (by simpa using h')).1; simpa using this)
     have hck := aDT (P := P) es.isEmpty 9998 hE.T h3.1 h1 hkx w
     have hz := tM (hE.T _ _ h3.2) h2 w
     have hff := aF7 (c := kc) (w := w) (S := c.S) (x := x) l es.toList 0 hl
     have hfin : ∀ (z : Value), cU w c.S vc ((aBs kc l x).getD vc.zero) z → aP c w (if ok = true then AV.tup [.val vc ((aBs kc l x).getD vc.zero), .val .bool (aBs kc l x).isSome] else AV.val vc ((aBs kc l x).getD vc.zero)) (if ok = true then .tuple #[z, .bool (aBs kc l x).isSome] else z) := fun z hz => by
      cases ok
      ·simp only [Bool.false_eq_true, if_false]; exact aP.ofV hz
      ·simp only [if_true]
       refine ⟨[z, .bool (aBs kc l x).isSome], rfl, rfl, fun i h1 h2 => ?_⟩
       match i, h1, h2 with
       | 0, _, _ => exact aP.ofV hz
       | 1, _, _ => exact aP.ofV (t := .bool) (x := (aBs kc l x).isSome) (by simp [cU, Ty.isAgg, aS])
     cases hgt : aBs kc l x with
     | some y =>
      rw [hgt] at hff
      obtain ⟨j, e, k1, r1, r2, r3, _⟩ := hff
      rw [r1] at hf
      have hjl : j < l.length := by
       rcases Nat.lt_or_ge j l.length with h | h
       ·exact h
       ·rw [List.getElem?_eq_none h] at r3; cases r3
      have hje : j < es.size := by omega
      have hv := (q4 j hjl hje).2
      have e1 : es[j] = e := by
       have : es.toList[j]? = some e := r2
       rw [Array.getElem?_toList, Array.getElem?_eq_getElem hje] at this
       simpa using this
      have e2 : l[j].2 = y := by rw [List.getElem?_eq_getElem hjl] at r3; simp at r3; rw [r3]
      rw [e1, e2] at hv
      have := hfin e.val (by rw [hgt]; exact hv)
      refine ⟨if ok = true then .tuple #[e.val, .bool true] else e.val, ?_, by rw [hgt] at this; exact this⟩
      simp [Instr.lookup, aU hu, hgo, hck, hf, Result.andThen]
     | none =>
      rw [hgt] at hff
      rw [hff.1] at hf
      have := hfin (nD vc) (by rw [hgt]; exact aCw w c.S vc h2)
      refine ⟨if ok = true then .tuple #[nD vc, .bool false] else nD vc, ?_, by rw [hgt] at this; exact this⟩
      simp [Instr.lookup, aU hu, hgo, hck, hf, hz, Result.andThen]
    ·exact h3.elim
   ·exact hc.elim
  ·exact hc.elim
 ·exact hc.elim
theorem aDA {E : Env} {t : TypeId} {c : Ty} (hT : gZ P E.T) (ht : E.T t = some c) (hn : c.isNil = false) : ∃ d, P.underlying t = some d ∧ ∀ ms, d ≠ .interface ms := by
 obtain ⟨d, hd, hb⟩ := (hT _ _ ht).desc
 refine ⟨d, hd, fun ms e => ?_⟩
 subst e
 cases c <;> simp [fN, Ty.isNil] at hb hn
theorem aXF {E : Env} (hE : gA P E) (hg : Good M w0 c h w) {t : TypeId} {x : AV} {v : Value} (hv : aP c w x v) (hc : (aOh E h t x).1) :
  ∃ u, (Instr.makeInterface t v).run P w = .ok u w ∧ aP c w (aOh E h t x).2 u := by
 unfold aOh at hc ⊢
 split at hc
 ·rename_i cc ht
  split at hc
  ·rename_i d hd
   simp only [hd]
   have hr := qY hg hv hd
   obtain ⟨td, h1, h2⟩ := aDA hE.T ht hc
   refine ⟨.iface t v, ?_, aP.ofV ?_⟩
   ·simp only [Instr.makeInterface, Sem.run_bind, aU h1, Result.andThen_ok]
    cases td <;> first | rfl | exact absurd rfl (h2 _)
   ·unfold cU at hr ⊢
    rw [if_neg (by simp [Ty.isAgg])]
    split at hr
    ·rename_i ha
     obtain ⟨cs, rfl, hr⟩ := hr
     exact ⟨.agg cs, cs.toList, rfl, (fun _ => by simp), (fun h => by rw [ha] at h; cases h), hr⟩
    ·rename_i ha
     exact ⟨v, [v], rfl, (fun h => absurd h ha), (fun _ => rfl), hr⟩
  ·exact hc.elim
 ·exact hc.elim
theorem aJe {k : TypeId} {t : Ty} {x : t.den} {v : Value} (hv : aP c w (.val (.ifc k t) x) v) : ∃ u, v = .iface k u ∧ cU w c.S t x u := by
 have hr := aP.toV hv
 unfold cU at hr
 rw [if_neg (by simp [Ty.isAgg])] at hr
 obtain ⟨u, ds, e, h1, h2, h3⟩ := hr
 simp only [List.cons.injEq, and_true] at e
 refine ⟨u, e, ?_⟩
 unfold cU
 split
 ·rename_i ha; exact ⟨ds.toArray, h1 ha, by simpa using h3⟩
 ·rename_i ha; rw [← h2 (by simpa using ha)]; exact h3
theorem aM1 {t : Ty} {x : t.den} {b : Bool} {u : Value} (hu : cU w c.S t x u) : aP c w (.tup [.val t x, .val .bool b]) (.tuple #[u, .bool b]) := by
 refine ⟨[u, .bool b], rfl, rfl, fun i h1 h2 => ?_⟩
 match i, h1, h2 with
 | 0, _, _ => exact aP.ofV hu
 | 1, _, _ => exact aP.ofV (t := .bool) (x := b) (by simp [cU, Ty.isAgg, aS])
theorem aSs {E : Env} (hE : gA P E) {t xt : TypeId} {x : AV} {ok : Bool} {v : Value} (hv : aP c w x v) (hc : (aCI E x t ok).1) :
  ∃ u, (Instr.typeAssert v xt t ok).run P w = .ok u w ∧ aP c w (aCI E x t ok).2 u := by
 unfold aCI at hc ⊢
 split at hc
 ·rename_i cc ht
  have hnil : cc.okB = true → cc.isNil = false := fun h => by cases cc <;> simp [Ty.okB, Ty.isNil] at h ⊢
  split at hc
  ·rename_i k c' d
   obtain ⟨u, rfl, hr⟩ := aJe hv
   by_cases e : k = t
   ·subst e
    simp only [if_true] at hc ⊢
    obtain ⟨td, h1, h2⟩ := aDA hE.T ht hc
    refine ⟨if ok = true then .tuple #[u, .bool true] else u, ?_, ?_⟩
    ·simp only [Instr.typeAssert, Sem.run_bind, aU h1, Result.andThen_ok]
     cases td <;> first | (simp; done) | exact absurd rfl (h2 _)
    ·cases ok
     ·exact aP.ofV hr
     ·exact aM1 hr
   ·simp only [e, if_false] at hc ⊢
    obtain ⟨rfl, hz⟩ := hc
    refine ⟨.tuple #[nD cc, .bool false], ?_, aM1 (aCw w c.S cc hz)⟩
    obtain ⟨td, h1, h2⟩ := aDA hE.T ht (hnil hz)
    have hz := tM (hE.T _ _ ht) hz w
    simp only [Instr.typeAssert, Sem.run_bind, aU h1, Result.andThen_ok]
    cases td <;> first | (simp [e, hz, Result.andThen]; done) | exact absurd rfl (h2 _)
  ·have hvn : v = .nilIface := by
    have hr := aP.toV hv
    unfold cU at hr
    rw [if_neg (by simp [Ty.isAgg])] at hr
    simpa [aS] using hr
   subst hvn
   obtain ⟨rfl, hz⟩ := hc
   refine ⟨.tuple #[nD cc, .bool false], ?_, aM1 (aCw w c.S cc hz)⟩
   obtain ⟨td, h1, h2⟩ := aDA hE.T ht (hnil hz)
   have hz := tM (hE.T _ _ ht) hz w
   simp only [Instr.typeAssert, Sem.run_bind, aU h1, Result.andThen_ok]
   cases td <;> first | (simp [hz, Result.andThen]; done) | exact absurd rfl (h2 _)
  ·exact hc.elim
 ·exact hc.elim
theorem aXG {T : Tab} (hT : gZ P T) {op : BinOp} {t : TypeId} {x : AV} {v : Value} {ox : Operand} (hv : aP c w x v) (hc : (aOi T op t x).1) :
  ∃ r, (eqGuard op t ox (.const .nilIface) v .nilIface).run P w = .ok () w ∧ (binOp op t v .nilIface).run P w = .ok r w ∧ aP c w (aOi T op t x).2 r := by
 unfold aOi at hc ⊢
 split at hc
 ·rename_i y
  have hvn : v = .nilIface := by
   have hr := aP.toV hv
   unfold cU at hr
   rw [if_neg (by simp [Ty.isAgg])] at hr
   simpa [aS] using hr
  subst hvn
  have key : T t = some .nili → (Op.equal t .nilIface .nilIface).run P w = .ok true w := fun ht => by
   obtain ⟨d, hd, hb⟩ := (hT _ _ ht).desc
   cases d <;> simp [fN] at hb
   unfold Op.equal Op.maxDepth
   rw [Op.equalIn]
   simp [aU hd]
  cases op <;> simp only at hc ⊢ <;> (try exact hc.elim)
  ·exact ⟨.bool true, by unfold eqGuard; cases ox <;> rfl, by simp [binOp, key hc], tL _⟩
  ·exact ⟨.bool false, by unfold eqGuard; cases ox <;> rfl, by simp [binOp, key hc], tL _⟩
 ·exact hc.elim
theorem aXl {E : Env} (hE : gA P E) (hg : Good M w0 c h w) (hG : oD E.G c.S w) {o : Oper} {a : Act} {ρ : Operand → AV} (hρ : ∀ x ∈ o.op.operands, aP c w (ρ x) (a.eval x)) (hc : (pv E h ρ o).1) : Did P M w0 h c o a w (pv E h ρ o).2 := by
 obtain ⟨dst, op, ty, pos, aft, gd⟩ := o
 cases op <;> simp only [pv] at hc ⊢ <;> (try exact hc.elim) <;> simp only [Op.operands] at hρ
 case alloc t =>
  split at hc
  ·rename_i ct ht
   exact .inl ⟨_, _, c, aMg hE.T ht hc rfl, aGZ hg⟩
  ·exact hc.elim
 case makeInterface t x =>
  obtain ⟨u, hu, hr⟩ := aXF (P := P) hE hg (hρ x (by simp)) hc
  exact Did.of_value hg (by simp [execOp, hu]) hr
 case typeAssert x xt t ok =>
  obtain ⟨u, hu, hr⟩ := aSs (P := P) hE (xt := xt) (hρ x (by simp)) hc
  exact Did.of_value hg (by simp [execOp, hu]) hr
 case lookup t m k ok =>
  obtain ⟨u, hu, hr⟩ := aSr (P := P) hE hg (hρ m (by simp)) (hρ k (by simp)) hc
  exact Did.of_value hg (by simp [execOp, hu]) hr
 case move x =>
  exact Did.of_value (v := a.eval x) hg (by simp [execOp]) (aRd (hρ x (by simp)))
 case assign x =>
  exact Did.of_value (v := a.eval x) hg (by simp [execOp]) (aRd (hρ x (by simp)))
 case load t x =>
  obtain ⟨u, hu, hr⟩ := aQ6 hE.T hg (hρ x (by simp)) hc
  exact Did.of_value hg (by simp [execOp, hu]) hr
 case binOp op t x y yt =>
  have hx := hρ x (by simp)
  have hy := hρ y (by simp)
  split at hc
  ·obtain ⟨r, h1, h2, h3⟩ := aXG (P := P) (ox := x) hE.T hx hc
   have e : a.eval (.const .nilIface) = .nilIface := rfl
   exact Did.of_value hg (by simp [execOp, e, h1, h2]) h3
  ·obtain ⟨u, hu, hr⟩ := aXD (P := P) hE.T hx hy hc
   have hgd := aTG (P := P) hE.T (u := a.eval y) (ox := x) (oy := y) hx hc
   exact Did.of_value hg (by simp [execOp, hgd, hu]) hr
 case unOp op t x =>
  obtain ⟨u, hu, hr⟩ := aYp (P := P) (hρ x (by simp)) hc
  exact Did.of_value hg (by simp [execOp, hu]) hr
 case convert s d x =>
  have hx := hρ x (by simp)
  unfold aTB at hc ⊢
  split at hc
  ·rename_i b hd hb
   rw [hb] at hx
   obtain ⟨u, w', c', hr, ha⟩ := aOf (P := P) hE.T hg hc hd hx
   exact .inl ⟨u, w', c', by simp [execOp, hr], by simpa only [hd, hb] using ha⟩
  ·rename_i hd
   split at hc
   ·rename_i hs
    split at hc
    ·rename_i k sz off n hx2
     split at hc
     ·rename_i q m xs ho
      obtain ⟨rfl, hle⟩ := hc
      rw [hx2] at hx
      obtain ⟨u, hu, hr⟩ := aM0 (P := P) hE.T hg hs hd hx ho hle
      exact Did.of_value (v := u) hg (by simp [execOp, hu]) (by simpa only [hd, hs, hx2, ho] using hr)
     ·exact hc.elim
    split at hc
    ·rename_i b ha
     obtain ⟨u, hu, hr⟩ := aK2 (P := P) hE.T hg hs hd hx ha
     exact Did.of_value (v := u) hg (by simp [execOp, hu]) (by simpa only [hd, hs, ha] using hr)
    ·exact hc.elim
   ·obtain ⟨u, hu, hr⟩ := aQ9 (P := P) hE.T hx hc
    exact Did.of_value hg (by simp [execOp, hu]) hr
  ·obtain ⟨u, hu, hr⟩ := aQ9 (P := P) hE.T hx hc
   exact Did.of_value hg (by simp [execOp, hu]) hr
 case fieldAddr s x k =>
  obtain ⟨u, hu, hr⟩ := aTt (P := P) hE.T (hρ x (by simp)) hc
  exact Did.of_value hg (by simp [execOp, hu]) hr
 case field s x k =>
  obtain ⟨u, hu, hr⟩ := aTu (P := P) hE.T (hρ x (by simp)) hc
  exact Did.of_value hg (by simp [execOp, hu]) hr
 case indexAddr t x i =>
  obtain ⟨u, hu, hr⟩ := aTv (P := P) hE.T hg (hρ x (by simp)) (hρ i (by simp)) hc
  exact Did.of_value hg (by simp [execOp, hu]) hr
 case index t x i =>
  obtain ⟨u, hu, hr⟩ := aTx (P := P) hE.T (hρ x (by simp)) (hρ i (by simp)) hc
  exact Did.of_value hg (by simp [execOp, hu]) hr
 case slice t x lo hi mx =>
  obtain ⟨u, hu, hr⟩ := aTy (P := P) hE.T hg (hρ x (by simp)) (aJa (o := lo) fun y hy => hρ y (by simp [hy])) (aJa (o := hi) fun y hy => hρ y (by simp [hy])) (aJa (o := mx) fun y hy => hρ y (by simp [hy])) hc
  exact Did.of_value hg (by simp [execOp, hu]) hr
 case extract x i =>
  have hx := hρ x (by simp)
  unfold aF8 at hc ⊢
  split at hc
  ·rename_i vs e
   rw [e] at hx
   obtain ⟨u, hu, hr⟩ := aV5 (P := P) hx hc
   simp only
   exact Did.of_value hg (by simp [execOp, hu]) hr
  ·exact hc.elim
 case build t ps =>
  have hp := aI9 (l := ps.toList) (ρ := ρ) (a := a) (c := c) (w := w) (fun p hp => hρ p.2 (List.mem_toArray.2 (List.mem_map_of_mem hp)))
  obtain ⟨u, hu, hr⟩ := aTA (P := P) hE.T hp hc
  have e : (ps.map fun x => (x.1, a.eval x.2)) = (ps.toList.map fun p => (p.1, a.eval p.2)).toArray := by rw [← Array.toList_inj]; simp
  exact Did.of_value hg (by simp only [execOp]; rw [e]; simp [hu]) hr
 case buildSlice t n ps =>
  have hp := aI9 (l := ps.toList) (ρ := ρ) (a := a) (c := c) (w := w) (fun p hp => hρ p.2 (List.mem_toArray.2 (List.mem_map_of_mem hp)))
  obtain ⟨u, w', c', hu, hr⟩ := aK1 (P := P) hE.T hg hp hc
  have e : (ps.map fun x => (x.1, a.eval x.2)) = (ps.toList.map fun p => (p.1, a.eval p.2)).toArray := by rw [← Array.toList_inj]; simp
  exact .inl ⟨u, w', c', by simp only [execOp]; rw [e]; simp [hu], hr⟩
 case nilCheck x =>
  have hx := hρ x (by simp)
  cases hxv : ρ x <;> rw [hxv] at hx hc <;> simp only [aEo] at hc ⊢ <;> (try exact hc.elim)
  ·obtain ⟨_, b, _, e⟩ := aAd hx
   exact Did.of_value (v := a.eval x) hg (by simp [execOp, e]) hx
  ·obtain ⟨b, off, ds, e, _⟩ := aIC hx
   exact Did.of_value (v := a.eval x) hg (by simp [execOp, e]) hx
  ·have e : ∃ f l1 l2, a.eval x = .func (.func f) l1 l2 := by
    obtain ⟨h1, _, h3⟩ := hx
    have h3 := h3 rfl
    simp only [aI] at h1
    have h1 := h1.2.2
    cases hv : a.eval x <;> rw [hv] at h1 h3 <;> simp [Value.cells] at h1 h3
    obtain ⟨rfl, rfl, rfl⟩ := h1
    exact ⟨_, _, _, rfl⟩
   obtain ⟨f, l1, l2, e⟩ := e
   exact Did.of_value (v := a.eval x) hg (by simp [execOp, e]) hx
 case makeFunc fn first caps =>
  cases fn with
  | func f =>
   simp only at hc ⊢
   unfold aEq at hc ⊢
   split at hc
   ·rename_i l1 l2 e1 e2
    obtain ⟨q1, q2⟩ := aE5 hg e1 (vs := first.toList.map a.eval) (by simp) (aBt fun x hx => hρ x (by simp at hx; simp [hx]))
    obtain ⟨q3, q4⟩ := aE5 hg e2 (vs := caps.toList.map a.eval) (by simp) (aBt fun x hx => hρ x (by simp at hx; simp [hx]))
    simp only [e1, e2]
    refine Did.of_value hg (v := .func (.func f) (l1.map c.hd).toArray (l2.map c.hd).toArray) ?_ (aXE q1 q3)
    have e3 : ∀ l : Array Operand, l.map a.eval = (l.toList.map a.eval).toArray := fun l => by rw [← Array.toList_inj]; simp
    rw [← q2, ← q4, ← e3, ← e3]
    simp [execOp, Instr.makeFunc]
   ·rename_i l1 e1 e2
    split at hc
    ·rename_i t y e4
     obtain ⟨q1, q2⟩ := aE5 hg e1 (vs := first.toList.map a.eval) (by simp) (aBt fun x hx => hρ x (by simp at hx; simp [hx]))
     simp only [e1, e2, e4]
     have hl1 : l1 = [] := hc
     subst hl1
     have e5 := aTH e4 (vs := caps.toList.map a.eval) (by simp) (aBt fun x hx => hρ x (by simp at hx; simp [hx]))
     refine Did.of_value hg (v := .func (.func f) #[] (caps.toList.map a.eval).toArray) ?_ (aP.ofV ?_)
     ·have e3 : ∀ l : Array Operand, l.map a.eval = (l.toList.map a.eval).toArray := fun l => by rw [← Array.toList_inj]; simp
      have e6 : first.map a.eval = #[] := by rw [e3, q2]; rfl
      rw [← e3]
      simp [execOp, Instr.makeFunc, e6]
     ·unfold cU
      rw [if_neg (by simp [Ty.isAgg])]
      exact ⟨_, rfl, e5⟩
    ·exact hc.elim
   ·exact hc.elim
  | _ => exact hc.elim
 case call cl =>
  obtain ⟨callee, args, argTypes⟩ := cl
  simp only at hc ⊢
  have hargs : ∀ x ∈ args.toList, aP c w (ρ x) (a.eval x) := fun x hx => hρ x (by
   simp only [Call.operands]
   exact Array.mem_append.2 (.inr (by simpa using hx)))
  cases callee with
  | builtin b =>
   cases b <;> simp only [aE4] at hc ⊢ <;> (try exact hc.elim)
   case len =>
    split at hc
    ·rename_i x t ex et
     obtain ⟨y, ey, rfl⟩ : ∃ y, args.toList = [y] ∧ ρ y = x := by
      match hl : args.toList, ex with
      | [y], ex => simp at ex; exact ⟨y, rfl, ex⟩
     have hy := hargs y (by rw [ey]; simp)
     obtain ⟨u, hu, hr⟩ := aXC (P := P) (ty := ty) hE.T hg hy hc
     have e1 : args = #[y] := by rw [← Array.toList_inj]; exact ey
     have e2 : argTypes = #[t] := by rw [← Array.toList_inj]; exact et
     exact Did.of_value hg (by rw [e1, e2]; simp [execOp, resolve, invoke, builtin, hu]) hr
    ·exact hc.elim
   case min =>
    unfold aTq at hc ⊢
    split at hc
    ·rename_i x y exy
     obtain ⟨p, q, epq, rfl, rfl⟩ : ∃ p q, args.toList = [p, q] ∧ ρ p = x ∧ ρ q = y := by
      match hl : args.toList, exy with
      | [p, q], ex => simp at ex; exact ⟨p, q, rfl, ex.1, ex.2⟩
     have hp := hargs p (by rw [epq]; simp)
     have hq := hargs q (by rw [epq]; simp)
     obtain ⟨u, hu, hr⟩ := aF6 (P := P) hp hq hc
     have hu : (Builtin.min2 (a.eval p) (a.eval q)).run P w = .ok u w := hu
     have e1 : args = #[p, q] := by rw [← Array.toList_inj]; exact epq
     exact Did.of_value hg (by rw [e1]; simp [execOp, resolve, invoke, builtin, Builtin.min_, hu]) hr
    ·rename_i x y z exyz
     obtain ⟨p, q, r, epq, rfl, rfl, rfl⟩ : ∃ p q r, args.toList = [p, q, r] ∧ ρ p = x ∧ ρ q = y ∧ ρ r = z := by
      match hl : args.toList, exyz with
      | [p, q, r], ex => simp at ex; exact ⟨p, q, r, rfl, ex.1, ex.2.1, ex.2.2⟩
     have hp := hargs p (by rw [epq]; simp)
     have hq := hargs q (by rw [epq]; simp)
     have hr' := hargs r (by rw [epq]; simp)
     obtain ⟨u, hu, hr⟩ := aF6 (P := P) hp hq hc.1
     obtain ⟨u2, hu2, hr2⟩ := aF6 (P := P) hr hr' hc.2
     have hu : (Builtin.min2 (a.eval p) (a.eval q)).run P w = .ok u w := hu
     have hu2 : (Builtin.min2 u (a.eval r)).run P w = .ok u2 w := hu2
     have e1 : args = #[p, q, r] := by rw [← Array.toList_inj]; exact epq
     exact Did.of_value hg (by rw [e1]; simp [execOp, resolve, invoke, builtin, Builtin.min_, hu, hu2]) hr2
    ·exact hc.elim
   case max =>
    unfold aTq at hc ⊢
    split at hc
    ·rename_i x y exy
     obtain ⟨p, q, epq, rfl, rfl⟩ : ∃ p q, args.toList = [p, q] ∧ ρ p = x ∧ ρ q = y := by
      match hl : args.toList, exy with
      | [p, q], ex => simp at ex; exact ⟨p, q, rfl, ex.1, ex.2⟩
     have hp := hargs p (by rw [epq]; simp)
     have hq := hargs q (by rw [epq]; simp)
     obtain ⟨u, hu, hr⟩ := aF6 (P := P) hp hq hc
     have hu : (Builtin.max2 (a.eval p) (a.eval q)).run P w = .ok u w := hu
     have e1 : args = #[p, q] := by rw [← Array.toList_inj]; exact epq
     exact Did.of_value hg (by rw [e1]; simp [execOp, resolve, invoke, builtin, Builtin.max_, hu]) hr
    ·rename_i x y z exyz
     obtain ⟨p, q, r, epq, rfl, rfl, rfl⟩ : ∃ p q r, args.toList = [p, q, r] ∧ ρ p = x ∧ ρ q = y ∧ ρ r = z := by
      match hl : args.toList, exyz with
      | [p, q, r], ex => simp at ex; exact ⟨p, q, r, rfl, ex.1, ex.2.1, ex.2.2⟩
     have hp := hargs p (by rw [epq]; simp)
     have hq := hargs q (by rw [epq]; simp)
     have hr' := hargs r (by rw [epq]; simp)
     obtain ⟨u, hu, hr⟩ := aF6 (P := P) hp hq hc.1
     obtain ⟨u2, hu2, hr2⟩ := aF6 (P := P) hr hr' hc.2
     have hu : (Builtin.max2 (a.eval p) (a.eval q)).run P w = .ok u w := hu
     have hu2 : (Builtin.max2 u (a.eval r)).run P w = .ok u2 w := hu2
     have e1 : args = #[p, q, r] := by rw [← Array.toList_inj]; exact epq
     exact Did.of_value hg (by rw [e1]; simp [execOp, resolve, invoke, builtin, Builtin.max_, hu, hu2]) hr2
    ·exact hc.elim
  | value f =>
   have hf := hρ f (by simp [Call.operands])
   simp only [aE4] at hc ⊢
   have hav := aBt (ρ := ρ) (a := a) (c := c) (w := w) hargs
   split at hc
   ·rename_i g l2 e
    rw [e] at hf
    split at hc
    ·rename_i hb
     simp only [e, if_pos hb]
     obtain ⟨hl2, hfv⟩ := aRg hf
     exact aJd (f := f) hE hg hG (us := l2.map c.hd) (by simpa using hfv) (by simp) hav (aJb hg hb hl2) hc
    ·exact hc.elim
   ·rename_i g t y e
    rw [e] at hf
    split at hc
    ·rename_i hb
     simp only [e, if_pos hb]
     obtain ⟨us, hfv, hrep⟩ := aOk hf
     obtain ⟨h1, h2⟩ := aJc hb hrep
     exact aJd (f := f) hE hg hG (us := us) hfv h1 hav h2 hc
    ·exact hc.elim
   ·exact hc.elim
  | _ => exact hc.elim
end
end Go.Vc
namespace Go.Vc
open Go.RowKit
structure Ent where
 i : Nat
 d : Nat
 gp : List (Nat × Bool)
 av : AV
def rR : List Ent → Nat → Option Ent
 | [], _ => none
 | e :: r, j => if e.i = j then some e else rR r j
def xM : List Ent → Nat → Option Ent
 | [], _ => none
 | e :: r, t => if e.d = t then some e else xM r t
def aJf : AV → Bool
 | .val .bool b => b
 | _ => false
def aA2 : AV → Bool
 | .val .bool _ => true
 | _ => false
def yV (acc : List Ent) : Option (Nat × Bool) → List (Nat × Bool)
 | none => []
 | some (j, p) => match rR acc j with
  | some e => e.gp ++ [(j, p)]
  | none => [(j, p)]
def fC (acc : List Ent) : List (Nat × Bool) → Prop
 | [] => True
 | (j, p) :: r => (match rR acc j with | some e => aJf e.av = p | none => False) ∧ fC acc r
def aAf (acc : List Ent) : Option (Nat × Bool) → Prop
 | none => True
 | some (j, _) => match rR acc j with
  | some e => aA2 e.av = true
  | none => False
def aE6 : List (Nat × Bool) → List (Nat × Bool) → Bool
 | [], _ => true
 | _ :: _, [] => false
 | (j, p) :: r, (k, q) :: s => decide (j = k) && (p == q) && aE6 r s
def aJg (G : Nat → AV) (acc : List Ent) (env : List (Nat × AV)) (gp : List (Nat × Bool)) : Operand → AV
 | .tmp t => match xM acc t with
  | some e => if aE6 e.gp gp = true then e.av else .junk
  | none => look env t
 | x => evA G env x
def aTI (G : Nat → AV) (acc : List Ent) (env : List (Nat × AV)) (gp : List (Nat × Bool)) (c a b : Operand) : Prop × AV :=
 match c with
 | .tmp t => match xM acc t with
  | some e => match (if aE6 e.gp gp = true then e.av else .junk), aJg G acc env (gp ++ [(e.i, true)]) a, aJg G acc env (gp ++ [(e.i, false)]) b with
   | .val .bool q, .val .bool x, .val .bool y => (True, .val .bool (bif q then x else y))
   | _, _, _ => (False, .junk)
  | none => (False, .junk)
 | _ => (False, .junk)
noncomputable def opA (E : Env) (h : List Obj) (env : List (Nat × AV)) (acc : List Ent) (o : Oper) : Prop × AV :=
 match o.op with
 | .pick c a b => aTI E.G acc env (yV acc o.guard) c a b
 | _ => pv E h (aJg E.G acc env (yV acc o.guard)) o
def vcA (E : Env) (h : List Obj) (env : List (Nat × AV)) : List Oper → Nat → List Ent → (List Ent → Prop) → Prop
 | [], _, acc, K => K acc
 | o :: r, i, acc, K => match o.dst, opA E h env acc o with
  | some d, (p, v) => aAf acc o.guard ∧ (fC acc (yV acc o.guard) → p) ∧ vcA E h env r (i + 1) (⟨i, d, yV acc o.guard, v⟩ :: acc) K
  | none, _ => False
def kW : List Ent → List (Nat × AV) → List (Nat × AV)
 | [], env => env
 | e :: r, env => (e.d, match e.gp with | [] => e.av | _ :: _ => .junk) :: kW r env
structure rP (E : Env) (h : List Obj) (env : List (Nat × AV)) (ops : List Oper) (F : Nat → List Ent) : Prop where
 zero : F 0 = []
 step : ∀ i o, ops[i]? = some o → ∃ d, o.dst = some d ∧ aAf (F i) o.guard ∧ (fC (F i) (yV (F i) o.guard) → (opA E h env (F i) o).1) ∧ F (i + 1) = ⟨i, d, yV (F i) o.guard, (opA E h env (F i) o).2⟩ :: F i
theorem aBu {E : Env} {h : List Obj} {env : List (Nat × AV)} : ∀ (l : List Oper) (i : Nat) (acc : List Ent) (K : List Ent → Prop), vcA E h env l i acc K →
  ∃ F : Nat → List Ent, F i = acc ∧ (∀ k o, l[k]? = some o → ∃ d, o.dst = some d ∧ aAf (F (i + k)) o.guard ∧ (fC (F (i + k)) (yV (F (i + k)) o.guard) → (opA E h env (F (i + k)) o).1) ∧ F (i + k + 1) = ⟨i + k, d, yV (F (i + k)) o.guard, (opA E h env (F (i + k)) o).2⟩ :: F (i + k)) ∧ K (F (i + l.length))
 | [], i, acc, K, hv => ⟨fun _ => acc, rfl, fun k o ho => by simp at ho, hv⟩
 | o :: r, i, acc, K, hv => by
  simp only [vcA] at hv
  split at hv
  ·rename_i d p v hd hpv
   obtain ⟨h1, h2, h3⟩ := hv
   obtain ⟨F, f1, f2, f3⟩ := aBu r (i + 1) _ K h3
   refine ⟨fun j => if j ≤ i then acc else F j, by simp, fun k o' ho' => ?_, ?_⟩
   ·cases k with
    | zero =>
     simp at ho'
     subst ho'
     refine ⟨d, hd, by simpa using h1, ?_, ?_⟩
     ·simp only [Nat.add_zero, Nat.le_refl, if_true]
      rw [hpv]; exact h2
     ·simp only [Nat.add_zero, Nat.le_refl, if_true, show ¬ (i + 1 ≤ i) from by omega, if_false]
      rw [f1, hpv]
    | succ k =>
     simp only [List.getElem?_cons_succ] at ho'
     obtain ⟨d', q1, q2, q3, q4⟩ := f2 k o' ho'
     have e1 : ¬ (i + (k + 1) ≤ i) := by omega
     have e2 : ¬ (i + (k + 1) + 1 ≤ i) := by omega
     have e3 : i + (k + 1) = i + 1 + k := by omega
     simp only [e1, e2, if_false]
     rw [e3]
     exact ⟨d', q1, q2, q3, q4⟩
   ·have e1 : ¬ (i + (o :: r).length ≤ i) := by simp
    simp only [e1, if_false]
    rw [show i + (o :: r).length = i + 1 + r.length from by simp; omega]
    exact f3
  ·exact hv.elim
section
variable {E : Env} {h : List Obj} {env : List (Nat × AV)} {ops : List Oper} {F : Nat → List Ent}
theorem iP (hF : rP E h env ops F) : ∀ (i : Nat), i ≤ ops.length → ∀ j, (j < i → ∃ o d, ops[j]? = some o ∧ o.dst = some d ∧ rR (F i) j = some ⟨j, d, yV (F j) o.guard, (opA E h env (F j) o).2⟩) ∧ (i ≤ j → rR (F i) j = none)
 | 0, _, j => ⟨fun h => absurd h (Nat.not_lt_zero j), fun _ => by rw [hF.zero]; rfl⟩
 | i + 1, hi, j => by
  have ho : ops[i]? = some ops[i] := List.getElem?_eq_getElem (by omega)
  obtain ⟨d, h1, h2, h3, h4⟩ := hF.step i _ ho
  obtain ⟨q1, q2⟩ := iP hF i (by omega) j
  rw [h4]
  refine ⟨fun hj => ?_, fun hj => ?_⟩
  ·by_cases e : j = i
   ·subst e
    exact ⟨_, d, ho, h1, by simp [rR]⟩
   ·obtain ⟨o, d', k1, k2, k3⟩ := q1 (by omega)
    exact ⟨o, d', k1, k2, by rw [rR, if_neg (fun e' => e e'.symm)]; exact k3⟩
  ·rw [rR, if_neg (by intro e; simp only at e; omega)]
   exact q2 (by omega)
theorem aBv (hF : rP E h env ops F) : ∀ (i : Nat), i ≤ ops.length → ∀ t e, xM (F i) t = some e → e.i < i ∧ e.d = t ∧ rR (F i) e.i = some e ∧ ∃ o, ops[e.i]? = some o ∧ o.dst = some t
 | 0, _, t, e, he => by rw [hF.zero] at he; cases he
 | i + 1, hi, t, e, he => by
  have ho : ops[i]? = some ops[i] := List.getElem?_eq_getElem (by omega)
  obtain ⟨d, h1, h2, h3, h4⟩ := hF.step i _ ho
  rw [h4] at he ⊢
  simp only [xM] at he
  split at he
  ·rename_i hd
   cases he
   subst hd
   exact ⟨Nat.lt_succ_self _, rfl, by simp [rR], _, ho, h1⟩
  ·obtain ⟨k1, k2, k3, k4⟩ := aBv hF i (by omega) t e he
   exact ⟨by omega, k2, by rw [rR, if_neg (by intro e'; simp only at e'; omega)]; exact k3, k4⟩
theorem aEr (hF : rP E h env ops F) : ∀ (i : Nat), i ≤ ops.length → ∀ t, xM (F i) t = none → ∀ k o, k < i → ops[k]? = some o → o.dst ≠ some t
 | 0, _, t, _, k, o, hk, _ => absurd hk (Nat.not_lt_zero k)
 | i + 1, hi, t, he, k, o, hk, hko => by
  have ho : ops[i]? = some ops[i] := List.getElem?_eq_getElem (by omega)
  obtain ⟨d, h1, h2, h3, h4⟩ := hF.step i _ ho
  rw [h4] at he
  simp only [xM] at he
  split at he
  ·cases he
  ·rename_i hd
   by_cases e : k = i
   ·subst e
    rw [ho] at hko
    cases hko
    rw [h1]
    intro e
    cases e
    exact hd rfl
   ·exact aEr hF i (by omega) t he k o (by omega) hko
theorem wM (hF : rP E h env ops F) {i j k : Nat} {e : Ent} (hi : i ≤ ops.length) (hk : k ≤ ops.length) (hik : i ≤ k) (he : rR (F i) j = some e) : rR (F k) j = some e := by
 have hj : j < i := by
  rcases Nat.lt_or_ge j i with h | h
  ·exact h
  ·rw [(iP hF i hi j).2 h] at he; cases he
 obtain ⟨o, d, h1, h2, h3⟩ := (iP hF i hi j).1 hj
 obtain ⟨o', d', h1', h2', h3'⟩ := (iP hF k hk j).1 (by omega)
 rw [h1] at h1'
 cases h1'
 rw [h2] at h2'
 cases h2'
 rw [h3] at he
 rw [h3', ← he]
def aHO (F : List Ent) : List (Nat × Bool) → Prop
 | [] => True
 | (j, _) :: r => (∃ e, rR F j = some e ∧ aA2 e.av = true) ∧ aHO F r
theorem aB5 (hF : rP E h env ops F) {i k : Nat} (hi : i ≤ ops.length) (hk : k ≤ ops.length) (hik : i ≤ k) : ∀ {gp : List (Nat × Bool)}, aHO (F i) gp → fC (F k) gp → fC (F i) gp
 | [], _, _ => trivial
 | (j, p) :: r, hin, hg => by
  simp only [fC, aHO] at hg hin ⊢
  obtain ⟨⟨e, he, _⟩, hin⟩ := hin
  refine ⟨?_, aB5 hF hi hk hik hin hg.2⟩
  rw [wM hF hi hk hik he] at hg
  rw [he]; exact hg.1
theorem yW {F : List Ent} : ∀ {g1 g2 : List (Nat × Bool)}, fC F (g1 ++ g2) ↔ fC F g1 ∧ fC F g2
 | [], g2 => by simp [fC]
 | (j, p) :: r, g2 => by simp only [List.cons_append, fC, yW (g1 := r), and_assoc]
theorem aG0 {F : List Ent} : ∀ {g1 g2 : List (Nat × Bool)}, aHO F (g1 ++ g2) ↔ aHO F g1 ∧ aHO F g2
 | [], g2 => by simp [aHO]
 | (j, p) :: r, g2 => by simp only [List.cons_append, aHO, aG0 (g1 := r), and_assoc]
theorem aJh (hF : rP E h env ops F) {i k : Nat} (hi : i ≤ ops.length) (hk : k ≤ ops.length) (hik : i ≤ k) : ∀ {gp : List (Nat × Bool)}, aHO (F i) gp → aHO (F k) gp
 | [], _ => trivial
 | (j, p) :: r, hg => by
  simp only [aHO] at hg ⊢
  obtain ⟨⟨e, he, hb⟩, hr⟩ := hg
  exact ⟨⟨e, wM hF hi hk hik he, hb⟩, aJh hF hi hk hik hr⟩
theorem aV6 (hF : rP E h env ops F) : ∀ (i : Nat) {o : Oper}, ops[i]? = some o → aHO (F i) (yV (F i) o.guard) := by
 intro i
 induction i using Nat.strongRecOn with
 | _ i ih =>
  intro o ho
  have hi : i < ops.length := by
   rcases Nat.lt_or_ge i ops.length with h | h
   ·exact h
   ·rw [List.getElem?_eq_none h] at ho; cases ho
  obtain ⟨d, h1, h2, h3, h4⟩ := hF.step i o ho
  cases hg : o.guard with
  | none => trivial
  | some jp =>
   obtain ⟨j, p⟩ := jp
   rw [hg] at h2
   simp only [aAf] at h2
   simp only [yV]
   cases he : rR (F i) j with
   | none => rw [he] at h2; exact h2.elim
   | some e =>
    rw [he] at h2
    have hji : j < i := by
     rcases Nat.lt_or_ge j i with h | h
     ·exact h
     ·rw [(iP hF i (by omega) j).2 h] at he; cases he
    obtain ⟨o', d', k1, k2, k3⟩ := (iP hF i (by omega) j).1 hji
    rw [k3] at he
    cases he
    rw [aG0]
    exact ⟨aJh hF (by omega) (by omega) (by omega) (ih j hji k1), ⟨_, k3, h2⟩, trivial⟩
theorem aCJ {F : List Ent} : ∀ {g1 g2 : List (Nat × Bool)}, aE6 g1 g2 = true → fC F g2 → fC F g1
 | [], _, _, _ => trivial
 | (j, p) :: r, [], hp, _ => by simp [aE6] at hp
 | (j, p) :: r, (k, q) :: s, hp, hg => by
  simp only [aE6, Bool.and_eq_true, decide_eq_true_eq, beq_iff_eq] at hp
  obtain ⟨⟨rfl, rfl⟩, hp⟩ := hp
  simp only [fC] at hg ⊢
  exact ⟨hg.1, aCJ hp hg.2⟩
end
end Go.Vc
