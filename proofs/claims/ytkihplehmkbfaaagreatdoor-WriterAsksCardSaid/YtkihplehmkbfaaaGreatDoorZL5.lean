import Derived.Test.YtkihplehmkbfaaaGreatDoorZL4
import Derived.ProofKit
import Derived.OpenShut
import Derived.Below
import Derived.Recover
import Derived.Shelf.Strings.Builder1
import Derived.LaidMore
import Derived.LaidHandle
import Derived.MakeChecks
set_option linter.unusedVariables false
set_option linter.unusedSimpArgs false
namespace Go.Vc
open Go.RowKit
def Ty.argB : Ty → Bool
 | .bool => true
 | .u _ => true
 | .i _ => true
 | .str => true
 | .sl t => t.argB
 | .unit => true
 | .pair a b => a.argB && b.argB
 | .arr _ t => t.argB
 | .expr => true
 | _ => false
section
variable {P : Program} {T : Tab} {H : Type} {enc : TypeId × Value → H} {w : World} {spare : Nat → Bool} {held : Bool}
theorem jD {t : TypeId} {c : Ty} (h : zP P T t c) : P.cellsOf t = c.cells := by
 obtain ⟨i, hi, hs, _⟩ := h.info
 simp [Program.cellsOf, hi, hs]
def wB (w : World) : Nat → Prop := fun b => b < w.heap.size
theorem aGr {a : Addr} {n : Nat} {ds : List Value} (h : w.cells? 0 a n = some ds) : ds.length = n ∧ ∀ j, j < n → w.cell? (a.add j) = ds[j]? := by
 unfold World.cells? at h
 rw [if_pos (Nat.zero_le _)] at h
 have hl := mapM_some_length h
 have hg := mapM_some_get h
 simp only [List.length_range] at hl
 exact ⟨hl, fun j hj => hg j j (by simp [hj])⟩
theorem aSW {b off : Nat} {v : Value} (h : w.cell? ⟨b, off, none⟩ = some v) : b < w.heap.size := by
 rcases Nat.lt_or_ge b w.heap.size with hl | hl
 ·exact hl
 ·simp [World.cell?, Array.getElem?_eq_none hl] at h
theorem aYW (a : Addr) (i j : Nat) (h : a.spot = none) : (a.add i).add j = ⟨a.block, a.off + i + j, none⟩ := by
 obtain ⟨b, o, s⟩ := a
 simp only at h
 subst h
 unfold Addr.add
 by_cases hi : i = 0 <;> by_cases hj : j = 0 <;> simp [hi, hj] <;> omega
theorem aVf {sz : Nat} (hsz : 0 < sz) {α : Type} {R : α → List Value → Prop} {a : Addr} {len : Nat} (hel : ∀ i, i < len → ∃ ds x, w.cells? 0 (a.add (i * sz)) sz = some ds ∧ R x ds) :
  ∃ xs : List α, xs.length = len ∧ (xs = [] ∨ ∃ b off, some a = some ⟨b, off, none⟩ ∧ wB w b ∧ ∀ i (h : i < xs.length), ∃ ds, R xs[i] ds ∧ iF w b (off + i * sz) ds) := by
 classical
 by_cases h0 : len = 0
 ·exact ⟨[], by simp [h0], .inl rfl⟩
 have hpos : 0 < len := by omega
 obtain ⟨ds0, x0, e0, _⟩ := hel 0 hpos
 have hsp : a.spot = none := by
  obtain ⟨hl, hg⟩ := aGr e0
  have := hg 0 hsz
  have hd : (ds0)[0]? = some (ds0[0]'(by omega)) := List.getElem?_eq_getElem (by omega)
  rw [hd] at this
  have := World.cell?_spot this
  simpa [Addr.add] using this
 have hf : ∃ f : Nat → α, ∀ i, i < len → ∃ ds, w.cells? 0 (a.add (i * sz)) sz = some ds ∧ R (f i) ds := by
  refine ⟨fun i => if h : i < len then Classical.choose (Classical.choose_spec (hel i h)) else x0, fun i hi => ?_⟩
  simp only [dif_pos hi]
  exact ⟨Classical.choose (hel i hi), Classical.choose_spec (Classical.choose_spec (hel i hi))⟩
 obtain ⟨f, hf⟩ := hf
 have hcell : ∀ i, i < len → ∀ ds, w.cells? 0 (a.add (i * sz)) sz = some ds → iF w a.block (a.off + i * sz) ds := fun i hi ds hds j v hj => by
  obtain ⟨hl, hg⟩ := aGr hds
  have hjl : j < sz := by
   rcases Nat.lt_or_ge j sz with h | h
   ·exact h
   ·rw [List.getElem?_eq_none (by omega)] at hj; cases hj
  have := hg j hjl
  rw [aYW a _ j hsp, hj] at this
  exact this
 refine ⟨(List.range len).map f, by simp, .inr ⟨a.block, a.off, ?_, ?_, fun i hi => ?_⟩⟩
 ·obtain ⟨b, o, s⟩ := a; simp only at hsp; subst hsp; rfl
 ·obtain ⟨ds, hds, _⟩ := hf 0 hpos
  have := hcell 0 hpos ds hds 0 (ds[0]'(by rw [(aGr hds).1]; exact hsz)) (List.getElem?_eq_getElem _)
  exact aSW this
 ·simp only [List.length_map, List.length_range] at hi
  obtain ⟨ds, hds, hR⟩ := hf i hi
  exact ⟨ds, by simpa using hR, hcell i hi ds hds⟩
theorem aKm {n : Nat} (ih : ∀ (t : TypeId) (c : Ty) (cs : List Value) (x : DataW H × List MemPlace), T t = some c → c.argB = true → DataW.trod enc P w 0 spare held n t cs = some x → ∃ y, aW w (wB w) c y cs) (hT : gM P T) (cs : List Value) :
  ∀ (fs : List Field) (off : Nat) (c : Ty), cQ T fs off c = true → c.argB = true → (cs.drop off).length = c.cells → (∀ f ∈ fs, ∃ x, DataW.trod enc P w 0 spare held n f.type ((cs.drop f.offset).take (P.cellsOf f.type)) = some x) → ∃ y, aW w (wB w) c y (cs.drop off)
 | [], off, c, hf, ha, hl, _ => by
  cases c <;> simp [cQ] at hf
  exact ⟨(), List.eq_nil_of_length_eq_zero hl⟩
 | f :: fs, off, c, hf, ha, hl, hx => by
  cases c <;> simp only [cQ, Bool.false_eq_true] at hf
  case pair a b =>
   simp only [Bool.and_eq_true, decide_eq_true_eq] at hf
   obtain ⟨⟨⟨⟨h1, h2⟩, h3⟩, h4⟩, h5⟩ := hf
   simp only [Ty.argB, Bool.and_eq_true] at ha
   obtain ⟨x, hx0⟩ := hx f (by simp)
   rw [jD (hT _ _ h1), h2] at hx0
   obtain ⟨y1, r1⟩ := ih _ _ _ _ h1 ha.1 hx0
   simp only [Ty.cells] at hl
   obtain ⟨y2, r2⟩ := aKm ih hT cs fs (off + a.cells) b h5 ha.2 (by simp only [List.length_drop] at hl ⊢; omega) (fun g hg => hx g (by simp [hg]))
   refine ⟨(y1, y2), (cs.drop off).take a.cells, cs.drop (off + a.cells), ?_, r1, r2⟩
   rw [← List.drop_drop, List.take_append_drop]
theorem aPN (hT : gM P T) : ∀ (n : Nat) (t : TypeId) (c : Ty) (cs : List Value) (x : DataW H × List MemPlace), T t = some c → c.argB = true → DataW.trod enc P w 0 spare held n t cs = some x → ∃ y, aW w (wB w) c y cs := by
 intro n
 induction n with
 | zero => intro t c cs x _ _ h; simp [DataW.trod] at h
 | succ n ih =>
  intro t c cs x ht ha h
  obtain ⟨d, hd, hb⟩ := (hT _ _ ht).desc
  cases c with
  | bool =>
   cases d <;> simp [eX] at hb
   obtain ⟨b, e, _⟩ := DataW.trod_bool hd h
   exact ⟨b, e⟩
  | u k =>
   cases d <;> simp [eX] at hb
   rename_i k'
   obtain ⟨rfl, hb⟩ := hb
   obtain ⟨m, e, _, hw⟩ := DataW.trod_int hd h
   simp only [Lit.wf, Bool.and_eq_true, decide_eq_true_eq] at hw
   have hmin : IntKind.min k = 0 := by cases k <;> first | rfl | (simp [IntKind.signed] at hb; done)
   have hm : ((m.toNat : Nat) : Int) = m := Int.toNat_of_nonneg (by omega)
   exact ⟨m.toNat, by rw [hm]; exact e, hb, by rw [hm]; exact hw.2⟩
  | i k =>
   cases d <;> simp [eX] at hb
   rename_i k'
   obtain ⟨rfl, hb⟩ := hb
   obtain ⟨m, e, _, hw⟩ := DataW.trod_int hd h
   simp only [Lit.wf, Bool.and_eq_true, decide_eq_true_eq] at hw
   exact ⟨m, e, hb, hw.1, hw.2⟩
  | str =>
   cases d <;> simp [eX] at hb
   obtain ⟨s, e, _, hs⟩ := DataW.trod_string hd h
   exact ⟨aN s, s, e, rfl, hs⟩
  | sl t1 =>
   cases d <;> simp [eX] at hb
   obtain ⟨hb1, hb2⟩ := hb
   rcases DataW.trod_slice hd h with ⟨rfl, _⟩ | ⟨a, len, cap, elems, rest, m, hm, rfl, _, _, hl, hc, hlen, hel, _⟩
   ·exact ⟨[], none, 0, 0, rfl, rfl, Nat.le_refl _, Nat.zero_le _, .inl rfl⟩
   ·cases hm
    rw [jD (hT _ _ hb1)] at hel
    obtain ⟨xs, h1, h2⟩ := aVf (w := w) hb2 (R := aW w (wB w) t1) (a := a) (len := len) (fun i hi => by
     have := hel i hi
     rw [List.getElem?_eq_getElem (by omega)] at this
     obtain ⟨ds, hds, hx⟩ := Option.bind_eq_some_iff.1 this
     obtain ⟨y, hy⟩ := ih _ _ _ _ hb1 ha hx
     exact ⟨ds, y, hds, hy⟩)
    exact ⟨xs, some a, len, cap, rfl, h1, hl, hc, h2⟩
  | unit =>
   cases d <;> simp [eX] at hb
   rename_i fs
   obtain ⟨xs, m, _, _, hlen, _⟩ := DataW.trod_struct hd h
   rw [jD (hT _ _ ht)] at hlen
   exact ⟨(), List.eq_nil_of_length_eq_zero hlen⟩
  | pair a b =>
   cases d <;> simp [eX] at hb
   rename_i fs
   obtain ⟨xs, m, hm, _, hlen, hxl, hf⟩ := DataW.trod_struct hd h
   cases hm
   rw [jD (hT _ _ ht)] at hlen
   have := aKm ih hT cs fs.toList 0 (.pair a b) hb ha (by simpa using hlen) (fun f hf' => by
    obtain ⟨i, hi, rfl⟩ := List.mem_iff_getElem.1 hf'
    have hi' : i < fs.size := by simpa using hi
    have := hf i fs[i] (Array.getElem?_eq_getElem hi')
    rw [List.getElem?_eq_getElem (by omega)] at this
    exact ⟨_, by simpa using this⟩)
   simpa using this
  | arr m t1 =>
   cases d <;> simp [eX] at hb
   obtain ⟨⟨⟨rfl, hb1⟩, hb2⟩, _⟩ := hb
   obtain ⟨xs, q, hq, _, hlen, hxl, hf⟩ := DataW.trod_array hd h
   cases hq
   rw [jD (hT _ _ ht)] at hlen
   rw [jD (hT _ _ hb1)] at hf
   have hall : ∀ i, i < m → ∃ y, aW w (wB w) t1 y ((cs.drop (i * t1.cells)).take t1.cells) := fun i hi => by
    have := hf i hi
    rw [List.getElem?_eq_getElem (by omega)] at this
    exact ih _ _ _ _ hb1 ha this
   classical
   have hfun : ∃ f : Nat → t1.den, ∀ i, i < m → aW w (wB w) t1 (f i) ((cs.drop (i * t1.cells)).take t1.cells) := by
    refine ⟨fun i => if h : i < m then Classical.choose (hall i h) else t1.zero, fun i hi => ?_⟩
    simp only [dif_pos hi]
    exact Classical.choose_spec (hall i hi)
   obtain ⟨f, hfun⟩ := hfun
   refine ⟨(List.range m).map f, by simp, (List.range m).map fun i => (cs.drop (i * t1.cells)).take t1.cells, ?_, by simp, fun i h1 h2 => ?_⟩
   ·have : ∀ (k : Nat) (l : List Value), l.length = k * t1.cells → l = ((List.range k).map fun i => (l.drop (i * t1.cells)).take t1.cells).flatten := by
     intro k
     induction k with
     | zero => intro l hl; simp at hl; simp [hl]
     | succ k ihk =>
      intro l hl
      rw [List.range_succ, List.map_append, List.flatten_append]
      have h1 := ihk (l.take (k * t1.cells)) (by simp [hl, Nat.add_mul])
      have h2 : ((List.range k).map fun i => ((l.take (k * t1.cells)).drop (i * t1.cells)).take t1.cells) = ((List.range k).map fun i => (l.drop (i * t1.cells)).take t1.cells) := by
       apply List.map_congr_left
       intro i hi
       have hik : i < k := List.mem_range.1 hi
       rw [List.drop_take, List.take_take]
       congr 1
       have : (i + 1) * t1.cells ≤ k * t1.cells := Nat.mul_le_mul_right _ hik
       rw [Nat.add_mul] at this
       omega
      rw [h2] at h1
      rw [← h1]
      simp only [List.map_cons, List.map_nil, List.flatten_cons, List.flatten_nil, List.append_nil]
      rw [List.take_of_length_le (l := l.drop (k * t1.cells)) (by simp [hl, Nat.add_mul]), List.take_append_drop]
    exact this m cs hlen
   ·simp only [List.length_map, List.length_range] at h1
    simpa using hfun i h1
  | expr =>
   cases d <;> simp [eX] at hb
   rename_i fs
   obtain ⟨xs, m, hm, _, hlen, hxl, hf⟩ := DataW.trod_struct hd h
   cases hm
   rw [jD (hT _ _ ht)] at hlen
   have hfs : ∃ f0 f1 f2, fs.toList = [f0, f1, f2] ∧ (T f0.type = some (.i .i64) ∧ f0.offset = 0 ∧ T f1.type = some .str ∧ f1.offset = 1 ∧ T f2.type = some (.sl .expr) ∧ f2.offset = 2) := by
    unfold aUw at hb
    split at hb
    ·rename_i f0 f1 f2 hfs
     simp only [Bool.and_eq_true, decide_eq_true_eq] at hb
     exact ⟨f0, f1, f2, hfs, hb.1.1.1.1.1, hb.1.1.1.1.2, hb.1.1.1.2, hb.1.1.2, hb.1.2, hb.2⟩
    ·cases hb
   obtain ⟨f0, f1, f2, hfs, t0, o0, t1, o1, t2, o2⟩ := hfs
   have hget : ∀ (i : Nat) (f : Field), fs.toList[i]? = some f → ∃ x, DataW.trod enc P w 0 spare held n f.type ((cs.drop f.offset).take (P.cellsOf f.type)) = some x := fun i f hi => by
    have hi' : fs[i]? = some f := by simpa using hi
    have := hf i f hi'
    have hil : i < fs.size := by
     rcases Nat.lt_or_ge i fs.size with h | h
     ·exact h
     ·rw [Array.getElem?_eq_none h] at hi'; cases hi'
    rw [List.getElem?_eq_getElem (by omega)] at this
    exact ⟨_, this⟩
   obtain ⟨x0, h0⟩ := hget 0 f0 (by rw [hfs]; rfl)
   obtain ⟨x1, h1⟩ := hget 1 f1 (by rw [hfs]; rfl)
   obtain ⟨x2, h2⟩ := hget 2 f2 (by rw [hfs]; rfl)
   rw [jD (hT _ _ t0), o0] at h0
   rw [jD (hT _ _ t1), o1] at h1
   rw [jD (hT _ _ t2), o2] at h2
   obtain ⟨y0, r0⟩ := ih _ _ _ _ t0 rfl h0
   obtain ⟨y1, r1⟩ := ih _ _ _ _ t1 rfl h1
   obtain ⟨y2, r2⟩ := ih _ _ _ _ t2 rfl h2
   match cs, hlen with
   | [c0, c1, c2], _ =>
    simp only [Ty.cells, List.drop_zero, List.drop_succ_cons, List.take_succ_cons, List.take_zero] at r0 r1 r2
    obtain ⟨e0, _, b1, b2⟩ := r0
    obtain ⟨s, e1, rfl, hs⟩ := r1
    obtain ⟨a, len, cap, e2, hl1, hl2, hl3, hl4⟩ := r2
    simp only [List.cons.injEq, and_true] at e0 e1 e2
    subst e0; subst e1; subst e2
    classical
    refine ⟨.mk y0 (aN s) y2, ?_⟩
    rcases hl4 with rfl | ⟨b, off, ha, hb, hel⟩
    ·exact RepEx.mk y0 s [] a len cap (fun _ => []) ⟨b1, b2⟩ hs hl1 hl2 hl3 (fun i h => by simp at h) (.inl rfl)
    ·refine RepEx.mk y0 s y2 a len cap (fun i => if h : i < List.length y2 then Classical.choose (hel i h) else []) ⟨b1, b2⟩ hs hl1 hl2 hl3 (fun i h => ?_) (.inr ⟨b, off, ha, hb, fun i h => ?_⟩)
     ·simp only [dif_pos h]; exact (Classical.choose_spec (hel i h)).1
     ·simp only [dif_pos h]; exact (Classical.choose_spec (hel i h)).2
  | rp t1 => simp [Ty.argB] at ha
  | clo g t1 => simp [Ty.argB] at ha
  | ifc k t1 => simp [Ty.argB] at ha
  | nili => simp [Ty.argB] at ha
  | nilp => simp [Ty.argB] at ha
  | nilf => simp [Ty.argB] at ha
theorem aXd (hT : gM P T) {t : TypeId} {c : Ty} {r : Reach} {base : Nat} {v : Value} {d : DataW H} {ps : List MemPlace} (ht : T t = some c) (ha : c.argB = true) (hw : Value.okWide P w r base t v) (h : DataW.Trod enc P w 0 spare held t v d ps) : ∃ y, cL w (wB w) c y v := by
 obtain ⟨n, hn⟩ := h
 obtain ⟨y, hy⟩ := aPN hT n t c _ _ ht ha hn
 refine ⟨y, cL.of_cells (fun hag => ?_) (fun hna => ?_) hy⟩
 ·obtain ⟨d, hd, hb⟩ := (hT _ _ ht).desc
  unfold Value.okWide at hw
  rw [hd] at hw
  cases c <;> simp [Ty.isAgg] at hag
  all_goals (cases d <;> first | (simp [eX] at hb; done) | skip)
  all_goals (obtain ⟨cs, rfl, _⟩ := hw; exact ⟨cs, rfl⟩)
 ·intro cs e
  subst e
  obtain ⟨d, hd, hb⟩ := (hT _ _ ht).desc
  unfold Value.okWide at hw
  rw [hd] at hw
  cases c <;> simp [Ty.isAgg] at hna
  all_goals (cases d <;> first | (simp [eX] at hb; done) | skip)
  all_goals (simp [Cell.okWide, Cell.ok, hd] at hw)
def aYX (T : Tab) : Ty → List TypeId → Bool
 | .unit, [] => true
 | .pair a r, t :: ts => decide (T t = some a) && a.argB && aYX T r ts
 | _, _ => false
theorem aSX (hT : gM P T) {r : Reach} {base : Nat} : ∀ (c : Ty) (ts : List TypeId) (vs : List Value) (ds : List (DataW H)) (ps : List MemPlace), aYX T c ts = true → DataW.TrodAll enc P w 0 spare held ts vs ds ps → (∀ (j : Nat) t v, ts[j]? = some t → vs[j]? = some v → Value.okWide P w r base t v) → ∃ x, mM w (wB w) c x vs
 | .unit, [], vs, ds, ps, _, h, _ => by
  cases vs <;> cases ds <;> simp [DataW.TrodAll] at h
  exact ⟨(), rfl⟩
 | .pair a c, t :: ts, vs, ds, ps, hb, h, hw => by
  simp only [aYX, Bool.and_eq_true, decide_eq_true_eq] at hb
  cases vs <;> cases ds <;> simp only [DataW.TrodAll] at h
  rename_i v vs d ds
  obtain ⟨p, q, h1, h2, _⟩ := h
  obtain ⟨y, hy⟩ := aXd hT hb.1.1 hb.1.2 (hw 0 t v rfl rfl) h1
  obtain ⟨x, hx⟩ := aSX hT c ts vs ds q hb.2 h2 (fun j t' v' e1 e2 => hw (j + 1) t' v' (by simpa using e1) (by simpa using e2))
  exact ⟨(y, x), v, vs, rfl, hy, hx⟩
end
end Go.Vc
namespace Go.Vc
attribute [go_sem] aNk aGq List.contains_cons List.contains_nil aCw aKh aSQ aRq aBn aNj aU9 aVa
attribute [go_sem] aVb aSP aGp aYt zX aYT wA emb aBS aFk aRp aKe
attribute [go_sem] aL9 vZ uR aAa ren kK yP posOf nD aV aKl hZ
attribute [go_sem] aN8 aYu aVd AV.wfL AV.wfV Obj.wfL Obj.wfV List.all_cons List.all_nil List.range'_zero List.range'_succ List.zip_cons_cons
attribute [go_sem] List.zip_nil_left List.zip_nil_right List.drop_nil List.take_nil List.map_cons List.map_nil aPo aCZ
end Go.Vc
namespace Go.Vc
open Go.RowKit
section
variable {P : Program} {E : Env} {M : Perm} {w0 : World} {c : Ctx} {h : List Obj} {w : World}
theorem aYY {S : Nat → Prop} (hwr : M.wr = nothing) (hrd : M.rd = S) (hg : Good M w0 c h w) {r : RK} {y : r.ty.den} {avs : List AV} {xs : List Value} (hl : xs.length = avs.length) (hv : ∀ i (h1 : i < avs.length) (h2 : i < xs.length), aS c w avs[i] xs[i]) (hy : oE h r y avs) : aWU w S w0.heap.size r y (aNe xs) := by
 have hsrc : ∀ {c' : Ctx} {h' : List Obj}, Good M w0 c' h' w → ∀ b, c'.S b → S b ∨ (w0.heap.size ≤ b ∧ b < w.heap.size) := fun hg b hb => by
  rcases Nat.lt_or_ge b w0.heap.size with hlt | hge
  ·have := hg.src b hb hlt
   rw [hwr, hrd] at this
   exact .inl (this.resolve_right (fun f => f))
  ·exact .inr ⟨hge, hg.sfin b hb⟩
 obtain ⟨c', hll, hg'⟩ := hg.frzAll
 have hval : ∀ i (h1 : i < avs.length) (h2 : i < xs.length), aS c' w avs[i] xs[i] := fun i h1 h2 => hll.val (hv i h1 h2)
 cases r with
 | none =>
  match avs, xs, hl, hy with
  | [], [], _, _ => rfl
 | one t =>
  match avs, xs, hl, hy, hval with
  | [v], [x], _, hy, hval =>
   have hy : AV.as (h.map Vc.frzAll) t v = some y := hy
   rw [← aSJ] at hy
   have := rP hg' (hval 0 (by simp) (by simp)) hy
   exact cL.keep (hsrc hg') (.refl _ _) this
 | own e t =>
  match avs, xs, hl, hy, hv with
  | [.own i], [x], _, hy, hv =>
   have hvs := hv 0 (by simp) (by simp)
   simp only [List.getElem_cons_zero] at hvs
   have ho : h[i]? = some (.row e t y) := hy
   obtain ⟨hin, rfl⟩ := aAx hvs
   obtain ⟨vals, hown, hrep⟩ := hg.objs i _ ho
   refine ⟨vals, ⟨hown.1, hown.2.imp id ?_⟩, aW.keep (fun b hb => ?_) (.refl _ _) _ _ _ hrep⟩
   ·rintro ⟨g, cap, cur, h1, h2, h3⟩
    refine ⟨g, cap, cur, h1, ?_, h3⟩
    have := (hg.own i _ g ho (by simp [ownBlock, h1, aU])).1
    rw [hwr] at this
    exact this.resolve_right (fun f => f)
   ·rcases hsrc hg b hb with h1 | h1
    ·exact .inl h1
    ·exact .inr ⟨h1.1, h1.2, fun e' => (hg.own i _ b ho e').2.2 hb⟩
  | [.nilS], [x], _, hy, hv =>
   have hvs := hv 0 (by simp) (by simp)
   simp only [List.getElem_cons_zero] at hvs
   have hy : y = [] := hy
   subst hy
   have hsv : x = .slice none 0 0 := by
    obtain ⟨h1, _, h3⟩ := hvs
    have h3 := h3 rfl
    simp only [aL] at h1
    cases x <;> simp [Value.cells] at h1 h3 <;> simp [h1]
   subst hsv
   exact ⟨[], ⟨by simp, .inl ⟨rfl, rfl⟩⟩, ⟨rfl, [], rfl, rfl, fun i h => by simp at h⟩⟩
 | tup t =>
  have hy : avs.length ≠ 1 ∧ vV (h.map Vc.frzAll) t avs = some y := hy
  obtain ⟨hne, hy⟩ := hy
  rw [← aSJ] at hy
  have hargs := aCT hg' hy (xs := xs) hl hval
  refine ⟨xs, ?_, aTJ (hsrc hg') hargs⟩
  match xs, hl ▸ hne with
  | [], _ => rfl
  | [s], hne => exact absurd rfl hne
  | s :: s' :: l, _ => rfl
def m0 : Option Pan → Value → FrameMode
 | none, _ => .returning
 | some p, u => .panicking (aPJ p.k u)
def m1 : Option Pan → Value → FrameMode
 | none, _ => .returning
 | some p, u => .panicking [{ v := .iface p.k u, recovered := true, goexit := false }]
end
end Go.Vc
namespace Go.Vc
open Go.RowKit
def ck {α : Type} (p : Prop) [Decidable p] (k : Option α) : Option α := if p then k else none
theorem aM {α : Type} {p : Prop} [Decidable p] {k : Option α} {r : α} (h : ck p k = some r) : p ∧ k = some r := by
 unfold ck at h
 split at h
 ·rename_i hp; exact ⟨hp, h⟩
 ·cases h
theorem wC {α : Type} {p : Prop} [Decidable p] {k : Option α} (hp : p) : ck p k = k := if_pos hp
theorem gD {α : Type} {p : Prop} [Decidable p] {x y : α} {r : α} (hp : p) (h : (if p then x else y) = r) : x = r := by rwa [if_pos hp] at h
theorem gE {α : Type} {p : Prop} [Decidable p] {x y : α} {r : α} (hp : ¬ p) (h : (if p then x else y) = r) : y = r := by rwa [if_neg hp] at h
abbrev I64 (x : Int) : Prop := -9223372036854775808 ≤ x ∧ x ≤ 9223372036854775807
abbrev I32 (x : Int) : Prop := -2147483648 ≤ x ∧ x ≤ 2147483647
section
variable {D E R : Type} {step : D → Option (D ⊕ E)}
def iter (step : D → Option (D ⊕ E)) : Nat → D → Option E
 | 0, _ => none
 | n + 1, d => match step d with
  | none => none
  | some (.inl d') => iter step n d'
  | some (.inr e) => some e
theorem aGs : ∀ {n : Nat} {d : D} {e : E}, iter step n d = some e → iter step (n + 1) d = some e
 | 0, d, e, h => by cases h
 | n + 1, d, e, h => by
  unfold iter at h ⊢
  cases hs : step d with
  | none => rw [hs] at h; cases h
  | some s =>
   rw [hs] at h
   cases s with
   | inl d' => exact aGs (n := n) h
   | inr e' => exact h
theorem aSY {n m : Nat} (hm : n ≤ m) {d : D} {e : E} (h : iter step n d = some e) : iter step m d = some e := by
 induction hm with
 | refl => exact h
 | step _ ih => exact aGs ih
theorem aNm {n m : Nat} {d : D} {e e' : E} (h : iter step n d = some e) (h' : iter step m d = some e') : e = e' := by
 have h1 := aSY (Nat.le_max_left n m) h
 have h2 := aSY (Nat.le_max_right n m) h'
 rw [h1] at h2; exact Option.some.inj h2
open Classical in
noncomputable def aNn (step : D → Option (D ⊕ E)) (d : D) : Option E := if h : ∃ e, ∃ n, iter step n d = some e then some (Classical.choose h) else none
theorem aNo {d : D} {e : E} : aNn step d = some e ↔ ∃ n, iter step n d = some e := by
 unfold aNn
 constructor
 ·intro h
  split at h
  ·rename_i hx
   have := Classical.choose_spec hx
   rw [Option.some.inj h] at this; exact this
  ·cases h
 ·rintro ⟨n, h⟩
  have hx : ∃ e, ∃ n, iter step n d = some e := ⟨e, n, h⟩
  rw [dif_pos hx]
  obtain ⟨m, hm⟩ := Classical.choose_spec hx
  rw [aNm hm h]
theorem aEI {n : Nat} {d : D} {e : E} (h : iter step n d = some e) : aNn step d = some e := aNo.2 ⟨n, h⟩
theorem aKn {p : Nat → Prop} (h : ∃ n, p n) : ∃ n, p n ∧ ∀ m, p m → n ≤ m := by
 classical
 obtain ⟨n, hn⟩ := h
 induction n using Nat.strongRecOn with
 | _ n ih =>
  by_cases hh : ∃ m, m < n ∧ p m
  ·obtain ⟨m, hm, hp⟩ := hh; exact ih m hm hp
  ·exact ⟨n, hn, fun m hm => Nat.le_of_not_lt fun hlt => hh ⟨m, hlt, hm⟩⟩
open Classical in
noncomputable def aBU (step : D → Option (D ⊕ E)) (d : D) : Nat := if h : ∃ n, (iter step n d).isSome = true then Classical.choose (aKn h) else 0
theorem aSZ {d : D} {e : E} (h : aNn step d = some e) : iter step (aBU step d) d = some e ∧ ∀ m e', iter step m d = some e' → aBU step d ≤ m := by
 obtain ⟨n, hn⟩ := aNo.1 h
 have hx : ∃ n, (iter step n d).isSome = true := ⟨n, by rw [hn]; rfl⟩
 have hs := Classical.choose_spec (aKn hx)
 have e1 : aBU step d = Classical.choose (aKn hx) := by unfold aBU; rw [dif_pos hx]
 rw [← e1] at hs
 refine ⟨?_, fun m e' hm => hs.2 m (by rw [hm]; rfl)⟩
 cases hi : iter step (aBU step d) d with
 | none => have := hs.1; rw [hi] at this; cases this
 | some e' => rw [aNm hi hn]
abbrev Md := Option Nat
noncomputable def aAB (F : Md) (step : D → Option (D ⊕ E)) (d : D) : Option E := match F with
 | none => aNn step d
 | some n => iter step n d
noncomputable abbrev bO (step : D → Option (D ⊕ E)) (d : D) : Option E := aAB none step d
theorem aKo {n : Nat} {d : D} {e : E} (h : iter step n d = some e) : bO step d = some e := aEI h
theorem aXe {F : Md} {d : D} {e : E} (h : aAB F step d = some e) : aNn step d = some e := by
 cases F with
 | none => exact h
 | some n => exact aEI h
def uT (A : D → Prop) (B : E → Prop) : D ⊕ E → Prop
 | .inl d => A d
 | .inr e => B e
theorem aKp {k : E → Option R} {r : R} {F : Md} {d : D} (hd : (aAB F step d).bind k = some r) : ∃ s, step d = some s ∧ uT (fun d' => (aAB F step d').bind k = some r ∧ aBU step d' < aBU step d) (fun e => k e = some r) s := by
 cases hl : aAB F step d with
 | none => rw [hl] at hd; cases hd
 | some e =>
  rw [hl] at hd
  have hk : k e = some r := hd
  obtain ⟨hi, hmin⟩ := aSZ (aXe hl)
  cases hn : aBU step d with
  | zero => rw [hn] at hi; cases hi
  | succ n =>
   rw [hn, iter] at hi
   split at hi
   ·cases hi
   ·rename_i d' hs
    have hz := aEI hi
    have hl' : aAB F step d' = some e := by
     cases F with
     | none => exact hz
     | some m =>
      have hm : iter step m d = some e := hl
      cases m with
      | zero => cases hm
      | succ m =>
       rw [iter, hs] at hm
       exact aGs hm
    refine ⟨_, hs, ?_⟩
    refine ⟨by rw [hl']; exact hk, ?_⟩
    have := (aSZ hz).2 n e hi
    show aBU step d' < n + 1
    omega
   ·rename_i e' hs
    refine ⟨_, hs, ?_⟩
    rw [Option.some.inj hi]; exact hk
theorem gF {I : D → Prop} (μ : D → Nat) (f : D → E) (h : ∀ d, I d → (∃ d', step d = some (.inl d') ∧ I d' ∧ μ d' < μ d ∧ f d' = f d) ∨ step d = some (.inr (f d))) : ∀ d, I d → bO step d = some (f d) := by
 have main : ∀ n d, μ d ≤ n → I d → ∃ m, iter step m d = some (f d) := by
  intro n
  induction n with
  | zero =>
   intro d hn hi
   rcases h d hi with ⟨d', _, _, hlt, _⟩ | hs
   ·omega
   ·exact ⟨1, by rw [iter, hs]⟩
  | succ n ih =>
   intro d hn hi
   rcases h d hi with ⟨d', hs, hi', hlt, hf⟩ | hs
   ·obtain ⟨m, hm⟩ := ih d' (by omega) hi'
    exact ⟨m + 1, by rw [iter, hs]; simp only; rw [hm, hf]⟩
   ·exact ⟨1, by rw [iter, hs]⟩
 intro d hi
 obtain ⟨m, hm⟩ := main (μ d) d (Nat.le_refl _) hi
 exact aKo hm
theorem cV {I : D → Prop} (μ : D → Nat) (Q : E → Prop) (h : ∀ d, I d → (∃ d', step d = some (.inl d') ∧ I d' ∧ μ d' < μ d) ∨ ∃ e, step d = some (.inr e) ∧ Q e) : ∀ d, I d → ∃ e, bO step d = some e ∧ Q e := by
 have main : ∀ n d, μ d ≤ n → I d → ∃ m e, iter step m d = some e ∧ Q e := by
  intro n
  induction n with
  | zero =>
   intro d hn hi
   rcases h d hi with ⟨d', _, _, hlt⟩ | ⟨e, hs, hq⟩
   ·omega
   ·exact ⟨1, e, by rw [iter, hs], hq⟩
  | succ n ih =>
   intro d hn hi
   rcases h d hi with ⟨d', hs, hi', hlt⟩ | ⟨e, hs, hq⟩
   ·obtain ⟨m, e, hm, hq⟩ := ih d' (by omega) hi'
    exact ⟨m + 1, e, by rw [iter, hs]; exact hm, hq⟩
   ·exact ⟨1, e, by rw [iter, hs], hq⟩
 intro d hi
 obtain ⟨m, e, hm, hq⟩ := main (μ d) d (Nat.le_refl _) hi
 exact ⟨e, aKo hm, hq⟩
end
def qY (h : List Obj) : List (Nat ⊕ Obj) → List Obj
 | [] => []
 | .inl i :: r => h.getD i .dead :: qY h r
 | .inr o :: r => o :: qY h r
section
variable {F : Fr} {Q : Exit → Act → World → Prop} {env : St} {h : List Obj}
theorem qC {x y : Code} {D : Type} (J : D → Prop) (keep : List Nat) (uE : D → St) (uO : D → List (Nat ⊕ Obj))
  (hx : Tri F x (Exit.then (fun a' w' => ∃ d' c', J d' ∧ Sim F.E F.M F.w0 F.nt F.ds c' (aEF env keep (uE d')) (qY h (uO d')) a' w') Q) env h)
  (hy : ∀ d, J d → Tri F y Q (aEF env keep (uE d)) (qY h (uO d))) : Tri F (.seq x y) Q env h :=
 aPy J (fun d => aEF env keep (uE d)) (fun d => qY h (uO d)) hx hy
theorem wD {x : Code} {D E R : Type} {G : Md} {step : D → Option (D ⊕ E)} {k : E → Option R} {r : R} {d0 : D} (keep : List Nat) (uE : D → St) (uO : D → List (Nat ⊕ Obj))
  (hd : (aAB G step d0).bind k = some r) (hh : h = qY h (uO d0)) (hf : kU h env (aEF env keep (uE d0)))
  (round : ∀ d s, step d = some s → uT (fun d' => (aAB G step d').bind k = some r ∧ aBU step d' < aBU step d) (fun e => k e = some r) s → Tri F x (Exit.then (fun a' w' => ∃ d' c', ((aAB G step d').bind k = some r ∧ aBU step d' < aBU step d) ∧ Sim F.E F.M F.w0 F.nt F.ds c' (aEF env keep (uE d')) (qY h (uO d')) a' w') Q) (aEF env keep (uE d)) (qY h (uO d))) : Tri F (.loop x) Q env h :=
 aPx (fun d => (aAB G step d).bind k = some r) (aBU step) (fun d => aEF env keep (uE d)) (fun d => qY h (uO d)) (aP d0 hd hh hf) fun d hi => by
  obtain ⟨s, h1, h2⟩ := aKp hi
  exact round d s h1 h2
end
theorem aTR {F : Fr} {Q : Exit → Act → World → Prop} {env : St} {h : List Obj} {id : Nat} {ops : Array Oper} {t0 t3 t4 : Nat} {tt ty0 ty1 ty2 : TypeId} {pos1 pos2 : String} {aft1 aft2 : Array Edge} {ct : Ty} {xs : List ct.den} (hF : vI F)
  (hops : ops = #[⟨some t3, .move (.tmp t0), ty1, pos1, aft1, none⟩, ⟨some t4, .binOp .eql tt (.tmp t3) (.const (.slice none 0 0)) ty0, ty2, pos2, aft2, none⟩])
  (hT : F.E.T tt = some (.sl ct)) (hv : look env t0 = .val (.sl ct) xs)
  (hq : ∀ b : Bool, (b = true → xs = []) → At F (Q .normal) ((t4, .val .bool b) :: (t3, .val (.sl ct) xs) :: env) h) : Tri F (.region id ops false) Q env h := fun hok c a w hs => by
 simp only [gW, Bool.and_eq_true] at hok
 obtain ⟨⟨hok1, _⟩, _⟩ := hok
 subst hops
 have hall := List.all_eq_true.1 hok1
 have hk1 := hall ⟨some t3, .move (.tmp t0), ty1, pos1, aft1, none⟩ (by simp)
 have hk2 := hall ⟨some t4, .binOp .eql tt (.tmp t3) (.const (.slice none 0 0)) ty0, ty2, pos2, aft2, none⟩ (by simp)
 have h0 := hs.env t0
 rw [hv] at h0
 obtain ⟨⟨ad, len, cap, e1, e2⟩, _, e3⟩ := h0
 have hval : a.tmps.getD t0 Go.undef = .slice ad len cap := by
  have e3 := e3 rfl
  revert e1 e3
  generalize a.tmps.getD t0 Go.undef = sv
  intro e1 e3
  cases sv <;> simp [Value.cells] at e1 e3 <;> simp [e1]
 have h0 := hs.env t0
 rw [hv] at h0
 have s1 := hs.after hk1 (v := a.tmps.getD t0 Go.undef) (av := .val (.sl ct) xs) ⟨.refl _ _, hs.good, h0⟩
 have ht3 : t3 < a.tmps.size := by
  simp only [fJ, Bool.and_eq_true] at hk1
  rw [hs.size]; simpa using hk1.2
 have s2 := s1.after hk2 (v := .bool ad.isNone) (av := .val .bool ad.isNone) ⟨.refl _ _, s1.good, uI _⟩
 refine wp_region ?_
 have run1 : (execOp a.eval ⟨some t3, .move (.tmp t0), ty1, pos1, aft1, none⟩).run F.P w = .ok (.value (a.tmps.getD t0 Go.undef)) w := by
  simp [execOp, Act.eval]
 have hget : (a.put (some t3) (a.tmps.getD t0 Go.undef)).eval (.tmp t3) = .slice ad len cap := by
  rw [hval]; simp [Act.eval, Act.put, ht3]
 obtain ⟨_, hd, _⟩ := fT (hF.env.T _ _ hT)
 have run2 : (execOp (a.put (some t3) (a.tmps.getD t0 Go.undef)).eval ⟨some t4, .binOp .eql tt (.tmp t3) (.const (.slice none 0 0)) ty0, ty2, pos2, aft2, none⟩).run F.P w = .ok (.value (.bool ad.isNone)) w := by
  have hc : (a.put (some t3) (a.tmps.getD t0 Go.undef)).eval (.const (.slice none 0 0)) = .slice none 0 0 := rfl
  have hq : ∀ d, (Op.equalIn (d + 1) tt (.slice ad len cap) (.slice none 0 0)).run F.P w = .ok ad.isNone w := fun d => by
   unfold Op.equalIn
   rw [Sem.run_bind, aX hd]
   cases ad <;> rfl
  have hb : (binOp .eql tt (.slice ad len cap) (.slice none 0 0)).run F.P w = .ok (.bool ad.isNone) w := by
   have e : binOp .eql tt (.slice ad len cap) (.slice none 0 0) = (do pure (.bool (← Op.equal tt (.slice ad len cap) (.slice none 0 0)))) := by unfold binOp; rfl
   rw [e, Sem.run_bind, Op.equal, show Op.maxDepth = (Op.maxDepth - 1) + 1 from rfl, hq]
   rfl
  have hg : (eqGuard .eql tt (.tmp t3) (.const (.slice none 0 0)) (.slice ad len cap) (.slice none 0 0)).run F.P w = .ok () w := by
   unfold eqGuard; rfl
  generalize hρ : (a.put (some t3) (a.tmps.getD t0 Go.undef)).eval = ρ at hget hc ⊢
  simp only [execOp, hget, hc]
  simp [hb, hg]
 have w1 : ∀ (o : Oper) (y : Nat → Option Bool), o.guard = none → Region.wanted o y = true := fun o y h => by simp [Region.wanted, h]
 show wpOps F.P _ _ [0, 1] a w
 unfold wpOps
 simp only [List.getElem?_toArray, List.getElem?_cons_zero]
 rw [if_pos (w1 _ _ rfl)]
 refine .inl ?_
 unfold Oper.wp
 rw [run1, Oper.upon_value]
 unfold wpOps
 simp only [List.getElem?_toArray, List.getElem?_cons_succ, List.getElem?_cons_zero]
 rw [if_pos (w1 _ _ rfl)]
 refine .inl ?_
 unfold Oper.wp
 rw [run2, Oper.upon_value]
 refine hq ad.isNone (fun hn => ?_) c _ w s2
 obtain ⟨_, _, _, e4⟩ := e2
 rcases e4 with e4 | ⟨b, off, e4, _⟩
 ·exact e4
 ·rw [e4] at hn; cases hn
theorem gL {F : Fr} {fn : Func} {S : Nat → Prop} {r : RK} {y : r.ty.den} {env : St} {h : List Obj} (hF : vI F) (l : List ResultVar) (hM : F.M = top S) (hds : F.ds = []) (hr : fn.results = l.toArray) (hy : (aV F.E.T h env l).1 ∧ oE h r y (aV F.E.T h env l).2) : At F (post F.P fn S F.w0 r y .ret) env h := fun c a w hs => by
 obtain ⟨us, q1, q2, q3⟩ := aKk (P := F.P) hF.env.T hs.good hs.env hr hy.1
 refine ⟨hs.defers.trans hds, aNe us, q1, aNe us, rfl, by have := hs.good.keeps; rw [hM] at this; exact this, ?_⟩
 exact aYY (by rw [hM]) (by rw [hM]) hs.good q2 (fun i h1 h2 => q3 i h1 h2) hy.2
def aZw (i : Nat) (t : Ty) (x : t.den) : AV → AV
 | .ptr j [] => if j = i then .roa t x else .ptr j []
 | .ptr j p => if j = i then .junk else .ptr j p
 | .agg _ => .junk
 | .tup _ => .junk
 | .fn f l1 l2 => if l1.contains i || l2.contains i then .junk else .fn f l1 l2
 | v => v
def mSpec (a : Ty) (r : RK) (m : a.den → Option r.ty.den) : aI := ⟨a, r, fun x => (m x).isSome = true, fun x => (m x).getD r.ty.zero⟩
section
variable {P : Program} {E : Env}
theorem wE {f : FuncId} {fn : Func} {body : Code} {a : Ty} {r : RK} {m : a.den → Option r.ty.den} (hE : gN P E) (hf : P.funcs[f]? = some fn) (hb : fn.body = some body) (hok : gW fn.ntmps body = true) (hn : aNd a ≤ fn.ntmps)
  (ht : ∀ (w0 : World) (S : Nat → Prop) (x : a.den) (y : r.ty.den), a.wf x → m x = some y → Tri (fr P E S w0 fn.ntmps) body (post P fn S w0 r y) (bH a x 0) []) : FOK P E.G f (mSpec a r m) :=
 aUX hE hf hb hok hn fun w0 S x hw hp => by
  have hp : (m x).isSome = true := hp
  obtain ⟨y, hy⟩ := Option.isSome_iff_exists.1 hp
  have e : (mSpec a r m).fn x = y := by show (m x).getD r.ty.zero = y; rw [hy]; rfl
  rw [e]
  exact ht w0 S x y hw hy
theorem fD {G : Nat → AV} {f : FuncId} {a : Ty} {r : RK} {m : a.den → Option r.ty.den} {pre : a.den → Prop} {fn : a.den → r.ty.den} (h : FOK P G f (mSpec a r m)) (hc : ∀ x, a.wf x → pre x → m x = some (fn x)) : FOK P G f ⟨a, r, pre, fn⟩ := fun w S vs x hS hG ha hp => by
 have hm := hc x (aFj _ _ _ ha) hp
 have := h w S vs x hS hG ha (by show (m x).isSome = true; rw [hm]; rfl)
 have e : (mSpec a r m).fn x = fn x := by show (m x).getD r.ty.zero = fn x; rw [hm]; rfl
 rw [e] at this
 exact this
end
attribute [go_sem] qY aZw
end Go.Vc
namespace Go.Vc
open Go.RowKit
def aVg : List (FuncId × Hit) → FuncId → List AV → List Obj → Option Hit
 | [], _, _, _ => none
 | (k, t) :: r, f, vs, h => if k = f then some t else aVg r f vs h
structure aGt (P : Program) (G : Nat → AV) (l : List (FuncId × Hit)) : Prop where
 ok : ∀ p ∈ l, GOK P G p.1 p.2.sp ∧ fnB P p.1 = true
theorem aGt.nil {P : Program} {G : Nat → AV} : aGt P G [] := ⟨fun p hp => by cases hp⟩
theorem aGt.cons {P : Program} {G : Nat → AV} {l : List (FuncId × Hit)} {f : FuncId} {t : Hit} (h : GOK P G f t.sp) (hf : fnB P f = true) (hl : aGt P G l) : aGt P G ((f, t) :: l) := by
 refine ⟨fun p hp => ?_⟩
 rcases List.mem_cons.1 hp with rfl | hp
 ·exact ⟨h, hf⟩
 ·exact hl.ok p hp
theorem aKq : ∀ {l : List (FuncId × Hit)} {f : FuncId} {vs : List AV} {h : List Obj} {t : Hit}, aVg l f vs h = some t → (f, t) ∈ l
 | (k, s) :: r, f, vs, h, t, e => by
  simp only [aVg] at e
  split at e
  ·rename_i ek; subst ek; cases e; exact List.mem_cons_self
  ·exact List.mem_cons_of_mem _ (aKq e)
theorem aXf {P : Program} {f : FuncId} (h : fnB P f = true) : ∃ fn, P.funcs[f]? = some fn ∧ fn.name ≠ "runtime.NumGoroutine" ∧ fn.body.isSome = true := by
 unfold fnB at h
 split at h
 ·rename_i fn hf
  simp only [Bool.and_eq_true, decide_eq_true_eq] at h
  exact ⟨fn, hf, h⟩
 ·cases h
theorem jV {P : Program} {G : Nat → AV} {l : List (FuncId × Hit)} (h : aGt P G l) : aEH P G (aVg l) :=
 ⟨fun f vs hh t e => (h.ok _ (aKq e)).1, fun f vs hh t e => aXf (h.ok _ (aKq e)).2⟩
theorem bind_some {α β : Type} {x : Option α} {k : α → Option β} {r : β} (h : x.bind k = some r) : ∃ e, x = some e ∧ k e = some r := by
 cases x with
 | none => cases h
 | some e => exact ⟨e, rfl, h⟩
def rpV : AV → AV
 | .val (.rp t) x => .roa t x
 | v => v
theorem aYZ {c : Ctx} {w : World} {v : AV} {x : Value} (hv : aS c w v x) : aS c w (rpV v) x := by
 cases v with
 | val t y =>
  cases t with
  | rp t =>
   obtain ⟨⟨b, off, ds, e, hb, hd, hc⟩, _, h3⟩ := hv
   have h3 := h3 rfl
   have ex : x = .pointer (some ⟨b, off, none⟩) := by
    cases x <;> simp [Value.cells] at e h3 <;> simp [e]
   rw [ex]
   exact aDO hb hd hc
  | _ => exact hv
 | _ => exact hv
section
variable {P : Program} {E : Env}
theorem aC4 {f : FuncId} {fn : Func} {body : Code} {sp : zZ} (hE : gN P E) (hf : P.funcs[f]? = some fn) (hb : fn.body = some body) (hok : gW fn.ntmps body = true) (hn : ∀ d, (sp.av d).length ≤ fn.ntmps)
  (ht : ∀ (c : Ctx) (w : World) (d : sp.D), AV.wfL (sp.av d) → Obj.wfL (sp.hp d) → sp.pre d → c.n = (sp.hp d).length → Tri ⟨P, E, GM sp c d, w, fn.ntmps, []⟩ body (bodyPost P fn (aU7 sp c w d)) (aVd ((sp.av d).map rpV) 0) (sp.hp d)) : GOK P E.G f sp := by
 intro c w d vs hp hin
 refine calls_of_wp hf hb ?_
 refine ht c w d (aSU hin.len hin.val) (aXb hin.good) hp hin.good.n hok c _ w ⟨hin.good, hin.glob, ?_, ?_, rfl⟩
 ·refine aST _ vs.toList 0 (by rw [List.length_map]; exact hin.len) (fun i h1 h2 => ?_) fun i v hv => ?_
  ·rw [List.getElem_map]; exact aYZ (hin.val i (by simpa using h1) h2)
  ·have hlt : i < vs.size := by
    rcases Nat.lt_or_ge i vs.size with hh | hh
    ·exact hh
    ·rw [List.getElem?_eq_none (by simpa using hh)] at hv; cases hv
   simp only [Nat.zero_add]
   have : vs[i]? = some v := by rw [← Array.getElem?_toList]; exact hv
   simp [Array.getElem?_append, hlt]
   rw [Array.getElem?_eq_getElem hlt] at this
   simpa using this
 ·have h1 := hin.len
  have h2 := hn d
  simp at h1
  simp
  omega
end
section
variable {P : Program} {E : Env} {M : Perm} {w0 : World} {nt : Nat} {ds : List Deferred} {h : List Obj} {env : St}
theorem aXg (hE : gN P E) {sb : List Nat} {Δ : FuncId → List AV → List Obj → Option Hit} (hΔ : aEH P E.G Δ) {ops : List Oper} {Q : Exit → Act → World → Prop} (hok : ∀ o ∈ ops, fJ nt o = true) {K : St → List Obj → Prop} {Kp : Pan → St → List Obj → Prop}
  (hKp : ∀ p env h c a w u, Kp p env h → Sim E M w0 nt ds c env h a w → cL w c.S p.t p.x u → Q (.panic (aPJ p.k u)) a w) {i : Nat} (hil : i < ops.length) {env : St} {h : List Obj} {c : Ctx} {a : Act} {w : World} (hs : aCw E Δ sb ops (ops.drop i) env h K Kp) (hsim : Sim E M w0 nt ds c env h a w)
  {Kn : Act → World → Prop} (hn : ∀ env' h' c' a' w', aCw E Δ sb ops (ops.drop (i + 1)) env' h' K Kp → Sim E M w0 nt ds c' env' h' a' w' → Kn a' w') : wpOp P ops.toArray Q i Kn a w := by
 rw [List.drop_eq_getElem_cons hil] at hs
 have hokO := hok ops[i] (List.getElem_mem hil)
 have hput : ∀ (v : Value) (av : AV), aS c w av v → Sim E M w0 nt ds c (vY ops[i].dst av env) h (a.put ops[i].dst v) w := fun v av hv => hsim.after hokO ⟨.refl _ _, hsim.good, hv⟩
 unfold wpOp
 simp only [List.getElem?_toArray, List.getElem?_eq_getElem hil]
 have hrun : aKh E Δ sb env h ops[i] (fun v h' => aCw E Δ sb ops (ops.drop (i + 1)) (vY ops[i].dst v env) h' K Kp) (fun p h' => Kp p env h') → Region.wanted ops[i] (yielded ops.toArray a.tmps) = true → (if Region.wanted ops[i] (yielded ops.toArray a.tmps) = true then Oper.wp P ops[i] a w Kn Q ∨ (ops[i].asks P a w ∧ LetsOut Q) else Kn (a.put ops[i].dst Go.undef) w) := fun h1 hw => by
  rw [if_pos hw]
  left
  refine aPM hE hΔ hsim hokO h1 (fun v h' c' u w' hk ha => hn _ _ c' _ w' hk (hsim.after hokO ha)) (fun p h' c' u w' hk hl hg hr => hKp p env h' c' a w' u hk (hsim.step hl hg) hr)
 have hskip : aCw E Δ sb ops (ops.drop (i + 1)) (vY ops[i].dst .undef env) h K Kp → Region.wanted ops[i] (yielded ops.toArray a.tmps) = false → (if Region.wanted ops[i] (yielded ops.toArray a.tmps) = true then Oper.wp P ops[i] a w Kn Q ∨ (ops[i].asks P a w ∧ LetsOut Q) else Kn (a.put ops[i].dst Go.undef) w) := fun h2 hw => by
  rw [if_neg (by rw [hw]; simp)]
  exact hn _ _ c _ w h2 (hput _ _ rfl)
 simp only [aCw] at hs
 cases hgd : ops[i].guard with
 | none =>
  rw [hgd] at hs
  exact hrun hs (by simp [Region.wanted, hgd])
 | some jp =>
  obtain ⟨j, pol⟩ := jp
  rw [hgd] at hs
  simp only at hs
  cases hdj : aEa ops j with
  | none => rw [hdj] at hs; exact hs.elim
  | some dj =>
   rw [hdj] at hs
   simp only at hs
   have hv := hsim.env dj
   split at hs
   ·rename_i b hb
    rw [hb] at hv
    have hb' := aBh hv
    have hy := tP hok hsim.size hdj hb'
    simp only [yb] at hy
    by_cases e : b = pol
    ·exact hrun (hs.1 e) (by simp [Region.wanted, hgd, hy, e])
    ·have e' : b = !pol := by cases b <;> cases pol <;> simp_all
     exact hskip (hs.2 e') (by simp [Region.wanted, hgd, hy, e])
   ·rename_i hb
    rw [hb] at hv
    have hy := tP hok hsim.size hdj (v := Go.undef) hv
    exact hskip hs (by simp [Region.wanted, hgd, hy, Go.undef, yb])
   ·exact hs.elim
theorem aNp (hE : gN P E) {sb : List Nat} {Δ : FuncId → List AV → List Obj → Option Hit} (hΔ : aEH P E.G Δ) {ops : List Oper} {Q : Exit → Act → World → Prop} (hok : ∀ o ∈ ops, fJ nt o = true) {K : St → List Obj → Prop} {Kp : Pan → St → List Obj → Prop} (hK : ∀ env h c a w, K env h → Sim E M w0 nt ds c env h a w → Q .normal a w)
  (hKp : ∀ p env h c a w u, Kp p env h → Sim E M w0 nt ds c env h a w → cL w c.S p.t p.x u → Q (.panic (aPJ p.k u)) a w) {n : Nat} (ht : aC2 n ops = true) :
  ∀ (m i : Nat), i + m = ops.length → n ≤ i → ∀ (listed : Array Bool), listed.size = ops.length → (∀ k, k < ops.length → (listed.getD k false = true ↔ k < i)) → ∀ (env : St) (h : List Obj) (c : Ctx) (a : Act) (w : World), aCw E Δ sb ops (ops.drop i) env h K Kp → Sim E M w0 nt ds c env h a w → wpAny P .any ops.toArray Q m listed a w
 | 0, i, hi, hni, listed, hsz, hl, env, h, c, a, w, hs, hsim => by
  rw [List.drop_eq_nil_of_le (by omega)] at hs
  refine ⟨?_, hK env h c a w hs hsim⟩
  rw [List.eq_nil_iff_forall_not_mem]
  intro j hj
  obtain ⟨h1, o, ho, _⟩ := mem_ready.1 hj
  have ho : ops[j]? = some o := by simpa using ho
  have hjl := iH.get_lt' ho
  have := (hl j hjl).2 (by omega)
  have hlt : j < listed.size := by omega
  simp [hlt] at h1 this
  rw [this] at h1; cases h1
 | m + 1, i, hi, hni, listed, hsz, hl, env, h, c, a, w, hs, hsim => by
  have hil : i < ops.length := by omega
  have hio : ops[i]? = some ops[i] := List.getElem?_eq_getElem hil
  refine ⟨fun hr => ?_, fun j hj => ?_⟩
  ·exfalso
   have hmem : i ∈ Region.ready .any ops.toArray listed := by
    rw [mem_ready]
    have hlt : i < listed.size := by omega
    have hun : ¬ listed.getD i false = true := fun h => by have := (hl i hil).1 h; omega
    refine ⟨by simp [hlt] at hun ⊢; exact hun, ops[i], by simp [hil], fun e he hb => ?_⟩
    exact (hl _ (by have := (iH ht hio).1 e he hb; omega)).2 ((iH ht hio).1 e he hb)
   rw [hr] at hmem; cases hmem
  ·obtain ⟨h1, o, ho, hall⟩ := mem_ready.1 hj
   have ho : ops[j]? = some o := by simpa using ho
   have hjl := iH.get_lt' ho
   have hji : j = i := by
    rcases Nat.lt_trichotomy j i with hlt | heq | hgt
    ·have := (hl j hjl).2 hlt
     have hlt : j < listed.size := by omega
     simp [hlt] at h1 this
     rw [this] at h1; cases h1
    ·exact heq
    ·have := (iH ht ho).2 (by omega) (fun k => k < ops.length → listed.getD k false = true) (fun k o' ho' hk e he hb => fun hlt => by
      have hkl := iH.get_lt' ho'
      have h3 := (iH ht ho').1 e he hb
      have := (hl k hkl).1 (hk hkl)
      exact (hl _ hlt).2 (by omega)) (fun e he hb _ => hall e he hb) i hgt hil
     have := (hl i hil).1 this
     omega
   subst hji
   refine aXg hE hΔ hok hKp hil hs hsim fun env' h' c' a' w' hs' hsim' => ?_
   refine aNp hE hΔ hok hK hKp ht m (j + 1) (by omega) (by omega) (listed.setIfInBounds j true) (by simp [hsz]) (fun k hk => ?_) env' h' c' a' w' hs' hsim'
   by_cases e : j = k
   ·subst e
    have : j < listed.size := by omega
    simp [this]
   ·rw [getD_set_ne false e, hl k hk]
    omega
def aS0 (F : Fr) (Δ : FuncId → List AV → List Obj → Option Hit) (Q : Exit → Act → World → Prop) (keep sb : List Nat) (all pre tail : List Oper) (env : St) (h : List Obj) (acc : List Ent) : Prop :=
 aCw F.E Δ sb all tail (lS F.E.T (dK pre 0) (iM acc env) h).1 (lS F.E.T (dK pre 0) (iM acc env) h).2 (fun env h => At F (Q .normal) (keep.map fun t => (t, look env t)) h) (fun p env h => AtP F Q p env h)
theorem aBV {F : Fr} {Q : Exit → Act → World → Prop} {env : St} {h : List Obj} (hF : vI F) {Δ : FuncId → List AV → List Obj → Option Hit} (hΔ : aEH F.P F.E.G Δ) {id : Nat} {ops : Array Oper} (n : Nat) (hst : (aIi (ops.toList.take n) && zT (ops.toList.take n) && aC2 (ops.toList.take n).length ops.toList) = true) (keep sb : List Nat)
  (hv : vcA F.E h env (ops.toList.take n) 0 [] (aS0 F Δ Q keep sb ops.toList (ops.toList.take n) (ops.toList.drop n) env h)) : Tri F (.region id ops true) Q env h := fun hok c a w hs => by
 simp only [gW, Bool.and_eq_true, Bool.or_eq_true, Bool.not_eq_true'] at hok
 obtain ⟨⟨h1, h2⟩, h3⟩ := hok
 simp only [Bool.and_eq_true] at hst
 obtain ⟨⟨t1, t2⟩, t3⟩ := hst
 have e : ops.toList.take n ++ ops.toList.drop n = ops.toList := List.take_append_drop n ops.toList
 have := aNg (id := id) (pre := ops.toList.take n) (tail := ops.toList.drop n) (Q := Q) hF.env hF.mix (by rw [e]; exact List.all_eq_true.1 h1) t2 t1 (by rw [e]; exact t3) hs (K' := fun env h => aCw F.E Δ sb ops.toList (ops.toList.drop n) env h (fun env h => At F (Q .normal) (keep.map fun t => (t, look env t)) h) (fun p env h => AtP F Q p env h)) hv
  (fun env h c a w listed hsz hl hk hsim => by
   rw [e] at hsz hl ⊢
   exact aNp (K := fun env h => At F (Q .normal) (keep.map fun t => (t, look env t)) h) (Kp := fun p env h => AtP F Q p env h) hF.env hΔ (List.all_eq_true.1 h1) (fun env h c a w hk hs => hk c a w (hs.keep keep)) (fun p env h c a w u hk hs hr => hk c a w u hs hr) t3 (ops.toList.drop n).length (ops.toList.take n).length (by rw [← List.length_append, e]) (Nat.le_refl _) listed hsz hl env h c a w (by
    have e2 : ops.toList.drop (ops.toList.take n).length = ops.toList.drop n := by
     rw [List.length_take]
     rcases Nat.lt_or_ge n ops.toList.length with hh | hh
     ·rw [Nat.min_eq_left (Nat.le_of_lt hh)]
     ·rw [Nat.min_eq_right hh, List.drop_eq_nil_of_le (Nat.le_refl _), List.drop_eq_nil_of_le hh]
    rw [e2]; exact hk) hsim)
 rw [e] at this
 simpa using this
theorem aJy {F : Fr} {fn : Func} {R : Ending → World → Prop} {env : St} {h : List Obj} (hk : At F (bodyPost F.P fn R .ret) env h) : At F (bodyPost F.P fn R .normal) env h := hk
end
attribute [go_sem] aVg rpV
end Go.Vc
namespace Go.Vc
open Go.RowKit
theorem aVh (n : Nat) : ((no_index (OfNat.ofNat n) : Nat) : Int) = OfNat.ofNat n := rfl
def sat {α : Type} (o : Option α) (Θ : α → Prop) : Prop := ∃ x, o = some x ∧ Θ x
section
variable {α β : Type} {p : Prop} [Decidable p] {k x y : Option α} {Θ : α → Prop} {a : α}
theorem aJ (h : sat (ck p k) Θ) : p ∧ sat k Θ := by
 obtain ⟨z, h1, h2⟩ := h
 obtain ⟨hp, hk⟩ := aM h1
 exact ⟨hp, z, hk, h2⟩
theorem fU (hp : p) (h : sat (if p then x else y) Θ) : sat x Θ := by rwa [if_pos hp] at h
theorem fV (hp : ¬ p) (h : sat (if p then x else y) Θ) : sat y Θ := by rwa [if_neg hp] at h
theorem aH {G : Prop} (h : sat (ck p k) Θ) (hg : p → sat k Θ → G) : p ∧ G := ⟨(aJ h).1, hg (aJ h).1 (aJ h).2⟩
theorem cX {G1 G2 : Prop} (h : sat (if p then x else y) Θ) (h1 : p → sat x Θ → G1) (h2 : ¬ p → sat y Θ → G2) : (p → G1) ∧ (¬ p → G2) := ⟨fun c => h1 c (fU c h), fun c => h2 c (fV c h)⟩
theorem bW {G1 G2 : Prop} {m n : Int} (h : sat (if m < n then x else y) Θ) (h1 : m < n → sat x Θ → G1) (h2 : n ≤ m → sat y Θ → G2) : (m < n → G1) ∧ (n ≤ m → G2) := ⟨fun c => h1 c (fU c h), fun c => h2 c (fV (Int.not_lt.2 c) h)⟩
theorem aBW {G1 G2 : Prop} {m n : Int} (h : sat (if m ≤ n then x else y) Θ) (h1 : m ≤ n → sat x Θ → G1) (h2 : n < m → sat y Θ → G2) : (m ≤ n → G1) ∧ (n < m → G2) := ⟨fun c => h1 c (fU c h), fun c => h2 c (fV (Int.not_le.2 c) h)⟩
theorem aHe {G1 G2 : Prop} {b : Bool} (h : sat (if b = true then x else y) Θ) (h1 : b = true → sat x Θ → G1) (h2 : ¬ b = true → sat y Θ → G2) : (b = true → G1) ∧ (¬ b = true → G2) := cX h h1 h2
theorem aC5 {G1 G2 : Prop} {b : Bool} (h : sat (if ¬ b = true then x else y) Θ) (h1 : b = false → sat x Θ → G1) (h2 : ¬ b = false → sat y Θ → G2) : (b = false → G1) ∧ (¬ b = false → G2) :=
 ⟨fun c => h1 c (fU (by rw [c]; decide) h), fun c => h2 c (fV (fun n => c (by simpa using n)) h)⟩
theorem aA (h : sat (some a) Θ) : Θ a := by
 obtain ⟨z, h1, h2⟩ := h
 cases h1; exact h2
theorem aPO {P : Prop} (h : sat none Θ) : P := by
 obtain ⟨z, h1, h2⟩ := h
 cases h1
theorem aQ {o : Option β} {f : β → Option α} (h : sat (o.bind f) Θ) : ∃ z, o = some z ∧ sat (f z) Θ := by
 obtain ⟨r, h1, h2⟩ := h
 cases o with
 | none => cases h1
 | some z => exact ⟨z, rfl, r, h1, h2⟩
end
inductive Pl where
 | A (keep : List Nat)
 | B (keep : List Nat)
 | C (n : Nat) (keep : List Nat)
 | stop
structure PlR where
 reg : List (Nat × Pl)
 stops : List (Nat × Nat)
def aXh : List (Nat × Pl) → Nat → Pl
 | [], _ => .stop
 | (i, p) :: r, id => match decide (i = id) with
  | true => p
  | false => aXh r id
def first : Code → Nat
 | .region id _ _ => id + 3
 | .seq x _ => first x
 | .block _ x => first x
 | .loop x => first x
 | .scope x => first x
 | .skip => 1
 | .label _ => 1
 | .ret => 0
 | _ => 2
def aPP : List (Nat × Nat) → Code → Code → Bool
 | [], _, _ => false
 | (a, b) :: r, x, y => match decide (a = first x) with
  | true => match decide (b = first y) with
   | true => true
   | false => aPP r x y
  | false => aPP r x y
def aY0 (V : St → List Obj → Prop) (K : Exit → St → List Obj → Prop) : Exit → St → List Obj → Prop := fun e env h => match e with
 | .normal => V env h
 | e => K e env h
def aXi (id : Nat) (K : Exit → St → List Obj → Prop) : Exit → St → List Obj → Prop := fun e env h => match e with
 | .normal => K .normal env h
 | .exit j => match decide (j = id) with
  | true => K .normal env h
  | false => K (.exit j) env h
 | .ret => K .ret env h
 | _ => False
def aZx (K : Exit → St → List Obj → Prop) : Exit → St → List Obj → Prop := fun e env h => match e with
 | .normal => K .normal env h
 | .exit j => K (.exit j) env h
 | .ret => K .ret env h
 | _ => False
def vcC (F : Fr) (p : PlR) : Code → (Exit → St → List Obj → Prop) → (Exit → Act → World → Prop) → St → List Obj → Prop
 | .skip, K, _, env, h => K .normal env h
 | .label _, K, _, env, h => K .normal env h
 | .exit id, K, _, env, h => K (.exit id) env h
 | .ret, K, _, env, h => K .ret env h
 | .seq x y, K, Q, env, h => match aPP p.stops x y with
  | true => Tri F (.seq x y) Q env h
  | false => vcC F p x (aY0 (vcC F p y K Q) K) (Exit.then (Next F y Q) Q) env h
 | .cond o x y, K, Q, env, h => match evA F.E.G env o with
  | .val .bool b => (b = true → vcC F p x K Q env h) ∧ (¬ b = true → vcC F p y K Q env h)
  | _ => False
 | .block id x, K, Q, env, h => vcC F p x (aXi id K) (Exit.inBlock id Q) env h
 | .scope x, K, Q, env, h => vcC F p x (aZx K) (Exit.noGoto Q) env h
 | .region id ops draw, K, Q, env, h => match aXh p.reg id with
  | .A keep => vcA F.E h env ops.toList 0 [] (fun acc => K .normal (aIl keep acc env) h)
  | .B keep => draw = false ∧ sL F.E ops.toList ops.toList env h (fun env h => K .normal (keep.map fun t => (t, look env t)) h)
  | .C n keep => (draw = true ∧ (aIi (ops.toList.take n) && zT (ops.toList.take n) && aC2 (ops.toList.take n).length ops.toList) = true) ∧
    vcA F.E h env (ops.toList.take n) 0 [] (fun acc => sL F.E ops.toList (ops.toList.drop n) (lS F.E.T (dK (ops.toList.take n) 0) (iM acc env) h).1 (lS F.E.T (dK (ops.toList.take n) 0) (iM acc env) h).2 (fun env h => K .normal (keep.map fun t => (t, look env t)) h))
  | .stop => Tri F (.region id ops draw) Q env h
 | c, _, Q, env, h => Tri F c Q env h
section
variable {F : Fr} {p : PlR}
theorem aS1 (hF : vI F) {K : Exit → St → List Obj → Prop} {Q : Exit → Act → World → Prop} (hK : ∀ e env h, K e env h → At F (Q e) env h) {id : Nat} {ops : Array Oper} {draw : Bool} {keep : List Nat} {env : St} {h : List Obj}
  (hv : vcA F.E h env ops.toList 0 [] (fun acc => K .normal (aIl keep acc env) h)) : Tri F (.region id ops draw) Q env h := fun hok c a w hs => by
 simp only [gW, Bool.and_eq_true, Bool.or_eq_true, Bool.not_eq_true'] at hok
 obtain ⟨⟨h1, h2⟩, h3⟩ := hok
 have hfin : ∀ acc c' a' w', K .normal (aIl keep acc env) h → dJ c w c' w' → c'.n = c.n → Sim F.E F.M F.w0 F.nt F.ds c' (iM acc env) h a' w' → Q .normal a' w' := fun acc c' a' w' hk _ _ hs' => by
  have := hs'.keep keep
  refine hK _ _ _ hk c' a' w' ?_
  have e : aIl keep acc env = keep.map fun t => (t, look (iM acc env) t) := by
   simp only [aIl, aPw]
  rw [e]; exact this
 cases draw with
 | false => exact aPt (ops := ops.toList) hF.env (List.all_eq_true.1 h1) h2 hs hv hfin
 | true => exact aFg (ops := ops.toList) hF.env hF.mix (List.all_eq_true.1 h1) h2 (h3.resolve_left (by simp)) hs hv hfin
theorem aS2 (hF : vI F) {K : Exit → St → List Obj → Prop} {Q : Exit → Act → World → Prop} (hK : ∀ e env h, K e env h → At F (Q e) env h) {id : Nat} {ops : Array Oper} {keep : List Nat} {env : St} {h : List Obj}
  (hv : sL F.E ops.toList ops.toList env h (fun env h => K .normal (keep.map fun t => (t, look env t)) h)) : Tri F (.region id ops false) Q env h := fun hok c a w hs => by
 simp only [gW, Bool.and_eq_true, Bool.or_eq_true, Bool.not_eq_true'] at hok
 obtain ⟨⟨h1, h2⟩, h3⟩ := hok
 refine wp_region ?_
 have := aJx (Q := Q) hF.env (List.all_eq_true.1 h1) (K := fun env h => K .normal (keep.map fun t => (t, look env t)) h) (fun env h c a w hk hs => hK _ _ _ hk c a w (hs.keep keep)) ops.toList.length 0 (by simp) env h c a w (by simpa using hv) hs
 simpa [List.range_eq_range'] using this
theorem aS3 (hF : vI F) {K : Exit → St → List Obj → Prop} {Q : Exit → Act → World → Prop} (hK : ∀ e env h, K e env h → At F (Q e) env h) {id : Nat} {ops : Array Oper} (n : Nat) (hst : (aIi (ops.toList.take n) && zT (ops.toList.take n) && aC2 (ops.toList.take n).length ops.toList) = true) {keep : List Nat} {env : St} {h : List Obj}
  (hv : vcA F.E h env (ops.toList.take n) 0 [] (fun acc => sL F.E ops.toList (ops.toList.drop n) (lS F.E.T (dK (ops.toList.take n) 0) (iM acc env) h).1 (lS F.E.T (dK (ops.toList.take n) 0) (iM acc env) h).2 (fun env h => K .normal (keep.map fun t => (t, look env t)) h))) :
  Tri F (.region id ops true) Q env h := fun hok c a w hs => by
 simp only [gW, Bool.and_eq_true, Bool.or_eq_true, Bool.not_eq_true'] at hok
 obtain ⟨⟨h1, h2⟩, h3⟩ := hok
 simp only [Bool.and_eq_true] at hst
 obtain ⟨⟨t1, t2⟩, t3⟩ := hst
 have e : ops.toList.take n ++ ops.toList.drop n = ops.toList := List.take_append_drop n ops.toList
 have := aU3 (id := id) (pre := ops.toList.take n) (tail := ops.toList.drop n) (Q := Q) hF.env hF.mix (by rw [e]; exact List.all_eq_true.1 h1) t2 t1 (by rw [e]; exact t3) hs (K' := fun env h => K .normal (keep.map fun t => (t, look env t)) h) (by rw [e]; exact hv) (fun env h c a w hk hs => hK _ _ _ hk c a w (hs.keep keep))
 rw [e] at this
 simpa using this
theorem aC6 (hF : vI F) : ∀ (c : Code) (K : Exit → St → List Obj → Prop) (Q : Exit → Act → World → Prop), (∀ e env h, K e env h → At F (Q e) env h) → ∀ env h, vcC F p c K Q env h → Tri F c Q env h
 | .skip, K, Q, hK, env, h, hv => cM (hK _ _ _ hv)
 | .label _, K, Q, hK, env, h, hv => aTH (hK _ _ _ hv)
 | .exit _, K, Q, hK, env, h, hv => kT (hK _ _ _ hv)
 | .ret, K, Q, hK, env, h, hv => fC (hK _ _ _ hv)
 | .seq x y, K, Q, hK, env, h, hv => by
  unfold vcC at hv
  split at hv
  ·exact hv
  ·refine aE (aC6 hF x _ _ (fun e env h hk => ?_) env h hv)
   cases e with
   | normal => exact aF (aC6 hF y K Q hK env h hk)
   | _ => exact hK _ env h hk
 | .cond o x y, K, Q, hK, env, h, hv => by
  unfold vcC at hv
  split at hv
  ·rename_i b hb
   exact bR hb (fun e => aC6 hF x K Q hK env h (hv.1 e)) (fun e => aC6 hF y K Q hK env h (hv.2 (by rw [e]; decide)))
  ·exact hv.elim
 | .block id x, K, Q, hK, env, h, hv => by
  refine dN (aC6 hF x _ _ (fun e env h hk => ?_) env h hv)
  cases e with
  | normal => exact hK .normal env h hk
  | ret => exact hK .ret env h hk
  | exit j =>
   simp only [aXi] at hk
   split at hk
   ·rename_i hd
    obtain rfl := of_decide_eq_true hd
    exact cZ (hK .normal env h hk)
   ·rename_i hd
    exact iN (of_decide_eq_false hd) (hK (.exit j) env h hk)
  | _ => exact hk.elim
 | .scope x, K, Q, hK, env, h, hv => by
  refine aTN (aC6 hF x _ _ (fun e env h hk => ?_) env h hv)
  cases e with
  | normal => exact hK .normal env h hk
  | ret => exact hK .ret env h hk
  | exit j => exact hK (.exit j) env h hk
  | _ => exact hk.elim
 | .region id ops draw, K, Q, hK, env, h, hv => by
  unfold vcC at hv
  split at hv
  ·exact aS1 hF hK hv
  ·obtain ⟨rfl, hv⟩ := hv; exact aS2 hF hK hv
  ·obtain ⟨⟨rfl, hst⟩, hv⟩ := hv; exact aS3 hF hK _ hst hv
  ·exact hv
 | .loop x, K, Q, hK, env, h, hv => hv
 | .rangeFunc _ _ _ _, K, Q, hK, env, h, hv => hv
 | .goto _, K, Q, hK, env, h, hv => hv
 | .refuse _, K, Q, hK, env, h, hv => hv
end
inductive Kt where
 | fin (Q : Exit → Act → World → Prop)
 | seq (y : Code) (k : Kt)
 | blk (id : Nat) (k : Kt)
 | scp (k : Kt)
 | stp (K : Act → World → Prop) (k : Kt)
def aC7 (F : Fr) : Kt → Exit → Act → World → Prop
 | .fin Q => Q
 | .seq y k => Exit.then (Next F y (aC7 F k)) (aC7 F k)
 | .blk id k => Exit.inBlock id (aC7 F k)
 | .scp k => Exit.noGoto (aC7 F k)
 | .stp K k => Exit.then K (aC7 F k)
def den (F : Fr) (p : PlR) : Kt → Exit → St → List Obj → Prop
 | .fin Q => fun e env h => At F (Q e) env h
 | .seq y k => aY0 (vcC F p y (den F p k) (aC7 F k)) (den F p k)
 | .blk id k => aXi id (den F p k)
 | .scp k => aZx (den F p k)
 | .stp K k => aY0 (fun env h => At F K env h) (den F p k)
def vcT (F : Fr) (p : PlR) (c : Code) (k : Kt) (env : St) (h : List Obj) : Prop := vcC F p c (den F p k) (aC7 F k) env h
section
variable {F : Fr} {p : PlR} {k : Kt} {env : St} {h : List Obj}
theorem uU (hF : vI F) : ∀ (k : Kt) (e : Exit) (env : St) (h : List Obj), den F p k e env h → At F (aC7 F k e) env h
 | .fin Q, e, env, h, hk => hk
 | .seq y k, e, env, h, hk => by
  cases e with
  | normal => exact aF (aC6 hF y _ _ (uU hF k) env h hk)
  | _ => exact uU hF k _ env h hk
 | .blk id k, e, env, h, hk => by
  cases e with
  | normal => exact uU hF k .normal env h hk
  | ret => exact uU hF k .ret env h hk
  | exit j =>
   simp only [den, aXi] at hk
   split at hk
   ·rename_i hd
    obtain rfl := of_decide_eq_true hd
    exact cZ (uU hF k .normal env h hk)
   ·rename_i hd
    exact iN (of_decide_eq_false hd) (uU hF k (.exit j) env h hk)
  | _ => exact hk.elim
 | .scp k, e, env, h, hk => by
  cases e with
  | normal => exact uU hF k .normal env h hk
  | ret => exact uU hF k .ret env h hk
  | exit j => exact uU hF k (.exit j) env h hk
  | _ => exact hk.elim
 | .stp K k, e, env, h, hk => by
  cases e with
  | normal => exact hk
  | _ => exact uU hF k _ env h hk
theorem aN9 (hF : vI F) {c : Code} (hv : vcT F p c k env h) : Tri F c (aC7 F k) env h := aC6 hF c _ _ (uU hF k) env h hv
theorem aVi : vcT F p .skip k env h = den F p k .normal env h := propext Iff.rfl
theorem aTS {l : Nat} : vcT F p (.label l) k env h = den F p k .normal env h := propext Iff.rfl
theorem aVj {id : Nat} : vcT F p (.exit id) k env h = den F p k (.exit id) env h := propext Iff.rfl
theorem aXj : vcT F p .ret k env h = den F p k .ret env h := propext Iff.rfl
theorem aXk {x y : Code} : vcT F p (.seq x y) k env h = match aPP p.stops x y with
  | true => Tri F (.seq x y) (aC7 F k) env h
  | false => vcT F p x (.seq y k) env h := propext Iff.rfl
theorem aVk {o : Operand} {x y : Code} : vcT F p (.cond o x y) k env h = match evA F.E.G env o with
  | .val .bool b => (b = true → vcT F p x k env h) ∧ (¬ b = true → vcT F p y k env h)
  | _ => False := propext Iff.rfl
theorem aTT {id : Nat} {x : Code} : vcT F p (.block id x) k env h = vcT F p x (.blk id k) env h := propext Iff.rfl
theorem aTU {x : Code} : vcT F p (.scope x) k env h = vcT F p x (.scp k) env h := propext Iff.rfl
theorem aVl {x : Code} : vcT F p (.loop x) k env h = Tri F (.loop x) (aC7 F k) env h := propext Iff.rfl
theorem aRr {id : Nat} {ops : Array Oper} {draw : Bool} : vcT F p (.region id ops draw) k env h = match aXh p.reg id with
  | .A keep => vcA F.E h env ops.toList 0 [] (fun acc => den F p k .normal (aIl keep acc env) h)
  | .B keep => draw = false ∧ sL F.E ops.toList ops.toList env h (fun env h => den F p k .normal (keep.map fun t => (t, look env t)) h)
  | .C n keep => (draw = true ∧ (aIi (ops.toList.take n) && zT (ops.toList.take n) && aC2 (ops.toList.take n).length ops.toList) = true) ∧
    vcA F.E h env (ops.toList.take n) 0 [] (fun acc => sL F.E ops.toList (ops.toList.drop n) (lS F.E.T (dK (ops.toList.take n) 0) (iM acc env) h).1 (lS F.E.T (dK (ops.toList.take n) 0) (iM acc env) h).2 (fun env h => den F p k .normal (keep.map fun t => (t, look env t)) h))
  | .stop => Tri F (.region id ops draw) (aC7 F k) env h := propext Iff.rfl
theorem aXl {Q : Exit → Act → World → Prop} {e : Exit} : den F p (.fin Q) e env h = At F (Q e) env h := propext Iff.rfl
theorem aVm {y : Code} : den F p (.seq y k) .normal env h = vcT F p y k env h := propext Iff.rfl
theorem aVn {y : Code} {id : Nat} : den F p (.seq y k) (.exit id) env h = den F p k (.exit id) env h := propext Iff.rfl
theorem aVo {y : Code} : den F p (.seq y k) .ret env h = den F p k .ret env h := propext Iff.rfl
theorem aVp {id : Nat} : den F p (.blk id k) .normal env h = den F p k .normal env h := propext Iff.rfl
theorem aVq {id j : Nat} : den F p (.blk id k) (.exit j) env h = match decide (j = id) with
  | true => den F p k .normal env h
  | false => den F p k (.exit j) env h := propext Iff.rfl
theorem aVr {id : Nat} : den F p (.blk id k) .ret env h = den F p k .ret env h := propext Iff.rfl
theorem aVs : den F p (.scp k) .normal env h = den F p k .normal env h := propext Iff.rfl
theorem aVt {j : Nat} : den F p (.scp k) (.exit j) env h = den F p k (.exit j) env h := propext Iff.rfl
theorem aVu : den F p (.scp k) .ret env h = den F p k .ret env h := propext Iff.rfl
theorem aVv {K : Act → World → Prop} : den F p (.stp K k) .normal env h = At F K env h := propext Iff.rfl
theorem aVw {K : Act → World → Prop} {j : Nat} : den F p (.stp K k) (.exit j) env h = den F p k (.exit j) env h := propext Iff.rfl
theorem aVx {K : Act → World → Prop} : den F p (.stp K k) .ret env h = den F p k .ret env h := propext Iff.rfl
theorem aXm {E : Env} {i : Nat} {acc : List Ent} {K : List Ent → Prop} : vcA E h env [] i acc K = K acc := propext Iff.rfl
theorem aVy {E : Env} {o : Oper} {r : List Oper} {i : Nat} {acc : List Ent} {K : List Ent → Prop} : vcA E h env (o :: r) i acc K = match o.dst, opA E h env acc o with
  | some d, (p, v) => aAy acc o.guard ∧ (eJ acc (zR acc o.guard) → p) ∧ vcA E h env r (i + 1) (⟨i, d, zR acc o.guard, v⟩ :: acc) K
  | none, _ => False := propext (by rw [vcA]; exact Iff.rfl)
theorem aVz {E : Env} {all : List Oper} {K : St → List Obj → Prop} : sL E all [] env h K = K env h := propext Iff.rfl
theorem aTV {E : Env} {all : List Oper} {o : Oper} {r : List Oper} {K : St → List Obj → Prop} : sL E all (o :: r) env h K = match o.guard with
  | none => match xJ E env h o with
   | (p, v, h') => p ∧ sL E all r (vY o.dst v env) h' K
  | some (j, pol) => match aEa all j with
   | some dj => match look env dj with
    | .val .bool b => (b = pol → match xJ E env h o with
      | (p, v, h') => p ∧ sL E all r (vY o.dst v env) h' K) ∧ (b = !pol → sL E all r (vY o.dst .undef env) h K)
    | .undef => sL E all r (vY o.dst .undef env) h K
    | _ => False
   | none => False := propext (by rw [sL] <;> exact Iff.rfl)
def VOK (F : Fr) (p : PlR) : Prop := vI F
theorem cO (hF : VOK F p) {x y : Code} {D : Type} (J : D → Prop) (keep : List Nat) (uE : D → St) (uO : D → List (Nat ⊕ Obj))
  (hx : vcT F p x (.stp (fun a' w' => ∃ d' c', J d' ∧ Sim F.E F.M F.w0 F.nt F.ds c' (aEF env keep (uE d')) (qY h (uO d')) a' w') k) env h)
  (hy : ∀ d, J d → vcT F p y k (aEF env keep (uE d)) (qY h (uO d))) : Tri F (.seq x y) (aC7 F k) env h :=
 aPy J (fun d => aEF env keep (uE d)) (fun d => qY h (uO d)) (aN9 hF hx) (fun d hd => aN9 hF (hy d hd))
theorem bC (hF : VOK F p) {x : Code} {D E R : Type} {G : Md} {step : D → Option (D ⊕ E)} {kk : E → Option R} {Θ : R → Prop} {d0 : D} (keep : List Nat) (uE : D → St) (uO : D → List (Nat ⊕ Obj))
  (hd : sat ((aAB G step d0).bind kk) Θ) (hh : h = qY h (uO d0)) (hf : kU h env (aEF env keep (uE d0)))
  (round : ∀ d (A : D → Prop) (B : D ⊕ E → Prop), (∀ x, B (.inl x) → A x) → (∀ e, B (.inr e) → sat (kk e) Θ) → sat (step d) B → vcT F p x (.stp (fun a' w' => ∃ d' c', A d' ∧ Sim F.E F.M F.w0 F.nt F.ds c' (aEF env keep (uE d')) (qY h (uO d')) a' w') k) (aEF env keep (uE d)) (qY h (uO d))) : Tri F (.loop x) (aC7 F k) env h := by
 obtain ⟨r, hr, hΘ⟩ := hd
 refine aPx (fun d => (aAB G step d).bind kk = some r) (aBU step) (fun d => aEF env keep (uE d)) (fun d => qY h (uO d)) (aP d0 hr hh hf) fun d hi => ?_
 obtain ⟨s, h1, h2⟩ := aKp hi
 refine aN9 hF (k := .stp _ k) (round d (fun d' => (aAB G step d').bind kk = some r ∧ aBU step d' < aBU step d) (uT (fun d' => (aAB G step d').bind kk = some r ∧ aBU step d' < aBU step d) (fun e => kk e = some r)) (fun _ hx => hx) (fun e he => ⟨r, he, hΘ⟩) ⟨s, h1, h2⟩)
theorem cT (hF : VOK F p) {id : Nat} {ops : Array Oper} {draw : Bool} (keep : List Nat) (hv : vcA F.E h env ops.toList 0 [] (fun acc => den F p k .normal (aIl keep acc env) h)) : Tri F (.region id ops draw) (aC7 F k) env h :=
 aS1 hF (uU hF k) hv
theorem aKr (hF : VOK F p) {id : Nat} {ops : Array Oper} (keep : List Nat) (hv : sL F.E ops.toList ops.toList env h (fun env h => den F p k .normal (keep.map fun t => (t, look env t)) h)) : Tri F (.region id ops false) (aC7 F k) env h :=
 aS2 hF (uU hF k) hv
theorem aY1 (hF : VOK F p) {id : Nat} {ops : Array Oper} (n : Nat) (hst : (aIi (ops.toList.take n) && zT (ops.toList.take n) && aC2 (ops.toList.take n).length ops.toList) = true) (keep : List Nat)
  (hv : vcA F.E h env (ops.toList.take n) 0 [] (fun acc => sL F.E ops.toList (ops.toList.drop n) (lS F.E.T (dK (ops.toList.take n) 0) (iM acc env) h).1 (lS F.E.T (dK (ops.toList.take n) 0) (iM acc env) h).2 (fun env h => den F p k .normal (keep.map fun t => (t, look env t)) h))) :
  Tri F (.region id ops true) (aC7 F k) env h := aS3 hF (uU hF k) n hst hv
def aYv (P : Program) (fn : Func) (S : Nat → Prop) (w0 : World) (r : RK) (Θ : r.ty.den → Prop) : Exit → Act → World → Prop := fun e a w => ∃ y, Θ y ∧ post P fn S w0 r y e a w
theorem aG {F : Fr} {fn : Func} {S : Nat → Prop} {r : RK} {Θ : r.ty.den → Prop} {env : St} {h : List Obj} (hF : vI F) (l : List ResultVar) (hM : F.M = top S) (hds : F.ds = []) (hr : fn.results = l.toArray) {y : r.ty.den} (hy : Θ y) (hq : (aV F.E.T h env l).1 ∧ oE h r y (aV F.E.T h env l).2) : At F (aYv F.P fn S F.w0 r Θ .ret) env h :=
 fun c a w hs => ⟨y, hy, gL hF l hM hds hr hq c a w hs⟩
theorem bD {P : Program} {E : Env} {f : FuncId} {fn : Func} {body : Code} {a : Ty} {r : RK} {m : a.den → Option r.ty.den} (hE : gN P E) (hm : P.follows .mixedOrders = true) (hf : P.funcs[f]? = some fn) (hb : fn.body = some body) (hok : gW fn.ntmps body = true) (hn : aNd a ≤ fn.ntmps) (p : PlR)
  (ht : ∀ (w0 : World) (S : Nat → Prop) (x : a.den) (Θ : r.ty.den → Prop), a.wf x → sat (m x) Θ → VOK (fr P E S w0 fn.ntmps) p → vcT (fr P E S w0 fn.ntmps) p body (.fin (aYv P fn S w0 r Θ)) (bH a x 0) []) : FOK P E.G f (mSpec a r m) :=
 wE hE hf hb hok hn fun w0 S x y hw hx => by
  have hF : vI (fr P E S w0 fn.ntmps) := ⟨hE, hm⟩
  have := aN9 hF (ht w0 S x (fun z => z = y) hw ⟨y, hx, rfl⟩ hF)
  intro hok c a w hs
  refine wp_mono (this hok c a w hs) fun e a' w' hq => ?_
  obtain ⟨z, rfl, hz⟩ := hq
  exact hz
end
attribute [go_sem ↓] aVi aTS aVj aXj aXk aVk aTT aTU aVl aRr
attribute [go_sem ↓] aXl aVm aVn aVo aVp aVq aVr aVs aVt aVu aVv aVw aVx
attribute [go_sem ↓] aXm aVy aVz aTV
attribute [go_sem] aXh first aPP kU hZ oE eq_self aVh
end Go.Vc
namespace Go.Vc
open Go.RowKit
end Go.Vc
namespace Go.Vc
open Go.RowKit
def bitsOf (n : Nat) (done : List Nat) : List Bool := (List.range n).map fun i => done.contains i
def aZy (F : Fr) (inv : List Bool → St × List Obj) (downs : List (List Bool)) (bs' : List Bool) (d : Option Nat) (env : St) (r : Prop × AV × List Obj) : Prop := match r with
 | (p, v, h') => p ∧ bs' ∈ downs ∧ ∃ σ, zX σ = true ∧ preB F.M.m σ = true ∧ ((inv bs').1.map fun q => (q.1, ren σ (look (vY d v env) q.1))) = (inv bs').1 ∧ (σ.map fun j => yP σ (h'.getD j .dead)) = (inv bs').2
def stT (F : Fr) (ops : List Oper) (inv : List Bool → St × List Obj) (downs : List (List Bool)) (bs : List Bool) (i : Nat) : Prop :=
 match ops[i]? with
 | some o => o.guard = none ∧ aZy F inv downs (bs.set i true) o.dst (inv bs).1 (xJ F.E (inv bs).1 (inv bs).2 o)
 | none => False
inductive Dk where
 | v (t : Nat) (x : AV)
 | mk (t : Nat) (o : Obj)
 | cp (t j : Nat)
def aVA : List Dk → List Bool → Nat → Nat
 | _, _, 0 => 0
 | .mk _ _ :: r, true :: bs, j + 1 => aVA r bs j + 1
 | _ :: r, _ :: bs, j + 1 => aVA r bs j
 | _, _, _ + 1 => 0
def aZz (ds : List Dk) (bs : List Bool) (n i : Nat) : Dk → Nat × AV
 | .v t x => (t, x)
 | .mk t _ => (t, .own (n + aVA ds bs i))
 | .cp t j => (t, .own (n + aVA ds bs j))
def aXn (ds : List Dk) (bs : List Bool) (n : Nat) : List Dk → List Bool → Nat → St
 | _, [], _ => []
 | [], _ :: _, _ => []
 | d :: r, true :: b, i => aZz ds bs n i d :: aXn ds bs n r b (i + 1)
 | _ :: r, false :: b, i => aXn ds bs n r b (i + 1)
def aXo : List Dk → List Bool → List Obj
 | .mk _ o :: r, true :: b => o :: aXo r b
 | _ :: r, _ :: b => aXo r b
 | _, _ => []
def aZV (env : St) (h : List Obj) (ds : List Dk) (bs : List Bool) : St × List Obj := (aXn ds bs h.length ds bs 0 ++ env, h ++ aXo ds bs)
def stL (F : Fr) (ops : List Oper) (inv : List Bool → St × List Obj) (downs : List (List Bool)) (bs : List Bool) : List Nat → Prop
 | [] => True
 | i :: r => stT F ops inv downs bs i ∧ stL F ops inv downs bs r
def stM (F : Fr) (ops : List Oper) (inv : List Bool → St × List Obj) (downs : List (List Bool)) : List (List Bool × List Nat) → Prop
 | [] => True
 | p :: r => stL F ops inv downs p.1 p.2 ∧ stM F ops inv downs r
attribute [go_sem] stM stL stT aZy aZV aXn aZz aXo aVA bitsOf
end Go.Vc
namespace Go.Vc
open Go.RowKit
def pk (b : Bool) (i : Nat) : AV := bif b then .nilP else .ptr i []
theorem aXp {σ : List Nat} {b : Bool} {i : Nat} : kK σ (pk b i) = match posOf i σ with
 | some j => pk b j
 | none => bif b then .nilP else .junk := by
 cases b
 ·show kK σ (.ptr i []) = _
  simp only [kK]
  cases posOf i σ <;> rfl
 ·show kK σ .nilP = _
  simp only [kK]
  cases posOf i σ <;> rfl
theorem aXq {μ : List Nat} {b : Bool} {i : Nat} : aFk μ (pk b i) = match μ[i]? with
 | some j => pk b j
 | none => bif b then .nilP else .junk := by
 cases b
 ·show aFk μ (.ptr i []) = _
  simp only [aFk]
  cases μ[i]? <;> rfl
 ·show aFk μ .nilP = _
  simp only [aFk]
  cases μ[i]? <;> rfl
theorem aTW {b : Bool} {i : Nat} : AV.solid1 (pk b i) = true := by cases b <;> rfl
theorem aY2 {b : Bool} {i : Nat} : AV.nc1 (pk b i) = 1 := by cases b <;> rfl
section
variable {F : Fr} {K : Act → World → Prop} {env : St} {h : List Obj}
theorem aVB (i n : Nat) (e : TypeId) (ho : h[i]? = some (.box n (.agg [.nilP, .nilS]))) (hk : At F K env (h.set i (.box n (.agg [pk true i, .own h.length])) ++ [.row e (.u .u8) []])) : At F K env h := fun c a w hs => by
 have e1 : (c.push (.slice none 0 0)).hd c.n = .slice none 0 0 := by simp [Ctx.push]
 have hil : i < h.length := qQ ho
 obtain ⟨g1, g2⟩ := hs.good.push (.refl nothing w) (o := .row e (.u .u8) []) (hv := .slice none 0 0) (by
  show uG _ _ _ _ _ _
  rw [e1]
  exact ⟨[], ⟨by simp, .inl ⟨rfl, rfl⟩⟩, ⟨rfl, [], rfl, rfl, fun i h => by simp at h⟩⟩) (fun b hb => by simp [ownBlock, e1, aU] at hb)
 have ho' : (h ++ [Obj.row e (.u .u8) []])[i]? = some (.box n (.agg [.nilP, .nilS])) := by rw [List.getElem?_append_left hil]; exact ho
 obtain ⟨b, cells, e', q1, q2, q3, q4⟩ := g1.objs i _ ho'
 have hcells : aL (c.push (.slice none 0 0)) w (.agg [pk true i, .own h.length]) cells.toList := by
  simp only [aL] at q4 ⊢
  obtain ⟨c1, c2, hc, h1, c3, c4, hc2, h2, h3⟩ := q4
  refine ⟨c1, c2, hc, h1, c3, c4, hc2, ?_, h3⟩
  simp only [aL] at h2 ⊢
  rw [← hs.good.n]
  exact ⟨Nat.lt_succ_self _, by rw [h2, e1], by rw [e1]; trivial⟩
 have hob : ownBlock (c.push (.slice none 0 0)) i (.box n (.agg [.nilP, .nilS])) = some b := by simp [ownBlock, q1, aU]
 have key := g1.modify (o' := .box n (.agg [pk true i, .own h.length])) ho' hob (w' := w) rfl rfl rfl rfl (fun _ _ => rfl) ⟨b, cells, e', q1, q2, q3, hcells⟩ (fun b' hb' => by
  simp only [ownBlock, q1, aU, Option.some.injEq] at hb'
  exact hb'.symm)
 rw [List.set_append_left _ _ hil] at key
 exact hk _ a w ⟨key.1, hs.glob.mono (fun _ h => h) (.refl _ _), fun t => g2.val (hs.env t), hs.size, hs.defers⟩
theorem aXr (i n : Nat) (e : TypeId) (t : Ty) (ho : h[i]? = some (.box n .nilS)) (hk : At F K env (h.set i (.box n (.own h.length)) ++ [.row e t []])) : At F K env h := fun c a w hs => by
 have e1 : (c.push (.slice none 0 0)).hd c.n = .slice none 0 0 := by simp [Ctx.push]
 have hil : i < h.length := qQ ho
 obtain ⟨g1, g2⟩ := hs.good.push (.refl nothing w) (o := .row e t []) (hv := .slice none 0 0) (by
  show uG _ _ _ _ _ _
  rw [e1]
  exact ⟨[], ⟨by simp, .inl ⟨rfl, rfl⟩⟩, ⟨rfl, [], rfl, rfl, fun i h => by simp at h⟩⟩) (fun b hb => by simp [ownBlock, e1, aU] at hb)
 have ho' : (h ++ [Obj.row e t []])[i]? = some (.box n .nilS) := by rw [List.getElem?_append_left hil]; exact ho
 obtain ⟨b, cells, e', q1, q2, q3, q4⟩ := g1.objs i _ ho'
 have hcells : aL (c.push (.slice none 0 0)) w (.own h.length) cells.toList := by
  simp only [aL] at q4 ⊢
  rw [← hs.good.n]
  exact ⟨Nat.lt_succ_self _, by rw [q4, e1], by rw [e1]; trivial⟩
 have hob : ownBlock (c.push (.slice none 0 0)) i (.box n .nilS) = some b := by simp [ownBlock, q1, aU]
 have key := g1.modify (o' := .box n (.own h.length)) ho' hob (w' := w) rfl rfl rfl rfl (fun _ _ => rfl) ⟨b, cells, e', q1, q2, q3, hcells⟩ (fun b' hb' => by
  simp only [ownBlock, q1, aU, Option.some.injEq] at hb'
  exact hb'.symm)
 rw [List.set_append_left _ _ hil] at key
 exact hk _ a w ⟨key.1, hs.glob.mono (fun _ h => h) (.refl _ _), fun t => g2.val (hs.env t), hs.size, hs.defers⟩
end
attribute [go_sem ↓] aXp aXq aTW aY2
end Go.Vc
namespace Go.Proofs
open Go Go.Shelf
section
variable {P : Program} {ρ : Ren}
theorem aEJ (w : World) (r : Option Nat) : w.grownBy w.drew r := ⟨rfl, rfl, rfl, Nat.le_refl _, fun _ _ _ => rfl⟩
theorem aOa (w : World) (g n : Nat) : w.grownBy (w.drew.freeze ⟨g, 0, none⟩ n) (some g) := by
 unfold World.freeze
 split
 ·exact aEJ w _
 ·refine ⟨rfl, rfl, rfl, by simp, fun k hk hne => ?_⟩
  show (w.drew.heap.modify g _)[k]? = _
  rw [Array.getElem?_modify, if_neg (fun e => hne (by rw [e]))]
  rfl
theorem aRs (w : World) (o : Obj) (r : Option Nat) : w.grownBy (w.drew.alloc o) r := ⟨rfl, rfl, rfl, by show _ ≤ (w.drew.heap.push o).size; rw [Array.size_push]; exact Nat.le_succ _, fun k hk _ => Lib.alloc_old w.drew o k hk⟩
set_option maxHeartbeats 4000000 in
set_option maxRecDepth 100000 in
theorem aPQ (L : Lays.n169 P ρ) (X : Builder.Extra P ρ) (b g cap : Nat) (p : Value) (cur : Array Value) (l : List UInt8) (w : World) (h0 : l ≠ []) (hbk : w.heap[b]? = some (.cells #[p, .slice (some ⟨g, 0, none⟩) l.length cap] (ρ.t 72) (0, 0)))
  (hg : w.heap[g]? = some (.cells cur (ρ.t 5) (0, 0))) (hnc : l.length ≤ cap) (hcm : cap ≤ maxLen) (hcs : cur.size = cap) (hcell : ∀ j x, l[j]? = some x → w.cell? ((⟨g, 0, none⟩ : Addr).add j) = some (.int .u8 x.toNat)) :
  Calls P (ρ.f 169) #[.pointer (some ⟨b, 0, none⟩)] w fun e w' => e = .returned (.string ⟨l.toArray⟩) ∧ w.grownBy w' (some g) := by
 have hl0 : l.length ≠ 0 := by simpa using h0
 have c1 : w.drew.cell? ⟨b, 1, none⟩ = some (.slice (some ⟨g, 0, none⟩) l.length cap) := by
  have : w.drew.heap[b]? = some (.cells #[p, .slice (some ⟨g, 0, none⟩) l.length cap] (ρ.t 72) (0, 0)) := hbk
  rw [Lib.cell_of_heap this]; rfl
 have hSD : (Builtin.unsafeSliceData_ #[(ρ.t 37)] (ρ.t 127) #[.slice (some ⟨g, 0, none⟩) l.length cap]).run P w.drew = .ok (.pointer (some ⟨g, 0, none⟩)) w.drew :=
  Lib.run_unsafeSliceData_row _ _ _ _ _ _ (by omega)
 have hUS : (Builtin.unsafeString_ #[(ρ.t 127), (ρ.t 3)] (ρ.t 9) #[.pointer (some ⟨g, 0, none⟩), .int .i64 l.length]).run P w.drew = .ok (.string ⟨l.toArray⟩) (w.drew.freeze ⟨g, 0, none⟩ l.length) := by
  refine Lib.run_unsafeString_row w.drew (ρ.t 127) (ρ.t 3) (ρ.t 9) (ρ.t 5) L.t127 X.cellsByte g cur.size (by have hg' : w.drew.heap[g]? = some (.cells cur (ρ.t 5) (0, 0)) := hg; simp [World.shape?, hg']) l h0 (by omega) (by unfold maxLen at hcm; omega) ?_
  exact hcell
 have mixed := L.mixed
 have t72 := L.t72; have a72 := L.a72; have z72 := L.z72; have v72 := L.v72; have u72 := run_underlying L.t72
 have t70 := L.t70; have a70 := L.a70; have z70 := L.z70; have v70 := L.v70; have u70 := run_underlying L.t70
 have t37 := L.t37; have a37 := L.a37; have z37 := L.z37; have v37 := L.v37; have u37 := run_underlying L.t37
 have t127 := L.t127; have a127 := L.a127; have z127 := L.z127; have v127 := L.v127; have u127 := run_underlying L.t127
 have t3 := L.t3; have a3 := L.a3; have z3 := L.z3; have v3 := L.v3; have u3 := run_underlying L.t3
 have t9 := L.t9; have a9 := L.a9; have z9 := L.z9; have v9 := L.v9; have u9 := run_underlying L.t9
 have t5 := X.t5; have a5 := X.a5; have z5 := X.z5; have v5 := X.v5; have u5 := run_underlying X.t5
 go_enter L.f169, Body.n169_ntmps ρ
 go_wp2
 go_region_o
 all_goals (go_wp2; go_ret; exact ⟨rfl, aOa w g _⟩)
set_option maxHeartbeats 4000000 in
set_option maxRecDepth 100000 in
theorem aRt (L : Lays.n169 P ρ) (X : Builder.Extra P ρ) (b : Nat) (p : Value) (w : World) (hbk : w.heap[b]? = some (.cells #[p, .slice none 0 0] (ρ.t 72) (0, 0))) :
  Calls P (ρ.f 169) #[.pointer (some ⟨b, 0, none⟩)] w fun e w' => e = .returned (.string ⟨#[]⟩) ∧ w.grownBy w' none := by
 have hUS := Any.unsafeString_none L X
 have c1 : w.drew.cell? ⟨b, 1, none⟩ = some (.slice none 0 0) := by
  have : w.drew.heap[b]? = some (.cells #[p, .slice none 0 0] (ρ.t 72) (0, 0)) := hbk
  rw [Lib.cell_of_heap this]; rfl
 have hSD : (Builtin.unsafeSliceData_ #[(ρ.t 37)] (ρ.t 127) #[.slice none 0 0]).run P w.drew = .ok (.pointer none) w.drew := rfl
 have mixed := L.mixed
 have t72 := L.t72; have a72 := L.a72; have z72 := L.z72; have v72 := L.v72; have u72 := run_underlying L.t72
 have t70 := L.t70; have a70 := L.a70; have z70 := L.z70; have v70 := L.v70; have u70 := run_underlying L.t70
 have t37 := L.t37; have a37 := L.a37; have z37 := L.z37; have v37 := L.v37; have u37 := run_underlying L.t37
 have t127 := L.t127; have a127 := L.a127; have z127 := L.z127; have v127 := L.v127; have u127 := run_underlying L.t127
 have t3 := L.t3; have a3 := L.a3; have z3 := L.z3; have v3 := L.v3; have u3 := run_underlying L.t3
 have t9 := L.t9; have a9 := L.a9; have z9 := L.z9; have v9 := L.v9; have u9 := run_underlying L.t9
 have t5 := X.t5; have a5 := X.a5; have z5 := X.z5; have v5 := X.v5; have u5 := run_underlying X.t5
 go_enter L.f169, Body.n169_ntmps ρ
 go_wp2
 go_region_o
 all_goals (go_wp2; go_ret; exact ⟨rfl, aEJ w _⟩)
set_option maxHeartbeats 4000000 in
set_option maxRecDepth 100000 in
theorem aMa (L : Lays.n169 P ρ) (X : Builder.Extra P ρ) (b g : Nat) (p : Value) (cur : Array Value) (w : World) (hbk : w.heap[b]? = some (.cells #[p, .slice (some ⟨g, 0, none⟩) 0 0] (ρ.t 72) (0, 0))) (hg : w.heap[g]? = some (.cells cur (ρ.t 5) (0, 0))) :
  Calls P (ρ.f 169) #[.pointer (some ⟨b, 0, none⟩)] w fun e w' => e = .returned (.string ⟨#[]⟩) ∧ w.grownBy w' none := by
 have hUS := Any.unsafeString_none L X
 have hlt : b < w.heap.size := (Array.getElem?_eq_some_iff.1 hbk).1
 have c1 : w.drew.cell? ⟨b, 1, none⟩ = some (.slice (some ⟨g, 0, none⟩) 0 0) := by
  have : w.drew.heap[b]? = some (.cells #[p, .slice (some ⟨g, 0, none⟩) 0 0] (ρ.t 72) (0, 0)) := hbk
  rw [Lib.cell_of_heap this]; rfl
 have hSD : (Builtin.unsafeSliceData_ #[(ρ.t 37)] (ρ.t 127) #[.slice (some ⟨g, 0, none⟩) 0 0]).run P w.drew = .ok (.pointer (some ⟨w.drew.heap.size, 0, none⟩)) (w.drew.alloc (.view ⟨g, 0, none⟩ (ρ.t 5))) :=
  Lib.run_unsafeSliceData_zero w.drew _ _ (ρ.t 5) L.t127 ⟨g, 0, none⟩ 0 ((ρ.t 5), cur.size) (by have hg' : w.drew.heap[g]? = some (.cells cur (ρ.t 5) (0, 0)) := hg; simp [World.shape?, hg'])
 have c2 : (w.drew.alloc (.view ⟨g, 0, none⟩ (ρ.t 5))).cell? ⟨b, 1, none⟩ = some (.slice (some ⟨g, 0, none⟩) 0 0) := by
  have : (w.drew.alloc (.view ⟨g, 0, none⟩ (ρ.t 5))).heap[b]? = _ := (Lib.alloc_old w.drew _ b hlt).trans hbk
  rw [Lib.cell_of_heap this]; rfl
 have c3 : (w.alloc (.view ⟨g, 0, none⟩ (ρ.t 5))).drew.cell? ⟨b, 1, none⟩ = some (.slice (some ⟨g, 0, none⟩) 0 0) := c2
 have c0 : w.cell? ⟨b, 1, none⟩ = some (.slice (some ⟨g, 0, none⟩) 0 0) := c1
 have mixed := L.mixed
 have t72 := L.t72; have a72 := L.a72; have z72 := L.z72; have v72 := L.v72; have u72 := run_underlying L.t72
 have t70 := L.t70; have a70 := L.a70; have z70 := L.z70; have v70 := L.v70; have u70 := run_underlying L.t70
 have t37 := L.t37; have a37 := L.a37; have z37 := L.z37; have v37 := L.v37; have u37 := run_underlying L.t37
 have t127 := L.t127; have a127 := L.a127; have z127 := L.z127; have v127 := L.v127; have u127 := run_underlying L.t127
 have t3 := L.t3; have a3 := L.a3; have z3 := L.z3; have v3 := L.v3; have u3 := run_underlying L.t3
 have t9 := L.t9; have a9 := L.a9; have z9 := L.z9; have v9 := L.v9; have u9 := run_underlying L.t9
 have t5 := X.t5; have a5 := X.a5; have z5 := X.z5; have v5 := X.v5; have u5 := run_underlying X.t5
 go_enter L.f169, Body.n169_ntmps ρ
 go_wp2
 go_region_o
 all_goals (go_wp2; go_ret; exact ⟨rfl, aRs w _ _⟩)
set_option maxHeartbeats 4000000 in
set_option maxRecDepth 100000 in
theorem aPR (L : Lays.n169 P ρ) (X : Builder.Extra P ρ) (b g cap : Nat) (p : Value) (w : World) (hc0 : cap ≠ 0) (hbk : w.heap[b]? = some (.cells #[p, .slice (some ⟨g, 0, none⟩) 0 cap] (ρ.t 72) (0, 0))) :
  Calls P (ρ.f 169) #[.pointer (some ⟨b, 0, none⟩)] w fun e w' => e = .returned (.string ⟨#[]⟩) ∧ w.grownBy w' none := by
 have hUS := Any.unsafeString_none L X
 have c1 : w.drew.cell? ⟨b, 1, none⟩ = some (.slice (some ⟨g, 0, none⟩) 0 cap) := by
  have : w.drew.heap[b]? = some (.cells #[p, .slice (some ⟨g, 0, none⟩) 0 cap] (ρ.t 72) (0, 0)) := hbk
  rw [Lib.cell_of_heap this]; rfl
 have hSD : (Builtin.unsafeSliceData_ #[(ρ.t 37)] (ρ.t 127) #[.slice (some ⟨g, 0, none⟩) 0 cap]).run P w.drew = .ok (.pointer (some ⟨g, 0, none⟩)) w.drew :=
  Lib.run_unsafeSliceData_row _ _ _ _ _ _ hc0
 clear hc0
 have mixed := L.mixed
 have t72 := L.t72; have a72 := L.a72; have z72 := L.z72; have v72 := L.v72; have u72 := run_underlying L.t72
 have t70 := L.t70; have a70 := L.a70; have z70 := L.z70; have v70 := L.v70; have u70 := run_underlying L.t70
 have t37 := L.t37; have a37 := L.a37; have z37 := L.z37; have v37 := L.v37; have u37 := run_underlying L.t37
 have t127 := L.t127; have a127 := L.a127; have z127 := L.z127; have v127 := L.v127; have u127 := run_underlying L.t127
 have t3 := L.t3; have a3 := L.a3; have z3 := L.z3; have v3 := L.v3; have u3 := run_underlying L.t3
 have t9 := L.t9; have a9 := L.a9; have z9 := L.z9; have v9 := L.v9; have u9 := run_underlying L.t9
 have t5 := X.t5; have a5 := X.a5; have z5 := X.z5; have v5 := X.v5; have u5 := run_underlying X.t5
 go_enter L.f169, Body.n169_ntmps ρ
 go_wp2
 go_region_o
 all_goals (go_wp2; go_ret; exact ⟨rfl, aEJ w _⟩)
end
end Go.Proofs
namespace Go.Vc
open Go.RowKit
section
variable {M : Perm} {w0 : World} {c : Ctx} {h : List Obj} {w : World}
def aVC (b : Bool) (B : Nat) : Value := bif b then .pointer none else .pointer (some ⟨B, 0, none⟩)
theorem aKs (hg : Good M w0 c h w) {tb e : TypeId} {b : Bool} {i j : Nat} {xs : List Nat} (hi : h[i]? = some (.box (4294967296 + tb) (.agg [pk b i, .own j]))) (hj : h[j]? = some (.row e (.u .u8) xs)) :
  ∃ B, c.hd i = .pointer (some ⟨B, 0, none⟩) ∧ w.heap[B]? = some (.cells #[aVC b B, c.hd j] tb (0, 0)) ∧ uG c w e (.u .u8) xs (c.hd j) := by
 obtain ⟨B, cells, e', q1, q2, q3, q4⟩ := hg.objs i _ hi
 have hr : uG c w e (.u .u8) xs (c.hd j) := hg.objs j _ hj
 simp only [aL] at q4
 obtain ⟨c1, c2, hc, h1, c3, c4, hc2, h2, h3⟩ := q4
 have h3 : c4 = [] := h3
 simp only [aL] at h2
 have e2 : c2 = [c.hd j] := by rw [hc2, h2.2.1, h3]; rfl
 have e1 : c1 = [aVC b B] := by
  cases b with
  | true => exact h1
  | false =>
   have h1 : aL c w (.ptr i []) c1 := h1
   simp only [aL] at h1
   obtain ⟨_, B', hB, hc1⟩ := h1
   rw [q1] at hB
   cases hB
   exact hc1
 have e3 : cells = #[aVC b B, c.hd j] := by
  rw [← Array.toList_inj, hc, e1, e2]; rfl
 subst e3
 have et : tb = e' := by
  rcases q3 with q3 | ⟨_, q3⟩
  ·have : (2 : Nat) = 4294967296 + tb := q3
   omega
  ·exact Nat.add_left_cancel q3
 subst et
 exact ⟨B, q1, q2, hr⟩
theorem aVD (hg : Good M w0 c h w) {tb e : TypeId} {b : Bool} {i j : Nat} {xs : List Nat} (hi : h[i]? = some (.box (4294967296 + tb) (.agg [pk b i, .own j]))) (hj : h[j]? = some (.row e (.u .u8) xs)) {B : Nat} (hB : c.hd i = .pointer (some ⟨B, 0, none⟩)) :
  Good M w0 c (h.set i (.box (4294967296 + tb) (.agg [pk false i, .own j]))) (w.setCell ⟨B, 0, none⟩ (.pointer (some ⟨B, 0, none⟩))) := by
 obtain ⟨B', q1, q2, q3⟩ := aKs hg hi hj
 rw [hB] at q1
 obtain rfl : B = B' := by cases q1; rfl
 have hob : ownBlock c i (.box (4294967296 + tb) (.agg [pk b i, .own j])) = some B := by simp [ownBlock, hB, aU]
 have hheap : (w.setCell ⟨B, 0, none⟩ (.pointer (some ⟨B, 0, none⟩))).heap[B]? = some (.cells #[.pointer (some ⟨B, 0, none⟩), c.hd j] tb (0, 0)) := by
  simp [World.setCell, Array.getElem?_modify, q2]
 have hjl := qQ hj
 have hil := qQ hi
 have hone : one (c.hd j) := by
  obtain ⟨vals, hown, _⟩ := q3
  obtain ⟨a, n, m, hsl⟩ := iG hown
  rw [hsl]; trivial
 exact (hg.modify (o' := .box (4294967296 + tb) (.agg [pk false i, .own j])) hi hob (w' := w.setCell ⟨B, 0, none⟩ (.pointer (some ⟨B, 0, none⟩))) rfl rfl rfl (by simp [World.setCell]) (fun k hk => by simp [World.setCell, Array.getElem?_modify, Ne.symm hk])
  ⟨B, _, tb, hB, hheap, .inr ⟨rfl, rfl⟩, by
   have key : jC c (w.setCell ⟨B, 0, none⟩ (.pointer (some ⟨B, 0, none⟩))) [pk false i, .own j] [.pointer (some ⟨B, 0, none⟩), c.hd j] := ?_
   ·simp only [aL]; exact key
   refine ⟨[.pointer (some ⟨B, 0, none⟩)], [c.hd j], rfl, ?_, [c.hd j], [], rfl, ?_, rfl⟩
   ·show aL c _ (.ptr i []) _
    simp only [aL]
    refine ⟨by rw [hg.n]; exact hil, B, by rw [hB]; rfl, ?_⟩
    first | rfl | trivial
   ·simp only [aL]
    refine ⟨by rw [hg.n]; exact hjl, ?_, hone⟩
    first | rfl | trivial⟩ (fun b' hb' => by simp only [ownBlock, hB, aU, Option.some.injEq] at hb'; exact hb'.symm)).1
theorem aTX {e : TypeId} {xs : List Nat} {v : Value} (h : uG c w e (.u .u8) xs v) : ∃ l : List UInt8, xs = l.map (·.toNat) ∧ ((v = .slice none 0 0 ∧ l = []) ∨ ∃ g cap cur, v = .slice (some ⟨g, 0, none⟩) l.length cap ∧ w.heap[g]? = some (.cells cur e (0, 0)) ∧ l.length ≤ cap ∧ cap ≤ maxLen ∧ cur.size = cap ∧ ∀ j x, l[j]? = some x → w.cell? ((⟨g, 0, none⟩ : Addr).add j) = some (.int .u8 x.toNat)) := by
 obtain ⟨vals, hown, hl, css, hc, hcl, hr⟩ := h
 have key : ∀ i (h : i < xs.length) (h' : i < css.length), css[i] = [Value.int .u8 (xs[i] : Int)] ∧ xs[i] < 256 := fun i h h' => by
  obtain ⟨h1, _, h3⟩ := hr i h h'
  refine ⟨h1, ?_⟩
  simp only [IntKind.max, IntKind.signed, IntKind.bits] at h3
  simp at h3
  omega
 refine ⟨xs.map UInt8.ofNat, ?_, ?_⟩
 ·rw [List.map_map]
  apply List.ext_getElem
  ·simp
  ·intro i h1 h2
   have := (key i h1 (by have : css.length = xs.length := hcl; omega)).2
   simp only [List.getElem_map, Function.comp]
   rw [UInt8.toNat_ofNat']
   omega
 ·have hlen : (xs.map UInt8.ofNat).length = xs.length := by simp
  rcases hown.2 with ⟨h1, h2⟩ | ⟨g, cap, cur, hv, hbg, hg, hnc, hcm, hcs, htake⟩
  ·left; exact ⟨h1, by rw [List.eq_nil_of_length_eq_zero h2]; rfl⟩
  ·right
   refine ⟨g, cap, cur, by rw [hlen]; exact hv, hg, by rw [hlen]; exact hnc, hcm, by simpa [Ty.cells] using hcs, fun j x hx => ?_⟩
   have hj : j < xs.length := by
    rcases Nat.lt_or_ge j xs.length with h | h
    ·exact h
    ·rw [List.getElem?_eq_none (by simpa using h)] at hx; cases hx
   have hjc : j < css.length := by have : css.length = xs.length := hcl; omega
   have hx' : x = UInt8.ofNat xs[j] := by
    rw [List.getElem?_map, List.getElem?_eq_getElem hj] at hx
    simpa using hx.symm
   have hk := key j hj hjc
   have hval : vals[j]? = some (.int .u8 (xs[j] : Int)) := by
    obtain ⟨pre, post, hf, hpl⟩ := nB (t := .u .u8) (css := css) (fun q hq => aW.length _ _ _ (hr q (by have : css.length = xs.length := hcl; omega) hq)) j hjc
    rw [hc, hf, List.append_assoc, List.getElem?_append_right (by rw [hpl]; simp [Ty.cells]), hpl, hk.1]
    simp [Ty.cells]
   subst hv
   have := hown.cells (g := g) rfl j _ hval
   rw [this, hx', UInt8.toNat_ofNat', Nat.mod_eq_of_lt (by omega)]
theorem aVE (hg : Good M w0 c h w) {i j : Nat} (hm : M.m = 1) (hi : i = 0) {oi oj : Obj} (h2 : h = [oi, oj]) {w' : World} {g : Option Nat} (hgr : w.grownBy w' g) (hgb : ∀ b, g = some b → ownBlock c 1 oj = some b) :
  Good M w0 ⟨c.S, c.hd, 1⟩ [.dead] w' := by
 subst h2
 refine ⟨rfl, ⟨hgr.os.trans hg.keeps.os, hgr.tape.trans hg.keeps.tape, hgr.output.trans hg.keeps.output, Nat.le_trans hg.keeps.size hgr.size, fun b hb hM => ?_⟩, fun b hb => Nat.lt_of_lt_of_le (hg.sfin b hb) hgr.size, hg.src, fun k o ho => ?_, fun k o b ho hb => ?_, fun k l ok ol b hk hl hbk hbl => ?_, ⟨by rw [hm]; exact Nat.le_refl _, fun k hk => hg.root.2 k hk⟩⟩
 ·rw [hgr.block b (Nat.lt_of_lt_of_le hb hg.keeps.size) (fun e => ?_)]
  ·exact hg.keeps.block b hb hM
  ·have := hg.own 1 oj b rfl (hgb b e.symm)
   rcases this.1 with h | h
   ·omega
   ·exact hM h
 ·match k, ho with
  | 0, ho => cases ho; trivial
  | k + 1, ho => cases ho
 ·match k, ho with
  | 0, ho => cases ho; cases hb
  | k + 1, ho => cases ho
 ·match k, hk with
  | 0, hk => cases hk; cases hbk
  | k + 1, hk => cases hk
end
end Go.Vc
namespace Go.Vc
open Go.RowKit
section
variable {P : Program} {T : Tab} {H : Type} {enc : TypeId × Value → H} {w : World} {spare : Nat → Bool} {held : Bool}
def aVF (k : IntKind) (ys : List Nat) : DataW H := .agg (ys.map fun (y : Nat) => .lit (.int k (y : Int)))
theorem aOb : ∀ (cs : List Value), ((List.range cs.length).map fun i => (cs.drop i).take 1).flatten = cs := by
 intro cs
 have e : ((List.range cs.length).map fun i => (cs.drop i).take 1) = cs.map fun c => [c] := by
  apply List.ext_getElem
  ·simp
  ·intro i h1 h2
   simp only [List.length_map, List.length_range] at h1
   simp only [List.getElem_map, List.getElem_range]
   rw [List.drop_eq_getElem_cons h1]
   rfl
 rw [e]
 clear e
 induction cs with
 | nil => rfl
 | cons c cs ih => simp [ih]
theorem aXs {S : Nat → Prop} (hT : gM P T) {n : Nat} {t : TypeId} {m : Nat} {k : IntKind} {cs : List Value} {p : List MemPlace} {ys : List Nat} (ht : T t = some (.arr m (.u k)))
  (h : DataW.trod enc P w 0 spare held n t cs = some (aVF k ys, p)) : aW w S (.arr m (.u k)) ys cs := by
 obtain ⟨d, hd, hb⟩ := (hT _ _ ht).desc
 cases d <;> simp [eX] at hb
 obtain ⟨⟨⟨rfl, hb1⟩, hb2⟩, _⟩ := hb
 obtain ⟨xs, q, hq, hx, hlen, hxl, hf⟩ := DataW.trod_array hd h
 simp only [aVF, Prod.mk.injEq, DataW.agg.injEq] at hx
 rw [jD (hT _ _ ht)] at hlen
 rw [jD (hT _ _ hb1)] at hf
 have e1 : (Ty.u k).cells = 1 := rfl
 have e2 : (Ty.arr m (.u k)).cells = m := by show m * 1 = m; omega
 rw [e1] at hf
 rw [e2] at hlen
 have hyl : ys.length = m := by
  have := congrArg List.length hx.1
  simp only [List.length_map] at this
  omega
 obtain ⟨du, hdu, hbu⟩ := (hT _ _ hb1).desc
 cases du <;> simp [eX] at hbu
 obtain ⟨rfl, hs⟩ := hbu
 refine ⟨hyl, (List.range cs.length).map (fun i => (cs.drop i).take 1), (aOb cs).symm, by simp; omega, fun i h1 h2 => ?_⟩
 have hi : i < m := by omega
 have h3 := hf i hi
 rw [Nat.mul_one, List.getElem?_eq_getElem (by omega)] at h3
 obtain ⟨v, g1, g2, g3⟩ := DataW.trod_int hdu h3
 simp only [List.getElem_map, List.getElem_range]
 have h4 : (xs.map (·.1))[i]? = (ys.map fun (y : Nat) => (DataW.lit (.int k (y : Int)) : DataW H))[i]? := by rw [hx.1]
 rw [List.getElem?_map, List.getElem?_map, List.getElem?_eq_getElem (by omega), List.getElem?_eq_getElem h1, g2] at h4
 simp only [Option.map_some, Option.some.injEq, DataW.lit.injEq, Lit.int.injEq, true_and] at h4
 rw [h4] at g1 g3
 simp only [Lit.wf, Bool.and_eq_true, decide_eq_true_eq] at g3
 exact ⟨g1, hs, g3.2⟩
theorem aVG {l : List (String × DataW Unit)} {n : String} {d : DataW Unit} (hm : (n, d) ∈ l) {ps : List MemPlace} (h : DataW.LaidVars P w l ps) :
  ∃ g t cs fuel p, P.globalNamed n = some g ∧ (P.globals[g]?).map (·.type) = some t ∧ w.var? P n = some cs ∧ DataW.trod (fun _ => ()) P w 0 (fun _ => true) false fuel t cs.toList = some (d, p) := by
 induction l generalizing ps with
 | nil => cases hm
 | cons x r ih =>
  obtain ⟨n', d'⟩ := x
  obtain ⟨g, t, cs, fuel, p, q, h1, h2, h3, h4, h5, _⟩ := h
  rcases List.mem_cons.1 hm with e | e
  ·cases e
   exact ⟨g, t, cs, fuel, p, h1, h2, h3, h4⟩
  ·exact ih e h5
theorem aPS (hT : gM P T) {l : List (String × DataW Unit)} (h : laidMet P l w) (n : String) (g : Nat) (t : TypeId) (m : Nat) (k : IntKind) (ys : List Nat) (hm : (n, aVF k ys) ∈ l) (hg : P.globalNamed n = some g)
  (ht : (P.globals[g]?).map (·.type) = some t) (hty : T t = some (.arr m (.u k))) (hm0 : 0 < m) : aS ⟨wB w, fun _ => Go.undef, 0⟩ w (.roa (.arr m (.u k)) ys) (.pointer (some ⟨g, 0, none⟩)) := by
 obtain ⟨ps, hv, _⟩ := h
 obtain ⟨g', t', cs, fuel, p, h1, h2, h3, h4⟩ := aVG hm hv
 obtain rfl := Option.some.inj (hg.symm.trans h1)
 obtain rfl := Option.some.inj (ht.symm.trans h2)
 have hr : aW w (wB w) (.arr m (.u k)) ys cs.toList := aXs hT hty h4
 have hc : iF w g 0 cs.toList := fun j v hj => by
  have := World.var?_cell hg h3 j
  rw [Nat.zero_add, this]
  simpa using hj
 refine aDO ?_ hr hc
 have hl := aW.length _ _ _ hr
 have hl : cs.toList.length = m * 1 := hl
 have h0 : 0 < cs.toList.length := by omega
 exact aSW (hc 0 (cs.toList[0]'h0) (List.getElem?_eq_getElem h0))
end
end Go.Vc
