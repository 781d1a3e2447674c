import Derived.Test.YtkihplehmkbfaaaGreatDoorZL4
import Derived.ProofKit
import Derived.OpenShut
import Derived.Below
import Derived.Recover
import Derived.Shelf.Strings.Builder1
import Derived.LaidMore
import Derived.LaidHandle
import Derived.MakeChecks
set_option linter.unusedVariables false
set_option linter.unusedSimpArgs false
namespace Go.Vc
attribute [go_sem] Int.toNat_natCast vcA opA pv aJg aTI evA xM rR yV fC aAf
attribute [go_sem] aE6 aA2 aJf aEW lS aN8 aHR aXI Go.Vc.look aCx wL aTj
attribute [go_sem] aMR shU shI gR aVU aTk aPT aF4 xS tN tN.fldT aEX
attribute [go_sem] aEY aEZ aCy aE0 aF8 aEo aEq aE4 aBo aE1 tO aTq
attribute [go_sem] mm2 wK dF Go.Vc.elemOf aL8 List.all_cons List.all_nil Int.le_refl Nat.le_refl AV.solid AV.solid1 AV.nc
attribute [go_sem] AV.nc1 AV.isAgg Ty.isAgg Ty.cells Ty.zero lT List.map List.append List.length Option.map decide_true decide_false
attribute [go_sem] Bool.and_true Bool.true_and true_and and_true implies_true forall_const if_true if_false IntKind.signed Ty.den Nat.succ_ne_self ne_eq
attribute [go_sem] not_false_eq_true not_true_eq_false List.getElem?_nil aDS List.nil_append List.cons_append beq_self_eq_true Bool.and_self cond_true cond_false Bool.cond_true_left Bool.cond_false_right
attribute [go_sem] pY tT xN aIJ aJq aYq freezeAll freeze aM5 aJk aBw yY aDC aDD isStr bxN aCt aIW aPL aPK aIV aMQ
attribute [go_sem] aRo aOi aTB Ty.isNil aGb aDB aOr aRn tI aDW yX aGa
attribute [go_sem] aAh tS aAi Ty.strB aPY bound vF aXx aVY aVZ aXy aTJ
attribute [go_sem] frzAll Ty.scalar gX aTr RK.ty AV.tags AV.tags1 List.flatMap_cons List.flatMap_nil List.getElem?_cons_zero List.getElem?_cons_succ List.set_cons_zero
attribute [go_sem] List.set_cons_succ List.length_cons List.length_nil Nat.zero_add tP List.getD_cons_zero List.getD_cons_succ dite_true Ty.okB Ty.byt IntKind.bits pM
attribute [go_sem] aCG aYn aPR aXz aMT aV0 aTE allTags aEp gt_iff_lt ge_iff_le List.length_replicate
attribute [go_sem] List.replicate_zero List.length_set aTT aTU aTV aSy aYr aEw aCH aTF yM yN
attribute [go_sem] aJp Ty.keyB Ty.key1 Option.some.injEq exists_eq_left' List.append_nil decide_eq_true_eq decide_eq_false_iff_not Bool.or_eq_true Bool.or_eq_false_iff Bool.and_eq_true Int.not_lt
attribute [go_sem] Int.not_le Bool.not_eq_true' Bool.not_eq_false' eP aOv kW oF List.take_succ_cons List.take_zero List.drop_succ_cons List.drop_zero aTp
attribute [go_sem] sK aV2 aMV aIB Ty.flds aEl aDK Ty.fieldOff aPU parse aBn aMU
attribute [go_sem] aIZ Option.getD_some Option.getD_none Bool.not_true Bool.not_false Bool.false_eq_true Bool.true_eq_false false_implies and_false false_and or_true true_or
attribute [go_sem] or_false false_or Bool.or_true Bool.or_false Bool.true_or Bool.false_or Bool.and_false Bool.false_and Option.isSome_some Option.isSome_none Int.reduceToNat Int.reduceLE
attribute [go_sem] Int.reduceLT Nat.reduceEqDiff Nat.reduceAdd Nat.reduceMul Nat.reduceLT Nat.reduceSub Nat.reduceLeDiff Nat.reduceDiv Nat.reduceMod Nat.reducePow Nat.reduceGT Int.reduceEq
attribute [go_sem] Int.reduceNe Int.reduceAdd Int.reduceSub Int.reduceNeg Int.reduceMul reduceIte reduceCtorEq
end Go.Vc
namespace Go.Vc
open Go.RowKit
def Ty.argB : Ty → Bool
 | .bool => true
 | .u _ => true
 | .i _ => true
 | .str => true
 | .sl t => t.argB
 | .unit => true
 | .pair a b => a.argB && b.argB
 | .arr _ t => t.argB
 | .expr => true
 | _ => false
section
variable {P : Program} {T : Tab} {H : Type} {enc : TypeId × Value → H} {w : World} {spare : Nat → Bool} {held : Bool}
theorem jY {t : TypeId} {c : Ty} (h : yS P T t c) : P.cellsOf t = c.cells := by
 obtain ⟨i, hi, hs, _⟩ := h.info
 simp [Program.cellsOf, hi, hs]
def vI (w : World) : Nat → Prop := fun b => b < w.heap.size
theorem aGh {a : Addr} {n : Nat} {ds : List Value} (h : w.cells? 0 a n = some ds) : ds.length = n ∧ ∀ j, j < n → w.cell? (a.add j) = ds[j]? := by
 unfold World.cells? at h
 rw [if_pos (Nat.zero_le _)] at h
 have hl := mapM_some_length h
 have hg := mapM_some_get h
 simp only [List.length_range] at hl
 exact ⟨hl, fun j hj => hg j j (by simp [hj])⟩
theorem aRw {b off : Nat} {v : Value} (h : w.cell? ⟨b, off, none⟩ = some v) : b < w.heap.size := by
 rcases Nat.lt_or_ge b w.heap.size with hl | hl
 ·exact hl
 ·simp [World.cell?, Array.getElem?_eq_none hl] at h
theorem aXP (a : Addr) (i j : Nat) (h : a.spot = none) : (a.add i).add j = ⟨a.block, a.off + i + j, none⟩ := by
 obtain ⟨b, o, s⟩ := a
 simp only at h
 subst h
 unfold Addr.add
 by_cases hi : i = 0 <;> by_cases hj : j = 0 <;> simp [hi, hj] <;> omega
theorem aT3 {sz : Nat} (hsz : 0 < sz) {α : Type} {R : α → List Value → Prop} {a : Addr} {len : Nat} (hel : ∀ i, i < len → ∃ ds x, w.cells? 0 (a.add (i * sz)) sz = some ds ∧ R x ds) :
  ∃ xs : List α, xs.length = len ∧ (xs = [] ∨ ∃ b off, some a = some ⟨b, off, none⟩ ∧ vI w b ∧ ∀ i (h : i < xs.length), ∃ ds, R xs[i] ds ∧ iX w b (off + i * sz) ds) := by
 classical
 by_cases h0 : len = 0
 ·exact ⟨[], by simp [h0], .inl rfl⟩
 have hpos : 0 < len := by omega
 obtain ⟨ds0, x0, e0, _⟩ := hel 0 hpos
 have hsp : a.spot = none := by
  obtain ⟨hl, hg⟩ := aGh e0
  have := hg 0 hsz
  have hd : (ds0)[0]? = some (ds0[0]'(by omega)) := List.getElem?_eq_getElem (by omega)
  rw [hd] at this
  have := World.cell?_spot this
  simpa [Addr.add] using this
 have hf : ∃ f : Nat → α, ∀ i, i < len → ∃ ds, w.cells? 0 (a.add (i * sz)) sz = some ds ∧ R (f i) ds := by
  refine ⟨fun i => if h : i < len then Classical.choose (Classical.choose_spec (hel i h)) else x0, fun i hi => ?_⟩
  simp only [dif_pos hi]
  exact ⟨Classical.choose (hel i hi), Classical.choose_spec (Classical.choose_spec (hel i hi))⟩
 obtain ⟨f, hf⟩ := hf
 have hcell : ∀ i, i < len → ∀ ds, w.cells? 0 (a.add (i * sz)) sz = some ds → iX w a.block (a.off + i * sz) ds := fun i hi ds hds j v hj => by
  obtain ⟨hl, hg⟩ := aGh hds
  have hjl : j < sz := by
   rcases Nat.lt_or_ge j sz with h | h
   ·exact h
   ·rw [List.getElem?_eq_none (by omega)] at hj; cases hj
  have := hg j hjl
  rw [aXP a _ j hsp, hj] at this
  exact this
 refine ⟨(List.range len).map f, by simp, .inr ⟨a.block, a.off, ?_, ?_, fun i hi => ?_⟩⟩
 ·obtain ⟨b, o, s⟩ := a; simp only at hsp; subst hsp; rfl
 ·obtain ⟨ds, hds, _⟩ := hf 0 hpos
  have := hcell 0 hpos ds hds 0 (ds[0]'(by rw [(aGh hds).1]; exact hsz)) (List.getElem?_eq_getElem _)
  exact aRw this
 ·simp only [List.length_map, List.length_range] at hi
  obtain ⟨ds, hds, hR⟩ := hf i hi
  exact ⟨ds, by simpa using hR, hcell i hi ds hds⟩
theorem aJB {n : Nat} (ih : ∀ (t : TypeId) (c : Ty) (cs : List Value) (x : DataW H × List MemPlace), T t = some c → c.argB = true → DataW.trod enc P w 0 spare held n t cs = some x → ∃ y, aS w (vI w) c y cs) (hT : gZ P T) (cs : List Value) :
  ∀ (fs : List Field) (off : Nat) (c : Ty), cZ T fs off c = true → c.argB = true → (cs.drop off).length = c.cells → (∀ f ∈ fs, ∃ x, DataW.trod enc P w 0 spare held n f.type ((cs.drop f.offset).take (P.cellsOf f.type)) = some x) → ∃ y, aS w (vI w) c y (cs.drop off)
 | [], off, c, hf, ha, hl, _ => by
  cases c <;> simp [cZ] at hf
  exact ⟨(), List.eq_nil_of_length_eq_zero hl⟩
 | f :: fs, off, c, hf, ha, hl, hx => by
  cases c <;> simp only [cZ, Bool.false_eq_true] at hf
  case pair a b =>
   simp only [Bool.and_eq_true, decide_eq_true_eq] at hf
   obtain ⟨⟨⟨⟨h1, h2⟩, h3⟩, h4⟩, h5⟩ := hf
   simp only [Ty.argB, Bool.and_eq_true] at ha
   obtain ⟨x, hx0⟩ := hx f (by simp)
   rw [jY (hT _ _ h1), h2] at hx0
   obtain ⟨y1, r1⟩ := ih _ _ _ _ h1 ha.1 hx0
   simp only [Ty.cells] at hl
   obtain ⟨y2, r2⟩ := aJB ih hT cs fs (off + a.cells) b h5 ha.2 (by simp only [List.length_drop] at hl ⊢; omega) (fun g hg => hx g (by simp [hg]))
   refine ⟨(y1, y2), (cs.drop off).take a.cells, cs.drop (off + a.cells), ?_, r1, r2⟩
   rw [← List.drop_drop, List.take_append_drop]
theorem aOC (hT : gZ P T) : ∀ (n : Nat) (t : TypeId) (c : Ty) (cs : List Value) (x : DataW H × List MemPlace), T t = some c → c.argB = true → DataW.trod enc P w 0 spare held n t cs = some x → ∃ y, aS w (vI w) c y cs := by
 intro n
 induction n with
 | zero => intro t c cs x _ _ h; simp [DataW.trod] at h
 | succ n ih =>
  intro t c cs x ht ha h
  obtain ⟨d, hd, hb⟩ := (hT _ _ ht).desc
  cases c with
  | bool =>
   cases d <;> simp [fN] at hb
   obtain ⟨b, e, _⟩ := DataW.trod_bool hd h
   exact ⟨b, e⟩
  | u k =>
   cases d <;> simp [fN] at hb
   rename_i k'
   obtain ⟨rfl, hb⟩ := hb
   obtain ⟨m, e, _, hw⟩ := DataW.trod_int hd h
   simp only [Lit.wf, Bool.and_eq_true, decide_eq_true_eq] at hw
   have hmin : IntKind.min k = 0 := by cases k <;> first | rfl | (simp [IntKind.signed] at hb; done)
   have hm : ((m.toNat : Nat) : Int) = m := Int.toNat_of_nonneg (by omega)
   exact ⟨m.toNat, by rw [hm]; exact e, hb, by rw [hm]; exact hw.2⟩
  | i k =>
   cases d <;> simp [fN] at hb
   rename_i k'
   obtain ⟨rfl, hb⟩ := hb
   obtain ⟨m, e, _, hw⟩ := DataW.trod_int hd h
   simp only [Lit.wf, Bool.and_eq_true, decide_eq_true_eq] at hw
   exact ⟨m, e, hb, hw.1, hw.2⟩
  | str =>
   cases d <;> simp [fN] at hb
   obtain ⟨s, e, _, hs⟩ := DataW.trod_string hd h
   exact ⟨bE s, s, e, rfl, hs⟩
  | sl t1 =>
   cases d <;> simp [fN] at hb
   obtain ⟨hb1, hb2⟩ := hb
   rcases DataW.trod_slice hd h with ⟨rfl, _⟩ | ⟨a, len, cap, elems, rest, m, hm, rfl, _, _, hl, hc, hlen, hel, _⟩
   ·exact ⟨[], none, 0, 0, rfl, rfl, Nat.le_refl _, Nat.zero_le _, .inl rfl⟩
   ·cases hm
    rw [jY (hT _ _ hb1)] at hel
    obtain ⟨xs, h1, h2⟩ := aT3 (w := w) hb2 (R := aS w (vI w) t1) (a := a) (len := len) (fun i hi => by
     have := hel i hi
     rw [List.getElem?_eq_getElem (by omega)] at this
     obtain ⟨ds, hds, hx⟩ := Option.bind_eq_some_iff.1 this
     obtain ⟨y, hy⟩ := ih _ _ _ _ hb1 ha hx
     exact ⟨ds, y, hds, hy⟩)
    exact ⟨xs, some a, len, cap, rfl, h1, hl, hc, h2⟩
  | unit =>
   cases d <;> simp [fN] at hb
   rename_i fs
   obtain ⟨xs, m, _, _, hlen, _⟩ := DataW.trod_struct hd h
   rw [jY (hT _ _ ht)] at hlen
   exact ⟨(), List.eq_nil_of_length_eq_zero hlen⟩
  | pair a b =>
   cases d <;> simp [fN] at hb
   rename_i fs
   obtain ⟨xs, m, hm, _, hlen, hxl, hf⟩ := DataW.trod_struct hd h
   cases hm
   rw [jY (hT _ _ ht)] at hlen
   have := aJB ih hT cs fs.toList 0 (.pair a b) hb ha (by simpa using hlen) (fun f hf' => by
    obtain ⟨i, hi, rfl⟩ := List.mem_iff_getElem.1 hf'
    have hi' : i < fs.size := by simpa using hi
    have := hf i fs[i] (Array.getElem?_eq_getElem hi')
    rw [List.getElem?_eq_getElem (by omega)] at this
    exact ⟨_, by simpa using this⟩)
   simpa using this
  | arr m t1 =>
   cases d <;> simp [fN] at hb
   obtain ⟨⟨⟨rfl, hb1⟩, hb2⟩, _⟩ := hb
   obtain ⟨xs, q, hq, _, hlen, hxl, hf⟩ := DataW.trod_array hd h
   cases hq
   rw [jY (hT _ _ ht)] at hlen
   rw [jY (hT _ _ hb1)] at hf
   have hall : ∀ i, i < m → ∃ y, aS w (vI w) t1 y ((cs.drop (i * t1.cells)).take t1.cells) := fun i hi => by
    have := hf i hi
    rw [List.getElem?_eq_getElem (by omega)] at this
    exact ih _ _ _ _ hb1 ha this
   classical
   have hfun : ∃ f : Nat → t1.den, ∀ i, i < m → aS w (vI w) t1 (f i) ((cs.drop (i * t1.cells)).take t1.cells) := by
    refine ⟨fun i => if h : i < m then Classical.choose (hall i h) else t1.zero, fun i hi => ?_⟩
    simp only [dif_pos hi]
    exact Classical.choose_spec (hall i hi)
   obtain ⟨f, hfun⟩ := hfun
   refine ⟨(List.range m).map f, by simp, (List.range m).map fun i => (cs.drop (i * t1.cells)).take t1.cells, ?_, by simp, fun i h1 h2 => ?_⟩
   ·have : ∀ (k : Nat) (l : List Value), l.length = k * t1.cells → l = ((List.range k).map fun i => (l.drop (i * t1.cells)).take t1.cells).flatten := by
     intro k
     induction k with
     | zero => intro l hl; simp at hl; simp [hl]
     | succ k ihk =>
      intro l hl
      rw [List.range_succ, List.map_append, List.flatten_append]
      have h1 := ihk (l.take (k * t1.cells)) (by simp [hl, Nat.add_mul])
      have h2 : ((List.range k).map fun i => ((l.take (k * t1.cells)).drop (i * t1.cells)).take t1.cells) = ((List.range k).map fun i => (l.drop (i * t1.cells)).take t1.cells) := by
       apply List.map_congr_left
       intro i hi
       have hik : i < k := List.mem_range.1 hi
       rw [List.drop_take, List.take_take]
       congr 1
       have : (i + 1) * t1.cells ≤ k * t1.cells := Nat.mul_le_mul_right _ hik
       rw [Nat.add_mul] at this
       omega
      rw [h2] at h1
      rw [← h1]
      simp only [List.map_cons, List.map_nil, List.flatten_cons, List.flatten_nil, List.append_nil]
      rw [List.take_of_length_le (l := l.drop (k * t1.cells)) (by simp [hl, Nat.add_mul]), List.take_append_drop]
    exact this m cs hlen
   ·simp only [List.length_map, List.length_range] at h1
    simpa using hfun i h1
  | expr =>
   cases d <;> simp [fN] at hb
   rename_i fs
   obtain ⟨xs, m, hm, _, hlen, hxl, hf⟩ := DataW.trod_struct hd h
   cases hm
   rw [jY (hT _ _ ht)] at hlen
   have hfs : ∃ f0 f1 f2, fs.toList = [f0, f1, f2] ∧ (T f0.type = some (.i .i64) ∧ f0.offset = 0 ∧ T f1.type = some .str ∧ f1.offset = 1 ∧ T f2.type = some (.sl .expr) ∧ f2.offset = 2) := by
    unfold aTl at hb
    split at hb
    ·rename_i f0 f1 f2 hfs
     simp only [Bool.and_eq_true, decide_eq_true_eq] at hb
     exact ⟨f0, f1, f2, hfs, hb.1.1.1.1.1, hb.1.1.1.1.2, hb.1.1.1.2, hb.1.1.2, hb.1.2, hb.2⟩
    ·cases hb
   obtain ⟨f0, f1, f2, hfs, t0, o0, t1, o1, t2, o2⟩ := hfs
   have hget : ∀ (i : Nat) (f : Field), fs.toList[i]? = some f → ∃ x, DataW.trod enc P w 0 spare held n f.type ((cs.drop f.offset).take (P.cellsOf f.type)) = some x := fun i f hi => by
    have hi' : fs[i]? = some f := by simpa using hi
    have := hf i f hi'
    have hil : i < fs.size := by
     rcases Nat.lt_or_ge i fs.size with h | h
     ·exact h
     ·rw [Array.getElem?_eq_none h] at hi'; cases hi'
    rw [List.getElem?_eq_getElem (by omega)] at this
    exact ⟨_, this⟩
   obtain ⟨x0, h0⟩ := hget 0 f0 (by rw [hfs]; rfl)
   obtain ⟨x1, h1⟩ := hget 1 f1 (by rw [hfs]; rfl)
   obtain ⟨x2, h2⟩ := hget 2 f2 (by rw [hfs]; rfl)
   rw [jY (hT _ _ t0), o0] at h0
   rw [jY (hT _ _ t1), o1] at h1
   rw [jY (hT _ _ t2), o2] at h2
   obtain ⟨y0, r0⟩ := ih _ _ _ _ t0 rfl h0
   obtain ⟨y1, r1⟩ := ih _ _ _ _ t1 rfl h1
   obtain ⟨y2, r2⟩ := ih _ _ _ _ t2 rfl h2
   match cs, hlen with
   | [c0, c1, c2], _ =>
    simp only [Ty.cells, List.drop_zero, List.drop_succ_cons, List.take_succ_cons, List.take_zero] at r0 r1 r2
    obtain ⟨e0, _, b1, b2⟩ := r0
    obtain ⟨s, e1, rfl, hs⟩ := r1
    obtain ⟨a, len, cap, e2, hl1, hl2, hl3, hl4⟩ := r2
    simp only [List.cons.injEq, and_true] at e0 e1 e2
    subst e0; subst e1; subst e2
    classical
    refine ⟨.mk y0 (bE s) y2, ?_⟩
    rcases hl4 with rfl | ⟨b, off, ha, hb, hel⟩
    ·exact RepEx.mk y0 s [] a len cap (fun _ => []) ⟨b1, b2⟩ hs hl1 hl2 hl3 (fun i h => by simp at h) (.inl rfl)
    ·refine RepEx.mk y0 s y2 a len cap (fun i => if h : i < List.length y2 then Classical.choose (hel i h) else []) ⟨b1, b2⟩ hs hl1 hl2 hl3 (fun i h => ?_) (.inr ⟨b, off, ha, hb, fun i h => ?_⟩)
     ·simp only [dif_pos h]; exact (Classical.choose_spec (hel i h)).1
     ·simp only [dif_pos h]; exact (Classical.choose_spec (hel i h)).2
  | rp t1 => simp [Ty.argB] at ha
  | clo g t1 => simp [Ty.argB] at ha
  | ifc k t1 => simp [Ty.argB] at ha
  | nili => simp [Ty.argB] at ha
  | nilp => simp [Ty.argB] at ha
  | nilf => simp [Ty.argB] at ha
theorem aWi (hT : gZ P T) {t : TypeId} {c : Ty} {r : Reach} {base : Nat} {v : Value} {d : DataW H} {ps : List MemPlace} (ht : T t = some c) (ha : c.argB = true) (hw : Value.okWide P w r base t v) (h : DataW.Trod enc P w 0 spare held t v d ps) : ∃ y, cU w (vI w) c y v := by
 obtain ⟨n, hn⟩ := h
 obtain ⟨y, hy⟩ := aOC hT n t c _ _ ht ha hn
 refine ⟨y, cU.of_cells (fun hag => ?_) (fun hna => ?_) hy⟩
 ·obtain ⟨d, hd, hb⟩ := (hT _ _ ht).desc
  unfold Value.okWide at hw
  rw [hd] at hw
  cases c <;> simp [Ty.isAgg] at hag
  all_goals (cases d <;> first | (simp [fN] at hb; done) | skip)
  all_goals (obtain ⟨cs, rfl, _⟩ := hw; exact ⟨cs, rfl⟩)
 ·intro cs e
  subst e
  obtain ⟨d, hd, hb⟩ := (hT _ _ ht).desc
  unfold Value.okWide at hw
  rw [hd] at hw
  cases c <;> simp [Ty.isAgg] at hna
  all_goals (cases d <;> first | (simp [fN] at hb; done) | skip)
  all_goals (simp [Cell.okWide, Cell.ok, hd] at hw)
def aXQ (T : Tab) : Ty → List TypeId → Bool
 | .unit, [] => true
 | .pair a r, t :: ts => decide (T t = some a) && a.argB && aXQ T r ts
 | _, _ => false
theorem aRx (hT : gZ P T) {r : Reach} {base : Nat} : ∀ (c : Ty) (ts : List TypeId) (vs : List Value) (ds : List (DataW H)) (ps : List MemPlace), aXQ T c ts = true → DataW.TrodAll enc P w 0 spare held ts vs ds ps → (∀ (j : Nat) t v, ts[j]? = some t → vs[j]? = some v → Value.okWide P w r base t v) → ∃ x, nE w (vI w) c x vs
 | .unit, [], vs, ds, ps, _, h, _ => by
  cases vs <;> cases ds <;> simp [DataW.TrodAll] at h
  exact ⟨(), rfl⟩
 | .pair a c, t :: ts, vs, ds, ps, hb, h, hw => by
  simp only [aXQ, Bool.and_eq_true, decide_eq_true_eq] at hb
  cases vs <;> cases ds <;> simp only [DataW.TrodAll] at h
  rename_i v vs d ds
  obtain ⟨p, q, h1, h2, _⟩ := h
  obtain ⟨y, hy⟩ := aWi hT hb.1.1 hb.1.2 (hw 0 t v rfl rfl) h1
  obtain ⟨x, hx⟩ := aRx hT c ts vs ds q hb.2 h2 (fun j t' v' e1 e2 => hw (j + 1) t' v' (by simpa using e1) (by simpa using e2))
  exact ⟨(y, x), v, vs, rfl, hy, hx⟩
end
end Go.Vc
namespace Go.Vc
attribute [go_sem] aMn aGg List.contains_cons List.contains_nil aCn aJy aRr aP6 aA4 aMm aTX aTY
attribute [go_sem] aTZ aJx aGf aXn tU aXM nU emb aBx aFc aP5 aJu
attribute [go_sem] aBy vH tV zA ren gN oE posOf eX bA zC fL
attribute [go_sem] zU aT2 aP7 AV.wfL AV.wfV Obj.wfL Obj.wfV List.all_cons List.all_nil List.range'_zero List.range'_succ List.zip_cons_cons
attribute [go_sem] List.zip_nil_left List.zip_nil_right List.drop_nil List.take_nil List.map_cons List.map_nil aOh aCI
end Go.Vc
namespace Go.Vc
open Go.RowKit
section
variable {P : Program} {E : Env} {M : Perm} {w0 : World} {c : Ctx} {h : List Obj} {w : World}
def aRy (P : Program) (fn : Func) (S : Nat → Prop) (w0 : World) (r : RK) (y : r.ty.den) : Exit → Act → World → Prop :=
 bodyPostD P fn fun e w' => ∃ v, e = .returned v ∧ fM nothing w0 w' ∧ aSo w' S w0.heap.size r y v
theorem aWj {f : FuncId} {fn : Func} {body : Code} {sp : aJ} (hE : gA P E) (hf : P.funcs[f]? = some fn) (hb : fn.body = some body) (hok : fE fn.ntmps body = true) (hn : aG5 sp.args ≤ fn.ntmps)
  (ht : ∀ (w0 : World) (S : Nat → Prop) (x : sp.args.den), sp.args.wf x → sp.pre x → Tri (fr P E S w0 fn.ntmps) body (aRy P fn S w0 sp.res (sp.fn x)) (cC sp.args x 0) []) : FOK P E.G f sp := by
 intro w S vs x hS hG ha hp
 refine calls_of_wp_defers hf hb ?_
 refine ht w S x (aDE _ _ _ ha) hp hok ⟨S, fun _ => Go.undef, 0⟩ _ w ⟨⟨rfl, .refl _ _, hS, fun b hb _ => .inl hb, fun i o ho => by simp at ho, fun i o b ho => by simp at ho, fun i j oi oj b hi => by simp at hi, ⟨Nat.le_refl _, fun i hi => absurd hi (Nat.not_lt_zero i)⟩⟩, hG, ?_, ?_, rfl⟩
 ·refine aJn _ x 0 vs.toList _ ha rfl fun i v hv => ?_
  have hlt : i < vs.size := by
   rcases Nat.lt_or_ge i vs.size with hh | hh
   ·exact hh
   ·rw [List.getElem?_eq_none (by simpa using hh)] at hv; cases hv
  simp only [Nat.zero_add]
  have : vs[i]? = some v := by rw [← Array.getElem?_toList]; exact hv
  simp [Array.getElem?_append, hlt]
  rw [Array.getElem?_eq_getElem hlt] at this
  simpa using this
 ·have := aJo _ _ _ ha
  simp at this
  simp
  omega
theorem aT4 {S : Nat → Prop} (hwr : M.wr = nothing) (hrd : M.rd = S) (hg : Good M w0 c h w) {r : RK} {y : r.ty.den} {avs : List AV} {xs : List Value} (hl : xs.length = avs.length) (hv : ∀ i (h1 : i < avs.length) (h2 : i < xs.length), aP c w avs[i] xs[i]) (hy : iH h r y avs) : aSo w S w0.heap.size r y (aDV xs) := by
 have hsrc : ∀ {c' : Ctx} {h' : List Obj}, Good M w0 c' h' w → ∀ b, c'.S b → S b ∨ (w0.heap.size ≤ b ∧ b < w.heap.size) := fun hg b hb => by
  rcases Nat.lt_or_ge b w0.heap.size with hlt | hge
  ·have := hg.src b hb hlt
   rw [hwr, hrd] at this
   exact .inl (this.resolve_right (fun f => f))
  ·exact .inr ⟨hge, hg.sfin b hb⟩
 obtain ⟨c', hll, hg'⟩ := hg.frzAll
 have hval : ∀ i (h1 : i < avs.length) (h2 : i < xs.length), aP c' w avs[i] xs[i] := fun i h1 h2 => hll.val (hv i h1 h2)
 cases r with
 | none =>
  match avs, xs, hl, hy with
  | [], [], _, _ => rfl
 | one t =>
  match avs, xs, hl, hy, hval with
  | [v], [x], _, hy, hval =>
   have hy : AV.as (h.map Vc.frzAll) t v = some y := hy
   rw [← aRm] at hy
   have := qY hg' (hval 0 (by simp) (by simp)) hy
   exact cU.keep (hsrc hg') (.refl _ _) this
 | own e t =>
  match avs, xs, hl, hy, hv with
  | [.own i], [x], _, hy, hv =>
   have hvs := hv 0 (by simp) (by simp)
   simp only [List.getElem_cons_zero] at hvs
   have ho : h[i]? = some (.row e t y) := hy
   obtain ⟨hin, rfl⟩ := aAe hvs
   obtain ⟨vals, hown, hrep⟩ := hg.objs i _ ho
   refine ⟨vals, ⟨hown.1, hown.2.imp id ?_⟩, aS.keep (fun b hb => ?_) (.refl _ _) _ _ _ hrep⟩
   ·rintro ⟨g, cap, cur, h1, h2, h3⟩
    refine ⟨g, cap, cur, h1, ?_, h3⟩
    have := (hg.own i _ g ho (by simp [ownBlock, h1, aQ])).1
    rw [hwr] at this
    exact this.resolve_right (fun f => f)
   ·rcases hsrc hg b hb with h1 | h1
    ·exact .inl h1
    ·exact .inr ⟨h1.1, h1.2, fun e' => (hg.own i _ b ho e').2.2 hb⟩
  | [.nilS], [x], _, hy, hv =>
   have hvs := hv 0 (by simp) (by simp)
   simp only [List.getElem_cons_zero] at hvs
   have hy : y = [] := hy
   subst hy
   have hsv : x = .slice none 0 0 := by
    obtain ⟨h1, _, h3⟩ := hvs
    have h3 := h3 rfl
    simp only [aI] at h1
    cases x <;> simp [Value.cells] at h1 h3 <;> simp [h1]
   subst hsv
   exact ⟨[], ⟨by simp, .inl ⟨rfl, rfl⟩⟩, ⟨rfl, [], rfl, rfl, fun i h => by simp at h⟩⟩
 | tup t =>
  have hy : avs.length ≠ 1 ∧ vF (h.map Vc.frzAll) t avs = some y := hy
  obtain ⟨hne, hy⟩ := hy
  rw [← aRm] at hy
  have hargs := aCB hg' hy (xs := xs) hl hval
  refine ⟨xs, ?_, aSx (hsrc hg') hargs⟩
  match xs, hl ▸ hne with
  | [], _ => rfl
  | [s], hne => exact absurd rfl hne
  | s :: s' :: l, _ => rfl
def m0 : Option Pan → Value → FrameMode
 | none, _ => .returning
 | some p, u => .panicking (aK4 p.k u)
def m1 : Option Pan → Value → FrameMode
 | none, _ => .returning
 | some p, u => .panicking [{ v := .iface p.k u, recovered := true, goexit := false }]
theorem aSE (m : Option Pan) (u : Value) : settle (m1 m u) = .returning := by cases m <;> rfl
def aXo (P : Program) (g : FuncId) (vs : Array Value) (u0 u1 : FrameMode) (w : World) (R : Ending → World → Prop) : Prop := CallsD P g vs u0 w fun e u' w' => u' = u1 ∧ R e w'
def DOK (P : Program) (G : Nat → AV) (g : FuncId) (mode : Option Pan) (sp : mY) : Prop :=
 ∀ (c : Ctx) (w : World) (d : sp.D) (vs : Array Value) (u : Value), sp.pre d → GIn G sp c w d vs.toList → (∀ p, mode = some p → cU w c.S p.t p.x u) → aXo P g vs (m0 mode u) (m1 mode u) w (aGe sp c w d)
theorem aOD {F : Fr} {fn : Func} {S : Nat → Prop} {r : RK} {y : r.ty.den} {env : St} {h : List Obj} {k : Nat} {roots : Nat → Value} {g : FuncId} {l2 : List Nat} {mode : Option Pan} (hF : iZ F) (hM : F.M = ⟨nothing, S, k, roots⟩) (hds : F.ds = [⟨.fn (.func g) (l2.map roots).toArray, #[]⟩]) (hk : ∀ i ∈ l2, i < k) (hbx : aCG h l2 = true)
  (hfn : ∃ fn, F.P.funcs[g]? = some fn ∧ fn.name ≠ "runtime.NumGoroutine" ∧ fn.body.isSome = true) (t : Hit) (hok : DOK F.P F.E.G g mode t.sp) (hh : aJx h (l2.map fun i => .ptr i []) t) {v : AV} {h' : List Obj} (hout : t.sp.out t.d = .ret v h')
  (l : List ResultVar) (hr : fn.results = l.toArray) (hy : (bA F.E.T (aBy t.σ t.sp.m h h') env l).1 ∧ iH (aBy t.σ t.sp.m h h') r y (bA F.E.T (aBy t.σ t.sp.m h h') env l).2) {c : Ctx} {a : Act} {w : World} {u : Value} (hs : Sim F.E F.M F.w0 F.nt F.ds c env h a w) (hu : ∀ p, mode = some p → cU w c.S p.t p.x u) :
  Leaves F.P fn a.tmps (fun e w' => ∃ v, e = .returned v ∧ fM nothing F.w0 w' ∧ aSo w' S F.w0.heap.size r y v) a.defers (m0 mode u) w := by
 have hroot := hs.good.root
 rw [hM] at hroot
 have hhd : ∀ i ∈ l2, c.hd i = roots i ∧ i < c.n := fun i hi => ⟨hroot.2 i (hk i hi), Nat.lt_of_lt_of_le (hk i hi) hroot.1⟩
 have hl2 : l2.map roots = l2.map c.hd := List.map_congr_left fun i hi => (hhd i hi).1.symm
 have hvb : ∀ i (h1 : i < (l2.map fun i => AV.ptr i []).length) (h2 : i < (l2.map roots).toArray.toList.length), aP c w (l2.map fun i => AV.ptr i [])[i] (l2.map roots).toArray.toList[i] := fun i h1 h2 => by
  have := aJb hs.good hbx (fun i hi => (hhd i hi).2) i h1 (by simpa using h2)
  simpa [hl2] using this
 rw [hs.defers, hds]
 refine leaves_cons (f := g) (args := (l2.map roots).toArray) ?_ ?_ ?_
 ·cases mode <;> simp [m0]
 ·have := xT (w := w) (args := (l2.map roots).toArray) hfn
  simpa [invoke] using this
 ·have hcall := aMp (C := aXo F.P g (l2.map roots).toArray (m0 mode u) (m1 mode u) w) (fun R R' h k => CallsD.mono h fun e u' w' q => ⟨q.1, k _ _ q.2⟩) (fun hp hin => hok _ _ _ _ _ hp hin hu) hs.good hs.glob (vs := l2.map fun i => AV.ptr i []) (xs := (l2.map roots).toArray) (by simp) hvb hh
  refine CallsD.mono hcall ?_
  rintro e u' w' ⟨rfl, cN, hl, hend⟩
  rw [hout] at hend
  obtain ⟨uv, rfl, hg, _⟩ := hend
  show Leaves F.P fn a.tmps _ [] (settle (m1 mode u)) w'
  rw [aSE]
  obtain ⟨us, q1, q2, q3⟩ := aBz (P := F.P) hF.env.T hg (hs.env.keep hl) hr hy.1
  refine ⟨aDV us, q1, aDV us, rfl, by have := hg.keeps; rw [hM] at this; exact this, ?_⟩
  exact aT4 (by rw [hM]) (by rw [hM]) hg q2 (fun i h1 h2 => q3 i h1 h2) hy.2
theorem aRz {F : Fr} {fn : Func} {S : Nat → Prop} {r : RK} {y : r.ty.den} {env : St} {h : List Obj} {k : Nat} {roots : Nat → Value} {g : FuncId} {l2 : List Nat} (hF : iZ F) (hM : F.M = ⟨nothing, S, k, roots⟩) (hds : F.ds = [⟨.fn (.func g) (l2.map roots).toArray, #[]⟩]) (hk : ∀ i ∈ l2, i < k) (hbx : aCG h l2 = true)
  (hfn : ∃ fn, F.P.funcs[g]? = some fn ∧ fn.name ≠ "runtime.NumGoroutine" ∧ fn.body.isSome = true) (t : Hit) (hok : DOK F.P F.E.G g none t.sp) {v : AV} {h' : List Obj} (hout : t.sp.out t.d = .ret v h')
  (l : List ResultVar) (hr : fn.results = l.toArray) (hh : aJx h (l2.map fun i => .ptr i []) t) (hy : (bA F.E.T (aBy t.σ t.sp.m h h') env l).1 ∧ iH (aBy t.σ t.sp.m h h') r y (bA F.E.T (aBy t.σ t.sp.m h h') env l).2) :
  At F (aRy F.P fn S F.w0 r y .ret) env h := fun c a w hs =>
 aOD (u := Go.undef) hF hM hds hk hbx hfn t hok hh hout l hr hy hs (fun p hp => by cases hp)
theorem aRA {F : Fr} {fn : Func} {S : Nat → Prop} {r : RK} {y : r.ty.den} {env : St} {h : List Obj} {k : Nat} {roots : Nat → Value} {g : FuncId} {l2 : List Nat} {p : Pan} (hF : iZ F) (hM : F.M = ⟨nothing, S, k, roots⟩) (hds : F.ds = [⟨.fn (.func g) (l2.map roots).toArray, #[]⟩]) (hk : ∀ i ∈ l2, i < k) (hbx : aCG h l2 = true)
  (hfn : ∃ fn, F.P.funcs[g]? = some fn ∧ fn.name ≠ "runtime.NumGoroutine" ∧ fn.body.isSome = true) (t : Hit) (hok : DOK F.P F.E.G g (some p) t.sp) {v : AV} {h' : List Obj} (hout : t.sp.out t.d = .ret v h')
  (l : List ResultVar) (hr : fn.results = l.toArray) (hh : aJx h (l2.map fun i => .ptr i []) t) (hy : (bA F.E.T (aBy t.σ t.sp.m h h') env l).1 ∧ iH (aBy t.σ t.sp.m h h') r y (bA F.E.T (aBy t.σ t.sp.m h h') env l).2) :
  AtP F (aRy F.P fn S F.w0 r y) p env h := fun c a w u hs hu =>
 aOD hF hM hds hk hbx hfn t hok hh hout l hr hy hs (fun q hq => by cases hq; exact hu)
theorem aDY {F : Fr} {Q : Exit → Act → World → Prop} {env : St} {h : List Obj} {id : Nat} {ops : Array Oper} {y : Code} {g : FuncId} {t : Nat} {caps : Array Operand} {ty1 ty2 : TypeId} {pos1 pos2 : String} {aft1 aft2 : Array Edge} (k : Nat) (l2 : List Nat)
  (hops : ops = #[⟨some t, .makeFunc (.func g) #[] caps, ty1, pos1, aft1, none⟩, ⟨none, .defer ⟨.value (.tmp t), #[], #[]⟩, ty2, pos2, aft2, none⟩])
  (htags : allTags h (caps.toList.map (evA F.E.G env)) = some l2) (hm : F.M.m ≤ k) (hk : k ≤ h.length)
  (hy : ∀ roots : Nat → Value, (∀ i, i < F.M.m → roots i = F.M.roots i) → Tri { F with M := ⟨F.M.wr, F.M.rd, k, roots⟩, ds := ⟨.fn (.func g) (l2.map roots).toArray, #[]⟩ :: F.ds } y Q ((t, .junk) :: env) h) : Tri F (.seq (.region id ops false) y) Q env h := fun hok c a w hs => by
 simp only [fE, Bool.and_eq_true] at hok
 obtain ⟨⟨⟨hok1, _⟩, _⟩, hok2⟩ := hok
 subst hops
 have hall := List.all_eq_true.1 hok1
 have hk1 := hall ⟨some t, .makeFunc (.func g) #[] caps, ty1, pos1, aft1, none⟩ (by simp)
 simp only [eM, Bool.and_eq_true] at hk1
 have hops1 : ∀ x ∈ (Op.makeFunc (.func g) #[] caps).operands, jQ x = true := Array.all_eq_true_iff_forall_mem.1 hk1.1
 have htn : t < a.tmps.size := by
  have := hk1.2
  rw [hs.size]
  simpa using this
 obtain ⟨hlt, hcv⟩ := aE5 hs.good htags (vs := caps.toList.map a.eval) (by simp) (fun i h1 h2 => by
  simp only [List.getElem_map]
  exact yU hs.env hs.glob (hops1 _ (by simp [Op.operands])))
 have hcv' : caps.map a.eval = (l2.map c.hd).toArray := by rw [← Array.toList_inj]; simpa using hcv
 refine wp_seq (wp_region ?_)
 have hy' := hy c.hd (fun i hi => hs.good.root.2 i hi)
 have hgood : Good ⟨F.M.wr, F.M.rd, k, c.hd⟩ F.w0 c h w := ⟨hs.good.n, hs.good.keeps, hs.good.sfin, hs.good.src, hs.good.objs, hs.good.own, hs.good.sep, by rw [hs.good.n]; exact hk, fun _ _ => rfl⟩
 have hfin := hy' hok2 c { (a.put (some t) (.func (.func g) #[] (l2.map c.hd).toArray)) with defers := ⟨.fn (.func g) (l2.map c.hd).toArray, #[]⟩ :: a.defers } w ⟨hgood, hs.glob, by
  have := hs.env.put (d := t) (v := .junk) (x := .func (.func g) #[] (l2.map c.hd).toArray) htn trivial
  exact this, by simpa [Act.put] using hs.size, by simp [hs.defers]⟩
 have run1 : (execOp a.eval ⟨some t, .makeFunc (.func g) #[] caps, ty1, pos1, aft1, none⟩).run F.P w = .ok (.value (.func (.func g) #[] (l2.map c.hd).toArray)) w := by
  simp [execOp, Instr.makeFunc, hcv']
 have hget : (a.put (some t) (.func (.func g) #[] (l2.map c.hd).toArray)).eval (.tmp t) = .func (.func g) #[] (l2.map c.hd).toArray := by
  simp [Act.eval, Act.put, htn]
 have run2 : (execOp (a.put (some t) (.func (.func g) #[] (l2.map c.hd).toArray)).eval ⟨none, .defer ⟨.value (.tmp t), #[], #[]⟩, ty2, pos2, aft2, none⟩).run F.P w = .ok (.defer ⟨.fn (.func g) (l2.map c.hd).toArray, #[]⟩) w := by
  simp [execOp, resolve, Deferred.ofValue, hget]
 show wpOps F.P _ _ [0, 1] a w
 have w1 : ∀ (o : Oper) (y : Nat → Option Bool), o.guard = none → Region.wanted o y = true := fun o y h => by simp [Region.wanted, h]
 unfold wpOps
 simp only [List.getElem?_toArray, List.getElem?_cons_zero]
 rw [if_pos (w1 _ _ rfl)]
 refine .inl ?_
 unfold Oper.wp
 rw [run1, Oper.upon_value]
 unfold wpOps
 simp only [List.getElem?_toArray, List.getElem?_cons_succ, List.getElem?_cons_zero]
 rw [if_pos (w1 _ _ rfl)]
 refine .inl ?_
 unfold Oper.wp
 rw [run2, Oper.upon_defer]
 exact hfin
theorem aBA {ops : Array Oper} {cs : List Frame} {Q : Exit → Act → List Frame → World → Prop} (hQ : ¬ LetsOut fun e a w => Q e a cs w) : ∀ (l : List Nat) (a : Act) (w : World), wpOps P ops (fun e a w => Q e a cs w) l a w → wpOpsS P ops Q l a cs w
 | [], a, w, hh => hh
 | i :: rest, a, w, hh => by
  unfold wpOps at hh
  unfold wpOpsS
  cases ho : ops[i]? with
  | none => simp only [ho] at hh ⊢; exact aBA hQ rest a w hh
  | some o =>
   simp only [ho] at hh ⊢
   split
   ·rename_i hw
    simp only [hw, if_true] at hh
    have hh := Oper.wp_mono (fun a w => aBA hQ rest a w) (hh.resolve_right fun q => hQ q.2)
    unfold Oper.wp at hh
    revert hh
    generalize (execOp a.eval o).run P w = r
    intro hh
    split
    ·exact hh.elim
    ·exact hh
   ·rename_i hw
    simp only [hw, if_false] at hh
    exact aBA hQ rest _ w hh
def aT5 : Option Pan → AV
 | none => .val .nili ()
 | some p => .val (.ifc p.k p.t) p.x
theorem aNe {g : FuncId} {fn : Func} {rest : Code} {id : Nat} {ops : Array Oper} {sp : mY} {mode : Option Pan} {t5 : Nat} {ty : TypeId} {pos : String} {aft : Array Edge} (hE : gA P E) (hf : P.funcs[g]? = some fn) (hb : fn.body = some (.seq (.region id ops false) rest)) (hok : fE fn.ntmps (.seq (.region id ops false) rest) = true) (hn : ∀ d, (sp.av d).length ≤ fn.ntmps)
  (h0 : ops[0]? = some ⟨some t5, .call ⟨.builtin .recover, #[], #[]⟩, ty, pos, aft, none⟩)
  (ht : ∀ (c : Ctx) (w : World) (d : sp.D), AV.wfL (sp.av d) → Obj.wfL (sp.hp d) → sp.pre d → c.n = (sp.hp d).length →
   pY E ops.toList (ops.toList.drop 1) ((t5, aT5 mode) :: aP7 (sp.av d) 0) (sp.hp d) (fun env h => Tri ⟨P, E, GM sp c d, w, fn.ntmps, []⟩ rest (bodyPost P fn (aGe sp c w d)) env h)) : DOK P E.G g mode sp := by
 intro c w d vs u hp hin hu
 refine callsD_of_wpS hf hb fun c₀ cs hc₀ => ?_
 have hok' := hok
 simp only [fE, Bool.and_eq_true] at hok'
 obtain ⟨⟨⟨hok1, _⟩, _⟩, hok2⟩ := hok'
 refine wpS_seq (wpS_region ?_)
 have hsz : 0 < ops.size := by
  rcases Nat.lt_or_ge 0 ops.size with h | h
  ·exact h
  ·rw [Array.getElem?_eq_none h] at h0; cases h0
 obtain ⟨n, hn'⟩ : ∃ n, ops.size = n + 1 := ⟨ops.size - 1, by omega⟩
 have hrange : List.range ops.size = 0 :: List.range' 1 n := by rw [hn', List.range_eq_range', List.range'_succ]
 rw [hrange]
 unfold wpOpsS
 have w1 : ∀ (o : Oper) (y : Nat → Option Bool), o.guard = none → Region.wanted o y = true := fun o y h => by simp [Region.wanted, h]
 simp only [h0]
 rw [if_pos (w1 _ _ rfl)]
 have hrun : ∀ ρ, (execOp ρ ⟨some t5, .call ⟨.builtin .recover, #[], #[]⟩, ty, pos, aft, none⟩).run P w = .ok .recover w := fun ρ => by
  simp [execOp, resolve, invoke, builtin]
 rw [hrun]
 have key : ∀ v, aP c w (aT5 mode) v → wpOpsS P ops (Exit.thenS (rest.wpS P (bodyPostS P fn c₀ cs fun e u' w' => u' = m1 mode u ∧ aGe sp c w d e w')) (bodyPostS P fn c₀ cs fun e u' w' => u' = m1 mode u ∧ aGe sp c w d e w')) (List.range' 1 n) (({ tmps := vs ++ Array.replicate (fn.ntmps - vs.size) undef, defers := [] } : Act).put (some t5) v) ({ c₀ with mode := m1 mode u } :: cs) w := fun v hv => by
  refine aBA ?_ _ _ _ ?_
  ·rintro ⟨a', w', u', _, e⟩
   obtain ⟨c', e⟩ := e
   split at e <;> (obtain ⟨_, e, _⟩ := e; cases e)
  ·have hsim : Sim E (GM sp c d) w fn.ntmps [] c ((t5, aT5 mode) :: aP7 (sp.av d) 0) (sp.hp d) (({ tmps := vs ++ Array.replicate (fn.ntmps - vs.size) undef, defers := [] } : Act).put (some t5) v) w := by
    have hlen := hin.len
    have hnn := hn d
    simp at hlen
    have hsz2 : (vs ++ Array.replicate (fn.ntmps - vs.size) undef).size = fn.ntmps := by simp; omega
    have ht5 : t5 < fn.ntmps := by
     have h0' : ops.toList[0]? = some ⟨some t5, .call ⟨.builtin .recover, #[], #[]⟩, ty, pos, aft, none⟩ := by simpa using h0
     have := List.all_eq_true.1 hok1 _ (List.mem_of_getElem? h0')
     simp only [eM, Bool.and_eq_true] at this
     simpa using this.2
    refine ⟨hin.good, hin.glob, ?_, by simpa [Act.put] using hsz2, rfl⟩
    refine aCl.put (a := { tmps := vs ++ Array.replicate (fn.ntmps - vs.size) undef, defers := [] }) ?_ (by rw [hsz2]; exact ht5) hv
    refine aNb _ vs.toList 0 hin.len hin.val fun i v hv => ?_
    have hlt : i < vs.size := by
     rcases Nat.lt_or_ge i vs.size with hh | hh
     ·exact hh
     ·rw [List.getElem?_eq_none (by simpa using hh)] at hv; cases hv
    simp only [Nat.zero_add]
    have : vs[i]? = some v := by rw [← Array.getElem?_toList]; exact hv
    simp [Array.getElem?_append, hlt]
    rw [Array.getElem?_eq_getElem hlt] at this
    simpa using this
   have := aFb (P := P) (ops := ops.toList) (Q := fun e a w' => Exit.thenS (rest.wpS P (bodyPostS P fn c₀ cs fun e u' w' => u' = m1 mode u ∧ aGe sp c w d e w')) (bodyPostS P fn c₀ cs fun e u' w' => u' = m1 mode u ∧ aGe sp c w d e w') e a ({ c₀ with mode := m1 mode u } :: cs) w') hE (List.all_eq_true.1 hok1) (fun env h c' a w' hk hs => by
    refine wpS_of_wp (wp_mono (hk hok2 c' a w' hs) fun e a w' hq => ?_)
    cases e with
    | normal => obtain ⟨q1, v, q2, q3⟩ := hq; exact ⟨q1, _, rfl, v, q2, rfl, q3⟩
    | ret => obtain ⟨q1, v, q2, q3⟩ := hq; exact ⟨q1, _, rfl, v, q2, rfl, q3⟩
    | panic ch => obtain ⟨q1, q3⟩ := hq; exact ⟨q1, _, rfl, rfl, q3⟩
    | outgrown => exact ⟨_, rfl, hq⟩
    | exit id => exact hq.elim
    | goto l => exact hq.elim) n 1 (by simp; omega) _ _ c _ w (ht c w d (aNc hin.len hin.val) (aRu hin.good) hp hin.good.n) hsim
   simpa using this
 cases mode with
 | none =>
  have e : c₀.mode = .returning := hc₀
  have e2 : ({ c₀ with mode := .returning } : Frame) = c₀ := by rw [← e]
  have := key .nilIface (aP.ofV (by unfold cU; rw [if_neg (by simp [Ty.isAgg])]; exact rfl))
  simp only [m1, e2] at this
  simpa [recoverD, e, m1] using this
 | some p =>
  have e : c₀.mode = .panicking (aK4 p.k u) := hc₀
  have := key (.iface p.k u) (aP.ofV (by
   unfold cU
   rw [if_neg (by simp [Ty.isAgg])]
   have hr := hu p rfl
   unfold cU at hr
   split at hr
   ·rename_i ha
    obtain ⟨ds, e1, e2⟩ := hr
    exact ⟨u, ds.toList, rfl, fun _ => by simpa using e1, (fun h => by rw [ha] at h; cases h), e2⟩
   ·rename_i ha
    exact ⟨u, [u], rfl, fun h => absurd h ha, fun _ => rfl, hr⟩))
  simp only [m1] at this
  simpa [recoverD, e, aK4, m1] using this
end
end Go.Vc
namespace Go.Vc
open Go.RowKit
def ck {α : Type} (p : Prop) [Decidable p] (k : Option α) : Option α := if p then k else none
theorem aH {α : Type} {p : Prop} [Decidable p] {k : Option α} {r : α} (h : ck p k = some r) : p ∧ k = some r := by
 unfold ck at h
 split at h
 ·rename_i hp; exact ⟨hp, h⟩
 ·cases h
theorem aGi {α : Type} {p : Prop} [Decidable p] {k : Option α} (hp : p) : ck p k = k := if_pos hp
theorem eF {α : Type} {p : Prop} [Decidable p] {x y : α} {r : α} (hp : p) (h : (if p then x else y) = r) : x = r := by rwa [if_pos hp] at h
theorem eG {α : Type} {p : Prop} [Decidable p] {x y : α} {r : α} (hp : ¬ p) (h : (if p then x else y) = r) : y = r := by rwa [if_neg hp] at h
abbrev I64 (x : Int) : Prop := -9223372036854775808 ≤ x ∧ x ≤ 9223372036854775807
abbrev I32 (x : Int) : Prop := -2147483648 ≤ x ∧ x ≤ 2147483647
section
variable {D E R : Type} {step : D → Option (D ⊕ E)}
def iter (step : D → Option (D ⊕ E)) : Nat → D → Option E
 | 0, _ => none
 | n + 1, d => match step d with
  | none => none
  | some (.inl d') => iter step n d'
  | some (.inr e) => some e
theorem aGj : ∀ {n : Nat} {d : D} {e : E}, iter step n d = some e → iter step (n + 1) d = some e
 | 0, d, e, h => by cases h
 | n + 1, d, e, h => by
  unfold iter at h ⊢
  cases hs : step d with
  | none => rw [hs] at h; cases h
  | some s =>
   rw [hs] at h
   cases s with
   | inl d' => exact aGj (n := n) h
   | inr e' => exact h
theorem aRB {n m : Nat} (hm : n ≤ m) {d : D} {e : E} (h : iter step n d = some e) : iter step m d = some e := by
 induction hm with
 | refl => exact h
 | step _ ih => exact aGj ih
theorem aMr {n m : Nat} {d : D} {e e' : E} (h : iter step n d = some e) (h' : iter step m d = some e') : e = e' := by
 have h1 := aRB (Nat.le_max_left n m) h
 have h2 := aRB (Nat.le_max_right n m) h'
 rw [h1] at h2; exact Option.some.inj h2
open Classical in
noncomputable def aMs (step : D → Option (D ⊕ E)) (d : D) : Option E := if h : ∃ e, ∃ n, iter step n d = some e then some (Classical.choose h) else none
theorem aMt {d : D} {e : E} : aMs step d = some e ↔ ∃ n, iter step n d = some e := by
 unfold aMs
 constructor
 ·intro h
  split at h
  ·rename_i hx
   have := Classical.choose_spec hx
   rw [Option.some.inj h] at this; exact this
  ·cases h
 ·rintro ⟨n, h⟩
  have hx : ∃ e, ∃ n, iter step n d = some e := ⟨e, n, h⟩
  rw [dif_pos hx]
  obtain ⟨m, hm⟩ := Classical.choose_spec hx
  rw [aMr hm h]
theorem aEz {n : Nat} {d : D} {e : E} (h : iter step n d = some e) : aMs step d = some e := aMt.2 ⟨n, h⟩
theorem aCN {p : Nat → Prop} (h : ∃ n, p n) : ∃ n, p n ∧ ∀ m, p m → n ≤ m := by
 classical
 obtain ⟨n, hn⟩ := h
 induction n using Nat.strongRecOn with
 | _ n ih =>
  by_cases hh : ∃ m, m < n ∧ p m
  ·obtain ⟨m, hm, hp⟩ := hh; exact ih m hm hp
  ·exact ⟨n, hn, fun m hm => Nat.le_of_not_lt fun hlt => hh ⟨m, hlt, hm⟩⟩
open Classical in
noncomputable def aBB (step : D → Option (D ⊕ E)) (d : D) : Nat := if h : ∃ n, (iter step n d).isSome = true then Classical.choose (aCN h) else 0
theorem aRC {d : D} {e : E} (h : aMs step d = some e) : iter step (aBB step d) d = some e ∧ ∀ m e', iter step m d = some e' → aBB step d ≤ m := by
 obtain ⟨n, hn⟩ := aMt.1 h
 have hx : ∃ n, (iter step n d).isSome = true := ⟨n, by rw [hn]; rfl⟩
 have hs := Classical.choose_spec (aCN hx)
 have e1 : aBB step d = Classical.choose (aCN hx) := by unfold aBB; rw [dif_pos hx]
 rw [← e1] at hs
 refine ⟨?_, fun m e' hm => hs.2 m (by rw [hm]; rfl)⟩
 cases hi : iter step (aBB step d) d with
 | none => have := hs.1; rw [hi] at this; cases this
 | some e' => rw [aMr hi hn]
abbrev Md := Option Nat
noncomputable def aAj (F : Md) (step : D → Option (D ⊕ E)) (d : D) : Option E := match F with
 | none => aMs step d
 | some n => iter step n d
noncomputable abbrev eQ (step : D → Option (D ⊕ E)) (d : D) : Option E := aAj none step d
theorem aJC {n : Nat} {d : D} {e : E} (h : iter step n d = some e) : eQ step d = some e := aEz h
theorem aWk {F : Md} {d : D} {e : E} (h : aAj F step d = some e) : aMs step d = some e := by
 cases F with
 | none => exact h
 | some n => exact aEz h
def rN (A : D → Prop) (B : E → Prop) : D ⊕ E → Prop
 | .inl d => A d
 | .inr e => B e
theorem aJD {k : E → Option R} {r : R} {F : Md} {d : D} (hd : (aAj F step d).bind k = some r) : ∃ s, step d = some s ∧ rN (fun d' => (aAj F step d').bind k = some r ∧ aBB step d' < aBB step d) (fun e => k e = some r) s := by
 cases hl : aAj F step d with
 | none => rw [hl] at hd; cases hd
 | some e =>
  rw [hl] at hd
  have hk : k e = some r := hd
  obtain ⟨hi, hmin⟩ := aRC (aWk hl)
  cases hn : aBB step d with
  | zero => rw [hn] at hi; cases hi
  | succ n =>
   rw [hn, iter] at hi
   split at hi
   ·cases hi
   ·rename_i d' hs
    have hz := aEz hi
    have hl' : aAj F step d' = some e := by
     cases F with
     | none => exact hz
     | some m =>
      have hm : iter step m d = some e := hl
      cases m with
      | zero => cases hm
      | succ m =>
       rw [iter, hs] at hm
       exact aGj hm
    refine ⟨_, hs, ?_⟩
    refine ⟨by rw [hl']; exact hk, ?_⟩
    have := (aRC hz).2 n e hi
    show aBB step d' < n + 1
    omega
   ·rename_i e' hs
    refine ⟨_, hs, ?_⟩
    rw [Option.some.inj hi]; exact hk
theorem kO {I : D → Prop} (μ : D → Nat) (f : D → E) (h : ∀ d, I d → (∃ d', step d = some (.inl d') ∧ I d' ∧ μ d' < μ d ∧ f d' = f d) ∨ step d = some (.inr (f d))) : ∀ d, I d → eQ step d = some (f d) := by
 have main : ∀ n d, μ d ≤ n → I d → ∃ m, iter step m d = some (f d) := by
  intro n
  induction n with
  | zero =>
   intro d hn hi
   rcases h d hi with ⟨d', _, _, hlt, _⟩ | hs
   ·omega
   ·exact ⟨1, by rw [iter, hs]⟩
  | succ n ih =>
   intro d hn hi
   rcases h d hi with ⟨d', hs, hi', hlt, hf⟩ | hs
   ·obtain ⟨m, hm⟩ := ih d' (by omega) hi'
    exact ⟨m + 1, by rw [iter, hs]; simp only; rw [hm, hf]⟩
   ·exact ⟨1, by rw [iter, hs]⟩
 intro d hi
 obtain ⟨m, hm⟩ := main (μ d) d (Nat.le_refl _) hi
 exact aJC hm
theorem lV {I : D → Prop} (μ : D → Nat) (Q : E → Prop) (h : ∀ d, I d → (∃ d', step d = some (.inl d') ∧ I d' ∧ μ d' < μ d) ∨ ∃ e, step d = some (.inr e) ∧ Q e) : ∀ d, I d → ∃ e, eQ step d = some e ∧ Q e := by
 have main : ∀ n d, μ d ≤ n → I d → ∃ m e, iter step m d = some e ∧ Q e := by
  intro n
  induction n with
  | zero =>
   intro d hn hi
   rcases h d hi with ⟨d', _, _, hlt⟩ | ⟨e, hs, hq⟩
   ·omega
   ·exact ⟨1, e, by rw [iter, hs], hq⟩
  | succ n ih =>
   intro d hn hi
   rcases h d hi with ⟨d', hs, hi', hlt⟩ | ⟨e, hs, hq⟩
   ·obtain ⟨m, e, hm, hq⟩ := ih d' (by omega) hi'
    exact ⟨m + 1, e, by rw [iter, hs]; exact hm, hq⟩
   ·exact ⟨1, e, by rw [iter, hs], hq⟩
 intro d hi
 obtain ⟨m, e, hm, hq⟩ := main (μ d) d (Nat.le_refl _) hi
 exact ⟨e, aJC hm, hq⟩
end
def qH (h : List Obj) : List (Nat ⊕ Obj) → List Obj
 | [] => []
 | .inl i :: r => h.getD i .dead :: qH h r
 | .inr o :: r => o :: qH h r
section
variable {F : Fr} {Q : Exit → Act → World → Prop} {env : St} {h : List Obj}
theorem jR {x y : Code} {D : Type} (J : D → Prop) (keep : List Nat) (uE : D → St) (uO : D → List (Nat ⊕ Obj))
  (hx : Tri F x (Exit.then (fun a' w' => ∃ d' c', J d' ∧ Sim F.E F.M F.w0 F.nt F.ds c' (aEw env keep (uE d')) (qH h (uO d')) a' w') Q) env h)
  (hy : ∀ d, J d → Tri F y Q (aEw env keep (uE d)) (qH h (uO d))) : Tri F (.seq x y) Q env h :=
 aOq J (fun d => aEw env keep (uE d)) (fun d => qH h (uO d)) hx hy
theorem sV {x : Code} {D E R : Type} {G : Md} {step : D → Option (D ⊕ E)} {k : E → Option R} {r : R} {d0 : D} (keep : List Nat) (uE : D → St) (uO : D → List (Nat ⊕ Obj))
  (hd : (aAj G step d0).bind k = some r) (hh : h = qH h (uO d0)) (hf : jA h env (aEw env keep (uE d0)))
  (round : ∀ d s, step d = some s → rN (fun d' => (aAj G step d').bind k = some r ∧ aBB step d' < aBB step d) (fun e => k e = some r) s → Tri F x (Exit.then (fun a' w' => ∃ d' c', ((aAj G step d').bind k = some r ∧ aBB step d' < aBB step d) ∧ Sim F.E F.M F.w0 F.nt F.ds c' (aEw env keep (uE d')) (qH h (uO d')) a' w') Q) (aEw env keep (uE d)) (qH h (uO d))) : Tri F (.loop x) Q env h :=
 aOp (fun d => (aAj G step d).bind k = some r) (aBB step) (fun d => aEw env keep (uE d)) (fun d => qH h (uO d)) (aX d0 hd hh hf) fun d hi => by
  obtain ⟨s, h1, h2⟩ := aJD hi
  exact round d s h1 h2
end
theorem aSF {F : Fr} {Q : Exit → Act → World → Prop} {env : St} {h : List Obj} {id : Nat} {ops : Array Oper} {t0 t3 t4 : Nat} {tt ty0 ty1 ty2 : TypeId} {pos1 pos2 : String} {aft1 aft2 : Array Edge} {ct : Ty} {xs : List ct.den} (hF : iZ F)
  (hops : ops = #[⟨some t3, .move (.tmp t0), ty1, pos1, aft1, none⟩, ⟨some t4, .binOp .eql tt (.tmp t3) (.const (.slice none 0 0)) ty0, ty2, pos2, aft2, none⟩])
  (hT : F.E.T tt = some (.sl ct)) (hv : look env t0 = .val (.sl ct) xs)
  (hq : ∀ b : Bool, (b = true → xs = []) → At F (Q .normal) ((t4, .val .bool b) :: (t3, .val (.sl ct) xs) :: env) h) : Tri F (.region id ops false) Q env h := fun hok c a w hs => by
 simp only [fE, Bool.and_eq_true] at hok
 obtain ⟨⟨hok1, _⟩, _⟩ := hok
 subst hops
 have hall := List.all_eq_true.1 hok1
 have hk1 := hall ⟨some t3, .move (.tmp t0), ty1, pos1, aft1, none⟩ (by simp)
 have hk2 := hall ⟨some t4, .binOp .eql tt (.tmp t3) (.const (.slice none 0 0)) ty0, ty2, pos2, aft2, none⟩ (by simp)
 have h0 := hs.env t0
 rw [hv] at h0
 obtain ⟨⟨ad, len, cap, e1, e2⟩, _, e3⟩ := h0
 have hval : a.tmps.getD t0 Go.undef = .slice ad len cap := by
  have e3 := e3 rfl
  revert e1 e3
  generalize a.tmps.getD t0 Go.undef = sv
  intro e1 e3
  cases sv <;> simp [Value.cells] at e1 e3 <;> simp [e1]
 have h0 := hs.env t0
 rw [hv] at h0
 have s1 := hs.after hk1 (v := a.tmps.getD t0 Go.undef) (av := .val (.sl ct) xs) ⟨.refl _ _, hs.good, h0⟩
 have ht3 : t3 < a.tmps.size := by
  simp only [eM, Bool.and_eq_true] at hk1
  rw [hs.size]; simpa using hk1.2
 have s2 := s1.after hk2 (v := .bool ad.isNone) (av := .val .bool ad.isNone) ⟨.refl _ _, s1.good, tL _⟩
 refine wp_region ?_
 have run1 : (execOp a.eval ⟨some t3, .move (.tmp t0), ty1, pos1, aft1, none⟩).run F.P w = .ok (.value (a.tmps.getD t0 Go.undef)) w := by
  simp [execOp, Act.eval]
 have hget : (a.put (some t3) (a.tmps.getD t0 Go.undef)).eval (.tmp t3) = .slice ad len cap := by
  rw [hval]; simp [Act.eval, Act.put, ht3]
 obtain ⟨_, hd, _⟩ := gG (hF.env.T _ _ hT)
 have run2 : (execOp (a.put (some t3) (a.tmps.getD t0 Go.undef)).eval ⟨some t4, .binOp .eql tt (.tmp t3) (.const (.slice none 0 0)) ty0, ty2, pos2, aft2, none⟩).run F.P w = .ok (.value (.bool ad.isNone)) w := by
  have hc : (a.put (some t3) (a.tmps.getD t0 Go.undef)).eval (.const (.slice none 0 0)) = .slice none 0 0 := rfl
  have hq : ∀ d, (Op.equalIn (d + 1) tt (.slice ad len cap) (.slice none 0 0)).run F.P w = .ok ad.isNone w := fun d => by
   unfold Op.equalIn
   rw [Sem.run_bind, aU hd]
   cases ad <;> rfl
  have hb : (binOp .eql tt (.slice ad len cap) (.slice none 0 0)).run F.P w = .ok (.bool ad.isNone) w := by
   have e : binOp .eql tt (.slice ad len cap) (.slice none 0 0) = (do pure (.bool (← Op.equal tt (.slice ad len cap) (.slice none 0 0)))) := by unfold binOp; rfl
   rw [e, Sem.run_bind, Op.equal, show Op.maxDepth = (Op.maxDepth - 1) + 1 from rfl, hq]
   rfl
  have hg : (eqGuard .eql tt (.tmp t3) (.const (.slice none 0 0)) (.slice ad len cap) (.slice none 0 0)).run F.P w = .ok () w := by
   unfold eqGuard; rfl
  generalize hρ : (a.put (some t3) (a.tmps.getD t0 Go.undef)).eval = ρ at hget hc ⊢
  simp only [execOp, hget, hc]
  simp [hb, hg]
 have w1 : ∀ (o : Oper) (y : Nat → Option Bool), o.guard = none → Region.wanted o y = true := fun o y h => by simp [Region.wanted, h]
 show wpOps F.P _ _ [0, 1] a w
 unfold wpOps
 simp only [List.getElem?_toArray, List.getElem?_cons_zero]
 rw [if_pos (w1 _ _ rfl)]
 refine .inl ?_
 unfold Oper.wp
 rw [run1, Oper.upon_value]
 unfold wpOps
 simp only [List.getElem?_toArray, List.getElem?_cons_succ, List.getElem?_cons_zero]
 rw [if_pos (w1 _ _ rfl)]
 refine .inl ?_
 unfold Oper.wp
 rw [run2, Oper.upon_value]
 refine hq ad.isNone (fun hn => ?_) c _ w s2
 obtain ⟨_, _, _, e4⟩ := e2
 rcases e4 with e4 | ⟨b, off, e4, _⟩
 ·exact e4
 ·rw [e4] at hn; cases hn
theorem fD {F : Fr} {fn : Func} {S : Nat → Prop} {r : RK} {y : r.ty.den} {env : St} {h : List Obj} (hF : iZ F) (l : List ResultVar) (hM : F.M = top S) (hds : F.ds = []) (hr : fn.results = l.toArray) (hy : (bA F.E.T h env l).1 ∧ iH h r y (bA F.E.T h env l).2) : At F (post F.P fn S F.w0 r y .ret) env h := fun c a w hs => by
 obtain ⟨us, q1, q2, q3⟩ := aBz (P := F.P) hF.env.T hs.good hs.env hr hy.1
 refine ⟨hs.defers.trans hds, aDV us, q1, aDV us, rfl, by have := hs.good.keeps; rw [hM] at this; exact this, ?_⟩
 exact aT4 (by rw [hM]) (by rw [hM]) hs.good q2 (fun i h1 h2 => q3 i h1 h2) hy.2
def aJE (i : Nat) (t : Ty) (x : t.den) : AV → AV
 | .ptr j [] => if j = i then .roa t x else .ptr j []
 | .ptr j p => if j = i then .junk else .ptr j p
 | .agg _ => .junk
 | .tup _ => .junk
 | .fn f l1 l2 => if l1.contains i || l2.contains i then .junk else .fn f l1 l2
 | v => v
theorem Good.shut {M : Perm} {w0 : World} {c : Ctx} {h : List Obj} {w : World} (hg : Good M w0 c h w) {i n : Nat} {t : Ty} {x : t.den} (ho : h[i]? = some (.box n (.val t x))) :
  ∃ c', dN c w c' w ∧ c'.n = c.n ∧ Good M w0 c' (h.set i .dead) w ∧ ∀ v, aP c w (.ptr i []) v → aP c' w (.roa t x) v := by
 have hob := hg.objs i _ ho
 have hle : c.le (c.more (aQ (c.hd i))) := ⟨fun b hb => .inl hb, Nat.le_refl _, fun _ _ => rfl⟩
 have hl : dN c w (c.more (aQ (c.hd i))) w := ⟨hle, .refl _ _⟩
 have hil : i < h.length := oM ho
 have hcase : ∀ j oj, (h.set i .dead)[j]? = some oj → (j ≠ i ∧ h[j]? = some oj) ∨ (j = i ∧ oj = .dead) := fun j oj hj => by
  by_cases e : i = j
  ·subst e; simp [hil] at hj; exact .inr ⟨rfl, hj.symm⟩
  ·rw [List.getElem?_set_ne e] at hj; exact .inl ⟨fun h => e h.symm, hj⟩
 refine ⟨_, hl, rfl, ⟨by simp [Ctx.more, hg.n], hg.keeps, fun b hb => ?_, fun b hb hlt => ?_, fun j oj hj => ?_, fun j oj b hj hb => ?_, fun j k oj ok b hj hk hbj hbk => ?_, aAb hg.root hle⟩, fun v hv => ?_⟩
 ·rcases hb with hb | hb
  ·exact hg.sfin b hb
  ·exact (hg.own i _ b ho hb).2.1
 ·rcases hb with hb | hb
  ·exact hg.src b hb hlt
  ·rcases (hg.own i _ b ho hb).1 with h1 | h1
   ·omega
   ·exact .inr h1
 ·rcases hcase j oj hj with ⟨hne, hj⟩ | ⟨rfl, rfl⟩
  ·exact (hg.objs j oj hj).keep hl (by rw [hg.n]; exact oM hj) (fun _ _ => rfl)
  ·trivial
 ·rcases hcase j oj hj with ⟨hne, hj⟩ | ⟨rfl, rfl⟩
  ·obtain ⟨h1, h2, h3⟩ := hg.own j oj b hj (by cases oj <;> exact hb)
   refine ⟨h1, h2, fun hS => ?_⟩
   rcases hS with hS | hS
   ·exact h3 hS
   ·exact hne (hg.sep j i oj _ b hj ho (by cases oj <;> exact hb) hS)
  ·cases hb
 ·rcases hcase j oj hj with ⟨hnj, hj⟩ | ⟨rfl, rfl⟩
  ·rcases hcase k ok hk with ⟨hnk, hk⟩ | ⟨rfl, rfl⟩
   ·exact hg.sep j k oj ok b hj hk (by cases oj <;> exact hbj) (by cases ok <;> exact hbk)
   ·cases hbk
  ·cases hbj
 ·obtain ⟨b, cells, e, h1, h2, h3, h4⟩ := hob
  obtain ⟨⟨_, b', hb', e1⟩, _, e3⟩ := hv
  have e3 := e3 rfl
  rw [h1] at hb'
  simp only [aQ, Option.some.injEq] at hb'
  subst hb'
  have ev : v = .pointer (some ⟨b, 0, none⟩) := by
   cases v <;> simp [Value.cells, oK] at e1 e3 <;> simp [e1]
  rw [ev]
  have h4 : aS w c.S t x cells.toList := h4
  refine aBq (ds := cells.toList) (.inr (by rw [h1]; rfl)) (aS.keep (fun b hb => .inl hb) (.refl _ _) _ _ _ h4) fun j u hj => ?_
  simp only [Nat.zero_add]
  unfold World.cell?
  simp only [h2]
  simpa using hj
theorem aWl {F : Fr} {K : Act → World → Prop} {env : St} {h : List Obj} (i : Nat) {n : Nat} {t : Ty} {x : t.den} (ho : h[i]? = some (.box n (.val t x))) (hk : At F K (env.map fun p => (p.1, aJE i t x p.2)) (h.set i .dead)) : At F K env h := fun c a w hs => by
 obtain ⟨c', hl, hn, hg, hv⟩ := hs.good.shut ho
 refine hk c' a w ⟨hg, hs.glob.mono hl.le.S hl.same, fun s => ?_, hs.size, hs.defers⟩
 rw [aCL (aJE i t x) rfl]
 have h0 := hs.env s
 generalize look env s = v at h0
 generalize a.tmps.getD s Go.undef = u at h0
 cases v with
 | ptr j p =>
  cases p with
  | nil =>
   simp only [aJE]
   split
   ·rename_i e; subst e; exact hv u h0
   ·exact hl.val h0
  | cons _ _ =>
   simp only [aJE]
   split
   ·trivial
   ·exact hl.val h0
 | fn f l1 l2 =>
  simp only [aJE]
  split
  ·trivial
  ·exact hl.val h0
 | agg vs => trivial
 | tup vs => trivial
 | _ => exact hl.val h0
theorem zD {F : Fr} {x : Code} {Q : Exit → Act → World → Prop} {env : St} {h : List Obj} (i : Nat) {n : Nat} {t : Ty} {y : t.den} (ho : h[i]? = some (.box n (.val t y))) (hk : Tri F x Q (env.map fun p => (p.1, aJE i t y p.2)) (h.set i .dead)) : Tri F x Q env h := fun hok => aWl i ho (hk hok)
def mSpec (a : Ty) (r : RK) (m : a.den → Option r.ty.den) : aJ := ⟨a, r, fun x => (m x).isSome = true, fun x => (m x).getD r.ty.zero⟩
section
variable {P : Program} {E : Env}
theorem pS {f : FuncId} {fn : Func} {body : Code} {a : Ty} {r : RK} {m : a.den → Option r.ty.den} (hE : gA P E) (hf : P.funcs[f]? = some fn) (hb : fn.body = some body) (hok : fE fn.ntmps body = true) (hn : aG5 a ≤ fn.ntmps)
  (ht : ∀ (w0 : World) (S : Nat → Prop) (x : a.den) (y : r.ty.den), a.wf x → m x = some y → Tri (fr P E S w0 fn.ntmps) body (post P fn S w0 r y) (cC a x 0) []) : FOK P E.G f (mSpec a r m) :=
 aTM hE hf hb hok hn fun w0 S x hw hp => by
  have hp : (m x).isSome = true := hp
  obtain ⟨y, hy⟩ := Option.isSome_iff_exists.1 hp
  have e : (mSpec a r m).fn x = y := by show (m x).getD r.ty.zero = y; rw [hy]; rfl
  rw [e]
  exact ht w0 S x y hw hy
theorem eY {G : Nat → AV} {f : FuncId} {a : Ty} {r : RK} {m : a.den → Option r.ty.den} {pre : a.den → Prop} {fn : a.den → r.ty.den} (h : FOK P G f (mSpec a r m)) (hc : ∀ x, a.wf x → pre x → m x = some (fn x)) : FOK P G f ⟨a, r, pre, fn⟩ := fun w S vs x hS hG ha hp => by
 have hm := hc x (aDE _ _ _ ha) hp
 have := h w S vs x hS hG ha (by show (m x).isSome = true; rw [hm]; rfl)
 have e : (mSpec a r m).fn x = fn x := by show (m x).getD r.ty.zero = fn x; rw [hm]; rfl
 rw [e] at this
 exact this
end
attribute [go_sem] qH aJE
end Go.Vc
namespace Go.Vc
open Go.RowKit
def aT6 : List (FuncId × Hit) → FuncId → List AV → List Obj → Option Hit
 | [], _, _, _ => none
 | (k, t) :: r, f, vs, h => if k = f then some t else aT6 r f vs h
structure aGk (P : Program) (G : Nat → AV) (l : List (FuncId × Hit)) : Prop where
 ok : ∀ p ∈ l, GOK P G p.1 p.2.sp ∧ fnB P p.1 = true
theorem aGk.nil {P : Program} {G : Nat → AV} : aGk P G [] := ⟨fun p hp => by cases hp⟩
theorem aGk.cons {P : Program} {G : Nat → AV} {l : List (FuncId × Hit)} {f : FuncId} {t : Hit} (h : GOK P G f t.sp) (hf : fnB P f = true) (hl : aGk P G l) : aGk P G ((f, t) :: l) := by
 refine ⟨fun p hp => ?_⟩
 rcases List.mem_cons.1 hp with rfl | hp
 ·exact ⟨h, hf⟩
 ·exact hl.ok p hp
theorem aJF : ∀ {l : List (FuncId × Hit)} {f : FuncId} {vs : List AV} {h : List Obj} {t : Hit}, aT6 l f vs h = some t → (f, t) ∈ l
 | (k, s) :: r, f, vs, h, t, e => by
  simp only [aT6] at e
  split at e
  ·rename_i ek; subst ek; cases e; exact List.mem_cons_self
  ·exact List.mem_cons_of_mem _ (aJF e)
theorem aFe {P : Program} {f : FuncId} (h : fnB P f = true) : ∃ fn, P.funcs[f]? = some fn ∧ fn.name ≠ "runtime.NumGoroutine" ∧ fn.body.isSome = true := by
 unfold fnB at h
 split at h
 ·rename_i fn hf
  simp only [Bool.and_eq_true, decide_eq_true_eq] at h
  exact ⟨fn, hf, h⟩
 ·cases h
theorem cH {P : Program} {G : Nat → AV} {l : List (FuncId × Hit)} (h : aGk P G l) : aEy P G (aT6 l) :=
 ⟨fun f vs hh t e => (h.ok _ (aJF e)).1, fun f vs hh t e => aFe (h.ok _ (aJF e)).2⟩
theorem bind_some {α β : Type} {x : Option α} {k : α → Option β} {r : β} (h : x.bind k = some r) : ∃ e, x = some e ∧ k e = some r := by
 cases x with
 | none => cases h
 | some e => exact ⟨e, rfl, h⟩
def rpV : AV → AV
 | .val (.rp t) x => .roa t x
 | v => v
theorem aXR {c : Ctx} {w : World} {v : AV} {x : Value} (hv : aP c w v x) : aP c w (rpV v) x := by
 cases v with
 | val t y =>
  cases t with
  | rp t =>
   obtain ⟨⟨b, off, ds, e, hb, hd, hc⟩, _, h3⟩ := hv
   have h3 := h3 rfl
   have ex : x = .pointer (some ⟨b, off, none⟩) := by
    cases x <;> simp [Value.cells] at e h3 <;> simp [e]
   rw [ex]
   exact aBq hb hd hc
  | _ => exact hv
 | _ => exact hv
section
variable {P : Program} {E : Env}
theorem pN {f : FuncId} {fn : Func} {body : Code} {sp : mY} (hE : gA P E) (hf : P.funcs[f]? = some fn) (hb : fn.body = some body) (hok : fE fn.ntmps body = true) (hn : ∀ d, (sp.av d).length ≤ fn.ntmps)
  (ht : ∀ (c : Ctx) (w : World) (d : sp.D), AV.wfL (sp.av d) → Obj.wfL (sp.hp d) → sp.pre d → c.n = (sp.hp d).length → Tri ⟨P, E, GM sp c d, w, fn.ntmps, []⟩ body (bodyPost P fn (aGe sp c w d)) (aP7 ((sp.av d).map rpV) 0) (sp.hp d)) : GOK P E.G f sp := by
 intro c w d vs hp hin
 refine calls_of_wp hf hb ?_
 refine ht c w d (aNc hin.len hin.val) (aRu hin.good) hp hin.good.n hok c _ w ⟨hin.good, hin.glob, ?_, ?_, rfl⟩
 ·refine aNb _ vs.toList 0 (by rw [List.length_map]; exact hin.len) (fun i h1 h2 => ?_) fun i v hv => ?_
  ·rw [List.getElem_map]; exact aXR (hin.val i (by simpa using h1) h2)
  ·have hlt : i < vs.size := by
    rcases Nat.lt_or_ge i vs.size with hh | hh
    ·exact hh
    ·rw [List.getElem?_eq_none (by simpa using hh)] at hv; cases hv
   simp only [Nat.zero_add]
   have : vs[i]? = some v := by rw [← Array.getElem?_toList]; exact hv
   simp [Array.getElem?_append, hlt]
   rw [Array.getElem?_eq_getElem hlt] at this
   simpa using this
 ·have h1 := hin.len
  have h2 := hn d
  simp at h1
  simp
  omega
end
section
variable {P : Program} {E : Env} {M : Perm} {w0 : World} {nt : Nat} {ds : List Deferred} {h : List Obj} {env : St}
theorem aWm (hE : gA P E) {sb : List Nat} {Δ : FuncId → List AV → List Obj → Option Hit} (hΔ : aEy P E.G Δ) {ops : List Oper} {Q : Exit → Act → World → Prop} (hok : ∀ o ∈ ops, eM nt o = true) {K : St → List Obj → Prop} {Kp : Pan → St → List Obj → Prop}
  (hKp : ∀ p env h c a w u, Kp p env h → Sim E M w0 nt ds c env h a w → cU w c.S p.t p.x u → Q (.panic (aK4 p.k u)) a w) {i : Nat} (hil : i < ops.length) {env : St} {h : List Obj} {c : Ctx} {a : Act} {w : World} (hs : aCn E Δ sb ops (ops.drop i) env h K Kp) (hsim : Sim E M w0 nt ds c env h a w)
  {Kn : Act → World → Prop} (hn : ∀ env' h' c' a' w', aCn E Δ sb ops (ops.drop (i + 1)) env' h' K Kp → Sim E M w0 nt ds c' env' h' a' w' → Kn a' w') : wpOp P ops.toArray Q i Kn a w := by
 rw [List.drop_eq_getElem_cons hil] at hs
 have hokO := hok ops[i] (List.getElem_mem hil)
 have hput : ∀ (v : Value) (av : AV), aP c w av v → Sim E M w0 nt ds c (tI ops[i].dst av env) h (a.put ops[i].dst v) w := fun v av hv => hsim.after hokO ⟨.refl _ _, hsim.good, hv⟩
 unfold wpOp
 simp only [List.getElem?_toArray, List.getElem?_eq_getElem hil]
 have hrun : aJy E Δ sb env h ops[i] (fun v h' => aCn E Δ sb ops (ops.drop (i + 1)) (tI ops[i].dst v env) h' K Kp) (fun p h' => Kp p env h') → Region.wanted ops[i] (yielded ops.toArray a.tmps) = true → (if Region.wanted ops[i] (yielded ops.toArray a.tmps) = true then Oper.wp P ops[i] a w Kn Q ∨ (ops[i].asks P a w ∧ LetsOut Q) else Kn (a.put ops[i].dst Go.undef) w) := fun h1 hw => by
  rw [if_pos hw]
  left
  refine aOB hE hΔ hsim hokO h1 (fun v h' c' u w' hk ha => hn _ _ c' _ w' hk (hsim.after hokO ha)) (fun p h' c' u w' hk hl hg hr => hKp p env h' c' a w' u hk (hsim.step hl hg) hr)
 have hskip : aCn E Δ sb ops (ops.drop (i + 1)) (tI ops[i].dst .undef env) h K Kp → Region.wanted ops[i] (yielded ops.toArray a.tmps) = false → (if Region.wanted ops[i] (yielded ops.toArray a.tmps) = true then Oper.wp P ops[i] a w Kn Q ∨ (ops[i].asks P a w ∧ LetsOut Q) else Kn (a.put ops[i].dst Go.undef) w) := fun h2 hw => by
  rw [if_neg (by rw [hw]; simp)]
  exact hn _ _ c _ w h2 (hput _ _ rfl)
 simp only [aCn] at hs
 cases hgd : ops[i].guard with
 | none =>
  rw [hgd] at hs
  exact hrun hs (by simp [Region.wanted, hgd])
 | some jp =>
  obtain ⟨j, pol⟩ := jp
  rw [hgd] at hs
  simp only at hs
  cases hdj : aDW ops j with
  | none => rw [hdj] at hs; exact hs.elim
  | some dj =>
   rw [hdj] at hs
   simp only at hs
   have hv := hsim.env dj
   split at hs
   ·rename_i b hb
    rw [hb] at hv
    have hb' := aAY hv
    have hy := sT hok hsim.size hdj hb'
    simp only [yb] at hy
    by_cases e : b = pol
    ·exact hrun (hs.1 e) (by simp [Region.wanted, hgd, hy, e])
    ·have e' : b = !pol := by cases b <;> cases pol <;> simp_all
     exact hskip (hs.2 e') (by simp [Region.wanted, hgd, hy, e])
   ·rename_i hb
    rw [hb] at hv
    have hy := sT hok hsim.size hdj (v := Go.undef) hv
    exact hskip hs (by simp [Region.wanted, hgd, hy, Go.undef, yb])
   ·exact hs.elim
theorem aMu (hE : gA P E) {sb : List Nat} {Δ : FuncId → List AV → List Obj → Option Hit} (hΔ : aEy P E.G Δ) {ops : List Oper} {Q : Exit → Act → World → Prop} (hok : ∀ o ∈ ops, eM nt o = true) {K : St → List Obj → Prop} {Kp : Pan → St → List Obj → Prop} (hK : ∀ env h c a w, K env h → Sim E M w0 nt ds c env h a w → Q .normal a w)
  (hKp : ∀ p env h c a w u, Kp p env h → Sim E M w0 nt ds c env h a w → cU w c.S p.t p.x u → Q (.panic (aK4 p.k u)) a w) {n : Nat} (ht : aDX n ops = true) :
  ∀ (m i : Nat), i + m = ops.length → n ≤ i → ∀ (listed : Array Bool), listed.size = ops.length → (∀ k, k < ops.length → (listed.getD k false = true ↔ k < i)) → ∀ (env : St) (h : List Obj) (c : Ctx) (a : Act) (w : World), aCn E Δ sb ops (ops.drop i) env h K Kp → Sim E M w0 nt ds c env h a w → wpAny P .any ops.toArray Q m listed a w
 | 0, i, hi, hni, listed, hsz, hl, env, h, c, a, w, hs, hsim => by
  rw [List.drop_eq_nil_of_le (by omega)] at hs
  refine ⟨?_, hK env h c a w hs hsim⟩
  rw [List.eq_nil_iff_forall_not_mem]
  intro j hj
  obtain ⟨h1, o, ho, _⟩ := mem_ready.1 hj
  have ho : ops[j]? = some o := by simpa using ho
  have hjl := gK.get_lt' ho
  have := (hl j hjl).2 (by omega)
  have hlt : j < listed.size := by omega
  simp [hlt] at h1 this
  rw [this] at h1; cases h1
 | m + 1, i, hi, hni, listed, hsz, hl, env, h, c, a, w, hs, hsim => by
  have hil : i < ops.length := by omega
  have hio : ops[i]? = some ops[i] := List.getElem?_eq_getElem hil
  refine ⟨fun hr => ?_, fun j hj => ?_⟩
  ·exfalso
   have hmem : i ∈ Region.ready .any ops.toArray listed := by
    rw [mem_ready]
    have hlt : i < listed.size := by omega
    have hun : ¬ listed.getD i false = true := fun h => by have := (hl i hil).1 h; omega
    refine ⟨by simp [hlt] at hun ⊢; exact hun, ops[i], by simp [hil], fun e he hb => ?_⟩
    exact (hl _ (by have := (gK ht hio).1 e he hb; omega)).2 ((gK ht hio).1 e he hb)
   rw [hr] at hmem; cases hmem
  ·obtain ⟨h1, o, ho, hall⟩ := mem_ready.1 hj
   have ho : ops[j]? = some o := by simpa using ho
   have hjl := gK.get_lt' ho
   have hji : j = i := by
    rcases Nat.lt_trichotomy j i with hlt | heq | hgt
    ·have := (hl j hjl).2 hlt
     have hlt : j < listed.size := by omega
     simp [hlt] at h1 this
     rw [this] at h1; cases h1
    ·exact heq
    ·have := (gK ht ho).2 (by omega) (fun k => k < ops.length → listed.getD k false = true) (fun k o' ho' hk e he hb => fun hlt => by
      have hkl := gK.get_lt' ho'
      have h3 := (gK ht ho').1 e he hb
      have := (hl k hkl).1 (hk hkl)
      exact (hl _ hlt).2 (by omega)) (fun e he hb _ => hall e he hb) i hgt hil
     have := (hl i hil).1 this
     omega
   subst hji
   refine aWm hE hΔ hok hKp hil hs hsim fun env' h' c' a' w' hs' hsim' => ?_
   refine aMu hE hΔ hok hK hKp ht m (j + 1) (by omega) (by omega) (listed.setIfInBounds j true) (by simp [hsz]) (fun k hk => ?_) env' h' c' a' w' hs' hsim'
   by_cases e : j = k
   ·subst e
    have : j < listed.size := by omega
    simp [this]
   ·rw [getD_set_ne false e, hl k hk]
    omega
def aEA (ops : List Oper) (done : List Nat) : List Nat := (List.range ops.length).filter fun i => !done.contains i && (match ops[i]? with
 | some o => o.after.toList.all fun e => !Region.binds .any e || done.contains e.on
 | none => false)
def anyS (E : Env) (ops : List Oper) (K : St → List Obj → Prop) : Nat → List Nat → St → List Obj → Prop
 | 0, _, env, h => K env h
 | n + 1, done, env, h => ∀ i, i ∈ aEA ops done → match ops[i]? with
  | some o => o.guard = none ∧ (match tT E env h o with
   | (p, v, h') => p ∧ anyS E ops K n (i :: done) (tI o.dst v env) h')
  | none => False
def aMv (ops : List Oper) : Bool := ops.zipIdx.all fun p => p.1.after.toList.all fun e => !Region.binds .any e || decide (e.on < p.2)
theorem aFf : ∀ {l m : List Nat}, l.Nodup → (∀ x ∈ l, x ∈ m) → l.length ≤ m.length ∧ (l.length = m.length → ∀ x ∈ m, x ∈ l)
 | [], m, _, _ => ⟨by simp, fun h x hx => by
  have : m = [] := List.eq_nil_of_length_eq_zero (by simpa using h.symm)
  rw [this] at hx; cases hx⟩
 | a :: l, m, hn, hs => by
  have ha : a ∈ m := hs a (by simp)
  have hn' := List.nodup_cons.1 hn
  have hlen := List.length_erase_of_mem ha
  have hpos : 0 < m.length := List.length_pos_of_mem ha
  have rec_ := aFf (l := l) (m := m.erase a) hn'.2 (fun x hx => by
   have hne : x ≠ a := fun e => hn'.1 (e ▸ hx)
   exact (List.mem_erase_of_ne hne).2 (hs x (by simp [hx])))
  refine ⟨by simp only [List.length_cons]; omega, fun h x hx => ?_⟩
  by_cases e : x = a
  ·subst e; simp
  ·have := rec_.2 (by simp only [List.length_cons] at h; omega) x ((List.mem_erase_of_ne e).2 hx)
   simp [this]
theorem aRD (hE : gA P E) {ops : List Oper} {Q : Exit → Act → World → Prop} (hok : ∀ o ∈ ops, eM nt o = true) {K : St → List Obj → Prop} (hK : ∀ env h c a w, K env h → Sim E M w0 nt ds c env h a w → Q .normal a w) (hb : aMv ops = true) :
  ∀ (n : Nat) (done : List Nat) (listed : Array Bool), listed.size = ops.length → (∀ k, k < ops.length → (listed.getD k false = true ↔ k ∈ done)) → done.length + n = ops.length → done.Nodup → (∀ k ∈ done, k < ops.length) → ∀ (env : St) (h : List Obj) (c : Ctx) (a : Act) (w : World), anyS E ops K n done env h → Sim E M w0 nt ds c env h a w → wpAny P .any ops.toArray Q n listed a w
 | 0, done, listed, hsz, hl, hn, hd, hlt, env, h, c, a, w, hs, hsim => by
  refine ⟨?_, hK env h c a w hs hsim⟩
  rw [List.eq_nil_iff_forall_not_mem]
  intro j hj
  obtain ⟨h1, o, ho, _⟩ := mem_ready.1 hj
  have ho : ops[j]? = some o := by simpa using ho
  have hjl := gK.get_lt' ho
  have hall : j ∈ done := by
   exact (aFf hd (m := List.range ops.length) (fun k hk => List.mem_range.2 (hlt k hk))).2 (by simp; omega) j (List.mem_range.2 hjl)
  have := (hl j hjl).2 hall
  have hlt' : j < listed.size := by omega
  simp [hlt'] at h1 this
  rw [this] at h1; cases h1
 | n + 1, done, listed, hsz, hl, hn, hd, hlt, env, h, c, a, w, hs, hsim => by
  have hrd : ∀ j, j ∈ Region.ready .any ops.toArray listed → j ∈ aEA ops done ∧ j ∉ done ∧ j < ops.length := fun j hj => by
   obtain ⟨h1, o, ho, hall⟩ := mem_ready.1 hj
   have ho : ops[j]? = some o := by simpa using ho
   have hjl := gK.get_lt' ho
   have hlt' : j < listed.size := by omega
   have hnd : j ∉ done := fun hm => by
    have := (hl j hjl).2 hm
    simp [hlt'] at h1 this
    rw [this] at h1; cases h1
   refine ⟨?_, hnd, hjl⟩
   simp only [aEA, List.mem_filter, List.mem_range, ho, Bool.and_eq_true, Bool.not_eq_true', List.contains_eq_mem, decide_eq_false_iff_not, List.all_eq_true, Bool.or_eq_true, decide_eq_true_eq]
   refine ⟨hjl, hnd, fun e he => ?_⟩
   cases hbe : Region.binds .any e with
   | false => exact .inl rfl
   | true =>
    right
    have h5 := hall e (by simpa using he) hbe
    rcases Nat.lt_or_ge e.on ops.length with hh | hh
    ·exact (hl _ hh).1 h5
    ·simp [show ¬ e.on < listed.size by omega] at h5
  refine ⟨fun hr => ?_, fun j hj => ?_⟩
  ·exfalso
   have hex : ∃ k, (k < ops.length ∧ k ∉ done) ∧ ∀ j, j < k → ¬ (j < ops.length ∧ j ∉ done) := by
    have hex : ∃ k, k < ops.length ∧ k ∉ done := by
     apply Classical.byContradiction
     intro hc
     have hsub : List.range ops.length ⊆ done := fun k hk => Classical.byContradiction fun hk2 => hc ⟨k, List.mem_range.1 hk, hk2⟩
     have := (aFf (List.nodup_range (n := ops.length)) (fun k hk => hsub hk)).1
     simp at this
     omega
    obtain ⟨n, h1, h2⟩ := aCN hex
    exact ⟨n, h1, fun j hj hp => by have := h2 j hp; omega⟩
   obtain ⟨k, ⟨hk, hkd⟩, hlow⟩ := hex
   have hmem : k ∈ Region.ready .any ops.toArray listed := by
    rw [mem_ready]
    have hlt' : k < listed.size := by omega
    have hun : ¬ listed.getD k false = true := fun h => hkd ((hl k hk).1 h)
    refine ⟨by simp [hlt'] at hun ⊢; exact hun, ops[k], by simp [hk], fun e he hbe => ?_⟩
    have hbk := List.all_eq_true.1 hb (ops[k], k) (by rw [List.mem_zipIdx_iff_getElem?]; exact List.getElem?_eq_getElem hk)
    have hbk := List.all_eq_true.1 hbk e (Array.mem_toList_iff.2 he)
    rw [hbe] at hbk
    simp at hbk
    have hne := hlow e.on hbk
    exact (hl _ (by omega)).2 (Classical.byContradiction fun hd => hne ⟨by omega, hd⟩)
   rw [hr] at hmem; cases hmem
  ·obtain ⟨r1, r2, r3⟩ := hrd j hj
   have hs := hs j r1
   have hjo : ops[j]? = some ops[j] := List.getElem?_eq_getElem r3
   rw [hjo] at hs
   obtain ⟨hg, hp, hrest⟩ := hs
   have hokO := hok ops[j] (List.getElem_mem r3)
   have hw : Region.wanted ops[j] (yielded ops.toArray a.tmps) = true := by simp [Region.wanted, hg]
   unfold wpOp
   simp only [List.getElem?_toArray, hjo]
   rw [if_pos hw]
   left
   refine (aDF hE hsim hokO hp).wp fun v w' c' ha => ?_
   refine aRD hE hok hK hb n (j :: done) (listed.setIfInBounds j true) (by simp [hsz]) (fun k hk => ?_) (by simp; omega) (List.nodup_cons.2 ⟨r2, hd⟩) (fun k hk => ?_) _ _ c' _ w' hrest (hsim.after hokO ha)
   ·by_cases e : j = k
    ·subst e
     have : j < listed.size := by omega
     simp [this]
    ·rw [getD_set_ne false e, hl k hk]
     constructor
     ·intro h; exact List.mem_cons_of_mem _ h
     ·intro h; exact (List.mem_cons.1 h).resolve_left (fun e' => e e'.symm)
   ·rcases List.mem_cons.1 hk with rfl | hk
    ·exact r3
    ·exact hlt k hk
theorem aG7 {F : Fr} {Q : Exit → Act → World → Prop} {env : St} {h : List Obj} (hF : iZ F) {id : Nat} {ops : Array Oper} (keep : List Nat) (env' : St) (h' : List Obj) (hb : aMv ops.toList = true)
  (hv : anyS F.E ops.toList (fun e o => keep.map (fun t => (t, look e t)) = env' ∧ o = h') ops.toList.length [] env h) (hk : At F (Q .normal) env' h') : Tri F (.region id ops true) Q env h := fun hok c a w hs => by
 simp only [fE, Bool.and_eq_true, Bool.or_eq_true, Bool.not_eq_true'] at hok
 obtain ⟨⟨h1, h2⟩, h3⟩ := hok
 refine wp_region_any hF.mix ?_
 have hlat : dN c w c { w with drawn := w.drawn + 1 } := ⟨.refl _, fun b hb => rfl⟩
 have hdr : Sim F.E F.M F.w0 F.nt F.ds c env h a { w with drawn := w.drawn + 1 } :=
  ⟨hs.good.step hlat rfl ⟨rfl, rfl, rfl, Nat.le_refl _, fun _ _ _ => rfl⟩ (fun _ _ _ _ _ => rfl) hs.good.sfin (fun _ hb => .inl hb), oD.mono (w := w) (w' := { w with drawn := w.drawn + 1 }) (fun _ hb => hb) hlat.same hs.glob, hs.env.keep hlat, hs.size, hs.defers⟩
 have := aRD (Q := Q) hF.env (List.all_eq_true.1 h1) (K := fun e o => keep.map (fun t => (t, look e t)) = env' ∧ o = h') (fun e o c a w hkk hs => by
  obtain ⟨rfl, rfl⟩ := hkk
  exact hk c a w (hs.keep keep)) hb ops.toList.length [] (Array.replicate ops.size false) (by simp) (fun k hk => by rw [sU]; simp) (by simp) List.nodup_nil (fun k hk => by cases hk) env h c a _ hv hdr
 simpa using this
def aRE (F : Fr) (Δ : FuncId → List AV → List Obj → Option Hit) (Q : Exit → Act → World → Prop) (keep sb : List Nat) (all pre tail : List Oper) (env : St) (h : List Obj) (acc : List Ent) : Prop :=
 aCn F.E Δ sb all tail (oF F.E.T (eP pre 0) (kW acc env) h).1 (oF F.E.T (eP pre 0) (kW acc env) h).2 (fun env h => At F (Q .normal) (keep.map fun t => (t, look env t)) h) (fun p env h => AtP F Q p env h)
theorem aBC {F : Fr} {Q : Exit → Act → World → Prop} {env : St} {h : List Obj} (hF : iZ F) {Δ : FuncId → List AV → List Obj → Option Hit} (hΔ : aEy F.P F.E.G Δ) {id : Nat} {ops : Array Oper} (n : Nat) (hst : (aJj (ops.toList.take n) && aAg (ops.toList.take n) && aDX (ops.toList.take n).length ops.toList) = true) (keep sb : List Nat)
  (hv : vcA F.E h env (ops.toList.take n) 0 [] (aRE F Δ Q keep sb ops.toList (ops.toList.take n) (ops.toList.drop n) env h)) : Tri F (.region id ops true) Q env h := fun hok c a w hs => by
 simp only [fE, Bool.and_eq_true, Bool.or_eq_true, Bool.not_eq_true'] at hok
 obtain ⟨⟨h1, h2⟩, h3⟩ := hok
 simp only [Bool.and_eq_true] at hst
 obtain ⟨⟨t1, t2⟩, t3⟩ := hst
 have e : ops.toList.take n ++ ops.toList.drop n = ops.toList := List.take_append_drop n ops.toList
 have := aMj (id := id) (pre := ops.toList.take n) (tail := ops.toList.drop n) (Q := Q) hF.env hF.mix (by rw [e]; exact List.all_eq_true.1 h1) t2 t1 (by rw [e]; exact t3) hs (K' := fun env h => aCn F.E Δ sb ops.toList (ops.toList.drop n) env h (fun env h => At F (Q .normal) (keep.map fun t => (t, look env t)) h) (fun p env h => AtP F Q p env h)) hv
  (fun env h c a w listed hsz hl hk hsim => by
   rw [e] at hsz hl ⊢
   exact aMu (K := fun env h => At F (Q .normal) (keep.map fun t => (t, look env t)) h) (Kp := fun p env h => AtP F Q p env h) hF.env hΔ (List.all_eq_true.1 h1) (fun env h c a w hk hs => hk c a w (hs.keep keep)) (fun p env h c a w u hk hs hr => hk c a w u hs hr) t3 (ops.toList.drop n).length (ops.toList.take n).length (by rw [← List.length_append, e]) (Nat.le_refl _) listed hsz hl env h c a w (by
    have e2 : ops.toList.drop (ops.toList.take n).length = ops.toList.drop n := by
     rw [List.length_take]
     rcases Nat.lt_or_ge n ops.toList.length with hh | hh
     ·rw [Nat.min_eq_left (Nat.le_of_lt hh)]
     ·rw [Nat.min_eq_right hh, List.drop_eq_nil_of_le (Nat.le_refl _), List.drop_eq_nil_of_le hh]
    rw [e2]; exact hk) hsim)
 rw [e] at this
 simpa using this
theorem aJG {f : FuncId} {fn : Func} {body : Code} {a : Ty} {r : RK} {m : a.den → Option r.ty.den} (hE : gA P E) (hf : P.funcs[f]? = some fn) (hb : fn.body = some body) (hok : fE fn.ntmps body = true) (hn : aG5 a ≤ fn.ntmps)
  (ht : ∀ (w0 : World) (S : Nat → Prop) (x : a.den) (y : r.ty.den), a.wf x → m x = some y → Tri (fr P E S w0 fn.ntmps) body (aRy P fn S w0 r y) (cC a x 0) []) : FOK P E.G f (mSpec a r m) :=
 aWj hE hf hb hok hn fun w0 S x hw hp => by
  have hp : (m x).isSome = true := hp
  obtain ⟨y, hy⟩ := Option.isSome_iff_exists.1 hp
  have e : (mSpec a r m).fn x = y := by show (m x).getD r.ty.zero = y; rw [hy]; rfl
  rw [e]
  exact ht w0 S x y hw hy
def aP8 : AV → Bool
 | .val _ _ => true
 | .tup vs => vs.all fun v => match v with | .val _ _ => true | _ => false
 | _ => false
theorem aSG {c : Ctx} {w : World} {σ : List Nat} {v : AV} {x : Value} (hp : aP8 v = true) (hv : aP c w v x) : aP (c.ren σ) w v x := by
 cases v with
 | val t y => exact aIK (σ := σ) hv
 | tup vs =>
  obtain ⟨xs, e, hl, hi⟩ := hv
  refine ⟨xs, e, hl, fun i h1 h2 => ?_⟩
  have hq := List.all_eq_true.1 hp vs[i] (List.getElem_mem h1)
  have := hi i h1 h2
  revert hq this
  generalize vs[i] = u
  intro hq this
  cases u <;> first | exact this | (simp at hq; done)
 | _ => simp [aP8] at hp
theorem aCO {F : Fr} {fn : Func} {sp : mY} {c0 : Ctx} {d : sp.D} {env : St} {h h' : List Obj} {v : AV} (hF : iZ F) (l : List ResultVar) (σ : List Nat) (hM : F.M = GM sp c0 d) (hds : F.ds = []) (hr : fn.results = l.toArray) (hnd : tU σ = true) (hpr : preB F.M.m σ = true) (hout : sp.out d = .ret v h') (hh : (σ.map fun i => oE σ (h.getD i .dead)) = h') (hfl : (match v with | .tup vs => vs.all aT2 | _ => true) = true) (hpl : aP8 v = true) (hy : (bA F.E.T h env l).1 ∧ zU h v (bA F.E.T h env l).2) :
  At F (bodyPost F.P fn (aGe sp c0 F.w0 d) .ret) env h := fun c a w hs => by
 subst hh
 obtain ⟨us, q1, q2, q3⟩ := aBz (P := F.P) hF.env.T hs.good hs.env hr hy.1
 refine ⟨hs.defers.trans hds, aDV us, q1, c.ren σ, ?_⟩
 rw [hout]
 refine ⟨aDV us, rfl, by rw [← hM]; exact hs.good.ren hnd hpr, aSG hpl ?_⟩
 have hy2 := hy.2
 generalize (bA F.E.T h env l).2 = rs at q2 q3 hy2
 cases v with
 | tup vs =>
  obtain ⟨h1, h2⟩ := hy2
  obtain ⟨k1, k2⟩ := aNd hs.good h2 q2 q3
  refine ⟨us, ?_, k1, fun i p1 p2 => ?_⟩
  ·match us, q2 with
   | [], _ => rfl
   | [x], q2 => exact absurd q2.symm h1
   | a :: b :: r, _ => rfl
  ·have hfi := List.all_eq_true.1 hfl vs[i] (List.getElem_mem p1)
   exact aRv (k2 i p1 p2).1 (k2 i p1 p2).2 (fun l e => by rw [e] at hfi; cases hfi) (fun e => by rw [e] at hfi; cases hfi)
 | _ =>
  match rs, hy2 with
  | [u], hy2 =>
   match us, q2 with
   | [x], _ => exact aII hs.good hy2 (q3 0 (by simp) (by simp))
theorem tX {F : Fr} {fn : Func} {R : Ending → World → Prop} {env : St} {h : List Obj} (hk : At F (bodyPost F.P fn R .ret) env h) : At F (bodyPost F.P fn R .normal) env h := hk
end
attribute [go_sem] aT6 rpV
end Go.Vc
namespace Go.Vc
open Go.RowKit
theorem aT7 (n : Nat) : ((no_index (OfNat.ofNat n) : Nat) : Int) = OfNat.ofNat n := rfl
def sat {α : Type} (o : Option α) (Θ : α → Prop) : Prop := ∃ x, o = some x ∧ Θ x
section
variable {α β : Type} {p : Prop} [Decidable p] {k x y : Option α} {Θ : α → Prop} {a : α}
theorem aM (h : sat (ck p k) Θ) : p ∧ sat k Θ := by
 obtain ⟨z, h1, h2⟩ := h
 obtain ⟨hp, hk⟩ := aH h1
 exact ⟨hp, z, hk, h2⟩
theorem hZ (hp : p) (h : sat (if p then x else y) Θ) : sat x Θ := by rwa [if_pos hp] at h
theorem iA (hp : ¬ p) (h : sat (if p then x else y) Θ) : sat y Θ := by rwa [if_neg hp] at h
theorem aN {G : Prop} (h : sat (ck p k) Θ) (hg : p → sat k Θ → G) : p ∧ G := ⟨(aM h).1, hg (aM h).1 (aM h).2⟩
theorem iL {G1 G2 : Prop} (h : sat (if p then x else y) Θ) (h1 : p → sat x Θ → G1) (h2 : ¬ p → sat y Θ → G2) : (p → G1) ∧ (¬ p → G2) := ⟨fun c => h1 c (hZ c h), fun c => h2 c (iA c h)⟩
theorem jZ {G1 G2 : Prop} {m n : Int} (h : sat (if m < n then x else y) Θ) (h1 : m < n → sat x Θ → G1) (h2 : n ≤ m → sat y Θ → G2) : (m < n → G1) ∧ (n ≤ m → G2) := ⟨fun c => h1 c (hZ c h), fun c => h2 c (iA (Int.not_lt.2 c) h)⟩
theorem aP9 {G1 G2 : Prop} {m n : Int} (h : sat (if m ≤ n then x else y) Θ) (h1 : m ≤ n → sat x Θ → G1) (h2 : n < m → sat y Θ → G2) : (m ≤ n → G1) ∧ (n < m → G2) := ⟨fun c => h1 c (hZ c h), fun c => h2 c (iA (Int.not_le.2 c) h)⟩
theorem aJH {G1 G2 : Prop} {b : Bool} (h : sat (if b = true then x else y) Θ) (h1 : b = true → sat x Θ → G1) (h2 : ¬ b = true → sat y Θ → G2) : (b = true → G1) ∧ (¬ b = true → G2) := iL h h1 h2
theorem aQa {G1 G2 : Prop} {b : Bool} (h : sat (if ¬ b = true then x else y) Θ) (h1 : b = false → sat x Θ → G1) (h2 : ¬ b = false → sat y Θ → G2) : (b = false → G1) ∧ (¬ b = false → G2) :=
 ⟨fun c => h1 c (hZ (by rw [c]; decide) h), fun c => h2 c (iA (fun n => c (by simpa using n)) h)⟩
theorem aF (h : sat (some a) Θ) : Θ a := by
 obtain ⟨z, h1, h2⟩ := h
 cases h1; exact h2
theorem aCP {P : Prop} (h : sat none Θ) : P := by
 obtain ⟨z, h1, h2⟩ := h
 cases h1
theorem cY {o : Option β} {f : β → Option α} (h : sat (o.bind f) Θ) : ∃ z, o = some z ∧ sat (f z) Θ := by
 obtain ⟨r, h1, h2⟩ := h
 cases o with
 | none => cases h1
 | some z => exact ⟨z, rfl, r, h1, h2⟩
end
inductive Pl where
 | A (keep : List Nat)
 | B (keep : List Nat)
 | C (n : Nat) (keep : List Nat)
 | stop
structure PlR where
 reg : List (Nat × Pl)
 stops : List (Nat × Nat)
def aWn : List (Nat × Pl) → Nat → Pl
 | [], _ => .stop
 | (i, p) :: r, id => match decide (i = id) with
  | true => p
  | false => aWn r id
def first : Code → Nat
 | .region id _ _ => id + 3
 | .seq x _ => first x
 | .block _ x => first x
 | .loop x => first x
 | .scope x => first x
 | .skip => 1
 | .label _ => 1
 | .ret => 0
 | _ => 2
def aOE : List (Nat × Nat) → Code → Code → Bool
 | [], _, _ => false
 | (a, b) :: r, x, y => match decide (a = first x) with
  | true => match decide (b = first y) with
   | true => true
   | false => aOE r x y
  | false => aOE r x y
def aXS (V : St → List Obj → Prop) (K : Exit → St → List Obj → Prop) : Exit → St → List Obj → Prop := fun e env h => match e with
 | .normal => V env h
 | e => K e env h
def aWo (id : Nat) (K : Exit → St → List Obj → Prop) : Exit → St → List Obj → Prop := fun e env h => match e with
 | .normal => K .normal env h
 | .exit j => match decide (j = id) with
  | true => K .normal env h
  | false => K (.exit j) env h
 | .ret => K .ret env h
 | _ => False
def aYu (K : Exit → St → List Obj → Prop) : Exit → St → List Obj → Prop := fun e env h => match e with
 | .normal => K .normal env h
 | .exit j => K (.exit j) env h
 | .ret => K .ret env h
 | _ => False
def vcC (F : Fr) (p : PlR) : Code → (Exit → St → List Obj → Prop) → (Exit → Act → World → Prop) → St → List Obj → Prop
 | .skip, K, _, env, h => K .normal env h
 | .label _, K, _, env, h => K .normal env h
 | .exit id, K, _, env, h => K (.exit id) env h
 | .ret, K, _, env, h => K .ret env h
 | .seq x y, K, Q, env, h => match aOE p.stops x y with
  | true => Tri F (.seq x y) Q env h
  | false => vcC F p x (aXS (vcC F p y K Q) K) (Exit.then (Next F y Q) Q) env h
 | .cond o x y, K, Q, env, h => match evA F.E.G env o with
  | .val .bool b => (b = true → vcC F p x K Q env h) ∧ (¬ b = true → vcC F p y K Q env h)
  | _ => False
 | .block id x, K, Q, env, h => vcC F p x (aWo id K) (Exit.inBlock id Q) env h
 | .scope x, K, Q, env, h => vcC F p x (aYu K) (Exit.noGoto Q) env h
 | .region id ops draw, K, Q, env, h => match aWn p.reg id with
  | .A keep => vcA F.E h env ops.toList 0 [] (fun acc => K .normal (aHR keep acc env) h)
  | .B keep => draw = false ∧ pY F.E ops.toList ops.toList env h (fun env h => K .normal (keep.map fun t => (t, look env t)) h)
  | .C n keep => (draw = true ∧ (aJj (ops.toList.take n) && aAg (ops.toList.take n) && aDX (ops.toList.take n).length ops.toList) = true) ∧
    vcA F.E h env (ops.toList.take n) 0 [] (fun acc => pY F.E ops.toList (ops.toList.drop n) (oF F.E.T (eP (ops.toList.take n) 0) (kW acc env) h).1 (oF F.E.T (eP (ops.toList.take n) 0) (kW acc env) h).2 (fun env h => K .normal (keep.map fun t => (t, look env t)) h))
  | .stop => Tri F (.region id ops draw) Q env h
 | c, _, Q, env, h => Tri F c Q env h
section
variable {F : Fr} {p : PlR}
theorem aRF (hF : iZ F) {K : Exit → St → List Obj → Prop} {Q : Exit → Act → World → Prop} (hK : ∀ e env h, K e env h → At F (Q e) env h) {id : Nat} {ops : Array Oper} {draw : Bool} {keep : List Nat} {env : St} {h : List Obj}
  (hv : vcA F.E h env ops.toList 0 [] (fun acc => K .normal (aHR keep acc env) h)) : Tri F (.region id ops draw) Q env h := fun hok c a w hs => by
 simp only [fE, Bool.and_eq_true, Bool.or_eq_true, Bool.not_eq_true'] at hok
 obtain ⟨⟨h1, h2⟩, h3⟩ := hok
 have hfin : ∀ acc c' a' w', K .normal (aHR keep acc env) h → dN c w c' w' → c'.n = c.n → Sim F.E F.M F.w0 F.nt F.ds c' (kW acc env) h a' w' → Q .normal a' w' := fun acc c' a' w' hk _ _ hs' => by
  have := hs'.keep keep
  refine hK _ _ _ hk c' a' w' ?_
  have e : aHR keep acc env = keep.map fun t => (t, look (kW acc env) t) := by
   simp only [aHR, aOo]
  rw [e]; exact this
 cases draw with
 | false => exact aOl (ops := ops.toList) hF.env (List.all_eq_true.1 h1) h2 hs hv hfin
 | true => exact aE8 (ops := ops.toList) hF.env hF.mix (List.all_eq_true.1 h1) h2 (h3.resolve_left (by simp)) hs hv hfin
theorem aRG (hF : iZ F) {K : Exit → St → List Obj → Prop} {Q : Exit → Act → World → Prop} (hK : ∀ e env h, K e env h → At F (Q e) env h) {id : Nat} {ops : Array Oper} {keep : List Nat} {env : St} {h : List Obj}
  (hv : pY F.E ops.toList ops.toList env h (fun env h => K .normal (keep.map fun t => (t, look env t)) h)) : Tri F (.region id ops false) Q env h := fun hok c a w hs => by
 simp only [fE, Bool.and_eq_true, Bool.or_eq_true, Bool.not_eq_true'] at hok
 obtain ⟨⟨h1, h2⟩, h3⟩ := hok
 refine wp_region ?_
 have := aFb (Q := Q) hF.env (List.all_eq_true.1 h1) (K := fun env h => K .normal (keep.map fun t => (t, look env t)) h) (fun env h c a w hk hs => hK _ _ _ hk c a w (hs.keep keep)) ops.toList.length 0 (by simp) env h c a w (by simpa using hv) hs
 simpa [List.range_eq_range'] using this
theorem aWp (hF : iZ F) {K : Exit → St → List Obj → Prop} {Q : Exit → Act → World → Prop} (hK : ∀ e env h, K e env h → At F (Q e) env h) {id : Nat} {ops : Array Oper} (n : Nat) (hst : (aJj (ops.toList.take n) && aAg (ops.toList.take n) && aDX (ops.toList.take n).length ops.toList) = true) {keep : List Nat} {env : St} {h : List Obj}
  (hv : vcA F.E h env (ops.toList.take n) 0 [] (fun acc => pY F.E ops.toList (ops.toList.drop n) (oF F.E.T (eP (ops.toList.take n) 0) (kW acc env) h).1 (oF F.E.T (eP (ops.toList.take n) 0) (kW acc env) h).2 (fun env h => K .normal (keep.map fun t => (t, look env t)) h))) :
  Tri F (.region id ops true) Q env h := fun hok c a w hs => by
 simp only [fE, Bool.and_eq_true, Bool.or_eq_true, Bool.not_eq_true'] at hok
 obtain ⟨⟨h1, h2⟩, h3⟩ := hok
 simp only [Bool.and_eq_true] at hst
 obtain ⟨⟨t1, t2⟩, t3⟩ := hst
 have e : ops.toList.take n ++ ops.toList.drop n = ops.toList := List.take_append_drop n ops.toList
 have := aTS (id := id) (pre := ops.toList.take n) (tail := ops.toList.drop n) (Q := Q) hF.env hF.mix (by rw [e]; exact List.all_eq_true.1 h1) t2 t1 (by rw [e]; exact t3) hs (K' := fun env h => K .normal (keep.map fun t => (t, look env t)) h) (by rw [e]; exact hv) (fun env h c a w hk hs => hK _ _ _ hk c a w (hs.keep keep))
 rw [e] at this
 simpa using this
theorem aCQ (hF : iZ F) : ∀ (c : Code) (K : Exit → St → List Obj → Prop) (Q : Exit → Act → World → Prop), (∀ e env h, K e env h → At F (Q e) env h) → ∀ env h, vcC F p c K Q env h → Tri F c Q env h
 | .skip, K, Q, hK, env, h, hv => bR (hK _ _ _ hv)
 | .label _, K, Q, hK, env, h, hv => aSv (hK _ _ _ hv)
 | .exit _, K, Q, hK, env, h, hv => kN (hK _ _ _ hv)
 | .ret, K, Q, hK, env, h, hv => dD (hK _ _ _ hv)
 | .seq x y, K, Q, hK, env, h, hv => by
  unfold vcC at hv
  split at hv
  ·exact hv
  ·refine aC (aCQ hF x _ _ (fun e env h hk => ?_) env h hv)
   cases e with
   | normal => exact aD (aCQ hF y K Q hK env h hk)
   | _ => exact hK _ env h hk
 | .cond o x y, K, Q, hK, env, h, hv => by
  unfold vcC at hv
  split at hv
  ·rename_i b hb
   exact bG hb (fun e => aCQ hF x K Q hK env h (hv.1 e)) (fun e => aCQ hF y K Q hK env h (hv.2 (by rw [e]; decide)))
  ·exact hv.elim
 | .block id x, K, Q, hK, env, h, hv => by
  refine dO (aCQ hF x _ _ (fun e env h hk => ?_) env h hv)
  cases e with
  | normal => exact hK .normal env h hk
  | ret => exact hK .ret env h hk
  | exit j =>
   simp only [aWo] at hk
   split at hk
   ·rename_i hd
    obtain rfl := of_decide_eq_true hd
    exact dA (hK .normal env h hk)
   ·rename_i hd
    exact jJ (of_decide_eq_false hd) (hK (.exit j) env h hk)
  | _ => exact hk.elim
 | .scope x, K, Q, hK, env, h, hv => by
  refine aSB (aCQ hF x _ _ (fun e env h hk => ?_) env h hv)
  cases e with
  | normal => exact hK .normal env h hk
  | ret => exact hK .ret env h hk
  | exit j => exact hK (.exit j) env h hk
  | _ => exact hk.elim
 | .region id ops draw, K, Q, hK, env, h, hv => by
  unfold vcC at hv
  split at hv
  ·exact aRF hF hK hv
  ·obtain ⟨rfl, hv⟩ := hv; exact aRG hF hK hv
  ·obtain ⟨⟨rfl, hst⟩, hv⟩ := hv; exact aWp hF hK _ hst hv
  ·exact hv
 | .loop x, K, Q, hK, env, h, hv => hv
 | .rangeFunc _ _ _ _, K, Q, hK, env, h, hv => hv
 | .goto _, K, Q, hK, env, h, hv => hv
 | .refuse _, K, Q, hK, env, h, hv => hv
end
inductive Kt where
 | fin (Q : Exit → Act → World → Prop)
 | seq (y : Code) (k : Kt)
 | blk (id : Nat) (k : Kt)
 | scp (k : Kt)
 | stp (K : Act → World → Prop) (k : Kt)
def aDL (F : Fr) : Kt → Exit → Act → World → Prop
 | .fin Q => Q
 | .seq y k => Exit.then (Next F y (aDL F k)) (aDL F k)
 | .blk id k => Exit.inBlock id (aDL F k)
 | .scp k => Exit.noGoto (aDL F k)
 | .stp K k => Exit.then K (aDL F k)
def den (F : Fr) (p : PlR) : Kt → Exit → St → List Obj → Prop
 | .fin Q => fun e env h => At F (Q e) env h
 | .seq y k => aXS (vcC F p y (den F p k) (aDL F k)) (den F p k)
 | .blk id k => aWo id (den F p k)
 | .scp k => aYu (den F p k)
 | .stp K k => aXS (fun env h => At F K env h) (den F p k)
def vcT (F : Fr) (p : PlR) (c : Code) (k : Kt) (env : St) (h : List Obj) : Prop := vcC F p c (den F p k) (aDL F k) env h
section
variable {F : Fr} {p : PlR} {k : Kt} {env : St} {h : List Obj}
theorem vJ (hF : iZ F) : ∀ (k : Kt) (e : Exit) (env : St) (h : List Obj), den F p k e env h → At F (aDL F k e) env h
 | .fin Q, e, env, h, hk => hk
 | .seq y k, e, env, h, hk => by
  cases e with
  | normal => exact aD (aCQ hF y _ _ (vJ hF k) env h hk)
  | _ => exact vJ hF k _ env h hk
 | .blk id k, e, env, h, hk => by
  cases e with
  | normal => exact vJ hF k .normal env h hk
  | ret => exact vJ hF k .ret env h hk
  | exit j =>
   simp only [den, aWo] at hk
   split at hk
   ·rename_i hd
    obtain rfl := of_decide_eq_true hd
    exact dA (vJ hF k .normal env h hk)
   ·rename_i hd
    exact jJ (of_decide_eq_false hd) (vJ hF k (.exit j) env h hk)
  | _ => exact hk.elim
 | .scp k, e, env, h, hk => by
  cases e with
  | normal => exact vJ hF k .normal env h hk
  | ret => exact vJ hF k .ret env h hk
  | exit j => exact vJ hF k (.exit j) env h hk
  | _ => exact hk.elim
 | .stp K k, e, env, h, hk => by
  cases e with
  | normal => exact hk
  | _ => exact vJ hF k _ env h hk
theorem aNf (hF : iZ F) {c : Code} (hv : vcT F p c k env h) : Tri F c (aDL F k) env h := aCQ hF c _ _ (vJ hF k) env h hv
theorem aT8 : vcT F p .skip k env h = den F p k .normal env h := propext Iff.rfl
theorem aSH {l : Nat} : vcT F p (.label l) k env h = den F p k .normal env h := propext Iff.rfl
theorem aT9 {id : Nat} : vcT F p (.exit id) k env h = den F p k (.exit id) env h := propext Iff.rfl
theorem aWq : vcT F p .ret k env h = den F p k .ret env h := propext Iff.rfl
theorem aWr {x y : Code} : vcT F p (.seq x y) k env h = match aOE p.stops x y with
  | true => Tri F (.seq x y) (aDL F k) env h
  | false => vcT F p x (.seq y k) env h := propext Iff.rfl
theorem aUa {o : Operand} {x y : Code} : vcT F p (.cond o x y) k env h = match evA F.E.G env o with
  | .val .bool b => (b = true → vcT F p x k env h) ∧ (¬ b = true → vcT F p y k env h)
  | _ => False := propext Iff.rfl
theorem aSI {id : Nat} {x : Code} : vcT F p (.block id x) k env h = vcT F p x (.blk id k) env h := propext Iff.rfl
theorem aSJ {x : Code} : vcT F p (.scope x) k env h = vcT F p x (.scp k) env h := propext Iff.rfl
theorem aUb {x : Code} : vcT F p (.loop x) k env h = Tri F (.loop x) (aDL F k) env h := propext Iff.rfl
theorem aQb {id : Nat} {ops : Array Oper} {draw : Bool} : vcT F p (.region id ops draw) k env h = match aWn p.reg id with
  | .A keep => vcA F.E h env ops.toList 0 [] (fun acc => den F p k .normal (aHR keep acc env) h)
  | .B keep => draw = false ∧ pY F.E ops.toList ops.toList env h (fun env h => den F p k .normal (keep.map fun t => (t, look env t)) h)
  | .C n keep => (draw = true ∧ (aJj (ops.toList.take n) && aAg (ops.toList.take n) && aDX (ops.toList.take n).length ops.toList) = true) ∧
    vcA F.E h env (ops.toList.take n) 0 [] (fun acc => pY F.E ops.toList (ops.toList.drop n) (oF F.E.T (eP (ops.toList.take n) 0) (kW acc env) h).1 (oF F.E.T (eP (ops.toList.take n) 0) (kW acc env) h).2 (fun env h => den F p k .normal (keep.map fun t => (t, look env t)) h))
  | .stop => Tri F (.region id ops draw) (aDL F k) env h := propext Iff.rfl
theorem aWs {Q : Exit → Act → World → Prop} {e : Exit} : den F p (.fin Q) e env h = At F (Q e) env h := propext Iff.rfl
theorem aUc {y : Code} : den F p (.seq y k) .normal env h = vcT F p y k env h := propext Iff.rfl
theorem aUd {y : Code} {id : Nat} : den F p (.seq y k) (.exit id) env h = den F p k (.exit id) env h := propext Iff.rfl
theorem aUe {y : Code} : den F p (.seq y k) .ret env h = den F p k .ret env h := propext Iff.rfl
theorem aUf {id : Nat} : den F p (.blk id k) .normal env h = den F p k .normal env h := propext Iff.rfl
theorem aUg {id j : Nat} : den F p (.blk id k) (.exit j) env h = match decide (j = id) with
  | true => den F p k .normal env h
  | false => den F p k (.exit j) env h := propext Iff.rfl
theorem aUh {id : Nat} : den F p (.blk id k) .ret env h = den F p k .ret env h := propext Iff.rfl
theorem aUi : den F p (.scp k) .normal env h = den F p k .normal env h := propext Iff.rfl
theorem aUj {j : Nat} : den F p (.scp k) (.exit j) env h = den F p k (.exit j) env h := propext Iff.rfl
theorem aUk : den F p (.scp k) .ret env h = den F p k .ret env h := propext Iff.rfl
theorem aUl {K : Act → World → Prop} : den F p (.stp K k) .normal env h = At F K env h := propext Iff.rfl
theorem aUm {K : Act → World → Prop} {j : Nat} : den F p (.stp K k) (.exit j) env h = den F p k (.exit j) env h := propext Iff.rfl
theorem aUn {K : Act → World → Prop} : den F p (.stp K k) .ret env h = den F p k .ret env h := propext Iff.rfl
theorem aWt {E : Env} {i : Nat} {acc : List Ent} {K : List Ent → Prop} : vcA E h env [] i acc K = K acc := propext Iff.rfl
theorem aUo {E : Env} {o : Oper} {r : List Oper} {i : Nat} {acc : List Ent} {K : List Ent → Prop} : vcA E h env (o :: r) i acc K = match o.dst, opA E h env acc o with
  | some d, (p, v) => aAf acc o.guard ∧ (fC acc (yV acc o.guard) → p) ∧ vcA E h env r (i + 1) (⟨i, d, yV acc o.guard, v⟩ :: acc) K
  | none, _ => False := propext (by rw [vcA]; exact Iff.rfl)
theorem aUp {E : Env} {all : List Oper} {K : St → List Obj → Prop} : pY E all [] env h K = K env h := propext Iff.rfl
theorem aSK {E : Env} {all : List Oper} {o : Oper} {r : List Oper} {K : St → List Obj → Prop} : pY E all (o :: r) env h K = match o.guard with
  | none => match tT E env h o with
   | (p, v, h') => p ∧ pY E all r (tI o.dst v env) h' K
  | some (j, pol) => match aDW all j with
   | some dj => match look env dj with
    | .val .bool b => (b = pol → match tT E env h o with
      | (p, v, h') => p ∧ pY E all r (tI o.dst v env) h' K) ∧ (b = !pol → pY E all r (tI o.dst .undef env) h K)
    | .undef => pY E all r (tI o.dst .undef env) h K
    | _ => False
   | none => False := propext (by rw [pY] <;> exact Iff.rfl)
def VOK (F : Fr) (p : PlR) : Prop := iZ F
theorem eC (hF : VOK F p) {x y : Code} {D : Type} (J : D → Prop) (keep : List Nat) (uE : D → St) (uO : D → List (Nat ⊕ Obj))
  (hx : vcT F p x (.stp (fun a' w' => ∃ d' c', J d' ∧ Sim F.E F.M F.w0 F.nt F.ds c' (aEw env keep (uE d')) (qH h (uO d')) a' w') k) env h)
  (hy : ∀ d, J d → vcT F p y k (aEw env keep (uE d)) (qH h (uO d))) : Tri F (.seq x y) (aDL F k) env h :=
 aOq J (fun d => aEw env keep (uE d)) (fun d => qH h (uO d)) (aNf hF hx) (fun d hd => aNf hF (hy d hd))
theorem dP (hF : VOK F p) {x : Code} {D E R : Type} {G : Md} {step : D → Option (D ⊕ E)} {kk : E → Option R} {Θ : R → Prop} {d0 : D} (keep : List Nat) (uE : D → St) (uO : D → List (Nat ⊕ Obj))
  (hd : sat ((aAj G step d0).bind kk) Θ) (hh : h = qH h (uO d0)) (hf : jA h env (aEw env keep (uE d0)))
  (round : ∀ d (A : D → Prop) (B : D ⊕ E → Prop), (∀ x, B (.inl x) → A x) → (∀ e, B (.inr e) → sat (kk e) Θ) → sat (step d) B → vcT F p x (.stp (fun a' w' => ∃ d' c', A d' ∧ Sim F.E F.M F.w0 F.nt F.ds c' (aEw env keep (uE d')) (qH h (uO d')) a' w') k) (aEw env keep (uE d)) (qH h (uO d))) : Tri F (.loop x) (aDL F k) env h := by
 obtain ⟨r, hr, hΘ⟩ := hd
 refine aOp (fun d => (aAj G step d).bind kk = some r) (aBB step) (fun d => aEw env keep (uE d)) (fun d => qH h (uO d)) (aX d0 hr hh hf) fun d hi => ?_
 obtain ⟨s, h1, h2⟩ := aJD hi
 refine aNf hF (k := .stp _ k) (round d (fun d' => (aAj G step d').bind kk = some r ∧ aBB step d' < aBB step d) (rN (fun d' => (aAj G step d').bind kk = some r ∧ aBB step d' < aBB step d) (fun e => kk e = some r)) (fun _ hx => hx) (fun e he => ⟨r, he, hΘ⟩) ⟨s, h1, h2⟩)
theorem dS (hF : VOK F p) {id : Nat} {ops : Array Oper} {draw : Bool} (keep : List Nat) (hv : vcA F.E h env ops.toList 0 [] (fun acc => den F p k .normal (aHR keep acc env) h)) : Tri F (.region id ops draw) (aDL F k) env h :=
 aRF hF (vJ hF k) hv
theorem aNg (hF : VOK F p) {id : Nat} {ops : Array Oper} (keep : List Nat) (hv : pY F.E ops.toList ops.toList env h (fun env h => den F p k .normal (keep.map fun t => (t, look env t)) h)) : Tri F (.region id ops false) (aDL F k) env h :=
 aRG hF (vJ hF k) hv
def aXp (P : Program) (fn : Func) (S : Nat → Prop) (w0 : World) (r : RK) (Θ : r.ty.den → Prop) : Exit → Act → World → Prop := fun e a w => ∃ y, Θ y ∧ post P fn S w0 r y e a w
theorem aK {F : Fr} {fn : Func} {S : Nat → Prop} {r : RK} {Θ : r.ty.den → Prop} {env : St} {h : List Obj} (hF : iZ F) (l : List ResultVar) (hM : F.M = top S) (hds : F.ds = []) (hr : fn.results = l.toArray) {y : r.ty.den} (hy : Θ y) (hq : (bA F.E.T h env l).1 ∧ iH h r y (bA F.E.T h env l).2) : At F (aXp F.P fn S F.w0 r Θ .ret) env h :=
 fun c a w hs => ⟨y, hy, fD hF l hM hds hr hq c a w hs⟩
theorem bZ {P : Program} {E : Env} {f : FuncId} {fn : Func} {body : Code} {a : Ty} {r : RK} {m : a.den → Option r.ty.den} (hE : gA P E) (hm : P.follows .mixedOrders = true) (hf : P.funcs[f]? = some fn) (hb : fn.body = some body) (hok : fE fn.ntmps body = true) (hn : aG5 a ≤ fn.ntmps) (p : PlR)
  (ht : ∀ (w0 : World) (S : Nat → Prop) (x : a.den) (Θ : r.ty.den → Prop), a.wf x → sat (m x) Θ → VOK (fr P E S w0 fn.ntmps) p → vcT (fr P E S w0 fn.ntmps) p body (.fin (aXp P fn S w0 r Θ)) (cC a x 0) []) : FOK P E.G f (mSpec a r m) :=
 pS hE hf hb hok hn fun w0 S x y hw hx => by
  have hF : iZ (fr P E S w0 fn.ntmps) := ⟨hE, hm⟩
  have := aNf hF (ht w0 S x (fun z => z = y) hw ⟨y, hx, rfl⟩ hF)
  intro hok c a w hs
  refine wp_mono (this hok c a w hs) fun e a' w' hq => ?_
  obtain ⟨z, rfl, hz⟩ := hq
  exact hz
end
attribute [go_sem ↓] aT8 aSH aT9 aWq aWr aUa aSI aSJ aUb aQb
attribute [go_sem ↓] aWs aUc aUd aUe aUf aUg aUh aUi aUj aUk aUl aUm aUn
attribute [go_sem ↓] aWt aUo aUp aSK
attribute [go_sem] aWn first aOE jA fL iH eq_self aT7
end Go.Vc
namespace Go.Vc
open Go.RowKit
end Go.Vc
namespace Go.Vc
open Go.RowKit
def bitsOf (n : Nat) (done : List Nat) : List Bool := (List.range n).map fun i => done.contains i
def aSL (ops : List Oper) (bs : List Bool) : List Nat := (List.range ops.length).filter fun i => !bs.getD i false && (match ops[i]? with
 | some o => o.after.toList.all fun e => !Region.binds .any e || bs.getD e.on false
 | none => false)
theorem aMw {n : Nat} {done : List Nat} {i : Nat} (hi : i < n) : (bitsOf n done).getD i false = done.contains i := by
 simp [bitsOf, List.getD_eq_getElem?_getD, hi]
theorem aUq {n : Nat} {done : List Nat} {i : Nat} (hi : i < n) : (bitsOf n done).set i true = bitsOf n (i :: done) := by
 apply List.ext_getElem
 ·simp [bitsOf]
 ·intro k h1 h2
  simp only [bitsOf, List.length_set, List.length_map, List.length_range] at h1
  rw [List.getElem_set]
  by_cases e : i = k
  ·subst e; simp [bitsOf]
  ·simp only [e, if_false, bitsOf, List.getElem_map, List.getElem_range, List.contains_cons]
   have : (k == i) = false := by simpa using fun h => e h.symm
   rw [this, Bool.false_or]
theorem aUr {ops : List Oper} (hb : aMv ops = true) {done : List Nat} {i : Nat} (hi : i ∈ aEA ops done) : i ∈ aSL ops (bitsOf ops.length done) := by
 simp only [aEA, List.mem_filter, List.mem_range, Bool.and_eq_true] at hi
 obtain ⟨h1, h2, h3⟩ := hi
 simp only [aSL, List.mem_filter, List.mem_range, Bool.and_eq_true]
 refine ⟨h1, by rw [aMw h1]; exact h2, ?_⟩
 rw [List.getElem?_eq_getElem h1] at h3 ⊢
 simp only [List.all_eq_true, Bool.or_eq_true] at h3 ⊢
 intro e he
 rcases h3 e he with h | h
 ·exact .inl h
 ·rcases Bool.eq_false_or_eq_true (Region.binds .any e) with hbe | hbe
  ·right
   have hbk := List.all_eq_true.1 hb (ops[i], i) (by rw [List.mem_zipIdx_iff_getElem?]; exact List.getElem?_eq_getElem h1)
   have hbk := List.all_eq_true.1 hbk e he
   rw [hbe] at hbk
   simp at hbk
   rw [aMw (by omega)]; exact h
  ·left; rw [hbe]; rfl
def aXT (F : Fr) (inv : List Bool → St × List Obj) (downs : List (List Bool)) (bs' : List Bool) (d : Option Nat) (env : St) (r : Prop × AV × List Obj) : Prop := match r with
 | (p, v, h') => p ∧ bs' ∈ downs ∧ ∃ σ, tU σ = true ∧ preB F.M.m σ = true ∧ ((inv bs').1.map fun q => (q.1, ren σ (look (tI d v env) q.1))) = (inv bs').1 ∧ (σ.map fun j => oE σ (h'.getD j .dead)) = (inv bs').2
theorem aUs {F : Fr} {inv : List Bool → St × List Obj} {downs : List (List Bool)} {bs' : List Bool} {d : Option Nat} {env : St} {r : Prop × AV × List Obj} (h : aXT F inv downs bs' d env r) :
  r.1 ∧ bs' ∈ downs ∧ ∃ σ, tU σ = true ∧ preB F.M.m σ = true ∧ ((inv bs').1.map fun q => (q.1, ren σ (look (tI d r.2.1 env) q.1))) = (inv bs').1 ∧ (σ.map fun j => oE σ (r.2.2.getD j .dead)) = (inv bs').2 := h
def stT (F : Fr) (ops : List Oper) (inv : List Bool → St × List Obj) (downs : List (List Bool)) (bs : List Bool) (i : Nat) : Prop :=
 match ops[i]? with
 | some o => o.guard = none ∧ aXT F inv downs (bs.set i true) o.dst (inv bs).1 (tT F.E (inv bs).1 (inv bs).2 o)
 | none => False
theorem aRH {F : Fr} {Q : Exit → Act → World → Prop} (hF : iZ F) {ops : List Oper} (hok : ∀ o ∈ ops, eM F.nt o = true) (hb : aMv ops = true) (inv : List Bool → St × List Obj) (downs : List (List Bool))
  (hst : ∀ bs ∈ downs, ∀ i ∈ aSL ops bs, stT F ops inv downs bs i) (hK : At F (Q .normal) (inv (bitsOf ops.length (List.range ops.length))).1 (inv (bitsOf ops.length (List.range ops.length))).2) :
  ∀ (n : Nat) (done : List Nat) (listed : Array Bool), listed.size = ops.length → (∀ k, k < ops.length → (listed.getD k false = true ↔ k ∈ done)) → done.length + n = ops.length → done.Nodup → (∀ k ∈ done, k < ops.length) → bitsOf ops.length done ∈ downs → ∀ (c : Ctx) (a : Act) (w : World), Sim F.E F.M F.w0 F.nt F.ds c (inv (bitsOf ops.length done)).1 (inv (bitsOf ops.length done)).2 a w → wpAny F.P .any ops.toArray Q n listed a w
 | 0, done, listed, hsz, hl, hn, hd, hlt, hdn, c, a, w, hsim => by
  have hsub : ∀ j, j < ops.length → j ∈ done := fun j hjl => (aFf hd (m := List.range ops.length) (fun k hk => List.mem_range.2 (hlt k hk))).2 (by simp; omega) j (List.mem_range.2 hjl)
  have e : bitsOf ops.length done = bitsOf ops.length (List.range ops.length) := by
   unfold bitsOf
   apply List.map_congr_left
   intro k hk
   have := hsub k (List.mem_range.1 hk)
   rw [Bool.eq_iff_iff]
   simpa [List.contains_iff_mem, this] using List.mem_range.1 hk
  refine ⟨?_, hK c a w (e ▸ hsim)⟩
  rw [List.eq_nil_iff_forall_not_mem]
  intro j hj
  obtain ⟨h1, o, ho, _⟩ := mem_ready.1 hj
  have ho : ops[j]? = some o := by simpa using ho
  have hjl := gK.get_lt' ho
  have := (hl j hjl).2 (hsub j hjl)
  have hlt' : j < listed.size := by omega
  simp [hlt'] at h1 this
  rw [this] at h1; cases h1
 | n + 1, done, listed, hsz, hl, hn, hd, hlt, hdn, c, a, w, hsim => by
  have hrd : ∀ j, j ∈ Region.ready .any ops.toArray listed → j ∈ aEA ops done ∧ j ∉ done ∧ j < ops.length := fun j hj => by
   obtain ⟨h1, o, ho, hall⟩ := mem_ready.1 hj
   have ho : ops[j]? = some o := by simpa using ho
   have hjl := gK.get_lt' ho
   have hlt' : j < listed.size := by omega
   have hnd : j ∉ done := fun hm => by
    have := (hl j hjl).2 hm
    simp [hlt'] at h1 this
    rw [this] at h1; cases h1
   refine ⟨?_, hnd, hjl⟩
   simp only [aEA, List.mem_filter, List.mem_range, ho, Bool.and_eq_true, Bool.not_eq_true', List.contains_eq_mem, decide_eq_false_iff_not, List.all_eq_true, Bool.or_eq_true, decide_eq_true_eq]
   refine ⟨hjl, hnd, fun e he => ?_⟩
   cases hbe : Region.binds .any e with
   | false => exact .inl rfl
   | true =>
    right
    have h5 := hall e (by simpa using he) hbe
    rcases Nat.lt_or_ge e.on ops.length with hh | hh
    ·exact (hl _ hh).1 h5
    ·simp [show ¬ e.on < listed.size by omega] at h5
  refine ⟨fun hr => ?_, fun j hj => ?_⟩
  ·exfalso
   have hex : ∃ k, (k < ops.length ∧ k ∉ done) ∧ ∀ j, j < k → ¬ (j < ops.length ∧ j ∉ done) := by
    have hex : ∃ k, k < ops.length ∧ k ∉ done := by
     apply Classical.byContradiction
     intro hc
     have hsub : List.range ops.length ⊆ done := fun k hk => Classical.byContradiction fun hk2 => hc ⟨k, List.mem_range.1 hk, hk2⟩
     have := (aFf (List.nodup_range (n := ops.length)) (fun k hk => hsub hk)).1
     simp at this
     omega
    obtain ⟨n, h1, h2⟩ := aCN hex
    exact ⟨n, h1, fun j hj hp => by have := h2 j hp; omega⟩
   obtain ⟨k, ⟨hk, hkd⟩, hlow⟩ := hex
   have hmem : k ∈ Region.ready .any ops.toArray listed := by
    rw [mem_ready]
    have hlt' : k < listed.size := by omega
    have hun : ¬ listed.getD k false = true := fun h => hkd ((hl k hk).1 h)
    refine ⟨by simp [hlt'] at hun ⊢; exact hun, ops[k], by simp [hk], fun e he hbe => ?_⟩
    have hbk := List.all_eq_true.1 hb (ops[k], k) (by rw [List.mem_zipIdx_iff_getElem?]; exact List.getElem?_eq_getElem hk)
    have hbk := List.all_eq_true.1 hbk e (Array.mem_toList_iff.2 he)
    rw [hbe] at hbk
    simp at hbk
    have hne := hlow e.on hbk
    exact (hl _ (by omega)).2 (Classical.byContradiction fun hd => hne ⟨by omega, hd⟩)
   rw [hr] at hmem; cases hmem
  ·obtain ⟨r1, r2, r3⟩ := hrd j hj
   have hs := hst _ hdn j (aUr hb r1)
   have hjo : ops[j]? = some ops[j] := List.getElem?_eq_getElem r3
   unfold stT at hs
   rw [hjo] at hs
   obtain ⟨hg, hs⟩ := hs
   obtain ⟨hp, hin, σ, s1, s2, s3, s4⟩ := aUs hs
   rw [aUq r3] at hin s3 s4
   have hokO := hok ops[j] (List.getElem_mem r3)
   have hw : Region.wanted ops[j] (yielded ops.toArray a.tmps) = true := by simp [Region.wanted, hg]
   unfold wpOp
   simp only [List.getElem?_toArray, hjo]
   rw [if_pos hw]
   left
   refine (aDF hF.env hsim hokO hp).wp fun v w' c' ha => ?_
   have hsim' := hsim.after hokO ha
   refine oN (F := F) (K := fun a w => wpAny F.P .any ops.toArray Q n (listed.setIfInBounds j true) a w) σ s1 s2 ?_ c' _ w' (hsim'.keep ((inv (bitsOf ops.length (j :: done))).1.map Prod.fst))
   rw [List.map_map, List.map_map, s4]
   have e2 : ((inv (bitsOf ops.length (j :: done))).1.map (((fun p : Nat × AV => (p.1, ren σ p.2)) ∘ fun t => (t, look (tI ops[j].dst (tT F.E (inv (bitsOf ops.length done)).1 (inv (bitsOf ops.length done)).2 ops[j]).2.1 (inv (bitsOf ops.length done)).1) t)) ∘ Prod.fst)) = (inv (bitsOf ops.length (j :: done))).1 := s3
   rw [e2]
   intro c a w hsim
   refine aRH hF hok hb inv downs hst hK n (j :: done) (listed.setIfInBounds j true) (by simp [hsz]) (fun k hk => ?_) (by simp; omega) (List.nodup_cons.2 ⟨r2, hd⟩) (fun k hk => ?_) hin c a w hsim
   ·by_cases e : j = k
    ·subst e
     have : j < listed.size := by omega
     simp [this]
    ·rw [getD_set_ne false e, hl k hk]
     constructor
     ·intro h; exact List.mem_cons_of_mem _ h
     ·intro h; exact (List.mem_cons.1 h).resolve_left (fun e' => e e'.symm)
   ·rcases List.mem_cons.1 hk with rfl | hk
    ·exact r3
    ·exact hlt k hk
theorem aOF {F : Fr} {Q : Exit → Act → World → Prop} {env : St} {h : List Obj} (hF : iZ F) {id : Nat} {ops : Array Oper} (inv : List Bool → St × List Obj) (downs : List (List Bool)) (hb : aMv ops.toList = true) (h0 : bitsOf ops.toList.length [] ∈ downs)
  (hi : inv (bitsOf ops.toList.length []) = (env, h)) (hst : ∀ bs ∈ downs, ∀ i ∈ aSL ops.toList bs, stT F ops.toList inv downs bs i) (hk : At F (Q .normal) (inv (bitsOf ops.toList.length (List.range ops.toList.length))).1 (inv (bitsOf ops.toList.length (List.range ops.toList.length))).2) : Tri F (.region id ops true) Q env h := fun hok c a w hs => by
 simp only [fE, Bool.and_eq_true, Bool.or_eq_true, Bool.not_eq_true'] at hok
 obtain ⟨⟨h1, h2⟩, h3⟩ := hok
 refine wp_region_any hF.mix ?_
 have hlat : dN c w c { w with drawn := w.drawn + 1 } := ⟨.refl _, fun b hb => rfl⟩
 have hdr : Sim F.E F.M F.w0 F.nt F.ds c env h a { w with drawn := w.drawn + 1 } :=
  ⟨hs.good.step hlat rfl ⟨rfl, rfl, rfl, Nat.le_refl _, fun _ _ _ => rfl⟩ (fun _ _ _ _ _ => rfl) hs.good.sfin (fun _ hb => .inl hb), oD.mono (w := w) (w' := { w with drawn := w.drawn + 1 }) (fun _ hb => hb) hlat.same hs.glob, hs.env.keep hlat, hs.size, hs.defers⟩
 have := aRH (Q := Q) hF (List.all_eq_true.1 h1) hb inv downs hst hk ops.toList.length [] (Array.replicate ops.size false) (by simp) (fun k hk => by rw [sU]; simp) (by simp) List.nodup_nil (fun k hk => by cases hk) h0 c a _ (by rw [hi]; exact hdr)
 simpa using this
inductive Dk where
 | v (t : Nat) (x : AV)
 | mk (t : Nat) (o : Obj)
 | cp (t j : Nat)
 | st (i : Nat) (o : Obj)
def aUt : List Dk → List Bool → Nat → Nat
 | _, _, 0 => 0
 | .mk _ _ :: r, true :: bs, j + 1 => aUt r bs j + 1
 | _ :: r, _ :: bs, j + 1 => aUt r bs j
 | _, _, _ + 1 => 0
def aYv (ds : List Dk) (bs : List Bool) (n i : Nat) : Dk → Nat × AV
 | .v t x => (t, x)
 | .mk t _ => (t, .own (n + aUt ds bs i))
 | .cp t j => (t, .own (n + aUt ds bs j))
 | .st _ _ => (0, .junk)
def aQc (ds : List Dk) (bs : List Bool) (n : Nat) : List Dk → List Bool → Nat → St
 | _, [], _ => []
 | [], _ :: _, _ => []
 | .st _ _ :: r, true :: b, i => aQc ds bs n r b (i + 1)
 | d :: r, true :: b, i => aYv ds bs n i d :: aQc ds bs n r b (i + 1)
 | _ :: r, false :: b, i => aQc ds bs n r b (i + 1)
def aSM : List Dk → List Bool → List Obj
 | .mk _ o :: r, true :: b => o :: aSM r b
 | _ :: r, _ :: b => aSM r b
 | _, _ => []
def aSN : List Dk → List Bool → List Obj → List Obj
 | .st i o :: r, true :: b, h => aSN r b (h.set i o)
 | _ :: r, _ :: b, h => aSN r b h
 | _, _, h => h
def aSO (env : St) (h : List Obj) (ds : List Dk) (bs : List Bool) : St × List Obj := (aQc ds bs h.length ds bs 0 ++ env, aSN ds bs h ++ aSM ds bs)
theorem aMx {ds : List Dk} {bs : List Bool} {n : Nat} : ∀ (r : List Dk) (k i : Nat), aQc ds bs n r (List.replicate k false) i = []
 | [], 0, _ => rfl
 | [], k + 1, _ => rfl
 | _ :: r, 0, _ => rfl
 | d :: r, k + 1, i => by rw [List.replicate_succ]; cases d <;> (simp only [aQc]; exact aMx r k (i + 1))
theorem aMy : ∀ (r : List Dk) (k : Nat), aSM r (List.replicate k false) = []
 | [], 0 => rfl
 | [], k + 1 => rfl
 | d :: r, 0 => by cases d <;> rfl
 | d :: r, k + 1 => by rw [List.replicate_succ]; cases d <;> (simp only [aSM]; exact aMy r k)
theorem aMz : ∀ (r : List Dk) (k : Nat) (h : List Obj), aSN r (List.replicate k false) h = h
 | [], 0, _ => rfl
 | [], k + 1, _ => rfl
 | d :: r, 0, _ => by cases d <;> rfl
 | d :: r, k + 1, h => by rw [List.replicate_succ]; cases d <;> (simp only [aSN]; exact aMz r k h)
def stL (F : Fr) (ops : List Oper) (inv : List Bool → St × List Obj) (downs : List (List Bool)) (bs : List Bool) : List Nat → Prop
 | [] => True
 | i :: r => stT F ops inv downs bs i ∧ stL F ops inv downs bs r
def stM (F : Fr) (ops : List Oper) (inv : List Bool → St × List Obj) (downs : List (List Bool)) : List (List Bool × List Nat) → Prop
 | [] => True
 | p :: r => stL F ops inv downs p.1 p.2 ∧ stM F ops inv downs r
theorem aRI {F : Fr} {ops : List Oper} {inv : List Bool → St × List Obj} {downs : List (List Bool)} {bs : List Bool} : ∀ {l : List Nat}, stL F ops inv downs bs l → ∀ i ∈ l, stT F ops inv downs bs i
 | i :: r, h, j, hj => by
  rcases List.mem_cons.1 hj with rfl | hj
  ·exact h.1
  ·exact aRI h.2 j hj
theorem aRJ {F : Fr} {ops : List Oper} {inv : List Bool → St × List Obj} {downs : List (List Bool)} : ∀ {l : List (List Bool × List Nat)}, stM F ops inv downs l → ∀ p ∈ l, stL F ops inv downs p.1 p.2
 | p :: r, h, q, hq => by
  rcases List.mem_cons.1 hq with rfl | hq
  ·exact h.1
  ·exact aRJ h.2 q hq
theorem aOG {F : Fr} {Q : Exit → Act → World → Prop} {env : St} {h : List Obj} (hF : iZ F) {id : Nat} {ops : Array Oper} (keep0 keep : List Nat) (ds : List Dk) (pl : List (List Bool × List Nat)) (full : List Bool)
  (hb : (decide (bitsOf ops.toList.length (List.range ops.toList.length) = full) && aMv ops.toList && pl.all (fun p => decide (aSL ops.toList p.1 = p.2)) && (pl.map Prod.fst).contains (bitsOf ops.toList.length [])) = true)
  (hst : stM F ops.toList (aSO (keep0.map fun t => (t, look env t)) h ds) (pl.map Prod.fst) pl)
  (hk : At F (Q .normal) (keep.map fun t => (t, look (aSO (keep0.map fun t => (t, look env t)) h ds full).1 t)) (aSO (keep0.map fun t => (t, look env t)) h ds full).2) : Tri F (.region id ops true) Q env h := by
 simp only [Bool.and_eq_true] at hb
 obtain ⟨⟨⟨hfu, hb⟩, hp⟩, h0⟩ := hb
 have hfu : bitsOf ops.toList.length (List.range ops.toList.length) = full := by simpa using hfu
 subst hfu
 intro hok
 refine aRk keep0 ?_
 refine aOF hF (aSO (keep0.map fun t => (t, look env t)) h ds) (pl.map Prod.fst) hb (by simpa using h0) ?_ (fun bs hbs i hi => ?_) (aRk keep hk) hok
 ·have e : bitsOf ops.toList.length [] = List.replicate ops.toList.length false := by
   apply List.ext_getElem <;> simp [bitsOf]
  rw [e, aSO, aMx, aMy, aMz]
  simp
 ·obtain ⟨p, hp1, rfl⟩ := List.mem_map.1 hbs
  have := List.all_eq_true.1 hp p hp1
  have e : aSL ops.toList p.1 = p.2 := by simpa using this
  exact aRI (aRJ hst p hp1) i (e ▸ hi)
attribute [go_sem] stM stL stT aXT aSO aQc aYv aSM aSN aUt bitsOf
end Go.Vc
namespace Go.Vc
open Go.RowKit
def pk (b : Bool) (i : Nat) : AV := bif b then .nilP else .ptr i []
theorem aWu {σ : List Nat} {b : Bool} {i : Nat} : gN σ (pk b i) = match posOf i σ with
 | some j => pk b j
 | none => bif b then .nilP else .junk := by
 cases b
 ·show gN σ (.ptr i []) = _
  simp only [gN]
  cases posOf i σ <;> rfl
 ·show gN σ .nilP = _
  simp only [gN]
  cases posOf i σ <;> rfl
theorem aWv {μ : List Nat} {b : Bool} {i : Nat} : aFc μ (pk b i) = match μ[i]? with
 | some j => pk b j
 | none => bif b then .nilP else .junk := by
 cases b
 ·show aFc μ (.ptr i []) = _
  simp only [aFc]
  cases μ[i]? <;> rfl
 ·show aFc μ .nilP = _
  simp only [aFc]
  cases μ[i]? <;> rfl
theorem aSP {b : Bool} {i : Nat} : AV.solid1 (pk b i) = true := by cases b <;> rfl
theorem aXU {b : Bool} {i : Nat} : AV.nc1 (pk b i) = 1 := by cases b <;> rfl
section
variable {F : Fr} {K : Act → World → Prop} {env : St} {h : List Obj}
theorem aUu (i n : Nat) (e : TypeId) (ho : h[i]? = some (.box n (.agg [.nilP, .nilS]))) (hk : At F K env (h.set i (.box n (.agg [pk true i, .own h.length])) ++ [.row e (.u .u8) []])) : At F K env h := fun c a w hs => by
 have e1 : (c.push (.slice none 0 0)).hd c.n = .slice none 0 0 := by simp [Ctx.push]
 have hil : i < h.length := oM ho
 obtain ⟨g1, g2⟩ := hs.good.push (.refl nothing w) (o := .row e (.u .u8) []) (hv := .slice none 0 0) (by
  show tJ _ _ _ _ _ _
  rw [e1]
  exact ⟨[], ⟨by simp, .inl ⟨rfl, rfl⟩⟩, ⟨rfl, [], rfl, rfl, fun i h => by simp at h⟩⟩) (fun b hb => by simp [ownBlock, e1, aQ] at hb)
 have ho' : (h ++ [Obj.row e (.u .u8) []])[i]? = some (.box n (.agg [.nilP, .nilS])) := by rw [List.getElem?_append_left hil]; exact ho
 obtain ⟨b, cells, e', q1, q2, q3, q4⟩ := g1.objs i _ ho'
 have hcells : aI (c.push (.slice none 0 0)) w (.agg [pk true i, .own h.length]) cells.toList := by
  simp only [aI] at q4 ⊢
  obtain ⟨c1, c2, hc, h1, c3, c4, hc2, h2, h3⟩ := q4
  refine ⟨c1, c2, hc, h1, c3, c4, hc2, ?_, h3⟩
  simp only [aI] at h2 ⊢
  rw [← hs.good.n]
  exact ⟨Nat.lt_succ_self _, by rw [h2, e1], by rw [e1]; trivial⟩
 have hob : ownBlock (c.push (.slice none 0 0)) i (.box n (.agg [.nilP, .nilS])) = some b := by simp [ownBlock, q1, aQ]
 have key := g1.modify (o' := .box n (.agg [pk true i, .own h.length])) ho' hob (w' := w) rfl rfl rfl rfl (fun _ _ => rfl) ⟨b, cells, e', q1, q2, q3, hcells⟩ (fun b' hb' => by
  simp only [ownBlock, q1, aQ, Option.some.injEq] at hb'
  exact hb'.symm)
 rw [List.set_append_left _ _ hil] at key
 exact hk _ a w ⟨key.1, hs.glob.mono (fun _ h => h) (.refl _ _), fun t => g2.val (hs.env t), hs.size, hs.defers⟩
theorem aWw (i n : Nat) (e : TypeId) (t : Ty) (ho : h[i]? = some (.box n .nilS)) (hk : At F K env (h.set i (.box n (.own h.length)) ++ [.row e t []])) : At F K env h := fun c a w hs => by
 have e1 : (c.push (.slice none 0 0)).hd c.n = .slice none 0 0 := by simp [Ctx.push]
 have hil : i < h.length := oM ho
 obtain ⟨g1, g2⟩ := hs.good.push (.refl nothing w) (o := .row e t []) (hv := .slice none 0 0) (by
  show tJ _ _ _ _ _ _
  rw [e1]
  exact ⟨[], ⟨by simp, .inl ⟨rfl, rfl⟩⟩, ⟨rfl, [], rfl, rfl, fun i h => by simp at h⟩⟩) (fun b hb => by simp [ownBlock, e1, aQ] at hb)
 have ho' : (h ++ [Obj.row e t []])[i]? = some (.box n .nilS) := by rw [List.getElem?_append_left hil]; exact ho
 obtain ⟨b, cells, e', q1, q2, q3, q4⟩ := g1.objs i _ ho'
 have hcells : aI (c.push (.slice none 0 0)) w (.own h.length) cells.toList := by
  simp only [aI] at q4 ⊢
  rw [← hs.good.n]
  exact ⟨Nat.lt_succ_self _, by rw [q4, e1], by rw [e1]; trivial⟩
 have hob : ownBlock (c.push (.slice none 0 0)) i (.box n .nilS) = some b := by simp [ownBlock, q1, aQ]
 have key := g1.modify (o' := .box n (.own h.length)) ho' hob (w' := w) rfl rfl rfl rfl (fun _ _ => rfl) ⟨b, cells, e', q1, q2, q3, hcells⟩ (fun b' hb' => by
  simp only [ownBlock, q1, aQ, Option.some.injEq] at hb'
  exact hb'.symm)
 rw [List.set_append_left _ _ hil] at key
 exact hk _ a w ⟨key.1, hs.glob.mono (fun _ h => h) (.refl _ _), fun t => g2.val (hs.env t), hs.size, hs.defers⟩
end
attribute [go_sem ↓] aWu aWv aSP aXU
end Go.Vc
namespace Go.Proofs
open Go Go.Shelf
section
variable {P : Program} {ρ : Ren}
theorem aEB (w : World) (r : Option Nat) : w.grownBy w.drew r := ⟨rfl, rfl, rfl, Nat.le_refl _, fun _ _ _ => rfl⟩
theorem aNh (w : World) (g n : Nat) : w.grownBy (w.drew.freeze ⟨g, 0, none⟩ n) (some g) := by
 unfold World.freeze
 split
 ·exact aEB w _
 ·refine ⟨rfl, rfl, rfl, by simp, fun k hk hne => ?_⟩
  show (w.drew.heap.modify g _)[k]? = _
  rw [Array.getElem?_modify, if_neg (fun e => hne (by rw [e]))]
  rfl
theorem aQd (w : World) (o : Obj) (r : Option Nat) : w.grownBy (w.drew.alloc o) r := ⟨rfl, rfl, rfl, by show _ ≤ (w.drew.heap.push o).size; rw [Array.size_push]; exact Nat.le_succ _, fun k hk _ => Lib.alloc_old w.drew o k hk⟩
set_option maxHeartbeats 4000000 in
set_option maxRecDepth 100000 in
theorem aOH (L : Lays.n169 P ρ) (X : Builder.Extra P ρ) (b g cap : Nat) (p : Value) (cur : Array Value) (l : List UInt8) (w : World) (h0 : l ≠ []) (hbk : w.heap[b]? = some (.cells #[p, .slice (some ⟨g, 0, none⟩) l.length cap] (ρ.t 72) (0, 0)))
  (hg : w.heap[g]? = some (.cells cur (ρ.t 5) (0, 0))) (hnc : l.length ≤ cap) (hcm : cap ≤ maxLen) (hcs : cur.size = cap) (hcell : ∀ j x, l[j]? = some x → w.cell? ((⟨g, 0, none⟩ : Addr).add j) = some (.int .u8 x.toNat)) :
  Calls P (ρ.f 169) #[.pointer (some ⟨b, 0, none⟩)] w fun e w' => e = .returned (.string ⟨l.toArray⟩) ∧ w.grownBy w' (some g) := by
 have hl0 : l.length ≠ 0 := by simpa using h0
 have c1 : w.drew.cell? ⟨b, 1, none⟩ = some (.slice (some ⟨g, 0, none⟩) l.length cap) := by
  have : w.drew.heap[b]? = some (.cells #[p, .slice (some ⟨g, 0, none⟩) l.length cap] (ρ.t 72) (0, 0)) := hbk
  rw [Lib.cell_of_heap this]; rfl
 have hSD : (Builtin.unsafeSliceData_ #[(ρ.t 37)] (ρ.t 127) #[.slice (some ⟨g, 0, none⟩) l.length cap]).run P w.drew = .ok (.pointer (some ⟨g, 0, none⟩)) w.drew :=
  Lib.run_unsafeSliceData_row _ _ _ _ _ _ (by omega)
 have hUS : (Builtin.unsafeString_ #[(ρ.t 127), (ρ.t 3)] (ρ.t 9) #[.pointer (some ⟨g, 0, none⟩), .int .i64 l.length]).run P w.drew = .ok (.string ⟨l.toArray⟩) (w.drew.freeze ⟨g, 0, none⟩ l.length) := by
  refine Lib.run_unsafeString_row w.drew (ρ.t 127) (ρ.t 3) (ρ.t 9) (ρ.t 5) L.t127 X.cellsByte g cur.size (by have hg' : w.drew.heap[g]? = some (.cells cur (ρ.t 5) (0, 0)) := hg; simp [World.shape?, hg']) l h0 (by omega) (by unfold maxLen at hcm; omega) ?_
  exact hcell
 have mixed := L.mixed
 have t72 := L.t72; have a72 := L.a72; have z72 := L.z72; have v72 := L.v72; have u72 := run_underlying L.t72
 have t70 := L.t70; have a70 := L.a70; have z70 := L.z70; have v70 := L.v70; have u70 := run_underlying L.t70
 have t37 := L.t37; have a37 := L.a37; have z37 := L.z37; have v37 := L.v37; have u37 := run_underlying L.t37
 have t127 := L.t127; have a127 := L.a127; have z127 := L.z127; have v127 := L.v127; have u127 := run_underlying L.t127
 have t3 := L.t3; have a3 := L.a3; have z3 := L.z3; have v3 := L.v3; have u3 := run_underlying L.t3
 have t9 := L.t9; have a9 := L.a9; have z9 := L.z9; have v9 := L.v9; have u9 := run_underlying L.t9
 have t5 := X.t5; have a5 := X.a5; have z5 := X.z5; have v5 := X.v5; have u5 := run_underlying X.t5
 go_enter L.f169, Body.n169_ntmps ρ
 go_wp2
 go_region_o
 all_goals (go_wp2; go_ret; exact ⟨rfl, aNh w g _⟩)
set_option maxHeartbeats 4000000 in
set_option maxRecDepth 100000 in
theorem aQe (L : Lays.n169 P ρ) (X : Builder.Extra P ρ) (b : Nat) (p : Value) (w : World) (hbk : w.heap[b]? = some (.cells #[p, .slice none 0 0] (ρ.t 72) (0, 0))) :
  Calls P (ρ.f 169) #[.pointer (some ⟨b, 0, none⟩)] w fun e w' => e = .returned (.string ⟨#[]⟩) ∧ w.grownBy w' none := by
 have hUS := Any.unsafeString_none L X
 have c1 : w.drew.cell? ⟨b, 1, none⟩ = some (.slice none 0 0) := by
  have : w.drew.heap[b]? = some (.cells #[p, .slice none 0 0] (ρ.t 72) (0, 0)) := hbk
  rw [Lib.cell_of_heap this]; rfl
 have hSD : (Builtin.unsafeSliceData_ #[(ρ.t 37)] (ρ.t 127) #[.slice none 0 0]).run P w.drew = .ok (.pointer none) w.drew := rfl
 have mixed := L.mixed
 have t72 := L.t72; have a72 := L.a72; have z72 := L.z72; have v72 := L.v72; have u72 := run_underlying L.t72
 have t70 := L.t70; have a70 := L.a70; have z70 := L.z70; have v70 := L.v70; have u70 := run_underlying L.t70
 have t37 := L.t37; have a37 := L.a37; have z37 := L.z37; have v37 := L.v37; have u37 := run_underlying L.t37
 have t127 := L.t127; have a127 := L.a127; have z127 := L.z127; have v127 := L.v127; have u127 := run_underlying L.t127
 have t3 := L.t3; have a3 := L.a3; have z3 := L.z3; have v3 := L.v3; have u3 := run_underlying L.t3
 have t9 := L.t9; have a9 := L.a9; have z9 := L.z9; have v9 := L.v9; have u9 := run_underlying L.t9
 have t5 := X.t5; have a5 := X.a5; have z5 := X.z5; have v5 := X.v5; have u5 := run_underlying X.t5
 go_enter L.f169, Body.n169_ntmps ρ
 go_wp2
 go_region_o
 all_goals (go_wp2; go_ret; exact ⟨rfl, aEB w _⟩)
set_option maxHeartbeats 4000000 in
set_option maxRecDepth 100000 in
theorem aK5 (L : Lays.n169 P ρ) (X : Builder.Extra P ρ) (b g : Nat) (p : Value) (cur : Array Value) (w : World) (hbk : w.heap[b]? = some (.cells #[p, .slice (some ⟨g, 0, none⟩) 0 0] (ρ.t 72) (0, 0))) (hg : w.heap[g]? = some (.cells cur (ρ.t 5) (0, 0))) :
  Calls P (ρ.f 169) #[.pointer (some ⟨b, 0, none⟩)] w fun e w' => e = .returned (.string ⟨#[]⟩) ∧ w.grownBy w' none := by
 have hUS := Any.unsafeString_none L X
 have hlt : b < w.heap.size := (Array.getElem?_eq_some_iff.1 hbk).1
 have c1 : w.drew.cell? ⟨b, 1, none⟩ = some (.slice (some ⟨g, 0, none⟩) 0 0) := by
  have : w.drew.heap[b]? = some (.cells #[p, .slice (some ⟨g, 0, none⟩) 0 0] (ρ.t 72) (0, 0)) := hbk
  rw [Lib.cell_of_heap this]; rfl
 have hSD : (Builtin.unsafeSliceData_ #[(ρ.t 37)] (ρ.t 127) #[.slice (some ⟨g, 0, none⟩) 0 0]).run P w.drew = .ok (.pointer (some ⟨w.drew.heap.size, 0, none⟩)) (w.drew.alloc (.view ⟨g, 0, none⟩ (ρ.t 5))) :=
  Lib.run_unsafeSliceData_zero w.drew _ _ (ρ.t 5) L.t127 ⟨g, 0, none⟩ 0 ((ρ.t 5), cur.size) (by have hg' : w.drew.heap[g]? = some (.cells cur (ρ.t 5) (0, 0)) := hg; simp [World.shape?, hg'])
 have c2 : (w.drew.alloc (.view ⟨g, 0, none⟩ (ρ.t 5))).cell? ⟨b, 1, none⟩ = some (.slice (some ⟨g, 0, none⟩) 0 0) := by
  have : (w.drew.alloc (.view ⟨g, 0, none⟩ (ρ.t 5))).heap[b]? = _ := (Lib.alloc_old w.drew _ b hlt).trans hbk
  rw [Lib.cell_of_heap this]; rfl
 have c3 : (w.alloc (.view ⟨g, 0, none⟩ (ρ.t 5))).drew.cell? ⟨b, 1, none⟩ = some (.slice (some ⟨g, 0, none⟩) 0 0) := c2
 have c0 : w.cell? ⟨b, 1, none⟩ = some (.slice (some ⟨g, 0, none⟩) 0 0) := c1
 have mixed := L.mixed
 have t72 := L.t72; have a72 := L.a72; have z72 := L.z72; have v72 := L.v72; have u72 := run_underlying L.t72
 have t70 := L.t70; have a70 := L.a70; have z70 := L.z70; have v70 := L.v70; have u70 := run_underlying L.t70
 have t37 := L.t37; have a37 := L.a37; have z37 := L.z37; have v37 := L.v37; have u37 := run_underlying L.t37
 have t127 := L.t127; have a127 := L.a127; have z127 := L.z127; have v127 := L.v127; have u127 := run_underlying L.t127
 have t3 := L.t3; have a3 := L.a3; have z3 := L.z3; have v3 := L.v3; have u3 := run_underlying L.t3
 have t9 := L.t9; have a9 := L.a9; have z9 := L.z9; have v9 := L.v9; have u9 := run_underlying L.t9
 have t5 := X.t5; have a5 := X.a5; have z5 := X.z5; have v5 := X.v5; have u5 := run_underlying X.t5
 go_enter L.f169, Body.n169_ntmps ρ
 go_wp2
 go_region_o
 all_goals (go_wp2; go_ret; exact ⟨rfl, aQd w _ _⟩)
set_option maxHeartbeats 4000000 in
set_option maxRecDepth 100000 in
theorem aOI (L : Lays.n169 P ρ) (X : Builder.Extra P ρ) (b g cap : Nat) (p : Value) (w : World) (hc0 : cap ≠ 0) (hbk : w.heap[b]? = some (.cells #[p, .slice (some ⟨g, 0, none⟩) 0 cap] (ρ.t 72) (0, 0))) :
  Calls P (ρ.f 169) #[.pointer (some ⟨b, 0, none⟩)] w fun e w' => e = .returned (.string ⟨#[]⟩) ∧ w.grownBy w' none := by
 have hUS := Any.unsafeString_none L X
 have c1 : w.drew.cell? ⟨b, 1, none⟩ = some (.slice (some ⟨g, 0, none⟩) 0 cap) := by
  have : w.drew.heap[b]? = some (.cells #[p, .slice (some ⟨g, 0, none⟩) 0 cap] (ρ.t 72) (0, 0)) := hbk
  rw [Lib.cell_of_heap this]; rfl
 have hSD : (Builtin.unsafeSliceData_ #[(ρ.t 37)] (ρ.t 127) #[.slice (some ⟨g, 0, none⟩) 0 cap]).run P w.drew = .ok (.pointer (some ⟨g, 0, none⟩)) w.drew :=
  Lib.run_unsafeSliceData_row _ _ _ _ _ _ hc0
 clear hc0
 have mixed := L.mixed
 have t72 := L.t72; have a72 := L.a72; have z72 := L.z72; have v72 := L.v72; have u72 := run_underlying L.t72
 have t70 := L.t70; have a70 := L.a70; have z70 := L.z70; have v70 := L.v70; have u70 := run_underlying L.t70
 have t37 := L.t37; have a37 := L.a37; have z37 := L.z37; have v37 := L.v37; have u37 := run_underlying L.t37
 have t127 := L.t127; have a127 := L.a127; have z127 := L.z127; have v127 := L.v127; have u127 := run_underlying L.t127
 have t3 := L.t3; have a3 := L.a3; have z3 := L.z3; have v3 := L.v3; have u3 := run_underlying L.t3
 have t9 := L.t9; have a9 := L.a9; have z9 := L.z9; have v9 := L.v9; have u9 := run_underlying L.t9
 have t5 := X.t5; have a5 := X.a5; have z5 := X.z5; have v5 := X.v5; have u5 := run_underlying X.t5
 go_enter L.f169, Body.n169_ntmps ρ
 go_wp2
 go_region_o
 all_goals (go_wp2; go_ret; exact ⟨rfl, aEB w _⟩)
end
end Go.Proofs
namespace Go.Vc
open Go.RowKit
section
variable {M : Perm} {w0 : World} {c : Ctx} {h : List Obj} {w : World}
def aUv (b : Bool) (B : Nat) : Value := bif b then .pointer none else .pointer (some ⟨B, 0, none⟩)
theorem aJI (hg : Good M w0 c h w) {tb e : TypeId} {b : Bool} {i j : Nat} {xs : List Nat} (hi : h[i]? = some (.box (4294967296 + tb) (.agg [pk b i, .own j]))) (hj : h[j]? = some (.row e (.u .u8) xs)) :
  ∃ B, c.hd i = .pointer (some ⟨B, 0, none⟩) ∧ w.heap[B]? = some (.cells #[aUv b B, c.hd j] tb (0, 0)) ∧ tJ c w e (.u .u8) xs (c.hd j) := by
 obtain ⟨B, cells, e', q1, q2, q3, q4⟩ := hg.objs i _ hi
 have hr : tJ c w e (.u .u8) xs (c.hd j) := hg.objs j _ hj
 simp only [aI] at q4
 obtain ⟨c1, c2, hc, h1, c3, c4, hc2, h2, h3⟩ := q4
 have h3 : c4 = [] := h3
 simp only [aI] at h2
 have e2 : c2 = [c.hd j] := by rw [hc2, h2.2.1, h3]; rfl
 have e1 : c1 = [aUv b B] := by
  cases b with
  | true => exact h1
  | false =>
   have h1 : aI c w (.ptr i []) c1 := h1
   simp only [aI] at h1
   obtain ⟨_, B', hB, hc1⟩ := h1
   rw [q1] at hB
   cases hB
   exact hc1
 have e3 : cells = #[aUv b B, c.hd j] := by
  rw [← Array.toList_inj, hc, e1, e2]; rfl
 subst e3
 have et : tb = e' := by
  rcases q3 with q3 | ⟨_, q3⟩
  ·have : (2 : Nat) = 4294967296 + tb := q3
   omega
  ·exact Nat.add_left_cancel q3
 subst et
 exact ⟨B, q1, q2, hr⟩
theorem aUw (hg : Good M w0 c h w) {tb e : TypeId} {b : Bool} {i j : Nat} {xs : List Nat} (hi : h[i]? = some (.box (4294967296 + tb) (.agg [pk b i, .own j]))) (hj : h[j]? = some (.row e (.u .u8) xs)) {B : Nat} (hB : c.hd i = .pointer (some ⟨B, 0, none⟩)) :
  Good M w0 c (h.set i (.box (4294967296 + tb) (.agg [pk false i, .own j]))) (w.setCell ⟨B, 0, none⟩ (.pointer (some ⟨B, 0, none⟩))) := by
 obtain ⟨B', q1, q2, q3⟩ := aJI hg hi hj
 rw [hB] at q1
 obtain rfl : B = B' := by cases q1; rfl
 have hob : ownBlock c i (.box (4294967296 + tb) (.agg [pk b i, .own j])) = some B := by simp [ownBlock, hB, aQ]
 have hheap : (w.setCell ⟨B, 0, none⟩ (.pointer (some ⟨B, 0, none⟩))).heap[B]? = some (.cells #[.pointer (some ⟨B, 0, none⟩), c.hd j] tb (0, 0)) := by
  simp [World.setCell, Array.getElem?_modify, q2]
 have hjl := oM hj
 have hil := oM hi
 have hone : one (c.hd j) := by
  obtain ⟨vals, hown, _⟩ := q3
  obtain ⟨a, n, m, hsl⟩ := iY hown
  rw [hsl]; trivial
 exact (hg.modify (o' := .box (4294967296 + tb) (.agg [pk false i, .own j])) hi hob (w' := w.setCell ⟨B, 0, none⟩ (.pointer (some ⟨B, 0, none⟩))) rfl rfl rfl (by simp [World.setCell]) (fun k hk => by simp [World.setCell, Array.getElem?_modify, Ne.symm hk])
  ⟨B, _, tb, hB, hheap, .inr ⟨rfl, rfl⟩, by
   have key : jX c (w.setCell ⟨B, 0, none⟩ (.pointer (some ⟨B, 0, none⟩))) [pk false i, .own j] [.pointer (some ⟨B, 0, none⟩), c.hd j] := ?_
   ·simp only [aI]; exact key
   refine ⟨[.pointer (some ⟨B, 0, none⟩)], [c.hd j], rfl, ?_, [c.hd j], [], rfl, ?_, rfl⟩
   ·show aI c _ (.ptr i []) _
    simp only [aI]
    refine ⟨by rw [hg.n]; exact hil, B, by rw [hB]; rfl, ?_⟩
    first | rfl | trivial
   ·simp only [aI]
    refine ⟨by rw [hg.n]; exact hjl, ?_, hone⟩
    first | rfl | trivial⟩ (fun b' hb' => by simp only [ownBlock, hB, aQ, Option.some.injEq] at hb'; exact hb'.symm)).1
theorem aSQ {e : TypeId} {xs : List Nat} {v : Value} (h : tJ c w e (.u .u8) xs v) : ∃ l : List UInt8, xs = l.map (·.toNat) ∧ ((v = .slice none 0 0 ∧ l = []) ∨ ∃ g cap cur, v = .slice (some ⟨g, 0, none⟩) l.length cap ∧ w.heap[g]? = some (.cells cur e (0, 0)) ∧ l.length ≤ cap ∧ cap ≤ maxLen ∧ cur.size = cap ∧ ∀ j x, l[j]? = some x → w.cell? ((⟨g, 0, none⟩ : Addr).add j) = some (.int .u8 x.toNat)) := by
 obtain ⟨vals, hown, hl, css, hc, hcl, hr⟩ := h
 have key : ∀ i (h : i < xs.length) (h' : i < css.length), css[i] = [Value.int .u8 (xs[i] : Int)] ∧ xs[i] < 256 := fun i h h' => by
  obtain ⟨h1, _, h3⟩ := hr i h h'
  refine ⟨h1, ?_⟩
  simp only [IntKind.max, IntKind.signed, IntKind.bits] at h3
  simp at h3
  omega
 refine ⟨xs.map UInt8.ofNat, ?_, ?_⟩
 ·rw [List.map_map]
  apply List.ext_getElem
  ·simp
  ·intro i h1 h2
   have := (key i h1 (by have : css.length = xs.length := hcl; omega)).2
   simp only [List.getElem_map, Function.comp]
   rw [UInt8.toNat_ofNat']
   omega
 ·have hlen : (xs.map UInt8.ofNat).length = xs.length := by simp
  rcases hown.2 with ⟨h1, h2⟩ | ⟨g, cap, cur, hv, hbg, hg, hnc, hcm, hcs, htake⟩
  ·left; exact ⟨h1, by rw [List.eq_nil_of_length_eq_zero h2]; rfl⟩
  ·right
   refine ⟨g, cap, cur, by rw [hlen]; exact hv, hg, by rw [hlen]; exact hnc, hcm, by simpa [Ty.cells] using hcs, fun j x hx => ?_⟩
   have hj : j < xs.length := by
    rcases Nat.lt_or_ge j xs.length with h | h
    ·exact h
    ·rw [List.getElem?_eq_none (by simpa using h)] at hx; cases hx
   have hjc : j < css.length := by have : css.length = xs.length := hcl; omega
   have hx' : x = UInt8.ofNat xs[j] := by
    rw [List.getElem?_map, List.getElem?_eq_getElem hj] at hx
    simpa using hx.symm
   have hk := key j hj hjc
   have hval : vals[j]? = some (.int .u8 (xs[j] : Int)) := by
    obtain ⟨pre, post, hf, hpl⟩ := nS (t := .u .u8) (css := css) (fun q hq => aS.length _ _ _ (hr q (by have : css.length = xs.length := hcl; omega) hq)) j hjc
    rw [hc, hf, List.append_assoc, List.getElem?_append_right (by rw [hpl]; simp [Ty.cells]), hpl, hk.1]
    simp [Ty.cells]
   subst hv
   have := hown.cells (g := g) rfl j _ hval
   rw [this, hx', UInt8.toNat_ofNat', Nat.mod_eq_of_lt (by omega)]
theorem aUx (hg : Good M w0 c h w) {i j : Nat} (hm : M.m = 1) (hi : i = 0) {oi oj : Obj} (h2 : h = [oi, oj]) {w' : World} {g : Option Nat} (hgr : w.grownBy w' g) (hgb : ∀ b, g = some b → ownBlock c 1 oj = some b) :
  Good M w0 ⟨c.S, c.hd, 1⟩ [.dead] w' := by
 subst h2
 refine ⟨rfl, ⟨hgr.os.trans hg.keeps.os, hgr.tape.trans hg.keeps.tape, hgr.output.trans hg.keeps.output, Nat.le_trans hg.keeps.size hgr.size, fun b hb hM => ?_⟩, fun b hb => Nat.lt_of_lt_of_le (hg.sfin b hb) hgr.size, hg.src, fun k o ho => ?_, fun k o b ho hb => ?_, fun k l ok ol b hk hl hbk hbl => ?_, ⟨by rw [hm]; exact Nat.le_refl _, fun k hk => hg.root.2 k hk⟩⟩
 ·rw [hgr.block b (Nat.lt_of_lt_of_le hb hg.keeps.size) (fun e => ?_)]
  ·exact hg.keeps.block b hb hM
  ·have := hg.own 1 oj b rfl (hgb b e.symm)
   rcases this.1 with h | h
   ·omega
   ·exact hM h
 ·match k, ho with
  | 0, ho => cases ho; trivial
  | k + 1, ho => cases ho
 ·match k, ho with
  | 0, ho => cases ho; cases hb
  | k + 1, ho => cases ho
 ·match k, hk with
  | 0, hk => cases hk; cases hbk
  | k + 1, hk => cases hk
end
end Go.Vc
namespace Go.Vc
open Go.RowKit
section
variable {P : Program} {T : Tab} {H : Type} {enc : TypeId × Value → H} {w : World} {spare : Nat → Bool} {held : Bool}
def aUy (k : IntKind) (ys : List Nat) : DataW H := .agg (ys.map fun (y : Nat) => .lit (.int k (y : Int)))
theorem aNi : ∀ (cs : List Value), ((List.range cs.length).map fun i => (cs.drop i).take 1).flatten = cs := by
 intro cs
 have e : ((List.range cs.length).map fun i => (cs.drop i).take 1) = cs.map fun c => [c] := by
  apply List.ext_getElem
  ·simp
  ·intro i h1 h2
   simp only [List.length_map, List.length_range] at h1
   simp only [List.getElem_map, List.getElem_range]
   rw [List.drop_eq_getElem_cons h1]
   rfl
 rw [e]
 clear e
 induction cs with
 | nil => rfl
 | cons c cs ih => simp [ih]
theorem aWx {S : Nat → Prop} (hT : gZ P T) {n : Nat} {t : TypeId} {m : Nat} {k : IntKind} {cs : List Value} {p : List MemPlace} {ys : List Nat} (ht : T t = some (.arr m (.u k)))
  (h : DataW.trod enc P w 0 spare held n t cs = some (aUy k ys, p)) : aS w S (.arr m (.u k)) ys cs := by
 obtain ⟨d, hd, hb⟩ := (hT _ _ ht).desc
 cases d <;> simp [fN] at hb
 obtain ⟨⟨⟨rfl, hb1⟩, hb2⟩, _⟩ := hb
 obtain ⟨xs, q, hq, hx, hlen, hxl, hf⟩ := DataW.trod_array hd h
 simp only [aUy, Prod.mk.injEq, DataW.agg.injEq] at hx
 rw [jY (hT _ _ ht)] at hlen
 rw [jY (hT _ _ hb1)] at hf
 have e1 : (Ty.u k).cells = 1 := rfl
 have e2 : (Ty.arr m (.u k)).cells = m := by show m * 1 = m; omega
 rw [e1] at hf
 rw [e2] at hlen
 have hyl : ys.length = m := by
  have := congrArg List.length hx.1
  simp only [List.length_map] at this
  omega
 obtain ⟨du, hdu, hbu⟩ := (hT _ _ hb1).desc
 cases du <;> simp [fN] at hbu
 obtain ⟨rfl, hs⟩ := hbu
 refine ⟨hyl, (List.range cs.length).map (fun i => (cs.drop i).take 1), (aNi cs).symm, by simp; omega, fun i h1 h2 => ?_⟩
 have hi : i < m := by omega
 have h3 := hf i hi
 rw [Nat.mul_one, List.getElem?_eq_getElem (by omega)] at h3
 obtain ⟨v, g1, g2, g3⟩ := DataW.trod_int hdu h3
 simp only [List.getElem_map, List.getElem_range]
 have h4 : (xs.map (·.1))[i]? = (ys.map fun (y : Nat) => (DataW.lit (.int k (y : Int)) : DataW H))[i]? := by rw [hx.1]
 rw [List.getElem?_map, List.getElem?_map, List.getElem?_eq_getElem (by omega), List.getElem?_eq_getElem h1, g2] at h4
 simp only [Option.map_some, Option.some.injEq, DataW.lit.injEq, Lit.int.injEq, true_and] at h4
 rw [h4] at g1 g3
 simp only [Lit.wf, Bool.and_eq_true, decide_eq_true_eq] at g3
 exact ⟨g1, hs, g3.2⟩
theorem aUz {l : List (String × DataW Unit)} {n : String} {d : DataW Unit} (hm : (n, d) ∈ l) {ps : List MemPlace} (h : DataW.LaidVars P w l ps) :
  ∃ g t cs fuel p, P.globalNamed n = some g ∧ (P.globals[g]?).map (·.type) = some t ∧ w.var? P n = some cs ∧ DataW.trod (fun _ => ()) P w 0 (fun _ => true) false fuel t cs.toList = some (d, p) := by
 induction l generalizing ps with
 | nil => cases hm
 | cons x r ih =>
  obtain ⟨n', d'⟩ := x
  obtain ⟨g, t, cs, fuel, p, q, h1, h2, h3, h4, h5, _⟩ := h
  rcases List.mem_cons.1 hm with e | e
  ·cases e
   exact ⟨g, t, cs, fuel, p, h1, h2, h3, h4⟩
  ·exact ih e h5
theorem aOJ (hT : gZ P T) {l : List (String × DataW Unit)} (h : laidMet P l w) (n : String) (g : Nat) (t : TypeId) (m : Nat) (k : IntKind) (ys : List Nat) (hm : (n, aUy k ys) ∈ l) (hg : P.globalNamed n = some g)
  (ht : (P.globals[g]?).map (·.type) = some t) (hty : T t = some (.arr m (.u k))) (hm0 : 0 < m) : aP ⟨vI w, fun _ => Go.undef, 0⟩ w (.roa (.arr m (.u k)) ys) (.pointer (some ⟨g, 0, none⟩)) := by
 obtain ⟨ps, hv, _⟩ := h
 obtain ⟨g', t', cs, fuel, p, h1, h2, h3, h4⟩ := aUz hm hv
 obtain rfl := Option.some.inj (hg.symm.trans h1)
 obtain rfl := Option.some.inj (ht.symm.trans h2)
 have hr : aS w (vI w) (.arr m (.u k)) ys cs.toList := aWx hT hty h4
 have hc : iX w g 0 cs.toList := fun j v hj => by
  have := World.var?_cell hg h3 j
  rw [Nat.zero_add, this]
  simpa using hj
 refine aBq ?_ hr hc
 have hl := aS.length _ _ _ hr
 have hl : cs.toList.length = m * 1 := hl
 have h0 : 0 < cs.toList.length := by omega
 exact aRw (hc 0 (cs.toList[0]'h0) (List.getElem?_eq_getElem h0))
end
end Go.Vc
