import Derived.Test.YtcpnniahnmjnpaaGreatDoorZL3
import Derived.Lib.AppendStr
set_option linter.unusedVariables false
set_option linter.unusedSimpArgs false
namespace Go.Vc
open Go.RowKit
section
variable {P : Program} {E : Env} {T : Tab} {M : Perm} {w0 : World} {c : Ctx} {h : List Obj} {w : World}
theorem aO1 (zs : List Value) (n : Nat) (hz : 0 < zs.length) : (Builtin.zeroCells zs.toArray n).toList = (List.replicate n zs).flatten := by
 have := xT zs n hz
 simpa [Builtin.zeroCells] using this
theorem aNE (w : World) (base : Nat) (t tx ty e : TypeId) (k : IntKind) (i : TypeInfo) (z : Value) (size bytes : Nat) (ht : P.underlying t = some (.slice e)) (hx : P.underlying tx = some (.int k)) (hi : P.info? e = some i) (hz : i.zero = some z)
  (hsize : i.size = size) (hby : i.bytes = bytes) (hzs : z.cells.size = size) (hsz : 0 < size)
  (v : Value) (n : Nat) (xs : List Value) (hown : w.ownsRow base e size v n xs)
  (k' : IntKind) (m : Nat) (news : List Value) (hnews : news = (Builtin.zeroCells z.cells m).toList) (h1 : ∀ u ∈ news, u.oneCell' = true)
  (h63 : n + m ≤ maxLen) (hbytes : (n + m) * bytes ≤ 140737488355328) (hbase : base ≤ w.heap.size) :
  ∃ v' w', (Builtin.append_ #[t, tx] ty #[v, .int k' (m : Int)]).run P w = .ok v' w' ∧ w'.ownsRow base e size v' (n + m) (xs ++ news) ∧ w.grownBy w' v.ownBlock ∧
   (v'.ownBlock = v.ownBlock ∨ v'.ownBlock = some w.heap.size) := by
 subst hsize
 subst hby
 have hl : news.length = m * i.size := by
  rw [hnews, Array.length_toList, size_zeroCells, hzs]
 have hna : (Builtin.zeroCells z.cells m) = news.toArray := by rw [hnews]
 have hsmall : n + m ≤ 9223372036854775807 := by simp only [maxLen] at h63; omega
 have hwrap : IntKind.i64.wrap (m : Int) = m := by
  simp only [IntKind.wrap, IntKind.signed, IntKind.bits]; simp; omega
 have hneg : ¬ ((m : Int) < 0) := by omega
 have hmb : m * i.bytes ≤ (n + m) * i.bytes := Nat.mul_le_mul_right _ (by omega)
 have hfit48 : ¬ (281474976710656 < (m : Int) * (i.bytes : Int)) := by
  have : ((m * i.bytes : Nat) : Int) = (m : Int) * (i.bytes : Int) := Int.natCast_mul _ _
  omega
 have hlen : (xs ++ news).length = (n + m) * i.size := by rw [List.length_append, hown.1, hl, Nat.add_mul]
 have grown : ∀ (old : Nat), old < n + m → ∀ (row : Option Nat),
   (w.drew.alloc (.cells (xs.toArray ++ news.toArray ++ Builtin.zeroCells z.cells (grownCap w (n + m) old e - (n + m))) e)).ownsRow base e i.size
    (.slice (some ⟨w.heap.size, 0, none⟩) (n + m) (grownCap w (n + m) old e)) (n + m) (xs ++ news) ∧
   w.grownBy (w.drew.alloc (.cells (xs.toArray ++ news.toArray ++ Builtin.zeroCells z.cells (grownCap w (n + m) old e - (n + m))) e)) row := by
  intro old ho row
  have hge := grownCap_ge w (n + m) old e
  have hcm : grownCap w (n + m) old e ≤ maxLen := grownCap_le_maxLen w (n + m) old e h63
  refine ⟨⟨hlen, .inr ⟨w.heap.size, _, _, rfl, hbase, heap_alloc_new w.drew _, hge, hcm, ?_, ?_⟩⟩, ⟨rfl, rfl, rfl, by simp, fun k hk _ => Go.heap_alloc_old w.drew _ hk⟩⟩
  ·simp only [Array.size_append, List.size_toArray, size_zeroCells, hzs, hown.1, hl, ← Nat.add_mul]
   congr 1
   omega
  ·simp only [Array.toList_append, List.append_assoc]
   rw [← List.append_assoc, ← hlen]
   exact List.take_left
 rcases hown.2 with ⟨rfl, rfl⟩ | ⟨g, cap, cur, rfl, hbg, hg, hnc, hcm, hcs, htake⟩
 ·have hx0 : xs = [] := List.eq_nil_of_length_eq_zero (by simpa using hown.1)
  subst hx0
  by_cases hm : m = 0
  ·subst hm
   have hn : news = [] := List.eq_nil_of_length_eq_zero (by simpa using hl)
   subst hn
   refine ⟨.slice none 0 0, w, ?_, World.ownsRow_nil w base e i.size, ⟨rfl, rfl, rfl, Nat.le_refl _, fun _ _ _ => rfl⟩, Or.inl rfl⟩
   have hw0 : IntKind.i64.wrap 0 = 0 := by decide
   simp [Builtin.append_, run_underlying ht, run_underlying hx, sizeOf, typeInfo, hi, asInt, asIntOf, hw0]
  ·have h48' : ¬ (281474976710656 < Builtin.nextslicecap m 0 * i.bytes) := by rw [nextslicecap_zero (by omega)]; simp only [Nat.zero_add] at hbytes; omega
   have hms : ¬ (m * i.size = 0) := by
    intro h
    rcases Nat.mul_eq_zero.1 h with h | h <;> omega
   have h63' : ¬ (9223372036854775807 < (m : Int)) := by omega
   have hgr := grown 0 (by omega) (Value.ownBlock (.slice none 0 0))
   simp only [Nat.zero_add, List.nil_append, Array.empty_append] at hgr ⊢
   refine ⟨_, _, ?_, hgr.1, hgr.2, Or.inr rfl⟩
   have hsz0 : i.size ≠ 0 := by omega
   simp [Builtin.append_, run_underlying ht, run_underlying hx, sizeOf, typeInfo, zeroValue, hi, hz, asInt, asIntOf, hwrap, hneg, hfit48, hm, h63', h48', hsz0, hms, Question.forced, run_firstCells_none, newRow, grownCap, hna]
 ·by_cases hroom : n + m ≤ cap
  ·have hfit : n * i.size + news.length ≤ cur.size := by rw [hl, hcs, ← Nat.add_mul]; exact Nat.mul_le_mul_right _ hroom
   have hst := run_storeCells_at P g (n * i.size) e news 0 cur w hg (by simpa using hfit) h1
   simp only [Nat.add_zero] at hst
   refine ⟨.slice (some ⟨g, 0, none⟩) (n + m) cap, w.setRow g (cur.toList.take (n * i.size) ++ news ++ cur.toList.drop (n * i.size + news.length)).toArray, ?_, ⟨hlen, .inr ⟨g, cap, _, rfl, hbg, setRow_heap w g cur _ e _ hg, hroom, hcm, ?_, ?_⟩⟩, ⟨rfl, rfl, rfl, by simp, fun k _ hk => setRow_other w g k _ (fun e => hk (by simp [Value.ownBlock, e]))⟩, Or.inl rfl⟩
   ·by_cases hm : m * i.size = 0
    ·have hn : news = [] := List.eq_nil_of_length_eq_zero (by rw [hl]; exact hm)
     subst hn
     simp [Builtin.append_, run_underlying ht, run_underlying hx, sizeOf, typeInfo, zeroValue, hi, hz, asInt, asIntOf, hwrap, hneg, hfit48, hroom, hm, Addr.add_lit] at hst ⊢
     simp [hst]
    ·have hm' : ¬ (m = 0 ∨ i.size = 0) := fun h => hm (Nat.mul_eq_zero.2 h)
     simp [Builtin.append_, run_underlying ht, run_underlying hx, sizeOf, typeInfo, zeroValue, hi, hz, asInt, asIntOf, hwrap, hneg, hfit48, hroom, hm, hm', Addr.add_lit, hna, hst]
   ·simp only [List.size_toArray, List.length_append, List.length_take, List.length_drop, Array.length_toList]
    omega
   ·rw [htake, ← hlen]
    exact List.take_left
  ·have holds : ∀ j u, xs[j]? = some u → w.cell? ((⟨g, 0, none⟩ : Addr).add j) = some u := hown.cells (g := g) rfl
   have hfo := run_firstCells_some (P := P) w.drew i.size n ⟨g, 0, none⟩ n cap xs hown.1 (by simpa using holds)
   have hm : ¬ (m * i.size = 0) := by
    intro h
    rcases Nat.mul_eq_zero.1 h with h | h <;> omega
   have hm' : ¬ (m = 0 ∨ i.size = 0) := fun h => hm (Nat.mul_eq_zero.2 h)
   have h63' : ¬ (9223372036854775807 < ((n : Int) + (m : Int))) := by omega
   have hgs := growslice_fits (old := cap) (by omega : cap < n + m) hbytes
   have h48' : ¬ (281474976710656 < Builtin.nextslicecap (n + m) cap * i.bytes) := by omega
   have hgr := grown cap (by omega) (Value.ownBlock (.slice (some ⟨g, 0, none⟩) n cap))
   refine ⟨_, _, ?_, hgr.1, hgr.2, Or.inr rfl⟩
   simp [Builtin.append_, run_underlying ht, run_underlying hx, sizeOf, typeInfo, zeroValue, hi, hz, asInt, asIntOf, hwrap, hneg, hfit48, hroom, hm, hm', h63', h48', Question.forced, hfo, newRow, grownCap, hna]
   congr 2
   apply Array.ext'
   simp [List.append_assoc]
theorem aX9 {t : TypeId} {k : IntKind} (hTy : aCq P E.T t (.i k)) : P.underlying t = some (.int k) := by
 obtain ⟨d, hd, hb⟩ := hTy.desc
 cases d <;> simp [iR] at hb
 obtain ⟨rfl, _⟩ := hb
 exact hd
def aIs (E : Env) (h : List Obj) (t : TypeId) (s x : AV) : Prop × AV × List Obj :=
 match E.T t with
 | some (.sl ct) => match aBy x with
  | some n => match s with
   | .nilS => (0 ≤ n ∧ bound ct n.toNat ∧ ct.okB = true, .own h.length, h ++ [.row (E.el t) ct (List.replicate n.toNat ct.zero)])
   | .own i => match h[i]? with
    | some (.row e c' xs) => match aBE c' ct xs with
     | some xs => (e = E.el t ∧ 0 ≤ n ∧ bound ct (xs.length + n.toNat) ∧ ct.okB = true, .own h.length, h.set i .dead ++ [.row (E.el t) ct (xs ++ List.replicate n.toNat ct.zero)])
     | none => (False, .junk, h)
    | _ => (False, .junk, h)
   | _ => (False, .junk, h)
  | none => (False, .junk, h)
 | _ => (False, .junk, h)
theorem aMV (hE : iE P E) {t tx ty : TypeId} {ct : Ty} (ht : E.T t = some (.sl ct)) {k : IntKind} (htx : P.underlying tx = some (.int k)) (hok : ct.okB = true) {sv : Value} {xs : List ct.den}
  (hrow : aBV c w (E.el t) ct xs sv) {k' : IntKind} {m : Nat}
  (hb : bound ct (xs.length + m)) (hSb : ∀ b, c.S b → b < w.heap.size ∧ aW sv ≠ some b) :
  ∃ v' w', (Builtin.append_ #[t, tx] ty #[sv, .int k' (m : Int)]).run P w = .ok v' w' ∧ w.grownBy w' (aW sv) ∧ aBV c w' (E.el t) ct (xs ++ List.replicate m ct.zero) v' ∧ (∀ b, aW v' = some b → aW sv = some b ∨ (w.heap.size ≤ b ∧ b < w'.heap.size)) ∧ ∃ a n m, v' = .slice a n m := by
 have hd := hE.el t ct ht
 obtain ⟨e', hd', hTe', hpos⟩ := gC (hE.T _ _ ht)
 have : e' = E.el t := by rw [hd] at hd'; cases hd'; rfl
 subst this
 have hTe := hE.T _ _ hTe'
 obtain ⟨i, hi, hsz, hz, hby⟩ := hTe.info
 obtain ⟨vals, hown, hrep⟩ := hrow
 rw [← hsz] at hown
 have hzl := jJ hok
 have hnews : (List.replicate m (cY ct)).flatten = (Builtin.zeroCells (mL ct).cells m).toList := by
  rw [yI hok]; exact (aO1 _ _ (by omega)).symm
 have hnr : bE w c.S (.arr m ct) (List.replicate m ct.zero) (List.replicate m (cY ct)).flatten := gG w c.S (.arr m ct) hok
 have hone : ∀ u ∈ (List.replicate m (cY ct)).flatten, u.oneCell' = true := fun u hu => by
  have := bE.one _ _ _ hnr u hu
  cases u <;> first | rfl | exact this.elim
 obtain ⟨v', w', hrun, hown', hgr, hat⟩ := aNE (P := P) w 0 t tx ty (E.el t) k i (mL ct) ct.cells i.bytes hd htx hi (hz hok) hsz rfl (by rw [yI hok]; simp [hzl]) hpos sv xs.length vals (by rw [← hsz]; exact hown)
  k' m _ hnews hone hb.1 (Nat.le_trans (Nat.mul_le_mul_left _ hby) hb.2) (Nat.zero_le _)
 have hsl := kJ hown
 have hsl' := kJ hown'
 rw [← sI hsl] at hgr hat
 rw [← sI hsl'] at hat
 have hsame : zK c.S w w' := fun b hb => hgr.block b (hSb b hb).1 (fun e => (hSb b hb).2 e.symm)
 refine ⟨v', w', hrun, hgr, ?_, fun b hb => ?_, hsl'⟩
 ·have hnr' : bE w c.S (.arr (List.replicate m ct.zero).length ct) (List.replicate m ct.zero) (List.replicate m (cY ct)).flatten := by
   rw [List.length_replicate]; exact hnr
  have := aJl hrep hnr'
  exact ⟨vals ++ _, by simpa using hown', bE.keep (fun _ h => h) hsame _ _ _ (by simpa using this)⟩
 ·rcases hat with hat | hat
  ·left; rw [← hat]; exact hb
  ·right
   rw [hat] at hb
   cases hb
   refine ⟨Nat.le_refl _, ?_⟩
   rcases hown'.2 with ⟨rfl, _⟩ | ⟨g, cp, cur, rfl, _, hheap, _⟩
   ·cases hat
   ·simp [aW] at hat
    subst hat
    exact (Array.getElem?_eq_some_iff.1 hheap).1
theorem aTN (hE : iE P E) (hg : Good M w0 c h w) {t tx ty : TypeId} {k : IntKind} (htx : P.underlying tx = some (.int k)) {s x : AV} {sv xv : Value} (hs : aX c w s sv) (hx : aX c w x xv) (hc : (aIs E h t s x).1) :
  ∃ v' w' c', (Builtin.append_ #[t, tx] ty #[sv, xv]).run P w = .ok v' w' ∧ dZ c w c' w' ∧ Good M w0 c' (aIs E h t s x).2.2 w' ∧ aX c' w' (aIs E h t s x).2.1 v' := by
 unfold aIs at hc ⊢
 split at hc
 ·rename_i ct ht
  split at hc
  ·rename_i n hn
   obtain ⟨k', rfl⟩ := zP hx hn
   split at hc
   ·
    obtain ⟨h0, hb, hok⟩ := hc
    obtain ⟨m, rfl⟩ := Int.eq_ofNat_of_zero_le h0
    have hsv : sv = .slice none 0 0 := by
     obtain ⟨h1, _, h3⟩ := hs
     have h3 := h3 rfl
     simp only [aN] at h1
     cases sv <;> simp [Value.cells] at h1 h3 <;> simp [h1]
    subst hsv
    simp only [Int.toNat_natCast] at hb ⊢
    obtain ⟨v', w', hrun, hgr, hrow, hbl, hsl⟩ := aMV (c := c) (w := w) (P := P) (ty := ty) (xs := []) (k' := k') (m := m) hE ht htx hok (sv := .slice none 0 0) ⟨[], ⟨by simp, .inl ⟨rfl, rfl⟩⟩, ⟨rfl, [], rfl, rfl, fun i h => by simp at h⟩⟩ (by simpa using hb) (fun b hb => ⟨hg.sfin b hb, by simp [aW]⟩)
    rw [List.nil_append] at hrow
    have hk : iY nothing w w' := ⟨hgr.os, hgr.tape, hgr.output, hgr.size, fun b hb _ => hgr.block b hb (by simp [aW])⟩
    have := hg.push hk (o := .row (E.el t) ct (List.replicate m ct.zero)) (hv := v') (by
     show aBV _ _ _ _ _ _
     have e : (c.push v').hd c.n = v' := by simp [Ctx.push]
     rw [e]
     exact hrow) (fun b hb => by
     have e : (c.push v').hd c.n = v' := by simp [Ctx.push]
     simp only [fN, e] at hb
     rcases hbl b hb with h1 | h1
     ·simp [aW] at h1
     ·exact h1)
    refine ⟨v', w', _, hrun, this.2, this.1, ?_⟩
    have := aDd (c := c) hsl (w' := w') (S' := c.S)
    rw [← hg.n]
    exact this
   ·rename_i i
    split at hc
    ·rename_i e c' xs ho
     split at hc
     ·rename_i xs' hcast
      obtain ⟨rfl, rfl⟩ := aDc hcast
      obtain ⟨rfl, h0, hb, hok⟩ := hc
      obtain ⟨m, rfl⟩ := Int.eq_ofNat_of_zero_le h0
      simp only [Int.toNat_natCast] at hb ⊢
      have hsv := (aBg hs).2
      have hrow0 : aBV c w (E.el t) _ _ (c.hd i) := hg.objs i _ ho
      subst hsv
      obtain ⟨v', w', hrun, hgr, hrow, hbl, hsl⟩ := aMV (c := c) (w := w) (P := P) (ty := ty) (k' := k') (m := m) hE ht htx hok hrow0 hb (fun b hb => ⟨hg.sfin b hb, fun e => (hg.own i _ b ho e).2.2 hb⟩)
      have := hg.regrow ho hgr hrow hbl
      refine ⟨v', w', _, hrun, this.2, this.1, ?_⟩
      have := aDd (c := c) hsl (w' := w') (S' := c.S)
      rw [← hg.n]
      exact this
     ·exact hc.elim
    ·exact hc.elim
   ·exact hc.elim
  ·exact hc.elim
 ·exact hc.elim
end
end Go.Vc
namespace Go.Vc
open Go.RowKit
section
variable {P : Program} {E : Env} {T : Tab} {M : Perm} {w0 : World} {c : Ctx} {h : List Obj} {w : World}
theorem aKe (w : World) (t u ty e : TypeId) (i : TypeInfo) (ht : P.underlying t = some (.slice e)) (hu : P.underlying u = some .string) (hi : P.info? e = some i) (hz : i.zero = some (.int .u8 0))
  (hsize : i.size = 1) (hby : i.bytes = 1) (v : Value) (n : Nat) (xs : List Value) (hown : w.ownsRow 0 e 1 v n xs) (s : ByteArray)
  (h63 : n + s.size ≤ maxLen) (hbytes : n + s.size ≤ 140737488355328) :
  ∃ v' w', (Builtin.append_ #[t, u] ty #[v, .string s]).run P w = .ok v' w' ∧ w'.ownsRow 0 e 1 v' (n + s.size) (xs ++ Lib.strCells s) ∧ w.grownBy w' v.ownBlock ∧ (v'.ownBlock = v.ownBlock ∨ v'.ownBlock = some w.heap.size) := by
 obtain ⟨v', w', hr, h2, h3, _⟩ := Lib.run_append_own_string (P := P) w 0 t u ty e i ht hu hi hz hsize hby v n xs hown s h63 hbytes (Nat.zero_le _)
 refine ⟨v', w', hr, h2, h3, ?_⟩
 have hsmall : n + s.size ≤ 9223372036854775807 := by simp only [maxLen] at h63; omega
 have hxl : xs.length = n := by simpa using hown.1
 rcases hown.2 with ⟨rfl, rfl⟩ | ⟨g, cap, cur, rfl, hbg, hg, hnc, hcm, hcs, htake⟩
 ·by_cases hm : s.size = 0
  ·have hf := Lib.run_firstCells_string (P := P) w 1 s
   rw [hm] at hf
   simp [Builtin.append_, run_underlying ht, run_underlying hu, sizeOf, typeInfo, hi, hsize, Builtin.lenOf, hm, hf] at hr
   rw [← hr.1]; exact .inl rfl
  ·have hr2 := run_append_nil_string (P := P) w t u ty e i (.int .u8 0) ht hu hi hz s (by omega) (by omega) (by rw [hby]; omega)
   rw [hr] at hr2
   injection hr2 with q1 q2
   rw [q1]; exact .inr rfl
 ·by_cases hroom : n + s.size ≤ cap
  ·have hcs' : cur.size = cap := by simpa using hcs
   have hr2 := Lib.run_append_room_string (P := P) w t u ty e i ht hu hi hsize g n cap cur hg s hroom (by omega)
   rw [hr] at hr2
   injection hr2 with q1 q2
   rw [q1]; exact .inl rfl
  ·have holds : ∀ j u, xs[j]? = some u → w.cell? ((⟨g, 0, none⟩ : Addr).add j) = some u := hown.cells (g := g) rfl
   have hr2 := Lib.run_append_grow_string (P := P) w t u ty e i (.int .u8 0) ht hu hi hz ⟨g, 0, none⟩ n cap xs (by rw [hsize]; simpa using hxl) holds s (by omega) (by omega) (by rw [hby]; exact growslice_fits (by omega) (by omega))
   rw [hr] at hr2
   injection hr2 with q1 q2
   rw [q1]; exact .inr rfl
def isStr : Option Ty → Bool
 | some .str => true
 | _ => false
def aIt (E : Env) (h : List Obj) (t : TypeId) (s x : AV) : Prop × AV × List Obj :=
 match E.T t with
 | some (.sl (.u .u8)) => match x with
  | .val .str b => match s with
   | .nilS => (bound (.u .u8) b.length, .own h.length, h ++ [.row (E.el t) (.u .u8) b])
   | .own i => match h[i]? with
    | some (.row e c' xs) => match aBE c' (.u .u8) xs with
     | some xs => (e = E.el t ∧ bound (.u .u8) (xs.length + b.length), .own h.length, h.set i .dead ++ [.row (E.el t) (.u .u8) (xs ++ b)])
     | none => (False, .junk, h)
    | _ => (False, .junk, h)
   | _ => (False, .junk, h)
  | _ => (False, .junk, h)
 | _ => (False, .junk, h)
theorem aRP {S : Nat → Prop} (s : ByteArray) : bE w S (.arr (aS s).length (.u .u8)) (aS s) (Lib.strCells s) := by
 refine ⟨rfl, (aS s).map (fun (x : Nat) => [Value.int .u8 (x : Int)]), ?_, by simp, fun i h1 h2 => ?_⟩
 ·have key : ∀ l : List UInt8, (l.map fun b => Value.int .u8 (b.toNat : Int)) = ((l.map (·.toNat)).map (fun (x : Nat) => [Value.int .u8 (x : Int)])).flatten := by
   intro l
   induction l with
   | nil => rfl
   | cons a r ih => simp [ih]
  exact key s.data.toList
 ·simp only [List.getElem_map]
  refine ⟨rfl, rfl, ?_⟩
  have : (aS s)[i] = (s.data.toList[i]'(by simpa [aS] using h1)).toNat := by simp [aS]
  rw [this]
  generalize (s.data.toList[i]'(by simpa [aS] using h1)) = q
  have := q.toNat_lt
  simp only [IntKind.max, IntKind.signed, IntKind.bits]
  simp
  omega
theorem aMW (hE : iE P E) {t tx ty : TypeId} (ht : E.T t = some (.sl (.u .u8))) (htx : P.underlying tx = some .string) {sv : Value} {xs : List Nat}
  (hrow : aBV c w (E.el t) (.u .u8) xs sv) {s : ByteArray} (hb : bound (.u .u8) (xs.length + (aS s).length)) (hSb : ∀ b, c.S b → b < w.heap.size ∧ aW sv ≠ some b) :
  ∃ v' w', (Builtin.append_ #[t, tx] ty #[sv, .string s]).run P w = .ok v' w' ∧ w.grownBy w' (aW sv) ∧ aBV c w' (E.el t) (.u .u8) (xs ++ aS s) v' ∧ (∀ b, aW v' = some b → aW sv = some b ∨ (w.heap.size ≤ b ∧ b < w'.heap.size)) ∧ ∃ a n m, v' = .slice a n m := by
 have hd := hE.el t _ ht
 obtain ⟨e', hd', hTe', hpos⟩ := gC (hE.T _ _ ht)
 have : e' = E.el t := by rw [hd] at hd'; cases hd'; rfl
 subst this
 have hTe := hE.T _ _ hTe'
 obtain ⟨i, hi, hsz, hz, hby⟩ := hTe.info
 obtain ⟨vals, hown, hrep⟩ := hrow
 have hsl0 : (aS s).length = s.size := qX s
 rw [hsl0] at hb
 have hb1 : i.bytes = 1 := hTe.byte rfl i hi
 obtain ⟨v', w', hrun, hown', hgr, hat⟩ := aKe (P := P) w t tx ty (E.el t) i hd htx hi (hz rfl) hsz hb1 sv xs.length vals hown s hb.1 (by have := hb.2; simpa [Ty.byt, IntKind.bits] using this)
 have hsl := kJ hown
 have hsl' := kJ hown'
 rw [← sI hsl] at hgr hat
 rw [← sI hsl'] at hat
 have hsame : zK c.S w w' := fun b hb => hgr.block b (hSb b hb).1 (fun e => (hSb b hb).2 e.symm)
 refine ⟨v', w', hrun, hgr, ?_, fun b hb => ?_, hsl'⟩
 ·have := aJl (t := .u .u8) hrep (aRP (w := w) (S := c.S) s)
  exact ⟨vals ++ _, by simpa [hsl0, Ty.cells] using hown', bE.keep (fun _ h => h) hsame _ _ _ (by simpa using this)⟩
 ·rcases hat with hat | hat
  ·left; rw [← hat]; exact hb
  ·right
   rw [hat] at hb
   cases hb
   refine ⟨Nat.le_refl _, ?_⟩
   rcases hown'.2 with ⟨rfl, _⟩ | ⟨g, cp, cur, rfl, _, hheap, _⟩
   ·cases hat
   ·simp [aW] at hat
    subst hat
    exact (Array.getElem?_eq_some_iff.1 hheap).1
theorem aTO (hE : iE P E) (hg : Good M w0 c h w) {t tx ty : TypeId} (htx : P.underlying tx = some .string) {s x : AV} {sv xv : Value} (hs : aX c w s sv) (hx : aX c w x xv) (hc : (aIt E h t s x).1) :
  ∃ v' w' c', (Builtin.append_ #[t, tx] ty #[sv, xv]).run P w = .ok v' w' ∧ dZ c w c' w' ∧ Good M w0 c' (aIt E h t s x).2.2 w' ∧ aX c' w' (aIt E h t s x).2.1 v' := by
 unfold aIt at hc ⊢
 split at hc
 ·rename_i ht
  split at hc
  ·rename_i b
   obtain ⟨st, rfl, rfl, hm⟩ := aMN hx
   split at hc
   ·
    have hsv : sv = .slice none 0 0 := by
     obtain ⟨h1, _, h3⟩ := hs
     have h3 := h3 rfl
     simp only [aN] at h1
     cases sv <;> simp [Value.cells] at h1 h3 <;> simp [h1]
    subst hsv
    obtain ⟨v', w', hrun, hgr, hrow, hbl, hsl⟩ := aMW (c := c) (w := w) (P := P) (ty := ty) (xs := []) (s := st) hE ht htx (sv := .slice none 0 0) ⟨[], ⟨by simp, .inl ⟨rfl, rfl⟩⟩, ⟨rfl, [], rfl, rfl, fun i h => by simp at h⟩⟩ (by simpa using hc) (fun b hb => ⟨hg.sfin b hb, by simp [aW]⟩)
    rw [List.nil_append] at hrow
    have hk : iY nothing w w' := ⟨hgr.os, hgr.tape, hgr.output, hgr.size, fun b hb _ => hgr.block b hb (by simp [aW])⟩
    have := hg.push hk (o := .row (E.el t) (.u .u8) (aS st)) (hv := v') (by
     show aBV _ _ _ _ _ _
     have e : (c.push v').hd c.n = v' := by simp [Ctx.push]
     rw [e]
     exact hrow) (fun b hb => by
     have e : (c.push v').hd c.n = v' := by simp [Ctx.push]
     simp only [fN, e] at hb
     rcases hbl b hb with h1 | h1
     ·simp [aW] at h1
     ·exact h1)
    refine ⟨v', w', _, hrun, this.2, this.1, ?_⟩
    have := aDd (c := c) hsl (w' := w') (S' := c.S)
    rw [← hg.n]
    exact this
   ·rename_i i
    split at hc
    ·rename_i e c' xs ho
     split at hc
     ·rename_i xs' hcast
      obtain ⟨rfl, rfl⟩ := aDc hcast
      obtain ⟨rfl, hb⟩ := hc
      have hsv := (aBg hs).2
      have hrow0 : aBV c w (E.el t) _ _ (c.hd i) := hg.objs i _ ho
      subst hsv
      obtain ⟨v', w', hrun, hgr, hrow, hbl, hsl⟩ := aMW (c := c) (w := w) (P := P) (ty := ty) (s := st) hE ht htx hrow0 hb (fun b hb => ⟨hg.sfin b hb, fun e => (hg.own i _ b ho e).2.2 hb⟩)
      have := hg.regrow ho hgr hrow hbl
      refine ⟨v', w', _, hrun, this.2, this.1, ?_⟩
      have := aDd (c := c) hsl (w' := w') (S' := c.S)
      rw [← hg.n]
      exact this
     ·exact hc.elim
    ·exact hc.elim
   ·exact hc.elim
  ·exact hc.elim
 ·exact hc.elim
end
end Go.Vc
namespace Go.Vc
open Go.RowKit
structure Fr where
 P : Program
 E : Env
 M : Perm
 w0 : World
 nt : Nat
 ds : List Deferred
@[reducible] def fr (P : Program) (E : Env) (S : Nat → Prop) (w0 : World) (nt : Nat) : Fr := ⟨P, E, top S, w0, nt, []⟩
structure gD (F : Fr) : Prop where
 env : iE F.P F.E
 mix : F.P.follows .mixedOrders = true
def iA (nt : Nat) : Code → Bool
 | .region _ ops draw => ops.toList.all (gV nt) && aDa ops.toList && (!draw || aND ops.toList)
 | .seq a b => iA nt a && iA nt b
 | .cond c a b => nY c && iA nt a && iA nt b
 | .block _ a => iA nt a
 | .loop a => iA nt a
 | .scope a => iA nt a
 | .rangeFunc _ _ _ _ => false
 | _ => true
abbrev St := List (Nat × AV)
def At (F : Fr) (K : Act → World → Prop) (env : St) (h : List Obj) : Prop := ∀ c a w, Sim F.E F.M F.w0 F.nt F.ds c env h a w → K a w
def Tri (F : Fr) (c : Code) (Q : Exit → Act → World → Prop) (env : St) (h : List Obj) : Prop := iA F.nt c = true → At F (c.wp F.P Q) env h
section
variable {F : Fr} {Q : Exit → Act → World → Prop} {env : St} {h : List Obj}
theorem bY (hq : At F (Q .normal) env h) : Tri F .skip Q env h := fun _ c a w hs => wp_skip (hq c a w hs)
theorem aQ8 {l : Nat} (hq : At F (Q .normal) env h) : Tri F (.label l) Q env h := fun _ c a w hs => wp_label (hq c a w hs)
theorem pV {id : Nat} (hq : At F (Q (.exit id)) env h) : Tri F (.exit id) Q env h := fun _ c a w hs => wp_exit (hq c a w hs)
theorem cA (hq : At F (Q .ret) env h) : Tri F .ret Q env h := fun _ c a w hs => wp_ret (hq c a w hs)
def Next (F : Fr) (y : Code) (Q : Exit → Act → World → Prop) (a : Act) (w : World) : Prop := iA F.nt y = true → y.wp F.P Q a w
theorem aB {x y : Code} (hx : Tri F x (Exit.then (Next F y Q) Q) env h) : Tri F (.seq x y) Q env h := fun hok c a w hs => by
 simp only [iA, Bool.and_eq_true] at hok
 refine wp_seq (wp_mono (hx hok.1 c a w hs) fun e a' w' hq => ?_)
 cases e <;> first | exact hq | exact hq hok.2
theorem aA {y : Code} (hy : Tri F y Q env h) : At F (Exit.then (Next F y Q) Q .normal) env h := fun c a w hs hok => hy hok c a w hs
theorem bO {K : Act → World → Prop} (hk : At F K env h) : At F (Exit.then K Q .normal) env h := hk
theorem cV {K : Act → World → Prop} {id : Nat} (hq : At F (Q (.exit id)) env h) : At F (Exit.then K Q (.exit id)) env h := hq
theorem cE {K : Act → World → Prop} (hq : At F (Q .ret) env h) : At F (Exit.then K Q .ret) env h := hq
theorem aZ {id : Nat} (hq : At F (Q .normal) env h) : At F (Exit.inBlock id Q .normal) env h := hq
theorem fQ {id : Nat} (hq : At F (Q .ret) env h) : At F (Exit.inBlock id Q .ret) env h := hq
theorem fH {id : Nat} (hq : At F (Q .normal) env h) : At F (Exit.inBlock id Q (.exit id)) env h := fun c a w hs => by
 simp only [Exit.inBlock, if_true]; exact hq c a w hs
theorem aHs {id id' : Nat} (hne : id' ≠ id) (hq : At F (Q (.exit id')) env h) : At F (Exit.inBlock id Q (.exit id')) env h := fun c a w hs => by
 simp only [Exit.inBlock, hne, if_false]; exact hq c a w hs
theorem dH {id : Nat} {x : Code} (hx : Tri F x (Exit.inBlock id Q) env h) : Tri F (.block id x) Q env h := fun hok c a w hs =>
 wp_block (hx (by simpa [iA] using hok) c a w hs)
theorem bC {x y : Code} {o : Operand} {b : Bool} (hb : evA F.E.G env o = .val .bool b) (ht : b = true → Tri F x Q env h) (hf : b = false → Tri F y Q env h) : Tri F (.cond o x y) Q env h := fun hok c a w hs => by
 simp only [iA, Bool.and_eq_true] at hok
 have hv := aC7 (a := a) hs.env hs.glob hok.1.1
 rw [hb] at hv
 have hv := aES hv
 exact wp_cond_split hv (fun e => ht e hok.1.2 c a w hs) (fun e => hf e hok.2 c a w hs)
def aZr (v : AV) : Option Ent → AV
 | none => v
 | some ⟨_, _, [], av⟩ => av
 | some _ => .junk
theorem aSL (acc : List Ent) (env : St) (t : Nat) : look (nJ acc env) t = aZr (look env t) (aB8 acc t) := by
 rw [aHr]
 cases aB8 acc t with
 | none => rfl
 | some e => obtain ⟨i, d, gp, av⟩ := e; cases gp <;> rfl
def aNF (keep : List Nat) (acc : List Ent) (env : St) : St := keep.map fun t => (t, aZr (look env t) (aB8 acc t))
theorem aVD {c : Ctx} {w : World} {a : Act} (he : aGT c w env a.tmps) (keep : List Nat) : aGT c w (keep.map fun t => (t, look env t)) a.tmps := fun t => by
 have : look (keep.map fun t => (t, look env t)) t = look env t ∨ look (keep.map fun t => (t, look env t)) t = .junk := by
  induction keep with
  | nil => right; rfl
  | cons k r ih =>
   simp only [List.map_cons, look]
   by_cases e : k = t
   ·rw [if_pos e, e]; exact .inl rfl
   ·rw [if_neg e]; exact ih
 rcases this with e | e
 ·rw [e]; exact he t
 ·rw [e]; trivial
theorem Sim.keep {E : Env} {M : Perm} {w0 : World} {nt : Nat} {ds : List Deferred} {c : Ctx} {a : Act} {w : World} (hs : Sim E M w0 nt ds c env h a w) (keep : List Nat) : Sim E M w0 nt ds c (keep.map fun t => (t, look env t)) h a w :=
 ⟨hs.good, hs.glob, aVD hs.env keep, hs.size, hs.defers⟩
theorem aF (hF : gD F) {id : Nat} {ops : Array Oper} {draw : Bool} (keep : List Nat) (hv : vcA F.E h env ops.toList 0 [] (fun acc => At F (Q .normal) (aNF keep acc env) h)) : Tri F (.region id ops draw) Q env h := fun hok c a w hs => by
 simp only [iA, Bool.and_eq_true, Bool.or_eq_true, Bool.not_eq_true'] at hok
 obtain ⟨⟨h1, h2⟩, h3⟩ := hok
 have hfin : ∀ acc c' a' w', At F (Q .normal) (aNF keep acc env) h → dZ c w c' w' → c'.n = c.n → Sim F.E F.M F.w0 F.nt F.ds c' (nJ acc env) h a' w' → Q .normal a' w' := fun acc c' a' w' hk _ _ hs' => by
  have := hs'.keep keep
  refine hk c' a' w' ?_
  have e : aNF keep acc env = keep.map fun t => (t, look (nJ acc env) t) := by
   simp only [aNF, aSL]
  rw [e]; exact this
 cases draw with
 | false => exact aSI (ops := ops.toList) hF.env (List.all_eq_true.1 h1) h2 hs hv hfin
 | true => exact aKb (ops := ops.toList) hF.env hF.mix (List.all_eq_true.1 h1) h2 (h3.resolve_left (by simp)) hs hv hfin
theorem aSM {x : Code} {D : Type} (I : D → Prop) (μ : D → Nat) (envI : D → St) (hI : D → List Obj) (h0 : At F (fun a w => ∃ d c, I d ∧ Sim F.E F.M F.w0 F.nt F.ds c (envI d) (hI d) a w) env h)
  (round : ∀ d, I d → Tri F x (Exit.then (fun a' w' => ∃ d' c', (I d' ∧ μ d' < μ d) ∧ Sim F.E F.M F.w0 F.nt F.ds c' (envI d') (hI d') a' w') Q) (envI d) (hI d)) : Tri F (.loop x) Q env h := fun hok c a w hs => by
 classical
 have hok : iA F.nt x = true := by simpa [iA] using hok
 let good : Act → World → Nat → Prop := fun a w n => ∃ d c, I d ∧ Sim F.E F.M F.w0 F.nt F.ds c (envI d) (hI d) a w ∧ μ d = n
 have hleast : ∀ a w, (∃ d c, I d ∧ Sim F.E F.M F.w0 F.nt F.ds c (envI d) (hI d) a w) → ∃ n, good a w n ∧ ∀ m, good a w m → n ≤ m := fun a w ⟨d, c, hi, hs⟩ => by
  have hex : ∃ n, good a w n := ⟨μ d, d, c, hi, hs, rfl⟩
  obtain ⟨n, hn⟩ := hex
  induction n using Nat.strongRecOn with
  | _ n ih =>
   by_cases hh : ∃ m, m < n ∧ good a w m
   ·obtain ⟨m, hm, hg⟩ := hh; exact ih m hm hg
   ·exact ⟨n, hn, fun m hm => Nat.le_of_not_lt fun hlt => hh ⟨m, hlt, hm⟩⟩
 let ms : Act → World → Nat := fun a w => if hx : ∃ d c, I d ∧ Sim F.E F.M F.w0 F.nt F.ds c (envI d) (hI d) a w then Classical.choose (hleast a w hx) else 0
 have hms : ∀ a w (hx : ∃ d c, I d ∧ Sim F.E F.M F.w0 F.nt F.ds c (envI d) (hI d) a w), good a w (ms a w) ∧ ∀ m, good a w m → ms a w ≤ m := fun a w hx => by
  simp only [ms, dif_pos hx]; exact Classical.choose_spec (hleast a w hx)
 refine wp_loop (fun a w => ∃ d c, I d ∧ Sim F.E F.M F.w0 F.nt F.ds c (envI d) (hI d) a w) ms (h0 c a w hs) fun a w hx => ?_
 obtain ⟨⟨d, c, hi, hs, hμ⟩, hmin⟩ := hms a w hx
 refine wp_mono (round d hi hok c a w hs) fun e a' w' hq => ?_
 cases e with
 | normal =>
  obtain ⟨d', c', ⟨hi', hlt⟩, hs'⟩ := hq
  have hx' : ∃ d c, I d ∧ Sim F.E F.M F.w0 F.nt F.ds c (envI d) (hI d) a' w' := ⟨d', c', hi', hs'⟩
  refine ⟨hx', ?_⟩
  have := (hms a' w' hx').2 (μ d') ⟨d', c', hi', hs', rfl⟩
  omega
 | _ => exact hq
theorem aSN {x y : Code} {D : Type} (J : D → Prop) (envJ : D → St) (hJ : D → List Obj) (hx : Tri F x (Exit.then (fun a' w' => ∃ d' c', J d' ∧ Sim F.E F.M F.w0 F.nt F.ds c' (envJ d') (hJ d') a' w') Q) env h)
  (hy : ∀ d, J d → Tri F y Q (envJ d) (hJ d)) : Tri F (.seq x y) Q env h := fun hok c a w hs => by
 simp only [iA, Bool.and_eq_true] at hok
 refine wp_seq (wp_mono (hx hok.1 c a w hs) fun e a' w' hq => ?_)
 cases e with
 | normal =>
  obtain ⟨d', c', hj, hs'⟩ := hq
  exact hy d' hj hok.2 c' a' w' hs'
 | _ => exact hq
def dG (h : List Obj) (v : AV) : AV → Prop
 | .val t x => AV.as (h.map gB) t v = some x ∨ v = .val t x
 | .junk => True
 | u => v = u
def kU (h : List Obj) (env : St) : St → Prop
 | [] => True
 | (t, u) :: r => dG h (look env t) u ∧ kU h env r
theorem aOw {M : Perm} {w0 : World} {c : Ctx} {w : World} (hg : Good M w0 c h w) {v u : AV} {x : Value} (hf : dG h v u) (hv : aX c w v x) : aX c w u x := by
 cases u <;> simp only [dG] at hf
 case val t y =>
  rcases hf with hf | rfl
  ·exact aX.ofV (vF hg hv hf)
  ·exact hv
 case junk => trivial
 all_goals (subst hf; exact hv)
theorem aUQ {M : Perm} {w0 : World} {c : Ctx} {w : World} {a : Act} (hg : Good M w0 c h w) (he : aGT c w env a.tmps) : ∀ {env' : St}, kU h env env' → aGT c w env' a.tmps
 | [], _, t => trivial
 | (k, u) :: r, hf, t => by
  simp only [look]
  split
  ·rename_i e; subst e; exact aOw hg hf.1 (he k)
  ·exact aUQ hg he hf.2 t
theorem aY {D : Type} {J : D → Prop} {envJ : D → St} {hJ : D → List Obj} (d : D) (hj : J d) (hh : h = hJ d) (hf : kU h env (envJ d)) : At F (fun a w => ∃ d' c', J d' ∧ Sim F.E F.M F.w0 F.nt F.ds c' (envJ d') (hJ d') a w) env h := fun c a w hs =>
 ⟨d, c, hj, ⟨by rw [← hh]; exact hs.good, hs.glob, aUQ hs.good hs.env hf, hs.size, hs.defers⟩⟩
def bZ : (t : Ty) → t.den → Nat → St
 | .pair (.rp a) r, x, k => (k, .roa a x.1) :: bZ r x.2 (k + 1)
 | .pair a r, x, k => (k, .val a x.1) :: bZ r x.2 (k + 1)
 | _, _, _ => []
end
end Go.Vc
namespace Go.Vc
open Go.RowKit
def aVE : Obj → Obj
 | .row _ t xs => .frz t xs
 | .tre _ _ t xs => .frz t xs
 | o => o
def frzAll : Obj → Obj
 | .row _ t xs => .frz t xs
 | .tre _ _ t xs => .frz t xs
 | .frz t xs => .frz t xs
 | _ => .dead
def aMX : Ty → Nat
 | .pair _ r => aMX r + 1
 | _ => 0
def iF (h : List Obj) : (r : RK) → r.ty.den → List AV → Prop
 | .none, _, [] => True
 | .one t, y, [v] => AV.as (h.map frzAll) t v = some y
 | .own e t, ys, [.own i] => h[i]? = some (.row e t ys)
 | .own e t, ys, [.nilS] => ys = []
 | .tup t, y, vs => vs.length ≠ 1 ∧ aA5 (h.map frzAll) t vs = some y
 | _, _, _ => False
section
variable {P : Program} {E : Env} {M : Perm} {w0 : World} {c : Ctx} {h : List Obj} {w : World}
theorem aQr : ∀ (n : Nat) (h : List Obj) (i : Nat), (freezeAll (List.range n) h)[i]? = if i < n then (h[i]?).map aVE else h[i]? := by
 have happ : ∀ (l r : List Nat) (h : List Obj), freezeAll (l ++ r) h = freezeAll r (freezeAll l h) := fun l => by
  induction l with
  | nil => intro r h; rfl
  | cons a l ih => intro r h; simp only [List.cons_append, freezeAll]; exact ih r _
 intro n
 induction n with
 | zero => intro h i; simp [freezeAll]
 | succ n ih =>
  intro h i
  rw [List.range_succ, happ]
  simp only [freezeAll, Vc.freeze]
  have hn := ih h n
  simp only [Nat.lt_irrefl, if_false] at hn
  split
  ·rename_i e t xs ho
   rw [hn] at ho
   by_cases e' : n = i
   ·subst e'
    have hlt : n < h.length := mN ho
    have hl : n < (freezeAll (List.range n) h).length := by
     rcases Nat.lt_or_ge n (freezeAll (List.range n) h).length with hh | hh
     ·exact hh
     ·rw [List.getElem?_eq_none hh] at hn; rw [← hn] at ho; cases ho
    simp [hl, ho, aVE]
   ·rw [List.getElem?_set_ne e', ih h i]
    by_cases hi : i < n
    ·simp [hi, Nat.lt_succ_of_lt hi]
    ·have : ¬ i < n + 1 := by omega
     simp [hi, this]
  ·rename_i e m t xs ho
   rw [hn] at ho
   by_cases e' : n = i
   ·subst e'
    have hlt : n < h.length := mN ho
    have hl : n < (freezeAll (List.range n) h).length := by
     rcases Nat.lt_or_ge n (freezeAll (List.range n) h).length with hh | hh
     ·exact hh
     ·rw [List.getElem?_eq_none hh] at hn; rw [← hn] at ho; cases ho
    simp [hl, ho, aVE]
   ·rw [List.getElem?_set_ne e', ih h i]
    by_cases hi : i < n
    ·simp [hi, Nat.lt_succ_of_lt hi]
    ·have : ¬ i < n + 1 := by omega
     simp [hi, this]
  ·rename_i hne hne2
   rw [ih h i]
   by_cases hi : i < n
   ·simp [hi, Nat.lt_succ_of_lt hi]
   ·by_cases e' : i = n
    ·subst e'
     simp only [Nat.lt_irrefl, if_false, Nat.lt_succ_self, if_true]
     cases ho : h[i]? with
     | none => rfl
     | some o =>
      rw [ho] at hn
      cases o <;> first | rfl | exact absurd hn (hne _ _ _) | exact absurd hn (hne2 _ _ _ _)
    ·have : ¬ i < n + 1 := by omega
     simp [hi, this]
theorem Good.frzAll (hg : Good M w0 c h w) : ∃ c', dZ c w c' w ∧ Good M w0 c' (h.map aVE) w := by
 obtain ⟨c', h1, h2, h3⟩ := hg.freezeAll (List.range h.length)
 have e : Vc.freezeAll (List.range h.length) h = h.map aVE := by
  apply List.ext_getElem?
  intro i
  rw [aQr, List.getElem?_map]
  by_cases hi : i < h.length
  ·simp [hi]
  ·simp [hi]
 rw [e] at h3
 exact ⟨c', h1, h3⟩
theorem aUR : (h.map aVE).map gB = h.map frzAll := by
 rw [List.map_map]
 apply List.map_congr_left
 intro o _
 cases o <;> rfl
theorem aO2 {S : Nat → Prop} : ∀ (t : Ty) (x : t.den) (k : Nat) (vs : List Value) (tmps : Array Value), pU w S t x vs → c.S = S → (∀ i v, vs[i]? = some v → tmps.getD (k + i) Go.undef = v) → aGT c w (bZ t x k) tmps
 | .pair a r, x, k, vs, tmps, ⟨v, vs', e, h1, h2⟩, hS, ht => by
  subst e
  have rec_ := aO2 r x.2 (k + 1) vs' tmps h2 hS (fun i u hu => by
   have := ht (i + 1) u (by simpa using hu)
   rw [show k + 1 + i = k + (i + 1) from by omega]; exact this)
  have hv := ht 0 v (by simp)
  simp only [Nat.add_zero] at hv
  intro t
  have hcase : ∀ u : AV, aX c w u v → aX c w (look ((k, u) :: bZ r x.2 (k + 1)) t) (tmps.getD t Go.undef) := fun u hu => by
   simp only [look]
   split
   ·rename_i e; subst e; rw [hv]; exact hu
   ·exact rec_ t
  cases a with
  | rp a =>
   simp only [bZ]
   refine hcase _ ?_
   unfold dF at h1
   rw [if_neg (by simp [Ty.isAgg])] at h1
   obtain ⟨b, off, ds, e, hb, hd, hcell⟩ := h1
   simp at e
   subst e
   exact aDP (by rw [hS]; exact hb) (by rw [hS]; exact hd) hcell
  | _ =>
   simp only [bZ]
   exact hcase _ (aX.ofV (by rw [hS]; exact h1))
 | .unit, _, _, _, _, _, _, _ => fun t => trivial
 | .bool, _, _, _, _, h, _, _ => h.elim
 | .u _, _, _, _, _, h, _, _ => h.elim
 | .i _, _, _, _, _, h, _, _ => h.elim
 | .str, _, _, _, _, h, _, _ => h.elim
 | .sl _, _, _, _, _, h, _, _ => h.elim
 | .arr _ _, _, _, _, _, h, _, _ => h.elim
 | .expr, _, _, _, _, h, _, _ => h.elim
 | .rp _, _, _, _, _, h, _, _ => h.elim
 | .clo _ _, _, _, _, _, h, _, _ => h.elim
theorem aO3 {S : Nat → Prop} : ∀ (t : Ty) (x : t.den) (vs : List Value), pU w S t x vs → vs.length = aMX t
 | .pair a r, x, vs, ⟨v, vs', e, h1, h2⟩ => by subst e; simp [aMX, aO3 r x.2 vs' h2]
 | .unit, _, _, h => by simp only [pU] at h; subst h; rfl
 | .bool, _, _, h => h.elim
 | .u _, _, _, h => h.elim
 | .i _, _, _, h => h.elim
 | .str, _, _, h => h.elim
 | .sl _, _, _, h => h.elim
 | .arr _ _, _, _, h => h.elim
 | .expr, _, _, h => h.elim
 | .rp _, _, _, h => h.elim
 | .clo _ _, _, _, h => h.elim
 | .ifc _ _, _, _, h => h.elim
 | .nili, _, _, h => h.elim
 | .nilp, _, _, h => h.elim
 | .nilf, _, _, h => h.elim
theorem aVF {S S' : Nat → Prop} (hs : ∀ b, S b → S' b) : ∀ {t : Ty} {x : t.den} {vs : List Value}, pU w S t x vs → pU w S' t x vs := by
 intro t
 induction t with
 | unit => intro x vs h; exact h
 | pair a r _ ih => intro x vs ⟨v, vs', e, h1, h2⟩; exact ⟨v, vs', e, h1.keep hs (.refl _ _), ih h2⟩
 | _ => intro x vs h; exact h.elim
def Ty.wf : (t : Ty) → t.den → Prop
 | .u k, n => (n : Int) ≤ k.max
 | .i k, n => fits k n
 | .str, s => s.length ≤ maxLen
 | .sl t, xs => xs.length ≤ maxLen ∧ ∀ x ∈ xs, t.wf x
 | .pair a b, x => a.wf x.1 ∧ b.wf x.2
 | .arr n t, xs => xs.length = n ∧ ∀ x ∈ xs, t.wf x
 | .rp t, x => t.wf x
 | .clo _ t, x => t.wf x
 | .ifc _ t, x => t.wf x
 | _, _ => True
theorem bE.wf {S : Nat → Prop} : ∀ (t : Ty) (x : t.den) (cs : List Value), bE w S t x cs → t.wf x
 | .bool, _, _, _ => trivial
 | .u k, _, _, hr => hr.2.2
 | .i k, _, _, hr => hr.2.2
 | .str, _, _, ⟨s, _, he, hs⟩ => by subst he; simp only [Ty.wf]; rw [qX]; exact hs
 | .sl t, xs, _, ⟨a, len, cap, _, h1, h2, h3, h4⟩ => by
  refine ⟨by rw [h1]; omega, fun x hx => ?_⟩
  rcases h4 with rfl | ⟨b, off, _, _, hel⟩
  ·cases hx
  ·obtain ⟨i, hi, rfl⟩ := List.mem_iff_getElem.1 hx
   obtain ⟨ds, hd, _⟩ := hel i hi
   exact bE.wf t _ _ hd
 | .unit, _, _, _ => trivial
 | .pair a b, _, _, ⟨c1, c2, _, h1, h2⟩ => ⟨bE.wf a _ _ h1, bE.wf b _ _ h2⟩
 | .arr n t, xs, _, ⟨hn, css, _, hl, hr⟩ => ⟨hn, fun x hx => by
  obtain ⟨i, hi, rfl⟩ := List.mem_iff_getElem.1 hx
  exact bE.wf t _ _ (hr i hi (by omega))⟩
 | .expr, _, _, _ => trivial
 | .rp t, _, _, ⟨_, _, ds, _, _, hd, _⟩ => bE.wf t _ _ hd
 | .clo _ t, _, _, ⟨_, _, hd⟩ => bE.wf t _ _ hd
 | .ifc _ t, _, _, ⟨_, _, _, _, _, hd⟩ => bE.wf t _ _ hd
 | .nili, _, _, _ => trivial
 | .nilp, _, _, _ => trivial
 | .nilf, _, _, _ => trivial
theorem aKf {S : Nat → Prop} : ∀ (t : Ty) (x : t.den) (vs : List Value), pU w S t x vs → t.wf x
 | .pair a r, x, vs, ⟨v, vs', e, h1, h2⟩ => ⟨bE.wf a _ _ h1.cells, aKf r _ _ h2⟩
 | .unit, _, _, _ => trivial
 | .bool, _, _, h => h.elim
 | .u _, _, _, h => h.elim
 | .i _, _, _, h => h.elim
 | .str, _, _, h => h.elim
 | .sl _, _, _, h => h.elim
 | .arr _ _, _, _, h => h.elim
 | .expr, _, _, h => h.elim
 | .rp _, _, _, h => h.elim
 | .clo _ _, _, _, h => h.elim
 | .ifc _ _, _, _, h => h.elim
 | .nili, _, _, h => h.elim
 | .nilp, _, _, h => h.elim
 | .nilf, _, _, h => h.elim
theorem fG {n : Int} : fits .i64 n ↔ -9223372036854775808 ≤ n ∧ n ≤ 9223372036854775807 := by
 simp [fits, IntKind.min, IntKind.max, IntKind.signed, IntKind.bits]
theorem aVG : maxLen = 9223372036854775807 := rfl
def post (P : Program) (fn : Func) (S : Nat → Prop) (w0 : World) (r : RK) (y : r.ty.den) : Exit → Act → World → Prop :=
 bodyPost P fn fun e w' => ∃ v, e = .returned v ∧ iY nothing w0 w' ∧ aVr w' S w0.heap.size r y v
theorem aTP {f : FuncId} {fn : Func} {body : Code} {sp : aI} (hE : iE P E) (hf : P.funcs[f]? = some fn) (hb : fn.body = some body) (hok : iA fn.ntmps body = true) (hn : aMX sp.args ≤ fn.ntmps)
  (ht : ∀ (w0 : World) (S : Nat → Prop) (x : sp.args.den), sp.args.wf x → sp.pre x → Tri (fr P E S w0 fn.ntmps) body (post P fn S w0 sp.res (sp.fn x)) (bZ sp.args x 0) []) : FOK P E.G f sp := by
 intro w S vs x hS hG ha hp
 refine calls_of_wp hf hb ?_
 refine ht w S x (aKf _ _ _ ha) hp hok ⟨S, fun _ => Go.undef, 0, fun _ _ => False⟩ _ w ⟨⟨rfl, .refl _ _, hS, fun b hb _ => .inl hb, fun i o ho => by simp at ho, fun i o b ho => by simp at ho, fun i j oi oj b hi => by simp at hi, ⟨Nat.le_refl _, fun i hi => absurd hi (Nat.not_lt_zero i)⟩⟩, hG, ?_, ?_, rfl⟩
 ·refine aO2 _ x 0 vs.toList _ ha rfl fun i v hv => ?_
  have hlt : i < vs.size := by
   rcases Nat.lt_or_ge i vs.size with hh | hh
   ·exact hh
   ·rw [List.getElem?_eq_none (by simpa using hh)] at hv; cases hv
  simp only [Nat.zero_add]
  have : vs[i]? = some v := by rw [← Array.getElem?_toList]; exact hv
  simp [Array.getElem?_append, hlt]
  rw [Array.getElem?_eq_getElem hlt] at this
  simpa using this
 ·have := aO3 _ _ _ ha
  simp at this
  simp
  omega
def aIM : List Value → Value
 | [v] => v
 | vs => .tuple vs.toArray
end
end Go.Vc
namespace Go.Vc
open Go.RowKit
def aEY (e : TypeId) (m : Mk) (t : Ty) (xs : List t.den) : Obj := match m with
 | .no => .row e t xs
 | .sl e' m' => .tre e (.sl e' m') t xs
 | .pair a b => .tre e (.pair a b) t xs
section
variable {P : Program} {E : Env} {T : Tab} {M : Perm} {w0 : World} {c : Ctx} {h : List Obj} {w : World}
theorem flatten_nil {α : Type} {Bs : List (List α)} (h : ∀ i (h : i < Bs.length), Bs[i] = []) : Bs.flatten = [] := by
 induction Bs with
 | nil => rfl
 | cons a r ih =>
  have h0 := h 0 (by simp)
  simp only [List.getElem_cons_zero] at h0
  rw [List.flatten_cons, h0, ih (fun i hi => by have := h (i + 1) (by simpa using hi); simpa using this)]; rfl
theorem aKg {S : Nat → Prop} {t : Ty} {x : t.den} {cs : List Value} {B : List Nat} (h : kT w S t .no x cs B) : bE w S t x cs ∧ B = [] := by cases t <;> exact h
theorem aFI {S : Nat → Prop} {t : Ty} {x : t.den} {cs : List Value} (h : bE w S t x cs) : kT w S t .no x cs [] := by cases t <;> exact ⟨h, rfl⟩
theorem aYa {S : Nat → Prop} {e : TypeId} {t : Ty} {xs : List t.den} {v : Value} {vals : List Value} (hown : w.ownsRow 0 e t.cells v xs.length vals) (hr : bE w S (.arr xs.length t) xs vals) : kT w S (.sl t) (.sl e .no) xs [v] (hdB v) := by
 obtain ⟨_, css, e1, hl, hr⟩ := hr
 subst e1
 refine ⟨v, css, List.replicate xs.length [], rfl, hown, hl, by simp, ?_, fun i h h1 h2 => ?_⟩
 ·rw [flatten_nil (fun i hi => by simp), List.append_nil]
 ·simp only [List.getElem_replicate]
  exact aFI (hr i h h1)
theorem aUS {S : Nat → Prop} {e : TypeId} {t : Ty} {xs : List t.den} {v : Value} {B : List Nat} (h : kT w S (.sl t) (.sl e .no) xs [v] B) : (∃ vals, w.ownsRow 0 e t.cells v xs.length vals ∧ bE w S (.arr xs.length t) xs vals) ∧ B = hdB v := by
 obtain ⟨v', css, Bs, e1, h1, h2, h3, h4, h5⟩ := h
 obtain rfl := (List.cons.inj e1).1
 refine ⟨⟨css.flatten, h1, rfl, css, rfl, h2, fun i q1 q2 => (aKg (h5 i q1 q2 (by omega))).1⟩, ?_⟩
 rw [h4, flatten_nil (fun i hi => (aKg (h5 i (by omega) (by omega) hi)).2), List.append_nil]
theorem zQ {v : Value} {b : Nat} : b ∈ hdB v ↔ aW v = some b := by
 unfold hdB
 cases hv : aW v with
 | none => simp
 | some x => simp [eq_comm]
theorem aQ9 (v : Value) : (hdB v).Nodup := by
 unfold hdB
 cases aW v <;> simp
theorem aVH {i : Nat} {e : TypeId} {m : Mk} {t : Ty} {xs : List t.den} (h : aFv c w i (aEY e m t xs)) : ∃ B, kT w c.S (.sl t) (.sl e m) xs [c.hd i] B ∧ B.Nodup ∧ ∀ b ∈ B, fN c i (aEY e m t xs) b := by
 cases m with
 | no =>
  obtain ⟨vals, h1, h2⟩ := h
  exact ⟨_, aYa h1 h2, aQ9 _, fun b hb => zQ.1 hb⟩
 | sl e' m' => exact h
 | pair a b => exact h
theorem aRa {i : Nat} {e : TypeId} {m : Mk} {t : Ty} {xs : List t.den} {B : List Nat} (h : kT w c.S (.sl t) (.sl e m) xs [c.hd i] B) (hn : B.Nodup) (hb : ∀ b ∈ B, c.bl i b) : aFv c w i (aEY e m t xs) := by
 cases m with
 | no => exact (aUS h).1
 | sl e' m' => exact ⟨B, h, hn, hb⟩
 | pair a b => exact ⟨B, h, hn, hb⟩
theorem aRb {i : Nat} {e : TypeId} {m : Mk} {t : Ty} {xs : List t.den} {B : List Nat} (h : kT w c.S (.sl t) (.sl e m) xs [c.hd i] B) (hb : ∀ b, c.bl i b → b ∈ B) {b : Nat} (ho : fN c i (aEY e m t xs) b) : b ∈ B := by
 cases m with
 | no => rw [(aUS h).2]; exact zQ.2 ho
 | sl e' m' => exact hb b ho
 | pair a b' => exact hb b ho
def aDe : (t : Ty) → Mk → t.den → Nat → List AV × List Obj
 | .pair (.sl t) r, .pair (.sl e m) mr, x, n => (.own n :: (aDe r mr x.2 (n + 1)).1, aEY e m t x.1 :: (aDe r mr x.2 (n + 1)).2)
 | .pair a r, .pair .no mr, x, n => (.val a x.1 :: (aDe r mr x.2 n).1, (aDe r mr x.2 n).2)
 | .pair a r, .no, x, n => (.val a x.1 :: (aDe r .no x.2 n).1, (aDe r .no x.2 n).2)
 | _, _, _, _ => ([], [])
def uR : Ty → Mk → Bool
 | .pair (.sl t) r, .pair (.sl e m) mr => uR r mr
 | .pair a r, .pair .no mr => uR r mr
 | .pair a r, .no => uR r .no
 | .unit, .no => true
 | _, _ => false
def aDT : (t : Ty) → Mk → t.den → Nat → AV × List Obj
 | .sl t, .sl e m, xs, n => (.own n, [aEY e m t xs])
 | t, m, x, n => (.agg (aDe t m x n).1, (aDe t m x n).2)
def aLG : Ty → Mk → Bool
 | .sl _, .sl _ _ => true
 | t, m => uR t m
structure aHt (w : World) (S : Nat → Prop) (os : List Obj) (hs : List Value) (bs : List (List Nat)) : Prop where
 lh : hs.length = os.length
 lb : bs.length = os.length
 ob : ∀ i (h1 : i < os.length) (h2 : i < hs.length) (h3 : i < bs.length), ∃ e m t xs, os[i] = aEY e m t xs ∧ kT w S (.sl t) (.sl e m) xs [hs[i]] bs[i]
theorem aHt.nil {S : Nat → Prop} : aHt w S [] [] [] := ⟨rfl, rfl, fun i h => by simp at h⟩
theorem aHt.cons {S : Nat → Prop} {os : List Obj} {hs : List Value} {bs : List (List Nat)} (hr : aHt w S os hs bs) {e : TypeId} {m : Mk} {t : Ty} {xs : List t.den} {v : Value} {B : List Nat} (h : kT w S (.sl t) (.sl e m) xs [v] B) : aHt w S (aEY e m t xs :: os) (v :: hs) (B :: bs) := by
 refine ⟨by simp [hr.lh], by simp [hr.lb], fun i h1 h2 h3 => ?_⟩
 cases i with
 | zero => exact ⟨e, m, t, xs, rfl, h⟩
 | succ i => exact hr.ob i (by simpa using h1) (by simpa using h2) (by simpa using h3)
def aWD (c : Ctx) (n : Nat) (hs : List Value) : Prop := ∀ i (h : i < hs.length), n + i < c.n ∧ c.hd (n + i) = hs[i]
theorem aRc {w' : World} {c' : Ctx} {e : TypeId} {m : Mk} {t : Ty} {xs : List t.den} {v : Value} {B : List Nat} {S : Nat → Prop} (h : kT w S (.sl t) (.sl e m) xs [v] B) {n : Nat} (hn : n < c'.n) (hd : c'.hd n = v) : aN c' w' (.own n) [v] := by
 obtain ⟨v', css, Bs, e1, h1, _⟩ := h
 obtain rfl := (List.cons.inj e1).1
 obtain ⟨a, k, q, e2⟩ := kJ h1
 exact ⟨hn, by rw [hd], by rw [hd, e2]; trivial⟩
theorem aWE {S : Nat → Prop} : ∀ (t : Ty) (m : Mk) (x : t.den) (cs : List Value) (B : List Nat) (n : Nat), uR t m = true → kT w S t m x cs B →
  ∃ hs bs, aHt w S (aDe t m x n).2 hs bs ∧ B = bs.flatten ∧ ∀ c' : Ctx, (∀ b, S b → c'.S b) → aWD c' n hs → lT c' w (aDe t m x n).1 cs := by
 intro t
 induction t with
 | pair a r iha ihr =>
  intro m x cs B n hb hr
  have plain : ∀ mr, uR r mr = true → (∃ c1 c2 B2, cs = c1 ++ c2 ∧ B = B2 ∧ bE w S a x.1 c1 ∧ kT w S r mr x.2 c2 B2) →
    ∃ hs bs, aHt w S (aDe r mr x.2 n).2 hs bs ∧ B = bs.flatten ∧ ∀ c' : Ctx, (∀ b, S b → c'.S b) → aWD c' n hs → lT c' w (.val a x.1 :: (aDe r mr x.2 n).1) cs := by
   rintro mr hb ⟨c1, c2, B2, e1, e2, q1, q2⟩
   obtain ⟨hs, bs, k1, k2, k3⟩ := ihr mr x.2 c2 B2 n hb q2
   exact ⟨hs, bs, k1, by rw [e2, k2], fun c' hS hH => ⟨c1, c2, e1, bE.keep hS (.refl _ _) _ _ _ q1, k3 c' hS hH⟩⟩
  have noP : ∀ {w : World} {S : Nat → Prop} {x : (Ty.pair a r).den} {cs : List Value} {B : List Nat}, kT w S (.pair a r) .no x cs B → bE w S (.pair a r) x cs ∧ B = [] := fun h => h
  cases m with
  | sl e m => cases a <;> simp [uR] at hb
  | no =>
   have hb : uR r .no = true := by cases a <;> exact hb
   obtain ⟨⟨c1, c2, e1, q1, q2⟩, e2⟩ := hr
   have := plain .no hb ⟨c1, c2, [], e1, e2, q1, aFI q2⟩
   cases a <;> exact this
  | pair ma mr =>
   obtain ⟨c1, c2, B1, B2, e1, e2, q1, q2⟩ := hr
   cases ma with
   | no =>
    have hb : uR r mr = true := by cases a <;> exact hb
    obtain ⟨q3, e3⟩ := aKg q1
    have := plain mr hb ⟨c1, c2, B2, e1, by rw [e2, e3]; rfl, q3, q2⟩
    cases a <;> exact this
   | pair _ _ => cases a <;> simp [uR] at hb
   | sl e m =>
    cases a with
    | sl t =>
     have hb : uR r mr = true := hb
     obtain ⟨hs, bs, k1, k2, k3⟩ := ihr mr x.2 c2 B2 (n + 1) hb q2
     have q1' := q1
     obtain ⟨v, css, Bs, e3, _⟩ := q1'
     subst e3
     refine ⟨v :: hs, B1 :: bs, k1.cons q1, by rw [e2, k2]; rfl, fun c' hS hH => ⟨[v], c2, e1, aRc q1 (hH 0 (by simp)).1 (hH 0 (by simp)).2, k3 c' hS fun i hi => ?_⟩⟩
     have := hH (i + 1) (by simpa using hi)
     rw [show n + 1 + i = n + (i + 1) from by omega]
     simpa using this
    | _ => simp [uR] at hb
 | unit =>
  intro m x cs B n hb hr
  cases m <;> simp [uR] at hb
  obtain ⟨hr, e⟩ := aKg hr
  exact ⟨[], [], aHt.nil, by rw [e]; rfl, fun c' _ _ => hr⟩
 | _ => intro m x cs B n hb hr; cases m <;> simp [uR] at hb
theorem aWF {S : Nat → Prop} {t : Ty} {m : Mk} {x : t.den} {cs : List Value} {B : List Nat} {n : Nat} (hb : aLG t m = true) (hr : kT w S t m x cs B) :
  ∃ hs bs, aHt w S (aDT t m x n).2 hs bs ∧ B = bs.flatten ∧ ∀ c' : Ctx, (∀ b, S b → c'.S b) → aWD c' n hs → aN c' w (aDT t m x n).1 cs := by
 have main : uR t m = true → (aDT t m x n) = (.agg (aDe t m x n).1, (aDe t m x n).2) → ∃ hs bs, aHt w S (aDT t m x n).2 hs bs ∧ B = bs.flatten ∧ ∀ c' : Ctx, (∀ b, S b → c'.S b) → aWD c' n hs → aN c' w (aDT t m x n).1 cs := fun hb e => by
  rw [e]
  obtain ⟨hs, bs, k1, k2, k3⟩ := aWE t m x cs B n hb hr
  exact ⟨hs, bs, k1, k2, fun c' hS hH => by simp only [aN]; exact k3 c' hS hH⟩
 cases t with
 | sl t =>
  cases m with
  | sl e m =>
   have q1' := hr
   obtain ⟨v, css, Bs, e3, _⟩ := q1'
   subst e3
   exact ⟨[v], [B], aHt.nil.cons hr, by simp, fun c' hS hH => aRc hr (hH 0 (by simp)).1 (hH 0 (by simp)).2⟩
  | _ => simp [aLG, uR] at hb
 | _ => exact main (by cases m <;> exact hb) (by cases m <;> rfl)
def zR (h : List Obj) (e : TypeId) (m : Mk) (t : Ty) : AV → Option (List t.den × List Nat)
 | .nilS => some ([], [])
 | .own j => match h[j]? with
  | some (.row e' t' xs) => if m = .no ∧ e' = e then (aBE t' t xs).map fun ys => (ys, [j]) else none
  | some (.tre e' m' t' xs) => if m' = m ∧ e' = e then (aBE t' t xs).map fun ys => (ys, [j]) else none
  | _ => none
 | _ => none
def oR (h : List Obj) : (t : Ty) → Mk → List AV → Option (t.den × List Nat)
 | .pair (.sl t) r, .pair (.sl e m) mr, v :: vs => match zR h e m t v, oR h r mr vs with
  | some (x, l), some (y, l') => some ((x, y), l ++ l')
  | _, _ => none
 | .pair a r, .pair .no mr, v :: vs => match AV.as (h.map gB) a v, oR h r mr vs with
  | some x, some (y, l') => some ((x, y), l')
  | _, _ => none
 | .pair a r, .no, v :: vs => match AV.as (h.map gB) a v, oR h r .no vs with
  | some x, some (y, l') => some ((x, y), l')
  | _, _ => none
 | .unit, .no, [] => some ((), [])
 | _, _, _ => none
def xU (h : List Obj) : (t : Ty) → Mk → AV → Option (t.den × List Nat)
 | .sl t, .sl e m, v => zR h e m t v
 | t, .no, v => (AV.as (h.map gB) t v).map fun x => (x, [])
 | t, m, .agg vs => oR h t m vs
 | _, _, _ => none
def nZ (c : Ctx) (h : List Obj) (l : List Nat) (b : Nat) : Prop := ∃ j o, j ∈ l ∧ h[j]? = some o ∧ fN c j o b
theorem aLH (hg : Good M w0 c h w) {l l' : List Nat} {B B' : List Nat} (h1 : B.Nodup) (h2 : B'.Nodup) (h3 : ∀ b ∈ B, nZ c h l b) (h4 : ∀ b ∈ B', nZ c h l' b) (hl : (l ++ l').Nodup) : (B ++ B').Nodup := by
 refine List.nodup_append.2 ⟨h1, h2, fun a ha b hb e => ?_⟩
 subst e
 obtain ⟨j, o, k1, k2, k3⟩ := h3 a ha
 obtain ⟨j', o', q1, q2, q3⟩ := h4 a hb
 have := hg.sep j j' o o' a k2 q2 k3 q3
 subst this
 exact (List.nodup_append.1 hl).2.2 j k1 j q1 rfl
theorem sM {l l' : List Nat} (hs : ∀ j ∈ l, j ∈ l') {b : Nat} (h1 : nZ c h l b) : nZ c h l' b := by
 obtain ⟨j, o, k1, k2⟩ := h1
 exact ⟨j, o, hs j k1, k2⟩
theorem aJm (hg : Good M w0 c h w) {e : TypeId} {m : Mk} {t : Ty} {v : AV} {x : List t.den} {l : List Nat} {cs : List Value} (ha : zR h e m t v = some (x, l)) (hr : aN c w v cs) :
  ∃ B, kT w c.S (.sl t) (.sl e m) x cs B ∧ B.Nodup ∧ ∀ b ∈ B, nZ c h l b := by
 cases v with
 | nilS =>
  simp only [zR, Option.some.injEq, Prod.mk.injEq] at ha
  obtain ⟨rfl, rfl⟩ := ha
  simp only [aN] at hr
  exact ⟨[], ⟨.slice none 0 0, [], [], hr, World.ownsRow_nil w 0 e t.cells, rfl, rfl, rfl, fun i h => by simp at h⟩, List.nodup_nil, fun b hb => by cases hb⟩
 | own j =>
  simp only [aN] at hr
  obtain ⟨_, rfl, _⟩ := hr
  have main : ∀ (xs : List t.den), h[j]? = some (aEY e m t xs) → ∃ B, kT w c.S (.sl t) (.sl e m) xs [c.hd j] B ∧ B.Nodup ∧ ∀ b ∈ B, nZ c h [j] b := fun xs ho => by
   obtain ⟨B, h1, h2, h3⟩ := aVH (hg.objs j _ ho)
   exact ⟨B, h1, h2, fun b hb => ⟨j, _, by simp, ho, h3 b hb⟩⟩
  simp only [zR] at ha
  split at ha
  ·rename_i e' t' xs ho
   split at ha
   ·rename_i hc
    obtain ⟨rfl, rfl⟩ := hc
    cases hcast : aBE t' t xs with
    | none => rw [hcast] at ha; cases ha
    | some ys =>
     obtain ⟨rfl, rfl⟩ := aDc hcast
     rw [hcast] at ha
     simp only [Option.map_some, Option.some.injEq, Prod.mk.injEq] at ha
     obtain ⟨rfl, rfl⟩ := ha
     exact main _ ho
   ·cases ha
  ·rename_i e' m' t' xs ho
   split at ha
   ·rename_i hc
    obtain ⟨rfl, rfl⟩ := hc
    cases hcast : aBE t' t xs with
    | none => rw [hcast] at ha; cases ha
    | some ys =>
     obtain ⟨rfl, rfl⟩ := aDc hcast
     rw [hcast] at ha
     simp only [Option.map_some, Option.some.injEq, Prod.mk.injEq] at ha
     obtain ⟨rfl, rfl⟩ := ha
     obtain ⟨B, q1, q2, q3⟩ := hg.objs j _ ho
     exact ⟨B, q1, q2, fun b hb => ⟨j, _, by simp, ho, q3 b hb⟩⟩
   ·cases ha
  ·cases ha
 | _ => simp [zR] at ha
theorem aTQ (hg : Good M w0 c h w) {t : Ty} {v : AV} {x : t.den} {cs : List Value} (ha : AV.as (h.map gB) t v = some x) (hr : aN c w v cs) : bE w c.S t x cs :=
 bE.keep aLx (.refl _ _) _ _ _ (aYW hg.frz t v x cs ha hr).1
theorem aJn (hg : Good M w0 c h w) : ∀ (t : Ty) (m : Mk) (vs : List AV) (x : t.den) (l : List Nat) (cs : List Value), oR h t m vs = some (x, l) → l.Nodup → lT c w vs cs →
  ∃ B, kT w c.S t m x cs B ∧ B.Nodup ∧ ∀ b ∈ B, nZ c h l b := by
 intro t
 induction t with
 | pair a r iha ihr =>
  intro m vs x l cs ha hl hr
  cases vs with
  | nil => cases m <;> first | (simp [oR] at ha; done) | (rename_i ma mr; cases ma <;> cases a <;> simp [oR] at ha)
  | cons v vs =>
   simp only [lT] at hr
   obtain ⟨c1, c2, e1, h1, h2⟩ := hr
   subst e1
   have plain : ∀ mr, (match AV.as (h.map gB) a v, oR h r mr vs with | some x, some (y, l') => some ((x, y), l') | _, _ => none) = some (x, l) → ∃ B, bE w c.S a x.1 c1 ∧ kT w c.S r mr x.2 c2 B ∧ B.Nodup ∧ ∀ b ∈ B, nZ c h l b := fun mr ha => by
    split at ha
    ·rename_i xa ya l' k1 k2
     simp only [Option.some.injEq, Prod.mk.injEq] at ha
     obtain ⟨rfl, rfl⟩ := ha
     obtain ⟨B, q1, q2, q3⟩ := ihr mr vs _ _ c2 k2 hl h2
     exact ⟨B, aTQ hg k1 h1, q1, q2, q3⟩
    ·cases ha
   cases m with
   | sl e m => cases a <;> simp [oR] at ha
   | no =>
    have ha : (match AV.as (h.map gB) a v, oR h r .no vs with | some x, some (y, l') => some ((x, y), l') | _, _ => none) = some (x, l) := by cases a <;> exact ha
    obtain ⟨B, q1, q2, q3, q4⟩ := plain .no ha
    obtain ⟨q5, e5⟩ := aKg q2
    subst e5
    exact ⟨[], ⟨⟨c1, c2, rfl, q1, q5⟩, rfl⟩, q3, q4⟩
   | pair ma mr =>
    cases ma with
    | no =>
     have ha : (match AV.as (h.map gB) a v, oR h r mr vs with | some x, some (y, l') => some ((x, y), l') | _, _ => none) = some (x, l) := by cases a <;> exact ha
     obtain ⟨B, q1, q2, q3, q4⟩ := plain mr ha
     exact ⟨B, ⟨c1, c2, [], B, rfl, rfl, aFI q1, q2⟩, q3, q4⟩
    | pair _ _ => cases a <;> simp [oR] at ha
    | sl e m =>
     cases a with
     | sl t =>
      simp only [oR] at ha
      split at ha
      ·rename_i xa la ya lb k1 k2
       simp only [Option.some.injEq, Prod.mk.injEq] at ha
       obtain ⟨rfl, rfl⟩ := ha
       have hl' := List.nodup_append.1 hl
       obtain ⟨B1, p1, p2, p3⟩ := aJm hg k1 h1
       obtain ⟨B2, q1, q2, q3⟩ := ihr mr vs _ _ c2 k2 hl'.2.1 h2
       refine ⟨B1 ++ B2, ⟨c1, c2, B1, B2, rfl, rfl, p1, q1⟩, aLH hg p2 q2 p3 q3 hl, fun b hb => ?_⟩
       rcases List.mem_append.1 hb with hb | hb
       ·exact sM (fun j hj => List.mem_append_left _ hj) (p3 b hb)
       ·exact sM (fun j hj => List.mem_append_right _ hj) (q3 b hb)
      ·cases ha
     | _ => simp [oR] at ha
 | unit =>
  intro m vs x l cs ha hl hr
  cases m <;> cases vs <;> simp [oR] at ha
  subst ha
  exact ⟨[], ⟨hr, rfl⟩, List.nodup_nil, fun b hb => by cases hb⟩
 | _ => intro m vs x l cs ha; cases m <;> cases vs <;> simp [oR] at ha
theorem aO4 (hg : Good M w0 c h w) {t : Ty} {m : Mk} {v : AV} {x : t.den} {l : List Nat} {cs : List Value} (ha : xU h t m v = some (x, l)) (hl : l.Nodup) (hr : aN c w v cs) :
  ∃ B, kT w c.S t m x cs B ∧ B.Nodup ∧ ∀ b ∈ B, nZ c h l b := by
 cases m with
 | no =>
  have ha : (AV.as (h.map gB) t v).map (fun x => (x, ([] : List Nat))) = some (x, l) := by cases t <;> exact ha
  cases hx : AV.as (h.map gB) t v with
  | none => rw [hx] at ha; cases ha
  | some y =>
   rw [hx] at ha
   simp only [Option.map_some, Option.some.injEq, Prod.mk.injEq] at ha
   obtain ⟨rfl, rfl⟩ := ha
   exact ⟨[], aFI (aTQ hg hx hr), List.nodup_nil, fun b hb => by cases hb⟩
 | sl e m =>
  cases t with
  | sl t => exact aJm hg ha hr
  | pair a r => cases v <;> first | (simp [xU] at ha; done) | exact aJn hg _ _ _ _ _ _ ha hl (by simpa [aN] using hr)
  | unit => cases v <;> first | (simp [xU] at ha; done) | exact aJn hg _ _ _ _ _ _ ha hl (by simpa [aN] using hr)
  | _ => cases v <;> first | (simp [xU] at ha; done) | (rename_i vs; cases vs <;> simp [xU, oR] at ha)
 | pair ma mr =>
  cases t <;> cases v <;> first | (simp [xU] at ha; done) | exact aJn hg _ _ _ _ _ _ ha hl (by simpa [aN] using hr) | (rename_i vs; cases vs <;> simp [xU, oR] at ha)
end
end Go.Vc
namespace Go.Vc
open Go.RowKit
def oA : List Nat → List Obj → List Obj
 | [], h => h
 | i :: r, h => oA r (h.set i .dead)
theorem nK : ∀ (l : List Nat) (h : List Obj), (oA l h).length = h.length
 | [], h => rfl
 | i :: r, h => by rw [oA, nK r]; simp
theorem aBF : ∀ (l : List Nat) (h : List Obj) (i : Nat), i ∉ l → (oA l h)[i]? = h[i]?
 | [], h, i, _ => rfl
 | j :: r, h, i, hn => by
  simp only [List.mem_cons, not_or] at hn
  rw [oA, aBF r _ i hn.2, List.getElem?_set_ne (fun e => hn.1 e.symm)]
theorem aCu : ∀ (l : List Nat) (h : List Obj) (i : Nat) (o : Obj), i ∈ l → (oA l h)[i]? = some o → o = .dead
 | [], h, i, o, hi, _ => by cases hi
 | j :: r, h, i, o, hi, ho => by
  rw [oA] at ho
  by_cases hr : i ∈ r
  ·exact aCu r _ i o hr ho
  ·rw [aBF r _ i hr] at ho
   have : i = j := by rcases List.mem_cons.1 hi with h | h; exact h; exact absurd h hr
   subst this
   by_cases hl : i < h.length
   ·simp [hl] at ho; exact ho.symm
   ·rw [List.getElem?_eq_none (by simp; omega)] at ho; cases ho
section
variable {P : Program} {E : Env} {T : Tab} {M : Perm} {w0 : World} {c : Ctx} {h : List Obj} {w : World}
def Ctx.pushB (c : Ctx) (v : Value) (B : Nat → Prop) : Ctx := ⟨c.S, fun i => if i = c.n then v else c.hd i, c.n + 1, fun i => if i = c.n then B else c.bl i⟩
theorem Ctx.le_pushB (c : Ctx) (v : Value) (B : Nat → Prop) : c.le (c.pushB v B) := ⟨fun _ h => h, Nat.le_succ _, fun i hi => by simp [Ctx.pushB, Nat.ne_of_lt hi]⟩
theorem Good.remake (hg : Good M w0 c h w) (l : List Nat) {w' : World} {o : Obj} {v' : Value} {B : Nat → Prop} (hos : w'.os = w.os) (htp : w'.tape = w.tape) (hout : w'.output = w.output) (hsz : w.heap.size ≤ w'.heap.size)
  (hsame : ∀ b, b < w.heap.size → ¬ nZ c h l b → w'.heap[b]? = w.heap[b]?) (hob : aFv (c.pushB v' B) w' c.n o)
  (hown : ∀ b, fN (c.pushB v' B) c.n o b → nZ c h l b ∨ (w.heap.size ≤ b ∧ b < w'.heap.size)) :
  Good M w0 (c.pushB v' B) (oA l h ++ [o]) w' ∧ dZ c w (c.pushB v' B) w' := by
 have hany : ∀ b, nZ c h l b → (w0.heap.size ≤ b ∨ M.wr b) ∧ b < w.heap.size ∧ ¬ c.S b := fun b ⟨j, oj, _, h2, h3⟩ => hg.own j oj b h2 h3
 have hl : dZ c w (c.pushB v' B) w' := ⟨c.le_pushB v' B, fun b hb => hsame b (hg.sfin b hb) (fun ha => (hany b ha).2.2 hb)⟩
 have hcase : ∀ j o', (oA l h ++ [o])[j]? = some o' → (h[j]? = some o' ∧ j < c.n ∧ j ∉ l) ∨ (j = c.n ∧ o' = o) ∨ o' = .dead := fun j o' hj => by
  have hkl := nK l h
  rw [hg.n]
  rcases Nat.lt_trichotomy j h.length with hlt | heq | hgt
  ·rw [List.getElem?_append_left (by rw [hkl]; exact hlt)] at hj
   by_cases hm : j ∈ l
   ·exact .inr (.inr (aCu l h j o' hm hj))
   ·rw [aBF l h j hm] at hj; exact .inl ⟨hj, hlt, hm⟩
  ·subst heq
   rw [List.getElem?_append_right (by rw [hkl]; exact Nat.le_refl _), hkl] at hj
   simp at hj; exact .inr (.inl ⟨rfl, hj.symm⟩)
  ·rw [List.getElem?_append_right (by rw [hkl]; omega), List.getElem?_eq_none (by simp [hkl]; omega)] at hj; cases hj
 have hold : ∀ j oj, j < c.n → fN (c.pushB v' B) j oj = fN c j oj := fun j oj hj => gK hl.le (by simp [Ctx.pushB, Nat.ne_of_lt hj]) hj oj
 have hfar : ∀ j oj b, h[j]? = some oj → j ∉ l → fN c j oj b → ¬ nZ c h l b := fun j oj b hj hn hb ⟨j', o', h1, h2, h3⟩ => hn (hg.sep j j' oj o' b hj h2 hb h3 ▸ h1)
 refine ⟨⟨by simp [Ctx.pushB, hg.n, nK], ⟨hos.trans hg.keeps.os, htp.trans hg.keeps.tape, hout.trans hg.keeps.output, Nat.le_trans hg.keeps.size hsz, fun b hlt hM => ?_⟩, fun b hb => Nat.lt_of_lt_of_le (hg.sfin b hb) hsz, hg.src, fun j o' hj => ?_, fun j o' b hj hbb => ?_, fun j k oj ok b hj hk' hbj hbk => ?_, zL hg.root hl.le⟩, hl⟩
 ·rw [hsame b (Nat.lt_of_lt_of_le hlt hg.keeps.size) (fun ha => ?_)]
  ·exact hg.keeps.block b hlt hM
  ·rcases (hany b ha).1 with h1 | h1
   ·omega
   ·exact hM h1
 ·rcases hcase j o' hj with ⟨hj', hjn, hne⟩ | ⟨ej, eo⟩ | eo
  ·exact (hg.objs j o' hj').keep hl hjn (by simp [Ctx.pushB, Nat.ne_of_lt hjn]) (fun b hbb => hsame b (hg.own j o' b hj' hbb).2.1 (hfar j o' b hj' hne hbb))
  ·subst ej; subst eo; exact hob
  ·subst eo; trivial
 ·rcases hcase j o' hj with ⟨hj', hjn, hne⟩ | ⟨ej, eo⟩ | eo
  ·rw [hold j o' hjn] at hbb
   obtain ⟨h1, h2, h3⟩ := hg.own j o' b hj' hbb
   exact ⟨h1, Nat.lt_of_lt_of_le h2 hsz, h3⟩
  ·subst ej; subst eo
   rcases hown b hbb with h1 | h1
   ·obtain ⟨q1, q2, q3⟩ := hany b h1
    exact ⟨q1, Nat.lt_of_lt_of_le q2 hsz, q3⟩
   ·exact ⟨.inl (Nat.le_trans hg.keeps.size h1.1), h1.2, fun hS => by have := hg.sfin b hS; omega⟩
  ·subst eo; cases hbb
 ·rcases hcase j oj hj with ⟨hj', hjn, hne⟩ | ⟨ej, eo⟩ | eo
  ·rw [hold j oj hjn] at hbj
   rcases hcase k ok hk' with ⟨hk'', hkn, hne'⟩ | ⟨ek, eo'⟩ | eo'
   ·rw [hold k ok hkn] at hbk
    exact hg.sep j k oj ok b hj' hk'' hbj hbk
   ·subst ek; subst eo'
    rcases hown b hbk with h1 | h1
    ·exact absurd h1 (hfar j oj b hj' hne hbj)
    ·have := (hg.own j oj b hj' hbj).2.1
     omega
   ·subst eo'; cases hbk
  ·subst ej; subst eo
   rcases hcase k ok hk' with ⟨hk'', hkn, hne'⟩ | ⟨ek, eo'⟩ | eo'
   ·rw [hold k ok hkn] at hbk
    rcases hown b hbj with h1 | h1
    ·exact absurd h1 (hfar k ok b hk'' hne' hbk)
    ·have := (hg.own k ok b hk'' hbk).2.1
     omega
   ·exact ek.symm
   ·subst eo'; cases hbk
  ·subst eo; cases hbj
theorem aOx {α : Type} {l : List α} {i : Nat} (h : i < l.length) (d : α) : l.getD i d = l[i] := by rw [List.getD_eq_getElem?_getD, List.getElem?_eq_getElem h]; rfl
theorem aHu {α : Type} {l : List (List α)} {i : Nat} (h : i < l.length) {a : α} (ha : a ∈ l[i]) : a ∈ l.flatten := List.mem_flatten.2 ⟨_, List.getElem_mem h, ha⟩
theorem aHv {α : Type} : ∀ {l : List (List α)}, l.flatten.Nodup → (∀ i (h : i < l.length), (l[i]).Nodup) ∧ ∀ i j (h : i < l.length) (h' : j < l.length) a, a ∈ l[i] → a ∈ l[j] → i = j
 | [], _ => ⟨fun i h => by simp at h, fun i j h => by simp at h⟩
 | x :: r, hn => by
  rw [List.flatten_cons, List.nodup_append] at hn
  obtain ⟨h1, h2, h3⟩ := hn
  obtain ⟨q1, q2⟩ := aHv h2
  refine ⟨fun i h => ?_, fun i j h h' a ha hb => ?_⟩
  ·cases i with
   | zero => exact h1
   | succ i => exact q1 i (by simpa using h)
  ·cases i with
   | zero =>
    cases j with
    | zero => rfl
    | succ j => exact absurd rfl (h3 a ha a (aHu (by simpa using h') (by simpa using hb)))
   | succ i =>
    cases j with
    | zero => exact absurd rfl (h3 a hb a (aHu (by simpa using h) (by simpa using ha)))
    | succ j => rw [q2 i j (by simpa using h) (by simpa using h') a (by simpa using ha) (by simpa using hb)]
theorem aGx {α : Type} {l : List (List α)} {k : Nat} {x : List α} : (l.set k []).flatten.Sublist l.flatten := by
 induction l generalizing k with
 | nil => simp
 | cons a r ih =>
  cases k with
  | zero => simp
  | succ k => simp only [List.set_cons_succ, List.flatten_cons]; exact List.Sublist.append (List.Sublist.refl _) ih
theorem Good.opened (hg : Good M w0 c h w) {i : Nat} {e : TypeId} {m : Mk} {t : Ty} {xs : List t.den} (ho : h[i]? = some (.tre e m t xs)) {k : Nat} (hk : k < xs.length) (hb : aLG t m = true) :
  ∃ c', dZ c w c' w ∧ Good M w0 c' (h.set i (.trh e m t xs k (aDT t m (xs.getD k t.zero) h.length).1) ++ (aDT t m (xs.getD k t.zero) h.length).2) w := by
 obtain ⟨B, ⟨v, css, Bs, e1, h1, h2, h3, h4, h5⟩, hnd, hbl⟩ := hg.objs i _ ho
 obtain rfl : c.hd i = v := (List.cons.inj e1).1
 have hil := mN ho
 have hin : i < c.n := by rw [hg.n]; exact hil
 subst h4
 have hkB : k < Bs.length := by omega
 have hkc : k < css.length := by omega
 rw [aOx hk]
 obtain ⟨hs, bs, k1, k2, k3⟩ := aWF (n := h.length) hb (h5 k hk hkc hkB)
 generalize (aDT t m xs[k] h.length).1 = av at k3 ⊢
 generalize (aDT t m xs[k] h.length).2 = os at k1 ⊢
 have hndB := (List.nodup_append.1 hnd)
 obtain ⟨np1, np2⟩ := aHv hndB.2.1
 obtain ⟨nq1, nq2⟩ := aHv (l := bs) (k2 ▸ np1 k hkB)
 let c' : Ctx := ⟨c.S, fun j => if j < c.n then c.hd j else hs.getD (j - c.n) Go.undef, c.n + os.length, fun j b => if j < c.n then (if j = i then c.bl i b ∧ b ∉ Bs[k] else c.bl j b) else b ∈ bs.getD (j - c.n) []⟩
 have hhd : ∀ j, j < c.n → c'.hd j = c.hd j := fun j hj => by simp [c', hj]
 have hle : c.le c' := ⟨fun _ h => h, Nat.le_add_right _ _, hhd⟩
 have hl : dZ c w c' w := ⟨hle, .refl _ _⟩
 have hH : aWD c' h.length hs := fun q hq => by
  have := k1.lh
  refine ⟨by simp only [c']; rw [hg.n]; omega, ?_⟩
  simp only [c']
  rw [if_neg (by rw [hg.n]; omega), hg.n, Nat.add_sub_cancel_left, aOx hq]
 have hcase : ∀ j oj, (h.set i (.trh e m t xs k av) ++ os)[j]? = some oj → (h[j]? = some oj ∧ j < c.n ∧ j ≠ i) ∨ (j = i ∧ oj = .trh e m t xs k av) ∨ ∃ q, ∃ hq : q < os.length, j = c.n + q ∧ oj = os[q] := fun j oj hj => by
  rw [hg.n]
  rcases Nat.lt_or_ge j h.length with hlt | hge
  ·rw [List.getElem?_append_left (by simpa using hlt)] at hj
   by_cases e' : i = j
   ·subst e'; simp [hil] at hj; exact .inr (.inl ⟨rfl, hj.symm⟩)
   ·rw [List.getElem?_set_ne e'] at hj; exact .inl ⟨hj, hlt, fun h => e' h.symm⟩
  ·rw [List.getElem?_append_right (by simpa using hge)] at hj
   simp only [List.length_set] at hj
   obtain ⟨hq, eq⟩ := List.getElem?_eq_some_iff.1 hj
   exact .inr (.inr ⟨j - h.length, hq, by omega, eq.symm⟩)
 have hold : ∀ j oj, j < c.n → j ≠ i → fN c' j oj = fN c j oj := fun j oj hj hne => gK hle (by funext b; simp [c', hj, hne]) hj oj
 have hnew : ∀ q (hq : q < os.length) (hq3 : q < bs.length) b, fN c' (c.n + q) os[q] b → b ∈ bs[q] := fun q hq hq3 b hob => by
  have hqh : q < hs.length := by rw [k1.lh]; exact hq
  obtain ⟨e', m', t', ys, r1, r2⟩ := k1.ob q hq hqh hq3
  rw [r1] at hob
  have hh := (hH q hqh).2
  rw [← hg.n] at hh
  have hB : ∀ b, c'.bl (c.n + q) b → b ∈ bs[q] := fun b hb => by
   simp only [c'] at hb
   rw [if_neg (by omega), Nat.add_sub_cancel_left, aOx hq3] at hb
   exact hb
  exact aRb (c := c') (w := w) (by rw [hh]; exact r2) hB hob
 have hBk : ∀ q (hq : q < bs.length) b, b ∈ bs[q] → b ∈ Bs[k] := fun q hq b hb => by rw [k2]; exact aHu hq hb
 have hBi : ∀ b, b ∈ Bs[k] → c.bl i b := fun b hb => hbl b (List.mem_append_right _ (aHu hkB hb))
 have hlb := k1.lb
 refine ⟨c', hl, ⟨by simp [c', hg.n], hg.keeps, hg.sfin, hg.src, fun j oj hj => ?_, fun j oj b hj hb => ?_, fun j j' oj oj' b hj hj' hbj hbj' => ?_, zL hg.root hle⟩⟩
 ·rcases hcase j oj hj with ⟨hj, hjn, hne⟩ | ⟨rfl, rfl⟩ | ⟨q, hq, rfl, rfl⟩
  ·exact (hg.objs j oj hj).keep hl hjn (by funext b; simp [c', hjn, hne]) (fun _ _ => rfl)
  ·refine ⟨css, Bs.set k [], ⟨by rw [hhd j hin]; exact h1, h2, by simp [h3], hk, fun x hx q1 q2 hne => ?_, fun q => by simp, fun q => ⟨k3 c' (fun _ h => h) hH, kT.length _ _ _ _ _ (h5 k hk hkc hkB)⟩, ?_, fun b hb => ?_⟩⟩
   ·rw [List.getElem_set_ne (fun e => hne e.symm)]
    exact h5 x hx q1 (by simpa using q2)
   ·rw [hhd j hin]
    exact hnd.sublist (List.Sublist.append (List.Sublist.refl _) (aGx (x := [])))
   ·rw [hhd j hin] at hb
    have hin' : b ∈ hdB (c.hd j) ++ Bs.flatten := by
     rcases List.mem_append.1 hb with hb | hb
     ·exact List.mem_append_left _ hb
     ·exact List.mem_append_right _ ((aGx (x := [])).subset hb)
    simp only [c', hin, if_true]
    refine ⟨hbl b hin', fun hk' => ?_⟩
    rcases List.mem_append.1 hb with hb | hb
    ·exact hndB.2.2 b hb b (aHu hkB hk') rfl
    ·obtain ⟨l, hl1, hl2⟩ := List.mem_flatten.1 hb
     obtain ⟨x, hx, rfl⟩ := List.mem_iff_getElem.1 hl1
     by_cases ex : k = x
     ·subst ex; simp at hl2
     ·rw [List.getElem_set_ne ex] at hl2
      exact ex (np2 k x hkB (by simpa using hx) b hk' hl2)
  ·have hqh : q < hs.length := by rw [k1.lh]; exact hq
   obtain ⟨e', m', t', ys, r1, r2⟩ := k1.ob q hq hqh (by omega)
   have hh := (hH q hqh).2
   rw [← hg.n] at hh
   rw [r1]
   refine aRa (B := bs[q]'(by omega)) (by rw [hh]; exact r2) (nq1 q (by omega)) fun b hb => ?_
   simp only [c']
   rw [if_neg (by omega), Nat.add_sub_cancel_left, aOx (by omega)]
   exact hb
 ·rcases hcase j oj hj with ⟨hj, hjn, hne⟩ | ⟨rfl, rfl⟩ | ⟨q, hq, rfl, rfl⟩
  ·rw [hold j oj hjn hne] at hb; exact hg.own j oj b hj hb
  ·have hb : c'.bl j b := hb
   simp only [c', hin, if_true] at hb
   exact hg.own j _ b ho hb.1
  ·exact hg.own i _ b ho (hBi b (hBk q (by omega) b (hnew q hq (by omega) b hb)))
 ·rcases hcase j oj hj with ⟨hj1, hjn, hne⟩ | ⟨ej, eo⟩ | ⟨q, hq, ej, eo⟩ <;> rcases hcase j' oj' hj' with ⟨hk', hkn, hne'⟩ | ⟨ek, eo'⟩ | ⟨q', hq', ek, eo'⟩
  ·rw [hold j oj hjn hne] at hbj
   rw [hold j' oj' hkn hne'] at hbj'
   exact hg.sep j j' oj oj' b hj1 hk' hbj hbj'
  ·subst ek; subst eo'
   rw [hold j oj hjn hne] at hbj
   have hbj' : c'.bl j' b := hbj'
   simp only [c', hin, if_true] at hbj'
   exact hg.sep j j' oj _ b hj1 ho hbj hbj'.1
  ·subst ek; subst eo'
   rw [hold j oj hjn hne] at hbj
   exact absurd (hg.sep j i oj _ b hj1 ho hbj (hBi b (hBk q' (by omega) b (hnew q' hq' (by omega) b hbj')))) hne
  ·subst ej; subst eo
   rw [hold j' oj' hkn hne'] at hbj'
   have hbj : c'.bl j b := hbj
   simp only [c', hin, if_true] at hbj
   exact (hg.sep j' j oj' _ b hk' ho hbj' hbj.1).symm
  ·rw [ej, ek]
  ·subst ej; subst eo; subst ek; subst eo'
   have hbj : c'.bl j b := hbj
   simp only [c', hin, if_true] at hbj
   exact absurd (hBk q' (by omega) b (hnew q' hq' (by omega) b hbj')) hbj.2
  ·subst ej; subst eo
   rw [hold j' oj' hkn hne'] at hbj'
   exact absurd (hg.sep j' i oj' _ b hk' ho hbj' (hBi b (hBk q (by omega) b (hnew q hq (by omega) b hbj)))) hne'
  ·subst ej; subst eo; subst ek; subst eo'
   have hbj' : c'.bl j' b := hbj'
   simp only [c', hin, if_true] at hbj'
   exact absurd (hBk q (by omega) b (hnew q hq (by omega) b hbj)) hbj'.2
  ·subst ej; subst eo; subst ek; subst eo'
   have := nq2 q q' (by omega) (by omega) b (hnew q hq (by omega) b hbj) (hnew q' hq' (by omega) b hbj')
   rw [this]
theorem Good.closed (hg : Good M w0 c h w) {i : Nat} {e : TypeId} {m : Mk} {t : Ty} {xs : List t.den} {k : Nat} {v : AV} (ho : h[i]? = some (.trh e m t xs k v)) {x : t.den} {l : List Nat} (ha : xU h t m v = some (x, l)) (hnl : l.Nodup) (hil : i ∉ l) :
  ∃ c', dZ c w c' w ∧ Good M w0 c' ((oA l h).set i (.tre e m t (xs.set k x))) w := by
 obtain ⟨css, Bs, q⟩ := hg.objs i _ ho
 have hlc := q.lc
 have hlb := q.lb
 have hk := q.kl
 have hlt := mN ho
 have hin : i < c.n := by rw [hg.n]; exact hlt
 obtain ⟨hv1, hv2⟩ := q.hv (by omega)
 obtain ⟨B, r1, r2, r3⟩ := aO4 hg ha hnl hv1
 let c' : Ctx := ⟨c.S, c.hd, c.n, fun j b => if j = i then c.bl i b ∨ nZ c h l b else c.bl j b⟩
 have hle : c.le c' := ⟨fun _ h => h, Nat.le_refl _, fun _ _ => rfl⟩
 have hl : dZ c w c' w := ⟨hle, .refl _ _⟩
 have hcase : ∀ j oj, ((oA l h).set i (.tre e m t (xs.set k x)))[j]? = some oj → (h[j]? = some oj ∧ j < c.n ∧ j ≠ i ∧ j ∉ l) ∨ (j = i ∧ oj = .tre e m t (xs.set k x)) ∨ oj = .dead := fun j oj hj => by
  by_cases e' : i = j
  ·subst e'; simp [nK, hlt] at hj; exact .inr (.inl ⟨rfl, hj.symm⟩)
  ·rw [List.getElem?_set_ne e'] at hj
   by_cases hm : j ∈ l
   ·exact .inr (.inr (aCu l h j oj hm hj))
   ·rw [aBF l h j hm] at hj
    exact .inl ⟨hj, by rw [hg.n]; exact mN hj, fun e => e' e.symm, hm⟩
 have hold : ∀ j oj, j < c.n → j ≠ i → fN c' j oj = fN c j oj := fun j oj hj hne => gK hle (by funext b; simp [c', hne]) hj oj
 have hfar : ∀ j oj b, h[j]? = some oj → j ∉ l → fN c j oj b → ¬ nZ c h l b := fun j oj b hj hn hb ⟨j', o', h1, h2, h3⟩ => hn (hg.sep j j' oj o' b hj h2 hb h3 ▸ h1)
 have hsets : ∀ j (hj : j < css.length), (css[j]).length = t.cells := fun j hj => by
  by_cases e : j = k
  ·subst e; exact hv2
  ·exact kT.length _ _ _ _ _ (q.el j (by omega) hj (by omega) e)
 refine ⟨c', hl, ⟨by simp [c', hg.n, nK], hg.keeps, hg.sfin, hg.src, fun j oj hj => ?_, fun j oj b hj hb => ?_, fun j j' oj oj' b hj hj' hbj hbj' => ?_, hg.root⟩⟩
 ·rcases hcase j oj hj with ⟨hj, hjn, hne, _⟩ | ⟨rfl, rfl⟩ | rfl
  ·exact (hg.objs j oj hj).keep hl hjn (by funext b; simp [c', hne]) (fun _ _ => rfl)
  ·refine ⟨hdB (c.hd j) ++ (Bs.set k B).flatten, ⟨c.hd j, css, Bs.set k B, rfl, ?_, by simp [hlc], by simp [hlb], rfl, fun z z1 z2 z3 => ?_⟩, ?_, fun b hb => ?_⟩
   ·rw [List.length_set]; exact q.row
   ·by_cases ez : k = z
    ·subst ez
     simp only [List.getElem_set_self]
     exact r1
    ·rw [List.getElem_set_ne ez, List.getElem_set_ne ez]
     exact q.el z (by simpa using z1) z2 (by simpa using z3) (fun e => ez e.symm)
   ·have hd := q.nd
    have e3 : Bs.set k B = Bs.take k ++ B :: Bs.drop (k + 1) := by rw [List.set_eq_take_append_cons_drop, if_pos (by omega)]
    have e4 : Bs = Bs.take k ++ [] :: Bs.drop (k + 1) := by
     have := q.hb (by omega)
     conv => lhs; rw [← List.take_append_drop k Bs, List.drop_eq_getElem_cons (by omega), this]
    rw [e3]
    rw [e4] at hd
    simp only [List.flatten_append, List.flatten_cons, List.nil_append] at hd ⊢
    have hp : (hdB (c.hd j) ++ ((Bs.take k).flatten ++ (B ++ (Bs.drop (k + 1)).flatten))).Perm ((hdB (c.hd j) ++ ((Bs.take k).flatten ++ (Bs.drop (k + 1)).flatten)) ++ B) := by
     simp only [List.append_assoc]
     exact List.Perm.append_left _ (List.Perm.append_left _ List.perm_append_comm)
    refine hp.nodup_iff.2 (List.nodup_append.2 ⟨hd, r2, fun a ha b hb e => ?_⟩)
    subst e
    have : c.bl j a := q.bl a (by
     have hflat : Bs.flatten = (Bs.take k).flatten ++ (Bs.drop (k + 1)).flatten := by
      have := congrArg List.flatten e4
      simpa using this
     rw [hflat]; exact ha)
    exact hfar j _ a ho hil this (r3 a hb)
   ·simp only [c', if_true]
    rcases List.mem_append.1 hb with hb | hb
    ·exact .inl (q.bl b (List.mem_append_left _ hb))
    ·obtain ⟨L, h1, h2⟩ := List.mem_flatten.1 hb
     rcases List.mem_or_eq_of_mem_set h1 with h1 | h1
     ·exact .inl (q.bl b (List.mem_append_right _ (List.mem_flatten.2 ⟨L, h1, h2⟩)))
     ·subst h1; exact .inr (r3 b h2)
  ·trivial
 ·rcases hcase j oj hj with ⟨hj, hjn, hne, _⟩ | ⟨rfl, rfl⟩ | rfl
  ·rw [hold j oj hjn hne] at hb; exact hg.own j oj b hj hb
  ·have hb : c'.bl j b := hb
   simp only [c', if_true] at hb
   rcases hb with hb | ⟨j', o', h1, h2, h3⟩
   ·exact hg.own j _ b ho hb
   ·exact hg.own j' o' b h2 h3
  ·cases hb
 ·rcases hcase j oj hj with ⟨hj1, hjn, hne, hnl1⟩ | ⟨ej, eo⟩ | eo
  ·rw [hold j oj hjn hne] at hbj
   rcases hcase j' oj' hj' with ⟨hk', hkn, hne', hnl2⟩ | ⟨ek, eo'⟩ | eo'
   ·rw [hold j' oj' hkn hne'] at hbj'
    exact hg.sep j j' oj oj' b hj1 hk' hbj hbj'
   ·subst ek; subst eo'
    have hbj' : c'.bl j' b := hbj'
    simp only [c', if_true] at hbj'
    rcases hbj' with h1 | h1
    ·exact hg.sep j j' oj _ b hj1 ho hbj h1
    ·exact absurd h1 (hfar j oj b hj1 hnl1 hbj)
   ·subst eo'; cases hbj'
  ·subst ej; subst eo
   have hbj : c'.bl j b := hbj
   simp only [c', if_true] at hbj
   rcases hcase j' oj' hj' with ⟨hk', hkn, hne', hnl2⟩ | ⟨ek, eo'⟩ | eo'
   ·rw [hold j' oj' hkn hne'] at hbj'
    rcases hbj with h1 | h1
    ·exact (hg.sep j' j oj' _ b hk' ho hbj' h1).symm
    ·exact absurd h1 (hfar j' oj' b hk' hnl2 hbj')
   ·exact ek.symm
   ·subst eo'; cases hbj'
  ·subst eo; cases hbj
end
end Go.Vc
namespace Go.Vc
open Go.RowKit
def okM : Ty → Mk → Bool
 | .sl t, .sl _ m => true
 | .pair a r, .pair ma mr => okM a ma && okM r mr
 | _, .no => true
 | _, _ => false
def ownRow (h : List Obj) (e : TypeId) (m : Mk) (ct : Ty) (j : Nat) : Option (List ct.den) := (zR h e m ct (.own j)).map (·.1)
def aJo (h : List Obj) (i : Nat) : Mk := match h[i]? with
 | some (.tre _ m _ _) => m
 | _ => .no
def aFJ (E : Env) (h : List Obj) (t : TypeId) (s x : AV) : Prop × AV × List Obj :=
 match E.T t with
 | some (.sl ct) => bif ct.scalar then uQ E h t s x else match x with
  | .own j => match s with
   | .own i => match ownRow h (E.el t) (aJo h i) ct i, ownRow h (E.el t) (aJo h i) ct j with
    | some xs, some ys => (i ≠ j ∧ bound ct (xs.length + ys.length) ∧ ct.okB = true, .own h.length, oA [i, j] h ++ [aEY (E.el t) (aJo h i) ct (xs ++ ys)])
    | _, _ => uQ E h t s x
   | .nilS => match ownRow h (E.el t) (aJo h j) ct j with
    | some ys => (bound ct ys.length ∧ ct.okB = true, .own h.length, oA [j] h ++ [aEY (E.el t) (aJo h j) ct ys])
    | none => uQ E h t s x
   | _ => uQ E h t s x
  | _ => uQ E h t s x
 | _ => uQ E h t s x
def aRd (E : Env) (h : List Obj) (t : TypeId) (l cp : AV) : Prop × AV × List Obj :=
 match E.dm t with
 | none => aLE E h t l cp
 | some m => match E.T t with
  | some (.sl ct) => match aBy l, aBy cp with
   | some n, some k => (ct.okB = true ∧ okM ct m = true ∧ 0 ≤ n ∧ n ≤ k ∧ (ct.byt : Int) * k ≤ 281474976710656 ∧ k ≤ maxLen, .own h.length, h ++ [aEY (E.el t) m ct (List.replicate n.toNat ct.zero)])
   | _, _ => (False, .junk, h)
  | _ => (False, .junk, h)
def aFK (h : List Obj) (m : Mk) (ct : Ty) : Nat → List (Nat × AV) → Option (List ct.den × List Nat)
 | _, [] => some ([], [])
 | k, (i, v) :: r => if i = k then match xU h ct m v, aFK h m ct (k + 1) r with
   | some (x, l), some (xs, l') => some (x :: xs, l ++ l')
   | _, _ => none
  else none
def aEu (E : Env) (h : List Obj) (t : TypeId) (m : Mk) (n : Nat) (ps : List (Nat × AV)) : Prop × AV × List Obj :=
 match E.T t with
 | some (.sl ct) => match aFK h m ct 0 ps with
  | some (xs, l) => (ct.okB = true ∧ nodupN l = true ∧ ps.length = n ∧ n * ct.cells ≤ 16777216 ∧ n ≤ maxLen, .own h.length, oA l h ++ [aEY (E.el t) m ct xs])
  | none => (False, .junk, h)
 | _ => (False, .junk, h)
where
 nodupN : List Nat → Bool
  | [] => true
  | i :: r => !r.contains i && nodupN r
def okD (E : Env) (h : List Obj) (t : TypeId) (m : Mk) (ps : List (Nat × AV)) : Bool :=
 match E.T t with
 | some (.sl ct) => (aFK h m ct 0 ps).isSome
 | _ => false
section
variable {P : Program} {E : Env} {T : Tab} {M : Perm} {w0 : World} {c : Ctx} {h : List Obj} {w : World}
theorem aLI : ∀ {l : List Nat}, aEu.nodupN l = true → l.Nodup
 | [], _ => List.nodup_nil
 | i :: r, hd => by
  simp only [aEu.nodupN, Bool.and_eq_true, Bool.not_eq_true', List.contains_eq_mem, decide_eq_false_iff_not] at hd
  exact List.nodup_cons.2 ⟨hd.1, aLI hd.2⟩
theorem aLJ (hg : Good M w0 c h w) {e : TypeId} {m : Mk} {ct : Ty} {j : Nat} {xs : List ct.den} (hj : j < c.n) (h1 : one (c.hd j)) (ha : ownRow h e m ct j = some xs) :
  ∃ B, kT w c.S (.sl ct) (.sl e m) xs [c.hd j] B ∧ B.Nodup ∧ ∀ b ∈ B, nZ c h [j] b := by
 unfold ownRow at ha
 cases hx : zR h e m ct (.own j) with
 | none => rw [hx] at ha; cases ha
 | some p =>
  obtain ⟨ys, l⟩ := p
  rw [hx] at ha
  cases ha
  obtain ⟨B, q1, q2, q3⟩ := aJm hg hx (cs := [c.hd j]) (show aN c w (.own j) [c.hd j] from ⟨hj, rfl, h1⟩)
  refine ⟨B, q1, q2, fun b hb => ?_⟩
  have hl : ∀ z ∈ l, z = j := fun z hz => by
   simp only [zR] at hx
   split at hx
   ·split at hx
    ·rename_i q _ _
     cases hc : aBE _ ct _ with
     | none => rw [hc] at hx; cases hx
     | some y => rw [hc] at hx; simp only [Option.map_some, Option.some.injEq, Prod.mk.injEq] at hx; rw [← hx.2] at hz; simpa using hz
    ·cases hx
   ·split at hx
    ·cases hc : aBE _ ct _ with
     | none => rw [hc] at hx; cases hx
     | some y => rw [hc] at hx; simp only [Option.map_some, Option.some.injEq, Prod.mk.injEq] at hx; rw [← hx.2] at hz; simpa using hz
    ·cases hx
   ·cases hx
  exact sM (fun z hz => by simp [hl z hz]) (q3 b hb)
theorem aO5 (hE : iE P E) {t ty : TypeId} {ct : Ty} (ht : E.T t = some (.sl ct)) (hok : ct.okB = true) {m : Mk} {S : Nat → Prop} {sv xv : Value} {xs ys : List ct.den} {B1 B2 : List Nat}
  (h1 : kT w S (.sl ct) (.sl (E.el t) m) xs [sv] B1) (h2 : kT w S (.sl ct) (.sl (E.el t) m) ys [xv] B2) (hnd : (B1 ++ B2).Nodup) (hlt : ∀ b ∈ B1 ++ B2, b < w.heap.size) (hS : ∀ b, S b → b < w.heap.size ∧ b ∉ B1)
  (hb : bound ct (xs.length + ys.length)) :
  ∃ v' w' B', (Builtin.append_ #[t, t] ty #[sv, xv]).run P w = .ok v' w' ∧ w.grownBy w' (aW sv) ∧ kT w' S (.sl ct) (.sl (E.el t) m) (xs ++ ys) [v'] B' ∧ B'.Nodup ∧ (∀ b ∈ B', b ∈ B1 ++ B2 ∨ (w.heap.size ≤ b ∧ b < w'.heap.size)) ∧ ∃ a n k, v' = .slice a n k := by
 have hd := hE.el t ct ht
 obtain ⟨e', hd', hTe', hpos⟩ := gC (hE.T _ _ ht)
 have : e' = E.el t := by rw [hd] at hd'; cases hd'; rfl
 subst this
 have hTe := hE.T _ _ hTe'
 obtain ⟨i, hi, hsz, hz, hby⟩ := hTe.info
 obtain ⟨_, cs1, Bs1, e1, o1, l1, b1, rfl, r1⟩ := h1
 obtain rfl := (List.cons.inj e1).1
 obtain ⟨_, cs2, Bs2, e2, o2, l2, b2, rfl, r2⟩ := h2
 obtain rfl := (List.cons.inj e2).1
 have hsl := kJ o1
 have hd1 := List.nodup_append.1 hnd
 have hd11 := List.nodup_append.1 hd1.1
 have hd12 := List.nodup_append.1 hd1.2.1
 have keep : ∀ (w' : World) (v' : Value), w.grownBy w' (aW sv) → w'.ownsRow 0 (E.el t) ct.cells v' (xs.length + ys.length) (cs1.flatten ++ cs2.flatten) → (∀ b, aW v' = some b → aW sv = some b ∨ (w.heap.size ≤ b ∧ b < w'.heap.size)) →
   ∃ B', kT w' S (.sl ct) (.sl (E.el t) m) (xs ++ ys) [v'] B' ∧ B'.Nodup ∧ ∀ b ∈ B', b ∈ (hdB sv ++ Bs1.flatten) ++ (hdB xv ++ Bs2.flatten) ∨ (w.heap.size ≤ b ∧ b < w'.heap.size) := fun w' v' hgr hown hat => by
  have hsame : ∀ b, b < w.heap.size → aW sv ≠ some b → w'.heap[b]? = w.heap[b]? := fun b hb hne => hgr.block b hb (fun e => hne e.symm)
  have hin1 : ∀ q (hq : q < Bs1.length) b, b ∈ Bs1[q] → b ∈ Bs1.flatten := fun q hq b hb => aHu hq hb
  have hin2 : ∀ q (hq : q < Bs2.length) b, b ∈ Bs2[q] → b ∈ Bs2.flatten := fun q hq b hb => aHu hq hb
  have hSs : zK S w w' := fun b hb => hsame b (hS b hb).1 (fun e => (hS b hb).2 (List.mem_append_left _ (zQ.2 e)))
  have k1 : ∀ b ∈ Bs1.flatten, w'.heap[b]? = w.heap[b]? := fun b hb => hsame b (hlt b (List.mem_append_left _ (List.mem_append_right _ hb))) (fun e => hd11.2.2 b (zQ.2 e) b hb rfl)
  have k2 : ∀ b ∈ Bs2.flatten, w'.heap[b]? = w.heap[b]? := fun b hb => hsame b (hlt b (List.mem_append_right _ (List.mem_append_right _ hb))) (fun e => hd1.2.2 b (List.mem_append_left _ (zQ.2 e)) b (List.mem_append_right _ hb) rfl)
  refine ⟨hdB v' ++ (Bs1 ++ Bs2).flatten, ⟨v', cs1 ++ cs2, Bs1 ++ Bs2, rfl, by rw [List.length_append, List.flatten_append]; exact hown, by simp [l1, l2], by simp [b1, b2], rfl, fun q q1 q2 q3 => ?_⟩, ?_, fun b hb => ?_⟩
  ·by_cases hlt' : q < xs.length
   ·rw [List.getElem_append_left hlt', List.getElem_append_left (by omega), List.getElem_append_left (by omega)]
    exact kT.keep (fun _ h => h) hSs _ _ _ _ _ (fun b hb => k1 b (hin1 q (by omega) b hb)) (r1 q hlt' (by omega) (by omega))
   ·have hq : q - xs.length < ys.length := by simp at q1; omega
    rw [List.getElem_append_right (by omega), List.getElem_append_right (by omega), List.getElem_append_right (by omega)]
    have := r2 (q - xs.length) hq (by omega) (by omega)
    have e1 : cs2[q - cs1.length]'(by omega) = cs2[q - xs.length]'(by omega) := by congr 1; omega
    have e2 : Bs2[q - Bs1.length]'(by omega) = Bs2[q - xs.length]'(by omega) := by congr 1; omega
    rw [e1, e2]
    exact kT.keep (fun _ h => h) hSs _ _ _ _ _ (fun b hb => k2 b (hin2 (q - xs.length) (by omega) b hb)) this
  ·rw [List.flatten_append]
   refine List.nodup_append.2 ⟨aQ9 _, List.nodup_append.2 ⟨hd11.2.1, hd12.2.1, fun a ha b hb => hd1.2.2 a (List.mem_append_right _ ha) b (List.mem_append_right _ hb)⟩, fun a ha b hb e => ?_⟩
   subst e
   have hm : a ∈ (hdB sv ++ Bs1.flatten) ++ (hdB xv ++ Bs2.flatten) := by
    rcases List.mem_append.1 hb with hb | hb
    ·exact List.mem_append_left _ (List.mem_append_right _ hb)
    ·exact List.mem_append_right _ (List.mem_append_right _ hb)
   rcases hat a (zQ.1 ha) with h1 | h1
   ·rcases List.mem_append.1 hb with hb | hb
    ·exact hd11.2.2 a (zQ.2 h1) a hb rfl
    ·exact hd1.2.2 a (List.mem_append_left _ (zQ.2 h1)) a (List.mem_append_right _ hb) rfl
   ·have := hlt a hm
    omega
  ·rcases List.mem_append.1 hb with hb | hb
   ·rcases hat b (zQ.1 hb) with h1 | h1
    ·exact .inl (List.mem_append_left _ (List.mem_append_left _ (zQ.2 h1)))
    ·exact .inr h1
   ·rw [List.flatten_append] at hb
    rcases List.mem_append.1 hb with hb | hb
    ·exact .inl (List.mem_append_left _ (List.mem_append_right _ hb))
    ·exact .inl (List.mem_append_right _ (List.mem_append_right _ hb))
 have o1' := o1
 rw [← hsz] at o1
 have hnl : cs2.flatten.length = ys.length * ct.cells := by rw [lS (n := ct.cells) (fun q hq => kT.length _ _ _ _ _ (r2 q (by omega) hq (by omega))), l2]
 rcases o2.2 with ⟨rfl, h0⟩ | ⟨g2, cap2, cur2, rfl, _, hheap2, hle2, hcap2, hsz2, htake2⟩
 ·have hy : ys = [] := List.eq_nil_of_length_eq_zero h0
  subst hy
  have hc2 : cs2 = [] := List.eq_nil_of_length_eq_zero (by simpa using l2)
  subst hc2
  have hrun := aGw (P := P) (ty := ty) hd hi o1 (a := none) (cap := 0) (Nat.zero_le _)
  have hgr : w.grownBy w (aW sv) := ⟨rfl, rfl, rfl, Nat.le_refl _, fun _ _ _ => rfl⟩
  obtain ⟨B', q1, q2, q3⟩ := keep w sv hgr (by simpa using o1') (fun b hb => .inl hb)
  exact ⟨sv, w, B', hrun, hgr, q1, q2, q3, hsl⟩
 ·have hone : ∀ u ∈ cs2.flatten, u.oneCell' = true := fun u hu => by
   obtain ⟨L, hL1, hL2⟩ := List.mem_flatten.1 hu
   obtain ⟨q, hq, rfl⟩ := List.mem_iff_getElem.1 hL1
   have := bE.one _ _ _ (kT.toC (S' := fun _ => True) (fun _ _ => trivial) _ _ _ _ _ (fun _ _ => trivial) (r2 q (by omega) hq (by omega))) u hL2
   cases u <;> first | rfl | exact this.elim
  have hcell : ∀ j u, cs2.flatten[j]? = some u → w.cell? ((⟨g2, 0, none⟩ : Addr).add j) = some u := fun j u hj => by
   rw [tE]
   simp only [World.cell?, hheap2, Nat.zero_add]
   rw [← Array.getElem?_toList]
   rw [← htake2, List.getElem?_take] at hj
   split at hj
   ·exact hj
   ·cases hj
  obtain ⟨v', w', hrun, hown', hgr, _, hat⟩ := run_append_own_at (P := P) w 0 t ty (E.el t) i (mL ct) ct.cells i.bytes hd hi (hz hok) hsz rfl (by rw [yI hok]; simp [jJ hok]) hpos sv xs.length cs1.flatten o1'
   ⟨g2, 0, none⟩ ys.length cap2 cs2.flatten hnl hcell hone hb.1 (Nat.le_trans (Nat.mul_le_mul_left _ hby) hb.2) (Nat.zero_le _)
  have hsl' := kJ hown'
  rw [← sI hsl] at hgr hat
  rw [← sI hsl'] at hat
  obtain ⟨B', q1, q2, q3⟩ := keep w' v' hgr hown' (fun b hb => by
   rcases hat with hat | hat
   ·left; rw [← hat]; exact hb
   ·right
    rw [hat] at hb
    cases hb
    refine ⟨Nat.le_refl _, ?_⟩
    rcases hown'.2 with ⟨rfl, _⟩ | ⟨g, cp, cur, rfl, _, hheap, _⟩
    ·cases hat
    ·simp [aW] at hat
     subst hat
     exact (Array.getElem?_eq_some_iff.1 hheap).1)
  exact ⟨v', w', B', hrun, hgr, q1, q2, q3, hsl'⟩
theorem aYb {v' : Value} (h : ∃ a n m, v' = .slice a n m) {w' : World} {B : Nat → Prop} : aX (c.pushB v' B) w' (.own c.n) v' := by
 obtain ⟨a, n, m, rfl⟩ := h
 refine ⟨⟨Nat.lt_succ_self c.n, ?_, ?_⟩, (fun h => by cases h), (fun _ cs => by simp)⟩
 ·show [Value.slice a n m] = [if c.n = c.n then Value.slice a n m else c.hd c.n]
  rw [if_pos rfl]
 ·show one (if c.n = c.n then Value.slice a n m else c.hd c.n)
  rw [if_pos rfl]; trivial
theorem Good.taken (hg : Good M w0 c h w) (l : List Nat) {w' : World} {e : TypeId} {m : Mk} {t : Ty} {xs : List t.den} {v' : Value} {B' : List Nat} (hos : w'.os = w.os) (htp : w'.tape = w.tape) (hout : w'.output = w.output) (hsz : w.heap.size ≤ w'.heap.size)
  (hsame : ∀ b, b < w.heap.size → ¬ nZ c h l b → w'.heap[b]? = w.heap[b]?) (hr : kT w' c.S (.sl t) (.sl e m) xs [v'] B') (hnd : B'.Nodup) (hB : ∀ b ∈ B', nZ c h l b ∨ (w.heap.size ≤ b ∧ b < w'.heap.size)) (hv : ∃ a n k, v' = .slice a n k) :
  ∃ c', dZ c w c' w' ∧ Good M w0 c' (oA l h ++ [aEY e m t xs]) w' ∧ aX c' w' (.own h.length) v' := by
 have e1 : (c.pushB v' (· ∈ B')).hd c.n = v' := by simp [Ctx.pushB]
 have e2 : (c.pushB v' (· ∈ B')).bl c.n = (· ∈ B') := by simp [Ctx.pushB]
 have hr' : kT w' (c.pushB v' (· ∈ B')).S (.sl t) (.sl e m) xs [(c.pushB v' (· ∈ B')).hd c.n] B' := by rw [e1]; exact hr
 obtain ⟨g1, g2⟩ := hg.remake l (o := aEY e m t xs) (v' := v') (B := (· ∈ B')) hos htp hout hsz hsame (aRa hr' hnd (fun b hb => by rw [e2]; exact hb)) (fun b hb => hB b (aRb hr' (fun b hb => by rw [e2] at hb; exact hb) hb))
 exact ⟨_, g2, g1, by rw [← hg.n]; exact aYb hv⟩
theorem aTR (hE : iE P E) (hg : Good M w0 c h w) {t ty : TypeId} {s x : AV} {sv xv : Value} (hs : aX c w s sv) (hx : aX c w x xv) (hc : (aFJ E h t s x).1) :
  ∃ v' w' c', (Builtin.append_ #[t, t] ty #[sv, xv]).run P w = .ok v' w' ∧ dZ c w c' w' ∧ Good M w0 c' (aFJ E h t s x).2.2 w' ∧ aX c' w' (aFJ E h t s x).2.1 v' := by
 have old := fun hc => aVC (P := P) (t := t) (ty := ty) hE hg hs hx hc
 unfold aFJ at hc ⊢
 cases ht : E.T t with
 | none => simp only [ht] at hc ⊢; exact old hc
 | some tt =>
  cases tt with
  | sl ct =>
   simp only [ht] at hc ⊢
   cases hsc : ct.scalar with
   | true => simp only [hsc, cond_true] at hc ⊢; exact old hc
   | false =>
    simp only [hsc, cond_false] at hc ⊢
    cases x with
    | own j =>
     obtain ⟨hj, rfl⟩ := aBg hx
     have hj1 : one (c.hd j) := by obtain ⟨hh, _⟩ := hx; simp only [aN] at hh; exact hh.2.2
     cases s with
     | own i =>
      obtain ⟨hi, rfl⟩ := aBg hs
      have hi1 : one (c.hd i) := by obtain ⟨hh, _⟩ := hs; simp only [aN] at hh; exact hh.2.2
      simp only at hc ⊢
      split at hc
      ·rename_i xs ys hxs hys
       obtain ⟨hne, hb, hok⟩ := hc
       obtain ⟨B1, p1, p2, p3⟩ := aLJ hg hi hi1 hxs
       obtain ⟨B2, q1, q2, q3⟩ := aLJ hg hj hj1 hys
       have hnd := aLH hg p2 q2 p3 q3 (by simp [hne])
       have hmem : ∀ b ∈ B1 ++ B2, nZ c h [i, j] b := fun b hb => by
        rcases List.mem_append.1 hb with hb | hb
        ·exact sM (fun z hz => by simp at hz; simp [hz]) (p3 b hb)
        ·exact sM (fun z hz => by simp at hz; simp [hz]) (q3 b hb)
       obtain ⟨v', w', B', hrun, hgr, r1, r2, r3, r4⟩ := aO5 (P := P) (ty := ty) hE ht hok p1 q1 hnd (fun b hb => by obtain ⟨j', o', _, h2, h3⟩ := hmem b hb; exact (hg.own j' o' b h2 h3).2.1)
        (fun b hS => ⟨hg.sfin b hS, fun hB => by obtain ⟨j', o', _, h2, h3⟩ := p3 b hB; exact (hg.own j' o' b h2 h3).2.2 hS⟩) hb
       have p1' := p1
       obtain ⟨_, _, Bs1, e1, _, _, _, e4, _⟩ := p1'
       obtain ⟨c', k1, k2, k3⟩ := hg.taken [i, j] hgr.os hgr.tape hgr.output hgr.size (fun b hb hn => hgr.block b hb (fun e => hn (hmem b (List.mem_append_left _ (by
        rw [e4]
        obtain rfl := (List.cons.inj e1).1
        exact List.mem_append_left _ (zQ.2 e.symm)))))) r1 r2 (fun b hb => (r3 b hb).imp (hmem b) id) r4
       exact ⟨v', w', c', hrun, k1, k2, k3⟩
      ·exact old hc
     | nilS =>
      have hsv : sv = .slice none 0 0 := by
       obtain ⟨h1, _, h3⟩ := hs
       have h3 := h3 rfl
       simp only [aN] at h1
       cases sv <;> simp [Value.cells] at h1 h3 <;> simp [h1]
      subst hsv
      simp only at hc ⊢
      split at hc
      ·rename_i ys hys
       obtain ⟨hb, hok⟩ := hc
       obtain ⟨B2, q1, q2, q3⟩ := aLJ hg hj hj1 hys
       have p1 : kT w c.S (.sl ct) (.sl (E.el t) (aJo h j)) [] [.slice none 0 0] [] := ⟨.slice none 0 0, [], [], rfl, World.ownsRow_nil w 0 _ _, rfl, rfl, rfl, fun i h => by simp at h⟩
       obtain ⟨v', w', B', hrun, hgr, r1, r2, r3, r4⟩ := aO5 (P := P) (ty := ty) hE ht hok p1 q1 (by simpa using q2) (fun b hb => by obtain ⟨j', o', _, h2, h3⟩ := q3 b (by simpa using hb); exact (hg.own j' o' b h2 h3).2.1)
        (fun b hS => ⟨hg.sfin b hS, by simp⟩) (by simpa using hb)
       obtain ⟨c', k1, k2, k3⟩ := hg.taken [j] hgr.os hgr.tape hgr.output hgr.size (fun b hb hn => hgr.block b hb (fun e => by simp [aW] at e)) r1 r2 (fun b hb => (r3 b hb).imp (fun hb => q3 b (by simpa using hb)) id) r4
       exact ⟨v', w', c', hrun, k1, k2, k3⟩
      ·exact old hc
     | _ => exact old hc
    | _ => exact old hc
  | _ => simp only [ht] at hc ⊢; exact old hc
theorem aWG : ∀ (t : Ty) (m : Mk), t.okB = true → okM t m = true → kT w c.S t m t.zero (cY t) [] := by
 intro t
 induction t with
 | sl t ih =>
  intro m hok hm
  cases m with
  | no => exact aFI (gG w c.S (.sl t) hok)
  | sl e m => exact ⟨.slice none 0 0, [], [], rfl, World.ownsRow_nil w 0 e t.cells, rfl, rfl, rfl, fun i h => by simp [Ty.zero] at h⟩
  | pair _ _ => simp [okM] at hm
 | pair a r iha ihr =>
  intro m hok hm
  cases m with
  | no => exact aFI (gG w c.S (.pair a r) hok)
  | sl e m => simp [okM] at hm
  | pair ma mr =>
   simp only [okM, Bool.and_eq_true] at hm
   simp only [Ty.okB, Bool.and_eq_true] at hok
   exact ⟨cY a, cY r, [], [], rfl, rfl, iha ma hok.1 hm.1, ihr mr hok.2 hm.2⟩
 | _ =>
  intro m hok hm
  cases m with
  | no => exact aFI (gG w c.S _ hok)
  | _ => simp [okM] at hm
theorem aWH (hE : iE P E) (hg : Good M w0 c h w) {t : TypeId} {l cp : AV} {lv cv : Value} (hl : aX c w l lv) (hcp : aX c w cp cv) (hc : (aRd E h t l cp).1) :
  ∃ v' w' c', (Instr.makeSlice t lv cv).run P w = .ok v' w' ∧ dZ c w c' w' ∧ Good M w0 c' (aRd E h t l cp).2.2 w' ∧ aX c' w' (aRd E h t l cp).2.1 v' := by
 unfold aRd at hc ⊢
 split at hc
 ·exact aX8 hE hg hl hcp hc
 ·rename_i m hm0
  split at hc
  ·rename_i ct ht
   split at hc
   ·rename_i n k hn hk
    obtain ⟨hok, hm, h0, h1, h2, h3⟩ := hc
    obtain ⟨k1, rfl⟩ := zP hl hn
    obtain ⟨k2, rfl⟩ := zP hcp hk
    have hd := hE.el t ct ht
    obtain ⟨e', hd', hTe', hpos⟩ := gC (hE.T _ _ ht)
    have : e' = E.el t := by rw [hd] at hd'; cases hd'; rfl
    subst this
    obtain ⟨i, hi, hsz, hz, hby⟩ := (hE.T _ _ hTe').info
    have hbytes : (i.bytes : Int) * k ≤ 281474976710656 := by
     have : (i.bytes : Int) * k ≤ (ct.byt : Int) * k := Int.mul_le_mul_of_nonneg_right (by omega) (by omega)
     omega
    have hrun := run_make (P := P) w t (E.el t) i (mL ct) hd hi (hz hok) k1 k2 n k h0 h1 hbytes (by simp only [maxLen] at h3; omega)
    have hcells : (madeCells (mL ct).cells (k.toNat * i.size)).toList = (List.replicate k.toNat (cY ct)).flatten := by
     rw [hsz, yI hok, ← jJ hok]
     exact xT _ _ (by rw [jJ hok]; exact hpos)
    have hsplit : (List.replicate k.toNat (cY ct)).flatten = (List.replicate n.toNat (cY ct)).flatten ++ (List.replicate (k.toNat - n.toNat) (cY ct)).flatten := by
     rw [← List.flatten_append, List.replicate_append_replicate]
     congr 2; omega
    have hlen : (List.replicate n.toNat (cY ct)).flatten.length = n.toNat * ct.cells := by simp [jJ hok]
    have hrep : kT (w.alloc (.cells (madeCells (mL ct).cells (k.toNat * i.size)) (E.el t) (0, 0))) c.S (.sl ct) (.sl (E.el t) m) (List.replicate n.toNat ct.zero) [.slice (some ⟨w.heap.size, 0, none⟩) n.toNat k.toNat] [w.heap.size] := by
     refine ⟨_, List.replicate n.toNat (cY ct), List.replicate n.toNat [], rfl, ⟨by simp [jJ hok], .inr ⟨w.heap.size, k.toNat, _, by simp, Nat.zero_le _, aA7 w _, by simp; omega, by omega, by rw [size_madeCells, hsz], ?_⟩⟩, by simp, by simp, ?_, fun q q1 q2 q3 => ?_⟩
     ·rw [hcells, hsplit, List.length_replicate, ← hlen]; exact List.take_left
     ·rw [flatten_nil (fun i hi => by simp)]; rfl
     ·simp only [List.getElem_replicate]
      exact aWG (c := c) ct m hok hm
    obtain ⟨c', q1, q2, q3⟩ := hg.taken [] (w' := w.alloc (.cells (madeCells (mL ct).cells (k.toNat * i.size)) (E.el t) (0, 0))) rfl rfl rfl (by simp) (fun b hb _ => by show (w.heap.push _)[b]? = _; simp [Array.getElem?_push, Nat.ne_of_lt hb]) hrep (by simp) (fun b hb => .inr (by simp at hb; subst hb; exact ⟨Nat.le_refl _, by simp⟩)) ⟨_, _, _, rfl⟩
    exact ⟨_, _, c', hrun, q1, q2, q3⟩
   ·exact hc.elim
  ·exact hc.elim
theorem aY0 {sz : Nat} : ∀ (vs : List (Nat × Value)) (k : Nat) (cells : Array Value) (pre rest : List Value), cells.toList = pre ++ rest → pre.length = k * sz → rest.length = vs.length * sz →
  (∀ i (h : i < vs.length), (vs[i]).1 = k + i ∧ (vs[i]).2.cells.size = sz) → ∃ cells', Instr.fill (fun i => some (i * sz, sz)) cells vs = some cells' ∧ cells'.toList = pre ++ (vs.map fun p => p.2.cells.toList).flatten
 | [], k, cells, pre, rest, h1, h2, h3, _ => by
  have : rest = [] := List.eq_nil_of_length_eq_zero (by simpa using h3)
  subst this
  exact ⟨cells, rfl, by simpa using h1⟩
 | (i, v) :: vs, k, cells, pre, rest, h1, h2, h3, h4 => by
  obtain ⟨e1, e2⟩ := h4 0 (by simp)
  simp only [List.getElem_cons_zero, Nat.add_zero] at e1 e2
  subst e1
  have hsplit : rest = rest.take sz ++ rest.drop sz := (List.take_append_drop _ _).symm
  have hlt : (rest.take sz).length = sz := by rw [List.length_take, h3]; simp only [List.length_cons, Nat.add_mul]; omega
  have hc : cells.toList = pre ++ rest.take sz ++ rest.drop sz := by rw [List.append_assoc, ← hsplit, h1]
  have hstep := aLy (v := v) hc (by rw [e2, hlt])
  obtain ⟨cells', q1, q2⟩ := aY0 (sz := sz) vs (i + 1) _ (pre ++ v.cells.toList) (rest.drop sz) hstep (by simp [h2, e2, Nat.add_mul]) (by simp [h3, Nat.add_mul]) (fun q hq => by
   have := h4 (q + 1) (by simpa using hq)
   simp only [List.getElem_cons_succ] at this
   exact ⟨by rw [this.1]; omega, this.2⟩)
  refine ⟨cells', ?_, by rw [q2]; simp⟩
  have hcs : cells.size = (pre ++ rest).length := by rw [← h1]; simp
  have hcond : ¬ (v.cells.size ≠ sz ∨ i * sz + v.cells.size > cells.size) := by
   rw [e2, hcs, ← h2]
   simp only [List.length_append, h3, List.length_cons, Nat.add_mul]
   simp
  simp only [Instr.fill]
  rw [if_neg (by simpa using hcond), ← h2]
  exact q1
theorem aO6 (hg : Good M w0 c h w) {m : Mk} {ct : Ty} : ∀ (ps : List (Nat × AV)) (vs : List (Nat × Value)) (k : Nat) (xs : List ct.den) (l : List Nat), aBW c w ps vs → aFK h m ct k ps = some (xs, l) → l.Nodup →
  xs.length = vs.length ∧ ∃ Bs : List (List Nat), Bs.length = xs.length ∧ Bs.flatten.Nodup ∧ (∀ b ∈ Bs.flatten, nZ c h l b) ∧ ∀ i (h1 : i < xs.length) (h2 : i < vs.length) (h3 : i < Bs.length), (vs[i]).1 = k + i ∧ kT w c.S ct m xs[i] (vs[i]).2.cells.toList Bs[i]
 | [], _, k, xs, l, .nil, ha, _ => by
  simp only [aFK, Option.some.injEq, Prod.mk.injEq] at ha
  obtain ⟨rfl, rfl⟩ := ha
  exact ⟨rfl, [], rfl, by simp, fun b hb => by simp at hb, fun i h => by simp at h⟩
 | _, _, k, xs, l, .cons (k := i) (a := a) (v := v) (ps := ps) (vs := vs) hv r, ha, hl => by
  simp only [aFK] at ha
  split at ha
  ·rename_i e
   subst e
   split at ha
   ·rename_i x l1 ys l2 k1 k2
    simp only [Option.some.injEq, Prod.mk.injEq] at ha
    obtain ⟨rfl, rfl⟩ := ha
    have hnd := List.nodup_append.1 hl
    obtain ⟨q1, Bs, q2, q3, q4, q5⟩ := aO6 hg ps vs (i + 1) ys l2 r k2 hnd.2.1
    have hv1 : aN c w a v.cells.toList := by
     cases a <;> first | exact hv.1 | (cases m <;> cases ct <;> simp [xU, zR, AV.as] at k1)
    obtain ⟨B, r1, r2, r3⟩ := aO4 hg k1 hnd.1 hv1
    refine ⟨by simp [q1], B :: Bs, by simp [q2], ?_, fun b hb => ?_, fun z z1 z2 z3 => ?_⟩
    ·rw [List.flatten_cons]; exact aLH hg r2 q3 r3 q4 hl
    ·rw [List.flatten_cons] at hb
     rcases List.mem_append.1 hb with hb | hb
     ·exact sM (fun j hj => List.mem_append_left _ hj) (r3 b hb)
     ·exact sM (fun j hj => List.mem_append_right _ hj) (q4 b hb)
    ·cases z with
     | zero => exact ⟨rfl, r1⟩
     | succ z =>
      have := q5 z (by simpa using z1) (by simpa using z2) (by simpa using z3)
      simp only [List.getElem_cons_succ]
      exact ⟨by rw [this.1]; omega, this.2⟩
   ·cases ha
  ·cases ha
theorem aVI (hE : iE P E) (hg : Good M w0 c h w) {t : TypeId} {m : Mk} {n : Nat} {ps : List (Nat × AV)} {vs : List (Nat × Value)} (hp : aBW c w ps vs) (hc : (aEu E h t m n ps).1) :
  ∃ v' w' c', (Instr.buildSlice t n vs.toArray).run P w = .ok v' w' ∧ dZ c w c' w' ∧ Good M w0 c' (aEu E h t m n ps).2.2 w' ∧ aX c' w' (aEu E h t m n ps).2.1 v' := by
 unfold aEu at hc ⊢
 split at hc
 ·rename_i ct ht
  split at hc
  ·rename_i xs l hab
   obtain ⟨hok, hnd, hn, hc1, hc2⟩ := hc
   have hd := hE.el t ct ht
   obtain ⟨e', hd', hTe', hpos⟩ := gC (hE.T _ _ ht)
   have : e' = E.el t := by rw [hd] at hd'; cases hd'; rfl
   subst this
   have hTe := hE.T _ _ hTe'
   have hz := rV hTe hok w
   have hnd := aLI hnd
   have hpl : ps.length = vs.length := parts_len hp
   obtain ⟨q1, Bs, q2, q3, q4, q5⟩ := aO6 hg ps vs 0 xs l hp hab hnd
   have hnv : vs.length = n := by omega
   have hsz : ∀ i (h : i < vs.length), (vs[i]).1 = 0 + i ∧ (vs[i]).2.cells.size = ct.cells := fun i hi => by
    have := q5 i (by omega) hi (by omega)
    exact ⟨this.1, by rw [← Array.length_toList]; exact kT.length _ _ _ _ _ this.2⟩
   have hfl : (vs.map fun p => p.2.cells.toList).flatten.length = n * ct.cells := by
    rw [lS (n := ct.cells) (fun i hi => by simp only [List.length_map] at hi; simp only [List.getElem_map]; rw [Array.length_toList]; exact (hsz i hi).2), List.length_map, hnv]
   have hle : ¬ (n * ct.cells > 2 ^ 24) := by omega
   have main : ∀ zs : Array Value, (if n * ct.cells = 0 then (#[] : Array Value) else (mL ct).cells) = zs → ∃ cells', Instr.fill (fun i => some (i * ct.cells, ct.cells)) ((Array.range (n * ct.cells)).map (fun i => zs[i % zs.size]!)) vs = some cells' ∧ cells'.toList = (vs.map fun p => p.2.cells.toList).flatten := fun zs _ => by
    obtain ⟨cells', k1, k2⟩ := aY0 (sz := ct.cells) vs 0 ((Array.range (n * ct.cells)).map (fun i => zs[i % zs.size]!)) [] ((Array.range (n * ct.cells)).map (fun i => zs[i % zs.size]!)).toList (by simp) (by simp) (by simp [hnv]) hsz
    exact ⟨cells', k1, by simpa using k2⟩
   obtain ⟨cells', k1, k2⟩ := main _ rfl
   have hrun : (Instr.buildSlice t n vs.toArray).run P w = .ok (.slice (some ⟨w.heap.size, 0, none⟩) n n) (w.alloc (.cells cells' (E.el t) (0, 0))) := by
    by_cases h0 : n * ct.cells = 0
    ·rw [if_pos h0] at k1
     simp only [Instr.buildSlice, Sem.run_bind, bD hd, Result.andThen_ok, fP hTe, hle, if_false, h0, if_true, Sem.run_ite, Sem.run_pure]
     rw [h0] at k1
     rw [if_neg (by decide), k1]
     rfl
    ·rw [if_neg h0] at k1
     simp only [Instr.buildSlice, Sem.run_bind, bD hd, Result.andThen_ok, fP hTe, hle, if_false, h0, hz, Sem.run_ite, Sem.run_pure, k1]
     rfl
   have hsame : ∀ b, b < w.heap.size → (w.alloc (.cells cells' (E.el t) (0, 0))).heap[b]? = w.heap[b]? := fun b hb => by show (w.heap.push _)[b]? = _; simp [Array.getElem?_push, Nat.ne_of_lt hb]
   have hbs : ∀ b ∈ Bs.flatten, b < w.heap.size := fun b hb => by obtain ⟨j', o', _, h2, h3⟩ := q4 b hb; exact (hg.own j' o' b h2 h3).2.1
   have hrep : kT (w.alloc (.cells cells' (E.el t) (0, 0))) c.S (.sl ct) (.sl (E.el t) m) xs [.slice (some ⟨w.heap.size, 0, none⟩) n n] (w.heap.size :: Bs.flatten) := by
    have hxn : xs.length = n := by omega
    refine ⟨_, vs.map fun p => p.2.cells.toList, Bs, rfl, ⟨by rw [hfl, hxn], .inr ⟨w.heap.size, n, cells', by rw [hxn], Nat.zero_le _, aA7 w _, by omega, hc2, ?_, ?_⟩⟩, by simp [hnv, hxn], q2, rfl, fun i z1 z2 z3 => ?_⟩
    ·rw [← Array.length_toList, k2, hfl]
    ·rw [k2, hxn, ← hfl, List.take_length]
    ·simp only [List.getElem_map]
     exact kT.keep (fun _ h => h) (fun b hb => hsame b (hg.sfin b hb)) _ _ _ _ _ (fun b hb => hsame b (hbs b (aHu z3 hb))) (q5 i z1 (by simpa using z2) z3).2
   obtain ⟨c', r1, r2, r3⟩ := hg.taken l (w' := w.alloc (.cells cells' (E.el t) (0, 0))) rfl rfl rfl (by simp) (fun b hb _ => hsame b hb) hrep (List.nodup_cons.2 ⟨fun hm => by have := hbs _ hm; omega, q3⟩) (fun b hb => by
    rcases List.mem_cons.1 hb with rfl | hb
    ·exact .inr ⟨Nat.le_refl _, by simp⟩
    ·exact .inl (q4 b hb)) ⟨_, _, _, rfl⟩
   exact ⟨_, _, c', hrun, r1, r2, r3⟩
  ·exact hc.elim
 ·exact hc.elim
where
 parts_len {ps : List (Nat × AV)} {vs : List (Nat × Value)} (h : aBW c w ps vs) : ps.length = vs.length := by
  induction h with
  | nil => rfl
  | cons _ _ ih => simp [ih]
theorem aTS : ∀ (t : Ty), t.okB = true → aIl t = true → lT c w (lP t) (cY t) ∧ (lP t).all AV.solid1 = true ∧ aD (lP t) = t.cells := by
 intro t
 induction t with
 | pair a r _ ih =>
  intro hok hb
  simp only [Ty.okB, Bool.and_eq_true] at hok
  obtain ⟨h1, h2, h3⟩ := ih hok.2 hb
  cases a with
  | sl a => exact ⟨⟨[.slice none 0 0], cY r, rfl, rfl, h1⟩, by simp only [lP, List.all_cons, h2]; rfl, by simp only [lP, aD, h3]; rfl⟩
  | _ => exact ⟨⟨cY _, cY r, rfl, gG w c.S _ hok.1, h1⟩, by simp only [lP, List.all_cons, h2]; rfl, by simp only [lP, aD, h3]; rfl⟩
 | unit => intro _ _; exact ⟨rfl, rfl, rfl⟩
 | _ => intro _ hb; simp [aIl] at hb
end
end Go.Vc
namespace Go.Vc
open Go.RowKit
def aUT (c x y : AV) : Prop × AV :=
 match c, x, y with
 | .val .bool q, .val .bool a, .val .bool b => (True, .val .bool (bif q then a else b))
 | .val .bool q, .undef, .val .bool b => (q = false, .val .bool b)
 | .val .bool q, .val .bool a, .undef => (q = true, .val .bool a)
 | _, _, _ => (False, .junk)
def aSO (Γ : FuncId → List AV → Option aI) (f : FuncId) (vs : List AV) : Bool :=
 match Γ f vs with
 | some ⟨_, .own _ _, _, _⟩ => true
 | _ => false
def aUU : Option Ty → Bool
 | some (.i .i64) => true
 | _ => false
noncomputable def aOy (E : Env) (h : List Obj) (ρ : Operand → AV) (o : Oper) (c : Call) : Prop × AV × List Obj :=
 match c.callee with
 | .builtin .append => match c.args.toList.map ρ, c.argTypes.toList with
  | [s, x], [t, t'] => bif aUU (E.T t') then aIs E h t s x else bif isStr (E.T t') then aIt E h t s x else ((aFJ E h t s x).1 ∧ t' = t, (aFJ E h t s x).2)
  | _, _ => (False, .junk, h)
 | .value (.func f) => bif aSO E.Γ f (c.args.toList.map ρ) then aIr E.Γ h f (c.args.toList.map ρ) else ((pv E h ρ o).1, (pv E h ρ o).2, h)
 | _ => ((pv E h ρ o).1, (pv E h ρ o).2, h)
def aC2 (E : Env) (h : List Obj) (t : TypeId) : Prop × AV × List Obj :=
 match E.mp t with
 | some (k, e) => match E.T k, E.T e with
  | some kc, some vc => (True, .mp h.length, h ++ [.map kc vc []])
  | _, _ => (False, .junk, h)
 | none => (False, .junk, h)
def aO7 (E : Env) (h : List Obj) (t : TypeId) (m k v : AV) : Prop × AV × List Obj :=
 match m with
 | .mp i => match h[i]? with
  | some (.map kc vc l) => match AV.as (h.map gB) kc k, AV.as (h.map gB) vc v with
   | some x, some y => (kc.keyB = true ∧ aWw E t kc vc, .junk, h.set i (.map kc vc (zJ kc l x y)))
   | _, _ => (False, .junk, h)
  | _ => (False, .junk, h)
 | _ => (False, .junk, h)
def aC3 (E : Env) (h : List Obj) (t : TypeId) : Prop × AV × List Obj :=
 match E.T t with
 | some (.sl ct) => (ct.okB = true, .own h.length, h ++ [.row (E.el t) ct []])
 | _ => (False, .junk, h)
noncomputable def aB9 (E : Env) (h : List Obj) (ρ : Operand → AV) (o : Oper) : Prop × AV × List Obj :=
 match o.op with
 | .alloc t => match E.T t with
  | some ct => bif E.dz t then (ct.okB = true ∧ aIl ct = true, .ptr h.length [], h ++ [.box ct.cells (.agg (lP ct))]) else (ct.okB = true, .ptr h.length [], h ++ [.box (bxN t ct) (aHa ct)])
  | none => (False, .junk, h)
 | .box t x => ((ρ x).solid = true, .ptr h.length [], h ++ [.box (ρ x).nc (ρ x)])
 | .store t a x => aFH E.T h t (ρ a) (ρ x)
 | .makeSlice t l cp => aRd E h t (ρ l) (ρ cp)
 | .makeMap t none => aC2 E h t
 | .buildSlice t n ps => match E.dm t with
  | some m => bif okD E h t m (ps.toList.map fun p => (p.1, ρ p.2)) then aEu E h t m n (ps.toList.map fun p => (p.1, ρ p.2)) else ((pv E h ρ o).1, (pv E h ρ o).2, h)
  | none => match n, ps.toList with
   | 0, [] => aC3 E h t
   | _, _ => ((pv E h ρ o).1, (pv E h ρ o).2, h)
 | .mapUpdate t m k v => aO7 E h t (ρ m) (ρ k) (ρ v)
 | .insert t m k v => aO7 E h t (ρ m) (ρ k) (ρ v)
 | .pick c x y => ((aUT (ρ c) (ρ x) (ρ y)).1, (aUT (ρ c) (ρ x) (ρ y)).2, h)
 | .call c => aOy E h ρ o c
 | _ => ((pv E h ρ o).1, (pv E h ρ o).2, h)
def aZR : Option Ty → Bool
 | some (.sl (.u .u8)) => true
 | _ => false
def aO8 (E : Env) (ρ : Operand → AV) (o : Oper) : List Nat :=
 match o.op with
 | .call c => match c.callee with
  | .value (.func f) => match E.Γ f (c.args.toList.map ρ) with
   | some sp => bif sp.res.ty.scalar then [] else (c.args.toList.map ρ).flatMap AV.tags
   | none => []
  | _ => []
 | .slice _ x _ _ _ => (ρ x).tags
 | .buildSlice t _ ps => match E.dm t with
  | some _ => []
  | none => ps.toList.flatMap fun p => (ρ p.2).tags
 | .store t a x => match ρ a with
  | .ptr _ (_ :: _) => bif aZR (E.T t) || (E.dm t).isSome then [] else (ρ x).tags
  | _ => []
 | .mapUpdate _ _ _ v => (ρ v).tags
 | .insert _ _ _ v => (ρ v).tags
 | _ => []
noncomputable def wD (E : Env) (env : St) (h : List Obj) (o : Oper) : Prop × AV × List Obj :=
 aB9 E (freezeAll (aO8 E (evA E.G env) o) h) (fun x => aRO (freezeAll (aO8 E (evA E.G env) o) h) (evA E.G env x)) o
def wT (d : Option Nat) (v : AV) (env : St) : St :=
 match d with
 | some d => (d, v) :: env
 | none => env
def aIN (ops : List Oper) (j : Nat) : Option Nat := match ops[j]? with
 | some o => o.dst
 | none => none
def sN (E : Env) (all : List Oper) : List Oper → St → List Obj → (St → List Obj → Prop) → Prop
 | [], env, h, K => K env h
 | o :: r, env, h, K => match o.guard with
  | none => match wD E env h o with
   | (p, v, h') => p ∧ sN E all r (wT o.dst v env) h' K
  | some (j, pol) => match aIN all j with
   | some dj => match look env dj with
    | .val .bool b => (b = pol → match wD E env h o with
      | (p, v, h') => p ∧ sN E all r (wT o.dst v env) h' K) ∧ (b = !pol → sN E all r (wT o.dst .undef env) h K)
    | .undef => sN E all r (wT o.dst .undef env) h K
    | _ => False
   | none => False
section
variable {P : Program} {E : Env} {M : Perm} {w0 : World} {c : Ctx} {h : List Obj} {w : World}
structure aJp (M : Perm) (w0 : World) (c : Ctx) (w : World) (h' : List Obj) (av : AV) (v : Value) (w' : World) (c' : Ctx) : Prop where
 later : dZ c w c' w'
 good : Good M w0 c' h' w'
 val : aX c' w' av v
def aTT (P : Program) (M : Perm) (w0 : World) (c : Ctx) (o : Oper) (a : Act) (w : World) (h' : List Obj) (av : AV) : Prop :=
 (∃ v w' c', (execOp a.eval o).run P w = .ok (.value v) w' ∧ aJp M w0 c w h' av v w' c') ∨
 (∃ w' c', (execOp a.eval o).run P w = .ok .skip w' ∧ aJp M w0 c w h' av Go.undef w' c') ∨
 (∃ f args, (execOp a.eval o).run P w = .ok (.enter f args) w ∧ Calls P f args w fun e w' => ∃ v c', e = .returned v ∧ aJp M w0 c w h' av v w' c')
theorem Did.toE {o : Oper} {a : Act} {av : AV} (hd : Did P M w0 h c o a w av) : aTT P M w0 c o a w h av := by
 rcases hd with ⟨v, w', c', hr, ha⟩ | ⟨f, args, hr, hc⟩
 ·exact .inl ⟨v, w', c', hr, ha.later, ha.good, ha.val⟩
 ·refine .inr (.inr ⟨f, args, hr, hc.mono ?_⟩)
  rintro e w' ⟨v, c', he, ha⟩
  exact ⟨v, c', he, ha.later, ha.good, ha.val⟩
theorem aTT.wp {o : Oper} {a : Act} {av : AV} {h' : List Obj} {next : Act → World → Prop} {Q : Exit → Act → World → Prop} (hd : aTT P M w0 c o a w h' av) (hn : ∀ v w' c', aJp M w0 c w h' av v w' c' → next (a.put o.dst v) w') : o.wp P a w next Q := by
 rcases hd with ⟨v, w', c', hr, ha⟩ | ⟨w', c', hr, ha⟩ | ⟨f, args, hr, hc⟩
 ·unfold Oper.wp; rw [hr]; exact hn v w' c' ha
 ·unfold Oper.wp; rw [hr]; exact hn _ w' c' ha
 ·unfold Oper.wp
  rw [hr]
  refine Calls.mono hc ?_
  rintro e w' ⟨v, c', rfl, ha⟩
  exact hn v w' c' ha
theorem aTU (hg : Good M w0 c h w) {t : TypeId} (hc : (aC2 E h t).1) :
  ∃ v w' c', (Instr.makeMap t none).run P w = .ok v w' ∧ aJp M w0 c w (aC2 E h t).2.2 (aC2 E h t).2.1 v w' c' := by
 unfold aC2 at hc ⊢
 split at hc
 ·rename_i k e he
  split at hc
  ·rename_i kc vc hk hv
   simp only [hk, hv]
   have hkeep : iY nothing w (w.alloc (.map #[] 0)) := iY.alloc nothing w _
   have e1 : (c.push (.map (some w.heap.size))).hd c.n = .map (some w.heap.size) := by simp [Ctx.push]
   have := hg.push hkeep (o := .map kc vc []) (hv := .map (some w.heap.size)) (by
    refine ⟨w.heap.size, #[], 0, e1, aA7 w _, rfl, fun j h => by simp at h⟩) (fun b hb => by
    simp only [fN, e1, aW, Option.some.injEq] at hb
    subst hb
    exact ⟨Nat.le_refl _, by simp⟩)
   refine ⟨.map (some w.heap.size), _, _, rfl, this.2, this.1, ?_⟩
   rw [← hg.n]
   exact ⟨⟨Nat.lt_succ_self c.n, by rw [e1]; rfl, by rw [e1]; trivial⟩, (fun h => by cases h), (fun _ cs => by simp)⟩
  ·exact hc.elim
 ·exact hc.elim
theorem aWI (hE : iE P E) (hg : Good M w0 c h w) {t : TypeId} {m k v : AV} {mv kv vv : Value} (hm : aX c w m mv) (hk : aX c w k kv) (hv : aX c w v vv) (hc : (aO7 E h t m k v).1) :
  ∃ w', (Instr.mapUpdate t mv kv vv).run P w = .ok () w' ∧ dZ c w c w' ∧ Good M w0 c (aO7 E h t m k v).2.2 w' ∧ (aO7 E h t m k v).2.1 = .junk := by
 unfold aO7 at hc ⊢
 split at hc
 ·rename_i i
  split at hc
  ·rename_i kc vc l ho
   split at hc
   ·rename_i x y hx hy
    obtain ⟨h1, h3⟩ := hc
    simp only [ho, hx, hy]
    obtain ⟨b, es, clock, q1, q2, q3, q4⟩ := hg.objs i _ ho
    have hmv : mv = .map (some b) := by
     obtain ⟨r1, _, r3⟩ := hm
     simp only [aN] at r1
     have r3 := r3 rfl
     obtain ⟨_, r1, _⟩ := r1
     rw [q1] at r1
     cases mv <;> simp [Value.cells] at r1 r3 <;> rw [r1]
    subst hmv
    unfold aWw at h3
    split at h3
    ·rename_i kt et he
     have hkx := vF hg hk hx
     have hvy := vF hg hv hy
     have hu := hE.mp _ _ _ he
     have hgo : (getObj b).run P w = .ok (.map es clock) w := by simp [getObj, Sem.run, q2]
     have hl : es.toList.length = l.length := by simpa using q3
     have hf := aJ5 (P := P) hE.T h3.1 h1 hkx w l es.toList hl (fun j h h' => by have := (q4 j h (by simpa using h')).1; simpa using this)
     have hck := aIL (P := P) false 9998 hE.T h3.1 h1 hkx w
     have hff := aLA (c := kc) (w := w) (S := c.S) (x := x) l es.toList 0 hl
     have hob : fN c i (.map kc vc l) b := by simp [fN, q1, aW]
     have hblt : b < w.heap.size := (hg.own i _ b ho hob).2.1
     have hnS := (hg.own i _ b ho hob).2.2
     have hset : ∀ (es' : Array MapEntry) (clock' : Nat) (l' : List (kc.den × vc.den)), es'.size = l'.length → (∀ j (h : j < l'.length) (h' : j < es'.size), dF w c.S kc l'[j].1 es'[j].key ∧ dF w c.S vc l'[j].2 es'[j].val) →
       ∃ w', (setObj b (.map es' clock')).run P w = .ok () w' ∧ dZ c w c w' ∧ Good M w0 c (h.set i (.map kc vc l')) w' := fun es' clock' l' hs hr => by
      have hsame : ∀ k, k ≠ b → (w.heap.setIfInBounds b (Go.Obj.map es' clock'))[k]? = w.heap[k]? := fun k hk => by simp [Ne.symm hk]
      have hkS : zK c.S w { w with heap := w.heap.setIfInBounds b (.map es' clock') } := fun k hk => hsame k (fun e => hnS (e ▸ hk))
      refine ⟨{ w with heap := w.heap.setIfInBounds b (.map es' clock') }, by simp [setObj, Sem.run, q2], ?_⟩
      have := hg.modify (o' := .map kc vc l') ho hob (w' := { w with heap := w.heap.setIfInBounds b (.map es' clock') }) rfl rfl rfl (by simp) hsame ?_ ?_
      ·exact ⟨this.2, this.1⟩
      ·exact ⟨b, es', clock', q1, by simp [hblt], hs, fun j h h' => ⟨(hr j h h').1.keep (fun _ h => h) hkS, (hr j h h').2.keep (fun _ h => h) hkS⟩⟩
      ·intro b' hb'
       simp [fN, q1, aW] at hb'
       exact hb'.symm
     cases hgt : aBA kc l x with
     | some y0 =>
      rw [hgt] at hff
      obtain ⟨j, e, k1, r1, r2, r3, r4, r5⟩ := hff
      rw [r1] at hf
      simp only [Nat.zero_add] at hf
      have hjl : j < l.length := by
       rcases Nat.lt_or_ge j l.length with h | h
       ·exact h
       ·rw [List.getElem?_eq_none h] at r3; cases r3
      have hje : j < es.size := by omega
      have e1 : es[j] = e := by
       have : es.toList[j]? = some e := r2
       rw [Array.getElem?_toList, Array.getElem?_eq_getElem hje] at this
       simpa using this
      have e2 : l[j] = (k1, y0) := by rw [List.getElem?_eq_getElem hjl] at r3; simpa using r3
      have hkk := (q4 j hjl hje).1
      rw [e1, e2] at hkk
      have hkey : e.key = kv := ((aWt h1 hkx hkk).1 r4).symm
      obtain ⟨w', s1, s2, s3⟩ := hset (es.modify j fun e => { e with key := kv, val := vv }) clock (l.set j (k1, y)) (by simp [q3]) (fun j' h h' => by
       simp only [List.length_set] at h
       have hj' : j' < es.size := by omega
       have hq := q4 j' h hj'
       simp only [List.getElem_set, Array.getElem_modify]
       by_cases ej : j = j'
       ·subst ej
        simp only [if_true]
        exact ⟨by rw [← hkey]; exact hkk, hvy⟩
       ·simp only [ej, if_false]; exact hq)
      refine ⟨w', ?_, s2, by rw [r5]; exact s3, trivial⟩
      have hst := aVy (P := P) h1 hkx w
      simp [Instr.mapUpdate, bD hu, hgo, hck, hf, Result.andThen, Array.getElem?_eq_getElem hje, e1, hkey, hst, s1]
     | none =>
      rw [hgt] at hff
      rw [hff.1] at hf
      obtain ⟨w', s1, s2, s3⟩ := hset (es.push { key := kv, val := vv, born := clock }) (clock + 1) (l ++ [(x, y)]) (by simp [q3]) (fun j' h h' => by
       rcases Nat.lt_or_ge j' l.length with hj | hj
       ·have hj' : j' < es.size := by omega
        have hq := q4 j' hj hj'
        rw [List.getElem_append_left hj, Array.getElem_push_lt hj']
        exact hq
       ·have ej : j' = l.length := by simp at h; omega
        subst ej
        have e3 : (es.push { key := kv, val := vv, born := clock : MapEntry })[l.length]'h' = { key := kv, val := vv, born := clock } := by
         have : l.length = es.size := q3.symm
         simp [Array.getElem_push, this]
        rw [e3]
        simp only [List.getElem_append_right (Nat.le_refl _), Nat.sub_self, List.getElem_singleton]
        exact ⟨hkx, hvy⟩)
      refine ⟨w', ?_, s2, by rw [hff.2]; exact s3, trivial⟩
      simp [Instr.mapUpdate, bD hu, hgo, hck, hf, Result.andThen, s1]
    ·exact h3.elim
   ·exact hc.elim
  ·exact hc.elim
 ·exact hc.elim
theorem aRQ (hE : iE P E) (hg : Good M w0 c h w) {t : TypeId} (hc : (aC3 E h t).1) :
  ∃ v' w' c', (Instr.buildSlice t 0 #[]).run P w = .ok v' w' ∧ dZ c w c' w' ∧ Good M w0 c' (aC3 E h t).2.2 w' ∧ aX c' w' (aC3 E h t).2.1 v' := by
 unfold aC3 at hc ⊢
 split at hc
 ·rename_i ct ht
  have hd := hE.el t ct ht
  obtain ⟨e', hd', hTe', hpos⟩ := gC (hE.T _ _ ht)
  have : e' = E.el t := by rw [hd] at hd'; cases hd'; rfl
  subst this
  have hTe := hE.T _ _ hTe'
  have hk : iY nothing w (w.alloc (.cells #[] (E.el t) (0, 0))) := iY.alloc nothing w _
  have e : (c.push (.slice (some ⟨w.heap.size, 0, none⟩) 0 0)).hd c.n = .slice (some ⟨w.heap.size, 0, none⟩) 0 0 := by simp [Ctx.push]
  have := hg.push hk (o := .row (E.el t) ct []) (hv := .slice (some ⟨w.heap.size, 0, none⟩) 0 0) (by
   show aBV _ _ _ _ _ _
   rw [e]
   exact ⟨[], ⟨by simp, .inr ⟨w.heap.size, 0, #[], rfl, Nat.zero_le _, aA7 w _, Nat.le_refl _, Nat.zero_le _, by simp, by simp⟩⟩, ⟨rfl, [], rfl, rfl, fun i hi => by simp at hi⟩⟩) (fun b hb => by
   simp only [fN, e, aW, Option.some.injEq] at hb
   subst hb
   exact ⟨Nat.le_refl _, by simp⟩)
  refine ⟨.slice (some ⟨w.heap.size, 0, none⟩) 0 0, _, _, ?_, this.2, this.1, ?_⟩
  ·have e1 : (Array.range (0 * ct.cells)).map (fun x => (#[] : Array Value)[x % (#[] : Array Value).size]!) = #[] := by simp
   have hle : ¬ (0 * ct.cells > 2 ^ 24) := by omega
   simp only [Instr.buildSlice, Sem.run_bind, bD hd, Result.andThen_ok, fP hTe, hle, if_false, Nat.zero_mul, if_true, Sem.run_ite, Sem.run_pure]
   rw [if_neg (by decide)]
   simp only [Nat.zero_mul] at e1
   rw [e1]
   rfl
  ·have := aDd (c := c) (v' := .slice (some ⟨w.heap.size, 0, none⟩) 0 0) ⟨_, _, _, rfl⟩ (w' := w.alloc (.cells #[] (E.el t) (0, 0))) (S' := c.S)
   rw [← hg.n]
   exact this
 ·exact hc.elim
theorem aZs (hE : iE P E) (hg : Good M w0 c h w) (hG : qM E.G c.S w) {o : Oper} {a : Act} {ρ : Operand → AV} (hρ : ∀ x ∈ o.op.operands, aX c w (ρ x) (a.eval x)) (hc : (aB9 E h ρ o).1) : aTT P M w0 c o a w (aB9 E h ρ o).2.2 (aB9 E h ρ o).2.1 := by
 have hpv : (pv E h ρ o).1 → aTT P M w0 c o a w h (pv E h ρ o).2 := fun hc => (aYY hE hg hG hρ hc).toE
 obtain ⟨dst, op, ty, pos, aft, gd⟩ := o
 cases op
 case alloc t =>
  simp only [aB9] at hc ⊢
  split at hc
  ·rename_i ct ht
   cases hdz : E.dz t with
   | true =>
    simp only [hdz, cond_true] at hc ⊢
    obtain ⟨hok, hzb⟩ := hc
    have hz := rV (hE.T _ _ ht) hok w
    obtain ⟨k1, k2, k3⟩ := aTS (c := c) (w := w) ct hok hzb
    have hag : ct.isAgg = true := by cases ct <;> first | rfl | (simp [aIl] at hzb)
    have hzv : mL ct = .agg (cY ct).toArray := by unfold mL; rw [if_pos hag]
    obtain ⟨w', c', h1, h2, h3, h4⟩ := aLF hg (t := t) (P := P) (x := .agg (lP ct)) (v := mL ct) (n := ct.cells) (.inl k3) k2 (by
     rw [hzv]
     exact ⟨by simpa [aN, Value.cells] using k1, fun _ => ⟨_, rfl⟩, fun h => by cases h⟩)
    refine .inl ⟨_, w', c', ?_, h2, h3, h4⟩
    simp [execOp, Instr.alloc, hz, h1]
   | false =>
   simp only [hdz, cond_false] at hc ⊢
   have hz := rV (hE.T _ _ ht) hc w
   obtain ⟨w', c', h1, h2, h3, h4⟩ := aLF hg (t := t) (P := P) (x := aHa ct) (by rw [(aKd (c := c) (w := w) hc).2.2.1]; exact aV5 t ct) (aKd (c := c) (w := w) hc).2.1 (aKd hc).2.2.2
   refine .inl ⟨_, w', c', ?_, h2, h3, h4⟩
   simp [execOp, Instr.alloc, hz, h1]
  ·exact hc.elim
 case box t x =>
  simp only [aB9] at hc ⊢
  obtain ⟨w', c', h1, h2, h3, h4⟩ := aLF hg (t := t) (P := P) (.inl rfl) hc (hρ x (by simp [Op.operands]))
  exact .inl ⟨_, w', c', by simp [execOp, Instr.box, h1], h2, h3, h4⟩
 case store t p x =>
  simp only [aB9] at hc ⊢
  obtain ⟨w', h1, h2, h3⟩ := aWC (P := P) hE.T hg (hρ p (by simp [Op.operands])) (hρ x (by simp [Op.operands])) hc
  refine .inr (.inl ⟨w', c, by simp [execOp, h1], h2, h3, ?_⟩)
  have : (aFH E.T h t (ρ p) (ρ x)).2.1 = .junk := by
   unfold aFH
   split <;> (try rfl)
   split <;> (try rfl)
   ·split <;> rfl
   ·split <;> (try rfl)
    split <;> rfl
   ·split <;> rfl
  rw [this]; trivial
 case makeMap t r =>
  cases r with
  | none =>
   simp only [aB9] at hc ⊢
   obtain ⟨v, w', c', h1, h2⟩ := aTU (P := P) hg hc
   exact .inl ⟨v, w', c', by simp [execOp, h1], h2⟩
  | some _ => exact hpv hc
 case buildSlice t n ps =>
  simp only [aB9] at hc ⊢
  split at hc
  ·rename_i m hm
   cases hokd : okD E h t m (ps.toList.map fun p => (p.1, ρ p.2)) with
   | false => simp only [hokd, cond_false] at hc ⊢; exact hpv hc
   | true =>
   simp only [hokd, cond_true] at hc ⊢
   have hp := aJ7 (l := ps.toList) (ρ := ρ) (a := a) (c := c) (w := w) (fun p hp => hρ p.2 (List.mem_toArray.2 (List.mem_map_of_mem hp)))
   obtain ⟨v', w', c', h1, h2, h3, h4⟩ := aVI (P := P) hE hg hp hc
   refine .inl ⟨v', w', c', ?_, h2, h3, h4⟩
   have e : (ps.map fun p => (p.1, a.eval p.2)) = (ps.toList.map fun p => (p.1, a.eval p.2)).toArray := by rw [← Array.toList_inj]; simp
   simp [execOp, e, h1]
  rename_i hm
  split at hc
  ·rename_i hps
   obtain rfl : ps = #[] := by rw [← Array.toList_inj]; exact hps
   obtain ⟨v', w', c', h1, h2, h3, h4⟩ := aRQ (P := P) hE hg hc
   exact .inl ⟨v', w', c', by simp [execOp, h1], h2, h3, h4⟩
  ·exact hpv hc
 case mapUpdate t m k v =>
  simp only [aB9] at hc ⊢
  obtain ⟨w', h1, h2, h3, h4⟩ := aWI (P := P) hE hg (hρ m (by simp [Op.operands])) (hρ k (by simp [Op.operands])) (hρ v (by simp [Op.operands])) hc
  exact .inr (.inl ⟨w', c, by simp [execOp, h1], h2, h3, by rw [h4]; trivial⟩)
 case insert t m k v =>
  simp only [aB9] at hc ⊢
  obtain ⟨w', h1, h2, h3, h4⟩ := aWI (P := P) hE hg (hρ m (by simp [Op.operands])) (hρ k (by simp [Op.operands])) (hρ v (by simp [Op.operands])) hc
  exact .inr (.inl ⟨w', c, by simp [execOp, h1], h2, h3, by rw [h4]; trivial⟩)
 case makeSlice t l cp =>
  simp only [aB9] at hc ⊢
  obtain ⟨v', w', c', h1, h2, h3, h4⟩ := aWH (P := P) hE hg (hρ l (by simp [Op.operands])) (hρ cp (by simp [Op.operands])) hc
  exact .inl ⟨v', w', c', by simp [execOp, h1], h2, h3, h4⟩
 case pick p x y =>
  simp only [aB9] at hc ⊢
  have hp := hρ p (by simp [Op.operands])
  have hx := hρ x (by simp [Op.operands])
  have hy := hρ y (by simp [Op.operands])
  unfold aUT at hc ⊢
  split at hc
  ·rename_i q u v e1 e2 e3
   rw [e1] at hp
   rw [e2] at hx
   rw [e3] at hy
   have hb := aES hp
   cases q
   ·exact (Did.of_value (v := a.eval y) (h := h) hg (by simp [execOp, hb, asBool]) hy).toE
   ·exact (Did.of_value (v := a.eval x) (h := h) hg (by simp [execOp, hb, asBool]) hx).toE
  ·rename_i q v e1 e2 e3
   rw [e1] at hp
   rw [e3] at hy
   have hb := aES hp
   have hc : q = false := hc
   subst hc
   exact (Did.of_value (v := a.eval y) (h := h) hg (by simp [execOp, hb, asBool]) hy).toE
  ·rename_i q u e1 e2 e3
   rw [e1] at hp
   rw [e2] at hx
   have hb := aES hp
   have hc : q = true := hc
   subst hc
   exact (Did.of_value (v := a.eval x) (h := h) hg (by simp [execOp, hb, asBool]) hx).toE
  ·exact hc.elim
 case call cl =>
  obtain ⟨callee, args, argTypes⟩ := cl
  have hargs : ∀ x ∈ args.toList, aX c w (ρ x) (a.eval x) := fun x hx => hρ x (by
   simp only [Op.operands, Call.operands]
   exact Array.mem_append.2 (.inr (by simpa using hx)))
  cases callee with
  | builtin b =>
   cases b
   case append =>
    simp only [aB9, aOy] at hc ⊢
    split at hc
    ·rename_i s x t t' e1 e2
     obtain ⟨p, q, epq, rfl, rfl⟩ : ∃ p q, args.toList = [p, q] ∧ ρ p = s ∧ ρ q = x := by
      match hl : args.toList, e1 with
      | [p, q], ex => simp at ex; exact ⟨p, q, rfl, ex.1, ex.2⟩
     cases hz : aUU (E.T t') with
     | true =>
      simp only [hz, cond_true] at hc ⊢
      have htx : P.underlying t' = some (.int .i64) := by
       unfold aUU at hz
       split at hz
       ·rename_i hT
        exact aX9 (hE.T _ _ hT)
       ·cases hz
      obtain ⟨v', w', c', h1, h2, h3, h4⟩ := aTN (P := P) (ty := ty) hE hg htx (hargs p (by rw [epq]; simp)) (hargs q (by rw [epq]; simp)) hc
      have e3 : args = #[p, q] := by rw [← Array.toList_inj]; exact epq
      have e4 : argTypes = #[t, t'] := by rw [← Array.toList_inj]; exact e2
      exact .inl ⟨v', w', c', by rw [e3, e4]; simp [execOp, resolve, invoke, builtin, h1], h2, h3, h4⟩
     | false =>
     simp only [hz, cond_false] at hc ⊢
     cases hq : isStr (E.T t') with
     | true =>
      simp only [hq, cond_true] at hc ⊢
      have htx : P.underlying t' = some .string := by
       unfold isStr at hq
       split at hq
       ·rename_i hT
        exact yQ (hE.T _ _ hT)
       ·cases hq
      obtain ⟨v', w', c', h1, h2, h3, h4⟩ := aTO (P := P) (ty := ty) hE hg htx (hargs p (by rw [epq]; simp)) (hargs q (by rw [epq]; simp)) hc
      have e3 : args = #[p, q] := by rw [← Array.toList_inj]; exact epq
      have e4 : argTypes = #[t, t'] := by rw [← Array.toList_inj]; exact e2
      exact .inl ⟨v', w', c', by rw [e3, e4]; simp [execOp, resolve, invoke, builtin, h1], h2, h3, h4⟩
     | false =>
     simp only [hq, cond_false] at hc ⊢
     obtain ⟨hc, rfl⟩ := hc
     obtain ⟨v', w', c', h1, h2, h3, h4⟩ := aTR (P := P) (ty := ty) hE hg (hargs p (by rw [epq]; simp)) (hargs q (by rw [epq]; simp)) hc
     have e3 : args = #[p, q] := by rw [← Array.toList_inj]; exact epq
     have e4 : argTypes = #[t', t'] := by rw [← Array.toList_inj]; exact e2
     exact .inl ⟨v', w', c', by rw [e3, e4]; simp [execOp, resolve, invoke, builtin, h1], h2, h3, h4⟩
    ·exact hc.elim
   all_goals exact hpv hc
  | value f =>
   cases f with
   | func f =>
    simp only [aB9, aOy] at hc ⊢
    cases ho : aSO E.Γ f (args.toList.map ρ) with
    | false =>
     simp only [ho, cond_false] at hc ⊢
     exact hpv hc
    | true =>
     simp only [ho, cond_true] at hc ⊢
     have hfok : ∀ sp, E.Γ f (args.toList.map ρ) = some sp → FOK P E.G f sp ∧ ∃ fn, P.funcs[f]? = some fn ∧ fn.name ≠ "runtime.NumGoroutine" ∧ fn.body.isSome = true := fun sp hsp => by
      rcases hE.Γ f _ sp hsp with h | h
      ·exact h
      ·unfold aSO at ho
       rw [hsp] at ho
       obtain ⟨a1, r1, p1, f1⟩ := sp
       cases r1 with
       | own e t => exact absurd rfl (h.1 e t)
       | _ => simp at ho
     have hcall := aTM (P := P) (Γ := E.Γ) (fun sp hsp => (hfok sp hsp).1) hg hG (f := f) (vs := args.toList.map ρ) (xs := (args.toList.map a.eval).toArray) (by simp) (fun i h1 h2 => by
      have := aFE (ρ := ρ) (a := a) (c := c) (w := w) hargs i h1 (by simpa using h2)
      simpa using this) hc
     have hfn : ∃ fn, P.funcs[f]? = some fn ∧ fn.name ≠ "runtime.NumGoroutine" ∧ fn.body.isSome = true := by
      unfold aSO at ho
      cases hΓ : E.Γ f (args.toList.map ρ) with
      | none => simp [hΓ] at ho
      | some sp => exact (hfok sp hΓ).2
     refine .inr (.inr ⟨f, (args.toList.map a.eval).toArray, ?_, ?_⟩)
     ·have hrun := aCt (w := w) (args := (args.map a.eval)) hfn
      have e2 : (args.toList.map a.eval).toArray = args.map a.eval := by rw [← Array.toList_inj]; simp
      rw [e2]
      simp [execOp, resolve, Deferred.ofValue, Act.eval, invoke, hrun]
     ·refine hcall.mono ?_
      rintro e w' ⟨v, c', he, h1, h2, h3⟩
      exact ⟨v, c', he, h1, h2, h3⟩
   | _ => exact hpv hc
  | _ => exact hpv hc
 all_goals exact hpv hc
theorem aWJ (hg : Good M w0 c h w) {G : Nat → AV} {env : St} {a : Act} (he : aGT c w env a.tmps) (hG : qM G c.S w) {x : Operand} (hx : nY x = true) : aX c w (aRO h (evA G env x)) (a.eval x) := aUP hg (aC7 he hG hx)
theorem aIu (hE : iE P E) {nt : Nat} {ds : List Deferred} {env : St} {a : Act} {o : Oper} (hs : Sim E M w0 nt ds c env h a w) (hok : gV nt o = true) (hc : (wD E env h o).1) : aTT P M w0 c o a w (wD E env h o).2.2 (wD E env h o).2.1 := by
 obtain ⟨c1, hl, hn, hg1⟩ := hs.good.freezeAll (aO8 E (evA E.G env) o)
 simp only [gV, Bool.and_eq_true] at hok
 have hall : ∀ x ∈ o.op.operands, nY x = true := Array.all_eq_true_iff_forall_mem.1 hok.1
 have hG1 : qM E.G c1.S w := hs.glob.mono hl.le.S hl.same
 have := aZs hE hg1 hG1 (o := o) (a := a) (ρ := fun x => aRO (freezeAll (aO8 E (evA E.G env) o) h) (evA E.G env x)) (fun x hx => aWJ hg1 (hs.env.keep hl) hG1 (hall x hx)) hc
 rcases this with ⟨v, w', c', hr, ha⟩ | ⟨w', c', hr, ha⟩ | ⟨f, args, hr, hcl⟩
 ·exact .inl ⟨v, w', c', hr, hl.trans ha.later, ha.good, ha.val⟩
 ·exact .inr (.inl ⟨w', c', hr, hl.trans ha.later, ha.good, ha.val⟩)
 ·refine .inr (.inr ⟨f, args, hr, hcl.mono ?_⟩)
  rintro e w' ⟨v, c', he, ha⟩
  exact ⟨v, c', he, hl.trans ha.later, ha.good, ha.val⟩
theorem Sim.after {nt : Nat} {ds : List Deferred} {env : St} {a : Act} {o : Oper} (hs : Sim E M w0 nt ds c env h a w) (hok : gV nt o = true) {h' : List Obj} {av : AV} {v : Value} {w' : World} {c' : Ctx} (ha : aJp M w0 c w h' av v w' c') : Sim E M w0 nt ds c' (wT o.dst av env) h' (a.put o.dst v) w' := by
 simp only [gV, Bool.and_eq_true] at hok
 refine ⟨ha.good, hs.glob.mono ha.later.le.S ha.later.same, ?_, ?_, ?_⟩
 ·cases hd : o.dst with
  | none => exact hs.env.keep ha.later
  | some d =>
   have hdn : d < nt := by have := hok.2; rw [hd] at this; simpa using this
   exact (hs.env.keep ha.later).put (by rw [hs.size]; exact hdn) ha.val
 ·cases hd : o.dst with
  | none => exact hs.size
  | some d => simp [Act.put, hs.size]
 ·cases hd : o.dst with
  | none => exact hs.defers
  | some d => exact hs.defers
def yb : Value → Option Bool
 | .bool b => some b
 | _ => none
theorem yR {nt : Nat} {ops : List Oper} (hok : ∀ o ∈ ops, gV nt o = true) {a : Act} (hsz : a.tmps.size = nt) {j dj : Nat} (hd : aIN ops j = some dj) {v : Value} (hv : a.tmps.getD dj Go.undef = v) : yielded ops.toArray a.tmps j = yb v := by
 unfold aIN at hd
 split at hd
 ·rename_i oj hj
  have hokJ := hok oj (List.mem_of_getElem? hj)
  simp only [gV, Bool.and_eq_true, hd, decide_eq_true_eq] at hokJ
  have hdj : dj < a.tmps.size := by rw [hsz]; exact hokJ.2
  have h1 : a.tmps[dj]? = some v := by
   rw [Array.getElem?_eq_getElem hdj]
   have : a.tmps[dj] = v := by simpa [hdj] using hv
   rw [this]
  simp only [yielded, List.getElem?_toArray, hj, Option.bind_some, hd, h1]
  cases v <;> rfl
 ·cases hd
theorem aKh (hE : iE P E) {ops : List Oper} {Q : Exit → Act → World → Prop} {nt : Nat} {ds : List Deferred} (hok : ∀ o ∈ ops, gV nt o = true) {K : St → List Obj → Prop} (hK : ∀ env h c a w, K env h → Sim E M w0 nt ds c env h a w → Q .normal a w) :
  ∀ (m i : Nat), i + m = ops.length → ∀ (env : St) (h : List Obj) (c : Ctx) (a : Act) (w : World), sN E ops (ops.drop i) env h K → Sim E M w0 nt ds c env h a w → wpOps P ops.toArray Q (List.range' i m) a w
 | 0, i, hi, env, h, c, a, w, hs, hsim => by
  rw [List.drop_eq_nil_of_le (by omega)] at hs
  simp only [List.range'_zero, wpOps]
  exact hK env h c a w hs hsim
 | m + 1, i, hi, env, h, c, a, w, hs, hsim => by
  have hil : i < ops.length := by omega
  rw [List.drop_eq_getElem_cons hil] at hs
  have hokO := hok ops[i] (List.getElem_mem hil)
  have hput : ∀ (v : Value) (av : AV), aX c w av v → Sim E M w0 nt ds c (wT ops[i].dst av env) h (a.put ops[i].dst v) w := fun v av hv => hsim.after hokO ⟨.refl _ _, hsim.good, hv⟩
  have hrun : ((wD E env h ops[i]).1 ∧ sN E ops (ops.drop (i + 1)) (wT ops[i].dst (wD E env h ops[i]).2.1 env) (wD E env h ops[i]).2.2 K) → Region.wanted ops[i] (yielded ops.toArray a.tmps) = true → wpOps P ops.toArray Q (List.range' i (m + 1)) a w := fun ⟨h1, h2⟩ hw => by
   rw [List.range'_succ]
   simp only [wpOps, List.getElem?_toArray, List.getElem?_eq_getElem hil, hw, if_true]
   left
   refine (aIu hE hsim hokO h1).wp fun v w' c' ha => ?_
   exact aKh hE hok hK m (i + 1) (by omega) _ _ c' _ w' h2 (hsim.after hokO ha)
  have hskip : sN E ops (ops.drop (i + 1)) (wT ops[i].dst .undef env) h K → Region.wanted ops[i] (yielded ops.toArray a.tmps) = false → wpOps P ops.toArray Q (List.range' i (m + 1)) a w := fun h2 hw => by
   rw [List.range'_succ]
   simp only [wpOps, List.getElem?_toArray, List.getElem?_eq_getElem hil, hw, Bool.false_eq_true, if_false]
   exact aKh hE hok hK m (i + 1) (by omega) _ _ c _ w h2 (hput _ _ rfl)
  simp only [sN] at hs
  cases hgd : ops[i].guard with
  | none =>
   rw [hgd] at hs
   exact hrun hs (by simp [Region.wanted, hgd])
  | some jp =>
   obtain ⟨j, pol⟩ := jp
   rw [hgd] at hs
   simp only at hs
   cases hdj : aIN ops j with
   | none => rw [hdj] at hs; exact hs.elim
   | some dj =>
    rw [hdj] at hs
    simp only at hs
    have hv := hsim.env dj
    split at hs
    ·rename_i b hb
     rw [hb] at hv
     have hb' := aES hv
     have hy := yR hok hsim.size hdj hb'
     simp only [yb] at hy
     by_cases e : b = pol
     ·exact hrun (hs.1 e) (by simp [Region.wanted, hgd, hy, e])
     ·have e' : b = !pol := by cases b <;> cases pol <;> simp_all
      exact hskip (hs.2 e') (by simp [Region.wanted, hgd, hy, e])
    ·rename_i hb
     rw [hb] at hv
     have hy := yR hok hsim.size hdj (v := Go.undef) hv
     exact hskip hs (by simp [Region.wanted, hgd, hy, Go.undef, yb])
    ·exact hs.elim
theorem aR {F : Fr} {Q : Exit → Act → World → Prop} {env : St} {h : List Obj} (hF : gD F) {id : Nat} {ops : Array Oper} (keep : List Nat) (hv : sN F.E ops.toList ops.toList env h (fun env h => At F (Q .normal) (keep.map fun t => (t, look env t)) h)) : Tri F (.region id ops false) Q env h := fun hok c a w hs => by
 simp only [iA, Bool.and_eq_true, Bool.or_eq_true, Bool.not_eq_true'] at hok
 obtain ⟨⟨h1, h2⟩, h3⟩ := hok
 refine wp_region ?_
 have := aKh (Q := Q) hF.env (List.all_eq_true.1 h1) (K := fun env h => At F (Q .normal) (keep.map fun t => (t, look env t)) h) (fun env h c a w hk hs => hk c a w (hs.keep keep)) ops.toList.length 0 (by simp) env h c a w (by simpa using hv) hs
 simpa [List.range_eq_range'] using this
end
end Go.Vc
