import Derived.Test.YtjfnadgkomdedaaGreatDoorZL3
import Derived.Lib.AppendStr
set_option linter.unusedVariables false
set_option linter.unusedSimpArgs false
namespace Go.Vc
open Go.RowKit
section
variable {P : Program} {E : Env} {T : Tab} {M : Perm} {w0 : World} {c : Ctx} {h : List Obj} {w : World}
theorem aMo (zs : List Value) (n : Nat) (hz : 0 < zs.length) : (Builtin.zeroCells zs.toArray n).toList = (List.replicate n zs).flatten := by
 have := uF zs n hz
 simpa [Builtin.zeroCells] using this
theorem aK1 (w : World) (base : Nat) (t tx ty e : TypeId) (k : IntKind) (i : TypeInfo) (z : Value) (size bytes : Nat) (ht : P.underlying t = some (.slice e)) (hx : P.underlying tx = some (.int k)) (hi : P.info? e = some i) (hz : i.zero = some z)
  (hsize : i.size = size) (hby : i.bytes = bytes) (hzs : z.cells.size = size) (hsz : 0 < size)
  (v : Value) (n : Nat) (xs : List Value) (hown : w.ownsRow base e size v n xs)
  (k' : IntKind) (m : Nat) (news : List Value) (hnews : news = (Builtin.zeroCells z.cells m).toList) (h1 : ∀ u ∈ news, u.oneCell' = true)
  (h63 : n + m ≤ maxLen) (hbytes : (n + m) * bytes ≤ 140737488355328) (hbase : base ≤ w.heap.size) :
  ∃ v' w', (Builtin.append_ #[t, tx] ty #[v, .int k' (m : Int)]).run P w = .ok v' w' ∧ w'.ownsRow base e size v' (n + m) (xs ++ news) ∧ w.grownBy w' v.ownBlock ∧
   (v'.ownBlock = v.ownBlock ∨ v'.ownBlock = some w.heap.size) := by
 subst hsize
 subst hby
 have hl : news.length = m * i.size := by
  rw [hnews, Array.length_toList, size_zeroCells, hzs]
 have hna : (Builtin.zeroCells z.cells m) = news.toArray := by rw [hnews]
 have hsmall : n + m ≤ 9223372036854775807 := by simp only [maxLen] at h63; omega
 have hwrap : IntKind.i64.wrap (m : Int) = m := by
  simp only [IntKind.wrap, IntKind.signed, IntKind.bits]; simp; omega
 have hneg : ¬ ((m : Int) < 0) := by omega
 have hmb : m * i.bytes ≤ (n + m) * i.bytes := Nat.mul_le_mul_right _ (by omega)
 have hfit48 : ¬ (281474976710656 < (m : Int) * (i.bytes : Int)) := by
  have : ((m * i.bytes : Nat) : Int) = (m : Int) * (i.bytes : Int) := Int.natCast_mul _ _
  omega
 have hlen : (xs ++ news).length = (n + m) * i.size := by rw [List.length_append, hown.1, hl, Nat.add_mul]
 have grown : ∀ (old : Nat), old < n + m → ∀ (row : Option Nat),
   (w.drew.alloc (.cells (xs.toArray ++ news.toArray ++ Builtin.zeroCells z.cells (grownCap w (n + m) old e - (n + m))) e)).ownsRow base e i.size
    (.slice (some ⟨w.heap.size, 0, none⟩) (n + m) (grownCap w (n + m) old e)) (n + m) (xs ++ news) ∧
   w.grownBy (w.drew.alloc (.cells (xs.toArray ++ news.toArray ++ Builtin.zeroCells z.cells (grownCap w (n + m) old e - (n + m))) e)) row := by
  intro old ho row
  have hge := grownCap_ge w (n + m) old e
  have hcm : grownCap w (n + m) old e ≤ maxLen := grownCap_le_maxLen w (n + m) old e h63
  refine ⟨⟨hlen, .inr ⟨w.heap.size, _, _, rfl, hbase, heap_alloc_new w.drew _, hge, hcm, ?_, ?_⟩⟩, ⟨rfl, rfl, rfl, by simp, fun k hk _ => Go.heap_alloc_old w.drew _ hk⟩⟩
  ·simp only [Array.size_append, List.size_toArray, size_zeroCells, hzs, hown.1, hl, ← Nat.add_mul]
   congr 1
   omega
  ·simp only [Array.toList_append, List.append_assoc]
   rw [← List.append_assoc, ← hlen]
   exact List.take_left
 rcases hown.2 with ⟨rfl, rfl⟩ | ⟨g, cap, cur, rfl, hbg, hg, hnc, hcm, hcs, htake⟩
 ·have hx0 : xs = [] := List.eq_nil_of_length_eq_zero (by simpa using hown.1)
  subst hx0
  by_cases hm : m = 0
  ·subst hm
   have hn : news = [] := List.eq_nil_of_length_eq_zero (by simpa using hl)
   subst hn
   refine ⟨.slice none 0 0, w, ?_, World.ownsRow_nil w base e i.size, ⟨rfl, rfl, rfl, Nat.le_refl _, fun _ _ _ => rfl⟩, Or.inl rfl⟩
   have hw0 : IntKind.i64.wrap 0 = 0 := by decide
   simp [Builtin.append_, run_underlying ht, run_underlying hx, sizeOf, typeInfo, hi, asInt, asIntOf, hw0]
  ·have h48' : ¬ (281474976710656 < Builtin.nextslicecap m 0 * i.bytes) := by rw [nextslicecap_zero (by omega)]; simp only [Nat.zero_add] at hbytes; omega
   have hms : ¬ (m * i.size = 0) := by
    intro h
    rcases Nat.mul_eq_zero.1 h with h | h <;> omega
   have h63' : ¬ (9223372036854775807 < (m : Int)) := by omega
   have hgr := grown 0 (by omega) (Value.ownBlock (.slice none 0 0))
   simp only [Nat.zero_add, List.nil_append, Array.empty_append] at hgr ⊢
   refine ⟨_, _, ?_, hgr.1, hgr.2, Or.inr rfl⟩
   have hsz0 : i.size ≠ 0 := by omega
   simp [Builtin.append_, run_underlying ht, run_underlying hx, sizeOf, typeInfo, zeroValue, hi, hz, asInt, asIntOf, hwrap, hneg, hfit48, hm, h63', h48', hsz0, hms, Question.forced, run_firstCells_none, newRow, grownCap, hna]
 ·by_cases hroom : n + m ≤ cap
  ·have hfit : n * i.size + news.length ≤ cur.size := by rw [hl, hcs, ← Nat.add_mul]; exact Nat.mul_le_mul_right _ hroom
   have hst := run_storeCells_at P g (n * i.size) e news 0 cur w hg (by simpa using hfit) h1
   simp only [Nat.add_zero] at hst
   refine ⟨.slice (some ⟨g, 0, none⟩) (n + m) cap, w.setRow g (cur.toList.take (n * i.size) ++ news ++ cur.toList.drop (n * i.size + news.length)).toArray, ?_, ⟨hlen, .inr ⟨g, cap, _, rfl, hbg, setRow_heap w g cur _ e _ hg, hroom, hcm, ?_, ?_⟩⟩, ⟨rfl, rfl, rfl, by simp, fun k _ hk => setRow_other w g k _ (fun e => hk (by simp [Value.ownBlock, e]))⟩, Or.inl rfl⟩
   ·by_cases hm : m * i.size = 0
    ·have hn : news = [] := List.eq_nil_of_length_eq_zero (by rw [hl]; exact hm)
     subst hn
     simp [Builtin.append_, run_underlying ht, run_underlying hx, sizeOf, typeInfo, zeroValue, hi, hz, asInt, asIntOf, hwrap, hneg, hfit48, hroom, hm, Addr.add_lit] at hst ⊢
     simp [hst]
    ·have hm' : ¬ (m = 0 ∨ i.size = 0) := fun h => hm (Nat.mul_eq_zero.2 h)
     simp [Builtin.append_, run_underlying ht, run_underlying hx, sizeOf, typeInfo, zeroValue, hi, hz, asInt, asIntOf, hwrap, hneg, hfit48, hroom, hm, hm', Addr.add_lit, hna, hst]
   ·simp only [List.size_toArray, List.length_append, List.length_take, List.length_drop, Array.length_toList]
    omega
   ·rw [htake, ← hlen]
    exact List.take_left
  ·have holds : ∀ j u, xs[j]? = some u → w.cell? ((⟨g, 0, none⟩ : Addr).add j) = some u := hown.cells (g := g) rfl
   have hfo := run_firstCells_some (P := P) w.drew i.size n ⟨g, 0, none⟩ n cap xs hown.1 (by simpa using holds)
   have hm : ¬ (m * i.size = 0) := by
    intro h
    rcases Nat.mul_eq_zero.1 h with h | h <;> omega
   have hm' : ¬ (m = 0 ∨ i.size = 0) := fun h => hm (Nat.mul_eq_zero.2 h)
   have h63' : ¬ (9223372036854775807 < ((n : Int) + (m : Int))) := by omega
   have hgs := growslice_fits (old := cap) (by omega : cap < n + m) hbytes
   have h48' : ¬ (281474976710656 < Builtin.nextslicecap (n + m) cap * i.bytes) := by omega
   have hgr := grown cap (by omega) (Value.ownBlock (.slice (some ⟨g, 0, none⟩) n cap))
   refine ⟨_, _, ?_, hgr.1, hgr.2, Or.inr rfl⟩
   simp [Builtin.append_, run_underlying ht, run_underlying hx, sizeOf, typeInfo, zeroValue, hi, hz, asInt, asIntOf, hwrap, hneg, hfit48, hroom, hm, hm', h63', h48', Question.forced, hfo, newRow, grownCap, hna]
   congr 2
   apply Array.ext'
   simp [List.append_assoc]
theorem aWo {t : TypeId} {k : IntKind} (hTy : aAJ P E.T t (.i k)) : P.underlying t = some (.int k) := by
 obtain ⟨d, hd, hb⟩ := hTy.desc
 cases d <;> simp [fT] at hb
 obtain ⟨rfl, _⟩ := hb
 exact hd
def aF5 (E : Env) (h : List Obj) (t : TypeId) (s x : AV) : Prop × AV × List Obj :=
 match E.T t with
 | some (.sl ct) => match zP x with
  | some n => match s with
   | .nilS => (0 ≤ n ∧ bound ct n.toNat ∧ ct.okB = true, .own h.length, h ++ [.row (E.el t) ct (List.replicate n.toNat ct.zero)])
   | .own i => match h[i]? with
    | some (.row e c' xs) => match zU c' ct xs with
     | some xs => (e = E.el t ∧ 0 ≤ n ∧ bound ct (xs.length + n.toNat) ∧ ct.okB = true, .own h.length, h.set i .dead ++ [.row (E.el t) ct (xs ++ List.replicate n.toNat ct.zero)])
     | none => (False, .junk, h)
    | _ => (False, .junk, h)
   | _ => (False, .junk, h)
  | none => (False, .junk, h)
 | _ => (False, .junk, h)
theorem aKh (hE : fU P E) {t tx ty : TypeId} {ct : Ty} (ht : E.T t = some (.sl ct)) {k : IntKind} (htx : P.underlying tx = some (.int k)) (hok : ct.okB = true) {sv : Value} {xs : List ct.den}
  (hrow : vU c w (E.el t) ct xs sv) {k' : IntKind} {m : Nat}
  (hb : bound ct (xs.length + m)) (hSb : ∀ b, c.S b → b < w.heap.size ∧ aN sv ≠ some b) :
  ∃ v' w', (Builtin.append_ #[t, tx] ty #[sv, .int k' (m : Int)]).run P w = .ok v' w' ∧ w.grownBy w' (aN sv) ∧ vU c w' (E.el t) ct (xs ++ List.replicate m ct.zero) v' ∧ (∀ b, aN v' = some b → aN sv = some b ∨ (w.heap.size ≤ b ∧ b < w'.heap.size)) ∧ ∃ a n m, v' = .slice a n m := by
 have hd := hE.el t ct ht
 obtain ⟨e', hd', hTe', hpos⟩ := eE (hE.T _ _ ht)
 have : e' = E.el t := by rw [hd] at hd'; cases hd'; rfl
 subst this
 have hTe := hE.T _ _ hTe'
 obtain ⟨i, hi, hsz, hz, hby⟩ := hTe.info
 obtain ⟨vals, hown, hrep⟩ := hrow
 rw [← hsz] at hown
 have hzl := gI hok
 have hnews : (List.replicate m (cC ct)).flatten = (Builtin.zeroCells (jO ct).cells m).toList := by
  rw [uW hok]; exact (aMo _ _ (by omega)).symm
 have hnr : aT w c.S (.arr m ct) (List.replicate m ct.zero) (List.replicate m (cC ct)).flatten := eI w c.S (.arr m ct) hok
 have hone : ∀ u ∈ (List.replicate m (cC ct)).flatten, u.oneCell' = true := fun u hu => by
  have := aT.one _ _ _ hnr u hu
  cases u <;> first | rfl | exact this.elim
 obtain ⟨v', w', hrun, hown', hgr, hat⟩ := aK1 (P := P) w 0 t tx ty (E.el t) k i (jO ct) ct.cells i.bytes hd htx hi (hz hok) hsz rfl (by rw [uW hok]; simp [hzl]) hpos sv xs.length vals (by rw [← hsz]; exact hown)
  k' m _ hnews hone hb.1 (Nat.le_trans (Nat.mul_le_mul_left _ hby) hb.2) (Nat.zero_le _)
 have hsl := iD hown
 have hsl' := iD hown'
 rw [← pK hsl] at hgr hat
 rw [← pK hsl'] at hat
 have hsame : vT c.S w w' := fun b hb => hgr.block b (hSb b hb).1 (fun e => (hSb b hb).2 e.symm)
 refine ⟨v', w', hrun, hgr, ?_, fun b hb => ?_, hsl'⟩
 ·have hnr' : aT w c.S (.arr (List.replicate m ct.zero).length ct) (List.replicate m ct.zero) (List.replicate m (cC ct)).flatten := by
   rw [List.length_replicate]; exact hnr
  have := aG4 hrep hnr'
  exact ⟨vals ++ _, by simpa using hown', aT.keep (fun _ h => h) hsame _ _ _ (by simpa using this)⟩
 ·rcases hat with hat | hat
  ·left; rw [← hat]; exact hb
  ·right
   rw [hat] at hb
   cases hb
   refine ⟨Nat.le_refl _, ?_⟩
   rcases hown'.2 with ⟨rfl, _⟩ | ⟨g, cp, cur, rfl, _, hheap, _⟩
   ·cases hat
   ·simp [aN] at hat
    subst hat
    exact (Array.getElem?_eq_some_iff.1 hheap).1
theorem aRF (hE : fU P E) (hg : Good M w0 c h w) {t tx ty : TypeId} {k : IntKind} (htx : P.underlying tx = some (.int k)) {s x : AV} {sv xv : Value} (hs : aQ c w s sv) (hx : aQ c w x xv) (hc : (aF5 E h t s x).1) :
  ∃ v' w' c', (Builtin.append_ #[t, tx] ty #[sv, xv]).run P w = .ok v' w' ∧ dE c w c' w' ∧ Good M w0 c' (aF5 E h t s x).2.2 w' ∧ aQ c' w' (aF5 E h t s x).2.1 v' := by
 unfold aF5 at hc ⊢
 split at hc
 ·rename_i ct ht
  split at hc
  ·rename_i n hn
   obtain ⟨k', rfl⟩ := vZ hx hn
   split at hc
   ·
    obtain ⟨h0, hb, hok⟩ := hc
    obtain ⟨m, rfl⟩ := Int.eq_ofNat_of_zero_le h0
    have hsv : sv = .slice none 0 0 := by
     obtain ⟨h1, _, h3⟩ := hs
     have h3 := h3 rfl
     simp only [aH] at h1
     cases sv <;> simp [Value.cells] at h1 h3 <;> simp [h1]
    subst hsv
    simp only [Int.toNat_natCast] at hb ⊢
    obtain ⟨v', w', hrun, hgr, hrow, hbl, hsl⟩ := aKh (c := c) (w := w) (P := P) (ty := ty) (xs := []) (k' := k') (m := m) hE ht htx hok (sv := .slice none 0 0) ⟨[], ⟨by simp, .inl ⟨rfl, rfl⟩⟩, ⟨rfl, [], rfl, rfl, fun i h => by simp at h⟩⟩ (by simpa using hb) (fun b hb => ⟨hg.sfin b hb, by simp [aN]⟩)
    rw [List.nil_append] at hrow
    have hk : fJ nothing w w' := ⟨hgr.os, hgr.tape, hgr.output, hgr.size, fun b hb _ => hgr.block b hb (by simp [aN])⟩
    have := hg.push hk (o := .row (E.el t) ct (List.replicate m ct.zero)) (hv := v') (by
     show vU _ _ _ _ _ _
     have e : (c.push v').hd c.n = v' := by simp [Ctx.push]
     rw [e]
     exact hrow) (fun b hb => by
     have e : (c.push v').hd c.n = v' := by simp [Ctx.push]
     simp only [dO, e] at hb
     rcases hbl b hb with h1 | h1
     ·simp [aN] at h1
     ·exact h1)
    refine ⟨v', w', _, hrun, this.2, this.1, ?_⟩
    have := aBu (c := c) hsl (w' := w') (S' := c.S)
    rw [← hg.n]
    exact this
   ·rename_i i
    split at hc
    ·rename_i e c' xs ho
     split at hc
     ·rename_i xs' hcast
      obtain ⟨rfl, rfl⟩ := aBt hcast
      obtain ⟨rfl, h0, hb, hok⟩ := hc
      obtain ⟨m, rfl⟩ := Int.eq_ofNat_of_zero_le h0
      simp only [Int.toNat_natCast] at hb ⊢
      have hsv := (yV hs).2
      have hrow0 : vU c w (E.el t) _ _ (c.hd i) := hg.objs i _ ho
      subst hsv
      obtain ⟨v', w', hrun, hgr, hrow, hbl, hsl⟩ := aKh (c := c) (w := w) (P := P) (ty := ty) (k' := k') (m := m) hE ht htx hok hrow0 hb (fun b hb => ⟨hg.sfin b hb, fun e => (hg.own i _ b ho e).2.2 hb⟩)
      have := hg.regrow ho hgr hrow hbl
      refine ⟨v', w', _, hrun, this.2, this.1, ?_⟩
      have := aBu (c := c) hsl (w' := w') (S' := c.S)
      rw [← hg.n]
      exact this
     ·exact hc.elim
    ·exact hc.elim
   ·exact hc.elim
  ·exact hc.elim
 ·exact hc.elim
end
end Go.Vc
namespace Go.Vc
open Go.RowKit
section
variable {P : Program} {E : Env} {T : Tab} {M : Perm} {w0 : World} {c : Ctx} {h : List Obj} {w : World}
theorem aHR (w : World) (t u ty e : TypeId) (i : TypeInfo) (ht : P.underlying t = some (.slice e)) (hu : P.underlying u = some .string) (hi : P.info? e = some i) (hz : i.zero = some (.int .u8 0))
  (hsize : i.size = 1) (hby : i.bytes = 1) (v : Value) (n : Nat) (xs : List Value) (hown : w.ownsRow 0 e 1 v n xs) (s : ByteArray)
  (h63 : n + s.size ≤ maxLen) (hbytes : n + s.size ≤ 140737488355328) :
  ∃ v' w', (Builtin.append_ #[t, u] ty #[v, .string s]).run P w = .ok v' w' ∧ w'.ownsRow 0 e 1 v' (n + s.size) (xs ++ Lib.strCells s) ∧ w.grownBy w' v.ownBlock ∧ (v'.ownBlock = v.ownBlock ∨ v'.ownBlock = some w.heap.size) := by
 obtain ⟨v', w', hr, h2, h3, _⟩ := Lib.run_append_own_string (P := P) w 0 t u ty e i ht hu hi hz hsize hby v n xs hown s h63 hbytes (Nat.zero_le _)
 refine ⟨v', w', hr, h2, h3, ?_⟩
 have hsmall : n + s.size ≤ 9223372036854775807 := by simp only [maxLen] at h63; omega
 have hxl : xs.length = n := by simpa using hown.1
 rcases hown.2 with ⟨rfl, rfl⟩ | ⟨g, cap, cur, rfl, hbg, hg, hnc, hcm, hcs, htake⟩
 ·by_cases hm : s.size = 0
  ·have hf := Lib.run_firstCells_string (P := P) w 1 s
   rw [hm] at hf
   simp [Builtin.append_, run_underlying ht, run_underlying hu, sizeOf, typeInfo, hi, hsize, Builtin.lenOf, hm, hf] at hr
   rw [← hr.1]; exact .inl rfl
  ·have hr2 := run_append_nil_string (P := P) w t u ty e i (.int .u8 0) ht hu hi hz s (by omega) (by omega) (by rw [hby]; omega)
   rw [hr] at hr2
   injection hr2 with q1 q2
   rw [q1]; exact .inr rfl
 ·by_cases hroom : n + s.size ≤ cap
  ·have hcs' : cur.size = cap := by simpa using hcs
   have hr2 := Lib.run_append_room_string (P := P) w t u ty e i ht hu hi hsize g n cap cur hg s hroom (by omega)
   rw [hr] at hr2
   injection hr2 with q1 q2
   rw [q1]; exact .inl rfl
  ·have holds : ∀ j u, xs[j]? = some u → w.cell? ((⟨g, 0, none⟩ : Addr).add j) = some u := hown.cells (g := g) rfl
   have hr2 := Lib.run_append_grow_string (P := P) w t u ty e i (.int .u8 0) ht hu hi hz ⟨g, 0, none⟩ n cap xs (by rw [hsize]; simpa using hxl) holds s (by omega) (by omega) (by rw [hby]; exact growslice_fits (by omega) (by omega))
   rw [hr] at hr2
   injection hr2 with q1 q2
   rw [q1]; exact .inr rfl
def isStr : Option Ty → Bool
 | some .str => true
 | _ => false
def aF6 (E : Env) (h : List Obj) (t : TypeId) (s x : AV) : Prop × AV × List Obj :=
 match E.T t with
 | some (.sl (.u .u8)) => match x with
  | .val .str b => match s with
   | .nilS => (bound (.u .u8) b.length, .own h.length, h ++ [.row (E.el t) (.u .u8) b])
   | .own i => match h[i]? with
    | some (.row e c' xs) => match zU c' (.u .u8) xs with
     | some xs => (e = E.el t ∧ bound (.u .u8) (xs.length + b.length), .own h.length, h.set i .dead ++ [.row (E.el t) (.u .u8) (xs ++ b)])
     | none => (False, .junk, h)
    | _ => (False, .junk, h)
   | _ => (False, .junk, h)
  | _ => (False, .junk, h)
 | _ => (False, .junk, h)
theorem aPt {S : Nat → Prop} (s : ByteArray) : aT w S (.arr (aP s).length (.u .u8)) (aP s) (Lib.strCells s) := by
 refine ⟨rfl, (aP s).map (fun (x : Nat) => [Value.int .u8 (x : Int)]), ?_, by simp, fun i h1 h2 => ?_⟩
 ·have key : ∀ l : List UInt8, (l.map fun b => Value.int .u8 (b.toNat : Int)) = ((l.map (·.toNat)).map (fun (x : Nat) => [Value.int .u8 (x : Int)])).flatten := by
   intro l
   induction l with
   | nil => rfl
   | cons a r ih => simp [ih]
  exact key s.data.toList
 ·simp only [List.getElem_map]
  refine ⟨rfl, rfl, ?_⟩
  have : (aP s)[i] = (s.data.toList[i]'(by simpa [aP] using h1)).toNat := by simp [aP]
  rw [this]
  generalize (s.data.toList[i]'(by simpa [aP] using h1)) = q
  have := q.toNat_lt
  simp only [IntKind.max, IntKind.signed, IntKind.bits]
  simp
  omega
theorem aKi (hE : fU P E) {t tx ty : TypeId} (ht : E.T t = some (.sl (.u .u8))) (htx : P.underlying tx = some .string) {sv : Value} {xs : List Nat}
  (hrow : vU c w (E.el t) (.u .u8) xs sv) {s : ByteArray} (hb : bound (.u .u8) (xs.length + (aP s).length)) (hSb : ∀ b, c.S b → b < w.heap.size ∧ aN sv ≠ some b) :
  ∃ v' w', (Builtin.append_ #[t, tx] ty #[sv, .string s]).run P w = .ok v' w' ∧ w.grownBy w' (aN sv) ∧ vU c w' (E.el t) (.u .u8) (xs ++ aP s) v' ∧ (∀ b, aN v' = some b → aN sv = some b ∨ (w.heap.size ≤ b ∧ b < w'.heap.size)) ∧ ∃ a n m, v' = .slice a n m := by
 have hd := hE.el t _ ht
 obtain ⟨e', hd', hTe', hpos⟩ := eE (hE.T _ _ ht)
 have : e' = E.el t := by rw [hd] at hd'; cases hd'; rfl
 subst this
 have hTe := hE.T _ _ hTe'
 obtain ⟨i, hi, hsz, hz, hby⟩ := hTe.info
 obtain ⟨vals, hown, hrep⟩ := hrow
 have hsl0 : (aP s).length = s.size := oB s
 rw [hsl0] at hb
 have hb1 : i.bytes = 1 := hTe.byte rfl i hi
 obtain ⟨v', w', hrun, hown', hgr, hat⟩ := aHR (P := P) w t tx ty (E.el t) i hd htx hi (hz rfl) hsz hb1 sv xs.length vals hown s hb.1 (by have := hb.2; simpa [Ty.byt, IntKind.bits] using this)
 have hsl := iD hown
 have hsl' := iD hown'
 rw [← pK hsl] at hgr hat
 rw [← pK hsl'] at hat
 have hsame : vT c.S w w' := fun b hb => hgr.block b (hSb b hb).1 (fun e => (hSb b hb).2 e.symm)
 refine ⟨v', w', hrun, hgr, ?_, fun b hb => ?_, hsl'⟩
 ·have := aG4 (t := .u .u8) hrep (aPt (w := w) (S := c.S) s)
  exact ⟨vals ++ _, by simpa [hsl0, Ty.cells] using hown', aT.keep (fun _ h => h) hsame _ _ _ (by simpa using this)⟩
 ·rcases hat with hat | hat
  ·left; rw [← hat]; exact hb
  ·right
   rw [hat] at hb
   cases hb
   refine ⟨Nat.le_refl _, ?_⟩
   rcases hown'.2 with ⟨rfl, _⟩ | ⟨g, cp, cur, rfl, _, hheap, _⟩
   ·cases hat
   ·simp [aN] at hat
    subst hat
    exact (Array.getElem?_eq_some_iff.1 hheap).1
theorem aRG (hE : fU P E) (hg : Good M w0 c h w) {t tx ty : TypeId} (htx : P.underlying tx = some .string) {s x : AV} {sv xv : Value} (hs : aQ c w s sv) (hx : aQ c w x xv) (hc : (aF6 E h t s x).1) :
  ∃ v' w' c', (Builtin.append_ #[t, tx] ty #[sv, xv]).run P w = .ok v' w' ∧ dE c w c' w' ∧ Good M w0 c' (aF6 E h t s x).2.2 w' ∧ aQ c' w' (aF6 E h t s x).2.1 v' := by
 unfold aF6 at hc ⊢
 split at hc
 ·rename_i ht
  split at hc
  ·rename_i b
   obtain ⟨st, rfl, rfl, hm⟩ := aJ9 hx
   split at hc
   ·
    have hsv : sv = .slice none 0 0 := by
     obtain ⟨h1, _, h3⟩ := hs
     have h3 := h3 rfl
     simp only [aH] at h1
     cases sv <;> simp [Value.cells] at h1 h3 <;> simp [h1]
    subst hsv
    obtain ⟨v', w', hrun, hgr, hrow, hbl, hsl⟩ := aKi (c := c) (w := w) (P := P) (ty := ty) (xs := []) (s := st) hE ht htx (sv := .slice none 0 0) ⟨[], ⟨by simp, .inl ⟨rfl, rfl⟩⟩, ⟨rfl, [], rfl, rfl, fun i h => by simp at h⟩⟩ (by simpa using hc) (fun b hb => ⟨hg.sfin b hb, by simp [aN]⟩)
    rw [List.nil_append] at hrow
    have hk : fJ nothing w w' := ⟨hgr.os, hgr.tape, hgr.output, hgr.size, fun b hb _ => hgr.block b hb (by simp [aN])⟩
    have := hg.push hk (o := .row (E.el t) (.u .u8) (aP st)) (hv := v') (by
     show vU _ _ _ _ _ _
     have e : (c.push v').hd c.n = v' := by simp [Ctx.push]
     rw [e]
     exact hrow) (fun b hb => by
     have e : (c.push v').hd c.n = v' := by simp [Ctx.push]
     simp only [dO, e] at hb
     rcases hbl b hb with h1 | h1
     ·simp [aN] at h1
     ·exact h1)
    refine ⟨v', w', _, hrun, this.2, this.1, ?_⟩
    have := aBu (c := c) hsl (w' := w') (S' := c.S)
    rw [← hg.n]
    exact this
   ·rename_i i
    split at hc
    ·rename_i e c' xs ho
     split at hc
     ·rename_i xs' hcast
      obtain ⟨rfl, rfl⟩ := aBt hcast
      obtain ⟨rfl, hb⟩ := hc
      have hsv := (yV hs).2
      have hrow0 : vU c w (E.el t) _ _ (c.hd i) := hg.objs i _ ho
      subst hsv
      obtain ⟨v', w', hrun, hgr, hrow, hbl, hsl⟩ := aKi (c := c) (w := w) (P := P) (ty := ty) (s := st) hE ht htx hrow0 hb (fun b hb => ⟨hg.sfin b hb, fun e => (hg.own i _ b ho e).2.2 hb⟩)
      have := hg.regrow ho hgr hrow hbl
      refine ⟨v', w', _, hrun, this.2, this.1, ?_⟩
      have := aBu (c := c) hsl (w' := w') (S' := c.S)
      rw [← hg.n]
      exact this
     ·exact hc.elim
    ·exact hc.elim
   ·exact hc.elim
  ·exact hc.elim
 ·exact hc.elim
end
end Go.Vc
namespace Go.Vc
open Go.RowKit
structure Fr where
 P : Program
 E : Env
 M : Perm
 w0 : World
 nt : Nat
 ds : List Deferred
@[reducible] def fr (P : Program) (E : Env) (S : Nat → Prop) (w0 : World) (nt : Nat) : Fr := ⟨P, E, top S, w0, nt, []⟩
structure hU (F : Fr) : Prop where
 env : fU F.P F.E
 mix : F.P.follows .mixedOrders = true
def fY (nt : Nat) : Code → Bool
 | .region _ ops draw => ops.toList.all (fG nt) && aCb ops.toList && (!draw || aMl ops.toList)
 | .seq a b => fY nt a && fY nt b
 | .cond c a b => lG c && fY nt a && fY nt b
 | .block _ a => fY nt a
 | .loop a => fY nt a
 | .scope a => fY nt a
 | .rangeFunc _ _ _ _ => false
 | _ => true
abbrev St := List (Nat × AV)
def At (F : Fr) (K : Act → World → Prop) (env : St) (h : List Obj) : Prop := ∀ c a w, Sim F.E F.M F.w0 F.nt F.ds c env h a w → K a w
def Tri (F : Fr) (c : Code) (Q : Exit → Act → World → Prop) (env : St) (h : List Obj) : Prop := fY F.nt c = true → At F (c.wp F.P Q) env h
section
variable {F : Fr} {Q : Exit → Act → World → Prop} {env : St} {h : List Obj}
theorem bM (hq : At F (Q .normal) env h) : Tri F .skip Q env h := fun _ c a w hs => wp_skip (hq c a w hs)
theorem aTB {l : Nat} (hq : At F (Q .normal) env h) : Tri F (.label l) Q env h := fun _ c a w hs => wp_label (hq c a w hs)
theorem kT {id : Nat} (hq : At F (Q (.exit id)) env h) : Tri F (.exit id) Q env h := fun _ c a w hs => wp_exit (hq c a w hs)
theorem bX (hq : At F (Q .ret) env h) : Tri F .ret Q env h := fun _ c a w hs => wp_ret (hq c a w hs)
def Next (F : Fr) (y : Code) (Q : Exit → Act → World → Prop) (a : Act) (w : World) : Prop := fY F.nt y = true → y.wp F.P Q a w
theorem aA {x y : Code} (hx : Tri F x (Exit.then (Next F y Q) Q) env h) : Tri F (.seq x y) Q env h := fun hok c a w hs => by
 simp only [fY, Bool.and_eq_true] at hok
 refine wp_seq (wp_mono (hx hok.1 c a w hs) fun e a' w' hq => ?_)
 cases e <;> first | exact hq | exact hq hok.2
theorem aB {y : Code} (hy : Tri F y Q env h) : At F (Exit.then (Next F y Q) Q .normal) env h := fun c a w hs hok => hy hok c a w hs
theorem bB {K : Act → World → Prop} (hk : At F K env h) : At F (Exit.then K Q .normal) env h := hk
theorem bP {K : Act → World → Prop} {id : Nat} (hq : At F (Q (.exit id)) env h) : At F (Exit.then K Q (.exit id)) env h := hq
theorem bO {K : Act → World → Prop} (hq : At F (Q .ret) env h) : At F (Exit.then K Q .ret) env h := hq
theorem cU {id : Nat} (hq : At F (Q .normal) env h) : At F (Exit.inBlock id Q .normal) env h := hq
theorem eR {id : Nat} (hq : At F (Q .ret) env h) : At F (Exit.inBlock id Q .ret) env h := hq
theorem dG {id : Nat} (hq : At F (Q .normal) env h) : At F (Exit.inBlock id Q (.exit id)) env h := fun c a w hs => by
 simp only [Exit.inBlock, if_true]; exact hq c a w hs
theorem aFe {id id' : Nat} (hne : id' ≠ id) (hq : At F (Q (.exit id')) env h) : At F (Exit.inBlock id Q (.exit id')) env h := fun c a w hs => by
 simp only [Exit.inBlock, hne, if_false]; exact hq c a w hs
theorem cB {id : Nat} {x : Code} (hx : Tri F x (Exit.inBlock id Q) env h) : Tri F (.block id x) Q env h := fun hok c a w hs =>
 wp_block (hx (by simpa [fY] using hok) c a w hs)
theorem bF {x y : Code} {o : Operand} {b : Bool} (hb : evA F.E.G env o = .val .bool b) (ht : b = true → Tri F x Q env h) (hf : b = false → Tri F y Q env h) : Tri F (.cond o x y) Q env h := fun hok c a w hs => by
 simp only [fY, Bool.and_eq_true] at hok
 have hv := aBp (a := a) hs.env hs.glob hok.1.1
 rw [hb] at hv
 have hv := aC6 hv
 exact wp_cond_split hv (fun e => ht e hok.1.2 c a w hs) (fun e => hf e hok.2 c a w hs)
def aXG (v : AV) : Option Ent → AV
 | none => v
 | some ⟨_, _, [], av⟩ => av
 | some _ => .junk
theorem aQA (acc : List Ent) (env : St) (t : Nat) : look (mA acc env) t = aXG (look env t) (aAv acc t) := by
 rw [aFd]
 cases aAv acc t with
 | none => rfl
 | some e => obtain ⟨i, d, gp, av⟩ := e; cases gp <;> rfl
def aK2 (keep : List Nat) (acc : List Ent) (env : St) : St := keep.map fun t => (t, aXG (look env t) (aAv acc t))
theorem aTC {c : Ctx} {w : World} {a : Act} (he : aEI c w env a.tmps) (keep : List Nat) : aEI c w (keep.map fun t => (t, look env t)) a.tmps := fun t => by
 have : look (keep.map fun t => (t, look env t)) t = look env t ∨ look (keep.map fun t => (t, look env t)) t = .junk := by
  induction keep with
  | nil => right; rfl
  | cons k r ih =>
   simp only [List.map_cons, look]
   by_cases e : k = t
   ·rw [if_pos e, e]; exact .inl rfl
   ·rw [if_neg e]; exact ih
 rcases this with e | e
 ·rw [e]; exact he t
 ·rw [e]; trivial
theorem Sim.keep {E : Env} {M : Perm} {w0 : World} {nt : Nat} {ds : List Deferred} {c : Ctx} {a : Act} {w : World} (hs : Sim E M w0 nt ds c env h a w) (keep : List Nat) : Sim E M w0 nt ds c (keep.map fun t => (t, look env t)) h a w :=
 ⟨hs.good, hs.glob, aTC hs.env keep, hs.size, hs.defers⟩
theorem aD (hF : hU F) {id : Nat} {ops : Array Oper} {draw : Bool} (keep : List Nat) (hv : vcA F.E h env ops.toList 0 [] (fun acc => At F (Q .normal) (aK2 keep acc env) h)) : Tri F (.region id ops draw) Q env h := fun hok c a w hs => by
 simp only [fY, Bool.and_eq_true, Bool.or_eq_true, Bool.not_eq_true'] at hok
 obtain ⟨⟨h1, h2⟩, h3⟩ := hok
 have hfin : ∀ acc c' a' w', At F (Q .normal) (aK2 keep acc env) h → dE c w c' w' → c'.n = c.n → Sim F.E F.M F.w0 F.nt F.ds c' (mA acc env) h a' w' → Q .normal a' w' := fun acc c' a' w' hk _ _ hs' => by
  have := hs'.keep keep
  refine hk c' a' w' ?_
  have e : aK2 keep acc env = keep.map fun t => (t, look (mA acc env) t) := by
   simp only [aK2, aQA]
  rw [e]; exact this
 cases draw with
 | false => exact aQx (ops := ops.toList) hF.env (List.all_eq_true.1 h1) h2 hs hv hfin
 | true => exact aHO (ops := ops.toList) hF.env hF.mix (List.all_eq_true.1 h1) h2 (h3.resolve_left (by simp)) hs hv hfin
theorem aQB {x : Code} {D : Type} (I : D → Prop) (μ : D → Nat) (envI : D → St) (hI : D → List Obj) (h0 : At F (fun a w => ∃ d c, I d ∧ Sim F.E F.M F.w0 F.nt F.ds c (envI d) (hI d) a w) env h)
  (round : ∀ d, I d → Tri F x (Exit.then (fun a' w' => ∃ d' c', (I d' ∧ μ d' < μ d) ∧ Sim F.E F.M F.w0 F.nt F.ds c' (envI d') (hI d') a' w') Q) (envI d) (hI d)) : Tri F (.loop x) Q env h := fun hok c a w hs => by
 classical
 have hok : fY F.nt x = true := by simpa [fY] using hok
 let good : Act → World → Nat → Prop := fun a w n => ∃ d c, I d ∧ Sim F.E F.M F.w0 F.nt F.ds c (envI d) (hI d) a w ∧ μ d = n
 have hleast : ∀ a w, (∃ d c, I d ∧ Sim F.E F.M F.w0 F.nt F.ds c (envI d) (hI d) a w) → ∃ n, good a w n ∧ ∀ m, good a w m → n ≤ m := fun a w ⟨d, c, hi, hs⟩ => by
  have hex : ∃ n, good a w n := ⟨μ d, d, c, hi, hs, rfl⟩
  obtain ⟨n, hn⟩ := hex
  induction n using Nat.strongRecOn with
  | _ n ih =>
   by_cases hh : ∃ m, m < n ∧ good a w m
   ·obtain ⟨m, hm, hg⟩ := hh; exact ih m hm hg
   ·exact ⟨n, hn, fun m hm => Nat.le_of_not_lt fun hlt => hh ⟨m, hlt, hm⟩⟩
 let ms : Act → World → Nat := fun a w => if hx : ∃ d c, I d ∧ Sim F.E F.M F.w0 F.nt F.ds c (envI d) (hI d) a w then Classical.choose (hleast a w hx) else 0
 have hms : ∀ a w (hx : ∃ d c, I d ∧ Sim F.E F.M F.w0 F.nt F.ds c (envI d) (hI d) a w), good a w (ms a w) ∧ ∀ m, good a w m → ms a w ≤ m := fun a w hx => by
  simp only [ms, dif_pos hx]; exact Classical.choose_spec (hleast a w hx)
 refine wp_loop (fun a w => ∃ d c, I d ∧ Sim F.E F.M F.w0 F.nt F.ds c (envI d) (hI d) a w) ms (h0 c a w hs) fun a w hx => ?_
 obtain ⟨⟨d, c, hi, hs, hμ⟩, hmin⟩ := hms a w hx
 refine wp_mono (round d hi hok c a w hs) fun e a' w' hq => ?_
 cases e with
 | normal =>
  obtain ⟨d', c', ⟨hi', hlt⟩, hs'⟩ := hq
  have hx' : ∃ d c, I d ∧ Sim F.E F.M F.w0 F.nt F.ds c (envI d) (hI d) a' w' := ⟨d', c', hi', hs'⟩
  refine ⟨hx', ?_⟩
  have := (hms a' w' hx').2 (μ d') ⟨d', c', hi', hs', rfl⟩
  omega
 | _ => exact hq
theorem aQC {x y : Code} {D : Type} (J : D → Prop) (envJ : D → St) (hJ : D → List Obj) (hx : Tri F x (Exit.then (fun a' w' => ∃ d' c', J d' ∧ Sim F.E F.M F.w0 F.nt F.ds c' (envJ d') (hJ d') a' w') Q) env h)
  (hy : ∀ d, J d → Tri F y Q (envJ d) (hJ d)) : Tri F (.seq x y) Q env h := fun hok c a w hs => by
 simp only [fY, Bool.and_eq_true] at hok
 refine wp_seq (wp_mono (hx hok.1 c a w hs) fun e a' w' hq => ?_)
 cases e with
 | normal =>
  obtain ⟨d', c', hj, hs'⟩ := hq
  exact hy d' hj hok.2 c' a' w' hs'
 | _ => exact hq
def dM (h : List Obj) (v : AV) : AV → Prop
 | .val t x => AV.as (h.map eG) t v = some x ∨ v = .val t x
 | .junk => True
 | u => v = u
def gR (h : List Obj) (env : St) : St → Prop
 | [] => True
 | (t, u) :: r => dM h (look env t) u ∧ gR h env r
theorem aLO {M : Perm} {w0 : World} {c : Ctx} {w : World} (hg : Good M w0 c h w) {v u : AV} {x : Value} (hf : dM h v u) (hv : aQ c w v x) : aQ c w u x := by
 cases u <;> simp only [dM] at hf
 case val t y =>
  rcases hf with hf | rfl
  ·exact aQ.ofV (rZ hg hv hf)
  ·exact hv
 case junk => trivial
 all_goals (subst hf; exact hv)
theorem aSI {M : Perm} {w0 : World} {c : Ctx} {w : World} {a : Act} (hg : Good M w0 c h w) (he : aEI c w env a.tmps) : ∀ {env' : St}, gR h env env' → aEI c w env' a.tmps
 | [], _, t => trivial
 | (k, u) :: r, hf, t => by
  simp only [look]
  split
  ·rename_i e; subst e; exact aLO hg hf.1 (he k)
  ·exact aSI hg he hf.2 t
theorem aW {D : Type} {J : D → Prop} {envJ : D → St} {hJ : D → List Obj} (d : D) (hj : J d) (hh : h = hJ d) (hf : gR h env (envJ d)) : At F (fun a w => ∃ d' c', J d' ∧ Sim F.E F.M F.w0 F.nt F.ds c' (envJ d') (hJ d') a w) env h := fun c a w hs =>
 ⟨d, c, hj, ⟨by rw [← hh]; exact hs.good, hs.glob, aSI hs.good hs.env hf, hs.size, hs.defers⟩⟩
def bQ : (t : Ty) → t.den → Nat → St
 | .pair (.rp a) r, x, k => (k, .roa a x.1) :: bQ r x.2 (k + 1)
 | .pair a r, x, k => (k, .val a x.1) :: bQ r x.2 (k + 1)
 | _, _, _ => []
end
end Go.Vc
namespace Go.Vc
open Go.RowKit
def aTD : Obj → Obj
 | .row _ t xs => .frz t xs
 | .tre _ _ t xs => .frz t xs
 | o => o
def frzAll : Obj → Obj
 | .row _ t xs => .frz t xs
 | .tre _ _ t xs => .frz t xs
 | .frz t xs => .frz t xs
 | _ => .dead
def aKj : Ty → Nat
 | .pair _ r => aKj r + 1
 | _ => 0
def gK (h : List Obj) : (r : RK) → r.ty.den → List AV → Prop
 | .none, _, [] => True
 | .one t, y, [v] => AV.as (h.map frzAll) t v = some y
 | .own e t, ys, [.own i] => h[i]? = some (.row e t ys)
 | .own e t, ys, [.nilS] => ys = []
 | .tup t, y, vs => vs.length ≠ 1 ∧ yB (h.map frzAll) t vs = some y
 | _, _, _ => False
section
variable {P : Program} {E : Env} {M : Perm} {w0 : World} {c : Ctx} {h : List Obj} {w : World}
theorem aN6 : ∀ (n : Nat) (h : List Obj) (i : Nat), (freezeAll (List.range n) h)[i]? = if i < n then (h[i]?).map aTD else h[i]? := by
 have happ : ∀ (l r : List Nat) (h : List Obj), freezeAll (l ++ r) h = freezeAll r (freezeAll l h) := fun l => by
  induction l with
  | nil => intro r h; rfl
  | cons a l ih => intro r h; simp only [List.cons_append, freezeAll]; exact ih r _
 intro n
 induction n with
 | zero => intro h i; simp [freezeAll]
 | succ n ih =>
  intro h i
  rw [List.range_succ, happ]
  simp only [freezeAll, Vc.freeze]
  have hn := ih h n
  simp only [Nat.lt_irrefl, if_false] at hn
  split
  ·rename_i e t xs ho
   rw [hn] at ho
   by_cases e' : n = i
   ·subst e'
    have hlt : n < h.length := jE ho
    have hl : n < (freezeAll (List.range n) h).length := by
     rcases Nat.lt_or_ge n (freezeAll (List.range n) h).length with hh | hh
     ·exact hh
     ·rw [List.getElem?_eq_none hh] at hn; rw [← hn] at ho; cases ho
    simp [hl, ho, aTD]
   ·rw [List.getElem?_set_ne e', ih h i]
    by_cases hi : i < n
    ·simp [hi, Nat.lt_succ_of_lt hi]
    ·have : ¬ i < n + 1 := by omega
     simp [hi, this]
  ·rename_i e m t xs ho
   rw [hn] at ho
   by_cases e' : n = i
   ·subst e'
    have hlt : n < h.length := jE ho
    have hl : n < (freezeAll (List.range n) h).length := by
     rcases Nat.lt_or_ge n (freezeAll (List.range n) h).length with hh | hh
     ·exact hh
     ·rw [List.getElem?_eq_none hh] at hn; rw [← hn] at ho; cases ho
    simp [hl, ho, aTD]
   ·rw [List.getElem?_set_ne e', ih h i]
    by_cases hi : i < n
    ·simp [hi, Nat.lt_succ_of_lt hi]
    ·have : ¬ i < n + 1 := by omega
     simp [hi, this]
  ·rename_i hne hne2
   rw [ih h i]
   by_cases hi : i < n
   ·simp [hi, Nat.lt_succ_of_lt hi]
   ·by_cases e' : i = n
    ·subst e'
     simp only [Nat.lt_irrefl, if_false, Nat.lt_succ_self, if_true]
     cases ho : h[i]? with
     | none => rfl
     | some o =>
      rw [ho] at hn
      cases o <;> first | rfl | exact absurd hn (hne _ _ _) | exact absurd hn (hne2 _ _ _ _)
    ·have : ¬ i < n + 1 := by omega
     simp [hi, this]
theorem Good.frzAll (hg : Good M w0 c h w) : ∃ c', dE c w c' w ∧ Good M w0 c' (h.map aTD) w := by
 obtain ⟨c', h1, h2, h3⟩ := hg.freezeAll (List.range h.length)
 have e : Vc.freezeAll (List.range h.length) h = h.map aTD := by
  apply List.ext_getElem?
  intro i
  rw [aN6, List.getElem?_map]
  by_cases hi : i < h.length
  ·simp [hi]
  ·simp [hi]
 rw [e] at h3
 exact ⟨c', h1, h3⟩
theorem aSJ : (h.map aTD).map eG = h.map frzAll := by
 rw [List.map_map]
 apply List.map_congr_left
 intro o _
 cases o <;> rfl
theorem aMp {S : Nat → Prop} : ∀ (t : Ty) (x : t.den) (k : Nat) (vs : List Value) (tmps : Array Value), nT w S t x vs → c.S = S → (∀ i v, vs[i]? = some v → tmps.getD (k + i) Go.undef = v) → aEI c w (bQ t x k) tmps
 | .pair a r, x, k, vs, tmps, ⟨v, vs', e, h1, h2⟩, hS, ht => by
  subst e
  have rec_ := aMp r x.2 (k + 1) vs' tmps h2 hS (fun i u hu => by
   have := ht (i + 1) u (by simpa using hu)
   rw [show k + 1 + i = k + (i + 1) from by omega]; exact this)
  have hv := ht 0 v (by simp)
  simp only [Nat.add_zero] at hv
  intro t
  have hcase : ∀ u : AV, aQ c w u v → aQ c w (look ((k, u) :: bQ r x.2 (k + 1)) t) (tmps.getD t Go.undef) := fun u hu => by
   simp only [look]
   split
   ·rename_i e; subst e; rw [hv]; exact hu
   ·exact rec_ t
  cases a with
  | rp a =>
   simp only [bQ]
   refine hcase _ ?_
   unfold cR at h1
   rw [if_neg (by simp [Ty.isAgg])] at h1
   obtain ⟨b, off, ds, e, hb, hd, hcell⟩ := h1
   simp at e
   subst e
   exact aDH (by rw [hS]; exact hb) (by rw [hS]; exact hd) hcell
  | _ =>
   simp only [bQ]
   exact hcase _ (aQ.ofV (by rw [hS]; exact h1))
 | .unit, _, _, _, _, _, _, _ => fun t => trivial
 | .bool, _, _, _, _, h, _, _ => h.elim
 | .u _, _, _, _, _, h, _, _ => h.elim
 | .i _, _, _, _, _, h, _, _ => h.elim
 | .str, _, _, _, _, h, _, _ => h.elim
 | .sl _, _, _, _, _, h, _, _ => h.elim
 | .arr _ _, _, _, _, _, h, _, _ => h.elim
 | .expr, _, _, _, _, h, _, _ => h.elim
 | .rp _, _, _, _, _, h, _, _ => h.elim
 | .clo _ _, _, _, _, _, h, _, _ => h.elim
theorem aMq {S : Nat → Prop} : ∀ (t : Ty) (x : t.den) (vs : List Value), nT w S t x vs → vs.length = aKj t
 | .pair a r, x, vs, ⟨v, vs', e, h1, h2⟩ => by subst e; simp [aKj, aMq r x.2 vs' h2]
 | .unit, _, _, h => by simp only [nT] at h; subst h; rfl
 | .bool, _, _, h => h.elim
 | .u _, _, _, h => h.elim
 | .i _, _, _, h => h.elim
 | .str, _, _, h => h.elim
 | .sl _, _, _, h => h.elim
 | .arr _ _, _, _, h => h.elim
 | .expr, _, _, h => h.elim
 | .rp _, _, _, h => h.elim
 | .clo _ _, _, _, h => h.elim
 | .ifc _ _, _, _, h => h.elim
 | .nili, _, _, h => h.elim
 | .nilp, _, _, h => h.elim
 | .nilf, _, _, h => h.elim
theorem aTE {S S' : Nat → Prop} (hs : ∀ b, S b → S' b) : ∀ {t : Ty} {x : t.den} {vs : List Value}, nT w S t x vs → nT w S' t x vs := by
 intro t
 induction t with
 | unit => intro x vs h; exact h
 | pair a r _ ih => intro x vs ⟨v, vs', e, h1, h2⟩; exact ⟨v, vs', e, h1.keep hs (.refl _ _), ih h2⟩
 | _ => intro x vs h; exact h.elim
def Ty.wf : (t : Ty) → t.den → Prop
 | .u k, n => (n : Int) ≤ k.max
 | .i k, n => fits k n
 | .str, s => s.length ≤ maxLen
 | .sl t, xs => xs.length ≤ maxLen ∧ ∀ x ∈ xs, t.wf x
 | .pair a b, x => a.wf x.1 ∧ b.wf x.2
 | .arr n t, xs => xs.length = n ∧ ∀ x ∈ xs, t.wf x
 | .rp t, x => t.wf x
 | .clo _ t, x => t.wf x
 | .ifc _ t, x => t.wf x
 | _, _ => True
theorem aT.wf {S : Nat → Prop} : ∀ (t : Ty) (x : t.den) (cs : List Value), aT w S t x cs → t.wf x
 | .bool, _, _, _ => trivial
 | .u k, _, _, hr => hr.2.2
 | .i k, _, _, hr => hr.2.2
 | .str, _, _, ⟨s, _, he, hs⟩ => by subst he; simp only [Ty.wf]; rw [oB]; exact hs
 | .sl t, xs, _, ⟨a, len, cap, _, h1, h2, h3, h4⟩ => by
  refine ⟨by rw [h1]; omega, fun x hx => ?_⟩
  rcases h4 with rfl | ⟨b, off, _, _, hel⟩
  ·cases hx
  ·obtain ⟨i, hi, rfl⟩ := List.mem_iff_getElem.1 hx
   obtain ⟨ds, hd, _⟩ := hel i hi
   exact aT.wf t _ _ hd
 | .unit, _, _, _ => trivial
 | .pair a b, _, _, ⟨c1, c2, _, h1, h2⟩ => ⟨aT.wf a _ _ h1, aT.wf b _ _ h2⟩
 | .arr n t, xs, _, ⟨hn, css, _, hl, hr⟩ => ⟨hn, fun x hx => by
  obtain ⟨i, hi, rfl⟩ := List.mem_iff_getElem.1 hx
  exact aT.wf t _ _ (hr i hi (by omega))⟩
 | .expr, _, _, _ => trivial
 | .rp t, _, _, ⟨_, _, ds, _, _, hd, _⟩ => aT.wf t _ _ hd
 | .clo _ t, _, _, ⟨_, _, hd⟩ => aT.wf t _ _ hd
 | .ifc _ t, _, _, ⟨_, _, _, _, _, hd⟩ => aT.wf t _ _ hd
 | .nili, _, _, _ => trivial
 | .nilp, _, _, _ => trivial
 | .nilf, _, _, _ => trivial
theorem aF7 {S : Nat → Prop} : ∀ (t : Ty) (x : t.den) (vs : List Value), nT w S t x vs → t.wf x
 | .pair a r, x, vs, ⟨v, vs', e, h1, h2⟩ => ⟨aT.wf a _ _ h1.cells, aF7 r _ _ h2⟩
 | .unit, _, _, _ => trivial
 | .bool, _, _, h => h.elim
 | .u _, _, _, h => h.elim
 | .i _, _, _, h => h.elim
 | .str, _, _, h => h.elim
 | .sl _, _, _, h => h.elim
 | .arr _ _, _, _, h => h.elim
 | .expr, _, _, h => h.elim
 | .rp _, _, _, h => h.elim
 | .clo _ _, _, _, h => h.elim
 | .ifc _ _, _, _, h => h.elim
 | .nili, _, _, h => h.elim
 | .nilp, _, _, h => h.elim
 | .nilf, _, _, h => h.elim
theorem gW {n : Int} : fits .i64 n ↔ -9223372036854775808 ≤ n ∧ n ≤ 9223372036854775807 := by
 simp [fits, IntKind.min, IntKind.max, IntKind.signed, IntKind.bits]
theorem aTF : maxLen = 9223372036854775807 := rfl
def post (P : Program) (fn : Func) (S : Nat → Prop) (w0 : World) (r : RK) (y : r.ty.den) : Exit → Act → World → Prop :=
 bodyPost P fn fun e w' => ∃ v, e = .returned v ∧ fJ nothing w0 w' ∧ aTp w' S w0.heap.size r y v
theorem aRH {f : FuncId} {fn : Func} {body : Code} {sp : aF} (hE : fU P E) (hf : P.funcs[f]? = some fn) (hb : fn.body = some body) (hok : fY fn.ntmps body = true) (hn : aKj sp.args ≤ fn.ntmps)
  (ht : ∀ (w0 : World) (S : Nat → Prop) (x : sp.args.den), sp.args.wf x → sp.pre x → Tri (fr P E S w0 fn.ntmps) body (post P fn S w0 sp.res (sp.fn x)) (bQ sp.args x 0) []) : FOK P E.G f sp := by
 intro w S vs x hS hG ha hp
 refine calls_of_wp hf hb ?_
 refine ht w S x (aF7 _ _ _ ha) hp hok ⟨S, fun _ => Go.undef, 0, fun _ _ => False⟩ _ w ⟨⟨rfl, .refl _ _, hS, fun b hb _ => .inl hb, fun i o ho => by simp at ho, fun i o b ho => by simp at ho, fun i j oi oj b hi => by simp at hi, ⟨Nat.le_refl _, fun i hi => absurd hi (Nat.not_lt_zero i)⟩⟩, hG, ?_, ?_, rfl⟩
 ·refine aMp _ x 0 vs.toList _ ha rfl fun i v hv => ?_
  have hlt : i < vs.size := by
   rcases Nat.lt_or_ge i vs.size with hh | hh
   ·exact hh
   ·rw [List.getElem?_eq_none (by simpa using hh)] at hv; cases hv
  simp only [Nat.zero_add]
  have : vs[i]? = some v := by rw [← Array.getElem?_toList]; exact hv
  simp [Array.getElem?_append, hlt]
  rw [Array.getElem?_eq_getElem hlt] at this
  simpa using this
 ·have := aMq _ _ _ ha
  simp at this
  simp
  omega
def aGr : List Value → Value
 | [v] => v
 | vs => .tuple vs.toArray
end
end Go.Vc
namespace Go.Vc
open Go.RowKit
def aGd (e : TypeId) (m : Mk) (t : Ty) (xs : List t.den) : Obj := match m with
 | .no => .row e t xs
 | .sl e' m' => .tre e (.sl e' m') t xs
 | .pair a b => .tre e (.pair a b) t xs
section
variable {P : Program} {E : Env} {T : Tab} {M : Perm} {w0 : World} {c : Ctx} {h : List Obj} {w : World}
theorem flatten_nil {α : Type} {Bs : List (List α)} (h : ∀ i (h : i < Bs.length), Bs[i] = []) : Bs.flatten = [] := by
 induction Bs with
 | nil => rfl
 | cons a r ih =>
  have h0 := h 0 (by simp)
  simp only [List.getElem_cons_zero] at h0
  rw [List.flatten_cons, h0, ih (fun i hi => by have := h (i + 1) (by simpa using hi); simpa using this)]; rfl
theorem aPu {S : Nat → Prop} {t : Ty} {x : t.den} {cs : List Value} {B : List Nat} (h : jU w S t .no x cs B) : aT w S t x cs ∧ B = [] := by cases t <;> exact h
theorem aF8 {S : Nat → Prop} {t : Ty} {x : t.den} {cs : List Value} (h : aT w S t x cs) : jU w S t .no x cs [] := by cases t <;> exact ⟨h, rfl⟩
theorem aWp {S : Nat → Prop} {e : TypeId} {t : Ty} {xs : List t.den} {v : Value} {vals : List Value} (hown : w.ownsRow 0 e t.cells v xs.length vals) (hr : aT w S (.arr xs.length t) xs vals) : jU w S (.sl t) (.sl e .no) xs [v] (hdB v) := by
 obtain ⟨_, css, e1, hl, hr⟩ := hr
 subst e1
 refine ⟨v, css, List.replicate xs.length [], rfl, hown, hl, by simp, ?_, fun i h h1 h2 => ?_⟩
 ·rw [flatten_nil (fun i hi => by simp), List.append_nil]
 ·simp only [List.getElem_replicate]
  exact aF8 (hr i h h1)
theorem aSK {S : Nat → Prop} {e : TypeId} {t : Ty} {xs : List t.den} {v : Value} {B : List Nat} (h : jU w S (.sl t) (.sl e .no) xs [v] B) : (∃ vals, w.ownsRow 0 e t.cells v xs.length vals ∧ aT w S (.arr xs.length t) xs vals) ∧ B = hdB v := by
 obtain ⟨v', css, Bs, e1, h1, h2, h3, h4, h5⟩ := h
 obtain rfl := (List.cons.inj e1).1
 refine ⟨⟨css.flatten, h1, rfl, css, rfl, h2, fun i q1 q2 => (aPu (h5 i q1 q2 (by omega))).1⟩, ?_⟩
 rw [h4, flatten_nil (fun i hi => (aPu (h5 i (by omega) (by omega) hi)).2), List.append_nil]
theorem wA {v : Value} {b : Nat} : b ∈ hdB v ↔ aN v = some b := by
 unfold hdB
 cases hv : aN v with
 | none => simp
 | some x => simp [eq_comm]
theorem aOQ (v : Value) : (hdB v).Nodup := by
 unfold hdB
 cases aN v <;> simp
theorem aTG {i : Nat} {e : TypeId} {m : Mk} {t : Ty} {xs : List t.den} (h : aDB c w i (aGd e m t xs)) : ∃ B, jU w c.S (.sl t) (.sl e m) xs [c.hd i] B ∧ B.Nodup ∧ ∀ b ∈ B, dO c i (aGd e m t xs) b := by
 cases m with
 | no =>
  obtain ⟨vals, h1, h2⟩ := h
  exact ⟨_, aWp h1 h2, aOQ _, fun b hb => wA.1 hb⟩
 | sl e' m' => exact h
 | pair a b => exact h
theorem aTH {i : Nat} {e : TypeId} {m : Mk} {t : Ty} {xs : List t.den} {B : List Nat} (h : jU w c.S (.sl t) (.sl e m) xs [c.hd i] B) (hn : B.Nodup) (hb : ∀ b ∈ B, c.bl i b) : aDB c w i (aGd e m t xs) := by
 cases m with
 | no => exact (aSK h).1
 | sl e' m' => exact ⟨B, h, hn, hb⟩
 | pair a b => exact ⟨B, h, hn, hb⟩
theorem aTI {i : Nat} {e : TypeId} {m : Mk} {t : Ty} {xs : List t.den} {B : List Nat} (h : jU w c.S (.sl t) (.sl e m) xs [c.hd i] B) (hb : ∀ b, c.bl i b → b ∈ B) {b : Nat} (ho : dO c i (aGd e m t xs) b) : b ∈ B := by
 cases m with
 | no => rw [(aSK h).2]; exact wA.2 ho
 | sl e' m' => exact hb b ho
 | pair a b' => exact hb b ho
def aHS : (t : Ty) → Mk → t.den → Nat → List AV × List Obj
 | .pair (.sl t) r, .pair (.sl e m) mr, x, n => (.own n :: (aHS r mr x.2 (n + 1)).1, aGd e m t x.1 :: (aHS r mr x.2 (n + 1)).2)
 | .pair a r, .pair .no mr, x, n => (.val a x.1 :: (aHS r mr x.2 n).1, (aHS r mr x.2 n).2)
 | .pair a r, .no, x, n => (.val a x.1 :: (aHS r .no x.2 n).1, (aHS r .no x.2 n).2)
 | _, _, _, _ => ([], [])
def aMr : Ty → Mk → Bool
 | .pair (.sl t) r, .pair (.sl e m) mr => aMr r mr
 | .pair a r, .pair .no mr => aMr r mr
 | .pair a r, .no => aMr r .no
 | .unit, .no => true
 | _, _ => false
def aX8 : (t : Ty) → Mk → t.den → Nat → AV × List Obj
 | .sl t, .sl e m, xs, n => (.own n, [aGd e m t xs])
 | t, m, x, n => (.agg (aHS t m x n).1, (aHS t m x n).2)
def aXH : Ty → Mk → Bool
 | .sl _, .sl _ _ => true
 | t, m => aMr t m
structure aQD (w : World) (S : Nat → Prop) (os : List Obj) (hs : List Value) (bs : List (List Nat)) : Prop where
 lh : hs.length = os.length
 lb : bs.length = os.length
 ob : ∀ i (h1 : i < os.length) (h2 : i < hs.length) (h3 : i < bs.length), ∃ e m t xs, os[i] = aGd e m t xs ∧ jU w S (.sl t) (.sl e m) xs [hs[i]] bs[i]
theorem aQD.nil {S : Nat → Prop} : aQD w S [] [] [] := ⟨rfl, rfl, fun i h => by simp at h⟩
theorem aQD.cons {S : Nat → Prop} {os : List Obj} {hs : List Value} {bs : List (List Nat)} (hr : aQD w S os hs bs) {e : TypeId} {m : Mk} {t : Ty} {xs : List t.den} {v : Value} {B : List Nat} (h : jU w S (.sl t) (.sl e m) xs [v] B) : aQD w S (aGd e m t xs :: os) (v :: hs) (B :: bs) := by
 refine ⟨by simp [hr.lh], by simp [hr.lb], fun i h1 h2 h3 => ?_⟩
 cases i with
 | zero => exact ⟨e, m, t, xs, rfl, h⟩
 | succ i => exact hr.ob i (by simpa using h1) (by simpa using h2) (by simpa using h3)
def wB (h : List Obj) (e : TypeId) (m : Mk) (t : Ty) : AV → Option (List t.den × List Nat)
 | .nilS => some ([], [])
 | .own j => match h[j]? with
  | some (.row e' t' xs) => if m = .no ∧ e' = e then (zU t' t xs).map fun ys => (ys, [j]) else none
  | some (.tre e' m' t' xs) => if m' = m ∧ e' = e then (zU t' t xs).map fun ys => (ys, [j]) else none
  | _ => none
 | _ => none
def mB (h : List Obj) : (t : Ty) → Mk → List AV → Option (t.den × List Nat)
 | .pair (.sl t) r, .pair (.sl e m) mr, v :: vs => match wB h e m t v, mB h r mr vs with
  | some (x, l), some (y, l') => some ((x, y), l ++ l')
  | _, _ => none
 | .pair a r, .pair .no mr, v :: vs => match AV.as (h.map eG) a v, mB h r mr vs with
  | some x, some (y, l') => some ((x, y), l')
  | _, _ => none
 | .pair a r, .no, v :: vs => match AV.as (h.map eG) a v, mB h r .no vs with
  | some x, some (y, l') => some ((x, y), l')
  | _, _ => none
 | .unit, .no, [] => some ((), [])
 | _, _, _ => none
def wC (h : List Obj) : (t : Ty) → Mk → AV → Option (t.den × List Nat)
 | .sl t, .sl e m, v => wB h e m t v
 | t, .no, v => (AV.as (h.map eG) t v).map fun x => (x, [])
 | t, m, .agg vs => mB h t m vs
 | _, _, _ => none
def lH (c : Ctx) (h : List Obj) (l : List Nat) (b : Nat) : Prop := ∃ j o, j ∈ l ∧ h[j]? = some o ∧ dO c j o b
theorem aJp (hg : Good M w0 c h w) {l l' : List Nat} {B B' : List Nat} (h1 : B.Nodup) (h2 : B'.Nodup) (h3 : ∀ b ∈ B, lH c h l b) (h4 : ∀ b ∈ B', lH c h l' b) (hl : (l ++ l').Nodup) : (B ++ B').Nodup := by
 refine List.nodup_append.2 ⟨h1, h2, fun a ha b hb e => ?_⟩
 subst e
 obtain ⟨j, o, k1, k2, k3⟩ := h3 a ha
 obtain ⟨j', o', q1, q2, q3⟩ := h4 a hb
 have := hg.sep j j' o o' a k2 q2 k3 q3
 subst this
 exact (List.nodup_append.1 hl).2.2 j k1 j q1 rfl
theorem pP {l l' : List Nat} (hs : ∀ j ∈ l, j ∈ l') {b : Nat} (h1 : lH c h l b) : lH c h l' b := by
 obtain ⟨j, o, k1, k2⟩ := h1
 exact ⟨j, o, hs j k1, k2⟩
theorem aG5 (hg : Good M w0 c h w) {e : TypeId} {m : Mk} {t : Ty} {v : AV} {x : List t.den} {l : List Nat} {cs : List Value} (ha : wB h e m t v = some (x, l)) (hr : aH c w v cs) :
  ∃ B, jU w c.S (.sl t) (.sl e m) x cs B ∧ B.Nodup ∧ ∀ b ∈ B, lH c h l b := by
 cases v with
 | nilS =>
  simp only [wB, Option.some.injEq, Prod.mk.injEq] at ha
  obtain ⟨rfl, rfl⟩ := ha
  simp only [aH] at hr
  exact ⟨[], ⟨.slice none 0 0, [], [], hr, World.ownsRow_nil w 0 e t.cells, rfl, rfl, rfl, fun i h => by simp at h⟩, List.nodup_nil, fun b hb => by cases hb⟩
 | own j =>
  simp only [aH] at hr
  obtain ⟨_, rfl, _⟩ := hr
  have main : ∀ (xs : List t.den), h[j]? = some (aGd e m t xs) → ∃ B, jU w c.S (.sl t) (.sl e m) xs [c.hd j] B ∧ B.Nodup ∧ ∀ b ∈ B, lH c h [j] b := fun xs ho => by
   obtain ⟨B, h1, h2, h3⟩ := aTG (hg.objs j _ ho)
   exact ⟨B, h1, h2, fun b hb => ⟨j, _, by simp, ho, h3 b hb⟩⟩
  simp only [wB] at ha
  split at ha
  ·rename_i e' t' xs ho
   split at ha
   ·rename_i hc
    obtain ⟨rfl, rfl⟩ := hc
    cases hcast : zU t' t xs with
    | none => rw [hcast] at ha; cases ha
    | some ys =>
     obtain ⟨rfl, rfl⟩ := aBt hcast
     rw [hcast] at ha
     simp only [Option.map_some, Option.some.injEq, Prod.mk.injEq] at ha
     obtain ⟨rfl, rfl⟩ := ha
     exact main _ ho
   ·cases ha
  ·rename_i e' m' t' xs ho
   split at ha
   ·rename_i hc
    obtain ⟨rfl, rfl⟩ := hc
    cases hcast : zU t' t xs with
    | none => rw [hcast] at ha; cases ha
    | some ys =>
     obtain ⟨rfl, rfl⟩ := aBt hcast
     rw [hcast] at ha
     simp only [Option.map_some, Option.some.injEq, Prod.mk.injEq] at ha
     obtain ⟨rfl, rfl⟩ := ha
     obtain ⟨B, q1, q2, q3⟩ := hg.objs j _ ho
     exact ⟨B, q1, q2, fun b hb => ⟨j, _, by simp, ho, q3 b hb⟩⟩
   ·cases ha
  ·cases ha
 | _ => simp [wB] at ha
theorem aUG (hg : Good M w0 c h w) {t : Ty} {v : AV} {x : t.den} {cs : List Value} (ha : AV.as (h.map eG) t v = some x) (hr : aH c w v cs) : aT w c.S t x cs :=
 aT.keep aJg (.refl _ _) _ _ _ (aXd hg.frz t v x cs ha hr).1
theorem aG6 (hg : Good M w0 c h w) : ∀ (t : Ty) (m : Mk) (vs : List AV) (x : t.den) (l : List Nat) (cs : List Value), mB h t m vs = some (x, l) → l.Nodup → jN c w vs cs →
  ∃ B, jU w c.S t m x cs B ∧ B.Nodup ∧ ∀ b ∈ B, lH c h l b := by
 intro t
 induction t with
 | pair a r iha ihr =>
  intro m vs x l cs ha hl hr
  cases vs with
  | nil => cases m <;> first | (simp [mB] at ha; done) | (rename_i ma mr; cases ma <;> cases a <;> simp [mB] at ha)
  | cons v vs =>
   simp only [jN] at hr
   obtain ⟨c1, c2, e1, h1, h2⟩ := hr
   subst e1
   have plain : ∀ mr, (match AV.as (h.map eG) a v, mB h r mr vs with | some x, some (y, l') => some ((x, y), l') | _, _ => none) = some (x, l) → ∃ B, aT w c.S a x.1 c1 ∧ jU w c.S r mr x.2 c2 B ∧ B.Nodup ∧ ∀ b ∈ B, lH c h l b := fun mr ha => by
    split at ha
    ·rename_i xa ya l' k1 k2
     simp only [Option.some.injEq, Prod.mk.injEq] at ha
     obtain ⟨rfl, rfl⟩ := ha
     obtain ⟨B, q1, q2, q3⟩ := ihr mr vs _ _ c2 k2 hl h2
     exact ⟨B, aUG hg k1 h1, q1, q2, q3⟩
    ·cases ha
   cases m with
   | sl e m => cases a <;> simp [mB] at ha
   | no =>
    have ha : (match AV.as (h.map eG) a v, mB h r .no vs with | some x, some (y, l') => some ((x, y), l') | _, _ => none) = some (x, l) := by cases a <;> exact ha
    obtain ⟨B, q1, q2, q3, q4⟩ := plain .no ha
    obtain ⟨q5, e5⟩ := aPu q2
    subst e5
    exact ⟨[], ⟨⟨c1, c2, rfl, q1, q5⟩, rfl⟩, q3, q4⟩
   | pair ma mr =>
    cases ma with
    | no =>
     have ha : (match AV.as (h.map eG) a v, mB h r mr vs with | some x, some (y, l') => some ((x, y), l') | _, _ => none) = some (x, l) := by cases a <;> exact ha
     obtain ⟨B, q1, q2, q3, q4⟩ := plain mr ha
     exact ⟨B, ⟨c1, c2, [], B, rfl, rfl, aF8 q1, q2⟩, q3, q4⟩
    | pair _ _ => cases a <;> simp [mB] at ha
    | sl e m =>
     cases a with
     | sl t =>
      simp only [mB] at ha
      split at ha
      ·rename_i xa la ya lb k1 k2
       simp only [Option.some.injEq, Prod.mk.injEq] at ha
       obtain ⟨rfl, rfl⟩ := ha
       have hl' := List.nodup_append.1 hl
       obtain ⟨B1, p1, p2, p3⟩ := aG5 hg k1 h1
       obtain ⟨B2, q1, q2, q3⟩ := ihr mr vs _ _ c2 k2 hl'.2.1 h2
       refine ⟨B1 ++ B2, ⟨c1, c2, B1, B2, rfl, rfl, p1, q1⟩, aJp hg p2 q2 p3 q3 hl, fun b hb => ?_⟩
       rcases List.mem_append.1 hb with hb | hb
       ·exact pP (fun j hj => List.mem_append_left _ hj) (p3 b hb)
       ·exact pP (fun j hj => List.mem_append_right _ hj) (q3 b hb)
      ·cases ha
     | _ => simp [mB] at ha
 | unit =>
  intro m vs x l cs ha hl hr
  cases m <;> cases vs <;> simp [mB] at ha
  subst ha
  exact ⟨[], ⟨hr, rfl⟩, List.nodup_nil, fun b hb => by cases hb⟩
 | _ => intro m vs x l cs ha; cases m <;> cases vs <;> simp [mB] at ha
theorem aMs (hg : Good M w0 c h w) {t : Ty} {m : Mk} {v : AV} {x : t.den} {l : List Nat} {cs : List Value} (ha : wC h t m v = some (x, l)) (hl : l.Nodup) (hr : aH c w v cs) :
  ∃ B, jU w c.S t m x cs B ∧ B.Nodup ∧ ∀ b ∈ B, lH c h l b := by
 cases m with
 | no =>
  have ha : (AV.as (h.map eG) t v).map (fun x => (x, ([] : List Nat))) = some (x, l) := by cases t <;> exact ha
  cases hx : AV.as (h.map eG) t v with
  | none => rw [hx] at ha; cases ha
  | some y =>
   rw [hx] at ha
   simp only [Option.map_some, Option.some.injEq, Prod.mk.injEq] at ha
   obtain ⟨rfl, rfl⟩ := ha
   exact ⟨[], aF8 (aUG hg hx hr), List.nodup_nil, fun b hb => by cases hb⟩
 | sl e m =>
  cases t with
  | sl t => exact aG5 hg ha hr
  | pair a r => cases v <;> first | (simp [wC] at ha; done) | exact aG6 hg _ _ _ _ _ _ ha hl (by simpa [aH] using hr)
  | unit => cases v <;> first | (simp [wC] at ha; done) | exact aG6 hg _ _ _ _ _ _ ha hl (by simpa [aH] using hr)
  | _ => cases v <;> first | (simp [wC] at ha; done) | (rename_i vs; cases vs <;> simp [wC, mB] at ha)
 | pair ma mr =>
  cases t <;> cases v <;> first | (simp [wC] at ha; done) | exact aG6 hg _ _ _ _ _ _ ha hl (by simpa [aH] using hr) | (rename_i vs; cases vs <;> simp [wC, mB] at ha)
end
end Go.Vc
namespace Go.Vc
open Go.RowKit
def mC : List Nat → List Obj → List Obj
 | [], h => h
 | i :: r, h => mC r (h.set i .dead)
theorem kU : ∀ (l : List Nat) (h : List Obj), (mC l h).length = h.length
 | [], h => rfl
 | i :: r, h => by rw [mC, kU r]; simp
theorem zV : ∀ (l : List Nat) (h : List Obj) (i : Nat), i ∉ l → (mC l h)[i]? = h[i]?
 | [], h, i, _ => rfl
 | j :: r, h, i, hn => by
  simp only [List.mem_cons, not_or] at hn
  rw [mC, zV r _ i hn.2, List.getElem?_set_ne (fun e => hn.1 e.symm)]
theorem aAN : ∀ (l : List Nat) (h : List Obj) (i : Nat) (o : Obj), i ∈ l → (mC l h)[i]? = some o → o = .dead
 | [], h, i, o, hi, _ => by cases hi
 | j :: r, h, i, o, hi, ho => by
  rw [mC] at ho
  by_cases hr : i ∈ r
  ·exact aAN r _ i o hr ho
  ·rw [zV r _ i hr] at ho
   have : i = j := by rcases List.mem_cons.1 hi with h | h; exact h; exact absurd h hr
   subst this
   by_cases hl : i < h.length
   ·simp [hl] at ho; exact ho.symm
   ·rw [List.getElem?_eq_none (by simp; omega)] at ho; cases ho
section
variable {P : Program} {E : Env} {T : Tab} {M : Perm} {w0 : World} {c : Ctx} {h : List Obj} {w : World}
def Ctx.pushB (c : Ctx) (v : Value) (B : Nat → Prop) : Ctx := ⟨c.S, fun i => if i = c.n then v else c.hd i, c.n + 1, fun i => if i = c.n then B else c.bl i⟩
theorem Ctx.le_pushB (c : Ctx) (v : Value) (B : Nat → Prop) : c.le (c.pushB v B) := ⟨fun _ h => h, Nat.le_succ _, fun i hi => by simp [Ctx.pushB, Nat.ne_of_lt hi]⟩
theorem Good.remake (hg : Good M w0 c h w) (l : List Nat) {w' : World} {o : Obj} {v' : Value} {B : Nat → Prop} (hos : w'.os = w.os) (htp : w'.tape = w.tape) (hout : w'.output = w.output) (hsz : w.heap.size ≤ w'.heap.size)
  (hsame : ∀ b, b < w.heap.size → ¬ lH c h l b → w'.heap[b]? = w.heap[b]?) (hob : aDB (c.pushB v' B) w' c.n o)
  (hown : ∀ b, dO (c.pushB v' B) c.n o b → lH c h l b ∨ (w.heap.size ≤ b ∧ b < w'.heap.size)) :
  Good M w0 (c.pushB v' B) (mC l h ++ [o]) w' ∧ dE c w (c.pushB v' B) w' := by
 have hany : ∀ b, lH c h l b → (w0.heap.size ≤ b ∨ M.wr b) ∧ b < w.heap.size ∧ ¬ c.S b := fun b ⟨j, oj, _, h2, h3⟩ => hg.own j oj b h2 h3
 have hl : dE c w (c.pushB v' B) w' := ⟨c.le_pushB v' B, fun b hb => hsame b (hg.sfin b hb) (fun ha => (hany b ha).2.2 hb)⟩
 have hcase : ∀ j o', (mC l h ++ [o])[j]? = some o' → (h[j]? = some o' ∧ j < c.n ∧ j ∉ l) ∨ (j = c.n ∧ o' = o) ∨ o' = .dead := fun j o' hj => by
  have hkl := kU l h
  rw [hg.n]
  rcases Nat.lt_trichotomy j h.length with hlt | heq | hgt
  ·rw [List.getElem?_append_left (by rw [hkl]; exact hlt)] at hj
   by_cases hm : j ∈ l
   ·exact .inr (.inr (aAN l h j o' hm hj))
   ·rw [zV l h j hm] at hj; exact .inl ⟨hj, hlt, hm⟩
  ·subst heq
   rw [List.getElem?_append_right (by rw [hkl]; exact Nat.le_refl _), hkl] at hj
   simp at hj; exact .inr (.inl ⟨rfl, hj.symm⟩)
  ·rw [List.getElem?_append_right (by rw [hkl]; omega), List.getElem?_eq_none (by simp [hkl]; omega)] at hj; cases hj
 have hold : ∀ j oj, j < c.n → dO (c.pushB v' B) j oj = dO c j oj := fun j oj hj => eQ hl.le (by simp [Ctx.pushB, Nat.ne_of_lt hj]) hj oj
 have hfar : ∀ j oj b, h[j]? = some oj → j ∉ l → dO c j oj b → ¬ lH c h l b := fun j oj b hj hn hb ⟨j', o', h1, h2, h3⟩ => hn (hg.sep j j' oj o' b hj h2 hb h3 ▸ h1)
 refine ⟨⟨by simp [Ctx.pushB, hg.n, kU], ⟨hos.trans hg.keeps.os, htp.trans hg.keeps.tape, hout.trans hg.keeps.output, Nat.le_trans hg.keeps.size hsz, fun b hlt hM => ?_⟩, fun b hb => Nat.lt_of_lt_of_le (hg.sfin b hb) hsz, hg.src, fun j o' hj => ?_, fun j o' b hj hbb => ?_, fun j k oj ok b hj hk' hbj hbk => ?_, yU hg.root hl.le⟩, hl⟩
 ·rw [hsame b (Nat.lt_of_lt_of_le hlt hg.keeps.size) (fun ha => ?_)]
  ·exact hg.keeps.block b hlt hM
  ·rcases (hany b ha).1 with h1 | h1
   ·omega
   ·exact hM h1
 ·rcases hcase j o' hj with ⟨hj', hjn, hne⟩ | ⟨ej, eo⟩ | eo
  ·exact (hg.objs j o' hj').keep hl hjn (by simp [Ctx.pushB, Nat.ne_of_lt hjn]) (fun b hbb => hsame b (hg.own j o' b hj' hbb).2.1 (hfar j o' b hj' hne hbb))
  ·subst ej; subst eo; exact hob
  ·subst eo; trivial
 ·rcases hcase j o' hj with ⟨hj', hjn, hne⟩ | ⟨ej, eo⟩ | eo
  ·rw [hold j o' hjn] at hbb
   obtain ⟨h1, h2, h3⟩ := hg.own j o' b hj' hbb
   exact ⟨h1, Nat.lt_of_lt_of_le h2 hsz, h3⟩
  ·subst ej; subst eo
   rcases hown b hbb with h1 | h1
   ·obtain ⟨q1, q2, q3⟩ := hany b h1
    exact ⟨q1, Nat.lt_of_lt_of_le q2 hsz, q3⟩
   ·exact ⟨.inl (Nat.le_trans hg.keeps.size h1.1), h1.2, fun hS => by have := hg.sfin b hS; omega⟩
  ·subst eo; cases hbb
 ·rcases hcase j oj hj with ⟨hj', hjn, hne⟩ | ⟨ej, eo⟩ | eo
  ·rw [hold j oj hjn] at hbj
   rcases hcase k ok hk' with ⟨hk'', hkn, hne'⟩ | ⟨ek, eo'⟩ | eo'
   ·rw [hold k ok hkn] at hbk
    exact hg.sep j k oj ok b hj' hk'' hbj hbk
   ·subst ek; subst eo'
    rcases hown b hbk with h1 | h1
    ·exact absurd h1 (hfar j oj b hj' hne hbj)
    ·have := (hg.own j oj b hj' hbj).2.1
     omega
   ·subst eo'; cases hbk
  ·subst ej; subst eo
   rcases hcase k ok hk' with ⟨hk'', hkn, hne'⟩ | ⟨ek, eo'⟩ | eo'
   ·rw [hold k ok hkn] at hbk
    rcases hown b hbj with h1 | h1
    ·exact absurd h1 (hfar k ok b hk'' hne' hbk)
    ·have := (hg.own k ok b hk'' hbk).2.1
     omega
   ·exact ek.symm
   ·subst eo'; cases hbk
  ·subst eo; cases hbj
theorem aRI {α : Type} {l : List (List α)} {i : Nat} (h : i < l.length) {a : α} (ha : a ∈ l[i]) : a ∈ l.flatten := List.mem_flatten.2 ⟨_, List.getElem_mem h, ha⟩
theorem Good.closed (hg : Good M w0 c h w) {i : Nat} {e : TypeId} {m : Mk} {t : Ty} {xs : List t.den} {k : Nat} {v : AV} (ho : h[i]? = some (.trh e m t xs k v)) {x : t.den} {l : List Nat} (ha : wC h t m v = some (x, l)) (hnl : l.Nodup) (hil : i ∉ l) :
  ∃ c', dE c w c' w ∧ Good M w0 c' ((mC l h).set i (.tre e m t (xs.set k x))) w := by
 obtain ⟨css, Bs, q⟩ := hg.objs i _ ho
 have hlc := q.lc
 have hlb := q.lb
 have hk := q.kl
 have hlt := jE ho
 have hin : i < c.n := by rw [hg.n]; exact hlt
 obtain ⟨hv1, hv2⟩ := q.hv (by omega)
 obtain ⟨B, r1, r2, r3⟩ := aMs hg ha hnl hv1
 let c' : Ctx := ⟨c.S, c.hd, c.n, fun j b => if j = i then c.bl i b ∨ lH c h l b else c.bl j b⟩
 have hle : c.le c' := ⟨fun _ h => h, Nat.le_refl _, fun _ _ => rfl⟩
 have hl : dE c w c' w := ⟨hle, .refl _ _⟩
 have hcase : ∀ j oj, ((mC l h).set i (.tre e m t (xs.set k x)))[j]? = some oj → (h[j]? = some oj ∧ j < c.n ∧ j ≠ i ∧ j ∉ l) ∨ (j = i ∧ oj = .tre e m t (xs.set k x)) ∨ oj = .dead := fun j oj hj => by
  by_cases e' : i = j
  ·subst e'; simp [kU, hlt] at hj; exact .inr (.inl ⟨rfl, hj.symm⟩)
  ·rw [List.getElem?_set_ne e'] at hj
   by_cases hm : j ∈ l
   ·exact .inr (.inr (aAN l h j oj hm hj))
   ·rw [zV l h j hm] at hj
    exact .inl ⟨hj, by rw [hg.n]; exact jE hj, fun e => e' e.symm, hm⟩
 have hold : ∀ j oj, j < c.n → j ≠ i → dO c' j oj = dO c j oj := fun j oj hj hne => eQ hle (by funext b; simp [c', hne]) hj oj
 have hfar : ∀ j oj b, h[j]? = some oj → j ∉ l → dO c j oj b → ¬ lH c h l b := fun j oj b hj hn hb ⟨j', o', h1, h2, h3⟩ => hn (hg.sep j j' oj o' b hj h2 hb h3 ▸ h1)
 have hsets : ∀ j (hj : j < css.length), (css[j]).length = t.cells := fun j hj => by
  by_cases e : j = k
  ·subst e; exact hv2
  ·exact jU.length _ _ _ _ _ (q.el j (by omega) hj (by omega) e)
 refine ⟨c', hl, ⟨by simp [c', hg.n, kU], hg.keeps, hg.sfin, hg.src, fun j oj hj => ?_, fun j oj b hj hb => ?_, fun j j' oj oj' b hj hj' hbj hbj' => ?_, hg.root⟩⟩
 ·rcases hcase j oj hj with ⟨hj, hjn, hne, _⟩ | ⟨rfl, rfl⟩ | rfl
  ·exact (hg.objs j oj hj).keep hl hjn (by funext b; simp [c', hne]) (fun _ _ => rfl)
  ·refine ⟨hdB (c.hd j) ++ (Bs.set k B).flatten, ⟨c.hd j, css, Bs.set k B, rfl, ?_, by simp [hlc], by simp [hlb], rfl, fun z z1 z2 z3 => ?_⟩, ?_, fun b hb => ?_⟩
   ·rw [List.length_set]; exact q.row
   ·by_cases ez : k = z
    ·subst ez
     simp only [List.getElem_set_self]
     exact r1
    ·rw [List.getElem_set_ne ez, List.getElem_set_ne ez]
     exact q.el z (by simpa using z1) z2 (by simpa using z3) (fun e => ez e.symm)
   ·have hd := q.nd
    have e3 : Bs.set k B = Bs.take k ++ B :: Bs.drop (k + 1) := by rw [List.set_eq_take_append_cons_drop, if_pos (by omega)]
    have e4 : Bs = Bs.take k ++ [] :: Bs.drop (k + 1) := by
     have := q.hb (by omega)
     conv => lhs; rw [← List.take_append_drop k Bs, List.drop_eq_getElem_cons (by omega), this]
    rw [e3]
    rw [e4] at hd
    simp only [List.flatten_append, List.flatten_cons, List.nil_append] at hd ⊢
    have hp : (hdB (c.hd j) ++ ((Bs.take k).flatten ++ (B ++ (Bs.drop (k + 1)).flatten))).Perm ((hdB (c.hd j) ++ ((Bs.take k).flatten ++ (Bs.drop (k + 1)).flatten)) ++ B) := by
     simp only [List.append_assoc]
     exact List.Perm.append_left _ (List.Perm.append_left _ List.perm_append_comm)
    refine hp.nodup_iff.2 (List.nodup_append.2 ⟨hd, r2, fun a ha b hb e => ?_⟩)
    subst e
    have : c.bl j a := q.bl a (by
     have hflat : Bs.flatten = (Bs.take k).flatten ++ (Bs.drop (k + 1)).flatten := by
      have := congrArg List.flatten e4
      simpa using this
     rw [hflat]; exact ha)
    exact hfar j _ a ho hil this (r3 a hb)
   ·simp only [c', if_true]
    rcases List.mem_append.1 hb with hb | hb
    ·exact .inl (q.bl b (List.mem_append_left _ hb))
    ·obtain ⟨L, h1, h2⟩ := List.mem_flatten.1 hb
     rcases List.mem_or_eq_of_mem_set h1 with h1 | h1
     ·exact .inl (q.bl b (List.mem_append_right _ (List.mem_flatten.2 ⟨L, h1, h2⟩)))
     ·subst h1; exact .inr (r3 b h2)
  ·trivial
 ·rcases hcase j oj hj with ⟨hj, hjn, hne, _⟩ | ⟨rfl, rfl⟩ | rfl
  ·rw [hold j oj hjn hne] at hb; exact hg.own j oj b hj hb
  ·have hb : c'.bl j b := hb
   simp only [c', if_true] at hb
   rcases hb with hb | ⟨j', o', h1, h2, h3⟩
   ·exact hg.own j _ b ho hb
   ·exact hg.own j' o' b h2 h3
  ·cases hb
 ·rcases hcase j oj hj with ⟨hj1, hjn, hne, hnl1⟩ | ⟨ej, eo⟩ | eo
  ·rw [hold j oj hjn hne] at hbj
   rcases hcase j' oj' hj' with ⟨hk', hkn, hne', hnl2⟩ | ⟨ek, eo'⟩ | eo'
   ·rw [hold j' oj' hkn hne'] at hbj'
    exact hg.sep j j' oj oj' b hj1 hk' hbj hbj'
   ·subst ek; subst eo'
    have hbj' : c'.bl j' b := hbj'
    simp only [c', if_true] at hbj'
    rcases hbj' with h1 | h1
    ·exact hg.sep j j' oj _ b hj1 ho hbj h1
    ·exact absurd h1 (hfar j oj b hj1 hnl1 hbj)
   ·subst eo'; cases hbj'
  ·subst ej; subst eo
   have hbj : c'.bl j b := hbj
   simp only [c', if_true] at hbj
   rcases hcase j' oj' hj' with ⟨hk', hkn, hne', hnl2⟩ | ⟨ek, eo'⟩ | eo'
   ·rw [hold j' oj' hkn hne'] at hbj'
    rcases hbj with h1 | h1
    ·exact (hg.sep j' j oj' _ b hk' ho hbj' h1).symm
    ·exact absurd h1 (hfar j' oj' b hk' hnl2 hbj')
   ·exact ek.symm
   ·subst eo'; cases hbj'
  ·subst eo; cases hbj
end
end Go.Vc
namespace Go.Vc
open Go.RowKit
def okM : Ty → Mk → Bool
 | .sl t, .sl _ m => true
 | .pair a r, .pair ma mr => okM a ma && okM r mr
 | _, .no => true
 | _, _ => false
def ownRow (h : List Obj) (e : TypeId) (m : Mk) (ct : Ty) (j : Nat) : Option (List ct.den) := (wB h e m ct (.own j)).map (·.1)
def aG7 (h : List Obj) (i : Nat) : Mk := match h[i]? with
 | some (.tre _ m _ _) => m
 | _ => .no
def aDO (E : Env) (h : List Obj) (t : TypeId) (s x : AV) : Prop × AV × List Obj :=
 match E.T t with
 | some (.sl ct) => bif ct.scalar then rL E h t s x else match x with
  | .own j => match s with
   | .own i => match ownRow h (E.el t) (aG7 h i) ct i, ownRow h (E.el t) (aG7 h i) ct j with
    | some xs, some ys => (i ≠ j ∧ bound ct (xs.length + ys.length) ∧ ct.okB = true, .own h.length, mC [i, j] h ++ [aGd (E.el t) (aG7 h i) ct (xs ++ ys)])
    | _, _ => rL E h t s x
   | .nilS => match ownRow h (E.el t) (aG7 h j) ct j with
    | some ys => (bound ct ys.length ∧ ct.okB = true, .own h.length, mC [j] h ++ [aGd (E.el t) (aG7 h j) ct ys])
    | none => rL E h t s x
   | _ => rL E h t s x
  | _ => rL E h t s x
 | _ => rL E h t s x
def aOR (E : Env) (h : List Obj) (t : TypeId) (l cp : AV) : Prop × AV × List Obj :=
 match E.dm t with
 | none => aJn E h t l cp
 | some m => match E.T t with
  | some (.sl ct) => match zP l, zP cp with
   | some n, some k => (ct.okB = true ∧ okM ct m = true ∧ 0 ≤ n ∧ n ≤ k ∧ (ct.byt : Int) * k ≤ 281474976710656 ∧ k ≤ maxLen, .own h.length, h ++ [aGd (E.el t) m ct (List.replicate n.toNat ct.zero)])
   | _, _ => (False, .junk, h)
  | _ => (False, .junk, h)
def aDP (h : List Obj) (m : Mk) (ct : Ty) : Nat → List (Nat × AV) → Option (List ct.den × List Nat)
 | _, [] => some ([], [])
 | k, (i, v) :: r => if i = k then match wC h ct m v, aDP h m ct (k + 1) r with
   | some (x, l), some (xs, l') => some (x :: xs, l ++ l')
   | _, _ => none
  else none
def aDQ (E : Env) (h : List Obj) (t : TypeId) (m : Mk) (n : Nat) (ps : List (Nat × AV)) : Prop × AV × List Obj :=
 match E.T t with
 | some (.sl ct) => match aDP h m ct 0 ps with
  | some (xs, l) => (ct.okB = true ∧ nodupN l = true ∧ ps.length = n ∧ n * ct.cells ≤ 16777216 ∧ n ≤ maxLen, .own h.length, mC l h ++ [aGd (E.el t) m ct xs])
  | none => (False, .junk, h)
 | _ => (False, .junk, h)
where
 nodupN : List Nat → Bool
  | [] => true
  | i :: r => !r.contains i && nodupN r
def okD (E : Env) (h : List Obj) (t : TypeId) (m : Mk) (ps : List (Nat × AV)) : Bool :=
 match E.T t with
 | some (.sl ct) => (aDP h m ct 0 ps).isSome
 | _ => false
section
variable {P : Program} {E : Env} {T : Tab} {M : Perm} {w0 : World} {c : Ctx} {h : List Obj} {w : World}
theorem aOS : ∀ {l : List Nat}, aDQ.nodupN l = true → l.Nodup
 | [], _ => List.nodup_nil
 | i :: r, hd => by
  simp only [aDQ.nodupN, Bool.and_eq_true, Bool.not_eq_true', List.contains_eq_mem, decide_eq_false_iff_not] at hd
  exact List.nodup_cons.2 ⟨hd.1, aOS hd.2⟩
theorem aJq (hg : Good M w0 c h w) {e : TypeId} {m : Mk} {ct : Ty} {j : Nat} {xs : List ct.den} (hj : j < c.n) (h1 : one (c.hd j)) (ha : ownRow h e m ct j = some xs) :
  ∃ B, jU w c.S (.sl ct) (.sl e m) xs [c.hd j] B ∧ B.Nodup ∧ ∀ b ∈ B, lH c h [j] b := by
 unfold ownRow at ha
 cases hx : wB h e m ct (.own j) with
 | none => rw [hx] at ha; cases ha
 | some p =>
  obtain ⟨ys, l⟩ := p
  rw [hx] at ha
  cases ha
  obtain ⟨B, q1, q2, q3⟩ := aG5 hg hx (cs := [c.hd j]) (show aH c w (.own j) [c.hd j] from ⟨hj, rfl, h1⟩)
  refine ⟨B, q1, q2, fun b hb => ?_⟩
  have hl : ∀ z ∈ l, z = j := fun z hz => by
   simp only [wB] at hx
   split at hx
   ·split at hx
    ·rename_i q _ _
     cases hc : zU _ ct _ with
     | none => rw [hc] at hx; cases hx
     | some y => rw [hc] at hx; simp only [Option.map_some, Option.some.injEq, Prod.mk.injEq] at hx; rw [← hx.2] at hz; simpa using hz
    ·cases hx
   ·split at hx
    ·cases hc : zU _ ct _ with
     | none => rw [hc] at hx; cases hx
     | some y => rw [hc] at hx; simp only [Option.map_some, Option.some.injEq, Prod.mk.injEq] at hx; rw [← hx.2] at hz; simpa using hz
    ·cases hx
   ·cases hx
  exact pP (fun z hz => by simp [hl z hz]) (q3 b hb)
theorem aMt (hE : fU P E) {t ty : TypeId} {ct : Ty} (ht : E.T t = some (.sl ct)) (hok : ct.okB = true) {m : Mk} {S : Nat → Prop} {sv xv : Value} {xs ys : List ct.den} {B1 B2 : List Nat}
  (h1 : jU w S (.sl ct) (.sl (E.el t) m) xs [sv] B1) (h2 : jU w S (.sl ct) (.sl (E.el t) m) ys [xv] B2) (hnd : (B1 ++ B2).Nodup) (hlt : ∀ b ∈ B1 ++ B2, b < w.heap.size) (hS : ∀ b, S b → b < w.heap.size ∧ b ∉ B1)
  (hb : bound ct (xs.length + ys.length)) :
  ∃ v' w' B', (Builtin.append_ #[t, t] ty #[sv, xv]).run P w = .ok v' w' ∧ w.grownBy w' (aN sv) ∧ jU w' S (.sl ct) (.sl (E.el t) m) (xs ++ ys) [v'] B' ∧ B'.Nodup ∧ (∀ b ∈ B', b ∈ B1 ++ B2 ∨ (w.heap.size ≤ b ∧ b < w'.heap.size)) ∧ ∃ a n k, v' = .slice a n k := by
 have hd := hE.el t ct ht
 obtain ⟨e', hd', hTe', hpos⟩ := eE (hE.T _ _ ht)
 have : e' = E.el t := by rw [hd] at hd'; cases hd'; rfl
 subst this
 have hTe := hE.T _ _ hTe'
 obtain ⟨i, hi, hsz, hz, hby⟩ := hTe.info
 obtain ⟨_, cs1, Bs1, e1, o1, l1, b1, rfl, r1⟩ := h1
 obtain rfl := (List.cons.inj e1).1
 obtain ⟨_, cs2, Bs2, e2, o2, l2, b2, rfl, r2⟩ := h2
 obtain rfl := (List.cons.inj e2).1
 have hsl := iD o1
 have hd1 := List.nodup_append.1 hnd
 have hd11 := List.nodup_append.1 hd1.1
 have hd12 := List.nodup_append.1 hd1.2.1
 have keep : ∀ (w' : World) (v' : Value), w.grownBy w' (aN sv) → w'.ownsRow 0 (E.el t) ct.cells v' (xs.length + ys.length) (cs1.flatten ++ cs2.flatten) → (∀ b, aN v' = some b → aN sv = some b ∨ (w.heap.size ≤ b ∧ b < w'.heap.size)) →
   ∃ B', jU w' S (.sl ct) (.sl (E.el t) m) (xs ++ ys) [v'] B' ∧ B'.Nodup ∧ ∀ b ∈ B', b ∈ (hdB sv ++ Bs1.flatten) ++ (hdB xv ++ Bs2.flatten) ∨ (w.heap.size ≤ b ∧ b < w'.heap.size) := fun w' v' hgr hown hat => by
  have hsame : ∀ b, b < w.heap.size → aN sv ≠ some b → w'.heap[b]? = w.heap[b]? := fun b hb hne => hgr.block b hb (fun e => hne e.symm)
  have hin1 : ∀ q (hq : q < Bs1.length) b, b ∈ Bs1[q] → b ∈ Bs1.flatten := fun q hq b hb => aRI hq hb
  have hin2 : ∀ q (hq : q < Bs2.length) b, b ∈ Bs2[q] → b ∈ Bs2.flatten := fun q hq b hb => aRI hq hb
  have hSs : vT S w w' := fun b hb => hsame b (hS b hb).1 (fun e => (hS b hb).2 (List.mem_append_left _ (wA.2 e)))
  have k1 : ∀ b ∈ Bs1.flatten, w'.heap[b]? = w.heap[b]? := fun b hb => hsame b (hlt b (List.mem_append_left _ (List.mem_append_right _ hb))) (fun e => hd11.2.2 b (wA.2 e) b hb rfl)
  have k2 : ∀ b ∈ Bs2.flatten, w'.heap[b]? = w.heap[b]? := fun b hb => hsame b (hlt b (List.mem_append_right _ (List.mem_append_right _ hb))) (fun e => hd1.2.2 b (List.mem_append_left _ (wA.2 e)) b (List.mem_append_right _ hb) rfl)
  refine ⟨hdB v' ++ (Bs1 ++ Bs2).flatten, ⟨v', cs1 ++ cs2, Bs1 ++ Bs2, rfl, by rw [List.length_append, List.flatten_append]; exact hown, by simp [l1, l2], by simp [b1, b2], rfl, fun q q1 q2 q3 => ?_⟩, ?_, fun b hb => ?_⟩
  ·by_cases hlt' : q < xs.length
   ·rw [List.getElem_append_left hlt', List.getElem_append_left (by omega), List.getElem_append_left (by omega)]
    exact jU.keep (fun _ h => h) hSs _ _ _ _ _ (fun b hb => k1 b (hin1 q (by omega) b hb)) (r1 q hlt' (by omega) (by omega))
   ·have hq : q - xs.length < ys.length := by simp at q1; omega
    rw [List.getElem_append_right (by omega), List.getElem_append_right (by omega), List.getElem_append_right (by omega)]
    have := r2 (q - xs.length) hq (by omega) (by omega)
    have e1 : cs2[q - cs1.length]'(by omega) = cs2[q - xs.length]'(by omega) := by congr 1; omega
    have e2 : Bs2[q - Bs1.length]'(by omega) = Bs2[q - xs.length]'(by omega) := by congr 1; omega
    rw [e1, e2]
    exact jU.keep (fun _ h => h) hSs _ _ _ _ _ (fun b hb => k2 b (hin2 (q - xs.length) (by omega) b hb)) this
  ·rw [List.flatten_append]
   refine List.nodup_append.2 ⟨aOQ _, List.nodup_append.2 ⟨hd11.2.1, hd12.2.1, fun a ha b hb => hd1.2.2 a (List.mem_append_right _ ha) b (List.mem_append_right _ hb)⟩, fun a ha b hb e => ?_⟩
   subst e
   have hm : a ∈ (hdB sv ++ Bs1.flatten) ++ (hdB xv ++ Bs2.flatten) := by
    rcases List.mem_append.1 hb with hb | hb
    ·exact List.mem_append_left _ (List.mem_append_right _ hb)
    ·exact List.mem_append_right _ (List.mem_append_right _ hb)
   rcases hat a (wA.1 ha) with h1 | h1
   ·rcases List.mem_append.1 hb with hb | hb
    ·exact hd11.2.2 a (wA.2 h1) a hb rfl
    ·exact hd1.2.2 a (List.mem_append_left _ (wA.2 h1)) a (List.mem_append_right _ hb) rfl
   ·have := hlt a hm
    omega
  ·rcases List.mem_append.1 hb with hb | hb
   ·rcases hat b (wA.1 hb) with h1 | h1
    ·exact .inl (List.mem_append_left _ (List.mem_append_left _ (wA.2 h1)))
    ·exact .inr h1
   ·rw [List.flatten_append] at hb
    rcases List.mem_append.1 hb with hb | hb
    ·exact .inl (List.mem_append_left _ (List.mem_append_right _ hb))
    ·exact .inl (List.mem_append_right _ (List.mem_append_right _ hb))
 have o1' := o1
 rw [← hsz] at o1
 have hnl : cs2.flatten.length = ys.length * ct.cells := by rw [jD (n := ct.cells) (fun q hq => jU.length _ _ _ _ _ (r2 q (by omega) hq (by omega))), l2]
 rcases o2.2 with ⟨rfl, h0⟩ | ⟨g2, cap2, cur2, rfl, _, hheap2, hle2, hcap2, hsz2, htake2⟩
 ·have hy : ys = [] := List.eq_nil_of_length_eq_zero h0
  subst hy
  have hc2 : cs2 = [] := List.eq_nil_of_length_eq_zero (by simpa using l2)
  subst hc2
  have hrun := aEq (P := P) (ty := ty) hd hi o1 (a := none) (cap := 0) (Nat.zero_le _)
  have hgr : w.grownBy w (aN sv) := ⟨rfl, rfl, rfl, Nat.le_refl _, fun _ _ _ => rfl⟩
  obtain ⟨B', q1, q2, q3⟩ := keep w sv hgr (by simpa using o1') (fun b hb => .inl hb)
  exact ⟨sv, w, B', hrun, hgr, q1, q2, q3, hsl⟩
 ·have hone : ∀ u ∈ cs2.flatten, u.oneCell' = true := fun u hu => by
   obtain ⟨L, hL1, hL2⟩ := List.mem_flatten.1 hu
   obtain ⟨q, hq, rfl⟩ := List.mem_iff_getElem.1 hL1
   have := aT.one _ _ _ (jU.toC (S' := fun _ => True) (fun _ _ => trivial) _ _ _ _ _ (fun _ _ => trivial) (r2 q (by omega) hq (by omega))) u hL2
   cases u <;> first | rfl | exact this.elim
  have hcell : ∀ j u, cs2.flatten[j]? = some u → w.cell? ((⟨g2, 0, none⟩ : Addr).add j) = some u := fun j u hj => by
   rw [pZ]
   simp only [World.cell?, hheap2, Nat.zero_add]
   rw [← Array.getElem?_toList]
   rw [← htake2, List.getElem?_take] at hj
   split at hj
   ·exact hj
   ·cases hj
  obtain ⟨v', w', hrun, hown', hgr, _, hat⟩ := run_append_own_at (P := P) w 0 t ty (E.el t) i (jO ct) ct.cells i.bytes hd hi (hz hok) hsz rfl (by rw [uW hok]; simp [gI hok]) hpos sv xs.length cs1.flatten o1'
   ⟨g2, 0, none⟩ ys.length cap2 cs2.flatten hnl hcell hone hb.1 (Nat.le_trans (Nat.mul_le_mul_left _ hby) hb.2) (Nat.zero_le _)
  have hsl' := iD hown'
  rw [← pK hsl] at hgr hat
  rw [← pK hsl'] at hat
  obtain ⟨B', q1, q2, q3⟩ := keep w' v' hgr hown' (fun b hb => by
   rcases hat with hat | hat
   ·left; rw [← hat]; exact hb
   ·right
    rw [hat] at hb
    cases hb
    refine ⟨Nat.le_refl _, ?_⟩
    rcases hown'.2 with ⟨rfl, _⟩ | ⟨g, cp, cur, rfl, _, hheap, _⟩
    ·cases hat
    ·simp [aN] at hat
     subst hat
     exact (Array.getElem?_eq_some_iff.1 hheap).1)
  exact ⟨v', w', B', hrun, hgr, q1, q2, q3, hsl'⟩
theorem aWq {v' : Value} (h : ∃ a n m, v' = .slice a n m) {w' : World} {B : Nat → Prop} : aQ (c.pushB v' B) w' (.own c.n) v' := by
 obtain ⟨a, n, m, rfl⟩ := h
 refine ⟨⟨Nat.lt_succ_self c.n, ?_, ?_⟩, (fun h => by cases h), (fun _ cs => by simp)⟩
 ·show [Value.slice a n m] = [if c.n = c.n then Value.slice a n m else c.hd c.n]
  rw [if_pos rfl]
 ·show one (if c.n = c.n then Value.slice a n m else c.hd c.n)
  rw [if_pos rfl]; trivial
theorem Good.taken (hg : Good M w0 c h w) (l : List Nat) {w' : World} {e : TypeId} {m : Mk} {t : Ty} {xs : List t.den} {v' : Value} {B' : List Nat} (hos : w'.os = w.os) (htp : w'.tape = w.tape) (hout : w'.output = w.output) (hsz : w.heap.size ≤ w'.heap.size)
  (hsame : ∀ b, b < w.heap.size → ¬ lH c h l b → w'.heap[b]? = w.heap[b]?) (hr : jU w' c.S (.sl t) (.sl e m) xs [v'] B') (hnd : B'.Nodup) (hB : ∀ b ∈ B', lH c h l b ∨ (w.heap.size ≤ b ∧ b < w'.heap.size)) (hv : ∃ a n k, v' = .slice a n k) :
  ∃ c', dE c w c' w' ∧ Good M w0 c' (mC l h ++ [aGd e m t xs]) w' ∧ aQ c' w' (.own h.length) v' := by
 have e1 : (c.pushB v' (· ∈ B')).hd c.n = v' := by simp [Ctx.pushB]
 have e2 : (c.pushB v' (· ∈ B')).bl c.n = (· ∈ B') := by simp [Ctx.pushB]
 have hr' : jU w' (c.pushB v' (· ∈ B')).S (.sl t) (.sl e m) xs [(c.pushB v' (· ∈ B')).hd c.n] B' := by rw [e1]; exact hr
 obtain ⟨g1, g2⟩ := hg.remake l (o := aGd e m t xs) (v' := v') (B := (· ∈ B')) hos htp hout hsz hsame (aTH hr' hnd (fun b hb => by rw [e2]; exact hb)) (fun b hb => hB b (aTI hr' (fun b hb => by rw [e2] at hb; exact hb) hb))
 exact ⟨_, g2, g1, by rw [← hg.n]; exact aWq hv⟩
theorem aRJ (hE : fU P E) (hg : Good M w0 c h w) {t ty : TypeId} {s x : AV} {sv xv : Value} (hs : aQ c w s sv) (hx : aQ c w x xv) (hc : (aDO E h t s x).1) :
  ∃ v' w' c', (Builtin.append_ #[t, t] ty #[sv, xv]).run P w = .ok v' w' ∧ dE c w c' w' ∧ Good M w0 c' (aDO E h t s x).2.2 w' ∧ aQ c' w' (aDO E h t s x).2.1 v' := by
 have old := fun hc => aTA (P := P) (t := t) (ty := ty) hE hg hs hx hc
 unfold aDO at hc ⊢
 cases ht : E.T t with
 | none => simp only [ht] at hc ⊢; exact old hc
 | some tt =>
  cases tt with
  | sl ct =>
   simp only [ht] at hc ⊢
   cases hsc : ct.scalar with
   | true => simp only [hsc, cond_true] at hc ⊢; exact old hc
   | false =>
    simp only [hsc, cond_false] at hc ⊢
    cases x with
    | own j =>
     obtain ⟨hj, rfl⟩ := yV hx
     have hj1 : one (c.hd j) := by obtain ⟨hh, _⟩ := hx; simp only [aH] at hh; exact hh.2.2
     cases s with
     | own i =>
      obtain ⟨hi, rfl⟩ := yV hs
      have hi1 : one (c.hd i) := by obtain ⟨hh, _⟩ := hs; simp only [aH] at hh; exact hh.2.2
      simp only at hc ⊢
      split at hc
      ·rename_i xs ys hxs hys
       obtain ⟨hne, hb, hok⟩ := hc
       obtain ⟨B1, p1, p2, p3⟩ := aJq hg hi hi1 hxs
       obtain ⟨B2, q1, q2, q3⟩ := aJq hg hj hj1 hys
       have hnd := aJp hg p2 q2 p3 q3 (by simp [hne])
       have hmem : ∀ b ∈ B1 ++ B2, lH c h [i, j] b := fun b hb => by
        rcases List.mem_append.1 hb with hb | hb
        ·exact pP (fun z hz => by simp at hz; simp [hz]) (p3 b hb)
        ·exact pP (fun z hz => by simp at hz; simp [hz]) (q3 b hb)
       obtain ⟨v', w', B', hrun, hgr, r1, r2, r3, r4⟩ := aMt (P := P) (ty := ty) hE ht hok p1 q1 hnd (fun b hb => by obtain ⟨j', o', _, h2, h3⟩ := hmem b hb; exact (hg.own j' o' b h2 h3).2.1)
        (fun b hS => ⟨hg.sfin b hS, fun hB => by obtain ⟨j', o', _, h2, h3⟩ := p3 b hB; exact (hg.own j' o' b h2 h3).2.2 hS⟩) hb
       have p1' := p1
       obtain ⟨_, _, Bs1, e1, _, _, _, e4, _⟩ := p1'
       obtain ⟨c', k1, k2, k3⟩ := hg.taken [i, j] hgr.os hgr.tape hgr.output hgr.size (fun b hb hn => hgr.block b hb (fun e => hn (hmem b (List.mem_append_left _ (by
        rw [e4]
        obtain rfl := (List.cons.inj e1).1
        exact List.mem_append_left _ (wA.2 e.symm)))))) r1 r2 (fun b hb => (r3 b hb).imp (hmem b) id) r4
       exact ⟨v', w', c', hrun, k1, k2, k3⟩
      ·exact old hc
     | nilS =>
      have hsv : sv = .slice none 0 0 := by
       obtain ⟨h1, _, h3⟩ := hs
       have h3 := h3 rfl
       simp only [aH] at h1
       cases sv <;> simp [Value.cells] at h1 h3 <;> simp [h1]
      subst hsv
      simp only at hc ⊢
      split at hc
      ·rename_i ys hys
       obtain ⟨hb, hok⟩ := hc
       obtain ⟨B2, q1, q2, q3⟩ := aJq hg hj hj1 hys
       have p1 : jU w c.S (.sl ct) (.sl (E.el t) (aG7 h j)) [] [.slice none 0 0] [] := ⟨.slice none 0 0, [], [], rfl, World.ownsRow_nil w 0 _ _, rfl, rfl, rfl, fun i h => by simp at h⟩
       obtain ⟨v', w', B', hrun, hgr, r1, r2, r3, r4⟩ := aMt (P := P) (ty := ty) hE ht hok p1 q1 (by simpa using q2) (fun b hb => by obtain ⟨j', o', _, h2, h3⟩ := q3 b (by simpa using hb); exact (hg.own j' o' b h2 h3).2.1)
        (fun b hS => ⟨hg.sfin b hS, by simp⟩) (by simpa using hb)
       obtain ⟨c', k1, k2, k3⟩ := hg.taken [j] hgr.os hgr.tape hgr.output hgr.size (fun b hb hn => hgr.block b hb (fun e => by simp [aN] at e)) r1 r2 (fun b hb => (r3 b hb).imp (fun hb => q3 b (by simpa using hb)) id) r4
       exact ⟨v', w', c', hrun, k1, k2, k3⟩
      ·exact old hc
     | _ => exact old hc
    | _ => exact old hc
  | _ => simp only [ht] at hc ⊢; exact old hc
theorem aUH : ∀ (t : Ty) (m : Mk), t.okB = true → okM t m = true → jU w c.S t m t.zero (cC t) [] := by
 intro t
 induction t with
 | sl t ih =>
  intro m hok hm
  cases m with
  | no => exact aF8 (eI w c.S (.sl t) hok)
  | sl e m => exact ⟨.slice none 0 0, [], [], rfl, World.ownsRow_nil w 0 e t.cells, rfl, rfl, rfl, fun i h => by simp [Ty.zero] at h⟩
  | pair _ _ => simp [okM] at hm
 | pair a r iha ihr =>
  intro m hok hm
  cases m with
  | no => exact aF8 (eI w c.S (.pair a r) hok)
  | sl e m => simp [okM] at hm
  | pair ma mr =>
   simp only [okM, Bool.and_eq_true] at hm
   simp only [Ty.okB, Bool.and_eq_true] at hok
   exact ⟨cC a, cC r, [], [], rfl, rfl, iha ma hok.1 hm.1, ihr mr hok.2 hm.2⟩
 | _ =>
  intro m hok hm
  cases m with
  | no => exact aF8 (eI w c.S _ hok)
  | _ => simp [okM] at hm
theorem aUI (hE : fU P E) (hg : Good M w0 c h w) {t : TypeId} {l cp : AV} {lv cv : Value} (hl : aQ c w l lv) (hcp : aQ c w cp cv) (hc : (aOR E h t l cp).1) :
  ∃ v' w' c', (Instr.makeSlice t lv cv).run P w = .ok v' w' ∧ dE c w c' w' ∧ Good M w0 c' (aOR E h t l cp).2.2 w' ∧ aQ c' w' (aOR E h t l cp).2.1 v' := by
 unfold aOR at hc ⊢
 split at hc
 ·exact aWn hE hg hl hcp hc
 ·rename_i m hm0
  split at hc
  ·rename_i ct ht
   split at hc
   ·rename_i n k hn hk
    obtain ⟨hok, hm, h0, h1, h2, h3⟩ := hc
    obtain ⟨k1, rfl⟩ := vZ hl hn
    obtain ⟨k2, rfl⟩ := vZ hcp hk
    have hd := hE.el t ct ht
    obtain ⟨e', hd', hTe', hpos⟩ := eE (hE.T _ _ ht)
    have : e' = E.el t := by rw [hd] at hd'; cases hd'; rfl
    subst this
    obtain ⟨i, hi, hsz, hz, hby⟩ := (hE.T _ _ hTe').info
    have hbytes : (i.bytes : Int) * k ≤ 281474976710656 := by
     have : (i.bytes : Int) * k ≤ (ct.byt : Int) * k := Int.mul_le_mul_of_nonneg_right (by omega) (by omega)
     omega
    have hrun := run_make (P := P) w t (E.el t) i (jO ct) hd hi (hz hok) k1 k2 n k h0 h1 hbytes (by simp only [maxLen] at h3; omega)
    have hcells : (madeCells (jO ct).cells (k.toNat * i.size)).toList = (List.replicate k.toNat (cC ct)).flatten := by
     rw [hsz, uW hok, ← gI hok]
     exact uF _ _ (by rw [gI hok]; exact hpos)
    have hsplit : (List.replicate k.toNat (cC ct)).flatten = (List.replicate n.toNat (cC ct)).flatten ++ (List.replicate (k.toNat - n.toNat) (cC ct)).flatten := by
     rw [← List.flatten_append, List.replicate_append_replicate]
     congr 2; omega
    have hlen : (List.replicate n.toNat (cC ct)).flatten.length = n.toNat * ct.cells := by simp [gI hok]
    have hrep : jU (w.alloc (.cells (madeCells (jO ct).cells (k.toNat * i.size)) (E.el t) (0, 0))) c.S (.sl ct) (.sl (E.el t) m) (List.replicate n.toNat ct.zero) [.slice (some ⟨w.heap.size, 0, none⟩) n.toNat k.toNat] [w.heap.size] := by
     refine ⟨_, List.replicate n.toNat (cC ct), List.replicate n.toNat [], rfl, ⟨by simp [gI hok], .inr ⟨w.heap.size, k.toNat, _, by simp, Nat.zero_le _, yD w _, by simp; omega, by omega, by rw [size_madeCells, hsz], ?_⟩⟩, by simp, by simp, ?_, fun q q1 q2 q3 => ?_⟩
     ·rw [hcells, hsplit, List.length_replicate, ← hlen]; exact List.take_left
     ·rw [flatten_nil (fun i hi => by simp)]; rfl
     ·simp only [List.getElem_replicate]
      exact aUH (c := c) ct m hok hm
    obtain ⟨c', q1, q2, q3⟩ := hg.taken [] (w' := w.alloc (.cells (madeCells (jO ct).cells (k.toNat * i.size)) (E.el t) (0, 0))) rfl rfl rfl (by simp) (fun b hb _ => by show (w.heap.push _)[b]? = _; simp [Array.getElem?_push, Nat.ne_of_lt hb]) hrep (by simp) (fun b hb => .inr (by simp at hb; subst hb; exact ⟨Nat.le_refl _, by simp⟩)) ⟨_, _, _, rfl⟩
    exact ⟨_, _, c', hrun, q1, q2, q3⟩
   ·exact hc.elim
  ·exact hc.elim
theorem aXh {sz : Nat} : ∀ (vs : List (Nat × Value)) (k : Nat) (cells : Array Value) (pre rest : List Value), cells.toList = pre ++ rest → pre.length = k * sz → rest.length = vs.length * sz →
  (∀ i (h : i < vs.length), (vs[i]).1 = k + i ∧ (vs[i]).2.cells.size = sz) → ∃ cells', Instr.fill (fun i => some (i * sz, sz)) cells vs = some cells' ∧ cells'.toList = pre ++ (vs.map fun p => p.2.cells.toList).flatten
 | [], k, cells, pre, rest, h1, h2, h3, _ => by
  have : rest = [] := List.eq_nil_of_length_eq_zero (by simpa using h3)
  subst this
  exact ⟨cells, rfl, by simpa using h1⟩
 | (i, v) :: vs, k, cells, pre, rest, h1, h2, h3, h4 => by
  obtain ⟨e1, e2⟩ := h4 0 (by simp)
  simp only [List.getElem_cons_zero, Nat.add_zero] at e1 e2
  subst e1
  have hsplit : rest = rest.take sz ++ rest.drop sz := (List.take_append_drop _ _).symm
  have hlt : (rest.take sz).length = sz := by rw [List.length_take, h3]; simp only [List.length_cons, Nat.add_mul]; omega
  have hc : cells.toList = pre ++ rest.take sz ++ rest.drop sz := by rw [List.append_assoc, ← hsplit, h1]
  have hstep := aJh (v := v) hc (by rw [e2, hlt])
  obtain ⟨cells', q1, q2⟩ := aXh (sz := sz) vs (i + 1) _ (pre ++ v.cells.toList) (rest.drop sz) hstep (by simp [h2, e2, Nat.add_mul]) (by simp [h3, Nat.add_mul]) (fun q hq => by
   have := h4 (q + 1) (by simpa using hq)
   simp only [List.getElem_cons_succ] at this
   exact ⟨by rw [this.1]; omega, this.2⟩)
  refine ⟨cells', ?_, by rw [q2]; simp⟩
  have hcs : cells.size = (pre ++ rest).length := by rw [← h1]; simp
  have hcond : ¬ (v.cells.size ≠ sz ∨ i * sz + v.cells.size > cells.size) := by
   rw [e2, hcs, ← h2]
   simp only [List.length_append, h3, List.length_cons, Nat.add_mul]
   simp
  simp only [Instr.fill]
  rw [if_neg (by simpa using hcond), ← h2]
  exact q1
theorem aMu (hg : Good M w0 c h w) {m : Mk} {ct : Ty} : ∀ (ps : List (Nat × AV)) (vs : List (Nat × Value)) (k : Nat) (xs : List ct.den) (l : List Nat), aAk c w ps vs → aDP h m ct k ps = some (xs, l) → l.Nodup →
  xs.length = vs.length ∧ ∃ Bs : List (List Nat), Bs.length = xs.length ∧ Bs.flatten.Nodup ∧ (∀ b ∈ Bs.flatten, lH c h l b) ∧ ∀ i (h1 : i < xs.length) (h2 : i < vs.length) (h3 : i < Bs.length), (vs[i]).1 = k + i ∧ jU w c.S ct m xs[i] (vs[i]).2.cells.toList Bs[i]
 | [], _, k, xs, l, .nil, ha, _ => by
  simp only [aDP, Option.some.injEq, Prod.mk.injEq] at ha
  obtain ⟨rfl, rfl⟩ := ha
  exact ⟨rfl, [], rfl, by simp, fun b hb => by simp at hb, fun i h => by simp at h⟩
 | _, _, k, xs, l, .cons (k := i) (a := a) (v := v) (ps := ps) (vs := vs) hv r, ha, hl => by
  simp only [aDP] at ha
  split at ha
  ·rename_i e
   subst e
   split at ha
   ·rename_i x l1 ys l2 k1 k2
    simp only [Option.some.injEq, Prod.mk.injEq] at ha
    obtain ⟨rfl, rfl⟩ := ha
    have hnd := List.nodup_append.1 hl
    obtain ⟨q1, Bs, q2, q3, q4, q5⟩ := aMu hg ps vs (i + 1) ys l2 r k2 hnd.2.1
    have hv1 : aH c w a v.cells.toList := by
     cases a <;> first | exact hv.1 | (cases m <;> cases ct <;> simp [wC, wB, AV.as] at k1)
    obtain ⟨B, r1, r2, r3⟩ := aMs hg k1 hnd.1 hv1
    refine ⟨by simp [q1], B :: Bs, by simp [q2], ?_, fun b hb => ?_, fun z z1 z2 z3 => ?_⟩
    ·rw [List.flatten_cons]; exact aJp hg r2 q3 r3 q4 hl
    ·rw [List.flatten_cons] at hb
     rcases List.mem_append.1 hb with hb | hb
     ·exact pP (fun j hj => List.mem_append_left _ hj) (r3 b hb)
     ·exact pP (fun j hj => List.mem_append_right _ hj) (q4 b hb)
    ·cases z with
     | zero => exact ⟨rfl, r1⟩
     | succ z =>
      have := q5 z (by simpa using z1) (by simpa using z2) (by simpa using z3)
      simp only [List.getElem_cons_succ]
      exact ⟨by rw [this.1]; omega, this.2⟩
   ·cases ha
  ·cases ha
theorem aTJ (hE : fU P E) (hg : Good M w0 c h w) {t : TypeId} {m : Mk} {n : Nat} {ps : List (Nat × AV)} {vs : List (Nat × Value)} (hp : aAk c w ps vs) (hc : (aDQ E h t m n ps).1) :
  ∃ v' w' c', (Instr.buildSlice t n vs.toArray).run P w = .ok v' w' ∧ dE c w c' w' ∧ Good M w0 c' (aDQ E h t m n ps).2.2 w' ∧ aQ c' w' (aDQ E h t m n ps).2.1 v' := by
 unfold aDQ at hc ⊢
 split at hc
 ·rename_i ct ht
  split at hc
  ·rename_i xs l hab
   obtain ⟨hok, hnd, hn, hc1, hc2⟩ := hc
   have hd := hE.el t ct ht
   obtain ⟨e', hd', hTe', hpos⟩ := eE (hE.T _ _ ht)
   have : e' = E.el t := by rw [hd] at hd'; cases hd'; rfl
   subst this
   have hTe := hE.T _ _ hTe'
   have hz := pA hTe hok w
   have hnd := aOS hnd
   have hpl : ps.length = vs.length := parts_len hp
   obtain ⟨q1, Bs, q2, q3, q4, q5⟩ := aMu hg ps vs 0 xs l hp hab hnd
   have hnv : vs.length = n := by omega
   have hsz : ∀ i (h : i < vs.length), (vs[i]).1 = 0 + i ∧ (vs[i]).2.cells.size = ct.cells := fun i hi => by
    have := q5 i (by omega) hi (by omega)
    exact ⟨this.1, by rw [← Array.length_toList]; exact jU.length _ _ _ _ _ this.2⟩
   have hfl : (vs.map fun p => p.2.cells.toList).flatten.length = n * ct.cells := by
    rw [jD (n := ct.cells) (fun i hi => by simp only [List.length_map] at hi; simp only [List.getElem_map]; rw [Array.length_toList]; exact (hsz i hi).2), List.length_map, hnv]
   have hle : ¬ (n * ct.cells > 2 ^ 24) := by omega
   have main : ∀ zs : Array Value, (if n * ct.cells = 0 then (#[] : Array Value) else (jO ct).cells) = zs → ∃ cells', Instr.fill (fun i => some (i * ct.cells, ct.cells)) ((Array.range (n * ct.cells)).map (fun i => zs[i % zs.size]!)) vs = some cells' ∧ cells'.toList = (vs.map fun p => p.2.cells.toList).flatten := fun zs _ => by
    obtain ⟨cells', k1, k2⟩ := aXh (sz := ct.cells) vs 0 ((Array.range (n * ct.cells)).map (fun i => zs[i % zs.size]!)) [] ((Array.range (n * ct.cells)).map (fun i => zs[i % zs.size]!)).toList (by simp) (by simp) (by simp [hnv]) hsz
    exact ⟨cells', k1, by simpa using k2⟩
   obtain ⟨cells', k1, k2⟩ := main _ rfl
   have hrun : (Instr.buildSlice t n vs.toArray).run P w = .ok (.slice (some ⟨w.heap.size, 0, none⟩) n n) (w.alloc (.cells cells' (E.el t) (0, 0))) := by
    by_cases h0 : n * ct.cells = 0
    ·rw [if_pos h0] at k1
     simp only [Instr.buildSlice, Sem.run_bind, aV hd, Result.andThen_ok, dW hTe, hle, if_false, h0, if_true, Sem.run_ite, Sem.run_pure]
     rw [h0] at k1
     rw [if_neg (by decide), k1]
     rfl
    ·rw [if_neg h0] at k1
     simp only [Instr.buildSlice, Sem.run_bind, aV hd, Result.andThen_ok, dW hTe, hle, if_false, h0, hz, Sem.run_ite, Sem.run_pure, k1]
     rfl
   have hsame : ∀ b, b < w.heap.size → (w.alloc (.cells cells' (E.el t) (0, 0))).heap[b]? = w.heap[b]? := fun b hb => by show (w.heap.push _)[b]? = _; simp [Array.getElem?_push, Nat.ne_of_lt hb]
   have hbs : ∀ b ∈ Bs.flatten, b < w.heap.size := fun b hb => by obtain ⟨j', o', _, h2, h3⟩ := q4 b hb; exact (hg.own j' o' b h2 h3).2.1
   have hrep : jU (w.alloc (.cells cells' (E.el t) (0, 0))) c.S (.sl ct) (.sl (E.el t) m) xs [.slice (some ⟨w.heap.size, 0, none⟩) n n] (w.heap.size :: Bs.flatten) := by
    have hxn : xs.length = n := by omega
    refine ⟨_, vs.map fun p => p.2.cells.toList, Bs, rfl, ⟨by rw [hfl, hxn], .inr ⟨w.heap.size, n, cells', by rw [hxn], Nat.zero_le _, yD w _, by omega, hc2, ?_, ?_⟩⟩, by simp [hnv, hxn], q2, rfl, fun i z1 z2 z3 => ?_⟩
    ·rw [← Array.length_toList, k2, hfl]
    ·rw [k2, hxn, ← hfl, List.take_length]
    ·simp only [List.getElem_map]
     exact jU.keep (fun _ h => h) (fun b hb => hsame b (hg.sfin b hb)) _ _ _ _ _ (fun b hb => hsame b (hbs b (aRI z3 hb))) (q5 i z1 (by simpa using z2) z3).2
   obtain ⟨c', r1, r2, r3⟩ := hg.taken l (w' := w.alloc (.cells cells' (E.el t) (0, 0))) rfl rfl rfl (by simp) (fun b hb _ => hsame b hb) hrep (List.nodup_cons.2 ⟨fun hm => by have := hbs _ hm; omega, q3⟩) (fun b hb => by
    rcases List.mem_cons.1 hb with rfl | hb
    ·exact .inr ⟨Nat.le_refl _, by simp⟩
    ·exact .inl (q4 b hb)) ⟨_, _, _, rfl⟩
   exact ⟨_, _, c', hrun, r1, r2, r3⟩
  ·exact hc.elim
 ·exact hc.elim
where
 parts_len {ps : List (Nat × AV)} {vs : List (Nat × Value)} (h : aAk c w ps vs) : ps.length = vs.length := by
  induction h with
  | nil => rfl
  | cons _ _ ih => simp [ih]
theorem aRK : ∀ (t : Ty), t.okB = true → aFY t = true → jN c w (iZ t) (cC t) ∧ (iZ t).all AV.solid1 = true ∧ aE (iZ t) = t.cells := by
 intro t
 induction t with
 | pair a r _ ih =>
  intro hok hb
  simp only [Ty.okB, Bool.and_eq_true] at hok
  obtain ⟨h1, h2, h3⟩ := ih hok.2 hb
  cases a with
  | sl a => exact ⟨⟨[.slice none 0 0], cC r, rfl, rfl, h1⟩, by simp only [iZ, List.all_cons, h2]; rfl, by simp only [iZ, aE, h3]; rfl⟩
  | _ => exact ⟨⟨cC _, cC r, rfl, eI w c.S _ hok.1, h1⟩, by simp only [iZ, List.all_cons, h2]; rfl, by simp only [iZ, aE, h3]; rfl⟩
 | unit => intro _ _; exact ⟨rfl, rfl, rfl⟩
 | _ => intro _ hb; simp [aFY] at hb
end
end Go.Vc
namespace Go.Vc
open Go.RowKit
def aSL (c x y : AV) : Prop × AV :=
 match c, x, y with
 | .val .bool q, .val .bool a, .val .bool b => (True, .val .bool (bif q then a else b))
 | .val .bool q, .undef, .val .bool b => (q = false, .val .bool b)
 | .val .bool q, .val .bool a, .undef => (q = true, .val .bool a)
 | _, _, _ => (False, .junk)
def aQE (Γ : FuncId → List AV → Option aF) (f : FuncId) (vs : List AV) : Bool :=
 match Γ f vs with
 | some ⟨_, .own _ _, _, _⟩ => true
 | _ => false
def aSM : Option Ty → Bool
 | some (.i .i64) => true
 | _ => false
noncomputable def aLP (E : Env) (h : List Obj) (ρ : Operand → AV) (o : Oper) (c : Call) : Prop × AV × List Obj :=
 match c.callee with
 | .builtin .append => match c.args.toList.map ρ, c.argTypes.toList with
  | [s, x], [t, t'] => bif aSM (E.T t') then aF5 E h t s x else bif isStr (E.T t') then aF6 E h t s x else ((aDO E h t s x).1 ∧ t' = t, (aDO E h t s x).2)
  | _, _ => (False, .junk, h)
 | .value (.func f) => bif aQE E.Γ f (c.args.toList.map ρ) then aF4 E.Γ h f (c.args.toList.map ρ) else ((pv E h ρ o).1, (pv E h ρ o).2, h)
 | _ => ((pv E h ρ o).1, (pv E h ρ o).2, h)
def aBl (E : Env) (h : List Obj) (t : TypeId) : Prop × AV × List Obj :=
 match E.mp t with
 | some (k, e) => match E.T k, E.T e with
  | some kc, some vc => (True, .mp h.length, h ++ [.map kc vc []])
  | _, _ => (False, .junk, h)
 | none => (False, .junk, h)
def aMv (E : Env) (h : List Obj) (t : TypeId) (m k v : AV) : Prop × AV × List Obj :=
 match m with
 | .mp i => match h[i]? with
  | some (.map kc vc l) => match AV.as (h.map eG) kc k, AV.as (h.map eG) vc v with
   | some x, some y => (kc.keyB = true ∧ aUz E t kc vc, .junk, h.set i (.map kc vc (aBX kc l x y)))
   | _, _ => (False, .junk, h)
  | _ => (False, .junk, h)
 | _ => (False, .junk, h)
def aBm (E : Env) (h : List Obj) (t : TypeId) : Prop × AV × List Obj :=
 match E.T t with
 | some (.sl ct) => (ct.okB = true, .own h.length, h ++ [.row (E.el t) ct []])
 | _ => (False, .junk, h)
noncomputable def aAw (E : Env) (h : List Obj) (ρ : Operand → AV) (o : Oper) : Prop × AV × List Obj :=
 match o.op with
 | .alloc t => match E.T t with
  | some ct => bif E.dz t then (ct.okB = true ∧ aFY ct = true, .ptr h.length [], h ++ [.box ct.cells (.agg (iZ ct))]) else (ct.okB = true, .ptr h.length [], h ++ [.box (bxN t ct) (aEV ct)])
  | none => (False, .junk, h)
 | .box t x => ((ρ x).solid = true, .ptr h.length [], h ++ [.box (ρ x).nc (ρ x)])
 | .store t a x => aDN E.T h t (ρ a) (ρ x)
 | .makeSlice t l cp => aOR E h t (ρ l) (ρ cp)
 | .makeMap t none => aBl E h t
 | .buildSlice t n ps => match E.dm t with
  | some m => bif okD E h t m (ps.toList.map fun p => (p.1, ρ p.2)) then aDQ E h t m n (ps.toList.map fun p => (p.1, ρ p.2)) else ((pv E h ρ o).1, (pv E h ρ o).2, h)
  | none => match n, ps.toList with
   | 0, [] => aBm E h t
   | _, _ => ((pv E h ρ o).1, (pv E h ρ o).2, h)
 | .mapUpdate t m k v => aMv E h t (ρ m) (ρ k) (ρ v)
 | .insert t m k v => aMv E h t (ρ m) (ρ k) (ρ v)
 | .pick c x y => ((aSL (ρ c) (ρ x) (ρ y)).1, (aSL (ρ c) (ρ x) (ρ y)).2, h)
 | .call c => aLP E h ρ o c
 | _ => ((pv E h ρ o).1, (pv E h ρ o).2, h)
def aX9 : Option Ty → Bool
 | some (.sl (.u .u8)) => true
 | _ => false
def aMw (E : Env) (ρ : Operand → AV) (o : Oper) : List Nat :=
 match o.op with
 | .call c => match c.callee with
  | .value (.func f) => match E.Γ f (c.args.toList.map ρ) with
   | some sp => bif sp.res.ty.scalar then [] else (c.args.toList.map ρ).flatMap AV.tags
   | none => []
  | _ => []
 | .slice _ x _ _ _ => (ρ x).tags
 | .buildSlice t _ ps => match E.dm t with
  | some _ => []
  | none => ps.toList.flatMap fun p => (ρ p.2).tags
 | .store t a x => match ρ a with
  | .ptr _ (_ :: _) => bif aX9 (E.T t) || (E.dm t).isSome then [] else (ρ x).tags
  | _ => []
 | .mapUpdate _ _ _ v => (ρ v).tags
 | .insert _ _ _ v => (ρ v).tags
 | _ => []
noncomputable def wD (E : Env) (env : St) (h : List Obj) (o : Oper) : Prop × AV × List Obj :=
 aAw E (freezeAll (aMw E (evA E.G env) o) h) (fun x => aPs (freezeAll (aMw E (evA E.G env) o) h) (evA E.G env x)) o
def tH (d : Option Nat) (v : AV) (env : St) : St :=
 match d with
 | some d => (d, v) :: env
 | none => env
def aGs (ops : List Oper) (j : Nat) : Option Nat := match ops[j]? with
 | some o => o.dst
 | none => none
def qS (E : Env) (all : List Oper) : List Oper → St → List Obj → (St → List Obj → Prop) → Prop
 | [], env, h, K => K env h
 | o :: r, env, h, K => match o.guard with
  | none => match wD E env h o with
   | (p, v, h') => p ∧ qS E all r (tH o.dst v env) h' K
  | some (j, pol) => match aGs all j with
   | some dj => match look env dj with
    | .val .bool b => (b = pol → match wD E env h o with
      | (p, v, h') => p ∧ qS E all r (tH o.dst v env) h' K) ∧ (b = !pol → qS E all r (tH o.dst .undef env) h K)
    | .undef => qS E all r (tH o.dst .undef env) h K
    | _ => False
   | none => False
section
variable {P : Program} {E : Env} {M : Perm} {w0 : World} {c : Ctx} {h : List Obj} {w : World}
structure aG8 (M : Perm) (w0 : World) (c : Ctx) (w : World) (h' : List Obj) (av : AV) (v : Value) (w' : World) (c' : Ctx) : Prop where
 later : dE c w c' w'
 good : Good M w0 c' h' w'
 val : aQ c' w' av v
def aRL (P : Program) (M : Perm) (w0 : World) (c : Ctx) (o : Oper) (a : Act) (w : World) (h' : List Obj) (av : AV) : Prop :=
 (∃ v w' c', (execOp a.eval o).run P w = .ok (.value v) w' ∧ aG8 M w0 c w h' av v w' c') ∨
 (∃ w' c', (execOp a.eval o).run P w = .ok .skip w' ∧ aG8 M w0 c w h' av Go.undef w' c') ∨
 (∃ f args, (execOp a.eval o).run P w = .ok (.enter f args) w ∧ Calls P f args w fun e w' => ∃ v c', e = .returned v ∧ aG8 M w0 c w h' av v w' c')
theorem Did.toE {o : Oper} {a : Act} {av : AV} (hd : Did P M w0 h c o a w av) : aRL P M w0 c o a w h av := by
 rcases hd with ⟨v, w', c', hr, ha⟩ | ⟨f, args, hr, hc⟩
 ·exact .inl ⟨v, w', c', hr, ha.later, ha.good, ha.val⟩
 ·refine .inr (.inr ⟨f, args, hr, hc.mono ?_⟩)
  rintro e w' ⟨v, c', he, ha⟩
  exact ⟨v, c', he, ha.later, ha.good, ha.val⟩
theorem aRL.wp {o : Oper} {a : Act} {av : AV} {h' : List Obj} {next : Act → World → Prop} {Q : Exit → Act → World → Prop} (hd : aRL P M w0 c o a w h' av) (hn : ∀ v w' c', aG8 M w0 c w h' av v w' c' → next (a.put o.dst v) w') : o.wp P a w next Q := by
 rcases hd with ⟨v, w', c', hr, ha⟩ | ⟨w', c', hr, ha⟩ | ⟨f, args, hr, hc⟩
 ·unfold Oper.wp; rw [hr]; exact hn v w' c' ha
 ·unfold Oper.wp; rw [hr]; exact hn _ w' c' ha
 ·unfold Oper.wp
  rw [hr]
  refine Calls.mono hc ?_
  rintro e w' ⟨v, c', rfl, ha⟩
  exact hn v w' c' ha
theorem aRM (hg : Good M w0 c h w) {t : TypeId} (hc : (aBl E h t).1) :
  ∃ v w' c', (Instr.makeMap t none).run P w = .ok v w' ∧ aG8 M w0 c w (aBl E h t).2.2 (aBl E h t).2.1 v w' c' := by
 unfold aBl at hc ⊢
 split at hc
 ·rename_i k e he
  split at hc
  ·rename_i kc vc hk hv
   simp only [hk, hv]
   have hkeep : fJ nothing w (w.alloc (.map #[] 0)) := fJ.alloc nothing w _
   have e1 : (c.push (.map (some w.heap.size))).hd c.n = .map (some w.heap.size) := by simp [Ctx.push]
   have := hg.push hkeep (o := .map kc vc []) (hv := .map (some w.heap.size)) (by
    refine ⟨w.heap.size, #[], 0, e1, yD w _, rfl, fun j h => by simp at h⟩) (fun b hb => by
    simp only [dO, e1, aN, Option.some.injEq] at hb
    subst hb
    exact ⟨Nat.le_refl _, by simp⟩)
   refine ⟨.map (some w.heap.size), _, _, rfl, this.2, this.1, ?_⟩
   rw [← hg.n]
   exact ⟨⟨Nat.lt_succ_self c.n, by rw [e1]; rfl, by rw [e1]; trivial⟩, (fun h => by cases h), (fun _ cs => by simp)⟩
  ·exact hc.elim
 ·exact hc.elim
theorem aUJ (hE : fU P E) (hg : Good M w0 c h w) {t : TypeId} {m k v : AV} {mv kv vv : Value} (hm : aQ c w m mv) (hk : aQ c w k kv) (hv : aQ c w v vv) (hc : (aMv E h t m k v).1) :
  ∃ w', (Instr.mapUpdate t mv kv vv).run P w = .ok () w' ∧ dE c w c w' ∧ Good M w0 c (aMv E h t m k v).2.2 w' ∧ (aMv E h t m k v).2.1 = .junk := by
 unfold aMv at hc ⊢
 split at hc
 ·rename_i i
  split at hc
  ·rename_i kc vc l ho
   split at hc
   ·rename_i x y hx hy
    obtain ⟨h1, h3⟩ := hc
    simp only [ho, hx, hy]
    obtain ⟨b, es, clock, q1, q2, q3, q4⟩ := hg.objs i _ ho
    have hmv : mv = .map (some b) := by
     obtain ⟨r1, _, r3⟩ := hm
     simp only [aH] at r1
     have r3 := r3 rfl
     obtain ⟨_, r1, _⟩ := r1
     rw [q1] at r1
     cases mv <;> simp [Value.cells] at r1 r3 <;> rw [r1]
    subst hmv
    unfold aUz at h3
    split at h3
    ·rename_i kt et he
     have hkx := rZ hg hk hx
     have hvy := rZ hg hv hy
     have hu := hE.mp _ _ _ he
     have hgo : (getObj b).run P w = .ok (.map es clock) w := by simp [getObj, Sem.run, q2]
     have hl : es.toList.length = l.length := by simpa using q3
     have hf := aHI (P := P) hE.T h3.1 h1 hkx w l es.toList hl (fun j h h' => by have := (q4 j h (by simpa using h')).1; simpa using this)
     have hck := aGq (P := P) false 9998 hE.T h3.1 h1 hkx w
     have hff := aJj (c := kc) (w := w) (S := c.S) (x := x) l es.toList 0 hl
     have hob : dO c i (.map kc vc l) b := by simp [dO, q1, aN]
     have hblt : b < w.heap.size := (hg.own i _ b ho hob).2.1
     have hnS := (hg.own i _ b ho hob).2.2
     have hset : ∀ (es' : Array MapEntry) (clock' : Nat) (l' : List (kc.den × vc.den)), es'.size = l'.length → (∀ j (h : j < l'.length) (h' : j < es'.size), cR w c.S kc l'[j].1 es'[j].key ∧ cR w c.S vc l'[j].2 es'[j].val) →
       ∃ w', (setObj b (.map es' clock')).run P w = .ok () w' ∧ dE c w c w' ∧ Good M w0 c (h.set i (.map kc vc l')) w' := fun es' clock' l' hs hr => by
      have hsame : ∀ k, k ≠ b → (w.heap.setIfInBounds b (Go.Obj.map es' clock'))[k]? = w.heap[k]? := fun k hk => by simp [Ne.symm hk]
      have hkS : vT c.S w { w with heap := w.heap.setIfInBounds b (.map es' clock') } := fun k hk => hsame k (fun e => hnS (e ▸ hk))
      refine ⟨{ w with heap := w.heap.setIfInBounds b (.map es' clock') }, by simp [setObj, Sem.run, q2], ?_⟩
      have := hg.modify (o' := .map kc vc l') ho hob (w' := { w with heap := w.heap.setIfInBounds b (.map es' clock') }) rfl rfl rfl (by simp) hsame ?_ ?_
      ·exact ⟨this.2, this.1⟩
      ·exact ⟨b, es', clock', q1, by simp [hblt], hs, fun j h h' => ⟨(hr j h h').1.keep (fun _ h => h) hkS, (hr j h h').2.keep (fun _ h => h) hkS⟩⟩
      ·intro b' hb'
       simp [dO, q1, aN] at hb'
       exact hb'.symm
     cases hgt : aBW kc l x with
     | some y0 =>
      rw [hgt] at hff
      obtain ⟨j, e, k1, r1, r2, r3, r4, r5⟩ := hff
      rw [r1] at hf
      simp only [Nat.zero_add] at hf
      have hjl : j < l.length := by
       rcases Nat.lt_or_ge j l.length with h | h
       ·exact h
       ·rw [List.getElem?_eq_none h] at r3; cases r3
      have hje : j < es.size := by omega
      have e1 : es[j] = e := by
       have : es.toList[j]? = some e := r2
       rw [Array.getElem?_toList, Array.getElem?_eq_getElem hje] at this
       simpa using this
      have e2 : l[j] = (k1, y0) := by rw [List.getElem?_eq_getElem hjl] at r3; simpa using r3
      have hkk := (q4 j hjl hje).1
      rw [e1, e2] at hkk
      have hkey : e.key = kv := ((aUw h1 hkx hkk).1 r4).symm
      obtain ⟨w', s1, s2, s3⟩ := hset (es.modify j fun e => { e with key := kv, val := vv }) clock (l.set j (k1, y)) (by simp [q3]) (fun j' h h' => by
       simp only [List.length_set] at h
       have hj' : j' < es.size := by omega
       have hq := q4 j' h hj'
       simp only [List.getElem_set, Array.getElem_modify]
       by_cases ej : j = j'
       ·subst ej
        simp only [if_true]
        exact ⟨by rw [← hkey]; exact hkk, hvy⟩
       ·simp only [ej, if_false]; exact hq)
      refine ⟨w', ?_, s2, by rw [r5]; exact s3, trivial⟩
      have hst := aTw (P := P) h1 hkx w
      simp [Instr.mapUpdate, aV hu, hgo, hck, hf, Result.andThen, Array.getElem?_eq_getElem hje, e1, hkey, hst, s1]
     | none =>
      rw [hgt] at hff
      rw [hff.1] at hf
      obtain ⟨w', s1, s2, s3⟩ := hset (es.push { key := kv, val := vv, born := clock }) (clock + 1) (l ++ [(x, y)]) (by simp [q3]) (fun j' h h' => by
       rcases Nat.lt_or_ge j' l.length with hj | hj
       ·have hj' : j' < es.size := by omega
        have hq := q4 j' hj hj'
        rw [List.getElem_append_left hj, Array.getElem_push_lt hj']
        exact hq
       ·have ej : j' = l.length := by simp at h; omega
        subst ej
        have e3 : (es.push { key := kv, val := vv, born := clock : MapEntry })[l.length]'h' = { key := kv, val := vv, born := clock } := by
         have : l.length = es.size := q3.symm
         simp [Array.getElem_push, this]
        rw [e3]
        simp only [List.getElem_append_right (Nat.le_refl _), Nat.sub_self, List.getElem_singleton]
        exact ⟨hkx, hvy⟩)
      refine ⟨w', ?_, s2, by rw [hff.2]; exact s3, trivial⟩
      simp [Instr.mapUpdate, aV hu, hgo, hck, hf, Result.andThen, s1]
    ·exact h3.elim
   ·exact hc.elim
  ·exact hc.elim
 ·exact hc.elim
theorem aPv (hE : fU P E) (hg : Good M w0 c h w) {t : TypeId} (hc : (aBm E h t).1) :
  ∃ v' w' c', (Instr.buildSlice t 0 #[]).run P w = .ok v' w' ∧ dE c w c' w' ∧ Good M w0 c' (aBm E h t).2.2 w' ∧ aQ c' w' (aBm E h t).2.1 v' := by
 unfold aBm at hc ⊢
 split at hc
 ·rename_i ct ht
  have hd := hE.el t ct ht
  obtain ⟨e', hd', hTe', hpos⟩ := eE (hE.T _ _ ht)
  have : e' = E.el t := by rw [hd] at hd'; cases hd'; rfl
  subst this
  have hTe := hE.T _ _ hTe'
  have hk : fJ nothing w (w.alloc (.cells #[] (E.el t) (0, 0))) := fJ.alloc nothing w _
  have e : (c.push (.slice (some ⟨w.heap.size, 0, none⟩) 0 0)).hd c.n = .slice (some ⟨w.heap.size, 0, none⟩) 0 0 := by simp [Ctx.push]
  have := hg.push hk (o := .row (E.el t) ct []) (hv := .slice (some ⟨w.heap.size, 0, none⟩) 0 0) (by
   show vU _ _ _ _ _ _
   rw [e]
   exact ⟨[], ⟨by simp, .inr ⟨w.heap.size, 0, #[], rfl, Nat.zero_le _, yD w _, Nat.le_refl _, Nat.zero_le _, by simp, by simp⟩⟩, ⟨rfl, [], rfl, rfl, fun i hi => by simp at hi⟩⟩) (fun b hb => by
   simp only [dO, e, aN, Option.some.injEq] at hb
   subst hb
   exact ⟨Nat.le_refl _, by simp⟩)
  refine ⟨.slice (some ⟨w.heap.size, 0, none⟩) 0 0, _, _, ?_, this.2, this.1, ?_⟩
  ·have e1 : (Array.range (0 * ct.cells)).map (fun x => (#[] : Array Value)[x % (#[] : Array Value).size]!) = #[] := by simp
   have hle : ¬ (0 * ct.cells > 2 ^ 24) := by omega
   simp only [Instr.buildSlice, Sem.run_bind, aV hd, Result.andThen_ok, dW hTe, hle, if_false, Nat.zero_mul, if_true, Sem.run_ite, Sem.run_pure]
   rw [if_neg (by decide)]
   simp only [Nat.zero_mul] at e1
   rw [e1]
   rfl
  ·have := aBu (c := c) (v' := .slice (some ⟨w.heap.size, 0, none⟩) 0 0) ⟨_, _, _, rfl⟩ (w' := w.alloc (.cells #[] (E.el t) (0, 0))) (S' := c.S)
   rw [← hg.n]
   exact this
 ·exact hc.elim
theorem aXI (hE : fU P E) (hg : Good M w0 c h w) (hG : oW E.G c.S w) {o : Oper} {a : Act} {ρ : Operand → AV} (hρ : ∀ x ∈ o.op.operands, aQ c w (ρ x) (a.eval x)) (hc : (aAw E h ρ o).1) : aRL P M w0 c o a w (aAw E h ρ o).2.2 (aAw E h ρ o).2.1 := by
 have hpv : (pv E h ρ o).1 → aRL P M w0 c o a w h (pv E h ρ o).2 := fun hc => (aXf hE hg hG hρ hc).toE
 obtain ⟨dst, op, ty, pos, aft, gd⟩ := o
 cases op
 case alloc t =>
  simp only [aAw] at hc ⊢
  split at hc
  ·rename_i ct ht
   cases hdz : E.dz t with
   | true =>
    simp only [hdz, cond_true] at hc ⊢
    obtain ⟨hok, hzb⟩ := hc
    have hz := pA (hE.T _ _ ht) hok w
    obtain ⟨k1, k2, k3⟩ := aRK (c := c) (w := w) ct hok hzb
    have hag : ct.isAgg = true := by cases ct <;> first | rfl | (simp [aFY] at hzb)
    have hzv : jO ct = .agg (cC ct).toArray := by unfold jO; rw [if_pos hag]
    obtain ⟨w', c', h1, h2, h3, h4⟩ := aJo hg (t := t) (P := P) (x := .agg (iZ ct)) (v := jO ct) (n := ct.cells) (.inl k3) k2 (by
     rw [hzv]
     exact ⟨by simpa [aH, Value.cells] using k1, fun _ => ⟨_, rfl⟩, fun h => by cases h⟩)
    refine .inl ⟨_, w', c', ?_, h2, h3, h4⟩
    simp [execOp, Instr.alloc, hz, h1]
   | false =>
   simp only [hdz, cond_false] at hc ⊢
   have hz := pA (hE.T _ _ ht) hc w
   obtain ⟨w', c', h1, h2, h3, h4⟩ := aJo hg (t := t) (P := P) (x := aEV ct) (by rw [(aHQ (c := c) (w := w) hc).2.2.1]; exact aT8 t ct) (aHQ (c := c) (w := w) hc).2.1 (aHQ hc).2.2.2
   refine .inl ⟨_, w', c', ?_, h2, h3, h4⟩
   simp [execOp, Instr.alloc, hz, h1]
  ·exact hc.elim
 case box t x =>
  simp only [aAw] at hc ⊢
  obtain ⟨w', c', h1, h2, h3, h4⟩ := aJo hg (t := t) (P := P) (.inl rfl) hc (hρ x (by simp [Op.operands]))
  exact .inl ⟨_, w', c', by simp [execOp, Instr.box, h1], h2, h3, h4⟩
 case store t p x =>
  simp only [aAw] at hc ⊢
  obtain ⟨w', h1, h2, h3⟩ := aUF (P := P) hE.T hg (hρ p (by simp [Op.operands])) (hρ x (by simp [Op.operands])) hc
  refine .inr (.inl ⟨w', c, by simp [execOp, h1], h2, h3, ?_⟩)
  have : (aDN E.T h t (ρ p) (ρ x)).2.1 = .junk := by
   unfold aDN
   split <;> (try rfl)
   split <;> (try rfl)
   ·split <;> rfl
   ·split <;> (try rfl)
    split <;> rfl
   ·split <;> rfl
  rw [this]; trivial
 case makeMap t r =>
  cases r with
  | none =>
   simp only [aAw] at hc ⊢
   obtain ⟨v, w', c', h1, h2⟩ := aRM (P := P) hg hc
   exact .inl ⟨v, w', c', by simp [execOp, h1], h2⟩
  | some _ => exact hpv hc
 case buildSlice t n ps =>
  simp only [aAw] at hc ⊢
  split at hc
  ·rename_i m hm
   cases hokd : okD E h t m (ps.toList.map fun p => (p.1, ρ p.2)) with
   | false => simp only [hokd, cond_false] at hc ⊢; exact hpv hc
   | true =>
   simp only [hokd, cond_true] at hc ⊢
   have hp := aHK (l := ps.toList) (ρ := ρ) (a := a) (c := c) (w := w) (fun p hp => hρ p.2 (List.mem_toArray.2 (List.mem_map_of_mem hp)))
   obtain ⟨v', w', c', h1, h2, h3, h4⟩ := aTJ (P := P) hE hg hp hc
   refine .inl ⟨v', w', c', ?_, h2, h3, h4⟩
   have e : (ps.map fun p => (p.1, a.eval p.2)) = (ps.toList.map fun p => (p.1, a.eval p.2)).toArray := by rw [← Array.toList_inj]; simp
   simp [execOp, e, h1]
  rename_i hm
  split at hc
  ·rename_i hps
   obtain rfl : ps = #[] := by rw [← Array.toList_inj]; exact hps
   obtain ⟨v', w', c', h1, h2, h3, h4⟩ := aPv (P := P) hE hg hc
   exact .inl ⟨v', w', c', by simp [execOp, h1], h2, h3, h4⟩
  ·exact hpv hc
 case mapUpdate t m k v =>
  simp only [aAw] at hc ⊢
  obtain ⟨w', h1, h2, h3, h4⟩ := aUJ (P := P) hE hg (hρ m (by simp [Op.operands])) (hρ k (by simp [Op.operands])) (hρ v (by simp [Op.operands])) hc
  exact .inr (.inl ⟨w', c, by simp [execOp, h1], h2, h3, by rw [h4]; trivial⟩)
 case insert t m k v =>
  simp only [aAw] at hc ⊢
  obtain ⟨w', h1, h2, h3, h4⟩ := aUJ (P := P) hE hg (hρ m (by simp [Op.operands])) (hρ k (by simp [Op.operands])) (hρ v (by simp [Op.operands])) hc
  exact .inr (.inl ⟨w', c, by simp [execOp, h1], h2, h3, by rw [h4]; trivial⟩)
 case makeSlice t l cp =>
  simp only [aAw] at hc ⊢
  obtain ⟨v', w', c', h1, h2, h3, h4⟩ := aUI (P := P) hE hg (hρ l (by simp [Op.operands])) (hρ cp (by simp [Op.operands])) hc
  exact .inl ⟨v', w', c', by simp [execOp, h1], h2, h3, h4⟩
 case pick p x y =>
  simp only [aAw] at hc ⊢
  have hp := hρ p (by simp [Op.operands])
  have hx := hρ x (by simp [Op.operands])
  have hy := hρ y (by simp [Op.operands])
  unfold aSL at hc ⊢
  split at hc
  ·rename_i q u v e1 e2 e3
   rw [e1] at hp
   rw [e2] at hx
   rw [e3] at hy
   have hb := aC6 hp
   cases q
   ·exact (Did.of_value (v := a.eval y) (h := h) hg (by simp [execOp, hb, asBool]) hy).toE
   ·exact (Did.of_value (v := a.eval x) (h := h) hg (by simp [execOp, hb, asBool]) hx).toE
  ·rename_i q v e1 e2 e3
   rw [e1] at hp
   rw [e3] at hy
   have hb := aC6 hp
   have hc : q = false := hc
   subst hc
   exact (Did.of_value (v := a.eval y) (h := h) hg (by simp [execOp, hb, asBool]) hy).toE
  ·rename_i q u e1 e2 e3
   rw [e1] at hp
   rw [e2] at hx
   have hb := aC6 hp
   have hc : q = true := hc
   subst hc
   exact (Did.of_value (v := a.eval x) (h := h) hg (by simp [execOp, hb, asBool]) hx).toE
  ·exact hc.elim
 case call cl =>
  obtain ⟨callee, args, argTypes⟩ := cl
  have hargs : ∀ x ∈ args.toList, aQ c w (ρ x) (a.eval x) := fun x hx => hρ x (by
   simp only [Op.operands, Call.operands]
   exact Array.mem_append.2 (.inr (by simpa using hx)))
  cases callee with
  | builtin b =>
   cases b
   case append =>
    simp only [aAw, aLP] at hc ⊢
    split at hc
    ·rename_i s x t t' e1 e2
     obtain ⟨p, q, epq, rfl, rfl⟩ : ∃ p q, args.toList = [p, q] ∧ ρ p = s ∧ ρ q = x := by
      match hl : args.toList, e1 with
      | [p, q], ex => simp at ex; exact ⟨p, q, rfl, ex.1, ex.2⟩
     cases hz : aSM (E.T t') with
     | true =>
      simp only [hz, cond_true] at hc ⊢
      have htx : P.underlying t' = some (.int .i64) := by
       unfold aSM at hz
       split at hz
       ·rename_i hT
        exact aWo (hE.T _ _ hT)
       ·cases hz
      obtain ⟨v', w', c', h1, h2, h3, h4⟩ := aRF (P := P) (ty := ty) hE hg htx (hargs p (by rw [epq]; simp)) (hargs q (by rw [epq]; simp)) hc
      have e3 : args = #[p, q] := by rw [← Array.toList_inj]; exact epq
      have e4 : argTypes = #[t, t'] := by rw [← Array.toList_inj]; exact e2
      exact .inl ⟨v', w', c', by rw [e3, e4]; simp [execOp, resolve, invoke, builtin, h1], h2, h3, h4⟩
     | false =>
     simp only [hz, cond_false] at hc ⊢
     cases hq : isStr (E.T t') with
     | true =>
      simp only [hq, cond_true] at hc ⊢
      have htx : P.underlying t' = some .string := by
       unfold isStr at hq
       split at hq
       ·rename_i hT
        exact vB (hE.T _ _ hT)
       ·cases hq
      obtain ⟨v', w', c', h1, h2, h3, h4⟩ := aRG (P := P) (ty := ty) hE hg htx (hargs p (by rw [epq]; simp)) (hargs q (by rw [epq]; simp)) hc
      have e3 : args = #[p, q] := by rw [← Array.toList_inj]; exact epq
      have e4 : argTypes = #[t, t'] := by rw [← Array.toList_inj]; exact e2
      exact .inl ⟨v', w', c', by rw [e3, e4]; simp [execOp, resolve, invoke, builtin, h1], h2, h3, h4⟩
     | false =>
     simp only [hq, cond_false] at hc ⊢
     obtain ⟨hc, rfl⟩ := hc
     obtain ⟨v', w', c', h1, h2, h3, h4⟩ := aRJ (P := P) (ty := ty) hE hg (hargs p (by rw [epq]; simp)) (hargs q (by rw [epq]; simp)) hc
     have e3 : args = #[p, q] := by rw [← Array.toList_inj]; exact epq
     have e4 : argTypes = #[t', t'] := by rw [← Array.toList_inj]; exact e2
     exact .inl ⟨v', w', c', by rw [e3, e4]; simp [execOp, resolve, invoke, builtin, h1], h2, h3, h4⟩
    ·exact hc.elim
   all_goals exact hpv hc
  | value f =>
   cases f with
   | func f =>
    simp only [aAw, aLP] at hc ⊢
    cases ho : aQE E.Γ f (args.toList.map ρ) with
    | false =>
     simp only [ho, cond_false] at hc ⊢
     exact hpv hc
    | true =>
     simp only [ho, cond_true] at hc ⊢
     have hfok : ∀ sp, E.Γ f (args.toList.map ρ) = some sp → FOK P E.G f sp ∧ ∃ fn, P.funcs[f]? = some fn ∧ fn.name ≠ "runtime.NumGoroutine" ∧ fn.body.isSome = true := fun sp hsp => by
      rcases hE.Γ f _ sp hsp with h | h
      ·exact h
      ·unfold aQE at ho
       rw [hsp] at ho
       obtain ⟨a1, r1, p1, f1⟩ := sp
       cases r1 with
       | own e t => exact absurd rfl (h.1 e t)
       | _ => simp at ho
     have hcall := aRE (P := P) (Γ := E.Γ) (fun sp hsp => (hfok sp hsp).1) hg hG (f := f) (vs := args.toList.map ρ) (xs := (args.toList.map a.eval).toArray) (by simp) (fun i h1 h2 => by
      have := aDK (ρ := ρ) (a := a) (c := c) (w := w) hargs i h1 (by simpa using h2)
      simpa using this) hc
     have hfn : ∃ fn, P.funcs[f]? = some fn ∧ fn.name ≠ "runtime.NumGoroutine" ∧ fn.body.isSome = true := by
      unfold aQE at ho
      cases hΓ : E.Γ f (args.toList.map ρ) with
      | none => simp [hΓ] at ho
      | some sp => exact (hfok sp hΓ).2
     refine .inr (.inr ⟨f, (args.toList.map a.eval).toArray, ?_, ?_⟩)
     ·have hrun := aAM (w := w) (args := (args.map a.eval)) hfn
      have e2 : (args.toList.map a.eval).toArray = args.map a.eval := by rw [← Array.toList_inj]; simp
      rw [e2]
      simp [execOp, resolve, Deferred.ofValue, Act.eval, invoke, hrun]
     ·refine hcall.mono ?_
      rintro e w' ⟨v, c', he, h1, h2, h3⟩
      exact ⟨v, c', he, h1, h2, h3⟩
   | _ => exact hpv hc
  | _ => exact hpv hc
 all_goals exact hpv hc
theorem aUK (hg : Good M w0 c h w) {G : Nat → AV} {env : St} {a : Act} (he : aEI c w env a.tmps) (hG : oW G c.S w) {x : Operand} (hx : lG x = true) : aQ c w (aPs h (evA G env x)) (a.eval x) := aSH hg (aBp he hG hx)
theorem aHT (hE : fU P E) {nt : Nat} {ds : List Deferred} {env : St} {a : Act} {o : Oper} (hs : Sim E M w0 nt ds c env h a w) (hok : fG nt o = true) (hc : (wD E env h o).1) : aRL P M w0 c o a w (wD E env h o).2.2 (wD E env h o).2.1 := by
 obtain ⟨c1, hl, hn, hg1⟩ := hs.good.freezeAll (aMw E (evA E.G env) o)
 simp only [fG, Bool.and_eq_true] at hok
 have hall : ∀ x ∈ o.op.operands, lG x = true := Array.all_eq_true_iff_forall_mem.1 hok.1
 have hG1 : oW E.G c1.S w := hs.glob.mono hl.le.S hl.same
 have := aXI hE hg1 hG1 (o := o) (a := a) (ρ := fun x => aPs (freezeAll (aMw E (evA E.G env) o) h) (evA E.G env x)) (fun x hx => aUK hg1 (hs.env.keep hl) hG1 (hall x hx)) hc
 rcases this with ⟨v, w', c', hr, ha⟩ | ⟨w', c', hr, ha⟩ | ⟨f, args, hr, hcl⟩
 ·exact .inl ⟨v, w', c', hr, hl.trans ha.later, ha.good, ha.val⟩
 ·exact .inr (.inl ⟨w', c', hr, hl.trans ha.later, ha.good, ha.val⟩)
 ·refine .inr (.inr ⟨f, args, hr, hcl.mono ?_⟩)
  rintro e w' ⟨v, c', he, ha⟩
  exact ⟨v, c', he, hl.trans ha.later, ha.good, ha.val⟩
theorem Sim.after {nt : Nat} {ds : List Deferred} {env : St} {a : Act} {o : Oper} (hs : Sim E M w0 nt ds c env h a w) (hok : fG nt o = true) {h' : List Obj} {av : AV} {v : Value} {w' : World} {c' : Ctx} (ha : aG8 M w0 c w h' av v w' c') : Sim E M w0 nt ds c' (tH o.dst av env) h' (a.put o.dst v) w' := by
 simp only [fG, Bool.and_eq_true] at hok
 refine ⟨ha.good, hs.glob.mono ha.later.le.S ha.later.same, ?_, ?_, ?_⟩
 ·cases hd : o.dst with
  | none => exact hs.env.keep ha.later
  | some d =>
   have hdn : d < nt := by have := hok.2; rw [hd] at this; simpa using this
   exact (hs.env.keep ha.later).put (by rw [hs.size]; exact hdn) ha.val
 ·cases hd : o.dst with
  | none => exact hs.size
  | some d => simp [Act.put, hs.size]
 ·cases hd : o.dst with
  | none => exact hs.defers
  | some d => exact hs.defers
def yb : Value → Option Bool
 | .bool b => some b
 | _ => none
theorem vC {nt : Nat} {ops : List Oper} (hok : ∀ o ∈ ops, fG nt o = true) {a : Act} (hsz : a.tmps.size = nt) {j dj : Nat} (hd : aGs ops j = some dj) {v : Value} (hv : a.tmps.getD dj Go.undef = v) : yielded ops.toArray a.tmps j = yb v := by
 unfold aGs at hd
 split at hd
 ·rename_i oj hj
  have hokJ := hok oj (List.mem_of_getElem? hj)
  simp only [fG, Bool.and_eq_true, hd, decide_eq_true_eq] at hokJ
  have hdj : dj < a.tmps.size := by rw [hsz]; exact hokJ.2
  have h1 : a.tmps[dj]? = some v := by
   rw [Array.getElem?_eq_getElem hdj]
   have : a.tmps[dj] = v := by simpa [hdj] using hv
   rw [this]
  simp only [yielded, List.getElem?_toArray, hj, Option.bind_some, hd, h1]
  cases v <;> rfl
 ·cases hd
theorem aHU (hE : fU P E) {ops : List Oper} {Q : Exit → Act → World → Prop} {nt : Nat} {ds : List Deferred} (hok : ∀ o ∈ ops, fG nt o = true) {K : St → List Obj → Prop} (hK : ∀ env h c a w, K env h → Sim E M w0 nt ds c env h a w → Q .normal a w) :
  ∀ (m i : Nat), i + m = ops.length → ∀ (env : St) (h : List Obj) (c : Ctx) (a : Act) (w : World), qS E ops (ops.drop i) env h K → Sim E M w0 nt ds c env h a w → wpOps P ops.toArray Q (List.range' i m) a w
 | 0, i, hi, env, h, c, a, w, hs, hsim => by
  rw [List.drop_eq_nil_of_le (by omega)] at hs
  simp only [List.range'_zero, wpOps]
  exact hK env h c a w hs hsim
 | m + 1, i, hi, env, h, c, a, w, hs, hsim => by
  have hil : i < ops.length := by omega
  rw [List.drop_eq_getElem_cons hil] at hs
  have hokO := hok ops[i] (List.getElem_mem hil)
  have hput : ∀ (v : Value) (av : AV), aQ c w av v → Sim E M w0 nt ds c (tH ops[i].dst av env) h (a.put ops[i].dst v) w := fun v av hv => hsim.after hokO ⟨.refl _ _, hsim.good, hv⟩
  have hrun : ((wD E env h ops[i]).1 ∧ qS E ops (ops.drop (i + 1)) (tH ops[i].dst (wD E env h ops[i]).2.1 env) (wD E env h ops[i]).2.2 K) → Region.wanted ops[i] (yielded ops.toArray a.tmps) = true → wpOps P ops.toArray Q (List.range' i (m + 1)) a w := fun ⟨h1, h2⟩ hw => by
   rw [List.range'_succ]
   simp only [wpOps, List.getElem?_toArray, List.getElem?_eq_getElem hil, hw, if_true]
   left
   refine (aHT hE hsim hokO h1).wp fun v w' c' ha => ?_
   exact aHU hE hok hK m (i + 1) (by omega) _ _ c' _ w' h2 (hsim.after hokO ha)
  have hskip : qS E ops (ops.drop (i + 1)) (tH ops[i].dst .undef env) h K → Region.wanted ops[i] (yielded ops.toArray a.tmps) = false → wpOps P ops.toArray Q (List.range' i (m + 1)) a w := fun h2 hw => by
   rw [List.range'_succ]
   simp only [wpOps, List.getElem?_toArray, List.getElem?_eq_getElem hil, hw, Bool.false_eq_true, if_false]
   exact aHU hE hok hK m (i + 1) (by omega) _ _ c _ w h2 (hput _ _ rfl)
  simp only [qS] at hs
  cases hgd : ops[i].guard with
  | none =>
   rw [hgd] at hs
   exact hrun hs (by simp [Region.wanted, hgd])
  | some jp =>
   obtain ⟨j, pol⟩ := jp
   rw [hgd] at hs
   simp only at hs
   cases hdj : aGs ops j with
   | none => rw [hdj] at hs; exact hs.elim
   | some dj =>
    rw [hdj] at hs
    simp only at hs
    have hv := hsim.env dj
    split at hs
    ·rename_i b hb
     rw [hb] at hv
     have hb' := aC6 hv
     have hy := vC hok hsim.size hdj hb'
     simp only [yb] at hy
     by_cases e : b = pol
     ·exact hrun (hs.1 e) (by simp [Region.wanted, hgd, hy, e])
     ·have e' : b = !pol := by cases b <;> cases pol <;> simp_all
      exact hskip (hs.2 e') (by simp [Region.wanted, hgd, hy, e])
    ·rename_i hb
     rw [hb] at hv
     have hy := vC hok hsim.size hdj (v := Go.undef) hv
     exact hskip hs (by simp [Region.wanted, hgd, hy, Go.undef, yb])
    ·exact hs.elim
theorem aM {F : Fr} {Q : Exit → Act → World → Prop} {env : St} {h : List Obj} (hF : hU F) {id : Nat} {ops : Array Oper} (keep : List Nat) (hv : qS F.E ops.toList ops.toList env h (fun env h => At F (Q .normal) (keep.map fun t => (t, look env t)) h)) : Tri F (.region id ops false) Q env h := fun hok c a w hs => by
 simp only [fY, Bool.and_eq_true, Bool.or_eq_true, Bool.not_eq_true'] at hok
 obtain ⟨⟨h1, h2⟩, h3⟩ := hok
 refine wp_region ?_
 have := aHU (Q := Q) hF.env (List.all_eq_true.1 h1) (K := fun env h => At F (Q .normal) (keep.map fun t => (t, look env t)) h) (fun env h c a w hk hs => hk c a w (hs.keep keep)) ops.toList.length 0 (by simp) env h c a w (by simpa using hv) hs
 simpa [List.range_eq_range'] using this
end
end Go.Vc
namespace Go.Vc
open Go.RowKit
def posOf (i : Nat) : List Nat → Option Nat
 | [] => none
 | k :: r => if k = i then some 0 else match posOf i r with
  | some j => some (j + 1)
  | none => none
def cT (σ : List Nat) : List Nat → Option (List Nat)
 | [] => some []
 | i :: r => match posOf i σ, cT σ r with
  | some j, some l => some (j :: l)
  | _, _ => none
def eH (σ : List Nat) : AV → AV
 | .own i => match posOf i σ with
  | some j => .own j
  | none => .junk
 | .ptr i p => match posOf i σ with
  | some j => .ptr j p
  | none => .junk
 | .sub i s off n => match posOf i σ with
  | some j => .sub j s off n
  | none => .junk
 | .mp i => match posOf i σ with
  | some j => .mp j
  | none => .junk
 | .fn f l1 l2 => match cT σ l1, cT σ l2 with
  | some l1, some l2 => .fn f l1 l2
  | _, _ => .junk
 | .agg _ => .junk
 | .flat _ => .junk
 | .tup _ => .junk
 | v => v
def ren (σ : List Nat) : AV → AV
 | .agg vs => .agg (vs.map (eH σ))
 | .tup _ => .junk
 | .flat _ => .junk
 | v => eH σ v
def iN (σ : List Nat) : Obj → Obj
 | .box n v => .box n (ren σ v)
 | .trh e m t xs k v => .trh e m t xs k (ren σ v)
 | o => o
def nodupB : List Nat → Bool
 | [] => true
 | i :: r => !r.contains i && nodupB r
def preB (m : Nat) (σ : List Nat) : Bool := (List.range m).all fun i => decide (σ[i]? = some i)
theorem aQF {m : Nat} {σ : List Nat} (h : preB m σ = true) {i : Nat} (hi : i < m) : σ[i]? = some i := by
 have := List.all_eq_true.1 h i (List.mem_range.2 hi)
 simpa using this
section
variable {F : Fr} {M : Perm} {w0 : World} {c : Ctx} {h : List Obj} {w : World} {env : St} {K : Act → World → Prop}
theorem aQG {i : Nat} : ∀ {σ : List Nat} {j : Nat}, posOf i σ = some j → σ[j]? = some i
 | k :: r, j, hp => by
  simp only [posOf] at hp
  split at hp
  ·rename_i e; cases hp; simp [e]
  ·split at hp
   ·rename_i j' hj; cases hp; simp [aQG hj]
   ·cases hp
 | [], _, hp => by cases hp
def Ctx.ren (c : Ctx) (σ : List Nat) : Ctx := ⟨c.S, fun j => c.hd (σ.getD j 0), σ.length, fun j => c.bl (σ.getD j 0)⟩
theorem aMx {σ : List Nat} {i j : Nat} (hp : posOf i σ = some j) : j < σ.length ∧ (c.ren σ).hd j = c.hd i := by
 have := aQG hp
 have hlt : j < σ.length := by
  rcases Nat.lt_or_ge j σ.length with hh | hh
  ·exact hh
  ·rw [List.getElem?_eq_none hh] at this; cases this
 refine ⟨hlt, ?_⟩
 simp [Ctx.ren, List.getD_eq_getElem?_getD, this]
theorem aJr {σ : List Nat} : ∀ {l l' : List Nat}, cT σ l = some l' → (∀ j ∈ l', j < σ.length) ∧ l'.map (c.ren σ).hd = l.map c.hd
 | [], l', hp => by simp [cT] at hp; subst hp; exact ⟨(fun j hj => by cases hj), rfl⟩
 | i :: r, l', hp => by
  simp only [cT] at hp
  split at hp
  ·rename_i j l h1 h2
   cases hp
   obtain ⟨q1, q2⟩ := aMx (c := c) h1
   obtain ⟨k1, k2⟩ := aJr h2
   refine ⟨fun k hk => ?_, by simp [q2, k2]⟩
   rcases List.mem_cons.1 hk with rfl | hk
   ·exact q1
   ·exact k1 k hk
  ·cases hp
theorem aMy {σ : List Nat} : ∀ {v : AV} {cs : List Value}, aH c w v cs → aH (c.ren σ) w (eH σ v) cs := by
 intro v cs hr
 cases v <;> simp only [eH] <;> (try trivial)
 case own i =>
  split
  ·rename_i j hp
   obtain ⟨q1, q2⟩ := aMx (c := c) hp
   simp only [aH] at hr ⊢
   rw [q2]
   exact ⟨q1, hr.2⟩
  ·trivial
 case ptr i p =>
  split
  ·rename_i j hp
   obtain ⟨q1, q2⟩ := aMx (c := c) hp
   simp only [aH] at hr ⊢
   rw [q2]
   exact ⟨q1, hr.2⟩
  ·trivial
 case sub i s off n =>
  split
  ·rename_i j hp
   obtain ⟨q1, q2⟩ := aMx (c := c) hp
   simp only [aH] at hr ⊢
   rw [q2]
   exact ⟨q1, hr.2⟩
  ·trivial
 case mp i =>
  split
  ·rename_i j hp
   obtain ⟨q1, q2⟩ := aMx (c := c) hp
   simp only [aH] at hr ⊢
   rw [q2]
   exact ⟨q1, hr.2⟩
  ·trivial
 case fn f l1 l2 =>
  split
  ·rename_i l1' l2' h1 h2
   obtain ⟨q1, q2⟩ := aJr (c := c) h1
   obtain ⟨k1, k2⟩ := aJr (c := c) h2
   simp only [aH] at hr ⊢
   rw [q2, k2]
   exact ⟨q1, k1, hr.2.2⟩
  ·trivial
 all_goals exact hr
theorem aSN {σ : List Nat} : ∀ {vs : List AV} {cs : List Value}, jN c w vs cs → jN (c.ren σ) w (vs.map (eH σ)) cs
 | [], _, hr => hr
 | v :: r, _, ⟨c1, c2, e, h1, h2⟩ => ⟨c1, c2, e, aMy h1, aSN h2⟩
theorem aJs {σ : List Nat} {v : AV} {cs : List Value} (hr : aH c w v cs) : aH (c.ren σ) w (ren σ v) cs := by
 cases v
 case agg vs => exact aSN hr
 case tup => trivial
 case flat => trivial
 all_goals exact aMy hr
theorem aLQ {σ : List Nat} {v : AV} {x : Value} (hr : aQ c w v x) : aQ (c.ren σ) w (ren σ v) x := by
 have main : rJ c w v x → (ren σ v = .junk ∨ (ren σ v).isAgg = v.isAgg) → (∀ vs, ren σ v ≠ .tup vs) → (ren σ v ≠ .undef ∨ v = .undef) → aQ (c.ren σ) w (ren σ v) x := fun h1 ha ht hu => by
  rcases ha with ha | ha
  ·rw [ha]; trivial
  ·have h2 := aJs (σ := σ) h1.1
   generalize ren σ v = u at h2 ha ht hu
   have h3 : rJ (c.ren σ) w u x := ⟨h2, by rw [ha]; exact h1.2.1, by rw [ha]; exact h1.2.2⟩
   cases u <;> first | exact h3 | trivial | exact absurd rfl (ht _) | skip
   have h2 : x.cells.toList = [Go.undef] := h2
   have h4 := h1.2.2
   rw [← ha] at h4
   have h4 := h4 rfl
   show x = Go.undef
   cases x <;> simp [Value.cells] at h2 h4 <;> first | exact h2 | skip
 cases v
 case junk => trivial
 case undef => exact hr
 case tup => trivial
 case flat => trivial
 case agg vs => exact main hr (.inr rfl) (fun _ h => by simp [ren] at h) (.inl (by simp [ren]))
 case val => exact main hr (.inr rfl) (fun _ h => by simp [ren, eH] at h) (.inl (by simp [ren, eH]))
 case nilS => exact main hr (.inr rfl) (fun _ h => by simp [ren, eH] at h) (.inl (by simp [ren, eH]))
 case nilP => exact main hr (.inr rfl) (fun _ h => by simp [ren, eH] at h) (.inl (by simp [ren, eH]))
 case full => exact main hr (.inr rfl) (fun _ h => by simp [ren, eH] at h) (.inl (by simp [ren, eH]))
 case roa => exact main hr (.inr rfl) (fun _ h => by simp [ren, eH] at h) (.inl (by simp [ren, eH]))
 case own i => cases hp : posOf i σ <;> exact main hr (by simp [ren, eH, hp, AV.isAgg]) (fun _ h => by simp [ren, eH, hp] at h) (.inl (by simp [ren, eH, hp]))
 case ptr i p => cases hp : posOf i σ <;> exact main hr (by simp [ren, eH, hp, AV.isAgg]) (fun _ h => by simp [ren, eH, hp] at h) (.inl (by simp [ren, eH, hp]))
 case sub i s off n => cases hp : posOf i σ <;> exact main hr (by simp [ren, eH, hp, AV.isAgg]) (fun _ h => by simp [ren, eH, hp] at h) (.inl (by simp [ren, eH, hp]))
 case mp i => cases hp : posOf i σ <;> exact main hr (by simp [ren, eH, hp, AV.isAgg]) (fun _ h => by simp [ren, eH, hp] at h) (.inl (by simp [ren, eH, hp]))
 case fn f l1 l2 => cases hp : cT σ l1 <;> cases hq : cT σ l2 <;> exact main hr (by simp [ren, eH, hp, hq, AV.isAgg]) (fun _ h => by simp [ren, eH, hp, hq] at h) (.inl (by simp [ren, eH, hp, hq]))
theorem aQH : ∀ {σ : List Nat}, nodupB σ = true → ∀ i j : Nat, ∀ k, σ[i]? = some k → σ[j]? = some k → i = j
 | [], _, i, j, k, hi, _ => by simp at hi
 | a :: r, hd, i, j, k, hi, hj => by
  simp only [nodupB, Bool.and_eq_true, Bool.not_eq_true', List.contains_eq_mem, decide_eq_false_iff_not] at hd
  cases i with
  | zero =>
   cases j with
   | zero => rfl
   | succ j =>
    simp at hi hj
    subst hi
    exact absurd (List.mem_of_getElem? hj) hd.1
  | succ i =>
   cases j with
   | zero =>
    simp at hi hj
    subst hj
    exact absurd (List.mem_of_getElem? hi) hd.1
   | succ j =>
    simp at hi hj
    rw [aQH hd.2 i j k hi hj]
theorem aHV {σ : List Nat} {i j : Nat} (hj : σ[j]? = some i) (o : Obj) : dO (c.ren σ) j (iN σ o) = dO c i o := by
 have : (c.ren σ).hd j = c.hd i := by simp [Ctx.ren, List.getD_eq_getElem?_getD, hj]
 have h2 : (c.ren σ).bl j = c.bl i := by simp [Ctx.ren, List.getD_eq_getElem?_getD, hj]
 funext b
 cases o <;> simp [dO, iN, this, h2]
theorem Good.ren (hg : Good M w0 c h w) {σ : List Nat} (hd : nodupB σ = true) (hp : preB M.m σ = true) : Good M w0 (c.ren σ) (σ.map fun i => iN σ (h.getD i .dead)) w := by
 have hcase : ∀ j o', (σ.map fun i => iN σ (h.getD i .dead))[j]? = some o' → ∃ i, σ[j]? = some i ∧ o' = iN σ (h.getD i .dead) := fun j o' hj => by
  rw [List.getElem?_map] at hj
  cases hs : σ[j]? with
  | none => simp [hs] at hj
  | some i => simp [hs] at hj; exact ⟨i, hs, hj.symm⟩
 have hget : ∀ i, h.getD i .dead = .dead ∨ h[i]? = some (h.getD i .dead) := fun i => by
  cases hi : h[i]? with
  | none => left; simp [List.getD_eq_getElem?_getD, hi]
  | some o => right; simp [List.getD_eq_getElem?_getD, hi]
 refine ⟨by simp [Ctx.ren], hg.keeps, hg.sfin, hg.src, fun j o' hj => ?_, fun j o' b hj hb => ?_, fun j k oj ok b hj hk hbj hbk => ?_, ?_, fun i hi => ?_⟩
 ·obtain ⟨i, hi, rfl⟩ := hcase j o' hj
  have hhd : (c.ren σ).hd j = c.hd i := by simp [Ctx.ren, List.getD_eq_getElem?_getD, hi]
  have hbl : (c.ren σ).bl j = c.bl i := by simp [Ctx.ren, List.getD_eq_getElem?_getD, hi]
  rcases hget i with e | e
  ·rw [e]; trivial
  ·have := hg.objs i _ e
   revert this
   generalize h.getD i .dead = o
   intro this
   cases o with
   | dead => trivial
   | box n v =>
    obtain ⟨b, cells, e', q1, q2, q3, q4⟩ := this
    exact ⟨b, cells, e', by rw [hhd]; exact q1, q2, q3, aJs q4⟩
   | row e' t xs => simp only [aDB, iN] at *; rw [hhd]; exact this
   | frz t xs => simp only [aDB, iN] at *; rw [hhd]; exact this
   | map k v m =>
    obtain ⟨b, es, clock, q1, q2⟩ := this
    exact ⟨b, es, clock, by rw [hhd]; exact q1, q2⟩
   | tre e' m t xs => simp only [aDB, iN] at *; rw [hhd, hbl]; exact this
   | trh e' m t xs k v =>
    obtain ⟨css, Bs, q⟩ := this
    exact ⟨css, Bs, ⟨by rw [hhd]; exact q.row, q.lc, q.lb, q.kl, q.el, q.hb, fun h1 => ⟨aJs (q.hv h1).1, (q.hv h1).2⟩, by rw [hhd]; exact q.nd, by rw [hhd, hbl]; exact q.bl⟩⟩
 ·obtain ⟨i, hi, rfl⟩ := hcase j o' hj
  rw [aHV hi] at hb
  rcases hget i with e | e
  ·rw [e] at hb; cases hb
  ·exact hg.own i _ b e hb
 ·obtain ⟨i, hi, rfl⟩ := hcase j oj hj
  obtain ⟨i', hi', rfl⟩ := hcase k ok hk
  rw [aHV hi] at hbj
  rw [aHV hi'] at hbk
  rcases hget i with e | e
  ·rw [e] at hbj; cases hbj
  ·rcases hget i' with e' | e'
   ·rw [e'] at hbk; cases hbk
   ·have := hg.sep i i' _ _ b e e' hbj hbk
    subst this
    exact aQH hd j k i hi hi'
 ·rcases Nat.lt_or_ge σ.length M.m with hlt | hge
  ·have := aQF hp hlt
   rw [List.getElem?_eq_none (Nat.le_refl _)] at this; cases this
  ·exact hge
 ·have hi' := aQF hp hi
  have e : (c.ren σ).hd i = c.hd i := by simp [Ctx.ren, List.getD_eq_getElem?_getD, hi']
  rw [e]; exact hg.root.2 i hi
theorem aFf (f : AV → AV) (hf : f .junk = .junk) : ∀ (env : St) (t : Nat), look (env.map fun p => (p.1, f p.2)) t = f (look env t)
 | [], t => by simp only [List.map_nil, look]; exact hf.symm
 | (k, v) :: r, t => by
  simp only [List.map_cons, look]
  split
  ·rfl
  ·exact aFf f hf r t
theorem mD (σ : List Nat) (hd : nodupB σ = true) (hp : preB F.M.m σ = true) (hk : At F K (env.map fun p => (p.1, ren σ p.2)) (σ.map fun i => iN σ (h.getD i .dead))) : At F K env h := fun c a w hs =>
 hk (c.ren σ) a w ⟨hs.good.ren hd hp, hs.glob, fun t => by rw [aFf (ren σ) rfl]; exact aLQ (hs.env t), hs.size, hs.defers⟩
theorem aAO {x : Code} {Q : Exit → Act → World → Prop} (σ : List Nat) (hd : nodupB σ = true) (hp : preB F.M.m σ = true) (hk : Tri F x Q (env.map fun p => (p.1, ren σ p.2)) (σ.map fun i => iN σ (h.getD i .dead))) : Tri F x Q env h := fun hok => mD σ hd hp (hk hok)
theorem aTK (s : Nat) (e : TypeId) (t : Ty) (hn : look env s = .nilS) (hk : At F K ((s, .own h.length) :: env) (h ++ [.row e t []])) : At F K env h := fun c a w hs => by
 have hv := hs.env s
 rw [hn] at hv
 have hsv : a.tmps.getD s Go.undef = .slice none 0 0 := by
  obtain ⟨h1, _, h3⟩ := hv
  have h3 := h3 rfl
  simp only [aH] at h1
  revert h1 h3
  generalize a.tmps.getD s Go.undef = sv
  intro h1 h3
  cases sv <;> simp [Value.cells] at h1 h3 <;> simp [h1]
 have e1 : (c.push (.slice none 0 0)).hd c.n = .slice none 0 0 := by simp [Ctx.push]
 have := hs.good.push (.refl nothing w) (o := .row e t []) (hv := .slice none 0 0) (by
  show vU _ _ _ _ _ _
  rw [e1]
  exact ⟨[], ⟨by simp, .inl ⟨rfl, rfl⟩⟩, ⟨rfl, [], rfl, rfl, fun i h => by simp at h⟩⟩) (fun b hb => by simp [dO, e1, aN] at hb)
 refine hk _ a w ⟨this.1, hs.glob.mono (fun _ h => h) (.refl _ _), fun t => ?_, hs.size, hs.defers⟩
 simp only [look]
 split
 ·rename_i e'
  subst e'
  rw [hsv, ← hs.good.n]
  exact aBu (c := c) ⟨_, _, _, rfl⟩ (w' := w) (S' := c.S)
 ·exact this.2.val (hs.env t)
theorem aTL (i : Nat) (hk : At F K (env.map fun p => (p.1, aPs (freeze i h) p.2)) (freeze i h)) : At F K env h := fun c a w hs => by
 obtain ⟨c', hl, hn, hg⟩ := hs.good.freeze i
 refine hk c' a w ⟨hg, hs.glob.mono hl.le.S hl.same, fun t => ?_, hs.size, hs.defers⟩
 rw [aFf (aPs (freeze i h)) rfl]
 exact aSH hg (hl.val (hs.env t))
theorem aDR {x : Code} {Q : Exit → Act → World → Prop} (s : Nat) (e : TypeId) (t : Ty) (hn : look env s = .nilS) (hk : Tri F x Q ((s, .own h.length) :: env) (h ++ [.row e t []])) : Tri F x Q env h := fun hok => aTK s e t hn (hk hok)
theorem aRN {x : Code} {Q : Exit → Act → World → Prop} (i : Nat) (hk : Tri F x Q (env.map fun p => (p.1, aPs (freeze i h) p.2)) (freeze i h)) : Tri F x Q env h := fun hok => aTL i (hk hok)
end
end Go.Vc
namespace Go.Vc
open Go.RowKit
section
variable {F : Fr} {M : Perm} {w0 : World} {c : Ctx} {h : List Obj} {w : World} {env : St} {K : Act → World → Prop}
theorem Good.retell (hg : Good M w0 c h w) {i : Nat} {o o' : Obj} (ho : h[i]? = some o) {S' B' : Nat → Prop} (hS : ∀ b, S' b → c.S b ∨ dO c i o b) (hS1 : ∀ b, c.S b → S' b) (hob : aDB ⟨S', c.hd, c.n, fun j => if j = i then B' else c.bl j⟩ w i o')
  (hown : ∀ b, dO ⟨S', c.hd, c.n, fun j => if j = i then B' else c.bl j⟩ i o' b → dO c i o b ∧ ¬ S' b) : ∃ c', dE c w c' w ∧ Good M w0 c' (h.set i o') w := by
 have hil := jE ho
 have hle : c.le ⟨S', c.hd, c.n, fun j => if j = i then B' else c.bl j⟩ := ⟨hS1, Nat.le_refl _, fun _ _ => rfl⟩
 have hl : dE c w ⟨S', c.hd, c.n, fun j => if j = i then B' else c.bl j⟩ w := ⟨hle, .refl _ _⟩
 have hcase : ∀ j oj, (h.set i o')[j]? = some oj → (j ≠ i ∧ h[j]? = some oj) ∨ (j = i ∧ oj = o') := fun j oj hj => by
  by_cases e : i = j
  ·subst e; simp [hil] at hj; exact .inr ⟨rfl, hj.symm⟩
  ·rw [List.getElem?_set_ne e] at hj; exact .inl ⟨fun h => e h.symm, hj⟩
 have hold : ∀ j oj, j < c.n → j ≠ i → dO ⟨S', c.hd, c.n, fun j => if j = i then B' else c.bl j⟩ j oj = dO c j oj := fun j oj hj hne => eQ hle (by simp [hne]) hj oj
 have hlt : ∀ j oj, h[j]? = some oj → j < c.n := fun j oj hj => by rw [hg.n]; exact jE hj
 refine ⟨_, hl, ⟨by simp [hg.n], hg.keeps, fun b hb => ?_, fun b hb hb0 => ?_, fun j oj hj => ?_, fun j oj b hj hb => ?_, fun j k oj ok b hj hk hbj hbk => ?_, yU hg.root hle⟩⟩
 ·rcases hS b hb with hb | hb
  ·exact hg.sfin b hb
  ·exact (hg.own i _ b ho hb).2.1
 ·rcases hS b hb with hb | hb
  ·exact hg.src b hb hb0
  ·rcases (hg.own i _ b ho hb).1 with h1 | h1
   ·omega
   ·exact .inr h1
 ·rcases hcase j oj hj with ⟨hne, hj⟩ | ⟨rfl, rfl⟩
  ·exact (hg.objs j oj hj).keep hl (hlt j oj hj) (by simp [hne]) (fun _ _ => rfl)
  ·exact hob
 ·rcases hcase j oj hj with ⟨hne, hj⟩ | ⟨rfl, rfl⟩
  ·rw [hold j oj (hlt j oj hj) hne] at hb
   obtain ⟨h1, h2, h3⟩ := hg.own j oj b hj hb
   refine ⟨h1, h2, fun hb' => ?_⟩
   rcases hS b hb' with hb' | hb'
   ·exact h3 hb'
   ·exact hne (hg.sep j i oj _ b hj ho hb hb')
  ·obtain ⟨h1, h2⟩ := hown b hb
   obtain ⟨q1, q2, _⟩ := hg.own j _ b ho h1
   exact ⟨q1, q2, h2⟩
 ·rcases hcase j oj hj with ⟨hnj, hj1⟩ | ⟨ej, eo⟩ <;> rcases hcase k ok hk with ⟨hnk, hk1⟩ | ⟨ek, eo'⟩
  ·rw [hold j oj (hlt j oj hj1) hnj] at hbj
   rw [hold k ok (hlt k ok hk1) hnk] at hbk
   exact hg.sep j k oj ok b hj1 hk1 hbj hbk
  ·subst ek; subst eo'
   rw [hold j oj (hlt j oj hj1) hnj] at hbj
   exact hg.sep j k oj _ b hj1 ho hbj (hown b hbk).1
  ·subst ej; subst eo
   rw [hold k ok (hlt k ok hk1) hnk] at hbk
   exact hg.sep j k _ ok b ho hk1 (hown b hbj).1 hbk
  ·rw [ej, ek]
end
attribute [go_sem] asX aUh aXu aXv okD Ex.kind Ex.text Ex.l aPi iZ aFY aJe aDQ aDQ.nodupN aDP wC mB wB aDO aOR okM ownRow aG7 aGd aX8 aHS aXH aMr Ty.fldTy
end Go.Vc
