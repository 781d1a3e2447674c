import Derived.Test.YtlijgfkkmamanaaGreatDoorZL1
import Derived.Laws.IdiomStrings
import Derived.Laws.BytesArg
import Derived.MapKept
set_option linter.unusedVariables false
set_option linter.unusedSimpArgs false
namespace Go.Vc
open Go.RowKit
section
variable {P : Program} {T : Tab} {M : Perm} {w0 : World} {c : Ctx} {h : List Obj} {w : World}
theorem aBm {b : AV} {v : Value} {i : Int} (hv : aW c w b v) (hi : aCS b = some i) : ∃ k, v = .int k i := by
 cases b with
 | val t x =>
  cases t with
  | i k => simp only [aCS] at hi; cases hi; exact ⟨k, (aIR hv).1⟩
  | u k => simp only [aCS] at hi; cases hi; exact ⟨k, (aKG hv).1⟩
  | _ => grind [aCS]
 | _ => grind [aCS]
theorem aEk {t : Ty} {xs : List t.den} {v : Value} (hv : dE w c.S (.sl t) xs v) : ∃ a len cap, v = .slice a len cap ∧ SlR w c.S (bB w c.S t) t.cells xs a len cap := by
 simp only [dE, Ty.isAgg, Bool.false_eq_true, if_false] at hv
 obtain ⟨a, len, cap, e, h⟩ := hv
 grind
theorem aCy {i : Nat} {v : Value} (hv : aW c w (.own i) v) : i < c.n ∧ v = c.hd i := by
 obtain ⟨f, _, b⟩ := hv
 simp only [aM] at f
 have b := b rfl
 simp_all [Value.cells]
theorem aWK {t : Ty} {xs : List t.den} {v : Value} (hv : aW c w (.full t xs) v) : ∃ a n, v = .slice a n n ∧ SlR w c.S (bB w c.S t) t.cells xs a n n := by
 obtain ⟨f, _, b⟩ := hv
 simp only [aM] at f
 obtain ⟨a, n, e, h⟩ := f
 have b := b rfl
 refine ⟨a, n, ?_, h⟩
 simp_all [Value.cells]
theorem fZ {t : TypeId} {b : Ty} (f : aDU P T t (.sl b)) : ∃ e, P.underlying t = some (.slice e) ∧ T e = some b ∧ 0 < b.cells := by
 obtain ⟨d, hd, hb⟩ := f.desc
 cases d <;> simp [iV] at hb
 simp_all
theorem aEl {t : TypeId} {n : Nat} {b : Ty} (f : aDU P T t (.arr n b)) : ∃ e, P.underlying t = some (.array n e) ∧ T e = some b ∧ 0 < b.cells ∧ 1 < n ∧ n ≤ 1048576 := by
 obtain ⟨d, hd, hb⟩ := f.desc
 cases d <;> simp [iV] at hb
 grind
theorem aAS {t : TypeId} (b : aDU P T t .str) : P.underlying t = some .string := by
 obtain ⟨d, hd, hb⟩ := b.desc
 grind [iV]
theorem aRy {t : TypeId} {f : Ty} (q : lP P T) (ht : T t = some (.sl f)) {xs : List f.den} {a : Option Addr} {len cap : Nat} (hs : SlR w c.S (bB w c.S f) f.cells xs a len cap) {i : Int} {k : IntKind} (h0 : 0 ≤ i) (L : i < (xs.length : Int)) :
  ∃ u, (Instr.indexAt t (.slice a len cap) (.int k i)).run P w = .ok u w ∧ aW c w (.roa f (xs.getD i.toNat f.zero)) u := by
 obtain ⟨e, hd, J, r⟩ := fZ (q _ _ ht)
 obtain ⟨N, I, s, j⟩ := hs
 rcases j with j | ⟨b, off, rfl, hb, hcell⟩
 ·grind
 ·obtain ⟨ds, z, hc⟩ := hcell i.toNat (by omega)
  refine ⟨.pointer (some ⟨b, off + i.toNat * f.cells, none⟩), ?_, aFo hb ?_ hc⟩
  ·have g : i < (len : Int) := by omega
   simp [Instr.indexAt, asIntOf, bA hd, h0, g, fK (q _ _ J), Result.andThen, vP]
  grind
theorem aVc {i s off n : Nat} {v : Value} (hv : aW c w (.sub i s off n) v) : i < c.n ∧ n ≤ maxLen ∧ ∃ b cap, aX (c.hd i) = some b ∧ v = .slice (some ⟨b, off * s, none⟩) n cap := by
 obtain ⟨g, _, f⟩ := hv
 simp only [aM] at g
 obtain ⟨hi, j, b, cap, hb, e⟩ := g
 have f := f rfl
 simp_all [Value.cells]
theorem bBZ (I : lP P T) (hg : Good M w0 c h w) {t : TypeId} {x ix : AV} {v iv : Value} (hv : aW c w x v) (hi : aW c w ix iv) (hc : (aMo T h t x ix).1) :
  ∃ u, (Instr.indexAt t v iv).run P w = .ok u w ∧ aW c w (aMo T h t x ix).2 u := by
 unfold aMo at hc ⊢
 cases hix : aCS ix with
 | none => simp_all
 | some i =>
  obtain ⟨k, rfl⟩ := aBm hi hix
  simp only [hix] at hc ⊢
  cases x with
  | val tx O =>
   cases tx with
   | sl q =>
    simp only at hc ⊢
    obtain ⟨a, len, N, rfl, hs⟩ := aEk hv.toV
    exact aRy I hc.1 hs hc.2.1 hc.2.2
   | _ => simp_all
  | full q O =>
   simp only at hc ⊢
   obtain ⟨a, n, rfl, hs⟩ := aWK hv
   exact aRy I hc.1 hs hc.2.1 hc.2.2
  | own j =>
   obtain ⟨hj, rfl⟩ := aCy hv
   simp only at hc ⊢
   cases ho : h[j]? with
   | none => simp_all
   | some o =>
    have W := hg.objs j o ho
    cases o with
    | row e q O =>
     simp only [ho] at hc ⊢
     obtain ⟨ht, h0, Y⟩ := hc
     obtain ⟨e', hd, L, z⟩ := fZ (I _ _ ht)
     obtain ⟨vals, r, _⟩ := W
     obtain ⟨Z, J⟩ := r
     rcases J with ⟨f, h00⟩ | ⟨g, N, cur, f, _, hheap, hle, hcap, hsz, htake⟩
     ·omega
     ·have U : i < (O.length : Int) := Y
      refine ⟨.pointer (some ⟨g, oF [.idx q.cells i.toNat], none⟩), ?_, aKc hj (by rw [f]; rfl)⟩
      rw [f]
      simp [Instr.indexAt, asIntOf, bA hd, h0, U, fK (I _ _ L), Result.andThen, vP, oF, Step.off]
    | tre e m q O =>
     simp only [ho] at hc ⊢
     obtain ⟨ht, h0, Y⟩ := hc
     obtain ⟨e', hd, L, z⟩ := fZ (I _ _ ht)
     obtain ⟨B, ⟨vv, css, Bs, hvv0, r, _⟩, _⟩ := W
     obtain rfl : c.hd j = vv := (List.cons.inj hvv0).1
     obtain ⟨Z, J⟩ := r
     rcases J with ⟨f, h00⟩ | ⟨g, N, cur, f, _, hheap, hle, hcap, hsz, htake⟩
     ·omega
     ·have U : i < (O.length : Int) := Y
      refine ⟨.pointer (some ⟨g, oF [.idx q.cells i.toNat], none⟩), ?_, aKc hj (by rw [f]; rfl)⟩
      rw [f]
      simp [Instr.indexAt, asIntOf, bA hd, h0, U, fK (I _ _ L), Result.andThen, vP, oF, Step.off]
    | trh e m q O kk vk =>
     simp only [ho] at hc ⊢
     obtain ⟨ht, h0, Y⟩ := hc
     obtain ⟨e', hd, L, z⟩ := fZ (I _ _ ht)
     obtain ⟨css, Bs, hq⟩ := W
     have r := hq.row
     obtain ⟨Z, J⟩ := r
     rcases J with ⟨f, h00⟩ | ⟨g, N, cur, f, _, hheap, hle, hcap, hsz, htake⟩
     ·omega
     ·have U : i < (O.length : Int) := Y
      refine ⟨.pointer (some ⟨g, oF [.idx q.cells i.toNat], none⟩), ?_, aKc hj (by rw [f]; rfl)⟩
      rw [f]
      simp [Instr.indexAt, asIntOf, bA hd, h0, U, fK (I _ _ L), Result.andThen, vP, oF, Step.off]
    | frz q O =>
     simp only [ho] at hc ⊢
     obtain ⟨a, len, N, e, hs⟩ := W
     simp at e
     rw [e]
     exact aRy I hc.1 hs hc.2.1 hc.2.2
    | _ => simp_all
  | sub j s off n =>
   obtain ⟨hj, hn, b, N, hb, rfl⟩ := aVc hv
   simp only at hc ⊢
   cases ho : h[j]? with
   | none => simp_all
   | some o =>
    cases o with
    | row e q O =>
     simp only [ho] at hc ⊢
     obtain ⟨ht, rfl, h0, Y⟩ := hc
     obtain ⟨e', hd, L, z⟩ := fZ (I _ _ ht)
     refine ⟨.pointer (some ⟨b, oF [.idx q.cells (off + i.toNat)], none⟩), ?_, aKc hj hb⟩
     have e1 : off * q.cells + i.toNat * q.cells = (off + i.toNat) * q.cells := (Nat.add_mul _ _ _).symm
     simp [Instr.indexAt, asIntOf, bA hd, h0, Y, fK (I _ _ L), Result.andThen, vP, oF, Step.off, e1]
    | _ => simp_all
  | ptr j p =>
   obtain ⟨hj, b, hb, rfl⟩ := aG6 hv
   simp only at hc ⊢
   cases ht : T t with
   | none => simp_all
   | some q =>
    cases q with
    | arr n q =>
     simp only [ht] at hc ⊢
     obtain ⟨e, hd, L, z, hn⟩ := aEl (I _ _ ht)
     refine ⟨.pointer (some ⟨b, oF (p ++ [.idx q.cells i.toNat]), none⟩), ?_, aKc hj hb⟩
     simp [Instr.indexAt, asIntOf, bA hd, hc.1, hc.2, fK (I _ _ L), Result.andThen, vP, aG7, oF, Step.off, Instr.sureAddr]
    | _ => simp_all
  | roa tx O =>
   cases tx with
   | arr n q =>
    simp only at hc ⊢
    obtain ⟨ht, h0, Y⟩ := hc
    obtain ⟨e, hd, L, z, hn⟩ := aEl (I _ _ ht)
    obtain ⟨b, off, ds, rfl, hb, hrep, hcell⟩ := aRa hv
    obtain ⟨pre, ds', post, e1, hp, hd'⟩ := aN2 (c := c) (.val (.arr n q) O) i.toNat ds hrep (by grind [elemOf])
    refine ⟨.pointer (some ⟨b, off + i.toNat * q.cells, none⟩), ?_, aFo hb hd' ?_⟩
    ·simp [Instr.indexAt, asIntOf, bA hd, h0, Y, fK (I _ _ L), Result.andThen, vP, Instr.sureAddr]
    ·have := aDV hcell e1
     rw [hp] at this; exact this
   | _ => simp_all
  | _ => simp_all
theorem sP (s : ByteArray) : (aV s).length = s.size := by
 obtain ⟨⟨l⟩⟩ := s; simp [aV, ByteArray.size]
theorem bB0 (s : ByteArray) {i : Nat} (h : i < s.size) : (aV s).getD i 0 = s[i].toNat := by
 obtain ⟨⟨l⟩⟩ := s
 have h' : i < l.length := h
 simp only [aV, List.getD_eq_getElem?_getD, List.getElem?_map]
 rw [List.getElem?_eq_getElem h']
 rfl
theorem bB1 (j : lP P T) {t : TypeId} {x g : AV} {v J : Value} (hv : aW c w x v) (hi : aW c w g J) (hc : (aMp T t x g).1) :
  ∃ u, (Instr.index t v J).run P w = .ok u w ∧ aW c w (aMp T t x g).2 u := by
 unfold aMp at hc ⊢
 cases b : aCS g with
 | none => simp_all
 | some i =>
  obtain ⟨k, rfl⟩ := aBm hi b
  simp only [b] at hc ⊢
  cases x with
  | val O xs =>
   cases O with
   | arr n Z =>
    simp only at hc ⊢
    obtain ⟨ht, h0, r⟩ := hc
    obtain ⟨e, hd, N, L, hn⟩ := aEl (j _ _ ht)
    obtain ⟨Y, U, _⟩ := hv
    obtain ⟨cs, rfl⟩ := U rfl
    obtain ⟨pre, W, post, e1, hp, z⟩ := aN2 (c := c) (.val (.arr n Z) xs) i.toNat _ Y (by grind [elemOf])
    obtain ⟨u, q, I⟩ := aEu (j _ _ N) e1 z w
    rw [hp] at q
    simp only [aUk, Value.cells] at q
    refine ⟨u, ?_, aW.ofV I⟩
    simp [Instr.index, asIntOf, bA hd, h0, r, fK (j _ _ N), Result.andThen, q]
   | str =>
    simp only at hc ⊢
    obtain ⟨ht, h0, r⟩ := hc
    have hd := aAS (j _ _ ht)
    obtain ⟨s, rfl, rfl, hs⟩ := aPt hv
    rw [sP] at r
    have f : i.toNat < s.size := by omega
    refine ⟨.int .u8 (s[i.toNat].toNat : Int), ?_, ?_⟩
    ·simp [Instr.index, asIntOf, bA hd, h0, getElem?_pos, f]
    ·rw [bB0 s f]; exact aKs rfl (by simp [lC, IntKind.bits]; exact s[i.toNat].toNat_lt)
   | _ => simp_all
  | _ => simp_all
theorem aRz : (maxLen : Int) = IntKind.max .i64 := by rfl
theorem tN {n : Nat} (h : n ≤ maxLen) : fits .i64 (n : Int) := by
 refine ⟨?_, by grind [aRz]⟩
 simp [IntKind.min, IntKind.signed, IntKind.bits]
theorem bGu (N : lP P T) (hg : Good M w0 c h w) {t ty : TypeId} {x : AV} {v : Value} (hv : aW c w x v) (hc : (aIV T h t x).1) :
  ∃ u, (Builtin.len_ #[t] ty #[v]).run P w = .ok u w ∧ aW c w (aIV T h t x).2 u := by
 cases x with
 | val tx Y =>
  cases tx with
  | str =>
   simp only [aIV] at hc ⊢
   obtain ⟨s, rfl, rfl, hs⟩ := aPt hv
   exact ⟨.int .i64 s.size, by simp [Builtin.len_, bA (aAS (N _ _ hc)), goInt], by rw [sP]; exact aCm rfl (tN hs)⟩
  | sl W =>
   simp only [aIV] at hc ⊢
   obtain ⟨e, hd, _⟩ := fZ (N _ _ hc)
   obtain ⟨a, len, L, rfl, hl, J, q, _⟩ := aEk hv.toV
   exact ⟨.int .i64 len, by simp [Builtin.len_, bA hd, goInt], by rw [hl]; exact aCm rfl (tN (by omega))⟩
  | arr n W =>
   simp only [aIV] at hc ⊢
   obtain ⟨e, hd, _, _, _, hn⟩ := aEl (N _ _ hc)
   exact ⟨.int .i64 n, by simp [Builtin.len_, bA hd, goInt], aCm rfl (tN (by unfold maxLen; omega))⟩
  | _ => exact hc.elim
 | full W Y =>
  simp only [aIV] at hc ⊢
  obtain ⟨e, hd, _⟩ := fZ (N _ _ hc)
  obtain ⟨a, n, rfl, hl, J, q, _⟩ := aWK hv
  exact ⟨.int .i64 n, by simp [Builtin.len_, bA hd, goInt], by rw [hl]; exact aCm rfl (tN (by omega))⟩
 | nilS =>
  simp only [aIV] at hc ⊢
  obtain ⟨W, hc⟩ := hc
  obtain ⟨e, hd, _⟩ := fZ (N _ _ hc)
  obtain ⟨h1, _, h3⟩ := hv
  simp only [aM] at h1
  have h3 := h3 rfl
  have : v = .slice none 0 0 := by simp_all [Value.cells]
  subst this
  exact ⟨.int .i64 0, by simp [Builtin.len_, bA hd, goInt], aCm rfl (tN (Nat.zero_le _))⟩
 | sub j s off n =>
  obtain ⟨hj, hn, b, L, hb, rfl⟩ := aVc hv
  simp only [aIV] at hc ⊢
  obtain ⟨W, hc⟩ := hc
  obtain ⟨e, hd, _⟩ := fZ (N _ _ hc)
  exact ⟨.int .i64 n, by simp [Builtin.len_, bA hd, goInt], aCm rfl (tN hn)⟩
 | own j =>
  obtain ⟨hj, rfl⟩ := aCy hv
  simp only [aIV] at hc ⊢
  cases ho : h[j]? with
  | none => simp_all
  | some o =>
   have O := hg.objs j o ho
   cases o with
   | row e W Y =>
    simp only [ho] at hc ⊢
    obtain ⟨e', hd, he, I⟩ := fZ (N _ _ hc)
    obtain ⟨vals, ⟨U, z⟩, _⟩ := O
    rcases z with ⟨f, r⟩ | ⟨g, L, Z, f, _, hheap, J, q, hsz, htake⟩
    ·rw [f, r]
     exact ⟨.int .i64 0, by simp [Builtin.len_, bA hd, goInt], aCm rfl (tN (Nat.zero_le _))⟩
    ·rw [f]
     exact ⟨.int .i64 Y.length, by simp [Builtin.len_, bA hd, goInt], aCm rfl (tN (by omega))⟩
   | tre e m W Y =>
    simp only [ho] at hc ⊢
    obtain ⟨e', hd, he, I⟩ := fZ (N _ _ hc)
    obtain ⟨B, ⟨vv, css, Bs, hvv0, ⟨U, z⟩, _⟩, _⟩ := O
    obtain rfl : c.hd j = vv := (List.cons.inj hvv0).1
    rcases z with ⟨f, r⟩ | ⟨g, L, Z, f, _, hheap, J, q, hsz, htake⟩
    ·rw [f, r]
     exact ⟨.int .i64 0, by simp [Builtin.len_, bA hd, goInt], aCm rfl (tN (Nat.zero_le _))⟩
    ·rw [f]
     exact ⟨.int .i64 Y.length, by simp [Builtin.len_, bA hd, goInt], aCm rfl (tN (by omega))⟩
   | trh e m W Y kk vk =>
    simp only [ho] at hc ⊢
    obtain ⟨e', hd, he, I⟩ := fZ (N _ _ hc)
    obtain ⟨css, Bs, hq⟩ := O
    obtain ⟨U, z⟩ := hq.row
    rcases z with ⟨f, r⟩ | ⟨g, L, Z, f, _, hheap, J, q, hsz, htake⟩
    ·rw [f, r]
     exact ⟨.int .i64 0, by simp [Builtin.len_, bA hd, goInt], aCm rfl (tN (Nat.zero_le _))⟩
    ·rw [f]
     exact ⟨.int .i64 Y.length, by simp [Builtin.len_, bA hd, goInt], aCm rfl (tN (by omega))⟩
   | frz W Y =>
    simp only [ho] at hc ⊢
    obtain ⟨e', hd, he, I⟩ := fZ (N _ _ hc)
    obtain ⟨a, len, L, e, hl, J, q, _⟩ := O
    simp at e
    rw [e]
    exact ⟨.int .i64 len, by simp [Builtin.len_, bA hd, goInt], by rw [hl]; exact aCm rfl (tN (by omega))⟩
   | _ => simp_all
 | _ => exact hc.elim
theorem bHf {f : UnOp} {x : AV} {v : Value} (hv : aW c w x v) (hc : (aYF f x).1) :
  ∃ u, (Op.unary f v).run P w = .ok u w ∧ aW c w (aYF f x).2 u := by
 cases x with
 | val t y =>
  cases t with
  | bool =>
   obtain rfl := aGf hv
   cases f <;> simp only [aYF] at hc ⊢
   exact ⟨_, rfl, aEt _⟩
  | i k =>
   obtain ⟨rfl, j, g⟩ := aIR hv
   cases f <;> simp only [aYF] at hc ⊢
   simp_all [Op.unary, Op.intArith, aIQ, aCm]
  | u k =>
   obtain ⟨rfl, j, g⟩ := aKG hv
   cases f <;> simp only [aYF] at hc ⊢
   ·have hp := aEs k
    have := aU7 (P := P) (w := w) (c := c) .sub 0 (a := 0) (b := y) j hp g (by simp [aU6])
    obtain ⟨u, q, r⟩ := this
    refine ⟨u, ?_, by grind [aU6, aJ7, aU5]⟩
    simpa [binOp, Op.unary] using q
   ·have hp := aEs k
    have := aU7 (P := P) (w := w) (c := c) .xor 0 (a := lC k - 1) (b := y) j (by omega) g (by simp [aU6])
    obtain ⟨u, q, r⟩ := this
    refine ⟨u, ?_, by grind [aU6]⟩
    grind [lC, aZF, binOp, Op.unary]
  | _ => exact hc.elim
 | _ => exact hc.elim
theorem aZQ {k k' : IntKind} (h : k.bits ≤ k'.bits) : lC k ≤ lC k' := Nat.pow_le_pow_right (by omega) h
theorem aYH {k k' : IntKind} (q : k.signed = true) (b : k'.signed = true) (h : k.bits ≤ k'.bits) {n : Int} (f : fits k n) : fits k' n := by
 obtain ⟨j, g⟩ := f
 cases k <;> simp [IntKind.signed] at q <;> cases k' <;> simp [IntKind.signed] at b <;> simp [IntKind.bits] at h <;> simp [fits, IntKind.min, IntKind.max, IntKind.signed, IntKind.bits] at j g ⊢ <;> omega
theorem bAY {k k' : IntKind} (f : k.signed = false) (b : k'.signed = true) (h : k.bits < k'.bits) {n : Nat} (g : n < lC k) : fits k' (n : Int) := by
 cases k <;> simp [IntKind.signed] at f <;> cases k' <;> simp [IntKind.signed] at b <;> simp [IntKind.bits] at h <;> simp [fits, IntKind.min, IntKind.max, IntKind.signed, IntKind.bits, lC] at g ⊢ <;> omega
theorem aZR (N : lP P T) {src dst : TypeId} {x : AV} {v : Value} (hv : aW c w x v) (hc : (aN3 T src dst x).1) :
  ∃ u, (convert src dst v).run P w = .ok u w ∧ aW c w (aN3 T src dst x).2 u := by
 have g : (T src).isSome = true → ∃ d, P.underlying src = some d := fun h => by
  obtain ⟨Y, J⟩ := Option.isSome_iff_exists.1 h
  obtain ⟨d, hd, _⟩ := (N _ _ J).desc
  simp_all
 unfold aN3 at hc ⊢
 cases b : T dst with
 | none => simp_all
 | some W =>
  obtain ⟨U, j, q⟩ := (N _ _ b).desc
  cases x with
  | val t y =>
   cases W with
   | u k =>
    cases U <;> simp [iV] at q
    obtain ⟨rfl, r⟩ := q
    cases t with
    | u L =>
     simp only [b] at hc ⊢
     obtain ⟨ds, f⟩ := g hc
     obtain ⟨rfl, z, I⟩ := aKG hv
     refine ⟨_, by simp [convert, bA f, bA j, Conv.intToInt]; rfl, ?_⟩
     rw [aBk r]
     split
     ·rename_i O; rw [Nat.mod_eq_of_lt (Nat.lt_of_lt_of_le I (aZQ O))]; grind [aKs, Nat.lt_of_lt_of_le, aZQ]
     ·exact aKs r (Nat.mod_lt _ (aEs _))
    | i L =>
     simp only [b] at hc ⊢
     obtain ⟨ds, f⟩ := g hc
     obtain ⟨rfl, z, I⟩ := aIR hv
     refine ⟨_, by simp [convert, bA f, bA j, Conv.intToInt]; rfl, ?_⟩
     rw [aYz r]
     have hp := aEs k
     have h1 := Int.emod_nonneg y (show (lC k : Int) ≠ 0 by omega)
     have Z := Int.emod_lt_of_pos y (show (0 : Int) < lC k by omega)
     grind [aKs, lC, Int.toNat_of_nonneg]
    | _ => simp_all
   | i k =>
    cases U <;> simp [iV] at q
    obtain ⟨rfl, r⟩ := q
    cases t with
    | u L =>
     simp only [b] at hc ⊢
     obtain ⟨ds, f⟩ := g hc
     obtain ⟨rfl, z, I⟩ := aKG hv
     refine ⟨_, by simp [convert, bA f, bA j, Conv.intToInt]; rfl, ?_⟩
     grind [bAY, aIQ, aCm, aGe]
    | i L =>
     simp only [b] at hc ⊢
     obtain ⟨ds, f⟩ := g hc
     obtain ⟨rfl, z, I⟩ := aIR hv
     refine ⟨_, by simp [convert, bA f, bA j, Conv.intToInt]; rfl, ?_⟩
     grind [aYH, aIQ, aCm, aGe]
    | _ => simp_all
   | str =>
    cases U <;> simp [iV] at q
    cases t with
    | str =>
     simp only [b] at hc ⊢
     obtain ⟨s, rfl, rfl, hs⟩ := aPt hv
     exact ⟨_, by simp [convert, bA (aAS (N _ _ hc)), bA j], bEl hs⟩
    | _ => simp_all
   | _ => simp_all
  | _ => simp_all
theorem aZS (f : BinOp) (t : TypeId) {k k' : IntKind} {a : Nat} {b : Int} (g : k.signed = false) (j : a < lC k) (h0 : 0 ≤ b) (h : (shU f k a b.toNat).1) :
  ∃ v, (binOp f t (.int k a) (.int k' b)).run P w = .ok v w ∧ aW c w (shU f k a b.toNat).2 v := by
 have := aYA (P := P) (w := w) (c := c) f t (k := k) (k' := k') (a := a) (n := b.toNat) g j h
 grind
theorem aZT (f : BinOp) (t : TypeId) {k k' : IntKind} {a b : Int} (j : k.signed = true) (g : fits k a) (h0 : 0 ≤ b) (q : f = .shl → b ≤ k.bits) (h : (shI f k a b.toNat).1) :
  ∃ v, (binOp f t (.int k a) (.int k' b)).run P w = .ok v w ∧ aW c w (shI f k a b.toNat).2 v := by
 have := aYB (P := P) (w := w) (c := c) f t (k := k) (k' := k') (a := a) (n := b.toNat) j g (fun e => by simp_all) h
 grind
theorem aWL (a b : ByteArray) : aV (a ++ b) = aV a ++ aV b := by
 grind [List.map, ByteArray.data_append, aV]
theorem aZU : ∀ (a b : List UInt8), Op.bytesLess a b = aMi (a.map (·.toNat)) (b.map (·.toNat))
 | a, [] => by grind [Op.bytesLess, aMi]
 | [], b :: r => by rfl
 | a :: x, b :: y => by
  simp only [Op.bytesLess, List.map_cons, aMi, aZU x y]
  have e1 : decide (a < b) = decide (a.toNat < b.toNat) := by rfl
  have f : (a == b) = decide (a.toNat = b.toNat) := by rw [Bool.eq_iff_iff]; simp [UInt8.toNat_inj]
  grind
theorem aWM (s : ByteArray) : aV s = s.toList.map (·.toNat) := by rw [ByteArray.toList_eq]; rfl
theorem bEu {b : BinOp} (t : TypeId) {s r : ByteArray} (hs : s.size ≤ maxLen) (g : r.size ≤ maxLen) (hc : (bBO b (aV s) (aV r)).1) :
  ∃ u, (binOp b t (.string s) (.string r)).run P w = .ok u w ∧ aW c w (bBO b (aV s) (aV r)).2 u := by
 have j : Op.bytesLess s.toList r.toList = aMi (aV s) (aV r) := by grind [aZU, aWM]
 cases b <;> simp only [bBO] at hc ⊢
 case add =>
  rw [sP, sP] at hc
  have f : (s ++ r).size = s.size + r.size := by simp
  refine ⟨.string (s ++ r), ?_, by grind [aWL, bEl]⟩
  have : ¬ (((s.size + r.size : Nat) : Int) > IntKind.max .i64) := by grind [aRz]
  simp_all [binOp, Op.stringOp, if_false]
 all_goals simp_all [binOp, Op.stringOp, bGn, aEt]
theorem bGv (Z : lP P T) {J : BinOp} {t : TypeId} {x y : AV} {v u : Value} (hv : aW c w x v) (f : aW c w y u) (hc : (aCR T J t x y).1) :
  ∃ r, (binOp J t v u).run P w = .ok r w ∧ aW c w (aCR T J t x y).2 r := by
 have g : ∀ (I : Ty) (a b : I.den) (v u : Value), I.isAgg = true → aW c w (.val I a) v → aW c w (.val I b) u → T t = some I → I.cmpB = true → I.deep ≤ 100 →
   (binOp .eql t v u).run P w = .ok (.bool (I.eqb a b)) w ∧ (binOp .neq t v u).run P w = .ok (.bool (!I.eqb a b)) w := by
  intro I a b v u j hv f ht U hd
  have N := aG2 Z w ht U hd hv.toV f.toV
  obtain ⟨cs, rfl⟩ := hv.2.1 j
  obtain ⟨cs', rfl⟩ := f.2.1 j
  simp_all [binOp]
 cases x with
 | val t1 a =>
  cases t1 with
  | u k =>
   cases y with
   | val z b =>
    cases z with
    | u Y =>
     obtain ⟨rfl, L, j⟩ := aKG hv
     obtain ⟨rfl, O, hb⟩ := aKG f
     cases J
     case shl => exact aYA (P := P) .shl t L j (by simp [shU])
     case shr => exact aYA (P := P) .shr t L j (by simp [shU])
     all_goals
      simp only [aCR] at hc ⊢
      split at hc
      all_goals simp_all [if_true, aU7]
    | i Y =>
     obtain ⟨rfl, L, j⟩ := aKG hv
     obtain ⟨rfl, O, hb⟩ := aIR f
     cases J <;> simp only [aCR] at hc ⊢
     case shl => exact aZS (P := P) .shl t L j hc (by simp [shU])
     case shr => exact aZS (P := P) .shr t L j hc (by simp [shU])
    | _ => exact hc.elim
   | _ => exact hc.elim
  | i k =>
   cases y with
   | val z b =>
    cases z with
    | i Y =>
     obtain ⟨rfl, L, j⟩ := aIR hv
     obtain ⟨rfl, O, hb⟩ := aIR f
     cases J
     case shl =>
      simp_all [aCR, aZT]
     case shr =>
      simp only [aCR] at hc ⊢
      exact aZT (P := P) .shr t L j hc (fun h => by cases h) (by simp [shI])
     all_goals
      simp only [aCR] at hc ⊢
      split at hc
      all_goals simp_all [if_true, bEn]
    | u Y =>
     obtain ⟨rfl, L, j⟩ := aIR hv
     obtain ⟨rfl, O, hb⟩ := aKG f
     cases J <;> simp only [aCR] at hc ⊢
     case shl => simp_all [aYB]
     case shr => exact aYB (P := P) .shr t L j (fun h => by cases h) (by simp [shI])
    | _ => exact hc.elim
   | _ => exact hc.elim
  | str =>
   cases y with
   | val z b =>
    cases z with
    | str =>
     simp only [aCR] at hc ⊢
     obtain ⟨s, rfl, rfl, hs⟩ := aPt hv
     obtain ⟨r, rfl, rfl, hr⟩ := aPt f
     simp_all [bEu]
    | _ => exact hc.elim
   | _ => exact hc.elim
  | bool =>
   cases y with
   | val z b =>
    cases z with
    | bool =>
     simp only [aCR] at hc ⊢
     obtain rfl := aGf hv
     obtain rfl := aGf f
     have N := aG2 (P := P) (T := T) Z w (S := c.S) (w := w) (x := a) (y := b) hc.1 rfl (by simp [Ty.deep]) hv.toV f.toV
     have W := hc.2
     cases J <;> simp only [bEm] at W ⊢
     ·exact ⟨.bool (a == b), by simp only [binOp, Sem.run_bind, N, Result.andThen_ok]; rfl, aEt _⟩
     ·exact ⟨.bool (a != b), by simp only [binOp, Sem.run_bind, N, Result.andThen_ok]; rfl, aEt _⟩
    | _ => exact hc.elim
   | _ => exact hc.elim
  | pair p q =>
   cases y with
   | val z b =>
    simp only [aCR] at hc ⊢
    by_cases e : z = .pair p q
    ·subst e
     simp only [dite_true] at hc ⊢
     cases J <;> simp only at hc ⊢ <;> (try exact hc.elim)
     ·exact ⟨_, (g _ _ _ _ _ rfl hv f hc.1 hc.2.1 hc.2.2).1, aEt _⟩
     ·exact ⟨_, (g _ _ _ _ _ rfl hv f hc.1 hc.2.1 hc.2.2).2, aEt _⟩
    simp_all
   | _ => exact hc.elim
  | arr n q =>
   cases y with
   | val z b =>
    simp only [aCR] at hc ⊢
    by_cases e : z = .arr n q
    ·subst e
     simp only [dite_true] at hc ⊢
     cases J <;> simp only at hc ⊢ <;> (try exact hc.elim)
     ·exact ⟨_, (g _ _ _ _ _ rfl hv f hc.1 hc.2.1 hc.2.2).1, aEt _⟩
     ·exact ⟨_, (g _ _ _ _ _ rfl hv f hc.1 hc.2.1 hc.2.2).2, aEt _⟩
    simp_all
   | _ => exact hc.elim
  | _ => exact hc.elim
 | _ => exact hc.elim
end
end Go.Vc
namespace Go.Vc
open Go.RowKit
section
variable {P : Program} {T : Tab} {M : Perm} {w0 : World} {c : Ctx} {h : List Obj} {w : World}
theorem gZ {i : Int} {k : IntKind} {y : Nat} {b : BoundsCode} (h0 : 0 ≤ i) (f : i ≤ (y : Int)) : (Instr.sliceBound (.int k i) y b).run P w = .ok i.toNat w := by
 simp [Instr.sliceBound, asIntOf, h0, f]
inductive aTp (c : Ctx) (w : World) : Option AV → Option Value → Prop where
 | none : aTp c w none none
 | some {a : AV} {v : Value} (h : aW c w a v) : aTp c w (some a) (some v)
theorem aCo {o : Option AV} {v : Option Value} (hv : aTp c w o v) {i : Int} (hi : o.map aCS = some (some i)) : ∃ k, v = some (.int k i) := by
 cases hv with
 | none => cases hi
 | some hv =>
  simp at hi
  obtain ⟨k, rfl⟩ := aBm hv hi
  simp_all
theorem tO {o : Option AV} {v : Option Value} (hv : aTp c w o v) (hi : o.map aCS = none) : v = none := by
 cases hv with
 | none => rfl
 | some hv => grind
theorem aVd (s : ByteArray) (l n : Nat) : aV (s.extract l n) = ((aV s).take n).drop l := by
 obtain ⟨⟨x⟩⟩ := s
 simp only [aV, ByteArray.data_extract, List.extract_toArray, List.extract_eq_take_drop]
 simp [List.map_take, List.map_drop, List.drop_take]
theorem aKe {t : TypeId} (hd : P.underlying t = some .string) {s : ByteArray} (hs : s.size ≤ maxLen) {lo hi : Option Value} {l u : Nat}
  (hb : (Instr.sliceBounds false s.size s.size lo hi none).run P w = .ok (l, u, s.size) w) :
  (Instr.sliceAt t (.string s) lo hi none).run P w = .ok (.string (s.extract l u)) w ∧ aW c w (.val .str (((aV s).take u).drop l)) (.string (s.extract l u)) := by
 refine ⟨by simp [Instr.sliceAt, Instr.slice, bA hd, hb], ?_⟩
 rw [← aVd]
 refine bEl ?_
 have : (s.extract l u).size ≤ s.size := by simp; omega
 omega
theorem aGh {t e : TypeId} {f : Ty} (hd : P.underlying t = some (.slice e)) (J : aDU P T e f) {xs : List f.den} {a : Option Addr} {len cap : Nat} (hs : SlR w c.S (bB w c.S f) f.cells xs a len cap) {lo hi mx : Option Value} {l u m : Nat}
  (hb : (Instr.sliceBounds true len cap lo hi mx).run P w = .ok (l, u, m) w) (U : l ≤ u) (N : u ≤ len) (L : u ≤ m) (O : m ≤ cap) :
  ∃ r , (Instr.sliceAt t (.slice a len cap) lo hi mx).run P w = .ok (.slice r (u - l) (m - l)) w ∧ SlR w c.S (bB w c.S f) f.cells ((xs.take u).drop l) r (u - l) (m - l) := by
 refine ⟨if m = l then a else a.map (·.add (l * f.cells)), by simp [Instr.sliceAt, Instr.slice, bA hd, hb, fK J], ?_⟩
 obtain ⟨W, z, s, q⟩ := hs
 refine ⟨by grind, by omega, by omega, ?_⟩
 rcases q with q | ⟨b, off, rfl, g, hcell⟩
 ·simp_all
 ·by_cases j : m = l
  ·simp_all
  ·right
   refine ⟨b, off + l * f.cells, by simp [j, vP], g, fun i hi => ?_⟩
   have I : l + i < xs.length := by grind
   grind
theorem Good.frz (q : Good M w0 c h w) : Good M w0 c (h.map fL) w := by
 have r : ∀ i : Nat, (h.map fL)[i]? = (h[i]?).map fL := fun i => by simp
 have g : ∀ (i : Nat) (o : Obj), (h.map fL)[i]? = some o → o = .dead ∨ h[i]? = some o := fun i o f => by
  rw [r] at f
  cases hi : h[i]? with
  | none => simp_all
  | some N =>
   rw [hi] at f
   simp only [Option.map_some, Option.some.injEq] at f
   cases N <;> simp only [fL] at f <;> subst f <;> first | simp_all | simp_all
 refine ⟨by rw [q.n]; simp, q.keeps, q.sfin, q.src, fun i o f => ?_, fun i o b f hb => ?_, fun i j J L b hi I z s => ?_, q.root⟩
 ·rcases g i o f with rfl | f
  ·trivial
  ·exact q.objs i o f
 ·rcases g i o f with rfl | f
  ·simp [fI] at hb
  ·exact q.own i o b f hb
 ·rcases g i J hi with rfl | hi
  ·simp [fI] at z
  ·rcases g j L I with rfl | I
   ·simp [fI] at s
   ·exact q.sep i j J L b hi I z s
theorem aN6 (b : Nat) (hb : aFn c (h.map fL) b) : c.S b := by
 rcases hb with hb | ⟨i, g, f, hb⟩
 ·exact hb
 ·simp only [List.getElem?_map] at f
  cases hi : h[i]? with
  | none => simp_all
  | some o => rw [hi] at f; simp only [Option.map_some, Option.some.injEq] at f; subst f; cases o <;> simp [fL, fI] at hb
theorem aWN {av : AV} {v : Value} {t : Ty} {x : t.den} (hv : aW c w av v) (b : AV.as h t av = some x) : aM c w av v.cells.toList ∧ (av.isAgg = true → ∃ cs, v = .agg cs) ∧ (av.isAgg = false → ∀ cs, v ≠ .agg cs) := by
 cases av with
 | junk => grind [AV.as]
 | undef => grind [AV.as]
 | tup f => grind [AV.as]
 | _ => exact hv
theorem aKf (f : Good M w0 c h w) {av : AV} {v : Value} {t : Ty} {x : t.den} (hv : aW c w av v) (b : AV.as h t av = some x) : dE w (aFn c h) t x v := by
 obtain ⟨q, j, g⟩ := aWN hv b
 grind [bF4, dE.of_cells]
theorem yD (f : Good M w0 c h w) {av : AV} {v : Value} {t : Ty} {x : t.den} (hv : aW c w av v) (b : AV.as (h.map fL) t av = some x) : dE w c.S t x v :=
 (aKf f.frz hv b).keep aN6 (.refl _ _)
theorem bB2 (hT : lP P T) (hg : Good M w0 c h w) {t : TypeId} {x : AV} {v : Value} {lo hi mx : Option AV} {lv hv mv : Option Value} (hx : aW c w x v) (f : aTp c w lo lv) (g : aTp c w hi hv) (r : aTp c w mx mv) (hc : (aMq T h t x lo hi mx).1) :
  ∃ u, (Instr.sliceAt t v lv hv mv).run P w = .ok u w ∧ aW c w (aMq T h t x lo hi mx).2 u := by
 unfold aMq at hc ⊢
 cases ht : T t with
 | none => simp_all
 | some L =>
  cases L with
  | str =>
   simp only [ht] at hc ⊢
   have hd := aAS (hT _ _ ht)
   split at hc
   ·rename_i s
    cases r
    obtain ⟨s, rfl, rfl, hs⟩ := aPt hx
    have b := sP s
    split at hc
    ·rename_i e1 j
     obtain rfl := tO f e1
     obtain rfl := tO g j
     have := aKe (c := c) (w := w) hd hs (lo := none) (hi := none) (l := 0) (u := s.size) (by rfl)
     simp_all
    ·rename_i l e1 j
     obtain ⟨k, rfl⟩ := aCo f e1
     obtain rfl := tO g j
     rw [b] at hc
     have := aKe (c := c) (w := w) hd hs (lo := some (.int k l)) (hi := none) (l := l.toNat) (u := s.size) (by simp [Instr.sliceBounds, gZ hc.1 hc.2])
     grind
    ·rename_i u e1 j
     obtain rfl := tO f e1
     obtain ⟨k, rfl⟩ := aCo g j
     rw [b] at hc
     have := aKe (c := c) (w := w) hd hs (lo := none) (hi := some (.int k u)) (l := 0) (u := u.toNat) (by simp [Instr.sliceBounds, gZ hc.1 hc.2])
     simp_all
    ·rename_i l u e1 j
     obtain ⟨k, rfl⟩ := aCo f e1
     obtain ⟨W, rfl⟩ := aCo g j
     rw [b] at hc
     obtain ⟨h0, O, N⟩ := hc
     have := aKe (c := c) (w := w) hd hs (lo := some (.int k l)) (hi := some (.int W u)) (l := l.toNat) (u := u.toNat) (by simp [Instr.sliceBounds, gZ (P := P) (w := w) (show 0 ≤ u by omega) N, gZ (P := P) (w := w) (i := l) (y := u.toNat) h0 (by omega)])
     simp_all
    simp_all
   simp_all
  | sl L =>
   simp only [ht] at hc ⊢
   obtain ⟨e, hd, he, hpos⟩ := fZ (hT _ _ ht)
   have z := hT _ _ he
   cases hl : aYG h L x with
   | none => simp_all
   | some xs =>
    simp only [hl] at hc ⊢
    obtain ⟨a, len, q, rfl, hs⟩ := aEk (yD hg hx hl)
    have b := hs.1
    have Y := hs.2.1
    have mk : ∀ {ys : List L.den} {I : Option Addr} {n m : Nat}, SlR w c.S (bB w c.S L) L.cells ys I n m → aW c w (.val (.sl L) ys) (.slice I n m) := fun U => ⟨⟨_, _, _, rfl, U⟩, (fun h => by cases h), (fun _ cs => by simp)⟩
    have mkF : ∀ {ys : List L.den} {I : Option Addr} {n m : Nat}, SlR w c.S (bB w c.S L) L.cells ys I n m → m = n → aW c w (.full L ys) (.slice I n m) := fun U e => by subst e; exact ⟨⟨_, _, rfl, U⟩, (fun h => by cases h), (fun _ cs => by simp)⟩
    split at hc
    ·rename_i e1 j J
     obtain rfl := tO f e1
     obtain rfl := tO g j
     obtain rfl := tO r J
     obtain ⟨I, O, N⟩ := aGh (w := w) hd z hs (lo := none) (hi := none) (mx := none) (l := 0) (u := len) (m := q) (by rfl) (Nat.zero_le _) (Nat.le_refl _) Y (Nat.le_refl _)
     grind
    ·rename_i l e1 j J
     obtain ⟨k, rfl⟩ := aCo f e1
     obtain rfl := tO g j
     obtain rfl := tO r J
     rw [b] at hc
     obtain ⟨I, O, N⟩ := aGh (w := w) hd z hs (lo := some (.int k l)) (hi := none) (mx := none) (l := l.toNat) (u := len) (m := q) (by simp [Instr.sliceBounds, gZ hc.1 hc.2]) (by omega) (Nat.le_refl _) Y (Nat.le_refl _)
     grind
    ·rename_i u e1 j J
     obtain rfl := tO f e1
     obtain ⟨k, rfl⟩ := aCo g j
     obtain rfl := tO r J
     rw [b] at hc
     obtain ⟨I, O, N⟩ := aGh (w := w) hd z hs (lo := none) (hi := some (.int k u)) (mx := none) (l := 0) (u := u.toNat) (m := q) (by simp [Instr.sliceBounds, gZ (P := P) (w := w) (y := q) hc.1 (by omega)]) (by omega) (by omega) (by omega) (Nat.le_refl _)
     simp_all
    ·rename_i l u e1 j J
     obtain ⟨k, rfl⟩ := aCo f e1
     obtain ⟨W, rfl⟩ := aCo g j
     obtain rfl := tO r J
     rw [b] at hc
     obtain ⟨h0, O, N⟩ := hc
     obtain ⟨I, O, N⟩ := aGh (w := w) hd z hs (lo := some (.int k l)) (hi := some (.int W u)) (mx := none) (l := l.toNat) (u := u.toNat) (m := q) (by simp [Instr.sliceBounds, gZ (P := P) (w := w) (i := u) (y := q) (by omega) (by omega), gZ (P := P) (w := w) (i := l) (y := u.toNat) h0 (by omega)]) (by omega) (by omega) (by omega) (Nat.le_refl _)
     simp_all
    ·rename_i u m e1 j J
     obtain rfl := tO f e1
     obtain ⟨k, rfl⟩ := aCo g j
     obtain ⟨W, rfl⟩ := aCo r J
     rw [b] at hc
     obtain ⟨h0, O, rfl⟩ := hc
     obtain ⟨I, O, N⟩ := aGh (w := w) hd z hs (lo := none) (hi := some (.int k m)) (mx := some (.int W m)) (l := 0) (u := m.toNat) (m := m.toNat) (by simp [Instr.sliceBounds, gZ (P := P) (w := w) (i := m) (y := q) (by omega) (by omega), gZ (P := P) (w := w) (i := m) (y := m.toNat) h0 (by omega)]) (by omega) (by omega) (by omega) (by omega)
     grind
    ·rename_i l u m e1 j J
     obtain ⟨k, rfl⟩ := aCo f e1
     obtain ⟨W, rfl⟩ := aCo g j
     obtain ⟨Z, rfl⟩ := aCo r J
     rw [b] at hc
     obtain ⟨h0, O, N, rfl⟩ := hc
     obtain ⟨I, O, N⟩ := aGh (w := w) hd z hs (lo := some (.int k l)) (hi := some (.int W m)) (mx := some (.int Z m)) (l := l.toNat) (u := m.toNat) (m := m.toNat) (by simp [Instr.sliceBounds, gZ (P := P) (w := w) (i := m) (y := q) (by omega) (by omega), gZ (P := P) (w := w) (i := m) (y := m.toNat) (by omega) (by omega), gZ (P := P) (w := w) (i := l) (y := m.toNat) h0 (by omega)]) (by omega) (by omega) (by omega) (by omega)
     grind
    simp_all
  | _ => simp_all
end
end Go.Vc
namespace Go.Vc
open Go.RowKit
section
variable {P : Program} {T : Tab} {M : Perm} {w0 : World} {c : Ctx} {h : List Obj} {w : World}
theorem aG8 {w w' : World} {B : Nat} {e : TypeId} {sz : Nat} {v : Value} {n : Nat} {f : List Value} (hb : ∀ b, aX v = some b → w'.heap[b]? = w.heap[b]?) (h : w.ownsRow B e sz v n f) : w'.ownsRow B e sz v n f := by
 obtain ⟨J, s⟩ := h
 refine ⟨J, s.imp id ?_⟩
 rintro ⟨g, q, j, rfl, I, z, r⟩
 exact ⟨g, q, j, rfl, I, by rw [hb g rfl]; exact z, r⟩
theorem lH.keep {w w' : World} {S S' : Nat → Prop} (hs : ∀ b, S b → S' b) (h : aBi S w w') : ∀ (t : Ty) (m : Mk) (x : t.den) (cs : List Value) (B : List Nat), (∀ b ∈ B, w'.heap[b]? = w.heap[b]?) → lH w S t m x cs B → lH w' S' t m x cs B := by
 intro t
 have g : ∀ (t : Ty) (x : t.den) (cs : List Value) (B : List Nat), bB w S t x cs ∧ B = [] → bB w' S' t x cs ∧ B = [] := fun t x cs B ⟨s, q⟩ => ⟨bB.keep hs h t x cs s, q⟩
 induction t with
 | sl t ih =>
  intro m xs cs B j f
  cases m with
  | no => exact g _ _ _ _ f
  | sl e m =>
   obtain ⟨v, L, Z, s, q, z, I, O, h6⟩ := f
   subst O
   refine ⟨v, L, Z, s, aG8 (fun b hb => j b (by simp [hdB, hb])) q, z, I, rfl, fun i q1 Y q3 => ih m _ _ _ (fun b hb => j b ?_) (h6 i q1 Y q3)⟩
   grind [List.mem_append_right, List.mem_flatten, List.getElem_mem]
  | pair a b => exact f.elim
 | pair a r J N =>
  intro m x cs B j f
  cases m with
  | no => exact g _ _ _ _ f
  | sl e m => exact f.elim
  | pair ma mr =>
   obtain ⟨c1, W, B1, U, s, q, z, I⟩ := f
   subst q
   exact ⟨c1, W, B1, U, s, rfl, J _ _ _ _ (fun b hb => j b (List.mem_append_left _ hb)) z, N _ _ _ _ (fun b hb => j b (List.mem_append_right _ hb)) I⟩
 | _ =>
  intro m x cs B j f
  cases m <;> first | exact g _ _ _ _ f | exact f.elim
theorem aZE.keep {c c' : Ctx} {w w' : World} {i : Nat} {e : TypeId} {m : Mk} {t : Ty} {xs : List t.den} {k : Nat} {v : AV} {css : List (List Value)} {J : List (List Nat)} (s : dS c w c' w') (g : c'.hd i = c.hd i) (z : c'.bl i = c.bl i) (hb : ∀ b, c.bl i b → w'.heap[b]? = w.heap[b]?) (f : aZE c w i e m t xs k v css J) : aZE c' w' i e m t xs k v css J := by
 refine ⟨?_, f.lc, f.lb, f.kl, fun j h r L I => lH.keep s.le.S s.same _ _ _ _ _ (fun b q => hb b (f.bl b ?_)) (f.el j h r L I), f.hb, fun r => ⟨aM.keep s.le s.same _ _ (f.hv r).1, (f.hv r).2⟩, by rw [g]; exact f.nd, by rw [g, z]; exact f.bl⟩
 ·rw [g]; exact aG8 (fun b q => hb b (f.bl b (by simp [hdB, q]))) f.row
 grind [List.mem_append_right, List.mem_flatten, List.getElem_mem]
theorem aG0.keep {c c' : Ctx} {w w' : World} {i : Nat} {o : Obj} (f : dS c w c' w') (hi : i < c.n) (U : c'.bl i = c.bl i) (hb : ∀ b, fI c i o b → w'.heap[b]? = w.heap[b]?) (q : aG0 c w i o) : aG0 c' w' i o := by
 have g := f.le.hd i hi
 cases o with
 | dead => trivial
 | box n v =>
  obtain ⟨b, cells, e, L, I, z, N⟩ := q
  exact ⟨b, cells, e, by simp_all, by grind [fI, aX], z, aM.keep f.le f.same _ _ N⟩
 | row e t W =>
  obtain ⟨J, L, I⟩ := q
  refine ⟨J, ?_, bB.keep f.le.S f.same _ _ _ I⟩
  rw [g]
  exact aG8 (fun b r => hb b r) L
 | frz t W => simp only [aG0] at *; rw [g]; exact bB.keep f.le.S f.same _ _ _ q
 | map k v m =>
  obtain ⟨b, Z, clock, L, I, z, N⟩ := q
  exact ⟨b, Z, clock, by simp_all, by grind [fI, aX], z, fun j Y s => ⟨(N j Y s).1.keep f.le.S f.same, (N j Y s).2.keep f.le.S f.same⟩⟩
 | tre e m t W =>
  obtain ⟨B, L, I, z⟩ := q
  exact ⟨B, by rw [g]; exact lH.keep f.le.S f.same _ _ _ _ _ (fun b r => hb b (z b r)) L, I, by simp_all⟩
 | trh e m t W k v =>
  obtain ⟨O, Bs, q⟩ := q
  exact ⟨O, Bs, q.keep f g U hb⟩
theorem gK {c c' : Ctx} (g : c.le c') {i : Nat} (f : c'.bl i = c.bl i) (hi : i < c.n) (o : Obj) : fI c' i o = fI c i o := by
 funext b
 cases o <;> simp [fI, g.hd i hi, f]
theorem aAC {h : List Obj} {i : Nat} {o : Obj} (b : h[i]? = some o) : i < h.length := by
 grind
theorem Good.step (g : Good M w0 c h w) {c' : Ctx} {w' : World} (J : dS c w c' w') (U : c'.n = c.n) (q : c'.bl = c.bl) (W : jC M.wr w w') (hb : ∀ i o b, h[i]? = some o → fI c i o b → w'.heap[b]? = w.heap[b]?)
  (hs : ∀ b, c'.S b → b < w'.heap.size) (hd : ∀ b, c'.S b → c.S b ∨ w.heap.size ≤ b) : Good M w0 c' h w' := by
 have f : ∀ i o, h[i]? = some o → i < c.n := fun i o s => by rw [g.n]; grind
 refine ⟨by rw [U, g.n], g.keeps.trans W, hs, fun b hb f => (hd b hb).elim (fun hb => g.src b hb f) (fun hb => absurd hb (Nat.not_le_of_lt (Nat.lt_of_lt_of_le f g.keeps.size))), fun i o s => (g.objs i o s).keep J (f i o s) (congrFun q i) (fun b r => hb i o b s r), fun i o b s r => ?_, fun i j L N b hi O I z => ?_, aBj g.root J.le⟩
 ·rw [gK J.le (congrFun q _) (f i o s)] at r
  obtain ⟨h1, Z, Y⟩ := g.own i o b s r
  grind
 ·rw [gK J.le (congrFun q _) (f i L hi)] at I
  rw [gK J.le (congrFun q _) (f j N O)] at z
  exact g.sep i j L N b hi O I z
def Ctx.upto (c : Ctx) (lo hi : Nat) : Ctx := ⟨fun b => c.S b ∨ (lo ≤ b ∧ b < hi), c.hd, c.n, c.bl⟩
theorem Ctx.le_upto (c : Ctx) (lo hi : Nat) : c.le (c.upto lo hi) := ⟨fun b hb => .inl hb, Nat.le_refl _, fun _ _ => rfl⟩
theorem xE (j : Good M w0 c h w) {w' : World} (g : jC nothing w w') : dS c w (c.upto w.heap.size w'.heap.size) w' :=
 ⟨c.le_upto _ _, fun b hb => g.block b (j.sfin b hb) (fun f => f)⟩
theorem jC.any {w w' : World} (g : jC nothing w w') : jC M.wr w w' := ⟨g.os, g.tape, g.output, g.size, fun b hb _ => g.block b hb (fun f => f)⟩
theorem Good.call (j : Good M w0 c h w) {w' : World} (g : jC nothing w w') : Good M w0 (c.upto w.heap.size w'.heap.size) h w' :=
 j.step (xE j g) rfl rfl g.any (fun i o b q hb => g.block b (j.own i o b q hb).2.1 (fun f => f)) (fun b hb => hb.elim (fun hb => Nat.lt_of_lt_of_le (j.sfin b hb) g.size) (fun hb => hb.2)) (fun b hb => hb.imp id (fun hb => hb.1))
theorem jC.alloc (M : Nat → Prop) (w : World) (o : Go.Obj) : jC M w { w with heap := w.heap.push o } :=
 ⟨rfl, rfl, rfl, by simp, fun b hb _ => by grind⟩
structure aIY (P : Program) (M : Perm) (w0 : World) (h : List Obj) (c : Ctx) (w : World) (av : AV) (v : Value) (w' : World) (c' : Ctx) : Prop where
 later : dS c w c' w'
 n : c'.n = c.n ∧ c'.bl = c.bl
 good : Good M w0 c' h w'
 keeps : jC nothing w w'
 new : ∀ b, c'.S b → c.S b ∨ w.heap.size ≤ b
 val : aW c' w' av v
def Did (P : Program) (M : Perm) (w0 : World) (h : List Obj) (c : Ctx) (o : Oper) (a : Act) (w : World) (av : AV) : Prop :=
 (∃ v w' c', (execOp a.eval o).run P w = .ok (.value v) w' ∧ aIY P M w0 h c w av v w' c') ∨
 (∃ f args, (execOp a.eval o).run P w = .ok (.enter f args) w ∧ Calls P f args w fun e w' => ∃ v c', e = .returned v ∧ aIY P M w0 h c w av v w' c')
theorem Did.of_value (g : Good M w0 c h w) {o : Oper} {a : Act} {av : AV} {v : Value} (f : (execOp a.eval o).run P w = .ok (.value v) w) (hv : aW c w av v) : Did P M w0 h c o a w av :=
 .inl ⟨v, w, c, f, .refl _ _, ⟨rfl, rfl⟩, g, .refl _ _, fun b hb => .inl hb, hv⟩
theorem bB.scalar {w w' : World} {S S' : Nat → Prop} : ∀ (t : Ty) (x : t.den) (cs : List Value), t.scalar = true → bB w S t x cs → bB w' S' t x cs
 | .bool, _, _, _, f => f
 | .u _, _, _, _, f => f
 | .i _, _, _, _, f => f
 | .str, _, _, _, f => f
 | .sl t, _, _, hs, _ => by simp [Ty.scalar] at hs
 | .unit, _, _, _, f => f
 | .pair a b, _, _, hs, ⟨c1, s, hc, q, j⟩ => by
  simp only [Ty.scalar, Bool.and_eq_true] at hs
  exact ⟨c1, s, hc, bB.scalar a _ _ hs.1 q, bB.scalar b _ _ hs.2 j⟩
 | .arr _ t, _, _, hs, ⟨r, g, hc, z, f⟩ => ⟨r, g, hc, z, fun i q j => bB.scalar t _ _ (by simpa [Ty.scalar] using hs) (f i q j)⟩
 | .expr, _, _, hs, _ => by simp [Ty.scalar] at hs
 | .rp _, _, _, hs, _ => by simp [Ty.scalar] at hs
 | .clo _ _, _, _, hs, _ => by simp [Ty.scalar] at hs
theorem dE.scalar {w w' : World} {S S' : Nat → Prop} {t : Ty} {x : t.den} {v : Value} (hs : t.scalar = true) (b : dE w S t x v) : dE w' S' t x v := by
 unfold dE at *
 split
 ·rename_i f; simp only [f, if_true] at b; grind [bB.scalar]
 grind [bB.scalar]
theorem qI.scalar {w w' : World} {S S' : Nat → Prop} : ∀ (t : Ty) (x : t.den) (vs : List Value), t.scalar = true → qI w S t x vs → qI w' S' t x vs
 | .unit, _, _, _, b => b
 | .pair a r, x, vs, hs, ⟨v, f, e, j, g⟩ => by
  simp only [Ty.scalar, Bool.and_eq_true] at hs
  exact ⟨v, f, e, j.scalar hs.1, qI.scalar r _ _ hs.2 g⟩
 | .bool, _, _, _, b => b.elim
 | .u _, _, _, _, b => b.elim
 | .i _, _, _, _, b => b.elim
 | .str, _, _, _, b => b.elim
 | .sl _, _, _, _, b => b.elim
 | .arr _ _, _, _, _, b => b.elim
 | .expr, _, _, _, b => b.elim
 | .rp _, _, _, _, b => b.elim
 | .clo _ _, _, _, _, b => b.elim
theorem aVe (s : Good M w0 c h w) : ∀ (t : Ty) (vs : List AV) (xs : List Value) (x : t.den), aCn h t vs = some x → xs.length = vs.length → (∀ i (g : i < vs.length) (f : i < xs.length), aW c w vs[i] xs[i]) → qI w (aFn c h) t x xs := by
 intro t
 induction t with
 | unit =>
  intro vs xs x b j hv
  cases vs with
  | nil => exact List.eq_nil_of_length_eq_zero j
  | cons v vs => grind [aCn]
 | pair a r _ q =>
  intro vs xs x b j hv
  cases vs with
  | nil => grind [aCn]
  | cons v vs =>
   cases xs with
   | nil => grind
   | cons u xs =>
    simp only [aCn] at b
    split at b
    ·rename_i J z g f
     cases b
     refine ⟨u, xs, rfl, aKf s (hv 0 (by simp) (by simp)) g, q vs xs z f (by simp_all) (fun i hi I => ?_)⟩
     have := hv (i + 1) (by simp_all) (by simp_all)
     simp_all
    grind
 | _ => grind [aCn]
theorem aIZ (q : Good M w0 c h w) {t : Ty} {vs : List AV} {xs : List Value} {x : t.den} (s : aCn (h.map fL) t vs = some x) (z : xs.length = vs.length) (hv : ∀ i (g : i < vs.length) (f : i < xs.length), aW c w vs[i] xs[i]) : qI w c.S t x xs := by
 have := aVe q.frz t vs xs x s z hv
 have hmono : ∀ (t : Ty) (x : t.den) (xs : List Value), qI w (aFn c (h.map fL)) t x xs → qI w c.S t x xs := by
  intro t
  induction t with
  | unit => intro x xs h; exact h
  | pair a r _ j => intro x xs ⟨v, b, e, g, f⟩; exact ⟨v, b, e, g.keep aN6 (.refl _ _), j _ _ f⟩
  | _ => intro x xs h; exact h.elim
 simp_all
theorem aWO (f : Good M w0 c h w) (b : Nat) (hb : aFn c h b) : b < w.heap.size := by
 rcases hb with hb | ⟨i, o, g, hb⟩
 ·exact f.sfin b hb
 ·exact (f.own i _ b g hb).2.1
theorem sG.mono {G : Nat → AV} {S S' : Nat → Prop} {w w' : World} (hs : ∀ b, S b → S' b) (h : aBi S w w') (f : sG G S w) : sG G S' w' := fun g =>
 (f g).keep (c := ⟨S, fun _ => Go.undef, 0, fun _ _ => False⟩) (c' := ⟨S', fun _ => Go.undef, 0, fun _ _ => False⟩) ⟨hs, Nat.le_refl _, fun _ _ => rfl⟩ h
theorem aYI {S : Nat → Prop} {w : World} {c : Ctx} (s : c.S = S) : ∀ (t : Ty) (x : t.den) (vs : List Value), qI w S t x vs → vs.length = (aDF t x).length ∧ ∀ i (h : i < (aDF t x).length) (h' : i < vs.length), xD c w (aDF t x)[i] vs[i]
 | .unit, _, vs, b => by simp only [qI] at b; subst b; exact ⟨rfl, fun i h => by simp_all⟩
 | .pair a r, x, vs, ⟨v, f, e, z, g⟩ => by
  subst e
  obtain ⟨q, b⟩ := aYI s r x.2 f g
  refine ⟨by simp [aDF, q], fun i hi j => ?_⟩
  cases i with
  | zero => exact aW.ofV (by simp_all)
  | succ i => grind [aDF]
 | .bool, _, _, b => b.elim
 | .u _, _, _, b => b.elim
 | .i _, _, _, b => b.elim
 | .str, _, _, b => b.elim
 | .sl _, _, _, b => b.elim
 | .arr _ _, _, _, b => b.elim
 | .expr, _, _, b => b.elim
 | .rp _, _, _, b => b.elim
 | .clo _ _, _, _, b => b.elim
def FAt (G : Nat → AV) (sp : aG) (vs : Array Value) (w : World) (C : (Ending → World → Prop) → Prop) : Prop :=
 ∀ (S : Nat → Prop) (x : sp.args.den), (∀ b, S b → b < w.heap.size) → sG G S w → qI w S sp.args x vs.toList → sp.pre x →
  C fun e w' => ∃ v, e = .returned v ∧ jC nothing w w' ∧ bAU w' S w.heap.size sp.res (sp.fn x) v
def bF5 (P : Program) (f : FuncId) (vs : Array Value) (w : World) (R : Ending → World → Prop) : Prop :=
 ∃ v w', (callFunc f vs).run P w = .ok (.value v) w' ∧ R (.returned v) w'
def NOK (P : Program) (G : Nat → AV) (f : FuncId) (sp : aG) : Prop :=
 (∀ e t, sp.res ≠ .own e t) ∧ ∀ (w : World) (vs : Array Value), FAt G sp vs w (bF5 P f vs w)
theorem bEv {C : (Ending → World → Prop) → Prop} (hC : ∀ R R' : Ending → World → Prop, C R → (∀ e w', R e w' → R' e w') → C R') {G : Nat → AV} {Γ : FuncId → List AV → Option aG} {f : FuncId} {vs : List AV} {xs : Array Value} (N : ∀ sp, Γ f vs = some sp → FAt G sp xs w C) (r : Good M w0 c h w) (Z : sG G c.S w) (hl : xs.size = vs.length)
  (hv : ∀ i (J : i < vs.length) (I : i < xs.size), aW c w vs[i] xs[i]) (hc : (aG4 Γ h f vs).1) :
  C fun e w' => ∃ v c', e = .returned v ∧ aIY P M w0 h c w (aG4 Γ h f vs).2 v w' c' := by
 unfold aG4 at hc ⊢
 cases W : Γ f vs with
 | none => simp_all
 | some sp =>
  simp only [W] at hc ⊢
  have O : xs.toList.length = vs.length := by omega
  have L : ∀ i (J : i < vs.length) (I : i < xs.toList.length), aW c w vs[i] xs.toList[i] := fun i J I => by
   simp_all
  obtain ⟨q, res, pre, fn⟩ := sp
  have key : ∀ (x : q.den), aCn (if res.ty.scalar then h else h.map fL) q vs = some x → pre x → (∀ e t, res ≠ .own e t) → C fun e w' => ∃ v c', e = .returned v ∧ aIY P M w0 h c w (bBU res (fn x)) v w' c' := by
   intro x U hp hno
   by_cases j : res.ty.scalar = true
   ·rw [if_pos j] at U
    have hargs := aVe r _ _ _ _ U O L
    refine hC _ _ (N _ W (aFn c h) x (aWO r) (Z.mono (fun b hb => .inl hb) (.refl _ _)) hargs hp) ?_
    rintro e w' ⟨v, rfl, z, g⟩
    refine ⟨v, _, rfl, xE r z, ⟨rfl, rfl⟩, r.call z, z, fun b hb => hb.imp id And.left, ?_⟩
    cases res with
    | none => trivial
    | one t => exact aW.ofV (dE.scalar j g)
    | own e t => simp_all
    | tup t =>
     obtain ⟨Y, rfl, s⟩ := g
     have := qI.scalar (w' := w') (S' := (c.upto w.heap.size w'.heap.size).S) t _ _ j s
     obtain ⟨J, I⟩ := aYI (c := c.upto w.heap.size w'.heap.size) rfl t _ _ this
     exact ⟨Y, rfl, J, I⟩
   ·rw [if_neg j] at U
    have hargs := aIZ r U O L
    refine hC _ _ (N _ W c.S x r.sfin Z hargs hp) ?_
    rintro e w' ⟨v, rfl, z, g⟩
    refine ⟨v, _, rfl, xE r z, ⟨rfl, rfl⟩, r.call z, z, fun b hb => hb.imp id And.left, ?_⟩
    cases res with
    | none => trivial
    | one t => exact aW.ofV g
    | own e t => simp_all
    | tup t =>
     obtain ⟨Y, rfl, s⟩ := g
     obtain ⟨J, I⟩ := aYI (c := c.upto w.heap.size w'.heap.size) rfl t _ _ s
     exact ⟨Y, rfl, J, I⟩
  grind
end
end Go.Vc
namespace Go.Vc
open Go.RowKit
section
variable {P : Program} {T : Tab} {M : Perm} {w0 : World} {c : Ctx} {h : List Obj} {w : World}
theorem aWP (pre : List Value) : ∀ (b old post : List Value) (cells : Array Value) (j : Nat), cells.toList = pre ++ old ++ post → old.length = j + b.length →
  ((b.zipIdx j).foldl (fun q (p : Value × Nat) => q.setIfInBounds (pre.length + p.2) p.1) cells).toList = pre ++ (old.take j ++ b) ++ post
 | [], old, post, cells, j, hc, f => by
  simp only [List.zipIdx_nil, List.foldl_nil, List.append_nil]
  rw [hc, List.take_of_length_le (by simp at f; omega)]
 | v :: b, old, post, cells, j, hc, f => by
  simp only [List.zipIdx_cons, List.foldl_cons]
  simp only [List.length_cons] at f
  have g : (cells.setIfInBounds (pre.length + j) v).toList = pre ++ (old.set j v) ++ post := by
   simp_all
  have := aWP pre b (old.set j v) post _ (j + 1) g (by grind)
  grind [List.take_succ_eq_append_getElem, List.take_set_of_le]
theorem aN7 {pre old post : List Value} {cells : Array Value} (hc : cells.toList = pre ++ old ++ post) {v : Value} (hv : v.cells.size = old.length) :
  (v.cells.zipIdx.foldl (fun b (p : Value × Nat) => b.setIfInBounds (pre.length + p.2) p.1) cells).toList = pre ++ v.cells.toList ++ post := by
 have := aWP pre v.cells.toList old post cells 0 hc (by simp [hv])
 rw [← Array.foldl_toList, Array.toList_zipIdx]
 simpa using this
theorem bB3 : ∀ {L : List AV} {cs : List Value} {k : Nat} {ts : List Ty}, mE c w L cs → L.length = ts.length → (∀ i (h : i < L.length), (L[i]).solid1 = true) → (∀ i (h : i < L.length) (h' : i < ts.length), (L[i]).nc1 = ts[i].cells) → k < L.length →
  ∃ pre ds post, cs = pre ++ ds ++ post ∧ pre.length = ((ts.take k).map Ty.cells).foldr (· + ·) 0 ∧ ds.length = (ts.getD k .unit).cells ∧ ∀ (v : AV) (b : List Value), aM c w v b → mE c w (L.set k v) (pre ++ b ++ post)
 | [], _, _, _, _, _, _, _, N => by grind
 | v :: L, cs, k, ts, r, W, hs, q, N => by
  cases ts with
  | nil => grind
  | cons t ts =>
   simp only [mE] at r
   obtain ⟨c1, U, rfl, I, J⟩ := r
   have h0 := q 0 (by simp) (by simp)
   have z := hs 0 (by simp)
   simp only [List.getElem_cons_zero] at h0 z
   have j := aLn z I
   cases k with
   | zero => exact ⟨[], c1, U, by simp, rfl, by simp_all, fun s b f => by simp only [List.set_cons_zero, mE, List.nil_append]; grind⟩
   | succ k =>
    obtain ⟨pre, ds, post, e, hp, hd, g⟩ := bB3 (k := k) (ts := ts) J (by simp_all) (fun i hi => by have := hs (i + 1) (by simp_all); simp_all) (fun i hi O => by have := q (i + 1) (by simp_all) (by simp_all); simp_all) (by simp_all)
    refine ⟨c1 ++ pre, ds, post, by rw [e]; simp, by simp [j, h0, hp], by simpa using hd, fun s b f => ?_⟩
    simp only [List.set_cons_succ, mE]
    exact ⟨c1, pre ++ b ++ post, by simp, I, g s b f⟩
theorem aCT : ∀ {q : List Field} {off : Nat} {t : Ty} {k : Nat} {g : Ty}, dW T q off t = true → t.flds[k]? = some g → ∃ f, q[k]? = some f ∧ T f.type = some g ∧ f.offset = off + ((t.flds.take k).map Ty.cells).foldr (· + ·) 0
 | [], off, .unit, k, g, _, j => by grind [Ty.flds]
 | f :: q, off, .pair a r, 0, g, b, j => by
  simp only [dW, Bool.and_eq_true, decide_eq_true_eq] at b
  simp [Ty.flds] at j
  simp_all
 | f :: q, off, .pair a r, k + 1, g, b, j => by
  simp only [dW, Bool.and_eq_true, decide_eq_true_eq] at b
  simp only [Ty.flds, List.getElem?_cons_succ] at j
  obtain ⟨s, J, I, z⟩ := aCT b.2 j
  grind [Ty.flds]
 | [], _, .pair _ _, _, _, b, _ => by grind [dW]
 | _ :: _, _, .unit, _, _, b, _ => by grind [dW]
theorem aMr : ∀ {g : List Field} {off : Nat} {t : Ty}, dW T g off t = true → g.length = t.flds.length
 | [], _, .unit, _ => rfl
 | f :: g, off, .pair a r, b => by
  simp only [dW, Bool.and_eq_true] at b
  simp [Ty.flds, aMr b.2]
 | [], _, .pair _ _, b => by grind [dW]
 | _ :: _, _, .unit, b => by grind [dW]
theorem aUl : ∀ (t : Ty), t.okB = true → ∀ g off, dW T g off t = true → mE c w (aAB t) (cV t) ∧ (aAB t).length = t.flds.length ∧ (∀ i (h : i < (aAB t).length), ((aAB t)[i]).solid1 = true) ∧ (∀ i (h : i < (aAB t).length) (h' : i < t.flds.length), ((aAB t)[i]).nc1 = (t.flds[i]).cells)
 | .unit, _, _, _, _ => ⟨rfl, rfl, fun i h => by simp [aAB] at h, fun i h => by simp [aAB] at h⟩
 | .pair a r, j, f :: g, off, b => by
  simp only [Ty.okB, Bool.and_eq_true] at j
  simp only [dW, Bool.and_eq_true] at b
  obtain ⟨s, q, I, J⟩ := aUl r j.2 g _ b.2
  refine ⟨⟨cV a, cV r, rfl, gG w c.S a j.1, s⟩, by simp [aAB, Ty.flds, q], fun i hi => ?_, fun i hi z => ?_⟩
  ·cases i with
   | zero => rfl
   | succ i => grind [aAB]
  ·cases i with
   | zero => rfl
   | succ i => grind [aAB, Ty.flds]
 | .pair _ _, _, [], _, b => by grind [dW]
 | .bool, _, g, _, b => by grind [dW]
 | .u _, _, g, _, b => by grind [dW]
 | .i _, _, g, _, b => by grind [dW]
 | .str, _, g, _, b => by grind [dW]
 | .sl _, _, g, _, b => by grind [dW]
 | .arr _ _, _, g, _, b => by grind [dW]
 | .expr, _, g, _, b => by grind [dW]
 | .rp _, _, g, _, b => by grind [dW]
 | .clo _ _, _, g, _, b => by grind [dW]
 | .nilp, _, g, _, b => by grind [dW]
 | .nilf, _, g, _, b => by grind [dW]
inductive aDu (c : Ctx) (w : World) : List (Nat × AV) → List (Nat × Value) → Prop where
 | nil : aDu c w [] []
 | cons {k : Nat} {a : AV} {v : Value} {ps : List (Nat × AV)} {vs : List (Nat × Value)} (h : aW c w a v) (r : aDu c w ps vs) : aDu c w ((k, a) :: ps) ((k, v) :: vs)
theorem aMs {place : Nat → Option (Nat × Nat)} {ts : List Ty} (hp : ∀ k t, ts[k]? = some t → place k = some (((ts.take k).map Ty.cells).foldr (· + ·) 0, t.cells)) : ∀ (ps : List (Nat × AV)) (vs : List (Nat × Value)) (L : List AV) (cells : Array Value),
  aDu c w ps vs → aJ9 ts ps → mE c w L cells.toList → L.length = ts.length → (∀ i (h : i < L.length), (L[i]).solid1 = true) → (∀ i (h : i < L.length) (h' : i < ts.length), (L[i]).nc1 = ts[i].cells) →
  ∃ cells', Instr.fill place cells vs = some cells' ∧ mE c w (bAV L ps) cells'.toList
 | _, _, L, cells, .nil, _, q, _, _, _ => ⟨cells, rfl, q⟩
 | _, _, L, cells, .cons (k := k) (a := a) (v := v) (ps := ps) (vs := vs) hv r, b, q, N, hs, O => by
  obtain ⟨⟨j, t, z, J⟩, b⟩ := b
  have hkt : k < ts.length := get_lt' z
  obtain ⟨pre, ds, post, e, Y, I, f⟩ := bB3 (k := k) q N hs O (by omega)
  have s : ts.getD k .unit = t := by simp_all
  rw [s] at I
  have g : xD c w a v := by cases a <;> first | exact hv | grind [AV.solid1]
  have U := aLn j g.1
  have hsz : v.cells.size = t.cells := by simp_all
  have hstep := aN7 (v := v) e (by omega)
  have Z : cells.size = (pre ++ ds ++ post).length := by grind
  obtain ⟨cells', h1, W⟩ := aMs hp ps vs (L.set k a) _ r b (by rw [hstep]; exact f a _ g.1) (by simp_all) (fun i hi => by
    grind) (fun i hi hi' => by
    grind)
  refine ⟨cells', ?_, W⟩
  simp_all [Instr.fill, Ty.cells, if_neg]
where
 get_lt' {α : Type} {l : List α} {k : Nat} {x : α} (h : l[k]? = some x) : k < l.length := by
  grind
theorem aMt {t : Ty} {L : List AV} {cells : Array Value} (j : mE c w L cells.toList) : aW c w (aIW t L) (.agg cells) := by
 unfold aIW
 have hL : aW c w (.agg L) (.agg cells) := ⟨by grind [aM, Value.cells], fun _ => ⟨_, rfl⟩, fun h => by cases h⟩
 split
 ·rename_i x f
  have U : ∀ (t : Ty) (v : AV) (x : t.den) (cs : List Value), AV.as [] t v = some x → aM c w v cs → bB w c.S t x cs ∧ t.isAgg = v.isAgg := by
   intro t v x cs f j
   exact as_nil t v x cs f j
  obtain ⟨I, r⟩ := U _ _ _ _ f hL.1
  exact aW.ofV (dE.of_cells (fun _ => ⟨_, rfl⟩) (fun h => by rw [r] at h; cases h) I)
 omega
where
 as_nil (t : Ty) (v : AV) (x : t.den) (cs : List Value) (f : AV.as [] t v = some x) (j : aM c w v cs) : bB w c.S t x cs ∧ t.isAgg = v.isAgg := by
  have hval : ∀ (t q : Ty) (y : q.den) (x : t.den) (cs : List Value), AV.as [] t (.val q y) = some x → aM c w (.val q y) cs → bB w c.S t x cs ∧ t.isAgg = AV.isAgg (.val q y) := by
   intro t q y x cs f j
   have : ∃ e : q = t, x = e ▸ y := by
    have r : (if e : q = t then some (e ▸ y) else none) = some x := by grind [AV.as]
    grind
   obtain ⟨rfl, rfl⟩ := this
   exact ⟨j, rfl⟩
  have hflat : ∀ (t : Ty) (l : List AV) (x : t.den) (cs : List Value), aG3 t l = some x → mE c w l cs → bB w c.S t x cs := by
   intro t l x cs f j
   unfold aG3 at f
   split at f
   ·rename_i y hp
    cases f
    obtain ⟨c1, O, e, r1, J⟩ := aWG t l _ _ cs hp j
    simp only [mE] at J
    subst J
    rw [e, List.append_nil]; exact r1
   ·cases f
  induction t generalizing v cs with
  | pair a b N W =>
   cases v with
   | val q y => grind
   | agg z =>
    cases z with
    | nil => grind [AV.as]
    | cons v z =>
     simp only [aU8] at f
     split at f
     ·rename_i xa xb I r
      cases f
      simp only [aM, mE] at j
      obtain ⟨c1, O, e, r1, J⟩ := j
      exact ⟨⟨c1, O, e, (N v xa c1 I r1).1, (W (.agg z) xb O r (by grind [aM])).1⟩, rfl⟩
     grind
   | flat l => simp only [aU9] at f; exact ⟨hflat _ _ _ _ f (by grind [aM]), rfl⟩
   | _ => grind [AV.as]
  | sl t Y =>
   cases v with
   | val q y => grind
   | nilS => simp at f; subst f; simp only [aM] at j; exact ⟨⟨none, 0, 0, j, rfl, Nat.le_refl _, Nat.zero_le _, .inl rfl⟩, rfl⟩
   | full q xs =>
    have r : (if e : q = t then some (e ▸ xs) else none) = some x := by grind [AV.as]
    split at r
    ·rename_i e
     subst e
     cases r
     simp only [aM] at j
     obtain ⟨p, n, e, Z⟩ := j
     exact ⟨⟨p, n, n, e, Z⟩, rfl⟩
    grind
   | own i => simp [rowOf] at f
   | _ => grind [AV.as]
  | unit =>
   cases v with
   | val q y => grind
   | agg z => cases z with
    | nil => simp only [aM, mE] at j; exact ⟨j, rfl⟩
    | cons v z => grind [AV.as]
   | flat l => simp only [aRs] at f; exact ⟨hflat _ _ _ _ f (by grind [aM]), rfl⟩
   | _ => grind [AV.as]
  | rp t Y =>
   cases v with
   | val q y => grind
   | roa q y =>
    have r : (if e : q = t then some (e ▸ y) else none) = some x := by grind [AV.as]
    split at r
    ·rename_i e
     subst e
     cases r
     simp only [aM] at j
     exact ⟨j, rfl⟩
    grind
   | ptr i p =>
    cases p with
    | nil => simp at f
    | cons s p => grind [AV.as]
   | _ => grind [AV.as]
  | clo g t Y =>
   cases v with
   | val q y => grind
   | fn g' l1 l2 =>
    cases l1 with
    | nil =>
     have r : g' = g ∧ AV.as [] t (.agg (l2.map fun i => .ptr i [])) = some x := by grind [AV.as]
     obtain ⟨rfl, f⟩ := r
     simp only [aM] at j
     obtain ⟨_, r, e⟩ := j
     cases l2 with
     | nil =>
      have := Y (.agg []) x [] f rfl
      exact ⟨⟨[], by simp_all, this.1⟩, rfl⟩
     | cons i l2 =>
      exfalso
      have hp : ∀ a : Ty, AV.as [] a (.ptr i []) = none := fun a => by cases a <;> simp [AV.as]
      cases t <;> first | grind [AV.as] | (simp [hp] at f; done) | (match l2, f with
       | [], f => simp [AV.as] at f
       | [_], f => simp [AV.as] at f
       | [_, _], f => simp [AV.as, asX, bBR] at f
       | _ :: _ :: _ :: _, f => simp [AV.as] at f)
    | cons i l1 => grind [AV.as]
   | _ => grind [AV.as]
  | expr =>
   cases v with
   | val q y => grind
   | agg z =>
    match z, f, j with
    | [a, b, v], f, j =>
     simp only [aVa] at f
     exact ⟨aZM (fun _ h => h) (fun i xs cs I _ => by grind [rowOf]) f (by grind [aM]), rfl⟩
    | [], f, _ => grind [AV.as]
    | [_], f, _ => grind [AV.as]
    | [_, _], f, _ => grind [AV.as]
    | _ :: _ :: _ :: _ :: _, f, _ => grind [AV.as]
   | _ => grind [AV.as]
  | _ =>
   cases v with
   | val q y => grind
   | _ => grind [AV.as]
theorem aUm {av : AV} {v : Value} {t : Ty} {x : t.den} (hv : aW c w av v) (b : AV.as [] t av = some x) : dE w c.S t x v := by
 obtain ⟨j, f, g⟩ := aWN hv b
 grind [aMt.as_nil, dE.of_cells]
theorem aRA {f : Ty} {n : Nat} {place : Nat → Option (Nat × Nat)} (hp : ∀ k, place k = some (k * f.cells, f.cells)) : ∀ (ps : List (Nat × AV)) (vs : List (Nat × Value)) (xs : List f.den) (cells : Array Value) (ys : List f.den),
  aDu c w ps vs → aVb f xs ps = some ys → bB w c.S (.arr n f) xs cells.toList → ∃ cells', Instr.fill place cells vs = some cells' ∧ bB w c.S (.arr n f) ys cells'.toList
 | _, _, xs, cells, ys, .nil, s, I => by simp [aVb] at s; subst s; exact ⟨cells, rfl, I⟩
 | _, _, xs, cells, ys, .cons (k := k) (a := a) (v := v) (ps := ps) (vs := vs) hv r, s, I => by
  simp only [aVb] at s
  split at s
  ·rename_i x W
   split at s
   ·rename_i hk
    obtain ⟨hn, b, e, hl, g⟩ := I
    obtain ⟨pre, post, L, hpl⟩ := pB (t := f) (css := b) (fun j hj => bB.length _ _ _ (g j (by omega) hj)) k (by omega)
    have J := (aUm hv W).cells
    have Y := bB.length _ _ _ J
    have hcl := bB.length _ _ _ (g k hk (by omega))
    have hsz : v.cells.size = f.cells := by omega
    have hstep := aN7 (v := v) (e.trans L) (by omega)
    have z : bB w c.S (.arr n f) (xs.set k x) (pre ++ v.cells.toList ++ post) := by
     refine ⟨by simp_all, b.set k v.cells.toList, ?_, by simp_all, fun i h1 O => ?_⟩
     ·have hsp : b = b.take k ++ [b[k]] ++ b.drop (k + 1) := by simp
      have q : pre = (b.take k).flatten ∧ post = (b.drop (k + 1)).flatten := by
       have N : ((b.take k).flatten).length = k * f.cells := by
        rw [mD (n := f.cells) (fun i hi => ?_)]
        ·rw [List.length_take, Nat.min_eq_left (by omega)]
        ·simp at hi; simp only [List.getElem_take]; exact bB.length _ _ _ (g i (by omega) (by omega))
       have U : b.flatten = (b.take k).flatten ++ b[k] ++ (b.drop (k + 1)).flatten := by
        grind
       rw [U, List.append_assoc, List.append_assoc] at L
       obtain ⟨q1, Z⟩ := List.append_inj L (by omega)
       obtain ⟨q3, q4⟩ := List.append_inj Z rfl
       grind
      rw [q.1, q.2, List.set_eq_take_append_cons_drop, if_pos (by omega)]
      simp
     grind
    obtain ⟨cells', h1, O⟩ := aRA hp ps vs (xs.set k x) _ ys r s (by rw [hstep]; exact z)
    refine ⟨cells', ?_, O⟩
    rw [Instr.fill, hp k]
    have hcs : cells.size = (pre ++ b[k] ++ post).length := by grind
    simp_all
   grind
  grind
end
end Go.Vc
namespace Go.Vc
open Go.RowKit
section
variable {P : Program} {T : Tab} {M : Perm} {w0 : World} {c : Ctx} {h : List Obj} {w : World}
theorem bAZ : ∀ (t : Ty), t.okB = true → ∀ j off, dW T j off t = true → mE c w (mA t) (cV t) ∧ (mA t).length = t.flds.length ∧ (∀ i (h : i < (mA t).length), ((mA t)[i]).solid1 = true) ∧ (∀ i (h : i < (mA t).length) (h' : i < t.flds.length), ((mA t)[i]).nc1 = (t.flds[i]).cells) := by
 intro t
 induction t with
 | unit => intro _ _ _ _; exact ⟨rfl, rfl, fun i h => by simp [mA] at h, fun i h => by simp [mA] at h⟩
 | pair a r _ s =>
  intro g j off q
  cases j with
  | nil => grind [dW]
  | cons f j =>
   simp only [Ty.okB, Bool.and_eq_true] at g
   simp only [dW, Bool.and_eq_true] at q
   obtain ⟨I, z, O, U⟩ := s g.2 j _ q.2
   have b : ∀ u : AV, mA (.pair a r) = u :: mA r → u.solid1 = true → u.nc1 = a.cells → aM c w u (cV a) → mE c w (mA (.pair a r)) (cV (.pair a r)) ∧ (mA (.pair a r)).length = (Ty.pair a r).flds.length ∧ (∀ i (h : i < (mA (.pair a r)).length), ((mA (.pair a r))[i]).solid1 = true) ∧ (∀ i (h : i < (mA (.pair a r)).length) (h' : i < (Ty.pair a r).flds.length), ((mA (.pair a r))[i]).nc1 = ((Ty.pair a r).flds[i]).cells) := fun u e N W J => by
    rw [e]
    refine ⟨⟨cV a, cV r, rfl, J, I⟩, by simp [Ty.flds, z], fun i hi => ?_, fun i hi L => ?_⟩
    all_goals grind [Ty.flds]
   cases a with
   | sl a => exact b .nilS rfl rfl rfl rfl
   | _ => exact b (.val _ (Ty.zero _)) rfl rfl rfl (gG w c.S _ g.1)
 | _ => grind [dW]
theorem bA0 (Z : lP P T) {t : TypeId} {ps : List (Nat × AV)} {vs : List (Nat × Value)} (hp : aDu c w ps vs) (hc : (aN4 T t ps).1) :
  ∃ u, (Instr.build t vs.toArray).run P w = .ok u w ∧ aW c w (aN4 T t ps).2 u := by
 unfold aN4 at hc ⊢
 cases ht : T t with
 | none => simp_all
 | some ct =>
  have j := Z _ _ ht
  obtain ⟨d, hd, hb⟩ := j.desc
  cases ct with
  | pair a r =>
   simp only [ht] at hc ⊢
   obtain ⟨s, U⟩ := hc
   have hz := tL j s w
   cases d <;> simp only [iV, Bool.false_eq_true] at hb
   rename_i J
   obtain ⟨h1, h2, h3, h4⟩ := bAZ (c := c) (w := w) (T := T) (.pair a r) s J.toList 0 hb
   have hzc : (nN (.pair a r)).cells.toList = cV (.pair a r) := by rfl
   have hplaces : ∃ places : Array (Nat × Nat), (J.mapM (fun f => do pure (f.offset, ← sizeOf f.type)) : Sem _).run P w = .ok places w ∧ ∀ k t, (Ty.pair a r).flds[k]? = some t → places[k]? = some ((((Ty.pair a r).flds.take k).map Ty.cells).foldr (· + ·) 0, t.cells) := by
    have g := aMr hb
    refine ⟨(J.toList.zipWith (fun f t => (f.offset, t.cells)) (Ty.pair a r).flds).toArray, ?_, fun k t Y => ?_⟩
    ·have L : ∀ (l : List Field) (ts : List Ty) (q : Array (Nat × Nat)), l.length = ts.length → (∀ i (h : i < l.length) (h' : i < ts.length), T (l[i]).type = some ts[i]) →
       ((l.mapM (fun f => do pure (f.offset, ← sizeOf f.type)) : Sem (List (Nat × Nat)))).run P w = .ok (l.zipWith (fun f t => (f.offset, t.cells)) ts) w := by
      intro l
      induction l with
      | nil => simp_all
      | cons f l ih =>
       intro ts q hl b
       cases ts with
       | nil => grind
       | cons t ts =>
        have I := b 0 (by simp) (by simp)
        simp only [List.getElem_cons_zero] at I
        have hsz := fK (Z _ _ I) w
        have := ih ts q (by simp_all) (fun i hi z => by have := b (i + 1) (by simp_all) (by simp_all); simp_all)
        simp_all
     rw [Array.mapM_eq_mapM_toList]
     have := L J.toList (Ty.pair a r).flds #[] g (fun i hi z => by
      obtain ⟨f, W, q2, q3⟩ := aCT (k := i) hb (List.getElem?_eq_getElem z)
      simp_all)
     simp_all
    ·obtain ⟨f, W, q2, q3⟩ := aCT hb Y
     simp only [List.getElem?_toArray, List.getElem?_zipWith, Y, W]
     simp [q3]
   obtain ⟨places, O, N⟩ := hplaces
   obtain ⟨cells', hf, hr⟩ := aMs (c := c) (w := w) (place := (places[·]?)) N ps vs (mA (.pair a r)) (nN (.pair a r)).cells hp U (by simp_all) h2 h3 h4
   refine ⟨.agg cells', ?_, hr, fun _ => ⟨_, rfl⟩, fun h => by cases h⟩
   simp only [Instr.build, Sem.run_bind, hz, Result.andThen_ok, bA hd, O, hf, Sem.run_pure]
  | _ => simp_all
theorem bB4 (I : lP P T) {t : TypeId} {ps : List (Nat × AV)} {vs : List (Nat × Value)} (hp : aDu c w ps vs) (hc : (aKa T t ps).1) :
  ∃ u, (Instr.build t vs.toArray).run P w = .ok u w ∧ aW c w (aKa T t ps).2 u := by
 unfold aKa at hc ⊢
 cases ht : T t with
 | none => simp_all
 | some g =>
  have b := I _ _ ht
  obtain ⟨d, hd, hb⟩ := b.desc
  cases g with
  | pair a r =>
   simp only [ht] at hc ⊢
   obtain ⟨Z, hpo⟩ := hc
   have z := tL b Z w
   cases d <;> simp only [iV, Bool.false_eq_true] at hb
   rename_i j
   obtain ⟨h1, h2, h3, h4⟩ := aUl (c := c) (w := w) (T := T) (.pair a r) Z j.toList 0 hb
   have N : (nN (.pair a r)).cells.toList = cV (.pair a r) := by rfl
   have hplaces : ∃ places : Array (Nat × Nat), (j.mapM (fun f => do pure (f.offset, ← sizeOf f.type)) : Sem _).run P w = .ok places w ∧ ∀ k t, (Ty.pair a r).flds[k]? = some t → places[k]? = some ((((Ty.pair a r).flds.take k).map Ty.cells).foldr (· + ·) 0, t.cells) := by
    have O := aMr hb
    refine ⟨(j.toList.zipWith (fun f t => (f.offset, t.cells)) (Ty.pair a r).flds).toArray, ?_, fun k t s => ?_⟩
    ·have key : ∀ (l : List Field) (ts : List Ty) (Y : Array (Nat × Nat)), l.length = ts.length → (∀ i (h : i < l.length) (h' : i < ts.length), T (l[i]).type = some ts[i]) →
       ((l.mapM (fun f => do pure (f.offset, ← sizeOf f.type)) : Sem (List (Nat × Nat)))).run P w = .ok (l.zipWith (fun f t => (f.offset, t.cells)) ts) w := by
      intro l
      induction l with
      | nil => simp_all
      | cons f l ih =>
       intro ts Y hl J
       cases ts with
       | nil => grind
       | cons t ts =>
        have ht0 := J 0 (by simp) (by simp)
        simp only [List.getElem_cons_zero] at ht0
        have hsz := fK (I _ _ ht0) w
        have := ih ts Y (by simp_all) (fun i hi hi' => by have := J (i + 1) (by simp_all) (by simp_all); simp_all)
        simp_all
     rw [Array.mapM_eq_mapM_toList]
     have := key j.toList (Ty.pair a r).flds #[] O (fun i hi hi' => by
      obtain ⟨f, q1, q2, q3⟩ := aCT (k := i) hb (List.getElem?_eq_getElem hi')
      simp_all)
     simp_all
    ·obtain ⟨f, q1, q2, q3⟩ := aCT hb s
     simp only [List.getElem?_toArray, List.getElem?_zipWith, s, q1]
     simp [q3]
   obtain ⟨places, q, hpp⟩ := hplaces
   obtain ⟨cells', W, U⟩ := aMs (c := c) (w := w) (place := (places[·]?)) hpp ps vs (aAB (.pair a r)) (nN (.pair a r)).cells hp hpo (by simp_all) h2 h3 h4
   refine ⟨.agg cells', ?_, aMt U⟩
   simp only [Instr.build, Sem.run_bind, z, Result.andThen_ok, bA hd, q, W, Sem.run_pure]
  | unit =>
   simp only [ht] at hc ⊢
   subst hc
   cases hp
   have z := tL b rfl w
   cases d <;> simp only [iV, Bool.false_eq_true] at hb
   rename_i j
   have L : j = #[] := by
    have := aMr hb
    grind [Ty.flds]
   subst L
   refine ⟨.agg #[], ?_, ⟨rfl, fun _ => ⟨_, rfl⟩, fun h => by cases h⟩⟩
   simp [Instr.build, z, bA hd, Result.andThen, Instr.fill, nN, Ty.isAgg, cV, Value.cells]
  | expr =>
   simp only [ht] at hc ⊢
   have z := tL b rfl w
   cases d <;> simp only [iV, Bool.false_eq_true] at hb
   rename_i j
   unfold aZJ at hb
   split at hb
   ·rename_i f0 f1 f2 L
    simp only [Bool.and_eq_true, decide_eq_true_eq] at hb
    obtain ⟨⟨⟨⟨⟨b1, b2⟩, b3⟩, b4⟩, b5⟩, b6⟩ := hb
    have efs : j = #[f0, f1, f2] := by grind
    have s0 := fK (I _ _ b1) w
    have s1 := fK (I _ _ b3) w
    have s2 := fK (I _ _ b5) w
    have q : (j.mapM (fun f => do pure (f.offset, ← sizeOf f.type)) : Sem _).run P w = .ok #[(0, 1), (1, 1), (2, 1)] w := by
     rw [efs, Array.mapM_eq_mapM_toList]
     show (([f0, f1, f2].mapM (fun f => do pure (f.offset, ← sizeOf f.type)) : Sem (List (Nat × Nat))) >>= fun l => pure l.toArray).run P w = _
     simp only [List.mapM_cons, List.mapM_nil, Sem.run_bind, s0, s1, s2, Result.andThen_ok, Sem.run_pure, b2, b4, b6]
     rfl
    have N : (nN .expr).cells.toList = [.int .i64 0, .string ⟨#[]⟩, .slice none 0 0] := rfl
    obtain ⟨cells', W, U⟩ := aMs (c := c) (w := w) (place := ((#[(0, 1), (1, 1), (2, 1)] : Array (Nat × Nat))[·]?)) (ts := [.i .i64, .str, .sl .expr]) (fun k t s => by
     match k, s with
     | 0, s => simp_all
     | 1, s => simp_all
     | 2, s => simp_all) ps vs [.val (.i .i64) 0, .val .str [], .nilS] (nN .expr).cells hp hc (by
      rw [N]
      exact ⟨[_], [_, _], rfl, ⟨rfl, rfl, by decide, by decide⟩, [_], [_], rfl, ⟨⟨#[]⟩, rfl, rfl, Nat.zero_le _⟩, [_], [], rfl, rfl, rfl⟩) rfl (fun i hi => by
      match i, hi with
      | 0, _ => rfl
      | 1, _ => rfl
      | 2, _ => rfl) (fun i hi _ => by
      match i, hi with
      | 0, _ => rfl
      | 1, _ => rfl
      | 2, _ => rfl)
    refine ⟨.agg cells', ?_, aMt U⟩
    simp only [Instr.build, Sem.run_bind, z, Result.andThen_ok, bA hd, q, W, Sem.run_pure]
   grind
  | arr n g =>
   simp only [ht] at hc ⊢
   cases hs : aVb g (List.replicate n g.zero) ps with
   | none => simp_all
   | some ys =>
    simp only [hs] at hc ⊢
    obtain ⟨e, hd', he, hpos, _⟩ := aEl b
    have z := tL b hc w
    obtain ⟨cells', W, U⟩ := aRA (c := c) (w := w) (n := n) (place := fun i => some (i * g.cells, g.cells)) (fun _ => rfl) ps vs (List.replicate n g.zero) (nN (.arr n g)).cells ys hp hs (by
     have := gG w c.S (.arr n g) hc
     have e1 : (nN (.arr n g)).cells.toList = cV (.arr n g) := by rfl
     rw [e1]; exact this)
    refine ⟨.agg cells', ?_, ⟨U, fun _ => ⟨_, rfl⟩, fun h => by cases h⟩⟩
    simp [Instr.build, z, bA hd', fK (I _ _ he), Result.andThen, W]
  | _ => simp_all
theorem aAq (b : List Value) (n : Nat) (g : 0 < b.length) : ((Array.range (n * b.length)).map (fun i => (b.toArray)[i % b.toArray.size]!)).toList = (List.replicate n b).flatten := by
 simp only [Array.toList_map, Array.toList_range, List.size_toArray]
 induction n with
 | zero => simp
 | succ n f =>
  rw [Nat.add_mul, Nat.one_mul, List.range_add, List.map_append, f, List.replicate_succ']
  simp only [List.flatten_append, List.flatten_cons, List.flatten_nil, List.append_nil]
  congr 1
  apply List.ext_getElem
  all_goals simp_all [List.length_map, List.length_range, Nat.mod_eq_of_lt, Nat.add_comm]
theorem Good.alloc (f : Good M w0 c h w) (o : Go.Obj) : Good M w0 (c.upto w.heap.size (w.heap.size + 1)) h (w.alloc o) ∧ dS c w (c.upto w.heap.size (w.heap.size + 1)) (w.alloc o) := by
 have b : jC nothing w (w.alloc o) := jC.alloc nothing w o
 have j := f.call b
 have g := xE f b
 simp_all
theorem aTq (hT : lP P T) (hg : Good M w0 c h w) {t : TypeId} {n : Nat} {ps : List (Nat × AV)} {vs : List (Nat × Value)} (hp : aDu c w ps vs) (hc : (aBl T t n ps).1) :
  ∃ u w' c', (Instr.buildSlice t n vs.toArray).run P w = .ok u w' ∧ aIY P M w0 h c w (aBl T t n ps).2 u w' c' := by
 unfold aBl at hc ⊢
 cases ht : T t with
 | none => simp_all
 | some f =>
  cases f with
  | sl f =>
   simp only [ht] at hc ⊢
   cases hs : aVb f (List.replicate n f.zero) ps with
   | none => simp_all
   | some ys =>
    simp only [hs] at hc ⊢
    obtain ⟨g, hn1, L⟩ := hc
    obtain ⟨e, hd, he, hpos⟩ := fZ (hT _ _ ht)
    have r := hT _ _ he
    have hz := tL r g w
    have hzc : (nN f).cells.toList = cV f := by
     have := (aIS w c.S f g).cells
     unfold nN
     split
     ·rfl
     ·have h1 : (cV f).length = 1 := by
       rw [bB.length _ _ _ (gG w c.S f g)]
       rename_i ha
       cases f <;> simp_all [Ty.isAgg, Ty.cells]
      match hzz : cV f, h1 with
      | [v], _ =>
       have I := bB.one f _ _ (gG w c.S f g) v (by simp_all)
       simp only [List.headD_cons]
       cases v <;> first | rfl | exact I.elim
    have hzl : (cV f).length = f.cells := bB.length _ _ _ (gG w c.S f g)
    have hza : (nN f).cells = (cV f).toArray := by grind
    have hcells : ((Array.range (n * f.cells)).map (fun i => (cV f).toArray[i % (cV f).toArray.size]!)).toList = (List.replicate n (cV f)).flatten := by
     grind [aAq]
    obtain ⟨cells', J, hr⟩ := aRA (c := c) (w := w) (n := n) (place := fun i => some (i * f.cells, f.cells)) (fun _ => rfl) ps vs (List.replicate n f.zero) ((Array.range (n * f.cells)).map (fun i => (cV f).toArray[i % (cV f).toArray.size]!)) ys hp hs (by
     rw [hcells]
     exact gG w c.S (.arr n f) g)
    obtain ⟨g1, W⟩ := hg.alloc (.cells cells' e (0, 0))
    refine ⟨.slice (some ⟨w.heap.size, 0, none⟩) n n, w.alloc (.cells cells' e (0, 0)), _, ?_, W, ⟨rfl, rfl⟩, g1, jC.alloc nothing w _, fun b hb => hb.imp id And.left, ?_⟩
    ·have s : ¬ (n * f.cells > 2 ^ 24) := by omega
     by_cases h0 : n * f.cells = 0
     ·have N : n = 0 := by
       grind [Nat.mul_eq_zero]
      subst N
      have e0 : (Array.range (0 * f.cells)).map (fun i => (cV f).toArray[i % (cV f).toArray.size]!) = #[] := by simp
      rw [e0] at J
      have s : ¬ (0 * f.cells > 2 ^ 24) := by omega
      have e1 : (Array.range (0 * f.cells)).map (fun x => (#[] : Array Value)[x % (#[] : Array Value).size]!) = #[] := by simp
      simp only [Instr.buildSlice, Sem.run_bind, bA hd, Result.andThen_ok, fK r, s, if_false, Nat.zero_mul, if_true, Sem.run_ite, Sem.run_pure]
      simp only [Nat.zero_mul] at e1
      rw [e1, J]
      rfl
     ·rw [← hza] at J
      simp only [Instr.buildSlice, Sem.run_bind, bA hd, Result.andThen_ok, fK r, s, if_false, h0, hz, Sem.run_ite, Sem.run_pure, J]
      rfl
    ·obtain ⟨Y, z, U, hl, q⟩ := hr
     refine ⟨⟨some ⟨w.heap.size, 0, none⟩, n, rfl, Y, Nat.le_refl _, L, .inr ⟨w.heap.size, 0, rfl, .inr ⟨Nat.le_refl _, Nat.lt_succ_self _⟩, fun i hi => ?_⟩⟩, (fun h => by cases h), (fun _ cs => by simp)⟩
     refine ⟨z[i], bB.keep W.le.S W.same _ _ _ (q i hi (by omega)), ?_⟩
     obtain ⟨pre, post, Z, O⟩ := pB (t := f) (css := z) (fun j hj => bB.length _ _ _ (q j (by omega) hj)) i (by omega)
     rw [Nat.zero_add, ← O]
     refine wB (cells := cells') (e := e) (fz := (0, 0)) ?_ (U.trans Z)
     show (w.heap.push _)[w.heap.size]? = _
     simp_all
  | _ => simp_all
theorem aN8 {mx : Bool} {x y : AV} {v u : Value} (hv : aW c w x v) (j : aW c w y u) (hc : (mm2 mx x y).1) :
  ∃ r, ((if mx then Builtin.max2 v u else Builtin.min2 v u)).run P w = .ok r w ∧ aW c w (mm2 mx x y).2 r := by
 cases x with
 | val q a =>
  cases q with
  | i k =>
   cases y with
   | val g b =>
    cases g with
    | i z =>
     obtain ⟨rfl, I, s⟩ := aIR hv
     obtain ⟨rfl, f, hb⟩ := aIR j
     simp only [mm2] at hc ⊢
     split at hc
     ·rename_i e
      subst e
      simp only [if_true]
      cases mx
      ·refine ⟨_, by simp only [Builtin.min2]; rfl, ?_⟩
       grind
      ·refine ⟨_, by simp only [Builtin.max2]; rfl, ?_⟩
       grind
     simp_all
    | _ => exact hc.elim
   | _ => exact hc.elim
  | u k =>
   cases y with
   | val g b =>
    cases g with
    | u z =>
     obtain ⟨rfl, I, s⟩ := aKG hv
     obtain ⟨rfl, f, hb⟩ := aKG j
     simp only [mm2] at hc ⊢
     split at hc
     ·rename_i e
      subst e
      simp only [if_true]
      cases mx
      ·refine ⟨_, by simp only [Builtin.min2]; rfl, ?_⟩
       grind
      ·refine ⟨_, by simp only [Builtin.max2]; rfl, ?_⟩
       grind
     simp_all
    | _ => exact hc.elim
   | _ => exact hc.elim
  | _ => exact hc.elim
 | _ => exact hc.elim
where
 minI (a b : Int) : (if b < a then b else a) = min a b := by omega
 maxI (a b : Int) : (if b > a then b else a) = max a b := by omega
 minI_or (a b : Int) : min a b = a ∨ min a b = b := by omega
 maxI_or (a b : Int) : max a b = a ∨ max a b = b := by omega
 minN (a b : Nat) : (if (b : Int) < a then (b : Int) else a) = ((min a b : Nat) : Int) := by omega
 maxN (a b : Nat) : (if (b : Int) > a then (b : Int) else a) = ((max a b : Nat) : Int) := by omega
 minN_or (a b : Nat) : min a b = a ∨ min a b = b := by omega
 maxN_or (a b : Nat) : max a b = a ∨ max a b = b := by omega
theorem aZV {t : TypeId} {x : AV} {v : Value} (hv : aW c w x v) : aW c w (aWJ T t x) v := by
 cases x with
 | flat l =>
  grind [aWJ, aW.ofV, aUm]
 | _ => exact hv
end
end Go.Vc
namespace Go.Vc
open Go.RowKit
section
variable {P : Program} {T : Tab} {M : Perm} {w0 : World} {c : Ctx} {h : List Obj} {w : World}
theorem aVf {t : TypeId} {k : IntKind} (b : aDU P T t (.u k)) : P.underlying t = some (.int k) := by
 obtain ⟨d, hd, hb⟩ := b.desc
 cases d <;> simp [iV] at hb
 simp_all
noncomputable def bB5 (T : Tab) (h : List Obj) (s d : TypeId) (x : AV) : Prop × AV :=
 match T d, x with
 | some (.sl (.u .u8)), .val .str b => (T s = some .str, .val (.sl (.u .u8)) b)
 | some .str, x => match T s with
  | some (.sl (.u .u8)) => match x with
   | .sub k f off n => match h[k]? with
    | some (.box _ (.val (.arr m (.u .u8)) g)) => (f = 1 ∧ off + n ≤ m, .val .str ((g.drop off).take n))
    | _ => (False, .junk)
   | x => match AV.as h (.sl (.u .u8)) x with
    | some b => (True, .val .str b)
    | none => (False, .junk)
  | _ => aN3 T s d x
 | _, x => aN3 T s d x
theorem aWQ (r : lP P T) (j : Good M w0 c h w) {s d : TypeId} {b : List Nat} {v : Value} (hs : T s = some .str) (hd : T d = some (.sl (.u .u8))) (hv : aW c w (.val .str b) v) :
  ∃ u w' c', (convert s d v).run P w = .ok u w' ∧ aIY P M w0 h c w (.val (.sl (.u .u8)) b) u w' c' := by
 obtain ⟨st, rfl, rfl, hm⟩ := aPt hv
 obtain ⟨e, q, O, _⟩ := fZ (r _ _ hd)
 have g := run_bytes_of_string (P := P) w s d e st (aAS (r _ _ hs)) q (aVf (r _ _ O))
 obtain ⟨w', f⟩ : ∃ w', w' = w.drew.alloc (.cells (bytesRow st (grownCap w st.size 0 e)) e ((bytesRow st (grownCap w st.size 0 e)).size, (bytesRow st (grownCap w st.size 0 e)).size + 1)) := ⟨_, rfl⟩
 rw [← f] at g
 have hheap : w'.heap = w.heap.push (.cells (bytesRow st (grownCap w st.size 0 e)) e ((bytesRow st (grownCap w st.size 0 e)).size, (bytesRow st (grownCap w st.size 0 e)).size + 1)) := by rw [f]; rfl
 have z : jC nothing w w' := ⟨by rw [f]; rfl, by simp_all, by rw [f]; rfl, by simp_all, fun b hb _ => by grind⟩
 have g1 := j.call z
 have U := xE j z
 refine ⟨_, w', _, g, U, ⟨rfl, rfl⟩, g1, z, fun b hb => hb.imp id And.left, ⟨⟨_, _, _, rfl, ?_, grownCap_ge _ _ _ _, grownCap_le_maxLen _ _ _ _ hm, .inr ⟨w.heap.size, 0, rfl, .inr ⟨Nat.le_refl _, by simp_all⟩, fun i hi => ?_⟩⟩, (fun h => by cases h), (fun _ W => by simp)⟩⟩
 ·exact sP st
 ·have L : i < st.data.size := by simp_all [sP]
  have I : st.data.size = st.size := rfl
  have N := grownCap_ge w st.size 0 e
  refine ⟨[.int .u8 (st.data[i].toNat : Int)], ⟨?_, rfl, ?_⟩, ?_⟩
  ·simp [aV]
  ·have : (aV st)[i] = st.data[i].toNat := by simp [aV]
   rw [this]
   have := st.data[i].toNat_lt
   grind [IntKind.max, IntKind.signed, IntKind.bits]
  ·have hc := wB (w := w') (b := w.heap.size) (cells := bytesRow st (grownCap w st.size 0 e)) (e := e) (fz := ((bytesRow st (grownCap w st.size 0 e)).size, (bytesRow st (grownCap w st.size 0 e)).size + 1)) (pre := (bytesRow st (grownCap w st.size 0 e)).toList.take i) (ds := [.int .u8 (st.data[i].toNat : Int)]) (post := (bytesRow st (grownCap w st.size 0 e)).toList.drop (i + 1)) (by simp_all) (by
    have J : i < (bytesRow st (grownCap w st.size 0 e)).toList.length := by simp [bytesRow]; omega
    have j : (bytesRow st (grownCap w st.size 0 e)).toList[i] = .int .u8 (st.data[i].toNat : Int) := by
     simp only [bytesRow, Array.toList_append, Array.toList_map, Array.toList_replicate]
     grind
    grind [List.append_assoc, List.singleton_append, List.getElem_cons_drop, List.take_append_drop])
   grind [bytesRow, grownCap, Ty.cells]
theorem aGi {s d e : TypeId} {b : List Nat} {bl off cap : Nat} (q : P.underlying s = some (.slice e)) (z : P.underlying e = some (.int .u8)) (r : P.underlying d = some .string) (hm : b.length ≤ maxLen)
  (hb : ∀ i (hi : i < b.length), b[i] < 256 ∧ w.cell? ⟨bl, off + i, none⟩ = some (.int .u8 (b[i] : Int))) :
  ∃ u, (convert s d (.slice (some ⟨bl, off, none⟩) b.length cap)).run P w = .ok u w ∧ aW c w (.val .str b) u := by
 have L : (b.map UInt8.ofNat).length = b.length := by simp
 have hback : ∀ i (hi : i < b.length), (UInt8.ofNat b[i]).toNat = b[i] := fun i hi => by
  simp_all
 have f := run_convert_bytes_back (P := P) w s d e ⟨bl, off, none⟩ cap (b.map UInt8.ofNat) q z r (fun j J => by
  have g : j < b.length := by simpa using J
  have I := (hb j g).2
  rw [List.getElem_map, hback j g]
  simp only [Addr.add]
  split
  ·rename_i h0; subst h0; simpa using I
  ·exact I)
 rw [L] at f
 refine ⟨_, f, ⟨⟨⟨(b.map UInt8.ofNat).toArray⟩, rfl, ?_, ?_⟩, (fun h => by cases h), (fun _ N => by simp)⟩⟩
 ·apply List.ext_getElem
  all_goals grind [aV]
 ·show (b.map UInt8.ofNat).toArray.size ≤ maxLen
  simp_all
theorem aVg (W : lP P T) (hg : Good M w0 c h w) {s d : TypeId} {k off n m q : Nat} {xs : List Nat} {v : Value} (hs : T s = some (.sl (.u .u8))) (hd : T d = some .str) (hv : aW c w (.sub k 1 off n) v)
  (ho : h[k]? = some (.box q (.val (.arr m (.u .u8)) xs))) (hle : off + n ≤ m) :
  ∃ u, (convert s d v).run P w = .ok u w ∧ aW c w (.val .str ((xs.drop off).take n)) u := by
 obtain ⟨_, hn, b, I, hb, rfl⟩ := aVc hv
 obtain ⟨Y, cells, e2, O, hheap, _, L⟩ := hg.objs k _ ho
 rw [O] at hb
 simp only [aX, Option.some.injEq] at hb
 subst hb
 obtain ⟨e, J, he, _⟩ := fZ (W _ _ hs)
 obtain ⟨f, r, U, Z, g⟩ := L
 have f : xs.length = m := f
 have hl : ((xs.drop off).take n).length = n := by grind
 have key := aGi (P := P) (w := w) (c := c) (b := (xs.drop off).take n) (bl := Y) (off := off * 1) (cap := I) J (aVf (W _ _ he)) (aAS (W _ _ hd)) (by omega) (fun i hi => by
  rw [hl] at hi
  have hx : off + i < xs.length := by omega
  have z : off + i < r.length := by omega
  obtain ⟨h1, _, h3⟩ := g (off + i) hx z
  have N : ((xs.drop off).take n)[i]'(by omega) = xs[off + i] := by simp
  rw [N]
  refine ⟨?_, ?_⟩
  ·grind [IntKind.max, IntKind.signed, IntKind.bits]
  ·obtain ⟨pre, post, hf, hpl⟩ := pB (t := .u .u8) (css := r) (fun j hj => bB.length _ _ _ (g j (by omega) hj)) (off + i) z
   have hc := wB (w := w) (b := Y) (cells := cells) (e := e2) (fz := (0, 0)) hheap (U.trans hf)
   have := hc 0 (.int .u8 (xs[off + i] : Int)) (by grind)
   simp_all [Ty.cells, Nat.mul_one])
 simp_all
theorem aTr (I : lP P T) (N : Good M w0 c h w) {s d : TypeId} {x : AV} {b : List Nat} {v : Value} (hs : T s = some (.sl (.u .u8))) (hd : T d = some .str) (hv : aW c w x v) (U : AV.as h (.sl (.u .u8)) x = some b) :
  ∃ u, (convert s d v).run P w = .ok u w ∧ aW c w (.val .str b) u := by
 obtain ⟨a, len, L, rfl, r, J, hm, z⟩ := aEk (c := ⟨aFn c h, c.hd, c.n, c.bl⟩) (aKf N hv U)
 obtain ⟨e, f, Y, _⟩ := fZ (I _ _ hs)
 have q := aAS (I _ _ hd)
 have g := aVf (I _ _ Y)
 subst r
 rcases z with rfl | ⟨bl, off, rfl, _, hcell⟩
 ·cases a with
  | none => exact ⟨_, run_convert_bytes_nil w s e f g _ _ d q, ⟨⟨ByteArray.empty, rfl, rfl, Nat.zero_le _⟩, (fun h => by cases h), (fun _ O => by simp)⟩⟩
  | some a => exact ⟨_, run_convert_bytes_back w s d e a L [] f g q (fun j Z => by grind), ⟨⟨⟨#[]⟩, rfl, rfl, Nat.zero_le _⟩, (fun h => by cases h), (fun _ O => by simp)⟩⟩
 ·have hb : ∀ i (hi : i < b.length), b[i] < 256 ∧ w.cell? ⟨bl, off + i, none⟩ = some (.int .u8 (b[i] : Int)) := fun i hi => by
   obtain ⟨ds, ⟨rfl, _, W⟩, hc⟩ := hcell i hi
   refine ⟨?_, ?_⟩
   ·grind [IntKind.max, IntKind.signed, IntKind.bits]
   ·have := hc 0 (.int .u8 (b[i] : Int)) rfl
    grind [Ty.cells]
  exact aGi f g q (Nat.le_trans J hm) hb
end
end Go.Vc
namespace Go.Vc
open Go.RowKit
def Ty.key1 : Ty → Bool
 | .bool => true
 | .u _ => true
 | .i _ => true
 | .str => true
 | _ => false
def Ty.keyB : Ty → Bool
 | .arr _ t => t.key1
 | t => t.key1
def aDW {β : Type} (c : Ty) : List (c.den × β) → c.den → Option β
 | [], _ => none
 | (k, v) :: r, x => if c.eqb x k = true then some v else aDW c r x
def aCU {β : Type} (c : Ty) : List (c.den × β) → c.den → β → List (c.den × β)
 | [], x, y => [(x, y)]
 | (k, v) :: r, x, y => if c.eqb x k = true then (k, y) :: r else (k, v) :: aCU c r x y
theorem aMu {c : Ty} (h : c.key1 = true) : c.cmpB = true ∧ c.deep = 0 ∧ c.isAgg = false ∧ c.cells = 1 := by
 cases c <;> simp_all [Ty.key1, Ty.cmpB, Ty.deep, Ty.isAgg, Ty.cells]
theorem aWR {c : Ty} (h : c.keyB = true) : c.cmpB = true ∧ c.deep ≤ 100 := by
 cases c <;> first | grind [Ty.keyB, Ty.key1, Ty.cmpB, Ty.deep] | skip
 rename_i n t
 have := aMu (c := t) h
 grind [Ty.cmpB, Ty.deep]
theorem aZW {w w' : World} {S S' : Nat → Prop} : ∀ {c : Ty} {x y : c.den} {v u : Value}, c.key1 = true → bB w S c x [v] → bB w' S' c y [u] → (c.eqb x y = true ↔ v = u)
 | .bool, x, y, v, u, _, b, f => by
  simp_all [bB, List.cons.injEq, and_true, Ty.eqb]
 | .u k, x, y, v, u, _, b, f => by
  obtain ⟨b, _⟩ := b
  obtain ⟨f, _⟩ := f
  simp_all [List.cons.injEq, and_true, Ty.eqb, Int.natCast_inj]
 | .i k, x, y, v, u, _, b, f => by
  obtain ⟨b, _⟩ := b
  obtain ⟨f, _⟩ := f
  simp_all [List.cons.injEq, and_true, Ty.eqb]
 | .str, x, y, v, u, _, b, f => by
  obtain ⟨s, b, e1, _⟩ := b
  obtain ⟨t, f, g, _⟩ := f
  simp only [List.cons.injEq, and_true] at b f
  subst b; subst f; subst e1; subst g
  simp only [Ty.eqb, decide_eq_true_eq, Value.string.injEq]
  grind [aRq]
theorem aRB {w : World} {S : Nat → Prop} {c : Ty} {x : c.den} {cs : List Value} (b : c.cells = 1) (h : bB w S c x cs) : ∃ v, cs = [v] := by
 have f := (bB.length _ _ _ h).trans b
 match cs, f with
 | [v], _ => simp_all
theorem aZX {t : Ty} {w w' : World} {S S' : Nat → Prop} (ht : t.key1 = true) : ∀ (X Y : List t.den) (css f : List (List Value)), css.length = X.length → f.length = Y.length → X.length = Y.length →
  (∀ i (h : i < X.length) (h' : i < css.length), bB w S t X[i] css[i]) → (∀ i (h : i < Y.length) (h' : i < f.length), bB w' S' t Y[i] f[i]) → ((List.zipWith t.eqb X Y).all id = true ↔ css.flatten = f.flatten)
 | [], [], [], [], _, _, _, _, _ => by simp
 | x :: X, y :: Y, a :: css, b :: f, J, I, z, r, s => by
  have q := r 0 (by simp) (by simp)
  have g := s 0 (by simp) (by simp)
  simp only [List.getElem_cons_zero] at q g
  obtain ⟨v, rfl⟩ := aRB (aMu ht).2.2.2 q
  obtain ⟨u, rfl⟩ := aRB (aMu ht).2.2.2 g
  have j := aZX ht X Y css f (by simp_all) (by simp_all) (by simp_all) (fun i h h' => by have := r (i + 1) (by simp_all) (by simp_all); simpa using this) (fun i h h' => by have := s (i + 1) (by simp_all) (by simp_all); simpa using this)
  simp only [List.zipWith_cons_cons, List.all_cons, id, Bool.and_eq_true, j, aZW ht q g, List.flatten_cons, List.cons_append, List.nil_append, List.cons.injEq]
theorem bB6 {w w' : World} {S S' : Nat → Prop} {c : Ty} {x y : c.den} {v u : Value} (hc : c.keyB = true) (b : dE w S c x v) (f : dE w' S' c y u) : c.eqb x y = true ↔ v = u := by
 unfold dE at b f
 cases c <;> first | (simp [Ty.keyB, Ty.key1] at hc; done) | skip
 case arr n t =>
  simp only [Ty.isAgg, if_true] at b f
  obtain ⟨⟨O⟩, rfl, b⟩ := b
  obtain ⟨⟨ds⟩, rfl, f⟩ := f
  obtain ⟨N, j, J, I, L⟩ := b
  obtain ⟨z, g, q, s, r⟩ := f
  simp only at J q
  have := aZX (t := t) hc x y j g I s (N.trans z.symm) (fun i h h' => L i h h') (fun i h h' => r i h h')
  grind [Ty.eqb]
 all_goals (simp only [Ty.isAgg, Bool.false_eq_true, if_false] at b f; exact aZW hc b f)
section
variable {P : Program} {T : Tab}
theorem bB7 (b : Bool) (n : Nat) {t : TypeId} {c : Ty} (f : aDU P T t c) (hc : c.key1 = true) (v : Value) (w : World) : (Instr.checkKey b (n + 1) t v).run P w = .ok () w := by
 obtain ⟨d, hd, hb⟩ := f.desc
 unfold Instr.checkKey
 simp only [Sem.run_bind, bA hd, Result.andThen_ok]
 cases c <;> first | (simp [Ty.key1] at hc; done) | skip
 all_goals (cases d <;> first | (simp [iV] at hb; done) | skip)
 all_goals rfl
def aEv (b : Bool) (d : Nat) (e : TypeId) (n : Nat) (xs : Array Value) : List Nat → Sem Unit
 | [] => pure ()
 | i :: r => do
  let a ← part e xs (i * n)
  Instr.checkKey b d e a
  aEv b d e n xs r
theorem aQh (f : Bool) (d : Nat) (t e : TypeId) (len n : Nat) (xs : Array Value) (w : World) (ht : P.underlying t = some (.array len e)) (j : ∀ w, (sizeOf e).run P w = .ok n w) :
  (Instr.checkKey f (d + 1) t (.agg xs)).run P w = (aEv f d e n xs (List.range' 0 len)).run P w := by
 simp only [Instr.checkKey, Sem.run_bind, bA ht, Result.andThen_ok]
 simp only [Std.Legacy.Range.forIn_eq_forIn_range', Std.Legacy.Range.size]
 simp only [Nat.sub_zero, Nat.add_sub_cancel, Nat.div_one]
 generalize List.range' 0 len = z
 clear ht
 induction z generalizing w with
 | nil => rfl
 | cons i r I =>
  simp only [List.forIn_cons, aEv, Sem.run_bind, j, Result.andThen_ok]
  generalize (part e xs (i * n)).run P w = r1
  cases r1 with
  | ok a g =>
   simp only [Result.andThen_ok]
   generalize (Instr.checkKey f d e a).run P g = q
   cases q with
   | ok b s => simp_all
   | halt x s => rfl
  | halt x g => rfl
theorem aI0 (g : Bool) (d : Nat) {w : World} {S : Nat → Prop} {e : TypeId} {t : Ty} (q : aDU P T e t) (ht : t.key1 = true) {xs : Array Value} : ∀ (k i : Nat) (X : List t.den) (pre : List Value) (css : List (List Value)) (w' : World),
   X.length = k → css.length = k → (∀ j (h : j < X.length) (h' : j < css.length), bB w S t X[j] css[j]) → xs.toList = pre ++ css.flatten → pre.length = i * t.cells → (aEv g (d + 1) e t.cells xs (List.range' i k)).run P w' = .ok () w'
 | 0, i, X, _, _, w', hX, _, _, _, _ => by rfl
 | k + 1, i, X, pre, css, w', hX, hc, r, I, hp => by
  match X, css, hX, hc with
  | x :: X, c :: cs, hX, hc =>
   have f := r 0 (by simp) (by simp)
   simp only [List.getElem_cons_zero] at f
   obtain ⟨s, e1, z⟩ := aEu q (cs := xs) (pre := pre) (ds := c) (post := cs.flatten) (by simp_all) f w'
   rw [hp] at e1
   have J := bB.length _ _ _ f
   have b := aI0 g d q ht (xs := xs) k (i + 1) X (pre ++ c) cs w' (by simp_all) (by simp_all)
    (fun j h h' => by have := r (j + 1) (by simp_all) (by simp_all); simpa using this) (by simp_all) (by grind)
   simp only [List.range'_succ, aEv, Sem.run_bind, e1, Result.andThen_ok, bB7 g d q ht, b]
theorem aKI (g : Bool) (n : Nat) (r : lP P T) {t : TypeId} {c : Ty} (ht : T t = some c) (hc : c.keyB = true) {w : World} {S : Nat → Prop} {x : c.den} {v : Value} (b : dE w S c x v) (w' : World) : (Instr.checkKey g (n + 2) t v).run P w' = .ok () w' := by
 cases c <;> first | (simp [Ty.keyB, Ty.key1] at hc; done) | exact bB7 g (n + 1) (r _ _ ht) hc v w' | skip
 rename_i m q
 obtain ⟨d, hd, hb⟩ := (r _ _ ht).desc
 cases d <;> simp [iV] at hb
 rename_i len e
 obtain ⟨⟨⟨rfl, f⟩, L⟩, O⟩ := hb
 unfold dE at b
 simp only [Ty.isAgg, if_true] at b
 obtain ⟨J, rfl, b⟩ := b
 obtain ⟨z, s, U, I, N⟩ := b
 rw [aQh g (n + 1) t e m q.cells J w' hd (fK (r _ _ f))]
 exact aI0 g n (r _ _ f) hc m 0 x [] s w' z (I.trans z) (fun j h h' => N j h h') (by simp_all) (by simp)
def aI1 (c : Ty) {β : Type} (x : c.den) : List (c.den × β) → List MapEntry → Nat → Option (Nat × Value)
 | (k, _) :: m, e :: es, i => if c.eqb x k = true then some (i, e.val) else aI1 c x m es (i + 1)
 | _, _, _ => none
theorem aN9 {c : Ty} {β : Type} {w : World} {S : Nat → Prop} {x : c.den} : ∀ (m : List (c.den × β)) (g : List MapEntry) (i : Nat), g.length = m.length →
  match aDW c m x with
  | some y => ∃ j e k, aI1 c x m g i = some (i + j, e.val) ∧ g[j]? = some e ∧ m[j]? = some (k, y) ∧ c.eqb x k = true ∧ ∀ f, aCU c m x f = m.set j (k, f)
  | none => aI1 c x m g i = none ∧ ∀ f, aCU c m x f = m ++ [(x, f)]
 | [], [], i, _ => by simp [aDW, aI1, aCU]
 | (k, y) :: m, e :: g, i, N => by
  have b := aN9 (w := w) (S := S) (x := x) m g (i + 1) (by simp_all)
  simp only [aDW, aI1, aCU]
  by_cases hq : c.eqb x k = true
  ·simp only [hq, if_true]
   exact ⟨0, e, k, rfl, rfl, rfl, hq, fun f => rfl⟩
  ·simp only [hq, if_false]
   split at b
   ·rename_i L r
    obtain ⟨j, e1, s, r1, J, I, q, z⟩ := b
    simp only [r]
    exact ⟨j + 1, e1, s, by grind, by simp_all, by simp_all, q, fun f => by simp_all⟩
   simp_all
theorem aI2 (r : lP P T) {t : TypeId} {c : Ty} (ht : T t = some c) (hc : c.keyB = true) {β : Type} {w : World} {S : Nat → Prop} {x : c.den} {v : Value} (q : dE w S c x v) (w' : World) : ∀ (m : List (c.den × β)) (b : List MapEntry) (i : Nat), b.length = m.length →
  (∀ j (h : j < m.length) (h' : j < b.length), dE w S c m[j].1 b[j].key) → (Instr.findAsking t v b i).run P w' = .ok (aI1 c x m b i) w'
 | [], [], i, _, _ => by rfl
 | (k, y) :: m, e :: b, i, s, g => by
  have h0 := g 0 (by simp) (by simp)
  simp only [List.getElem_cons_zero] at h0
  have hq := aG2 (P := P) r w' ht (aWR hc).1 (aWR hc).2 q h0
  have f := aI2 r ht hc q w' m b (i + 1) (by simp_all) (fun j h h' => by have := g (j + 1) (by simp_all) (by simp_all); simp_all)
  simp only [Instr.findAsking, Sem.run_bind, hq, Result.andThen_ok, aI1, Sem.run_ite, f, Sem.run_pure]
  grind
theorem aPv {t : TypeId} {c : Ty} (z : aDU P T t c) (hc : c.key1 = true) {d : TypeDesc} (hd : P.underlying t = some d) {β : Type} {w : World} {S : Nat → Prop} {x : c.den} {v : Value} (b : dE w S c x v) : ∀ (m : List (c.den × β)) (f : List MapEntry) (i : Nat), f.length = m.length →
  (∀ j (h : j < m.length) (h' : j < f.length), dE w S c m[j].1 f[j].key) → Instr.findNow d v f i = some (aI1 c x m f i)
 | [], [], i, _, _ => by rfl
 | (k, y) :: m, e :: f, i, N, q => by
  have h0 := q 0 (by simp) (by simp)
  simp only [List.getElem_cons_zero] at h0
  have r := aPv z hc hd b m f (i + 1) (by simp_all) (fun j h h' => by have := q (j + 1) (by simp_all) (by simp_all); simp_all)
  have hsame : Instr.sameNow d v e.key = some (c.eqb x k) := by
   have L := bB6 (c := c) (by cases c <;> simp_all [Ty.key1, Ty.keyB]) b h0
   obtain ⟨J, g, hb⟩ := z.desc
   rw [hd] at g
   cases g
   unfold dE at b h0
   cases c <;> first | (simp [Ty.key1] at hc; done) | skip
   all_goals (cases d <;> first | grind [iV] | skip)
   all_goals simp only [Ty.isAgg, Bool.false_eq_true, if_false] at b h0
   ·simp only [bB, List.cons.injEq, and_true] at b h0
    rw [b, h0]; rfl
   ·obtain ⟨b, _⟩ := b
    obtain ⟨h0, _⟩ := h0
    simp only [List.cons.injEq, and_true] at b h0
    rw [b, h0]
    simp only [Instr.sameNow, if_true, Ty.eqb, Option.some.injEq]
    grind
   ·obtain ⟨b, _⟩ := b
    obtain ⟨h0, _⟩ := h0
    simp only [List.cons.injEq, and_true] at b h0
    rw [b, h0]
    simp only [Instr.sameNow, if_true, Ty.eqb, Option.some.injEq]
    rfl
   ·obtain ⟨s, b, e1, _⟩ := b
    obtain ⟨u, h0, I, _⟩ := h0
    simp only [List.cons.injEq, and_true] at b h0
    rw [b, h0]
    have : (s == u) = decide (aV s = aV u) := by
     rw [Bool.eq_iff_iff, Go.MapKept.bytes_beq, decide_eq_true_eq]
     grind [aRq]
    grind [Instr.sameNow, Ty.eqb]
  grind [Instr.findNow, aI1]
theorem aMv (f : lP P T) {t : TypeId} {c : Ty} (ht : T t = some c) (hc : c.keyB = true) {β : Type} {w : World} {S : Nat → Prop} {x : c.den} {v : Value} (r : dE w S c x v) (w' : World) (m : List (c.den × β)) (b : List MapEntry) (z : b.length = m.length)
  (q : ∀ j (h : j < m.length) (h' : j < b.length), dE w S c m[j].1 b[j].key) : (Instr.findKey t v b).run P w' = .ok (aI1 c x m b 0) w' := by
 obtain ⟨d, hd, hb⟩ := (f _ _ ht).desc
 simp only [Instr.findKey, Sem.run_bind, bA hd, Result.andThen_ok]
 by_cases s : c.key1 = true
 ·rw [aPv (f _ _ ht) s hd r m b 0 z q]; rfl
 ·have g : Instr.findNow d v b 0 = none ∨ Instr.findNow d v b 0 = some (aI1 c x m b 0) := by
   cases b with
   | nil =>
    cases m with
    | nil => right; rfl
    | cons _ _ => grind
   | cons e b =>
    left
    cases c <;> first | grind [Ty.keyB, Ty.key1] | skip
    cases d <;> simp [iV] at hb
    rfl
  rcases g with h | h
  ·grind [aI2]
  simp_all
theorem aUn {c : Ty} {x : c.den} {v : Value} {w : World} {S : Nat → Prop} (hc : c.key1 = true) (b : bB w S c x [v]) (n : Nat) : Instr.sameBits n v v = true := by
 cases c <;> first | (simp [Ty.key1] at hc; done) | skip
 ·simp_all [bB, List.cons.injEq, and_true, Instr.sameBits]
 ·obtain ⟨b, _⟩ := b; simp_all [List.cons.injEq, and_true, Instr.sameBits]
 ·obtain ⟨b, _⟩ := b; simp_all [List.cons.injEq, and_true, Instr.sameBits]
 ·obtain ⟨s, b, _⟩ := b; simp only [List.cons.injEq, and_true] at b; subst b
  simp only [Instr.sameBits]
  exact (Go.MapKept.bytes_beq _ _).2 rfl
theorem bA1 {c : Ty} {x : c.den} {v : Value} {w : World} {S : Nat → Prop} (hc : c.keyB = true) (b : dE w S c x v) (w' : World) : (Instr.keyThatStays v v).run P w' = .ok v w' := by
 have hs : Instr.sameBits 10000 v v = true := by
  unfold dE at b
  cases c <;> first | (simp [Ty.keyB, Ty.key1] at hc; done) | skip
  case arr n t =>
   simp only [Ty.isAgg, if_true] at b
   obtain ⟨⟨I⟩, rfl, b⟩ := b
   obtain ⟨J, f, j, z, q⟩ := b
   simp only at j
   subst j
   simp only [Instr.sameBits, beq_self_eq_true, Bool.true_and, List.all_eq_true]
   have g : ∀ v ∈ f.flatten, Instr.sameBits 9999 v v = true := fun v hv => by
    obtain ⟨l, s, hv⟩ := List.mem_flatten.1 hv
    obtain ⟨i, hi, rfl⟩ := List.mem_iff_getElem.1 s
    have := q i (by omega) hi
    obtain ⟨u, r⟩ := aRB (aMu (c := t) hc).2.2.2 this
    rw [r] at hv this
    simp at hv
    subst hv
    exact aUn (c := t) hc this 9999
   intro p hp
   have : p.1 = p.2 ∧ p.1 ∈ f.flatten := by
    obtain ⟨i, hi, rfl⟩ := List.mem_iff_getElem.1 hp
    simp
   grind
  all_goals (simp only [Ty.isAgg, Bool.false_eq_true, if_false] at b; grind [aUn, Ty.keyB])
 simp [Instr.keyThatStays, hs]
end
end Go.Vc
namespace Go.Vc
open Go.RowKit
def bB8 (h : List Obj) : AV → Option Nat
 | .ptr i [] => match h[i]? with
  | some (.box _ _) => some i
  | _ => none
 | _ => none
def allTags (h : List Obj) : List AV → Option (List Nat)
 | [] => some []
 | v :: r => match bB8 h v, allTags h r with
  | some i, some l => some (i :: l)
  | _, _ => none
def evA (G : Nat → AV) (env : List (Nat × AV)) : Operand → AV
 | .tmp t => look env t
 | .const v => aMl v
 | .global g => G g
 | .func f => .fn f [] []
def qV : Operand → Bool
 | .const (.func _ _ _) => false
 | .const v => aYD v
 | _ => true
theorem aEw {c : Ctx} {w : World} {G : Nat → AV} {env : List (Nat × AV)} {a : Act} (q : aIu c w env a.tmps) (b : sG G c.S w) {x : Operand} (j : qV x = true) : aW c w (evA G env x) (a.eval x) := by
 cases x with
 | tmp t => exact q t
 | const v =>
  refine bBQ ?_ ?_
  ·cases v <;> first | exact j | rfl
  grind [qV]
 | global g =>
  exact (b g).keep (c := ⟨c.S, fun _ => Go.undef, 0, fun _ _ => False⟩) (c' := c) ⟨fun _ h => h, Nat.zero_le _, fun i hi => absurd hi (Nat.not_lt_zero i)⟩ (.refl _ _)
 | func f => exact ⟨⟨(fun i hi => by cases hi), (fun i hi => by cases hi), rfl⟩, (fun h => by cases h), (fun _ r => by simp [Act.eval])⟩
def aOa (i : Nat) : AV → Prop × AV
 | .tup b => (i < b.length, b.getD i .junk)
 | _ => (False, .junk)
def aLo : AV → Prop × AV
 | .ptr i p => (True, .ptr i p)
 | .roa t x => (True, .roa t x)
 | .fn f b l2 => (True, .fn f b l2)
 | _ => (False, .junk)
def aLp : List AV → Option ((t : Ty) × t.den)
 | [] => some ⟨.unit, ()⟩
 | .roa t x :: r => match aLp r with
  | some ⟨u, y⟩ => some ⟨.pair (.rp t) u, (x, y)⟩
  | none => none
 | _ => none
def aLq (h : List Obj) (f : FuncId) (first caps : List AV) : Prop × AV :=
 match allTags h first, allTags h caps with
 | some b, some l2 => (True, .fn f b l2)
 | some b, none => match aLp caps with
  | some ⟨t, y⟩ => (b = [], .val (.clo f t) y)
  | none => (False, .junk)
 | _, _ => (False, .junk)
def aFS (h : List Obj) (l : List Nat) : Bool := l.all fun i => match h[i]? with
 | some (.box _ _) => true
 | _ => false
def vQ : Ty → Bool
 | .unit => true
 | .pair (.rp _) r => vQ r
 | _ => false
def aMw (E : Env) (h : List Obj) (callee : Callee) (args : List AV) (argTypes : List TypeId) (ρ : Operand → AV) : Prop × AV :=
 match callee with
 | .builtin .len => match args, argTypes with
  | [x], [t] => aIV E.T h t x
  | _, _ => (False, .junk)
 | .builtin .min => bBT false args
 | .builtin .max => bBT true args
 | .value x => match ρ x with
  | .fn f [] l2 => if aFS h l2 = true then aG4 E.Γ h f (args ++ l2.map fun i => .ptr i []) else (False, .junk)
  | .val (.clo g t) y => if vQ t = true then aG4 E.Γ h g (args ++ aDF t y) else (False, .junk)
  | _ => (False, .junk)
 | _ => (False, .junk)
def bB9 (E : Env) (t : TypeId) (b f : Ty) : Prop := match E.mp t with
 | some (k, e) => E.T k = some b ∧ E.T e = some f
 | none => False
def aI3 (E : Env) (h : List Obj) (t : TypeId) (m k : AV) (ok : Bool) : Prop × AV :=
 match m with
 | .mp i => match h[i]? with
  | some (.map f b l) => match AV.as (h.map fL) f k with
   | some x => (f.keyB = true ∧ b.okB = true ∧ bB9 E t f b, if ok then .tup [.val b ((aDW f l x).getD b.zero), .val .bool (aDW f l x).isSome] else .val b ((aDW f l x).getD b.zero))
   | none => (False, .junk)
  | _ => (False, .junk)
 | _ => (False, .junk)
def Ty.isNil : Ty → Bool
 | .nili => true
 | _ => false
def aWS (E : Env) (h : List Obj) (t : TypeId) (x : AV) : Prop × AV :=
 match E.T t with
 | some c => match AV.as (h.map fL) c x with
  | some d => (c.isNil = false, .val (.ifc t c) d)
  | none => (False, .junk)
 | none => (False, .junk)
def aI4 (E : Env) (x : AV) (t : TypeId) (ok : Bool) : Prop × AV :=
 match E.T t with
 | some c => match x with
  | .val (.ifc k c') d => if k = t then (c.isNil = false, if ok then .tup [.val c' d, .val .bool true] else .val c' d) else (ok = true ∧ c.okB = true, .tup [.val c c.zero, .val .bool false])
  | .val .nili _ => (ok = true ∧ c.okB = true, .tup [.val c c.zero, .val .bool false])
  | _ => (False, .junk)
 | none => (False, .junk)
def aWT (T : Tab) (b : BinOp) (t : TypeId) (x : AV) : Prop × AV :=
 match x with
 | .val .nili _ => match b with
  | .eql => (T t = some .nili, .val .bool true)
  | .neq => (T t = some .nili, .val .bool false)
  | _ => (False, .junk)
 | _ => (False, .junk)
noncomputable def pv (E : Env) (h : List Obj) (ρ : Operand → AV) (o : Oper) : Prop × AV :=
 match o.op with
 | .move x => (True, aWJ E.T o.type (ρ x))
 | .assign x => (True, aWJ E.T o.type (ρ x))
 | .load t a => aIU E.T h t (ρ a)
 | .binOp g t x y _ => match y with
  | .const .nilIface => aWT E.T g t (ρ x)
  | y => aCR E.T g t (ρ x) (ρ y)
 | .unOp g _ x => aYF g (ρ x)
 | .convert s d x => bB5 E.T h s d (ρ x)
 | .fieldAddr s x k => aAp E.T s (ρ x) k
 | .field s x k => aJ8 E.T s (ρ x) k
 | .indexAddr t x i => aMo E.T h t (ρ x) (ρ i)
 | .index t x i => aMp E.T t (ρ x) (ρ i)
 | .slice t x lo hi mx => aMq E.T h t (ρ x) (lo.map ρ) (hi.map ρ) (mx.map ρ)
 | .extract x i => aOa i (ρ x)
 | .build t j => bif E.dz t then aN4 E.T t (j.toList.map fun p => (p.1, ρ p.2)) else aKa E.T t (j.toList.map fun p => (p.1, ρ p.2))
 | .buildSlice t n j => aBl E.T t n (j.toList.map fun p => (p.1, ρ p.2))
 | .makeFunc (.func f) first b => aLq h f (first.toList.map ρ) (b.toList.map ρ)
 | .nilCheck x => aLo (ρ x)
 | .lookup t m k ok => aI3 E h t (ρ m) (ρ k) ok
 | .makeInterface t x => aWS E h t (ρ x)
 | .typeAssert x _ t ok => aI4 E (ρ x) t ok
 | .call c => aMw E h c.callee (c.args.toList.map ρ) c.argTypes.toList ρ
 | .alloc t => match E.T t with
  | some q => (q.okB = true, .junk)
  | none => (False, .junk)
 | _ => (False, .junk)
section
variable {P : Program} {M : Perm} {w0 : World} {c : Ctx} {h : List Obj} {w : World}
theorem dE.shape {w : World} {S : Nat → Prop} {t : Ty} {x : t.den} {v : Value} (h : dE w S t x v) (g : t ≠ .nili) : v ≠ .nilIface ∧ (t.isAgg = false → ∀ cs, v ≠ .agg cs) := by
 unfold dE at h
 split at h
 ·grind
 ·rename_i f
  cases t <;> first | (simp [Ty.isAgg] at f; done) | skip
  case bool => grind [bB]
  case u => grind [bB]
  case i => grind [bB]
  case str => obtain ⟨s, e, _⟩ := h; simp_all
  case sl => obtain ⟨a, l, q, e, _⟩ := h; simp_all
  case rp => obtain ⟨b, off, ds, e, _⟩ := h; simp_all
  case clo => obtain ⟨j, e, _⟩ := h; simp_all
  case ifc => obtain ⟨u, ds, e, _⟩ := h; simp_all
  case nili => simp_all
  all_goals grind [bB]
theorem aWU {b : BinOp} {t : TypeId} {v u : Value} {ox oy : Operand} (g : v ≠ .nilIface) (f : ∀ cs, v ≠ .agg cs) : (eqGuard b t ox oy v u).run P w = .ok () w := by
 cases b <;> first | rfl | skip
 all_goals (cases v <;> first | exact absurd rfl g | exact absurd rfl (f _) | rfl)
theorem aUo {T : Tab} {j : BinOp} {t : TypeId} {g : Ty} (b : aDU P T t g) (f : g.isAgg = true) {xs : Array Value} {u : Value} {ox oy : Operand} : (eqGuard j t ox oy (.agg xs) u).run P w = .ok () w := by
 have q := b.guard f
 cases u with
 | agg r => grind [run_eqGuard_agg]
 | _ => cases j <;> rfl
theorem bCa {T : Tab} (r : lP P T) {g : BinOp} {t : TypeId} {x y : AV} {v u : Value} {ox oy : Operand} (hv : aW c w x v) (hc : (aCR T g t x y).1) : (eqGuard g t ox oy v u).run P w = .ok () w := by
 cases x with
 | val I a =>
  have f := fun s => (aW.toV hv).shape s
  cases I with
  | pair p q =>
   obtain ⟨z, rfl⟩ := hv.2.1 rfl
   cases y with
   | val j b =>
    simp only [aCR] at hc
    by_cases e : j = .pair p q
    ·subst e
     simp only [dite_true] at hc
     cases g <;> simp only at hc <;> first | exact hc.elim | exact aUo (r _ _ hc.1) rfl
    simp_all
   | _ => exact hc.elim
  | arr n q =>
   obtain ⟨z, rfl⟩ := hv.2.1 rfl
   cases y with
   | val j b =>
    simp only [aCR] at hc
    by_cases e : j = .arr n q
    ·subst e
     simp only [dite_true] at hc
     cases g <;> simp only at hc <;> first | exact hc.elim | exact aUo (r _ _ hc.1) rfl
    simp_all
   | _ => exact hc.elim
  | unit => exact hc.elim
  | expr => exact hc.elim
  | nili => exact hc.elim
  | ifc _ _ => exact hc.elim
  | _ => exact aWU (f (by simp)).1 ((f (by simp)).2 rfl)
 | _ => exact hc.elim
theorem aMx {ρ : Operand → AV} {a : Act} : ∀ {l : List (Nat × Operand)}, (∀ p ∈ l, aW c w (ρ p.2) (a.eval p.2)) → aDu c w (l.map fun p => (p.1, ρ p.2)) (l.map fun p => (p.1, a.eval p.2))
 | [], _ => .nil
 | p :: r, h => .cons (h p (by simp)) (aMx fun q hq => h q (by simp [hq]))
theorem aRC {ρ : Operand → AV} {a : Act} {o : Option Operand} (h : ∀ x, o = some x → aW c w (ρ x) (a.eval x)) : aTp c w (o.map ρ) (o.map a.eval) := by
 cases o with
 | none => exact .none
 | some x => exact .some (h x rfl)
theorem aMy (I : Good M w0 c h w) : ∀ {l : List AV} {vs : List Value} {f : List Nat}, allTags h l = some f → l.length = vs.length → (∀ i (s : i < l.length) (J : i < vs.length), aW c w l[i] vs[i]) → (∀ i ∈ f, i < c.n) ∧ vs = f.map c.hd
 | [], vs, f, q, z, _ => by
  grind [allTags]
 | v :: r, [], f, q, z, _ => by grind
 | v :: r, u :: us, f, q, z, hv => by
  simp only [allTags] at q
  split at q
  ·rename_i i l s J
   cases q
   obtain ⟨U, O⟩ := aMy I J (by simpa using z) (fun i hi L => by have := hv (i + 1) (by simp_all) (by simp_all); simp_all)
   have h0 := hv 0 (by simp) (by simp)
   simp only [List.getElem_cons_zero] at h0
   unfold bB8 at s
   split at s
   ·rename_i j
    split at s
    ·rename_i W N
     cases s
     obtain ⟨Y, b, hb, rfl⟩ := aG6 h0
     obtain ⟨b', cells, e, g, _⟩ := I.objs _ _ N
     rw [g] at hb
     simp [aX] at hb
     subst hb
     refine ⟨fun k Z => ?_, ?_⟩
     ·grind
     ·rw [List.map_cons, ← O, g]; rfl
    grind
   grind
  grind
theorem bGw {f : FuncId} {b l2 : List Nat} (j : ∀ i ∈ b, i < c.n) (g : ∀ i ∈ l2, i < c.n) : aW c w (.fn f b l2) (.func (.func f) (b.map c.hd).toArray (l2.map c.hd).toArray) :=
 ⟨⟨j, g, rfl⟩, (fun h => by cases h), (fun _ q => by simp)⟩
theorem bEw {vs : List AV} {v : Value} (hv : aW c w (.tup vs) v) {i : Nat} (hi : i < vs.length) : ∃ u, (Instr.extract v i).run P w = .ok u w ∧ aW c w (vs.getD i .junk) u := by
 obtain ⟨j, rfl, s, r⟩ := hv
 have f : i < j.length := by omega
 refine ⟨j[i], by simp [Instr.extract, f], ?_⟩
 rw [List.getD_eq_getElem?_getD, List.getElem?_eq_getElem hi]
 have := r i hi f
 simp only [Option.getD_some]
 have b : ∀ us, vs[i] ≠ .tup us := fun us e => by rw [e] at this; exact this.1.elim
 revert this b
 generalize vs[i] = a
 generalize j[i] = x
 intro this b
 cases a <;> first | exact absurd rfl (b _) | trivial | exact this | skip
 obtain ⟨q, _, g⟩ := this
 have g := g rfl
 simp only [aM] at q
 cases x <;> simp [Value.cells] at q g <;> first | exact q | skip
end
end Go.Vc
namespace Go.Vc
open Go.RowKit
section
variable {P : Program} {M : Perm} {w0 : World} {c : Ctx} {h : List Obj} {w : World}
structure iA (P : Program) (E : Env) : Prop where
 T : lP P E.T
 Γ : ∀ f vs sp, E.Γ f vs = some sp → (FOK P E.G f sp ∧ ∃ fn, P.funcs[f]? = some fn ∧ fn.name ≠ "runtime.NumGoroutine" ∧ fn.body.isSome = true) ∨ NOK P E.G f sp
 el : ∀ t ct, E.T t = some (.sl ct) → P.underlying t = some (.slice (E.el t))
 mp : ∀ t k e, E.mp t = some (k, e) → P.underlying t = some (.map k e)
theorem aDX {f : FuncId} {args : Array Value} (j : ∃ fn, P.funcs[f]? = some fn ∧ fn.name ≠ "runtime.NumGoroutine" ∧ fn.body.isSome = true) : (callFunc f args).run P w = .ok (.enter f args) w := by
 obtain ⟨fn, r, q, g⟩ := j
 obtain ⟨b, hb⟩ := Option.isSome_iff_exists.1 g
 simp_all [callFunc]
theorem aKg {ρ : Operand → AV} {a : Act} {l : List Operand} (h : ∀ x ∈ l, aW c w (ρ x) (a.eval x)) : ∀ i (f : i < (l.map ρ).length) (b : i < (l.map a.eval).length), aW c w (l.map ρ)[i] (l.map a.eval)[i] := fun i f b => by
 simp_all
theorem aZY {f : FuncId} {l2 : List Nat} {v : Value} (hv : aW c w (.fn f [] l2) v) : (∀ i ∈ l2, i < c.n) ∧ v = .func (.func f) #[] (l2.map c.hd).toArray := by
 obtain ⟨b, _, g⟩ := hv
 have g := g rfl
 simp only [aM] at b
 obtain ⟨_, j, b⟩ := b
 refine ⟨j, ?_⟩
 cases v <;> simp [Value.cells] at b g
 simp_all
theorem aWV {g : FuncId} {t : Ty} {y : t.den} {v : Value} (hv : aW c w (.val (.clo g t) y) v) : ∃ us : List Value, v = .func (.func g) #[] us.toArray ∧ bB w c.S t y us := by
 have := aW.toV hv
 unfold dE at this
 rw [if_neg (by simp [Ty.isAgg])] at this
 obtain ⟨us, e, b⟩ := this
 simp_all
theorem bCb : ∀ {l : List AV} {vs : List Value} {t : Ty} {y : t.den}, aLp l = some ⟨t, y⟩ → l.length = vs.length → (∀ i (L : i < l.length) (J : i < vs.length), aW c w l[i] vs[i]) → bB w c.S t y vs
 | [], vs, t, y, f, s, _ => by
  simp only [aLp, Option.some.injEq, Sigma.mk.injEq] at f
  obtain ⟨rfl, j⟩ := f
  cases vs with
  | nil => rfl
  | cons _ _ => grind
 | v :: r, [], t, y, f, s, _ => by grind
 | v :: r, x :: vs, t, y, f, s, hv => by
  have h0 := hv 0 (by simp) (by simp)
  simp only [List.getElem_cons_zero] at h0
  cases v <;> first | grind [aLp] | skip
  rename_i O x1
  simp only [aLp] at f
  split at f
  ·rename_i u z I
   simp only [Option.some.injEq, Sigma.mk.injEq] at f
   obtain ⟨rfl, j⟩ := f
   have j := eq_of_heq j
   subst j
   have g := bCb I (vs := vs) (by simp_all) (fun i L J => by have := hv (i + 1) (by simp_all) (by simp_all); simp_all)
   obtain ⟨⟨b, off, ds, e, hb, hd, hc⟩, _, q⟩ := h0
   have q := q rfl
   have N : x = .pointer (some ⟨b, off, none⟩) := by
    simp_all [Value.cells]
   refine ⟨[x], vs, rfl, ⟨b, off, ds, by rw [N], hb, hd, hc⟩, g⟩
  grind
theorem aI5 (j : Good M w0 c h w) : ∀ {l2 : List Nat}, aFS h l2 = true → (∀ i ∈ l2, i < c.n) → ∀ i (f : i < (l2.map fun i => AV.ptr i []).length) (q : i < (l2.map c.hd).length), aW c w (l2.map fun i => AV.ptr i [])[i] (l2.map c.hd)[i] := by
 intro l2 hb s i f q
 simp only [List.length_map] at f
 simp only [List.getElem_map]
 simp only [aFS, List.all_eq_true] at hb
 have := hb l2[i] (List.getElem_mem f)
 split at this
 ·rename_i n v r
  obtain ⟨b, cells, e, g, _⟩ := j.objs _ _ r
  refine ⟨⟨s _ (List.getElem_mem f), b, by rw [g]; rfl, by rw [g]; rfl⟩, (fun h => by cases h), (fun _ z => by simp_all)⟩
 simp_all
theorem aRD : ∀ {t : Ty} {y : t.den} {us : List Value}, vQ t = true → bB w c.S t y us → us.length = (aDF t y).length ∧ ∀ i (I : i < (aDF t y).length) (g : i < us.length), aW c w (aDF t y)[i] us[i]
 | .unit, _, us, _, f => by simp only [bB] at f; subst f; exact ⟨rfl, fun i h => by simp_all⟩
 | .pair (.rp a) r, y, us, hb, f => by
  obtain ⟨c1, J, rfl, ⟨b, off, ds, rfl, q⟩, g⟩ := f
  obtain ⟨j, z⟩ := aRD (t := r) (y := y.2) (by grind [vQ]) g
  refine ⟨by simp [aDF, j], fun i hi s => ?_⟩
  cases i with
  | zero =>
   refine aW.ofV ?_
   unfold dE
   rw [if_neg (by simp [Ty.isAgg])]
   exact ⟨b, off, ds, rfl, q⟩
  | succ i =>
   grind [aDF]
 | .pair .bool _, _, _, hb, _ => by grind [vQ]
 | .pair (.u _) _, _, _, hb, _ => by grind [vQ]
 | .pair (.i _) _, _, _, hb, _ => by grind [vQ]
 | .pair .str _, _, _, hb, _ => by grind [vQ]
 | .pair (.sl _) _, _, _, hb, _ => by grind [vQ]
 | .pair .unit _, _, _, hb, _ => by grind [vQ]
 | .pair (.pair _ _) _, _, _, hb, _ => by grind [vQ]
 | .pair (.arr _ _) _, _, _, hb, _ => by grind [vQ]
 | .pair .expr _, _, _, hb, _ => by grind [vQ]
 | .pair (.clo _ _) _, _, _, hb, _ => by grind [vQ]
 | .bool, _, _, hb, _ => by grind [vQ]
 | .u _, _, _, hb, _ => by grind [vQ]
 | .i _, _, _, hb, _ => by grind [vQ]
 | .str, _, _, hb, _ => by grind [vQ]
 | .sl _, _, _, hb, _ => by grind [vQ]
 | .arr _ _, _, _, hb, _ => by grind [vQ]
 | .expr, _, _, hb, _ => by grind [vQ]
 | .rp _, _, _, hb, _ => by grind [vQ]
 | .clo _ _, _, _, hb, _ => by grind [vQ]
theorem aRE {E : Env} (hE : iA P E) (hg : Good M w0 c h w) (W : sG E.G c.S w) {dst : Option Nat} {ty : TypeId} {pos : String} {I : Array Edge} {gd : Option (Nat × Bool)} {f : Operand} {args : Array Operand} {argTypes : Array TypeId} {a : Act} {ρ : Operand → AV} {g : FuncId} {us : List Value} {j : List AV}
  (hf : a.eval f = .func (.func g) #[] us.toArray) (hul : us.length = j.length) (U : ∀ i (O : i < (args.toList.map ρ).length) (N : i < (args.toList.map a.eval).length), aW c w (args.toList.map ρ)[i] (args.toList.map a.eval)[i])
  (Y : ∀ i (O : i < j.length) (N : i < us.length), aW c w j[i] us[i]) (hc : (aG4 E.Γ h g (args.toList.map ρ ++ j)).1) :
  Did P M w0 h c { dst := dst, op := .call { callee := .value f, args := args, argTypes := argTypes }, type := ty, pos := pos, after := I, guard := gd } a w (aG4 E.Γ h g (args.toList.map ρ ++ j)).2 := by
 have J : ∃ sp, E.Γ g (args.toList.map ρ ++ j) = some sp := by
  unfold aG4 at hc
  grind
 obtain ⟨sp, b⟩ := J
 have e2 : args.map a.eval ++ us.toArray = (args.toList.map a.eval ++ us).toArray := by simp_all
 have hcall := fun (C : (Ending → World → Prop) → Prop) hC hF => bEv (P := P) (C := C) hC (Γ := E.Γ) hF hg W (f := g) (vs := args.toList.map ρ ++ j) (xs := (args.toList.map a.eval ++ us).toArray) (by grind) (fun i O N => by
  grind) hc
 rcases hE.Γ g _ sp b with ⟨s, L⟩ | r
 ·refine .inr ⟨g, (args.toList.map a.eval ++ us).toArray, ?_, hcall (Calls P g _ w) (fun R Z h k => h.mono k) (fun z hs => by rw [b] at hs; cases hs; exact fun S x => s w S _ x)⟩
  have q := aDX (w := w) (args := (args.toList.map a.eval ++ us).toArray) L
  grind [execOp, resolve, Deferred.ofValue, invoke]
 ·obtain ⟨v, w', q, v', c', e, hA⟩ := hcall (bF5 P g (args.toList.map a.eval ++ us).toArray w) (fun R Z ⟨v, w', h, k⟩ hk => ⟨v, w', h, hk _ _ k⟩) (fun z hs => by rw [b] at hs; cases hs; exact r.2 w _)
  cases e
  refine .inl ⟨v, w', c', ?_, hA⟩
  grind [execOp, resolve, Deferred.ofValue, invoke]
theorem aUp {T : Tab} (q : lP P T) {t : TypeId} {b : Ty} (ht : T t = some b) (f : b.okB = true) {o : Oper} {a : Act} (j : o.op = .alloc t) : (execOp a.eval o).run P w = .ok (.value (.pointer (some ⟨w.heap.size, 0, none⟩))) (w.alloc (.cells (nN b).cells t (0, 0))) := by
 have g := tL (q _ _ ht) f w
 simp [execOp, j, Instr.alloc, g, newVar, newRow]
theorem aPw (j : Good M w0 c h w) {ob : Go.Obj} : aIY P M w0 h c w .junk (.pointer (some ⟨w.heap.size, 0, none⟩)) (w.alloc ob) c := by
 have g : jC nothing w (w.alloc ob) := jC.alloc nothing w _
 have q : dS c w c (w.alloc ob) := ⟨.refl _, fun b hb => g.block b (j.sfin b hb) (fun f => f)⟩
 exact ⟨q, ⟨rfl, rfl⟩, j.step q rfl rfl g.any (fun i o b r hb => g.block b (j.own i o b r hb).2.1 (fun f => f)) (fun b hb => Nat.lt_of_lt_of_le (j.sfin b hb) g.size) (fun b hb => .inl hb), g, fun b hb => .inl hb, trivial⟩
theorem bA2 {E : Env} (N : iA P E) (hg : Good M w0 c h w) {t : TypeId} {m k : AV} {ok : Bool} {mv kv : Value} (hm : aW c w m mv) (hk : aW c w k kv) (hc : (aI3 E h t m k ok).1) :
  ∃ u, (Instr.lookup t mv kv ok).run P w = .ok u w ∧ aW c w (aI3 E h t m k ok).2 u := by
 unfold aI3 at hc ⊢
 split at hc
 ·rename_i i
  split at hc
  ·rename_i f g l ho
   split at hc
   ·rename_i x hx
    obtain ⟨O, U, s⟩ := hc
    simp only [ho, hx]
    obtain ⟨b, r, clock, q1, q2, q3, q4⟩ := hg.objs i _ ho
    have W : mv = .map (some b) := by
     obtain ⟨r1, _, Y⟩ := hm
     simp only [aM] at r1
     have Y := Y rfl
     simp_all [Value.cells]
    subst W
    unfold bB9 at s
    split at s
    ·rename_i kt et he
     have L := yD hg hk hx
     have hu := N.mp _ _ _ he
     have hgo : (getObj b).run P w = .ok (.map r clock) w := by simp [getObj, Sem.run, q2]
     have hl : r.toList.length = l.length := by omega
     have hf := aMv (P := P) N.T s.1 O L w l r.toList hl (fun j h h' => by simp_all)
     have hck := aKI (P := P) r.isEmpty 9998 N.T s.1 O L w
     have hz := tL (N.T _ _ s.2) U w
     have q := aN9 (c := f) (w := w) (S := c.S) (x := x) l r.toList 0 hl
     have J : ∀ (z : Value), dE w c.S g ((aDW f l x).getD g.zero) z → aW c w (if ok = true then AV.tup [.val g ((aDW f l x).getD g.zero), .val .bool (aDW f l x).isSome] else AV.val g ((aDW f l x).getD g.zero)) (if ok = true then .tuple #[z, .bool (aDW f l x).isSome] else z) := fun z hz => by
      cases ok
      ·simp_all [Bool.false_eq_true, if_false, aW.ofV]
      ·simp only [if_true]
       refine ⟨[z, .bool (aDW f l x).isSome], rfl, rfl, fun i O U => ?_⟩
       match i, O, U with
       | 0, _, _ => exact aW.ofV hz
       | 1, _, _ => exact aW.ofV (t := .bool) (x := (aDW f l x).isSome) (by rfl)
     cases I : aDW f l x with
     | some y =>
      rw [I] at q
      obtain ⟨j, e, k1, r1, r2, Y, _⟩ := q
      rw [r1] at hf
      have Z : j < l.length := by
       grind
      have hje : j < r.size := by omega
      have hv := (q4 j Z hje).2
      have e1 : r[j] = e := by
       simp_all
      have e2 : l[j].2 = y := by simp_all
      simp_all [bool, Instr.lookup, bA, Result.andThen]
     | none =>
      rw [I] at q
      rw [q.1] at hf
      have := J (nN g) (by grind [aIS])
      refine ⟨if ok = true then .tuple #[nN g, .bool false] else nN g, ?_, by simp_all⟩
      simp_all [Instr.lookup, bA, Result.andThen]
    simp_all
   simp_all
  simp_all
 simp_all
theorem aKh {E : Env} {t : TypeId} {c : Ty} (g : lP P E.T) (ht : E.T t = some c) (f : c.isNil = false) : ∃ d, P.underlying t = some d ∧ ∀ b, d ≠ .interface b := by
 obtain ⟨d, hd, hb⟩ := (g _ _ ht).desc
 refine ⟨d, hd, fun b e => ?_⟩
 subst e
 cases c <;> simp [iV, Ty.isNil] at hb f
theorem bGx {E : Env} (r : iA P E) (j : Good M w0 c h w) {t : TypeId} {x : AV} {v : Value} (hv : aW c w x v) (hc : (aWS E h t x).1) :
  ∃ u, (Instr.makeInterface t v).run P w = .ok u w ∧ aW c w (aWS E h t x).2 u := by
 unfold aWS at hc ⊢
 split at hc
 ·rename_i I ht
  split at hc
  ·rename_i d hd
   simp only [hd]
   have b := yD j hv hd
   obtain ⟨z, q, s⟩ := aKh r.T ht hc
   refine ⟨.iface t v, ?_, aW.ofV ?_⟩
   ·simp only [Instr.makeInterface, Sem.run_bind, bA q, Result.andThen_ok]
    rfl
   ·unfold dE at b ⊢
    rw [if_neg (by simp [Ty.isAgg])]
    split at b
    ·rename_i g
     obtain ⟨f, rfl, b⟩ := b
     exact ⟨.agg f, f.toList, rfl, (fun _ => by simp), (fun h => by simp_all), b⟩
    ·rename_i g
     exact ⟨v, [v], rfl, (fun h => absurd h g), (fun _ => rfl), b⟩
  simp_all
 simp_all
theorem aRF {k : TypeId} {t : Ty} {x : t.den} {v : Value} (hv : aW c w (.val (.ifc k t) x) v) : ∃ u, v = .iface k u ∧ dE w c.S t x u := by
 have b := aW.toV hv
 unfold dE at b
 rw [if_neg (by simp [Ty.isAgg])] at b
 obtain ⟨u, ds, e, j, f, g⟩ := b
 simp only [List.cons.injEq, and_true] at e
 grind [dE]
theorem aVh {t : Ty} {x : t.den} {b : Bool} {u : Value} (g : dE w c.S t x u) : aW c w (.tup [.val t x, .val .bool b]) (.tuple #[u, .bool b]) := by
 refine ⟨[u, .bool b], rfl, rfl, fun i j f => ?_⟩
 match i, j, f with
 | 0, _, _ => exact aW.ofV g
 | 1, _, _ => exact aW.ofV (t := .bool) (x := b) (by rfl)
theorem bA3 {E : Env} (q : iA P E) {t xt : TypeId} {x : AV} {ok : Bool} {v : Value} (hv : aW c w x v) (hc : (aI4 E x t ok).1) :
  ∃ u, (Instr.typeAssert v xt t ok).run P w = .ok u w ∧ aW c w (aI4 E x t ok).2 u := by
 unfold aI4 at hc ⊢
 split at hc
 ·rename_i g ht
  have f : g.okB = true → g.isNil = false := fun h => by grind [Ty.okB, Ty.isNil]
  split at hc
  ·rename_i k c' d
   obtain ⟨u, rfl, I⟩ := aRF hv
   by_cases e : k = t
   ·subst e
    simp only [if_true] at hc ⊢
    obtain ⟨z, j, s⟩ := aKh q.T ht hc
    refine ⟨if ok = true then .tuple #[u, .bool true] else u, ?_, ?_⟩
    ·simp only [Instr.typeAssert, Sem.run_bind, bA j, Result.andThen_ok]
     rfl
    grind [aW.ofV, aVh]
   ·simp only [e, if_false] at hc ⊢
    obtain ⟨rfl, b⟩ := hc
    refine ⟨.tuple #[nN g, .bool false], ?_, aVh (aIS w c.S g b)⟩
    obtain ⟨z, j, s⟩ := aKh q.T ht (f b)
    have b := tL (q.T _ _ ht) b w
    simp only [Instr.typeAssert, Sem.run_bind, bA j, Result.andThen_ok]
    simp_all
  ·have r : v = .nilIface := by
    have I := aW.toV hv
    simp_all [dE, if_neg, Ty.isAgg, bB]
   subst r
   obtain ⟨rfl, b⟩ := hc
   refine ⟨.tuple #[nN g, .bool false], ?_, aVh (aIS w c.S g b)⟩
   obtain ⟨z, j, s⟩ := aKh q.T ht (f b)
   have b := tL (q.T _ _ ht) b w
   simp only [Instr.typeAssert, Sem.run_bind, bA j, Result.andThen_ok]
   simp_all
  simp_all
 simp_all
theorem bGy {T : Tab} (g : lP P T) {b : BinOp} {t : TypeId} {x : AV} {v : Value} {ox : Operand} (hv : aW c w x v) (hc : (aWT T b t x).1) :
  ∃ r, (eqGuard b t ox (.const .nilIface) v .nilIface).run P w = .ok () w ∧ (binOp b t v .nilIface).run P w = .ok r w ∧ aW c w (aWT T b t x).2 r := by
 unfold aWT at hc ⊢
 split at hc
 ·rename_i y
  have f : v = .nilIface := by
   have q := aW.toV hv
   simp_all [dE, if_neg, Ty.isAgg, bB]
  subst f
  have j : T t = some .nili → (Op.equal t .nilIface .nilIface).run P w = .ok true w := fun ht => by
   obtain ⟨d, hd, hb⟩ := (g _ _ ht).desc
   cases d <;> simp [iV] at hb
   unfold Op.equal Op.maxDepth
   rw [Op.equalIn]
   simp [bA hd]
  cases b <;> simp only at hc ⊢ <;> (try exact hc.elim)
  all_goals simp_all [bool, eqGuard, binOp, aEt]
 simp_all
theorem bF6 {E : Env} (N : iA P E) (O : Good M w0 c h w) (hG : sG E.G c.S w) {o : Oper} {a : Act} {ρ : Operand → AV} (j : ∀ x ∈ o.op.operands, aW c w (ρ x) (a.eval x)) (hc : (pv E h ρ o).1) : Did P M w0 h c o a w (pv E h ρ o).2 := by
 obtain ⟨dst, op, ty, pos, aft, gd⟩ := o
 cases op <;> simp only [pv] at hc ⊢ <;> (try exact hc.elim) <;> simp only [Op.operands] at j
 case alloc t =>
  split at hc
  ·rename_i ct ht
   exact .inl ⟨_, _, c, aUp N.T ht hc rfl, aPw O⟩
  simp_all
 case makeInterface t x =>
  obtain ⟨u, I, J⟩ := bGx (P := P) N O (j x (by simp)) hc
  simp_all [Did.of_value, execOp]
 case typeAssert x xt t ok =>
  obtain ⟨u, I, J⟩ := bA3 (P := P) N (xt := xt) (j x (by simp)) hc
  simp_all [Did.of_value, execOp]
 case lookup t m k ok =>
  obtain ⟨u, I, J⟩ := bA2 (P := P) N O (j m (by simp)) (j k (by simp)) hc
  simp_all [Did.of_value, execOp]
 case move x =>
  simp_all [Did.of_value, execOp, aZV]
 case assign x =>
  simp_all [Did.of_value, execOp, aZV]
 case load t x =>
  obtain ⟨u, I, J⟩ := aZO N.T O (j x (by simp)) hc
  simp_all [Did.of_value, execOp]
 case binOp op t x y yt =>
  have L := j x (by simp)
  have Y := j y (by simp)
  split at hc
  ·obtain ⟨r, h1, h2, h3⟩ := bGy (P := P) (ox := x) N.T L hc
   have e : a.eval (.const .nilIface) = .nilIface := rfl
   simp_all [Did.of_value, execOp]
  ·obtain ⟨u, I, J⟩ := bGv (P := P) N.T L Y hc
   have hgd := bCa (P := P) N.T (u := a.eval y) (ox := x) (oy := y) L hc
   simp_all [Did.of_value, execOp]
 case unOp op t x =>
  obtain ⟨u, I, J⟩ := bHf (P := P) (j x (by simp)) hc
  simp_all [Did.of_value, execOp]
 case convert s d x =>
  have L := j x (by simp)
  unfold bB5 at hc ⊢
  split at hc
  ·rename_i b hd hb
   rw [hb] at L
   obtain ⟨u, w', c', J, ha⟩ := aWQ (P := P) N.T O hc hd L
   exact .inl ⟨u, w', c', by simp [execOp, J], by omega⟩
  ·rename_i hd
   split at hc
   ·rename_i hs
    split at hc
    ·rename_i k sz off n hx2
     split at hc
     ·rename_i q m xs ho
      obtain ⟨rfl, hle⟩ := hc
      rw [hx2] at L
      obtain ⟨u, I, J⟩ := aVg (P := P) N.T O hs hd L ho hle
      simp_all [Did.of_value, execOp]
     simp_all
    split at hc
    ·rename_i b ha
     obtain ⟨u, I, J⟩ := aTr (P := P) N.T O hs hd L ha
     simp_all [Did.of_value, execOp]
    simp_all
   ·obtain ⟨u, I, J⟩ := aZR (P := P) N.T L hc
    simp_all [Did.of_value, execOp]
  ·obtain ⟨u, I, J⟩ := aZR (P := P) N.T L hc
   simp_all [Did.of_value, execOp]
 case fieldAddr s x k =>
  obtain ⟨u, I, J⟩ := bBW (P := P) N.T (j x (by simp)) hc
  simp_all [Did.of_value, execOp]
 case field s x k =>
  obtain ⟨u, I, J⟩ := bBY (P := P) N.T (j x (by simp)) hc
  simp_all [Did.of_value, execOp]
 case indexAddr t x i =>
  obtain ⟨u, I, J⟩ := bBZ (P := P) N.T O (j x (by simp)) (j i (by simp)) hc
  simp_all [Did.of_value, execOp]
 case index t x i =>
  obtain ⟨u, I, J⟩ := bB1 (P := P) N.T (j x (by simp)) (j i (by simp)) hc
  simp_all [Did.of_value, execOp]
 case slice t x lo hi mx =>
  obtain ⟨u, I, J⟩ := bB2 (P := P) N.T O (j x (by simp)) (aRC (o := lo) fun y Y => j y (by simp [Y])) (aRC (o := hi) fun y Y => j y (by simp [Y])) (aRC (o := mx) fun y Y => j y (by simp [Y])) hc
  simp_all [Did.of_value, execOp]
 case extract x i =>
  have L := j x (by simp)
  unfold aOa at hc ⊢
  split at hc
  ·rename_i vs e
   rw [e] at L
   obtain ⟨u, I, J⟩ := bEw (P := P) L hc
   simp_all [Did.of_value, execOp]
  simp_all
 case build t ps =>
  have hp := aMx (l := ps.toList) (ρ := ρ) (a := a) (c := c) (w := w) (fun p hp => j p.2 (List.mem_toArray.2 (List.mem_map_of_mem hp)))
  have key : ∃ u, (Instr.build t (ps.toList.map fun p => (p.1, a.eval p.2)).toArray).run P w = .ok u w ∧ aW c w (bif E.dz t then aN4 E.T t (ps.toList.map fun p => (p.1, ρ p.2)) else aKa E.T t (ps.toList.map fun p => (p.1, ρ p.2))).2 u := by
   cases hdz : E.dz t with
   | true => simp only [pv, hdz, cond_true] at hc ⊢; exact bA0 (P := P) N.T hp hc
   | false => simp only [pv, hdz, cond_false] at hc ⊢; exact bB4 (P := P) N.T hp hc
  obtain ⟨u, I, J⟩ := key
  have e : (ps.map fun x => (x.1, a.eval x.2)) = (ps.toList.map fun p => (p.1, a.eval p.2)).toArray := by grind
  simp_all [Did.of_value, execOp]
 case buildSlice t n ps =>
  have hp := aMx (l := ps.toList) (ρ := ρ) (a := a) (c := c) (w := w) (fun p hp => j p.2 (List.mem_toArray.2 (List.mem_map_of_mem hp)))
  obtain ⟨u, w', c', I, J⟩ := aTq (P := P) N.T O hp hc
  have e : (ps.map fun x => (x.1, a.eval x.2)) = (ps.toList.map fun p => (p.1, a.eval p.2)).toArray := by grind
  exact .inl ⟨u, w', c', by simp_all [execOp], J⟩
 case nilCheck x =>
  have L := j x (by simp)
  cases hxv : ρ x <;> rw [hxv] at L hc <;> simp only [aLo] at hc ⊢ <;> (try exact hc.elim)
  ·obtain ⟨_, b, _, e⟩ := aG6 L
   simp_all [Did.of_value, execOp]
  ·obtain ⟨b, off, ds, e, _⟩ := aRa L
   simp_all [Did.of_value, execOp]
  ·have e : ∃ f l1 l2, a.eval x = .func (.func f) l1 l2 := by
    obtain ⟨h1, _, h3⟩ := L
    have h3 := h3 rfl
    simp only [aM] at h1
    have h1 := h1.2.2
    cases hv : a.eval x <;> rw [hv] at h1 h3 <;> simp [Value.cells] at h1 h3
    simp_all
   obtain ⟨f, l1, l2, e⟩ := e
   simp_all [Did.of_value, execOp]
 case makeFunc fn first caps =>
  cases fn with
  | func f =>
   simp only at hc ⊢
   unfold aLq at hc ⊢
   split at hc
   ·rename_i l1 l2 e1 e2
    obtain ⟨q1, q2⟩ := aMy O e1 (vs := first.toList.map a.eval) (by simp) (aKg fun x L => j x (by simp_all))
    obtain ⟨q3, q4⟩ := aMy O e2 (vs := caps.toList.map a.eval) (by simp) (aKg fun x L => j x (by simp_all))
    simp only [e1, e2]
    refine Did.of_value O (v := .func (.func f) (l1.map c.hd).toArray (l2.map c.hd).toArray) ?_ (bGw q1 q3)
    have e3 : ∀ l : Array Operand, l.map a.eval = (l.toList.map a.eval).toArray := fun l => by grind
    simp_all [execOp, Instr.makeFunc]
   ·rename_i l1 e1 e2
    split at hc
    ·rename_i t y e4
     obtain ⟨q1, q2⟩ := aMy O e1 (vs := first.toList.map a.eval) (by simp) (aKg fun x L => j x (by simp_all))
     simp only [e1, e2, e4]
     have hl1 : l1 = [] := hc
     subst hl1
     have e5 := bCb e4 (vs := caps.toList.map a.eval) (by simp) (aKg fun x L => j x (by simp_all))
     refine Did.of_value O (v := .func (.func f) #[] (caps.toList.map a.eval).toArray) ?_ (aW.ofV ?_)
     ·have e3 : ∀ l : Array Operand, l.map a.eval = (l.toList.map a.eval).toArray := fun l => by grind
      simp_all [execOp, Instr.makeFunc]
     ·unfold dE
      rw [if_neg (by simp [Ty.isAgg])]
      exact ⟨_, rfl, e5⟩
    simp_all
   simp_all
  | _ => simp_all
 case call cl =>
  obtain ⟨callee, args, argTypes⟩ := cl
  simp only at hc ⊢
  have hargs : ∀ x ∈ args.toList, aW c w (ρ x) (a.eval x) := fun x L => j x (by
   simp only [Call.operands]
   exact Array.mem_append.2 (.inr (by simpa using L)))
  cases callee with
  | builtin b =>
   cases b <;> simp only [aMw] at hc ⊢ <;> (try exact hc.elim)
   case len =>
    split at hc
    ·rename_i x t ex et
     obtain ⟨y, ey, rfl⟩ : ∃ y, args.toList = [y] ∧ ρ y = x := by
      simp_all
     have Y := hargs y (by simp_all)
     obtain ⟨u, I, J⟩ := bGu (P := P) (ty := ty) N.T O Y hc
     have e1 : args = #[y] := by grind
     have e2 : argTypes = #[t] := by grind
     exact Did.of_value O (by rw [e1, e2]; simp [execOp, resolve, invoke, builtin, I]) J
    simp_all
   case min =>
    unfold bBT at hc ⊢
    split at hc
    ·rename_i x y exy
     obtain ⟨p, q, epq, rfl, rfl⟩ : ∃ p q, args.toList = [p, q] ∧ ρ p = x ∧ ρ q = y := by
      match hl : args.toList, exy with
      | [p, q], ex => grind
     have hp := hargs p (by simp_all)
     have hq := hargs q (by simp_all)
     obtain ⟨u, I, J⟩ := aN8 (P := P) hp hq hc
     have I : (Builtin.min2 (a.eval p) (a.eval q)).run P w = .ok u w := I
     have e1 : args = #[p, q] := by grind
     exact Did.of_value O (by rw [e1]; simp [execOp, resolve, invoke, builtin, Builtin.min_, I]) J
    ·rename_i x y z W
     obtain ⟨p, q, r, epq, rfl, rfl, rfl⟩ : ∃ p q r, args.toList = [p, q, r] ∧ ρ p = x ∧ ρ q = y ∧ ρ r = z := by
      match hl : args.toList, W with
      | [p, q, r], ex => grind
     have hp := hargs p (by simp_all)
     have hq := hargs q (by simp_all)
     have hr' := hargs r (by simp_all)
     obtain ⟨u, I, J⟩ := aN8 (P := P) hp hq hc.1
     obtain ⟨u2, U, Z⟩ := aN8 (P := P) J hr' hc.2
     have I : (Builtin.min2 (a.eval p) (a.eval q)).run P w = .ok u w := I
     have U : (Builtin.min2 u (a.eval r)).run P w = .ok u2 w := U
     have e1 : args = #[p, q, r] := by grind
     exact Did.of_value O (by rw [e1]; simp [execOp, resolve, invoke, builtin, Builtin.min_, I, U]) Z
    simp_all
   case max =>
    unfold bBT at hc ⊢
    split at hc
    ·rename_i x y exy
     obtain ⟨p, q, epq, rfl, rfl⟩ : ∃ p q, args.toList = [p, q] ∧ ρ p = x ∧ ρ q = y := by
      match hl : args.toList, exy with
      | [p, q], ex => grind
     have hp := hargs p (by simp_all)
     have hq := hargs q (by simp_all)
     obtain ⟨u, I, J⟩ := aN8 (P := P) hp hq hc
     have I : (Builtin.max2 (a.eval p) (a.eval q)).run P w = .ok u w := I
     have e1 : args = #[p, q] := by grind
     exact Did.of_value O (by rw [e1]; simp [execOp, resolve, invoke, builtin, Builtin.max_, I]) J
    ·rename_i x y z W
     obtain ⟨p, q, r, epq, rfl, rfl, rfl⟩ : ∃ p q r, args.toList = [p, q, r] ∧ ρ p = x ∧ ρ q = y ∧ ρ r = z := by
      match hl : args.toList, W with
      | [p, q, r], ex => grind
     have hp := hargs p (by simp_all)
     have hq := hargs q (by simp_all)
     have hr' := hargs r (by simp_all)
     obtain ⟨u, I, J⟩ := aN8 (P := P) hp hq hc.1
     obtain ⟨u2, U, Z⟩ := aN8 (P := P) J hr' hc.2
     have I : (Builtin.max2 (a.eval p) (a.eval q)).run P w = .ok u w := I
     have U : (Builtin.max2 u (a.eval r)).run P w = .ok u2 w := U
     have e1 : args = #[p, q, r] := by grind
     exact Did.of_value O (by rw [e1]; simp [execOp, resolve, invoke, builtin, Builtin.max_, I, U]) Z
    simp_all
  | value f =>
   have hf := j f (by simp [Call.operands])
   simp only [aMw] at hc ⊢
   have hav := aKg (ρ := ρ) (a := a) (c := c) (w := w) hargs
   split at hc
   ·rename_i g l2 e
    rw [e] at hf
    split at hc
    ·rename_i hb
     simp only [e, if_pos hb]
     obtain ⟨hl2, hfv⟩ := aZY hf
     grind [aRE, aI5]
    simp_all
   ·rename_i g t y e
    rw [e] at hf
    split at hc
    ·rename_i hb
     simp only [e, if_pos hb]
     grind [aWV, aRD, aRE]
    simp_all
   simp_all
  | _ => exact hc.elim
end
end Go.Vc

