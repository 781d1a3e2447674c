import Derived.Test.YtcpnniahnmjnpaaGreatDoorZL1
import Derived.Laws.IdiomStrings
import Derived.Laws.BytesArg
import Derived.MapKept
set_option linter.unusedVariables false
set_option linter.unusedSimpArgs false
namespace Go.Vc
open Go.RowKit
section
variable {P : Program} {T : Tab} {M : Perm} {w0 : World} {c : Ctx} {h : List Obj} {w : World}
theorem zP {ix : AV} {v : Value} {i : Int} (hv : aX c w ix v) (hi : aBy ix = some i) : ∃ k, v = .int k i := by
 cases ix with
 | val t x =>
  cases t with
  | i k => simp only [aBy] at hi; cases hi; exact ⟨k, (aHc hv).1⟩
  | u k => simp only [aBy] at hi; cases hi; exact ⟨k, (aII hv).1⟩
  | _ => simp [aBy] at hi
 | _ => simp [aBy] at hi
theorem aC0 {t : Ty} {xs : List t.den} {v : Value} (hv : dF w c.S (.sl t) xs v) : ∃ a len cap, v = .slice a len cap ∧ SlR w c.S (bE w c.S t) t.cells xs a len cap := by
 simp only [dF, Ty.isAgg, Bool.false_eq_true, if_false] at hv
 obtain ⟨a, len, cap, e, h⟩ := hv
 simp at e
 exact ⟨a, len, cap, e, h⟩
theorem aBg {i : Nat} {v : Value} (hv : aX c w (.own i) v) : i < c.n ∧ v = c.hd i := by
 obtain ⟨h1, _, h3⟩ := hv
 simp only [aN] at h1
 have h3 := h3 rfl
 refine ⟨h1.1, ?_⟩
 have := h1.2.1
 cases v <;> simp [Value.cells] at this h3 <;> first | exact this | skip
theorem aSx {t : Ty} {xs : List t.den} {v : Value} (hv : aX c w (.full t xs) v) : ∃ a n, v = .slice a n n ∧ SlR w c.S (bE w c.S t) t.cells xs a n n := by
 obtain ⟨h1, _, h3⟩ := hv
 simp only [aN] at h1
 obtain ⟨a, n, e, h⟩ := h1
 have h3 := h3 rfl
 refine ⟨a, n, ?_, h⟩
 cases v <;> simp [Value.cells] at e h3 <;> first | (simp [e]; done) | skip
theorem gC {t : TypeId} {ct : Ty} (hTy : aCq P T t (.sl ct)) : ∃ e, P.underlying t = some (.slice e) ∧ T e = some ct ∧ 0 < ct.cells := by
 obtain ⟨d, hd, hb⟩ := hTy.desc
 cases d <;> simp [iR] at hb
 exact ⟨_, hd, hb⟩
theorem aC1 {t : TypeId} {n : Nat} {ct : Ty} (hTy : aCq P T t (.arr n ct)) : ∃ e, P.underlying t = some (.array n e) ∧ T e = some ct ∧ 0 < ct.cells ∧ 1 < n ∧ n ≤ 1048576 := by
 obtain ⟨d, hd, hb⟩ := hTy.desc
 cases d <;> simp [iR] at hb
 obtain ⟨⟨⟨rfl, h1⟩, h2⟩, h3, h4⟩ := hb
 exact ⟨_, hd, h1, h2, h3, h4⟩
theorem yQ {t : TypeId} (hTy : aCq P T t .str) : P.underlying t = some .string := by
 obtain ⟨d, hd, hb⟩ := hTy.desc
 cases d <;> simp [iR] at hb
 exact hd
theorem aON {t : TypeId} {ct : Ty} (hT : lD P T) (ht : T t = some (.sl ct)) {xs : List ct.den} {a : Option Addr} {len cap : Nat} (hs : SlR w c.S (bE w c.S ct) ct.cells xs a len cap) {i : Int} {k : IntKind} (h0 : 0 ≤ i) (h1 : i < (xs.length : Int)) :
  ∃ u, (Instr.indexAt t (.slice a len cap) (.int k i)).run P w = .ok u w ∧ aX c w (.roa ct (xs.getD i.toNat ct.zero)) u := by
 obtain ⟨e, hd, he, hpos⟩ := gC (hT _ _ ht)
 obtain ⟨hl, hle, hcap, hx⟩ := hs
 rcases hx with hx | ⟨b, off, rfl, hb, hcell⟩
 ·subst hx; simp at h1; omega
 ·obtain ⟨ds, hds, hc⟩ := hcell i.toNat (by omega)
  refine ⟨.pointer (some ⟨b, off + i.toNat * ct.cells, none⟩), ?_, aDP hb ?_ hc⟩
  ·have hlt : i < (len : Int) := by omega
   simp [Instr.indexAt, asIntOf, bD hd, h0, hlt, fP (hT _ _ he), Result.andThen, tE]
  ·rw [List.getD_eq_getElem?_getD, List.getElem?_eq_getElem (by omega)]; exact hds
theorem aRG {i s off n : Nat} {v : Value} (hv : aX c w (.sub i s off n) v) : i < c.n ∧ n ≤ maxLen ∧ ∃ b cap, aW (c.hd i) = some b ∧ v = .slice (some ⟨b, off * s, none⟩) n cap := by
 obtain ⟨h1, _, h3⟩ := hv
 simp only [aN] at h1
 obtain ⟨hi, hn, b, cap, hb, e⟩ := h1
 have h3 := h3 rfl
 refine ⟨hi, hn, b, cap, hb, ?_⟩
 cases v <;> simp [Value.cells] at e h3 <;> simp [e]
theorem aWm (hT : lD P T) (hg : Good M w0 c h w) {t : TypeId} {x ix : AV} {v iv : Value} (hv : aX c w x v) (hi : aX c w ix iv) (hc : (aJY T h t x ix).1) :
  ∃ u, (Instr.indexAt t v iv).run P w = .ok u w ∧ aX c w (aJY T h t x ix).2 u := by
 unfold aJY at hc ⊢
 cases hix : aBy ix with
 | none => simp [hix] at hc
 | some i =>
  obtain ⟨k, rfl⟩ := zP hi hix
  simp only [hix] at hc ⊢
  cases x with
  | val tx xs =>
   cases tx with
   | sl ct =>
    simp only at hc ⊢
    obtain ⟨a, len, cap, rfl, hs⟩ := aC0 hv.toV
    exact aON hT hc.1 hs hc.2.1 hc.2.2
   | _ => exact hc.elim
  | full ct xs =>
   simp only at hc ⊢
   obtain ⟨a, n, rfl, hs⟩ := aSx hv
   exact aON hT hc.1 hs hc.2.1 hc.2.2
  | own j =>
   obtain ⟨hj, rfl⟩ := aBg hv
   simp only at hc ⊢
   cases ho : h[j]? with
   | none => simp [ho] at hc
   | some o =>
    have hob := hg.objs j o ho
    cases o with
    | row e ct xs =>
     simp only [ho] at hc ⊢
     obtain ⟨ht, h0, h1⟩ := hc
     obtain ⟨e', hd, he, hpos⟩ := gC (hT _ _ ht)
     obtain ⟨vals, hown, _⟩ := hob
     obtain ⟨hlen, hvv⟩ := hown
     rcases hvv with ⟨hv0, h00⟩ | ⟨g, cap, cur, hv0, _, hheap, hle, hcap, hsz, htake⟩
     ·omega
     ·have hlt : i < (xs.length : Int) := h1
      refine ⟨.pointer (some ⟨g, nH [.idx ct.cells i.toNat], none⟩), ?_, aIm hj (by rw [hv0]; rfl)⟩
      rw [hv0]
      simp [Instr.indexAt, asIntOf, bD hd, h0, hlt, fP (hT _ _ he), Result.andThen, tE, nH, Step.off]
    | tre e m ct xs =>
     simp only [ho] at hc ⊢
     obtain ⟨ht, h0, h1⟩ := hc
     obtain ⟨e', hd, he, hpos⟩ := gC (hT _ _ ht)
     obtain ⟨B, ⟨vv, css, Bs, hvv0, hown, _⟩, _⟩ := hob
     obtain rfl : c.hd j = vv := (List.cons.inj hvv0).1
     obtain ⟨hlen, hvv⟩ := hown
     rcases hvv with ⟨hv0, h00⟩ | ⟨g, cap, cur, hv0, _, hheap, hle, hcap, hsz, htake⟩
     ·omega
     ·have hlt : i < (xs.length : Int) := h1
      refine ⟨.pointer (some ⟨g, nH [.idx ct.cells i.toNat], none⟩), ?_, aIm hj (by rw [hv0]; rfl)⟩
      rw [hv0]
      simp [Instr.indexAt, asIntOf, bD hd, h0, hlt, fP (hT _ _ he), Result.andThen, tE, nH, Step.off]
    | trh e m ct xs kk vk =>
     simp only [ho] at hc ⊢
     obtain ⟨ht, h0, h1⟩ := hc
     obtain ⟨e', hd, he, hpos⟩ := gC (hT _ _ ht)
     obtain ⟨css, Bs, hq⟩ := hob
     have hown := hq.row
     obtain ⟨hlen, hvv⟩ := hown
     rcases hvv with ⟨hv0, h00⟩ | ⟨g, cap, cur, hv0, _, hheap, hle, hcap, hsz, htake⟩
     ·omega
     ·have hlt : i < (xs.length : Int) := h1
      refine ⟨.pointer (some ⟨g, nH [.idx ct.cells i.toNat], none⟩), ?_, aIm hj (by rw [hv0]; rfl)⟩
      rw [hv0]
      simp [Instr.indexAt, asIntOf, bD hd, h0, hlt, fP (hT _ _ he), Result.andThen, tE, nH, Step.off]
    | frz ct xs =>
     simp only [ho] at hc ⊢
     obtain ⟨a, len, cap, e, hs⟩ := hob
     simp at e
     rw [e]
     exact aON hT hc.1 hs hc.2.1 hc.2.2
    | _ => simp [ho] at hc
  | sub j s off n =>
   obtain ⟨hj, hn, b, cap, hb, rfl⟩ := aRG hv
   simp only at hc ⊢
   cases ho : h[j]? with
   | none => simp [ho] at hc
   | some o =>
    cases o with
    | row e ct xs =>
     simp only [ho] at hc ⊢
     obtain ⟨ht, rfl, h0, h1⟩ := hc
     obtain ⟨e', hd, he, hpos⟩ := gC (hT _ _ ht)
     refine ⟨.pointer (some ⟨b, nH [.idx ct.cells (off + i.toNat)], none⟩), ?_, aIm hj hb⟩
     have e1 : off * ct.cells + i.toNat * ct.cells = (off + i.toNat) * ct.cells := (Nat.add_mul _ _ _).symm
     simp [Instr.indexAt, asIntOf, bD hd, h0, h1, fP (hT _ _ he), Result.andThen, tE, nH, Step.off, e1]
    | _ => simp [ho] at hc
  | ptr j p =>
   obtain ⟨hj, b, hb, rfl⟩ := aFB hv
   simp only at hc ⊢
   cases ht : T t with
   | none => simp [ht] at hc
   | some ct =>
    cases ct with
    | arr n ct =>
     simp only [ht] at hc ⊢
     obtain ⟨e, hd, he, hpos, hn⟩ := aC1 (hT _ _ ht)
     refine ⟨.pointer (some ⟨b, nH (p ++ [.idx ct.cells i.toNat]), none⟩), ?_, aIm hj hb⟩
     simp [Instr.indexAt, asIntOf, bD hd, hc.1, hc.2, fP (hT _ _ he), Result.andThen, tE, aFC, nH, Step.off, Instr.sureAddr]
    | _ => simp [ht] at hc
  | roa tx xs =>
   cases tx with
   | arr n ct =>
    simp only at hc ⊢
    obtain ⟨ht, h0, h1⟩ := hc
    obtain ⟨e, hd, he, hpos, hn⟩ := aC1 (hT _ _ ht)
    obtain ⟨b, off, ds, rfl, hb, hrep, hcell⟩ := aOt hv
    obtain ⟨pre, ds', post, e1, hp, hd'⟩ := aLt (c := c) (.val (.arr n ct) xs) i.toNat ds hrep (by simp only [elemOf]; omega)
    refine ⟨.pointer (some ⟨b, off + i.toNat * ct.cells, none⟩), ?_, aDP hb hd' ?_⟩
    ·simp [Instr.indexAt, asIntOf, bD hd, h0, h1, fP (hT _ _ he), Result.andThen, tE, Instr.sureAddr]
    ·have := aCs hcell e1
     rw [hp] at this; exact this
   | _ => exact hc.elim
  | _ => exact hc.elim
theorem qX (s : ByteArray) : (aS s).length = s.size := by
 obtain ⟨⟨l⟩⟩ := s; simp [aS, ByteArray.size]
theorem aWn (s : ByteArray) {i : Nat} (h : i < s.size) : (aS s).getD i 0 = s[i].toNat := by
 obtain ⟨⟨l⟩⟩ := s
 have h' : i < l.length := h
 simp only [aS, List.getD_eq_getElem?_getD, List.getElem?_map]
 rw [List.getElem?_eq_getElem h']
 rfl
theorem aWo (hT : lD P T) {t : TypeId} {x ix : AV} {v iv : Value} (hv : aX c w x v) (hi : aX c w ix iv) (hc : (aJZ T t x ix).1) :
  ∃ u, (Instr.index t v iv).run P w = .ok u w ∧ aX c w (aJZ T t x ix).2 u := by
 unfold aJZ at hc ⊢
 cases hix : aBy ix with
 | none => simp [hix] at hc
 | some i =>
  obtain ⟨k, rfl⟩ := zP hi hix
  simp only [hix] at hc ⊢
  cases x with
  | val tx xs =>
   cases tx with
   | arr n ct =>
    simp only at hc ⊢
    obtain ⟨ht, h0, h1⟩ := hc
    obtain ⟨e, hd, he, hpos, hn⟩ := aC1 (hT _ _ ht)
    obtain ⟨hr, h2, _⟩ := hv
    obtain ⟨cs, rfl⟩ := h2 rfl
    obtain ⟨pre, ds', post, e1, hp, hd'⟩ := aLt (c := c) (.val (.arr n ct) xs) i.toNat _ hr (by simp only [elemOf]; omega)
    obtain ⟨u, hu, hr'⟩ := aC6 (hT _ _ he) e1 hd' w
    rw [hp] at hu
    simp only [aQ2, Value.cells] at hu
    refine ⟨u, ?_, aX.ofV hr'⟩
    simp [Instr.index, asIntOf, bD hd, h0, h1, fP (hT _ _ he), Result.andThen, hu]
   | str =>
    simp only at hc ⊢
    obtain ⟨ht, h0, h1⟩ := hc
    have hd := yQ (hT _ _ ht)
    obtain ⟨s, rfl, rfl, hs⟩ := aMN hv
    rw [qX] at h1
    have hlt : i.toNat < s.size := by omega
    refine ⟨.int .u8 (s[i.toNat].toNat : Int), ?_, ?_⟩
    ·simp [Instr.index, asIntOf, bD hd, h0, getElem?_pos, hlt]
    ·rw [aWn s hlt]; exact aGU rfl (by simp [kI, IntKind.bits]; exact s[i.toNat].toNat_lt)
   | _ => exact hc.elim
  | _ => exact hc.elim
theorem aOO : (maxLen : Int) = IntKind.max .i64 := by simp [maxLen, IntKind.max, IntKind.signed, IntKind.bits]
theorem rW {n : Nat} (h : n ≤ maxLen) : fits .i64 (n : Int) := by
 refine ⟨?_, by rw [← aOO]; omega⟩
 simp [IntKind.min, IntKind.signed, IntKind.bits]
theorem aZl (hT : lD P T) (hg : Good M w0 c h w) {t ty : TypeId} {x : AV} {v : Value} (hv : aX c w x v) (hc : (aHg T h t x).1) :
  ∃ u, (Builtin.len_ #[t] ty #[v]).run P w = .ok u w ∧ aX c w (aHg T h t x).2 u := by
 cases x with
 | val tx xs =>
  cases tx with
  | str =>
   simp only [aHg] at hc ⊢
   obtain ⟨s, rfl, rfl, hs⟩ := aMN hv
   exact ⟨.int .i64 s.size, by simp [Builtin.len_, bD (yQ (hT _ _ hc)), goInt], by rw [qX]; exact yF rfl (rW hs)⟩
  | sl ct =>
   simp only [aHg] at hc ⊢
   obtain ⟨e, hd, _⟩ := gC (hT _ _ hc)
   obtain ⟨a, len, cap, rfl, hl, hle, hcap, _⟩ := aC0 hv.toV
   exact ⟨.int .i64 len, by simp [Builtin.len_, bD hd, goInt], by rw [hl]; exact yF rfl (rW (by omega))⟩
  | arr n ct =>
   simp only [aHg] at hc ⊢
   obtain ⟨e, hd, _, _, _, hn⟩ := aC1 (hT _ _ hc)
   exact ⟨.int .i64 n, by simp [Builtin.len_, bD hd, goInt], yF rfl (rW (by unfold maxLen; omega))⟩
  | _ => exact hc.elim
 | full ct xs =>
  simp only [aHg] at hc ⊢
  obtain ⟨e, hd, _⟩ := gC (hT _ _ hc)
  obtain ⟨a, n, rfl, hl, hle, hcap, _⟩ := aSx hv
  exact ⟨.int .i64 n, by simp [Builtin.len_, bD hd, goInt], by rw [hl]; exact yF rfl (rW (by omega))⟩
 | nilS =>
  simp only [aHg] at hc ⊢
  obtain ⟨ct, hc⟩ := hc
  obtain ⟨e, hd, _⟩ := gC (hT _ _ hc)
  obtain ⟨h1, _, h3⟩ := hv
  simp only [aN] at h1
  have h3 := h3 rfl
  have : v = .slice none 0 0 := by cases v <;> simp [Value.cells] at h1 h3 <;> simp [h1]
  subst this
  exact ⟨.int .i64 0, by simp [Builtin.len_, bD hd, goInt], yF rfl (rW (Nat.zero_le _))⟩
 | sub j s off n =>
  obtain ⟨hj, hn, b, cap, hb, rfl⟩ := aRG hv
  simp only [aHg] at hc ⊢
  obtain ⟨ct, hc⟩ := hc
  obtain ⟨e, hd, _⟩ := gC (hT _ _ hc)
  exact ⟨.int .i64 n, by simp [Builtin.len_, bD hd, goInt], yF rfl (rW hn)⟩
 | own j =>
  obtain ⟨hj, rfl⟩ := aBg hv
  simp only [aHg] at hc ⊢
  cases ho : h[j]? with
  | none => simp [ho] at hc
  | some o =>
   have hob := hg.objs j o ho
   cases o with
   | row e ct xs =>
    simp only [ho] at hc ⊢
    obtain ⟨e', hd, he, hpos⟩ := gC (hT _ _ hc)
    obtain ⟨vals, ⟨hlen, hvv⟩, _⟩ := hob
    rcases hvv with ⟨hv0, h00⟩ | ⟨g, cap, cur, hv0, _, hheap, hle, hcap, hsz, htake⟩
    ·rw [hv0, h00]
     exact ⟨.int .i64 0, by simp [Builtin.len_, bD hd, goInt], yF rfl (rW (Nat.zero_le _))⟩
    ·rw [hv0]
     exact ⟨.int .i64 xs.length, by simp [Builtin.len_, bD hd, goInt], yF rfl (rW (by omega))⟩
   | tre e m ct xs =>
    simp only [ho] at hc ⊢
    obtain ⟨e', hd, he, hpos⟩ := gC (hT _ _ hc)
    obtain ⟨B, ⟨vv, css, Bs, hvv0, ⟨hlen, hvv⟩, _⟩, _⟩ := hob
    obtain rfl : c.hd j = vv := (List.cons.inj hvv0).1
    rcases hvv with ⟨hv0, h00⟩ | ⟨g, cap, cur, hv0, _, hheap, hle, hcap, hsz, htake⟩
    ·rw [hv0, h00]
     exact ⟨.int .i64 0, by simp [Builtin.len_, bD hd, goInt], yF rfl (rW (Nat.zero_le _))⟩
    ·rw [hv0]
     exact ⟨.int .i64 xs.length, by simp [Builtin.len_, bD hd, goInt], yF rfl (rW (by omega))⟩
   | trh e m ct xs kk vk =>
    simp only [ho] at hc ⊢
    obtain ⟨e', hd, he, hpos⟩ := gC (hT _ _ hc)
    obtain ⟨css, Bs, hq⟩ := hob
    obtain ⟨hlen, hvv⟩ := hq.row
    rcases hvv with ⟨hv0, h00⟩ | ⟨g, cap, cur, hv0, _, hheap, hle, hcap, hsz, htake⟩
    ·rw [hv0, h00]
     exact ⟨.int .i64 0, by simp [Builtin.len_, bD hd, goInt], yF rfl (rW (Nat.zero_le _))⟩
    ·rw [hv0]
     exact ⟨.int .i64 xs.length, by simp [Builtin.len_, bD hd, goInt], yF rfl (rW (by omega))⟩
   | frz ct xs =>
    simp only [ho] at hc ⊢
    obtain ⟨e', hd, he, hpos⟩ := gC (hT _ _ hc)
    obtain ⟨a, len, cap, e, hl, hle, hcap, _⟩ := hob
    simp at e
    rw [e]
    exact ⟨.int .i64 len, by simp [Builtin.len_, bD hd, goInt], by rw [hl]; exact yF rfl (rW (by omega))⟩
   | _ => simp [ho] at hc
 | _ => exact hc.elim
theorem aZQ {op : UnOp} {x : AV} {v : Value} (hv : aX c w x v) (hc : (aTG op x).1) :
  ∃ u, (Op.unary op v).run P w = .ok u w ∧ aX c w (aTG op x).2 u := by
 cases x with
 | val t y =>
  cases t with
  | bool =>
   obtain rfl := aES hv
   cases op <;> simp only [aTG] at hc ⊢
   exact ⟨_, rfl, zM _⟩
  | i k =>
   obtain ⟨rfl, hk, hf⟩ := aHc hv
   cases op <;> simp only [aTG] at hc ⊢
   exact ⟨_, by simp only [Op.unary, Op.intArith, aHb hk hc]; rfl, yF hk hc⟩
  | u k =>
   obtain ⟨rfl, hk, hf⟩ := aII hv
   cases op <;> simp only [aTG] at hc ⊢
   ·have hp := aC5 k
    have := aRB (P := P) (w := w) (c := c) .sub 0 (a := 0) (b := y) hk hp hf (by simp [aRA])
    obtain ⟨u, hu, hr⟩ := this
    refine ⟨u, ?_, by simpa [aRA, aOs, aUw] using hr⟩
    simpa [binOp, Op.unary] using hu
   ·have hp := aC5 k
    have := aRB (P := P) (w := w) (c := c) .xor 0 (a := kI k - 1) (b := y) hk (by omega) hf (by simp [aRA])
    obtain ⟨u, hu, hr⟩ := this
    refine ⟨u, ?_, by simpa [aRA] using hr⟩
    have e : ((kI k - 1 : Nat) : Int) = k.max := by rw [aUr hk]; omega
    rw [e] at hu
    simpa [binOp, Op.unary, hk] using hu
  | _ => exact hc.elim
 | _ => exact hc.elim
theorem aUE {k k' : IntKind} (h : k.bits ≤ k'.bits) : kI k ≤ kI k' := Nat.pow_le_pow_right (by omega) h
theorem aTI {k k' : IntKind} (hk : k.signed = true) (hk' : k'.signed = true) (h : k.bits ≤ k'.bits) {n : Int} (hf : fits k n) : fits k' n := by
 obtain ⟨h1, h2⟩ := hf
 cases k <;> simp [IntKind.signed] at hk <;> cases k' <;> simp [IntKind.signed] at hk' <;> simp [IntKind.bits] at h <;> simp [fits, IntKind.min, IntKind.max, IntKind.signed, IntKind.bits] at h1 h2 ⊢ <;> omega
theorem aVv {k k' : IntKind} (hk : k.signed = false) (hk' : k'.signed = true) (h : k.bits < k'.bits) {n : Nat} (hf : n < kI k) : fits k' (n : Int) := by
 cases k <;> simp [IntKind.signed] at hk <;> cases k' <;> simp [IntKind.signed] at hk' <;> simp [IntKind.bits] at h <;> simp [fits, IntKind.min, IntKind.max, IntKind.signed, IntKind.bits, kI] at hf ⊢ <;> omega
theorem aUF (hT : lD P T) {src dst : TypeId} {x : AV} {v : Value} (hv : aX c w x v) (hc : (aLu T src dst x).1) :
  ∃ u, (convert src dst v).run P w = .ok u w ∧ aX c w (aLu T src dst x).2 u := by
 have hsrc : (T src).isSome = true → ∃ d, P.underlying src = some d := fun h => by
  obtain ⟨ct, hct⟩ := Option.isSome_iff_exists.1 h
  obtain ⟨d, hd, _⟩ := (hT _ _ hct).desc
  exact ⟨d, hd⟩
 unfold aLu at hc ⊢
 cases hdst : T dst with
 | none => simp [hdst] at hc
 | some cd =>
  obtain ⟨dd, hdd, hdb⟩ := (hT _ _ hdst).desc
  cases x with
  | val t y =>
   cases cd with
   | u k =>
    cases dd <;> simp [iR] at hdb
    obtain ⟨rfl, hks⟩ := hdb
    cases t with
    | u k0 =>
     simp only [hdst] at hc ⊢
     obtain ⟨ds, hds⟩ := hsrc hc
     obtain ⟨rfl, hk0, hy⟩ := aII hv
     refine ⟨_, by simp [convert, bD hds, bD hdd, Conv.intToInt]; rfl, ?_⟩
     rw [nI hks]
     split
     ·rename_i hle; rw [Nat.mod_eq_of_lt (Nat.lt_of_lt_of_le hy (aUE hle))]; exact aGU hks (Nat.lt_of_lt_of_le hy (aUE hle))
     ·exact aGU hks (Nat.mod_lt _ (aC5 _))
    | i k0 =>
     simp only [hdst] at hc ⊢
     obtain ⟨ds, hds⟩ := hsrc hc
     obtain ⟨rfl, hk0, hy⟩ := aHc hv
     refine ⟨_, by simp [convert, bD hds, bD hdd, Conv.intToInt]; rfl, ?_⟩
     rw [aTB hks]
     have hp := aC5 k
     have h1 := Int.emod_nonneg y (show (kI k : Int) ≠ 0 by omega)
     have h2 := Int.emod_lt_of_pos y (show (0 : Int) < kI k by omega)
     have := aGU (c := c) (w := w) (n := (y % (kI k : Int)).toNat) hks (by omega)
     rw [show (((y % (kI k : Int)).toNat : Nat) : Int) = y % (kI k : Int) from Int.toNat_of_nonneg h1] at this
     exact this
    | _ => simp [hdst] at hc
   | i k =>
    cases dd <;> simp [iR] at hdb
    obtain ⟨rfl, hks⟩ := hdb
    cases t with
    | u k0 =>
     simp only [hdst] at hc ⊢
     obtain ⟨ds, hds⟩ := hsrc hc
     obtain ⟨rfl, hk0, hy⟩ := aII hv
     refine ⟨_, by simp [convert, bD hds, bD hdd, Conv.intToInt]; rfl, ?_⟩
     split
     ·rename_i hlt; have hf := aVv hk0 hks hlt hy; rw [aHb hks hf]; exact yF hks hf
     ·exact yF hks (aER hks _)
    | i k0 =>
     simp only [hdst] at hc ⊢
     obtain ⟨ds, hds⟩ := hsrc hc
     obtain ⟨rfl, hk0, hy⟩ := aHc hv
     refine ⟨_, by simp [convert, bD hds, bD hdd, Conv.intToInt]; rfl, ?_⟩
     split
     ·rename_i hlt; have hf := aTI hk0 hks hlt hy; rw [aHb hks hf]; exact yF hks hf
     ·exact yF hks (aER hks _)
    | _ => simp [hdst] at hc
   | str =>
    cases dd <;> simp [iR] at hdb
    cases t with
    | str =>
     simp only [hdst] at hc ⊢
     obtain ⟨s, rfl, rfl, hs⟩ := aMN hv
     exact ⟨_, by simp [convert, bD (yQ (hT _ _ hc)), bD hdd], aXU hs⟩
    | _ => simp [hdst] at hc
   | _ => cases t <;> simp [hdst] at hc
  | _ => cases cd <;> simp [hdst] at hc
theorem aUG (op : BinOp) (t : TypeId) {k k' : IntKind} {a : Nat} {b : Int} (hk : k.signed = false) (ha : a < kI k) (h0 : 0 ≤ b) (h : (shU op k a b.toNat).1) :
  ∃ v, (binOp op t (.int k a) (.int k' b)).run P w = .ok v w ∧ aX c w (shU op k a b.toNat).2 v := by
 have := aTC (P := P) (w := w) (c := c) op t (k := k) (k' := k') (a := a) (n := b.toNat) hk ha h
 rw [show ((b.toNat : Nat) : Int) = b from by omega] at this
 exact this
theorem aUH (op : BinOp) (t : TypeId) {k k' : IntKind} {a b : Int} (hk : k.signed = true) (ha : fits k a) (h0 : 0 ≤ b) (hn : op = .shl → b ≤ k.bits) (h : (shI op k a b.toNat).1) :
  ∃ v, (binOp op t (.int k a) (.int k' b)).run P w = .ok v w ∧ aX c w (shI op k a b.toNat).2 v := by
 have := aTD (P := P) (w := w) (c := c) op t (k := k) (k' := k') (a := a) (n := b.toNat) hk ha (fun e => by have := hn e; omega) h
 rw [show ((b.toNat : Nat) : Int) = b from by omega] at this
 exact this
theorem aSy (a b : ByteArray) : aS (a ++ b) = aS a ++ aS b := by
 obtain ⟨⟨a⟩⟩ := a
 obtain ⟨⟨b⟩⟩ := b
 show List.map _ ((ByteArray.mk ⟨a⟩ ++ ByteArray.mk ⟨b⟩).data.toList) = _
 rw [ByteArray.data_append]
 simp [aS]
theorem aUI : ∀ (a b : List UInt8), Op.bytesLess a b = aIJ (a.map (·.toNat)) (b.map (·.toNat))
 | a, [] => by cases a <;> simp [Op.bytesLess, aIJ]
 | [], b :: r => by simp [Op.bytesLess, aIJ]
 | a :: x, b :: y => by
  simp only [Op.bytesLess, List.map_cons, aIJ, aUI x y]
  have e1 : decide (a < b) = decide (a.toNat < b.toNat) := by rw [Bool.eq_iff_iff]; simp [UInt8.lt_iff_toNat_lt]
  have e2 : (a == b) = decide (a.toNat = b.toNat) := by rw [Bool.eq_iff_iff]; simp [UInt8.toNat_inj]
  rw [e1, e2]
theorem aMQ (s : ByteArray) : aS s = s.toList.map (·.toNat) := by rw [ByteArray.toList_eq]; rfl
theorem aX3 {op : BinOp} (t : TypeId) {s r : ByteArray} (hs : s.size ≤ maxLen) (hr : r.size ≤ maxLen) (hc : (aWb op (aS s) (aS r)).1) :
  ∃ u, (binOp op t (.string s) (.string r)).run P w = .ok u w ∧ aX c w (aWb op (aS s) (aS r)).2 u := by
 have hl : Op.bytesLess s.toList r.toList = aIJ (aS s) (aS r) := by rw [aUI, ← aMQ, ← aMQ]
 cases op <;> simp only [aWb] at hc ⊢
 case add =>
  rw [qX, qX] at hc
  have hsz : (s ++ r).size = s.size + r.size := by simp
  refine ⟨.string (s ++ r), ?_, by rw [← aSy]; exact aXU (by rw [hsz]; exact hc)⟩
  have : ¬ (((s.size + r.size : Nat) : Int) > IntKind.max .i64) := by rw [← aOO]; omega
  simp only [binOp, Op.stringOp, this, if_false]; rfl
 case eql => exact ⟨_, by simp only [binOp, Op.stringOp, aVp]; rfl, zM _⟩
 case neq => exact ⟨_, by simp only [binOp, Op.stringOp, aVp]; rfl, zM _⟩
 case lss => exact ⟨_, by simp only [binOp, Op.stringOp, hl]; rfl, zM _⟩
 case leq => exact ⟨_, by simp only [binOp, Op.stringOp, hl, aVp]; rfl, zM _⟩
 case gtr => exact ⟨_, by simp only [binOp, Op.stringOp, hl, aVp]; rfl, zM _⟩
 case geq => exact ⟨_, by simp only [binOp, Op.stringOp, hl]; rfl, zM _⟩
theorem aZm (hT : lD P T) {op : BinOp} {t : TypeId} {x y : AV} {v u : Value} (hv : aX c w x v) (hu : aX c w y u) (hc : (aBx T op t x y).1) :
  ∃ r, (binOp op t v u).run P w = .ok r w ∧ aX c w (aBx T op t x y).2 r := by
 have hagg : ∀ (ct : Ty) (a b : ct.den) (v u : Value), ct.isAgg = true → aX c w (.val ct a) v → aX c w (.val ct b) u → T t = some ct → ct.cmpB = true → ct.deep ≤ 100 →
   (binOp .eql t v u).run P w = .ok (.bool (ct.eqb a b)) w ∧ (binOp .neq t v u).run P w = .ok (.bool (!ct.eqb a b)) w := by
  intro ct a b v u ha hv hu ht hcm hd
  have heq := aFx hT w ht hcm hd hv.toV hu.toV
  obtain ⟨cs, rfl⟩ := hv.2.1 ha
  obtain ⟨cs', rfl⟩ := hu.2.1 ha
  constructor
  ·simp [binOp, heq]
  ·simp [binOp, heq]
 cases x with
 | val t1 a =>
  cases t1 with
  | u k =>
   cases y with
   | val t2 b =>
    cases t2 with
    | u k' =>
     obtain ⟨rfl, hk, ha⟩ := aII hv
     obtain ⟨rfl, hk', hb⟩ := aII hu
     cases op
     case shl => exact aTC (P := P) .shl t hk ha (by simp [shU])
     case shr => exact aTC (P := P) .shr t hk ha (by simp [shU])
     all_goals
      simp only [aBx] at hc ⊢
      split at hc
      ·rename_i e; subst e; simp only [if_true]; exact aRB _ t hk ha hb hc
      ·exact hc.elim
    | i k' =>
     obtain ⟨rfl, hk, ha⟩ := aII hv
     obtain ⟨rfl, hk', hb⟩ := aHc hu
     cases op <;> simp only [aBx] at hc ⊢
     case shl => exact aUG (P := P) .shl t hk ha hc (by simp [shU])
     case shr => exact aUG (P := P) .shr t hk ha hc (by simp [shU])
    | _ => exact hc.elim
   | _ => exact hc.elim
  | i k =>
   cases y with
   | val t2 b =>
    cases t2 with
    | i k' =>
     obtain ⟨rfl, hk, ha⟩ := aHc hv
     obtain ⟨rfl, hk', hb⟩ := aHc hu
     cases op
     case shl =>
      simp only [aBx] at hc ⊢
      exact aUH (P := P) .shl t hk ha hc.1 (fun _ => hc.2.1) hc.2.2
     case shr =>
      simp only [aBx] at hc ⊢
      exact aUH (P := P) .shr t hk ha hc (fun h => by cases h) (by simp [shI])
     all_goals
      simp only [aBx] at hc ⊢
      split at hc
      ·rename_i e; subst e; simp only [if_true]; exact aXW _ t hk ha hb hc
      ·exact hc.elim
    | u k' =>
     obtain ⟨rfl, hk, ha⟩ := aHc hv
     obtain ⟨rfl, hk', hb⟩ := aII hu
     cases op <;> simp only [aBx] at hc ⊢
     case shl => exact aTD (P := P) .shl t hk ha (fun _ => hc.1) hc.2
     case shr => exact aTD (P := P) .shr t hk ha (fun h => by cases h) (by simp [shI])
    | _ => exact hc.elim
   | _ => exact hc.elim
  | str =>
   cases y with
   | val t2 b =>
    cases t2 with
    | str =>
     simp only [aBx] at hc ⊢
     obtain ⟨s, rfl, rfl, hs⟩ := aMN hv
     obtain ⟨r, rfl, rfl, hr⟩ := aMN hu
     exact aX3 t hs hr hc
    | _ => exact hc.elim
   | _ => exact hc.elim
  | bool =>
   cases y with
   | val t2 b =>
    cases t2 with
    | bool =>
     simp only [aBx] at hc ⊢
     obtain rfl := aES hv
     obtain rfl := aES hu
     have heq := aFx (P := P) (T := T) hT w (S := c.S) (w := w) (x := a) (y := b) hc.1 rfl (by simp [Ty.deep]) hv.toV hu.toV
     have hc2 := hc.2
     cases op <;> simp only [aXV] at hc2 ⊢
     ·exact ⟨.bool (a == b), by simp only [binOp, Sem.run_bind, heq, Result.andThen_ok]; rfl, zM _⟩
     ·exact ⟨.bool (a != b), by simp only [binOp, Sem.run_bind, heq, Result.andThen_ok]; rfl, zM _⟩
    | _ => exact hc.elim
   | _ => exact hc.elim
  | pair p q =>
   cases y with
   | val t2 b =>
    simp only [aBx] at hc ⊢
    by_cases e : t2 = .pair p q
    ·subst e
     simp only [dite_true] at hc ⊢
     cases op <;> simp only at hc ⊢ <;> (try exact hc.elim)
     ·exact ⟨_, (hagg _ _ _ _ _ rfl hv hu hc.1 hc.2.1 hc.2.2).1, zM _⟩
     ·exact ⟨_, (hagg _ _ _ _ _ rfl hv hu hc.1 hc.2.1 hc.2.2).2, zM _⟩
    ·simp only [e, dite_false] at hc
   | _ => exact hc.elim
  | arr n q =>
   cases y with
   | val t2 b =>
    simp only [aBx] at hc ⊢
    by_cases e : t2 = .arr n q
    ·subst e
     simp only [dite_true] at hc ⊢
     cases op <;> simp only at hc ⊢ <;> (try exact hc.elim)
     ·exact ⟨_, (hagg _ _ _ _ _ rfl hv hu hc.1 hc.2.1 hc.2.2).1, zM _⟩
     ·exact ⟨_, (hagg _ _ _ _ _ rfl hv hu hc.1 hc.2.1 hc.2.2).2, zM _⟩
    ·simp only [e, dite_false] at hc
   | _ => exact hc.elim
  | _ => exact hc.elim
 | _ => exact hc.elim
end
end Go.Vc
namespace Go.Vc
open Go.RowKit
section
variable {P : Program} {T : Tab} {M : Perm} {w0 : World} {c : Ctx} {h : List Obj} {w : World}
theorem gY {i : Int} {k : IntKind} {y : Nat} {code : BoundsCode} (h0 : 0 ≤ i) (h1 : i ≤ (y : Int)) : (Instr.sliceBound (.int k i) y code).run P w = .ok i.toNat w := by
 simp [Instr.sliceBound, asIntOf, h0, h1]
inductive aQo (c : Ctx) (w : World) : Option AV → Option Value → Prop where
 | none : aQo c w none none
 | some {a : AV} {v : Value} (h : aX c w a v) : aQo c w (some a) (some v)
theorem aA6 {o : Option AV} {v : Option Value} (hv : aQo c w o v) {i : Int} (hi : o.map aBy = some (some i)) : ∃ k, v = some (.int k i) := by
 cases hv with
 | none => cases hi
 | some hv =>
  simp at hi
  obtain ⟨k, rfl⟩ := zP hv hi
  exact ⟨k, rfl⟩
theorem rX {o : Option AV} {v : Option Value} (hv : aQo c w o v) (hi : o.map aBy = none) : v = none := by
 cases hv with
 | none => rfl
 | some hv => simp at hi
theorem aRH (s : ByteArray) (l n : Nat) : aS (s.extract l n) = ((aS s).take n).drop l := by
 obtain ⟨⟨x⟩⟩ := s
 simp only [aS, ByteArray.data_extract, List.extract_toArray, List.extract_eq_take_drop]
 simp [List.map_take, List.map_drop, List.drop_take]
theorem aIo {t : TypeId} (hd : P.underlying t = some .string) {s : ByteArray} (hs : s.size ≤ maxLen) {lo hi : Option Value} {l u : Nat}
  (hb : (Instr.sliceBounds false s.size s.size lo hi none).run P w = .ok (l, u, s.size) w) :
  (Instr.sliceAt t (.string s) lo hi none).run P w = .ok (.string (s.extract l u)) w ∧ aX c w (.val .str (((aS s).take u).drop l)) (.string (s.extract l u)) := by
 refine ⟨by simp [Instr.sliceAt, Instr.slice, bD hd, hb], ?_⟩
 rw [← aRH]
 refine aXU ?_
 have : (s.extract l u).size ≤ s.size := by simp; omega
 omega
theorem aEU {t e : TypeId} {ct : Ty} (hd : P.underlying t = some (.slice e)) (he : aCq P T e ct) {xs : List ct.den} {a : Option Addr} {len cap : Nat} (hs : SlR w c.S (bE w c.S ct) ct.cells xs a len cap) {lo hi mx : Option Value} {l u m : Nat}
  (hb : (Instr.sliceBounds true len cap lo hi mx).run P w = .ok (l, u, m) w) (h1 : l ≤ u) (h2 : u ≤ len) (h3 : u ≤ m) (h4 : m ≤ cap) :
  ∃ a' , (Instr.sliceAt t (.slice a len cap) lo hi mx).run P w = .ok (.slice a' (u - l) (m - l)) w ∧ SlR w c.S (bE w c.S ct) ct.cells ((xs.take u).drop l) a' (u - l) (m - l) := by
 refine ⟨if m = l then a else a.map (·.add (l * ct.cells)), by simp [Instr.sliceAt, Instr.slice, bD hd, hb, fP he], ?_⟩
 obtain ⟨hl, hle, hcap, hx⟩ := hs
 refine ⟨by simp; omega, by omega, by omega, ?_⟩
 rcases hx with hx | ⟨b, off, rfl, hb', hcell⟩
 ·subst hx; left; simp
 ·by_cases hml : m = l
  ·left
   have : u = l := by omega
   rw [this]; simp
  ·right
   refine ⟨b, off + l * ct.cells, by simp [hml, tE], hb', fun i hi => ?_⟩
   have hi' : l + i < xs.length := by simp at hi; omega
   obtain ⟨ds, hds, hc⟩ := hcell (l + i) hi'
   refine ⟨ds, ?_, ?_⟩
   ·have : ((xs.take u).drop l)[i] = xs[l + i] := by simp
    rw [this]; exact hds
   ·rw [show off + l * ct.cells + i * ct.cells = off + (l + i) * ct.cells from by rw [Nat.add_mul]; omega]; exact hc
theorem Good.frz (hg : Good M w0 c h w) : Good M w0 c (h.map gB) w := by
 have hget : ∀ i : Nat, (h.map gB)[i]? = (h[i]?).map gB := fun i => by simp
 have hob : ∀ (i : Nat) (o : Obj), (h.map gB)[i]? = some o → o = .dead ∨ h[i]? = some o := fun i o ho => by
  rw [hget] at ho
  cases hi : h[i]? with
  | none => simp [hi] at ho
  | some o' =>
   rw [hi] at ho
   simp only [Option.map_some, Option.some.injEq] at ho
   cases o' <;> simp only [gB] at ho <;> subst ho <;> first | exact .inl rfl | exact .inr rfl
 refine ⟨by rw [hg.n]; simp, hg.keeps, hg.sfin, hg.src, fun i o ho => ?_, fun i o b ho hb => ?_, fun i j oi oj b hi hj hbi hbj => ?_, hg.root⟩
 ·rcases hob i o ho with rfl | ho
  ·trivial
  ·exact hg.objs i o ho
 ·rcases hob i o ho with rfl | ho
  ·simp [fN] at hb
  ·exact hg.own i o b ho hb
 ·rcases hob i oi hi with rfl | hi
  ·simp [fN] at hbi
  ·rcases hob j oj hj with rfl | hj
   ·simp [fN] at hbj
   ·exact hg.sep i j oi oj b hi hj hbi hbj
theorem aLx (b : Nat) (hb : aDO c (h.map gB) b) : c.S b := by
 rcases hb with hb | ⟨i, o', ho, hb⟩
 ·exact hb
 ·simp only [List.getElem?_map] at ho
  cases hi : h[i]? with
  | none => simp [hi] at ho
  | some o => rw [hi] at ho; simp only [Option.map_some, Option.some.injEq] at ho; subst ho; cases o <;> simp [gB, fN] at hb
theorem aSz {av : AV} {v : Value} {t : Ty} {x : t.den} (hv : aX c w av v) (ha : AV.as h t av = some x) : aN c w av v.cells.toList ∧ (av.isAgg = true → ∃ cs, v = .agg cs) ∧ (av.isAgg = false → ∀ cs, v ≠ .agg cs) := by
 cases av with
 | junk => cases t <;> simp [AV.as] at ha
 | undef => cases t <;> simp [AV.as] at ha
 | tup vs => cases t <;> simp [AV.as] at ha
 | _ => exact hv
theorem aIp (hg : Good M w0 c h w) {av : AV} {v : Value} {t : Ty} {x : t.den} (hv : aX c w av v) (ha : AV.as h t av = some x) : dF w (aDO c h) t x v := by
 obtain ⟨h1, h2, h3⟩ := aSz hv ha
 obtain ⟨hr, he⟩ := aYW hg t av x _ ha h1
 exact dF.of_cells (fun e => h2 (by rw [← he]; exact e)) (fun e => h3 (by rw [← he]; exact e)) hr
theorem vF (hg : Good M w0 c h w) {av : AV} {v : Value} {t : Ty} {x : t.den} (hv : aX c w av v) (ha : AV.as (h.map gB) t av = some x) : dF w c.S t x v :=
 (aIp hg.frz hv ha).keep aLx (.refl _ _)
theorem aWp (hT : lD P T) (hg : Good M w0 c h w) {t : TypeId} {x : AV} {v : Value} {lo hi mx : Option AV} {lv hv mv : Option Value} (hx : aX c w x v) (hlo : aQo c w lo lv) (hhi : aQo c w hi hv) (hmx : aQo c w mx mv) (hc : (aJ0 T h t x lo hi mx).1) :
  ∃ u, (Instr.sliceAt t v lv hv mv).run P w = .ok u w ∧ aX c w (aJ0 T h t x lo hi mx).2 u := by
 unfold aJ0 at hc ⊢
 cases ht : T t with
 | none => simp [ht] at hc
 | some ct =>
  cases ct with
  | str =>
   simp only [ht] at hc ⊢
   have hd := yQ (hT _ _ ht)
   split at hc
   ·rename_i s
    cases hmx
    obtain ⟨s, rfl, rfl, hs⟩ := aMN hx
    have hlen := qX s
    split at hc
    ·rename_i e1 e2
     obtain rfl := rX hlo e1
     obtain rfl := rX hhi e2
     have := aIo (c := c) (w := w) hd hs (lo := none) (hi := none) (l := 0) (u := s.size) (by simp [Instr.sliceBounds])
     refine ⟨_, this.1, ?_⟩
     have e : ((aS s).take s.size).drop 0 = aS s := by rw [List.drop_zero, List.take_of_length_le (by omega)]
     rw [e] at this
     simp only [e1, e2]
     exact this.2
    ·rename_i l e1 e2
     obtain ⟨k, rfl⟩ := aA6 hlo e1
     obtain rfl := rX hhi e2
     rw [hlen] at hc
     have := aIo (c := c) (w := w) hd hs (lo := some (.int k l)) (hi := none) (l := l.toNat) (u := s.size) (by simp [Instr.sliceBounds, gY hc.1 hc.2])
     refine ⟨_, this.1, ?_⟩
     have e : ((aS s).take s.size).drop l.toNat = (aS s).drop l.toNat := by rw [List.take_of_length_le (by omega)]
     rw [e] at this
     simp only [e1, e2]
     exact this.2
    ·rename_i u e1 e2
     obtain rfl := rX hlo e1
     obtain ⟨k, rfl⟩ := aA6 hhi e2
     rw [hlen] at hc
     have := aIo (c := c) (w := w) hd hs (lo := none) (hi := some (.int k u)) (l := 0) (u := u.toNat) (by simp [Instr.sliceBounds, gY hc.1 hc.2])
     refine ⟨_, this.1, ?_⟩
     simp only [e1, e2]
     simpa using this.2
    ·rename_i l u e1 e2
     obtain ⟨k, rfl⟩ := aA6 hlo e1
     obtain ⟨k', rfl⟩ := aA6 hhi e2
     rw [hlen] at hc
     obtain ⟨h0, h1, h2⟩ := hc
     have := aIo (c := c) (w := w) hd hs (lo := some (.int k l)) (hi := some (.int k' u)) (l := l.toNat) (u := u.toNat) (by simp [Instr.sliceBounds, gY (P := P) (w := w) (show 0 ≤ u by omega) h2, gY (P := P) (w := w) (i := l) (y := u.toNat) h0 (by omega)])
     refine ⟨_, this.1, ?_⟩
     simp only [e1, e2]
     exact this.2
    ·exact hc.elim
   ·exact hc.elim
  | sl ct =>
   simp only [ht] at hc ⊢
   obtain ⟨e, hd, he, hpos⟩ := gC (hT _ _ ht)
   have hTe := hT _ _ he
   cases hl : aTH h ct x with
   | none => simp [hl] at hc
   | some xs =>
    simp only [hl] at hc ⊢
    obtain ⟨a, len, cap, rfl, hs⟩ := aC0 (vF hg hx hl)
    have hlen := hs.1
    have hle := hs.2.1
    have mk : ∀ {ys : List ct.den} {a' : Option Addr} {n m : Nat}, SlR w c.S (bE w c.S ct) ct.cells ys a' n m → aX c w (.val (.sl ct) ys) (.slice a' n m) := fun hs' => ⟨⟨_, _, _, rfl, hs'⟩, (fun h => by cases h), (fun _ cs => by simp)⟩
    have mkF : ∀ {ys : List ct.den} {a' : Option Addr} {n m : Nat}, SlR w c.S (bE w c.S ct) ct.cells ys a' n m → m = n → aX c w (.full ct ys) (.slice a' n m) := fun hs' e => by subst e; exact ⟨⟨_, _, rfl, hs'⟩, (fun h => by cases h), (fun _ cs => by simp)⟩
    split at hc
    ·rename_i e1 e2 e3
     obtain rfl := rX hlo e1
     obtain rfl := rX hhi e2
     obtain rfl := rX hmx e3
     obtain ⟨a', h1, h2⟩ := aEU (w := w) hd hTe hs (lo := none) (hi := none) (mx := none) (l := 0) (u := len) (m := cap) (by simp [Instr.sliceBounds]) (Nat.zero_le _) (Nat.le_refl _) hle (Nat.le_refl _)
     refine ⟨_, h1, ?_⟩
     have e : (xs.take len).drop 0 = xs := by rw [List.drop_zero, List.take_of_length_le (by omega)]
     rw [e] at h2
     simp only [e1, e2, e3]
     exact mk h2
    ·rename_i l e1 e2 e3
     obtain ⟨k, rfl⟩ := aA6 hlo e1
     obtain rfl := rX hhi e2
     obtain rfl := rX hmx e3
     rw [hlen] at hc
     obtain ⟨a', h1, h2⟩ := aEU (w := w) hd hTe hs (lo := some (.int k l)) (hi := none) (mx := none) (l := l.toNat) (u := len) (m := cap) (by simp [Instr.sliceBounds, gY hc.1 hc.2]) (by omega) (Nat.le_refl _) hle (Nat.le_refl _)
     refine ⟨_, h1, ?_⟩
     have e : (xs.take len).drop l.toNat = xs.drop l.toNat := by rw [List.take_of_length_le (by omega)]
     rw [e] at h2
     simp only [e1, e2, e3]
     exact mk h2
    ·rename_i u e1 e2 e3
     obtain rfl := rX hlo e1
     obtain ⟨k, rfl⟩ := aA6 hhi e2
     obtain rfl := rX hmx e3
     rw [hlen] at hc
     obtain ⟨a', h1, h2⟩ := aEU (w := w) hd hTe hs (lo := none) (hi := some (.int k u)) (mx := none) (l := 0) (u := u.toNat) (m := cap) (by simp [Instr.sliceBounds, gY (P := P) (w := w) (y := cap) hc.1 (by omega)]) (by omega) (by omega) (by omega) (Nat.le_refl _)
     refine ⟨_, h1, ?_⟩
     simp only [e1, e2, e3]
     exact mk (by simpa using h2)
    ·rename_i l u e1 e2 e3
     obtain ⟨k, rfl⟩ := aA6 hlo e1
     obtain ⟨k', rfl⟩ := aA6 hhi e2
     obtain rfl := rX hmx e3
     rw [hlen] at hc
     obtain ⟨h0, h1, h2⟩ := hc
     obtain ⟨a', h1, h2⟩ := aEU (w := w) hd hTe hs (lo := some (.int k l)) (hi := some (.int k' u)) (mx := none) (l := l.toNat) (u := u.toNat) (m := cap) (by simp [Instr.sliceBounds, gY (P := P) (w := w) (i := u) (y := cap) (by omega) (by omega), gY (P := P) (w := w) (i := l) (y := u.toNat) h0 (by omega)]) (by omega) (by omega) (by omega) (Nat.le_refl _)
     refine ⟨_, h1, ?_⟩
     simp only [e1, e2, e3]
     exact mk h2
    ·rename_i u m e1 e2 e3
     obtain rfl := rX hlo e1
     obtain ⟨k, rfl⟩ := aA6 hhi e2
     obtain ⟨k', rfl⟩ := aA6 hmx e3
     rw [hlen] at hc
     obtain ⟨h0, h1, rfl⟩ := hc
     obtain ⟨a', h1, h2⟩ := aEU (w := w) hd hTe hs (lo := none) (hi := some (.int k m)) (mx := some (.int k' m)) (l := 0) (u := m.toNat) (m := m.toNat) (by simp [Instr.sliceBounds, gY (P := P) (w := w) (i := m) (y := cap) (by omega) (by omega), gY (P := P) (w := w) (i := m) (y := m.toNat) h0 (by omega)]) (by omega) (by omega) (by omega) (by omega)
     refine ⟨_, h1, ?_⟩
     simp only [e1, e2, e3]
     exact mkF (by simpa using h2) rfl
    ·rename_i l u m e1 e2 e3
     obtain ⟨k, rfl⟩ := aA6 hlo e1
     obtain ⟨k', rfl⟩ := aA6 hhi e2
     obtain ⟨k'', rfl⟩ := aA6 hmx e3
     rw [hlen] at hc
     obtain ⟨h0, h1, h2, rfl⟩ := hc
     obtain ⟨a', h1, h2⟩ := aEU (w := w) hd hTe hs (lo := some (.int k l)) (hi := some (.int k' m)) (mx := some (.int k'' m)) (l := l.toNat) (u := m.toNat) (m := m.toNat) (by simp [Instr.sliceBounds, gY (P := P) (w := w) (i := m) (y := cap) (by omega) (by omega), gY (P := P) (w := w) (i := m) (y := m.toNat) (by omega) (by omega), gY (P := P) (w := w) (i := l) (y := m.toNat) h0 (by omega)]) (by omega) (by omega) (by omega) (by omega)
     refine ⟨_, h1, ?_⟩
     simp only [e1, e2, e3]
     exact mkF h2 rfl
    ·exact hc.elim
  | _ => simp [ht] at hc
end
end Go.Vc
namespace Go.Vc
open Go.RowKit
section
variable {P : Program} {T : Tab} {M : Perm} {w0 : World} {c : Ctx} {h : List Obj} {w : World}
theorem aFD {w w' : World} {B : Nat} {e : TypeId} {sz : Nat} {v : Value} {n : Nat} {vals : List Value} (hb : ∀ b, aW v = some b → w'.heap[b]? = w.heap[b]?) (h : w.ownsRow B e sz v n vals) : w'.ownsRow B e sz v n vals := by
 obtain ⟨h1, h2⟩ := h
 refine ⟨h1, h2.imp id ?_⟩
 rintro ⟨g, cap, cur, rfl, hB, hh, r⟩
 exact ⟨g, cap, cur, rfl, hB, by rw [hb g rfl]; exact hh, r⟩
theorem kT.keep {w w' : World} {S S' : Nat → Prop} (hs : ∀ b, S b → S' b) (h : zK S w w') : ∀ (t : Ty) (m : Mk) (x : t.den) (cs : List Value) (B : List Nat), (∀ b ∈ B, w'.heap[b]? = w.heap[b]?) → kT w S t m x cs B → kT w' S' t m x cs B := by
 intro t
 have hno : ∀ (t : Ty) (x : t.den) (cs : List Value) (B : List Nat), bE w S t x cs ∧ B = [] → bE w' S' t x cs ∧ B = [] := fun t x cs B ⟨h1, h2⟩ => ⟨bE.keep hs h t x cs h1, h2⟩
 induction t with
 | sl t ih =>
  intro m xs cs B hB hr
  cases m with
  | no => exact hno _ _ _ _ hr
  | sl e m =>
   obtain ⟨v, css, Bs, h1, h2, h3, h4, h5, h6⟩ := hr
   subst h5
   refine ⟨v, css, Bs, h1, aFD (fun b hb => hB b (by simp [hdB, hb])) h2, h3, h4, rfl, fun i q1 q2 q3 => ih m _ _ _ (fun b hb => hB b ?_) (h6 i q1 q2 q3)⟩
   exact List.mem_append_right _ (List.mem_flatten.2 ⟨_, List.getElem_mem q3, hb⟩)
  | pair a b => exact hr.elim
 | pair a r iha ihr =>
  intro m x cs B hB hr
  cases m with
  | no => exact hno _ _ _ _ hr
  | sl e m => exact hr.elim
  | pair ma mr =>
   obtain ⟨c1, c2, B1, B2, h1, h2, h3, h4⟩ := hr
   subst h2
   exact ⟨c1, c2, B1, B2, h1, rfl, iha _ _ _ _ (fun b hb => hB b (List.mem_append_left _ hb)) h3, ihr _ _ _ _ (fun b hb => hB b (List.mem_append_right _ hb)) h4⟩
 | _ =>
  intro m x cs B hB hr
  cases m <;> first | exact hno _ _ _ _ hr | exact hr.elim
theorem aUq.keep {c c' : Ctx} {w w' : World} {i : Nat} {e : TypeId} {m : Mk} {t : Ty} {xs : List t.den} {k : Nat} {v : AV} {css : List (List Value)} {Bs : List (List Nat)} (hl : dZ c w c' w') (hhd : c'.hd i = c.hd i) (hbl : c'.bl i = c.bl i) (hb : ∀ b, c.bl i b → w'.heap[b]? = w.heap[b]?) (hr : aUq c w i e m t xs k v css Bs) : aUq c' w' i e m t xs k v css Bs := by
 refine ⟨?_, hr.lc, hr.lb, hr.kl, fun j h h1 h2 hne => kT.keep hl.le.S hl.same _ _ _ _ _ (fun b hbb => hb b (hr.bl b ?_)) (hr.el j h h1 h2 hne), hr.hb, fun h1 => ⟨aN.keep hl.le hl.same _ _ (hr.hv h1).1, (hr.hv h1).2⟩, by rw [hhd]; exact hr.nd, by rw [hhd, hbl]; exact hr.bl⟩
 ·rw [hhd]; exact aFD (fun b hbb => hb b (hr.bl b (by simp [hdB, hbb]))) hr.row
 ·exact List.mem_append_right _ (List.mem_flatten.2 ⟨_, List.getElem_mem h2, hbb⟩)
theorem aFv.keep {c c' : Ctx} {w w' : World} {i : Nat} {o : Obj} (hl : dZ c w c' w') (hi : i < c.n) (hbl : c'.bl i = c.bl i) (hb : ∀ b, fN c i o b → w'.heap[b]? = w.heap[b]?) (hr : aFv c w i o) : aFv c' w' i o := by
 have hhd := hl.le.hd i hi
 cases o with
 | dead => trivial
 | box n v =>
  obtain ⟨b, cells, e, h1, h2, h3, h4⟩ := hr
  exact ⟨b, cells, e, by rw [hhd]; exact h1, by rw [hb b (by simp [fN, h1, aW])]; exact h2, h3, aN.keep hl.le hl.same _ _ h4⟩
 | row e t xs =>
  obtain ⟨vals, h1, h2⟩ := hr
  refine ⟨vals, ?_, bE.keep hl.le.S hl.same _ _ _ h2⟩
  rw [hhd]
  exact aFD (fun b hbb => hb b hbb) h1
 | frz t xs => simp only [aFv] at *; rw [hhd]; exact bE.keep hl.le.S hl.same _ _ _ hr
 | map k v m =>
  obtain ⟨b, es, clock, h1, h2, h3, h4⟩ := hr
  exact ⟨b, es, clock, by rw [hhd]; exact h1, by rw [hb b (by simp [fN, h1, aW])]; exact h2, h3, fun j hj hj' => ⟨(h4 j hj hj').1.keep hl.le.S hl.same, (h4 j hj hj').2.keep hl.le.S hl.same⟩⟩
 | tre e m t xs =>
  obtain ⟨B, h1, h2, h3⟩ := hr
  exact ⟨B, by rw [hhd]; exact kT.keep hl.le.S hl.same _ _ _ _ _ (fun b hbb => hb b (h3 b hbb)) h1, h2, by rw [hbl]; exact h3⟩
 | trh e m t xs k v =>
  obtain ⟨css, Bs, hr⟩ := hr
  exact ⟨css, Bs, hr.keep hl hhd hbl hb⟩
theorem gK {c c' : Ctx} (hl : c.le c') {i : Nat} (hbl : c'.bl i = c.bl i) (hi : i < c.n) (o : Obj) : fN c' i o = fN c i o := by
 funext b
 cases o <;> simp [fN, hl.hd i hi, hbl]
theorem mN {h : List Obj} {i : Nat} {o : Obj} (ho : h[i]? = some o) : i < h.length := by
 rcases Nat.lt_or_ge i h.length with hlt | hge
 ·exact hlt
 ·rw [List.getElem?_eq_none hge] at ho; cases ho
theorem Good.step (hg : Good M w0 c h w) {c' : Ctx} {w' : World} (hl : dZ c w c' w') (hn : c'.n = c.n) (hbl : c'.bl = c.bl) (hk : iY M.wr w w') (hb : ∀ i o b, h[i]? = some o → fN c i o b → w'.heap[b]? = w.heap[b]?)
  (hs : ∀ b, c'.S b → b < w'.heap.size) (hd : ∀ b, c'.S b → c.S b ∨ w.heap.size ≤ b) : Good M w0 c' h w' := by
 have hlt : ∀ i o, h[i]? = some o → i < c.n := fun i o ho => by rw [hg.n]; exact mN ho
 refine ⟨by rw [hn, hg.n], hg.keeps.trans hk, hs, fun b hb hlt => (hd b hb).elim (fun hb => hg.src b hb hlt) (fun hb => absurd hb (Nat.not_le_of_lt (Nat.lt_of_lt_of_le hlt hg.keeps.size))), fun i o ho => (hg.objs i o ho).keep hl (hlt i o ho) (congrFun hbl i) (fun b hbb => hb i o b ho hbb), fun i o b ho hbb => ?_, fun i j oi oj b hi hj hbi hbj => ?_, zL hg.root hl.le⟩
 ·rw [gK hl.le (congrFun hbl _) (hlt i o ho)] at hbb
  obtain ⟨h1, h2, h3⟩ := hg.own i o b ho hbb
  refine ⟨h1, Nat.lt_of_lt_of_le h2 hk.size, fun hS => ?_⟩
  rcases hd b hS with hS | hge
  ·exact h3 hS
  ·omega
 ·rw [gK hl.le (congrFun hbl _) (hlt i oi hi)] at hbi
  rw [gK hl.le (congrFun hbl _) (hlt j oj hj)] at hbj
  exact hg.sep i j oi oj b hi hj hbi hbj
def Ctx.upto (c : Ctx) (lo hi : Nat) : Ctx := ⟨fun b => c.S b ∨ (lo ≤ b ∧ b < hi), c.hd, c.n, c.bl⟩
theorem Ctx.le_upto (c : Ctx) (lo hi : Nat) : c.le (c.upto lo hi) := ⟨fun b hb => .inl hb, Nat.le_refl _, fun _ _ => rfl⟩
theorem uP (hg : Good M w0 c h w) {w' : World} (hk : iY nothing w w') : dZ c w (c.upto w.heap.size w'.heap.size) w' :=
 ⟨c.le_upto _ _, fun b hb => hk.block b (hg.sfin b hb) (fun f => f)⟩
theorem iY.any {w w' : World} (hk : iY nothing w w') : iY M.wr w w' := ⟨hk.os, hk.tape, hk.output, hk.size, fun b hb _ => hk.block b hb (fun f => f)⟩
theorem Good.call (hg : Good M w0 c h w) {w' : World} (hk : iY nothing w w') : Good M w0 (c.upto w.heap.size w'.heap.size) h w' :=
 hg.step (uP hg hk) rfl rfl hk.any (fun i o b ho hb => hk.block b (hg.own i o b ho hb).2.1 (fun f => f)) (fun b hb => hb.elim (fun hb => Nat.lt_of_lt_of_le (hg.sfin b hb) hk.size) (fun hb => hb.2)) (fun b hb => hb.imp id (fun hb => hb.1))
theorem iY.alloc (M : Nat → Prop) (w : World) (o : Go.Obj) : iY M w { w with heap := w.heap.push o } :=
 ⟨rfl, rfl, rfl, by simp, fun b hb _ => by simp [Array.getElem?_push, Nat.ne_of_lt hb]⟩
structure aHj (P : Program) (M : Perm) (w0 : World) (h : List Obj) (c : Ctx) (w : World) (av : AV) (v : Value) (w' : World) (c' : Ctx) : Prop where
 later : dZ c w c' w'
 n : c'.n = c.n ∧ c'.bl = c.bl
 good : Good M w0 c' h w'
 keeps : iY nothing w w'
 new : ∀ b, c'.S b → c.S b ∨ w.heap.size ≤ b
 val : aX c' w' av v
def Did (P : Program) (M : Perm) (w0 : World) (h : List Obj) (c : Ctx) (o : Oper) (a : Act) (w : World) (av : AV) : Prop :=
 (∃ v w' c', (execOp a.eval o).run P w = .ok (.value v) w' ∧ aHj P M w0 h c w av v w' c') ∨
 (∃ f args, (execOp a.eval o).run P w = .ok (.enter f args) w ∧ Calls P f args w fun e w' => ∃ v c', e = .returned v ∧ aHj P M w0 h c w av v w' c')
theorem Did.of_value (hg : Good M w0 c h w) {o : Oper} {a : Act} {av : AV} {v : Value} (hr : (execOp a.eval o).run P w = .ok (.value v) w) (hv : aX c w av v) : Did P M w0 h c o a w av :=
 .inl ⟨v, w, c, hr, .refl _ _, ⟨rfl, rfl⟩, hg, .refl _ _, fun b hb => .inl hb, hv⟩
theorem bE.scalar {w w' : World} {S S' : Nat → Prop} : ∀ (t : Ty) (x : t.den) (cs : List Value), t.scalar = true → bE w S t x cs → bE w' S' t x cs
 | .bool, _, _, _, hr => hr
 | .u _, _, _, _, hr => hr
 | .i _, _, _, _, hr => hr
 | .str, _, _, _, hr => hr
 | .sl t, _, _, hs, _ => by simp [Ty.scalar] at hs
 | .unit, _, _, _, hr => hr
 | .pair a b, _, _, hs, ⟨c1, c2, hc, h1, h2⟩ => by
  simp only [Ty.scalar, Bool.and_eq_true] at hs
  exact ⟨c1, c2, hc, bE.scalar a _ _ hs.1 h1, bE.scalar b _ _ hs.2 h2⟩
 | .arr _ t, _, _, hs, ⟨hn, css, hc, hl, hr⟩ => ⟨hn, css, hc, hl, fun i h1 h2 => bE.scalar t _ _ (by simpa [Ty.scalar] using hs) (hr i h1 h2)⟩
 | .expr, _, _, hs, _ => by simp [Ty.scalar] at hs
 | .rp _, _, _, hs, _ => by simp [Ty.scalar] at hs
 | .clo _ _, _, _, hs, _ => by simp [Ty.scalar] at hs
theorem dF.scalar {w w' : World} {S S' : Nat → Prop} {t : Ty} {x : t.den} {v : Value} (hs : t.scalar = true) (hr : dF w S t x v) : dF w' S' t x v := by
 unfold dF at *
 split
 ·rename_i ha; simp only [ha, if_true] at hr; obtain ⟨cs, hv, hc⟩ := hr; exact ⟨cs, hv, bE.scalar _ _ _ hs hc⟩
 ·rename_i ha; simp only [ha] at hr; exact bE.scalar _ _ _ hs hr
theorem pU.scalar {w w' : World} {S S' : Nat → Prop} : ∀ (t : Ty) (x : t.den) (vs : List Value), t.scalar = true → pU w S t x vs → pU w' S' t x vs
 | .unit, _, _, _, hr => hr
 | .pair a r, x, vs, hs, ⟨v, vs', e, h1, h2⟩ => by
  simp only [Ty.scalar, Bool.and_eq_true] at hs
  exact ⟨v, vs', e, h1.scalar hs.1, pU.scalar r _ _ hs.2 h2⟩
 | .bool, _, _, _, hr => hr.elim
 | .u _, _, _, _, hr => hr.elim
 | .i _, _, _, _, hr => hr.elim
 | .str, _, _, _, hr => hr.elim
 | .sl _, _, _, _, hr => hr.elim
 | .arr _ _, _, _, _, hr => hr.elim
 | .expr, _, _, _, hr => hr.elim
 | .rp _, _, _, _, hr => hr.elim
 | .clo _ _, _, _, _, hr => hr.elim
theorem aRI (hg : Good M w0 c h w) : ∀ (t : Ty) (vs : List AV) (xs : List Value) (x : t.den), aA5 h t vs = some x → xs.length = vs.length → (∀ i (h1 : i < vs.length) (h2 : i < xs.length), aX c w vs[i] xs[i]) → pU w (aDO c h) t x xs := by
 intro t
 induction t with
 | unit =>
  intro vs xs x ha hl hv
  cases vs with
  | nil => exact List.eq_nil_of_length_eq_zero hl
  | cons v vs => simp [aA5] at ha
 | pair a r _ ih =>
  intro vs xs x ha hl hv
  cases vs with
  | nil => simp [aA5] at ha
  | cons v vs =>
   cases xs with
   | nil => simp at hl
   | cons u xs =>
    simp only [aA5] at ha
    split at ha
    ·rename_i xa xb h1 h2
     cases ha
     refine ⟨u, xs, rfl, aIp hg (hv 0 (by simp) (by simp)) h1, ih vs xs xb h2 (by simpa using hl) (fun i hi hi' => ?_)⟩
     have := hv (i + 1) (by simpa using hi) (by simpa using hi')
     simpa using this
    ·cases ha
 | _ => intro vs xs x ha; simp [aA5] at ha
theorem aHk (hg : Good M w0 c h w) {t : Ty} {vs : List AV} {xs : List Value} {x : t.den} (ha : aA5 (h.map gB) t vs = some x) (hl : xs.length = vs.length) (hv : ∀ i (h1 : i < vs.length) (h2 : i < xs.length), aX c w vs[i] xs[i]) : pU w c.S t x xs := by
 have := aRI hg.frz t vs xs x ha hl hv
 have hmono : ∀ (t : Ty) (x : t.den) (xs : List Value), pU w (aDO c (h.map gB)) t x xs → pU w c.S t x xs := by
  intro t
  induction t with
  | unit => intro x xs h; exact h
  | pair a r _ ih => intro x xs ⟨v, vs', e, h1, h2⟩; exact ⟨v, vs', e, h1.keep aLx (.refl _ _), ih _ _ h2⟩
  | _ => intro x xs h; exact h.elim
 exact hmono t x xs this
theorem aSA (hg : Good M w0 c h w) (b : Nat) (hb : aDO c h b) : b < w.heap.size := by
 rcases hb with hb | ⟨i, o, ho, hb⟩
 ·exact hg.sfin b hb
 ·exact (hg.own i _ b ho hb).2.1
theorem qM.mono {G : Nat → AV} {S S' : Nat → Prop} {w w' : World} (hs : ∀ b, S b → S' b) (h : zK S w w') (hr : qM G S w) : qM G S' w' := fun g =>
 (hr g).keep (c := ⟨S, fun _ => Go.undef, 0, fun _ _ => False⟩) (c' := ⟨S', fun _ => Go.undef, 0, fun _ _ => False⟩) ⟨hs, Nat.le_refl _, fun _ _ => rfl⟩ h
theorem aTJ {S : Nat → Prop} {w : World} {c : Ctx} (hS : c.S = S) : ∀ (t : Ty) (x : t.den) (vs : List Value), pU w S t x vs → vs.length = (zO t x).length ∧ ∀ i (h : i < (zO t x).length) (h' : i < vs.length), uN c w (zO t x)[i] vs[i]
 | .unit, _, vs, hr => by simp only [pU] at hr; subst hr; exact ⟨rfl, fun i h => by simp [zO] at h⟩
 | .pair a r, x, vs, ⟨v, vs', e, h1, h2⟩ => by
  subst e
  obtain ⟨hl, hr⟩ := aTJ hS r x.2 vs' h2
  refine ⟨by simp [zO, hl], fun i hi hi' => ?_⟩
  cases i with
  | zero => exact aX.ofV (by rw [hS]; exact h1)
  | succ i => exact hr i (by simpa [zO] using hi) (by simpa using hi')
 | .bool, _, _, hr => hr.elim
 | .u _, _, _, hr => hr.elim
 | .i _, _, _, hr => hr.elim
 | .str, _, _, hr => hr.elim
 | .sl _, _, _, hr => hr.elim
 | .arr _ _, _, _, hr => hr.elim
 | .expr, _, _, hr => hr.elim
 | .rp _, _, _, hr => hr.elim
 | .clo _ _, _, _, hr => hr.elim
def FAt (G : Nat → AV) (sp : aI) (vs : Array Value) (w : World) (C : (Ending → World → Prop) → Prop) : Prop :=
 ∀ (S : Nat → Prop) (x : sp.args.den), (∀ b, S b → b < w.heap.size) → qM G S w → pU w S sp.args x vs.toList → sp.pre x →
  C fun e w' => ∃ v, e = .returned v ∧ iY nothing w w' ∧ aVr w' S w.heap.size sp.res (sp.fn x) v
def aYX (P : Program) (f : FuncId) (vs : Array Value) (w : World) (R : Ending → World → Prop) : Prop :=
 ∃ v w', (callFunc f vs).run P w = .ok (.value v) w' ∧ R (.returned v) w'
def NOK (P : Program) (G : Nat → AV) (f : FuncId) (sp : aI) : Prop :=
 (∀ e t, sp.res ≠ .own e t) ∧ ∀ (w : World) (vs : Array Value), FAt G sp vs w (aYX P f vs w)
theorem aX4 {C : (Ending → World → Prop) → Prop} (hC : ∀ R R' : Ending → World → Prop, C R → (∀ e w', R e w' → R' e w') → C R') {G : Nat → AV} {Γ : FuncId → List AV → Option aI} {f : FuncId} {vs : List AV} {xs : Array Value} (hΓ : ∀ sp, Γ f vs = some sp → FAt G sp xs w C) (hg : Good M w0 c h w) (hG : qM G c.S w) (hl : xs.size = vs.length)
  (hv : ∀ i (h1 : i < vs.length) (h2 : i < xs.size), aX c w vs[i] xs[i]) (hc : (aFz Γ h f vs).1) :
  C fun e w' => ∃ v c', e = .returned v ∧ aHj P M w0 h c w (aFz Γ h f vs).2 v w' c' := by
 unfold aFz at hc ⊢
 cases hf : Γ f vs with
 | none => simp [hf] at hc
 | some sp =>
  simp only [hf] at hc ⊢
  have hl' : xs.toList.length = vs.length := by simpa using hl
  have hv' : ∀ i (h1 : i < vs.length) (h2 : i < xs.toList.length), aX c w vs[i] xs.toList[i] := fun i h1 h2 => by
   have := hv i h1 (by simpa using h2)
   simpa using this
  obtain ⟨argT, res, pre, fn⟩ := sp
  have key : ∀ (x : argT.den), aA5 (if res.ty.scalar then h else h.map gB) argT vs = some x → pre x → (∀ e t, res ≠ .own e t) → C fun e w' => ∃ v c', e = .returned v ∧ aHj P M w0 h c w (aWh res (fn x)) v w' c' := by
   intro x ha hp hno
   by_cases hsc : res.ty.scalar = true
   ·rw [if_pos hsc] at ha
    have hargs := aRI hg _ _ _ _ ha hl' hv'
    refine hC _ _ (hΓ _ hf (aDO c h) x (aSA hg) (hG.mono (fun b hb => .inl hb) (.refl _ _)) hargs hp) ?_
    rintro e w' ⟨v, rfl, hk, hres⟩
    refine ⟨v, _, rfl, uP hg hk, ⟨rfl, rfl⟩, hg.call hk, hk, fun b hb => hb.imp id And.left, ?_⟩
    cases res with
    | none => trivial
    | one t => exact aX.ofV (dF.scalar hsc hres)
    | own e t => exact absurd rfl (hno _ _)
    | tup t =>
     obtain ⟨us, rfl, hus⟩ := hres
     have := pU.scalar (w' := w') (S' := (c.upto w.heap.size w'.heap.size).S) t _ _ hsc hus
     obtain ⟨h1, h2⟩ := aTJ (c := c.upto w.heap.size w'.heap.size) rfl t _ _ this
     exact ⟨us, rfl, h1, h2⟩
   ·rw [if_neg hsc] at ha
    have hargs := aHk hg ha hl' hv'
    refine hC _ _ (hΓ _ hf c.S x hg.sfin hG hargs hp) ?_
    rintro e w' ⟨v, rfl, hk, hres⟩
    refine ⟨v, _, rfl, uP hg hk, ⟨rfl, rfl⟩, hg.call hk, hk, fun b hb => hb.imp id And.left, ?_⟩
    cases res with
    | none => trivial
    | one t => exact aX.ofV hres
    | own e t => exact absurd rfl (hno _ _)
    | tup t =>
     obtain ⟨us, rfl, hus⟩ := hres
     obtain ⟨h1, h2⟩ := aTJ (c := c.upto w.heap.size w'.heap.size) rfl t _ _ hus
     exact ⟨us, rfl, h1, h2⟩
  cases res with
  | own e t => exact hc.elim
  | none =>
   simp only at hc ⊢
   split at hc
   ·rename_i x ha; exact key x ha hc (fun _ _ h => by cases h)
   ·exact hc.elim
  | one t =>
   simp only at hc ⊢
   split at hc
   ·rename_i x ha; exact key x ha hc (fun _ _ h => by cases h)
   ·exact hc.elim
  | tup t =>
   simp only at hc ⊢
   split at hc
   ·rename_i x ha; exact key x ha hc (fun _ _ h => by cases h)
   ·exact hc.elim
end
end Go.Vc
namespace Go.Vc
open Go.RowKit
section
variable {P : Program} {T : Tab} {M : Perm} {w0 : World} {c : Ctx} {h : List Obj} {w : World}
theorem aSB (pre : List Value) : ∀ (ns old post : List Value) (cells : Array Value) (j : Nat), cells.toList = pre ++ old ++ post → old.length = j + ns.length →
  ((ns.zipIdx j).foldl (fun cs (p : Value × Nat) => cs.setIfInBounds (pre.length + p.2) p.1) cells).toList = pre ++ (old.take j ++ ns) ++ post
 | [], old, post, cells, j, hc, hl => by
  simp only [List.zipIdx_nil, List.foldl_nil, List.append_nil]
  rw [hc, List.take_of_length_le (by simp at hl; omega)]
 | v :: ns, old, post, cells, j, hc, hl => by
  simp only [List.zipIdx_cons, List.foldl_cons]
  simp only [List.length_cons] at hl
  have h1 : (cells.setIfInBounds (pre.length + j) v).toList = pre ++ (old.set j v) ++ post := by
   rw [Array.toList_setIfInBounds, hc, List.append_assoc, List.set_append_right _ _ (by omega), Nat.add_sub_cancel_left, List.set_append_left _ _ (by omega), ← List.append_assoc]
  have := aSB pre ns (old.set j v) post _ (j + 1) h1 (by simp; omega)
  rw [this]
  congr 2
  rw [List.take_succ_eq_append_getElem (by simp; omega)]
  simp [List.take_set_of_le]
theorem aLy {pre old post : List Value} {cells : Array Value} (hc : cells.toList = pre ++ old ++ post) {v : Value} (hv : v.cells.size = old.length) :
  (v.cells.zipIdx.foldl (fun cs (p : Value × Nat) => cs.setIfInBounds (pre.length + p.2) p.1) cells).toList = pre ++ v.cells.toList ++ post := by
 have := aSB pre v.cells.toList old post cells 0 hc (by simp [hv])
 rw [← Array.foldl_toList, Array.toList_zipIdx]
 simpa using this
theorem aWq : ∀ {L : List AV} {cs : List Value} {k : Nat} {ts : List Ty}, lT c w L cs → L.length = ts.length → (∀ i (h : i < L.length), (L[i]).solid1 = true) → (∀ i (h : i < L.length) (h' : i < ts.length), (L[i]).nc1 = ts[i].cells) → k < L.length →
  ∃ pre ds post, cs = pre ++ ds ++ post ∧ pre.length = ((ts.take k).map Ty.cells).foldr (· + ·) 0 ∧ ds.length = (ts.getD k .unit).cells ∧ ∀ (v : AV) (ds' : List Value), aN c w v ds' → lT c w (L.set k v) (pre ++ ds' ++ post)
 | [], _, _, _, _, _, _, _, hk => by simp at hk
 | v :: L, cs, k, ts, hr, hl, hs, hn, hk => by
  cases ts with
  | nil => simp at hl
  | cons t ts =>
   simp only [lT] at hr
   obtain ⟨c1, c2, rfl, h1, h2⟩ := hr
   have h0 := hn 0 (by simp) (by simp)
   have s0 := hs 0 (by simp)
   simp only [List.getElem_cons_zero] at h0 s0
   have hl1 := aJg s0 h1
   cases k with
   | zero => exact ⟨[], c1, c2, by simp, rfl, by simp [hl1, h0], fun v' ds' hv' => by simp only [List.set_cons_zero, lT, List.nil_append]; exact ⟨ds', c2, rfl, hv', h2⟩⟩
   | succ k =>
    obtain ⟨pre, ds, post, e, hp, hd, hset⟩ := aWq (k := k) (ts := ts) h2 (by simpa using hl) (fun i hi => by have := hs (i + 1) (by simpa using hi); simpa using this) (fun i hi hi' => by have := hn (i + 1) (by simpa using hi) (by simpa using hi'); simpa using this) (by simpa using hk)
    refine ⟨c1 ++ pre, ds, post, by rw [e]; simp, by simp [hl1, h0, hp], by simpa using hd, fun v' ds' hv' => ?_⟩
    simp only [List.set_cons_succ, lT]
    exact ⟨c1, pre ++ ds' ++ post, by simp, h1, hset v' ds' hv'⟩
theorem aBz : ∀ {fs : List Field} {off : Nat} {t : Ty} {k : Nat} {ct : Ty}, eG T fs off t = true → t.flds[k]? = some ct → ∃ f, fs[k]? = some f ∧ T f.type = some ct ∧ f.offset = off + ((t.flds.take k).map Ty.cells).foldr (· + ·) 0
 | [], off, .unit, k, ct, _, hk => by simp [Ty.flds] at hk
 | f :: fs, off, .pair a r, 0, ct, hf, hk => by
  simp only [eG, Bool.and_eq_true, decide_eq_true_eq] at hf
  simp [Ty.flds] at hk
  subst hk
  exact ⟨f, rfl, hf.1.1.1.1, by simp [hf.1.1.1.2]⟩
 | f :: fs, off, .pair a r, k + 1, ct, hf, hk => by
  simp only [eG, Bool.and_eq_true, decide_eq_true_eq] at hf
  simp only [Ty.flds, List.getElem?_cons_succ] at hk
  obtain ⟨f', h1, h2, h3⟩ := aBz hf.2 hk
  exact ⟨f', by simpa using h1, h2, by rw [h3]; simp [Ty.flds]; omega⟩
 | [], _, .pair _ _, _, _, hf, _ => by simp [eG] at hf
 | _ :: _, _, .unit, _, _, hf, _ => by simp [eG] at hf
theorem aJ1 : ∀ {fs : List Field} {off : Nat} {t : Ty}, eG T fs off t = true → fs.length = t.flds.length
 | [], _, .unit, _ => rfl
 | f :: fs, off, .pair a r, hf => by
  simp only [eG, Bool.and_eq_true] at hf
  simp [Ty.flds, aJ1 hf.2]
 | [], _, .pair _ _, hf => by simp [eG] at hf
 | _ :: _, _, .unit, hf => by simp [eG] at hf
theorem aQ3 : ∀ (t : Ty), t.okB = true → ∀ fs off, eG T fs off t = true → lT c w (yG t) (cY t) ∧ (yG t).length = t.flds.length ∧ (∀ i (h : i < (yG t).length), ((yG t)[i]).solid1 = true) ∧ (∀ i (h : i < (yG t).length) (h' : i < t.flds.length), ((yG t)[i]).nc1 = (t.flds[i]).cells)
 | .unit, _, _, _, _ => ⟨rfl, rfl, fun i h => by simp [yG] at h, fun i h => by simp [yG] at h⟩
 | .pair a r, hok, f :: fs, off, hf => by
  simp only [Ty.okB, Bool.and_eq_true] at hok
  simp only [eG, Bool.and_eq_true] at hf
  obtain ⟨h1, h2, h3, h4⟩ := aQ3 r hok.2 fs _ hf.2
  refine ⟨⟨cY a, cY r, rfl, gG w c.S a hok.1, h1⟩, by simp [yG, Ty.flds, h2], fun i hi => ?_, fun i hi hi' => ?_⟩
  ·cases i with
   | zero => rfl
   | succ i => exact h3 i (by simpa [yG] using hi)
  ·cases i with
   | zero => rfl
   | succ i => exact h4 i (by simpa [yG] using hi) (by simpa [Ty.flds] using hi')
 | .pair _ _, _, [], _, hf => by simp [eG] at hf
 | .bool, _, fs, _, hf => by cases fs <;> simp [eG] at hf
 | .u _, _, fs, _, hf => by cases fs <;> simp [eG] at hf
 | .i _, _, fs, _, hf => by cases fs <;> simp [eG] at hf
 | .str, _, fs, _, hf => by cases fs <;> simp [eG] at hf
 | .sl _, _, fs, _, hf => by cases fs <;> simp [eG] at hf
 | .arr _ _, _, fs, _, hf => by cases fs <;> simp [eG] at hf
 | .expr, _, fs, _, hf => by cases fs <;> simp [eG] at hf
 | .rp _, _, fs, _, hf => by cases fs <;> simp [eG] at hf
 | .clo _ _, _, fs, _, hf => by cases fs <;> simp [eG] at hf
 | .nilp, _, fs, _, hf => by cases fs <;> simp [eG] at hf
 | .nilf, _, fs, _, hf => by cases fs <;> simp [eG] at hf
inductive aBW (c : Ctx) (w : World) : List (Nat × AV) → List (Nat × Value) → Prop where
 | nil : aBW c w [] []
 | cons {k : Nat} {a : AV} {v : Value} {ps : List (Nat × AV)} {vs : List (Nat × Value)} (h : aX c w a v) (r : aBW c w ps vs) : aBW c w ((k, a) :: ps) ((k, v) :: vs)
theorem aJ2 {place : Nat → Option (Nat × Nat)} {ts : List Ty} (hp : ∀ k t, ts[k]? = some t → place k = some (((ts.take k).map Ty.cells).foldr (· + ·) 0, t.cells)) : ∀ (ps : List (Nat × AV)) (vs : List (Nat × Value)) (L : List AV) (cells : Array Value),
  aBW c w ps vs → aIj ts ps → lT c w L cells.toList → L.length = ts.length → (∀ i (h : i < L.length), (L[i]).solid1 = true) → (∀ i (h : i < L.length) (h' : i < ts.length), (L[i]).nc1 = ts[i].cells) →
  ∃ cells', Instr.fill place cells vs = some cells' ∧ lT c w (aVs L ps) cells'.toList
 | _, _, L, cells, .nil, _, hr, _, _, _ => ⟨cells, rfl, hr⟩
 | _, _, L, cells, .cons (k := k) (a := a) (v := v) (ps := ps) (vs := vs) hv r, hok, hr, hl, hs, hn => by
  obtain ⟨⟨hsa, t, htk, hnc⟩, hok⟩ := hok
  have hkt : k < ts.length := get_lt' htk
  obtain ⟨pre, ds, post, e, hpl, hdl, hset⟩ := aWq (k := k) hr hl hs hn (by omega)
  have hgd : ts.getD k .unit = t := by simp [List.getD_eq_getElem?_getD, htk]
  rw [hgd] at hdl
  have hva : uN c w a v := by cases a <;> first | exact hv | (simp [AV.solid1] at hsa)
  have hvc := aJg hsa hva.1
  have hsz : v.cells.size = t.cells := by rw [← hnc, ← hvc]; simp
  have hstep := aLy (v := v) e (by rw [hsz, hdl])
  have hcs : cells.size = (pre ++ ds ++ post).length := by rw [← e]; simp
  obtain ⟨cells', h1, h2⟩ := aJ2 hp ps vs (L.set k a) _ r hok (by rw [hstep]; exact hset a _ hva.1) (by simpa using hl) (fun i hi => by
    by_cases hik : k = i
    ·subst hik; simp [hsa]
    ·simp only [List.getElem_set_ne hik]; exact hs i (by simpa using hi)) (fun i hi hi' => by
    by_cases hik : k = i
    ·subst hik
     simp only [List.getElem_set_self, hnc]
     rw [List.getElem?_eq_getElem hkt] at htk
     simp at htk; rw [htk]
    ·simp only [List.getElem_set_ne hik]; exact hn i (by simpa using hi) hi')
  refine ⟨cells', ?_, h2⟩
  rw [Instr.fill, hp k t htk]
  have hcond : ¬ (v.cells.size ≠ t.cells ∨ ((((ts.take k).map Ty.cells).foldr (· + ·) 0) + v.cells.size > cells.size)) := by
   rw [← hpl, hsz, hcs]
   simp
   omega
  dsimp only
  rw [if_neg (by simpa using hcond), ← hpl]
  exact h1
where
 get_lt' {α : Type} {l : List α} {k : Nat} {x : α} (h : l[k]? = some x) : k < l.length := by
  rcases Nat.lt_or_ge k l.length with hlt | hge
  ·exact hlt
  ·rw [List.getElem?_eq_none hge] at h; cases h
theorem aJ3 {t : Ty} {L : List AV} {cells : Array Value} (hr : lT c w L cells.toList) : aX c w (aHh t L) (.agg cells) := by
 unfold aHh
 have hL : aX c w (.agg L) (.agg cells) := ⟨by simpa [aN, Value.cells] using hr, fun _ => ⟨_, rfl⟩, fun h => by cases h⟩
 split
 ·rename_i x ha
  have key : ∀ (t : Ty) (v : AV) (x : t.den) (cs : List Value), AV.as [] t v = some x → aN c w v cs → bE w c.S t x cs ∧ t.isAgg = v.isAgg := by
   intro t v x cs ha hr
   exact as_nil t v x cs ha hr
  obtain ⟨h1, h2⟩ := key _ _ _ _ ha hL.1
  exact aX.ofV (dF.of_cells (fun _ => ⟨_, rfl⟩) (fun h => by rw [h2] at h; cases h) h1)
 ·exact hL
where
 as_nil (t : Ty) (v : AV) (x : t.den) (cs : List Value) (ha : AV.as [] t v = some x) (hr : aN c w v cs) : bE w c.S t x cs ∧ t.isAgg = v.isAgg := by
  have hval : ∀ (t t' : Ty) (y : t'.den) (x : t.den) (cs : List Value), AV.as [] t (.val t' y) = some x → aN c w (.val t' y) cs → bE w c.S t x cs ∧ t.isAgg = AV.isAgg (.val t' y) := by
   intro t t' y x cs ha hr
   have : ∃ e : t' = t, x = e ▸ y := by
    have h2 : (if e : t' = t then some (e ▸ y) else none) = some x := by cases t <;> simpa [AV.as] using ha
    split at h2
    ·rename_i e; cases h2; exact ⟨e, rfl⟩
    ·cases h2
   obtain ⟨rfl, rfl⟩ := this
   exact ⟨hr, rfl⟩
  have hflat : ∀ (t : Ty) (l : List AV) (x : t.den) (cs : List Value), aFy t l = some x → lT c w l cs → bE w c.S t x cs := by
   intro t l x cs ha hr
   unfold aFy at ha
   split at ha
   ·rename_i y hp
    cases ha
    obtain ⟨c1, c2, e, r1, r2⟩ := aSt t l _ _ cs hp hr
    simp only [lT] at r2
    subst r2
    rw [e, List.append_nil]; exact r1
   ·cases ha
  induction t generalizing v cs with
  | pair a b iha ihb =>
   cases v with
   | val t' y => exact hval _ _ _ _ _ ha hr
   | agg vs =>
    cases vs with
    | nil => simp [AV.as] at ha
    | cons v vs =>
     simp only [aRC] at ha
     split at ha
     ·rename_i xa xb h1 h2
      cases ha
      simp only [aN, lT] at hr
      obtain ⟨c1, c2, e, r1, r2⟩ := hr
      exact ⟨⟨c1, c2, e, (iha v xa c1 h1 r1).1, (ihb (.agg vs) xb c2 h2 (by simpa [aN] using r2)).1⟩, rfl⟩
     ·cases ha
   | flat l => simp only [aRD] at ha; exact ⟨hflat _ _ _ _ ha (by simpa [aN] using hr), rfl⟩
   | _ => simp [AV.as] at ha
  | sl t ih =>
   cases v with
   | val t' y => exact hval _ _ _ _ _ ha hr
   | nilS => simp at ha; subst ha; simp only [aN] at hr; exact ⟨⟨none, 0, 0, hr, rfl, Nat.le_refl _, Nat.zero_le _, .inl rfl⟩, rfl⟩
   | full t' xs =>
    have h2 : (if e : t' = t then some (e ▸ xs) else none) = some x := by simpa [AV.as] using ha
    split at h2
    ·rename_i e
     subst e
     cases h2
     simp only [aN] at hr
     obtain ⟨p, n, e, hsl⟩ := hr
     exact ⟨⟨p, n, n, e, hsl⟩, rfl⟩
    ·cases h2
   | own i => simp [rowOf] at ha
   | _ => simp [AV.as] at ha
  | unit =>
   cases v with
   | val t' y => exact hval _ _ _ _ _ ha hr
   | agg vs => cases vs with
    | nil => simp only [aN, lT] at hr; exact ⟨hr, rfl⟩
    | cons v vs => simp [AV.as] at ha
   | flat l => simp only [aOI] at ha; exact ⟨hflat _ _ _ _ ha (by simpa [aN] using hr), rfl⟩
   | _ => simp [AV.as] at ha
  | rp t ih =>
   cases v with
   | val t' y => exact hval _ _ _ _ _ ha hr
   | roa t' y =>
    have h2 : (if e : t' = t then some (e ▸ y) else none) = some x := by simpa [AV.as] using ha
    split at h2
    ·rename_i e
     subst e
     cases h2
     simp only [aN] at hr
     exact ⟨hr, rfl⟩
    ·cases h2
   | ptr i p =>
    cases p with
    | nil => simp at ha
    | cons s p => simp [AV.as] at ha
   | _ => simp [AV.as] at ha
  | clo g t ih =>
   cases v with
   | val t' y => exact hval _ _ _ _ _ ha hr
   | fn g' l1 l2 =>
    cases l1 with
    | nil =>
     have h2 : g' = g ∧ AV.as [] t (.agg (l2.map fun i => .ptr i [])) = some x := by simpa [AV.as] using ha
     obtain ⟨rfl, ha⟩ := h2
     simp only [aN] at hr
     obtain ⟨_, h2, e⟩ := hr
     cases l2 with
     | nil =>
      have := ih (.agg []) x [] ha rfl
      exact ⟨⟨[], by simpa using e, this.1⟩, rfl⟩
     | cons i l2 =>
      exfalso
      have hp : ∀ a : Ty, AV.as [] a (.ptr i []) = none := fun a => by cases a <;> simp [AV.as]
      cases t <;> first | (simp [AV.as] at ha; done) | (simp [hp] at ha; done) | (match l2, ha with
       | [], ha => simp [AV.as] at ha
       | [_], ha => simp [AV.as] at ha
       | [_, _], ha => simp [AV.as, asX, aWe] at ha
       | _ :: _ :: _ :: _, ha => simp [AV.as] at ha)
    | cons i l1 => simp [AV.as] at ha
   | _ => simp [AV.as] at ha
  | expr =>
   cases v with
   | val t' y => exact hval _ _ _ _ _ ha hr
   | agg vs =>
    match vs, ha, hr with
    | [a, b, v], ha, hr =>
     simp only [aRE] at ha
     exact ⟨aUA (fun _ h => h) (fun i xs cs h1 _ => by simp [rowOf] at h1) ha (by simpa [aN] using hr), rfl⟩
    | [], ha, _ => simp [AV.as] at ha
    | [_], ha, _ => simp [AV.as] at ha
    | [_, _], ha, _ => simp [AV.as] at ha
    | _ :: _ :: _ :: _ :: _, ha, _ => simp [AV.as] at ha
   | _ => simp [AV.as] at ha
  | _ =>
   cases v with
   | val t' y => exact hval _ _ _ _ _ ha hr
   | _ => simp [AV.as] at ha
theorem aQ4 {av : AV} {v : Value} {t : Ty} {x : t.den} (hv : aX c w av v) (ha : AV.as [] t av = some x) : dF w c.S t x v := by
 obtain ⟨h1, h2, h3⟩ := aSz hv ha
 obtain ⟨hr, he⟩ := aJ3.as_nil t av x _ ha h1
 exact dF.of_cells (fun e => h2 (by rw [← he]; exact e)) (fun e => h3 (by rw [← he]; exact e)) hr
theorem aOP {ct : Ty} {n : Nat} {place : Nat → Option (Nat × Nat)} (hp : ∀ k, place k = some (k * ct.cells, ct.cells)) : ∀ (ps : List (Nat × AV)) (vs : List (Nat × Value)) (xs : List ct.den) (cells : Array Value) (ys : List ct.den),
  aBW c w ps vs → aRF ct xs ps = some ys → bE w c.S (.arr n ct) xs cells.toList → ∃ cells', Instr.fill place cells vs = some cells' ∧ bE w c.S (.arr n ct) ys cells'.toList
 | _, _, xs, cells, ys, .nil, he, hr => by simp [aRF] at he; subst he; exact ⟨cells, rfl, hr⟩
 | _, _, xs, cells, ys, .cons (k := k) (a := a) (v := v) (ps := ps) (vs := vs) hv r, he, hr => by
  simp only [aRF] at he
  split at he
  ·rename_i x hx
   split at he
   ·rename_i hk
    obtain ⟨hn, css, e, hl, hrep⟩ := hr
    obtain ⟨pre, post, hf, hpl⟩ := oK (t := ct) (css := css) (fun j hj => bE.length _ _ _ (hrep j (by omega) hj)) k (by omega)
    have hvr := (aQ4 hv hx).cells
    have hvl := bE.length _ _ _ hvr
    have hcl := bE.length _ _ _ (hrep k hk (by omega))
    have hsz : v.cells.size = ct.cells := by rw [← hvl]; simp
    have hstep := aLy (v := v) (e.trans hf) (by rw [hsz, hcl])
    have hnew : bE w c.S (.arr n ct) (xs.set k x) (pre ++ v.cells.toList ++ post) := by
     refine ⟨by simpa using hn, css.set k v.cells.toList, ?_, by simpa using hl, fun i h1 h2 => ?_⟩
     ·have hsp : css = css.take k ++ [css[k]] ++ css.drop (k + 1) := by simp
      have hpre : pre = (css.take k).flatten ∧ post = (css.drop (k + 1)).flatten := by
       have hlen : ((css.take k).flatten).length = k * ct.cells := by
        rw [lS (n := ct.cells) (fun i hi => ?_)]
        ·rw [List.length_take, Nat.min_eq_left (by omega)]
        ·simp at hi; simp only [List.getElem_take]; exact bE.length _ _ _ (hrep i (by omega) (by omega))
       have h3 : css.flatten = (css.take k).flatten ++ css[k] ++ (css.drop (k + 1)).flatten := by
        have h4 := congrArg List.flatten hsp
        simp only [List.flatten_append, List.flatten_cons, List.flatten_nil, List.append_nil] at h4
        exact h4
       rw [h3, List.append_assoc, List.append_assoc] at hf
       obtain ⟨q1, q2⟩ := List.append_inj hf (by rw [hlen, hpl])
       obtain ⟨q3, q4⟩ := List.append_inj q2 rfl
       exact ⟨q1.symm, q4.symm⟩
      rw [hpre.1, hpre.2, List.set_eq_take_append_cons_drop, if_pos (by omega)]
      simp
     ·by_cases hik : k = i
      ·subst hik; simp only [List.getElem_set_self]; exact hvr
      ·simp only [List.getElem_set_ne hik]; exact hrep i (by simpa using h1) (by simpa using h2)
    obtain ⟨cells', h1, h2⟩ := aOP hp ps vs (xs.set k x) _ ys r he (by rw [hstep]; exact hnew)
    refine ⟨cells', ?_, h2⟩
    rw [Instr.fill, hp k]
    have hcs : cells.size = (pre ++ css[k] ++ post).length := by rw [← hf, ← e]; simp
    have hcond : ¬ (v.cells.size ≠ ct.cells ∨ (k * ct.cells + v.cells.size > cells.size)) := by
     rw [← hpl, hsz, hcs]
     simp
     omega
    dsimp only
    rw [if_neg (by simpa using hcond), ← hpl]
    exact h1
   ·cases he
  ·cases he
end
end Go.Vc
namespace Go.Vc
open Go.RowKit
section
variable {P : Program} {T : Tab} {M : Perm} {w0 : World} {c : Ctx} {h : List Obj} {w : World}
theorem aVw : ∀ (t : Ty), t.okB = true → ∀ fs off, eG T fs off t = true → lT c w (lP t) (cY t) ∧ (lP t).length = t.flds.length ∧ (∀ i (h : i < (lP t).length), ((lP t)[i]).solid1 = true) ∧ (∀ i (h : i < (lP t).length) (h' : i < t.flds.length), ((lP t)[i]).nc1 = (t.flds[i]).cells) := by
 intro t
 induction t with
 | unit => intro _ _ _ _; exact ⟨rfl, rfl, fun i h => by simp [lP] at h, fun i h => by simp [lP] at h⟩
 | pair a r _ ih =>
  intro hok fs off hf
  cases fs with
  | nil => simp [eG] at hf
  | cons f fs =>
   simp only [Ty.okB, Bool.and_eq_true] at hok
   simp only [eG, Bool.and_eq_true] at hf
   obtain ⟨h1, h2, h3, h4⟩ := ih hok.2 fs _ hf.2
   have main : ∀ u : AV, lP (.pair a r) = u :: lP r → u.solid1 = true → u.nc1 = a.cells → aN c w u (cY a) → lT c w (lP (.pair a r)) (cY (.pair a r)) ∧ (lP (.pair a r)).length = (Ty.pair a r).flds.length ∧ (∀ i (h : i < (lP (.pair a r)).length), ((lP (.pair a r))[i]).solid1 = true) ∧ (∀ i (h : i < (lP (.pair a r)).length) (h' : i < (Ty.pair a r).flds.length), ((lP (.pair a r))[i]).nc1 = ((Ty.pair a r).flds[i]).cells) := fun u e q1 q2 q3 => by
    rw [e]
    refine ⟨⟨cY a, cY r, rfl, q3, h1⟩, by simp [Ty.flds, h2], fun i hi => ?_, fun i hi hi' => ?_⟩
    ·cases i with
     | zero => exact q1
     | succ i => exact h3 i (by simpa using hi)
    ·cases i with
     | zero => exact q2
     | succ i => exact h4 i (by simpa using hi) (by simpa [Ty.flds] using hi')
   cases a with
   | sl a => exact main .nilS rfl rfl rfl rfl
   | _ => exact main (.val _ (Ty.zero _)) rfl rfl rfl (gG w c.S _ hok.1)
 | _ => intro _ fs off hf; cases fs <;> simp [eG] at hf
theorem aVx (hT : lD P T) {t : TypeId} {ps : List (Nat × AV)} {vs : List (Nat × Value)} (hp : aBW c w ps vs) (hc : (aLv T t ps).1) :
  ∃ u, (Instr.build t vs.toArray).run P w = .ok u w ∧ aX c w (aLv T t ps).2 u := by
 unfold aLv at hc ⊢
 cases ht : T t with
 | none => simp [ht] at hc
 | some ct =>
  have hTy := hT _ _ ht
  obtain ⟨d, hd, hb⟩ := hTy.desc
  cases ct with
  | pair a r =>
   simp only [ht] at hc ⊢
   obtain ⟨hok, hpo⟩ := hc
   have hz := rV hTy hok w
   cases d <;> simp only [iR, Bool.false_eq_true] at hb
   rename_i fs
   obtain ⟨h1, h2, h3, h4⟩ := aVw (c := c) (w := w) (T := T) (.pair a r) hok fs.toList 0 hb
   have hzc : (mL (.pair a r)).cells.toList = cY (.pair a r) := by simp [mL, Ty.isAgg, Value.cells]
   have hplaces : ∃ places : Array (Nat × Nat), (fs.mapM (fun f => do pure (f.offset, ← sizeOf f.type)) : Sem _).run P w = .ok places w ∧ ∀ k t, (Ty.pair a r).flds[k]? = some t → places[k]? = some ((((Ty.pair a r).flds.take k).map Ty.cells).foldr (· + ·) 0, t.cells) := by
    have hlen := aJ1 hb
    refine ⟨(fs.toList.zipWith (fun f t => (f.offset, t.cells)) (Ty.pair a r).flds).toArray, ?_, fun k t hk => ?_⟩
    ·have key : ∀ (l : List Field) (ts : List Ty) (acc : Array (Nat × Nat)), l.length = ts.length → (∀ i (h : i < l.length) (h' : i < ts.length), T (l[i]).type = some ts[i]) →
       ((l.mapM (fun f => do pure (f.offset, ← sizeOf f.type)) : Sem (List (Nat × Nat)))).run P w = .ok (l.zipWith (fun f t => (f.offset, t.cells)) ts) w := by
      intro l
      induction l with
      | nil => intro ts acc hl _; cases ts <;> simp at hl ⊢
      | cons f l ih =>
       intro ts acc hl hty
       cases ts with
       | nil => simp at hl
       | cons t ts =>
        have ht0 := hty 0 (by simp) (by simp)
        simp only [List.getElem_cons_zero] at ht0
        have hsz := fP (hT _ _ ht0) w
        have := ih ts acc (by simpa using hl) (fun i hi hi' => by have := hty (i + 1) (by simpa using hi) (by simpa using hi'); simpa using this)
        simp only [List.mapM_cons, Sem.run_bind, hsz, Result.andThen_ok, Sem.run_pure, this, List.zipWith_cons_cons]
     rw [Array.mapM_eq_mapM_toList]
     have := key fs.toList (Ty.pair a r).flds #[] hlen (fun i hi hi' => by
      obtain ⟨f, q1, q2, q3⟩ := aBz (k := i) hb (List.getElem?_eq_getElem hi')
      rw [List.getElem?_eq_getElem hi] at q1
      simp at q1
      rw [Array.getElem_toList, q1]; exact q2)
     show ((fs.toList.mapM (fun f => do pure (f.offset, ← sizeOf f.type)) : Sem (List (Nat × Nat))) >>= fun l => pure l.toArray).run P w = _
     rw [Sem.run_bind, this]
     rfl
    ·obtain ⟨f, q1, q2, q3⟩ := aBz hb hk
     simp only [List.getElem?_toArray, List.getElem?_zipWith, hk, q1]
     simp [q3]
   obtain ⟨places, hpl, hpp⟩ := hplaces
   obtain ⟨cells', hf, hr⟩ := aJ2 (c := c) (w := w) (place := (places[·]?)) hpp ps vs (lP (.pair a r)) (mL (.pair a r)).cells hp hpo (by rw [hzc]; exact h1) h2 h3 h4
   refine ⟨.agg cells', ?_, hr, fun _ => ⟨_, rfl⟩, fun h => by cases h⟩
   simp only [Instr.build, Sem.run_bind, hz, Result.andThen_ok, bD hd, hpl, hf, Sem.run_pure]
  | _ => simp [ht] at hc
theorem aWr (hT : lD P T) {t : TypeId} {ps : List (Nat × AV)} {vs : List (Nat × Value)} (hp : aBW c w ps vs) (hc : (aIk T t ps).1) :
  ∃ u, (Instr.build t vs.toArray).run P w = .ok u w ∧ aX c w (aIk T t ps).2 u := by
 unfold aIk at hc ⊢
 cases ht : T t with
 | none => simp [ht] at hc
 | some ct =>
  have hTy := hT _ _ ht
  obtain ⟨d, hd, hb⟩ := hTy.desc
  cases ct with
  | pair a r =>
   simp only [ht] at hc ⊢
   obtain ⟨hok, hpo⟩ := hc
   have hz := rV hTy hok w
   cases d <;> simp only [iR, Bool.false_eq_true] at hb
   rename_i fs
   obtain ⟨h1, h2, h3, h4⟩ := aQ3 (c := c) (w := w) (T := T) (.pair a r) hok fs.toList 0 hb
   have hzc : (mL (.pair a r)).cells.toList = cY (.pair a r) := by simp [mL, Ty.isAgg, Value.cells]
   have hplaces : ∃ places : Array (Nat × Nat), (fs.mapM (fun f => do pure (f.offset, ← sizeOf f.type)) : Sem _).run P w = .ok places w ∧ ∀ k t, (Ty.pair a r).flds[k]? = some t → places[k]? = some ((((Ty.pair a r).flds.take k).map Ty.cells).foldr (· + ·) 0, t.cells) := by
    have hlen := aJ1 hb
    refine ⟨(fs.toList.zipWith (fun f t => (f.offset, t.cells)) (Ty.pair a r).flds).toArray, ?_, fun k t hk => ?_⟩
    ·have key : ∀ (l : List Field) (ts : List Ty) (acc : Array (Nat × Nat)), l.length = ts.length → (∀ i (h : i < l.length) (h' : i < ts.length), T (l[i]).type = some ts[i]) →
       ((l.mapM (fun f => do pure (f.offset, ← sizeOf f.type)) : Sem (List (Nat × Nat)))).run P w = .ok (l.zipWith (fun f t => (f.offset, t.cells)) ts) w := by
      intro l
      induction l with
      | nil => intro ts acc hl _; cases ts <;> simp at hl ⊢
      | cons f l ih =>
       intro ts acc hl hty
       cases ts with
       | nil => simp at hl
       | cons t ts =>
        have ht0 := hty 0 (by simp) (by simp)
        simp only [List.getElem_cons_zero] at ht0
        have hsz := fP (hT _ _ ht0) w
        have := ih ts acc (by simpa using hl) (fun i hi hi' => by have := hty (i + 1) (by simpa using hi) (by simpa using hi'); simpa using this)
        simp only [List.mapM_cons, Sem.run_bind, hsz, Result.andThen_ok, Sem.run_pure, this, List.zipWith_cons_cons]
     rw [Array.mapM_eq_mapM_toList]
     have := key fs.toList (Ty.pair a r).flds #[] hlen (fun i hi hi' => by
      obtain ⟨f, q1, q2, q3⟩ := aBz (k := i) hb (List.getElem?_eq_getElem hi')
      rw [List.getElem?_eq_getElem hi] at q1
      simp at q1
      rw [Array.getElem_toList, q1]; exact q2)
     show ((fs.toList.mapM (fun f => do pure (f.offset, ← sizeOf f.type)) : Sem (List (Nat × Nat))) >>= fun l => pure l.toArray).run P w = _
     rw [Sem.run_bind, this]
     rfl
    ·obtain ⟨f, q1, q2, q3⟩ := aBz hb hk
     simp only [List.getElem?_toArray, List.getElem?_zipWith, hk, q1]
     simp [q3]
   obtain ⟨places, hpl, hpp⟩ := hplaces
   obtain ⟨cells', hf, hr⟩ := aJ2 (c := c) (w := w) (place := (places[·]?)) hpp ps vs (yG (.pair a r)) (mL (.pair a r)).cells hp hpo (by rw [hzc]; exact h1) h2 h3 h4
   refine ⟨.agg cells', ?_, aJ3 hr⟩
   simp only [Instr.build, Sem.run_bind, hz, Result.andThen_ok, bD hd, hpl, hf, Sem.run_pure]
  | unit =>
   simp only [ht] at hc ⊢
   subst hc
   cases hp
   have hz := rV hTy rfl w
   cases d <;> simp only [iR, Bool.false_eq_true] at hb
   rename_i fs
   have hfs : fs = #[] := by
    have := aJ1 hb
    simp [Ty.flds] at this
    exact this
   subst hfs
   refine ⟨.agg #[], ?_, ⟨rfl, fun _ => ⟨_, rfl⟩, fun h => by cases h⟩⟩
   simp [Instr.build, hz, bD hd, Result.andThen, Instr.fill, mL, Ty.isAgg, cY, Value.cells]
  | expr =>
   simp only [ht] at hc ⊢
   have hz := rV hTy rfl w
   cases d <;> simp only [iR, Bool.false_eq_true] at hb
   rename_i fs
   unfold aUx at hb
   split at hb
   ·rename_i f0 f1 f2 hfs
    simp only [Bool.and_eq_true, decide_eq_true_eq] at hb
    obtain ⟨⟨⟨⟨⟨b1, b2⟩, b3⟩, b4⟩, b5⟩, b6⟩ := hb
    have efs : fs = #[f0, f1, f2] := by rw [← Array.toList_inj]; exact hfs
    have s0 := fP (hT _ _ b1) w
    have s1 := fP (hT _ _ b3) w
    have s2 := fP (hT _ _ b5) w
    have hpl : (fs.mapM (fun f => do pure (f.offset, ← sizeOf f.type)) : Sem _).run P w = .ok #[(0, 1), (1, 1), (2, 1)] w := by
     rw [efs, Array.mapM_eq_mapM_toList]
     show (([f0, f1, f2].mapM (fun f => do pure (f.offset, ← sizeOf f.type)) : Sem (List (Nat × Nat))) >>= fun l => pure l.toArray).run P w = _
     simp only [List.mapM_cons, List.mapM_nil, Sem.run_bind, s0, s1, s2, Result.andThen_ok, Sem.run_pure, b2, b4, b6]
     rfl
    have hzc : (mL .expr).cells.toList = [.int .i64 0, .string ⟨#[]⟩, .slice none 0 0] := rfl
    obtain ⟨cells', hf, hr⟩ := aJ2 (c := c) (w := w) (place := ((#[(0, 1), (1, 1), (2, 1)] : Array (Nat × Nat))[·]?)) (ts := [.i .i64, .str, .sl .expr]) (fun k t hk => by
     match k, hk with
     | 0, hk => cases hk; rfl
     | 1, hk => cases hk; rfl
     | 2, hk => cases hk; rfl) ps vs [.val (.i .i64) 0, .val .str [], .nilS] (mL .expr).cells hp hc (by
      rw [hzc]
      exact ⟨[_], [_, _], rfl, ⟨rfl, rfl, by decide, by decide⟩, [_], [_], rfl, ⟨⟨#[]⟩, rfl, rfl, Nat.zero_le _⟩, [_], [], rfl, rfl, rfl⟩) rfl (fun i hi => by
      match i, hi with
      | 0, _ => rfl
      | 1, _ => rfl
      | 2, _ => rfl) (fun i hi _ => by
      match i, hi with
      | 0, _ => rfl
      | 1, _ => rfl
      | 2, _ => rfl)
    refine ⟨.agg cells', ?_, aJ3 hr⟩
    simp only [Instr.build, Sem.run_bind, hz, Result.andThen_ok, bD hd, hpl, hf, Sem.run_pure]
   ·cases hb
  | arr n ct =>
   simp only [ht] at hc ⊢
   cases hs : aRF ct (List.replicate n ct.zero) ps with
   | none => simp [hs] at hc
   | some ys =>
    simp only [hs] at hc ⊢
    obtain ⟨e, hd', he, hpos, _⟩ := aC1 hTy
    have hz := rV hTy hc w
    obtain ⟨cells', hf, hr⟩ := aOP (c := c) (w := w) (n := n) (place := fun i => some (i * ct.cells, ct.cells)) (fun _ => rfl) ps vs (List.replicate n ct.zero) (mL (.arr n ct)).cells ys hp hs (by
     have := gG w c.S (.arr n ct) hc
     have e1 : (mL (.arr n ct)).cells.toList = cY (.arr n ct) := by simp [mL, Ty.isAgg, Value.cells]
     rw [e1]; exact this)
    refine ⟨.agg cells', ?_, ⟨hr, fun _ => ⟨_, rfl⟩, fun h => by cases h⟩⟩
    simp [Instr.build, hz, bD hd', fP (hT _ _ he), Result.andThen, hf]
  | _ => simp [ht] at hc
theorem xT (zs : List Value) (n : Nat) (hz : 0 < zs.length) : ((Array.range (n * zs.length)).map (fun i => (zs.toArray)[i % zs.toArray.size]!)).toList = (List.replicate n zs).flatten := by
 simp only [Array.toList_map, Array.toList_range, List.size_toArray]
 induction n with
 | zero => simp
 | succ n ih =>
  rw [Nat.add_mul, Nat.one_mul, List.range_add, List.map_append, ih, List.replicate_succ']
  simp only [List.flatten_append, List.flatten_cons, List.flatten_nil, List.append_nil]
  congr 1
  apply List.ext_getElem
  ·simp
  ·intro i h1 h2
   simp only [List.length_map, List.length_range] at h1
   simp [Nat.mod_eq_of_lt, h1, Nat.add_comm]
theorem Good.alloc (hg : Good M w0 c h w) (o : Go.Obj) : Good M w0 (c.upto w.heap.size (w.heap.size + 1)) h (w.alloc o) ∧ dZ c w (c.upto w.heap.size (w.heap.size + 1)) (w.alloc o) := by
 have hk : iY nothing w (w.alloc o) := iY.alloc nothing w o
 have h1 := hg.call hk
 have h2 := uP hg hk
 have e : (w.alloc o).heap.size = w.heap.size + 1 := by simp
 rw [e] at h1 h2
 exact ⟨h1, h2⟩
theorem aQp (hT : lD P T) (hg : Good M w0 c h w) {t : TypeId} {n : Nat} {ps : List (Nat × AV)} {vs : List (Nat × Value)} (hp : aBW c w ps vs) (hc : (zN T t n ps).1) :
  ∃ u w' c', (Instr.buildSlice t n vs.toArray).run P w = .ok u w' ∧ aHj P M w0 h c w (zN T t n ps).2 u w' c' := by
 unfold zN at hc ⊢
 cases ht : T t with
 | none => simp [ht] at hc
 | some ct =>
  cases ct with
  | sl ct =>
   simp only [ht] at hc ⊢
   cases hs : aRF ct (List.replicate n ct.zero) ps with
   | none => simp [hs] at hc
   | some ys =>
    simp only [hs] at hc ⊢
    obtain ⟨hok, hn1, hn2⟩ := hc
    obtain ⟨e, hd, he, hpos⟩ := gC (hT _ _ ht)
    have hTe := hT _ _ he
    have hz := rV hTe hok w
    have hzc : (mL ct).cells.toList = cY ct := by
     have := (aHd w c.S ct hok).cells
     unfold mL
     split
     ·simp [Value.cells]
     ·have h1 : (cY ct).length = 1 := by
       rw [bE.length _ _ _ (gG w c.S ct hok)]
       rename_i ha
       cases ct <;> simp_all [Ty.isAgg, Ty.cells]
      match hzz : cY ct, h1 with
      | [v], _ =>
       have hone := bE.one ct _ _ (gG w c.S ct hok) v (by rw [hzz]; simp)
       simp only [List.headD_cons]
       cases v <;> first | rfl | exact hone.elim
    have hzl : (cY ct).length = ct.cells := bE.length _ _ _ (gG w c.S ct hok)
    have hza : (mL ct).cells = (cY ct).toArray := by rw [← hzc]
    have hcells : ((Array.range (n * ct.cells)).map (fun i => (cY ct).toArray[i % (cY ct).toArray.size]!)).toList = (List.replicate n (cY ct)).flatten := by
     rw [← hzl]; exact xT _ n (by omega)
    obtain ⟨cells', hf, hr⟩ := aOP (c := c) (w := w) (n := n) (place := fun i => some (i * ct.cells, ct.cells)) (fun _ => rfl) ps vs (List.replicate n ct.zero) ((Array.range (n * ct.cells)).map (fun i => (cY ct).toArray[i % (cY ct).toArray.size]!)) ys hp hs (by
     rw [hcells]
     exact gG w c.S (.arr n ct) hok)
    obtain ⟨g1, g2⟩ := hg.alloc (.cells cells' e (0, 0))
    refine ⟨.slice (some ⟨w.heap.size, 0, none⟩) n n, w.alloc (.cells cells' e (0, 0)), _, ?_, g2, ⟨rfl, rfl⟩, g1, iY.alloc nothing w _, fun b hb => hb.imp id And.left, ?_⟩
    ·have hle : ¬ (n * ct.cells > 2 ^ 24) := by omega
     by_cases h0 : n * ct.cells = 0
     ·have hn0 : n = 0 := by
       rcases Nat.mul_eq_zero.1 h0 with h | h
       ·exact h
       ·omega
      subst hn0
      have e0 : (Array.range (0 * ct.cells)).map (fun i => (cY ct).toArray[i % (cY ct).toArray.size]!) = #[] := by simp
      rw [e0] at hf
      have hle : ¬ (0 * ct.cells > 2 ^ 24) := by omega
      have e1 : (Array.range (0 * ct.cells)).map (fun x => (#[] : Array Value)[x % (#[] : Array Value).size]!) = #[] := by simp
      simp only [Instr.buildSlice, Sem.run_bind, bD hd, Result.andThen_ok, fP hTe, hle, if_false, Nat.zero_mul, if_true, Sem.run_ite, Sem.run_pure]
      simp only [Nat.zero_mul] at e1
      rw [e1, hf]
      rfl
     ·rw [← hza] at hf
      simp only [Instr.buildSlice, Sem.run_bind, bD hd, Result.andThen_ok, fP hTe, hle, if_false, h0, hz, Sem.run_ite, Sem.run_pure, hf]
      rfl
    ·obtain ⟨hyn, css, hcs, hl, hrep⟩ := hr
     refine ⟨⟨some ⟨w.heap.size, 0, none⟩, n, rfl, hyn, Nat.le_refl _, hn2, .inr ⟨w.heap.size, 0, rfl, .inr ⟨Nat.le_refl _, Nat.lt_succ_self _⟩, fun i hi => ?_⟩⟩, (fun h => by cases h), (fun _ cs => by simp)⟩
     refine ⟨css[i], bE.keep g2.le.S g2.same _ _ _ (hrep i hi (by omega)), ?_⟩
     obtain ⟨pre, post, hf', hpl⟩ := oK (t := ct) (css := css) (fun j hj => bE.length _ _ _ (hrep j (by omega) hj)) i (by omega)
     rw [Nat.zero_add, ← hpl]
     refine tQ (cells := cells') (e := e) (fz := (0, 0)) ?_ (hcs.trans hf')
     show (w.heap.push _)[w.heap.size]? = _
     rw [Array.getElem?_push_size]
  | _ => simp [ht] at hc
theorem aLz {mx : Bool} {x y : AV} {v u : Value} (hv : aX c w x v) (hu : aX c w y u) (hc : (mm2 mx x y).1) :
  ∃ r, ((if mx then Builtin.max2 v u else Builtin.min2 v u)).run P w = .ok r w ∧ aX c w (mm2 mx x y).2 r := by
 cases x with
 | val t1 a =>
  cases t1 with
  | i k =>
   cases y with
   | val t2 b =>
    cases t2 with
    | i k' =>
     obtain ⟨rfl, hk, ha⟩ := aHc hv
     obtain ⟨rfl, hk', hb⟩ := aHc hu
     simp only [mm2] at hc ⊢
     split at hc
     ·rename_i e
      subst e
      simp only [if_true]
      cases mx
      ·refine ⟨_, by simp only [Builtin.min2]; rfl, ?_⟩
       simp only [Bool.false_eq_true, if_false]
       rw [show (if b < a then b else a) = min a b from minI a b]
       refine yF hk ?_
       rcases minI_or a b with e | e <;> rw [e] <;> assumption
      ·refine ⟨_, by simp only [Builtin.max2]; rfl, ?_⟩
       simp only [if_true]
       rw [show (if b > a then b else a) = max a b from maxI a b]
       refine yF hk ?_
       rcases maxI_or a b with e | e <;> rw [e] <;> assumption
     ·exact hc.elim
    | _ => exact hc.elim
   | _ => exact hc.elim
  | u k =>
   cases y with
   | val t2 b =>
    cases t2 with
    | u k' =>
     obtain ⟨rfl, hk, ha⟩ := aII hv
     obtain ⟨rfl, hk', hb⟩ := aII hu
     simp only [mm2] at hc ⊢
     split at hc
     ·rename_i e
      subst e
      simp only [if_true]
      cases mx
      ·refine ⟨_, by simp only [Builtin.min2]; rfl, ?_⟩
       simp only [Bool.false_eq_true, if_false]
       rw [show (if (b : Int) < a then (b : Int) else a) = ((min a b : Nat) : Int) from minN a b]
       refine aGU hk ?_
       rcases minN_or a b with e | e <;> rw [e] <;> assumption
      ·refine ⟨_, by simp only [Builtin.max2]; rfl, ?_⟩
       simp only [if_true]
       rw [show (if (b : Int) > a then (b : Int) else a) = ((max a b : Nat) : Int) from maxN a b]
       refine aGU hk ?_
       rcases maxN_or a b with e | e <;> rw [e] <;> assumption
     ·exact hc.elim
    | _ => exact hc.elim
   | _ => exact hc.elim
  | _ => exact hc.elim
 | _ => exact hc.elim
where
 minI (a b : Int) : (if b < a then b else a) = min a b := by omega
 maxI (a b : Int) : (if b > a then b else a) = max a b := by omega
 minI_or (a b : Int) : min a b = a ∨ min a b = b := by omega
 maxI_or (a b : Int) : max a b = a ∨ max a b = b := by omega
 minN (a b : Nat) : (if (b : Int) < a then (b : Int) else a) = ((min a b : Nat) : Int) := by omega
 maxN (a b : Nat) : (if (b : Int) > a then (b : Int) else a) = ((max a b : Nat) : Int) := by omega
 minN_or (a b : Nat) : min a b = a ∨ min a b = b := by omega
 maxN_or (a b : Nat) : max a b = a ∨ max a b = b := by omega
theorem aUJ {t : TypeId} {x : AV} {v : Value} (hv : aX c w x v) : aX c w (aSw T t x) v := by
 cases x with
 | flat l =>
  simp only [aSw]
  split
  ·split
   ·rename_i ct _ x ha
    exact aX.ofV (aQ4 hv ha)
   ·exact hv
  ·exact hv
 | _ => exact hv
end
end Go.Vc
namespace Go.Vc
open Go.RowKit
section
variable {P : Program} {T : Tab} {M : Perm} {w0 : World} {c : Ctx} {h : List Obj} {w : World}
theorem aRJ {t : TypeId} {k : IntKind} (hTy : aCq P T t (.u k)) : P.underlying t = some (.int k) := by
 obtain ⟨d, hd, hb⟩ := hTy.desc
 cases d <;> simp [iR] at hb
 obtain ⟨rfl, _⟩ := hb
 exact hd
noncomputable def aWs (T : Tab) (h : List Obj) (s d : TypeId) (x : AV) : Prop × AV :=
 match T d, x with
 | some (.sl (.u .u8)), .val .str b => (T s = some .str, .val (.sl (.u .u8)) b)
 | some .str, x => match T s with
  | some (.sl (.u .u8)) => match x with
   | .sub k sz off n => match h[k]? with
    | some (.box _ (.val (.arr m (.u .u8)) xs)) => (sz = 1 ∧ off + n ≤ m, .val .str ((xs.drop off).take n))
    | _ => (False, .junk)
   | x => match AV.as h (.sl (.u .u8)) x with
    | some b => (True, .val .str b)
    | none => (False, .junk)
  | _ => aLu T s d x
 | _, x => aLu T s d x
theorem aSC (hT : lD P T) (hg : Good M w0 c h w) {s d : TypeId} {b : List Nat} {v : Value} (hs : T s = some .str) (hd : T d = some (.sl (.u .u8))) (hv : aX c w (.val .str b) v) :
  ∃ u w' c', (convert s d v).run P w = .ok u w' ∧ aHj P M w0 h c w (.val (.sl (.u .u8)) b) u w' c' := by
 obtain ⟨st, rfl, rfl, hm⟩ := aMN hv
 obtain ⟨e, hd', he, _⟩ := gC (hT _ _ hd)
 have hrun := run_bytes_of_string (P := P) w s d e st (yQ (hT _ _ hs)) hd' (aRJ (hT _ _ he))
 obtain ⟨w', hw'⟩ : ∃ w', w' = w.drew.alloc (.cells (bytesRow st (grownCap w st.size 0 e)) e ((bytesRow st (grownCap w st.size 0 e)).size, (bytesRow st (grownCap w st.size 0 e)).size + 1)) := ⟨_, rfl⟩
 rw [← hw'] at hrun
 have hheap : w'.heap = w.heap.push (.cells (bytesRow st (grownCap w st.size 0 e)) e ((bytesRow st (grownCap w st.size 0 e)).size, (bytesRow st (grownCap w st.size 0 e)).size + 1)) := by rw [hw']; rfl
 have hk : iY nothing w w' := ⟨by rw [hw']; rfl, by rw [hw']; rfl, by rw [hw']; rfl, by rw [hheap]; simp, fun b hb _ => by rw [hheap]; simp [Array.getElem?_push, Nat.ne_of_lt hb]⟩
 have g1 := hg.call hk
 have g2 := uP hg hk
 refine ⟨_, w', _, hrun, g2, ⟨rfl, rfl⟩, g1, hk, fun b hb => hb.imp id And.left, ⟨⟨_, _, _, rfl, ?_, grownCap_ge _ _ _ _, grownCap_le_maxLen _ _ _ _ hm, .inr ⟨w.heap.size, 0, rfl, .inr ⟨Nat.le_refl _, by rw [hheap]; simp⟩, fun i hi => ?_⟩⟩, (fun h => by cases h), (fun _ cs => by simp)⟩⟩
 ·exact qX st
 ·have hi' : i < st.data.size := by rw [qX] at hi; exact hi
  have hsz : st.data.size = st.size := rfl
  have hge := grownCap_ge w st.size 0 e
  refine ⟨[.int .u8 (st.data[i].toNat : Int)], ⟨?_, rfl, ?_⟩, ?_⟩
  ·simp [aS]
  ·have : (aS st)[i] = st.data[i].toNat := by simp [aS]
   rw [this]
   have := st.data[i].toNat_lt
   simp only [IntKind.max, IntKind.signed, IntKind.bits]
   simp
   omega
  ·have hc := tQ (w := w') (b := w.heap.size) (cells := bytesRow st (grownCap w st.size 0 e)) (e := e) (fz := ((bytesRow st (grownCap w st.size 0 e)).size, (bytesRow st (grownCap w st.size 0 e)).size + 1)) (pre := (bytesRow st (grownCap w st.size 0 e)).toList.take i) (ds := [.int .u8 (st.data[i].toNat : Int)]) (post := (bytesRow st (grownCap w st.size 0 e)).toList.drop (i + 1)) (by rw [hheap]; simp) (by
    have hlt : i < (bytesRow st (grownCap w st.size 0 e)).toList.length := by simp [bytesRow]; omega
    have hg : (bytesRow st (grownCap w st.size 0 e)).toList[i] = .int .u8 (st.data[i].toNat : Int) := by
     simp only [bytesRow, Array.toList_append, Array.toList_map, Array.toList_replicate]
     rw [List.getElem_append_left (by simpa using hi')]
     simp
    rw [← hg, List.append_assoc, List.singleton_append, List.getElem_cons_drop, List.take_append_drop])
   have hl : ((bytesRow st (grownCap w st.size 0 e)).toList.take i).length = i := by simp [bytesRow]; omega
   rw [hl] at hc
   simpa [Ty.cells] using hc
theorem aEV {s d e : TypeId} {b : List Nat} {bl off cap : Nat} (hs' : P.underlying s = some (.slice e)) (he' : P.underlying e = some (.int .u8)) (hd' : P.underlying d = some .string) (hm : b.length ≤ maxLen)
  (hb : ∀ i (hi : i < b.length), b[i] < 256 ∧ w.cell? ⟨bl, off + i, none⟩ = some (.int .u8 (b[i] : Int))) :
  ∃ u, (convert s d (.slice (some ⟨bl, off, none⟩) b.length cap)).run P w = .ok u w ∧ aX c w (.val .str b) u := by
 have hl : (b.map UInt8.ofNat).length = b.length := by simp
 have hback : ∀ i (hi : i < b.length), (UInt8.ofNat b[i]).toNat = b[i] := fun i hi => by
  have := (hb i hi).1
  simp [UInt8.toNat_ofNat']
  omega
 have hrun := run_convert_bytes_back (P := P) w s d e ⟨bl, off, none⟩ cap (b.map UInt8.ofNat) hs' he' hd' (fun j hj => by
  have hj' : j < b.length := by simpa using hj
  have h2 := (hb j hj').2
  rw [List.getElem_map, hback j hj']
  simp only [Addr.add]
  split
  ·rename_i h0; subst h0; simpa using h2
  ·exact h2)
 rw [hl] at hrun
 refine ⟨_, hrun, ⟨⟨⟨(b.map UInt8.ofNat).toArray⟩, rfl, ?_, ?_⟩, (fun h => by cases h), (fun _ cs => by simp)⟩⟩
 ·apply List.ext_getElem
  ·simp [aS]
  ·intro i h1 h2
   have := hback i h2
   simpa [aS] using this
 ·show (b.map UInt8.ofNat).toArray.size ≤ maxLen
  simp
  exact hm
theorem aRK (hT : lD P T) (hg : Good M w0 c h w) {s d : TypeId} {k off n m q : Nat} {xs : List Nat} {v : Value} (hs : T s = some (.sl (.u .u8))) (hd : T d = some .str) (hv : aX c w (.sub k 1 off n) v)
  (ho : h[k]? = some (.box q (.val (.arr m (.u .u8)) xs))) (hle : off + n ≤ m) :
  ∃ u, (convert s d v).run P w = .ok u w ∧ aX c w (.val .str ((xs.drop off).take n)) u := by
 obtain ⟨_, hn, b, cap, hb, rfl⟩ := aRG hv
 obtain ⟨b', cells, e2, hhd, hheap, _, hcl⟩ := hg.objs k _ ho
 rw [hhd] at hb
 simp only [aW, Option.some.injEq] at hb
 subst hb
 obtain ⟨e, hs', he, _⟩ := gC (hT _ _ hs)
 obtain ⟨hlen, css, hcs, hcl2, hrep⟩ := hcl
 have hlen : xs.length = m := hlen
 have hl : ((xs.drop off).take n).length = n := by simp; omega
 have key := aEV (P := P) (w := w) (c := c) (b := (xs.drop off).take n) (bl := b') (off := off * 1) (cap := cap) hs' (aRJ (hT _ _ he)) (yQ (hT _ _ hd)) (by rw [hl]; exact hn) (fun i hi => by
  rw [hl] at hi
  have hx : off + i < xs.length := by omega
  have hx' : off + i < css.length := by omega
  obtain ⟨h1, _, h3⟩ := hrep (off + i) hx hx'
  have hg2 : ((xs.drop off).take n)[i]'(by rw [hl]; exact hi) = xs[off + i] := by simp
  rw [hg2]
  refine ⟨?_, ?_⟩
  ·simp only [IntKind.max, IntKind.signed, IntKind.bits] at h3
   simp at h3
   omega
  ·obtain ⟨pre, post, hf, hpl⟩ := oK (t := .u .u8) (css := css) (fun j hj => bE.length _ _ _ (hrep j (by omega) hj)) (off + i) hx'
   have hc := tQ (w := w) (b := b') (cells := cells) (e := e2) (fz := (0, 0)) hheap (hcs.trans hf)
   have := hc 0 (.int .u8 (xs[off + i] : Int)) (by rw [h1]; rfl)
   rw [hpl] at this
   simpa [Ty.cells, Nat.mul_one] using this)
 rw [hl] at key
 exact key
theorem aQq (hT : lD P T) (hg : Good M w0 c h w) {s d : TypeId} {x : AV} {b : List Nat} {v : Value} (hs : T s = some (.sl (.u .u8))) (hd : T d = some .str) (hv : aX c w x v) (ha : AV.as h (.sl (.u .u8)) x = some b) :
  ∃ u, (convert s d v).run P w = .ok u w ∧ aX c w (.val .str b) u := by
 obtain ⟨a, len, cap, rfl, hlen, hle, hm, hor⟩ := aC0 (c := ⟨aDO c h, c.hd, c.n, c.bl⟩) (aIp hg hv ha)
 obtain ⟨e, hs', he, _⟩ := gC (hT _ _ hs)
 have hd' := yQ (hT _ _ hd)
 have he' := aRJ (hT _ _ he)
 subst hlen
 rcases hor with rfl | ⟨bl, off, rfl, _, hcell⟩
 ·cases a with
  | none => exact ⟨_, run_convert_bytes_nil w s e hs' he' _ _ d hd', ⟨⟨ByteArray.empty, rfl, rfl, Nat.zero_le _⟩, (fun h => by cases h), (fun _ cs => by simp)⟩⟩
  | some a => exact ⟨_, run_convert_bytes_back w s d e a cap [] hs' he' hd' (fun j hj => by simp at hj), ⟨⟨⟨#[]⟩, rfl, rfl, Nat.zero_le _⟩, (fun h => by cases h), (fun _ cs => by simp)⟩⟩
 ·have hb : ∀ i (hi : i < b.length), b[i] < 256 ∧ w.cell? ⟨bl, off + i, none⟩ = some (.int .u8 (b[i] : Int)) := fun i hi => by
   obtain ⟨ds, ⟨rfl, _, hmx⟩, hc⟩ := hcell i hi
   refine ⟨?_, ?_⟩
   ·simp only [IntKind.max, IntKind.signed, IntKind.bits] at hmx
    simp at hmx
    omega
   ·have := hc 0 (.int .u8 (b[i] : Int)) rfl
    simpa [Ty.cells] using this
  exact aEV hs' he' hd' (Nat.le_trans hle hm) hb
end
end Go.Vc
namespace Go.Vc
open Go.RowKit
def Ty.key1 : Ty → Bool
 | .bool => true
 | .u _ => true
 | .i _ => true
 | .str => true
 | _ => false
def Ty.keyB : Ty → Bool
 | .arr _ t => t.key1
 | t => t.key1
def aBA {β : Type} (c : Ty) : List (c.den × β) → c.den → Option β
 | [], _ => none
 | (k, v) :: r, x => if c.eqb x k = true then some v else aBA c r x
def zJ {β : Type} (c : Ty) : List (c.den × β) → c.den → β → List (c.den × β)
 | [], x, y => [(x, y)]
 | (k, v) :: r, x, y => if c.eqb x k = true then (k, y) :: r else (k, v) :: zJ c r x y
theorem aJ4 {c : Ty} (h : c.key1 = true) : c.cmpB = true ∧ c.deep = 0 ∧ c.isAgg = false ∧ c.cells = 1 := by
 cases c <;> simp_all [Ty.key1, Ty.cmpB, Ty.deep, Ty.isAgg, Ty.cells]
theorem aSD {c : Ty} (h : c.keyB = true) : c.cmpB = true ∧ c.deep ≤ 100 := by
 cases c <;> first | (simp_all [Ty.keyB, Ty.key1, Ty.cmpB, Ty.deep]; done) | skip
 rename_i n t
 have := aJ4 (c := t) h
 simp [Ty.cmpB, Ty.deep, this.1, this.2.1]
theorem aUK {w w' : World} {S S' : Nat → Prop} : ∀ {c : Ty} {x y : c.den} {v u : Value}, c.key1 = true → bE w S c x [v] → bE w' S' c y [u] → (c.eqb x y = true ↔ v = u)
 | .bool, x, y, v, u, _, hx, hy => by
  simp only [bE, List.cons.injEq, and_true] at hx hy; subst hx; subst hy; simp [Ty.eqb]
 | .u k, x, y, v, u, _, hx, hy => by
  obtain ⟨hx, _⟩ := hx
  obtain ⟨hy, _⟩ := hy
  simp only [List.cons.injEq, and_true] at hx hy; subst hx; subst hy; simp [Ty.eqb, Int.natCast_inj]
 | .i k, x, y, v, u, _, hx, hy => by
  obtain ⟨hx, _⟩ := hx
  obtain ⟨hy, _⟩ := hy
  simp only [List.cons.injEq, and_true] at hx hy; subst hx; subst hy; simp [Ty.eqb]
 | .str, x, y, v, u, _, hx, hy => by
  obtain ⟨s, hx, e1, _⟩ := hx
  obtain ⟨t, hy, e2, _⟩ := hy
  simp only [List.cons.injEq, and_true] at hx hy
  subst hx; subst hy; subst e1; subst e2
  simp only [Ty.eqb, decide_eq_true_eq, Value.string.injEq]
  exact ⟨aOG, fun h => by rw [h]⟩
theorem aOQ {w : World} {S : Nat → Prop} {c : Ty} {x : c.den} {cs : List Value} (h1 : c.cells = 1) (h : bE w S c x cs) : ∃ v, cs = [v] := by
 have hl := (bE.length _ _ _ h).trans h1
 match cs, hl with
 | [v], _ => exact ⟨v, rfl⟩
theorem aUL {t : Ty} {w w' : World} {S S' : Nat → Prop} (ht : t.key1 = true) : ∀ (X Y : List t.den) (css css' : List (List Value)), css.length = X.length → css'.length = Y.length → X.length = Y.length →
  (∀ i (h : i < X.length) (h' : i < css.length), bE w S t X[i] css[i]) → (∀ i (h : i < Y.length) (h' : i < css'.length), bE w' S' t Y[i] css'[i]) → ((List.zipWith t.eqb X Y).all id = true ↔ css.flatten = css'.flatten)
 | [], [], [], [], _, _, _, _, _ => by simp
 | x :: X, y :: Y, a :: css, b :: css', h1, h2, h3, hx, hy => by
  have r0 := hx 0 (by simp) (by simp)
  have r0' := hy 0 (by simp) (by simp)
  simp only [List.getElem_cons_zero] at r0 r0'
  obtain ⟨v, rfl⟩ := aOQ (aJ4 ht).2.2.2 r0
  obtain ⟨u, rfl⟩ := aOQ (aJ4 ht).2.2.2 r0'
  have rec_ := aUL ht X Y css css' (by simpa using h1) (by simpa using h2) (by simpa using h3) (fun i h h' => by have := hx (i + 1) (by simpa using h) (by simpa using h'); simpa using this) (fun i h h' => by have := hy (i + 1) (by simpa using h) (by simpa using h'); simpa using this)
  simp only [List.zipWith_cons_cons, List.all_cons, id, Bool.and_eq_true, rec_, aUK ht r0 r0', List.flatten_cons, List.cons_append, List.nil_append, List.cons.injEq]
theorem aWt {w w' : World} {S S' : Nat → Prop} {c : Ty} {x y : c.den} {v u : Value} (hc : c.keyB = true) (hx : dF w S c x v) (hy : dF w' S' c y u) : c.eqb x y = true ↔ v = u := by
 unfold dF at hx hy
 cases c <;> first | (simp [Ty.keyB, Ty.key1] at hc; done) | skip
 case arr n t =>
  simp only [Ty.isAgg, if_true] at hx hy
  obtain ⟨⟨cs⟩, rfl, hx⟩ := hx
  obtain ⟨⟨ds⟩, rfl, hy⟩ := hy
  obtain ⟨h1, css, h2, h3, h4⟩ := hx
  obtain ⟨h1', css', h2', h3', h4'⟩ := hy
  simp only at h2 h2'
  have := aUL (t := t) hc x y css css' h3 h3' (h1.trans h1'.symm) (fun i h h' => h4 i h h') (fun i h h' => h4' i h h')
  simp only [Ty.eqb, this]
  subst h2; subst h2'
  simp
 all_goals (simp only [Ty.isAgg, Bool.false_eq_true, if_false] at hx hy; exact aUK hc hx hy)
section
variable {P : Program} {T : Tab}
theorem aWu (em : Bool) (n : Nat) {t : TypeId} {c : Ty} (hT : aCq P T t c) (hc : c.key1 = true) (v : Value) (w : World) : (Instr.checkKey em (n + 1) t v).run P w = .ok () w := by
 obtain ⟨d, hd, hb⟩ := hT.desc
 unfold Instr.checkKey
 simp only [Sem.run_bind, bD hd, Result.andThen_ok]
 cases c <;> first | (simp [Ty.key1] at hc; done) | skip
 all_goals (cases d <;> first | (simp [iR] at hb; done) | skip)
 all_goals (cases v <;> rfl)
def yH (em : Bool) (d : Nat) (e : TypeId) (n : Nat) (xs : Array Value) : List Nat → Sem Unit
 | [] => pure ()
 | i :: r => do
  let a ← part e xs (i * n)
  Instr.checkKey em d e a
  yH em d e n xs r
theorem aNB (em : Bool) (d : Nat) (t e : TypeId) (len n : Nat) (xs : Array Value) (w : World) (ht : P.underlying t = some (.array len e)) (hn : ∀ w, (sizeOf e).run P w = .ok n w) :
  (Instr.checkKey em (d + 1) t (.agg xs)).run P w = (yH em d e n xs (List.range' 0 len)).run P w := by
 simp only [Instr.checkKey, Sem.run_bind, bD ht, Result.andThen_ok]
 simp only [Std.Legacy.Range.forIn_eq_forIn_range', Std.Legacy.Range.size]
 simp only [Nat.sub_zero, Nat.add_sub_cancel, Nat.div_one]
 generalize List.range' 0 len = is
 clear ht
 induction is generalizing w with
 | nil => simp [yH]
 | cons i r ih =>
  simp only [List.forIn_cons, yH, Sem.run_bind, hn, Result.andThen_ok]
  generalize (part e xs (i * n)).run P w = r1
  cases r1 with
  | ok a w1 =>
   simp only [Result.andThen_ok]
   generalize (Instr.checkKey em d e a).run P w1 = r2
   cases r2 with
   | ok b w2 => simp only [Result.andThen_ok, Sem.run_pure]; exact ih w2
   | halt x w2 => simp [Result.andThen]
  | halt x w1 => simp [Result.andThen]
theorem aHl (em : Bool) (d : Nat) {w : World} {S : Nat → Prop} {e : TypeId} {t : Ty} (hT : aCq P T e t) (ht : t.key1 = true) {xs : Array Value} : ∀ (k i : Nat) (X : List t.den) (pre : List Value) (css : List (List Value)) (w' : World),
   X.length = k → css.length = k → (∀ j (h : j < X.length) (h' : j < css.length), bE w S t X[j] css[j]) → xs.toList = pre ++ css.flatten → pre.length = i * t.cells → (yH em (d + 1) e t.cells xs (List.range' i k)).run P w' = .ok () w'
 | 0, i, X, _, _, w', hX, _, _, _, _ => by simp [yH]
 | k + 1, i, X, pre, css, w', hX, hc, hr, hx, hp => by
  match X, css, hX, hc with
  | x :: X, c :: cs, hX, hc =>
   have r0 := hr 0 (by simp) (by simp)
   simp only [List.getElem_cons_zero] at r0
   obtain ⟨va, e1, q1⟩ := aC6 hT (cs := xs) (pre := pre) (ds := c) (post := cs.flatten) (by rw [hx]; simp) r0 w'
   rw [hp] at e1
   have l1 := bE.length _ _ _ r0
   have rec_ := aHl em d hT ht (xs := xs) k (i + 1) X (pre ++ c) cs w' (by simpa using hX) (by simpa using hc)
    (fun j h h' => by have := hr (j + 1) (by simpa using h) (by simpa using h'); simpa using this) (by rw [hx]; simp) (by simp [hp, l1, Nat.add_mul])
   simp only [List.range'_succ, yH, Sem.run_bind, e1, Result.andThen_ok, aWu em d hT ht, rec_]
theorem aIL (em : Bool) (n : Nat) (hT : lD P T) {t : TypeId} {c : Ty} (ht : T t = some c) (hc : c.keyB = true) {w : World} {S : Nat → Prop} {x : c.den} {v : Value} (hx : dF w S c x v) (w' : World) : (Instr.checkKey em (n + 2) t v).run P w' = .ok () w' := by
 cases c <;> first | (simp [Ty.keyB, Ty.key1] at hc; done) | exact aWu em (n + 1) (hT _ _ ht) hc v w' | skip
 rename_i m q
 obtain ⟨d, hd, hb⟩ := (hT _ _ ht).desc
 cases d <;> simp [iR] at hb
 rename_i len e
 obtain ⟨⟨⟨rfl, hb2⟩, hb3⟩, hb4⟩ := hb
 unfold dF at hx
 simp only [Ty.isAgg, if_true] at hx
 obtain ⟨cs, rfl, hx⟩ := hx
 obtain ⟨h1, css, h2, h3, h4⟩ := hx
 rw [aNB em (n + 1) t e m q.cells cs w' hd (fP (hT _ _ hb2))]
 exact aHl em n (hT _ _ hb2) hc m 0 x [] css w' h1 (h3.trans h1) (fun j h h' => h4 j h h') (by simpa using h2) (by simp)
def aEW (c : Ty) {β : Type} (x : c.den) : List (c.den × β) → List MapEntry → Nat → Option (Nat × Value)
 | (k, _) :: m, e :: es, i => if c.eqb x k = true then some (i, e.val) else aEW c x m es (i + 1)
 | _, _, _ => none
theorem aLA {c : Ty} {β : Type} {w : World} {S : Nat → Prop} {x : c.den} : ∀ (m : List (c.den × β)) (es : List MapEntry) (i : Nat), es.length = m.length →
  match aBA c m x with
  | some y => ∃ j e k, aEW c x m es i = some (i + j, e.val) ∧ es[j]? = some e ∧ m[j]? = some (k, y) ∧ c.eqb x k = true ∧ ∀ y', zJ c m x y' = m.set j (k, y')
  | none => aEW c x m es i = none ∧ ∀ y', zJ c m x y' = m ++ [(x, y')]
 | [], [], i, _ => by simp [aBA, aEW, zJ]
 | (k, y) :: m, e :: es, i, hl => by
  have rec_ := aLA (w := w) (S := S) (x := x) m es (i + 1) (by simpa using hl)
  simp only [aBA, aEW, zJ]
  by_cases hq : c.eqb x k = true
  ·simp only [hq, if_true]
   exact ⟨0, e, k, rfl, rfl, rfl, hq, fun y' => rfl⟩
  ·simp only [hq, if_false]
   split at rec_
   ·rename_i y1 hy
    obtain ⟨j, e1, k1, r1, r2, r3, r4, r5⟩ := rec_
    simp only [hy]
    exact ⟨j + 1, e1, k1, by simp [hq, r1]; omega, by simpa using r2, by simpa using r3, r4, fun y' => by simp [hq, r5]⟩
   ·rename_i hy
    simp only [hy]
    exact ⟨by simp [hq, rec_.1], fun y' => by simp [hq, rec_.2]⟩
theorem aHm (hT : lD P T) {t : TypeId} {c : Ty} (ht : T t = some c) (hc : c.keyB = true) {β : Type} {w : World} {S : Nat → Prop} {x : c.den} {v : Value} (hx : dF w S c x v) (w' : World) : ∀ (m : List (c.den × β)) (es : List MapEntry) (i : Nat), es.length = m.length →
  (∀ j (h : j < m.length) (h' : j < es.length), dF w S c m[j].1 es[j].key) → (Instr.findAsking t v es i).run P w' = .ok (aEW c x m es i) w'
 | [], [], i, _, _ => by simp [Instr.findAsking, aEW]
 | (k, y) :: m, e :: es, i, hl, hr => by
  have h0 := hr 0 (by simp) (by simp)
  simp only [List.getElem_cons_zero] at h0
  have hq := aFx (P := P) hT w' ht (aSD hc).1 (aSD hc).2 hx h0
  have rec_ := aHm hT ht hc hx w' m es (i + 1) (by simpa using hl) (fun j h h' => by have := hr (j + 1) (by simpa using h) (by simpa using h'); simpa using this)
  simp only [Instr.findAsking, Sem.run_bind, hq, Result.andThen_ok, aEW, Sem.run_ite, rec_, Sem.run_pure]
  split <;> rfl
theorem aMR {t : TypeId} {c : Ty} (hT : aCq P T t c) (hc : c.key1 = true) {d : TypeDesc} (hd : P.underlying t = some d) {β : Type} {w : World} {S : Nat → Prop} {x : c.den} {v : Value} (hx : dF w S c x v) : ∀ (m : List (c.den × β)) (es : List MapEntry) (i : Nat), es.length = m.length →
  (∀ j (h : j < m.length) (h' : j < es.length), dF w S c m[j].1 es[j].key) → Instr.findNow d v es i = some (aEW c x m es i)
 | [], [], i, _, _ => by simp [Instr.findNow, aEW]
 | (k, y) :: m, e :: es, i, hl, hr => by
  have h0 := hr 0 (by simp) (by simp)
  simp only [List.getElem_cons_zero] at h0
  have rec_ := aMR hT hc hd hx m es (i + 1) (by simpa using hl) (fun j h h' => by have := hr (j + 1) (by simpa using h) (by simpa using h'); simpa using this)
  have hsame : Instr.sameNow d v e.key = some (c.eqb x k) := by
   have he := aWt (c := c) (by cases c <;> simp_all [Ty.key1, Ty.keyB]) hx h0
   obtain ⟨d', hd', hb⟩ := hT.desc
   rw [hd] at hd'
   cases hd'
   unfold dF at hx h0
   cases c <;> first | (simp [Ty.key1] at hc; done) | skip
   all_goals (cases d <;> first | (simp [iR] at hb; done) | skip)
   all_goals simp only [Ty.isAgg, Bool.false_eq_true, if_false] at hx h0
   ·simp only [bE, List.cons.injEq, and_true] at hx h0
    rw [hx, h0]; rfl
   ·obtain ⟨hx, _⟩ := hx
    obtain ⟨h0, _⟩ := h0
    simp only [List.cons.injEq, and_true] at hx h0
    rw [hx, h0]
    simp only [Instr.sameNow, if_true, Ty.eqb, Option.some.injEq]
    rw [Bool.eq_iff_iff]; simp [Int.natCast_inj]
   ·obtain ⟨hx, _⟩ := hx
    obtain ⟨h0, _⟩ := h0
    simp only [List.cons.injEq, and_true] at hx h0
    rw [hx, h0]
    simp only [Instr.sameNow, if_true, Ty.eqb, Option.some.injEq]
    rw [Bool.eq_iff_iff]; simp
   ·obtain ⟨s, hx, e1, _⟩ := hx
    obtain ⟨u, h0, e2, _⟩ := h0
    simp only [List.cons.injEq, and_true] at hx h0
    rw [hx, h0]
    have : (s == u) = decide (aS s = aS u) := by
     rw [Bool.eq_iff_iff, Go.MapKept.bytes_beq, decide_eq_true_eq]
     exact ⟨fun h => by rw [h], aOG⟩
    simp only [Instr.sameNow, this, Ty.eqb, e1, e2]
  simp only [Instr.findNow, hsame, aEW]
  cases hq : c.eqb x k <;> simp [rec_]
theorem aJ5 (hT : lD P T) {t : TypeId} {c : Ty} (ht : T t = some c) (hc : c.keyB = true) {β : Type} {w : World} {S : Nat → Prop} {x : c.den} {v : Value} (hx : dF w S c x v) (w' : World) (m : List (c.den × β)) (es : List MapEntry) (hl : es.length = m.length)
  (hr : ∀ j (h : j < m.length) (h' : j < es.length), dF w S c m[j].1 es[j].key) : (Instr.findKey t v es).run P w' = .ok (aEW c x m es 0) w' := by
 obtain ⟨d, hd, hb⟩ := (hT _ _ ht).desc
 simp only [Instr.findKey, Sem.run_bind, bD hd, Result.andThen_ok]
 by_cases h1 : c.key1 = true
 ·rw [aMR (hT _ _ ht) h1 hd hx m es 0 hl hr]; rfl
 ·have hn : Instr.findNow d v es 0 = none ∨ Instr.findNow d v es 0 = some (aEW c x m es 0) := by
   cases es with
   | nil =>
    cases m with
    | nil => right; rfl
    | cons _ _ => simp at hl
   | cons e es =>
    left
    cases c <;> first | (simp_all [Ty.keyB, Ty.key1]; done) | skip
    cases d <;> simp [iR] at hb
    simp [Instr.findNow, Instr.sameNow]
  rcases hn with h | h
  ·rw [h]; exact aHm hT ht hc hx w' m es 0 hl hr
  ·rw [h]; rfl
theorem aQ5 {c : Ty} {x : c.den} {v : Value} {w : World} {S : Nat → Prop} (hc : c.key1 = true) (hx : bE w S c x [v]) (n : Nat) : Instr.sameBits n v v = true := by
 cases c <;> first | (simp [Ty.key1] at hc; done) | skip
 ·simp only [bE, List.cons.injEq, and_true] at hx; subst hx; simp [Instr.sameBits]
 ·obtain ⟨hx, _⟩ := hx; simp only [List.cons.injEq, and_true] at hx; subst hx; simp [Instr.sameBits]
 ·obtain ⟨hx, _⟩ := hx; simp only [List.cons.injEq, and_true] at hx; subst hx; simp [Instr.sameBits]
 ·obtain ⟨s, hx, _⟩ := hx; simp only [List.cons.injEq, and_true] at hx; subst hx
  simp only [Instr.sameBits]
  exact (Go.MapKept.bytes_beq _ _).2 rfl
theorem aVy {c : Ty} {x : c.den} {v : Value} {w : World} {S : Nat → Prop} (hc : c.keyB = true) (hx : dF w S c x v) (w' : World) : (Instr.keyThatStays v v).run P w' = .ok v w' := by
 have hs : Instr.sameBits 10000 v v = true := by
  unfold dF at hx
  cases c <;> first | (simp [Ty.keyB, Ty.key1] at hc; done) | skip
  case arr n t =>
   simp only [Ty.isAgg, if_true] at hx
   obtain ⟨⟨cs⟩, rfl, hx⟩ := hx
   obtain ⟨h1, css, h2, h3, h4⟩ := hx
   simp only at h2
   subst h2
   simp only [Instr.sameBits, beq_self_eq_true, Bool.true_and, List.all_eq_true]
   have hall : ∀ v ∈ css.flatten, Instr.sameBits 9999 v v = true := fun v hv => by
    obtain ⟨l, hl, hv⟩ := List.mem_flatten.1 hv
    obtain ⟨i, hi, rfl⟩ := List.mem_iff_getElem.1 hl
    have := h4 i (by omega) hi
    obtain ⟨u, hu⟩ := aOQ (aJ4 (c := t) hc).2.2.2 this
    rw [hu] at hv this
    simp at hv
    subst hv
    exact aQ5 (c := t) hc this 9999
   intro p hp
   have : p.1 = p.2 ∧ p.1 ∈ css.flatten := by
    obtain ⟨i, hi, rfl⟩ := List.mem_iff_getElem.1 hp
    simp
   obtain ⟨a, b⟩ := p
   obtain ⟨e, hm⟩ := this
   simp only at e hm ⊢
   subst e
   exact hall a hm
  all_goals (simp only [Ty.isAgg, Bool.false_eq_true, if_false] at hx; exact aQ5 (by simpa [Ty.keyB] using hc) hx 10000)
 simp [Instr.keyThatStays, hs]
end
end Go.Vc
namespace Go.Vc
open Go.RowKit
def aWv (h : List Obj) : AV → Option Nat
 | .ptr i [] => match h[i]? with
  | some (.box _ _) => some i
  | _ => none
 | _ => none
def allTags (h : List Obj) : List AV → Option (List Nat)
 | [] => some []
 | v :: r => match aWv h v, allTags h r with
  | some i, some l => some (i :: l)
  | _, _ => none
def evA (G : Nat → AV) (env : List (Nat × AV)) : Operand → AV
 | .tmp t => look env t
 | .const v => aJV v
 | .global g => G g
 | .func f => .fn f [] []
def nY : Operand → Bool
 | .const (.func _ _ _) => false
 | .const v => aTE v
 | _ => true
theorem aC7 {c : Ctx} {w : World} {G : Nat → AV} {env : List (Nat × AV)} {a : Act} (he : aGT c w env a.tmps) (hG : qM G c.S w) {x : Operand} (hx : nY x = true) : aX c w (evA G env x) (a.eval x) := by
 cases x with
 | tmp t => exact he t
 | const v =>
  refine aWd ?_ ?_
  ·cases v <;> first | exact hx | (simp [nY] at hx)
  ·intro f p q e; subst e; simp [nY] at hx
 | global g =>
  exact (hG g).keep (c := ⟨c.S, fun _ => Go.undef, 0, fun _ _ => False⟩) (c' := c) ⟨fun _ h => h, Nat.zero_le _, fun i hi => absurd hi (Nat.not_lt_zero i)⟩ (.refl _ _)
 | func f => exact ⟨⟨(fun i hi => by cases hi), (fun i hi => by cases hi), rfl⟩, (fun h => by cases h), (fun _ cs => by simp [Act.eval])⟩
def aLB (i : Nat) : AV → Prop × AV
 | .tup vs => (i < vs.length, vs.getD i .junk)
 | _ => (False, .junk)
def aJh : AV → Prop × AV
 | .ptr i p => (True, .ptr i p)
 | .roa t x => (True, .roa t x)
 | .fn f l1 l2 => (True, .fn f l1 l2)
 | _ => (False, .junk)
def aJi : List AV → Option ((t : Ty) × t.den)
 | [] => some ⟨.unit, ()⟩
 | .roa t x :: r => match aJi r with
  | some ⟨u, y⟩ => some ⟨.pair (.rp t) u, (x, y)⟩
  | none => none
 | _ => none
def aJj (h : List Obj) (f : FuncId) (first caps : List AV) : Prop × AV :=
 match allTags h first, allTags h caps with
 | some l1, some l2 => (True, .fn f l1 l2)
 | some l1, none => match aJi caps with
  | some ⟨t, y⟩ => (l1 = [], .val (.clo f t) y)
  | none => (False, .junk)
 | _, _ => (False, .junk)
def aEt (h : List Obj) (l : List Nat) : Bool := l.all fun i => match h[i]? with
 | some (.box _ _) => true
 | _ => false
def tF : Ty → Bool
 | .unit => true
 | .pair (.rp _) r => tF r
 | _ => false
def aJ6 (E : Env) (h : List Obj) (callee : Callee) (args : List AV) (argTypes : List TypeId) (ρ : Operand → AV) : Prop × AV :=
 match callee with
 | .builtin .len => match args, argTypes with
  | [x], [t] => aHg E.T h t x
  | _, _ => (False, .junk)
 | .builtin .min => aWg false args
 | .builtin .max => aWg true args
 | .value x => match ρ x with
  | .fn f [] l2 => if aEt h l2 = true then aFz E.Γ h f (args ++ l2.map fun i => .ptr i []) else (False, .junk)
  | .val (.clo g t) y => if tF t = true then aFz E.Γ h g (args ++ zO t y) else (False, .junk)
  | _ => (False, .junk)
 | _ => (False, .junk)
def aWw (E : Env) (t : TypeId) (kc vc : Ty) : Prop := match E.mp t with
 | some (k, e) => E.T k = some kc ∧ E.T e = some vc
 | none => False
def aHn (E : Env) (h : List Obj) (t : TypeId) (m k : AV) (ok : Bool) : Prop × AV :=
 match m with
 | .mp i => match h[i]? with
  | some (.map kc vc l) => match AV.as (h.map gB) kc k with
   | some x => (kc.keyB = true ∧ vc.okB = true ∧ aWw E t kc vc, if ok then .tup [.val vc ((aBA kc l x).getD vc.zero), .val .bool (aBA kc l x).isSome] else .val vc ((aBA kc l x).getD vc.zero))
   | none => (False, .junk)
  | _ => (False, .junk)
 | _ => (False, .junk)
def Ty.isNil : Ty → Bool
 | .nili => true
 | _ => false
def aSE (E : Env) (h : List Obj) (t : TypeId) (x : AV) : Prop × AV :=
 match E.T t with
 | some c => match AV.as (h.map gB) c x with
  | some d => (c.isNil = false, .val (.ifc t c) d)
  | none => (False, .junk)
 | none => (False, .junk)
def aHo (E : Env) (x : AV) (t : TypeId) (ok : Bool) : Prop × AV :=
 match E.T t with
 | some c => match x with
  | .val (.ifc k c') d => if k = t then (c.isNil = false, if ok then .tup [.val c' d, .val .bool true] else .val c' d) else (ok = true ∧ c.okB = true, .tup [.val c c.zero, .val .bool false])
  | .val .nili _ => (ok = true ∧ c.okB = true, .tup [.val c c.zero, .val .bool false])
  | _ => (False, .junk)
 | none => (False, .junk)
def aSF (T : Tab) (op : BinOp) (t : TypeId) (x : AV) : Prop × AV :=
 match x with
 | .val .nili _ => match op with
  | .eql => (T t = some .nili, .val .bool true)
  | .neq => (T t = some .nili, .val .bool false)
  | _ => (False, .junk)
 | _ => (False, .junk)
noncomputable def pv (E : Env) (h : List Obj) (ρ : Operand → AV) (o : Oper) : Prop × AV :=
 match o.op with
 | .move x => (True, aSw E.T o.type (ρ x))
 | .assign x => (True, aSw E.T o.type (ρ x))
 | .load t a => aHf E.T h t (ρ a)
 | .binOp op t x y _ => match y with
  | .const .nilIface => aSF E.T op t (ρ x)
  | y => aBx E.T op t (ρ x) (ρ y)
 | .unOp op _ x => aTG op (ρ x)
 | .convert s d x => aWs E.T h s d (ρ x)
 | .fieldAddr s x k => xS E.T s (ρ x) k
 | .field s x k => aIi E.T s (ρ x) k
 | .indexAddr t x i => aJY E.T h t (ρ x) (ρ i)
 | .index t x i => aJZ E.T t (ρ x) (ρ i)
 | .slice t x lo hi mx => aJ0 E.T h t (ρ x) (lo.map ρ) (hi.map ρ) (mx.map ρ)
 | .extract x i => aLB i (ρ x)
 | .build t ps => bif E.dz t then aLv E.T t (ps.toList.map fun p => (p.1, ρ p.2)) else aIk E.T t (ps.toList.map fun p => (p.1, ρ p.2))
 | .buildSlice t n ps => zN E.T t n (ps.toList.map fun p => (p.1, ρ p.2))
 | .makeFunc (.func f) first caps => aJj h f (first.toList.map ρ) (caps.toList.map ρ)
 | .nilCheck x => aJh (ρ x)
 | .lookup t m k ok => aHn E h t (ρ m) (ρ k) ok
 | .makeInterface t x => aSE E h t (ρ x)
 | .typeAssert x _ t ok => aHo E (ρ x) t ok
 | .call c => aJ6 E h c.callee (c.args.toList.map ρ) c.argTypes.toList ρ
 | .alloc t => match E.T t with
  | some ct => (ct.okB = true, .junk)
  | none => (False, .junk)
 | _ => (False, .junk)
section
variable {P : Program} {M : Perm} {w0 : World} {c : Ctx} {h : List Obj} {w : World}
theorem dF.shape {w : World} {S : Nat → Prop} {t : Ty} {x : t.den} {v : Value} (h : dF w S t x v) (hn : t ≠ .nili) : v ≠ .nilIface ∧ (t.isAgg = false → ∀ cs, v ≠ .agg cs) := by
 unfold dF at h
 split at h
 ·rename_i ha
  obtain ⟨cs, rfl, _⟩ := h
  exact ⟨by simp, fun h => by rw [ha] at h; cases h⟩
 ·rename_i ha
  cases t <;> first | (simp [Ty.isAgg] at ha; done) | skip
  case bool => simp only [bE] at h; simp at h; subst h; simp
  case u => simp only [bE] at h; simp at h; rw [h.1]; simp
  case i => simp only [bE] at h; simp at h; rw [h.1]; simp
  case str => obtain ⟨s, e, _⟩ := h; simp at e; subst e; simp
  case sl => obtain ⟨a, l, q, e, _⟩ := h; simp at e; subst e; simp
  case rp => obtain ⟨b, off, ds, e, _⟩ := h; simp at e; subst e; simp
  case clo => obtain ⟨vs, e, _⟩ := h; simp at e; subst e; simp
  case ifc => obtain ⟨u, ds, e, _⟩ := h; simp at e; subst e; simp
  case nili => exact absurd rfl hn
  case nilp => simp only [bE] at h; simp at h; subst h; simp
  case nilf => simp only [bE] at h; simp at h; subst h; simp
theorem aSG {op : BinOp} {t : TypeId} {v u : Value} {ox oy : Operand} (h1 : v ≠ .nilIface) (h2 : ∀ cs, v ≠ .agg cs) : (eqGuard op t ox oy v u).run P w = .ok () w := by
 cases op <;> first | rfl | skip
 all_goals (cases v <;> first | exact absurd rfl h1 | exact absurd rfl (h2 _) | rfl)
theorem aQ6 {T : Tab} {op : BinOp} {t : TypeId} {ct : Ty} (hTy : aCq P T t ct) (hag : ct.isAgg = true) {xs : Array Value} {u : Value} {ox oy : Operand} : (eqGuard op t ox oy (.agg xs) u).run P w = .ok () w := by
 have hgd := hTy.guard hag
 cases u with
 | agg ys => exact run_eqGuard_agg w op t ox oy xs ys hgd
 | _ => cases op <;> rfl
theorem aWx {T : Tab} (hT : lD P T) {op : BinOp} {t : TypeId} {x y : AV} {v u : Value} {ox oy : Operand} (hv : aX c w x v) (hc : (aBx T op t x y).1) : (eqGuard op t ox oy v u).run P w = .ok () w := by
 cases x with
 | val tx a =>
  have hsh := fun hn => (aX.toV hv).shape hn
  cases tx with
  | pair p q =>
   obtain ⟨xs, rfl⟩ := hv.2.1 rfl
   cases y with
   | val t2 b =>
    simp only [aBx] at hc
    by_cases e : t2 = .pair p q
    ·subst e
     simp only [dite_true] at hc
     cases op <;> simp only at hc <;> first | exact hc.elim | exact aQ6 (hT _ _ hc.1) rfl
    ·simp only [e, dite_false] at hc
   | _ => exact hc.elim
  | arr n q =>
   obtain ⟨xs, rfl⟩ := hv.2.1 rfl
   cases y with
   | val t2 b =>
    simp only [aBx] at hc
    by_cases e : t2 = .arr n q
    ·subst e
     simp only [dite_true] at hc
     cases op <;> simp only at hc <;> first | exact hc.elim | exact aQ6 (hT _ _ hc.1) rfl
    ·simp only [e, dite_false] at hc
   | _ => exact hc.elim
  | unit => exact hc.elim
  | expr => exact hc.elim
  | nili => exact hc.elim
  | ifc _ _ => exact hc.elim
  | _ => exact aSG (hsh (by simp)).1 ((hsh (by simp)).2 rfl)
 | _ => exact hc.elim
theorem aJ7 {ρ : Operand → AV} {a : Act} : ∀ {l : List (Nat × Operand)}, (∀ p ∈ l, aX c w (ρ p.2) (a.eval p.2)) → aBW c w (l.map fun p => (p.1, ρ p.2)) (l.map fun p => (p.1, a.eval p.2))
 | [], _ => .nil
 | p :: r, h => .cons (h p (by simp)) (aJ7 fun q hq => h q (by simp [hq]))
theorem aOR {ρ : Operand → AV} {a : Act} {o : Option Operand} (h : ∀ x, o = some x → aX c w (ρ x) (a.eval x)) : aQo c w (o.map ρ) (o.map a.eval) := by
 cases o with
 | none => exact .none
 | some x => exact .some (h x rfl)
theorem aJ8 (hg : Good M w0 c h w) : ∀ {l : List AV} {vs : List Value} {is : List Nat}, allTags h l = some is → l.length = vs.length → (∀ i (h1 : i < l.length) (h2 : i < vs.length), aX c w l[i] vs[i]) → (∀ i ∈ is, i < c.n) ∧ vs = is.map c.hd
 | [], vs, is, ha, hl, _ => by
  simp [allTags] at ha; subst ha
  cases vs <;> simp at hl ⊢
 | v :: r, [], is, ha, hl, _ => by simp at hl
 | v :: r, u :: us, is, ha, hl, hv => by
  simp only [allTags] at ha
  split at ha
  ·rename_i i l h1 h2
   cases ha
   obtain ⟨q1, q3⟩ := aJ8 hg h2 (by simpa using hl) (fun i hi hi' => by have := hv (i + 1) (by simpa using hi) (by simpa using hi'); simpa using this)
   have h0 := hv 0 (by simp) (by simp)
   simp only [List.getElem_cons_zero] at h0
   unfold aWv at h1
   split at h1
   ·rename_i j
    split at h1
    ·rename_i bv ho
     cases h1
     obtain ⟨hj, b, hb, rfl⟩ := aFB h0
     obtain ⟨b', cells, e, hhd, _⟩ := hg.objs _ _ ho
     rw [hhd] at hb
     simp [aW] at hb
     subst hb
     refine ⟨fun k hk => ?_, ?_⟩
     ·rcases List.mem_cons.1 hk with rfl | hk
      ·exact hj
      ·exact q1 k hk
     ·rw [List.map_cons, ← q3, hhd]; rfl
    ·cases h1
   ·cases h1
  ·cases ha
theorem aZn {f : FuncId} {l1 l2 : List Nat} (h1 : ∀ i ∈ l1, i < c.n) (h2 : ∀ i ∈ l2, i < c.n) : aX c w (.fn f l1 l2) (.func (.func f) (l1.map c.hd).toArray (l2.map c.hd).toArray) :=
 ⟨⟨h1, h2, rfl⟩, (fun h => by cases h), (fun _ cs => by simp)⟩
theorem aX5 {vs : List AV} {v : Value} (hv : aX c w (.tup vs) v) {i : Nat} (hi : i < vs.length) : ∃ u, (Instr.extract v i).run P w = .ok u w ∧ aX c w (vs.getD i .junk) u := by
 obtain ⟨xs, rfl, hl, hx⟩ := hv
 have hi' : i < xs.length := by omega
 refine ⟨xs[i], by simp [Instr.extract, hi'], ?_⟩
 rw [List.getD_eq_getElem?_getD, List.getElem?_eq_getElem hi]
 have := hx i hi hi'
 simp only [Option.getD_some]
 have hne : ∀ us, vs[i] ≠ .tup us := fun us e => by rw [e] at this; exact this.1.elim
 revert this hne
 generalize vs[i] = a
 generalize xs[i] = x
 intro this hne
 cases a <;> first | exact absurd rfl (hne _) | trivial | exact this | skip
 obtain ⟨h1, _, h3⟩ := this
 have h3 := h3 rfl
 simp only [aN] at h1
 cases x <;> simp [Value.cells] at h1 h3 <;> first | exact h1 | skip
end
end Go.Vc
