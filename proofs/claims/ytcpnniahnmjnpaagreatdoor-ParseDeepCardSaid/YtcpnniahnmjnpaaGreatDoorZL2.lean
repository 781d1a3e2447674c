import Derived.Test.YtcpnniahnmjnpaaGreatDoorZL1
import Derived.Laws.IdiomStrings
import Derived.Laws.BytesArg
import Derived.MapKept
set_option linter.unusedVariables false
set_option linter.unusedSimpArgs false
namespace Go.Vc
open Go.RowKit
section
variable {P : Program} {T : Tab} {M : Perm} {w0 : World} {c : Ctx} {h : List Obj} {w : World}
theorem yW {ix : AV} {v : Value} {i : Int} (hv : aX c w ix v) (hi : aBa ix = some i) : ∃ k, v = .int k i := by
 cases ix with
 | val t x =>
  cases t with
  | i k => simp only [aBa] at hi; cases hi; exact ⟨k, (aGH hv).1⟩
  | u k => simp only [aBa] at hi; cases hi; exact ⟨k, (aH7 hv).1⟩
  | _ => simp [aBa] at hi
 | _ => simp [aBa] at hi
theorem aCH {t : Ty} {xs : List t.den} {v : Value} (hv : dB w c.S (.sl t) xs v) : ∃ a len cap, v = .slice a len cap ∧ SlR w c.S (bC w c.S t) t.cells xs a len cap := by
 simp only [dB, Ty.isAgg, Bool.false_eq_true, if_false] at hv
 obtain ⟨a, len, cap, e, h⟩ := hv
 simp at e
 exact ⟨a, len, cap, e, h⟩
theorem aAS {i : Nat} {v : Value} (hv : aX c w (.own i) v) : i < c.n ∧ v = c.hd i := by
 obtain ⟨h1, _, h3⟩ := hv
 simp only [aM] at h1
 have h3 := h3 rfl
 refine ⟨h1.1, ?_⟩
 have := h1.2.1
 cases v <;> simp [Value.cells] at this h3 <;> first | exact this | skip
theorem aRG {t : Ty} {xs : List t.den} {v : Value} (hv : aX c w (.full t xs) v) : ∃ a n, v = .slice a n n ∧ SlR w c.S (bC w c.S t) t.cells xs a n n := by
 obtain ⟨h1, _, h3⟩ := hv
 simp only [aM] at h1
 obtain ⟨a, n, e, h⟩ := h1
 have h3 := h3 rfl
 refine ⟨a, n, ?_, h⟩
 cases v <;> simp [Value.cells] at e h3 <;> first | (simp [e]; done) | skip
theorem fS {t : TypeId} {ct : Ty} (hTy : aB4 P T t (.sl ct)) : ∃ e, P.underlying t = some (.slice e) ∧ T e = some ct ∧ 0 < ct.cells := by
 obtain ⟨d, hd, hb⟩ := hTy.desc
 cases d <;> simp [iB] at hb
 exact ⟨_, hd, hb⟩
theorem aCI {t : TypeId} {n : Nat} {ct : Ty} (hTy : aB4 P T t (.arr n ct)) : ∃ e, P.underlying t = some (.array n e) ∧ T e = some ct ∧ 0 < ct.cells ∧ 1 < n ∧ n ≤ 1048576 := by
 obtain ⟨d, hd, hb⟩ := hTy.desc
 cases d <;> simp [iB] at hb
 obtain ⟨⟨⟨rfl, h1⟩, h2⟩, h3, h4⟩ := hb
 exact ⟨_, hd, h1, h2, h3, h4⟩
theorem xW {t : TypeId} (hTy : aB4 P T t .str) : P.underlying t = some .string := by
 obtain ⟨d, hd, hb⟩ := hTy.desc
 cases d <;> simp [iB] at hb
 exact hd
theorem aNW {t : TypeId} {ct : Ty} (hT : kG P T) (ht : T t = some (.sl ct)) {xs : List ct.den} {a : Option Addr} {len cap : Nat} (hs : SlR w c.S (bC w c.S ct) ct.cells xs a len cap) {i : Int} {k : IntKind} (h0 : 0 ≤ i) (h1 : i < (xs.length : Int)) :
  ∃ u, (Instr.indexAt t (.slice a len cap) (.int k i)).run P w = .ok u w ∧ aX c w (.roa ct (xs.getD i.toNat ct.zero)) u := by
 obtain ⟨e, hd, he, hpos⟩ := fS (hT _ _ ht)
 obtain ⟨hl, hle, hcap, hx⟩ := hs
 rcases hx with hx | ⟨b, off, rfl, hb, hcell⟩
 ·subst hx; simp at h1; omega
 ·obtain ⟨ds, hds, hc⟩ := hcell i.toNat (by omega)
  refine ⟨.pointer (some ⟨b, off + i.toNat * ct.cells, none⟩), ?_, aDx hb ?_ hc⟩
  ·have hlt : i < (len : Int) := by omega
   simp [Instr.indexAt, asIntOf, bA hd, h0, hlt, fH (hT _ _ he), Result.andThen, sE]
  ·rw [List.getD_eq_getElem?_getD, List.getElem?_eq_getElem (by omega)]; exact hds
theorem aQJ {i s off n : Nat} {v : Value} (hv : aX c w (.sub i s off n) v) : i < c.n ∧ n ≤ maxLen ∧ ∃ b cap, aW (c.hd i) = some b ∧ v = .slice (some ⟨b, off * s, none⟩) n cap := by
 obtain ⟨h1, _, h3⟩ := hv
 simp only [aM] at h1
 obtain ⟨hi, hn, b, cap, hb, e⟩ := h1
 have h3 := h3 rfl
 refine ⟨hi, hn, b, cap, hb, ?_⟩
 cases v <;> simp [Value.cells] at e h3 <;> simp [e]
theorem aU4 (hT : kG P T) (hg : Good M w0 c h w) {t : TypeId} {x ix : AV} {v iv : Value} (hv : aX c w x v) (hi : aX c w ix iv) (hc : (aJl T h t x ix).1) :
  ∃ u, (Instr.indexAt t v iv).run P w = .ok u w ∧ aX c w (aJl T h t x ix).2 u := by
 unfold aJl at hc ⊢
 cases hix : aBa ix with
 | none => simp [hix] at hc
 | some i =>
  obtain ⟨k, rfl⟩ := yW hi hix
  simp only [hix] at hc ⊢
  cases x with
  | val tx xs =>
   cases tx with
   | sl ct =>
    simp only at hc ⊢
    obtain ⟨a, len, cap, rfl, hs⟩ := aCH hv.toV
    exact aNW hT hc.1 hs hc.2.1 hc.2.2
   | _ => exact hc.elim
  | full ct xs =>
   simp only at hc ⊢
   obtain ⟨a, n, rfl, hs⟩ := aRG hv
   exact aNW hT hc.1 hs hc.2.1 hc.2.2
  | own j =>
   obtain ⟨hj, rfl⟩ := aAS hv
   simp only at hc ⊢
   cases ho : h[j]? with
   | none => simp [ho] at hc
   | some o =>
    have hob := hg.objs j o ho
    cases o with
    | row e ct xs =>
     simp only [ho] at hc ⊢
     obtain ⟨ht, h0, h1⟩ := hc
     obtain ⟨e', hd, he, hpos⟩ := fS (hT _ _ ht)
     obtain ⟨vals, hown, _⟩ := hob
     obtain ⟨hlen, hvv⟩ := hown
     rcases hvv with ⟨hv0, h00⟩ | ⟨g, cap, cur, hv0, _, hheap, hle, hcap, hsz, htake⟩
     ·omega
     ·have hlt : i < (xs.length : Int) := h1
      refine ⟨.pointer (some ⟨g, mG [.idx ct.cells i.toNat], none⟩), ?_, aHM hj (by rw [hv0]; rfl)⟩
      rw [hv0]
      simp [Instr.indexAt, asIntOf, bA hd, h0, hlt, fH (hT _ _ he), Result.andThen, sE, mG, Step.off]
    | tre e m ct xs =>
     simp only [ho] at hc ⊢
     obtain ⟨ht, h0, h1⟩ := hc
     obtain ⟨e', hd, he, hpos⟩ := fS (hT _ _ ht)
     obtain ⟨B, ⟨vv, css, Bs, hvv0, hown, _⟩, _⟩ := hob
     obtain rfl : c.hd j = vv := (List.cons.inj hvv0).1
     obtain ⟨hlen, hvv⟩ := hown
     rcases hvv with ⟨hv0, h00⟩ | ⟨g, cap, cur, hv0, _, hheap, hle, hcap, hsz, htake⟩
     ·omega
     ·have hlt : i < (xs.length : Int) := h1
      refine ⟨.pointer (some ⟨g, mG [.idx ct.cells i.toNat], none⟩), ?_, aHM hj (by rw [hv0]; rfl)⟩
      rw [hv0]
      simp [Instr.indexAt, asIntOf, bA hd, h0, hlt, fH (hT _ _ he), Result.andThen, sE, mG, Step.off]
    | trh e m ct xs kk vk =>
     simp only [ho] at hc ⊢
     obtain ⟨ht, h0, h1⟩ := hc
     obtain ⟨e', hd, he, hpos⟩ := fS (hT _ _ ht)
     obtain ⟨css, Bs, hq⟩ := hob
     have hown := hq.row
     obtain ⟨hlen, hvv⟩ := hown
     rcases hvv with ⟨hv0, h00⟩ | ⟨g, cap, cur, hv0, _, hheap, hle, hcap, hsz, htake⟩
     ·omega
     ·have hlt : i < (xs.length : Int) := h1
      refine ⟨.pointer (some ⟨g, mG [.idx ct.cells i.toNat], none⟩), ?_, aHM hj (by rw [hv0]; rfl)⟩
      rw [hv0]
      simp [Instr.indexAt, asIntOf, bA hd, h0, hlt, fH (hT _ _ he), Result.andThen, sE, mG, Step.off]
    | frz ct xs =>
     simp only [ho] at hc ⊢
     obtain ⟨a, len, cap, e, hs⟩ := hob
     simp at e
     rw [e]
     exact aNW hT hc.1 hs hc.2.1 hc.2.2
    | _ => simp [ho] at hc
  | sub j s off n =>
   obtain ⟨hj, hn, b, cap, hb, rfl⟩ := aQJ hv
   simp only at hc ⊢
   cases ho : h[j]? with
   | none => simp [ho] at hc
   | some o =>
    cases o with
    | row e ct xs =>
     simp only [ho] at hc ⊢
     obtain ⟨ht, rfl, h0, h1⟩ := hc
     obtain ⟨e', hd, he, hpos⟩ := fS (hT _ _ ht)
     refine ⟨.pointer (some ⟨b, mG [.idx ct.cells (off + i.toNat)], none⟩), ?_, aHM hj hb⟩
     have e1 : off * ct.cells + i.toNat * ct.cells = (off + i.toNat) * ct.cells := (Nat.add_mul _ _ _).symm
     simp [Instr.indexAt, asIntOf, bA hd, h0, h1, fH (hT _ _ he), Result.andThen, sE, mG, Step.off, e1]
    | _ => simp [ho] at hc
  | ptr j p =>
   obtain ⟨hj, b, hb, rfl⟩ := aFd hv
   simp only at hc ⊢
   cases ht : T t with
   | none => simp [ht] at hc
   | some ct =>
    cases ct with
    | arr n ct =>
     simp only [ht] at hc ⊢
     obtain ⟨e, hd, he, hpos, hn⟩ := aCI (hT _ _ ht)
     refine ⟨.pointer (some ⟨b, mG (p ++ [.idx ct.cells i.toNat]), none⟩), ?_, aHM hj hb⟩
     simp [Instr.indexAt, asIntOf, bA hd, hc.1, hc.2, fH (hT _ _ he), Result.andThen, sE, aFe, mG, Step.off, Instr.sureAddr]
    | _ => simp [ht] at hc
  | roa tx xs =>
   cases tx with
   | arr n ct =>
    simp only at hc ⊢
    obtain ⟨ht, h0, h1⟩ := hc
    obtain ⟨e, hd, he, hpos, hn⟩ := aCI (hT _ _ ht)
    obtain ⟨b, off, ds, rfl, hb, hrep, hcell⟩ := aND hv
    obtain ⟨pre, ds', post, e1, hp, hd'⟩ := aKN (c := c) (.val (.arr n ct) xs) i.toNat ds hrep (by simp only [elemOf]; omega)
    refine ⟨.pointer (some ⟨b, off + i.toNat * ct.cells, none⟩), ?_, aDx hb hd' ?_⟩
    ·simp [Instr.indexAt, asIntOf, bA hd, h0, h1, fH (hT _ _ he), Result.andThen, sE, Instr.sureAddr]
    ·have := aB6 hcell e1
     rw [hp] at this; exact this
   | _ => exact hc.elim
  | _ => exact hc.elim
theorem pU (s : ByteArray) : (aU s).length = s.size := by
 obtain ⟨⟨l⟩⟩ := s; simp [aU, ByteArray.size]
theorem aU5 (s : ByteArray) {i : Nat} (h : i < s.size) : (aU s).getD i 0 = s[i].toNat := by
 obtain ⟨⟨l⟩⟩ := s
 have h' : i < l.length := h
 simp only [aU, List.getD_eq_getElem?_getD, List.getElem?_map]
 rw [List.getElem?_eq_getElem h']
 rfl
theorem aU6 (hT : kG P T) {t : TypeId} {x ix : AV} {v iv : Value} (hv : aX c w x v) (hi : aX c w ix iv) (hc : (aJm T t x ix).1) :
  ∃ u, (Instr.index t v iv).run P w = .ok u w ∧ aX c w (aJm T t x ix).2 u := by
 unfold aJm at hc ⊢
 cases hix : aBa ix with
 | none => simp [hix] at hc
 | some i =>
  obtain ⟨k, rfl⟩ := yW hi hix
  simp only [hix] at hc ⊢
  cases x with
  | val tx xs =>
   cases tx with
   | arr n ct =>
    simp only at hc ⊢
    obtain ⟨ht, h0, h1⟩ := hc
    obtain ⟨e, hd, he, hpos, hn⟩ := aCI (hT _ _ ht)
    obtain ⟨hr, h2, _⟩ := hv
    obtain ⟨cs, rfl⟩ := h2 rfl
    obtain ⟨pre, ds', post, e1, hp, hd'⟩ := aKN (c := c) (.val (.arr n ct) xs) i.toNat _ hr (by simp only [elemOf]; omega)
    obtain ⟨u, hu, hr'⟩ := aCM (hT _ _ he) e1 hd' w
    rw [hp] at hu
    simp only [aP6, Value.cells] at hu
    refine ⟨u, ?_, aX.ofV hr'⟩
    simp [Instr.index, asIntOf, bA hd, h0, h1, fH (hT _ _ he), Result.andThen, hu]
   | str =>
    simp only at hc ⊢
    obtain ⟨ht, h0, h1⟩ := hc
    have hd := xW (hT _ _ ht)
    obtain ⟨s, rfl, rfl, hs⟩ := aL1 hv
    rw [pU] at h1
    have hlt : i.toNat < s.size := by omega
    refine ⟨.int .u8 (s[i.toNat].toNat : Int), ?_, ?_⟩
    ·simp [Instr.index, asIntOf, bA hd, h0, getElem?_pos, hlt]
    ·rw [aU5 s hlt]; exact aGr rfl (by simp [jU, IntKind.bits]; exact s[i.toNat].toNat_lt)
   | _ => exact hc.elim
  | _ => exact hc.elim
theorem aNX : (maxLen : Int) = IntKind.max .i64 := by simp [maxLen, IntKind.max, IntKind.signed, IntKind.bits]
theorem qU {n : Nat} (h : n ≤ maxLen) : fits .i64 (n : Int) := by
 refine ⟨?_, by rw [← aNX]; omega⟩
 simp [IntKind.min, IntKind.signed, IntKind.bits]
theorem aXv (hT : kG P T) (hg : Good M w0 c h w) {t ty : TypeId} {x : AV} {v : Value} (hv : aX c w x v) (hc : (aGL T h t x).1) :
  ∃ u, (Builtin.len_ #[t] ty #[v]).run P w = .ok u w ∧ aX c w (aGL T h t x).2 u := by
 cases x with
 | val tx xs =>
  cases tx with
  | str =>
   simp only [aGL] at hc ⊢
   obtain ⟨s, rfl, rfl, hs⟩ := aL1 hv
   exact ⟨.int .i64 s.size, by simp [Builtin.len_, bA (xW (hT _ _ hc)), goInt], by rw [pU]; exact xM rfl (qU hs)⟩
  | sl ct =>
   simp only [aGL] at hc ⊢
   obtain ⟨e, hd, _⟩ := fS (hT _ _ hc)
   obtain ⟨a, len, cap, rfl, hl, hle, hcap, _⟩ := aCH hv.toV
   exact ⟨.int .i64 len, by simp [Builtin.len_, bA hd, goInt], by rw [hl]; exact xM rfl (qU (by omega))⟩
  | arr n ct =>
   simp only [aGL] at hc ⊢
   obtain ⟨e, hd, _, _, _, hn⟩ := aCI (hT _ _ hc)
   exact ⟨.int .i64 n, by simp [Builtin.len_, bA hd, goInt], xM rfl (qU (by unfold maxLen; omega))⟩
  | _ => exact hc.elim
 | full ct xs =>
  simp only [aGL] at hc ⊢
  obtain ⟨e, hd, _⟩ := fS (hT _ _ hc)
  obtain ⟨a, n, rfl, hl, hle, hcap, _⟩ := aRG hv
  exact ⟨.int .i64 n, by simp [Builtin.len_, bA hd, goInt], by rw [hl]; exact xM rfl (qU (by omega))⟩
 | nilS =>
  simp only [aGL] at hc ⊢
  obtain ⟨ct, hc⟩ := hc
  obtain ⟨e, hd, _⟩ := fS (hT _ _ hc)
  obtain ⟨h1, _, h3⟩ := hv
  simp only [aM] at h1
  have h3 := h3 rfl
  have : v = .slice none 0 0 := by cases v <;> simp [Value.cells] at h1 h3 <;> simp [h1]
  subst this
  exact ⟨.int .i64 0, by simp [Builtin.len_, bA hd, goInt], xM rfl (qU (Nat.zero_le _))⟩
 | sub j s off n =>
  obtain ⟨hj, hn, b, cap, hb, rfl⟩ := aQJ hv
  simp only [aGL] at hc ⊢
  obtain ⟨ct, hc⟩ := hc
  obtain ⟨e, hd, _⟩ := fS (hT _ _ hc)
  exact ⟨.int .i64 n, by simp [Builtin.len_, bA hd, goInt], xM rfl (qU hn)⟩
 | own j =>
  obtain ⟨hj, rfl⟩ := aAS hv
  simp only [aGL] at hc ⊢
  cases ho : h[j]? with
  | none => simp [ho] at hc
  | some o =>
   have hob := hg.objs j o ho
   cases o with
   | row e ct xs =>
    simp only [ho] at hc ⊢
    obtain ⟨e', hd, he, hpos⟩ := fS (hT _ _ hc)
    obtain ⟨vals, ⟨hlen, hvv⟩, _⟩ := hob
    rcases hvv with ⟨hv0, h00⟩ | ⟨g, cap, cur, hv0, _, hheap, hle, hcap, hsz, htake⟩
    ·rw [hv0, h00]
     exact ⟨.int .i64 0, by simp [Builtin.len_, bA hd, goInt], xM rfl (qU (Nat.zero_le _))⟩
    ·rw [hv0]
     exact ⟨.int .i64 xs.length, by simp [Builtin.len_, bA hd, goInt], xM rfl (qU (by omega))⟩
   | tre e m ct xs =>
    simp only [ho] at hc ⊢
    obtain ⟨e', hd, he, hpos⟩ := fS (hT _ _ hc)
    obtain ⟨B, ⟨vv, css, Bs, hvv0, ⟨hlen, hvv⟩, _⟩, _⟩ := hob
    obtain rfl : c.hd j = vv := (List.cons.inj hvv0).1
    rcases hvv with ⟨hv0, h00⟩ | ⟨g, cap, cur, hv0, _, hheap, hle, hcap, hsz, htake⟩
    ·rw [hv0, h00]
     exact ⟨.int .i64 0, by simp [Builtin.len_, bA hd, goInt], xM rfl (qU (Nat.zero_le _))⟩
    ·rw [hv0]
     exact ⟨.int .i64 xs.length, by simp [Builtin.len_, bA hd, goInt], xM rfl (qU (by omega))⟩
   | trh e m ct xs kk vk =>
    simp only [ho] at hc ⊢
    obtain ⟨e', hd, he, hpos⟩ := fS (hT _ _ hc)
    obtain ⟨css, Bs, hq⟩ := hob
    obtain ⟨hlen, hvv⟩ := hq.row
    rcases hvv with ⟨hv0, h00⟩ | ⟨g, cap, cur, hv0, _, hheap, hle, hcap, hsz, htake⟩
    ·rw [hv0, h00]
     exact ⟨.int .i64 0, by simp [Builtin.len_, bA hd, goInt], xM rfl (qU (Nat.zero_le _))⟩
    ·rw [hv0]
     exact ⟨.int .i64 xs.length, by simp [Builtin.len_, bA hd, goInt], xM rfl (qU (by omega))⟩
   | frz ct xs =>
    simp only [ho] at hc ⊢
    obtain ⟨e', hd, he, hpos⟩ := fS (hT _ _ hc)
    obtain ⟨a, len, cap, e, hl, hle, hcap, _⟩ := hob
    simp at e
    rw [e]
    exact ⟨.int .i64 len, by simp [Builtin.len_, bA hd, goInt], by rw [hl]; exact xM rfl (qU (by omega))⟩
   | _ => simp [ho] at hc
 | _ => exact hc.elim
theorem aXS {op : UnOp} {x : AV} {v : Value} (hv : aX c w x v) (hc : (aSL op x).1) :
  ∃ u, (Op.unary op v).run P w = .ok u w ∧ aX c w (aSL op x).2 u := by
 cases x with
 | val t y =>
  cases t with
  | bool =>
   obtain rfl := aEw hv
   cases op <;> simp only [aSL] at hc ⊢
   exact ⟨_, rfl, yT _⟩
  | i k =>
   obtain ⟨rfl, hk, hf⟩ := aGH hv
   cases op <;> simp only [aSL] at hc ⊢
   exact ⟨_, by simp only [Op.unary, Op.intArith, aGG hk hc]; rfl, xM hk hc⟩
  | u k =>
   obtain ⟨rfl, hk, hf⟩ := aH7 hv
   cases op <;> simp only [aSL] at hc ⊢
   ·have hp := aCL k
    have := aQE (P := P) (w := w) (c := c) .sub 0 (a := 0) (b := y) hk hp hf (by simp [aQD])
    obtain ⟨u, hu, hr⟩ := this
    refine ⟨u, ?_, by simpa [aQD, aQC, aTw] using hr⟩
    simpa [binOp, Op.unary] using hu
   ·have hp := aCL k
    have := aQE (P := P) (w := w) (c := c) .xor 0 (a := jU k - 1) (b := y) hk (by omega) hf (by simp [aQD])
    obtain ⟨u, hu, hr⟩ := this
    refine ⟨u, ?_, by simpa [aQD] using hr⟩
    have e : ((jU k - 1 : Nat) : Int) = k.max := by rw [aTr hk]; omega
    rw [e] at hu
    simpa [binOp, Op.unary, hk] using hu
  | _ => exact hc.elim
 | _ => exact hc.elim
theorem aTE {k k' : IntKind} (h : k.bits ≤ k'.bits) : jU k ≤ jU k' := Nat.pow_le_pow_right (by omega) h
theorem aSN {k k' : IntKind} (hk : k.signed = true) (hk' : k'.signed = true) (h : k.bits ≤ k'.bits) {n : Int} (hf : fits k n) : fits k' n := by
 obtain ⟨h1, h2⟩ := hf
 cases k <;> simp [IntKind.signed] at hk <;> cases k' <;> simp [IntKind.signed] at hk' <;> simp [IntKind.bits] at h <;> simp [fits, IntKind.min, IntKind.max, IntKind.signed, IntKind.bits] at h1 h2 ⊢ <;> omega
theorem aUi {k k' : IntKind} (hk : k.signed = false) (hk' : k'.signed = true) (h : k.bits < k'.bits) {n : Nat} (hf : n < jU k) : fits k' (n : Int) := by
 cases k <;> simp [IntKind.signed] at hk <;> cases k' <;> simp [IntKind.signed] at hk' <;> simp [IntKind.bits] at h <;> simp [fits, IntKind.min, IntKind.max, IntKind.signed, IntKind.bits, jU] at hf ⊢ <;> omega
theorem aTF (hT : kG P T) {src dst : TypeId} {x : AV} {v : Value} (hv : aX c w x v) (hc : (aKO T src dst x).1) :
  ∃ u, (convert src dst v).run P w = .ok u w ∧ aX c w (aKO T src dst x).2 u := by
 have hsrc : (T src).isSome = true → ∃ d, P.underlying src = some d := fun h => by
  obtain ⟨ct, hct⟩ := Option.isSome_iff_exists.1 h
  obtain ⟨d, hd, _⟩ := (hT _ _ hct).desc
  exact ⟨d, hd⟩
 unfold aKO at hc ⊢
 cases hdst : T dst with
 | none => simp [hdst] at hc
 | some cd =>
  obtain ⟨dd, hdd, hdb⟩ := (hT _ _ hdst).desc
  cases x with
  | val t y =>
   cases cd with
   | u k =>
    cases dd <;> simp [iB] at hdb
    obtain ⟨rfl, hks⟩ := hdb
    cases t with
    | u k0 =>
     simp only [hdst] at hc ⊢
     obtain ⟨ds, hds⟩ := hsrc hc
     obtain ⟨rfl, hk0, hy⟩ := aH7 hv
     refine ⟨_, by simp [convert, bA hds, bA hdd, Conv.intToInt]; rfl, ?_⟩
     rw [yS hks]
     split
     ·rename_i hle; rw [Nat.mod_eq_of_lt (Nat.lt_of_lt_of_le hy (aTE hle))]; exact aGr hks (Nat.lt_of_lt_of_le hy (aTE hle))
     ·exact aGr hks (Nat.mod_lt _ (aCL _))
    | i k0 =>
     simp only [hdst] at hc ⊢
     obtain ⟨ds, hds⟩ := hsrc hc
     obtain ⟨rfl, hk0, hy⟩ := aGH hv
     refine ⟨_, by simp [convert, bA hds, bA hdd, Conv.intToInt]; rfl, ?_⟩
     rw [aSG hks]
     have hp := aCL k
     have h1 := Int.emod_nonneg y (show (jU k : Int) ≠ 0 by omega)
     have h2 := Int.emod_lt_of_pos y (show (0 : Int) < jU k by omega)
     have := aGr (c := c) (w := w) (n := (y % (jU k : Int)).toNat) hks (by omega)
     rw [show (((y % (jU k : Int)).toNat : Nat) : Int) = y % (jU k : Int) from Int.toNat_of_nonneg h1] at this
     exact this
    | _ => simp [hdst] at hc
   | i k =>
    cases dd <;> simp [iB] at hdb
    obtain ⟨rfl, hks⟩ := hdb
    cases t with
    | u k0 =>
     simp only [hdst] at hc ⊢
     obtain ⟨ds, hds⟩ := hsrc hc
     obtain ⟨rfl, hk0, hy⟩ := aH7 hv
     refine ⟨_, by simp [convert, bA hds, bA hdd, Conv.intToInt]; rfl, ?_⟩
     split
     ·rename_i hlt; have hf := aUi hk0 hks hlt hy; rw [aGG hks hf]; exact xM hks hf
     ·exact xM hks (aEv hks _)
    | i k0 =>
     simp only [hdst] at hc ⊢
     obtain ⟨ds, hds⟩ := hsrc hc
     obtain ⟨rfl, hk0, hy⟩ := aGH hv
     refine ⟨_, by simp [convert, bA hds, bA hdd, Conv.intToInt]; rfl, ?_⟩
     split
     ·rename_i hlt; have hf := aSN hk0 hks hlt hy; rw [aGG hks hf]; exact xM hks hf
     ·exact xM hks (aEv hks _)
    | _ => simp [hdst] at hc
   | str =>
    cases dd <;> simp [iB] at hdb
    cases t with
    | str =>
     simp only [hdst] at hc ⊢
     obtain ⟨s, rfl, rfl, hs⟩ := aL1 hv
     exact ⟨_, by simp [convert, bA (xW (hT _ _ hc)), bA hdd], aWl hs⟩
    | _ => simp [hdst] at hc
   | _ => cases t <;> simp [hdst] at hc
  | _ => cases cd <;> simp [hdst] at hc
theorem aTG (op : BinOp) (t : TypeId) {k k' : IntKind} {a : Nat} {b : Int} (hk : k.signed = false) (ha : a < jU k) (h0 : 0 ≤ b) (h : (shU op k a b.toNat).1) :
  ∃ v, (binOp op t (.int k a) (.int k' b)).run P w = .ok v w ∧ aX c w (shU op k a b.toNat).2 v := by
 have := aSH (P := P) (w := w) (c := c) op t (k := k) (k' := k') (a := a) (n := b.toNat) hk ha h
 rw [show ((b.toNat : Nat) : Int) = b from by omega] at this
 exact this
theorem aTH (op : BinOp) (t : TypeId) {k k' : IntKind} {a b : Int} (hk : k.signed = true) (ha : fits k a) (h0 : 0 ≤ b) (hn : op = .shl → b ≤ k.bits) (h : (shI op k a b.toNat).1) :
  ∃ v, (binOp op t (.int k a) (.int k' b)).run P w = .ok v w ∧ aX c w (shI op k a b.toNat).2 v := by
 have := aSI (P := P) (w := w) (c := c) op t (k := k) (k' := k') (a := a) (n := b.toNat) hk ha (fun e => by have := hn e; omega) h
 rw [show ((b.toNat : Nat) : Int) = b from by omega] at this
 exact this
theorem aRH (a b : ByteArray) : aU (a ++ b) = aU a ++ aU b := by
 obtain ⟨⟨a⟩⟩ := a
 obtain ⟨⟨b⟩⟩ := b
 show List.map _ ((ByteArray.mk ⟨a⟩ ++ ByteArray.mk ⟨b⟩).data.toList) = _
 rw [ByteArray.data_append]
 simp [aU]
theorem aTI : ∀ (a b : List UInt8), Op.bytesLess a b = aH8 (a.map (·.toNat)) (b.map (·.toNat))
 | a, [] => by cases a <;> simp [Op.bytesLess, aH8]
 | [], b :: r => by simp [Op.bytesLess, aH8]
 | a :: x, b :: y => by
  simp only [Op.bytesLess, List.map_cons, aH8, aTI x y]
  have e1 : decide (a < b) = decide (a.toNat < b.toNat) := by rw [Bool.eq_iff_iff]; simp [UInt8.lt_iff_toNat_lt]
  have e2 : (a == b) = decide (a.toNat = b.toNat) := by rw [Bool.eq_iff_iff]; simp [UInt8.toNat_inj]
  rw [e1, e2]
theorem aL4 (s : ByteArray) : aU s = s.toList.map (·.toNat) := by rw [ByteArray.toList_eq]; rfl
theorem aWu {op : BinOp} (t : TypeId) {s r : ByteArray} (hs : s.size ≤ maxLen) (hr : r.size ≤ maxLen) (hc : (aUT op (aU s) (aU r)).1) :
  ∃ u, (binOp op t (.string s) (.string r)).run P w = .ok u w ∧ aX c w (aUT op (aU s) (aU r)).2 u := by
 have hl : Op.bytesLess s.toList r.toList = aH8 (aU s) (aU r) := by rw [aTI, ← aL4, ← aL4]
 cases op <;> simp only [aUT] at hc ⊢
 case add =>
  rw [pU, pU] at hc
  have hsz : (s ++ r).size = s.size + r.size := by simp
  refine ⟨.string (s ++ r), ?_, by rw [← aRH]; exact aWl (by rw [hsz]; exact hc)⟩
  have : ¬ (((s.size + r.size : Nat) : Int) > IntKind.max .i64) := by rw [← aNX]; omega
  simp only [binOp, Op.stringOp, this, if_false]; rfl
 case eql => exact ⟨_, by simp only [binOp, Op.stringOp, aUc]; rfl, yT _⟩
 case neq => exact ⟨_, by simp only [binOp, Op.stringOp, aUc]; rfl, yT _⟩
 case lss => exact ⟨_, by simp only [binOp, Op.stringOp, hl]; rfl, yT _⟩
 case leq => exact ⟨_, by simp only [binOp, Op.stringOp, hl, aUc]; rfl, yT _⟩
 case gtr => exact ⟨_, by simp only [binOp, Op.stringOp, hl, aUc]; rfl, yT _⟩
 case geq => exact ⟨_, by simp only [binOp, Op.stringOp, hl]; rfl, yT _⟩
theorem aXw (hT : kG P T) {op : BinOp} {t : TypeId} {x y : AV} {v u : Value} (hv : aX c w x v) (hu : aX c w y u) (hc : (aA9 T op t x y).1) :
  ∃ r, (binOp op t v u).run P w = .ok r w ∧ aX c w (aA9 T op t x y).2 r := by
 have hagg : ∀ (ct : Ty) (a b : ct.den) (v u : Value), ct.isAgg = true → aX c w (.val ct a) v → aX c w (.val ct b) u → T t = some ct → ct.cmpB = true → ct.deep ≤ 100 →
   (binOp .eql t v u).run P w = .ok (.bool (ct.eqb a b)) w ∧ (binOp .neq t v u).run P w = .ok (.bool (!ct.eqb a b)) w := by
  intro ct a b v u ha hv hu ht hcm hd
  have heq := aE9 hT w ht hcm hd hv.toV hu.toV
  obtain ⟨cs, rfl⟩ := hv.2.1 ha
  obtain ⟨cs', rfl⟩ := hu.2.1 ha
  constructor
  ·simp [binOp, heq]
  ·simp [binOp, heq]
 cases x with
 | val t1 a =>
  cases t1 with
  | u k =>
   cases y with
   | val t2 b =>
    cases t2 with
    | u k' =>
     obtain ⟨rfl, hk, ha⟩ := aH7 hv
     obtain ⟨rfl, hk', hb⟩ := aH7 hu
     cases op
     case shl => exact aSH (P := P) .shl t hk ha (by simp [shU])
     case shr => exact aSH (P := P) .shr t hk ha (by simp [shU])
     all_goals
      simp only [aA9] at hc ⊢
      split at hc
      ·rename_i e; subst e; simp only [if_true]; exact aQE _ t hk ha hb hc
      ·exact hc.elim
    | i k' =>
     obtain ⟨rfl, hk, ha⟩ := aH7 hv
     obtain ⟨rfl, hk', hb⟩ := aGH hu
     cases op <;> simp only [aA9] at hc ⊢
     case shl => exact aTG (P := P) .shl t hk ha hc (by simp [shU])
     case shr => exact aTG (P := P) .shr t hk ha hc (by simp [shU])
    | _ => exact hc.elim
   | _ => exact hc.elim
  | i k =>
   cases y with
   | val t2 b =>
    cases t2 with
    | i k' =>
     obtain ⟨rfl, hk, ha⟩ := aGH hv
     obtain ⟨rfl, hk', hb⟩ := aGH hu
     cases op
     case shl =>
      simp only [aA9] at hc ⊢
      exact aTH (P := P) .shl t hk ha hc.1 (fun _ => hc.2.1) hc.2.2
     case shr =>
      simp only [aA9] at hc ⊢
      exact aTH (P := P) .shr t hk ha hc (fun h => by cases h) (by simp [shI])
     all_goals
      simp only [aA9] at hc ⊢
      split at hc
      ·rename_i e; subst e; simp only [if_true]; exact aWn _ t hk ha hb hc
      ·exact hc.elim
    | u k' =>
     obtain ⟨rfl, hk, ha⟩ := aGH hv
     obtain ⟨rfl, hk', hb⟩ := aH7 hu
     cases op <;> simp only [aA9] at hc ⊢
     case shl => exact aSI (P := P) .shl t hk ha (fun _ => hc.1) hc.2
     case shr => exact aSI (P := P) .shr t hk ha (fun h => by cases h) (by simp [shI])
    | _ => exact hc.elim
   | _ => exact hc.elim
  | str =>
   cases y with
   | val t2 b =>
    cases t2 with
    | str =>
     simp only [aA9] at hc ⊢
     obtain ⟨s, rfl, rfl, hs⟩ := aL1 hv
     obtain ⟨r, rfl, rfl, hr⟩ := aL1 hu
     exact aWu t hs hr hc
    | _ => exact hc.elim
   | _ => exact hc.elim
  | bool =>
   cases y with
   | val t2 b =>
    cases t2 with
    | bool =>
     simp only [aA9] at hc ⊢
     obtain rfl := aEw hv
     obtain rfl := aEw hu
     have heq := aE9 (P := P) (T := T) hT w (S := c.S) (w := w) (x := a) (y := b) hc.1 rfl (by simp [Ty.deep]) hv.toV hu.toV
     have hc2 := hc.2
     cases op <;> simp only [aWm] at hc2 ⊢
     ·exact ⟨.bool (a == b), by simp only [binOp, Sem.run_bind, heq, Result.andThen_ok]; rfl, yT _⟩
     ·exact ⟨.bool (a != b), by simp only [binOp, Sem.run_bind, heq, Result.andThen_ok]; rfl, yT _⟩
    | _ => exact hc.elim
   | _ => exact hc.elim
  | pair p q =>
   cases y with
   | val t2 b =>
    simp only [aA9] at hc ⊢
    by_cases e : t2 = .pair p q
    ·subst e
     simp only [dite_true] at hc ⊢
     cases op <;> simp only at hc ⊢ <;> (try exact hc.elim)
     ·exact ⟨_, (hagg _ _ _ _ _ rfl hv hu hc.1 hc.2.1 hc.2.2).1, yT _⟩
     ·exact ⟨_, (hagg _ _ _ _ _ rfl hv hu hc.1 hc.2.1 hc.2.2).2, yT _⟩
    ·simp only [e, dite_false] at hc
   | _ => exact hc.elim
  | arr n q =>
   cases y with
   | val t2 b =>
    simp only [aA9] at hc ⊢
    by_cases e : t2 = .arr n q
    ·subst e
     simp only [dite_true] at hc ⊢
     cases op <;> simp only at hc ⊢ <;> (try exact hc.elim)
     ·exact ⟨_, (hagg _ _ _ _ _ rfl hv hu hc.1 hc.2.1 hc.2.2).1, yT _⟩
     ·exact ⟨_, (hagg _ _ _ _ _ rfl hv hu hc.1 hc.2.1 hc.2.2).2, yT _⟩
    ·simp only [e, dite_false] at hc
   | _ => exact hc.elim
  | _ => exact hc.elim
 | _ => exact hc.elim
end
end Go.Vc
namespace Go.Vc
open Go.RowKit
section
variable {P : Program} {T : Tab} {M : Perm} {w0 : World} {c : Ctx} {h : List Obj} {w : World}
theorem gK {i : Int} {k : IntKind} {y : Nat} {code : BoundsCode} (h0 : 0 ≤ i) (h1 : i ≤ (y : Int)) : (Instr.sliceBound (.int k i) y code).run P w = .ok i.toNat w := by
 simp [Instr.sliceBound, asIntOf, h0, h1]
inductive aPv (c : Ctx) (w : World) : Option AV → Option Value → Prop where
 | none : aPv c w none none
 | some {a : AV} {v : Value} (h : aX c w a v) : aPv c w (some a) (some v)
theorem aAI {o : Option AV} {v : Option Value} (hv : aPv c w o v) {i : Int} (hi : o.map aBa = some (some i)) : ∃ k, v = some (.int k i) := by
 cases hv with
 | none => cases hi
 | some hv =>
  simp at hi
  obtain ⟨k, rfl⟩ := yW hv hi
  exact ⟨k, rfl⟩
theorem qV {o : Option AV} {v : Option Value} (hv : aPv c w o v) (hi : o.map aBa = none) : v = none := by
 cases hv with
 | none => rfl
 | some hv => simp at hi
theorem aQK (s : ByteArray) (l n : Nat) : aU (s.extract l n) = ((aU s).take n).drop l := by
 obtain ⟨⟨x⟩⟩ := s
 simp only [aU, ByteArray.data_extract, List.extract_toArray, List.extract_eq_take_drop]
 simp [List.map_take, List.map_drop, List.drop_take]
theorem aHO {t : TypeId} (hd : P.underlying t = some .string) {s : ByteArray} (hs : s.size ≤ maxLen) {lo hi : Option Value} {l u : Nat}
  (hb : (Instr.sliceBounds false s.size s.size lo hi none).run P w = .ok (l, u, s.size) w) :
  (Instr.sliceAt t (.string s) lo hi none).run P w = .ok (.string (s.extract l u)) w ∧ aX c w (.val .str (((aU s).take u).drop l)) (.string (s.extract l u)) := by
 refine ⟨by simp [Instr.sliceAt, Instr.slice, bA hd, hb], ?_⟩
 rw [← aQK]
 refine aWl ?_
 have : (s.extract l u).size ≤ s.size := by simp; omega
 omega
theorem aEy {t e : TypeId} {ct : Ty} (hd : P.underlying t = some (.slice e)) (he : aB4 P T e ct) {xs : List ct.den} {a : Option Addr} {len cap : Nat} (hs : SlR w c.S (bC w c.S ct) ct.cells xs a len cap) {lo hi mx : Option Value} {l u m : Nat}
  (hb : (Instr.sliceBounds true len cap lo hi mx).run P w = .ok (l, u, m) w) (h1 : l ≤ u) (h2 : u ≤ len) (h3 : u ≤ m) (h4 : m ≤ cap) :
  ∃ a' , (Instr.sliceAt t (.slice a len cap) lo hi mx).run P w = .ok (.slice a' (u - l) (m - l)) w ∧ SlR w c.S (bC w c.S ct) ct.cells ((xs.take u).drop l) a' (u - l) (m - l) := by
 refine ⟨if m = l then a else a.map (·.add (l * ct.cells)), by simp [Instr.sliceAt, Instr.slice, bA hd, hb, fH he], ?_⟩
 obtain ⟨hl, hle, hcap, hx⟩ := hs
 refine ⟨by simp; omega, by omega, by omega, ?_⟩
 rcases hx with hx | ⟨b, off, rfl, hb', hcell⟩
 ·subst hx; left; simp
 ·by_cases hml : m = l
  ·left
   have : u = l := by omega
   rw [this]; simp
  ·right
   refine ⟨b, off + l * ct.cells, by simp [hml, sE], hb', fun i hi => ?_⟩
   have hi' : l + i < xs.length := by simp at hi; omega
   obtain ⟨ds, hds, hc⟩ := hcell (l + i) hi'
   refine ⟨ds, ?_, ?_⟩
   ·have : ((xs.take u).drop l)[i] = xs[l + i] := by simp
    rw [this]; exact hds
   ·rw [show off + l * ct.cells + i * ct.cells = off + (l + i) * ct.cells from by rw [Nat.add_mul]; omega]; exact hc
theorem Good.frz (hg : Good M w0 c h w) : Good M w0 c (h.map fR) w := by
 have hget : ∀ i : Nat, (h.map fR)[i]? = (h[i]?).map fR := fun i => by simp
 have hob : ∀ (i : Nat) (o : Obj), (h.map fR)[i]? = some o → o = .dead ∨ h[i]? = some o := fun i o ho => by
  rw [hget] at ho
  cases hi : h[i]? with
  | none => simp [hi] at ho
  | some o' =>
   rw [hi] at ho
   simp only [Option.map_some, Option.some.injEq] at ho
   cases o' <;> simp only [fR] at ho <;> subst ho <;> first | exact .inl rfl | exact .inr rfl
 refine ⟨by rw [hg.n]; simp, hg.keeps, hg.sfin, hg.src, fun i o ho => ?_, fun i o b ho hb => ?_, fun i j oi oj b hi hj hbi hbj => ?_, hg.root⟩
 ·rcases hob i o ho with rfl | ho
  ·trivial
  ·exact hg.objs i o ho
 ·rcases hob i o ho with rfl | ho
  ·simp [fE] at hb
  ·exact hg.own i o b ho hb
 ·rcases hob i oi hi with rfl | hi
  ·simp [fE] at hbi
  ·rcases hob j oj hj with rfl | hj
   ·simp [fE] at hbj
   ·exact hg.sep i j oi oj b hi hj hbi hbj
theorem aKR (b : Nat) (hb : aDw c (h.map fR) b) : c.S b := by
 rcases hb with hb | ⟨i, o', ho, hb⟩
 ·exact hb
 ·simp only [List.getElem?_map] at ho
  cases hi : h[i]? with
  | none => simp [hi] at ho
  | some o => rw [hi] at ho; simp only [Option.map_some, Option.some.injEq] at ho; subst ho; cases o <;> simp [fR, fE] at hb
theorem aRI {av : AV} {v : Value} {t : Ty} {x : t.den} (hv : aX c w av v) (ha : AV.as h t av = some x) : aM c w av v.cells.toList ∧ (av.isAgg = true → ∃ cs, v = .agg cs) ∧ (av.isAgg = false → ∀ cs, v ≠ .agg cs) := by
 cases av with
 | junk => cases t <;> simp [AV.as] at ha
 | undef => cases t <;> simp [AV.as] at ha
 | tup vs => cases t <;> simp [AV.as] at ha
 | _ => exact hv
theorem aHP (hg : Good M w0 c h w) {av : AV} {v : Value} {t : Ty} {x : t.den} (hv : aX c w av v) (ha : AV.as h t av = some x) : dB w (aDw c h) t x v := by
 obtain ⟨h1, h2, h3⟩ := aRI hv ha
 obtain ⟨hr, he⟩ := aXd hg t av x _ ha h1
 exact dB.of_cells (fun e => h2 (by rw [← he]; exact e)) (fun e => h3 (by rw [← he]; exact e)) hr
theorem uI (hg : Good M w0 c h w) {av : AV} {v : Value} {t : Ty} {x : t.den} (hv : aX c w av v) (ha : AV.as (h.map fR) t av = some x) : dB w c.S t x v :=
 (aHP hg.frz hv ha).keep aKR (.refl _ _)
theorem aU7 (hT : kG P T) (hg : Good M w0 c h w) {t : TypeId} {x : AV} {v : Value} {lo hi mx : Option AV} {lv hv mv : Option Value} (hx : aX c w x v) (hlo : aPv c w lo lv) (hhi : aPv c w hi hv) (hmx : aPv c w mx mv) (hc : (aJn T h t x lo hi mx).1) :
  ∃ u, (Instr.sliceAt t v lv hv mv).run P w = .ok u w ∧ aX c w (aJn T h t x lo hi mx).2 u := by
 unfold aJn at hc ⊢
 cases ht : T t with
 | none => simp [ht] at hc
 | some ct =>
  cases ct with
  | str =>
   simp only [ht] at hc ⊢
   have hd := xW (hT _ _ ht)
   split at hc
   ·rename_i s
    cases hmx
    obtain ⟨s, rfl, rfl, hs⟩ := aL1 hx
    have hlen := pU s
    split at hc
    ·rename_i e1 e2
     obtain rfl := qV hlo e1
     obtain rfl := qV hhi e2
     have := aHO (c := c) (w := w) hd hs (lo := none) (hi := none) (l := 0) (u := s.size) (by simp [Instr.sliceBounds])
     refine ⟨_, this.1, ?_⟩
     have e : ((aU s).take s.size).drop 0 = aU s := by rw [List.drop_zero, List.take_of_length_le (by omega)]
     rw [e] at this
     simp only [e1, e2]
     exact this.2
    ·rename_i l e1 e2
     obtain ⟨k, rfl⟩ := aAI hlo e1
     obtain rfl := qV hhi e2
     rw [hlen] at hc
     have := aHO (c := c) (w := w) hd hs (lo := some (.int k l)) (hi := none) (l := l.toNat) (u := s.size) (by simp [Instr.sliceBounds, gK hc.1 hc.2])
     refine ⟨_, this.1, ?_⟩
     have e : ((aU s).take s.size).drop l.toNat = (aU s).drop l.toNat := by rw [List.take_of_length_le (by omega)]
     rw [e] at this
     simp only [e1, e2]
     exact this.2
    ·rename_i u e1 e2
     obtain rfl := qV hlo e1
     obtain ⟨k, rfl⟩ := aAI hhi e2
     rw [hlen] at hc
     have := aHO (c := c) (w := w) hd hs (lo := none) (hi := some (.int k u)) (l := 0) (u := u.toNat) (by simp [Instr.sliceBounds, gK hc.1 hc.2])
     refine ⟨_, this.1, ?_⟩
     simp only [e1, e2]
     simpa using this.2
    ·rename_i l u e1 e2
     obtain ⟨k, rfl⟩ := aAI hlo e1
     obtain ⟨k', rfl⟩ := aAI hhi e2
     rw [hlen] at hc
     obtain ⟨h0, h1, h2⟩ := hc
     have := aHO (c := c) (w := w) hd hs (lo := some (.int k l)) (hi := some (.int k' u)) (l := l.toNat) (u := u.toNat) (by simp [Instr.sliceBounds, gK (P := P) (w := w) (show 0 ≤ u by omega) h2, gK (P := P) (w := w) (i := l) (y := u.toNat) h0 (by omega)])
     refine ⟨_, this.1, ?_⟩
     simp only [e1, e2]
     exact this.2
    ·exact hc.elim
   ·exact hc.elim
  | sl ct =>
   simp only [ht] at hc ⊢
   obtain ⟨e, hd, he, hpos⟩ := fS (hT _ _ ht)
   have hTe := hT _ _ he
   cases hl : aSM h ct x with
   | none => simp [hl] at hc
   | some xs =>
    simp only [hl] at hc ⊢
    obtain ⟨a, len, cap, rfl, hs⟩ := aCH (uI hg hx hl)
    have hlen := hs.1
    have hle := hs.2.1
    have mk : ∀ {ys : List ct.den} {a' : Option Addr} {n m : Nat}, SlR w c.S (bC w c.S ct) ct.cells ys a' n m → aX c w (.val (.sl ct) ys) (.slice a' n m) := fun hs' => ⟨⟨_, _, _, rfl, hs'⟩, (fun h => by cases h), (fun _ cs => by simp)⟩
    have mkF : ∀ {ys : List ct.den} {a' : Option Addr} {n m : Nat}, SlR w c.S (bC w c.S ct) ct.cells ys a' n m → m = n → aX c w (.full ct ys) (.slice a' n m) := fun hs' e => by subst e; exact ⟨⟨_, _, rfl, hs'⟩, (fun h => by cases h), (fun _ cs => by simp)⟩
    split at hc
    ·rename_i e1 e2 e3
     obtain rfl := qV hlo e1
     obtain rfl := qV hhi e2
     obtain rfl := qV hmx e3
     obtain ⟨a', h1, h2⟩ := aEy (w := w) hd hTe hs (lo := none) (hi := none) (mx := none) (l := 0) (u := len) (m := cap) (by simp [Instr.sliceBounds]) (Nat.zero_le _) (Nat.le_refl _) hle (Nat.le_refl _)
     refine ⟨_, h1, ?_⟩
     have e : (xs.take len).drop 0 = xs := by rw [List.drop_zero, List.take_of_length_le (by omega)]
     rw [e] at h2
     simp only [e1, e2, e3]
     exact mk h2
    ·rename_i l e1 e2 e3
     obtain ⟨k, rfl⟩ := aAI hlo e1
     obtain rfl := qV hhi e2
     obtain rfl := qV hmx e3
     rw [hlen] at hc
     obtain ⟨a', h1, h2⟩ := aEy (w := w) hd hTe hs (lo := some (.int k l)) (hi := none) (mx := none) (l := l.toNat) (u := len) (m := cap) (by simp [Instr.sliceBounds, gK hc.1 hc.2]) (by omega) (Nat.le_refl _) hle (Nat.le_refl _)
     refine ⟨_, h1, ?_⟩
     have e : (xs.take len).drop l.toNat = xs.drop l.toNat := by rw [List.take_of_length_le (by omega)]
     rw [e] at h2
     simp only [e1, e2, e3]
     exact mk h2
    ·rename_i u e1 e2 e3
     obtain rfl := qV hlo e1
     obtain ⟨k, rfl⟩ := aAI hhi e2
     obtain rfl := qV hmx e3
     rw [hlen] at hc
     obtain ⟨a', h1, h2⟩ := aEy (w := w) hd hTe hs (lo := none) (hi := some (.int k u)) (mx := none) (l := 0) (u := u.toNat) (m := cap) (by simp [Instr.sliceBounds, gK (P := P) (w := w) (y := cap) hc.1 (by omega)]) (by omega) (by omega) (by omega) (Nat.le_refl _)
     refine ⟨_, h1, ?_⟩
     simp only [e1, e2, e3]
     exact mk (by simpa using h2)
    ·rename_i l u e1 e2 e3
     obtain ⟨k, rfl⟩ := aAI hlo e1
     obtain ⟨k', rfl⟩ := aAI hhi e2
     obtain rfl := qV hmx e3
     rw [hlen] at hc
     obtain ⟨h0, h1, h2⟩ := hc
     obtain ⟨a', h1, h2⟩ := aEy (w := w) hd hTe hs (lo := some (.int k l)) (hi := some (.int k' u)) (mx := none) (l := l.toNat) (u := u.toNat) (m := cap) (by simp [Instr.sliceBounds, gK (P := P) (w := w) (i := u) (y := cap) (by omega) (by omega), gK (P := P) (w := w) (i := l) (y := u.toNat) h0 (by omega)]) (by omega) (by omega) (by omega) (Nat.le_refl _)
     refine ⟨_, h1, ?_⟩
     simp only [e1, e2, e3]
     exact mk h2
    ·rename_i u m e1 e2 e3
     obtain rfl := qV hlo e1
     obtain ⟨k, rfl⟩ := aAI hhi e2
     obtain ⟨k', rfl⟩ := aAI hmx e3
     rw [hlen] at hc
     obtain ⟨h0, h1, rfl⟩ := hc
     obtain ⟨a', h1, h2⟩ := aEy (w := w) hd hTe hs (lo := none) (hi := some (.int k m)) (mx := some (.int k' m)) (l := 0) (u := m.toNat) (m := m.toNat) (by simp [Instr.sliceBounds, gK (P := P) (w := w) (i := m) (y := cap) (by omega) (by omega), gK (P := P) (w := w) (i := m) (y := m.toNat) h0 (by omega)]) (by omega) (by omega) (by omega) (by omega)
     refine ⟨_, h1, ?_⟩
     simp only [e1, e2, e3]
     exact mkF (by simpa using h2) rfl
    ·rename_i l u m e1 e2 e3
     obtain ⟨k, rfl⟩ := aAI hlo e1
     obtain ⟨k', rfl⟩ := aAI hhi e2
     obtain ⟨k'', rfl⟩ := aAI hmx e3
     rw [hlen] at hc
     obtain ⟨h0, h1, h2, rfl⟩ := hc
     obtain ⟨a', h1, h2⟩ := aEy (w := w) hd hTe hs (lo := some (.int k l)) (hi := some (.int k' m)) (mx := some (.int k'' m)) (l := l.toNat) (u := m.toNat) (m := m.toNat) (by simp [Instr.sliceBounds, gK (P := P) (w := w) (i := m) (y := cap) (by omega) (by omega), gK (P := P) (w := w) (i := m) (y := m.toNat) (by omega) (by omega), gK (P := P) (w := w) (i := l) (y := m.toNat) h0 (by omega)]) (by omega) (by omega) (by omega) (by omega)
     refine ⟨_, h1, ?_⟩
     simp only [e1, e2, e3]
     exact mkF h2 rfl
    ·exact hc.elim
  | _ => simp [ht] at hc
end
end Go.Vc
namespace Go.Vc
open Go.RowKit
section
variable {P : Program} {T : Tab} {M : Perm} {w0 : World} {c : Ctx} {h : List Obj} {w : World}
theorem aFf {w w' : World} {B : Nat} {e : TypeId} {sz : Nat} {v : Value} {n : Nat} {vals : List Value} (hb : ∀ b, aW v = some b → w'.heap[b]? = w.heap[b]?) (h : w.ownsRow B e sz v n vals) : w'.ownsRow B e sz v n vals := by
 obtain ⟨h1, h2⟩ := h
 refine ⟨h1, h2.imp id ?_⟩
 rintro ⟨g, cap, cur, rfl, hB, hh, r⟩
 exact ⟨g, cap, cur, rfl, hB, by rw [hb g rfl]; exact hh, r⟩
theorem jZ.keep {w w' : World} {S S' : Nat → Prop} (hs : ∀ b, S b → S' b) (h : yQ S w w') : ∀ (t : Ty) (m : Mk) (x : t.den) (cs : List Value) (B : List Nat), (∀ b ∈ B, w'.heap[b]? = w.heap[b]?) → jZ w S t m x cs B → jZ w' S' t m x cs B := by
 intro t
 have hno : ∀ (t : Ty) (x : t.den) (cs : List Value) (B : List Nat), bC w S t x cs ∧ B = [] → bC w' S' t x cs ∧ B = [] := fun t x cs B ⟨h1, h2⟩ => ⟨bC.keep hs h t x cs h1, h2⟩
 induction t with
 | sl t ih =>
  intro m xs cs B hB hr
  cases m with
  | no => exact hno _ _ _ _ hr
  | sl e m =>
   obtain ⟨v, css, Bs, h1, h2, h3, h4, h5, h6⟩ := hr
   subst h5
   refine ⟨v, css, Bs, h1, aFf (fun b hb => hB b (by simp [hdB, hb])) h2, h3, h4, rfl, fun i q1 q2 q3 => ih m _ _ _ (fun b hb => hB b ?_) (h6 i q1 q2 q3)⟩
   exact List.mem_append_right _ (List.mem_flatten.2 ⟨_, List.getElem_mem q3, hb⟩)
  | pair a b => exact hr.elim
 | pair a r iha ihr =>
  intro m x cs B hB hr
  cases m with
  | no => exact hno _ _ _ _ hr
  | sl e m => exact hr.elim
  | pair ma mr =>
   obtain ⟨c1, c2, B1, B2, h1, h2, h3, h4⟩ := hr
   subst h2
   exact ⟨c1, c2, B1, B2, h1, rfl, iha _ _ _ _ (fun b hb => hB b (List.mem_append_left _ hb)) h3, ihr _ _ _ _ (fun b hb => hB b (List.mem_append_right _ hb)) h4⟩
 | _ =>
  intro m x cs B hB hr
  cases m <;> first | exact hno _ _ _ _ hr | exact hr.elim
theorem aTq.keep {c c' : Ctx} {w w' : World} {i : Nat} {e : TypeId} {m : Mk} {t : Ty} {xs : List t.den} {k : Nat} {v : AV} {css : List (List Value)} {Bs : List (List Nat)} (hl : dQ c w c' w') (hhd : c'.hd i = c.hd i) (hbl : c'.bl i = c.bl i) (hb : ∀ b, c.bl i b → w'.heap[b]? = w.heap[b]?) (hr : aTq c w i e m t xs k v css Bs) : aTq c' w' i e m t xs k v css Bs := by
 refine ⟨?_, hr.lc, hr.lb, hr.kl, fun j h h1 h2 hne => jZ.keep hl.le.S hl.same _ _ _ _ _ (fun b hbb => hb b (hr.bl b ?_)) (hr.el j h h1 h2 hne), hr.hb, fun h1 => ⟨aM.keep hl.le hl.same _ _ (hr.hv h1).1, (hr.hv h1).2⟩, by rw [hhd]; exact hr.nd, by rw [hhd, hbl]; exact hr.bl⟩
 ·rw [hhd]; exact aFf (fun b hbb => hb b (hr.bl b (by simp [hdB, hbb]))) hr.row
 ·exact List.mem_append_right _ (List.mem_flatten.2 ⟨_, List.getElem_mem h2, hbb⟩)
theorem aE7.keep {c c' : Ctx} {w w' : World} {i : Nat} {o : Obj} (hl : dQ c w c' w') (hi : i < c.n) (hbl : c'.bl i = c.bl i) (hb : ∀ b, fE c i o b → w'.heap[b]? = w.heap[b]?) (hr : aE7 c w i o) : aE7 c' w' i o := by
 have hhd := hl.le.hd i hi
 cases o with
 | dead => trivial
 | box n v =>
  obtain ⟨b, cells, e, h1, h2, h3, h4⟩ := hr
  exact ⟨b, cells, e, by rw [hhd]; exact h1, by rw [hb b (by simp [fE, h1, aW])]; exact h2, h3, aM.keep hl.le hl.same _ _ h4⟩
 | row e t xs =>
  obtain ⟨vals, h1, h2⟩ := hr
  refine ⟨vals, ?_, bC.keep hl.le.S hl.same _ _ _ h2⟩
  rw [hhd]
  exact aFf (fun b hbb => hb b hbb) h1
 | frz t xs => simp only [aE7] at *; rw [hhd]; exact bC.keep hl.le.S hl.same _ _ _ hr
 | map k v m =>
  obtain ⟨b, es, clock, h1, h2, h3, h4⟩ := hr
  exact ⟨b, es, clock, by rw [hhd]; exact h1, by rw [hb b (by simp [fE, h1, aW])]; exact h2, h3, fun j hj hj' => ⟨(h4 j hj hj').1.keep hl.le.S hl.same, (h4 j hj hj').2.keep hl.le.S hl.same⟩⟩
 | tre e m t xs =>
  obtain ⟨B, h1, h2, h3⟩ := hr
  exact ⟨B, by rw [hhd]; exact jZ.keep hl.le.S hl.same _ _ _ _ _ (fun b hbb => hb b (h3 b hbb)) h1, h2, by rw [hbl]; exact h3⟩
 | trh e m t xs k v =>
  obtain ⟨css, Bs, hr⟩ := hr
  exact ⟨css, Bs, hr.keep hl hhd hbl hb⟩
theorem fY {c c' : Ctx} (hl : c.le c') {i : Nat} (hbl : c'.bl i = c.bl i) (hi : i < c.n) (o : Obj) : fE c' i o = fE c i o := by
 funext b
 cases o <;> simp [fE, hl.hd i hi, hbl]
theorem lM {h : List Obj} {i : Nat} {o : Obj} (ho : h[i]? = some o) : i < h.length := by
 rcases Nat.lt_or_ge i h.length with hlt | hge
 ·exact hlt
 ·rw [List.getElem?_eq_none hge] at ho; cases ho
theorem Good.step (hg : Good M w0 c h w) {c' : Ctx} {w' : World} (hl : dQ c w c' w') (hn : c'.n = c.n) (hbl : c'.bl = c.bl) (hk : iG M.wr w w') (hb : ∀ i o b, h[i]? = some o → fE c i o b → w'.heap[b]? = w.heap[b]?)
  (hs : ∀ b, c'.S b → b < w'.heap.size) (hd : ∀ b, c'.S b → c.S b ∨ w.heap.size ≤ b) : Good M w0 c' h w' := by
 have hlt : ∀ i o, h[i]? = some o → i < c.n := fun i o ho => by rw [hg.n]; exact lM ho
 refine ⟨by rw [hn, hg.n], hg.keeps.trans hk, hs, fun b hb hlt => (hd b hb).elim (fun hb => hg.src b hb hlt) (fun hb => absurd hb (Nat.not_le_of_lt (Nat.lt_of_lt_of_le hlt hg.keeps.size))), fun i o ho => (hg.objs i o ho).keep hl (hlt i o ho) (congrFun hbl i) (fun b hbb => hb i o b ho hbb), fun i o b ho hbb => ?_, fun i j oi oj b hi hj hbi hbj => ?_, yR hg.root hl.le⟩
 ·rw [fY hl.le (congrFun hbl _) (hlt i o ho)] at hbb
  obtain ⟨h1, h2, h3⟩ := hg.own i o b ho hbb
  refine ⟨h1, Nat.lt_of_lt_of_le h2 hk.size, fun hS => ?_⟩
  rcases hd b hS with hS | hge
  ·exact h3 hS
  ·omega
 ·rw [fY hl.le (congrFun hbl _) (hlt i oi hi)] at hbi
  rw [fY hl.le (congrFun hbl _) (hlt j oj hj)] at hbj
  exact hg.sep i j oi oj b hi hj hbi hbj
def Ctx.upto (c : Ctx) (lo hi : Nat) : Ctx := ⟨fun b => c.S b ∨ (lo ≤ b ∧ b < hi), c.hd, c.n, c.bl⟩
theorem Ctx.le_upto (c : Ctx) (lo hi : Nat) : c.le (c.upto lo hi) := ⟨fun b hb => .inl hb, Nat.le_refl _, fun _ _ => rfl⟩
theorem tR (hg : Good M w0 c h w) {w' : World} (hk : iG nothing w w') : dQ c w (c.upto w.heap.size w'.heap.size) w' :=
 ⟨c.le_upto _ _, fun b hb => hk.block b (hg.sfin b hb) (fun f => f)⟩
theorem iG.any {w w' : World} (hk : iG nothing w w') : iG M.wr w w' := ⟨hk.os, hk.tape, hk.output, hk.size, fun b hb _ => hk.block b hb (fun f => f)⟩
theorem Good.call (hg : Good M w0 c h w) {w' : World} (hk : iG nothing w w') : Good M w0 (c.upto w.heap.size w'.heap.size) h w' :=
 hg.step (tR hg hk) rfl rfl hk.any (fun i o b ho hb => hk.block b (hg.own i o b ho hb).2.1 (fun f => f)) (fun b hb => hb.elim (fun hb => Nat.lt_of_lt_of_le (hg.sfin b hb) hk.size) (fun hb => hb.2)) (fun b hb => hb.imp id (fun hb => hb.1))
theorem iG.alloc (M : Nat → Prop) (w : World) (o : Go.Obj) : iG M w { w with heap := w.heap.push o } :=
 ⟨rfl, rfl, rfl, by simp, fun b hb _ => by simp [Array.getElem?_push, Nat.ne_of_lt hb]⟩
structure aGO (P : Program) (M : Perm) (w0 : World) (h : List Obj) (c : Ctx) (w : World) (av : AV) (v : Value) (w' : World) (c' : Ctx) : Prop where
 later : dQ c w c' w'
 n : c'.n = c.n ∧ c'.bl = c.bl
 good : Good M w0 c' h w'
 keeps : iG nothing w w'
 new : ∀ b, c'.S b → c.S b ∨ w.heap.size ≤ b
 val : aX c' w' av v
def Did (P : Program) (M : Perm) (w0 : World) (h : List Obj) (c : Ctx) (o : Oper) (a : Act) (w : World) (av : AV) : Prop :=
 (∃ v w' c', (execOp a.eval o).run P w = .ok (.value v) w' ∧ aGO P M w0 h c w av v w' c') ∨
 (∃ f args, (execOp a.eval o).run P w = .ok (.enter f args) w ∧ Calls P f args w fun e w' => ∃ v c', e = .returned v ∧ aGO P M w0 h c w av v w' c')
theorem Did.of_value (hg : Good M w0 c h w) {o : Oper} {a : Act} {av : AV} {v : Value} (hr : (execOp a.eval o).run P w = .ok (.value v) w) (hv : aX c w av v) : Did P M w0 h c o a w av :=
 .inl ⟨v, w, c, hr, .refl _ _, ⟨rfl, rfl⟩, hg, .refl _ _, fun b hb => .inl hb, hv⟩
theorem bC.scalar {w w' : World} {S S' : Nat → Prop} : ∀ (t : Ty) (x : t.den) (cs : List Value), t.scalar = true → bC w S t x cs → bC w' S' t x cs
 | .bool, _, _, _, hr => hr
 | .u _, _, _, _, hr => hr
 | .i _, _, _, _, hr => hr
 | .str, _, _, _, hr => hr
 | .sl t, _, _, hs, _ => by simp [Ty.scalar] at hs
 | .unit, _, _, _, hr => hr
 | .pair a b, _, _, hs, ⟨c1, c2, hc, h1, h2⟩ => by
  simp only [Ty.scalar, Bool.and_eq_true] at hs
  exact ⟨c1, c2, hc, bC.scalar a _ _ hs.1 h1, bC.scalar b _ _ hs.2 h2⟩
 | .arr _ t, _, _, hs, ⟨hn, css, hc, hl, hr⟩ => ⟨hn, css, hc, hl, fun i h1 h2 => bC.scalar t _ _ (by simpa [Ty.scalar] using hs) (hr i h1 h2)⟩
 | .expr, _, _, hs, _ => by simp [Ty.scalar] at hs
 | .rp _, _, _, hs, _ => by simp [Ty.scalar] at hs
 | .clo _ _, _, _, hs, _ => by simp [Ty.scalar] at hs
theorem dB.scalar {w w' : World} {S S' : Nat → Prop} {t : Ty} {x : t.den} {v : Value} (hs : t.scalar = true) (hr : dB w S t x v) : dB w' S' t x v := by
 unfold dB at *
 split
 ·rename_i ha; simp only [ha, if_true] at hr; obtain ⟨cs, hv, hc⟩ := hr; exact ⟨cs, hv, bC.scalar _ _ _ hs hc⟩
 ·rename_i ha; simp only [ha] at hr; exact bC.scalar _ _ _ hs hr
theorem oP.scalar {w w' : World} {S S' : Nat → Prop} : ∀ (t : Ty) (x : t.den) (vs : List Value), t.scalar = true → oP w S t x vs → oP w' S' t x vs
 | .unit, _, _, _, hr => hr
 | .pair a r, x, vs, hs, ⟨v, vs', e, h1, h2⟩ => by
  simp only [Ty.scalar, Bool.and_eq_true] at hs
  exact ⟨v, vs', e, h1.scalar hs.1, oP.scalar r _ _ hs.2 h2⟩
 | .bool, _, _, _, hr => hr.elim
 | .u _, _, _, _, hr => hr.elim
 | .i _, _, _, _, hr => hr.elim
 | .str, _, _, _, hr => hr.elim
 | .sl _, _, _, _, hr => hr.elim
 | .arr _ _, _, _, _, hr => hr.elim
 | .expr, _, _, _, hr => hr.elim
 | .rp _, _, _, _, hr => hr.elim
 | .clo _ _, _, _, _, hr => hr.elim
theorem aQL (hg : Good M w0 c h w) : ∀ (t : Ty) (vs : List AV) (xs : List Value) (x : t.den), aAH h t vs = some x → xs.length = vs.length → (∀ i (h1 : i < vs.length) (h2 : i < xs.length), aX c w vs[i] xs[i]) → oP w (aDw c h) t x xs := by
 intro t
 induction t with
 | unit =>
  intro vs xs x ha hl hv
  cases vs with
  | nil => exact List.eq_nil_of_length_eq_zero hl
  | cons v vs => simp [aAH] at ha
 | pair a r _ ih =>
  intro vs xs x ha hl hv
  cases vs with
  | nil => simp [aAH] at ha
  | cons v vs =>
   cases xs with
   | nil => simp at hl
   | cons u xs =>
    simp only [aAH] at ha
    split at ha
    ·rename_i xa xb h1 h2
     cases ha
     refine ⟨u, xs, rfl, aHP hg (hv 0 (by simp) (by simp)) h1, ih vs xs xb h2 (by simpa using hl) (fun i hi hi' => ?_)⟩
     have := hv (i + 1) (by simpa using hi) (by simpa using hi')
     simpa using this
    ·cases ha
 | _ => intro vs xs x ha; simp [aAH] at ha
theorem aGP (hg : Good M w0 c h w) {t : Ty} {vs : List AV} {xs : List Value} {x : t.den} (ha : aAH (h.map fR) t vs = some x) (hl : xs.length = vs.length) (hv : ∀ i (h1 : i < vs.length) (h2 : i < xs.length), aX c w vs[i] xs[i]) : oP w c.S t x xs := by
 have := aQL hg.frz t vs xs x ha hl hv
 have hmono : ∀ (t : Ty) (x : t.den) (xs : List Value), oP w (aDw c (h.map fR)) t x xs → oP w c.S t x xs := by
  intro t
  induction t with
  | unit => intro x xs h; exact h
  | pair a r _ ih => intro x xs ⟨v, vs', e, h1, h2⟩; exact ⟨v, vs', e, h1.keep aKR (.refl _ _), ih _ _ h2⟩
  | _ => intro x xs h; exact h.elim
 exact hmono t x xs this
theorem aRJ (hg : Good M w0 c h w) (b : Nat) (hb : aDw c h b) : b < w.heap.size := by
 rcases hb with hb | ⟨i, o, ho, hb⟩
 ·exact hg.sfin b hb
 ·exact (hg.own i _ b ho hb).2.1
theorem pJ.mono {G : Nat → AV} {S S' : Nat → Prop} {w w' : World} (hs : ∀ b, S b → S' b) (h : yQ S w w') (hr : pJ G S w) : pJ G S' w' := fun g =>
 (hr g).keep (c := ⟨S, fun _ => Go.undef, 0, fun _ _ => False⟩) (c' := ⟨S', fun _ => Go.undef, 0, fun _ _ => False⟩) ⟨hs, Nat.le_refl _, fun _ _ => rfl⟩ h
theorem aSO {S : Nat → Prop} {w : World} {c : Ctx} (hS : c.S = S) : ∀ (t : Ty) (x : t.den) (vs : List Value), oP w S t x vs → vs.length = (yV t x).length ∧ ∀ i (h : i < (yV t x).length) (h' : i < vs.length), tQ c w (yV t x)[i] vs[i]
 | .unit, _, vs, hr => by simp only [oP] at hr; subst hr; exact ⟨rfl, fun i h => by simp [yV] at h⟩
 | .pair a r, x, vs, ⟨v, vs', e, h1, h2⟩ => by
  subst e
  obtain ⟨hl, hr⟩ := aSO hS r x.2 vs' h2
  refine ⟨by simp [yV, hl], fun i hi hi' => ?_⟩
  cases i with
  | zero => exact aX.ofV (by rw [hS]; exact h1)
  | succ i => exact hr i (by simpa [yV] using hi) (by simpa using hi')
 | .bool, _, _, hr => hr.elim
 | .u _, _, _, hr => hr.elim
 | .i _, _, _, hr => hr.elim
 | .str, _, _, hr => hr.elim
 | .sl _, _, _, hr => hr.elim
 | .arr _ _, _, _, hr => hr.elim
 | .expr, _, _, hr => hr.elim
 | .rp _, _, _, hr => hr.elim
 | .clo _ _, _, _, hr => hr.elim
def FAt (G : Nat → AV) (sp : aI) (vs : Array Value) (w : World) (C : (Ending → World → Prop) → Prop) : Prop :=
 ∀ (S : Nat → Prop) (x : sp.args.den), (∀ b, S b → b < w.heap.size) → pJ G S w → oP w S sp.args x vs.toList → sp.pre x →
  C fun e w' => ∃ v, e = .returned v ∧ iG nothing w w' ∧ aUe w' S w.heap.size sp.res (sp.fn x) v
def aXe (P : Program) (f : FuncId) (vs : Array Value) (w : World) (R : Ending → World → Prop) : Prop :=
 ∃ v w', (callFunc f vs).run P w = .ok (.value v) w' ∧ R (.returned v) w'
def NOK (P : Program) (G : Nat → AV) (f : FuncId) (sp : aI) : Prop :=
 (∀ e t, sp.res ≠ .own e t) ∧ ∀ (w : World) (vs : Array Value), FAt G sp vs w (aXe P f vs w)
theorem aWv {C : (Ending → World → Prop) → Prop} (hC : ∀ R R' : Ending → World → Prop, C R → (∀ e w', R e w' → R' e w') → C R') {G : Nat → AV} {Γ : FuncId → List AV → Option aI} {f : FuncId} {vs : List AV} {xs : Array Value} (hΓ : ∀ sp, Γ f vs = some sp → FAt G sp xs w C) (hg : Good M w0 c h w) (hG : pJ G c.S w) (hl : xs.size = vs.length)
  (hv : ∀ i (h1 : i < vs.length) (h2 : i < xs.size), aX c w vs[i] xs[i]) (hc : (aFb Γ h f vs).1) :
  C fun e w' => ∃ v c', e = .returned v ∧ aGO P M w0 h c w (aFb Γ h f vs).2 v w' c' := by
 unfold aFb at hc ⊢
 cases hf : Γ f vs with
 | none => simp [hf] at hc
 | some sp =>
  simp only [hf] at hc ⊢
  have hl' : xs.toList.length = vs.length := by simpa using hl
  have hv' : ∀ i (h1 : i < vs.length) (h2 : i < xs.toList.length), aX c w vs[i] xs.toList[i] := fun i h1 h2 => by
   have := hv i h1 (by simpa using h2)
   simpa using this
  obtain ⟨argT, res, pre, fn⟩ := sp
  have key : ∀ (x : argT.den), aAH (if res.ty.scalar then h else h.map fR) argT vs = some x → pre x → (∀ e t, res ≠ .own e t) → C fun e w' => ∃ v c', e = .returned v ∧ aGO P M w0 h c w (aUZ res (fn x)) v w' c' := by
   intro x ha hp hno
   by_cases hsc : res.ty.scalar = true
   ·rw [if_pos hsc] at ha
    have hargs := aQL hg _ _ _ _ ha hl' hv'
    refine hC _ _ (hΓ _ hf (aDw c h) x (aRJ hg) (hG.mono (fun b hb => .inl hb) (.refl _ _)) hargs hp) ?_
    rintro e w' ⟨v, rfl, hk, hres⟩
    refine ⟨v, _, rfl, tR hg hk, ⟨rfl, rfl⟩, hg.call hk, hk, fun b hb => hb.imp id And.left, ?_⟩
    cases res with
    | none => trivial
    | one t => exact aX.ofV (dB.scalar hsc hres)
    | own e t => exact absurd rfl (hno _ _)
    | tup t =>
     obtain ⟨us, rfl, hus⟩ := hres
     have := oP.scalar (w' := w') (S' := (c.upto w.heap.size w'.heap.size).S) t _ _ hsc hus
     obtain ⟨h1, h2⟩ := aSO (c := c.upto w.heap.size w'.heap.size) rfl t _ _ this
     exact ⟨us, rfl, h1, h2⟩
   ·rw [if_neg hsc] at ha
    have hargs := aGP hg ha hl' hv'
    refine hC _ _ (hΓ _ hf c.S x hg.sfin hG hargs hp) ?_
    rintro e w' ⟨v, rfl, hk, hres⟩
    refine ⟨v, _, rfl, tR hg hk, ⟨rfl, rfl⟩, hg.call hk, hk, fun b hb => hb.imp id And.left, ?_⟩
    cases res with
    | none => trivial
    | one t => exact aX.ofV hres
    | own e t => exact absurd rfl (hno _ _)
    | tup t =>
     obtain ⟨us, rfl, hus⟩ := hres
     obtain ⟨h1, h2⟩ := aSO (c := c.upto w.heap.size w'.heap.size) rfl t _ _ hus
     exact ⟨us, rfl, h1, h2⟩
  cases res with
  | own e t => exact hc.elim
  | none =>
   simp only at hc ⊢
   split at hc
   ·rename_i x ha; exact key x ha hc (fun _ _ h => by cases h)
   ·exact hc.elim
  | one t =>
   simp only at hc ⊢
   split at hc
   ·rename_i x ha; exact key x ha hc (fun _ _ h => by cases h)
   ·exact hc.elim
  | tup t =>
   simp only at hc ⊢
   split at hc
   ·rename_i x ha; exact key x ha hc (fun _ _ h => by cases h)
   ·exact hc.elim
end
end Go.Vc
namespace Go.Vc
open Go.RowKit
section
variable {P : Program} {T : Tab} {M : Perm} {w0 : World} {c : Ctx} {h : List Obj} {w : World}
theorem aRK (pre : List Value) : ∀ (ns old post : List Value) (cells : Array Value) (j : Nat), cells.toList = pre ++ old ++ post → old.length = j + ns.length →
  ((ns.zipIdx j).foldl (fun cs (p : Value × Nat) => cs.setIfInBounds (pre.length + p.2) p.1) cells).toList = pre ++ (old.take j ++ ns) ++ post
 | [], old, post, cells, j, hc, hl => by
  simp only [List.zipIdx_nil, List.foldl_nil, List.append_nil]
  rw [hc, List.take_of_length_le (by simp at hl; omega)]
 | v :: ns, old, post, cells, j, hc, hl => by
  simp only [List.zipIdx_cons, List.foldl_cons]
  simp only [List.length_cons] at hl
  have h1 : (cells.setIfInBounds (pre.length + j) v).toList = pre ++ (old.set j v) ++ post := by
   rw [Array.toList_setIfInBounds, hc, List.append_assoc, List.set_append_right _ _ (by omega), Nat.add_sub_cancel_left, List.set_append_left _ _ (by omega), ← List.append_assoc]
  have := aRK pre ns (old.set j v) post _ (j + 1) h1 (by simp; omega)
  rw [this]
  congr 2
  rw [List.take_succ_eq_append_getElem (by simp; omega)]
  simp [List.take_set_of_le]
theorem aKS {pre old post : List Value} {cells : Array Value} (hc : cells.toList = pre ++ old ++ post) {v : Value} (hv : v.cells.size = old.length) :
  (v.cells.zipIdx.foldl (fun cs (p : Value × Nat) => cs.setIfInBounds (pre.length + p.2) p.1) cells).toList = pre ++ v.cells.toList ++ post := by
 have := aRK pre v.cells.toList old post cells 0 hc (by simp [hv])
 rw [← Array.foldl_toList, Array.toList_zipIdx]
 simpa using this
theorem aU8 : ∀ {L : List AV} {cs : List Value} {k : Nat} {ts : List Ty}, kT c w L cs → L.length = ts.length → (∀ i (h : i < L.length), (L[i]).solid1 = true) → (∀ i (h : i < L.length) (h' : i < ts.length), (L[i]).nc1 = ts[i].cells) → k < L.length →
  ∃ pre ds post, cs = pre ++ ds ++ post ∧ pre.length = ((ts.take k).map Ty.cells).foldr (· + ·) 0 ∧ ds.length = (ts.getD k .unit).cells ∧ ∀ (v : AV) (ds' : List Value), aM c w v ds' → kT c w (L.set k v) (pre ++ ds' ++ post)
 | [], _, _, _, _, _, _, _, hk => by simp at hk
 | v :: L, cs, k, ts, hr, hl, hs, hn, hk => by
  cases ts with
  | nil => simp at hl
  | cons t ts =>
   simp only [kT] at hr
   obtain ⟨c1, c2, rfl, h1, h2⟩ := hr
   have h0 := hn 0 (by simp) (by simp)
   have s0 := hs 0 (by simp)
   simp only [List.getElem_cons_zero] at h0 s0
   have hl1 := aIE s0 h1
   cases k with
   | zero => exact ⟨[], c1, c2, by simp, rfl, by simp [hl1, h0], fun v' ds' hv' => by simp only [List.set_cons_zero, kT, List.nil_append]; exact ⟨ds', c2, rfl, hv', h2⟩⟩
   | succ k =>
    obtain ⟨pre, ds, post, e, hp, hd, hset⟩ := aU8 (k := k) (ts := ts) h2 (by simpa using hl) (fun i hi => by have := hs (i + 1) (by simpa using hi); simpa using this) (fun i hi hi' => by have := hn (i + 1) (by simpa using hi) (by simpa using hi'); simpa using this) (by simpa using hk)
    refine ⟨c1 ++ pre, ds, post, by rw [e]; simp, by simp [hl1, h0, hp], by simpa using hd, fun v' ds' hv' => ?_⟩
    simp only [List.set_cons_succ, kT]
    exact ⟨c1, pre ++ ds' ++ post, by simp, h1, hset v' ds' hv'⟩
theorem aBb : ∀ {fs : List Field} {off : Nat} {t : Ty} {k : Nat} {ct : Ty}, dX T fs off t = true → t.flds[k]? = some ct → ∃ f, fs[k]? = some f ∧ T f.type = some ct ∧ f.offset = off + ((t.flds.take k).map Ty.cells).foldr (· + ·) 0
 | [], off, .unit, k, ct, _, hk => by simp [Ty.flds] at hk
 | f :: fs, off, .pair a r, 0, ct, hf, hk => by
  simp only [dX, Bool.and_eq_true, decide_eq_true_eq] at hf
  simp [Ty.flds] at hk
  subst hk
  exact ⟨f, rfl, hf.1.1.1.1, by simp [hf.1.1.1.2]⟩
 | f :: fs, off, .pair a r, k + 1, ct, hf, hk => by
  simp only [dX, Bool.and_eq_true, decide_eq_true_eq] at hf
  simp only [Ty.flds, List.getElem?_cons_succ] at hk
  obtain ⟨f', h1, h2, h3⟩ := aBb hf.2 hk
  exact ⟨f', by simpa using h1, h2, by rw [h3]; simp [Ty.flds]; omega⟩
 | [], _, .pair _ _, _, _, hf, _ => by simp [dX] at hf
 | _ :: _, _, .unit, _, _, hf, _ => by simp [dX] at hf
theorem aJo : ∀ {fs : List Field} {off : Nat} {t : Ty}, dX T fs off t = true → fs.length = t.flds.length
 | [], _, .unit, _ => rfl
 | f :: fs, off, .pair a r, hf => by
  simp only [dX, Bool.and_eq_true] at hf
  simp [Ty.flds, aJo hf.2]
 | [], _, .pair _ _, hf => by simp [dX] at hf
 | _ :: _, _, .unit, hf => by simp [dX] at hf
theorem aP7 : ∀ (t : Ty), t.okB = true → ∀ fs off, dX T fs off t = true → kT c w (xN t) (cU t) ∧ (xN t).length = t.flds.length ∧ (∀ i (h : i < (xN t).length), ((xN t)[i]).solid1 = true) ∧ (∀ i (h : i < (xN t).length) (h' : i < t.flds.length), ((xN t)[i]).nc1 = (t.flds[i]).cells)
 | .unit, _, _, _, _ => ⟨rfl, rfl, fun i h => by simp [xN] at h, fun i h => by simp [xN] at h⟩
 | .pair a r, hok, f :: fs, off, hf => by
  simp only [Ty.okB, Bool.and_eq_true] at hok
  simp only [dX, Bool.and_eq_true] at hf
  obtain ⟨h1, h2, h3, h4⟩ := aP7 r hok.2 fs _ hf.2
  refine ⟨⟨cU a, cU r, rfl, fV w c.S a hok.1, h1⟩, by simp [xN, Ty.flds, h2], fun i hi => ?_, fun i hi hi' => ?_⟩
  ·cases i with
   | zero => rfl
   | succ i => exact h3 i (by simpa [xN] using hi)
  ·cases i with
   | zero => rfl
   | succ i => exact h4 i (by simpa [xN] using hi) (by simpa [Ty.flds] using hi')
 | .pair _ _, _, [], _, hf => by simp [dX] at hf
 | .bool, _, fs, _, hf => by cases fs <;> simp [dX] at hf
 | .u _, _, fs, _, hf => by cases fs <;> simp [dX] at hf
 | .i _, _, fs, _, hf => by cases fs <;> simp [dX] at hf
 | .str, _, fs, _, hf => by cases fs <;> simp [dX] at hf
 | .sl _, _, fs, _, hf => by cases fs <;> simp [dX] at hf
 | .arr _ _, _, fs, _, hf => by cases fs <;> simp [dX] at hf
 | .expr, _, fs, _, hf => by cases fs <;> simp [dX] at hf
 | .rp _, _, fs, _, hf => by cases fs <;> simp [dX] at hf
 | .clo _ _, _, fs, _, hf => by cases fs <;> simp [dX] at hf
 | .nilp, _, fs, _, hf => by cases fs <;> simp [dX] at hf
 | .nilf, _, fs, _, hf => by cases fs <;> simp [dX] at hf
inductive aBx (c : Ctx) (w : World) : List (Nat × AV) → List (Nat × Value) → Prop where
 | nil : aBx c w [] []
 | cons {k : Nat} {a : AV} {v : Value} {ps : List (Nat × AV)} {vs : List (Nat × Value)} (h : aX c w a v) (r : aBx c w ps vs) : aBx c w ((k, a) :: ps) ((k, v) :: vs)
theorem aJp {place : Nat → Option (Nat × Nat)} {ts : List Ty} (hp : ∀ k t, ts[k]? = some t → place k = some (((ts.take k).map Ty.cells).foldr (· + ·) 0, t.cells)) : ∀ (ps : List (Nat × AV)) (vs : List (Nat × Value)) (L : List AV) (cells : Array Value),
  aBx c w ps vs → aHJ ts ps → kT c w L cells.toList → L.length = ts.length → (∀ i (h : i < L.length), (L[i]).solid1 = true) → (∀ i (h : i < L.length) (h' : i < ts.length), (L[i]).nc1 = ts[i].cells) →
  ∃ cells', Instr.fill place cells vs = some cells' ∧ kT c w (aUf L ps) cells'.toList
 | _, _, L, cells, .nil, _, hr, _, _, _ => ⟨cells, rfl, hr⟩
 | _, _, L, cells, .cons (k := k) (a := a) (v := v) (ps := ps) (vs := vs) hv r, hok, hr, hl, hs, hn => by
  obtain ⟨⟨hsa, t, htk, hnc⟩, hok⟩ := hok
  have hkt : k < ts.length := get_lt' htk
  obtain ⟨pre, ds, post, e, hpl, hdl, hset⟩ := aU8 (k := k) hr hl hs hn (by omega)
  have hgd : ts.getD k .unit = t := by simp [List.getD_eq_getElem?_getD, htk]
  rw [hgd] at hdl
  have hva : tQ c w a v := by cases a <;> first | exact hv | (simp [AV.solid1] at hsa)
  have hvc := aIE hsa hva.1
  have hsz : v.cells.size = t.cells := by rw [← hnc, ← hvc]; simp
  have hstep := aKS (v := v) e (by rw [hsz, hdl])
  have hcs : cells.size = (pre ++ ds ++ post).length := by rw [← e]; simp
  obtain ⟨cells', h1, h2⟩ := aJp hp ps vs (L.set k a) _ r hok (by rw [hstep]; exact hset a _ hva.1) (by simpa using hl) (fun i hi => by
    by_cases hik : k = i
    ·subst hik; simp [hsa]
    ·simp only [List.getElem_set_ne hik]; exact hs i (by simpa using hi)) (fun i hi hi' => by
    by_cases hik : k = i
    ·subst hik
     simp only [List.getElem_set_self, hnc]
     rw [List.getElem?_eq_getElem hkt] at htk
     simp at htk; rw [htk]
    ·simp only [List.getElem_set_ne hik]; exact hn i (by simpa using hi) hi')
  refine ⟨cells', ?_, h2⟩
  rw [Instr.fill, hp k t htk]
  have hcond : ¬ (v.cells.size ≠ t.cells ∨ ((((ts.take k).map Ty.cells).foldr (· + ·) 0) + v.cells.size > cells.size)) := by
   rw [← hpl, hsz, hcs]
   simp
   omega
  dsimp only
  rw [if_neg (by simpa using hcond), ← hpl]
  exact h1
where
 get_lt' {α : Type} {l : List α} {k : Nat} {x : α} (h : l[k]? = some x) : k < l.length := by
  rcases Nat.lt_or_ge k l.length with hlt | hge
  ·exact hlt
  ·rw [List.getElem?_eq_none hge] at h; cases h
theorem aJq {t : Ty} {L : List AV} {cells : Array Value} (hr : kT c w L cells.toList) : aX c w (aGM t L) (.agg cells) := by
 unfold aGM
 have hL : aX c w (.agg L) (.agg cells) := ⟨by simpa [aM, Value.cells] using hr, fun _ => ⟨_, rfl⟩, fun h => by cases h⟩
 split
 ·rename_i x ha
  have key : ∀ (t : Ty) (v : AV) (x : t.den) (cs : List Value), AV.as [] t v = some x → aM c w v cs → bC w c.S t x cs ∧ t.isAgg = v.isAgg := by
   intro t v x cs ha hr
   exact as_nil t v x cs ha hr
  obtain ⟨h1, h2⟩ := key _ _ _ _ ha hL.1
  exact aX.ofV (dB.of_cells (fun _ => ⟨_, rfl⟩) (fun h => by rw [h2] at h; cases h) h1)
 ·exact hL
where
 as_nil (t : Ty) (v : AV) (x : t.den) (cs : List Value) (ha : AV.as [] t v = some x) (hr : aM c w v cs) : bC w c.S t x cs ∧ t.isAgg = v.isAgg := by
  have hval : ∀ (t t' : Ty) (y : t'.den) (x : t.den) (cs : List Value), AV.as [] t (.val t' y) = some x → aM c w (.val t' y) cs → bC w c.S t x cs ∧ t.isAgg = AV.isAgg (.val t' y) := by
   intro t t' y x cs ha hr
   have : ∃ e : t' = t, x = e ▸ y := by
    have h2 : (if e : t' = t then some (e ▸ y) else none) = some x := by cases t <;> simpa [AV.as] using ha
    split at h2
    ·rename_i e; cases h2; exact ⟨e, rfl⟩
    ·cases h2
   obtain ⟨rfl, rfl⟩ := this
   exact ⟨hr, rfl⟩
  have hflat : ∀ (t : Ty) (l : List AV) (x : t.den) (cs : List Value), aFa t l = some x → kT c w l cs → bC w c.S t x cs := by
   intro t l x cs ha hr
   unfold aFa at ha
   split at ha
   ·rename_i y hp
    cases ha
    obtain ⟨c1, c2, e, r1, r2⟩ := aRC t l _ _ cs hp hr
    simp only [kT] at r2
    subst r2
    rw [e, List.append_nil]; exact r1
   ·cases ha
  induction t generalizing v cs with
  | pair a b iha ihb =>
   cases v with
   | val t' y => exact hval _ _ _ _ _ ha hr
   | agg vs =>
    cases vs with
    | nil => simp [AV.as] at ha
    | cons v vs =>
     simp only [aQF] at ha
     split at ha
     ·rename_i xa xb h1 h2
      cases ha
      simp only [aM, kT] at hr
      obtain ⟨c1, c2, e, r1, r2⟩ := hr
      exact ⟨⟨c1, c2, e, (iha v xa c1 h1 r1).1, (ihb (.agg vs) xb c2 h2 (by simpa [aM] using r2)).1⟩, rfl⟩
     ·cases ha
   | flat l => simp only [aQG] at ha; exact ⟨hflat _ _ _ _ ha (by simpa [aM] using hr), rfl⟩
   | _ => simp [AV.as] at ha
  | sl t ih =>
   cases v with
   | val t' y => exact hval _ _ _ _ _ ha hr
   | nilS => simp at ha; subst ha; simp only [aM] at hr; exact ⟨⟨none, 0, 0, hr, rfl, Nat.le_refl _, Nat.zero_le _, .inl rfl⟩, rfl⟩
   | full t' xs =>
    have h2 : (if e : t' = t then some (e ▸ xs) else none) = some x := by simpa [AV.as] using ha
    split at h2
    ·rename_i e
     subst e
     cases h2
     simp only [aM] at hr
     obtain ⟨p, n, e, hsl⟩ := hr
     exact ⟨⟨p, n, n, e, hsl⟩, rfl⟩
    ·cases h2
   | own i => simp [rowOf] at ha
   | _ => simp [AV.as] at ha
  | unit =>
   cases v with
   | val t' y => exact hval _ _ _ _ _ ha hr
   | agg vs => cases vs with
    | nil => simp only [aM, kT] at hr; exact ⟨hr, rfl⟩
    | cons v vs => simp [AV.as] at ha
   | flat l => simp only [aNR] at ha; exact ⟨hflat _ _ _ _ ha (by simpa [aM] using hr), rfl⟩
   | _ => simp [AV.as] at ha
  | rp t ih =>
   cases v with
   | val t' y => exact hval _ _ _ _ _ ha hr
   | roa t' y =>
    have h2 : (if e : t' = t then some (e ▸ y) else none) = some x := by simpa [AV.as] using ha
    split at h2
    ·rename_i e
     subst e
     cases h2
     simp only [aM] at hr
     exact ⟨hr, rfl⟩
    ·cases h2
   | ptr i p =>
    cases p with
    | nil => simp at ha
    | cons s p => simp [AV.as] at ha
   | _ => simp [AV.as] at ha
  | clo g t ih =>
   cases v with
   | val t' y => exact hval _ _ _ _ _ ha hr
   | fn g' l1 l2 =>
    cases l1 with
    | nil =>
     have h2 : g' = g ∧ AV.as [] t (.agg (l2.map fun i => .ptr i [])) = some x := by simpa [AV.as] using ha
     obtain ⟨rfl, ha⟩ := h2
     simp only [aM] at hr
     obtain ⟨_, h2, e⟩ := hr
     cases l2 with
     | nil =>
      have := ih (.agg []) x [] ha rfl
      exact ⟨⟨[], by simpa using e, this.1⟩, rfl⟩
     | cons i l2 =>
      exfalso
      have hp : ∀ a : Ty, AV.as [] a (.ptr i []) = none := fun a => by cases a <;> simp [AV.as]
      cases t <;> first | (simp [AV.as] at ha; done) | (simp [hp] at ha; done) | (match l2, ha with
       | [], ha => simp [AV.as] at ha
       | [_], ha => simp [AV.as] at ha
       | [_, _], ha => simp [AV.as, asX, aUW] at ha
       | _ :: _ :: _ :: _, ha => simp [AV.as] at ha)
    | cons i l1 => simp [AV.as] at ha
   | _ => simp [AV.as] at ha
  | expr =>
   cases v with
   | val t' y => exact hval _ _ _ _ _ ha hr
   | agg vs =>
    match vs, ha, hr with
    | [a, b, v], ha, hr =>
     simp only [aQH] at ha
     exact ⟨aTA (fun _ h => h) (fun i xs cs h1 _ => by simp [rowOf] at h1) ha (by simpa [aM] using hr), rfl⟩
    | [], ha, _ => simp [AV.as] at ha
    | [_], ha, _ => simp [AV.as] at ha
    | [_, _], ha, _ => simp [AV.as] at ha
    | _ :: _ :: _ :: _ :: _, ha, _ => simp [AV.as] at ha
   | _ => simp [AV.as] at ha
  | _ =>
   cases v with
   | val t' y => exact hval _ _ _ _ _ ha hr
   | _ => simp [AV.as] at ha
theorem aP8 {av : AV} {v : Value} {t : Ty} {x : t.den} (hv : aX c w av v) (ha : AV.as [] t av = some x) : dB w c.S t x v := by
 obtain ⟨h1, h2, h3⟩ := aRI hv ha
 obtain ⟨hr, he⟩ := aJq.as_nil t av x _ ha h1
 exact dB.of_cells (fun e => h2 (by rw [← he]; exact e)) (fun e => h3 (by rw [← he]; exact e)) hr
theorem aNY {ct : Ty} {n : Nat} {place : Nat → Option (Nat × Nat)} (hp : ∀ k, place k = some (k * ct.cells, ct.cells)) : ∀ (ps : List (Nat × AV)) (vs : List (Nat × Value)) (xs : List ct.den) (cells : Array Value) (ys : List ct.den),
  aBx c w ps vs → aQI ct xs ps = some ys → bC w c.S (.arr n ct) xs cells.toList → ∃ cells', Instr.fill place cells vs = some cells' ∧ bC w c.S (.arr n ct) ys cells'.toList
 | _, _, xs, cells, ys, .nil, he, hr => by simp [aQI] at he; subst he; exact ⟨cells, rfl, hr⟩
 | _, _, xs, cells, ys, .cons (k := k) (a := a) (v := v) (ps := ps) (vs := vs) hv r, he, hr => by
  simp only [aQI] at he
  split at he
  ·rename_i x hx
   split at he
   ·rename_i hk
    obtain ⟨hn, css, e, hl, hrep⟩ := hr
    obtain ⟨pre, post, hf, hpl⟩ := nG (t := ct) (css := css) (fun j hj => bC.length _ _ _ (hrep j (by omega) hj)) k (by omega)
    have hvr := (aP8 hv hx).cells
    have hvl := bC.length _ _ _ hvr
    have hcl := bC.length _ _ _ (hrep k hk (by omega))
    have hsz : v.cells.size = ct.cells := by rw [← hvl]; simp
    have hstep := aKS (v := v) (e.trans hf) (by rw [hsz, hcl])
    have hnew : bC w c.S (.arr n ct) (xs.set k x) (pre ++ v.cells.toList ++ post) := by
     refine ⟨by simpa using hn, css.set k v.cells.toList, ?_, by simpa using hl, fun i h1 h2 => ?_⟩
     ·have hsp : css = css.take k ++ [css[k]] ++ css.drop (k + 1) := by simp
      have hpre : pre = (css.take k).flatten ∧ post = (css.drop (k + 1)).flatten := by
       have hlen : ((css.take k).flatten).length = k * ct.cells := by
        rw [kS (n := ct.cells) (fun i hi => ?_)]
        ·rw [List.length_take, Nat.min_eq_left (by omega)]
        ·simp at hi; simp only [List.getElem_take]; exact bC.length _ _ _ (hrep i (by omega) (by omega))
       have h3 : css.flatten = (css.take k).flatten ++ css[k] ++ (css.drop (k + 1)).flatten := by
        have h4 := congrArg List.flatten hsp
        simp only [List.flatten_append, List.flatten_cons, List.flatten_nil, List.append_nil] at h4
        exact h4
       rw [h3, List.append_assoc, List.append_assoc] at hf
       obtain ⟨q1, q2⟩ := List.append_inj hf (by rw [hlen, hpl])
       obtain ⟨q3, q4⟩ := List.append_inj q2 rfl
       exact ⟨q1.symm, q4.symm⟩
      rw [hpre.1, hpre.2, List.set_eq_take_append_cons_drop, if_pos (by omega)]
      simp
     ·by_cases hik : k = i
      ·subst hik; simp only [List.getElem_set_self]; exact hvr
      ·simp only [List.getElem_set_ne hik]; exact hrep i (by simpa using h1) (by simpa using h2)
    obtain ⟨cells', h1, h2⟩ := aNY hp ps vs (xs.set k x) _ ys r he (by rw [hstep]; exact hnew)
    refine ⟨cells', ?_, h2⟩
    rw [Instr.fill, hp k]
    have hcs : cells.size = (pre ++ css[k] ++ post).length := by rw [← hf, ← e]; simp
    have hcond : ¬ (v.cells.size ≠ ct.cells ∨ (k * ct.cells + v.cells.size > cells.size)) := by
     rw [← hpl, hsz, hcs]
     simp
     omega
    dsimp only
    rw [if_neg (by simpa using hcond), ← hpl]
    exact h1
   ·cases he
  ·cases he
end
end Go.Vc
namespace Go.Vc
open Go.RowKit
section
variable {P : Program} {T : Tab} {M : Perm} {w0 : World} {c : Ctx} {h : List Obj} {w : World}
theorem aUj : ∀ (t : Ty), t.okB = true → ∀ fs off, dX T fs off t = true → kT c w (kQ t) (cU t) ∧ (kQ t).length = t.flds.length ∧ (∀ i (h : i < (kQ t).length), ((kQ t)[i]).solid1 = true) ∧ (∀ i (h : i < (kQ t).length) (h' : i < t.flds.length), ((kQ t)[i]).nc1 = (t.flds[i]).cells) := by
 intro t
 induction t with
 | unit => intro _ _ _ _; exact ⟨rfl, rfl, fun i h => by simp [kQ] at h, fun i h => by simp [kQ] at h⟩
 | pair a r _ ih =>
  intro hok fs off hf
  cases fs with
  | nil => simp [dX] at hf
  | cons f fs =>
   simp only [Ty.okB, Bool.and_eq_true] at hok
   simp only [dX, Bool.and_eq_true] at hf
   obtain ⟨h1, h2, h3, h4⟩ := ih hok.2 fs _ hf.2
   have main : ∀ u : AV, kQ (.pair a r) = u :: kQ r → u.solid1 = true → u.nc1 = a.cells → aM c w u (cU a) → kT c w (kQ (.pair a r)) (cU (.pair a r)) ∧ (kQ (.pair a r)).length = (Ty.pair a r).flds.length ∧ (∀ i (h : i < (kQ (.pair a r)).length), ((kQ (.pair a r))[i]).solid1 = true) ∧ (∀ i (h : i < (kQ (.pair a r)).length) (h' : i < (Ty.pair a r).flds.length), ((kQ (.pair a r))[i]).nc1 = ((Ty.pair a r).flds[i]).cells) := fun u e q1 q2 q3 => by
    rw [e]
    refine ⟨⟨cU a, cU r, rfl, q3, h1⟩, by simp [Ty.flds, h2], fun i hi => ?_, fun i hi hi' => ?_⟩
    ·cases i with
     | zero => exact q1
     | succ i => exact h3 i (by simpa using hi)
    ·cases i with
     | zero => exact q2
     | succ i => exact h4 i (by simpa using hi) (by simpa [Ty.flds] using hi')
   cases a with
   | sl a => exact main .nilS rfl rfl rfl rfl
   | _ => exact main (.val _ (Ty.zero _)) rfl rfl rfl (fV w c.S _ hok.1)
 | _ => intro _ fs off hf; cases fs <;> simp [dX] at hf
theorem aUk (hT : kG P T) {t : TypeId} {ps : List (Nat × AV)} {vs : List (Nat × Value)} (hp : aBx c w ps vs) (hc : (aKP T t ps).1) :
  ∃ u, (Instr.build t vs.toArray).run P w = .ok u w ∧ aX c w (aKP T t ps).2 u := by
 unfold aKP at hc ⊢
 cases ht : T t with
 | none => simp [ht] at hc
 | some ct =>
  have hTy := hT _ _ ht
  obtain ⟨d, hd, hb⟩ := hTy.desc
  cases ct with
  | pair a r =>
   simp only [ht] at hc ⊢
   obtain ⟨hok, hpo⟩ := hc
   have hz := qT hTy hok w
   cases d <;> simp only [iB, Bool.false_eq_true] at hb
   rename_i fs
   obtain ⟨h1, h2, h3, h4⟩ := aUj (c := c) (w := w) (T := T) (.pair a r) hok fs.toList 0 hb
   have hzc : (lJ (.pair a r)).cells.toList = cU (.pair a r) := by simp [lJ, Ty.isAgg, Value.cells]
   have hplaces : ∃ places : Array (Nat × Nat), (fs.mapM (fun f => do pure (f.offset, ← sizeOf f.type)) : Sem _).run P w = .ok places w ∧ ∀ k t, (Ty.pair a r).flds[k]? = some t → places[k]? = some ((((Ty.pair a r).flds.take k).map Ty.cells).foldr (· + ·) 0, t.cells) := by
    have hlen := aJo hb
    refine ⟨(fs.toList.zipWith (fun f t => (f.offset, t.cells)) (Ty.pair a r).flds).toArray, ?_, fun k t hk => ?_⟩
    ·have key : ∀ (l : List Field) (ts : List Ty) (acc : Array (Nat × Nat)), l.length = ts.length → (∀ i (h : i < l.length) (h' : i < ts.length), T (l[i]).type = some ts[i]) →
       ((l.mapM (fun f => do pure (f.offset, ← sizeOf f.type)) : Sem (List (Nat × Nat)))).run P w = .ok (l.zipWith (fun f t => (f.offset, t.cells)) ts) w := by
      intro l
      induction l with
      | nil => intro ts acc hl _; cases ts <;> simp at hl ⊢
      | cons f l ih =>
       intro ts acc hl hty
       cases ts with
       | nil => simp at hl
       | cons t ts =>
        have ht0 := hty 0 (by simp) (by simp)
        simp only [List.getElem_cons_zero] at ht0
        have hsz := fH (hT _ _ ht0) w
        have := ih ts acc (by simpa using hl) (fun i hi hi' => by have := hty (i + 1) (by simpa using hi) (by simpa using hi'); simpa using this)
        simp only [List.mapM_cons, Sem.run_bind, hsz, Result.andThen_ok, Sem.run_pure, this, List.zipWith_cons_cons]
     rw [Array.mapM_eq_mapM_toList]
     have := key fs.toList (Ty.pair a r).flds #[] hlen (fun i hi hi' => by
      obtain ⟨f, q1, q2, q3⟩ := aBb (k := i) hb (List.getElem?_eq_getElem hi')
      rw [List.getElem?_eq_getElem hi] at q1
      simp at q1
      rw [Array.getElem_toList, q1]; exact q2)
     show ((fs.toList.mapM (fun f => do pure (f.offset, ← sizeOf f.type)) : Sem (List (Nat × Nat))) >>= fun l => pure l.toArray).run P w = _
     rw [Sem.run_bind, this]
     rfl
    ·obtain ⟨f, q1, q2, q3⟩ := aBb hb hk
     simp only [List.getElem?_toArray, List.getElem?_zipWith, hk, q1]
     simp [q3]
   obtain ⟨places, hpl, hpp⟩ := hplaces
   obtain ⟨cells', hf, hr⟩ := aJp (c := c) (w := w) (place := (places[·]?)) hpp ps vs (kQ (.pair a r)) (lJ (.pair a r)).cells hp hpo (by rw [hzc]; exact h1) h2 h3 h4
   refine ⟨.agg cells', ?_, hr, fun _ => ⟨_, rfl⟩, fun h => by cases h⟩
   simp only [Instr.build, Sem.run_bind, hz, Result.andThen_ok, bA hd, hpl, hf, Sem.run_pure]
  | _ => simp [ht] at hc
theorem aU9 (hT : kG P T) {t : TypeId} {ps : List (Nat × AV)} {vs : List (Nat × Value)} (hp : aBx c w ps vs) (hc : (aHK T t ps).1) :
  ∃ u, (Instr.build t vs.toArray).run P w = .ok u w ∧ aX c w (aHK T t ps).2 u := by
 unfold aHK at hc ⊢
 cases ht : T t with
 | none => simp [ht] at hc
 | some ct =>
  have hTy := hT _ _ ht
  obtain ⟨d, hd, hb⟩ := hTy.desc
  cases ct with
  | pair a r =>
   simp only [ht] at hc ⊢
   obtain ⟨hok, hpo⟩ := hc
   have hz := qT hTy hok w
   cases d <;> simp only [iB, Bool.false_eq_true] at hb
   rename_i fs
   obtain ⟨h1, h2, h3, h4⟩ := aP7 (c := c) (w := w) (T := T) (.pair a r) hok fs.toList 0 hb
   have hzc : (lJ (.pair a r)).cells.toList = cU (.pair a r) := by simp [lJ, Ty.isAgg, Value.cells]
   have hplaces : ∃ places : Array (Nat × Nat), (fs.mapM (fun f => do pure (f.offset, ← sizeOf f.type)) : Sem _).run P w = .ok places w ∧ ∀ k t, (Ty.pair a r).flds[k]? = some t → places[k]? = some ((((Ty.pair a r).flds.take k).map Ty.cells).foldr (· + ·) 0, t.cells) := by
    have hlen := aJo hb
    refine ⟨(fs.toList.zipWith (fun f t => (f.offset, t.cells)) (Ty.pair a r).flds).toArray, ?_, fun k t hk => ?_⟩
    ·have key : ∀ (l : List Field) (ts : List Ty) (acc : Array (Nat × Nat)), l.length = ts.length → (∀ i (h : i < l.length) (h' : i < ts.length), T (l[i]).type = some ts[i]) →
       ((l.mapM (fun f => do pure (f.offset, ← sizeOf f.type)) : Sem (List (Nat × Nat)))).run P w = .ok (l.zipWith (fun f t => (f.offset, t.cells)) ts) w := by
      intro l
      induction l with
      | nil => intro ts acc hl _; cases ts <;> simp at hl ⊢
      | cons f l ih =>
       intro ts acc hl hty
       cases ts with
       | nil => simp at hl
       | cons t ts =>
        have ht0 := hty 0 (by simp) (by simp)
        simp only [List.getElem_cons_zero] at ht0
        have hsz := fH (hT _ _ ht0) w
        have := ih ts acc (by simpa using hl) (fun i hi hi' => by have := hty (i + 1) (by simpa using hi) (by simpa using hi'); simpa using this)
        simp only [List.mapM_cons, Sem.run_bind, hsz, Result.andThen_ok, Sem.run_pure, this, List.zipWith_cons_cons]
     rw [Array.mapM_eq_mapM_toList]
     have := key fs.toList (Ty.pair a r).flds #[] hlen (fun i hi hi' => by
      obtain ⟨f, q1, q2, q3⟩ := aBb (k := i) hb (List.getElem?_eq_getElem hi')
      rw [List.getElem?_eq_getElem hi] at q1
      simp at q1
      rw [Array.getElem_toList, q1]; exact q2)
     show ((fs.toList.mapM (fun f => do pure (f.offset, ← sizeOf f.type)) : Sem (List (Nat × Nat))) >>= fun l => pure l.toArray).run P w = _
     rw [Sem.run_bind, this]
     rfl
    ·obtain ⟨f, q1, q2, q3⟩ := aBb hb hk
     simp only [List.getElem?_toArray, List.getElem?_zipWith, hk, q1]
     simp [q3]
   obtain ⟨places, hpl, hpp⟩ := hplaces
   obtain ⟨cells', hf, hr⟩ := aJp (c := c) (w := w) (place := (places[·]?)) hpp ps vs (xN (.pair a r)) (lJ (.pair a r)).cells hp hpo (by rw [hzc]; exact h1) h2 h3 h4
   refine ⟨.agg cells', ?_, aJq hr⟩
   simp only [Instr.build, Sem.run_bind, hz, Result.andThen_ok, bA hd, hpl, hf, Sem.run_pure]
  | unit =>
   simp only [ht] at hc ⊢
   subst hc
   cases hp
   have hz := qT hTy rfl w
   cases d <;> simp only [iB, Bool.false_eq_true] at hb
   rename_i fs
   have hfs : fs = #[] := by
    have := aJo hb
    simp [Ty.flds] at this
    exact this
   subst hfs
   refine ⟨.agg #[], ?_, ⟨rfl, fun _ => ⟨_, rfl⟩, fun h => by cases h⟩⟩
   simp [Instr.build, hz, bA hd, Result.andThen, Instr.fill, lJ, Ty.isAgg, cU, Value.cells]
  | expr =>
   simp only [ht] at hc ⊢
   have hz := qT hTy rfl w
   cases d <;> simp only [iB, Bool.false_eq_true] at hb
   rename_i fs
   unfold aTx at hb
   split at hb
   ·rename_i f0 f1 f2 hfs
    simp only [Bool.and_eq_true, decide_eq_true_eq] at hb
    obtain ⟨⟨⟨⟨⟨b1, b2⟩, b3⟩, b4⟩, b5⟩, b6⟩ := hb
    have efs : fs = #[f0, f1, f2] := by rw [← Array.toList_inj]; exact hfs
    have s0 := fH (hT _ _ b1) w
    have s1 := fH (hT _ _ b3) w
    have s2 := fH (hT _ _ b5) w
    have hpl : (fs.mapM (fun f => do pure (f.offset, ← sizeOf f.type)) : Sem _).run P w = .ok #[(0, 1), (1, 1), (2, 1)] w := by
     rw [efs, Array.mapM_eq_mapM_toList]
     show (([f0, f1, f2].mapM (fun f => do pure (f.offset, ← sizeOf f.type)) : Sem (List (Nat × Nat))) >>= fun l => pure l.toArray).run P w = _
     simp only [List.mapM_cons, List.mapM_nil, Sem.run_bind, s0, s1, s2, Result.andThen_ok, Sem.run_pure, b2, b4, b6]
     rfl
    have hzc : (lJ .expr).cells.toList = [.int .i64 0, .string ⟨#[]⟩, .slice none 0 0] := rfl
    obtain ⟨cells', hf, hr⟩ := aJp (c := c) (w := w) (place := ((#[(0, 1), (1, 1), (2, 1)] : Array (Nat × Nat))[·]?)) (ts := [.i .i64, .str, .sl .expr]) (fun k t hk => by
     match k, hk with
     | 0, hk => cases hk; rfl
     | 1, hk => cases hk; rfl
     | 2, hk => cases hk; rfl) ps vs [.val (.i .i64) 0, .val .str [], .nilS] (lJ .expr).cells hp hc (by
      rw [hzc]
      exact ⟨[_], [_, _], rfl, ⟨rfl, rfl, by decide, by decide⟩, [_], [_], rfl, ⟨⟨#[]⟩, rfl, rfl, Nat.zero_le _⟩, [_], [], rfl, rfl, rfl⟩) rfl (fun i hi => by
      match i, hi with
      | 0, _ => rfl
      | 1, _ => rfl
      | 2, _ => rfl) (fun i hi _ => by
      match i, hi with
      | 0, _ => rfl
      | 1, _ => rfl
      | 2, _ => rfl)
    refine ⟨.agg cells', ?_, aJq hr⟩
    simp only [Instr.build, Sem.run_bind, hz, Result.andThen_ok, bA hd, hpl, hf, Sem.run_pure]
   ·cases hb
  | arr n ct =>
   simp only [ht] at hc ⊢
   cases hs : aQI ct (List.replicate n ct.zero) ps with
   | none => simp [hs] at hc
   | some ys =>
    simp only [hs] at hc ⊢
    obtain ⟨e, hd', he, hpos, _⟩ := aCI hTy
    have hz := qT hTy hc w
    obtain ⟨cells', hf, hr⟩ := aNY (c := c) (w := w) (n := n) (place := fun i => some (i * ct.cells, ct.cells)) (fun _ => rfl) ps vs (List.replicate n ct.zero) (lJ (.arr n ct)).cells ys hp hs (by
     have := fV w c.S (.arr n ct) hc
     have e1 : (lJ (.arr n ct)).cells.toList = cU (.arr n ct) := by simp [lJ, Ty.isAgg, Value.cells]
     rw [e1]; exact this)
    refine ⟨.agg cells', ?_, ⟨hr, fun _ => ⟨_, rfl⟩, fun h => by cases h⟩⟩
    simp [Instr.build, hz, bA hd', fH (hT _ _ he), Result.andThen, hf]
  | _ => simp [ht] at hc
theorem wZ (zs : List Value) (n : Nat) (hz : 0 < zs.length) : ((Array.range (n * zs.length)).map (fun i => (zs.toArray)[i % zs.toArray.size]!)).toList = (List.replicate n zs).flatten := by
 simp only [Array.toList_map, Array.toList_range, List.size_toArray]
 induction n with
 | zero => simp
 | succ n ih =>
  rw [Nat.add_mul, Nat.one_mul, List.range_add, List.map_append, ih, List.replicate_succ']
  simp only [List.flatten_append, List.flatten_cons, List.flatten_nil, List.append_nil]
  congr 1
  apply List.ext_getElem
  ·simp
  ·intro i h1 h2
   simp only [List.length_map, List.length_range] at h1
   simp [Nat.mod_eq_of_lt, h1, Nat.add_comm]
theorem Good.alloc (hg : Good M w0 c h w) (o : Go.Obj) : Good M w0 (c.upto w.heap.size (w.heap.size + 1)) h (w.alloc o) ∧ dQ c w (c.upto w.heap.size (w.heap.size + 1)) (w.alloc o) := by
 have hk : iG nothing w (w.alloc o) := iG.alloc nothing w o
 have h1 := hg.call hk
 have h2 := tR hg hk
 have e : (w.alloc o).heap.size = w.heap.size + 1 := by simp
 rw [e] at h1 h2
 exact ⟨h1, h2⟩
theorem aPw (hT : kG P T) (hg : Good M w0 c h w) {t : TypeId} {n : Nat} {ps : List (Nat × AV)} {vs : List (Nat × Value)} (hp : aBx c w ps vs) (hc : (yU T t n ps).1) :
  ∃ u w' c', (Instr.buildSlice t n vs.toArray).run P w = .ok u w' ∧ aGO P M w0 h c w (yU T t n ps).2 u w' c' := by
 unfold yU at hc ⊢
 cases ht : T t with
 | none => simp [ht] at hc
 | some ct =>
  cases ct with
  | sl ct =>
   simp only [ht] at hc ⊢
   cases hs : aQI ct (List.replicate n ct.zero) ps with
   | none => simp [hs] at hc
   | some ys =>
    simp only [hs] at hc ⊢
    obtain ⟨hok, hn1, hn2⟩ := hc
    obtain ⟨e, hd, he, hpos⟩ := fS (hT _ _ ht)
    have hTe := hT _ _ he
    have hz := qT hTe hok w
    have hzc : (lJ ct).cells.toList = cU ct := by
     have := (aGI w c.S ct hok).cells
     unfold lJ
     split
     ·simp [Value.cells]
     ·have h1 : (cU ct).length = 1 := by
       rw [bC.length _ _ _ (fV w c.S ct hok)]
       rename_i ha
       cases ct <;> simp_all [Ty.isAgg, Ty.cells]
      match hzz : cU ct, h1 with
      | [v], _ =>
       have hone := bC.one ct _ _ (fV w c.S ct hok) v (by rw [hzz]; simp)
       simp only [List.headD_cons]
       cases v <;> first | rfl | exact hone.elim
    have hzl : (cU ct).length = ct.cells := bC.length _ _ _ (fV w c.S ct hok)
    have hza : (lJ ct).cells = (cU ct).toArray := by rw [← hzc]
    have hcells : ((Array.range (n * ct.cells)).map (fun i => (cU ct).toArray[i % (cU ct).toArray.size]!)).toList = (List.replicate n (cU ct)).flatten := by
     rw [← hzl]; exact wZ _ n (by omega)
    obtain ⟨cells', hf, hr⟩ := aNY (c := c) (w := w) (n := n) (place := fun i => some (i * ct.cells, ct.cells)) (fun _ => rfl) ps vs (List.replicate n ct.zero) ((Array.range (n * ct.cells)).map (fun i => (cU ct).toArray[i % (cU ct).toArray.size]!)) ys hp hs (by
     rw [hcells]
     exact fV w c.S (.arr n ct) hok)
    obtain ⟨g1, g2⟩ := hg.alloc (.cells cells' e (0, 0))
    refine ⟨.slice (some ⟨w.heap.size, 0, none⟩) n n, w.alloc (.cells cells' e (0, 0)), _, ?_, g2, ⟨rfl, rfl⟩, g1, iG.alloc nothing w _, fun b hb => hb.imp id And.left, ?_⟩
    ·have hle : ¬ (n * ct.cells > 2 ^ 24) := by omega
     by_cases h0 : n * ct.cells = 0
     ·have hn0 : n = 0 := by
       rcases Nat.mul_eq_zero.1 h0 with h | h
       ·exact h
       ·omega
      subst hn0
      have e0 : (Array.range (0 * ct.cells)).map (fun i => (cU ct).toArray[i % (cU ct).toArray.size]!) = #[] := by simp
      rw [e0] at hf
      have hle : ¬ (0 * ct.cells > 2 ^ 24) := by omega
      have e1 : (Array.range (0 * ct.cells)).map (fun x => (#[] : Array Value)[x % (#[] : Array Value).size]!) = #[] := by simp
      simp only [Instr.buildSlice, Sem.run_bind, bA hd, Result.andThen_ok, fH hTe, hle, if_false, Nat.zero_mul, if_true, Sem.run_ite, Sem.run_pure]
      simp only [Nat.zero_mul] at e1
      rw [e1, hf]
      rfl
     ·rw [← hza] at hf
      simp only [Instr.buildSlice, Sem.run_bind, bA hd, Result.andThen_ok, fH hTe, hle, if_false, h0, hz, Sem.run_ite, Sem.run_pure, hf]
      rfl
    ·obtain ⟨hyn, css, hcs, hl, hrep⟩ := hr
     refine ⟨⟨some ⟨w.heap.size, 0, none⟩, n, rfl, hyn, Nat.le_refl _, hn2, .inr ⟨w.heap.size, 0, rfl, .inr ⟨Nat.le_refl _, Nat.lt_succ_self _⟩, fun i hi => ?_⟩⟩, (fun h => by cases h), (fun _ cs => by simp)⟩
     refine ⟨css[i], bC.keep g2.le.S g2.same _ _ _ (hrep i hi (by omega)), ?_⟩
     obtain ⟨pre, post, hf', hpl⟩ := nG (t := ct) (css := css) (fun j hj => bC.length _ _ _ (hrep j (by omega) hj)) i (by omega)
     rw [Nat.zero_add, ← hpl]
     refine sR (cells := cells') (e := e) (fz := (0, 0)) ?_ (hcs.trans hf')
     show (w.heap.push _)[w.heap.size]? = _
     rw [Array.getElem?_push_size]
  | _ => simp [ht] at hc
theorem aKT {mx : Bool} {x y : AV} {v u : Value} (hv : aX c w x v) (hu : aX c w y u) (hc : (mm2 mx x y).1) :
  ∃ r, ((if mx then Builtin.max2 v u else Builtin.min2 v u)).run P w = .ok r w ∧ aX c w (mm2 mx x y).2 r := by
 cases x with
 | val t1 a =>
  cases t1 with
  | i k =>
   cases y with
   | val t2 b =>
    cases t2 with
    | i k' =>
     obtain ⟨rfl, hk, ha⟩ := aGH hv
     obtain ⟨rfl, hk', hb⟩ := aGH hu
     simp only [mm2] at hc ⊢
     split at hc
     ·rename_i e
      subst e
      simp only [if_true]
      cases mx
      ·refine ⟨_, by simp only [Builtin.min2]; rfl, ?_⟩
       simp only [Bool.false_eq_true, if_false]
       rw [show (if b < a then b else a) = min a b from minI a b]
       refine xM hk ?_
       rcases minI_or a b with e | e <;> rw [e] <;> assumption
      ·refine ⟨_, by simp only [Builtin.max2]; rfl, ?_⟩
       simp only [if_true]
       rw [show (if b > a then b else a) = max a b from maxI a b]
       refine xM hk ?_
       rcases maxI_or a b with e | e <;> rw [e] <;> assumption
     ·exact hc.elim
    | _ => exact hc.elim
   | _ => exact hc.elim
  | u k =>
   cases y with
   | val t2 b =>
    cases t2 with
    | u k' =>
     obtain ⟨rfl, hk, ha⟩ := aH7 hv
     obtain ⟨rfl, hk', hb⟩ := aH7 hu
     simp only [mm2] at hc ⊢
     split at hc
     ·rename_i e
      subst e
      simp only [if_true]
      cases mx
      ·refine ⟨_, by simp only [Builtin.min2]; rfl, ?_⟩
       simp only [Bool.false_eq_true, if_false]
       rw [show (if (b : Int) < a then (b : Int) else a) = ((min a b : Nat) : Int) from minN a b]
       refine aGr hk ?_
       rcases minN_or a b with e | e <;> rw [e] <;> assumption
      ·refine ⟨_, by simp only [Builtin.max2]; rfl, ?_⟩
       simp only [if_true]
       rw [show (if (b : Int) > a then (b : Int) else a) = ((max a b : Nat) : Int) from maxN a b]
       refine aGr hk ?_
       rcases maxN_or a b with e | e <;> rw [e] <;> assumption
     ·exact hc.elim
    | _ => exact hc.elim
   | _ => exact hc.elim
  | _ => exact hc.elim
 | _ => exact hc.elim
where
 minI (a b : Int) : (if b < a then b else a) = min a b := by omega
 maxI (a b : Int) : (if b > a then b else a) = max a b := by omega
 minI_or (a b : Int) : min a b = a ∨ min a b = b := by omega
 maxI_or (a b : Int) : max a b = a ∨ max a b = b := by omega
 minN (a b : Nat) : (if (b : Int) < a then (b : Int) else a) = ((min a b : Nat) : Int) := by omega
 maxN (a b : Nat) : (if (b : Int) > a then (b : Int) else a) = ((max a b : Nat) : Int) := by omega
 minN_or (a b : Nat) : min a b = a ∨ min a b = b := by omega
 maxN_or (a b : Nat) : max a b = a ∨ max a b = b := by omega
theorem aTJ {t : TypeId} {x : AV} {v : Value} (hv : aX c w x v) : aX c w (aRF T t x) v := by
 cases x with
 | flat l =>
  simp only [aRF]
  split
  ·split
   ·rename_i ct _ x ha
    exact aX.ofV (aP8 hv ha)
   ·exact hv
  ·exact hv
 | _ => exact hv
end
end Go.Vc
namespace Go.Vc
open Go.RowKit
section
variable {P : Program} {T : Tab} {M : Perm} {w0 : World} {c : Ctx} {h : List Obj} {w : World}
theorem aQM {t : TypeId} {k : IntKind} (hTy : aB4 P T t (.u k)) : P.underlying t = some (.int k) := by
 obtain ⟨d, hd, hb⟩ := hTy.desc
 cases d <;> simp [iB] at hb
 obtain ⟨rfl, _⟩ := hb
 exact hd
noncomputable def aVa (T : Tab) (h : List Obj) (s d : TypeId) (x : AV) : Prop × AV :=
 match T d, x with
 | some (.sl (.u .u8)), .val .str b => (T s = some .str, .val (.sl (.u .u8)) b)
 | some .str, x => match T s with
  | some (.sl (.u .u8)) => match x with
   | .sub k sz off n => match h[k]? with
    | some (.box _ (.val (.arr m (.u .u8)) xs)) => (sz = 1 ∧ off + n ≤ m, .val .str ((xs.drop off).take n))
    | _ => (False, .junk)
   | x => match AV.as h (.sl (.u .u8)) x with
    | some b => (True, .val .str b)
    | none => (False, .junk)
  | _ => aKO T s d x
 | _, x => aKO T s d x
theorem aRL (hT : kG P T) (hg : Good M w0 c h w) {s d : TypeId} {b : List Nat} {v : Value} (hs : T s = some .str) (hd : T d = some (.sl (.u .u8))) (hv : aX c w (.val .str b) v) :
  ∃ u w' c', (convert s d v).run P w = .ok u w' ∧ aGO P M w0 h c w (.val (.sl (.u .u8)) b) u w' c' := by
 obtain ⟨st, rfl, rfl, hm⟩ := aL1 hv
 obtain ⟨e, hd', he, _⟩ := fS (hT _ _ hd)
 have hrun := run_bytes_of_string (P := P) w s d e st (xW (hT _ _ hs)) hd' (aQM (hT _ _ he))
 obtain ⟨w', hw'⟩ : ∃ w', w' = w.drew.alloc (.cells (bytesRow st (grownCap w st.size 0 e)) e ((bytesRow st (grownCap w st.size 0 e)).size, (bytesRow st (grownCap w st.size 0 e)).size + 1)) := ⟨_, rfl⟩
 rw [← hw'] at hrun
 have hheap : w'.heap = w.heap.push (.cells (bytesRow st (grownCap w st.size 0 e)) e ((bytesRow st (grownCap w st.size 0 e)).size, (bytesRow st (grownCap w st.size 0 e)).size + 1)) := by rw [hw']; rfl
 have hk : iG nothing w w' := ⟨by rw [hw']; rfl, by rw [hw']; rfl, by rw [hw']; rfl, by rw [hheap]; simp, fun b hb _ => by rw [hheap]; simp [Array.getElem?_push, Nat.ne_of_lt hb]⟩
 have g1 := hg.call hk
 have g2 := tR hg hk
 refine ⟨_, w', _, hrun, g2, ⟨rfl, rfl⟩, g1, hk, fun b hb => hb.imp id And.left, ⟨⟨_, _, _, rfl, ?_, grownCap_ge _ _ _ _, grownCap_le_maxLen _ _ _ _ hm, .inr ⟨w.heap.size, 0, rfl, .inr ⟨Nat.le_refl _, by rw [hheap]; simp⟩, fun i hi => ?_⟩⟩, (fun h => by cases h), (fun _ cs => by simp)⟩⟩
 ·exact pU st
 ·have hi' : i < st.data.size := by rw [pU] at hi; exact hi
  have hsz : st.data.size = st.size := rfl
  have hge := grownCap_ge w st.size 0 e
  refine ⟨[.int .u8 (st.data[i].toNat : Int)], ⟨?_, rfl, ?_⟩, ?_⟩
  ·simp [aU]
  ·have : (aU st)[i] = st.data[i].toNat := by simp [aU]
   rw [this]
   have := st.data[i].toNat_lt
   simp only [IntKind.max, IntKind.signed, IntKind.bits]
   simp
   omega
  ·have hc := sR (w := w') (b := w.heap.size) (cells := bytesRow st (grownCap w st.size 0 e)) (e := e) (fz := ((bytesRow st (grownCap w st.size 0 e)).size, (bytesRow st (grownCap w st.size 0 e)).size + 1)) (pre := (bytesRow st (grownCap w st.size 0 e)).toList.take i) (ds := [.int .u8 (st.data[i].toNat : Int)]) (post := (bytesRow st (grownCap w st.size 0 e)).toList.drop (i + 1)) (by rw [hheap]; simp) (by
    have hlt : i < (bytesRow st (grownCap w st.size 0 e)).toList.length := by simp [bytesRow]; omega
    have hg : (bytesRow st (grownCap w st.size 0 e)).toList[i] = .int .u8 (st.data[i].toNat : Int) := by
     simp only [bytesRow, Array.toList_append, Array.toList_map, Array.toList_replicate]
     rw [List.getElem_append_left (by simpa using hi')]
     simp
    rw [← hg, List.append_assoc, List.singleton_append, List.getElem_cons_drop, List.take_append_drop])
   have hl : ((bytesRow st (grownCap w st.size 0 e)).toList.take i).length = i := by simp [bytesRow]; omega
   rw [hl] at hc
   simpa [Ty.cells] using hc
theorem aEz {s d e : TypeId} {b : List Nat} {bl off cap : Nat} (hs' : P.underlying s = some (.slice e)) (he' : P.underlying e = some (.int .u8)) (hd' : P.underlying d = some .string) (hm : b.length ≤ maxLen)
  (hb : ∀ i (hi : i < b.length), b[i] < 256 ∧ w.cell? ⟨bl, off + i, none⟩ = some (.int .u8 (b[i] : Int))) :
  ∃ u, (convert s d (.slice (some ⟨bl, off, none⟩) b.length cap)).run P w = .ok u w ∧ aX c w (.val .str b) u := by
 have hl : (b.map UInt8.ofNat).length = b.length := by simp
 have hback : ∀ i (hi : i < b.length), (UInt8.ofNat b[i]).toNat = b[i] := fun i hi => by
  have := (hb i hi).1
  simp [UInt8.toNat_ofNat']
  omega
 have hrun := run_convert_bytes_back (P := P) w s d e ⟨bl, off, none⟩ cap (b.map UInt8.ofNat) hs' he' hd' (fun j hj => by
  have hj' : j < b.length := by simpa using hj
  have h2 := (hb j hj').2
  rw [List.getElem_map, hback j hj']
  simp only [Addr.add]
  split
  ·rename_i h0; subst h0; simpa using h2
  ·exact h2)
 rw [hl] at hrun
 refine ⟨_, hrun, ⟨⟨⟨(b.map UInt8.ofNat).toArray⟩, rfl, ?_, ?_⟩, (fun h => by cases h), (fun _ cs => by simp)⟩⟩
 ·apply List.ext_getElem
  ·simp [aU]
  ·intro i h1 h2
   have := hback i h2
   simpa [aU] using this
 ·show (b.map UInt8.ofNat).toArray.size ≤ maxLen
  simp
  exact hm
theorem aQN (hT : kG P T) (hg : Good M w0 c h w) {s d : TypeId} {k off n m q : Nat} {xs : List Nat} {v : Value} (hs : T s = some (.sl (.u .u8))) (hd : T d = some .str) (hv : aX c w (.sub k 1 off n) v)
  (ho : h[k]? = some (.box q (.val (.arr m (.u .u8)) xs))) (hle : off + n ≤ m) :
  ∃ u, (convert s d v).run P w = .ok u w ∧ aX c w (.val .str ((xs.drop off).take n)) u := by
 obtain ⟨_, hn, b, cap, hb, rfl⟩ := aQJ hv
 obtain ⟨b', cells, e2, hhd, hheap, _, hcl⟩ := hg.objs k _ ho
 rw [hhd] at hb
 simp only [aW, Option.some.injEq] at hb
 subst hb
 obtain ⟨e, hs', he, _⟩ := fS (hT _ _ hs)
 obtain ⟨hlen, css, hcs, hcl2, hrep⟩ := hcl
 have hlen : xs.length = m := hlen
 have hl : ((xs.drop off).take n).length = n := by simp; omega
 have key := aEz (P := P) (w := w) (c := c) (b := (xs.drop off).take n) (bl := b') (off := off * 1) (cap := cap) hs' (aQM (hT _ _ he)) (xW (hT _ _ hd)) (by rw [hl]; exact hn) (fun i hi => by
  rw [hl] at hi
  have hx : off + i < xs.length := by omega
  have hx' : off + i < css.length := by omega
  obtain ⟨h1, _, h3⟩ := hrep (off + i) hx hx'
  have hg2 : ((xs.drop off).take n)[i]'(by rw [hl]; exact hi) = xs[off + i] := by simp
  rw [hg2]
  refine ⟨?_, ?_⟩
  ·simp only [IntKind.max, IntKind.signed, IntKind.bits] at h3
   simp at h3
   omega
  ·obtain ⟨pre, post, hf, hpl⟩ := nG (t := .u .u8) (css := css) (fun j hj => bC.length _ _ _ (hrep j (by omega) hj)) (off + i) hx'
   have hc := sR (w := w) (b := b') (cells := cells) (e := e2) (fz := (0, 0)) hheap (hcs.trans hf)
   have := hc 0 (.int .u8 (xs[off + i] : Int)) (by rw [h1]; rfl)
   rw [hpl] at this
   simpa [Ty.cells, Nat.mul_one] using this)
 rw [hl] at key
 exact key
theorem aPx (hT : kG P T) (hg : Good M w0 c h w) {s d : TypeId} {x : AV} {b : List Nat} {v : Value} (hs : T s = some (.sl (.u .u8))) (hd : T d = some .str) (hv : aX c w x v) (ha : AV.as h (.sl (.u .u8)) x = some b) :
  ∃ u, (convert s d v).run P w = .ok u w ∧ aX c w (.val .str b) u := by
 obtain ⟨a, len, cap, rfl, hlen, hle, hm, hor⟩ := aCH (c := ⟨aDw c h, c.hd, c.n, c.bl⟩) (aHP hg hv ha)
 obtain ⟨e, hs', he, _⟩ := fS (hT _ _ hs)
 have hd' := xW (hT _ _ hd)
 have he' := aQM (hT _ _ he)
 subst hlen
 rcases hor with rfl | ⟨bl, off, rfl, _, hcell⟩
 ·cases a with
  | none => exact ⟨_, run_convert_bytes_nil w s e hs' he' _ _ d hd', ⟨⟨ByteArray.empty, rfl, rfl, Nat.zero_le _⟩, (fun h => by cases h), (fun _ cs => by simp)⟩⟩
  | some a => exact ⟨_, run_convert_bytes_back w s d e a cap [] hs' he' hd' (fun j hj => by simp at hj), ⟨⟨⟨#[]⟩, rfl, rfl, Nat.zero_le _⟩, (fun h => by cases h), (fun _ cs => by simp)⟩⟩
 ·have hb : ∀ i (hi : i < b.length), b[i] < 256 ∧ w.cell? ⟨bl, off + i, none⟩ = some (.int .u8 (b[i] : Int)) := fun i hi => by
   obtain ⟨ds, ⟨rfl, _, hmx⟩, hc⟩ := hcell i hi
   refine ⟨?_, ?_⟩
   ·simp only [IntKind.max, IntKind.signed, IntKind.bits] at hmx
    simp at hmx
    omega
   ·have := hc 0 (.int .u8 (b[i] : Int)) rfl
    simpa [Ty.cells] using this
  exact aEz hs' he' hd' (Nat.le_trans hle hm) hb
end
end Go.Vc
namespace Go.Vc
open Go.RowKit
def Ty.key1 : Ty → Bool
 | .bool => true
 | .u _ => true
 | .i _ => true
 | .str => true
 | _ => false
def Ty.keyB : Ty → Bool
 | .arr _ t => t.key1
 | t => t.key1
def aB7 {β : Type} (c : Ty) : List (c.den × β) → c.den → Option β
 | [], _ => none
 | (k, v) :: r, x => if c.eqb x k = true then some v else aB7 c r x
def aB8 {β : Type} (c : Ty) : List (c.den × β) → c.den → β → List (c.den × β)
 | [], x, y => [(x, y)]
 | (k, v) :: r, x, y => if c.eqb x k = true then (k, y) :: r else (k, v) :: aB8 c r x y
theorem aJr {c : Ty} (h : c.key1 = true) : c.cmpB = true ∧ c.deep = 0 ∧ c.isAgg = false ∧ c.cells = 1 := by
 cases c <;> simp_all [Ty.key1, Ty.cmpB, Ty.deep, Ty.isAgg, Ty.cells]
theorem aRM {c : Ty} (h : c.keyB = true) : c.cmpB = true ∧ c.deep ≤ 100 := by
 cases c <;> first | (simp_all [Ty.keyB, Ty.key1, Ty.cmpB, Ty.deep]; done) | skip
 rename_i n t
 have := aJr (c := t) h
 simp [Ty.cmpB, Ty.deep, this.1, this.2.1]
theorem aTK {w w' : World} {S S' : Nat → Prop} : ∀ {c : Ty} {x y : c.den} {v u : Value}, c.key1 = true → bC w S c x [v] → bC w' S' c y [u] → (c.eqb x y = true ↔ v = u)
 | .bool, x, y, v, u, _, hx, hy => by
  simp only [bC, List.cons.injEq, and_true] at hx hy; subst hx; subst hy; simp [Ty.eqb]
 | .u k, x, y, v, u, _, hx, hy => by
  obtain ⟨hx, _⟩ := hx
  obtain ⟨hy, _⟩ := hy
  simp only [List.cons.injEq, and_true] at hx hy; subst hx; subst hy; simp [Ty.eqb, Int.natCast_inj]
 | .i k, x, y, v, u, _, hx, hy => by
  obtain ⟨hx, _⟩ := hx
  obtain ⟨hy, _⟩ := hy
  simp only [List.cons.injEq, and_true] at hx hy; subst hx; subst hy; simp [Ty.eqb]
 | .str, x, y, v, u, _, hx, hy => by
  obtain ⟨s, hx, e1, _⟩ := hx
  obtain ⟨t, hy, e2, _⟩ := hy
  simp only [List.cons.injEq, and_true] at hx hy
  subst hx; subst hy; subst e1; subst e2
  simp only [Ty.eqb, decide_eq_true_eq, Value.string.injEq]
  exact ⟨aNP, fun h => by rw [h]⟩
theorem aNZ {w : World} {S : Nat → Prop} {c : Ty} {x : c.den} {cs : List Value} (h1 : c.cells = 1) (h : bC w S c x cs) : ∃ v, cs = [v] := by
 have hl := (bC.length _ _ _ h).trans h1
 match cs, hl with
 | [v], _ => exact ⟨v, rfl⟩
theorem aTL {t : Ty} {w w' : World} {S S' : Nat → Prop} (ht : t.key1 = true) : ∀ (X Y : List t.den) (css css' : List (List Value)), css.length = X.length → css'.length = Y.length → X.length = Y.length →
  (∀ i (h : i < X.length) (h' : i < css.length), bC w S t X[i] css[i]) → (∀ i (h : i < Y.length) (h' : i < css'.length), bC w' S' t Y[i] css'[i]) → ((List.zipWith t.eqb X Y).all id = true ↔ css.flatten = css'.flatten)
 | [], [], [], [], _, _, _, _, _ => by simp
 | x :: X, y :: Y, a :: css, b :: css', h1, h2, h3, hx, hy => by
  have r0 := hx 0 (by simp) (by simp)
  have r0' := hy 0 (by simp) (by simp)
  simp only [List.getElem_cons_zero] at r0 r0'
  obtain ⟨v, rfl⟩ := aNZ (aJr ht).2.2.2 r0
  obtain ⟨u, rfl⟩ := aNZ (aJr ht).2.2.2 r0'
  have rec_ := aTL ht X Y css css' (by simpa using h1) (by simpa using h2) (by simpa using h3) (fun i h h' => by have := hx (i + 1) (by simpa using h) (by simpa using h'); simpa using this) (fun i h h' => by have := hy (i + 1) (by simpa using h) (by simpa using h'); simpa using this)
  simp only [List.zipWith_cons_cons, List.all_cons, id, Bool.and_eq_true, rec_, aTK ht r0 r0', List.flatten_cons, List.cons_append, List.nil_append, List.cons.injEq]
theorem aVb {w w' : World} {S S' : Nat → Prop} {c : Ty} {x y : c.den} {v u : Value} (hc : c.keyB = true) (hx : dB w S c x v) (hy : dB w' S' c y u) : c.eqb x y = true ↔ v = u := by
 unfold dB at hx hy
 cases c <;> first | (simp [Ty.keyB, Ty.key1] at hc; done) | skip
 case arr n t =>
  simp only [Ty.isAgg, if_true] at hx hy
  obtain ⟨⟨cs⟩, rfl, hx⟩ := hx
  obtain ⟨⟨ds⟩, rfl, hy⟩ := hy
  obtain ⟨h1, css, h2, h3, h4⟩ := hx
  obtain ⟨h1', css', h2', h3', h4'⟩ := hy
  simp only at h2 h2'
  have := aTL (t := t) hc x y css css' h3 h3' (h1.trans h1'.symm) (fun i h h' => h4 i h h') (fun i h h' => h4' i h h')
  simp only [Ty.eqb, this]
  subst h2; subst h2'
  simp
 all_goals (simp only [Ty.isAgg, Bool.false_eq_true, if_false] at hx hy; exact aTK hc hx hy)
section
variable {P : Program} {T : Tab}
theorem aVc (em : Bool) (n : Nat) {t : TypeId} {c : Ty} (hT : aB4 P T t c) (hc : c.key1 = true) (v : Value) (w : World) : (Instr.checkKey em (n + 1) t v).run P w = .ok () w := by
 obtain ⟨d, hd, hb⟩ := hT.desc
 unfold Instr.checkKey
 simp only [Sem.run_bind, bA hd, Result.andThen_ok]
 cases c <;> first | (simp [Ty.key1] at hc; done) | skip
 all_goals (cases d <;> first | (simp [iB] at hb; done) | skip)
 all_goals (cases v <;> rfl)
def xO (em : Bool) (d : Nat) (e : TypeId) (n : Nat) (xs : Array Value) : List Nat → Sem Unit
 | [] => pure ()
 | i :: r => do
  let a ← part e xs (i * n)
  Instr.checkKey em d e a
  xO em d e n xs r
theorem aMP (em : Bool) (d : Nat) (t e : TypeId) (len n : Nat) (xs : Array Value) (w : World) (ht : P.underlying t = some (.array len e)) (hn : ∀ w, (sizeOf e).run P w = .ok n w) :
  (Instr.checkKey em (d + 1) t (.agg xs)).run P w = (xO em d e n xs (List.range' 0 len)).run P w := by
 simp only [Instr.checkKey, Sem.run_bind, bA ht, Result.andThen_ok]
 simp only [Std.Legacy.Range.forIn_eq_forIn_range', Std.Legacy.Range.size]
 simp only [Nat.sub_zero, Nat.add_sub_cancel, Nat.div_one]
 generalize List.range' 0 len = is
 clear ht
 induction is generalizing w with
 | nil => simp [xO]
 | cons i r ih =>
  simp only [List.forIn_cons, xO, Sem.run_bind, hn, Result.andThen_ok]
  generalize (part e xs (i * n)).run P w = r1
  cases r1 with
  | ok a w1 =>
   simp only [Result.andThen_ok]
   generalize (Instr.checkKey em d e a).run P w1 = r2
   cases r2 with
   | ok b w2 => simp only [Result.andThen_ok, Sem.run_pure]; exact ih w2
   | halt x w2 => simp [Result.andThen]
  | halt x w1 => simp [Result.andThen]
theorem aGQ (em : Bool) (d : Nat) {w : World} {S : Nat → Prop} {e : TypeId} {t : Ty} (hT : aB4 P T e t) (ht : t.key1 = true) {xs : Array Value} : ∀ (k i : Nat) (X : List t.den) (pre : List Value) (css : List (List Value)) (w' : World),
   X.length = k → css.length = k → (∀ j (h : j < X.length) (h' : j < css.length), bC w S t X[j] css[j]) → xs.toList = pre ++ css.flatten → pre.length = i * t.cells → (xO em (d + 1) e t.cells xs (List.range' i k)).run P w' = .ok () w'
 | 0, i, X, _, _, w', hX, _, _, _, _ => by simp [xO]
 | k + 1, i, X, pre, css, w', hX, hc, hr, hx, hp => by
  match X, css, hX, hc with
  | x :: X, c :: cs, hX, hc =>
   have r0 := hr 0 (by simp) (by simp)
   simp only [List.getElem_cons_zero] at r0
   obtain ⟨va, e1, q1⟩ := aCM hT (cs := xs) (pre := pre) (ds := c) (post := cs.flatten) (by rw [hx]; simp) r0 w'
   rw [hp] at e1
   have l1 := bC.length _ _ _ r0
   have rec_ := aGQ em d hT ht (xs := xs) k (i + 1) X (pre ++ c) cs w' (by simpa using hX) (by simpa using hc)
    (fun j h h' => by have := hr (j + 1) (by simpa using h) (by simpa using h'); simpa using this) (by rw [hx]; simp) (by simp [hp, l1, Nat.add_mul])
   simp only [List.range'_succ, xO, Sem.run_bind, e1, Result.andThen_ok, aVc em d hT ht, rec_]
theorem aIa (em : Bool) (n : Nat) (hT : kG P T) {t : TypeId} {c : Ty} (ht : T t = some c) (hc : c.keyB = true) {w : World} {S : Nat → Prop} {x : c.den} {v : Value} (hx : dB w S c x v) (w' : World) : (Instr.checkKey em (n + 2) t v).run P w' = .ok () w' := by
 cases c <;> first | (simp [Ty.keyB, Ty.key1] at hc; done) | exact aVc em (n + 1) (hT _ _ ht) hc v w' | skip
 rename_i m q
 obtain ⟨d, hd, hb⟩ := (hT _ _ ht).desc
 cases d <;> simp [iB] at hb
 rename_i len e
 obtain ⟨⟨⟨rfl, hb2⟩, hb3⟩, hb4⟩ := hb
 unfold dB at hx
 simp only [Ty.isAgg, if_true] at hx
 obtain ⟨cs, rfl, hx⟩ := hx
 obtain ⟨h1, css, h2, h3, h4⟩ := hx
 rw [aMP em (n + 1) t e m q.cells cs w' hd (fH (hT _ _ hb2))]
 exact aGQ em n (hT _ _ hb2) hc m 0 x [] css w' h1 (h3.trans h1) (fun j h h' => h4 j h h') (by simpa using h2) (by simp)
def aEA (c : Ty) {β : Type} (x : c.den) : List (c.den × β) → List MapEntry → Nat → Option (Nat × Value)
 | (k, _) :: m, e :: es, i => if c.eqb x k = true then some (i, e.val) else aEA c x m es (i + 1)
 | _, _, _ => none
theorem aKU {c : Ty} {β : Type} {w : World} {S : Nat → Prop} {x : c.den} : ∀ (m : List (c.den × β)) (es : List MapEntry) (i : Nat), es.length = m.length →
  match aB7 c m x with
  | some y => ∃ j e k, aEA c x m es i = some (i + j, e.val) ∧ es[j]? = some e ∧ m[j]? = some (k, y) ∧ c.eqb x k = true ∧ ∀ y', aB8 c m x y' = m.set j (k, y')
  | none => aEA c x m es i = none ∧ ∀ y', aB8 c m x y' = m ++ [(x, y')]
 | [], [], i, _ => by simp [aB7, aEA, aB8]
 | (k, y) :: m, e :: es, i, hl => by
  have rec_ := aKU (w := w) (S := S) (x := x) m es (i + 1) (by simpa using hl)
  simp only [aB7, aEA, aB8]
  by_cases hq : c.eqb x k = true
  ·simp only [hq, if_true]
   exact ⟨0, e, k, rfl, rfl, rfl, hq, fun y' => rfl⟩
  ·simp only [hq, if_false]
   split at rec_
   ·rename_i y1 hy
    obtain ⟨j, e1, k1, r1, r2, r3, r4, r5⟩ := rec_
    simp only [hy]
    exact ⟨j + 1, e1, k1, by simp [hq, r1]; omega, by simpa using r2, by simpa using r3, r4, fun y' => by simp [hq, r5]⟩
   ·rename_i hy
    simp only [hy]
    exact ⟨by simp [hq, rec_.1], fun y' => by simp [hq, rec_.2]⟩
theorem aGR (hT : kG P T) {t : TypeId} {c : Ty} (ht : T t = some c) (hc : c.keyB = true) {β : Type} {w : World} {S : Nat → Prop} {x : c.den} {v : Value} (hx : dB w S c x v) (w' : World) : ∀ (m : List (c.den × β)) (es : List MapEntry) (i : Nat), es.length = m.length →
  (∀ j (h : j < m.length) (h' : j < es.length), dB w S c m[j].1 es[j].key) → (Instr.findAsking t v es i).run P w' = .ok (aEA c x m es i) w'
 | [], [], i, _, _ => by simp [Instr.findAsking, aEA]
 | (k, y) :: m, e :: es, i, hl, hr => by
  have h0 := hr 0 (by simp) (by simp)
  simp only [List.getElem_cons_zero] at h0
  have hq := aE9 (P := P) hT w' ht (aRM hc).1 (aRM hc).2 hx h0
  have rec_ := aGR hT ht hc hx w' m es (i + 1) (by simpa using hl) (fun j h h' => by have := hr (j + 1) (by simpa using h) (by simpa using h'); simpa using this)
  simp only [Instr.findAsking, Sem.run_bind, hq, Result.andThen_ok, aEA, Sem.run_ite, rec_, Sem.run_pure]
  split <;> rfl
theorem aL5 {t : TypeId} {c : Ty} (hT : aB4 P T t c) (hc : c.key1 = true) {d : TypeDesc} (hd : P.underlying t = some d) {β : Type} {w : World} {S : Nat → Prop} {x : c.den} {v : Value} (hx : dB w S c x v) : ∀ (m : List (c.den × β)) (es : List MapEntry) (i : Nat), es.length = m.length →
  (∀ j (h : j < m.length) (h' : j < es.length), dB w S c m[j].1 es[j].key) → Instr.findNow d v es i = some (aEA c x m es i)
 | [], [], i, _, _ => by simp [Instr.findNow, aEA]
 | (k, y) :: m, e :: es, i, hl, hr => by
  have h0 := hr 0 (by simp) (by simp)
  simp only [List.getElem_cons_zero] at h0
  have rec_ := aL5 hT hc hd hx m es (i + 1) (by simpa using hl) (fun j h h' => by have := hr (j + 1) (by simpa using h) (by simpa using h'); simpa using this)
  have hsame : Instr.sameNow d v e.key = some (c.eqb x k) := by
   have he := aVb (c := c) (by cases c <;> simp_all [Ty.key1, Ty.keyB]) hx h0
   obtain ⟨d', hd', hb⟩ := hT.desc
   rw [hd] at hd'
   cases hd'
   unfold dB at hx h0
   cases c <;> first | (simp [Ty.key1] at hc; done) | skip
   all_goals (cases d <;> first | (simp [iB] at hb; done) | skip)
   all_goals simp only [Ty.isAgg, Bool.false_eq_true, if_false] at hx h0
   ·simp only [bC, List.cons.injEq, and_true] at hx h0
    rw [hx, h0]; rfl
   ·obtain ⟨hx, _⟩ := hx
    obtain ⟨h0, _⟩ := h0
    simp only [List.cons.injEq, and_true] at hx h0
    rw [hx, h0]
    simp only [Instr.sameNow, if_true, Ty.eqb, Option.some.injEq]
    rw [Bool.eq_iff_iff]; simp [Int.natCast_inj]
   ·obtain ⟨hx, _⟩ := hx
    obtain ⟨h0, _⟩ := h0
    simp only [List.cons.injEq, and_true] at hx h0
    rw [hx, h0]
    simp only [Instr.sameNow, if_true, Ty.eqb, Option.some.injEq]
    rw [Bool.eq_iff_iff]; simp
   ·obtain ⟨s, hx, e1, _⟩ := hx
    obtain ⟨u, h0, e2, _⟩ := h0
    simp only [List.cons.injEq, and_true] at hx h0
    rw [hx, h0]
    have : (s == u) = decide (aU s = aU u) := by
     rw [Bool.eq_iff_iff, Go.MapKept.bytes_beq, decide_eq_true_eq]
     exact ⟨fun h => by rw [h], aNP⟩
    simp only [Instr.sameNow, this, Ty.eqb, e1, e2]
  simp only [Instr.findNow, hsame, aEA]
  cases hq : c.eqb x k <;> simp [rec_]
theorem aJs (hT : kG P T) {t : TypeId} {c : Ty} (ht : T t = some c) (hc : c.keyB = true) {β : Type} {w : World} {S : Nat → Prop} {x : c.den} {v : Value} (hx : dB w S c x v) (w' : World) (m : List (c.den × β)) (es : List MapEntry) (hl : es.length = m.length)
  (hr : ∀ j (h : j < m.length) (h' : j < es.length), dB w S c m[j].1 es[j].key) : (Instr.findKey t v es).run P w' = .ok (aEA c x m es 0) w' := by
 obtain ⟨d, hd, hb⟩ := (hT _ _ ht).desc
 simp only [Instr.findKey, Sem.run_bind, bA hd, Result.andThen_ok]
 by_cases h1 : c.key1 = true
 ·rw [aL5 (hT _ _ ht) h1 hd hx m es 0 hl hr]; rfl
 ·have hn : Instr.findNow d v es 0 = none ∨ Instr.findNow d v es 0 = some (aEA c x m es 0) := by
   cases es with
   | nil =>
    cases m with
    | nil => right; rfl
    | cons _ _ => simp at hl
   | cons e es =>
    left
    cases c <;> first | (simp_all [Ty.keyB, Ty.key1]; done) | skip
    cases d <;> simp [iB] at hb
    simp [Instr.findNow, Instr.sameNow]
  rcases hn with h | h
  ·rw [h]; exact aGR hT ht hc hx w' m es 0 hl hr
  ·rw [h]; rfl
theorem aP9 {c : Ty} {x : c.den} {v : Value} {w : World} {S : Nat → Prop} (hc : c.key1 = true) (hx : bC w S c x [v]) (n : Nat) : Instr.sameBits n v v = true := by
 cases c <;> first | (simp [Ty.key1] at hc; done) | skip
 ·simp only [bC, List.cons.injEq, and_true] at hx; subst hx; simp [Instr.sameBits]
 ·obtain ⟨hx, _⟩ := hx; simp only [List.cons.injEq, and_true] at hx; subst hx; simp [Instr.sameBits]
 ·obtain ⟨hx, _⟩ := hx; simp only [List.cons.injEq, and_true] at hx; subst hx; simp [Instr.sameBits]
 ·obtain ⟨s, hx, _⟩ := hx; simp only [List.cons.injEq, and_true] at hx; subst hx
  simp only [Instr.sameBits]
  exact (Go.MapKept.bytes_beq _ _).2 rfl
theorem aUl {c : Ty} {x : c.den} {v : Value} {w : World} {S : Nat → Prop} (hc : c.keyB = true) (hx : dB w S c x v) (w' : World) : (Instr.keyThatStays v v).run P w' = .ok v w' := by
 have hs : Instr.sameBits 10000 v v = true := by
  unfold dB at hx
  cases c <;> first | (simp [Ty.keyB, Ty.key1] at hc; done) | skip
  case arr n t =>
   simp only [Ty.isAgg, if_true] at hx
   obtain ⟨⟨cs⟩, rfl, hx⟩ := hx
   obtain ⟨h1, css, h2, h3, h4⟩ := hx
   simp only at h2
   subst h2
   simp only [Instr.sameBits, beq_self_eq_true, Bool.true_and, List.all_eq_true]
   have hall : ∀ v ∈ css.flatten, Instr.sameBits 9999 v v = true := fun v hv => by
    obtain ⟨l, hl, hv⟩ := List.mem_flatten.1 hv
    obtain ⟨i, hi, rfl⟩ := List.mem_iff_getElem.1 hl
    have := h4 i (by omega) hi
    obtain ⟨u, hu⟩ := aNZ (aJr (c := t) hc).2.2.2 this
    rw [hu] at hv this
    simp at hv
    subst hv
    exact aP9 (c := t) hc this 9999
   intro p hp
   have : p.1 = p.2 ∧ p.1 ∈ css.flatten := by
    obtain ⟨i, hi, rfl⟩ := List.mem_iff_getElem.1 hp
    simp
   obtain ⟨a, b⟩ := p
   obtain ⟨e, hm⟩ := this
   simp only at e hm ⊢
   subst e
   exact hall a hm
  all_goals (simp only [Ty.isAgg, Bool.false_eq_true, if_false] at hx; exact aP9 (by simpa [Ty.keyB] using hc) hx 10000)
 simp [Instr.keyThatStays, hs]
end
end Go.Vc
namespace Go.Vc
open Go.RowKit
def aVd (h : List Obj) : AV → Option Nat
 | .ptr i [] => match h[i]? with
  | some (.box _ _) => some i
  | _ => none
 | _ => none
def allTags (h : List Obj) : List AV → Option (List Nat)
 | [] => some []
 | v :: r => match aVd h v, allTags h r with
  | some i, some l => some (i :: l)
  | _, _ => none
def evA (G : Nat → AV) (env : List (Nat × AV)) : Operand → AV
 | .tmp t => look env t
 | .const v => aJi v
 | .global g => G g
 | .func f => .fn f [] []
def mV : Operand → Bool
 | .const (.func _ _ _) => false
 | .const v => aSJ v
 | _ => true
theorem aCN {c : Ctx} {w : World} {G : Nat → AV} {env : List (Nat × AV)} {a : Act} (he : aGq c w env a.tmps) (hG : pJ G c.S w) {x : Operand} (hx : mV x = true) : aX c w (evA G env x) (a.eval x) := by
 cases x with
 | tmp t => exact he t
 | const v =>
  refine aUV ?_ ?_
  ·cases v <;> first | exact hx | (simp [mV] at hx)
  ·intro f p q e; subst e; simp [mV] at hx
 | global g =>
  exact (hG g).keep (c := ⟨c.S, fun _ => Go.undef, 0, fun _ _ => False⟩) (c' := c) ⟨fun _ h => h, Nat.zero_le _, fun i hi => absurd hi (Nat.not_lt_zero i)⟩ (.refl _ _)
 | func f => exact ⟨⟨(fun i hi => by cases hi), (fun i hi => by cases hi), rfl⟩, (fun h => by cases h), (fun _ cs => by simp [Act.eval])⟩
def aKV (i : Nat) : AV → Prop × AV
 | .tup vs => (i < vs.length, vs.getD i .junk)
 | _ => (False, .junk)
def aIF : AV → Prop × AV
 | .ptr i p => (True, .ptr i p)
 | .roa t x => (True, .roa t x)
 | .fn f l1 l2 => (True, .fn f l1 l2)
 | _ => (False, .junk)
def aIG : List AV → Option ((t : Ty) × t.den)
 | [] => some ⟨.unit, ()⟩
 | .roa t x :: r => match aIG r with
  | some ⟨u, y⟩ => some ⟨.pair (.rp t) u, (x, y)⟩
  | none => none
 | _ => none
def aIH (h : List Obj) (f : FuncId) (first caps : List AV) : Prop × AV :=
 match allTags h first, allTags h caps with
 | some l1, some l2 => (True, .fn f l1 l2)
 | some l1, none => match aIG caps with
  | some ⟨t, y⟩ => (l1 = [], .val (.clo f t) y)
  | none => (False, .junk)
 | _, _ => (False, .junk)
def aD8 (h : List Obj) (l : List Nat) : Bool := l.all fun i => match h[i]? with
 | some (.box _ _) => true
 | _ => false
def sF : Ty → Bool
 | .unit => true
 | .pair (.rp _) r => sF r
 | _ => false
def aJt (E : Env) (h : List Obj) (callee : Callee) (args : List AV) (argTypes : List TypeId) (ρ : Operand → AV) : Prop × AV :=
 match callee with
 | .builtin .len => match args, argTypes with
  | [x], [t] => aGL E.T h t x
  | _, _ => (False, .junk)
 | .builtin .min => aUY false args
 | .builtin .max => aUY true args
 | .value x => match ρ x with
  | .fn f [] l2 => if aD8 h l2 = true then aFb E.Γ h f (args ++ l2.map fun i => .ptr i []) else (False, .junk)
  | .val (.clo g t) y => if sF t = true then aFb E.Γ h g (args ++ yV t y) else (False, .junk)
  | _ => (False, .junk)
 | _ => (False, .junk)
def aVe (E : Env) (t : TypeId) (kc vc : Ty) : Prop := match E.mp t with
 | some (k, e) => E.T k = some kc ∧ E.T e = some vc
 | none => False
def aGS (E : Env) (h : List Obj) (t : TypeId) (m k : AV) (ok : Bool) : Prop × AV :=
 match m with
 | .mp i => match h[i]? with
  | some (.map kc vc l) => match AV.as (h.map fR) kc k with
   | some x => (kc.keyB = true ∧ vc.okB = true ∧ aVe E t kc vc, if ok then .tup [.val vc ((aB7 kc l x).getD vc.zero), .val .bool (aB7 kc l x).isSome] else .val vc ((aB7 kc l x).getD vc.zero))
   | none => (False, .junk)
  | _ => (False, .junk)
 | _ => (False, .junk)
def Ty.isNil : Ty → Bool
 | .nili => true
 | _ => false
def aRN (E : Env) (h : List Obj) (t : TypeId) (x : AV) : Prop × AV :=
 match E.T t with
 | some c => match AV.as (h.map fR) c x with
  | some d => (c.isNil = false, .val (.ifc t c) d)
  | none => (False, .junk)
 | none => (False, .junk)
def aGT (E : Env) (x : AV) (t : TypeId) (ok : Bool) : Prop × AV :=
 match E.T t with
 | some c => match x with
  | .val (.ifc k c') d => if k = t then (c.isNil = false, if ok then .tup [.val c' d, .val .bool true] else .val c' d) else (ok = true ∧ c.okB = true, .tup [.val c c.zero, .val .bool false])
  | .val .nili _ => (ok = true ∧ c.okB = true, .tup [.val c c.zero, .val .bool false])
  | _ => (False, .junk)
 | none => (False, .junk)
def aRO (T : Tab) (op : BinOp) (t : TypeId) (x : AV) : Prop × AV :=
 match x with
 | .val .nili _ => match op with
  | .eql => (T t = some .nili, .val .bool true)
  | .neq => (T t = some .nili, .val .bool false)
  | _ => (False, .junk)
 | _ => (False, .junk)
noncomputable def pv (E : Env) (h : List Obj) (ρ : Operand → AV) (o : Oper) : Prop × AV :=
 match o.op with
 | .move x => (True, aRF E.T o.type (ρ x))
 | .assign x => (True, aRF E.T o.type (ρ x))
 | .load t a => aGK E.T h t (ρ a)
 | .binOp op t x y _ => match y with
  | .const .nilIface => aRO E.T op t (ρ x)
  | y => aA9 E.T op t (ρ x) (ρ y)
 | .unOp op _ x => aSL op (ρ x)
 | .convert s d x => aVa E.T h s d (ρ x)
 | .fieldAddr s x k => wY E.T s (ρ x) k
 | .field s x k => aHI E.T s (ρ x) k
 | .indexAddr t x i => aJl E.T h t (ρ x) (ρ i)
 | .index t x i => aJm E.T t (ρ x) (ρ i)
 | .slice t x lo hi mx => aJn E.T h t (ρ x) (lo.map ρ) (hi.map ρ) (mx.map ρ)
 | .extract x i => aKV i (ρ x)
 | .build t ps => bif E.dz t then aKP E.T t (ps.toList.map fun p => (p.1, ρ p.2)) else aHK E.T t (ps.toList.map fun p => (p.1, ρ p.2))
 | .buildSlice t n ps => yU E.T t n (ps.toList.map fun p => (p.1, ρ p.2))
 | .makeFunc (.func f) first caps => aIH h f (first.toList.map ρ) (caps.toList.map ρ)
 | .nilCheck x => aIF (ρ x)
 | .lookup t m k ok => aGS E h t (ρ m) (ρ k) ok
 | .makeInterface t x => aRN E h t (ρ x)
 | .typeAssert x _ t ok => aGT E (ρ x) t ok
 | .call c => aJt E h c.callee (c.args.toList.map ρ) c.argTypes.toList ρ
 | .alloc t => match E.T t with
  | some ct => (ct.okB = true, .junk)
  | none => (False, .junk)
 | _ => (False, .junk)
section
variable {P : Program} {M : Perm} {w0 : World} {c : Ctx} {h : List Obj} {w : World}
theorem dB.shape {w : World} {S : Nat → Prop} {t : Ty} {x : t.den} {v : Value} (h : dB w S t x v) (hn : t ≠ .nili) : v ≠ .nilIface ∧ (t.isAgg = false → ∀ cs, v ≠ .agg cs) := by
 unfold dB at h
 split at h
 ·rename_i ha
  obtain ⟨cs, rfl, _⟩ := h
  exact ⟨by simp, fun h => by rw [ha] at h; cases h⟩
 ·rename_i ha
  cases t <;> first | (simp [Ty.isAgg] at ha; done) | skip
  case bool => simp only [bC] at h; simp at h; subst h; simp
  case u => simp only [bC] at h; simp at h; rw [h.1]; simp
  case i => simp only [bC] at h; simp at h; rw [h.1]; simp
  case str => obtain ⟨s, e, _⟩ := h; simp at e; subst e; simp
  case sl => obtain ⟨a, l, q, e, _⟩ := h; simp at e; subst e; simp
  case rp => obtain ⟨b, off, ds, e, _⟩ := h; simp at e; subst e; simp
  case clo => obtain ⟨vs, e, _⟩ := h; simp at e; subst e; simp
  case ifc => obtain ⟨u, ds, e, _⟩ := h; simp at e; subst e; simp
  case nili => exact absurd rfl hn
  case nilp => simp only [bC] at h; simp at h; subst h; simp
  case nilf => simp only [bC] at h; simp at h; subst h; simp
theorem aRP {op : BinOp} {t : TypeId} {v u : Value} {ox oy : Operand} (h1 : v ≠ .nilIface) (h2 : ∀ cs, v ≠ .agg cs) : (eqGuard op t ox oy v u).run P w = .ok () w := by
 cases op <;> first | rfl | skip
 all_goals (cases v <;> first | exact absurd rfl h1 | exact absurd rfl (h2 _) | rfl)
theorem aQa {T : Tab} {op : BinOp} {t : TypeId} {ct : Ty} (hTy : aB4 P T t ct) (hag : ct.isAgg = true) {xs : Array Value} {u : Value} {ox oy : Operand} : (eqGuard op t ox oy (.agg xs) u).run P w = .ok () w := by
 have hgd := hTy.guard hag
 cases u with
 | agg ys => exact run_eqGuard_agg w op t ox oy xs ys hgd
 | _ => cases op <;> rfl
theorem aVf {T : Tab} (hT : kG P T) {op : BinOp} {t : TypeId} {x y : AV} {v u : Value} {ox oy : Operand} (hv : aX c w x v) (hc : (aA9 T op t x y).1) : (eqGuard op t ox oy v u).run P w = .ok () w := by
 cases x with
 | val tx a =>
  have hsh := fun hn => (aX.toV hv).shape hn
  cases tx with
  | pair p q =>
   obtain ⟨xs, rfl⟩ := hv.2.1 rfl
   cases y with
   | val t2 b =>
    simp only [aA9] at hc
    by_cases e : t2 = .pair p q
    ·subst e
     simp only [dite_true] at hc
     cases op <;> simp only at hc <;> first | exact hc.elim | exact aQa (hT _ _ hc.1) rfl
    ·simp only [e, dite_false] at hc
   | _ => exact hc.elim
  | arr n q =>
   obtain ⟨xs, rfl⟩ := hv.2.1 rfl
   cases y with
   | val t2 b =>
    simp only [aA9] at hc
    by_cases e : t2 = .arr n q
    ·subst e
     simp only [dite_true] at hc
     cases op <;> simp only at hc <;> first | exact hc.elim | exact aQa (hT _ _ hc.1) rfl
    ·simp only [e, dite_false] at hc
   | _ => exact hc.elim
  | unit => exact hc.elim
  | expr => exact hc.elim
  | nili => exact hc.elim
  | ifc _ _ => exact hc.elim
  | _ => exact aRP (hsh (by simp)).1 ((hsh (by simp)).2 rfl)
 | _ => exact hc.elim
theorem aJu {ρ : Operand → AV} {a : Act} : ∀ {l : List (Nat × Operand)}, (∀ p ∈ l, aX c w (ρ p.2) (a.eval p.2)) → aBx c w (l.map fun p => (p.1, ρ p.2)) (l.map fun p => (p.1, a.eval p.2))
 | [], _ => .nil
 | p :: r, h => .cons (h p (by simp)) (aJu fun q hq => h q (by simp [hq]))
theorem aN0 {ρ : Operand → AV} {a : Act} {o : Option Operand} (h : ∀ x, o = some x → aX c w (ρ x) (a.eval x)) : aPv c w (o.map ρ) (o.map a.eval) := by
 cases o with
 | none => exact .none
 | some x => exact .some (h x rfl)
theorem aJv (hg : Good M w0 c h w) : ∀ {l : List AV} {vs : List Value} {is : List Nat}, allTags h l = some is → l.length = vs.length → (∀ i (h1 : i < l.length) (h2 : i < vs.length), aX c w l[i] vs[i]) → (∀ i ∈ is, i < c.n) ∧ vs = is.map c.hd
 | [], vs, is, ha, hl, _ => by
  simp [allTags] at ha; subst ha
  cases vs <;> simp at hl ⊢
 | v :: r, [], is, ha, hl, _ => by simp at hl
 | v :: r, u :: us, is, ha, hl, hv => by
  simp only [allTags] at ha
  split at ha
  ·rename_i i l h1 h2
   cases ha
   obtain ⟨q1, q3⟩ := aJv hg h2 (by simpa using hl) (fun i hi hi' => by have := hv (i + 1) (by simpa using hi) (by simpa using hi'); simpa using this)
   have h0 := hv 0 (by simp) (by simp)
   simp only [List.getElem_cons_zero] at h0
   unfold aVd at h1
   split at h1
   ·rename_i j
    split at h1
    ·rename_i bv ho
     cases h1
     obtain ⟨hj, b, hb, rfl⟩ := aFd h0
     obtain ⟨b', cells, e, hhd, _⟩ := hg.objs _ _ ho
     rw [hhd] at hb
     simp [aW] at hb
     subst hb
     refine ⟨fun k hk => ?_, ?_⟩
     ·rcases List.mem_cons.1 hk with rfl | hk
      ·exact hj
      ·exact q1 k hk
     ·rw [List.map_cons, ← q3, hhd]; rfl
    ·cases h1
   ·cases h1
  ·cases ha
theorem aXx {f : FuncId} {l1 l2 : List Nat} (h1 : ∀ i ∈ l1, i < c.n) (h2 : ∀ i ∈ l2, i < c.n) : aX c w (.fn f l1 l2) (.func (.func f) (l1.map c.hd).toArray (l2.map c.hd).toArray) :=
 ⟨⟨h1, h2, rfl⟩, (fun h => by cases h), (fun _ cs => by simp)⟩
theorem aWw {vs : List AV} {v : Value} (hv : aX c w (.tup vs) v) {i : Nat} (hi : i < vs.length) : ∃ u, (Instr.extract v i).run P w = .ok u w ∧ aX c w (vs.getD i .junk) u := by
 obtain ⟨xs, rfl, hl, hx⟩ := hv
 have hi' : i < xs.length := by omega
 refine ⟨xs[i], by simp [Instr.extract, hi'], ?_⟩
 rw [List.getD_eq_getElem?_getD, List.getElem?_eq_getElem hi]
 have := hx i hi hi'
 simp only [Option.getD_some]
 have hne : ∀ us, vs[i] ≠ .tup us := fun us e => by rw [e] at this; exact this.1.elim
 revert this hne
 generalize vs[i] = a
 generalize xs[i] = x
 intro this hne
 cases a <;> first | exact absurd rfl (hne _) | trivial | exact this | skip
 obtain ⟨h1, _, h3⟩ := this
 have h3 := h3 rfl
 simp only [aM] at h1
 cases x <;> simp [Value.cells] at h1 h3 <;> first | exact h1 | skip
end
end Go.Vc
