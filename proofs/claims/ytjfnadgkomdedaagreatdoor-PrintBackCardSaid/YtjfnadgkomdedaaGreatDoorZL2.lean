import Derived.Test.YtjfnadgkomdedaaGreatDoorZL1
import Derived.Laws.IdiomStrings
import Derived.Laws.BytesArg
import Derived.MapKept
set_option linter.unusedVariables false
set_option linter.unusedSimpArgs false
namespace Go.Vc
open Go.RowKit
section
variable {P : Program} {T : Tab} {M : Perm} {w0 : World} {c : Ctx} {h : List Obj} {w : World}
theorem vZ {ix : AV} {v : Value} {i : Int} (hv : aQ c w ix v) (hi : zP ix = some i) : ∃ k, v = .int k i := by
 cases ix with
 | val t x =>
  cases t with
  | i k => simp only [zP] at hi; cases hi; exact ⟨k, (aEY hv).1⟩
  | u k => simp only [zP] at hi; cases hi; exact ⟨k, (aEX hv).1⟩
  | _ => simp [zP] at hi
 | _ => simp [zP] at hi
theorem aBj {t : Ty} {xs : List t.den} {v : Value} (hv : cR w c.S (.sl t) xs v) : ∃ a len cap, v = .slice a len cap ∧ SlR w c.S (aT w c.S t) t.cells xs a len cap := by
 simp only [cR, Ty.isAgg, Bool.false_eq_true, if_false] at hv
 obtain ⟨a, len, cap, e, h⟩ := hv
 simp at e
 exact ⟨a, len, cap, e, h⟩
theorem yV {i : Nat} {v : Value} (hv : aQ c w (.own i) v) : i < c.n ∧ v = c.hd i := by
 obtain ⟨h1, _, h3⟩ := hv
 simp only [aH] at h1
 have h3 := h3 rfl
 refine ⟨h1.1, ?_⟩
 have := h1.2.1
 cases v <;> simp [Value.cells] at this h3 <;> first | exact this | skip
theorem aQm {t : Ty} {xs : List t.den} {v : Value} (hv : aQ c w (.full t xs) v) : ∃ a n, v = .slice a n n ∧ SlR w c.S (aT w c.S t) t.cells xs a n n := by
 obtain ⟨h1, _, h3⟩ := hv
 simp only [aH] at h1
 obtain ⟨a, n, e, h⟩ := h1
 have h3 := h3 rfl
 refine ⟨a, n, ?_, h⟩
 cases v <;> simp [Value.cells] at e h3 <;> first | (simp [e]; done) | skip
theorem eE {t : TypeId} {ct : Ty} (hTy : aAJ P T t (.sl ct)) : ∃ e, P.underlying t = some (.slice e) ∧ T e = some ct ∧ 0 < ct.cells := by
 obtain ⟨d, hd, hb⟩ := hTy.desc
 cases d <;> simp [fT] at hb
 exact ⟨_, hd, hb⟩
theorem aBk {t : TypeId} {n : Nat} {ct : Ty} (hTy : aAJ P T t (.arr n ct)) : ∃ e, P.underlying t = some (.array n e) ∧ T e = some ct ∧ 0 < ct.cells ∧ 1 < n ∧ n ≤ 1048576 := by
 obtain ⟨d, hd, hb⟩ := hTy.desc
 cases d <;> simp [fT] at hb
 obtain ⟨⟨⟨rfl, h1⟩, h2⟩, h3, h4⟩ := hb
 exact ⟨_, hd, h1, h2, h3, h4⟩
theorem vB {t : TypeId} (hTy : aAJ P T t .str) : P.underlying t = some .string := by
 obtain ⟨d, hd, hb⟩ := hTy.desc
 cases d <;> simp [fT] at hb
 exact hd
theorem aL9 {t : TypeId} {ct : Ty} (hT : iS P T) (ht : T t = some (.sl ct)) {xs : List ct.den} {a : Option Addr} {len cap : Nat} (hs : SlR w c.S (aT w c.S ct) ct.cells xs a len cap) {i : Int} {k : IntKind} (h0 : 0 ≤ i) (h1 : i < (xs.length : Int)) :
  ∃ u, (Instr.indexAt t (.slice a len cap) (.int k i)).run P w = .ok u w ∧ aQ c w (.roa ct (xs.getD i.toNat ct.zero)) u := by
 obtain ⟨e, hd, he, hpos⟩ := eE (hT _ _ ht)
 obtain ⟨hl, hle, hcap, hx⟩ := hs
 rcases hx with hx | ⟨b, off, rfl, hb, hcell⟩
 ·subst hx; simp at h1; omega
 ·obtain ⟨ds, hds, hc⟩ := hcell i.toNat (by omega)
  refine ⟨.pointer (some ⟨b, off + i.toNat * ct.cells, none⟩), ?_, aDH hb ?_ hc⟩
  ·have hlt : i < (len : Int) := by omega
   simp [Instr.indexAt, asIntOf, aV hd, h0, hlt, dW (hT _ _ he), Result.andThen, pZ]
  ·rw [List.getD_eq_getElem?_getD, List.getElem?_eq_getElem (by omega)]; exact hds
theorem aLM {i s off n : Nat} {v : Value} (hv : aQ c w (.sub i s off n) v) : i < c.n ∧ n ≤ maxLen ∧ ∃ b cap, aN (c.hd i) = some b ∧ v = .slice (some ⟨b, off * s, none⟩) n cap := by
 obtain ⟨h1, _, h3⟩ := hv
 simp only [aH] at h1
 obtain ⟨hi, hn, b, cap, hb, e⟩ := h1
 have h3 := h3 rfl
 refine ⟨hi, hn, b, cap, hb, ?_⟩
 cases v <;> simp [Value.cells] at e h3 <;> simp [e]
theorem aUp (hT : iS P T) (hg : Good M w0 c h w) {t : TypeId} {x ix : AV} {v iv : Value} (hv : aQ c w x v) (hi : aQ c w ix iv) (hc : (aHB T h t x ix).1) :
  ∃ u, (Instr.indexAt t v iv).run P w = .ok u w ∧ aQ c w (aHB T h t x ix).2 u := by
 unfold aHB at hc ⊢
 cases hix : zP ix with
 | none => simp [hix] at hc
 | some i =>
  obtain ⟨k, rfl⟩ := vZ hi hix
  simp only [hix] at hc ⊢
  cases x with
  | val tx xs =>
   cases tx with
   | sl ct =>
    simp only at hc ⊢
    obtain ⟨a, len, cap, rfl, hs⟩ := aBj hv.toV
    exact aL9 hT hc.1 hs hc.2.1 hc.2.2
   | _ => exact hc.elim
  | full ct xs =>
   simp only at hc ⊢
   obtain ⟨a, n, rfl, hs⟩ := aQm hv
   exact aL9 hT hc.1 hs hc.2.1 hc.2.2
  | own j =>
   obtain ⟨hj, rfl⟩ := yV hv
   simp only at hc ⊢
   cases ho : h[j]? with
   | none => simp [ho] at hc
   | some o =>
    have hob := hg.objs j o ho
    cases o with
    | row e ct xs =>
     simp only [ho] at hc ⊢
     obtain ⟨ht, h0, h1⟩ := hc
     obtain ⟨e', hd, he, hpos⟩ := eE (hT _ _ ht)
     obtain ⟨vals, hown, _⟩ := hob
     obtain ⟨hlen, hvv⟩ := hown
     rcases hvv with ⟨hv0, h00⟩ | ⟨g, cap, cur, hv0, _, hheap, hle, hcap, hsz, htake⟩
     ·omega
     ·have hlt : i < (xs.length : Int) := h1
      refine ⟨.pointer (some ⟨g, kS [.idx ct.cells i.toNat], none⟩), ?_, aFZ hj (by rw [hv0]; rfl)⟩
      rw [hv0]
      simp [Instr.indexAt, asIntOf, aV hd, h0, hlt, dW (hT _ _ he), Result.andThen, pZ, kS, Step.off]
    | tre e m ct xs =>
     simp only [ho] at hc ⊢
     obtain ⟨ht, h0, h1⟩ := hc
     obtain ⟨e', hd, he, hpos⟩ := eE (hT _ _ ht)
     obtain ⟨B, ⟨vv, css, Bs, hvv0, hown, _⟩, _⟩ := hob
     obtain rfl : c.hd j = vv := (List.cons.inj hvv0).1
     obtain ⟨hlen, hvv⟩ := hown
     rcases hvv with ⟨hv0, h00⟩ | ⟨g, cap, cur, hv0, _, hheap, hle, hcap, hsz, htake⟩
     ·omega
     ·have hlt : i < (xs.length : Int) := h1
      refine ⟨.pointer (some ⟨g, kS [.idx ct.cells i.toNat], none⟩), ?_, aFZ hj (by rw [hv0]; rfl)⟩
      rw [hv0]
      simp [Instr.indexAt, asIntOf, aV hd, h0, hlt, dW (hT _ _ he), Result.andThen, pZ, kS, Step.off]
    | trh e m ct xs kk vk =>
     simp only [ho] at hc ⊢
     obtain ⟨ht, h0, h1⟩ := hc
     obtain ⟨e', hd, he, hpos⟩ := eE (hT _ _ ht)
     obtain ⟨css, Bs, hq⟩ := hob
     have hown := hq.row
     obtain ⟨hlen, hvv⟩ := hown
     rcases hvv with ⟨hv0, h00⟩ | ⟨g, cap, cur, hv0, _, hheap, hle, hcap, hsz, htake⟩
     ·omega
     ·have hlt : i < (xs.length : Int) := h1
      refine ⟨.pointer (some ⟨g, kS [.idx ct.cells i.toNat], none⟩), ?_, aFZ hj (by rw [hv0]; rfl)⟩
      rw [hv0]
      simp [Instr.indexAt, asIntOf, aV hd, h0, hlt, dW (hT _ _ he), Result.andThen, pZ, kS, Step.off]
    | frz ct xs =>
     simp only [ho] at hc ⊢
     obtain ⟨a, len, cap, e, hs⟩ := hob
     simp at e
     rw [e]
     exact aL9 hT hc.1 hs hc.2.1 hc.2.2
    | _ => simp [ho] at hc
  | sub j s off n =>
   obtain ⟨hj, hn, b, cap, hb, rfl⟩ := aLM hv
   simp only at hc ⊢
   cases ho : h[j]? with
   | none => simp [ho] at hc
   | some o =>
    cases o with
    | row e ct xs =>
     simp only [ho] at hc ⊢
     obtain ⟨ht, rfl, h0, h1⟩ := hc
     obtain ⟨e', hd, he, hpos⟩ := eE (hT _ _ ht)
     refine ⟨.pointer (some ⟨b, kS [.idx ct.cells (off + i.toNat)], none⟩), ?_, aFZ hj hb⟩
     have e1 : off * ct.cells + i.toNat * ct.cells = (off + i.toNat) * ct.cells := (Nat.add_mul _ _ _).symm
     simp [Instr.indexAt, asIntOf, aV hd, h0, h1, dW (hT _ _ he), Result.andThen, pZ, kS, Step.off, e1]
    | _ => simp [ho] at hc
  | ptr j p =>
   obtain ⟨hj, b, hb, rfl⟩ := aB9 hv
   simp only at hc ⊢
   cases ht : T t with
   | none => simp [ht] at hc
   | some ct =>
    cases ct with
    | arr n ct =>
     simp only [ht] at hc ⊢
     obtain ⟨e, hd, he, hpos, hn⟩ := aBk (hT _ _ ht)
     refine ⟨.pointer (some ⟨b, kS (p ++ [.idx ct.cells i.toNat]), none⟩), ?_, aFZ hj hb⟩
     simp [Instr.indexAt, asIntOf, aV hd, hc.1, hc.2, dW (hT _ _ he), Result.andThen, pZ, aDI, kS, Step.off, Instr.sureAddr]
    | _ => simp [ht] at hc
  | roa tx xs =>
   cases tx with
   | arr n ct =>
    simp only at hc ⊢
    obtain ⟨ht, h0, h1⟩ := hc
    obtain ⟨e, hd, he, hpos, hn⟩ := aBk (hT _ _ ht)
    obtain ⟨b, off, ds, rfl, hb, hrep, hcell⟩ := aLL hv
    obtain ⟨pre, ds', post, e1, hp, hd'⟩ := aJc (c := c) (.val (.arr n ct) xs) i.toNat ds hrep (by simp only [elemOf]; omega)
    refine ⟨.pointer (some ⟨b, off + i.toNat * ct.cells, none⟩), ?_, aDH hb hd' ?_⟩
    ·simp [Instr.indexAt, asIntOf, aV hd, h0, h1, dW (hT _ _ he), Result.andThen, pZ, Instr.sureAddr]
    ·have := aAL hcell e1
     rw [hp] at this; exact this
   | _ => exact hc.elim
  | _ => exact hc.elim
theorem oB (s : ByteArray) : (aP s).length = s.size := by
 obtain ⟨⟨l⟩⟩ := s; simp [aP, ByteArray.size]
theorem aUq (s : ByteArray) {i : Nat} (h : i < s.size) : (aP s).getD i 0 = s[i].toNat := by
 obtain ⟨⟨l⟩⟩ := s
 have h' : i < l.length := h
 simp only [aP, List.getD_eq_getElem?_getD, List.getElem?_map]
 rw [List.getElem?_eq_getElem h']
 rfl
theorem aUr (hT : iS P T) {t : TypeId} {x ix : AV} {v iv : Value} (hv : aQ c w x v) (hi : aQ c w ix iv) (hc : (aHC T t x ix).1) :
  ∃ u, (Instr.index t v iv).run P w = .ok u w ∧ aQ c w (aHC T t x ix).2 u := by
 unfold aHC at hc ⊢
 cases hix : zP ix with
 | none => simp [hix] at hc
 | some i =>
  obtain ⟨k, rfl⟩ := vZ hi hix
  simp only [hix] at hc ⊢
  cases x with
  | val tx xs =>
   cases tx with
   | arr n ct =>
    simp only at hc ⊢
    obtain ⟨ht, h0, h1⟩ := hc
    obtain ⟨e, hd, he, hpos, hn⟩ := aBk (hT _ _ ht)
    obtain ⟨hr, h2, _⟩ := hv
    obtain ⟨cs, rfl⟩ := h2 rfl
    obtain ⟨pre, ds', post, e1, hp, hd'⟩ := aJc (c := c) (.val (.arr n ct) xs) i.toNat _ hr (by simp only [elemOf]; omega)
    obtain ⟨u, hu, hr'⟩ := aBo (hT _ _ he) e1 hd' w
    rw [hp] at hu
    simp only [aOK, Value.cells] at hu
    refine ⟨u, ?_, aQ.ofV hr'⟩
    simp [Instr.index, asIntOf, aV hd, h0, h1, dW (hT _ _ he), Result.andThen, hu]
   | str =>
    simp only at hc ⊢
    obtain ⟨ht, h0, h1⟩ := hc
    have hd := vB (hT _ _ ht)
    obtain ⟨s, rfl, rfl, hs⟩ := aJ9 hv
    rw [oB] at h1
    have hlt : i.toNat < s.size := by omega
    refine ⟨.int .u8 (s[i.toNat].toNat : Int), ?_, ?_⟩
    ·simp [Instr.index, asIntOf, aV hd, h0, getElem?_pos, hlt]
    ·rw [aUq s hlt]; exact aEJ rfl (by simp [hO, IntKind.bits]; exact s[i.toNat].toNat_lt)
   | _ => exact hc.elim
  | _ => exact hc.elim
theorem aMa : (maxLen : Int) = IntKind.max .i64 := by simp [maxLen, IntKind.max, IntKind.signed, IntKind.bits]
theorem pB {n : Nat} (h : n ≤ maxLen) : fits .i64 (n : Int) := by
 refine ⟨?_, by rw [← aMa]; omega⟩
 simp [IntKind.min, IntKind.signed, IntKind.bits]
theorem aXA (hT : iS P T) (hg : Good M w0 c h w) {t ty : TypeId} {x : AV} {v : Value} (hv : aQ c w x v) (hc : (aE2 T h t x).1) :
  ∃ u, (Builtin.len_ #[t] ty #[v]).run P w = .ok u w ∧ aQ c w (aE2 T h t x).2 u := by
 cases x with
 | val tx xs =>
  cases tx with
  | str =>
   simp only [aE2] at hc ⊢
   obtain ⟨s, rfl, rfl, hs⟩ := aJ9 hv
   exact ⟨.int .i64 s.size, by simp [Builtin.len_, aV (vB (hT _ _ hc)), goInt], by rw [oB]; exact uT rfl (pB hs)⟩
  | sl ct =>
   simp only [aE2] at hc ⊢
   obtain ⟨e, hd, _⟩ := eE (hT _ _ hc)
   obtain ⟨a, len, cap, rfl, hl, hle, hcap, _⟩ := aBj hv.toV
   exact ⟨.int .i64 len, by simp [Builtin.len_, aV hd, goInt], by rw [hl]; exact uT rfl (pB (by omega))⟩
  | arr n ct =>
   simp only [aE2] at hc ⊢
   obtain ⟨e, hd, _, _, _, hn⟩ := aBk (hT _ _ hc)
   exact ⟨.int .i64 n, by simp [Builtin.len_, aV hd, goInt], uT rfl (pB (by unfold maxLen; omega))⟩
  | _ => exact hc.elim
 | full ct xs =>
  simp only [aE2] at hc ⊢
  obtain ⟨e, hd, _⟩ := eE (hT _ _ hc)
  obtain ⟨a, n, rfl, hl, hle, hcap, _⟩ := aQm hv
  exact ⟨.int .i64 n, by simp [Builtin.len_, aV hd, goInt], by rw [hl]; exact uT rfl (pB (by omega))⟩
 | nilS =>
  simp only [aE2] at hc ⊢
  obtain ⟨ct, hc⟩ := hc
  obtain ⟨e, hd, _⟩ := eE (hT _ _ hc)
  obtain ⟨h1, _, h3⟩ := hv
  simp only [aH] at h1
  have h3 := h3 rfl
  have : v = .slice none 0 0 := by cases v <;> simp [Value.cells] at h1 h3 <;> simp [h1]
  subst this
  exact ⟨.int .i64 0, by simp [Builtin.len_, aV hd, goInt], uT rfl (pB (Nat.zero_le _))⟩
 | sub j s off n =>
  obtain ⟨hj, hn, b, cap, hb, rfl⟩ := aLM hv
  simp only [aE2] at hc ⊢
  obtain ⟨ct, hc⟩ := hc
  obtain ⟨e, hd, _⟩ := eE (hT _ _ hc)
  exact ⟨.int .i64 n, by simp [Builtin.len_, aV hd, goInt], uT rfl (pB hn)⟩
 | own j =>
  obtain ⟨hj, rfl⟩ := yV hv
  simp only [aE2] at hc ⊢
  cases ho : h[j]? with
  | none => simp [ho] at hc
  | some o =>
   have hob := hg.objs j o ho
   cases o with
   | row e ct xs =>
    simp only [ho] at hc ⊢
    obtain ⟨e', hd, he, hpos⟩ := eE (hT _ _ hc)
    obtain ⟨vals, ⟨hlen, hvv⟩, _⟩ := hob
    rcases hvv with ⟨hv0, h00⟩ | ⟨g, cap, cur, hv0, _, hheap, hle, hcap, hsz, htake⟩
    ·rw [hv0, h00]
     exact ⟨.int .i64 0, by simp [Builtin.len_, aV hd, goInt], uT rfl (pB (Nat.zero_le _))⟩
    ·rw [hv0]
     exact ⟨.int .i64 xs.length, by simp [Builtin.len_, aV hd, goInt], uT rfl (pB (by omega))⟩
   | tre e m ct xs =>
    simp only [ho] at hc ⊢
    obtain ⟨e', hd, he, hpos⟩ := eE (hT _ _ hc)
    obtain ⟨B, ⟨vv, css, Bs, hvv0, ⟨hlen, hvv⟩, _⟩, _⟩ := hob
    obtain rfl : c.hd j = vv := (List.cons.inj hvv0).1
    rcases hvv with ⟨hv0, h00⟩ | ⟨g, cap, cur, hv0, _, hheap, hle, hcap, hsz, htake⟩
    ·rw [hv0, h00]
     exact ⟨.int .i64 0, by simp [Builtin.len_, aV hd, goInt], uT rfl (pB (Nat.zero_le _))⟩
    ·rw [hv0]
     exact ⟨.int .i64 xs.length, by simp [Builtin.len_, aV hd, goInt], uT rfl (pB (by omega))⟩
   | trh e m ct xs kk vk =>
    simp only [ho] at hc ⊢
    obtain ⟨e', hd, he, hpos⟩ := eE (hT _ _ hc)
    obtain ⟨css, Bs, hq⟩ := hob
    obtain ⟨hlen, hvv⟩ := hq.row
    rcases hvv with ⟨hv0, h00⟩ | ⟨g, cap, cur, hv0, _, hheap, hle, hcap, hsz, htake⟩
    ·rw [hv0, h00]
     exact ⟨.int .i64 0, by simp [Builtin.len_, aV hd, goInt], uT rfl (pB (Nat.zero_le _))⟩
    ·rw [hv0]
     exact ⟨.int .i64 xs.length, by simp [Builtin.len_, aV hd, goInt], uT rfl (pB (by omega))⟩
   | frz ct xs =>
    simp only [ho] at hc ⊢
    obtain ⟨e', hd, he, hpos⟩ := eE (hT _ _ hc)
    obtain ⟨a, len, cap, e, hl, hle, hcap, _⟩ := hob
    simp at e
    rw [e]
    exact ⟨.int .i64 len, by simp [Builtin.len_, aV hd, goInt], by rw [hl]; exact uT rfl (pB (by omega))⟩
   | _ => simp [ho] at hc
 | _ => exact hc.elim
theorem aX7 {op : UnOp} {x : AV} {v : Value} (hv : aQ c w x v) (hc : (aRy op x).1) :
  ∃ u, (Op.unary op v).run P w = .ok u w ∧ aQ c w (aRy op x).2 u := by
 cases x with
 | val t y =>
  cases t with
  | bool =>
   obtain rfl := aC6 hv
   cases op <;> simp only [aRy] at hc ⊢
   exact ⟨_, rfl, vW _⟩
  | i k =>
   obtain ⟨rfl, hk, hf⟩ := aEY hv
   cases op <;> simp only [aRy] at hc ⊢
   exact ⟨_, by simp only [Op.unary, Op.intArith, aEW hk hc]; rfl, uT hk hc⟩
  | u k =>
   obtain ⟨rfl, hk, hf⟩ := aEX hv
   cases op <;> simp only [aRy] at hc ⊢
   ·have hp := aBn k
    have := aPf (P := P) (w := w) (c := c) .sub 0 (a := 0) (b := y) hk hp hf (by simp [aPe])
    obtain ⟨u, hu, hr⟩ := this
    refine ⟨u, ?_, by simpa [aPe, aLK, aSo] using hr⟩
    simpa [binOp, Op.unary] using hu
   ·have hp := aBn k
    have := aPf (P := P) (w := w) (c := c) .xor 0 (a := hO k - 1) (b := y) hk (by omega) hf (by simp [aPe])
    obtain ⟨u, hu, hr⟩ := this
    refine ⟨u, ?_, by simpa [aPe] using hr⟩
    have e : ((hO k - 1 : Nat) : Int) = k.max := by rw [aSj hk]; omega
    rw [e] at hu
    simpa [binOp, Op.unary, hk] using hu
  | _ => exact hc.elim
 | _ => exact hc.elim
theorem aSw {k k' : IntKind} (h : k.bits ≤ k'.bits) : hO k ≤ hO k' := Nat.pow_le_pow_right (by omega) h
theorem aRA {k k' : IntKind} (hk : k.signed = true) (hk' : k'.signed = true) (h : k.bits ≤ k'.bits) {n : Int} (hf : fits k n) : fits k' n := by
 obtain ⟨h1, h2⟩ := hf
 cases k <;> simp [IntKind.signed] at hk <;> cases k' <;> simp [IntKind.signed] at hk' <;> simp [IntKind.bits] at h <;> simp [fits, IntKind.min, IntKind.max, IntKind.signed, IntKind.bits] at h1 h2 ⊢ <;> omega
theorem aTt {k k' : IntKind} (hk : k.signed = false) (hk' : k'.signed = true) (h : k.bits < k'.bits) {n : Nat} (hf : n < hO k) : fits k' (n : Int) := by
 cases k <;> simp [IntKind.signed] at hk <;> cases k' <;> simp [IntKind.signed] at hk' <;> simp [IntKind.bits] at h <;> simp [fits, IntKind.min, IntKind.max, IntKind.signed, IntKind.bits, hO] at hf ⊢ <;> omega
theorem aSx (hT : iS P T) {src dst : TypeId} {x : AV} {v : Value} (hv : aQ c w x v) (hc : (aJd T src dst x).1) :
  ∃ u, (convert src dst v).run P w = .ok u w ∧ aQ c w (aJd T src dst x).2 u := by
 have hsrc : (T src).isSome = true → ∃ d, P.underlying src = some d := fun h => by
  obtain ⟨ct, hct⟩ := Option.isSome_iff_exists.1 h
  obtain ⟨d, hd, _⟩ := (hT _ _ hct).desc
  exact ⟨d, hd⟩
 unfold aJd at hc ⊢
 cases hdst : T dst with
 | none => simp [hdst] at hc
 | some cd =>
  obtain ⟨dd, hdd, hdb⟩ := (hT _ _ hdst).desc
  cases x with
  | val t y =>
   cases cd with
   | u k =>
    cases dd <;> simp [fT] at hdb
    obtain ⟨rfl, hks⟩ := hdb
    cases t with
    | u k0 =>
     simp only [hdst] at hc ⊢
     obtain ⟨ds, hds⟩ := hsrc hc
     obtain ⟨rfl, hk0, hy⟩ := aEX hv
     refine ⟨_, by simp [convert, aV hds, aV hdd, Conv.intToInt]; rfl, ?_⟩
     rw [vV hks]
     split
     ·rename_i hle; rw [Nat.mod_eq_of_lt (Nat.lt_of_lt_of_le hy (aSw hle))]; exact aEJ hks (Nat.lt_of_lt_of_le hy (aSw hle))
     ·exact aEJ hks (Nat.mod_lt _ (aBn _))
    | i k0 =>
     simp only [hdst] at hc ⊢
     obtain ⟨ds, hds⟩ := hsrc hc
     obtain ⟨rfl, hk0, hy⟩ := aEY hv
     refine ⟨_, by simp [convert, aV hds, aV hdd, Conv.intToInt]; rfl, ?_⟩
     rw [aRt hks]
     have hp := aBn k
     have h1 := Int.emod_nonneg y (show (hO k : Int) ≠ 0 by omega)
     have h2 := Int.emod_lt_of_pos y (show (0 : Int) < hO k by omega)
     have := aEJ (c := c) (w := w) (n := (y % (hO k : Int)).toNat) hks (by omega)
     rw [show (((y % (hO k : Int)).toNat : Nat) : Int) = y % (hO k : Int) from Int.toNat_of_nonneg h1] at this
     exact this
    | _ => simp [hdst] at hc
   | i k =>
    cases dd <;> simp [fT] at hdb
    obtain ⟨rfl, hks⟩ := hdb
    cases t with
    | u k0 =>
     simp only [hdst] at hc ⊢
     obtain ⟨ds, hds⟩ := hsrc hc
     obtain ⟨rfl, hk0, hy⟩ := aEX hv
     refine ⟨_, by simp [convert, aV hds, aV hdd, Conv.intToInt]; rfl, ?_⟩
     split
     ·rename_i hlt; have hf := aTt hk0 hks hlt hy; rw [aEW hks hf]; exact uT hks hf
     ·exact uT hks (aC5 hks _)
    | i k0 =>
     simp only [hdst] at hc ⊢
     obtain ⟨ds, hds⟩ := hsrc hc
     obtain ⟨rfl, hk0, hy⟩ := aEY hv
     refine ⟨_, by simp [convert, aV hds, aV hdd, Conv.intToInt]; rfl, ?_⟩
     split
     ·rename_i hlt; have hf := aRA hk0 hks hlt hy; rw [aEW hks hf]; exact uT hks hf
     ·exact uT hks (aC5 hks _)
    | _ => simp [hdst] at hc
   | str =>
    cases dd <;> simp [fT] at hdb
    cases t with
    | str =>
     simp only [hdst] at hc ⊢
     obtain ⟨s, rfl, rfl, hs⟩ := aJ9 hv
     exact ⟨_, by simp [convert, aV (vB (hT _ _ hc)), aV hdd], aV9 hs⟩
    | _ => simp [hdst] at hc
   | _ => cases t <;> simp [hdst] at hc
  | _ => cases cd <;> simp [hdst] at hc
theorem aSy (op : BinOp) (t : TypeId) {k k' : IntKind} {a : Nat} {b : Int} (hk : k.signed = false) (ha : a < hO k) (h0 : 0 ≤ b) (h : (shU op k a b.toNat).1) :
  ∃ v, (binOp op t (.int k a) (.int k' b)).run P w = .ok v w ∧ aQ c w (shU op k a b.toNat).2 v := by
 have := aRu (P := P) (w := w) (c := c) op t (k := k) (k' := k') (a := a) (n := b.toNat) hk ha h
 rw [show ((b.toNat : Nat) : Int) = b from by omega] at this
 exact this
theorem aSz (op : BinOp) (t : TypeId) {k k' : IntKind} {a b : Int} (hk : k.signed = true) (ha : fits k a) (h0 : 0 ≤ b) (hn : op = .shl → b ≤ k.bits) (h : (shI op k a b.toNat).1) :
  ∃ v, (binOp op t (.int k a) (.int k' b)).run P w = .ok v w ∧ aQ c w (shI op k a b.toNat).2 v := by
 have := aRv (P := P) (w := w) (c := c) op t (k := k) (k' := k') (a := a) (n := b.toNat) hk ha (fun e => by have := hn e; omega) h
 rw [show ((b.toNat : Nat) : Int) = b from by omega] at this
 exact this
theorem aQn (a b : ByteArray) : aP (a ++ b) = aP a ++ aP b := by
 obtain ⟨⟨a⟩⟩ := a
 obtain ⟨⟨b⟩⟩ := b
 show List.map _ ((ByteArray.mk ⟨a⟩ ++ ByteArray.mk ⟨b⟩).data.toList) = _
 rw [ByteArray.data_append]
 simp [aP]
theorem aSA : ∀ (a b : List UInt8), Op.bytesLess a b = aGo (a.map (·.toNat)) (b.map (·.toNat))
 | a, [] => by cases a <;> simp [Op.bytesLess, aGo]
 | [], b :: r => by simp [Op.bytesLess, aGo]
 | a :: x, b :: y => by
  simp only [Op.bytesLess, List.map_cons, aGo, aSA x y]
  have e1 : decide (a < b) = decide (a.toNat < b.toNat) := by rw [Bool.eq_iff_iff]; simp [UInt8.lt_iff_toNat_lt]
  have e2 : (a == b) = decide (a.toNat = b.toNat) := by rw [Bool.eq_iff_iff]; simp [UInt8.toNat_inj]
  rw [e1, e2]
theorem aKc (s : ByteArray) : aP s = s.toList.map (·.toNat) := by rw [ByteArray.toList_eq]; rfl
theorem aWi {op : BinOp} (t : TypeId) {s r : ByteArray} (hs : s.size ≤ maxLen) (hr : r.size ≤ maxLen) (hc : (aUe op (aP s) (aP r)).1) :
  ∃ u, (binOp op t (.string s) (.string r)).run P w = .ok u w ∧ aQ c w (aUe op (aP s) (aP r)).2 u := by
 have hl : Op.bytesLess s.toList r.toList = aGo (aP s) (aP r) := by rw [aSA, ← aKc, ← aKc]
 cases op <;> simp only [aUe] at hc ⊢
 case add =>
  rw [oB, oB] at hc
  have hsz : (s ++ r).size = s.size + r.size := by simp
  refine ⟨.string (s ++ r), ?_, by rw [← aQn]; exact aV9 (by rw [hsz]; exact hc)⟩
  have : ¬ (((s.size + r.size : Nat) : Int) > IntKind.max .i64) := by rw [← aMa]; omega
  simp only [binOp, Op.stringOp, this, if_false]; rfl
 case eql => exact ⟨_, by simp only [binOp, Op.stringOp, aTn]; rfl, vW _⟩
 case neq => exact ⟨_, by simp only [binOp, Op.stringOp, aTn]; rfl, vW _⟩
 case lss => exact ⟨_, by simp only [binOp, Op.stringOp, hl]; rfl, vW _⟩
 case leq => exact ⟨_, by simp only [binOp, Op.stringOp, hl, aTn]; rfl, vW _⟩
 case gtr => exact ⟨_, by simp only [binOp, Op.stringOp, hl, aTn]; rfl, vW _⟩
 case geq => exact ⟨_, by simp only [binOp, Op.stringOp, hl]; rfl, vW _⟩
theorem aXB (hT : iS P T) {op : BinOp} {t : TypeId} {x y : AV} {v u : Value} (hv : aQ c w x v) (hu : aQ c w y u) (hc : (zO T op t x y).1) :
  ∃ r, (binOp op t v u).run P w = .ok r w ∧ aQ c w (zO T op t x y).2 r := by
 have hagg : ∀ (ct : Ty) (a b : ct.den) (v u : Value), ct.isAgg = true → aQ c w (.val ct a) v → aQ c w (.val ct b) u → T t = some ct → ct.cmpB = true → ct.deep ≤ 100 →
   (binOp .eql t v u).run P w = .ok (.bool (ct.eqb a b)) w ∧ (binOp .neq t v u).run P w = .ok (.bool (!ct.eqb a b)) w := by
  intro ct a b v u ha hv hu ht hcm hd
  have heq := aDD hT w ht hcm hd hv.toV hu.toV
  obtain ⟨cs, rfl⟩ := hv.2.1 ha
  obtain ⟨cs', rfl⟩ := hu.2.1 ha
  constructor
  ·simp [binOp, heq]
  ·simp [binOp, heq]
 cases x with
 | val t1 a =>
  cases t1 with
  | u k =>
   cases y with
   | val t2 b =>
    cases t2 with
    | u k' =>
     obtain ⟨rfl, hk, ha⟩ := aEX hv
     obtain ⟨rfl, hk', hb⟩ := aEX hu
     cases op
     case shl => exact aRu (P := P) .shl t hk ha (by simp [shU])
     case shr => exact aRu (P := P) .shr t hk ha (by simp [shU])
     all_goals
      simp only [zO] at hc ⊢
      split at hc
      ·rename_i e; subst e; simp only [if_true]; exact aPf _ t hk ha hb hc
      ·exact hc.elim
    | i k' =>
     obtain ⟨rfl, hk, ha⟩ := aEX hv
     obtain ⟨rfl, hk', hb⟩ := aEY hu
     cases op <;> simp only [zO] at hc ⊢
     case shl => exact aSy (P := P) .shl t hk ha hc (by simp [shU])
     case shr => exact aSy (P := P) .shr t hk ha hc (by simp [shU])
    | _ => exact hc.elim
   | _ => exact hc.elim
  | i k =>
   cases y with
   | val t2 b =>
    cases t2 with
    | i k' =>
     obtain ⟨rfl, hk, ha⟩ := aEY hv
     obtain ⟨rfl, hk', hb⟩ := aEY hu
     cases op
     case shl =>
      simp only [zO] at hc ⊢
      exact aSz (P := P) .shl t hk ha hc.1 (fun _ => hc.2.1) hc.2.2
     case shr =>
      simp only [zO] at hc ⊢
      exact aSz (P := P) .shr t hk ha hc (fun h => by cases h) (by simp [shI])
     all_goals
      simp only [zO] at hc ⊢
      split at hc
      ·rename_i e; subst e; simp only [if_true]; exact aWb _ t hk ha hb hc
      ·exact hc.elim
    | u k' =>
     obtain ⟨rfl, hk, ha⟩ := aEY hv
     obtain ⟨rfl, hk', hb⟩ := aEX hu
     cases op <;> simp only [zO] at hc ⊢
     case shl => exact aRv (P := P) .shl t hk ha (fun _ => hc.1) hc.2
     case shr => exact aRv (P := P) .shr t hk ha (fun h => by cases h) (by simp [shI])
    | _ => exact hc.elim
   | _ => exact hc.elim
  | str =>
   cases y with
   | val t2 b =>
    cases t2 with
    | str =>
     simp only [zO] at hc ⊢
     obtain ⟨s, rfl, rfl, hs⟩ := aJ9 hv
     obtain ⟨r, rfl, rfl, hr⟩ := aJ9 hu
     exact aWi t hs hr hc
    | _ => exact hc.elim
   | _ => exact hc.elim
  | bool =>
   cases y with
   | val t2 b =>
    cases t2 with
    | bool =>
     simp only [zO] at hc ⊢
     obtain rfl := aC6 hv
     obtain rfl := aC6 hu
     have heq := aDD (P := P) (T := T) hT w (S := c.S) (w := w) (x := a) (y := b) hc.1 rfl (by simp [Ty.deep]) hv.toV hu.toV
     have hc2 := hc.2
     cases op <;> simp only [aWa] at hc2 ⊢
     ·exact ⟨.bool (a == b), by simp only [binOp, Sem.run_bind, heq, Result.andThen_ok]; rfl, vW _⟩
     ·exact ⟨.bool (a != b), by simp only [binOp, Sem.run_bind, heq, Result.andThen_ok]; rfl, vW _⟩
    | _ => exact hc.elim
   | _ => exact hc.elim
  | pair p q =>
   cases y with
   | val t2 b =>
    simp only [zO] at hc ⊢
    by_cases e : t2 = .pair p q
    ·subst e
     simp only [dite_true] at hc ⊢
     cases op <;> simp only at hc ⊢ <;> (try exact hc.elim)
     ·exact ⟨_, (hagg _ _ _ _ _ rfl hv hu hc.1 hc.2.1 hc.2.2).1, vW _⟩
     ·exact ⟨_, (hagg _ _ _ _ _ rfl hv hu hc.1 hc.2.1 hc.2.2).2, vW _⟩
    ·simp only [e, dite_false] at hc
   | _ => exact hc.elim
  | arr n q =>
   cases y with
   | val t2 b =>
    simp only [zO] at hc ⊢
    by_cases e : t2 = .arr n q
    ·subst e
     simp only [dite_true] at hc ⊢
     cases op <;> simp only at hc ⊢ <;> (try exact hc.elim)
     ·exact ⟨_, (hagg _ _ _ _ _ rfl hv hu hc.1 hc.2.1 hc.2.2).1, vW _⟩
     ·exact ⟨_, (hagg _ _ _ _ _ rfl hv hu hc.1 hc.2.1 hc.2.2).2, vW _⟩
    ·simp only [e, dite_false] at hc
   | _ => exact hc.elim
  | _ => exact hc.elim
 | _ => exact hc.elim
end
end Go.Vc
namespace Go.Vc
open Go.RowKit
section
variable {P : Program} {T : Tab} {M : Perm} {w0 : World} {c : Ctx} {h : List Obj} {w : World}
theorem eZ {i : Int} {k : IntKind} {y : Nat} {code : BoundsCode} (h0 : 0 ≤ i) (h1 : i ≤ (y : Int)) : (Instr.sliceBound (.int k i) y code).run P w = .ok i.toNat w := by
 simp [Instr.sliceBound, asIntOf, h0, h1]
inductive aN3 (c : Ctx) (w : World) : Option AV → Option Value → Prop where
 | none : aN3 c w none none
 | some {a : AV} {v : Value} (h : aQ c w a v) : aN3 c w (some a) (some v)
theorem yC {o : Option AV} {v : Option Value} (hv : aN3 c w o v) {i : Int} (hi : o.map zP = some (some i)) : ∃ k, v = some (.int k i) := by
 cases hv with
 | none => cases hi
 | some hv =>
  simp at hi
  obtain ⟨k, rfl⟩ := vZ hv hi
  exact ⟨k, rfl⟩
theorem pC {o : Option AV} {v : Option Value} (hv : aN3 c w o v) (hi : o.map zP = none) : v = none := by
 cases hv with
 | none => rfl
 | some hv => simp at hi
theorem aPk (s : ByteArray) (l n : Nat) : aP (s.extract l n) = ((aP s).take n).drop l := by
 obtain ⟨⟨x⟩⟩ := s
 simp only [aP, ByteArray.data_extract, List.extract_toArray, List.extract_eq_take_drop]
 simp [List.map_take, List.map_drop, List.drop_take]
theorem aF1 {t : TypeId} (hd : P.underlying t = some .string) {s : ByteArray} (hs : s.size ≤ maxLen) {lo hi : Option Value} {l u : Nat}
  (hb : (Instr.sliceBounds false s.size s.size lo hi none).run P w = .ok (l, u, s.size) w) :
  (Instr.sliceAt t (.string s) lo hi none).run P w = .ok (.string (s.extract l u)) w ∧ aQ c w (.val .str (((aP s).take u).drop l)) (.string (s.extract l u)) := by
 refine ⟨by simp [Instr.sliceAt, Instr.slice, aV hd, hb], ?_⟩
 rw [← aPk]
 refine aV9 ?_
 have : (s.extract l u).size ≤ s.size := by simp; omega
 omega
theorem aC8 {t e : TypeId} {ct : Ty} (hd : P.underlying t = some (.slice e)) (he : aAJ P T e ct) {xs : List ct.den} {a : Option Addr} {len cap : Nat} (hs : SlR w c.S (aT w c.S ct) ct.cells xs a len cap) {lo hi mx : Option Value} {l u m : Nat}
  (hb : (Instr.sliceBounds true len cap lo hi mx).run P w = .ok (l, u, m) w) (h1 : l ≤ u) (h2 : u ≤ len) (h3 : u ≤ m) (h4 : m ≤ cap) :
  ∃ a' , (Instr.sliceAt t (.slice a len cap) lo hi mx).run P w = .ok (.slice a' (u - l) (m - l)) w ∧ SlR w c.S (aT w c.S ct) ct.cells ((xs.take u).drop l) a' (u - l) (m - l) := by
 refine ⟨if m = l then a else a.map (·.add (l * ct.cells)), by simp [Instr.sliceAt, Instr.slice, aV hd, hb, dW he], ?_⟩
 obtain ⟨hl, hle, hcap, hx⟩ := hs
 refine ⟨by simp; omega, by omega, by omega, ?_⟩
 rcases hx with hx | ⟨b, off, rfl, hb', hcell⟩
 ·subst hx; left; simp
 ·by_cases hml : m = l
  ·left
   have : u = l := by omega
   rw [this]; simp
  ·right
   refine ⟨b, off + l * ct.cells, by simp [hml, pZ], hb', fun i hi => ?_⟩
   have hi' : l + i < xs.length := by simp at hi; omega
   obtain ⟨ds, hds, hc⟩ := hcell (l + i) hi'
   refine ⟨ds, ?_, ?_⟩
   ·have : ((xs.take u).drop l)[i] = xs[l + i] := by simp
    rw [this]; exact hds
   ·rw [show off + l * ct.cells + i * ct.cells = off + (l + i) * ct.cells from by rw [Nat.add_mul]; omega]; exact hc
theorem Good.frz (hg : Good M w0 c h w) : Good M w0 c (h.map eG) w := by
 have hget : ∀ i : Nat, (h.map eG)[i]? = (h[i]?).map eG := fun i => by simp
 have hob : ∀ (i : Nat) (o : Obj), (h.map eG)[i]? = some o → o = .dead ∨ h[i]? = some o := fun i o ho => by
  rw [hget] at ho
  cases hi : h[i]? with
  | none => simp [hi] at ho
  | some o' =>
   rw [hi] at ho
   simp only [Option.map_some, Option.some.injEq] at ho
   cases o' <;> simp only [eG] at ho <;> subst ho <;> first | exact .inl rfl | exact .inr rfl
 refine ⟨by rw [hg.n]; simp, hg.keeps, hg.sfin, hg.src, fun i o ho => ?_, fun i o b ho hb => ?_, fun i j oi oj b hi hj hbi hbj => ?_, hg.root⟩
 ·rcases hob i o ho with rfl | ho
  ·trivial
  ·exact hg.objs i o ho
 ·rcases hob i o ho with rfl | ho
  ·simp [dO] at hb
  ·exact hg.own i o b ho hb
 ·rcases hob i oi hi with rfl | hi
  ·simp [dO] at hbi
  ·rcases hob j oj hj with rfl | hj
   ·simp [dO] at hbj
   ·exact hg.sep i j oi oj b hi hj hbi hbj
theorem aJg (b : Nat) (hb : aB8 c (h.map eG) b) : c.S b := by
 rcases hb with hb | ⟨i, o', ho, hb⟩
 ·exact hb
 ·simp only [List.getElem?_map] at ho
  cases hi : h[i]? with
  | none => simp [hi] at ho
  | some o => rw [hi] at ho; simp only [Option.map_some, Option.some.injEq] at ho; subst ho; cases o <;> simp [eG, dO] at hb
theorem aQo {av : AV} {v : Value} {t : Ty} {x : t.den} (hv : aQ c w av v) (ha : AV.as h t av = some x) : aH c w av v.cells.toList ∧ (av.isAgg = true → ∃ cs, v = .agg cs) ∧ (av.isAgg = false → ∀ cs, v ≠ .agg cs) := by
 cases av with
 | junk => cases t <;> simp [AV.as] at ha
 | undef => cases t <;> simp [AV.as] at ha
 | tup vs => cases t <;> simp [AV.as] at ha
 | _ => exact hv
theorem aF2 (hg : Good M w0 c h w) {av : AV} {v : Value} {t : Ty} {x : t.den} (hv : aQ c w av v) (ha : AV.as h t av = some x) : cR w (aB8 c h) t x v := by
 obtain ⟨h1, h2, h3⟩ := aQo hv ha
 obtain ⟨hr, he⟩ := aXd hg t av x _ ha h1
 exact cR.of_cells (fun e => h2 (by rw [← he]; exact e)) (fun e => h3 (by rw [← he]; exact e)) hr
theorem rZ (hg : Good M w0 c h w) {av : AV} {v : Value} {t : Ty} {x : t.den} (hv : aQ c w av v) (ha : AV.as (h.map eG) t av = some x) : cR w c.S t x v :=
 (aF2 hg.frz hv ha).keep aJg (.refl _ _)
theorem aUs (hT : iS P T) (hg : Good M w0 c h w) {t : TypeId} {x : AV} {v : Value} {lo hi mx : Option AV} {lv hv mv : Option Value} (hx : aQ c w x v) (hlo : aN3 c w lo lv) (hhi : aN3 c w hi hv) (hmx : aN3 c w mx mv) (hc : (aHD T h t x lo hi mx).1) :
  ∃ u, (Instr.sliceAt t v lv hv mv).run P w = .ok u w ∧ aQ c w (aHD T h t x lo hi mx).2 u := by
 unfold aHD at hc ⊢
 cases ht : T t with
 | none => simp [ht] at hc
 | some ct =>
  cases ct with
  | str =>
   simp only [ht] at hc ⊢
   have hd := vB (hT _ _ ht)
   split at hc
   ·rename_i s
    cases hmx
    obtain ⟨s, rfl, rfl, hs⟩ := aJ9 hx
    have hlen := oB s
    split at hc
    ·rename_i e1 e2
     obtain rfl := pC hlo e1
     obtain rfl := pC hhi e2
     have := aF1 (c := c) (w := w) hd hs (lo := none) (hi := none) (l := 0) (u := s.size) (by simp [Instr.sliceBounds])
     refine ⟨_, this.1, ?_⟩
     have e : ((aP s).take s.size).drop 0 = aP s := by rw [List.drop_zero, List.take_of_length_le (by omega)]
     rw [e] at this
     simp only [e1, e2]
     exact this.2
    ·rename_i l e1 e2
     obtain ⟨k, rfl⟩ := yC hlo e1
     obtain rfl := pC hhi e2
     rw [hlen] at hc
     have := aF1 (c := c) (w := w) hd hs (lo := some (.int k l)) (hi := none) (l := l.toNat) (u := s.size) (by simp [Instr.sliceBounds, eZ hc.1 hc.2])
     refine ⟨_, this.1, ?_⟩
     have e : ((aP s).take s.size).drop l.toNat = (aP s).drop l.toNat := by rw [List.take_of_length_le (by omega)]
     rw [e] at this
     simp only [e1, e2]
     exact this.2
    ·rename_i u e1 e2
     obtain rfl := pC hlo e1
     obtain ⟨k, rfl⟩ := yC hhi e2
     rw [hlen] at hc
     have := aF1 (c := c) (w := w) hd hs (lo := none) (hi := some (.int k u)) (l := 0) (u := u.toNat) (by simp [Instr.sliceBounds, eZ hc.1 hc.2])
     refine ⟨_, this.1, ?_⟩
     simp only [e1, e2]
     simpa using this.2
    ·rename_i l u e1 e2
     obtain ⟨k, rfl⟩ := yC hlo e1
     obtain ⟨k', rfl⟩ := yC hhi e2
     rw [hlen] at hc
     obtain ⟨h0, h1, h2⟩ := hc
     have := aF1 (c := c) (w := w) hd hs (lo := some (.int k l)) (hi := some (.int k' u)) (l := l.toNat) (u := u.toNat) (by simp [Instr.sliceBounds, eZ (P := P) (w := w) (show 0 ≤ u by omega) h2, eZ (P := P) (w := w) (i := l) (y := u.toNat) h0 (by omega)])
     refine ⟨_, this.1, ?_⟩
     simp only [e1, e2]
     exact this.2
    ·exact hc.elim
   ·exact hc.elim
  | sl ct =>
   simp only [ht] at hc ⊢
   obtain ⟨e, hd, he, hpos⟩ := eE (hT _ _ ht)
   have hTe := hT _ _ he
   cases hl : aRz h ct x with
   | none => simp [hl] at hc
   | some xs =>
    simp only [hl] at hc ⊢
    obtain ⟨a, len, cap, rfl, hs⟩ := aBj (rZ hg hx hl)
    have hlen := hs.1
    have hle := hs.2.1
    have mk : ∀ {ys : List ct.den} {a' : Option Addr} {n m : Nat}, SlR w c.S (aT w c.S ct) ct.cells ys a' n m → aQ c w (.val (.sl ct) ys) (.slice a' n m) := fun hs' => ⟨⟨_, _, _, rfl, hs'⟩, (fun h => by cases h), (fun _ cs => by simp)⟩
    have mkF : ∀ {ys : List ct.den} {a' : Option Addr} {n m : Nat}, SlR w c.S (aT w c.S ct) ct.cells ys a' n m → m = n → aQ c w (.full ct ys) (.slice a' n m) := fun hs' e => by subst e; exact ⟨⟨_, _, rfl, hs'⟩, (fun h => by cases h), (fun _ cs => by simp)⟩
    split at hc
    ·rename_i e1 e2 e3
     obtain rfl := pC hlo e1
     obtain rfl := pC hhi e2
     obtain rfl := pC hmx e3
     obtain ⟨a', h1, h2⟩ := aC8 (w := w) hd hTe hs (lo := none) (hi := none) (mx := none) (l := 0) (u := len) (m := cap) (by simp [Instr.sliceBounds]) (Nat.zero_le _) (Nat.le_refl _) hle (Nat.le_refl _)
     refine ⟨_, h1, ?_⟩
     have e : (xs.take len).drop 0 = xs := by rw [List.drop_zero, List.take_of_length_le (by omega)]
     rw [e] at h2
     simp only [e1, e2, e3]
     exact mk h2
    ·rename_i l e1 e2 e3
     obtain ⟨k, rfl⟩ := yC hlo e1
     obtain rfl := pC hhi e2
     obtain rfl := pC hmx e3
     rw [hlen] at hc
     obtain ⟨a', h1, h2⟩ := aC8 (w := w) hd hTe hs (lo := some (.int k l)) (hi := none) (mx := none) (l := l.toNat) (u := len) (m := cap) (by simp [Instr.sliceBounds, eZ hc.1 hc.2]) (by omega) (Nat.le_refl _) hle (Nat.le_refl _)
     refine ⟨_, h1, ?_⟩
     have e : (xs.take len).drop l.toNat = xs.drop l.toNat := by rw [List.take_of_length_le (by omega)]
     rw [e] at h2
     simp only [e1, e2, e3]
     exact mk h2
    ·rename_i u e1 e2 e3
     obtain rfl := pC hlo e1
     obtain ⟨k, rfl⟩ := yC hhi e2
     obtain rfl := pC hmx e3
     rw [hlen] at hc
     obtain ⟨a', h1, h2⟩ := aC8 (w := w) hd hTe hs (lo := none) (hi := some (.int k u)) (mx := none) (l := 0) (u := u.toNat) (m := cap) (by simp [Instr.sliceBounds, eZ (P := P) (w := w) (y := cap) hc.1 (by omega)]) (by omega) (by omega) (by omega) (Nat.le_refl _)
     refine ⟨_, h1, ?_⟩
     simp only [e1, e2, e3]
     exact mk (by simpa using h2)
    ·rename_i l u e1 e2 e3
     obtain ⟨k, rfl⟩ := yC hlo e1
     obtain ⟨k', rfl⟩ := yC hhi e2
     obtain rfl := pC hmx e3
     rw [hlen] at hc
     obtain ⟨h0, h1, h2⟩ := hc
     obtain ⟨a', h1, h2⟩ := aC8 (w := w) hd hTe hs (lo := some (.int k l)) (hi := some (.int k' u)) (mx := none) (l := l.toNat) (u := u.toNat) (m := cap) (by simp [Instr.sliceBounds, eZ (P := P) (w := w) (i := u) (y := cap) (by omega) (by omega), eZ (P := P) (w := w) (i := l) (y := u.toNat) h0 (by omega)]) (by omega) (by omega) (by omega) (Nat.le_refl _)
     refine ⟨_, h1, ?_⟩
     simp only [e1, e2, e3]
     exact mk h2
    ·rename_i u m e1 e2 e3
     obtain rfl := pC hlo e1
     obtain ⟨k, rfl⟩ := yC hhi e2
     obtain ⟨k', rfl⟩ := yC hmx e3
     rw [hlen] at hc
     obtain ⟨h0, h1, rfl⟩ := hc
     obtain ⟨a', h1, h2⟩ := aC8 (w := w) hd hTe hs (lo := none) (hi := some (.int k m)) (mx := some (.int k' m)) (l := 0) (u := m.toNat) (m := m.toNat) (by simp [Instr.sliceBounds, eZ (P := P) (w := w) (i := m) (y := cap) (by omega) (by omega), eZ (P := P) (w := w) (i := m) (y := m.toNat) h0 (by omega)]) (by omega) (by omega) (by omega) (by omega)
     refine ⟨_, h1, ?_⟩
     simp only [e1, e2, e3]
     exact mkF (by simpa using h2) rfl
    ·rename_i l u m e1 e2 e3
     obtain ⟨k, rfl⟩ := yC hlo e1
     obtain ⟨k', rfl⟩ := yC hhi e2
     obtain ⟨k'', rfl⟩ := yC hmx e3
     rw [hlen] at hc
     obtain ⟨h0, h1, h2, rfl⟩ := hc
     obtain ⟨a', h1, h2⟩ := aC8 (w := w) hd hTe hs (lo := some (.int k l)) (hi := some (.int k' m)) (mx := some (.int k'' m)) (l := l.toNat) (u := m.toNat) (m := m.toNat) (by simp [Instr.sliceBounds, eZ (P := P) (w := w) (i := m) (y := cap) (by omega) (by omega), eZ (P := P) (w := w) (i := m) (y := m.toNat) (by omega) (by omega), eZ (P := P) (w := w) (i := l) (y := m.toNat) h0 (by omega)]) (by omega) (by omega) (by omega) (by omega)
     refine ⟨_, h1, ?_⟩
     simp only [e1, e2, e3]
     exact mkF h2 rfl
    ·exact hc.elim
  | _ => simp [ht] at hc
end
end Go.Vc
namespace Go.Vc
open Go.RowKit
section
variable {P : Program} {T : Tab} {M : Perm} {w0 : World} {c : Ctx} {h : List Obj} {w : World}
theorem aDJ {w w' : World} {B : Nat} {e : TypeId} {sz : Nat} {v : Value} {n : Nat} {vals : List Value} (hb : ∀ b, aN v = some b → w'.heap[b]? = w.heap[b]?) (h : w.ownsRow B e sz v n vals) : w'.ownsRow B e sz v n vals := by
 obtain ⟨h1, h2⟩ := h
 refine ⟨h1, h2.imp id ?_⟩
 rintro ⟨g, cap, cur, rfl, hB, hh, r⟩
 exact ⟨g, cap, cur, rfl, hB, by rw [hb g rfl]; exact hh, r⟩
theorem jU.keep {w w' : World} {S S' : Nat → Prop} (hs : ∀ b, S b → S' b) (h : vT S w w') : ∀ (t : Ty) (m : Mk) (x : t.den) (cs : List Value) (B : List Nat), (∀ b ∈ B, w'.heap[b]? = w.heap[b]?) → jU w S t m x cs B → jU w' S' t m x cs B := by
 intro t
 have hno : ∀ (t : Ty) (x : t.den) (cs : List Value) (B : List Nat), aT w S t x cs ∧ B = [] → aT w' S' t x cs ∧ B = [] := fun t x cs B ⟨h1, h2⟩ => ⟨aT.keep hs h t x cs h1, h2⟩
 induction t with
 | sl t ih =>
  intro m xs cs B hB hr
  cases m with
  | no => exact hno _ _ _ _ hr
  | sl e m =>
   obtain ⟨v, css, Bs, h1, h2, h3, h4, h5, h6⟩ := hr
   subst h5
   refine ⟨v, css, Bs, h1, aDJ (fun b hb => hB b (by simp [hdB, hb])) h2, h3, h4, rfl, fun i q1 q2 q3 => ih m _ _ _ (fun b hb => hB b ?_) (h6 i q1 q2 q3)⟩
   exact List.mem_append_right _ (List.mem_flatten.2 ⟨_, List.getElem_mem q3, hb⟩)
  | pair a b => exact hr.elim
 | pair a r iha ihr =>
  intro m x cs B hB hr
  cases m with
  | no => exact hno _ _ _ _ hr
  | sl e m => exact hr.elim
  | pair ma mr =>
   obtain ⟨c1, c2, B1, B2, h1, h2, h3, h4⟩ := hr
   subst h2
   exact ⟨c1, c2, B1, B2, h1, rfl, iha _ _ _ _ (fun b hb => hB b (List.mem_append_left _ hb)) h3, ihr _ _ _ _ (fun b hb => hB b (List.mem_append_right _ hb)) h4⟩
 | _ =>
  intro m x cs B hB hr
  cases m <;> first | exact hno _ _ _ _ hr | exact hr.elim
theorem aSi.keep {c c' : Ctx} {w w' : World} {i : Nat} {e : TypeId} {m : Mk} {t : Ty} {xs : List t.den} {k : Nat} {v : AV} {css : List (List Value)} {Bs : List (List Nat)} (hl : dE c w c' w') (hhd : c'.hd i = c.hd i) (hbl : c'.bl i = c.bl i) (hb : ∀ b, c.bl i b → w'.heap[b]? = w.heap[b]?) (hr : aSi c w i e m t xs k v css Bs) : aSi c' w' i e m t xs k v css Bs := by
 refine ⟨?_, hr.lc, hr.lb, hr.kl, fun j h h1 h2 hne => jU.keep hl.le.S hl.same _ _ _ _ _ (fun b hbb => hb b (hr.bl b ?_)) (hr.el j h h1 h2 hne), hr.hb, fun h1 => ⟨aH.keep hl.le hl.same _ _ (hr.hv h1).1, (hr.hv h1).2⟩, by rw [hhd]; exact hr.nd, by rw [hhd, hbl]; exact hr.bl⟩
 ·rw [hhd]; exact aDJ (fun b hbb => hb b (hr.bl b (by simp [hdB, hbb]))) hr.row
 ·exact List.mem_append_right _ (List.mem_flatten.2 ⟨_, List.getElem_mem h2, hbb⟩)
theorem aDB.keep {c c' : Ctx} {w w' : World} {i : Nat} {o : Obj} (hl : dE c w c' w') (hi : i < c.n) (hbl : c'.bl i = c.bl i) (hb : ∀ b, dO c i o b → w'.heap[b]? = w.heap[b]?) (hr : aDB c w i o) : aDB c' w' i o := by
 have hhd := hl.le.hd i hi
 cases o with
 | dead => trivial
 | box n v =>
  obtain ⟨b, cells, e, h1, h2, h3, h4⟩ := hr
  exact ⟨b, cells, e, by rw [hhd]; exact h1, by rw [hb b (by simp [dO, h1, aN])]; exact h2, h3, aH.keep hl.le hl.same _ _ h4⟩
 | row e t xs =>
  obtain ⟨vals, h1, h2⟩ := hr
  refine ⟨vals, ?_, aT.keep hl.le.S hl.same _ _ _ h2⟩
  rw [hhd]
  exact aDJ (fun b hbb => hb b hbb) h1
 | frz t xs => simp only [aDB] at *; rw [hhd]; exact aT.keep hl.le.S hl.same _ _ _ hr
 | map k v m =>
  obtain ⟨b, es, clock, h1, h2, h3, h4⟩ := hr
  exact ⟨b, es, clock, by rw [hhd]; exact h1, by rw [hb b (by simp [dO, h1, aN])]; exact h2, h3, fun j hj hj' => ⟨(h4 j hj hj').1.keep hl.le.S hl.same, (h4 j hj hj').2.keep hl.le.S hl.same⟩⟩
 | tre e m t xs =>
  obtain ⟨B, h1, h2, h3⟩ := hr
  exact ⟨B, by rw [hhd]; exact jU.keep hl.le.S hl.same _ _ _ _ _ (fun b hbb => hb b (h3 b hbb)) h1, h2, by rw [hbl]; exact h3⟩
 | trh e m t xs k v =>
  obtain ⟨css, Bs, hr⟩ := hr
  exact ⟨css, Bs, hr.keep hl hhd hbl hb⟩
theorem eQ {c c' : Ctx} (hl : c.le c') {i : Nat} (hbl : c'.bl i = c.bl i) (hi : i < c.n) (o : Obj) : dO c' i o = dO c i o := by
 funext b
 cases o <;> simp [dO, hl.hd i hi, hbl]
theorem jE {h : List Obj} {i : Nat} {o : Obj} (ho : h[i]? = some o) : i < h.length := by
 rcases Nat.lt_or_ge i h.length with hlt | hge
 ·exact hlt
 ·rw [List.getElem?_eq_none hge] at ho; cases ho
theorem Good.step (hg : Good M w0 c h w) {c' : Ctx} {w' : World} (hl : dE c w c' w') (hn : c'.n = c.n) (hbl : c'.bl = c.bl) (hk : fJ M.wr w w') (hb : ∀ i o b, h[i]? = some o → dO c i o b → w'.heap[b]? = w.heap[b]?)
  (hs : ∀ b, c'.S b → b < w'.heap.size) (hd : ∀ b, c'.S b → c.S b ∨ w.heap.size ≤ b) : Good M w0 c' h w' := by
 have hlt : ∀ i o, h[i]? = some o → i < c.n := fun i o ho => by rw [hg.n]; exact jE ho
 refine ⟨by rw [hn, hg.n], hg.keeps.trans hk, hs, fun b hb hlt => (hd b hb).elim (fun hb => hg.src b hb hlt) (fun hb => absurd hb (Nat.not_le_of_lt (Nat.lt_of_lt_of_le hlt hg.keeps.size))), fun i o ho => (hg.objs i o ho).keep hl (hlt i o ho) (congrFun hbl i) (fun b hbb => hb i o b ho hbb), fun i o b ho hbb => ?_, fun i j oi oj b hi hj hbi hbj => ?_, yU hg.root hl.le⟩
 ·rw [eQ hl.le (congrFun hbl _) (hlt i o ho)] at hbb
  obtain ⟨h1, h2, h3⟩ := hg.own i o b ho hbb
  refine ⟨h1, Nat.lt_of_lt_of_le h2 hk.size, fun hS => ?_⟩
  rcases hd b hS with hS | hge
  ·exact h3 hS
  ·omega
 ·rw [eQ hl.le (congrFun hbl _) (hlt i oi hi)] at hbi
  rw [eQ hl.le (congrFun hbl _) (hlt j oj hj)] at hbj
  exact hg.sep i j oi oj b hi hj hbi hbj
def Ctx.upto (c : Ctx) (lo hi : Nat) : Ctx := ⟨fun b => c.S b ∨ (lo ≤ b ∧ b < hi), c.hd, c.n, c.bl⟩
theorem Ctx.le_upto (c : Ctx) (lo hi : Nat) : c.le (c.upto lo hi) := ⟨fun b hb => .inl hb, Nat.le_refl _, fun _ _ => rfl⟩
theorem rK (hg : Good M w0 c h w) {w' : World} (hk : fJ nothing w w') : dE c w (c.upto w.heap.size w'.heap.size) w' :=
 ⟨c.le_upto _ _, fun b hb => hk.block b (hg.sfin b hb) (fun f => f)⟩
theorem fJ.any {w w' : World} (hk : fJ nothing w w') : fJ M.wr w w' := ⟨hk.os, hk.tape, hk.output, hk.size, fun b hb _ => hk.block b hb (fun f => f)⟩
theorem Good.call (hg : Good M w0 c h w) {w' : World} (hk : fJ nothing w w') : Good M w0 (c.upto w.heap.size w'.heap.size) h w' :=
 hg.step (rK hg hk) rfl rfl hk.any (fun i o b ho hb => hk.block b (hg.own i o b ho hb).2.1 (fun f => f)) (fun b hb => hb.elim (fun hb => Nat.lt_of_lt_of_le (hg.sfin b hb) hk.size) (fun hb => hb.2)) (fun b hb => hb.imp id (fun hb => hb.1))
theorem fJ.alloc (M : Nat → Prop) (w : World) (o : Go.Obj) : fJ M w { w with heap := w.heap.push o } :=
 ⟨rfl, rfl, rfl, by simp, fun b hb _ => by simp [Array.getElem?_push, Nat.ne_of_lt hb]⟩
structure aE5 (P : Program) (M : Perm) (w0 : World) (h : List Obj) (c : Ctx) (w : World) (av : AV) (v : Value) (w' : World) (c' : Ctx) : Prop where
 later : dE c w c' w'
 n : c'.n = c.n ∧ c'.bl = c.bl
 good : Good M w0 c' h w'
 keeps : fJ nothing w w'
 new : ∀ b, c'.S b → c.S b ∨ w.heap.size ≤ b
 val : aQ c' w' av v
def Did (P : Program) (M : Perm) (w0 : World) (h : List Obj) (c : Ctx) (o : Oper) (a : Act) (w : World) (av : AV) : Prop :=
 (∃ v w' c', (execOp a.eval o).run P w = .ok (.value v) w' ∧ aE5 P M w0 h c w av v w' c') ∨
 (∃ f args, (execOp a.eval o).run P w = .ok (.enter f args) w ∧ Calls P f args w fun e w' => ∃ v c', e = .returned v ∧ aE5 P M w0 h c w av v w' c')
theorem Did.of_value (hg : Good M w0 c h w) {o : Oper} {a : Act} {av : AV} {v : Value} (hr : (execOp a.eval o).run P w = .ok (.value v) w) (hv : aQ c w av v) : Did P M w0 h c o a w av :=
 .inl ⟨v, w, c, hr, .refl _ _, ⟨rfl, rfl⟩, hg, .refl _ _, fun b hb => .inl hb, hv⟩
theorem aT.scalar {w w' : World} {S S' : Nat → Prop} : ∀ (t : Ty) (x : t.den) (cs : List Value), t.scalar = true → aT w S t x cs → aT w' S' t x cs
 | .bool, _, _, _, hr => hr
 | .u _, _, _, _, hr => hr
 | .i _, _, _, _, hr => hr
 | .str, _, _, _, hr => hr
 | .sl t, _, _, hs, _ => by simp [Ty.scalar] at hs
 | .unit, _, _, _, hr => hr
 | .pair a b, _, _, hs, ⟨c1, c2, hc, h1, h2⟩ => by
  simp only [Ty.scalar, Bool.and_eq_true] at hs
  exact ⟨c1, c2, hc, aT.scalar a _ _ hs.1 h1, aT.scalar b _ _ hs.2 h2⟩
 | .arr _ t, _, _, hs, ⟨hn, css, hc, hl, hr⟩ => ⟨hn, css, hc, hl, fun i h1 h2 => aT.scalar t _ _ (by simpa [Ty.scalar] using hs) (hr i h1 h2)⟩
 | .expr, _, _, hs, _ => by simp [Ty.scalar] at hs
 | .rp _, _, _, hs, _ => by simp [Ty.scalar] at hs
 | .clo _ _, _, _, hs, _ => by simp [Ty.scalar] at hs
theorem cR.scalar {w w' : World} {S S' : Nat → Prop} {t : Ty} {x : t.den} {v : Value} (hs : t.scalar = true) (hr : cR w S t x v) : cR w' S' t x v := by
 unfold cR at *
 split
 ·rename_i ha; simp only [ha, if_true] at hr; obtain ⟨cs, hv, hc⟩ := hr; exact ⟨cs, hv, aT.scalar _ _ _ hs hc⟩
 ·rename_i ha; simp only [ha] at hr; exact aT.scalar _ _ _ hs hr
theorem nT.scalar {w w' : World} {S S' : Nat → Prop} : ∀ (t : Ty) (x : t.den) (vs : List Value), t.scalar = true → nT w S t x vs → nT w' S' t x vs
 | .unit, _, _, _, hr => hr
 | .pair a r, x, vs, hs, ⟨v, vs', e, h1, h2⟩ => by
  simp only [Ty.scalar, Bool.and_eq_true] at hs
  exact ⟨v, vs', e, h1.scalar hs.1, nT.scalar r _ _ hs.2 h2⟩
 | .bool, _, _, _, hr => hr.elim
 | .u _, _, _, _, hr => hr.elim
 | .i _, _, _, _, hr => hr.elim
 | .str, _, _, _, hr => hr.elim
 | .sl _, _, _, _, hr => hr.elim
 | .arr _ _, _, _, _, hr => hr.elim
 | .expr, _, _, _, hr => hr.elim
 | .rp _, _, _, _, hr => hr.elim
 | .clo _ _, _, _, _, hr => hr.elim
theorem aPl (hg : Good M w0 c h w) : ∀ (t : Ty) (vs : List AV) (xs : List Value) (x : t.den), yB h t vs = some x → xs.length = vs.length → (∀ i (h1 : i < vs.length) (h2 : i < xs.length), aQ c w vs[i] xs[i]) → nT w (aB8 c h) t x xs := by
 intro t
 induction t with
 | unit =>
  intro vs xs x ha hl hv
  cases vs with
  | nil => exact List.eq_nil_of_length_eq_zero hl
  | cons v vs => simp [yB] at ha
 | pair a r _ ih =>
  intro vs xs x ha hl hv
  cases vs with
  | nil => simp [yB] at ha
  | cons v vs =>
   cases xs with
   | nil => simp at hl
   | cons u xs =>
    simp only [yB] at ha
    split at ha
    ·rename_i xa xb h1 h2
     cases ha
     refine ⟨u, xs, rfl, aF2 hg (hv 0 (by simp) (by simp)) h1, ih vs xs xb h2 (by simpa using hl) (fun i hi hi' => ?_)⟩
     have := hv (i + 1) (by simpa using hi) (by simpa using hi')
     simpa using this
    ·cases ha
 | _ => intro vs xs x ha; simp [yB] at ha
theorem aE6 (hg : Good M w0 c h w) {t : Ty} {vs : List AV} {xs : List Value} {x : t.den} (ha : yB (h.map eG) t vs = some x) (hl : xs.length = vs.length) (hv : ∀ i (h1 : i < vs.length) (h2 : i < xs.length), aQ c w vs[i] xs[i]) : nT w c.S t x xs := by
 have := aPl hg.frz t vs xs x ha hl hv
 have hmono : ∀ (t : Ty) (x : t.den) (xs : List Value), nT w (aB8 c (h.map eG)) t x xs → nT w c.S t x xs := by
  intro t
  induction t with
  | unit => intro x xs h; exact h
  | pair a r _ ih => intro x xs ⟨v, vs', e, h1, h2⟩; exact ⟨v, vs', e, h1.keep aJg (.refl _ _), ih _ _ h2⟩
  | _ => intro x xs h; exact h.elim
 exact hmono t x xs this
theorem aQp (hg : Good M w0 c h w) (b : Nat) (hb : aB8 c h b) : b < w.heap.size := by
 rcases hb with hb | ⟨i, o, ho, hb⟩
 ·exact hg.sfin b hb
 ·exact (hg.own i _ b ho hb).2.1
theorem oW.mono {G : Nat → AV} {S S' : Nat → Prop} {w w' : World} (hs : ∀ b, S b → S' b) (h : vT S w w') (hr : oW G S w) : oW G S' w' := fun g =>
 (hr g).keep (c := ⟨S, fun _ => Go.undef, 0, fun _ _ => False⟩) (c' := ⟨S', fun _ => Go.undef, 0, fun _ _ => False⟩) ⟨hs, Nat.le_refl _, fun _ _ => rfl⟩ h
theorem aRB {S : Nat → Prop} {w : World} {c : Ctx} (hS : c.S = S) : ∀ (t : Ty) (x : t.den) (vs : List Value), nT w S t x vs → vs.length = (vY t x).length ∧ ∀ i (h : i < (vY t x).length) (h' : i < vs.length), rJ c w (vY t x)[i] vs[i]
 | .unit, _, vs, hr => by simp only [nT] at hr; subst hr; exact ⟨rfl, fun i h => by simp [vY] at h⟩
 | .pair a r, x, vs, ⟨v, vs', e, h1, h2⟩ => by
  subst e
  obtain ⟨hl, hr⟩ := aRB hS r x.2 vs' h2
  refine ⟨by simp [vY, hl], fun i hi hi' => ?_⟩
  cases i with
  | zero => exact aQ.ofV (by rw [hS]; exact h1)
  | succ i => exact hr i (by simpa [vY] using hi) (by simpa using hi')
 | .bool, _, _, hr => hr.elim
 | .u _, _, _, hr => hr.elim
 | .i _, _, _, hr => hr.elim
 | .str, _, _, hr => hr.elim
 | .sl _, _, _, hr => hr.elim
 | .arr _ _, _, _, hr => hr.elim
 | .expr, _, _, hr => hr.elim
 | .rp _, _, _, hr => hr.elim
 | .clo _ _, _, _, hr => hr.elim
def FAt (G : Nat → AV) (sp : aF) (vs : Array Value) (w : World) (C : (Ending → World → Prop) → Prop) : Prop :=
 ∀ (S : Nat → Prop) (x : sp.args.den), (∀ b, S b → b < w.heap.size) → oW G S w → nT w S sp.args x vs.toList → sp.pre x →
  C fun e w' => ∃ v, e = .returned v ∧ fJ nothing w w' ∧ aTp w' S w.heap.size sp.res (sp.fn x) v
def aXe (P : Program) (f : FuncId) (vs : Array Value) (w : World) (R : Ending → World → Prop) : Prop :=
 ∃ v w', (callFunc f vs).run P w = .ok (.value v) w' ∧ R (.returned v) w'
def NOK (P : Program) (G : Nat → AV) (f : FuncId) (sp : aF) : Prop :=
 (∀ e t, sp.res ≠ .own e t) ∧ ∀ (w : World) (vs : Array Value), FAt G sp vs w (aXe P f vs w)
theorem aWj {C : (Ending → World → Prop) → Prop} (hC : ∀ R R' : Ending → World → Prop, C R → (∀ e w', R e w' → R' e w') → C R') {G : Nat → AV} {Γ : FuncId → List AV → Option aF} {f : FuncId} {vs : List AV} {xs : Array Value} (hΓ : ∀ sp, Γ f vs = some sp → FAt G sp xs w C) (hg : Good M w0 c h w) (hG : oW G c.S w) (hl : xs.size = vs.length)
  (hv : ∀ i (h1 : i < vs.length) (h2 : i < xs.size), aQ c w vs[i] xs[i]) (hc : (aDF Γ h f vs).1) :
  C fun e w' => ∃ v c', e = .returned v ∧ aE5 P M w0 h c w (aDF Γ h f vs).2 v w' c' := by
 unfold aDF at hc ⊢
 cases hf : Γ f vs with
 | none => simp [hf] at hc
 | some sp =>
  simp only [hf] at hc ⊢
  have hl' : xs.toList.length = vs.length := by simpa using hl
  have hv' : ∀ i (h1 : i < vs.length) (h2 : i < xs.toList.length), aQ c w vs[i] xs.toList[i] := fun i h1 h2 => by
   have := hv i h1 (by simpa using h2)
   simpa using this
  obtain ⟨argT, res, pre, fn⟩ := sp
  have key : ∀ (x : argT.den), yB (if res.ty.scalar then h else h.map eG) argT vs = some x → pre x → (∀ e t, res ≠ .own e t) → C fun e w' => ∃ v c', e = .returned v ∧ aE5 P M w0 h c w (aUk res (fn x)) v w' c' := by
   intro x ha hp hno
   by_cases hsc : res.ty.scalar = true
   ·rw [if_pos hsc] at ha
    have hargs := aPl hg _ _ _ _ ha hl' hv'
    refine hC _ _ (hΓ _ hf (aB8 c h) x (aQp hg) (hG.mono (fun b hb => .inl hb) (.refl _ _)) hargs hp) ?_
    rintro e w' ⟨v, rfl, hk, hres⟩
    refine ⟨v, _, rfl, rK hg hk, ⟨rfl, rfl⟩, hg.call hk, hk, fun b hb => hb.imp id And.left, ?_⟩
    cases res with
    | none => trivial
    | one t => exact aQ.ofV (cR.scalar hsc hres)
    | own e t => exact absurd rfl (hno _ _)
    | tup t =>
     obtain ⟨us, rfl, hus⟩ := hres
     have := nT.scalar (w' := w') (S' := (c.upto w.heap.size w'.heap.size).S) t _ _ hsc hus
     obtain ⟨h1, h2⟩ := aRB (c := c.upto w.heap.size w'.heap.size) rfl t _ _ this
     exact ⟨us, rfl, h1, h2⟩
   ·rw [if_neg hsc] at ha
    have hargs := aE6 hg ha hl' hv'
    refine hC _ _ (hΓ _ hf c.S x hg.sfin hG hargs hp) ?_
    rintro e w' ⟨v, rfl, hk, hres⟩
    refine ⟨v, _, rfl, rK hg hk, ⟨rfl, rfl⟩, hg.call hk, hk, fun b hb => hb.imp id And.left, ?_⟩
    cases res with
    | none => trivial
    | one t => exact aQ.ofV hres
    | own e t => exact absurd rfl (hno _ _)
    | tup t =>
     obtain ⟨us, rfl, hus⟩ := hres
     obtain ⟨h1, h2⟩ := aRB (c := c.upto w.heap.size w'.heap.size) rfl t _ _ hus
     exact ⟨us, rfl, h1, h2⟩
  cases res with
  | own e t => exact hc.elim
  | none =>
   simp only at hc ⊢
   split at hc
   ·rename_i x ha; exact key x ha hc (fun _ _ h => by cases h)
   ·exact hc.elim
  | one t =>
   simp only at hc ⊢
   split at hc
   ·rename_i x ha; exact key x ha hc (fun _ _ h => by cases h)
   ·exact hc.elim
  | tup t =>
   simp only at hc ⊢
   split at hc
   ·rename_i x ha; exact key x ha hc (fun _ _ h => by cases h)
   ·exact hc.elim
end
end Go.Vc
namespace Go.Vc
open Go.RowKit
section
variable {P : Program} {T : Tab} {M : Perm} {w0 : World} {c : Ctx} {h : List Obj} {w : World}
theorem aQq (pre : List Value) : ∀ (ns old post : List Value) (cells : Array Value) (j : Nat), cells.toList = pre ++ old ++ post → old.length = j + ns.length →
  ((ns.zipIdx j).foldl (fun cs (p : Value × Nat) => cs.setIfInBounds (pre.length + p.2) p.1) cells).toList = pre ++ (old.take j ++ ns) ++ post
 | [], old, post, cells, j, hc, hl => by
  simp only [List.zipIdx_nil, List.foldl_nil, List.append_nil]
  rw [hc, List.take_of_length_le (by simp at hl; omega)]
 | v :: ns, old, post, cells, j, hc, hl => by
  simp only [List.zipIdx_cons, List.foldl_cons]
  simp only [List.length_cons] at hl
  have h1 : (cells.setIfInBounds (pre.length + j) v).toList = pre ++ (old.set j v) ++ post := by
   rw [Array.toList_setIfInBounds, hc, List.append_assoc, List.set_append_right _ _ (by omega), Nat.add_sub_cancel_left, List.set_append_left _ _ (by omega), ← List.append_assoc]
  have := aQq pre ns (old.set j v) post _ (j + 1) h1 (by simp; omega)
  rw [this]
  congr 2
  rw [List.take_succ_eq_append_getElem (by simp; omega)]
  simp [List.take_set_of_le]
theorem aJh {pre old post : List Value} {cells : Array Value} (hc : cells.toList = pre ++ old ++ post) {v : Value} (hv : v.cells.size = old.length) :
  (v.cells.zipIdx.foldl (fun cs (p : Value × Nat) => cs.setIfInBounds (pre.length + p.2) p.1) cells).toList = pre ++ v.cells.toList ++ post := by
 have := aQq pre v.cells.toList old post cells 0 hc (by simp [hv])
 rw [← Array.foldl_toList, Array.toList_zipIdx]
 simpa using this
theorem aUt : ∀ {L : List AV} {cs : List Value} {k : Nat} {ts : List Ty}, jN c w L cs → L.length = ts.length → (∀ i (h : i < L.length), (L[i]).solid1 = true) → (∀ i (h : i < L.length) (h' : i < ts.length), (L[i]).nc1 = ts[i].cells) → k < L.length →
  ∃ pre ds post, cs = pre ++ ds ++ post ∧ pre.length = ((ts.take k).map Ty.cells).foldr (· + ·) 0 ∧ ds.length = (ts.getD k .unit).cells ∧ ∀ (v : AV) (ds' : List Value), aH c w v ds' → jN c w (L.set k v) (pre ++ ds' ++ post)
 | [], _, _, _, _, _, _, _, hk => by simp at hk
 | v :: L, cs, k, ts, hr, hl, hs, hn, hk => by
  cases ts with
  | nil => simp at hl
  | cons t ts =>
   simp only [jN] at hr
   obtain ⟨c1, c2, rfl, h1, h2⟩ := hr
   have h0 := hn 0 (by simp) (by simp)
   have s0 := hs 0 (by simp)
   simp only [List.getElem_cons_zero] at h0 s0
   have hl1 := aGZ s0 h1
   cases k with
   | zero => exact ⟨[], c1, c2, by simp, rfl, by simp [hl1, h0], fun v' ds' hv' => by simp only [List.set_cons_zero, jN, List.nil_append]; exact ⟨ds', c2, rfl, hv', h2⟩⟩
   | succ k =>
    obtain ⟨pre, ds, post, e, hp, hd, hset⟩ := aUt (k := k) (ts := ts) h2 (by simpa using hl) (fun i hi => by have := hs (i + 1) (by simpa using hi); simpa using this) (fun i hi hi' => by have := hn (i + 1) (by simpa using hi) (by simpa using hi'); simpa using this) (by simpa using hk)
    refine ⟨c1 ++ pre, ds, post, by rw [e]; simp, by simp [hl1, h0, hp], by simpa using hd, fun v' ds' hv' => ?_⟩
    simp only [List.set_cons_succ, jN]
    exact ⟨c1, pre ++ ds' ++ post, by simp, h1, hset v' ds' hv'⟩
theorem zQ : ∀ {fs : List Field} {off : Nat} {t : Ty} {k : Nat} {ct : Ty}, dB T fs off t = true → t.flds[k]? = some ct → ∃ f, fs[k]? = some f ∧ T f.type = some ct ∧ f.offset = off + ((t.flds.take k).map Ty.cells).foldr (· + ·) 0
 | [], off, .unit, k, ct, _, hk => by simp [Ty.flds] at hk
 | f :: fs, off, .pair a r, 0, ct, hf, hk => by
  simp only [dB, Bool.and_eq_true, decide_eq_true_eq] at hf
  simp [Ty.flds] at hk
  subst hk
  exact ⟨f, rfl, hf.1.1.1.1, by simp [hf.1.1.1.2]⟩
 | f :: fs, off, .pair a r, k + 1, ct, hf, hk => by
  simp only [dB, Bool.and_eq_true, decide_eq_true_eq] at hf
  simp only [Ty.flds, List.getElem?_cons_succ] at hk
  obtain ⟨f', h1, h2, h3⟩ := zQ hf.2 hk
  exact ⟨f', by simpa using h1, h2, by rw [h3]; simp [Ty.flds]; omega⟩
 | [], _, .pair _ _, _, _, hf, _ => by simp [dB] at hf
 | _ :: _, _, .unit, _, _, hf, _ => by simp [dB] at hf
theorem aHE : ∀ {fs : List Field} {off : Nat} {t : Ty}, dB T fs off t = true → fs.length = t.flds.length
 | [], _, .unit, _ => rfl
 | f :: fs, off, .pair a r, hf => by
  simp only [dB, Bool.and_eq_true] at hf
  simp [Ty.flds, aHE hf.2]
 | [], _, .pair _ _, hf => by simp [dB] at hf
 | _ :: _, _, .unit, hf => by simp [dB] at hf
theorem aOL : ∀ (t : Ty), t.okB = true → ∀ fs off, dB T fs off t = true → jN c w (uU t) (cC t) ∧ (uU t).length = t.flds.length ∧ (∀ i (h : i < (uU t).length), ((uU t)[i]).solid1 = true) ∧ (∀ i (h : i < (uU t).length) (h' : i < t.flds.length), ((uU t)[i]).nc1 = (t.flds[i]).cells)
 | .unit, _, _, _, _ => ⟨rfl, rfl, fun i h => by simp [uU] at h, fun i h => by simp [uU] at h⟩
 | .pair a r, hok, f :: fs, off, hf => by
  simp only [Ty.okB, Bool.and_eq_true] at hok
  simp only [dB, Bool.and_eq_true] at hf
  obtain ⟨h1, h2, h3, h4⟩ := aOL r hok.2 fs _ hf.2
  refine ⟨⟨cC a, cC r, rfl, eI w c.S a hok.1, h1⟩, by simp [uU, Ty.flds, h2], fun i hi => ?_, fun i hi hi' => ?_⟩
  ·cases i with
   | zero => rfl
   | succ i => exact h3 i (by simpa [uU] using hi)
  ·cases i with
   | zero => rfl
   | succ i => exact h4 i (by simpa [uU] using hi) (by simpa [Ty.flds] using hi')
 | .pair _ _, _, [], _, hf => by simp [dB] at hf
 | .bool, _, fs, _, hf => by cases fs <;> simp [dB] at hf
 | .u _, _, fs, _, hf => by cases fs <;> simp [dB] at hf
 | .i _, _, fs, _, hf => by cases fs <;> simp [dB] at hf
 | .str, _, fs, _, hf => by cases fs <;> simp [dB] at hf
 | .sl _, _, fs, _, hf => by cases fs <;> simp [dB] at hf
 | .arr _ _, _, fs, _, hf => by cases fs <;> simp [dB] at hf
 | .expr, _, fs, _, hf => by cases fs <;> simp [dB] at hf
 | .rp _, _, fs, _, hf => by cases fs <;> simp [dB] at hf
 | .clo _ _, _, fs, _, hf => by cases fs <;> simp [dB] at hf
 | .nilp, _, fs, _, hf => by cases fs <;> simp [dB] at hf
 | .nilf, _, fs, _, hf => by cases fs <;> simp [dB] at hf
inductive aAk (c : Ctx) (w : World) : List (Nat × AV) → List (Nat × Value) → Prop where
 | nil : aAk c w [] []
 | cons {k : Nat} {a : AV} {v : Value} {ps : List (Nat × AV)} {vs : List (Nat × Value)} (h : aQ c w a v) (r : aAk c w ps vs) : aAk c w ((k, a) :: ps) ((k, v) :: vs)
theorem aHF {place : Nat → Option (Nat × Nat)} {ts : List Ty} (hp : ∀ k t, ts[k]? = some t → place k = some (((ts.take k).map Ty.cells).foldr (· + ·) 0, t.cells)) : ∀ (ps : List (Nat × AV)) (vs : List (Nat × Value)) (L : List AV) (cells : Array Value),
  aAk c w ps vs → aFW ts ps → jN c w L cells.toList → L.length = ts.length → (∀ i (h : i < L.length), (L[i]).solid1 = true) → (∀ i (h : i < L.length) (h' : i < ts.length), (L[i]).nc1 = ts[i].cells) →
  ∃ cells', Instr.fill place cells vs = some cells' ∧ jN c w (aTq L ps) cells'.toList
 | _, _, L, cells, .nil, _, hr, _, _, _ => ⟨cells, rfl, hr⟩
 | _, _, L, cells, .cons (k := k) (a := a) (v := v) (ps := ps) (vs := vs) hv r, hok, hr, hl, hs, hn => by
  obtain ⟨⟨hsa, t, htk, hnc⟩, hok⟩ := hok
  have hkt : k < ts.length := get_lt' htk
  obtain ⟨pre, ds, post, e, hpl, hdl, hset⟩ := aUt (k := k) hr hl hs hn (by omega)
  have hgd : ts.getD k .unit = t := by simp [List.getD_eq_getElem?_getD, htk]
  rw [hgd] at hdl
  have hva : rJ c w a v := by cases a <;> first | exact hv | (simp [AV.solid1] at hsa)
  have hvc := aGZ hsa hva.1
  have hsz : v.cells.size = t.cells := by rw [← hnc, ← hvc]; simp
  have hstep := aJh (v := v) e (by rw [hsz, hdl])
  have hcs : cells.size = (pre ++ ds ++ post).length := by rw [← e]; simp
  obtain ⟨cells', h1, h2⟩ := aHF hp ps vs (L.set k a) _ r hok (by rw [hstep]; exact hset a _ hva.1) (by simpa using hl) (fun i hi => by
    by_cases hik : k = i
    ·subst hik; simp [hsa]
    ·simp only [List.getElem_set_ne hik]; exact hs i (by simpa using hi)) (fun i hi hi' => by
    by_cases hik : k = i
    ·subst hik
     simp only [List.getElem_set_self, hnc]
     rw [List.getElem?_eq_getElem hkt] at htk
     simp at htk; rw [htk]
    ·simp only [List.getElem_set_ne hik]; exact hn i (by simpa using hi) hi')
  refine ⟨cells', ?_, h2⟩
  rw [Instr.fill, hp k t htk]
  have hcond : ¬ (v.cells.size ≠ t.cells ∨ ((((ts.take k).map Ty.cells).foldr (· + ·) 0) + v.cells.size > cells.size)) := by
   rw [← hpl, hsz, hcs]
   simp
   omega
  dsimp only
  rw [if_neg (by simpa using hcond), ← hpl]
  exact h1
where
 get_lt' {α : Type} {l : List α} {k : Nat} {x : α} (h : l[k]? = some x) : k < l.length := by
  rcases Nat.lt_or_ge k l.length with hlt | hge
  ·exact hlt
  ·rw [List.getElem?_eq_none hge] at h; cases h
theorem aHG {t : Ty} {L : List AV} {cells : Array Value} (hr : jN c w L cells.toList) : aQ c w (aE3 t L) (.agg cells) := by
 unfold aE3
 have hL : aQ c w (.agg L) (.agg cells) := ⟨by simpa [aH, Value.cells] using hr, fun _ => ⟨_, rfl⟩, fun h => by cases h⟩
 split
 ·rename_i x ha
  have key : ∀ (t : Ty) (v : AV) (x : t.den) (cs : List Value), AV.as [] t v = some x → aH c w v cs → aT w c.S t x cs ∧ t.isAgg = v.isAgg := by
   intro t v x cs ha hr
   exact as_nil t v x cs ha hr
  obtain ⟨h1, h2⟩ := key _ _ _ _ ha hL.1
  exact aQ.ofV (cR.of_cells (fun _ => ⟨_, rfl⟩) (fun h => by rw [h2] at h; cases h) h1)
 ·exact hL
where
 as_nil (t : Ty) (v : AV) (x : t.den) (cs : List Value) (ha : AV.as [] t v = some x) (hr : aH c w v cs) : aT w c.S t x cs ∧ t.isAgg = v.isAgg := by
  have hval : ∀ (t t' : Ty) (y : t'.den) (x : t.den) (cs : List Value), AV.as [] t (.val t' y) = some x → aH c w (.val t' y) cs → aT w c.S t x cs ∧ t.isAgg = AV.isAgg (.val t' y) := by
   intro t t' y x cs ha hr
   have : ∃ e : t' = t, x = e ▸ y := by
    have h2 : (if e : t' = t then some (e ▸ y) else none) = some x := by cases t <;> simpa [AV.as] using ha
    split at h2
    ·rename_i e; cases h2; exact ⟨e, rfl⟩
    ·cases h2
   obtain ⟨rfl, rfl⟩ := this
   exact ⟨hr, rfl⟩
  have hflat : ∀ (t : Ty) (l : List AV) (x : t.den) (cs : List Value), aDE t l = some x → jN c w l cs → aT w c.S t x cs := by
   intro t l x cs ha hr
   unfold aDE at ha
   split at ha
   ·rename_i y hp
    cases ha
    obtain ⟨c1, c2, e, r1, r2⟩ := aQi t l _ _ cs hp hr
    simp only [jN] at r2
    subst r2
    rw [e, List.append_nil]; exact r1
   ·cases ha
  induction t generalizing v cs with
  | pair a b iha ihb =>
   cases v with
   | val t' y => exact hval _ _ _ _ _ ha hr
   | agg vs =>
    cases vs with
    | nil => simp [AV.as] at ha
    | cons v vs =>
     simp only [aPg] at ha
     split at ha
     ·rename_i xa xb h1 h2
      cases ha
      simp only [aH, jN] at hr
      obtain ⟨c1, c2, e, r1, r2⟩ := hr
      exact ⟨⟨c1, c2, e, (iha v xa c1 h1 r1).1, (ihb (.agg vs) xb c2 h2 (by simpa [aH] using r2)).1⟩, rfl⟩
     ·cases ha
   | flat l => simp only [aPh] at ha; exact ⟨hflat _ _ _ _ ha (by simpa [aH] using hr), rfl⟩
   | _ => simp [AV.as] at ha
  | sl t ih =>
   cases v with
   | val t' y => exact hval _ _ _ _ _ ha hr
   | nilS => simp at ha; subst ha; simp only [aH] at hr; exact ⟨⟨none, 0, 0, hr, rfl, Nat.le_refl _, Nat.zero_le _, .inl rfl⟩, rfl⟩
   | full t' xs =>
    have h2 : (if e : t' = t then some (e ▸ xs) else none) = some x := by simpa [AV.as] using ha
    split at h2
    ·rename_i e
     subst e
     cases h2
     simp only [aH] at hr
     obtain ⟨p, n, e, hsl⟩ := hr
     exact ⟨⟨p, n, n, e, hsl⟩, rfl⟩
    ·cases h2
   | own i => simp [rowOf] at ha
   | _ => simp [AV.as] at ha
  | unit =>
   cases v with
   | val t' y => exact hval _ _ _ _ _ ha hr
   | agg vs => cases vs with
    | nil => simp only [aH, jN] at hr; exact ⟨hr, rfl⟩
    | cons v vs => simp [AV.as] at ha
   | flat l => simp only [aL4] at ha; exact ⟨hflat _ _ _ _ ha (by simpa [aH] using hr), rfl⟩
   | _ => simp [AV.as] at ha
  | rp t ih =>
   cases v with
   | val t' y => exact hval _ _ _ _ _ ha hr
   | roa t' y =>
    have h2 : (if e : t' = t then some (e ▸ y) else none) = some x := by simpa [AV.as] using ha
    split at h2
    ·rename_i e
     subst e
     cases h2
     simp only [aH] at hr
     exact ⟨hr, rfl⟩
    ·cases h2
   | ptr i p =>
    cases p with
    | nil => simp at ha
    | cons s p => simp [AV.as] at ha
   | _ => simp [AV.as] at ha
  | clo g t ih =>
   cases v with
   | val t' y => exact hval _ _ _ _ _ ha hr
   | fn g' l1 l2 =>
    cases l1 with
    | nil =>
     have h2 : g' = g ∧ AV.as [] t (.agg (l2.map fun i => .ptr i [])) = some x := by simpa [AV.as] using ha
     obtain ⟨rfl, ha⟩ := h2
     simp only [aH] at hr
     obtain ⟨_, h2, e⟩ := hr
     cases l2 with
     | nil =>
      have := ih (.agg []) x [] ha rfl
      exact ⟨⟨[], by simpa using e, this.1⟩, rfl⟩
     | cons i l2 =>
      exfalso
      have hp : ∀ a : Ty, AV.as [] a (.ptr i []) = none := fun a => by cases a <;> simp [AV.as]
      cases t <;> first | (simp [AV.as] at ha; done) | (simp [hp] at ha; done) | (match l2, ha with
       | [], ha => simp [AV.as] at ha
       | [_], ha => simp [AV.as] at ha
       | [_, _], ha => simp [AV.as, asX, aUh] at ha
       | _ :: _ :: _ :: _, ha => simp [AV.as] at ha)
    | cons i l1 => simp [AV.as] at ha
   | _ => simp [AV.as] at ha
  | expr =>
   cases v with
   | val t' y => exact hval _ _ _ _ _ ha hr
   | agg vs =>
    match vs, ha, hr with
    | [a, b, v], ha, hr =>
     simp only [aPi] at ha
     exact ⟨aSs (fun _ h => h) (fun i xs cs h1 _ => by simp [rowOf] at h1) ha (by simpa [aH] using hr), rfl⟩
    | [], ha, _ => simp [AV.as] at ha
    | [_], ha, _ => simp [AV.as] at ha
    | [_, _], ha, _ => simp [AV.as] at ha
    | _ :: _ :: _ :: _ :: _, ha, _ => simp [AV.as] at ha
   | _ => simp [AV.as] at ha
  | _ =>
   cases v with
   | val t' y => exact hval _ _ _ _ _ ha hr
   | _ => simp [AV.as] at ha
theorem aOM {av : AV} {v : Value} {t : Ty} {x : t.den} (hv : aQ c w av v) (ha : AV.as [] t av = some x) : cR w c.S t x v := by
 obtain ⟨h1, h2, h3⟩ := aQo hv ha
 obtain ⟨hr, he⟩ := aHG.as_nil t av x _ ha h1
 exact cR.of_cells (fun e => h2 (by rw [← he]; exact e)) (fun e => h3 (by rw [← he]; exact e)) hr
theorem aMb {ct : Ty} {n : Nat} {place : Nat → Option (Nat × Nat)} (hp : ∀ k, place k = some (k * ct.cells, ct.cells)) : ∀ (ps : List (Nat × AV)) (vs : List (Nat × Value)) (xs : List ct.den) (cells : Array Value) (ys : List ct.den),
  aAk c w ps vs → aPj ct xs ps = some ys → aT w c.S (.arr n ct) xs cells.toList → ∃ cells', Instr.fill place cells vs = some cells' ∧ aT w c.S (.arr n ct) ys cells'.toList
 | _, _, xs, cells, ys, .nil, he, hr => by simp [aPj] at he; subst he; exact ⟨cells, rfl, hr⟩
 | _, _, xs, cells, ys, .cons (k := k) (a := a) (v := v) (ps := ps) (vs := vs) hv r, he, hr => by
  simp only [aPj] at he
  split at he
  ·rename_i x hx
   split at he
   ·rename_i hk
    obtain ⟨hn, css, e, hl, hrep⟩ := hr
    obtain ⟨pre, post, hf, hpl⟩ := jX (t := ct) (css := css) (fun j hj => aT.length _ _ _ (hrep j (by omega) hj)) k (by omega)
    have hvr := (aOM hv hx).cells
    have hvl := aT.length _ _ _ hvr
    have hcl := aT.length _ _ _ (hrep k hk (by omega))
    have hsz : v.cells.size = ct.cells := by rw [← hvl]; simp
    have hstep := aJh (v := v) (e.trans hf) (by rw [hsz, hcl])
    have hnew : aT w c.S (.arr n ct) (xs.set k x) (pre ++ v.cells.toList ++ post) := by
     refine ⟨by simpa using hn, css.set k v.cells.toList, ?_, by simpa using hl, fun i h1 h2 => ?_⟩
     ·have hsp : css = css.take k ++ [css[k]] ++ css.drop (k + 1) := by simp
      have hpre : pre = (css.take k).flatten ∧ post = (css.drop (k + 1)).flatten := by
       have hlen : ((css.take k).flatten).length = k * ct.cells := by
        rw [jD (n := ct.cells) (fun i hi => ?_)]
        ·rw [List.length_take, Nat.min_eq_left (by omega)]
        ·simp at hi; simp only [List.getElem_take]; exact aT.length _ _ _ (hrep i (by omega) (by omega))
       have h3 : css.flatten = (css.take k).flatten ++ css[k] ++ (css.drop (k + 1)).flatten := by
        have h4 := congrArg List.flatten hsp
        simp only [List.flatten_append, List.flatten_cons, List.flatten_nil, List.append_nil] at h4
        exact h4
       rw [h3, List.append_assoc, List.append_assoc] at hf
       obtain ⟨q1, q2⟩ := List.append_inj hf (by rw [hlen, hpl])
       obtain ⟨q3, q4⟩ := List.append_inj q2 rfl
       exact ⟨q1.symm, q4.symm⟩
      rw [hpre.1, hpre.2, List.set_eq_take_append_cons_drop, if_pos (by omega)]
      simp
     ·by_cases hik : k = i
      ·subst hik; simp only [List.getElem_set_self]; exact hvr
      ·simp only [List.getElem_set_ne hik]; exact hrep i (by simpa using h1) (by simpa using h2)
    obtain ⟨cells', h1, h2⟩ := aMb hp ps vs (xs.set k x) _ ys r he (by rw [hstep]; exact hnew)
    refine ⟨cells', ?_, h2⟩
    rw [Instr.fill, hp k]
    have hcs : cells.size = (pre ++ css[k] ++ post).length := by rw [← hf, ← e]; simp
    have hcond : ¬ (v.cells.size ≠ ct.cells ∨ (k * ct.cells + v.cells.size > cells.size)) := by
     rw [← hpl, hsz, hcs]
     simp
     omega
    dsimp only
    rw [if_neg (by simpa using hcond), ← hpl]
    exact h1
   ·cases he
  ·cases he
end
end Go.Vc
namespace Go.Vc
open Go.RowKit
section
variable {P : Program} {T : Tab} {M : Perm} {w0 : World} {c : Ctx} {h : List Obj} {w : World}
theorem aTu : ∀ (t : Ty), t.okB = true → ∀ fs off, dB T fs off t = true → jN c w (iZ t) (cC t) ∧ (iZ t).length = t.flds.length ∧ (∀ i (h : i < (iZ t).length), ((iZ t)[i]).solid1 = true) ∧ (∀ i (h : i < (iZ t).length) (h' : i < t.flds.length), ((iZ t)[i]).nc1 = (t.flds[i]).cells) := by
 intro t
 induction t with
 | unit => intro _ _ _ _; exact ⟨rfl, rfl, fun i h => by simp [iZ] at h, fun i h => by simp [iZ] at h⟩
 | pair a r _ ih =>
  intro hok fs off hf
  cases fs with
  | nil => simp [dB] at hf
  | cons f fs =>
   simp only [Ty.okB, Bool.and_eq_true] at hok
   simp only [dB, Bool.and_eq_true] at hf
   obtain ⟨h1, h2, h3, h4⟩ := ih hok.2 fs _ hf.2
   have main : ∀ u : AV, iZ (.pair a r) = u :: iZ r → u.solid1 = true → u.nc1 = a.cells → aH c w u (cC a) → jN c w (iZ (.pair a r)) (cC (.pair a r)) ∧ (iZ (.pair a r)).length = (Ty.pair a r).flds.length ∧ (∀ i (h : i < (iZ (.pair a r)).length), ((iZ (.pair a r))[i]).solid1 = true) ∧ (∀ i (h : i < (iZ (.pair a r)).length) (h' : i < (Ty.pair a r).flds.length), ((iZ (.pair a r))[i]).nc1 = ((Ty.pair a r).flds[i]).cells) := fun u e q1 q2 q3 => by
    rw [e]
    refine ⟨⟨cC a, cC r, rfl, q3, h1⟩, by simp [Ty.flds, h2], fun i hi => ?_, fun i hi hi' => ?_⟩
    ·cases i with
     | zero => exact q1
     | succ i => exact h3 i (by simpa using hi)
    ·cases i with
     | zero => exact q2
     | succ i => exact h4 i (by simpa using hi) (by simpa [Ty.flds] using hi')
   cases a with
   | sl a => exact main .nilS rfl rfl rfl rfl
   | _ => exact main (.val _ (Ty.zero _)) rfl rfl rfl (eI w c.S _ hok.1)
 | _ => intro _ fs off hf; cases fs <;> simp [dB] at hf
theorem aTv (hT : iS P T) {t : TypeId} {ps : List (Nat × AV)} {vs : List (Nat × Value)} (hp : aAk c w ps vs) (hc : (aJe T t ps).1) :
  ∃ u, (Instr.build t vs.toArray).run P w = .ok u w ∧ aQ c w (aJe T t ps).2 u := by
 unfold aJe at hc ⊢
 cases ht : T t with
 | none => simp [ht] at hc
 | some ct =>
  have hTy := hT _ _ ht
  obtain ⟨d, hd, hb⟩ := hTy.desc
  cases ct with
  | pair a r =>
   simp only [ht] at hc ⊢
   obtain ⟨hok, hpo⟩ := hc
   have hz := pA hTy hok w
   cases d <;> simp only [fT, Bool.false_eq_true] at hb
   rename_i fs
   obtain ⟨h1, h2, h3, h4⟩ := aTu (c := c) (w := w) (T := T) (.pair a r) hok fs.toList 0 hb
   have hzc : (jO (.pair a r)).cells.toList = cC (.pair a r) := by simp [jO, Ty.isAgg, Value.cells]
   have hplaces : ∃ places : Array (Nat × Nat), (fs.mapM (fun f => do pure (f.offset, ← sizeOf f.type)) : Sem _).run P w = .ok places w ∧ ∀ k t, (Ty.pair a r).flds[k]? = some t → places[k]? = some ((((Ty.pair a r).flds.take k).map Ty.cells).foldr (· + ·) 0, t.cells) := by
    have hlen := aHE hb
    refine ⟨(fs.toList.zipWith (fun f t => (f.offset, t.cells)) (Ty.pair a r).flds).toArray, ?_, fun k t hk => ?_⟩
    ·have key : ∀ (l : List Field) (ts : List Ty) (acc : Array (Nat × Nat)), l.length = ts.length → (∀ i (h : i < l.length) (h' : i < ts.length), T (l[i]).type = some ts[i]) →
       ((l.mapM (fun f => do pure (f.offset, ← sizeOf f.type)) : Sem (List (Nat × Nat)))).run P w = .ok (l.zipWith (fun f t => (f.offset, t.cells)) ts) w := by
      intro l
      induction l with
      | nil => intro ts acc hl _; cases ts <;> simp at hl ⊢
      | cons f l ih =>
       intro ts acc hl hty
       cases ts with
       | nil => simp at hl
       | cons t ts =>
        have ht0 := hty 0 (by simp) (by simp)
        simp only [List.getElem_cons_zero] at ht0
        have hsz := dW (hT _ _ ht0) w
        have := ih ts acc (by simpa using hl) (fun i hi hi' => by have := hty (i + 1) (by simpa using hi) (by simpa using hi'); simpa using this)
        simp only [List.mapM_cons, Sem.run_bind, hsz, Result.andThen_ok, Sem.run_pure, this, List.zipWith_cons_cons]
     rw [Array.mapM_eq_mapM_toList]
     have := key fs.toList (Ty.pair a r).flds #[] hlen (fun i hi hi' => by
      obtain ⟨f, q1, q2, q3⟩ := zQ (k := i) hb (List.getElem?_eq_getElem hi')
      rw [List.getElem?_eq_getElem hi] at q1
      simp at q1
      rw [Array.getElem_toList, q1]; exact q2)
     show ((fs.toList.mapM (fun f => do pure (f.offset, ← sizeOf f.type)) : Sem (List (Nat × Nat))) >>= fun l => pure l.toArray).run P w = _
     rw [Sem.run_bind, this]
     rfl
    ·obtain ⟨f, q1, q2, q3⟩ := zQ hb hk
     simp only [List.getElem?_toArray, List.getElem?_zipWith, hk, q1]
     simp [q3]
   obtain ⟨places, hpl, hpp⟩ := hplaces
   obtain ⟨cells', hf, hr⟩ := aHF (c := c) (w := w) (place := (places[·]?)) hpp ps vs (iZ (.pair a r)) (jO (.pair a r)).cells hp hpo (by rw [hzc]; exact h1) h2 h3 h4
   refine ⟨.agg cells', ?_, hr, fun _ => ⟨_, rfl⟩, fun h => by cases h⟩
   simp only [Instr.build, Sem.run_bind, hz, Result.andThen_ok, aV hd, hpl, hf, Sem.run_pure]
  | _ => simp [ht] at hc
theorem aUu (hT : iS P T) {t : TypeId} {ps : List (Nat × AV)} {vs : List (Nat × Value)} (hp : aAk c w ps vs) (hc : (aFX T t ps).1) :
  ∃ u, (Instr.build t vs.toArray).run P w = .ok u w ∧ aQ c w (aFX T t ps).2 u := by
 unfold aFX at hc ⊢
 cases ht : T t with
 | none => simp [ht] at hc
 | some ct =>
  have hTy := hT _ _ ht
  obtain ⟨d, hd, hb⟩ := hTy.desc
  cases ct with
  | pair a r =>
   simp only [ht] at hc ⊢
   obtain ⟨hok, hpo⟩ := hc
   have hz := pA hTy hok w
   cases d <;> simp only [fT, Bool.false_eq_true] at hb
   rename_i fs
   obtain ⟨h1, h2, h3, h4⟩ := aOL (c := c) (w := w) (T := T) (.pair a r) hok fs.toList 0 hb
   have hzc : (jO (.pair a r)).cells.toList = cC (.pair a r) := by simp [jO, Ty.isAgg, Value.cells]
   have hplaces : ∃ places : Array (Nat × Nat), (fs.mapM (fun f => do pure (f.offset, ← sizeOf f.type)) : Sem _).run P w = .ok places w ∧ ∀ k t, (Ty.pair a r).flds[k]? = some t → places[k]? = some ((((Ty.pair a r).flds.take k).map Ty.cells).foldr (· + ·) 0, t.cells) := by
    have hlen := aHE hb
    refine ⟨(fs.toList.zipWith (fun f t => (f.offset, t.cells)) (Ty.pair a r).flds).toArray, ?_, fun k t hk => ?_⟩
    ·have key : ∀ (l : List Field) (ts : List Ty) (acc : Array (Nat × Nat)), l.length = ts.length → (∀ i (h : i < l.length) (h' : i < ts.length), T (l[i]).type = some ts[i]) →
       ((l.mapM (fun f => do pure (f.offset, ← sizeOf f.type)) : Sem (List (Nat × Nat)))).run P w = .ok (l.zipWith (fun f t => (f.offset, t.cells)) ts) w := by
      intro l
      induction l with
      | nil => intro ts acc hl _; cases ts <;> simp at hl ⊢
      | cons f l ih =>
       intro ts acc hl hty
       cases ts with
       | nil => simp at hl
       | cons t ts =>
        have ht0 := hty 0 (by simp) (by simp)
        simp only [List.getElem_cons_zero] at ht0
        have hsz := dW (hT _ _ ht0) w
        have := ih ts acc (by simpa using hl) (fun i hi hi' => by have := hty (i + 1) (by simpa using hi) (by simpa using hi'); simpa using this)
        simp only [List.mapM_cons, Sem.run_bind, hsz, Result.andThen_ok, Sem.run_pure, this, List.zipWith_cons_cons]
     rw [Array.mapM_eq_mapM_toList]
     have := key fs.toList (Ty.pair a r).flds #[] hlen (fun i hi hi' => by
      obtain ⟨f, q1, q2, q3⟩ := zQ (k := i) hb (List.getElem?_eq_getElem hi')
      rw [List.getElem?_eq_getElem hi] at q1
      simp at q1
      rw [Array.getElem_toList, q1]; exact q2)
     show ((fs.toList.mapM (fun f => do pure (f.offset, ← sizeOf f.type)) : Sem (List (Nat × Nat))) >>= fun l => pure l.toArray).run P w = _
     rw [Sem.run_bind, this]
     rfl
    ·obtain ⟨f, q1, q2, q3⟩ := zQ hb hk
     simp only [List.getElem?_toArray, List.getElem?_zipWith, hk, q1]
     simp [q3]
   obtain ⟨places, hpl, hpp⟩ := hplaces
   obtain ⟨cells', hf, hr⟩ := aHF (c := c) (w := w) (place := (places[·]?)) hpp ps vs (uU (.pair a r)) (jO (.pair a r)).cells hp hpo (by rw [hzc]; exact h1) h2 h3 h4
   refine ⟨.agg cells', ?_, aHG hr⟩
   simp only [Instr.build, Sem.run_bind, hz, Result.andThen_ok, aV hd, hpl, hf, Sem.run_pure]
  | unit =>
   simp only [ht] at hc ⊢
   subst hc
   cases hp
   have hz := pA hTy rfl w
   cases d <;> simp only [fT, Bool.false_eq_true] at hb
   rename_i fs
   have hfs : fs = #[] := by
    have := aHE hb
    simp [Ty.flds] at this
    exact this
   subst hfs
   refine ⟨.agg #[], ?_, ⟨rfl, fun _ => ⟨_, rfl⟩, fun h => by cases h⟩⟩
   simp [Instr.build, hz, aV hd, Result.andThen, Instr.fill, jO, Ty.isAgg, cC, Value.cells]
  | expr =>
   simp only [ht] at hc ⊢
   have hz := pA hTy rfl w
   cases d <;> simp only [fT, Bool.false_eq_true] at hb
   rename_i fs
   unfold aSp at hb
   split at hb
   ·rename_i f0 f1 f2 hfs
    simp only [Bool.and_eq_true, decide_eq_true_eq] at hb
    obtain ⟨⟨⟨⟨⟨b1, b2⟩, b3⟩, b4⟩, b5⟩, b6⟩ := hb
    have efs : fs = #[f0, f1, f2] := by rw [← Array.toList_inj]; exact hfs
    have s0 := dW (hT _ _ b1) w
    have s1 := dW (hT _ _ b3) w
    have s2 := dW (hT _ _ b5) w
    have hpl : (fs.mapM (fun f => do pure (f.offset, ← sizeOf f.type)) : Sem _).run P w = .ok #[(0, 1), (1, 1), (2, 1)] w := by
     rw [efs, Array.mapM_eq_mapM_toList]
     show (([f0, f1, f2].mapM (fun f => do pure (f.offset, ← sizeOf f.type)) : Sem (List (Nat × Nat))) >>= fun l => pure l.toArray).run P w = _
     simp only [List.mapM_cons, List.mapM_nil, Sem.run_bind, s0, s1, s2, Result.andThen_ok, Sem.run_pure, b2, b4, b6]
     rfl
    have hzc : (jO .expr).cells.toList = [.int .i64 0, .string ⟨#[]⟩, .slice none 0 0] := rfl
    obtain ⟨cells', hf, hr⟩ := aHF (c := c) (w := w) (place := ((#[(0, 1), (1, 1), (2, 1)] : Array (Nat × Nat))[·]?)) (ts := [.i .i64, .str, .sl .expr]) (fun k t hk => by
     match k, hk with
     | 0, hk => cases hk; rfl
     | 1, hk => cases hk; rfl
     | 2, hk => cases hk; rfl) ps vs [.val (.i .i64) 0, .val .str [], .nilS] (jO .expr).cells hp hc (by
      rw [hzc]
      exact ⟨[_], [_, _], rfl, ⟨rfl, rfl, by decide, by decide⟩, [_], [_], rfl, ⟨⟨#[]⟩, rfl, rfl, Nat.zero_le _⟩, [_], [], rfl, rfl, rfl⟩) rfl (fun i hi => by
      match i, hi with
      | 0, _ => rfl
      | 1, _ => rfl
      | 2, _ => rfl) (fun i hi _ => by
      match i, hi with
      | 0, _ => rfl
      | 1, _ => rfl
      | 2, _ => rfl)
    refine ⟨.agg cells', ?_, aHG hr⟩
    simp only [Instr.build, Sem.run_bind, hz, Result.andThen_ok, aV hd, hpl, hf, Sem.run_pure]
   ·cases hb
  | arr n ct =>
   simp only [ht] at hc ⊢
   cases hs : aPj ct (List.replicate n ct.zero) ps with
   | none => simp [hs] at hc
   | some ys =>
    simp only [hs] at hc ⊢
    obtain ⟨e, hd', he, hpos, _⟩ := aBk hTy
    have hz := pA hTy hc w
    obtain ⟨cells', hf, hr⟩ := aMb (c := c) (w := w) (n := n) (place := fun i => some (i * ct.cells, ct.cells)) (fun _ => rfl) ps vs (List.replicate n ct.zero) (jO (.arr n ct)).cells ys hp hs (by
     have := eI w c.S (.arr n ct) hc
     have e1 : (jO (.arr n ct)).cells.toList = cC (.arr n ct) := by simp [jO, Ty.isAgg, Value.cells]
     rw [e1]; exact this)
    refine ⟨.agg cells', ?_, ⟨hr, fun _ => ⟨_, rfl⟩, fun h => by cases h⟩⟩
    simp [Instr.build, hz, aV hd', dW (hT _ _ he), Result.andThen, hf]
  | _ => simp [ht] at hc
theorem uF (zs : List Value) (n : Nat) (hz : 0 < zs.length) : ((Array.range (n * zs.length)).map (fun i => (zs.toArray)[i % zs.toArray.size]!)).toList = (List.replicate n zs).flatten := by
 simp only [Array.toList_map, Array.toList_range, List.size_toArray]
 induction n with
 | zero => simp
 | succ n ih =>
  rw [Nat.add_mul, Nat.one_mul, List.range_add, List.map_append, ih, List.replicate_succ']
  simp only [List.flatten_append, List.flatten_cons, List.flatten_nil, List.append_nil]
  congr 1
  apply List.ext_getElem
  ·simp
  ·intro i h1 h2
   simp only [List.length_map, List.length_range] at h1
   simp [Nat.mod_eq_of_lt, h1, Nat.add_comm]
theorem Good.alloc (hg : Good M w0 c h w) (o : Go.Obj) : Good M w0 (c.upto w.heap.size (w.heap.size + 1)) h (w.alloc o) ∧ dE c w (c.upto w.heap.size (w.heap.size + 1)) (w.alloc o) := by
 have hk : fJ nothing w (w.alloc o) := fJ.alloc nothing w o
 have h1 := hg.call hk
 have h2 := rK hg hk
 have e : (w.alloc o).heap.size = w.heap.size + 1 := by simp
 rw [e] at h1 h2
 exact ⟨h1, h2⟩
theorem aN4 (hT : iS P T) (hg : Good M w0 c h w) {t : TypeId} {n : Nat} {ps : List (Nat × AV)} {vs : List (Nat × Value)} (hp : aAk c w ps vs) (hc : (vX T t n ps).1) :
  ∃ u w' c', (Instr.buildSlice t n vs.toArray).run P w = .ok u w' ∧ aE5 P M w0 h c w (vX T t n ps).2 u w' c' := by
 unfold vX at hc ⊢
 cases ht : T t with
 | none => simp [ht] at hc
 | some ct =>
  cases ct with
  | sl ct =>
   simp only [ht] at hc ⊢
   cases hs : aPj ct (List.replicate n ct.zero) ps with
   | none => simp [hs] at hc
   | some ys =>
    simp only [hs] at hc ⊢
    obtain ⟨hok, hn1, hn2⟩ := hc
    obtain ⟨e, hd, he, hpos⟩ := eE (hT _ _ ht)
    have hTe := hT _ _ he
    have hz := pA hTe hok w
    have hzc : (jO ct).cells.toList = cC ct := by
     have := (aEZ w c.S ct hok).cells
     unfold jO
     split
     ·simp [Value.cells]
     ·have h1 : (cC ct).length = 1 := by
       rw [aT.length _ _ _ (eI w c.S ct hok)]
       rename_i ha
       cases ct <;> simp_all [Ty.isAgg, Ty.cells]
      match hzz : cC ct, h1 with
      | [v], _ =>
       have hone := aT.one ct _ _ (eI w c.S ct hok) v (by rw [hzz]; simp)
       simp only [List.headD_cons]
       cases v <;> first | rfl | exact hone.elim
    have hzl : (cC ct).length = ct.cells := aT.length _ _ _ (eI w c.S ct hok)
    have hza : (jO ct).cells = (cC ct).toArray := by rw [← hzc]
    have hcells : ((Array.range (n * ct.cells)).map (fun i => (cC ct).toArray[i % (cC ct).toArray.size]!)).toList = (List.replicate n (cC ct)).flatten := by
     rw [← hzl]; exact uF _ n (by omega)
    obtain ⟨cells', hf, hr⟩ := aMb (c := c) (w := w) (n := n) (place := fun i => some (i * ct.cells, ct.cells)) (fun _ => rfl) ps vs (List.replicate n ct.zero) ((Array.range (n * ct.cells)).map (fun i => (cC ct).toArray[i % (cC ct).toArray.size]!)) ys hp hs (by
     rw [hcells]
     exact eI w c.S (.arr n ct) hok)
    obtain ⟨g1, g2⟩ := hg.alloc (.cells cells' e (0, 0))
    refine ⟨.slice (some ⟨w.heap.size, 0, none⟩) n n, w.alloc (.cells cells' e (0, 0)), _, ?_, g2, ⟨rfl, rfl⟩, g1, fJ.alloc nothing w _, fun b hb => hb.imp id And.left, ?_⟩
    ·have hle : ¬ (n * ct.cells > 2 ^ 24) := by omega
     by_cases h0 : n * ct.cells = 0
     ·have hn0 : n = 0 := by
       rcases Nat.mul_eq_zero.1 h0 with h | h
       ·exact h
       ·omega
      subst hn0
      have e0 : (Array.range (0 * ct.cells)).map (fun i => (cC ct).toArray[i % (cC ct).toArray.size]!) = #[] := by simp
      rw [e0] at hf
      have hle : ¬ (0 * ct.cells > 2 ^ 24) := by omega
      have e1 : (Array.range (0 * ct.cells)).map (fun x => (#[] : Array Value)[x % (#[] : Array Value).size]!) = #[] := by simp
      simp only [Instr.buildSlice, Sem.run_bind, aV hd, Result.andThen_ok, dW hTe, hle, if_false, Nat.zero_mul, if_true, Sem.run_ite, Sem.run_pure]
      simp only [Nat.zero_mul] at e1
      rw [e1, hf]
      rfl
     ·rw [← hza] at hf
      simp only [Instr.buildSlice, Sem.run_bind, aV hd, Result.andThen_ok, dW hTe, hle, if_false, h0, hz, Sem.run_ite, Sem.run_pure, hf]
      rfl
    ·obtain ⟨hyn, css, hcs, hl, hrep⟩ := hr
     refine ⟨⟨some ⟨w.heap.size, 0, none⟩, n, rfl, hyn, Nat.le_refl _, hn2, .inr ⟨w.heap.size, 0, rfl, .inr ⟨Nat.le_refl _, Nat.lt_succ_self _⟩, fun i hi => ?_⟩⟩, (fun h => by cases h), (fun _ cs => by simp)⟩
     refine ⟨css[i], aT.keep g2.le.S g2.same _ _ _ (hrep i hi (by omega)), ?_⟩
     obtain ⟨pre, post, hf', hpl⟩ := jX (t := ct) (css := css) (fun j hj => aT.length _ _ _ (hrep j (by omega) hj)) i (by omega)
     rw [Nat.zero_add, ← hpl]
     refine qK (cells := cells') (e := e) (fz := (0, 0)) ?_ (hcs.trans hf')
     show (w.heap.push _)[w.heap.size]? = _
     rw [Array.getElem?_push_size]
  | _ => simp [ht] at hc
theorem aJi {mx : Bool} {x y : AV} {v u : Value} (hv : aQ c w x v) (hu : aQ c w y u) (hc : (mm2 mx x y).1) :
  ∃ r, ((if mx then Builtin.max2 v u else Builtin.min2 v u)).run P w = .ok r w ∧ aQ c w (mm2 mx x y).2 r := by
 cases x with
 | val t1 a =>
  cases t1 with
  | i k =>
   cases y with
   | val t2 b =>
    cases t2 with
    | i k' =>
     obtain ⟨rfl, hk, ha⟩ := aEY hv
     obtain ⟨rfl, hk', hb⟩ := aEY hu
     simp only [mm2] at hc ⊢
     split at hc
     ·rename_i e
      subst e
      simp only [if_true]
      cases mx
      ·refine ⟨_, by simp only [Builtin.min2]; rfl, ?_⟩
       simp only [Bool.false_eq_true, if_false]
       rw [show (if b < a then b else a) = min a b from minI a b]
       refine uT hk ?_
       rcases minI_or a b with e | e <;> rw [e] <;> assumption
      ·refine ⟨_, by simp only [Builtin.max2]; rfl, ?_⟩
       simp only [if_true]
       rw [show (if b > a then b else a) = max a b from maxI a b]
       refine uT hk ?_
       rcases maxI_or a b with e | e <;> rw [e] <;> assumption
     ·exact hc.elim
    | _ => exact hc.elim
   | _ => exact hc.elim
  | u k =>
   cases y with
   | val t2 b =>
    cases t2 with
    | u k' =>
     obtain ⟨rfl, hk, ha⟩ := aEX hv
     obtain ⟨rfl, hk', hb⟩ := aEX hu
     simp only [mm2] at hc ⊢
     split at hc
     ·rename_i e
      subst e
      simp only [if_true]
      cases mx
      ·refine ⟨_, by simp only [Builtin.min2]; rfl, ?_⟩
       simp only [Bool.false_eq_true, if_false]
       rw [show (if (b : Int) < a then (b : Int) else a) = ((min a b : Nat) : Int) from minN a b]
       refine aEJ hk ?_
       rcases minN_or a b with e | e <;> rw [e] <;> assumption
      ·refine ⟨_, by simp only [Builtin.max2]; rfl, ?_⟩
       simp only [if_true]
       rw [show (if (b : Int) > a then (b : Int) else a) = ((max a b : Nat) : Int) from maxN a b]
       refine aEJ hk ?_
       rcases maxN_or a b with e | e <;> rw [e] <;> assumption
     ·exact hc.elim
    | _ => exact hc.elim
   | _ => exact hc.elim
  | _ => exact hc.elim
 | _ => exact hc.elim
where
 minI (a b : Int) : (if b < a then b else a) = min a b := by omega
 maxI (a b : Int) : (if b > a then b else a) = max a b := by omega
 minI_or (a b : Int) : min a b = a ∨ min a b = b := by omega
 maxI_or (a b : Int) : max a b = a ∨ max a b = b := by omega
 minN (a b : Nat) : (if (b : Int) < a then (b : Int) else a) = ((min a b : Nat) : Int) := by omega
 maxN (a b : Nat) : (if (b : Int) > a then (b : Int) else a) = ((max a b : Nat) : Int) := by omega
 minN_or (a b : Nat) : min a b = a ∨ min a b = b := by omega
 maxN_or (a b : Nat) : max a b = a ∨ max a b = b := by omega
theorem aSB {t : TypeId} {x : AV} {v : Value} (hv : aQ c w x v) : aQ c w (aQl T t x) v := by
 cases x with
 | flat l =>
  simp only [aQl]
  split
  ·split
   ·rename_i ct _ x ha
    exact aQ.ofV (aOM hv ha)
   ·exact hv
  ·exact hv
 | _ => exact hv
end
end Go.Vc
namespace Go.Vc
open Go.RowKit
section
variable {P : Program} {T : Tab} {M : Perm} {w0 : World} {c : Ctx} {h : List Obj} {w : World}
theorem aPm {t : TypeId} {k : IntKind} (hTy : aAJ P T t (.u k)) : P.underlying t = some (.int k) := by
 obtain ⟨d, hd, hb⟩ := hTy.desc
 cases d <;> simp [fT] at hb
 obtain ⟨rfl, _⟩ := hb
 exact hd
noncomputable def aUv (T : Tab) (h : List Obj) (s d : TypeId) (x : AV) : Prop × AV :=
 match T d, x with
 | some (.sl (.u .u8)), .val .str b => (T s = some .str, .val (.sl (.u .u8)) b)
 | some .str, x => match T s with
  | some (.sl (.u .u8)) => match x with
   | .sub k sz off n => match h[k]? with
    | some (.box _ (.val (.arr m (.u .u8)) xs)) => (sz = 1 ∧ off + n ≤ m, .val .str ((xs.drop off).take n))
    | _ => (False, .junk)
   | x => match AV.as h (.sl (.u .u8)) x with
    | some b => (True, .val .str b)
    | none => (False, .junk)
  | _ => aJd T s d x
 | _, x => aJd T s d x
theorem aQr (hT : iS P T) (hg : Good M w0 c h w) {s d : TypeId} {b : List Nat} {v : Value} (hs : T s = some .str) (hd : T d = some (.sl (.u .u8))) (hv : aQ c w (.val .str b) v) :
  ∃ u w' c', (convert s d v).run P w = .ok u w' ∧ aE5 P M w0 h c w (.val (.sl (.u .u8)) b) u w' c' := by
 obtain ⟨st, rfl, rfl, hm⟩ := aJ9 hv
 obtain ⟨e, hd', he, _⟩ := eE (hT _ _ hd)
 have hrun := run_bytes_of_string (P := P) w s d e st (vB (hT _ _ hs)) hd' (aPm (hT _ _ he))
 obtain ⟨w', hw'⟩ : ∃ w', w' = w.drew.alloc (.cells (bytesRow st (grownCap w st.size 0 e)) e ((bytesRow st (grownCap w st.size 0 e)).size, (bytesRow st (grownCap w st.size 0 e)).size + 1)) := ⟨_, rfl⟩
 rw [← hw'] at hrun
 have hheap : w'.heap = w.heap.push (.cells (bytesRow st (grownCap w st.size 0 e)) e ((bytesRow st (grownCap w st.size 0 e)).size, (bytesRow st (grownCap w st.size 0 e)).size + 1)) := by rw [hw']; rfl
 have hk : fJ nothing w w' := ⟨by rw [hw']; rfl, by rw [hw']; rfl, by rw [hw']; rfl, by rw [hheap]; simp, fun b hb _ => by rw [hheap]; simp [Array.getElem?_push, Nat.ne_of_lt hb]⟩
 have g1 := hg.call hk
 have g2 := rK hg hk
 refine ⟨_, w', _, hrun, g2, ⟨rfl, rfl⟩, g1, hk, fun b hb => hb.imp id And.left, ⟨⟨_, _, _, rfl, ?_, grownCap_ge _ _ _ _, grownCap_le_maxLen _ _ _ _ hm, .inr ⟨w.heap.size, 0, rfl, .inr ⟨Nat.le_refl _, by rw [hheap]; simp⟩, fun i hi => ?_⟩⟩, (fun h => by cases h), (fun _ cs => by simp)⟩⟩
 ·exact oB st
 ·have hi' : i < st.data.size := by rw [oB] at hi; exact hi
  have hsz : st.data.size = st.size := rfl
  have hge := grownCap_ge w st.size 0 e
  refine ⟨[.int .u8 (st.data[i].toNat : Int)], ⟨?_, rfl, ?_⟩, ?_⟩
  ·simp [aP]
  ·have : (aP st)[i] = st.data[i].toNat := by simp [aP]
   rw [this]
   have := st.data[i].toNat_lt
   simp only [IntKind.max, IntKind.signed, IntKind.bits]
   simp
   omega
  ·have hc := qK (w := w') (b := w.heap.size) (cells := bytesRow st (grownCap w st.size 0 e)) (e := e) (fz := ((bytesRow st (grownCap w st.size 0 e)).size, (bytesRow st (grownCap w st.size 0 e)).size + 1)) (pre := (bytesRow st (grownCap w st.size 0 e)).toList.take i) (ds := [.int .u8 (st.data[i].toNat : Int)]) (post := (bytesRow st (grownCap w st.size 0 e)).toList.drop (i + 1)) (by rw [hheap]; simp) (by
    have hlt : i < (bytesRow st (grownCap w st.size 0 e)).toList.length := by simp [bytesRow]; omega
    have hg : (bytesRow st (grownCap w st.size 0 e)).toList[i] = .int .u8 (st.data[i].toNat : Int) := by
     simp only [bytesRow, Array.toList_append, Array.toList_map, Array.toList_replicate]
     rw [List.getElem_append_left (by simpa using hi')]
     simp
    rw [← hg, List.append_assoc, List.singleton_append, List.getElem_cons_drop, List.take_append_drop])
   have hl : ((bytesRow st (grownCap w st.size 0 e)).toList.take i).length = i := by simp [bytesRow]; omega
   rw [hl] at hc
   simpa [Ty.cells] using hc
theorem aC9 {s d e : TypeId} {b : List Nat} {bl off cap : Nat} (hs' : P.underlying s = some (.slice e)) (he' : P.underlying e = some (.int .u8)) (hd' : P.underlying d = some .string) (hm : b.length ≤ maxLen)
  (hb : ∀ i (hi : i < b.length), b[i] < 256 ∧ w.cell? ⟨bl, off + i, none⟩ = some (.int .u8 (b[i] : Int))) :
  ∃ u, (convert s d (.slice (some ⟨bl, off, none⟩) b.length cap)).run P w = .ok u w ∧ aQ c w (.val .str b) u := by
 have hl : (b.map UInt8.ofNat).length = b.length := by simp
 have hback : ∀ i (hi : i < b.length), (UInt8.ofNat b[i]).toNat = b[i] := fun i hi => by
  have := (hb i hi).1
  simp [UInt8.toNat_ofNat']
  omega
 have hrun := run_convert_bytes_back (P := P) w s d e ⟨bl, off, none⟩ cap (b.map UInt8.ofNat) hs' he' hd' (fun j hj => by
  have hj' : j < b.length := by simpa using hj
  have h2 := (hb j hj').2
  rw [List.getElem_map, hback j hj']
  simp only [Addr.add]
  split
  ·rename_i h0; subst h0; simpa using h2
  ·exact h2)
 rw [hl] at hrun
 refine ⟨_, hrun, ⟨⟨⟨(b.map UInt8.ofNat).toArray⟩, rfl, ?_, ?_⟩, (fun h => by cases h), (fun _ cs => by simp)⟩⟩
 ·apply List.ext_getElem
  ·simp [aP]
  ·intro i h1 h2
   have := hback i h2
   simpa [aP] using this
 ·show (b.map UInt8.ofNat).toArray.size ≤ maxLen
  simp
  exact hm
theorem aPn (hT : iS P T) (hg : Good M w0 c h w) {s d : TypeId} {k off n m q : Nat} {xs : List Nat} {v : Value} (hs : T s = some (.sl (.u .u8))) (hd : T d = some .str) (hv : aQ c w (.sub k 1 off n) v)
  (ho : h[k]? = some (.box q (.val (.arr m (.u .u8)) xs))) (hle : off + n ≤ m) :
  ∃ u, (convert s d v).run P w = .ok u w ∧ aQ c w (.val .str ((xs.drop off).take n)) u := by
 obtain ⟨_, hn, b, cap, hb, rfl⟩ := aLM hv
 obtain ⟨b', cells, e2, hhd, hheap, _, hcl⟩ := hg.objs k _ ho
 rw [hhd] at hb
 simp only [aN, Option.some.injEq] at hb
 subst hb
 obtain ⟨e, hs', he, _⟩ := eE (hT _ _ hs)
 obtain ⟨hlen, css, hcs, hcl2, hrep⟩ := hcl
 have hlen : xs.length = m := hlen
 have hl : ((xs.drop off).take n).length = n := by simp; omega
 have key := aC9 (P := P) (w := w) (c := c) (b := (xs.drop off).take n) (bl := b') (off := off * 1) (cap := cap) hs' (aPm (hT _ _ he)) (vB (hT _ _ hd)) (by rw [hl]; exact hn) (fun i hi => by
  rw [hl] at hi
  have hx : off + i < xs.length := by omega
  have hx' : off + i < css.length := by omega
  obtain ⟨h1, _, h3⟩ := hrep (off + i) hx hx'
  have hg2 : ((xs.drop off).take n)[i]'(by rw [hl]; exact hi) = xs[off + i] := by simp
  rw [hg2]
  refine ⟨?_, ?_⟩
  ·simp only [IntKind.max, IntKind.signed, IntKind.bits] at h3
   simp at h3
   omega
  ·obtain ⟨pre, post, hf, hpl⟩ := jX (t := .u .u8) (css := css) (fun j hj => aT.length _ _ _ (hrep j (by omega) hj)) (off + i) hx'
   have hc := qK (w := w) (b := b') (cells := cells) (e := e2) (fz := (0, 0)) hheap (hcs.trans hf)
   have := hc 0 (.int .u8 (xs[off + i] : Int)) (by rw [h1]; rfl)
   rw [hpl] at this
   simpa [Ty.cells, Nat.mul_one] using this)
 rw [hl] at key
 exact key
theorem aN5 (hT : iS P T) (hg : Good M w0 c h w) {s d : TypeId} {x : AV} {b : List Nat} {v : Value} (hs : T s = some (.sl (.u .u8))) (hd : T d = some .str) (hv : aQ c w x v) (ha : AV.as h (.sl (.u .u8)) x = some b) :
  ∃ u, (convert s d v).run P w = .ok u w ∧ aQ c w (.val .str b) u := by
 obtain ⟨a, len, cap, rfl, hlen, hle, hm, hor⟩ := aBj (c := ⟨aB8 c h, c.hd, c.n, c.bl⟩) (aF2 hg hv ha)
 obtain ⟨e, hs', he, _⟩ := eE (hT _ _ hs)
 have hd' := vB (hT _ _ hd)
 have he' := aPm (hT _ _ he)
 subst hlen
 rcases hor with rfl | ⟨bl, off, rfl, _, hcell⟩
 ·cases a with
  | none => exact ⟨_, run_convert_bytes_nil w s e hs' he' _ _ d hd', ⟨⟨ByteArray.empty, rfl, rfl, Nat.zero_le _⟩, (fun h => by cases h), (fun _ cs => by simp)⟩⟩
  | some a => exact ⟨_, run_convert_bytes_back w s d e a cap [] hs' he' hd' (fun j hj => by simp at hj), ⟨⟨⟨#[]⟩, rfl, rfl, Nat.zero_le _⟩, (fun h => by cases h), (fun _ cs => by simp)⟩⟩
 ·have hb : ∀ i (hi : i < b.length), b[i] < 256 ∧ w.cell? ⟨bl, off + i, none⟩ = some (.int .u8 (b[i] : Int)) := fun i hi => by
   obtain ⟨ds, ⟨rfl, _, hmx⟩, hc⟩ := hcell i hi
   refine ⟨?_, ?_⟩
   ·simp only [IntKind.max, IntKind.signed, IntKind.bits] at hmx
    simp at hmx
    omega
   ·have := hc 0 (.int .u8 (b[i] : Int)) rfl
    simpa [Ty.cells] using this
  exact aC9 hs' he' hd' (Nat.le_trans hle hm) hb
end
end Go.Vc
namespace Go.Vc
open Go.RowKit
def Ty.key1 : Ty → Bool
 | .bool => true
 | .u _ => true
 | .i _ => true
 | .str => true
 | _ => false
def Ty.keyB : Ty → Bool
 | .arr _ t => t.key1
 | t => t.key1
def aBW {β : Type} (c : Ty) : List (c.den × β) → c.den → Option β
 | [], _ => none
 | (k, v) :: r, x => if c.eqb x k = true then some v else aBW c r x
def aBX {β : Type} (c : Ty) : List (c.den × β) → c.den → β → List (c.den × β)
 | [], x, y => [(x, y)]
 | (k, v) :: r, x, y => if c.eqb x k = true then (k, y) :: r else (k, v) :: aBX c r x y
theorem aHH {c : Ty} (h : c.key1 = true) : c.cmpB = true ∧ c.deep = 0 ∧ c.isAgg = false ∧ c.cells = 1 := by
 cases c <;> simp_all [Ty.key1, Ty.cmpB, Ty.deep, Ty.isAgg, Ty.cells]
theorem aQs {c : Ty} (h : c.keyB = true) : c.cmpB = true ∧ c.deep ≤ 100 := by
 cases c <;> first | (simp_all [Ty.keyB, Ty.key1, Ty.cmpB, Ty.deep]; done) | skip
 rename_i n t
 have := aHH (c := t) h
 simp [Ty.cmpB, Ty.deep, this.1, this.2.1]
theorem aSC {w w' : World} {S S' : Nat → Prop} : ∀ {c : Ty} {x y : c.den} {v u : Value}, c.key1 = true → aT w S c x [v] → aT w' S' c y [u] → (c.eqb x y = true ↔ v = u)
 | .bool, x, y, v, u, _, hx, hy => by
  simp only [aT, List.cons.injEq, and_true] at hx hy; subst hx; subst hy; simp [Ty.eqb]
 | .u k, x, y, v, u, _, hx, hy => by
  obtain ⟨hx, _⟩ := hx
  obtain ⟨hy, _⟩ := hy
  simp only [List.cons.injEq, and_true] at hx hy; subst hx; subst hy; simp [Ty.eqb, Int.natCast_inj]
 | .i k, x, y, v, u, _, hx, hy => by
  obtain ⟨hx, _⟩ := hx
  obtain ⟨hy, _⟩ := hy
  simp only [List.cons.injEq, and_true] at hx hy; subst hx; subst hy; simp [Ty.eqb]
 | .str, x, y, v, u, _, hx, hy => by
  obtain ⟨s, hx, e1, _⟩ := hx
  obtain ⟨t, hy, e2, _⟩ := hy
  simp only [List.cons.injEq, and_true] at hx hy
  subst hx; subst hy; subst e1; subst e2
  simp only [Ty.eqb, decide_eq_true_eq, Value.string.injEq]
  exact ⟨aL2, fun h => by rw [h]⟩
theorem aMc {w : World} {S : Nat → Prop} {c : Ty} {x : c.den} {cs : List Value} (h1 : c.cells = 1) (h : aT w S c x cs) : ∃ v, cs = [v] := by
 have hl := (aT.length _ _ _ h).trans h1
 match cs, hl with
 | [v], _ => exact ⟨v, rfl⟩
theorem aSD {t : Ty} {w w' : World} {S S' : Nat → Prop} (ht : t.key1 = true) : ∀ (X Y : List t.den) (css css' : List (List Value)), css.length = X.length → css'.length = Y.length → X.length = Y.length →
  (∀ i (h : i < X.length) (h' : i < css.length), aT w S t X[i] css[i]) → (∀ i (h : i < Y.length) (h' : i < css'.length), aT w' S' t Y[i] css'[i]) → ((List.zipWith t.eqb X Y).all id = true ↔ css.flatten = css'.flatten)
 | [], [], [], [], _, _, _, _, _ => by simp
 | x :: X, y :: Y, a :: css, b :: css', h1, h2, h3, hx, hy => by
  have r0 := hx 0 (by simp) (by simp)
  have r0' := hy 0 (by simp) (by simp)
  simp only [List.getElem_cons_zero] at r0 r0'
  obtain ⟨v, rfl⟩ := aMc (aHH ht).2.2.2 r0
  obtain ⟨u, rfl⟩ := aMc (aHH ht).2.2.2 r0'
  have rec_ := aSD ht X Y css css' (by simpa using h1) (by simpa using h2) (by simpa using h3) (fun i h h' => by have := hx (i + 1) (by simpa using h) (by simpa using h'); simpa using this) (fun i h h' => by have := hy (i + 1) (by simpa using h) (by simpa using h'); simpa using this)
  simp only [List.zipWith_cons_cons, List.all_cons, id, Bool.and_eq_true, rec_, aSC ht r0 r0', List.flatten_cons, List.cons_append, List.nil_append, List.cons.injEq]
theorem aUw {w w' : World} {S S' : Nat → Prop} {c : Ty} {x y : c.den} {v u : Value} (hc : c.keyB = true) (hx : cR w S c x v) (hy : cR w' S' c y u) : c.eqb x y = true ↔ v = u := by
 unfold cR at hx hy
 cases c <;> first | (simp [Ty.keyB, Ty.key1] at hc; done) | skip
 case arr n t =>
  simp only [Ty.isAgg, if_true] at hx hy
  obtain ⟨⟨cs⟩, rfl, hx⟩ := hx
  obtain ⟨⟨ds⟩, rfl, hy⟩ := hy
  obtain ⟨h1, css, h2, h3, h4⟩ := hx
  obtain ⟨h1', css', h2', h3', h4'⟩ := hy
  simp only at h2 h2'
  have := aSD (t := t) hc x y css css' h3 h3' (h1.trans h1'.symm) (fun i h h' => h4 i h h') (fun i h h' => h4' i h h')
  simp only [Ty.eqb, this]
  subst h2; subst h2'
  simp
 all_goals (simp only [Ty.isAgg, Bool.false_eq_true, if_false] at hx hy; exact aSC hc hx hy)
section
variable {P : Program} {T : Tab}
theorem aUx (em : Bool) (n : Nat) {t : TypeId} {c : Ty} (hT : aAJ P T t c) (hc : c.key1 = true) (v : Value) (w : World) : (Instr.checkKey em (n + 1) t v).run P w = .ok () w := by
 obtain ⟨d, hd, hb⟩ := hT.desc
 unfold Instr.checkKey
 simp only [Sem.run_bind, aV hd, Result.andThen_ok]
 cases c <;> first | (simp [Ty.key1] at hc; done) | skip
 all_goals (cases d <;> first | (simp [fT] at hb; done) | skip)
 all_goals (cases v <;> rfl)
def uV (em : Bool) (d : Nat) (e : TypeId) (n : Nat) (xs : Array Value) : List Nat → Sem Unit
 | [] => pure ()
 | i :: r => do
  let a ← part e xs (i * n)
  Instr.checkKey em d e a
  uV em d e n xs r
theorem aKZ (em : Bool) (d : Nat) (t e : TypeId) (len n : Nat) (xs : Array Value) (w : World) (ht : P.underlying t = some (.array len e)) (hn : ∀ w, (sizeOf e).run P w = .ok n w) :
  (Instr.checkKey em (d + 1) t (.agg xs)).run P w = (uV em d e n xs (List.range' 0 len)).run P w := by
 simp only [Instr.checkKey, Sem.run_bind, aV ht, Result.andThen_ok]
 simp only [Std.Legacy.Range.forIn_eq_forIn_range', Std.Legacy.Range.size]
 simp only [Nat.sub_zero, Nat.add_sub_cancel, Nat.div_one]
 generalize List.range' 0 len = is
 clear ht
 induction is generalizing w with
 | nil => simp [uV]
 | cons i r ih =>
  simp only [List.forIn_cons, uV, Sem.run_bind, hn, Result.andThen_ok]
  generalize (part e xs (i * n)).run P w = r1
  cases r1 with
  | ok a w1 =>
   simp only [Result.andThen_ok]
   generalize (Instr.checkKey em d e a).run P w1 = r2
   cases r2 with
   | ok b w2 => simp only [Result.andThen_ok, Sem.run_pure]; exact ih w2
   | halt x w2 => simp [Result.andThen]
  | halt x w1 => simp [Result.andThen]
theorem aE7 (em : Bool) (d : Nat) {w : World} {S : Nat → Prop} {e : TypeId} {t : Ty} (hT : aAJ P T e t) (ht : t.key1 = true) {xs : Array Value} : ∀ (k i : Nat) (X : List t.den) (pre : List Value) (css : List (List Value)) (w' : World),
   X.length = k → css.length = k → (∀ j (h : j < X.length) (h' : j < css.length), aT w S t X[j] css[j]) → xs.toList = pre ++ css.flatten → pre.length = i * t.cells → (uV em (d + 1) e t.cells xs (List.range' i k)).run P w' = .ok () w'
 | 0, i, X, _, _, w', hX, _, _, _, _ => by simp [uV]
 | k + 1, i, X, pre, css, w', hX, hc, hr, hx, hp => by
  match X, css, hX, hc with
  | x :: X, c :: cs, hX, hc =>
   have r0 := hr 0 (by simp) (by simp)
   simp only [List.getElem_cons_zero] at r0
   obtain ⟨va, e1, q1⟩ := aBo hT (cs := xs) (pre := pre) (ds := c) (post := cs.flatten) (by rw [hx]; simp) r0 w'
   rw [hp] at e1
   have l1 := aT.length _ _ _ r0
   have rec_ := aE7 em d hT ht (xs := xs) k (i + 1) X (pre ++ c) cs w' (by simpa using hX) (by simpa using hc)
    (fun j h h' => by have := hr (j + 1) (by simpa using h) (by simpa using h'); simpa using this) (by rw [hx]; simp) (by simp [hp, l1, Nat.add_mul])
   simp only [List.range'_succ, uV, Sem.run_bind, e1, Result.andThen_ok, aUx em d hT ht, rec_]
theorem aGq (em : Bool) (n : Nat) (hT : iS P T) {t : TypeId} {c : Ty} (ht : T t = some c) (hc : c.keyB = true) {w : World} {S : Nat → Prop} {x : c.den} {v : Value} (hx : cR w S c x v) (w' : World) : (Instr.checkKey em (n + 2) t v).run P w' = .ok () w' := by
 cases c <;> first | (simp [Ty.keyB, Ty.key1] at hc; done) | exact aUx em (n + 1) (hT _ _ ht) hc v w' | skip
 rename_i m q
 obtain ⟨d, hd, hb⟩ := (hT _ _ ht).desc
 cases d <;> simp [fT] at hb
 rename_i len e
 obtain ⟨⟨⟨rfl, hb2⟩, hb3⟩, hb4⟩ := hb
 unfold cR at hx
 simp only [Ty.isAgg, if_true] at hx
 obtain ⟨cs, rfl, hx⟩ := hx
 obtain ⟨h1, css, h2, h3, h4⟩ := hx
 rw [aKZ em (n + 1) t e m q.cells cs w' hd (dW (hT _ _ hb2))]
 exact aE7 em n (hT _ _ hb2) hc m 0 x [] css w' h1 (h3.trans h1) (fun j h h' => h4 j h h') (by simpa using h2) (by simp)
def aDa (c : Ty) {β : Type} (x : c.den) : List (c.den × β) → List MapEntry → Nat → Option (Nat × Value)
 | (k, _) :: m, e :: es, i => if c.eqb x k = true then some (i, e.val) else aDa c x m es (i + 1)
 | _, _, _ => none
theorem aJj {c : Ty} {β : Type} {w : World} {S : Nat → Prop} {x : c.den} : ∀ (m : List (c.den × β)) (es : List MapEntry) (i : Nat), es.length = m.length →
  match aBW c m x with
  | some y => ∃ j e k, aDa c x m es i = some (i + j, e.val) ∧ es[j]? = some e ∧ m[j]? = some (k, y) ∧ c.eqb x k = true ∧ ∀ y', aBX c m x y' = m.set j (k, y')
  | none => aDa c x m es i = none ∧ ∀ y', aBX c m x y' = m ++ [(x, y')]
 | [], [], i, _ => by simp [aBW, aDa, aBX]
 | (k, y) :: m, e :: es, i, hl => by
  have rec_ := aJj (w := w) (S := S) (x := x) m es (i + 1) (by simpa using hl)
  simp only [aBW, aDa, aBX]
  by_cases hq : c.eqb x k = true
  ·simp only [hq, if_true]
   exact ⟨0, e, k, rfl, rfl, rfl, hq, fun y' => rfl⟩
  ·simp only [hq, if_false]
   split at rec_
   ·rename_i y1 hy
    obtain ⟨j, e1, k1, r1, r2, r3, r4, r5⟩ := rec_
    simp only [hy]
    exact ⟨j + 1, e1, k1, by simp [hq, r1]; omega, by simpa using r2, by simpa using r3, r4, fun y' => by simp [hq, r5]⟩
   ·rename_i hy
    simp only [hy]
    exact ⟨by simp [hq, rec_.1], fun y' => by simp [hq, rec_.2]⟩
theorem aE8 (hT : iS P T) {t : TypeId} {c : Ty} (ht : T t = some c) (hc : c.keyB = true) {β : Type} {w : World} {S : Nat → Prop} {x : c.den} {v : Value} (hx : cR w S c x v) (w' : World) : ∀ (m : List (c.den × β)) (es : List MapEntry) (i : Nat), es.length = m.length →
  (∀ j (h : j < m.length) (h' : j < es.length), cR w S c m[j].1 es[j].key) → (Instr.findAsking t v es i).run P w' = .ok (aDa c x m es i) w'
 | [], [], i, _, _ => by simp [Instr.findAsking, aDa]
 | (k, y) :: m, e :: es, i, hl, hr => by
  have h0 := hr 0 (by simp) (by simp)
  simp only [List.getElem_cons_zero] at h0
  have hq := aDD (P := P) hT w' ht (aQs hc).1 (aQs hc).2 hx h0
  have rec_ := aE8 hT ht hc hx w' m es (i + 1) (by simpa using hl) (fun j h h' => by have := hr (j + 1) (by simpa using h) (by simpa using h'); simpa using this)
  simp only [Instr.findAsking, Sem.run_bind, hq, Result.andThen_ok, aDa, Sem.run_ite, rec_, Sem.run_pure]
  split <;> rfl
theorem aKd {t : TypeId} {c : Ty} (hT : aAJ P T t c) (hc : c.key1 = true) {d : TypeDesc} (hd : P.underlying t = some d) {β : Type} {w : World} {S : Nat → Prop} {x : c.den} {v : Value} (hx : cR w S c x v) : ∀ (m : List (c.den × β)) (es : List MapEntry) (i : Nat), es.length = m.length →
  (∀ j (h : j < m.length) (h' : j < es.length), cR w S c m[j].1 es[j].key) → Instr.findNow d v es i = some (aDa c x m es i)
 | [], [], i, _, _ => by simp [Instr.findNow, aDa]
 | (k, y) :: m, e :: es, i, hl, hr => by
  have h0 := hr 0 (by simp) (by simp)
  simp only [List.getElem_cons_zero] at h0
  have rec_ := aKd hT hc hd hx m es (i + 1) (by simpa using hl) (fun j h h' => by have := hr (j + 1) (by simpa using h) (by simpa using h'); simpa using this)
  have hsame : Instr.sameNow d v e.key = some (c.eqb x k) := by
   have he := aUw (c := c) (by cases c <;> simp_all [Ty.key1, Ty.keyB]) hx h0
   obtain ⟨d', hd', hb⟩ := hT.desc
   rw [hd] at hd'
   cases hd'
   unfold cR at hx h0
   cases c <;> first | (simp [Ty.key1] at hc; done) | skip
   all_goals (cases d <;> first | (simp [fT] at hb; done) | skip)
   all_goals simp only [Ty.isAgg, Bool.false_eq_true, if_false] at hx h0
   ·simp only [aT, List.cons.injEq, and_true] at hx h0
    rw [hx, h0]; rfl
   ·obtain ⟨hx, _⟩ := hx
    obtain ⟨h0, _⟩ := h0
    simp only [List.cons.injEq, and_true] at hx h0
    rw [hx, h0]
    simp only [Instr.sameNow, if_true, Ty.eqb, Option.some.injEq]
    rw [Bool.eq_iff_iff]; simp [Int.natCast_inj]
   ·obtain ⟨hx, _⟩ := hx
    obtain ⟨h0, _⟩ := h0
    simp only [List.cons.injEq, and_true] at hx h0
    rw [hx, h0]
    simp only [Instr.sameNow, if_true, Ty.eqb, Option.some.injEq]
    rw [Bool.eq_iff_iff]; simp
   ·obtain ⟨s, hx, e1, _⟩ := hx
    obtain ⟨u, h0, e2, _⟩ := h0
    simp only [List.cons.injEq, and_true] at hx h0
    rw [hx, h0]
    have : (s == u) = decide (aP s = aP u) := by
     rw [Bool.eq_iff_iff, Go.MapKept.bytes_beq, decide_eq_true_eq]
     exact ⟨fun h => by rw [h], aL2⟩
    simp only [Instr.sameNow, this, Ty.eqb, e1, e2]
  simp only [Instr.findNow, hsame, aDa]
  cases hq : c.eqb x k <;> simp [rec_]
theorem aHI (hT : iS P T) {t : TypeId} {c : Ty} (ht : T t = some c) (hc : c.keyB = true) {β : Type} {w : World} {S : Nat → Prop} {x : c.den} {v : Value} (hx : cR w S c x v) (w' : World) (m : List (c.den × β)) (es : List MapEntry) (hl : es.length = m.length)
  (hr : ∀ j (h : j < m.length) (h' : j < es.length), cR w S c m[j].1 es[j].key) : (Instr.findKey t v es).run P w' = .ok (aDa c x m es 0) w' := by
 obtain ⟨d, hd, hb⟩ := (hT _ _ ht).desc
 simp only [Instr.findKey, Sem.run_bind, aV hd, Result.andThen_ok]
 by_cases h1 : c.key1 = true
 ·rw [aKd (hT _ _ ht) h1 hd hx m es 0 hl hr]; rfl
 ·have hn : Instr.findNow d v es 0 = none ∨ Instr.findNow d v es 0 = some (aDa c x m es 0) := by
   cases es with
   | nil =>
    cases m with
    | nil => right; rfl
    | cons _ _ => simp at hl
   | cons e es =>
    left
    cases c <;> first | (simp_all [Ty.keyB, Ty.key1]; done) | skip
    cases d <;> simp [fT] at hb
    simp [Instr.findNow, Instr.sameNow]
  rcases hn with h | h
  ·rw [h]; exact aE8 hT ht hc hx w' m es 0 hl hr
  ·rw [h]; rfl
theorem aON {c : Ty} {x : c.den} {v : Value} {w : World} {S : Nat → Prop} (hc : c.key1 = true) (hx : aT w S c x [v]) (n : Nat) : Instr.sameBits n v v = true := by
 cases c <;> first | (simp [Ty.key1] at hc; done) | skip
 ·simp only [aT, List.cons.injEq, and_true] at hx; subst hx; simp [Instr.sameBits]
 ·obtain ⟨hx, _⟩ := hx; simp only [List.cons.injEq, and_true] at hx; subst hx; simp [Instr.sameBits]
 ·obtain ⟨hx, _⟩ := hx; simp only [List.cons.injEq, and_true] at hx; subst hx; simp [Instr.sameBits]
 ·obtain ⟨s, hx, _⟩ := hx; simp only [List.cons.injEq, and_true] at hx; subst hx
  simp only [Instr.sameBits]
  exact (Go.MapKept.bytes_beq _ _).2 rfl
theorem aTw {c : Ty} {x : c.den} {v : Value} {w : World} {S : Nat → Prop} (hc : c.keyB = true) (hx : cR w S c x v) (w' : World) : (Instr.keyThatStays v v).run P w' = .ok v w' := by
 have hs : Instr.sameBits 10000 v v = true := by
  unfold cR at hx
  cases c <;> first | (simp [Ty.keyB, Ty.key1] at hc; done) | skip
  case arr n t =>
   simp only [Ty.isAgg, if_true] at hx
   obtain ⟨⟨cs⟩, rfl, hx⟩ := hx
   obtain ⟨h1, css, h2, h3, h4⟩ := hx
   simp only at h2
   subst h2
   simp only [Instr.sameBits, beq_self_eq_true, Bool.true_and, List.all_eq_true]
   have hall : ∀ v ∈ css.flatten, Instr.sameBits 9999 v v = true := fun v hv => by
    obtain ⟨l, hl, hv⟩ := List.mem_flatten.1 hv
    obtain ⟨i, hi, rfl⟩ := List.mem_iff_getElem.1 hl
    have := h4 i (by omega) hi
    obtain ⟨u, hu⟩ := aMc (aHH (c := t) hc).2.2.2 this
    rw [hu] at hv this
    simp at hv
    subst hv
    exact aON (c := t) hc this 9999
   intro p hp
   have : p.1 = p.2 ∧ p.1 ∈ css.flatten := by
    obtain ⟨i, hi, rfl⟩ := List.mem_iff_getElem.1 hp
    simp
   obtain ⟨a, b⟩ := p
   obtain ⟨e, hm⟩ := this
   simp only at e hm ⊢
   subst e
   exact hall a hm
  all_goals (simp only [Ty.isAgg, Bool.false_eq_true, if_false] at hx; exact aON (by simpa [Ty.keyB] using hc) hx 10000)
 simp [Instr.keyThatStays, hs]
end
end Go.Vc
namespace Go.Vc
open Go.RowKit
def aUy (h : List Obj) : AV → Option Nat
 | .ptr i [] => match h[i]? with
  | some (.box _ _) => some i
  | _ => none
 | _ => none
def allTags (h : List Obj) : List AV → Option (List Nat)
 | [] => some []
 | v :: r => match aUy h v, allTags h r with
  | some i, some l => some (i :: l)
  | _, _ => none
def evA (G : Nat → AV) (env : List (Nat × AV)) : Operand → AV
 | .tmp t => look env t
 | .const v => aHy v
 | .global g => G g
 | .func f => .fn f [] []
def lG : Operand → Bool
 | .const (.func _ _ _) => false
 | .const v => aRw v
 | _ => true
theorem aBp {c : Ctx} {w : World} {G : Nat → AV} {env : List (Nat × AV)} {a : Act} (he : aEI c w env a.tmps) (hG : oW G c.S w) {x : Operand} (hx : lG x = true) : aQ c w (evA G env x) (a.eval x) := by
 cases x with
 | tmp t => exact he t
 | const v =>
  refine aUg ?_ ?_
  ·cases v <;> first | exact hx | (simp [lG] at hx)
  ·intro f p q e; subst e; simp [lG] at hx
 | global g =>
  exact (hG g).keep (c := ⟨c.S, fun _ => Go.undef, 0, fun _ _ => False⟩) (c' := c) ⟨fun _ h => h, Nat.zero_le _, fun i hi => absurd hi (Nat.not_lt_zero i)⟩ (.refl _ _)
 | func f => exact ⟨⟨(fun i hi => by cases hi), (fun i hi => by cases hi), rfl⟩, (fun h => by cases h), (fun _ cs => by simp [Act.eval])⟩
def aJk (i : Nat) : AV → Prop × AV
 | .tup vs => (i < vs.length, vs.getD i .junk)
 | _ => (False, .junk)
def aG0 : AV → Prop × AV
 | .ptr i p => (True, .ptr i p)
 | .roa t x => (True, .roa t x)
 | .fn f l1 l2 => (True, .fn f l1 l2)
 | _ => (False, .junk)
def aG1 : List AV → Option ((t : Ty) × t.den)
 | [] => some ⟨.unit, ()⟩
 | .roa t x :: r => match aG1 r with
  | some ⟨u, y⟩ => some ⟨.pair (.rp t) u, (x, y)⟩
  | none => none
 | _ => none
def aG2 (h : List Obj) (f : FuncId) (first caps : List AV) : Prop × AV :=
 match allTags h first, allTags h caps with
 | some l1, some l2 => (True, .fn f l1 l2)
 | some l1, none => match aG1 caps with
  | some ⟨t, y⟩ => (l1 = [], .val (.clo f t) y)
  | none => (False, .junk)
 | _, _ => (False, .junk)
def aCG (h : List Obj) (l : List Nat) : Bool := l.all fun i => match h[i]? with
 | some (.box _ _) => true
 | _ => false
def qA : Ty → Bool
 | .unit => true
 | .pair (.rp _) r => qA r
 | _ => false
def aHJ (E : Env) (h : List Obj) (callee : Callee) (args : List AV) (argTypes : List TypeId) (ρ : Operand → AV) : Prop × AV :=
 match callee with
 | .builtin .len => match args, argTypes with
  | [x], [t] => aE2 E.T h t x
  | _, _ => (False, .junk)
 | .builtin .min => aUj false args
 | .builtin .max => aUj true args
 | .value x => match ρ x with
  | .fn f [] l2 => if aCG h l2 = true then aDF E.Γ h f (args ++ l2.map fun i => .ptr i []) else (False, .junk)
  | .val (.clo g t) y => if qA t = true then aDF E.Γ h g (args ++ vY t y) else (False, .junk)
  | _ => (False, .junk)
 | _ => (False, .junk)
def aUz (E : Env) (t : TypeId) (kc vc : Ty) : Prop := match E.mp t with
 | some (k, e) => E.T k = some kc ∧ E.T e = some vc
 | none => False
def aE9 (E : Env) (h : List Obj) (t : TypeId) (m k : AV) (ok : Bool) : Prop × AV :=
 match m with
 | .mp i => match h[i]? with
  | some (.map kc vc l) => match AV.as (h.map eG) kc k with
   | some x => (kc.keyB = true ∧ vc.okB = true ∧ aUz E t kc vc, if ok then .tup [.val vc ((aBW kc l x).getD vc.zero), .val .bool (aBW kc l x).isSome] else .val vc ((aBW kc l x).getD vc.zero))
   | none => (False, .junk)
  | _ => (False, .junk)
 | _ => (False, .junk)
def Ty.isNil : Ty → Bool
 | .nili => true
 | _ => false
def aQt (E : Env) (h : List Obj) (t : TypeId) (x : AV) : Prop × AV :=
 match E.T t with
 | some c => match AV.as (h.map eG) c x with
  | some d => (c.isNil = false, .val (.ifc t c) d)
  | none => (False, .junk)
 | none => (False, .junk)
def aFa (E : Env) (x : AV) (t : TypeId) (ok : Bool) : Prop × AV :=
 match E.T t with
 | some c => match x with
  | .val (.ifc k c') d => if k = t then (c.isNil = false, if ok then .tup [.val c' d, .val .bool true] else .val c' d) else (ok = true ∧ c.okB = true, .tup [.val c c.zero, .val .bool false])
  | .val .nili _ => (ok = true ∧ c.okB = true, .tup [.val c c.zero, .val .bool false])
  | _ => (False, .junk)
 | none => (False, .junk)
def aQu (T : Tab) (op : BinOp) (t : TypeId) (x : AV) : Prop × AV :=
 match x with
 | .val .nili _ => match op with
  | .eql => (T t = some .nili, .val .bool true)
  | .neq => (T t = some .nili, .val .bool false)
  | _ => (False, .junk)
 | _ => (False, .junk)
noncomputable def pv (E : Env) (h : List Obj) (ρ : Operand → AV) (o : Oper) : Prop × AV :=
 match o.op with
 | .move x => (True, aQl E.T o.type (ρ x))
 | .assign x => (True, aQl E.T o.type (ρ x))
 | .load t a => aE1 E.T h t (ρ a)
 | .binOp op t x y _ => match y with
  | .const .nilIface => aQu E.T op t (ρ x)
  | y => zO E.T op t (ρ x) (ρ y)
 | .unOp op _ x => aRy op (ρ x)
 | .convert s d x => aUv E.T h s d (ρ x)
 | .fieldAddr s x k => uD E.T s (ρ x) k
 | .field s x k => aFV E.T s (ρ x) k
 | .indexAddr t x i => aHB E.T h t (ρ x) (ρ i)
 | .index t x i => aHC E.T t (ρ x) (ρ i)
 | .slice t x lo hi mx => aHD E.T h t (ρ x) (lo.map ρ) (hi.map ρ) (mx.map ρ)
 | .extract x i => aJk i (ρ x)
 | .build t ps => bif E.dz t then aJe E.T t (ps.toList.map fun p => (p.1, ρ p.2)) else aFX E.T t (ps.toList.map fun p => (p.1, ρ p.2))
 | .buildSlice t n ps => vX E.T t n (ps.toList.map fun p => (p.1, ρ p.2))
 | .makeFunc (.func f) first caps => aG2 h f (first.toList.map ρ) (caps.toList.map ρ)
 | .nilCheck x => aG0 (ρ x)
 | .lookup t m k ok => aE9 E h t (ρ m) (ρ k) ok
 | .makeInterface t x => aQt E h t (ρ x)
 | .typeAssert x _ t ok => aFa E (ρ x) t ok
 | .call c => aHJ E h c.callee (c.args.toList.map ρ) c.argTypes.toList ρ
 | .alloc t => match E.T t with
  | some ct => (ct.okB = true, .junk)
  | none => (False, .junk)
 | _ => (False, .junk)
section
variable {P : Program} {M : Perm} {w0 : World} {c : Ctx} {h : List Obj} {w : World}
theorem cR.shape {w : World} {S : Nat → Prop} {t : Ty} {x : t.den} {v : Value} (h : cR w S t x v) (hn : t ≠ .nili) : v ≠ .nilIface ∧ (t.isAgg = false → ∀ cs, v ≠ .agg cs) := by
 unfold cR at h
 split at h
 ·rename_i ha
  obtain ⟨cs, rfl, _⟩ := h
  exact ⟨by simp, fun h => by rw [ha] at h; cases h⟩
 ·rename_i ha
  cases t <;> first | (simp [Ty.isAgg] at ha; done) | skip
  case bool => simp only [aT] at h; simp at h; subst h; simp
  case u => simp only [aT] at h; simp at h; rw [h.1]; simp
  case i => simp only [aT] at h; simp at h; rw [h.1]; simp
  case str => obtain ⟨s, e, _⟩ := h; simp at e; subst e; simp
  case sl => obtain ⟨a, l, q, e, _⟩ := h; simp at e; subst e; simp
  case rp => obtain ⟨b, off, ds, e, _⟩ := h; simp at e; subst e; simp
  case clo => obtain ⟨vs, e, _⟩ := h; simp at e; subst e; simp
  case ifc => obtain ⟨u, ds, e, _⟩ := h; simp at e; subst e; simp
  case nili => exact absurd rfl hn
  case nilp => simp only [aT] at h; simp at h; subst h; simp
  case nilf => simp only [aT] at h; simp at h; subst h; simp
theorem aQv {op : BinOp} {t : TypeId} {v u : Value} {ox oy : Operand} (h1 : v ≠ .nilIface) (h2 : ∀ cs, v ≠ .agg cs) : (eqGuard op t ox oy v u).run P w = .ok () w := by
 cases op <;> first | rfl | skip
 all_goals (cases v <;> first | exact absurd rfl h1 | exact absurd rfl (h2 _) | rfl)
theorem aOO {T : Tab} {op : BinOp} {t : TypeId} {ct : Ty} (hTy : aAJ P T t ct) (hag : ct.isAgg = true) {xs : Array Value} {u : Value} {ox oy : Operand} : (eqGuard op t ox oy (.agg xs) u).run P w = .ok () w := by
 have hgd := hTy.guard hag
 cases u with
 | agg ys => exact run_eqGuard_agg w op t ox oy xs ys hgd
 | _ => cases op <;> rfl
theorem aUA {T : Tab} (hT : iS P T) {op : BinOp} {t : TypeId} {x y : AV} {v u : Value} {ox oy : Operand} (hv : aQ c w x v) (hc : (zO T op t x y).1) : (eqGuard op t ox oy v u).run P w = .ok () w := by
 cases x with
 | val tx a =>
  have hsh := fun hn => (aQ.toV hv).shape hn
  cases tx with
  | pair p q =>
   obtain ⟨xs, rfl⟩ := hv.2.1 rfl
   cases y with
   | val t2 b =>
    simp only [zO] at hc
    by_cases e : t2 = .pair p q
    ·subst e
     simp only [dite_true] at hc
     cases op <;> simp only at hc <;> first | exact hc.elim | exact aOO (hT _ _ hc.1) rfl
    ·simp only [e, dite_false] at hc
   | _ => exact hc.elim
  | arr n q =>
   obtain ⟨xs, rfl⟩ := hv.2.1 rfl
   cases y with
   | val t2 b =>
    simp only [zO] at hc
    by_cases e : t2 = .arr n q
    ·subst e
     simp only [dite_true] at hc
     cases op <;> simp only at hc <;> first | exact hc.elim | exact aOO (hT _ _ hc.1) rfl
    ·simp only [e, dite_false] at hc
   | _ => exact hc.elim
  | unit => exact hc.elim
  | expr => exact hc.elim
  | nili => exact hc.elim
  | ifc _ _ => exact hc.elim
  | _ => exact aQv (hsh (by simp)).1 ((hsh (by simp)).2 rfl)
 | _ => exact hc.elim
theorem aHK {ρ : Operand → AV} {a : Act} : ∀ {l : List (Nat × Operand)}, (∀ p ∈ l, aQ c w (ρ p.2) (a.eval p.2)) → aAk c w (l.map fun p => (p.1, ρ p.2)) (l.map fun p => (p.1, a.eval p.2))
 | [], _ => .nil
 | p :: r, h => .cons (h p (by simp)) (aHK fun q hq => h q (by simp [hq]))
theorem aMd {ρ : Operand → AV} {a : Act} {o : Option Operand} (h : ∀ x, o = some x → aQ c w (ρ x) (a.eval x)) : aN3 c w (o.map ρ) (o.map a.eval) := by
 cases o with
 | none => exact .none
 | some x => exact .some (h x rfl)
theorem aHL (hg : Good M w0 c h w) : ∀ {l : List AV} {vs : List Value} {is : List Nat}, allTags h l = some is → l.length = vs.length → (∀ i (h1 : i < l.length) (h2 : i < vs.length), aQ c w l[i] vs[i]) → (∀ i ∈ is, i < c.n) ∧ vs = is.map c.hd
 | [], vs, is, ha, hl, _ => by
  simp [allTags] at ha; subst ha
  cases vs <;> simp at hl ⊢
 | v :: r, [], is, ha, hl, _ => by simp at hl
 | v :: r, u :: us, is, ha, hl, hv => by
  simp only [allTags] at ha
  split at ha
  ·rename_i i l h1 h2
   cases ha
   obtain ⟨q1, q3⟩ := aHL hg h2 (by simpa using hl) (fun i hi hi' => by have := hv (i + 1) (by simpa using hi) (by simpa using hi'); simpa using this)
   have h0 := hv 0 (by simp) (by simp)
   simp only [List.getElem_cons_zero] at h0
   unfold aUy at h1
   split at h1
   ·rename_i j
    split at h1
    ·rename_i bv ho
     cases h1
     obtain ⟨hj, b, hb, rfl⟩ := aB9 h0
     obtain ⟨b', cells, e, hhd, _⟩ := hg.objs _ _ ho
     rw [hhd] at hb
     simp [aN] at hb
     subst hb
     refine ⟨fun k hk => ?_, ?_⟩
     ·rcases List.mem_cons.1 hk with rfl | hk
      ·exact hj
      ·exact q1 k hk
     ·rw [List.map_cons, ← q3, hhd]; rfl
    ·cases h1
   ·cases h1
  ·cases ha
theorem aXC {f : FuncId} {l1 l2 : List Nat} (h1 : ∀ i ∈ l1, i < c.n) (h2 : ∀ i ∈ l2, i < c.n) : aQ c w (.fn f l1 l2) (.func (.func f) (l1.map c.hd).toArray (l2.map c.hd).toArray) :=
 ⟨⟨h1, h2, rfl⟩, (fun h => by cases h), (fun _ cs => by simp)⟩
theorem aWk {vs : List AV} {v : Value} (hv : aQ c w (.tup vs) v) {i : Nat} (hi : i < vs.length) : ∃ u, (Instr.extract v i).run P w = .ok u w ∧ aQ c w (vs.getD i .junk) u := by
 obtain ⟨xs, rfl, hl, hx⟩ := hv
 have hi' : i < xs.length := by omega
 refine ⟨xs[i], by simp [Instr.extract, hi'], ?_⟩
 rw [List.getD_eq_getElem?_getD, List.getElem?_eq_getElem hi]
 have := hx i hi hi'
 simp only [Option.getD_some]
 have hne : ∀ us, vs[i] ≠ .tup us := fun us e => by rw [e] at this; exact this.1.elim
 revert this hne
 generalize vs[i] = a
 generalize xs[i] = x
 intro this hne
 cases a <;> first | exact absurd rfl (hne _) | trivial | exact this | skip
 obtain ⟨h1, _, h3⟩ := this
 have h3 := h3 rfl
 simp only [aH] at h1
 cases x <;> simp [Value.cells] at h1 h3 <;> first | exact h1 | skip
end
end Go.Vc
