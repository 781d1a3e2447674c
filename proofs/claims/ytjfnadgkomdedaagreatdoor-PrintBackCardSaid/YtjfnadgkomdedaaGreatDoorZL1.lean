import Derived.WalkKit
import Derived.Below
set_option linter.unusedVariables false
set_option linter.unusedSimpArgs false
namespace Go.Vc
open Go.RowKit
inductive Ex where
 | mk (kind : Int) (text : List Nat) (l : List Ex)
def Ex.kind : Ex → Int | .mk k _ _ => k
def Ex.text : Ex → List Nat | .mk _ t _ => t
def Ex.l : Ex → List Ex | .mk _ _ l => l
inductive Ty where
 | bool | u (k : IntKind) | i (k : IntKind) | str | sl (t : Ty) | unit | pair (a b : Ty) | arr (n : Nat) (t : Ty) | expr | rp (t : Ty) | clo (g : FuncId) (t : Ty) | ifc (k : TypeId) (t : Ty) | nili | nilp | nilf
 deriving DecidableEq
@[reducible] def Ty.den : Ty → Type
 | .bool => Bool
 | .u _ => Nat
 | .i _ => Int
 | .str => List Nat
 | .sl t => List t.den
 | .unit => Unit
 | .pair a b => a.den × b.den
 | .arr _ t => List t.den
 | .expr => Ex
 | .rp t => t.den
 | .clo _ t => t.den
 | .ifc _ t => t.den
 | .nili => Unit
 | .nilp => Unit
 | .nilf => Unit
def Ty.cells : Ty → Nat
 | .bool => 1
 | .u _ => 1
 | .i _ => 1
 | .str => 1
 | .sl _ => 1
 | .unit => 0
 | .pair a b => a.cells + b.cells
 | .arr n t => n * t.cells
 | .expr => 3
 | .rp _ => 1
 | .clo _ _ => 1
 | .ifc _ _ => 1
 | .nili => 1
 | .nilp => 1
 | .nilf => 1
def Ty.isAgg : Ty → Bool
 | .unit => true
 | .pair _ _ => true
 | .arr _ _ => true
 | .expr => true
 | _ => false
def Ty.zero : (t : Ty) → t.den
 | .bool => false
 | .u _ => 0
 | .i _ => 0
 | .str => []
 | .sl _ => []
 | .unit => ()
 | .pair a b => (a.zero, b.zero)
 | .arr n t => List.replicate n t.zero
 | .expr => .mk 0 [] []
 | .rp t => t.zero
 | .clo _ t => t.zero
 | .ifc _ t => t.zero
 | .nili => ()
 | .nilp => ()
 | .nilf => ()
def aP (s : ByteArray) : List Nat := s.data.toList.map (·.toNat)
def jC (w : World) (b off : Nat) (ds : List Value) : Prop := ∀ j v, ds[j]? = some v → w.cell? ⟨b, off + j, none⟩ = some v
def SlR {α : Type} (w : World) (S : Nat → Prop) (R : α → List Value → Prop) (sz : Nat) (xs : List α) (a : Option Addr) (len cap : Nat) : Prop :=
 xs.length = len ∧ len ≤ cap ∧ cap ≤ maxLen ∧
  (xs = [] ∨ ∃ b off, a = some ⟨b, off, none⟩ ∧ S b ∧ ∀ i (h : i < xs.length), ∃ ds, R xs[i] ds ∧ jC w b (off + i * sz) ds)
inductive RepEx (w : World) (S : Nat → Prop) : Ex → List Value → Prop where
 | mk (k : Int) (s : ByteArray) (l : List Ex) (a : Option Addr) (len cap : Nat) (dss : Nat → List Value)
   (hk : IntKind.min .i64 ≤ k ∧ k ≤ IntKind.max .i64) (hs : s.size ≤ maxLen) (hl : l.length = len) (hc : len ≤ cap) (hm : cap ≤ maxLen)
   (hr : ∀ i (h : i < l.length), RepEx w S l[i] (dss i))
   (ha : l = [] ∨ ∃ b off, a = some ⟨b, off, none⟩ ∧ S b ∧ ∀ i, i < l.length → jC w b (off + i * 3) (dss i)) :
   RepEx w S (.mk k (aP s) l) [.int .i64 k, .string s, .slice a len cap]
def aT (w : World) (S : Nat → Prop) : (t : Ty) → t.den → List Value → Prop
 | .bool, x, cs => cs = [.bool x]
 | .u k, x, cs => cs = [.int k (x : Int)] ∧ k.signed = false ∧ (x : Int) ≤ k.max
 | .i k, x, cs => cs = [.int k x] ∧ k.signed = true ∧ k.min ≤ x ∧ x ≤ k.max
 | .str, x, cs => ∃ s, cs = [.string s] ∧ aP s = x ∧ s.size ≤ maxLen
 | .sl t, xs, cs => ∃ a len cap, cs = [.slice a len cap] ∧ SlR w S (aT w S t) t.cells xs a len cap
 | .unit, _, cs => cs = []
 | .pair a b, x, cs => ∃ c1 c2, cs = c1 ++ c2 ∧ aT w S a x.1 c1 ∧ aT w S b x.2 c2
 | .arr n t, xs, cs => xs.length = n ∧ ∃ css : List (List Value), cs = css.flatten ∧ css.length = xs.length ∧ ∀ i (h : i < xs.length) (h' : i < css.length), aT w S t xs[i] css[i]
 | .expr, x, cs => RepEx w S x cs
 | .rp t, x, cs => ∃ b off ds, cs = [.pointer (some ⟨b, off, none⟩)] ∧ S b ∧ aT w S t x ds ∧ jC w b off ds
 | .clo g t, x, cs => ∃ vs : List Value, cs = [.func (.func g) #[] vs.toArray] ∧ aT w S t x vs
 | .ifc k t, x, cs => ∃ v ds, cs = [.iface k v] ∧ (t.isAgg = true → v = .agg ds.toArray) ∧ (t.isAgg = false → ds = [v]) ∧ aT w S t x ds
 | .nili, _, cs => cs = [.nilIface]
 | .nilp, _, cs => cs = [.pointer none]
 | .nilf, _, cs => cs = [.nilFunc]
def cR (w : World) (S : Nat → Prop) (t : Ty) (x : t.den) (v : Value) : Prop :=
 if t.isAgg = true then ∃ cs, v = .agg cs ∧ aT w S t x cs.toList else aT w S t x [v]
def vT (S : Nat → Prop) (w w' : World) : Prop := ∀ b, S b → w'.heap[b]? = w.heap[b]?
theorem vT.refl (S : Nat → Prop) (w : World) : vT S w w := fun _ _ => rfl
theorem vT.trans {S : Nat → Prop} {a b c : World} (h : vT S a b) (k : vT S b c) : vT S a c := fun x hx => (k x hx).trans (h x hx)
theorem vT.mono {S S' : Nat → Prop} {w w' : World} (h : vT S w w') (hs : ∀ b, S' b → S b) : vT S' w w' := fun b hb => h b (hs b hb)
theorem aAI {S : Nat → Prop} {w w' : World} (h : vT S w w') {b off : Nat} (hb : S b) {ds : List Value} (hc : jC w b off ds) : jC w' b off ds := fun j v hj => by
 rw [World.cell?_of_block (w := w) (w' := w') (h b hb)]; exact hc j v hj
theorem SlR.keep {α : Type} {w w' : World} {S S' : Nat → Prop} (hs : ∀ b, S b → S' b) (h : vT S w w') {R R' : α → List Value → Prop} (hR : ∀ x cs, R x cs → R' x cs)
  {sz : Nat} {xs : List α} {a : Option Addr} {len cap : Nat} (hr : SlR w S R sz xs a len cap) : SlR w' S' R' sz xs a len cap := by
 obtain ⟨h1, h2, h3, h4⟩ := hr
 refine ⟨h1, h2, h3, h4.imp id ?_⟩
 rintro ⟨b, off, ha, hb, hc⟩
 exact ⟨b, off, ha, hs b hb, fun i hi => let ⟨ds, hd, hcell⟩ := hc i hi; ⟨ds, hR _ _ hd, aAI h hb hcell⟩⟩
theorem RepEx.keep {w w' : World} {S S' : Nat → Prop} (hs : ∀ b, S b → S' b) (h : vT S w w') {e : Ex} {cs : List Value} (hr : RepEx w S e cs) : RepEx w' S' e cs := by
 induction hr with
 | mk k s l a len cap dss hk hs' hl hc hm hr ha ih =>
  refine .mk k s l a len cap dss hk hs' hl hc hm ih (ha.imp id ?_)
  rintro ⟨b, off, ha, hb, hcell⟩
  exact ⟨b, off, ha, hs b hb, fun i hi => aAI h hb (hcell i hi)⟩
theorem aT.keep {w w' : World} {S S' : Nat → Prop} (hs : ∀ b, S b → S' b) (h : vT S w w') : ∀ (t : Ty) (x : t.den) (cs : List Value), aT w S t x cs → aT w' S' t x cs
 | .bool, _, _, hr => hr
 | .u _, _, _, hr => hr
 | .i _, _, _, hr => hr
 | .str, _, _, hr => hr
 | .sl t, _, _, ⟨a, len, cap, hv, hr⟩ => ⟨a, len, cap, hv, hr.keep hs h (fun x cs => aT.keep hs h t x cs)⟩
 | .unit, _, _, hr => hr
 | .pair a b, _, _, ⟨c1, c2, hc, h1, h2⟩ => ⟨c1, c2, hc, aT.keep hs h a _ _ h1, aT.keep hs h b _ _ h2⟩
 | .arr _ t, _, _, ⟨hn, css, hc, hl, hr⟩ => ⟨hn, css, hc, hl, fun i h1 h2 => aT.keep hs h t _ _ (hr i h1 h2)⟩
 | .expr, _, _, hr => RepEx.keep hs h hr
 | .rp t, _, _, ⟨b, off, ds, hc, hb, hd, hcell⟩ => ⟨b, off, ds, hc, hs b hb, aT.keep hs h t _ _ hd, aAI h hb hcell⟩
 | .clo _ t, _, _, ⟨vs, hc, hd⟩ => ⟨vs, hc, aT.keep hs h t _ _ hd⟩
 | .ifc _ t, _, _, ⟨v, ds, hc, h1, h2, hd⟩ => ⟨v, ds, hc, h1, h2, aT.keep hs h t _ _ hd⟩
 | .nili, _, _, hr => hr
 | .nilp, _, _, hr => hr
 | .nilf, _, _, hr => hr
theorem cR.keep {w w' : World} {S S' : Nat → Prop} (hs : ∀ b, S b → S' b) (h : vT S w w') {t : Ty} {x : t.den} {v : Value} (hr : cR w S t x v) : cR w' S' t x v := by
 unfold cR at *
 split
 ·rename_i ha; simp only [ha, if_true] at hr; obtain ⟨cs, hv, hc⟩ := hr; exact ⟨cs, hv, hc.keep hs h⟩
 ·rename_i ha; simp only [ha] at hr; exact hr.keep hs h
theorem jD {css : List (List Value)} {n : Nat} (h : ∀ i (h : i < css.length), (css[i]).length = n) : css.flatten.length = css.length * n := by
 induction css with
 | nil => simp
 | cons c r ih =>
  have h0 := h 0 (by simp)
  have := ih (fun i hi => by have := h (i + 1) (by simpa using hi); simpa using this)
  simp only [List.getElem_cons_zero] at h0
  simp only [List.flatten_cons, List.length_append, List.length_cons, this, h0]
  rw [Nat.add_mul]; omega
theorem aT.length {w : World} {S : Nat → Prop} : ∀ (t : Ty) (x : t.den) (cs : List Value), aT w S t x cs → cs.length = t.cells
 | .bool, _, _, hr => by cases hr; rfl
 | .u _, _, _, hr => by cases hr.1; rfl
 | .i _, _, _, hr => by cases hr.1; rfl
 | .str, _, _, ⟨s, hv, _⟩ => by subst hv; rfl
 | .sl t, _, _, ⟨a, len, cap, hv, _⟩ => by subst hv; rfl
 | .unit, _, _, hr => by cases hr; rfl
 | .pair a b, _, _, ⟨c1, c2, hc, h1, h2⟩ => by subst hc; simp only [List.length_append, aT.length a _ _ h1, aT.length b _ _ h2, Ty.cells]
 | .arr n t, xs, _, ⟨hn, css, hc, hl, hr⟩ => by
  subst hc
  rw [jD (n := t.cells) (fun i hi => aT.length t _ _ (hr i (by omega) hi)), hl, hn]
  rfl
 | .expr, _, _, hr => by cases hr; rfl
 | .rp t, _, _, ⟨b, off, ds, hc, _⟩ => by subst hc; rfl
 | .clo _ t, _, _, ⟨vs, hc, _⟩ => by subst hc; rfl
 | .ifc _ t, _, _, ⟨v, ds, hc, _⟩ => by subst hc; rfl
 | .nili, _, _, hr => by cases hr; rfl
 | .nilp, _, _, hr => by cases hr; rfl
 | .nilf, _, _, hr => by cases hr; rfl
def one (v : Value) : Prop := match v with | .agg _ | .tuple _ => False | _ => True
theorem aT.one {w : World} {S : Nat → Prop} : ∀ (t : Ty) (x : t.den) (cs : List Value), aT w S t x cs → ∀ v ∈ cs, one v
 | .bool, _, _, hr => by cases hr; intro v hv; simp at hv; subst hv; trivial
 | .u _, _, _, hr => by cases hr.1; intro v hv; simp at hv; subst hv; trivial
 | .i _, _, _, hr => by cases hr.1; intro v hv; simp at hv; subst hv; trivial
 | .str, _, _, ⟨s, hv, _⟩ => by subst hv; intro v hv; simp at hv; subst hv; trivial
 | .sl t, _, _, ⟨a, len, cap, hv, _⟩ => by subst hv; intro v hv; simp at hv; subst hv; trivial
 | .unit, _, _, hr => by cases hr; intro v hv; cases hv
 | .pair a b, _, _, ⟨c1, c2, hc, h1, h2⟩ => by
  subst hc
  intro v hv
  rcases List.mem_append.1 hv with hv | hv
  ·exact aT.one a _ _ h1 v hv
  ·exact aT.one b _ _ h2 v hv
 | .arr n t, xs, _, ⟨hn, css, hc, hl, hr⟩ => by
  subst hc
  intro v hv
  obtain ⟨c, hcm, hv⟩ := List.mem_flatten.1 hv
  obtain ⟨i, hi, rfl⟩ := List.mem_iff_getElem.1 hcm
  exact aT.one t _ _ (hr i (by omega) hi) v hv
 | .expr, _, _, hr => by
  cases hr
  intro v hv
  simp only [List.mem_cons, List.not_mem_nil, or_false] at hv
  rcases hv with rfl | rfl | rfl <;> trivial
 | .rp t, _, _, ⟨b, off, ds, hc, _⟩ => by subst hc; intro v hv; simp at hv; subst hv; trivial
 | .clo _ t, _, _, ⟨vs, hc, _⟩ => by subst hc; intro v hv; simp at hv; subst hv; trivial
 | .ifc _ t, _, _, ⟨v, ds, hc, _⟩ => by subst hc; intro v hv; simp at hv; subst hv; trivial
 | .nili, _, _, hr => by cases hr; intro v hv; simp at hv; subst hv; trivial
 | .nilp, _, _, hr => by cases hr; intro v hv; simp at hv; subst hv; trivial
 | .nilf, _, _, hr => by cases hr; intro v hv; simp at hv; subst hv; trivial
theorem cR.cells {w : World} {S : Nat → Prop} {t : Ty} {x : t.den} {v : Value} (hr : cR w S t x v) : aT w S t x v.cells.toList := by
 unfold cR at hr
 split at hr
 ·obtain ⟨cs, rfl, hc⟩ := hr; exact hc
 ·have ho := aT.one t x _ hr v (by simp)
  cases v <;> first | exact ho.elim | exact hr
theorem cR.of_cells {w : World} {S : Nat → Prop} {t : Ty} {x : t.den} {v : Value} (hs : t.isAgg = true → ∃ cs, v = .agg cs) (hn : t.isAgg = false → ∀ cs, v ≠ .agg cs) (hr : aT w S t x v.cells.toList) : cR w S t x v := by
 unfold cR
 split
 ·rename_i ha; obtain ⟨cs, rfl⟩ := hs ha; exact ⟨cs, rfl, hr⟩
 ·rename_i ha
  have := hn (by simpa using ha)
  cases v <;> first | exact absurd rfl (this _) | exact hr
end Go.Vc
namespace Go.Vc
open Go.RowKit
inductive Step where
 | fld (off k : Nat)
 | idx (size i : Nat)
def Step.off : Step → Nat
 | .fld o _ => o
 | .idx s i => i * s
def kS : List Step → Nat
 | [] => 0
 | s :: r => s.off + kS r
inductive AV where
 | junk
 | undef
 | val (t : Ty) (x : t.den)
 | nilS
 | nilP
 | full (t : Ty) (xs : List t.den)
 | own (i : Nat)
 | ptr (i : Nat) (p : List Step)
 | sub (i s off n : Nat)
 | roa (t : Ty) (x : t.den)
 | fn (f : FuncId) (first caps : List Nat)
 | mp (i : Nat)
 | flat (vs : List AV)
 | agg (vs : List AV)
 | tup (vs : List AV)
inductive Mk where
 | no
 | sl (e : TypeId) (m : Mk)
 | pair (a b : Mk)
 deriving DecidableEq
inductive Obj where
 | dead
 | box (n : Nat) (v : AV)
 | row (e : TypeId) (t : Ty) (xs : List t.den)
 | frz (t : Ty) (xs : List t.den)
 | map (k v : Ty) (m : List (k.den × v.den))
 | tre (e : TypeId) (m : Mk) (t : Ty) (xs : List t.den)
 | trh (e : TypeId) (m : Mk) (t : Ty) (xs : List t.den) (k : Nat) (v : AV)
structure Ctx where
 S : Nat → Prop
 hd : Nat → Value
 n : Nat
 bl : Nat → Nat → Prop
structure Ctx.le (c c' : Ctx) : Prop where
 S : ∀ b, c.S b → c'.S b
 n : c.n ≤ c'.n
 hd : ∀ i, i < c.n → c'.hd i = c.hd i
theorem Ctx.le.refl (c : Ctx) : c.le c := ⟨fun _ h => h, Nat.le_refl _, fun _ _ => rfl⟩
theorem Ctx.le.trans {a b c : Ctx} (h : a.le b) (k : b.le c) : a.le c :=
 ⟨fun x hx => k.S x (h.S x hx), Nat.le_trans h.n k.n, fun i hi => (k.hd i (Nat.lt_of_lt_of_le hi h.n)).trans (h.hd i hi)⟩
def aN : Value → Option Nat
 | .pointer (some a) => some a.block
 | .slice (some a) _ _ => some a.block
 | .map (some b) => some b
 | _ => none
def AV.isAgg : AV → Bool
 | .val t _ => t.isAgg
 | .agg _ => true
 | .flat _ => true
 | _ => false
mutual
def aH (c : Ctx) (w : World) : AV → List Value → Prop
 | .junk, _ => True
 | .undef, cs => cs = [Go.undef]
 | .val t x, cs => aT w c.S t x cs
 | .nilS, cs => cs = [.slice none 0 0]
 | .nilP, cs => cs = [.pointer none]
 | .full t xs, cs => ∃ a n, cs = [.slice a n n] ∧ SlR w c.S (aT w c.S t) t.cells xs a n n
 | .own i, cs => i < c.n ∧ cs = [c.hd i] ∧ one (c.hd i)
 | .ptr i p, cs => i < c.n ∧ ∃ b, aN (c.hd i) = some b ∧ cs = [.pointer (some ⟨b, kS p, none⟩)]
 | .sub i s off n, cs => i < c.n ∧ n ≤ maxLen ∧ ∃ b cap, aN (c.hd i) = some b ∧ cs = [.slice (some ⟨b, off * s, none⟩) n cap]
 | .roa t x, cs => ∃ b off ds, cs = [.pointer (some ⟨b, off, none⟩)] ∧ c.S b ∧ aT w c.S t x ds ∧ jC w b off ds
 | .fn f l1 l2, cs => (∀ i ∈ l1, i < c.n) ∧ (∀ i ∈ l2, i < c.n) ∧ cs = [.func (.func f) (l1.map c.hd).toArray (l2.map c.hd).toArray]
 | .mp i, cs => i < c.n ∧ cs = [c.hd i] ∧ one (c.hd i)
 | .flat vs, cs => jN c w vs cs
 | .agg vs, cs => jN c w vs cs
 | .tup _, _ => False
def jN (c : Ctx) (w : World) : List AV → List Value → Prop
 | [], cs => cs = []
 | v :: r, cs => ∃ c1 c2, cs = c1 ++ c2 ∧ aH c w v c1 ∧ jN c w r c2
end
def rJ (c : Ctx) (w : World) (v : AV) (x : Value) : Prop :=
 aH c w v x.cells.toList ∧ (v.isAgg = true → ∃ cs, x = .agg cs) ∧ (v.isAgg = false → ∀ cs, x ≠ .agg cs)
def aQ (c : Ctx) (w : World) : AV → Value → Prop
 | .junk, _ => True
 | .undef, x => x = Go.undef
 | .tup vs, x => ∃ xs : List Value, x = .tuple xs.toArray ∧ xs.length = vs.length ∧ ∀ i (h : i < vs.length) (h' : i < xs.length), rJ c w vs[i] xs[i]
 | v, x => rJ c w v x
mutual
theorem aH.keep {c c' : Ctx} {w w' : World} (hc : c.le c') (h : vT c.S w w') : ∀ (v : AV) (cs : List Value), aH c w v cs → aH c' w' v cs
 | .junk, _, _ => by simp [aH]
 | .undef, _, hr => by simpa [aH] using hr
 | .val t x, _, hr => by simp only [aH] at *; exact aT.keep hc.S h t x _ hr
 | .nilS, _, hr => by simpa [aH] using hr
 | .nilP, _, hr => by simpa [aH] using hr
 | .full t xs, _, hr => by
  simp only [aH] at *
  obtain ⟨a, n, hv, hr⟩ := hr
  exact ⟨a, n, hv, hr.keep hc.S h (fun x cs => aT.keep hc.S h t x cs)⟩
 | .own i, _, hr => by simp only [aH] at *; exact ⟨Nat.lt_of_lt_of_le hr.1 hc.n, by rw [hc.hd i hr.1]; exact hr.2⟩
 | .ptr i p, _, hr => by
  simp only [aH] at *
  obtain ⟨hi, b, hb, hv⟩ := hr
  exact ⟨Nat.lt_of_lt_of_le hi hc.n, b, by rw [hc.hd i hi]; exact hb, hv⟩
 | .sub i s off n, _, hr => by
  simp only [aH] at *
  obtain ⟨hi, hn, b, cap, hb, hv⟩ := hr
  exact ⟨Nat.lt_of_lt_of_le hi hc.n, hn, b, cap, by rw [hc.hd i hi]; exact hb, hv⟩
 | .roa t x, _, hr => by
  simp only [aH] at *
  obtain ⟨b, off, ds, hv, hb, hd, hcell⟩ := hr
  exact ⟨b, off, ds, hv, hc.S b hb, aT.keep hc.S h t x _ hd, aAI h hb hcell⟩
 | .fn f l1 l2, _, hr => by
  simp only [aH] at *
  obtain ⟨h1, h2, hv⟩ := hr
  refine ⟨fun i hi => Nat.lt_of_lt_of_le (h1 i hi) hc.n, fun i hi => Nat.lt_of_lt_of_le (h2 i hi) hc.n, ?_⟩
  rw [List.map_congr_left (fun i hi => hc.hd i (h1 i hi)), List.map_congr_left (fun i hi => hc.hd i (h2 i hi))]
  exact hv
 | .mp i, _, hr => by simp only [aH] at *; exact ⟨Nat.lt_of_lt_of_le hr.1 hc.n, by rw [hc.hd i hr.1]; exact hr.2⟩
 | .flat vs, _, hr => by simp only [aH] at *; exact jN.keep hc h vs _ hr
 | .agg vs, _, hr => by simp only [aH] at *; exact jN.keep hc h vs _ hr
 | .tup _, _, hr => by simp [aH] at hr
theorem jN.keep {c c' : Ctx} {w w' : World} (hc : c.le c') (h : vT c.S w w') : ∀ (vs : List AV) (cs : List Value), jN c w vs cs → jN c' w' vs cs
 | [], _, hr => by simpa [jN] using hr
 | v :: r, _, hr => by
  simp only [jN] at *
  obtain ⟨c1, c2, hcs, h1, h2⟩ := hr
  exact ⟨c1, c2, hcs, aH.keep hc h v _ h1, jN.keep hc h r _ h2⟩
end
theorem rJ.keep {c c' : Ctx} {w w' : World} (hc : c.le c') (h : vT c.S w w') {v : AV} {x : Value} (hr : rJ c w v x) : rJ c' w' v x :=
 ⟨aH.keep hc h _ _ hr.1, hr.2⟩
theorem aQ.keep {c c' : Ctx} {w w' : World} (hc : c.le c') (h : vT c.S w w') {v : AV} {x : Value} (hr : aQ c w v x) : aQ c' w' v x := by
 cases v <;> simp only [aQ] at *
 case tup vs =>
  obtain ⟨xs, hx, hl, hv⟩ := hr
  exact ⟨xs, hx, hl, fun i h1 h2 => (hv i h1 h2).keep hc h⟩
 all_goals first | exact hr | exact hr.keep hc h
def vU (c : Ctx) (w : World) (e : TypeId) (t : Ty) (xs : List t.den) (v : Value) : Prop :=
 ∃ vals : List Value, w.ownsRow 0 e t.cells v xs.length vals ∧ aT w c.S (.arr xs.length t) xs vals
def aV8 (n s : Nat) (e : TypeId) : Prop := s = n ∨ (s = 2 ∧ n = 4294967296 + e)
def aRr : Ty → Bool
 | .nilp => true
 | _ => false
def aLZ : Ty → Bool
 | .sl _ => true
 | _ => false
def aPd : Ty → Bool
 | .unit => true
 | _ => false
def aRs : Ty → Bool
 | .pair b u => aLZ b && aPd u
 | _ => false
def aL0 : Ty → Bool
 | .pair a r => aRr a && aRs r
 | _ => false
def bxN (t : TypeId) (ct : Ty) : Nat := bif aL0 ct then 4294967296 + t else ct.cells
def aEV (ct : Ty) : AV := bif aL0 ct then .agg [.nilP, .nilS] else bif aLZ ct then .nilS else .val ct ct.zero
theorem aT7 {ct : Ty} (h : aLZ ct = true) : ∃ b, ct = .sl b := by
 unfold aLZ at h
 split at h
 ·exact ⟨_, rfl⟩
 ·cases h
theorem aQh {ct : Ty} (h : aL0 ct = true) : ∃ b, ct = .pair .nilp (.pair (.sl b) .unit) := by
 unfold aL0 at h
 split at h
 ·rename_i a r
  simp only [Bool.and_eq_true] at h
  obtain ⟨h1, h2⟩ := h
  unfold aRr at h1
  split at h1
  ·unfold aRs at h2
   split at h2
   ·rename_i b u
    simp only [Bool.and_eq_true] at h2
    obtain ⟨h3, h4⟩ := h2
    unfold aLZ at h3
    split at h3
    ·unfold aPd at h4
     split at h4
     ·exact ⟨_, rfl⟩
     ·cases h4
    ·cases h3
   ·cases h2
  ·cases h1
 ·cases h
theorem aT8 (t : TypeId) (ct : Ty) : aV8 (bxN t ct) ct.cells t := by
 unfold bxN
 cases h : aL0 ct with
 | false => exact .inl rfl
 | true =>
  obtain ⟨b, rfl⟩ := aQh h
  exact .inr ⟨rfl, rfl⟩
def hdB (v : Value) : List Nat := match aN v with
 | some b => [b]
 | none => []
def jU (w : World) (S : Nat → Prop) : (t : Ty) → Mk → t.den → List Value → List Nat → Prop
 | .sl t, .sl e m, xs, cs, B => ∃ (v : Value) (css : List (List Value)) (Bs : List (List Nat)), cs = [v] ∧ w.ownsRow 0 e t.cells v xs.length css.flatten ∧ css.length = xs.length ∧ Bs.length = xs.length ∧ B = hdB v ++ Bs.flatten ∧ ∀ i (h : i < xs.length) (h1 : i < css.length) (h2 : i < Bs.length), jU w S t m xs[i] css[i] Bs[i]
 | .pair a r, .pair ma mr, x, cs, B => ∃ (c1 c2 : List Value) (B1 B2 : List Nat), cs = c1 ++ c2 ∧ B = B1 ++ B2 ∧ jU w S a ma x.1 c1 B1 ∧ jU w S r mr x.2 c2 B2
 | t, .no, x, cs, B => aT w S t x cs ∧ B = []
 | _, _, _, _, _ => False
structure aSi (c : Ctx) (w : World) (i : Nat) (e : TypeId) (m : Mk) (t : Ty) (xs : List t.den) (k : Nat) (v : AV) (css : List (List Value)) (Bs : List (List Nat)) : Prop where
 row : w.ownsRow 0 e t.cells (c.hd i) xs.length css.flatten
 lc : css.length = xs.length
 lb : Bs.length = xs.length
 kl : k < xs.length
 el : ∀ j (h : j < xs.length) (h1 : j < css.length) (h2 : j < Bs.length), j ≠ k → jU w c.S t m xs[j] css[j] Bs[j]
 hb : ∀ (h2 : k < Bs.length), Bs[k] = []
 hv : ∀ (h1 : k < css.length), aH c w v css[k] ∧ css[k].length = t.cells
 nd : (hdB (c.hd i) ++ Bs.flatten).Nodup
 bl : ∀ b ∈ hdB (c.hd i) ++ Bs.flatten, c.bl i b
def aDB (c : Ctx) (w : World) (i : Nat) : Obj → Prop
 | .dead => True
 | .box n v => ∃ b cells e, c.hd i = .pointer (some ⟨b, 0, none⟩) ∧ w.heap[b]? = some (.cells cells e (0, 0)) ∧ aV8 n cells.size e ∧ aH c w v cells.toList
 | .row e t xs => vU c w e t xs (c.hd i)
 | .frz t xs => aT w c.S (.sl t) xs [c.hd i]
 | .map k v m => ∃ b es clock, c.hd i = .map (some b) ∧ w.heap[b]? = some (.map es clock) ∧ es.size = m.length ∧
   ∀ j (h : j < m.length) (h' : j < es.size), cR w c.S k m[j].1 es[j].key ∧ cR w c.S v m[j].2 es[j].val
 | .tre e m t xs => ∃ B, jU w c.S (.sl t) (.sl e m) xs [c.hd i] B ∧ B.Nodup ∧ ∀ b ∈ B, c.bl i b
 | .trh e m t xs k v => ∃ css Bs, aSi c w i e m t xs k v css Bs
def dO (c : Ctx) (i : Nat) : Obj → Nat → Prop
 | .dead, _ => False
 | .frz _ _, _ => False
 | .box _ _, b => aN (c.hd i) = some b
 | .row _ _ _, b => aN (c.hd i) = some b
 | .map _ _ _, b => aN (c.hd i) = some b
 | .tre _ _ _ _, b => c.bl i b
 | .trh _ _ _ _ _ _, b => c.bl i b
structure fJ (M : Nat → Prop) (w0 w : World) : Prop where
 os : w.os = w0.os
 tape : w.tape = w0.tape
 output : w.output = w0.output
 size : w0.heap.size ≤ w.heap.size
 block : ∀ b, b < w0.heap.size → ¬ M b → w.heap[b]? = w0.heap[b]?
theorem fJ.refl (M : Nat → Prop) (w : World) : fJ M w w := ⟨rfl, rfl, rfl, Nat.le_refl _, fun _ _ _ => rfl⟩
theorem fJ.trans {M : Nat → Prop} {a b c : World} (h : fJ M a b) (k : fJ M b c) : fJ M a c :=
 ⟨k.os.trans h.os, k.tape.trans h.tape, k.output.trans h.output, Nat.le_trans h.size k.size, fun i hi hM => (k.block i (Nat.lt_of_lt_of_le hi h.size) hM).trans (h.block i hi hM)⟩
theorem fJ.below {w0 w : World} (h : fJ (fun _ => False) w0 w) : Below w0.heap.size w0 w := ⟨h.os, h.tape, h.output, h.size, fun k hk => h.block k hk (fun f => f)⟩
theorem fJ.of_below {M : Nat → Prop} {w0 w : World} (h : Below w0.heap.size w0 w) : fJ M w0 w := ⟨h.os, h.tape, h.output, h.size, fun k hk _ => h.block k hk⟩
structure Perm where
 wr : Nat → Prop
 rd : Nat → Prop
 m : Nat
 roots : Nat → Value
structure Good (M : Perm) (w0 : World) (c : Ctx) (h : List Obj) (w : World) : Prop where
 n : c.n = h.length
 keeps : fJ M.wr w0 w
 sfin : ∀ b, c.S b → b < w.heap.size
 src : ∀ b, c.S b → b < w0.heap.size → M.rd b ∨ M.wr b
 objs : ∀ i o, h[i]? = some o → aDB c w i o
 own : ∀ i o b, h[i]? = some o → dO c i o b → (w0.heap.size ≤ b ∨ M.wr b) ∧ b < w.heap.size ∧ ¬ c.S b
 sep : ∀ i j oi oj b, h[i]? = some oi → h[j]? = some oj → dO c i oi b → dO c j oj b → i = j
 root : M.m ≤ c.n ∧ ∀ i, i < M.m → c.hd i = M.roots i
theorem yU {M : Perm} {c c' : Ctx} (h : M.m ≤ c.n ∧ ∀ i, i < M.m → c.hd i = M.roots i) (hl : c.le c') : M.m ≤ c'.n ∧ ∀ i, i < M.m → c'.hd i = M.roots i :=
 ⟨Nat.le_trans h.1 hl.n, fun i hi => (hl.hd i (Nat.lt_of_lt_of_le hi h.1)).trans (h.2 i hi)⟩
structure dE (c : Ctx) (w : World) (c' : Ctx) (w' : World) : Prop where
 le : c.le c'
 same : vT c.S w w'
theorem dE.refl (c : Ctx) (w : World) : dE c w c w := ⟨.refl _, .refl _ _⟩
theorem dE.trans {c1 c2 c3 : Ctx} {w1 w2 w3 : World} (h : dE c1 w1 c2 w2) (k : dE c2 w2 c3 w3) : dE c1 w1 c3 w3 :=
 ⟨h.le.trans k.le, h.same.trans (k.same.mono h.le.S)⟩
theorem dE.val {c c' : Ctx} {w w' : World} (h : dE c w c' w') {v : AV} {x : Value} (hr : aQ c w v x) : aQ c' w' v x := hr.keep h.le h.same
def look : List (Nat × AV) → Nat → AV
 | [], _ => .junk
 | (k, v) :: r, t => if k = t then v else look r t
def aEI (c : Ctx) (w : World) (env : List (Nat × AV)) (tmps : Array Value) : Prop := ∀ t, aQ c w (look env t) (tmps.getD t Go.undef)
theorem aEI.keep {c c' : Ctx} {w w' : World} (h : dE c w c' w') {env : List (Nat × AV)} {tmps : Array Value} (hr : aEI c w env tmps) : aEI c' w' env tmps :=
 fun t => h.val (hr t)
theorem aEI.put {c : Ctx} {w : World} {env : List (Nat × AV)} {a : Act} {d : Nat} {v : AV} {x : Value} (hr : aEI c w env a.tmps) (hd : d < a.tmps.size) (hx : aQ c w v x) :
  aEI c w ((d, v) :: env) (a.put (some d) x).tmps := by
 intro t
 simp only [look, Act.put]
 by_cases h : d = t
 ·subst h; simp [hd, hx]
 ·rw [if_neg h]
  have := hr t
  simpa [Array.getElem?_setIfInBounds_ne h] using this
def rowOf (h : List Obj) (i : Nat) (t : Ty) : Option (List t.den) :=
 match h[i]? with
 | some (.row _ t' xs) => if e : t' = t then some (e ▸ xs) else none
 | some (.frz t' xs) => if e : t' = t then some (e ▸ xs) else none
 | some (.tre _ _ t' xs) => if e : t' = t then some (e ▸ xs) else none
 | _ => none
end Go.Vc
namespace Go.Vc
open Go.RowKit
def hO (k : IntKind) : Nat := 2 ^ k.bits
def fits (k : IntKind) (x : Int) : Prop := k.min ≤ x ∧ x ≤ k.max
theorem aRt {k : IntKind} (hk : k.signed = false) (n : Int) : k.wrap n = n % (hO k : Int) := by
 cases k <;> simp [IntKind.signed] at hk <;> simp [IntKind.wrap, IntKind.signed, IntKind.bits, hO]
theorem vV {k : IntKind} (hk : k.signed = false) (n : Nat) : k.wrap (n : Int) = ((n % hO k : Nat) : Int) := by
 rw [aRt hk]; simp
theorem aSj {k : IntKind} (hk : k.signed = false) : k.max = (hO k : Int) - 1 := by
 cases k <;> simp [IntKind.signed] at hk <;> simp [IntKind.max, IntKind.signed, IntKind.bits, hO]
theorem aBn (k : IntKind) : 0 < hO k := by unfold hO; exact Nat.two_pow_pos _
theorem aT9 {k : IntKind} (hk : k.signed = false) {n : Nat} (h : n < hO k) : (n : Int) ≤ k.max := by rw [aSj hk]; omega
theorem aJ8 {k : IntKind} (hk : k.signed = false) {n : Nat} (h : (n : Int) ≤ k.max) : n < hO k := by rw [aSj hk] at h; omega
theorem aEW {k : IntKind} (hk : k.signed = true) {n : Int} (h : fits k n) : k.wrap n = n := by
 obtain ⟨h1, h2⟩ := h
 cases k <;> simp [IntKind.signed] at hk <;> simp [IntKind.min, IntKind.max, IntKind.signed, IntKind.bits] at h1 h2 <;> simp [IntKind.wrap, IntKind.signed, IntKind.bits] <;> split <;> omega
theorem aC5 {k : IntKind} (hk : k.signed = true) (n : Int) : fits k (k.wrap n) := by
 cases k <;> simp [IntKind.signed] at hk <;> simp [fits, IntKind.min, IntKind.max, IntKind.wrap, IntKind.signed, IntKind.bits] <;> split <;> omega
section
variable {w : World} {S : Nat → Prop} {c : Ctx}
theorem aEJ {k : IntKind} (hk : k.signed = false) {n : Nat} (h : n < hO k) : aQ c w (.val (.u k) n) (.int k n) :=
 ⟨⟨rfl, hk, aT9 hk h⟩, (fun h => by cases h), (fun _ cs => by simp)⟩
theorem uT {k : IntKind} (hk : k.signed = true) {n : Int} (h : fits k n) : aQ c w (.val (.i k) n) (.int k n) :=
 ⟨⟨rfl, hk, h.1, h.2⟩, (fun h => by cases h), (fun _ cs => by simp)⟩
theorem vW (b : Bool) : aQ c w (.val .bool b) (.bool b) := ⟨rfl, (fun h => by cases h), (fun _ cs => by simp)⟩
theorem aV9 {s : ByteArray} (h : s.size ≤ maxLen) : aQ c w (.val .str (aP s)) (.string s) := ⟨⟨s, rfl, rfl, h⟩, (fun h => by cases h), (fun _ cs => by simp)⟩
theorem aEX {k : IntKind} {n : Nat} {v : Value} (h : aQ c w (.val (.u k) n) v) : v = .int k n ∧ k.signed = false ∧ n < hO k := by
 obtain ⟨⟨h1, h2, h3⟩, _, h4⟩ := h
 have h4 := h4 rfl
 cases v <;> simp [Value.cells] at h1 h4
 obtain ⟨rfl, rfl⟩ := h1
 exact ⟨rfl, h2, aJ8 h2 h3⟩
theorem aEY {k : IntKind} {n : Int} {v : Value} (h : aQ c w (.val (.i k) n) v) : v = .int k n ∧ k.signed = true ∧ fits k n := by
 obtain ⟨⟨h1, h2, h3⟩, _, h4⟩ := h
 have h4 := h4 rfl
 cases v <;> simp [Value.cells] at h1 h4
 obtain ⟨rfl, rfl⟩ := h1
 exact ⟨rfl, h2, h3⟩
theorem aC6 {b : Bool} {v : Value} (h : aQ c w (.val .bool b) v) : v = .bool b := by
 obtain ⟨h1, _, h4⟩ := h
 have h4 := h4 rfl
 cases v <;> simp [aH, aT, Value.cells] at h1 h4
 subst h1; rfl
theorem aJ9 {x : List Nat} {v : Value} (h : aQ c w (.val .str x) v) : ∃ s, v = .string s ∧ aP s = x ∧ s.size ≤ maxLen := by
 obtain ⟨⟨s, h1, h2⟩, _, h4⟩ := h
 have h4 := h4 rfl
 cases v <;> simp [Value.cells] at h1 h4
 subst h1
 exact ⟨_, rfl, h2⟩
end
theorem aSk : ∃ f : IntKind → Nat → Nat → Nat, ∀ k a b, f k a b = (a + (hO k - b)) % hO k := ⟨_, fun _ _ _ => rfl⟩
noncomputable def aUa : IntKind → Nat → Nat → Nat := Classical.choose aSk
theorem aLK (k : IntKind) (a b : Nat) : aUa k a b = (a + (hO k - b)) % hO k := Classical.choose_spec aSk k a b
theorem aSl : ∃ f : IntKind → Nat → Nat → Nat, ∀ k a b, f k a b = (a * b) % hO k := ⟨_, fun _ _ _ => rfl⟩
noncomputable def aUb : IntKind → Nat → Nat → Nat := Classical.choose aSl
theorem aSm (k : IntKind) (a b : Nat) : aUb k a b = (a * b) % hO k := Classical.choose_spec aSl k a b
theorem aSn : ∃ f : IntKind → Nat → Nat, ∀ k a, f k a = (0 + (hO k - a)) % hO k := ⟨_, fun _ _ => rfl⟩
noncomputable def aUc : IntKind → Nat → Nat := Classical.choose aSn
theorem aSo (k : IntKind) (a : Nat) : aUc k a = (0 + (hO k - a)) % hO k := Classical.choose_spec aSn k a
noncomputable def aPe (op : BinOp) (k : IntKind) (a b : Nat) : Prop × AV :=
 match op with
 | .add => (True, .val (.u k) ((a + b) % hO k))
 | .sub => (True, .val (.u k) (aUa k a b))
 | .mul => (True, .val (.u k) (aUb k a b))
 | .quo => (b ≠ 0, .val (.u k) (a / b))
 | .rem => (b ≠ 0, .val (.u k) (a % b))
 | .and => (True, .val (.u k) (a &&& b))
 | .or => (True, .val (.u k) (a ||| b))
 | .xor => (True, .val (.u k) (a ^^^ b))
 | .andNot => (True, .val (.u k) (a &&& (hO k - 1 - b)))
 | .eql => (True, .val .bool (decide (a = b)))
 | .neq => (True, .val .bool (!decide (a = b)))
 | .lss => (True, .val .bool (decide (a < b)))
 | .leq => (True, .val .bool (decide (a ≤ b)))
 | .gtr => (True, .val .bool (decide (b < a)))
 | .geq => (True, .val .bool (decide (b ≤ a)))
 | _ => (False, .junk)
def aUd (op : BinOp) (k : IntKind) (a b : Int) : Prop × AV :=
 match op with
 | .add => (fits k (a + b), .val (.i k) (a + b))
 | .sub => (fits k (a - b), .val (.i k) (a - b))
 | .mul => (fits k (a * b), .val (.i k) (a * b))
 | .quo => (b ≠ 0 ∧ fits k (a.tdiv b), .val (.i k) (a.tdiv b))
 | .rem => (b ≠ 0, .val (.i k) (a.tmod b))
 | .and => (True, .val (.i k) (k.wrap ((BitVec.ofInt k.bits a &&& BitVec.ofInt k.bits b).toNat : Int)))
 | .or => (True, .val (.i k) (k.wrap ((BitVec.ofInt k.bits a ||| BitVec.ofInt k.bits b).toNat : Int)))
 | .xor => (True, .val (.i k) (k.wrap ((BitVec.ofInt k.bits a ^^^ BitVec.ofInt k.bits b).toNat : Int)))
 | .eql => (True, .val .bool (decide (a = b)))
 | .neq => (True, .val .bool (!decide (a = b)))
 | .lss => (True, .val .bool (decide (a < b)))
 | .leq => (True, .val .bool (decide (a ≤ b)))
 | .gtr => (True, .val .bool (decide (b < a)))
 | .geq => (True, .val .bool (decide (b ≤ a)))
 | _ => (False, .junk)
def aGo : List Nat → List Nat → Bool
 | _, [] => false
 | [], _ :: _ => true
 | a :: x, b :: y => decide (a < b) || (decide (a = b) && aGo x y)
def aUe (op : BinOp) (a b : List Nat) : Prop × AV :=
 match op with
 | .add => (a.length + b.length ≤ maxLen, .val .str (a ++ b))
 | .eql => (True, .val .bool (decide (a = b)))
 | .neq => (True, .val .bool (!decide (a = b)))
 | .lss => (True, .val .bool (aGo a b))
 | .leq => (True, .val .bool (aGo a b || decide (a = b)))
 | .gtr => (True, .val .bool (!(aGo a b || decide (a = b))))
 | .geq => (True, .val .bool (!aGo a b))
 | _ => (False, .junk)
def aWa (op : BinOp) (a b : Bool) : Prop × AV :=
 match op with
 | .eql => (True, .val .bool (a == b))
 | .neq => (True, .val .bool (a != b))
 | _ => (False, .junk)
def shU (op : BinOp) (k : IntKind) (a n : Nat) : Prop × AV :=
 match op with
 | .shl => (True, .val (.u k) ((a * 2 ^ n) % hO k))
 | .shr => (True, .val (.u k) (a / 2 ^ n))
 | _ => (False, .junk)
def shI (op : BinOp) (k : IntKind) (a : Int) (n : Nat) : Prop × AV :=
 match op with
 | .shl => (fits k (a * 2 ^ n), .val (.i k) (a * 2 ^ n))
 | .shr => (True, .val (.i k) (a.fdiv (2 ^ n)))
 | _ => (False, .junk)
section
variable {P : Program} {w : World} {c : Ctx}
theorem pJ {k : IntKind} {a : Nat} (ha : a < hO k) : (BitVec.ofInt k.bits (a : Int)).toNat = a := by
 simp only [BitVec.ofInt_natCast, BitVec.toNat_ofNat]
 exact Nat.mod_eq_of_lt ha
theorem aPf (op : BinOp) (t : TypeId) {k : IntKind} {a b : Nat} (hk : k.signed = false) (ha : a < hO k) (hb : b < hO k) (h : (aPe op k a b).1) :
  ∃ v, (binOp op t (.int k a) (.int k b)).run P w = .ok v w ∧ aQ c w (aPe op k a b).2 v := by
 have hp := aBn k
 cases op <;> simp only [aPe] at h ⊢
 case add => exact ⟨.int k (((a + b) % hO k : Nat) : Int), by simp only [binOp, Op.intArith, ne_eq, not_true_eq_false, if_false]; rw [← vV hk]; rfl, aEJ hk (Nat.mod_lt _ hp)⟩
 case sub =>
  rw [aLK]
  refine ⟨_, by simp only [binOp, Op.intArith, ne_eq, not_true_eq_false, if_false]; rfl, ?_⟩
  rw [aRt hk, show ((a : Int) - b) % (hO k : Int) = (((a + (hO k - b)) % hO k : Nat) : Int) from by
   rw [Int.natCast_emod, Int.natCast_add, Int.ofNat_sub (by omega), show (a : Int) + ((hO k : Int) - b) = (a - b) + hO k from by omega, Int.add_emod_right]]
  exact aEJ hk (Nat.mod_lt _ hp)
 case mul => rw [aSm]; exact ⟨.int k (((a * b) % hO k : Nat) : Int), by simp only [binOp, Op.intArith, ne_eq, not_true_eq_false, if_false]; rw [← vV hk, Int.natCast_mul]; rfl, aEJ hk (Nat.mod_lt _ hp)⟩
 case quo =>
  have hb0 : ¬ (b : Int) = 0 := by omega
  refine ⟨.int k ((a / b : Nat) : Int), ?_, aEJ hk (Nat.lt_of_le_of_lt (Nat.div_le_self _ _) ha)⟩
  have e : k.wrap ((a : Int).tdiv b) = ((a / b : Nat) : Int) := by
   rw [show (a : Int).tdiv b = ((a / b : Nat) : Int) from by rw [Int.tdiv_eq_ediv_of_nonneg (by omega)]; simp, vV hk, Nat.mod_eq_of_lt (Nat.lt_of_le_of_lt (Nat.div_le_self _ _) ha)]
  simp only [binOp, Op.intDiv, hb0, e, ne_eq, not_true_eq_false, if_false]; rfl
 case rem =>
  have hb0 : ¬ (b : Int) = 0 := by omega
  refine ⟨.int k ((a % b : Nat) : Int), ?_, aEJ hk (Nat.lt_of_le_of_lt (Nat.mod_le _ _) ha)⟩
  have e : (a : Int).tmod b = ((a % b : Nat) : Int) := by rw [Int.tmod_eq_emod_of_nonneg (by omega)]; simp
  simp only [binOp, Op.intDiv, hb0, e, ne_eq, not_true_eq_false, if_false]; rfl
 case and =>
  have e : k.wrap ((BitVec.ofInt k.bits (a : Int) &&& BitVec.ofInt k.bits (b : Int)).toNat : Int) = ((a &&& b : Nat) : Int) := by
   rw [BitVec.toNat_and, pJ ha, pJ hb, vV hk, Nat.mod_eq_of_lt (Nat.lt_of_le_of_lt Nat.and_le_left ha)]
  exact ⟨_, by simp only [binOp, Op.intBits, ne_eq, not_true_eq_false, if_false, e]; rfl, aEJ hk (Nat.lt_of_le_of_lt Nat.and_le_left ha)⟩
 case or =>
  have hl : a ||| b < hO k := Nat.or_lt_two_pow ha hb
  have e : k.wrap ((BitVec.ofInt k.bits (a : Int) ||| BitVec.ofInt k.bits (b : Int)).toNat : Int) = ((a ||| b : Nat) : Int) := by
   rw [BitVec.toNat_or, pJ ha, pJ hb, vV hk, Nat.mod_eq_of_lt hl]
  exact ⟨_, by simp only [binOp, Op.intBits, ne_eq, not_true_eq_false, if_false, e]; rfl, aEJ hk hl⟩
 case xor =>
  have hl : a ^^^ b < hO k := Nat.xor_lt_two_pow ha hb
  have e : k.wrap ((BitVec.ofInt k.bits (a : Int) ^^^ BitVec.ofInt k.bits (b : Int)).toNat : Int) = ((a ^^^ b : Nat) : Int) := by
   rw [BitVec.toNat_xor, pJ ha, pJ hb, vV hk, Nat.mod_eq_of_lt hl]
  exact ⟨_, by simp only [binOp, Op.intBits, ne_eq, not_true_eq_false, if_false, e]; rfl, aEJ hk hl⟩
 case andNot =>
  have e : k.wrap ((BitVec.ofInt k.bits (a : Int) &&& ~~~ BitVec.ofInt k.bits (b : Int)).toNat : Int) = ((a &&& (hO k - 1 - b) : Nat) : Int) := by
   rw [BitVec.toNat_and, BitVec.toNat_not, pJ ha, pJ hb, vV hk]
   rw [Nat.mod_eq_of_lt (Nat.lt_of_le_of_lt Nat.and_le_left ha)]
   rfl
  exact ⟨_, by simp only [binOp, Op.intBits, ne_eq, not_true_eq_false, if_false, e]; rfl, aEJ hk (Nat.lt_of_le_of_lt Nat.and_le_left ha)⟩
 case eql => exact ⟨.bool (decide (a = b)), by simp [binOp, Op.intCmp]; rw [Bool.eq_iff_iff]; simp; omega, vW _⟩
 case neq => exact ⟨.bool (!decide (a = b)), by simp [binOp, Op.intCmp]; rw [Bool.eq_iff_iff]; simp; omega, vW _⟩
 case lss => exact ⟨.bool (decide (a < b)), by simp [binOp, Op.intCmp], vW _⟩
 case leq => exact ⟨.bool (decide (a ≤ b)), by simp [binOp, Op.intCmp], vW _⟩
 case gtr => exact ⟨.bool (decide (b < a)), by simp [binOp, Op.intCmp], vW _⟩
 case geq => exact ⟨.bool (decide (b ≤ a)), by simp [binOp, Op.intCmp], vW _⟩
theorem aWb (op : BinOp) (t : TypeId) {k : IntKind} {a b : Int} (hk : k.signed = true) (ha : fits k a) (hb : fits k b) (h : (aUd op k a b).1) :
  ∃ v, (binOp op t (.int k a) (.int k b)).run P w = .ok v w ∧ aQ c w (aUd op k a b).2 v := by
 cases op <;> simp only [aUd] at h ⊢
 case add => exact ⟨_, by simp only [binOp, Op.intArith, ne_eq, not_true_eq_false, if_false, aEW hk h]; rfl, uT hk h⟩
 case sub => exact ⟨_, by simp only [binOp, Op.intArith, ne_eq, not_true_eq_false, if_false, aEW hk h]; rfl, uT hk h⟩
 case mul => exact ⟨_, by simp only [binOp, Op.intArith, ne_eq, not_true_eq_false, if_false, aEW hk h]; rfl, uT hk h⟩
 case quo => exact ⟨_, by simp only [binOp, Op.intDiv, ne_eq, not_true_eq_false, if_false, h.1, aEW hk h.2]; rfl, uT hk h.2⟩
 case rem =>
  refine ⟨_, by simp only [binOp, Op.intDiv, ne_eq, not_true_eq_false, if_false, h]; rfl, uT hk ?_⟩
  obtain ⟨h1, h2⟩ := ha
  have hl : ((a.tmod b).natAbs) ≤ a.natAbs := by rw [Int.natAbs_tmod]; exact Nat.mod_le _ _
  have hs : 0 ≤ a → 0 ≤ a.tmod b := fun h => Int.tmod_nonneg _ h
  have hs' : a ≤ 0 → a.tmod b ≤ 0 := fun h => by
   have := Int.tmod_nonneg b (show 0 ≤ -a by omega)
   rw [Int.neg_tmod] at this; omega
  have hm : k.min ≤ 0 ∧ 0 ≤ k.max := by cases k <;> simp [IntKind.min, IntKind.max, IntKind.signed, IntKind.bits]
  constructor <;> omega
 case and => exact ⟨_, by simp only [binOp, Op.intBits, ne_eq, not_true_eq_false, if_false]; rfl, uT hk (aC5 hk _)⟩
 case or => exact ⟨_, by simp only [binOp, Op.intBits, ne_eq, not_true_eq_false, if_false]; rfl, uT hk (aC5 hk _)⟩
 case xor => exact ⟨_, by simp only [binOp, Op.intBits, ne_eq, not_true_eq_false, if_false]; rfl, uT hk (aC5 hk _)⟩
 case eql => exact ⟨.bool (decide (a = b)), by simp [binOp, Op.intCmp]; rw [Bool.eq_iff_iff]; simp, vW _⟩
 case neq => exact ⟨.bool (!decide (a = b)), by simp [binOp, Op.intCmp]; rw [Bool.eq_iff_iff]; simp, vW _⟩
 case lss => exact ⟨.bool (decide (a < b)), by simp [binOp, Op.intCmp], vW _⟩
 case leq => exact ⟨.bool (decide (a ≤ b)), by simp [binOp, Op.intCmp], vW _⟩
 case gtr => exact ⟨.bool (decide (b < a)), by simp [binOp, Op.intCmp], vW _⟩
 case geq => exact ⟨.bool (decide (b ≤ a)), by simp [binOp, Op.intCmp], vW _⟩
theorem aRu (op : BinOp) (t : TypeId) {k k' : IntKind} {a n : Nat} (hk : k.signed = false) (ha : a < hO k) (h : (shU op k a n).1) :
  ∃ v, (binOp op t (.int k a) (.int k' n)).run P w = .ok v w ∧ aQ c w (shU op k a n).2 v := by
 cases op <;> simp only [shU] at h ⊢
 case shl =>
  refine ⟨_, by simp only [binOp, Op.shift, show ¬ ((n : Int) < 0) from by omega, if_false]; rfl, ?_⟩
  have e : k.wrap ((a : Int) * 2 ^ min (n : Int).toNat k.bits) = (((a * 2 ^ n) % hO k : Nat) : Int) := by
   rw [show ((a : Int) * 2 ^ min (n : Int).toNat k.bits) = ((a * 2 ^ min n k.bits : Nat) : Int) from by simp, vV hk]
   congr 1
   by_cases hn : n ≤ k.bits
   ·rw [Nat.min_eq_left hn]
   ·rw [Nat.min_eq_right (by omega)]
    have e1 : a * 2 ^ n = a * 2 ^ (n - k.bits) * hO k := by
     rw [hO, Nat.mul_assoc, ← Nat.pow_add]; congr 2; omega
    rw [e1, show a * 2 ^ k.bits = a * hO k from rfl, Nat.mul_mod_left, Nat.mul_mod_left]
  rw [e]
  exact aEJ hk (Nat.mod_lt _ (aBn k))
 case shr =>
  refine ⟨_, by simp only [binOp, Op.shift, show ¬ ((n : Int) < 0) from by omega, if_false]; rfl, ?_⟩
  have e : (a : Int).fdiv (2 ^ min (n : Int).toNat k.bits) = ((a / 2 ^ n : Nat) : Int) := by
   rw [Int.fdiv_eq_ediv_of_nonneg _ (by exact Int.le_of_lt (Int.pow_pos (by omega))), show ((2 : Int) ^ min (n : Int).toNat k.bits) = ((2 ^ min n k.bits : Nat) : Int) from by simp, ← Int.natCast_ediv]
   congr 1
   by_cases hn : n ≤ k.bits
   ·rw [Nat.min_eq_left hn]
   ·rw [Nat.min_eq_right (by omega), Nat.div_eq_of_lt (show a < 2 ^ k.bits from ha), Nat.div_eq_of_lt (Nat.lt_of_lt_of_le ha (Nat.pow_le_pow_right (by omega) (by omega)))]
  rw [e]
  exact aEJ hk (Nat.lt_of_le_of_lt (Nat.div_le_self _ _) ha)
theorem aRv (op : BinOp) (t : TypeId) {k k' : IntKind} {a : Int} {n : Nat} (hk : k.signed = true) (ha : fits k a) (hn : op = .shl → n ≤ k.bits) (h : (shI op k a n).1) :
  ∃ v, (binOp op t (.int k a) (.int k' n)).run P w = .ok v w ∧ aQ c w (shI op k a n).2 v := by
 cases op <;> simp only [shI] at h ⊢
 case shl =>
  refine ⟨_, by simp only [binOp, Op.shift, show ¬ ((n : Int) < 0) from by omega, if_false]; rfl, ?_⟩
  rw [show min (n : Int).toNat k.bits = n from by have := hn rfl; simp; omega, aEW hk h]
  exact uT hk h
 case shr =>
  refine ⟨_, by simp only [binOp, Op.shift, show ¬ ((n : Int) < 0) from by omega, if_false]; rfl, ?_⟩
  have hb : -(2 ^ k.bits : Int) ≤ a ∧ a < 2 ^ k.bits := by
   obtain ⟨h1, h2⟩ := ha
   cases k <;> simp [IntKind.signed] at hk <;> simp [IntKind.min, IntKind.max, IntKind.signed, IntKind.bits] at h1 h2 ⊢ <;> omega
  have hpos : ∀ m : Nat, (0 : Int) < 2 ^ m := fun m => Int.pow_pos (by omega)
  have e : a.fdiv (2 ^ min (n : Int).toNat k.bits) = a.fdiv (2 ^ n) := by
   by_cases hn : n ≤ k.bits
   ·rw [show min (n : Int).toNat k.bits = n from by simp; omega]
   ·rw [show min (n : Int).toNat k.bits = k.bits from by simp; omega]
    have hle : (2 : Int) ^ k.bits ≤ 2 ^ n := by
     have := Nat.pow_le_pow_right (n := 2) (by omega) (show k.bits ≤ n by omega)
     exact_mod_cast this
    rw [Int.fdiv_eq_ediv_of_nonneg _ (Int.le_of_lt (hpos _)), Int.fdiv_eq_ediv_of_nonneg _ (Int.le_of_lt (hpos _))]
    by_cases h0 : 0 ≤ a
    ·rw [Int.ediv_eq_zero_of_lt h0 hb.2, Int.ediv_eq_zero_of_lt h0 (by omega)]
    ·have q1 : a / (2 ^ k.bits : Int) = -1 := by
      have := Int.ediv_eq_neg_one_of_neg_of_le (a := a) (b := (2 ^ k.bits : Int)) (by omega) (by omega); exact this
     have q2 : a / (2 ^ n : Int) = -1 := Int.ediv_eq_neg_one_of_neg_of_le (by omega) (by omega)
     rw [q1, q2]
  rw [e]
  refine uT hk ?_
  obtain ⟨h1, h2⟩ := ha
  rw [Int.fdiv_eq_ediv_of_nonneg _ (Int.le_of_lt (hpos _))]
  have hm : k.min ≤ 0 ∧ 0 ≤ k.max := by cases k <;> simp [IntKind.min, IntKind.max, IntKind.signed, IntKind.bits]
  have hp1 : (1 : Int) ≤ 2 ^ n := by have := hpos n; omega
  constructor
  ·by_cases h0 : 0 ≤ a
   ·have := Int.ediv_nonneg h0 (Int.le_of_lt (hpos n)); omega
   ·have : a ≤ a / 2 ^ n := by
     rw [Int.le_ediv_iff_mul_le (hpos n)]
     have := Int.mul_le_mul_of_nonpos_left (a := a) (b := 2 ^ n) (c := 1) (by omega) hp1
     simpa using this
    omega
  ·by_cases h0 : 0 ≤ a
   ·have := Int.ediv_le_self (2 ^ n) h0; omega
   ·have := Int.ediv_neg_of_neg_of_pos (show a < 0 by omega) (hpos n); omega
end
end Go.Vc
namespace Go.Vc
open Go.RowKit
def Tab := TypeId → Option Ty
def dB (T : Tab) : List Field → Nat → Ty → Bool
 | [], _, .unit => true
 | f :: fs, off, .pair a r => decide (T f.type = some a) && decide (f.offset = off) && decide (f.name ≠ "_") && decide (0 < a.cells) && dB T fs (off + a.cells) r
 | _, _, _ => false
def aSp (T : Tab) : List Field → Bool
 | [f0, f1, f2] => decide (T f0.type = some (.i .i64)) && decide (f0.offset = 0) && decide (T f1.type = some .str) && decide (f1.offset = 1) && decide (T f2.type = some (.sl .expr)) && decide (f2.offset = 2)
 | _ => false
def fT (T : Tab) (d : TypeDesc) (c : Ty) : Bool :=
 match c, d with
 | .bool, .bool => true
 | .u k, .int k' => decide (k = k') && !k.signed
 | .i k, .int k' => decide (k = k') && k.signed
 | .str, .string => true
 | .sl c, .slice e => decide (T e = some c) && decide (0 < c.cells)
 | .unit, .struct fs => dB T fs.toList 0 .unit
 | .pair a b, .struct fs => dB T fs.toList 0 (.pair a b)
 | .arr n c, .array n' e => decide (n = n') && decide (T e = some c) && decide (0 < c.cells) && decide (1 < n ∧ n ≤ 1048576)
 | .expr, .struct fs => aSp T fs.toList
 | .rp c, .pointer e => decide (T e = some c)
 | .clo _ _, .func _ _ _ => true
 | .nili, .interface _ => true
 | .nilp, .pointer _ => true
 | .nilf, .func _ _ _ => true
 | _, _ => false
def cC : Ty → List Value
 | .bool => [.bool false]
 | .u k => [.int k 0]
 | .i k => [.int k 0]
 | .str => [.string ⟨#[]⟩]
 | .sl _ => [.slice none 0 0]
 | .unit => []
 | .pair a b => cC a ++ cC b
 | .arr n t => (List.replicate n (cC t)).flatten
 | .expr => [.int .i64 0, .string ⟨#[]⟩, .slice none 0 0]
 | .rp _ => [.pointer none]
 | .clo _ _ => [.nilFunc]
 | .ifc _ _ => [.nilIface]
 | .nili => [.nilIface]
 | .nilp => [.pointer none]
 | .nilf => [.nilFunc]
def Ty.okB : Ty → Bool
 | .u k => !k.signed
 | .i k => k.signed
 | .sl t => t.okB
 | .pair a b => a.okB && b.okB
 | .arr _ t => t.okB
 | .rp _ => false
 | .clo _ _ => false
 | .ifc _ _ => false
 | .nili => false
 | _ => true
def jO (c : Ty) : Value := if c.isAgg then .agg (cC c).toArray else (cC c).headD Go.undef
def aWc : Value → Value → Bool
 | .bool a, .bool b => a == b
 | .int k a, .int k' b => decide (k = k') && decide (a = b)
 | .string a, .string b => decide (a.data.toList = b.data.toList)
 | .slice none 0 0, .slice none 0 0 => true
 | .pointer none, .pointer none => true
 | .nilFunc, .nilFunc => true
 | _, _ => false
def aTm : List Value → List Value → Bool
 | [], [] => true
 | a :: r, b :: s => aWc a b && aTm r s
 | _, _ => false
def veq : Value → Value → Bool
 | .agg xs, .agg ys => aTm xs.toList ys.toList
 | a, b => aWc a b
theorem aSq {a b : Value} (h : aWc a b = true) : a = b := by
 unfold aWc at h
 split at h <;> simp at h
 ·rw [h]
 ·obtain ⟨rfl, rfl⟩ := h; rfl
 ·rename_i x y; obtain ⟨⟨x⟩⟩ := x; obtain ⟨⟨y⟩⟩ := y; simp at h; rw [h]
 ·rfl
 ·rfl
 ·rfl
theorem aSr : ∀ {a b : List Value}, aTm a b = true → a = b
 | [], [], _ => rfl
 | [], _ :: _, h => by simp [aTm] at h
 | _ :: _, [], h => by simp [aTm] at h
 | a :: r, b :: s, h => by simp only [aTm, Bool.and_eq_true] at h; rw [aSq h.1, aSr h.2]
theorem aXt {a b : Value} (h : veq a b = true) : a = b := by
 unfold veq at h
 split at h
 ·rename_i x y; have := aSr h; obtain ⟨x⟩ := x; obtain ⟨y⟩ := y; simp at this; rw [this]
 ·exact aSq h
def Ty.byt : Ty → Nat
 | .bool => 1
 | .u k => k.bits / 8
 | .i k => k.bits / 8
 | .str => 16
 | .sl _ => 24
 | c => 24 * c.cells + 1
def tyB (P : Program) (T : Tab) (t : TypeId) (c : Ty) : Bool :=
 match P.info? t, P.underlying t with
 | some i, some d => decide (i.size = c.cells) && (!c.okB || (match i.zero with | some z => veq z (jO c) | none => false)) && decide (i.bytes ≤ c.byt ∧ (c = .u .u8 → i.bytes = 1)) && fT T d c && !P.stoodInHeld t && (!c.isAgg || !P.eqGuardType P.depth t)
 | _, _ => false
def aGp : List (TypeId × Ty) → Tab
 | [], _ => none
 | (k, v) :: r, t => if k = t then some v else aGp r t
def aYw (P : Program) (l : List (TypeId × Ty)) : Bool := l.all fun p => tyB P (aGp l) p.1 p.2
structure aAJ (P : Program) (T : Tab) (t : TypeId) (c : Ty) : Prop where
 info : ∃ i, P.info? t = some i ∧ i.size = c.cells ∧ (c.okB = true → i.zero = some (jO c)) ∧ i.bytes ≤ c.byt
 desc : ∃ d, P.underlying t = some d ∧ fT T d c = true
 held : P.stoodInHeld t = false
 guard : c.isAgg = true → P.eqGuardType P.depth t = false
 byte : c = .u .u8 → ∀ i, P.info? t = some i → i.bytes = 1
def iS (P : Program) (T : Tab) : Prop := ∀ t c, T t = some c → aAJ P T t c
theorem aWd {P : Program} {T : Tab} {t : TypeId} {c : Ty} (h : tyB P T t c = true) : aAJ P T t c := by
 unfold tyB at h
 split at h
 ·rename_i i d hi hd
  simp only [Bool.and_eq_true, decide_eq_true_eq, Bool.not_eq_true'] at h
  obtain ⟨⟨⟨⟨⟨h1, h2⟩, h3⟩, h4⟩, h5⟩, h6⟩ := h
  refine ⟨⟨i, hi, h1, fun hok => ?_, h3.1⟩, ⟨d, hd, h4⟩, h5, fun ha => by simpa [ha] using h6, fun e i' hi' => by rw [hi] at hi'; cases hi'; exact h3.2 e⟩
  rw [hok] at h2
  simp only [Bool.not_true, Bool.false_or] at h2
  split at h2
  ·rename_i z hz; rw [hz, aXt h2]
  ·cases h2
 ·cases h
theorem aOH {l : List (TypeId × Ty)} {t : TypeId} {c : Ty} (h : aGp l t = some c) : (t, c) ∈ l := by
 induction l with
 | nil => cases h
 | cons p r ih =>
  obtain ⟨k, v⟩ := p
  simp only [aGp] at h
  split at h
  ·rename_i e; cases h; subst e; exact .head _
  ·exact .tail _ (ih h)
theorem aUf {P : Program} {l : List (TypeId × Ty)} (h : aYw P l = true) : iS P (aGp l) := fun t c hc => by
 have := List.all_eq_true.1 h _ (aOH hc)
 exact aWd this
section
variable {P : Program} {T : Tab}
theorem aAJ.agg {t : TypeId} {c : Ty} (h : aAJ P T t c) : (match P.underlying t with | some (.struct _) | some (.array _ _) => true | _ => false) = c.isAgg := by
 obtain ⟨d, hd, hb⟩ := h.desc
 rw [hd]
 cases c <;> cases d <;> simp_all [fT, Ty.isAgg]
theorem aC7 {t : TypeId} {c : Ty} (h : aAJ P T t c) (w : World) : (isAgg t).run P w = .ok c.isAgg w := by
 have ha := h.agg
 obtain ⟨d, hd, hb⟩ := h.desc
 rw [hd] at ha
 rw [← ha]
 simp [isAgg, underlying, hd]
 split <;> simp_all
theorem dW {t : TypeId} {c : Ty} (h : aAJ P T t c) (w : World) : (sizeOf t).run P w = .ok c.cells w := by
 obtain ⟨i, hi, hs, _, _⟩ := h.info
 simp [sizeOf, typeInfo, hi, hs]
theorem aV {t : TypeId} {d : TypeDesc} (h : P.underlying t = some d) (w : World) : (underlying t).run P w = .ok d w := by
 simp [underlying, h]
theorem pA {t : TypeId} {c : Ty} (h : aAJ P T t c) (hok : c.okB = true) (w : World) : (zeroValue t).run P w = .ok (jO c) w := by
 obtain ⟨i, hi, _, hz, _⟩ := h.info
 simp [zeroValue, typeInfo, hi, hz hok]
end
theorem eI (w : World) (S : Nat → Prop) : ∀ c : Ty, c.okB = true → aT w S c c.zero (cC c)
 | .bool, _ => rfl
 | .nilp, _ => rfl
 | .nilf, _ => rfl
 | .u k, h => ⟨rfl, by simpa [Ty.okB] using h, by rw [aSj (by simpa [Ty.okB] using h)]; have := aBn k; show ((0 : Nat) : Int) ≤ _; omega⟩
 | .i k, h => ⟨rfl, by simpa [Ty.okB] using h, by cases k <;> simp [IntKind.min, IntKind.max, IntKind.signed, IntKind.bits, Ty.zero]⟩
 | .str, _ => ⟨⟨#[]⟩, rfl, rfl, Nat.zero_le _⟩
 | .sl t, _ => ⟨none, 0, 0, rfl, rfl, Nat.le_refl _, by simp [maxLen], .inl rfl⟩
 | .unit, _ => rfl
 | .pair a b, h => by
  simp only [Ty.okB, Bool.and_eq_true] at h
  exact ⟨cC a, cC b, rfl, eI w S a h.1, eI w S b h.2⟩
 | .arr n t, h => by
  refine ⟨by simp [Ty.zero], List.replicate n (cC t), rfl, by simp [Ty.zero], fun i h1 h2 => ?_⟩
  simp only [Ty.zero, List.getElem_replicate]
  exact eI w S t (by simpa [Ty.okB] using h)
 | .expr, _ => RepEx.mk 0 ⟨#[]⟩ [] none 0 0 (fun _ => []) (by simp [IntKind.min, IntKind.max, IntKind.signed, IntKind.bits]) (Nat.zero_le _) rfl (Nat.le_refl _) (Nat.zero_le _) (fun i h => by cases h) (.inl rfl)
theorem aEZ (w : World) (S : Nat → Prop) (c : Ty) (h : c.okB = true) : cR w S c c.zero (jO c) := by
 have hr := eI w S c h
 unfold cR jO
 split
 ·exact ⟨_, rfl, by simpa using hr⟩
 ·have hl := aT.length _ _ _ hr
  cases c <;> simp_all [Ty.isAgg, cC]
theorem aQ.toV {c : Ctx} {w : World} {t : Ty} {x : t.den} {v : Value} (h : aQ c w (.val t x) v) : cR w c.S t x v := by
 obtain ⟨h1, h2, h3⟩ := h
 exact cR.of_cells h2 h3 h1
theorem aQ.ofV {c : Ctx} {w : World} {t : Ty} {x : t.den} {v : Value} (h : cR w c.S t x v) : aQ c w (.val t x) v := by
 refine ⟨h.cells, ?_, ?_⟩
 ·intro ha; unfold cR at h; rw [if_pos (show t.isAgg = true from ha)] at h; obtain ⟨cs, hv, _⟩ := h; exact ⟨cs, hv⟩
 ·intro ha cs hv
  unfold cR at h
  rw [if_neg (by simpa using (show t.isAgg = false from ha))] at h
  have := aT.one t x _ h v (by simp)
  subst hv; exact this
theorem aL1 {cs : Array Value} {pre ds post : List Value} (h : cs.toList = pre ++ ds ++ post) : (cs.extract pre.length (pre.length + ds.length)).toList = ds := by
 rw [Array.toList_extract, h]
 simp [List.extract]
theorem aE0 {cs : Array Value} {pre ds post : List Value} (h : cs.toList = pre ++ ds ++ post) (j : Nat) {v : Value} (hj : ds[j]? = some v) : cs[pre.length + j]? = some v := by
 rw [← Array.getElem?_toList, h, List.append_assoc, List.getElem?_append_right (by omega)]
 simp only [Nat.add_sub_cancel_left]
 have hlt : j < ds.length := by
  rcases Nat.lt_or_ge j ds.length with h | h
  ·exact h
  ·rw [List.getElem?_eq_none h] at hj; cases hj
 rw [List.getElem?_append_left hlt]; exact hj
section
variable {P : Program} {T : Tab}
theorem aBo {t : TypeId} {c : Ty} (hT : aAJ P T t c) {cs : Array Value} {pre ds post : List Value} (hcs : cs.toList = pre ++ ds ++ post) {w : World} {S : Nat → Prop} {x : c.den} (hd : aT w S c x ds) (w' : World) :
  ∃ v, (part t cs pre.length).run P w' = .ok v w' ∧ cR w S c x v := by
 have hl := aT.length _ _ _ hd
 by_cases ha : c.isAgg = true
 ·refine ⟨.agg (cs.extract pre.length (pre.length + c.cells)), ?_, ?_⟩
  ·simp [part, aC7 hT, ha, dW hT, Result.andThen]
  ·unfold cR
   rw [if_pos ha]
   refine ⟨_, rfl, ?_⟩
   rw [← hl, aL1 hcs]; exact hd
 ·have h1 : c.cells = 1 := by cases c <;> simp_all [Ty.isAgg, Ty.cells]
  obtain ⟨v, rfl⟩ : ∃ v, ds = [v] := by
   match ds, hl.trans h1 with
   | [v], _ => exact ⟨v, rfl⟩
  refine ⟨v, ?_, ?_⟩
  ·have := aE0 hcs 0 (v := v) rfl
   simp only [Nat.add_zero] at this
   simp [part, aC7 hT, ha, this, Result.andThen]
  ·unfold cR; rw [if_neg ha]; exact hd
def Ty.cmpB : Ty → Bool
 | .bool => true
 | .u _ => true
 | .i _ => true
 | .str => true
 | .unit => true
 | .pair a b => a.cmpB && b.cmpB
 | .arr _ t => t.cmpB
 | _ => false
def Ty.eqb : (t : Ty) → t.den → t.den → Bool
 | .bool, x, y => x == y
 | .u _, x, y => decide (x = y)
 | .i _, x, y => decide (x = y)
 | .str, x, y => decide (x = y)
 | .unit, _, _ => true
 | .pair a b, x, y => a.eqb x.1 y.1 && b.eqb x.2 y.2
 | .arr _ t, x, y => (List.zipWith t.eqb x y).all id
 | _, _, _ => false
def Ty.deep : Ty → Nat
 | .pair a b => max (a.deep + 1) b.deep
 | .arr _ t => t.deep + 1
 | _ => 0
theorem aL2 {a b : ByteArray} (h : aP a = aP b) : a = b := by
 obtain ⟨⟨a⟩⟩ := a
 obtain ⟨⟨b⟩⟩ := b
 simp only [aP] at h
 have : a = b := by
  have hinj : Function.Injective (fun (x : UInt8) => x.toNat) := fun x y h => UInt8.toNat_inj.1 h
  exact (List.map_inj_right (fun x y h => hinj h)).1 h
 rw [this]
theorem aTn (a b : ByteArray) : (a.toList == b.toList) = decide (aP a = aP b) := by
 rw [Bool.eq_iff_iff, ByteArray.toList_eq, ByteArray.toList_eq]
 simp only [beq_iff_eq, decide_eq_true_eq]
 constructor
 ·intro h
  simp only [aP]
  rw [h]
 ·intro h
  rw [aL2 h]
theorem aHx (hT : iS P T) (d : Nat) {w : World} {S : Nat → Prop} (ih : ∀ (t : TypeId) (c : Ty) (x y : c.den) (v u : Value) (w' : World), T t = some c → c.cmpB = true → c.deep ≤ d → cR w S c x v → cR w S c y u → (Op.equalIn (d + 1) t v u).run P w' = .ok (c.eqb x y) w')
  {xs ys : Array Value} : ∀ (fs : List Field) (off : Nat) (c : Ty) (x y : c.den) (pre ds pre' ds' post post' : List Value) (w' : World), dB T fs off c = true → c.cmpB = true → c.deep ≤ d + 1 →
   xs.toList = pre ++ ds ++ post → pre.length = off → aT w S c x ds → ys.toList = pre' ++ ds' ++ post' → pre'.length = off → aT w S c y ds' →
   (Op.eqFields (d + 1) xs ys fs).run P w' = .ok (c.eqb x y) w'
 | [], off, c, x, y, pre, ds, pre', ds', post, post', w', hf, hc, hdp, hx, hp, hrx, hy, hp', hry => by
  cases c <;> simp [dB] at hf
  simp [Op.eqFields, Ty.eqb]
 | f :: fs, off, c, x, y, pre, ds, pre', ds', post, post', w', hf, hc, hdp, hx, hp, hrx, hy, hp', hry => by
  cases c <;> simp only [dB, Bool.false_eq_true] at hf
  case pair a b =>
   simp only [Bool.and_eq_true, decide_eq_true_eq] at hf
   obtain ⟨⟨⟨⟨h1, h2⟩, h3⟩, h4⟩, h5⟩ := hf
   simp only [Ty.cmpB, Bool.and_eq_true] at hc
   simp only [Ty.deep] at hdp
   obtain ⟨c1, c2, rfl, r1, r2⟩ := hrx
   obtain ⟨c1', c2', rfl, r1', r2'⟩ := hry
   subst h2
   have hl := aT.length _ _ _ r1
   have hl' := aT.length _ _ _ r1'
   obtain ⟨va, e1, q1⟩ := aBo (hT _ _ h1) (cs := xs) (pre := pre) (ds := c1) (post := c2 ++ post) (by rw [hx]; simp) r1 w'
   obtain ⟨vb, e2, q2⟩ := aBo (hT _ _ h1) (cs := ys) (pre := pre') (ds := c1') (post := c2' ++ post') (by rw [hy]; simp) r1' w'
   have e3 := ih f.type a x.1 y.1 va vb w' h1 hc.1 (by omega) q1 q2
   rw [hp] at e1
   rw [hp'] at e2
   have rec_ := aHx hT d ih (xs := xs) (ys := ys) fs (f.offset + a.cells) b x.2 y.2 (pre ++ c1) c2 (pre' ++ c1') c2' post post' w' h5 hc.2 (by omega) (by rw [hx]; simp) (by simp [hp, hl]) r2 (by rw [hy]; simp) (by simp [hp', hl']) r2'
   simp only [Op.eqFields, Sem.run_ite, Sem.run_bind, h3, ne_eq, not_false_eq_true, if_true, e1, e2, e3, Result.andThen_ok]
   cases hq : a.eqb x.1 y.1
   ·simp [Ty.eqb, hq]
   ·simp [Ty.eqb, hq, rec_]
def aDC (d : Nat) (e : TypeId) (n : Nat) (xs ys : Array Value) : List Nat → Sem Bool
 | [] => pure true
 | i :: r => do
  let a ← part e xs (i * n)
  let b ← part e ys (i * n)
  let q ← Op.equalIn d e a b
  if (!q) = true then pure false else aDC d e n xs ys r
theorem run_equalIn_array (d : Nat) (t e : TypeId) (len n : Nat) (xs ys : Array Value) (w : World) (ht : P.underlying t = some (.array len e)) (hn : (sizeOf e).run P w = .ok n w) :
  (Op.equalIn (d + 1) t (.agg xs) (.agg ys)).run P w = (aDC d e n xs ys (List.range' 0 len)).run P w := by
 simp only [Op.equalIn, Sem.run_bind, aV ht, Result.andThen_ok, hn]
 simp only [Std.Legacy.Range.forIn_eq_forIn_range', Std.Legacy.Range.size]
 simp only [Nat.sub_zero, Nat.add_sub_cancel, Nat.div_one]
 generalize List.range' 0 len = is
 clear ht hn
 induction is generalizing w with
 | nil => simp [aDC]
 | cons i r ih =>
  simp only [List.forIn_cons, aDC, Sem.run_bind]
  generalize (part e xs (i * n)).run P w = r1
  cases r1 with
  | ok a w1 =>
   simp only [Result.andThen_ok]
   generalize (part e ys (i * n)).run P w1 = r2
   cases r2 with
   | ok b w2 =>
    simp only [Result.andThen_ok]
    generalize (Op.equalIn d e a b).run P w2 = r3
    cases r3 with
    | ok q w3 =>
     cases q
     ·simp only [Result.andThen_ok, Bool.not_false, if_true, Sem.run_pure]
     ·simp only [Result.andThen_ok, Bool.not_true, Bool.false_eq_true, if_false, Sem.run_pure]
      exact ih w3
    | halt x w3 => simp [Result.andThen]
   | halt x w2 => simp [Result.andThen]
  | halt x w1 => simp [Result.andThen]
theorem jX {t : Ty} {css : List (List Value)} (hl : ∀ i (h : i < css.length), (css[i]).length = t.cells) : ∀ (i : Nat) (h : i < css.length), ∃ pre post, css.flatten = pre ++ css[i] ++ post ∧ pre.length = i * t.cells
 | 0, h => by
  cases css with
  | nil => simp at h
  | cons c r => exact ⟨[], r.flatten, by simp, by simp⟩
 | i + 1, h => by
  cases css with
  | nil => simp at h
  | cons c r =>
   obtain ⟨pre, post, h1, h2⟩ := jX (t := t) (css := r) (fun j hj => by have := hl (j + 1) (by simpa using hj); simpa using this) i (by simpa using h)
   refine ⟨c ++ pre, post, by simp [h1], ?_⟩
   have h0 := hl 0 (by simp)
   simp at h0
   simp [h2, h0, Nat.add_mul, Nat.add_comm]
theorem aKa (hT : iS P T) (d : Nat) {w : World} {S : Nat → Prop} {e : TypeId} {t : Ty} (he : T e = some t)
  (ih : ∀ (x y : t.den) (v u : Value) (w' : World), cR w S t x v → cR w S t y u → (Op.equalIn d e v u).run P w' = .ok (t.eqb x y) w')
  {xs ys : Array Value} : ∀ (k i : Nat) (X Y : List t.den) (pre pre' : List Value) (css css' : List (List Value)) (w' : World),
   X.length = k → Y.length = k → css.length = k → css'.length = k → (∀ j (h : j < X.length) (h' : j < css.length), aT w S t X[j] css[j]) → (∀ j (h : j < Y.length) (h' : j < css'.length), aT w S t Y[j] css'[j]) →
   xs.toList = pre ++ css.flatten → ys.toList = pre' ++ css'.flatten → pre.length = i * t.cells → pre'.length = i * t.cells →
   (aDC d e t.cells xs ys (List.range' i k)).run P w' = .ok ((List.zipWith t.eqb X Y).all id) w'
 | 0, i, X, Y, _, _, _, _, w', hX, hY, _, _, _, _, _, _, _, _ => by
  obtain rfl := List.eq_nil_of_length_eq_zero hX
  simp [aDC]
 | k + 1, i, X, Y, pre, pre', css, css', w', hX, hY, hc, hc', hr, hr', hx, hy, hp, hp' => by
  match X, Y, css, css', hX, hY, hc, hc' with
  | x :: X, y :: Y, c :: cs, c' :: cs', hX, hY, hc, hc' =>
   have r0 := hr 0 (by simp) (by simp)
   have r0' := hr' 0 (by simp) (by simp)
   simp only [List.getElem_cons_zero] at r0 r0'
   obtain ⟨va, e1, q1⟩ := aBo (hT _ _ he) (cs := xs) (pre := pre) (ds := c) (post := cs.flatten) (by rw [hx]; simp) r0 w'
   obtain ⟨vb, e2, q2⟩ := aBo (hT _ _ he) (cs := ys) (pre := pre') (ds := c') (post := cs'.flatten) (by rw [hy]; simp) r0' w'
   rw [hp] at e1
   rw [hp'] at e2
   have l1 := aT.length _ _ _ r0
   have l2 := aT.length _ _ _ r0'
   have e3 := ih x y va vb w' q1 q2
   have rec_ := aKa hT d he ih (xs := xs) (ys := ys) k (i + 1) X Y (pre ++ c) (pre' ++ c') cs cs' w' (by simpa using hX) (by simpa using hY) (by simpa using hc) (by simpa using hc')
    (fun j h h' => by have := hr (j + 1) (by simpa using h) (by simpa using h'); simpa using this) (fun j h h' => by have := hr' (j + 1) (by simpa using h) (by simpa using h'); simpa using this)
    (by rw [hx]; simp) (by rw [hy]; simp) (by simp [hp, l1, Nat.add_mul]) (by simp [hp', l2, Nat.add_mul])
   simp only [List.range'_succ, aDC, Sem.run_bind, e1, e2, e3, Result.andThen_ok, Sem.run_ite]
   cases hq : t.eqb x y
   ·simp [hq]
   ·simp [hq, rec_]
theorem aL3 (hT : iS P T) {w : World} {S : Nat → Prop} : ∀ (d : Nat) (t : TypeId) (c : Ty) (x y : c.den) (v u : Value) (w' : World), T t = some c → c.cmpB = true → c.deep ≤ d →
  cR w S c x v → cR w S c y u → (Op.equalIn (d + 1) t v u).run P w' = .ok (c.eqb x y) w' := by
 intro d
 induction d with
 | zero =>
  intro t c x y v u w' ht hc hd hx hy
  obtain ⟨ds, hds, hb⟩ := (hT t c ht).desc
  cases c <;> simp only [Ty.cmpB, Bool.false_eq_true] at hc <;> (try (simp only [Ty.deep] at hd; omega))
  case bool => simp only [cR, Ty.isAgg, aT, Bool.false_eq_true, if_false] at hx hy; cases ds <;> simp [fT] at hb; simp at hx hy; subst hx; subst hy; simp [Op.equalIn, aV hds, Ty.eqb]
  case u k => simp only [cR, Ty.isAgg, aT, Bool.false_eq_true, if_false] at hx hy; cases ds <;> simp [fT] at hb; obtain ⟨hx, _⟩ := hx; obtain ⟨hy, _⟩ := hy; simp at hx hy; subst hx; subst hy; simp [Op.equalIn, aV hds, Ty.eqb]; rw [Bool.eq_iff_iff]; simp [Int.natCast_inj]
  case i k => simp only [cR, Ty.isAgg, aT, Bool.false_eq_true, if_false] at hx hy; cases ds <;> simp [fT] at hb; obtain ⟨hx, _⟩ := hx; obtain ⟨hy, _⟩ := hy; simp at hx hy; subst hx; subst hy; simp [Op.equalIn, aV hds, Ty.eqb]; rw [Bool.eq_iff_iff]; simp
  case str =>
   simp only [cR, Ty.isAgg, aT, Bool.false_eq_true, if_false] at hx hy; cases ds <;> simp [fT] at hb
   obtain ⟨a, hx, ha, _⟩ := hx; obtain ⟨b, hy, hb', _⟩ := hy
   simp at hx hy; subst hx; subst hy; subst ha; subst hb'
   simp only [run_equalIn_string _ 0 t _ _ hds, Ty.eqb]
   rw [aTn]
  case unit =>
   simp only [cR, Ty.isAgg, if_true] at hx hy
   obtain ⟨a, rfl, _⟩ := hx; obtain ⟨b, rfl, _⟩ := hy
   cases ds <;> simp [fT] at hb
   rename_i fs
   have hfs : P.fieldsOf t = fs := by simp [Program.fieldsOf, hds]
   rw [run_equalIn_struct w' 0 t a b (by rw [hfs]; exact hds) (hT t _ ht).held, hfs]
   cases hfl : fs.toList with
   | nil => simp [Op.eqFields, Ty.eqb]
   | cons f r => rw [hfl] at hb; simp [dB] at hb
 | succ d ih =>
  intro t c x y v u w' ht hc hd hx hy
  obtain ⟨ds, hds, hb⟩ := (hT t c ht).desc
  cases c <;> simp only [Ty.cmpB, Bool.false_eq_true] at hc
  case bool => simp only [cR, Ty.isAgg, aT, Bool.false_eq_true, if_false] at hx hy; cases ds <;> simp [fT] at hb; simp at hx hy; subst hx; subst hy; simp [Op.equalIn, aV hds, Ty.eqb]
  case u k => simp only [cR, Ty.isAgg, aT, Bool.false_eq_true, if_false] at hx hy; cases ds <;> simp [fT] at hb; obtain ⟨hx, _⟩ := hx; obtain ⟨hy, _⟩ := hy; simp at hx hy; subst hx; subst hy; simp [Op.equalIn, aV hds, Ty.eqb]; rw [Bool.eq_iff_iff]; simp [Int.natCast_inj]
  case i k => simp only [cR, Ty.isAgg, aT, Bool.false_eq_true, if_false] at hx hy; cases ds <;> simp [fT] at hb; obtain ⟨hx, _⟩ := hx; obtain ⟨hy, _⟩ := hy; simp at hx hy; subst hx; subst hy; simp [Op.equalIn, aV hds, Ty.eqb]; rw [Bool.eq_iff_iff]; simp
  case str =>
   simp only [cR, Ty.isAgg, aT, Bool.false_eq_true, if_false] at hx hy; cases ds <;> simp [fT] at hb
   obtain ⟨a, hx, ha, _⟩ := hx; obtain ⟨b, hy, hb', _⟩ := hy
   simp at hx hy; subst hx; subst hy; subst ha; subst hb'
   simp only [run_equalIn_string _ _ t _ _ hds, Ty.eqb]
   rw [aTn]
  case unit =>
   simp only [cR, Ty.isAgg, if_true] at hx hy
   obtain ⟨a, rfl, _⟩ := hx; obtain ⟨b, rfl, _⟩ := hy
   cases ds <;> simp [fT] at hb
   rename_i fs
   have hfs : P.fieldsOf t = fs := by simp [Program.fieldsOf, hds]
   rw [run_equalIn_struct w' _ t a b (by rw [hfs]; exact hds) (hT t _ ht).held, hfs]
   cases hfl : fs.toList with
   | nil => simp [Op.eqFields, Ty.eqb]
   | cons f r => rw [hfl] at hb; simp [dB] at hb
  case pair a b =>
   simp only [cR, Ty.isAgg, if_true] at hx hy
   obtain ⟨xs, rfl, hx⟩ := hx; obtain ⟨ys, rfl, hy⟩ := hy
   cases ds <;> simp [fT] at hb
   rename_i fs
   have hfs : P.fieldsOf t = fs := by simp [Program.fieldsOf, hds]
   rw [run_equalIn_struct w' _ t xs ys (by rw [hfs]; exact hds) (hT t _ ht).held, hfs]
   exact aHx hT d ih fs.toList 0 (.pair a b) x y [] xs.toList [] ys.toList [] [] w' hb (by simpa [Ty.cmpB] using hc) hd (by simp) rfl hx (by simp) rfl hy
  case arr n c =>
   simp only [cR, Ty.isAgg, if_true] at hx hy
   obtain ⟨xs, rfl, hx⟩ := hx; obtain ⟨ys, rfl, hy⟩ := hy
   cases ds <;> simp [fT] at hb
   rename_i n' e
   obtain ⟨⟨⟨rfl, he⟩, _⟩, _⟩ := hb
   obtain ⟨lx, css, hcx, hlx, hrx⟩ := hx
   obtain ⟨ly, css', hcy, hly, hry⟩ := hy
   rw [run_equalIn_array _ t e n c.cells xs ys w' hds (dW (hT _ _ he) w')]
   simp only [Ty.deep] at hd
   exact aKa hT (d + 1) he (fun x y v u w' h1 h2 => ih e c x y v u w' he hc (by omega) h1 h2) n 0 x y [] [] css css' w' lx ly (hlx.trans lx) (hly.trans ly) hrx hry (by simpa using hcx) (by simpa using hcy) (by simp) (by simp)
theorem aDD (hT : iS P T) {w : World} {S : Nat → Prop} {t : TypeId} {c : Ty} {x y : c.den} {v u : Value} (w' : World) (ht : T t = some c) (hc : c.cmpB = true) (hd : c.deep ≤ 100) (hx : cR w S c x v) (hy : cR w S c y u) :
  (Op.equal t v u).run P w' = .ok (c.eqb x y) w' := aL3 hT 9999 t c x y v u w' ht hc (by omega) hx hy
end
end Go.Vc
namespace Go.Vc
open Go.RowKit
def nC : Value → AV
 | .bool b => .val .bool b
 | .int k n => if k.signed then .val (.i k) n else .val (.u k) n.toNat
 | .string s => .val .str (aP s)
 | .slice none 0 0 => .nilS
 | .pointer none => .nilP
 | .nilIface => .val .nili ()
 | _ => .junk
def aHy : Value → AV
 | .agg cs => .flat (cs.toList.map nC)
 | v => nC v
def aAK : Value → Bool
 | .int k n => decide (k.min ≤ n) && decide (n ≤ k.max)
 | .string s => decide (s.size ≤ maxLen)
 | .slice none 0 0 => true
 | .pointer none => true
 | .nilIface => true
 | .bool _ => true
 | _ => false
def aRw : Value → Bool
 | .agg cs => cs.toList.all aAK
 | .func _ _ _ => true
 | .map none => true
 | v => aAK v
theorem aOI {c : Ctx} {w : World} {v : Value} (h : aAK v = true) : rJ c w (nC v) v := by
 unfold aAK at h
 split at h
 ·simp only [Bool.and_eq_true, decide_eq_true_eq] at h
  simp only [nC]
  split
  ·rename_i hs; exact uT hs h
  ·rename_i k n hs
   have hs : k.signed = false := by simpa using hs
   have hn : 0 ≤ n := by have := h.1; cases k <;> simp [IntKind.signed] at hs <;> simpa [IntKind.min, IntKind.signed] using this
   have hv := aEJ (c := c) (w := w) (n := n.toNat) hs (aJ8 hs (by omega))
   rw [show ((n.toNat : Nat) : Int) = n from by omega] at hv
   exact hv
 ·exact aV9 (by simpa using h)
 ·exact ⟨rfl, (fun h => by cases h), (fun _ cs => by simp)⟩
 ·exact ⟨rfl, (fun h => by cases h), (fun _ cs => by simp)⟩
 ·exact ⟨rfl, (fun h => by cases h), (fun _ cs => by simp)⟩
 ·exact vW _
 ·cases h
theorem aOJ {c : Ctx} {w : World} : ∀ {l : List Value}, l.all aAK = true → jN c w (l.map nC) l
 | [], _ => rfl
 | v :: r, h => by
  simp only [List.all_cons, Bool.and_eq_true] at h
  have hv := aOI (c := c) (w := w) h.1
  refine ⟨[v], r, rfl, ?_, aOJ h.2⟩
  have h1 := hv.1
  have : v.cells.toList = [v] := by
   have hb := h.1
   cases v <;> first | rfl | (simp [aAK] at hb)
  rw [this] at h1; exact h1
theorem aUg {c : Ctx} {w : World} {v : Value} (h : aRw v = true) (hf : ∀ f a b, v ≠ .func f a b) : aQ c w (aHy v) v := by
 unfold aRw at h
 split at h
 ·rename_i cs
  exact ⟨by simpa [aHy, aH, Value.cells] using aOJ h, fun _ => ⟨_, rfl⟩, fun h => by cases h⟩
 ·exact absurd rfl (hf _ _ _)
 ·trivial
 ·rename_i hna hnf hnm
  have hv := aOI (c := c) (w := w) h
  have e : aHy v = nC v := by cases v <;> first | rfl | exact (hna _ rfl).elim
  rw [e]
  have hj : nC v ≠ .junk ∧ nC v ≠ .undef ∧ ∀ vs, nC v ≠ .tup vs := by
   cases v <;> first | (simp [nC]; done) | (simp [aAK] at h; done) | skip
   case int k n => simp only [nC]; split <;> simp
   case pointer a => cases a <;> first | (simp [nC]; done) | (simp [aAK] at h; done)
   case slice a l c => cases a <;> cases l <;> cases c <;> first | (simp [nC]; done) | (simp [aAK] at h; done)
  obtain ⟨h1, h2, h3⟩ := hj
  generalize nC v = u at hv h1 h2 h3
  cases u <;> first | exact absurd rfl h1 | exact absurd rfl h2 | exact absurd rfl (h3 _) | exact hv
def parse : (t : Ty) → List AV → Option (t.den × List AV)
 | .bool, .val .bool b :: r => some (b, r)
 | .u k, .val (.u k') n :: r => if k' = k then some (n, r) else none
 | .i k, .val (.i k') n :: r => if k' = k then some (n, r) else none
 | .str, .val .str s :: r => some (s, r)
 | .sl _, .nilS :: r => some ([], r)
 | .unit, l => some ((), l)
 | .pair a b, l => match parse a l with
  | some (x, r) => match parse b r with
   | some (y, r') => some ((x, y), r')
   | none => none
  | none => none
 | _, _ => none
theorem aQi {c : Ctx} {w : World} : ∀ (t : Ty) (l : List AV) (x : t.den) (r : List AV) (cs : List Value), parse t l = some (x, r) → jN c w l cs → ∃ c1 c2, cs = c1 ++ c2 ∧ aT w c.S t x c1 ∧ jN c w r c2 := by
 intro t
 induction t with
 | bool =>
  intro l x r cs h hr
  cases l with
  | nil => simp [parse] at h
  | cons v l =>
   cases v <;> first | (simp [parse] at h; done) | skip
   rename_i t' y
   cases t' <;> simp [parse] at h
   obtain ⟨rfl, rfl⟩ := h
   obtain ⟨c1, c2, h1, h2, h3⟩ := hr
   exact ⟨c1, c2, h1, h2, h3⟩
 | str =>
  intro l x r cs h hr
  cases l with
  | nil => simp [parse] at h
  | cons v l =>
   cases v <;> first | (simp [parse] at h; done) | skip
   rename_i t' y
   cases t' <;> simp [parse] at h
   obtain ⟨rfl, rfl⟩ := h
   obtain ⟨c1, c2, h1, h2, h3⟩ := hr
   exact ⟨c1, c2, h1, h2, h3⟩
 | u k =>
  intro l x r cs h hr
  cases l with
  | nil => simp [parse] at h
  | cons v l =>
   cases v <;> first | (simp [parse] at h; done) | skip
   rename_i t' y
   cases t' <;> simp [parse] at h
   obtain ⟨rfl, rfl, rfl⟩ := h
   obtain ⟨c1, c2, h1, h2, h3⟩ := hr
   exact ⟨c1, c2, h1, h2, h3⟩
 | i k =>
  intro l x r cs h hr
  cases l with
  | nil => simp [parse] at h
  | cons v l =>
   cases v <;> first | (simp [parse] at h; done) | skip
   rename_i t' y
   cases t' <;> simp [parse] at h
   obtain ⟨rfl, rfl, rfl⟩ := h
   obtain ⟨c1, c2, h1, h2, h3⟩ := hr
   exact ⟨c1, c2, h1, h2, h3⟩
 | sl t ih =>
  intro l x r cs h hr
  cases l with
  | nil => simp [parse] at h
  | cons v l =>
   cases v <;> first | (simp [parse] at h; done) | skip
   simp [parse] at h
   obtain ⟨rfl, rfl⟩ := h
   obtain ⟨c1, c2, h1, h2, h3⟩ := hr
   simp only [aH] at h2
   exact ⟨c1, c2, h1, ⟨none, 0, 0, h2, rfl, Nat.le_refl _, Nat.zero_le _, .inl rfl⟩, h3⟩
 | unit =>
  intro l x r cs h hr
  simp [parse] at h
  subst h
  exact ⟨[], cs, rfl, rfl, hr⟩
 | pair a b iha ihb =>
  intro l x r cs h hr
  simp only [parse] at h
  split at h
  ·rename_i xa ra ha
   split at h
   ·rename_i yb rb hb
    cases h
    obtain ⟨c1, c2, e1, r1, k1⟩ := iha l xa ra cs ha hr
    obtain ⟨d1, d2, e2, r2, k2⟩ := ihb ra yb _ c2 hb k1
    exact ⟨c1 ++ d1, d2, by rw [e1, e2, List.append_assoc], ⟨c1, d1, rfl, r1, r2⟩, k2⟩
   ·cases h
  ·cases h
 | arr _ _ _ => intro l x r cs h hr; simp [parse] at h
 | expr => intro l x r cs h hr; simp [parse] at h
 | rp _ _ => intro l x r cs h hr; simp [parse] at h
 | clo _ _ _ => intro l x r cs h hr; simp [parse] at h
 | ifc _ _ _ => intro l x r cs h hr; simp [parse] at h
 | nili => intro l x r cs h hr; simp [parse] at h
 | nilp => intro l x r cs h hr; simp [parse] at h
 | nilf => intro l x r cs h hr; simp [parse] at h
def aDE (t : Ty) (l : List AV) : Option t.den := match parse t l with
 | some (x, []) => some x
 | _ => none
def aUh : AV → Option Int
 | .val (.i .i64) n => some n
 | _ => none
def aXu : AV → Option (List Nat)
 | .val .str s => some s
 | _ => none
def aXv (h : List Obj) : AV → Option (List Ex)
 | .val (.sl .expr) l => some l
 | .full .expr l => some l
 | .nilS => some []
 | .own i => rowOf h i .expr
 | _ => none
def asX (h : List Obj) (a b v : AV) : Option Ex := match aUh a, aXu b, aXv h v with
 | some x, some y, some z => some (.mk x y z)
 | _, _, _ => none
def AV.as (h : List Obj) : (t : Ty) → AV → Option t.den
 | t, .val t' x => if e : t' = t then some (e ▸ x) else none
 | .sl t, .nilS => some []
 | .sl t, .full t' xs => if e : t' = t then some (e ▸ xs) else none
 | .sl t, .own i => rowOf h i t
 | .pair a r, .agg (v :: vs) => match AV.as h a v, AV.as h r (.agg vs) with
  | some x, some y => some (x, y)
  | _, _ => none
 | .unit, .agg [] => some ()
 | .expr, .agg [a, b, v] => asX h a b v
 | .pair a r, .flat l => aDE (.pair a r) l
 | .unit, .flat l => aDE .unit l
 | .rp t, .roa t' x => if e : t' = t then some (e ▸ x) else none
 | .rp t, .ptr i [] => match h[i]? with
  | some (.box _ v) => AV.as h t v
  | _ => none
 | .clo g t, .fn g' [] l2 => if g' = g then AV.as h t (.agg (l2.map fun i => .ptr i [])) else none
 | _, _ => none
@[simp] theorem aXw {h : List Obj} {t : Ty} {x : t.den} : AV.as h t (.val t x) = some x := by cases t <;> simp [AV.as]
@[simp] theorem aWe {h : List Obj} {t : Ty} : AV.as h (.sl t) .nilS = some [] := by simp [AV.as]
@[simp] theorem aWf {h : List Obj} {t : Ty} {xs : List t.den} : AV.as h (.sl t) (.full t xs) = some xs := by simp [AV.as]
@[simp] theorem aXx {h : List Obj} {t : Ty} {i : Nat} : AV.as h (.sl t) (.own i) = rowOf h i t := by simp [AV.as]
@[simp] theorem aWg {h : List Obj} : AV.as h .unit (.agg []) = some () := by simp [AV.as]
@[simp] theorem aPg {h : List Obj} {a r : Ty} {v : AV} {vs : List AV} : AV.as h (.pair a r) (.agg (v :: vs)) = match AV.as h a v, AV.as h r (.agg vs) with | some x, some y => some (x, y) | _, _ => none := by simp [AV.as]
@[simp] theorem aPh {h : List Obj} {a r : Ty} {l : List AV} : AV.as h (.pair a r) (.flat l) = aDE (.pair a r) l := by simp [AV.as]
@[simp] theorem aXy {h : List Obj} {t : Ty} {x : t.den} : AV.as h (.rp t) (.roa t x) = some x := by simp [AV.as]
@[simp] theorem aRx {h : List Obj} {t : Ty} {i : Nat} : AV.as h (.rp t) (.ptr i []) = match h[i]? with | some (.box _ v) => AV.as h t v | _ => none := by simp [AV.as]
@[simp] theorem aX6 {h : List Obj} {t : Ty} {g : FuncId} {l2 : List Nat} : AV.as h (.clo g t) (.fn g [] l2) = AV.as h t (.agg (l2.map fun i => .ptr i [])) := by simp [AV.as]
@[simp] theorem aPi {h : List Obj} {a b v : AV} : AV.as h .expr (.agg [a, b, v]) = asX h a b v := by simp [AV.as]
@[simp] theorem aL4 {h : List Obj} {l : List AV} : AV.as h .unit (.flat l) = aDE .unit l := by simp [AV.as]
def AV.tags1 : AV → List Nat
 | .own i => [i]
 | _ => []
def AV.tags : AV → List Nat
 | .own i => [i]
 | .agg vs => vs.flatMap AV.tags1
 | _ => []
def aB8 (c : Ctx) (h : List Obj) (b : Nat) : Prop := c.S b ∨ ∃ i o, h[i]? = some o ∧ dO c i o b
theorem vU.toC {c : Ctx} {w : World} {e : TypeId} {t : Ty} {xs : List t.den} {v : Value} {S' : Nat → Prop} (h : vU c w e t xs v) (hs : ∀ b, c.S b → S' b) (hb : ∀ b, aN v = some b → S' b) : aT w S' (.sl t) xs [v] := by
 obtain ⟨vals, hown, _, css, hcs, hl, hr⟩ := h
 obtain ⟨hlen, hv⟩ := hown
 rcases hv with ⟨rfl, h0⟩ | ⟨g, cap, cur, rfl, _, hheap, hle, hcap, hsz, htake⟩
 ·refine ⟨none, 0, 0, rfl, ?_, Nat.le_refl _, Nat.zero_le _, .inl ?_⟩
  ·exact h0
  ·exact List.eq_nil_of_length_eq_zero h0
 ·refine ⟨some ⟨g, 0, none⟩, xs.length, cap, rfl, rfl, hle, hcap, .inr ⟨g, 0, rfl, hb g rfl, fun i hi => ?_⟩⟩
  refine ⟨css[i], aT.keep hs (.refl _ _) t _ _ (hr i hi (by omega)), ?_⟩
  obtain ⟨pre, post, hf, hp⟩ := jX (t := t) (css := css) (fun j hj => aT.length _ _ _ (hr j (by omega) hj)) i (by omega)
  intro j v hj
  have hcell : cur[i * t.cells + j]? = some v := by
   rw [← Array.getElem?_toList]
   have h1 : (cur.toList.take (xs.length * t.cells))[i * t.cells + j]? = some v := by
    rw [htake, hcs, hf, ← hp, List.append_assoc, List.getElem?_append_right (by omega), Nat.add_sub_cancel_left]
    have hjl : j < css[i].length := by
     rcases Nat.lt_or_ge j css[i].length with h | h
     ·exact h
     ·rw [List.getElem?_eq_none h] at hj; cases hj
    rw [List.getElem?_append_left hjl]; exact hj
   rw [List.getElem?_take] at h1
   split at h1
   ·exact h1
   ·cases h1
  simp only [World.cell?, hheap, Nat.zero_add]
  exact hcell
theorem jU.length {w : World} {S : Nat → Prop} : ∀ (t : Ty) (m : Mk) (x : t.den) (cs : List Value) (B : List Nat), jU w S t m x cs B → cs.length = t.cells := by
 intro t
 induction t with
 | sl t ih =>
  intro m xs cs B hr
  cases m with
  | no => exact aT.length _ _ _ hr.1
  | sl e m => obtain ⟨v, css, Bs, h1, _⟩ := hr; rw [h1]; rfl
  | pair a b => exact hr.elim
 | pair a r iha ihr =>
  intro m x cs B hr
  cases m with
  | no => exact aT.length _ _ _ hr.1
  | sl e m => exact hr.elim
  | pair ma mr =>
   obtain ⟨c1, c2, B1, B2, h1, h2, h3, h4⟩ := hr
   rw [h1, List.length_append, iha _ _ _ _ h3, ihr _ _ _ _ h4]; rfl
 | _ =>
  intro m x cs B hr
  cases m <;> first | exact aT.length _ _ _ hr.1 | exact hr.elim
theorem aQj {w : World} {S' : Nat → Prop} {e : TypeId} {t : Ty} {xs : List t.den} {v : Value} {css : List (List Value)} (hown : w.ownsRow 0 e t.cells v xs.length css.flatten) (hl : css.length = xs.length) (hcl : ∀ i (h1 : i < css.length), (css[i]).length = t.cells)
  (hr : ∀ i (h : i < xs.length) (h1 : i < css.length), aT w S' t xs[i] css[i]) (hb : ∀ b, aN v = some b → S' b) : aT w S' (.sl t) xs [v] := by
 obtain ⟨hlen, hv⟩ := hown
 rcases hv with ⟨rfl, h0⟩ | ⟨g, cap, cur, rfl, _, hheap, hle, hcap, hsz, htake⟩
 ·refine ⟨none, 0, 0, rfl, ?_, Nat.le_refl _, Nat.zero_le _, .inl ?_⟩
  ·exact h0
  ·exact List.eq_nil_of_length_eq_zero h0
 ·refine ⟨some ⟨g, 0, none⟩, xs.length, cap, rfl, rfl, hle, hcap, .inr ⟨g, 0, rfl, hb g rfl, fun i hi => ?_⟩⟩
  refine ⟨css[i], hr i hi (by omega), ?_⟩
  obtain ⟨pre, post, hf, hp⟩ := jX (t := t) (css := css) (fun j hj => hcl j hj) i (by omega)
  intro j v hj
  have hcell : cur[i * t.cells + j]? = some v := by
   rw [← Array.getElem?_toList]
   have h1 : (cur.toList.take (xs.length * t.cells))[i * t.cells + j]? = some v := by
    rw [htake, hf, ← hp, List.append_assoc, List.getElem?_append_right (by omega), Nat.add_sub_cancel_left]
    have hjl : j < css[i].length := by
     rcases Nat.lt_or_ge j css[i].length with h | h
     ·exact h
     ·rw [List.getElem?_eq_none h] at hj; cases hj
    rw [List.getElem?_append_left hjl]; exact hj
   rw [List.getElem?_take] at h1
   split at h1
   ·exact h1
   ·cases h1
  simp only [World.cell?, hheap, Nat.zero_add]
  exact hcell
theorem jU.toC {w : World} {S S' : Nat → Prop} (hs : ∀ b, S b → S' b) : ∀ (t : Ty) (m : Mk) (x : t.den) (cs : List Value) (B : List Nat), (∀ b ∈ B, S' b) → jU w S t m x cs B → aT w S' t x cs := by
 intro t
 induction t with
 | sl t ih =>
  intro m xs cs B hB hr
  cases m with
  | no => exact aT.keep hs (.refl _ _) _ _ _ hr.1
  | sl e m =>
   obtain ⟨v, css, Bs, h1, h2, h3, h4, h5, h6⟩ := hr
   subst h1; subst h5
   refine aQj h2 h3 (fun i q => jU.length _ _ _ _ _ (h6 i (by omega) q (by omega))) (fun i q1 q2 => ih m _ _ (Bs[i]'(by omega)) (fun b hb => hB b ?_) (h6 i q1 q2 (by omega))) (fun b hb => hB b (by simp [hdB, hb]))
   exact List.mem_append_right _ (List.mem_flatten.2 ⟨_, List.getElem_mem (by omega), hb⟩)
  | pair a b => exact hr.elim
 | pair a r iha ihr =>
  intro m x cs B hB hr
  cases m with
  | no => exact aT.keep hs (.refl _ _) _ _ _ hr.1
  | sl e m => exact hr.elim
  | pair ma mr =>
   obtain ⟨c1, c2, B1, B2, h1, h2, h3, h4⟩ := hr
   subst h2
   exact ⟨c1, c2, h1, iha _ _ _ _ (fun b hb => hB b (List.mem_append_left _ hb)) h3, ihr _ _ _ _ (fun b hb => hB b (List.mem_append_right _ hb)) h4⟩
 | _ =>
  intro m x cs B hB hr
  cases m <;> first | exact aT.keep hs (.refl _ _) _ _ _ hr.1 | exact hr.elim
theorem aQk {M : Perm} {w0 : World} {c : Ctx} {h : List Obj} {w : World} (hg : Good M w0 c h w) {i : Nat} {t : Ty} {xs : List t.den} (hr : rowOf h i t = some xs) : aT w (aB8 c h) (.sl t) xs [c.hd i] := by
 unfold rowOf at hr
 split at hr
 ·rename_i e t' ys ho
  split at hr
  ·rename_i et; subst et; cases hr
   have := hg.objs i _ ho
   exact vU.toC this (fun b hb => .inl hb) (fun b hb => .inr ⟨i, _, ho, hb⟩)
  ·cases hr
 ·rename_i t' ys ho
  split at hr
  ·rename_i et; subst et; cases hr
   have := hg.objs i _ ho
   exact aT.keep (fun b hb => .inl hb) (.refl _ _) _ _ _ this
  ·cases hr
 ·rename_i e m t' ys ho
  split at hr
  ·rename_i et; subst et; cases hr
   obtain ⟨B, h1, _, h3⟩ := hg.objs i _ ho
   exact jU.toC (fun b hb => .inl hb) _ _ _ _ _ (fun b hb => .inr ⟨i, _, ho, h3 b hb⟩) h1
  ·cases hr
 ·cases hr
theorem aSs {c : Ctx} {w : World} {h : List Obj} {S' : Nat → Prop} (hS : ∀ b, c.S b → S' b) (hrow : ∀ i xs cs, rowOf h i .expr = some xs → aH c w (.own i) cs → aT w S' (.sl .expr) xs cs) {a b v : AV} {x : Ex} {cs : List Value} (ha : asX h a b v = some x) (hr : jN c w [a, b, v] cs) : aT w S' .expr x cs := by
 unfold asX at ha
 split at ha
 ·rename_i k s l h1 h2 h3
  cases ha
  simp only [jN] at hr
  obtain ⟨c1, c2, e, r1, c3, c4, e2, r2, c5, c6, e3, r3, e4⟩ := hr
  subst e4; subst e3; subst e2; subst e
  have q1 : aT w c.S (.i .i64) k c1 := by
   unfold aUh at h1
   split at h1
   ·cases h1; exact r1
   ·cases h1
  have q2 : aT w c.S .str s c3 := by
   unfold aXu at h2
   split at h2
   ·cases h2; exact r2
   ·cases h2
  have q3 : aT w S' (.sl .expr) l c5 := by
   unfold aXv at h3
   split at h3
   ·cases h3; exact aT.keep hS (.refl _ _) (.sl .expr) _ _ r3
   ·cases h3
    simp only [aH] at r3
    obtain ⟨p, n, e, hsl⟩ := r3
    exact ⟨p, n, n, e, hsl.keep hS (.refl _ _) (fun x cs => aT.keep hS (.refl _ _) .expr x cs)⟩
   ·cases h3
    simp only [aH] at r3
    exact ⟨none, 0, 0, r3, rfl, Nat.le_refl _, Nat.zero_le _, .inl rfl⟩
   ·exact hrow _ _ _ h3 r3
   ·cases h3
  obtain ⟨rfl, _, q11, q12⟩ := q1
  obtain ⟨s', rfl, rfl, q22⟩ := q2
  obtain ⟨p, len, cap, rfl, z1, z2, z3, z4⟩ := q3
  show RepEx w S' _ _
  have key : ∃ dss : Nat → List Value, (∀ i (h' : i < l.length), RepEx w S' l[i] (dss i)) ∧ (l = [] ∨ ∃ b off, p = some ⟨b, off, none⟩ ∧ S' b ∧ ∀ i, i < l.length → jC w b (off + i * 3) (dss i)) := by
   rcases z4 with rfl | ⟨b, off, rfl, hb, hel⟩
   ·exact ⟨fun _ => [], fun i h' => by simp at h', .inl rfl⟩
   ·refine ⟨fun i => if h' : i < l.length then Classical.choose (hel i h') else [], fun i h' => ?_, .inr ⟨b, off, rfl, hb, fun i h' => ?_⟩⟩
    ·simp only [h', dite_true]; exact (Classical.choose_spec (hel i h')).1
    ·simp only [h', dite_true]; exact (Classical.choose_spec (hel i h')).2
  obtain ⟨dss, k1, k2⟩ := key
  exact .mk k s' l p len cap dss ⟨q11, q12⟩ q22 z1 z2 z3 k1 k2
 ·cases ha
theorem aWh {M : Perm} {w0 : World} {c : Ctx} {h : List Obj} {w : World} (hg : Good M w0 c h w) : ∀ (t : Ty) (l : List Nat) (x : t.den), (∀ i ∈ l, i < c.n) → AV.as h t (.agg (l.map fun i => .ptr i [])) = some x → jN c w (l.map fun i => .ptr i []) (l.map c.hd) := by
 intro t
 induction t with
 | pair a r _ ih =>
  intro l x hl ha
  cases l with
  | nil => simp [AV.as] at ha
  | cons i l =>
   simp only [List.map_cons, aPg] at ha
   split at ha
   ·rename_i xa xb h1 h2
    have hb : ∃ n v, h[i]? = some (.box n v) := by
     cases a <;> first | (simp [AV.as] at h1; done) | skip
     simp only [aRx] at h1
     split at h1
     ·rename_i n v ho; exact ⟨n, v, ho⟩
     ·cases h1
    obtain ⟨n, v, ho⟩ := hb
    obtain ⟨b, cells, e, q1, _⟩ := hg.objs i _ ho
    refine ⟨[c.hd i], l.map c.hd, rfl, ?_, ih l xb (fun k hk => hl k (by simp [hk])) h2⟩
    refine ⟨hl i (by simp), b, by rw [q1]; rfl, by rw [q1]; rfl⟩
   ·cases ha
 | unit =>
  intro l x hl ha
  cases l with
  | nil => exact rfl
  | cons i l => simp [AV.as] at ha
 | expr =>
  intro l x hl ha
  match l, ha with
  | [], ha => simp [AV.as] at ha
  | [_], ha => simp [AV.as] at ha
  | [_, _], ha => simp [AV.as] at ha
  | [_, _, _], ha => simp [AV.as, asX, aUh] at ha
  | _ :: _ :: _ :: _ :: _, ha => simp [AV.as] at ha
 | _ => intro l x hl ha; simp [AV.as] at ha
theorem aXd {M : Perm} {w0 : World} {c : Ctx} {h : List Obj} {w : World} (hg : Good M w0 c h w) : ∀ (t : Ty) (v : AV) (x : t.den) (cs : List Value), AV.as h t v = some x → aH c w v cs → aT w (aB8 c h) t x cs ∧ t.isAgg = v.isAgg := by
 have hS : ∀ b, c.S b → aB8 c h b := fun b hb => .inl hb
 have hval : ∀ (t t' : Ty) (y : t'.den) (x : t.den) (cs : List Value), AV.as h t (.val t' y) = some x → aH c w (.val t' y) cs → aT w (aB8 c h) t x cs ∧ t.isAgg = AV.isAgg (.val t' y) := by
  intro t t' y x cs ha hr
  have : ∃ e : t' = t, x = e ▸ y := by
   have h2 : (if e : t' = t then some (e ▸ y) else none) = some x := by cases t <;> simpa [AV.as] using ha
   split at h2
   ·rename_i e; cases h2; exact ⟨e, rfl⟩
   ·cases h2
  obtain ⟨rfl, rfl⟩ := this
  exact ⟨aT.keep hS (.refl _ _) _ _ _ hr, rfl⟩
 have hflat : ∀ (t : Ty) (l : List AV) (x : t.den) (cs : List Value), aDE t l = some x → jN c w l cs → aT w (aB8 c h) t x cs := by
  intro t l x cs ha hr
  unfold aDE at ha
  split at ha
  ·rename_i y hp
   cases ha
   obtain ⟨c1, c2, e, r1, r2⟩ := aQi t l _ _ cs hp hr
   simp only [jN] at r2
   subst r2
   rw [e, List.append_nil]
   exact aT.keep hS (.refl _ _) _ _ _ r1
  ·cases ha
 intro t
 induction t with
 | pair a b iha ihb =>
  intro v x cs ha hr
  cases v with
  | val t' y => exact hval _ _ _ _ _ ha hr
  | agg vs =>
   cases vs with
   | nil => simp [AV.as] at ha
   | cons v vs =>
    simp only [aPg] at ha
    split at ha
    ·rename_i xa xb h1 h2
     cases ha
     simp only [aH, jN] at hr
     obtain ⟨c1, c2, e, r1, r2⟩ := hr
     have q1 := iha v xa c1 h1 r1
     have q2 := ihb (.agg vs) xb c2 h2 (by simpa [aH] using r2)
     exact ⟨⟨c1, c2, e, q1.1, q2.1⟩, rfl⟩
    ·cases ha
  | flat l => simp only [aPh] at ha; exact ⟨hflat _ _ _ _ ha (by simpa [aH] using hr), rfl⟩
  | _ => simp [AV.as] at ha
 | sl t ih =>
  intro v x cs ha hr
  cases v with
  | val t' y => exact hval _ _ _ _ _ ha hr
  | nilS => simp at ha; subst ha; simp only [aH] at hr; exact ⟨⟨none, 0, 0, hr, rfl, Nat.le_refl _, Nat.zero_le _, .inl rfl⟩, rfl⟩
  | full t' xs =>
   have h2 : (if e : t' = t then some (e ▸ xs) else none) = some x := by simpa [AV.as] using ha
   split at h2
   ·rename_i e
    subst e
    cases h2
    simp only [aH] at hr
    obtain ⟨p, n, e, hsl⟩ := hr
    exact ⟨⟨p, n, n, e, hsl.keep hS (.refl _ _) (fun x cs => aT.keep hS (.refl _ _) _ x cs)⟩, rfl⟩
   ·cases h2
  | own i => simp at ha; simp only [aH] at hr; rw [hr.2.1]; exact ⟨aQk hg ha, rfl⟩
  | _ => simp [AV.as] at ha
 | unit =>
  intro v x cs ha hr
  cases v with
  | val t' y => exact hval _ _ _ _ _ ha hr
  | agg vs => cases vs with
   | nil => simp only [aH, jN] at hr; exact ⟨hr, rfl⟩
   | cons v vs => simp [AV.as] at ha
  | flat l => simp only [aL4] at ha; exact ⟨hflat _ _ _ _ ha (by simpa [aH] using hr), rfl⟩
  | _ => simp [AV.as] at ha
 | rp t ih =>
  intro v x cs ha hr
  cases v with
  | val t' y => exact hval _ _ _ _ _ ha hr
  | roa t' y =>
   have h2 : (if e : t' = t then some (e ▸ y) else none) = some x := by simpa [AV.as] using ha
   split at h2
   ·rename_i e
    subst e
    cases h2
    simp only [aH] at hr
    obtain ⟨b, off, ds, e, hb, hd, hcell⟩ := hr
    exact ⟨⟨b, off, ds, e, hS b hb, aT.keep hS (.refl _ _) _ _ _ hd, hcell⟩, rfl⟩
   ·cases h2
  | ptr i p =>
   cases p with
   | nil =>
    simp only [aRx] at ha
    split at ha
    ·rename_i n u ho
     simp only [aH] at hr
     obtain ⟨hi, b, hb, e⟩ := hr
     obtain ⟨b', cells, e', q1, q2, q3, q4⟩ := hg.objs i _ ho
     have hbb : b = b' := by rw [q1] at hb; simp [aN] at hb; exact hb.symm
     subst hbb
     refine ⟨⟨b, 0, cells.toList, e, .inr ⟨i, _, ho, by simp [dO, q1, aN]⟩, (ih u x cells.toList ha q4).1, ?_⟩, rfl⟩
     intro j u hj
     simp only [World.cell?, q2, Nat.zero_add]
     simpa using hj
    ·cases ha
   | cons s p => simp [AV.as] at ha
  | _ => simp [AV.as] at ha
 | clo g t ih =>
  intro v x cs ha hr
  cases v with
  | val t' y => exact hval _ _ _ _ _ ha hr
  | fn g' l1 l2 =>
   cases l1 with
   | nil =>
    have h2 : g' = g ∧ AV.as h t (.agg (l2.map fun i => .ptr i [])) = some x := by simpa [AV.as] using ha
    obtain ⟨rfl, ha⟩ := h2
    simp only [aH] at hr
    obtain ⟨_, h2, e⟩ := hr
    have := ih _ x (l2.map c.hd) ha (by simp only [aH]; exact aWh hg t l2 x h2 ha)
    exact ⟨⟨l2.map c.hd, by simpa using e, this.1⟩, rfl⟩
   | cons i l1 => simp [AV.as] at ha
  | _ => simp [AV.as] at ha
 | expr =>
  intro v x cs ha hr
  cases v with
  | val t' y => exact hval _ _ _ _ _ ha hr
  | agg vs =>
   match vs, ha, hr with
   | [a, b, v], ha, hr =>
    simp only [aPi] at ha
    exact ⟨aSs hS (fun i xs cs h1 h2 => by simp only [aH] at h2; rw [h2.2.1]; exact aQk hg h1) ha (by simpa [aH] using hr), rfl⟩
   | [], ha, _ => simp [AV.as] at ha
   | [_], ha, _ => simp [AV.as] at ha
   | [_, _], ha, _ => simp [AV.as] at ha
   | _ :: _ :: _ :: _ :: _, ha, _ => simp [AV.as] at ha
  | _ => simp [AV.as] at ha
 | _ =>
  intro v x cs ha hr
  cases v with
  | val t' y => exact hval _ _ _ _ _ ha hr
  | _ => simp [AV.as] at ha
def Ty.fieldOff : Ty → Nat → Nat
 | .pair _ _, 0 => 0
 | .pair a r, k + 1 => a.cells + r.fieldOff k
 | .expr, k => k
 | _, _ => 0
def aEK : (t : Ty) → t.den → Nat → AV
 | .pair a _, x, 0 => .val a x.1
 | .pair _ r, x, k + 1 => aEK r x.2 k
 | .expr, x, 0 => .val (.i .i64) x.kind
 | .expr, x, 1 => .val .str x.text
 | .expr, x, 2 => .val (.sl .expr) x.l
 | _, _, _ => .junk
def AV.solid1 : AV → Bool
 | .val _ _ => true
 | .nilS => true
 | .nilP => true
 | .full _ _ => true
 | .own _ => true
 | .ptr _ _ => true
 | .roa _ _ => true
 | .fn _ _ _ => true
 | .mp _ => true
 | _ => false
def AV.solid : AV → Bool
 | .agg vs => vs.all AV.solid1
 | v => v.solid1
def AV.nc1 : AV → Nat
 | .val t _ => t.cells
 | _ => 1
def aE : List AV → Nat
 | [] => 0
 | v :: r => v.nc1 + aE r
def AV.nc : AV → Nat
 | .agg vs => aE vs
 | v => v.nc1
theorem aGZ {c : Ctx} {w : World} {v : AV} {cs : List Value} (hs : v.solid1 = true) (hr : aH c w v cs) : cs.length = v.nc1 := by
 cases v <;> simp [AV.solid1] at hs <;> simp only [aH] at hr <;> simp only [AV.nc1]
 case val t x => exact aT.length _ _ _ hr
 case full t xs => obtain ⟨a, n, e, _⟩ := hr; rw [e]; rfl
 case ptr i p => obtain ⟨_, b, _, e⟩ := hr; rw [e]; rfl
 case roa t x => obtain ⟨b, off, ds, e, _⟩ := hr; rw [e]; rfl
 case fn f a b => rw [hr.2.2]; rfl
 case own i => rw [hr.2.1]; rfl
 case mp i => rw [hr.2.1]; rfl
 all_goals (rw [hr]; rfl)
theorem aSt {c : Ctx} {w : World} : ∀ {vs : List AV} {cs : List Value}, vs.all AV.solid1 = true → jN c w vs cs → cs.length = aE vs
 | [], _, _, hr => by simp only [jN] at hr; rw [hr]; rfl
 | v :: r, _, hs, hr => by
  simp only [List.all_cons, Bool.and_eq_true] at hs
  simp only [jN] at hr
  obtain ⟨c1, c2, e, h1, h2⟩ := hr
  rw [e, List.length_append, aGZ hs.1 h1, aSt hs.2 h2]; rfl
theorem aKb {c : Ctx} {w : World} {v : AV} {cs : List Value} (hs : v.solid = true) (hr : aH c w v cs) : cs.length = v.nc := by
 cases v
 case agg vs => exact aSt hs (by simpa [aH] using hr)
 all_goals (simp only [AV.solid] at hs; simp only [AV.nc]; exact aGZ hs hr)
def dC : AV → Nat → AV × Nat
 | .val t x, k => (aEK t x k, t.fieldOff k)
 | .agg [], _ => (.junk, 0)
 | .agg (v :: _), 0 => (v, 0)
 | .agg (v :: vs), k + 1 => ((dC (.agg vs) k).1, v.nc1 + (dC (.agg vs) k).2)
 | _, _ => (.junk, 0)
def elemOf : AV → Nat → Prop × AV
 | .val (.arr n t) xs, i => (i < n, .val t (xs.getD i t.zero))
 | _, _ => (False, .junk)
def aOK : AV → Nat
 | .val (.arr _ t) _ => t.cells
 | _ => 0
theorem aHz {w : World} {c : Ctx} : ∀ (t : Ty) (x : t.den) (k : Nat) (cs : List Value), aT w c.S t x cs → aEK t x k ≠ .junk → ∃ pre ds post, cs = pre ++ ds ++ post ∧ pre.length = t.fieldOff k ∧ aH c w (aEK t x k) ds
 | .pair a r, x, 0, cs, hr, _ => by
  obtain ⟨c1, c2, e, h1, h2⟩ := hr
  exact ⟨[], c1, c2, by simpa using e, rfl, h1⟩
 | .pair a r, x, k + 1, cs, hr, hj => by
  obtain ⟨c1, c2, e, h1, h2⟩ := hr
  obtain ⟨pre, ds, post, e2, hp, hd⟩ := aHz r x.2 k c2 h2 hj
  refine ⟨c1 ++ pre, ds, post, by rw [e, e2]; simp, ?_, hd⟩
  rw [List.length_append, aT.length _ _ _ h1, hp]; rfl
 | .expr, x, 0, cs, hr, _ => by
  cases hr with
  | mk k s l a len cap dss hk hs hl hc hm hr ha => exact ⟨[], [_], _, rfl, rfl, ⟨rfl, rfl, hk.1, hk.2⟩⟩
 | .expr, x, 1, cs, hr, _ => by
  cases hr with
  | mk k s l a len cap dss hk hs hl hc hm hr ha => exact ⟨[_], [_], [_], rfl, rfl, ⟨s, rfl, rfl, hs⟩⟩
 | .expr, x, 2, cs, hr, _ => by
  cases hr with
  | mk k s l a len cap dss hk hs hl hc hm hr ha =>
   refine ⟨[_, _], [_], [], rfl, rfl, ⟨a, len, cap, rfl, hl, hc, hm, ha.imp id ?_⟩⟩
   rintro ⟨b, off, e, hb, hcell⟩
   exact ⟨b, off, e, hb, fun i hi => ⟨dss i, hr i hi, hcell i hi⟩⟩
 | .expr, x, k + 3, cs, hr, hj => absurd rfl hj
 | .bool, x, k, cs, hr, hj => absurd rfl hj
 | .u _, x, k, cs, hr, hj => absurd rfl hj
 | .i _, x, k, cs, hr, hj => absurd rfl hj
 | .str, x, k, cs, hr, hj => absurd rfl hj
 | .sl _, x, k, cs, hr, hj => absurd rfl hj
 | .unit, x, k, cs, hr, hj => absurd rfl hj
 | .arr _ _, x, k, cs, hr, hj => absurd rfl hj
 | .rp _, x, k, cs, hr, hj => absurd rfl hj
 | .clo _ _, x, k, cs, hr, hj => absurd rfl hj
theorem aL5 {w : World} {c : Ctx} : ∀ (v : AV) (k : Nat) (cs : List Value), v.solid = true → aH c w v cs → (dC v k).1 ≠ .junk → ∃ pre ds post, cs = pre ++ ds ++ post ∧ pre.length = (dC v k).2 ∧ aH c w (dC v k).1 ds := by
 intro v k cs hs hr hj
 cases v with
 | val t x => simp only [dC] at hj ⊢; exact aHz t x k cs (by simpa [aH] using hr) hj
 | agg vs =>
  simp only [aH] at hr
  simp only [AV.solid] at hs
  induction vs generalizing k cs with
  | nil => simp [dC] at hj
  | cons v vs ih =>
   simp only [jN] at hr
   simp only [List.all_cons, Bool.and_eq_true] at hs
   obtain ⟨c1, c2, e, h1, h2⟩ := hr
   cases k with
   | zero => exact ⟨[], c1, c2, by simpa using e, rfl, h1⟩
   | succ k =>
    simp only [dC] at hj ⊢
    have hs2 := hs.2
    obtain ⟨pre, ds, post, e2, hp, hd⟩ := ih k c2 (by assumption) (by assumption) (by assumption)
    exact ⟨c1 ++ pre, ds, post, by rw [e, e2]; simp, by rw [List.length_append, aGZ hs.1 h1, hp], hd⟩
 | _ => simp [dC] at hj
theorem aJc {w : World} {c : Ctx} (v : AV) (i : Nat) (cs : List Value) (hr : aH c w v cs) (h : (elemOf v i).1) : ∃ pre ds post, cs = pre ++ ds ++ post ∧ pre.length = i * aOK v ∧ aH c w (elemOf v i).2 ds := by
 cases v with
 | val t x =>
  cases t with
  | arr n t =>
   simp only [elemOf] at h ⊢
   obtain ⟨hn, css, e, hl, hrep⟩ := hr
   obtain ⟨pre, post, hf, hp⟩ := jX (t := t) (css := css) (fun j hj => aT.length _ _ _ (hrep j (by omega) hj)) i (by omega)
   refine ⟨pre, css[i], post, by rw [e, hf], hp, ?_⟩
   have := hrep i (by omega) (by omega)
   simp only [aH]
   rw [List.getD_eq_getElem?_getD, List.getElem?_eq_getElem (by omega)]
   exact this
  | _ => exact h.elim
 | _ => exact h.elim
def tF : AV → List Step → Prop × AV
 | v, [] => (True, v)
 | v, .fld off k :: p => (v.solid = true ∧ off = (dC v k).2 ∧ (tF (dC v k).1 p).1, (tF (dC v k).1 p).2)
 | v, .idx s i :: p => ((elemOf v i).1 ∧ s = aOK v ∧ (tF (elemOf v i).2 p).1, (tF (elemOf v i).2 p).2)
theorem aTo : ∀ (p : List Step), (tF .junk p).1 → (tF .junk p).2 = .junk
 | [], _ => rfl
 | .fld off k :: p, h => by simp [tF, AV.solid, AV.solid1] at h
 | .idx s i :: p, h => by simp [tF, elemOf] at h
theorem aHA {w : World} {c : Ctx} : ∀ (p : List Step) (v : AV) (cs : List Value), aH c w v cs → (tF v p).1 → (tF v p).2 ≠ .junk → ∃ pre ds post, cs = pre ++ ds ++ post ∧ pre.length = kS p ∧ aH c w (tF v p).2 ds
 | [], v, cs, hr, _, _ => ⟨[], cs, [], by simp, rfl, hr⟩
 | .fld off k :: p, v, cs, hr, h, hj => by
  simp only [tF] at h hj ⊢
  obtain ⟨hs, ho, h2⟩ := h
  have hj1 : (dC v k).1 ≠ .junk := fun e => by rw [e] at h2 hj; exact hj (aTo p h2)
  obtain ⟨pre, ds, post, e, hp, hd⟩ := aL5 v k cs hs hr hj1
  obtain ⟨pre2, ds2, post2, e2, hp2, hd2⟩ := aHA p _ ds hd h2 hj
  refine ⟨pre ++ pre2, ds2, post2 ++ post, by rw [e, e2]; simp, ?_, hd2⟩
  rw [List.length_append, hp, hp2, kS, Step.off, ho]
 | .idx s i :: p, v, cs, hr, h, hj => by
  simp only [tF] at h hj ⊢
  obtain ⟨hs, ho, h2⟩ := h
  obtain ⟨pre, ds, post, e, hp, hd⟩ := aJc v i cs hr hs
  obtain ⟨pre2, ds2, post2, e2, hp2, hd2⟩ := aHA p _ ds hd h2 hj
  refine ⟨pre ++ pre2, ds2, post2 ++ post, by rw [e, e2]; simp, ?_, hd2⟩
  rw [List.length_append, hp, hp2, kS, Step.off, ho]
end Go.Vc
namespace Go.Vc
open Go.RowKit
inductive RK where
 | none
 | one (t : Ty)
 | own (e : TypeId) (t : Ty)
 | tup (t : Ty)
def RK.ty : RK → Ty
 | .none => .unit
 | .one t => t
 | .own _ t => .sl t
 | .tup t => t
structure aF where
 args : Ty
 res : RK
 pre : args.den → Prop
 fn : args.den → res.ty.den
def nT (w : World) (S : Nat → Prop) : (t : Ty) → t.den → List Value → Prop
 | .unit, _, vs => vs = []
 | .pair a r, x, vs => ∃ v vs', vs = v :: vs' ∧ cR w S a x.1 v ∧ nT w S r x.2 vs'
 | _, _, _ => False
def aTp (w : World) (S : Nat → Prop) (B : Nat) : (r : RK) → r.ty.den → Value → Prop
 | .none, _, v => v = .tuple #[]
 | .one t, x, v => cR w (fun b => S b ∨ (B ≤ b ∧ b < w.heap.size)) t x v
 | .own e t, xs, v => ∃ vals : List Value, w.ownsRow B e t.cells v xs.length vals ∧ aT w (fun b => S b ∨ (B ≤ b ∧ b < w.heap.size ∧ aN v ≠ some b)) (.arr xs.length t) xs vals
 | .tup t, x, v => ∃ vs : List Value, v = .tuple vs.toArray ∧ nT w (fun b => S b ∨ (B ≤ b ∧ b < w.heap.size)) t x vs
def nothing : Nat → Prop := fun _ => False
@[reducible] def top (S : Nat → Prop) : Perm := ⟨nothing, S, 0, fun _ => Go.undef⟩
def oW (G : Nat → AV) (S : Nat → Prop) (w : World) : Prop := ∀ g, aQ ⟨S, fun _ => Go.undef, 0, fun _ _ => False⟩ w (G g) (.pointer (some ⟨g, 0, none⟩))
def FOK (P : Program) (G : Nat → AV) (f : FuncId) (sp : aF) : Prop :=
 ∀ (w : World) (S : Nat → Prop) (vs : Array Value) (x : sp.args.den), (∀ b, S b → b < w.heap.size) → oW G S w → nT w S sp.args x vs.toList → sp.pre x →
  Calls P f vs w fun e w' => ∃ v, e = .returned v ∧ fJ nothing w w' ∧ aTp w' S w.heap.size sp.res (sp.fn x) v
structure Env where
 T : Tab
 G : Nat → AV
 Γ : FuncId → List AV → Option aF
 el : TypeId → TypeId
 mp : TypeId → Option (TypeId × TypeId)
 dm : TypeId → Option Mk := fun _ => none
 dz : TypeId → Bool := fun _ => false
def aQl (T : Tab) (t : TypeId) : AV → AV
 | .flat l => match T t with
  | some c => match AV.as [] c (.flat l) with
   | some x => .val c x
   | none => .flat l
  | none => .flat l
 | v => v
def aE1 (T : Tab) (h : List Obj) (t : TypeId) : AV → Prop × AV
 | .roa c x => (T t = some c, .val c x)
 | .ptr i p => match h[i]? with
  | some (.box _ v) => ((tF v p).1 ∧ (tF v p).2.solid = true ∧ ∃ c, T t = some c ∧ c.isAgg = (tF v p).2.isAgg ∧ c.cells = (tF v p).2.nc, (tF v p).2)
  | some (.row _ c xs) => match p with
   | .idx s k :: p => (k < xs.length ∧ s = c.cells ∧ (tF (.val c (xs.getD k c.zero)) p).1 ∧ (tF (.val c (xs.getD k c.zero)) p).2.solid = true ∧
     ∃ c', T t = some c' ∧ c'.isAgg = (tF (.val c (xs.getD k c.zero)) p).2.isAgg ∧ c'.cells = (tF (.val c (xs.getD k c.zero)) p).2.nc, (tF (.val c (xs.getD k c.zero)) p).2)
   | _ => (False, .junk)
  | some (.trh _ _ c xs k v) => match p with
   | .idx s k' :: p => (k' = k ∧ s = c.cells ∧ (tF v p).1 ∧ (tF v p).2.solid = true ∧ ∃ c', T t = some c' ∧ c'.isAgg = (tF v p).2.isAgg ∧ c'.cells = (tF v p).2.nc, (tF v p).2)
   | _ => (False, .junk)
  | _ => (False, .junk)
 | _ => (False, .junk)
noncomputable def zO (T : Tab) (op : BinOp) (t : TypeId) : AV → AV → Prop × AV
 | .val (.u k) a, .val (.u k') b => match op with
  | .shl => shU .shl k a b
  | .shr => shU .shr k a b
  | op => if k' = k then aPe op k a b else (False, .junk)
 | .val (.i k) a, .val (.i k') b => match op with
  | .shl => (0 ≤ b ∧ b ≤ k.bits ∧ (shI .shl k a b.toNat).1, (shI .shl k a b.toNat).2)
  | .shr => (0 ≤ b, (shI .shr k a b.toNat).2)
  | op => if k' = k then aUd op k a b else (False, .junk)
 | .val (.u k) a, .val (.i _) b => match op with
  | .shl => (0 ≤ b, (shU .shl k a b.toNat).2)
  | .shr => (0 ≤ b, (shU .shr k a b.toNat).2)
  | _ => (False, .junk)
 | .val (.i k) a, .val (.u _) b => match op with
  | .shl => (b ≤ k.bits ∧ (shI .shl k a b).1, (shI .shl k a b).2)
  | .shr => (True, (shI .shr k a b).2)
  | _ => (False, .junk)
 | .val .str a, .val .str b => aUe op a b
 | .val .bool a, .val .bool b => (T t = some .bool ∧ (aWa op a b).1, (aWa op a b).2)
 | .val (.pair p q) a, .val t2 b => if e : t2 = .pair p q then (match op with
   | .eql => (T t = some (.pair p q) ∧ (Ty.pair p q).cmpB = true ∧ (Ty.pair p q).deep ≤ 100, .val .bool ((Ty.pair p q).eqb a (e ▸ b)))
   | .neq => (T t = some (.pair p q) ∧ (Ty.pair p q).cmpB = true ∧ (Ty.pair p q).deep ≤ 100, .val .bool (!(Ty.pair p q).eqb a (e ▸ b)))
   | _ => (False, .junk)) else (False, .junk)
 | .val (.arr n q) a, .val t2 b => if e : t2 = .arr n q then (match op with
   | .eql => (T t = some (.arr n q) ∧ (Ty.arr n q).cmpB = true ∧ (Ty.arr n q).deep ≤ 100, .val .bool ((Ty.arr n q).eqb a (e ▸ b)))
   | .neq => (T t = some (.arr n q) ∧ (Ty.arr n q).cmpB = true ∧ (Ty.arr n q).deep ≤ 100, .val .bool (!(Ty.arr n q).eqb a (e ▸ b)))
   | _ => (False, .junk)) else (False, .junk)
 | _, _ => (False, .junk)
noncomputable def aRy (op : UnOp) : AV → Prop × AV
 | .val .bool b => match op with
  | .not => (True, .val .bool (!b))
  | _ => (False, .junk)
 | .val (.i k) a => match op with
  | .neg => (fits k (0 - a), .val (.i k) (0 - a))
  | _ => (False, .junk)
 | .val (.u k) a => match op with
  | .neg => (True, .val (.u k) (aUc k a))
  | .xor => (True, .val (.u k) ((hO k - 1) ^^^ a))
  | _ => (False, .junk)
 | _ => (False, .junk)
def aJd (T : Tab) (src dst : TypeId) (x : AV) : Prop × AV :=
 match T dst, x with
 | some (.u k), .val (.u k0) n => ((T src).isSome = true, .val (.u k) (if k0.bits ≤ k.bits then n else n % hO k))
 | some (.u k), .val (.i _) n => ((T src).isSome = true, .val (.u k) (n % (hO k : Int)).toNat)
 | some (.i k), .val (.u k0) n => ((T src).isSome = true, .val (.i k) (if k0.bits < k.bits then (n : Int) else k.wrap n))
 | some (.i k), .val (.i k0) n => ((T src).isSome = true, .val (.i k) (if k0.bits ≤ k.bits then n else k.wrap n))
 | some .str, .val .str s => (T src = some .str, .val .str s)
 | _, _ => (False, .junk)
def zP : AV → Option Int
 | .val (.i _) n => some n
 | .val (.u _) n => some n
 | _ => none
def uD (T : Tab) (s : TypeId) (x : AV) (k : Nat) : Prop × AV :=
 match x with
 | .ptr i p => match T s with
  | some c => (c.isAgg = true ∧ fldT c k, .ptr i (p ++ [.fld (c.fieldOff k) k]))
  | none => (False, .junk)
 | .roa c x => match aEK c x k with
  | .val f y => (T s = some c, .roa f y)
  | _ => (False, .junk)
 | _ => (False, .junk)
where
 fldT : Ty → Nat → Prop
 | .pair _ _, 0 => True
 | .pair _ r, k + 1 => fldT r k
 | .expr, k => k < 3
 | _, _ => False
def Ty.fldTy : Ty → Nat → Option Ty
 | .pair a _, 0 => some a
 | .pair _ r, k + 1 => r.fldTy k
 | _, _ => none
def aFV (T : Tab) (s : TypeId) (x : AV) (k : Nat) : Prop × AV :=
 match x with
 | .val c y => (T s = some c ∧ aEK c y k ≠ .junk, aEK c y k)
 | .agg vs => (∃ ct, T s = some ct ∧ vs.all AV.solid1 = true ∧ (dC (.agg vs) k).1.solid1 = true ∧ (dC (.agg vs) k).2 = ct.fieldOff k ∧ ∃ c', ct.fldTy k = some c' ∧ c'.isAgg = (dC (.agg vs) k).1.isAgg ∧ c'.cells = (dC (.agg vs) k).1.nc1, (dC (.agg vs) k).1)
 | _ => (False, .junk)
def aHB (T : Tab) (h : List Obj) (t : TypeId) (x ix : AV) : Prop × AV :=
 match zP ix with
 | none => (False, .junk)
 | some i =>
  match x with
  | .val (.sl c) xs => (T t = some (.sl c) ∧ 0 ≤ i ∧ i < (xs.length : Int), .roa c (xs.getD i.toNat c.zero))
  | .full c xs => (T t = some (.sl c) ∧ 0 ≤ i ∧ i < (xs.length : Int), .roa c (xs.getD i.toNat c.zero))
  | .own k => match h[k]? with
   | some (.row _ c xs) => (T t = some (.sl c) ∧ 0 ≤ i ∧ i < (xs.length : Int), .ptr k [.idx c.cells i.toNat])
   | some (.frz c xs) => (T t = some (.sl c) ∧ 0 ≤ i ∧ i < (xs.length : Int), .roa c (xs.getD i.toNat c.zero))
   | some (.tre _ _ c xs) => (T t = some (.sl c) ∧ 0 ≤ i ∧ i < (xs.length : Int), .ptr k [.idx c.cells i.toNat])
   | some (.trh _ _ c xs _ _) => (T t = some (.sl c) ∧ 0 ≤ i ∧ i < (xs.length : Int), .ptr k [.idx c.cells i.toNat])
   | _ => (False, .junk)
  | .sub k s off n => match h[k]? with
   | some (.row _ c xs) => (T t = some (.sl c) ∧ s = c.cells ∧ 0 ≤ i ∧ i < (n : Int), .ptr k [.idx c.cells (off + i.toNat)])
   | _ => (False, .junk)
  | .ptr k p => match T t with
   | some (.arr n c) => (0 ≤ i ∧ i < (n : Int), .ptr k (p ++ [.idx c.cells i.toNat]))
   | _ => (False, .junk)
  | .roa (.arr n c) xs => (T t = some (.arr n c) ∧ 0 ≤ i ∧ i < (n : Int), .roa c (xs.getD i.toNat c.zero))
  | _ => (False, .junk)
def aHC (T : Tab) (t : TypeId) (x ix : AV) : Prop × AV :=
 match zP ix with
 | none => (False, .junk)
 | some i =>
  match x with
  | .val (.arr n c) xs => (T t = some (.arr n c) ∧ 0 ≤ i ∧ i < (n : Int), .val c (xs.getD i.toNat c.zero))
  | .val .str s => (T t = some .str ∧ 0 ≤ i ∧ i < (s.length : Int), .val (.u .u8) (s.getD i.toNat 0))
  | _ => (False, .junk)
def aE2 (T : Tab) (h : List Obj) (t : TypeId) (x : AV) : Prop × AV :=
 match x with
 | .val .str s => (T t = some .str, .val (.i .i64) (s.length : Int))
 | .val (.sl c) xs => (T t = some (.sl c), .val (.i .i64) (xs.length : Int))
 | .full c xs => (T t = some (.sl c), .val (.i .i64) (xs.length : Int))
 | .nilS => (∃ c, T t = some (.sl c), .val (.i .i64) 0)
 | .own k => match h[k]? with
  | some (.row _ c xs) => (T t = some (.sl c), .val (.i .i64) (xs.length : Int))
  | some (.frz c xs) => (T t = some (.sl c), .val (.i .i64) (xs.length : Int))
  | some (.tre _ _ c xs) => (T t = some (.sl c), .val (.i .i64) (xs.length : Int))
  | some (.trh _ _ c xs _ _) => (T t = some (.sl c), .val (.i .i64) (xs.length : Int))
  | _ => (False, .junk)
 | .sub _ _ _ n => (∃ c, T t = some (.sl c), .val (.i .i64) (n : Int))
 | .val (.arr n c) _ => (T t = some (.arr n c), .val (.i .i64) (n : Int))
 | _ => (False, .junk)
def eG : Obj → Obj
 | .frz t xs => .frz t xs
 | _ => .dead
def aRz (h : List Obj) (c : Ty) (x : AV) : Option (List c.den) := AV.as (h.map eG) (.sl c) x
def aHD (T : Tab) (h : List Obj) (t : TypeId) (x : AV) (lo hi mx : Option AV) : Prop × AV :=
 match T t with
 | some .str => match x, mx with
  | .val .str s, none => match lo.map zP, hi.map zP with
   | none, none => (True, .val .str s)
   | some (some l), none => (0 ≤ l ∧ l ≤ (s.length : Int), .val .str (s.drop l.toNat))
   | none, some (some u) => (0 ≤ u ∧ u ≤ (s.length : Int), .val .str (s.take u.toNat))
   | some (some l), some (some u) => (0 ≤ l ∧ l ≤ u ∧ u ≤ (s.length : Int), .val .str ((s.take u.toNat).drop l.toNat))
   | _, _ => (False, .junk)
  | _, _ => (False, .junk)
 | some (.sl c) => match aRz h c x with
  | some xs => match lo.map zP, hi.map zP, mx.map zP with
   | none, none, none => (True, .val (.sl c) xs)
   | some (some l), none, none => (0 ≤ l ∧ l ≤ (xs.length : Int), .val (.sl c) (xs.drop l.toNat))
   | none, some (some u), none => (0 ≤ u ∧ u ≤ (xs.length : Int), .val (.sl c) (xs.take u.toNat))
   | some (some l), some (some u), none => (0 ≤ l ∧ l ≤ u ∧ u ≤ (xs.length : Int), .val (.sl c) ((xs.take u.toNat).drop l.toNat))
   | none, some (some u), some (some m) => (0 ≤ u ∧ u ≤ (xs.length : Int) ∧ m = u, .full c (xs.take u.toNat))
   | some (some l), some (some u), some (some m) => (0 ≤ l ∧ l ≤ u ∧ u ≤ (xs.length : Int) ∧ m = u, .full c ((xs.take u.toNat).drop l.toNat))
   | _, _, _ => (False, .junk)
  | none => (False, .junk)
 | _ => (False, .junk)
def aUi (c : Ty) : AV := .val c c.zero
def uU : Ty → List AV
 | .pair a r => aUi a :: uU r
 | _ => []
def aTq : List AV → List (Nat × AV) → List AV
 | l, [] => l
 | l, (k, v) :: r => aTq (l.set k v) r
def Ty.flds : Ty → List Ty
 | .pair a r => a :: r.flds
 | _ => []
def aFW (ts : List Ty) : List (Nat × AV) → Prop
 | [] => True
 | (k, v) :: r => (v.solid1 = true ∧ ∃ t, ts[k]? = some t ∧ v.nc1 = t.cells) ∧ aFW ts r
def aPj (c : Ty) : List c.den → List (Nat × AV) → Option (List c.den)
 | l, [] => some l
 | l, (k, v) :: r => match AV.as [] c v with
  | some x => if k < l.length then aPj c (l.set k x) r else none
  | none => none
def aE3 (c : Ty) (l : List AV) : AV :=
 match AV.as [] c (.agg l) with
 | some x => .val c x
 | none => .agg l
def aFX (T : Tab) (t : TypeId) (ps : List (Nat × AV)) : Prop × AV :=
 match T t with
 | some (.pair a r) => ((Ty.pair a r).okB = true ∧ aFW (Ty.pair a r).flds ps, aE3 (.pair a r) (aTq (uU (.pair a r)) ps))
 | some .unit => (ps = [], .val .unit ())
 | some .expr => (aFW [.i .i64, .str, .sl .expr] ps, aE3 .expr (aTq [.val (.i .i64) 0, .val .str [], .nilS] ps))
 | some (.arr n c) => match aPj c (List.replicate n c.zero) ps with
  | some l => (c.okB = true, .val (.arr n c) l)
  | none => (False, .junk)
 | _ => (False, .junk)
def iZ : Ty → List AV
 | .pair (.sl _) r => .nilS :: iZ r
 | .pair a r => .val a a.zero :: iZ r
 | _ => []
def aFY : Ty → Bool
 | .pair _ r => aFY r
 | .unit => true
 | _ => false
def aJe (T : Tab) (t : TypeId) (ps : List (Nat × AV)) : Prop × AV :=
 match T t with
 | some (.pair a r) => ((Ty.pair a r).okB = true ∧ aFW (Ty.pair a r).flds ps, .agg (aTq (iZ (.pair a r)) ps))
 | _ => (False, .junk)
def vX (T : Tab) (t : TypeId) (n : Nat) (ps : List (Nat × AV)) : Prop × AV :=
 match T t with
 | some (.sl c) => match aPj c (List.replicate n c.zero) ps with
  | some l => (c.okB = true ∧ n * c.cells ≤ 16777216 ∧ n ≤ maxLen, .full c l)
  | none => (False, .junk)
 | _ => (False, .junk)
def mm2 (mx : Bool) : AV → AV → Prop × AV
 | .val (.i k) a, .val (.i k') b => if k' = k then (True, .val (.i k) (if mx then max a b else min a b)) else (False, .junk)
 | .val (.u k) a, .val (.u k') b => if k' = k then (True, .val (.u k) (if mx then max a b else min a b)) else (False, .junk)
 | _, _ => (False, .junk)
def aUj (mx : Bool) : List AV → Prop × AV
 | [x, y] => mm2 mx x y
 | [x, y, z] => ((mm2 mx x y).1 ∧ (mm2 mx (mm2 mx x y).2 z).1, (mm2 mx (mm2 mx x y).2 z).2)
 | _ => (False, .junk)
def vY : (t : Ty) → t.den → List AV
 | .pair a r, x => .val a x.1 :: vY r x.2
 | _, _ => []
def aUk : (r : RK) → r.ty.den → AV
 | .one t, x => .val t x
 | .tup t, x => .tup (vY t x)
 | _, _ => .junk
def Ty.scalar : Ty → Bool
 | .bool => true
 | .u _ => true
 | .i _ => true
 | .str => true
 | .unit => true
 | .pair a b => a.scalar && b.scalar
 | .arr _ t => t.scalar
 | _ => false
def yB (h : List Obj) : (t : Ty) → List AV → Option t.den
 | .unit, [] => some ()
 | .pair a r, v :: vs => match AV.as h a v, yB h r vs with
  | some x, some y => some (x, y)
  | _, _ => none
 | _, _ => none
def aDF (Γ : FuncId → List AV → Option aF) (h : List Obj) (f : FuncId) (vs : List AV) : Prop × AV :=
 match Γ f vs with
 | some sp => match sp.res with
  | .own _ _ => (False, .junk)
  | _ => match yB (if sp.res.ty.scalar then h else h.map eG) sp.args vs with
   | some x => (sp.pre x, aUk sp.res (sp.fn x))
   | none => (False, .junk)
 | none => (False, .junk)
end Go.Vc
namespace Go.Vc
open Go.RowKit
theorem pZ (b off j : Nat) : (Addr.mk b off none).add j = ⟨b, off + j, none⟩ := by
 unfold Addr.add; split
 ·rename_i h; subst h; rfl
 ·rfl
theorem aL6 {c : Ctx} {w : World} {v : AV} {cs : List Value} (hs : v.solid1 = true) (hr : aH c w v cs) : ∀ u ∈ cs, one u := by
 cases v <;> simp [AV.solid1] at hs <;> simp only [aH] at hr
 case val t x => exact aT.one _ _ _ hr
 case full t xs => obtain ⟨a, n, e, _⟩ := hr; subst e; intro u hu; simp at hu; subst hu; trivial
 case ptr i p => obtain ⟨_, b, _, e⟩ := hr; subst e; intro u hu; simp at hu; subst hu; trivial
 case roa t x => obtain ⟨b, off, ds, e, _⟩ := hr; subst e; intro u hu; simp at hu; subst hu; trivial
 case fn f a b => rw [hr.2.2]; intro u hu; simp at hu; subst hu; trivial
 case own i => rw [hr.2.1]; intro u hu; simp at hu; subst hu; exact hr.2.2
 case mp i => rw [hr.2.1]; intro u hu; simp at hu; subst hu; exact hr.2.2
 all_goals (rw [hr]; intro u hu; simp at hu; subst hu; trivial)
theorem aJf {c : Ctx} {w : World} {v : AV} {cs : List Value} (hs : v.solid = true) (hr : aH c w v cs) : ∀ u ∈ cs, one u := by
 cases v
 case agg vs =>
  simp only [aH] at hr
  simp only [AV.solid] at hs
  induction vs generalizing cs with
  | nil => simp only [jN] at hr; rw [hr]; intro u hu; cases hu
  | cons v r ih =>
   simp only [List.all_cons, Bool.and_eq_true] at hs
   simp only [jN] at hr
   obtain ⟨c1, c2, e, h1, h2⟩ := hr
   intro u hu
   rw [e] at hu
   rcases List.mem_append.1 hu with hu | hu
   ·exact aL6 hs.1 h1 u hu
   ·have hs2 := hs.2; exact ih (by assumption) (by assumption) u hu
 all_goals (simp only [AV.solid] at hs; exact aL6 hs hr)
def mkV (agg : Bool) (ds : List Value) : Value := if agg then .agg ds.toArray else ds.headD Go.undef
theorem aXz {c : Ctx} {w : World} {v : AV} {ds : List Value} (hs : v.solid = true) (hr : aH c w v ds) (hn : v.isAgg = false → ds.length = 1) : aQ c w v (mkV v.isAgg ds) := by
 have h1 := aJf hs hr
 have main : rJ c w v (mkV v.isAgg ds) := by
  unfold mkV
  cases ha : v.isAgg
  ·have hl := hn ha
   match ds, hl with
   | [u], _ =>
    have hu := h1 u (by simp)
    simp only [Bool.false_eq_true, if_false, List.headD_cons]
    refine ⟨?_, (fun h => by rw [ha] at h; cases h), (fun _ cs e => by subst e; exact hu)⟩
    have : u.cells.toList = [u] := by cases u <;> first | rfl | exact hu.elim
    rw [this]; exact hr
  ·simp only [if_true]
   exact ⟨by simpa [Value.cells] using hr, fun _ => ⟨_, rfl⟩, fun h => by rw [ha] at h; cases h⟩
 cases v <;> first | exact main | (simp [AV.solid, AV.solid1] at hs)
section
variable {P : Program} {T : Tab} {M : Perm} {w0 : World} {c : Ctx} {h : List Obj} {w : World}
theorem aDG {t : TypeId} {ct : Ty} (hTy : aAJ P T t ct) {v : AV} {ds : List Value} {b off : Nat} (hs : v.solid = true) (ha : ct.isAgg = v.isAgg) (hn : ct.cells = v.nc) (hr : aH c w v ds) (hc : jC w b off ds) :
  ∃ u, (loadVar t ⟨b, off, none⟩).run P w = .ok u w ∧ aQ c w v u := by
 have hl := aKb hs hr
 have h1 : v.isAgg = false → ds.length = 1 := fun h0 => by
  rw [hl, ← hn]; rw [h0] at ha
  cases ct <;> simp_all [Ty.isAgg, Ty.cells]
 refine ⟨mkV v.isAgg ds, ?_, aXz hs hr h1⟩
 unfold loadVar
 rw [Sem.run_bind, aC7 hTy, Result.andThen_ok, ha]
 cases hb : v.isAgg
 ·match ds, h1 hb with
  | [u], _ =>
   have := hc 0 u rfl
   simp only [Nat.add_zero] at this
   simp [mkV, load, Sem.run, this]
 ·have hrun := run_loadCells_list (P := P) w ⟨b, off, none⟩ ds (fun j u hj => by rw [pZ]; exact hc j u hj)
  rw [hl, ← hn] at hrun
  simp [dW hTy, hrun, mkV]
theorem qK {b : Nat} {cells : Array Value} {e : TypeId} {fz : Nat × Nat} (hb : w.heap[b]? = some (.cells cells e fz)) {pre ds post : List Value} (hc : cells.toList = pre ++ ds ++ post) : jC w b pre.length ds := by
 intro j v hj
 simp only [World.cell?, hb]
 exact aE0 hc j hj
theorem aAL {b off : Nat} {cs pre ds post : List Value} (hc : jC w b off cs) (he : cs = pre ++ ds ++ post) : jC w b (off + pre.length) ds := by
 intro j v hj
 have hlt : j < ds.length := by
  rcases Nat.lt_or_ge j ds.length with h | h
  ·exact h
  ·rw [List.getElem?_eq_none h] at hj; cases hj
 have : cs[pre.length + j]? = some v := by
  rw [he, List.append_assoc, List.getElem?_append_right (by omega), Nat.add_sub_cancel_left, List.getElem?_append_left hlt]; exact hj
 have := hc _ _ this
 rw [Nat.add_assoc]; exact this
theorem aL7 : ∀ (t : Ty) (x : t.den) (k : Nat), aEK t x k = .junk ∨ ∃ f y, aEK t x k = .val f y
 | .pair a _, x, 0 => .inr ⟨a, x.1, rfl⟩
 | .pair _ r, x, k + 1 => aL7 r x.2 k
 | .expr, x, 0 => .inr ⟨_, _, rfl⟩
 | .expr, x, 1 => .inr ⟨_, _, rfl⟩
 | .expr, x, 2 => .inr ⟨_, _, rfl⟩
 | .expr, x, k + 3 => .inl rfl
 | .bool, _, _ => .inl rfl
 | .u _, _, _ => .inl rfl
 | .i _, _, _ => .inl rfl
 | .str, _, _ => .inl rfl
 | .sl _, _, _ => .inl rfl
 | .unit, _, _ => .inl rfl
 | .arr _ _, _, _ => .inl rfl
 | .rp _, _, _ => .inl rfl
 | .clo _ _, _, _ => .inl rfl
 | .ifc _ _, _, _ => .inl rfl
 | .nili, _, _ => .inl rfl
 | .nilp, _, _ => .inl rfl
 | .nilf, _, _ => .inl rfl
theorem aB9 {i : Nat} {p : List Step} {v : Value} (hv : aQ c w (.ptr i p) v) : i < c.n ∧ ∃ b, aN (c.hd i) = some b ∧ v = .pointer (some ⟨b, kS p, none⟩) := by
 obtain ⟨h1, _, h3⟩ := hv
 simp only [aH] at h1
 obtain ⟨hi, b, hb, hc⟩ := h1
 refine ⟨hi, b, hb, ?_⟩
 have h3 := h3 rfl
 cases v <;> simp [Value.cells] at hc h3
 exact congrArg _ hc
theorem aLL {t : Ty} {x : t.den} {v : Value} (hv : aQ c w (.roa t x) v) : ∃ b off ds, v = .pointer (some ⟨b, off, none⟩) ∧ c.S b ∧ aT w c.S t x ds ∧ jC w b off ds := by
 obtain ⟨h1, _, h3⟩ := hv
 simp only [aH] at h1
 obtain ⟨b, off, ds, hc, h⟩ := h1
 refine ⟨b, off, ds, ?_, h⟩
 have h3 := h3 rfl
 cases v <;> simp [Value.cells] at hc h3
 exact congrArg _ hc
theorem aFZ {i : Nat} {p : List Step} {b : Nat} (hi : i < c.n) (hb : aN (c.hd i) = some b) : aQ c w (.ptr i p) (.pointer (some ⟨b, kS p, none⟩)) :=
 ⟨⟨hi, b, hb, rfl⟩, (fun h => by cases h), (fun _ cs => by simp)⟩
theorem aDH {t : Ty} {x : t.den} {b off : Nat} {ds : List Value} (hb : c.S b) (hd : aT w c.S t x ds) (hc : jC w b off ds) : aQ c w (.roa t x) (.pointer (some ⟨b, off, none⟩)) :=
 ⟨⟨b, off, ds, rfl, hb, hd, hc⟩, (fun h => by cases h), (fun _ cs => by simp)⟩
theorem aUl {e : TypeId} {t : Ty} {xs : List t.den} {v : Value} {b : Nat} (hr : vU c w e t xs v) (hb : aN v = some b) {k : Nat} (hk : k < xs.length) :
  ∃ ds, aT w c.S t (xs.getD k t.zero) ds ∧ jC w b (k * t.cells) ds := by
 obtain ⟨vals, hown, _, css, hcs, hl, hrep⟩ := hr
 obtain ⟨hlen, hv⟩ := hown
 rcases hv with ⟨rfl, h0⟩ | ⟨g, cap, cur, rfl, _, hheap, hle, hcap, hsz, htake⟩
 ·simp [aN] at hb
 ·simp [aN] at hb
  subst hb
  refine ⟨css[k], ?_, ?_⟩
  ·rw [List.getD_eq_getElem?_getD, List.getElem?_eq_getElem hk]; exact hrep k hk (by omega)
  ·obtain ⟨pre, post, hf, hp⟩ := jX (t := t) (css := css) (fun j hj => aT.length _ _ _ (hrep j (by omega) hj)) k (by omega)
   have : cur.toList = pre ++ css[k] ++ (post ++ cur.toList.drop (xs.length * t.cells)) := by
    rw [← List.append_assoc, ← hf, ← hcs, ← htake, List.take_append_drop]
   rw [← hp]
   exact qK hheap this
theorem aTr {i b k : Nat} {e : TypeId} {m : Mk} {t : Ty} {xs : List t.den} {v : AV} (hob : aDB c w i (.trh e m t xs k v)) (hb : aN (c.hd i) = some b) : ∃ ds, aH c w v ds ∧ jC w b (k * t.cells) ds := by
 obtain ⟨css, Bs, q⟩ := hob
 have hk := q.kl
 have hlc := q.lc
 have hlb := q.lb
 rcases q.row.2 with ⟨_, h0⟩ | ⟨g, cap, cur, hhd, _, hheap, hle, hcap, hsz, htake⟩
 ·omega
 ·rw [hhd] at hb
  simp [aN] at hb
  subst hb
  obtain ⟨hv1, hv2⟩ := q.hv (by omega)
  refine ⟨css[k], hv1, ?_⟩
  obtain ⟨pre, post, hf, hp⟩ := jX (t := t) (css := css) (fun j hj => by
   by_cases e : j = k
   ·subst e; exact hv2
   ·exact jU.length _ _ _ _ _ (q.el j (by omega) hj (by omega) e)) k (by omega)
  have : cur.toList = pre ++ css[k] ++ (post ++ cur.toList.drop (xs.length * t.cells)) := by
   rw [← List.append_assoc, ← hf, ← htake, List.take_append_drop]
  rw [← hp]
  exact qK hheap this
theorem aSu (hT : iS P T) (hg : Good M w0 c h w) {t : TypeId} {av : AV} {v : Value} (hv : aQ c w av v) (hc : (aE1 T h t av).1) :
  ∃ u, (Instr.loadAt t v).run P w = .ok u w ∧ aQ c w (aE1 T h t av).2 u := by
 cases av with
 | roa ct x =>
  simp only [aE1] at hc ⊢
  obtain ⟨b, off, ds, rfl, hb, hd, hcell⟩ := aLL hv
  have hTy := hT _ _ hc
  obtain ⟨u, hu, hr⟩ := aDG (v := .val ct x) (c := c) hTy rfl rfl rfl hd hcell
  exact ⟨u, by simp [Instr.loadAt, Instr.sureAddr, hu], hr⟩
 | ptr i p =>
  obtain ⟨hi, b, hb, rfl⟩ := aB9 hv
  simp only [aE1] at hc ⊢
  cases ho : h[i]? with
  | none => simp [ho] at hc
  | some o =>
   have hob := hg.objs i o ho
   cases o with
   | box nb v =>
    simp only [ho] at hc ⊢
    obtain ⟨h1, h2, ct, h3, h4, h5⟩ := hc
    obtain ⟨b', cells, e, hhd, hheap, hsz, hcr⟩ := hob
    rw [hhd] at hb
    simp [aN] at hb
    subst hb
    have hj : (tF v p).2 ≠ .junk := fun e => by rw [e] at h2; cases h2
    obtain ⟨pre, ds, post, e1, hp, hd⟩ := aHA p v _ hcr h1 hj
    obtain ⟨u, hu, hr⟩ := aDG (hT _ _ h3) h2 h4 h5 hd (qK hheap e1)
    rw [hp] at hu
    exact ⟨u, by simp [Instr.loadAt, Instr.sureAddr, hu], hr⟩
   | row e ct xs =>
    simp only [ho] at hc ⊢
    cases p with
    | nil => exact hc.elim
    | cons s p =>
     cases s with
     | fld _ _ => exact hc.elim
     | idx s k =>
      simp only at hc ⊢
      obtain ⟨hk, hs, h1, h2, c', h3, h4, h5⟩ := hc
      obtain ⟨ds, hds, hcell⟩ := aUl hob hb hk
      have hj : (tF (.val ct (xs.getD k ct.zero)) p).2 ≠ .junk := fun e => by rw [e] at h2; cases h2
      obtain ⟨pre, ds', post, e1, hp, hd⟩ := aHA p (.val ct (xs.getD k ct.zero)) ds hds h1 hj
      obtain ⟨u, hu, hr⟩ := aDG (hT _ _ h3) h2 h4 h5 hd (aAL hcell e1)
      rw [hp] at hu
      refine ⟨u, ?_, hr⟩
      simp only [Instr.loadAt, Instr.sureAddr, kS, Step.off, hs]
      simp [hu]
   | trh e m ct xs kk v =>
    simp only [ho] at hc ⊢
    cases p with
    | nil => exact hc.elim
    | cons s p =>
     cases s with
     | fld _ _ => exact hc.elim
     | idx s k =>
      simp only at hc ⊢
      obtain ⟨rfl, hs, h1, h2, c', h3, h4, h5⟩ := hc
      obtain ⟨ds, hds, hcell⟩ := aTr hob hb
      have hj : (tF v p).2 ≠ .junk := fun e => by rw [e] at h2; cases h2
      obtain ⟨pre, ds', post, e1, hp, hd⟩ := aHA p v ds hds h1 hj
      obtain ⟨u, hu, hr⟩ := aDG (hT _ _ h3) h2 h4 h5 hd (aAL hcell e1)
      rw [hp] at hu
      refine ⟨u, ?_, hr⟩
      simp only [Instr.loadAt, Instr.sureAddr, kS, Step.off, hs]
      simp [hu]
   | _ => simp [ho] at hc
 | _ => exact hc.elim
theorem aL8 : ∀ {fs : List Field} {off : Nat} {t : Ty} {k : Nat}, dB T fs off t = true → uD.fldT t k → ∃ f, fs[k]? = some f ∧ f.offset = off + t.fieldOff k ∧ ∃ ct, T f.type = some ct ∧ 0 < ct.cells ∧ (∀ x, ∃ y, aEK t x k = .val ct y)
 | [], off, .unit, k, _, hk => hk.elim
 | f :: fs, off, .pair a r, 0, hf, _ => by
  simp only [dB, Bool.and_eq_true, decide_eq_true_eq] at hf
  exact ⟨f, rfl, by rw [hf.1.1.1.2]; rfl, a, hf.1.1.1.1, hf.1.2, fun x => ⟨x.1, rfl⟩⟩
 | f :: fs, off, .pair a r, k + 1, hf, hk => by
  simp only [dB, Bool.and_eq_true, decide_eq_true_eq] at hf
  obtain ⟨f', h1, h2, ct, h3⟩ := aL8 hf.2 (show uD.fldT r k from hk)
  exact ⟨f', by simpa using h1, by rw [h2]; simp only [Ty.fieldOff]; omega, ct, h3.1, h3.2.1, fun x => h3.2.2 x.2⟩
 | [], _, .pair _ _, _, hf, _ => by simp [dB] at hf
 | _ :: _, _, .unit, _, hf, _ => by simp [dB] at hf
theorem aF0 {s : TypeId} {ct : Ty} (hTy : aAJ P T s ct) {k : Nat} (ha : ct.isAgg = true) (hk : uD.fldT ct k) :
  ∃ fs f, P.underlying s = some (.struct fs) ∧ fs[k]? = some f ∧ f.offset = ct.fieldOff k ∧ ∃ c', T f.type = some c' ∧ 0 < c'.cells ∧ (∀ x, ∃ y, aEK ct x k = .val c' y) := by
 obtain ⟨d, hd, hb⟩ := hTy.desc
 cases ct <;> first | (simp [Ty.isAgg] at ha; done) | skip
 all_goals (cases d <;> first | (simp [fT] at hb; done) | simp only [fT] at hb)
 case unit.struct fs => exact hk.elim
 case pair.struct a r fs =>
  obtain ⟨f, h1, h2, h3⟩ := aL8 hb hk
  exact ⟨fs, f, hd, by simpa using h1, by simpa using h2, h3⟩
 case arr.array => exact hk.elim
 case expr.struct fs =>
  unfold aSp at hb
  split at hb
  ·rename_i f0 f1 f2 hfs
   simp only [Bool.and_eq_true, decide_eq_true_eq] at hb
   obtain ⟨⟨⟨⟨⟨h1, h2⟩, h3⟩, h4⟩, h5⟩, h6⟩ := hb
   have hk : k < 3 := hk
   have hget : ∀ j, fs[j]? = [f0, f1, f2][j]? := fun j => by rw [← hfs, Array.getElem?_toList]
   match k, hk with
   | 0, _ => exact ⟨fs, f0, hd, by rw [hget]; rfl, h2, .i .i64, h1, Nat.one_pos, fun x => ⟨_, rfl⟩⟩
   | 1, _ => exact ⟨fs, f1, hd, by rw [hget]; rfl, h4, .str, h3, Nat.one_pos, fun x => ⟨_, rfl⟩⟩
   | 2, _ => exact ⟨fs, f2, hd, by rw [hget]; rfl, h6, .sl .expr, h5, Nat.one_pos, fun x => ⟨_, rfl⟩⟩
  ·cases hb
theorem aSv {t : Ty} : ∀ {x : t.den} {k : Nat}, aEK t x k ≠ .junk → uD.fldT t k := by
 induction t with
 | pair a r _ ih => intro x k h; cases k with
  | zero => trivial
  | succ k => exact ih h
 | expr => intro x k h; match k with
  | 0 => exact (by omega : 0 < 3)
  | 1 => exact (by omega : 1 < 3)
  | 2 => exact (by omega : 2 < 3)
  | k + 3 => exact absurd rfl h
 | _ => intro x k h; exact absurd rfl h
theorem aE4 {f : Field} {ct : Ty} (hTy : aAJ P T f.type ct) (hpos : 0 < ct.cells) (b off : Nat) : (fieldPlace ⟨b, off, none⟩ f).run P w = .ok ⟨b, off + f.offset, none⟩ w := by
 have : ¬ ct.cells = 0 := by omega
 simp [fieldPlace, dW hTy, this, Result.andThen, pZ]
theorem aDI : ∀ (p q : List Step), kS (p ++ q) = kS p + kS q
 | [], q => by simp [kS]
 | s :: p, q => by simp [kS, aDI p q]; omega
theorem aUm (hT : iS P T) {s : TypeId} {av : AV} {v : Value} {k : Nat} (hv : aQ c w av v) (hc : (uD T s av k).1) :
  ∃ u, (Instr.fieldAt s v k).run P w = .ok u w ∧ aQ c w (uD T s av k).2 u := by
 cases av with
 | ptr i p =>
  obtain ⟨hi, b, hb, rfl⟩ := aB9 hv
  simp only [uD] at hc ⊢
  cases ht : T s with
  | none => simp [ht] at hc
  | some ct =>
   simp only [ht] at hc ⊢
   obtain ⟨fs, f, h1, h2, h3, c', h4, h5, _⟩ := aF0 (hT _ _ ht) hc.1 hc.2
   refine ⟨.pointer (some ⟨b, kS (p ++ [.fld (ct.fieldOff k) k]), none⟩), ?_, aFZ hi hb⟩
   have hrun := aE4 (w := w) (hT _ _ h4) h5 b (kS p)
   simp [Instr.fieldAt, aV h1, h2, Instr.sureAddr, hrun, Result.andThen, aDI, kS, Step.off, h3]
 | roa ct x =>
  obtain ⟨b, off, ds, rfl, hb, hd, hcell⟩ := aLL hv
  simp only [uD] at hc ⊢
  rcases aL7 ct x k with hj | ⟨f, y, hf⟩
  ·simp [hj] at hc
  ·simp only [hf] at hc ⊢
   have hfj : aEK ct x k ≠ .junk := by rw [hf]; simp
   have hag : ct.isAgg = true := by
    cases ct <;> first | rfl | exact absurd rfl hfj
   obtain ⟨fs, fd, h1, h2, h3, c', h4, h5, h6⟩ := aF0 (hT _ _ hc) hag (aSv hfj)
   obtain ⟨pre, ds', post, e, hp, hd'⟩ := aHz (c := c) ct x k ds hd hfj
   rw [hf] at hd'
   have hcell' := aAL hcell e
   rw [hp] at hcell'
   refine ⟨.pointer (some ⟨b, off + ct.fieldOff k, none⟩), ?_, aDH hb hd' hcell'⟩
   have hrun := aE4 (w := w) (hT _ _ h4) h5 b off
   simp [Instr.fieldAt, aV h1, h2, Instr.sureAddr, hrun, Result.andThen, h3]
 | _ => exact hc.elim
theorem aUn : ∀ {t : Ty} {k : Nat} {c' : Ty}, t.fldTy k = some c' → uD.fldT t k ∧ ∀ x : t.den, ∃ y, aEK t x k = .val c' y := by
 intro t
 induction t with
 | pair a r _ ih =>
  intro k c' h
  cases k with
  | zero => simp only [Ty.fldTy, Option.some.injEq] at h; subst h; exact ⟨trivial, fun x => ⟨x.1, rfl⟩⟩
  | succ k => obtain ⟨h1, h2⟩ := ih (show r.fldTy k = some c' from h); exact ⟨h1, fun x => h2 x.2⟩
 | _ => intro k c' h; simp [Ty.fldTy] at h
theorem aTs {t : TypeId} {ct : Ty} (hTy : aAJ P T t ct) {cs : Array Value} {pre ds post : List Value} (hcs : cs.toList = pre ++ ds ++ post) {v : AV} (hs : v.solid1 = true) (ha : ct.isAgg = v.isAgg) (hn : ct.cells = v.nc1) (hd : aH c w v ds) (w' : World) :
  ∃ u, (part t cs pre.length).run P w' = .ok u w' ∧ aQ c w v u := by
 have hl := aGZ hs hd
 have hne : ∀ u : Value, rJ c w v u → aQ c w v u := fun u h => by cases v <;> first | exact h | (simp [AV.solid1] at hs)
 by_cases hag : ct.isAgg = true
 ·refine ⟨.agg (cs.extract pre.length (pre.length + ct.cells)), ?_, hne _ ⟨?_, fun _ => ⟨_, rfl⟩, fun h => by rw [← ha, hag] at h; cases h⟩⟩
  ·simp [part, aC7 hTy, hag, dW hTy, Result.andThen]
  ·simp only [Value.cells]
   rw [hn, ← hl, aL1 hcs]; exact hd
 ·have h1 : ct.cells = 1 := by cases ct <;> simp_all [Ty.isAgg, Ty.cells]
  obtain ⟨u, rfl⟩ : ∃ u, ds = [u] := by
   match ds, hl.trans (hn.symm.trans h1) with
   | [u], _ => exact ⟨u, rfl⟩
  have hone := aJf (v := v) (c := c) (w := w) (by cases v <;> first | exact hs | (simp [AV.solid1] at hs)) hd u (by simp)
  refine ⟨u, ?_, hne _ ⟨?_, fun h => absurd (ha.trans h) hag, fun _ cs' e => by subst e; exact hone.elim⟩⟩
  ·have := aE0 hcs 0 (v := u) rfl
   simp only [Nat.add_zero] at this
   simp [part, aC7 hTy, hag, this]
  ·cases u <;> first | exact hd | exact hone.elim
theorem aUo (hT : iS P T) {s : TypeId} {av : AV} {v : Value} {k : Nat} (hv : aQ c w av v) (hc : (aFV T s av k).1) :
  ∃ u, (Instr.field s v k).run P w = .ok u w ∧ aQ c w (aFV T s av k).2 u := by
 cases av with
 | val ct x =>
  simp only [aFV] at hc ⊢
  obtain ⟨ht, hj⟩ := hc
  have hag : ct.isAgg = true := by cases ct <;> first | rfl | exact absurd rfl hj
  obtain ⟨fs, fd, h1, h2, h3, c', h4, h5, h6⟩ := aF0 (hT _ _ ht) hag (aSv hj)
  obtain ⟨y, hy⟩ := h6 x
  obtain ⟨h1', h2', _⟩ := hv
  obtain ⟨cs, rfl⟩ := h2' hag
  simp only [aH, Value.cells] at h1'
  obtain ⟨pre, ds', post, e, hp, hd'⟩ := aHz (c := c) ct x k _ h1' hj
  rw [hy] at hd' ⊢
  obtain ⟨u, hu, hr⟩ := aBo (hT _ _ h4) e hd' w
  rw [hp, ← h3] at hu
  exact ⟨u, by simp [Instr.field, aV h1, h2, asAgg, hu], aQ.ofV hr⟩
 | agg vs =>
  simp only [aFV] at hc ⊢
  obtain ⟨ct, ht, hs, hs1, hoff, c', hf, ha, hn⟩ := hc
  obtain ⟨hft, hfv⟩ := aUn hf
  have hag : ct.isAgg = true := by cases ct <;> first | rfl | (simp [Ty.fldTy] at hf)
  obtain ⟨fs, fd, h1, h2, h3, c'', h4, h5, h6⟩ := aF0 (hT _ _ ht) hag hft
  obtain ⟨y, hy⟩ := h6 ct.zero
  obtain ⟨y', hy'⟩ := hfv ct.zero
  have ec : c'' = c' := by rw [hy] at hy'; injection hy'
  subst ec
  obtain ⟨h1', h2', _⟩ := hv
  obtain ⟨cs, rfl⟩ := h2' rfl
  have hj : (dC (.agg vs) k).1 ≠ .junk := fun e => by rw [e] at hs1; cases hs1
  obtain ⟨pre, ds', post, e, hp, hd'⟩ := aL5 (c := c) (.agg vs) k _ hs h1' hj
  simp only [Value.cells] at e
  obtain ⟨u, hu, hr⟩ := aTs (hT _ _ h4) e hs1 ha hn hd' w
  rw [hp, hoff, ← h3] at hu
  exact ⟨u, by simp [Instr.field, aV h1, h2, asAgg, hu], hr⟩
 | _ => exact hc.elim
end
end Go.Vc
