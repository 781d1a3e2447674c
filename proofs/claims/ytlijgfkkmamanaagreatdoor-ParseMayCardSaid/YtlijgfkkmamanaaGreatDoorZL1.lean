import Derived.WalkKit
import Derived.Below
set_option linter.unusedVariables false
set_option linter.unusedSimpArgs false
namespace Go.Vc
open Go.RowKit
inductive Ex where
 | mk (kind : Int) (text : List Nat) (l : List Ex)
def Ex.kind : Ex → Int | .mk k _ _ => k
def Ex.text : Ex → List Nat | .mk _ t _ => t
def Ex.l : Ex → List Ex | .mk _ _ l => l
inductive Ty where
 | bool | u (k : IntKind) | i (k : IntKind) | str | sl (t : Ty) | unit | pair (a b : Ty) | arr (n : Nat) (t : Ty) | expr | rp (t : Ty) | clo (g : FuncId) (t : Ty) | ifc (k : TypeId) (t : Ty) | nili | nilp | nilf
 deriving DecidableEq
@[reducible] def Ty.den : Ty → Type
 | .bool => Bool
 | .u _ => Nat
 | .i _ => Int
 | .str => List Nat
 | .sl t => List t.den
 | .unit => Unit
 | .pair a b => a.den × b.den
 | .arr _ t => List t.den
 | .expr => Ex
 | .rp t => t.den
 | .clo _ t => t.den
 | .ifc _ t => t.den
 | .nili => Unit
 | .nilp => Unit
 | .nilf => Unit
def Ty.cells : Ty → Nat
 | .bool => 1
 | .u _ => 1
 | .i _ => 1
 | .str => 1
 | .sl _ => 1
 | .unit => 0
 | .pair a b => a.cells + b.cells
 | .arr n t => n * t.cells
 | .expr => 3
 | .rp _ => 1
 | .clo _ _ => 1
 | .ifc _ _ => 1
 | .nili => 1
 | .nilp => 1
 | .nilf => 1
def Ty.isAgg : Ty → Bool
 | .unit => true
 | .pair _ _ => true
 | .arr _ _ => true
 | .expr => true
 | _ => false
def Ty.zero : (t : Ty) → t.den
 | .bool => false
 | .u _ => 0
 | .i _ => 0
 | .str => []
 | .sl _ => []
 | .unit => ()
 | .pair a b => (a.zero, b.zero)
 | .arr n t => List.replicate n t.zero
 | .expr => .mk 0 [] []
 | .rp t => t.zero
 | .clo _ t => t.zero
 | .ifc _ t => t.zero
 | .nili => ()
 | .nilp => ()
 | .nilf => ()
def aV (s : ByteArray) : List Nat := s.data.toList.map (·.toNat)
def lY (w : World) (b off : Nat) (ds : List Value) : Prop := ∀ j v, ds[j]? = some v → w.cell? ⟨b, off + j, none⟩ = some v
def SlR {α : Type} (w : World) (S : Nat → Prop) (R : α → List Value → Prop) (sz : Nat) (xs : List α) (a : Option Addr) (len cap : Nat) : Prop :=
 xs.length = len ∧ len ≤ cap ∧ cap ≤ maxLen ∧
  (xs = [] ∨ ∃ b off, a = some ⟨b, off, none⟩ ∧ S b ∧ ∀ i (h : i < xs.length), ∃ ds, R xs[i] ds ∧ lY w b (off + i * sz) ds)
inductive RepEx (w : World) (S : Nat → Prop) : Ex → List Value → Prop where
 | mk (k : Int) (s : ByteArray) (l : List Ex) (a : Option Addr) (len cap : Nat) (dss : Nat → List Value)
   (hk : IntKind.min .i64 ≤ k ∧ k ≤ IntKind.max .i64) (hs : s.size ≤ maxLen) (hl : l.length = len) (hc : len ≤ cap) (hm : cap ≤ maxLen)
   (hr : ∀ i (h : i < l.length), RepEx w S l[i] (dss i))
   (ha : l = [] ∨ ∃ b off, a = some ⟨b, off, none⟩ ∧ S b ∧ ∀ i, i < l.length → lY w b (off + i * 3) (dss i)) :
   RepEx w S (.mk k (aV s) l) [.int .i64 k, .string s, .slice a len cap]
def bB (w : World) (S : Nat → Prop) : (t : Ty) → t.den → List Value → Prop
 | .bool, x, f => f = [.bool x]
 | .u k, x, f => f = [.int k (x : Int)] ∧ k.signed = false ∧ (x : Int) ≤ k.max
 | .i k, x, f => f = [.int k x] ∧ k.signed = true ∧ k.min ≤ x ∧ x ≤ k.max
 | .str, x, f => ∃ s, f = [.string s] ∧ aV s = x ∧ s.size ≤ maxLen
 | .sl t, j, f => ∃ a len cap, f = [.slice a len cap] ∧ SlR w S (bB w S t) t.cells j a len cap
 | .unit, _, f => f = []
 | .pair a b, x, f => ∃ c1 q, f = c1 ++ q ∧ bB w S a x.1 c1 ∧ bB w S b x.2 q
 | .arr n t, j, f => j.length = n ∧ ∃ css : List (List Value), f = css.flatten ∧ css.length = j.length ∧ ∀ i (h : i < j.length) (h' : i < css.length), bB w S t j[i] css[i]
 | .expr, x, f => RepEx w S x f
 | .rp t, x, f => ∃ b off ds, f = [.pointer (some ⟨b, off, none⟩)] ∧ S b ∧ bB w S t x ds ∧ lY w b off ds
 | .clo g t, x, f => ∃ vs : List Value, f = [.func (.func g) #[] vs.toArray] ∧ bB w S t x vs
 | .ifc k t, x, f => ∃ v ds, f = [.iface k v] ∧ (t.isAgg = true → v = .agg ds.toArray) ∧ (t.isAgg = false → ds = [v]) ∧ bB w S t x ds
 | .nili, _, f => f = [.nilIface]
 | .nilp, _, f => f = [.pointer none]
 | .nilf, _, f => f = [.nilFunc]
def dE (w : World) (S : Nat → Prop) (t : Ty) (x : t.den) (v : Value) : Prop :=
 if t.isAgg = true then ∃ cs, v = .agg cs ∧ bB w S t x cs.toList else bB w S t x [v]
def aBi (S : Nat → Prop) (w w' : World) : Prop := ∀ b, S b → w'.heap[b]? = w.heap[b]?
theorem aBi.refl (S : Nat → Prop) (w : World) : aBi S w w := fun _ _ => rfl
theorem aBi.trans {S : Nat → Prop} {a b c : World} (h : aBi S a b) (k : aBi S b c) : aBi S a c := fun x f => (k x f).trans (h x f)
theorem aBi.mono {S S' : Nat → Prop} {w w' : World} (h : aBi S w w') (hs : ∀ b, S' b → S b) : aBi S' w w' := fun b hb => h b (hs b hb)
theorem aDT {S : Nat → Prop} {w w' : World} (h : aBi S w w') {b off : Nat} (hb : S b) {ds : List Value} (hc : lY w b off ds) : lY w' b off ds := fun j v f => by
 rw [World.cell?_of_block (w := w) (w' := w') (h b hb)]; exact hc j v f
theorem SlR.keep {α : Type} {w w' : World} {S S' : Nat → Prop} (hs : ∀ b, S b → S' b) (h : aBi S w w') {R f : α → List Value → Prop} (z : ∀ x cs, R x cs → f x cs)
  {sz : Nat} {xs : List α} {a : Option Addr} {len cap : Nat} (g : SlR w S R sz xs a len cap) : SlR w' S' f sz xs a len cap := by
 obtain ⟨s, q, j, r⟩ := g
 refine ⟨s, q, j, r.imp id ?_⟩
 grind [aDT]
theorem RepEx.keep {w w' : World} {S S' : Nat → Prop} (hs : ∀ b, S b → S' b) (h : aBi S w w') {e : Ex} {cs : List Value} (q : RepEx w S e cs) : RepEx w' S' e cs := by
 induction q with
 | mk k s l a len g j I f J hc hm q z r =>
  refine .mk k s l a len g j I f J hc hm r (z.imp id ?_)
  grind [aDT]
theorem bB.keep {w w' : World} {S S' : Nat → Prop} (hs : ∀ b, S b → S' b) (h : aBi S w w') : ∀ (t : Ty) (x : t.den) (cs : List Value), bB w S t x cs → bB w' S' t x cs
 | .bool, _, _, f => f
 | .u _, _, _, f => f
 | .i _, _, _, f => f
 | .str, _, _, f => f
 | .sl t, _, _, ⟨a, len, r, hv, f⟩ => ⟨a, len, r, hv, f.keep hs h (fun x cs => bB.keep hs h t x cs)⟩
 | .unit, _, _, f => f
 | .pair a b, _, _, ⟨c1, I, hc, j, g⟩ => ⟨c1, I, hc, bB.keep hs h a _ _ j, bB.keep hs h b _ _ g⟩
 | .arr _ t, _, _, ⟨s, q, hc, J, f⟩ => ⟨s, q, hc, J, fun i j g => bB.keep hs h t _ _ (f i j g)⟩
 | .expr, _, _, f => RepEx.keep hs h f
 | .rp t, _, _, ⟨b, off, ds, hc, hb, hd, hcell⟩ => ⟨b, off, ds, hc, hs b hb, bB.keep hs h t _ _ hd, aDT h hb hcell⟩
 | .clo _ t, _, _, ⟨z, hc, hd⟩ => ⟨z, hc, bB.keep hs h t _ _ hd⟩
 | .ifc _ t, _, _, ⟨v, ds, hc, j, g, hd⟩ => ⟨v, ds, hc, j, g, bB.keep hs h t _ _ hd⟩
 | .nili, _, _, f => f
 | .nilp, _, _, f => f
 | .nilf, _, _, f => f
theorem dE.keep {w w' : World} {S S' : Nat → Prop} (hs : ∀ b, S b → S' b) (h : aBi S w w') {t : Ty} {x : t.den} {v : Value} (f : dE w S t x v) : dE w' S' t x v := by
 unfold dE at *
 split
 ·rename_i g; simp only [g, if_true] at f; obtain ⟨j, hv, hc⟩ := f; exact ⟨j, hv, hc.keep hs h⟩
 ·rename_i g; simp only [g] at f; exact f.keep hs h
theorem mD {css : List (List Value)} {n : Nat} (h : ∀ i (h : i < css.length), (css[i]).length = n) : css.flatten.length = css.length * n := by
 induction css with
 | nil => simp
 | cons c r b =>
  have h0 := h 0 (by simp)
  have := b (fun i hi => by have := h (i + 1) (by simp_all); simp_all)
  grind
theorem bB.length {w : World} {S : Nat → Prop} : ∀ (t : Ty) (x : t.den) (cs : List Value), bB w S t x cs → cs.length = t.cells
 | .bool, _, _, f => by cases f; rfl
 | .u _, _, _, f => by cases f.1; rfl
 | .i _, _, _, f => by cases f.1; rfl
 | .str, _, _, ⟨s, hv, _⟩ => by subst hv; rfl
 | .sl t, _, _, ⟨a, len, r, hv, _⟩ => by subst hv; rfl
 | .unit, _, _, f => by cases f; rfl
 | .pair a b, _, _, ⟨c1, N, hc, z, q⟩ => by subst hc; simp only [List.length_append, bB.length a _ _ z, bB.length b _ _ q, Ty.cells]
 | .arr n t, L, _, ⟨g, j, hc, I, f⟩ => by
  subst hc
  rw [mD (n := t.cells) (fun i hi => bB.length t _ _ (f i (by omega) hi)), I, g]
  rfl
 | .expr, _, _, f => by cases f; rfl
 | .rp t, _, _, ⟨b, off, ds, hc, _⟩ => by subst hc; rfl
 | .clo _ t, _, _, ⟨J, hc, _⟩ => by subst hc; rfl
 | .ifc _ t, _, _, ⟨v, ds, hc, _⟩ => by subst hc; rfl
 | .nili, _, _, f => by cases f; rfl
 | .nilp, _, _, f => by cases f; rfl
 | .nilf, _, _, f => by cases f; rfl
def one (v : Value) : Prop := match v with | .agg _ | .tuple _ => False | _ => True
theorem bB.one {w : World} {S : Nat → Prop} : ∀ (t : Ty) (x : t.den) (cs : List Value), bB w S t x cs → ∀ v ∈ cs, one v
 | .bool, _, _, f => by cases f; intro v hv; simp at hv; subst hv; trivial
 | .u _, _, _, f => by cases f.1; intro v hv; simp at hv; subst hv; trivial
 | .i _, _, _, f => by cases f.1; intro v hv; simp at hv; subst hv; trivial
 | .str, _, _, ⟨s, hv, _⟩ => by subst hv; intro v hv; simp at hv; subst hv; trivial
 | .sl t, _, _, ⟨a, len, r, hv, _⟩ => by subst hv; intro v hv; simp at hv; subst hv; trivial
 | .unit, _, _, f => by cases f; simp_all
 | .pair a b, _, _, ⟨c1, N, hc, z, q⟩ => by
  subst hc
  intro v hv
  rcases List.mem_append.1 hv with hv | hv
  ·exact bB.one a _ _ z v hv
  ·exact bB.one b _ _ q v hv
 | .arr n t, L, _, ⟨I, j, hc, O, f⟩ => by
  subst hc
  intro v hv
  obtain ⟨c, g, hv⟩ := List.mem_flatten.1 hv
  obtain ⟨i, hi, rfl⟩ := List.mem_iff_getElem.1 g
  exact bB.one t _ _ (f i (by omega) hi) v hv
 | .expr, _, _, f => by
  cases f
  intro v hv
  simp only [List.mem_cons, List.not_mem_nil, or_false] at hv
  rcases hv with rfl | rfl | rfl <;> trivial
 | .rp t, _, _, ⟨b, off, ds, hc, _⟩ => by subst hc; intro v hv; simp at hv; subst hv; trivial
 | .clo _ t, _, _, ⟨J, hc, _⟩ => by subst hc; intro v hv; simp at hv; subst hv; trivial
 | .ifc _ t, _, _, ⟨v, ds, hc, _⟩ => by subst hc; intro v hv; simp at hv; subst hv; trivial
 | .nili, _, _, f => by cases f; intro v hv; simp at hv; subst hv; trivial
 | .nilp, _, _, f => by cases f; intro v hv; simp at hv; subst hv; trivial
 | .nilf, _, _, f => by cases f; intro v hv; simp at hv; subst hv; trivial
theorem dE.cells {w : World} {S : Nat → Prop} {t : Ty} {x : t.den} {v : Value} (b : dE w S t x v) : bB w S t x v.cells.toList := by
 unfold dE at b
 split at b
 ·obtain ⟨g, rfl, hc⟩ := b; exact hc
 ·have f := bB.one t x _ b v (by simp)
  cases v <;> first | exact f.elim | exact b
theorem dE.of_cells {w : World} {S : Nat → Prop} {t : Ty} {x : t.den} {v : Value} (hs : t.isAgg = true → ∃ cs, v = .agg cs) (g : t.isAgg = false → ∀ cs, v ≠ .agg cs) (b : bB w S t x v.cells.toList) : dE w S t x v := by
 unfold dE
 split
 ·rename_i f; obtain ⟨cs, rfl⟩ := hs f; exact ⟨cs, rfl, b⟩
 ·rename_i f
  have := g (by simp_all)
  cases v <;> first | exact absurd rfl (this _) | exact b
end Go.Vc
namespace Go.Vc
open Go.RowKit
inductive Step where
 | fld (off k : Nat)
 | idx (size i : Nat)
def Step.off : Step → Nat
 | .fld o _ => o
 | .idx s i => i * s
def oF : List Step → Nat
 | [] => 0
 | s :: r => s.off + oF r
inductive AV where
 | junk
 | undef
 | val (t : Ty) (x : t.den)
 | nilS
 | nilP
 | full (t : Ty) (xs : List t.den)
 | own (i : Nat)
 | ptr (i : Nat) (p : List Step)
 | sub (i s off n : Nat)
 | roa (t : Ty) (x : t.den)
 | fn (f : FuncId) (first caps : List Nat)
 | mp (i : Nat)
 | flat (vs : List AV)
 | agg (vs : List AV)
 | tup (vs : List AV)
inductive Mk where
 | no
 | sl (e : TypeId) (m : Mk)
 | pair (a b : Mk)
 deriving DecidableEq
inductive Obj where
 | dead
 | box (n : Nat) (v : AV)
 | row (e : TypeId) (t : Ty) (xs : List t.den)
 | frz (t : Ty) (xs : List t.den)
 | map (k v : Ty) (m : List (k.den × v.den))
 | tre (e : TypeId) (m : Mk) (t : Ty) (xs : List t.den)
 | trh (e : TypeId) (m : Mk) (t : Ty) (xs : List t.den) (k : Nat) (v : AV)
structure Ctx where
 S : Nat → Prop
 hd : Nat → Value
 n : Nat
 bl : Nat → Nat → Prop
structure Ctx.le (c c' : Ctx) : Prop where
 S : ∀ b, c.S b → c'.S b
 n : c.n ≤ c'.n
 hd : ∀ i, i < c.n → c'.hd i = c.hd i
theorem Ctx.le.refl (c : Ctx) : c.le c := ⟨fun _ h => h, Nat.le_refl _, fun _ _ => rfl⟩
theorem Ctx.le.trans {a b c : Ctx} (h : a.le b) (k : b.le c) : a.le c :=
 ⟨fun x f => k.S x (h.S x f), Nat.le_trans h.n k.n, fun i hi => (k.hd i (Nat.lt_of_lt_of_le hi h.n)).trans (h.hd i hi)⟩
def aX : Value → Option Nat
 | .pointer (some a) => some a.block
 | .slice (some a) _ _ => some a.block
 | .map (some b) => some b
 | _ => none
def AV.isAgg : AV → Bool
 | .val t _ => t.isAgg
 | .agg _ => true
 | .flat _ => true
 | _ => false
mutual
def aM (c : Ctx) (w : World) : AV → List Value → Prop
 | .junk, _ => True
 | .undef, cs => cs = [Go.undef]
 | .val t x, cs => bB w c.S t x cs
 | .nilS, cs => cs = [.slice none 0 0]
 | .nilP, cs => cs = [.pointer none]
 | .full t xs, cs => ∃ a n, cs = [.slice a n n] ∧ SlR w c.S (bB w c.S t) t.cells xs a n n
 | .own i, cs => i < c.n ∧ cs = [c.hd i] ∧ one (c.hd i)
 | .ptr i p, cs => i < c.n ∧ ∃ b, aX (c.hd i) = some b ∧ cs = [.pointer (some ⟨b, oF p, none⟩)]
 | .sub i s off n, cs => i < c.n ∧ n ≤ maxLen ∧ ∃ b cap, aX (c.hd i) = some b ∧ cs = [.slice (some ⟨b, off * s, none⟩) n cap]
 | .roa t x, cs => ∃ b off ds, cs = [.pointer (some ⟨b, off, none⟩)] ∧ c.S b ∧ bB w c.S t x ds ∧ lY w b off ds
 | .fn f l1 l2, cs => (∀ i ∈ l1, i < c.n) ∧ (∀ i ∈ l2, i < c.n) ∧ cs = [.func (.func f) (l1.map c.hd).toArray (l2.map c.hd).toArray]
 | .mp i, cs => i < c.n ∧ cs = [c.hd i] ∧ one (c.hd i)
 | .flat vs, cs => mE c w vs cs
 | .agg vs, cs => mE c w vs cs
 | .tup _, _ => False
def mE (c : Ctx) (w : World) : List AV → List Value → Prop
 | [], cs => cs = []
 | v :: r, cs => ∃ c1 c2, cs = c1 ++ c2 ∧ aM c w v c1 ∧ mE c w r c2
end
def xD (c : Ctx) (w : World) (v : AV) (x : Value) : Prop :=
 aM c w v x.cells.toList ∧ (v.isAgg = true → ∃ cs, x = .agg cs) ∧ (v.isAgg = false → ∀ cs, x ≠ .agg cs)
def aW (c : Ctx) (w : World) : AV → Value → Prop
 | .junk, _ => True
 | .undef, x => x = Go.undef
 | .tup b, x => ∃ xs : List Value, x = .tuple xs.toArray ∧ xs.length = b.length ∧ ∀ i (h : i < b.length) (h' : i < xs.length), xD c w b[i] xs[i]
 | v, x => xD c w v x
mutual
theorem aM.keep {c c' : Ctx} {w w' : World} (hc : c.le c') (h : aBi c.S w w') : ∀ (v : AV) (cs : List Value), aM c w v cs → aM c' w' v cs
 | .junk, _, _ => by simp [aM]
 | .undef, _, hr => by grind [aM]
 | .val t x, _, hr => by simp only [aM] at *; exact bB.keep hc.S h t x _ hr
 | .nilS, _, hr => by grind [aM]
 | .nilP, _, hr => by grind [aM]
 | .full t xs, _, hr => by
  simp only [aM] at *
  obtain ⟨a, n, hv, hr⟩ := hr
  exact ⟨a, n, hv, hr.keep hc.S h (fun x cs => bB.keep hc.S h t x cs)⟩
 | .own i, _, hr => by simp only [aM] at *; exact ⟨Nat.lt_of_lt_of_le hr.1 hc.n, by rw [hc.hd i hr.1]; grind⟩
 | .ptr i p, _, hr => by
  simp only [aM] at *
  obtain ⟨hi, b, hb, hv⟩ := hr
  exact ⟨Nat.lt_of_lt_of_le hi hc.n, b, by rw [hc.hd i hi]; exact hb, hv⟩
 | .sub i s off n, _, hr => by
  simp only [aM] at *
  obtain ⟨hi, hn, b, cap, hb, hv⟩ := hr
  exact ⟨Nat.lt_of_lt_of_le hi hc.n, hn, b, cap, by rw [hc.hd i hi]; exact hb, hv⟩
 | .roa t x, _, hr => by
  simp only [aM] at *
  obtain ⟨b, off, ds, hv, hb, hd, hcell⟩ := hr
  exact ⟨b, off, ds, hv, hc.S b hb, bB.keep hc.S h t x _ hd, aDT h hb hcell⟩
 | .fn f l1 l2, _, hr => by
  simp only [aM] at *
  obtain ⟨h1, h2, hv⟩ := hr
  refine ⟨fun i hi => Nat.lt_of_lt_of_le (h1 i hi) hc.n, fun i hi => Nat.lt_of_lt_of_le (h2 i hi) hc.n, ?_⟩
  rw [List.map_congr_left (fun i hi => hc.hd i (h1 i hi)), List.map_congr_left (fun i hi => hc.hd i (h2 i hi))]
  exact hv
 | .mp i, _, hr => by simp only [aM] at *; exact ⟨Nat.lt_of_lt_of_le hr.1 hc.n, by rw [hc.hd i hr.1]; grind⟩
 | .flat vs, _, hr => by simp only [aM] at *; exact mE.keep hc h vs _ hr
 | .agg vs, _, hr => by simp only [aM] at *; exact mE.keep hc h vs _ hr
 | .tup _, _, hr => by grind [aM]
theorem mE.keep {c c' : Ctx} {w w' : World} (hc : c.le c') (h : aBi c.S w w') : ∀ (vs : List AV) (cs : List Value), mE c w vs cs → mE c' w' vs cs
 | [], _, hr => by grind [mE]
 | v :: r, _, hr => by
  simp only [mE] at *
  obtain ⟨c1, c2, hcs, h1, h2⟩ := hr
  exact ⟨c1, c2, hcs, aM.keep hc h v _ h1, mE.keep hc h r _ h2⟩
end
theorem xD.keep {c c' : Ctx} {w w' : World} (hc : c.le c') (h : aBi c.S w w') {v : AV} {x : Value} (b : xD c w v x) : xD c' w' v x :=
 ⟨aM.keep hc h _ _ b.1, b.2⟩
theorem aW.keep {c c' : Ctx} {w w' : World} (hc : c.le c') (h : aBi c.S w w') {v : AV} {x : Value} (b : aW c w v x) : aW c' w' v x := by
 cases v <;> simp only [aW] at *
 case tup vs =>
  obtain ⟨j, f, r, hv⟩ := b
  exact ⟨j, f, r, fun i q g => (hv i q g).keep hc h⟩
 all_goals first | exact b | exact b.keep hc h
def aDt (c : Ctx) (w : World) (e : TypeId) (t : Ty) (xs : List t.den) (v : Value) : Prop :=
 ∃ b : List Value, w.ownsRow 0 e t.cells v xs.length b ∧ bB w c.S (.arr xs.length t) xs b
def bEk (n s : Nat) (e : TypeId) : Prop := s = n ∨ (s = 2 ∧ n = 4294967296 + e)
def aYx : Ty → Bool
 | .nilp => true
 | _ => false
def aRo : Ty → Bool
 | .sl _ => true
 | _ => false
def aU3 : Ty → Bool
 | .unit => true
 | _ => false
def aYy : Ty → Bool
 | .pair b u => aRo b && aU3 u
 | _ => false
def aRp : Ty → Bool
 | .pair a r => aYx a && aYy r
 | _ => false
def bxN (t : TypeId) (b : Ty) : Nat := bif aRp b then 4294967296 + t else b.cells
def aIP (b : Ty) : AV := bif aRp b then .agg [.nilP, .nilS] else bif aRo b then .nilS else .val b b.zero
theorem bBK {f : Ty} (h : aRo f = true) : ∃ b, f = .sl b := by
 unfold aRo at h
 grind
theorem aWE {g : Ty} (h : aRp g = true) : ∃ b, g = .pair .nilp (.pair (.sl b) .unit) := by
 unfold aRp at h
 split at h
 ·rename_i a r
  simp only [Bool.and_eq_true] at h
  obtain ⟨s, f⟩ := h
  unfold aYx at s
  split at s
  ·unfold aYy at f
   split at f
   ·rename_i b u
    simp only [Bool.and_eq_true] at f
    obtain ⟨j, q⟩ := f
    unfold aRo at j
    split at j
    ·unfold aU3 at q
     split at q
     all_goals simp_all
    grind
   grind
  grind
 grind
theorem bBL (t : TypeId) (f : Ty) : bEk (bxN t f) f.cells t := by
 unfold bxN
 cases h : aRp f with
 | false => exact .inl rfl
 | true =>
  obtain ⟨b, rfl⟩ := aWE h
  exact .inr ⟨rfl, rfl⟩
def hdB (v : Value) : List Nat := match aX v with
 | some b => [b]
 | none => []
def lH (w : World) (S : Nat → Prop) : (t : Ty) → Mk → t.den → List Value → List Nat → Prop
 | .sl t, .sl e m, f, b, B => ∃ (v : Value) (css : List (List Value)) (g : List (List Nat)), b = [v] ∧ w.ownsRow 0 e t.cells v f.length css.flatten ∧ css.length = f.length ∧ g.length = f.length ∧ B = hdB v ++ g.flatten ∧ ∀ i (h : i < f.length) (L : i < css.length) (J : i < g.length), lH w S t m f[i] css[i] g[i]
 | .pair a r, .pair z I, x, b, B => ∃ (c1 s : List Value) (j q : List Nat), b = c1 ++ s ∧ B = j ++ q ∧ lH w S a z x.1 c1 j ∧ lH w S r I x.2 s q
 | t, .no, x, b, B => bB w S t x b ∧ B = []
 | _, _, _, _, _ => False
structure aZE (c : Ctx) (w : World) (i : Nat) (e : TypeId) (m : Mk) (t : Ty) (xs : List t.den) (k : Nat) (v : AV) (css : List (List Value)) (Bs : List (List Nat)) : Prop where
 row : w.ownsRow 0 e t.cells (c.hd i) xs.length css.flatten
 lc : css.length = xs.length
 lb : Bs.length = xs.length
 kl : k < xs.length
 el : ∀ j (h : j < xs.length) (h1 : j < css.length) (h2 : j < Bs.length), j ≠ k → lH w c.S t m xs[j] css[j] Bs[j]
 hb : ∀ (h2 : k < Bs.length), Bs[k] = []
 hv : ∀ (h1 : k < css.length), aM c w v css[k] ∧ css[k].length = t.cells
 nd : (hdB (c.hd i) ++ Bs.flatten).Nodup
 bl : ∀ b ∈ hdB (c.hd i) ++ Bs.flatten, c.bl i b
def aG0 (c : Ctx) (w : World) (i : Nat) : Obj → Prop
 | .dead => True
 | .box n v => ∃ b cells e, c.hd i = .pointer (some ⟨b, 0, none⟩) ∧ w.heap[b]? = some (.cells cells e (0, 0)) ∧ bEk n cells.size e ∧ aM c w v cells.toList
 | .row e t f => aDt c w e t f (c.hd i)
 | .frz t f => bB w c.S (.sl t) f [c.hd i]
 | .map k v m => ∃ b g clock, c.hd i = .map (some b) ∧ w.heap[b]? = some (.map g clock) ∧ g.size = m.length ∧
   ∀ j (h : j < m.length) (h' : j < g.size), dE w c.S k m[j].1 g[j].key ∧ dE w c.S v m[j].2 g[j].val
 | .tre e m t f => ∃ B, lH w c.S (.sl t) (.sl e m) f [c.hd i] B ∧ B.Nodup ∧ ∀ b ∈ B, c.bl i b
 | .trh e m t f k v => ∃ css q, aZE c w i e m t f k v css q
def fI (c : Ctx) (i : Nat) : Obj → Nat → Prop
 | .dead, _ => False
 | .frz _ _, _ => False
 | .box _ _, b => aX (c.hd i) = some b
 | .row _ _ _, b => aX (c.hd i) = some b
 | .map _ _ _, b => aX (c.hd i) = some b
 | .tre _ _ _ _, b => c.bl i b
 | .trh _ _ _ _ _ _, b => c.bl i b
structure jC (M : Nat → Prop) (w0 w : World) : Prop where
 os : w.os = w0.os
 tape : w.tape = w0.tape
 output : w.output = w0.output
 size : w0.heap.size ≤ w.heap.size
 block : ∀ b, b < w0.heap.size → ¬ M b → w.heap[b]? = w0.heap[b]?
theorem jC.refl (M : Nat → Prop) (w : World) : jC M w w := ⟨rfl, rfl, rfl, Nat.le_refl _, fun _ _ _ => rfl⟩
theorem jC.trans {M : Nat → Prop} {a b c : World} (h : jC M a b) (k : jC M b c) : jC M a c :=
 ⟨k.os.trans h.os, k.tape.trans h.tape, k.output.trans h.output, Nat.le_trans h.size k.size, fun i hi f => (k.block i (Nat.lt_of_lt_of_le hi h.size) f).trans (h.block i hi f)⟩
theorem jC.below {w0 w : World} (h : jC (fun _ => False) w0 w) : Below w0.heap.size w0 w := ⟨h.os, h.tape, h.output, h.size, fun k b => h.block k b (fun f => f)⟩
structure Perm where
 wr : Nat → Prop
 rd : Nat → Prop
 m : Nat
 roots : Nat → Value
structure Good (M : Perm) (w0 : World) (c : Ctx) (h : List Obj) (w : World) : Prop where
 n : c.n = h.length
 keeps : jC M.wr w0 w
 sfin : ∀ b, c.S b → b < w.heap.size
 src : ∀ b, c.S b → b < w0.heap.size → M.rd b ∨ M.wr b
 objs : ∀ i o, h[i]? = some o → aG0 c w i o
 own : ∀ i o b, h[i]? = some o → fI c i o b → (w0.heap.size ≤ b ∨ M.wr b) ∧ b < w.heap.size ∧ ¬ c.S b
 sep : ∀ i j oi oj b, h[i]? = some oi → h[j]? = some oj → fI c i oi b → fI c j oj b → i = j
 root : M.m ≤ c.n ∧ ∀ i, i < M.m → c.hd i = M.roots i
theorem aBj {M : Perm} {c c' : Ctx} (h : M.m ≤ c.n ∧ ∀ i, i < M.m → c.hd i = M.roots i) (b : c.le c') : M.m ≤ c'.n ∧ ∀ i, i < M.m → c'.hd i = M.roots i :=
 ⟨Nat.le_trans h.1 b.n, fun i hi => (b.hd i (Nat.lt_of_lt_of_le hi h.1)).trans (h.2 i hi)⟩
structure dS (c : Ctx) (w : World) (c' : Ctx) (w' : World) : Prop where
 le : c.le c'
 same : aBi c.S w w'
theorem dS.refl (c : Ctx) (w : World) : dS c w c w := ⟨.refl _, .refl _ _⟩
theorem dS.trans {c1 q g : Ctx} {f j b : World} (h : dS c1 f q j) (k : dS q j g b) : dS c1 f g b :=
 ⟨h.le.trans k.le, h.same.trans (k.same.mono h.le.S)⟩
theorem dS.val {c c' : Ctx} {w w' : World} (h : dS c w c' w') {v : AV} {x : Value} (b : aW c w v x) : aW c' w' v x := b.keep h.le h.same
def look : List (Nat × AV) → Nat → AV
 | [], _ => .junk
 | (k, v) :: r, t => if k = t then v else look r t
def aIu (c : Ctx) (w : World) (env : List (Nat × AV)) (b : Array Value) : Prop := ∀ t, aW c w (look env t) (b.getD t Go.undef)
theorem aIu.keep {c c' : Ctx} {w w' : World} (h : dS c w c' w') {env : List (Nat × AV)} {b : Array Value} (f : aIu c w env b) : aIu c' w' env b :=
 fun t => h.val (f t)
theorem aIu.put {c : Ctx} {w : World} {env : List (Nat × AV)} {a : Act} {d : Nat} {v : AV} {x : Value} (b : aIu c w env a.tmps) (hd : d < a.tmps.size) (f : aW c w v x) :
  aIu c w ((d, v) :: env) (a.put (some d) x).tmps := by
 intro t
 simp only [look, Act.put]
 by_cases h : d = t
 ·simp_all
 ·rw [if_neg h]
  have := b t
  simp_all
def rowOf (h : List Obj) (i : Nat) (t : Ty) : Option (List t.den) :=
 match h[i]? with
 | some (.row _ f b) => if e : f = t then some (e ▸ b) else none
 | some (.frz f b) => if e : f = t then some (e ▸ b) else none
 | some (.tre _ _ f b) => if e : f = t then some (e ▸ b) else none
 | _ => none
end Go.Vc
namespace Go.Vc
open Go.RowKit
def lC (k : IntKind) : Nat := 2 ^ k.bits
def fits (k : IntKind) (x : Int) : Prop := k.min ≤ x ∧ x ≤ k.max
theorem aYz {k : IntKind} (b : k.signed = false) (n : Int) : k.wrap n = n % (lC k : Int) := by
 grind [IntKind.signed, IntKind.wrap, IntKind.bits, lC]
theorem aBk {k : IntKind} (b : k.signed = false) (n : Nat) : k.wrap (n : Int) = ((n % lC k : Nat) : Int) := by
 grind [aYz]
theorem aZF {k : IntKind} (b : k.signed = false) : k.max = (lC k : Int) - 1 := by
 grind [IntKind.signed, IntKind.max, IntKind.bits, lC]
theorem aEs (k : IntKind) : 0 < lC k := by grind [lC, Nat.two_pow_pos]
theorem bBM {k : IntKind} (b : k.signed = false) {n : Nat} (h : n < lC k) : (n : Int) ≤ k.max := by grind [aZF]
theorem aPs {k : IntKind} (b : k.signed = false) {n : Nat} (h : (n : Int) ≤ k.max) : n < lC k := by grind [aZF]
theorem aIQ {k : IntKind} (b : k.signed = true) {n : Int} (h : fits k n) : k.wrap n = n := by
 obtain ⟨g, f⟩ := h
 cases k <;> simp [IntKind.signed] at b <;> simp [IntKind.min, IntKind.max, IntKind.signed, IntKind.bits] at g f <;> simp [IntKind.wrap, IntKind.signed, IntKind.bits] <;> split <;> omega
theorem aGe {k : IntKind} (b : k.signed = true) (n : Int) : fits k (k.wrap n) := by
 cases k <;> simp [IntKind.signed] at b <;> simp [fits, IntKind.min, IntKind.max, IntKind.wrap, IntKind.signed, IntKind.bits] <;> split <;> omega
section
variable {w : World} {S : Nat → Prop} {c : Ctx}
theorem aKs {k : IntKind} (b : k.signed = false) {n : Nat} (h : n < lC k) : aW c w (.val (.u k) n) (.int k n) :=
 ⟨⟨rfl, b, bBM b h⟩, (fun h => by cases h), (fun _ f => by simp)⟩
theorem aCm {k : IntKind} (b : k.signed = true) {n : Int} (h : fits k n) : aW c w (.val (.i k) n) (.int k n) :=
 ⟨⟨rfl, b, h.1, h.2⟩, (fun h => by cases h), (fun _ f => by simp)⟩
theorem aEt (b : Bool) : aW c w (.val .bool b) (.bool b) := ⟨rfl, (fun h => by cases h), (fun _ f => by simp)⟩
theorem bEl {s : ByteArray} (h : s.size ≤ maxLen) : aW c w (.val .str (aV s)) (.string s) := ⟨⟨s, rfl, rfl, h⟩, (fun h => by cases h), (fun _ b => by simp)⟩
theorem aKG {k : IntKind} {n : Nat} {v : Value} (h : aW c w (.val (.u k) n) v) : v = .int k n ∧ k.signed = false ∧ n < lC k := by
 obtain ⟨⟨g, f, j⟩, _, b⟩ := h
 have b := b rfl
 cases v <;> simp [Value.cells] at g b
 obtain ⟨rfl, rfl⟩ := g
 exact ⟨rfl, f, aPs f j⟩
theorem aIR {k : IntKind} {n : Int} {v : Value} (h : aW c w (.val (.i k) n) v) : v = .int k n ∧ k.signed = true ∧ fits k n := by
 obtain ⟨⟨f, g, j⟩, _, b⟩ := h
 have b := b rfl
 cases v <;> simp [Value.cells] at f b
 obtain ⟨rfl, rfl⟩ := f
 exact ⟨rfl, g, j⟩
theorem aGf {b : Bool} {v : Value} (h : aW c w (.val .bool b) v) : v = .bool b := by
 obtain ⟨g, _, f⟩ := h
 have f := f rfl
 simp_all [aM, bB, Value.cells]
theorem aPt {x : List Nat} {v : Value} (h : aW c w (.val .str x) v) : ∃ s, v = .string s ∧ aV s = x ∧ s.size ≤ maxLen := by
 obtain ⟨⟨s, f, g⟩, _, b⟩ := h
 have b := b rfl
 cases v <;> simp [Value.cells] at f b
 simp_all
end
theorem aZG : ∃ f : IntKind → Nat → Nat → Nat, ∀ k a b, f k a b = (a + (lC k - b)) % lC k := ⟨_, fun _ _ _ => rfl⟩
noncomputable def aIv : IntKind → Nat → Nat → Nat := Classical.choose aZG
theorem aJ7 (k : IntKind) (a b : Nat) : aIv k a b = (a + (lC k - b)) % lC k := Classical.choose_spec aZG k a b
theorem aZH : ∃ f : IntKind → Nat → Nat → Nat, ∀ k a b, f k a b = (a * b) % lC k := ⟨_, fun _ _ _ => rfl⟩
noncomputable def aG1 : IntKind → Nat → Nat → Nat := Classical.choose aZH
theorem aU4 (k : IntKind) (a b : Nat) : aG1 k a b = (a * b) % lC k := Classical.choose_spec aZH k a b
theorem aZI : ∃ f : IntKind → Nat → Nat, ∀ k a, f k a = (0 + (lC k - a)) % lC k := ⟨_, fun _ _ => rfl⟩
noncomputable def aWF : IntKind → Nat → Nat := Classical.choose aZI
theorem aU5 (k : IntKind) (a : Nat) : aWF k a = (0 + (lC k - a)) % lC k := Classical.choose_spec aZI k a
noncomputable def aU6 (f : BinOp) (k : IntKind) (a b : Nat) : Prop × AV :=
 match f with
 | .add => (True, .val (.u k) ((a + b) % lC k))
 | .sub => (True, .val (.u k) (aIv k a b))
 | .mul => (True, .val (.u k) (aG1 k a b))
 | .quo => (b ≠ 0, .val (.u k) (a / b))
 | .rem => (b ≠ 0, .val (.u k) (a % b))
 | .and => (True, .val (.u k) (a &&& b))
 | .or => (True, .val (.u k) (a ||| b))
 | .xor => (True, .val (.u k) (a ^^^ b))
 | .andNot => (True, .val (.u k) (a &&& (lC k - 1 - b)))
 | .eql => (True, .val .bool (decide (a = b)))
 | .neq => (True, .val .bool (!decide (a = b)))
 | .lss => (True, .val .bool (decide (a < b)))
 | .leq => (True, .val .bool (decide (a ≤ b)))
 | .gtr => (True, .val .bool (decide (b < a)))
 | .geq => (True, .val .bool (decide (b ≤ a)))
 | _ => (False, .junk)
def bBN (f : BinOp) (k : IntKind) (a b : Int) : Prop × AV :=
 match f with
 | .add => (fits k (a + b), .val (.i k) (a + b))
 | .sub => (fits k (a - b), .val (.i k) (a - b))
 | .mul => (fits k (a * b), .val (.i k) (a * b))
 | .quo => (b ≠ 0 ∧ fits k (a.tdiv b), .val (.i k) (a.tdiv b))
 | .rem => (b ≠ 0, .val (.i k) (a.tmod b))
 | .and => (True, .val (.i k) (k.wrap ((BitVec.ofInt k.bits a &&& BitVec.ofInt k.bits b).toNat : Int)))
 | .or => (True, .val (.i k) (k.wrap ((BitVec.ofInt k.bits a ||| BitVec.ofInt k.bits b).toNat : Int)))
 | .xor => (True, .val (.i k) (k.wrap ((BitVec.ofInt k.bits a ^^^ BitVec.ofInt k.bits b).toNat : Int)))
 | .eql => (True, .val .bool (decide (a = b)))
 | .neq => (True, .val .bool (!decide (a = b)))
 | .lss => (True, .val .bool (decide (a < b)))
 | .leq => (True, .val .bool (decide (a ≤ b)))
 | .gtr => (True, .val .bool (decide (b < a)))
 | .geq => (True, .val .bool (decide (b ≤ a)))
 | _ => (False, .junk)
def aMi : List Nat → List Nat → Bool
 | _, [] => false
 | [], _ :: _ => true
 | a :: x, b :: y => decide (a < b) || (decide (a = b) && aMi x y)
def bBO (f : BinOp) (a b : List Nat) : Prop × AV :=
 match f with
 | .add => (a.length + b.length ≤ maxLen, .val .str (a ++ b))
 | .eql => (True, .val .bool (decide (a = b)))
 | .neq => (True, .val .bool (!decide (a = b)))
 | .lss => (True, .val .bool (aMi a b))
 | .leq => (True, .val .bool (aMi a b || decide (a = b)))
 | .gtr => (True, .val .bool (!(aMi a b || decide (a = b))))
 | .geq => (True, .val .bool (!aMi a b))
 | _ => (False, .junk)
def bEm (f : BinOp) (a b : Bool) : Prop × AV :=
 match f with
 | .eql => (True, .val .bool (a == b))
 | .neq => (True, .val .bool (a != b))
 | _ => (False, .junk)
def shU (b : BinOp) (k : IntKind) (a n : Nat) : Prop × AV :=
 match b with
 | .shl => (True, .val (.u k) ((a * 2 ^ n) % lC k))
 | .shr => (True, .val (.u k) (a / 2 ^ n))
 | _ => (False, .junk)
def shI (b : BinOp) (k : IntKind) (a : Int) (n : Nat) : Prop × AV :=
 match b with
 | .shl => (fits k (a * 2 ^ n), .val (.i k) (a * 2 ^ n))
 | .shr => (True, .val (.i k) (a.fdiv (2 ^ n)))
 | _ => (False, .junk)
section
variable {P : Program} {w : World} {c : Ctx}
theorem aAR {k : IntKind} {a : Nat} (b : a < lC k) : (BitVec.ofInt k.bits (a : Int)).toNat = a := by
 simp only [BitVec.ofInt_natCast, BitVec.toNat_ofNat]
 exact Nat.mod_eq_of_lt b
theorem aU7 (q : BinOp) (t : TypeId) {k : IntKind} {a b : Nat} (f : k.signed = false) (g : a < lC k) (hb : b < lC k) (h : (aU6 q k a b).1) :
  ∃ v, (binOp q t (.int k a) (.int k b)).run P w = .ok v w ∧ aW c w (aU6 q k a b).2 v := by
 have hp := aEs k
 cases q <;> simp only [aU6] at h ⊢
 case add => exact ⟨.int k (((a + b) % lC k : Nat) : Int), by simp only [binOp, Op.intArith, ne_eq, not_true_eq_false, if_false]; rw [← aBk f]; rfl, aKs f (Nat.mod_lt _ hp)⟩
 case sub =>
  rw [aJ7]
  refine ⟨_, by simp only [binOp, Op.intArith, ne_eq, not_true_eq_false, if_false]; rfl, ?_⟩
  rw [aYz f, show ((a : Int) - b) % (lC k : Int) = (((a + (lC k - b)) % lC k : Nat) : Int) from by
   rw [Int.natCast_emod, Int.natCast_add, Int.ofNat_sub (by omega), show (a : Int) + ((lC k : Int) - b) = (a - b) + lC k from by omega, Int.add_emod_right]]
  exact aKs f (Nat.mod_lt _ hp)
 case mul => rw [aU4]; exact ⟨.int k (((a * b) % lC k : Nat) : Int), by simp only [binOp, Op.intArith, ne_eq, not_true_eq_false, if_false]; rw [← aBk f, Int.natCast_mul]; rfl, aKs f (Nat.mod_lt _ hp)⟩
 case quo =>
  have j : ¬ (b : Int) = 0 := by omega
  refine ⟨.int k ((a / b : Nat) : Int), ?_, aKs f (Nat.lt_of_le_of_lt (Nat.div_le_self _ _) g)⟩
  have e : k.wrap ((a : Int).tdiv b) = ((a / b : Nat) : Int) := by
   rw [show (a : Int).tdiv b = ((a / b : Nat) : Int) from by rfl, aBk f, Nat.mod_eq_of_lt (Nat.lt_of_le_of_lt (Nat.div_le_self _ _) g)]
  simp only [binOp, Op.intDiv, j, e, ne_eq, not_true_eq_false, if_false]; rfl
 case rem =>
  have j : ¬ (b : Int) = 0 := by omega
  refine ⟨.int k ((a % b : Nat) : Int), ?_, aKs f (Nat.lt_of_le_of_lt (Nat.mod_le _ _) g)⟩
  have e : (a : Int).tmod b = ((a % b : Nat) : Int) := by rfl
  simp only [binOp, Op.intDiv, j, e, ne_eq, not_true_eq_false, if_false]; rfl
 case and =>
  have e : k.wrap ((BitVec.ofInt k.bits (a : Int) &&& BitVec.ofInt k.bits (b : Int)).toNat : Int) = ((a &&& b : Nat) : Int) := by
   rw [BitVec.toNat_and, aAR g, aAR hb, aBk f, Nat.mod_eq_of_lt (Nat.lt_of_le_of_lt Nat.and_le_left g)]
  exact ⟨_, by simp only [binOp, Op.intBits, ne_eq, not_true_eq_false, if_false, e]; rfl, aKs f (Nat.lt_of_le_of_lt Nat.and_le_left g)⟩
 case or =>
  have r : a ||| b < lC k := Nat.or_lt_two_pow g hb
  have e : k.wrap ((BitVec.ofInt k.bits (a : Int) ||| BitVec.ofInt k.bits (b : Int)).toNat : Int) = ((a ||| b : Nat) : Int) := by
   grind [BitVec.toNat_or, aAR, aBk, Nat.mod_eq_of_lt]
  exact ⟨_, by simp only [binOp, Op.intBits, ne_eq, not_true_eq_false, if_false, e]; rfl, aKs f r⟩
 case xor =>
  have r : a ^^^ b < lC k := Nat.xor_lt_two_pow g hb
  have e : k.wrap ((BitVec.ofInt k.bits (a : Int) ^^^ BitVec.ofInt k.bits (b : Int)).toNat : Int) = ((a ^^^ b : Nat) : Int) := by
   grind [BitVec.toNat_xor, aAR, aBk, Nat.mod_eq_of_lt]
  exact ⟨_, by simp only [binOp, Op.intBits, ne_eq, not_true_eq_false, if_false, e]; rfl, aKs f r⟩
 case andNot =>
  have e : k.wrap ((BitVec.ofInt k.bits (a : Int) &&& ~~~ BitVec.ofInt k.bits (b : Int)).toNat : Int) = ((a &&& (lC k - 1 - b) : Nat) : Int) := by
   rw [BitVec.toNat_and, BitVec.toNat_not, aAR g, aAR hb, aBk f]
   rw [Nat.mod_eq_of_lt (Nat.lt_of_le_of_lt Nat.and_le_left g)]
   rfl
  exact ⟨_, by simp only [binOp, Op.intBits, ne_eq, not_true_eq_false, if_false, e]; rfl, aKs f (Nat.lt_of_le_of_lt Nat.and_le_left g)⟩
 case eql => exact ⟨.bool (decide (a = b)), by simp [binOp, Op.intCmp]; grind, aEt _⟩
 case neq => exact ⟨.bool (!decide (a = b)), by simp [binOp, Op.intCmp]; grind, aEt _⟩
 case lss => exact ⟨.bool (decide (a < b)), by simp [binOp, Op.intCmp], aEt _⟩
 case leq => exact ⟨.bool (decide (a ≤ b)), by simp [binOp, Op.intCmp], aEt _⟩
 case gtr => exact ⟨.bool (decide (b < a)), by simp [binOp, Op.intCmp], aEt _⟩
 case geq => exact ⟨.bool (decide (b ≤ a)), by simp [binOp, Op.intCmp], aEt _⟩
theorem bEn (g : BinOp) (t : TypeId) {k : IntKind} {a b : Int} (f : k.signed = true) (q : fits k a) (hb : fits k b) (h : (bBN g k a b).1) :
  ∃ v, (binOp g t (.int k a) (.int k b)).run P w = .ok v w ∧ aW c w (bBN g k a b).2 v := by
 cases g <;> simp only [bBN] at h ⊢
 case add => exact ⟨_, by simp only [binOp, Op.intArith, ne_eq, not_true_eq_false, if_false, aIQ f h]; rfl, aCm f h⟩
 case sub => exact ⟨_, by simp only [binOp, Op.intArith, ne_eq, not_true_eq_false, if_false, aIQ f h]; rfl, aCm f h⟩
 case mul => exact ⟨_, by simp only [binOp, Op.intArith, ne_eq, not_true_eq_false, if_false, aIQ f h]; rfl, aCm f h⟩
 case quo => exact ⟨_, by simp only [binOp, Op.intDiv, ne_eq, not_true_eq_false, if_false, h.1, aIQ f h.2]; rfl, aCm f h.2⟩
 case rem =>
  refine ⟨_, by simp only [binOp, Op.intDiv, ne_eq, not_true_eq_false, if_false, h]; rfl, aCm f ?_⟩
  obtain ⟨s, r⟩ := q
  have z : ((a.tmod b).natAbs) ≤ a.natAbs := by rw [Int.natAbs_tmod]; exact Nat.mod_le _ _
  have hs : 0 ≤ a → 0 ≤ a.tmod b := fun h => Int.tmod_nonneg _ h
  have j : a ≤ 0 → a.tmod b ≤ 0 := fun h => by
   have := Int.tmod_nonneg b (show 0 ≤ -a by omega)
   simp_all
  have hm : k.min ≤ 0 ∧ 0 ≤ k.max := by cases k <;> simp [IntKind.min, IntKind.max, IntKind.signed, IntKind.bits]
  constructor <;> omega
 case and => exact ⟨_, by simp only [binOp, Op.intBits, ne_eq, not_true_eq_false, if_false]; rfl, aCm f (aGe f _)⟩
 case or => exact ⟨_, by simp only [binOp, Op.intBits, ne_eq, not_true_eq_false, if_false]; rfl, aCm f (aGe f _)⟩
 case xor => exact ⟨_, by simp only [binOp, Op.intBits, ne_eq, not_true_eq_false, if_false]; rfl, aCm f (aGe f _)⟩
 case eql => exact ⟨.bool (decide (a = b)), by simp [binOp, Op.intCmp]; rfl, aEt _⟩
 case neq => exact ⟨.bool (!decide (a = b)), by simp [binOp, Op.intCmp]; rfl, aEt _⟩
 case lss => exact ⟨.bool (decide (a < b)), by simp [binOp, Op.intCmp], aEt _⟩
 case leq => exact ⟨.bool (decide (a ≤ b)), by simp [binOp, Op.intCmp], aEt _⟩
 case gtr => exact ⟨.bool (decide (b < a)), by simp [binOp, Op.intCmp], aEt _⟩
 case geq => exact ⟨.bool (decide (b ≤ a)), by simp [binOp, Op.intCmp], aEt _⟩
theorem aYA (b : BinOp) (t : TypeId) {k k' : IntKind} {a n : Nat} (g : k.signed = false) (f : a < lC k) (h : (shU b k a n).1) :
  ∃ v, (binOp b t (.int k a) (.int k' n)).run P w = .ok v w ∧ aW c w (shU b k a n).2 v := by
 cases b <;> simp only [shU] at h ⊢
 case shl =>
  refine ⟨_, by simp only [binOp, Op.shift, show ¬ ((n : Int) < 0) from by omega, if_false]; rfl, ?_⟩
  have e : k.wrap ((a : Int) * 2 ^ min (n : Int).toNat k.bits) = (((a * 2 ^ n) % lC k : Nat) : Int) := by
   rw [show ((a : Int) * 2 ^ min (n : Int).toNat k.bits) = ((a * 2 ^ min n k.bits : Nat) : Int) from by simp, aBk g]
   congr 1
   by_cases j : n ≤ k.bits
   ·simp_all
   ·rw [Nat.min_eq_right (by omega)]
    have e1 : a * 2 ^ n = a * 2 ^ (n - k.bits) * lC k := by
     rw [lC, Nat.mul_assoc, ← Nat.pow_add]; grind
    rw [e1, show a * 2 ^ k.bits = a * lC k from rfl, Nat.mul_mod_left, Nat.mul_mod_left]
  rw [e]
  exact aKs g (Nat.mod_lt _ (aEs k))
 case shr =>
  refine ⟨_, by simp only [binOp, Op.shift, show ¬ ((n : Int) < 0) from by omega, if_false]; rfl, ?_⟩
  have e : (a : Int).fdiv (2 ^ min (n : Int).toNat k.bits) = ((a / 2 ^ n : Nat) : Int) := by
   rw [Int.fdiv_eq_ediv_of_nonneg _ (by grind), show ((2 : Int) ^ min (n : Int).toNat k.bits) = ((2 ^ min n k.bits : Nat) : Int) from by simp, ← Int.natCast_ediv]
   congr 1
   by_cases j : n ≤ k.bits
   ·simp_all
   ·rw [Nat.min_eq_right (by omega), Nat.div_eq_of_lt (show a < 2 ^ k.bits from f), Nat.div_eq_of_lt (Nat.lt_of_lt_of_le f (Nat.pow_le_pow_right (by omega) (by omega)))]
  rw [e]
  exact aKs g (Nat.lt_of_le_of_lt (Nat.div_le_self _ _) f)
theorem aYB (g : BinOp) (t : TypeId) {k k' : IntKind} {a : Int} {n : Nat} (j : k.signed = true) (s : fits k a) (I : g = .shl → n ≤ k.bits) (h : (shI g k a n).1) :
  ∃ v, (binOp g t (.int k a) (.int k' n)).run P w = .ok v w ∧ aW c w (shI g k a n).2 v := by
 cases g <;> simp only [shI] at h ⊢
 case shl =>
  refine ⟨_, by simp only [binOp, Op.shift, show ¬ ((n : Int) < 0) from by omega, if_false]; rfl, ?_⟩
  rw [show min (n : Int).toNat k.bits = n from by simp_all, aIQ j h]
  exact aCm j h
 case shr =>
  refine ⟨_, by simp only [binOp, Op.shift, show ¬ ((n : Int) < 0) from by omega, if_false]; rfl, ?_⟩
  have hb : -(2 ^ k.bits : Int) ≤ a ∧ a < 2 ^ k.bits := by
   obtain ⟨z, r⟩ := s
   cases k <;> simp [IntKind.signed] at j <;> simp [IntKind.min, IntKind.max, IntKind.signed, IntKind.bits] at z r ⊢ <;> omega
  have f : ∀ m : Nat, (0 : Int) < 2 ^ m := fun m => Int.pow_pos (by omega)
  have e : a.fdiv (2 ^ min (n : Int).toNat k.bits) = a.fdiv (2 ^ n) := by
   by_cases I : n ≤ k.bits
   ·simp_all
   ·rw [show min (n : Int).toNat k.bits = k.bits from by omega]
    have J : (2 : Int) ^ k.bits ≤ 2 ^ n := by
     have := Nat.pow_le_pow_right (n := 2) (by omega) (show k.bits ≤ n by omega)
     grind
    rw [Int.fdiv_eq_ediv_of_nonneg _ (Int.le_of_lt (f _)), Int.fdiv_eq_ediv_of_nonneg _ (Int.le_of_lt (f _))]
    by_cases h0 : 0 ≤ a
    ·rw [Int.ediv_eq_zero_of_lt h0 hb.2, Int.ediv_eq_zero_of_lt h0 (by omega)]
    ·have L : a / (2 ^ k.bits : Int) = -1 := by
      grind [Int.ediv_eq_neg_one_of_neg_of_le]
     have N : a / (2 ^ n : Int) = -1 := Int.ediv_eq_neg_one_of_neg_of_le (by omega) (by omega)
     omega
  rw [e]
  refine aCm j ?_
  obtain ⟨z, r⟩ := s
  rw [Int.fdiv_eq_ediv_of_nonneg _ (Int.le_of_lt (f _))]
  have hm : k.min ≤ 0 ∧ 0 ≤ k.max := by cases k <;> simp [IntKind.min, IntKind.max, IntKind.signed, IntKind.bits]
  have q : (1 : Int) ≤ 2 ^ n := by grind
  constructor
  ·by_cases h0 : 0 ≤ a
   ·have := Int.ediv_nonneg h0 (Int.le_of_lt (f n)); omega
   ·have : a ≤ a / 2 ^ n := by
     rw [Int.le_ediv_iff_mul_le (f n)]
     have := Int.mul_le_mul_of_nonpos_left (a := a) (b := 2 ^ n) (c := 1) (by omega) q
     omega
    omega
  ·by_cases h0 : 0 ≤ a
   ·have := Int.ediv_le_self (2 ^ n) h0; omega
   ·have := Int.ediv_neg_of_neg_of_pos (show a < 0 by omega) (f n); omega
end
end Go.Vc
namespace Go.Vc
open Go.RowKit
def Tab := TypeId → Option Ty
def dW (T : Tab) : List Field → Nat → Ty → Bool
 | [], _, .unit => true
 | f :: fs, off, .pair a r => decide (T f.type = some a) && decide (f.offset = off) && decide (f.name ≠ "_") && decide (0 < a.cells) && dW T fs (off + a.cells) r
 | _, _, _ => false
def aZJ (T : Tab) : List Field → Bool
 | [b, f, g] => decide (T b.type = some (.i .i64)) && decide (b.offset = 0) && decide (T f.type = some .str) && decide (f.offset = 1) && decide (T g.type = some (.sl .expr)) && decide (g.offset = 2)
 | _ => false
def iV (T : Tab) (d : TypeDesc) (c : Ty) : Bool :=
 match c, d with
 | .bool, .bool => true
 | .u k, .int g => decide (k = g) && !k.signed
 | .i k, .int g => decide (k = g) && k.signed
 | .str, .string => true
 | .sl c, .slice e => decide (T e = some c) && decide (0 < c.cells)
 | .unit, .struct f => dW T f.toList 0 .unit
 | .pair a b, .struct f => dW T f.toList 0 (.pair a b)
 | .arr n c, .array j e => decide (n = j) && decide (T e = some c) && decide (0 < c.cells) && decide (1 < n ∧ n ≤ 1048576)
 | .expr, .struct f => aZJ T f.toList
 | .rp c, .pointer e => decide (T e = some c)
 | .clo _ _, .func _ _ _ => true
 | .nili, .interface _ => true
 | .nilp, .pointer _ => true
 | .nilf, .func _ _ _ => true
 | _, _ => false
def cV : Ty → List Value
 | .bool => [.bool false]
 | .u k => [.int k 0]
 | .i k => [.int k 0]
 | .str => [.string ⟨#[]⟩]
 | .sl _ => [.slice none 0 0]
 | .unit => []
 | .pair a b => cV a ++ cV b
 | .arr n t => (List.replicate n (cV t)).flatten
 | .expr => [.int .i64 0, .string ⟨#[]⟩, .slice none 0 0]
 | .rp _ => [.pointer none]
 | .clo _ _ => [.nilFunc]
 | .ifc _ _ => [.nilIface]
 | .nili => [.nilIface]
 | .nilp => [.pointer none]
 | .nilf => [.nilFunc]
def Ty.okB : Ty → Bool
 | .u k => !k.signed
 | .i k => k.signed
 | .sl t => t.okB
 | .pair a b => a.okB && b.okB
 | .arr _ t => t.okB
 | .rp _ => false
 | .clo _ _ => false
 | .ifc _ _ => false
 | .nili => false
 | _ => true
def nN (c : Ty) : Value := if c.isAgg then .agg (cV c).toArray else (cV c).headD Go.undef
def bEo : Value → Value → Bool
 | .bool a, .bool b => a == b
 | .int k a, .int f b => decide (k = f) && decide (a = b)
 | .string a, .string b => decide (a.data.toList = b.data.toList)
 | .slice none 0 0, .slice none 0 0 => true
 | .pointer none, .pointer none => true
 | .nilFunc, .nilFunc => true
 | _, _ => false
def bAS : List Value → List Value → Bool
 | [], [] => true
 | a :: r, b :: s => bEo a b && bAS r s
 | _, _ => false
def veq : Value → Value → Bool
 | .agg f, .agg g => bAS f.toList g.toList
 | a, b => bEo a b
theorem aZK {a b : Value} (h : bEo a b = true) : a = b := by
 unfold bEo at h
 split at h <;> simp at h
 ·rw [h]
 ·simp_all
 ·rename_i x y; obtain ⟨⟨x⟩⟩ := x; simp_all
 all_goals rfl
theorem aZL : ∀ {a b : List Value}, bAS a b = true → a = b
 | [], [], _ => rfl
 | [], _ :: _, h => by simp [bAS] at h
 | _ :: _, [], h => by simp [bAS] at h
 | a :: r, b :: s, h => by simp only [bAS, Bool.and_eq_true] at h; rw [aZK h.1, aZL h.2]
theorem bGm {a b : Value} (h : veq a b = true) : a = b := by
 unfold veq at h
 split at h
 ·rename_i x y; have := aZL h; simp_all
 ·exact aZK h
def Ty.byt : Ty → Nat
 | .bool => 1
 | .u k => k.bits / 8
 | .i k => k.bits / 8
 | .str => 16
 | .sl _ => 24
 | c => 24 * c.cells + 1
def tyB (P : Program) (T : Tab) (t : TypeId) (c : Ty) : Bool :=
 match P.info? t, P.underlying t with
 | some i, some d => decide (i.size = c.cells) && (!c.okB || (match i.zero with | some z => veq z (nN c) | none => false)) && decide (i.bytes ≤ c.byt ∧ (c = .u .u8 → i.bytes = 1)) && iV T d c && !P.stoodInHeld t && (!c.isAgg || !P.eqGuardType P.depth t)
 | _, _ => false
def aKH : List (TypeId × Ty) → Tab
 | [], _ => none
 | (k, v) :: r, t => if k = t then some v else aKH r t
def bHK (P : Program) (l : List (TypeId × Ty)) : Bool := l.all fun p => tyB P (aKH l) p.1 p.2
structure aDU (P : Program) (T : Tab) (t : TypeId) (c : Ty) : Prop where
 info : ∃ i, P.info? t = some i ∧ i.size = c.cells ∧ (c.okB = true → i.zero = some (nN c)) ∧ i.bytes ≤ c.byt
 desc : ∃ d, P.underlying t = some d ∧ iV T d c = true
 held : P.stoodInHeld t = false
 guard : c.isAgg = true → P.eqGuardType P.depth t = false
 byte : c = .u .u8 → ∀ i, P.info? t = some i → i.bytes = 1
def lP (P : Program) (T : Tab) : Prop := ∀ t c, T t = some c → aDU P T t c
theorem bEp {P : Program} {T : Tab} {t : TypeId} {c : Ty} (h : tyB P T t c = true) : aDU P T t c := by
 unfold tyB at h
 split at h
 ·rename_i i d hi hd
  simp only [Bool.and_eq_true, decide_eq_true_eq, Bool.not_eq_true'] at h
  obtain ⟨⟨⟨⟨⟨r, f⟩, g⟩, j⟩, q⟩, z⟩ := h
  refine ⟨⟨i, hi, r, fun b => ?_, g.1⟩, ⟨d, hd, j⟩, q, fun J => by simp_all, fun e I s => by simp_all⟩
  rw [b] at f
  simp only [Bool.not_true, Bool.false_or] at f
  grind [bGm]
 grind
theorem aUh {l : List (TypeId × Ty)} {t : TypeId} {c : Ty} (h : aKH l t = some c) : (t, c) ∈ l := by
 induction l with
 | nil => cases h
 | cons p r b =>
  grind [aKH]
theorem bBP {P : Program} {l : List (TypeId × Ty)} (h : bHK P l = true) : lP P (aKH l) := fun t c hc => by
 have := List.all_eq_true.1 h _ (aUh hc)
 exact bEp this
section
variable {P : Program} {T : Tab}
theorem aDU.agg {t : TypeId} {c : Ty} (h : aDU P T t c) : (match P.underlying t with | some (.struct _) | some (.array _ _) => true | _ => false) = c.isAgg := by
 obtain ⟨d, hd, hb⟩ := h.desc
 rw [hd]
 cases c <;> cases d <;> simp_all [iV, Ty.isAgg]
theorem aGg {t : TypeId} {c : Ty} (h : aDU P T t c) (w : World) : (isAgg t).run P w = .ok c.isAgg w := by
 have b := h.agg
 obtain ⟨d, hd, hb⟩ := h.desc
 rw [hd] at b
 rw [← b]
 simp [isAgg, underlying, hd]
 split <;> simp_all
theorem fK {t : TypeId} {c : Ty} (h : aDU P T t c) (w : World) : (sizeOf t).run P w = .ok c.cells w := by
 obtain ⟨i, hi, hs, _, _⟩ := h.info
 simp [sizeOf, typeInfo, hi, hs]
theorem bA {t : TypeId} {d : TypeDesc} (h : P.underlying t = some d) (w : World) : (underlying t).run P w = .ok d w := by
 simp [underlying, h]
theorem tL {t : TypeId} {c : Ty} (h : aDU P T t c) (b : c.okB = true) (w : World) : (zeroValue t).run P w = .ok (nN c) w := by
 obtain ⟨i, hi, _, f, _⟩ := h.info
 simp [zeroValue, typeInfo, hi, f b]
end
theorem gG (w : World) (S : Nat → Prop) : ∀ c : Ty, c.okB = true → bB w S c c.zero (cV c)
 | .bool, _ => rfl
 | .nilp, _ => rfl
 | .nilf, _ => rfl
 | .u k, h => ⟨rfl, by grind [Ty.okB], by rw [aZF (by grind [Ty.okB])]; have := aEs k; show ((0 : Nat) : Int) ≤ _; omega⟩
 | .i k, h => ⟨rfl, by grind [Ty.okB], by cases k <;> simp [IntKind.min, IntKind.max, IntKind.signed, IntKind.bits, Ty.zero]⟩
 | .str, _ => ⟨⟨#[]⟩, rfl, rfl, Nat.zero_le _⟩
 | .sl t, _ => ⟨none, 0, 0, rfl, rfl, Nat.le_refl _, by omega, .inl rfl⟩
 | .unit, _ => rfl
 | .pair a b, h => by
  simp only [Ty.okB, Bool.and_eq_true] at h
  exact ⟨cV a, cV b, rfl, gG w S a h.1, gG w S b h.2⟩
 | .arr n t, h => by
  refine ⟨by simp [Ty.zero], List.replicate n (cV t), rfl, by simp [Ty.zero], fun i g f => ?_⟩
  simp only [Ty.zero, List.getElem_replicate]
  exact gG w S t (by grind [Ty.okB])
 | .expr, _ => RepEx.mk 0 ⟨#[]⟩ [] none 0 0 (fun _ => []) (by simp [IntKind.min, IntKind.max, IntKind.signed, IntKind.bits]) (Nat.zero_le _) rfl (Nat.le_refl _) (Nat.zero_le _) (fun i h => by cases h) (.inl rfl)
theorem aIS (w : World) (S : Nat → Prop) (c : Ty) (h : c.okB = true) : dE w S c c.zero (nN c) := by
 have b := gG w S c h
 unfold dE nN
 split
 ·simp_all
 ·have f := bB.length _ _ _ b
  cases c <;> simp_all [Ty.isAgg, cV]
theorem aW.toV {c : Ctx} {w : World} {t : Ty} {x : t.den} {v : Value} (h : aW c w (.val t x) v) : dE w c.S t x v := by
 obtain ⟨g, b, f⟩ := h
 exact dE.of_cells b f g
theorem aW.ofV {c : Ctx} {w : World} {t : Ty} {x : t.den} {v : Value} (h : dE w c.S t x v) : aW c w (.val t x) v := by
 refine ⟨h.cells, ?_, ?_⟩
 ·intro b; unfold dE at h; rw [if_pos (show t.isAgg = true from b)] at h; grind
 ·intro b f hv
  unfold dE at h
  rw [if_neg (by simpa using (show t.isAgg = false from b))] at h
  have := bB.one t x _ h v (by simp)
  subst hv; exact this
theorem aYC {cs : Array Value} {pre ds post : List Value} (h : cs.toList = pre ++ ds ++ post) : (cs.extract pre.length (pre.length + ds.length)).toList = ds := by
 simp_all
theorem aIT {cs : Array Value} {pre ds post : List Value} (h : cs.toList = pre ++ ds ++ post) (j : Nat) {v : Value} (b : ds[j]? = some v) : cs[pre.length + j]? = some v := by
 rw [← Array.getElem?_toList, h, List.append_assoc, List.getElem?_append_right (by omega)]
 grind
section
variable {P : Program} {T : Tab}
theorem aEu {t : TypeId} {c : Ty} (f : aDU P T t c) {cs : Array Value} {pre ds post : List Value} (b : cs.toList = pre ++ ds ++ post) {w : World} {S : Nat → Prop} {x : c.den} (hd : bB w S c x ds) (w' : World) :
  ∃ v, (part t cs pre.length).run P w' = .ok v w' ∧ dE w S c x v := by
 have q := bB.length _ _ _ hd
 by_cases g : c.isAgg = true
 ·refine ⟨.agg (cs.extract pre.length (pre.length + c.cells)), ?_, ?_⟩
  ·simp [part, aGg f, g, fK f, Result.andThen]
  ·unfold dE
   simp_all
 ·have j : c.cells = 1 := by cases c <;> simp_all [Ty.isAgg, Ty.cells]
  obtain ⟨v, rfl⟩ : ∃ v, ds = [v] := by
   match ds, q.trans j with
   | [v], _ => simp_all
  refine ⟨v, ?_, ?_⟩
  ·have := aIT b 0 (v := v) rfl
   simp only [Nat.add_zero] at this
   simp [part, aGg f, g, this, Result.andThen]
  simp_all [dE, if_neg]
def Ty.cmpB : Ty → Bool
 | .bool => true
 | .u _ => true
 | .i _ => true
 | .str => true
 | .unit => true
 | .pair a b => a.cmpB && b.cmpB
 | .arr _ t => t.cmpB
 | _ => false
def Ty.eqb : (t : Ty) → t.den → t.den → Bool
 | .bool, x, y => x == y
 | .u _, x, y => decide (x = y)
 | .i _, x, y => decide (x = y)
 | .str, x, y => decide (x = y)
 | .unit, _, _ => true
 | .pair a b, x, y => a.eqb x.1 y.1 && b.eqb x.2 y.2
 | .arr _ t, x, y => (List.zipWith t.eqb x y).all id
 | _, _, _ => false
def Ty.deep : Ty → Nat
 | .pair a b => max (a.deep + 1) b.deep
 | .arr _ t => t.deep + 1
 | _ => 0
theorem aRq {a b : ByteArray} (h : aV a = aV b) : a = b := by
 obtain ⟨⟨a⟩⟩ := a
 simp_all [aV, Function.Injective, UInt8.toNat_inj, List.map_inj_right]
theorem bGn (a b : ByteArray) : (a.toList == b.toList) = decide (aV a = aV b) := by
 rw [Bool.eq_iff_iff, ByteArray.toList_eq, ByteArray.toList_eq]
 simp only [beq_iff_eq, decide_eq_true_eq]
 grind [aV, aRq]
theorem aMj (Z : lP P T) (d : Nat) {w : World} {S : Nat → Prop} (ih : ∀ (t : TypeId) (c : Ty) (x y : c.den) (v u : Value) (w' : World), T t = some c → c.cmpB = true → c.deep ≤ d → dE w S c x v → dE w S c y u → (Op.equalIn (d + 1) t v u).run P w' = .ok (c.eqb x y) w')
  {xs ys : Array Value} : ∀ (U : List Field) (off : Nat) (c : Ty) (x y : c.den) (pre ds j q post g : List Value) (w' : World), dW T U off c = true → c.cmpB = true → c.deep ≤ d + 1 →
   xs.toList = pre ++ ds ++ post → pre.length = off → bB w S c x ds → ys.toList = j ++ q ++ g → j.length = off → bB w S c y q →
   (Op.eqFields (d + 1) xs ys U).run P w' = .ok (c.eqb x y) w'
 | [], off, c, x, y, pre, ds, j, q, post, g, w', I, hc, O, hx, hp, L, hy, J, z => by
  cases c <;> simp [dW] at I
  rfl
 | f :: U, off, c, x, y, pre, ds, j, q, post, g, w', I, hc, O, hx, hp, L, hy, J, z => by
  cases c <;> simp only [dW, Bool.false_eq_true] at I
  case pair a b =>
   simp only [Bool.and_eq_true, decide_eq_true_eq] at I
   obtain ⟨⟨⟨⟨Y, h2⟩, h3⟩, h4⟩, h5⟩ := I
   simp only [Ty.cmpB, Bool.and_eq_true] at hc
   simp only [Ty.deep] at O
   obtain ⟨c1, c2, rfl, r1, r2⟩ := L
   obtain ⟨s, r, rfl, N, W⟩ := z
   subst h2
   have hl := bB.length _ _ _ r1
   have hl' := bB.length _ _ _ N
   obtain ⟨va, e1, q1⟩ := aEu (Z _ _ Y) (cs := xs) (pre := pre) (ds := c1) (post := c2 ++ post) (by simp_all) r1 w'
   obtain ⟨vb, e2, q2⟩ := aEu (Z _ _ Y) (cs := ys) (pre := j) (ds := s) (post := r ++ g) (by simp_all) N w'
   have e3 := ih f.type a x.1 y.1 va vb w' Y hc.1 (by omega) q1 q2
   rw [hp] at e1
   rw [J] at e2
   have rec_ := aMj Z d ih (xs := xs) (ys := ys) U (f.offset + a.cells) b x.2 y.2 (pre ++ c1) c2 (j ++ s) r post g w' h5 hc.2 (by omega) (by simp_all) (by simp_all) r2 (by simp_all) (by simp_all) W
   simp only [Op.eqFields, Sem.run_ite, Sem.run_bind, h3, ne_eq, not_false_eq_true, if_true, e1, e2, e3, Result.andThen_ok]
   cases hq : a.eqb x.1 y.1
   all_goals simp_all [Ty.eqb]
def aMk (d : Nat) (e : TypeId) (n : Nat) (xs ys : Array Value) : List Nat → Sem Bool
 | [] => pure true
 | i :: r => do
  let a ← part e xs (i * n)
  let b ← part e ys (i * n)
  let q ← Op.equalIn d e a b
  if (!q) = true then pure false else aMk d e n xs ys r
theorem run_equalIn_array (d : Nat) (t e : TypeId) (len n : Nat) (xs ys : Array Value) (w : World) (ht : P.underlying t = some (.array len e)) (f : (sizeOf e).run P w = .ok n w) :
  (Op.equalIn (d + 1) t (.agg xs) (.agg ys)).run P w = (aMk d e n xs ys (List.range' 0 len)).run P w := by
 simp only [Op.equalIn, Sem.run_bind, bA ht, Result.andThen_ok, f]
 simp only [Std.Legacy.Range.forIn_eq_forIn_range', Std.Legacy.Range.size]
 simp only [Nat.sub_zero, Nat.add_sub_cancel, Nat.div_one]
 generalize List.range' 0 len = J
 clear ht f
 induction J generalizing w with
 | nil => rfl
 | cons i r L =>
  simp only [List.forIn_cons, aMk, Sem.run_bind]
  generalize (part e xs (i * n)).run P w = r1
  cases r1 with
  | ok a g =>
   simp only [Result.andThen_ok]
   generalize (part e ys (i * n)).run P g = z
   cases z with
   | ok b j =>
    simp only [Result.andThen_ok]
    generalize (Op.equalIn d e a b).run P j = I
    cases I with
    | ok q s =>
     simp_all
    | halt x s => rfl
   | halt x j => rfl
  | halt x g => rfl
theorem pB {t : Ty} {css : List (List Value)} (b : ∀ i (h : i < css.length), (css[i]).length = t.cells) : ∀ (i : Nat) (h : i < css.length), ∃ pre post, css.flatten = pre ++ css[i] ++ post ∧ pre.length = i * t.cells
 | 0, h => by
  cases css with
  | nil => simp at h
  | cons c r => simp_all
 | i + 1, h => by
  cases css with
  | nil => simp at h
  | cons c r =>
   obtain ⟨pre, post, f, g⟩ := pB (t := t) (css := r) (fun j q => by have := b (j + 1) (by simp_all); simp_all) i (by simp_all)
   refine ⟨c ++ pre, post, by simp [f], ?_⟩
   have h0 := b 0 (by simp)
   grind
theorem aPu (L : lP P T) (d : Nat) {w : World} {S : Nat → Prop} {e : TypeId} {t : Ty} (s : T e = some t)
  (W : ∀ (x y : t.den) (v u : Value) (w' : World), dE w S t x v → dE w S t y u → (Op.equalIn d e v u).run P w' = .ok (t.eqb x y) w')
  {xs ys : Array Value} : ∀ (k i : Nat) (X Y : List t.den) (pre f : List Value) (css b : List (List Value)) (w' : World),
   X.length = k → Y.length = k → css.length = k → b.length = k → (∀ j (h : j < X.length) (h' : j < css.length), bB w S t X[j] css[j]) → (∀ j (h : j < Y.length) (h' : j < b.length), bB w S t Y[j] b[j]) →
   xs.toList = pre ++ css.flatten → ys.toList = f ++ b.flatten → pre.length = i * t.cells → f.length = i * t.cells →
   (aMk d e t.cells xs ys (List.range' i k)).run P w' = .ok ((List.zipWith t.eqb X Y).all id) w'
 | 0, i, X, Y, _, _, _, _, w', hX, J, _, _, _, _, _, _, _, _ => by
  obtain rfl := List.eq_nil_of_length_eq_zero hX
  rfl
 | k + 1, i, X, Y, pre, f, css, b, w', hX, J, hc, q, O, r, hx, hy, hp, z => by
  match X, Y, css, b, hX, J, hc, q with
  | x :: X, y :: Y, c :: cs, c' :: cs', hX, J, hc, q =>
   have I := O 0 (by simp) (by simp)
   have g := r 0 (by simp) (by simp)
   simp only [List.getElem_cons_zero] at I g
   obtain ⟨Z, e1, q1⟩ := aEu (L _ _ s) (cs := xs) (pre := pre) (ds := c) (post := cs.flatten) (by simp_all) I w'
   obtain ⟨vb, N, q2⟩ := aEu (L _ _ s) (cs := ys) (pre := f) (ds := c') (post := cs'.flatten) (by simp_all) g w'
   rw [hp] at e1
   rw [z] at N
   have l1 := bB.length _ _ _ I
   have l2 := bB.length _ _ _ g
   have e3 := W x y Z vb w' q1 q2
   have U := aPu L d s W (xs := xs) (ys := ys) k (i + 1) X Y (pre ++ c) (f ++ c') cs cs' w' (by simp_all) (by simp_all) (by simp_all) (by simp_all)
    (fun j h h' => by have := O (j + 1) (by simp_all) (by simp_all); simp_all) (fun j h h' => by have := r (j + 1) (by simp_all) (by simp_all); simp_all)
    (by simp_all) (by simp_all) (by grind) (by grind)
   simp only [List.range'_succ, aMk, Sem.run_bind, e1, N, e3, Result.andThen_ok, Sem.run_ite]
   cases hq : t.eqb x y
   all_goals simp_all
theorem aRr (I : lP P T) {w : World} {S : Nat → Prop} : ∀ (d : Nat) (t : TypeId) (c : Ty) (x y : c.den) (v u : Value) (w' : World), T t = some c → c.cmpB = true → c.deep ≤ d →
  dE w S c x v → dE w S c y u → (Op.equalIn (d + 1) t v u).run P w' = .ok (c.eqb x y) w' := by
 intro d
 induction d with
 | zero =>
  intro t c x y v u w' ht hc hd g j
  obtain ⟨ds, q, hb⟩ := (I t c ht).desc
  cases c <;> simp only [Ty.cmpB, Bool.false_eq_true] at hc <;> (try (simp only [Ty.deep] at hd; omega))
  case bool => simp only [dE, Ty.isAgg, bB, Bool.false_eq_true, if_false] at g j; cases ds <;> simp [iV] at hb; simp at g j; subst g; subst j; simp [Op.equalIn, bA q, Ty.eqb]
  case u k => simp only [dE, Ty.isAgg, bB, Bool.false_eq_true, if_false] at g j; cases ds <;> simp [iV] at hb; obtain ⟨g, _⟩ := g; obtain ⟨j, _⟩ := j; simp at g j; subst g; subst j; simp [Op.equalIn, bA q, Ty.eqb]; grind
  case i k => simp only [dE, Ty.isAgg, bB, Bool.false_eq_true, if_false] at g j; cases ds <;> simp [iV] at hb; obtain ⟨g, _⟩ := g; obtain ⟨j, _⟩ := j; simp at g j; subst g; subst j; simp [Op.equalIn, bA q, Ty.eqb]; rfl
  case str =>
   simp only [dE, Ty.isAgg, bB, Bool.false_eq_true, if_false] at g j; grind [iV, run_equalIn_string, Ty.eqb, bGn]
  case unit =>
   simp only [dE, Ty.isAgg, if_true] at g j
   obtain ⟨a, rfl, _⟩ := g; obtain ⟨b, rfl, _⟩ := j
   cases ds <;> simp [iV] at hb
   rename_i z
   have s : P.fieldsOf t = z := by simp [Program.fieldsOf, q]
   rw [run_equalIn_struct w' 0 t a b (by simp_all) (I t _ ht).held, s]
   cases W : z.toList with
   | nil => rfl
   | cons f r => grind [dW]
 | succ d ih =>
  intro t c x y v u w' ht hc hd g j
  obtain ⟨ds, q, hb⟩ := (I t c ht).desc
  cases c <;> simp only [Ty.cmpB, Bool.false_eq_true] at hc
  case bool => simp only [dE, Ty.isAgg, bB, Bool.false_eq_true, if_false] at g j; cases ds <;> simp [iV] at hb; simp at g j; subst g; subst j; simp [Op.equalIn, bA q, Ty.eqb]
  case u k => simp only [dE, Ty.isAgg, bB, Bool.false_eq_true, if_false] at g j; cases ds <;> simp [iV] at hb; obtain ⟨g, _⟩ := g; obtain ⟨j, _⟩ := j; simp at g j; subst g; subst j; simp [Op.equalIn, bA q, Ty.eqb]; grind
  case i k => simp only [dE, Ty.isAgg, bB, Bool.false_eq_true, if_false] at g j; cases ds <;> simp [iV] at hb; obtain ⟨g, _⟩ := g; obtain ⟨j, _⟩ := j; simp at g j; subst g; subst j; simp [Op.equalIn, bA q, Ty.eqb]; rfl
  case str =>
   simp only [dE, Ty.isAgg, bB, Bool.false_eq_true, if_false] at g j; grind [iV, run_equalIn_string, Ty.eqb, bGn]
  case unit =>
   simp only [dE, Ty.isAgg, if_true] at g j
   obtain ⟨a, rfl, _⟩ := g; obtain ⟨b, rfl, _⟩ := j
   cases ds <;> simp [iV] at hb
   rename_i z
   have s : P.fieldsOf t = z := by simp [Program.fieldsOf, q]
   rw [run_equalIn_struct w' _ t a b (by simp_all) (I t _ ht).held, s]
   cases W : z.toList with
   | nil => rfl
   | cons f r => grind [dW]
  case pair a b =>
   simp only [dE, Ty.isAgg, if_true] at g j
   obtain ⟨N, rfl, g⟩ := g; obtain ⟨L, rfl, j⟩ := j
   cases ds <;> simp [iV] at hb
   rename_i z
   have s : P.fieldsOf t = z := by simp [Program.fieldsOf, q]
   rw [run_equalIn_struct w' _ t N L (by simp_all) (I t _ ht).held, s]
   exact aMj I d ih z.toList 0 (.pair a b) x y [] N.toList [] L.toList [] [] w' hb (by grind [Ty.cmpB]) hd (by simp) rfl g (by simp) rfl j
  case arr n c =>
   simp only [dE, Ty.isAgg, if_true] at g j
   obtain ⟨N, rfl, g⟩ := g; obtain ⟨L, rfl, j⟩ := j
   cases ds <;> simp [iV] at hb
   rename_i n' e
   obtain ⟨⟨⟨rfl, Z⟩, _⟩, _⟩ := hb
   obtain ⟨lx, css, hcx, O, hrx⟩ := g
   obtain ⟨ly, J, hcy, Y, U⟩ := j
   rw [run_equalIn_array _ t e n c.cells N L w' q (fK (I _ _ Z) w')]
   simp only [Ty.deep] at hd
   exact aPu I (d + 1) Z (fun x y v u w' h1 h2 => ih e c x y v u w' Z hc (by omega) h1 h2) n 0 x y [] [] css J w' lx ly (O.trans lx) (Y.trans ly) hrx U (by simp_all) (by simp_all) (by simp) (by simp)
theorem aG2 (f : lP P T) {w : World} {S : Nat → Prop} {t : TypeId} {c : Ty} {x y : c.den} {v u : Value} (w' : World) (ht : T t = some c) (hc : c.cmpB = true) (hd : c.deep ≤ 100) (g : dE w S c x v) (b : dE w S c y u) :
  (Op.equal t v u).run P w' = .ok (c.eqb x y) w' := aRr f 9999 t c x y v u w' ht hc (by omega) g b
end
end Go.Vc
namespace Go.Vc
open Go.RowKit
def tM : Value → AV
 | .bool b => .val .bool b
 | .int k n => if k.signed then .val (.i k) n else .val (.u k) n.toNat
 | .string s => .val .str (aV s)
 | .slice none 0 0 => .nilS
 | .pointer none => .nilP
 | .nilIface => .val .nili ()
 | _ => .junk
def aMl : Value → AV
 | .agg b => .flat (b.toList.map tM)
 | v => tM v
def aFm : Value → Bool
 | .int k n => decide (k.min ≤ n) && decide (n ≤ k.max)
 | .string s => decide (s.size ≤ maxLen)
 | .slice none 0 0 => true
 | .pointer none => true
 | .nilIface => true
 | .bool _ => true
 | _ => false
def aYD : Value → Bool
 | .agg b => b.toList.all aFm
 | .func _ _ _ => true
 | .map none => true
 | v => aFm v
theorem aUi {c : Ctx} {w : World} {v : Value} (h : aFm v = true) : xD c w (tM v) v := by
 unfold aFm at h
 split at h
 ·simp only [Bool.and_eq_true, decide_eq_true_eq] at h
  simp only [tM]
  split
  ·rename_i hs; exact aCm hs h
  ·rename_i k n hs
   have hs : k.signed = false := by simp_all
   have f : 0 ≤ n := by grind [IntKind.signed, IntKind.min]
   have hv := aKs (c := c) (w := w) (n := n.toNat) hs (aPs hs (by omega))
   rw [show ((n.toNat : Nat) : Int) = n from by omega] at hv
   exact hv
 ·exact bEl (by simp_all)
 ·exact ⟨rfl, (fun h => by cases h), (fun _ b => by simp)⟩
 ·exact ⟨rfl, (fun h => by cases h), (fun _ b => by simp)⟩
 ·exact ⟨rfl, (fun h => by cases h), (fun _ b => by simp)⟩
 ·exact aEt _
 grind
theorem aUj {c : Ctx} {w : World} : ∀ {l : List Value}, l.all aFm = true → mE c w (l.map tM) l
 | [], _ => rfl
 | v :: r, h => by
  simp only [List.all_cons, Bool.and_eq_true] at h
  have hv := aUi (c := c) (w := w) h.1
  refine ⟨[v], r, rfl, ?_, aUj h.2⟩
  have b := hv.1
  have : v.cells.toList = [v] := by
   have hb := h.1
   cases v <;> first | rfl | grind [aFm]
  simp_all
theorem bBQ {c : Ctx} {w : World} {v : Value} (h : aYD v = true) (J : ∀ f a b, v ≠ .func f a b) : aW c w (aMl v) v := by
 unfold aYD at h
 split at h
 ·rename_i L
  exact ⟨by simpa [aMl, aM, Value.cells] using aUj h, fun _ => ⟨_, rfl⟩, fun h => by cases h⟩
 ·simp_all
 ·trivial
 ·rename_i r s I
  have hv := aUi (c := c) (w := w) h
  have e : aMl v = tM v := by cases v <;> first | rfl | simp_all
  rw [e]
  have z : tM v ≠ .junk ∧ tM v ≠ .undef ∧ ∀ vs, tM v ≠ .tup vs := by
   cases v <;> first | grind [tM] | (simp [aFm] at h; done) | skip
   all_goals grind [tM, aFm]
  obtain ⟨q, j, g⟩ := z
  generalize tM v = u at hv q j g
  cases u <;> first | exact absurd rfl q | exact absurd rfl j | exact absurd rfl (g _) | exact hv
def parse : (t : Ty) → List AV → Option (t.den × List AV)
 | .bool, .val .bool b :: r => some (b, r)
 | .u k, .val (.u f) n :: r => if f = k then some (n, r) else none
 | .i k, .val (.i f) n :: r => if f = k then some (n, r) else none
 | .str, .val .str s :: r => some (s, r)
 | .sl _, .nilS :: r => some ([], r)
 | .unit, l => some ((), l)
 | .pair a b, l => match parse a l with
  | some (x, r) => match parse b r with
   | some (y, g) => some ((x, y), g)
   | none => none
  | none => none
 | _, _ => none
theorem aWG {c : Ctx} {w : World} : ∀ (t : Ty) (l : List AV) (x : t.den) (r : List AV) (cs : List Value), parse t l = some (x, r) → mE c w l cs → ∃ c1 f, cs = c1 ++ f ∧ bB w c.S t x c1 ∧ mE c w r f := by
 intro t
 induction t with
 | bool =>
  intro l x r cs h g
  cases l with
  | nil => simp [parse] at h
  | cons v l =>
   cases v <;> first | grind [parse] | skip
   rename_i z y
   cases z <;> simp [parse] at h
   obtain ⟨rfl, rfl⟩ := h
   obtain ⟨c1, f, s, j, q⟩ := g
   exact ⟨c1, f, s, j, q⟩
 | str =>
  intro l x r cs h g
  cases l with
  | nil => simp [parse] at h
  | cons v l =>
   cases v <;> first | grind [parse] | skip
   rename_i z y
   cases z <;> simp [parse] at h
   obtain ⟨rfl, rfl⟩ := h
   obtain ⟨c1, f, s, j, q⟩ := g
   exact ⟨c1, f, s, j, q⟩
 | u k =>
  intro l x r cs h g
  cases l with
  | nil => simp [parse] at h
  | cons v l =>
   cases v <;> first | grind [parse] | skip
   rename_i z y
   cases z <;> simp [parse] at h
   obtain ⟨rfl, rfl, rfl⟩ := h
   obtain ⟨c1, f, s, j, q⟩ := g
   exact ⟨c1, f, s, j, q⟩
 | i k =>
  intro l x r cs h g
  cases l with
  | nil => simp [parse] at h
  | cons v l =>
   cases v <;> first | grind [parse] | skip
   rename_i z y
   cases z <;> simp [parse] at h
   obtain ⟨rfl, rfl, rfl⟩ := h
   obtain ⟨c1, f, s, j, q⟩ := g
   exact ⟨c1, f, s, j, q⟩
 | sl t ih =>
  intro l x r cs h g
  cases l with
  | nil => simp [parse] at h
  | cons v l =>
   cases v <;> first | grind [parse] | skip
   simp [parse] at h
   obtain ⟨rfl, rfl⟩ := h
   obtain ⟨c1, f, s, j, q⟩ := g
   simp only [aM] at j
   exact ⟨c1, f, s, ⟨none, 0, 0, j, rfl, Nat.le_refl _, Nat.zero_le _, .inl rfl⟩, q⟩
 | unit =>
  intro l x r cs h g
  simp [parse] at h
  subst h
  exact ⟨[], cs, rfl, rfl, g⟩
 | pair a b I J =>
  intro l x r cs h g
  simp only [parse] at h
  split at h
  ·rename_i W L Y
   split at h
   ·rename_i yb rb hb
    cases h
    obtain ⟨c1, f, e1, r1, Z⟩ := I l W L cs Y g
    obtain ⟨N, d2, e2, O, U⟩ := J L yb _ f hb Z
    exact ⟨c1 ++ N, d2, by simp_all, ⟨c1, N, rfl, r1, O⟩, U⟩
   grind
  grind
 | arr _ _ _ => grind [parse]
 | expr => grind [parse]
 | rp _ _ => grind [parse]
 | clo _ _ _ => grind [parse]
 | ifc _ _ _ => grind [parse]
 | nili => grind [parse]
 | nilp => grind [parse]
 | nilf => grind [parse]
def aG3 (t : Ty) (l : List AV) : Option t.den := match parse t l with
 | some (x, []) => some x
 | _ => none
def bBR : AV → Option Int
 | .val (.i .i64) n => some n
 | _ => none
def bGo : AV → Option (List Nat)
 | .val .str s => some s
 | _ => none
def bGp (h : List Obj) : AV → Option (List Ex)
 | .val (.sl .expr) l => some l
 | .full .expr l => some l
 | .nilS => some []
 | .own i => rowOf h i .expr
 | _ => none
def asX (h : List Obj) (a b v : AV) : Option Ex := match bBR a, bGo b, bGp h v with
 | some x, some y, some z => some (.mk x y z)
 | _, _, _ => none
def AV.as (h : List Obj) : (t : Ty) → AV → Option t.den
 | t, .val f x => if e : f = t then some (e ▸ x) else none
 | .sl t, .nilS => some []
 | .sl t, .full f q => if e : f = t then some (e ▸ q) else none
 | .sl t, .own i => rowOf h i t
 | .pair a r, .agg (v :: vs) => match AV.as h a v, AV.as h r (.agg vs) with
  | some x, some y => some (x, y)
  | _, _ => none
 | .unit, .agg [] => some ()
 | .expr, .agg [a, b, v] => asX h a b v
 | .pair a r, .flat l => aG3 (.pair a r) l
 | .unit, .flat l => aG3 .unit l
 | .rp t, .roa f x => if e : f = t then some (e ▸ x) else none
 | .rp t, .ptr i [] => match h[i]? with
  | some (.box _ v) => AV.as h t v
  | _ => none
 | .clo g t, .fn j [] l2 => if j = g then AV.as h t (.agg (l2.map fun i => .ptr i [])) else none
 | _, _ => none
@[simp] theorem bGq {h : List Obj} {t : Ty} {x : t.den} : AV.as h t (.val t x) = some x := by cases t <;> simp [AV.as]
@[simp] theorem bEq {h : List Obj} {t : Ty} : AV.as h (.sl t) .nilS = some [] := by rfl
@[simp] theorem bEr {h : List Obj} {t : Ty} {xs : List t.den} : AV.as h (.sl t) (.full t xs) = some xs := by simp [AV.as]
@[simp] theorem bGr {h : List Obj} {t : Ty} {i : Nat} : AV.as h (.sl t) (.own i) = rowOf h i t := by rfl
@[simp] theorem bEs {h : List Obj} : AV.as h .unit (.agg []) = some () := by rfl
@[simp] theorem aU8 {h : List Obj} {a r : Ty} {v : AV} {vs : List AV} : AV.as h (.pair a r) (.agg (v :: vs)) = match AV.as h a v, AV.as h r (.agg vs) with | some x, some y => some (x, y) | _, _ => none := by rfl
@[simp] theorem aU9 {h : List Obj} {a r : Ty} {l : List AV} : AV.as h (.pair a r) (.flat l) = aG3 (.pair a r) l := by rfl
@[simp] theorem bGs {h : List Obj} {t : Ty} {x : t.den} : AV.as h (.rp t) (.roa t x) = some x := by simp [AV.as]
@[simp] theorem aYE {h : List Obj} {t : Ty} {i : Nat} : AV.as h (.rp t) (.ptr i []) = match h[i]? with | some (.box _ v) => AV.as h t v | _ => none := by rfl
@[simp] theorem bHe {h : List Obj} {t : Ty} {g : FuncId} {l2 : List Nat} : AV.as h (.clo g t) (.fn g [] l2) = AV.as h t (.agg (l2.map fun i => .ptr i [])) := by simp [AV.as]
@[simp] theorem aVa {h : List Obj} {a b v : AV} : AV.as h .expr (.agg [a, b, v]) = asX h a b v := by rfl
@[simp] theorem aRs {h : List Obj} {l : List AV} : AV.as h .unit (.flat l) = aG3 .unit l := by rfl
def AV.tags1 : AV → List Nat
 | .own i => [i]
 | _ => []
def AV.tags : AV → List Nat
 | .own i => [i]
 | .agg b => b.flatMap AV.tags1
 | _ => []
def aFn (c : Ctx) (h : List Obj) (b : Nat) : Prop := c.S b ∨ ∃ i o, h[i]? = some o ∧ fI c i o b
theorem aDt.toC {c : Ctx} {w : World} {e : TypeId} {t : Ty} {xs : List t.den} {v : Value} {S' : Nat → Prop} (h : aDt c w e t xs v) (hs : ∀ b, c.S b → S' b) (hb : ∀ b, aX v = some b → S' b) : bB w S' (.sl t) xs [v] := by
 obtain ⟨O, q, _, f, z, hl, L⟩ := h
 obtain ⟨N, hv⟩ := q
 rcases hv with ⟨rfl, h0⟩ | ⟨g, J, r, rfl, _, hheap, I, s, W, htake⟩
 ·refine ⟨none, 0, 0, rfl, ?_, Nat.le_refl _, Nat.zero_le _, .inl ?_⟩
  all_goals simp_all
 ·refine ⟨some ⟨g, 0, none⟩, xs.length, J, rfl, rfl, I, s, .inr ⟨g, 0, rfl, hb g rfl, fun i hi => ?_⟩⟩
  refine ⟨f[i], bB.keep hs (.refl _ _) t _ _ (L i hi (by omega)), ?_⟩
  obtain ⟨pre, post, Y, hp⟩ := pB (t := t) (css := f) (fun j U => bB.length _ _ _ (L j (by omega) U)) i (by omega)
  intro j v U
  have hcell : r[i * t.cells + j]? = some v := by
   rw [← Array.getElem?_toList]
   have Z : (r.toList.take (xs.length * t.cells))[i * t.cells + j]? = some v := by
    rw [htake, z, Y, ← hp, List.append_assoc, List.getElem?_append_right (by omega), Nat.add_sub_cancel_left]
    grind
   grind
  simp_all [World.cell?, Nat.zero_add]
theorem lH.length {w : World} {S : Nat → Prop} : ∀ (t : Ty) (m : Mk) (x : t.den) (cs : List Value) (B : List Nat), lH w S t m x cs B → cs.length = t.cells := by
 intro t
 induction t with
 | sl t J =>
  intro m W cs B f
  cases m with
  | no => exact bB.length _ _ _ f.1
  | sl e m => obtain ⟨v, z, Bs, q, _⟩ := f; rw [q]; rfl
  | pair a b => exact f.elim
 | pair a r j g =>
  intro m x cs B f
  cases m with
  | no => exact bB.length _ _ _ f.1
  | sl e m => exact f.elim
  | pair N U =>
   obtain ⟨c1, Z, L, Y, q, O, s, I⟩ := f
   rw [q, List.length_append, j _ _ _ _ s, g _ _ _ _ I]; rfl
 | _ =>
  intro m x cs B f
  cases m <;> first | exact bB.length _ _ _ f.1 | exact f.elim
theorem aWH {w : World} {S' : Nat → Prop} {e : TypeId} {t : Ty} {xs : List t.den} {v : Value} {css : List (List Value)} (f : w.ownsRow 0 e t.cells v xs.length css.flatten) (Y : css.length = xs.length) (I : ∀ i (N : i < css.length), (css[i]).length = t.cells)
  (O : ∀ i (h : i < xs.length) (N : i < css.length), bB w S' t xs[i] css[i]) (hb : ∀ b, aX v = some b → S' b) : bB w S' (.sl t) xs [v] := by
 obtain ⟨J, hv⟩ := f
 rcases hv with ⟨rfl, h0⟩ | ⟨g, z, q, rfl, _, hheap, s, r, U, htake⟩
 ·refine ⟨none, 0, 0, rfl, ?_, Nat.le_refl _, Nat.zero_le _, .inl ?_⟩
  all_goals simp_all
 ·refine ⟨some ⟨g, 0, none⟩, xs.length, z, rfl, rfl, s, r, .inr ⟨g, 0, rfl, hb g rfl, fun i hi => ?_⟩⟩
  refine ⟨css[i], O i hi (by omega), ?_⟩
  obtain ⟨pre, post, W, hp⟩ := pB (t := t) (css := css) (fun j L => I j L) i (by omega)
  intro j v L
  have hcell : q[i * t.cells + j]? = some v := by
   rw [← Array.getElem?_toList]
   have N : (q.toList.take (xs.length * t.cells))[i * t.cells + j]? = some v := by
    rw [htake, W, ← hp, List.append_assoc, List.getElem?_append_right (by omega), Nat.add_sub_cancel_left]
    grind
   grind
  simp_all [World.cell?, Nat.zero_add]
theorem lH.toC {w : World} {S S' : Nat → Prop} (hs : ∀ b, S b → S' b) : ∀ (t : Ty) (m : Mk) (x : t.den) (cs : List Value) (B : List Nat), (∀ b ∈ B, S' b) → lH w S t m x cs B → bB w S' t x cs := by
 intro t
 induction t with
 | sl t ih =>
  intro m xs cs B g f
  cases m with
  | no => exact bB.keep hs (.refl _ _) _ _ _ f.1
  | sl e m =>
   obtain ⟨v, css, Y, I, z, j, L, O, N⟩ := f
   subst I; subst O
   refine aWH z j (fun i q => lH.length _ _ _ _ _ (N i (by omega) q (by omega))) (fun i Z W => ih m _ _ (Y[i]'(by omega)) (fun b hb => g b ?_) (N i Z W (by omega))) (fun b hb => g b (by simp [hdB, hb]))
   grind [List.mem_append_right, List.mem_flatten, List.getElem_mem]
  | pair a b => exact f.elim
 | pair a r s J =>
  intro m x cs B g f
  cases m with
  | no => exact bB.keep hs (.refl _ _) _ _ _ f.1
  | sl e m => exact f.elim
  | pair ma mr =>
   obtain ⟨c1, U, B1, B2, I, z, j, L⟩ := f
   subst z
   exact ⟨c1, U, I, s _ _ _ _ (fun b hb => g b (List.mem_append_left _ hb)) j, J _ _ _ _ (fun b hb => g b (List.mem_append_right _ hb)) L⟩
 | _ =>
  intro m x cs B g f
  cases m <;> first | exact bB.keep hs (.refl _ _) _ _ _ f.1 | exact f.elim
theorem aWI {M : Perm} {w0 : World} {c : Ctx} {h : List Obj} {w : World} (q : Good M w0 c h w) {i : Nat} {t : Ty} {xs : List t.den} (f : rowOf h i t = some xs) : bB w (aFn c h) (.sl t) xs [c.hd i] := by
 unfold rowOf at f
 split at f
 ·rename_i e r s g
  split at f
  ·rename_i j; subst j; cases f
   have := q.objs i _ g
   exact aDt.toC this (fun b hb => .inl hb) (fun b hb => .inr ⟨i, _, g, hb⟩)
  grind
 ·rename_i r s g
  split at f
  ·rename_i j; subst j; cases f
   have := q.objs i _ g
   exact bB.keep (fun b hb => .inl hb) (.refl _ _) _ _ _ this
  grind
 ·rename_i e m r s g
  split at f
  ·rename_i j; subst j; cases f
   obtain ⟨B, I, _, z⟩ := q.objs i _ g
   exact lH.toC (fun b hb => .inl hb) _ _ _ _ _ (fun b hb => .inr ⟨i, _, g, z b hb⟩) I
  grind
 grind
theorem aZM {c : Ctx} {w : World} {h : List Obj} {S' : Nat → Prop} (L : ∀ b, c.S b → S' b) (hrow : ∀ i xs cs, rowOf h i .expr = some xs → aM c w (.own i) cs → bB w S' (.sl .expr) xs cs) {a b v : AV} {x : Ex} {cs : List Value} (W : asX h a b v = some x) (Z : mE c w [a, b, v] cs) : bB w S' .expr x cs := by
 unfold asX at W
 split at W
 ·rename_i k s l N I j
  cases W
  simp only [mE] at Z
  obtain ⟨c1, c2, e, r1, c3, c4, e2, r2, c5, c6, e3, q, e4⟩ := Z
  subst e4; subst e3; subst e2; subst e
  have q1 : bB w c.S (.i .i64) k c1 := by
   unfold bBR at N
   split at N
   ·cases N; exact r1
   grind
  have q2 : bB w c.S .str s c3 := by
   unfold bGo at I
   split at I
   ·cases I; exact r2
   grind
  have q3 : bB w S' (.sl .expr) l c5 := by
   unfold bGp at j
   split at j
   ·cases j; exact bB.keep L (.refl _ _) (.sl .expr) _ _ q
   ·cases j
    simp only [aM] at q
    obtain ⟨p, n, e, U⟩ := q
    exact ⟨p, n, n, e, U.keep L (.refl _ _) (fun x cs => bB.keep L (.refl _ _) .expr x cs)⟩
   ·cases j
    simp only [aM] at q
    exact ⟨none, 0, 0, q, rfl, Nat.le_refl _, Nat.zero_le _, .inl rfl⟩
   all_goals grind
  obtain ⟨rfl, _, J, Y⟩ := q1
  obtain ⟨s', rfl, rfl, r⟩ := q2
  obtain ⟨p, len, O, rfl, z1, z2, z3, z4⟩ := q3
  show RepEx w S' _ _
  have z : ∃ f : Nat → List Value, (∀ i (h' : i < l.length), RepEx w S' l[i] (f i)) ∧ (l = [] ∨ ∃ b off, p = some ⟨b, off, none⟩ ∧ S' b ∧ ∀ i, i < l.length → lY w b (off + i * 3) (f i)) := by
   rcases z4 with rfl | ⟨b, off, rfl, hb, g⟩
   ·exact ⟨fun _ => [], fun i h' => by grind, .inl rfl⟩
   ·refine ⟨fun i => if h' : i < l.length then Classical.choose (g i h') else [], fun i h' => ?_, .inr ⟨b, off, rfl, hb, fun i h' => ?_⟩⟩
    ·simp only [h', dite_true]; exact (Classical.choose_spec (g i h')).1
    ·simp only [h', dite_true]; exact (Classical.choose_spec (g i h')).2
  obtain ⟨f, k1, k2⟩ := z
  exact .mk k s' l p len O f ⟨J, Y⟩ r z1 z2 z3 k1 k2
 grind
theorem bEt {M : Perm} {w0 : World} {c : Ctx} {h : List Obj} {w : World} (s : Good M w0 c h w) : ∀ (t : Ty) (l : List Nat) (x : t.den), (∀ i ∈ l, i < c.n) → AV.as h t (.agg (l.map fun i => .ptr i [])) = some x → mE c w (l.map fun i => .ptr i []) (l.map c.hd) := by
 intro t
 induction t with
 | pair a r _ q =>
  intro l x g f
  cases l with
  | nil => rfl
  | cons i l =>
   simp only [List.map_cons, aU8] at f
   split at f
   ·rename_i O J L z
    have hb : ∃ n v, h[i]? = some (.box n v) := by
     cases a <;> first | (simp [AV.as] at L; done) | skip
     grind [aYE]
    obtain ⟨n, v, I⟩ := hb
    obtain ⟨b, cells, e, j, _⟩ := s.objs i _ I
    refine ⟨[c.hd i], l.map c.hd, rfl, ?_, q l J (fun k N => g k (by simp [N])) z⟩
    refine ⟨g i (by simp), b, by rw [j]; rfl, by rw [j]; rfl⟩
   grind
 | unit =>
  intro l x g f
  cases l with
  | nil => exact rfl
  | cons i l => grind [AV.as]
 | expr =>
  intro l x g f
  match l, f with
  | [], f => rfl
  | [_], f => simp [AV.as] at f
  | [_, _], f => simp [AV.as] at f
  | [_, _, _], f => simp [AV.as, asX, bBR] at f
  | _ :: _ :: _ :: _ :: _, f => simp [AV.as] at f
 | _ => grind [AV.as]
theorem bF4 {M : Perm} {w0 : World} {c : Ctx} {h : List Obj} {w : World} (hg : Good M w0 c h w) : ∀ (t : Ty) (v : AV) (x : t.den) (cs : List Value), AV.as h t v = some x → aM c w v cs → bB w (aFn c h) t x cs ∧ t.isAgg = v.isAgg := by
 have J : ∀ b, c.S b → aFn c h b := fun b hb => .inl hb
 have hval : ∀ (t r : Ty) (y : r.den) (x : t.den) (cs : List Value), AV.as h t (.val r y) = some x → aM c w (.val r y) cs → bB w (aFn c h) t x cs ∧ t.isAgg = AV.isAgg (.val r y) := by
  intro t r y x cs f q
  have : ∃ e : r = t, x = e ▸ y := by
   have z : (if e : r = t then some (e ▸ y) else none) = some x := by grind [AV.as]
   grind
  obtain ⟨rfl, rfl⟩ := this
  exact ⟨bB.keep J (.refl _ _) _ _ _ q, rfl⟩
 have hflat : ∀ (t : Ty) (l : List AV) (x : t.den) (cs : List Value), aG3 t l = some x → mE c w l cs → bB w (aFn c h) t x cs := by
  intro t l x cs f q
  unfold aG3 at f
  split at f
  ·rename_i y hp
   cases f
   obtain ⟨c1, W, e, r1, N⟩ := aWG t l _ _ cs hp q
   simp only [mE] at N
   subst N
   rw [e, List.append_nil]
   exact bB.keep J (.refl _ _) _ _ _ r1
  grind
 intro t
 induction t with
 | pair a b O Z =>
  intro v x cs f q
  cases v with
  | val r y => grind
  | agg I =>
   cases I with
   | nil => grind [AV.as]
   | cons v I =>
    simp only [aU8] at f
    split at f
    ·rename_i xa xb h1 z
     cases f
     simp only [aM, mE] at q
     obtain ⟨c1, W, e, r1, N⟩ := q
     have Y := O v xa c1 h1 r1
     have q2 := Z (.agg I) xb W z (by grind [aM])
     exact ⟨⟨c1, W, e, Y.1, q2.1⟩, rfl⟩
    grind
  | flat l => simp only [aU9] at f; exact ⟨hflat _ _ _ _ f (by grind [aM]), rfl⟩
  | _ => grind [AV.as]
 | sl t L =>
  intro v x cs f q
  cases v with
  | val r y => grind
  | nilS => simp at f; subst f; simp only [aM] at q; exact ⟨⟨none, 0, 0, q, rfl, Nat.le_refl _, Nat.zero_le _, .inl rfl⟩, rfl⟩
  | full r xs =>
   have z : (if e : r = t then some (e ▸ xs) else none) = some x := by grind [AV.as]
   split at z
   ·rename_i e
    subst e
    cases z
    simp only [aM] at q
    obtain ⟨p, n, e, hsl⟩ := q
    exact ⟨⟨p, n, n, e, hsl.keep J (.refl _ _) (fun x cs => bB.keep J (.refl _ _) _ x cs)⟩, rfl⟩
   grind
  | own i => simp at f; simp only [aM] at q; rw [q.2.1]; exact ⟨aWI hg f, rfl⟩
  | _ => grind [AV.as]
 | unit =>
  intro v x cs f q
  cases v with
  | val r y => grind
  | agg I => cases I with
   | nil => simp only [aM, mE] at q; exact ⟨q, rfl⟩
   | cons v I => grind [AV.as]
  | flat l => simp only [aRs] at f; exact ⟨hflat _ _ _ _ f (by grind [aM]), rfl⟩
  | _ => grind [AV.as]
 | rp t L =>
  intro v x cs f q
  cases v with
  | val r y => grind
  | roa r y =>
   have z : (if e : r = t then some (e ▸ y) else none) = some x := by grind [AV.as]
   split at z
   ·rename_i e
    subst e
    cases z
    simp only [aM] at q
    obtain ⟨b, off, ds, e, hb, hd, hcell⟩ := q
    exact ⟨⟨b, off, ds, e, J b hb, bB.keep J (.refl _ _) _ _ _ hd, hcell⟩, rfl⟩
   grind
  | ptr i p =>
   cases p with
   | nil =>
    simp only [aYE] at f
    split at f
    ·rename_i n u ho
     simp only [aM] at q
     obtain ⟨hi, b, hb, e⟩ := q
     obtain ⟨b', cells, e', Y, q2, q3, q4⟩ := hg.objs i _ ho
     have U : b = b' := by grind [aX]
     subst U
     refine ⟨⟨b, 0, cells.toList, e, .inr ⟨i, _, ho, by simp [fI, Y, aX]⟩, (L u x cells.toList f q4).1, ?_⟩, rfl⟩
     intro j u hj
     simp_all [World.cell?, Nat.zero_add]
    grind
   | cons s p => grind [AV.as]
  | _ => grind [AV.as]
 | clo g t L =>
  intro v x cs f q
  cases v with
  | val r y => grind
  | fn g' l1 l2 =>
   cases l1 with
   | nil =>
    have z : g' = g ∧ AV.as h t (.agg (l2.map fun i => .ptr i [])) = some x := by grind [AV.as]
    obtain ⟨rfl, f⟩ := z
    simp only [aM] at q
    obtain ⟨_, z, e⟩ := q
    have := L _ x (l2.map c.hd) f (by grind [aM, bEt])
    exact ⟨⟨l2.map c.hd, by simp_all, this.1⟩, rfl⟩
   | cons i l1 => grind [AV.as]
  | _ => grind [AV.as]
 | expr =>
  intro v x cs f q
  cases v with
  | val r y => grind
  | agg I =>
   match I, f, q with
   | [a, b, v], f, q =>
    simp only [aVa] at f
    exact ⟨aZM J (fun i xs cs h1 z => by grind [aM, aWI]) f (by grind [aM]), rfl⟩
   | [], f, _ => grind [AV.as]
   | [_], f, _ => grind [AV.as]
   | [_, _], f, _ => grind [AV.as]
   | _ :: _ :: _ :: _ :: _, f, _ => grind [AV.as]
  | _ => grind [AV.as]
 | _ =>
  intro v x cs f q
  cases v with
  | val r y => grind
  | _ => grind [AV.as]
def Ty.fieldOff : Ty → Nat → Nat
 | .pair _ _, 0 => 0
 | .pair a r, k + 1 => a.cells + r.fieldOff k
 | .expr, k => k
 | _, _ => 0
def aIw : (t : Ty) → t.den → Nat → AV
 | .pair a _, x, 0 => .val a x.1
 | .pair _ r, x, k + 1 => aIw r x.2 k
 | .expr, x, 0 => .val (.i .i64) x.kind
 | .expr, x, 1 => .val .str x.text
 | .expr, x, 2 => .val (.sl .expr) x.l
 | _, _, _ => .junk
def AV.solid1 : AV → Bool
 | .val _ _ => true
 | .nilS => true
 | .nilP => true
 | .full _ _ => true
 | .own _ => true
 | .ptr _ _ => true
 | .roa _ _ => true
 | .fn _ _ _ => true
 | .mp _ => true
 | _ => false
def AV.solid : AV → Bool
 | .agg b => b.all AV.solid1
 | v => v.solid1
def AV.nc1 : AV → Nat
 | .val t _ => t.cells
 | _ => 1
def aK : List AV → Nat
 | [] => 0
 | v :: r => v.nc1 + aK r
def AV.nc : AV → Nat
 | .agg b => aK b
 | v => v.nc1
theorem aLn {c : Ctx} {w : World} {v : AV} {cs : List Value} (hs : v.solid1 = true) (b : aM c w v cs) : cs.length = v.nc1 := by
 cases v <;> simp [AV.solid1] at hs <;> simp only [aM] at b <;> simp only [AV.nc1]
 all_goals grind [bB.length]
theorem aZN {c : Ctx} {w : World} : ∀ {vs : List AV} {cs : List Value}, vs.all AV.solid1 = true → mE c w vs cs → cs.length = aK vs
 | [], _, _, b => by simp only [mE] at b; rw [b]; rfl
 | v :: r, _, hs, b => by
  simp only [List.all_cons, Bool.and_eq_true] at hs
  simp only [mE] at b
  obtain ⟨c1, j, e, g, f⟩ := b
  rw [e, List.length_append, aLn hs.1 g, aZN hs.2 f]; rfl
theorem aRt {c : Ctx} {w : World} {v : AV} {cs : List Value} (hs : v.solid = true) (b : aM c w v cs) : cs.length = v.nc := by
 cases v
 case agg vs => exact aZN hs (by simpa [aM] using b)
 all_goals grind [AV.solid, AV.nc, aLn]
def dO : AV → Nat → AV × Nat
 | .val t x, k => (aIw t x k, t.fieldOff k)
 | .agg [], _ => (.junk, 0)
 | .agg (v :: _), 0 => (v, 0)
 | .agg (v :: vs), k + 1 => ((dO (.agg vs) k).1, v.nc1 + (dO (.agg vs) k).2)
 | _, _ => (.junk, 0)
def elemOf : AV → Nat → Prop × AV
 | .val (.arr n t) b, i => (i < n, .val t (b.getD i t.zero))
 | _, _ => (False, .junk)
def aUk : AV → Nat
 | .val (.arr _ t) _ => t.cells
 | _ => 0
theorem aMm {w : World} {c : Ctx} : ∀ (t : Ty) (x : t.den) (k : Nat) (cs : List Value), bB w c.S t x cs → aIw t x k ≠ .junk → ∃ pre ds post, cs = pre ++ ds ++ post ∧ pre.length = t.fieldOff k ∧ aM c w (aIw t x k) ds
 | .pair a r, x, 0, cs, f, _ => by
  obtain ⟨c1, J, e, L, O⟩ := f
  exact ⟨[], c1, J, by simp_all, rfl, L⟩
 | .pair a r, x, k + 1, cs, f, g => by
  obtain ⟨c1, J, e, L, O⟩ := f
  obtain ⟨pre, ds, post, U, hp, hd⟩ := aMm r x.2 k J O g
  refine ⟨c1 ++ pre, ds, post, by simp_all, ?_, hd⟩
  rw [List.length_append, bB.length _ _ _ L, hp]; rfl
 | .expr, x, 0, cs, f, _ => by
  cases f with
  | mk k s l a len j q z hs N hc hm f I => exact ⟨[], [_], _, rfl, rfl, ⟨rfl, rfl, z.1, z.2⟩⟩
 | .expr, x, 1, cs, f, _ => by
  cases f with
  | mk k s l a len j q z hs N hc hm f I => exact ⟨[_], [_], [_], rfl, rfl, ⟨s, rfl, rfl, hs⟩⟩
 | .expr, x, 2, cs, f, _ => by
  cases f with
  | mk k s l a len j q z hs N hc hm f I =>
   refine ⟨[_, _], [_], [], rfl, rfl, ⟨a, len, j, rfl, N, hc, hm, I.imp id ?_⟩⟩
   rintro ⟨b, off, e, hb, hcell⟩
   exact ⟨b, off, e, hb, fun i hi => ⟨q i, f i hi, hcell i hi⟩⟩
 | .expr, x, k + 3, cs, f, g => absurd rfl g
 | .bool, x, k, cs, f, g => absurd rfl g
 | .u _, x, k, cs, f, g => absurd rfl g
 | .i _, x, k, cs, f, g => absurd rfl g
 | .str, x, k, cs, f, g => absurd rfl g
 | .sl _, x, k, cs, f, g => absurd rfl g
 | .unit, x, k, cs, f, g => absurd rfl g
 | .arr _ _, x, k, cs, f, g => absurd rfl g
 | .rp _, x, k, cs, f, g => absurd rfl g
 | .clo _ _, x, k, cs, f, g => absurd rfl g
theorem aRu {w : World} {c : Ctx} : ∀ (v : AV) (k : Nat) (cs : List Value), v.solid = true → aM c w v cs → (dO v k).1 ≠ .junk → ∃ pre ds post, cs = pre ++ ds ++ post ∧ pre.length = (dO v k).2 ∧ aM c w (dO v k).1 ds := by
 intro v k cs hs b s
 cases v with
 | val t x => grind [dO, aMm, aM]
 | agg f =>
  simp only [aM] at b
  simp only [AV.solid] at hs
  induction f generalizing k cs with
  | nil => grind [dO]
  | cons v f q =>
   simp only [mE] at b
   simp only [List.all_cons, Bool.and_eq_true] at hs
   obtain ⟨c1, j, e, g, r⟩ := b
   cases k with
   | zero => exact ⟨[], c1, j, by simp_all, rfl, g⟩
   | succ k =>
    grind [dO, List.length_append, aLn]
 | _ => grind [dO]
theorem aN2 {w : World} {c : Ctx} (v : AV) (i : Nat) (cs : List Value) (g : aM c w v cs) (h : (elemOf v i).1) : ∃ pre ds post, cs = pre ++ ds ++ post ∧ pre.length = i * aUk v ∧ aM c w (elemOf v i).2 ds := by
 cases v with
 | val t x =>
  cases t with
  | arr n t =>
   simp only [elemOf] at h ⊢
   obtain ⟨r, f, e, z, b⟩ := g
   obtain ⟨pre, post, s, hp⟩ := pB (t := t) (css := f) (fun j q => bB.length _ _ _ (b j (by omega) q)) i (by omega)
   refine ⟨pre, f[i], post, by grind, hp, ?_⟩
   have := b i (by omega) (by omega)
   simp only [aM]
   rw [List.getD_eq_getElem?_getD, List.getElem?_eq_getElem (by omega)]
   exact this
  | _ => exact h.elim
 | _ => exact h.elim
def zW : AV → List Step → Prop × AV
 | v, [] => (True, v)
 | v, .fld off k :: p => (v.solid = true ∧ off = (dO v k).2 ∧ (zW (dO v k).1 p).1, (zW (dO v k).1 p).2)
 | v, .idx s i :: p => ((elemOf v i).1 ∧ s = aUk v ∧ (zW (elemOf v i).2 p).1, (zW (elemOf v i).2 p).2)
theorem bAT : ∀ (p : List Step), (zW .junk p).1 → (zW .junk p).2 = .junk
 | [], _ => rfl
 | .fld off k :: p, h => by simp [zW, AV.solid, AV.solid1] at h
 | .idx s i :: p, h => by simp [zW, elemOf] at h
theorem aMn {w : World} {c : Ctx} : ∀ (p : List Step) (v : AV) (cs : List Value), aM c w v cs → (zW v p).1 → (zW v p).2 ≠ .junk → ∃ pre ds post, cs = pre ++ ds ++ post ∧ pre.length = oF p ∧ aM c w (zW v p).2 ds
 | [], v, cs, g, _, _ => ⟨[], cs, [], by simp, rfl, g⟩
 | .fld off k :: p, v, cs, g, h, j => by
  simp only [zW] at h j ⊢
  obtain ⟨hs, N, q⟩ := h
  have J : (dO v k).1 ≠ .junk := fun e => by grind [bAT]
  obtain ⟨pre, ds, post, e, hp, hd⟩ := aRu v k cs hs g J
  obtain ⟨f, r, b, L, z, I⟩ := aMn p _ ds hd q j
  grind [List.length_append, oF, Step.off]
 | .idx s i :: p, v, cs, g, h, j => by
  simp only [zW] at h j ⊢
  obtain ⟨hs, N, q⟩ := h
  obtain ⟨pre, ds, post, e, hp, hd⟩ := aN2 v i cs g hs
  obtain ⟨f, r, b, L, z, I⟩ := aMn p _ ds hd q j
  grind [List.length_append, oF, Step.off]
end Go.Vc
namespace Go.Vc
open Go.RowKit
inductive RK where
 | none
 | one (t : Ty)
 | own (e : TypeId) (t : Ty)
 | tup (t : Ty)
def RK.ty : RK → Ty
 | .none => .unit
 | .one t => t
 | .own _ t => .sl t
 | .tup t => t
structure aG where
 args : Ty
 res : RK
 pre : args.den → Prop
 fn : args.den → res.ty.den
def qI (w : World) (S : Nat → Prop) : (t : Ty) → t.den → List Value → Prop
 | .unit, _, f => f = []
 | .pair a r, x, f => ∃ v b, f = v :: b ∧ dE w S a x.1 v ∧ qI w S r x.2 b
 | _, _, _ => False
def bAU (w : World) (S : Nat → Prop) (B : Nat) : (r : RK) → r.ty.den → Value → Prop
 | .none, _, v => v = .tuple #[]
 | .one t, x, v => dE w (fun b => S b ∨ (B ≤ b ∧ b < w.heap.size)) t x v
 | .own e t, g, v => ∃ f : List Value, w.ownsRow B e t.cells v g.length f ∧ bB w (fun b => S b ∨ (B ≤ b ∧ b < w.heap.size ∧ aX v ≠ some b)) (.arr g.length t) g f
 | .tup t, x, v => ∃ vs : List Value, v = .tuple vs.toArray ∧ qI w (fun b => S b ∨ (B ≤ b ∧ b < w.heap.size)) t x vs
def nothing : Nat → Prop := fun _ => False
@[reducible] def top (S : Nat → Prop) : Perm := ⟨nothing, S, 0, fun _ => Go.undef⟩
def sG (G : Nat → AV) (S : Nat → Prop) (w : World) : Prop := ∀ g, aW ⟨S, fun _ => Go.undef, 0, fun _ _ => False⟩ w (G g) (.pointer (some ⟨g, 0, none⟩))
def FOK (P : Program) (G : Nat → AV) (f : FuncId) (sp : aG) : Prop :=
 ∀ (w : World) (S : Nat → Prop) (vs : Array Value) (x : sp.args.den), (∀ b, S b → b < w.heap.size) → sG G S w → qI w S sp.args x vs.toList → sp.pre x →
  Calls P f vs w fun e w' => ∃ v, e = .returned v ∧ jC nothing w w' ∧ bAU w' S w.heap.size sp.res (sp.fn x) v
structure Env where
 T : Tab
 G : Nat → AV
 Γ : FuncId → List AV → Option aG
 el : TypeId → TypeId
 mp : TypeId → Option (TypeId × TypeId)
 dm : TypeId → Option Mk := fun _ => none
 dz : TypeId → Bool := fun _ => false
def aWJ (T : Tab) (t : TypeId) : AV → AV
 | .flat l => match T t with
  | some c => match AV.as [] c (.flat l) with
   | some x => .val c x
   | none => .flat l
  | none => .flat l
 | v => v
def aIU (T : Tab) (h : List Obj) (t : TypeId) : AV → Prop × AV
 | .roa c x => (T t = some c, .val c x)
 | .ptr i p => match h[i]? with
  | some (.box _ v) => ((zW v p).1 ∧ (zW v p).2.solid = true ∧ ∃ c, T t = some c ∧ c.isAgg = (zW v p).2.isAgg ∧ c.cells = (zW v p).2.nc, (zW v p).2)
  | some (.row _ c b) => match p with
   | .idx s k :: p => (k < b.length ∧ s = c.cells ∧ (zW (.val c (b.getD k c.zero)) p).1 ∧ (zW (.val c (b.getD k c.zero)) p).2.solid = true ∧
     ∃ c', T t = some c' ∧ c'.isAgg = (zW (.val c (b.getD k c.zero)) p).2.isAgg ∧ c'.cells = (zW (.val c (b.getD k c.zero)) p).2.nc, (zW (.val c (b.getD k c.zero)) p).2)
   | _ => (False, .junk)
  | some (.trh _ _ c b k v) => match p with
   | .idx s f :: p => (f = k ∧ s = c.cells ∧ (zW v p).1 ∧ (zW v p).2.solid = true ∧ ∃ c', T t = some c' ∧ c'.isAgg = (zW v p).2.isAgg ∧ c'.cells = (zW v p).2.nc, (zW v p).2)
   | _ => (False, .junk)
  | _ => (False, .junk)
 | _ => (False, .junk)
noncomputable def aCR (T : Tab) (op : BinOp) (t : TypeId) : AV → AV → Prop × AV
 | .val (.u k) a, .val (.u f) b => match op with
  | .shl => shU .shl k a b
  | .shr => shU .shr k a b
  | op => if f = k then aU6 op k a b else (False, .junk)
 | .val (.i k) a, .val (.i f) b => match op with
  | .shl => (0 ≤ b ∧ b ≤ k.bits ∧ (shI .shl k a b.toNat).1, (shI .shl k a b.toNat).2)
  | .shr => (0 ≤ b, (shI .shr k a b.toNat).2)
  | op => if f = k then bBN op k a b else (False, .junk)
 | .val (.u k) a, .val (.i _) b => match op with
  | .shl => (0 ≤ b, (shU .shl k a b.toNat).2)
  | .shr => (0 ≤ b, (shU .shr k a b.toNat).2)
  | _ => (False, .junk)
 | .val (.i k) a, .val (.u _) b => match op with
  | .shl => (b ≤ k.bits ∧ (shI .shl k a b).1, (shI .shl k a b).2)
  | .shr => (True, (shI .shr k a b).2)
  | _ => (False, .junk)
 | .val .str a, .val .str b => bBO op a b
 | .val .bool a, .val .bool b => (T t = some .bool ∧ (bEm op a b).1, (bEm op a b).2)
 | .val (.pair p q) a, .val g b => if e : g = .pair p q then (match op with
   | .eql => (T t = some (.pair p q) ∧ (Ty.pair p q).cmpB = true ∧ (Ty.pair p q).deep ≤ 100, .val .bool ((Ty.pair p q).eqb a (e ▸ b)))
   | .neq => (T t = some (.pair p q) ∧ (Ty.pair p q).cmpB = true ∧ (Ty.pair p q).deep ≤ 100, .val .bool (!(Ty.pair p q).eqb a (e ▸ b)))
   | _ => (False, .junk)) else (False, .junk)
 | .val (.arr n q) a, .val g b => if e : g = .arr n q then (match op with
   | .eql => (T t = some (.arr n q) ∧ (Ty.arr n q).cmpB = true ∧ (Ty.arr n q).deep ≤ 100, .val .bool ((Ty.arr n q).eqb a (e ▸ b)))
   | .neq => (T t = some (.arr n q) ∧ (Ty.arr n q).cmpB = true ∧ (Ty.arr n q).deep ≤ 100, .val .bool (!(Ty.arr n q).eqb a (e ▸ b)))
   | _ => (False, .junk)) else (False, .junk)
 | _, _ => (False, .junk)
noncomputable def aYF (f : UnOp) : AV → Prop × AV
 | .val .bool b => match f with
  | .not => (True, .val .bool (!b))
  | _ => (False, .junk)
 | .val (.i k) a => match f with
  | .neg => (fits k (0 - a), .val (.i k) (0 - a))
  | _ => (False, .junk)
 | .val (.u k) a => match f with
  | .neg => (True, .val (.u k) (aWF k a))
  | .xor => (True, .val (.u k) ((lC k - 1) ^^^ a))
  | _ => (False, .junk)
 | _ => (False, .junk)
def aN3 (T : Tab) (src dst : TypeId) (x : AV) : Prop × AV :=
 match T dst, x with
 | some (.u k), .val (.u b) n => ((T src).isSome = true, .val (.u k) (if b.bits ≤ k.bits then n else n % lC k))
 | some (.u k), .val (.i _) n => ((T src).isSome = true, .val (.u k) (n % (lC k : Int)).toNat)
 | some (.i k), .val (.u b) n => ((T src).isSome = true, .val (.i k) (if b.bits < k.bits then (n : Int) else k.wrap n))
 | some (.i k), .val (.i b) n => ((T src).isSome = true, .val (.i k) (if b.bits ≤ k.bits then n else k.wrap n))
 | some .str, .val .str s => (T src = some .str, .val .str s)
 | _, _ => (False, .junk)
def aCS : AV → Option Int
 | .val (.i _) n => some n
 | .val (.u _) n => some n
 | _ => none
def aAp (T : Tab) (s : TypeId) (x : AV) (k : Nat) : Prop × AV :=
 match x with
 | .ptr i p => match T s with
  | some c => (c.isAgg = true ∧ fldT c k, .ptr i (p ++ [.fld (c.fieldOff k) k]))
  | none => (False, .junk)
 | .roa c x => match aIw c x k with
  | .val f y => (T s = some c, .roa f y)
  | _ => (False, .junk)
 | _ => (False, .junk)
where
 fldT : Ty → Nat → Prop
 | .pair _ _, 0 => True
 | .pair _ r, k + 1 => fldT r k
 | .expr, k => k < 3
 | _, _ => False
def Ty.fldTy : Ty → Nat → Option Ty
 | .pair a _, 0 => some a
 | .pair _ r, k + 1 => r.fldTy k
 | _, _ => none
def aJ8 (T : Tab) (s : TypeId) (x : AV) (k : Nat) : Prop × AV :=
 match x with
 | .val c y => (T s = some c ∧ aIw c y k ≠ .junk, aIw c y k)
 | .agg b => (∃ f, T s = some f ∧ b.all AV.solid1 = true ∧ (dO (.agg b) k).1.solid1 = true ∧ (dO (.agg b) k).2 = f.fieldOff k ∧ ∃ c', f.fldTy k = some c' ∧ c'.isAgg = (dO (.agg b) k).1.isAgg ∧ c'.cells = (dO (.agg b) k).1.nc1, (dO (.agg b) k).1)
 | _ => (False, .junk)
def aMo (T : Tab) (h : List Obj) (t : TypeId) (x f : AV) : Prop × AV :=
 match aCS f with
 | none => (False, .junk)
 | some i =>
  match x with
  | .val (.sl c) b => (T t = some (.sl c) ∧ 0 ≤ i ∧ i < (b.length : Int), .roa c (b.getD i.toNat c.zero))
  | .full c b => (T t = some (.sl c) ∧ 0 ≤ i ∧ i < (b.length : Int), .roa c (b.getD i.toNat c.zero))
  | .own k => match h[k]? with
   | some (.row _ c b) => (T t = some (.sl c) ∧ 0 ≤ i ∧ i < (b.length : Int), .ptr k [.idx c.cells i.toNat])
   | some (.frz c b) => (T t = some (.sl c) ∧ 0 ≤ i ∧ i < (b.length : Int), .roa c (b.getD i.toNat c.zero))
   | some (.tre _ _ c b) => (T t = some (.sl c) ∧ 0 ≤ i ∧ i < (b.length : Int), .ptr k [.idx c.cells i.toNat])
   | some (.trh _ _ c b _ _) => (T t = some (.sl c) ∧ 0 ≤ i ∧ i < (b.length : Int), .ptr k [.idx c.cells i.toNat])
   | _ => (False, .junk)
  | .sub k s off n => match h[k]? with
   | some (.row _ c b) => (T t = some (.sl c) ∧ s = c.cells ∧ 0 ≤ i ∧ i < (n : Int), .ptr k [.idx c.cells (off + i.toNat)])
   | _ => (False, .junk)
  | .ptr k p => match T t with
   | some (.arr n c) => (0 ≤ i ∧ i < (n : Int), .ptr k (p ++ [.idx c.cells i.toNat]))
   | _ => (False, .junk)
  | .roa (.arr n c) b => (T t = some (.arr n c) ∧ 0 ≤ i ∧ i < (n : Int), .roa c (b.getD i.toNat c.zero))
  | _ => (False, .junk)
def aMp (T : Tab) (t : TypeId) (x f : AV) : Prop × AV :=
 match aCS f with
 | none => (False, .junk)
 | some i =>
  match x with
  | .val (.arr n c) b => (T t = some (.arr n c) ∧ 0 ≤ i ∧ i < (n : Int), .val c (b.getD i.toNat c.zero))
  | .val .str s => (T t = some .str ∧ 0 ≤ i ∧ i < (s.length : Int), .val (.u .u8) (s.getD i.toNat 0))
  | _ => (False, .junk)
def aIV (T : Tab) (h : List Obj) (t : TypeId) (x : AV) : Prop × AV :=
 match x with
 | .val .str s => (T t = some .str, .val (.i .i64) (s.length : Int))
 | .val (.sl c) b => (T t = some (.sl c), .val (.i .i64) (b.length : Int))
 | .full c b => (T t = some (.sl c), .val (.i .i64) (b.length : Int))
 | .nilS => (∃ c, T t = some (.sl c), .val (.i .i64) 0)
 | .own k => match h[k]? with
  | some (.row _ c b) => (T t = some (.sl c), .val (.i .i64) (b.length : Int))
  | some (.frz c b) => (T t = some (.sl c), .val (.i .i64) (b.length : Int))
  | some (.tre _ _ c b) => (T t = some (.sl c), .val (.i .i64) (b.length : Int))
  | some (.trh _ _ c b _ _) => (T t = some (.sl c), .val (.i .i64) (b.length : Int))
  | _ => (False, .junk)
 | .sub _ _ _ n => (∃ c, T t = some (.sl c), .val (.i .i64) (n : Int))
 | .val (.arr n c) _ => (T t = some (.arr n c), .val (.i .i64) (n : Int))
 | _ => (False, .junk)
def fL : Obj → Obj
 | .frz t b => .frz t b
 | _ => .dead
def aYG (h : List Obj) (c : Ty) (x : AV) : Option (List c.den) := AV.as (h.map fL) (.sl c) x
def aMq (T : Tab) (h : List Obj) (t : TypeId) (x : AV) (lo hi mx : Option AV) : Prop × AV :=
 match T t with
 | some .str => match x, mx with
  | .val .str s, none => match lo.map aCS, hi.map aCS with
   | none, none => (True, .val .str s)
   | some (some l), none => (0 ≤ l ∧ l ≤ (s.length : Int), .val .str (s.drop l.toNat))
   | none, some (some u) => (0 ≤ u ∧ u ≤ (s.length : Int), .val .str (s.take u.toNat))
   | some (some l), some (some u) => (0 ≤ l ∧ l ≤ u ∧ u ≤ (s.length : Int), .val .str ((s.take u.toNat).drop l.toNat))
   | _, _ => (False, .junk)
  | _, _ => (False, .junk)
 | some (.sl c) => match aYG h c x with
  | some b => match lo.map aCS, hi.map aCS, mx.map aCS with
   | none, none, none => (True, .val (.sl c) b)
   | some (some l), none, none => (0 ≤ l ∧ l ≤ (b.length : Int), .val (.sl c) (b.drop l.toNat))
   | none, some (some u), none => (0 ≤ u ∧ u ≤ (b.length : Int), .val (.sl c) (b.take u.toNat))
   | some (some l), some (some u), none => (0 ≤ l ∧ l ≤ u ∧ u ≤ (b.length : Int), .val (.sl c) ((b.take u.toNat).drop l.toNat))
   | none, some (some u), some (some m) => (0 ≤ u ∧ u ≤ (b.length : Int) ∧ m = u, .full c (b.take u.toNat))
   | some (some l), some (some u), some (some m) => (0 ≤ l ∧ l ≤ u ∧ u ≤ (b.length : Int) ∧ m = u, .full c ((b.take u.toNat).drop l.toNat))
   | _, _, _ => (False, .junk)
  | none => (False, .junk)
 | _ => (False, .junk)
def bBS (c : Ty) : AV := .val c c.zero
def aAB : Ty → List AV
 | .pair a r => bBS a :: aAB r
 | _ => []
def bAV : List AV → List (Nat × AV) → List AV
 | l, [] => l
 | l, (k, v) :: r => bAV (l.set k v) r
def Ty.flds : Ty → List Ty
 | .pair a r => a :: r.flds
 | _ => []
def aJ9 (ts : List Ty) : List (Nat × AV) → Prop
 | [] => True
 | (k, v) :: r => (v.solid1 = true ∧ ∃ t, ts[k]? = some t ∧ v.nc1 = t.cells) ∧ aJ9 ts r
def aVb (c : Ty) : List c.den → List (Nat × AV) → Option (List c.den)
 | l, [] => some l
 | l, (k, v) :: r => match AV.as [] c v with
  | some x => if k < l.length then aVb c (l.set k x) r else none
  | none => none
def aIW (c : Ty) (l : List AV) : AV :=
 match AV.as [] c (.agg l) with
 | some x => .val c x
 | none => .agg l
def aKa (T : Tab) (t : TypeId) (ps : List (Nat × AV)) : Prop × AV :=
 match T t with
 | some (.pair a r) => ((Ty.pair a r).okB = true ∧ aJ9 (Ty.pair a r).flds ps, aIW (.pair a r) (bAV (aAB (.pair a r)) ps))
 | some .unit => (ps = [], .val .unit ())
 | some .expr => (aJ9 [.i .i64, .str, .sl .expr] ps, aIW .expr (bAV [.val (.i .i64) 0, .val .str [], .nilS] ps))
 | some (.arr n c) => match aVb c (List.replicate n c.zero) ps with
  | some l => (c.okB = true, .val (.arr n c) l)
  | none => (False, .junk)
 | _ => (False, .junk)
def mA : Ty → List AV
 | .pair (.sl _) r => .nilS :: mA r
 | .pair a r => .val a a.zero :: mA r
 | _ => []
def aKb : Ty → Bool
 | .pair _ r => aKb r
 | .unit => true
 | _ => false
def aN4 (T : Tab) (t : TypeId) (ps : List (Nat × AV)) : Prop × AV :=
 match T t with
 | some (.pair a r) => ((Ty.pair a r).okB = true ∧ aJ9 (Ty.pair a r).flds ps, .agg (bAV (mA (.pair a r)) ps))
 | _ => (False, .junk)
def aBl (T : Tab) (t : TypeId) (n : Nat) (ps : List (Nat × AV)) : Prop × AV :=
 match T t with
 | some (.sl c) => match aVb c (List.replicate n c.zero) ps with
  | some l => (c.okB = true ∧ n * c.cells ≤ 16777216 ∧ n ≤ maxLen, .full c l)
  | none => (False, .junk)
 | _ => (False, .junk)
def mm2 (mx : Bool) : AV → AV → Prop × AV
 | .val (.i k) a, .val (.i f) b => if f = k then (True, .val (.i k) (if mx then max a b else min a b)) else (False, .junk)
 | .val (.u k) a, .val (.u f) b => if f = k then (True, .val (.u k) (if mx then max a b else min a b)) else (False, .junk)
 | _, _ => (False, .junk)
def bBT (mx : Bool) : List AV → Prop × AV
 | [x, y] => mm2 mx x y
 | [x, y, z] => ((mm2 mx x y).1 ∧ (mm2 mx (mm2 mx x y).2 z).1, (mm2 mx (mm2 mx x y).2 z).2)
 | _ => (False, .junk)
def aDF : (t : Ty) → t.den → List AV
 | .pair a r, x => .val a x.1 :: aDF r x.2
 | _, _ => []
def bBU : (r : RK) → r.ty.den → AV
 | .one t, x => .val t x
 | .tup t, x => .tup (aDF t x)
 | _, _ => .junk
def Ty.scalar : Ty → Bool
 | .bool => true
 | .u _ => true
 | .i _ => true
 | .str => true
 | .unit => true
 | .pair a b => a.scalar && b.scalar
 | .arr _ t => t.scalar
 | _ => false
def aCn (h : List Obj) : (t : Ty) → List AV → Option t.den
 | .unit, [] => some ()
 | .pair a r, v :: vs => match AV.as h a v, aCn h r vs with
  | some x, some y => some (x, y)
  | _, _ => none
 | _, _ => none
def aG4 (Γ : FuncId → List AV → Option aG) (h : List Obj) (f : FuncId) (vs : List AV) : Prop × AV :=
 match Γ f vs with
 | some sp => match sp.res with
  | .own _ _ => (False, .junk)
  | _ => match aCn (if sp.res.ty.scalar then h else h.map fL) sp.args vs with
   | some x => (sp.pre x, bBU sp.res (sp.fn x))
   | none => (False, .junk)
 | none => (False, .junk)
end Go.Vc
namespace Go.Vc
open Go.RowKit
theorem vP (b off j : Nat) : (Addr.mk b off none).add j = ⟨b, off + j, none⟩ := by
 grind [Addr.add]
theorem aRv {c : Ctx} {w : World} {v : AV} {cs : List Value} (hs : v.solid1 = true) (j : aM c w v cs) : ∀ u ∈ cs, one u := by
 cases v <;> simp [AV.solid1] at hs <;> simp only [aM] at j
 case val t x => grind [bB.one]
 case full t xs => obtain ⟨a, n, e, _⟩ := j; subst e; intro u g; simp at g; subst g; trivial
 case ptr i p => obtain ⟨_, b, _, e⟩ := j; subst e; intro u g; simp at g; subst g; trivial
 case roa t x => obtain ⟨b, off, ds, e, _⟩ := j; subst e; intro u g; simp at g; subst g; trivial
 case fn f a b => rw [j.2.2]; intro u g; simp at g; subst g; trivial
 case own i => simp_all
 case mp i => simp_all
 all_goals (rw [j]; intro u g; simp at g; subst g; trivial)
theorem aN5 {c : Ctx} {w : World} {v : AV} {cs : List Value} (hs : v.solid = true) (f : aM c w v cs) : ∀ u ∈ cs, one u := by
 cases v
 case agg vs =>
  simp only [aM] at f
  simp only [AV.solid] at hs
  induction vs generalizing cs with
  | nil => grind [mE]
  | cons v r g =>
   simp only [List.all_cons, Bool.and_eq_true] at hs
   simp only [mE] at f
   obtain ⟨c1, z, e, q, s⟩ := f
   intro u b
   rw [e] at b
   rcases List.mem_append.1 b with b | b
   ·exact aRv hs.1 q u b
   ·have j := hs.2; exact g (by assumption) (by assumption) u b
 all_goals grind [AV.solid, aRv]
def mkV (agg : Bool) (ds : List Value) : Value := if agg then .agg ds.toArray else ds.headD Go.undef
theorem bGt {c : Ctx} {w : World} {v : AV} {ds : List Value} (hs : v.solid = true) (j : aM c w v ds) (g : v.isAgg = false → ds.length = 1) : aW c w v (mkV v.isAgg ds) := by
 have r := aN5 hs j
 have b : xD c w v (mkV v.isAgg ds) := by
  unfold mkV
  cases q : v.isAgg
  ·have s := g q
   match ds, s with
   | [u], _ =>
    have f := r u (by simp)
    simp only [Bool.false_eq_true, if_false, List.headD_cons]
    refine ⟨?_, (fun h => by simp_all), (fun _ z e => by subst e; exact f)⟩
    have : u.cells.toList = [u] := by cases u <;> first | rfl | exact f.elim
    simp_all
  ·simp only [if_true]
   exact ⟨by grind [Value.cells], fun _ => ⟨_, rfl⟩, fun h => by simp_all⟩
 cases v <;> first | exact b | grind [AV.solid, AV.solid1]
section
variable {P : Program} {T : Tab} {M : Perm} {w0 : World} {c : Ctx} {h : List Obj} {w : World}
theorem aG5 {t : TypeId} {q : Ty} (g : aDU P T t q) {v : AV} {ds : List Value} {b off : Nat} (hs : v.solid = true) (z : q.isAgg = v.isAgg) (r : q.cells = v.nc) (s : aM c w v ds) (hc : lY w b off ds) :
  ∃ u, (loadVar t ⟨b, off, none⟩).run P w = .ok u w ∧ aW c w v u := by
 have J := aRt hs s
 have I : v.isAgg = false → ds.length = 1 := fun h0 => by
  rw [J, ← r]; rw [h0] at z
  cases q <;> simp_all [Ty.isAgg, Ty.cells]
 refine ⟨mkV v.isAgg ds, ?_, bGt hs s I⟩
 unfold loadVar
 rw [Sem.run_bind, aGg g, Result.andThen_ok, z]
 cases hb : v.isAgg
 ·match ds, I hb with
  | [u], _ =>
   have := hc 0 u rfl
   simp_all [Nat.add_zero, mkV, load, Sem.run]
 ·have f := run_loadCells_list (P := P) w ⟨b, off, none⟩ ds (fun j u L => by rw [vP]; exact hc j u L)
  rw [J, ← r] at f
  simp [fK g, f, mkV]
theorem wB {b : Nat} {cells : Array Value} {e : TypeId} {fz : Nat × Nat} (hb : w.heap[b]? = some (.cells cells e fz)) {pre ds post : List Value} (hc : cells.toList = pre ++ ds ++ post) : lY w b pre.length ds := by
 intro j v f
 grind [World.cell?, aIT]
theorem aDV {b off : Nat} {cs pre ds post : List Value} (hc : lY w b off cs) (q : cs = pre ++ ds ++ post) : lY w b (off + pre.length) ds := by
 intro j v g
 have f : j < ds.length := by
  grind
 have : cs[pre.length + j]? = some v := by
  grind
 have := hc _ _ this
 grind
theorem aRw : ∀ (t : Ty) (x : t.den) (k : Nat), aIw t x k = .junk ∨ ∃ f y, aIw t x k = .val f y
 | .pair a _, x, 0 => .inr ⟨a, x.1, rfl⟩
 | .pair _ r, x, k + 1 => aRw r x.2 k
 | .expr, x, 0 => .inr ⟨_, _, rfl⟩
 | .expr, x, 1 => .inr ⟨_, _, rfl⟩
 | .expr, x, 2 => .inr ⟨_, _, rfl⟩
 | .expr, x, k + 3 => .inl rfl
 | .bool, _, _ => .inl rfl
 | .u _, _, _ => .inl rfl
 | .i _, _, _ => .inl rfl
 | .str, _, _ => .inl rfl
 | .sl _, _, _ => .inl rfl
 | .unit, _, _ => .inl rfl
 | .arr _ _, _, _ => .inl rfl
 | .rp _, _, _ => .inl rfl
 | .clo _ _, _, _ => .inl rfl
 | .ifc _ _, _, _ => .inl rfl
 | .nili, _, _ => .inl rfl
 | .nilp, _, _ => .inl rfl
 | .nilf, _, _ => .inl rfl
theorem aG6 {i : Nat} {p : List Step} {v : Value} (hv : aW c w (.ptr i p) v) : i < c.n ∧ ∃ b, aX (c.hd i) = some b ∧ v = .pointer (some ⟨b, oF p, none⟩) := by
 obtain ⟨g, _, f⟩ := hv
 simp only [aM] at g
 obtain ⟨hi, b, hb, hc⟩ := g
 refine ⟨hi, b, hb, ?_⟩
 have f := f rfl
 simp_all [Value.cells, congrArg]
theorem aRa {t : Ty} {x : t.den} {v : Value} (hv : aW c w (.roa t x) v) : ∃ b off ds, v = .pointer (some ⟨b, off, none⟩) ∧ c.S b ∧ bB w c.S t x ds ∧ lY w b off ds := by
 obtain ⟨g, _, f⟩ := hv
 simp only [aM] at g
 obtain ⟨b, off, ds, hc, h⟩ := g
 refine ⟨b, off, ds, ?_, h⟩
 have f := f rfl
 simp_all [Value.cells, congrArg]
theorem aKc {i : Nat} {p : List Step} {b : Nat} (hi : i < c.n) (hb : aX (c.hd i) = some b) : aW c w (.ptr i p) (.pointer (some ⟨b, oF p, none⟩)) :=
 ⟨⟨hi, b, hb, rfl⟩, (fun h => by cases h), (fun _ f => by simp)⟩
theorem aFo {t : Ty} {x : t.den} {b off : Nat} {ds : List Value} (hb : c.S b) (hd : bB w c.S t x ds) (hc : lY w b off ds) : aW c w (.roa t x) (.pointer (some ⟨b, off, none⟩)) :=
 ⟨⟨b, off, ds, rfl, hb, hd, hc⟩, (fun h => by cases h), (fun _ f => by simp)⟩
theorem bBV {e : TypeId} {t : Ty} {xs : List t.den} {v : Value} {b : Nat} (J : aDt c w e t xs v) (hb : aX v = some b) {k : Nat} (hk : k < xs.length) :
  ∃ ds, bB w c.S t (xs.getD k t.zero) ds ∧ lY w b (k * t.cells) ds := by
 obtain ⟨z, r, _, f, O, hl, q⟩ := J
 obtain ⟨s, hv⟩ := r
 rcases hv with ⟨rfl, h0⟩ | ⟨g, Y, N, rfl, _, hheap, W, I, L, htake⟩
 ·omega
 ·simp [aX] at hb
  subst hb
  refine ⟨f[k], ?_, ?_⟩
  ·simp_all
  ·obtain ⟨pre, post, Z, hp⟩ := pB (t := t) (css := f) (fun j U => bB.length _ _ _ (q j (by omega) U)) k (by omega)
   grind [List.append_assoc, List.take_append_drop, wB]
theorem bAW {i b k : Nat} {e : TypeId} {m : Mk} {t : Ty} {xs : List t.den} {v : AV} (s : aG0 c w i (.trh e m t xs k v)) (hb : aX (c.hd i) = some b) : ∃ ds, aM c w v ds ∧ lY w b (k * t.cells) ds := by
 obtain ⟨f, Bs, q⟩ := s
 have hk := q.kl
 have W := q.lc
 have N := q.lb
 rcases q.row.2 with ⟨_, h0⟩ | ⟨g, Z, L, z, _, hheap, Y, I, J, htake⟩
 ·omega
 ·rw [z] at hb
  simp [aX] at hb
  subst hb
  obtain ⟨r, O⟩ := q.hv (by omega)
  refine ⟨f[k], r, ?_⟩
  obtain ⟨pre, post, hf, hp⟩ := pB (t := t) (css := f) (fun j U => by
   by_cases e : j = k
   ·simp_all
   ·exact lH.length _ _ _ _ _ (q.el j (by omega) U (by omega) e)) k (by omega)
  grind [List.append_assoc, List.take_append_drop, wB]
theorem aZO (O : lP P T) (hg : Good M w0 c h w) {t : TypeId} {av : AV} {v : Value} (hv : aW c w av v) (hc : (aIU T h t av).1) :
  ∃ u, (Instr.loadAt t v).run P w = .ok u w ∧ aW c w (aIU T h t av).2 u := by
 cases av with
 | roa g x =>
  simp only [aIU] at hc ⊢
  obtain ⟨b, off, ds, rfl, hb, hd, hcell⟩ := aRa hv
  have Y := O _ _ hc
  obtain ⟨u, U, hr⟩ := aG5 (v := .val g x) (c := c) Y rfl rfl rfl hd hcell
  grind [Instr.loadAt, Instr.sureAddr]
 | ptr i p =>
  obtain ⟨hi, b, hb, rfl⟩ := aG6 hv
  simp only [aIU] at hc ⊢
  cases N : h[i]? with
  | none => simp_all
  | some o =>
   have j := hg.objs i o N
   cases o with
   | box nb v =>
    simp only [N] at hc ⊢
    obtain ⟨L, f, g, r, z, I⟩ := hc
    obtain ⟨b', cells, e, hhd, hheap, hsz, W⟩ := j
    rw [hhd] at hb
    simp [aX] at hb
    subst hb
    have J : (zW v p).2 ≠ .junk := fun e => by rw [e] at f; cases f
    obtain ⟨pre, ds, post, e1, hp, hd⟩ := aMn p v _ W L J
    obtain ⟨u, U, hr⟩ := aG5 (O _ _ r) f z I hd (wB hheap e1)
    grind [Instr.loadAt, Instr.sureAddr]
   | row e g xs =>
    simp only [N] at hc ⊢
    cases p with
    | nil => simp_all
    | cons s p =>
     cases s with
     | fld _ _ => simp_all
     | idx s k =>
      simp only at hc ⊢
      obtain ⟨hk, hs, L, f, c', r, z, I⟩ := hc
      obtain ⟨ds, q, hcell⟩ := bBV j hb hk
      have J : (zW (.val g (xs.getD k g.zero)) p).2 ≠ .junk := fun e => by rw [e] at f; cases f
      obtain ⟨pre, Z, post, e1, hp, hd⟩ := aMn p (.val g (xs.getD k g.zero)) ds q L J
      obtain ⟨u, U, hr⟩ := aG5 (O _ _ r) f z I hd (aDV hcell e1)
      grind [Instr.loadAt, Instr.sureAddr, oF, Step.off]
   | trh e m g xs kk v =>
    simp only [N] at hc ⊢
    cases p with
    | nil => simp_all
    | cons s p =>
     cases s with
     | fld _ _ => simp_all
     | idx s k =>
      simp only at hc ⊢
      obtain ⟨rfl, hs, L, f, c', r, z, I⟩ := hc
      obtain ⟨ds, q, hcell⟩ := bAW j hb
      have J : (zW v p).2 ≠ .junk := fun e => by rw [e] at f; cases f
      obtain ⟨pre, Z, post, e1, hp, hd⟩ := aMn p v ds q L J
      obtain ⟨u, U, hr⟩ := aG5 (O _ _ r) f z I hd (aDV hcell e1)
      grind [Instr.loadAt, Instr.sureAddr, oF, Step.off]
   | _ => simp_all
 | _ => exact hc.elim
theorem aRx : ∀ {j : List Field} {off : Nat} {t : Ty} {k : Nat}, dW T j off t = true → aAp.fldT t k → ∃ f, j[k]? = some f ∧ f.offset = off + t.fieldOff k ∧ ∃ g, T f.type = some g ∧ 0 < g.cells ∧ (∀ x, ∃ y, aIw t x k = .val g y)
 | [], off, .unit, k, _, s => s.elim
 | f :: j, off, .pair a r, 0, b, _ => by
  simp only [dW, Bool.and_eq_true, decide_eq_true_eq] at b
  exact ⟨f, rfl, by rw [b.1.1.1.2]; rfl, a, b.1.1.1.1, b.1.2, fun x => ⟨x.1, rfl⟩⟩
 | f :: j, off, .pair a r, k + 1, b, s => by
  simp only [dW, Bool.and_eq_true, decide_eq_true_eq] at b
  obtain ⟨z, J, I, g, q⟩ := aRx b.2 (show aAp.fldT r k from s)
  exact ⟨z, by simp_all, by grind [Ty.fieldOff], g, q.1, q.2.1, fun x => q.2.2 x.2⟩
 | [], _, .pair _ _, _, b, _ => by grind [dW]
 | _ :: _, _, .unit, _, b, _ => by grind [dW]
theorem aKd {s : TypeId} {g : Ty} (z : aDU P T s g) {k : Nat} (ha : g.isAgg = true) (q : aAp.fldT g k) :
  ∃ b f, P.underlying s = some (.struct b) ∧ b[k]? = some f ∧ f.offset = g.fieldOff k ∧ ∃ c', T f.type = some c' ∧ 0 < c'.cells ∧ (∀ x, ∃ y, aIw g x k = .val c' y) := by
 obtain ⟨d, hd, hb⟩ := z.desc
 cases g <;> first | grind [Ty.isAgg] | skip
 all_goals (cases d <;> first | grind [iV] | simp only [iV] at hb)
 case unit.struct b => exact q.elim
 case pair.struct a r b =>
  obtain ⟨f, Y, O, J⟩ := aRx hb q
  simp_all
 case arr.array => exact q.elim
 case expr.struct b =>
  unfold aZJ at hb
  split at hb
  ·rename_i U W L I
   simp only [Bool.and_eq_true, decide_eq_true_eq] at hb
   obtain ⟨⟨⟨⟨⟨Y, O⟩, J⟩, h4⟩, h5⟩, Z⟩ := hb
   have q : k < 3 := q
   have N : ∀ j, b[j]? = [U, W, L][j]? := fun j => by rw [← I, Array.getElem?_toList]
   match k, q with
   | 0, _ => exact ⟨b, U, hd, by simp_all, O, .i .i64, Y, Nat.one_pos, fun x => ⟨_, rfl⟩⟩
   | 1, _ => exact ⟨b, W, hd, by simp_all, h4, .str, J, Nat.one_pos, fun x => ⟨_, rfl⟩⟩
   | 2, _ => exact ⟨b, L, hd, by simp_all, Z, .sl .expr, h5, Nat.one_pos, fun x => ⟨_, rfl⟩⟩
  grind
theorem aZP {t : Ty} : ∀ {x : t.den} {k : Nat}, aIw t x k ≠ .junk → aAp.fldT t k := by
 induction t with
 | pair a r _ b => intro x k h; cases k with
  | zero => trivial
  | succ k => exact b h
 | expr => intro x k h; match k with
  | 0 => exact (by omega : 0 < 3)
  | 1 => exact (by omega : 1 < 3)
  | 2 => exact (by omega : 2 < 3)
  | k + 3 => exact absurd rfl h
 | _ => intro x k h; exact absurd rfl h
theorem aIX {f : Field} {g : Ty} (j : aDU P T f.type g) (q : 0 < g.cells) (b off : Nat) : (fieldPlace ⟨b, off, none⟩ f).run P w = .ok ⟨b, off + f.offset, none⟩ w := by
 have : ¬ g.cells = 0 := by omega
 simp [fieldPlace, fK j, this, Result.andThen, vP]
theorem aG7 : ∀ (p q : List Step), oF (p ++ q) = oF p + oF q
 | [], q => by simp [oF]
 | s :: p, q => by simp [oF, aG7 p q]; omega
theorem bBW (z : lP P T) {s : TypeId} {av : AV} {v : Value} {k : Nat} (hv : aW c w av v) (hc : (aAp T s av k).1) :
  ∃ u, (Instr.fieldAt s v k).run P w = .ok u w ∧ aW c w (aAp T s av k).2 u := by
 cases av with
 | ptr i p =>
  obtain ⟨hi, b, hb, rfl⟩ := aG6 hv
  simp only [aAp] at hc ⊢
  cases ht : T s with
  | none => simp_all
  | some j =>
   simp only [ht] at hc ⊢
   obtain ⟨Z, f, O, J, I, c', L, N, _⟩ := aKd (z _ _ ht) hc.1 hc.2
   refine ⟨.pointer (some ⟨b, oF (p ++ [.fld (j.fieldOff k) k]), none⟩), ?_, aKc hi hb⟩
   have g := aIX (w := w) (z _ _ L) N b (oF p)
   simp [Instr.fieldAt, bA O, J, Instr.sureAddr, g, Result.andThen, aG7, oF, Step.off, I]
 | roa j x =>
  obtain ⟨b, off, ds, rfl, hb, hd, hcell⟩ := aRa hv
  simp only [aAp] at hc ⊢
  rcases aRw j x k with hj | ⟨f, y, W⟩
  ·simp_all
  ·simp only [W] at hc ⊢
   have q : aIw j x k ≠ .junk := by simp_all
   have U : j.isAgg = true := by
    cases j <;> first | rfl | exact absurd rfl q
   obtain ⟨Z, fd, O, J, I, c', L, N, h6⟩ := aKd (z _ _ hc) U (aZP q)
   obtain ⟨pre, Y, post, e, hp, r⟩ := aMm (c := c) j x k ds hd q
   rw [W] at r
   have hcell' := aDV hcell e
   rw [hp] at hcell'
   refine ⟨.pointer (some ⟨b, off + j.fieldOff k, none⟩), ?_, aFo hb r hcell'⟩
   have g := aIX (w := w) (z _ _ L) N b off
   simp [Instr.fieldAt, bA O, J, Instr.sureAddr, g, Result.andThen, I]
 | _ => exact hc.elim
theorem bBX : ∀ {t : Ty} {k : Nat} {c' : Ty}, t.fldTy k = some c' → aAp.fldT t k ∧ ∀ x : t.den, ∃ y, aIw t x k = .val c' y := by
 intro t
 induction t with
 | pair a r _ f =>
  intro k c' h
  cases k with
  | zero => simp only [Ty.fldTy, Option.some.injEq] at h; subst h; exact ⟨trivial, fun x => ⟨x.1, rfl⟩⟩
  | succ k => obtain ⟨g, b⟩ := f (show r.fldTy k = some c' from h); exact ⟨g, fun x => b x.2⟩
 | _ => grind [Ty.fldTy]
theorem bAX {t : TypeId} {f : Ty} (g : aDU P T t f) {cs : Array Value} {pre ds post : List Value} (r : cs.toList = pre ++ ds ++ post) {v : AV} (hs : v.solid1 = true) (I : f.isAgg = v.isAgg) (z : f.cells = v.nc1) (hd : aM c w v ds) (w' : World) :
  ∃ u, (part t cs pre.length).run P w' = .ok u w' ∧ aW c w v u := by
 have L := aLn hs hd
 have q : ∀ u : Value, xD c w v u → aW c w v u := fun u h => by cases v <;> first | exact h | grind [AV.solid1]
 by_cases j : f.isAgg = true
 ·refine ⟨.agg (cs.extract pre.length (pre.length + f.cells)), ?_, q _ ⟨?_, fun _ => ⟨_, rfl⟩, fun h => by simp_all⟩⟩
  ·simp [part, aGg g, j, fK g, Result.andThen]
  simp_all [Value.cells, aYC]
 ·have J : f.cells = 1 := by cases f <;> simp_all [Ty.isAgg, Ty.cells]
  obtain ⟨u, rfl⟩ : ∃ u, ds = [u] := by
   match ds, L.trans (z.symm.trans J) with
   | [u], _ => simp_all
  have b := aN5 (v := v) (c := c) (w := w) (by cases v <;> first | exact hs | grind [AV.solid1]) hd u (by simp)
  refine ⟨u, ?_, q _ ⟨?_, fun h => absurd (I.trans h) j, fun _ s e => by subst e; exact b.elim⟩⟩
  ·have := aIT r 0 (v := u) rfl
   simp only [Nat.add_zero] at this
   simp [part, aGg g, j, this]
  ·cases u <;> first | exact hd | exact b.elim
theorem bBY (I : lP P T) {s : TypeId} {av : AV} {v : Value} {k : Nat} (hv : aW c w av v) (hc : (aJ8 T s av k).1) :
  ∃ u, (Instr.field s v k).run P w = .ok u w ∧ aW c w (aJ8 T s av k).2 u := by
 cases av with
 | val j x =>
  simp only [aJ8] at hc ⊢
  obtain ⟨ht, z⟩ := hc
  have b : j.isAgg = true := by cases j <;> first | rfl | exact absurd rfl z
  obtain ⟨fs, fd, h1, h2, h3, c', J, h5, U⟩ := aKd (I _ _ ht) b (aZP z)
  obtain ⟨y, hy⟩ := U x
  obtain ⟨f, r, _⟩ := hv
  obtain ⟨cs, rfl⟩ := r b
  simp only [aM, Value.cells] at f
  obtain ⟨pre, L, post, e, hp, g⟩ := aMm (c := c) j x k _ f z
  rw [hy] at g ⊢
  obtain ⟨u, hu, hr⟩ := aEu (I _ _ J) e g w
  simp_all [Instr.field, bA, asAgg, aW.ofV]
 | agg Z =>
  simp only [aJ8] at hc ⊢
  obtain ⟨j, ht, hs, q, Y, c', hf, ha, hn⟩ := hc
  obtain ⟨W, N⟩ := bBX hf
  have b : j.isAgg = true := by cases j <;> first | rfl | grind [Ty.fldTy]
  obtain ⟨fs, fd, h1, h2, h3, O, J, h5, U⟩ := aKd (I _ _ ht) b W
  obtain ⟨y, hy⟩ := U j.zero
  obtain ⟨y', hy'⟩ := N j.zero
  have ec : O = c' := by simp_all
  subst ec
  obtain ⟨f, r, _⟩ := hv
  obtain ⟨cs, rfl⟩ := r rfl
  have z : (dO (.agg Z) k).1 ≠ .junk := fun e => by rw [e] at q; cases q
  obtain ⟨pre, L, post, e, hp, g⟩ := aRu (c := c) (.agg Z) k _ hs f z
  simp only [Value.cells] at e
  obtain ⟨u, hu, hr⟩ := bAX (I _ _ J) e q ha hn g w
  simp_all [Instr.field, bA, asAgg]
 | _ => exact hc.elim
end
end Go.Vc

