import Derived.Test.YtlijgfkkmamanaaGreatDoorZS5
import Derived.Test.YtlijgfkkmamanaaGreatDoorZS3
import Derived.Test.YtlijgfkkmamanaaGreatDoorZS4
set_option linter.unusedVariables false
set_option linter.unusedSimpArgs false
namespace Go.Proofs
open Go.Vc
set_option maxRecDepth 20000
namespace Nu
abbrev TLn : Type := Int × Int × List Nat × Unit
abbrev TSp : Type := (Int × Int × Unit) × Unit
def LN (n : Int) (S : List Nat) (l : TLn) : Prop := l.1 = n ∧ l.2.2.1 = S ∧ 0 ≤ l.2.1 ∧ l.2.1 ≤ S.length
def SP (n : Int) (p : TSp) : Prop := p.1.1 = n ∧ 1 ≤ p.1.2.1 ∧ p.1.2.1 ≤ 91
def PU (n : Int) (S : List Nat) : TLn ⊕ TSp → Prop
 | .inl l => LN n S l
 | .inr p => SP n p
def PO {α : Type} (n : Int) (S : List Nat) (Q : α → Prop) : (α × TLn) ⊕ TSp → Prop
 | .inl x => Q x.1 ∧ LN n S x.2
 | .inr p => SP n p
theorem aU1 (s : List Nat) : Tot (bY none s (aV ⟨#[32]⟩)) (fun v => ∃ k, k ≤ s.length ∧ v = s.drop k) := by
 unfold bY
 exact .ite (fun _ => .ret ⟨0, Nat.zero_le _, rfl⟩) fun _ => .ck (fun _ => by decide) (.ite (fun _ => .ck xAb ((bFJ s _).bind fun v hv => .ret hv)) fun h => absurd ⟨by decide, by decide⟩ h)
theorem bBH (s : List Nat) (hs : s.length ≤ 1000) : Tot (iE none s (aV ⟨#[32]⟩)) (fun v => ∃ k, k ≤ s.length ∧ v = s.take k) := by
 unfold iE
 exact .ite (fun _ => .ret ⟨s.length, Nat.le_refl _, (List.take_length).symm⟩) fun _ => .ck (fun _ => by decide) (.ite (fun _ => .ck xAb ((bFK s _ hs).bind fun v hv => .ret hv)) fun h => absurd ⟨by decide, by decide⟩ h)
theorem bAP {w : List Nat} : ∀ {d : List Nat} {k : Nat}, k ≤ d.length → w.isPrefixOf (d.drop k) = true → ∃ i, aNs w d = some i ∧ i ≤ k
 | [], k, f, h => by
  have hd : ([] : List Nat).drop k = [] := List.drop_nil
  rw [hd] at h
  cases w with
  | nil => exact ⟨0, rfl, Nat.zero_le _⟩
  | cons a l => cases h
 | b :: l, k, f, h => by
  by_cases hp : w.isPrefixOf (b :: l) = true
  ·simp_all [aNs, if_pos, Nat.zero_le]
  ·cases k with
   | zero => simp_all
   | succ k =>
    obtain ⟨i, j, g⟩ := bAP (d := l) (k := k) (by simp_all) h
    simp_all [aNs, if_neg]
theorem aZB (d : List Nat) (n : Nat) : (d.take n).isPrefixOf d = true := List.isPrefixOf_iff_prefix.2 (List.take_prefix n d)
def Wd (S : List Nat) (l : TLn) (w : List Nat) : Prop := ∃ k, l.2.1.toNat + k + w.length ≤ S.length ∧ w = (S.drop (l.2.1.toNat + k)).take w.length
theorem Wd.t8 {S : List Nat} {l : TLn} {w : List Nat} (f : T8 S) (h : Wd S l w) : T8 w := by
 obtain ⟨k, g, b⟩ := h
 rw [b]
 exact (f.drop _).take _
theorem Wd.len {S : List Nat} {l : TLn} {w : List Nat} (h : Wd S l w) : w.length ≤ S.length := by
 obtain ⟨k, f, b⟩ := h
 omega
variable {n : Int} {S : List Nat} {l : TLn}
theorem aJ6 (s : S.length ≤ 90) (h : LN n S l) : Tot (fR none l) (fun r => r.2 = l ∧ Wd S l r.1) := by
 obtain ⟨q, f, b, g⟩ := h
 unfold fR
 rw [f]
 have T := aU1 (S.drop l.2.1.toNat)
 refine .ck ⟨b, g⟩ (.ck T.sJ ?_)
 obtain ⟨k, j, hv⟩ := T.get ([] : List Nat)
 rw [hv]
 rw [List.length_drop] at j
 refine .ck ⟨by grind, by decide⟩ (.ret ⟨rfl, ?_⟩)
 rw [List.drop_drop]
 show Wd S l (aAI (S.drop (l.2.1.toNat + k)) _).1
 unfold aAI
 split
 ·exact ⟨k, by grind, by grind⟩
 ·rename_i i _
  refine ⟨k, by grind, ?_⟩
  simp_all
theorem bEa (b : Bool) (h : LN n S l) : Tot (cE none b l) (fun q => match q with | .inl f => b = true ∧ f = l | .inr p => SP n p) := by
 unfold cE gM
 refine .ite (fun _ => .ret ⟨h.1, by simp_all, by simp_all⟩) fun hb => .ret ⟨Classical.not_not.1 hb, rfl⟩
theorem aIt {β : Type} {b : Bool} (h : LN n S l) {f : TLn ⊕ TSp → Option β} {P : β → Prop} (j : b = true → Tot (f (.inl l)) P) (g : ∀ p, SP n p → Tot (f (.inr p)) P) : Tot ((cE none b l).bind f) P :=
 (bEa b h).bind fun q hq => by
  grind
theorem aYs (N : S.length ≤ 90) (h : LN n S l) : Tot (cL none l) (PO n S (fun w => (∃ s, Wd S s w) ∧ 0 < w.length)) := by
 unfold cL
 refine (aJ6 N h).bind fun r j => ?_
 obtain ⟨w, l2⟩ := r
 obtain ⟨e, f⟩ := j
 have e : l2 = l := e
 subst e
 have f : Wd S l2 w := f
 refine aIt h (fun hb => ?_) fun p hp => .ret hp
 have hb : (!decide (w = aV ⟨#[]⟩)) = true := hb
 obtain ⟨J, z, q, I⟩ := h
 have L : w ≠ [] := fun e => by
  rw [e] at hb
  exact absurd hb xAb
 have b : 1 ≤ w.length := by
  grind
 obtain ⟨k, U, O⟩ := id f
 obtain ⟨i, i1, W⟩ := bAP (w := w) (d := S.drop l2.2.1.toNat) (k := k) (by grind) (by grind [List.drop_drop, aZB])
 have g : aJC (S.drop l2.2.1.toNat) w = (i : Int) := by grind [aJC]
 show Tot (ck _ _) _
 simp only [z]
 rw [g]
 refine .ck ⟨q, I⟩ (.ck ⟨by grind, b⟩ (.ck (by omega) (.ck (by omega) (.ret ⟨⟨⟨l2, f⟩, b⟩, J, rfl, ?_, ?_⟩))))
 all_goals grind
theorem aLm {β : Type} (j : S.length ≤ 90) (s : T8 S) (h : LN n S l) {f : (List Nat × TLn) ⊕ TSp → Option β} {P : β → Prop} (z : ∀ w b, T8 w → w.length ≤ 90 → LN n S b → Tot (f (.inl (w, b))) P) (r : ∀ p, SP n p → Tot (f (.inr p)) P) : Tot ((cL none l).bind f) P :=
 (aYs j h).bind fun q hq => by
  cases q with
  | inl x =>
   obtain ⟨⟨⟨b, g⟩, _⟩, I⟩ := hq
   exact z x.1 x.2 (g.t8 s) (Nat.le_trans g.len j) I
  | inr p => exact r p hq
theorem aFd (g : S.length ≤ 90) (f : T8 S) (h : LN n S l) (w : List Nat) : Tot (dN none w l) (PU n S) := by
 unfold dN
 exact aLm g f h (fun v j _ _ b => aIt b (fun _ => .ret b) fun p hp => .ret hp) fun p hp => .ret hp
theorem zG (f : S.length ≤ 90) (h : LN n S l) : Tot (cJ none l) (PU n S) := by
 unfold cJ
 refine (aJ6 f h).bind fun r b => ?_
 obtain ⟨w, l2⟩ := r
 obtain ⟨e, g⟩ := b
 have e : l2 = l := e
 subst e
 exact aIt h (fun _ => .ret h) fun p hp => .ret hp
theorem aFR (g : S.length ≤ 90) (f : T8 S) (h : LN n S l) : Tot (eU none l) (PO n S T8) := by
 unfold eU
 refine aLm g f h (fun v j hv q b => ?_) fun p hp => .ret hp
 have F : Tot (tE none v) (fun _ => True) := .of (aWw v (by omega)) trivial
 exact .ck F.sJ (aIt b (fun _ => .ret ⟨hv, b⟩) fun p hp => .ret hp)
theorem aGZ (g : S.length ≤ 90) (f : T8 S) (h : LN n S l) : Tot (fS none l) (PO n S T8) := by
 unfold fS
 refine aLm g f h (fun v j hv q b => ?_) fun p hp => .ret hp
 exact .ck (aNZ v hv).sJ (aIt b (fun _ => .ret ⟨hv, b⟩) fun p hp => .ret hp)
end Nu
end Go.Proofs
namespace Go.Proofs
open Go.Vc
set_option maxRecDepth 20000
namespace Nu
theorem bHa (cs : List Nat) (h : ∀ c ∈ cs, c < 128) (q : cs.length ≤ 1000) : Tot (dZ none cs) (fun r => r.2.1 = true ∧ ∀ c, r.1.getD c false = true → c ∈ cs) := by
 unfold dZ
 refine Tot.bind (P := fun e => match e with | .inl A => ∀ c, A.getD c false = true → c ∈ cs | .inr r => False) (Tot.idx cs.length (fun A _ => ∀ c, A.getD c false = true → c ∈ cs) (by omega) (fun i A i0 hi f g => ?_) (fun A g => ?_) ?_) fun e j => ?_
 ·show Tot (dR none cs i A) _
  unfold dR
  refine .ite (fun _ => .ck ⟨i0, hi⟩ ?_) fun b => absurd hi b
  have hm : cs.getD i.toNat 0 ∈ cs := pA 0 (by omega)
  have hc := h _ hm
  refine .ite (fun b => by omega) fun _ => .ck (by omega) (.ck f (.ret ⟨rfl, fun c hc => ?_⟩))
  grind
 ·show Tot (dR none cs _ A) _
  unfold dR
  exact .ite (fun b => absurd b (Int.lt_irrefl _)) fun _ => .ret g
 ·grind
 ·cases e with
  | inl A => exact .ret ⟨rfl, j⟩
  | inr r => simp_all
theorem bHb (s : List Nat) (A : List Bool) (hs : T8 s) : Tot (eB none s A) (fun v => T8 v ∧ ∀ c ∈ s, c ∈ v ∨ A.getD c false = true) := by
 unfold eB
 refine Tot.bind (Tot.loop (fun d => T8 d ∧ ∀ c ∈ s, c ∈ d ∨ A.getD c false = true) (fun d => d.length) ?_ ⟨hs, fun c hc => .inl hc⟩) fun e j => .ret j
 rintro d ⟨hd, b⟩
 show Tot (eS none A d) _
 unfold eS
 have z := hd.1
 refine .ite (fun h => .ck (by omega) (.ck (by omega) ?_)) fun _ => .ret ⟨hd, b⟩
 have hb := hd.2 _ (pA 0 (l := d) (k := ((d.length : Int) - 1).toNat) (by omega))
 refine Tot.bind (P := fun v => v = A.getD (d.getD ((d.length : Int) - 1).toNat 0) false) (.ck (by omega) (.ret rfl)) fun v hv => .ite (fun _ => .ret ⟨hd, b⟩) fun q => .ck (by omega) (.ck (by omega) (.ret ⟨⟨hd.take _, fun c hc => ?_⟩, ?_⟩))
 ·rcases b c hc with g | g
  ·have f : d.length - 1 < d.length := by omega
   have e : d = d.take (d.length - 1) ++ [d.getD (d.length - 1) 0] := by
    rw [← take_succ f, show d.length - 1 + 1 = d.length from by omega, List.take_length]
   rw [e] at g
   have r : ((d.length : Int) - 1).toNat = d.length - 1 := by omega
   rcases List.mem_append.1 g with g | g
   all_goals grind
  simp_all
 ·show (List.take _ d).length < d.length
  rw [List.length_take]
  omega
theorem bHc (s : List Nat) (A : List Bool) (hs : T8 s) : Tot (eH none s A) (fun v => ∀ c ∈ s, c ∈ v ∨ A.getD c false = true) := by
 unfold eH
 refine Tot.bind (Tot.loop (fun d => T8 d ∧ ∀ c ∈ s, c ∈ d ∨ A.getD c false = true) (fun d => d.length) ?_ ⟨hs, fun c hc => .inl hc⟩) fun e f => .ret f
 rintro d ⟨hd, b⟩
 show Tot (fB none A d) _
 unfold fB
 refine .ite (fun h => .ck h ?_) fun _ => .ret b
 have hb := hd.2 _ (pA 0 (l := d) (k := 0) (by omega))
 refine Tot.bind (P := fun v => v = A.getD (d.getD 0 0) false) (.ck (by omega) (.ret rfl)) fun v hv => .ite (fun _ => .ret b) fun j => .ck (by omega) (.ret ⟨⟨hd.drop _, fun c hc => ?_⟩, ?_⟩)
 ·rcases b c hc with g | g
  ·cases d with
   | nil => cases g
   | cons a t =>
    grind
  simp_all
 grind
theorem bF0 (s cs : List Nat) (hs : T8 s) (h : ∀ c ∈ cs, c < 128) (q : 2 ≤ cs.length) (j : cs.length ≤ 1000) : Tot (kW none s cs) (fun v => v = [] → ∀ c ∈ s, c ∈ cs) := by
 unfold kW
 refine .ite (fun r => .ret fun e c hc => by simp_all) fun _ => .ck (fun h => by omega) (.ite (fun h => absurd h.1 (by omega)) fun _ => (bHa cs h j).bind fun v hv => .ite (fun _ => (bHb s _ hs).bind fun a g => (bHc a _ g.1).bind fun b hb => .ret fun e c hc => ?_) fun f => absurd hv.1 f)
 grind
variable {n : Int} {S : List Nat} {l : TLn}
theorem aMh (L : S.length ≤ 90) (I : T8 S) (h : LN n S l) : Tot (gE none l) (PO n S (fun _ => True)) := by
 unfold gE
 refine (aYs L h).bind fun q hq => ?_
 cases q with
 | inr p => exact .ret hq
 | inl x =>
  obtain ⟨w, r⟩ := x
  obtain ⟨⟨⟨N, s⟩, g⟩, b⟩ := hq
  have j : T8 w := s.t8 I
  have J := s.len
  refine .ite (fun U => ?_) fun _ => aIt b (fun hb => by cases hb) fun p hp => .ret hp
  have z := bF0 w (aV ⟨#[48, 49, 50, 51, 52, 53, 54, 55, 56, 57]⟩) j xAb xAb xAb
  refine .ck z.sJ (aIt b (fun hb => ?_) fun p hp => .ret hp)
  rw [Bool.and_eq_true] at hb
  have hd := z.get ([] : List Nat) (of_decide_eq_true hb.2)
  have f : ∀ c ∈ w, zS c = true := fun c hc => by
   have := hd c hc
   have O : ∀ c ∈ aV ⟨#[48, 49, 50, 51, 52, 53, 54, 55, 56, 57]⟩, zS c = true := by decide
   simp_all
  show Tot (gW none (w, r) r) _
  unfold gW
  have A : Tot (kX none w) (fun _ => True) := .of (aWs w f g (by grind)) trivial
  exact .ck A.sJ (.ret ⟨trivial, b⟩)
theorem aTn (w : List Nat) (f : w.length ≤ 1000) : Tot (mO none w) (fun _ => True) := by
 unfold mO oN kD fW
 refine Tot.bind (P := fun v => v.length ≤ 1000) ?_ fun v hv => (Tot.of (P := fun _ => True) (aWw v (by omega)) trivial).bind fun _ _ => .ret trivial
 refine Tot.bind (P := fun v => v.length ≤ 1000) ?_ fun v hv => .ret hv
 refine Tot.bind (P := fun b => b = true → (aV ⟨#[45]⟩).length ≤ w.length) (.ck (fun h => ⟨by omega, h⟩) (.ret fun h => ?_)) fun b hb => .ite (fun h => .ck ?_ (.ret ?_)) fun _ => .ret f
 all_goals grind
theorem aYt (g : S.length ≤ 90) (q : T8 S) (h : LN n S l) : Tot (kM none l) (PO n S (fun r => T8 r.1 ∧ T8 r.2.1)) := by
 unfold kM
 refine aLm g q h (fun v z hv L b => .ck (aTn v (by omega)).sJ (aIt b (fun _ => ?_) fun p hp => .ret hp)) fun p hp => .ret hp
 refine (aJ6 g b).bind fun r s => ?_
 obtain ⟨w, l2⟩ := r
 obtain ⟨e, f⟩ := s
 have e : l2 = z := e
 subst e
 have f : Wd S l2 w := f
 refine .ck (aTn w (by have := f.len; omega)).sJ (.ite (fun _ => ?_) fun _ => .ret ⟨⟨hv, T8.nil⟩, b⟩)
 exact aLm g q b (fun u J I _ j => .ret ⟨⟨hv, I⟩, j⟩) fun p hp => .ret hp
end Nu
end Go.Proofs
namespace Go.Proofs
open Go.Vc
set_option maxRecDepth 20000
namespace Nu
variable {n : Int} {S : List Nat} {l : TLn}
theorem aU2 (L : S.length ≤ 90) (h : LN n S l) : Tot (kN none l) (PO n S OkE) := by
 obtain ⟨g, s, q, z⟩ := h
 unfold kN
 rw [s]
 have T := aU1 (S.drop l.2.1.toNat)
 refine .ck ⟨q, z⟩ (.ck T.sJ ?_)
 obtain ⟨k, I, hv⟩ := T.get ([] : List Nat)
 rw [hv]
 rw [List.length_drop] at I
 have b : ((S.drop l.2.1.toNat).drop k).length = S.length - l.2.1.toNat - k := by grind
 have X := bD9 ((S.drop l.2.1.toNat).drop k) (by omega)
 obtain ⟨⟨x1, j⟩, J, r⟩ := X.get ((Ex.mk 0 [] []), (0 : Int), (0 : Int), ())
 rw [b] at j
 refine .ck (by omega) (.ck X.sJ (.ite (fun f => .ck (by omega) (.ck (by omega) (.ret ⟨g, ?_, ?_⟩))) fun f => .ret ⟨r (Classical.not_not.1 f), g, rfl, ?_, ?_⟩))
 all_goals grind
theorem bEb {w sep : List Nat} (h : T8 w) : T8 (aAI w sep).1 ∧ T8 (aAI w sep).2.1 := by
 unfold aAI
 split
 ·grind [T8.nil]
 ·exact ⟨h.take _, h.drop _⟩
theorem aYu (j : S.length ≤ 90) (g : T8 S) (h : LN n S l) : Tot (kO none l) (PO n S (fun r => T8 r.1 ∧ T8 r.2.1)) := by
 unfold kO
 refine aLm j g h (fun v q hv s b => ?_) fun p hp => .ret hp
 obtain ⟨c1, f⟩ := bEb (sep := aV ⟨#[46]⟩) hv
 refine .ck ⟨by grind, by decide⟩ (.ite (fun _ => .ck (aNZ _ c1).sJ (.ite (fun _ => .ck (aNZ _ f).sJ (aIt b (fun _ => .ret ⟨⟨c1, f⟩, b⟩) fun p hp => .ret hp)) fun _ => aIt b (fun _ => .ret ⟨⟨c1, f⟩, b⟩) fun p hp => .ret hp)) fun _ => aIt b (fun _ => .ret ⟨⟨c1, f⟩, b⟩) fun p hp => .ret hp)
structure aWD (k : Nat) (s : aQ9) : Prop where
 n : T8 s.1
 x : s.2.1.length ≤ k ∧ ∀ a ∈ s.2.1, T8 a.1 ∧ T8 a.2.1.1 ∧ T8 a.2.1.2.1 ∧ OkE a.2.2.1
 p : s.2.2.1.length ≤ k ∧ ∀ a ∈ s.2.2.1, T8 a.1 ∧ T8 a.2.1.1 ∧ T8 a.2.1.2.1
 u : TL k s.2.2.2.1
 o : s.2.2.2.2.1.length ≤ k ∧ ∀ a ∈ s.2.2.2.2.1, T8 a.1 ∧ OkE a.2.1
theorem aWD.ok {k : Nat} {s : aQ9} (h : aWD k s) (b : k ≤ 1000) : bAG s := ⟨h.n, ⟨Nat.le_trans h.x.1 b, h.x.2⟩, ⟨Nat.le_trans h.p.1 b, h.p.2⟩, h.u.up b, ⟨Nat.le_trans h.o.1 b, h.o.2⟩⟩
theorem aWD.up {k m : Nat} {s : aQ9} (h : aWD k s) (b : k ≤ m) : aWD m s := ⟨h.n, ⟨Nat.le_trans h.x.1 b, h.x.2⟩, ⟨Nat.le_trans h.p.1 b, h.p.2⟩, h.u.up b, ⟨Nat.le_trans h.o.1 b, h.o.2⟩⟩
structure ScK (k : Nat) (s : TSc) : Prop where
 e : T8 s.2.2.2.2.1
 h0 : T8 s.2.2.2.2.2.1
 hm : T8 s.2.2.2.2.2.2.1
 t : T8 s.2.2.2.2.2.2.2.1
 sb : s.2.2.2.2.2.2.2.2.1.length ≤ k ∧ ∀ a ∈ s.2.2.2.2.2.2.2.2.1, aWD k a
 l : s.2.2.2.2.2.2.2.2.2.1.length ≤ k
theorem ScK.ok {k : Nat} {s : TSc} (h : ScK k s) (b : k ≤ 1000) : bFP s := ⟨h.e, h.h0, h.hm, h.t, ⟨Nat.le_trans h.sb.1 b, fun a f => (h.sb.2 a f).ok b⟩, Nat.le_trans h.l b⟩
theorem ScK.up {k m : Nat} {s : TSc} (h : ScK k s) (b : k ≤ m) : ScK m s := ⟨h.e, h.h0, h.hm, h.t, ⟨Nat.le_trans h.sb.1 b, fun a f => (h.sb.2 a f).up b⟩, Nat.le_trans h.l b⟩
theorem aCl {α β : Type} {o : Option ((α × TLn) ⊕ TSp)} {Q : α → Prop} (h : Tot o (PO n S Q)) {f : (α × TLn) ⊕ TSp → Option β} {P : β → Prop} (j : ∀ a b, Q a → LN n S b → Tot (f (.inl (a, b))) P) (g : ∀ p, SP n p → Tot (f (.inr p)) P) : Tot (o.bind f) P :=
 h.bind fun q hq => by
  cases q with
  | inl x => exact j x.1 x.2 hq.1 hq.2
  | inr p => exact g p hq
theorem wZ {β : Type} {o : Option (TLn ⊕ TSp)} (h : Tot o (PU n S)) {f : TLn ⊕ TSp → Option β} {P : β → Prop} (j : ∀ b, LN n S b → Tot (f (.inl b)) P) (g : ∀ p, SP n p → Tot (f (.inr p)) P) : Tot (o.bind f) P :=
 h.bind fun q hq => by
  cases q with
  | inl x => exact j x hq
  | inr p => exact g p hq
theorem bEc {α : Type} {P : α → Prop} {k : Nat} {a : List α} {x : α} (h : a.length ≤ k ∧ ∀ y ∈ a, P y) (b : P x) : (a ++ [x]).length ≤ k + 1 ∧ ∀ y ∈ a ++ [x], P y := by
 grind
end Nu
end Go.Proofs
namespace Go.Proofs
open Go.Vc
set_option maxRecDepth 20000
namespace Nu
variable {n : Int} {S : List Nat} {l : TLn}
theorem aTo {β : Type} (h : LN n S l) {f : TLn ⊕ TSp → Option β} {P : β → Prop} (b : ∀ p, SP n p → Tot (f (.inr p)) P) : Tot ((gM none l).bind f) P :=
 b _ ⟨h.1, by simp_all, by simp_all⟩
theorem bEd (f : S.length ≤ 90) (g : T8 S) (I : LN n S l) {k : Int} {m : Nat} {s : TSc} (h : ScK m s) : Tot (yV none k s l) (PO n S (ScK m)) := by
 unfold yV
 refine .ite (fun _ => wZ (aFd f g I _) (fun L j => aCl (aMh f g j) (fun a l2 z r => wZ (zG f r) (fun J q => .ret ⟨⟨h.e, h.h0, h.hm, h.t, h.sb, h.l⟩, q⟩) fun p hp => .ret hp) fun p hp => .ret hp) fun p hp => .ret hp) fun _ => ?_
 refine .ite (fun _ => wZ (aFd f g I _) (fun L j => aCl (aFR f g j) (fun a l2 z r => wZ (zG f r) (fun J q => .ret ⟨⟨z, h.h0, h.hm, h.t, h.sb, h.l⟩, q⟩) fun p hp => .ret hp) fun p hp => .ret hp) fun p hp => .ret hp) fun _ => ?_
 refine .ite (fun _ => wZ (aFd f g I _) (fun L j => aCl (aFR f g j) (fun a l2 z r => aCl (aFR f g r) (fun b l2 hb r => wZ (zG f r) (fun J q => .ret ⟨⟨h.e, z, hb, h.t, h.sb, h.l⟩, q⟩) fun p hp => .ret hp) fun p hp => .ret hp) fun p hp => .ret hp) fun p hp => .ret hp) fun _ => ?_
 refine .ite (fun _ => wZ (aFd f g I _) (fun L j => aCl (aFR f g j) (fun a l2 z r => wZ (zG f r) (fun J q => .ret ⟨⟨h.e, h.h0, h.hm, z, h.sb, h.l⟩, q⟩) fun p hp => .ret hp) fun p hp => .ret hp) fun p hp => .ret hp) fun _ => ?_
 refine .ite (fun _ => wZ (aFd f g I _) (fun L j => aCl (aMh f g j) (fun a l2 z r => wZ (zG f r) (fun J q => .ret ⟨⟨h.e, h.h0, h.hm, h.t, h.sb, h.l⟩, q⟩) fun p hp => .ret hp) fun p hp => .ret hp) fun p hp => .ret hp) fun _ => ?_
 refine .ite (fun _ => wZ (aFd f g I _) (fun L j => aCl (aMh f g j) (fun a l2 z r => wZ (zG f r) (fun J q => .ret ⟨⟨h.e, h.h0, h.hm, h.t, h.sb, h.l⟩, q⟩) fun p hp => .ret hp) fun p hp => .ret hp) fun p hp => .ret hp) fun _ => ?_
 exact aLm f g I (fun v L hv _ j => aIt j (fun _ => wZ (zG f j) (fun J q => .ret ⟨⟨h.e, h.h0, h.hm, h.t, h.sb, h.l⟩, q⟩) fun p hp => .ret hp) fun p hp => .ret hp) fun p hp => .ret hp
theorem bEe (f : S.length ≤ 90) (g : T8 S) (U : LN n S l) {m : Nat} (hm : m ≤ 900) {s : aQ9} (h : aWD m s) (x : List aQ9) (y : Nat) : Tot (yW none x y s l) (PO n S (aWD (m + 1))) := by
 have h' := h.up (Nat.le_succ m)
 have b1 := h.x.1
 have b2 := h.p.1
 have b3 := h.u.1
 have b4 := h.o.1
 unfold yW
 refine aLm f g U (fun v l0 hv _ h0 => ?_) fun p hp => .ret hp
 refine .ite (fun _ => ?_) fun _ => .ite (fun _ => ?_) fun _ => .ite (fun _ => ?_) fun _ => .ite (fun _ => ?_) fun _ => aTo h0 fun p hp => .ret hp
 ·refine aCl (aGZ f g h0) (fun a L r q => wZ (aFd f g q _) (fun l2 z => aCl (aYt f g z) (fun b W hb I => wZ (aFd f g I _) (fun Z O => aCl (aU2 f O) (fun c Y hc J => .ck (by omega) (wZ (zG f J) (fun N j => .ret ⟨⟨h.n, bEc h.x ⟨r, hb.1, hb.2, hc⟩, h'.p, h'.u, h'.o⟩, j⟩) fun p hp => .ret hp)) fun p hp => .ret hp) fun p hp => .ret hp) fun p hp => .ret hp) fun p hp => .ret hp) fun p hp => .ret hp
 ·refine aCl (aGZ f g h0) (fun a L r q => wZ (aFd f g q _) (fun l2 z => aCl (aYt f g z) (fun b W hb I => .ck (by omega) (wZ (zG f I) (fun N j => .ret ⟨⟨h.n, h'.x, bEc h.p ⟨r, hb.1, hb.2⟩, h'.u, h'.o⟩, j⟩) fun p hp => .ret hp)) fun p hp => .ret hp) fun p hp => .ret hp) fun p hp => .ret hp
 ·refine aCl (aGZ f g h0) (fun a L r q => .ck (by omega) (wZ (zG f q) (fun N j => .ret ⟨⟨h.n, h'.x, h'.p, bEc h.u r, h'.o⟩, j⟩) fun p hp => .ret hp)) fun p hp => .ret hp
 ·refine aCl (aGZ f g h0) (fun a L r q => wZ (aFd f g q _) (fun l2 z => aCl (aU2 f z) (fun c Y hc J => .ck (by omega) (wZ (zG f J) (fun N j => .ret ⟨⟨h.n, h'.x, h'.p, h'.u, bEc h.o ⟨r, hc⟩⟩, j⟩) fun p hp => .ret hp)) fun p hp => .ret hp) fun p hp => .ret hp) fun p hp => .ret hp
end Nu
end Go.Proofs
namespace Go.Proofs
open Go.Vc
set_option maxRecDepth 20000
namespace Nu
variable {n : Int} {S : List Nat} {l : TLn}
theorem bIg {α : Type} {P : α → Prop} {a : List α} {i : Nat} {x : α} (h : ∀ y ∈ a, P y) (f : P x) : ∀ y ∈ a.set i x, P y := fun y b => by
 grind
theorem aZC (f : S.length ≤ 90) (j : T8 S) (z : LN n S l) {m : Nat} (hm : m ≤ 900) {s : TSc} (h : ScK m s) : Tot (tZ none s l) (PO n S (ScK (m + 1))) := by
 have h' := h.up (Nat.le_succ m)
 have b1 := h.sb.1
 have b2 := h.l
 unfold tZ
 refine (aJ6 f z).bind fun r O => ?_
 obtain ⟨w, I⟩ := r
 obtain ⟨e, hw⟩ := O
 have e : I = l := e
 subst e
 refine .ite (fun _ => ?_) fun _ => .ite (fun _ => aTo z fun p hp => .ret hp) fun _ => .ite (fun _ => ?_) fun _ => .ite (fun hk => ?_) fun _ => aTo z fun p hp => .ret hp
 ·refine aLm f j z (fun v I hv _ h0 => ?_) fun p hp => .ret hp
  refine aCl (aYu f j h0) (fun a W N L => wZ (aFd f j L _) (fun l2 Y => aCl (aYu f j Y) (fun b l3 hb U => wZ (zG f U) (fun Z J => .ck (by omega) (.ret ⟨⟨h.e, h.h0, h.hm, h.t, h'.sb, ?_⟩, J⟩)) fun p hp => .ret hp) fun p hp => .ret hp) fun p hp => .ret hp) fun p hp => .ret hp
  simp_all
 ·refine aLm f j z (fun v I hv _ h0 => ?_) fun p hp => .ret hp
  refine aCl (aGZ f j h0) (fun a W N L => .ck (by omega) (wZ (zG f L) (fun Z J => .ret ⟨⟨h.e, h.h0, h.hm, h.t, bEc (P := aWD (m + 1)) ⟨h.sb.1, h'.sb.2⟩ ⟨N, ⟨Nat.zero_le _, fun x g => absurd g List.not_mem_nil⟩, ⟨Nat.zero_le _, fun x g => absurd g List.not_mem_nil⟩, ⟨Nat.zero_le _, fun x g => absurd g List.not_mem_nil⟩, ⟨Nat.zero_le _, fun x g => absurd g List.not_mem_nil⟩⟩, h'.l⟩, J⟩) fun p hp => .ret hp)) fun p hp => .ret hp
 ·have hk : 0 < s.2.2.2.2.2.2.2.2.1.length := by omega
  have hi : ((s.2.2.2.2.2.2.2.2.1.length : Int) - 1).toNat < s.2.2.2.2.2.2.2.2.1.length := by omega
  refine .ck hi (.ck (by omega) (.ck (by omega) ?_))
  have hp := h.sb.2 _ (pA (([], [], [], [], [], ()) : aQ9) hi)
  refine (bEe f j z hm hp _ _).bind fun q hq => ?_
  cases q with
  | inl x => exact .ret ⟨⟨h.e, h.h0, h.hm, h.t, ⟨Nat.le_trans (Nat.le_of_eq List.length_set) h'.sb.1, bIg h'.sb.2 hq.1⟩, h'.l⟩, hq.2⟩
  | inr p => exact .ret hq
theorem aYv (s : TSc) (h : ScK 1000 s) : Tot (gF none s) (fun r => r.length ≤ 1000) := by
 have b1 := h.sb.1
 have O := h.l
 unfold gF
 refine Tot.bind (P := fun _ => True) (Tot.idx s.2.2.2.2.2.2.2.2.1.length (fun x i => x.length ≤ i * 1000000) (by omega) (fun i x i0 hi f N => ?_) (fun x N => ?_) (Nat.zero_le _)) fun v _ => ?_
 ·show Tot (lN none s i x) _
  unfold lN
  refine .ite (fun _ => .ck ⟨i0, hi⟩ ?_) fun h => absurd hi h
  have hs := h.sb.2 _ (pA (([], [], [], [], [], ()) : aQ9) (show i.toNat < s.2.2.2.2.2.2.2.2.1.length by omega))
  have W := hs.u.1
  refine Tot.bind (P := fun y => y.length ≤ x.length + 1000000) (Tot.idx (s.2.2.2.2.2.2.2.2.1.getD i.toNat ([], [], [], [], [], ())).2.2.2.1.length (fun y j => y.length ≤ x.length + j * 1000) (by omega) (fun j y j0 J g I => ?_) (fun y I => ?_) (Nat.le_add_right _ _)) fun y I => .ck f (.ret ⟨rfl, ?_⟩)
  ·show Tot (lM none s i j y) _
   unfold lM
   refine .ite (fun _ => .ck ⟨j0, J⟩ ?_) fun h => absurd J h
   refine Tot.bind (P := fun z => z.length ≤ y.length + 1000) (Tot.idx s.2.2.2.2.2.2.2.2.2.1.length (fun z k => z.length ≤ y.length + k) (by omega) (fun k z U L b q => ?_) (fun z q => ?_) (Nat.le_refl _)) fun z q => .ck g (.ret ⟨rfl, ?_⟩)
   ·show Tot (lL none s i j k z) _
    unfold lL
    refine .ite (fun _ => .ck ⟨U, L⟩ (.ite (fun _ => .ck b (.ret ⟨rfl, ?_⟩)) fun _ => .ck ?_ (.ck b (.ret ⟨rfl, ?_⟩)))) fun h => absurd L h
    all_goals grind
   ·show Tot (lL none s i j _ z) _
    unfold lL
    exact .ite (fun h => absurd h (by omega)) fun _ => .ret (by omega)
   grind
  ·show Tot (lM none s i _ y) _
   unfold lM
   exact .ite (fun h => absurd h (by omega)) fun _ => .ret (by omega)
  grind
 ·show Tot (lN none s _ x) _
  unfold lN
  exact .ite (fun h => absurd h (by omega)) fun _ => .ret trivial
 ·unfold rT
  exact .ite (fun _ => .ret O) fun hv => .ret (by omega)
end Nu
end Go.Proofs
namespace Go.Proofs
open Go.Vc
set_option maxRecDepth 20000
namespace Nu
def sc0 : TSc := (0, 0, 0, 0, [], [], [], [], [], [], ())
def bEf (N : Nat) (r : TSc × (Int × Int × Unit) × Int × Unit) : Prop :=
 (r.2.2.1 = 6 ∧ r.1 = sc0 ∧ (r.2.1 = (0, 0, ()) ∨ 1 ≤ r.2.1.1 ∧ r.2.1.1 ≤ (N : Int) ∧ 1 ≤ r.2.1.2.1 ∧ r.2.1.2.1 ≤ 91)) ∨ (r.2.2.1 = 0 ∧ r.2.1 = (0, 0, ()) ∧ nD none r.1 = some true)
theorem bHd (N : Nat) (k : Int) (f s j r : Int) (g q z b : List Nat) (x : List aQ9) (I : List (List Nat × List Nat × List Nat × List Nat × Unit)) (h : ScK 900 (f, s, j, r, g, q, z, b, x, I, ())) : Tot (uF none k f s j r g q z b x I) (bEf N) := by
 have O := aYv _ (h.up (by omega : 900 ≤ 1000))
 unfold uF
 refine .ck O.sJ ?_
 have J := O.get ([] : List (List Nat × List Nat × List Nat × List Nat × Unit))
 have M := bFR (f, s, j, r, g, q, z, b, x, (gF none (f, s, j, r, g, q, z, b, x, I, ())).getD [], ()) ⟨h.e, h.h0, h.hm, h.t, (h.ok (by omega)).sb, J⟩
 refine .ck (fun _ => M.sJ) (.ite (fun _ => .ret (.inl ⟨rfl, rfl, .inl rfl⟩)) fun hc => .ret (.inr ⟨rfl, rfl, ?_⟩))
 have hc := Classical.not_not.1 (fun h => hc (.inr h))
 obtain ⟨v, hv, _⟩ := M
 simp_all
theorem bBI (text : List Nat) (N : Nat) (hN : (aAJ text (aV ⟨#[10]⟩)).length = N) (hN9 : N ≤ 900) (hp : ∀ p ∈ aAJ text (aV ⟨#[10]⟩), T8 p ∧ p.length ≤ 90) : Tot (oD none text) (bEf N) := by
 unfold oD
 refine .ite (fun _ => .ret (.inl ⟨rfl, rfl, .inl rfl⟩)) fun ht => .ck ⟨by omega, by decide⟩ ?_
 refine Tot.bind (P := fun q => match q with | .inl e => ScK 900 (e.2.1, e.2.2.1, e.2.2.2.1, e.2.2.2.2.1, e.2.2.2.2.2.1, e.2.2.2.2.2.2.1, e.2.2.2.2.2.2.2.1, e.2.2.2.2.2.2.2.2.1, e.2.2.2.2.2.2.2.2.2.1, e.2.2.2.2.2.2.2.2.2.2, ()) | .inr p => 1 ≤ p.1.1 ∧ p.1.1 ≤ (N : Int) ∧ 1 ≤ p.1.2.1 ∧ p.1.2.1 ≤ 91) (Tot.loop (fun d => 0 ≤ d.1 ∧ d.1 ≤ d.2.1 ∧ d.2.1 ≤ (N : Int) ∧ ScK d.2.1.toNat (d.2.2.1, d.2.2.2.1, d.2.2.2.2.1, d.2.2.2.2.2.1, d.2.2.2.2.2.2.1, d.2.2.2.2.2.2.2.1, d.2.2.2.2.2.2.2.2.1, d.2.2.2.2.2.2.2.2.2.1, d.2.2.2.2.2.2.2.2.2.2.1, d.2.2.2.2.2.2.2.2.2.2.2, ())) (fun d => ((N : Int) - d.2.1).toNat) ?_ ?_) fun q hq => ?_
 ·rintro ⟨k, i, a1, a2, Y, U, W, Z, t3, J, x, O⟩ ⟨z, k1, L, hs⟩
  have z : 0 ≤ k := z
  have k1 : k ≤ i := k1
  have L : i ≤ N := L
  have hs : ScK i.toNat (a1, a2, Y, U, W, Z, t3, J, x, O, ()) := hs
  show Tot (zB none text k i a1 a2 Y U W Z t3 J x O) _
  unfold zB
  refine .ite (fun hi => ?_) fun hi => .ret (hs.up (by omega))
  have hi : i < N := by omega
  obtain ⟨p8, pl⟩ := hp _ (pA ([] : List Nat) (show i.toNat < (aAJ text (aV ⟨#[10]⟩)).length by omega))
  generalize (aAJ text (aV ⟨#[10]⟩)).getD i.toNat [] = w at p8 pl
  have I := (bEb (sep := aV ⟨#[35]⟩) p8).1
  have cl : (aAI w (aV ⟨#[35]⟩)).1.length ≤ 90 := by
   grind [aAI, Nat.le_trans, List.length_take_le']
  generalize (aAI w (aV ⟨#[35]⟩)).1 = u at I cl
  have R := bBH u (by omega)
  refine .ck (by omega) (.ck ⟨by omega, by decide⟩ (.ck (by omega) (.ck R.sJ ?_)))
  obtain ⟨j, hj, hv⟩ := R.get ([] : List Nat)
  rw [hv]
  have g : (u.take j).length ≤ 90 := Nat.le_trans (List.length_take_le' _ _) cl
  have s : T8 (u.take j) := I.take _
  generalize u.take j = S at g s
  have f : LN (i + 1) S (i + 1, 0, S, ()) := ⟨rfl, rfl, Int.le_refl 0, by simp_all⟩
  refine (aJ6 g f).bind fun r hr => ?_
  obtain ⟨v, l0⟩ := r
  obtain ⟨e, _⟩ := hr
  have e : l0 = (i + 1, 0, S, ()) := e
  subst e
  have b : ∀ p, SP (i + 1) p → (1 ≤ p.1.1 ∧ p.1.1 ≤ (N : Int) ∧ 1 ≤ p.1.2.1 ∧ p.1.2.1 ≤ 91) := fun p hp => ⟨by have := hp.1; omega, by have := hp.1; omega, hp.2.1, hp.2.2⟩
  refine .ite (fun _ => .ck (by omega) (.ret ⟨⟨z, by grind, by grind, hs.up (by grind)⟩, by grind⟩)) fun _ => .ite (fun _ => ?_) fun _ => ?_
  ·refine (bEd g s f hs).bind fun q hq => ?_
   cases q with
   | inl y => exact .ck (by omega) (.ck (by omega) (.ret ⟨⟨by omega, by simp_all, by grind, hq.1.up (by grind)⟩, by grind⟩))
   | inr p => exact .ret (b p hq)
  ·refine (aZC g s f (by omega) hs).bind fun q hq => ?_
   cases q with
   | inl y => exact .ck (by omega) (.ck (by omega) (.ret ⟨⟨by omega, by simp_all, by grind, hq.1.up (by grind)⟩, by grind⟩))
   | inr p => exact .ret (b p hq)
 ·exact ⟨Int.le_refl 0, Int.le_refl 0, by simp_all, ⟨T8.nil, T8.nil, T8.nil, T8.nil, ⟨Nat.zero_le _, fun a ha => absurd ha List.not_mem_nil⟩, Nat.zero_le _⟩⟩
 ·cases q with
  | inl e => grind [bHd]
  | inr p => exact .ret (.inl ⟨rfl, rfl, .inr hq⟩)
end Nu
end Go.Proofs
namespace Go.Proofs
open Go.Vc
set_option maxRecDepth 20000
namespace Nu
theorem bGk (r : List Nat) : ∀ w : List Nat, (∀ b ∈ w, ¬ b = 10) → aNs [10] (w ++ 10 :: r) = some w.length
 | [], _ => by rfl
 | b :: l, h => by
  have hb : ([10] : List Nat).isPrefixOf (b :: (l ++ 10 :: r)) = false := by
   grind
  rw [List.cons_append, aNs, hb, bGk r l fun x f => h x (List.mem_cons_of_mem _ f)]
  rfl
def jn (b : List qa) : List Nat := b.flatMap (· ++ [10])
theorem bF1 (b : List qa) (w : List Nat) : jn (b ++ [w]) = jn b ++ w ++ [10] := by
 unfold jn
 rw [List.flatMap_append, List.flatMap_singleton, List.append_assoc]
theorem bEg : ∀ b : List qa, b.length ≤ (jn b).length
 | [] => Nat.le_refl 0
 | w :: b => by
  have := bEg b
  grind [jn, List.length_append, List.length_singleton]
theorem bAQ : ∀ (f : List qa) (k : Nat), f.length ≤ k → (∀ w ∈ f, ∀ b ∈ w, ¬ b = 10) → aWj [10] k (jn f) = f ++ [[]]
 | [], 0, _, _ => rfl
 | [], k + 1, _, _ => rfl
 | w :: f, 0, h, _ => absurd h (by simp_all)
 | w :: f, k + 1, h, g => by
  have e : jn (w :: f) = w ++ 10 :: jn f := by
   grind [jn, List.append_assoc]
  rw [e, aWj, bGk _ _ (g w List.mem_cons_self)]
  show (w ++ 10 :: jn f).take w.length :: aWj [10] k ((w ++ 10 :: jn f).drop (w.length + 1)) = _
  have d : (w ++ 10 :: jn f).drop (w.length + 1) = jn f := by simp_all
  rw [List.take_left, d, bAQ f k (by simp_all) fun x j => g x (List.mem_cons_of_mem _ j)]
  rfl
theorem bEh (f : List qa) (j : f.length ≤ 800) (h : ∀ w ∈ f, T8 w ∧ w.length ≤ 90 ∧ ∀ b ∈ w, ¬ b = 10) : Tot (oD none (jn f)) (bEf (f.length + 1)) := by
 have e : aAJ (jn f) (aV ⟨#[10]⟩) = f ++ [[]] := bAQ f _ (bEg f) fun w g => (h w g).2.2
 refine bBI _ _ (by simp_all) (by omega) fun p hp => ?_
 rw [e] at hp
 rcases List.mem_append.1 hp with hp | hp
 all_goals simp_all [List.mem_singleton, T8.nil, Nat.zero_le]
end Nu
end Go.Proofs
namespace Go.Proofs
open Go.Vc
set_option maxRecDepth 20000
namespace Nu
def Ty.bys : (t : Ty) → t.den → Prop
 | .str, s => ∀ c ∈ s, c < 256
 | .sl t, f => ∀ x ∈ f, Ty.bys t x
 | .pair a b, x => Ty.bys a x.1 ∧ Ty.bys b x.2
 | _, _ => True
theorem bBJ (s : ByteArray) : ∀ c ∈ aV s, c < 256 := by
 intro c hc
 unfold aV at hc
 obtain ⟨b, _, rfl⟩ := List.mem_map.1 hc
 exact b.toNat_lt
theorem aN1 {w : World} {S : Nat → Prop} : ∀ (t : Ty) (x : t.den) (cs : List Value), bB w S t x cs → Ty.bys t x
 | .str, _, _, ⟨s, _, I, hs⟩ => by subst I; exact bBJ s
 | .sl t, L, _, ⟨a, len, z, _, q, j, J, r⟩ => by
  intro x g
  rcases r with rfl | ⟨b, off, _, _, f⟩
  ·cases g
  ·obtain ⟨i, hi, rfl⟩ := List.mem_iff_getElem.1 g
   obtain ⟨ds, hd, _⟩ := f i hi
   exact aN1 t _ _ hd
 | .pair a b, _, _, ⟨c1, N, _, q, j⟩ => ⟨aN1 a _ _ q, aN1 b _ _ j⟩
 | .u k, _, _, _ => trivial
 | .i k, _, _, _ => trivial
 | .bool, _, _, _ => trivial
 | .unit, _, _, _ => trivial
 | .arr n t, _, _, _ => trivial
 | .expr, _, _, _ => trivial
 | .rp t, _, _, _ => trivial
 | .clo _ t, _, _, _ => trivial
 | .ifc _ t, _, _, _ => trivial
 | .nili, _, _, _ => trivial
 | .nilp, _, _, _ => trivial
 | .nilf, _, _, _ => trivial
theorem aYw {w : World} {S : Nat → Prop} : ∀ (t : Ty) (x : t.den) (vs : List Value), qI w S t x vs → Ty.bys t x
 | .pair a r, x, vs, ⟨v, g, e, f, b⟩ => ⟨aN1 a _ _ f.cells, aYw r _ _ b⟩
 | .unit, _, _, _ => trivial
 | .bool, _, _, h => h.elim
 | .str, _, _, h => h.elim
 | .sl _, _, _, h => h.elim
 | .u _, _, _, h => h.elim
 | .i _, _, _, h => h.elim
 | .arr _ _, _, _, h => h.elim
 | .expr, _, _, h => h.elim
 | .rp _, _, _, h => h.elim
 | .clo _ _, _, _, h => h.elim
 | .ifc _ _, _, _, h => h.elim
 | .nili, _, _, h => h.elim
 | .nilp, _, _, h => h.elim
 | .nilf, _, _, h => h.elim
theorem bF2 {P : Program} {G : Nat → AV} {f : FuncId} {a : Ty} {r : RK} {m : a.den → Option r.ty.den} {pre : a.den → Prop} {fn : a.den → r.ty.den} (h : FOK P G f (mSpec a r m)) (hc : ∀ x, a.wf x → Ty.bys a x → m x = some (fn x)) : FOK P G f ⟨a, r, pre, fn⟩ := fun w S g x q j b hp => by
 have hm := hc x (aHc _ _ _ b) (aYw _ _ _ b)
 have := h w S g x q j b (by show (m x).isSome = true; grind)
 simp_all [mSpec]
theorem bAR {D E : Type} {step : D → Option (D ⊕ E)} {d : D} {e : E} (h : step d = some (.inr e)) : dG none step d = some e := by
 obtain ⟨r, g, b⟩ := Tot.loop (P := fun x => x = e) (step := step) (fun x => x = d) (fun _ => 0) (fun x f => ⟨.inr e, by grind, rfl⟩) rfl
 grind
theorem bGl : mU none sc0 sc0 = some true := by
 have a : aP none [] [] () = some true := by
  unfold aP
  refine ifn (fun h => h rfl) (bP (bAR (e := .inl ()) ?_) rfl)
  rfl
 have b : eI none [] [] = some true := by
  unfold eI
  refine ifn (fun h => h rfl) (bP (bAR (e := .inl ()) ?_) rfl)
  rfl
 unfold mU
 show ck (_ → Option.isSome (aP none [] [] ()) = true) (ck (_ → Option.isSome (eI none [] []) = true) (some (_ && (Option.getD (aP none [] [] ()) false) && (Option.getD (eI none [] []) false)))) = _
 simp_all [aF]
def OkW (w : List Nat) : Prop := T8 w ∧ w.length ≤ 90 ∧ ∀ b ∈ w, ¬ b = 10
theorem bF3 (q lines : List qa) (n : Nat) (J : n ≤ 100) (U : lines.length ≤ 40) (I : q.length = n + lines.length) (h : ∀ w ∈ q, OkW w) : Tot (kI none (n : Int) lines (jn q)) (fun b => b = true) := by
 unfold kI
 refine (bEh q (by omega) h).bind fun r z => ?_
 obtain ⟨s, p, e, u⟩ := r
 rcases z with ⟨j, g, f⟩ | ⟨j, g, f⟩
 ·have j : e = 6 := j
  have g : s = sc0 := g
  have f : p = (0, 0, ()) ∨ 1 ≤ p.1 ∧ p.1 ≤ ((q.length + 1 : Nat) : Int) ∧ 1 ≤ p.2.1 ∧ p.2.1 ≤ 91 := f
  subst j g
  refine .ite (fun h => absurd (show (6 : Int) = 0 from h) xAb) fun _ => .ck (fun _ => by grind [Option.isSome, mU, sc0, bGl]) (.ite (fun h => ?_) fun _ => .ck (fun _ _ _ => by omega) (.ck (fun _ _ _ => by omega) (.ret ?_)))
  ·rcases h with h | h
   ·omega
   ·exact absurd (by grind [Option.getD, mU, sc0, bGl]) h
  ·show (true && (Ty.eqb wc p ((0 : Int), (0 : Int), ()) || _)) = true
   rcases f with rfl | ⟨g1, L, N, O⟩
   ·rfl
   simp_all
 ·have j : e = 0 := j
  have g : p = (0, 0, ()) := g
  have f : nD none s = some true := f
  subst j g
  refine .ite (fun _ => .ck (fun _ => by simp_all) (.ret ?_)) fun h => absurd rfl h
  show (_ && (nD none s).getD false) = true
  rw [f]
  rfl
theorem bEi (fr lines : List qa) (hf : fr.length ≤ 7) (hj : (jn fr).length ≤ 1000) (W : ∀ w ∈ fr, OkW w) (hl : lines.length ≤ 40) (hb : ∀ x ∈ lines, ∀ c ∈ x, c < 256) : Tot (kJ none lines (jn fr) (fr.length : Int)) (fun b => b = true) := by
 unfold kJ
 refine Tot.bind (P := fun q => match q with | .inl s => s = jn (fr ++ lines) ∧ ∀ w ∈ fr ++ lines, OkW w | .inr b => b = true) (Tot.loop (fun d => 0 ≤ d.2 ∧ d.2 ≤ (lines.length : Int) ∧ d.1 = jn (fr ++ lines.take d.2.toNat) ∧ (jn (fr ++ lines.take d.2.toNat)).length ≤ 1000 + 100 * d.2.toNat ∧ ∀ w ∈ fr ++ lines.take d.2.toNat, OkW w) (fun d => ((lines.length : Int) - d.2).toNat) ?_ ?_) fun q hq => ?_
 ·rintro ⟨s, i⟩ ⟨i0, i1, hs, g, L⟩
  have i0 : 0 ≤ i := i0
  have i1 : i ≤ (lines.length : Int) := i1
  have hs : s = jn (fr ++ lines.take i.toNat) := hs
  have g : (jn (fr ++ lines.take i.toNat)).length ≤ 1000 + 100 * i.toNat := g
  have L : ∀ w ∈ fr ++ lines.take i.toNat, OkW w := L
  show Tot (pR none lines s i) _
  unfold pR
  refine .ite (fun hi => .ck ⟨i0, hi⟩ (.ite (fun _ => .ret rfl) fun r => ?_)) fun hi => .ret ?_
  ·have z : i.toNat < lines.length := by omega
   have I := hb _ (pA ([] : List Nat) z)
   have hg : lines[i.toNat]? = some (lines.getD i.toNat []) := by simp_all
   refine Tot.bind (P := fun q => match q with | .inl () => ∀ b ∈ lines.getD i.toNat [], ¬ b = 10 | .inr b => b = true) (Tot.loop (fun k => 0 ≤ k ∧ k ≤ ((lines.getD i.toNat []).length : Int) ∧ ∀ b ∈ (lines.getD i.toNat []).take k.toNat, ¬ b = 10) (fun k => (((lines.getD i.toNat []).length : Int) - k).toNat) ?_ ?_) fun q hq => ?_
   ·rintro k ⟨Z, k1, hk⟩
    show Tot (oQ none i lines k) _
    unfold oQ
    refine .ck ⟨i0, hi⟩ (.ite (fun j => .ck ⟨i0, hi⟩ (.ck ⟨Z, j⟩ (.ite (fun _ => .ret rfl) fun N => .ck (by omega) (.ret ⟨⟨by omega, by omega, ?_⟩, by omega⟩)))) fun j => .ret ?_)
    ·have hkN : k.toNat < (lines.getD i.toNat []).length := by omega
     rw [show (k + 1).toNat = k.toNat + 1 from by omega, List.take_add_one]
     grind
    grind [List.take_of_length_le]
   ·simp_all
   ·cases q with
    | inr b => exact .ret hq
    | inl v =>
     show Tot (mY none i lines s) _
     unfold mY
     have e : lines.take (i.toNat + 1) = lines.take i.toNat ++ [lines.getD i.toNat []] := by
      simp_all
     generalize U : lines.getD i.toNat [] = w at I r hq e
     have O : w.length ≤ 80 := by omega
     have J : s ++ w ++ aV ⟨#[10]⟩ = jn (fr ++ lines.take (i + 1).toNat) := by
      rw [show (i + 1).toNat = i.toNat + 1 from by omega, e, ← List.append_assoc, bF1, ← hs]
      rfl
     have Y : s.length ≤ 1000 + 100 * i.toNat := by simp_all
     refine .ck ⟨i0, hi⟩ (.ck (by omega) (.ck ?_ (.ck (by omega) (.ret ⟨⟨by omega, by omega, J, ?_, ?_⟩, by omega⟩))))
     ·rw [List.length_append]
      show s.length + w.length + 1 ≤ _
      omega
     ·show (jn (fr ++ lines.take (i + 1).toNat)).length ≤ 1000 + 100 * (i + 1).toNat
      rw [← J, List.length_append, List.length_append]
      show s.length + w.length + 1 ≤ _
      omega
     ·show ∀ w ∈ fr ++ lines.take (i + 1).toNat, OkW w
      rw [show (i + 1).toNat = i.toNat + 1 from by omega, e, ← List.append_assoc]
      intro x f
      rcases List.mem_append.1 f with f | f
      ·simp_all
      ·rw [List.mem_singleton.1 f]
       exact ⟨⟨by omega, I⟩, by omega, hq⟩
  ·show s = jn (fr ++ lines) ∧ _
   grind [List.take_of_length_le]
 ·simp_all
 grind [Tot, kI, bF3, List.length_append]
def aZD : List qa := [[112, 114, 101, 99, 32, 52, 48], [101, 110, 100, 32, 49], [115, 116, 101, 112, 32, 48, 46, 53, 32, 48, 46, 49, 50, 53], [116, 111, 108, 32, 49], [116, 114, 105, 101, 115, 32, 52], [111, 114, 100, 101, 114, 32, 48], [115, 101, 105, 100, 101, 108]]
theorem aUg (lines : List qa) (front : Bool) (hb : ∀ x ∈ lines, ∀ c ∈ x, c < 256) : rB none lines front = some true := by
 have T : Tot (rB none lines front) (fun b => b = true) := by
  unfold rB
  refine .ite (fun _ => .ret rfl) fun q => .ite (fun _ => ?_) fun _ => ?_
  ·rw [show aV aH3 = jn aZD from by rfl]
   exact bEi aZD lines xAb xAb (by unfold OkW T8 aZD; decide) (by omega) hb
  ·exact bEi [] lines xAb xAb (fun w f => by cases f) (by omega) hb
 obtain ⟨r, j, g⟩ := T
 grind
end Nu
end Go.Proofs

