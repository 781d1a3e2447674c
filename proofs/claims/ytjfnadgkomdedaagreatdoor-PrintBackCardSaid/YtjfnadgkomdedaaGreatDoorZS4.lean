import Derived.Test.YtjfnadgkomdedaaGreatDoorZS3
import Derived.Test.YtjfnadgkomdedaaGreatDoorZS1
set_option linter.unusedVariables false
set_option linter.unusedSimpArgs false
namespace Go.Proofs
open Go.Vc
set_option maxRecDepth 20000
namespace Nu
abbrev PR : Type := (Ex × Nat) ⊕ Nat
def aAi (o : Option PR) (k : Ex → Nat → Option PR) : Option PR := match o with
 | some (.inl (e, q)) => k e q
 | x => x
def aAj (one : Nat → Option PR) (s : List Nat) (a b : Nat) (ka kb : Int) : Nat → Ex → Nat → Option PR
 | 0, _, _ => none
 | f + 1, e, p => if aFS s [a, b] (skp s p) then
   aAi (one (skp s p + 1)) (fun r z => aAj one s a b ka kb f (Ex.mk (if s.getD (skp s p) 0 = a then ka else kb) [] [e, r]) z)
  else some (.inl (e, skp s p))
def aGY (one : Nat → Option PR) (s : List Nat) (p : Nat) : Option PR := aAi (one p) (aAj one s 42 47 8 9 (s.length + 1))
def aSf (one : Nat → Option PR) (s : List Nat) (p : Nat) : Option PR := aAi (aGY one s p) (aAj (aGY one s) s 43 45 6 7 (s.length + 1))
def pIn (one : Nat → Option PR) (s : List Nat) (p : Nat) : Option PR :=
 if aFS s [40] (skp s p) then
  aAi (aSf one s (skp s p + 1)) (fun e q => if aFS s [41] (skp s q) then some (.inl (e, skp s q + 1)) else some (.inr (skp s q)))
 else some (.inr (skp s p))
def aW5 (s : List Nat) (q : Nat) : Option PR :=
 if xK s q = 0 ∨ 60 < xK s q then some (.inr q) else some (.inl (Ex.mk 1 ((s.drop q).take (xK s q)) [], q + xK s q))
def aC4 (s : List Nat) (q : Nat) : List Nat := (s.drop q).take (run eV s q)
def aSg (w : List Nat) : Option Int := if w = [115, 113, 114] then some 11 else if w = [115, 113, 114, 116] then some 12 else if w = [101, 120, 112] then some 13 else none
def aTa (one : Nat → Option PR) (s : List Nat) (q : Nat) : Option PR := match aSg (aC4 s q) with
 | some k => aAi (pIn one s (q + run eV s q)) (fun e z => some (.inl (Ex.mk k [] [e], z)))
 | none => some (.inl (Ex.mk 2 (aC4 s q) [], q + run eV s q))
def aPc (one : Nat → Option PR) (s : List Nat) (q : Nat) : Option PR :=
 if s.length ≤ q then some (.inr q)
 else if s.getD q 0 = 40 then pIn one s q
 else if aEH (s.getD q 0) = true then aTa one s q else aW5 s q
def qJ (s : List Nat) : Nat → Nat → Option PR
 | 0, _ => none
 | n + 1, p => if aFS s [45] (skp s p) then aAi (qJ s n (skp s p + 1)) (fun e z => some (.inl (Ex.mk 10 [] [e], z)))
  else aPc (qJ s n) s (skp s p)
abbrev CR : Type := (Ex × RD0) ⊕ ql
def Cor (s : List Nat) (p n : Nat) (x : Option CR) : PR → Prop
 | .inl (e, q) => p ≤ q ∧ q ≤ s.length ∧ ∃ n', n' + p ≤ n + q ∧ x = some (.inl (e, st s q n'))
 | .inr q => q ≤ s.length ∧ x = some (.inr ((q : Int), ()))
def Gd (s : List Nat) (g : RD0 → Option CR) (one : Nat → Option PR) : Prop :=
 ∀ p n r, p ≤ s.length → n + s.length ≤ 1099511627776 + p → one p = some r → Cor s p n (g (st s p n)) r
theorem Cor.mv {s : List Nat} {p q n n' : Nat} {x : Option CR} {r : PR} (h : p ≤ q) (hn : n' + p ≤ n + q) (c : Cor s q n' x r) : Cor s p n x r := by
 cases r with
 | inl z =>
  obtain ⟨e2, q2⟩ := z
  obtain ⟨b1, b2, n2, b3, b4⟩ := c
  exact ⟨by omega, b2, n2, by omega, b4⟩
 | inr z => exact c
theorem aI6 {s : List Nat} {o : Option PR} {k : Ex → Nat → Option PR} {r : PR} {p0 p n : Nat} {x : Option CR} {f : CR → Option CR} (hr : aAi o k = some r)
  (h1 : ∀ r', o = some r' → Cor s p n x r')
  (hl : ∀ e q n', p ≤ q → q ≤ s.length → n' + p ≤ n + q → k e q = some r → Cor s p0 n (f (.inl (e, st s q n'))) r)
  (hf : ∀ z, f (.inr z) = some (.inr z)) : Cor s p0 n (x.bind f) r := by
 unfold aAi at hr
 cases o with
 | none => cases hr
 | some r' =>
  cases r' with
  | inl y =>
   obtain ⟨e, q⟩ := y
   obtain ⟨a1, a2, n', a3, a4⟩ := h1 _ rfl
   rw [a4]
   exact hl e q n' a1 a2 a3 hr
  | inr y =>
   obtain ⟨a1, a2⟩ := h1 _ rfl
   obtain rfl : .inr y = r := Option.some.inj hr
   rw [a2]
   exact ⟨a1, hf _⟩
theorem aTb {s : List Nat} (hs : s.length ≤ 1099511627776) {g : RD0 → Option CR} {one : Nat → Option PR} (hg : Gd s g one) {a b : Nat} {ka kb : Int} (hab : a ≠ b) : ∀ (f : Nat) (e : Ex) (p n : Nat) (r : PR), p ≤ s.length → n + s.length ≤ 1099511627776 + p →
  aAj one s a b ka kb f e p = some r → Cor s p n (aFh (fun d : RD0 × Ex => bT none g [a, b] [ka, kb] d.1 d.2) (st s p n, e)) r
 | 0, e, p, n, r, hp, hn, hr => by cases hr
 | f + 1, e, p, n, r, hp, hn, hr => by
  have hk := aHw s p hp
  rw [aAj] at hr
  by_cases h : aFS s [a, b] (skp s p)
  ·rw [if_pos h] at hr
   have h1 := h.1
   have hm := h.2
   have round : ∀ x, g (st s (skp s p + 1) n) = some x → bT none g [a, b] [ka, kb] (st s p n) e =
     match x with
     | .inl r => (dA none (if s.getD (skp s p) 0 = a then ka else kb) [] [e, r.1] r.2).bind (fun r => some (.inl (r.2, r.1)))
     | .inr z => some (.inr (.inr z)) := fun x hx => by
    unfold bT
    refine bA (aSe hs hp h) (ifn (by simp) ?_)
    simp only [aGc, Option.isSome_some, Option.getD_some]
    have hi : aEU [a, b] (s.getD (skp s p) 0) = if s.getD (skp s p) 0 = a then 0 else 1 := by
     unfold aEU aP9
     by_cases e1 : s.getD (skp s p) 0 = a
     ·rw [if_pos e1, if_pos e1.symm]; rfl
     ·have e2 : s.getD (skp s p) 0 = b := by
       rcases List.mem_cons.1 hm with h | h
       ·exact absurd h e1
       ·exact List.mem_singleton.1 h
      rw [if_neg e1, if_neg (fun q => e1 q.symm), aP9, if_pos e2.symm]; rfl
    refine aZ trivial (aZ (by rw [hi]; split <;> decide) (bA hx ?_))
    have hkd : ([ka, kb] : List Int).getD (aEU [a, b] (s.getD (skp s p) 0)).toNat 0 = if s.getD (skp s p) 0 = a then ka else kb := by rw [hi]; split <;> rfl
    cases x with
    | inl y => simp only; rw [hkd]; rfl
    | inr y => rfl
   unfold aAi at hr
   cases ho : one (skp s p + 1) with
   | none => rw [ho] at hr; cases hr
   | some r' =>
    rw [ho] at hr
    have hc := hg (skp s p + 1) n r' (by omega) (by omega) ho
    cases r' with
    | inl y =>
     obtain ⟨x, q⟩ := y
     obtain ⟨a1, a2, n', a3, a4⟩ := hc
     have hr : aAj one s a b ka kb f (Ex.mk (if s.getD (skp s p) 0 = a then ka else kb) [] [e, x]) q = some r := hr
     have ih := aTb hs hg hab f _ q (n' + 1) r a2 (by omega) hr
     have hstep := round _ a4
     have hstep : bT none g [a, b] [ka, kb] (st s p n) e = some (.inl (st s q (n' + 1), Ex.mk (if s.getD (skp s p) 0 = a then ka else kb) [] [e, x])) := hstep.trans (bA (aFT _ _ _ s q n' (by omega)) rfl)
     cases r with
     | inl z =>
      obtain ⟨e2, q2⟩ := z
      obtain ⟨b1, b2, n2, b3, b4⟩ := ih
      exact ⟨by omega, b2, n2, by omega, aLS hstep b4⟩
     | inr z => exact ⟨ih.1, aLS hstep ih.2⟩
    | inr y =>
     obtain ⟨a1, a2⟩ := hc
     obtain rfl : .inr y = r := Option.some.inj hr
     exact ⟨a1, aDz (round _ a2)⟩
  ·rw [if_neg h] at hr
   obtain rfl : .inl (e, skp s p) = r := Option.some.inj hr
   refine ⟨hk.1, hk.2, n, by omega, aDz ?_⟩
   unfold bT
   exact bA (aVM hs hp h) (ify (by simp) rfl)
theorem aVO {s : List Nat} (hs : s.length ≤ 1099511627776) {g : RD0 → Option CR} {one : Nat → Option PR} (hg : Gd s g one) {a b : Nat} {ka kb : Int} (hab : a ≠ b) :
  Gd s (fun o => bZ none g [a, b] [ka, kb] o) (fun p => aAi (one p) (aAj one s a b ka kb (s.length + 1))) := fun p n r hp hn hr => by
 show Cor s p n (bZ none g [a, b] [ka, kb] (st s p n)) r
 unfold bZ
 refine aI6 (p := p) hr (fun r' h => hg p n r' hp hn h) (fun e q n' h1 h2 h3 h4 => ?_) (fun z => rfl)
 have := aTb hs hg hab _ e q n' r h2 (by omega) h4
 refine Cor.mv h1 h3 ?_
 cases r with
 | inl z =>
  obtain ⟨e2, q2⟩ := z
  obtain ⟨b1, b2, n2, b3, b4⟩ := this
  exact ⟨b1, b2, n2, b3, bA b4 rfl⟩
 | inr z => exact ⟨this.1, bA this.2 rfl⟩
theorem Gd.of {s : List Nat} {g g' : RD0 → Option CR} {one : Nat → Option PR} (h : Gd s g one) (e : ∀ o, g' o = (g o).bind fun x => some x) : Gd s g' one := fun p n r hp hn hr => by
 rw [e]
 have := h p n r hp hn hr
 cases r with
 | inl z =>
  obtain ⟨e2, q2⟩ := z
  obtain ⟨b1, b2, n2, b3, b4⟩ := this
  exact ⟨b1, b2, n2, b3, bA b4 rfl⟩
 | inr z => exact ⟨this.1, bA this.2 rfl⟩
theorem aRk (x : Option CR) : (x.bind fun e => match e with | .inl r => some (Sum.inl (r.1, r.2)) | .inr p => some (Sum.inr p)) = x.bind fun x => some x := by
 cases x with
 | none => rfl
 | some e => cases e <;> rfl
theorem aW6 {s : List Nat} (hs : s.length ≤ 1099511627776) {g : RD0 → Option CR} {one : Nat → Option PR} (hg : Gd s g one) : Gd s (eT none g) (aGY one s) :=
 (aVO hs hg (a := 42) (b := 47) (ka := 8) (kb := 9) xAb).of fun o => (show eT none g o = _ from aRk _)
theorem aVP {s : List Nat} (hs : s.length ≤ 1099511627776) {g : RD0 → Option CR} {one : Nat → Option PR} (hg : Gd s g one) : Gd s (iR none g) (aSf one s) :=
 (aVO hs (aW6 hs hg) (a := 43) (b := 45) (ka := 6) (kb := 7) xAb).of fun o => (show iR none g o = _ from aRk _)
theorem aXp {s : List Nat} (hs : s.length ≤ 1099511627776) {g : RD0 → Option CR} {one : Nat → Option PR} (hg : Gd s g one) : Gd s (fH none g) (pIn one s) := fun p n r hp hn hr => by
 have hk := aHw s p hp
 unfold fH
 unfold pIn at hr
 by_cases h : aFS s [40] (skp s p)
 ·rw [if_pos h] at hr
  have h1 := h.1
  have e : dQ none (aP ⟨#[40]⟩) (st s p n) = some (.inl (st s (skp s p + 1) n)) := aRj hs hp h
  rw [e]
  refine aI6 (p := skp s p + 1) hr (fun r' h => aVP hs hg _ n r' (by omega) (by omega) h) (fun e q n' h1 h2 h3 h4 => ?_) (fun z => rfl)
  refine Cor.mv (q := q) (by omega) (by omega : n' + p ≤ n + q) ?_
  have hk2 := aHw s q h2
  by_cases h5 : aFS s [41] (skp s q)
  ·rw [if_pos h5] at h4
   obtain rfl := Option.some.inj h4
   have h6 := h5.1
   exact ⟨by omega, by omega, n', by omega, bA (aRj hs h2 h5) rfl⟩
  ·rw [if_neg h5] at h4
   obtain rfl := Option.some.inj h4
   exact ⟨hk2.2, bA (aS8 hs h2 h5) rfl⟩
 ·rw [if_neg h] at hr
  obtain rfl := Option.some.inj hr
  exact ⟨hk.2, bA (aS8 hs hp h) rfl⟩
theorem aX3 {s : List Nat} (hs : s.length ≤ 1099511627776) {p n : Nat} {r : PR} (hp : p ≤ s.length) (hn : n + s.length ≤ 1099511627776 + p) (hr : aW5 s p = some r) : Cor s p n (iC none (st s p n)) r := by
 obtain ⟨h1, h2⟩ := aW4 s hs p hp
 unfold iC
 unfold aW5 at hr
 simp only [h1, Option.isSome_some, Option.getD_some]
 by_cases h : xK s p = 0 ∨ 60 < xK s p
 ·rw [if_pos h] at hr
  obtain rfl := Option.some.inj hr
  exact ⟨hp, aZ trivial (ify (by omega) rfl)⟩
 ·rw [if_neg h] at hr
  obtain rfl := Option.some.inj hr
  refine ⟨by omega, h2, n + 1, by omega, aZ trivial (ifn (by omega) ?_)⟩
  refine aZ (by constructor <;> omega) (aZ (by constructor <;> omega) (aZ (by constructor <;> omega) ?_))
  have e1 : ((p : Int) + (xK s p : Int) - (xK s p : Int)).toNat = p := by omega
  have e2 : ((p : Int) + (xK s p : Int)).toNat = p + xK s p := by omega
  have e3 : (p : Int) + (xK s p : Int) = ((p + xK s p : Nat) : Int) := by omega
  have e4 : List.drop p (List.take (p + xK s p) s) = (s.drop p).take (xK s p) := by rw [List.drop_take]; congr 1; omega
  rw [e1, e2, e4, e3]
  exact bA (aFT _ _ _ s _ n (by omega)) rfl
theorem aTc (c : Nat) : aEU (aP kB) c < 0 ↔ ¬ eV c = true := by
 rw [aLU]
 have e : aP kB = List.range' 97 26 ++ (List.range' 48 10 ++ [95]) := by decide
 rw [e]
 simp only [List.mem_append, List.mem_range'_1, List.mem_singleton, eV, aEH, rH, Bool.or_eq_true, decide_eq_true_eq, beq_iff_eq]
 omega
theorem aVQ (c : Nat) : aEU (aP vA) c < 0 ↔ ¬ aEH c = true := by
 rw [aLU]
 have e : aP vA = List.range' 97 26 := by decide
 rw [e]
 simp only [List.mem_range'_1, aEH, decide_eq_true_eq]
 omega
theorem aW7 {s : List Nat} (hs : s.length ≤ 1099511627776) {p n : Nat} (hp : p ≤ s.length) : jM none (st s p n) = some (aC4 s p, st s (p + run eV s p) n) := by
 have hw := aQc eV s p
 have main : ∀ (k p : Nat), k = s.length - p → p ≤ s.length → aFh (fun d : RD0 => eB none d) (st s p n) = some (st s (p + run eV s p) n) := by
  intro k
  induction k with
  | zero =>
   intro p hk hp
   have e : run eV s p = 0 := by have := aQc eV s p; omega
   rw [e]
   refine aDz ?_
   show eB none (st s p n) = _
   unfold eB
   refine aZ (fun h => by have h : (p : Int) < (s.length : Int) := h; omega) (aZ (fun _ => rfl) (ifn (fun h => by have h : (p : Int) < (s.length : Int) := h.1; omega) rfl))
  | succ k ih =>
   intro p hk hp
   have hck : ∀ x, eB none (st s p n) = x ↔ (if (p : Int) < (s.length : Int) ∧ (0 : Int) ≤ aEU (aP kB) (s.getD p 0) then some (.inl (st s (p + 1) n)) else some (.inr (st s p n))) = x := by
    intro x
    have : eB none (st s p n) = (if (p : Int) < (s.length : Int) ∧ (0 : Int) ≤ aEU (aP kB) (s.getD p 0) then some (.inl (st s (p + 1) n)) else some (.inr (st s p n))) := by
     unfold eB
     simp only [aGc, Int.toNat_natCast, Option.isSome_some, Option.getD_some]
     refine aZ (fun h => ⟨by omega, by omega⟩) (aZ (fun _ => trivial) ?_)
     refine aYn (fun h => ?_) (fun h => ?_)
     ·rw [if_pos h]
      exact aZ (by constructor <;> omega) rfl
     ·rw [if_neg h]
    rw [this]
   by_cases hb : eV (s.getD p 0) = true
   ·have e : p + run eV s p = (p + 1) + run eV s (p + 1) := by rw [aNX (by omega) hb]; omega
    rw [e]
    refine aLS (d' := st s (p + 1) n) ((hck _).2 ?_) (ih (p + 1) (by omega) (by omega))
    have : ¬ aEU (aP kB) (s.getD p 0) < 0 := fun h => (aTc _).1 h hb
    rw [if_pos ⟨by omega, by omega⟩]
   ·have e : run eV s p = 0 := aLT (fun _ => by simpa using hb)
    rw [e]
    refine aDz ((hck _).2 ?_)
    have := (aTc _).2 hb
    rw [if_neg (fun h => by omega)]
    rfl
 unfold jM
 refine bA (main _ p rfl hp) ?_
 unfold mT
 refine aZ (by constructor <;> (simp only; omega)) ?_
 have e4 : List.drop (p : Int).toNat (List.take ((p + run eV s p : Nat) : Int).toNat s) = aC4 s p := by
  rw [Int.toNat_natCast, Int.toNat_natCast, List.drop_take]
  unfold aC4
  congr 1; omega
 show some (List.drop (p : Int).toNat (List.take ((p + run eV s p : Nat) : Int).toNat s), _) = _
 rw [e4]
end Nu
end Go.Proofs
namespace Go.Proofs
open Go.Vc
set_option maxRecDepth 20000
namespace Nu
theorem aYp (w : List Nat) : aBW .str (aBX .str (aBX .str (aBX .str ([] : List (qI × Int)) (aP ⟨#[115, 113, 114]⟩) (11 : Int)) (aP ⟨#[115, 113, 114, 116]⟩) (12 : Int)) (aP ⟨#[101, 120, 112]⟩) (13 : Int)) w = aSg w := by
 have e : aBX .str (aBX .str (aBX .str ([] : List (qI × Int)) (aP ⟨#[115, 113, 114]⟩) (11 : Int)) (aP ⟨#[115, 113, 114, 116]⟩) (12 : Int)) (aP ⟨#[101, 120, 112]⟩) (13 : Int) = [([115, 113, 114], 11), ([115, 113, 114, 116], 12), ([101, 120, 112], 13)] := by decide
 rw [e]
 simp only [aBW, aSg, Ty.eqb, decide_eq_true_eq]
theorem aFU {s : List Nat} {p n : Nat} {x y : Option CR} {r : PR} (h : x = y) (c : Cor s p n y r) : Cor s p n x r := by rw [h]; exact c
theorem aRl {s : List Nat} {p n : Nat} {x : Option CR} {f : CR → Option CR} {r : PR} (c : Cor s p n x r) (hf : ∀ y, f y = some y) : Cor s p n (x.bind f) r := by
 cases r with
 | inl z =>
  obtain ⟨e2, q2⟩ := z
  obtain ⟨b1, b2, n2, b3, b4⟩ := c
  exact ⟨b1, b2, n2, b3, bA b4 (hf _)⟩
 | inr z => exact ⟨c.1, bA c.2 (hf _)⟩
theorem aVR {s : List Nat} (hs : s.length ≤ 1099511627776) : ∀ n, Gd s (eF none n) (qJ s n)
 | 0 => fun p n r hp hn hr => by cases hr
 | k + 1 => fun p n r hp hn hr => by
  have ih := aVR hs k
  have hk := aHw s p hp
  show Cor s p n (fW none (eF none k) (st s p n)) r
  generalize hg : eF none k = g at ih
  rw [qJ] at hr
  unfold fW
  have h45 : aP ⟨#[45]⟩ = [45] := rfl
  rw [h45]
  by_cases h : aFS s [45] (skp s p)
  ·rw [if_pos h] at hr
   have h1 := h.1
   refine aFU (bA (aSe hs hp h) (ify rfl rfl)) ?_
   refine aI6 (p := skp s p + 1) hr (fun r' h => ih _ n r' (by omega) (by omega) h) (fun e q n' h1 h2 h3 h4 => ?_) (fun z => rfl)
   obtain rfl := Option.some.inj h4
   exact ⟨by omega, h2, n' + 1, by omega, bA (aFT _ _ _ s q n' (by omega)) rfl⟩
  ·rw [if_neg h] at hr
   refine aFU (bA (aVM hs hp h) (ifn (by simp) rfl)) ?_
   generalize hq : skp s p = q at hk hr
   refine Cor.mv (n' := n) hk.1 (by omega) ?_
   unfold aPc at hr
   by_cases h1 : s.length ≤ q
   ·rw [if_pos h1] at hr
    obtain rfl := Option.some.inj hr
    exact ⟨hk.2, ify (by simp only; omega) rfl⟩
   ·rw [if_neg h1] at hr
    refine aFU (ifn (by simp only; omega) (aZ (by constructor <;> (simp only; omega)) rfl)) ?_
    have hc : (q : Int).toNat = q := by omega
    by_cases h2 : s.getD q 0 = 40
    ·rw [if_pos h2] at hr
     refine aFU (ify (by simp only [hc]; exact h2) rfl) ?_
     exact aRl (aXp hs ih q n r hk.2 (by omega) hr) (fun y => by cases y <;> rfl)
    ·rw [if_neg h2] at hr
     refine aFU (ifn (by simp only [hc]; exact h2) (aZ (by constructor <;> (simp only; omega)) (aZ rfl rfl))) ?_
     by_cases h3 : aEH (s.getD q 0) = true
     ·rw [if_pos h3] at hr
      have h4 : ¬ aEU (aP vA) (s.getD q 0) < 0 := fun e => (aVQ _).1 e h3
      refine aFU (ifn (by simp only [aGc, hc, Option.getD_some]; exact h4) (bA (aW7 hs hk.2) rfl)) ?_
      unfold aTa at hr
      simp only [aYp]
      have hw := aQc eV s q
      have hw1 : 1 ≤ run eV s q := by rw [aNX (by omega) (by unfold eV; rw [h3]; rfl)]; omega
      cases hf : aSg (aC4 s q) with
      | none =>
       rw [hf] at hr
       obtain rfl := Option.some.inj hr
       exact ⟨by omega, by omega, n + 1, by omega, (ifn (by simp) (bA (aFT _ _ _ s _ n (by omega)) rfl))⟩
      | some kd =>
       rw [hf] at hr
       refine aFU (ify rfl rfl) ?_
       have hr : aAi (pIn (qJ s k) s (q + run eV s q)) (fun e z => some (.inl (Ex.mk kd [] [e], z))) = some r := hr
       refine aI6 (p := q + run eV s q) hr (fun r' h => aXp hs ih _ n r' (by omega) (by omega) h) (fun e q' n' h1 h2 h3 h4 => ?_) (fun z => rfl)
       obtain rfl := Option.some.inj h4
       exact ⟨by omega, h2, n' + 1, by omega, bA (aFT _ _ _ s q' n' (by omega)) rfl⟩
     ·rw [if_neg h3] at hr
      have h4 : aEU (aP vA) (s.getD q 0) < 0 := (aVQ _).2 h3
      refine aFU (ify (by simp only [aGc, hc, Option.getD_some]; exact h4) rfl) ?_
      exact aRl (aX3 hs hk.2 (by omega) hr) (fun y => by cases y <;> rfl)
theorem aW8 {s : List Nat} (hs : s.length ≤ 1099511627776) {e : Ex} {q : Nat} (h : aSf (qJ s 64) s 0 = some (.inl (e, q))) (hq : skp s q = s.length) (hf : oH none e = some true) : pY none s = some (e, 0, 0, ()) := by
 have := aVP hs (aVR hs 64) 0 0 _ (by omega) (by omega) h
 obtain ⟨a1, a2, n', a3, a4⟩ := this
 unfold pY
 refine bA a4 ?_
 refine bA (aQd s hs _ q n' rfl a2) (ifn (by simp only; rw [hq]; omega) ?_)
 exact aZ (by simp only [hf]; rfl) (ifn (by simp only [hf]; simp) rfl)
end Nu
end Go.Proofs
namespace Go.Proofs
open Go.Vc
set_option maxRecDepth 20000
namespace Nu
def Tx (s : List Nat) (p : Nat) (x r : List Nat) : Prop := p ≤ s.length ∧ s.drop p = x ++ r
theorem Tx.len {s x r : List Nat} {p : Nat} (h : Tx s p x r) : s.length = p + x.length + r.length := by
 have := congrArg List.length h.2
 rw [List.length_drop, List.length_append] at this
 have := h.1
 omega
theorem Tx.get {s x r : List Nat} {p : Nat} (h : Tx s p x r) (j : Nat) : s.getD (p + j) 0 = (x ++ r).getD j 0 := by
 rw [← h.2]
 simp [List.getD_eq_getElem?_getD, List.getElem?_drop]
theorem Tx.app {s x y r : List Nat} {p : Nat} (h : Tx s p (x ++ y) r) : Tx s p x (y ++ r) ∧ Tx s (p + x.length) y r := by
 have hl := h.len
 rw [List.length_append] at hl
 refine ⟨⟨h.1, by rw [h.2, List.append_assoc]⟩, ⟨by omega, ?_⟩⟩
 rw [← List.drop_drop, h.2, List.append_assoc, List.drop_left]
theorem Tx.head {s x r : List Nat} {p c : Nat} (h : Tx s p (c :: x) r) : p < s.length ∧ s.getD p 0 = c := by
 have hl := h.len
 have := h.get 0
 exact ⟨by simp at hl; omega, by simpa using this⟩
theorem Tx.run {s x r : List Nat} {p : Nat} {q : Nat → Bool} (h : Tx s p x r) : run q s p = ((x ++ r).takeWhile q).length := by
 unfold Nu.run; rw [h.2]
theorem yT {s : List Nat} {p : Nat} (h : p < s.length → s.getD p 0 ≠ 32) : skp s p = p := by
 unfold skp
 rw [aLT (fun hl => by have := h hl; unfold aQb; simpa [beq_eq_false_iff_ne] using this)]
 rfl
theorem aLV {s : List Nat} {p : Nat} (h : p < s.length) (h2 : s.getD p 0 = 32) : skp s p = skp s (p + 1) := by
 unfold skp
 rw [aNX h (by rw [h2]; rfl)]
 omega
theorem aTd (s : List Nat) (p : Nat) : skp s (skp s p) = skp s p := by
 refine yT fun hl he => ?_
 have hd : aQb (s.getD (skp s p) 0) = true := by rw [he]; rfl
 have key : ∀ k p, k = s.length - p → skp s p < s.length → aQb (s.getD (skp s p) 0) = true → False := by
  intro k
  induction k with
  | zero => intro p hk h1 h2; unfold skp at h1; omega
  | succ k ih =>
   intro p hk h1 h2
   by_cases hb : aQb (s.getD p 0) = true
   ·have e : skp s p = skp s (p + 1) := by unfold skp; rw [aNX (by omega) hb]; omega
    rw [e] at h1 h2
    exact ih (p + 1) (by omega) h1 h2
   ·have e : skp s p = p := by unfold skp; rw [aLT (fun _ => by simpa using hb)]; rfl
    rw [e] at h2
    exact hb h2
 exact key _ p rfl hl hd
theorem aTe {one : Nat → Option PR} {s : List Nat} {a b : Nat} {ka kb : Int} (f : Nat) (e : Ex) {p q : Nat} (h : skp s p = skp s q) : aAj one s a b ka kb f e p = aAj one s a b ka kb f e q := by
 cases f with
 | zero => rfl
 | succ f => rw [aAj, aAj, h]
theorem aLW {one : Nat → Option PR} {s : List Nat} {a b : Nat} {ka kb : Int} (f : Nat) (e : Ex) {p : Nat} (h : ¬ aFS s [a, b] (skp s p)) : aAj one s a b ka kb (f + 1) e p = some (.inl (e, skp s p)) := by
 rw [aAj, if_neg h]
theorem row_one {one : Nat → Option PR} {s : List Nat} {a b : Nat} {ka kb : Int} (f : Nat) (e r : Ex) {p q c : Nat} {k : Int} (h1 : skp s p < s.length) (h2 : s.getD (skp s p) 0 = c) (hc : c = a ∨ c = b) (hk : (if c = a then ka else kb) = k) (ho : one (skp s p + 1) = some (.inl (r, q))) :
  aAj one s a b ka kb (f + 1) e p = aAj one s a b ka kb f (Ex.mk k [] [e, r]) q := by
 rw [aAj, if_pos ⟨h1, by rw [h2]; rcases hc with rfl | rfl <;> simp⟩, ho, h2, hk]
 rfl
def Bd : List Nat → Prop
 | [] => True
 | c :: _ => c = 32 ∨ c = 41
def aNY (t : List Nat) : Prop := (∃ c r, t = c :: r ∧ aEH c = true) ∧ (∀ c ∈ t, eV c = true) ∧ aSg t = none
def aXq (t : List Nat) : Prop := t.length ≤ 60 ∧ (∃ c r, t = c :: r ∧ rH c = true) ∧ ∀ s p r, Tx s p t r → Bd r → xK s p = t.length
inductive W : Nat → Ex → Prop
 | num (n : Nat) (t : List Nat) : aXq t → W (n + 1) (Ex.mk 1 t [])
 | name (n : Nat) (t : List Nat) : aNY t → W (n + 1) (Ex.mk 2 t [])
 | two (n : Nat) (k : Int) (a b : Ex) : 6 ≤ k → k ≤ 9 → W n a → W n b → W (n + 1) (Ex.mk k [] [a, b])
 | neg (n : Nat) (a : Ex) : W n a → W (n + 1) (Ex.mk 10 [] [a])
 | fn (n : Nat) (k : Int) (a : Ex) : 11 ≤ k → k ≤ 13 → W n a → W (n + 1) (Ex.mk k [] [a])
def par (b : Prop) [Decidable b] (t : List Nat) : List Nat := if b then [40] ++ (t ++ [41]) else t
abbrev iH (e : Ex) : Prop := e.kind = 6 ∨ e.kind = 7
abbrev jK (e : Ex) : Prop := 6 ≤ e.kind ∧ e.kind ≤ 9
abbrev kid (e : Ex) (i : Nat) : Ex := e.l.getD i (Ex.mk 0 [] [])
def fnT (k : Int) : List Nat := if k = 11 then [115, 113, 114] else if k = 12 then [115, 113, 114, 116] else [101, 120, 112]
def sgT (k : Int) : Nat := if k = 6 then 43 else if k = 7 then 45 else if k = 8 then 42 else 47
def tx : Nat → Ex → List Nat
 | 0, _ => []
 | n + 1, e =>
  if e.kind = 6 ∨ e.kind = 7 then tx n (kid e 0) ++ ([32, sgT e.kind, 32] ++ par (iH (kid e 1)) (tx n (kid e 1)))
  else if e.kind = 8 ∨ e.kind = 9 then par (iH (kid e 0)) (tx n (kid e 0)) ++ ([32, sgT e.kind, 32] ++ par (jK (kid e 1)) (tx n (kid e 1)))
  else if e.kind = 10 then [45] ++ par (jK (kid e 0)) (tx n (kid e 0))
  else if 11 ≤ e.kind ∧ e.kind ≤ 13 then fnT e.kind ++ par True (tx n (kid e 0))
  else e.text
theorem aNZ {n : Nat} {k : Int} {a b : Ex} (h : k = 6 ∨ k = 7) : tx (n + 1) (Ex.mk k [] [a, b]) = tx n a ++ ([32, sgT k, 32] ++ par (iH b) (tx n b)) := by
 rw [tx]; exact ify h rfl
theorem aI7 {n : Nat} {k : Int} {a b : Ex} (h : k = 8 ∨ k = 9) : tx (n + 1) (Ex.mk k [] [a, b]) = par (iH a) (tx n a) ++ ([32, sgT k, 32] ++ par (jK b) (tx n b)) := by
 rw [tx]; exact ifn (by simp only [Ex.kind]; omega) (ify h rfl)
theorem aVS {n : Nat} {a : Ex} : tx (n + 1) (Ex.mk 10 [] [a]) = [45] ++ par (jK a) (tx n a) := rfl
theorem aVT {n : Nat} {k : Int} {a : Ex} (h1 : 11 ≤ k) (h2 : k ≤ 13) : tx (n + 1) (Ex.mk k [] [a]) = fnT k ++ par True (tx n a) := by
 rw [tx]; exact ifn (by simp only [Ex.kind]; omega) (ifn (by simp only [Ex.kind]; omega) (ifn (by simp only [Ex.kind]; omega) (ify ⟨h1, h2⟩ rfl)))
theorem aI8 {b : Prop} [Decidable b] {t : List Nat} (h : ∃ c r, t = c :: r ∧ c ≠ 32) (u : List Nat) : ∃ c r, par b t ++ u = c :: r ∧ c ≠ 32 := by
 obtain ⟨c, r, rfl, hc⟩ := h
 unfold par
 split
 ·exact ⟨40, c :: r ++ [41] ++ u, by simp, by decide⟩
 ·exact ⟨c, r ++ u, rfl, hc⟩
theorem aI9 : ∀ {n : Nat} {e : Ex}, W n e → ∃ c r, tx n e = c :: r ∧ c ≠ 32 := by
 intro n e h
 induction h with
 | num n t h => obtain ⟨_, ⟨c, r, rfl, hc⟩, _⟩ := h; exact ⟨c, r, rfl, fun e => by subst e; cases hc⟩
 | name n t h => obtain ⟨⟨c, r, rfl, hc⟩, _⟩ := h; exact ⟨c, r, rfl, fun e => by subst e; cases hc⟩
 | two n k a b h1 h2 ha hb iha ihb =>
  by_cases hk : k = 6 ∨ k = 7
  ·rw [aNZ hk]
   obtain ⟨c, r, hc, h3⟩ := iha
   exact ⟨c, r ++ ([32, sgT k, 32] ++ par (iH b) (tx n b)), by rw [hc]; rfl, h3⟩
  ·rw [aI7 (by omega)]
   exact aI8 iha _
 | neg n a ha iha => exact ⟨45, _, rfl, by decide⟩
 | fn n k a h1 h2 ha iha =>
  rw [aVT h1 h2]
  unfold fnT
  obtain rfl | rfl | rfl : k = 11 ∨ k = 12 ∨ k = 13 := by omega
  ·exact ⟨115, _, rfl, by decide⟩
  ·exact ⟨115, _, rfl, by decide⟩
  ·exact ⟨101, _, rfl, by decide⟩
def so : Nat → Ex → Nat
 | 0, _ => 0
 | n + 1, e => if e.kind = 6 ∨ e.kind = 7 then so n (kid e 0) + 1 else 0
def po : Nat → Ex → Nat
 | 0, _ => 0
 | n + 1, e => if e.kind = 8 ∨ e.kind = 9 then (if iH (kid e 0) then 0 else po n (kid e 0)) + 1 else 0
theorem aVU : ∀ n e, so n e ≤ (tx n e).length
 | 0, _ => Nat.le_refl _
 | n + 1, e => by
  have := aVU n (kid e 0)
  rw [so, tx]
  split
  ·simp only [List.length_append, List.length_cons]; omega
  ·omega
theorem aXr : ∀ n e, po n e ≤ (tx n e).length
 | 0, _ => Nat.le_refl _
 | n + 1, e => by
  have := aXr n (kid e 0)
  rw [po, tx]
  split
  ·rename_i h
   have h67 : ¬ (e.kind = 6 ∨ e.kind = 7) := by omega
   rw [if_neg h67]
   simp only [List.length_append, List.length_cons]
   split
   ·omega
   ·rename_i h2
    rw [par, if_neg h2]; omega
  ·omega
end Nu
end Go.Proofs
namespace Go.Proofs
open Go.Vc
set_option maxRecDepth 20000
namespace Nu
def aRm (s : List Nat) (q : Nat) : Prop := ¬ aFS s [42, 47] (skp s q)
structure Rd (s : List Nat) (k p n : Nat) (e : Ex) (p0 : Nat) : Prop where
 S : aRm s (p0 + (tx n e).length) → ∀ f, aAi (aGY (qJ s k) s p) (aAj (aGY (qJ s k) s) s 43 45 6 7 (f + so n e)) = aAj (aGY (qJ s k) s) s 43 45 6 7 f e (p0 + (tx n e).length)
 P : ¬ iH e → ∀ f, aAi (qJ s k p) (aAj (qJ s k) s 42 47 8 9 (f + po n e)) = aAj (qJ s k) s 42 47 8 9 f e (p0 + (tx n e).length)
 F : ¬ jK e → qJ s k p = some (.inl (e, p0 + (tx n e).length))
def aRn (n : Nat) : Prop := ∀ e, W n e → ∀ s k p p0 r, 2 * n ≤ k + 1 → skp s p = p0 → Tx s p0 (tx n e) r → Bd r → Rd s k p n e p0
section
variable {s : List Nat} {k p n p0 : Nat} {e : Ex} {r : List Nat}
theorem aTf (hT : Tx s p0 (tx n e) r) (hP : ∀ f, aAi (qJ s k p) (aAj (qJ s k) s 42 47 8 9 (f + po n e)) = aAj (qJ s k) s 42 47 8 9 f e (p0 + (tx n e).length)) (hm : aRm s (p0 + (tx n e).length)) :
  aGY (qJ s k) s p = some (.inl (e, skp s (p0 + (tx n e).length))) := by
 have hl := hT.len
 have hp := aXr n e
 have := hP (s.length - po n e + 1)
 rw [show s.length - po n e + 1 + po n e = s.length + 1 from by omega] at this
 unfold aGY
 rw [this, aLW _ _ hm]
theorem Rd.ofP (hT : Tx s p0 (tx n e) r) (hs : so n e = 0) (hP : ¬ iH e → ∀ f, aAi (qJ s k p) (aAj (qJ s k) s 42 47 8 9 (f + po n e)) = aAj (qJ s k) s 42 47 8 9 f e (p0 + (tx n e).length))
  (hns : ¬ iH e) (hF : ¬ jK e → qJ s k p = some (.inl (e, p0 + (tx n e).length))) : Rd s k p n e p0 where
 S hm f := by
  rw [aTf hT (hP hns) hm, hs]
  exact aTe _ _ (aTd _ _)
 P := hP
 F := hF
theorem Rd.ofF (hT : Tx s p0 (tx n e) r) (hs : so n e = 0) (hp : po n e = 0) (hn : ¬ jK e) (hF : qJ s k p = some (.inl (e, p0 + (tx n e).length))) : Rd s k p n e p0 :=
 Rd.ofP hT hs (fun _ f => by rw [hF, hp]; rfl) (fun h => hn (by rcases h with h | h <;> (rw [jK, h]; decide))) (fun _ => hF)
theorem aKX (t : List Nat) : par True t = [40] ++ (t ++ [41]) := if_pos trivial
theorem aXs (ih : aRn n) (hw : W n e) (hk : 2 * n ≤ k + 1) (hp : skp s p = p0) (hT : Tx s p0 (par True (tx n e)) r) : pIn (qJ s k) s p = some (.inl (e, p0 + (par True (tx n e)).length)) := by
 rw [aKX] at hT
 obtain ⟨h1, h2⟩ := hT.app
 obtain ⟨h3, h4⟩ := h2.app
 obtain ⟨c, u, hc, hc2⟩ := aI9 hw
 have a1 := hT.head
 have hl := hT.len
 have hh : skp s (p0 + 1) = p0 + 1 := yT fun _ => by
  have := h3.get 0
  rw [hc] at this
  rw [Nat.add_zero] at this
  rw [show p0 + 1 = p0 + [40].length from rfl, this]
  exact hc2
 have a2 := h4.head
 have rd := ih e hw s k (p0 + 1) (p0 + 1) ([41] ++ r) hk hh h3 (.inr rfl)
 have hq : skp s (p0 + 1 + (tx n e).length) = p0 + 1 + (tx n e).length := yT fun _ => by
  have := a2.2
  rw [show p0 + [40].length + (tx n e).length = p0 + 1 + (tx n e).length from rfl] at this
  rw [this]; decide
 have hm : aRm s (p0 + 1 + (tx n e).length) := by
  unfold aRm
  exact zah
 have hso := aVU n e
 have hsum : aSf (qJ s k) s (p0 + 1) = some (.inl (e, p0 + 1 + (tx n e).length)) := by
  unfold aSf
  have := rd.S hm (s.length - so n e + 1)
  rw [show s.length - so n e + 1 + so n e = s.length + 1 from by simp only [List.length_append] at hl; omega] at this
  rw [this, aLW, hq]
  exact zah
 unfold pIn
 rw [hp, if_pos ⟨a1.1, by rw [a1.2]; decide⟩, hsum]
 show (if aFS s [41] (skp s (p0 + 1 + (tx n e).length)) then _ else _) = _
 rw [hq, if_pos ⟨a2.1, by
  have := a2.2
  rw [show p0 + [40].length + (tx n e).length = p0 + 1 + (tx n e).length from rfl] at this
  rw [this]; decide⟩, aKX]
 simp only [List.length_append, List.length_cons, List.length_nil]
 rw [show p0 + (0 + 1 + ((tx n e).length + (0 + 1))) = p0 + 1 + (tx n e).length + 1 from by omega]
theorem aVV (ih : aRn n) (hw : W n e) (hk : 2 * n ≤ k) (hk0 : 1 ≤ k) (hp : skp s p = p0) (hT : Tx s p0 (par True (tx n e)) r) : qJ s k p = some (.inl (e, p0 + (par True (tx n e)).length)) := by
 obtain ⟨k, rfl⟩ : ∃ j, k = j + 1 := ⟨k - 1, by omega⟩
 have hT' := hT
 rw [aKX] at hT'
 have a1 := hT'.head
 have hss : skp s p0 = p0 := yT fun _ => by rw [a1.2]; decide
 rw [qJ, hp, if_neg (fun h => by have := h.2; rw [a1.2] at this; revert this; decide), aPc, if_neg (by omega), if_pos a1.2]
 exact aXs ih hw hk hss hT
theorem aVW (ih : aRn n) (hw : W n e) (hk : 2 * n ≤ k) (hk0 : 1 ≤ k) (hp : skp s p = p0) {c : Prop} [Decidable c] (hc : ¬ c → ¬ jK e) (hT : Tx s p0 (par c (tx n e)) r) (hb : Bd r) : qJ s k p = some (.inl (e, p0 + (par c (tx n e)).length)) := by
 by_cases h : c
 ·have e1 : par c (tx n e) = par True (tx n e) := by rw [par, if_pos h, aKX]
  rw [e1] at hT ⊢
  exact aVV ih hw hk hk0 hp hT
 ·have e1 : par c (tx n e) = tx n e := if_neg h
  rw [e1] at hT ⊢
  exact (ih e hw s k p p0 r (by omega) hp hT hb).F (hc h)
theorem aVX (ih : aRn n) (hw : W n e) (hk : 2 * n ≤ k) (hk0 : 1 ≤ k) (hp : skp s p = p0) (hT : Tx s p0 (par (iH e) (tx n e)) r) (hb : Bd r) (hm : aRm s (p0 + (par (iH e) (tx n e)).length)) :
  aGY (qJ s k) s p = some (.inl (e, skp s (p0 + (par (iH e) (tx n e)).length))) := by
 by_cases h : iH e
 ·have e1 : par (iH e) (tx n e) = par True (tx n e) := by rw [par, if_pos h, aKX]
  rw [e1] at hT hm ⊢
  unfold aGY
  rw [aVV ih hw hk hk0 hp hT]
  exact aLW _ _ hm
 ·have e1 : par (iH e) (tx n e) = tx n e := if_neg h
  rw [e1] at hT hm ⊢
  exact aTf hT ((ih e hw s k p p0 r (by omega) hp hT hb).P h) hm
end
theorem W.pos {n : Nat} {e : Ex} (h : W n e) : 1 ≤ n := by cases h <;> omega
theorem aX4 {n : Nat} {e : Ex} (h : ¬ (6 ≤ e.kind ∧ e.kind ≤ 9)) : so n e = 0 ∧ po n e = 0 := by
 cases n with
 | zero => exact ⟨rfl, rfl⟩
 | succ n => exact ⟨if_neg (by omega), if_neg (by omega)⟩
theorem aVY : ∀ n, aRn n
 | 0 => fun e hw => by cases hw
 | n + 1 => fun e hw s k p p0 r hk hp hT hb => by
  have ih := aVY n
  obtain ⟨k, rfl⟩ : ∃ j, k = j + 1 := ⟨k - 1, by omega⟩
  have hl := hT.len
  cases hw with
  | num _ t ht =>
   obtain ⟨h60, ⟨c, u, rfl, hc⟩, hlong⟩ := ht
   have htx : tx (n + 1) (Ex.mk 1 (c :: u) []) = c :: u := rfl
   refine Rd.ofF hT rfl rfl (fun h => absurd h.1 (by show ¬ (6 : Int) ≤ 1; decide)) ?_
   rw [htx] at hT ⊢
   have a1 := hT.head
   have hlo := hlong s p0 r hT hb
   have hd : p0 + (c :: u).length ≤ s.length := by rw [htx] at hl; omega
   have hne : aEH c = false := by
    simp only [rH, decide_eq_true_eq] at hc
    simp only [aEH, decide_eq_false_iff_not]; omega
   have hc' : 48 ≤ c ∧ c ≤ 57 := by simpa [rH] using hc
   rw [qJ, hp, if_neg (fun h => by have := h.2; rw [a1.2] at this; have := List.mem_singleton.1 this; omega), aPc, if_neg (by omega), if_neg (by rw [a1.2]; omega), if_neg (by rw [a1.2, hne]; decide), aW5, hlo, if_neg (by simp only [List.length_cons] at h60 ⊢; omega)]
   have : (s.drop p0).take (c :: u).length = c :: u := by rw [hT.2, List.take_left]
   rw [this]
  | name _ t ht =>
   obtain ⟨⟨c, u, rfl, hc⟩, hall, hfn⟩ := ht
   have htx : tx (n + 1) (Ex.mk 2 (c :: u) []) = c :: u := rfl
   refine Rd.ofF hT rfl rfl (fun h => absurd h.1 (by show ¬ (6 : Int) ≤ 2; decide)) ?_
   rw [htx] at hT ⊢
   have a1 := hT.head
   have hrun : Nu.run eV s p0 = (c :: u).length := by
    rw [hT.run]
    have : ((c :: u) ++ r).takeWhile eV = c :: u := by
     rw [List.takeWhile_append_of_pos hall]
     cases r with
     | nil => simp
     | cons d v =>
      have hd : eV d = false := by
       rcases hb with rfl | rfl <;> decide
      rw [List.takeWhile_cons_of_neg (by rw [hd]; decide)]
      simp
    rw [this]
   have hw : aC4 s p0 = c :: u := by unfold aC4; rw [hrun, hT.2, List.take_left]
   have hc' : 97 ≤ c ∧ c ≤ 122 := by simpa [aEH] using hc
   rw [qJ, hp, if_neg (fun h => by have := h.2; rw [a1.2] at this; have := List.mem_singleton.1 this; omega), aPc, if_neg (by omega), if_neg (by rw [a1.2]; omega), if_pos (by rw [a1.2, hc]), aTa, hw, hfn, hrun]
  | two _ kd a b h1 h2 ha hb' =>
   have hn1 := ha.pos
   by_cases hs : kd = 6 ∨ kd = 7
   ·rw [aNZ hs] at hT
    have hlt : tx (n + 1) (Ex.mk kd [] [a, b]) = tx n a ++ ([32, sgT kd, 32] ++ par (iH b) (tx n b)) := aNZ hs
    obtain ⟨t1, t2⟩ := hT.app
    obtain ⟨t3, t4⟩ := t2.app
    have g0 := t3.head
    have g1 := t3.get 1
    have g2 := t3.get 2
    have hl3 := t3.len
    have hsg : sgT kd = 43 ∨ sgT kd = 45 := by rcases hs with rfl | rfl <;> decide
    have hsk : skp s (p0 + (tx n a).length) = p0 + (tx n a).length + 1 := by
     rw [aLV g0.1 g0.2]
     exact yT fun _ => by
      have : s.getD (p0 + (tx n a).length + 1) 0 = sgT kd := by simpa using g1
      rw [this]; rcases hsg with h | h <;> rw [h] <;> decide
    have hc : s.getD (p0 + (tx n a).length + 1) 0 = sgT kd := by simpa using g1
    have hc2 : s.getD (p0 + (tx n a).length + 2) 0 = 32 := by simpa using g2
    have hlt1 : p0 + (tx n a).length + 3 ≤ s.length := by
     simp only [List.length_cons, List.length_nil] at hl3; omega
    have rda := ih a ha s (k + 1) p p0 ([32, sgT kd, 32] ++ par (iH b) (tx n b) ++ r) (by omega) hp t1 (.inl rfl)
    have hma : aRm s (p0 + (tx n a).length) := by
     unfold aRm
     rw [hsk]
     rintro ⟨_, h⟩
     rw [hc] at h
     rcases hsg with h' | h' <;> rw [h'] at h <;> (revert h; decide)
    have t4' : Tx s (p0 + (tx n a).length + 3) (par (iH b) (tx n b)) r := t4
    obtain ⟨cb, ub, hcb, hcb2⟩ := aI8 (b := iH b) (aI9 hb') []
    rw [List.append_nil] at hcb
    have hskb : skp s (p0 + (tx n a).length + 1 + 1) = p0 + (tx n a).length + 3 := by
     rw [aLV (by omega) hc2]
     exact yT fun _ => by
      have := t4'
      rw [hcb] at this
      rw [this.head.2]; exact hcb2
    have hlen : (tx (n + 1) (Ex.mk kd [] [a, b])).length = (tx n a).length + 3 + (par (iH b) (tx n b)).length := by
     rw [hlt]; simp only [List.length_append, List.length_cons, List.length_nil]; omega
    refine ⟨fun hm f => ?_, fun h => absurd hs h, fun h => absurd ⟨h1, h2⟩ h⟩
    rw [hlen] at hm ⊢
    have hm' : aRm s (p0 + (tx n a).length + 3 + (par (iH b) (tx n b)).length) := by
     rw [show p0 + (tx n a).length + 3 + (par (iH b) (tx n b)).length = p0 + ((tx n a).length + 3 + (par (iH b) (tx n b)).length) from by omega]; exact hm
    have hso : so (n + 1) (Ex.mk kd [] [a, b]) = so n a + 1 := if_pos hs
    have step := rda.S hma (f + 1)
    rw [hso, show f + (so n a + 1) = f + 1 + so n a from by omega, step]
    rw [row_one (k := kd) (c := sgT kd) f a b (by rw [hsk]; omega) (by rw [hsk]; exact hc) hsg (by rcases hs with rfl | rfl <;> rfl) (by rw [hsk]; exact aVX ih hb' (by omega) (by omega) hskb t4' hb hm')]
    exact aTe _ _ (by rw [aTd]; congr 1; omega)
   ·have hs2 : kd = 8 ∨ kd = 9 := by omega
    rw [aI7 hs2] at hT
    have hlt : tx (n + 1) (Ex.mk kd [] [a, b]) = par (iH a) (tx n a) ++ ([32, sgT kd, 32] ++ par (jK b) (tx n b)) := aI7 hs2
    obtain ⟨t1, t2⟩ := hT.app
    obtain ⟨t3, t4⟩ := t2.app
    generalize hA : (par (iH a) (tx n a)).length = la at *
    have g0 := t3.head
    have g1 := t3.get 1
    have g2 := t3.get 2
    have hl3 := t3.len
    have hsg : sgT kd = 42 ∨ sgT kd = 47 := by rcases hs2 with rfl | rfl <;> decide
    have hc : s.getD (p0 + la + 1) 0 = sgT kd := by simpa using g1
    have hc2 : s.getD (p0 + la + 2) 0 = 32 := by simpa using g2
    have hsk : skp s (p0 + la) = p0 + la + 1 := by
     rw [aLV g0.1 g0.2]
     exact yT fun _ => by rw [hc]; rcases hsg with h | h <;> rw [h] <;> decide
    have hlt1 : p0 + la + 3 ≤ s.length := by
     simp only [List.length_cons, List.length_nil] at hl3; omega
    have t4' : Tx s (p0 + la + 3) (par (jK b) (tx n b)) r := t4
    obtain ⟨cb, ub, hcb, hcb2⟩ := aI8 (b := jK b) (aI9 hb') []
    rw [List.append_nil] at hcb
    have hskb : skp s (p0 + la + 1 + 1) = p0 + la + 3 := by
     rw [aLV (by omega) hc2]
     exact yT fun _ => by
      have := t4'
      rw [hcb] at this
      rw [this.head.2]; exact hcb2
    have hlen : (tx (n + 1) (Ex.mk kd [] [a, b])).length = la + 3 + (par (jK b) (tx n b)).length := by
     rw [hlt]; simp only [List.length_append, List.length_cons, List.length_nil]; omega
    have hT' : Tx s p0 (tx (n + 1) (Ex.mk kd [] [a, b])) r := by rw [hlt]; exact hT
    have hns : ¬ iH (Ex.mk kd [] [a, b]) := hs
    refine Rd.ofP hT' (if_neg hs) (fun _ f => ?_) hns (fun h => absurd ⟨h1, h2⟩ h)
    rw [hlen]
    have hb2 : qJ s (k + 1) (p0 + la + 1 + 1) = some (.inl (b, p0 + la + 3 + (par (jK b) (tx n b)).length)) := aVW ih hb' (by omega) (by omega) hskb (fun h => h) t4' hb
    have hpo : po (n + 1) (Ex.mk kd [] [a, b]) = (if iH a then 0 else po n a) + 1 := if_pos hs2
    have hfirst : ∀ f, aAi (qJ s (k + 1) p) (aAj (qJ s (k + 1)) s 42 47 8 9 (f + (if iH a then 0 else po n a))) = aAj (qJ s (k + 1)) s 42 47 8 9 f a (p0 + la) := fun f => by
     by_cases ha2 : iH a
     ·have e1 : par (iH a) (tx n a) = par True (tx n a) := by rw [par, if_pos ha2, aKX]
      rw [e1] at t1 hA
      rw [aVV ih ha (by omega) (by omega) hp t1, if_pos ha2, hA]
      rfl
     ·have e1 : par (iH a) (tx n a) = tx n a := if_neg ha2
      rw [e1] at t1 hA
      have := (ih a ha s (k + 1) p p0 ([32, sgT kd, 32] ++ par (jK b) (tx n b) ++ r) (by omega) hp t1 (.inl rfl)).P ha2 f
      rw [if_neg ha2, this, hA]
    rw [hpo, show f + ((if iH a then 0 else po n a) + 1) = f + 1 + (if iH a then 0 else po n a) from by omega, hfirst (f + 1)]
    rw [row_one (k := kd) (c := sgT kd) f a b (by rw [hsk]; omega) (by rw [hsk]; exact hc) hsg (by rcases hs2 with rfl | rfl <;> rfl) (by rw [hsk]; exact hb2)]
    rw [show p0 + la + 3 + (par (jK b) (tx n b)).length = p0 + (la + 3 + (par (jK b) (tx n b)).length) from by omega]
  | neg _ a ha =>
   have hn1 := ha.pos
   refine Rd.ofF hT rfl rfl (fun h => absurd h.2 (by show ¬ (10 : Int) ≤ 9; decide)) ?_
   rw [aVS] at hT ⊢
   have a1 := hT.head
   obtain ⟨t1, t2⟩ := hT.app
   have t2' : Tx s (p0 + 1) (par (jK a) (tx n a)) r := t2
   obtain ⟨cb, ub, hcb, hcb2⟩ := aI8 (b := jK a) (aI9 ha) []
   rw [List.append_nil] at hcb
   have hsk : skp s (p0 + 1) = p0 + 1 := yT fun _ => by
    have := t2'
    rw [hcb] at this
    rw [this.head.2]; exact hcb2
   rw [qJ, hp, if_pos ⟨a1.1, by rw [a1.2]; decide⟩, aVW ih ha (by omega) (by omega) hsk (fun h => h) t2' hb]
   show some (Sum.inl (Ex.mk 10 [] [a], p0 + 1 + (par (jK a) (tx n a)).length)) = _
   rw [List.length_append, List.length_singleton, Nat.add_assoc]
  | fn _ kd a h1 h2 ha =>
   have hn1 := ha.pos
   have hnf : ¬ jK (Ex.mk kd [] [a]) := fun h => by have h : 6 ≤ kd ∧ kd ≤ 9 := h; omega
   obtain ⟨q1, q2⟩ := aX4 (n := n + 1) hnf
   refine Rd.ofF hT q1 q2 hnf ?_
   rw [aVT h1 h2] at hT ⊢
   obtain ⟨t1, t2⟩ := hT.app
   have t2' := t2
   rw [aKX] at t2'
   have b1 := t2'.head
   have hfn : aSg (fnT kd) = some kd ∧ (∀ c ∈ fnT kd, eV c = true) ∧ ∃ c u, fnT kd = c :: u ∧ aEH c = true := by
    obtain rfl | rfl | rfl : kd = 11 ∨ kd = 12 ∨ kd = 13 := by omega
    ·exact ⟨rfl, by decide, 115, [113, 114], rfl, rfl⟩
    ·exact ⟨rfl, by decide, 115, [113, 114, 116], rfl, rfl⟩
    ·exact ⟨rfl, by decide, 101, [120, 112], rfl, rfl⟩
   obtain ⟨f1, f2, c, u, f3, f4⟩ := hfn
   have a1 : p0 < s.length ∧ s.getD p0 0 = c := by rw [f3] at t1; exact t1.head
   have hrun : Nu.run eV s p0 = (fnT kd).length := by
    rw [t1.run, List.takeWhile_append_of_pos f2, aKX]
    have : (([40] ++ (tx n a ++ [41])) ++ r).takeWhile eV = [] := by
     rw [List.append_assoc]
     exact List.takeWhile_cons_of_neg xAb
    rw [this, List.append_nil]
   have hw : aC4 s p0 = fnT kd := by unfold aC4; rw [hrun, t1.2, List.take_left]
   have hc' : 97 ≤ c ∧ c ≤ 122 := by simpa [aEH] using f4
   have hsk : skp s (p0 + (fnT kd).length) = p0 + (fnT kd).length := yT fun _ => by rw [b1.2]; decide
   rw [qJ, hp, if_neg (fun h => by have := h.2; rw [a1.2] at this; have := List.mem_singleton.1 this; omega), aPc, if_neg (by omega), if_neg (by rw [a1.2]; omega), if_pos (by rw [a1.2, f4]), aTa, hw, f1, hrun]
   show aAi (pIn (qJ s k) s (p0 + (fnT kd).length)) _ = _
   rw [aXs ih ha (by omega) hsk t2]
   show some (Sum.inl (Ex.mk kd [] [a], p0 + (fnT kd).length + (par True (tx n a)).length)) = _
   rw [List.length_append, Nat.add_assoc]
theorem back_eq {n : Nat} {e : Ex} (hw : W n e) (hn : 2 * n ≤ 65) : aSf (qJ (tx n e) 64) (tx n e) 0 = some (.inl (e, (tx n e).length)) := by
 obtain ⟨c, u, hc, hc2⟩ := aI9 hw
 have hT : Tx (tx n e) 0 (tx n e) [] := ⟨Nat.zero_le _, by simp⟩
 have hk : skp (tx n e) 0 = 0 := yT fun _ => by rw [hc]; exact hc2
 have rd := aVY n e hw (tx n e) 64 0 0 [] (by omega) hk hT trivial
 have hend : skp (tx n e) (0 + (tx n e).length) = (tx n e).length := by
  rw [Nat.zero_add]; exact yT fun h => absurd h (Nat.lt_irrefl _)
 have hno : ∀ l, ¬ aFS (tx n e) l (skp (tx n e) (0 + (tx n e).length)) := fun l h => by
  have := h.1; rw [hend] at this; exact Nat.lt_irrefl _ this
 have := rd.S (hno _) ((tx n e).length - so n e + 1)
 have hso := aVU n e
 rw [show (tx n e).length - so n e + 1 + so n e = (tx n e).length + 1 from by omega] at this
 unfold aSf
 rw [this, aLW _ _ (hno _), hend]
end Nu
end Go.Proofs
namespace Go.Proofs
open Go.Vc
set_option maxRecDepth 20000
namespace Nu
def gk : Nat → Ex → Bool
 | 0, _ => true
 | n + 1, e => decide (prt e.kind = (e.l.length : Int)) && e.l.all (gk n)
theorem aVZ {f : Ex → Bool} {l : List Ex} {k : Nat} (h : k < l.length) : (l.take (k + 1)).all f = ((l.take k).all f && f (l.getD k (Ex.mk 0 [] []))) := by
 rw [aLR h, List.all_append]; simp
theorem aTg {α : Type} (z : α) {l : List α} {k : Nat} (h : k < l.length) : l.take (k + 1) = l.take k ++ [l.getD k z] := by
 rw [List.take_succ_eq_append_getElem h, List.getD_eq_getElem?_getD, List.getElem?_eq_getElem h]; rfl
theorem aLX {α : Type} (z : α) {l : List α} {k : Nat} (h : k < l.length) : l.getD k z ∈ l := by
 rw [List.getD_eq_getElem?_getD, List.getElem?_eq_getElem h]; exact List.getElem_mem h
theorem aV0 (l : List qI) (v : List Nat) (hl : l.length ≤ 1000) : ∃ r : Int, iA none l v = some r ∧ ((0 : Int) ≤ r ↔ v ∈ l) := by
 obtain ⟨e, he, hQ⟩ := uX (step := fun d : Int => eD none l v d) (I := fun d => ∃ j : Nat, d = (j : Int) ∧ j ≤ l.length ∧ v ∉ l.take j) (fun d => ((l.length : Int) - d).toNat)
  (fun e => (e = .inl () ∧ v ∉ l) ∨ ∃ j : Nat, e = .inr (j : Int) ∧ v ∈ l)
  (by
   rintro d ⟨j, rfl, h1, h2⟩
   show (∃ d', eD none l v (j : Int) = _ ∧ _) ∨ ∃ e, eD none l v (j : Int) = _ ∧ _
   unfold eD
   by_cases hj : j < l.length
   ·rw [if_pos (by omega), Int.toNat_natCast]
    by_cases hv : v = l.getD j []
    ·right
     exact ⟨_, aZ (by constructor <;> omega) (if_pos hv), .inr ⟨j, rfl, by rw [hv]; exact aLX [] hj⟩⟩
    ·left
     refine ⟨((j + 1 : Nat) : Int), aZ (by constructor <;> omega) ((if_neg hv).trans (aZ (by constructor <;> omega) rfl)), ⟨j + 1, rfl, by omega, ?_⟩, by omega⟩
     rw [aTg [] hj, List.mem_append]
     rintro (h | h)
     ·exact h2 h
     ·exact hv (List.mem_singleton.1 h)
   ·right
    rw [if_neg (by omega)]
    exact ⟨_, rfl, .inl ⟨rfl, by rwa [List.take_of_length_le (by omega)] at h2⟩⟩) (0 : Int) ⟨0, rfl, by omega, by simp⟩
 unfold iA
 rcases hQ with ⟨rfl, h⟩ | ⟨j, rfl, h⟩
 ·exact ⟨-1, bA he rfl, fun h0 => absurd h0 xAb, fun h0 => absurd h0 h⟩
 ·exact ⟨j, bA he rfl, fun _ => h, fun _ => by omega⟩
theorem contains_eq (l : List qI) (v : List Nat) (hl : l.length ≤ 1000) : dD none l v = some (decide (v ∈ l)) := by
 obtain ⟨r, h1, h2⟩ := aV0 l v hl
 unfold dD
 exact bA h1 (congrArg some (decide_eq_decide.2 h2))
def fm (s : List Nat) : Bool := (aWZ s).2.2.1
theorem aW9 (s : List Nat) (hs : s.length ≤ 1000) : uY none s = some (fm s) := by
 unfold uY
 exact bA (aX0 s (by omega)) rfl
def lvs (names : List qI) : Nat → Ex → Bool
 | 0, _ => true
 | n + 1, e => if e.kind = 1 then fm e.text else if e.kind = 2 then (decide (e.text = aP ⟨#[116]⟩) || decide (e.text ∈ names)) else (decide (e.text = aP ⟨#[]⟩) && e.l.all (lvs names n))
theorem aTh (p q : Ex → Bool) : ∀ l : List Ex, l.all (fun x => p x && q x) = (l.all p && l.all q)
 | [] => rfl
 | x :: r => by
  rw [List.all_cons, List.all_cons, List.all_cons, aTh p q r]
  cases p x <;> cases q x <;> simp
theorem aQe {b : Ex → Bool} {l : List Ex} {j : Nat} (hj : j < l.length) (h : b (l.getD j (Ex.mk 0 [] [])) = false) : l.all b = false := by
 rw [Bool.eq_false_iff]
 intro hx
 rw [List.all_eq_true.1 hx _ (aI5 hj)] at h
 cases h
theorem aV1 (g : Ex → List qI → Option Bool) (names : List qI) (b : Ex → Bool) (l : List Ex) (hl : l.length ≤ 1000) (hg : ∀ x ∈ l, g x names = some (b x)) :
  bE none g l (names, ()) = some (!(l.all b)) := by
 obtain ⟨e, he, hQ⟩ := uX (step := fun d : Int => bD none g l (names, ()) d) (I := fun d => ∃ j : Nat, d = (j : Int) ∧ j ≤ l.length ∧ (l.take j).all b = true) (fun d => ((l.length : Int) - d).toNat)
  (fun e => (e = .inl () ∧ l.all b = true) ∨ ∃ j : Nat, e = .inr (j : Int) ∧ l.all b = false)
  (by
   rintro d ⟨j, rfl, h1, h2⟩
   show (∃ d', bD none g l (names, ()) (j : Int) = _ ∧ _) ∨ ∃ e, bD none g l (names, ()) (j : Int) = _ ∧ _
   unfold bD rV
   by_cases hj : j < l.length
   ·rw [if_pos (by omega), Int.toNat_natCast]
    have hx := hg _ (aI5 hj)
    cases hb : b (l.getD j (Ex.mk 0 [] [])) with
    | false =>
     right
     rw [hb] at hx
     exact ⟨_, aZ (by constructor <;> omega) (bA (bA hx rfl) (if_pos rfl)), .inr ⟨j, rfl, aQe hj hb⟩⟩
    | true =>
     left
     rw [hb] at hx
     refine ⟨((j + 1 : Nat) : Int), aZ (by constructor <;> omega) (bA (bA hx rfl) ((if_neg xAb).trans (aZ (by constructor <;> omega) rfl))), ⟨j + 1, rfl, by omega, ?_⟩, by omega⟩
     rw [aVZ hj, h2, hb]; rfl
   ·right
    rw [if_neg (by omega)]
    exact ⟨_, rfl, .inl ⟨rfl, by rwa [aJ7 (by omega)] at h2⟩⟩) (0 : Int) ⟨0, rfl, by omega, by simp⟩
 unfold bE cA
 rcases hQ with ⟨rfl, h⟩ | ⟨j, rfl, h⟩
 ·exact bA (bA he rfl) (by rw [h]; rfl)
 ·refine bA (bA he rfl) ?_
  rw [h, decide_eq_true (show (0 : Int) ≤ (j : Int) by omega)]; rfl
theorem aTi (names : List qI) (hns : names.length ≤ 1000) : ∀ (n k : Nat) (e : Ex), n ≤ k → fits n e → pU none k e names = some (gk n e && lvs names n e)
 | 0, k, e, hk, hf => hf.elim
 | n + 1, 0, e, hk, hf => absurd hk (by omega)
 | n + 1, k + 1, e, hk, hf => by
  obtain ⟨hf1, hf2, hf3⟩ := hf
  have hgk : gk (n + 1) e = (decide (prt e.kind = (e.l.length : Int)) && e.l.all (gk n)) := rfl
  have hlv : lvs names (n + 1) e = if e.kind = 1 then fm e.text else if e.kind = 2 then (decide (e.text = aP ⟨#[116]⟩) || decide (e.text ∈ names)) else (decide (e.text = aP ⟨#[]⟩) && e.l.all (lvs names n)) := rfl
  have hany := aV1 (pU none k) names (fun x => gk n x && lvs names n x) e.l hf2 fun x hx => aTi names hns n k x (by omega) (hf3 x hx)
  show pH none (pU none k) e names = _
  unfold pH
  rw [aW2, hany, aW9 _ (by omega), contains_eq _ _ hns, aTh]
  simp only [Option.isSome_some, Option.getD_some]
  refine aZ trivial ?_
  by_cases hp : prt e.kind = (e.l.length : Int)
  ·rw [if_neg (fun h => h hp)]
   by_cases h1 : e.kind = 1
   ·have h0 : e.l = [] := List.eq_nil_of_length_eq_zero (by rw [h1] at hp; have : prt 1 = 0 := rfl; omega)
    rw [if_pos h1, hgk, hlv, if_pos h1, decide_eq_true hp, h0]
    exact aZ trivial rfl
   ·rw [if_neg h1]
    by_cases h2 : e.kind = 2
    ·have h0 : e.l = [] := List.eq_nil_of_length_eq_zero (by rw [h2] at hp; have : prt 2 = 0 := rfl; omega)
     rw [if_pos h2, hgk, hlv, if_neg h1, if_pos h2, decide_eq_true hp, h0]
     exact aZ (by simp) rfl
    ·rw [if_neg h2, hgk, hlv, if_neg h1, if_neg h2, decide_eq_true hp]
     refine aZ (by simp) ?_
     congr 1
     cases decide (e.text = aP ⟨#[]⟩) <;> cases e.l.all (gk n) <;> cases e.l.all (lvs names n) <;> rfl
  ·rw [if_pos hp, hgk, decide_eq_false hp]; rfl
end Nu
end Go.Proofs
namespace Go.Proofs
open Go.Vc
set_option maxRecDepth 20000
namespace Nu
theorem aRo {D E : Type} {step : D → Option (D ⊕ E)} {I : D → Prop} {Q : E → Prop} (h1 : ∀ d d', I d → step d = some (.inl d') → I d') (h2 : ∀ d e, I d → step d = some (.inr e) → Q e) {d : D} {e : E} (hi : I d) (h : aFh step d = some e) : Q e := by
 obtain ⟨n, hn⟩ := aO2.1 h
 clear h
 induction n generalizing d with
 | zero => cases hn
 | succ n ih =>
  rw [iter] at hn
  cases hs : step d with
  | none => rw [hs] at hn; cases hn
  | some x =>
   rw [hs] at hn
   cases x with
   | inl d' => exact ih (h1 d d' hi hs) hn
   | inr e' =>
    obtain rfl : e' = e := Option.some.inj hn
    exact h2 d e' hi hs
theorem aV2 : ∃ A : List Bool, gU none (aP kB) = some (A, true, ()) ∧ ∀ c, A.getD c false = true → eV c = true := by
 refine ⟨(List.range 256).map eV, ?_, fun c hc => ?_⟩
 ·unfold gU
  refine bA (a := .inl ((List.range 256).map eV)) (aBw (n := 100) xAa) rfl
 ·rcases Nat.lt_or_ge c 256 with h | h
  ·rw [List.getD_eq_getElem?_getD, List.getElem?_map, List.getElem?_range h] at hc
   exact hc
  ·rw [List.getD_eq_getElem?_getD, List.getElem?_eq_none (by simpa using h)] at hc
   cases hc
theorem aKY {A : List Bool} {c : Nat} {v : Bool} (h : cW none A c = some v) : v = A.getD c false := by
 unfold cW at h
 exact (Option.some.inj (aI h).2).symm
theorem aV3 {s : List Nat} (hs : s ≠ []) (h : kV none s (aP kB) = some []) : ∀ c ∈ s, eV c = true := by
 obtain ⟨A, hA, hm⟩ := aV2
 unfold kV at h
 have h := dP (by
  rintro (e | e)
  ·exact hs e
  ·revert e; decide) h
 obtain ⟨_, h⟩ := aI h
 have h := dP xAb h
 rw [hA] at h
 have h : (eC none s A).bind (fun v_34 => (eJ none v_34 A).bind (fun v_35 => some v_35)) = some [] := h
 obtain ⟨v1, e1, h⟩ := bind_some h
 obtain ⟨v2, e2, h⟩ := bind_some h
 obtain rfl := Option.some.inj h
 unfold eC at e1
 obtain ⟨w1, f1, h1⟩ := bind_some e1
 obtain rfl := Option.some.inj h1
 unfold eJ at e2
 obtain ⟨w2, f2, h2⟩ := bind_some e2
 obtain rfl := Option.some.inj h2
 have a1 : ∃ t, s = w1 ++ t ∧ ∀ c ∈ t, eV c = true := by
  refine aRo (I := fun d => ∃ t, s = d ++ t ∧ ∀ c ∈ t, eV c = true) (Q := fun d => ∃ t, s = d ++ t ∧ ∀ c ∈ t, eV c = true) ?_ ?_ ⟨[], by simp, fun c hc => by cases hc⟩ f1
  ·rintro d d' ⟨t, rfl, ht⟩ hd
   have hd : bU none A d = some (.inl d') := hd
   unfold bU at hd
   split at hd
   ·rename_i h0
    obtain ⟨_, hd⟩ := aI hd
    obtain ⟨_, hd⟩ := aI hd
    obtain ⟨v, hv, hd⟩ := bind_some hd
    split at hd
    ·cases Option.some.inj hd
    ·rename_i hvt
     obtain ⟨_, hd⟩ := aI hd
     obtain ⟨_, hd⟩ := aI hd
     have hd := Option.some.inj hd
     injection hd with hd
     subst hd
     have e : (d.length : Int) - (1 : Int) = ((d.length - 1 : Nat) : Int) := by omega
     rw [e, Int.toNat_natCast] at hv ⊢
     have hv := aKY hv
     have hvt : v = true := Classical.not_not.1 hvt
     rw [hvt] at hv
     have hx := hm _ hv.symm
     have hl : d = d.take (d.length - 1) ++ [d.getD (d.length - 1) 0] := by
      have := take_succ (s := d) (k := d.length - 1) (by omega)
      rw [show d.length - 1 + 1 = d.length from by omega, List.take_length] at this
      exact this
     refine ⟨d.getD (d.length - 1) 0 :: t, ?_, fun c hc => ?_⟩
     ·conv => lhs; rw [hl]
      simp
     ·rcases List.mem_cons.1 hc with rfl | hc
      ·exact hx
      ·exact ht c hc
   ·cases Option.some.inj hd
  ·rintro d e ⟨t, rfl, ht⟩ hd
   have hd : bU none A d = some (.inr e) := hd
   have : e = d := by
    unfold bU at hd
    split at hd
    ·obtain ⟨_, hd⟩ := aI hd
     obtain ⟨_, hd⟩ := aI hd
     obtain ⟨v, hv, hd⟩ := bind_some hd
     split at hd
     ·have hd := Option.some.inj hd
      injection hd with hd
      exact hd.symm
     ·obtain ⟨_, hd⟩ := aI hd
      obtain ⟨_, hd⟩ := aI hd
      cases Option.some.inj hd
    ·have hd := Option.some.inj hd
     injection hd with hd
     exact hd.symm
   subst this
   exact ⟨t, rfl, ht⟩
 have a2 : ∀ c ∈ w1, eV c = true := by
  have : ∃ t, w1 = t ++ [] ∧ ∀ c ∈ t, eV c = true := by
   refine aRo (I := fun d => ∃ t, w1 = t ++ d ∧ ∀ c ∈ t, eV c = true) (Q := fun d => ∃ t, w1 = t ++ d ∧ ∀ c ∈ t, eV c = true) ?_ ?_ ⟨[], rfl, fun c hc => by cases hc⟩ f2
   ·rintro d d' ⟨t, ht1, ht⟩ hd
    have hd : bY none A d = some (.inl d') := hd
    unfold bY at hd
    split at hd
    ·rename_i h0
     obtain ⟨_, hd⟩ := aI hd
     obtain ⟨v, hv, hd⟩ := bind_some hd
     split at hd
     ·cases Option.some.inj hd
     ·rename_i hvt
      obtain ⟨_, hd⟩ := aI hd
      have hd := Option.some.inj hd
      injection hd with hd
      subst hd
      have hv := aKY hv
      have hvt : v = true := Classical.not_not.1 hvt
      rw [hvt] at hv
      have hx := hm _ hv.symm
      cases d with
      | nil => simp at h0
      | cons x u =>
       refine ⟨t ++ [x], by rw [ht1]; simp, fun c hc => ?_⟩
       rcases List.mem_append.1 hc with hc | hc
       ·exact ht c hc
       ·rw [List.mem_singleton.1 hc]; exact hx
    ·cases Option.some.inj hd
   ·rintro d e ⟨t, ht1, ht⟩ hd
    have hd : bY none A d = some (.inr e) := hd
    have : e = d := by
     unfold bY at hd
     split at hd
     ·obtain ⟨_, hd⟩ := aI hd
      obtain ⟨v, hv, hd⟩ := bind_some hd
      split at hd
      ·have hd := Option.some.inj hd
       injection hd with hd
       exact hd.symm
      ·obtain ⟨_, hd⟩ := aI hd
       cases Option.some.inj hd
     ·have hd := Option.some.inj hd
      injection hd with hd
      exact hd.symm
    subst this
    exact ⟨t, ht1, ht⟩
  obtain ⟨t, ht1, ht⟩ := this
  rw [ht1, List.append_nil]
  exact ht
 obtain ⟨t, rfl, ht⟩ := a1
 intro c hc
 rcases List.mem_append.1 hc with hc | hc
 ·exact a2 c hc
 ·exact ht c hc
theorem aXa {w : List Nat} (h : mK none w = some true) : aNY w := by
 unfold mK at h
 obtain ⟨_, h⟩ := aI h
 obtain ⟨_, h⟩ := aI h
 split at h
 ·cases Option.some.inj h
 ·rename_i hn
  obtain ⟨v, hv, h⟩ := bind_some h
  obtain ⟨_, h⟩ := aI h
  obtain ⟨_, h⟩ := aI h
  have h := Option.some.inj h
  rw [Bool.and_eq_true] at h
  obtain ⟨h1, h2⟩ := h
  obtain rfl : v = [] := of_decide_eq_true h1
  cases w with
  | nil => exact absurd (.inl (.inl (.inl xAb))) hn
  | cons c u =>
   have hc : 97 ≤ c ∧ c ≤ 122 := by
    constructor
    ·rcases Nat.lt_or_ge c 97 with h | h
     ·exact absurd (.inl (.inr h)) hn
     ·exact h
    ·rcases Nat.lt_or_ge 122 c with h | h
     ·exact absurd (.inr h) hn
     ·exact h
   refine ⟨⟨c, u, rfl, decide_eq_true hc⟩, aV3 (List.cons_ne_nil _ _) hv, ?_⟩
   have hr : fA none = some [[116], [115, 113, 114], [115, 113, 114, 116], [101, 120, 112], [112, 114, 101, 99], [101, 110, 100], [115, 116, 101, 112], [116, 111, 108], [116, 114, 105, 101, 115], [111, 114, 100, 101, 114], [106, 97, 99, 111, 98, 105], [115, 101, 105, 100, 101, 108], [115, 117, 98], [115, 116, 97, 116, 101], [112, 97, 114], [105, 110], [111, 117, 116], [100, 101, 114], [108, 105, 110, 107]] := by unfold fA; decide
   rw [hr, Option.getD_some, contains_eq _ _ xAb, Option.getD_some, Bool.not_eq_true', decide_eq_false_iff_not] at h2
   unfold aSg
   rw [if_neg (fun e => h2 (by rw [e]; decide)), if_neg (fun e => h2 (by rw [e]; decide)), if_neg (fun e => h2 (by rw [e]; decide))]
theorem aQf {s t r : List Nat} {p i : Nat} (h : Tx s p t r) (hb : Bd r) (hi : i ≤ t.length) : bK s (p + i) = bK t i := by
 unfold bK
 rw [← List.drop_drop, h.2, List.drop_append_of_le_length hi]
 rcases Nat.lt_or_ge ((t.drop i).takeWhile rH).length (t.drop i).length with h1 | h1
 ·rw [List.takeWhile_append, if_neg (by omega)]
 ·rw [List.takeWhile_append, if_pos (by have := (List.takeWhile_prefix (p := rH) (l := t.drop i)).length_le; omega)]
  have : r.takeWhile rH = [] := by
   cases r with
   | nil => rfl
   | cons d v => exact List.takeWhile_cons_of_neg (by rcases hb with rfl | rfl <;> decide)
  rw [this, List.append_nil]
  congr 1
  exact ((List.takeWhile_prefix (p := rH) (l := t.drop i)).eq_of_length (by have := (List.takeWhile_prefix (p := rH) (l := t.drop i)).length_le; omega)).symm
theorem aJa {s t r : List Nat} {p i c : Nat} (h : Tx s p t r) (hb : Bd r) (hi : i ≤ t.length) (hc : c ≠ 32 ∧ c ≠ 41) : eO s (p + i) c ↔ eO t i c := by
 have hl := h.len
 have hg := h.get i
 show (p + i < s.length ∧ s.getD (p + i) 0 = c) ↔ (i < t.length ∧ t.getD i 0 = c)
 rw [hg]
 rcases Nat.lt_or_ge i t.length with h1 | h1
 ·have : (t ++ r).getD i 0 = t.getD i 0 := by simp [List.getD_eq_getElem?_getD, List.getElem?_append_left h1]
  rw [this]
  exact ⟨fun q => ⟨h1, q.2⟩, fun q => ⟨by omega, q.2⟩⟩
 ·obtain rfl : i = t.length := by omega
  constructor
  ·rintro ⟨q1, q2⟩
   exfalso
   cases r with
   | nil => simp at hl; omega
   | cons d v =>
    have : (t ++ d :: v).getD t.length 0 = d := by simp [List.getD_eq_getElem?_getD]
    rw [this] at q2
    rcases hb with rfl | rfl
    ·exact hc.1 q2.symm
    ·exact hc.2 q2.symm
  ·rintro ⟨q1, _⟩; omega
theorem aXb {s t r : List Nat} {p i k : Nat} (h : Tx s p t r) (hi : i + k ≤ t.length) : (s.drop (p + i)).take k = (t.drop i).take k := by
 rw [← List.drop_drop, h.2, List.drop_append_of_le_length (by omega), List.take_append_of_le_length (by rw [List.length_drop]; omega)]
theorem aRp {s t r : List Nat} {p i : Nat} (h : Tx s p t r) (hb : Bd r) (hi : i ≤ t.length) : aDA s (p + i) = p + aDA t i := by
 unfold aDA
 by_cases h1 : eO t i 101
 ·have h1' : i < t.length := h1.1
  rw [if_pos ((aJa h hb hi xAb).2 h1), if_pos h1]
  have e1 := aJa (c := 43) h hb (i := i + 1) (by omega) xAb
  have e2 := aJa (c := 45) h hb (i := i + 1) (by omega) xAb
  have key : ∀ k, k ≤ t.length → (if 1 ≤ bK s (p + k) ∧ bK s (p + k) ≤ 3 ∧ vS ((s.drop (p + k)).take (bK s (p + k))) ≤ 100 then p + k + bK s (p + k) else p + i) = p + (if 1 ≤ bK t k ∧ bK t k ≤ 3 ∧ vS ((t.drop k).take (bK t k)) ≤ 100 then k + bK t k else i) := fun k hk => by
   have hd := sU t k
   rw [aQf h hb hk, aXb h (by omega)]
   split <;> omega
  by_cases h2 : eO t (i + 1) 43 ∨ eO t (i + 1) 45
  ·have h2' : i + 1 < t.length := by rcases h2 with q | q <;> exact q.1
   have h2s : eO s (p + i + 1) 43 ∨ eO s (p + i + 1) 45 := h2.imp e1.2 e2.2
   rw [if_pos h2s, if_pos h2]
   exact key (i + 2) (by omega)
  ·have h2s : ¬ (eO s (p + i + 1) 43 ∨ eO s (p + i + 1) 45) := fun q => h2 (q.imp e1.1 e2.1)
   rw [if_neg h2s, if_neg h2]
   exact key (i + 1) (by omega)
 ·rw [if_neg (fun q => h1 ((aJa h hb hi xAb).1 q)), if_neg h1]
theorem aN0 {t : List Nat} {i : Nat} {all : List Nat} {pow : Int} (h : (aT4 t i all pow).2.2.1 = true) : aDA t i = t.length := by
 unfold aT4 at h
 unfold aDA
 by_cases h1 : eO t i 101
 ·rw [if_pos h1] at h ⊢
  have key : ∀ k ng, (aNW t k all pow ng).2.2.1 = true → (if 1 ≤ bK t k ∧ bK t k ≤ 3 ∧ vS ((t.drop k).take (bK t k)) ≤ 100 then k + bK t k else i) = t.length := fun k ng hk => by
   unfold aNW at hk
   split at hk
   ·cases hk
   ·split at hk
    ·cases hk
    ·rw [if_pos ⟨by omega, by omega, by omega⟩]
     exact of_decide_eq_true hk
  by_cases h2 : eO t (i + 1) 43 ∨ eO t (i + 1) 45
  ·rw [if_pos h2]
   rw [if_pos (h2.symm)] at h
   exact key _ _ h
  ·rw [if_neg h2]
   rw [if_neg (fun q => h2 q.symm)] at h
   exact key _ _ h
 ·rw [if_neg h1] at h ⊢
  exact of_decide_eq_true h
theorem aX5 {t : List Nat} (h : fm t = true) : aXq t := by
 unfold fm aWZ at h
 split at h
 ·cases h
 ·rename_i h0
  have hne : bK t 0 ≠ 0 := fun q => h0 (.inr q)
  have h60 : t.length ≤ 60 := Nat.le_of_not_lt fun q => h0 (.inl q)
  have hd0 := sU t 0
  refine ⟨h60, ?_, fun s p r hT hb => ?_⟩
  ·cases t with
   | nil => exact absurd rfl hne
   | cons c u =>
    refine ⟨c, u, rfl, ?_⟩
    by_cases hc : rH c = true
    ·exact hc
    ·exfalso; apply hne
     unfold bK
     rw [List.drop_zero, List.takeWhile_cons_of_neg hc]; rfl
  ·have e0 := aQf hT hb (i := 0) (Nat.zero_le _)
   rw [Nat.add_zero] at e0
   have es := aJa (c := 46) hT hb (i := bK t 0) (by omega) xAb
   unfold xK
   rw [e0, if_neg hne]
   split at h
   ·rename_i h1
    have h1' : bK t 0 < t.length := h1.1
    split at h
    ·cases h
    ·rename_i h2
     have e1 := aQf hT hb (i := bK t 0 + 1) (by omega)
     rw [← Nat.add_assoc] at e1
     have hd1 := sU t (bK t 0 + 1)
     rw [e1, if_pos ⟨es.2 h1, by omega⟩]
     have := aRp hT hb (i := bK t 0 + 1 + bK t (bK t 0 + 1)) (by omega)
     rw [show p + bK t 0 + 1 + bK t (bK t 0 + 1) = p + (bK t 0 + 1 + bK t (bK t 0 + 1)) from by omega, this, aN0 h]
     omega
   ·rename_i h1
    rw [if_neg (fun q => h1 (es.1 q.1)), aRp hT hb (by omega), aN0 h]
    omega
theorem aYq {names : List qI} (hn : ∀ x ∈ names, aNY x) : ∀ {n : Nat} {e : Ex}, fits n e → gk n e = true → lvs names n e = true → W n e
 | 0, e, hf, _, _ => hf.elim
 | n + 1, .mk k t l, hf, hg, hl => by
  have hg : (decide (prt k = (l.length : Int)) && l.all (gk n)) = true := hg
  rw [Bool.and_eq_true] at hg
  obtain ⟨g1, g2⟩ := hg
  have g1 := of_decide_eq_true g1
  have hff : ∀ x ∈ l, fits n x := hf.2.2
  unfold lvs at hl
  have kids : ∀ x ∈ l, lvs names n x = true → W n x := fun x hx hv => aYq hn (hff x hx) (List.all_eq_true.1 g2 x hx) hv
  split at hl
  ·rename_i h1
   obtain rfl : k = 1 := h1
   have : l = [] := List.eq_nil_of_length_eq_zero (by have : prt 1 = 0 := rfl; omega)
   subst this
   exact .num n t (aX5 hl)
  ·rename_i h1
   split at hl
   ·rename_i h2
    obtain rfl : k = 2 := h2
    have : l = [] := List.eq_nil_of_length_eq_zero (by have : prt 2 = 0 := rfl; omega)
    subst this
    refine .name n t ?_
    rw [Bool.or_eq_true] at hl
    rcases hl with h | h
    ·obtain rfl : t = [116] := of_decide_eq_true h
     exact ⟨⟨116, [], rfl, rfl⟩, by decide, rfl⟩
    ·exact hn t (of_decide_eq_true h)
   ·rename_i h2
    rw [Bool.and_eq_true] at hl
    obtain ⟨h3, h4⟩ := hl
    obtain rfl : t = [] := of_decide_eq_true h3
    have kids := fun x hx => kids x hx (List.all_eq_true.1 h4 x hx)
    have h1 : ¬ k = 1 := h1
    have h2 : ¬ k = 2 := h2
    have hp : prt k = if 6 ≤ k ∧ k ≤ 9 then 2 else if 10 ≤ k ∧ k ≤ 13 then 1 else -1 := by
     unfold prt; rw [if_neg (by omega)]
    rw [hp] at g1
    split at g1
    ·rename_i h6
     match l, g1, kids with
     | [a, b], _, kids => exact .two n k a b h6.1 h6.2 (kids a (by simp)) (kids b (by simp))
     | [], g, _ => simp at g
     | [_], g, _ => simp at g
     | _ :: _ :: _ :: _, g, _ => simp at g; omega
    ·split at g1
     ·rename_i h10
      match l, g1, kids with
      | [a], _, kids =>
       rcases Int.lt_or_le 10 k with h | h
       ·exact .fn n k a (by omega) h10.2 (kids a (by simp))
       ·obtain rfl : k = 10 := by omega
        exact .neg n a (kids a (by simp))
      | [], g, _ => simp at g
      | _ :: _ :: _, g, _ => simp at g; omega
     ·omega
end Nu
end Go.Proofs
namespace Go.Proofs
open Go.Vc
set_option maxRecDepth 20000
namespace Nu
def Ty.bys : (t : Ty) → t.den → Prop
 | .str, s => ∀ c ∈ s, c < 256
 | .sl t, xs => ∀ x ∈ xs, Ty.bys t x
 | .pair a b, x => Ty.bys a x.1 ∧ Ty.bys b x.2
 | _, _ => True
theorem aT5 (s : ByteArray) : ∀ c ∈ aP s, c < 256 := by
 intro c hc
 unfold aP at hc
 obtain ⟨b, _, rfl⟩ := List.mem_map.1 hc
 exact b.toNat_lt
theorem aJb {w : World} {S : Nat → Prop} : ∀ (t : Ty) (x : t.den) (cs : List Value), aT w S t x cs → Ty.bys t x
 | .str, _, _, ⟨s, _, he, hs⟩ => by subst he; exact aT5 s
 | .sl t, xs, _, ⟨a, len, cap, _, h1, h2, h3, h4⟩ => by
  intro x hx
  rcases h4 with rfl | ⟨b, off, _, _, hel⟩
  ·cases hx
  ·obtain ⟨i, hi, rfl⟩ := List.mem_iff_getElem.1 hx
   obtain ⟨ds, hd, _⟩ := hel i hi
   exact aJb t _ _ hd
 | .pair a b, _, _, ⟨c1, c2, _, h1, h2⟩ => ⟨aJb a _ _ h1, aJb b _ _ h2⟩
 | .u k, _, _, _ => trivial
 | .i k, _, _, _ => trivial
 | .bool, _, _, _ => trivial
 | .unit, _, _, _ => trivial
 | .arr n t, _, _, _ => trivial
 | .expr, _, _, _ => trivial
 | .rp t, _, _, _ => trivial
 | .clo _ t, _, _, _ => trivial
 | .ifc _ t, _, _, _ => trivial
 | .nili, _, _, _ => trivial
 | .nilp, _, _, _ => trivial
 | .nilf, _, _, _ => trivial
theorem aRq {w : World} {S : Nat → Prop} : ∀ (t : Ty) (x : t.den) (vs : List Value), nT w S t x vs → Ty.bys t x
 | .pair a r, x, vs, ⟨v, vs', e, h1, h2⟩ => ⟨aJb a _ _ h1.cells, aRq r _ _ h2⟩
 | .unit, _, _, _ => trivial
 | .bool, _, _, h => h.elim
 | .str, _, _, h => h.elim
 | .sl _, _, _, h => h.elim
 | .u _, _, _, h => h.elim
 | .i _, _, _, h => h.elim
 | .arr _ _, _, _, h => h.elim
 | .expr, _, _, h => h.elim
 | .rp _, _, _, h => h.elim
 | .clo _ _, _, _, h => h.elim
 | .ifc _ _, _, _, h => h.elim
 | .nili, _, _, h => h.elim
 | .nilp, _, _, h => h.elim
 | .nilf, _, _, h => h.elim
theorem aXc {P : Program} {G : Nat → AV} {f : FuncId} {a : Ty} {r : RK} {m : a.den → Option r.ty.den} {pre : a.den → Prop} {fn : a.den → r.ty.den} (h : FOK P G f (mSpec a r m)) (hc : ∀ x, a.wf x → Ty.bys a x → m x = some (fn x)) : FOK P G f ⟨a, r, pre, fn⟩ := fun w S vs x hS hG ha hp => by
 have hm := hc x (aF7 _ _ _ ha) (aRq _ _ _ ha)
 have := h w S vs x hS hG ha (by show (m x).isSome = true; rw [hm]; rfl)
 have e : (mSpec a r m).fn x = fn x := by show (m x).getD r.ty.zero = fn x; rw [hm]; rfl
 rw [e] at this
 exact this
theorem size_eq : ∀ (m k : Nat) (e : Ex) (a : Nat), m < k → a + m = 41 → ∃ v : Nat, mV none k e (a : Int) = some (v : Int) ∧ 1 ≤ v ∧ v ≤ 201 ∧ (v ≤ 200 → fits m e ∧ nd m e = v)
 | m, 0, e, a, hk, ha => absurd hk (by omega)
 | 0, k + 1, e, a, hk, ha => by
  refine ⟨201, ?_, by omega, by omega, fun h => absurd h (by omega)⟩
  show lE none (mV none k) e (a : Int) = _
  unfold lE
  rw [if_pos (.inl (by omega))]
  rfl
 | m + 1, k + 1, e, a, hk, ha => by
  show ∃ v : Nat, lE none (mV none k) e (a : Int) = _ ∧ _
  unfold lE
  by_cases ht : e.text.length ≤ 100
  ·obtain ⟨r, hr, x, rfl, q1, q2, q3⟩ := uX (step := fun d : Int × Int => lR none (mV none k) e (a : Int) d.1 d.2)
    (I := fun d => ∃ i x : Nat, d = ((x : Int), (i : Int)) ∧ i ≤ e.l.length ∧ i + 1 ≤ x ∧ x ≤ 401 ∧ (x ≤ 200 → (∀ y ∈ e.l.take i, fits m y) ∧ x = 1 + aB7 (nd m) (e.l.take i)))
    (fun d => ((e.l.length : Int) - d.2).toNat)
    (fun r => ∃ x : Nat, r = (x : Int) ∧ 1 ≤ x ∧ x ≤ 401 ∧ (x ≤ 200 → e.l.length ≤ 200 ∧ (∀ y ∈ e.l, fits m y) ∧ x = 1 + aB7 (nd m) e.l))
    (by
     rintro d ⟨i, x, rfl, h1, h2, h3, h4⟩
     show (∃ d', lR none (mV none k) e (a : Int) (x : Int) (i : Int) = _ ∧ _) ∨ ∃ r, lR none (mV none k) e (a : Int) (x : Int) (i : Int) = _ ∧ _
     unfold lR
     by_cases hi : i < e.l.length ∧ x ≤ 200
     ·left
      obtain ⟨hi, hx⟩ := hi
      obtain ⟨v, p1, p2, p3, p4⟩ := size_eq m k (e.l.getD i (Ex.mk 0 [] [])) (a + 1) (by omega) (by omega)
      rw [show ((a + 1 : Nat) : Int) = (a : Int) + 1 from by omega] at p1
      rw [if_pos ⟨by omega, by omega⟩, Int.toNat_natCast, p1]
      simp only [Option.isSome_some, Option.getD_some]
      refine ⟨(((x + v : Nat) : Int), ((i + 1 : Nat) : Int)), aZ (by constructor <;> omega) (aZ (by constructor <;> omega) (aZ trivial (aZ (by constructor <;> omega) (aZ (by constructor <;> omega) rfl)))), ⟨i + 1, x + v, rfl, by omega, by omega, by omega, fun hv => ?_⟩, by simp only; omega⟩
      obtain ⟨u1, u2⟩ := h4 hx
      obtain ⟨w1, w2⟩ := p4 (by omega)
      rw [aJ6 (nd m) hi, w2]
      refine ⟨fun y hy => ?_, by omega⟩
      rw [aLR hi, List.mem_append] at hy
      rcases hy with hy | hy
      ·exact u1 y hy
      ·rw [List.mem_singleton.1 hy]; exact w1
     ·right
      refine ⟨(x : Int), if_neg (fun h => hi ⟨by omega, by omega⟩), x, rfl, by omega, h3, fun hv => ?_⟩
      obtain ⟨u1, u2⟩ := h4 hv
      rw [aJ7 (by omega)] at u1 u2
      exact ⟨by omega, u1, u2⟩) ((1 : Int), (0 : Int)) ⟨0, 1, rfl, by omega, by omega, by omega, fun _ => ⟨by simp, by rw [aVK]⟩⟩
   refine ⟨min x 201, ?_, by omega, by omega, fun hv => ?_⟩
   ·rw [if_neg (by rintro (h | h) <;> omega)]
    refine bA hr ?_
    congr 1
    omega
   ·obtain ⟨u1, u2, u3⟩ := q3 (by omega)
    have hnd : nd (m + 1) e = 1 + aB7 (nd m) e.l := rfl
    exact ⟨⟨ht, by omega, u2⟩, by omega⟩
  ·refine ⟨201, ?_, by omega, by omega, fun h => absurd h (by omega)⟩
   rw [if_pos (.inr (by omega))]
   rfl
theorem aQg {A : List Bool} {c : Nat} (hc : c < 256) : cW none A c = some (A.getD c false) := aZ (by constructor <;> omega) rfl
theorem aV4 {s : List Nat} (hb : ∀ c ∈ s, c < 256) (hl : s.length ≤ 100) : ∃ v, kV none s (aP kB) = some v := by
 obtain ⟨A, hA, hm⟩ := aV2
 unfold kV
 by_cases h0 : s = aP ⟨#[]⟩ ∨ aP kB = aP ⟨#[]⟩
 ·exact ⟨_, ify h0 rfl⟩
 ·have r1 : ∃ v1, eC none s A = some v1 ∧ (∀ c ∈ v1, c < 256) ∧ v1.length ≤ 100 := by
   obtain ⟨e, he, h1, h2⟩ := uX (step := fun d : List Nat => bU none A d) (I := fun d => (∀ c ∈ d, c < 256) ∧ d.length ≤ 100) (fun d => d.length) (fun e => (∀ c ∈ e, c < 256) ∧ e.length ≤ 100)
    (by
     rintro d ⟨h1, h2⟩
     show (∃ d', bU none A d = _ ∧ _) ∨ ∃ e, bU none A d = _ ∧ _
     unfold bU
     by_cases hd : 0 < d.length
     ·have e1 : (d.length : Int) - 1 = ((d.length - 1 : Nat) : Int) := by omega
      rw [e1, Int.toNat_natCast]
      have hc : d.getD (d.length - 1) 0 < 256 := h1 _ (aLX 0 (by omega))
      by_cases hA : A.getD (d.getD (d.length - 1) 0) false = true
      ·left
       refine ⟨_, ify (by omega) (aZ (by constructor <;> omega) (aZ (by constructor <;> omega) (bA (aQg hc) (ifn (by simpa using hA) (aZ (by constructor <;> omega) (aZ (by constructor <;> omega) rfl)))))), ⟨fun c hc => h1 c (List.mem_of_mem_take hc), by simp; omega⟩, by simp; omega⟩
      ·right
       exact ⟨_, ify (by omega) (aZ (by constructor <;> omega) (aZ (by constructor <;> omega) (bA (aQg hc) (ify hA rfl)))), h1, h2⟩
     ·right
      exact ⟨d, ifn (by omega) rfl, h1, h2⟩) s ⟨hb, hl⟩
   exact ⟨e, bA he rfl, h1, h2⟩
  have r2 : ∀ v1 : List Nat, (∀ c ∈ v1, c < 256) → v1.length ≤ 100 → ∃ v2, eJ none v1 A = some v2 := by
   intro v1 g1 g2
   obtain ⟨e, he, h1, h2⟩ := uX (step := fun d : List Nat => bY none A d) (I := fun d => (∀ c ∈ d, c < 256) ∧ d.length ≤ 100) (fun d => d.length) (fun e => (∀ c ∈ e, c < 256) ∧ e.length ≤ 100)
    (by
     rintro d ⟨h1, h2⟩
     show (∃ d', bY none A d = _ ∧ _) ∨ ∃ e, bY none A d = _ ∧ _
     unfold bY
     by_cases hd : 0 < d.length
     ·have hc : d.getD 0 0 < 256 := h1 _ (aLX 0 (by omega))
      by_cases hA : A.getD (d.getD 0 0) false = true
      ·left
       refine ⟨_, ify (by omega) (aZ (by omega) (bA (aQg hc) (ifn (by simpa using hA) (aZ (by omega) rfl)))), ⟨fun c hc => h1 c (List.mem_of_mem_drop hc), by simp; omega⟩, by simp; omega⟩
      ·right
       exact ⟨_, ify (by omega) (aZ (by omega) (bA (aQg hc) (ify hA rfl))), h1, h2⟩
     ·right
      exact ⟨d, ifn (by omega) rfl, h1, h2⟩) v1 ⟨g1, g2⟩
   exact ⟨e, bA he rfl⟩
  obtain ⟨v1, e1, g1, g2⟩ := r1
  obtain ⟨v2, e2⟩ := r2 v1 g1 g2
  exact ⟨v2, ifn h0 (aZ xAb (ifn xAb (bA hA (ify rfl (bA e1 (bA e2 rfl))))))⟩
theorem aV5 {w : List Nat} (hb : ∀ c ∈ w, c < 256) : ∃ b, mK none w = some b := by
 unfold mK
 by_cases h : ((((w.length : Int) < 1) ∨ (20 : Int) < (w.length : Int)) ∨ w.getD 0 0 < 97) ∨ 122 < w.getD 0 0
 ·exact ⟨_, aZ (by omega) (aZ (by omega) (ify h rfl))⟩
 ·obtain ⟨v, hv⟩ := aV4 hb (by omega)
  have hr : fA none = some [[116], [115, 113, 114], [115, 113, 114, 116], [101, 120, 112], [112, 114, 101, 99], [101, 110, 100], [115, 116, 101, 112], [116, 111, 108], [116, 114, 105, 101, 115], [111, 114, 100, 101, 114], [106, 97, 99, 111, 98, 105], [115, 101, 105, 100, 101, 108], [115, 117, 98], [115, 116, 97, 116, 101], [112, 97, 114], [105, 110], [111, 117, 116], [100, 101, 114], [108, 105, 110, 107]] := by unfold fA; decide
  exact ⟨_, aZ (by omega) (aZ (by omega) (ifn h (bA hv (aZ (fun _ => by rw [hr]; rfl) (aZ (fun _ => by rw [hr, Option.getD_some, contains_eq _ _ xAb]; rfl) rfl)))))⟩
theorem W.kinds {n : Nat} {e : Ex} (h : W n e) : e.kind = 1 ∨ e.kind = 2 ∨ e.kind = 6 ∨ e.kind = 7 ∨ e.kind = 8 ∨ e.kind = 9 ∨ e.kind = 10 ∨ e.kind = 11 ∨ e.kind = 12 ∨ e.kind = 13 := by
 cases h with
 | num n t h => exact .inl rfl
 | name n t h => exact .inr (.inl rfl)
 | two n k a b h1 h2 _ _ => show k = 1 ∨ k = 2 ∨ k = 6 ∨ k = 7 ∨ k = 8 ∨ k = 9 ∨ k = 10 ∨ k = 11 ∨ k = 12 ∨ k = 13; omega
 | neg n a _ => exact .inr (.inr (.inr (.inr (.inr (.inr (.inl rfl))))))
 | fn n k a h1 h2 _ => show k = 1 ∨ k = 2 ∨ k = 6 ∨ k = 7 ∨ k = 8 ∨ k = 9 ∨ k = 10 ∨ k = 11 ∨ k = 12 ∨ k = 13; omega
abbrev aT6 (some_2 k : Int) : Prop := ((0 : Int) ≤ k ∧ k < (60 : Int)) ∧ ((IntKind.i64.wrap ((BitVec.ofInt 64 (Int.fdiv some_2 (2 ^ (k % (18446744073709551616 : Int)).toNat)) &&& BitVec.ofInt 64 (1 : Int)).toNat : Int)) = (1 : Int))
theorem aLY {n : Nat} {e : Ex} (h : W n e) : aT6 192 e.kind ↔ iH e := by
 rcases h.kinds with h | h | h | h | h | h | h | h | h | h <;> simp only [iH, h] <;> decide
theorem aN1 {n : Nat} {e : Ex} (h : W n e) : aT6 960 e.kind ↔ jK e := by
 rcases h.kinds with h | h | h | h | h | h | h | h | h | h <;> simp only [jK, h] <;> decide
theorem aSh {n : Nat} {e : Ex} (h : W n e) : aT6 0 e.kind ↔ False := by
 rcases h.kinds with h | h | h | h | h | h | h | h | h | h <;> simp only [h] <;> decide
theorem aTj {g : Ex → Option qI} {e x : Ex} {i : Nat} {k : Int} (hk : k = (i : Int)) {s : Int} {p : Prop} [Decidable p] (hi : i < e.l.length) (hx : e.l.getD i (Ex.mk 0 [] []) = x) {t : List Nat} (hg : g x = some t) (hp : aT6 s x.kind ↔ p) (hl : t.length ≤ 1099511627776) : eK none g e k s = some (par p t) := by
 subst hk
 unfold eK
 refine ifn (by omega) (aZ (by constructor <;> omega) ?_)
 simp only [Int.toNat_natCast]
 rw [hx]
 by_cases h : p
 ·refine ify (hp.2 h) (bA hg (aZ (by show 1 + t.length ≤ _; omega) (aZ (by show ([40] ++ t).length + 1 ≤ _; simp; omega) ?_)))
  unfold par; rw [if_pos h]
  show some (([40] ++ t) ++ [41]) = _
  rw [List.append_assoc]
 ·refine ifn (fun c => h (hp.1 c)) (bA hg ?_)
  unfold par; rw [if_neg h]
theorem uS {p : Prop} [Decidable p] (t : List Nat) : (par p t).length ≤ t.length + 2 := by
 unfold par; split
 ·simp
 ·omega
theorem nk {k j : Int} (h : decide (k = j) = false) : ¬ k = j := of_decide_eq_false h
theorem aV6 : ∀ {n : Nat} {e : Ex}, W n e → n ≤ 32 → fits n e → (tx n e).length + 8 ≤ 2 ^ n * 64 ∧ ∀ k, n ≤ k → cH none k e = some (tx n e) := by
 intro n e hw
 have pw : ∀ n, n ≤ 32 → 2 ^ n * 64 ≤ 274877906944 := fun n hn => by
  have : 2 ^ n ≤ 2 ^ 32 := Nat.pow_le_pow_right xAb hn
  omega
 induction hw with
 | num n t h =>
  intro hn hf
  have h1 : 1 ≤ 2 ^ n := Nat.one_le_two_pow
  have h2 : t.length ≤ 60 := h.1
  refine ⟨by rw [show tx (n + 1) (Ex.mk 1 t []) = t from rfl, Nat.pow_succ]; omega, fun k hk => ?_⟩
  cases k with
  | zero => omega
  | succ k => rfl
 | name n t h =>
  intro hn hf
  have h1 : 1 ≤ 2 ^ n := Nat.one_le_two_pow
  have h2 : t.length ≤ 100 := hf.1
  refine ⟨by rw [show tx (n + 1) (Ex.mk 2 t []) = t from rfl, Nat.pow_succ]; omega, fun k hk => ?_⟩
  cases k with
  | zero => omega
  | succ k => rfl
 | two n kd a b h1 h2 ha hb iha ihb =>
  intro hn hf
  obtain ⟨_, _, hf3⟩ := hf
  obtain ⟨la, pa⟩ := iha (by omega) (hf3 a (.head _))
  obtain ⟨lb, pb⟩ := ihb (by omega) (hf3 b (.tail _ (.head _)))
  have q := pw n (by omega)
  have two : 2 ^ (n + 1) = 2 ^ n + 2 ^ n := by rw [Nat.pow_succ]; omega
  have key : ∀ (p1 p2 : Prop) [Decidable p1] [Decidable p2] (m1 m2 : Int) (sg : List Nat) (k : Nat), n ≤ k → sg.length = 3 → (aT6 m1 a.kind ↔ p1) → (aT6 m2 b.kind ↔ p2) → (eK none (cH none k) (Ex.mk kd [] [a, b]) 0 m1).bind (fun v_44 => ck ((v_44.length) + (sg.length) ≤ 9223372036854775807) ((eK none (cH none k) (Ex.mk kd [] [a, b]) 1 m2).bind (fun v_45 => ck ((v_44 ++ sg).length + (v_45.length) ≤ 9223372036854775807) (some ((v_44 ++ sg) ++ v_45))))) = some (par p1 (tx n a) ++ (sg ++ par p2 (tx n b))) := fun p1 p2 _ _ m1 m2 sg k hk hs c1 c2 => by
   have l1 := uS (p := p1) (tx n a)
   have l2 := uS (p := p2) (tx n b)
   refine bA (aTj (i := 0) rfl (by show 0 < 2; decide) rfl (pa k hk) c1 (by omega)) (aZ (by omega) (bA (aTj (i := 1) rfl (by show 1 < 2; decide) rfl (pb k hk) c2 (by omega)) (aZ (by rw [List.length_append]; omega) ?_)))
   rw [List.append_assoc]
  have pf : ∀ t : List Nat, par False t = t := fun t => if_neg id
  rcases (by omega : kd = 6 ∨ kd = 7 ∨ kd = 8 ∨ kd = 9) with rfl | rfl | rfl | rfl
  ·rw [aNZ (.inl rfl)]
   have l2 := uS (p := iH b) (tx n b)
   refine ⟨by simp only [List.length_append, List.length_cons, List.length_nil]; omega, fun k hk => ?_⟩
   obtain ⟨k, rfl⟩ : ∃ j, k = j + 1 := ⟨k - 1, by omega⟩
   have := key False (iH b) 0 192 [32, 43, 32] k (by omega) rfl (aSh ha) (aLY hb)
   rw [pf] at this
   show cG none (cH none k) _ = _
   unfold cG
   exact (ify rfl this)
  ·rw [aNZ (.inr rfl)]
   have l2 := uS (p := iH b) (tx n b)
   refine ⟨by simp only [List.length_append, List.length_cons, List.length_nil]; omega, fun k hk => ?_⟩
   obtain ⟨k, rfl⟩ : ∃ j, k = j + 1 := ⟨k - 1, by omega⟩
   have := key False (iH b) 0 192 [32, 45, 32] k (by omega) rfl (aSh ha) (aLY hb)
   rw [pf] at this
   show cG none (cH none k) _ = _
   unfold cG
   exact (ifn (nk rfl) (ify rfl this))
  ·rw [aI7 (.inl rfl)]
   have l1 := uS (p := iH a) (tx n a)
   have l2 := uS (p := jK b) (tx n b)
   refine ⟨by simp only [List.length_append, List.length_cons, List.length_nil]; omega, fun k hk => ?_⟩
   obtain ⟨k, rfl⟩ : ∃ j, k = j + 1 := ⟨k - 1, by omega⟩
   show cG none (cH none k) _ = _
   unfold cG
   exact (ifn (nk rfl) (ifn (nk rfl) (ify rfl (key (iH a) (jK b) 192 960 [32, 42, 32] k (by omega) rfl (aLY ha) (aN1 hb)))))
  ·rw [aI7 (.inr rfl)]
   have l1 := uS (p := iH a) (tx n a)
   have l2 := uS (p := jK b) (tx n b)
   refine ⟨by simp only [List.length_append, List.length_cons, List.length_nil]; omega, fun k hk => ?_⟩
   obtain ⟨k, rfl⟩ : ∃ j, k = j + 1 := ⟨k - 1, by omega⟩
   show cG none (cH none k) _ = _
   unfold cG
   exact (ifn (nk rfl) (ifn (nk rfl) (ifn (nk rfl) (ify rfl (key (iH a) (jK b) 192 960 [32, 47, 32] k (by omega) rfl (aLY ha) (aN1 hb))))))
 | neg n a ha iha =>
  intro hn hf
  obtain ⟨la, pa⟩ := iha (by omega) (hf.2.2 a (.head _))
  have q := pw n (by omega)
  have two : 2 ^ (n + 1) = 2 ^ n + 2 ^ n := by rw [Nat.pow_succ]; omega
  have l1 := uS (p := jK a) (tx n a)
  rw [aVS]
  refine ⟨by simp only [List.length_append, List.length_cons, List.length_nil]; omega, fun k hk => ?_⟩
  obtain ⟨k, rfl⟩ : ∃ j, k = j + 1 := ⟨k - 1, by omega⟩
  show cG none (cH none k) _ = _
  unfold cG
  exact (ifn (nk rfl) (ifn (nk rfl) (ifn (nk rfl) (ifn (nk rfl) (ify rfl (bA (aTj (p := jK a) (x := a) (i := 0) rfl (by show 0 < 1; decide) rfl (pa k (by omega)) (aN1 ha) (by omega)) (aZ (by show 1 + _ ≤ _; omega) rfl)))))))
 | fn n kd a h1 h2 ha iha =>
  intro hn hf
  obtain ⟨la, pa⟩ := iha (by omega) (hf.2.2 a (.head _))
  have q := pw n (by omega)
  have two : 2 ^ (n + 1) = 2 ^ n + 2 ^ n := by rw [Nat.pow_succ]; omega
  have pf : ∀ t : List Nat, par False t = t := fun t => if_neg id
  have key : ∀ (hd : List Nat) (k : Nat), n ≤ k → hd.length ≤ 5 → (eK none (cH none k) (Ex.mk kd [] [a]) 0 0).bind (fun v => ck (hd.length + v.length ≤ 9223372036854775807) (ck ((hd ++ v).length + (aP ⟨#[41]⟩).length ≤ 9223372036854775807) (some ((hd ++ v) ++ aP ⟨#[41]⟩)))) = some (hd ++ (tx n a ++ [41])) := fun hd k hk hl => by
   refine bA (aTj (i := 0) rfl (by show 0 < 1; decide) rfl (pa k hk) (aSh ha) (by omega)) ?_
   rw [pf]
   refine aZ (by omega) (aZ (by rw [List.length_append, show (aP ⟨#[41]⟩).length = 1 from rfl]; omega) ?_)
   rw [List.append_assoc]; rfl
  rw [aVT h1 h2]
  rcases (by omega : kd = 11 ∨ kd = 12 ∨ kd = 13) with rfl | rfl | rfl
  ·refine ⟨by rw [show fnT 11 = [115, 113, 114] from rfl]; have := uS (p := True) (tx n a); simp only [List.length_append, List.length_cons, List.length_nil]; omega, fun k hk => ?_⟩
   obtain ⟨k, rfl⟩ : ∃ j, k = j + 1 := ⟨k - 1, by omega⟩
   show cG none (cH none k) _ = _
   unfold cG
   exact (ifn (nk rfl) (ifn (nk rfl) (ifn (nk rfl) (ifn (nk rfl) (ifn (nk rfl) (ify rfl (key [115, 113, 114, 40] k (by omega) xAb)))))))
  ·refine ⟨by rw [show fnT 12 = [115, 113, 114, 116] from rfl]; have := uS (p := True) (tx n a); simp only [List.length_append, List.length_cons, List.length_nil]; omega, fun k hk => ?_⟩
   obtain ⟨k, rfl⟩ : ∃ j, k = j + 1 := ⟨k - 1, by omega⟩
   show cG none (cH none k) _ = _
   unfold cG
   exact (ifn (nk rfl) (ifn (nk rfl) (ifn (nk rfl) (ifn (nk rfl) (ifn (nk rfl) (ifn (nk rfl) (ify rfl (key [115, 113, 114, 116, 40] k (by omega) xAb))))))))
  ·refine ⟨by rw [show fnT 13 = [101, 120, 112] from rfl]; have := uS (p := True) (tx n a); simp only [List.length_append, List.length_cons, List.length_nil]; omega, fun k hk => ?_⟩
   obtain ⟨k, rfl⟩ : ∃ j, k = j + 1 := ⟨k - 1, by omega⟩
   show cG none (cH none k) _ = _
   unfold cG
   exact (ifn (nk rfl) (ifn (nk rfl) (ifn (nk rfl) (ifn (nk rfl) (ifn (nk rfl) (ifn (nk rfl) (ifn (nk rfl) (ify rfl (key [101, 120, 112, 40] k (by omega) xAb)))))))))
theorem aTk : ∀ (n k : Nat) (e : Ex), n ≤ k → fits n e → fB none k e e = some true
 | 0, k, e, hk, hf => hf.elim
 | n + 1, 0, e, hk, hf => absurd hk (by omega)
 | n + 1, k + 1, e, hk, hf => by
  obtain ⟨hf1, hf2, hf3⟩ := hf
  show kG none (fB none k) e e = _
  unfold kG
  have hl := aMI (step := fun d : Int => fI none (fB none k) e e d) (I := fun d => ∃ j : Nat, d = (j : Int) ∧ j ≤ e.l.length) (fun d => ((e.l.length : Int) - d).toNat) (fun _ => .inl ())
   (by
    rintro d ⟨j, rfl, h1⟩
    show (∃ d', fI none (fB none k) e e (j : Int) = _ ∧ _) ∨ fI none (fB none k) e e (j : Int) = _
    unfold fI
    by_cases hj : j < e.l.length
    ·left
     refine ⟨((j + 1 : Nat) : Int), ify (by omega) (aZ (by constructor <;> omega) (aZ (by constructor <;> omega) ?_)), ⟨j + 1, rfl, by omega⟩, by omega, rfl⟩
     rw [Int.toNat_natCast]
     exact bA (aTk n k _ (by omega) (hf3 _ (aI5 hj))) (ifn (by simp) (aZ (by constructor <;> omega) rfl))
    ·right
     exact ifn (by omega) rfl) (0 : Int) ⟨0, rfl, by omega⟩
  exact ifn (by simp) (bA hl rfl)
theorem aTl : ∀ {n m : Nat} {e : Ex}, fits n e → ht n e ≤ m → fits m e
 | 0, _, _, hf, _ => hf.elim
 | n + 1, m, e, hf, hh => by
  have h1 : ht (n + 1) e = 1 + mxN (ht n) e.l := rfl
  obtain ⟨m, rfl⟩ : ∃ j, m = j + 1 := ⟨m - 1, by omega⟩
  refine ⟨hf.1, hf.2.1, fun x hx => aTl (hf.2.2 x hx) ?_⟩
  have : ∀ l : List Ex, x ∈ l → ht n x ≤ mxN (ht n) l := fun l => by
   induction l with
   | nil => intro h; cases h
   | cons y r ih =>
    intro h
    have e1 : mxN (ht n) (y :: r) = max (ht n y) (mxN (ht n) r) := rfl
    rcases List.mem_cons.1 h with rfl | h
    ·omega
    ·have := ih h; omega
  have := this e.l hx
  omega
theorem aYY : ∀ {n : Nat} {e : Ex}, W n e → ∀ {m : Nat}, ht n e ≤ m → W m e := by
 intro n e hw
 induction hw with
 | num n t h => intro m hm; obtain ⟨m, rfl⟩ : ∃ j, m = j + 1 := ⟨m - 1, by have : ht (n + 1) (Ex.mk 1 t []) = 1 + 0 := rfl; omega⟩; exact .num m t h
 | name n t h => intro m hm; obtain ⟨m, rfl⟩ : ∃ j, m = j + 1 := ⟨m - 1, by have : ht (n + 1) (Ex.mk 2 t []) = 1 + 0 := rfl; omega⟩; exact .name m t h
 | two n k a b h1 h2 ha hb iha ihb =>
  intro m hm
  have e1 : ht (n + 1) (Ex.mk k [] [a, b]) = 1 + max (ht n a) (max (ht n b) 0) := rfl
  obtain ⟨m, rfl⟩ : ∃ j, m = j + 1 := ⟨m - 1, by omega⟩
  exact .two m k a b h1 h2 (iha (by omega)) (ihb (by omega))
 | neg n a ha iha =>
  intro m hm
  have e1 : ht (n + 1) (Ex.mk 10 [] [a]) = 1 + max (ht n a) 0 := rfl
  obtain ⟨m, rfl⟩ : ∃ j, m = j + 1 := ⟨m - 1, by omega⟩
  exact .neg m a (iha (by omega))
 | fn n k a h1 h2 ha iha =>
  intro m hm
  have e1 : ht (n + 1) (Ex.mk k [] [a]) = 1 + max (ht n a) 0 := rfl
  obtain ⟨m, rfl⟩ : ∃ j, m = j + 1 := ⟨m - 1, by omega⟩
  exact .fn m k a h1 h2 (iha (by omega))
theorem aN2 (e : Ex) (names : List qI) (hb : ∀ w ∈ names, ∀ c ∈ w, c < 256) : oR none e names = some true := by
 obtain ⟨v, h1, h2, h3, h4⟩ := size_eq 40 64 e 1 (by omega) rfl
 unfold oR uC
 refine bA (bA h1 rfl) ?_
 by_cases hc : (¬ decide ((v : Int) ≤ 200) = true) ∨ (8 : Int) < (names.length : Int)
 ·exact aZ (fun h => absurd hc h) (ify (.inl hc) rfl)
 ·have hv : v ≤ 200 := by
   by_cases h : v ≤ 200
   ·exact h
   ·exact absurd (Or.inl (by simp; omega)) hc
  have hn : names.length ≤ 8 := by
   by_cases h : names.length ≤ 8
   ·exact h
   ·exact absurd (Or.inr (by omega)) hc
  obtain ⟨hf, hnd⟩ := h4 hv
  have few := aX2 hf (by omega) (by omega)
  have e1 : gJ none e names = some (decide (nd 40 e ≤ 60 ∧ ht 40 e ≤ 30) && (gk 40 e && lvs names 40 e)) := by
   unfold gJ
   rw [aTi names (by omega) 40 64 e (by omega) hf]
   exact bA few (aZ (fun _ => rfl) rfl)
  rw [e1]
  refine aZ (fun _ => rfl) ?_
  by_cases hm : (decide (nd 40 e ≤ 60 ∧ ht 40 e ≤ 30) && (gk 40 e && lvs names 40 e)) = true
  ·refine ifn (by rintro (h | h); exact hc h; exact h hm) ?_
   rw [Bool.and_eq_true, Bool.and_eq_true] at hm
   obtain ⟨m1, m2, m3⟩ := hm
   have m1 := of_decide_eq_true m1
   obtain ⟨r, hr, hQ⟩ := uX (step := fun d : Int => gH none names d) (I := fun d => ∃ j : Nat, d = (j : Int) ∧ j ≤ names.length ∧ ∀ x ∈ names.take j, aNY x) (fun d => ((names.length : Int) - d).toNat)
    (fun r => (r = .inl () ∧ ∀ x ∈ names, aNY x) ∨ r = .inr true)
    (by
     rintro d ⟨j, rfl, g1, g2⟩
     show (∃ d', gH none names (j : Int) = _ ∧ _) ∨ ∃ r, gH none names (j : Int) = _ ∧ _
     unfold gH
     by_cases hj : j < names.length
     ·obtain ⟨b, hbn⟩ := aV5 (hb _ (aLX [] hj))
      rw [Int.toNat_natCast]
      by_cases hbt : b = true
      ·left
       refine ⟨((j + 1 : Nat) : Int), ify (by omega) (aZ (by constructor <;> omega) (bA hbn (ifn (fun h => h hbt) (aZ (by constructor <;> omega) rfl)))), ⟨j + 1, rfl, by omega, fun x hx => ?_⟩, by omega⟩
       rw [aTg [] hj, List.mem_append] at hx
       rcases hx with hx | hx
       ·exact g2 x hx
       ·rw [List.mem_singleton.1 hx]
        exact aXa (by rw [hbn, hbt])
      ·right
       exact ⟨.inr true, ify (by omega) (aZ (by constructor <;> omega) (bA hbn (ify hbt rfl))), .inr rfl⟩
     ·right
      refine ⟨.inl (), ifn (by omega) rfl, .inl ⟨rfl, ?_⟩⟩
      rw [List.take_of_length_le (by omega)] at g2
      exact g2) (0 : Int) ⟨0, rfl, by omega, by simp⟩
   refine bA hr ?_
   rcases hQ with ⟨rfl, hnm⟩ | rfl
   ·have hw := aYY (aYq hnm hf m2 m3) m1.2
    have hf30 := aTl hf m1.2
    obtain ⟨hlen, hpr⟩ := aV6 hw (by omega) hf30
    have hpr := hpr 64 (by omega)
    have hlen : (tx 30 e).length ≤ 1099511627776 := by omega
    have hparse : pY none (tx 30 e) = some (e, 0, 0, ()) := aW8 hlen (back_eq hw (by omega)) (yT fun h => absurd h (Nat.lt_irrefl _)) (by rw [few, decide_eq_true m1])
    have hsame := aTk 40 64 e (by omega) hf
    show iX none e = _
    unfold iX
    refine bA hpr (bA hparse ?_)
    simp only [hsame, hpr]
    exact aZ (fun _ => rfl) (aZ (fun _ => rfl) (by simp [aBT]))
   ·rfl
  ·exact ify (.inr hm) rfl
end Nu
end Go.Proofs
