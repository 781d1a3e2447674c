import Derived.Test.YtcpnniahnmjnpaaGreatDoorZS4
set_option linter.unusedVariables false
set_option linter.unusedSimpArgs false
namespace Go.Proofs
open Go.Vc
set_option maxRecDepth 20000
namespace Nu
theorem bAb (w : List Nat) : aBA .str (zJ .str (zJ .str (zJ .str ([] : List wt) (aS ⟨#[115, 113, 114]⟩) (11 : Int)) (aS ⟨#[115, 113, 114, 116]⟩) (12 : Int)) (aS ⟨#[101, 120, 112]⟩) (13 : Int)) w = aYR w := by
 have e : zJ .str (zJ .str (zJ .str ([] : List wt) (aS ⟨#[115, 113, 114]⟩) (11 : Int)) (aS ⟨#[115, 113, 114, 116]⟩) (12 : Int)) (aS ⟨#[101, 120, 112]⟩) (13 : Int) = [([115, 113, 114], 11), ([115, 113, 114, 116], 12), ([101, 120, 112], 13)] := by decide
 rw [e]
 simp only [aBA, aYR, Ty.eqb, decide_eq_true_eq]
theorem aIg {s : List Nat} {p n : Nat} {x y : Option CR} {r : PR} (h : x = y) (c : Cor s p n y r) : Cor s p n x r := by rw [h]; exact c
theorem aTw {s : List Nat} {p n : Nat} {x : Option CR} {f : CR → Option CR} {r : PR} (c : Cor s p n x r) (hf : ∀ y, f y = some y) : Cor s p n (x.bind f) r := by
 cases r with
 | inl z =>
  obtain ⟨e2, q2⟩ := z
  obtain ⟨b1, b2, n2, b3, b4⟩ := c
  exact ⟨b1, b2, n2, b3, dO b4 (hf _)⟩
 | inr z => exact ⟨c.1, dO c.2 (hf _)⟩
theorem aXN {s : List Nat} (hs : s.length ≤ 1099511627776) : ∀ n, Gd s (gE none n) (aOr s n)
 | 0 => fun p n r hp hn hr => by cases hr
 | k + 1 => fun p n r hp hn hr => by
  have ih := aXN hs k
  have hk := aJT s p hp
  show Cor s p n (iU none (gE none k) (st s p n)) r
  generalize hg : gE none k = g at ih
  rw [aOr] at hr
  unfold iU
  have h45 : aS ⟨#[45]⟩ = [45] := rfl
  rw [h45]
  by_cases h : aMI s [45] (skp s p)
  ·rw [if_pos h] at hr
   have h1 := h.1
   refine aIg (dO (aUn hs hp h) (ify rfl rfl)) ?_
   refine aLq (p := skp s p + 1) hr (fun r' h => ih _ n r' (by omega) (by omega) h) (fun e q n' h1 h2 h3 h4 => ?_) (fun z => rfl)
   obtain rfl := Option.some.inj h4
   exact ⟨by omega, h2, n' + 1, by omega, dO (aIe _ _ _ s q n' (by omega)) rfl⟩
  ·rw [if_neg h] at hr
   refine aIg (dO (aXG hs hp h) (ifn (by simp) rfl)) ?_
   generalize hq : skp s p = q at hk hr
   refine Cor.mv (n' := n) hk.1 (by omega) ?_
   unfold aXJ at hr
   by_cases h1 : s.length ≤ q
   ·rw [if_pos h1] at hr
    obtain rfl := Option.some.inj hr
    exact ⟨hk.2, ify (by simp only; omega) rfl⟩
   ·rw [if_neg h1] at hr
    refine aIg (ifn (by simp only; omega) (cC (by constructor <;> (simp only; omega)) rfl)) ?_
    have hc : (q : Int).toNat = q := by omega
    by_cases h2 : s.getD q 0 = 40
    ·rw [if_pos h2] at hr
     refine aIg (ify (by simp only [hc]; exact h2) rfl) ?_
     exact aTw (aZb hs ih q n r hk.2 (by omega) hr) (fun y => by cases y <;> rfl)
    ·rw [if_neg h2] at hr
     refine aIg (ifn (by simp only [hc]; exact h2) (cC (by constructor <;> (simp only; omega)) (cC rfl rfl))) ?_
     by_cases h3 : aQk (s.getD q 0) = true
     ·rw [if_pos h3] at hr
      have h4 : ¬ aG0 (aS yL) (s.getD q 0) < 0 := fun e => (aXM _).1 e h3
      refine aIg (ifn (by simp only [aIA, hc, Option.getD_some]; exact h4) (dO (aYT hs hk.2) rfl)) ?_
      unfold aZa at hr
      simp only [bAb]
      have hw := aSq rQ s q
      have hw1 : 1 ≤ run rQ s q := by rw [aQl (by omega) (by unfold rQ; rw [h3]; rfl)]; omega
      cases hf : aYR (aMJ s q) with
      | none =>
       rw [hf] at hr
       obtain rfl := Option.some.inj hr
       exact ⟨by omega, by omega, n + 1, by omega, (ifn (by simp) (dO (aIe _ _ _ s _ n (by omega)) rfl))⟩
      | some kd =>
       rw [hf] at hr
       refine aIg (ify rfl rfl) ?_
       have hr : aIf (pIn (aOr s k) s (q + run rQ s q)) (fun e z => some (.inl (Ex.mk kd [] [e], z))) = some r := hr
       refine aLq (p := q + run rQ s q) hr (fun r' h => aZb hs ih _ n r' (by omega) (by omega) h) (fun e q' n' h1 h2 h3 h4 => ?_) (fun z => rfl)
       obtain rfl := Option.some.inj h4
       exact ⟨by omega, h2, n' + 1, by omega, dO (aIe _ _ _ s q' n' (by omega)) rfl⟩
     ·rw [if_neg h3] at hr
      have h4 : aG0 (aS yL) (s.getD q 0) < 0 := (aXM _).2 h3
      refine aIg (ify (by simp only [aIA, hc, Option.getD_some]; exact h4) rfl) ?_
      exact aTw (aZL hs hk.2 (by omega) hr) (fun y => by cases y <;> rfl)
theorem aYU {s : List Nat} (hs : s.length ≤ 1099511627776) {e : Ex} {q : Nat} (h : aXI (aOr s 64) s 0 = some (.inl (e, q))) (hq : skp s q = s.length) (hf : pM none e = some true) : gF none s = some (e, 0, 0, ()) := by
 have := aXL hs (aXN hs 64) 0 0 _ (by omega) (by omega) h
 obtain ⟨a1, a2, n', a3, a4⟩ := this
 unfold gF
 refine dO a4 ?_
 refine dO (aSr s hs _ q n' rfl a2) (ifn (by simp only; rw [hq]; omega) ?_)
 exact cC (by simp only [hf]; rfl) (ifn (by simp only [hf]; simp) rfl)
end Nu
end Go.Proofs
namespace Go.Proofs
open Go.Vc
set_option maxRecDepth 20000
namespace Nu
def sgn (k : Nat) : Nat := [43, 45, 42, 47].getD k 0
structure Tk where
 D : Nat → Nat
 K : Nat → Nat
 B : Nat → Nat
 hD : ∀ i, D i < 10
 hK : ∀ i, K i < 4
 hB : ∀ i, B i ≤ 1
namespace Tk
variable (t : Tk)
def piece (i : Nat) : List Nat := (if i = 0 then [] else List.replicate (t.B i) 32 ++ [sgn (t.K i)]) ++ [48 + t.D i]
def T : Nat → List Nat
 | 0 => []
 | i + 1 => T i ++ t.piece i
def P (i : Nat) : Nat := (t.T i).length
def S (i : Nat) : Nat := t.P i + t.B i
def Q (i : Nat) : Nat := if i = 0 then 0 else t.S i + 1
theorem aIh (i : Nat) : t.P (i + 1) = t.Q i + 1 := by
 unfold P Q S
 rw [T, List.length_append, piece]
 by_cases h : i = 0
 ·subst h; rfl
 ·rw [if_neg h, if_neg h]
  simp only [List.length_append, List.length_replicate, List.length_singleton, P]
  omega
theorem aZc (n : Nat) : ∀ i, i ≤ n → ∃ r, t.T n = t.T i ++ r := by
 induction n with
 | zero =>
  intro i h
  obtain rfl : i = 0 := by omega
  exact ⟨[], rfl⟩
 | succ n ih =>
  intro i h
  rcases Nat.lt_or_ge n i with h1 | h1
  ·obtain rfl : i = n + 1 := by omega
   exact ⟨[], by simp⟩
  ·obtain ⟨r, hr⟩ := ih i h1
   exact ⟨r ++ t.piece n, by rw [T, hr, List.append_assoc]⟩
theorem aXO (a b : List Nat) (j : Nat) : (a ++ b).getD (a.length + j) 0 = b.getD j 0 := by
 simp [List.getD_eq_getElem?_getD, List.getElem?_append_right]
theorem bAO {i n : Nat} (h : i ≤ n) : t.P i ≤ t.P n := by
 obtain ⟨r, hr⟩ := t.aZc n i h
 unfold P; rw [hr, List.length_append]; omega
theorem aLr {i n : Nat} (h : i < n) (j : Nat) (hj : j < (t.piece i).length) : (t.T n).getD (t.P i + j) 0 = (t.piece i).getD j 0 := by
 obtain ⟨r, hr⟩ := t.aZc n (i + 1) h
 rw [hr, T, List.append_assoc, P, aXO]
 simp [List.getD_eq_getElem?_getD, List.getElem?_append_left hj]
theorem aUo {i n : Nat} (h : i < n) : (t.T n).getD (t.Q i) 0 = 48 + t.D i := by
 by_cases h0 : i = 0
 ·subst h0
  have := t.aLr h 0 (by simp [piece])
  simpa [P, T, piece, Q] using this
 ·have := t.aLr h (t.B i + 1) (by simp [piece, h0])
  rw [show t.P i + (t.B i + 1) = t.Q i from by unfold Q S; rw [if_neg h0]; omega] at this
  rw [this, piece, if_neg h0]
  simp
theorem aMK {i n : Nat} (h : i < n) (h0 : i ≠ 0) : (t.T n).getD (t.S i) 0 = sgn (t.K i) := by
 have := t.aLr h (t.B i) (by simp [piece, h0])
 rw [show t.P i + t.B i = t.S i from rfl] at this
 rw [this, piece, if_neg h0]
 rw [List.append_assoc]
 simp
theorem aZd {i n : Nat} (h : i < n) (h0 : i ≠ 0) (hb : t.B i = 1) : (t.T n).getD (t.P i) 0 = 32 := by
 have := t.aLr h 0 (by simp [piece, h0])
 rw [Nat.add_zero] at this
 rw [this, piece, if_neg h0, hb]
 rfl
theorem aQm (n : Nat) : (t.T n).length = t.P n := rfl
theorem aML {k : Nat} (h : k < 4) : (k = 0 ∧ sgn k = 43) ∨ (k = 1 ∧ sgn k = 45) ∨ (k = 2 ∧ sgn k = 42) ∨ (k = 3 ∧ sgn k = 47) := by
 obtain rfl | rfl | rfl | rfl : k = 0 ∨ k = 1 ∨ k = 2 ∨ k = 3 := by omega
 all_goals simp [sgn]
theorem aZM {i n : Nat} (h : i < n) : t.Q i < (t.T n).length := by
 have := t.aIh i
 have := t.bAO (i := i + 1) (n := n) h
 rw [aQm]; omega
theorem aZN {i n : Nat} (h : i < n) (h0 : i ≠ 0) : t.S i < (t.T n).length := by
 have := t.aZM h
 unfold Q at this; rw [if_neg h0] at this; omega
theorem aIB {i n : Nat} (h : i < n) (h0 : i ≠ 0) : skp (t.T n) (t.P i) = t.S i := by
 have hs := t.aMK h h0
 have hl := t.aZN h h0
 have hk := aML (t.hK i)
 have out : run aQY (t.T n) (t.S i) = 0 := aEr fun _ => by
  rw [hs]; unfold aQY
  rcases hk with ⟨_, e⟩ | ⟨_, e⟩ | ⟨_, e⟩ | ⟨_, e⟩ <;> rw [e] <;> rfl
 unfold skp
 rcases Nat.lt_or_ge (t.B i) 1 with hb | hb
 ·have e : t.S i = t.P i := by unfold S; omega
  rw [← e, out]; rfl
 ·have hb : t.B i = 1 := by have := t.hB i; omega
  have e : t.S i = t.P i + 1 := by unfold S; omega
  rw [aQl (by omega) (by rw [t.aZd h h0 hb]; rfl), ← e, out, e]
theorem aEs (n : Nat) : skp (t.T n) (t.P n) = t.P n := by
 unfold skp
 rw [aEr (fun h => by rw [aQm] at h; omega)]; rfl
theorem aYV {i n : Nat} (h : i < n) : skp (t.T n) (t.Q i) = t.Q i := by
 unfold skp
 rw [aEr (fun _ => by rw [t.aUo h]; unfold aQY; rw [beq_eq_false_iff_ne]; omega)]; rfl
theorem behind {i n : Nat} (h : i < n) : t.Q i + 1 < (t.T n).length → (t.T n).getD (t.Q i + 1) 0 = 32 ∨ (t.T n).getD (t.Q i + 1) 0 = sgn (t.K (i + 1)) := fun hl => by
 rw [← t.aIh]
 rw [← t.aIh, aQm] at hl
 have h1 : i + 1 < n := by
  rcases Nat.lt_or_ge (i + 1) n with h1 | h1
  ·exact h1
  ·obtain rfl : i + 1 = n := by omega
   omega
 rcases Nat.lt_or_ge (t.B (i + 1)) 1 with hb | hb
 ·right
  have := t.aMK h1 (by omega)
  rwa [show t.S (i + 1) = t.P (i + 1) from by unfold S; omega] at this
 ·left
  exact t.aZd h1 (by omega) (by have := t.hB (i + 1); omega)
theorem aXP {i n : Nat} (h : i < n) : aAM (t.T n) (t.Q i) = 1 := by
 have hb := t.behind h
 have hk := aML (t.hK (i + 1))
 have hno : ∀ c, t.Q i + 1 < (t.T n).length → (t.T n).getD (t.Q i + 1) 0 = c → c = 32 ∨ c = 43 ∨ c = 45 ∨ c = 42 ∨ c = 47 := fun c hl hc => by
  rcases hb hl with e | e <;> rw [e] at hc <;> omega
 have hd : iQ (t.T n) (t.Q i) = 1 := by
  show run aA4 (t.T n) (t.Q i) = 1
  rw [aQl (t.aZM h) (by rw [t.aUo h]; have := t.hD i; simp [aA4]; omega), aEr]
  intro hl
  have := hno _ hl rfl
  simp only [aA4, decide_eq_false_iff_not]
  omega
 have h46 : ¬ aAK (t.T n) (t.Q i + 1) 46 := fun hh => by
  have := hno _ hh.1 hh.2; omega
 have h101 : ¬ aAK (t.T n) (t.Q i + 1) 101 := fun hh => by
  have := hno _ hh.1 hh.2; omega
 unfold aAM
 rw [hd, if_neg xAc, if_neg (fun hh => h46 hh.1)]
 unfold aLp
 rw [if_neg h101]; omega
def num (i : Nat) : Ex := Ex.mk 1 [48 + t.D i] []
theorem aVi {i n : Nat} (h : i < n) (k : Nat) : aOr (t.T n) (k + 1) (t.Q i) = some (.inl (t.num i, t.P (i + 1))) := by
 have hd := t.aUo h
 have hl := t.aZM h
 have h10 := t.hD i
 rw [aOr, t.aYV h, if_neg, aXJ, if_neg (by omega), if_neg (by rw [hd]; omega), if_neg (by rw [hd]; simp [aQk]; omega), aYQ, t.aXP h, if_neg xAc]
 ·have e : ((t.T n).drop (t.Q i)).take 1 = [48 + t.D i] := by
   rw [List.drop_eq_getElem_cons hl]
   have : (t.T n)[t.Q i] = 48 + t.D i := by
    rw [← hd, List.getD_eq_getElem?_getD, List.getElem?_eq_getElem hl]; rfl
   rw [this]; rfl
  rw [e, t.aIh]; rfl
 ·rintro ⟨_, hm⟩
  rw [hd] at hm
  have := List.mem_singleton.1 hm
  omega
def Pd (i : Nat) : Nat → Ex
 | 0 => t.num i
 | m + 1 => Ex.mk (6 + (t.K (i + m + 1) : Int)) [] [Pd i m, t.num (i + m + 1)]
theorem aTx {n : Nat} (k0 : Nat) : ∀ (f i m : Nat), i + m < n → n < f + (i + m + 1) → ∃ m', m ≤ m' ∧ i + m' < n ∧ (∀ j, i + m < j → j ≤ i + m' → 2 ≤ t.K j) ∧ (i + m' + 1 = n ∨ t.K (i + m' + 1) < 2) ∧
  aOq (aOr (t.T n) (k0 + 1)) (t.T n) 42 47 8 9 f (t.Pd i m) (t.P (i + m + 1)) = some (.inl (t.Pd i m', skp (t.T n) (t.P (i + m' + 1))))
 | 0, i, m, h1, h2 => by omega
 | f + 1, i, m, h1, h2 => by
  rw [aOq]
  rcases Nat.lt_or_ge (i + m + 1) n with hl | hl
  ·rw [t.aIB hl (by omega)]
   have hs := t.aMK hl (by omega)
   have hk := aML (t.hK (i + m + 1))
   by_cases h : 2 ≤ t.K (i + m + 1)
   ·rw [if_pos ⟨t.aZN hl (by omega), by rw [hs]; rcases hk with ⟨a, e⟩ | ⟨a, e⟩ | ⟨a, e⟩ | ⟨a, e⟩ <;> rw [e] <;> simp <;> omega⟩]
    have hq : t.S (i + m + 1) + 1 = t.Q (i + m + 1) := by unfold Q; rw [if_neg (by omega)]
    rw [hq, t.aVi hl]
    have hkd : (if (t.T n).getD (t.S (i + m + 1)) 0 = 42 then (8 : Int) else 9) = 6 + (t.K (i + m + 1) : Int) := by
     rw [hs]
     rcases hk with ⟨a, e⟩ | ⟨a, e⟩ | ⟨a, e⟩ | ⟨a, e⟩ <;> rw [e] <;> first | omega | (rw [a]; rfl)
    rw [hkd]
    obtain ⟨m', a1, a2, a3, a4, a5⟩ := aTx k0 f i (m + 1) (by omega) (by omega)
    refine ⟨m', by omega, a2, fun j h3 h4 => ?_, a4, a5⟩
    rcases Nat.lt_or_ge (i + (m + 1)) j with h5 | h5
    ·exact a3 j h5 h4
    ·obtain rfl : j = i + m + 1 := by omega
     exact h
   ·rw [if_neg (fun hh => by
     have := hh.2
     rw [hs] at this
     rcases hk with ⟨a, e⟩ | ⟨a, e⟩ | ⟨a, e⟩ | ⟨a, e⟩ <;> rw [e] at this <;> first | omega | (revert this; decide))]
    refine ⟨m, Nat.le_refl _, h1, fun j h3 h4 => by omega, .inr (by omega), ?_⟩
    rw [t.aIB hl (by omega)]
  ·obtain rfl : i + m + 1 = n := by omega
   rw [t.aEs, if_neg (fun hh => by have := hh.1; rw [aQm] at this; omega)]
   refine ⟨m, Nat.le_refl _, h1, fun j h3 h4 => by omega, .inl rfl, ?_⟩
   rw [t.aEs]
theorem aVj {n i : Nat} (h : i < n) (k0 : Nat) : ∃ m, i + m < n ∧ (∀ j, i < j → j ≤ i + m → 2 ≤ t.K j) ∧ (i + m + 1 = n ∨ t.K (i + m + 1) < 2) ∧
  aRy (aOr (t.T n) (k0 + 1)) (t.T n) (t.Q i) = some (.inl (t.Pd i m, skp (t.T n) (t.P (i + m + 1)))) := by
 have hn : n ≤ (t.T n).length := by
  have : ∀ k, k ≤ t.P k := fun k => by
   induction k with
   | zero => exact Nat.zero_le _
   | succ k ih => rw [t.aIh]; unfold Q; split <;> first | omega | (unfold S; omega)
  exact this n
 obtain ⟨m, a1, a2, a3, a4, a5⟩ := t.aTx k0 ((t.T n).length + 1) i 0 (by omega) (by omega)
 refine ⟨m, a2, fun j h1 h2 => a3 j (by omega) h2, a4, ?_⟩
 unfold aRy
 rw [t.aVi h]
 exact a5
inductive IsE : Nat → Ex → Prop
 | base (m : Nat) : (∀ j, 1 ≤ j → j ≤ m → 2 ≤ t.K j) → IsE (m + 1) (t.Pd 0 m)
 | step (i m : Nat) (e : Ex) : 1 ≤ i → t.K i < 2 → (∀ j, i < j → j ≤ i + m → 2 ≤ t.K j) → IsE i e → IsE (i + m + 1) (Ex.mk (6 + (t.K i : Int)) [] [e, t.Pd i m])
theorem aVk {n : Nat} (k0 : Nat) : ∀ (f i : Nat) (e : Ex), 1 ≤ i → i ≤ n → n < f + i → (i = n ∨ t.K i < 2) → t.IsE i e → ∃ e', t.IsE n e' ∧
  ∀ p, skp (t.T n) p = skp (t.T n) (t.P i) → aOq (aRy (aOr (t.T n) (k0 + 1)) (t.T n)) (t.T n) 43 45 6 7 f e p = some (.inl (e', t.P n))
 | 0, i, e, h0, h1, h2, _, _ => by omega
 | f + 1, i, e, h0, h1, h2, hb, he => by
  rcases Nat.lt_or_ge i n with hl | hl
  ·have hk2 : t.K i < 2 := hb.resolve_left (by omega)
   have hs := t.aMK hl (by omega)
   have hk := aML (t.hK i)
   obtain ⟨m, a1, a2, a3, a4⟩ := t.aVj hl k0
   obtain ⟨e', b1, b2⟩ := aVk k0 f (i + m + 1) _ (by omega) (by omega) (by omega) a3 (.step i m e h0 hk2 a2 he)
   refine ⟨e', b1, fun p hp => ?_⟩
   rw [aOq, hp, t.aIB hl (by omega)]
   rw [if_pos ⟨t.aZN hl (by omega), by rw [hs]; rcases hk with ⟨a, e⟩ | ⟨a, e⟩ | ⟨a, e⟩ | ⟨a, e⟩ <;> rw [e] <;> simp <;> omega⟩]
   have hq : t.S i + 1 = t.Q i := by unfold Q; rw [if_neg (by omega)]
   rw [hq, a4]
   have hkd : (if (t.T n).getD (t.S i) 0 = 43 then (6 : Int) else 7) = 6 + (t.K i : Int) := by
    rw [hs]
    rcases hk with ⟨a, e⟩ | ⟨a, e⟩ | ⟨a, e⟩ | ⟨a, e⟩ <;> rw [e] <;> first | omega | (rw [a]; rfl)
   rw [hkd]
   refine b2 _ ?_
   rcases Nat.lt_or_ge (i + m + 1) n with h3 | h3
   ·rw [t.aIB h3 (by omega)]
    have := t.aIB h3 (by omega)
    unfold skp at this ⊢
    have hs3 := t.aMK h3 (by omega)
    have hk3 := aML (t.hK (i + m + 1))
    rw [aEr (fun _ => by
     rw [hs3]; unfold aQY
     rcases hk3 with ⟨_, e⟩ | ⟨_, e⟩ | ⟨_, e⟩ | ⟨_, e⟩ <;> rw [e] <;> rfl)]
    rfl
   ·obtain rfl : i + m + 1 = n := by omega
    rw [t.aEs, t.aEs]
  ·obtain rfl : i = n := by omega
   refine ⟨e, he, fun p hp => ?_⟩
   rw [aOq, hp, t.aEs, if_neg (fun hh => by have := hh.1; rw [aQm] at this; omega)]
theorem aZO {n : Nat} (h : 1 ≤ n) (k0 : Nat) : ∃ e, t.IsE n e ∧ aXI (aOr (t.T n) (k0 + 1)) (t.T n) 0 = some (.inl (e, t.P n)) := by
 have hn : n ≤ (t.T n).length := by
  have : ∀ k, k ≤ t.P k := fun k => by
   induction k with
   | zero => exact Nat.zero_le _
   | succ k ih => rw [t.aIh]; unfold Q; split <;> first | omega | (unfold S; omega)
  exact this n
 obtain ⟨m, a1, a2, a3, a4⟩ := t.aVj (i := 0) (n := n) (by omega) k0
 obtain ⟨e', b1, b2⟩ := t.aVk k0 ((t.T n).length + 1) (0 + m + 1) _ (by omega) (by omega) (by omega) a3 (by rw [Nat.zero_add]; exact .base m (fun j h1 h2 => a2 j (by omega) (by omega)))
 refine ⟨e', b1, ?_⟩
 unfold aXI
 rw [show (0 : Nat) = t.Q 0 from rfl, a4]
 refine b2 _ ?_
 rcases Nat.lt_or_ge (0 + m + 1) n with h3 | h3
 ·rw [t.aIB h3 (by omega)]
  unfold skp
  have hs3 := t.aMK h3 (by omega)
  have hk3 := aML (t.hK (0 + m + 1))
  rw [aEr (fun _ => by
   rw [hs3]; unfold aQY
   rcases hk3 with ⟨_, e⟩ | ⟨_, e⟩ | ⟨_, e⟩ | ⟨_, e⟩ <;> rw [e] <;> rfl)]
  rfl
 ·obtain rfl : 0 + m + 1 = n := by omega
  rw [t.aEs, t.aEs]
end Tk
end Nu
end Go.Proofs
namespace Go.Proofs
open Go.Vc
set_option maxRecDepth 20000
namespace Nu
theorem nI {n : Nat} (h : n < 1000) : IntKind.i64.wrap (n : Int) = (n : Int) := by
 have : ∀ n : Nat, n < 1000 → IntKind.i64.wrap (n : Int) = (n : Int) := by decide +kernel
 exact this n h
namespace Tk
variable (t : Tk)
theorem aVl (i k : Nat) : fits (k + 1) (t.num i) ∧ nd (k + 1) (t.num i) = 1 ∧ ht (k + 1) (t.num i) ≤ 1 := by
 refine ⟨⟨by show 1 ≤ 100; decide, Nat.zero_le _, fun x hx => by cases hx⟩, rfl, Nat.le_refl _⟩
theorem aVm {k a b ha hb : Nat} {x y : Ex} {z : Int} (h1 : fits k x ∧ nd k x = a ∧ ht k x ≤ ha) (h2 : fits k y ∧ nd k y = b ∧ ht k y ≤ hb) : fits (k + 1) (Ex.mk z [] [x, y]) ∧ nd (k + 1) (Ex.mk z [] [x, y]) = a + b + 1 ∧ ht (k + 1) (Ex.mk z [] [x, y]) ≤ max ha hb + 1 := by
 obtain ⟨a1, a2, a3⟩ := h1
 obtain ⟨b1, b2, b3⟩ := h2
 refine ⟨⟨Nat.zero_le _, by show 2 ≤ 1000; decide, fun w hw => ?_⟩, ?_, ?_⟩
 ·have hw : w ∈ [x, y] := hw
  rcases List.mem_cons.1 hw with rfl | hw
  ·exact a1
  ·rw [List.mem_singleton.1 hw]; exact b1
 ·show 1 + (nd k x + (nd k y + 0)) = _
  omega
 ·show 1 + max (ht k x) (max (ht k y) 0) ≤ _
  omega
theorem aUp (i : Nat) : ∀ m k, m + 1 ≤ k → fits k (t.Pd i m) ∧ nd k (t.Pd i m) = 2 * m + 1 ∧ ht k (t.Pd i m) ≤ m + 1
 | 0, k, h => by
  obtain ⟨k, rfl⟩ : ∃ j, k = j + 1 := ⟨k - 1, by omega⟩
  exact t.aVl i k
 | m + 1, k, h => by
  obtain ⟨k, rfl⟩ : ∃ j, k = j + 1 := ⟨k - 1, by omega⟩
  obtain ⟨j, rfl⟩ : ∃ j, k = j + 1 := ⟨k - 1, by omega⟩
  have := aVm (z := 6 + (t.K (i + m + 1) : Int)) (aUp i m (j + 1) (by omega)) (t.aVl (i + m + 1) j)
  exact ⟨this.1, by rw [Pd, this.2.1]; omega, by have := this.2.2; rw [Pd]; omega⟩
theorem bAc {m : Nat} {e : Ex} (h : t.IsE m e) : ∀ k, m ≤ k → fits k e ∧ nd k e + 1 = 2 * m ∧ ht k e ≤ m := by
 induction h with
 | base m hm =>
  intro k hk
  have := t.aUp 0 m k hk
  exact ⟨this.1, by omega, this.2.2⟩
 | step i m e h0 h1 h2 h3 ih =>
  intro k hk
  obtain ⟨k, rfl⟩ : ∃ j, k = j + 1 := ⟨k - 1, by omega⟩
  obtain ⟨a1, a2, a3⟩ := ih k (by omega)
  have := aVm (z := 6 + (t.K i : Int)) ⟨a1, rfl, a3⟩ (t.aUp i m k (by omega))
  exact ⟨this.1, by rw [this.2.1]; omega, by have := this.2.2; omega⟩
end Tk
def tk (l signs : List Int) : Tk where
 D i := (l.getD i 0 % 18446744073709551616).toNat % 10
 K i := (signs.getD i 0 % 18446744073709551616).toNat % 4
 B i := (BitVec.ofInt 64 (signs.getD i 0) &&& BitVec.ofInt 64 1).toNat
 hD i := Nat.mod_lt _ xAc
 hK i := Nat.mod_lt _ xAc
 hB i := by
  rw [BitVec.toNat_and, show (BitVec.ofInt 64 1).toNat = 1 from rfl, Nat.and_one_is_mod]
  omega
section
variable (l signs : List Int)
theorem aTy (i : Nat) : nG none ((tk l signs).num i) (l.getD i 0) = some true := by
 have hd := (tk l signs).hD i
 have e : (l.getD i 0 % 18446744073709551616).toNat % 10 = (tk l signs).D i := rfl
 unfold nG
 rw [e, nI (by omega)]
 generalize hx : (tk l signs).D i = d at hd
 have key : ((Ex.mk 1 [48 + d] []).text = List.drop (d : Int).toNat (List.take ((d : Int) + 1).toNat (aS ⟨#[48, 49, 50, 51, 52, 53, 54, 55, 56, 57]⟩))) := by
  have : ∀ d, d < 10 → (Ex.mk 1 [48 + d] []).text = List.drop (d : Int).toNat (List.take ((d : Int) + 1).toNat (aS ⟨#[48, 49, 50, 51, 52, 53, 54, 55, 56, 57]⟩)) := by
   intro d hd
   obtain rfl | rfl | rfl | rfl | rfl | rfl | rfl | rfl | rfl | rfl : d = 0 ∨ d = 1 ∨ d = 2 ∨ d = 3 ∨ d = 4 ∨ d = 5 ∨ d = 6 ∨ d = 7 ∨ d = 8 ∨ d = 9 := by omega
   all_goals rfl
  exact this d hd
 have hnum : (tk l signs).num i = Ex.mk 1 [48 + d] [] := by rw [Tk.num, hx]
 rw [hnum]
 refine cC (fun _ => by constructor <;> omega) (cC (fun _ => ⟨by omega, by omega, by show (d : Int) + 1 ≤ 10; omega⟩) ?_)
 rw [decide_eq_true (show (Ex.mk 1 [48 + d] []).kind = 1 from rfl), decide_eq_true key]
 rfl
theorem aV2 {i j : Nat} (hl : i + j + 1 < l.length) (hs : i + j + 1 < signs.length) (hb : i + j ≤ 100) :
  jI none (i : Int) signs l ((i + j + 1 : Nat) : Int) ((tk l signs).Pd i (j + 1)) = some (.inl (((i + j : Nat) : Int), (tk l signs).Pd i j)) := by
 have hk := (tk l signs).hK (i + j + 1)
 have e : (signs.getD (i + j + 1) 0 % 18446744073709551616).toNat % 4 = (tk l signs).K (i + j + 1) := rfl
 unfold jI
 rw [Int.toNat_natCast, e, nI (by omega)]
 have hkd : ((tk l signs).Pd i (j + 1)).kind = 6 + ((tk l signs).K (i + j + 1) : Int) := rfl
 have hl2 : ((tk l signs).Pd i (j + 1)).l = [(tk l signs).Pd i j, (tk l signs).num (i + j + 1)] := rfl
 rw [hkd, hl2]
 refine ify (by omega) (cC (by constructor <;> omega) (cC (by constructor <;> omega) (cC (fun _ => by show (1 : Int) < 2; decide) (cC (fun _ => by constructor <;> omega) ?_))))
 have hd : nG none ([(tk l signs).Pd i j, (tk l signs).num (i + j + 1)].getD 1 (Ex.mk 0 [] [])) (l.getD (i + j + 1) 0) = some true := aTy l signs (i + j + 1)
 refine cC (fun _ => by rw [hd]; rfl) (ifn ?_ (cC (by show (0 : Int) < 2; decide) (cC (by constructor <;> omega) ?_)))
 ·rw [hd]
  rintro ((h | h) | h)
  ·exact h rfl
  ·exact h rfl
  ·exact h rfl
 ·rw [show (((i + j + 1 : Nat) : Int) - 1) = ((i + j : Nat) : Int) from by omega]
  rfl
theorem aQn {i m : Nat} (hl : i + m < l.length) (hs : i + m < signs.length) (hb : i + m ≤ 100) :
  gW none ((tk l signs).Pd i m) l signs (i : Int) ((i + m + 1 : Nat) : Int) = some true := by
 have main : ∀ j, i + j < l.length → i + j < signs.length → i + j ≤ 100 → aDh (fun d : Int × Ex => jI none (i : Int) signs l d.1 d.2) (((i + j : Nat) : Int), (tk l signs).Pd i j) = some (.inl ((tk l signs).num i)) := by
  intro j
  induction j with
  | zero =>
   intro _ _ _
   refine aAL ?_
   show jI none (i : Int) signs l ((i : Nat) : Int) _ = _
   unfold jI
   exact ifn (by omega) rfl
  | succ j ih =>
   intro h1 h2 h3
   exact aEq (aV2 l signs (i := i) (j := j) h1 h2 (by omega)) (ih (by omega) (by omega) (by omega))
 unfold gW
 rw [show (((i + m + 1 : Nat) : Int) - 1) = ((i + m : Nat) : Int) from by omega]
 refine cC (by constructor <;> omega) (dO (main m hl hs hb) ?_)
 show mW none (i : Int) l ((tk l signs).num i) = _
 unfold mW
 exact cC (by constructor <;> omega) (dO (by rw [Int.toNat_natCast]; exact aTy l signs i) rfl)
theorem aV3 {n i : Nat} {e : Ex} (hi : 1 ≤ i) (hs : i < signs.length) (hb : i ≤ 100) (hk : 2 ≤ (tk l signs).K i) :
  cX none signs l (n : Int) (i : Int) e = some (.inl ((n : Int), ((i - 1 : Nat) : Int), e)) := by
 have h4 := (tk l signs).hK i
 have e1 : (signs.getD i 0 % 18446744073709551616).toNat % 4 = (tk l signs).K i := rfl
 unfold cX
 rw [Int.toNat_natCast, e1, nI (by omega)]
 refine ify (by omega) (cC (by constructor <;> omega) (ify (by omega) (cC (by constructor <;> omega) ?_)))
 rw [show ((i : Int) - 1) = ((i - 1 : Nat) : Int) from by omega]
theorem aXQ {n : Nat} {e : Ex} (hs : n ≤ signs.length) (hb : n ≤ 100) {r : (Int × Ex) ⊕ Bool} (a : Nat) : ∀ j, a + j < n → (∀ k, a < k → k ≤ a + j → 2 ≤ (tk l signs).K k) →
  aDh (fun d : Int × Int × Ex => cX none signs l d.1 d.2.1 d.2.2) ((n : Int), (a : Int), e) = some r →
  aDh (fun d : Int × Int × Ex => cX none signs l d.1 d.2.1 d.2.2) ((n : Int), ((a + j : Nat) : Int), e) = some r
 | 0, _, _, h => h
 | j + 1, h1, h2, h => by
  refine aEq (d' := ((n : Int), ((a + j : Nat) : Int), e)) ?_ (aXQ hs hb a j (by omega) (fun k q1 q2 => h2 k q1 (by omega)) h)
  exact aV3 l signs (n := n) (i := a + j + 1) (e := e) (by omega) (by omega) (by omega) (h2 _ (by omega) (by omega))
theorem aXR {n : Nat} {e : Ex} (h : (tk l signs).IsE n e) : n ≤ l.length → n ≤ signs.length → n ≤ 100 →
  ∃ m, m + 1 ≤ n ∧ aDh (fun d : Int × Int × Ex => cX none signs l d.1 d.2.1 d.2.2) ((n : Int), ((n - 1 : Nat) : Int), e) = some (.inl (((m + 1 : Nat) : Int), (tk l signs).Pd 0 m)) := by
 induction h with
 | base m hm =>
  intro h1 h2 hb
  refine ⟨m, Nat.le_refl _, ?_⟩
  have := aXQ l signs (n := m + 1) (e := (tk l signs).Pd 0 m) h2 hb 0 m (by omega) (fun k q1 q2 => hm k q1 (by omega)) (r := .inl (((m + 1 : Nat) : Int), (tk l signs).Pd 0 m)) (aAL ?_)
  ·rw [show m + 1 - 1 = 0 + m from by omega]; exact this
  ·show cX none signs l ((m + 1 : Nat) : Int) ((0 : Nat) : Int) _ = _
   unfold cX
   exact ifn (by omega) rfl
 | step i m e h0 hk h2 h3 ih =>
  intro q1 q2 hb
  obtain ⟨m0, b1, b2⟩ := ih (by omega) (by omega) (by omega)
  refine ⟨m0, by omega, ?_⟩
  have := aXQ l signs (n := i + m + 1) (e := Ex.mk (6 + ((tk l signs).K i : Int)) [] [e, (tk l signs).Pd i m]) q2 hb i m (by omega) h2 (r := .inl (((m0 + 1 : Nat) : Int), (tk l signs).Pd 0 m0)) (aEq (d' := ((i : Int), ((i - 1 : Nat) : Int), e)) ?_ b2)
  ·rw [show i + m + 1 - 1 = i + m from by omega]; exact this
  ·show cX none signs l ((i + m + 1 : Nat) : Int) (i : Int) _ = _
   have e1 : (signs.getD i 0 % 18446744073709551616).toNat % 4 = (tk l signs).K i := rfl
   have hp := aQn l signs (i := i) (m := m) (by omega) (by omega) (by omega)
   unfold cX
   rw [Int.toNat_natCast, e1, nI (by omega)]
   have hp2 : gW none ((Ex.mk (6 + ((tk l signs).K i : Int)) [] [e, (tk l signs).Pd i m]).l.getD 1 (Ex.mk 0 [] [])) l signs (i : Int) ((i + m + 1 : Nat) : Int) = some true := hp
   refine ify (by omega) (cC (by constructor <;> omega) (ifn (by omega) (cC (by constructor <;> omega) (cC (fun _ => by show (1 : Int) < 2; decide) (cC (fun _ => by rw [hp2]; rfl) (ifn ?_ (cC (by show (0 : Int) < 2; decide) (cC (by constructor <;> omega) ?_))))))))
   ·rw [hp2]
    rintro ((h | h) | h)
    ·exact h rfl
    ·exact h rfl
    ·exact h rfl
   ·rw [show ((i : Int) - 1) = ((i - 1 : Nat) : Int) from by omega]
    rfl
theorem aVn {n : Nat} (hn : n ≤ 12) (h1 : (n : Int) = min (l.length : Int) 12) (h2 : n ≤ signs.length) : ∀ (j i : Nat), i + j = n →
  aDh (fun d : qd × Int => gJ none l signs d.1 d.2) ((tk l signs).T i, (i : Int)) = some ((tk l signs).T n)
 | 0, i, h => by
  obtain rfl : i = n := by omega
  refine aAL ?_
  show gJ none l signs _ (i : Int) = _
  unfold gJ
  exact ifn (by omega) rfl
 | j + 1, i, h => by
  refine aEq (d' := ((tk l signs).T (i + 1), ((i + 1 : Nat) : Int))) ?_ (aVn hn h1 h2 j (i + 1) (by omega))
  show gJ none l signs ((tk l signs).T i) (i : Int) = _
  have hlen : ∀ k, k ≤ 12 → ((tk l signs).T k).length ≤ 100 := fun k hk => by
   have : ∀ k, (tk l signs).P k ≤ 3 * k := fun k => by
    induction k with
    | zero => exact Nat.le_refl _
    | succ k ih => rw [Tk.aIh]; unfold Tk.Q Tk.S; have := (tk l signs).hB k; split <;> omega
   have := this k
   show (tk l signs).P k ≤ 100
   omega
  have hT := hlen i (by omega)
  have hd := (tk l signs).hD i
  have e0 : (l.getD i 0 % 18446744073709551616).toNat % 10 = (tk l signs).D i := rfl
  have hdig : List.drop ((tk l signs).D i : Int).toNat (List.take (((tk l signs).D i : Int) + 1).toNat (aS ⟨#[48, 49, 50, 51, 52, 53, 54, 55, 56, 57]⟩)) = [48 + (tk l signs).D i] := by
   generalize (tk l signs).D i = d at hd
   obtain rfl | rfl | rfl | rfl | rfl | rfl | rfl | rfl | rfl | rfl : d = 0 ∨ d = 1 ∨ d = 2 ∨ d = 3 ∨ d = 4 ∨ d = 5 ∨ d = 6 ∨ d = 7 ∨ d = 8 ∨ d = 9 := by omega
   all_goals rfl
  have j3 : ∀ s : List Nat, s.length ≤ 1000 → iV none l (i : Int) s = some (.inl (s ++ [48 + (tk l signs).D i], ((i + 1 : Nat) : Int))) := fun s hs => by
   unfold iV
   rw [Int.toNat_natCast, e0, nI (by omega), hdig]
   refine cC (by constructor <;> omega) (cC ⟨by omega, by omega, by show ((tk l signs).D i : Int) + 1 ≤ 10; omega⟩ (cC (by simp only [List.length_singleton]; omega) (cC (by constructor <;> omega) ?_)))
   rfl
  unfold gJ
  refine ify (by omega) (cC (by constructor <;> omega) ?_)
  by_cases h0 : i = 0
  ·subst h0
   refine ifn (by omega) ((j3 _ (by omega)).trans ?_)
   rfl
  ·have hk := (tk l signs).hK i
   have hB := (tk l signs).hB i
   have e1 : (signs.getD i 0 % 18446744073709551616).toNat % 4 = (tk l signs).K i := rfl
   have e2 : (BitVec.ofInt 64 (signs.getD i 0) &&& BitVec.ofInt 64 1).toNat = (tk l signs).B i := rfl
   have hbl : List.take ((tk l signs).B i : Int).toNat (aS ⟨#[32]⟩) = List.replicate ((tk l signs).B i) 32 := by
    generalize (tk l signs).B i = b at hB
    obtain rfl | rfl : b = 0 ∨ b = 1 := by omega
    all_goals rfl
   have hsg : List.drop ((tk l signs).K i : Int).toNat (List.take (((tk l signs).K i : Int) + 1).toNat (aS ⟨#[43, 45, 42, 47]⟩)) = [sgn ((tk l signs).K i)] := by
    generalize (tk l signs).K i = d at hk
    obtain rfl | rfl | rfl | rfl : d = 0 ∨ d = 1 ∨ d = 2 ∨ d = 3 := by omega
    all_goals rfl
   rw [Int.toNat_natCast, e1, e2, nI (by omega), nI (by omega), hbl, hsg]
   have hr : (List.replicate ((tk l signs).B i) 32).length ≤ 1 := by rw [List.length_replicate]; exact hB
   refine ify (by omega) (cC (by constructor <;> omega) (cC (by constructor <;> omega) (cC ⟨by omega, by show ((tk l signs).B i : Int) ≤ 1; omega⟩ (cC (by omega) (cC (by constructor <;> omega) (cC ⟨by omega, by omega, by show ((tk l signs).K i : Int) + 1 ≤ 4; omega⟩ (cC (by rw [List.length_append, List.length_singleton]; omega) ((j3 _ (by rw [List.length_append, List.length_append, List.length_singleton]; omega)).trans ?_))))))))
   rw [Tk.T, Tk.piece, if_neg h0]
   simp [List.append_assoc]
theorem aLs : nW none l signs = some true := by
 unfold nW
 refine aY7 (fun _ => rfl) (fun h => ?_)
 obtain ⟨n, hn⟩ : ∃ n : Nat, (n : Int) = min (l.length : Int) 12 := ⟨min l.length 12, by omega⟩
 have h1 : 1 ≤ n := by omega
 have h2 : n ≤ signs.length := by omega
 have h3 : n ≤ l.length := by omega
 have h4 : n ≤ 12 := by omega
 refine dO (aVn l signs h4 hn h2 n 0 (by omega)) ?_
 obtain ⟨e, a1, a2⟩ := (tk l signs).aZO h1 63
 have hlen : ((tk l signs).T n).length ≤ 100 := by
  have : ∀ k, (tk l signs).P k ≤ 3 * k := fun k => by
   induction k with
   | zero => exact Nat.le_refl _
   | succ k ih => rw [Tk.aIh]; unfold Tk.Q Tk.S; have := (tk l signs).hB k; split <;> omega
  have := this n
  show (tk l signs).P n ≤ 100
  omega
 have hfew := (tk l signs).bAc a1 n (Nat.le_refl _)
 have hf : pM none e = some true := by
  rw [aZK hfew.1 (by omega) (by omega), decide_eq_true ⟨by omega, by omega⟩]
 have hx := aYU (s := (tk l signs).T n) (by omega) a2 ((tk l signs).aEs n) hf
 obtain ⟨m, b1, b2⟩ := aXR l signs a1 h3 h2 (by omega)
 unfold oJ
 rw [hx, ← hn]
 refine cC rfl (ifn (by simp) (cC (by constructor <;> omega) (dO (a := .inl (((m + 1 : Nat) : Int), (tk l signs).Pd 0 m)) ?_ ?_)))
 ·rw [show ((n : Int) - 1) = ((n - 1 : Nat) : Int) from by omega]; exact b2
 ·have hp := aQn l signs (i := 0) (m := m) (by omega) (by omega) (by omega)
  show lL none l signs ((m + 1 : Nat) : Int) ((tk l signs).Pd 0 m) = _
  unfold lL
  rw [show (0 + m + 1 : Nat) = m + 1 from by omega] at hp
  have hp : gW none ((tk l signs).Pd 0 m) l signs 0 ((m + 1 : Nat) : Int) = some true := hp
  rw [hp]
  exact cC (fun _ => rfl) rfl
end
end Nu
end Go.Proofs
