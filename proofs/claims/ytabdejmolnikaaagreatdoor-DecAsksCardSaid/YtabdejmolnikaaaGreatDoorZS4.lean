import Derived.Test.YtabdejmolnikaaaGreatDoorZS3
import Derived.Test.YtabdejmolnikaaaGreatDoorZS2
import Derived.Lib.ItoaNum
set_option linter.unusedVariables false
set_option linter.unusedSimpArgs false
namespace Go.Proofs
open Go.Vc
set_option maxRecDepth 20000
namespace Nu
theorem aFh {b : Bool} {e : Int} (h : b = true) : gV b e = some (.inl ()) := by rw [h]; rfl
theorem aAL {b : Bool} {e : Int} (h : b = false) : gV b e = some (.inr (e, ())) := by rw [h]; rfl
def aRY (p : Int) (l : List Dy) : Unit ⊕ (Int × Unit) := if 1 ≤ p ∧ p ≤ 2000 ∧ l.all nS = true then .inl () else .inr (1, ())
theorem aXt (p : Int) (l : List Dy) (hl : l.length ≤ 9223372036854775807) : rO p l = some (aRY p l) := by
 have key : cE (fun d : Int => jR l d) 0 = some (if l.all nS = true then (.inl () : Unit ⊕ (Int × Unit)) else .inr (1, ())) := by
  have := eL (step := fun d : Int => jR l d) (I := fun i => 0 ≤ i ∧ i ≤ l.length) (fun i => (l.length - i).toNat) (fun i => if (l.drop i.toNat).all nS = true then (.inl () : Unit ⊕ (Int × Unit)) else .inr (1, ())) ?_ 0 ⟨by omega, by omega⟩
  ·have e : l.drop ((0 : Int).toNat) = l := rfl
   rw [e] at this
   exact this
  ·rintro i ⟨i0, i1⟩
   show (∃ d', jR l i = _ ∧ _) ∨ jR l i = _
   unfold jR
   by_cases hi : i < l.length
   ·have hk : i.toNat < l.length := by omega
    have hd : l.drop i.toNat = l.getD i.toNat d0 :: l.drop (i.toNat + 1) := by
     rw [List.drop_eq_getElem_cons hk, List.getD_eq_getElem?_getD, List.getElem?_eq_getElem hk]; rfl
    by_cases hm : nS (l.getD i.toNat d0) = true
    ·left
     refine ⟨i + 1, ?_, ⟨by omega, by omega⟩, by omega, ?_⟩
     ·rw [if_pos hi]
      refine aA (by constructor <;> omega) (aA (by rw [aCR]; rfl) ?_)
      rw [aCR]
      refine aM (aFh hm) ?_
      exact aA (by constructor <;> omega) rfl
     ·rw [hd, List.all_cons, hm, Bool.true_and, show (i + 1).toNat = i.toNat + 1 from by omega]
    ·right
     rw [if_pos hi]
     refine aA (by constructor <;> omega) (aA (by rw [aCR]; rfl) ?_)
     rw [aCR]
     refine aM (aAL ((Bool.not_eq_true _).mp hm)) ?_
     rw [hd, List.all_cons]
     have : nS (l.getD i.toNat d0) = false := (Bool.not_eq_true _).mp hm
     rw [this]
     rfl
   ·right
    rw [if_neg hi, List.drop_eq_nil_of_le (by omega)]
    rfl
 unfold rO aRY
 by_cases h1 : 1 ≤ p
 ·rw [if_pos h1]
  by_cases h2 : p ≤ 2000
  ·refine aM (aFh (by simp; omega)) ?_
   unfold oY
   rw [key]
   by_cases h3 : l.all nS = true
   ·rw [if_pos h3, if_pos ⟨h1, h2, h3⟩]; rfl
   ·rw [if_neg h3, if_neg (fun h => h3 h.2.2)]; rfl
  ·refine aM (aAL (by simp; omega)) ?_
   rw [if_neg (fun h => h2 h.2.1)]
 ·rw [if_neg h1]
  refine aM (aAL rfl) ?_
  rw [if_neg (fun h => h1 h.1)]
def aRZ (neg : Bool) (m : Nat) (e : Int) (rest : Bool) (p : Int) (up : Bool) : Dy ⊕ (Int × Unit) :=
 let n := (bl m : Int) - p
 let m1 := if 0 < n then m / 2 ^ n.toNat else m
 let e1 := if 0 < n then e + n else e
 let r1 := if 0 < n then rest || decide (m % 2 ^ n.toNat ≠ 0) else rest
 let m2 := if r1 = true ∧ (up != neg) = true then m1 + 1 else m1
 match aMJ neg m2 e1 with
 | (d, f, _) => if f = 0 then .inl d else .inr (f, ())
theorem aTg {m n : Nat} (h : m ≠ 0) : tzn m < n ↔ m % 2 ^ n ≠ 0 := by
 obtain ⟨q, hq⟩ := sQ h
 constructor
 ·intro hlt h0
  obtain ⟨k, hk⟩ := Nat.dvd_of_mod_eq_zero h0
  rw [hq, show n = tzn m + (n - tzn m) from by omega, Nat.pow_add, Nat.mul_assoc] at hk
  have h2 := Nat.eq_of_mul_eq_mul_left (Nat.two_pow_pos _) hk
  rw [show n - tzn m = (n - tzn m - 1) + 1 from by omega, Nat.pow_succ, Nat.mul_comm (2 ^ (n - tzn m - 1)) 2, Nat.mul_assoc] at h2
  omega
 ·intro h0
  rcases Nat.lt_or_ge (tzn m) n with hlt | hge
  ·exact hlt
  ·exfalso
   apply h0
   rw [hq, show tzn m = n + (tzn m - n) from by omega, Nat.pow_add, Nat.mul_assoc]
   exact Nat.mul_mod_right _ _
theorem aXu (x : Nat) : (lb (x + 1)).length ≤ (lb x).length + 1 :=
 kY.2 (Nat.lt_of_le_of_lt (kY.1 (Nat.le_refl (lb x).length)) (Nat.pow_lt_pow_right (by decide) (by omega)))
theorem aYe {x k : Nat} (a : List Nat) (la : Lm a) (h : x ≤ nv a) (hk : a.length ≤ k) : (lb x).length ≤ k :=
 Nat.le_trans (kY.2 (Nat.lt_of_le_of_lt h (iB la))) hk
theorem aYX (neg : Bool) (m : List Nat) (e : Int) (rest : Bool) (p : Int) (up : Bool) (lm : Lm m) (nm : Nrm m) (sm : m.length ≤ 549755813888) (hp : 1 ≤ p ∧ p ≤ 2000) (he : -1000000000000 ≤ e ∧ e ≤ 1000000000000) :
  rP neg m e rest p up = some (aRZ neg (nv m) e rest p up) := by
 have hb : aZ m = (bl (nv m) : Int) := rfl
 have hbl : bl (nv m) ≤ 64 * m.length := by
  refine qI ?_
  rw [← oF]; exact iB lm
 have j2 : ∀ (x : Nat) (e' : Int), (lb x).length ≤ 1099511627776 → mJ neg e' (lb x) = some (match aMJ neg x e' with | (d, f, _) => if f = 0 then .inl d else .inr (f, ())) := by
  intro x e' hx
  unfold mJ
  rw [aRX neg (lb x) e' (aBC x) (wB x) hx, fM]
  refine aA rfl ?_
  simp only [Option.getD_some]
  rcases aMJ neg x e' with ⟨d, f, u⟩
  by_cases hf : f = 0
  ·refine aM (aFh (by simpa using hf)) ?_
   simp only; rw [if_pos hf]
  ·refine aM (aAL (by simpa using hf)) ?_
   simp only; rw [if_neg hf]
 have j1 : ∀ (x : Nat) (e' : Int) (r : Bool), (lb x).length ≤ 549755813888 → mK up neg (lb x) e' r = some (match aMJ neg (if r = true ∧ (up != neg) = true then x + 1 else x) e' with | (d, f, _) => if f = 0 then .inl d else .inr (f, ())) := by
  intro x e' r hx
  unfold mK
  by_cases h : r = true ∧ (up != neg) = true
  ·rw [if_pos h, if_pos h]
   refine aA ⟨by show (lb x).length ≤ _; omega, by show (1 : Nat) ≤ _; decide⟩ ?_
   have : fR (lb x) [1] = lb (x + 1) := by
    unfold fR; rw [fM]; rfl
   rw [this]
   refine j2 _ _ ?_
   have := aXu x
   omega
  ·rw [if_neg h, if_neg h]
   exact j2 _ _ (by omega)
 unfold rP aRZ
 rw [hb]
 refine aA ⟨nm, by show m.length ≤ _; omega⟩ (aA (by constructor <;> omega) ?_)
 by_cases hn : 0 < (bl (nv m) : Int) - p
 ·have h0 : nv m ≠ 0 := by
   intro h; rw [h] at hn
   have : bl 0 = 0 := rfl
   omega
  have hz : bX m = (tzn (nv m) : Int) := by unfold bX; rw [if_neg h0]
  have hd : decide ((tzn (nv m) : Int) < (bl (nv m) : Int) - p) = decide (nv m % 2 ^ ((bl (nv m) : Int) - p).toNat ≠ 0) := by
   have := aTg (n := ((bl (nv m) : Int) - p).toNat) h0
   refine decide_eq_decide.2 (Iff.trans ?_ this)
   omega
  simp only [if_pos hn]
  rw [hz, hd]
  refine aA (fun _ => by show m.length ≤ _; omega) (aA ⟨by show m.length ≤ _; omega, by omega⟩ (aA (by constructor <;> omega) ?_))
  unfold cM
  refine j1 _ _ _ ?_
  exact aYe m lm (Nat.div_le_self _ _) sm
 ·simp only [if_neg hn]
  have := j1 (nv m) e rest (by rw [aPK lm nm]; exact sm)
  rw [aPK lm nm] at this
  exact this
def aLg (a b : Dy) (p : Int) (up : Bool) : Dy ⊕ (Int × Unit) :=
 match aRY p [a, b] with
 | .inr e => .inr e
 | .inl _ => if b.2.1.length = 0 then .inr (4, ()) else
  let k := max 0 (p + 1 + (bl (nv b.2.1) : Int) - (bl (nv a.2.1) : Int))
  aRZ (a.1 != b.1) (nv a.2.1 * 2 ^ k.toNat / nv b.2.1) (a.2.2.1 - b.2.2.1 - k) (decide (nv a.2.1 * 2 ^ k.toNat % nv b.2.1 ≠ 0)) p up
theorem aAM {d : Dy} (h : nS d = true) : d.2.1.length ≤ 64 ∧ Nrm d.2.1 ∧ -1048576 ≤ d.2.2.1 ∧ d.2.2.1 ≤ 1048576 := by
 unfold nS at h
 split at h
 ·rename_i h0
  have : d.2.1 = [] := List.eq_nil_of_length_eq_zero h0
  simp at h
  rw [this, h.2]
  exact ⟨by decide, aNY, by decide, by decide⟩
 ·simp at h
  exact ⟨h.1.1.1.1, h.1.1.1.2, h.1.2, h.2⟩
theorem aXv (a b : Dy) (p : Int) (up : Bool) (la : Lm a.2.1) (lb' : Lm b.2.1) : eJ a b p up = some (told d0 (aLg a b p up)) := by
 have h1 : mL p a b up = some (aLg a b p up) := by
  unfold mL aLg
  rw [aXt p [a, b] (by simp)]
  simp only [Option.bind_some]
  cases hm : aRY p [a, b] with
  | inr e => rfl
  | inl u =>
   unfold aRY at hm
   split at hm
   ·rename_i hh
    obtain ⟨p1, p2, p3⟩ := hh
    simp only [List.all_cons, List.all_nil, Bool.and_true, Bool.and_eq_true] at p3
    obtain ⟨a1, a2, a3, a4⟩ := aAM p3.1
    obtain ⟨b1, b2, b3, b4⟩ := aAM p3.2
    simp only
    by_cases hb : b.2.1.length = 0
    ·rw [if_pos hb]
     refine aM (aAL (decide_eq_false (by omega))) rfl
    ·rw [if_neg hb]
     have hb0 : nv b.2.1 ≠ 0 := by have := aC0 b2 (fun e => hb (by rw [e]; rfl)); omega
     have hba : bl (nv a.2.1) ≤ 64 * a.2.1.length := qI (by rw [← oF]; exact iB la)
     have hbb : bl (nv b.2.1) ≤ 64 * b.2.1.length := qI (by rw [← oF]; exact iB lb')
     have e1 : aZ a.2.1 = (bl (nv a.2.1) : Int) := rfl
     have e2 : aZ b.2.1 = (bl (nv b.2.1) : Int) := rfl
     rw [e1, e2]
     have hk : ∃ k : Nat, max (0 : Int) (p + 1 + (bl (nv b.2.1) : Int) - (bl (nv a.2.1) : Int)) = (k : Int) ∧ k ≤ 6200 := ⟨(max (0 : Int) (p + 1 + (bl (nv b.2.1) : Int) - (bl (nv a.2.1) : Int))).toNat, by omega, by omega⟩
     obtain ⟨k, hk, hk2⟩ := hk
     rw [hk]
     have hA : nv a.2.1 * 2 ^ k < 18446744073709551616 ^ 200 := by
      have h1 := iB la
      rw [oF] at h1
      have h4 := Nat.mul_lt_mul_of_pos_right h1 (Nat.two_pow_pos k)
      rw [← Nat.pow_add] at h4
      exact aQE _ h4 (by omega)
     have hL : bH a.2.1 (k : Int) = lb (nv a.2.1 * 2 ^ k) := by unfold bH; rw [Int.toNat_natCast]
     rw [hL]
     have hLl : (lb (nv a.2.1 * 2 ^ k)).length ≤ 200 := kY.2 hA
     refine aM (aFh (decide_eq_true (by omega))) ?_
     refine aA (by constructor <;> omega) (aA ⟨b2, by show b.2.1.length ≤ _; omega⟩ (aA (by constructor <;> omega) (aA ⟨a2, by show a.2.1.length ≤ _; omega⟩ (aA (by constructor <;> omega) (aA ⟨by show a.2.1.length ≤ _; omega, by omega, by omega⟩ (aA ⟨wB _, b2, hb0, by omega⟩ (aA (by constructor <;> omega) (aA (by constructor <;> omega) ?_))))))))
     have hq : (bG (lb (nv a.2.1 * 2 ^ k)) b.2.1).1 = lb (nv a.2.1 * 2 ^ k / nv b.2.1) := by unfold bG; rw [fM]
     have hr : decide ((0 : Int) < (((bG (lb (nv a.2.1 * 2 ^ k)) b.2.1).2.1.length : Nat) : Int)) = decide (nv a.2.1 * 2 ^ k % nv b.2.1 ≠ 0) := by
      refine decide_eq_decide.2 ?_
      unfold bG
      rw [fM]
      simp only
      constructor
      ·intro h e; rw [yD.2 e] at h; simp at h
      ·intro h
       have := List.length_pos_iff.2 (fun e => h (yD.1 e))
       omega
     rw [hq, hr]
     rw [aYX _ _ _ _ p up (aBC _) (wB _) (by have := kY.2 (Nat.lt_of_le_of_lt (Nat.div_le_self (nv a.2.1 * 2 ^ k) (nv b.2.1)) hA); omega) ⟨p1, p2⟩ (by constructor <;> omega), fM]
     simp only [Option.bind_some, Int.toNat_natCast]
     cases aRZ (a.1 != b.1) (nv a.2.1 * 2 ^ k / nv b.2.1) (a.2.2.1 - b.2.2.1 - (k : Int)) (decide (nv a.2.1 * 2 ^ k % nv b.2.1 ≠ 0)) p up <;> rfl
   ·cases hm
 have h2 : cI p a b up = some (told d0 (aLg a b p up)) := by
  unfold cI
  rw [h1]
  simp only [Option.bind_some]
  cases aLg a b p up <;> rfl
 unfold eJ
 rw [h2]
 exact aA rfl rfl
end Nu
end Go.Proofs
namespace Go.Proofs
open Go.Vc
set_option maxRecDepth 20000
namespace Nu
def rq (A B k : Nat) : Nat := A * 2 ^ k / B
def rn (A B p k : Nat) : Nat := bl (rq A B k) - p
def rM (A B p k : Nat) : Nat := rq A B k / 2 ^ rn A B p k
def rE (A B p k : Nat) : Int := (rn A B p k : Int) - (k : Int)
def rS (A B p k : Nat) : Bool := decide (A * 2 ^ k % (B * 2 ^ rn A B p k) ≠ 0)
theorem aTh (A B k d : Nat) : rq A B (k + d) / 2 ^ d = rq A B k := by
 unfold rq
 rw [Nat.div_div_eq_div_mul, Nat.pow_add, ← Nat.mul_assoc, Nat.mul_div_mul_right _ _ (Nat.two_pow_pos d)]
theorem aYY {x d : Nat} (h : x / 2 ^ d ≠ 0) : bl x = bl (x / 2 ^ d) + d := by
 have e := Nat.div_add_mod x (2 ^ d)
 have m := Nat.mod_lt x (Nat.two_pow_pos d)
 have := aN2 (x := x / 2 ^ d) (m := x % 2 ^ d) (k := d) h m
 rw [Nat.add_comm] at e
 rw [e] at this
 omega
theorem aV1 {A B p k d : Nat} (hp : 1 ≤ p) (h : 2 ^ p ≤ rq A B k) : rM A B p (k + d) = rM A B p k ∧ rE A B p (k + d) = rE A B p k ∧ rS A B p (k + d) = rS A B p k := by
 have hq := aTh A B k d
 have hpos := Nat.two_pow_pos p
 have hb := aYY (x := rq A B (k + d)) (d := d) (by rw [hq]; omega)
 rw [hq] at hb
 have hge : p + 1 ≤ bl (rq A B k) := by
  rcases Nat.lt_or_ge (bl (rq A B k)) (p + 1) with hlt | hge
  ·have h1 := aDh (rq A B k)
   have h2 : 2 ^ bl (rq A B k) ≤ 2 ^ p := Nat.pow_le_pow_right (by decide) (by omega)
   omega
  ·exact hge
 have hn : rn A B p (k + d) = rn A B p k + d := by unfold rn; omega
 refine ⟨?_, ?_, ?_⟩
 ·unfold rM
  rw [hn, Nat.add_comm (rn A B p k) d, Nat.pow_add, ← Nat.div_div_eq_div_mul, hq]
 ·unfold rE; rw [hn]; omega
 ·unfold rS
  rw [hn, Nat.pow_add, Nat.pow_add, ← Nat.mul_assoc, ← Nat.mul_assoc, Nat.mul_mod_mul_right]
  refine decide_eq_decide.2 ?_
  have := Nat.two_pow_pos d
  constructor
  ·intro h1 h2; apply h1; rw [h2, Nat.zero_mul]
  ·intro h1 h2
   rcases Nat.mul_eq_zero.1 h2 with h3 | h3
   ·exact h1 h3
   ·omega
theorem aLh {A B p k : Nat} (hA : A ≠ 0) (hB : B ≠ 0) (h : p + bl B ≤ bl A - 1 + k) : 2 ^ p ≤ rq A B k := by
 unfold rq
 refine (Nat.le_div_iff_mul_le (by omega)).2 ?_
 have h1 := aNZ hA
 have h2 := aDh B
 calc 2 ^ p * B ≤ 2 ^ p * 2 ^ bl B := Nat.mul_le_mul_left _ (Nat.le_of_lt h2)
  _ = 2 ^ (p + bl B) := (Nat.pow_add _ _ _).symm
  _ ≤ 2 ^ (bl A - 1 + k) := Nat.pow_le_pow_right (by decide) h
  _ = 2 ^ (bl A - 1) * 2 ^ k := Nat.pow_add _ _ _
  _ ≤ A * 2 ^ k := Nat.mul_le_mul_right _ h1
theorem aV2 {A B p k k' : Nat} (hp : 1 ≤ p) (h : 2 ^ p ≤ rq A B k) (h' : 2 ^ p ≤ rq A B k') : rM A B p k = rM A B p k' ∧ rE A B p k = rE A B p k' ∧ rS A B p k = rS A B p k' := by
 obtain ⟨a1, a2, a3⟩ := aV1 (d := k') hp h
 obtain ⟨b1, b2, b3⟩ := aV1 (d := k) hp h'
 rw [Nat.add_comm k' k] at b1 b2 b3
 exact ⟨a1.symm.trans b1, a2.symm.trans b2, a3.symm.trans b3⟩
def rm2 (A B p k : Nat) (up : Bool) : Nat := if rS A B p k = true ∧ up = true then rM A B p k + 1 else rM A B p k
theorem aZA {A B p k : Nat} {e : Int} {up : Bool} (hp : 1 ≤ p) (h : 2 ^ p ≤ rq A B k) :
  aRZ false (rq A B k) (e - (k : Int)) (decide (A * 2 ^ k % B ≠ 0)) (p : Int) up = match aMJ false (rm2 A B p k up) (e + rE A B p k) with | (d, f, _) => if f = 0 then .inl d else .inr (f, ()) := by
 have hge : p + 1 ≤ bl (rq A B k) := by
  rcases Nat.lt_or_ge (bl (rq A B k)) (p + 1) with hlt | hge
  ·have h1 := aDh (rq A B k)
   have h2 : 2 ^ bl (rq A B k) ≤ 2 ^ p := Nat.pow_le_pow_right (by decide) (by omega)
   omega
  ·exact hge
 have hn : ((bl (rq A B k) : Int) - (p : Int)).toNat = rn A B p k := by unfold rn; omega
 have hS : (decide (A * 2 ^ k % B ≠ 0) || decide (rq A B k % 2 ^ rn A B p k ≠ 0)) = rS A B p k := by
  unfold rS
  rw [Nat.mod_mul, ← Bool.decide_or]
  refine decide_eq_decide.2 ?_
  unfold rq
  have hB : 0 < B := by
   rcases Nat.eq_zero_or_pos B with h0 | h0
   ·unfold rq at h; rw [h0, Nat.div_zero] at h; have := Nat.two_pow_pos p; omega
   ·exact h0
  constructor
  ·rintro (h1 | h1) h2
   ·exact h1 (by omega)
   ·apply h1
    have := Nat.mul_eq_zero.1 (show B * (A * 2 ^ k / B % 2 ^ rn A B p k) = 0 by omega)
    omega
  ·intro h1
   by_cases h2 : A * 2 ^ k % B = 0
   ·right; intro h3; apply h1; rw [h2, h3]; rfl
   ·exact .inl h2
 have hp0 : 0 < (bl (rq A B k) : Int) - (p : Int) := by omega
 unfold aRZ
 simp only [hn, hp0, if_true, hS]
 have e1 : e - (k : Int) + ((bl (rq A B k) : Int) - (p : Int)) = e + rE A B p k := by unfold rE rn; omega
 rw [e1]
 have e2 : (up != false) = up := by cases up <;> rfl
 simp only [e2]
 rfl
end Nu
end Go.Proofs
namespace Go.Proofs
open Go.Vc
set_option maxRecDepth 20000
namespace Nu
def gD (M : Nat) (e : Int) : Dy := if M = 0 then d0 else (false, lb (M / 2 ^ tzn M), e + (tzn M : Int), ())
theorem aGa {M K : Nat} (h0 : M ≠ 0) (h : M < 2 ^ K) : tzn M < K := by
 obtain ⟨q, hq⟩ := sQ h0
 refine (Nat.pow_lt_pow_iff_right (show 1 < 2 by decide)).1 (Nat.lt_of_le_of_lt ?_ h)
 rw [hq, aAb rfl]
 exact Nat.le_mul_of_pos_right _ (by omega)
theorem aOP {M K : Nat} {e : Int} (hM : M < 2 ^ K) (hK : K ≤ 4096) (he : -1000000 ≤ e ∧ e ≤ 1000000) : aMJ false M e = (gD M e, 0, ()) := by
 unfold aMJ aRW gD
 by_cases h0 : M = 0
 ·rw [if_pos h0, if_pos h0]; rfl
 ·have hz := aGa h0 hM
  have hl : (lb (M / 2 ^ tzn M)).length ≤ 64 := by
   exact kY.2 (aQE 64 (Nat.lt_of_le_of_lt (Nat.div_le_self _ _) hM) (by omega))
  rw [if_neg h0, if_neg h0, if_neg (by omega), if_neg (by omega), if_neg (by omega)]
  rfl
theorem aBt {M : Nat} (h0 : M ≠ 0) : M / 2 ^ tzn M * 2 ^ tzn M = M ∧ M / 2 ^ tzn M % 2 = 1 := by
 obtain ⟨q, hq⟩ := sQ h0
 have h1 : M / 2 ^ tzn M = 2 * q + 1 := by
  have := Nat.mul_div_cancel_left (2 * q + 1) (Nat.two_pow_pos (tzn M))
  rw [← hq] at this
  exact this
 rw [h1]
 exact ⟨by rw [Nat.mul_comm]; exact hq.symm, by omega⟩
theorem aQF {M K : Nat} {e : Int} (hM : M < 2 ^ K) (hK : K ≤ 4096) (he : -1000000 ≤ e ∧ e ≤ 1000000) : nS (gD M e) = true := by
 unfold gD
 by_cases h0 : M = 0
 ·rw [if_pos h0]; rfl
 ·have hz := aGa h0 hM
  obtain ⟨p1, p2⟩ := aBt h0
  have hne : M / 2 ^ tzn M ≠ 0 := by omega
  have hl : (lb (M / 2 ^ tzn M)).length ≤ 64 := by
   exact kY.2 (aQE 64 (Nat.lt_of_le_of_lt (Nat.div_le_self _ _) hM) (by omega))
  have hlp : (lb (M / 2 ^ tzn M)).length ≠ 0 := fun h => hne (yD.1 (List.eq_nil_of_length_eq_zero h))
  have hg : (lb (M / 2 ^ tzn M)).getD 0 0 % 2 = 1 := by
   rw [nD (aBC _), fM, Nat.pow_zero, Nat.div_one]
   omega
  rw [if_neg h0]
  unfold nS
  simp only
  rw [if_neg hlp]
  simp only [Bool.and_eq_true, decide_eq_true_iff]
  exact ⟨⟨⟨⟨hl, wB _⟩, hg⟩, by omega⟩, by omega⟩
theorem aZB {A B p k : Nat} : rM A B p k < 2 ^ p := by
 unfold rM rn
 refine (Nat.div_lt_iff_lt_mul (Nat.two_pow_pos _)).2 ?_
 rw [← Nat.pow_add]
 exact Nat.lt_of_lt_of_le (aDh _) (Nat.pow_le_pow_right (by decide) (by omega))
theorem aR0 {A B p k : Nat} {up : Bool} : rm2 A B p k up < 2 ^ (p + 1) := by
 have := aZB (A := A) (B := B) (p := p) (k := k)
 have h2 : 2 ^ (p + 1) = 2 ^ p * 2 := Nat.pow_succ ..
 have h3 := Nat.two_pow_pos p
 unfold rm2
 split <;> omega
theorem aR1 {x k : Nat} (h : x ≠ 0) : bl (x * 2 ^ k) = bl x + k := by
 have := aN2 (x := x) (m := 0) (k := k) h (Nat.two_pow_pos k)
 rw [Nat.zero_add, Nat.mul_comm] at this
 omega
theorem aXw {x y : Nat} (h : x ≤ y) : bl x ≤ bl y := qI (Nat.lt_of_le_of_lt h (aDh y))
theorem aQG {A B p k : Nat} (hA : A ≠ 0) : -(k : Int) ≤ rE A B p k ∧ rE A B p k ≤ bl A := by
 have h1 : bl (rq A B k) ≤ bl A + k := by
  rw [← aR1 hA]
  exact aXw (Nat.div_le_self _ _)
 unfold rE rn
 constructor <;> omega
theorem aZC {A B A' B' p k za zb : Nat} (hp : 1 ≤ p) (hA : A = A' * 2 ^ za) (hB : B = B' * 2 ^ zb) (h : 2 ^ p ≤ rq A B k) :
  2 ^ p ≤ rq A' B' (za + k) ∧ rM A' B' p (za + k) = rM A B p k ∧ rE A' B' p (za + k) + za - zb = rE A B p k ∧ rS A' B' p (za + k) = rS A B p k := by
 obtain ⟨a1, a2, a3⟩ := aV1 (d := zb) hp h
 have hz := Nat.two_pow_pos zb
 have e1 : rq A B (k + zb) = rq A' B' (za + k) := by
  unfold rq
  rw [hA, hB, Nat.mul_assoc, ← Nat.pow_add, ← Nat.add_assoc, Nat.pow_add 2 (za + k), ← Nat.mul_assoc, Nat.mul_div_mul_right _ _ hz]
 have e2 : rn A B p (k + zb) = rn A' B' p (za + k) := by unfold rn; rw [e1]
 refine ⟨?_, ?_, ?_, ?_⟩
 ·rw [← e1]
  have h1 := aTh A B k zb
  have h2 := Nat.div_le_self (rq A B (k + zb)) (2 ^ zb)
  omega
 ·rw [← a1]; unfold rM; rw [e1, e2]
 ·rw [← a2]; unfold rE; rw [e2]; omega
 ·rw [← a3]; unfold rS
  rw [e2, hA, hB, Nat.mul_assoc A', ← Nat.pow_add, ← Nat.add_assoc, Nat.pow_add 2 (za + k), ← Nat.mul_assoc, Nat.mul_right_comm B', Nat.mul_mod_mul_right]
  refine decide_eq_decide.2 ?_
  constructor
  ·intro h1 h2
   rcases Nat.mul_eq_zero.1 h2 with h3 | h3
   ·exact h1 h3
   ·omega
  ·intro h1 h2; apply h1; rw [h2, Nat.zero_mul]
end Nu
end Go.Proofs
namespace Go.Proofs
open Go.Vc
set_option maxRecDepth 20000
namespace Nu
def mM (c : Nat) : Bool := decide (48 ≤ c ∧ c ≤ 57)
def aV (s : List Nat) (i : Nat) : Nat := ((s.drop i).takeWhile mM).length
theorem aV3 {p : Nat → Bool} : ∀ (l : List Nat) (n : Nat), n ≤ (l.takeWhile p).length → (n < (l.takeWhile p).length ↔ n < l.length ∧ p (l.getD n 0) = true)
 | [], n, h => by simp
 | x :: r, n, h => by
  by_cases hp : p x = true
  ·rw [List.takeWhile_cons_of_pos hp] at h ⊢
   cases n with
   | zero => simp [hp]
   | succ n =>
    have := aV3 (p := p) r n (by simpa using h)
    simpa using this
  ·rw [List.takeWhile_cons_of_neg hp] at h ⊢
   have : n = 0 := by simpa using h
   subst this
   simp [hp]
theorem oO (s : List Nat) (i : Nat) : aV s i ≤ s.length - i := by
 have := (List.takeWhile_prefix (p := mM) (l := s.drop i)).length_le
 rw [List.length_drop] at this
 exact this
theorem aC3 (s : List Nat) (i : Nat) (hs : s.length ≤ 4611686018427387904) (hi : i ≤ 4611686018427387904) : aE s (i : Int) = some (aV s i : Int) := by
 have hd := oO s i
 unfold aE
 refine aM (eL (step := fun d : Int => iM (i : Int) s d) (I := fun n => 0 ≤ n ∧ n ≤ aV s i) (fun n => ((aV s i : Int) - n).toNat) (fun _ => (aV s i : Int)) ?_ 0 ⟨by omega, by omega⟩) rfl
 rintro n ⟨n0, n1⟩
 obtain ⟨k, rfl⟩ := Int.eq_ofNat_of_zero_le n0
 show (∃ d', iM (i : Int) s k = _ ∧ _) ∨ iM (i : Int) s k = _
 have e : ((i : Int) + (k : Int)).toNat = i + k := by omega
 have hx : s.getD (i + k) 0 = (s.drop i).getD k 0 := by simp [List.getD_eq_getElem?_getD, List.getElem?_drop]
 have ht := aV3 (p := mM) (s.drop i) k (by show k ≤ aV s i; omega)
 have ht : k < aV s i ↔ i + k < s.length ∧ 48 ≤ s.getD (i + k) 0 ∧ s.getD (i + k) 0 ≤ 57 := by
  rw [hx]
  refine ht.trans ?_
  rw [List.length_drop, mM, decide_eq_true_iff]
  constructor
  ·rintro ⟨h1, h2⟩; exact ⟨by omega, h2⟩
  ·rintro ⟨h1, h2⟩; exact ⟨by omega, h2⟩
 unfold iM
 rw [e]
 by_cases hk : k < aV s i
 ·left
  obtain ⟨h1, h2, h3⟩ := ht.1 hk
  refine ⟨(k : Int) + 1, ?_, ⟨by omega, by omega⟩, by omega, rfl⟩
  refine aA (by constructor <;> omega) (aA (fun _ => by constructor <;> omega) (aA (fun _ => by constructor <;> omega) (aA (fun _ => by constructor <;> omega) (aA (fun _ => by constructor <;> omega) ?_))))
  rw [if_pos ⟨⟨by omega, h2⟩, h3⟩]
  exact aA (by constructor <;> omega) rfl
 ·right
  refine aA (by constructor <;> omega) (aA (fun _ => by constructor <;> omega) (aA (fun _ => by constructor <;> omega) (aA (fun _ => by constructor <;> omega) (aA (fun _ => by constructor <;> omega) ?_))))
  rw [if_neg (fun h => hk (ht.2 ⟨by omega, h.1.2, h.2⟩)), show (k : Int) = (aV s i : Int) from by omega]
theorem aR2 {b i : Nat} (h : b < 18446744073709551616) : (lb (b ^ i)).length ≤ i + 1 :=
 kY.2 (Nat.lt_of_le_of_lt (Nat.pow_le_pow_left (Nat.le_of_lt h) i) (Nat.pow_lt_pow_right (by decide) (by omega)))
theorem aCS (b n : Nat) (hb : b < 18446744073709551616) (hn : n ≤ 100000) : bE b (n : Int) = some (lb (b ^ n)) := by
 unfold bE
 refine aM (eL (step := fun d : (List Nat) × Int => jT (n : Int) b d.1 d.2) (I := fun d => 0 ≤ d.2 ∧ d.2 ≤ n ∧ d.1 = lb (b ^ d.2.toNat)) (fun d => ((n : Int) - d.2).toNat) (fun _ => lb (b ^ n)) ?_ ([1], 0) ⟨by simp, by simp, ?_⟩) rfl
 ·rintro ⟨m, i⟩ ⟨i0, i1, i2⟩
  have i2 : m = lb (b ^ i.toNat) := i2
  have i0 : 0 ≤ i := i0
  have i1 : i ≤ n := i1
  show (∃ d', jT (n : Int) b m i = _ ∧ _) ∨ jT (n : Int) b m i = _
  unfold jT
  have hl := aR2 (i := i.toNat) hb
  by_cases hi : i < n
  ·left
   have ht : bD m [b] = lb (b ^ (i + 1).toNat) := by
    unfold bD
    rw [i2, fM, show (i + 1).toNat = i.toNat + 1 from by omega, Nat.pow_succ]
    rfl
   refine ⟨(lb (b ^ (i + 1).toNat), i + 1), ?_, ⟨by simp only; omega, by simp only; omega, rfl⟩, by simp only; omega, rfl⟩
   rw [if_pos hi]
   refine aA ⟨by show m.length ≤ _; rw [i2]; omega, by show (1 : Nat) ≤ _; decide⟩ (aA (by constructor <;> omega) ?_)
   rw [ht]
  ·right
   rw [if_neg hi, i2, show i.toNat = n from by omega]
 ·show [1] = lb (b ^ 0)
  rw [Nat.pow_zero, aCj (by decide)]
  rw [show 1 / 18446744073709551616 = 0 from by decide, fP]
theorem aXx {a b : Nat} (ha : a < 256) (hb : b ≤ a) : gQ .u8 a b = a - b := by
 have hm : fA .u8 = 256 := by decide +kernel
 rw [aD4, hm, show a + (256 - b) = (a - b) + 256 from by omega, Nat.add_mod_right, Nat.mod_eq_of_lt (by omega)]
def cU (s : List Nat) : Nat := s.foldl (fun m c => m * 10 + (c - 48)) 0
theorem aGb (s : List Nat) (c : Nat) : cU (s ++ [c]) = cU s * 10 + (c - 48) := by simp [cU]
theorem aNl : ∀ (s : List Nat) (m : Nat), (∀ c ∈ s, mM c = true) → s.foldl (fun m c => m * 10 + (c - 48)) m < (m + 1) * 10 ^ s.length
 | [], m, _ => by simp
 | x :: r, m, h => by
  have hx := h x (by simp)
  simp only [mM, decide_eq_true_iff] at hx
  have ih := aNl r (m * 10 + (x - 48)) (fun c hc => h c (by simp [hc]))
  rw [List.foldl_cons, List.length_cons, Nat.pow_succ, Nat.mul_comm (10 ^ r.length) 10, ← Nat.mul_assoc]
  exact Nat.lt_of_lt_of_le ih (Nat.mul_le_mul_right _ (by omega))
theorem vA {s : List Nat} (h : ∀ c ∈ s, mM c = true) : cU s < 10 ^ s.length := by
 have := aNl s 0 h
 rw [Nat.zero_add, Nat.one_mul] at this
 exact this
theorem aNm (s : List Nat) (hd : ∀ c ∈ s, mM c = true) (hs : s.length ≤ 100000) : dG s = some (lb (cU s)) := by
 unfold dG
 refine aM (eL (step := fun d : (List Nat) × Int => iN s d.1 d.2) (I := fun d => 0 ≤ d.2 ∧ d.2 ≤ s.length ∧ d.1 = lb (cU (s.take d.2.toNat))) (fun d => ((s.length : Int) - d.2).toNat) (fun _ => lb (cU s)) ?_ ([], 0) ⟨by simp, by simp, ?_⟩) rfl
 ·rintro ⟨m, i⟩ ⟨i0, i1, i2⟩
  have i2 : m = lb (cU (s.take i.toNat)) := i2
  have i0 : 0 ≤ i := i0
  have i1 : i ≤ s.length := i1
  show (∃ d', iN s m i = _ ∧ _) ∨ iN s m i = _
  unfold iN
  have hml : m.length ≤ 100001 := by
   rw [i2]
   have h1 := vA (s := s.take i.toNat) (fun c hc => hd c (List.mem_of_mem_take hc))
   have h2 : (s.take i.toNat).length ≤ 100000 := by rw [List.length_take]; omega
   have h3 := aR2 (b := 10) (i := (s.take i.toNat).length) (by decide)
   have h4 := aYe (x := cU (s.take i.toNat)) (lb (10 ^ (s.take i.toNat).length)) (aBC _) (by rw [fM]; omega) h3
   omega
  by_cases hi : i < s.length
  ·left
   have hk : i.toNat < s.length := by omega
   have hg : s.getD i.toNat 0 ∈ s := by rw [List.getD_eq_getElem?_getD, List.getElem?_eq_getElem hk]; exact List.getElem_mem hk
   have hc := hd _ hg
   simp only [mM, decide_eq_true_iff] at hc
   have hsub : gQ .u8 (s.getD i.toNat 0) 48 = s.getD i.toNat 0 - 48 := aXx (by omega) hc.1
   have hN : uC [s.getD i.toNat 0 - 48] = lb (s.getD i.toNat 0 - 48) := by
    show lb (nv [s.getD i.toNat 0 - 48]) = _
    simp [nv]
   have ht : fR (bD m [10]) (lb (s.getD i.toNat 0 - 48)) = lb (cU (s.take (i + 1).toNat)) := by
    unfold fR bD
    rw [i2, fM, fM, fM, show (i + 1).toNat = i.toNat + 1 from by omega, take_succ hk, aGb]
    rfl
   have hT : (bD m [10]).length ≤ 100002 := by
    unfold bD
    refine Nat.le_trans (kY (k := m.length + 1).2 ?_) (by omega)
    rw [i2, fM, Nat.pow_succ, ← i2]
    have h1 := iB (a := m) (by rw [i2]; exact aBC _)
    rw [i2, fM, ← i2] at h1
    exact Nat.mul_lt_mul'' h1 (by decide)
   refine ⟨(lb (cU (s.take (i + 1).toNat)), i + 1), ?_, ⟨by simp only; omega, by simp only; omega, rfl⟩, by simp only; omega, rfl⟩
   rw [if_pos hi, hsub, hN, ht]
   refine aA (by constructor <;> omega) (aA ⟨by show m.length ≤ _; omega, by show (1 : Nat) ≤ _; decide⟩ (aA (by show (1 : Nat) ≤ _; decide) (aA ⟨by show (bD m [10]).length ≤ _; omega, ?_⟩ (aA (by constructor <;> omega) rfl))))
   show (lb (s.getD i.toNat 0 - 48)).length ≤ _
   have := kY (n := s.getD i.toNat 0 - 48) (k := 1).2 (by omega)
   omega
  ·right
   rw [if_neg hi, i2, List.take_of_length_le (by omega)]
 ·show [] = lb (cU [])
  rw [show cU [] = 0 from rfl, fP]
end Nu
end Go.Proofs
namespace Go.Proofs
open Go.Vc
set_option maxRecDepth 20000
namespace Nu
theorem aV4 {k : Nat} (h : k ≤ 18) : 10 ^ k ≤ 1000000000000000000 := Nat.pow_le_pow_right (n := 10) (by decide) h
theorem aXy (s : List Nat) (hd : ∀ c ∈ s, mM c = true) (h0 : 0 < s.length) (h1 : s.length ≤ 18) : dI s = some ((cU s : Int), (), ()) := by
 have hget : ∀ k, k < s.length → 48 ≤ s.getD k 0 ∧ s.getD k 0 ≤ 57 := fun k hk => by
  have hg : s.getD k 0 ∈ s := by rw [List.getD_eq_getElem?_getD, List.getElem?_eq_getElem hk]; exact List.getElem_mem hk
  have := hd _ hg
  simpa only [mM, decide_eq_true_iff] using this
 have hlt : ∀ k, cU (s.take k) < 1000000000000000000 ∨ k > s.length := fun k => by
  rcases Nat.lt_or_ge s.length k with h | h
  ·exact .inr h
  ·left
   have a := vA (s := s.take k) (fun c hc => hd c (List.mem_of_mem_take hc))
   have b := aV4 (k := (s.take k).length) (by rw [List.length_take]; omega)
   omega
 have key : fC s s = some ((cU s : Int), (), ()) := by
  unfold fC
  refine aM (eL (step := fun d : Int × Int => eP s d.1 d.2) (I := fun d => 0 ≤ d.2 ∧ d.2 ≤ s.length ∧ d.1 = (cU (s.take d.2.toNat) : Int)) (fun d => ((s.length : Int) - d.2).toNat) (fun _ => .inl (cU s : Int)) ?_ (0, 0) ⟨by simp, by simp, by simp [cU]⟩) ?_
  ·rintro ⟨n, i⟩ ⟨i0, i1, i2⟩
   have i0 : 0 ≤ i := i0
   have i1 : i ≤ s.length := i1
   have i2 : n = (cU (s.take i.toNat) : Int) := i2
   show (∃ d', eP s n i = _ ∧ _) ∨ eP s n i = _
   unfold eP
   by_cases hi : i < s.length
   ·left
    have hk : i.toNat < s.length := by omega
    obtain ⟨c1, c2⟩ := hget _ hk
    have hsub : gQ .u8 (s.getD i.toNat 0) 48 = s.getD i.toNat 0 - 48 := aXx (by omega) c1
    have hb : cU (s.take (i.toNat + 1)) = cU (s.take i.toNat) * 10 + (s.getD i.toNat 0 - 48) := by rw [take_succ hk, aGb]
    have hl := hlt (i.toNat + 1)
    refine ⟨((cU (s.take (i + 1).toNat) : Int), i + 1), ?_, ⟨by simp only; omega, by simp only; omega, rfl⟩, by simp only; omega, rfl⟩
    rw [if_pos hi, hsub, show (i + 1).toNat = i.toNat + 1 from by omega, hb]
    refine aA (by constructor <;> omega) ?_
    rw [if_neg (by omega), i2]
    refine aA (by constructor <;> omega) (aA (by constructor <;> omega) (aA (by constructor <;> omega) ?_))
    congr 3
   ·right
    rw [if_neg hi, i2, List.take_of_length_le (by omega)]
  ·unfold jS
   obtain ⟨c1, c2⟩ := hget 0 h0
   refine aA (by omega) ?_
   rw [if_neg (by omega)]
 have h2 : iL s = some ((cU s : Int), (), ()) := by
  unfold iL
  obtain ⟨c1, c2⟩ := hget 0 h0
  rw [if_pos (.inr ⟨trivial, by omega, by omega⟩)]
  refine aA (by omega) (aA (fun _ => by omega) ?_)
  rw [if_neg (by omega)]
  exact key
 unfold dI
 rw [h2]
 exact aA rfl rfl
theorem vW (s : List Nat) (i : Nat) : ∀ c ∈ (s.drop i).take (aV s i), mM c = true := by
 intro c hc
 have h : (s.drop i).take (aV s i) = (s.drop i).takeWhile mM := by
  have := List.prefix_iff_eq_take.1 (List.takeWhile_prefix (p := mM) (l := s.drop i))
  exact this.symm
 rw [h] at hc
 exact List.all_eq_true.1 List.all_takeWhile c hc
abbrev aV5 : Type := List Nat × Int × Bool × Unit
def litNo : aV5 := ([], 0, false, ())
def cB (s : List Nat) (i : Nat) (c : Nat) : Prop := i < s.length ∧ s.getD i 0 = c
instance (s : List Nat) (i c : Nat) : Decidable (cB s i c) := inferInstanceAs (Decidable (_ ∧ _))
def aBu (s : List Nat) (i : Nat) (all : List Nat) (pow : Int) (neg : Bool) : aV5 :=
 if aV s i < 1 ∨ 3 < aV s i then litNo
 else if 100 < cU ((s.drop i).take (aV s i)) then litNo
 else (all, pow + (if neg then -(cU ((s.drop i).take (aV s i)) : Int) else cU ((s.drop i).take (aV s i))), decide (i + aV s i = s.length), ())
def aLi (s : List Nat) (i : Nat) (all : List Nat) (pow : Int) : aV5 :=
 if cB s i 101 then aBu s (if cB s (i + 1) 45 ∨ cB s (i + 1) 43 then i + 2 else i + 1) all pow (decide (cB s (i + 1) 45))
 else (all, pow, decide (i = s.length), ())
def bU (s : List Nat) : aV5 :=
 if 60 < s.length ∨ aV s 0 = 0 then litNo
 else if cB s (aV s 0) 46 then
  if aV s (aV s 0 + 1) = 0 then litNo
  else aLi s (aV s 0 + 1 + aV s (aV s 0 + 1)) (s.take (aV s 0) ++ (s.drop (aV s 0 + 1)).take (aV s (aV s 0 + 1))) (-(aV s (aV s 0 + 1) : Int))
 else aLi s (aV s 0) (s.take (aV s 0)) 0
theorem aV6 (s : List Nat) (i : Nat) : s.getD ((i : Int)).toNat 0 = s.getD i 0 := by rw [Int.toNat_natCast]
theorem aV7 (s : List Nat) (k : Nat) (all : List Nat) (pow x : Int) (hs : s.length ≤ 60) (hk : k ≤ 100) (hp : -100 ≤ pow ∧ pow ≤ 100) (hx : -100 ≤ x ∧ x ≤ 100) : gI pow (k : Int) s all x = some (all, pow + x, decide (k + aV s k = s.length), ()) := by
 have hd := oO s k
 unfold gI
 rw [aC3 s k (by omega) (by omega)]
 simp only [Option.getD_some]
 refine aA (by constructor <;> omega) (aA (by constructor <;> omega) ?_)
 unfold gH
 have : decide ((k : Int) + (aV s k : Int) = (s.length : Int)) = decide (k + aV s k = s.length) := decide_eq_decide.2 (by omega)
 rw [this]
theorem aV8 (s : List Nat) (i k : Nat) (all : List Nat) (pow : Int) (hs : s.length ≤ 60) (hi : i ≤ 60) (hk : k ≤ 100) (hp : -100 ≤ pow ∧ pow ≤ 100) : gJ s (i : Int) pow all (k : Int) = some (aBu s k all pow (decide (cB s (i + 1) 45))) := by
 have hd := oO s k
 unfold gJ aBu
 rw [aC3 s k (by omega) (by omega)]
 simp only [Option.getD_some]
 refine aA rfl ?_
 by_cases h1 : aV s k < 1 ∨ 3 < aV s k
 ·rw [if_pos (by omega), if_pos h1]; rfl
 ·rw [if_neg (by omega), if_neg h1]
  have ht : List.drop ((k : Int)).toNat (List.take ((k : Int) + (aV s k : Int)).toNat s) = (s.drop k).take (aV s k) := by
   rw [List.drop_take, Int.toNat_natCast]
   congr 1
   omega
  have hl : ((s.drop k).take (aV s k)).length = aV s k := by rw [List.length_take, List.length_drop]; omega
  have ha := aXy _ (vW s k) (by omega) (by omega)
  simp only [ht, ha, Option.getD_some]
  refine aA (by constructor <;> omega) (aA (by constructor <;> omega) (aA rfl ?_))
  by_cases h2 : 100 < cU ((s.drop k).take (aV s k))
  ·rw [if_pos (by omega), if_pos h2]; rfl
  ·rw [if_neg (by omega), if_neg h2]
   have e : ((i : Int) + 1).toNat = i + 1 := by omega
   rw [e]
   by_cases h3 : cB s (i + 1) 45
   ·have h3' : i + 1 < s.length ∧ s.getD (i + 1) 0 = 45 := h3
    rw [if_pos ⟨by omega, h3'.2⟩, decide_eq_true h3]
    refine aA (by constructor <;> omega) ?_
    rw [show (0 : Int) - (cU ((s.drop k).take (aV s k)) : Int) = -(cU ((s.drop k).take (aV s k)) : Int) from by omega]
    rw [aV7 s k all pow _ hs hk hp (by constructor <;> omega)]
    rfl
   ·have h3' : ¬ (i + 1 < s.length ∧ s.getD (i + 1) 0 = 45) := h3
    rw [if_neg (fun h => h3' ⟨by omega, h.2⟩), decide_eq_false h3]
    rw [aV7 s k all pow _ hs hk hp (by constructor <;> omega)]
    rfl
theorem aV9 (s : List Nat) (i : Nat) (all : List Nat) (pow : Int) (hs : s.length ≤ 60) (hi : i ≤ 60) (hp : -100 ≤ pow ∧ pow ≤ 100) : gK s (i : Int) all pow = some (aLi s i all pow) := by
 unfold gK aLi
 have e : ((i : Int) + 1).toNat = i + 1 := by omega
 rw [aV6, e]
 refine aA (fun _ => by constructor <;> omega) ?_
 by_cases h : cB s i 101
 ·have h' : i < s.length ∧ s.getD i 0 = 101 := h
  rw [if_pos ⟨by omega, h'.2⟩, if_pos h]
  refine aA (by constructor <;> omega) (aA (fun _ => by constructor <;> omega) (aA (fun _ _ => by constructor <;> omega) ?_))
  by_cases h2 : cB s (i + 1) 45 ∨ cB s (i + 1) 43
  ·have h2' : (i + 1 < s.length ∧ s.getD (i + 1) 0 = 45) ∨ (i + 1 < s.length ∧ s.getD (i + 1) 0 = 43) := h2
   rw [if_pos (by rcases h2' with h | h; exact .inl ⟨by omega, h.2⟩; exact .inr ⟨by omega, h.2⟩), if_pos h2]
   refine aA (by constructor <;> omega) ?_
   have := aV8 s i (i + 2) all pow hs hi (by omega) hp
   rw [show ((i + 2 : Nat) : Int) = (i : Int) + 1 + 1 from by omega] at this
   exact this
  ·have h2' : ¬ ((i + 1 < s.length ∧ s.getD (i + 1) 0 = 45) ∨ (i + 1 < s.length ∧ s.getD (i + 1) 0 = 43)) := h2
   rw [if_neg (fun h => h2' (by rcases h with h | h; exact .inl ⟨by omega, h.2⟩; exact .inr ⟨by omega, h.2⟩)), if_neg h2]
   have := aV8 s i (i + 1) all pow hs hi (by omega) hp
   rw [show ((i + 1 : Nat) : Int) = (i : Int) + 1 from by omega] at this
   exact this
 ·have h' : ¬ (i < s.length ∧ s.getD i 0 = 101) := h
  rw [if_neg (fun h => h' ⟨by omega, h.2⟩), if_neg h]
  unfold gH
  have : decide ((i : Int) = (s.length : Int)) = decide (i = s.length) := decide_eq_decide.2 (by omega)
  rw [this]
theorem aR3 (s : List Nat) (hs : s.length ≤ 4611686018427387904) : aR s = some (bU s) := by
 have hd0 := oO s 0
 have hd1 := oO s (aV s 0 + 1)
 unfold aR bU
 have e0 := aC3 s 0 hs (by omega)
 rw [show ((0 : Nat) : Int) = 0 from rfl] at e0
 rw [e0]
 simp only [Option.getD_some]
 refine aA rfl (aA (by constructor <;> omega) ?_)
 by_cases h1 : 60 < s.length ∨ aV s 0 = 0
 ·rw [if_pos (by omega), if_pos h1]; rfl
 ·rw [if_neg (by omega), if_neg h1]
  rw [aV6]
  refine aA (fun _ => by constructor <;> omega) ?_
  by_cases h2 : cB s (aV s 0) 46
  ·have h2' : aV s 0 < s.length ∧ s.getD (aV s 0) 0 = 46 := h2
   rw [if_pos ⟨by omega, h2'.2⟩, if_pos h2]
   have e1 := aC3 s (aV s 0 + 1) hs (by omega)
   rw [show ((aV s 0 + 1 : Nat) : Int) = (aV s 0 : Int) + 1 from by omega] at e1
   simp only [e1, Option.getD_some]
   refine aA (by constructor <;> omega) (aA rfl ?_)
   by_cases h3 : aV s (aV s 0 + 1) = 0
   ·rw [if_pos (by omega), if_pos h3]; rfl
   ·rw [if_neg (by omega), if_neg h3]
    have ht : List.drop ((aV s 0 : Int) + 1).toNat (List.take ((aV s 0 : Int) + 1 + (aV s (aV s 0 + 1) : Int)).toNat s) = (s.drop (aV s 0 + 1)).take (aV s (aV s 0 + 1)) := by
     rw [List.drop_take, show ((aV s 0 : Int) + 1).toNat = aV s 0 + 1 from by omega]
     congr 1
     omega
    simp only [ht, Int.toNat_natCast]
    have hl1 : (s.take (aV s 0)).length ≤ 60 := by rw [List.length_take]; omega
    have hl2 : ((s.drop (aV s 0 + 1)).take (aV s (aV s 0 + 1))).length ≤ 60 := by rw [List.length_take]; omega
    refine aA (by constructor <;> omega) (aA (by constructor <;> omega) (aA (by constructor <;> omega) (aA (by constructor <;> omega) (aA (by omega) (aA (by constructor <;> omega) (aA (by constructor <;> omega) (aA (by constructor <;> omega) ?_)))))))
    have := aV9 s (aV s 0 + 1 + aV s (aV s 0 + 1)) (s.take (aV s 0) ++ (s.drop (aV s 0 + 1)).take (aV s (aV s 0 + 1))) (-(aV s (aV s 0 + 1) : Int)) (by omega) (by omega) (by constructor <;> omega)
    rw [show ((aV s 0 + 1 + aV s (aV s 0 + 1) : Nat) : Int) = (aV s 0 : Int) + 1 + (aV s (aV s 0 + 1) : Int) from by omega] at this
    rw [show (0 : Int) - (aV s (aV s 0 + 1) : Int) = -(aV s (aV s 0 + 1) : Int) from by omega]
    exact this
  ·have h2' : ¬ (aV s 0 < s.length ∧ s.getD (aV s 0) 0 = 46) := h2
   rw [if_neg (fun h => h2' ⟨by omega, h.2⟩), if_neg h2]
   rw [Int.toNat_natCast]
   exact aV9 s (aV s 0) _ 0 (by omega) (by omega) (by decide)
end Nu
end Go.Proofs
namespace Go.Proofs
open Go.Vc
set_option maxRecDepth 20000
namespace Nu
def aQH (A B p k : Nat) (up : Bool) : Dy := gD (rm2 A B p k up) (rE A B p k)
theorem aGc {M : Nat} {e : Int} : (gD M e).2.1 = lb (M / 2 ^ tzn M) := by
 unfold gD
 split
 ·rename_i h; subst h; rw [Nat.zero_div, fP]; rfl
 ·rfl
theorem aUi {A B p k0 K : Nat} {up : Bool} (hB : B ≠ 0) (hAK : A < 2 ^ K) (hBK : B < 2 ^ K) (hK : K ≤ 1000) (hp : 1 ≤ p) (hp2 : p ≤ 2000) (h : A ≠ 0 → 2 ^ p ≤ rq A B k0) :
  aLg (gD A 0) (gD B 0) (p : Int) up = .inl (if A = 0 then d0 else aQH A B p k0 up) := by
 have mA : nS (gD A 0) = true := aQF hAK (by omega) (by decide)
 have mB : nS (gD B 0) = true := aQF hBK (by omega) (by decide)
 have hm : aRY (p : Int) [gD A 0, gD B 0] = .inl () := by
  unfold aRY
  rw [if_pos ⟨by omega, by omega, by simp [mA, mB]⟩]
 obtain ⟨b1, b2⟩ := aBt hB
 have hB' : B / 2 ^ tzn B ≠ 0 := by omega
 have hbB : bl (B / 2 ^ tzn B) ≤ K := qI (Nat.lt_of_le_of_lt (Nat.div_le_self _ _) hBK)
 have hzB := aGa hB hBK
 unfold aLg
 rw [hm]
 simp only [aGc, fM]
 rw [if_neg (fun h => hB' (yD.1 (List.eq_nil_of_length_eq_zero h)))]
 have hs1 : (gD A 0).1 = false := by unfold gD; split <;> rfl
 have hs2 : (gD B 0).1 = false := by unfold gD; split <;> rfl
 rw [hs1, hs2]
 by_cases hA : A = 0
 ·subst hA
  simp only [if_true]
  have h1 : (gD 0 0).2.2.1 = 0 := rfl
  have h2 : (gD B 0).2.2.1 = (tzn B : Int) := by unfold gD; rw [if_neg hB]; simp
  rw [h1, h2, Nat.zero_div, Nat.zero_mul, Nat.zero_div, Nat.zero_mod]
  unfold aRZ
  have hb0 : ¬ 0 < ((bl 0 : Nat) : Int) - (p : Int) := by
   have : bl 0 = 0 := rfl
   omega
  simp only [hb0, if_false]
  have : decide ((0 : Nat) ≠ 0) = false := rfl
  rw [this]
  simp only [Bool.false_eq_true, false_and, if_false]
  rfl
 ·obtain ⟨a1, a2⟩ := aBt hA
  have hA' : A / 2 ^ tzn A ≠ 0 := by omega
  have hbA : bl (A / 2 ^ tzn A) ≤ K := qI (Nat.lt_of_le_of_lt (Nat.div_le_self _ _) hAK)
  have hzA := aGa hA hAK
  have h1 : (gD A 0).2.2.1 = (tzn A : Int) := by unfold gD; rw [if_neg hA]; simp
  have h2 : (gD B 0).2.2.1 = (tzn B : Int) := by unfold gD; rw [if_neg hB]; simp
  rw [h1, h2, if_neg hA]
  obtain ⟨k, hk, hk2, hk3⟩ : ∃ k : Nat, max (0 : Int) ((p : Int) + 1 + (bl (B / 2 ^ tzn B) : Int) - (bl (A / 2 ^ tzn A) : Int)) = (k : Int) ∧ p + bl (B / 2 ^ tzn B) ≤ bl (A / 2 ^ tzn A) - 1 + k ∧ k ≤ 4000 := by
   have hpos := aCl hA'
   exact ⟨(max (0 : Int) ((p : Int) + 1 + (bl (B / 2 ^ tzn B) : Int) - (bl (A / 2 ^ tzn A) : Int))).toNat, by omega, by omega, by omega⟩
  rw [hk, Int.toNat_natCast]
  have hbig := aLh (p := p) hA' hB' hk2
  have hf : (false != false) = false := rfl
  rw [hf]
  have hc := aZA (e := (tzn A : Int) - (tzn B : Int)) (up := up) hp hbig
  unfold rq at hc
  rw [hc]
  obtain ⟨o1, o2, o3, o4⟩ := aZC (A' := A / 2 ^ tzn A) (B' := B / 2 ^ tzn B) (za := tzn A) (zb := tzn B) hp a1.symm b1.symm (h hA)
  obtain ⟨s1, s2, s3⟩ := aV2 hp hbig o1
  have hrm : rm2 (A / 2 ^ tzn A) (B / 2 ^ tzn B) p k up = rm2 A B p k0 up := by unfold rm2; rw [s1, s3, o2, o4]
  have hre : (tzn A : Int) - (tzn B : Int) + rE (A / 2 ^ tzn A) (B / 2 ^ tzn B) p k = rE A B p k0 := by rw [s2]; omega
  obtain ⟨q1, q2⟩ := aQG (A := A / 2 ^ tzn A) (B := B / 2 ^ tzn B) (p := p) (k := k) hA'
  rw [hrm, hre, aOP (K := p + 1) aR0 (by omega) (by constructor <;> omega)]
  simp only [if_true]
  rfl
def aXz (r : aV5) : Prop := (∀ c ∈ r.1, mM c = true) ∧ r.1.length ≤ 60 ∧ -160 ≤ r.2.1 ∧ r.2.1 ≤ 160
theorem zV : aXz litNo := ⟨(fun c hc => by cases hc), by decide, by decide, by decide⟩
theorem aOQ {s : List Nat} {i : Nat} {all : List Nat} {pow : Int} {neg : Bool} (h1 : ∀ c ∈ all, mM c = true) (h2 : all.length ≤ 60) (h3 : -60 ≤ pow ∧ pow ≤ 0) : aXz (aBu s i all pow neg) := by
 unfold aBu
 split
 ·exact zV
 ·split
  ·exact zV
  ·refine ⟨h1, h2, ?_, ?_⟩
   ·simp only; split <;> omega
   ·simp only; split <;> omega
theorem aLj {s : List Nat} {i : Nat} {all : List Nat} {pow : Int} (h1 : ∀ c ∈ all, mM c = true) (h2 : all.length ≤ 60) (h3 : -60 ≤ pow ∧ pow ≤ 0) : aXz (aLi s i all pow) := by
 unfold aLi
 split
 ·exact aOQ h1 h2 h3
 ·exact ⟨h1, h2, by simp only; omega, by simp only; omega⟩
theorem pI (s : List Nat) : aXz (bU s) := by
 have hd0 := oO s 0
 have hd1 := oO s (aV s 0 + 1)
 have a0 := vW s 0
 rw [List.drop_zero] at a0
 have a1 := vW s (aV s 0 + 1)
 unfold bU
 split
 ·exact zV
 ·rename_i h
  split
  ·split
   ·exact zV
   ·refine aLj (fun c hc => ?_) ?_ (by constructor <;> omega)
    ·rcases List.mem_append.1 hc with hc | hc
     ·exact a0 c hc
     ·exact a1 c hc
    ·rw [List.length_append, List.length_take, List.length_take, List.length_drop]; omega
  ·refine aLj a0 ?_ (by decide)
   rw [List.length_take]; omega
def qF (s : List Nat) : Nat := cU (bU s).1 * 10 ^ (max (bU s).2.1 0).toNat
def tF (s : List Nat) : Nat := 10 ^ (max (-(bU s).2.1) 0).toNat
theorem kW (n : Nat) : 10 ^ n ≤ 2 ^ (4 * n) := by
 rw [Nat.pow_mul]
 exact Nat.pow_le_pow_left (by decide) n
theorem aFi (s : List Nat) : qF s < 2 ^ 900 := by
 obtain ⟨h1, h2, h3, h4⟩ := pI s
 have a := vA h1
 have b := kW (bU s).1.length
 have c := kW (max (bU s).2.1 0).toNat
 unfold qF
 have d := Nat.mul_lt_mul_of_lt_of_le (Nat.lt_of_lt_of_le a b) c (Nat.pow_pos (by decide))
 rw [← Nat.pow_add] at d
 exact aHB 900 d (by omega)
theorem aOR (s : List Nat) : tF s < 2 ^ 900 := by
 obtain ⟨h1, h2, h3, h4⟩ := pI s
 have c := kW (max (-(bU s).2.1) 0).toNat
 unfold tF
 exact yQ 900 c (by omega)
theorem aFj (s : List Nat) : tF s ≠ 0 := by
 unfold tF
 have := Nat.pow_pos (n := (max (-(bU s).2.1) 0).toNat) (show 0 < 10 by decide)
 omega
def aYZ (s : List Nat) : List Nat × List Nat × Bool × Unit := if (bU s).2.2.1 = true then (lb (qF s), lb (tF s), true, ()) else ([], [], false, ())
theorem aGd {x : Nat} (h : x < 2 ^ 900) : (lb x).length ≤ 15 := by
 exact kY.2 (aQE 15 h (by decide))
theorem aWa (s : List Nat) (hs : s.length ≤ 4611686018427387904) : cC s = some (aYZ s) := by
 obtain ⟨h1, h2, h3, h4⟩ := pI s
 unfold cC aYZ
 simp only [aR3 s hs, Option.getD_some]
 refine aA rfl ?_
 by_cases h : (bU s).2.2.1 = true
 ·rw [if_neg (fun hn => hn h), if_pos h]
  have e1 := aNm (bU s).1 h1 (by omega)
  have e2 := aCS 10 (max (bU s).2.1 0).toNat (by decide) (by omega)
  have e3 := aCS 10 (max (-(bU s).2.1) 0).toNat (by decide) (by omega)
  rw [show (((max (bU s).2.1 0).toNat : Nat) : Int) = max (bU s).2.1 0 from by omega] at e2
  rw [show (((max (-(bU s).2.1) 0).toNat : Nat) : Int) = max (0 - (bU s).2.1) 0 from by omega] at e3
  simp only [e1, e2, e3, Option.getD_some]
  have l1 : (lb (cU (bU s).1)).length ≤ 15 := aGd (by
   have a := vA h1
   have b := kW (bU s).1.length
   exact aHB 900 (Nat.lt_of_lt_of_le a b) (by omega))
  have l2 : (lb (10 ^ (max (bU s).2.1 0).toNat)).length ≤ 15 := aGd (yQ 900 (kW _) (by omega))
  refine aA rfl (aA rfl (aA ⟨?_, ?_⟩ (aA (by constructor <;> omega) (aA rfl ?_))))
  ·show (lb (cU (bU s).1)).length ≤ _; omega
  ·show (lb (10 ^ (max (bU s).2.1 0).toNat)).length ≤ _; omega
  ·have ht : bD (lb (cU (bU s).1)) (lb (10 ^ (max (bU s).2.1 0).toNat)) = lb (qF s) := by
    unfold bD qF; rw [fM, fM]
   rw [ht]; rfl
 ·rw [if_pos h, if_neg h]
end Nu
end Go.Proofs
namespace Go.Proofs
open Go.Vc
set_option maxRecDepth 20000
namespace Nu
theorem aC4 (s : List Nat) (hs : s.length ≤ 4611686018427387904) : bT s = some (bU s).2.2.1 := by
 unfold bT
 simp only [aR3 s hs, Option.getD_some]
 exact aA rfl rfl
def uL (s : List Nat) (p : Nat) (up : Bool) : Dy := if qF s = 0 then d0 else aQH (qF s) (tF s) p (p + 1 + bl (tF s)) up
def aQI (s : List Nat) (p : Int) : (Dy × Dy × Unit) × Int × Unit :=
 if ¬ (bU s).2.2.1 = true then ((d0, d0, ()), 6, ())
 else if p < 1 ∨ 2000 < p then ((d0, d0, ()), 1, ())
 else ((uL s p.toNat false, uL s p.toNat true, ()), 0, ())
theorem aWb {A K : Nat} (h : A < 2 ^ K) (hK : K ≤ 4096) : bP false (lb A) 0 = some (gD A 0, 0, ()) := by
 have hl : (lb A).length ≤ K + 1 := kY.2 (Nat.lt_of_lt_of_le h (by rw [oF]; exact Nat.pow_le_pow_right (by decide) (by omega)))
 rw [aRX false (lb A) 0 (aBC A) (wB A) (by omega), fM, aOP h hK (by decide)]
theorem aQJ (s : List Nat) (p : Nat) (up : Bool) (hp : 1 ≤ p ∧ p ≤ 2000) : eJ (gD (qF s) 0) (gD (tF s) 0) (p : Int) up = some (uL s p up, 0, ()) := by
 have hL : ∀ M, Lm (gD M 0).2.1 := fun M => by rw [aGc]; exact aBC _
 rw [aXv _ _ _ _ (hL _) (hL _), aUi (k0 := p + 1 + bl (tF s)) (aFj s) (aFi s) (aOR s) (by decide) hp.1 hp.2 (fun h => aLh h (aFj s) (by have := aCl h; omega))]
 rfl
theorem aWc (s : List Nat) (p : Int) (hs : s.length ≤ 4611686018427387904) : cG s p = some (aQI s p) := by
 unfold cG aQI
 simp only [aWa s hs, Option.getD_some]
 refine aA rfl ?_
 unfold aYZ
 by_cases h : (bU s).2.2.1 = true
 ·simp only [h, if_true, not_true, if_false]
  by_cases h2 : p < 1 ∨ 2000 < p
  ·simp only [h2, if_true]; rfl
  ·simp only [h2, if_false]
   obtain ⟨q, rfl⟩ : ∃ q : Nat, p = (q : Int) := ⟨p.toNat, by omega⟩
   simp only [aWb (aFi s) (by decide), aWb (aOR s) (by decide), Option.getD_some, aQJ s q false (by constructor <;> omega), aQJ s q true (by constructor <;> omega)]
   refine aA rfl (aA rfl (aA rfl (aA rfl ?_)))
   simp only [not_true, or_self, if_false, Int.toNat_natCast]
 ·simp only [h, if_false, Bool.false_eq_true, not_false_eq_true, if_true]; rfl
end Nu
end Go.Proofs
namespace Go.Proofs
open Go.Vc
set_option maxRecDepth 20000
namespace Nu
def exN (s : List Nat) : Nat := cU (bU s).1 * 5 ^ (max (bU s).2.1 0).toNat
def exD (s : List Nat) : Nat := 5 ^ (max (-(bU s).2.1) 0).toNat
def aCT (s : List Nat) : Dy × Int × Unit :=
 if ¬ (bU s).2.2.1 = true then (d0, 6, ())
 else if exN s % exD s ≠ 0 then (d0, 6, ())
 else (gD (exN s / exD s) (bU s).2.1, 0, ())
theorem aLk (n : Nat) : 5 ^ n ≤ 2 ^ (4 * n) := Nat.le_trans (Nat.pow_le_pow_left (by decide) n) (kW n)
theorem aWd (s : List Nat) : exN s < 2 ^ 900 := by
 obtain ⟨h1, h2, h3, h4⟩ := pI s
 have a := vA h1
 have b := kW (bU s).1.length
 have c := aLk (max (bU s).2.1 0).toNat
 unfold exN
 have d := Nat.mul_lt_mul_of_lt_of_le (Nat.lt_of_lt_of_le a b) c (Nat.pow_pos (by decide))
 rw [← Nat.pow_add] at d
 exact aHB 900 d (by omega)
theorem aTi (s : List Nat) : exD s ≠ 0 := by
 unfold exD
 have := Nat.pow_pos (n := (max (-(bU s).2.1) 0).toNat) (show 0 < 5 by decide)
 omega
theorem aLl (s : List Nat) (hs : s.length ≤ 4611686018427387904) : bF s = some (aCT s) := by
 obtain ⟨h1, h2, h3, h4⟩ := pI s
 unfold bF aCT
 simp only [aR3 s hs, Option.getD_some]
 refine aA rfl ?_
 by_cases h : (bU s).2.2.1 = true
 ·simp only [h, not_true, if_false]
  have e1 := aNm (bU s).1 h1 (by omega)
  have e2 := aCS 5 (max (bU s).2.1 0).toNat (by decide) (by omega)
  have e3 := aCS 5 (max (-(bU s).2.1) 0).toNat (by decide) (by omega)
  rw [show (((max (bU s).2.1 0).toNat : Nat) : Int) = max (bU s).2.1 0 from by omega] at e2
  rw [show (((max (-(bU s).2.1) 0).toNat : Nat) : Int) = max (0 - (bU s).2.1) 0 from by omega] at e3
  have l1 : (lb (cU (bU s).1)).length ≤ 15 := aGd (by
   have a := vA h1
   have b := kW (bU s).1.length
   exact aHB 900 (Nat.lt_of_lt_of_le a b) (by omega))
  have l2 : (lb (5 ^ (max (bU s).2.1 0).toNat)).length ≤ 15 := aGd (yQ 900 (aLk _) (by omega))
  have ht : bD (lb (cU (bU s).1)) (lb (5 ^ (max (bU s).2.1 0).toNat)) = lb (exN s) := by
   unfold bD exN; rw [fM, fM]
  have hq : bG (lb (exN s)) (lb (exD s)) = (lb (exN s / exD s), lb (exN s % exD s), ()) := by
   unfold bG; rw [fM, fM]
  have hN := aWd s
  have hlt : exN s / exD s < 2 ^ 900 := Nat.lt_of_le_of_lt (Nat.div_le_self _ _) hN
  have hF : bP false (lb (exN s / exD s)) (bU s).2.1 = some (gD (exN s / exD s) (bU s).2.1, 0, ()) := by
   rw [aRX false _ _ (aBC _) (wB _) (by have := aGd hlt; omega), fM, aOP hlt (by decide) (by constructor <;> omega)]
  have hD : lb (5 ^ (max (-(bU s).2.1) 0).toNat) = lb (exD s) := rfl
  rw [hD] at e3
  simp only [e1, e2, e3, Option.getD_some, ht, hq, hF]
  refine aA rfl (aA rfl (aA ⟨?_, ?_⟩ (aA (by constructor <;> omega) (aA rfl (aA ⟨wB _, wB _, by rw [fM]; exact aTi s, ?_⟩ (aA rfl ?_))))))
  ·show (lb (cU (bU s).1)).length ≤ _; omega
  ·show (lb (5 ^ (max (bU s).2.1 0).toNat)).length ≤ _; omega
  ·have := aGd hN; omega
  ·by_cases hr : exN s % exD s = 0
   ·rw [if_neg (by rw [hr, fP]; simp), if_neg (fun h => h hr)]
   ·have hl := List.length_pos_iff.2 (fun e => hr (yD.1 e))
    rw [if_pos (.inl (by omega)), if_pos hr]; rfl
 ·simp only [h, not_false_eq_true, if_true, Bool.false_eq_true]; rfl
end Nu
end Go.Proofs
namespace Go.Proofs
open Go.Vc
set_option maxRecDepth 20000
namespace Nu
def aBv (u : Nat) : List Nat := dgs (Lib.nDigits u) u
theorem aY0 {u : Nat} (h : u < 10) : aBv u = [48 + u] := by
 unfold aBv
 rw [Lib.nDigits_small h]
 simp [dgs, Nat.mod_eq_of_lt h]
theorem aR4 {u : Nat} (h : ¬ u < 10) (h2 : u < 100) : aBv u = [48 + u / 10, 48 + u % 10] := by
 unfold aBv
 rw [Lib.nDigits_big h, Lib.nDigits_small (by omega)]
 have : u / 10 % 10 = u / 10 := Nat.mod_eq_of_lt (by omega)
 simp [dgs, List.range_succ, this]
theorem aUj : ∀ u : Fin 100, (if u.val < 10 then List.drop u.val (List.take (u.val + 1) (aS yP)) else List.drop (u.val * 2) (List.take (u.val * 2 + 2) (aS yO))) = if u.val < 10 then [48 + u.val] else [48 + u.val / 10, 48 + u.val % 10] := by
 decide +kernel
theorem aUk : (aS yP).length = 36 ∧ (aS yO).length = 200 := by decide +kernel
theorem aWe (u : Nat) (h : u < 100) : gL (u : Int) = some (aBv u) := by
 have ht := aUj ⟨u, h⟩
 obtain ⟨l1, l2⟩ := aUk
 simp only at ht
 unfold gL
 by_cases h1 : u < 10
 ·rw [if_pos h1, if_pos h1] at ht
  rw [if_pos (by omega), l1, aY0 h1]
  refine aA (by constructor <;> omega) (aA (by constructor <;> omega) ?_)
  rw [Int.toNat_natCast, show ((u : Int) + 1).toNat = u + 1 from by omega, ht]
 ·rw [if_neg h1, if_neg h1] at ht
  rw [if_neg (by omega), l2, aR4 h1 h]
  refine aA (by constructor <;> omega) (aA (by constructor <;> omega) (aA (by constructor <;> omega) (aA (by constructor <;> omega) ?_)))
  rw [show ((u : Int) * 2).toNat = u * 2 from by omega, show ((u : Int) * 2 + 2).toNat = u * 2 + 2 from by omega, ht]
theorem aXA : ∀ k : Fin 20, ([1, 10, 100, 1000, 10000, 100000, 1000000, 10000000, 100000000, 1000000000, 10000000000, 100000000000, 1000000000000, 10000000000000, 100000000000000, 1000000000000000, 10000000000000000, 100000000000000000, 1000000000000000000, 10000000000000000000] : List Nat).getD k.val 0 = 10 ^ k.val := by decide +kernel
theorem aUl {u : Nat} (h1 : u ≠ 0) (h : u < 18446744073709551616) : Lib.bitLen u = bl u := by
 obtain ⟨a, b, c⟩ := Lib.bitLenAux_bounds 64 u h (by omega)
 unfold Lib.bitLen
 have h2 := qI c
 have h3 := aGx b
 omega
theorem aMK (u : Nat) (h1 : u ≠ 0) (h : u < 18446744073709551616) : bV u = some (Lib.nDigits u : Int) := by
 obtain ⟨k1, k2⟩ := Lib.numDigits_eq u (by omega) h
 rw [aUl h1 h] at k1 k2
 have hb := aT4 h
 have hl : Int.fdiv ((bl u : Int) * 78913) (2 ^ 18) = (Lib.l10 (bl u) : Int) := by
  unfold Lib.l10
  rw [Int.fdiv_eq_ediv_of_nonneg _ (by decide)]
  omega
 have hlog : bZ (cV u) = some (Lib.l10 (bl u) : Int) := by
  unfold bZ cV
  refine aA (by constructor <;> omega) ?_
  rw [hl]
 have hp : p10.getD (Lib.l10 (bl u)) 0 = 10 ^ Lib.l10 (bl u) := by
  rw [aVD]; exact aXA ⟨Lib.l10 (bl u), by omega⟩
 have hbool : ∀ b : Bool, dV b = some (if b = true then 1 else 0) := fun b => by cases b <;> rfl
 unfold bV
 simp only [hlog, Option.getD_some, Int.toNat_natCast, hp, hbool]
 refine aA rfl (aA (by constructor <;> omega) (aA rfl ?_))
 by_cases hh : 10 ^ Lib.l10 (bl u) ≤ u
 ·rw [if_pos hh] at k1
  simp only [hh, decide_true, if_true]
  refine aA (by constructor <;> omega) ?_
  rw [show (Lib.l10 (bl u) : Int) + 1 = (Lib.nDigits u : Int) from by omega]
 ·rw [if_neg hh] at k1
  simp only [hh, decide_false, Bool.false_eq_true, if_false]
  refine aA (by constructor <;> omega) ?_
  rw [show (Lib.l10 (bl u) : Int) + 0 = (Lib.nDigits u : Int) from by omega]
theorem aML (u : Nat) (h : u < 18446744073709551616) : dF u 10 = some (aBv u) := by
 have key : eR u 10 = some (aBv u) := by
  unfold eR
  rw [if_pos rfl]
  by_cases h1 : u < 100
  ·have hw : IntKind.i64.wrap ((u : Nat) : Int) = (u : Int) := by
    simp only [IntKind.wrap, IntKind.signed, IntKind.bits]; simp; omega
   rw [if_pos h1, hw]
   simp only [aWe u h1, Option.getD_some]
   exact aA rfl rfl
  ·rw [if_neg h1]
   have hn := aMK u (by omega) h
   obtain ⟨k1, k2⟩ := Lib.numDigits_eq u (by omega) h
   have hle : Lib.nDigits u ≤ 20 := by split at k1 <;> omega
   have hpos := Lib.nDigits_pos u
   have hlt := Lib.lt_pow_nDigits u
   simp only [hn, Option.getD_some]
   have e : ((Lib.nDigits u : Int) - 0).toNat = Lib.nDigits u := by omega
   rw [e]
   have hf : dT 0 (Lib.nDigits u) u (List.replicate 24 0) = some (aBv u ++ (List.replicate 24 0).drop (0 + Lib.nDigits u)) := by
    unfold dT
    refine aA (by omega) (aA hlt ?_)
    rfl
   refine aA rfl (aA (by constructor <;> omega) (aM hf (aA (by constructor <;> omega) (aA (by omega) ?_))))
   rw [List.drop_zero, List.take_append_of_le_length (by unfold aBv; rw [qT]; exact Nat.le_refl _), List.take_of_length_le (by unfold aBv; rw [qT]; exact Nat.le_refl _)]
 unfold dF
 rw [key]
 exact aA rfl rfl
end Nu
end Go.Proofs
namespace Go.Proofs
open Go.Vc
set_option maxRecDepth 20000
namespace Nu
theorem aY1 : bO (aS uH) [48] = some false := by decide +kernel
theorem aY2 : bO (aS uG) [48] = some false := by decide +kernel
theorem aY3 : bO (aS qZ) [48] = some true := by decide +kernel
theorem aZD : aS qZ = List.replicate 64 48 := by decide +kernel
theorem aNn (c : Nat) (h : c ≤ 64) : aQ [48] (c : Int) = some (List.replicate c 48) := by
 have hw : IntKind.i64.wrap ((c : Nat) : Int) = (c : Int) := by
  simp only [IntKind.wrap, IntKind.signed, IntKind.bits]; simp; omega
 have hm : bN (((([48] : List Nat).length : Nat) : Int) % (18446744073709551616 : Int)).toNat ((c : Int) % (18446744073709551616 : Int)).toNat = some (0, c, ()) := by
  have e1 : (((([48] : List Nat).length : Nat) : Int) % (18446744073709551616 : Int)).toNat = 1 := by decide
  have e2 : ((c : Int) % (18446744073709551616 : Int)).toNat = c := by omega
  rw [e1, e2]
  unfold bN bJ
  simp only
  rw [Nat.one_mul, Nat.div_eq_of_lt (by omega), Nat.mod_eq_of_lt (by omega)]
 unfold aQ
 by_cases h0 : c = 0
 ·subst h0; rfl
 by_cases h1 : c = 1
 ·subst h1; rfl
 rw [if_neg (by omega), if_neg (by omega), if_neg (by omega)]
 simp only [hm, Option.getD_some]
 refine aA rfl ?_
 rw [if_neg (by omega), if_neg (by decide)]
 refine aA (by decide) ?_
 rw [if_neg (by decide), if_neg (by decide), if_pos (by decide)]
 have hd : decide ((([48] : List Nat).getD 0 0) = 48) = true := by decide
 rw [hd]
 unfold dQ
 rw [if_pos rfl]
 simp only [hm, Option.getD_some, hw, aY1, aY2, aY3]
 refine aA (fun _ => rfl) ?_
 rw [if_neg (fun hh => by cases hh.2)]
 refine aA (fun _ => rfl) ?_
 rw [if_neg (fun hh => by cases hh.2)]
 refine aA (fun _ => rfl) ?_
 rw [if_pos ⟨by omega, trivial⟩, aZD]
 refine aA (by constructor; omega; rw [List.length_replicate]; omega) ?_
 rw [Int.toNat_natCast, List.take_replicate, Nat.min_eq_left h]
theorem aOS (a b x y : Nat) (hy : y < 10 ^ b) : dgs a x ++ dgs b y = dgs (a + b) (x * 10 ^ b + y) := by
 apply List.ext_getElem
 ·simp [dgs]
 ·intro i h1 h2
  have hi : i < a + b := by simpa [dgs] using h2
  by_cases hlt : i < a
  ·rw [List.getElem_append_left (by simpa [dgs] using hlt)]
   simp only [dgs, List.getElem_map, List.getElem_range]
   rw [show a + b - 1 - i = b + (a - 1 - i) from by omega, Nat.pow_add, ← Nat.div_div_eq_div_mul, Nat.mul_comm x, Nat.mul_add_div (Nat.pow_pos (by decide)), Nat.div_eq_of_lt hy, Nat.add_zero]
  ·rw [List.getElem_append_right (by simp [dgs]; omega)]
   simp only [dgs, List.length_map, List.length_range, List.getElem_map, List.getElem_range]
   have e1 : a + b - 1 - i = b - 1 - (i - a) := by omega
   rw [e1]
   congr 1
   have hk : b = (b - 1 - (i - a)) + (i - a + 1) := by omega
   have e2 : x * 10 ^ b = 10 ^ (b - 1 - (i - a)) * (x * 10 ^ (i - a) * 10) := by
    conv => lhs; rw [hk]
    rw [Nat.pow_add, Nat.pow_succ, Nat.mul_left_comm, Nat.mul_assoc x]
   rw [e2, Nat.mul_add_div (Nat.pow_pos (by decide)), Nat.add_comm, Nat.add_mul_mod_self_right]
theorem aQK (n : Nat) : dgs n 0 = List.replicate n 48 := by
 apply List.ext_getElem
 ·simp [dgs]
 ·intro i h1 h2; simp [dgs]
theorem aXB {k n r : Nat} (hk : k ≤ n) (hr : r < 10 ^ k) : List.replicate (n - k) 48 ++ dgs k r = dgs n r := by
 rw [← aQK, aOS _ _ _ _ hr, Nat.zero_mul, Nat.zero_add]
 congr 1; omega
theorem zW (u : Nat) (h0 : u ≠ 0) : 10 ^ (Lib.nDigits u - 1) ≤ u := by
 induction u using Nat.strongRecOn with
 | _ u ih =>
  by_cases h : u < 10
  ·rw [Lib.nDigits_small h]; simp; omega
  ·have := ih (u / 10) (by omega) (by omega)
   have hp := Lib.nDigits_pos (u / 10)
   rw [Lib.nDigits_big h, Nat.add_sub_cancel, show Lib.nDigits (u / 10) = Lib.nDigits (u / 10) - 1 + 1 from by omega, Nat.pow_succ]
   omega
theorem aOT {M b y : Nat} (hM : M ≠ 0) (hy : y < 10 ^ b) : Lib.nDigits (M * 10 ^ b + y) = Lib.nDigits M + b := by
 have h1 := Lib.lt_pow_nDigits M
 have h2 := Lib.nDigits_pos M
 have h3 := zW M hM
 have h4 := Nat.mul_le_mul_right (10 ^ b) h3
 have h5 := Nat.mul_le_mul_right (10 ^ b) (show M + 1 ≤ 10 ^ Lib.nDigits M from h1)
 rw [← Nat.pow_add] at h4 h5
 rw [Nat.add_mul, Nat.one_mul] at h5
 have := Lib.nDigits_unique (Lib.nDigits M - 1 + b) (M * 10 ^ b + y) (by omega) (by rw [show Lib.nDigits M - 1 + b + 1 = Lib.nDigits M + b from by omega]; omega)
 omega
theorem aWf {M b y : Nat} (hM : M ≠ 0) (hy : y < 10 ^ b) : aBv M ++ dgs b y = aBv (M * 10 ^ b + y) := by
 unfold aBv
 rw [aOT hM hy, aOS _ _ _ _ hy]
end Nu
end Go.Proofs
namespace Go.Proofs
open Go.Vc
set_option maxRecDepth 20000
namespace Nu
def cat (l : List (List Nat)) : List Nat := l.reverse.flatten
theorem aLm (l : List (List Nat)) (s : List Nat) : cat (l ++ [s]) = s ++ cat l := by simp [cat]
theorem aUm (l : List (List Nat)) (k : Nat) : cat l = cat (l.drop k) ++ cat (l.take k) := by
 unfold cat
 rw [← List.flatten_append, ← List.reverse_append, List.take_append_drop]
theorem aOU (l : List (List Nat)) (k : Nat) : (cat (l.take k)).length ≤ (cat l).length := by
 rw [aUm l k, List.length_append]; omega
theorem aXC (l : List (List Nat)) (h1 : l.length ≤ 1000000000) (h2 : (cat l).length ≤ 1000000000) : oC l = some (cat l) := by
 unfold oC
 refine aM (eL (step := fun d : (List Nat) × Int => jY l d.1 d.2) (I := fun d => 0 ≤ d.2 ∧ d.2 ≤ l.length ∧ d.1 = cat (l.take d.2.toNat)) (fun d => ((l.length : Int) - d.2).toNat) (fun _ => cat l) ?_ (aS ⟨#[]⟩, 0) ⟨by simp, by simp, rfl⟩) rfl
 rintro ⟨out, i⟩ ⟨i0, i1, i2⟩
 have i0 : 0 ≤ i := i0
 have i1 : i ≤ l.length := i1
 have i2 : out = cat (l.take i.toNat) := i2
 show (∃ d', jY l out i = _ ∧ _) ∨ jY l out i = _
 unfold jY
 by_cases hi : i < l.length
 ·left
  have hk : i.toNat < l.length := by omega
  have ht : cat (l.take (i + 1).toNat) = l.getD i.toNat [] ++ out := by
   rw [show (i + 1).toNat = i.toNat + 1 from by omega, List.take_succ_eq_append_getElem hk, aLm, i2, List.getD_eq_getElem?_getD, List.getElem?_eq_getElem hk]; rfl
  have hlen := aOU l (i + 1).toNat
  rw [ht, List.length_append] at hlen
  refine ⟨(cat (l.take (i + 1).toNat), i + 1), ?_, ⟨by simp only; omega, by simp only; omega, rfl⟩, by simp only; omega, rfl⟩
  rw [if_pos hi]
  refine aA (by constructor <;> omega) (aA (by omega) (aA (by constructor <;> omega) ?_))
  rw [ht]
 ·right
  rw [if_neg hi, i2, List.take_of_length_le (by omega)]
def txt (n : Nat) : List Nat := if n = 0 then [] else aBv n
structure TxI (n : Nat) (m : List Nat) (l : List (List Nat)) (M rest : Nat) : Prop where
 m0 : m = lb M
 sum : n = M * 10 ^ (18 * l.length) + rest
 lt : rest < 10 ^ (18 * l.length)
 str : cat l = dgs (18 * l.length) rest
 pos : M ≠ 0 ∨ l.length = 0
theorem aXD {n M rest : Nat} {m : List Nat} {l : List (List Nat)} (h : TxI n m l M rest) : 18 * l.length ≤ bl n := by
 rcases h.pos with hp | hp
 ·rcases Nat.eq_zero_or_pos l.length with h0 | h0
  ·omega
  ·have h1 : 2 ^ (18 * l.length) ≤ 10 ^ (18 * l.length) := Nat.pow_le_pow_left (by decide) _
   have h2 : 10 ^ (18 * l.length) ≤ M * 10 ^ (18 * l.length) := Nat.le_mul_of_pos_left _ (by omega)
   have h3 : 2 ^ (18 * l.length) ≤ n := by rw [h.sum]; omega
   have := aGx h3
   omega
 ·omega
theorem q18 (M : Nat) : bG (lb M) [1000000000000000000] = (lb (M / 1000000000000000000), lb (M % 1000000000000000000), ()) := by
 unfold bG
 rw [fM]
 rfl
theorem aWg {n M P T rest : Nat} (h : n = M * T + rest) : n = M / P * (P * T) + (M % P * T + rest) := by
 have e := Nat.div_add_mod M P
 rw [h, ← Nat.add_assoc]
 congr 1
 conv => lhs; rw [← e]
 rw [Nat.add_mul, Nat.mul_comm P, Nat.mul_assoc]
theorem aXE {r P T rest : Nat} (h : r < P) (h2 : rest < T) : r * T + rest < P * T := by
 have h1 := Nat.mul_le_mul_right T (show r + 1 ≤ P from h)
 rw [Nat.add_mul, Nat.one_mul] at h1
 omega
theorem p18 : (10 : Nat) ^ 18 = 1000000000000000000 := by decide
theorem aXF {n M rest : Nat} {m : List Nat} {l : List (List Nat)} (hn : bl n ≤ 1000000) (h : TxI n m l M rest) :
  (∃ m' l' M' rest', gW l m (txt (M % 1000000000000000000)) = some (.inl (m', l')) ∧ TxI n m' l' M' rest' ∧ M' < M) ∨
   ∃ l', gW l m (txt (M % 1000000000000000000)) = some (.inr l') ∧ cat l' = txt n ∧ l'.length ≤ 1000000 := by
 have hl := aXD h
 have hr : M % 1000000000000000000 < 10 ^ 18 := Nat.mod_lt _ (by decide)
 have e := Nat.div_add_mod M 1000000000000000000
 have hsl : (txt (M % 1000000000000000000)).length ≤ 18 := by
  unfold txt
  split
  ·simp
  ·rename_i h0
   unfold aBv
   rw [qT]
   have h1 := zW _ h0
   rcases Nat.lt_or_ge (Lib.nDigits (M % 1000000000000000000)) 19 with hh | hh
   ·omega
   ·have h2 : 10 ^ 18 ≤ 10 ^ (Lib.nDigits (M % 1000000000000000000) - 1) := Nat.pow_le_pow_right (by decide) (by omega)
    omega
 unfold gW
 rw [h.m0, q18]
 by_cases hq : M / 1000000000000000000 = 0
 ·right
  refine ⟨l ++ [txt (M % 1000000000000000000)], ?_, ?_, by rw [List.length_append]; simp; omega⟩
  ·refine aA (by omega) ?_
   rw [if_pos (by simp only; rw [hq, fP]; rfl)]
  ·have hM : M % 1000000000000000000 = M := by omega
   rw [aLm, hM, h.str]
   rcases Nat.eq_zero_or_pos M with h0 | h0
   ·subst h0
    rcases h.pos with hp | hp
    ·exact absurd rfl hp
    ·have hs := h.sum
     have hlt := h.lt
     rw [hp] at hlt hs ⊢
     have : rest = 0 := by simpa using hlt
     subst this
     simp only [Nat.zero_mul, Nat.add_zero] at hs
     subst hs
     rfl
   ·have hn0 : n ≠ 0 := by
     rw [h.sum]
     have := Nat.mul_pos h0 (Nat.pow_pos (n := 18 * l.length) (show 0 < 10 by decide))
     omega
    unfold txt
    rw [if_neg (by omega), if_neg hn0, aWf (by omega) h.lt, ← h.sum]
 ·left
  have hpad : List.replicate (18 - (txt (M % 1000000000000000000)).length) 48 ++ txt (M % 1000000000000000000) = dgs 18 (M % 1000000000000000000) := by
   unfold txt at hsl ⊢
   split
   ·rename_i h0; rw [h0, aQK]; simp
   ·rename_i h0
    rw [if_neg h0] at hsl
    unfold aBv at hsl ⊢
    rw [qT] at hsl ⊢
    exact aXB hsl (Lib.lt_pow_nDigits _)
  have hrep : aQ (aS ⟨#[48]⟩) (18 - ((txt (M % 1000000000000000000)).length : Int)) = some (List.replicate (18 - (txt (M % 1000000000000000000)).length) 48) := by
   have := aNn (18 - (txt (M % 1000000000000000000)).length) (by omega)
   rw [show ((18 - (txt (M % 1000000000000000000)).length : Nat) : Int) = 18 - ((txt (M % 1000000000000000000)).length : Int) from by omega] at this
   exact this
  have hset : (l ++ [txt (M % 1000000000000000000)]).set (((l ++ [txt (M % 1000000000000000000)]).length : Int) - 1).toNat (List.replicate (18 - (txt (M % 1000000000000000000)).length) 48 ++ txt (M % 1000000000000000000)) = l ++ [dgs 18 (M % 1000000000000000000)] := by
   rw [hpad, List.length_append, List.length_singleton, show (((l.length + 1 : Nat) : Int) - 1).toNat = l.length from by omega]
   simp
  refine ⟨lb (M / 1000000000000000000), l ++ [dgs 18 (M % 1000000000000000000)], M / 1000000000000000000, M % 1000000000000000000 * 10 ^ (18 * l.length) + rest, ?_, ?_, Nat.div_lt_self (by omega) (by decide)⟩
  ·have hne := List.length_pos_iff.2 (fun e => hq (yD.1 e))
   have hll : (l ++ [txt (M % 1000000000000000000)]).length = l.length + 1 := by simp
   refine aA (by omega) ?_
   rw [if_neg (by simp only; omega)]
   simp only [hrep, Option.getD_some]
   refine aA (by constructor <;> omega) (aA (by constructor <;> omega) (aA rfl (aA (by rw [List.length_replicate]; omega) (aA (by constructor <;> omega) ?_))))
   rw [hset]
  ·have hl1 : (l ++ [dgs 18 (M % 1000000000000000000)]).length = l.length + 1 := by simp
   have hp : 10 ^ (18 * (l.length + 1)) = 1000000000000000000 * 10 ^ (18 * l.length) := by rw [← p18, ← Nat.pow_add]; congr 1; omega
   refine ⟨rfl, ?_, ?_, ?_, .inl hq⟩
   ·rw [hl1, hp]
    have := aWg (P := 1000000000000000000) (T := 10 ^ (18 * l.length)) h.sum
    exact this
   ·rw [hl1, hp]; exact aXE (Nat.mod_lt _ (by decide)) h.lt
   ·have := aOS 18 (18 * l.length) (M % 1000000000000000000) rest h.lt
    rw [hl1, aLm, h.str, this, show 18 + 18 * l.length = 18 * (l.length + 1) from by omega]
end Nu
end Go.Proofs
namespace Go.Proofs
open Go.Vc
set_option maxRecDepth 20000
namespace Nu
theorem aWh {x : Nat} (h : x < 18446744073709551616) : (lb x).getD 0 0 = x := by
 rw [nD (aBC x), fM, Nat.pow_zero, Nat.div_one, Nat.mod_eq_of_lt h]
theorem aTj : Nrm [1000000000000000000] ∧ nv [1000000000000000000] ≠ 0 := by decide
theorem aXG {n M rest : Nat} {m : List Nat} {l : List (List Nat)} (hm : m.length ≤ 100000) (h : TxI n m l M rest) : jH m l = gW l m (txt (M % 1000000000000000000)) := by
 have hr : M % 1000000000000000000 < 1000000000000000000 := Nat.mod_lt _ (by decide)
 have hp : pP m [1000000000000000000] := ⟨by rw [h.m0]; exact wB _, aTj.1, aTj.2, by omega⟩
 unfold jH
 refine aA hp ?_
 have hq : (bG m [1000000000000000000]).2.1 = lb (M % 1000000000000000000) := by rw [h.m0, q18]
 rw [hq]
 by_cases h0 : M % 1000000000000000000 = 0
 ·have ht : txt (M % 1000000000000000000) = aS ⟨#[]⟩ := by unfold txt; rw [if_pos h0]; rfl
  rw [if_neg (by rw [h0, fP]; simp), ht]
 ·have ht : txt (M % 1000000000000000000) = aBv (M % 1000000000000000000) := by unfold txt; rw [if_neg h0]
  have hl := List.length_pos_iff.2 (fun e => h0 (yD.1 e))
  have hf := aML (M % 1000000000000000000) (by omega)
  rw [if_pos (by omega), aWh (by omega), ht]
  simp only [hf, Option.getD_some]
  exact aA (by omega) (aA rfl rfl)
theorem aY4 (k : Nat) {n : Nat} (h : n < 18446744073709551616 ^ k) : bl n ≤ 64 * k := qI (by rw [← oF]; exact h)
theorem aXH (n : Nat) (hn : n < 18446744073709551616 ^ 10000) : aU (lb n) = some (txt n) := by
 have hb := aY4 10000 hn
 have key := cT (step := fun d : (List Nat) × (List (List Nat)) => jH d.1 d.2) (I := fun d => ∃ M rest, TxI n d.1 d.2 M rest) (fun d => nv d.1) (fun e => cat e = txt n ∧ e.length ≤ 1000000) ?_ (lb n, []) ⟨n, 0, ⟨rfl, by simp, by simp, rfl, .inr rfl⟩⟩
 ·obtain ⟨e, h1, h2, h3⟩ := key
  unfold aU
  refine aM h1 ?_
  have hlen : (txt n).length ≤ 1000000 := by
   unfold txt
   split
   ·simp
   ·rename_i h0
    unfold aBv
    rw [qT]
    have a := zW n h0
    have b : 2 ^ (Lib.nDigits n - 1) ≤ 10 ^ (Lib.nDigits n - 1) := Nat.pow_le_pow_left (by decide) _
    have := aGx (Nat.le_trans b a)
    omega
  rw [aXC e (by omega) (by rw [h2]; omega), h2]
 ·rintro ⟨m, l⟩ ⟨M, rest, h⟩
  have h : TxI n m l M rest := h
  have hMn : M ≤ n := by
   rw [h.sum]
   have := Nat.le_mul_of_pos_right M (Nat.pow_pos (n := 18 * l.length) (show 0 < 10 by decide))
   omega
  have hm : m.length ≤ 100000 := by
   rw [h.m0]
   exact Nat.le_trans (kY.2 (Nat.lt_of_le_of_lt hMn hn)) (by decide)
  show (∃ d', jH m l = _ ∧ _) ∨ ∃ e, jH m l = _ ∧ _
  rw [aXG hm h]
  rcases aXF (by omega) h with ⟨m', l', M', rest', k1, k2, k3⟩ | ⟨l', k1, k2, k3⟩
  ·left
   refine ⟨(m', l'), k1, ⟨M', rest', k2⟩, ?_⟩
   show nv m' < nv m
   rw [k2.m0, h.m0, fM, fM]
   exact k3
  ·right
   exact ⟨l', k1, k2, k3⟩
end Nu
end Go.Proofs
namespace Go.Proofs
open Go.Vc
set_option maxRecDepth 20000
namespace Nu
def aIs (k : Nat) (s : List Nat) : List Nat := List.replicate (k + 1 - s.length) 48 ++ s
def ptS (k : Nat) (s : List Nat) : List Nat := if 0 < k then s.take (s.length - k) ++ [46] ++ s.drop (s.length - k) else s
def sgS (neg : Bool) (q : Nat) (s : List Nat) : List Nat := if neg = true ∧ q ≠ 0 then 45 :: s else s
theorem aXI {n : Nat} (h : bl n ≤ 640000) : (txt n).length ≤ 1000000 := by
 unfold txt
 split
 ·simp
 ·rename_i h0
  unfold aBv
  rw [qT]
  have a := zW n h0
  have b : 2 ^ (Lib.nDigits n - 1) ≤ 10 ^ (Lib.nDigits n - 1) := Nat.pow_le_pow_left (by decide) _
  have := aGx (Nat.le_trans b a)
  omega
theorem aZE {n k : Nat} (h : n < 18446744073709551616 ^ k) : bl n ≤ 64 * k := qI (by rw [← oF]; exact h)
theorem aTk (d : Dy) (q : Nat) (s : List Nat) (hs : s.length ≤ 10000000) : lV d (lb q) s = some (sgS d.1 q s, 0, ()) := by
 unfold lV sgS
 have hq : (0 : Int) < ((lb q).length : Int) ↔ q ≠ 0 := by
  constructor
  ·intro h e; rw [e, fP] at h; simp at h
  ·intro h
   have := List.length_pos_iff.2 (fun e => h (yD.1 e))
   omega
 by_cases h : d.1 = true ∧ q ≠ 0
 ·rw [if_pos ⟨h.1, hq.2 h.2⟩, if_pos h]
  refine aA ?_ rfl
  have : (aS ⟨#[45]⟩).length = 1 := rfl
  omega
 ·rw [if_neg (fun hh => h ⟨hh.1, hq.1 hh.2⟩), if_neg h]
theorem aTl (k : Nat) (d : Dy) (q : Nat) (hk : k ≤ 60) (hq : q < 18446744073709551616 ^ 10000) : lW (k : Int) d (lb q) = some (sgS d.1 q (ptS k (aIs k (txt q))), 0, ()) := by
 have hl := aXI (Nat.le_trans (aZE hq) (by decide))
 have ht := aXH q hq
 have hr : aQ (aS ⟨#[48]⟩) (max ((k : Int) + 1 - ((txt q).length : Int)) 0) = some (List.replicate (k + 1 - (txt q).length) 48) := by
  have := aNn (k + 1 - (txt q).length) (by omega)
  rw [show ((k + 1 - (txt q).length : Nat) : Int) = max ((k : Int) + 1 - ((txt q).length : Int)) 0 from by omega] at this
  exact this
 have hp : (aIs k (txt q)).length = k + 1 - (txt q).length + (txt q).length := by unfold aIs; rw [List.length_append, List.length_replicate]
 have e : List.replicate (k + 1 - (txt q).length) 48 ++ txt q = aIs k (txt q) := rfl
 unfold lW
 simp only [ht, Option.getD_some, hr, e]
 refine aA rfl (aA (by constructor <;> omega) (aA (by constructor <;> omega) (aA rfl (aA (by rw [List.length_replicate]; omega) ?_))))
 have h1 : (aS ⟨#[46]⟩) = [46] := rfl
 unfold ptS
 by_cases h : 0 < k
 ·have en : (((aIs k (txt q)).length : Int) - (k : Int)).toNat = (aIs k (txt q)).length - k := by omega
  rw [if_pos (by omega), if_pos h, h1, en]
  have l1 : ((aIs k (txt q)).take ((aIs k (txt q)).length - k)).length = (aIs k (txt q)).length - k := by rw [List.length_take]; omega
  have l2 : ((aIs k (txt q)).drop ((aIs k (txt q)).length - k)).length = k := by rw [List.length_drop]; omega
  refine aA (by constructor <;> omega) (aA (by constructor <;> omega) (aA (by rw [l1]; simp; omega) (aA (by constructor <;> omega) (aA (by constructor <;> omega) (aA (by rw [List.length_append, l1, l2]; simp; omega) ?_)))))
  exact aTk d q _ (by rw [List.length_append, List.length_append, l1, l2]; simp; omega)
 ·rw [if_neg (by omega), if_neg h]
  exact aTk d q _ (by omega)
def txM (d : Dy) (k : Nat) : Nat := nv d.2.1 * 2 ^ (max d.2.2.1 0).toNat * 10 ^ k
def txQ (d : Dy) (k : Nat) (up : Bool) : Nat :=
 let m := txM d k
 let n := (max (-d.2.2.1) 0).toNat
 if m % 2 ^ n ≠ 0 ∧ (up != d.1) = true then m / 2 ^ n + 1 else m / 2 ^ n
def aQL (d : Dy) (k : Int) (up : Bool) : List Nat × Int × Unit :=
 if nS d = false ∨ k < 0 ∨ 60 < k then ([], 1, ())
 else if 2000 < d.2.2.1 ∨ d.2.2.1 < -2000 then ([], 2, ())
 else (sgS d.1 (txQ d k.toNat up) (ptS k.toNat (aIs k.toNat (txt (txQ d k.toNat up)))), 0, ())
theorem aY5 {d : Dy} {k : Nat} (lm : Lm d.2.1) (hl : d.2.1.length ≤ 64) (he : d.2.2.1 ≤ 2000) (hk : k ≤ 60) : txM d k < 18446744073709551616 ^ 200 := by
 have h1 := iB lm
 rw [oF] at h1
 have h2 := kW k
 unfold txM
 have h3 : nv d.2.1 * 2 ^ (max d.2.2.1 0).toNat < 2 ^ (64 * d.2.1.length) * 2 ^ (max d.2.2.1 0).toNat := Nat.mul_lt_mul_of_pos_right h1 (Nat.two_pow_pos _)
 rw [← Nat.pow_add] at h3
 have h4 := Nat.mul_lt_mul_of_lt_of_le h3 h2 (Nat.pow_pos (by decide))
 rw [← Nat.pow_add] at h4
 exact aQE 200 h4 (by omega)
theorem aOV (d : Dy) (k : Int) (up : Bool) (lm : Lm d.2.1) : aP d k up = some (aQL d k up) := by
 unfold aP aQL
 simp only [aCR, Option.getD_some]
 refine aA rfl ?_
 by_cases h1 : nS d = false ∨ k < 0 ∨ 60 < k
 ·rw [if_pos (by rcases h1 with h | h | h; exact .inl (.inl (by rw [h]; decide)); exact .inl (.inr h); exact .inr h), if_pos h1]; rfl
 ·have hm : nS d = true := by
   cases hh : nS d with
   | true => rfl
   | false => exact absurd (.inl hh) h1
  have hk : 0 ≤ k ∧ k ≤ 60 := by omega
  rw [if_neg (by rintro ((h | h) | h); exact h hm; omega; omega), if_neg h1]
  by_cases h2 : 2000 < d.2.2.1 ∨ d.2.2.1 < -2000
  ·rw [if_pos h2, if_pos h2]; rfl
  ·rw [if_neg h2, if_neg h2]
   obtain ⟨a1, a2, a3, a4⟩ := aAM hm
   obtain ⟨j, rfl⟩ : ∃ j : Nat, k = (j : Int) := ⟨k.toNat, by omega⟩
   rw [Int.toNat_natCast]
   have hM := aY5 (k := j) lm a1 (by omega) (by omega)
   have hpw := aCS 10 j (by decide) (by omega)
   have hL : bH d.2.1 (max d.2.2.1 0) = lb (nv d.2.1 * 2 ^ (max d.2.2.1 0).toNat) := rfl
   have hT : bD (lb (nv d.2.1 * 2 ^ (max d.2.2.1 0).toNat)) (lb (10 ^ j)) = lb (txM d j) := by
    unfold bD txM; rw [fM, fM]
   have hLl : (lb (nv d.2.1 * 2 ^ (max d.2.2.1 0).toNat)).length ≤ 200 := by
    refine kY.2 (Nat.lt_of_le_of_lt ?_ hM)
    unfold txM
    exact Nat.le_mul_of_pos_right _ (Nat.pow_pos (by decide))
   have hPl := aR2 (b := 10) (i := j) (by decide)
   have hTl := kY.2 hM
   have hn : max (0 - d.2.2.1) 0 = ((max (-d.2.2.1) 0).toNat : Int) := by omega
   simp only [hpw, Option.getD_some, hL, hT, hn]
   have hR : cM (lb (txM d j)) ((max (-d.2.2.1) 0).toNat : Int) = lb (txM d j / 2 ^ (max (-d.2.2.1) 0).toNat) := by
    unfold cM; rw [fM, Int.toNat_natCast]
   rw [hR]
   have hqlt : txM d j / 2 ^ (max (-d.2.2.1) 0).toNat < 18446744073709551616 ^ 200 := Nat.lt_of_le_of_lt (Nat.div_le_self _ _) hM
   have hP : fR (lb (txM d j / 2 ^ (max (-d.2.2.1) 0).toNat)) [1] = lb (txM d j / 2 ^ (max (-d.2.2.1) 0).toNat + 1) := by
    unfold fR; rw [fM]; rfl
   have hbig : ∀ x, x < 18446744073709551616 ^ 200 → x + 1 < 18446744073709551616 ^ 10000 := fun x hx => by
    have : 18446744073709551616 ^ 200 < 18446744073709551616 ^ 10000 := aZz 200 10000 (by decide)
    exact Nat.lt_of_le_of_lt hx this
   refine aA ⟨by show d.2.1.length ≤ _; omega, by omega, by omega⟩ (aA rfl (aA ⟨by show (lb (nv d.2.1 * 2 ^ (max d.2.2.1 0).toNat)).length ≤ _; omega, by show (lb (10 ^ j)).length ≤ _; omega⟩ (aA (by constructor <;> omega) (aA ⟨by show (lb (txM d j)).length ≤ _; omega, by omega⟩ (aA (fun _ => by show (lb (txM d j)).length ≤ _; omega) ?_)))))
   have hc : ((0 : Int) < ((lb (txM d j)).length : Int) ∧ bX (lb (txM d j)) < ((max (-d.2.2.1) 0).toNat : Int)) ↔ txM d j % 2 ^ (max (-d.2.2.1) 0).toNat ≠ 0 := by
    by_cases h0 : txM d j = 0
    ·rw [h0, fP, Nat.zero_mod]; simp
    ·have hl := List.length_pos_iff.2 (fun e => h0 (yD.1 e))
     have hz : bX (lb (txM d j)) = (tzn (txM d j) : Int) := by unfold bX; rw [fM, if_neg h0]
     rw [hz, ← aTg h0]
     constructor
     ·intro h; omega
     ·intro h; exact ⟨by omega, by omega⟩
   unfold txQ
   simp only
   by_cases h3 : txM d j % 2 ^ (max (-d.2.2.1) 0).toNat ≠ 0 ∧ (up != d.1) = true
   ·rw [if_pos ⟨hc.2 h3.1, h3.2⟩, if_pos h3, hP]
    have hl3 := kY.2 hqlt
    refine aA ⟨by show (lb (txM d j / 2 ^ (max (-d.2.2.1) 0).toNat)).length ≤ _; omega, by show (1 : Nat) ≤ _; decide⟩ ?_
    exact aTl j d _ (by omega) (hbig _ hqlt)
   ·rw [if_neg (fun h => h3 ⟨hc.1 h.1, h.2⟩), if_neg h3]
    exact aTl j d _ (by omega) (Nat.lt_of_succ_lt (hbig _ hqlt))
end Nu
end Go.Proofs
namespace Go.Proofs
open Go.Vc
set_option maxRecDepth 20000
namespace Nu
def aY6 (d : Dy) : Dy := if nS d = true ∧ 0 < d.2.1.length then (!d.1, d.2.1, d.2.2.1, ()) else d
theorem aY7 (d : Dy) (h : d.2.1.length ≤ 1000000) : cF d = some (aY6 d) := by
 have hc : dL d = some d := by
  unfold dL
  exact aA (by show d.2.1.length * 8 ≤ _; omega) rfl
 unfold cF aY6
 simp only [hc, aCR, Option.getD_some]
 refine aA rfl (aA rfl ?_)
 by_cases hh : nS d = true ∧ 0 < d.2.1.length
 ·rw [if_pos ⟨hh.1, by omega⟩, if_pos hh]
 ·rw [if_neg (fun h => hh ⟨h.1, by omega⟩), if_neg hh]
theorem aWi (a b : List Nat) (ha : a.length ≤ 9223372036854775807) : dR a b = some (decide (a = b)) := by
 unfold dR
 by_cases hl : a.length = b.length
 ·rw [if_neg (by omega)]
  have key := eL (step := fun d : Int => cZ a b d) (I := fun i => 0 ≤ i ∧ i ≤ a.length) (fun i => (a.length - i).toNat) (fun i => if a.drop i.toNat = b.drop i.toNat then (.inl () : Unit ⊕ Bool) else .inr false) ?_ 0 ⟨by omega, by omega⟩
  ·have e1 : a.drop ((0 : Int).toNat) = a := rfl
   have e2 : b.drop ((0 : Int).toNat) = b := rfl
   rw [e1, e2] at key
   refine aM key ?_
   by_cases h : a = b
   ·rw [if_pos h, decide_eq_true h]
   ·rw [if_neg h, decide_eq_false h]
  ·rintro i ⟨i0, i1⟩
   show (∃ d', cZ a b i = _ ∧ _) ∨ cZ a b i = _
   unfold cZ
   by_cases hi : i < a.length
   ·have hk : i.toNat < a.length := by omega
    have hk2 : i.toNat < b.length := by omega
    have ea : a.drop i.toNat = a.getD i.toNat 0 :: a.drop (i.toNat + 1) := by
     rw [List.drop_eq_getElem_cons hk, List.getD_eq_getElem?_getD, List.getElem?_eq_getElem hk]; rfl
    have eb : b.drop i.toNat = b.getD i.toNat 0 :: b.drop (i.toNat + 1) := by
     rw [List.drop_eq_getElem_cons hk2, List.getD_eq_getElem?_getD, List.getElem?_eq_getElem hk2]; rfl
    by_cases hx : a.getD i.toNat 0 = b.getD i.toNat 0
    ·left
     refine ⟨i + 1, ?_, ⟨by omega, by omega⟩, by omega, ?_⟩
     ·rw [if_pos hi]
      refine aA (by constructor <;> omega) (aA (by constructor <;> omega) ?_)
      rw [if_neg (fun h => h hx)]
      exact aA (by constructor <;> omega) rfl
     ·rw [ea, eb, hx, show (i + 1).toNat = i.toNat + 1 from by omega]
      simp
    ·right
     rw [if_pos hi]
     refine aA (by constructor <;> omega) (aA (by constructor <;> omega) ?_)
     rw [if_pos hx, if_neg (by rw [ea, eb]; intro h; exact hx (List.cons.inj h).1)]
   ·right
    rw [if_neg hi, List.drop_eq_nil_of_le (by omega), List.drop_eq_nil_of_le (by omega), if_pos rfl]
 ·rw [if_pos (by omega), decide_eq_false (fun h => hl (by rw [h]))]
theorem aXJ (a b : Dy) (ha : a.2.1.length ≤ 9223372036854775807) : eQ a b = some ((a.1 == b.1) && decide (a.2.2.1 = b.2.2.1) && decide (a.2.1 = b.2.1)) := by
 unfold eQ
 simp only [aWi a.2.1 b.2.1 ha, Option.getD_some]
 exact aA (fun _ => rfl) rfl
end Nu
end Go.Proofs
namespace Go.Proofs
open Go.Vc
set_option maxRecDepth 20000
namespace Nu
def qP (d : Dy) : Int := if nS d = false ∨ d.2.1.length = 0 then 0 else if d.1 = true then -1 else 1
theorem aXK (d : Dy) : dP d = some (qP d) := by
 unfold dP qP
 simp only [aCR, Option.getD_some]
 refine aA rfl ?_
 by_cases h : nS d = false ∨ d.2.1.length = 0
 ·rw [if_pos (by rcases h with h | h; exact .inl (by rw [h]; decide); exact .inr (by omega)), if_pos h]
 ·have hm : nS d = true := by
   cases hh : nS d with
   | true => rfl
   | false => exact absurd (.inl hh) h
  rw [if_neg (by rintro (hh | hh); exact hh hm; exact h (.inr (by omega))), if_neg h]
  by_cases hn : d.1 = true
  ·rw [if_pos hn, if_pos hn]
  ·rw [if_neg hn, if_neg hn]
def aHC (a b : Dy) : Int :=
 let x := (bl (nv a.2.1) : Int) + a.2.2.1
 let y := (bl (nv b.2.1) : Int) + b.2.2.1
 let low := min a.2.2.1 b.2.2.1
 if x < y then -1 else if y < x then 1 else aDP (nv a.2.1 * 2 ^ (a.2.2.1 - low).toNat) (nv b.2.1 * 2 ^ (b.2.2.1 - low).toNat)
theorem size_eq (a b : Dy) (la : Lm a.2.1) (lb' : Lm b.2.1) (ha : nS a = true) (hb : nS b = true) : mU a b = some (aHC a b) := by
 obtain ⟨a1, a2, a3, a4⟩ := aAM ha
 obtain ⟨b1, b2, b3, b4⟩ := aAM hb
 have hba : bl (nv a.2.1) ≤ 64 * a.2.1.length := qI (by rw [← oF]; exact iB la)
 have hbb : bl (nv b.2.1) ≤ 64 * b.2.1.length := qI (by rw [← oF]; exact iB lb')
 have e1 : aZ a.2.1 = (bl (nv a.2.1) : Int) := rfl
 have e2 : aZ b.2.1 = (bl (nv b.2.1) : Int) := rfl
 unfold mU aHC
 rw [e1, e2]
 refine aA ⟨a2, by show a.2.1.length ≤ _; omega⟩ (aA (by constructor <;> omega) (aA ⟨b2, by show b.2.1.length ≤ _; omega⟩ (aA (by constructor <;> omega) ?_)))
 simp only
 by_cases h1 : (bl (nv a.2.1) : Int) + a.2.2.1 < (bl (nv b.2.1) : Int) + b.2.2.1
 ·rw [if_pos h1, if_pos h1]
 ·rw [if_neg h1, if_neg h1]
  by_cases h2 : (bl (nv b.2.1) : Int) + b.2.2.1 < (bl (nv a.2.1) : Int) + a.2.2.1
  ·rw [if_pos h2, if_pos h2]
  ·rw [if_neg h2, if_neg h2]
   refine aA (by constructor <;> omega) (aA ⟨by show a.2.1.length ≤ _; omega, by omega, by omega⟩ (aA (by constructor <;> omega) (aA ⟨by show b.2.1.length ≤ _; omega, by omega, by omega⟩ (aA ⟨wB _, wB _⟩ ?_))))
   unfold mQ bH
   rw [fM, fM]
def aY8 (a b : Dy) : Int :=
 if nS a = false ∨ nS b = false then 0
 else if qP a < qP b then -1
 else if qP b < qP a then 1
 else if qP a = 0 then 0
 else qP a * aHC a b
theorem aQM (a b : Dy) : -1 ≤ aHC a b ∧ aHC a b ≤ 1 := by
 unfold aHC
 simp only
 split
 ·decide
 ·split
  ·decide
  ·unfold aDP
   split
   ·decide
   ·split <;> decide
theorem aHD (d : Dy) : qP d = 0 ∨ qP d = 1 ∨ qP d = -1 := by
 unfold qP
 split
 ·exact .inl rfl
 ·split
  ·exact .inr (.inr rfl)
  ·exact .inr (.inl rfl)
theorem aY9 (a b : Dy) (la : Lm a.2.1) (lb' : Lm b.2.1) : gG a b = some (aY8 a b) := by
 have ra := aHD a
 have rb := aHD b
 have rs := aQM a b
 unfold gG aY8
 simp only [aXK, aCR, Option.getD_some]
 refine aA rfl (aA rfl (aA rfl (aA (fun _ => rfl) ?_)))
 by_cases h : nS a = false ∨ nS b = false
 ·rw [if_pos (by rcases h with h | h; exact .inl (by rw [h]; decide); exact .inr (by rw [h]; decide)), if_pos h]
 ·have ha : nS a = true := by
   cases hh : nS a with
   | true => rfl
   | false => exact absurd (.inl hh) h
  have hb : nS b = true := by
   cases hh : nS b with
   | true => rfl
   | false => exact absurd (.inr hh) h
  rw [if_neg (by rintro (hh | hh); exact hh ha; exact hh hb), if_neg h]
  by_cases h1 : qP a < qP b
  ·rw [if_pos ⟨by omega, h1⟩, if_pos h1]
  ·rw [if_neg (fun hh => h1 hh.2), if_neg h1]
   by_cases h2 : qP b < qP a
   ·rw [if_pos (by omega), if_pos h2]
   ·rw [if_neg (by omega), if_neg h2]
    by_cases h3 : qP a = 0
    ·rw [if_pos h3, if_pos h3]
    ·rw [if_neg h3, if_neg h3]
     simp only [size_eq a b la lb' ha hb, Option.getD_some]
     refine aA rfl (aA ?_ rfl)
     rcases ra with r | r | r <;> rw [r] <;> constructor <;> omega
end Nu
end Go.Proofs
namespace Go.Proofs
open Go.Vc
set_option maxRecDepth 20000
namespace Nu
def rG : Dy := (false, [1], -3, ())
def aC5 : Dy := (true, [1], -3, ())
theorem aZa : txt 12 = [49, 50] := by
 unfold txt; rw [if_neg (by decide), aR4 (by decide) (by decide)]
theorem aWj : txt 13 = [49, 51] := by
 unfold txt; rw [if_neg (by decide), aR4 (by decide) (by decide)]
theorem aZb : Lm [1] := by intro x hx; simp at hx; subst hx; decide
theorem aTm : nS rG = true ∧ nS aC5 = true := by decide +kernel
theorem aZ4 : txQ rG 2 false = 12 := by decide +kernel
theorem aZ5 : txQ rG 2 true = 13 := by decide +kernel
theorem aZ6 : txQ aC5 2 false = 13 := by decide +kernel
theorem aZc : aP rG 2 false = some ([48, 46, 49, 50], 0, ()) := by
 rw [aOV rG 2 false aZb]
 unfold aQL
 rw [if_neg (by rw [aTm.1]; decide), if_neg (by decide), show ((2 : Int).toNat) = 2 from rfl, aZ4, aZa]
 rfl
theorem aZd : aP rG 2 true = some ([48, 46, 49, 51], 0, ()) := by
 rw [aOV rG 2 true aZb]
 unfold aQL
 rw [if_neg (by rw [aTm.1]; decide), if_neg (by decide), show ((2 : Int).toNat) = 2 from rfl, aZ5, aWj]
 rfl
theorem aZe : aP aC5 2 false = some ([45, 48, 46, 49, 51], 0, ()) := by
 rw [aOV aC5 2 false aZb]
 unfold aQL
 rw [if_neg (by rw [aTm.2]; decide), if_neg (by decide), show ((2 : Int).toNat) = 2 from rfl, aZ6, aWj]
 rfl
theorem aZf : cF rG = some aC5 := by
 rw [aY7 rG (by decide)]
 unfold aY6
 rw [if_pos ⟨aTm.1, by decide⟩]
 rfl
theorem aOW : bU [48, 46, 49, 50, 53] = ([48, 49, 50, 53], -3, true, ()) := by decide +kernel
theorem aGe : bU [48, 46, 49] = ([48, 49], -1, true, ()) := by decide +kernel
theorem aZ7 : lb 1 = [1] := by rw [aCj (by decide), show 1 / 18446744073709551616 = 0 from by decide, fP]
theorem aZg : bF [48, 46, 49, 50, 53] = some (rG, 0, ()) := by
 rw [aLl _ (by decide)]
 have hN : exN [48, 46, 49, 50, 53] = 125 := by unfold exN; rw [aOW]; decide
 have hD : exD [48, 46, 49, 50, 53] = 125 := by unfold exD; rw [aOW]; decide
 unfold aCT
 rw [hN, hD, aOW, if_neg (by decide), if_neg (by decide), show 125 / 125 = 1 from rfl]
 have ht : tzn 1 = 0 := aAb (m := 0) rfl
 unfold gD
 rw [if_neg (by decide), ht, show 1 / 2 ^ 0 = 1 from rfl, aZ7]
 rfl
theorem aZh : bF [48, 46, 49] = some (d0, 6, ()) := by
 rw [aLl _ (by decide)]
 have hN : exN [48, 46, 49] = 1 := by unfold exN; rw [aGe]; decide
 have hD : exD [48, 46, 49] = 5 := by unfold exD; rw [aGe]; decide
 unfold aCT
 rw [hN, hD, aGe, if_neg (by decide), if_pos (by decide)]
theorem aZi : (bU [49, 46, 53, 101, 45, 51]).2.2.1 = true ∧ (bU [49, 46]).2.2.1 = false ∧ (bU [46, 53]).2.2.1 = false ∧ (bU [49, 101, 49, 48, 49]).2.2.1 = false ∧ (bU []).2.2.1 = false := by decide +kernel
end Nu
end Go.Proofs
namespace Go.Proofs
open Go.Vc
set_option maxRecDepth 20000
namespace Nu
theorem aQN {x : Nat} (h0 : x ≠ 0) (h : x < 18446744073709551616) : lb x = [x] := by
 rw [aCj h0, Nat.mod_eq_of_lt h, Nat.div_eq_of_lt h, fP]
def aMM : Dy := (false, [209715], -21, ())
def aMN : Dy := (false, [838861], -23, ())
theorem aYf : bl 10 = 4 := aPM (k := 3) (by decide) (by decide)
theorem aZ8 : bl 3355443 = 22 := aPM (k := 21) (by decide) (by decide)
theorem aWk : rn 1 10 20 25 = 2 ∧ rM 1 10 20 25 = 838860 ∧ rE 1 10 20 25 = -23 ∧ rS 1 10 20 25 = true := by
 have hq : rq 1 10 25 = 3355443 := by decide
 have hn : rn 1 10 20 25 = 2 := by unfold rn; rw [hq, aZ8]
 refine ⟨hn, ?_, ?_, ?_⟩
 ·unfold rM; rw [hn, hq]
 ·unfold rE; rw [hn]; rfl
 ·unfold rS; rw [hn]; decide
theorem aZF : aQH 1 10 20 25 false = aMM := by
 obtain ⟨h1, h2, h3, h4⟩ := aWk
 have hm : rm2 1 10 20 25 false = 838860 := by unfold rm2; rw [h2, if_neg (by rintro ⟨_, h⟩; cases h)]
 have ht : tzn 838860 = 2 := aAb (m := 104857) (by decide)
 unfold aQH gD
 rw [hm, h3, if_neg (by decide), ht, show 838860 / 2 ^ 2 = 209715 from by decide, aQN (by decide) (by decide)]
 rfl
theorem aZG : aQH 1 10 20 25 true = aMN := by
 obtain ⟨h1, h2, h3, h4⟩ := aWk
 have hm : rm2 1 10 20 25 true = 838861 := by unfold rm2; rw [h2, h4, if_pos ⟨rfl, rfl⟩]
 have ht : tzn 838861 = 0 := aAb (m := 419430) (by decide)
 unfold aQH gD
 rw [hm, h3, if_neg (by decide), ht, show 838861 / 2 ^ 0 = 838861 from by decide, aQN (by decide) (by decide)]
 rfl
theorem aZj : cG [48, 46, 49] 20 = some ((aMM, aMN, ()), 0, ()) := by
 rw [aWc _ _ (by decide)]
 have hA : qF [48, 46, 49] = 1 := by unfold qF; rw [aGe]; decide
 have hB : tF [48, 46, 49] = 10 := by unfold tF; rw [aGe]; decide
 have e1 : uL [48, 46, 49] 20 false = aMM := by
  unfold uL; rw [hA, hB, if_neg (by decide), aYf]; exact aZF
 have e2 : uL [48, 46, 49] 20 true = aMN := by
  unfold uL; rw [hA, hB, if_neg (by decide), aYf]; exact aZG
 unfold aQI
 rw [aGe, if_neg (by decide), if_neg (by decide), show ((20 : Int).toNat) = 20 from rfl, e1, e2]
theorem aZH {x : Nat} (h : x < 18446744073709551616) : Lm [x] := by intro y hy; simp at hy; subst hy; exact h
theorem aZk : gG aMM aMN = some (-1) := by
 rw [aY9 aMM aMN (aZH (by decide)) (aZH (by decide))]
 have b1 : bl (nv [209715]) = 18 := aPM (k := 17) (by decide) (by decide)
 have b2 : bl (nv [838861]) = 20 := aPM (k := 19) (by decide) (by decide)
 have m1 : nS aMM = true ∧ nS aMN = true := by decide +kernel
 have s1 : qP aMM = 1 := by unfold qP; rw [m1.1]; decide
 have s2 : qP aMN = 1 := by unfold qP; rw [m1.2]; decide
 have sz : aHC aMM aMN = -1 := by
  unfold aHC aMM aMN
  simp only [b1, b2]
  decide +kernel
 unfold aY8
 rw [m1.1, m1.2, s1, s2, sz, if_neg (by decide), if_neg (by decide), if_neg (by decide), if_neg (by decide)]
 rfl
theorem aZl : eQ rG rG = some true := by
 rw [aXJ rG rG (by decide)]; decide
theorem aTn : pH = some true := by
 have a := aZc
 have b := aZd
 have n := aZf
 have c := aZe
 have d := aZg
 have e := aZh
 have f := aZj
 have g := aZk
 have h := aZl
 unfold rG at a b n d h
 unfold aC5 at n c
 unfold aMM aMN at f g
 obtain ⟨f1, f2, f3, f4, f5⟩ := aZi
 have s1 : aS ⟨#[48, 46, 49, 50, 53]⟩ = [48, 46, 49, 50, 53] := rfl
 have s2 : aS ⟨#[48, 46, 49]⟩ = [48, 46, 49] := rfl
 have s3 : aS ⟨#[48, 46, 49, 50]⟩ = [48, 46, 49, 50] := rfl
 have s4 : aS ⟨#[48, 46, 49, 51]⟩ = [48, 46, 49, 51] := rfl
 have s5 : aS ⟨#[45, 48, 46, 49, 51]⟩ = [45, 48, 46, 49, 51] := rfl
 have w1 : bT (aS ⟨#[49, 46, 53, 101, 45, 51]⟩) = some true := by rw [show aS ⟨#[49, 46, 53, 101, 45, 51]⟩ = [49, 46, 53, 101, 45, 51] from rfl, aC4 _ (by decide), f1]
 have w2 : bT (aS ⟨#[49, 46]⟩) = some false := by rw [show aS ⟨#[49, 46]⟩ = [49, 46] from rfl, aC4 _ (by decide), f2]
 have w3 : bT (aS ⟨#[46, 53]⟩) = some false := by rw [show aS ⟨#[46, 53]⟩ = [46, 53] from rfl, aC4 _ (by decide), f3]
 have w4 : bT (aS ⟨#[49, 101, 49, 48, 49]⟩) = some false := by rw [show aS ⟨#[49, 101, 49, 48, 49]⟩ = [49, 101, 49, 48, 49] from rfl, aC4 _ (by decide), f4]
 have w5 : bT (aS ⟨#[]⟩) = some false := by rw [show aS ⟨#[]⟩ = [] from rfl, aC4 _ (by decide), f5]
 unfold pH
 simp only [s1, s2, s3, s4, s5, a, b, n, c, d, e, f, g, h, w1, w2, w3, w4, w5, Option.getD_some]
 simp [ck]
 exact ⟨by decide, by decide⟩
end Nu
end Go.Proofs
namespace Go.Proofs
open Go.Vc
set_option maxRecDepth 20000
namespace Nu
def hv : List Nat → Nat
 | [] => 0
 | x :: r => x + 65536 * hv r
def hb (n : Nat) : List Nat := if h : n = 0 then [] else n % 65536 :: hb (n / 65536)
termination_by n
decreasing_by exact Nat.div_lt_self (by omega) (by decide)
def Hm (a : List Nat) : Prop := ∀ x ∈ a, x < 65536
theorem aOX : hv [] = 0 := rfl
theorem oP (x : Nat) (r : List Nat) : hv (x :: r) = x + 65536 * hv r := rfl
theorem gX : hb 0 = [] := by rw [hb]; simp
theorem aD1 {n : Nat} (h : n ≠ 0) : hb n = n % 65536 :: hb (n / 65536) := by rw [hb, dif_neg h]
theorem pJ (n : Nat) : hv (hb n) = n := by
 induction n using Nat.strongRecOn with
 | _ n ih =>
  by_cases h : n = 0
  ·subst h; rw [gX]; rfl
  ·rw [aD1 h, oP, ih (n / 65536) (Nat.div_lt_self (by omega) (by decide))]
   exact Nat.mod_add_div n 65536
theorem rZ (n : Nat) : Hm (hb n) := by
 induction n using Nat.strongRecOn with
 | _ n ih =>
  by_cases h : n = 0
  ·subst h; rw [gX]; intro x hx; cases hx
  ·rw [aD1 h]
   intro x hx
   rcases List.mem_cons.1 hx with rfl | hx
   ·exact Nat.mod_lt _ (by decide)
   ·exact ih (n / 65536) (Nat.div_lt_self (by omega) (by decide)) x hx
theorem aR5 {n : Nat} : hb n = [] ↔ n = 0 := by
 constructor
 ·intro h
  rcases Nat.eq_zero_or_pos n with h0 | h0
  ·exact h0
  ·rw [aD1 (by omega)] at h; cases h
 ·rintro rfl; exact gX
theorem aGf (n : Nat) : Nrm (hb n) := by
 induction n using Nat.strongRecOn with
 | _ n ih =>
  by_cases h : n = 0
  ·subst h; rw [gX]; exact aNY
  ·rw [aD1 h]
   refine aPJ (ih _ (Nat.div_lt_self (by omega) (by decide))) fun e => ?_
   have := aR5.1 e
   intro h0
   have := Nat.div_add_mod n 65536
   omega
theorem aTo {x : Nat} {r : List Nat} (h : Hm (x :: r)) : x < 65536 ∧ Hm r := ⟨h x (by simp), fun y hy => h y (by simp [hy])⟩
theorem aGg {a b : List Nat} (ha : Hm a) (hb : Hm b) : Hm (a ++ b) := fun x hx => (List.mem_append.1 hx).elim (ha x) (hb x)
theorem aNo {a : List Nat} (h : Nrm a) (hne : a ≠ []) : 0 < hv a := by
  induction a with
  | nil => exact absurd rfl hne
  | cons x r ih =>
    rw [oP]
    cases r with
    | nil => have : x ≠ 0 := by simpa [Nrm] using h
             rw [aOX]; omega
    | cons y r =>
      have := ih (aAx h) (by simp)
      have : 65536 * 1 ≤ 65536 * hv (y :: r) := Nat.mul_le_mul_left _ this
      omega
theorem aZI {a : List Nat} (hl : Hm a) (hn : Nrm a) : hb (hv a) = a := by
 induction a with
 | nil => rw [aOX, gX]
 | cons x r ih =>
  have hx := aTo hl
  have hpos : hv (x :: r) ≠ 0 := by have := aNo hn (by simp); omega
  have h1 : hv (x :: r) % 65536 = x := by rw [oP, Nat.add_mul_mod_self_left]; exact Nat.mod_eq_of_lt hx.1
  have h2 : hv (x :: r) / 65536 = hv r := by rw [oP, Nat.add_mul_div_left _ _ (by decide), Nat.div_eq_of_lt hx.1, Nat.zero_add]
  rw [aD1 hpos, h1, h2]
  cases r with
  | nil => rw [aOX, gX]
  | cons y r => rw [ih hx.2 (aAx hn)]
theorem aLn (a b : List Nat) : hv (a ++ b) = hv a + 65536 ^ a.length * hv b := by
 induction a with
 | nil => simp [hv]
 | cons x r ih =>
  rw [List.cons_append, oP, oP, ih, List.length_cons, Nat.pow_succ, Nat.mul_add]
  have : 65536 * (65536 ^ r.length * hv b) = 65536 ^ r.length * 65536 * hv b := by rw [← Nat.mul_assoc, Nat.mul_comm 65536]
  omega
theorem qQ {a : List Nat} (hl : Hm a) : hv a < 65536 ^ a.length := by
 induction a with
 | nil => simp [hv]
 | cons x r ih =>
  have hx := aTo hl
  have := ih hx.2
  rw [oP, List.length_cons, Nat.pow_succ]
  have h2 : 65536 * (hv r + 1) ≤ 65536 * 65536 ^ r.length := Nat.mul_le_mul_left _ this
  rw [Nat.mul_add] at h2
  rw [Nat.mul_comm (65536 ^ r.length)]
  omega
theorem aWl {a : List Nat} (hn : Nrm a) (hne : a ≠ []) : 65536 ^ (a.length - 1) ≤ hv a := by
 induction a with
 | nil => exact absurd rfl hne
 | cons x r ih =>
  cases r with
  | nil => have := aNo hn hne; simp only [List.length_cons, List.length_nil, Nat.zero_add, Nat.sub_self, Nat.pow_zero]; omega
  | cons y r =>
   have := ih (aAx hn) (by simp)
   rw [oP]
   simp only [List.length_cons, Nat.add_sub_cancel] at this ⊢
   rw [Nat.pow_succ, Nat.mul_comm]
   have := Nat.mul_le_mul_left 65536 this
   omega
theorem aOY {n k : Nat} : (hb n).length ≤ k ↔ n < 65536 ^ k := by
 constructor
 ·intro h
  have := qQ (rZ n)
  rw [pJ] at this
  exact Nat.lt_of_lt_of_le this (Nat.pow_le_pow_right (by decide) h)
 ·intro h
  by_cases h0 : n = 0
  ·subst h0; rw [gX]; exact Nat.zero_le _
  ·have hne : hb n ≠ [] := fun e => h0 (aR5.1 e)
   have := aWl (aGf n) hne
   rw [pJ] at this
   have hlt : 65536 ^ ((hb n).length - 1) < 65536 ^ k := Nat.lt_of_le_of_lt this h
   have := (Nat.pow_lt_pow_iff_right (by decide)).1 hlt
   omega
theorem aR6 (n : Nat) : hv (List.replicate n 0) = 0 := by
 induction n with
 | zero => rfl
 | succ n ih => rw [List.replicate_succ, oP, ih]
theorem aOZ (a : List Nat) (k : Nat) : hv a = hv (a.take k) + 65536 ^ (min k a.length) * hv (a.drop k) := by
 have := aLn (a.take k) (a.drop k)
 rw [List.take_append_drop, List.length_take] at this
 exact this
theorem aBw {a : List Nat} (h : Hm a) (k : Nat) : Hm (a.take k) := fun x hx => h x (List.mem_of_mem_take hx)
theorem aTp {a : List Nat} (h : Hm a) (k : Nat) : hv (a.drop k) = hv a / 65536 ^ k := by
 rcases Nat.lt_or_ge k a.length with hk | hk
 ·rw [aOZ a k, Nat.min_eq_left (Nat.le_of_lt hk), Nat.add_mul_div_left _ _ (Nat.pow_pos (by decide)), Nat.div_eq_of_lt, Nat.zero_add]
  have := qQ (aBw h k)
  rw [List.length_take, Nat.min_eq_left (Nat.le_of_lt hk)] at this
  exact this
 ·rw [List.drop_eq_nil_of_le hk, aOX, Nat.div_eq_of_lt]
  exact Nat.lt_of_lt_of_le (qQ h) (Nat.pow_le_pow_right (by decide) hk)
theorem gE {a : List Nat} (h : Hm a) (i : Nat) : a.getD i 0 < 65536 := by
 rw [List.getD_eq_getElem?_getD]
 cases e : a[i]? with
 | none => exact (by decide : (0 : Nat) < 65536)
 | some x => exact h x (List.mem_of_getElem? e)
theorem nL {a : List Nat} {k : Nat} (h : k < a.length) : hv (a.take (k + 1)) = hv (a.take k) + 65536 ^ k * a.getD k 0 := by
 rw [take_succ h, aLn, List.length_take, Nat.min_eq_left (Nat.le_of_lt h)]
 simp [hv]
theorem aR7 {a : List Nat} {k v : Nat} (h : k < a.length) : hv (a.set k v) + 65536 ^ k * a.getD k 0 = hv a + 65536 ^ k * v := by
 induction a generalizing k with
 | nil => simp at h
 | cons x r ih =>
  cases k with
  | zero => simp [hv]; omega
  | succ k =>
   have := ih (k := k) (by simpa using h)
   simp only [List.set_cons_succ, oP, List.getD_cons_succ, Nat.pow_succ]
   have h1 : 65536 ^ k * 65536 * r.getD k 0 = 65536 * (65536 ^ k * r.getD k 0) := by rw [Nat.mul_comm (65536 ^ k) 65536, Nat.mul_assoc]
   have h2 : 65536 ^ k * 65536 * v = 65536 * (65536 ^ k * v) := by rw [Nat.mul_comm (65536 ^ k) 65536, Nat.mul_assoc]
   rw [h1, h2]
   have := congrArg (65536 * ·) this
   simp only [Nat.mul_add] at this
   omega
theorem aR8 {a : List Nat} (h : Hm a) (k : Nat) {v : Nat} (hv : v < 65536) : Hm (a.set k v) := fun x hx => by
 rcases List.mem_or_eq_of_mem_set hx with hx | rfl
 ·exact h x hx
 ·exact hv
theorem aR9 (n : Nat) : Hm (List.replicate n 0) := fun x hx => by
 rw [List.eq_of_mem_replicate hx]; decide
end Nu
end Go.Proofs
namespace Go.Proofs
open Go.Vc
set_option maxRecDepth 20000
namespace Nu
theorem h16 : (65536 : Nat) ^ 4 = 18446744073709551616 := by decide
theorem aO0 (k : Nat) : 65536 ^ (4 * k) = 18446744073709551616 ^ k := by rw [Nat.pow_mul, h16]
theorem pY (k : Nat) : (65536 : Nat) ^ k = 2 ^ (16 * k) := by rw [Nat.pow_mul]
theorem aHE (x : Nat) : x &&& 65535 = x % 65536 := Nat.and_two_pow_sub_one_eq_mod x 16
theorem yR (a : List Nat) (ha : Hm a) (hl : a.length ≤ 4611686018427387904) : fX a = some (hb (hv a)) := by
 unfold fX
 have key := cT (step := fun d : Int => jV a d) (I := fun n => 0 ≤ n ∧ n ≤ a.length ∧ hv (a.take n.toNat) = hv a) (fun n => n.toNat)
  (fun e => 0 ≤ e ∧ e ≤ a.length ∧ a.take e.toNat = hb (hv a)) ?_ (a.length : Int) ⟨by omega, by omega, by rw [Int.toNat_natCast, List.take_length]⟩
 ·obtain ⟨e, h1, h2, h3, h4⟩ := key
  refine aM h1 (aA ⟨h2, h3⟩ ?_)
  rw [h4]
 ·intro n ⟨n0, n1, n2⟩
  show (∃ d', jV a n = _ ∧ _) ∨ ∃ e, jV a n = _ ∧ _
  unfold jV
  by_cases h0 : 0 < n
  ·have hk : n.toNat - 1 < a.length := by omega
   have e1 : (n - 1).toNat = n.toNat - 1 := by omega
   have hs := nL hk
   rw [show n.toNat - 1 + 1 = n.toNat from by omega] at hs
   by_cases hz : a.getD (n.toNat - 1) 0 = 0
   ·left
    refine ⟨n - 1, aA (fun _ => by constructor <;> omega) (aA (fun _ => by constructor <;> omega) ?_), ⟨by omega, by omega, ?_⟩, by omega⟩
    ·rw [e1, if_pos ⟨h0, hz⟩]; exact aA (by constructor <;> omega) rfl
    ·rw [e1, ← n2, hs, hz]; omega
   ·right
    refine ⟨n, aA (fun _ => by constructor <;> omega) (aA (fun _ => by constructor <;> omega) ?_), n0, n1, ?_⟩
    ·rw [e1, if_neg (fun h => hz h.2)]
    ·rw [← n2, aZI (aBw ha _)]
     have hl' : (a.take n.toNat).length = n.toNat := by rw [List.length_take]; omega
     refine (aC1 (by omega)).2 ?_
     rw [hl', List.getD_eq_getElem?_getD, List.getElem?_take_of_lt (by omega), ← List.getD_eq_getElem?_getD]
     exact hz
  ·right
   have e0 : n = 0 := by omega
   subst e0
   refine ⟨0, aA (fun h => absurd h h0) (aA (fun h => absurd h h0) ?_), by omega, by omega, ?_⟩
   ·rw [if_neg (fun h => h0 h.1)]
   ·rw [← n2]; simp [hv, gX]
def aD2 (x k : Nat) : List Nat := (List.range k).map fun j => x / 65536 ^ j % 65536
theorem aNp (x k : Nat) : aD2 x (k + 1) = aD2 x k ++ [x / 65536 ^ k % 65536] := by simp [aD2, List.range_succ]
theorem aLo (x k : Nat) : (aD2 x k).length = k := by simp [aD2]
theorem aXL (x k : Nat) : Hm (aD2 x k) := fun y hy => by
 obtain ⟨j, _, rfl⟩ := List.mem_map.1 hy
 exact Nat.mod_lt _ (by decide)
theorem aXM (x k : Nat) : hv (aD2 x k) = x % 65536 ^ k := by
 induction k with
 | zero => simp [aD2, hv, Nat.mod_one]
 | succ k ih =>
  rw [aNp, aLn, aLo, ih, Nat.pow_succ, Nat.mod_mul]
  simp [hv]
theorem aXN (a : List Nat) (i : Int) (h0 : 0 ≤ i) (h1 : i < a.length) (out : List Nat) (hs : out.length ≤ 1099511627776) :
  cE (fun d : Int × List Nat => hO i a d.1 d.2) (0, out) = some (out ++ aD2 (a.getD i.toNat 0) 4) := by
 refine eL (step := fun d : Int × List Nat => hO i a d.1 d.2) (I := fun d => 0 ≤ d.1 ∧ d.1 ≤ 4 ∧ d.2 = out ++ aD2 (a.getD i.toNat 0) d.1.toNat) (fun d => (4 - d.1).toNat) (fun _ => out ++ aD2 (a.getD i.toNat 0) 4) ?_ (0, out) ⟨by simp, by simp, by simp [aD2]⟩
 rintro ⟨k, o⟩ ⟨k0, k1, k2⟩
 have k0 : 0 ≤ k := k0
 have k1 : k ≤ 4 := k1
 have k2 : o = out ++ aD2 (a.getD i.toNat 0) k.toNat := k2
 show (∃ d', hO i a k o = _ ∧ _) ∨ hO i a k o = _
 unfold hO
 by_cases hk : k < 4
 ·left
  have e1 : (k + 1).toNat = k.toNat + 1 := by omega
  have e2 : ((16 * k) % (18446744073709551616 : Int)).toNat = 16 * k.toNat := by omega
  have e3 : (a.getD i.toNat 0 / 2 ^ (16 * k.toNat)) % 4294967296 % 65536 = a.getD i.toNat 0 / 65536 ^ k.toNat % 65536 := by
   rw [pY]; omega
  have ol : o.length ≤ 1099511627780 := by rw [k2, List.length_append, aLo]; omega
  refine ⟨(k + 1, out ++ aD2 (a.getD i.toNat 0) (k + 1).toNat), ?_, ⟨by simp only; omega, by simp only; omega, rfl⟩, by simp only; omega, rfl⟩
  rw [if_pos hk, aHE, e2, e3]
  refine aA ⟨h0, h1⟩ (aA (by constructor <;> omega) (aA (by omega) (aA (by constructor <;> omega) ?_)))
  rw [e1, aNp, k2, List.append_assoc]
 ·right
  rw [if_neg hk, k2, show k.toNat = 4 from by omega]
theorem aXO (a : List Nat) (ha : Lm a) (hl : a.length ≤ 68719476736) : rR a = some (hb (nv a)) := by
 unfold rR
 have key := cT (step := fun d : Int × List Nat => jW a d.1 d.2) (I := fun d => 0 ≤ d.1 ∧ d.1 ≤ a.length ∧ d.2.length = 4 * d.1.toNat ∧ Hm d.2 ∧ hv d.2 = nv (a.take d.1.toNat)) (fun d => (a.length - d.1).toNat)
  (fun e => e.length = 4 * a.length ∧ Hm e ∧ hv e = nv a) ?_ (0, []) ⟨by simp, by simp, by simp, (fun x hx => by cases hx), by simp [hv, nv]⟩
 ·obtain ⟨e, h1, h2, h3, h4⟩ := key
  refine aM h1 (aM (yR e h3 (by omega)) ?_)
  rw [h4]
 ·rintro ⟨i, o⟩ ⟨i0, i1, i2, i3, i4⟩
  have i0 : 0 ≤ i := i0
  have i1 : i ≤ a.length := i1
  have i2 : o.length = 4 * i.toNat := i2
  have i3 : Hm o := i3
  have i4 : hv o = nv (a.take i.toNat) := i4
  show (∃ d', jW a i o = _ ∧ _) ∨ ∃ e, jW a i o = _ ∧ _
  unfold jW
  by_cases hi : i < a.length
  ·left
   have hk : i.toNat < a.length := by omega
   refine ⟨(i + 1, o ++ aD2 (a.getD i.toNat 0) 4), ?_, ⟨by simp only; omega, by simp only; omega, ?_, ?_, ?_⟩, by simp only; omega⟩
   ·rw [if_pos hi]
    exact aM (aXN a i i0 hi o (by omega)) (aA (by constructor <;> omega) rfl)
   ·simp only; rw [List.length_append, aLo]; omega
   ·exact aGg i3 (aXL _ _)
   ·simp only
    rw [show (i + 1).toNat = i.toNat + 1 from by omega, nB hk, aLn, aXM, i2, i4, aO0, h16, Nat.mod_eq_of_lt (eH ha _)]
  ·right
   have e : i.toNat = a.length := by omega
   rw [e, List.take_length] at i4
   exact ⟨o, by rw [if_neg hi], by rw [i2, e], i3, i4⟩
theorem aWm (n : Nat) (hn : n < 18446744073709551616) : pU n = some (hb n) := by
 unfold pU
 rw [aXO [n] (by intro x hx; simp at hx; subst hx; exact hn) (by simp)]
 simp [nv]
theorem aZJ {o : List Nat} (ho : Lm o) (hl : o = [] ∨ 18446744073709551616 ^ (o.length - 1) ≤ nv o) : o = lb (nv o) := by
 rcases hl with rfl | hl
 ·simp [nv, fP]
 ·by_cases h0 : o.length = 0
  ·rw [List.eq_nil_of_length_eq_zero h0]; simp [nv, fP]
  ·refine (aPK ho ?_).symm
   refine (aC1 (by omega)).2 fun hz => ?_
   have h1 := aS6 (a := o) (by omega)
   rw [hz, Nat.mul_zero, Nat.add_zero] at h1
   have h2 := iB (wM ho (o.length - 1))
   rw [List.length_take, Nat.min_eq_left (by omega)] at h2
   omega
theorem aYg {n : Int} (h : 0 ≤ n) : Int.tdiv n 4 = ((n.toNat / 4 : Nat) : Int) ∧ Int.tmod n 4 = ((n.toNat % 4 : Nat) : Int) := by
 obtain ⟨k, rfl⟩ : ∃ k : Nat, n = (k : Int) := ⟨n.toNat, by omega⟩
 rw [Int.toNat_natCast]
 exact ⟨rfl, rfl⟩
theorem aO1 {n : Int} (h : 0 ≤ n) : Int.tdiv n 16 = ((n.toNat / 16 : Nat) : Int) ∧ Int.tmod n 16 = ((n.toNat % 16 : Nat) : Int) := by
 obtain ⟨k, rfl⟩ : ∃ k : Nat, n = (k : Int) := ⟨n.toNat, by omega⟩
 rw [Int.toNat_natCast]
 exact ⟨rfl, rfl⟩
theorem aII (x y k : Nat) (h : x < 2 ^ k) : x ||| (y * 2 ^ k) = x + y * 2 ^ k := by
 have := Nat.two_pow_add_eq_or_of_lt h y
 rw [Nat.or_comm, Nat.mul_comm y, ← this, Nat.add_comm]
structure aXP (a : List Nat) (i : Int) (o : List Nat) : Prop where
 i0 : 0 ≤ i
 i1 : i ≤ a.length
 len : o.length = (i.toNat + 3) / 4
 lm : Lm o
 sum : nv o = hv (a.take i.toNat)
theorem aQO {a : List Nat} {i : Int} {o : List Nat} (ha : Hm a) (i0 : 0 ≤ i) (hi : i < a.length) (hl : a.length ≤ 1099511627776) (len : o.length = i.toNat / 4 + 1) (lm : Lm o) (sum : nv o = hv (a.take i.toNat)) :
  ∃ o', iQ i a o = some (.inl (i + 1, o')) ∧ aXP a (i + 1) o' := by
 obtain ⟨d1, d2⟩ := aYg i0
 have hk : i.toNat < a.length := by omega
 have hx := gE ha i.toNat
 have e1 : (i + 1).toNat = i.toNat + 1 := by omega
 have hr : i.toNat % 4 < 4 := Nat.mod_lt _ (by decide)
 have e2 : ((16 * ((i.toNat % 4 : Nat) : Int)) % (18446744073709551616 : Int)).toNat = 16 * (i.toNat % 4) := by omega
 have hdm := Nat.div_add_mod i.toNat 4
 have ht := qQ (aBw ha i.toNat)
 rw [List.length_take, Nat.min_eq_left (by omega)] at ht
 have hP : (65536 : Nat) ^ i.toNat = 18446744073709551616 ^ (i.toNat / 4) * 2 ^ (16 * (i.toNat % 4)) := by
  conv => lhs; rw [← hdm]
  rw [Nat.pow_add, aO0, pY]
 have hlow : o.getD (i.toNat / 4) 0 < 2 ^ (16 * (i.toNat % 4)) := by
  rw [nD lm, sum]
  refine Nat.lt_of_le_of_lt (Nat.mod_le _ _) ?_
  refine (Nat.div_lt_iff_lt_mul (Nat.pow_pos (by decide))).2 ?_
  rw [Nat.mul_comm, ← hP]; exact ht
 have hbig : a.getD i.toNat 0 * 2 ^ (16 * (i.toNat % 4)) < 18446744073709551616 ∧ o.getD (i.toNat / 4) 0 + a.getD i.toNat 0 * 2 ^ (16 * (i.toNat % 4)) < 18446744073709551616 := by
  have aux : ∀ x y r : Nat, x < 65536 → r < 4 → y < 2 ^ (16 * r) → x * 2 ^ (16 * r) < 18446744073709551616 ∧ y + x * 2 ^ (16 * r) < 18446744073709551616 := by
   intro x y r h1 h2 h3
   have h4 : r = 0 ∨ r = 1 ∨ r = 2 ∨ r = 3 := by omega
   rcases h4 with rfl | rfl | rfl | rfl <;> simp at h3 ⊢ <;> omega
  exact aux _ _ _ hx hr hlow
 refine ⟨o.set (i.toNat / 4) (o.getD (i.toNat / 4) 0 + a.getD i.toNat 0 * 2 ^ (16 * (i.toNat % 4))), ?_, ⟨by omega, by omega, ?_, tZ lm _ hbig.2, ?_⟩⟩
 ·unfold iQ
  rw [d1, d2, Int.toNat_natCast, e2, Nat.mod_eq_of_lt hbig.1, aII _ _ _ hlow]
  exact aA (by constructor <;> omega) (aA (by constructor <;> omega) (aA (by constructor <;> omega) (aA ⟨i0, hi⟩ (aA (by constructor <;> omega) (aA (by constructor <;> omega) (aA (by constructor <;> omega) rfl))))))
 ·rw [List.length_set, len, e1]; omega
 ·have hs := yE (a := o) (k := i.toNat / 4) (v := o.getD (i.toNat / 4) 0 + a.getD i.toNat 0 * 2 ^ (16 * (i.toNat % 4))) (by omega)
  rw [Nat.mul_add, sum] at hs
  rw [e1, nL hk, hP, Nat.mul_assoc, Nat.mul_comm (2 ^ (16 * (i.toNat % 4)))]
  omega
theorem aWn (n : Nat) (hl : (hb n).length ≤ 1099511627776) : pV (hb n) = some (lb n) := by
 have ha := rZ n
 have hn := aGf n
 have hv' := pJ n
 generalize hb n = a at *
 unfold pV
 have key := cT (step := fun d : Int × List Nat => iR a d.1 d.2) (I := fun d => aXP a d.1 d.2) (fun d => (a.length - d.1).toNat) (fun e => aXP a a.length e) ?_ (0, []) ⟨by simp, by simp, by simp, (fun x hx => by cases hx), by simp [hv, nv]⟩
 ·obtain ⟨e, h1, h2⟩ := key
  refine aM h1 ?_
  have hs := h2.sum
  rw [Int.toNat_natCast, List.take_length, hv'] at hs
  have hlen := h2.len
  rw [Int.toNat_natCast] at hlen
  rw [← hs]
  congr 1
  refine aZJ h2.lm ?_
  by_cases h0 : a.length = 0
  ·left; exact List.eq_nil_of_length_eq_zero (by omega)
  ·right
   have hg := aWl hn (by intro h; rw [h] at h0; exact h0 rfl)
   rw [hv', ← hs] at hg
   refine Nat.le_trans ?_ hg
   rw [← aO0]
   exact Nat.pow_le_pow_right (by decide) (by omega)
 ·rintro ⟨i, o⟩ h
  have h : aXP a i o := h
  have i0 := h.i0
  have i1 := h.i1
  show (∃ d', iR a i o = _ ∧ _) ∨ ∃ e, iR a i o = _ ∧ _
  unfold iR
  obtain ⟨d1, d2⟩ := aYg i0
  by_cases hi : i < a.length
  ·left
   rw [if_pos hi, d2]
   by_cases h4 : i.toNat % 4 = 0
   ·have hlen := h.len
    obtain ⟨o', q1, q2⟩ := aQO (o := o ++ [0]) ha i0 hi hl (by rw [List.length_append, hlen]; simp; omega) (aRk h.lm (by intro x hx; simp at hx; subst hx; decide)) (by rw [aDO]; simp [nv]; exact h.sum)
    refine ⟨(i + 1, o'), ?_, q2, by simp only; omega⟩
    rw [if_pos (by omega)]
    exact aA (by omega) q1
   ·obtain ⟨o', q1, q2⟩ := aQO (o := o) ha i0 hi hl (by rw [h.len]; omega) h.lm h.sum
    refine ⟨(i + 1, o'), ?_, q2, by simp only; omega⟩
    rw [if_neg (by omega)]
    exact q1
  ·right
   have e : i = a.length := by omega
   rw [if_neg hi]
   exact ⟨o, rfl, by rw [← e]; exact h⟩
end Nu
end Go.Proofs
namespace Go.Proofs
open Go.Vc
set_option maxRecDepth 20000
namespace Nu
theorem aNq {a b : List Nat} (ha : Hm a) (hb' : Nrm b) (h : a.length < b.length) : hv a < hv b := by
 have h1 := qQ ha
 have h2 := aWl hb' (by intro e; subst e; simp at h)
 exact Nat.lt_of_lt_of_le h1 (Nat.le_trans (Nat.pow_le_pow_right (by decide) (by omega)) h2)
theorem aXQ (a b : List Nat) (la : Hm a) (lb' : Hm b) (ha : Nrm a) (hb' : Nrm b) (na : a.length ≤ 4611686018427387904) : nI a b = some (aDP (hv a) (hv b)) := by
 unfold nI
 refine aAy (fun h => ?_) (fun h => ?_)
 ·unfold aDP
  rcases Nat.lt_or_ge a.length b.length with hl | hl
  ·have := aNq la hb' hl
   rw [if_pos (by omega), if_pos this]
  ·have hl' : b.length < a.length := by omega
   have := aNq lb' ha hl'
   rw [if_neg (by omega), if_neg (by omega), if_neg (by omega)]
 ·have hlen : a.length = b.length := by omega
  refine aA (by constructor <;> omega) ?_
  have key := eL (step := fun d : Int => lM a b d) (I := fun i => -1 ≤ i ∧ i < a.length ∧ hv (a.drop (i + 1).toNat) = hv (b.drop (i + 1).toNat)) (fun i => (i + 1).toNat)
   (fun i => if hv (a.take (i + 1).toNat) = hv (b.take (i + 1).toNat) then (.inl () : Unit ⊕ Int) else .inr (if hv (a.take (i + 1).toNat) < hv (b.take (i + 1).toNat) then -1 else 1)) ?_ ((a.length : Int) - 1) ⟨by omega, by omega, by rw [List.drop_eq_nil_of_le (by omega), List.drop_eq_nil_of_le (by omega)]⟩
  ·rw [show ((a.length : Int) - 1 + 1).toNat = a.length from by omega, List.take_length] at key
   rw [hlen, List.take_length] at key
   rw [hlen]
   refine aM key ?_
   unfold aDP
   by_cases e : hv a = hv b
   ·simp [e]
   ·by_cases e2 : hv a < hv b <;> simp [e, e2]
  ·intro i ⟨h1, h2, h3⟩
   show (∃ d', lM a b i = _ ∧ _) ∨ lM a b i = _
   unfold lM
   by_cases hi : 0 ≤ i
   ·have hk : (i + 1).toNat = i.toNat + 1 := by omega
    have hia : i.toNat < a.length := by omega
    have hib : i.toNat < b.length := by omega
    rw [if_pos hi, hk, nL hia, nL hib]
    have ta := qQ (aBw la i.toNat)
    have tb := qQ (aBw lb' i.toNat)
    rw [List.length_take, Nat.min_eq_left (by omega)] at ta tb
    by_cases he : a.getD i.toNat 0 = b.getD i.toNat 0
    ·left
     refine ⟨i - 1, aA (by constructor <;> omega) (aA (by constructor <;> omega) ?_), ⟨by omega, by omega, ?_⟩, by omega, ?_⟩
     ·rw [if_neg (by omega)]
      refine aA (by constructor <;> omega) (aA (by constructor <;> omega) ?_)
      rw [if_neg (by omega)]
      exact aA (by constructor <;> omega) rfl
     ·rw [show (i - 1 + 1).toNat = i.toNat from by omega, List.drop_eq_getElem_cons hia, List.drop_eq_getElem_cons hib, oP, oP]
      rw [hk] at h3
      rw [h3]
      rw [List.getD_eq_getElem?_getD, List.getD_eq_getElem?_getD, List.getElem?_eq_getElem hia, List.getElem?_eq_getElem hib] at he
      have he : a[i.toNat] = b[i.toNat] := he
      rw [he]
     ·rw [show (i - 1 + 1).toNat = i.toNat from by omega, he]
      simp only [Nat.add_right_cancel_iff, Nat.add_lt_add_iff_right]
    ·right
     refine aA (by constructor <;> omega) (aA (by constructor <;> omega) ?_)
     generalize a.getD i.toNat 0 = x at *
     generalize b.getD i.toNat 0 = y at *
     generalize hv (a.take i.toNat) = p at *
     generalize hv (b.take i.toNat) = q at *
     generalize 65536 ^ i.toNat = P at *
     rcases Nat.lt_or_ge x y with hxy | hxy
     ·have : P * (x + 1) ≤ P * y := Nat.mul_le_mul_left _ hxy
      rw [Nat.mul_add] at this
      rw [if_pos hxy, if_neg (by omega), if_pos (by omega)]
     ·have hxy' : y < x := by omega
      have : P * (y + 1) ≤ P * x := Nat.mul_le_mul_left _ hxy'
      rw [Nat.mul_add] at this
      rw [if_neg (by omega)]
      refine aA (by constructor <;> omega) (aA (by constructor <;> omega) ?_)
      rw [if_pos hxy', if_neg (by omega), if_neg (by omega)]
   ·right
    have e : i = -1 := by omega
    subst e
    rw [if_neg hi]
    simp [hv]
theorem aO2 (a b : Nat) (h : (hb a).length ≤ 4611686018427387904) : nI (hb a) (hb b) = some (aDP a b) := by
 rw [aXQ _ _ (rZ a) (rZ b) (aGf a) (aGf b) h, pJ, pJ]
theorem aTq {x : Nat} (h : x ≠ 0) : bl x = bl (x / 2) + 1 := by
 by_cases h1 : x = 1
 ·subst h1; rfl
 ·have := aCm (x := x) (k := 1) (by omega)
  rw [Nat.pow_one] at this
  omega
theorem aXR {a : List Nat} (h : 0 < a.length) : hv a = hv (a.take (a.length - 1)) + 65536 ^ (a.length - 1) * a.getD (a.length - 1) 0 := by
 have := nL (a := a) (k := a.length - 1) (by omega)
 rwa [show a.length - 1 + 1 = a.length from by omega, List.take_length] at this
theorem aWo {a : List Nat} (hl : Hm a) (hn : Nrm a) (h : 0 < a.length) : bl (hv a) = 16 * (a.length - 1) + bl (a.getD (a.length - 1) 0) := by
 rw [aXR h, pY]
 refine aN2 ((aC1 h).1 hn) ?_
 have := qQ (aBw hl (a.length - 1))
 rw [List.length_take, Nat.min_eq_left (by omega), pY] at this
 exact this
theorem aFk (n : Nat) (hs : (hb n).length ≤ 1099511627776) : kU (hb n) = some (bl n : Int) := by
 have ha := rZ n
 have hn := aGf n
 have hv' := pJ n
 generalize hb n = a at *
 unfold kU
 by_cases h0 : a.length = 0
 ·have e : a = [] := List.eq_nil_of_length_eq_zero h0
  subst e
  rw [if_pos (by simp), ← hv']; rfl
 ·have hx := gE ha (a.length - 1)
  have hbx : bl (a.getD (a.length - 1) 0) ≤ 16 := qI (by omega)
  have e1 : ((a.length : Int) - 1).toNat = a.length - 1 := by omega
  rw [if_neg (by omega), e1]
  refine aA (by constructor <;> omega) (aA (by constructor <;> omega) (aA (by constructor <;> omega) (aA (by constructor <;> omega) ?_)))
  have key := eL (step := fun d : Int × Nat => jX d.1 d.2) (I := fun d => -1000 ≤ d.1 ∧ d.1 + bl d.2 ≤ 1099511627776000) (fun d => bl d.2) (fun d => d.1 + (bl d.2 : Int)) ?_ (16 * ((a.length : Int) - 1), a.getD (a.length - 1) 0) ⟨by simp only; omega, by simp only; omega⟩
  ·refine aM key ?_
   rw [← hv', aWo ha hn (by omega)]
   congr 1; simp only; omega
  ·rintro ⟨k, x⟩ ⟨k0, k1⟩
   have k0 : -1000 ≤ k := k0
   have k1 : k + bl x ≤ 1099511627776000 := k1
   show (∃ d', jX k x = _ ∧ _) ∨ jX k x = _
   unfold jX
   by_cases hx : 0 < x
   ·left
    have hh := aTq (x := x) (by omega)
    refine ⟨(k + 1, x / 2), ?_, ⟨by simp only; omega, by simp only; omega⟩, by simp only; omega, ?_⟩
    ·rw [if_pos hx]; exact aA (by constructor <;> omega) rfl
    ·simp only; omega
   ·right
    have : x = 0 := by omega
    subst this
    rw [if_neg hx]; simp [aXf]
theorem aZK (y : Nat) {s : Nat} (h : s < 16) : y % 65536 / 2 ^ s % 2 = y / 2 ^ s % 2 := by
 have h16s : (65536 : Nat) = 2 ^ s * 2 ^ (16 - s) := by rw [← Nat.pow_add, show s + (16 - s) = 16 from by omega]
 rw [h16s, Nat.mod_mul_right_div_self]
 refine Nat.mod_mod_of_dvd _ ⟨2 ^ (15 - s), ?_⟩
 rw [← Nat.pow_succ']; congr 1; omega
theorem aTr (n : Nat) (i : Int) (h0 : 0 ≤ i) (h1 : i ≤ 4611686018427387904) (hs : (hb n).length ≤ 1099511627776) : rA (hb n) i = some (n / 2 ^ i.toNat % 2) := by
 have ha := rZ n
 have hv' := pJ n
 generalize hb n = a at *
 obtain ⟨d1, d2⟩ := aO1 h0
 have hdm := Nat.div_add_mod i.toNat 16
 have hr := Nat.mod_lt i.toNat (show 0 < 16 by decide)
 have hP : (2 : Nat) ^ i.toNat = 65536 ^ (i.toNat / 16) * 2 ^ (i.toNat % 16) := by
  conv => lhs; rw [← hdm]
  rw [Nat.pow_add, pY]
 unfold rA
 rw [d1, d2]
 refine aA (by constructor <;> omega) ?_
 by_cases h : a.length ≤ i.toNat / 16
 ·rw [if_pos (by omega)]
  have hlt := qQ ha
  rw [hv'] at hlt
  have : n < 2 ^ i.toNat := by
   rw [hP]
   refine Nat.lt_of_lt_of_le hlt (Nat.le_trans (Nat.pow_le_pow_right (by decide) h) ?_)
   exact Nat.le_mul_of_pos_right _ (Nat.two_pow_pos _)
  rw [Nat.div_eq_of_lt this]
 ·rw [if_neg (by omega), Int.toNat_natCast]
  refine aA (by constructor <;> omega) (aA (by constructor <;> omega) ?_)
  have e2 : ((((i.toNat % 16 : Nat) : Int)) % (18446744073709551616 : Int)).toNat = i.toNat % 16 := by omega
  have hg : a.getD (i.toNat / 16) 0 = hv a / 65536 ^ (i.toNat / 16) % 65536 := by
   have := aTp ha (i.toNat / 16)
   rw [List.drop_eq_getElem_cons (by omega), oP] at this
   rw [← this, Nat.add_mul_mod_self_left, List.getD_eq_getElem?_getD, List.getElem?_eq_getElem (by omega)]
   exact (Nat.mod_eq_of_lt (ha _ (List.getElem_mem _))).symm
  rw [e2, aTf, hg, hv', hP, ← Nat.div_div_eq_div_mul]
  exact congrArg some (aZK _ hr)
theorem aTs (n : Nat) (hn : n ≠ 0) (hs : (hb n).length ≤ 1099511627776) : rD (hb n) = some (tzn n : Int) := by
 obtain ⟨m, hm⟩ := sQ hn
 have hb1 : tzn n ≤ 1099511627776000 := by
  have h1 := aRm hn
  have h2 := qQ (rZ n)
  rw [pJ, pY] at h2
  have := (Nat.pow_lt_pow_iff_right (show 1 < 2 by decide)).1 (Nat.lt_of_le_of_lt h1 h2)
  omega
 unfold rD
 refine aM (eL (step := fun d : Int => lS (hb n) d) (I := fun i => 0 ≤ i ∧ i ≤ tzn n) (fun i => (tzn n - i).toNat) (fun _ => (tzn n : Int)) ?_ 0 ⟨by omega, by omega⟩) rfl
 intro i ⟨i0, i1⟩
 show (∃ d', lS (hb n) i = _ ∧ _) ∨ lS (hb n) i = _
 unfold lS
 have hbit := aTr n i i0 (by omega) hs
 by_cases hi : i < tzn n
 ·left
  have e0 : n / 2 ^ i.toNat % 2 = 0 := by
   have : 2 ^ tzn n = 2 ^ i.toNat * (2 * 2 ^ (tzn n - i.toNat - 1)) := by
    rw [← Nat.mul_assoc, Nat.mul_comm _ 2, ← Nat.pow_succ', ← Nat.pow_add]; congr 1; omega
   rw [hm, this, Nat.mul_assoc, Nat.mul_div_cancel_left _ (Nat.two_pow_pos _), Nat.mul_assoc]
   exact Nat.mul_mod_right 2 _
  refine ⟨i + 1, aM hbit ?_, ⟨by omega, by omega⟩, by omega, rfl⟩
  rw [if_pos e0]
  exact aA (by constructor <;> omega) rfl
 ·right
  have e : i.toNat = tzn n := by omega
  have e1 : n / 2 ^ i.toNat % 2 = 1 := by
   rw [e]
   conv => lhs; rw [hm]
   rw [aAb rfl, Nat.mul_div_cancel_left _ (Nat.two_pow_pos _)]; omega
  refine aM hbit ?_
  rw [if_neg (by omega)]
  congr 2; omega
structure aXS (a b : List Nat) (c : Nat) (i : Int) (o : List Nat) : Prop where
 i0 : 0 ≤ i
 i1 : i ≤ max a.length b.length + 1
 c1 : c ≤ 1
 len : o.length = i.toNat
 lm : Hm o
 sum : hv o + 65536 ^ i.toNat * c = hv (a.take i.toNat) + hv (b.take i.toNat)
theorem pZ (b : List Nat) (i : Nat) : hv (b.take (i + 1)) = hv (b.take i) + 65536 ^ i * b.getD i 0 := by
 rcases Nat.lt_or_ge i b.length with h | h
 ·exact nL h
 ·rw [List.take_of_length_le (by omega), List.take_of_length_le h, List.getD_eq_getElem?_getD, List.getElem?_eq_none h]
  simp
theorem aLp (a : List Nat) (x : Nat) : hv (a ++ [x]) = hv a + 65536 ^ a.length * x := by rw [aLn]; simp [hv]
theorem aUn {a b : List Nat} {c : Nat} {i : Int} {o : List Nat} (la : Hm a) (lb' : Hm b) (h : aXS a b c i o) (hi : i ≤ max a.length b.length) :
  aXS a b ((c + a.getD i.toNat 0 + b.getD i.toNat 0) / 65536) (i + 1) (o ++ [(c + a.getD i.toNat 0 + b.getD i.toNat 0) % 65536]) := by
 have hx := gE la i.toNat
 have hy := gE lb' i.toNat
 have hc := h.c1
 have h0 := h.i0
 have hl := h.len
 have hs := h.sum
 have e1 : (i + 1).toNat = i.toNat + 1 := by omega
 refine ⟨by omega, by omega, by omega, by rw [List.length_append, hl, e1]; rfl, aGg h.lm (by intro x hx; simp at hx; subst hx; exact Nat.mod_lt _ (by decide)), ?_⟩
 have em := Nat.mod_add_div (c + a.getD i.toNat 0 + b.getD i.toNat 0) 65536
 have e2 := congrArg (65536 ^ i.toNat * ·) em
 simp only [Nat.mul_add] at e2
 rw [e1, aLp, hl, pZ, pZ, Nat.pow_succ, Nat.mul_assoc]
 omega
theorem aTt {a b : List Nat} {i : Int} {o : List Nat} (lb' : Hm b) (i0 : 0 ≤ i) (hs : o.length ≤ 1099511627778) (hi : i ≤ 1099511627776) (c : Nat) (hc : c ≤ 65536) :
  lH i b o c = some (.inl ((c + b.getD i.toNat 0) / 65536, i + 1, o ++ [(c + b.getD i.toNat 0) % 65536])) := by
 have hy := gE lb' i.toNat
 unfold lH
 by_cases h : i < b.length
 ·rw [if_pos h, aHE, Nat.mod_eq_of_lt (show c + b.getD i.toNat 0 < 4294967296 by omega)]
  exact aA ⟨i0, h⟩ (aA (by omega) (aA (by constructor <;> omega) rfl))
 ·have : b.getD i.toNat 0 = 0 := by rw [List.getD_eq_getElem?_getD, List.getElem?_eq_none (by omega)]; rfl
  rw [if_neg h, aHE, this, Nat.add_zero]
  exact aA (by omega) (aA (by constructor <;> omega) rfl)
theorem aXT (a b : List Nat) (la : Hm a) (lb' : Hm b) (ha : a.length ≤ 1099511627775) (hb' : b.length ≤ 1099511627775) : lJ a b = some (hb (hv a + hv b)) := by
 unfold lJ
 have key := cT (step := fun d : Nat × Int × List Nat => lI a b d.1 d.2.1 d.2.2) (I := fun d => aXS a b d.1 d.2.1 d.2.2) (fun d => 2 * (max a.length b.length - d.2.1).toNat + d.1) (fun e => Hm e ∧ e.length ≤ 1099511627777 ∧ hv e = hv a + hv b) ?_ (0, 0, []) ⟨by simp, by simp; omega, by simp, by simp, (fun x hx => by cases hx), by simp [hv]⟩
 ·obtain ⟨e, h1, h2, h3, h4⟩ := key
  refine aM h1 (aM (yR e h2 (by omega)) ?_)
  rw [h4]
 ·rintro ⟨c, i, o⟩ h
  have h : aXS a b c i o := h
  have i0 := h.i0
  have i1 := h.i1
  have hc := h.c1
  have hl := h.len
  show (∃ d', lI a b c i o = _ ∧ _) ∨ ∃ e, lI a b c i o = _ ∧ _
  unfold lI
  have hx := gE la i.toNat
  by_cases hg : (i < a.length ∨ i < b.length) ∨ 0 < c
  ·left
   have hi : i ≤ max a.length b.length := by
    by_cases hge : i ≤ max a.length b.length
    ·exact hge
    ·exfalso
     have hs := h.sum
     rw [List.take_of_length_le (by omega), List.take_of_length_le (by omega)] at hs
     have p1 := qQ la
     have p2 := qQ lb'
     have q1 : 65536 ^ a.length ≤ 65536 ^ (i.toNat - 1) := Nat.pow_le_pow_right (by decide) (by omega)
     have q2 : 65536 ^ b.length ≤ 65536 ^ (i.toNat - 1) := Nat.pow_le_pow_right (by decide) (by omega)
     have q3 : 65536 ^ i.toNat = 65536 ^ (i.toNat - 1) * 65536 := by rw [← Nat.pow_succ]; congr 1; omega
     rw [q3] at hs
     have : 65536 ^ (i.toNat - 1) * 65536 * 1 ≤ 65536 ^ (i.toNat - 1) * 65536 * c := Nat.mul_le_mul_left _ (by omega)
     omega
   have hst := aUn la lb' h hi
   refine ⟨(_, _, _), ?_, hst, ?_⟩
   ·rw [if_pos hg]
    by_cases hia : i < a.length
    ·rw [if_pos hia, Nat.mod_eq_of_lt (show c + a.getD i.toNat 0 < 4294967296 by omega)]
     exact aA ⟨i0, hia⟩ (aTt (a := a) lb' i0 (by omega) (by omega) _ (by omega))
    ·have : a.getD i.toNat 0 = 0 := by rw [List.getD_eq_getElem?_getD, List.getElem?_eq_none (by omega)]; rfl
     rw [if_neg hia, this, Nat.add_zero]
     exact aTt (a := a) lb' i0 (by omega) (by omega) _ (by omega)
   ·simp only
    have hy := gE lb' i.toNat
    by_cases hlt : i < max a.length b.length
    ·have : (c + a.getD i.toNat 0 + b.getD i.toNat 0) / 65536 ≤ 1 := by omega
     omega
    ·have z1 : a.getD i.toNat 0 = 0 := by rw [List.getD_eq_getElem?_getD, List.getElem?_eq_none (by omega)]; rfl
     have z2 : b.getD i.toNat 0 = 0 := by rw [List.getD_eq_getElem?_getD, List.getElem?_eq_none (by omega)]; rfl
     rw [z1, z2]
     omega
  ·right
   have hs := h.sum
   have c0 : c = 0 := by omega
   rw [c0, Nat.mul_zero, Nat.add_zero, List.take_of_length_le (by omega), List.take_of_length_le (by omega)] at hs
   exact ⟨o, by rw [if_neg hg], h.lm, by omega, hs⟩
theorem aIJ (a b : Nat) (ha : (hb a).length ≤ 1099511627775) (hb' : (hb b).length ≤ 1099511627775) : lJ (hb a) (hb b) = some (hb (a + b)) := by
 rw [aXT _ _ (rZ a) (rZ b) ha hb', pJ, pJ]
theorem aBx : hb 1 = [1] := by rw [aD1 (by decide)]; simp [gX]
end Nu
end Go.Proofs
namespace Go.Proofs
open Go.Vc
set_option maxRecDepth 20000
namespace Nu
structure aUo (a b : List Nat) (c : Int) (i : Int) (o : List Nat) : Prop where
 i0 : 0 ≤ i
 i1 : i ≤ a.length
 c0 : 0 ≤ c
 c1 : c ≤ 1
 len : o.length = i.toNat
 lm : Hm o
 sum : hv (a.take i.toNat) + 65536 ^ i.toNat * c.toNat = hv o + hv (b.take i.toNat)
theorem aNr {a b : List Nat} {c c' : Int} {i : Int} {o : List Nat} {d : Nat} (h : aUo a b c i o) (hi : i < a.length) (hd : d < 65536) (hc0 : 0 ≤ c') (hc1 : c' ≤ 1) (e : a.getD i.toNat 0 + 65536 * c'.toNat = c.toNat + d + b.getD i.toNat 0) : aUo a b c' (i + 1) (o ++ [d]) := by
 have h0 := h.i0
 have hs := h.sum
 have hl := h.len
 have e1 : (i + 1).toNat = i.toNat + 1 := by omega
 refine ⟨by omega, by omega, hc0, hc1, by rw [List.length_append, hl, e1]; rfl, aGg h.lm (by intro x hx; simp at hx; subst hx; exact hd), ?_⟩
 have e2 := congrArg (65536 ^ i.toNat * ·) e
 simp only [Nat.mul_add] at e2
 rw [e1, aLp, hl, pZ, pZ, Nat.pow_succ, Nat.mul_assoc]
 omega
theorem w32 {x : Nat} (h : x < 65536) : IntKind.i32.wrap (x : Int) = (x : Int) := by
 simp only [IntKind.wrap, IntKind.signed, IntKind.bits]; simp; omega
theorem aXU {a b : List Nat} {c : Int} {i : Int} {o : List Nat} (la : Hm a) (lb' : Hm b) (hs : a.length ≤ 1099511627776) (h : aUo a b c i o) (hi : i < a.length) :
  ∃ c' o', lN o i ((a.getD i.toNat 0 : Int) - c - (b.getD i.toNat 0 : Int)) = some (.inl (c', i + 1, o')) ∧ aUo a b c' (i + 1) o' := by
 have hx := gE la i.toNat
 have hy := gE lb' i.toNat
 have h0 := h.i0
 have h1 := h.c0
 have h2 := h.c1
 have hl := h.len
 unfold lN
 by_cases hn : (a.getD i.toNat 0 : Int) - c - (b.getD i.toNat 0 : Int) < 0
 ·refine ⟨1, o ++ [a.getD i.toNat 0 + 65536 - c.toNat - b.getD i.toNat 0], ?_, aNr h hi (by omega) (by decide) (by decide) (by omega)⟩
  rw [if_pos hn, show (((a.getD i.toNat 0 : Int) - c - (b.getD i.toNat 0 : Int) + 65536) % 4294967296).toNat = a.getD i.toNat 0 + 65536 - c.toNat - b.getD i.toNat 0 from by omega]
  exact aA (by constructor <;> omega) (aA (by omega) (aA (by constructor <;> omega) rfl))
 ·refine ⟨0, o ++ [a.getD i.toNat 0 - c.toNat - b.getD i.toNat 0], ?_, aNr h hi (by omega) (by decide) (by decide) (by omega)⟩
  rw [if_neg hn, show (((a.getD i.toNat 0 : Int) - c - (b.getD i.toNat 0 : Int)) % 4294967296).toNat = a.getD i.toNat 0 - c.toNat - b.getD i.toNat 0 from by omega]
  exact aA (by omega) (aA (by constructor <;> omega) rfl)
theorem aXV (a b : List Nat) (la : Hm a) (lb' : Hm b) (ha : a.length ≤ 1099511627775) (hab : b.length ≤ a.length) (hle : hv b ≤ hv a) : rB a b = some (hb (hv a - hv b)) := by
 unfold rB
 have key := cT (step := fun d : Int × Int × List Nat => lO a b d.1 d.2.1 d.2.2) (I := fun d => aUo a b d.1 d.2.1 d.2.2) (fun d => (a.length - d.2.1).toNat) (fun e => Hm e ∧ e.length = a.length ∧ hv e = hv a - hv b) ?_ (0, 0, []) ⟨by simp, by simp, by simp, by simp, by simp, (fun x hx => by cases hx), by simp [hv]⟩
 ·obtain ⟨e, h1, h2, h3, h4⟩ := key
  refine aM h1 (aM (yR e h2 (by omega)) ?_)
  rw [h4]
 ·rintro ⟨c, i, o⟩ h
  have h : aUo a b c i o := h
  have i0 := h.i0
  have i1 := h.i1
  have c0 := h.c0
  have c1 := h.c1
  show (∃ d', lO a b c i o = _ ∧ _) ∨ ∃ e, lO a b c i o = _ ∧ _
  unfold lO
  have hx := gE la i.toNat
  have hy := gE lb' i.toNat
  by_cases hi : i < a.length
  ·left
   obtain ⟨c', o', q1, q2⟩ := aXU la lb' (by omega) h hi
   refine ⟨(c', i + 1, o'), ?_, q2, by simp only; omega⟩
   rw [if_pos hi, w32 hx, w32 hy]
   refine aA ⟨i0, hi⟩ (aA (by constructor <;> omega) ?_)
   by_cases hib : i < b.length
   ·rw [if_pos hib]
    exact aA ⟨i0, hib⟩ (aA (by constructor <;> omega) q1)
   ·have hz : b.getD i.toNat 0 = 0 := by rw [List.getD_eq_getElem?_getD, List.getElem?_eq_none (by omega)]; rfl
    rw [hz] at q1
    rw [if_neg hib]
    simpa using q1
  ·right
   have hl := h.len
   have hs := h.sum
   rw [List.take_of_length_le (by omega), List.take_of_length_le (l := b) (by omega)] at hs
   have hlt := qQ h.lm
   rw [hl] at hlt
   refine ⟨o, by rw [if_neg hi], h.lm, by omega, ?_⟩
   have c0' : c.toNat = 0 := by
    rcases Nat.eq_zero_or_pos c.toNat with hz | hz
    ·exact hz
    ·have : 65536 ^ i.toNat * 1 ≤ 65536 ^ i.toNat * c.toNat := Nat.mul_le_mul_left _ hz
     omega
   rw [c0', Nat.mul_zero] at hs
   omega
theorem zX {a b : Nat} (h : a ≤ b) : (hb a).length ≤ (hb b).length := by
 have := qQ (rZ b)
 rw [pJ] at this
 exact aOY.2 (Nat.lt_of_le_of_lt h this)
theorem aXW (a b : Nat) (ha : (hb a).length ≤ 1099511627775) (hle : b ≤ a) : rB (hb a) (hb b) = some (hb (a - b)) := by
 rw [aXV _ _ (rZ a) (rZ b) ha (zX hle) (by rw [pJ, pJ]; exact hle), pJ, pJ]
theorem aZL : fA .u32 = 4294967296 := by decide +kernel
theorem aZM (a b : Nat) : iU .u32 a b = a * b % 4294967296 := by rw [aNv, aZL]
theorem aFl {a : List Nat} (h : Hm a) (k : Nat) : a.getD k 0 = hv a / 65536 ^ k % 65536 := by
 rw [← aTp h]
 rcases Nat.lt_or_ge k a.length with hk | hk
 ·rw [List.drop_eq_getElem_cons hk, oP, Nat.add_mul_mod_self_left, List.getD_eq_getElem?_getD, List.getElem?_eq_getElem hk]
  exact (Nat.mod_eq_of_lt (h _ (List.getElem_mem hk))).symm
 ·rw [List.drop_eq_nil_of_le hk, List.getD_eq_getElem?_getD, List.getElem?_eq_none hk]; rfl
theorem aSa {a : List Nat} (h : Hm a) {k : Nat} (hk : hv a < 65536 ^ k) : a.getD k 0 = 0 := by
 rw [aFl h, Nat.div_eq_of_lt hk]
structure RMJ (b : List Nat) (x : Nat) (i : Int) (o0 : List Nat) (c : Nat) (j : Int) (o : List Nat) : Prop where
 j0 : 0 ≤ j
 j1 : j ≤ b.length
 len : o.length = o0.length
 lm : Hm o
 c1 : c < 65536
 rest : o.drop (i + j).toNat = o0.drop (i + j).toNat
 sum : hv o + 65536 ^ (i + j).toNat * c = hv o0 + 65536 ^ i.toNat * x * hv (b.take j.toNat)
theorem aWp {N N' N0 Q R P o v c c' x y t : Nat} (hP : P = Q * R) (h1 : N' + P * o = N + P * v) (h2 : N + P * c = N0 + Q * x * t) (h3 : v + 65536 * c' = o + x * y + c) : N' + P * 65536 * c' = N0 + Q * x * (t + R * y) := by
 have e := congrArg (P * ·) h3
 simp only [Nat.mul_add] at e
 have e2 : P * (x * y) = Q * x * (R * y) := by
  rw [hP, Nat.mul_assoc, Nat.mul_assoc]; congr 1; rw [Nat.mul_left_comm]
 rw [Nat.mul_add, Nat.mul_assoc P 65536 c']
 omega
theorem aWq {b : List Nat} {x : Nat} {i : Int} {o0 : List Nat} {c : Nat} {j : Int} {o : List Nat} (lb' : Hm b) (hi : 0 ≤ i) (hl : i + b.length ≤ o0.length) (h : RMJ b x i o0 c j o) (hj : j < b.length) {v c' : Nat} (hv1 : v < 65536) (hc' : c' < 65536) (e : v + 65536 * c' = o.getD (i + j).toNat 0 + x * b.getD j.toNat 0 + c) :
  RMJ b x i o0 c' (j + 1) (o.set (i + j).toNat v) := by
 have h0 := h.j0
 have hlen := h.len
 have e1 : (i + (j + 1)).toNat = (i + j).toNat + 1 := by omega
 have e2 : (j + 1).toNat = j.toNat + 1 := by omega
 refine ⟨by omega, by omega, by rw [List.length_set]; exact hlen, aR8 h.lm _ hv1, hc', ?_, ?_⟩
 ·rw [e1, drop_set]; exact uB h.rest
 ·rw [e1, e2, pZ, Nat.pow_succ]
  exact aWp (R := 65536 ^ j.toNat) (by rw [← Nat.pow_add]; congr 1; omega) (aR7 (by omega)) h.sum e
theorem aXX {a b : List Nat} {i : Int} {o0 : List Nat} (hi : 0 ≤ i) (hia : i < a.length) (hs : i + b.length ≤ 9000000000000) (hl : i + b.length ≤ o0.length) (la : Hm a) (lb' : Hm b) (l0 : Hm o0) :
  ∃ e : Nat × List Nat, cE (fun d : Nat × Int × List Nat => jE b i a d.1 d.2.1 d.2.2) (0, 0, o0) = some e ∧ RMJ b (a.getD i.toNat 0) i o0 e.1 b.length e.2 := by
 ·have key := cT (step := fun d : Nat × Int × List Nat => jE b i a d.1 d.2.1 d.2.2) (I := fun d => RMJ b (a.getD i.toNat 0) i o0 d.1 d.2.1 d.2.2) (fun d => (b.length - d.2.1).toNat) (fun e => RMJ b (a.getD i.toNat 0) i o0 e.1 b.length e.2) ?_ (0, 0, o0) ⟨by simp, by simp, rfl, l0, by simp, rfl, by simp [hv]⟩
  ·obtain ⟨e, h1, h2⟩ := key
   exact ⟨e, h1, h2⟩
  ·rintro ⟨c, j, o⟩ h
   have h : RMJ b (a.getD i.toNat 0) i o0 c j o := h
   have h0 := h.j0
   have hlen := h.len
   have h1 := h.j1
   have hx := gE la i.toNat
   have hy := gE lb' j.toNat
   have ho := gE h.lm (i + j).toNat
   have hc := h.c1
   have hp : a.getD i.toNat 0 * b.getD j.toNat 0 ≤ 65535 * 65535 := Nat.mul_le_mul (by omega) (by omega)
   show (∃ d', jE b i a c j o = _ ∧ _) ∨ ∃ e, jE b i a c j o = _ ∧ _
   unfold jE nX
   by_cases hj : j < b.length
   ·left
    have m1 : iU .u32 (a.getD i.toNat 0) (b.getD j.toNat 0) = a.getD i.toNat 0 * b.getD j.toNat 0 := by rw [aZM, Nat.mod_eq_of_lt (by omega)]
    have m2 : (a.getD i.toNat 0 * b.getD j.toNat 0 + o.getD (i + j).toNat 0) % 4294967296 = a.getD i.toNat 0 * b.getD j.toNat 0 + o.getD (i + j).toNat 0 := Nat.mod_eq_of_lt (by omega)
    have m3 : (a.getD i.toNat 0 * b.getD j.toNat 0 + o.getD (i + j).toNat 0 + c) % 4294967296 = a.getD i.toNat 0 * b.getD j.toNat 0 + o.getD (i + j).toNat 0 + c := Nat.mod_eq_of_lt (by omega)
    simp only [m1, m2, m3, aHE]
    generalize hz : a.getD i.toNat 0 * b.getD j.toNat 0 + o.getD (i + j).toNat 0 + c = z
    have hzl : z < 4294967296 := by omega
    have hst := aWq lb' hi hl h hj (v := z % 65536) (c' := z / 65536) (Nat.mod_lt _ (by decide)) (by omega) (by omega)
    refine ⟨(z / 65536, j + 1, o.set (i + j).toNat (z % 65536)), ?_, hst, by simp only; omega⟩
    rw [if_pos hj, if_neg (by omega), Nat.add_zero, Nat.mod_eq_of_lt (show z / 65536 < 4294967296 by omega)]
    exact aA ⟨hi, hia⟩ (aA ⟨h0, hj⟩ (aA (by constructor <;> omega) (aA (by constructor <;> omega) (aA (by constructor <;> omega) (aA (by constructor <;> omega) (aA (by constructor <;> omega) rfl))))))
   ·right
    have e : j = b.length := by omega
    rw [e] at h
    exact ⟨(c, o), by rw [if_neg hj], h⟩
end Nu
end Go.Proofs
namespace Go.Proofs
open Go.Vc
set_option maxRecDepth 20000
namespace Nu
theorem aWr {o : List Nat} {k : Int} {c : Nat} (hk : 0 ≤ k) (hl : k < o.length) (hs : o.length ≤ 9000000000000) (lm : Hm o) (hz : o.getD k.toNat 0 = 0) (hc : c < 65536) :
  ∃ e, cE (fun d : Nat × Int × List Nat => eT d.1 d.2.1 d.2.2) (c, k, o) = some e ∧ Hm e ∧ e.length = o.length ∧ hv e = hv o + 65536 ^ k.toNat * c := by
 have hset := aR7 (a := o) (k := k.toNat) (v := c) (by omega)
 rw [hz, Nat.mul_zero, Nat.add_zero] at hset
 refine cT (step := fun d : Nat × Int × List Nat => eT d.1 d.2.1 d.2.2) (I := fun d => d = (c, k, o) ∨ d = (0, k + 1, o.set k.toNat c)) (fun d => d.1) (fun e => Hm e ∧ e.length = o.length ∧ hv e = hv o + 65536 ^ k.toNat * c) ?_ (c, k, o) (.inl rfl)
 rintro d (rfl | rfl)
 ·show (∃ d', eT c k o = _ ∧ _) ∨ ∃ e, eT c k o = _ ∧ _
  unfold eT
  by_cases h0 : 0 < c
  ·left
   refine ⟨(0, k + 1, o.set k.toNat c), ?_, .inr rfl, h0⟩
   rw [if_pos h0, hz, Nat.add_zero, Nat.mod_eq_of_lt (show c < 4294967296 by omega), aHE, Nat.mod_eq_of_lt hc, Nat.div_eq_of_lt hc]
   exact aA ⟨hk, hl⟩ (aA ⟨hk, hl⟩ (aA (by constructor <;> omega) rfl))
  ·right
   have e0 : c = 0 := by omega
   refine ⟨o, by rw [if_neg h0], lm, rfl, by rw [e0, Nat.mul_zero, Nat.add_zero]⟩
 ·right
  show ∃ e, eT 0 (k + 1) (o.set k.toNat c) = _ ∧ _
  unfold eT
  refine ⟨o.set k.toNat c, by rw [if_neg (by omega)], aR8 lm _ hc, by rw [List.length_set], hset⟩
structure RMI (a b : List Nat) (i : Int) (o : List Nat) : Prop where
 i0 : 0 ≤ i
 i1 : i ≤ a.length
 len : o.length = a.length + b.length
 lm : Hm o
 sum : hv o = hv (a.take i.toNat) * hv b
theorem aWs {a b : List Nat} {i : Int} {o : List Nat} (la : Hm a) (lb' : Hm b) (h : RMI a b i o) : hv o < 65536 ^ (i.toNat + b.length) := by
 rw [h.sum, Nat.pow_add]
 have h1 := qQ (aBw la i.toNat)
 have h2 := qQ lb'
 have h3 : (a.take i.toNat).length ≤ i.toNat := by rw [List.length_take]; omega
 have h4 := Nat.lt_of_lt_of_le h1 (Nat.pow_le_pow_right (show 0 < 65536 by decide) h3)
 exact Nat.mul_lt_mul'' h4 h2
theorem aXY (a b : List Nat) (la : Hm a) (lb' : Hm b) (ha : a.length ≤ 1000000000) (hb' : b.length ≤ 1000000000) : iO a b = some (hb (hv a * hv b)) := by
 unfold iO
 have en : ((a.length : Int) + (b.length : Int)).toNat = a.length + b.length := by omega
 refine aA (by constructor <;> omega) (aA (by omega) (aA (by omega) ?_))
 rw [en]
 have key := cT (step := fun d : Int × List Nat => lG a b d.1 d.2) (I := fun d => RMI a b d.1 d.2) (fun d => (a.length - d.1).toNat) (fun e => Hm e ∧ e.length = a.length + b.length ∧ hv e = hv a * hv b) ?_ (0, List.replicate (a.length + b.length) 0) ⟨by simp, by simp, by simp, aR9 _, by rw [aR6]; simp [hv]⟩
 ·obtain ⟨e, h1, h2, h3, h4⟩ := key
  refine aM h1 (aM (yR e h2 (by omega)) ?_)
  rw [h4]
 ·rintro ⟨i, o⟩ h
  have h : RMI a b i o := h
  have i0 := h.i0
  have i1 := h.i1
  have hl := h.len
  show (∃ d', lG a b i o = _ ∧ _) ∨ ∃ e, lG a b i o = _ ∧ _
  unfold lG
  by_cases hi : i < a.length
  ·left
   obtain ⟨⟨c, o1⟩, q1, q2⟩ := aXX (o0 := o) i0 hi (by omega) (by omega) la lb' h.lm
   have q2 : RMJ b (a.getD i.toNat 0) i o c b.length o1 := q2
   have e1 : (i + 1).toNat = i.toNat + 1 := by omega
   have e2 : (i + (b.length : Int)).toNat = i.toNat + b.length := by omega
   have l1 := q2.len
   have hz : o1.getD (i + (b.length : Int)).toNat 0 = 0 := by
    rw [aA7 q2.rest, e2]
    exact aSa h.lm (aWs la lb' h)
   obtain ⟨o2, p1, p2, p3, p4⟩ := aWr (o := o1) (k := i + b.length) (c := c) (by omega) (by omega) (by omega) q2.lm hz q2.c1
   refine ⟨(i + 1, o2), ?_, ⟨by simp only; omega, by simp only; omega, by rw [p3]; omega, p2, ?_⟩, by simp only; omega⟩
   ·rw [if_pos hi]
    refine aM q1 ?_
    unfold qO
    exact aA (by constructor <;> omega) (aM p1 (aA (by constructor <;> omega) rfl))
   ·simp only
    have hs := q2.sum
    rw [p4, hs, e1, pZ, h.sum, Int.toNat_natCast, List.take_length, Nat.add_mul]
  ·right
   have hs := h.sum
   rw [List.take_of_length_le (by omega)] at hs
   exact ⟨o, by rw [if_neg hi], h.lm, hl, hs⟩
theorem aIK (a b : Nat) (ha : (hb a).length ≤ 1000000000) (hb' : (hb b).length ≤ 1000000000) : iO (hb a) (hb b) = some (hb (a * b)) := by
 rw [aXY _ _ (rZ a) (rZ b) ha hb', pJ, pJ]
theorem aQP {x : Nat} (h0 : x ≠ 0) (h : x < 65536) : hb x = [x] := by
 rw [aD1 h0, Nat.mod_eq_of_lt h, Nat.div_eq_of_lt h, gX]
theorem fV (k : Nat) {n m : Nat} (h : n < 2 ^ m) (hm : m ≤ 16 * k) : (hb n).length ≤ k := by
 refine aOY.2 (Nat.lt_of_lt_of_le h ?_)
 rw [pY]
 exact p2m _ _ hm
theorem aWt {b : Nat} (hb0 : b ≠ 0) (hb1 : b < 16) (i : Nat) (hi : i ≤ 10000) : iO (hb (b ^ i)) [b] = some (hb (b ^ (i + 1))) := by
 have h1 : b ^ i ≤ 2 ^ (4 * i) := by
  rw [Nat.pow_mul]; exact Nat.pow_le_pow_left (by omega) i
 have := aIK (b ^ i) b (fV 1000000000 (yQ (4 * i + 1) h1 (by omega)) (by omega)) (fV 1000000000 (m := 4) (by omega) (by decide))
 rw [aQP hb0 (by omega)] at this
 rw [this, Nat.pow_succ]
theorem aO3 (n : Int) (h0 : 0 ≤ n) (h1 : n ≤ 1000) : pF n = some (hb (10 ^ n.toNat)) := by
 unfold pF
 refine aM (eL (step := fun d : List Nat × Int => lK n d.1 d.2) (I := fun d => 0 ≤ d.2 ∧ d.2 ≤ n ∧ d.1 = hb (10 ^ d.2.toNat)) (fun d => (n - d.2).toNat) (fun _ => hb (10 ^ n.toNat)) ?_ ([1], 0) ⟨by simp, by simp; exact h0, by simp [aBx]⟩) rfl
 rintro ⟨o, i⟩ ⟨i0, i1, i2⟩
 have i0 : 0 ≤ i := i0
 have i1 : i ≤ n := i1
 have i2 : o = hb (10 ^ i.toNat) := i2
 show (∃ d', lK n o i = _ ∧ _) ∨ lK n o i = _
 unfold lK
 by_cases hi : i < n
 ·left
  have hp := aWt (b := 10) (by decide) (by decide) i.toNat (by omega)
  rw [← i2] at hp
  refine ⟨(hb (10 ^ (i.toNat + 1)), i + 1), ?_, ⟨by simp only; omega, by simp only; omega, ?_⟩, by simp only; omega, rfl⟩
  ·rw [if_pos hi]
   exact aM hp (aA (by constructor <;> omega) rfl)
  ·simp only; rw [show (i + 1).toNat = i.toNat + 1 from by omega]
 ·right
  rw [if_neg hi, i2, show i = n from by omega]
structure aNs (a : List Nat) (m s : Nat) (c : Nat) (i : Int) (o : List Nat) : Prop where
 i0 : 0 ≤ i
 i1 : i ≤ a.length
 c1 : c < 2 ^ s
 len : o.length = m + i.toNat
 lm : Hm o
 sum : hv o + 65536 ^ (m + i.toNat) * c = 65536 ^ m * 2 ^ s * hv (a.take i.toNat)
theorem aSb {a : List Nat} {m s c : Nat} {i : Int} {o : List Nat} (la : Hm a) (hs : s < 16) (h : aNs a m s c i o) (hi : i < a.length) :
  aNs a m s ((c + a.getD i.toNat 0 * 2 ^ s) / 65536) (i + 1) (o ++ [(c + a.getD i.toNat 0 * 2 ^ s) % 65536]) := by
 have hx := gE la i.toNat
 have hc := h.c1
 have h0 := h.i0
 have hl := h.len
 have hsum := h.sum
 have e1 : (i + 1).toNat = i.toNat + 1 := by omega
 have hz : c + a.getD i.toNat 0 * 2 ^ s < 65536 * 2 ^ s := by
  have := Nat.mul_le_mul_right (2 ^ s) (show a.getD i.toNat 0 + 1 ≤ 65536 by omega)
  rw [Nat.add_mul, Nat.one_mul] at this
  omega
 refine ⟨by omega, by omega, (Nat.div_lt_iff_lt_mul (by decide)).2 (by rw [Nat.mul_comm (2 ^ s) 65536]; exact hz), by rw [List.length_append, hl, e1]; rfl, aGg h.lm (by intro x hx; simp at hx; subst hx; exact Nat.mod_lt _ (by decide)), ?_⟩
 have em := Nat.mod_add_div (c + a.getD i.toNat 0 * 2 ^ s) 65536
 have e2 := congrArg (65536 ^ (m + i.toNat) * ·) em
 simp only [Nat.mul_add] at e2
 have e3 : 65536 ^ m * 2 ^ s * (65536 ^ i.toNat * a.getD i.toNat 0) = 65536 ^ (m + i.toNat) * (a.getD i.toNat 0 * 2 ^ s) := by
  rw [Nat.pow_add, Nat.mul_assoc, Nat.mul_assoc, Nat.mul_left_comm (2 ^ s), Nat.mul_comm (2 ^ s)]
 rw [e1, aLp, hl, nL (by omega), ← Nat.add_assoc, Nat.pow_succ, Nat.mul_assoc, Nat.mul_add, e3, ← hsum]
 omega
theorem aXZ (a : List Nat) (n : Int) (la : Hm a) (h0 : 0 ≤ n) (hn : n ≤ 1000000000) (ha : a.length ≤ 1000000000) (hna : Nrm a) : iP a n = some (hb (hv a * 2 ^ n.toNat)) := by
 obtain ⟨d1, d2⟩ := aO1 h0
 have hdm := Nat.div_add_mod n.toNat 16
 have hr := Nat.mod_lt n.toNat (show 0 < 16 by decide)
 have hP : (2 : Nat) ^ n.toNat = 65536 ^ (n.toNat / 16) * 2 ^ (n.toNat % 16) := by
  conv => lhs; rw [← hdm]
  rw [Nat.pow_add, pY]
 unfold iP
 by_cases hz : a.length = 0
 ·have e : a = [] := List.eq_nil_of_length_eq_zero hz
  subst e
  rw [if_pos (by simp)]
  simp [hv, gX]
 ·rw [if_neg (by omega), d1, Int.toNat_natCast]
  refine aA (by constructor <;> omega) (aA (by omega) (aA (by omega) ?_))
  have key := cT (step := fun d : Nat × Int × List Nat => lL a n d.1 d.2.1 d.2.2) (I := fun d => aNs a (n.toNat / 16) (n.toNat % 16) d.1 d.2.1 d.2.2) (fun d => (a.length - d.2.1).toNat) (fun e => aNs a (n.toNat / 16) (n.toNat % 16) e.1 a.length e.2) ?_ (0, 0, List.replicate (n.toNat / 16) 0) ⟨by simp, by simp, Nat.two_pow_pos _, by simp, aR9 _, by rw [aR6]; simp [hv]⟩
  ·obtain ⟨e, h1, h2⟩ := key
   obtain ⟨c, o⟩ := e
   have h2 : aNs a (n.toNat / 16) (n.toNat % 16) c a.length o := h2
   have hc := h2.c1
   have hl := h2.len
   have hsum := h2.sum
   have hc2 : c < 65536 := Nat.lt_of_lt_of_le hc (by rw [show (65536 : Nat) = 2 ^ 16 from rfl]; exact p2m _ _ (by omega))
   rw [Int.toNat_natCast] at hl hsum
   rw [List.take_length] at hsum
   refine aM h1 (aA (by show (o.length + 1) * 4 ≤ _; omega) (aM (yR (o ++ [c]) (aGg h2.lm (by intro x hx; simp at hx; subst hx; exact hc2)) (by rw [List.length_append]; simp; omega)) ?_))
   rw [aLp, hl, hsum, hP, Nat.mul_comm (hv a)]
  ·rintro ⟨c, i, o⟩ h
   have h : aNs a (n.toNat / 16) (n.toNat % 16) c i o := h
   have i0 := h.i0
   have i1 := h.i1
   have hc := h.c1
   have hl := h.len
   have hx := gE la i.toNat
   show (∃ d', lL a n c i o = _ ∧ _) ∨ ∃ e, lL a n c i o = _ ∧ _
   unfold lL
   rw [d2]
   by_cases hi : i < a.length
   ·left
    have hst := aSb la hr h hi
    refine ⟨(_, _, _), ?_, hst, by simp only; omega⟩
    have e2 : ((((n.toNat % 16 : Nat) : Int)) % (18446744073709551616 : Int)).toNat = n.toNat % 16 := by omega
    have hb1 : a.getD i.toNat 0 * 2 ^ (n.toNat % 16) < 4294967296 := by
     have p1 : 2 ^ (n.toNat % 16) ≤ 32768 := by rw [show (32768 : Nat) = 2 ^ 15 from rfl]; exact p2m _ _ (by omega)
     have := Nat.mul_le_mul (show a.getD i.toNat 0 ≤ 65535 by omega) p1
     omega
    rw [if_pos hi, e2, Nat.mod_eq_of_lt hb1, Nat.or_comm, aII _ _ _ hc, aHE]
    exact aA ⟨i0, hi⟩ (aA (by omega) (aA (by constructor <;> omega) rfl))
   ·right
    have e : i = a.length := by omega
    rw [e] at h
    exact ⟨(c, o), by rw [if_neg hi], h⟩
theorem aIL (x : Nat) (n : Int) (h0 : 0 ≤ n) (hn : n ≤ 1000000000) (hx : (hb x).length ≤ 1000000000) : iP (hb x) n = some (hb (x * 2 ^ n.toNat)) := by
 rw [aXZ _ n (rZ x) h0 hn hx (aGf x), pJ]
theorem aUp {X i m s n : Nat} (hs : s < 16) (hn : n = 16 * m + s) (hi : m ≤ i) : (X / 65536 ^ i % 65536 + X / 65536 ^ (i + 1) % 65536 * 65536) / 2 ^ s % 65536 = X / 2 ^ n / 65536 ^ (i - m) % 65536 := by
 have e1 : X / 2 ^ n / 65536 ^ (i - m) = X / 65536 ^ i / 2 ^ s := by
  rw [Nat.div_div_eq_div_mul, Nat.div_div_eq_div_mul]
  congr 1
  rw [hn, Nat.pow_add, ← pY, Nat.mul_right_comm, ← Nat.pow_add]; congr 2; omega
 rw [e1, Nat.pow_succ, ← Nat.div_div_eq_div_mul]
 generalize X / 65536 ^ i = Y
 have e2 : Y % 65536 + Y / 65536 % 65536 * 65536 = Y % (65536 * 65536) := by rw [Nat.mod_mul, Nat.mul_comm]
 rw [e2]
 have hp : (65536 : Nat) = 2 ^ s * 2 ^ (16 - s) := by rw [← Nat.pow_add, show s + (16 - s) = 16 from by omega]
 have e3 : 65536 * 65536 = 2 ^ s * (2 ^ (16 - s) * 65536) := by rw [← Nat.mul_assoc, ← hp]
 rw [e3, Nat.mod_mul, Nat.add_comm, Nat.mul_add_div (Nat.two_pow_pos _), Nat.div_eq_of_lt (Nat.mod_lt _ (Nat.two_pow_pos _)), Nat.add_zero]
 exact Nat.mod_mul_left_mod _ _ _
structure aYh (X n m : Nat) (l : Nat) (i : Int) (o : List Nat) : Prop where
 i0 : m ≤ i
 i1 : i ≤ l
 len : o.length = i.toNat - m
 lm : Hm o
 sum : hv o = X / 2 ^ n % 65536 ^ (i.toNat - m)
theorem aX0 (a : List Nat) (n : Int) (la : Hm a) (h0 : 0 ≤ n) (hn : n ≤ 1000000000) (ha : a.length ≤ 1000000000) : nJ a n = some (hb (hv a / 2 ^ n.toNat)) := by
 obtain ⟨d1, d2⟩ := aO1 h0
 have hdm := Nat.div_add_mod n.toNat 16
 have hr := Nat.mod_lt n.toNat (show 0 < 16 by decide)
 have hP : (2 : Nat) ^ n.toNat = 65536 ^ (n.toNat / 16) * 2 ^ (n.toNat % 16) := by
  conv => lhs; rw [← hdm]
  rw [Nat.pow_add, pY]
 have hlt := qQ la
 unfold nJ
 rw [d1]
 refine aA (by constructor <;> omega) ?_
 by_cases hz : a.length ≤ n.toNat / 16
 ·rw [if_pos (by omega)]
  have : hv a < 2 ^ n.toNat := by
   rw [hP]
   refine Nat.lt_of_lt_of_le hlt (Nat.le_trans (Nat.pow_le_pow_right (by decide) hz) ?_)
   exact Nat.le_mul_of_pos_right _ (Nat.two_pow_pos _)
  rw [Nat.div_eq_of_lt this, gX]
 ·rw [if_neg (by omega)]
  refine aA (by constructor <;> omega) ?_
  have key := cT (step := fun d : Int × List Nat => lR a n d.1 d.2) (I := fun d => aYh (hv a) n.toNat (n.toNat / 16) a.length d.1 d.2) (fun d => (a.length - d.1).toNat) (fun e => Hm e ∧ e.length ≤ a.length ∧ hv e = hv a / 2 ^ n.toNat) ?_ (((n.toNat / 16 : Nat) : Int), []) ⟨by simp only; omega, by simp only; omega, by simp only; simp, (fun x hx => by cases hx), by simp only; simp [hv, Nat.mod_one]⟩
  ·obtain ⟨e, h1, h2, h3, h4⟩ := key
   refine aM h1 (aM (yR e h2 (by omega)) ?_)
   rw [h4]
  ·rintro ⟨i, o⟩ h
   have h : aYh (hv a) n.toNat (n.toNat / 16) a.length i o := h
   have i0 := h.i0
   have i1 := h.i1
   have hl := h.len
   have hx := gE la i.toNat
   have hy := gE la (i.toNat + 1)
   show (∃ d', lR a n i o = _ ∧ _) ∨ ∃ e, lR a n i o = _ ∧ _
   unfold lR
   by_cases hi : i < a.length
   ·left
    have e1 : (i + 1).toNat = i.toNat + 1 := by omega
    have e2 : ((((n.toNat % 16 : Nat) : Int)) % (18446744073709551616 : Int)).toNat = n.toNat % 16 := by omega
    have hd := aUp (X := hv a) (i := i.toNat) hr hdm.symm (by omega)
    rw [← aFl la, ← aFl la] at hd
    refine ⟨(i + 1, o ++ [hv a / 2 ^ n.toNat / 65536 ^ (i.toNat - n.toNat / 16) % 65536]), ?_, ⟨by simp only; omega, by simp only; omega, by simp only; rw [List.length_append, hl, e1]; simp; omega, aGg h.lm (by intro x hx; simp at hx; subst hx; exact Nat.mod_lt _ (by decide)), ?_⟩, by simp only; omega⟩
    ·unfold nZ
     rw [if_pos hi, e1, d2]
     refine aA ⟨by omega, hi⟩ (aA (by constructor <;> omega) ?_)
     by_cases h2 : i + 1 < a.length
     ·rw [if_pos h2, Nat.mod_eq_of_lt (show a.getD (i.toNat + 1) 0 * 65536 < 4294967296 by omega), e2, aHE]
      have hor := aII (a.getD i.toNat 0) (a.getD (i.toNat + 1) 0) 16 hx
      rw [show (2 : Nat) ^ 16 = 65536 from rfl] at hor
      rw [hor, hd]
      exact aA (by constructor <;> omega) (aA (by constructor <;> omega) (aA (by omega) (aA (by constructor <;> omega) rfl)))
     ·have hz2 : a.getD (i.toNat + 1) 0 = 0 := by rw [List.getD_eq_getElem?_getD, List.getElem?_eq_none (by omega)]; rfl
      rw [hz2, Nat.zero_mul, Nat.add_zero] at hd
      rw [if_neg h2, e2, aHE, hd]
      exact aA (by omega) (aA (by constructor <;> omega) rfl)
    ·simp only
     rw [aLp, hl, h.sum, e1, show i.toNat + 1 - n.toNat / 16 = i.toNat - n.toNat / 16 + 1 from by omega, Nat.pow_succ, Nat.mod_mul]
   ·right
    have e : i.toNat = a.length := by omega
    have hs := h.sum
    rw [e] at hs hl
    refine ⟨o, by rw [if_neg hi], h.lm, by omega, ?_⟩
    rw [hs]
    refine Nat.mod_eq_of_lt ((Nat.div_lt_iff_lt_mul (Nat.two_pow_pos _)).2 (Nat.lt_of_lt_of_le hlt ?_))
    have : 65536 ^ a.length = 65536 ^ (a.length - n.toNat / 16) * 65536 ^ (n.toNat / 16) := by rw [← Nat.pow_add]; congr 1; omega
    rw [this, hP]
    exact Nat.mul_le_mul_left _ (Nat.le_mul_of_pos_right _ (Nat.two_pow_pos _))
theorem aO4 (x : Nat) (n : Int) (h0 : 0 ≤ n) (hn : n ≤ 1000000000) (hx : (hb x).length ≤ 1000000000) : nJ (hb x) n = some (hb (x / 2 ^ n.toNat)) := by
 rw [aX0 _ n (rZ x) h0 hn hx, pJ]
end Nu
end Go.Proofs
namespace Go.Proofs
open Go.Vc
set_option maxRecDepth 20000
namespace Nu
theorem aTu {x y : Nat} : 0 ≤ aDP x y ↔ y ≤ x := by
 unfold aDP
 split
 ·constructor <;> intro h <;> omega
 ·split <;> constructor <;> intro h <;> omega
theorem aWu {q : List Nat} {i Q : Nat} (lm : Hm q) (hi : i / 16 < q.length) (hq : hv q = Q * 2 ^ (i + 1)) :
  q.getD (i / 16) 0 ||| 2 ^ (i % 16) < 65536 ∧ hv (q.set (i / 16) (q.getD (i / 16) 0 ||| 2 ^ (i % 16))) = (2 * Q + 1) * 2 ^ i := by
 have hdm := Nat.div_add_mod i 16
 have hr := Nat.mod_lt i (show 0 < 16 by decide)
 have hP : (2 : Nat) ^ i = 65536 ^ (i / 16) * 2 ^ (i % 16) := by
  conv => lhs; rw [← hdm]
  rw [Nat.pow_add, pY]
 have hL : q.getD (i / 16) 0 = Q % 2 ^ (15 - i % 16) * 2 ^ (i % 16 + 1) := by
  rw [aFl lm, hq, Nat.pow_succ, hP, Nat.mul_assoc, Nat.mul_left_comm, Nat.mul_div_cancel_left _ (Nat.pow_pos (by decide)), ← Nat.pow_succ]
  rw [show (65536 : Nat) = 2 ^ (15 - i % 16) * 2 ^ (i % 16 + 1) from by rw [← Nat.pow_add, show 15 - i % 16 + (i % 16 + 1) = 16 from by omega]]
  exact Nat.mul_mod_mul_right _ _ _
 have hor : q.getD (i / 16) 0 ||| 2 ^ (i % 16) = q.getD (i / 16) 0 + 2 ^ (i % 16) := by
  rw [hL, Nat.or_comm, aII _ _ _ (Nat.pow_lt_pow_right (by decide) (by omega)), Nat.add_comm]
 have hA := Nat.mod_lt Q (Nat.two_pow_pos (15 - i % 16))
 have hb1 : q.getD (i / 16) 0 + 2 ^ (i % 16) < 65536 := by
  rw [hL]
  have h1 := Nat.mul_le_mul_right (2 ^ (i % 16 + 1)) (show Q % 2 ^ (15 - i % 16) + 1 ≤ 2 ^ (15 - i % 16) from hA)
  rw [← Nat.pow_add, show 15 - i % 16 + (i % 16 + 1) = 16 from by omega, Nat.add_mul, Nat.one_mul] at h1
  have h2 : 2 ^ (i % 16 + 1) = 2 ^ (i % 16) * 2 := Nat.pow_succ ..
  have h3 := Nat.two_pow_pos (i % 16)
  have h4 : (2 : Nat) ^ 16 = 65536 := rfl
  omega
 rw [hor]
 refine ⟨hb1, ?_⟩
 have hs := aR7 (a := q) (k := i / 16) (v := q.getD (i / 16) 0 + 2 ^ (i % 16)) hi
 rw [Nat.mul_add, ← hP, hq, Nat.pow_succ] at hs
 rw [Nat.add_mul, Nat.one_mul]
 have : Q * (2 ^ i * 2) = 2 * Q * 2 ^ i := by rw [Nat.mul_comm (2 ^ i), ← Nat.mul_assoc, Nat.mul_comm Q]
 omega
theorem aTv {X Y l : Nat} {i : Int} {q : List Nat} {R Q : Nat} (hY : 0 < Y) (i0 : 0 ≤ i) (hi : i < 16 * (l : Int)) (hl : l ≤ 1000000) (hlen : q.length = l) (lm : Hm q) (hq : hv q = Q * 2 ^ (i.toNat + 1)) (hX : X = R + Y * (2 * Q)) (hR : R < 2 * Y) (hRl : (hb R).length ≤ 1000000) :
  ∃ q', lP (hb Y) i q (hb R) = some (.inl (hb (X % Y), i - 1, q')) ∧ q'.length = l ∧ Hm q' ∧ hv q' = X / Y * 2 ^ i.toNat := by
 obtain ⟨d1, d2⟩ := aO1 i0
 have hr := Nat.mod_lt i.toNat (show 0 < 16 by decide)
 unfold lP
 by_cases hge : Y ≤ R
 ·have e : X = (R - Y) + Y * (2 * Q + 1) := by rw [hX, Nat.mul_add]; omega
  have hm : X % Y = R - Y := by rw [e, Nat.add_mul_mod_self_left, Nat.mod_eq_of_lt (by omega)]
  have hd : X / Y = 2 * Q + 1 := by rw [e, Nat.add_mul_div_left _ _ hY, Nat.div_eq_of_lt (by omega), Nat.zero_add]
  obtain ⟨s1, s2⟩ := aWu (i := i.toNat) lm (by omega) hq
  refine ⟨q.set (i.toNat / 16) (q.getD (i.toNat / 16) 0 ||| 2 ^ (i.toNat % 16)), aM (aO2 R Y (by omega)) ?_, by rw [List.length_set]; exact hlen, aR8 lm _ s1, by rw [s2, hd]⟩
  rw [if_pos (aTu.2 hge)]
  refine aM (aXW R Y (by omega) hge) ?_
  have e2 : ((((i.toNat % 16 : Nat) : Int)) % (18446744073709551616 : Int)).toNat = i.toNat % 16 := by omega
  have e3 : 1 * 2 ^ (i.toNat % 16) % 4294967296 = 2 ^ (i.toNat % 16) := by
   rw [Nat.one_mul]
   refine Nat.mod_eq_of_lt (Nat.lt_of_le_of_lt (p2m _ 15 (by omega)) (by decide))
  rw [d1, d2, e2, e3, Int.toNat_natCast, hm]
  exact aA (by constructor <;> omega) (aA (by constructor <;> omega) (aA (by constructor <;> omega) (aA (by constructor <;> omega) (aA (by constructor <;> omega) rfl))))
 ·have hm : X % Y = R := by rw [hX, Nat.add_mul_mod_self_left, Nat.mod_eq_of_lt (by omega)]
  have hd : X / Y = 2 * Q := by rw [hX, Nat.add_mul_div_left _ _ hY, Nat.div_eq_of_lt (by omega), Nat.zero_add]
  refine ⟨q, aM (aO2 R Y (by omega)) ?_, hlen, lm, ?_⟩
  ·rw [if_neg (fun h => hge (aTu.1 h)), hm]
   exact aA (by constructor <;> omega) rfl
  ·rw [hq, hd, Nat.pow_succ, Nat.mul_comm (2 ^ i.toNat), ← Nat.mul_assoc, Nat.mul_comm Q]
structure aYi (X Y l : Nat) (r : List Nat) (i : Int) (q : List Nat) : Prop where
 i0 : -1 ≤ i
 i1 : i < bl X
 r0 : r = hb (X / 2 ^ (i + 1).toNat % Y)
 len : q.length = l
 lm : Hm q
 sum : hv q = X / 2 ^ (i + 1).toNat / Y * 2 ^ (i + 1).toNat
theorem aO5 {x y : Nat} (h : x < 2 * y) (k : Nat) (hy : (hb y).length ≤ k) : (hb x).length ≤ k + 1 := by
 have h1 := qQ (rZ y)
 rw [pJ] at h1
 have h2 : 65536 ^ (hb y).length ≤ 65536 ^ k := Nat.pow_le_pow_right (by decide) hy
 refine aOY.2 ?_
 rw [Nat.pow_succ]
 omega
theorem aTw (X Y : Nat) (hY : Y ≠ 0) (hx : (hb X).length ≤ 100000) (hy : (hb Y).length ≤ 100000) : rC (hb X) (hb Y) = some (hb (X / Y), hb (X % Y), ()) := by
 have hbX : bl X ≤ 16 * (hb X).length := qI (by rw [← pY]; have := qQ (rZ X); rwa [pJ] at this)
 unfold rC
 refine aM (aFk X (by omega)) (aA (by omega) (aA (by omega) (aA (by constructor <;> omega) ?_)))
 have key := cT (step := fun d : List Nat × Int × List Nat => lQ (hb X) (hb Y) d.1 d.2.1 d.2.2) (I := fun d => aYi X Y (hb X).length d.1 d.2.1 d.2.2) (fun d => (d.2.1 + 1).toNat) (fun e => e.1 = hb (X % Y) ∧ Hm e.2 ∧ e.2.length = (hb X).length ∧ hv e.2 = X / Y) ?_ ([], (bl X : Int) - 1, List.replicate (hb X).length 0) ⟨by simp only; omega, by simp only; omega, ?_, by simp, aR9 _, ?_⟩
 ·obtain ⟨⟨r, q⟩, h1, h2, h3, h4, h5⟩ := key
  have h2 : r = hb (X % Y) := h2
  have h4 : q.length = (hb X).length := h4
  refine aM h1 (aM (yR q h3 (by omega)) ?_)
  rw [h2]
  have h5 : hv q = X / Y := h5
  rw [h5]
 ·rintro ⟨r, i, q⟩ h
  have h : aYi X Y (hb X).length r i q := h
  have i0 := h.i0
  have i1 := h.i1
  show (∃ d', lQ (hb X) (hb Y) r i q = _ ∧ _) ∨ ∃ e, lQ (hb X) (hb Y) r i q = _ ∧ _
  unfold lQ
  by_cases hi : 0 ≤ i
  ·left
   have e1 : (i + 1).toNat = i.toNat + 1 := by omega
   have e2 : (i - 1 + 1).toNat = i.toNat := by omega
   have hsum := h.sum
   have hr0 := h.r0
   rw [e1] at hsum hr0
   have hX' : X / 2 ^ i.toNat = 2 * (X / 2 ^ (i.toNat + 1)) + X / 2 ^ i.toNat % 2 := by
    rw [Nat.pow_succ, ← Nat.div_div_eq_div_mul]; omega
   have hdm := Nat.div_add_mod (X / 2 ^ (i.toNat + 1)) Y
   have hRlt := Nat.mod_lt (X / 2 ^ (i.toNat + 1)) (show 0 < Y by omega)
   have hbt := Nat.mod_lt (X / 2 ^ i.toNat) (show 0 < 2 by decide)
   generalize hA : X / 2 ^ (i.toNat + 1) = A at *
   generalize hB : X / 2 ^ i.toNat % 2 = β at *
   have hl0 : (hb (A % Y)).length ≤ 100001 := aO5 (y := Y) (by omega) 100000 hy
   have hl1 : (hb (A % Y * 2)).length ≤ 100002 := aO5 (y := Y) (by omega) 100001 (by omega)
   have hl2 : (hb (A % Y * 2 + 1)).length ≤ 100002 := aO5 (y := Y) (by omega) 100001 (by omega)
   have hX2 : ∀ b, b = β → X / 2 ^ i.toNat = (A % Y * 2 + b) + Y * (2 * (A / Y)) := fun b hb' => by
    rw [hX', hb']
    have : Y * (2 * (A / Y)) = 2 * (Y * (A / Y)) := Nat.mul_left_comm _ _ _
    omega
   have hS := aIL (A % Y) 1 (by decide) (by decide) (by omega)
   rw [show (2 : Nat) ^ (1 : Int).toNat = 2 from rfl, ← hr0] at hS
   have hbit := aTr X i hi (by omega) (by omega)
   rw [hB] at hbit
   by_cases h1 : β = 1
   ·obtain ⟨q', p1, p2, p3, p4⟩ := aTv (X := X / 2 ^ i.toNat) (Y := Y) (l := (hb X).length) (q := q) (R := A % Y * 2 + 1) (Q := A / Y) (by omega) hi (by omega) (by omega) h.len h.lm hsum (hX2 1 h1.symm) (by omega) (by omega)
    have hA1 := aIJ (A % Y * 2) 1 (by omega) (by rw [aBx]; decide)
    rw [aBx] at hA1
    refine ⟨(hb (X / 2 ^ i.toNat % Y), i - 1, q'), ?_, ⟨by simp only; omega, by simp only; omega, by simp only; rw [e2], p2, p3, by simp only; rw [e2]; exact p4⟩, by simp only; omega⟩
    rw [if_pos hi]
    refine aM hS (aM hbit ?_)
    rw [if_pos h1]
    exact aM hA1 p1
   ·obtain ⟨q', p1, p2, p3, p4⟩ := aTv (X := X / 2 ^ i.toNat) (Y := Y) (l := (hb X).length) (q := q) (R := A % Y * 2) (Q := A / Y) (by omega) hi (by omega) (by omega) h.len h.lm hsum (by have := hX2 0 (by omega); rw [Nat.add_zero] at this; exact this) (by omega) (by omega)
    refine ⟨(hb (X / 2 ^ i.toNat % Y), i - 1, q'), ?_, ⟨by simp only; omega, by simp only; omega, by simp only; rw [e2], p2, p3, by simp only; rw [e2]; exact p4⟩, by simp only; omega⟩
    rw [if_pos hi]
    refine aM hS (aM hbit ?_)
    rw [if_neg h1]
    exact p1
  ·right
   have e : i = -1 := by omega
   have hsum := h.sum
   have hr0 := h.r0
   rw [e, show ((-1 : Int) + 1).toNat = 0 from rfl, Nat.pow_zero, Nat.div_one] at hsum hr0
   rw [Nat.mul_one] at hsum
   exact ⟨(r, q), by rw [if_neg hi], hr0, h.lm, h.len, hsum⟩
 ·simp only
  rw [show ((bl X : Int) - 1 + 1).toNat = bl X from by omega, Nat.div_eq_of_lt (aDh X), Nat.zero_mod, gX]
 ·simp only
  rw [aR6, show ((bl X : Int) - 1 + 1).toNat = bl X from by omega, Nat.div_eq_of_lt (aDh X), Nat.zero_div, Nat.zero_mul]
theorem aFm {M : Nat} : (hb M).length = 0 ↔ M = 0 := ⟨fun h => aR5.1 (List.eq_nil_of_length_eq_zero h), fun h => by rw [h, gX]; rfl⟩
theorem aWv (s : Bool) (M K : Nat) (E : Int) (hM : M < 2 ^ K) (hK : K ≤ 4096) (hE : -910000 ≤ E ∧ E ≤ 910000) :
  rY (s, hb M, E, ()) = some ((if M = 0 then d0 else (s, lb (M / 2 ^ tzn M), E + (tzn M : Int), ())), 0, ()) := by
 have hl := fV 256 hM (by omega)
 unfold rY
 simp only
 by_cases h0 : M = 0
 ·rw [if_pos (by rw [h0, gX]; rfl), if_pos h0]; rfl
 ·have hn : ¬ (((hb M).length : Int) = 0) := fun h => h0 (aFm.1 (by omega))
  have hz := aGa h0 hM
  have hlt : M / 2 ^ tzn M < 2 ^ K := Nat.lt_of_le_of_lt (Nat.div_le_self _ _) hM
  have hl2 := fV 256 hlt (by omega)
  have hS := aO4 M (tzn M) (by omega) (by omega) (by omega)
  rw [Int.toNat_natCast] at hS
  rw [if_neg hn, if_neg h0]
  refine aM (aTs M h0 (by omega)) (aM hS ?_)
  unfold tC
  rw [decide_eq_false (by omega)]
  refine aM rfl ?_
  rw [if_neg (by decide)]
  refine aA (fun _ => by constructor <;> omega) (aA (fun _ => by constructor <;> omega) ?_)
  rw [if_neg (by omega)]
  exact aM (aWn _ (by omega)) (aA (by constructor <;> omega) rfl)
theorem aX1 {M : Nat} (h0 : M ≠ 0) : tzn (M / 2 ^ tzn M) = 0 ∧ M / 2 ^ tzn M ≠ 0 := by
 obtain ⟨p1, p2⟩ := aBt h0
 have : M / 2 ^ tzn M = 2 ^ 0 * (2 * (M / 2 ^ tzn M / 2) + 1) := by rw [Nat.pow_zero, Nat.one_mul]; omega
 exact ⟨aAb this, by omega⟩
theorem aFn (s : Bool) (M K : Nat) (E : Int) (hM : M < 2 ^ K) (hK : K ≤ 4096) (hE : -900000 ≤ E ∧ E ≤ 900000) :
  fY (s, hb M, E, ()) = some ((if M = 0 then d0 else (s, lb (M / 2 ^ tzn M), E + (tzn M : Int), ())), 0, ()) := by
 have hl := fV 256 hM (by omega)
 unfold fY
 simp only
 by_cases h0 : M = 0
 ·rw [if_pos (by rw [h0, gX]; rfl), if_pos h0]; rfl
 ·have hn : ¬ (((hb M).length : Int) = 0) := fun h => h0 (aFm.1 (by omega))
  have hz := aGa h0 hM
  have hlt : M / 2 ^ tzn M < 2 ^ K := Nat.lt_of_le_of_lt (Nat.div_le_self _ _) hM
  have hS := aO4 M (tzn M) (by omega) (by omega) (by omega)
  rw [Int.toNat_natCast] at hS
  obtain ⟨z1, z2⟩ := aX1 h0
  have hN := aWv s (M / 2 ^ tzn M) K (E + (tzn M : Int)) hlt hK (by constructor <;> omega)
  rw [z1, if_neg z2, Nat.pow_zero, Nat.div_one] at hN
  rw [if_neg hn, if_neg h0]
  refine aM (aTs M h0 (by omega)) (aM hS (aA (by constructor <;> omega) (aM hN ?_)))
  simp
end Nu
end Go.Proofs
namespace Go.Proofs
open Go.Vc
set_option maxRecDepth 20000
namespace Nu
theorem aNt {x y : Nat} : aDP x y = 0 ↔ x = y := by
 unfold aDP
 split
 ·constructor <;> intro h <;> omega
 ·split <;> constructor <;> intro h <;> omega
theorem aWw (M n : Nat) : M / 2 ^ n * 2 ^ n = M ↔ M % 2 ^ n = 0 := by
 have e := Nat.div_add_mod M (2 ^ n)
 rw [Nat.mul_comm] at e
 omega
theorem aX2 (M n : Nat) : M / 2 ^ n * 2 ^ n ≤ M := Nat.div_mul_le_self _ _
theorem aX3 (s : Bool) (M p : Nat) (E : Int) (up : Bool) (hp : 1 ≤ p) (hp2 : p ≤ 2000) (hl : (hb M).length ≤ 10000) (hE : -1000000000 ≤ E ∧ E ≤ 1000000000) (hM : p < bl M) :
  uI (s, hb M, E, ()) (p : Int) up = some (s, hb (if (up != s) = true ∧ M % 2 ^ (bl M - p) ≠ 0 then M / 2 ^ (bl M - p) + 1 else M / 2 ^ (bl M - p)), E + ((bl M - p : Nat) : Int), ()) := by
 have hbM : bl M ≤ 160000 := Nat.le_trans (qI (k := 16 * (hb M).length) (by rw [← pY]; have := qQ (rZ M); rwa [pJ] at this)) (by omega)
 have en : (bl M : Int) - (p : Int) = ((bl M - p : Nat) : Int) := by omega
 have h1 : (hb (M / 2 ^ (bl M - p))).length ≤ 10000 := Nat.le_trans (zX (Nat.div_le_self _ _)) hl
 have hS := aO4 M (bl M - p : Nat) (by omega) (by omega) (by omega)
 have hT := aIL (M / 2 ^ (bl M - p)) (bl M - p : Nat) (by omega) (by omega) (by omega)
 have hC := aO2 (M / 2 ^ (bl M - p) * 2 ^ (bl M - p)) M (by have := zX (aX2 M (bl M - p)); omega)
 have hA := aIJ (M / 2 ^ (bl M - p)) 1 (by omega) (by rw [aBx]; decide)
 rw [aBx] at hA
 rw [Int.toNat_natCast] at hS hT
 unfold uI oA
 refine aM (aFk M (by omega)) ?_
 rw [en]
 refine aA (by constructor <;> omega) ?_
 rw [if_neg (by omega)]
 refine aM hS ?_
 simp only [hT, Option.getD_some, hC, Option.isSome_some]
 refine aA (fun _ => trivial) (aA (fun _ => trivial) ?_)
 by_cases hc : (up != s) = true ∧ M % 2 ^ (bl M - p) ≠ 0
 ·rw [if_pos ⟨hc.1, fun h => hc.2 ((aWw _ _).1 (aNt.1 h))⟩, if_pos hc]
  exact aM hA (aA (by constructor <;> omega) rfl)
 ·rw [if_neg (fun h => hc ⟨h.1, fun h2 => h.2 (aNt.2 ((aWw _ _).2 h2))⟩), if_neg hc]
  exact aA (by constructor <;> omega) rfl
theorem aZN (q β n : Nat) (hβ : β ≤ 1) : (2 * q + β) / 2 ^ (n + 1) = q / 2 ^ n ∧ ((2 * q + β) % 2 ^ (n + 1) = 0 ↔ (q % 2 ^ n = 0 ∧ β = 0)) := by
 have e : 2 ^ (n + 1) = 2 * 2 ^ n := by rw [Nat.pow_succ, Nat.mul_comm]
 rw [e]
 constructor
 ·rw [← Nat.div_div_eq_div_mul]; congr 1; omega
 ·rw [Nat.mod_mul]
  have h1 : (2 * q + β) % 2 = β := by omega
  have h2 : (2 * q + β) / 2 = q := by omega
  rw [h1, h2]
  constructor
  ·intro h; constructor <;> omega
  ·rintro ⟨h3, h4⟩; rw [h3, h4]
theorem aZm {A B p k : Nat} (hB : 0 < B) : rS A B p k = true ↔ ¬ (rq A B k % 2 ^ rn A B p k = 0 ∧ A * 2 ^ k % B = 0) := by
 unfold rS
 rw [decide_eq_true_iff, Nat.mod_mul]
 show _ ↔ ¬ (A * 2 ^ k / B % 2 ^ rn A B p k = 0 ∧ _)
 constructor
 ·rintro h ⟨h1, h2⟩; exact h (by rw [h1, h2]; rfl)
 ·intro h h1
  refine h ⟨?_, by omega⟩
  have := Nat.mul_eq_zero.1 (show B * (A * 2 ^ k / B % 2 ^ rn A B p k) = 0 by omega)
  omega
theorem aSc {A K k : Nat} (h : A < 2 ^ K) : A * 2 ^ k < 2 ^ (K + k) := by rw [Nat.pow_add]; exact Nat.mul_lt_mul_of_pos_right h (Nat.two_pow_pos _)
theorem aLq (x b : Nat) (hb1 : b ≤ 1) : (hb (x * 2 + b)).length ≤ (hb x).length + 1 := by
 have h1 := qQ (rZ x)
 rw [pJ] at h1
 refine aOY.2 ?_
 rw [Nat.pow_succ]; omega
theorem aSd (A B p : Nat) (up : Bool) (hB : B ≠ 0) (hA : A ≠ 0) (hA2 : A < 2 ^ 900) (hB2 : B < 2 ^ 900) (hp : 1 ≤ p) (hp2 : p ≤ 2000) :
  ∃ k, 2 ^ p ≤ rq A B k ∧ k ≤ 4000 ∧ dY (false, hb A, 0, ()) (false, hb B, 0, ()) (p : Int) up = some (false, hb (rm2 A B p k up), rE A B p k, ()) := by
 have la := fV 60 hA2 (by decide)
 have lb2 := fV 60 hB2 (by decide)
 have ba := qI hA2
 have bb := qI hB2
 have pa := aCl hA
 refine ⟨p + 3 + bl B - bl A, aLh hA hB (by omega), by omega, ?_⟩
 have hbig : 2 ^ (p + 2) ≤ rq A B (p + 3 + bl B - bl A) := aLh hA hB (by omega)
 have ek : max (0 : Int) ((p : Int) + 3 + (bl B : Int) - (bl A : Int)) = ((p + 3 + bl B - bl A : Nat) : Int) := by omega
 generalize hk : p + 3 + bl B - bl A = k at *
 have hS := aIL A k (by omega) (by omega) (by omega)
 rw [Int.toNat_natCast] at hS
 have hAk := aSc (k := k) hA2
 have lak := fV 1000 hAk (by omega)
 have hD := aTw (A * 2 ^ k) B hB (by omega) (by omega)
 have lq : (hb (rq A B k)).length ≤ 1000 := Nat.le_trans (zX (Nat.div_le_self _ _)) lak
 have hS2 := aIL (rq A B k) 1 (by decide) (by decide) (by omega)
 rw [show (2 : Nat) ^ (1 : Int).toNat = 2 from rfl] at hS2
 have lq2 : (hb (rq A B k * 2)).length ≤ 2000 := Nat.le_trans (aLq (rq A B k) 0 (by decide)) (by omega)
 have lq3 : (hb (rq A B k * 2 + 1)).length ≤ 2000 := Nat.le_trans (aLq (rq A B k) 1 (by decide)) (by omega)
 have hA1 := aIJ (rq A B k * 2) 1 (by omega) (by rw [aBx]; decide)
 rw [aBx] at hA1
 have hq0 : rq A B k ≠ 0 := by have := Nat.two_pow_pos (p + 2); omega
 have hge : p + 2 < bl (rq A B k) := aGx hbig
 have cut : ∀ β, β ≤ 1 → (β = 0 ↔ A * 2 ^ k % B = 0) → gM (false, hb A, 0, ()) (false, hb B, 0, ()) (p : Int) (bl B : Int) (bl A : Int) up (hb (rq A B k * 2 + β)) = some (false, hb (rm2 A B p k up), rE A B p k, ()) := by
  intro β hβ hβ2
  have hbl : bl (rq A B k * 2 + β) = bl (rq A B k) + 1 := by
   have := aTq (x := rq A B k * 2 + β) (by omega)
   rw [show (rq A B k * 2 + β) / 2 = rq A B k from by omega] at this
   exact this
  have hn : bl (rq A B k * 2 + β) - p = rn A B p k + 1 := by rw [hbl]; unfold rn; omega
  have hC := aX3 false (rq A B k * 2 + β) p (0 - 0 - (k : Int) - 1) up hp hp2 (by have := aLq (rq A B k) β hβ; omega) (by constructor <;> omega) (by rw [hbl]; omega)
  obtain ⟨t1, t2⟩ := aZN (rq A B k) β (rn A B p k) hβ
  rw [hn, Nat.mul_comm (rq A B k) 2, t1] at hC
  unfold gM
  simp only [ek]
  refine aA (by decide) (aA (by constructor <;> omega) (aA (by constructor <;> omega) ?_))
  rw [Nat.mul_comm (rq A B k) 2]
  refine aM hC ?_
  have hm : (if (up != false) = true ∧ (2 * rq A B k + β) % 2 ^ (rn A B p k + 1) ≠ 0 then rq A B k / 2 ^ rn A B p k + 1 else rq A B k / 2 ^ rn A B p k) = rm2 A B p k up := by
   unfold rm2 rM
   have hs := aZm (A := A) (B := B) (p := p) (k := k) (by omega)
   by_cases hc : rS A B p k = true ∧ up = true
   ·rw [if_pos hc, if_pos ⟨by rw [hc.2]; rfl, fun h => hs.1 hc.1 ⟨(t2.1 h).1, hβ2.1 (t2.1 h).2⟩⟩]
   ·rw [if_neg hc, if_neg ?_]
    rintro ⟨h1, h2⟩
    have hu : up = true := by revert h1; cases up <;> decide
    exact hc ⟨hs.2 fun h => h2 (t2.2 ⟨h.1, hβ2.2 h.2⟩), hu⟩
  rw [hm]
  congr 4
  unfold rE; omega
 unfold dY
 simp only
 rw [if_neg (fun h => hA (aFm.1 (by omega)))]
 refine aA (by constructor <;> omega) (aM (aFk B (by omega)) (aA (by constructor <;> omega) (aM (aFk A (by omega)) (aA (by constructor <;> omega) ?_))))
 rw [ek]
 refine aM hS (aM hD (aM hS2 ?_))
 by_cases hr : A * 2 ^ k % B = 0
 ·rw [if_neg (by simp only [hr, gX]; simp)]
  exact cut 0 (by decide) ⟨fun _ => hr, fun _ => rfl⟩
 ·have : (hb (A * 2 ^ k % B)).length ≠ 0 := fun h => hr (aFm.1 h)
  rw [if_pos (by simp only; omega)]
  exact aM hA1 (cut 1 (by decide) ⟨fun h => by omega, fun h => absurd h hr⟩)
theorem aTx (s : List Nat) (p : Nat) (up : Bool) (hp : 1 ≤ p) (hp2 : p ≤ 2000) :
  ((dY (false, hb (qF s), 0, ()) (false, hb (tF s), 0, ()) (p : Int) up).bind fun v => fY v) = some (uL s p up, 0, ()) := by
 unfold uL
 by_cases hA : qF s = 0
 ·rw [if_pos hA, hA, gX]
  have h1 : dY (false, [], 0, ()) (false, hb (tF s), 0, ()) (p : Int) up = some (false, [], 0, ()) := by
   unfold dY; rw [if_pos (by simp)]
  have h2 := aFn false 0 1 0 (by decide) (by decide) (by decide)
  rw [gX, if_pos rfl] at h2
  exact aM h1 h2
 ·rw [if_neg hA]
  obtain ⟨k, k1, k2, k3⟩ := aSd (qF s) (tF s) p up (aFj s) hA (aFi s) (aOR s) hp hp2
  obtain ⟨q1, q2⟩ := aQG (A := qF s) (B := tF s) (p := p) (k := k) hA
  have ba := qI (aFi s)
  have hw := aFn false (rm2 (qF s) (tF s) p k up) (p + 1) (rE (qF s) (tF s) p k) aR0 (by omega) (by constructor <;> omega)
  refine aM k3 ?_
  rw [hw]
  have hpos := aCl hA
  obtain ⟨s1, s2, s3⟩ := aV2 hp k1 (aLh (p := p) (k := p + 1 + bl (tF s)) hA (aFj s) (by omega))
  have e1 : rm2 (qF s) (tF s) p (p + 1 + bl (tF s)) up = rm2 (qF s) (tF s) p k up := by unfold rm2; rw [s1, s3]
  unfold aQH gD
  rw [e1, ← s2]
end Nu
end Go.Proofs
namespace Go.Proofs
open Go.Vc
set_option maxRecDepth 20000
namespace Nu
theorem aWx : hb 10 = [10] := aQP (by decide) (by decide)
end Nu
end Go.Proofs
namespace Go.Proofs
open Go.Vc
set_option maxRecDepth 20000
namespace Nu
theorem aGh (c : Nat) : dH c = some (mM c) := by
 unfold dH mM
 rw [Bool.decide_and]
theorem aLr {s : List Nat} {i k : Nat} (h : k ≤ aV s i) : k < aV s i ↔ i + k < s.length ∧ mM (s.getD (i + k) 0) = true := by
 have hx : s.getD (i + k) 0 = (s.drop i).getD k 0 := by simp [List.getD_eq_getElem?_getD, List.getElem?_drop]
 have ht := aV3 (p := mM) (s.drop i) k h
 rw [hx]
 refine ht.trans ?_
 rw [List.length_drop]
 constructor
 ·rintro ⟨h1, h2⟩; exact ⟨by omega, h2⟩
 ·rintro ⟨h1, h2⟩; exact ⟨by omega, h2⟩
theorem aLs {f : Int → Option (Int ⊕ Int)} (s : List Nat) (hs : s.length ≤ 1099511627776) (i : Nat) (hi : i ≤ s.length)
  (hf : ∀ n : Int, f n = ck ((n < (s.length : Int)) → (0 ≤ n ∧ n < (s.length : Int))) (ck ((n < (s.length : Int)) → (dH (s.getD n.toNat 0)).isSome = true) (if n < (s.length : Int) ∧ (dH (s.getD n.toNat 0)).getD false = true then ck (I64 (n + 1)) (some (.inl (n + 1))) else some (.inr n)))) :
  cE f (i : Int) = some (((i + aV s i : Nat)) : Int) := by
 have hd := oO s i
 refine eL (step := f) (I := fun n => (i : Int) ≤ n ∧ n ≤ ((i + aV s i : Nat) : Int)) (fun n => (((i + aV s i : Nat) : Int) - n).toNat) (fun _ => ((i + aV s i : Nat) : Int)) ?_ (i : Int) ⟨by omega, by omega⟩
 intro n ⟨n0, n1⟩
 obtain ⟨k, rfl⟩ : ∃ k : Nat, n = ((i + k : Nat) : Int) := ⟨(n - i).toNat, by omega⟩
 have ht := aLr (s := s) (i := i) (k := k) (by omega)
 rw [hf, aGh, Int.toNat_natCast, Option.getD_some]
 by_cases hk : k < aV s i
 ·left
  obtain ⟨h1, h2⟩ := ht.1 hk
  refine ⟨((i + k : Nat) : Int) + 1, ?_, ⟨by omega, by omega⟩, by omega, rfl⟩
  refine aA (fun _ => by constructor <;> omega) (aA (fun _ => rfl) ?_)
  rw [if_pos ⟨by omega, h2⟩]
  exact aA (by constructor <;> omega) rfl
 ·right
  refine aA (fun _ => by constructor <;> omega) (aA (fun _ => rfl) ?_)
  rw [if_neg (fun h => hk (ht.2 ⟨by omega, h.2⟩))]
  congr 2; omega
theorem aWy (s : List Nat) (hs : s.length ≤ 1099511627776) (k : Nat) (hk : k ≤ s.length + 2) :
  cE (fun d : Int × Int => dW s (k : Int) d.1 d.2) ((k : Int), 0) = some (((k + min (aV s k) 4 : Nat) : Int), (cU ((s.drop k).take (min (aV s k) 4)) : Int)) := by
 have hd := oO s k
 refine eL (step := fun d : Int × Int => dW s (k : Int) d.1 d.2) (I := fun d => (k : Int) ≤ d.1 ∧ d.1 ≤ ((k + min (aV s k) 4 : Nat) : Int) ∧ d.2 = (cU ((s.drop k).take (d.1 - k).toNat) : Int)) (fun d => (((k + min (aV s k) 4 : Nat) : Int) - d.1).toNat) (fun _ => (((k + min (aV s k) 4 : Nat) : Int), (cU ((s.drop k).take (min (aV s k) 4)) : Int))) ?_ ((k : Int), 0) ⟨by simp, by simp only; omega, by simp [cU]⟩
 rintro ⟨n, v⟩ ⟨n0, n1, n2⟩
 have n0 : (k : Int) ≤ n := n0
 have n1 : n ≤ ((k + min (aV s k) 4 : Nat) : Int) := n1
 have n2 : v = (cU ((s.drop k).take (n - k).toNat) : Int) := n2
 obtain ⟨j, rfl⟩ : ∃ j : Nat, n = ((k + j : Nat) : Int) := ⟨(n - k).toNat, by omega⟩
 rw [show (((k + j : Nat) : Int) - (k : Int)).toNat = j from by omega] at n2
 show (∃ d', dW s (k : Int) ((k + j : Nat) : Int) v = _ ∧ _) ∨ dW s (k : Int) ((k + j : Nat) : Int) v = _
 have ht := aLr (s := s) (i := k) (k := j) (by omega)
 unfold dW
 rw [aGh, Int.toNat_natCast, Option.getD_some]
 by_cases hj : j < min (aV s k) 4
 ·left
  obtain ⟨h1, h2⟩ := ht.1 (by omega)
  have hdg : 48 ≤ s.getD (k + j) 0 ∧ s.getD (k + j) 0 ≤ 57 := by simpa only [mM, decide_eq_true_iff] using h2
  have hsub : gQ .u8 (s.getD (k + j) 0) 48 = s.getD (k + j) 0 - 48 := aXx (by omega) hdg.1
  have hx : (s.drop k).getD j 0 = s.getD (k + j) 0 := by simp [List.getD_eq_getElem?_getD, List.getElem?_drop]
  have hb2 : cU ((s.drop k).take (j + 1)) = cU ((s.drop k).take j) * 10 + (s.getD (k + j) 0 - 48) := by
   rw [take_succ (by rw [List.length_drop]; omega), aGb, hx]
  have hlt : cU ((s.drop k).take j) < 10 ^ 4 := by
   have hall := vW s k
   have hp : ∀ c ∈ (s.drop k).take j, mM c = true := fun c hc => hall c (by
    have : (s.drop k).take j = ((s.drop k).take (aV s k)).take j := by rw [List.take_take, Nat.min_eq_left (by omega)]
    rw [this] at hc; exact List.mem_of_mem_take hc)
   refine Nat.lt_of_lt_of_le (vA hp) (Nat.pow_le_pow_right (by decide) ?_)
   rw [List.length_take]; omega
  refine ⟨(((k + j : Nat) : Int) + 1, (cU ((s.drop k).take (j + 1)) : Int)), ?_, ⟨by simp only; omega, by simp only; omega, ?_⟩, by simp only; omega, rfl⟩
  ·refine aA (fun _ => by constructor <;> omega) (aA (fun _ => by constructor <;> omega) (aA (fun _ => rfl) ?_))
   rw [if_pos ⟨⟨by omega, by omega⟩, h2⟩, hsub, n2, hb2]
   refine aA (by constructor <;> omega) (aA (by constructor <;> omega) (aA (by constructor <;> omega) (aA (by constructor <;> omega) ?_)))
   congr 3
  ·simp only
   rw [show (((k + j : Nat) : Int) + 1 - (k : Int)).toNat = j + 1 from by omega]
 ·right
  have e : j = min (aV s k) 4 := by omega
  refine aA (fun _ => by constructor <;> omega) (aA (fun _ => by constructor <;> omega) (aA (fun _ => rfl) ?_))
  rw [if_neg ?_, n2, e]
  rintro ⟨⟨h1, h2⟩, h3⟩
  have := ht.2 ⟨by omega, h3⟩
  omega
def aSe (s : List Nat) (i : Nat) : Nat :=
 if cB s i 101 then
  if 1 ≤ aV s (if cB s (i + 1) 45 ∨ cB s (i + 1) 43 then i + 2 else i + 1) ∧ aV s (if cB s (i + 1) 45 ∨ cB s (i + 1) 43 then i + 2 else i + 1) ≤ 3 ∧ cU ((s.drop (if cB s (i + 1) 45 ∨ cB s (i + 1) 43 then i + 2 else i + 1)).take (aV s (if cB s (i + 1) 45 ∨ cB s (i + 1) 43 then i + 2 else i + 1))) ≤ 100
  then (if cB s (i + 1) 45 ∨ cB s (i + 1) 43 then i + 2 else i + 1) + aV s (if cB s (i + 1) 45 ∨ cB s (i + 1) 43 then i + 2 else i + 1) else i
 else i
def aSf (s : List Nat) : Nat :=
 if aV s 0 = 0 then 0
 else if cB s (aV s 0) 46 ∧ aV s (aV s 0 + 1) ≠ 0 then aSe s (aV s 0 + 1 + aV s (aV s 0 + 1))
 else aSe s (aV s 0)
theorem aTy (s : List Nat) (hs : s.length ≤ 1099511627776) (i k : Nat) (hi : i ≤ s.length) (hk : k ≤ s.length + 2) :
  fT s 0 (i : Int) (k : Int) = some (((if 1 ≤ aV s k ∧ aV s k ≤ 3 ∧ cU ((s.drop k).take (aV s k)) ≤ 100 then k + aV s k else i : Nat)) : Int) := by
 have hd := oO s k
 unfold fT kQ
 refine aM (aWy s hs k hk) ?_
 simp only
 refine aA (fun _ => by constructor <;> omega) ?_
 by_cases h : 1 ≤ aV s k ∧ aV s k ≤ 3 ∧ cU ((s.drop k).take (aV s k)) ≤ 100
 ·have e : min (aV s k) 4 = aV s k := by omega
  rw [if_pos h, e, if_pos ⟨⟨by omega, by omega⟩, by omega⟩]
  refine aA (by constructor <;> omega) ?_
  congr 1
 ·rw [if_neg h, if_neg ?_]
  ·refine aA (by constructor <;> omega) ?_
   congr 1
  ·rintro ⟨⟨h1, h2⟩, h3⟩
   have e : min (aV s k) 4 = aV s k := by omega
   rw [e] at h3
   exact h ⟨by omega, by omega, by omega⟩
theorem aTz (s : List Nat) (hs : s.length ≤ 1099511627776) (i : Nat) (hi : i ≤ s.length) : fU s 0 (i : Int) = some ((aSe s i : Nat) : Int) := by
 have e : ((i : Int) + 1).toNat = i + 1 := by omega
 unfold fU aSe
 rw [Int.toNat_natCast, e]
 refine aA (fun _ => by constructor <;> omega) ?_
 by_cases h : cB s i 101
 ·have h' : i < s.length ∧ s.getD i 0 = 101 := h
  rw [if_pos ⟨by omega, h'.2⟩, if_pos h]
  refine aA (by constructor <;> omega) (aA (fun _ => by constructor <;> omega) (aA (fun _ _ => by constructor <;> omega) ?_))
  by_cases h2 : cB s (i + 1) 45 ∨ cB s (i + 1) 43
  ·have h2' : (i + 1 < s.length ∧ s.getD (i + 1) 0 = 45) ∨ (i + 1 < s.length ∧ s.getD (i + 1) 0 = 43) := h2
   rw [if_pos (by rcases h2' with h | h; exact ⟨by omega, .inr h.2⟩; exact ⟨by omega, .inl h.2⟩)]
   refine aA (by constructor <;> omega) ?_
   have := aTy s hs i (i + 2) hi (by omega)
   rw [show ((i + 2 : Nat) : Int) = (i : Int) + 1 + 1 from by omega] at this
   rw [this]
   simp only [h2, if_true]
  ·have h2' : ¬ ((i + 1 < s.length ∧ s.getD (i + 1) 0 = 45) ∨ (i + 1 < s.length ∧ s.getD (i + 1) 0 = 43)) := h2
   rw [if_neg (fun h => h2' (by rcases h with ⟨h3, h4 | h4⟩; exact .inr ⟨by omega, h4⟩; exact .inl ⟨by omega, h4⟩))]
   have := aTy s hs i (i + 1) hi (by omega)
   rw [show ((i + 1 : Nat) : Int) = (i : Int) + 1 from by omega] at this
   rw [this]
   simp only [h2, if_false]
 ·have h' : ¬ (i < s.length ∧ s.getD i 0 = 101) := h
  rw [if_neg (fun h => h' ⟨by omega, h.2⟩), if_neg h]
  refine aA (by constructor <;> omega) ?_
  congr 1
theorem aQQ (s : List Nat) (hs : s.length ≤ 1099511627776) : jU s 0 = some ((aSf s : Nat) : Int) := by
 have hd := oO s 0
 have hd1 := oO s (aV s 0 + 1)
 unfold jU
 have h1 := aLs (f := fun d : Int => oN s d) s hs 0 (by omega) (fun n => rfl)
 rw [Nat.zero_add] at h1
 refine aM h1 ?_
 unfold kR aSf
 have e : ((aV s 0 : Int) + 1).toNat = aV s 0 + 1 := by omega
 by_cases h0 : aV s 0 = 0
 ·rw [if_pos (by omega), if_pos h0]; rfl
 ·rw [if_neg (by omega), if_neg h0, Int.toNat_natCast, e, aGh, Option.getD_some]
  refine aA (by constructor <;> omega) (aA (fun _ => by constructor <;> omega) (aA (fun _ => by constructor <;> omega) (aA (fun _ => by constructor <;> omega) (aA (fun _ => rfl) ?_))))
  have hi := aLr (s := s) (i := aV s 0 + 1) (k := 0) (Nat.zero_le _)
  rw [Nat.add_zero] at hi
  by_cases h2 : cB s (aV s 0) 46 ∧ aV s (aV s 0 + 1) ≠ 0
  ·have h2' : aV s 0 < s.length ∧ s.getD (aV s 0) 0 = 46 := h2.1
   obtain ⟨q1, q2⟩ := hi.1 (by omega)
   rw [if_pos ⟨⟨by omega, h2'.2⟩, q2⟩, if_pos h2]
   have h3 := aLs (f := fun d : Int => oM s d) s hs (aV s 0 + 1) (by omega) (fun n => rfl)
   rw [show ((aV s 0 + 1 : Nat) : Int) = (aV s 0 : Int) + 1 from by omega] at h3
   exact aA (by constructor <;> omega) (aM h3 (aTz s hs _ (by omega)))
  ·rw [if_neg ?_, if_neg h2]
   ·exact aTz s hs _ (by omega)
   ·rintro ⟨⟨p1, p2⟩, p3⟩
    have := hi.2 ⟨by omega, p3⟩
    exact h2 ⟨⟨by omega, p2⟩, by omega⟩
theorem aQR (s : List Nat) (i : Nat) (all : List Nat) (pow : Int) : decide (aSe s i = s.length) = (aLi s i all pow).2.2.1 := by
 unfold aSe aLi
 by_cases h : cB s i 101
 ·have h' : i < s.length := h.1
  rw [if_pos h, if_pos h]
  generalize (if cB s (i + 1) 45 ∨ cB s (i + 1) 43 then i + 2 else i + 1) = k
  unfold aBu
  by_cases h1 : aV s k < 1 ∨ 3 < aV s k
  ·rw [if_pos h1, if_neg (by omega), decide_eq_false (by omega)]; rfl
  ·rw [if_neg h1]
   by_cases h2 : 100 < cU ((s.drop k).take (aV s k))
   ·rw [if_pos h2, if_neg (by omega), decide_eq_false (by omega)]; rfl
   ·rw [if_neg h2, if_pos (by omega)]
 ·rw [if_neg h, if_neg h]
theorem aLt (s : List Nat) (hs : s.length ≤ 1099511627776) : gZ s = some (bU s).2.2.1 := by
 have hd := oO s 0
 unfold gZ
 rw [aQQ s hs, Option.getD_some]
 refine aA (fun _ => rfl) ?_
 congr 1
 have s0 : aS ⟨#[]⟩ = [] := rfl
 rw [s0]
 have hdec : decide (((aSf s : Nat) : Int) = (s.length : Int)) = decide (aSf s = s.length) := decide_eq_decide.2 (by omega)
 rw [hdec]
 by_cases h0 : aV s 0 = 0
 ·have e1 : bU s = litNo := by unfold bU; exact if_pos (.inr h0)
  have e2 : aSf s = 0 := by unfold aSf; exact if_pos h0
  rw [e1, e2]
  by_cases he : s = []
  ·subst he; rfl
  ·have := List.length_pos_iff.2 he
   rw [decide_eq_false (show ¬ 0 = s.length by omega), Bool.and_false]; rfl
 ·have hne : s ≠ [] := by intro e; rw [e] at h0; exact h0 rfl
  rw [decide_eq_false hne]
  by_cases hl : 60 < s.length
  ·have e1 : bU s = litNo := by unfold bU; exact if_pos (.inl hl)
   rw [e1, decide_eq_false (show ¬ (s.length : Int) ≤ 60 by omega)]; rfl
  ·unfold bU
   rw [if_neg (by rintro (h | h); exact hl h; exact h0 h), decide_eq_true (show (s.length : Int) ≤ 60 by omega)]
   unfold aSf
   rw [if_neg h0]
   simp only [Bool.not_false, Bool.true_and]
   by_cases h1 : cB s (aV s 0) 46
   ·have h1' : aV s 0 < s.length ∧ s.getD (aV s 0) 0 = 46 := h1
    rw [if_pos h1]
    by_cases h2 : aV s (aV s 0 + 1) = 0
    ·rw [if_pos h2, if_neg (fun h => h.2 h2)]
     have : ¬ cB s (aV s 0) 101 := fun h => by have := h.2; rw [h1'.2] at this; cases this
     unfold aSe
     rw [if_neg this, decide_eq_false (by omega)]; rfl
    ·rw [if_neg h2, if_pos ⟨h1, h2⟩]
     exact aQR s _ _ _
   ·rw [if_neg h1, if_neg (fun h => h1 h.1)]
    exact aQR s _ _ _
end Nu
end Go.Proofs
