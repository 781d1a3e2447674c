import Derived.Test.YtkihplehmkbfaaaGreatDoorZS3
set_option linter.unusedVariables false
set_option linter.unusedSimpArgs false
namespace Go.Proofs
open Go.Vc
set_option maxRecDepth 20000
namespace Nu
theorem aND {a b : List Nat} (ha : Hm a) (hb' : Nrm b) (h : a.length < b.length) : hv a < hv b := by
 have h1 := xX ha
 have h2 := aYA hb' (by intro e; subst e; simp at h)
 exact Nat.lt_of_lt_of_le h1 (Nat.le_trans (Nat.pow_le_pow_right (by decide) (by omega)) h2)
theorem aX3 (a b : List Nat) (la : Hm a) (lb' : Hm b) (ha : Nrm a) (hb' : Nrm b) (na : a.length ≤ 4611686018427387904) : nT a b = some (aEK (hv a) (hv b)) := by
 unfold nT
 refine aBp (fun h => ?_) (fun h => ?_)
 ·unfold aEK
  rcases Nat.lt_or_ge a.length b.length with hl | hl
  ·have := aND la hb' hl
   rw [if_pos (by omega), if_pos this]
  ·have hl' : b.length < a.length := by omega
   have := aND lb' ha hl'
   rw [if_neg (by omega), if_neg (by omega), if_neg (by omega)]
 ·have hlen : a.length = b.length := by omega
  refine aB (by constructor <;> omega) ?_
  have key := gF (step := fun d : Int => nS a b d) (I := fun i => -1 ≤ i ∧ i < a.length ∧ hv (a.drop (i + 1).toNat) = hv (b.drop (i + 1).toNat)) (fun i => (i + 1).toNat)
   (fun i => if hv (a.take (i + 1).toNat) = hv (b.take (i + 1).toNat) then (.inl () : Unit ⊕ Int) else .inr (if hv (a.take (i + 1).toNat) < hv (b.take (i + 1).toNat) then -1 else 1)) ?_ ((a.length : Int) - 1) ⟨by omega, by omega, by rw [List.drop_eq_nil_of_le (by omega), List.drop_eq_nil_of_le (by omega)]⟩
  ·rw [show ((a.length : Int) - 1 + 1).toNat = a.length from by omega, List.take_length] at key
   rw [hlen, List.take_length] at key
   rw [hlen]
   refine aK key ?_
   unfold aEK
   by_cases e : hv a = hv b
   ·simp [e]
   ·by_cases e2 : hv a < hv b <;> simp [e, e2]
  ·intro i ⟨h1, h2, h3⟩
   show (∃ d', nS a b i = _ ∧ _) ∨ nS a b i = _
   unfold nS
   by_cases hi : 0 ≤ i
   ·have hk : (i + 1).toNat = i.toNat + 1 := by omega
    have hia : i.toNat < a.length := by omega
    have hib : i.toNat < b.length := by omega
    rw [if_pos hi, hk, sD hia, sD hib]
    have ta := xX (aDX la i.toNat)
    have tb := xX (aDX lb' i.toNat)
    rw [List.length_take, Nat.min_eq_left (by omega)] at ta tb
    by_cases he : a.getD i.toNat 0 = b.getD i.toNat 0
    ·left
     refine ⟨i - 1, aB (by constructor <;> omega) (aB (by constructor <;> omega) ?_), ⟨by omega, by omega, ?_⟩, by omega, ?_⟩
     ·rw [if_neg (by omega)]
      refine aB (by constructor <;> omega) (aB (by constructor <;> omega) ?_)
      rw [if_neg (by omega)]
      exact aB (by constructor <;> omega) rfl
     ·rw [show (i - 1 + 1).toNat = i.toNat from by omega, List.drop_eq_getElem_cons hia, List.drop_eq_getElem_cons hib, qW, qW]
      rw [hk] at h3
      rw [h3]
      rw [List.getD_eq_getElem?_getD, List.getD_eq_getElem?_getD, List.getElem?_eq_getElem hia, List.getElem?_eq_getElem hib] at he
      have he : a[i.toNat] = b[i.toNat] := he
      rw [he]
     ·rw [show (i - 1 + 1).toNat = i.toNat from by omega, he]
      simp only [Nat.add_right_cancel_iff, Nat.add_lt_add_iff_right]
    ·right
     refine aB (by constructor <;> omega) (aB (by constructor <;> omega) ?_)
     generalize a.getD i.toNat 0 = x at *
     generalize b.getD i.toNat 0 = y at *
     generalize hv (a.take i.toNat) = p at *
     generalize hv (b.take i.toNat) = q at *
     generalize 65536 ^ i.toNat = P at *
     rcases Nat.lt_or_ge x y with hxy | hxy
     ·have : P * (x + 1) ≤ P * y := Nat.mul_le_mul_left _ hxy
      rw [Nat.mul_add] at this
      rw [if_pos hxy, if_neg (by omega), if_pos (by omega)]
     ·have hxy' : y < x := by omega
      have : P * (y + 1) ≤ P * x := Nat.mul_le_mul_left _ hxy'
      rw [Nat.mul_add] at this
      rw [if_neg (by omega)]
      refine aB (by constructor <;> omega) (aB (by constructor <;> omega) ?_)
      rw [if_pos hxy', if_neg (by omega), if_neg (by omega)]
   ·right
    have e : i = -1 := by omega
    subst e
    rw [if_neg hi]
    simp [hv]
theorem aJG (a b : Nat) (h : (hb a).length ≤ 4611686018427387904) : nT (hb a) (hb b) = some (aEK a b) := by
 rw [aX3 _ _ (yJ a) (yJ b) (aLH a) (aLH b) h, sT, sT]
theorem aX4 {x : Nat} (h : x ≠ 0) : bl x = bl (x / 2) + 1 := by
 by_cases h1 : x = 1
 ·subst h1; rfl
 ·have := aDa (x := x) (k := 1) (by omega)
  rw [Nat.pow_one] at this
  omega
theorem aX5 {a : List Nat} (h : 0 < a.length) : hv a = hv (a.take (a.length - 1)) + 65536 ^ (a.length - 1) * a.getD (a.length - 1) 0 := by
 have := sD (a := a) (k := a.length - 1) (by omega)
 rwa [show a.length - 1 + 1 = a.length from by omega, List.take_length] at this
theorem aWp {a : List Nat} (hl : Hm a) (hn : Nrm a) (h : 0 < a.length) : bl (hv a) = 16 * (a.length - 1) + bl (a.getD (a.length - 1) 0) := by
 rw [aX5 h, xB]
 refine aVN ((aDV h).1 hn) ?_
 have := xX (aDX hl (a.length - 1))
 rw [List.length_take, Nat.min_eq_left (by omega), xB] at this
 exact this
theorem aLL (n : Nat) (hs : (hb n).length ≤ 1099511627776) : pE (hb n) = some (bl n : Int) := by
 have ha := yJ n
 have hn := aLH n
 have hv' := sT n
 generalize hb n = a at *
 unfold pE
 by_cases h0 : a.length = 0
 ·have e : a = [] := List.eq_nil_of_length_eq_zero h0
  subst e
  rw [if_pos (by simp), ← hv']; rfl
 ·have hx := iW ha (a.length - 1)
  have hbx : bl (a.getD (a.length - 1) 0) ≤ 16 := aBq (by omega)
  have e1 : ((a.length : Int) - 1).toNat = a.length - 1 := by omega
  rw [if_neg (by omega), e1]
  refine aB (by constructor <;> omega) (aB (by constructor <;> omega) (aB (by constructor <;> omega) (aB (by constructor <;> omega) ?_)))
  have key := gF (step := fun d : Int × Nat => lO d.1 d.2) (I := fun d => -1000 ≤ d.1 ∧ d.1 + bl d.2 ≤ 1099511627776000) (fun d => bl d.2) (fun d => d.1 + (bl d.2 : Int)) ?_ (16 * ((a.length : Int) - 1), a.getD (a.length - 1) 0) ⟨by simp only; omega, by simp only; omega⟩
  ·refine aK key ?_
   rw [← hv', aWp ha hn (by omega)]
   congr 1; simp only; omega
  ·rintro ⟨k, x⟩ ⟨k0, k1⟩
   have k0 : -1000 ≤ k := k0
   have k1 : k + bl x ≤ 1099511627776000 := k1
   show (∃ d', lO k x = _ ∧ _) ∨ lO k x = _
   unfold lO
   by_cases hx : 0 < x
   ·left
    have hh := aX4 (x := x) (by omega)
    refine ⟨(k + 1, x / 2), ?_, ⟨by simp only; omega, by simp only; omega⟩, by simp only; omega, ?_⟩
    ·rw [if_pos hx]; exact aB (by constructor <;> omega) rfl
    ·simp only; omega
   ·right
    have : x = 0 := by omega
    subst this
    rw [if_neg hx]; simp [aXv]
theorem aZL (y : Nat) {s : Nat} (h : s < 16) : y % 65536 / 2 ^ s % 2 = y / 2 ^ s % 2 := by
 have h16s : (65536 : Nat) = 2 ^ s * 2 ^ (16 - s) := by rw [← Nat.pow_add, show s + (16 - s) = 16 from by omega]
 rw [h16s, Nat.mod_mul_right_div_self]
 refine Nat.mod_mod_of_dvd _ ⟨2 ^ (15 - s), ?_⟩
 rw [← Nat.pow_succ']; congr 1; omega
theorem aX6 (n : Nat) (i : Int) (h0 : 0 ≤ i) (h1 : i ≤ 4611686018427387904) (hs : (hb n).length ≤ 1099511627776) : wQ (hb n) i = some (n / 2 ^ i.toNat % 2) := by
 have ha := yJ n
 have hv' := sT n
 generalize hb n = a at *
 obtain ⟨d1, d2⟩ := aOX h0
 have hdm := Nat.div_add_mod i.toNat 16
 have hr := Nat.mod_lt i.toNat (show 0 < 16 by decide)
 have hP : (2 : Nat) ^ i.toNat = 65536 ^ (i.toNat / 16) * 2 ^ (i.toNat % 16) := by
  conv => lhs; rw [← hdm]
  rw [Nat.pow_add, xB]
 unfold wQ
 rw [d1, d2]
 refine aB (by constructor <;> omega) ?_
 by_cases h : a.length ≤ i.toNat / 16
 ·rw [if_pos (by omega)]
  have hlt := xX ha
  rw [hv'] at hlt
  have : n < 2 ^ i.toNat := by
   rw [hP]
   refine Nat.lt_of_lt_of_le hlt (Nat.le_trans (Nat.pow_le_pow_right (by decide) h) ?_)
   exact Nat.le_mul_of_pos_right _ (Nat.two_pow_pos _)
  rw [Nat.div_eq_of_lt this]
 ·rw [if_neg (by omega), Int.toNat_natCast]
  refine aB (by constructor <;> omega) (aB (by constructor <;> omega) ?_)
  have e2 : ((((i.toNat % 16 : Nat) : Int)) % (18446744073709551616 : Int)).toNat = i.toNat % 16 := by omega
  have hg : a.getD (i.toNat / 16) 0 = hv a / 65536 ^ (i.toNat / 16) % 65536 := by
   have := aTq ha (i.toNat / 16)
   rw [List.drop_eq_getElem_cons (by omega), qW] at this
   rw [← this, Nat.add_mul_mod_self_left, List.getD_eq_getElem?_getD, List.getElem?_eq_getElem (by omega)]
   exact (Nat.mod_eq_of_lt (ha _ (List.getElem_mem _))).symm
  rw [e2, aOK, hg, hv', hP, ← Nat.div_div_eq_div_mul]
  exact congrArg some (aZL _ hr)
structure aX7 (a b : List Nat) (c : Nat) (i : Int) (o : List Nat) : Prop where
 i0 : 0 ≤ i
 i1 : i ≤ max a.length b.length + 1
 c1 : c ≤ 1
 len : o.length = i.toNat
 lm : Hm o
 sum : hv o + 65536 ^ i.toNat * c = hv (a.take i.toNat) + hv (b.take i.toNat)
theorem sE (b : List Nat) (i : Nat) : hv (b.take (i + 1)) = hv (b.take i) + 65536 ^ i * b.getD i 0 := by
 rcases Nat.lt_or_ge i b.length with h | h
 ·exact sD h
 ·rw [List.take_of_length_le (by omega), List.take_of_length_le h, List.getD_eq_getElem?_getD, List.getElem?_eq_none h]
  simp
theorem aLM (a : List Nat) (x : Nat) : hv (a ++ [x]) = hv a + 65536 ^ a.length * x := by rw [aLI]; simp [hv]
theorem aUf {a b : List Nat} {c : Nat} {i : Int} {o : List Nat} (la : Hm a) (lb' : Hm b) (h : aX7 a b c i o) (hi : i ≤ max a.length b.length) :
  aX7 a b ((c + a.getD i.toNat 0 + b.getD i.toNat 0) / 65536) (i + 1) (o ++ [(c + a.getD i.toNat 0 + b.getD i.toNat 0) % 65536]) := by
 have hx := iW la i.toNat
 have hy := iW lb' i.toNat
 have hc := h.c1
 have h0 := h.i0
 have hl := h.len
 have hs := h.sum
 have e1 : (i + 1).toNat = i.toNat + 1 := by omega
 refine ⟨by omega, by omega, by omega, by rw [List.length_append, hl, e1]; rfl, aGX h.lm (by intro x hx; simp at hx; subst hx; exact Nat.mod_lt _ (by decide)), ?_⟩
 have em := Nat.mod_add_div (c + a.getD i.toNat 0 + b.getD i.toNat 0) 65536
 have e2 := congrArg (65536 ^ i.toNat * ·) em
 simp only [Nat.mul_add] at e2
 rw [e1, aLM, hl, sE, sE, Nat.pow_succ, Nat.mul_assoc]
 omega
theorem aTr {a b : List Nat} {i : Int} {o : List Nat} (lb' : Hm b) (i0 : 0 ≤ i) (hs : o.length ≤ 1099511627778) (hi : i ≤ 1099511627776) (c : Nat) (hc : c ≤ 65536) :
  nO i b o c = some (.inl ((c + b.getD i.toNat 0) / 65536, i + 1, o ++ [(c + b.getD i.toNat 0) % 65536])) := by
 have hy := iW lb' i.toNat
 unfold nO
 by_cases h : i < b.length
 ·rw [if_pos h, aHZ, Nat.mod_eq_of_lt (show c + b.getD i.toNat 0 < 4294967296 by omega)]
  exact aB ⟨i0, h⟩ (aB (by omega) (aB (by constructor <;> omega) rfl))
 ·have : b.getD i.toNat 0 = 0 := by rw [List.getD_eq_getElem?_getD, List.getElem?_eq_none (by omega)]; rfl
  rw [if_neg h, aHZ, this, Nat.add_zero]
  exact aB (by omega) (aB (by constructor <;> omega) rfl)
theorem aX8 (a b : List Nat) (la : Hm a) (lb' : Hm b) (ha : a.length ≤ 1099511627775) (hb' : b.length ≤ 1099511627775) : rI a b = some (hb (hv a + hv b)) := by
 unfold rI
 have key := cV (step := fun d : Nat × Int × List Nat => nP a b d.1 d.2.1 d.2.2) (I := fun d => aX7 a b d.1 d.2.1 d.2.2) (fun d => 2 * (max a.length b.length - d.2.1).toNat + d.1) (fun e => Hm e ∧ e.length ≤ 1099511627777 ∧ hv e = hv a + hv b) ?_ (0, 0, []) ⟨by simp, by simp; omega, by simp, by simp, (fun x hx => by cases hx), by simp [hv]⟩
 ·obtain ⟨e, h1, h2, h3, h4⟩ := key
  refine aK h1 (aK (aAp e h2 (by omega)) ?_)
  rw [h4]
 ·rintro ⟨c, i, o⟩ h
  have h : aX7 a b c i o := h
  have i0 := h.i0
  have i1 := h.i1
  have hc := h.c1
  have hl := h.len
  show (∃ d', nP a b c i o = _ ∧ _) ∨ ∃ e, nP a b c i o = _ ∧ _
  unfold nP
  have hx := iW la i.toNat
  by_cases hg : (i < a.length ∨ i < b.length) ∨ 0 < c
  ·left
   have hi : i ≤ max a.length b.length := by
    by_cases hge : i ≤ max a.length b.length
    ·exact hge
    ·exfalso
     have hs := h.sum
     rw [List.take_of_length_le (by omega), List.take_of_length_le (by omega)] at hs
     have p1 := xX la
     have p2 := xX lb'
     have q1 : 65536 ^ a.length ≤ 65536 ^ (i.toNat - 1) := Nat.pow_le_pow_right (by decide) (by omega)
     have q2 : 65536 ^ b.length ≤ 65536 ^ (i.toNat - 1) := Nat.pow_le_pow_right (by decide) (by omega)
     have q3 : 65536 ^ i.toNat = 65536 ^ (i.toNat - 1) * 65536 := by rw [← Nat.pow_succ]; congr 1; omega
     rw [q3] at hs
     have : 65536 ^ (i.toNat - 1) * 65536 * 1 ≤ 65536 ^ (i.toNat - 1) * 65536 * c := Nat.mul_le_mul_left _ (by omega)
     omega
   have hst := aUf la lb' h hi
   refine ⟨(_, _, _), ?_, hst, ?_⟩
   ·rw [if_pos hg]
    by_cases hia : i < a.length
    ·rw [if_pos hia, Nat.mod_eq_of_lt (show c + a.getD i.toNat 0 < 4294967296 by omega)]
     exact aB ⟨i0, hia⟩ (aTr (a := a) lb' i0 (by omega) (by omega) _ (by omega))
    ·have : a.getD i.toNat 0 = 0 := by rw [List.getD_eq_getElem?_getD, List.getElem?_eq_none (by omega)]; rfl
     rw [if_neg hia, this, Nat.add_zero]
     exact aTr (a := a) lb' i0 (by omega) (by omega) _ (by omega)
   ·simp only
    have hy := iW lb' i.toNat
    by_cases hlt : i < max a.length b.length
    ·have : (c + a.getD i.toNat 0 + b.getD i.toNat 0) / 65536 ≤ 1 := by omega
     omega
    ·have z1 : a.getD i.toNat 0 = 0 := by rw [List.getD_eq_getElem?_getD, List.getElem?_eq_none (by omega)]; rfl
     have z2 : b.getD i.toNat 0 = 0 := by rw [List.getD_eq_getElem?_getD, List.getElem?_eq_none (by omega)]; rfl
     rw [z1, z2]
     omega
  ·right
   have hs := h.sum
   have c0 : c = 0 := by omega
   rw [c0, Nat.mul_zero, Nat.add_zero, List.take_of_length_le (by omega), List.take_of_length_le (by omega)] at hs
   exact ⟨o, by rw [if_neg hg], h.lm, by omega, hs⟩
theorem aTs (a b : Nat) (ha : (hb a).length ≤ 1099511627775) (hb' : (hb b).length ≤ 1099511627775) : rI (hb a) (hb b) = some (hb (a + b)) := by
 rw [aX8 _ _ (yJ a) (yJ b) ha hb', sT, sT]
theorem aLN : hb 1 = [1] := by rw [aEV (by decide)]; simp [oC]
end Nu
end Go.Proofs
namespace Go.Proofs
open Go.Vc
set_option maxRecDepth 20000
namespace Nu
structure aUg (a b : List Nat) (c : Int) (i : Int) (o : List Nat) : Prop where
 i0 : 0 ≤ i
 i1 : i ≤ a.length
 c0 : 0 ≤ c
 c1 : c ≤ 1
 len : o.length = i.toNat
 lm : Hm o
 sum : hv (a.take i.toNat) + 65536 ^ i.toNat * c.toNat = hv o + hv (b.take i.toNat)
theorem aNE {a b : List Nat} {c c' : Int} {i : Int} {o : List Nat} {d : Nat} (h : aUg a b c i o) (hi : i < a.length) (hd : d < 65536) (hc0 : 0 ≤ c') (hc1 : c' ≤ 1) (e : a.getD i.toNat 0 + 65536 * c'.toNat = c.toNat + d + b.getD i.toNat 0) : aUg a b c' (i + 1) (o ++ [d]) := by
 have h0 := h.i0
 have hs := h.sum
 have hl := h.len
 have e1 : (i + 1).toNat = i.toNat + 1 := by omega
 refine ⟨by omega, by omega, hc0, hc1, by rw [List.length_append, hl, e1]; rfl, aGX h.lm (by intro x hx; simp at hx; subst hx; exact hd), ?_⟩
 have e2 := congrArg (65536 ^ i.toNat * ·) e
 simp only [Nat.mul_add] at e2
 rw [e1, aLM, hl, sE, sE, Nat.pow_succ, Nat.mul_assoc]
 omega
theorem w32 {x : Nat} (h : x < 65536) : IntKind.i32.wrap (x : Int) = (x : Int) := by
 simp only [IntKind.wrap, IntKind.signed, IntKind.bits]; simp; omega
theorem aX9 {a b : List Nat} {c : Int} {i : Int} {o : List Nat} (la : Hm a) (lb' : Hm b) (hs : a.length ≤ 1099511627776) (h : aUg a b c i o) (hi : i < a.length) :
  ∃ c' o', nU o i ((a.getD i.toNat 0 : Int) - c - (b.getD i.toNat 0 : Int)) = some (.inl (c', i + 1, o')) ∧ aUg a b c' (i + 1) o' := by
 have hx := iW la i.toNat
 have hy := iW lb' i.toNat
 have h0 := h.i0
 have h1 := h.c0
 have h2 := h.c1
 have hl := h.len
 unfold nU
 by_cases hn : (a.getD i.toNat 0 : Int) - c - (b.getD i.toNat 0 : Int) < 0
 ·refine ⟨1, o ++ [a.getD i.toNat 0 + 65536 - c.toNat - b.getD i.toNat 0], ?_, aNE h hi (by omega) (by decide) (by decide) (by omega)⟩
  rw [if_pos hn, show (((a.getD i.toNat 0 : Int) - c - (b.getD i.toNat 0 : Int) + 65536) % 4294967296).toNat = a.getD i.toNat 0 + 65536 - c.toNat - b.getD i.toNat 0 from by omega]
  exact aB (by constructor <;> omega) (aB (by omega) (aB (by constructor <;> omega) rfl))
 ·refine ⟨0, o ++ [a.getD i.toNat 0 - c.toNat - b.getD i.toNat 0], ?_, aNE h hi (by omega) (by decide) (by decide) (by omega)⟩
  rw [if_neg hn, show (((a.getD i.toNat 0 : Int) - c - (b.getD i.toNat 0 : Int)) % 4294967296).toNat = a.getD i.toNat 0 - c.toNat - b.getD i.toNat 0 from by omega]
  exact aB (by omega) (aB (by constructor <;> omega) rfl)
theorem aYa (a b : List Nat) (la : Hm a) (lb' : Hm b) (ha : a.length ≤ 1099511627775) (hab : b.length ≤ a.length) (hle : hv b ≤ hv a) : tI a b = some (hb (hv a - hv b)) := by
 unfold tI
 have key := cV (step := fun d : Int × Int × List Nat => nV a b d.1 d.2.1 d.2.2) (I := fun d => aUg a b d.1 d.2.1 d.2.2) (fun d => (a.length - d.2.1).toNat) (fun e => Hm e ∧ e.length = a.length ∧ hv e = hv a - hv b) ?_ (0, 0, []) ⟨by simp, by simp, by simp, by simp, by simp, (fun x hx => by cases hx), by simp [hv]⟩
 ·obtain ⟨e, h1, h2, h3, h4⟩ := key
  refine aK h1 (aK (aAp e h2 (by omega)) ?_)
  rw [h4]
 ·rintro ⟨c, i, o⟩ h
  have h : aUg a b c i o := h
  have i0 := h.i0
  have i1 := h.i1
  have c0 := h.c0
  have c1 := h.c1
  show (∃ d', nV a b c i o = _ ∧ _) ∨ ∃ e, nV a b c i o = _ ∧ _
  unfold nV
  have hx := iW la i.toNat
  have hy := iW lb' i.toNat
  by_cases hi : i < a.length
  ·left
   obtain ⟨c', o', q1, q2⟩ := aX9 la lb' (by omega) h hi
   refine ⟨(c', i + 1, o'), ?_, q2, by simp only; omega⟩
   rw [if_pos hi, w32 hx, w32 hy]
   refine aB ⟨i0, hi⟩ (aB (by constructor <;> omega) ?_)
   by_cases hib : i < b.length
   ·rw [if_pos hib]
    exact aB ⟨i0, hib⟩ (aB (by constructor <;> omega) q1)
   ·have hz : b.getD i.toNat 0 = 0 := by rw [List.getD_eq_getElem?_getD, List.getElem?_eq_none (by omega)]; rfl
    rw [hz] at q1
    rw [if_neg hib]
    simpa using q1
  ·right
   have hl := h.len
   have hs := h.sum
   rw [List.take_of_length_le (by omega), List.take_of_length_le (l := b) (by omega)] at hs
   have hlt := xX h.lm
   rw [hl] at hlt
   refine ⟨o, by rw [if_neg hi], h.lm, by omega, ?_⟩
   have c0' : c.toNat = 0 := by
    rcases Nat.eq_zero_or_pos c.toNat with hz | hz
    ·exact hz
    ·have : 65536 ^ i.toNat * 1 ≤ 65536 ^ i.toNat * c.toNat := Nat.mul_le_mul_left _ hz
     omega
   rw [c0', Nat.mul_zero] at hs
   omega
theorem aAW {a b : Nat} (h : a ≤ b) : (hb a).length ≤ (hb b).length := by
 have := xX (yJ b)
 rw [sT] at this
 exact aLJ.2 (Nat.lt_of_le_of_lt h this)
theorem aYb (a b : Nat) (ha : (hb a).length ≤ 1099511627775) (hle : b ≤ a) : tI (hb a) (hb b) = some (hb (a - b)) := by
 rw [aYa _ _ (yJ a) (yJ b) ha (aAW hle) (by rw [sT, sT]; exact hle), sT, sT]
theorem aZM : gB .u32 = 4294967296 := by decide +kernel
theorem aZN (a b : Nat) : jU .u32 a b = a * b % 4294967296 := by rw [aNM, aZM]
theorem aFV {a : List Nat} (h : Hm a) (k : Nat) : a.getD k 0 = hv a / 65536 ^ k % 65536 := by
 rw [← aTq h]
 rcases Nat.lt_or_ge k a.length with hk | hk
 ·rw [List.drop_eq_getElem_cons hk, qW, Nat.add_mul_mod_self_left, List.getD_eq_getElem?_getD, List.getElem?_eq_getElem hk]
  exact (Nat.mod_eq_of_lt (h _ (List.getElem_mem hk))).symm
 ·rw [List.drop_eq_nil_of_le hk, List.getD_eq_getElem?_getD, List.getElem?_eq_none hk]; rfl
theorem aSd {a : List Nat} (h : Hm a) {k : Nat} (hk : hv a < 65536 ^ k) : a.getD k 0 = 0 := by
 rw [aFV h, Nat.div_eq_of_lt hk]
structure RMJ (b : List Nat) (x : Nat) (i : Int) (o0 : List Nat) (c : Nat) (j : Int) (o : List Nat) : Prop where
 j0 : 0 ≤ j
 j1 : j ≤ b.length
 len : o.length = o0.length
 lm : Hm o
 c1 : c < 65536
 rest : o.drop (i + j).toNat = o0.drop (i + j).toNat
 sum : hv o + 65536 ^ (i + j).toNat * c = hv o0 + 65536 ^ i.toNat * x * hv (b.take j.toNat)
theorem aWq {N N' N0 Q R P o v c c' x y t : Nat} (hP : P = Q * R) (h1 : N' + P * o = N + P * v) (h2 : N + P * c = N0 + Q * x * t) (h3 : v + 65536 * c' = o + x * y + c) : N' + P * 65536 * c' = N0 + Q * x * (t + R * y) := by
 have e := congrArg (P * ·) h3
 simp only [Nat.mul_add] at e
 have e2 : P * (x * y) = Q * x * (R * y) := by
  rw [hP, Nat.mul_assoc, Nat.mul_assoc]; congr 1; rw [Nat.mul_left_comm]
 rw [Nat.mul_add, Nat.mul_assoc P 65536 c']
 omega
theorem aWr {b : List Nat} {x : Nat} {i : Int} {o0 : List Nat} {c : Nat} {j : Int} {o : List Nat} (lb' : Hm b) (hi : 0 ≤ i) (hl : i + b.length ≤ o0.length) (h : RMJ b x i o0 c j o) (hj : j < b.length) {v c' : Nat} (hv1 : v < 65536) (hc' : c' < 65536) (e : v + 65536 * c' = o.getD (i + j).toNat 0 + x * b.getD j.toNat 0 + c) :
  RMJ b x i o0 c' (j + 1) (o.set (i + j).toNat v) := by
 have h0 := h.j0
 have hlen := h.len
 have e1 : (i + (j + 1)).toNat = (i + j).toNat + 1 := by omega
 have e2 : (j + 1).toNat = j.toNat + 1 := by omega
 refine ⟨by omega, by omega, by rw [List.length_set]; exact hlen, aSb h.lm _ hv1, hc', ?_, ?_⟩
 ·rw [e1, drop_set]; exact wG h.rest
 ·rw [e1, e2, sE, Nat.pow_succ]
  exact aWq (R := 65536 ^ j.toNat) (by rw [← Nat.pow_add]; congr 1; omega) (aSa (by omega)) h.sum e
theorem aYc {a b : List Nat} {i : Int} {o0 : List Nat} (hi : 0 ≤ i) (hia : i < a.length) (hs : i + b.length ≤ 9000000000000) (hl : i + b.length ≤ o0.length) (la : Hm a) (lb' : Hm b) (l0 : Hm o0) :
  ∃ e : Nat × List Nat, bO (fun d : Nat × Int × List Nat => kH b i a d.1 d.2.1 d.2.2) (0, 0, o0) = some e ∧ RMJ b (a.getD i.toNat 0) i o0 e.1 b.length e.2 := by
 ·have key := cV (step := fun d : Nat × Int × List Nat => kH b i a d.1 d.2.1 d.2.2) (I := fun d => RMJ b (a.getD i.toNat 0) i o0 d.1 d.2.1 d.2.2) (fun d => (b.length - d.2.1).toNat) (fun e => RMJ b (a.getD i.toNat 0) i o0 e.1 b.length e.2) ?_ (0, 0, o0) ⟨by simp, by simp, rfl, l0, by simp, rfl, by simp [hv]⟩
  ·obtain ⟨e, h1, h2⟩ := key
   exact ⟨e, h1, h2⟩
  ·rintro ⟨c, j, o⟩ h
   have h : RMJ b (a.getD i.toNat 0) i o0 c j o := h
   have h0 := h.j0
   have hlen := h.len
   have h1 := h.j1
   have hx := iW la i.toNat
   have hy := iW lb' j.toNat
   have ho := iW h.lm (i + j).toNat
   have hc := h.c1
   have hp : a.getD i.toNat 0 * b.getD j.toNat 0 ≤ 65535 * 65535 := Nat.mul_le_mul (by omega) (by omega)
   show (∃ d', kH b i a c j o = _ ∧ _) ∨ ∃ e, kH b i a c j o = _ ∧ _
   unfold kH qK
   by_cases hj : j < b.length
   ·left
    have m1 : jU .u32 (a.getD i.toNat 0) (b.getD j.toNat 0) = a.getD i.toNat 0 * b.getD j.toNat 0 := by rw [aZN, Nat.mod_eq_of_lt (by omega)]
    have m2 : (a.getD i.toNat 0 * b.getD j.toNat 0 + o.getD (i + j).toNat 0) % 4294967296 = a.getD i.toNat 0 * b.getD j.toNat 0 + o.getD (i + j).toNat 0 := Nat.mod_eq_of_lt (by omega)
    have m3 : (a.getD i.toNat 0 * b.getD j.toNat 0 + o.getD (i + j).toNat 0 + c) % 4294967296 = a.getD i.toNat 0 * b.getD j.toNat 0 + o.getD (i + j).toNat 0 + c := Nat.mod_eq_of_lt (by omega)
    simp only [m1, m2, m3, aHZ]
    generalize hz : a.getD i.toNat 0 * b.getD j.toNat 0 + o.getD (i + j).toNat 0 + c = z
    have hzl : z < 4294967296 := by omega
    have hst := aWr lb' hi hl h hj (v := z % 65536) (c' := z / 65536) (Nat.mod_lt _ (by decide)) (by omega) (by omega)
    refine ⟨(z / 65536, j + 1, o.set (i + j).toNat (z % 65536)), ?_, hst, by simp only; omega⟩
    rw [if_pos hj, if_neg (by omega), Nat.add_zero, Nat.mod_eq_of_lt (show z / 65536 < 4294967296 by omega)]
    exact aB ⟨hi, hia⟩ (aB ⟨h0, hj⟩ (aB (by constructor <;> omega) (aB (by constructor <;> omega) (aB (by constructor <;> omega) (aB (by constructor <;> omega) (aB (by constructor <;> omega) rfl))))))
   ·right
    have e : j = b.length := by omega
    rw [e] at h
    exact ⟨(c, o), by rw [if_neg hj], h⟩
end Nu
end Go.Proofs
namespace Go.Proofs
open Go.Vc
set_option maxRecDepth 20000
namespace Nu
theorem aWs {o : List Nat} {k : Int} {c : Nat} (hk : 0 ≤ k) (hl : k < o.length) (hs : o.length ≤ 9000000000000) (lm : Hm o) (hz : o.getD k.toNat 0 = 0) (hc : c < 65536) :
  ∃ e, bO (fun d : Nat × Int × List Nat => fX d.1 d.2.1 d.2.2) (c, k, o) = some e ∧ Hm e ∧ e.length = o.length ∧ hv e = hv o + 65536 ^ k.toNat * c := by
 have hset := aSa (a := o) (k := k.toNat) (v := c) (by omega)
 rw [hz, Nat.mul_zero, Nat.add_zero] at hset
 refine cV (step := fun d : Nat × Int × List Nat => fX d.1 d.2.1 d.2.2) (I := fun d => d = (c, k, o) ∨ d = (0, k + 1, o.set k.toNat c)) (fun d => d.1) (fun e => Hm e ∧ e.length = o.length ∧ hv e = hv o + 65536 ^ k.toNat * c) ?_ (c, k, o) (.inl rfl)
 rintro d (rfl | rfl)
 ·show (∃ d', fX c k o = _ ∧ _) ∨ ∃ e, fX c k o = _ ∧ _
  unfold fX
  by_cases h0 : 0 < c
  ·left
   refine ⟨(0, k + 1, o.set k.toNat c), ?_, .inr rfl, h0⟩
   rw [if_pos h0, hz, Nat.add_zero, Nat.mod_eq_of_lt (show c < 4294967296 by omega), aHZ, Nat.mod_eq_of_lt hc, Nat.div_eq_of_lt hc]
   exact aB ⟨hk, hl⟩ (aB ⟨hk, hl⟩ (aB (by constructor <;> omega) rfl))
  ·right
   have e0 : c = 0 := by omega
   refine ⟨o, by rw [if_neg h0], lm, rfl, by rw [e0, Nat.mul_zero, Nat.add_zero]⟩
 ·right
  show ∃ e, fX 0 (k + 1) (o.set k.toNat c) = _ ∧ _
  unfold fX
  refine ⟨o.set k.toNat c, by rw [if_neg (by omega)], aSb lm _ hc, by rw [List.length_set], hset⟩
structure RMI (a b : List Nat) (i : Int) (o : List Nat) : Prop where
 i0 : 0 ≤ i
 i1 : i ≤ a.length
 len : o.length = a.length + b.length
 lm : Hm o
 sum : hv o = hv (a.take i.toNat) * hv b
theorem aWt {a b : List Nat} {i : Int} {o : List Nat} (la : Hm a) (lb' : Hm b) (h : RMI a b i o) : hv o < 65536 ^ (i.toNat + b.length) := by
 rw [h.sum, Nat.pow_add]
 have h1 := xX (aDX la i.toNat)
 have h2 := xX lb'
 have h3 : (a.take i.toNat).length ≤ i.toNat := by rw [List.length_take]; omega
 have h4 := Nat.lt_of_lt_of_le h1 (Nat.pow_le_pow_right (show 0 < 65536 by decide) h3)
 exact Nat.mul_lt_mul'' h4 h2
theorem aYd (a b : List Nat) (la : Hm a) (lb' : Hm b) (ha : a.length ≤ 1000000000) (hb' : b.length ≤ 1000000000) : pS a b = some (hb (hv a * hv b)) := by
 unfold pS
 have en : ((a.length : Int) + (b.length : Int)).toNat = a.length + b.length := by omega
 refine aB (by constructor <;> omega) (aB (by omega) (aB (by omega) ?_))
 rw [en]
 have key := cV (step := fun d : Int × List Nat => nN a b d.1 d.2) (I := fun d => RMI a b d.1 d.2) (fun d => (a.length - d.1).toNat) (fun e => Hm e ∧ e.length = a.length + b.length ∧ hv e = hv a * hv b) ?_ (0, List.replicate (a.length + b.length) 0) ⟨by simp, by simp, by simp, aSc _, by rw [aR9]; simp [hv]⟩
 ·obtain ⟨e, h1, h2, h3, h4⟩ := key
  refine aK h1 (aK (aAp e h2 (by omega)) ?_)
  rw [h4]
 ·rintro ⟨i, o⟩ h
  have h : RMI a b i o := h
  have i0 := h.i0
  have i1 := h.i1
  have hl := h.len
  show (∃ d', nN a b i o = _ ∧ _) ∨ ∃ e, nN a b i o = _ ∧ _
  unfold nN
  by_cases hi : i < a.length
  ·left
   obtain ⟨⟨c, o1⟩, q1, q2⟩ := aYc (o0 := o) i0 hi (by omega) (by omega) la lb' h.lm
   have q2 : RMJ b (a.getD i.toNat 0) i o c b.length o1 := q2
   have e1 : (i + 1).toNat = i.toNat + 1 := by omega
   have e2 : (i + (b.length : Int)).toNat = i.toNat + b.length := by omega
   have l1 := q2.len
   have hz : o1.getD (i + (b.length : Int)).toNat 0 = 0 := by
    rw [aBX q2.rest, e2]
    exact aSd h.lm (aWt la lb' h)
   obtain ⟨o2, p1, p2, p3, p4⟩ := aWs (o := o1) (k := i + b.length) (c := c) (by omega) (by omega) (by omega) q2.lm hz q2.c1
   refine ⟨(i + 1, o2), ?_, ⟨by simp only; omega, by simp only; omega, by rw [p3]; omega, p2, ?_⟩, by simp only; omega⟩
   ·rw [if_pos hi]
    refine aK q1 ?_
    unfold sS
    exact aB (by constructor <;> omega) (aK p1 (aB (by constructor <;> omega) rfl))
   ·simp only
    have hs := q2.sum
    rw [p4, hs, e1, sE, h.sum, Int.toNat_natCast, List.take_length, Nat.add_mul]
  ·right
   have hs := h.sum
   rw [List.take_of_length_le (by omega)] at hs
   exact ⟨o, by rw [if_neg hi], h.lm, hl, hs⟩
theorem aTt (a b : Nat) (ha : (hb a).length ≤ 1000000000) (hb' : (hb b).length ≤ 1000000000) : pS (hb a) (hb b) = some (hb (a * b)) := by
 rw [aYd _ _ (yJ a) (yJ b) ha hb', sT, sT]
theorem aLO {x : Nat} (h0 : x ≠ 0) (h : x < 65536) : hb x = [x] := by
 rw [aEV h0, Nat.mod_eq_of_lt h, Nat.div_eq_of_lt h, oC]
theorem aGY (k : Nat) {n m : Nat} (h : n < 2 ^ m) (hm : m ≤ 16 * k) : (hb n).length ≤ k := by
 refine aLJ.2 (Nat.lt_of_lt_of_le h ?_)
 rw [xB]
 exact p2m _ _ hm
theorem aZi {b : Nat} (hb0 : b ≠ 0) (hb1 : b < 16) (i : Nat) (hi : i ≤ 10000) : pS (hb (b ^ i)) [b] = some (hb (b ^ (i + 1))) := by
 have h1 : b ^ i ≤ 2 ^ (4 * i) := by
  rw [Nat.pow_mul]; exact Nat.pow_le_pow_left (by omega) i
 have := aTt (b ^ i) b (aGY 1000000000 (aQu (4 * i + 1) h1 (by omega)) (by omega)) (aGY 1000000000 (m := 4) (by omega) (by decide))
 rw [aLO hb0 (by omega)] at this
 rw [this, Nat.pow_succ]
theorem aYe (n : Int) (h0 : 0 ≤ n) (h1 : n ≤ 1000) : wP n = some (hb (10 ^ n.toNat)) := by
 unfold wP
 refine aK (gF (step := fun d : List Nat × Int => nQ n d.1 d.2) (I := fun d => 0 ≤ d.2 ∧ d.2 ≤ n ∧ d.1 = hb (10 ^ d.2.toNat)) (fun d => (n - d.2).toNat) (fun _ => hb (10 ^ n.toNat)) ?_ ([1], 0) ⟨by simp, by simp; exact h0, by simp [aLN]⟩) rfl
 rintro ⟨o, i⟩ ⟨i0, i1, i2⟩
 have i0 : 0 ≤ i := i0
 have i1 : i ≤ n := i1
 have i2 : o = hb (10 ^ i.toNat) := i2
 show (∃ d', nQ n o i = _ ∧ _) ∨ nQ n o i = _
 unfold nQ
 by_cases hi : i < n
 ·left
  have hp := aZi (b := 10) (by decide) (by decide) i.toNat (by omega)
  rw [← i2] at hp
  refine ⟨(hb (10 ^ (i.toNat + 1)), i + 1), ?_, ⟨by simp only; omega, by simp only; omega, ?_⟩, by simp only; omega, rfl⟩
  ·rw [if_pos hi]
   exact aK hp (aB (by constructor <;> omega) rfl)
  ·simp only; rw [show (i + 1).toNat = i.toNat + 1 from by omega]
 ·right
  rw [if_neg hi, i2, show i = n from by omega]
structure aNF (a : List Nat) (m s : Nat) (c : Nat) (i : Int) (o : List Nat) : Prop where
 i0 : 0 ≤ i
 i1 : i ≤ a.length
 c1 : c < 2 ^ s
 len : o.length = m + i.toNat
 lm : Hm o
 sum : hv o + 65536 ^ (m + i.toNat) * c = 65536 ^ m * 2 ^ s * hv (a.take i.toNat)
theorem aSe {a : List Nat} {m s c : Nat} {i : Int} {o : List Nat} (la : Hm a) (hs : s < 16) (h : aNF a m s c i o) (hi : i < a.length) :
  aNF a m s ((c + a.getD i.toNat 0 * 2 ^ s) / 65536) (i + 1) (o ++ [(c + a.getD i.toNat 0 * 2 ^ s) % 65536]) := by
 have hx := iW la i.toNat
 have hc := h.c1
 have h0 := h.i0
 have hl := h.len
 have hsum := h.sum
 have e1 : (i + 1).toNat = i.toNat + 1 := by omega
 have hz : c + a.getD i.toNat 0 * 2 ^ s < 65536 * 2 ^ s := by
  have := Nat.mul_le_mul_right (2 ^ s) (show a.getD i.toNat 0 + 1 ≤ 65536 by omega)
  rw [Nat.add_mul, Nat.one_mul] at this
  omega
 refine ⟨by omega, by omega, (Nat.div_lt_iff_lt_mul (by decide)).2 (by rw [Nat.mul_comm (2 ^ s) 65536]; exact hz), by rw [List.length_append, hl, e1]; rfl, aGX h.lm (by intro x hx; simp at hx; subst hx; exact Nat.mod_lt _ (by decide)), ?_⟩
 have em := Nat.mod_add_div (c + a.getD i.toNat 0 * 2 ^ s) 65536
 have e2 := congrArg (65536 ^ (m + i.toNat) * ·) em
 simp only [Nat.mul_add] at e2
 have e3 : 65536 ^ m * 2 ^ s * (65536 ^ i.toNat * a.getD i.toNat 0) = 65536 ^ (m + i.toNat) * (a.getD i.toNat 0 * 2 ^ s) := by
  rw [Nat.pow_add, Nat.mul_assoc, Nat.mul_assoc, Nat.mul_left_comm (2 ^ s), Nat.mul_comm (2 ^ s)]
 rw [e1, aLM, hl, sD (by omega), ← Nat.add_assoc, Nat.pow_succ, Nat.mul_assoc, Nat.mul_add, e3, ← hsum]
 omega
theorem aYf (a : List Nat) (n : Int) (la : Hm a) (h0 : 0 ≤ n) (hn : n ≤ 1000000000) (ha : a.length ≤ 1000000000) (hna : Nrm a) : iD a n = some (hb (hv a * 2 ^ n.toNat)) := by
 obtain ⟨d1, d2⟩ := aOX h0
 have hdm := Nat.div_add_mod n.toNat 16
 have hr := Nat.mod_lt n.toNat (show 0 < 16 by decide)
 have hP : (2 : Nat) ^ n.toNat = 65536 ^ (n.toNat / 16) * 2 ^ (n.toNat % 16) := by
  conv => lhs; rw [← hdm]
  rw [Nat.pow_add, xB]
 unfold iD
 by_cases hz : a.length = 0
 ·have e : a = [] := List.eq_nil_of_length_eq_zero hz
  subst e
  rw [if_pos (by simp)]
  simp [hv, oC]
 ·rw [if_neg (by omega), d1, Int.toNat_natCast]
  refine aB (by constructor <;> omega) (aB (by omega) (aB (by omega) ?_))
  have key := cV (step := fun d : Nat × Int × List Nat => nR a n d.1 d.2.1 d.2.2) (I := fun d => aNF a (n.toNat / 16) (n.toNat % 16) d.1 d.2.1 d.2.2) (fun d => (a.length - d.2.1).toNat) (fun e => aNF a (n.toNat / 16) (n.toNat % 16) e.1 a.length e.2) ?_ (0, 0, List.replicate (n.toNat / 16) 0) ⟨by simp, by simp, Nat.two_pow_pos _, by simp, aSc _, by rw [aR9]; simp [hv]⟩
  ·obtain ⟨e, h1, h2⟩ := key
   obtain ⟨c, o⟩ := e
   have h2 : aNF a (n.toNat / 16) (n.toNat % 16) c a.length o := h2
   have hc := h2.c1
   have hl := h2.len
   have hsum := h2.sum
   have hc2 : c < 65536 := Nat.lt_of_lt_of_le hc (by rw [show (65536 : Nat) = 2 ^ 16 from rfl]; exact p2m _ _ (by omega))
   rw [Int.toNat_natCast] at hl hsum
   rw [List.take_length] at hsum
   refine aK h1 (aB (by show (o.length + 1) * 4 ≤ _; omega) (aK (aAp (o ++ [c]) (aGX h2.lm (by intro x hx; simp at hx; subst hx; exact hc2)) (by rw [List.length_append]; simp; omega)) ?_))
   rw [aLM, hl, hsum, hP, Nat.mul_comm (hv a)]
  ·rintro ⟨c, i, o⟩ h
   have h : aNF a (n.toNat / 16) (n.toNat % 16) c i o := h
   have i0 := h.i0
   have i1 := h.i1
   have hc := h.c1
   have hl := h.len
   have hx := iW la i.toNat
   show (∃ d', nR a n c i o = _ ∧ _) ∨ ∃ e, nR a n c i o = _ ∧ _
   unfold nR
   rw [d2]
   by_cases hi : i < a.length
   ·left
    have hst := aSe la hr h hi
    refine ⟨(_, _, _), ?_, hst, by simp only; omega⟩
    have e2 : ((((n.toNat % 16 : Nat) : Int)) % (18446744073709551616 : Int)).toNat = n.toNat % 16 := by omega
    have hb1 : a.getD i.toNat 0 * 2 ^ (n.toNat % 16) < 4294967296 := by
     have p1 : 2 ^ (n.toNat % 16) ≤ 32768 := by rw [show (32768 : Nat) = 2 ^ 15 from rfl]; exact p2m _ _ (by omega)
     have := Nat.mul_le_mul (show a.getD i.toNat 0 ≤ 65535 by omega) p1
     omega
    rw [if_pos hi, e2, Nat.mod_eq_of_lt hb1, Nat.or_comm, aOY _ _ _ hc, aHZ]
    exact aB ⟨i0, hi⟩ (aB (by omega) (aB (by constructor <;> omega) rfl))
   ·right
    have e : i = a.length := by omega
    rw [e] at h
    exact ⟨(c, o), by rw [if_neg hi], h⟩
theorem aFW (x : Nat) (n : Int) (h0 : 0 ≤ n) (hn : n ≤ 1000000000) (hx : (hb x).length ≤ 1000000000) : iD (hb x) n = some (hb (x * 2 ^ n.toNat)) := by
 rw [aYf _ n (yJ x) h0 hn hx (aLH x), sT]
theorem aUh {X i m s n : Nat} (hs : s < 16) (hn : n = 16 * m + s) (hi : m ≤ i) : (X / 65536 ^ i % 65536 + X / 65536 ^ (i + 1) % 65536 * 65536) / 2 ^ s % 65536 = X / 2 ^ n / 65536 ^ (i - m) % 65536 := by
 have e1 : X / 2 ^ n / 65536 ^ (i - m) = X / 65536 ^ i / 2 ^ s := by
  rw [Nat.div_div_eq_div_mul, Nat.div_div_eq_div_mul]
  congr 1
  rw [hn, Nat.pow_add, ← xB, Nat.mul_right_comm, ← Nat.pow_add]; congr 2; omega
 rw [e1, Nat.pow_succ, ← Nat.div_div_eq_div_mul]
 generalize X / 65536 ^ i = Y
 have e2 : Y % 65536 + Y / 65536 % 65536 * 65536 = Y % (65536 * 65536) := by rw [Nat.mod_mul, Nat.mul_comm]
 rw [e2]
 have hp : (65536 : Nat) = 2 ^ s * 2 ^ (16 - s) := by rw [← Nat.pow_add, show s + (16 - s) = 16 from by omega]
 have e3 : 65536 * 65536 = 2 ^ s * (2 ^ (16 - s) * 65536) := by rw [← Nat.mul_assoc, ← hp]
 rw [e3, Nat.mod_mul, Nat.add_comm, Nat.mul_add_div (Nat.two_pow_pos _), Nat.div_eq_of_lt (Nat.mod_lt _ (Nat.two_pow_pos _)), Nat.add_zero]
 exact Nat.mod_mul_left_mod _ _ _
structure aYB (X n m : Nat) (l : Nat) (i : Int) (o : List Nat) : Prop where
 i0 : m ≤ i
 i1 : i ≤ l
 len : o.length = i.toNat - m
 lm : Hm o
 sum : hv o = X / 2 ^ n % 65536 ^ (i.toNat - m)
theorem aYg (a : List Nat) (n : Int) (la : Hm a) (h0 : 0 ≤ n) (hn : n ≤ 1000000000) (ha : a.length ≤ 1000000000) : tJ a n = some (hb (hv a / 2 ^ n.toNat)) := by
 obtain ⟨d1, d2⟩ := aOX h0
 have hdm := Nat.div_add_mod n.toNat 16
 have hr := Nat.mod_lt n.toNat (show 0 < 16 by decide)
 have hP : (2 : Nat) ^ n.toNat = 65536 ^ (n.toNat / 16) * 2 ^ (n.toNat % 16) := by
  conv => lhs; rw [← hdm]
  rw [Nat.pow_add, xB]
 have hlt := xX la
 unfold tJ
 rw [d1]
 refine aB (by constructor <;> omega) ?_
 by_cases hz : a.length ≤ n.toNat / 16
 ·rw [if_pos (by omega)]
  have : hv a < 2 ^ n.toNat := by
   rw [hP]
   refine Nat.lt_of_lt_of_le hlt (Nat.le_trans (Nat.pow_le_pow_right (by decide) hz) ?_)
   exact Nat.le_mul_of_pos_right _ (Nat.two_pow_pos _)
  rw [Nat.div_eq_of_lt this, oC]
 ·rw [if_neg (by omega)]
  refine aB (by constructor <;> omega) ?_
  have key := cV (step := fun d : Int × List Nat => nY a n d.1 d.2) (I := fun d => aYB (hv a) n.toNat (n.toNat / 16) a.length d.1 d.2) (fun d => (a.length - d.1).toNat) (fun e => Hm e ∧ e.length ≤ a.length ∧ hv e = hv a / 2 ^ n.toNat) ?_ (((n.toNat / 16 : Nat) : Int), []) ⟨by simp only; omega, by simp only; omega, by simp only; simp, (fun x hx => by cases hx), by simp only; simp [hv, Nat.mod_one]⟩
  ·obtain ⟨e, h1, h2, h3, h4⟩ := key
   refine aK h1 (aK (aAp e h2 (by omega)) ?_)
   rw [h4]
  ·rintro ⟨i, o⟩ h
   have h : aYB (hv a) n.toNat (n.toNat / 16) a.length i o := h
   have i0 := h.i0
   have i1 := h.i1
   have hl := h.len
   have hx := iW la i.toNat
   have hy := iW la (i.toNat + 1)
   show (∃ d', nY a n i o = _ ∧ _) ∨ ∃ e, nY a n i o = _ ∧ _
   unfold nY
   by_cases hi : i < a.length
   ·left
    have e1 : (i + 1).toNat = i.toNat + 1 := by omega
    have e2 : ((((n.toNat % 16 : Nat) : Int)) % (18446744073709551616 : Int)).toNat = n.toNat % 16 := by omega
    have hd := aUh (X := hv a) (i := i.toNat) hr hdm.symm (by omega)
    rw [← aFV la, ← aFV la] at hd
    refine ⟨(i + 1, o ++ [hv a / 2 ^ n.toNat / 65536 ^ (i.toNat - n.toNat / 16) % 65536]), ?_, ⟨by simp only; omega, by simp only; omega, by simp only; rw [List.length_append, hl, e1]; simp; omega, aGX h.lm (by intro x hx; simp at hx; subst hx; exact Nat.mod_lt _ (by decide)), ?_⟩, by simp only; omega⟩
    ·unfold qL
     rw [if_pos hi, e1, d2]
     refine aB ⟨by omega, hi⟩ (aB (by constructor <;> omega) ?_)
     by_cases h2 : i + 1 < a.length
     ·rw [if_pos h2, Nat.mod_eq_of_lt (show a.getD (i.toNat + 1) 0 * 65536 < 4294967296 by omega), e2, aHZ]
      have hor := aOY (a.getD i.toNat 0) (a.getD (i.toNat + 1) 0) 16 hx
      rw [show (2 : Nat) ^ 16 = 65536 from rfl] at hor
      rw [hor, hd]
      exact aB (by constructor <;> omega) (aB (by constructor <;> omega) (aB (by omega) (aB (by constructor <;> omega) rfl)))
     ·have hz2 : a.getD (i.toNat + 1) 0 = 0 := by rw [List.getD_eq_getElem?_getD, List.getElem?_eq_none (by omega)]; rfl
      rw [hz2, Nat.zero_mul, Nat.add_zero] at hd
      rw [if_neg h2, e2, aHZ, hd]
      exact aB (by omega) (aB (by constructor <;> omega) rfl)
    ·simp only
     rw [aLM, hl, h.sum, e1, show i.toNat + 1 - n.toNat / 16 = i.toNat - n.toNat / 16 + 1 from by omega, Nat.pow_succ, Nat.mod_mul]
   ·right
    have e : i.toNat = a.length := by omega
    have hs := h.sum
    rw [e] at hs hl
    refine ⟨o, by rw [if_neg hi], h.lm, by omega, ?_⟩
    rw [hs]
    refine Nat.mod_eq_of_lt ((Nat.div_lt_iff_lt_mul (Nat.two_pow_pos _)).2 (Nat.lt_of_lt_of_le hlt ?_))
    have : 65536 ^ a.length = 65536 ^ (a.length - n.toNat / 16) * 65536 ^ (n.toNat / 16) := by rw [← Nat.pow_add]; congr 1; omega
    rw [this, hP]
    exact Nat.mul_le_mul_left _ (Nat.le_mul_of_pos_right _ (Nat.two_pow_pos _))
theorem aYh (x : Nat) (n : Int) (h0 : 0 ≤ n) (hn : n ≤ 1000000000) (hx : (hb x).length ≤ 1000000000) : tJ (hb x) n = some (hb (x / 2 ^ n.toNat)) := by
 rw [aYg _ n (yJ x) h0 hn hx, sT]
end Nu
end Go.Proofs
namespace Go.Proofs
open Go.Vc
set_option maxRecDepth 20000
namespace Nu
theorem aTu {x y : Nat} : 0 ≤ aEK x y ↔ y ≤ x := by
 unfold aEK
 split
 ·constructor <;> intro h <;> omega
 ·split <;> constructor <;> intro h <;> omega
theorem aWu {q : List Nat} {i Q : Nat} (lm : Hm q) (hi : i / 16 < q.length) (hq : hv q = Q * 2 ^ (i + 1)) :
  q.getD (i / 16) 0 ||| 2 ^ (i % 16) < 65536 ∧ hv (q.set (i / 16) (q.getD (i / 16) 0 ||| 2 ^ (i % 16))) = (2 * Q + 1) * 2 ^ i := by
 have hdm := Nat.div_add_mod i 16
 have hr := Nat.mod_lt i (show 0 < 16 by decide)
 have hP : (2 : Nat) ^ i = 65536 ^ (i / 16) * 2 ^ (i % 16) := by
  conv => lhs; rw [← hdm]
  rw [Nat.pow_add, xB]
 have hL : q.getD (i / 16) 0 = Q % 2 ^ (15 - i % 16) * 2 ^ (i % 16 + 1) := by
  rw [aFV lm, hq, Nat.pow_succ, hP, Nat.mul_assoc, Nat.mul_left_comm, Nat.mul_div_cancel_left _ (Nat.pow_pos (by decide)), ← Nat.pow_succ]
  rw [show (65536 : Nat) = 2 ^ (15 - i % 16) * 2 ^ (i % 16 + 1) from by rw [← Nat.pow_add, show 15 - i % 16 + (i % 16 + 1) = 16 from by omega]]
  exact Nat.mul_mod_mul_right _ _ _
 have hor : q.getD (i / 16) 0 ||| 2 ^ (i % 16) = q.getD (i / 16) 0 + 2 ^ (i % 16) := by
  rw [hL, Nat.or_comm, aOY _ _ _ (Nat.pow_lt_pow_right (by decide) (by omega)), Nat.add_comm]
 have hA := Nat.mod_lt Q (Nat.two_pow_pos (15 - i % 16))
 have hb1 : q.getD (i / 16) 0 + 2 ^ (i % 16) < 65536 := by
  rw [hL]
  have h1 := Nat.mul_le_mul_right (2 ^ (i % 16 + 1)) (show Q % 2 ^ (15 - i % 16) + 1 ≤ 2 ^ (15 - i % 16) from hA)
  rw [← Nat.pow_add, show 15 - i % 16 + (i % 16 + 1) = 16 from by omega, Nat.add_mul, Nat.one_mul] at h1
  have h2 : 2 ^ (i % 16 + 1) = 2 ^ (i % 16) * 2 := Nat.pow_succ ..
  have h3 := Nat.two_pow_pos (i % 16)
  have h4 : (2 : Nat) ^ 16 = 65536 := rfl
  omega
 rw [hor]
 refine ⟨hb1, ?_⟩
 have hs := aSa (a := q) (k := i / 16) (v := q.getD (i / 16) 0 + 2 ^ (i % 16)) hi
 rw [Nat.mul_add, ← hP, hq, Nat.pow_succ] at hs
 rw [Nat.add_mul, Nat.one_mul]
 have : Q * (2 ^ i * 2) = 2 * Q * 2 ^ i := by rw [Nat.mul_comm (2 ^ i), ← Nat.mul_assoc, Nat.mul_comm Q]
 omega
theorem aTv {X Y l : Nat} {i : Int} {q : List Nat} {R Q : Nat} (hY : 0 < Y) (i0 : 0 ≤ i) (hi : i < 16 * (l : Int)) (hl : l ≤ 1000000) (hlen : q.length = l) (lm : Hm q) (hq : hv q = Q * 2 ^ (i.toNat + 1)) (hX : X = R + Y * (2 * Q)) (hR : R < 2 * Y) (hRl : (hb R).length ≤ 1000000) :
  ∃ q', nW (hb Y) i q (hb R) = some (.inl (hb (X % Y), i - 1, q')) ∧ q'.length = l ∧ Hm q' ∧ hv q' = X / Y * 2 ^ i.toNat := by
 obtain ⟨d1, d2⟩ := aOX i0
 have hr := Nat.mod_lt i.toNat (show 0 < 16 by decide)
 unfold nW
 by_cases hge : Y ≤ R
 ·have e : X = (R - Y) + Y * (2 * Q + 1) := by rw [hX, Nat.mul_add]; omega
  have hm : X % Y = R - Y := by rw [e, Nat.add_mul_mod_self_left, Nat.mod_eq_of_lt (by omega)]
  have hd : X / Y = 2 * Q + 1 := by rw [e, Nat.add_mul_div_left _ _ hY, Nat.div_eq_of_lt (by omega), Nat.zero_add]
  obtain ⟨s1, s2⟩ := aWu (i := i.toNat) lm (by omega) hq
  refine ⟨q.set (i.toNat / 16) (q.getD (i.toNat / 16) 0 ||| 2 ^ (i.toNat % 16)), aK (aJG R Y (by omega)) ?_, by rw [List.length_set]; exact hlen, aSb lm _ s1, by rw [s2, hd]⟩
  rw [if_pos (aTu.2 hge)]
  refine aK (aYb R Y (by omega) hge) ?_
  have e2 : ((((i.toNat % 16 : Nat) : Int)) % (18446744073709551616 : Int)).toNat = i.toNat % 16 := by omega
  have e3 : 1 * 2 ^ (i.toNat % 16) % 4294967296 = 2 ^ (i.toNat % 16) := by
   rw [Nat.one_mul]
   refine Nat.mod_eq_of_lt (Nat.lt_of_le_of_lt (p2m _ 15 (by omega)) (by decide))
  rw [d1, d2, e2, e3, Int.toNat_natCast, hm]
  exact aB (by constructor <;> omega) (aB (by constructor <;> omega) (aB (by constructor <;> omega) (aB (by constructor <;> omega) (aB (by constructor <;> omega) rfl))))
 ·have hm : X % Y = R := by rw [hX, Nat.add_mul_mod_self_left, Nat.mod_eq_of_lt (by omega)]
  have hd : X / Y = 2 * Q := by rw [hX, Nat.add_mul_div_left _ _ hY, Nat.div_eq_of_lt (by omega), Nat.zero_add]
  refine ⟨q, aK (aJG R Y (by omega)) ?_, hlen, lm, ?_⟩
  ·rw [if_neg (fun h => hge (aTu.1 h)), hm]
   exact aB (by constructor <;> omega) rfl
  ·rw [hq, hd, Nat.pow_succ, Nat.mul_comm (2 ^ i.toNat), ← Nat.mul_assoc, Nat.mul_comm Q]
structure aYC (X Y l : Nat) (r : List Nat) (i : Int) (q : List Nat) : Prop where
 i0 : -1 ≤ i
 i1 : i < bl X
 r0 : r = hb (X / 2 ^ (i + 1).toNat % Y)
 len : q.length = l
 lm : Hm q
 sum : hv q = X / 2 ^ (i + 1).toNat / Y * 2 ^ (i + 1).toNat
theorem aOZ {x y : Nat} (h : x < 2 * y) (k : Nat) (hy : (hb y).length ≤ k) : (hb x).length ≤ k + 1 := by
 have h1 := xX (yJ y)
 rw [sT] at h1
 have h2 : 65536 ^ (hb y).length ≤ 65536 ^ k := Nat.pow_le_pow_right (by decide) hy
 refine aLJ.2 ?_
 rw [Nat.pow_succ]
 omega
theorem aYi (X Y : Nat) (hY : Y ≠ 0) (hx : (hb X).length ≤ 100000) (hy : (hb Y).length ≤ 100000) : wR (hb X) (hb Y) = some (hb (X / Y), hb (X % Y), ()) := by
 have hbX : bl X ≤ 16 * (hb X).length := aBq (by rw [← xB]; have := xX (yJ X); rwa [sT] at this)
 unfold wR
 refine aK (aLL X (by omega)) (aB (by omega) (aB (by omega) (aB (by constructor <;> omega) ?_)))
 have key := cV (step := fun d : List Nat × Int × List Nat => nX (hb X) (hb Y) d.1 d.2.1 d.2.2) (I := fun d => aYC X Y (hb X).length d.1 d.2.1 d.2.2) (fun d => (d.2.1 + 1).toNat) (fun e => e.1 = hb (X % Y) ∧ Hm e.2 ∧ e.2.length = (hb X).length ∧ hv e.2 = X / Y) ?_ ([], (bl X : Int) - 1, List.replicate (hb X).length 0) ⟨by simp only; omega, by simp only; omega, ?_, by simp, aSc _, ?_⟩
 ·obtain ⟨⟨r, q⟩, h1, h2, h3, h4, h5⟩ := key
  have h2 : r = hb (X % Y) := h2
  have h4 : q.length = (hb X).length := h4
  refine aK h1 (aK (aAp q h3 (by omega)) ?_)
  rw [h2]
  have h5 : hv q = X / Y := h5
  rw [h5]
 ·rintro ⟨r, i, q⟩ h
  have h : aYC X Y (hb X).length r i q := h
  have i0 := h.i0
  have i1 := h.i1
  show (∃ d', nX (hb X) (hb Y) r i q = _ ∧ _) ∨ ∃ e, nX (hb X) (hb Y) r i q = _ ∧ _
  unfold nX
  by_cases hi : 0 ≤ i
  ·left
   have e1 : (i + 1).toNat = i.toNat + 1 := by omega
   have e2 : (i - 1 + 1).toNat = i.toNat := by omega
   have hsum := h.sum
   have hr0 := h.r0
   rw [e1] at hsum hr0
   have hX' : X / 2 ^ i.toNat = 2 * (X / 2 ^ (i.toNat + 1)) + X / 2 ^ i.toNat % 2 := by
    rw [Nat.pow_succ, ← Nat.div_div_eq_div_mul]; omega
   have hdm := Nat.div_add_mod (X / 2 ^ (i.toNat + 1)) Y
   have hRlt := Nat.mod_lt (X / 2 ^ (i.toNat + 1)) (show 0 < Y by omega)
   have hbt := Nat.mod_lt (X / 2 ^ i.toNat) (show 0 < 2 by decide)
   generalize hA : X / 2 ^ (i.toNat + 1) = A at *
   generalize hB : X / 2 ^ i.toNat % 2 = β at *
   have hl0 : (hb (A % Y)).length ≤ 100001 := aOZ (y := Y) (by omega) 100000 hy
   have hl1 : (hb (A % Y * 2)).length ≤ 100002 := aOZ (y := Y) (by omega) 100001 (by omega)
   have hl2 : (hb (A % Y * 2 + 1)).length ≤ 100002 := aOZ (y := Y) (by omega) 100001 (by omega)
   have hX2 : ∀ b, b = β → X / 2 ^ i.toNat = (A % Y * 2 + b) + Y * (2 * (A / Y)) := fun b hb' => by
    rw [hX', hb']
    have : Y * (2 * (A / Y)) = 2 * (Y * (A / Y)) := Nat.mul_left_comm _ _ _
    omega
   have hS := aFW (A % Y) 1 (by decide) (by decide) (by omega)
   rw [show (2 : Nat) ^ (1 : Int).toNat = 2 from rfl, ← hr0] at hS
   have hbit := aX6 X i hi (by omega) (by omega)
   rw [hB] at hbit
   by_cases h1 : β = 1
   ·obtain ⟨q', p1, p2, p3, p4⟩ := aTv (X := X / 2 ^ i.toNat) (Y := Y) (l := (hb X).length) (q := q) (R := A % Y * 2 + 1) (Q := A / Y) (by omega) hi (by omega) (by omega) h.len h.lm hsum (hX2 1 h1.symm) (by omega) (by omega)
    have hA1 := aTs (A % Y * 2) 1 (by omega) (by rw [aLN]; decide)
    rw [aLN] at hA1
    refine ⟨(hb (X / 2 ^ i.toNat % Y), i - 1, q'), ?_, ⟨by simp only; omega, by simp only; omega, by simp only; rw [e2], p2, p3, by simp only; rw [e2]; exact p4⟩, by simp only; omega⟩
    rw [if_pos hi]
    refine aK hS (aK hbit ?_)
    rw [if_pos h1]
    exact aK hA1 p1
   ·obtain ⟨q', p1, p2, p3, p4⟩ := aTv (X := X / 2 ^ i.toNat) (Y := Y) (l := (hb X).length) (q := q) (R := A % Y * 2) (Q := A / Y) (by omega) hi (by omega) (by omega) h.len h.lm hsum (by have := hX2 0 (by omega); rw [Nat.add_zero] at this; exact this) (by omega) (by omega)
    refine ⟨(hb (X / 2 ^ i.toNat % Y), i - 1, q'), ?_, ⟨by simp only; omega, by simp only; omega, by simp only; rw [e2], p2, p3, by simp only; rw [e2]; exact p4⟩, by simp only; omega⟩
    rw [if_pos hi]
    refine aK hS (aK hbit ?_)
    rw [if_neg h1]
    exact p1
  ·right
   have e : i = -1 := by omega
   have hsum := h.sum
   have hr0 := h.r0
   rw [e, show ((-1 : Int) + 1).toNat = 0 from rfl, Nat.pow_zero, Nat.div_one] at hsum hr0
   rw [Nat.mul_one] at hsum
   exact ⟨(r, q), by rw [if_neg hi], hr0, h.lm, h.len, hsum⟩
 ·simp only
  rw [show ((bl X : Int) - 1 + 1).toNat = bl X from by omega, Nat.div_eq_of_lt (aPW X), Nat.zero_mod, oC]
 ·simp only
  rw [aR9, show ((bl X : Int) - 1 + 1).toNat = bl X from by omega, Nat.div_eq_of_lt (aPW X), Nat.zero_div, Nat.zero_mul]
theorem aO0 {M : Nat} : (hb M).length = 0 ↔ M = 0 := ⟨fun h => aR8.1 (List.eq_nil_of_length_eq_zero h), fun h => by rw [h, oC]; rfl⟩
end Nu
end Go.Proofs
namespace Go.Proofs
open Go.Vc
set_option maxRecDepth 20000
namespace Nu
theorem aYj (a : List Nat) (hl : a.length ≤ 4611686018427387904) : wS a = some (decide (a.length ≤ 64 ∧ Nrm a)) := by
 unfold wS
 refine aB (fun _ _ => by constructor <;> omega) (aB (fun _ _ => by constructor <;> omega) ?_)
 congr 1
 have e1 : ((a.length : Int) - 1).toNat = a.length - 1 := by omega
 rw [e1]
 by_cases h0 : a.length = 0
 ·have e : a = [] := List.eq_nil_of_length_eq_zero h0
  subst e; decide
 ·have hn := aDV (a := a) (by omega)
  by_cases hz : a.getD (a.length - 1) 0 = 0
  ·have : ¬ Nrm a := fun h => hn.1 h hz
   have h2 : ¬ (a.length ≤ 64 ∧ Nrm a) := fun h => this h.2
   rw [decide_eq_true hz, decide_eq_false (show ¬ (a.length : Int) = 0 by omega), decide_eq_false h2]
   simp
  ·have : Nrm a := hn.2 hz
   rw [decide_eq_false hz]
   by_cases h64 : a.length ≤ 64
   ·have h2 : a.length ≤ 64 ∧ Nrm a := ⟨h64, this⟩
    rw [decide_eq_true h2, decide_eq_true (show (a.length : Int) ≤ 64 by omega)]; simp
   ·have h2 : ¬ (a.length ≤ 64 ∧ Nrm a) := fun h => h64 h.1
    rw [decide_eq_false h2, decide_eq_false (show ¬ (a.length : Int) ≤ 64 by omega)]; simp
theorem vG (d : Dy) (hl : d.2.1.length ≤ 4611686018427387904) : bY d = some (jR d) := by
 unfold bY jR
 refine aK (aYj d.2.1 hl) ?_
 by_cases h0 : d.2.1.length = 0
 ·rw [if_pos h0]
  have e : d.2.1 = [] := List.eq_nil_of_length_eq_zero h0
  have ht : decide (d.2.1.length ≤ 64 ∧ Nrm d.2.1) = true := by rw [e]; decide
  rw [ht]
  by_cases hE : d.2.2.1 < -1048576 ∨ 1048576 < d.2.2.1
  ·rw [if_pos (by rcases hE with h | h; exact .inl (.inr h); exact .inr h), decide_eq_false (show ¬ d.2.2.1 = 0 by omega), Bool.and_false]
  ·rw [if_neg (by rintro ((h | h) | h); exact h rfl; omega; omega), if_pos (by omega)]
 ·rw [if_neg h0]
  by_cases h1 : d.2.1.length ≤ 64 ∧ Nrm d.2.1
  ·rw [decide_eq_true h1]
   by_cases hE : d.2.2.1 < -1048576 ∨ 1048576 < d.2.2.1
   ·rw [if_pos (by rcases hE with h | h; exact .inl (.inr h); exact .inr h)]
    rcases hE with h | h
    ·rw [decide_eq_false (show ¬ -1048576 ≤ d.2.2.1 by omega)]; simp
    ·rw [decide_eq_false (show ¬ d.2.2.1 ≤ 1048576 by omega)]; simp
   ·rw [if_neg (by rintro ((h | h) | h); exact h rfl; omega; omega), if_neg (by omega)]
    refine aB (by omega) ?_
    rw [aOK, decide_eq_true (show -1048576 ≤ d.2.2.1 by omega), decide_eq_true (show d.2.2.1 ≤ 1048576 by omega)]
    simp
  ·rw [decide_eq_false h1, if_pos (.inl (.inl (by decide)))]
   simp
theorem aNG {x y : Nat} : aEK x y = 0 ↔ x = y := by
 unfold aEK
 split
 ·constructor <;> intro h <;> omega
 ·split <;> constructor <;> intro h <;> omega
theorem aWv (M n : Nat) : M / 2 ^ n * 2 ^ n = M ↔ M % 2 ^ n = 0 := by
 have e := Nat.div_add_mod M (2 ^ n)
 rw [Nat.mul_comm] at e
 omega
theorem aYk (M n : Nat) : M / 2 ^ n * 2 ^ n ≤ M := Nat.div_mul_le_self _ _
end Nu
end Go.Proofs
namespace Go.Proofs
open Go.Vc
set_option maxRecDepth 20000
namespace Nu
theorem aWw {M : Nat} (h : M ≠ 0) : txt M = txt (M / 10) ++ [48 + M % 10] := by
 have h10 : dgs 1 (M % 10) = [48 + M % 10] := by simp [dgs]
 unfold txt
 rw [if_neg h]
 by_cases h1 : M < 10
 ·rw [if_pos (show M / 10 = 0 by omega), aK3 h1, Nat.mod_eq_of_lt h1]; rfl
 ·rw [if_neg (show ¬ M / 10 = 0 by omega), ← h10, aQy (M := M / 10) (b := 1) (y := M % 10) (by omega) (by have := Nat.mod_lt M (show 0 < 10 by decide); omega)]
  congr 1; omega
theorem aYl : ∀ n : Fin 10, List.drop n.val (List.take (n.val + 1) (aN ⟨#[48, 49, 50, 51, 52, 53, 54, 55, 56, 57]⟩)) = [48 + n.val] := by decide +kernel
theorem aFX {n : Nat} (k m : Nat) (hm : m = 4 * k) (h : n < 18446744073709551616 ^ k) : (hb n).length ≤ m := by
 subst hm
 refine aLJ.2 ?_
 rw [aOV]; exact h
theorem aWx : hb 10 = [10] := aLO (by decide) (by decide)
theorem aTw (s : List Nat) (v : List Nat × List Nat × Unit) (n : Nat) (hn : n < 10) (hs : s.length ≤ 100000000) : gP s v n = some (.inl (v.1, [48 + n] ++ s)) := by
 have hc := aYl ⟨n, hn⟩
 simp only at hc
 unfold gP
 rw [Nat.mod_eq_of_lt (show n + 1 < 4294967296 by omega), hc]
 have hl : (aN ⟨#[48, 49, 50, 51, 52, 53, 54, 55, 56, 57]⟩).length = 10 := rfl
 rw [hl]
 exact aB (by omega) (aB (by simp; omega) rfl)
theorem aQQ (n : Nat) (hn : n < 18446744073709551616 ^ 10000) : oJ (hb n) = some (txt n) := by
 have hL : (txt n).length ≤ 1000000 := aJB (Nat.le_trans (aRQ 10000 hn) (by decide))
 have hl0 : (hb n).length ≤ 40000 := aFX 10000 40000 (by decide) hn
 unfold oJ
 refine aK (gF (step := fun d : List Nat × List Nat => gQ d.1 d.2) (I := fun d => ∃ M, d.1 = hb M ∧ txt n = txt M ++ d.2 ∧ M ≤ n) (fun d => hv d.1) (fun _ => txt n) ?_ (hb n, aN ⟨#[]⟩) ⟨n, rfl, by simp [aN], Nat.le_refl _⟩) rfl
 rintro ⟨a, s⟩ ⟨M, i0, i1, i2⟩
 have i0 : a = hb M := i0
 have i1 : txt n = txt M ++ s := i1
 show (∃ d', gQ a s = _ ∧ _) ∨ gQ a s = _
 have hs : s.length ≤ 1000000 := by rw [i1, List.length_append] at hL; omega
 unfold gQ
 by_cases h0 : M = 0
 ·right
  rw [if_neg (by rw [i0, h0, oC]; simp), i1, h0]; rfl
 ·left
  have hne : (hb M).length ≠ 0 := fun h => h0 (aO0.1 h)
  have hlM := aAW i2
  have hD := aYi M 10 (by decide) (by omega) (by rw [aWx]; decide)
  rw [aWx, ← i0] at hD
  have hmod := Nat.mod_lt M (show 0 < 10 by decide)
  refine ⟨(hb (M / 10), [48 + M % 10] ++ s), ?_, ⟨M / 10, rfl, by rw [i1, aWw h0, List.append_assoc], by omega⟩, ?_, rfl⟩
  ·rw [if_pos (by rw [i0]; omega)]
   refine aK hD ?_
   by_cases hr : M % 10 = 0
   ·rw [if_neg (by simp only [hr, oC]; simp), hr]
    exact aTw s _ 0 (by decide) (by omega)
   ·have e : hb (M % 10) = [M % 10] := aLO hr (by omega)
    simp only [e]
    rw [if_pos (by simp)]
    exact aB (by simp) (aTw s _ (M % 10) hmod (by omega))
  ·simp only
   rw [i0, sT, sT]
   exact Nat.div_lt_self (by omega) (by decide)
theorem aUi {k : Nat} {s : List Nat} (h : s.length < k + 1) : wK k (48 :: s) = wK k s := by
 unfold wK
 rw [List.length_cons, show k + 1 - s.length = k + 1 - (s.length + 1) + 1 from by omega, List.replicate_succ', List.append_assoc]; rfl
theorem aYm (k : Nat) (s : List Nat) (hk : k ≤ 60) (hs : s.length ≤ 1000000) : bO (fun d : List Nat => gV (k : Int) d) s = some (wK k s) := by
 refine gF (step := fun d : List Nat => gV (k : Int) d) (I := fun d => d.length ≤ 1000000) (fun d => k + 1 - d.length) (fun d => wK k d) ?_ s hs
 intro d hd
 show (∃ d', gV (k : Int) d = _ ∧ _) ∨ gV (k : Int) d = _
 have h48 : aN ⟨#[48]⟩ = [48] := rfl
 unfold gV
 rw [h48]
 by_cases h : d.length < k + 1
 ·left
  refine ⟨48 :: d, aB (by constructor <;> omega) ?_, by simp; omega, by simp; omega, aUi h⟩
  rw [if_pos (by omega)]
  exact aB (by simp; omega) rfl
 ·right
  refine aB (by constructor <;> omega) ?_
  rw [if_neg (by omega)]
  unfold wK
  rw [show k + 1 - d.length = 0 from by omega]; rfl
theorem aUj (k : Nat) (s : List Nat) : (wK k s).length ≤ k + 1 + s.length := by unfold wK; rw [List.length_append, List.length_replicate]; omega
theorem aLP (k : Nat) (d : Dy) (q : Nat) (hk : k ≤ 60) (hq : q < 18446744073709551616 ^ 10000) : iV (k : Int) d (hb q) = some (sgS d.1 q (ptS k (wK k (txt q))), 0, ()) := by
 have hL : (txt q).length ≤ 1000000 := aJB (Nat.le_trans (aRQ 10000 hq) (by decide))
 have hp := aUj k (txt q)
 have hp2 : k + 1 ≤ (wK k (txt q)).length := by unfold wK; rw [List.length_append, List.length_replicate]; omega
 have hj3 : ∀ s : List Nat, s.length ≤ 10000000 → lP d (hb q) s = some (sgS d.1 q s, 0, ()) := by
  intro s hs
  have h45 : aN ⟨#[45]⟩ = [45] := rfl
  unfold lP sgS
  have hh : (0 : Int) < ((hb q).length : Int) ↔ q ≠ 0 := ⟨fun h e => by rw [aO0.2 e] at h; simp at h, fun h => by have : (hb q).length ≠ 0 := fun e => h (aO0.1 e); omega⟩
  by_cases h : d.1 = true ∧ q ≠ 0
  ·rw [if_pos ⟨h.1, hh.2 h.2⟩, if_pos h, h45]
   exact aB (by simp; omega) rfl
  ·rw [if_neg (fun x => h ⟨x.1, hh.1 x.2⟩), if_neg h]
 unfold iV
 refine aK (aQQ q hq) (aK (aYm k _ hk hL) ?_)
 generalize wK k (txt q) = s at *
 have h46 : aN ⟨#[46]⟩ = [46] := rfl
 unfold rK ptS
 by_cases h : 0 < k
 ·have en : ((s.length : Int) - (k : Int)).toNat = s.length - k := by omega
  rw [if_pos (by omega), if_pos h, h46, en]
  have l1 : (s.take (s.length - k)).length = s.length - k := by rw [List.length_take]; omega
  have l2 : (s.drop (s.length - k)).length = k := by rw [List.length_drop]; omega
  exact aB (by constructor <;> omega) (aB (by constructor <;> omega) (aB (by rw [l1]; simp; omega) (aB (by constructor <;> omega) (aB (by constructor <;> omega) (aB (by rw [List.length_append, l1, l2]; simp; omega) (hj3 _ (by rw [List.length_append, List.length_append, l1, l2]; simp; omega)))))))
 ·rw [if_neg (by omega), if_neg h]
  exact hj3 s (by omega)
theorem aFY (d : Dy) (k : Int) (up : Bool) (lm : Lm d.2.1) (hl : d.2.1.length ≤ 4611686018427387904) : mW d k up = some (eL d k up) := by
 unfold mW eL
 refine aK (vG d hl) ?_
 by_cases h1 : jR d = false ∨ k < 0 ∨ 60 < k
 ·rw [if_pos (by rcases h1 with h | h | h; exact .inl (.inl (by rw [h]; decide)); exact .inl (.inr h); exact .inr h), if_pos h1]; rfl
 ·have hm : jR d = true := by
   cases hh : jR d with
   | true => rfl
   | false => exact absurd (.inl hh) h1
  rw [if_neg (by rintro ((h | h) | h); exact h hm; omega; omega), if_neg h1]
  by_cases h2 : 2000 < d.2.2.1 ∨ d.2.2.1 < -2000
  ·rw [if_pos h2, if_pos h2]; rfl
  ·rw [if_neg h2, if_neg h2]
   obtain ⟨a1, a2, a3, a4⟩ := wJ hm
   obtain ⟨j, rfl⟩ : ∃ j : Nat, k = (j : Int) := ⟨k.toNat, by omega⟩
   have hj : j ≤ 60 := by omega
   rw [Int.toNat_natCast]
   have hM := aRR (k := j) lm a1 (by omega) hj
   have hF := aOW d.2.1 lm (by omega)
   have hT := aYe (j : Int) (by omega) (by omega)
   rw [Int.toNat_natCast] at hT
   have hnv := kV lm
   have lN : (hb (nv d.2.1)).length ≤ 256 := by
    refine aLJ.2 (Nat.lt_of_lt_of_le hnv ?_)
    rw [show (256 : Nat) = 4 * 64 from rfl, aOV]
    exact Nat.pow_le_pow_right (by decide) a1
   have lT := aGY 16 (aQu (4 * j + 1) (aQv j) (by omega)) (by omega)
   have hMul := aTt (nv d.2.1) (10 ^ j) (by omega) (by omega)
   have lM : (hb (nv d.2.1 * 10 ^ j)).length ≤ 1000 := by
    refine aFX 250 1000 (by decide) (Nat.lt_of_le_of_lt ?_ (Nat.lt_trans hM (aTk 200 250 (by decide))))
    unfold txM
    rw [Nat.mul_right_comm]
    exact Nat.le_mul_of_pos_right _ (Nat.two_pow_pos _)
   have hbig : ∀ x, x < 18446744073709551616 ^ 200 → x + 1 < 18446744073709551616 ^ 10000 := fun x hx => by
    have : 18446744073709551616 ^ 200 < 18446744073709551616 ^ 10000 := aTk 200 10000 (by decide)
    exact Nat.lt_of_le_of_lt hx this
   refine aK hF (aK hT (aK hMul ?_))
   by_cases hE : 0 ≤ d.2.2.1
   ·rw [if_pos hE]
    have hS := aFW (nv d.2.1 * 10 ^ j) d.2.2.1 hE (by omega) (by omega)
    have eM : nv d.2.1 * 10 ^ j * 2 ^ d.2.2.1.toNat = txM d j := by
     unfold txM
     rw [Nat.mul_right_comm, show (max d.2.2.1 0).toNat = d.2.2.1.toNat from by omega]
    rw [eM] at hS
    have eQ : txQ d j up = txM d j := by
     unfold txQ
     simp only
     rw [show (max (-d.2.2.1) 0).toNat = 0 from by omega, Nat.pow_zero, Nat.mod_one, Nat.div_one, if_neg (fun h => h.1 rfl)]
    rw [eQ]
    exact aK hS (aLP j d _ hj (Nat.lt_of_succ_lt (hbig _ hM)))
   ·rw [if_neg hE]
    have en : (0 - d.2.2.1).toNat = (max (-d.2.2.1) 0).toNat := by omega
    have eM : nv d.2.1 * 10 ^ j = txM d j := by
     unfold txM
     rw [show (max d.2.2.1 0).toNat = 0 from by omega, Nat.pow_zero, Nat.mul_one]
    rw [eM] at lM ⊢
    have hS := aYh (txM d j) (0 - d.2.2.1) (by omega) (by omega) (by omega)
    rw [en] at hS
    have hlq := aAW (Nat.div_le_self (txM d j) (2 ^ (max (-d.2.2.1) 0).toNat))
    have hS2 := aFW (txM d j / 2 ^ (max (-d.2.2.1) 0).toNat) (0 - d.2.2.1) (by omega) (by omega) (by omega)
    rw [en] at hS2
    have hC := aJG (txM d j / 2 ^ (max (-d.2.2.1) 0).toNat * 2 ^ (max (-d.2.2.1) 0).toNat) (txM d j) (by have := aAW (aYk (txM d j) (max (-d.2.2.1) 0).toNat); omega)
    have hA := aTs (txM d j / 2 ^ (max (-d.2.2.1) 0).toNat) 1 (by omega) (by rw [aLN]; decide)
    rw [aLN] at hA
    have hqlt : txM d j / 2 ^ (max (-d.2.2.1) 0).toNat < 18446744073709551616 ^ 200 := Nat.lt_of_le_of_lt (Nat.div_le_self _ _) hM
    refine aB (by constructor <;> omega) (aK hS ?_)
    simp only [hS2, Option.getD_some, hC, Option.isSome_some]
    refine aB (fun _ => by constructor <;> omega) (aB (fun _ => trivial) (aB (fun _ => trivial) ?_))
    unfold txQ
    simp only
    by_cases h3 : txM d j % 2 ^ (max (-d.2.2.1) 0).toNat ≠ 0 ∧ (up != d.1) = true
    ·rw [if_pos ⟨h3.2, fun h => h3.1 ((aWv _ _).1 (aNG.1 h))⟩, if_pos h3]
     exact aK hA (aLP j d _ hj (hbig _ hqlt))
    ·rw [if_neg (fun h => h3 ⟨fun h2 => h.2 (aNG.2 ((aWv _ _).2 h2)), h.1⟩), if_neg h3]
     exact aLP j d _ hj (Nat.lt_of_succ_lt (hbig _ hqlt))
end Nu
end Go.Proofs
namespace Go.Proofs
open Go.Vc
set_option maxRecDepth 20000
namespace Nu
noncomputable def rL (d_0 : qD0) : Option Int :=
 (bY d_0).bind (fun v_7 => if (¬ (v_7 = true)) ∨ ((((((d_0.2).1).length) : Nat) : Int) = (0 : Int)) then some (0 : Int) else if (d_0.1) = true then some (-1 : Int) else some (1 : Int))
def aFZ : PlR := ⟨[(0, .B [1]), (1, .A [1, 3]), (2, .A [2]), (3, .A [13]), (4, .A [2]), (5, .A [2])], []⟩
def aH0 : Ty := .pair (.pair .bool (.pair (.sl (.u .u64)) (.pair (.i .i64) .unit))) .unit
noncomputable def zC : aI := mSpec aH0 (.one (.i .i64)) (fun x => rL x.1)
noncomputable def aH1 : List (FuncId × aI) := [(103, cU)]
theorem aQR : bF Tryz.prog GL aH1 := .cons mG (by kernel_rfl) (.nil)
theorem aIZ : gam aH1 103 = some cU := rfl
attribute [go_sem] aH0 aFZ aIZ
set_option maxHeartbeats 4000000 in
theorem aO1 : FOK Tryz.prog GL 151 zC := by
 refine bD (bE aQR) mix Tryz.func151 rfl (by kernel_rfl) (by decide) aFZ fun w0 S x Θ hw h hF => ?_
 obtain ⟨(d_0 : qD0), u⟩ := x
 simp only [bH, go_sem]
 replace h : sat (rL d_0) _ := h
 unfold rL at h
 obtain ⟨v_7, hv, h⟩ := aQ h
 try simp only [hv, go_sem]
 refine ⟨fun hc => ?_, fun hc => ?_⟩
 ·replace h := fU (by first | exact hc | omega | (simpa using hc) | (simp at hc ⊢; omega)) h
  exact aG hF [.tmp 2] rfl rfl rfl (aA h) (by simp only [aV, go_sem])
 ·replace h := fV (by first | exact hc | omega | (simpa using hc) | (simp at hc ⊢; omega)) h
  refine aHe h (fun hc h => ?_) fun hc h => ?_
  ·exact aG hF [.tmp 2] rfl rfl rfl (aA h) (by simp only [aV, go_sem])
  ·exact aG hF [.tmp 2] rfl rfl rfl (aA h) (by simp only [aV, go_sem])
attribute [go_sem] zC
noncomputable def qM (d_0 : qD0) : Option qD0 :=
 (rH ((d_0.2).1)).bind (fun v_3 => some ((d_0.1), v_3, (((d_0.2).2).1), ()))
def aLQ : PlR := ⟨[], []⟩
def aNH : Ty := .pair (.pair .bool (.pair (.sl (.u .u64)) (.pair (.i .i64) .unit))) .unit
noncomputable def aCc : aI := mSpec aNH (.one (.pair .bool (.pair (.sl (.u .u32)) (.pair (.i .i64) .unit)))) (fun x => qM x.1)
noncomputable def aNI : List (FuncId × aI) := [(107, sA)]
theorem aUk : bF Tryz.prog GL aNI := .cons aFQ (by kernel_rfl) (.nil)
theorem aMX : gam aNI 107 = some sA := rfl
attribute [go_sem] aNH aLQ aMX
set_option maxHeartbeats 4000000 in
theorem aSf : FOK Tryz.prog GL 177 aCc := by
 refine bD (bE aUk) mix Tryz.func177 rfl (by kernel_rfl) (by decide) aLQ fun w0 S x Θ hw h hF => ?_
 obtain ⟨(d_0 : qD0), u⟩ := x
 simp only [bH, go_sem]
 replace h : sat (qM d_0) _ := h
 unfold qM at h
 refine aKr hF [1, 2] ?_
 simp only [go_sem]
 refine aY1 hF 8 (by decide) [2] ?_
 simp only [go_sem]
 obtain ⟨v_3, hv, h⟩ := aQ h
 try simp only [hv, go_sem]
 exact aG hF [.cell 2 202] rfl rfl rfl (aA h) (by simp only [aV, go_sem])
attribute [go_sem] aCc
noncomputable def rM (a_0 : qD0) (b_1 : qD0) : Option Int :=
 (pE ((a_0.2).1)).bind (fun v_13 => ck (I64 (v_13 + (((a_0.2).2).1))) ((pE ((b_1.2).1)).bind (fun v_14 => ck (I64 (v_14 + (((b_1.2).2).1))) (if ¬ ((v_13 + (((a_0.2).2).1)) = (v_14 + (((b_1.2).2).1))) then if (v_13 + (((a_0.2).2).1)) < (v_14 + (((b_1.2).2).1)) then some (-1 : Int) else some (1 : Int) else ck (I64 ((((a_0.2).2).1) - (min (((a_0.2).2).1) (((b_1.2).2).1)))) ((iD ((a_0.2).1) ((((a_0.2).2).1) - (min (((a_0.2).2).1) (((b_1.2).2).1)))).bind (fun v_30 => ck (I64 ((((b_1.2).2).1) - (min (((a_0.2).2).1) (((b_1.2).2).1)))) ((iD ((b_1.2).1) ((((b_1.2).2).1) - (min (((a_0.2).2).1) (((b_1.2).2).1)))).bind (fun v_31 => (nT v_30 v_31).bind (fun v_32 => some v_32)))))))))
def aF0 : PlR := ⟨[(0, .B [2, 3]), (1, .A [2, 3, 5, 6]), (2, .A [2, 3, 5, 6, 22]), (3, .A [25]), (4, .A [4]), (5, .A [4]), (6, .A [2, 3, 7]), (7, .A [4])], []⟩
def aH2 : Ty := .pair (.pair .bool (.pair (.sl (.u .u32)) (.pair (.i .i64) .unit))) (.pair (.pair .bool (.pair (.sl (.u .u32)) (.pair (.i .i64) .unit))) .unit)
noncomputable def zD : aI := mSpec aH2 (.one (.i .i64)) (fun x => rM x.1 x.2.1)
noncomputable def aAX : List (FuncId × aI) := [(109, pF), (111, pG), (226, sB)]
theorem aQS : bF Tryz.prog GL aAX := .cons aDF (by kernel_rfl) (.cons aDG (by kernel_rfl) (.cons aFS (by kernel_rfl) (.nil)))
theorem aI0 : gam aAX 109 = some pF := rfl
theorem aI1 : gam aAX 111 = some pG := rfl
theorem aI2 : gam aAX 226 = some sB := rfl
attribute [go_sem] aH2 aF0 aI0 aI1 aI2
set_option maxHeartbeats 4000000 in
theorem aO2 : FOK Tryz.prog GL 176 zD := by
 refine bD (bE aQS) mix Tryz.func176 rfl (by kernel_rfl) (by decide) aF0 fun w0 S x Θ hw h hF => ?_
 obtain ⟨(a_0 : qD0), (b_1 : qD0), u⟩ := x
 simp only [bH, go_sem]
 replace h : sat (rM a_0 b_1) _ := h
 unfold rM at h
 obtain ⟨v_13, hv, h⟩ := aQ h
 try simp only [hv, go_sem]
 refine aH h fun g0 h => ?_
 obtain ⟨v_14, hv, h⟩ := aQ h
 try simp only [hv, go_sem]
 refine aH h fun g0 h => ?_
 refine cX h (fun hc h => ?_) fun hc h => ?_
 ·refine bW h (fun hc h => ?_) fun hc h => ?_
  ·exact aG hF [.tmp 4] rfl rfl rfl (aA h) (by simp only [aV, go_sem])
  ·exact aG hF [.tmp 4] rfl rfl rfl (aA h) (by simp only [aV, go_sem])
 ·refine aH h fun g0 h => ?_
  obtain ⟨v_30, hv, h⟩ := aQ h
  try simp only [hv, go_sem]
  refine aH h fun g0 h => ?_
  obtain ⟨v_31, hv, h⟩ := aQ h
  try simp only [hv, go_sem]
  obtain ⟨v_32, hv, h⟩ := aQ h
  try simp only [hv, go_sem]
  exact aG hF [.tmp 4] rfl rfl rfl (aA h) (by simp only [aV, go_sem])
attribute [go_sem] zD
noncomputable def iX (a_0 : qD0) (b_1 : qD0) : Option Int :=
 (bY a_0).bind (fun v_8 => ck ((¬ (¬ (v_8 = true)) → (((bY b_1).isSome = true)))) (if (¬ (v_8 = true)) ∨ (¬ (((bY b_1).getD false) = true)) then some (0 : Int) else (rL a_0).bind (fun v_19 => (rL b_1).bind (fun v_20 => if (¬ (v_19 = v_20)) ∨ (v_19 = (0 : Int)) then if v_19 < v_20 then some (-1 : Int) else if v_20 < v_19 then some (1 : Int) else some (0 : Int) else (qM a_0).bind (fun v_36 => (qM b_1).bind (fun v_37 => (rM v_36 v_37).bind (fun v_38 => ck (I64 (v_19 * v_38)) (some (v_19 * v_38)))))))))
def aCr : PlR := ⟨[(0, .B [2, 3]), (1, .A [2, 3, 14]), (2, .A [4]), (3, .A [2, 3, 5, 6]), (4, .A [2, 3, 5, 6, 25]), (5, .A [5, 6, 28]), (6, .A [4]), (7, .A [31]), (8, .A [4]), (9, .A [4]), (10, .A [4])], []⟩
def aDL : Ty := .pair (.pair .bool (.pair (.sl (.u .u64)) (.pair (.i .i64) .unit))) (.pair (.pair .bool (.pair (.sl (.u .u64)) (.pair (.i .i64) .unit))) .unit)
noncomputable def mH : aI := mSpec aDL (.one (.i .i64)) (fun x => iX x.1 x.2.1)
noncomputable def rN : List (FuncId × aI) := [(103, cU), (151, zC), (176, zD), (177, aCc)]
theorem aLR : bF Tryz.prog GL rN := .cons mG (by kernel_rfl) (.cons aO1 (by kernel_rfl) (.cons aO2 (by kernel_rfl) (.cons aSf (by kernel_rfl) (.nil))))
theorem aEX : gam rN 103 = some cU := rfl
theorem aEY : gam rN 151 = some zC := rfl
theorem aEZ : gam rN 176 = some zD := rfl
theorem aE0 : gam rN 177 = some aCc := rfl
attribute [go_sem] aDL aCr aEX aEY aEZ aE0
set_option maxHeartbeats 4000000 in
theorem aCs : FOK Tryz.prog GL 115 mH := by
 refine bD (bE aLR) mix Tryz.func115 rfl (by kernel_rfl) (by decide) aCr fun w0 S x Θ hw h hF => ?_
 obtain ⟨(a_0 : qD0), (b_1 : qD0), u⟩ := x
 simp only [bH, go_sem]
 replace h : sat (iX a_0 b_1) _ := h
 unfold iX at h
 obtain ⟨v_8, hv, h⟩ := aQ h
 try simp only [hv, go_sem]
 obtain ⟨g0, h⟩ := aJ h
 repeat (refine ⟨by first | with_reducible assumption | omega | (intros; first | assumption | omega) | (simp only [go_sem] at *; first | assumption | omega) | (intro q0; (try have e0 := g0 (by first | exact q0 | omega | (simpa using q0))); first | assumption | omega) | decide, ?_⟩)
 refine ⟨fun hc => ?_, fun hc => ?_⟩
 ·replace h := fU (by first | exact hc | omega | (simpa using hc) | (simp at hc ⊢; omega)) h
  exact aG hF [.tmp 4] rfl rfl rfl (aA h) (by simp only [aV, go_sem])
 ·replace h := fV (by first | exact hc | omega | (simpa using hc) | (simp at hc ⊢; omega)) h
  obtain ⟨v_19, hv, h⟩ := aQ h
  try simp only [hv, go_sem]
  obtain ⟨v_20, hv, h⟩ := aQ h
  try simp only [hv, go_sem]
  refine ⟨fun hc => ?_, fun hc => ?_⟩
  ·replace h := fU hc h
   refine bW h (fun hc h => ?_) fun hc h => ?_
   ·exact aG hF [.tmp 4] rfl rfl rfl (aA h) (by simp only [aV, go_sem])
   ·refine bW h (fun hc h => ?_) fun hc h => ?_
    ·exact aG hF [.tmp 4] rfl rfl rfl (aA h) (by simp only [aV, go_sem])
    ·exact aG hF [.tmp 4] rfl rfl rfl (aA h) (by simp only [aV, go_sem])
  ·replace h := fV hc h
   obtain ⟨v_36, hv, h⟩ := aQ h
   try simp only [hv, go_sem]
   obtain ⟨v_37, hv, h⟩ := aQ h
   try simp only [hv, go_sem]
   obtain ⟨v_38, hv, h⟩ := aQ h
   try simp only [hv, go_sem]
   obtain ⟨g0, h⟩ := aJ h
   try simp only [I64, I32] at g0
   repeat (refine ⟨by first | with_reducible assumption | omega | (intros; first | assumption | omega) | (simp only [go_sem] at *; first | assumption | omega) | decide, ?_⟩)
   exact aG hF [.tmp 4] rfl rfl rfl (aA h) (by simp only [aV, go_sem])
attribute [go_sem] mH
noncomputable def tK (a_0 : qI0) : Option Bool :=
 (bY (a_0.1)).bind (fun v_5 => ck (((v_5 = true) → (((bY ((a_0.2).1)).isSome = true)))) (ck ((((v_5 = true) ∧ (((bY ((a_0.2).1)).getD false) = true)) → (((iX (a_0.1) ((a_0.2).1)).isSome = true)))) (some ((v_5 && ((bY ((a_0.2).1)).getD false)) && (decide (((iX (a_0.1) ((a_0.2).1)).getD (0 : Int)) ≤ (0 : Int)))))))
def aH3 : PlR := ⟨[(0, .B [1]), (1, .A [2])], []⟩
def aLS : Ty := .pair (.pair (.pair .bool (.pair (.sl (.u .u64)) (.pair (.i .i64) .unit))) (.pair (.pair .bool (.pair (.sl (.u .u64)) (.pair (.i .i64) .unit))) .unit)) .unit
noncomputable def uA : aI := mSpec aLS (.one .bool) (fun x => tK x.1)
noncomputable def aE1 : List (FuncId × aI) := [(103, cU), (115, mH)]
theorem aSg : bF Tryz.prog GL aE1 := .cons mG (by kernel_rfl) (.cons aCs (by kernel_rfl) (.nil))
theorem aLT : gam aE1 103 = some cU := rfl
theorem aLU : gam aE1 115 = some mH := rfl
attribute [go_sem] aLS aH3 aLT aLU
set_option maxHeartbeats 4000000 in
theorem aH4 : FOK Tryz.prog GL 53 uA := by
 refine bD (bE aSg) mix Tryz.func53 rfl (by kernel_rfl) (by decide) aH3 fun w0 S x Θ hw h hF => ?_
 obtain ⟨(a_0 : qI0), u⟩ := x
 simp only [bH, go_sem]
 replace h : sat (tK a_0) _ := h
 unfold tK at h
 obtain ⟨v_5, hv, h⟩ := aQ h
 try simp only [hv, go_sem]
 refine aH h fun g0 h => aH h fun g1 h => ?_
 exact aG hF [.tmp 2] rfl rfl rfl (aA h) (by simp only [aV, go_sem])
attribute [go_sem] uA
noncomputable def oK (b_0 : (List qI0)) (i_10 : Int) : Option ((Int) ⊕ ((Unit) ⊕ Bool)) :=
 if i_10 < (b_0.length : Int) then ck (0 ≤ i_10 ∧ i_10 < (b_0.length : Int)) ((tK (b_0.getD (i_10.toNat) ((false, ([] : List Nat), (0 : Int), ()), (false, ([] : List Nat), (0 : Int), ()), ()))).bind (fun v_19 => if ¬ (v_19 = true) then some (.inr (.inr false)) else ck (I64 (i_10 + (1 : Int))) (some (.inl (i_10 + (1 : Int)))))) else some (.inr (.inl ()))
noncomputable def mX (b_0 : (List qI0)) : Option Bool :=
 (bO (fun d : Int => oK b_0 d) (0 : Int)).bind (fun e => match e with | (.inl e) => some true | (.inr e) => some e)
def aF1 : PlR := ⟨[(0, .A [0]), (1, .A [0, 3]), (2, .A [0, 3, 7]), (3, .A [0, 3]), (4, .A [0, 3, 15]), (5, .A [2]), (6, .A [2])], []⟩
def aH5 : Ty := .pair (.sl (.pair (.pair .bool (.pair (.sl (.u .u64)) (.pair (.i .i64) .unit))) (.pair (.pair .bool (.pair (.sl (.u .u64)) (.pair (.i .i64) .unit))) .unit))) .unit
noncomputable def sF : aI := mSpec aH5 (.one .bool) (fun x => mX x.1)
noncomputable def aH6 : List (FuncId × aI) := [(53, uA)]
theorem aQT : bF Tryz.prog GL aH6 := .cons aH4 (by kernel_rfl) (.nil)
theorem aLV : gam aH6 53 = some uA := rfl
attribute [go_sem] aH5 aF1 aLV
set_option maxHeartbeats 4000000 in
theorem aF2 : FOK Tryz.prog GL 104 sF := by
 refine bD (bE aQT) mix Tryz.func104 rfl (by kernel_rfl) (by decide) aF1 fun w0 S x Θ hw h hF => ?_
 obtain ⟨(b_0 : (List qI0)), u⟩ := x
 simp only [bH, go_sem]
 replace h : sat (mX b_0) _ := h
 unfold mX at h
 refine bC hF (D := Int) [0] (fun d => [(3, .val (.i .i64) d)]) (fun d => []) h rfl (by simp only [go_sem]) ?_
 rintro i_10 A2 T2 hA2 hE2 h
 simp only [go_sem]
 replace h : sat (oK b_0 i_10) _ := h
 unfold oK at h
 refine bW h (fun hc h => ?_) fun hc h => ?_
 ·refine aH h fun g0 h => ?_
  obtain ⟨v_19, hv, h⟩ := aQ h
  try simp only [hv, go_sem]
  refine aC5 h (fun hc h => ?_) fun hc h => ?_
  ·replace h := hE2 _ (aA h)
   try dsimp only at h
   exact aG hF [.tmp 2] rfl rfl rfl (aA h) (by simp only [aV, go_sem])
  ·refine aH h fun g0 h => ?_
   replace h := hA2 _ (aA h)
   exact aP _ h rfl (by simp only [go_sem])
 ·replace h := hE2 _ (aA h)
  try dsimp only at h
  exact aG hF [.tmp 2] rfl rfl rfl (aA h) (by simp only [aV, go_sem])
attribute [go_sem] sF
noncomputable def rO (a_0 : qD0) (b_1 : qD0) : Option Bool :=
 (iX a_0 b_1).bind (fun v_6 => some (decide (v_6 < (0 : Int))))
def aF3 : PlR := ⟨[(0, .B [2, 3]), (1, .A [4])], []⟩
def aH7 : Ty := .pair (.pair .bool (.pair (.sl (.u .u64)) (.pair (.i .i64) .unit))) (.pair (.pair .bool (.pair (.sl (.u .u64)) (.pair (.i .i64) .unit))) .unit)
noncomputable def zE : aI := mSpec aH7 (.one .bool) (fun x => rO x.1 x.2.1)
noncomputable def aH8 : List (FuncId × aI) := [(115, mH)]
theorem aQU : bF Tryz.prog GL aH8 := .cons aCs (by kernel_rfl) (.nil)
theorem aI3 : gam aH8 115 = some mH := rfl
attribute [go_sem] aH7 aF3 aI3
set_option maxHeartbeats 4000000 in
theorem aO3 : FOK Tryz.prog GL 80 zE := by
 refine bD (bE aQU) mix Tryz.func80 rfl (by kernel_rfl) (by decide) aF3 fun w0 S x Θ hw h hF => ?_
 obtain ⟨(a_0 : qD0), (b_1 : qD0), u⟩ := x
 simp only [bH, go_sem]
 replace h : sat (rO a_0 b_1) _ := h
 unfold rO at h
 obtain ⟨v_6, hv, h⟩ := aQ h
 try simp only [hv, go_sem]
 exact aG hF [.tmp 4] rfl rfl rfl (aA h) (by simp only [aV, go_sem])
attribute [go_sem] zE
noncomputable def iE (t_0 : qT0) (i_13 : Int) : Option ((Int) ⊕ ((Unit) ⊕ Bool)) :=
 if i_13 < ((t_0.1).length : Int) then ck (0 ≤ i_13 ∧ i_13 < ((t_0.1).length : Int)) ((bY ((t_0.1).getD (i_13.toNat) (false, ([] : List Nat), (0 : Int), ()))).bind (fun v_26 => ck ((¬ (¬ (v_26 = true)) → ((0 : Int) < i_13) → (I64 (i_13 - (1 : Int))))) (ck ((¬ (¬ (v_26 = true)) → ((0 : Int) < i_13) → (0 ≤ (i_13 - (1 : Int)) ∧ (i_13 - (1 : Int)) < ((t_0.1).length : Int)))) (ck ((¬ (¬ (v_26 = true)) → ((0 : Int) < i_13) → (0 ≤ i_13 ∧ i_13 < ((t_0.1).length : Int)))) (ck ((¬ (¬ (v_26 = true)) → ((0 : Int) < i_13) → (((rO ((t_0.1).getD ((i_13 - (1 : Int)).toNat) (false, ([] : List Nat), (0 : Int), ())) ((t_0.1).getD (i_13.toNat) (false, ([] : List Nat), (0 : Int), ()))).isSome = true)))) (if (¬ (v_26 = true)) ∨ (((0 : Int) < i_13) ∧ (¬ (((rO ((t_0.1).getD ((i_13 - (1 : Int)).toNat) (false, ([] : List Nat), (0 : Int), ())) ((t_0.1).getD (i_13.toNat) (false, ([] : List Nat), (0 : Int), ()))).getD false) = true))) then some (.inr (.inr false)) else ck (I64 (i_13 + (1 : Int))) (some (.inl (i_13 + (1 : Int)))))))))) else some (.inr (.inl ()))
noncomputable def mI (t_0 : qT0) : Option Bool :=
 ck ((¬ (((((((t_0.2).1).length) : Nat) : Int) < (1 : Int)) ∨ ((256 : Int) < (((t_0.2).1).length : Int))) → (I64 ((((((t_0.2).1).length) : Nat) : Int) + (1 : Int))))) (ck ((¬ ((((((((t_0.2).1).length) : Nat) : Int) < (1 : Int)) ∨ ((256 : Int) < (((t_0.2).1).length : Int))) ∨ (¬ (((((t_0.1).length) : Nat) : Int) = ((((((t_0.2).1).length) : Nat) : Int) + (1 : Int))))) → (((mX ((t_0.2).1)).isSome = true)))) (if ((((((((t_0.2).1).length) : Nat) : Int) < (1 : Int)) ∨ ((256 : Int) < (((t_0.2).1).length : Int))) ∨ (¬ (((((t_0.1).length) : Nat) : Int) = ((((((t_0.2).1).length) : Nat) : Int) + (1 : Int))))) ∨ (¬ (((mX ((t_0.2).1)).getD false) = true)) then some false else (bO (fun d : Int => iE t_0 d) (0 : Int)).bind (fun e => match e with | (.inl e) => some true | (.inr e) => some e)))
def aBE : PlR := ⟨[(0, .B [1]), (1, .A [1, 29]), (2, .A [2]), (3, .A [1, 3]), (4, .A [1, 3, 34]), (5, .A [1, 3]), (6, .A [1, 3, 62]), (7, .A [2]), (8, .A [2])], []⟩
def aCt : Ty := .pair (.pair (.sl (.pair .bool (.pair (.sl (.u .u64)) (.pair (.i .i64) .unit)))) (.pair (.sl (.pair (.pair .bool (.pair (.sl (.u .u64)) (.pair (.i .i64) .unit))) (.pair (.pair .bool (.pair (.sl (.u .u64)) (.pair (.i .i64) .unit))) .unit))) .unit)) .unit
noncomputable def sG : aI := mSpec aCt (.one .bool) (fun x => mI x.1)
noncomputable def tA : List (FuncId × aI) := [(103, cU), (104, sF), (80, zE)]
theorem aI4 : bF Tryz.prog GL tA := .cons mG (by kernel_rfl) (.cons aF2 (by kernel_rfl) (.cons aO3 (by kernel_rfl) (.nil)))
theorem aD2 : gam tA 103 = some cU := rfl
theorem aD3 : gam tA 104 = some sF := rfl
theorem aE2 : gam tA 80 = some zE := rfl
attribute [go_sem] aCt aBE aD2 aD3 aE2
set_option maxHeartbeats 4000000 in
theorem aGZ : FOK Tryz.prog GL 105 sG := by
 refine bD (bE aI4) mix Tryz.func105 rfl (by kernel_rfl) (by decide) aBE fun w0 S x Θ hw h hF => ?_
 obtain ⟨(t_0 : qT0), u⟩ := x
 simp only [bH, go_sem]
 replace h : sat (mI t_0) _ := h
 unfold mI at h
 obtain ⟨g0, h⟩ := aJ h
 obtain ⟨g1, h⟩ := aJ h
 try simp only [I64, I32] at g0
 repeat (refine ⟨by first | with_reducible assumption | omega | (intros; first | assumption | omega) | (simp only [go_sem] at *; first | assumption | omega) | (intro q0; (try have e0 := g0 (by first | exact q0 | omega | (simpa using q0))); (try have e1 := g1 (by first | exact q0 | omega | (simpa using q0))); first | assumption | omega) | decide, ?_⟩)
 refine ⟨fun hc => ?_, fun hc => ?_⟩
 ·replace h := fU (by first | exact hc | omega | (simpa using hc) | (simp at hc ⊢; omega)) h
  exact aG hF [.tmp 2] rfl rfl rfl (aA h) (by simp only [aV, go_sem])
 ·replace h := fV (by first | exact hc | omega | (simpa using hc) | (simp at hc ⊢; omega)) h
  refine bC hF (D := Int) [] (fun d => [(1, .ptr 0 []), (3, .val (.i .i64) d)]) (fun d => [.inr (.box 2 (.val (.pair (.sl (.pair .bool (.pair (.sl (.u .u64)) (.pair (.i .i64) .unit)))) (.pair (.sl (.pair (.pair .bool (.pair (.sl (.u .u64)) (.pair (.i .i64) .unit))) (.pair (.pair .bool (.pair (.sl (.u .u64)) (.pair (.i .i64) .unit))) .unit))) .unit)) t_0))]) h rfl (by simp only [go_sem]) ?_
  rintro i_13 A4 T4 hA4 hE4 h
  simp only [go_sem]
  replace h : sat (iE t_0 i_13) _ := h
  unfold iE at h
  refine bW h (fun hc h => ?_) fun hc h => ?_
  ·obtain ⟨g0, h⟩ := aJ h
   repeat (refine ⟨by first | with_reducible assumption | omega | (intros; first | assumption | omega) | (simp only [go_sem] at *; first | assumption | omega) | decide, ?_⟩)
   obtain ⟨v_26, hv, h⟩ := aQ h
   try simp only [hv, go_sem]
   obtain ⟨g0, h⟩ := aJ h
   obtain ⟨g1, h⟩ := aJ h
   obtain ⟨g2, h⟩ := aJ h
   obtain ⟨g3, h⟩ := aJ h
   try simp only [I64, I32] at g0
   repeat (refine ⟨by first | with_reducible assumption | omega | (intros; first | assumption | omega) | (simp only [go_sem] at *; first | assumption | omega) | (intro q0 q1; (try have e0 := g0 (by first | exact q0 | omega | (simpa using q0)) (by first | exact q1 | omega | (simpa using q1))); (try have e1 := g1 (by first | exact q0 | omega | (simpa using q0)) (by first | exact q1 | omega | (simpa using q1))); (try have e2 := g2 (by first | exact q0 | omega | (simpa using q0)) (by first | exact q1 | omega | (simpa using q1))); (try have e3 := g3 (by first | exact q0 | omega | (simpa using q0)) (by first | exact q1 | omega | (simpa using q1))); first | assumption | omega) | (rintro ⟨q0, q1⟩; (try have e0 := g0 (by first | exact q0 | omega | (simpa using q0)) (by first | exact q1 | omega | (simpa using q1))); (try have e1 := g1 (by first | exact q0 | omega | (simpa using q0)) (by first | exact q1 | omega | (simpa using q1))); (try have e2 := g2 (by first | exact q0 | omega | (simpa using q0)) (by first | exact q1 | omega | (simpa using q1))); (try have e3 := g3 (by first | exact q0 | omega | (simpa using q0)) (by first | exact q1 | omega | (simpa using q1))); first | assumption | omega) | decide, ?_⟩)
   refine ⟨fun hc => ?_, fun hc => ?_⟩
   ·replace h := fU (by first | exact hc | omega | (simpa using hc) | (simp at hc ⊢; omega)) h
    replace h := hE4 _ (aA h)
    try dsimp only at h
    exact aG hF [.tmp 2] rfl rfl rfl (aA h) (by simp only [aV, go_sem])
   ·replace h := fV (by first | exact hc | omega | (simpa using hc) | (simp at hc ⊢; omega)) h
    obtain ⟨g0, h⟩ := aJ h
    try simp only [I64, I32] at g0
    repeat (refine ⟨by first | with_reducible assumption | omega | (intros; first | assumption | omega) | (simp only [go_sem] at *; first | assumption | omega) | decide, ?_⟩)
    replace h := hA4 _ (aA h)
    exact aP _ h rfl (by simp only [go_sem])
  ·replace h := hE4 _ (aA h)
   try dsimp only at h
   exact aG hF [.tmp 2] rfl rfl rfl (aA h) (by simp only [aV, go_sem])
attribute [go_sem] sG
noncomputable def mJ (i_24 : Int) (r_0 : qR0) (k_40 : Int) : Option ((Int) ⊕ ((Unit) ⊕ Bool)) :=
 ck (0 ≤ i_24 ∧ i_24 < ((((((((r_0.2).2).2).2).2).2).1).length : Int)) (if k_40 < (((((((((((r_0.2).2).2).2).2).2).1).getD (i_24.toNat) ([] : List qT0)).length) : Nat) : Int) then ck (0 ≤ i_24 ∧ i_24 < ((((((((r_0.2).2).2).2).2).2).1).length : Int)) (ck (0 ≤ k_40 ∧ k_40 < (((((((((((r_0.2).2).2).2).2).2).1).getD (i_24.toNat) ([] : List qT0)).length) : Nat) : Int)) ((mI (((((((((r_0.2).2).2).2).2).2).1).getD (i_24.toNat) ([] : List qT0)).getD (k_40.toNat) (([] : List qD0), ([] : List qI0), ()))).bind (fun v_49 => if ¬ (v_49 = true) then some (.inr (.inr false)) else ck (I64 (k_40 + (1 : Int))) (some (.inl (k_40 + (1 : Int))))))) else some (.inr (.inl ())))
noncomputable def oL (r_0 : qR0) (i_24 : Int) : Option ((Int) ⊕ ((Unit) ⊕ Bool)) :=
 if i_24 < ((((((((r_0.2).2).2).2).2).2).1).length : Int) then ck (0 ≤ i_24 ∧ i_24 < ((((((((r_0.2).2).2).2).2).2).1).length : Int)) (if (64 : Int) < (((((((((((r_0.2).2).2).2).2).2).1).getD (i_24.toNat) ([] : List qT0)).length) : Nat) : Int) then some (.inr (.inr false)) else (bO (fun d : Int => mJ i_24 r_0 d) (0 : Int)).bind (fun e => match e with | (.inl e) => ck (I64 (i_24 + (1 : Int))) (some (.inl (i_24 + (1 : Int)))) | (.inr e) => some (.inr (.inr e)))) else some (.inr (.inl ()))
noncomputable def oM (r_0 : qR0) : Option (Bool) :=
 (bO (fun d : Int => oL r_0 d) (0 : Int)).bind (fun e => match e with | (.inl e) => some true | (.inr e) => some e)
noncomputable def oN (r_0 : qR0) (i_52 : Int) : Option ((Int) ⊕ ((Unit) ⊕ Bool)) :=
 if i_52 < (((((((r_0.2).2).2).2).2).1).length : Int) then ck (0 ≤ i_52 ∧ i_52 < (((((((r_0.2).2).2).2).2).1).length : Int)) (ck ((¬ ((64 : Int) < ((((((((((r_0.2).2).2).2).2).1).getD (i_52.toNat) ([] : List qI0)).length) : Nat) : Int)) → (0 ≤ i_52 ∧ i_52 < (((((((r_0.2).2).2).2).2).1).length : Int)))) (ck ((¬ ((64 : Int) < ((((((((((r_0.2).2).2).2).2).1).getD (i_52.toNat) ([] : List qI0)).length) : Nat) : Int)) → (((mX (((((((r_0.2).2).2).2).2).1).getD (i_52.toNat) ([] : List qI0))).isSome = true)))) (if ((64 : Int) < ((((((((((r_0.2).2).2).2).2).1).getD (i_52.toNat) ([] : List qI0)).length) : Nat) : Int)) ∨ (¬ (((mX (((((((r_0.2).2).2).2).2).1).getD (i_52.toNat) ([] : List qI0))).getD false) = true)) then some (.inr (.inr false)) else ck (I64 (i_52 + (1 : Int))) (some (.inl (i_52 + (1 : Int))))))) else some (.inr (.inl ()))
noncomputable def uB (r_0 : qR0) : Option Bool :=
 ck ((¬ (((((((r_0.1) < (1 : Int)) ∨ ((3 : Int) < (r_0.1))) ∨ (((r_0.2).1) < (0 : Int))) ∨ ((1073741824 : Int) < ((r_0.2).1))) ∨ ((((r_0.2).2).1) < (0 : Int))) ∨ ((200 : Int) < (((r_0.2).2).1))) → (((bY ((((r_0.2).2).2).1)).isSome = true)))) (ck ((¬ ((((((((r_0.1) < (1 : Int)) ∨ ((3 : Int) < (r_0.1))) ∨ (((r_0.2).1) < (0 : Int))) ∨ ((1073741824 : Int) < ((r_0.2).1))) ∨ ((((r_0.2).2).1) < (0 : Int))) ∨ ((200 : Int) < (((r_0.2).2).1))) ∨ (¬ (((bY ((((r_0.2).2).2).1)).getD false) = true))) → (((bY (((((r_0.2).2).2).2).1)).isSome = true)))) (if ((((((((((r_0.1) < (1 : Int)) ∨ ((3 : Int) < (r_0.1))) ∨ (((r_0.2).1) < (0 : Int))) ∨ ((1073741824 : Int) < ((r_0.2).1))) ∨ ((((r_0.2).2).1) < (0 : Int))) ∨ ((200 : Int) < (((r_0.2).2).1))) ∨ (¬ (((bY ((((r_0.2).2).2).1)).getD false) = true))) ∨ (¬ (((bY (((((r_0.2).2).2).2).1)).getD false) = true))) ∨ ((16 : Int) < (((((((r_0.2).2).2).2).2).1).length : Int))) ∨ ((16 : Int) < ((((((((r_0.2).2).2).2).2).2).1).length : Int)) then some false else (bO (fun d : Int => oN r_0 d) (0 : Int)).bind (fun e => match e with | (.inl e) => oM r_0 | (.inr e) => some e)))
def aF4 : PlR := ⟨[(0, .B [1]), (1, .A [1, 57]), (2, .A [2]), (3, .A [1, 3]), (4, .A [1, 3, 62]), (5, .A [1, 3]), (6, .A [1, 3, 80]), (7, .A [2]), (8, .A [1, 4]), (9, .A [1, 4, 85]), (10, .A [1, 4]), (11, .A [1, 4, 94]), (12, .A [2]), (13, .A [1, 4, 5]), (14, .A [1, 4, 5, 102]), (15, .A [1, 4, 5]), (16, .A [1, 4, 5, 114]), (17, .A [2]), (18, .A [2])], [(6, 11)]⟩
def aH9 : Ty := .pair (.pair (.i .i64) (.pair (.i .i64) (.pair (.i .i64) (.pair (.pair .bool (.pair (.sl (.u .u64)) (.pair (.i .i64) .unit))) (.pair (.pair .bool (.pair (.sl (.u .u64)) (.pair (.i .i64) .unit))) (.pair (.sl (.sl (.pair (.pair .bool (.pair (.sl (.u .u64)) (.pair (.i .i64) .unit))) (.pair (.pair .bool (.pair (.sl (.u .u64)) (.pair (.i .i64) .unit))) .unit)))) (.pair (.sl (.sl (.pair (.sl (.pair .bool (.pair (.sl (.u .u64)) (.pair (.i .i64) .unit)))) (.pair (.sl (.pair (.pair .bool (.pair (.sl (.u .u64)) (.pair (.i .i64) .unit))) (.pair (.pair .bool (.pair (.sl (.u .u64)) (.pair (.i .i64) .unit))) .unit))) .unit)))) .unit))))))) .unit
noncomputable def zF : aI := mSpec aH9 (.one .bool) (fun x => uB x.1)
noncomputable def aAY : List (FuncId × aI) := [(103, cU), (104, sF), (105, sG)]
theorem aQV : bF Tryz.prog GL aAY := .cons mG (by kernel_rfl) (.cons aF2 (by kernel_rfl) (.cons aGZ (by kernel_rfl) (.nil)))
theorem aI5 : gam aAY 103 = some cU := rfl
theorem aI6 : gam aAY 104 = some sF := rfl
theorem aI7 : gam aAY 105 = some sG := rfl
attribute [go_sem] aH9 aF4 aI5 aI6 aI7
set_option maxHeartbeats 4000000 in
theorem aO4 : FOK Tryz.prog GL 47 zF := by
 refine bD (bE aQV) mix Tryz.func47 rfl (by kernel_rfl) (by decide) aF4 fun w0 S x Θ hw h hF => ?_
 obtain ⟨(r_0 : qR0), u⟩ := x
 simp only [bH, go_sem]
 replace h : sat (uB r_0) _ := h
 unfold uB at h
 obtain ⟨g0, h⟩ := aJ h
 obtain ⟨g1, h⟩ := aJ h
 repeat (refine ⟨by first | with_reducible assumption | omega | (intros; first | assumption | omega) | (simp only [go_sem] at *; first | assumption | omega) | (intro q0; (try have e0 := g0 (by first | exact q0 | omega | (simpa using q0))); (try have e1 := g1 (by first | exact q0 | omega | (simpa using q0))); first | assumption | omega) | decide, ?_⟩)
 refine ⟨fun hc => ?_, fun hc => ?_⟩
 ·replace h := fU (by first | exact hc | omega | (simpa using hc) | (simp at hc ⊢; omega)) h
  exact aG hF [.tmp 2] rfl rfl rfl (aA h) (by simp only [aV, go_sem])
 ·replace h := fV (by first | exact hc | omega | (simpa using hc) | (simp at hc ⊢; omega)) h
  refine cO hF (D := Unit) (fun d => sat (oM r_0) Θ) [] (fun d => [(1, .ptr 0 [])]) (fun d => [.inr (.box 11 (.val (.pair (.i .i64) (.pair (.i .i64) (.pair (.i .i64) (.pair (.pair .bool (.pair (.sl (.u .u64)) (.pair (.i .i64) .unit))) (.pair (.pair .bool (.pair (.sl (.u .u64)) (.pair (.i .i64) .unit))) (.pair (.sl (.sl (.pair (.pair .bool (.pair (.sl (.u .u64)) (.pair (.i .i64) .unit))) (.pair (.pair .bool (.pair (.sl (.u .u64)) (.pair (.i .i64) .unit))) .unit)))) (.pair (.sl (.sl (.pair (.sl (.pair .bool (.pair (.sl (.u .u64)) (.pair (.i .i64) .unit)))) (.pair (.sl (.pair (.pair .bool (.pair (.sl (.u .u64)) (.pair (.i .i64) .unit))) (.pair (.pair .bool (.pair (.sl (.u .u64)) (.pair (.i .i64) .unit))) .unit))) .unit)))) .unit))))))) r_0))]) ?_ ?_
  ·simp only [go_sem]
   refine bC hF (D := Int) [] (fun d => [(1, .ptr 0 []), (3, .val (.i .i64) d)]) (fun d => [.inr (.box 11 (.val (.pair (.i .i64) (.pair (.i .i64) (.pair (.i .i64) (.pair (.pair .bool (.pair (.sl (.u .u64)) (.pair (.i .i64) .unit))) (.pair (.pair .bool (.pair (.sl (.u .u64)) (.pair (.i .i64) .unit))) (.pair (.sl (.sl (.pair (.pair .bool (.pair (.sl (.u .u64)) (.pair (.i .i64) .unit))) (.pair (.pair .bool (.pair (.sl (.u .u64)) (.pair (.i .i64) .unit))) .unit)))) (.pair (.sl (.sl (.pair (.sl (.pair .bool (.pair (.sl (.u .u64)) (.pair (.i .i64) .unit)))) (.pair (.sl (.pair (.pair .bool (.pair (.sl (.u .u64)) (.pair (.i .i64) .unit))) (.pair (.pair .bool (.pair (.sl (.u .u64)) (.pair (.i .i64) .unit))) .unit))) .unit)))) .unit))))))) r_0))]) h rfl (by simp only [go_sem]) ?_
   rintro i_52 A4 T4 hA4 hE4 h
   simp only [go_sem]
   replace h : sat (oN r_0 i_52) _ := h
   unfold oN at h
   refine bW h (fun hc h => ?_) fun hc h => ?_
   ·obtain ⟨g0, h⟩ := aJ h
    obtain ⟨g1, h⟩ := aJ h
    obtain ⟨g2, h⟩ := aJ h
    repeat (refine ⟨by first | with_reducible assumption | omega | (intros; first | assumption | omega) | (simp only [go_sem] at *; first | assumption | omega) | (intro q0; (try have e1 := g1 (by first | exact q0 | omega | (simpa using q0))); (try have e2 := g2 (by first | exact q0 | omega | (simpa using q0))); first | assumption | omega) | decide, ?_⟩)
    refine ⟨fun hc => ?_, fun hc => ?_⟩
    ·replace h := fU (by first | exact hc | omega | (simpa using hc) | (simp at hc ⊢; omega)) h
     replace h := hE4 _ (aA h)
     try dsimp only at h
     exact aG hF [.tmp 2] rfl rfl rfl (aA h) (by simp only [aV, go_sem])
    ·replace h := fV (by first | exact hc | omega | (simpa using hc) | (simp at hc ⊢; omega)) h
     obtain ⟨g0, h⟩ := aJ h
     try simp only [I64, I32] at g0
     repeat (refine ⟨by first | with_reducible assumption | omega | (intros; first | assumption | omega) | (simp only [go_sem] at *; first | assumption | omega) | decide, ?_⟩)
     replace h := hA4 _ (aA h)
     exact aP _ h rfl (by simp only [go_sem])
   ·replace h := hE4 _ (aA h)
    try dsimp only at h
    exact aP (()) h rfl (by simp only [go_sem])
  ·rintro u h
   simp only [go_sem]
   replace h : sat (oM r_0) _ := h
   unfold oM at h
   refine bC hF (D := Int) [] (fun d => [(1, .ptr 0 []), (4, .val (.i .i64) d)]) (fun d => [.inr (.box 11 (.val (.pair (.i .i64) (.pair (.i .i64) (.pair (.i .i64) (.pair (.pair .bool (.pair (.sl (.u .u64)) (.pair (.i .i64) .unit))) (.pair (.pair .bool (.pair (.sl (.u .u64)) (.pair (.i .i64) .unit))) (.pair (.sl (.sl (.pair (.pair .bool (.pair (.sl (.u .u64)) (.pair (.i .i64) .unit))) (.pair (.pair .bool (.pair (.sl (.u .u64)) (.pair (.i .i64) .unit))) .unit)))) (.pair (.sl (.sl (.pair (.sl (.pair .bool (.pair (.sl (.u .u64)) (.pair (.i .i64) .unit)))) (.pair (.sl (.pair (.pair .bool (.pair (.sl (.u .u64)) (.pair (.i .i64) .unit))) (.pair (.pair .bool (.pair (.sl (.u .u64)) (.pair (.i .i64) .unit))) .unit))) .unit)))) .unit))))))) r_0))]) h rfl (by simp only [go_sem]) ?_
   rintro i_24 A9 T9 hA9 hE9 h
   simp only [go_sem]
   replace h : sat (oL r_0 i_24) _ := h
   unfold oL at h
   refine bW h (fun hc h => ?_) fun hc h => ?_
   ·obtain ⟨g0, h⟩ := aJ h
    repeat (refine ⟨by first | with_reducible assumption | omega | (intros; first | assumption | omega) | (simp only [go_sem] at *; first | assumption | omega) | decide, ?_⟩)
    refine bW h (fun hc h => ?_) fun hc h => ?_
    ·replace h := hE9 _ (aA h)
     try dsimp only at h
     exact aG hF [.tmp 2] rfl rfl rfl (aA h) (by simp only [aV, go_sem])
    ·refine bC hF (D := Int) [4] (fun d => [(1, .ptr 0 []), (5, .val (.i .i64) d)]) (fun d => [.inr (.box 11 (.val (.pair (.i .i64) (.pair (.i .i64) (.pair (.i .i64) (.pair (.pair .bool (.pair (.sl (.u .u64)) (.pair (.i .i64) .unit))) (.pair (.pair .bool (.pair (.sl (.u .u64)) (.pair (.i .i64) .unit))) (.pair (.sl (.sl (.pair (.pair .bool (.pair (.sl (.u .u64)) (.pair (.i .i64) .unit))) (.pair (.pair .bool (.pair (.sl (.u .u64)) (.pair (.i .i64) .unit))) .unit)))) (.pair (.sl (.sl (.pair (.sl (.pair .bool (.pair (.sl (.u .u64)) (.pair (.i .i64) .unit)))) (.pair (.sl (.pair (.pair .bool (.pair (.sl (.u .u64)) (.pair (.i .i64) .unit))) (.pair (.pair .bool (.pair (.sl (.u .u64)) (.pair (.i .i64) .unit))) .unit))) .unit)))) .unit))))))) r_0))]) h rfl (by simp only [go_sem]) ?_
     rintro k_40 A14 T14 hA14 hE14 h
     simp only [go_sem]
     replace h : sat (mJ i_24 r_0 k_40) _ := h
     unfold mJ at h
     obtain ⟨g0, h⟩ := aJ h
     repeat (refine ⟨by first | with_reducible assumption | omega | (intros; first | assumption | omega) | (simp only [go_sem] at *; first | assumption | omega) | decide, ?_⟩)
     refine bW h (fun hc h => ?_) fun hc h => ?_
     ·obtain ⟨g0, h⟩ := aJ h
      obtain ⟨g1, h⟩ := aJ h
      repeat (refine ⟨by first | with_reducible assumption | omega | (intros; first | assumption | omega) | (simp only [go_sem] at *; first | assumption | omega) | decide, ?_⟩)
      obtain ⟨v_49, hv, h⟩ := aQ h
      try simp only [hv, go_sem]
      refine aC5 h (fun hc h => ?_) fun hc h => ?_
      ·replace h := hE14 _ (aA h)
       try dsimp only at h
       replace h := hE9 _ (aA h)
       try dsimp only at h
       exact aG hF [.tmp 2] rfl rfl rfl (aA h) (by simp only [aV, go_sem])
      ·obtain ⟨g0, h⟩ := aJ h
       try simp only [I64, I32] at g0
       repeat (refine ⟨by first | with_reducible assumption | omega | (intros; first | assumption | omega) | (simp only [go_sem] at *; first | assumption | omega) | decide, ?_⟩)
       replace h := hA14 _ (aA h)
       exact aP _ h rfl (by simp only [go_sem])
     ·replace h := hE14 _ (aA h)
      try dsimp only at h
      obtain ⟨g0, h⟩ := aJ h
      try simp only [I64, I32] at g0
      repeat (refine ⟨by first | with_reducible assumption | omega | (intros; first | assumption | omega) | (simp only [go_sem] at *; first | assumption | omega) | decide, ?_⟩)
      replace h := hA9 _ (aA h)
      exact aP _ h rfl (by simp only [go_sem])
   ·replace h := hE9 _ (aA h)
    try dsimp only at h
    exact aG hF [.tmp 2] rfl rfl rfl (aA h) (by simp only [aV, go_sem])
attribute [go_sem] zF
noncomputable def mY (n_6 : Int) (s_7 : (List Nat)) : Option ((List Nat)) :=
 ck (I64 (n_6 + (1 : Int))) (ck (0 ≤ n_6 ∧ n_6 ≤ (n_6 + (1 : Int)) ∧ (n_6 + (1 : Int)) ≤ ((((aN ⟨#[48, 49, 50, 51, 52, 53, 54, 55, 56, 57]⟩).length) : Nat) : Int)) (ck (((List.drop (n_6.toNat) (List.take ((n_6 + (1 : Int)).toNat) (aN ⟨#[48, 49, 50, 51, 52, 53, 54, 55, 56, 57]⟩))).length) + (s_7.length) ≤ 9223372036854775807) (some ((List.drop (n_6.toNat) (List.take ((n_6 + (1 : Int)).toNat) (aN ⟨#[48, 49, 50, 51, 52, 53, 54, 55, 56, 57]⟩))) ++ s_7))))
noncomputable def mZ (n_8 : Int) (s_9 : (List Nat)) : Option ((Int × (List Nat)) ⊕ ((Int × (List Nat)))) :=
 if (9 : Int) < n_8 then ck (I64 ((Int.tmod n_8 (10 : Int)) + (1 : Int))) (ck (0 ≤ (Int.tmod n_8 (10 : Int)) ∧ (Int.tmod n_8 (10 : Int)) ≤ ((Int.tmod n_8 (10 : Int)) + (1 : Int)) ∧ ((Int.tmod n_8 (10 : Int)) + (1 : Int)) ≤ ((((aN ⟨#[48, 49, 50, 51, 52, 53, 54, 55, 56, 57]⟩).length) : Nat) : Int)) (ck (((List.drop ((Int.tmod n_8 (10 : Int)).toNat) (List.take (((Int.tmod n_8 (10 : Int)) + (1 : Int)).toNat) (aN ⟨#[48, 49, 50, 51, 52, 53, 54, 55, 56, 57]⟩))).length) + (s_9.length) ≤ 9223372036854775807) (ck (I64 (Int.tdiv n_8 (10 : Int))) (some (.inl ((Int.tdiv n_8 (10 : Int)), ((List.drop ((Int.tmod n_8 (10 : Int)).toNat) (List.take (((Int.tmod n_8 (10 : Int)) + (1 : Int)).toNat) (aN ⟨#[48, 49, 50, 51, 52, 53, 54, 55, 56, 57]⟩))) ++ s_9))))))) else some (.inr (n_8, s_9))
noncomputable def lQ (n_0 : Int) : Option (List Nat) :=
 (bO (fun d : Int × (List Nat) => mZ d.1 d.2) (n_0, (aN ⟨#[]⟩))).bind (fun e => mY e.1 e.2)
def aCu : PlR := ⟨[(0, .A [0]), (1, .A [0, 3]), (2, .A [0, 3, 5]), (3, .A [0, 3]), (4, .A [0, 3]), (5, .A [2])], [(5, 8)]⟩
def aDM : Ty := .pair (.i .i64) .unit
noncomputable def tB : aI := mSpec aDM (.one .str) (fun x => lQ x.1)
noncomputable def aLW : List (FuncId × aI) := []
theorem aLX : bF Tryz.prog GL aLW := .nil
attribute [go_sem] aDM aCu
set_option maxHeartbeats 4000000 in
theorem aI8 : FOK Tryz.prog GL 49 tB := by
 refine bD (bE aLX) mix Tryz.func49 rfl (by kernel_rfl) (by decide) aCu fun w0 S x Θ hw h hF => ?_
 obtain ⟨(n_0 : Int), u⟩ := x
 simp only [bH, go_sem]
 replace h : sat (lQ n_0) _ := h
 unfold lQ at h
 refine cO hF (D := Int × (List Nat)) (fun d => sat (mY d.1 d.2) Θ) [] (fun d => [(0, .val (.i .i64) d.1), (3, .val .str d.2)]) (fun d => []) ?_ ?_
 ·simp only [go_sem]
  refine bC hF (D := Int × (List Nat)) [] (fun d => [(0, .val (.i .i64) d.1), (3, .val .str d.2)]) (fun d => []) h rfl (by simp only [go_sem]) ?_
  rintro ⟨n_8, s_9⟩ A2 T2 hA2 hE2 h
  simp only [go_sem]
  replace h : sat (mZ n_8 s_9) _ := h
  unfold mZ at h
  refine bW h (fun hc h => ?_) fun hc h => ?_
  ·refine aH h fun g0 h => aH h fun g1 h => aH h fun g2 h => ?_
   refine aH h fun g0 h => ?_
   replace h := hA2 _ (aA h)
   exact aP _ h rfl (by simp only [go_sem])
  ·replace h := hE2 _ (aA h)
   try dsimp only at h
   exact aP ((n_8, s_9)) h rfl (by simp only [go_sem])
 ·rintro ⟨n_6, s_7⟩ h
  simp only [go_sem]
  replace h : sat (mY n_6 s_7) _ := h
  unfold mY at h
  refine aH h fun g0 h => aH h fun g1 h => aH h fun g2 h => ?_
  exact aG hF [.tmp 2] rfl rfl rfl (aA h) (by simp only [aV, go_sem])
attribute [go_sem] tB
noncomputable def pT (a_0 : qI0) (n_1 : Int) : Option ((List Nat) × (Int × Unit)) :=
 (tK a_0).bind (fun v_8 => if ¬ (v_8 = true) then some ((aN ⟨#[]⟩), (1 : Int), ()) else (mW (a_0.1) n_1 false).bind (fun v_12 => if ¬ (((v_12.2).1) = (0 : Int)) then some ((aN ⟨#[]⟩), ((v_12.2).1), ()) else (mW ((a_0.2).1) n_1 true).bind (fun v_16 => if ¬ (((v_16.2).1) = (0 : Int)) then some ((aN ⟨#[]⟩), ((v_16.2).1), ()) else ck (((aN ⟨#[91]⟩).length) + ((v_12.1).length) ≤ 9223372036854775807) (ck ((((aN ⟨#[91]⟩) ++ (v_12.1)).length) + ((aN ⟨#[44, 32]⟩).length) ≤ 9223372036854775807) (ck (((((aN ⟨#[91]⟩) ++ (v_12.1)) ++ (aN ⟨#[44, 32]⟩)).length) + ((v_16.1).length) ≤ 9223372036854775807) (ck ((((((aN ⟨#[91]⟩) ++ (v_12.1)) ++ (aN ⟨#[44, 32]⟩)) ++ (v_16.1)).length) + ((aN ⟨#[93]⟩).length) ≤ 9223372036854775807) (some ((((((aN ⟨#[91]⟩) ++ (v_12.1)) ++ (aN ⟨#[44, 32]⟩)) ++ (v_16.1)) ++ (aN ⟨#[93]⟩)), (0 : Int), ()))))))))
def aEo : PlR := ⟨[(0, .B [1, 2]), (1, .A [1, 2, 11]), (2, .A [4, 5]), (3, .A [1, 2, 6, 7]), (4, .A [1, 2, 6, 7, 20]), (5, .A [4, 5]), (6, .A [6, 7, 8]), (7, .A [6, 7, 8, 30]), (8, .A [4, 5]), (9, .A [4, 5])], []⟩
def aF5 : Ty := .pair (.pair (.pair .bool (.pair (.sl (.u .u64)) (.pair (.i .i64) .unit))) (.pair (.pair .bool (.pair (.sl (.u .u64)) (.pair (.i .i64) .unit))) .unit)) (.pair (.i .i64) .unit)
noncomputable def qN : aI := mSpec aF5 (.tup (.pair .str (.pair (.i .i64) .unit))) (fun x => pT x.1 x.2.1)
noncomputable def aCd : List (FuncId × aI) := [(48, sC), (53, uA)]
theorem aO5 : bF Tryz.prog GL aCd := .cons aFU (by kernel_rfl) (.cons aH4 (by kernel_rfl) (.nil))
theorem aI9 : gam aCd 48 = some sC := rfl
theorem aJa : gam aCd 53 = some uA := rfl
attribute [go_sem] aF5 aEo aI9 aJa
set_option maxHeartbeats 4000000 in
theorem aEp : FOK Tryz.prog GL 19 qN := by
 refine bD (bE aO5) mix Tryz.func19 rfl (by kernel_rfl) (by decide) aEo fun w0 S x Θ hw h hF => ?_
 obtain ⟨(a_0 : qI0), (n_1 : Int), u⟩ := x
 simp only [bH, go_sem]
 replace h : sat (pT a_0 n_1) _ := h
 unfold pT at h
 obtain ⟨v_8, hv, h⟩ := aQ h
 try simp only [hv, go_sem]
 refine aC5 h (fun hc h => ?_) fun hc h => ?_
 ·exact aG hF [.tmp 4, .tmp 5] rfl rfl rfl (aA h) (by simp only [aV, go_sem])
 ·obtain ⟨v_12, hv, h⟩ := aQ h
  try simp only [hv, go_sem]
  refine cX h (fun hc h => ?_) fun hc h => ?_
  ·exact aG hF [.tmp 4, .tmp 5] rfl rfl rfl (aA h) (by simp only [aV, go_sem])
  ·obtain ⟨v_16, hv, h⟩ := aQ h
   try simp only [hv, go_sem]
   refine cX h (fun hc h => ?_) fun hc h => ?_
   ·exact aG hF [.tmp 4, .tmp 5] rfl rfl rfl (aA h) (by simp only [aV, go_sem])
   ·refine aH h fun g0 h => aH h fun g1 h => aH h fun g2 h => aH h fun g3 h => ?_
    exact aG hF [.tmp 4, .tmp 5] rfl rfl rfl (aA h) (by simp only [aV, go_sem])
attribute [go_sem] qN
noncomputable def kQ (i_60 : Int) (r_0 : qR0) (n_1 : Int) (s_83 : (List Nat)) (k_84 : Int) : Option (((List Nat) × Int) ⊕ (((List Nat)) ⊕ ((List Nat) × (Int × Unit)))) :=
 ck (0 ≤ i_60 ∧ i_60 < (((((((r_0.2).2).2).2).2).1).length : Int)) (if k_84 < ((((((((((r_0.2).2).2).2).2).1).getD (i_60.toNat) ([] : List qI0)).length) : Nat) : Int) then ck (0 ≤ i_60 ∧ i_60 < (((((((r_0.2).2).2).2).2).1).length : Int)) (ck (0 ≤ k_84 ∧ k_84 < ((((((((((r_0.2).2).2).2).2).1).getD (i_60.toNat) ([] : List qI0)).length) : Nat) : Int)) ((pT ((((((((r_0.2).2).2).2).2).1).getD (i_60.toNat) ([] : List qI0)).getD (k_84.toNat) ((false, ([] : List Nat), (0 : Int), ()), (false, ([] : List Nat), (0 : Int), ()), ())) n_1).bind (fun v_95 => if ¬ (((v_95.2).1) = (0 : Int)) then some (.inr (.inr ((aN ⟨#[]⟩), ((v_95.2).1), ()))) else ck ((s_83.length) + ((aN ⟨#[32]⟩).length) ≤ 9223372036854775807) (ck (((s_83 ++ (aN ⟨#[32]⟩)).length) + ((v_95.1).length) ≤ 9223372036854775807) (ck (I64 (k_84 + (1 : Int))) (some (.inl (((s_83 ++ (aN ⟨#[32]⟩)) ++ (v_95.1)), (k_84 + (1 : Int)))))))))) else some (.inr (.inl s_83)))
noncomputable def kR (r_0 : qR0) (n_1 : Int) (s_59 : (List Nat)) (i_60 : Int) : Option (((List Nat) × Int) ⊕ (((List Nat)) ⊕ ((List Nat) × (Int × Unit)))) :=
 if i_60 < (((((((r_0.2).2).2).2).2).1).length : Int) then (bO (fun d : (List Nat) × Int => kQ i_60 r_0 n_1 d.1 d.2) (s_59, (0 : Int))).bind (fun e => match e with | (.inl e) => ck (I64 (i_60 + (1 : Int))) (some (.inl (e, (i_60 + (1 : Int))))) | (.inr e) => some (.inr (.inr e))) else some (.inr (.inl s_59))
noncomputable def jP (r_0 : qR0) (n_1 : Int) (s_21 : (List Nat)) : Option (((List Nat) × (Int × Unit))) :=
 if ¬ ((r_0.1) = (1 : Int)) then ck ((s_21.length) + ((aN ⟨#[32]⟩).length) ≤ 9223372036854775807) ((lQ (((r_0.2).2).1)).bind (fun v_27 => ck (((s_21 ++ (aN ⟨#[32]⟩)).length) + (v_27.length) ≤ 9223372036854775807) (ck ((((s_21 ++ (aN ⟨#[32]⟩)) ++ v_27).length) + ((aN ⟨#[10]⟩).length) ≤ 9223372036854775807) (some ((((s_21 ++ (aN ⟨#[32]⟩)) ++ v_27) ++ (aN ⟨#[10]⟩)), (0 : Int), ()))))) else (bO (fun d : (List Nat) × Int => kR r_0 n_1 d.1 d.2) (s_21, (0 : Int))).bind (fun e => match e with | (.inl e) => ck ((e.length) + ((aN ⟨#[10]⟩).length) ≤ 9223372036854775807) (some ((e ++ (aN ⟨#[10]⟩)), (0 : Int), ())) | (.inr e) => some e)
noncomputable def pU (r_0 : qR0) (n_1 : Int) : Option ((List Nat) × (Int × Unit)) :=
 (uB r_0).bind (fun v_8 => if ¬ (v_8 = true) then some ((aN ⟨#[]⟩), (1 : Int), ()) else (mW ((((r_0.2).2).2).1) n_1 false).bind (fun v_12 => if ¬ (((v_12.2).1) = (0 : Int)) then some ((aN ⟨#[]⟩), ((v_12.2).1), ()) else ck (0 ≤ (r_0.1) ∧ (r_0.1) < (4 : Int)) ((lQ ((r_0.2).1)).bind (fun v_18 => ck (((([(aN ⟨#[]⟩), (aN ⟨#[99, 111, 109, 109, 105, 116, 32]⟩), (aN ⟨#[114, 101, 106, 101, 99, 116, 32]⟩), (aN ⟨#[101, 110, 100, 32]⟩)] : List (List Nat)).getD ((r_0.1).toNat) ([] : List Nat)).length) + (v_18.length) ≤ 9223372036854775807) (ck ((((([(aN ⟨#[]⟩), (aN ⟨#[99, 111, 109, 109, 105, 116, 32]⟩), (aN ⟨#[114, 101, 106, 101, 99, 116, 32]⟩), (aN ⟨#[101, 110, 100, 32]⟩)] : List (List Nat)).getD ((r_0.1).toNat) ([] : List Nat)) ++ v_18).length) + ((aN ⟨#[32]⟩).length) ≤ 9223372036854775807) (ck (((((([(aN ⟨#[]⟩), (aN ⟨#[99, 111, 109, 109, 105, 116, 32]⟩), (aN ⟨#[114, 101, 106, 101, 99, 116, 32]⟩), (aN ⟨#[101, 110, 100, 32]⟩)] : List (List Nat)).getD ((r_0.1).toNat) ([] : List Nat)) ++ v_18) ++ (aN ⟨#[32]⟩)).length) + ((v_12.1).length) ≤ 9223372036854775807) (if ¬ ((r_0.1) = (3 : Int)) then (mW (((((r_0.2).2).2).2).1) n_1 false).bind (fun v_101 => if ¬ (((v_101.2).1) = (0 : Int)) then some ((aN ⟨#[]⟩), ((v_101.2).1), ()) else ck ((((((([(aN ⟨#[]⟩), (aN ⟨#[99, 111, 109, 109, 105, 116, 32]⟩), (aN ⟨#[114, 101, 106, 101, 99, 116, 32]⟩), (aN ⟨#[101, 110, 100, 32]⟩)] : List (List Nat)).getD ((r_0.1).toNat) ([] : List Nat)) ++ v_18) ++ (aN ⟨#[32]⟩)) ++ (v_12.1)).length) + ((aN ⟨#[32]⟩).length) ≤ 9223372036854775807) (ck (((((((([(aN ⟨#[]⟩), (aN ⟨#[99, 111, 109, 109, 105, 116, 32]⟩), (aN ⟨#[114, 101, 106, 101, 99, 116, 32]⟩), (aN ⟨#[101, 110, 100, 32]⟩)] : List (List Nat)).getD ((r_0.1).toNat) ([] : List Nat)) ++ v_18) ++ (aN ⟨#[32]⟩)) ++ (v_12.1)) ++ (aN ⟨#[32]⟩)).length) + ((v_101.1).length) ≤ 9223372036854775807) (jP r_0 n_1 ((((((([(aN ⟨#[]⟩), (aN ⟨#[99, 111, 109, 109, 105, 116, 32]⟩), (aN ⟨#[114, 101, 106, 101, 99, 116, 32]⟩), (aN ⟨#[101, 110, 100, 32]⟩)] : List (List Nat)).getD ((r_0.1).toNat) ([] : List Nat)) ++ v_18) ++ (aN ⟨#[32]⟩)) ++ (v_12.1)) ++ (aN ⟨#[32]⟩)) ++ (v_101.1))))) else jP r_0 n_1 ((((([(aN ⟨#[]⟩), (aN ⟨#[99, 111, 109, 109, 105, 116, 32]⟩), (aN ⟨#[114, 101, 106, 101, 99, 116, 32]⟩), (aN ⟨#[101, 110, 100, 32]⟩)] : List (List Nat)).getD ((r_0.1).toNat) ([] : List Nat)) ++ v_18) ++ (aN ⟨#[32]⟩)) ++ (v_12.1)))))))))
def aEq : PlR := ⟨[(0, .B [1, 2]), (1, .A [1, 2, 17]), (2, .A [4, 5]), (3, .A [1, 2, 6, 7]), (4, .A [1, 2, 6, 7, 26]), (5, .A [4, 5]), (6, .A [1, 2, 8]), (7, .A [1, 2, 8, 42]), (8, .A [1, 2, 8, 9, 10]), (9, .A [1, 2, 8, 9, 10, 51]), (10, .A [4, 5]), (11, .A [1, 2, 8]), (12, .A [1, 2, 8, 59]), (13, .A [4, 5]), (14, .A [1, 2, 8, 11]), (15, .A [1, 2, 8, 11, 71]), (16, .A [1, 2, 8, 11]), (17, .A [1, 2, 8, 11, 12]), (18, .A [1, 2, 8, 11, 12, 81]), (19, .A [1, 2, 8, 11, 12]), (20, .A [1, 2, 8, 11, 12, 13, 14]), (21, .A [1, 2, 8, 11, 12, 13, 14, 98]), (22, .A [4, 5]), (23, .A [1, 2, 8, 11, 12]), (24, .A [4, 5])], [(10, 15)]⟩
def aF6 : Ty := .pair (.pair (.i .i64) (.pair (.i .i64) (.pair (.i .i64) (.pair (.pair .bool (.pair (.sl (.u .u64)) (.pair (.i .i64) .unit))) (.pair (.pair .bool (.pair (.sl (.u .u64)) (.pair (.i .i64) .unit))) (.pair (.sl (.sl (.pair (.pair .bool (.pair (.sl (.u .u64)) (.pair (.i .i64) .unit))) (.pair (.pair .bool (.pair (.sl (.u .u64)) (.pair (.i .i64) .unit))) .unit)))) (.pair (.sl (.sl (.pair (.sl (.pair .bool (.pair (.sl (.u .u64)) (.pair (.i .i64) .unit)))) (.pair (.sl (.pair (.pair .bool (.pair (.sl (.u .u64)) (.pair (.i .i64) .unit))) (.pair (.pair .bool (.pair (.sl (.u .u64)) (.pair (.i .i64) .unit))) .unit))) .unit)))) .unit))))))) (.pair (.i .i64) .unit)
noncomputable def qO : aI := mSpec aF6 (.tup (.pair .str (.pair (.i .i64) .unit))) (fun x => pU x.1 x.2.1)
noncomputable def vH : List (FuncId × aI) := [(19, qN), (47, zF), (48, sC), (49, tB)]
theorem aO6 : bF Tryz.prog GL vH := .cons aEp (by kernel_rfl) (.cons aO4 (by kernel_rfl) (.cons aFU (by kernel_rfl) (.cons aI8 (by kernel_rfl) (.nil))))
theorem aJb : gam vH 19 = some qN := rfl
theorem aJc : gam vH 47 = some zF := rfl
theorem aJd : gam vH 48 = some sC := rfl
theorem aJe : gam vH 49 = some tB := rfl
attribute [go_sem] aF6 aEq aJb aJc aJd aJe
set_option maxHeartbeats 4000000 in
theorem aEr : FOK Tryz.prog GL 15 qO := by
 refine bD (bE aO6) mix Tryz.func15 rfl (by kernel_rfl) (by decide) aEq fun w0 S x Θ hw h hF => ?_
 obtain ⟨(r_0 : qR0), (n_1 : Int), u⟩ := x
 simp only [bH, go_sem]
 replace h : sat (pU r_0 n_1) _ := h
 unfold pU at h
 obtain ⟨v_8, hv, h⟩ := aQ h
 try simp only [hv, go_sem]
 refine aC5 h (fun hc h => ?_) fun hc h => ?_
 ·exact aG hF [.tmp 4, .tmp 5] rfl rfl rfl (aA h) (by simp only [aV, go_sem])
 ·obtain ⟨v_12, hv, h⟩ := aQ h
  try simp only [hv, go_sem]
  refine cX h (fun hc h => ?_) fun hc h => ?_
  ·exact aG hF [.tmp 4, .tmp 5] rfl rfl rfl (aA h) (by simp only [aV, go_sem])
  ·refine aH h fun g0 h => ?_
   obtain ⟨v_18, hv, h⟩ := aQ h
   try simp only [hv, go_sem]
   refine aH h fun g0 h => aH h fun g1 h => aH h fun g2 h => ?_
   refine cO hF (D := (List Nat)) (fun d => sat (jP r_0 n_1 d) Θ) [1] (fun d => [(2, .ptr 0 []), (8, .val .str d)]) (fun d => [.inr (.box 11 (.val (.pair (.i .i64) (.pair (.i .i64) (.pair (.i .i64) (.pair (.pair .bool (.pair (.sl (.u .u64)) (.pair (.i .i64) .unit))) (.pair (.pair .bool (.pair (.sl (.u .u64)) (.pair (.i .i64) .unit))) (.pair (.sl (.sl (.pair (.pair .bool (.pair (.sl (.u .u64)) (.pair (.i .i64) .unit))) (.pair (.pair .bool (.pair (.sl (.u .u64)) (.pair (.i .i64) .unit))) .unit)))) (.pair (.sl (.sl (.pair (.sl (.pair .bool (.pair (.sl (.u .u64)) (.pair (.i .i64) .unit)))) (.pair (.sl (.pair (.pair .bool (.pair (.sl (.u .u64)) (.pair (.i .i64) .unit))) (.pair (.pair .bool (.pair (.sl (.u .u64)) (.pair (.i .i64) .unit))) .unit))) .unit)))) .unit))))))) r_0))]) ?_ ?_
   ·simp only [go_sem]
    refine cX h (fun hc h => ?_) fun hc h => ?_
    ·obtain ⟨v_101, hv, h⟩ := aQ h
     try simp only [hv, go_sem]
     refine cX h (fun hc h => ?_) fun hc h => ?_
     ·exact aG hF [.tmp 4, .tmp 5] rfl rfl rfl (aA h) (by simp only [aV, go_sem])
     ·refine aH h fun g0 h => aH h fun g1 h => ?_
      exact aP (((((((([(aN ⟨#[]⟩), (aN ⟨#[99, 111, 109, 109, 105, 116, 32]⟩), (aN ⟨#[114, 101, 106, 101, 99, 116, 32]⟩), (aN ⟨#[101, 110, 100, 32]⟩)] : List (List Nat)).getD ((r_0.1).toNat) ([] : List Nat)) ++ v_18) ++ (aN ⟨#[32]⟩)) ++ (v_12.1)) ++ (aN ⟨#[32]⟩)) ++ (v_101.1))) h rfl (by (try simp only [kU, hZ, true_or, and_self, go_sem]) <;> (repeat' apply And.intro) <;> first | rfl | (left; rfl) | (right; rfl) | (left; simp only [go_sem]; done) | (right; simp only [go_sem]; done) | (simp; done) | (simp only [*]; done) | omega)
    ·exact aP (((((([(aN ⟨#[]⟩), (aN ⟨#[99, 111, 109, 109, 105, 116, 32]⟩), (aN ⟨#[114, 101, 106, 101, 99, 116, 32]⟩), (aN ⟨#[101, 110, 100, 32]⟩)] : List (List Nat)).getD ((r_0.1).toNat) ([] : List Nat)) ++ v_18) ++ (aN ⟨#[32]⟩)) ++ (v_12.1))) h rfl (by (try simp only [kU, hZ, true_or, and_self, go_sem]) <;> (repeat' apply And.intro) <;> first | rfl | (left; rfl) | (right; rfl) | (left; simp only [go_sem]; done) | (right; simp only [go_sem]; done) | (simp; done) | (simp only [*]; done) | omega)
   ·rintro s_21 h
    simp only [go_sem]
    replace h : sat (jP r_0 n_1 s_21) _ := h
    unfold jP at h
    refine cX h (fun hc h => ?_) fun hc h => ?_
    ·refine aH h fun g0 h => ?_
     obtain ⟨v_27, hv, h⟩ := aQ h
     try simp only [hv, go_sem]
     refine aH h fun g0 h => aH h fun g1 h => ?_
     exact aG hF [.tmp 4, .tmp 5] rfl rfl rfl (aA h) (by simp only [aV, go_sem])
    ·refine bC hF (D := (List Nat) × Int) [1] (fun d => [(2, .ptr 0 []), (8, .val .str d.1), (11, .val (.i .i64) d.2)]) (fun d => [.inr (.box 11 (.val (.pair (.i .i64) (.pair (.i .i64) (.pair (.i .i64) (.pair (.pair .bool (.pair (.sl (.u .u64)) (.pair (.i .i64) .unit))) (.pair (.pair .bool (.pair (.sl (.u .u64)) (.pair (.i .i64) .unit))) (.pair (.sl (.sl (.pair (.pair .bool (.pair (.sl (.u .u64)) (.pair (.i .i64) .unit))) (.pair (.pair .bool (.pair (.sl (.u .u64)) (.pair (.i .i64) .unit))) .unit)))) (.pair (.sl (.sl (.pair (.sl (.pair .bool (.pair (.sl (.u .u64)) (.pair (.i .i64) .unit)))) (.pair (.sl (.pair (.pair .bool (.pair (.sl (.u .u64)) (.pair (.i .i64) .unit))) (.pair (.pair .bool (.pair (.sl (.u .u64)) (.pair (.i .i64) .unit))) .unit))) .unit)))) .unit))))))) r_0))]) h rfl (by simp only [go_sem]) ?_
     rintro ⟨s_59, i_60⟩ A15 T15 hA15 hE15 h
     simp only [go_sem]
     replace h : sat (kR r_0 n_1 s_59 i_60) _ := h
     unfold kR at h
     refine bW h (fun hc h => ?_) fun hc h => ?_
     ·refine bC hF (D := (List Nat) × Int) [1, 11] (fun d => [(2, .ptr 0 []), (8, .val .str d.1), (12, .val (.i .i64) d.2)]) (fun d => [.inr (.box 11 (.val (.pair (.i .i64) (.pair (.i .i64) (.pair (.i .i64) (.pair (.pair .bool (.pair (.sl (.u .u64)) (.pair (.i .i64) .unit))) (.pair (.pair .bool (.pair (.sl (.u .u64)) (.pair (.i .i64) .unit))) (.pair (.sl (.sl (.pair (.pair .bool (.pair (.sl (.u .u64)) (.pair (.i .i64) .unit))) (.pair (.pair .bool (.pair (.sl (.u .u64)) (.pair (.i .i64) .unit))) .unit)))) (.pair (.sl (.sl (.pair (.sl (.pair .bool (.pair (.sl (.u .u64)) (.pair (.i .i64) .unit)))) (.pair (.sl (.pair (.pair .bool (.pair (.sl (.u .u64)) (.pair (.i .i64) .unit))) (.pair (.pair .bool (.pair (.sl (.u .u64)) (.pair (.i .i64) .unit))) .unit))) .unit)))) .unit))))))) r_0))]) h rfl (by simp only [go_sem]) ?_
      rintro ⟨s_83, k_84⟩ A18 T18 hA18 hE18 h
      simp only [go_sem]
      replace h : sat (kQ i_60 r_0 n_1 s_83 k_84) _ := h
      unfold kQ at h
      refine aH h fun g0 h => ?_
      refine bW h (fun hc h => ?_) fun hc h => ?_
      ·refine aH h fun g0 h => aH h fun g1 h => ?_
       obtain ⟨v_95, hv, h⟩ := aQ h
       try simp only [hv, go_sem]
       refine cX h (fun hc h => ?_) fun hc h => ?_
       ·replace h := hE18 _ (aA h)
        try dsimp only at h
        replace h := hE15 _ (aA h)
        try dsimp only at h
        exact aG hF [.tmp 4, .tmp 5] rfl rfl rfl (aA h) (by simp only [aV, go_sem])
       ·refine aH h fun g0 h => aH h fun g1 h => ?_
        refine aH h fun g0 h => ?_
        replace h := hA18 _ (aA h)
        exact aP _ h rfl (by simp only [go_sem])
      ·replace h := hE18 _ (aA h)
       try dsimp only at h
       refine aH h fun g0 h => ?_
       replace h := hA15 _ (aA h)
       exact aP _ h rfl (by simp only [go_sem])
     ·replace h := hE15 _ (aA h)
      try dsimp only at h
      refine aH h fun g0 h => ?_
      exact aG hF [.tmp 4, .tmp 5] rfl rfl rfl (aA h) (by simp only [aV, go_sem])
attribute [go_sem] qO
noncomputable def qB (l_0 : (List qR0)) (n_1 : Int) (out_13 : (List Nat)) (i_14 : Int) : Option (((List Nat) × Int) ⊕ (((List Nat)) ⊕ ((List Nat) × (Int × Unit)))) :=
 if i_14 < (l_0.length : Int) then ck (0 ≤ i_14 ∧ i_14 < (l_0.length : Int)) ((pU (l_0.getD (i_14.toNat) ((0 : Int), (0 : Int), (0 : Int), (false, ([] : List Nat), (0 : Int), ()), (false, ([] : List Nat), (0 : Int), ()), ([] : List (List qI0)), ([] : List (List qT0)), ())) n_1).bind (fun v_25 => if ¬ (((v_25.2).1) = (0 : Int)) then some (.inr (.inr ((aN ⟨#[]⟩), ((v_25.2).1), ()))) else ck ((out_13.length) + ((v_25.1).length) ≤ 9223372036854775807) (ck (I64 (i_14 + (1 : Int))) (some (.inl ((out_13 ++ (v_25.1)), (i_14 + (1 : Int)))))))) else some (.inr (.inl out_13))
noncomputable def sH (l_0 : (List qR0)) (n_1 : Int) : Option ((List Nat) × (Int × Unit)) :=
 (bO (fun d : (List Nat) × Int => qB l_0 n_1 d.1 d.2) ((aN ⟨#[]⟩), (0 : Int))).bind (fun e => match e with | (.inl e) => some (e, (0 : Int), ()) | (.inr e) => some e)
def aEs : PlR := ⟨[(0, .A [0, 1]), (1, .A [0, 1, 6]), (2, .A [0, 1, 6, 7]), (3, .A [0, 1, 6, 7, 13]), (4, .A [0, 1, 6, 7]), (5, .A [0, 1, 6, 7, 8, 9]), (6, .A [0, 1, 6, 7, 8, 9, 26]), (7, .A [4, 5]), (8, .A [0, 1, 6, 7]), (9, .A [4, 5])], []⟩
def aF7 : Ty := .pair (.sl (.pair (.i .i64) (.pair (.i .i64) (.pair (.i .i64) (.pair (.pair .bool (.pair (.sl (.u .u64)) (.pair (.i .i64) .unit))) (.pair (.pair .bool (.pair (.sl (.u .u64)) (.pair (.i .i64) .unit))) (.pair (.sl (.sl (.pair (.pair .bool (.pair (.sl (.u .u64)) (.pair (.i .i64) .unit))) (.pair (.pair .bool (.pair (.sl (.u .u64)) (.pair (.i .i64) .unit))) .unit)))) (.pair (.sl (.sl (.pair (.sl (.pair .bool (.pair (.sl (.u .u64)) (.pair (.i .i64) .unit)))) (.pair (.sl (.pair (.pair .bool (.pair (.sl (.u .u64)) (.pair (.i .i64) .unit))) (.pair (.pair .bool (.pair (.sl (.u .u64)) (.pair (.i .i64) .unit))) .unit))) .unit)))) .unit)))))))) (.pair (.i .i64) .unit)
noncomputable def xC : aI := mSpec aF7 (.tup (.pair .str (.pair (.i .i64) .unit))) (fun x => sH x.1 x.2.1)
noncomputable def aF8 : List (FuncId × aI) := [(15, qO)]
theorem aO7 : bF Tryz.prog GL aF8 := .cons aEr (by kernel_rfl) (.nil)
theorem aJf : gam aF8 15 = some qO := rfl
attribute [go_sem] aF7 aEs aJf
set_option maxHeartbeats 4000000 in
theorem aMY : FOK Tryz.prog GL 17 xC := by
 refine bD (bE aO7) mix Tryz.func17 rfl (by kernel_rfl) (by decide) aEs fun w0 S x Θ hw h hF => ?_
 obtain ⟨(l_0 : (List qR0)), (n_1 : Int), u⟩ := x
 simp only [bH, go_sem]
 replace h : sat (sH l_0 n_1) _ := h
 unfold sH at h
 refine bC hF (D := (List Nat) × Int) [0, 1] (fun d => [(6, .val .str d.1), (7, .val (.i .i64) d.2)]) (fun d => []) h rfl (by simp only [go_sem]) ?_
 rintro ⟨out_13, i_14⟩ A3 T3 hA3 hE3 h
 simp only [go_sem]
 replace h : sat (qB l_0 n_1 out_13 i_14) _ := h
 unfold qB at h
 refine bW h (fun hc h => ?_) fun hc h => ?_
 ·refine aH h fun g0 h => ?_
  obtain ⟨v_25, hv, h⟩ := aQ h
  try simp only [hv, go_sem]
  refine cX h (fun hc h => ?_) fun hc h => ?_
  ·replace h := hE3 _ (aA h)
   try dsimp only at h
   exact aG hF [.tmp 4, .tmp 5] rfl rfl rfl (aA h) (by simp only [aV, go_sem])
  ·refine aH h fun g0 h => ?_
   refine aH h fun g0 h => ?_
   replace h := hA3 _ (aA h)
   exact aP _ h rfl (by simp only [go_sem])
 ·replace h := hE3 _ (aA h)
  try dsimp only at h
  exact aG hF [.tmp 4, .tmp 5] rfl rfl rfl (aA h) (by simp only [aV, go_sem])
attribute [go_sem] xC
end Nu
end Go.Proofs
namespace Go.Proofs
open Go.Vc
set_option maxRecDepth 20000
namespace Nu
theorem aQW (d : Dy) (hl : d.2.1.length ≤ 4611686018427387904) : rL d = some (qU d) := by
 unfold rL qU
 refine aK (vG d hl) ?_
 by_cases h : jR d = false ∨ d.2.1.length = 0
 ·rw [if_pos (by rcases h with h | h; exact .inl (by rw [h]; decide); exact .inr (by omega)), if_pos h]
 ·have hm : jR d = true := by
   cases hh : jR d with
   | true => rfl
   | false => exact absurd (.inl hh) h
  rw [if_neg (by rintro (hh | hh); exact hh hm; exact h (.inr (by omega))), if_neg h]
  by_cases hn : d.1 = true
  ·rw [if_pos hn, if_pos hn]
  ·rw [if_neg hn, if_neg hn]
theorem aWy (a b : Dy) (la : Lm a.2.1) (lb' : Lm b.2.1) (ha : jR a = true) (hb' : jR b = true) :
  (qM a).bind (fun x => (qM b).bind (fun y => rM x y)) = some (aFE a b) := by
 obtain ⟨a1, a2, a3, a4⟩ := wJ ha
 obtain ⟨b1, b2, b3, b4⟩ := wJ hb'
 have hba : bl (nv a.2.1) ≤ 64 * a.2.1.length := aBq (by rw [← uZ]; exact kV la)
 have hbb : bl (nv b.2.1) ≤ 64 * b.2.1.length := aBq (by rw [← uZ]; exact kV lb')
 have ea := aOW a.2.1 la (by omega)
 have eb := aOW b.2.1 lb' (by omega)
 have pw : ∀ k l : Nat, k ≤ l → 18446744073709551616 ^ k ≤ 18446744073709551616 ^ l := fun k l h => Nat.pow_le_pow_right (by decide) h
 have ha8 : (hb (nv a.2.1)).length ≤ 256 := aFX 64 256 rfl (Nat.lt_of_lt_of_le (kV la) (pw _ _ a1))
 have hb8 : (hb (nv b.2.1)).length ≤ 256 := aFX 64 256 rfl (Nat.lt_of_lt_of_le (kV lb') (pw _ _ b1))
 unfold qM
 rw [ea, eb]
 simp only [Option.bind_some]
 unfold rM aFE
 simp only
 refine aK (aLL _ (by omega)) (aB (by constructor <;> omega) (aK (aLL _ (by omega)) (aB (by constructor <;> omega) ?_)))
 by_cases h1 : (bl (nv a.2.1) : Int) + a.2.2.1 < (bl (nv b.2.1) : Int) + b.2.2.1
 ·rw [if_pos (by omega), if_pos h1, if_pos h1]
 ·by_cases h2 : (bl (nv b.2.1) : Int) + b.2.2.1 < (bl (nv a.2.1) : Int) + a.2.2.1
  ·rw [if_pos (by omega), if_neg h1, if_neg h1, if_pos h2]
  ·rw [if_neg (by omega), if_neg h1, if_neg h2]
   have s1 := aFW (nv a.2.1) (a.2.2.1 - min a.2.2.1 b.2.2.1) (by omega) (by omega) (by omega)
   have s2 := aFW (nv b.2.1) (b.2.2.1 - min a.2.2.1 b.2.2.1) (by omega) (by omega) (by omega)
   refine aB (by constructor <;> omega) (aK s1 (aB (by constructor <;> omega) (aK s2 ?_)))
   have h3 := kV la
   rw [uZ] at h3
   have h4 : nv a.2.1 * 2 ^ (a.2.2.1 - min a.2.2.1 b.2.2.1).toNat < 2 ^ (64 * a.2.1.length) * 2 ^ (a.2.2.1 - min a.2.2.1 b.2.2.1).toNat := Nat.mul_lt_mul_of_pos_right h3 (Nat.two_pow_pos _)
   rw [← Nat.pow_add] at h4
   have hx := aYy 100000 h4 (by omega)
   have hl := aFX 100000 400000 rfl hx
   rw [aJG _ _ (by omega)]
   rfl
theorem aQX (a b : Dy) (la : Lm a.2.1) (lb' : Lm b.2.1) (hla : a.2.1.length ≤ 4611686018427387904) (hlb : b.2.1.length ≤ 4611686018427387904) : iX a b = some (aOP a b) := by
 have ra := aDt a
 have rs := aHF a b
 unfold iX aOP
 refine aK (vG a hla) ?_
 rw [vG b hlb]
 refine aB (fun _ => rfl) ?_
 by_cases h : jR a = false ∨ jR b = false
 ·rw [if_pos (by rcases h with h | h; exact .inl (by rw [h]; decide); exact .inr (by rw [h]; decide)), if_pos h]
 ·have ha : jR a = true := by
   cases hh : jR a with
   | true => rfl
   | false => exact absurd (.inl hh) h
  have hb' : jR b = true := by
   cases hh : jR b with
   | true => rfl
   | false => exact absurd (.inr hh) h
  rw [if_neg (by rintro (hh | hh); exact hh ha; exact hh hb'), if_neg h]
  refine aK (aQW a hla) (aK (aQW b hlb) ?_)
  by_cases h1 : qU a < qU b
  ·rw [if_pos (by omega), if_pos h1, if_pos h1]
  ·rw [if_neg h1]
   by_cases h2 : qU b < qU a
   ·rw [if_pos (by omega), if_neg h1, if_pos h2, if_pos h2]
   ·rw [if_neg h2]
    by_cases h3 : qU a = 0
    ·rw [if_pos (by omega), if_neg h1, if_neg h2, if_pos h3]
    ·rw [if_neg (by omega), if_neg h1, if_neg h2, if_neg h3]
     have hs := aWy a b la lb' ha hb'
     cases hx : qM a with
     | none => rw [hx] at hs; cases hs
     | some x =>
      rw [hx] at hs
      cases hy : qM b with
      | none => rw [hy] at hs; cases hs
      | some y =>
       rw [hy] at hs
       have hs : rM x y = some (aFE a b) := hs
       refine aK rfl (aK rfl (aK hs (aB ?_ rfl)))
       rcases ra with r | r | r <;> rw [r] <;> constructor <;> omega
def ShI (a : Iv) : Prop := a.1.2.1.length ≤ 4611686018427387904 ∧ a.2.1.2.1.length ≤ 4611686018427387904
def ShT (t : Tb) : Prop := (∀ d ∈ t.1, d.2.1.length ≤ 4611686018427387904) ∧ (∀ a ∈ t.2.1, ShI a)
def ShR (r : Rec) : Prop := r.2.2.2.1.2.1.length ≤ 4611686018427387904 ∧ r.2.2.2.2.1.2.1.length ≤ 4611686018427387904 ∧ (∀ b ∈ r.2.2.2.2.2.1, b.length ≤ 1000 ∧ ∀ a ∈ b, ShI a) ∧ (∀ l ∈ r.2.2.2.2.2.2.1, l.length ≤ 1000 ∧ ∀ t ∈ l, ShT t)
theorem aQY (a : Iv) (lm : LmI a) (sh : ShI a) : tK a = some (aAn a) := by
 unfold tK aAn
 refine aK (vG _ sh.1) ?_
 rw [vG _ sh.2, aQX _ _ lm.1 lm.2 sh.1 sh.2]
 exact aB (fun _ => rfl) (aB (fun _ => rfl) rfl)
theorem aNJ (s : List Iv) (lm : ∀ a ∈ s, LmI a) (sh : ∀ a ∈ s, ShI a) (hl : s.length ≤ 4611686018427387904) : mX s = some (s.all aAn) := by
 have hlp : bO (fun d : Int => oK s d) 0 = some (bif (List.range s.length).all (fun i => aAn (s.getD i ((false, [], 0, ()), (false, [], 0, ()), ()))) then .inl () else .inr false) := by
  refine oH s.length _ (fun i hi => ?_) (by unfold oK; rw [if_neg (by omega)])
  have hm := pQ (z := (((false, [], 0, ()), (false, [], 0, ()), ()) : Iv)) hi
  unfold oK
  rw [if_pos (by omega), Int.toNat_natCast]
  refine aB (by constructor <;> omega) (aK (aQY _ (lm _ hm) (sh _ hm)) ?_)
  cases aAn (s.getD i ((false, [], 0, ()), (false, [], 0, ()), ())) with
  | true => rw [if_neg (by decide)]; exact aB (by constructor <;> omega) rfl
  | false => rw [if_pos (by decide)]; rfl
 unfold mX
 rw [hlp, oG]
 cases s.all aAn <;> rfl
theorem aSh (t : Tb) (lm : LmT t) (sh : ShT t) : mI t = some (aGP t) := by
 unfold mI
 refine aB (fun h => by constructor <;> omega) ?_
 by_cases h : 1 ≤ t.2.1.length ∧ t.2.1.length ≤ 256 ∧ t.1.length = t.2.1.length + 1
 ·rw [aNJ t.2.1 lm.2 sh.2 (by omega)]
  refine aB (fun _ => rfl) ?_
  rw [Option.getD_some]
  have hlp : bO (fun d : Int => iE t d) 0 = some (bif (List.range t.1.length).all (stepT t.1) then .inl () else .inr false) := by
   refine oH t.1.length (stepT t.1) (fun i hi => ?_) (by unfold iE; rw [if_neg (by omega)])
   have hi1 : i - 1 < t.1.length := by omega
   have hm1 := pQ (z := (d0 : Dy)) hi
   have hm2 := pQ (z := (d0 : Dy)) hi1
   have e1 : ((i : Int) - 1).toNat = i - 1 := by omega
   have hcmp := aQX _ _ (lm.1 _ hm2) (lm.1 _ hm1) (sh.1 _ hm2) (sh.1 _ hm1)
   unfold iE
   rw [if_pos (by omega), Int.toNat_natCast, e1, show ((false, [], (0 : Int), ()) : Dy) = d0 from rfl]
   have hless : rO (t.1.getD (i - 1) d0) (t.1.getD i d0) = some (decide (aOP (t.1.getD (i - 1) d0) (t.1.getD i d0) < 0)) := by
    unfold rO
    rw [hcmp]; rfl
   refine aB (by constructor <;> omega) (aK (vG _ (sh.1 _ hm1)) ?_)
   rw [hless]
   refine aB (fun _ _ => by constructor <;> omega) (aB (fun _ _ => by constructor <;> omega) (aB (fun _ _ => by constructor <;> omega) (aB (fun _ _ => rfl) ?_)))
   rw [Option.getD_some]
   have hI : I64 ((i : Int) + 1) := by constructor <;> omega
   unfold stepT
   generalize aOP (t.1.getD (i - 1) d0) (t.1.getD i d0) = c
   cases jR (t.1.getD i d0) with
   | false => rw [if_pos (by simp)]; rfl
   | true =>
    by_cases h0 : i = 0
    ·rw [if_neg (by simp; omega), wC hI]; simp [h0]
    ·by_cases hq : c < 0
     ·rw [if_neg (by simp [hq]), wC hI]; simp [hq]
     ·rw [if_pos (by simp [hq]; omega)]; simp [hq, h0]
  unfold aGP
  rw [decide_eq_true h]
  cases t.2.1.all aAn with
  | false => rw [if_pos (.inr (by decide))]; simp
  | true =>
   rw [if_neg (by rintro ((h | h) | h); omega; omega; exact h rfl), hlp]
   cases (List.range t.1.length).all (stepT t.1) <;> rfl
 ·refine aB (fun hx => absurd (by omega) h) ?_
  rw [if_pos (.inl (by omega))]
  unfold aGP
  rw [decide_eq_false h]; rfl
theorem aYn (r : Rec) (i : Nat) (hi : i < r.2.2.2.2.2.2.1.length) (hn : r.2.2.2.2.2.2.1.length ≤ 16) (s : List Tb) (hs : r.2.2.2.2.2.2.1.getD i [] = s) (lm : ∀ t ∈ s, LmT t) (sh : ∀ t ∈ s, ShT t) (hl : s.length ≤ 1000) :
  bO (fun d : Int => mJ (i : Int) r d) 0 = some (bif s.all aGP then .inl () else .inr false) := by
 rw [← oG s ([], [], ())]
 refine oH s.length _ (fun k hk => ?_) (by unfold mJ; rw [Int.toNat_natCast, hs]; exact aB (by constructor <;> omega) (by rw [if_neg (by omega)]))
 have hm := pQ (z := (([], [], ()) : Tb)) hk
 unfold mJ
 rw [Int.toNat_natCast, Int.toNat_natCast, hs]
 refine aB (by constructor <;> omega) ?_
 rw [if_pos (by omega)]
 refine aB (by constructor <;> omega) (aB (by constructor <;> omega) (aK (aSh _ (lm _ hm) (sh _ hm)) ?_))
 cases aGP (s.getD k ([], [], ())) with
 | true => rw [if_neg (by decide)]; exact aB (by constructor <;> omega) rfl
 | false => rw [if_pos (by decide)]; rfl
theorem aUl (r : Rec) (lm : LmR r) (sh : ShR r) : uB r = some (rG r) := by
 obtain ⟨s1, s2, s3, s4⟩ := sh
 unfold uB
 rw [vG _ s1, vG _ s2]
 refine aB (fun _ => rfl) (aB (fun _ => rfl) ?_)
 rw [Option.getD_some, Option.getD_some]
 cases hh : aEl r with
 | false =>
  rw [if_pos]
  ·unfold rG; rw [hh]; rfl
  ·unfold aEl at hh
   simp only [Bool.and_eq_false_iff, decide_eq_false_iff_not] at hh
   rcases hh with ((hh | hh) | hh) | hh
   ·omega
   ·rw [hh]; simp
   ·rw [hh]; simp
   ·omega
 | true =>
  have hh' := hh
  unfold aEl at hh'
  simp only [Bool.and_eq_true, decide_eq_true_eq] at hh'
  obtain ⟨⟨⟨q1, q2⟩, q3⟩, q4⟩ := hh'
  rw [if_neg (by rw [q2, q3]; simp; omega)]
  have hlp : bO (fun d : Int => oN r d) 0 = some (bif (List.range r.2.2.2.2.2.1.length).all (fun i => aII (r.2.2.2.2.2.1.getD i [])) then .inl () else .inr false) := by
   refine oH r.2.2.2.2.2.1.length _ (fun i hi => ?_) (by unfold oN; rw [if_neg (by omega)])
   have hm := pQ (z := ([] : List Iv)) hi
   unfold oN
   rw [if_pos (by omega), Int.toNat_natCast]
   refine aB (by constructor <;> omega) ?_
   have hI : I64 ((i : Int) + 1) := by constructor <;> omega
   generalize r.2.2.2.2.2.1.getD i [] = b at hm ⊢
   refine aB (fun _ => by constructor <;> omega) ?_
   rw [aNJ b (lm.2.2.1 b hm) (s3 b hm).2 (by have := (s3 b hm).1; omega), Option.getD_some]
   refine aB (fun _ => rfl) ?_
   unfold aII
   by_cases h : b.length ≤ 64
   ·rw [decide_eq_true h]
    cases b.all aAn with
    | true => rw [if_neg (by simp; omega), wC hI]; rfl
    | false => rw [if_pos (by simp)]; rfl
   ·rw [if_pos (.inl (by omega)), decide_eq_false h]; rfl
  have hl2 : bO (fun d : Int => oL r d) 0 = some (bif (List.range r.2.2.2.2.2.2.1.length).all (fun i => aOS (r.2.2.2.2.2.2.1.getD i [])) then .inl () else .inr false) := by
   refine oH r.2.2.2.2.2.2.1.length _ (fun i hi => ?_) (by unfold oL; rw [if_neg (by omega)])
   have hm := pQ (z := ([] : List Tb)) hi
   have h14 := aYn r i hi (by omega) _ rfl (lm.2.2.2 _ hm) (s4 _ hm).2 (s4 _ hm).1
   unfold oL
   rw [if_pos (by omega), h14, Int.toNat_natCast]
   refine aB (by constructor <;> omega) ?_
   have hI : I64 ((i : Int) + 1) := by constructor <;> omega
   generalize r.2.2.2.2.2.2.1.getD i [] = b
   unfold aOS
   by_cases h : b.length ≤ 64
   ·rw [if_neg (by omega), decide_eq_true h]
    cases b.all aGP with
    | true => exact aK rfl (aB hI rfl)
    | false => rfl
   ·rw [if_pos (by omega), decide_eq_false h]; rfl
  have hj : oM r = some (r.2.2.2.2.2.2.1.all aOS) := by
   unfold oM
   rw [hl2, oG]
   cases r.2.2.2.2.2.2.1.all aOS <;> rfl
  rw [hlp, oG]
  unfold rG
  rw [hh]
  cases r.2.2.2.2.2.1.all aII with
  | false => rfl
  | true => exact hj
end Nu
end Go.Proofs
namespace Go.Proofs
open Go.Vc
set_option maxRecDepth 20000
namespace Nu
theorem aWz (n u : Nat) : dgs (n + 1) u = dgs n (u / 10) ++ [48 + u % 10] := by
 unfold dgs
 rw [List.range_succ, List.map_append]
 congr 1
 ·refine List.map_congr_left fun t ht => ?_
  have := List.mem_range.1 ht
  rw [Nat.div_div_eq_div_mul, show n + 1 - 1 - t = (n - 1 - t) + 1 from by omega, Nat.pow_succ, Nat.mul_comm]
 ·simp
theorem aWA {u : Nat} (h : ¬ u < 10) : jK u = jK (u / 10) ++ [48 + u % 10] := by
 unfold jK
 rw [Lib.nDigits_big h, aWz]
theorem aYo : ∀ k : Fin 10, List.drop k.val (List.take (k.val + 1) (aN ⟨#[48, 49, 50, 51, 52, 53, 54, 55, 56, 57]⟩)) = [48 + k.val] := by decide +kernel
theorem aWB {n : Int} (h0 : 0 ≤ n) (h1 : n < 10) : List.drop n.toNat (List.take (n + 1).toNat (aN ⟨#[48, 49, 50, 51, 52, 53, 54, 55, 56, 57]⟩)) = [48 + n.toNat] := by
 have := aYo ⟨n.toNat, by omega⟩
 rw [show (n + 1).toNat = n.toNat + 1 from by omega]
 exact this
theorem aTx : (aN ⟨#[48, 49, 50, 51, 52, 53, 54, 55, 56, 57]⟩).length = 10 := rfl
theorem aLY (n : Int) (h0 : 0 ≤ n) (h1 : n < 4294967296) : lQ n = some (jK n.toNat) := by
 have key := cV (step := fun d : Int × List Nat => mZ d.1 d.2)
  (I := fun d => 0 ≤ d.1 ∧ d.1 < 4294967296 ∧ jK d.1.toNat ++ d.2 = jK n.toNat) (fun d => d.1.toNat) (fun e => 0 ≤ e.1 ∧ e.1 < 10 ∧ jK e.1.toNat ++ e.2 = jK n.toNat) (fun d hd => by
   obtain ⟨m, s⟩ := d
   obtain ⟨g0, g1, g2⟩ := hd
   simp only at g0 g1 g2 ⊢
   have hsl : s.length ≤ 20 := by
    have := congrArg List.length g2
    rw [List.length_append] at this
    have := aBD (u := n.toNat) (by omega)
    omega
   unfold mZ
   by_cases h : (9 : Int) < m
   ·left
    have hm : Int.tmod m 10 = m % 10 := Int.tmod_eq_emod_of_nonneg g0
    have hd : Int.tdiv m 10 = m / 10 := Int.tdiv_eq_ediv_of_nonneg g0
    have ht := aWB (n := m % 10) (by omega) (by omega)
    refine ⟨(m / 10, [48 + (m % 10).toNat] ++ s), ?_, ⟨by simp only; omega, by simp only; omega, ?_⟩, by simp only; omega⟩
    ·rw [if_pos h, hm, hd, ht, aTx]
     exact aB (by constructor <;> omega) (aB (by constructor <;> omega) (aB (by simp; omega) (aB (by constructor <;> omega) rfl)))
    ·simp only
     rw [← g2, ← List.append_assoc, aWA (u := m.toNat) (by omega)]
     have e1 : (m / 10).toNat = m.toNat / 10 := by omega
     have e2 : (m % 10).toNat = m.toNat % 10 := by omega
     rw [e1, e2]
   ·right
    rw [if_neg h]
    exact ⟨(m, s), rfl, g0, by simp only; omega, g2⟩) (n, []) ⟨h0, h1, by simp⟩
 obtain ⟨e, he, q0, q1, q2⟩ := key
 unfold lQ
 refine aK he ?_
 have hsl : e.2.length ≤ 20 := by
  have := congrArg List.length q2
  rw [List.length_append] at this
  have := aBD (u := n.toNat) (by omega)
  omega
 unfold mY
 rw [aWB q0 q1, aTx]
 refine aB (by constructor <;> omega) (aB (by constructor <;> omega) (aB (by simp; omega) ?_))
 rw [← q2, aK3 (by omega)]
theorem aQZ (a : Iv) (n : Int) (lm : LmI a) (sh : ShI a) : pT a n = some (fP a n) := by
 have l1 := qI a.1 n false lm.1
 have l2 := qI a.2.1 n true lm.2
 unfold pT fP
 refine aK (aQY a lm sh) ?_
 cases aAn a with
 | false => rw [if_pos (by decide), if_pos rfl]; rfl
 | true =>
  rw [if_neg (by decide), if_neg (by decide)]
  refine aK (aFY a.1 n false lm.1 sh.1) ?_
  by_cases h1 : (eL a.1 n false).2.1 ≠ 0
  ·rw [if_pos h1, if_pos h1]; rfl
  ·rw [if_neg h1, if_neg h1]
   refine aK (aFY a.2.1 n true lm.2 sh.2) ?_
   by_cases h2 : (eL a.2.1 n true).2.1 ≠ 0
   ·rw [if_pos h2, if_pos h2]; rfl
   ·rw [if_neg h2, if_neg h2, aZH, aZI, aZJ]
    refine aB ?_ (aB ?_ (aB ?_ (aB ?_ rfl))) <;> simp only [List.length_append, List.length_cons, List.length_nil] <;> omega
def jt (l : List Tx) : List Nat := (l.map fun x => [32] ++ x.1).flatten
theorem aSi (x : List Nat) (l : List Tx) : sQ (x :: l.map (·.1)) [32] = x ++ jt l := by
 induction l generalizing x with
 | nil => simp [sQ, List.intercalate, jt]
 | cons y r ih =>
  have := ih y.1
  unfold sQ jt at this ⊢
  simp only [List.map_cons, List.intercalate, List.intersperse, List.flatten_cons] at this ⊢
  rw [this]; simp
theorem aZj (l m : List Tx) : jt (l ++ m) = jt l ++ jt m := by unfold jt; rw [List.map_append, List.flatten_append]
theorem aWC (l m : List Tx) : tH (l ++ m) = if tH l = 0 then tH m else tH l := by
 unfold tH
 rw [List.foldl_append, aJE m]
 rfl
theorem aUm (r : Rec) (n : Int) (i : Nat) (hi : i < r.2.2.2.2.2.1.length) (hn : r.2.2.2.2.2.1.length ≤ 16) (b : List Iv) (hb : r.2.2.2.2.2.1.getD i [] = b) (lm : ∀ a ∈ b, LmI a) (sh : ∀ a ∈ b, ShI a) (hl : b.length ≤ 1000) (s : List Nat) (hs : s.length ≤ 1000000000000000) :
  bO (fun d : List Nat × Int => kQ (i : Int) r n d.1 d.2) (s, 0) = some (if tH (b.map (fP · n)) ≠ 0 then .inr ([], tH (b.map (fP · n)), ()) else .inl (s ++ jt (b.map (fP · n)))) := by
 have key := gF (step := fun d : List Nat × Int => kQ (i : Int) r n d.1 d.2)
  (I := fun d => ∃ k : Nat, d.2 = k ∧ k ≤ b.length ∧ d.1.length ≤ 1000000000000000 + 7000000 * k) (fun d => (b.length - d.2).toNat)
  (fun d => (if tH ((b.drop d.2.toNat).map (fP · n)) ≠ 0 then .inr ([], tH ((b.drop d.2.toNat).map (fP · n)), ()) else .inl (d.1 ++ jt ((b.drop d.2.toNat).map (fP · n))) : List Nat ⊕ Tx)) (fun d hd => by
   obtain ⟨s, d2⟩ := d
   obtain ⟨k, rfl, hk, hlen⟩ := hd
   simp only at hlen ⊢
   unfold kQ
   rw [Int.toNat_natCast, Int.toNat_natCast, hb]
   rcases Nat.lt_or_ge k b.length with hlt | hge
   ·have hm := pQ (z := (((false, [], 0, ()), (false, [], 0, ()), ()) : Iv)) hlt
    have hv := aQZ _ n (lm _ hm) (sh _ hm)
    have hvl := aDW _ n (lm _ hm)
    have e : b.drop k = b.getD k ((false, [], 0, ()), (false, [], 0, ()), ()) :: b.drop (k + 1) := by
     rw [List.drop_eq_getElem_cons hlt]; simp [List.getD, hlt]
    rw [e, List.map_cons]
    generalize b.getD k ((false, [], 0, ()), (false, [], 0, ()), ()) = a at hv hvl ⊢
    simp only [qJ]
    by_cases h1 : (fP a n).2.1 ≠ 0
    ·right
     refine aB (by constructor <;> omega) ?_
     rw [if_pos (by omega)]
     refine aB (by constructor <;> omega) (aB (by constructor <;> omega) (aK hv ?_))
     rw [if_pos h1, if_neg h1, if_pos h1]; rfl
    ·left
     refine ⟨(s ++ [32] ++ (fP a n).1, (k : Int) + 1), ?_, ⟨k + 1, by simp, hlt, by simp only [List.length_append, List.length_cons, List.length_nil]; omega⟩, by simp only; omega, ?_⟩
     ·refine aB (by constructor <;> omega) ?_
      rw [if_pos (by omega)]
      refine aB (by constructor <;> omega) (aB (by constructor <;> omega) (aK hv ?_))
      rw [if_neg h1, aWl]
      exact aB (by simp only [List.length_cons, List.length_nil]; omega) (aB (by simp only [List.length_append, List.length_cons, List.length_nil]; omega) (aB (by constructor <;> omega) rfl))
     ·have e1 : ((k : Int) + 1).toNat = k + 1 := by omega
      have h1' : (fP a n).2.1 = 0 := by simpa using h1
      simp only [e1]
      rw [if_pos h1']
      congr 2
      simp [jt]
   ·right
    obtain rfl : k = b.length := by omega
    refine aB (by constructor <;> omega) ?_
    rw [if_neg (by omega), List.drop_length]
    simp [aFN, jt]) (s, 0) ⟨0, rfl, Nat.zero_le _, by simp only; omega⟩
 exact key
theorem aUn (r : Rec) (n : Int) (lm : LmR r) (sh : ShR r) (hn : r.2.2.2.2.2.1.length ≤ 16) (s : List Nat) (hs : s.length ≤ 1000000000) :
  bO (fun d : List Nat × Int => kR r n d.1 d.2) (s, 0) = some (if tH (r.2.2.2.2.2.1.flatten.map (fP · n)) ≠ 0 then .inr ([], tH (r.2.2.2.2.2.1.flatten.map (fP · n)), ()) else .inl (s ++ jt (r.2.2.2.2.2.1.flatten.map (fP · n)))) := by
 have hjl : ∀ b : List Iv, (∀ a ∈ b, LmI a) → (jt (b.map (fP · n))).length ≤ 7000000 * b.length := fun b => by
  induction b with
  | nil => intro _; simp [jt]
  | cons a t ih =>
   intro h
   have h1 := aDW a n (h a (by simp))
   have h2 := ih (fun x hx => h x (by simp [hx]))
   simp only [jt, List.map_cons, List.flatten_cons, List.length_append, List.length_cons, List.length_nil] at h2 ⊢
   omega
 have key := gF (step := fun d : List Nat × Int => kR r n d.1 d.2)
  (I := fun d => ∃ i : Nat, d.2 = i ∧ i ≤ r.2.2.2.2.2.1.length ∧ d.1.length ≤ 1000000000 + 7000000000 * i) (fun d => (r.2.2.2.2.2.1.length - d.2).toNat)
  (fun d => (if tH ((r.2.2.2.2.2.1.drop d.2.toNat).flatten.map (fP · n)) ≠ 0 then .inr ([], tH ((r.2.2.2.2.2.1.drop d.2.toNat).flatten.map (fP · n)), ()) else .inl (d.1 ++ jt ((r.2.2.2.2.2.1.drop d.2.toNat).flatten.map (fP · n))) : List Nat ⊕ Tx)) (fun d hd => by
   obtain ⟨s, d2⟩ := d
   obtain ⟨i, rfl, hi, hlen⟩ := hd
   simp only at hlen ⊢
   unfold kR
   rw [Int.toNat_natCast]
   rcases Nat.lt_or_ge i r.2.2.2.2.2.1.length with hlt | hge
   ·have hm := pQ (z := ([] : List Iv)) hlt
    have h18 := aUm r n i hlt hn _ rfl (lm.2.2.1 _ hm) (sh.2.2.1 _ hm).2 (sh.2.2.1 _ hm).1 s (by omega)
    have hbl := (sh.2.2.1 _ hm).1
    have hjb := hjl _ (lm.2.2.1 _ hm)
    have e : r.2.2.2.2.2.1.drop i = r.2.2.2.2.2.1.getD i [] :: r.2.2.2.2.2.1.drop (i + 1) := by
     rw [List.drop_eq_getElem_cons hlt]; simp [List.getD, hlt]
    rw [if_pos (by omega), h18, e, List.flatten_cons, List.map_append, aWC, aZj]
    generalize r.2.2.2.2.2.1.getD i [] = b at hbl hjb ⊢
    by_cases h1 : tH (b.map (fP · n)) ≠ 0
    ·right
     rw [if_pos h1, if_neg h1, if_pos h1]; rfl
    ·left
     have h1' : tH (b.map (fP · n)) = 0 := by simpa using h1
     refine ⟨(s ++ jt (b.map (fP · n)), (i : Int) + 1), ?_, ⟨i + 1, by simp, hlt, by simp only [List.length_append]; omega⟩, by simp only; omega, ?_⟩
     ·rw [if_neg h1]
      exact aK rfl (aB (by constructor <;> omega) rfl)
     ·have e1 : ((i : Int) + 1).toNat = i + 1 := by omega
      simp only [e1]
      rw [if_pos h1', List.append_assoc]
   ·right
    obtain rfl : i = r.2.2.2.2.2.1.length := by omega
    rw [if_neg (by omega), List.drop_length]
    simp [aFN, jt]) (s, 0) ⟨0, rfl, Nat.zero_le _, by simp only; omega⟩
 exact key
theorem aQ0 (r : Rec) (n : Int) : sQ ((nM r n).map (·.1)) [32] = xW r.1 ++ [32] ++ jK r.2.1.toNat ++ [32] ++ (eL r.2.2.2.1 n false).1 ++ jt (yI r n) := by
 unfold nM
 rw [List.cons_append, List.map_cons, aSi]
 simp [jt]
theorem aSj (r : Rec) (n : Int) : tH (nM r n) = if (eL r.2.2.2.1 n false).2.1 = 0 then tH (yI r n) else (eL r.2.2.2.1 n false).2.1 := by
 unfold nM
 rw [List.cons_append, List.cons_append, List.cons_append, List.nil_append, qJ, if_pos rfl, qJ, if_pos rfl, qJ]
theorem aQ1 (r : Rec) (n : Int) (lm : LmR r) (sh : ShR r) : pU r n = some (pD r n) := by
 unfold pU pD
 refine aK (aUl r lm sh) ?_
 cases hm : rG r with
 | false => rw [if_pos (by decide), if_pos rfl]; rfl
 | true =>
  have hm' := hm
  unfold rG aEl at hm'
  simp only [Bool.and_eq_true, decide_eq_true_eq, List.all_eq_true] at hm'
  obtain ⟨⟨⟨⟨⟨q1, q2⟩, q3⟩, q4⟩, q5⟩, q6⟩ := hm'
  have l1 := qI r.2.2.2.1 n false lm.1
  have l2 := qI r.2.2.2.2.1 n false lm.2.1
  have l3 := aBD (u := r.2.1.toNat) (by omega)
  have l4 := aBD (u := r.2.2.1.toNat) (by omega)
  have hfl : r.2.2.2.2.2.1.flatten.length ≤ 1024 := by
   have : ∀ l : List (List Iv), (∀ b ∈ l, aII b = true) → l.flatten.length ≤ 64 * l.length := fun l => by
    induction l with
    | nil => intro _; simp
    | cons x t ih =>
     intro hx
     have h1 := hx x (by simp)
     unfold aII at h1
     simp only [Bool.and_eq_true, decide_eq_true_eq] at h1
     have := ih (fun b hb => hx b (by simp [hb]))
     simp only [List.flatten_cons, List.length_append, List.length_cons]
     omega
   have := this _ q5
   omega
  have hkl : (xW r.1).length ≤ 20 := by
   unfold xW
   split
   ·decide
   ·split
    ·decide
    ·split <;> decide
  have hk : ([(aN ⟨#[]⟩), (aN ⟨#[99, 111, 109, 109, 105, 116, 32]⟩), (aN ⟨#[114, 101, 106, 101, 99, 116, 32]⟩), (aN ⟨#[101, 110, 100, 32]⟩)] : List (List Nat)).getD r.1.toNat [] = xW r.1 ++ [32] := by
   have : r.1 = 1 ∨ r.1 = 2 ∨ r.1 = 3 := by omega
   rcases this with h | h | h <;> rw [h] <;> rfl
  rw [if_neg (by decide), if_neg (by decide), aSj, aQ0]
  refine aK (aFY _ n false lm.1 sh.1) ?_
  by_cases h1 : (eL r.2.2.2.1 n false).2.1 ≠ 0
  ·rw [if_pos h1, if_neg h1, if_pos h1]; rfl
  ·have h1' : (eL r.2.2.2.1 n false).2.1 = 0 := by simpa using h1
   rw [if_neg h1, if_pos h1']
   refine aB (by constructor <;> omega) (aK (aLY _ (by omega) (by omega)) ?_)
   rw [hk, aWl]
   have hs0 : (xW r.1 ++ [32] ++ jK r.2.1.toNat ++ [32] ++ (eL r.2.2.2.1 n false).1).length ≤ 4000000 := by
    simp only [List.length_append, List.length_cons, List.length_nil]; omega
   refine aB (by simp only [List.length_append, List.length_cons, List.length_nil]; omega) (aB (by simp only [List.length_append, List.length_cons, List.length_nil]; omega) (aB (by simp only [List.length_append, List.length_cons, List.length_nil]; omega) ?_))
   generalize xW r.1 ++ [32] ++ jK r.2.1.toNat ++ [32] ++ (eL r.2.2.2.1 n false).1 = s0 at hs0 ⊢
   have hcode := aLY r.2.2.1 (by omega) (by omega)
   by_cases hE : r.1 = 3
   ·have ht : yI r n = [(jK r.2.2.1.toNat, 0, ())] := by unfold yI; rw [if_neg (by omega), if_neg (by omega)]
    rw [if_neg (by omega), ht]
    unfold jP
    rw [if_pos (by omega), aWl, aXX]
    refine aB (by simp only [List.length_append, List.length_cons, List.length_nil]; omega) (aK hcode (aB (by simp only [List.length_append, List.length_cons, List.length_nil]; omega) (aB (by simp only [List.length_append, List.length_cons, List.length_nil]; omega) ?_)))
    rw [if_neg (by simp [qJ, aFN])]
    simp [jt]
   ·rw [if_pos hE]
    refine aK (aFY _ n false lm.2.1 sh.2.1) ?_
    by_cases h2 : (eL r.2.2.2.2.1 n false).2.1 ≠ 0
    ·have ht : tH (yI r n) = (eL r.2.2.2.2.1 n false).2.1 := by
      unfold yI
      split
      ·rw [qJ, if_neg h2]
      ·split
       ·rw [qJ, if_neg h2]
       ·omega
     rw [if_pos h2, ht, if_pos h2]; rfl
    ·have h2' : (eL r.2.2.2.2.1 n false).2.1 = 0 := by simpa using h2
     rw [if_neg h2]
     refine aB (by simp only [List.length_append, List.length_cons, List.length_nil]; omega) (aB (by simp only [List.length_append, List.length_cons, List.length_nil]; omega) ?_)
     have hs1 : (s0 ++ [32] ++ (eL r.2.2.2.2.1 n false).1).length ≤ 8000000 := by
      simp only [List.length_append, List.length_cons, List.length_nil]; omega
     unfold jP
     by_cases hC : r.1 = 1
     ·have ht : yI r n = eL r.2.2.2.2.1 n false :: (r.2.2.2.2.2.1.flatten.map (fP · n)) := by unfold yI; rw [if_pos hC]
      rw [if_neg (by omega), ht, qJ, if_pos h2']
      refine aK (aUn r n lm sh (by omega) _ (by omega)) ?_
      by_cases h3 : tH (r.2.2.2.2.2.1.flatten.map (fP · n)) ≠ 0
      ·rw [if_pos h3, if_pos h3]
      ·rw [if_neg h3, if_neg h3, aXX]
       have hjl : (jt (r.2.2.2.2.2.1.flatten.map (fP · n))).length ≤ 7000000 * r.2.2.2.2.2.1.flatten.length := by
        have hall : ∀ a ∈ r.2.2.2.2.2.1.flatten, LmI a := fun a ha => by
         obtain ⟨b, hb, ha⟩ := List.mem_flatten.1 ha
         exact lm.2.2.1 b hb a ha
        generalize r.2.2.2.2.2.1.flatten = l at hall
        induction l with
        | nil => simp [jt]
        | cons a t ih =>
         have h1 := aDW a n (hall a (by simp))
         have h2 := ih (fun x hx => hall x (by simp [hx]))
         simp only [jt, List.map_cons, List.flatten_cons, List.length_append, List.length_cons, List.length_nil] at h2 ⊢
         omega
       refine aB (by simp only [List.length_append, List.length_cons, List.length_nil] at hs1 ⊢; omega) ?_
       simp [jt]
     ·have ht : yI r n = [eL r.2.2.2.2.1 n false, (jK r.2.2.1.toNat, 0, ())] := by unfold yI; rw [if_neg hC, if_pos (by omega)]
      rw [if_pos hC, ht, aWl, aXX]
      refine aB (by simp only [List.length_append, List.length_cons, List.length_nil] at hs1 ⊢; omega) (aK hcode (aB (by simp only [List.length_append, List.length_cons, List.length_nil] at hs1 ⊢; omega) (aB (by simp only [List.length_append, List.length_cons, List.length_nil] at hs1 ⊢; omega) ?_)))
      rw [qJ, if_pos h2', if_neg (by simp [qJ, aFN])]
      simp [jt]
theorem aUo (l : List Rec) (n : Int) (lm : ∀ r ∈ l, LmR r) (sh : ∀ r ∈ l, ShR r) (hl : l.length ≤ 1000) : sH l n = some (dE l n) := by
 have key := gF (step := fun d : List Nat × Int => qB l n d.1 d.2)
  (I := fun d => ∃ i : Nat, d.2 = i ∧ i ≤ l.length ∧ d.1.length ≤ 20000000000 * i) (fun d => (l.length - d.2).toNat)
  (fun d => (if (dE (l.drop d.2.toNat) n).2.1 ≠ 0 then .inr ([], (dE (l.drop d.2.toNat) n).2.1, ()) else .inl (d.1 ++ (dE (l.drop d.2.toNat) n).1) : List Nat ⊕ Tx)) (fun d hd => by
   obtain ⟨s, d2⟩ := d
   obtain ⟨i, rfl, hi, hlen⟩ := hd
   simp only at hlen ⊢
   unfold qB
   rw [Int.toNat_natCast]
   rcases Nat.lt_or_ge i l.length with hlt | hge
   ·have hm := pQ (z := rz) hlt
    have hw := aQ1 _ n (lm _ hm) (sh _ hm)
    have hwl := aNA _ n (lm _ hm)
    have e : l.drop i = l.getD i rz :: l.drop (i + 1) := by
     rw [List.drop_eq_getElem_cons hlt]; simp [List.getD, hlt]
    rw [if_pos (by omega), e]
    generalize l.getD i rz = r at hw hwl ⊢
    by_cases h1 : (pD r n).2.1 ≠ 0
    ·right
     refine aB (by constructor <;> omega) (aK hw ?_)
     have et : dE (r :: l.drop (i + 1)) n = ([], (pD r n).2.1, ()) := by rw [dE, if_pos h1]
     rw [if_pos h1, et, if_pos h1]; rfl
    ·left
     refine ⟨(s ++ (pD r n).1, (i : Int) + 1), ?_, ⟨i + 1, by simp, hlt, by simp; omega⟩, by simp only; omega, ?_⟩
     ·refine aB (by constructor <;> omega) (aK hw ?_)
      rw [if_neg h1]
      exact aB (by omega) (aB (by constructor <;> omega) rfl)
     ·have e1 : ((i : Int) + 1).toNat = i + 1 := by omega
      simp only [e1]
      have et : dE (r :: l.drop (i + 1)) n = if (dE (l.drop (i + 1)) n).2.1 ≠ 0 then ([], (dE (l.drop (i + 1)) n).2.1, ()) else ((pD r n).1 ++ (dE (l.drop (i + 1)) n).1, 0, ()) := by rw [dE, if_neg h1]
      rw [et]
      by_cases h2 : (dE (l.drop (i + 1)) n).2.1 ≠ 0
      ·rw [if_pos h2, if_pos h2, if_pos h2]
      ·rw [if_neg h2, if_neg h2, if_neg (by simp)]
       simp
   ·right
    obtain rfl : i = l.length := by omega
    rw [if_neg (by omega), List.drop_length]
    simp [dE]) ([], 0) ⟨0, rfl, Nat.zero_le _, Nat.zero_le _⟩
 unfold sH
 refine aK key ?_
 simp only [Int.toNat_zero, List.drop_zero, List.nil_append]
 by_cases h : (dE l n).2.1 ≠ 0
 ·rw [if_pos h]
  have : dE l n = ([], (dE l n).2.1, ()) := by
   cases l with
   | nil => exact absurd rfl h
   | cons r l =>
    rw [dE] at h ⊢
    split at h
    ·rename_i h1; rw [if_pos h1]
    ·rename_i h1
     rw [if_neg h1]
     split at h
     ·rename_i h2; rw [if_pos h2]
     ·exact absurd rfl h
  rw [← this]
 ·rw [if_neg h]
  have hx : (dE l n).2.1 = 0 := by simpa using h
  show some ((dE l n).1, (0 : Int), ()) = some (dE l n)
  rw [← hx]
end Nu
end Go.Proofs
namespace Go.Proofs
open Go.Vc
set_option maxRecDepth 20000
namespace Nu
noncomputable def qP (l_0 : (List qI0)) (i_4 : Int) : Option ((Int) ⊕ ((Unit) ⊕ Bool)) :=
 if i_4 < (l_0.length : Int) then ck (0 ≤ i_4 ∧ i_4 < (l_0.length : Int)) (ck ((¬ ((6 : Int) < (((((((l_0.getD (i_4.toNat) ((false, ([] : List Nat), (0 : Int), ()), (false, ([] : List Nat), (0 : Int), ()), ())).1).2).1).length) : Nat) : Int)) → (0 ≤ i_4 ∧ i_4 < (l_0.length : Int)))) (if ((6 : Int) < (((((((l_0.getD (i_4.toNat) ((false, ([] : List Nat), (0 : Int), ()), (false, ([] : List Nat), (0 : Int), ()), ())).1).2).1).length) : Nat) : Int)) ∨ ((6 : Int) < ((((((((l_0.getD (i_4.toNat) ((false, ([] : List Nat), (0 : Int), ()), (false, ([] : List Nat), (0 : Int), ()), ())).2).1).2).1).length) : Nat) : Int)) then some (.inr (.inr false)) else ck (I64 (i_4 + (1 : Int))) (some (.inl (i_4 + (1 : Int)))))) else some (.inr (.inl ()))
noncomputable def tL (l_0 : (List qI0)) : Option Bool :=
 if (8 : Int) < (l_0.length : Int) then some false else (bO (fun d : Int => qP l_0 d) (0 : Int)).bind (fun e => match e with | (.inl e) => some true | (.inr e) => some e)
def aIa : PlR := ⟨[(0, .A [0]), (1, .A [0, 6]), (2, .A [2]), (3, .A [0, 3]), (4, .A [0, 3, 10]), (5, .A [0, 3]), (6, .A [0, 3, 30]), (7, .A [2]), (8, .A [2])], []⟩
def aLZ : Ty := .pair (.sl (.pair (.pair .bool (.pair (.sl (.u .u64)) (.pair (.i .i64) .unit))) (.pair (.pair .bool (.pair (.sl (.u .u64)) (.pair (.i .i64) .unit))) .unit))) .unit
noncomputable def uC : aI := mSpec aLZ (.one .bool) (fun x => tL x.1)
noncomputable def aSk : List (FuncId × aI) := []
theorem aSl : bF Tryz.prog GL aSk := .nil
attribute [go_sem] aLZ aIa
set_option maxHeartbeats 4000000 in
theorem aIb : FOK Tryz.prog GL 38 uC := by
 refine bD (bE aSl) mix Tryz.func38 rfl (by kernel_rfl) (by decide) aIa fun w0 S x Θ hw h hF => ?_
 obtain ⟨(l_0 : (List qI0)), u⟩ := x
 simp only [bH, go_sem]
 replace h : sat (tL l_0) _ := h
 unfold tL at h
 refine bW h (fun hc h => ?_) fun hc h => ?_
 ·exact aG hF [.tmp 2] rfl rfl rfl (aA h) (by simp only [aV, go_sem])
 ·refine bC hF (D := Int) [0] (fun d => [(3, .val (.i .i64) d)]) (fun d => []) h rfl (by simp only [go_sem]) ?_
  rintro i_4 A4 T4 hA4 hE4 h
  simp only [go_sem]
  replace h : sat (qP l_0 i_4) _ := h
  unfold qP at h
  refine bW h (fun hc h => ?_) fun hc h => ?_
  ·obtain ⟨g0, h⟩ := aJ h
   obtain ⟨g1, h⟩ := aJ h
   repeat (refine ⟨by omega, ?_⟩)
   refine ⟨fun hc => ?_, fun hc => ?_⟩
   ·replace h := fU hc h
    replace h := hE4 _ (aA h)
    try dsimp only at h
    exact aG hF [.tmp 2] rfl rfl rfl (aA h) (by simp only [aV, go_sem])
   ·replace h := fV hc h
    obtain ⟨g0, h⟩ := aJ h
    repeat (refine ⟨by omega, ?_⟩)
    replace h := hA4 _ (aA h)
    exact aP _ h rfl (by simp only [go_sem])
  ·replace h := hE4 _ (aA h)
   try dsimp only at h
   exact aG hF [.tmp 2] rfl rfl rfl (aA h) (by simp only [aV, go_sem])
attribute [go_sem] uC
noncomputable def oO (t_0 : qT0) (i_12 : Int) : Option ((Int) ⊕ ((Unit) ⊕ Bool)) :=
 if i_12 < (((t_0.2).1).length : Int) then ck (I64 (i_12 + (1 : Int))) (ck (0 ≤ i_12 ∧ i_12 ≤ (i_12 + (1 : Int)) ∧ (i_12 + (1 : Int)) ≤ (((t_0.2).1).length : Int)) ((tL (List.drop (i_12.toNat) (List.take ((i_12 + (1 : Int)).toNat) ((t_0.2).1)))).bind (fun v_21 => if ¬ (v_21 = true) then some (.inr (.inr false)) else ck (I64 (i_12 + (1 : Int))) (some (.inl (i_12 + (1 : Int))))))) else some (.inr (.inl ()))
noncomputable def oP (t_0 : qT0) : Option (Bool) :=
 (bO (fun d : Int => oO t_0 d) (0 : Int)).bind (fun e => match e with | (.inl e) => some true | (.inr e) => some e)
noncomputable def oQ (t_0 : qT0) (i_23 : Int) : Option ((Int) ⊕ ((Unit) ⊕ Bool)) :=
 if i_23 < ((t_0.1).length : Int) then ck (0 ≤ i_23 ∧ i_23 < ((t_0.1).length : Int)) (if (6 : Int) < (((((((t_0.1).getD (i_23.toNat) (false, ([] : List Nat), (0 : Int), ())).2).1).length) : Nat) : Int) then some (.inr (.inr false)) else ck (I64 (i_23 + (1 : Int))) (some (.inl (i_23 + (1 : Int))))) else some (.inr (.inl ()))
noncomputable def uD (t_0 : qT0) : Option Bool :=
 if ((12 : Int) < (((t_0.2).1).length : Int)) ∨ ((14 : Int) < ((t_0.1).length : Int)) then some false else (bO (fun d : Int => oQ t_0 d) (0 : Int)).bind (fun e => match e with | (.inl e) => oP t_0 | (.inr e) => some e)
def aF9 : PlR := ⟨[(0, .B [1]), (1, .A [1, 14]), (2, .A [2]), (3, .A [1, 3]), (4, .A [1, 3, 19]), (5, .A [1, 3]), (6, .A [1, 3, 29]), (7, .A [2]), (8, .A [1, 4]), (9, .A [1, 4, 34]), (10, .A [1, 4]), (11, .A [1, 4, 44]), (12, .A [2]), (13, .A [2])], [(6, 11)]⟩
def aIc : Ty := .pair (.pair (.sl (.pair .bool (.pair (.sl (.u .u64)) (.pair (.i .i64) .unit)))) (.pair (.sl (.pair (.pair .bool (.pair (.sl (.u .u64)) (.pair (.i .i64) .unit))) (.pair (.pair .bool (.pair (.sl (.u .u64)) (.pair (.i .i64) .unit))) .unit))) .unit)) .unit
noncomputable def zG : aI := mSpec aIc (.one .bool) (fun x => uD x.1)
noncomputable def aId : List (FuncId × aI) := [(38, uC)]
theorem aQ2 : bF Tryz.prog GL aId := .cons aIb (by kernel_rfl) (.nil)
theorem aL0 : gam aId 38 = some uC := rfl
attribute [go_sem] aIc aF9 aL0
set_option maxHeartbeats 4000000 in
theorem aO8 : FOK Tryz.prog GL 39 zG := by
 refine bD (bE aQ2) mix Tryz.func39 rfl (by kernel_rfl) (by decide) aF9 fun w0 S x Θ hw h hF => ?_
 obtain ⟨(t_0 : qT0), u⟩ := x
 simp only [bH, go_sem]
 replace h : sat (uD t_0) _ := h
 unfold uD at h
 refine ⟨fun hc => ?_, fun hc => ?_⟩
 ·replace h := fU hc h
  exact aG hF [.tmp 2] rfl rfl rfl (aA h) (by simp only [aV, go_sem])
 ·replace h := fV hc h
  refine cO hF (D := Unit) (fun d => sat (oP t_0) Θ) [] (fun d => [(1, .ptr 0 [])]) (fun d => [.inr (.box 2 (.val (.pair (.sl (.pair .bool (.pair (.sl (.u .u64)) (.pair (.i .i64) .unit)))) (.pair (.sl (.pair (.pair .bool (.pair (.sl (.u .u64)) (.pair (.i .i64) .unit))) (.pair (.pair .bool (.pair (.sl (.u .u64)) (.pair (.i .i64) .unit))) .unit))) .unit)) t_0))]) ?_ ?_
  ·simp only [go_sem]
   refine bC hF (D := Int) [] (fun d => [(1, .ptr 0 []), (3, .val (.i .i64) d)]) (fun d => [.inr (.box 2 (.val (.pair (.sl (.pair .bool (.pair (.sl (.u .u64)) (.pair (.i .i64) .unit)))) (.pair (.sl (.pair (.pair .bool (.pair (.sl (.u .u64)) (.pair (.i .i64) .unit))) (.pair (.pair .bool (.pair (.sl (.u .u64)) (.pair (.i .i64) .unit))) .unit))) .unit)) t_0))]) h rfl (by simp only [go_sem]) ?_
   rintro i_23 A4 T4 hA4 hE4 h
   simp only [go_sem]
   replace h : sat (oQ t_0 i_23) _ := h
   unfold oQ at h
   refine bW h (fun hc h => ?_) fun hc h => ?_
   ·refine aH h fun g0 h => ?_
    refine bW h (fun hc h => ?_) fun hc h => ?_
    ·replace h := hE4 _ (aA h)
     try dsimp only at h
     exact aG hF [.tmp 2] rfl rfl rfl (aA h) (by simp only [aV, go_sem])
    ·refine aH h fun g0 h => ?_
     replace h := hA4 _ (aA h)
     exact aP _ h rfl (by simp only [go_sem])
   ·replace h := hE4 _ (aA h)
    try dsimp only at h
    exact aP (()) h rfl (by simp only [go_sem])
  ·rintro u h
   simp only [go_sem]
   replace h : sat (oP t_0) _ := h
   unfold oP at h
   refine bC hF (D := Int) [] (fun d => [(1, .ptr 0 []), (4, .val (.i .i64) d)]) (fun d => [.inr (.box 2 (.val (.pair (.sl (.pair .bool (.pair (.sl (.u .u64)) (.pair (.i .i64) .unit)))) (.pair (.sl (.pair (.pair .bool (.pair (.sl (.u .u64)) (.pair (.i .i64) .unit))) (.pair (.pair .bool (.pair (.sl (.u .u64)) (.pair (.i .i64) .unit))) .unit))) .unit)) t_0))]) h rfl (by simp only [go_sem]) ?_
   rintro i_12 A9 T9 hA9 hE9 h
   simp only [go_sem]
   replace h : sat (oO t_0 i_12) _ := h
   unfold oO at h
   refine bW h (fun hc h => ?_) fun hc h => ?_
   ·refine aH h fun g0 h => aH h fun g1 h => ?_
    obtain ⟨v_21, hv, h⟩ := aQ h
    try simp only [hv, go_sem]
    refine aC5 h (fun hc h => ?_) fun hc h => ?_
    ·replace h := hE9 _ (aA h)
     try dsimp only at h
     exact aG hF [.tmp 2] rfl rfl rfl (aA h) (by simp only [aV, go_sem])
    ·refine aH h fun g0 h => ?_
     replace h := hA9 _ (aA h)
     exact aP _ h rfl (by simp only [go_sem])
   ·replace h := hE9 _ (aA h)
    try dsimp only at h
    exact aG hF [.tmp 2] rfl rfl rfl (aA h) (by simp only [aV, go_sem])
attribute [go_sem] zG
noncomputable def mK (i_28 : Int) (r_0 : qR0) (k_44 : Int) : Option ((Int) ⊕ ((Unit) ⊕ Bool)) :=
 ck (0 ≤ i_28 ∧ i_28 < ((((((((r_0.2).2).2).2).2).2).1).length : Int)) (if k_44 < (((((((((((r_0.2).2).2).2).2).2).1).getD (i_28.toNat) ([] : List qT0)).length) : Nat) : Int) then ck (0 ≤ i_28 ∧ i_28 < ((((((((r_0.2).2).2).2).2).2).1).length : Int)) (ck (0 ≤ k_44 ∧ k_44 < (((((((((((r_0.2).2).2).2).2).2).1).getD (i_28.toNat) ([] : List qT0)).length) : Nat) : Int)) ((uD (((((((((r_0.2).2).2).2).2).2).1).getD (i_28.toNat) ([] : List qT0)).getD (k_44.toNat) (([] : List qD0), ([] : List qI0), ()))).bind (fun v_53 => if ¬ (v_53 = true) then some (.inr (.inr false)) else ck (I64 (k_44 + (1 : Int))) (some (.inl (k_44 + (1 : Int))))))) else some (.inr (.inl ())))
noncomputable def oR (r_0 : qR0) (i_28 : Int) : Option ((Int) ⊕ ((Unit) ⊕ Bool)) :=
 if i_28 < ((((((((r_0.2).2).2).2).2).2).1).length : Int) then ck (0 ≤ i_28 ∧ i_28 < ((((((((r_0.2).2).2).2).2).2).1).length : Int)) (if (5 : Int) < (((((((((((r_0.2).2).2).2).2).2).1).getD (i_28.toNat) ([] : List qT0)).length) : Nat) : Int) then some (.inr (.inr false)) else (bO (fun d : Int => mK i_28 r_0 d) (0 : Int)).bind (fun e => match e with | (.inl e) => ck (I64 (i_28 + (1 : Int))) (some (.inl (i_28 + (1 : Int)))) | (.inr e) => some (.inr (.inr e)))) else some (.inr (.inl ()))
noncomputable def oS (r_0 : qR0) : Option (Bool) :=
 (bO (fun d : Int => oR r_0 d) (0 : Int)).bind (fun e => match e with | (.inl e) => some true | (.inr e) => some e)
noncomputable def oT (r_0 : qR0) (i_58 : Int) : Option ((Int) ⊕ ((Unit) ⊕ Bool)) :=
 if i_58 < (((((((r_0.2).2).2).2).2).1).length : Int) then ck (0 ≤ i_58 ∧ i_58 < (((((((r_0.2).2).2).2).2).1).length : Int)) ((tL (((((((r_0.2).2).2).2).2).1).getD (i_58.toNat) ([] : List qI0))).bind (fun v_67 => if ¬ (v_67 = true) then some (.inr (.inr false)) else ck (I64 (i_58 + (1 : Int))) (some (.inl (i_58 + (1 : Int)))))) else some (.inr (.inl ()))
noncomputable def uF (r_0 : qR0) : Option Bool :=
 if ((((6 : Int) < (((((((r_0.2).2).2).2).2).1).length : Int)) ∨ ((6 : Int) < ((((((((r_0.2).2).2).2).2).2).1).length : Int))) ∨ ((70 : Int) < (((((((r_0.2).2).2).1).2).1).length : Int))) ∨ ((70 : Int) < ((((((((r_0.2).2).2).2).1).2).1).length : Int)) then some false else (bO (fun d : Int => oT r_0 d) (0 : Int)).bind (fun e => match e with | (.inl e) => oS r_0 | (.inr e) => some e)
def aGa : PlR := ⟨[(0, .B [1]), (1, .A [1, 29]), (2, .A [2]), (3, .A [1, 3]), (4, .A [1, 3, 34]), (5, .A [1, 3]), (6, .A [1, 3, 43]), (7, .A [2]), (8, .A [1, 4]), (9, .A [1, 4, 48]), (10, .A [1, 4]), (11, .A [1, 4, 57]), (12, .A [2]), (13, .A [1, 4, 5]), (14, .A [1, 4, 5, 65]), (15, .A [1, 4, 5]), (16, .A [1, 4, 5, 77]), (17, .A [2]), (18, .A [2])], [(6, 11)]⟩
def aIe : Ty := .pair (.pair (.i .i64) (.pair (.i .i64) (.pair (.i .i64) (.pair (.pair .bool (.pair (.sl (.u .u64)) (.pair (.i .i64) .unit))) (.pair (.pair .bool (.pair (.sl (.u .u64)) (.pair (.i .i64) .unit))) (.pair (.sl (.sl (.pair (.pair .bool (.pair (.sl (.u .u64)) (.pair (.i .i64) .unit))) (.pair (.pair .bool (.pair (.sl (.u .u64)) (.pair (.i .i64) .unit))) .unit)))) (.pair (.sl (.sl (.pair (.sl (.pair .bool (.pair (.sl (.u .u64)) (.pair (.i .i64) .unit)))) (.pair (.sl (.pair (.pair .bool (.pair (.sl (.u .u64)) (.pair (.i .i64) .unit))) (.pair (.pair .bool (.pair (.sl (.u .u64)) (.pair (.i .i64) .unit))) .unit))) .unit)))) .unit))))))) .unit
noncomputable def zH : aI := mSpec aIe (.one .bool) (fun x => uF x.1)
noncomputable def aDN : List (FuncId × aI) := [(38, uC), (39, zG)]
theorem aQ3 : bF Tryz.prog GL aDN := .cons aIb (by kernel_rfl) (.cons aO8 (by kernel_rfl) (.nil))
theorem aL1 : gam aDN 38 = some uC := rfl
theorem aL2 : gam aDN 39 = some zG := rfl
attribute [go_sem] aIe aGa aL1 aL2
set_option maxHeartbeats 4000000 in
theorem aO9 : FOK Tryz.prog GL 13 zH := by
 refine bD (bE aQ3) mix Tryz.func13 rfl (by kernel_rfl) (by decide) aGa fun w0 S x Θ hw h hF => ?_
 obtain ⟨(r_0 : qR0), u⟩ := x
 simp only [bH, go_sem]
 replace h : sat (uF r_0) _ := h
 unfold uF at h
 refine ⟨fun hc => ?_, fun hc => ?_⟩
 ·replace h := fU hc h
  exact aG hF [.tmp 2] rfl rfl rfl (aA h) (by simp only [aV, go_sem])
 ·replace h := fV hc h
  refine cO hF (D := Unit) (fun d => sat (oS r_0) Θ) [] (fun d => [(1, .ptr 0 [])]) (fun d => [.inr (.box 11 (.val (.pair (.i .i64) (.pair (.i .i64) (.pair (.i .i64) (.pair (.pair .bool (.pair (.sl (.u .u64)) (.pair (.i .i64) .unit))) (.pair (.pair .bool (.pair (.sl (.u .u64)) (.pair (.i .i64) .unit))) (.pair (.sl (.sl (.pair (.pair .bool (.pair (.sl (.u .u64)) (.pair (.i .i64) .unit))) (.pair (.pair .bool (.pair (.sl (.u .u64)) (.pair (.i .i64) .unit))) .unit)))) (.pair (.sl (.sl (.pair (.sl (.pair .bool (.pair (.sl (.u .u64)) (.pair (.i .i64) .unit)))) (.pair (.sl (.pair (.pair .bool (.pair (.sl (.u .u64)) (.pair (.i .i64) .unit))) (.pair (.pair .bool (.pair (.sl (.u .u64)) (.pair (.i .i64) .unit))) .unit))) .unit)))) .unit))))))) r_0))]) ?_ ?_
  ·simp only [go_sem]
   refine bC hF (D := Int) [] (fun d => [(1, .ptr 0 []), (3, .val (.i .i64) d)]) (fun d => [.inr (.box 11 (.val (.pair (.i .i64) (.pair (.i .i64) (.pair (.i .i64) (.pair (.pair .bool (.pair (.sl (.u .u64)) (.pair (.i .i64) .unit))) (.pair (.pair .bool (.pair (.sl (.u .u64)) (.pair (.i .i64) .unit))) (.pair (.sl (.sl (.pair (.pair .bool (.pair (.sl (.u .u64)) (.pair (.i .i64) .unit))) (.pair (.pair .bool (.pair (.sl (.u .u64)) (.pair (.i .i64) .unit))) .unit)))) (.pair (.sl (.sl (.pair (.sl (.pair .bool (.pair (.sl (.u .u64)) (.pair (.i .i64) .unit)))) (.pair (.sl (.pair (.pair .bool (.pair (.sl (.u .u64)) (.pair (.i .i64) .unit))) (.pair (.pair .bool (.pair (.sl (.u .u64)) (.pair (.i .i64) .unit))) .unit))) .unit)))) .unit))))))) r_0))]) h rfl (by simp only [go_sem]) ?_
   rintro i_58 A4 T4 hA4 hE4 h
   simp only [go_sem]
   replace h : sat (oT r_0 i_58) _ := h
   unfold oT at h
   refine bW h (fun hc h => ?_) fun hc h => ?_
   ·refine aH h fun g0 h => ?_
    obtain ⟨v_67, hv, h⟩ := aQ h
    try simp only [hv, go_sem]
    refine aC5 h (fun hc h => ?_) fun hc h => ?_
    ·replace h := hE4 _ (aA h)
     try dsimp only at h
     exact aG hF [.tmp 2] rfl rfl rfl (aA h) (by simp only [aV, go_sem])
    ·refine aH h fun g0 h => ?_
     replace h := hA4 _ (aA h)
     exact aP _ h rfl (by simp only [go_sem])
   ·replace h := hE4 _ (aA h)
    try dsimp only at h
    exact aP (()) h rfl (by simp only [go_sem])
  ·rintro u h
   simp only [go_sem]
   replace h : sat (oS r_0) _ := h
   unfold oS at h
   refine bC hF (D := Int) [] (fun d => [(1, .ptr 0 []), (4, .val (.i .i64) d)]) (fun d => [.inr (.box 11 (.val (.pair (.i .i64) (.pair (.i .i64) (.pair (.i .i64) (.pair (.pair .bool (.pair (.sl (.u .u64)) (.pair (.i .i64) .unit))) (.pair (.pair .bool (.pair (.sl (.u .u64)) (.pair (.i .i64) .unit))) (.pair (.sl (.sl (.pair (.pair .bool (.pair (.sl (.u .u64)) (.pair (.i .i64) .unit))) (.pair (.pair .bool (.pair (.sl (.u .u64)) (.pair (.i .i64) .unit))) .unit)))) (.pair (.sl (.sl (.pair (.sl (.pair .bool (.pair (.sl (.u .u64)) (.pair (.i .i64) .unit)))) (.pair (.sl (.pair (.pair .bool (.pair (.sl (.u .u64)) (.pair (.i .i64) .unit))) (.pair (.pair .bool (.pair (.sl (.u .u64)) (.pair (.i .i64) .unit))) .unit))) .unit)))) .unit))))))) r_0))]) h rfl (by simp only [go_sem]) ?_
   rintro i_28 A9 T9 hA9 hE9 h
   simp only [go_sem]
   replace h : sat (oR r_0 i_28) _ := h
   unfold oR at h
   refine bW h (fun hc h => ?_) fun hc h => ?_
   ·refine aH h fun g0 h => ?_
    refine bW h (fun hc h => ?_) fun hc h => ?_
    ·replace h := hE9 _ (aA h)
     try dsimp only at h
     exact aG hF [.tmp 2] rfl rfl rfl (aA h) (by simp only [aV, go_sem])
    ·refine bC hF (D := Int) [4] (fun d => [(1, .ptr 0 []), (5, .val (.i .i64) d)]) (fun d => [.inr (.box 11 (.val (.pair (.i .i64) (.pair (.i .i64) (.pair (.i .i64) (.pair (.pair .bool (.pair (.sl (.u .u64)) (.pair (.i .i64) .unit))) (.pair (.pair .bool (.pair (.sl (.u .u64)) (.pair (.i .i64) .unit))) (.pair (.sl (.sl (.pair (.pair .bool (.pair (.sl (.u .u64)) (.pair (.i .i64) .unit))) (.pair (.pair .bool (.pair (.sl (.u .u64)) (.pair (.i .i64) .unit))) .unit)))) (.pair (.sl (.sl (.pair (.sl (.pair .bool (.pair (.sl (.u .u64)) (.pair (.i .i64) .unit)))) (.pair (.sl (.pair (.pair .bool (.pair (.sl (.u .u64)) (.pair (.i .i64) .unit))) (.pair (.pair .bool (.pair (.sl (.u .u64)) (.pair (.i .i64) .unit))) .unit))) .unit)))) .unit))))))) r_0))]) h rfl (by simp only [go_sem]) ?_
     rintro k_44 A14 T14 hA14 hE14 h
     simp only [go_sem]
     replace h : sat (mK i_28 r_0 k_44) _ := h
     unfold mK at h
     refine aH h fun g0 h => ?_
     refine bW h (fun hc h => ?_) fun hc h => ?_
     ·refine aH h fun g0 h => aH h fun g1 h => ?_
      obtain ⟨v_53, hv, h⟩ := aQ h
      try simp only [hv, go_sem]
      refine aC5 h (fun hc h => ?_) fun hc h => ?_
      ·replace h := hE14 _ (aA h)
       try dsimp only at h
       replace h := hE9 _ (aA h)
       try dsimp only at h
       exact aG hF [.tmp 2] rfl rfl rfl (aA h) (by simp only [aV, go_sem])
      ·refine aH h fun g0 h => ?_
       replace h := hA14 _ (aA h)
       exact aP _ h rfl (by simp only [go_sem])
     ·replace h := hE14 _ (aA h)
      try dsimp only at h
      refine aH h fun g0 h => ?_
      replace h := hA9 _ (aA h)
      exact aP _ h rfl (by simp only [go_sem])
   ·replace h := hE9 _ (aA h)
    try dsimp only at h
    exact aG hF [.tmp 2] rfl rfl rfl (aA h) (by simp only [aV, go_sem])
attribute [go_sem] zH
noncomputable def nA : Option Bool :=
 (eU ((false, ([] : List Nat), (0 : Int), ()), (false, ([1] : List Nat), (-3 : Int), ()), ()) (1 : Int)).bind (fun v_5 => (eV ((3 : Int), (3 : Int), (100 : Int), (false, ([1] : List Nat), (0 : Int), ()), (false, ([] : List Nat), (0 : Int), ()), ([] : List (List qI0)), ([] : List (List qT0)), ()) (1 : Int)).bind (fun v_9 => (eV ((0 : Int), (0 : Int), (0 : Int), (false, ([] : List Nat), (0 : Int), ()), (false, ([] : List Nat), (0 : Int), ()), ([] : List (List qI0)), ([] : List (List qT0)), ()) (1 : Int)).bind (fun v_13 => (qH ([] : List qR0) (1 : Int)).bind (fun v_17 => some (((((((decide (((v_5.2).1) = (0 : Int))) && (decide ((v_5.1) = (aN ⟨#[91, 48, 46, 48, 44, 32, 48, 46, 50, 93]⟩)))) && (decide (((v_9.2).1) = (0 : Int)))) && (decide ((v_9.1) = (aN ⟨#[101, 110, 100, 32, 51, 32, 49, 46, 48, 32, 49, 48, 48, 10]⟩)))) && (decide (((v_13.2).1) = (1 : Int)))) && (decide (((v_17.2).1) = (0 : Int)))) && (decide ((v_17.1) = (aN ⟨#[]⟩))))))))
def aEt : PlR := ⟨[(0, .A []), (1, .B [1]), (2, .A [2, 3]), (3, .A [2, 3, 4, 5]), (4, .A [2, 3, 4, 5, 7]), (5, .A [2, 3, 4, 5, 7, 8, 9]), (6, .A [0])], []⟩
def aGb : Ty := .unit
noncomputable def xD : aI := mSpec aGb (.one .bool) (fun x => nA )
noncomputable def zI : List (FuncId × aI) := [(14, iT), (16, oI), (18, iO)]
theorem aPa : bF Tryz.prog GL zI := .cons aAo (by kernel_rfl) (.cons aDE (by kernel_rfl) (.cons aAm (by kernel_rfl) (.nil)))
theorem aJg : gam zI 14 = some iT := rfl
theorem aJh : gam zI 16 = some oI := rfl
theorem aJi : gam zI 18 = some iO := rfl
attribute [go_sem] aGb aEt aJg aJh aJi
set_option maxHeartbeats 4000000 in
theorem aMZ : FOK Tryz.prog GL 12 xD := by
 refine bD (bE aPa) mix Tryz.func12 rfl (by kernel_rfl) (by decide) aEt fun w0 S x Θ hw h hF => ?_
 simp only [bH, go_sem]
 replace h : sat (nA) _ := h
 unfold nA at h
 obtain ⟨v_5, hv, h⟩ := aQ h
 try simp only [hv, go_sem]
 obtain ⟨v_9, hv, h⟩ := aQ h
 try simp only [hv, go_sem]
 obtain ⟨v_13, hv, h⟩ := aQ h
 try simp only [hv, go_sem]
 obtain ⟨v_17, hv, h⟩ := aQ h
 try simp only [hv, go_sem]
 exact aG hF [.tmp 0] rfl rfl rfl (aA h) (by simp only [aV, go_sem])
attribute [go_sem] xD
end Nu
end Go.Proofs
namespace Go.Proofs
open Go.Vc
set_option maxRecDepth 20000
namespace Nu
theorem aZk : txt 0 = [] := by unfold txt; rw [if_pos rfl]
theorem aZl : txt 2 = [50] := by unfold txt; rw [if_neg (by decide), aK3 (by decide)]
theorem aYp : txt 10 = [49, 48] := by unfold txt; rw [if_neg (by decide), aWb (by decide) (by decide)]
abbrev w8 : Dy := (false, [1], -3, ())
abbrev w1 : Dy := (false, [1], 0, ())
theorem aWD : jR d0 = true ∧ jR w8 = true ∧ jR w1 = true := by decide +kernel
theorem bAm : txQ d0 1 false = 0 := by decide +kernel
theorem bAn : txQ w8 1 true = 2 := by decide +kernel
theorem bAo : txQ w1 1 false = 10 := by decide +kernel
theorem bAp : eL d0 1 false = ([48, 46, 48], 0, ()) := by
 unfold eL
 rw [if_neg (by rw [aWD.1]; decide), if_neg (by decide), show ((1 : Int).toNat) = 1 from rfl, bAm, aZk]
 rfl
theorem bAq : eL w8 1 true = ([48, 46, 50], 0, ()) := by
 unfold eL
 rw [if_neg (by rw [aWD.2.1]; decide), if_neg (by decide), show ((1 : Int).toNat) = 1 from rfl, bAn, aZl]
 rfl
theorem bAr : eL w1 1 false = ([49, 46, 48], 0, ()) := by
 unfold eL
 rw [if_neg (by rw [aWD.2.2]; decide), if_neg (by decide), show ((1 : Int).toNat) = 1 from rfl, bAo, aYp]
 rfl
theorem bAs : fP (d0, w8, ()) 1 = ([91, 48, 46, 48, 44, 32, 48, 46, 50, 93], 0, ()) := by
 unfold fP
 have hm : aAn (d0, w8, ()) = true := by decide +kernel
 rw [if_neg (by rw [hm]; decide)]
 simp only
 rw [bAp, bAq]
 rfl
theorem aZO : rG (3, 3, 100, w1, d0, [], [], ()) = true := by decide +kernel
theorem bAt : rG rz = false := by decide +kernel
theorem aWE : jK 100 = [49, 48, 48] := by
 unfold jK
 rw [Lib.nDigits_big (by decide), Lib.nDigits_big (by decide), Lib.nDigits_small (by decide)]
 rfl
theorem aZm : pD (3, 3, 100, w1, d0, [], [], ()) 1 = ([101, 110, 100, 32, 51, 32, 49, 46, 48, 32, 49, 48, 48, 10], 0, ()) := by
 have hw : nM (3, 3, 100, w1, d0, [], [], ()) 1 = [([101, 110, 100], 0, ()), ([51], 0, ()), ([49, 46, 48], 0, ()), ([49, 48, 48], 0, ())] := by
  unfold nM yI
  rw [if_neg (by decide), if_neg (by decide)]
  simp only
  rw [bAr, show ((3 : Int).toNat) = 3 from rfl, show ((100 : Int).toNat) = 100 from rfl, aWE, aK3 (by decide)]
  rfl
 unfold pD
 rw [if_neg (by rw [aZO]; decide), hw]
 rfl
theorem aWF : Lm [1] := by intro x hx; simp at hx; subst hx; decide
theorem aPb : Lm [] := fun x hx => by cases hx
theorem aG0 : nA = some true := by
 have lr : LmR (3, 3, 100, w1, d0, [], [], ()) := ⟨aWF, aPb, fun b hb => by (first | cases hb | simp at hb), fun b hb => by (first | cases hb | simp at hb)⟩
 have lz : LmR rz := ⟨aPb, aPb, fun b hb => by (first | cases hb | simp at hb), fun b hb => by (first | cases hb | simp at hb)⟩
 have h1 := aLa (d0, w8, ()) 1 ⟨aPb, aWF⟩
 have h2 := aJF (3, 3, 100, w1, d0, [], [], ()) 1 lr
 have h3 := aJF rz 1 lz
 have h4 := aQD [] 1 (fun r hr => by (first | cases hr | simp at hr)) (by simp)
 rw [bAs] at h1
 rw [aZm] at h2
 have e3 : pD rz 1 = ([], 1, ()) := by unfold pD; rw [if_pos bAt]
 rw [e3] at h3
 unfold nA
 refine aK h1 (aK h2 (aK h3 (aK h4 ?_)))
 decide +kernel
def shB (a : Iv) : Bool := decide (a.1.2.1.length ≤ 6) && decide (a.2.1.2.1.length ≤ 6)
def aPc (l : List Iv) : Bool := decide (l.length ≤ 8) && l.all shB
def aL3 (t : Tb) : Bool := decide (t.2.1.length ≤ 12 ∧ t.1.length ≤ 14) && t.1.all (fun d => decide (d.2.1.length ≤ 6)) && t.2.1.all shB
def aUp (l : List Tb) : Bool := decide (l.length ≤ 5) && l.all aL3
def aNK (r : Rec) : Bool := decide (r.2.2.2.2.2.1.length ≤ 6 ∧ r.2.2.2.2.2.2.1.length ≤ 6 ∧ r.2.2.2.1.2.1.length ≤ 70 ∧ r.2.2.2.2.1.2.1.length ≤ 70) && r.2.2.2.2.2.1.all aPc && r.2.2.2.2.2.2.1.all aUp
theorem aWG (l : List Iv) : tL l = some (aPc l) := by
 unfold tL aPc
 by_cases h : l.length ≤ 8
 ·rw [if_neg (by omega), decide_eq_true h, Bool.true_and]
  have hlp : bO (fun d : Int => qP l d) 0 = some (bif (List.range l.length).all (fun i => shB (l.getD i ((false, [], 0, ()), (false, [], 0, ()), ()))) then .inl () else .inr false) := by
   refine oH l.length _ (fun i hi => ?_) (by unfold qP; rw [if_neg (by omega)])
   unfold qP
   rw [if_pos (by omega), Int.toNat_natCast]
   refine aB (by constructor <;> omega) (aB (fun _ => by constructor <;> omega) ?_)
   generalize l.getD i ((false, [], 0, ()), (false, [], 0, ()), ()) = a
   have hI : I64 ((i : Int) + 1) := by constructor <;> omega
   unfold shB
   by_cases h1 : a.1.2.1.length ≤ 6
   ·by_cases h2 : a.2.1.2.1.length ≤ 6
    ·rw [if_neg (by omega), decide_eq_true h1, decide_eq_true h2, wC hI]; rfl
    ·rw [if_pos (by omega), decide_eq_false h2, Bool.and_false]; rfl
   ·rw [if_pos (by omega), decide_eq_false h1]; rfl
  rw [hlp, oG]
  cases l.all shB <;> rfl
 ·rw [if_pos (by omega), decide_eq_false h]; rfl
theorem aWH (t : Tb) : uD t = some (aL3 t) := by
 unfold uD aL3
 by_cases h : t.2.1.length ≤ 12 ∧ t.1.length ≤ 14
 ·rw [if_neg (by omega), decide_eq_true h, Bool.true_and]
  have h1 : bO (fun d : Int => oQ t d) 0 = some (bif (List.range t.1.length).all (fun i => (fun d : Dy => decide (d.2.1.length ≤ 6)) (t.1.getD i (false, [], 0, ()))) then .inl () else .inr false) := by
   refine oH t.1.length _ (fun i hi => ?_) (by unfold oQ; rw [if_neg (by omega)])
   unfold oQ
   rw [if_pos (by omega), Int.toNat_natCast]
   refine aB (by constructor <;> omega) ?_
   generalize t.1.getD i (false, [], 0, ()) = d
   have hI : I64 ((i : Int) + 1) := by constructor <;> omega
   simp only
   by_cases h1 : d.2.1.length ≤ 6
   ·rw [if_neg (by omega), decide_eq_true h1, wC hI]; rfl
   ·rw [if_pos (by omega), decide_eq_false h1]; rfl
  have h2 : bO (fun d : Int => oO t d) 0 = some (bif (List.range t.2.1.length).all (fun i => shB (t.2.1.getD i ((false, [], 0, ()), (false, [], 0, ()), ()))) then .inl () else .inr false) := by
   refine oH t.2.1.length _ (fun i hi => ?_) (by unfold oO; rw [if_neg (by omega)])
   have e : List.drop i (List.take (i + 1) t.2.1) = [t.2.1.getD i ((false, [], 0, ()), (false, [], 0, ()), ())] := by
    rw [List.take_add_one, List.drop_append_of_le_length (by rw [List.length_take]; omega), List.drop_of_length_le (by rw [List.length_take]; omega)]
    simp [List.getD, hi]
   have hr := aWG [t.2.1.getD i ((false, [], 0, ()), (false, [], 0, ()), ())]
   unfold oO
   rw [if_pos (by omega), Int.toNat_natCast, show ((i : Int) + 1).toNat = i + 1 from by omega, e]
   refine aB (by constructor <;> omega) (aB (by refine ⟨?_, ?_, ?_⟩ <;> omega) (aK hr ?_))
   generalize t.2.1.getD i ((false, [], 0, ()), (false, [], 0, ()), ()) = a
   have hI : I64 ((i : Int) + 1) := by constructor <;> omega
   have hb : aPc [a] = shB a := by simp [aPc]
   rw [hb]
   cases shB a with
   | true => rw [if_neg (by decide), wC hI]; rfl
   | false => rw [if_pos (by decide)]; rfl
  have hj : oP t = some (t.2.1.all shB) := by
   unfold oP
   rw [h2, oG]
   cases t.2.1.all shB <;> rfl
  rw [h1, oG t.1 (false, [], 0, ()) (fun d : Dy => decide (d.2.1.length ≤ 6))]
  cases t.1.all (fun d => decide (d.2.1.length ≤ 6)) with
  | true => exact hj
  | false => rfl
 ·rw [if_pos (by omega), decide_eq_false h]; rfl
theorem aUq (r : Rec) (i : Nat) (hi : i < r.2.2.2.2.2.2.1.length) (hn : r.2.2.2.2.2.2.1.length ≤ 6) (s : List Tb) (hs : r.2.2.2.2.2.2.1.getD i [] = s) (hl : s.length ≤ 5) :
  bO (fun d : Int => mK (i : Int) r d) 0 = some (bif s.all aL3 then .inl () else .inr false) := by
 rw [← oG s ([], [], ())]
 refine oH s.length _ (fun k hk => ?_) (by unfold mK; rw [Int.toNat_natCast, hs]; exact aB (by constructor <;> omega) (by rw [if_neg (by omega)]))
 unfold mK
 rw [Int.toNat_natCast, Int.toNat_natCast, hs]
 refine aB (by constructor <;> omega) ?_
 rw [if_pos (by omega)]
 refine aB (by constructor <;> omega) (aB (by constructor <;> omega) (aK (aWH _) ?_))
 cases aL3 (s.getD k ([], [], ())) with
 | true => rw [if_neg (by decide)]; exact aB (by constructor <;> omega) rfl
 | false => rw [if_pos (by decide)]; rfl
theorem aQ4 (r : Rec) : uF r = some (aNK r) := by
 unfold uF aNK
 by_cases h : r.2.2.2.2.2.1.length ≤ 6 ∧ r.2.2.2.2.2.2.1.length ≤ 6 ∧ r.2.2.2.1.2.1.length ≤ 70 ∧ r.2.2.2.2.1.2.1.length ≤ 70
 ·rw [if_neg (by omega), decide_eq_true h, Bool.true_and]
  have h1 : bO (fun d : Int => oT r d) 0 = some (bif (List.range r.2.2.2.2.2.1.length).all (fun i => aPc (r.2.2.2.2.2.1.getD i [])) then .inl () else .inr false) := by
   refine oH r.2.2.2.2.2.1.length _ (fun i hi => ?_) (by unfold oT; rw [if_neg (by omega)])
   unfold oT
   rw [if_pos (by omega), Int.toNat_natCast]
   refine aB (by constructor <;> omega) (aK (aWG _) ?_)
   have hI : I64 ((i : Int) + 1) := by constructor <;> omega
   cases aPc (r.2.2.2.2.2.1.getD i []) with
   | true => rw [if_neg (by decide), wC hI]; rfl
   | false => rw [if_pos (by decide)]; rfl
  have h2 : bO (fun d : Int => oR r d) 0 = some (bif (List.range r.2.2.2.2.2.2.1.length).all (fun i => aUp (r.2.2.2.2.2.2.1.getD i [])) then .inl () else .inr false) := by
   refine oH r.2.2.2.2.2.2.1.length _ (fun i hi => ?_) (by unfold oR; rw [if_neg (by omega)])
   unfold oR
   rw [if_pos (by omega), Int.toNat_natCast]
   refine aB (by constructor <;> omega) ?_
   have hI : I64 ((i : Int) + 1) := by constructor <;> omega
   unfold aUp
   by_cases h5 : (r.2.2.2.2.2.2.1.getD i []).length ≤ 5
   ·have h14 := aUq r i hi (by omega) _ rfl h5
    rw [if_neg (by omega), decide_eq_true h5, h14]
    cases (r.2.2.2.2.2.2.1.getD i []).all aL3 with
    | true => exact aK rfl (aB hI rfl)
    | false => rfl
   ·rw [if_pos (by omega), decide_eq_false h5]; rfl
  have hj : oS r = some (r.2.2.2.2.2.2.1.all aUp) := by
   unfold oS
   rw [h2, oG]
   cases r.2.2.2.2.2.2.1.all aUp <;> rfl
  rw [h1, oG]
  cases r.2.2.2.2.2.1.all aPc with
  | true => exact hj
  | false => rfl
 ·rw [if_pos (by omega), decide_eq_false h]; rfl
abbrev tyD : Ty := .pair .bool (.pair (.sl (.u .u64)) (.pair (.i .i64) .unit))
abbrev tyI : Ty := .pair tyD (.pair tyD .unit)
abbrev tyT : Ty := .pair (.sl tyD) (.pair (.sl tyI) .unit)
abbrev tyR : Ty := .pair (.i .i64) (.pair (.i .i64) (.pair (.i .i64) (.pair tyD (.pair tyD (.pair (.sl (.sl tyI)) (.pair (.sl (.sl tyT)) .unit))))))
theorem aWI {d : Dy} (h : tyD.wf d) : Lm d.2.1 := vM h.2.1
theorem aZn {a : Iv} (h : tyI.wf a) : LmI a := ⟨aWI h.1, aWI h.2.1⟩
theorem bAu {t : Tb} (h : tyT.wf t) : LmT t := ⟨fun d hd => aWI (h.1.2 d hd), fun a ha => aZn (h.2.1.2 a ha)⟩
theorem bAv {r : Rec} (h : tyR.wf r) : LmR r := ⟨aWI h.2.2.2.1, aWI h.2.2.2.2.1, fun b hb a ha => aZn ((h.2.2.2.2.2.1.2 b hb).2 a ha), fun l hl t ht => bAu ((h.2.2.2.2.2.2.1.2 l hl).2 t ht)⟩
end Nu
end Go.Proofs
namespace Go.Proofs
open Go.Vc
set_option maxRecDepth 20000
namespace Nu
noncomputable def fS (l_0 : (List qR0)) (digits_2 : Int) (a_1 : qI0) : Option (Bool) :=
 (qH l_0 digits_2).bind (fun v_31 => (sH l_0 digits_2).bind (fun v_35 => (eU a_1 digits_2).bind (fun v_39 => (pT a_1 digits_2).bind (fun v_43 => (nA).bind (fun v_47 => some ((((v_47 && (decide ((v_31.1) = (v_35.1)))) && (decide (((v_31.2).1) = ((v_35.2).1)))) && (decide ((v_39.1) = (v_43.1)))) && (decide (((v_39.2).1) = ((v_43.2).1)))))))))
noncomputable def dG (l_0 : (List qR0)) (digits_2 : Int) (i_56 : Int) : Option ((Int) ⊕ ((Unit) ⊕ Bool)) :=
 if i_56 < (l_0.length : Int) then ck (0 ≤ i_56 ∧ i_56 < (l_0.length : Int)) ((uF (l_0.getD (i_56.toNat) ((0 : Int), (0 : Int), (0 : Int), (false, ([] : List Nat), (0 : Int), ()), (false, ([] : List Nat), (0 : Int), ()), ([] : List (List qI0)), ([] : List (List qT0)), ()))).bind (fun v_81 => ck ((¬ (¬ (v_81 = true)) → (0 ≤ i_56 ∧ i_56 < (l_0.length : Int)))) (ck ((¬ ((¬ (v_81 = true)) ∨ ((20 : Int) < ((((((((((l_0.getD (i_56.toNat) ((0 : Int), (0 : Int), (0 : Int), (false, ([] : List Nat), (0 : Int), ()), (false, ([] : List Nat), (0 : Int), ()), ([] : List (List qI0)), ([] : List (List qT0)), ())).2).2).2).1).2).1).length) : Nat) : Int))) → (0 ≤ i_56 ∧ i_56 < (l_0.length : Int)))) (if ((¬ (v_81 = true)) ∨ ((20 : Int) < ((((((((((l_0.getD (i_56.toNat) ((0 : Int), (0 : Int), (0 : Int), (false, ([] : List Nat), (0 : Int), ()), (false, ([] : List Nat), (0 : Int), ()), ([] : List (List qI0)), ([] : List (List qT0)), ())).2).2).2).1).2).1).length) : Nat) : Int))) ∨ ((20 : Int) < (((((((((((l_0.getD (i_56.toNat) ((0 : Int), (0 : Int), (0 : Int), (false, ([] : List Nat), (0 : Int), ()), (false, ([] : List Nat), (0 : Int), ()), ([] : List (List qI0)), ([] : List (List qT0)), ())).2).2).2).2).1).2).1).length) : Nat) : Int)) then (nA).bind (fun v_85 => some (.inr (.inr v_85))) else ck (0 ≤ i_56 ∧ i_56 < (l_0.length : Int)) ((eV (l_0.getD (i_56.toNat) ((0 : Int), (0 : Int), (0 : Int), (false, ([] : List Nat), (0 : Int), ()), (false, ([] : List Nat), (0 : Int), ()), ([] : List (List qI0)), ([] : List (List qT0)), ())) digits_2).bind (fun v_89 => ck (0 ≤ i_56 ∧ i_56 < (l_0.length : Int)) ((pU (l_0.getD (i_56.toNat) ((0 : Int), (0 : Int), (0 : Int), (false, ([] : List Nat), (0 : Int), ()), (false, ([] : List Nat), (0 : Int), ()), ([] : List (List qI0)), ([] : List (List qT0)), ())) digits_2).bind (fun v_93 => if (¬ ((v_89.1) = (v_93.1))) ∨ (¬ (((v_89.2).1) = ((v_93.2).1))) then some (.inr (.inr false)) else ck (I64 (i_56 + (1 : Int))) (some (.inl (i_56 + (1 : Int)))))))))))) else some (.inr (.inl ()))
noncomputable def lR (l_0 : (List qR0)) (a_1 : qI0) (digits_2 : Int) : Option Bool :=
 if (((6 : Int) < (l_0.length : Int)) ∨ ((20 : Int) < ((((a_1.1).2).1).length : Int))) ∨ ((20 : Int) < (((((a_1.2).1).2).1).length : Int)) then (nA).bind (fun v_9 => some v_9) else (bO (fun d : Int => dG l_0 digits_2 d) (0 : Int)).bind (fun e => match e with | (.inl e) => fS l_0 digits_2 a_1 | (.inr e) => some e)
def yK : PlR := ⟨[(0, .B [0, 2, 4]), (1, .A [0, 2, 4, 36]), (2, .A [6]), (3, .A [0, 2, 4, 7]), (4, .A [0, 2, 4, 7, 41]), (5, .A [0, 2, 4, 7]), (6, .A [0, 2, 4, 7, 69]), (7, .A [6]), (8, .A [0, 2, 4, 7, 8, 9]), (9, .A [0, 2, 4, 7, 8, 9, 10, 11]), (10, .A [0, 2, 4, 7, 96]), (11, .A [6]), (12, .A [0, 2, 4, 12, 13]), (13, .A [2, 4, 12, 13, 14, 15]), (14, .A [2, 4, 12, 13, 14, 15, 16, 17]), (15, .A [12, 13, 14, 15, 16, 17, 18, 19]), (16, .A [6])], [(6, 15)]⟩
def pV : Ty := .pair (.sl (.pair (.i .i64) (.pair (.i .i64) (.pair (.i .i64) (.pair (.pair .bool (.pair (.sl (.u .u64)) (.pair (.i .i64) .unit))) (.pair (.pair .bool (.pair (.sl (.u .u64)) (.pair (.i .i64) .unit))) (.pair (.sl (.sl (.pair (.pair .bool (.pair (.sl (.u .u64)) (.pair (.i .i64) .unit))) (.pair (.pair .bool (.pair (.sl (.u .u64)) (.pair (.i .i64) .unit))) .unit)))) (.pair (.sl (.sl (.pair (.sl (.pair .bool (.pair (.sl (.u .u64)) (.pair (.i .i64) .unit)))) (.pair (.sl (.pair (.pair .bool (.pair (.sl (.u .u64)) (.pair (.i .i64) .unit))) (.pair (.pair .bool (.pair (.sl (.u .u64)) (.pair (.i .i64) .unit))) .unit))) .unit)))) .unit)))))))) (.pair (.pair (.pair .bool (.pair (.sl (.u .u64)) (.pair (.i .i64) .unit))) (.pair (.pair .bool (.pair (.sl (.u .u64)) (.pair (.i .i64) .unit))) .unit)) (.pair (.i .i64) .unit))
noncomputable def yL : aI := mSpec pV (.one .bool) (fun x => lR x.1 x.2.1 x.2.2.1)
noncomputable def dP : List (FuncId × aI) := [(12, xD), (13, zH), (14, iT), (15, qO), (16, oI), (17, xC), (18, iO), (19, qN)]
theorem aE3 : bF Tryz.prog GL dP := .cons aMZ (by kernel_rfl) (.cons aO9 (by kernel_rfl) (.cons aAo (by kernel_rfl) (.cons aEr (by kernel_rfl) (.cons aDE (by kernel_rfl) (.cons aMY (by kernel_rfl) (.cons aAm (by kernel_rfl) (.cons aEp (by kernel_rfl) (.nil))))))))
theorem aCC : gam dP 12 = some xD := rfl
theorem aCD : gam dP 13 = some zH := rfl
theorem aCE : gam dP 14 = some iT := rfl
theorem aCF : gam dP 15 = some qO := rfl
theorem aCG : gam dP 16 = some oI := rfl
theorem aCH : gam dP 17 = some xC := rfl
theorem aCI : gam dP 18 = some iO := rfl
theorem aCJ : gam dP 19 = some qN := rfl
attribute [go_sem] pV yK aCC aCD aCE aCF aCG aCH aCI aCJ
set_option maxHeartbeats 4000000 in
theorem aD4 : FOK Tryz.prog GL 3 yL := by
 refine bD (bE aE3) mix Tryz.func3 rfl (by kernel_rfl) (by decide) yK fun w0 S x Θ hw h hF => ?_
 obtain ⟨(l_0 : (List qR0)), (a_1 : qI0), (digits_2 : Int), u⟩ := x
 simp only [bH, go_sem]
 replace h : sat (lR l_0 a_1 digits_2) _ := h
 unfold lR at h
 refine ⟨fun hc => ?_, fun hc => ?_⟩
 ·replace h := fU hc h
  obtain ⟨v_9, hv, h⟩ := aQ h
  try simp only [hv, go_sem]
  exact aG hF [.tmp 6] rfl rfl rfl (aA h) (by simp only [aV, go_sem])
 ·replace h := fV hc h
  refine cO hF (D := Unit) (fun d => sat (fS l_0 digits_2 a_1) Θ) [0, 2] (fun d => [(4, .ptr 0 [])]) (fun d => [.inr (.box 6 (.val (.pair (.pair .bool (.pair (.sl (.u .u64)) (.pair (.i .i64) .unit))) (.pair (.pair .bool (.pair (.sl (.u .u64)) (.pair (.i .i64) .unit))) .unit)) a_1))]) ?_ ?_
  ·simp only [go_sem]
   refine bC hF (D := Int) [0, 2] (fun d => [(4, .ptr 0 []), (7, .val (.i .i64) d)]) (fun d => [.inr (.box 6 (.val (.pair (.pair .bool (.pair (.sl (.u .u64)) (.pair (.i .i64) .unit))) (.pair (.pair .bool (.pair (.sl (.u .u64)) (.pair (.i .i64) .unit))) .unit)) a_1))]) h rfl (by simp only [go_sem]) ?_
   rintro i_56 A4 T4 hA4 hE4 h
   simp only [go_sem]
   replace h : sat (dG l_0 digits_2 i_56) _ := h
   unfold dG at h
   refine bW h (fun hc h => ?_) fun hc h => ?_
   ·obtain ⟨g0, h⟩ := aJ h
    repeat (refine ⟨by omega, ?_⟩)
    obtain ⟨v_81, hv, h⟩ := aQ h
    try simp only [hv, go_sem]
    obtain ⟨g0, h⟩ := aJ h
    obtain ⟨g1, h⟩ := aJ h
    repeat (refine ⟨by omega, ?_⟩)
    refine ⟨fun hc => ?_, fun hc => ?_⟩
    ·replace h := fU (by first | exact hc | omega | (simpa using hc) | (simp at hc ⊢; omega)) h
     obtain ⟨v_85, hv, h⟩ := aQ h
     try simp only [hv, go_sem]
     replace h := hE4 _ (aA h)
     try dsimp only at h
     exact aG hF [.tmp 6] rfl rfl rfl (aA h) (by simp only [aV, go_sem])
    ·replace h := fV (by first | exact hc | omega | (simpa using hc) | (simp at hc ⊢; omega)) h
     obtain ⟨g0, h⟩ := aJ h
     repeat (refine ⟨by omega, ?_⟩)
     obtain ⟨v_89, hv, h⟩ := aQ h
     try simp only [hv, go_sem]
     obtain ⟨g0, h⟩ := aJ h
     repeat (refine ⟨by omega, ?_⟩)
     obtain ⟨v_93, hv, h⟩ := aQ h
     try simp only [hv, go_sem]
     refine ⟨fun hc => ?_, fun hc => ?_⟩
     ·replace h := fU hc h
      replace h := hE4 _ (aA h)
      try dsimp only at h
      exact aG hF [.tmp 6] rfl rfl rfl (aA h) (by simp only [aV, go_sem])
     ·replace h := fV hc h
      obtain ⟨g0, h⟩ := aJ h
      repeat (refine ⟨by omega, ?_⟩)
      replace h := hA4 _ (aA h)
      exact aP _ h rfl (by simp only [go_sem])
   ·replace h := hE4 _ (aA h)
    try dsimp only at h
    exact aP (()) h rfl (by simp only [go_sem])
  ·rintro u h
   simp only [go_sem]
   replace h : sat (fS l_0 digits_2 a_1) _ := h
   unfold fS at h
   obtain ⟨v_31, hv, h⟩ := aQ h
   try simp only [hv, go_sem]
   obtain ⟨v_35, hv, h⟩ := aQ h
   try simp only [hv, go_sem]
   obtain ⟨v_39, hv, h⟩ := aQ h
   try simp only [hv, go_sem]
   obtain ⟨v_43, hv, h⟩ := aQ h
   try simp only [hv, go_sem]
   obtain ⟨v_47, hv, h⟩ := aQ h
   try simp only [hv, go_sem]
   exact aG hF [.tmp 6] rfl rfl rfl (aA h) (by simp only [aV, go_sem])
attribute [go_sem] yL
end Nu
end Go.Proofs
namespace Go.Proofs
open Go.Vc
set_option maxRecDepth 20000
namespace Nu
theorem aZo (r : Rec) (h : aNK r = true) : ShR r := by
 unfold aNK at h
 simp only [Bool.and_eq_true, decide_eq_true_eq, List.all_eq_true] at h
 obtain ⟨⟨h1, h2⟩, h3⟩ := h
 have hI : ∀ a : Iv, shB a = true → ShI a := fun a ha => by
  unfold shB at ha
  simp only [Bool.and_eq_true, decide_eq_true_eq] at ha
  exact ⟨by omega, by omega⟩
 refine ⟨by omega, by omega, fun b hb => ?_, fun l hl => ?_⟩
 ·have := h2 b hb
  unfold aPc at this
  simp only [Bool.and_eq_true, decide_eq_true_eq, List.all_eq_true] at this
  exact ⟨by omega, fun a ha => hI a (this.2 a ha)⟩
 ·have := h3 l hl
  unfold aUp at this
  simp only [Bool.and_eq_true, decide_eq_true_eq, List.all_eq_true] at this
  refine ⟨by omega, fun t ht => ?_⟩
  have h4 := this.2 t ht
  unfold aL3 at h4
  simp only [Bool.and_eq_true, decide_eq_true_eq, List.all_eq_true] at h4
  exact ⟨fun d hd => by have := h4.1.2 d hd; omega, fun a ha => hI a (h4.2 a ha)⟩
def inL (r : Rec) : Bool := aNK r && decide (r.2.2.2.1.2.1.length ≤ 20) && decide (r.2.2.2.2.1.2.1.length ≤ 20)
theorem aJj (l : List Rec) (a : Iv) (n : Int) (lm : ∀ r ∈ l, LmR r) (la : LmI a) : lR l a n = some true := by
 unfold lR
 by_cases h : (((6 : Int) < (l.length : Int)) ∨ ((20 : Int) < (a.1.2.1.length : Int))) ∨ ((20 : Int) < (a.2.1.2.1.length : Int))
 ·rw [if_pos h]; exact aK aG0 rfl
 ·rw [if_neg h]
  have key : ∃ e, bO (fun d : Int => dG l n d) 0 = some e ∧ (e = .inr true ∨ (e = .inl () ∧ ∀ r ∈ l, ShR r)) := by
   have := cV (step := fun d : Int => dG l n d) (I := fun d => ∃ i : Nat, d = i ∧ i ≤ l.length ∧ ∀ j, j < i → ShR (l.getD j rz)) (fun d => (l.length - d).toNat)
    (fun e => e = .inr true ∨ (e = .inl () ∧ ∀ r ∈ l, ShR r)) (fun d hd => by
     obtain ⟨i, rfl, hi, hj⟩ := hd
     show (∃ d', dG l n (i : Int) = _ ∧ _) ∨ ∃ e, dG l n (i : Int) = _ ∧ _
     unfold dG
     rw [Int.toNat_natCast]
     rcases Nat.lt_or_ge i l.length with hlt | hge
     ·have hm := pQ (z := rz) hlt
      have hw := aJF _ n (lm _ hm)
      have hr := aQ1 _ n (lm _ hm)
      rw [if_pos (by omega)]
      generalize hg : l.getD i rz = r at hm hw hr ⊢
      by_cases hin : inL r = true
      ·left
       have hin' := hin
       unfold inL at hin'
       simp only [Bool.and_eq_true, decide_eq_true_eq] at hin'
       obtain ⟨⟨f1, f2⟩, f3⟩ := hin'
       have hsh := aZo _ f1
       refine ⟨(i : Int) + 1, ?_, ⟨i + 1, by simp, hlt, fun j hj2 => ?_⟩, by omega⟩
       ·refine aB (by constructor <;> omega) (aK (aQ4 _) (aB (fun _ => by constructor <;> omega) (aB (fun _ => by constructor <;> omega) ?_)))
        rw [f1, if_neg (by simp only [not_true_eq_false, false_or]; omega)]
        refine aB (by constructor <;> omega) (aK hw (aB (by constructor <;> omega) (aK (hr hsh) ?_)))
        rw [if_neg (by simp)]
        exact aB (by constructor <;> omega) rfl
       ·rcases Nat.lt_or_ge j i with hh | hh
        ·exact hj j hh
        ·obtain rfl : j = i := by omega
         rw [hg]; exact hsh
      ·right
       refine ⟨.inr true, ?_, .inl rfl⟩
       refine aB (by constructor <;> omega) (aK (aQ4 _) (aB (fun _ => by constructor <;> omega) (aB (fun _ => by constructor <;> omega) ?_)))
       rw [if_pos]
       ·exact aK aG0 rfl
       ·unfold inL at hin
        cases hf : aNK r with
        | false => exact .inl (.inl (by decide))
        | true =>
         rw [hf] at hin
         by_cases h1 : r.2.2.2.1.2.1.length ≤ 20
         ·right
          have : ¬ r.2.2.2.2.1.2.1.length ≤ 20 := fun h2 => hin (by rw [decide_eq_true h1, decide_eq_true h2]; rfl)
          omega
         ·exact .inl (.inr (by omega))
     ·right
      obtain rfl : i = l.length := by omega
      refine ⟨.inl (), by rw [if_neg (by omega)], .inr ⟨rfl, fun r hr => ?_⟩⟩
      obtain ⟨k, hk, rfl⟩ := List.getElem_of_mem hr
      have := hj k hk
      simpa [List.getD, hk] using this) 0 ⟨0, rfl, Nat.zero_le _, fun j hj => absurd hj (Nat.not_lt_zero _)⟩
   exact this
  obtain ⟨e, he, hq⟩ := key
  refine aK he ?_
  rcases hq with rfl | ⟨rfl, hsh⟩
  ·rfl
  ·show fS l n a = _
   have sa : ShI a := ⟨by omega, by omega⟩
   unfold fS
   refine aK (aQD l n lm (by omega)) (aK (aUo l n lm hsh (by omega)) (aK (aLa a n la) (aK (aQZ a n la sa) (aK aG0 ?_))))
   simp
end Nu
end Go.Proofs
