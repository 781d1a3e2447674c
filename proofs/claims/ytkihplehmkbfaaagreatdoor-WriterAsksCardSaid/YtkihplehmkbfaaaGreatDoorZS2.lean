import Derived.Test.YtkihplehmkbfaaaGreatDoorZS1
import Derived.Test.YtkihplehmkbfaaaGreatDoorZL5
import Derived.Shelf.Strconv.Itoa2
import Derived.Lib.ItoaNum
set_option linter.unusedVariables false
set_option linter.unusedSimpArgs false
namespace Go.Proofs
open Go.Vc
set_option maxRecDepth 20000
namespace Nu
abbrev yV (a b : List Nat) : Prop := Nrm a ∧ Nrm b ∧ nv b ≠ 0 ∧ a.length ≤ 1099511627776
def dO (a b : List Nat) : List Nat × List Nat × Unit := (lb (nv a / nv b), lb (nv a % nv b), ())
noncomputable def sU (b_1 : (List Nat)) (u_11 : (List Nat)) (q_12 : (List Nat)) : Option (((List Nat) × ((List Nat) × Unit))) :=
 ck (0 ≤ (b_1.length : Int) ∧ (b_1.length : Int) ≤ (u_11.length : Int)) (ck ((aOm (dI (List.take (b_1.length) u_11)) (aC (b_1.getD (((b_1.length : Int) - (1 : Int)).toNat) (0 : Nat))))) (some ((dI q_12), (gR (dI (List.take (b_1.length) u_11)) (aC (b_1.getD (((b_1.length : Int) - (1 : Int)).toNat) (0 : Nat)))), ())))
noncomputable def mE (b_1 : (List Nat)) (j_14 : Int) (u_15 : (List Nat)) (q_16 : (List Nat)) : Option ((Int × (List Nat) × (List Nat)) ⊕ (((List Nat) × (List Nat)))) :=
 if (0 : Int) ≤ j_14 then ck (I64 (j_14 + (b_1.length : Int))) (ck (I64 ((j_14 + (b_1.length : Int)) + (1 : Int))) (ck (0 ≤ j_14 ∧ j_14 < ((j_14 + (b_1.length : Int)) + (1 : Int)) ∧ ((j_14 + (b_1.length : Int)) + (1 : Int)) ≤ (u_15.length : Int)) (((tT (j_14.toNat) ((((j_14 + (b_1.length : Int)) + (1 : Int)) - j_14).toNat) (dD (cF b_1 (aC (b_1.getD (((b_1.length : Int) - (1 : Int)).toNat) (0 : Nat)))) (b_1.length : Int)) u_15)).bind (fun r_24 => ck (0 ≤ j_14 ∧ j_14 < (q_16.length : Int)) (ck (I64 (j_14 - (1 : Int))) (some (.inl ((j_14 - (1 : Int)), (r_24.2), (q_16.set (j_14.toNat) (r_24.1)))))))))) else some (.inr (u_15, q_16))
noncomputable def yW (a_0 : (List Nat)) (b_1 : (List Nat)) : Option ((List Nat) × ((List Nat) × Unit)) :=
 ck ((aTb a_0 b_1)) (if (oX a_0 b_1) < (0 : Int) then ck ((aVK a_0)) (some (([] : List Nat), (id a_0), ())) else if (b_1.length : Int) = (1 : Int) then ck ((0 : Int) < (b_1.length : Int)) (ck ((aDb a_0 (b_1.getD (0 : Nat) (0 : Nat)))) (some (((tQ a_0 (b_1.getD (0 : Nat) (0 : Nat))).1), (((tQ a_0 (b_1.getD (0 : Nat) (0 : Nat))).2).1), ()))) else ck (I64 ((b_1.length : Int) - (1 : Int))) (ck (0 ≤ ((b_1.length : Int) - (1 : Int)) ∧ ((b_1.length : Int) - (1 : Int)) < (b_1.length : Int)) (ck ((aKz b_1 (aC (b_1.getD (((b_1.length : Int) - (1 : Int)).toNat) (0 : Nat))))) (ck ((yU (cF b_1 (aC (b_1.getD (((b_1.length : Int) - (1 : Int)).toNat) (0 : Nat)))) (b_1.length : Int))) (ck ((aKz a_0 (aC (b_1.getD (((b_1.length : Int) - (1 : Int)).toNat) (0 : Nat))))) (ck (I64 ((a_0.length : Int) + (1 : Int))) (ck ((yU (cF a_0 (aC (b_1.getD (((b_1.length : Int) - (1 : Int)).toNat) (0 : Nat)))) ((a_0.length : Int) + (1 : Int)))) (ck (I64 ((a_0.length : Int) - (b_1.length : Int))) (ck (I64 (((a_0.length : Int) - (b_1.length : Int)) + (1 : Int))) (ck (0 ≤ (((a_0.length : Int) - (b_1.length : Int)) + (1 : Int))) (ck ((8 : Int) * (((a_0.length : Int) - (b_1.length : Int)) + (1 : Int)) ≤ 281474976710656) (ck (I64 ((a_0.length : Int) - (b_1.length : Int))) ((bO (fun d : Int × (List Nat) × (List Nat) => mE b_1 d.1 d.2.1 d.2.2) (((a_0.length : Int) - (b_1.length : Int)), (dD (cF a_0 (aC (b_1.getD (((b_1.length : Int) - (1 : Int)).toNat) (0 : Nat)))) ((a_0.length : Int) + (1 : Int))), (List.replicate ((((a_0.length : Int) - (b_1.length : Int)) + (1 : Int)).toNat) (0 : Nat)))).bind (fun e => sU b_1 e.1 e.2))))))))))))))
theorem aGC {a : List Nat} {n : Int} : nv (dD a n) = nv a := by
 unfold dD; rw [aGx, aGy, Nat.mul_zero, Nat.add_zero]
theorem aKK {a : List Nat} {n : Int} (h : a.length ≤ n) : (dD a n).length = n.toNat := by
 unfold dD; rw [List.length_append, List.length_replicate]; omega
theorem aNw {a : List Nat} {n : Int} (h : Lm a) : Lm (dD a n) := aVL h (aGz _)
theorem aQo {b : List Nat} (lb' : Lm b) (hn : Nrm b) (h0 : nv b ≠ 0) : 0 < b.length ∧ 1 ≤ b.getD (b.length - 1) 0 ∧ b.getD (b.length - 1) 0 * 18446744073709551616 ^ (b.length - 1) ≤ nv b ∧ nv b < (b.getD (b.length - 1) 0 + 1) * 18446744073709551616 ^ (b.length - 1) := by
 have hne : b ≠ [] := fun e => h0 (by rw [e]; rfl)
 have hl : 0 < b.length := List.length_pos_iff.2 hne
 have hp : 0 < 18446744073709551616 ^ (b.length - 1) := Nat.pow_pos (by decide)
 have hge := aS9 hn hne
 have hlt := kV lb'
 have ht : b.getD (b.length - 1) 0 = nv b / 18446744073709551616 ^ (b.length - 1) := by
  rw [rR lb']
  refine Nat.mod_eq_of_lt ((Nat.div_lt_iff_lt_mul hp).2 ?_)
  rw [Nat.mul_comm, ← Nat.pow_succ, show (b.length - 1).succ = b.length from by omega]
  exact hlt
 rw [ht]
 exact ⟨hl, (Nat.le_div_iff_mul_le hp).2 (by omega), Nat.div_mul_le_self _ _, by rw [Nat.mul_comm]; exact Nat.lt_mul_div_succ _ hp⟩
theorem aT9 {b : List Nat} (lb' : Lm b) (hn : Nrm b) (h0 : nv b ≠ 0) : nv b * 2 ^ (64 - bl (b.getD (b.length - 1) 0)) < 18446744073709551616 ^ b.length ∧ 9223372036854775808 * 18446744073709551616 ^ (b.length - 1) ≤ nv b * 2 ^ (64 - bl (b.getD (b.length - 1) 0)) := by
 obtain ⟨hl, h1, h2, h3⟩ := aQo lb' hn h0
 have hb := aTZ (fE lb' (b.length - 1))
 have hlow := aRw (x := b.getD (b.length - 1) 0) (by omega)
 have hlt := aPW (b.getD (b.length - 1) 0)
 have hpos := aOf (x := b.getD (b.length - 1) 0) (by omega)
 generalize b.getD (b.length - 1) 0 = t at *
 have hp := Nat.two_pow_pos (64 - bl t)
 have e1 : 2 ^ bl t * 2 ^ (64 - bl t) = 18446744073709551616 := by rw [← Nat.pow_add, show bl t + (64 - bl t) = 64 from by omega]
 have e2 : 2 ^ (bl t - 1) * 2 ^ (64 - bl t) = 9223372036854775808 := by rw [← Nat.pow_add, show bl t - 1 + (64 - bl t) = 63 from by omega]
 constructor
 ·have k1 : (t + 1) * 2 ^ (64 - bl t) ≤ 18446744073709551616 := by rw [← e1]; exact Nat.mul_le_mul_right _ hlt
  have k2 := Nat.mul_lt_mul_of_pos_right h3 hp
  refine Nat.lt_of_lt_of_le k2 ?_
  rw [Nat.mul_right_comm, show 18446744073709551616 ^ b.length = 18446744073709551616 * 18446744073709551616 ^ (b.length - 1) from by rw [Nat.mul_comm, ← Nat.pow_succ]; congr 1; omega]
  exact Nat.mul_le_mul_right _ k1
 ·have k1 : 9223372036854775808 ≤ t * 2 ^ (64 - bl t) := by rw [← e2]; exact Nat.mul_le_mul_right _ hlow
  refine Nat.le_trans (Nat.mul_le_mul_right _ k1) ?_
  rw [Nat.mul_right_comm]
  exact Nat.mul_le_mul_right _ h2
structure QrI (m n V N : Nat) (j : Int) (u q : List Nat) : Prop where
 j0 : -1 ≤ j
 j1 : j ≤ m
 ul : u.length = m + n + 1
 lu : Lm u
 ql : q.length = m + 1
 lq : Lm q
 lt : nv u < 18446744073709551616 ^ (j + 1).toNat * V
 lo : ∃ t, nv q = 18446744073709551616 ^ (j + 1).toNat * t
 sum : nv q * V + nv u = N
theorem aV8 {m n V N : Nat} {j : Int} {u q w : List Nat} (h : QrI m n V N j u q) (hj : 0 ≤ j) (hw : w.length = u.length) (lw : Lm w) (hV : 0 < V)
  (e : nv w + nv u / (18446744073709551616 ^ j.toNat * V) * (18446744073709551616 ^ j.toNat * V) = nv u) : QrI m n V N (j - 1) w (q.set j.toNat (nv u / (18446744073709551616 ^ j.toNat * V))) := by
 have h1 := h.j1
 have hql := h.ql
 have hul := h.ul
 have e1 : (j + 1).toNat = j.toNat + 1 := by omega
 have e2 : (j - 1 + 1).toNat = j.toNat := by omega
 have hW : 0 < 18446744073709551616 ^ j.toNat * V := Nat.mul_pos (Nat.pow_pos (by decide)) hV
 have hlt := h.lt
 obtain ⟨t, ht⟩ := h.lo
 rw [e1] at hlt ht
 have hQ : nv u / (18446744073709551616 ^ j.toNat * V) < 18446744073709551616 := by
  refine (Nat.div_lt_iff_lt_mul hW).2 ?_
  rw [Nat.pow_succ, Nat.mul_comm (18446744073709551616 ^ j.toNat) 18446744073709551616, Nat.mul_assoc] at hlt
  exact hlt
 have hz : q.getD j.toNat 0 = 0 := by
  rw [rR h.lq, ht, Nat.pow_succ, Nat.mul_assoc, Nat.mul_div_cancel_left _ (Nat.pow_pos (by decide)), Nat.mul_mod_right]
 have hset := aA3 (a := q) (k := j.toNat) (v := nv u / (18446744073709551616 ^ j.toNat * V)) (by omega)
 rw [hz, Nat.mul_zero, Nat.add_zero] at hset
 have hwm : nv w = nv u % (18446744073709551616 ^ j.toNat * V) := by
  have d := Nat.div_add_mod (nv u) (18446744073709551616 ^ j.toNat * V)
  rw [Nat.mul_comm] at d
  omega
 refine ⟨by omega, by omega, by omega, lw, by rw [List.length_set]; exact hql, yA h.lq _ hQ, ?_, ?_, ?_⟩
 ·rw [e2, hwm]; exact Nat.mod_lt _ hW
 ·rw [e2, hset, ht, Nat.pow_succ, Nat.mul_assoc, ← Nat.mul_add]; exact ⟨_, rfl⟩
 ·have hs := h.sum
  rw [hset, Nat.add_mul, Nat.mul_right_comm, Nat.mul_comm (18446744073709551616 ^ j.toNat * V)]
  omega
theorem aKL (a : List Nat) (wa : (Ty.sl (.u .u64)).wf a) (b : List Nat) (wb : (Ty.sl (.u .u64)).wf b) (hp : yV a b) : yW a b = some (dO a b) := by
 obtain ⟨na, nb, hb0, sa⟩ := hp
 have la := vM wa
 have lb' := vM wb
 obtain ⟨hl, t1, t2, t3⟩ := aQo lb' nb hb0
 obtain ⟨v1, v2⟩ := aT9 lb' nb hb0
 have h64 := aTZ (fE lb' (b.length - 1))
 have hpos := aOf (x := b.getD (b.length - 1) 0) (by omega)
 unfold yW
 refine aB ⟨na, nb⟩ (aBp (fun hc => ?_) (fun hc => aBp (fun h1 => ?_) (fun h1 => ?_)))
 ·have hlt : nv a < nv b := by
   unfold oX aEK at hc
   split at hc
   ·assumption
   ·split at hc <;> omega
  unfold dO
  rw [Nat.div_eq_of_lt hlt, Nat.mod_eq_of_lt hlt, oA, aYw la na]
  exact aB (by show a.length * 8 ≤ _; omega) rfl
 ·have hb1 : nv b = b.getD 0 0 := by
   match b, (show b.length = 1 by omega) with
   | [x], _ => rfl
  refine aB (by omega) (aB ⟨by rw [← hb1]; exact hb0, sa⟩ ?_)
  unfold tQ dO
  rw [← hb1]
 ·have hge : nv b ≤ nv a := by
   unfold oX aEK at hc
   split at hc
   ·omega
   ·omega
  have hlen : b.length ≤ a.length := by
   rcases Nat.lt_or_ge a.length b.length with h | h
   ·exfalso
    have k1 := kV la
    have k2 : 18446744073709551616 ^ a.length ≤ 18446744073709551616 ^ (b.length - 1) := Nat.pow_le_pow_right (by decide) (by omega)
    have k3 := aS9 nb (fun e => hb0 (by rw [e]; rfl))
    omega
   ·exact h
  have e1 : ((b.length : Int) - 1).toNat = b.length - 1 := by omega
  rw [e1]
  have hs : (aC (b.getD (b.length - 1) 0)).toNat = 64 - bl (b.getD (b.length - 1) 0) := by unfold aC; omega
  have hs2 : 0 ≤ aC (b.getD (b.length - 1) 0) ∧ aC (b.getD (b.length - 1) 0) ≤ 63 := by unfold aC; omega
  have hLb : cF b (aC (b.getD (b.length - 1) 0)) = lb (nv b * 2 ^ (64 - bl (b.getD (b.length - 1) 0))) := by unfold cF; rw [hs]
  have hLa : cF a (aC (b.getD (b.length - 1) 0)) = lb (nv a * 2 ^ (64 - bl (b.getD (b.length - 1) 0))) := by unfold cF; rw [hs]
  have hs3 : 64 - bl (b.getD (b.length - 1) 0) ≤ 63 := by omega
  have hbl : (lb (nv b * 2 ^ (64 - bl (b.getD (b.length - 1) 0)))).length ≤ b.length := aC8.2 v1
  have hal : (lb (nv a * 2 ^ (64 - bl (b.getD (b.length - 1) 0)))).length ≤ a.length + 1 := by
   refine aC8.2 ?_
   rw [Nat.pow_succ]
   refine Nat.mul_lt_mul'' (kV la) ?_
   exact Nat.lt_of_le_of_lt (Nat.pow_le_pow_right (by decide) hs3) (by decide)
  have hn2 : 2 ≤ b.length := by omega
  obtain ⟨sI, hsI⟩ : ∃ sI, sI = aC (b.getD (b.length - 1) 0) := ⟨_, rfl⟩
  obtain ⟨s, hss⟩ : ∃ s, s = 64 - bl (b.getD (b.length - 1) 0) := ⟨_, rfl⟩
  rw [← hss] at v1 v2 hbl hal hLa hLb hs3 hs
  rw [← hsI] at hLa hLb hs2 hs
  rw [← hsI, hLa, hLb]
  have hV : 0 < nv b * 2 ^ s := Nat.mul_pos (by omega) (Nat.two_pow_pos s)
  have key := cV (step := fun d : Int × (List Nat) × (List Nat) => mE b d.1 d.2.1 d.2.2) (I := fun d => QrI (a.length - b.length) b.length (nv b * 2 ^ s) (nv a * 2 ^ s) d.1 d.2.1 d.2.2) (fun d => (d.1 + 1).toNat)
   (fun e => e.1.length = a.length + 1 ∧ Lm e.1 ∧ nv e.1 = nv a * 2 ^ s % (nv b * 2 ^ s) ∧ nv e.2 = nv a * 2 ^ s / (nv b * 2 ^ s)) ?_ ((a.length : Int) - (b.length : Int), dD (lb (nv a * 2 ^ s)) ((a.length : Int) + 1), List.replicate (((a.length : Int) - (b.length : Int)) + 1).toNat 0) ?_
  ·obtain ⟨e, h2, h3, h4, h5, h6⟩ := key
   refine aB (by constructor <;> omega) (aB (by constructor <;> omega) (aB ⟨(by show b.length ≤ _; omega), by omega, by omega⟩ (aB (by constructor <;> omega) (aB ⟨sa, by omega, by omega⟩ (aB (by constructor <;> omega) (aB (by constructor <;> omega) (aB (by constructor <;> omega) (aB (by constructor <;> omega) (aB (by omega) (aB (by omega) (aB (by constructor <;> omega) (aK h2 ?_))))))))))))
   have hm : nv e.1 < nv b * 2 ^ s := by rw [h5]; exact Nat.mod_lt _ hV
   have htk : nv (e.1.take b.length) = nv e.1 := by
    rw [aXu h4]; exact Nat.mod_eq_of_lt (Nat.lt_trans hm v1)
   have htr : dI (e.1.take b.length) = lb (nv e.1) := by rw [dI, htk]
   unfold sU
   rw [e1, ← hsI, htr]
   refine aB (by constructor <;> omega) (aB ⟨?_, hs2.1⟩ ?_)
   ·have := aC8.2 (Nat.lt_trans hm v1)
    show (lb (nv e.1)).length ≤ _
    omega
   ·unfold dO gR
    rw [dI, h6, vL, hs, h5, Nat.mul_div_mul_right _ _ (Nat.two_pow_pos s), Nat.mul_mod_mul_right, Nat.mul_div_cancel _ (Nat.two_pow_pos s)]
  ·rintro ⟨j, u, q⟩ h
   have h : QrI (a.length - b.length) b.length (nv b * 2 ^ s) (nv a * 2 ^ s) j u q := h
   have i0 := h.j0
   have i1 := h.j1
   have hul := h.ul
   have hql := h.ql
   show (∃ d', mE b j u q = _ ∧ _) ∨ ∃ e, mE b j u q = _ ∧ _
   unfold mE
   rw [e1, ← hsI, hLb]
   by_cases hj : 0 ≤ j
   ·left
    have hvl : (dD (lb (nv b * 2 ^ s)) (b.length : Int)).length = b.length := by rw [aKK (by omega), Int.toNat_natCast]
    have hvv : nv (dD (lb (nv b * 2 ^ s)) (b.length : Int)) = nv b * 2 ^ s := by rw [aGC, vL]
    have lv : Lm (dD (lb (nv b * 2 ^ s)) (b.length : Int)) := aNw (aS7 _)
    have htop : 9223372036854775808 ≤ (dD (lb (nv b * 2 ^ s)) (b.length : Int)).getD (b.length - 1) 0 := by
     have hp : 0 < 18446744073709551616 ^ (b.length - 1) := Nat.pow_pos (by decide)
     rw [rR lv, hvv, Nat.mod_eq_of_lt ((Nat.div_lt_iff_lt_mul hp).2 (by rw [← Nat.pow_succ', show (b.length - 1).succ = b.length from by omega]; exact v1))]
     exact (Nat.le_div_iff_mul_le hp).2 v2
    have hlt := h.lt
    rw [show (j + 1).toNat = j.toNat + 1 from by omega] at hlt
    obtain ⟨w, k1, k2, k3, k4⟩ := aMo (v := dD (lb (nv b * 2 ^ s)) (b.length : Int)) (u := u) (j := j.toNat) (un := ((j + (b.length : Int)) + 1 - j).toNat) lv h.lu (by rw [hvl]; exact hn2) (by rw [hvl]; omega) (by rw [hvl]; omega) (by omega) (by rw [hvl]; exact htop) (by rw [hvv]; exact hlt)
    rw [hvv] at k1 k4
    refine ⟨(j - 1, w, q.set j.toNat (nv u / (18446744073709551616 ^ j.toNat * (nv b * 2 ^ s)))), ?_, aV8 h hj k2 k3 hV k4, by simp only; omega⟩
    rw [if_pos hj]
    exact aB (by constructor <;> omega) (aB (by constructor <;> omega) (aB (by constructor <;> omega) (aK k1 (aB (by constructor <;> omega) (aB (by constructor <;> omega) rfl)))))
   ·right
    have hj1 : (j + 1).toNat = 0 := by omega
    have hlt := h.lt
    rw [hj1, Nat.pow_zero, Nat.one_mul] at hlt
    have hs4 := h.sum
    refine ⟨(u, q), by rw [if_neg hj], by simp only; omega, h.lu, ?_, ?_⟩
    ·simp only
     rw [← hs4, Nat.add_comm, Nat.add_mul_mod_self_right, Nat.mod_eq_of_lt hlt]
    ·simp only
     rw [← hs4, Nat.add_comm, Nat.add_mul_div_right _ _ hV, Nat.div_eq_of_lt hlt, Nat.zero_add]
  ·have ej : ((a.length : Int) - (b.length : Int) + 1).toNat = a.length - b.length + 1 := by omega
   refine ⟨by simp only; omega, by simp only; omega, ?_, aNw (aS7 _), ?_, aGz _, ?_, ⟨0, ?_⟩, ?_⟩
   ·simp only; rw [aKK (by omega)]; omega
   ·simp only; rw [List.length_replicate]; omega
   ·simp only
    rw [aGC, vL, ej]
    have k1 := kV la
    have k2 : 2 ^ s ≤ 2 ^ 63 := Nat.pow_le_pow_right (by decide) hs3
    refine Nat.lt_of_lt_of_le (Nat.mul_lt_mul_of_pos_right k1 (Nat.two_pow_pos s)) ?_
    refine Nat.le_trans (Nat.mul_le_mul_left _ k2) ?_
    refine Nat.le_trans ?_ (Nat.mul_le_mul_left _ v2)
    rw [Nat.mul_left_comm, ← Nat.pow_add, show a.length - b.length + 1 + (b.length - 1) = a.length from by omega, Nat.mul_comm]
    exact Nat.le_refl _
   ·simp only; rw [aGy, Nat.mul_zero]
   ·simp only; rw [aGy, Nat.zero_mul, Nat.zero_add, aGC, vL]
end Nu
end Go.Proofs
namespace Go.Proofs
open Go.Vc
set_option maxRecDepth 20000
namespace Nu
def aEg : PlR := ⟨[(0, .A [0, 1]), (1, .B [4])], []⟩
def aB7 : Ty := .pair (.sl (.u .u64)) (.pair (.i .i64) .unit)
noncomputable def wV : aI := ⟨aB7, .own 83 (.u .u64), fun x => yU x.1 x.2.1, fun x => dD x.1 x.2.1⟩
attribute [go_sem] wV aB7
noncomputable def aMp : aI := mSpec aB7 (.own 83 (.u .u64)) (fun x => vC x.1 x.2.1)
noncomputable def aFz : List (FuncId × aI) := [(165, cR)]
theorem aOF : bF Tryz.prog GL aFz := .cons pH (by kernel_rfl) (.nil)
theorem aGD : gam aFz 165 = some cR := rfl
attribute [go_sem] aEg aGD
set_option maxHeartbeats 4000000 in
theorem aMq : FOK Tryz.prog GL 220 aMp := by
 refine bD (bE aOF) mix Tryz.func220 rfl (by kernel_rfl) (by decide) aEg fun w0 S x Θ hw h hF => ?_
 obtain ⟨(a_0 : (List Nat)), (n_1 : Int), u⟩ := x
 simp only [bH, go_sem]
 replace h : sat (vC a_0 n_1) _ := h
 unfold vC at h
 refine aH h fun g0 h => ?_
 refine aH h fun g0 h => ?_
 obtain ⟨g0, h⟩ := aJ h
 obtain ⟨g1, h⟩ := aJ h
 repeat (refine ⟨by omega, ?_⟩)
 exact aG hF [.tmp 4] rfl rfl rfl (aA h) (by simp only [aV, go_sem])
theorem aMr : FOK Tryz.prog GL 220 wV := fD aMq (fun ⟨x0, x1, u⟩ ⟨w0, w1, wu⟩ hp => aKJ x0 w0 x1 w1 hp)
noncomputable def yX : zZ where
 D := Nat × Nat × (List Nat) × (List Nat) × ((Nat × (List Nat)))
 av := fun d => [.sub 0 1 d.1 d.2.1, .val (.sl (.u .u64)) d.2.2.1]
 hp := fun d => [.row 83 (.u .u64) d.2.2.2.1]
 m := 1
 pre := fun d => tT d.1 d.2.1 d.2.2.1 d.2.2.2.1 = some d.2.2.2.2
 out := fun d => (fun r : (Nat × (List Nat)) => .ret (.val (.u .u64) r.1) [.row 83 (.u .u64) (r.2)]) d.2.2.2.2
noncomputable def tU : List (FuncId × aI) := [(161, kF), (162, kE), (252, qE), (253, wT)]
theorem aHr : bF Tryz.prog GL tU := .cons aA5 (by kernel_rfl) (.nat aA2 (.cons aEf (by kernel_rfl) (.nat aMb (.nil))))
theorem aIu : gam tU 161 = some kF := rfl
attribute [go_sem] aIu
theorem aIv : gam tU 162 = some kE := rfl
attribute [go_sem] aIv
theorem aIw : gam tU 252 = some qE := rfl
attribute [go_sem] aIw
theorem aIx : gam tU 253 = some wT := rfl
attribute [go_sem] aIx
set_option maxHeartbeats 4000000 in
theorem aOG : GOK Tryz.prog GL 221 yX := by
 refine aC4 (bE aHr) Tryz.func221 rfl (by kernel_rfl) (fun _ => Nat.le_of_ble_eq_true rfl) fun c0 w0 d hw1 hw2 h hn => ?_
 have hF : vI ⟨Tryz.prog, EM tU, GM yX c0 d, w0, Tryz.f221.ntmps, []⟩ := ⟨bE aHr, mix⟩
 obtain ⟨(uo_0 : Nat), (un_0 : Nat), (v_1 : (List Nat)), (o0_2 : (List Nat)), r⟩ := d
 replace h : tT uo_0 un_0 v_1 o0_2 = some r := h
 have hw1 : AV.wfL [.sub 0 1 uo_0 un_0, .val (.sl (.u .u64)) v_1] := hw1
 simp only [AV.wfL, AV.wfV, Ty.wf, vX] at hw1
 show Tri _ _ _ [(0, .sub 0 1 uo_0 un_0), (1, .val (.sl (.u .u64)) v_1)] [.row 83 (.u .u64) o0_2]
 unfold tT at h
 refine aE (aD hF [0, 1] ?_)
 simp only [go_sem]
 refine aF (aE (aD hF [0, 1, 5] ?_))
 simp only [go_sem]
 refine aF (aE (aD hF [0, 1, 5, 6, 8] ?_))
 simp only [go_sem]
 refine aF (qC (D := Nat × Nat × Nat) (fun d => oF v_1 un_0 uo_0 o0_2 d.1 d.2.1 d.2.2 = some r) [1, 5] (fun d => [(0, .sub 0 1 uo_0 un_0), (6, .val (.u .u64) d.1), (7, .val (.u .u64) d.2.1), (8, .val (.u .u64) d.2.2)]) (fun d => [.inr (.row 83 (.u .u64) o0_2)]) ?_ ?_)
 ·refine aE (aD hF [0, 1, 5, 6, 8, 31] ?_)
  simp only [go_sem]
  obtain ⟨g0, h⟩ := aM h
  obtain ⟨g1, h⟩ := aM h
  obtain ⟨g2, h⟩ := aM h
  obtain ⟨g3, h⟩ := aM h
  try simp only [I64, I32] at g2
  repeat (refine ⟨by first | with_reducible assumption | omega | (intros; first | assumption | omega) | (simp only [go_sem] at *; first | assumption | omega) | decide, ?_⟩)
  refine aF (bR rfl (fun hc => ?_) (fun hc => ?_))
  ·try simp only [go_sem] at hc
   have h := gD (by first | exact hc | omega | (simpa using hc) | (simp at hc ⊢; omega)) h
   refine aD hF [0, 1, 5, 6, 7, 8] ?_
   simp only [go_sem]
   obtain ⟨g0, h⟩ := aM h
   obtain ⟨g1, h⟩ := aM h
   obtain ⟨g2, h⟩ := aM h
   obtain ⟨g3, h⟩ := aM h
   obtain ⟨g4, h⟩ := aM h
   obtain ⟨g5, h⟩ := aM h
   obtain ⟨g6, h⟩ := aM h
   obtain ⟨g7, h⟩ := aM h
   try simp only [I64, I32] at g2
   try simp only [I64, I32] at g5
   repeat (refine ⟨by first | with_reducible assumption | omega | (intros; first | assumption | omega) | (simp only [go_sem] at *; first | assumption | omega) | decide, ?_⟩)
   refine bI (aP ((((jW (o0_2.getD (uo_0 + (v_1.length)) (0 : Nat)) (o0_2.getD (uo_0 + (((v_1.length : Int) - (1 : Int)).toNat)) (0 : Nat)) (v_1.getD (((v_1.length : Int) - (1 : Int)).toNat) (0 : Nat))).1), (((jW (o0_2.getD (uo_0 + (v_1.length)) (0 : Nat)) (o0_2.getD (uo_0 + (((v_1.length : Int) - (1 : Int)).toNat)) (0 : Nat)) (v_1.getD (((v_1.length : Int) - (1 : Int)).toNat) (0 : Nat))).2).1), (0 : Nat))) h rfl ?_)
   ·(try simp only [kU, hZ, true_or, and_self, go_sem]) <;> (repeat' apply And.intro) <;> first | rfl | (left; rfl) | (right; rfl) | (left; simp only [go_sem]; done) | (right; simp only [go_sem]; done) | (simp; done) | (simp only [*]; done) | omega
  ·try simp only [go_sem] at hc
   have h := gE (by first | exact hc | omega | (simpa using hc) | (simp at hc ⊢; omega)) h
   refine aD hF [0, 1, 5, 6, 7, 8] ?_
   simp only [go_sem]
   obtain ⟨g0, h⟩ := aM h
   obtain ⟨g1, h⟩ := aM h
   obtain ⟨g2, h⟩ := aM h
   obtain ⟨g3, h⟩ := aM h
   obtain ⟨g4, h⟩ := aM h
   obtain ⟨g5, h⟩ := aM h
   try simp only [I64, I32] at g0
   try simp only [I64, I32] at g3
   repeat (refine ⟨by first | with_reducible assumption | omega | (intros; first | assumption | omega) | (simp only [go_sem] at *; first | assumption | omega) | decide, ?_⟩)
   refine bI (aP (((18446744073709551615 : Nat), ((gA (o0_2.getD (uo_0 + (((v_1.length : Int) - (1 : Int)).toNat)) (0 : Nat)) (v_1.getD (((v_1.length : Int) - (1 : Int)).toNat) (0 : Nat)) (0 : Nat)).1), (((gA (o0_2.getD (uo_0 + (((v_1.length : Int) - (1 : Int)).toNat)) (0 : Nat)) (v_1.getD (((v_1.length : Int) - (1 : Int)).toNat) (0 : Nat)) (0 : Nat)).2).1))) h rfl ?_)
   ·(try simp only [kU, hZ, true_or, and_self, go_sem]) <;> (repeat' apply And.intro) <;> first | rfl | (left; rfl) | (right; rfl) | (left; simp only [go_sem]; done) | (right; simp only [go_sem]; done) | (simp; done) | (simp only [*]; done) | omega
 ·rintro ⟨x_4, rest_5, over_6⟩ h
  try dsimp only at h
  simp only [go_sem]
  unfold oF at h
  refine qC (D := Nat) (fun d => rE v_1 un_0 uo_0 o0_2 d = some r) [1, 5] (fun d => [(0, .sub 0 1 uo_0 un_0), (6, .val (.u .u64) d)]) (fun d => [.inr (.row 83 (.u .u64) o0_2)]) ?_ ?_
  ·refine dN (wD (D := Nat × Nat × Nat) [1, 5] (fun d => [(0, .sub 0 1 uo_0 un_0), (6, .val (.u .u64) d.1), (7, .val (.u .u64) d.2.1), (8, .val (.u .u64) d.2.2)]) (fun d => [.inr (.row 83 (.u .u64) o0_2)]) h ?_ ?_ ?_)
   ·first | rfl | (simp only [go_sem]; done)
   ·(try simp only [kU, hZ, true_or, and_self, go_sem]) <;> (repeat' apply And.intro) <;> first | rfl | (left; rfl) | (right; rfl) | (left; simp only [go_sem]; done) | (right; simp only [go_sem]; done) | (simp; done) | (simp only [*]; done) | omega
   rintro ⟨x_52, rest_53, over_54⟩ s6 h hs6
   simp only [go_sem]
   try dsimp only at h
   unfold lC at h
   refine aE (aE (aD hF [0, 1, 5, 6, 7, 65] ?_))
   simp only [go_sem]
   refine aF (bR rfl (fun hc => ?_) (fun hc => ?_))
   ·try simp only [go_sem] at hc
    have h := gD (by first | exact hc | omega | (simpa using hc) | (simp at hc ⊢; omega)) h
    refine cM (aF (dN (aE (aD hF [0, 1, 5, 6, 7, 9, 10] ?_))))
    simp only [go_sem]
    obtain ⟨g0, h⟩ := aM h
    obtain ⟨g1, h⟩ := aM h
    try simp only [I64, I32] at g0
    repeat (refine ⟨by first | with_reducible assumption | omega | (intros; first | assumption | omega) | (simp only [go_sem] at *; first | assumption | omega) | decide, ?_⟩)
    refine aF (aE (aE (aD hF [0, 1, 5, 6, 7, 92] ?_)))
    simp only [go_sem]
    obtain ⟨g0, h⟩ := aM h
    obtain ⟨g1, h⟩ := aM h
    try simp only [I64, I32] at g0
    repeat (refine ⟨by first | with_reducible assumption | omega | (intros; first | assumption | omega) | (simp only [go_sem] at *; first | assumption | omega) | (intro q0 q1; (try have e0 := g0 (by first | exact q0 | omega | (simpa using q0)) (by first | exact q1 | omega | (simpa using q1))); (try have e1 := g1 (by first | exact q0 | omega | (simpa using q0)) (by first | exact q1 | omega | (simpa using q1))); first | assumption | omega) | (rintro ⟨q0, q1⟩; (try have e0 := g0 (by first | exact q0 | omega | (simpa using q0)) (by first | exact q1 | omega | (simpa using q1))); (try have e1 := g1 (by first | exact q0 | omega | (simpa using q0)) (by first | exact q1 | omega | (simpa using q1))); first | assumption | omega) | decide, ?_⟩)
    refine aF (bR rfl (fun hc => ?_) (fun hc => ?_))
    ·try simp only [go_sem] at hc
     have h := gD (by first | exact hc | omega | (simpa using hc) | (simp at hc ⊢; omega)) h
     obtain rfl := Option.some.inj h
     dsimp only [uT] at hs6
     have h := hs6
     try dsimp only at h
     refine kT (bZ (iN (by decide) (bZ (cZ (bI (aP (x_52) h rfl ?_))))))
     ·(try simp only [kU, hZ, true_or, and_self, go_sem]) <;> (repeat' apply And.intro) <;> first | rfl | (left; rfl) | (right; rfl) | (left; simp only [go_sem]; done) | (right; simp only [go_sem]; done) | (simp; done) | (simp only [*]; done) | omega
    ·try simp only [go_sem] at hc
     have h := gE (by first | exact hc | omega | (simpa using hc) | (simp at hc ⊢; omega)) h
     refine cM (aF (aE (aD hF [0, 1, 5, 6, 7] ?_)))
     simp only [go_sem]
     refine aF (aD hF [0, 1, 5, 6, 7, 8] ?_)
     simp only [go_sem]
     obtain ⟨g0, h⟩ := aM h
     obtain ⟨g1, h⟩ := aM h
     obtain ⟨g2, h⟩ := aM h
     try simp only [I64, I32] at g0
     repeat (refine ⟨by first | with_reducible assumption | omega | (intros; first | assumption | omega) | (simp only [go_sem] at *; first | assumption | omega) | decide, ?_⟩)
     obtain rfl := Option.some.inj h
     dsimp only [uT] at hs6
     refine eT (bI (aP (((pW .u64 x_52 (1 : Nat)), ((gA rest_53 (v_1.getD (((v_1.length : Int) - (1 : Int)).toNat) (0 : Nat)) (0 : Nat)).1), (((gA rest_53 (v_1.getD (((v_1.length : Int) - (1 : Int)).toNat) (0 : Nat)) (0 : Nat)).2).1))) hs6 rfl ?_))
     ·(try simp only [kU, hZ, true_or, and_self, go_sem]) <;> (repeat' apply And.intro) <;> first | rfl | (left; rfl) | (right; rfl) | (left; simp only [go_sem]; done) | (right; simp only [go_sem]; done) | (simp; done) | (simp only [*]; done) | omega
   ·try simp only [go_sem] at hc
    have h := gE (by first | exact hc | omega | (simpa using hc) | (simp at hc ⊢; omega)) h
    obtain rfl := Option.some.inj h
    dsimp only [uT] at hs6
    have h := hs6
    try dsimp only at h
    refine kT (bZ (bZ (cZ (bI (aP (x_52) h rfl ?_)))))
    ·(try simp only [kU, hZ, true_or, and_self, go_sem]) <;> (repeat' apply And.intro) <;> first | rfl | (left; rfl) | (right; rfl) | (left; simp only [go_sem]; done) | (right; simp only [go_sem]; done) | (simp; done) | (simp only [*]; done) | omega
  ·rintro x_13 h
   try dsimp only at h
   simp only [go_sem]
   unfold rE at h
   refine aE (aD hF [0, 1, 5, 6, 11, 12] ?_)
   simp only [go_sem]
   refine aF (qC (D := Nat × Nat × (List Nat)) (fun d => vE v_1 un_0 uo_0 x_13 d.1 d.2.1 d.2.2 = some r) [1, 5, 6] (fun d => [(0, .sub 0 1 uo_0 un_0), (11, .val (.u .u64) d.1), (12, .val (.u .u64) d.2.1)]) (fun d => [.inr (.row 83 (.u .u64) d.2.2)]) ?_ ?_)
   ·refine aE (aD hF [0, 1, 5, 6, 11, 12, 105, 106, 107] ?_)
    simp only [go_sem]
    refine aF (dN (wD (D := Nat × Nat × Int × (List Nat)) [1, 5, 6, 105, 106] (fun d => [(0, .sub 0 1 uo_0 un_0), (11, .val (.u .u64) d.1), (12, .val (.u .u64) d.2.1), (107, .val (.i .i64) d.2.2.1)]) (fun d => [.inr (.row 83 (.u .u64) d.2.2.2)]) h ?_ ?_ ?_))
    ·first | rfl | (simp only [go_sem]; done)
    ·(try simp only [kU, hZ, true_or, and_self, go_sem]) <;> (repeat' apply And.intro) <;> first | rfl | (left; rfl) | (right; rfl) | (left; simp only [go_sem]; done) | (right; simp only [go_sem]; done) | (simp; done) | (simp only [*]; done) | omega
    rintro ⟨carry_41, borrow_42, x107_43, u_44⟩ s13 h hs13
    simp only [go_sem]
    try dsimp only at h
    unfold jI at h
    refine aE (aD hF [0, 1, 5, 6, 11, 12, 105, 106, 107, 108] ?_)
    simp only [go_sem]
    refine aF (aE (bR rfl (fun hc => ?_) (fun hc => ?_)))
    ·try simp only [go_sem] at hc
     have h := gD (by first | exact hc | omega | (simpa using hc) | (simp at hc ⊢; omega)) h
     refine cM (aF (aE (dN (aE (aD hF [0, 1, 5, 6, 11, 12, 13, 14, 105, 106, 107] ?_)))))
     simp only [go_sem]
     obtain ⟨g0, h⟩ := aM h
     repeat (refine ⟨by first | with_reducible assumption | omega | (intros; first | assumption | omega) | (simp only [go_sem] at *; first | assumption | omega) | decide, ?_⟩)
     refine aF (aE (aD hF [0, 1, 5, 6, 11, 12, 13, 15, 16, 105, 106, 107] ?_))
     simp only [go_sem]
     refine aF (aE (aD hF [0, 1, 5, 6, 11, 12, 13, 15, 16, 105, 106, 107] ?_))
     simp only [go_sem]
     refine aF (aE (aD hF [0, 1, 5, 6, 12, 13, 15, 16, 17, 105, 106, 107] ?_))
     simp only [go_sem]
     obtain ⟨g0, h⟩ := aM h
     repeat (refine ⟨by first | with_reducible assumption | omega | (intros; first | assumption | omega) | (simp only [go_sem] at *; first | assumption | omega) | decide, ?_⟩)
     refine aF (aE (aD hF [0, 1, 5, 6, 11, 12, 13, 16, 105, 106, 107] ?_))
     simp only [go_sem]
     refine aF (cK hF [0, 1, 5, 6, 11, 12, 105, 106, 107] ?_)
     simp only [go_sem]
     obtain ⟨g0, h⟩ := aM h
     obtain ⟨g1, h⟩ := aM h
     repeat (refine ⟨by first | with_reducible assumption | omega | (intros; first | assumption | omega) | (simp only [go_sem] at *; first | assumption | omega) | decide, ?_⟩)
     obtain ⟨g0, h⟩ := aM h
     repeat (refine ⟨by first | with_reducible assumption | omega | (intros; first | assumption | omega) | (simp only [go_sem] at *; first | assumption | omega) | decide, ?_⟩)
     obtain ⟨g0, h⟩ := aM h
     obtain ⟨g1, h⟩ := aM h
     repeat (refine ⟨by first | with_reducible assumption | omega | (intros; first | assumption | omega) | (simp only [go_sem] at *; first | assumption | omega) | decide, ?_⟩)
     refine eT (aF (aD hF [0, 1, 5, 6, 11, 12, 105, 106, 107] ?_))
     simp only [go_sem]
     obtain ⟨g0, h⟩ := aM h
     try simp only [I64, I32] at g0
     repeat (refine ⟨by first | with_reducible assumption | omega | (intros; first | assumption | omega) | (simp only [go_sem] at *; first | assumption | omega) | decide, ?_⟩)
     obtain rfl := Option.some.inj h
     dsimp only [uT] at hs13
     refine bI (aP ((((((bG x_13 (v_1.getD (x107_43.toNat) (0 : Nat))).1) + (((gA (((bG x_13 (v_1.getD (x107_43.toNat) (0 : Nat))).2).1) carry_41 (0 : Nat)).2).1)) % 18446744073709551616), (((aAb (u_44.getD (uo_0 + (x107_43.toNat)) (0 : Nat)) ((gA (((bG x_13 (v_1.getD (x107_43.toNat) (0 : Nat))).2).1) carry_41 (0 : Nat)).1) borrow_42).2).1), (x107_43 + (1 : Int)), (u_44.set (uo_0 + (x107_43.toNat)) ((aAb (u_44.getD (uo_0 + (x107_43.toNat)) (0 : Nat)) ((gA (((bG x_13 (v_1.getD (x107_43.toNat) (0 : Nat))).2).1) carry_41 (0 : Nat)).1) borrow_42).1)))) hs13 rfl ?_)
     ·(try simp only [kU, hZ, true_or, and_self, go_sem]) <;> (repeat' apply And.intro) <;> first | rfl | (left; rfl) | (right; rfl) | (left; simp only [go_sem]; done) | (right; simp only [go_sem]; done) | (simp; done) | (simp only [*]; done) | omega
    ·try simp only [go_sem] at hc
     have h := gE (by first | exact hc | omega | (simpa using hc) | (simp at hc ⊢; omega)) h
     obtain rfl := Option.some.inj h
     dsimp only [uT] at hs13
     have h := hs13
     try dsimp only at h
     refine kT (bZ (bZ (cZ (bI (aP ((carry_41, borrow_42, u_44)) h rfl ?_)))))
     ·(try simp only [kU, hZ, true_or, and_self, go_sem]) <;> (repeat' apply And.intro) <;> first | rfl | (left; rfl) | (right; rfl) | (left; simp only [go_sem]; done) | (right; simp only [go_sem]; done) | (simp; done) | (simp only [*]; done) | omega
   ·rintro ⟨carry_22, borrow_23, u_24⟩ h
    try dsimp only at h
    simp only [go_sem]
    unfold vE at h
    refine aE (aE (cK hF [0, 1, 5, 6, 12] ?_))
    simp only [go_sem]
    obtain ⟨g0, h⟩ := aM h
    obtain ⟨g1, h⟩ := aM h
    repeat (refine ⟨by first | with_reducible assumption | omega | (intros; first | assumption | omega) | (simp only [go_sem] at *; first | assumption | omega) | decide, ?_⟩)
    obtain ⟨g0, h⟩ := aM h
    repeat (refine ⟨by first | with_reducible assumption | omega | (intros; first | assumption | omega) | (simp only [go_sem] at *; first | assumption | omega) | decide, ?_⟩)
    obtain ⟨g0, h⟩ := aM h
    obtain ⟨g1, h⟩ := aM h
    repeat (refine ⟨by first | with_reducible assumption | omega | (intros; first | assumption | omega) | (simp only [go_sem] at *; first | assumption | omega) | decide, ?_⟩)
    refine aF (aE (aD hF [0, 1, 5, 6, 155] ?_))
    simp only [go_sem]
    refine aF (bR rfl (fun hc => ?_) (fun hc => ?_))
    ·try simp only [go_sem] at hc
     have h := gD (by first | exact hc | omega | (simpa using hc) | (simp at hc ⊢; omega)) h
     refine aE (aD hF [4] ?_)
     simp only [go_sem]
     obtain rfl := Option.some.inj h
     refine aF (fC (cE (aBT hF [.tmp 4] rfl rfl rfl rfl rfl rfl ?_)))
     (try simp only [aV, aN8, aKl, hZ, wA, AV.isAgg, go_sem]) <;> first | trivial | rfl | (simp; done)
    ·try simp only [go_sem] at hc
     have h := gE (by first | exact hc | omega | (simpa using hc) | (simp at hc ⊢; omega)) h
     refine cM (aF (aE (aD hF [0, 1, 5, 6, 11] ?_)))
     simp only [go_sem]
     refine aF (qC (D := Nat × (List Nat)) (fun d => vD v_1 un_0 uo_0 x_13 d.1 d.2 = some r) [5, 6] (fun d => [(0, .sub 0 1 uo_0 un_0), (11, .val (.u .u64) d.1)]) (fun d => [.inr (.row 83 (.u .u64) d.2)]) ?_ ?_)
     ·refine aE (aD hF [0, 5, 6, 11, 157, 158, 159] ?_)
      simp only [go_sem]
      refine aF (dN (wD (D := Nat × Int × (List Nat)) [5, 6, 157, 158] (fun d => [(0, .sub 0 1 uo_0 un_0), (11, .val (.u .u64) d.1), (159, .val (.i .i64) d.2.1)]) (fun d => [.inr (.row 83 (.u .u64) d.2.2)]) h ?_ ?_ ?_))
      ·first | rfl | (simp only [go_sem]; done)
      ·(try simp only [kU, hZ, true_or, and_self, go_sem]) <;> (repeat' apply And.intro) <;> first | rfl | (left; rfl) | (right; rfl) | (left; simp only [go_sem]; done) | (right; simp only [go_sem]; done) | (simp; done) | (simp only [*]; done) | omega
      rintro ⟨carry_33, x159_34, u_35⟩ s26 h hs26
      simp only [go_sem]
      try dsimp only at h
      unfold jH at h
      refine aE (aD hF [0, 5, 6, 11, 157, 158, 159, 160] ?_)
      simp only [go_sem]
      refine aF (aE (bR rfl (fun hc => ?_) (fun hc => ?_)))
      ·try simp only [go_sem] at hc
       have h := gD (by first | exact hc | omega | (simpa using hc) | (simp at hc ⊢; omega)) h
       refine cM (aF (aE (dN (aE (aD hF [0, 5, 6, 11, 18, 19, 157, 158, 159] ?_)))))
       simp only [go_sem]
       obtain ⟨g0, h⟩ := aM h
       repeat (refine ⟨by first | with_reducible assumption | omega | (intros; first | assumption | omega) | (simp only [go_sem] at *; first | assumption | omega) | decide, ?_⟩)
       refine aF (cK hF [0, 5, 6, 11, 157, 158, 159] ?_)
       simp only [go_sem]
       obtain ⟨g0, h⟩ := aM h
       obtain ⟨g1, h⟩ := aM h
       repeat (refine ⟨by first | with_reducible assumption | omega | (intros; first | assumption | omega) | (simp only [go_sem] at *; first | assumption | omega) | decide, ?_⟩)
       obtain ⟨g0, h⟩ := aM h
       repeat (refine ⟨by first | with_reducible assumption | omega | (intros; first | assumption | omega) | (simp only [go_sem] at *; first | assumption | omega) | decide, ?_⟩)
       obtain ⟨g0, h⟩ := aM h
       obtain ⟨g1, h⟩ := aM h
       repeat (refine ⟨by first | with_reducible assumption | omega | (intros; first | assumption | omega) | (simp only [go_sem] at *; first | assumption | omega) | decide, ?_⟩)
       refine eT (aF (aD hF [0, 5, 6, 11, 157, 158, 159] ?_))
       simp only [go_sem]
       obtain ⟨g0, h⟩ := aM h
       try simp only [I64, I32] at g0
       repeat (refine ⟨by first | with_reducible assumption | omega | (intros; first | assumption | omega) | (simp only [go_sem] at *; first | assumption | omega) | decide, ?_⟩)
       obtain rfl := Option.some.inj h
       dsimp only [uT] at hs26
       refine bI (aP (((((gA (u_35.getD (uo_0 + (x159_34.toNat)) (0 : Nat)) (v_1.getD (x159_34.toNat) (0 : Nat)) carry_33).2).1), (x159_34 + (1 : Int)), (u_35.set (uo_0 + (x159_34.toNat)) ((gA (u_35.getD (uo_0 + (x159_34.toNat)) (0 : Nat)) (v_1.getD (x159_34.toNat) (0 : Nat)) carry_33).1)))) hs26 rfl ?_)
       ·(try simp only [kU, hZ, true_or, and_self, go_sem]) <;> (repeat' apply And.intro) <;> first | rfl | (left; rfl) | (right; rfl) | (left; simp only [go_sem]; done) | (right; simp only [go_sem]; done) | (simp; done) | (simp only [*]; done) | omega
      ·try simp only [go_sem] at hc
       have h := gE (by first | exact hc | omega | (simpa using hc) | (simp at hc ⊢; omega)) h
       obtain rfl := Option.some.inj h
       dsimp only [uT] at hs26
       have h := hs26
       try dsimp only at h
       refine kT (bZ (bZ (cZ (bI (aP ((carry_33, u_35)) h rfl ?_)))))
       ·(try simp only [kU, hZ, true_or, and_self, go_sem]) <;> (repeat' apply And.intro) <;> first | rfl | (left; rfl) | (right; rfl) | (left; simp only [go_sem]; done) | (right; simp only [go_sem]; done) | (simp; done) | (simp only [*]; done) | omega
     ·rintro ⟨carry_31, u_32⟩ h
      try dsimp only at h
      simp only [go_sem]
      unfold vD at h
      refine aE (cK hF [6] ?_)
      simp only [go_sem]
      obtain ⟨g0, h⟩ := aM h
      obtain ⟨g1, h⟩ := aM h
      repeat (refine ⟨by first | with_reducible assumption | omega | (intros; first | assumption | omega) | (simp only [go_sem] at *; first | assumption | omega) | decide, ?_⟩)
      obtain ⟨g0, h⟩ := aM h
      obtain ⟨g1, h⟩ := aM h
      repeat (refine ⟨by first | with_reducible assumption | omega | (intros; first | assumption | omega) | (simp only [go_sem] at *; first | assumption | omega) | decide, ?_⟩)
      refine aF (aE (aD hF [4] ?_))
      simp only [go_sem]
      obtain rfl := Option.some.inj h
      refine aF (fC (aBT hF [.tmp 4] rfl rfl rfl rfl rfl rfl ?_))
      (try simp only [aV, aN8, aKl, hZ, wA, AV.isAgg, go_sem]) <;> first | trivial | rfl | (simp; done)
attribute [go_sem] yX
end Nu
end Go.Proofs
namespace Go.Proofs
open Go.Vc
set_option maxRecDepth 20000
namespace Nu
def vF : Ty := .pair (.sl (.u .u64)) (.pair (.sl (.u .u64)) .unit)
noncomputable def wW : aI := ⟨vF, .tup (.pair (.sl (.u .u64)) (.pair (.sl (.u .u64)) .unit)), fun x => yV x.1 x.2.1, fun x => dO x.1 x.2.1⟩
attribute [go_sem] wW vF
noncomputable def aMs : aI := mSpec vF (.tup (.pair (.sl (.u .u64)) (.pair (.sl (.u .u64)) .unit))) (fun x => yW x.1 x.2.1)
noncomputable def iI : List (FuncId × aI) := [(122, rS), (163, fL), (165, cR), (188, dC), (219, yT), (220, wV), (95, oY), (97, rU)]
theorem aFA : bF Tryz.prog GL iI := .cons aFr (by kernel_rfl) (.cons tS (by kernel_rfl) (.cons pH (by kernel_rfl) (.cons pK (by kernel_rfl) (.cons aOE (by kernel_rfl) (.cons aMr (by kernel_rfl) (.cons aDf (by kernel_rfl) (.cons aFw (by kernel_rfl) (.nil))))))))
theorem aGE : gam iI 122 = some rS := rfl
attribute [go_sem] aGE
theorem aGF : gam iI 163 = some fL := rfl
attribute [go_sem] aGF
theorem aGG : gam iI 165 = some cR := rfl
attribute [go_sem] aGG
theorem aGH : gam iI 188 = some dC := rfl
attribute [go_sem] aGH
theorem aGI : gam iI 219 = some yT := rfl
attribute [go_sem] aGI
theorem aGJ : gam iI 220 = some wV := rfl
attribute [go_sem] aGJ
theorem aIy : gam iI 95 = some oY := rfl
attribute [go_sem] aIy
theorem aIz : gam iI 97 = some rU := rfl
attribute [go_sem] aIz
set_option maxHeartbeats 4000000 in
theorem aMt : FOK Tryz.prog GL 166 aMs := by
 refine wE (bE aFA) Tryz.func166 rfl (by kernel_rfl) (by decide) fun w0 S x r hw h => ?_
 have hF : vI (fr Tryz.prog (EM iI) S w0 Tryz.f166.ntmps) := ⟨bE aFA, mix⟩
 obtain ⟨(a_0 : (List Nat)), (b_1 : (List Nat)), u⟩ := x
 simp only [vF, Ty.wf, vX] at hw
 simp only [bH, vF]
 try dsimp only at h
 unfold yW at h
 refine aE (aD hF [0, 1] ?_)
 simp only [go_sem]
 refine aF (aE (aE (aD hF [0, 1, 15] ?_)))
 simp only [go_sem]
 obtain ⟨g0, h⟩ := aM h
 repeat (refine ⟨by first | with_reducible assumption | omega | (intros; first | assumption | omega) | (simp only [go_sem] at *; first | assumption | omega) | decide, ?_⟩)
 refine aF (bR rfl (fun hc => ?_) (fun hc => ?_))
 ·try simp only [go_sem] at hc
  have h := gD (by first | exact hc | omega | (simpa using hc) | (simp at hc ⊢; omega)) h
  refine aE (cK hF [4, 5] ?_)
  simp only [go_sem]
  obtain ⟨g0, h⟩ := aM h
  repeat (refine ⟨by first | with_reducible assumption | omega | (intros; first | assumption | omega) | (simp only [go_sem] at *; first | assumption | omega) | decide, ?_⟩)
  obtain rfl := Option.some.inj h
  refine aF (fC (cE (gL hF [.tmp 4, .tmp 5] rfl rfl rfl ?_)))
  (try simp only [oE, aV, go_sem]) <;> first | rfl | (simp; done)
 ·try simp only [go_sem] at hc
  have h := gE (by first | exact hc | omega | (simpa using hc) | (simp at hc ⊢; omega)) h
  refine cM (aF (aE (aE (aD hF [0, 1, 20] ?_))))
  simp only [go_sem]
  refine aF (bR rfl (fun hc => ?_) (fun hc => ?_))
  ·try simp only [go_sem] at hc
   have h := gD (by first | exact hc | omega | (simpa using hc) | (simp at hc ⊢; omega)) h
   refine aE (aD hF [4, 5] ?_)
   simp only [go_sem]
   obtain ⟨g0, h⟩ := aM h
   obtain ⟨g1, h⟩ := aM h
   repeat (refine ⟨by first | with_reducible assumption | omega | (intros; first | assumption | omega) | (simp only [go_sem] at *; first | assumption | omega) | decide, ?_⟩)
   obtain rfl := Option.some.inj h
   refine aF (fC (cE (gL hF [.tmp 4, .tmp 5] rfl rfl rfl ?_)))
   (try simp only [oE, aV, go_sem]) <;> first | rfl | (simp; done)
  ·try simp only [go_sem] at hc
   have h := gE (by first | exact hc | omega | (simpa using hc) | (simp at hc ⊢; omega)) h
   refine cM (aF (aE (aD hF [0, 1, 6, 7] ?_)))
   simp only [go_sem]
   obtain ⟨g0, h⟩ := aM h
   obtain ⟨g1, h⟩ := aM h
   try simp only [I64, I32] at g0
   repeat (refine ⟨by first | with_reducible assumption | omega | (intros; first | assumption | omega) | (simp only [go_sem] at *; first | assumption | omega) | decide, ?_⟩)
   refine aF (aE (cK hF [0, 6, 7, 8, 9] ?_))
   simp only [go_sem]
   obtain ⟨g0, h⟩ := aM h
   repeat (refine ⟨by first | with_reducible assumption | omega | (intros; first | assumption | omega) | (simp only [go_sem] at *; first | assumption | omega) | decide, ?_⟩)
   obtain ⟨g0, h⟩ := aM h
   repeat (refine ⟨by first | with_reducible assumption | omega | (intros; first | assumption | omega) | (simp only [go_sem] at *; first | assumption | omega) | decide, ?_⟩)
   obtain ⟨g0, h⟩ := aM h
   repeat (refine ⟨by first | with_reducible assumption | omega | (intros; first | assumption | omega) | (simp only [go_sem] at *; first | assumption | omega) | decide, ?_⟩)
   obtain ⟨g0, h⟩ := aM h
   try simp only [I64, I32] at g0
   repeat (refine ⟨by first | with_reducible assumption | omega | (intros; first | assumption | omega) | (simp only [go_sem] at *; first | assumption | omega) | decide, ?_⟩)
   obtain ⟨g0, h⟩ := aM h
   repeat (refine ⟨by first | with_reducible assumption | omega | (intros; first | assumption | omega) | (simp only [go_sem] at *; first | assumption | omega) | decide, ?_⟩)
   refine aF (aE (cK hF [0, 6, 7, 8, 9, 10] ?_))
   simp only [go_sem]
   obtain ⟨g0, h⟩ := aM h
   try simp only [I64, I32] at g0
   repeat (refine ⟨by first | with_reducible assumption | omega | (intros; first | assumption | omega) | (simp only [go_sem] at *; first | assumption | omega) | decide, ?_⟩)
   obtain ⟨g0, h⟩ := aM h
   try simp only [I64, I32] at g0
   repeat (refine ⟨by first | with_reducible assumption | omega | (intros; first | assumption | omega) | (simp only [go_sem] at *; first | assumption | omega) | decide, ?_⟩)
   obtain ⟨g0, h⟩ := aM h
   obtain ⟨g1, h⟩ := aM h
   repeat (refine ⟨by first | with_reducible assumption | omega | (intros; first | assumption | omega) | (simp only [go_sem] at *; first | assumption | omega) | decide, ?_⟩)
   refine aF (qC (D := (List Nat) × (List Nat)) (fun d => sU b_1 d.1 d.2 = some r) [6, 7] (fun d => [(9, .own 0), (10, .own 1)]) (fun d => [.inr (.row 83 (.u .u64) d.1), .inr (.row 83 (.u .u64) d.2)]) ?_ ?_)
   ·refine aE (aD hF [6, 7, 8, 9, 10, 11] ?_)
    simp only [go_sem]
    obtain ⟨g0, h⟩ := aM h
    try simp only [I64, I32] at g0
    repeat (refine ⟨by first | with_reducible assumption | omega | (intros; first | assumption | omega) | (simp only [go_sem] at *; first | assumption | omega) | decide, ?_⟩)
    refine aF (dN (aEE 0 ?_))
    simp only [go_sem]
    refine aN5 [1, 2] rfl rfl ?_
    simp only [ren, kK, yP, posOf, nD, go_sem]
    refine wD (D := Int × (List Nat) × (List Nat)) [6, 7, 8] (fun d => [(9, .own 0), (10, .own 1), (11, .val (.i .i64) d.1)]) (fun d => [.inr (.row 83 (.u .u64) d.2.1), .inr (.row 83 (.u .u64) d.2.2)]) h ?_ ?_ ?_
    ·first | rfl | (simp only [go_sem]; done)
    ·(try simp only [kU, hZ, true_or, and_self, go_sem]) <;> (repeat' apply And.intro) <;> first | rfl | (left; rfl) | (right; rfl) | (left; simp only [go_sem]; done) | (right; simp only [go_sem]; done) | (simp; done) | (simp only [*]; done) | omega
    rintro ⟨j_14, u_15, q_16⟩ s9 h hs9
    simp only [go_sem]
    try dsimp only at h
    unfold mE at h
    refine aE (aE (aD hF [6, 7, 8, 9, 10, 11, 60] ?_))
    simp only [go_sem]
    refine aF (bR rfl (fun hc => ?_) (fun hc => ?_))
    ·try simp only [go_sem] at hc
     have h := gD (by first | exact hc | omega | (simpa using hc) | (simp at hc ⊢; omega)) h
     obtain ⟨g0, h⟩ := aM h
     try simp only [I64, I32] at g0
     obtain ⟨g1, h⟩ := aM h
     try simp only [I64, I32] at g1
     obtain ⟨g2, h⟩ := aM h
     obtain ⟨r_24, he1, h⟩ := bind_some h
     try dsimp only at h
     obtain ⟨g3, h⟩ := aM h
     refine cM (aF (aE (dN (dU hF (jV (l := [(221, ⟨yX, [0], ((j_14.toNat), ((((j_14 + (b_1.length : Int)) + (1 : Int)) - j_14).toNat), (dD (cF b_1 (aC (b_1.getD (((b_1.length : Int) - (1 : Int)).toNat) (0 : Nat)))) (b_1.length : Int)), u_15, r_24)⟩)]) (.cons aOG (by kernel_rfl) (.nil))) [6, 7, 8, 9, 10, 11] [71] ?_))))
     simp only [go_sem]
     repeat (refine ⟨by first | with_reducible assumption | omega | (intros; first | assumption | omega) | (simp only [go_sem] at *; first | assumption | omega) | decide, ?_⟩)
     refine eT (aF (aD hF [6, 7, 8, 9, 10, 11] ?_))
     simp only [go_sem]
     obtain ⟨g0, h⟩ := aM h
     try simp only [I64, I32] at g0
     repeat (refine ⟨by first | with_reducible assumption | omega | (intros; first | assumption | omega) | (simp only [go_sem] at *; first | assumption | omega) | decide, ?_⟩)
     obtain rfl := Option.some.inj h
     dsimp only [uT] at hs9
     refine bI (aP (((j_14 - (1 : Int)), (r_24.2), (q_16.set (j_14.toNat) (r_24.1)))) hs9 rfl ?_)
     ·(try simp only [kU, hZ, true_or, and_self, go_sem]) <;> (repeat' apply And.intro) <;> first | rfl | (left; rfl) | (right; rfl) | (left; simp only [go_sem]; done) | (right; simp only [go_sem]; done) | (simp; done) | (simp only [*]; done) | omega
    ·try simp only [go_sem] at hc
     have h := gE (by first | exact hc | omega | (simpa using hc) | (simp at hc ⊢; omega)) h
     obtain rfl := Option.some.inj h
     dsimp only [uT] at hs9
     have h := hs9
     try dsimp only at h
     refine kT (bZ (bZ (cZ (bI (aP ((u_15, q_16)) h rfl ?_)))))
     ·(try simp only [kU, hZ, true_or, and_self, go_sem]) <;> (repeat' apply And.intro) <;> first | rfl | (left; rfl) | (right; rfl) | (left; simp only [go_sem]; done) | (right; simp only [go_sem]; done) | (simp; done) | (simp only [*]; done) | omega
   ·rintro ⟨u_11, q_12⟩ h
    try dsimp only at h
    simp only [go_sem]
    unfold sU at h
    refine aE (aEE 1 ?_)
    simp only [go_sem]
    refine aEE 0 ?_
    simp only [go_sem]
    refine aD hF [4, 5] ?_
    simp only [go_sem]
    obtain ⟨g0, h⟩ := aM h
    obtain ⟨g1, h⟩ := aM h
    repeat (refine ⟨by first | with_reducible assumption | omega | (intros; first | assumption | omega) | (simp only [go_sem] at *; first | assumption | omega) | decide, ?_⟩)
    obtain rfl := Option.some.inj h
    refine aF (fC (gL hF [.tmp 4, .tmp 5] rfl rfl rfl ?_))
    (try simp only [oE, aV, go_sem]) <;> first | rfl | (simp; done)
theorem aMu : FOK Tryz.prog GL 166 wW := fD aMt (fun ⟨x0, x1, u⟩ ⟨w0, w1, wu⟩ hp => aKL x0 w0 x1 w1 hp)
end Nu
end Go.Proofs
namespace Go.Proofs
open Go.Vc
set_option maxRecDepth 20000
namespace Nu
noncomputable def cS (d_0 : qD0) : Option Bool :=
 if (((d_0.2).1).length : Int) = (0 : Int) then some ((!(d_0.1)) && (decide ((((d_0.2).2).1) = (0 : Int)))) else ck ((((aBt ((d_0.2).1)) = true) → ((0 : Int) < (((d_0.2).1).length : Int)))) (some ((((aBt ((d_0.2).1)) && (decide (((((d_0.2).1).getD (0 : Nat) (0 : Nat)) &&& (1 : Nat)) = (1 : Nat)))) && (decide ((-1048576 : Int) ≤ (((d_0.2).2).1)))) && (decide ((((d_0.2).2).1) ≤ (1048576 : Int)))))
def aHs : PlR := ⟨[(0, .B [1]), (1, .A [1, 6]), (2, .A [2]), (3, .A [2])], []⟩
def aKM : Ty := .pair (.pair .bool (.pair (.sl (.u .u64)) (.pair (.i .i64) .unit))) .unit
noncomputable def fM : aI := mSpec aKM (.one .bool) (fun x => cS x.1)
noncomputable def aKN : List (FuncId × aI) := [(120, aB4)]
theorem aRL : bF Tryz.prog GL aKN := .cons aRF (by kernel_rfl) (.nil)
theorem aKO : gam aKN 120 = some aB4 := rfl
attribute [go_sem] aKM aHs aKO
set_option maxHeartbeats 4000000 in
theorem tV : FOK Tryz.prog GL 58 fM := by
 refine bD (bE aRL) mix Tryz.func58 rfl (by kernel_rfl) (by decide) aHs fun w0 S x Θ hw h hF => ?_
 obtain ⟨(d_0 : qD0), u⟩ := x
 simp only [bH, go_sem]
 replace h : sat (cS d_0) _ := h
 unfold cS at h
 refine cX h (fun hc h => ?_) fun hc h => ?_
 ·exact aG hF [.tmp 2] rfl rfl rfl (aA h) (by simp only [aV, go_sem])
 ·refine aH h fun g0 h => ?_
  exact aG hF [.tmp 2] rfl rfl rfl (aA h) (by simp only [aV, go_sem])
attribute [go_sem] fM
noncomputable def dV (d_0 : qD0) : Option Int :=
 ck (((cS d_0).isSome = true)) (if (¬ (((cS d_0).getD false) = true)) ∨ ((((((d_0.2).1).length) : Nat) : Int) = (0 : Int)) then some (0 : Int) else if (d_0.1) = true then some (-1 : Int) else some (1 : Int))
def aFB : PlR := ⟨[(0, .B [1]), (1, .A [1, 3]), (2, .A [2]), (3, .A [13]), (4, .A [2]), (5, .A [2])], []⟩
def aHt : Ty := .pair (.pair .bool (.pair (.sl (.u .u64)) (.pair (.i .i64) .unit))) .unit
noncomputable def yY : aI := mSpec aHt (.one (.i .i64)) (fun x => dV x.1)
noncomputable def aHu : List (FuncId × aI) := [(58, fM)]
theorem aQp : bF Tryz.prog GL aHu := .cons tV (by kernel_rfl) (.nil)
theorem aKP : gam aHu 58 = some fM := rfl
attribute [go_sem] aHt aFB aKP
set_option maxHeartbeats 4000000 in
theorem aOH : FOK Tryz.prog GL 57 yY := by
 refine bD (bE aQp) mix Tryz.func57 rfl (by kernel_rfl) (by decide) aFB fun w0 S x Θ hw h hF => ?_
 obtain ⟨(d_0 : qD0), u⟩ := x
 simp only [bH, go_sem]
 replace h : sat (dV d_0) _ := h
 unfold dV at h
 refine aH h fun g0 h => ?_
 refine ⟨fun hc => ?_, fun hc => ?_⟩
 ·replace h := fU (by first | exact hc | omega | (simpa using hc) | (simp at hc ⊢; omega)) h
  exact aG hF [.tmp 2] rfl rfl rfl (aA h) (by simp only [aV, go_sem])
 ·replace h := fV (by first | exact hc | omega | (simpa using hc) | (simp at hc ⊢; omega)) h
  refine aHe h (fun hc h => ?_) fun hc h => ?_
  ·exact aG hF [.tmp 2] rfl rfl rfl (aA h) (by simp only [aV, go_sem])
  ·exact aG hF [.tmp 2] rfl rfl rfl (aA h) (by simp only [aV, go_sem])
attribute [go_sem] yY
noncomputable def oZ (a_0 : qD0) (b_1 : qD0) : Option Int :=
 ck ((aTc ((a_0.2).1))) (ck (I64 ((kW ((a_0.2).1)) + (((a_0.2).2).1))) (ck ((aTc ((b_1.2).1))) (ck (I64 ((kW ((b_1.2).1)) + (((b_1.2).2).1))) (if ((kW ((a_0.2).1)) + (((a_0.2).2).1)) < ((kW ((b_1.2).1)) + (((b_1.2).2).1)) then some (-1 : Int) else if ((kW ((b_1.2).1)) + (((b_1.2).2).1)) < ((kW ((a_0.2).1)) + (((a_0.2).2).1)) then some (1 : Int) else ck (I64 ((((a_0.2).2).1) - (min (((a_0.2).2).1) (((b_1.2).2).1)))) (ck ((aKz ((a_0.2).1) ((((a_0.2).2).1) - (min (((a_0.2).2).1) (((b_1.2).2).1))))) (ck (I64 ((((b_1.2).2).1) - (min (((a_0.2).2).1) (((b_1.2).2).1)))) (ck ((aKz ((b_1.2).1) ((((b_1.2).2).1) - (min (((a_0.2).2).1) (((b_1.2).2).1))))) (ck ((aTb (cF ((a_0.2).1) ((((a_0.2).2).1) - (min (((a_0.2).2).1) (((b_1.2).2).1)))) (cF ((b_1.2).1) ((((b_1.2).2).1) - (min (((a_0.2).2).1) (((b_1.2).2).1)))))) (some (oX (cF ((a_0.2).1) ((((a_0.2).2).1) - (min (((a_0.2).2).1) (((b_1.2).2).1)))) (cF ((b_1.2).1) ((((b_1.2).2).1) - (min (((a_0.2).2).1) (((b_1.2).2).1))))))))))))))
def aFC : PlR := ⟨[(0, .B [2, 3]), (1, .A [2, 3, 5, 6]), (2, .A [2, 3, 5, 6, 20]), (3, .A [4]), (4, .A [2, 3, 24]), (5, .A [4]), (6, .A [2, 3, 7]), (7, .A [4])], []⟩
def aHv : Ty := .pair (.pair .bool (.pair (.sl (.u .u64)) (.pair (.i .i64) .unit))) (.pair (.pair .bool (.pair (.sl (.u .u64)) (.pair (.i .i64) .unit))) .unit)
noncomputable def yZ : aI := mSpec aHv (.one (.i .i64)) (fun x => oZ x.1 x.2.1)
noncomputable def aAH : List (FuncId × aI) := [(121, aAE), (122, rS), (95, oY)]
theorem aQq : bF Tryz.prog GL aAH := .cons aQd (by kernel_rfl) (.cons aFr (by kernel_rfl) (.cons aDf (by kernel_rfl) (.nil)))
theorem aIA : gam aAH 121 = some aAE := rfl
theorem aIB : gam aAH 122 = some rS := rfl
theorem aKQ : gam aAH 95 = some oY := rfl
attribute [go_sem] aHv aFC aIA aIB aKQ
set_option maxHeartbeats 4000000 in
theorem aOI : FOK Tryz.prog GL 59 yZ := by
 refine bD (bE aQq) mix Tryz.func59 rfl (by kernel_rfl) (by decide) aFC fun w0 S x Θ hw h hF => ?_
 obtain ⟨(a_0 : qD0), (b_1 : qD0), u⟩ := x
 simp only [bH, go_sem]
 replace h : sat (oZ a_0 b_1) _ := h
 unfold oZ at h
 refine aH h fun g0 h => aH h fun g1 h => aH h fun g2 h => aH h fun g3 h => ?_
 refine bW h (fun hc h => ?_) fun hc h => ?_
 ·exact aG hF [.tmp 4] rfl rfl rfl (aA h) (by simp only [aV, go_sem])
 ·refine bW h (fun hc h => ?_) fun hc h => ?_
  ·exact aG hF [.tmp 4] rfl rfl rfl (aA h) (by simp only [aV, go_sem])
  ·refine aH h fun g0 h => aH h fun g1 h => aH h fun g2 h => aH h fun g3 h => aH h fun g4 h => ?_
   exact aG hF [.tmp 4] rfl rfl rfl (aA h) (by simp only [aV, go_sem])
attribute [go_sem] yZ
noncomputable def pM (a_0 : qD0) (b_1 : qD0) : Option Int :=
 ck (((dV a_0).isSome = true)) (ck (((dV b_1).isSome = true)) (ck (((cS a_0).isSome = true)) (ck ((¬ (¬ (((cS a_0).getD false) = true)) → (((cS b_1).isSome = true)))) (if (¬ (((cS a_0).getD false) = true)) ∨ (¬ (((cS b_1).getD false) = true)) then some (0 : Int) else if (¬ (((dV a_0).getD (0 : Int)) = ((dV b_1).getD (0 : Int)))) ∧ (((dV a_0).getD (0 : Int)) < ((dV b_1).getD (0 : Int))) then some (-1 : Int) else if ¬ (((dV a_0).getD (0 : Int)) = ((dV b_1).getD (0 : Int))) then some (1 : Int) else if ((dV a_0).getD (0 : Int)) = (0 : Int) then some (0 : Int) else ck (((oZ a_0 b_1).isSome = true)) (ck (I64 (((dV a_0).getD (0 : Int)) * ((oZ a_0 b_1).getD (0 : Int)))) (some (((dV a_0).getD (0 : Int)) * ((oZ a_0 b_1).getD (0 : Int)))))))))
def aHw : PlR := ⟨[(0, .B [2, 3]), (1, .A [2, 3, 5, 6]), (2, .A [2, 3, 5, 6, 11]), (3, .A [4]), (4, .A [2, 3, 5, 6, 20]), (5, .A [4]), (6, .A [2, 3, 5, 29]), (7, .A [4]), (8, .A [2, 3, 5, 33]), (9, .A [4]), (10, .A [4])], []⟩
def aKR : Ty := .pair (.pair .bool (.pair (.sl (.u .u64)) (.pair (.i .i64) .unit))) (.pair (.pair .bool (.pair (.sl (.u .u64)) (.pair (.i .i64) .unit))) .unit)
noncomputable def tW : aI := mSpec aKR (.one (.i .i64)) (fun x => pM x.1 x.2.1)
noncomputable def aB8 : List (FuncId × aI) := [(57, yY), (58, fM), (59, yZ)]
theorem aRM : bF Tryz.prog GL aB8 := .cons aOH (by kernel_rfl) (.cons tV (by kernel_rfl) (.cons aOI (by kernel_rfl) (.nil)))
theorem aMv : gam aB8 57 = some yY := rfl
theorem aMw : gam aB8 58 = some fM := rfl
theorem aMx : gam aB8 59 = some yZ := rfl
attribute [go_sem] aKR aHw aMv aMw aMx
set_option maxHeartbeats 4000000 in
theorem aHx : FOK Tryz.prog GL 22 tW := by
 refine bD (bE aRM) mix Tryz.func22 rfl (by kernel_rfl) (by decide) aHw fun w0 S x Θ hw h hF => ?_
 obtain ⟨(a_0 : qD0), (b_1 : qD0), u⟩ := x
 simp only [bH, go_sem]
 replace h : sat (pM a_0 b_1) _ := h
 unfold pM at h
 obtain ⟨g0, h⟩ := aJ h
 obtain ⟨g1, h⟩ := aJ h
 repeat (refine ⟨by first | with_reducible assumption | omega | (intros; first | assumption | omega) | (simp only [go_sem] at *; first | assumption | omega) | decide, ?_⟩)
 obtain ⟨g0, h⟩ := aJ h
 obtain ⟨g1, h⟩ := aJ h
 repeat (refine ⟨by first | with_reducible assumption | omega | (intros; first | assumption | omega) | (simp only [go_sem] at *; first | assumption | omega) | (intro q0; (try have e1 := g1 (by first | exact q0 | omega | (simpa using q0))); first | assumption | omega) | decide, ?_⟩)
 refine ⟨fun hc => ?_, fun hc => ?_⟩
 ·replace h := fU (by first | exact hc | omega | (simpa using hc) | (simp at hc ⊢; omega)) h
  exact aG hF [.tmp 4] rfl rfl rfl (aA h) (by simp only [aV, go_sem])
 ·replace h := fV (by first | exact hc | omega | (simpa using hc) | (simp at hc ⊢; omega)) h
  refine ⟨fun hc => ?_, fun hc => ?_⟩
  ·replace h := fU (by first | exact hc | omega | (simpa using hc) | (simp at hc ⊢; omega)) h
   exact aG hF [.tmp 4] rfl rfl rfl (aA h) (by simp only [aV, go_sem])
  ·replace h := fV (by first | exact hc | omega | (simpa using hc) | (simp at hc ⊢; omega)) h
   refine ⟨fun hc => ?_, fun hc => ?_⟩
   ·replace h := fU hc h
    exact aG hF [.tmp 4] rfl rfl rfl (aA h) (by simp only [aV, go_sem])
   ·replace h := fV (by first | exact hc | omega | simpa using hc) h
    refine cX h (fun hc h => ?_) fun hc h => ?_
    ·exact aG hF [.tmp 4] rfl rfl rfl (aA h) (by simp only [aV, go_sem])
    ·obtain ⟨g0, h⟩ := aJ h
     obtain ⟨g1, h⟩ := aJ h
     try simp only [I64, I32] at g1
     repeat (refine ⟨by first | with_reducible assumption | omega | (intros; first | assumption | omega) | (simp only [go_sem] at *; first | assumption | omega) | decide, ?_⟩)
     exact aG hF [.tmp 4] rfl rfl rfl (aA h) (by simp only [aV, go_sem])
attribute [go_sem] tW
end Nu
end Go.Proofs
namespace Go.Proofs
open Go.Vc
set_option maxRecDepth 20000
namespace Nu
noncomputable def lD (n_1 : Int) (b_0 : Nat) (m_7 : (List Nat)) (x8_8 : Int) : Option (((List Nat) × Int) ⊕ (((List Nat)))) :=
 if x8_8 < n_1 then ck ((aRx m_7 ([b_0] : List Nat))) (ck (I64 (x8_8 + (1 : Int))) (some (.inl ((dF m_7 ([b_0] : List Nat)), (x8_8 + (1 : Int)))))) else some (.inr m_7)
noncomputable def dL (b_0 : Nat) (n_1 : Int) : Option (List Nat) :=
 (bO (fun d : (List Nat) × Int => lD n_1 b_0 d.1 d.2) (([1] : List Nat), (0 : Int))).bind (fun e => some e)
def aFD : PlR := ⟨[(0, .A [0, 1]), (1, .A [0, 1, 5]), (2, .A [0, 5, 7, 8]), (3, .A [0, 5, 7, 8, 9]), (4, .A [0, 5, 7, 8]), (5, .A [0, 5, 7, 8]), (6, .A [4])], []⟩
def aHy : Ty := .pair (.u .u64) (.pair (.i .i64) .unit)
noncomputable def zA : aI := mSpec aHy (.one (.sl (.u .u64))) (fun x => dL x.1 x.2.1)
noncomputable def aHz : List (FuncId × aI) := [(94, rT)]
theorem aQr : bF Tryz.prog GL aHz := .cons aFu (by kernel_rfl) (.nil)
theorem aKS : gam aHz 94 = some rT := rfl
attribute [go_sem] aHy aFD aKS
set_option maxHeartbeats 4000000 in
theorem aOJ : FOK Tryz.prog GL 96 zA := by
 refine bD (bE aQr) mix Tryz.func96 rfl (by kernel_rfl) (by decide) aFD fun w0 S x Θ hw h hF => ?_
 obtain ⟨(b_0 : Nat), (n_1 : Int), u⟩ := x
 simp only [bH, go_sem]
 replace h : sat (dL b_0 n_1) _ := h
 unfold dL at h
 refine bC hF (D := (List Nat) × Int) [0, 7] (fun d => [(5, .val (.sl (.u .u64)) d.1), (8, .val (.i .i64) d.2)]) (fun d => []) h rfl (by simp only [go_sem]) ?_
 rintro ⟨m_7, x8_8⟩ A3 T3 hA3 hE3 h
 simp only [go_sem]
 replace h : sat (lD n_1 b_0 m_7 x8_8) _ := h
 unfold lD at h
 refine bW h (fun hc h => ?_) fun hc h => ?_
 ·refine aH h fun g0 h => ?_
  refine aH h fun g0 h => ?_
  replace h := hA3 _ (aA h)
  exact aP _ h rfl (by simp only [go_sem])
 ·replace h := hE3 _ (aA h)
  try dsimp only at h
  exact aG hF [.tmp 4] rfl rfl rfl (aA h) (by simp only [aV, go_sem])
attribute [go_sem] zA
end Nu
end Go.Proofs
namespace Go.Proofs
open Go.Shelf
def Tryz.lays285_ren : Go.Shelf.Ren := ⟨fun | 285 => 217 | n => n, fun | 37 => 99 | 53 => 83 | 3 => 3 | 4 => 4 | 51 => 146 | 9 => 9 | 5 => 5 | 0 => 0 | n => n, fun | n => n⟩
theorem Tryz.lays285 : Go.Proofs.Lays.n285 Tryz.prog Tryz.lays285_ren := {
 mixed := by kernel_rfl
 f285 := Tryz.func217.trans (congrArg some (by kernel_rfl))
 t0 := Tryz.underlying0
 a0 := Tryz.isAgg0
 z0 := Tryz.sizeOf0
 v0 := Tryz.zeroValue0
 t3 := Tryz.underlying3
 a3 := Tryz.isAgg3
 z3 := Tryz.sizeOf3
 v3 := Tryz.zeroValue3
 t4 := Tryz.underlying4
 a4 := Tryz.isAgg4
 z4 := Tryz.sizeOf4
 v4 := Tryz.zeroValue4
 t5 := Tryz.underlying5
 a5 := Tryz.isAgg5
 z5 := Tryz.sizeOf5
 v5 := Tryz.zeroValue5
 t9 := Tryz.underlying9
 a9 := Tryz.isAgg9
 z9 := Tryz.sizeOf9
 v9 := Tryz.zeroValue9
 t37 := Tryz.underlying99
 a37 := Tryz.isAgg99
 z37 := Tryz.sizeOf99
 v37 := Tryz.zeroValue99
 t51 := Tryz.underlying146
 a51 := Tryz.isAgg146
 z51 := Tryz.sizeOf146
 v51 := Tryz.zeroValue146
 t53 := Tryz.underlying83
 a53 := Tryz.isAgg83
 z53 := Tryz.sizeOf83
 v53 := Tryz.zeroValue83 }
open Go.Vc
set_option maxRecDepth 20000
namespace Nu
def dgs (n u : Nat) : List Nat := (List.range n).map fun t => 48 + u / 10 ^ (n - 1 - t) % 10
theorem pN (n u : Nat) : (dgs n u).length = n := by simp [dgs]
noncomputable def cP (uo un u : Nat) (xs : List Nat) : Option (List Nat) :=
 ck (uo + un ≤ 24) (ck (u < 10 ^ un) (some (xs.take uo ++ dgs un u ++ xs.drop (uo + un))))
noncomputable def iJ : zZ where
 D := Nat × Nat × Nat × (List Nat) × ((List Nat))
 av := fun d => [.sub 0 1 d.1 d.2.1, .val (.u .u64) d.2.2.1]
 hp := fun d => [.box 24 (.val (.arr 24 (.u .u8)) d.2.2.2.1)]
 m := 1
 pre := fun d => cP d.1 d.2.1 d.2.2.1 d.2.2.2.1 = some d.2.2.2.2
 out := fun d => (fun r : (List Nat) => .ret (.tup []) [.box 24 (.val (.arr 24 (.u .u8)) (r))]) d.2.2.2.2
attribute [go_sem] iJ
theorem aHA (xs : List Nat) : (xs.map (fun (x : Nat) => [Value.int .u8 (x : Int)])).flatten = xs.map (fun (x : Nat) => Value.int .u8 (x : Int)) := by
 induction xs with
 | nil => rfl
 | cons x r ih => simp [ih]
theorem aXK {w : World} {S : Nat → Prop} {m : Nat} {xs : List Nat} {cs : List Value} (h : aW w S (.arr m (.u .u8)) xs cs) : xs.length = m ∧ cs = xs.map (fun (x : Nat) => Value.int .u8 (x : Int)) ∧ ∀ x ∈ xs, x < 256 := by
 obtain ⟨hl, css, rfl, hcl, hr⟩ := h
 have hl : xs.length = m := hl
 have key : ∀ i (h : i < xs.length) (h' : i < css.length), css[i] = [Value.int .u8 (xs[i] : Int)] ∧ xs[i] < 256 := fun i h h' => by
  obtain ⟨h1, _, h3⟩ := hr i h h'
  refine ⟨h1, ?_⟩
  simp only [IntKind.max, IntKind.signed, IntKind.bits] at h3
  simp at h3
  omega
 refine ⟨hl, ?_, fun x hx => ?_⟩
 ·have e : css = xs.map (fun (x : Nat) => [Value.int .u8 (x : Int)]) := by
   apply List.ext_getElem
   ·simp; exact hcl
   ·intro i h1 h2
    have := (key i (by simpa using h2) h1).1
    simpa using this
  rw [e, aHA]
 ·obtain ⟨i, hi, rfl⟩ := List.getElem_of_mem hx
  exact (key i hi (by have : css.length = xs.length := hcl; omega)).2
theorem aZE {w : World} {S : Nat → Prop} {m : Nat} {xs : List Nat} (hl : xs.length = m) (hx : ∀ x ∈ xs, x < 256) : aW w S (.arr m (.u .u8)) xs (xs.map (fun (x : Nat) => Value.int .u8 (x : Int))) := by
 refine ⟨hl, xs.map (fun (x : Nat) => [Value.int .u8 (x : Int)]), (aHA xs).symm, by simp, fun i h h' => ?_⟩
 ·have := hx xs[i] (List.getElem_mem h)
  refine ⟨by simp, rfl, ?_⟩
  simp only [IntKind.max, IntKind.signed, IntKind.bits]
  simp
  omega
open Go.Sort in
theorem aUa {cells : Array Value} {xs : List Nat} {uo un u v' : Nat} {dk : Array UInt8} (hc : cells.toList = xs.map (fun (x : Nat) => Value.int .u8 (x : Int))) (hle : uo + un ≤ xs.length) (hF : Lib.FmtInv un u 0 v' dk) :
  (putCells (fun (b : UInt8) => Value.int .u8 (b.toNat : Int)) uo dk cells).toList = (xs.take uo ++ dgs un u ++ xs.drop (uo + un)).map (fun (x : Nat) => Value.int .u8 (x : Int)) := by
 have hsz : cells.size = xs.length := by rw [← Array.length_toList, hc, List.length_map]
 have hdk := hF.size
 apply List.ext_getElem
 ·simp [putCells, pN, hsz]; omega
 ·intro i h1 h2
  have hi : i < xs.length := by simpa [putCells, hsz] using h1
  have hci : cells[i]'(by omega) = Value.int .u8 (xs[i] : Int) := by
   have : cells.toList[i]'(by rw [Array.length_toList]; omega) = Value.int .u8 (xs[i] : Int) := by simp [hc]
   simpa using this
  simp only [putCells, Array.toList_mapIdx, List.getElem_mapIdx, Array.getElem_toList, List.getElem_map]
  by_cases hr : uo ≤ i ∧ i < uo + dk.size
  ·rw [if_pos hr, hF.done (i - uo) (Nat.zero_le _) (by omega)]
   have : (xs.take uo ++ dgs un u ++ xs.drop (uo + un))[i]'(by simpa using h2) = 48 + u / 10 ^ (un - 1 - (i - uo)) % 10 := by
    rw [List.getElem_append_left (by simp [pN]; omega), List.getElem_append_right (by simp; omega)]
    simp [dgs, Nat.min_eq_left (show uo ≤ xs.length by omega)]
   rw [this]
   have hm := Nat.mod_lt (u / 10 ^ (un - 1 - (i - uo))) (show 0 < 10 by decide)
   simp only [Lib.dg, UInt8.toNat_ofNat']
   rw [Nat.mod_eq_of_lt (by omega)]
  ·rw [if_neg hr, hci]
   rcases Nat.lt_or_ge i uo with h | h
   ·rw [List.getElem_append_left (by simp [pN]; omega), List.getElem_append_left (by simp; omega)]
    simp
   ·rw [List.getElem_append_right (by simp [pN]; omega)]
    simp only [List.length_append, List.length_take, pN, List.getElem_drop]
    congr 3
    omega
open Go.Sort in
theorem sO : GOK Tryz.prog GL 217 iJ := by
 rintro c w ⟨uo, un, u, xs, r⟩ vs hpre ⟨good, glob, len, val⟩
 have hpre : cP uo un u xs = some r := hpre
 unfold cP at hpre
 obtain ⟨h1, hpre⟩ := aM hpre
 obtain ⟨h2, hpre⟩ := aM hpre
 have hr : xs.take uo ++ dgs un u ++ xs.drop (uo + un) = r := Option.some.inj hpre
 obtain ⟨b, cells, e, hhd, hheap, hsz, hcl⟩ := good.objs 0 _ rfl
 obtain ⟨hl, hcs, hx⟩ := aXK hcl
 have hl : xs.length = 24 := hl
 have hcs : cells.toList = xs.map (fun (x : Nat) => Value.int .u8 (x : Int)) := hcs
 have hx : ∀ x ∈ xs, x < 256 := hx
 have hsz : cells.size = 24 := by
  rcases hsz with h | ⟨_, h⟩
  ·exact h
  ·exact absurd h (by omega)
 have hv0 := val 0 (by show 0 < 2; decide) (by rw [len]; show 0 < 2; decide)
 have hv1 := val 1 (by show 1 < 2; decide) (by rw [len]; show 1 < 2; decide)
 obtain ⟨_, hn, b', cap, hb', e0⟩ := aJq (i := 0) (s := 1) (off := uo) (n := un) hv0
 obtain ⟨e1, _, hu⟩ := aCN (k := .u64) (n := u) hv1
 rw [hhd] at hb'
 simp only [aU, Option.some.injEq] at hb'
 subst hb'
 have hvs : vs = #[.slice (some ⟨b, uo * 1, none⟩) un cap, .int .u64 (u : Int)] := by
  have hlen : vs.toList.length = 2 := len
  rw [← Array.toList_inj]
  apply List.ext_getElem
  ·exact hlen
  ·intro i a1 a2
   match i, a2 with
   | 0, _ => exact e0
   | 1, _ => exact e1
 have hd : (((xs.drop uo).take un).map UInt8.ofNat).toArray.size = un := by simp; omega
 have hcell : ∀ j (hj : j < xs.length), w.cell? ⟨b, j, none⟩ = some (.int .u8 (xs[j] : Int)) := fun j hj => by
  have hj2 : j < cells.size := by omega
  have : cells[j] = Value.int .u8 (xs[j] : Int) := by
   have : cells.toList[j]'(by rw [Array.length_toList]; omega) = Value.int .u8 (xs[j] : Int) := by simp [hcs]
   simpa using this
  simp [World.cell?, hheap, hj2, this]
 have hH : Holds (fun (b : UInt8) => Value.int .u8 (b.toNat : Int)) w b uo (((xs.drop uo).take un).map UInt8.ofNat).toArray := fun j hj => by
  rw [hd] at hj
  have hj2 : uo + j < xs.length := by omega
  refine ⟨?_, ?_⟩
  ·rw [hcell _ hj2]
   have hlt := hx xs[uo + j] (List.getElem_mem hj2)
   have : (((xs.drop uo).take un).map UInt8.ofNat).toArray[j]! = UInt8.ofNat xs[uo + j] := by
    rw [getElem!_pos _ j (by rw [hd]; exact hj)]
    simp
   rw [this]
   simp only [UInt8.toNat_ofNat']
   rw [Nat.mod_eq_of_lt (by omega)]
  ·simp [World.frozen?, hheap]
 have hB : gB .u64 = 18446744073709551616 := by decide +kernel
 have key := Any.internal_strconv_formatBase10 Tryz.lays285 b uo cap u _ w hH (by rw [hd]; exact h2) (by omega) (by rw [hd]; omega)
 rw [hd] at key
 rw [hvs, Nat.mul_one]
 refine Calls.mono (f := 217) key ?_
 rintro e w' ⟨rfl, n, v', dk, rfl, hF⟩
 refine ⟨c, .tuple #[], rfl, ?_, ?_⟩
 ·have hbl : b < w.heap.size := (Array.getElem?_eq_some_iff.1 hheap).1
  have hpc := aUa (uo := uo) (xs := xs) (u := u) (dk := dk) (un := un) hcs (by omega) hF
  have hheap' : ((putRow (fun (b : UInt8) => Value.int .u8 (b.toNat : Int)) w b uo dk).drewN n).heap[b]? = some (.cells (putCells (fun (b : UInt8) => Value.int .u8 (b.toNat : Int)) uo dk cells) e (0, 0)) := by
   show (w.heap.modify b (onCells _))[b]? = _
   rw [Array.getElem?_modify, if_pos rfl, hheap]
   rfl
  have hoth : ∀ k, k ≠ b → ((putRow (fun (b : UInt8) => Value.int .u8 (b.toNat : Int)) w b uo dk).drewN n).heap[k]? = w.heap[k]? := fun k hk => by
   show (w.heap.modify b (onCells _))[k]? = _
   rw [Array.getElem?_modify, if_neg (fun h => hk h.symm)]
  have hsize : ((putRow (fun (b : UInt8) => Value.int .u8 (b.toNat : Int)) w b uo dk).drewN n).heap.size = w.heap.size := by
   show (w.heap.modify b (onCells _)).size = _
   simp
  have hnS : ¬ c.S b := (good.own 0 _ b rfl (by show aU (c.hd 0) = some b; rw [hhd]; rfl)).2.2
  refine ⟨good.n, ⟨rfl, rfl, rfl, Nat.le_of_eq hsize.symm, fun k hk hM => hoth k (fun hkb => hM ?_)⟩, fun k hk => by rw [hsize]; exact good.sfin k hk, good.src, fun i o hio => ?_, fun i o k hio hk => ?_, fun i j oi oj k hi hj hbi hbj => ?_, good.root⟩
  ·subst hkb
   exact ⟨0, _, rfl, by show aU (c.hd 0) = some k; rw [hhd]; rfl⟩
  ·match i, hio with
   | 0, hio =>
    cases hio
    refine ⟨b, _, e, hhd, hheap', ?_, ?_⟩
    ·exact .inl (by (simp [putCells, hsz]) <;> rfl)
    ·show aW _ c.S (.arr 24 (.u .u8)) r _
     rw [hpc, hr]
     have hrl : r.length = 24 := by rw [← hr]; simp [pN]; omega
     refine aZE hrl (fun x hxr => ?_)
     rw [← hr] at hxr
     rcases List.mem_append.1 hxr with hxr | hxr
     ·rcases List.mem_append.1 hxr with hxr | hxr
      ·exact hx x (List.mem_of_mem_take hxr)
      ·obtain ⟨t, _, rfl⟩ := List.mem_map.1 hxr
       have := Nat.mod_lt (u / 10 ^ (un - 1 - t)) (show 0 < 10 by decide)
       omega
     ·exact hx x (List.mem_of_mem_drop hxr)
   | i + 1, hio => cases hio
  ·match i, hio with
   | 0, hio =>
    cases hio
    have := good.own 0 _ k rfl hk
    rw [hsize]; exact this
   | i + 1, hio => cases hio
  ·match i, j, hi, hj with
   | 0, 0, _, _ => rfl
   | 0, j + 1, _, hj => cases hj
   | i + 1, _, hi, _ => cases hi
 ·exact ⟨[], rfl, rfl, fun i h1 _ => by cases h1⟩
end Nu
end Go.Proofs
namespace Go.Proofs
open Go.Vc
set_option maxRecDepth 20000
namespace Nu
def tG : ByteArray := ⟨⟨48 :: 48 :: 48 :: 48 :: 48 :: 48 :: 48 :: 48 :: 48 :: 48 :: 48 :: 48 :: 48 :: 48 :: 48 :: 48 :: 48 :: 48 :: 48 :: 48 :: 48 :: 48 :: 48 :: 48 :: 48 :: 48 :: 48 :: 48 :: 48 :: 48 :: 48 :: 48 :: 48 :: 48 :: 48 :: 48 :: 48 :: 48 :: 48 :: 48 :: 48 :: 48 :: 48 :: 48 :: 48 :: 48 :: 48 :: 48 :: 48 :: 48 :: 48 :: 48 :: 48 :: 48 :: 48 :: 48 :: 48 :: 48 :: 48 :: 48 :: 48 :: 48 :: 48 :: 48 :: []⟩⟩
theorem aMy : (⟨⟨48 :: 48 :: 48 :: 48 :: 48 :: 48 :: 48 :: 48 :: 48 :: 48 :: 48 :: 48 :: 48 :: 48 :: 48 :: 48 :: 48 :: 48 :: 48 :: 48 :: 48 :: 48 :: 48 :: 48 :: 48 :: 48 :: 48 :: 48 :: 48 :: 48 :: 48 :: 48 :: 48 :: 48 :: 48 :: 48 :: 48 :: 48 :: 48 :: 48 :: 48 :: 48 :: 48 :: 48 :: 48 :: 48 :: 48 :: 48 :: 48 :: 48 :: 48 :: 48 :: 48 :: 48 :: 48 :: 48 :: 48 :: 48 :: 48 :: 48 :: 48 :: 48 :: 48 :: 48 :: []⟩⟩ : ByteArray) = tG := rfl
attribute [go_sem] aMy
def wH : ByteArray := ⟨⟨45 :: 45 :: 45 :: 45 :: 45 :: 45 :: 45 :: 45 :: 45 :: 45 :: 45 :: 45 :: 45 :: 45 :: 45 :: 45 :: 45 :: 45 :: 45 :: 45 :: 45 :: 45 :: 45 :: 45 :: 45 :: 45 :: 45 :: 45 :: 45 :: 45 :: 45 :: 45 :: 45 :: 45 :: 45 :: 45 :: 45 :: 45 :: 45 :: 45 :: 45 :: 45 :: 45 :: 45 :: 45 :: 45 :: 45 :: 45 :: 45 :: 45 :: 45 :: 45 :: 45 :: 45 :: 45 :: 45 :: 45 :: 45 :: 45 :: 45 :: 45 :: 45 :: 45 :: 45 :: 45 :: 45 :: 45 :: 45 :: 45 :: 45 :: 45 :: 45 :: 45 :: 45 :: 45 :: 45 :: 45 :: 45 :: 45 :: 45 :: 45 :: 45 :: 45 :: 45 :: 45 :: 45 :: 45 :: 45 :: 45 :: 45 :: 45 :: 45 :: 45 :: 45 :: 45 :: 45 :: 45 :: 45 :: 45 :: 45 :: 45 :: 45 :: 45 :: 45 :: 45 :: 45 :: 45 :: 45 :: 45 :: 45 :: 45 :: 45 :: 45 :: 45 :: 45 :: 45 :: 45 :: 45 :: 45 :: 45 :: 45 :: 45 :: 45 :: 45 :: 45 :: 45 :: 45 :: 45 :: []⟩⟩
theorem aMz : (⟨⟨45 :: 45 :: 45 :: 45 :: 45 :: 45 :: 45 :: 45 :: 45 :: 45 :: 45 :: 45 :: 45 :: 45 :: 45 :: 45 :: 45 :: 45 :: 45 :: 45 :: 45 :: 45 :: 45 :: 45 :: 45 :: 45 :: 45 :: 45 :: 45 :: 45 :: 45 :: 45 :: 45 :: 45 :: 45 :: 45 :: 45 :: 45 :: 45 :: 45 :: 45 :: 45 :: 45 :: 45 :: 45 :: 45 :: 45 :: 45 :: 45 :: 45 :: 45 :: 45 :: 45 :: 45 :: 45 :: 45 :: 45 :: 45 :: 45 :: 45 :: 45 :: 45 :: 45 :: 45 :: 45 :: 45 :: 45 :: 45 :: 45 :: 45 :: 45 :: 45 :: 45 :: 45 :: 45 :: 45 :: 45 :: 45 :: 45 :: 45 :: 45 :: 45 :: 45 :: 45 :: 45 :: 45 :: 45 :: 45 :: 45 :: 45 :: 45 :: 45 :: 45 :: 45 :: 45 :: 45 :: 45 :: 45 :: 45 :: 45 :: 45 :: 45 :: 45 :: 45 :: 45 :: 45 :: 45 :: 45 :: 45 :: 45 :: 45 :: 45 :: 45 :: 45 :: 45 :: 45 :: 45 :: 45 :: 45 :: 45 :: 45 :: 45 :: 45 :: 45 :: 45 :: 45 :: 45 :: 45 :: []⟩⟩ : ByteArray) = wH := rfl
attribute [go_sem] aMz
def aAi : ByteArray := ⟨⟨61 :: 61 :: 61 :: 61 :: 61 :: 61 :: 61 :: 61 :: 61 :: 61 :: 61 :: 61 :: 61 :: 61 :: 61 :: 61 :: 61 :: 61 :: 61 :: 61 :: 61 :: 61 :: 61 :: 61 :: 61 :: 61 :: 61 :: 61 :: 61 :: 61 :: 61 :: 61 :: 61 :: 61 :: 61 :: 61 :: 61 :: 61 :: 61 :: 61 :: 61 :: 61 :: 61 :: 61 :: 61 :: 61 :: 61 :: 61 :: 61 :: 61 :: 61 :: 61 :: 61 :: 61 :: 61 :: 61 :: 61 :: 61 :: 61 :: 61 :: 61 :: 61 :: 61 :: 61 :: 61 :: 61 :: 61 :: 61 :: 61 :: 61 :: 61 :: 61 :: 61 :: 61 :: 61 :: 61 :: 61 :: 61 :: 61 :: 61 :: 61 :: 61 :: 61 :: 61 :: 61 :: 61 :: 61 :: 61 :: 61 :: 61 :: 61 :: 61 :: 61 :: 61 :: 61 :: 61 :: 61 :: 61 :: 61 :: 61 :: 61 :: 61 :: 61 :: 61 :: 61 :: 61 :: 61 :: 61 :: 61 :: 61 :: 61 :: 61 :: 61 :: 61 :: 61 :: 61 :: 61 :: 61 :: 61 :: 61 :: 61 :: 61 :: 61 :: 61 :: 61 :: 61 :: 61 :: 61 :: []⟩⟩
theorem aMA : (⟨⟨61 :: 61 :: 61 :: 61 :: 61 :: 61 :: 61 :: 61 :: 61 :: 61 :: 61 :: 61 :: 61 :: 61 :: 61 :: 61 :: 61 :: 61 :: 61 :: 61 :: 61 :: 61 :: 61 :: 61 :: 61 :: 61 :: 61 :: 61 :: 61 :: 61 :: 61 :: 61 :: 61 :: 61 :: 61 :: 61 :: 61 :: 61 :: 61 :: 61 :: 61 :: 61 :: 61 :: 61 :: 61 :: 61 :: 61 :: 61 :: 61 :: 61 :: 61 :: 61 :: 61 :: 61 :: 61 :: 61 :: 61 :: 61 :: 61 :: 61 :: 61 :: 61 :: 61 :: 61 :: 61 :: 61 :: 61 :: 61 :: 61 :: 61 :: 61 :: 61 :: 61 :: 61 :: 61 :: 61 :: 61 :: 61 :: 61 :: 61 :: 61 :: 61 :: 61 :: 61 :: 61 :: 61 :: 61 :: 61 :: 61 :: 61 :: 61 :: 61 :: 61 :: 61 :: 61 :: 61 :: 61 :: 61 :: 61 :: 61 :: 61 :: 61 :: 61 :: 61 :: 61 :: 61 :: 61 :: 61 :: 61 :: 61 :: 61 :: 61 :: 61 :: 61 :: 61 :: 61 :: 61 :: 61 :: 61 :: 61 :: 61 :: 61 :: 61 :: 61 :: 61 :: 61 :: 61 :: 61 :: []⟩⟩ : ByteArray) = aAi := rfl
attribute [go_sem] aMA
def aAj : ByteArray := ⟨⟨9 :: 9 :: 9 :: 9 :: 9 :: 9 :: 9 :: 9 :: 9 :: 9 :: 9 :: 9 :: 9 :: 9 :: 9 :: 9 :: 9 :: 9 :: 9 :: 9 :: 9 :: 9 :: 9 :: 9 :: 9 :: 9 :: 9 :: 9 :: 9 :: 9 :: 9 :: 9 :: 9 :: 9 :: 9 :: 9 :: 9 :: 9 :: 9 :: 9 :: 9 :: 9 :: 9 :: 9 :: 9 :: 9 :: 9 :: 9 :: 9 :: 9 :: 9 :: 9 :: 9 :: 9 :: 9 :: 9 :: 9 :: 9 :: 9 :: 9 :: 9 :: 9 :: 9 :: 9 :: []⟩⟩
theorem aMB : (⟨⟨9 :: 9 :: 9 :: 9 :: 9 :: 9 :: 9 :: 9 :: 9 :: 9 :: 9 :: 9 :: 9 :: 9 :: 9 :: 9 :: 9 :: 9 :: 9 :: 9 :: 9 :: 9 :: 9 :: 9 :: 9 :: 9 :: 9 :: 9 :: 9 :: 9 :: 9 :: 9 :: 9 :: 9 :: 9 :: 9 :: 9 :: 9 :: 9 :: 9 :: 9 :: 9 :: 9 :: 9 :: 9 :: 9 :: 9 :: 9 :: 9 :: 9 :: 9 :: 9 :: 9 :: 9 :: 9 :: 9 :: 9 :: 9 :: 9 :: 9 :: 9 :: 9 :: 9 :: 9 :: []⟩⟩ : ByteArray) = aAj := rfl
attribute [go_sem] aMB
def aAk : ByteArray := ⟨⟨48 :: 48 :: 48 :: 49 :: 48 :: 50 :: 48 :: 51 :: 48 :: 52 :: 48 :: 53 :: 48 :: 54 :: 48 :: 55 :: 48 :: 56 :: 48 :: 57 :: 49 :: 48 :: 49 :: 49 :: 49 :: 50 :: 49 :: 51 :: 49 :: 52 :: 49 :: 53 :: 49 :: 54 :: 49 :: 55 :: 49 :: 56 :: 49 :: 57 :: 50 :: 48 :: 50 :: 49 :: 50 :: 50 :: 50 :: 51 :: 50 :: 52 :: 50 :: 53 :: 50 :: 54 :: 50 :: 55 :: 50 :: 56 :: 50 :: 57 :: 51 :: 48 :: 51 :: 49 :: 51 :: 50 :: 51 :: 51 :: 51 :: 52 :: 51 :: 53 :: 51 :: 54 :: 51 :: 55 :: 51 :: 56 :: 51 :: 57 :: 52 :: 48 :: 52 :: 49 :: 52 :: 50 :: 52 :: 51 :: 52 :: 52 :: 52 :: 53 :: 52 :: 54 :: 52 :: 55 :: 52 :: 56 :: 52 :: 57 :: 53 :: 48 :: 53 :: 49 :: 53 :: 50 :: 53 :: 51 :: 53 :: 52 :: 53 :: 53 :: 53 :: 54 :: 53 :: 55 :: 53 :: 56 :: 53 :: 57 :: 54 :: 48 :: 54 :: 49 :: 54 :: 50 :: 54 :: 51 :: 54 :: 52 :: 54 :: 53 :: 54 :: 54 :: 54 :: 55 :: 54 :: 56 :: 54 :: 57 :: 55 :: 48 :: 55 :: 49 :: 55 :: 50 :: 55 :: 51 :: 55 :: 52 :: 55 :: 53 :: 55 :: 54 :: 55 :: 55 :: 55 :: 56 :: 55 :: 57 :: 56 :: 48 :: 56 :: 49 :: 56 :: 50 :: 56 :: 51 :: 56 :: 52 :: 56 :: 53 :: 56 :: 54 :: 56 :: 55 :: 56 :: 56 :: 56 :: 57 :: 57 :: 48 :: 57 :: 49 :: 57 :: 50 :: 57 :: 51 :: 57 :: 52 :: 57 :: 53 :: 57 :: 54 :: 57 :: 55 :: 57 :: 56 :: 57 :: 57 :: []⟩⟩
theorem aMC : (⟨⟨48 :: 48 :: 48 :: 49 :: 48 :: 50 :: 48 :: 51 :: 48 :: 52 :: 48 :: 53 :: 48 :: 54 :: 48 :: 55 :: 48 :: 56 :: 48 :: 57 :: 49 :: 48 :: 49 :: 49 :: 49 :: 50 :: 49 :: 51 :: 49 :: 52 :: 49 :: 53 :: 49 :: 54 :: 49 :: 55 :: 49 :: 56 :: 49 :: 57 :: 50 :: 48 :: 50 :: 49 :: 50 :: 50 :: 50 :: 51 :: 50 :: 52 :: 50 :: 53 :: 50 :: 54 :: 50 :: 55 :: 50 :: 56 :: 50 :: 57 :: 51 :: 48 :: 51 :: 49 :: 51 :: 50 :: 51 :: 51 :: 51 :: 52 :: 51 :: 53 :: 51 :: 54 :: 51 :: 55 :: 51 :: 56 :: 51 :: 57 :: 52 :: 48 :: 52 :: 49 :: 52 :: 50 :: 52 :: 51 :: 52 :: 52 :: 52 :: 53 :: 52 :: 54 :: 52 :: 55 :: 52 :: 56 :: 52 :: 57 :: 53 :: 48 :: 53 :: 49 :: 53 :: 50 :: 53 :: 51 :: 53 :: 52 :: 53 :: 53 :: 53 :: 54 :: 53 :: 55 :: 53 :: 56 :: 53 :: 57 :: 54 :: 48 :: 54 :: 49 :: 54 :: 50 :: 54 :: 51 :: 54 :: 52 :: 54 :: 53 :: 54 :: 54 :: 54 :: 55 :: 54 :: 56 :: 54 :: 57 :: 55 :: 48 :: 55 :: 49 :: 55 :: 50 :: 55 :: 51 :: 55 :: 52 :: 55 :: 53 :: 55 :: 54 :: 55 :: 55 :: 55 :: 56 :: 55 :: 57 :: 56 :: 48 :: 56 :: 49 :: 56 :: 50 :: 56 :: 51 :: 56 :: 52 :: 56 :: 53 :: 56 :: 54 :: 56 :: 55 :: 56 :: 56 :: 56 :: 57 :: 57 :: 48 :: 57 :: 49 :: 57 :: 50 :: 57 :: 51 :: 57 :: 52 :: 57 :: 53 :: 57 :: 54 :: 57 :: 55 :: 57 :: 56 :: 57 :: 57 :: []⟩⟩ : ByteArray) = aAk := rfl
attribute [go_sem] aMC
def aAl : ByteArray := ⟨⟨48 :: 49 :: 50 :: 51 :: 52 :: 53 :: 54 :: 55 :: 56 :: 57 :: 97 :: 98 :: 99 :: 100 :: 101 :: 102 :: 103 :: 104 :: 105 :: 106 :: 107 :: 108 :: 109 :: 110 :: 111 :: 112 :: 113 :: 114 :: 115 :: 116 :: 117 :: 118 :: 119 :: 120 :: 121 :: 122 :: []⟩⟩
theorem aMD : (⟨⟨48 :: 49 :: 50 :: 51 :: 52 :: 53 :: 54 :: 55 :: 56 :: 57 :: 97 :: 98 :: 99 :: 100 :: 101 :: 102 :: 103 :: 104 :: 105 :: 106 :: 107 :: 108 :: 109 :: 110 :: 111 :: 112 :: 113 :: 114 :: 115 :: 116 :: 117 :: 118 :: 119 :: 120 :: 121 :: 122 :: []⟩⟩ : ByteArray) = aAl := rfl
attribute [go_sem] aMD
def wI : ByteArray := ⟨⟨32 :: 32 :: 32 :: 32 :: 32 :: 32 :: 32 :: 32 :: 32 :: 32 :: 32 :: 32 :: 32 :: 32 :: 32 :: 32 :: 32 :: 32 :: 32 :: 32 :: 32 :: 32 :: 32 :: 32 :: 32 :: 32 :: 32 :: 32 :: 32 :: 32 :: 32 :: 32 :: 32 :: 32 :: 32 :: 32 :: 32 :: 32 :: 32 :: 32 :: 32 :: 32 :: 32 :: 32 :: 32 :: 32 :: 32 :: 32 :: 32 :: 32 :: 32 :: 32 :: 32 :: 32 :: 32 :: 32 :: 32 :: 32 :: 32 :: 32 :: 32 :: 32 :: 32 :: 32 :: 32 :: 32 :: 32 :: 32 :: 32 :: 32 :: 32 :: 32 :: 32 :: 32 :: 32 :: 32 :: 32 :: 32 :: 32 :: 32 :: 32 :: 32 :: 32 :: 32 :: 32 :: 32 :: 32 :: 32 :: 32 :: 32 :: 32 :: 32 :: 32 :: 32 :: 32 :: 32 :: 32 :: 32 :: 32 :: 32 :: 32 :: 32 :: 32 :: 32 :: 32 :: 32 :: 32 :: 32 :: 32 :: 32 :: 32 :: 32 :: 32 :: 32 :: 32 :: 32 :: 32 :: 32 :: 32 :: 32 :: 32 :: 32 :: 32 :: 32 :: 32 :: 32 :: 32 :: 32 :: []⟩⟩
theorem aME : (⟨⟨32 :: 32 :: 32 :: 32 :: 32 :: 32 :: 32 :: 32 :: 32 :: 32 :: 32 :: 32 :: 32 :: 32 :: 32 :: 32 :: 32 :: 32 :: 32 :: 32 :: 32 :: 32 :: 32 :: 32 :: 32 :: 32 :: 32 :: 32 :: 32 :: 32 :: 32 :: 32 :: 32 :: 32 :: 32 :: 32 :: 32 :: 32 :: 32 :: 32 :: 32 :: 32 :: 32 :: 32 :: 32 :: 32 :: 32 :: 32 :: 32 :: 32 :: 32 :: 32 :: 32 :: 32 :: 32 :: 32 :: 32 :: 32 :: 32 :: 32 :: 32 :: 32 :: 32 :: 32 :: 32 :: 32 :: 32 :: 32 :: 32 :: 32 :: 32 :: 32 :: 32 :: 32 :: 32 :: 32 :: 32 :: 32 :: 32 :: 32 :: 32 :: 32 :: 32 :: 32 :: 32 :: 32 :: 32 :: 32 :: 32 :: 32 :: 32 :: 32 :: 32 :: 32 :: 32 :: 32 :: 32 :: 32 :: 32 :: 32 :: 32 :: 32 :: 32 :: 32 :: 32 :: 32 :: 32 :: 32 :: 32 :: 32 :: 32 :: 32 :: 32 :: 32 :: 32 :: 32 :: 32 :: 32 :: 32 :: 32 :: 32 :: 32 :: 32 :: 32 :: 32 :: 32 :: 32 :: 32 :: []⟩⟩ : ByteArray) = wI := rfl
attribute [go_sem] aME
noncomputable def eK (b_0 : Bool) : Option Int :=
 if b_0 = true then some (1 : Int) else some (0 : Int)
def vO : PlR := ⟨[(0, .A [0]), (1, .A [3]), (2, .A [2]), (3, .A [2])], []⟩
def xP : Ty := .pair .bool .unit
noncomputable def lU : aI := mSpec xP (.one (.i .i64)) (fun x => eK x.1)
noncomputable def aDj : List (FuncId × aI) := []
theorem aDk : bF Tryz.prog GL aDj := .nil
attribute [go_sem] xP vO
set_option maxHeartbeats 4000000 in
theorem aCy : FOK Tryz.prog GL 249 lU := by
 refine bD (bE aDk) mix Tryz.func249 rfl (by kernel_rfl) (by decide) vO fun w0 S x Θ hw h hF => ?_
 obtain ⟨(b_0 : Bool), u⟩ := x
 simp only [bH, go_sem]
 replace h : sat (eK b_0) _ := h
 unfold eK at h
 refine aHe h (fun hc h => ?_) fun hc h => ?_
 ·exact aG hF [.tmp 2] rfl rfl rfl (aA h) (by simp only [aV, go_sem])
 ·exact aG hF [.tmp 2] rfl rfl rfl (aA h) (by simp only [aV, go_sem])
attribute [go_sem] lU
noncomputable def bX (x_0 : Int) : Option Int :=
 ck (I64 (x_0 * (78913 : Int))) (some (Int.fdiv (x_0 * (78913 : Int)) (2 ^ (18 : Nat))))
def vP : PlR := ⟨[(0, .A [0]), (1, .A [2])], []⟩
def xQ : Ty := .pair (.i .i64) .unit
noncomputable def lV : aI := mSpec xQ (.one (.i .i64)) (fun x => bX x.1)
noncomputable def aDl : List (FuncId × aI) := []
theorem aDm : bF Tryz.prog GL aDl := .nil
attribute [go_sem] xQ vP
set_option maxHeartbeats 4000000 in
theorem aCz : FOK Tryz.prog GL 248 lV := by
 refine bD (bE aDm) mix Tryz.func248 rfl (by kernel_rfl) (by decide) vP fun w0 S x Θ hw h hF => ?_
 obtain ⟨(x_0 : Int), u⟩ := x
 simp only [bH, go_sem]
 replace h : sat (bX x_0) _ := h
 unfold bX at h
 refine aH h fun g0 h => ?_
 exact aG hF [.tmp 2] rfl rfl rfl (aA h) (by simp only [aV, go_sem])
attribute [go_sem] lV
noncomputable def aO (d_0 : Nat) : Option Int :=
 ck (((bX (dB d_0)).isSome = true)) (ck (0 ≤ ((bX (dB d_0)).getD (0 : Int)) ∧ ((bX (dB d_0)).getD (0 : Int)) < (20 : Int)) (ck (((eK (decide ((p10.getD (((bX (dB d_0)).getD (0 : Int)).toNat) (0 : Nat)) ≤ d_0))).isSome = true)) (ck (I64 (((bX (dB d_0)).getD (0 : Int)) + ((eK (decide ((p10.getD (((bX (dB d_0)).getD (0 : Int)).toNat) (0 : Nat)) ≤ d_0))).getD (0 : Int)))) (some (((bX (dB d_0)).getD (0 : Int)) + ((eK (decide ((p10.getD (((bX (dB d_0)).getD (0 : Int)).toNat) (0 : Nat)) ≤ d_0))).getD (0 : Int)))))))
def vQ : PlR := ⟨[(0, .A [0]), (1, .A [0, 3]), (2, .A [2])], []⟩
def xR : Ty := .pair (.u .u64) .unit
noncomputable def fQ : aI := mSpec xR (.one (.i .i64)) (fun x => aO x.1)
noncomputable def mP : List (FuncId × aI) := [(235, qD), (248, lV), (249, lU)]
theorem aDn : bF Tryz.prog GL mP := .cons aEc (by kernel_rfl) (.cons aCz (by kernel_rfl) (.cons aCy (by kernel_rfl) (.nil)))
theorem aA6 : gam mP 235 = some qD := rfl
theorem aA7 : gam mP 248 = some lV := rfl
theorem aA8 : gam mP 249 = some lU := rfl
attribute [go_sem] xR vQ aA6 aA7 aA8
set_option maxHeartbeats 4000000 in
theorem vR : FOK Tryz.prog GL 216 fQ := by
 refine bD (bE aDn) mix Tryz.func216 rfl (by kernel_rfl) (by decide) vQ fun w0 S x Θ hw h hF => ?_
 obtain ⟨(d_0 : Nat), u⟩ := x
 simp only [bH, go_sem]
 replace h : sat (aO d_0) _ := h
 unfold aO at h
 refine aH h fun g0 h => ?_
 refine aH h fun g0 h => aH h fun g1 h => aH h fun g2 h => ?_
 exact aG hF [.tmp 2] rfl rfl rfl (aA h) (by simp only [aV, go_sem])
attribute [go_sem] fQ
noncomputable def fG (i_0 : Int) : Option (List Nat) :=
 if i_0 < (10 : Int) then ck (I64 (i_0 + (1 : Int))) (ck (0 ≤ i_0 ∧ i_0 ≤ (i_0 + (1 : Int)) ∧ (i_0 + (1 : Int)) ≤ ((((aN aAl).length) : Nat) : Int)) (some (List.drop (i_0.toNat) (List.take ((i_0 + (1 : Int)).toNat) (aN aAl))))) else ck (I64 (i_0 * (2 : Int))) (ck (I64 (i_0 * (2 : Int))) (ck (I64 ((i_0 * (2 : Int)) + (2 : Int))) (ck (0 ≤ (i_0 * (2 : Int)) ∧ (i_0 * (2 : Int)) ≤ ((i_0 * (2 : Int)) + (2 : Int)) ∧ ((i_0 * (2 : Int)) + (2 : Int)) ≤ ((((aN aAk).length) : Nat) : Int)) (some (List.drop ((i_0 * (2 : Int)).toNat) (List.take (((i_0 * (2 : Int)) + (2 : Int)).toNat) (aN aAk)))))))
def aAI : PlR := ⟨[(0, .A [0]), (1, .A [0, 4]), (2, .A [2]), (3, .A [2])], []⟩
def aBx : Ty := .pair (.i .i64) .unit
noncomputable def jA : aI := mSpec aBx (.one .str) (fun x => fG x.1)
noncomputable def aGK : List (FuncId × aI) := []
theorem aGL : bF Tryz.prog GL aGK := .nil
attribute [go_sem] aBx aAI
set_option maxHeartbeats 4000000 in
theorem aAJ : FOK Tryz.prog GL 215 jA := by
 refine bD (bE aGL) mix Tryz.func215 rfl (by kernel_rfl) (by decide) aAI fun w0 S x Θ hw h hF => ?_
 obtain ⟨(i_0 : Int), u⟩ := x
 simp only [bH, go_sem]
 replace h : sat (fG i_0) _ := h
 unfold fG at h
 refine bW h (fun hc h => ?_) fun hc h => ?_
 ·refine aH h fun g0 h => aH h fun g1 h => ?_
  exact aG hF [.tmp 2] rfl rfl rfl (aA h) (by simp only [aV, go_sem])
 ·refine aH h fun g0 h => aH h fun g1 h => aH h fun g2 h => aH h fun g3 h => ?_
  exact aG hF [.tmp 2] rfl rfl rfl (aA h) (by simp only [aV, go_sem])
attribute [go_sem] jA
noncomputable def fR (i_0 : Nat) (base_1 : Int) : Option (List Nat) :=
 if base_1 = (10 : Int) then if i_0 < (100 : Nat) then ck (((fG (IntKind.i64.wrap ((i_0 : Nat) : Int))).isSome = true)) (some ((fG (IntKind.i64.wrap ((i_0 : Nat) : Int))).getD ([] : List Nat))) else ck (((aO i_0).isSome = true)) (ck ((0 : Int) < ((aO i_0).getD (0 : Int)) ∧ ((aO i_0).getD (0 : Int)) ≤ 24) (((cP (0 : Nat) ((((aO i_0).getD (0 : Int)) - (0 : Int)).toNat) i_0 (List.replicate 24 (0 : Nat)))).bind (fun r_5 => ck ((0 : Int) < ((aO i_0).getD (0 : Int)) ∧ ((aO i_0).getD (0 : Int)) ≤ 24) (ck ((0 : Nat) + ((((aO i_0).getD (0 : Int)) - (0 : Int)).toNat) ≤ 24) (some (List.take ((((aO i_0).getD (0 : Int)) - (0 : Int)).toNat) (List.drop (0 : Nat) r_5))))))) else none
def lW : Ty := .pair (.u .u64) (.pair (.i .i64) .unit)
attribute [go_sem] lW
noncomputable def jX : aI := mSpec lW (.one .str) (fun x => fR x.1 x.2.1)
noncomputable def lX : List (FuncId × aI) := [(215, jA), (216, fQ)]
theorem vS : bF Tryz.prog GL lX := .cons aAJ (by kernel_rfl) (.cons vR (by kernel_rfl) (.nil))
theorem aAr : gam lX 215 = some jA := rfl
attribute [go_sem] aAr
theorem aAs : gam lX 216 = some fQ := rfl
attribute [go_sem] aAs
set_option maxHeartbeats 4000000 in
theorem aB9 : FOK Tryz.prog GL 222 jX := by
 refine wE (bE vS) Tryz.func222 rfl (by kernel_rfl) (by decide) fun w0 S x r hw h => ?_
 have hF : vI (fr Tryz.prog (EM lX) S w0 Tryz.f222.ntmps) := ⟨bE vS, mix⟩
 obtain ⟨(i_0 : Nat), (base_1 : Int), u⟩ := x
 simp only [lW, Ty.wf, vX] at hw
 simp only [bH, lW]
 try dsimp only at h
 unfold fR at h
 refine aE (aD hF [0, 1] ?_)
 simp only [go_sem]
 refine aF (aE (aE (aD hF [0, 1, 10] ?_)))
 simp only [go_sem]
 refine aF (bR rfl (fun hc => ?_) (fun hc => ?_))
 ·try simp only [go_sem] at hc
  have h := gD (by first | exact hc | omega | (simpa using hc) | (simp at hc ⊢; omega)) h
  refine aE (aE (aD hF [0, 12] ?_))
  simp only [go_sem]
  refine aF (bR rfl (fun hc => ?_) (fun hc => ?_))
  ·try simp only [go_sem] at hc
   have h := gD (by first | exact hc | omega | (simpa using hc) | (simp at hc ⊢; omega)) h
   refine aE (aD hF [4] ?_)
   simp only [go_sem]
   obtain ⟨g0, h⟩ := aM h
   repeat (refine ⟨by first | with_reducible assumption | omega | (intros; first | assumption | omega) | (simp only [go_sem] at *; first | assumption | omega) | decide, ?_⟩)
   obtain rfl := Option.some.inj h
   refine aF (fC (cE (cE (gL hF [.tmp 4] rfl rfl rfl ?_))))
   (try simp only [oE, aV, go_sem]) <;> first | rfl | (simp; done)
  ·try simp only [go_sem] at hc
   have h := gE (by first | exact hc | omega | (simpa using hc) | (simp at hc ⊢; omega)) h
   refine cM (aF (aE (cK hF [0, 5] ?_)))
   simp only [go_sem]
   refine aF (aE (aD hF [0, 5, 6] ?_))
   simp only [go_sem]
   obtain ⟨g0, h⟩ := aM h
   repeat (refine ⟨by first | with_reducible assumption | omega | (intros; first | assumption | omega) | (simp only [go_sem] at *; first | assumption | omega) | decide, ?_⟩)
   obtain ⟨g0, h⟩ := aM h
   obtain ⟨r_5, he1, h⟩ := bind_some h
   try dsimp only at h
   refine aF (aE (dU hF (jV (l := [(217, ⟨iJ, [0], ((0 : Nat), ((((aO i_0).getD (0 : Int)) - (0 : Int)).toNat), i_0, (List.replicate 24 (0 : Nat)), r_5)⟩)]) (.cons sO (by kernel_rfl) (.nil))) [5, 6] [19] ?_))
   simp only [go_sem]
   repeat (refine ⟨by first | with_reducible assumption | omega | (intros; first | assumption | omega) | (simp only [go_sem] at *; first | assumption | omega) | decide, ?_⟩)
   obtain ⟨g0, h⟩ := aM h
   obtain ⟨g1, h⟩ := aM h
   refine aF (aE (dU hF (jV (l := []) (.nil)) [4] [23] ?_))
   simp only [go_sem]
   repeat (refine ⟨by first | with_reducible assumption | omega | (intros; first | assumption | omega) | (simp only [go_sem] at *; first | assumption | omega) | decide, ?_⟩)
   obtain rfl := Option.some.inj h
   refine aF (fC (cE (gL hF [.tmp 4] rfl rfl rfl ?_)))
   (try simp only [oE, aV, go_sem]) <;> first | rfl | (simp; done)
 ·try simp only [go_sem] at hc
  have h := gE (by first | exact hc | omega | (simpa using hc) | (simp at hc ⊢; omega)) h
  cases h
attribute [go_sem] jX
noncomputable def dM (i_0 : Nat) (base_1 : Int) : Option (List Nat) :=
 ck (((fR i_0 base_1).isSome = true)) (some ((fR i_0 base_1).getD ([] : List Nat)))
def vT : PlR := ⟨[(0, .A [0, 1]), (1, .A [4])], []⟩
def xS : Ty := .pair (.u .u64) (.pair (.i .i64) .unit)
noncomputable def lY : aI := mSpec xS (.one .str) (fun x => dM x.1 x.2.1)
noncomputable def xT : List (FuncId × aI) := [(222, jX)]
theorem aDo : bF Tryz.prog GL xT := .cons aB9 (by kernel_rfl) (.nil)
theorem aA9 : gam xT 222 = some jX := rfl
attribute [go_sem] xS vT aA9
set_option maxHeartbeats 4000000 in
theorem aCA : FOK Tryz.prog GL 167 lY := by
 refine bD (bE aDo) mix Tryz.func167 rfl (by kernel_rfl) (by decide) vT fun w0 S x Θ hw h hF => ?_
 obtain ⟨(i_0 : Nat), (base_1 : Int), u⟩ := x
 simp only [bH, go_sem]
 replace h : sat (dM i_0 base_1) _ := h
 unfold dM at h
 refine aH h fun g0 h => ?_
 exact aG hF [.tmp 4] rfl rfl rfl (aA h) (by simp only [aV, go_sem])
attribute [go_sem] lY
noncomputable def bJ (x_0 : Nat) (y_1 : Nat) : Option (Nat × (Nat × Unit)) :=
 some (((bG x_0 y_1).1), (((bG x_0 y_1).2).1), ())
def aHB : PlR := ⟨[(0, .A [0, 1]), (3, .A [8, 9]), (4, .A [4, 5])], []⟩
def aKT : Ty := .pair (.u .u64) (.pair (.u .u64) .unit)
noncomputable def aAK : aI := mSpec aKT (.tup (.pair (.u .u64) (.pair (.u .u64) .unit))) (fun x => bJ x.1 x.2.1)
noncomputable def aKU : List (FuncId × aI) := [(161, kF)]
theorem aRN : bF Tryz.prog GL aKU := .cons aA5 (by kernel_rfl) (.nil)
theorem aKV : gam aKU 161 = some kF := rfl
attribute [go_sem] aKT aHB aKV
set_option maxHeartbeats 4000000 in
theorem aQs : FOK Tryz.prog GL 168 aAK := by
 refine bD (bE aRN) mix Tryz.func168 rfl (by kernel_rfl) (by decide) aHB fun w0 S x Θ hw h hF => ?_
 obtain ⟨(x_0 : Nat), (y_1 : Nat), u⟩ := x
 simp only [bH, go_sem]
 replace h : sat (bJ x_0 y_1) _ := h
 unfold bJ at h
 exact aG hF [.tmp 4, .tmp 5] rfl rfl rfl (aA h) (by simp only [aV, go_sem])
attribute [go_sem] aAK
noncomputable def fW (s_0 : (List Nat)) (prefix_1 : (List Nat)) : Option Bool :=
 ck ((((prefix_1.length : Int) ≤ (s_0.length : Int)) → (0 ≤ (prefix_1.length : Int) ∧ (prefix_1.length : Int) ≤ (s_0.length : Int)))) (some ((decide ((prefix_1.length : Int) ≤ (s_0.length : Int))) && (decide ((List.take (prefix_1.length) s_0) = prefix_1))))
def sJ : PlR := ⟨[(0, .A [0, 1]), (1, .A [4])], []⟩
def sP : Ty := .pair .str (.pair .str .unit)
noncomputable def gX : aI := mSpec sP (.one .bool) (fun x => fW x.1 x.2.1)
noncomputable def aBa : List (FuncId × aI) := []
theorem aBb : bF Tryz.prog GL aBa := .nil
attribute [go_sem] sP sJ
set_option maxHeartbeats 4000000 in
theorem aAt : FOK Tryz.prog GL 224 gX := by
 refine bD (bE aBb) mix Tryz.func224 rfl (by kernel_rfl) (by decide) sJ fun w0 S x Θ hw h hF => ?_
 obtain ⟨(s_0 : (List Nat)), (prefix_1 : (List Nat)), u⟩ := x
 simp only [bH, go_sem]
 replace h : sat (fW s_0 prefix_1) _ := h
 unfold fW at h
 refine aH h fun g0 h => ?_
 exact aG hF [.tmp 4] rfl rfl rfl (aA h) (by simp only [aV, go_sem])
attribute [go_sem] gX
noncomputable def bL (s_0 : (List Nat)) (prefix_1 : (List Nat)) : Option Bool :=
 ck (((fW s_0 prefix_1).isSome = true)) (some ((fW s_0 prefix_1).getD false))
def xU : PlR := ⟨[(0, .A [0, 1]), (1, .A [4])], []⟩
def yG : Ty := .pair .str (.pair .str .unit)
noncomputable def mQ : aI := mSpec yG (.one .bool) (fun x => bL x.1 x.2.1)
noncomputable def yH : List (FuncId × aI) := [(224, gX)]
theorem aDZ : bF Tryz.prog GL yH := .cons aAt (by kernel_rfl) (.nil)
theorem aBy : gam yH 224 = some gX := rfl
attribute [go_sem] yG xU aBy
set_option maxHeartbeats 4000000 in
theorem aDp : FOK Tryz.prog GL 169 mQ := by
 refine bD (bE aDZ) mix Tryz.func169 rfl (by kernel_rfl) (by decide) xU fun w0 S x Θ hw h hF => ?_
 obtain ⟨(s_0 : (List Nat)), (prefix_1 : (List Nat)), u⟩ := x
 simp only [bH, go_sem]
 replace h : sat (bL s_0 prefix_1) _ := h
 unfold bL at h
 refine aH h fun g0 h => ?_
 exact aG hF [.tmp 4] rfl rfl rfl (aA h) (by simp only [aV, go_sem])
attribute [go_sem] mQ
noncomputable def jQ (chunkMax_4 : Int) : Option ((List Nat)) :=
 none
noncomputable def oB (s_0 : (List Nat)) (count_1 : Int) : Option ((List Nat)) :=
 if (8192 : Int) < (IntKind.i64.wrap ((((((bJ (((s_0.length : Int) % (18446744073709551616 : Int)).toNat) ((count_1 % (18446744073709551616 : Int)).toNat)).getD ((0 : Nat), (0 : Nat), ())).2).1) : Nat) : Int)) then ck ((s_0.length : Int) ≠ 0) (ck (I64 (Int.tdiv (8192 : Int) (s_0.length : Int))) (ck (I64 ((Int.tdiv (8192 : Int) (s_0.length : Int)) * (s_0.length : Int))) (if ((Int.tdiv (8192 : Int) (s_0.length : Int)) * (s_0.length : Int)) = (0 : Int) then jQ (s_0.length : Int) else jQ ((Int.tdiv (8192 : Int) (s_0.length : Int)) * (s_0.length : Int))))) else jQ (IntKind.i64.wrap ((((((bJ (((s_0.length : Int) % (18446744073709551616 : Int)).toNat) ((count_1 % (18446744073709551616 : Int)).toNat)).getD ((0 : Nat), (0 : Nat), ())).2).1) : Nat) : Int))
noncomputable def dW (s_0 : (List Nat)) (count_1 : Int) (x43_5 : Bool) : Option ((List Nat)) :=
 if x43_5 = true then ck ((((IntKind.i64.wrap ((((((bJ (((s_0.length : Int) % (18446744073709551616 : Int)).toNat) ((count_1 % (18446744073709551616 : Int)).toNat)).getD ((0 : Nat), (0 : Nat), ())).2).1) : Nat) : Int)) ≤ (128 : Int)) → (((bL (aN wI) s_0).isSome = true)))) (if ((IntKind.i64.wrap ((((((bJ (((s_0.length : Int) % (18446744073709551616 : Int)).toNat) ((count_1 % (18446744073709551616 : Int)).toNat)).getD ((0 : Nat), (0 : Nat), ())).2).1) : Nat) : Int)) ≤ (128 : Int)) ∧ (((bL (aN wI) s_0).getD false) = true) then ck (0 ≤ (IntKind.i64.wrap ((((((bJ (((s_0.length : Int) % (18446744073709551616 : Int)).toNat) ((count_1 % (18446744073709551616 : Int)).toNat)).getD ((0 : Nat), (0 : Nat), ())).2).1) : Nat) : Int)) ∧ (IntKind.i64.wrap ((((((bJ (((s_0.length : Int) % (18446744073709551616 : Int)).toNat) ((count_1 % (18446744073709551616 : Int)).toNat)).getD ((0 : Nat), (0 : Nat), ())).2).1) : Nat) : Int)) ≤ ((((aN wI).length) : Nat) : Int)) (some (List.take ((IntKind.i64.wrap ((((((bJ (((s_0.length : Int) % (18446744073709551616 : Int)).toNat) ((count_1 % (18446744073709551616 : Int)).toNat)).getD ((0 : Nat), (0 : Nat), ())).2).1) : Nat) : Int)).toNat) (aN wI))) else ck ((((IntKind.i64.wrap ((((((bJ (((s_0.length : Int) % (18446744073709551616 : Int)).toNat) ((count_1 % (18446744073709551616 : Int)).toNat)).getD ((0 : Nat), (0 : Nat), ())).2).1) : Nat) : Int)) ≤ (128 : Int)) → (((bL (aN wH) s_0).isSome = true)))) (if ((IntKind.i64.wrap ((((((bJ (((s_0.length : Int) % (18446744073709551616 : Int)).toNat) ((count_1 % (18446744073709551616 : Int)).toNat)).getD ((0 : Nat), (0 : Nat), ())).2).1) : Nat) : Int)) ≤ (128 : Int)) ∧ (((bL (aN wH) s_0).getD false) = true) then ck (0 ≤ (IntKind.i64.wrap ((((((bJ (((s_0.length : Int) % (18446744073709551616 : Int)).toNat) ((count_1 % (18446744073709551616 : Int)).toNat)).getD ((0 : Nat), (0 : Nat), ())).2).1) : Nat) : Int)) ∧ (IntKind.i64.wrap ((((((bJ (((s_0.length : Int) % (18446744073709551616 : Int)).toNat) ((count_1 % (18446744073709551616 : Int)).toNat)).getD ((0 : Nat), (0 : Nat), ())).2).1) : Nat) : Int)) ≤ ((((aN wH).length) : Nat) : Int)) (some (List.take ((IntKind.i64.wrap ((((((bJ (((s_0.length : Int) % (18446744073709551616 : Int)).toNat) ((count_1 % (18446744073709551616 : Int)).toNat)).getD ((0 : Nat), (0 : Nat), ())).2).1) : Nat) : Int)).toNat) (aN wH))) else ck ((((IntKind.i64.wrap ((((((bJ (((s_0.length : Int) % (18446744073709551616 : Int)).toNat) ((count_1 % (18446744073709551616 : Int)).toNat)).getD ((0 : Nat), (0 : Nat), ())).2).1) : Nat) : Int)) ≤ (64 : Int)) → (((bL (aN tG) s_0).isSome = true)))) (if ((IntKind.i64.wrap ((((((bJ (((s_0.length : Int) % (18446744073709551616 : Int)).toNat) ((count_1 % (18446744073709551616 : Int)).toNat)).getD ((0 : Nat), (0 : Nat), ())).2).1) : Nat) : Int)) ≤ (64 : Int)) ∧ (((bL (aN tG) s_0).getD false) = true) then ck (0 ≤ (IntKind.i64.wrap ((((((bJ (((s_0.length : Int) % (18446744073709551616 : Int)).toNat) ((count_1 % (18446744073709551616 : Int)).toNat)).getD ((0 : Nat), (0 : Nat), ())).2).1) : Nat) : Int)) ∧ (IntKind.i64.wrap ((((((bJ (((s_0.length : Int) % (18446744073709551616 : Int)).toNat) ((count_1 % (18446744073709551616 : Int)).toNat)).getD ((0 : Nat), (0 : Nat), ())).2).1) : Nat) : Int)) ≤ ((((aN tG).length) : Nat) : Int)) (some (List.take ((IntKind.i64.wrap ((((((bJ (((s_0.length : Int) % (18446744073709551616 : Int)).toNat) ((count_1 % (18446744073709551616 : Int)).toNat)).getD ((0 : Nat), (0 : Nat), ())).2).1) : Nat) : Int)).toNat) (aN tG))) else ck ((((IntKind.i64.wrap ((((((bJ (((s_0.length : Int) % (18446744073709551616 : Int)).toNat) ((count_1 % (18446744073709551616 : Int)).toNat)).getD ((0 : Nat), (0 : Nat), ())).2).1) : Nat) : Int)) ≤ (128 : Int)) → (((bL (aN aAi) s_0).isSome = true)))) (if ((IntKind.i64.wrap ((((((bJ (((s_0.length : Int) % (18446744073709551616 : Int)).toNat) ((count_1 % (18446744073709551616 : Int)).toNat)).getD ((0 : Nat), (0 : Nat), ())).2).1) : Nat) : Int)) ≤ (128 : Int)) ∧ (((bL (aN aAi) s_0).getD false) = true) then ck (0 ≤ (IntKind.i64.wrap ((((((bJ (((s_0.length : Int) % (18446744073709551616 : Int)).toNat) ((count_1 % (18446744073709551616 : Int)).toNat)).getD ((0 : Nat), (0 : Nat), ())).2).1) : Nat) : Int)) ∧ (IntKind.i64.wrap ((((((bJ (((s_0.length : Int) % (18446744073709551616 : Int)).toNat) ((count_1 % (18446744073709551616 : Int)).toNat)).getD ((0 : Nat), (0 : Nat), ())).2).1) : Nat) : Int)) ≤ ((((aN aAi).length) : Nat) : Int)) (some (List.take ((IntKind.i64.wrap ((((((bJ (((s_0.length : Int) % (18446744073709551616 : Int)).toNat) ((count_1 % (18446744073709551616 : Int)).toNat)).getD ((0 : Nat), (0 : Nat), ())).2).1) : Nat) : Int)).toNat) (aN aAi))) else ck ((((IntKind.i64.wrap ((((((bJ (((s_0.length : Int) % (18446744073709551616 : Int)).toNat) ((count_1 % (18446744073709551616 : Int)).toNat)).getD ((0 : Nat), (0 : Nat), ())).2).1) : Nat) : Int)) ≤ (64 : Int)) → (((bL (aN aAj) s_0).isSome = true)))) (if ((IntKind.i64.wrap ((((((bJ (((s_0.length : Int) % (18446744073709551616 : Int)).toNat) ((count_1 % (18446744073709551616 : Int)).toNat)).getD ((0 : Nat), (0 : Nat), ())).2).1) : Nat) : Int)) ≤ (64 : Int)) ∧ (((bL (aN aAj) s_0).getD false) = true) then ck (0 ≤ (IntKind.i64.wrap ((((((bJ (((s_0.length : Int) % (18446744073709551616 : Int)).toNat) ((count_1 % (18446744073709551616 : Int)).toNat)).getD ((0 : Nat), (0 : Nat), ())).2).1) : Nat) : Int)) ∧ (IntKind.i64.wrap ((((((bJ (((s_0.length : Int) % (18446744073709551616 : Int)).toNat) ((count_1 % (18446744073709551616 : Int)).toNat)).getD ((0 : Nat), (0 : Nat), ())).2).1) : Nat) : Int)) ≤ ((((aN aAj).length) : Nat) : Int)) (some (List.take ((IntKind.i64.wrap ((((((bJ (((s_0.length : Int) % (18446744073709551616 : Int)).toNat) ((count_1 % (18446744073709551616 : Int)).toNat)).getD ((0 : Nat), (0 : Nat), ())).2).1) : Nat) : Int)).toNat) (aN aAj))) else oB s_0 count_1))))) else oB s_0 count_1
noncomputable def aR (s_0 : (List Nat)) (count_1 : Int) : Option (List Nat) :=
 if count_1 = (0 : Int) then some (aN ⟨#[]⟩) else if count_1 = (1 : Int) then some s_0 else if count_1 < (0 : Int) then none else ck (((bJ (((s_0.length : Int) % (18446744073709551616 : Int)).toNat) ((count_1 % (18446744073709551616 : Int)).toNat)).isSome = true)) (if ((0 : Nat) < (((bJ (((s_0.length : Int) % (18446744073709551616 : Int)).toNat) ((count_1 % (18446744073709551616 : Int)).toNat)).getD ((0 : Nat), (0 : Nat), ())).1)) ∨ ((9223372036854775807 : Nat) < ((((bJ (((s_0.length : Int) % (18446744073709551616 : Int)).toNat) ((count_1 % (18446744073709551616 : Int)).toNat)).getD ((0 : Nat), (0 : Nat), ())).2).1)) then none else if (s_0.length : Int) = (0 : Int) then some (aN ⟨#[]⟩) else ck ((0 : Int) < (s_0.length : Int)) (if (s_0.getD (0 : Nat) (0 : Nat)) = (32 : Nat) then dW s_0 count_1 (decide ((s_0.getD (0 : Nat) (0 : Nat)) = (32 : Nat))) else if (s_0.getD (0 : Nat) (0 : Nat)) = (45 : Nat) then dW s_0 count_1 (decide ((s_0.getD (0 : Nat) (0 : Nat)) = (45 : Nat))) else if (s_0.getD (0 : Nat) (0 : Nat)) = (48 : Nat) then dW s_0 count_1 (decide ((s_0.getD (0 : Nat) (0 : Nat)) = (48 : Nat))) else if (s_0.getD (0 : Nat) (0 : Nat)) = (61 : Nat) then dW s_0 count_1 (decide ((s_0.getD (0 : Nat) (0 : Nat)) = (61 : Nat))) else dW s_0 count_1 (decide ((s_0.getD (0 : Nat) (0 : Nat)) = (9 : Nat)))))
def rV : Ty := .pair .str (.pair (.i .i64) .unit)
attribute [go_sem] rV
noncomputable def jB : aI := mSpec rV (.one .str) (fun x => aR x.1 x.2.1)
noncomputable def rW : List (FuncId × aI) := [(168, aAK), (169, mQ)]
theorem aBz : bF Tryz.prog GL rW := .cons aQs (by kernel_rfl) (.cons aDp (by kernel_rfl) (.nil))
theorem aDq : gam rW 168 = some aAK := rfl
attribute [go_sem] aDq
theorem aDr : gam rW 169 = some mQ := rfl
attribute [go_sem] aDr
set_option maxHeartbeats 4000000 in
theorem aAL : FOK Tryz.prog GL 101 jB := by
 refine wE (bE aBz) Tryz.func101 rfl (by kernel_rfl) (by decide) fun w0 S x r hw h => ?_
 have hF : vI (fr Tryz.prog (EM rW) S w0 Tryz.f101.ntmps) := ⟨bE aBz, mix⟩
 obtain ⟨(s_0 : (List Nat)), (count_1 : Int), u⟩ := x
 simp only [rV, Ty.wf, vX] at hw
 simp only [bH, rV]
 try dsimp only at h
 unfold aR at h
 refine aE (aD hF [0, 1] ?_)
 simp only [go_sem]
 refine aF (aE (aE (aD hF [0, 1, 11] ?_)))
 simp only [go_sem]
 refine aF (dN (aE (aD hF [0, 1, 11, 12] ?_)))
 simp only [go_sem]
 refine aF (bR rfl (fun hc => ?_) (fun hc => ?_))
 ·try simp only [go_sem] at hc
  have h := gD (by first | exact hc | omega | (simpa using hc) | (simp at hc ⊢; omega)) h
  refine aE (aD hF [4] ?_)
  simp only [go_sem]
  obtain rfl := Option.some.inj h
  refine aF (fC (dZ (cE (gL hF [.tmp 4] rfl rfl rfl ?_))))
  (try simp only [oE, aV, go_sem]) <;> first | rfl | (simp; done)
 ·try simp only [go_sem] at hc
  have h := gE (by first | exact hc | omega | (simpa using hc) | (simp at hc ⊢; omega)) h
  refine aE (aD hF [0, 1, 14] ?_)
  simp only [go_sem]
  refine aF (bR rfl (fun hc => ?_) (fun hc => ?_))
  ·try simp only [go_sem] at hc
   have h := gD (by first | exact hc | omega | (simpa using hc) | (simp at hc ⊢; omega)) h
   refine aE (aD hF [4] ?_)
   simp only [go_sem]
   obtain rfl := Option.some.inj h
   refine aF (fC (dZ (cE (gL hF [.tmp 4] rfl rfl rfl ?_))))
   (try simp only [oE, aV, go_sem]) <;> first | rfl | (simp; done)
  ·try simp only [go_sem] at hc
   have h := gE (by first | exact hc | omega | (simpa using hc) | (simp at hc ⊢; omega)) h
   refine cM (eT (aF (aE (aE (aD hF [0, 1, 18] ?_)))))
   simp only [go_sem]
   refine aF (bR rfl (fun hc => ?_) (fun hc => ?_))
   ·try simp only [go_sem] at hc
    have h := gD (by first | exact hc | omega | (simpa using hc) | (simp at hc ⊢; omega)) h
    cases h
   ·try simp only [go_sem] at hc
    have h := gE (by first | exact hc | omega | (simpa using hc) | (simp at hc ⊢; omega)) h
    refine cM (aF (aE (aD hF [0, 5, 6] ?_)))
    simp only [go_sem]
    obtain ⟨g0, h⟩ := aM h
    repeat (refine ⟨by first | with_reducible assumption | omega | (intros; first | assumption | omega) | (simp only [go_sem] at *; first | assumption | omega) | decide, ?_⟩)
    refine aF (aE (aE (aD hF [0, 6, 34] ?_)))
    simp only [go_sem]
    refine aF (bR rfl (fun hc => ?_) (fun hc => ?_))
    ·try simp only [go_sem] at hc
     have h := gD (by first | exact hc | omega | (simpa using hc) | (simp at hc ⊢; omega)) h
     cases h
    ·try simp only [go_sem] at hc
     have h := gE (by first | exact hc | omega | (simpa using hc) | (simp at hc ⊢; omega)) h
     refine cM (aF (aE (aD hF [0, 7] ?_)))
     simp only [go_sem]
     refine aF (aE (aE (aD hF [0, 7, 40] ?_)))
     simp only [go_sem]
     refine aF (bR rfl (fun hc => ?_) (fun hc => ?_))
     ·try simp only [go_sem] at hc
      have h := gD (by first | exact hc | omega | (simpa using hc) | (simp at hc ⊢; omega)) h
      refine aE (aD hF [4] ?_)
      simp only [go_sem]
      obtain rfl := Option.some.inj h
      refine aF (fC (cE (gL hF [.tmp 4] rfl rfl rfl ?_)))
      (try simp only [oE, aV, go_sem]) <;> first | rfl | (simp; done)
     ·try simp only [go_sem] at hc
      have h := gE (by first | exact hc | omega | (simpa using hc) | (simp at hc ⊢; omega)) h
      refine cM (aF (qC (D := Unit) (fun d => oB s_0 count_1 = some r) [0, 7] (fun d => []) (fun d => []) ?_ ?_))
      ·refine aE (aD hF [0, 7, 42] ?_)
       simp only [go_sem]
       obtain ⟨g0, h⟩ := aM h
       repeat (refine ⟨by first | with_reducible assumption | omega | (intros; first | assumption | omega) | (simp only [go_sem] at *; first | assumption | omega) | decide, ?_⟩)
       refine aF (dN (qC (D := Bool) (fun d => dW s_0 count_1 d = some r) [0, 7] (fun d => [(43, .val .bool d)]) (fun d => []) ?_ ?_))
       ·refine aE (aD hF [0, 7, 42, 43] ?_)
        simp only [go_sem]
        refine aF (bR rfl (fun hc => ?_) (fun hc => ?_))
        ·try simp only [go_sem] at hc
         have h := gD (by first | exact hc | omega | (simpa using hc) | (simp at hc ⊢; omega)) h
         refine cM (bI (aP ((decide ((s_0.getD (0 : Nat) (0 : Nat)) = (32 : Nat)))) h rfl ?_))
         ·(try simp only [kU, hZ, true_or, and_self, go_sem]) <;> (repeat' apply And.intro) <;> first | rfl | (left; rfl) | (right; rfl) | (left; simp only [go_sem]; done) | (right; simp only [go_sem]; done) | (simp; done) | (simp only [*]; done) | omega
        ·try simp only [go_sem] at hc
         have h := gE (by first | exact hc | omega | (simpa using hc) | (simp at hc ⊢; omega)) h
         refine aE (aD hF [0, 7, 42, 43] ?_)
         simp only [go_sem]
         refine aF (bR rfl (fun hc => ?_) (fun hc => ?_))
         ·try simp only [go_sem] at hc
          have h := gD (by first | exact hc | omega | (simpa using hc) | (simp at hc ⊢; omega)) h
          refine cM (bI (aP ((decide ((s_0.getD (0 : Nat) (0 : Nat)) = (45 : Nat)))) h rfl ?_))
          ·(try simp only [kU, hZ, true_or, and_self, go_sem]) <;> (repeat' apply And.intro) <;> first | rfl | (left; rfl) | (right; rfl) | (left; simp only [go_sem]; done) | (right; simp only [go_sem]; done) | (simp; done) | (simp only [*]; done) | omega
         ·try simp only [go_sem] at hc
          have h := gE (by first | exact hc | omega | (simpa using hc) | (simp at hc ⊢; omega)) h
          refine aE (aD hF [0, 7, 42, 43] ?_)
          simp only [go_sem]
          refine aF (bR rfl (fun hc => ?_) (fun hc => ?_))
          ·try simp only [go_sem] at hc
           have h := gD (by first | exact hc | omega | (simpa using hc) | (simp at hc ⊢; omega)) h
           refine cM (bI (aP ((decide ((s_0.getD (0 : Nat) (0 : Nat)) = (48 : Nat)))) h rfl ?_))
           ·(try simp only [kU, hZ, true_or, and_self, go_sem]) <;> (repeat' apply And.intro) <;> first | rfl | (left; rfl) | (right; rfl) | (left; simp only [go_sem]; done) | (right; simp only [go_sem]; done) | (simp; done) | (simp only [*]; done) | omega
          ·try simp only [go_sem] at hc
           have h := gE (by first | exact hc | omega | (simpa using hc) | (simp at hc ⊢; omega)) h
           refine aE (aD hF [0, 7, 42, 43] ?_)
           simp only [go_sem]
           refine aF (bR rfl (fun hc => ?_) (fun hc => ?_))
           ·try simp only [go_sem] at hc
            have h := gD (by first | exact hc | omega | (simpa using hc) | (simp at hc ⊢; omega)) h
            refine cM (bI (aP ((decide ((s_0.getD (0 : Nat) (0 : Nat)) = (61 : Nat)))) h rfl ?_))
            ·(try simp only [kU, hZ, true_or, and_self, go_sem]) <;> (repeat' apply And.intro) <;> first | rfl | (left; rfl) | (right; rfl) | (left; simp only [go_sem]; done) | (right; simp only [go_sem]; done) | (simp; done) | (simp only [*]; done) | omega
           ·try simp only [go_sem] at hc
            have h := gE (by first | exact hc | omega | (simpa using hc) | (simp at hc ⊢; omega)) h
            refine aD hF [0, 7, 43] ?_
            simp only [go_sem]
            refine bI (aP ((decide ((s_0.getD (0 : Nat) (0 : Nat)) = (9 : Nat)))) h rfl ?_)
            ·(try simp only [kU, hZ, true_or, and_self, go_sem]) <;> (repeat' apply And.intro) <;> first | rfl | (left; rfl) | (right; rfl) | (left; simp only [go_sem]; done) | (right; simp only [go_sem]; done) | (simp; done) | (simp only [*]; done) | omega
       ·rintro x43_5 h
        try dsimp only at h
        simp only [go_sem]
        unfold dW at h
        refine bR rfl (fun hc => ?_) (fun hc => ?_)
        ·try simp only [go_sem] at hc
         have h := gD (by first | exact hc | omega | (simpa using hc) | (simp at hc ⊢; omega)) h
         refine dN (aE (aD hF [0, 7, 49] ?_))
         simp only [go_sem]
         obtain ⟨g0, h⟩ := aM h
         repeat (refine ⟨by first | with_reducible assumption | omega | (intros; first | assumption | omega) | (simp only [go_sem] at *; first | assumption | omega) | (intro q0; (try have e0 := g0 (by first | exact q0 | omega | (simpa using q0))); first | assumption | omega) | decide, ?_⟩)
         refine aF (bR rfl (fun hc => ?_) (fun hc => ?_))
         ·try simp only [go_sem] at hc
          have h := gD (by first | exact hc | omega | (simpa using hc) | (simp at hc ⊢; omega)) h
          refine aE (aD hF [4] ?_)
          simp only [go_sem]
          obtain ⟨g0, h⟩ := aM h
          repeat (refine ⟨by first | with_reducible assumption | omega | (intros; first | assumption | omega) | (simp only [go_sem] at *; first | assumption | omega) | decide, ?_⟩)
          obtain rfl := Option.some.inj h
          refine aF (fC (dZ (dZ (cE (gL hF [.tmp 4] rfl rfl rfl ?_)))))
          (try simp only [oE, aV, go_sem]) <;> first | rfl | (simp; done)
         ·try simp only [go_sem] at hc
          have h := gE (by first | exact hc | omega | (simpa using hc) | (simp at hc ⊢; omega)) h
          refine aE (aD hF [0, 7, 58] ?_)
          simp only [go_sem]
          obtain ⟨g0, h⟩ := aM h
          repeat (refine ⟨by first | with_reducible assumption | omega | (intros; first | assumption | omega) | (simp only [go_sem] at *; first | assumption | omega) | (intro q0; (try have e0 := g0 (by first | exact q0 | omega | (simpa using q0))); first | assumption | omega) | decide, ?_⟩)
          refine aF (bR rfl (fun hc => ?_) (fun hc => ?_))
          ·try simp only [go_sem] at hc
           have h := gD (by first | exact hc | omega | (simpa using hc) | (simp at hc ⊢; omega)) h
           refine aE (aD hF [4] ?_)
           simp only [go_sem]
           obtain ⟨g0, h⟩ := aM h
           repeat (refine ⟨by first | with_reducible assumption | omega | (intros; first | assumption | omega) | (simp only [go_sem] at *; first | assumption | omega) | decide, ?_⟩)
           obtain rfl := Option.some.inj h
           refine aF (fC (dZ (dZ (cE (gL hF [.tmp 4] rfl rfl rfl ?_)))))
           (try simp only [oE, aV, go_sem]) <;> first | rfl | (simp; done)
          ·try simp only [go_sem] at hc
           have h := gE (by first | exact hc | omega | (simpa using hc) | (simp at hc ⊢; omega)) h
           refine aE (aD hF [0, 7, 67] ?_)
           simp only [go_sem]
           obtain ⟨g0, h⟩ := aM h
           repeat (refine ⟨by first | with_reducible assumption | omega | (intros; first | assumption | omega) | (simp only [go_sem] at *; first | assumption | omega) | (intro q0; (try have e0 := g0 (by first | exact q0 | omega | (simpa using q0))); first | assumption | omega) | decide, ?_⟩)
           refine aF (bR rfl (fun hc => ?_) (fun hc => ?_))
           ·try simp only [go_sem] at hc
            have h := gD (by first | exact hc | omega | (simpa using hc) | (simp at hc ⊢; omega)) h
            refine aE (aD hF [4] ?_)
            simp only [go_sem]
            obtain ⟨g0, h⟩ := aM h
            repeat (refine ⟨by first | with_reducible assumption | omega | (intros; first | assumption | omega) | (simp only [go_sem] at *; first | assumption | omega) | decide, ?_⟩)
            obtain rfl := Option.some.inj h
            refine aF (fC (dZ (dZ (cE (gL hF [.tmp 4] rfl rfl rfl ?_)))))
            (try simp only [oE, aV, go_sem]) <;> first | rfl | (simp; done)
           ·try simp only [go_sem] at hc
            have h := gE (by first | exact hc | omega | (simpa using hc) | (simp at hc ⊢; omega)) h
            refine aE (aD hF [0, 7, 76] ?_)
            simp only [go_sem]
            obtain ⟨g0, h⟩ := aM h
            repeat (refine ⟨by first | with_reducible assumption | omega | (intros; first | assumption | omega) | (simp only [go_sem] at *; first | assumption | omega) | (intro q0; (try have e0 := g0 (by first | exact q0 | omega | (simpa using q0))); first | assumption | omega) | decide, ?_⟩)
            refine aF (bR rfl (fun hc => ?_) (fun hc => ?_))
            ·try simp only [go_sem] at hc
             have h := gD (by first | exact hc | omega | (simpa using hc) | (simp at hc ⊢; omega)) h
             refine aE (aD hF [4] ?_)
             simp only [go_sem]
             obtain ⟨g0, h⟩ := aM h
             repeat (refine ⟨by first | with_reducible assumption | omega | (intros; first | assumption | omega) | (simp only [go_sem] at *; first | assumption | omega) | decide, ?_⟩)
             obtain rfl := Option.some.inj h
             refine aF (fC (dZ (dZ (cE (gL hF [.tmp 4] rfl rfl rfl ?_)))))
             (try simp only [oE, aV, go_sem]) <;> first | rfl | (simp; done)
            ·try simp only [go_sem] at hc
             have h := gE (by first | exact hc | omega | (simpa using hc) | (simp at hc ⊢; omega)) h
             refine aE (aD hF [0, 7, 85] ?_)
             simp only [go_sem]
             obtain ⟨g0, h⟩ := aM h
             repeat (refine ⟨by first | with_reducible assumption | omega | (intros; first | assumption | omega) | (simp only [go_sem] at *; first | assumption | omega) | (intro q0; (try have e0 := g0 (by first | exact q0 | omega | (simpa using q0))); first | assumption | omega) | decide, ?_⟩)
             refine aF (bR rfl (fun hc => ?_) (fun hc => ?_))
             ·try simp only [go_sem] at hc
              have h := gD (by first | exact hc | omega | (simpa using hc) | (simp at hc ⊢; omega)) h
              refine aE (aD hF [4] ?_)
              simp only [go_sem]
              obtain ⟨g0, h⟩ := aM h
              repeat (refine ⟨by first | with_reducible assumption | omega | (intros; first | assumption | omega) | (simp only [go_sem] at *; first | assumption | omega) | decide, ?_⟩)
              obtain rfl := Option.some.inj h
              refine aF (fC (dZ (dZ (cE (gL hF [.tmp 4] rfl rfl rfl ?_)))))
              (try simp only [oE, aV, go_sem]) <;> first | rfl | (simp; done)
             ·try simp only [go_sem] at hc
              have h := gE (by first | exact hc | omega | (simpa using hc) | (simp at hc ⊢; omega)) h
              refine cM (eT (eT (bI (aP (()) h rfl ?_))))
              ·(try simp only [kU, hZ, true_or, and_self, go_sem]) <;> (repeat' apply And.intro) <;> first | rfl | (left; rfl) | (right; rfl) | (left; simp only [go_sem]; done) | (right; simp only [go_sem]; done) | (simp; done) | (simp only [*]; done) | omega
        ·try simp only [go_sem] at hc
         have h := gE (by first | exact hc | omega | (simpa using hc) | (simp at hc ⊢; omega)) h
         refine cM (eT (bI (aP (()) h rfl ?_)))
         ·(try simp only [kU, hZ, true_or, and_self, go_sem]) <;> (repeat' apply And.intro) <;> first | rfl | (left; rfl) | (right; rfl) | (left; simp only [go_sem]; done) | (right; simp only [go_sem]; done) | (simp; done) | (simp only [*]; done) | omega
      ·rintro u h
       try dsimp only at h
       simp only [go_sem]
       unfold oB at h
       refine aE (aD hF [0, 7, 8] ?_)
       simp only [go_sem]
       refine aF (qC (D := Int) (fun d => jQ d = some r) [0, 7] (fun d => [(8, .val (.i .i64) d)]) (fun d => []) ?_ ?_)
       ·refine aE (aD hF [0, 7, 8, 96] ?_)
        simp only [go_sem]
        refine aF (bR rfl (fun hc => ?_) (fun hc => ?_))
        ·try simp only [go_sem] at hc
         have h := gD (by first | exact hc | omega | (simpa using hc) | (simp at hc ⊢; omega)) h
         refine aE (aD hF [0, 7, 8] ?_)
         simp only [go_sem]
         obtain ⟨g0, h⟩ := aM h
         obtain ⟨g1, h⟩ := aM h
         obtain ⟨g2, h⟩ := aM h
         try simp only [I64, I32] at g1
         try simp only [I64, I32] at g2
         repeat (refine ⟨by first | with_reducible assumption | omega | (intros; first | assumption | omega) | (simp only [go_sem] at *; first | assumption | omega) | decide, ?_⟩)
         refine aF (aE (aD hF [0, 7, 8, 104] ?_))
         simp only [go_sem]
         refine aF (bR rfl (fun hc => ?_) (fun hc => ?_))
         ·try simp only [go_sem] at hc
          have h := gD (by first | exact hc | omega | (simpa using hc) | (simp at hc ⊢; omega)) h
          refine aD hF [0, 7, 8] ?_
          simp only [go_sem]
          refine bI (aP ((s_0.length : Int)) h rfl ?_)
          ·(try simp only [kU, hZ, true_or, and_self, go_sem]) <;> (repeat' apply And.intro) <;> first | rfl | (left; rfl) | (right; rfl) | (left; simp only [go_sem]; done) | (right; simp only [go_sem]; done) | (simp; done) | (simp only [*]; done) | omega
         ·try simp only [go_sem] at hc
          have h := gE (by first | exact hc | omega | (simpa using hc) | (simp at hc ⊢; omega)) h
          refine cM (bI (aP (((Int.tdiv (8192 : Int) (s_0.length : Int)) * (s_0.length : Int))) h rfl ?_))
          ·(try simp only [kU, hZ, true_or, and_self, go_sem]) <;> (repeat' apply And.intro) <;> first | rfl | (left; rfl) | (right; rfl) | (left; simp only [go_sem]; done) | (right; simp only [go_sem]; done) | (simp; done) | (simp only [*]; done) | omega
        ·try simp only [go_sem] at hc
         have h := gE (by first | exact hc | omega | (simpa using hc) | (simp at hc ⊢; omega)) h
         refine cM (bI (aP ((IntKind.i64.wrap ((((((bJ (((s_0.length : Int) % (18446744073709551616 : Int)).toNat) ((count_1 % (18446744073709551616 : Int)).toNat)).getD ((0 : Nat), (0 : Nat), ())).2).1) : Nat) : Int))) h rfl ?_))
         ·(try simp only [kU, hZ, true_or, and_self, go_sem]) <;> (repeat' apply And.intro) <;> first | rfl | (left; rfl) | (right; rfl) | (left; simp only [go_sem]; done) | (right; simp only [go_sem]; done) | (simp; done) | (simp only [*]; done) | omega
       ·rintro chunkMax_4 h
        try dsimp only at h
        simp only [go_sem]
        unfold jQ at h
        refine aE (cK hF [0, 7, 8, 9] ?_)
        simp only [go_sem]
        refine aVB 0 4294967397 5 rfl ?_
        simp only [go_sem]
        cases h
attribute [go_sem] jB
end Nu
end Go.Proofs
namespace Go.Proofs
open Go.Vc
set_option maxRecDepth 20000
namespace Nu
noncomputable def lE (l_8 : (List (List Nat))) (out_13 : (List Nat)) (x44_14 : Int) : Option (((List Nat) × Int) ⊕ (((List Nat)))) :=
 if x44_14 < (l_8.length : Int) then ck (0 ≤ x44_14 ∧ x44_14 < (l_8.length : Int)) (ck (((l_8.getD (x44_14.toNat) ([] : List Nat)).length) + (out_13.length) ≤ 9223372036854775807) (ck (I64 (x44_14 + (1 : Int))) (some (.inl (((l_8.getD (x44_14.toNat) ([] : List Nat)) ++ out_13), (x44_14 + (1 : Int))))))) else some (.inr out_13)
noncomputable def qF (l_8 : (List (List Nat))) : Option ((List Nat)) :=
 (bO (fun d : (List Nat) × Int => lE l_8 d.1 d.2) ((aN ⟨#[]⟩), (0 : Int))).bind (fun e => some e)
noncomputable def iK (l_20 : (List (List Nat))) (m_19 : (List Nat)) (s_25 : (List Nat)) : Option (((List Nat) × (List (List Nat))) ⊕ (((List (List Nat))))) :=
 ck (((l_20.length) + (1 : Nat)) * 16 ≤ 140737488355328) (if (((((dO m_19 ([1000000000000000000] : List Nat)).1).length) : Nat) : Int) = (0 : Int) then some (.inr (l_20 ++ ([s_25] : List (List Nat)))) else ck (I64 (((((l_20 ++ ([s_25] : List (List Nat))).length) : Nat) : Int) - (1 : Int))) (ck (I64 ((18 : Int) - (s_25.length : Int))) (ck (((aR (aN ⟨#[48]⟩) ((18 : Int) - (s_25.length : Int))).isSome = true)) (ck ((((aR (aN ⟨#[48]⟩) ((18 : Int) - (s_25.length : Int))).getD ([] : List Nat)).length) + (s_25.length) ≤ 9223372036854775807) (ck (0 ≤ (((((l_20 ++ ([s_25] : List (List Nat))).length) : Nat) : Int) - (1 : Int)) ∧ (((((l_20 ++ ([s_25] : List (List Nat))).length) : Nat) : Int) - (1 : Int)) < ((((l_20 ++ ([s_25] : List (List Nat))).length) : Nat) : Int)) (some (.inl (((dO m_19 ([1000000000000000000] : List Nat)).1), ((l_20 ++ ([s_25] : List (List Nat))).set ((((((l_20 ++ ([s_25] : List (List Nat))).length) : Nat) : Int) - (1 : Int)).toNat) (((aR (aN ⟨#[48]⟩) ((18 : Int) - (s_25.length : Int))).getD ([] : List Nat)) ++ s_25))))))))))
noncomputable def kG (m_19 : (List Nat)) (l_20 : (List (List Nat))) : Option (((List Nat) × (List (List Nat))) ⊕ (((List (List Nat))))) :=
 ck ((yV m_19 ([1000000000000000000] : List Nat))) (if (0 : Int) < ((((((dO m_19 ([1000000000000000000] : List Nat)).2).1).length) : Nat) : Int) then ck ((0 : Int) < ((((((dO m_19 ([1000000000000000000] : List Nat)).2).1).length) : Nat) : Int)) (ck (((dM ((((dO m_19 ([1000000000000000000] : List Nat)).2).1).getD (0 : Nat) (0 : Nat)) (10 : Int)).isSome = true)) (iK l_20 m_19 ((dM ((((dO m_19 ([1000000000000000000] : List Nat)).2).1).getD (0 : Nat) (0 : Nat)) (10 : Int)).getD ([] : List Nat)))) else iK l_20 m_19 (aN ⟨#[]⟩))
noncomputable def aT (m_0 : (List Nat)) : Option (List Nat) :=
 (bO (fun d : (List Nat) × (List (List Nat)) => kG d.1 d.2) (m_0, ([] : List (List Nat)))).bind (fun e => qF e)
def aHC : PlR := ⟨[(0, .A [0]), (1, .A [0, 3]), (2, .A [3, 4, 5]), (3, .A [3, 4, 5, 6]), (4, .A [3, 4, 5, 6, 18]), (5, .A [3, 4, 6]), (6, .B [3, 4, 6]), (7, .A [0, 3, 6]), (8, .A [0, 3, 6, 30]), (9, .B [0, 3]), (10, .A [3, 7]), (11, .A [7, 42, 43, 44]), (12, .A [7, 42, 43, 44, 45]), (13, .A [7, 9, 42, 43, 44]), (14, .A [7, 42, 43, 44]), (15, .A [7, 42, 43, 44]), (16, .A [2])], [(5, 13), (7, 9)]⟩
def aKW : Ty := .pair (.sl (.u .u64)) .unit
noncomputable def aAM : aI := mSpec aKW (.one .str) (fun x => aT x.1)
noncomputable def aCa : List (FuncId × aI) := [(101, jB), (166, wW), (167, lY)]
theorem aRO : bF Tryz.prog GL aCa := .cons aAL (by kernel_rfl) (.cons aMu (by kernel_rfl) (.cons aCA (by kernel_rfl) (.nil)))
theorem aKX : gam aCa 101 = some jB := rfl
theorem aKY : gam aCa 166 = some wW := rfl
theorem aKZ : gam aCa 167 = some lY := rfl
attribute [go_sem] aKW aHC aKX aKY aKZ
set_option maxHeartbeats 4000000 in
theorem aQt : FOK Tryz.prog GL 100 aAM := by
 refine bD (bE aRO) mix Tryz.func100 rfl (by kernel_rfl) (by decide) aHC fun w0 S x Θ hw h hF => ?_
 obtain ⟨(m_0 : (List Nat)), u⟩ := x
 simp only [bH, go_sem]
 replace h : sat (aT m_0) _ := h
 unfold aT at h
 refine cO hF (D := (List (List Nat))) (fun d => sat (qF d) Θ) [] (fun d => [(3, .own 0)]) (fun d => [.inr (.row 9 .str d)]) ?_ ?_
 ·simp only [go_sem]
  refine zY 3 9 .str rfl ?_
  simp only [go_sem]
  refine bC hF (D := (List Nat) × (List (List Nat))) [] (fun d => [(0, .val (.sl (.u .u64)) d.1), (3, .own 0)]) (fun d => [.inr (.row 9 .str d.2)]) h rfl (by simp only [go_sem]) ?_
  rintro ⟨m_19, l_20⟩ A2 T2 hA2 hE2 h
  simp only [go_sem]
  replace h : sat (kG m_19 l_20) _ := h
  unfold kG at h
  refine aH h fun g0 h => ?_
  refine cO hF (D := (List Nat)) (fun d => sat (iK l_20 m_19 d) T2) [4] (fun d => [(3, .own 0), (6, .val .str d)]) (fun d => [.inr (.row 9 .str l_20)]) ?_ ?_
  ·simp only [go_sem]
   refine bW h (fun hc h => ?_) fun hc h => ?_
   ·obtain ⟨g0, h⟩ := aJ h
    obtain ⟨g1, h⟩ := aJ h
    repeat (refine ⟨by omega, ?_⟩)
    exact aP (((dM ((((dO m_19 ([1000000000000000000] : List Nat)).2).1).getD (0 : Nat) (0 : Nat)) (10 : Int)).getD ([] : List Nat))) h rfl (by simp only [go_sem])
   ·exact aP ((aN ⟨#[]⟩)) h rfl (by simp only [go_sem])
  ·rintro s_25 h
   simp only [go_sem]
   replace h : sat (iK l_20 m_19 s_25) _ := h
   unfold iK at h
   obtain ⟨g0, h⟩ := aJ h
   repeat (refine ⟨by omega, ?_⟩)
   refine cX h (fun hc h => ?_) fun hc h => ?_
   ·replace h := hE2 _ (aA h)
    try dsimp only at h
    refine nE [1] rfl rfl ?_
    simp only [go_sem]
    exact aP ((l_20 ++ ([s_25] : List (List Nat)))) h rfl (by simp only [go_sem])
   ·obtain ⟨g0, h⟩ := aJ h
    repeat (refine ⟨by omega, ?_⟩)
    obtain ⟨g0, h⟩ := aJ h
    repeat (refine ⟨by omega, ?_⟩)
    obtain ⟨g0, h⟩ := aJ h
    repeat (refine ⟨by omega, ?_⟩)
    obtain ⟨g0, h⟩ := aJ h
    repeat (refine ⟨by omega, ?_⟩)
    obtain ⟨g0, h⟩ := aJ h
    repeat (refine ⟨by omega, ?_⟩)
    replace h := hA2 _ (aA h)
    refine nE [1] rfl rfl ?_
    simp only [go_sem]
    exact aP _ h rfl (by simp only [go_sem])
 ·rintro l_8 h
  simp only [go_sem]
  replace h : sat (qF l_8) _ := h
  unfold qF at h
  refine bC hF (D := (List Nat) × Int) [43] (fun d => [(7, .val .str d.1), (42, .own 0), (44, .val (.i .i64) d.2)]) (fun d => [.inr (.row 9 .str l_8)]) h rfl (by simp only [go_sem]) ?_
  rintro ⟨out_13, x44_14⟩ A12 T12 hA12 hE12 h
  simp only [go_sem]
  replace h : sat (lE l_8 out_13 x44_14) _ := h
  unfold lE at h
  refine bW h (fun hc h => ?_) fun hc h => ?_
  ·obtain ⟨g0, h⟩ := aJ h
   repeat (refine ⟨by omega, ?_⟩)
   refine aH h fun g0 h => ?_
   refine aH h fun g0 h => ?_
   replace h := hA12 _ (aA h)
   exact aP _ h rfl (by simp only [go_sem])
  ·replace h := hE12 _ (aA h)
   try dsimp only at h
   exact aG hF [.tmp 2] rfl rfl rfl (aA h) (by simp only [aV, go_sem])
attribute [go_sem] aAM
noncomputable def nJ (d_0 : qD0) (q_4 : (List Nat)) (s_5 : (List Nat)) : Option (((List Nat) × (Int × Unit))) :=
 if ((d_0.1) = true) ∧ ((0 : Int) < (q_4.length : Int)) then ck (((aN ⟨#[45]⟩).length) + (s_5.length) ≤ 9223372036854775807) (some (((aN ⟨#[45]⟩) ++ s_5), (0 : Int), ())) else some (s_5, (0 : Int), ())
noncomputable def nK (digits_1 : Int) (d_0 : qD0) (q_4 : (List Nat)) : Option (((List Nat) × (Int × Unit))) :=
 ck (((aT q_4).isSome = true)) (ck (I64 (digits_1 + (1 : Int))) (ck (I64 ((digits_1 + (1 : Int)) - (((((aT q_4).getD ([] : List Nat)).length) : Nat) : Int))) (ck (((aR (aN ⟨#[48]⟩) (max ((digits_1 + (1 : Int)) - (((((aT q_4).getD ([] : List Nat)).length) : Nat) : Int)) (0 : Int))).isSome = true)) (ck ((((aR (aN ⟨#[48]⟩) (max ((digits_1 + (1 : Int)) - (((((aT q_4).getD ([] : List Nat)).length) : Nat) : Int)) (0 : Int))).getD ([] : List Nat)).length) + (((aT q_4).getD ([] : List Nat)).length) ≤ 9223372036854775807) (if (0 : Int) < digits_1 then ck (I64 (((((((aR (aN ⟨#[48]⟩) (max ((digits_1 + (1 : Int)) - (((((aT q_4).getD ([] : List Nat)).length) : Nat) : Int)) (0 : Int))).getD ([] : List Nat)) ++ ((aT q_4).getD ([] : List Nat))).length) : Nat) : Int) - digits_1)) (ck (0 ≤ (((((((aR (aN ⟨#[48]⟩) (max ((digits_1 + (1 : Int)) - (((((aT q_4).getD ([] : List Nat)).length) : Nat) : Int)) (0 : Int))).getD ([] : List Nat)) ++ ((aT q_4).getD ([] : List Nat))).length) : Nat) : Int) - digits_1) ∧ (((((((aR (aN ⟨#[48]⟩) (max ((digits_1 + (1 : Int)) - (((((aT q_4).getD ([] : List Nat)).length) : Nat) : Int)) (0 : Int))).getD ([] : List Nat)) ++ ((aT q_4).getD ([] : List Nat))).length) : Nat) : Int) - digits_1) ≤ ((((((aR (aN ⟨#[48]⟩) (max ((digits_1 + (1 : Int)) - (((((aT q_4).getD ([] : List Nat)).length) : Nat) : Int)) (0 : Int))).getD ([] : List Nat)) ++ ((aT q_4).getD ([] : List Nat))).length) : Nat) : Int)) (ck (((List.take ((((((((aR (aN ⟨#[48]⟩) (max ((digits_1 + (1 : Int)) - (((((aT q_4).getD ([] : List Nat)).length) : Nat) : Int)) (0 : Int))).getD ([] : List Nat)) ++ ((aT q_4).getD ([] : List Nat))).length) : Nat) : Int) - digits_1).toNat) (((aR (aN ⟨#[48]⟩) (max ((digits_1 + (1 : Int)) - (((((aT q_4).getD ([] : List Nat)).length) : Nat) : Int)) (0 : Int))).getD ([] : List Nat)) ++ ((aT q_4).getD ([] : List Nat)))).length) + ((aN ⟨#[46]⟩).length) ≤ 9223372036854775807) (ck (I64 (((((((aR (aN ⟨#[48]⟩) (max ((digits_1 + (1 : Int)) - (((((aT q_4).getD ([] : List Nat)).length) : Nat) : Int)) (0 : Int))).getD ([] : List Nat)) ++ ((aT q_4).getD ([] : List Nat))).length) : Nat) : Int) - digits_1)) (ck (0 ≤ (((((((aR (aN ⟨#[48]⟩) (max ((digits_1 + (1 : Int)) - (((((aT q_4).getD ([] : List Nat)).length) : Nat) : Int)) (0 : Int))).getD ([] : List Nat)) ++ ((aT q_4).getD ([] : List Nat))).length) : Nat) : Int) - digits_1) ∧ (((((((aR (aN ⟨#[48]⟩) (max ((digits_1 + (1 : Int)) - (((((aT q_4).getD ([] : List Nat)).length) : Nat) : Int)) (0 : Int))).getD ([] : List Nat)) ++ ((aT q_4).getD ([] : List Nat))).length) : Nat) : Int) - digits_1) ≤ ((((((aR (aN ⟨#[48]⟩) (max ((digits_1 + (1 : Int)) - (((((aT q_4).getD ([] : List Nat)).length) : Nat) : Int)) (0 : Int))).getD ([] : List Nat)) ++ ((aT q_4).getD ([] : List Nat))).length) : Nat) : Int)) (ck ((((List.take ((((((((aR (aN ⟨#[48]⟩) (max ((digits_1 + (1 : Int)) - (((((aT q_4).getD ([] : List Nat)).length) : Nat) : Int)) (0 : Int))).getD ([] : List Nat)) ++ ((aT q_4).getD ([] : List Nat))).length) : Nat) : Int) - digits_1).toNat) (((aR (aN ⟨#[48]⟩) (max ((digits_1 + (1 : Int)) - (((((aT q_4).getD ([] : List Nat)).length) : Nat) : Int)) (0 : Int))).getD ([] : List Nat)) ++ ((aT q_4).getD ([] : List Nat)))) ++ (aN ⟨#[46]⟩)).length) + ((List.drop ((((((((aR (aN ⟨#[48]⟩) (max ((digits_1 + (1 : Int)) - (((((aT q_4).getD ([] : List Nat)).length) : Nat) : Int)) (0 : Int))).getD ([] : List Nat)) ++ ((aT q_4).getD ([] : List Nat))).length) : Nat) : Int) - digits_1).toNat) (((aR (aN ⟨#[48]⟩) (max ((digits_1 + (1 : Int)) - (((((aT q_4).getD ([] : List Nat)).length) : Nat) : Int)) (0 : Int))).getD ([] : List Nat)) ++ ((aT q_4).getD ([] : List Nat)))).length) ≤ 9223372036854775807) (nJ d_0 q_4 (((List.take ((((((((aR (aN ⟨#[48]⟩) (max ((digits_1 + (1 : Int)) - (((((aT q_4).getD ([] : List Nat)).length) : Nat) : Int)) (0 : Int))).getD ([] : List Nat)) ++ ((aT q_4).getD ([] : List Nat))).length) : Nat) : Int) - digits_1).toNat) (((aR (aN ⟨#[48]⟩) (max ((digits_1 + (1 : Int)) - (((((aT q_4).getD ([] : List Nat)).length) : Nat) : Int)) (0 : Int))).getD ([] : List Nat)) ++ ((aT q_4).getD ([] : List Nat)))) ++ (aN ⟨#[46]⟩)) ++ (List.drop ((((((((aR (aN ⟨#[48]⟩) (max ((digits_1 + (1 : Int)) - (((((aT q_4).getD ([] : List Nat)).length) : Nat) : Int)) (0 : Int))).getD ([] : List Nat)) ++ ((aT q_4).getD ([] : List Nat))).length) : Nat) : Int) - digits_1).toNat) (((aR (aN ⟨#[48]⟩) (max ((digits_1 + (1 : Int)) - (((((aT q_4).getD ([] : List Nat)).length) : Nat) : Int)) (0 : Int))).getD ([] : List Nat)) ++ ((aT q_4).getD ([] : List Nat))))))))))) else nJ d_0 q_4 (((aR (aN ⟨#[48]⟩) (max ((digits_1 + (1 : Int)) - (((((aT q_4).getD ([] : List Nat)).length) : Nat) : Int)) (0 : Int))).getD ([] : List Nat)) ++ ((aT q_4).getD ([] : List Nat))))))))
noncomputable def jJ (d_0 : qD0) (digits_1 : Int) (up_2 : Bool) : Option ((List Nat) × (Int × Unit)) :=
 ck (((cS d_0).isSome = true)) (if ((¬ (((cS d_0).getD false) = true)) ∨ (digits_1 < (0 : Int))) ∨ ((60 : Int) < digits_1) then some ((aN ⟨#[]⟩), (1 : Int), ()) else if ((2000 : Int) < (((d_0.2).2).1)) ∨ ((((d_0.2).2).1) < (-2000 : Int)) then some ((aN ⟨#[]⟩), (2 : Int), ()) else ck ((aKz ((d_0.2).1) (max (((d_0.2).2).1) (0 : Int)))) (ck (((dL (10 : Nat) digits_1).isSome = true)) (ck ((aRx (cF ((d_0.2).1) (max (((d_0.2).2).1) (0 : Int))) ((dL (10 : Nat) digits_1).getD ([] : List Nat)))) (ck (I64 (0 - (((d_0.2).2).1))) (ck ((aOm (dF (cF ((d_0.2).1) (max (((d_0.2).2).1) (0 : Int))) ((dL (10 : Nat) digits_1).getD ([] : List Nat))) (max (0 - (((d_0.2).2).1)) (0 : Int)))) (ck ((((0 : Int) < ((((dF (cF ((d_0.2).1) (max (((d_0.2).2).1) (0 : Int))) ((dL (10 : Nat) digits_1).getD ([] : List Nat))).length) : Nat) : Int)) → ((pSz (dF (cF ((d_0.2).1) (max (((d_0.2).2).1) (0 : Int))) ((dL (10 : Nat) digits_1).getD ([] : List Nat))))))) (if (((0 : Int) < ((((dF (cF ((d_0.2).1) (max (((d_0.2).2).1) (0 : Int))) ((dL (10 : Nat) digits_1).getD ([] : List Nat))).length) : Nat) : Int)) ∧ ((rB (dF (cF ((d_0.2).1) (max (((d_0.2).2).1) (0 : Int))) ((dL (10 : Nat) digits_1).getD ([] : List Nat)))) < (max (0 - (((d_0.2).2).1)) (0 : Int)))) ∧ ((up_2 != (d_0.1)) = true) then ck ((aRx (gR (dF (cF ((d_0.2).1) (max (((d_0.2).2).1) (0 : Int))) ((dL (10 : Nat) digits_1).getD ([] : List Nat))) (max (0 - (((d_0.2).2).1)) (0 : Int))) ([1] : List Nat))) (nK digits_1 d_0 (tF (gR (dF (cF ((d_0.2).1) (max (((d_0.2).2).1) (0 : Int))) ((dL (10 : Nat) digits_1).getD ([] : List Nat))) (max (0 - (((d_0.2).2).1)) (0 : Int))) ([1] : List Nat))) else nK digits_1 d_0 (gR (dF (cF ((d_0.2).1) (max (((d_0.2).2).1) (0 : Int))) ((dL (10 : Nat) digits_1).getD ([] : List Nat))) (max (0 - (((d_0.2).2).1)) (0 : Int))))))))))
def aHD : PlR := ⟨[(0, .B [1, 2, 3]), (1, .A [1, 2, 3, 12]), (2, .A [6, 7]), (3, .A [1, 2, 3, 24]), (4, .A [6, 7]), (5, .A [1, 2, 3, 8]), (6, .A [1, 2, 3, 8, 9]), (7, .A [1, 2, 3, 8, 9, 10]), (8, .A [1, 3, 10, 63]), (9, .A [1, 3, 10]), (10, .A [1, 3, 10, 11]), (11, .A [1, 3, 10, 11]), (12, .A [1, 3, 10, 11, 79]), (13, .A [3, 10, 11]), (14, .A [11, 100]), (15, .A [11]), (16, .A [6, 7])], [(11, 13), (15, 17)]⟩
def aK0 : Ty := .pair (.pair .bool (.pair (.sl (.u .u64)) (.pair (.i .i64) .unit))) (.pair (.i .i64) (.pair .bool .unit))
noncomputable def tX : aI := mSpec aK0 (.tup (.pair .str (.pair (.i .i64) .unit))) (fun x => jJ x.1 x.2.1 x.2.2.1)
noncomputable def nL : List (FuncId × aI) := [(100, aAM), (101, jB), (58, fM), (94, rT), (95, oY), (96, zA), (97, rU), (98, yS), (99, aAF)]
theorem aRP : bF Tryz.prog GL nL := .cons aQt (by kernel_rfl) (.cons aAL (by kernel_rfl) (.cons tV (by kernel_rfl) (.cons aFu (by kernel_rfl) (.cons aDf (by kernel_rfl) (.cons aOJ (by kernel_rfl) (.cons aFw (by kernel_rfl) (.cons aOw (by kernel_rfl) (.cons aQh (by kernel_rfl) (.nil)))))))))
theorem aK1 : gam nL 100 = some aAM := rfl
theorem aK2 : gam nL 101 = some jB := rfl
theorem aMF : gam nL 58 = some fM := rfl
theorem aMG : gam nL 94 = some rT := rfl
theorem aMH : gam nL 95 = some oY := rfl
theorem aMI : gam nL 96 = some zA := rfl
theorem aMJ : gam nL 97 = some rU := rfl
theorem aMK : gam nL 98 = some yS := rfl
theorem aML : gam nL 99 = some aAF := rfl
attribute [go_sem] aK0 aHD aK1 aK2 aMF aMG aMH aMI aMJ aMK aML
set_option maxHeartbeats 4000000 in
theorem aHE : FOK Tryz.prog GL 45 tX := by
 refine bD (bE aRP) mix Tryz.func45 rfl (by kernel_rfl) (by decide) aHD fun w0 S x Θ hw h hF => ?_
 obtain ⟨(d_0 : qD0), (digits_1 : Int), (up_2 : Bool), u⟩ := x
 simp only [bH, go_sem]
 replace h : sat (jJ d_0 digits_1 up_2) _ := h
 unfold jJ at h
 refine aH h fun g0 h => ?_
 refine ⟨fun hc => ?_, fun hc => ?_⟩
 ·replace h := fU (by first | exact hc | omega | (simpa using hc) | (simp at hc ⊢; omega)) h
  exact aG hF [.tmp 6, .tmp 7] rfl rfl rfl (aA h) (by simp only [aV, go_sem])
 ·replace h := fV (by first | exact hc | omega | (simpa using hc) | (simp at hc ⊢; omega)) h
  refine ⟨fun hc => ?_, fun hc => ?_⟩
  ·replace h := fU hc h
   exact aG hF [.tmp 6, .tmp 7] rfl rfl rfl (aA h) (by simp only [aV, go_sem])
  ·replace h := fV hc h
   refine aH h fun g0 h => aH h fun g1 h => aH h fun g2 h => ?_
   refine aH h fun g0 h => ?_
   refine aH h fun g0 h => ?_
   refine cO hF (D := (List Nat)) (fun d => sat (nK digits_1 d_0 d) Θ) [1] (fun d => [(3, .ptr 0 []), (10, .val (.sl (.u .u64)) d)]) (fun d => [.inr (.box 3 (.val (.pair .bool (.pair (.sl (.u .u64)) (.pair (.i .i64) .unit))) d_0))]) ?_ ?_
   ·simp only [go_sem]
    refine aH h fun g0 h => ?_
    refine ⟨fun hc => ?_, fun hc => ?_⟩
    ·replace h := fU hc h
     refine aH h fun g0 h => ?_
     exact aP ((tF (gR (dF (cF ((d_0.2).1) (max (((d_0.2).2).1) (0 : Int))) ((dL (10 : Nat) digits_1).getD ([] : List Nat))) (max (0 - (((d_0.2).2).1)) (0 : Int))) ([1] : List Nat))) h rfl (by simp only [go_sem])
    ·replace h := fV hc h
     exact aP ((gR (dF (cF ((d_0.2).1) (max (((d_0.2).2).1) (0 : Int))) ((dL (10 : Nat) digits_1).getD ([] : List Nat))) (max (0 - (((d_0.2).2).1)) (0 : Int)))) h rfl (by simp only [go_sem])
   ·rintro q_4 h
    simp only [go_sem]
    replace h : sat (nK digits_1 d_0 q_4) _ := h
    unfold nK at h
    refine aH h fun g0 h => ?_
    refine aH h fun g0 h => aH h fun g1 h => aH h fun g2 h => aH h fun g3 h => ?_
    refine cO hF (D := (List Nat)) (fun d => sat (nJ d_0 q_4 d) Θ) [10] (fun d => [(3, .ptr 0 []), (11, .val .str d)]) (fun d => [.inr (.box 3 (.val (.pair .bool (.pair (.sl (.u .u64)) (.pair (.i .i64) .unit))) d_0))]) ?_ ?_
    ·simp only [go_sem]
     refine bW h (fun hc h => ?_) fun hc h => ?_
     ·refine aH h fun g0 h => aH h fun g1 h => aH h fun g2 h => aH h fun g3 h => aH h fun g4 h => aH h fun g5 h => ?_
      exact aP ((((List.take ((((((((aR (aN ⟨#[48]⟩) (max ((digits_1 + (1 : Int)) - (((((aT q_4).getD ([] : List Nat)).length) : Nat) : Int)) (0 : Int))).getD ([] : List Nat)) ++ ((aT q_4).getD ([] : List Nat))).length) : Nat) : Int) - digits_1).toNat) (((aR (aN ⟨#[48]⟩) (max ((digits_1 + (1 : Int)) - (((((aT q_4).getD ([] : List Nat)).length) : Nat) : Int)) (0 : Int))).getD ([] : List Nat)) ++ ((aT q_4).getD ([] : List Nat)))) ++ (aN ⟨#[46]⟩)) ++ (List.drop ((((((((aR (aN ⟨#[48]⟩) (max ((digits_1 + (1 : Int)) - (((((aT q_4).getD ([] : List Nat)).length) : Nat) : Int)) (0 : Int))).getD ([] : List Nat)) ++ ((aT q_4).getD ([] : List Nat))).length) : Nat) : Int) - digits_1).toNat) (((aR (aN ⟨#[48]⟩) (max ((digits_1 + (1 : Int)) - (((((aT q_4).getD ([] : List Nat)).length) : Nat) : Int)) (0 : Int))).getD ([] : List Nat)) ++ ((aT q_4).getD ([] : List Nat)))))) h rfl (by simp only [go_sem])
     ·exact aP ((((aR (aN ⟨#[48]⟩) (max ((digits_1 + (1 : Int)) - (((((aT q_4).getD ([] : List Nat)).length) : Nat) : Int)) (0 : Int))).getD ([] : List Nat)) ++ ((aT q_4).getD ([] : List Nat)))) h rfl (by simp only [go_sem])
    ·rintro s_5 h
     simp only [go_sem]
     replace h : sat (nJ d_0 q_4 s_5) _ := h
     unfold nJ at h
     refine ⟨fun hc => ?_, fun hc => ?_⟩
     ·replace h := fU hc h
      refine aH h fun g0 h => ?_
      exact aG hF [.tmp 6, .tmp 7] rfl rfl rfl (aA h) (by simp only [aV, go_sem])
     ·replace h := fV hc h
      exact aG hF [.tmp 6, .tmp 7] rfl rfl rfl (aA h) (by simp only [aV, go_sem])
attribute [go_sem] tX
end Nu
end Go.Proofs
namespace Go.Proofs
open Go.Vc
set_option maxRecDepth 20000
namespace Nu
theorem p2m (n m : Nat) (h : n ≤ m) : 2 ^ n ≤ 2 ^ m := Nat.pow_le_pow_right (by decide) h
theorem aZF (m : Nat) {x n : Nat} (h : x < 2 ^ n) (hn : n ≤ m) : x < 2 ^ m := Nat.lt_of_lt_of_le h (p2m n m hn)
theorem aQu (m : Nat) {x n : Nat} (h : x ≤ 2 ^ n) (hn : n < m) : x < 2 ^ m := Nat.lt_of_le_of_lt h (Nat.pow_lt_pow_right (by decide) hn)
theorem aYy (k : Nat) {x n : Nat} (h : x < 2 ^ n) (hn : n ≤ 64 * k) : x < 18446744073709551616 ^ k := by rw [uZ]; exact aZF _ h hn
theorem aTk (a b : Nat) (h : a < b) : 18446744073709551616 ^ a < 18446744073709551616 ^ b := Nat.pow_lt_pow_right (by decide) h
abbrev Dy : Type := Bool × List Nat × Int × Unit
def d0 : Dy := (false, [], 0, ())
def jR (d : Dy) : Bool :=
 if d.2.1.length = 0 then !d.1 && decide (d.2.2.1 = 0)
 else decide (d.2.1.length ≤ 64 ∧ Nrm d.2.1) && decide (d.2.1.getD 0 0 % 2 = 1) && decide (-1048576 ≤ d.2.2.1) && decide (d.2.2.1 ≤ 1048576)
theorem aOK (x : Nat) : x &&& 1 = x % 2 := Nat.and_two_pow_sub_one_eq_mod x 1
theorem aDs (d : Dy) : cS d = some (jR d) := by
 unfold cS jR
 by_cases h : d.2.1.length = 0
 ·rw [if_pos (by omega), if_pos h]
 ·rw [if_neg (by omega), if_neg h]
  refine aB (fun _ => by omega) ?_
  rw [aOK]
  rfl
def told {α : Type} (z : α) : α ⊕ (Int × Unit) → α × Int × Unit
 | .inl r => (r, 0, ())
 | .inr p => (z, p.1, ())
end Nu
end Go.Proofs
namespace Go.Proofs
open Go.Vc
set_option maxRecDepth 20000
namespace Nu
theorem aXL {m n : Nat} (h : m ≠ 0) : tzn m < n ↔ m % 2 ^ n ≠ 0 := by
 obtain ⟨q, hq⟩ := aFp h
 constructor
 ·intro hlt h0
  obtain ⟨k, hk⟩ := Nat.dvd_of_mod_eq_zero h0
  rw [hq, show n = tzn m + (n - tzn m) from by omega, Nat.pow_add, Nat.mul_assoc] at hk
  have h2 := Nat.eq_of_mul_eq_mul_left (Nat.two_pow_pos _) hk
  rw [show n - tzn m = (n - tzn m - 1) + 1 from by omega, Nat.pow_succ, Nat.mul_comm (2 ^ (n - tzn m - 1)) 2, Nat.mul_assoc] at h2
  omega
 ·intro h0
  rcases Nat.lt_or_ge (tzn m) n with hlt | hge
  ·exact hlt
  ·exfalso
   apply h0
   rw [hq, show tzn m = n + (tzn m - n) from by omega, Nat.pow_add, Nat.mul_assoc]
   exact Nat.mul_mod_right _ _
theorem wJ {d : Dy} (h : jR d = true) : d.2.1.length ≤ 64 ∧ Nrm d.2.1 ∧ -1048576 ≤ d.2.2.1 ∧ d.2.2.1 ≤ 1048576 := by
 unfold jR at h
 split at h
 ·rename_i h0
  have : d.2.1 = [] := List.eq_nil_of_length_eq_zero h0
  simp at h
  rw [this, h.2]
  exact ⟨by decide, aOd, by decide, by decide⟩
 ·simp at h
  exact ⟨h.1.1.1.1, h.1.1.1.2, h.1.2, h.2⟩
end Nu
end Go.Proofs
namespace Go.Proofs
open Go.Vc
set_option maxRecDepth 20000
namespace Nu
end Nu
end Go.Proofs
namespace Go.Proofs
open Go.Vc
set_option maxRecDepth 20000
namespace Nu
end Nu
end Go.Proofs
namespace Go.Proofs
open Go.Vc
set_option maxRecDepth 20000
namespace Nu
theorem aV9 {b i : Nat} (h : b < 18446744073709551616) : (lb (b ^ i)).length ≤ i + 1 :=
 aC8.2 (Nat.lt_of_le_of_lt (Nat.pow_le_pow_left (Nat.le_of_lt h) i) (Nat.pow_lt_pow_right (by decide) (by omega)))
theorem aWa (b n : Nat) (hb : b < 18446744073709551616) (hn : n ≤ 100000) : dL b (n : Int) = some (lb (b ^ n)) := by
 unfold dL
 refine aK (gF (step := fun d : (List Nat) × Int => lD (n : Int) b d.1 d.2) (I := fun d => 0 ≤ d.2 ∧ d.2 ≤ n ∧ d.1 = lb (b ^ d.2.toNat)) (fun d => ((n : Int) - d.2).toNat) (fun _ => lb (b ^ n)) ?_ ([1], 0) ⟨by simp, by simp, ?_⟩) rfl
 ·rintro ⟨m, i⟩ ⟨i0, i1, i2⟩
  have i2 : m = lb (b ^ i.toNat) := i2
  have i0 : 0 ≤ i := i0
  have i1 : i ≤ n := i1
  show (∃ d', lD (n : Int) b m i = _ ∧ _) ∨ lD (n : Int) b m i = _
  unfold lD
  have hl := aV9 (i := i.toNat) hb
  by_cases hi : i < n
  ·left
   have ht : dF m [b] = lb (b ^ (i + 1).toNat) := by
    unfold dF
    rw [i2, vL, show (i + 1).toNat = i.toNat + 1 from by omega, Nat.pow_succ]
    rfl
   refine ⟨(lb (b ^ (i + 1).toNat), i + 1), ?_, ⟨by simp only; omega, by simp only; omega, rfl⟩, by simp only; omega, rfl⟩
   rw [if_pos hi]
   refine aB ⟨by show m.length ≤ _; rw [i2]; omega, by show (1 : Nat) ≤ _; decide⟩ (aB (by constructor <;> omega) ?_)
   rw [ht]
  ·right
   rw [if_neg hi, i2, show i.toNat = n from by omega]
 ·show [1] = lb (b ^ 0)
  rw [Nat.pow_zero, aGv (by decide)]
  rw [show 1 / 18446744073709551616 = 0 from by decide, oA]
end Nu
end Go.Proofs
namespace Go.Proofs
open Go.Vc
set_option maxRecDepth 20000
namespace Nu
def aXM (s : List Nat) (i : Nat) (c : Nat) : Prop := i < s.length ∧ s.getD i 0 = c
instance (s : List Nat) (i c : Nat) : Decidable (aXM s i c) := inferInstanceAs (Decidable (_ ∧ _))
end Nu
end Go.Proofs
namespace Go.Proofs
open Go.Vc
set_option maxRecDepth 20000
namespace Nu
theorem aQv (n : Nat) : 10 ^ n ≤ 2 ^ (4 * n) := by
 rw [Nat.pow_mul]
 exact Nat.pow_le_pow_left (by decide) n
end Nu
end Go.Proofs
namespace Go.Proofs
open Go.Vc
set_option maxRecDepth 20000
namespace Nu
end Nu
end Go.Proofs
namespace Go.Proofs
open Go.Vc
set_option maxRecDepth 20000
namespace Nu
end Nu
end Go.Proofs
namespace Go.Proofs
open Go.Vc
set_option maxRecDepth 20000
namespace Nu
def jK (u : Nat) : List Nat := dgs (Lib.nDigits u) u
theorem aK3 {u : Nat} (h : u < 10) : jK u = [48 + u] := by
 unfold jK
 rw [Lib.nDigits_small h]
 simp [dgs, Nat.mod_eq_of_lt h]
theorem aWb {u : Nat} (h : ¬ u < 10) (h2 : u < 100) : jK u = [48 + u / 10, 48 + u % 10] := by
 unfold jK
 rw [Lib.nDigits_big h, Lib.nDigits_small (by omega)]
 have : u / 10 % 10 = u / 10 := Nat.mod_eq_of_lt (by omega)
 simp [dgs, List.range_succ, this]
theorem aUb : ∀ u : Fin 100, (if u.val < 10 then List.drop u.val (List.take (u.val + 1) (aN aAl)) else List.drop (u.val * 2) (List.take (u.val * 2 + 2) (aN aAk))) = if u.val < 10 then [48 + u.val] else [48 + u.val / 10, 48 + u.val % 10] := by
 decide +kernel
theorem aUc : (aN aAl).length = 36 ∧ (aN aAk).length = 200 := by decide +kernel
theorem aQw (u : Nat) (h : u < 100) : fG (u : Int) = some (jK u) := by
 have ht := aUb ⟨u, h⟩
 obtain ⟨l1, l2⟩ := aUc
 simp only at ht
 unfold fG
 by_cases h1 : u < 10
 ·rw [if_pos h1, if_pos h1] at ht
  rw [if_pos (by omega), l1, aK3 h1]
  refine aB (by constructor <;> omega) (aB (by constructor <;> omega) ?_)
  rw [Int.toNat_natCast, show ((u : Int) + 1).toNat = u + 1 from by omega, ht]
 ·rw [if_neg h1, if_neg h1] at ht
  rw [if_neg (by omega), l2, aWb h1 h]
  refine aB (by constructor <;> omega) (aB (by constructor <;> omega) (aB (by constructor <;> omega) (aB (by constructor <;> omega) ?_)))
  rw [show ((u : Int) * 2).toNat = u * 2 from by omega, show ((u : Int) * 2 + 2).toNat = u * 2 + 2 from by omega, ht]
theorem aXN : ∀ k : Fin 20, ([1, 10, 100, 1000, 10000, 100000, 1000000, 10000000, 100000000, 1000000000, 10000000000, 100000000000, 1000000000000, 10000000000000, 100000000000000, 1000000000000000, 10000000000000000, 100000000000000000, 1000000000000000000, 10000000000000000000] : List Nat).getD k.val 0 = 10 ^ k.val := by decide +kernel
theorem aUd {u : Nat} (h1 : u ≠ 0) (h : u < 18446744073709551616) : Lib.bitLen u = bl u := by
 obtain ⟨a, b, c⟩ := Lib.bitLenAux_bounds 64 u h (by omega)
 unfold Lib.bitLen
 have h2 := aBq c
 have h3 := aKv b
 omega
theorem aEh (u : Nat) (h1 : u ≠ 0) (h : u < 18446744073709551616) : aO u = some (Lib.nDigits u : Int) := by
 obtain ⟨k1, k2⟩ := Lib.numDigits_eq u (by omega) h
 rw [aUd h1 h] at k1 k2
 have hb := aTZ h
 have hl : Int.fdiv ((bl u : Int) * 78913) (2 ^ 18) = (Lib.l10 (bl u) : Int) := by
  unfold Lib.l10
  rw [Int.fdiv_eq_ediv_of_nonneg _ (by decide)]
  omega
 have hlog : bX (dB u) = some (Lib.l10 (bl u) : Int) := by
  unfold bX dB
  refine aB (by constructor <;> omega) ?_
  rw [hl]
 have hp : p10.getD (Lib.l10 (bl u)) 0 = 10 ^ Lib.l10 (bl u) := by
  rw [aVI]; exact aXN ⟨Lib.l10 (bl u), by omega⟩
 have hbool : ∀ b : Bool, eK b = some (if b = true then 1 else 0) := fun b => by cases b <;> rfl
 unfold aO
 simp only [hlog, Option.getD_some, Int.toNat_natCast, hp, hbool]
 refine aB rfl (aB (by constructor <;> omega) (aB rfl ?_))
 by_cases hh : 10 ^ Lib.l10 (bl u) ≤ u
 ·rw [if_pos hh] at k1
  simp only [hh, decide_true, if_true]
  refine aB (by constructor <;> omega) ?_
  rw [show (Lib.l10 (bl u) : Int) + 1 = (Lib.nDigits u : Int) from by omega]
 ·rw [if_neg hh] at k1
  simp only [hh, decide_false, Bool.false_eq_true, if_false]
  refine aB (by constructor <;> omega) ?_
  rw [show (Lib.l10 (bl u) : Int) + 0 = (Lib.nDigits u : Int) from by omega]
theorem aMM (u : Nat) (h : u < 18446744073709551616) : dM u 10 = some (jK u) := by
 have key : fR u 10 = some (jK u) := by
  unfold fR
  rw [if_pos rfl]
  by_cases h1 : u < 100
  ·have hw : IntKind.i64.wrap ((u : Nat) : Int) = (u : Int) := by
    simp only [IntKind.wrap, IntKind.signed, IntKind.bits]; simp; omega
   rw [if_pos h1, hw]
   simp only [aQw u h1, Option.getD_some]
   exact aB rfl rfl
  ·rw [if_neg h1]
   have hn := aEh u (by omega) h
   obtain ⟨k1, k2⟩ := Lib.numDigits_eq u (by omega) h
   have hle : Lib.nDigits u ≤ 20 := by split at k1 <;> omega
   have hpos := Lib.nDigits_pos u
   have hlt := Lib.lt_pow_nDigits u
   simp only [hn, Option.getD_some]
   have e : ((Lib.nDigits u : Int) - 0).toNat = Lib.nDigits u := by omega
   rw [e]
   have hf : cP 0 (Lib.nDigits u) u (List.replicate 24 0) = some (jK u ++ (List.replicate 24 0).drop (0 + Lib.nDigits u)) := by
    unfold cP
    refine aB (by omega) (aB hlt ?_)
    rfl
   refine aB rfl (aB (by constructor <;> omega) (aK hf (aB (by constructor <;> omega) (aB (by omega) ?_))))
   rw [List.drop_zero, List.take_append_of_le_length (by unfold jK; rw [pN]; exact Nat.le_refl _), List.take_of_length_le (by unfold jK; rw [pN]; exact Nat.le_refl _)]
 unfold dM
 rw [key]
 exact aB rfl rfl
end Nu
end Go.Proofs
namespace Go.Proofs
open Go.Vc
set_option maxRecDepth 20000
namespace Nu
theorem aZf : bL (aN wI) [48] = some false := by decide +kernel
theorem aZg : bL (aN wH) [48] = some false := by decide +kernel
theorem aZh : bL (aN tG) [48] = some true := by decide +kernel
theorem aZG : aN tG = List.replicate 64 48 := by decide +kernel
theorem aNx (c : Nat) (h : c ≤ 64) : aR [48] (c : Int) = some (List.replicate c 48) := by
 have hw : IntKind.i64.wrap ((c : Nat) : Int) = (c : Int) := by
  simp only [IntKind.wrap, IntKind.signed, IntKind.bits]; simp; omega
 have hm : bJ (((([48] : List Nat).length : Nat) : Int) % (18446744073709551616 : Int)).toNat ((c : Int) % (18446744073709551616 : Int)).toNat = some (0, c, ()) := by
  have e1 : (((([48] : List Nat).length : Nat) : Int) % (18446744073709551616 : Int)).toNat = 1 := by decide
  have e2 : ((c : Int) % (18446744073709551616 : Int)).toNat = c := by omega
  rw [e1, e2]
  unfold bJ bG
  simp only
  rw [Nat.one_mul, Nat.div_eq_of_lt (by omega), Nat.mod_eq_of_lt (by omega)]
 unfold aR
 by_cases h0 : c = 0
 ·subst h0; rfl
 by_cases h1 : c = 1
 ·subst h1; rfl
 rw [if_neg (by omega), if_neg (by omega), if_neg (by omega)]
 simp only [hm, Option.getD_some]
 refine aB rfl ?_
 rw [if_neg (by omega), if_neg (by decide)]
 refine aB (by decide) ?_
 rw [if_neg (by decide), if_neg (by decide), if_pos (by decide)]
 have hd : decide ((([48] : List Nat).getD 0 0) = 48) = true := by decide
 rw [hd]
 unfold dW
 rw [if_pos rfl]
 simp only [hm, Option.getD_some, hw, aZf, aZg, aZh]
 refine aB (fun _ => rfl) ?_
 rw [if_neg (fun hh => by cases hh.2)]
 refine aB (fun _ => rfl) ?_
 rw [if_neg (fun hh => by cases hh.2)]
 refine aB (fun _ => rfl) ?_
 rw [if_pos ⟨by omega, trivial⟩, aZG]
 refine aB (by constructor; omega; rw [List.length_replicate]; omega) ?_
 rw [Int.toNat_natCast, List.take_replicate, Nat.min_eq_left h]
theorem aOL (a b x y : Nat) (hy : y < 10 ^ b) : dgs a x ++ dgs b y = dgs (a + b) (x * 10 ^ b + y) := by
 apply List.ext_getElem
 ·simp [dgs]
 ·intro i h1 h2
  have hi : i < a + b := by simpa [dgs] using h2
  by_cases hlt : i < a
  ·rw [List.getElem_append_left (by simpa [dgs] using hlt)]
   simp only [dgs, List.getElem_map, List.getElem_range]
   rw [show a + b - 1 - i = b + (a - 1 - i) from by omega, Nat.pow_add, ← Nat.div_div_eq_div_mul, Nat.mul_comm x, Nat.mul_add_div (Nat.pow_pos (by decide)), Nat.div_eq_of_lt hy, Nat.add_zero]
  ·rw [List.getElem_append_right (by simp [dgs]; omega)]
   simp only [dgs, List.length_map, List.length_range, List.getElem_map, List.getElem_range]
   have e1 : a + b - 1 - i = b - 1 - (i - a) := by omega
   rw [e1]
   congr 1
   have hk : b = (b - 1 - (i - a)) + (i - a + 1) := by omega
   have e2 : x * 10 ^ b = 10 ^ (b - 1 - (i - a)) * (x * 10 ^ (i - a) * 10) := by
    conv => lhs; rw [hk]
    rw [Nat.pow_add, Nat.pow_succ, Nat.mul_left_comm, Nat.mul_assoc x]
   rw [e2, Nat.mul_add_div (Nat.pow_pos (by decide)), Nat.add_comm, Nat.add_mul_mod_self_right]
theorem aQx (n : Nat) : dgs n 0 = List.replicate n 48 := by
 apply List.ext_getElem
 ·simp [dgs]
 ·intro i h1 h2; simp [dgs]
theorem aXO {k n r : Nat} (hk : k ≤ n) (hr : r < 10 ^ k) : List.replicate (n - k) 48 ++ dgs k r = dgs n r := by
 rw [← aQx, aOL _ _ _ _ hr, Nat.zero_mul, Nat.zero_add]
 congr 1; omega
theorem aAN (u : Nat) (h0 : u ≠ 0) : 10 ^ (Lib.nDigits u - 1) ≤ u := by
 induction u using Nat.strongRecOn with
 | _ u ih =>
  by_cases h : u < 10
  ·rw [Lib.nDigits_small h]; simp; omega
  ·have := ih (u / 10) (by omega) (by omega)
   have hp := Lib.nDigits_pos (u / 10)
   rw [Lib.nDigits_big h, Nat.add_sub_cancel, show Lib.nDigits (u / 10) = Lib.nDigits (u / 10) - 1 + 1 from by omega, Nat.pow_succ]
   omega
theorem aOM {M b y : Nat} (hM : M ≠ 0) (hy : y < 10 ^ b) : Lib.nDigits (M * 10 ^ b + y) = Lib.nDigits M + b := by
 have h1 := Lib.lt_pow_nDigits M
 have h2 := Lib.nDigits_pos M
 have h3 := aAN M hM
 have h4 := Nat.mul_le_mul_right (10 ^ b) h3
 have h5 := Nat.mul_le_mul_right (10 ^ b) (show M + 1 ≤ 10 ^ Lib.nDigits M from h1)
 rw [← Nat.pow_add] at h4 h5
 rw [Nat.add_mul, Nat.one_mul] at h5
 have := Lib.nDigits_unique (Lib.nDigits M - 1 + b) (M * 10 ^ b + y) (by omega) (by rw [show Lib.nDigits M - 1 + b + 1 = Lib.nDigits M + b from by omega]; omega)
 omega
theorem aQy {M b y : Nat} (hM : M ≠ 0) (hy : y < 10 ^ b) : jK M ++ dgs b y = jK (M * 10 ^ b + y) := by
 unfold jK
 rw [aOM hM hy, aOL _ _ _ _ hy]
end Nu
end Go.Proofs
namespace Go.Proofs
open Go.Vc
set_option maxRecDepth 20000
namespace Nu
def cat (l : List (List Nat)) : List Nat := l.reverse.flatten
theorem aK4 (l : List (List Nat)) (s : List Nat) : cat (l ++ [s]) = s ++ cat l := by simp [cat]
theorem aUe (l : List (List Nat)) (k : Nat) : cat l = cat (l.drop k) ++ cat (l.take k) := by
 unfold cat
 rw [← List.flatten_append, ← List.reverse_append, List.take_append_drop]
theorem aON (l : List (List Nat)) (k : Nat) : (cat (l.take k)).length ≤ (cat l).length := by
 rw [aUe l k, List.length_append]; omega
theorem aXP (l : List (List Nat)) (h1 : l.length ≤ 1000000000) (h2 : (cat l).length ≤ 1000000000) : qF l = some (cat l) := by
 unfold qF
 refine aK (gF (step := fun d : (List Nat) × Int => lE l d.1 d.2) (I := fun d => 0 ≤ d.2 ∧ d.2 ≤ l.length ∧ d.1 = cat (l.take d.2.toNat)) (fun d => ((l.length : Int) - d.2).toNat) (fun _ => cat l) ?_ (aN ⟨#[]⟩, 0) ⟨by simp, by simp, rfl⟩) rfl
 rintro ⟨out, i⟩ ⟨i0, i1, i2⟩
 have i0 : 0 ≤ i := i0
 have i1 : i ≤ l.length := i1
 have i2 : out = cat (l.take i.toNat) := i2
 show (∃ d', lE l out i = _ ∧ _) ∨ lE l out i = _
 unfold lE
 by_cases hi : i < l.length
 ·left
  have hk : i.toNat < l.length := by omega
  have ht : cat (l.take (i + 1).toNat) = l.getD i.toNat [] ++ out := by
   rw [show (i + 1).toNat = i.toNat + 1 from by omega, List.take_succ_eq_append_getElem hk, aK4, i2, List.getD_eq_getElem?_getD, List.getElem?_eq_getElem hk]; rfl
  have hlen := aON l (i + 1).toNat
  rw [ht, List.length_append] at hlen
  refine ⟨(cat (l.take (i + 1).toNat), i + 1), ?_, ⟨by simp only; omega, by simp only; omega, rfl⟩, by simp only; omega, rfl⟩
  rw [if_pos hi]
  refine aB (by constructor <;> omega) (aB (by omega) (aB (by constructor <;> omega) ?_))
  rw [ht]
 ·right
  rw [if_neg hi, i2, List.take_of_length_le (by omega)]
def txt (n : Nat) : List Nat := if n = 0 then [] else jK n
structure TxI (n : Nat) (m : List Nat) (l : List (List Nat)) (M rest : Nat) : Prop where
 m0 : m = lb M
 sum : n = M * 10 ^ (18 * l.length) + rest
 lt : rest < 10 ^ (18 * l.length)
 str : cat l = dgs (18 * l.length) rest
 pos : M ≠ 0 ∨ l.length = 0
theorem aXQ {n M rest : Nat} {m : List Nat} {l : List (List Nat)} (h : TxI n m l M rest) : 18 * l.length ≤ bl n := by
 rcases h.pos with hp | hp
 ·rcases Nat.eq_zero_or_pos l.length with h0 | h0
  ·omega
  ·have h1 : 2 ^ (18 * l.length) ≤ 10 ^ (18 * l.length) := Nat.pow_le_pow_left (by decide) _
   have h2 : 10 ^ (18 * l.length) ≤ M * 10 ^ (18 * l.length) := Nat.le_mul_of_pos_left _ (by omega)
   have h3 : 2 ^ (18 * l.length) ≤ n := by rw [h.sum]; omega
   have := aKv h3
   omega
 ·omega
theorem q18 (M : Nat) : dO (lb M) [1000000000000000000] = (lb (M / 1000000000000000000), lb (M % 1000000000000000000), ()) := by
 unfold dO
 rw [vL]
 rfl
theorem aWc {n M P T rest : Nat} (h : n = M * T + rest) : n = M / P * (P * T) + (M % P * T + rest) := by
 have e := Nat.div_add_mod M P
 rw [h, ← Nat.add_assoc]
 congr 1
 conv => lhs; rw [← e]
 rw [Nat.add_mul, Nat.mul_comm P, Nat.mul_assoc]
theorem aXR {r P T rest : Nat} (h : r < P) (h2 : rest < T) : r * T + rest < P * T := by
 have h1 := Nat.mul_le_mul_right T (show r + 1 ≤ P from h)
 rw [Nat.add_mul, Nat.one_mul] at h1
 omega
theorem p18 : (10 : Nat) ^ 18 = 1000000000000000000 := by decide
theorem aXS {n M rest : Nat} {m : List Nat} {l : List (List Nat)} (hn : bl n ≤ 1000000) (h : TxI n m l M rest) :
  (∃ m' l' M' rest', iK l m (txt (M % 1000000000000000000)) = some (.inl (m', l')) ∧ TxI n m' l' M' rest' ∧ M' < M) ∨
   ∃ l', iK l m (txt (M % 1000000000000000000)) = some (.inr l') ∧ cat l' = txt n ∧ l'.length ≤ 1000000 := by
 have hl := aXQ h
 have hr : M % 1000000000000000000 < 10 ^ 18 := Nat.mod_lt _ (by decide)
 have e := Nat.div_add_mod M 1000000000000000000
 have hsl : (txt (M % 1000000000000000000)).length ≤ 18 := by
  unfold txt
  split
  ·simp
  ·rename_i h0
   unfold jK
   rw [pN]
   have h1 := aAN _ h0
   rcases Nat.lt_or_ge (Lib.nDigits (M % 1000000000000000000)) 19 with hh | hh
   ·omega
   ·have h2 : 10 ^ 18 ≤ 10 ^ (Lib.nDigits (M % 1000000000000000000) - 1) := Nat.pow_le_pow_right (by decide) (by omega)
    omega
 unfold iK
 rw [h.m0, q18]
 by_cases hq : M / 1000000000000000000 = 0
 ·right
  refine ⟨l ++ [txt (M % 1000000000000000000)], ?_, ?_, by rw [List.length_append]; simp; omega⟩
  ·refine aB (by omega) ?_
   rw [if_pos (by simp only; rw [hq, oA]; rfl)]
  ·have hM : M % 1000000000000000000 = M := by omega
   rw [aK4, hM, h.str]
   rcases Nat.eq_zero_or_pos M with h0 | h0
   ·subst h0
    rcases h.pos with hp | hp
    ·exact absurd rfl hp
    ·have hs := h.sum
     have hlt := h.lt
     rw [hp] at hlt hs ⊢
     have : rest = 0 := by simpa using hlt
     subst this
     simp only [Nat.zero_mul, Nat.add_zero] at hs
     subst hs
     rfl
   ·have hn0 : n ≠ 0 := by
     rw [h.sum]
     have := Nat.mul_pos h0 (Nat.pow_pos (n := 18 * l.length) (show 0 < 10 by decide))
     omega
    unfold txt
    rw [if_neg (by omega), if_neg hn0, aQy (by omega) h.lt, ← h.sum]
 ·left
  have hpad : List.replicate (18 - (txt (M % 1000000000000000000)).length) 48 ++ txt (M % 1000000000000000000) = dgs 18 (M % 1000000000000000000) := by
   unfold txt at hsl ⊢
   split
   ·rename_i h0; rw [h0, aQx]; simp
   ·rename_i h0
    rw [if_neg h0] at hsl
    unfold jK at hsl ⊢
    rw [pN] at hsl ⊢
    exact aXO hsl (Lib.lt_pow_nDigits _)
  have hrep : aR (aN ⟨#[48]⟩) (18 - ((txt (M % 1000000000000000000)).length : Int)) = some (List.replicate (18 - (txt (M % 1000000000000000000)).length) 48) := by
   have := aNx (18 - (txt (M % 1000000000000000000)).length) (by omega)
   rw [show ((18 - (txt (M % 1000000000000000000)).length : Nat) : Int) = 18 - ((txt (M % 1000000000000000000)).length : Int) from by omega] at this
   exact this
  have hset : (l ++ [txt (M % 1000000000000000000)]).set (((l ++ [txt (M % 1000000000000000000)]).length : Int) - 1).toNat (List.replicate (18 - (txt (M % 1000000000000000000)).length) 48 ++ txt (M % 1000000000000000000)) = l ++ [dgs 18 (M % 1000000000000000000)] := by
   rw [hpad, List.length_append, List.length_singleton, show (((l.length + 1 : Nat) : Int) - 1).toNat = l.length from by omega]
   simp
  refine ⟨lb (M / 1000000000000000000), l ++ [dgs 18 (M % 1000000000000000000)], M / 1000000000000000000, M % 1000000000000000000 * 10 ^ (18 * l.length) + rest, ?_, ?_, Nat.div_lt_self (by omega) (by decide)⟩
  ·have hne := List.length_pos_iff.2 (fun e => hq (aGw.1 e))
   have hll : (l ++ [txt (M % 1000000000000000000)]).length = l.length + 1 := by simp
   refine aB (by omega) ?_
   rw [if_neg (by simp only; omega)]
   simp only [hrep, Option.getD_some]
   refine aB (by constructor <;> omega) (aB (by constructor <;> omega) (aB rfl (aB (by rw [List.length_replicate]; omega) (aB (by constructor <;> omega) ?_))))
   rw [hset]
  ·have hl1 : (l ++ [dgs 18 (M % 1000000000000000000)]).length = l.length + 1 := by simp
   have hp : 10 ^ (18 * (l.length + 1)) = 1000000000000000000 * 10 ^ (18 * l.length) := by rw [← p18, ← Nat.pow_add]; congr 1; omega
   refine ⟨rfl, ?_, ?_, ?_, .inl hq⟩
   ·rw [hl1, hp]
    have := aWc (P := 1000000000000000000) (T := 10 ^ (18 * l.length)) h.sum
    exact this
   ·rw [hl1, hp]; exact aXR (Nat.mod_lt _ (by decide)) h.lt
   ·have := aOL 18 (18 * l.length) (M % 1000000000000000000) rest h.lt
    rw [hl1, aK4, h.str, this, show 18 + 18 * l.length = 18 * (l.length + 1) from by omega]
end Nu
end Go.Proofs
namespace Go.Proofs
open Go.Vc
set_option maxRecDepth 20000
namespace Nu
theorem aWd {x : Nat} (h : x < 18446744073709551616) : (lb x).getD 0 0 = x := by
 rw [rR (aS7 x), vL, Nat.pow_zero, Nat.div_one, Nat.mod_eq_of_lt h]
theorem aTl : Nrm [1000000000000000000] ∧ nv [1000000000000000000] ≠ 0 := by decide
theorem aXT {n M rest : Nat} {m : List Nat} {l : List (List Nat)} (hm : m.length ≤ 100000) (h : TxI n m l M rest) : kG m l = iK l m (txt (M % 1000000000000000000)) := by
 have hr : M % 1000000000000000000 < 1000000000000000000 := Nat.mod_lt _ (by decide)
 have hp : yV m [1000000000000000000] := ⟨by rw [h.m0]; exact aOe _, aTl.1, aTl.2, by omega⟩
 unfold kG
 refine aB hp ?_
 have hq : (dO m [1000000000000000000]).2.1 = lb (M % 1000000000000000000) := by rw [h.m0, q18]
 rw [hq]
 by_cases h0 : M % 1000000000000000000 = 0
 ·have ht : txt (M % 1000000000000000000) = aN ⟨#[]⟩ := by unfold txt; rw [if_pos h0]; rfl
  rw [if_neg (by rw [h0, oA]; simp), ht]
 ·have ht : txt (M % 1000000000000000000) = jK (M % 1000000000000000000) := by unfold txt; rw [if_neg h0]
  have hl := List.length_pos_iff.2 (fun e => h0 (aGw.1 e))
  have hf := aMM (M % 1000000000000000000) (by omega)
  rw [if_pos (by omega), aWd (by omega), ht]
  simp only [hf, Option.getD_some]
  exact aB (by omega) (aB rfl rfl)
theorem aRQ (k : Nat) {n : Nat} (h : n < 18446744073709551616 ^ k) : bl n ≤ 64 * k := aBq (by rw [← uZ]; exact h)
theorem aXU (n : Nat) (hn : n < 18446744073709551616 ^ 10000) : aT (lb n) = some (txt n) := by
 have hb := aRQ 10000 hn
 have key := cV (step := fun d : (List Nat) × (List (List Nat)) => kG d.1 d.2) (I := fun d => ∃ M rest, TxI n d.1 d.2 M rest) (fun d => nv d.1) (fun e => cat e = txt n ∧ e.length ≤ 1000000) ?_ (lb n, []) ⟨n, 0, ⟨rfl, by simp, by simp, rfl, .inr rfl⟩⟩
 ·obtain ⟨e, h1, h2, h3⟩ := key
  unfold aT
  refine aK h1 ?_
  have hlen : (txt n).length ≤ 1000000 := by
   unfold txt
   split
   ·simp
   ·rename_i h0
    unfold jK
    rw [pN]
    have a := aAN n h0
    have b : 2 ^ (Lib.nDigits n - 1) ≤ 10 ^ (Lib.nDigits n - 1) := Nat.pow_le_pow_left (by decide) _
    have := aKv (Nat.le_trans b a)
    omega
  rw [aXP e (by omega) (by rw [h2]; omega), h2]
 ·rintro ⟨m, l⟩ ⟨M, rest, h⟩
  have h : TxI n m l M rest := h
  have hMn : M ≤ n := by
   rw [h.sum]
   have := Nat.le_mul_of_pos_right M (Nat.pow_pos (n := 18 * l.length) (show 0 < 10 by decide))
   omega
  have hm : m.length ≤ 100000 := by
   rw [h.m0]
   exact Nat.le_trans (aC8.2 (Nat.lt_of_le_of_lt hMn hn)) (by decide)
  show (∃ d', kG m l = _ ∧ _) ∨ ∃ e, kG m l = _ ∧ _
  rw [aXT hm h]
  rcases aXS (by omega) h with ⟨m', l', M', rest', k1, k2, k3⟩ | ⟨l', k1, k2, k3⟩
  ·left
   refine ⟨(m', l'), k1, ⟨M', rest', k2⟩, ?_⟩
   show nv m' < nv m
   rw [k2.m0, h.m0, vL, vL]
   exact k3
  ·right
   exact ⟨l', k1, k2, k3⟩
end Nu
end Go.Proofs
namespace Go.Proofs
open Go.Vc
set_option maxRecDepth 20000
namespace Nu
def wK (k : Nat) (s : List Nat) : List Nat := List.replicate (k + 1 - s.length) 48 ++ s
def ptS (k : Nat) (s : List Nat) : List Nat := if 0 < k then s.take (s.length - k) ++ [46] ++ s.drop (s.length - k) else s
def sgS (neg : Bool) (q : Nat) (s : List Nat) : List Nat := if neg = true ∧ q ≠ 0 then 45 :: s else s
theorem aJB {n : Nat} (h : bl n ≤ 640000) : (txt n).length ≤ 1000000 := by
 unfold txt
 split
 ·simp
 ·rename_i h0
  unfold jK
  rw [pN]
  have a := aAN n h0
  have b : 2 ^ (Lib.nDigits n - 1) ≤ 10 ^ (Lib.nDigits n - 1) := Nat.pow_le_pow_left (by decide) _
  have := aKv (Nat.le_trans b a)
  omega
theorem aYz {n k : Nat} (h : n < 18446744073709551616 ^ k) : bl n ≤ 64 * k := aBq (by rw [← uZ]; exact h)
theorem aTm (d : Dy) (q : Nat) (s : List Nat) (hs : s.length ≤ 10000000) : nJ d (lb q) s = some (sgS d.1 q s, 0, ()) := by
 unfold nJ sgS
 have hq : (0 : Int) < ((lb q).length : Int) ↔ q ≠ 0 := by
  constructor
  ·intro h e; rw [e, oA] at h; simp at h
  ·intro h
   have := List.length_pos_iff.2 (fun e => h (aGw.1 e))
   omega
 by_cases h : d.1 = true ∧ q ≠ 0
 ·rw [if_pos ⟨h.1, hq.2 h.2⟩, if_pos h]
  refine aB ?_ rfl
  have : (aN ⟨#[45]⟩).length = 1 := rfl
  omega
 ·rw [if_neg (fun hh => h ⟨hh.1, hq.1 hh.2⟩), if_neg h]
theorem aTn (k : Nat) (d : Dy) (q : Nat) (hk : k ≤ 60) (hq : q < 18446744073709551616 ^ 10000) : nK (k : Int) d (lb q) = some (sgS d.1 q (ptS k (wK k (txt q))), 0, ()) := by
 have hl := aJB (Nat.le_trans (aYz hq) (by decide))
 have ht := aXU q hq
 have hr : aR (aN ⟨#[48]⟩) (max ((k : Int) + 1 - ((txt q).length : Int)) 0) = some (List.replicate (k + 1 - (txt q).length) 48) := by
  have := aNx (k + 1 - (txt q).length) (by omega)
  rw [show ((k + 1 - (txt q).length : Nat) : Int) = max ((k : Int) + 1 - ((txt q).length : Int)) 0 from by omega] at this
  exact this
 have hp : (wK k (txt q)).length = k + 1 - (txt q).length + (txt q).length := by unfold wK; rw [List.length_append, List.length_replicate]
 have e : List.replicate (k + 1 - (txt q).length) 48 ++ txt q = wK k (txt q) := rfl
 unfold nK
 simp only [ht, Option.getD_some, hr, e]
 refine aB rfl (aB (by constructor <;> omega) (aB (by constructor <;> omega) (aB rfl (aB (by rw [List.length_replicate]; omega) ?_))))
 have h1 : (aN ⟨#[46]⟩) = [46] := rfl
 unfold ptS
 by_cases h : 0 < k
 ·have en : (((wK k (txt q)).length : Int) - (k : Int)).toNat = (wK k (txt q)).length - k := by omega
  rw [if_pos (by omega), if_pos h, h1, en]
  have l1 : ((wK k (txt q)).take ((wK k (txt q)).length - k)).length = (wK k (txt q)).length - k := by rw [List.length_take]; omega
  have l2 : ((wK k (txt q)).drop ((wK k (txt q)).length - k)).length = k := by rw [List.length_drop]; omega
  refine aB (by constructor <;> omega) (aB (by constructor <;> omega) (aB (by rw [l1]; simp; omega) (aB (by constructor <;> omega) (aB (by constructor <;> omega) (aB (by rw [List.length_append, l1, l2]; simp; omega) ?_)))))
  exact aTm d q _ (by rw [List.length_append, List.length_append, l1, l2]; simp; omega)
 ·rw [if_neg (by omega), if_neg h]
  exact aTm d q _ (by omega)
def txM (d : Dy) (k : Nat) : Nat := nv d.2.1 * 2 ^ (max d.2.2.1 0).toNat * 10 ^ k
def txQ (d : Dy) (k : Nat) (up : Bool) : Nat :=
 let m := txM d k
 let n := (max (-d.2.2.1) 0).toNat
 if m % 2 ^ n ≠ 0 ∧ (up != d.1) = true then m / 2 ^ n + 1 else m / 2 ^ n
def eL (d : Dy) (k : Int) (up : Bool) : List Nat × Int × Unit :=
 if jR d = false ∨ k < 0 ∨ 60 < k then ([], 1, ())
 else if 2000 < d.2.2.1 ∨ d.2.2.1 < -2000 then ([], 2, ())
 else (sgS d.1 (txQ d k.toNat up) (ptS k.toNat (wK k.toNat (txt (txQ d k.toNat up)))), 0, ())
theorem aRR {d : Dy} {k : Nat} (lm : Lm d.2.1) (hl : d.2.1.length ≤ 64) (he : d.2.2.1 ≤ 2000) (hk : k ≤ 60) : txM d k < 18446744073709551616 ^ 200 := by
 have h1 := kV lm
 rw [uZ] at h1
 have h2 := aQv k
 unfold txM
 have h3 : nv d.2.1 * 2 ^ (max d.2.2.1 0).toNat < 2 ^ (64 * d.2.1.length) * 2 ^ (max d.2.2.1 0).toNat := Nat.mul_lt_mul_of_pos_right h1 (Nat.two_pow_pos _)
 rw [← Nat.pow_add] at h3
 have h4 := Nat.mul_lt_mul_of_lt_of_le h3 h2 (Nat.pow_pos (by decide))
 rw [← Nat.pow_add] at h4
 exact aYy 200 h4 (by omega)
theorem aOO (d : Dy) (k : Int) (up : Bool) (lm : Lm d.2.1) : jJ d k up = some (eL d k up) := by
 unfold jJ eL
 simp only [aDs, Option.getD_some]
 refine aB rfl ?_
 by_cases h1 : jR d = false ∨ k < 0 ∨ 60 < k
 ·rw [if_pos (by rcases h1 with h | h | h; exact .inl (.inl (by rw [h]; decide)); exact .inl (.inr h); exact .inr h), if_pos h1]; rfl
 ·have hm : jR d = true := by
   cases hh : jR d with
   | true => rfl
   | false => exact absurd (.inl hh) h1
  have hk : 0 ≤ k ∧ k ≤ 60 := by omega
  rw [if_neg (by rintro ((h | h) | h); exact h hm; omega; omega), if_neg h1]
  by_cases h2 : 2000 < d.2.2.1 ∨ d.2.2.1 < -2000
  ·rw [if_pos h2, if_pos h2]; rfl
  ·rw [if_neg h2, if_neg h2]
   obtain ⟨a1, a2, a3, a4⟩ := wJ hm
   obtain ⟨j, rfl⟩ : ∃ j : Nat, k = (j : Int) := ⟨k.toNat, by omega⟩
   rw [Int.toNat_natCast]
   have hM := aRR (k := j) lm a1 (by omega) (by omega)
   have hpw := aWa 10 j (by decide) (by omega)
   have hL : cF d.2.1 (max d.2.2.1 0) = lb (nv d.2.1 * 2 ^ (max d.2.2.1 0).toNat) := rfl
   have hT : dF (lb (nv d.2.1 * 2 ^ (max d.2.2.1 0).toNat)) (lb (10 ^ j)) = lb (txM d j) := by
    unfold dF txM; rw [vL, vL]
   have hLl : (lb (nv d.2.1 * 2 ^ (max d.2.2.1 0).toNat)).length ≤ 200 := by
    refine aC8.2 (Nat.lt_of_le_of_lt ?_ hM)
    unfold txM
    exact Nat.le_mul_of_pos_right _ (Nat.pow_pos (by decide))
   have hPl := aV9 (b := 10) (i := j) (by decide)
   have hTl := aC8.2 hM
   have hn : max (0 - d.2.2.1) 0 = ((max (-d.2.2.1) 0).toNat : Int) := by omega
   simp only [hpw, Option.getD_some, hL, hT, hn]
   have hR : gR (lb (txM d j)) ((max (-d.2.2.1) 0).toNat : Int) = lb (txM d j / 2 ^ (max (-d.2.2.1) 0).toNat) := by
    unfold gR; rw [vL, Int.toNat_natCast]
   rw [hR]
   have hqlt : txM d j / 2 ^ (max (-d.2.2.1) 0).toNat < 18446744073709551616 ^ 200 := Nat.lt_of_le_of_lt (Nat.div_le_self _ _) hM
   have hP : tF (lb (txM d j / 2 ^ (max (-d.2.2.1) 0).toNat)) [1] = lb (txM d j / 2 ^ (max (-d.2.2.1) 0).toNat + 1) := by
    unfold tF; rw [vL]; rfl
   have hbig : ∀ x, x < 18446744073709551616 ^ 200 → x + 1 < 18446744073709551616 ^ 10000 := fun x hx => by
    have : 18446744073709551616 ^ 200 < 18446744073709551616 ^ 10000 := aTk 200 10000 (by decide)
    exact Nat.lt_of_le_of_lt hx this
   refine aB ⟨by show d.2.1.length ≤ _; omega, by omega, by omega⟩ (aB rfl (aB ⟨by show (lb (nv d.2.1 * 2 ^ (max d.2.2.1 0).toNat)).length ≤ _; omega, by show (lb (10 ^ j)).length ≤ _; omega⟩ (aB (by constructor <;> omega) (aB ⟨by show (lb (txM d j)).length ≤ _; omega, by omega⟩ (aB (fun _ => by show (lb (txM d j)).length ≤ _; omega) ?_)))))
   have hc : ((0 : Int) < ((lb (txM d j)).length : Int) ∧ rB (lb (txM d j)) < ((max (-d.2.2.1) 0).toNat : Int)) ↔ txM d j % 2 ^ (max (-d.2.2.1) 0).toNat ≠ 0 := by
    by_cases h0 : txM d j = 0
    ·rw [h0, oA, Nat.zero_mod]; simp
    ·have hl := List.length_pos_iff.2 (fun e => h0 (aGw.1 e))
     have hz : rB (lb (txM d j)) = (tzn (txM d j) : Int) := by unfold rB; rw [vL, if_neg h0]
     rw [hz, ← aXL h0]
     constructor
     ·intro h; omega
     ·intro h; exact ⟨by omega, by omega⟩
   unfold txQ
   simp only
   by_cases h3 : txM d j % 2 ^ (max (-d.2.2.1) 0).toNat ≠ 0 ∧ (up != d.1) = true
   ·rw [if_pos ⟨hc.2 h3.1, h3.2⟩, if_pos h3, hP]
    have hl3 := aC8.2 hqlt
    refine aB ⟨by show (lb (txM d j / 2 ^ (max (-d.2.2.1) 0).toNat)).length ≤ _; omega, by show (1 : Nat) ≤ _; decide⟩ ?_
    exact aTn j d _ (by omega) (hbig _ hqlt)
   ·rw [if_neg (fun h => h3 ⟨hc.1 h.1, h.2⟩), if_neg h3]
    exact aTn j d _ (by omega) (Nat.lt_of_succ_lt (hbig _ hqlt))
end Nu
end Go.Proofs
namespace Go.Proofs
open Go.Vc
set_option maxRecDepth 20000
namespace Nu
end Nu
end Go.Proofs
namespace Go.Proofs
open Go.Vc
set_option maxRecDepth 20000
namespace Nu
def qU (d : Dy) : Int := if jR d = false ∨ d.2.1.length = 0 then 0 else if d.1 = true then -1 else 1
theorem aXV (d : Dy) : dV d = some (qU d) := by
 unfold dV qU
 simp only [aDs, Option.getD_some]
 refine aB rfl ?_
 by_cases h : jR d = false ∨ d.2.1.length = 0
 ·rw [if_pos (by rcases h with h | h; exact .inl (by rw [h]; decide); exact .inr (by omega)), if_pos h]
 ·have hm : jR d = true := by
   cases hh : jR d with
   | true => rfl
   | false => exact absurd (.inl hh) h
  rw [if_neg (by rintro (hh | hh); exact hh hm; exact h (.inr (by omega))), if_neg h]
  by_cases hn : d.1 = true
  ·rw [if_pos hn, if_pos hn]
  ·rw [if_neg hn, if_neg hn]
def aFE (a b : Dy) : Int :=
 let x := (bl (nv a.2.1) : Int) + a.2.2.1
 let y := (bl (nv b.2.1) : Int) + b.2.2.1
 let low := min a.2.2.1 b.2.2.1
 if x < y then -1 else if y < x then 1 else aEK (nv a.2.1 * 2 ^ (a.2.2.1 - low).toNat) (nv b.2.1 * 2 ^ (b.2.2.1 - low).toNat)
theorem size_eq (a b : Dy) (la : Lm a.2.1) (lb' : Lm b.2.1) (ha : jR a = true) (hb : jR b = true) : oZ a b = some (aFE a b) := by
 obtain ⟨a1, a2, a3, a4⟩ := wJ ha
 obtain ⟨b1, b2, b3, b4⟩ := wJ hb
 have hba : bl (nv a.2.1) ≤ 64 * a.2.1.length := aBq (by rw [← uZ]; exact kV la)
 have hbb : bl (nv b.2.1) ≤ 64 * b.2.1.length := aBq (by rw [← uZ]; exact kV lb')
 have e1 : kW a.2.1 = (bl (nv a.2.1) : Int) := rfl
 have e2 : kW b.2.1 = (bl (nv b.2.1) : Int) := rfl
 unfold oZ aFE
 rw [e1, e2]
 refine aB ⟨a2, by show a.2.1.length ≤ _; omega⟩ (aB (by constructor <;> omega) (aB ⟨b2, by show b.2.1.length ≤ _; omega⟩ (aB (by constructor <;> omega) ?_)))
 simp only
 by_cases h1 : (bl (nv a.2.1) : Int) + a.2.2.1 < (bl (nv b.2.1) : Int) + b.2.2.1
 ·rw [if_pos h1, if_pos h1]
 ·rw [if_neg h1, if_neg h1]
  by_cases h2 : (bl (nv b.2.1) : Int) + b.2.2.1 < (bl (nv a.2.1) : Int) + a.2.2.1
  ·rw [if_pos h2, if_pos h2]
  ·rw [if_neg h2, if_neg h2]
   refine aB (by constructor <;> omega) (aB ⟨by show a.2.1.length ≤ _; omega, by omega, by omega⟩ (aB (by constructor <;> omega) (aB ⟨by show b.2.1.length ≤ _; omega, by omega, by omega⟩ (aB ⟨aOe _, aOe _⟩ ?_))))
   unfold oX cF
   rw [vL, vL]
def aOP (a b : Dy) : Int :=
 if jR a = false ∨ jR b = false then 0
 else if qU a < qU b then -1
 else if qU b < qU a then 1
 else if qU a = 0 then 0
 else qU a * aFE a b
theorem aHF (a b : Dy) : -1 ≤ aFE a b ∧ aFE a b ≤ 1 := by
 unfold aFE
 simp only
 split
 ·decide
 ·split
  ·decide
  ·unfold aEK
   split
   ·decide
   ·split <;> decide
theorem aDt (d : Dy) : qU d = 0 ∨ qU d = 1 ∨ qU d = -1 := by
 unfold qU
 split
 ·exact .inl rfl
 ·split
  ·exact .inr (.inr rfl)
  ·exact .inr (.inl rfl)
theorem aWe (a b : Dy) (la : Lm a.2.1) (lb' : Lm b.2.1) : pM a b = some (aOP a b) := by
 have ra := aDt a
 have rb := aDt b
 have rs := aHF a b
 unfold pM aOP
 simp only [aXV, aDs, Option.getD_some]
 refine aB rfl (aB rfl (aB rfl (aB (fun _ => rfl) ?_)))
 by_cases h : jR a = false ∨ jR b = false
 ·rw [if_pos (by rcases h with h | h; exact .inl (by rw [h]; decide); exact .inr (by rw [h]; decide)), if_pos h]
 ·have ha : jR a = true := by
   cases hh : jR a with
   | true => rfl
   | false => exact absurd (.inl hh) h
  have hb : jR b = true := by
   cases hh : jR b with
   | true => rfl
   | false => exact absurd (.inr hh) h
  rw [if_neg (by rintro (hh | hh); exact hh ha; exact hh hb), if_neg h]
  by_cases h1 : qU a < qU b
  ·rw [if_pos ⟨by omega, h1⟩, if_pos h1]
  ·rw [if_neg (fun hh => h1 hh.2), if_neg h1]
   by_cases h2 : qU b < qU a
   ·rw [if_pos (by omega), if_pos h2]
   ·rw [if_neg (by omega), if_neg h2]
    by_cases h3 : qU a = 0
    ·rw [if_pos h3, if_pos h3]
    ·rw [if_neg h3, if_neg h3]
     simp only [size_eq a b la lb' ha hb, Option.getD_some]
     refine aB rfl (aB ?_ rfl)
     rcases ra with r | r | r <;> rw [r] <;> constructor <;> omega
end Nu
end Go.Proofs
