import Derived.Test.YtkihplehmkbfaaaDoorZS1
import Derived.Test.YtkihplehmkbfaaaDoorZL5
import Derived.Shelf.Strconv.Itoa2
import Derived.Lib.ItoaNum
set_option linter.unusedVariables false
set_option linter.unusedSimpArgs false
namespace Go.Proofs
open Go.Vc
set_option maxRecDepth 20000
namespace Nu
abbrev uI (a b : List Nat) : Prop := Nrm a ∧ Nrm b ∧ nv b ≠ 0 ∧ a.length ≤ 1099511627776
def dG (a b : List Nat) : List Nat × List Nat × Unit := (lb (nv a / nv b), lb (nv a % nv b), ())
noncomputable def pD (b_1 : (List Nat)) (u_11 : (List Nat)) (q_12 : (List Nat)) : Option (((List Nat) × ((List Nat) × Unit))) :=
 ck (0 ≤ (b_1.length : Int) ∧ (b_1.length : Int) ≤ (u_11.length : Int)) (ck ((aJm (dA (List.take (b_1.length) u_11)) (aA (b_1.getD (((b_1.length : Int) - (1 : Int)).toNat) (0 : Nat))))) (some ((dA q_12), (gC (dA (List.take (b_1.length) u_11)) (aA (b_1.getD (((b_1.length : Int) - (1 : Int)).toNat) (0 : Nat)))), ())))
noncomputable def kQ (b_1 : (List Nat)) (j_14 : Int) (u_15 : (List Nat)) (q_16 : (List Nat)) : Option ((Int × (List Nat) × (List Nat)) ⊕ (((List Nat) × (List Nat)))) :=
 if (0 : Int) ≤ j_14 then ck (I64 (j_14 + (b_1.length : Int))) (ck (I64 ((j_14 + (b_1.length : Int)) + (1 : Int))) (ck (0 ≤ j_14 ∧ j_14 < ((j_14 + (b_1.length : Int)) + (1 : Int)) ∧ ((j_14 + (b_1.length : Int)) + (1 : Int)) ≤ (u_15.length : Int)) (((pV (j_14.toNat) ((((j_14 + (b_1.length : Int)) + (1 : Int)) - j_14).toNat) (cW (bX b_1 (aA (b_1.getD (((b_1.length : Int) - (1 : Int)).toNat) (0 : Nat)))) (b_1.length : Int)) u_15)).bind (fun r_24 => ck (0 ≤ j_14 ∧ j_14 < (q_16.length : Int)) (ck (I64 (j_14 - (1 : Int))) (some (.inl ((j_14 - (1 : Int)), (r_24.2), (q_16.set (j_14.toNat) (r_24.1)))))))))) else some (.inr (u_15, q_16))
noncomputable def uJ (a_0 : (List Nat)) (b_1 : (List Nat)) : Option ((List Nat) × ((List Nat) × Unit)) :=
 ck ((aNb a_0 b_1)) (if (mQ a_0 b_1) < (0 : Int) then ck ((aPs a_0)) (some (([] : List Nat), (id a_0), ())) else if (b_1.length : Int) = (1 : Int) then ck ((0 : Int) < (b_1.length : Int)) (ck ((aAQ a_0 (b_1.getD (0 : Nat) (0 : Nat)))) (some (((pS a_0 (b_1.getD (0 : Nat) (0 : Nat))).1), (((pS a_0 (b_1.getD (0 : Nat) (0 : Nat))).2).1), ()))) else ck (I64 ((b_1.length : Int) - (1 : Int))) (ck (0 ≤ ((b_1.length : Int) - (1 : Int)) ∧ ((b_1.length : Int) - (1 : Int)) < (b_1.length : Int)) (ck ((aGe b_1 (aA (b_1.getD (((b_1.length : Int) - (1 : Int)).toNat) (0 : Nat))))) (ck ((uH (bX b_1 (aA (b_1.getD (((b_1.length : Int) - (1 : Int)).toNat) (0 : Nat)))) (b_1.length : Int))) (ck ((aGe a_0 (aA (b_1.getD (((b_1.length : Int) - (1 : Int)).toNat) (0 : Nat))))) (ck (I64 ((a_0.length : Int) + (1 : Int))) (ck ((uH (bX a_0 (aA (b_1.getD (((b_1.length : Int) - (1 : Int)).toNat) (0 : Nat)))) ((a_0.length : Int) + (1 : Int)))) (ck (I64 ((a_0.length : Int) - (b_1.length : Int))) (ck (I64 (((a_0.length : Int) - (b_1.length : Int)) + (1 : Int))) (ck (0 ≤ (((a_0.length : Int) - (b_1.length : Int)) + (1 : Int))) (ck ((8 : Int) * (((a_0.length : Int) - (b_1.length : Int)) + (1 : Int)) ≤ 281474976710656) (ck (I64 ((a_0.length : Int) - (b_1.length : Int))) ((cX (fun d : Int × (List Nat) × (List Nat) => kQ b_1 d.1 d.2.1 d.2.2) (((a_0.length : Int) - (b_1.length : Int)), (cW (bX a_0 (aA (b_1.getD (((b_1.length : Int) - (1 : Int)).toNat) (0 : Nat)))) ((a_0.length : Int) + (1 : Int))), (List.replicate ((((a_0.length : Int) - (b_1.length : Int)) + (1 : Int)).toNat) (0 : Nat)))).bind (fun e => pD b_1 e.1 e.2))))))))))))))
theorem aDy {a : List Nat} {n : Int} : nv (cW a n) = nv a := by
 unfold cW; rw [aDu, aDv, Nat.mul_zero, Nat.add_zero]
theorem aGs {a : List Nat} {n : Int} (h : a.length ≤ n) : (cW a n).length = n.toNat := by
 unfold cW; rw [List.length_append, List.length_replicate]; omega
theorem aIC {a : List Nat} {n : Int} (h : Lm a) : Lm (cW a n) := aPu h (aDw _)
theorem aK3 {b : List Nat} (lb' : Lm b) (hn : Nrm b) (h0 : nv b ≠ 0) : 0 < b.length ∧ 1 ≤ b.getD (b.length - 1) 0 ∧ b.getD (b.length - 1) 0 * 18446744073709551616 ^ (b.length - 1) ≤ nv b ∧ nv b < (b.getD (b.length - 1) 0 + 1) * 18446744073709551616 ^ (b.length - 1) := by
 have hne : b ≠ [] := fun e => h0 (by rw [e]; rfl)
 have hl : 0 < b.length := List.length_pos_iff.2 hne
 have hp : 0 < 18446744073709551616 ^ (b.length - 1) := Nat.pow_pos (by decide)
 have hge := aM9 hn hne
 have hlt := nH lb'
 have ht : b.getD (b.length - 1) 0 = nv b / 18446744073709551616 ^ (b.length - 1) := by
  rw [oK lb']
  refine Nat.mod_eq_of_lt ((Nat.div_lt_iff_lt_mul hp).2 ?_)
  rw [Nat.mul_comm, ← Nat.pow_succ, show (b.length - 1).succ = b.length from by omega]
  exact hlt
 rw [ht]
 exact ⟨hl, (Nat.le_div_iff_mul_le hp).2 (by omega), Nat.div_mul_le_self _ _, by rw [Nat.mul_comm]; exact Nat.lt_mul_div_succ _ hp⟩
theorem aN0 {b : List Nat} (lb' : Lm b) (hn : Nrm b) (h0 : nv b ≠ 0) : nv b * 2 ^ (64 - bl (b.getD (b.length - 1) 0)) < 18446744073709551616 ^ b.length ∧ 9223372036854775808 * 18446744073709551616 ^ (b.length - 1) ≤ nv b * 2 ^ (64 - bl (b.getD (b.length - 1) 0)) := by
 obtain ⟨hl, h1, h2, h3⟩ := aK3 lb' hn h0
 have hb := aNQ (fB lb' (b.length - 1))
 have hlow := aLO (x := b.getD (b.length - 1) 0) (by omega)
 have hlt := aPv (b.getD (b.length - 1) 0)
 have hpos := aJe (x := b.getD (b.length - 1) 0) (by omega)
 generalize b.getD (b.length - 1) 0 = t at *
 have hp := Nat.two_pow_pos (64 - bl t)
 have e1 : 2 ^ bl t * 2 ^ (64 - bl t) = 18446744073709551616 := by rw [← Nat.pow_add, show bl t + (64 - bl t) = 64 from by omega]
 have e2 : 2 ^ (bl t - 1) * 2 ^ (64 - bl t) = 9223372036854775808 := by rw [← Nat.pow_add, show bl t - 1 + (64 - bl t) = 63 from by omega]
 constructor
 ·have k1 : (t + 1) * 2 ^ (64 - bl t) ≤ 18446744073709551616 := by rw [← e1]; exact Nat.mul_le_mul_right _ hlt
  have k2 := Nat.mul_lt_mul_of_pos_right h3 hp
  refine Nat.lt_of_lt_of_le k2 ?_
  rw [Nat.mul_right_comm, show 18446744073709551616 ^ b.length = 18446744073709551616 * 18446744073709551616 ^ (b.length - 1) from by rw [Nat.mul_comm, ← Nat.pow_succ]; congr 1; omega]
  exact Nat.mul_le_mul_right _ k1
 ·have k1 : 9223372036854775808 ≤ t * 2 ^ (64 - bl t) := by rw [← e2]; exact Nat.mul_le_mul_right _ hlow
  refine Nat.le_trans (Nat.mul_le_mul_right _ k1) ?_
  rw [Nat.mul_right_comm]
  exact Nat.mul_le_mul_right _ h2
structure QrI (m n V N : Nat) (j : Int) (u q : List Nat) : Prop where
 j0 : -1 ≤ j
 j1 : j ≤ m
 ul : u.length = m + n + 1
 lu : Lm u
 ql : q.length = m + 1
 lq : Lm q
 lt : nv u < 18446744073709551616 ^ (j + 1).toNat * V
 lo : ∃ t, nv q = 18446744073709551616 ^ (j + 1).toNat * t
 sum : nv q * V + nv u = N
theorem aPR {m n V N : Nat} {j : Int} {u q w : List Nat} (h : QrI m n V N j u q) (hj : 0 ≤ j) (hw : w.length = u.length) (lw : Lm w) (hV : 0 < V)
  (e : nv w + nv u / (18446744073709551616 ^ j.toNat * V) * (18446744073709551616 ^ j.toNat * V) = nv u) : QrI m n V N (j - 1) w (q.set j.toNat (nv u / (18446744073709551616 ^ j.toNat * V))) := by
 have h1 := h.j1
 have hql := h.ql
 have hul := h.ul
 have e1 : (j + 1).toNat = j.toNat + 1 := by omega
 have e2 : (j - 1 + 1).toNat = j.toNat := by omega
 have hW : 0 < 18446744073709551616 ^ j.toNat * V := Nat.mul_pos (Nat.pow_pos (by decide)) hV
 have hlt := h.lt
 obtain ⟨t, ht⟩ := h.lo
 rw [e1] at hlt ht
 have hQ : nv u / (18446744073709551616 ^ j.toNat * V) < 18446744073709551616 := by
  refine (Nat.div_lt_iff_lt_mul hW).2 ?_
  rw [Nat.pow_succ, Nat.mul_comm (18446744073709551616 ^ j.toNat) 18446744073709551616, Nat.mul_assoc] at hlt
  exact hlt
 have hz : q.getD j.toNat 0 = 0 := by
  rw [oK h.lq, ht, Nat.pow_succ, Nat.mul_assoc, Nat.mul_div_cancel_left _ (Nat.pow_pos (by decide)), Nat.mul_mod_right]
 have hset := xC (a := q) (k := j.toNat) (v := nv u / (18446744073709551616 ^ j.toNat * V)) (by omega)
 rw [hz, Nat.mul_zero, Nat.add_zero] at hset
 have hwm : nv w = nv u % (18446744073709551616 ^ j.toNat * V) := by
  have d := Nat.div_add_mod (nv u) (18446744073709551616 ^ j.toNat * V)
  rw [Nat.mul_comm] at d
  omega
 refine ⟨by omega, by omega, by omega, lw, by rw [List.length_set]; exact hql, tP h.lq _ hQ, ?_, ?_, ?_⟩
 ·rw [e2, hwm]; exact Nat.mod_lt _ hW
 ·rw [e2, hset, ht, Nat.pow_succ, Nat.mul_assoc, ← Nat.mul_add]; exact ⟨_, rfl⟩
 ·have hs := h.sum
  rw [hset, Nat.add_mul, Nat.mul_right_comm, Nat.mul_comm (18446744073709551616 ^ j.toNat * V)]
  omega
theorem aGt (a : List Nat) (wa : (Ty.sl (.u .u64)).wf a) (b : List Nat) (wb : (Ty.sl (.u .u64)).wf b) (hp : uI a b) : uJ a b = some (dG a b) := by
 obtain ⟨na, nb, hb0, sa⟩ := hp
 have la := rH wa
 have lb' := rH wb
 obtain ⟨hl, t1, t2, t3⟩ := aK3 lb' nb hb0
 obtain ⟨v1, v2⟩ := aN0 lb' nb hb0
 have h64 := aNQ (fB lb' (b.length - 1))
 have hpos := aJe (x := b.getD (b.length - 1) 0) (by omega)
 unfold uJ
 refine aC ⟨na, nb⟩ (zX (fun hc => ?_) (fun hc => zX (fun h1 => ?_) (fun h1 => ?_)))
 ·have hlt : nv a < nv b := by
   unfold mQ aLQ at hc
   split at hc
   ·assumption
   ·split at hc <;> omega
  unfold dG
  rw [Nat.div_eq_of_lt hlt, Nat.mod_eq_of_lt hlt, lV, aRK la na]
  exact aC (by show a.length * 8 ≤ _; omega) rfl
 ·have hb1 : nv b = b.getD 0 0 := by
   match b, (show b.length = 1 by omega) with
   | [x], _ => rfl
  refine aC (by omega) (aC ⟨by rw [← hb1]; exact hb0, sa⟩ ?_)
  unfold pS dG
  rw [← hb1]
 ·have hge : nv b ≤ nv a := by
   unfold mQ aLQ at hc
   split at hc
   ·omega
   ·omega
  have hlen : b.length ≤ a.length := by
   rcases Nat.lt_or_ge a.length b.length with h | h
   ·exfalso
    have k1 := nH la
    have k2 : 18446744073709551616 ^ a.length ≤ 18446744073709551616 ^ (b.length - 1) := Nat.pow_le_pow_right (by decide) (by omega)
    have k3 := aM9 nb (fun e => hb0 (by rw [e]; rfl))
    omega
   ·exact h
  have e1 : ((b.length : Int) - 1).toNat = b.length - 1 := by omega
  rw [e1]
  have hs : (aA (b.getD (b.length - 1) 0)).toNat = 64 - bl (b.getD (b.length - 1) 0) := by unfold aA; omega
  have hs2 : 0 ≤ aA (b.getD (b.length - 1) 0) ∧ aA (b.getD (b.length - 1) 0) ≤ 63 := by unfold aA; omega
  have hLb : bX b (aA (b.getD (b.length - 1) 0)) = lb (nv b * 2 ^ (64 - bl (b.getD (b.length - 1) 0))) := by unfold bX; rw [hs]
  have hLa : bX a (aA (b.getD (b.length - 1) 0)) = lb (nv a * 2 ^ (64 - bl (b.getD (b.length - 1) 0))) := by unfold bX; rw [hs]
  have hs3 : 64 - bl (b.getD (b.length - 1) 0) ≤ 63 := by omega
  have hbl : (lb (nv b * 2 ^ (64 - bl (b.getD (b.length - 1) 0)))).length ≤ b.length := aAO.2 v1
  have hal : (lb (nv a * 2 ^ (64 - bl (b.getD (b.length - 1) 0)))).length ≤ a.length + 1 := by
   refine aAO.2 ?_
   rw [Nat.pow_succ]
   refine Nat.mul_lt_mul'' (nH la) ?_
   exact Nat.lt_of_le_of_lt (Nat.pow_le_pow_right (by decide) hs3) (by decide)
  have hn2 : 2 ≤ b.length := by omega
  obtain ⟨sI, hsI⟩ : ∃ sI, sI = aA (b.getD (b.length - 1) 0) := ⟨_, rfl⟩
  obtain ⟨s, hss⟩ : ∃ s, s = 64 - bl (b.getD (b.length - 1) 0) := ⟨_, rfl⟩
  rw [← hss] at v1 v2 hbl hal hLa hLb hs3 hs
  rw [← hsI] at hLa hLb hs2 hs
  rw [← hsI, hLa, hLb]
  have hV : 0 < nv b * 2 ^ s := Nat.mul_pos (by omega) (Nat.two_pow_pos s)
  have key := iF (step := fun d : Int × (List Nat) × (List Nat) => kQ b d.1 d.2.1 d.2.2) (I := fun d => QrI (a.length - b.length) b.length (nv b * 2 ^ s) (nv a * 2 ^ s) d.1 d.2.1 d.2.2) (fun d => (d.1 + 1).toNat)
   (fun e => e.1.length = a.length + 1 ∧ Lm e.1 ∧ nv e.1 = nv a * 2 ^ s % (nv b * 2 ^ s) ∧ nv e.2 = nv a * 2 ^ s / (nv b * 2 ^ s)) ?_ ((a.length : Int) - (b.length : Int), cW (lb (nv a * 2 ^ s)) ((a.length : Int) + 1), List.replicate (((a.length : Int) - (b.length : Int)) + 1).toNat 0) ?_
  ·obtain ⟨e, h2, h3, h4, h5, h6⟩ := key
   refine aC (by constructor <;> omega) (aC (by constructor <;> omega) (aC ⟨(by show b.length ≤ _; omega), by omega, by omega⟩ (aC (by constructor <;> omega) (aC ⟨sa, by omega, by omega⟩ (aC (by constructor <;> omega) (aC (by constructor <;> omega) (aC (by constructor <;> omega) (aC (by constructor <;> omega) (aC (by omega) (aC (by omega) (aC (by constructor <;> omega) (bB h2 ?_))))))))))))
   have hm : nv e.1 < nv b * 2 ^ s := by rw [h5]; exact Nat.mod_lt _ hV
   have htk : nv (e.1.take b.length) = nv e.1 := by
    rw [aQ7 h4]; exact Nat.mod_eq_of_lt (Nat.lt_trans hm v1)
   have htr : dA (e.1.take b.length) = lb (nv e.1) := by rw [dA, htk]
   unfold pD
   rw [e1, ← hsI, htr]
   refine aC (by constructor <;> omega) (aC ⟨?_, hs2.1⟩ ?_)
   ·have := aAO.2 (Nat.lt_trans hm v1)
    show (lb (nv e.1)).length ≤ _
    omega
   ·unfold dG gC
    rw [dA, h6, rG, hs, h5, Nat.mul_div_mul_right _ _ (Nat.two_pow_pos s), Nat.mul_mod_mul_right, Nat.mul_div_cancel _ (Nat.two_pow_pos s)]
  ·rintro ⟨j, u, q⟩ h
   have h : QrI (a.length - b.length) b.length (nv b * 2 ^ s) (nv a * 2 ^ s) j u q := h
   have i0 := h.j0
   have i1 := h.j1
   have hul := h.ul
   have hql := h.ql
   show (∃ d', kQ b j u q = _ ∧ _) ∨ ∃ e, kQ b j u q = _ ∧ _
   unfold kQ
   rw [e1, ← hsI, hLb]
   by_cases hj : 0 ≤ j
   ·left
    have hvl : (cW (lb (nv b * 2 ^ s)) (b.length : Int)).length = b.length := by rw [aGs (by omega), Int.toNat_natCast]
    have hvv : nv (cW (lb (nv b * 2 ^ s)) (b.length : Int)) = nv b * 2 ^ s := by rw [aDy, rG]
    have lv : Lm (cW (lb (nv b * 2 ^ s)) (b.length : Int)) := aIC (aM6 _)
    have htop : 9223372036854775808 ≤ (cW (lb (nv b * 2 ^ s)) (b.length : Int)).getD (b.length - 1) 0 := by
     have hp : 0 < 18446744073709551616 ^ (b.length - 1) := Nat.pow_pos (by decide)
     rw [oK lv, hvv, Nat.mod_eq_of_lt ((Nat.div_lt_iff_lt_mul hp).2 (by rw [← Nat.pow_succ', show (b.length - 1).succ = b.length from by omega]; exact v1))]
     exact (Nat.le_div_iff_mul_le hp).2 v2
    have hlt := h.lt
    rw [show (j + 1).toNat = j.toNat + 1 from by omega] at hlt
    obtain ⟨w, k1, k2, k3, k4⟩ := aHn (v := cW (lb (nv b * 2 ^ s)) (b.length : Int)) (u := u) (j := j.toNat) (un := ((j + (b.length : Int)) + 1 - j).toNat) lv h.lu (by rw [hvl]; exact hn2) (by rw [hvl]; omega) (by rw [hvl]; omega) (by omega) (by rw [hvl]; exact htop) (by rw [hvv]; exact hlt)
    rw [hvv] at k1 k4
    refine ⟨(j - 1, w, q.set j.toNat (nv u / (18446744073709551616 ^ j.toNat * (nv b * 2 ^ s)))), ?_, aPR h hj k2 k3 hV k4, by simp only; omega⟩
    rw [if_pos hj]
    exact aC (by constructor <;> omega) (aC (by constructor <;> omega) (aC (by constructor <;> omega) (bB k1 (aC (by constructor <;> omega) (aC (by constructor <;> omega) rfl)))))
   ·right
    have hj1 : (j + 1).toNat = 0 := by omega
    have hlt := h.lt
    rw [hj1, Nat.pow_zero, Nat.one_mul] at hlt
    have hs4 := h.sum
    refine ⟨(u, q), by rw [if_neg hj], by simp only; omega, h.lu, ?_, ?_⟩
    ·simp only
     rw [← hs4, Nat.add_comm, Nat.add_mul_mod_self_right, Nat.mod_eq_of_lt hlt]
    ·simp only
     rw [← hs4, Nat.add_comm, Nat.add_mul_div_right _ _ hV, Nat.div_eq_of_lt hlt, Nat.zero_add]
  ·have ej : ((a.length : Int) - (b.length : Int) + 1).toNat = a.length - b.length + 1 := by omega
   refine ⟨by simp only; omega, by simp only; omega, ?_, aIC (aM6 _), ?_, aDw _, ?_, ⟨0, ?_⟩, ?_⟩
   ·simp only; rw [aGs (by omega)]; omega
   ·simp only; rw [List.length_replicate]; omega
   ·simp only
    rw [aDy, rG, ej]
    have k1 := nH la
    have k2 : 2 ^ s ≤ 2 ^ 63 := Nat.pow_le_pow_right (by decide) hs3
    refine Nat.lt_of_lt_of_le (Nat.mul_lt_mul_of_pos_right k1 (Nat.two_pow_pos s)) ?_
    refine Nat.le_trans (Nat.mul_le_mul_left _ k2) ?_
    refine Nat.le_trans ?_ (Nat.mul_le_mul_left _ v2)
    rw [Nat.mul_left_comm, ← Nat.pow_add, show a.length - b.length + 1 + (b.length - 1) = a.length from by omega, Nat.mul_comm]
    exact Nat.le_refl _
   ·simp only; rw [aDv, Nat.mul_zero]
   ·simp only; rw [aDv, Nat.zero_mul, Nat.zero_add, aDy, rG]
end Nu
end Go.Proofs
namespace Go.Proofs
open Go.Vc
set_option maxRecDepth 20000
namespace Nu
def aBM : PlR := ⟨[(0, .A [0, 1]), (1, .B [4])], []⟩
def zP : Ty := .pair (.sl (.u .u64)) (.pair (.i .i64) .unit)
noncomputable def sL : aJ := ⟨zP, .own 37 (.u .u64), fun x => uH x.1 x.2.1, fun x => cW x.1 x.2.1⟩
attribute [go_sem] sL zP
noncomputable def aHo : aJ := mSpec zP (.own 37 (.u .u64)) (fun x => qX x.1 x.2.1)
noncomputable def aCR : List (FuncId × aJ) := [(51, cM)]
theorem aJF : cB Tryd.prog GL aCR := .cons mW (by kernel_rfl) (.nil)
theorem aEE : gam aCR 51 = some cM := rfl
attribute [go_sem] aBM aEE
set_option maxHeartbeats 4000000 in
theorem aHp : FOK Tryd.prog GL 68 aHo := by
 refine cE (bW aJF) mix Tryd.func68 rfl (by kernel_rfl) (by decide) aBM fun w0 S x Θ hw h hF => ?_
 obtain ⟨(a_0 : (List Nat)), (n_1 : Int), u⟩ := x
 simp only [cH, go_sem]
 replace h : sat (qX a_0 n_1) _ := h
 unfold qX at h
 refine aN h fun g0 h => ?_
 refine aN h fun g0 h => ?_
 obtain ⟨g0, h⟩ := aV h
 obtain ⟨g1, h⟩ := aV h
 repeat (refine ⟨by omega, ?_⟩)
 exact aK hF [.tmp 4] rfl rfl rfl (aB h) (by simp only [aZ, go_sem])
theorem aHq : FOK Tryd.prog GL 68 sL := eQ aHp (fun ⟨x0, x1, u⟩ ⟨w0, w1, wu⟩ hp => aGr x0 w0 x1 w1 hp)
noncomputable def uK : vK where
 D := Nat × Nat × (List Nat) × (List Nat) × ((Nat × (List Nat)))
 av := fun d => [.sub 0 1 d.1 d.2.1, .val (.sl (.u .u64)) d.2.2.1]
 hp := fun d => [.row 37 (.u .u64) d.2.2.2.1]
 m := 1
 pre := fun d => pV d.1 d.2.1 d.2.2.1 d.2.2.2.1 = some d.2.2.2.2
 out := fun d => (fun r : (Nat × (List Nat)) => .ret (.val (.u .u64) r.1) [.row 37 (.u .u64) (r.2)]) d.2.2.2.2
noncomputable def pW : List (FuncId × aJ) := [(47, jI), (48, jH), (81, nN), (82, sJ)]
theorem aEa : cB Tryd.prog GL pW := .cons xF (by kernel_rfl) (.nat xB (.cons aBL (by kernel_rfl) (.nat aG5 (.nil))))
theorem aGu : gam pW 47 = some jI := rfl
attribute [go_sem] aGu
theorem aGv : gam pW 48 = some jH := rfl
attribute [go_sem] aGv
theorem aGw : gam pW 81 = some nN := rfl
attribute [go_sem] aGw
theorem aGx : gam pW 82 = some sJ := rfl
attribute [go_sem] aGx
set_option maxHeartbeats 4000000 in
theorem aJG : GOK Tryd.prog GL 69 uK := by
 refine aAM (bW aEa) Tryd.func69 rfl (by kernel_rfl) (fun _ => Nat.le_of_ble_eq_true rfl) fun c0 w0 d hw1 hw2 h hn => ?_
 have hF : rD ⟨Tryd.prog, EM pW, GM uK c0 d, w0, Tryd.f69.ntmps, []⟩ := ⟨bW aEa, mix⟩
 obtain ⟨(uo_0 : Nat), (un_0 : Nat), (v_1 : (List Nat)), (o0_2 : (List Nat)), r⟩ := d
 replace h : pV uo_0 un_0 v_1 o0_2 = some r := h
 have hw1 : AV.wfL [.sub 0 1 uo_0 un_0, .val (.sl (.u .u64)) v_1] := hw1
 simp only [AV.wfL, AV.wfV, Ty.wf, rS] at hw1
 show Tri _ _ _ [(0, .sub 0 1 uo_0 un_0), (1, .val (.sl (.u .u64)) v_1)] [.row 37 (.u .u64) o0_2]
 unfold pV at h
 refine aE (aD hF [0, 1] ?_)
 simp only [go_sem]
 refine aF (aE (aD hF [0, 1, 5] ?_))
 simp only [go_sem]
 refine aF (aE (aD hF [0, 1, 5, 6, 8] ?_))
 simp only [go_sem]
 refine aF (nL (D := Nat × Nat × Nat) (fun d => mA v_1 un_0 uo_0 o0_2 d.1 d.2.1 d.2.2 = some r) [1, 5] (fun d => [(0, .sub 0 1 uo_0 un_0), (6, .val (.u .u64) d.1), (7, .val (.u .u64) d.2.1), (8, .val (.u .u64) d.2.2)]) (fun d => [.inr (.row 37 (.u .u64) o0_2)]) ?_ ?_)
 ·refine aE (aD hF [0, 1, 5, 6, 8, 31] ?_)
  simp only [go_sem]
  obtain ⟨g0, h⟩ := aH h
  obtain ⟨g1, h⟩ := aH h
  obtain ⟨g2, h⟩ := aH h
  obtain ⟨g3, h⟩ := aH h
  try simp only [I64, I32] at g2
  repeat (refine ⟨by first | with_reducible assumption | omega | (intros; first | assumption | omega) | (simp only [go_sem] at *; first | assumption | omega) | decide, ?_⟩)
  refine aF (bK rfl (fun hc => ?_) (fun hc => ?_))
  ·try simp only [go_sem] at hc
   have h := fP (by first | exact hc | omega | (simpa using hc) | (simp at hc ⊢; omega)) h
   refine aD hF [0, 1, 5, 6, 7, 8] ?_
   simp only [go_sem]
   obtain ⟨g0, h⟩ := aH h
   obtain ⟨g1, h⟩ := aH h
   obtain ⟨g2, h⟩ := aH h
   obtain ⟨g3, h⟩ := aH h
   obtain ⟨g4, h⟩ := aH h
   obtain ⟨g5, h⟩ := aH h
   obtain ⟨g6, h⟩ := aH h
   obtain ⟨g7, h⟩ := aH h
   try simp only [I64, I32] at g2
   try simp only [I64, I32] at g5
   repeat (refine ⟨by first | with_reducible assumption | omega | (intros; first | assumption | omega) | (simp only [go_sem] at *; first | assumption | omega) | decide, ?_⟩)
   refine bC (aY ((((iY (o0_2.getD (uo_0 + (v_1.length)) (0 : Nat)) (o0_2.getD (uo_0 + (((v_1.length : Int) - (1 : Int)).toNat)) (0 : Nat)) (v_1.getD (((v_1.length : Int) - (1 : Int)).toNat) (0 : Nat))).1), (((iY (o0_2.getD (uo_0 + (v_1.length)) (0 : Nat)) (o0_2.getD (uo_0 + (((v_1.length : Int) - (1 : Int)).toNat)) (0 : Nat)) (v_1.getD (((v_1.length : Int) - (1 : Int)).toNat) (0 : Nat))).2).1), (0 : Nat))) h rfl ?_)
   ·(try simp only [kW, gY, true_or, and_self, go_sem]) <;> (repeat' apply And.intro) <;> first | rfl | (left; rfl) | (right; rfl) | (left; simp only [go_sem]; done) | (right; simp only [go_sem]; done) | (simp; done) | (simp only [*]; done) | omega
  ·try simp only [go_sem] at hc
   have h := fQ (by first | exact hc | omega | (simpa using hc) | (simp at hc ⊢; omega)) h
   refine aD hF [0, 1, 5, 6, 7, 8] ?_
   simp only [go_sem]
   obtain ⟨g0, h⟩ := aH h
   obtain ⟨g1, h⟩ := aH h
   obtain ⟨g2, h⟩ := aH h
   obtain ⟨g3, h⟩ := aH h
   obtain ⟨g4, h⟩ := aH h
   obtain ⟨g5, h⟩ := aH h
   try simp only [I64, I32] at g0
   try simp only [I64, I32] at g3
   repeat (refine ⟨by first | with_reducible assumption | omega | (intros; first | assumption | omega) | (simp only [go_sem] at *; first | assumption | omega) | decide, ?_⟩)
   refine bC (aY (((18446744073709551615 : Nat), ((fN (o0_2.getD (uo_0 + (((v_1.length : Int) - (1 : Int)).toNat)) (0 : Nat)) (v_1.getD (((v_1.length : Int) - (1 : Int)).toNat) (0 : Nat)) (0 : Nat)).1), (((fN (o0_2.getD (uo_0 + (((v_1.length : Int) - (1 : Int)).toNat)) (0 : Nat)) (v_1.getD (((v_1.length : Int) - (1 : Int)).toNat) (0 : Nat)) (0 : Nat)).2).1))) h rfl ?_)
   ·(try simp only [kW, gY, true_or, and_self, go_sem]) <;> (repeat' apply And.intro) <;> first | rfl | (left; rfl) | (right; rfl) | (left; simp only [go_sem]; done) | (right; simp only [go_sem]; done) | (simp; done) | (simp only [*]; done) | omega
 ·rintro ⟨x_4, rest_5, over_6⟩ h
  try dsimp only at h
  simp only [go_sem]
  unfold mA at h
  refine nL (D := Nat) (fun d => oE v_1 un_0 uo_0 o0_2 d = some r) [1, 5] (fun d => [(0, .sub 0 1 uo_0 un_0), (6, .val (.u .u64) d)]) (fun d => [.inr (.row 37 (.u .u64) o0_2)]) ?_ ?_
  ·refine dF (rX (D := Nat × Nat × Nat) [1, 5] (fun d => [(0, .sub 0 1 uo_0 un_0), (6, .val (.u .u64) d.1), (7, .val (.u .u64) d.2.1), (8, .val (.u .u64) d.2.2)]) (fun d => [.inr (.row 37 (.u .u64) o0_2)]) h ?_ ?_ ?_)
   ·first | rfl | (simp only [go_sem]; done)
   ·(try simp only [kW, gY, true_or, and_self, go_sem]) <;> (repeat' apply And.intro) <;> first | rfl | (left; rfl) | (right; rfl) | (left; simp only [go_sem]; done) | (right; simp only [go_sem]; done) | (simp; done) | (simp only [*]; done) | omega
   rintro ⟨x_52, rest_53, over_54⟩ s6 h hs6
   simp only [go_sem]
   try dsimp only at h
   unfold jY at h
   refine aE (aE (aD hF [0, 1, 5, 6, 7, 65] ?_))
   simp only [go_sem]
   refine aF (bK rfl (fun hc => ?_) (fun hc => ?_))
   ·try simp only [go_sem] at hc
    have h := fP (by first | exact hc | omega | (simpa using hc) | (simp at hc ⊢; omega)) h
    refine cG (aF (dF (aE (aD hF [0, 1, 5, 6, 7, 9, 10] ?_))))
    simp only [go_sem]
    obtain ⟨g0, h⟩ := aH h
    obtain ⟨g1, h⟩ := aH h
    try simp only [I64, I32] at g0
    repeat (refine ⟨by first | with_reducible assumption | omega | (intros; first | assumption | omega) | (simp only [go_sem] at *; first | assumption | omega) | decide, ?_⟩)
    refine aF (aE (aE (aD hF [0, 1, 5, 6, 7, 92] ?_)))
    simp only [go_sem]
    obtain ⟨g0, h⟩ := aH h
    obtain ⟨g1, h⟩ := aH h
    try simp only [I64, I32] at g0
    repeat (refine ⟨by first | with_reducible assumption | omega | (intros; first | assumption | omega) | (simp only [go_sem] at *; first | assumption | omega) | (intro q0 q1; (try have e0 := g0 (by first | exact q0 | omega | (simpa using q0)) (by first | exact q1 | omega | (simpa using q1))); (try have e1 := g1 (by first | exact q0 | omega | (simpa using q0)) (by first | exact q1 | omega | (simpa using q1))); first | assumption | omega) | (rintro ⟨q0, q1⟩; (try have e0 := g0 (by first | exact q0 | omega | (simpa using q0)) (by first | exact q1 | omega | (simpa using q1))); (try have e1 := g1 (by first | exact q0 | omega | (simpa using q0)) (by first | exact q1 | omega | (simpa using q1))); first | assumption | omega) | decide, ?_⟩)
    refine aF (bK rfl (fun hc => ?_) (fun hc => ?_))
    ·try simp only [go_sem] at hc
     have h := fP (by first | exact hc | omega | (simpa using hc) | (simp at hc ⊢; omega)) h
     obtain rfl := Option.some.inj h
     dsimp only [qR] at hs6
     have h := hs6
     try dsimp only at h
     refine jS (bQ (gU (by decide) (bQ (cR (bC (aY (x_52) h rfl ?_))))))
     ·(try simp only [kW, gY, true_or, and_self, go_sem]) <;> (repeat' apply And.intro) <;> first | rfl | (left; rfl) | (right; rfl) | (left; simp only [go_sem]; done) | (right; simp only [go_sem]; done) | (simp; done) | (simp only [*]; done) | omega
    ·try simp only [go_sem] at hc
     have h := fQ (by first | exact hc | omega | (simpa using hc) | (simp at hc ⊢; omega)) h
     refine cG (aF (aE (aD hF [0, 1, 5, 6, 7] ?_)))
     simp only [go_sem]
     refine aF (aD hF [0, 1, 5, 6, 7, 8] ?_)
     simp only [go_sem]
     obtain ⟨g0, h⟩ := aH h
     obtain ⟨g1, h⟩ := aH h
     obtain ⟨g2, h⟩ := aH h
     try simp only [I64, I32] at g0
     repeat (refine ⟨by first | with_reducible assumption | omega | (intros; first | assumption | omega) | (simp only [go_sem] at *; first | assumption | omega) | decide, ?_⟩)
     obtain rfl := Option.some.inj h
     dsimp only [qR] at hs6
     refine eH (bC (aY (((nF .u64 x_52 (1 : Nat)), ((fN rest_53 (v_1.getD (((v_1.length : Int) - (1 : Int)).toNat) (0 : Nat)) (0 : Nat)).1), (((fN rest_53 (v_1.getD (((v_1.length : Int) - (1 : Int)).toNat) (0 : Nat)) (0 : Nat)).2).1))) hs6 rfl ?_))
     ·(try simp only [kW, gY, true_or, and_self, go_sem]) <;> (repeat' apply And.intro) <;> first | rfl | (left; rfl) | (right; rfl) | (left; simp only [go_sem]; done) | (right; simp only [go_sem]; done) | (simp; done) | (simp only [*]; done) | omega
   ·try simp only [go_sem] at hc
    have h := fQ (by first | exact hc | omega | (simpa using hc) | (simp at hc ⊢; omega)) h
    obtain rfl := Option.some.inj h
    dsimp only [qR] at hs6
    have h := hs6
    try dsimp only at h
    refine jS (bQ (bQ (cR (bC (aY (x_52) h rfl ?_)))))
    ·(try simp only [kW, gY, true_or, and_self, go_sem]) <;> (repeat' apply And.intro) <;> first | rfl | (left; rfl) | (right; rfl) | (left; simp only [go_sem]; done) | (right; simp only [go_sem]; done) | (simp; done) | (simp only [*]; done) | omega
  ·rintro x_13 h
   try dsimp only at h
   simp only [go_sem]
   unfold oE at h
   refine aE (aD hF [0, 1, 5, 6, 11, 12] ?_)
   simp only [go_sem]
   refine aF (nL (D := Nat × Nat × (List Nat)) (fun d => qZ v_1 un_0 uo_0 x_13 d.1 d.2.1 d.2.2 = some r) [1, 5, 6] (fun d => [(0, .sub 0 1 uo_0 un_0), (11, .val (.u .u64) d.1), (12, .val (.u .u64) d.2.1)]) (fun d => [.inr (.row 37 (.u .u64) d.2.2)]) ?_ ?_)
   ·refine aE (aD hF [0, 1, 5, 6, 11, 12, 105, 106, 107] ?_)
    simp only [go_sem]
    refine aF (dF (rX (D := Nat × Nat × Int × (List Nat)) [1, 5, 6, 105, 106] (fun d => [(0, .sub 0 1 uo_0 un_0), (11, .val (.u .u64) d.1), (12, .val (.u .u64) d.2.1), (107, .val (.i .i64) d.2.2.1)]) (fun d => [.inr (.row 37 (.u .u64) d.2.2.2)]) h ?_ ?_ ?_))
    ·first | rfl | (simp only [go_sem]; done)
    ·(try simp only [kW, gY, true_or, and_self, go_sem]) <;> (repeat' apply And.intro) <;> first | rfl | (left; rfl) | (right; rfl) | (left; simp only [go_sem]; done) | (right; simp only [go_sem]; done) | (simp; done) | (simp only [*]; done) | omega
    rintro ⟨carry_41, borrow_42, x107_43, u_44⟩ s13 h hs13
    simp only [go_sem]
    try dsimp only at h
    unfold iK at h
    refine aE (aD hF [0, 1, 5, 6, 11, 12, 105, 106, 107, 108] ?_)
    simp only [go_sem]
    refine aF (aE (bK rfl (fun hc => ?_) (fun hc => ?_)))
    ·try simp only [go_sem] at hc
     have h := fP (by first | exact hc | omega | (simpa using hc) | (simp at hc ⊢; omega)) h
     refine cG (aF (aE (dF (aE (aD hF [0, 1, 5, 6, 11, 12, 13, 14, 105, 106, 107] ?_)))))
     simp only [go_sem]
     obtain ⟨g0, h⟩ := aH h
     repeat (refine ⟨by first | with_reducible assumption | omega | (intros; first | assumption | omega) | (simp only [go_sem] at *; first | assumption | omega) | decide, ?_⟩)
     refine aF (aE (aD hF [0, 1, 5, 6, 11, 12, 13, 15, 16, 105, 106, 107] ?_))
     simp only [go_sem]
     refine aF (aE (aD hF [0, 1, 5, 6, 11, 12, 13, 15, 16, 105, 106, 107] ?_))
     simp only [go_sem]
     refine aF (aE (aD hF [0, 1, 5, 6, 12, 13, 15, 16, 17, 105, 106, 107] ?_))
     simp only [go_sem]
     obtain ⟨g0, h⟩ := aH h
     repeat (refine ⟨by first | with_reducible assumption | omega | (intros; first | assumption | omega) | (simp only [go_sem] at *; first | assumption | omega) | decide, ?_⟩)
     refine aF (aE (aD hF [0, 1, 5, 6, 11, 12, 13, 16, 105, 106, 107] ?_))
     simp only [go_sem]
     refine aF (cD hF [0, 1, 5, 6, 11, 12, 105, 106, 107] ?_)
     simp only [go_sem]
     obtain ⟨g0, h⟩ := aH h
     obtain ⟨g1, h⟩ := aH h
     repeat (refine ⟨by first | with_reducible assumption | omega | (intros; first | assumption | omega) | (simp only [go_sem] at *; first | assumption | omega) | decide, ?_⟩)
     obtain ⟨g0, h⟩ := aH h
     repeat (refine ⟨by first | with_reducible assumption | omega | (intros; first | assumption | omega) | (simp only [go_sem] at *; first | assumption | omega) | decide, ?_⟩)
     obtain ⟨g0, h⟩ := aH h
     obtain ⟨g1, h⟩ := aH h
     repeat (refine ⟨by first | with_reducible assumption | omega | (intros; first | assumption | omega) | (simp only [go_sem] at *; first | assumption | omega) | decide, ?_⟩)
     refine eH (aF (aD hF [0, 1, 5, 6, 11, 12, 105, 106, 107] ?_))
     simp only [go_sem]
     obtain ⟨g0, h⟩ := aH h
     try simp only [I64, I32] at g0
     repeat (refine ⟨by first | with_reducible assumption | omega | (intros; first | assumption | omega) | (simp only [go_sem] at *; first | assumption | omega) | decide, ?_⟩)
     obtain rfl := Option.some.inj h
     dsimp only [qR] at hs13
     refine bC (aY ((((((bA x_13 (v_1.getD (x107_43.toNat) (0 : Nat))).1) + (((fN (((bA x_13 (v_1.getD (x107_43.toNat) (0 : Nat))).2).1) carry_41 (0 : Nat)).2).1)) % 18446744073709551616), (((vM (u_44.getD (uo_0 + (x107_43.toNat)) (0 : Nat)) ((fN (((bA x_13 (v_1.getD (x107_43.toNat) (0 : Nat))).2).1) carry_41 (0 : Nat)).1) borrow_42).2).1), (x107_43 + (1 : Int)), (u_44.set (uo_0 + (x107_43.toNat)) ((vM (u_44.getD (uo_0 + (x107_43.toNat)) (0 : Nat)) ((fN (((bA x_13 (v_1.getD (x107_43.toNat) (0 : Nat))).2).1) carry_41 (0 : Nat)).1) borrow_42).1)))) hs13 rfl ?_)
     ·(try simp only [kW, gY, true_or, and_self, go_sem]) <;> (repeat' apply And.intro) <;> first | rfl | (left; rfl) | (right; rfl) | (left; simp only [go_sem]; done) | (right; simp only [go_sem]; done) | (simp; done) | (simp only [*]; done) | omega
    ·try simp only [go_sem] at hc
     have h := fQ (by first | exact hc | omega | (simpa using hc) | (simp at hc ⊢; omega)) h
     obtain rfl := Option.some.inj h
     dsimp only [qR] at hs13
     have h := hs13
     try dsimp only at h
     refine jS (bQ (bQ (cR (bC (aY ((carry_41, borrow_42, u_44)) h rfl ?_)))))
     ·(try simp only [kW, gY, true_or, and_self, go_sem]) <;> (repeat' apply And.intro) <;> first | rfl | (left; rfl) | (right; rfl) | (left; simp only [go_sem]; done) | (right; simp only [go_sem]; done) | (simp; done) | (simp only [*]; done) | omega
   ·rintro ⟨carry_22, borrow_23, u_24⟩ h
    try dsimp only at h
    simp only [go_sem]
    unfold qZ at h
    refine aE (aE (cD hF [0, 1, 5, 6, 12] ?_))
    simp only [go_sem]
    obtain ⟨g0, h⟩ := aH h
    obtain ⟨g1, h⟩ := aH h
    repeat (refine ⟨by first | with_reducible assumption | omega | (intros; first | assumption | omega) | (simp only [go_sem] at *; first | assumption | omega) | decide, ?_⟩)
    obtain ⟨g0, h⟩ := aH h
    repeat (refine ⟨by first | with_reducible assumption | omega | (intros; first | assumption | omega) | (simp only [go_sem] at *; first | assumption | omega) | decide, ?_⟩)
    obtain ⟨g0, h⟩ := aH h
    obtain ⟨g1, h⟩ := aH h
    repeat (refine ⟨by first | with_reducible assumption | omega | (intros; first | assumption | omega) | (simp only [go_sem] at *; first | assumption | omega) | decide, ?_⟩)
    refine aF (aE (aD hF [0, 1, 5, 6, 155] ?_))
    simp only [go_sem]
    refine aF (bK rfl (fun hc => ?_) (fun hc => ?_))
    ·try simp only [go_sem] at hc
     have h := fP (by first | exact hc | omega | (simpa using hc) | (simp at hc ⊢; omega)) h
     refine aE (aD hF [4] ?_)
     simp only [go_sem]
     obtain rfl := Option.some.inj h
     refine aF (eP (bV (zD hF [.tmp 4] rfl rfl rfl rfl rfl rfl ?_)))
     (try simp only [aZ, aI7, aFZ, gY, rV, AV.isAgg, go_sem]) <;> first | trivial | rfl | (simp; done)
    ·try simp only [go_sem] at hc
     have h := fQ (by first | exact hc | omega | (simpa using hc) | (simp at hc ⊢; omega)) h
     refine cG (aF (aE (aD hF [0, 1, 5, 6, 11] ?_)))
     simp only [go_sem]
     refine aF (nL (D := Nat × (List Nat)) (fun d => qY v_1 un_0 uo_0 x_13 d.1 d.2 = some r) [5, 6] (fun d => [(0, .sub 0 1 uo_0 un_0), (11, .val (.u .u64) d.1)]) (fun d => [.inr (.row 37 (.u .u64) d.2)]) ?_ ?_)
     ·refine aE (aD hF [0, 5, 6, 11, 157, 158, 159] ?_)
      simp only [go_sem]
      refine aF (dF (rX (D := Nat × Int × (List Nat)) [5, 6, 157, 158] (fun d => [(0, .sub 0 1 uo_0 un_0), (11, .val (.u .u64) d.1), (159, .val (.i .i64) d.2.1)]) (fun d => [.inr (.row 37 (.u .u64) d.2.2)]) h ?_ ?_ ?_))
      ·first | rfl | (simp only [go_sem]; done)
      ·(try simp only [kW, gY, true_or, and_self, go_sem]) <;> (repeat' apply And.intro) <;> first | rfl | (left; rfl) | (right; rfl) | (left; simp only [go_sem]; done) | (right; simp only [go_sem]; done) | (simp; done) | (simp only [*]; done) | omega
      rintro ⟨carry_33, x159_34, u_35⟩ s26 h hs26
      simp only [go_sem]
      try dsimp only at h
      unfold iJ at h
      refine aE (aD hF [0, 5, 6, 11, 157, 158, 159, 160] ?_)
      simp only [go_sem]
      refine aF (aE (bK rfl (fun hc => ?_) (fun hc => ?_)))
      ·try simp only [go_sem] at hc
       have h := fP (by first | exact hc | omega | (simpa using hc) | (simp at hc ⊢; omega)) h
       refine cG (aF (aE (dF (aE (aD hF [0, 5, 6, 11, 18, 19, 157, 158, 159] ?_)))))
       simp only [go_sem]
       obtain ⟨g0, h⟩ := aH h
       repeat (refine ⟨by first | with_reducible assumption | omega | (intros; first | assumption | omega) | (simp only [go_sem] at *; first | assumption | omega) | decide, ?_⟩)
       refine aF (cD hF [0, 5, 6, 11, 157, 158, 159] ?_)
       simp only [go_sem]
       obtain ⟨g0, h⟩ := aH h
       obtain ⟨g1, h⟩ := aH h
       repeat (refine ⟨by first | with_reducible assumption | omega | (intros; first | assumption | omega) | (simp only [go_sem] at *; first | assumption | omega) | decide, ?_⟩)
       obtain ⟨g0, h⟩ := aH h
       repeat (refine ⟨by first | with_reducible assumption | omega | (intros; first | assumption | omega) | (simp only [go_sem] at *; first | assumption | omega) | decide, ?_⟩)
       obtain ⟨g0, h⟩ := aH h
       obtain ⟨g1, h⟩ := aH h
       repeat (refine ⟨by first | with_reducible assumption | omega | (intros; first | assumption | omega) | (simp only [go_sem] at *; first | assumption | omega) | decide, ?_⟩)
       refine eH (aF (aD hF [0, 5, 6, 11, 157, 158, 159] ?_))
       simp only [go_sem]
       obtain ⟨g0, h⟩ := aH h
       try simp only [I64, I32] at g0
       repeat (refine ⟨by first | with_reducible assumption | omega | (intros; first | assumption | omega) | (simp only [go_sem] at *; first | assumption | omega) | decide, ?_⟩)
       obtain rfl := Option.some.inj h
       dsimp only [qR] at hs26
       refine bC (aY (((((fN (u_35.getD (uo_0 + (x159_34.toNat)) (0 : Nat)) (v_1.getD (x159_34.toNat) (0 : Nat)) carry_33).2).1), (x159_34 + (1 : Int)), (u_35.set (uo_0 + (x159_34.toNat)) ((fN (u_35.getD (uo_0 + (x159_34.toNat)) (0 : Nat)) (v_1.getD (x159_34.toNat) (0 : Nat)) carry_33).1)))) hs26 rfl ?_)
       ·(try simp only [kW, gY, true_or, and_self, go_sem]) <;> (repeat' apply And.intro) <;> first | rfl | (left; rfl) | (right; rfl) | (left; simp only [go_sem]; done) | (right; simp only [go_sem]; done) | (simp; done) | (simp only [*]; done) | omega
      ·try simp only [go_sem] at hc
       have h := fQ (by first | exact hc | omega | (simpa using hc) | (simp at hc ⊢; omega)) h
       obtain rfl := Option.some.inj h
       dsimp only [qR] at hs26
       have h := hs26
       try dsimp only at h
       refine jS (bQ (bQ (cR (bC (aY ((carry_33, u_35)) h rfl ?_)))))
       ·(try simp only [kW, gY, true_or, and_self, go_sem]) <;> (repeat' apply And.intro) <;> first | rfl | (left; rfl) | (right; rfl) | (left; simp only [go_sem]; done) | (right; simp only [go_sem]; done) | (simp; done) | (simp only [*]; done) | omega
     ·rintro ⟨carry_31, u_32⟩ h
      try dsimp only at h
      simp only [go_sem]
      unfold qY at h
      refine aE (cD hF [6] ?_)
      simp only [go_sem]
      obtain ⟨g0, h⟩ := aH h
      obtain ⟨g1, h⟩ := aH h
      repeat (refine ⟨by first | with_reducible assumption | omega | (intros; first | assumption | omega) | (simp only [go_sem] at *; first | assumption | omega) | decide, ?_⟩)
      obtain ⟨g0, h⟩ := aH h
      obtain ⟨g1, h⟩ := aH h
      repeat (refine ⟨by first | with_reducible assumption | omega | (intros; first | assumption | omega) | (simp only [go_sem] at *; first | assumption | omega) | decide, ?_⟩)
      refine aF (aE (aD hF [4] ?_))
      simp only [go_sem]
      obtain rfl := Option.some.inj h
      refine aF (eP (zD hF [.tmp 4] rfl rfl rfl rfl rfl rfl ?_))
      (try simp only [aZ, aI7, aFZ, gY, rV, AV.isAgg, go_sem]) <;> first | trivial | rfl | (simp; done)
attribute [go_sem] uK
end Nu
end Go.Proofs
namespace Go.Proofs
open Go.Vc
set_option maxRecDepth 20000
namespace Nu
def rA : Ty := .pair (.sl (.u .u64)) (.pair (.sl (.u .u64)) .unit)
noncomputable def sM : aJ := ⟨rA, .tup (.pair (.sl (.u .u64)) (.pair (.sl (.u .u64)) .unit)), fun x => uI x.1 x.2.1, fun x => dG x.1 x.2.1⟩
attribute [go_sem] sM rA
noncomputable def aHr : aJ := mSpec rA (.tup (.pair (.sl (.u .u64)) (.pair (.sl (.u .u64)) .unit))) (fun x => uJ x.1 x.2.1)
noncomputable def gP : List (FuncId × aJ) := [(31, mR), (33, oN), (49, fC), (51, cM), (65, oL), (66, uG), (67, cV), (68, sL)]
theorem aCS : cB Tryd.prog GL gP := .cons aAU (by kernel_rfl) (.cons aCO (by kernel_rfl) (.cons pU (by kernel_rfl) (.cons mW (by kernel_rfl) (.cons aCJ (by kernel_rfl) (.cons aJE (by kernel_rfl) (.cons mY (by kernel_rfl) (.cons aHq (by kernel_rfl) (.nil))))))))
theorem aEF : gam gP 31 = some mR := rfl
attribute [go_sem] aEF
theorem aEG : gam gP 33 = some oN := rfl
attribute [go_sem] aEG
theorem aEH : gam gP 49 = some fC := rfl
attribute [go_sem] aEH
theorem aEI : gam gP 51 = some cM := rfl
attribute [go_sem] aEI
theorem aEJ : gam gP 65 = some oL := rfl
attribute [go_sem] aEJ
theorem aEK : gam gP 66 = some uG := rfl
attribute [go_sem] aEK
theorem aEL : gam gP 67 = some cV := rfl
attribute [go_sem] aEL
theorem aEM : gam gP 68 = some sL := rfl
attribute [go_sem] aEM
set_option maxHeartbeats 4000000 in
theorem aHs : FOK Tryd.prog GL 52 aHr := by
 refine rY (bW aCS) Tryd.func52 rfl (by kernel_rfl) (by decide) fun w0 S x r hw h => ?_
 have hF : rD (fr Tryd.prog (EM gP) S w0 Tryd.f52.ntmps) := ⟨bW aCS, mix⟩
 obtain ⟨(a_0 : (List Nat)), (b_1 : (List Nat)), u⟩ := x
 simp only [rA, Ty.wf, rS] at hw
 simp only [cH, rA]
 try dsimp only at h
 unfold uJ at h
 refine aE (aD hF [0, 1] ?_)
 simp only [go_sem]
 refine aF (aE (aE (aD hF [0, 1, 15] ?_)))
 simp only [go_sem]
 obtain ⟨g0, h⟩ := aH h
 repeat (refine ⟨by first | with_reducible assumption | omega | (intros; first | assumption | omega) | (simp only [go_sem] at *; first | assumption | omega) | decide, ?_⟩)
 refine aF (bK rfl (fun hc => ?_) (fun hc => ?_))
 ·try simp only [go_sem] at hc
  have h := fP (by first | exact hc | omega | (simpa using hc) | (simp at hc ⊢; omega)) h
  refine aE (cD hF [4, 5] ?_)
  simp only [go_sem]
  obtain ⟨g0, h⟩ := aH h
  repeat (refine ⟨by first | with_reducible assumption | omega | (intros; first | assumption | omega) | (simp only [go_sem] at *; first | assumption | omega) | decide, ?_⟩)
  obtain rfl := Option.some.inj h
  refine aF (eP (bV (fW hF [.tmp 4, .tmp 5] rfl rfl rfl ?_)))
  (try simp only [lZ, aZ, go_sem]) <;> first | rfl | (simp; done)
 ·try simp only [go_sem] at hc
  have h := fQ (by first | exact hc | omega | (simpa using hc) | (simp at hc ⊢; omega)) h
  refine cG (aF (aE (aE (aD hF [0, 1, 20] ?_))))
  simp only [go_sem]
  refine aF (bK rfl (fun hc => ?_) (fun hc => ?_))
  ·try simp only [go_sem] at hc
   have h := fP (by first | exact hc | omega | (simpa using hc) | (simp at hc ⊢; omega)) h
   refine aE (aD hF [4, 5] ?_)
   simp only [go_sem]
   obtain ⟨g0, h⟩ := aH h
   obtain ⟨g1, h⟩ := aH h
   repeat (refine ⟨by first | with_reducible assumption | omega | (intros; first | assumption | omega) | (simp only [go_sem] at *; first | assumption | omega) | decide, ?_⟩)
   obtain rfl := Option.some.inj h
   refine aF (eP (bV (fW hF [.tmp 4, .tmp 5] rfl rfl rfl ?_)))
   (try simp only [lZ, aZ, go_sem]) <;> first | rfl | (simp; done)
  ·try simp only [go_sem] at hc
   have h := fQ (by first | exact hc | omega | (simpa using hc) | (simp at hc ⊢; omega)) h
   refine cG (aF (aE (aD hF [0, 1, 6, 7] ?_)))
   simp only [go_sem]
   obtain ⟨g0, h⟩ := aH h
   obtain ⟨g1, h⟩ := aH h
   try simp only [I64, I32] at g0
   repeat (refine ⟨by first | with_reducible assumption | omega | (intros; first | assumption | omega) | (simp only [go_sem] at *; first | assumption | omega) | decide, ?_⟩)
   refine aF (aE (cD hF [0, 6, 7, 8, 9] ?_))
   simp only [go_sem]
   obtain ⟨g0, h⟩ := aH h
   repeat (refine ⟨by first | with_reducible assumption | omega | (intros; first | assumption | omega) | (simp only [go_sem] at *; first | assumption | omega) | decide, ?_⟩)
   obtain ⟨g0, h⟩ := aH h
   repeat (refine ⟨by first | with_reducible assumption | omega | (intros; first | assumption | omega) | (simp only [go_sem] at *; first | assumption | omega) | decide, ?_⟩)
   obtain ⟨g0, h⟩ := aH h
   repeat (refine ⟨by first | with_reducible assumption | omega | (intros; first | assumption | omega) | (simp only [go_sem] at *; first | assumption | omega) | decide, ?_⟩)
   obtain ⟨g0, h⟩ := aH h
   try simp only [I64, I32] at g0
   repeat (refine ⟨by first | with_reducible assumption | omega | (intros; first | assumption | omega) | (simp only [go_sem] at *; first | assumption | omega) | decide, ?_⟩)
   obtain ⟨g0, h⟩ := aH h
   repeat (refine ⟨by first | with_reducible assumption | omega | (intros; first | assumption | omega) | (simp only [go_sem] at *; first | assumption | omega) | decide, ?_⟩)
   refine aF (aE (cD hF [0, 6, 7, 8, 9, 10] ?_))
   simp only [go_sem]
   obtain ⟨g0, h⟩ := aH h
   try simp only [I64, I32] at g0
   repeat (refine ⟨by first | with_reducible assumption | omega | (intros; first | assumption | omega) | (simp only [go_sem] at *; first | assumption | omega) | decide, ?_⟩)
   obtain ⟨g0, h⟩ := aH h
   try simp only [I64, I32] at g0
   repeat (refine ⟨by first | with_reducible assumption | omega | (intros; first | assumption | omega) | (simp only [go_sem] at *; first | assumption | omega) | decide, ?_⟩)
   obtain ⟨g0, h⟩ := aH h
   obtain ⟨g1, h⟩ := aH h
   repeat (refine ⟨by first | with_reducible assumption | omega | (intros; first | assumption | omega) | (simp only [go_sem] at *; first | assumption | omega) | decide, ?_⟩)
   refine aF (nL (D := (List Nat) × (List Nat)) (fun d => pD b_1 d.1 d.2 = some r) [6, 7] (fun d => [(9, .own 0), (10, .own 1)]) (fun d => [.inr (.row 37 (.u .u64) d.1), .inr (.row 37 (.u .u64) d.2)]) ?_ ?_)
   ·refine aE (aD hF [6, 7, 8, 9, 10, 11] ?_)
    simp only [go_sem]
    obtain ⟨g0, h⟩ := aH h
    try simp only [I64, I32] at g0
    repeat (refine ⟨by first | with_reducible assumption | omega | (intros; first | assumption | omega) | (simp only [go_sem] at *; first | assumption | omega) | decide, ?_⟩)
    refine aF (dF (aB4 0 ?_))
    simp only [go_sem]
    refine aI4 [1, 2] rfl rfl ?_
    simp only [ren, jM, uB, posOf, lK, go_sem]
    refine rX (D := Int × (List Nat) × (List Nat)) [6, 7, 8] (fun d => [(9, .own 0), (10, .own 1), (11, .val (.i .i64) d.1)]) (fun d => [.inr (.row 37 (.u .u64) d.2.1), .inr (.row 37 (.u .u64) d.2.2)]) h ?_ ?_ ?_
    ·first | rfl | (simp only [go_sem]; done)
    ·(try simp only [kW, gY, true_or, and_self, go_sem]) <;> (repeat' apply And.intro) <;> first | rfl | (left; rfl) | (right; rfl) | (left; simp only [go_sem]; done) | (right; simp only [go_sem]; done) | (simp; done) | (simp only [*]; done) | omega
    rintro ⟨j_14, u_15, q_16⟩ s9 h hs9
    simp only [go_sem]
    try dsimp only at h
    unfold kQ at h
    refine aE (aE (aD hF [6, 7, 8, 9, 10, 11, 60] ?_))
    simp only [go_sem]
    refine aF (bK rfl (fun hc => ?_) (fun hc => ?_))
    ·try simp only [go_sem] at hc
     have h := fP (by first | exact hc | omega | (simpa using hc) | (simp at hc ⊢; omega)) h
     obtain ⟨g0, h⟩ := aH h
     try simp only [I64, I32] at g0
     obtain ⟨g1, h⟩ := aH h
     try simp only [I64, I32] at g1
     obtain ⟨g2, h⟩ := aH h
     obtain ⟨r_24, he1, h⟩ := bind_some h
     try dsimp only at h
     obtain ⟨g3, h⟩ := aH h
     refine cG (aF (aE (dF (dL hF (iW (l := [(69, ⟨uK, [0], ((j_14.toNat), ((((j_14 + (b_1.length : Int)) + (1 : Int)) - j_14).toNat), (cW (bX b_1 (aA (b_1.getD (((b_1.length : Int) - (1 : Int)).toNat) (0 : Nat)))) (b_1.length : Int)), u_15, r_24)⟩)]) (.cons aJG (by kernel_rfl) (.nil))) [6, 7, 8, 9, 10, 11] [71] ?_))))
     simp only [go_sem]
     repeat (refine ⟨by first | with_reducible assumption | omega | (intros; first | assumption | omega) | (simp only [go_sem] at *; first | assumption | omega) | decide, ?_⟩)
     refine eH (aF (aD hF [6, 7, 8, 9, 10, 11] ?_))
     simp only [go_sem]
     obtain ⟨g0, h⟩ := aH h
     try simp only [I64, I32] at g0
     repeat (refine ⟨by first | with_reducible assumption | omega | (intros; first | assumption | omega) | (simp only [go_sem] at *; first | assumption | omega) | decide, ?_⟩)
     obtain rfl := Option.some.inj h
     dsimp only [qR] at hs9
     refine bC (aY (((j_14 - (1 : Int)), (r_24.2), (q_16.set (j_14.toNat) (r_24.1)))) hs9 rfl ?_)
     ·(try simp only [kW, gY, true_or, and_self, go_sem]) <;> (repeat' apply And.intro) <;> first | rfl | (left; rfl) | (right; rfl) | (left; simp only [go_sem]; done) | (right; simp only [go_sem]; done) | (simp; done) | (simp only [*]; done) | omega
    ·try simp only [go_sem] at hc
     have h := fQ (by first | exact hc | omega | (simpa using hc) | (simp at hc ⊢; omega)) h
     obtain rfl := Option.some.inj h
     dsimp only [qR] at hs9
     have h := hs9
     try dsimp only at h
     refine jS (bQ (bQ (cR (bC (aY ((u_15, q_16)) h rfl ?_)))))
     ·(try simp only [kW, gY, true_or, and_self, go_sem]) <;> (repeat' apply And.intro) <;> first | rfl | (left; rfl) | (right; rfl) | (left; simp only [go_sem]; done) | (right; simp only [go_sem]; done) | (simp; done) | (simp only [*]; done) | omega
   ·rintro ⟨u_11, q_12⟩ h
    try dsimp only at h
    simp only [go_sem]
    unfold pD at h
    refine aE (aB4 1 ?_)
    simp only [go_sem]
    refine aB4 0 ?_
    simp only [go_sem]
    refine aD hF [4, 5] ?_
    simp only [go_sem]
    obtain ⟨g0, h⟩ := aH h
    obtain ⟨g1, h⟩ := aH h
    repeat (refine ⟨by first | with_reducible assumption | omega | (intros; first | assumption | omega) | (simp only [go_sem] at *; first | assumption | omega) | decide, ?_⟩)
    obtain rfl := Option.some.inj h
    refine aF (eP (fW hF [.tmp 4, .tmp 5] rfl rfl rfl ?_))
    (try simp only [lZ, aZ, go_sem]) <;> first | rfl | (simp; done)
theorem aHt : FOK Tryd.prog GL 52 sM := eQ aHs (fun ⟨x0, x1, u⟩ ⟨w0, w1, wu⟩ hp => aGt x0 w0 x1 w1 hp)
end Nu
end Go.Proofs
namespace Go.Proofs
open Go.Vc
set_option maxRecDepth 20000
namespace Nu
noncomputable def cO (d_0 : qD0) : Option Bool :=
 if (((d_0.2).1).length : Int) = (0 : Int) then some ((!(d_0.1)) && (decide ((((d_0.2).2).1) = (0 : Int)))) else ck ((((xX ((d_0.2).1)) = true) → ((0 : Int) < (((d_0.2).1).length : Int)))) (some ((((xX ((d_0.2).1)) && (decide (((((d_0.2).1).getD (0 : Nat) (0 : Nat)) &&& (1 : Nat)) = (1 : Nat)))) && (decide ((-1048576 : Int) ≤ (((d_0.2).2).1)))) && (decide ((((d_0.2).2).1) ≤ (1048576 : Int)))))
def aEb : PlR := ⟨[(0, .B [1]), (1, .A [1, 6]), (2, .A [2]), (3, .A [2])], []⟩
def aGy : Ty := .pair (.pair .bool (.pair (.sl (.u .u64)) (.pair (.i .i64) .unit))) .unit
noncomputable def fD : aJ := mSpec aGy (.one .bool) (fun x => cO x.1)
noncomputable def aGz : List (FuncId × aJ) := [(41, zM)]
theorem aL4 : cB Tryd.prog GL aGz := .cons aLY (by kernel_rfl) (.nil)
theorem aHu : gam aGz 41 = some zM := rfl
attribute [go_sem] aGy aEb aHu
set_option maxHeartbeats 4000000 in
theorem pX : FOK Tryd.prog GL 21 fD := by
 refine cE (bW aL4) mix Tryd.func21 rfl (by kernel_rfl) (by decide) aEb fun w0 S x Θ hw h hF => ?_
 obtain ⟨(d_0 : qD0), u⟩ := x
 simp only [cH, go_sem]
 replace h : sat (cO d_0) _ := h
 unfold cO at h
 refine iX h (fun hc h => ?_) fun hc h => ?_
 ·exact aK hF [.tmp 2] rfl rfl rfl (aB h) (by simp only [aZ, go_sem])
 ·refine aN h fun g0 h => ?_
  exact aK hF [.tmp 2] rfl rfl rfl (aB h) (by simp only [aZ, go_sem])
attribute [go_sem] fD
noncomputable def dM (d_0 : qD0) : Option Int :=
 ck (((cO d_0).isSome = true)) (if (¬ (((cO d_0).getD false) = true)) ∨ ((((((d_0.2).1).length) : Nat) : Int) = (0 : Int)) then some (0 : Int) else if (d_0.1) = true then some (-1 : Int) else some (1 : Int))
def aCT : PlR := ⟨[(0, .B [1]), (1, .A [1, 3]), (2, .A [2]), (3, .A [13]), (4, .A [2]), (5, .A [2])], []⟩
def aEc : Ty := .pair (.pair .bool (.pair (.sl (.u .u64)) (.pair (.i .i64) .unit))) .unit
noncomputable def uL : aJ := mSpec aEc (.one (.i .i64)) (fun x => dM x.1)
noncomputable def aEd : List (FuncId × aJ) := [(21, fD)]
theorem aK4 : cB Tryd.prog GL aEd := .cons pX (by kernel_rfl) (.nil)
theorem aGA : gam aEd 21 = some fD := rfl
attribute [go_sem] aEc aCT aGA
set_option maxHeartbeats 4000000 in
theorem aJH : FOK Tryd.prog GL 59 uL := by
 refine cE (bW aK4) mix Tryd.func59 rfl (by kernel_rfl) (by decide) aCT fun w0 S x Θ hw h hF => ?_
 obtain ⟨(d_0 : qD0), u⟩ := x
 simp only [cH, go_sem]
 replace h : sat (dM d_0) _ := h
 unfold dM at h
 refine aN h fun g0 h => ?_
 refine ⟨fun hc => ?_, fun hc => ?_⟩
 ·replace h := mO (by first | exact hc | omega | (simpa using hc) | (simp at hc ⊢; omega)) h
  exact aK hF [.tmp 2] rfl rfl rfl (aB h) (by simp only [aZ, go_sem])
 ·replace h := mP (by first | exact hc | omega | (simpa using hc) | (simp at hc ⊢; omega)) h
  refine aDX h (fun hc h => ?_) fun hc h => ?_
  ·exact aK hF [.tmp 2] rfl rfl rfl (aB h) (by simp only [aZ, go_sem])
  ·exact aK hF [.tmp 2] rfl rfl rfl (aB h) (by simp only [aZ, go_sem])
attribute [go_sem] uL
noncomputable def mS (a_0 : qD0) (b_1 : qD0) : Option Int :=
 ck ((aNc ((a_0.2).1))) (ck (I64 ((jT ((a_0.2).1)) + (((a_0.2).2).1))) (ck ((aNc ((b_1.2).1))) (ck (I64 ((jT ((b_1.2).1)) + (((b_1.2).2).1))) (if ((jT ((a_0.2).1)) + (((a_0.2).2).1)) < ((jT ((b_1.2).1)) + (((b_1.2).2).1)) then some (-1 : Int) else if ((jT ((b_1.2).1)) + (((b_1.2).2).1)) < ((jT ((a_0.2).1)) + (((a_0.2).2).1)) then some (1 : Int) else ck (I64 ((((a_0.2).2).1) - (min (((a_0.2).2).1) (((b_1.2).2).1)))) (ck ((aGe ((a_0.2).1) ((((a_0.2).2).1) - (min (((a_0.2).2).1) (((b_1.2).2).1))))) (ck (I64 ((((b_1.2).2).1) - (min (((a_0.2).2).1) (((b_1.2).2).1)))) (ck ((aGe ((b_1.2).1) ((((b_1.2).2).1) - (min (((a_0.2).2).1) (((b_1.2).2).1))))) (ck ((aNb (bX ((a_0.2).1) ((((a_0.2).2).1) - (min (((a_0.2).2).1) (((b_1.2).2).1)))) (bX ((b_1.2).1) ((((b_1.2).2).1) - (min (((a_0.2).2).1) (((b_1.2).2).1)))))) (some (mQ (bX ((a_0.2).1) ((((a_0.2).2).1) - (min (((a_0.2).2).1) (((b_1.2).2).1)))) (bX ((b_1.2).1) ((((b_1.2).2).1) - (min (((a_0.2).2).1) (((b_1.2).2).1))))))))))))))
def aCU : PlR := ⟨[(0, .B [2, 3]), (1, .A [2, 3, 5, 6]), (2, .A [2, 3, 5, 6, 20]), (3, .A [4]), (4, .A [2, 3, 24]), (5, .A [4]), (6, .A [2, 3, 7]), (7, .A [4])], []⟩
def aEe : Ty := .pair (.pair .bool (.pair (.sl (.u .u64)) (.pair (.i .i64) .unit))) (.pair (.pair .bool (.pair (.sl (.u .u64)) (.pair (.i .i64) .unit))) .unit)
noncomputable def uM : aJ := mSpec aEe (.one (.i .i64)) (fun x => mS x.1 x.2.1)
noncomputable def wO : List (FuncId × aJ) := [(31, mR), (65, oL), (74, wL)]
theorem aK5 : cB Tryd.prog GL wO := .cons aAU (by kernel_rfl) (.cons aCJ (by kernel_rfl) (.cons aKS (by kernel_rfl) (.nil)))
theorem aGB : gam wO 31 = some mR := rfl
theorem aGC : gam wO 65 = some oL := rfl
theorem aGD : gam wO 74 = some wL := rfl
attribute [go_sem] aEe aCU aGB aGC aGD
set_option maxHeartbeats 4000000 in
theorem aJI : FOK Tryd.prog GL 60 uM := by
 refine cE (bW aK5) mix Tryd.func60 rfl (by kernel_rfl) (by decide) aCU fun w0 S x Θ hw h hF => ?_
 obtain ⟨(a_0 : qD0), (b_1 : qD0), u⟩ := x
 simp only [cH, go_sem]
 replace h : sat (mS a_0 b_1) _ := h
 unfold mS at h
 refine aN h fun g0 h => aN h fun g1 h => aN h fun g2 h => aN h fun g3 h => ?_
 refine eZ h (fun hc h => ?_) fun hc h => ?_
 ·exact aK hF [.tmp 4] rfl rfl rfl (aB h) (by simp only [aZ, go_sem])
 ·refine eZ h (fun hc h => ?_) fun hc h => ?_
  ·exact aK hF [.tmp 4] rfl rfl rfl (aB h) (by simp only [aZ, go_sem])
  ·refine aN h fun g0 h => aN h fun g1 h => aN h fun g2 h => aN h fun g3 h => aN h fun g4 h => ?_
   exact aK hF [.tmp 4] rfl rfl rfl (aB h) (by simp only [aZ, go_sem])
attribute [go_sem] uM
noncomputable def nA (a_0 : qD0) (b_1 : qD0) : Option Int :=
 ck (((dM a_0).isSome = true)) (ck (((dM b_1).isSome = true)) (ck (((cO a_0).isSome = true)) (ck ((¬ (¬ (((cO a_0).getD false) = true)) → (((cO b_1).isSome = true)))) (if (¬ (((cO a_0).getD false) = true)) ∨ (¬ (((cO b_1).getD false) = true)) then some (0 : Int) else if (¬ (((dM a_0).getD (0 : Int)) = ((dM b_1).getD (0 : Int)))) ∧ (((dM a_0).getD (0 : Int)) < ((dM b_1).getD (0 : Int))) then some (-1 : Int) else if ¬ (((dM a_0).getD (0 : Int)) = ((dM b_1).getD (0 : Int))) then some (1 : Int) else if ((dM a_0).getD (0 : Int)) = (0 : Int) then some (0 : Int) else ck (((mS a_0 b_1).isSome = true)) (ck (I64 (((dM a_0).getD (0 : Int)) * ((mS a_0 b_1).getD (0 : Int)))) (some (((dM a_0).getD (0 : Int)) * ((mS a_0 b_1).getD (0 : Int)))))))))
def aEf : PlR := ⟨[(0, .B [2, 3]), (1, .A [2, 3, 5, 6]), (2, .A [2, 3, 5, 6, 11]), (3, .A [4]), (4, .A [2, 3, 5, 6, 20]), (5, .A [4]), (6, .A [2, 3, 5, 29]), (7, .A [4]), (8, .A [2, 3, 5, 33]), (9, .A [4]), (10, .A [4])], []⟩
def aGE : Ty := .pair (.pair .bool (.pair (.sl (.u .u64)) (.pair (.i .i64) .unit))) (.pair (.pair .bool (.pair (.sl (.u .u64)) (.pair (.i .i64) .unit))) .unit)
noncomputable def pY : aJ := mSpec aGE (.one (.i .i64)) (fun x => nA x.1 x.2.1)
noncomputable def zQ : List (FuncId × aJ) := [(21, fD), (59, uL), (60, uM)]
theorem aL5 : cB Tryd.prog GL zQ := .cons pX (by kernel_rfl) (.cons aJH (by kernel_rfl) (.cons aJI (by kernel_rfl) (.nil)))
theorem aHv : gam zQ 21 = some fD := rfl
theorem aHw : gam zQ 59 = some uL := rfl
theorem aHx : gam zQ 60 = some uM := rfl
attribute [go_sem] aGE aEf aHv aHw aHx
set_option maxHeartbeats 4000000 in
theorem aEg : FOK Tryd.prog GL 40 pY := by
 refine cE (bW aL5) mix Tryd.func40 rfl (by kernel_rfl) (by decide) aEf fun w0 S x Θ hw h hF => ?_
 obtain ⟨(a_0 : qD0), (b_1 : qD0), u⟩ := x
 simp only [cH, go_sem]
 replace h : sat (nA a_0 b_1) _ := h
 unfold nA at h
 obtain ⟨g0, h⟩ := aV h
 obtain ⟨g1, h⟩ := aV h
 repeat (refine ⟨by first | with_reducible assumption | omega | (intros; first | assumption | omega) | (simp only [go_sem] at *; first | assumption | omega) | decide, ?_⟩)
 obtain ⟨g0, h⟩ := aV h
 obtain ⟨g1, h⟩ := aV h
 repeat (refine ⟨by first | with_reducible assumption | omega | (intros; first | assumption | omega) | (simp only [go_sem] at *; first | assumption | omega) | (intro q0; (try have e1 := g1 (by first | exact q0 | omega | (simpa using q0))); first | assumption | omega) | decide, ?_⟩)
 refine ⟨fun hc => ?_, fun hc => ?_⟩
 ·replace h := mO (by first | exact hc | omega | (simpa using hc) | (simp at hc ⊢; omega)) h
  exact aK hF [.tmp 4] rfl rfl rfl (aB h) (by simp only [aZ, go_sem])
 ·replace h := mP (by first | exact hc | omega | (simpa using hc) | (simp at hc ⊢; omega)) h
  refine ⟨fun hc => ?_, fun hc => ?_⟩
  ·replace h := mO (by first | exact hc | omega | (simpa using hc) | (simp at hc ⊢; omega)) h
   exact aK hF [.tmp 4] rfl rfl rfl (aB h) (by simp only [aZ, go_sem])
  ·replace h := mP (by first | exact hc | omega | (simpa using hc) | (simp at hc ⊢; omega)) h
   refine ⟨fun hc => ?_, fun hc => ?_⟩
   ·replace h := mO hc h
    exact aK hF [.tmp 4] rfl rfl rfl (aB h) (by simp only [aZ, go_sem])
   ·replace h := mP (by first | exact hc | omega | simpa using hc) h
    refine iX h (fun hc h => ?_) fun hc h => ?_
    ·exact aK hF [.tmp 4] rfl rfl rfl (aB h) (by simp only [aZ, go_sem])
    ·obtain ⟨g0, h⟩ := aV h
     obtain ⟨g1, h⟩ := aV h
     try simp only [I64, I32] at g1
     repeat (refine ⟨by first | with_reducible assumption | omega | (intros; first | assumption | omega) | (simp only [go_sem] at *; first | assumption | omega) | decide, ?_⟩)
     exact aK hF [.tmp 4] rfl rfl rfl (aB h) (by simp only [aZ, go_sem])
attribute [go_sem] pY
end Nu
end Go.Proofs
namespace Go.Proofs
open Go.Vc
set_option maxRecDepth 20000
namespace Nu
noncomputable def jZ (n_1 : Int) (b_0 : Nat) (m_7 : (List Nat)) (x8_8 : Int) : Option (((List Nat) × Int) ⊕ (((List Nat)))) :=
 if x8_8 < n_1 then ck ((aLP m_7 ([b_0] : List Nat))) (ck (I64 (x8_8 + (1 : Int))) (some (.inl ((cY m_7 ([b_0] : List Nat)), (x8_8 + (1 : Int)))))) else some (.inr m_7)
noncomputable def dD (b_0 : Nat) (n_1 : Int) : Option (List Nat) :=
 (cX (fun d : (List Nat) × Int => jZ n_1 b_0 d.1 d.2) (([1] : List Nat), (0 : Int))).bind (fun e => some e)
def aCV : PlR := ⟨[(0, .A [0, 1]), (1, .A [0, 1, 5]), (2, .A [0, 5, 7, 8]), (3, .A [0, 5, 7, 8, 9]), (4, .A [0, 5, 7, 8]), (5, .A [0, 5, 7, 8]), (6, .A [4])], []⟩
def aEh : Ty := .pair (.u .u64) (.pair (.i .i64) .unit)
noncomputable def uN : aJ := mSpec aEh (.one (.sl (.u .u64))) (fun x => dD x.1 x.2.1)
noncomputable def aEi : List (FuncId × aJ) := [(30, oM)]
theorem aK6 : cB Tryd.prog GL aEi := .cons aCM (by kernel_rfl) (.nil)
theorem aGF : gam aEi 30 = some oM := rfl
attribute [go_sem] aEh aCV aGF
set_option maxHeartbeats 4000000 in
theorem aJJ : FOK Tryd.prog GL 32 uN := by
 refine cE (bW aK6) mix Tryd.func32 rfl (by kernel_rfl) (by decide) aCV fun w0 S x Θ hw h hF => ?_
 obtain ⟨(b_0 : Nat), (n_1 : Int), u⟩ := x
 simp only [cH, go_sem]
 replace h : sat (dD b_0 n_1) _ := h
 unfold dD at h
 refine cK hF (D := (List Nat) × Int) [0, 7] (fun d => [(5, .val (.sl (.u .u64)) d.1), (8, .val (.i .i64) d.2)]) (fun d => []) h rfl (by simp only [go_sem]) ?_
 rintro ⟨m_7, x8_8⟩ A3 T3 hA3 hE3 h
 simp only [go_sem]
 replace h : sat (jZ n_1 b_0 m_7 x8_8) _ := h
 unfold jZ at h
 refine eZ h (fun hc h => ?_) fun hc h => ?_
 ·refine aN h fun g0 h => ?_
  refine aN h fun g0 h => ?_
  replace h := hA3 _ (aB h)
  exact aY _ h rfl (by simp only [go_sem])
 ·replace h := hE3 _ (aB h)
  try dsimp only at h
  exact aK hF [.tmp 4] rfl rfl rfl (aB h) (by simp only [aZ, go_sem])
attribute [go_sem] uN
end Nu
end Go.Proofs
namespace Go.Proofs
open Go.Shelf
def Tryd.lays285_ren : Go.Shelf.Ren := ⟨fun | 285 => 63 | n => n, fun | 37 => 57 | 53 => 37 | 3 => 3 | 4 => 4 | 51 => 107 | 9 => 9 | 5 => 5 | 0 => 0 | n => n, fun | n => n⟩
theorem Tryd.lays285 : Go.Proofs.Lays.n285 Tryd.prog Tryd.lays285_ren := {
 mixed := by kernel_rfl
 f285 := Tryd.func63.trans (congrArg some (by kernel_rfl))
 t0 := Tryd.underlying0
 a0 := Tryd.isAgg0
 z0 := Tryd.sizeOf0
 v0 := Tryd.zeroValue0
 t3 := Tryd.underlying3
 a3 := Tryd.isAgg3
 z3 := Tryd.sizeOf3
 v3 := Tryd.zeroValue3
 t4 := Tryd.underlying4
 a4 := Tryd.isAgg4
 z4 := Tryd.sizeOf4
 v4 := Tryd.zeroValue4
 t5 := Tryd.underlying5
 a5 := Tryd.isAgg5
 z5 := Tryd.sizeOf5
 v5 := Tryd.zeroValue5
 t9 := Tryd.underlying9
 a9 := Tryd.isAgg9
 z9 := Tryd.sizeOf9
 v9 := Tryd.zeroValue9
 t37 := Tryd.underlying57
 a37 := Tryd.isAgg57
 z37 := Tryd.sizeOf57
 v37 := Tryd.zeroValue57
 t51 := Tryd.underlying107
 a51 := Tryd.isAgg107
 z51 := Tryd.sizeOf107
 v51 := Tryd.zeroValue107
 t53 := Tryd.underlying37
 a53 := Tryd.isAgg37
 z53 := Tryd.sizeOf37
 v53 := Tryd.zeroValue37 }
open Go.Vc
set_option maxRecDepth 20000
namespace Nu
def dgs (n u : Nat) : List Nat := (List.range n).map fun t => 48 + u / 10 ^ (n - 1 - t) % 10
theorem nB (n u : Nat) : (dgs n u).length = n := by simp [dgs]
noncomputable def cJ (uo un u : Nat) (xs : List Nat) : Option (List Nat) :=
 ck (uo + un ≤ 24) (ck (u < 10 ^ un) (some (xs.take uo ++ dgs un u ++ xs.drop (uo + un))))
noncomputable def gQ : vK where
 D := Nat × Nat × Nat × (List Nat) × ((List Nat))
 av := fun d => [.sub 0 1 d.1 d.2.1, .val (.u .u64) d.2.2.1]
 hp := fun d => [.box 24 (.val (.arr 24 (.u .u8)) d.2.2.2.1)]
 m := 1
 pre := fun d => cJ d.1 d.2.1 d.2.2.1 d.2.2.2.1 = some d.2.2.2.2
 out := fun d => (fun r : (List Nat) => .ret (.tup []) [.box 24 (.val (.arr 24 (.u .u8)) (r))]) d.2.2.2.2
attribute [go_sem] gQ
theorem aEj (xs : List Nat) : (xs.map (fun (x : Nat) => [Value.int .u8 (x : Int)])).flatten = xs.map (fun (x : Nat) => Value.int .u8 (x : Int)) := by
 induction xs with
 | nil => rfl
 | cons x r ih => simp [ih]
theorem aRm {w : World} {S : Nat → Prop} {m : Nat} {xs : List Nat} {cs : List Value} (h : aQ w S (.arr m (.u .u8)) xs cs) : xs.length = m ∧ cs = xs.map (fun (x : Nat) => Value.int .u8 (x : Int)) ∧ ∀ x ∈ xs, x < 256 := by
 obtain ⟨hl, css, rfl, hcl, hr⟩ := h
 have hl : xs.length = m := hl
 have key : ∀ i (h : i < xs.length) (h' : i < css.length), css[i] = [Value.int .u8 (xs[i] : Int)] ∧ xs[i] < 256 := fun i h h' => by
  obtain ⟨h1, _, h3⟩ := hr i h h'
  refine ⟨h1, ?_⟩
  simp only [IntKind.max, IntKind.signed, IntKind.bits] at h3
  simp at h3
  omega
 refine ⟨hl, ?_, fun x hx => ?_⟩
 ·have e : css = xs.map (fun (x : Nat) => [Value.int .u8 (x : Int)]) := by
   apply List.ext_getElem
   ·simp; exact hcl
   ·intro i h1 h2
    have := (key i (by simpa using h2) h1).1
    simpa using this
  rw [e, aEj]
 ·obtain ⟨i, hi, rfl⟩ := List.getElem_of_mem hx
  exact (key i hi (by have : css.length = xs.length := hcl; omega)).2
theorem aSN {w : World} {S : Nat → Prop} {m : Nat} {xs : List Nat} (hl : xs.length = m) (hx : ∀ x ∈ xs, x < 256) : aQ w S (.arr m (.u .u8)) xs (xs.map (fun (x : Nat) => Value.int .u8 (x : Int))) := by
 refine ⟨hl, xs.map (fun (x : Nat) => [Value.int .u8 (x : Int)]), (aEj xs).symm, by simp, fun i h h' => ?_⟩
 ·have := hx xs[i] (List.getElem_mem h)
  refine ⟨by simp, rfl, ?_⟩
  simp only [IntKind.max, IntKind.signed, IntKind.bits]
  simp
  omega
open Go.Sort in
theorem aN1 {cells : Array Value} {xs : List Nat} {uo un u v' : Nat} {dk : Array UInt8} (hc : cells.toList = xs.map (fun (x : Nat) => Value.int .u8 (x : Int))) (hle : uo + un ≤ xs.length) (hF : Lib.FmtInv un u 0 v' dk) :
  (putCells (fun (b : UInt8) => Value.int .u8 (b.toNat : Int)) uo dk cells).toList = (xs.take uo ++ dgs un u ++ xs.drop (uo + un)).map (fun (x : Nat) => Value.int .u8 (x : Int)) := by
 have hsz : cells.size = xs.length := by rw [← Array.length_toList, hc, List.length_map]
 have hdk := hF.size
 apply List.ext_getElem
 ·simp [putCells, nB, hsz]; omega
 ·intro i h1 h2
  have hi : i < xs.length := by simpa [putCells, hsz] using h1
  have hci : cells[i]'(by omega) = Value.int .u8 (xs[i] : Int) := by
   have : cells.toList[i]'(by rw [Array.length_toList]; omega) = Value.int .u8 (xs[i] : Int) := by simp [hc]
   simpa using this
  simp only [putCells, Array.toList_mapIdx, List.getElem_mapIdx, Array.getElem_toList, List.getElem_map]
  by_cases hr : uo ≤ i ∧ i < uo + dk.size
  ·rw [if_pos hr, hF.done (i - uo) (Nat.zero_le _) (by omega)]
   have : (xs.take uo ++ dgs un u ++ xs.drop (uo + un))[i]'(by simpa using h2) = 48 + u / 10 ^ (un - 1 - (i - uo)) % 10 := by
    rw [List.getElem_append_left (by simp [nB]; omega), List.getElem_append_right (by simp; omega)]
    simp [dgs, Nat.min_eq_left (show uo ≤ xs.length by omega)]
   rw [this]
   have hm := Nat.mod_lt (u / 10 ^ (un - 1 - (i - uo))) (show 0 < 10 by decide)
   simp only [Lib.dg, UInt8.toNat_ofNat']
   rw [Nat.mod_eq_of_lt (by omega)]
  ·rw [if_neg hr, hci]
   rcases Nat.lt_or_ge i uo with h | h
   ·rw [List.getElem_append_left (by simp [nB]; omega), List.getElem_append_left (by simp; omega)]
    simp
   ·rw [List.getElem_append_right (by simp [nB]; omega)]
    simp only [List.length_append, List.length_take, nB, List.getElem_drop]
    congr 3
    omega
open Go.Sort in
theorem pA : GOK Tryd.prog GL 63 gQ := by
 rintro c w ⟨uo, un, u, xs, r⟩ vs hpre ⟨good, glob, len, val⟩
 have hpre : cJ uo un u xs = some r := hpre
 unfold cJ at hpre
 obtain ⟨h1, hpre⟩ := aH hpre
 obtain ⟨h2, hpre⟩ := aH hpre
 have hr : xs.take uo ++ dgs un u ++ xs.drop (uo + un) = r := Option.some.inj hpre
 obtain ⟨b, cells, e, hhd, hheap, hsz, hcl⟩ := good.objs 0 _ rfl
 obtain ⟨hl, hcs, hx⟩ := aRm hcl
 have hl : xs.length = 24 := hl
 have hcs : cells.toList = xs.map (fun (x : Nat) => Value.int .u8 (x : Int)) := hcs
 have hx : ∀ x ∈ xs, x < 256 := hx
 have hsz : cells.size = 24 := by
  rcases hsz with h | ⟨_, h⟩
  ·exact h
  ·exact absurd h (by omega)
 have hv0 := val 0 (by show 0 < 2; decide) (by rw [len]; show 0 < 2; decide)
 have hv1 := val 1 (by show 1 < 2; decide) (by rw [len]; show 1 < 2; decide)
 obtain ⟨_, hn, b', cap, hb', e0⟩ := aE6 (i := 0) (s := 1) (off := uo) (n := un) hv0
 obtain ⟨e1, _, hu⟩ := aAw (k := .u64) (n := u) hv1
 rw [hhd] at hb'
 simp only [aP, Option.some.injEq] at hb'
 subst hb'
 have hvs : vs = #[.slice (some ⟨b, uo * 1, none⟩) un cap, .int .u64 (u : Int)] := by
  have hlen : vs.toList.length = 2 := len
  rw [← Array.toList_inj]
  apply List.ext_getElem
  ·exact hlen
  ·intro i a1 a2
   match i, a2 with
   | 0, _ => exact e0
   | 1, _ => exact e1
 have hd : (((xs.drop uo).take un).map UInt8.ofNat).toArray.size = un := by simp; omega
 have hcell : ∀ j (hj : j < xs.length), w.cell? ⟨b, j, none⟩ = some (.int .u8 (xs[j] : Int)) := fun j hj => by
  have hj2 : j < cells.size := by omega
  have : cells[j] = Value.int .u8 (xs[j] : Int) := by
   have : cells.toList[j]'(by rw [Array.length_toList]; omega) = Value.int .u8 (xs[j] : Int) := by simp [hcs]
   simpa using this
  simp [World.cell?, hheap, hj2, this]
 have hH : Holds (fun (b : UInt8) => Value.int .u8 (b.toNat : Int)) w b uo (((xs.drop uo).take un).map UInt8.ofNat).toArray := fun j hj => by
  rw [hd] at hj
  have hj2 : uo + j < xs.length := by omega
  refine ⟨?_, ?_⟩
  ·rw [hcell _ hj2]
   have hlt := hx xs[uo + j] (List.getElem_mem hj2)
   have : (((xs.drop uo).take un).map UInt8.ofNat).toArray[j]! = UInt8.ofNat xs[uo + j] := by
    rw [getElem!_pos _ j (by rw [hd]; exact hj)]
    simp
   rw [this]
   simp only [UInt8.toNat_ofNat']
   rw [Nat.mod_eq_of_lt (by omega)]
  ·simp [World.frozen?, hheap]
 have hB : fX .u64 = 18446744073709551616 := by decide +kernel
 have key := Any.internal_strconv_formatBase10 Tryd.lays285 b uo cap u _ w hH (by rw [hd]; exact h2) (by omega) (by rw [hd]; omega)
 rw [hd] at key
 rw [hvs, Nat.mul_one]
 refine Calls.mono (f := 63) key ?_
 rintro e w' ⟨rfl, n, v', dk, rfl, hF⟩
 refine ⟨c, .tuple #[], rfl, ?_, ?_⟩
 ·have hbl : b < w.heap.size := (Array.getElem?_eq_some_iff.1 hheap).1
  have hpc := aN1 (uo := uo) (xs := xs) (u := u) (dk := dk) (un := un) hcs (by omega) hF
  have hheap' : ((putRow (fun (b : UInt8) => Value.int .u8 (b.toNat : Int)) w b uo dk).drewN n).heap[b]? = some (.cells (putCells (fun (b : UInt8) => Value.int .u8 (b.toNat : Int)) uo dk cells) e (0, 0)) := by
   show (w.heap.modify b (onCells _))[b]? = _
   rw [Array.getElem?_modify, if_pos rfl, hheap]
   rfl
  have hoth : ∀ k, k ≠ b → ((putRow (fun (b : UInt8) => Value.int .u8 (b.toNat : Int)) w b uo dk).drewN n).heap[k]? = w.heap[k]? := fun k hk => by
   show (w.heap.modify b (onCells _))[k]? = _
   rw [Array.getElem?_modify, if_neg (fun h => hk h.symm)]
  have hsize : ((putRow (fun (b : UInt8) => Value.int .u8 (b.toNat : Int)) w b uo dk).drewN n).heap.size = w.heap.size := by
   show (w.heap.modify b (onCells _)).size = _
   simp
  have hnS : ¬ c.S b := (good.own 0 _ b rfl (by show aP (c.hd 0) = some b; rw [hhd]; rfl)).2.2
  refine ⟨good.n, ⟨rfl, rfl, rfl, Nat.le_of_eq hsize.symm, fun k hk hM => hoth k (fun hkb => hM ?_)⟩, fun k hk => by rw [hsize]; exact good.sfin k hk, good.src, fun i o hio => ?_, fun i o k hio hk => ?_, fun i j oi oj k hi hj hbi hbj => ?_, good.root⟩
  ·subst hkb
   exact ⟨0, _, rfl, by show aP (c.hd 0) = some k; rw [hhd]; rfl⟩
  ·match i, hio with
   | 0, hio =>
    cases hio
    refine ⟨b, _, e, hhd, hheap', ?_, ?_⟩
    ·exact .inl (by (simp [putCells, hsz]) <;> rfl)
    ·show aQ _ c.S (.arr 24 (.u .u8)) r _
     rw [hpc, hr]
     have hrl : r.length = 24 := by rw [← hr]; simp [nB]; omega
     refine aSN hrl (fun x hxr => ?_)
     rw [← hr] at hxr
     rcases List.mem_append.1 hxr with hxr | hxr
     ·rcases List.mem_append.1 hxr with hxr | hxr
      ·exact hx x (List.mem_of_mem_take hxr)
      ·obtain ⟨t, _, rfl⟩ := List.mem_map.1 hxr
       have := Nat.mod_lt (u / 10 ^ (un - 1 - t)) (show 0 < 10 by decide)
       omega
     ·exact hx x (List.mem_of_mem_drop hxr)
   | i + 1, hio => cases hio
  ·match i, hio with
   | 0, hio =>
    cases hio
    have := good.own 0 _ k rfl hk
    rw [hsize]; exact this
   | i + 1, hio => cases hio
  ·match i, j, hi, hj with
   | 0, 0, _, _ => rfl
   | 0, j + 1, _, hj => cases hj
   | i + 1, _, hi, _ => cases hi
 ·exact ⟨[], rfl, rfl, fun i h1 _ => by cases h1⟩
end Nu
end Go.Proofs
namespace Go.Proofs
open Go.Vc
set_option maxRecDepth 20000
namespace Nu
def pM : ByteArray := ⟨⟨48 :: 48 :: 48 :: 48 :: 48 :: 48 :: 48 :: 48 :: 48 :: 48 :: 48 :: 48 :: 48 :: 48 :: 48 :: 48 :: 48 :: 48 :: 48 :: 48 :: 48 :: 48 :: 48 :: 48 :: 48 :: 48 :: 48 :: 48 :: 48 :: 48 :: 48 :: 48 :: 48 :: 48 :: 48 :: 48 :: 48 :: 48 :: 48 :: 48 :: 48 :: 48 :: 48 :: 48 :: 48 :: 48 :: 48 :: 48 :: 48 :: 48 :: 48 :: 48 :: 48 :: 48 :: 48 :: 48 :: 48 :: 48 :: 48 :: 48 :: 48 :: 48 :: 48 :: 48 :: []⟩⟩
theorem aHy : (⟨⟨48 :: 48 :: 48 :: 48 :: 48 :: 48 :: 48 :: 48 :: 48 :: 48 :: 48 :: 48 :: 48 :: 48 :: 48 :: 48 :: 48 :: 48 :: 48 :: 48 :: 48 :: 48 :: 48 :: 48 :: 48 :: 48 :: 48 :: 48 :: 48 :: 48 :: 48 :: 48 :: 48 :: 48 :: 48 :: 48 :: 48 :: 48 :: 48 :: 48 :: 48 :: 48 :: 48 :: 48 :: 48 :: 48 :: 48 :: 48 :: 48 :: 48 :: 48 :: 48 :: 48 :: 48 :: 48 :: 48 :: 48 :: 48 :: 48 :: 48 :: 48 :: 48 :: 48 :: 48 :: []⟩⟩ : ByteArray) = pM := rfl
attribute [go_sem] aHy
def sB : ByteArray := ⟨⟨45 :: 45 :: 45 :: 45 :: 45 :: 45 :: 45 :: 45 :: 45 :: 45 :: 45 :: 45 :: 45 :: 45 :: 45 :: 45 :: 45 :: 45 :: 45 :: 45 :: 45 :: 45 :: 45 :: 45 :: 45 :: 45 :: 45 :: 45 :: 45 :: 45 :: 45 :: 45 :: 45 :: 45 :: 45 :: 45 :: 45 :: 45 :: 45 :: 45 :: 45 :: 45 :: 45 :: 45 :: 45 :: 45 :: 45 :: 45 :: 45 :: 45 :: 45 :: 45 :: 45 :: 45 :: 45 :: 45 :: 45 :: 45 :: 45 :: 45 :: 45 :: 45 :: 45 :: 45 :: 45 :: 45 :: 45 :: 45 :: 45 :: 45 :: 45 :: 45 :: 45 :: 45 :: 45 :: 45 :: 45 :: 45 :: 45 :: 45 :: 45 :: 45 :: 45 :: 45 :: 45 :: 45 :: 45 :: 45 :: 45 :: 45 :: 45 :: 45 :: 45 :: 45 :: 45 :: 45 :: 45 :: 45 :: 45 :: 45 :: 45 :: 45 :: 45 :: 45 :: 45 :: 45 :: 45 :: 45 :: 45 :: 45 :: 45 :: 45 :: 45 :: 45 :: 45 :: 45 :: 45 :: 45 :: 45 :: 45 :: 45 :: 45 :: 45 :: 45 :: 45 :: 45 :: 45 :: 45 :: []⟩⟩
theorem aHz : (⟨⟨45 :: 45 :: 45 :: 45 :: 45 :: 45 :: 45 :: 45 :: 45 :: 45 :: 45 :: 45 :: 45 :: 45 :: 45 :: 45 :: 45 :: 45 :: 45 :: 45 :: 45 :: 45 :: 45 :: 45 :: 45 :: 45 :: 45 :: 45 :: 45 :: 45 :: 45 :: 45 :: 45 :: 45 :: 45 :: 45 :: 45 :: 45 :: 45 :: 45 :: 45 :: 45 :: 45 :: 45 :: 45 :: 45 :: 45 :: 45 :: 45 :: 45 :: 45 :: 45 :: 45 :: 45 :: 45 :: 45 :: 45 :: 45 :: 45 :: 45 :: 45 :: 45 :: 45 :: 45 :: 45 :: 45 :: 45 :: 45 :: 45 :: 45 :: 45 :: 45 :: 45 :: 45 :: 45 :: 45 :: 45 :: 45 :: 45 :: 45 :: 45 :: 45 :: 45 :: 45 :: 45 :: 45 :: 45 :: 45 :: 45 :: 45 :: 45 :: 45 :: 45 :: 45 :: 45 :: 45 :: 45 :: 45 :: 45 :: 45 :: 45 :: 45 :: 45 :: 45 :: 45 :: 45 :: 45 :: 45 :: 45 :: 45 :: 45 :: 45 :: 45 :: 45 :: 45 :: 45 :: 45 :: 45 :: 45 :: 45 :: 45 :: 45 :: 45 :: 45 :: 45 :: 45 :: 45 :: 45 :: []⟩⟩ : ByteArray) = sB := rfl
attribute [go_sem] aHz
def vU : ByteArray := ⟨⟨61 :: 61 :: 61 :: 61 :: 61 :: 61 :: 61 :: 61 :: 61 :: 61 :: 61 :: 61 :: 61 :: 61 :: 61 :: 61 :: 61 :: 61 :: 61 :: 61 :: 61 :: 61 :: 61 :: 61 :: 61 :: 61 :: 61 :: 61 :: 61 :: 61 :: 61 :: 61 :: 61 :: 61 :: 61 :: 61 :: 61 :: 61 :: 61 :: 61 :: 61 :: 61 :: 61 :: 61 :: 61 :: 61 :: 61 :: 61 :: 61 :: 61 :: 61 :: 61 :: 61 :: 61 :: 61 :: 61 :: 61 :: 61 :: 61 :: 61 :: 61 :: 61 :: 61 :: 61 :: 61 :: 61 :: 61 :: 61 :: 61 :: 61 :: 61 :: 61 :: 61 :: 61 :: 61 :: 61 :: 61 :: 61 :: 61 :: 61 :: 61 :: 61 :: 61 :: 61 :: 61 :: 61 :: 61 :: 61 :: 61 :: 61 :: 61 :: 61 :: 61 :: 61 :: 61 :: 61 :: 61 :: 61 :: 61 :: 61 :: 61 :: 61 :: 61 :: 61 :: 61 :: 61 :: 61 :: 61 :: 61 :: 61 :: 61 :: 61 :: 61 :: 61 :: 61 :: 61 :: 61 :: 61 :: 61 :: 61 :: 61 :: 61 :: 61 :: 61 :: 61 :: 61 :: 61 :: 61 :: []⟩⟩
theorem aHA : (⟨⟨61 :: 61 :: 61 :: 61 :: 61 :: 61 :: 61 :: 61 :: 61 :: 61 :: 61 :: 61 :: 61 :: 61 :: 61 :: 61 :: 61 :: 61 :: 61 :: 61 :: 61 :: 61 :: 61 :: 61 :: 61 :: 61 :: 61 :: 61 :: 61 :: 61 :: 61 :: 61 :: 61 :: 61 :: 61 :: 61 :: 61 :: 61 :: 61 :: 61 :: 61 :: 61 :: 61 :: 61 :: 61 :: 61 :: 61 :: 61 :: 61 :: 61 :: 61 :: 61 :: 61 :: 61 :: 61 :: 61 :: 61 :: 61 :: 61 :: 61 :: 61 :: 61 :: 61 :: 61 :: 61 :: 61 :: 61 :: 61 :: 61 :: 61 :: 61 :: 61 :: 61 :: 61 :: 61 :: 61 :: 61 :: 61 :: 61 :: 61 :: 61 :: 61 :: 61 :: 61 :: 61 :: 61 :: 61 :: 61 :: 61 :: 61 :: 61 :: 61 :: 61 :: 61 :: 61 :: 61 :: 61 :: 61 :: 61 :: 61 :: 61 :: 61 :: 61 :: 61 :: 61 :: 61 :: 61 :: 61 :: 61 :: 61 :: 61 :: 61 :: 61 :: 61 :: 61 :: 61 :: 61 :: 61 :: 61 :: 61 :: 61 :: 61 :: 61 :: 61 :: 61 :: 61 :: 61 :: 61 :: []⟩⟩ : ByteArray) = vU := rfl
attribute [go_sem] aHA
def vV : ByteArray := ⟨⟨9 :: 9 :: 9 :: 9 :: 9 :: 9 :: 9 :: 9 :: 9 :: 9 :: 9 :: 9 :: 9 :: 9 :: 9 :: 9 :: 9 :: 9 :: 9 :: 9 :: 9 :: 9 :: 9 :: 9 :: 9 :: 9 :: 9 :: 9 :: 9 :: 9 :: 9 :: 9 :: 9 :: 9 :: 9 :: 9 :: 9 :: 9 :: 9 :: 9 :: 9 :: 9 :: 9 :: 9 :: 9 :: 9 :: 9 :: 9 :: 9 :: 9 :: 9 :: 9 :: 9 :: 9 :: 9 :: 9 :: 9 :: 9 :: 9 :: 9 :: 9 :: 9 :: 9 :: 9 :: []⟩⟩
theorem aHB : (⟨⟨9 :: 9 :: 9 :: 9 :: 9 :: 9 :: 9 :: 9 :: 9 :: 9 :: 9 :: 9 :: 9 :: 9 :: 9 :: 9 :: 9 :: 9 :: 9 :: 9 :: 9 :: 9 :: 9 :: 9 :: 9 :: 9 :: 9 :: 9 :: 9 :: 9 :: 9 :: 9 :: 9 :: 9 :: 9 :: 9 :: 9 :: 9 :: 9 :: 9 :: 9 :: 9 :: 9 :: 9 :: 9 :: 9 :: 9 :: 9 :: 9 :: 9 :: 9 :: 9 :: 9 :: 9 :: 9 :: 9 :: 9 :: 9 :: 9 :: 9 :: 9 :: 9 :: 9 :: 9 :: []⟩⟩ : ByteArray) = vV := rfl
attribute [go_sem] aHB
def vW : ByteArray := ⟨⟨48 :: 48 :: 48 :: 49 :: 48 :: 50 :: 48 :: 51 :: 48 :: 52 :: 48 :: 53 :: 48 :: 54 :: 48 :: 55 :: 48 :: 56 :: 48 :: 57 :: 49 :: 48 :: 49 :: 49 :: 49 :: 50 :: 49 :: 51 :: 49 :: 52 :: 49 :: 53 :: 49 :: 54 :: 49 :: 55 :: 49 :: 56 :: 49 :: 57 :: 50 :: 48 :: 50 :: 49 :: 50 :: 50 :: 50 :: 51 :: 50 :: 52 :: 50 :: 53 :: 50 :: 54 :: 50 :: 55 :: 50 :: 56 :: 50 :: 57 :: 51 :: 48 :: 51 :: 49 :: 51 :: 50 :: 51 :: 51 :: 51 :: 52 :: 51 :: 53 :: 51 :: 54 :: 51 :: 55 :: 51 :: 56 :: 51 :: 57 :: 52 :: 48 :: 52 :: 49 :: 52 :: 50 :: 52 :: 51 :: 52 :: 52 :: 52 :: 53 :: 52 :: 54 :: 52 :: 55 :: 52 :: 56 :: 52 :: 57 :: 53 :: 48 :: 53 :: 49 :: 53 :: 50 :: 53 :: 51 :: 53 :: 52 :: 53 :: 53 :: 53 :: 54 :: 53 :: 55 :: 53 :: 56 :: 53 :: 57 :: 54 :: 48 :: 54 :: 49 :: 54 :: 50 :: 54 :: 51 :: 54 :: 52 :: 54 :: 53 :: 54 :: 54 :: 54 :: 55 :: 54 :: 56 :: 54 :: 57 :: 55 :: 48 :: 55 :: 49 :: 55 :: 50 :: 55 :: 51 :: 55 :: 52 :: 55 :: 53 :: 55 :: 54 :: 55 :: 55 :: 55 :: 56 :: 55 :: 57 :: 56 :: 48 :: 56 :: 49 :: 56 :: 50 :: 56 :: 51 :: 56 :: 52 :: 56 :: 53 :: 56 :: 54 :: 56 :: 55 :: 56 :: 56 :: 56 :: 57 :: 57 :: 48 :: 57 :: 49 :: 57 :: 50 :: 57 :: 51 :: 57 :: 52 :: 57 :: 53 :: 57 :: 54 :: 57 :: 55 :: 57 :: 56 :: 57 :: 57 :: []⟩⟩
theorem aHC : (⟨⟨48 :: 48 :: 48 :: 49 :: 48 :: 50 :: 48 :: 51 :: 48 :: 52 :: 48 :: 53 :: 48 :: 54 :: 48 :: 55 :: 48 :: 56 :: 48 :: 57 :: 49 :: 48 :: 49 :: 49 :: 49 :: 50 :: 49 :: 51 :: 49 :: 52 :: 49 :: 53 :: 49 :: 54 :: 49 :: 55 :: 49 :: 56 :: 49 :: 57 :: 50 :: 48 :: 50 :: 49 :: 50 :: 50 :: 50 :: 51 :: 50 :: 52 :: 50 :: 53 :: 50 :: 54 :: 50 :: 55 :: 50 :: 56 :: 50 :: 57 :: 51 :: 48 :: 51 :: 49 :: 51 :: 50 :: 51 :: 51 :: 51 :: 52 :: 51 :: 53 :: 51 :: 54 :: 51 :: 55 :: 51 :: 56 :: 51 :: 57 :: 52 :: 48 :: 52 :: 49 :: 52 :: 50 :: 52 :: 51 :: 52 :: 52 :: 52 :: 53 :: 52 :: 54 :: 52 :: 55 :: 52 :: 56 :: 52 :: 57 :: 53 :: 48 :: 53 :: 49 :: 53 :: 50 :: 53 :: 51 :: 53 :: 52 :: 53 :: 53 :: 53 :: 54 :: 53 :: 55 :: 53 :: 56 :: 53 :: 57 :: 54 :: 48 :: 54 :: 49 :: 54 :: 50 :: 54 :: 51 :: 54 :: 52 :: 54 :: 53 :: 54 :: 54 :: 54 :: 55 :: 54 :: 56 :: 54 :: 57 :: 55 :: 48 :: 55 :: 49 :: 55 :: 50 :: 55 :: 51 :: 55 :: 52 :: 55 :: 53 :: 55 :: 54 :: 55 :: 55 :: 55 :: 56 :: 55 :: 57 :: 56 :: 48 :: 56 :: 49 :: 56 :: 50 :: 56 :: 51 :: 56 :: 52 :: 56 :: 53 :: 56 :: 54 :: 56 :: 55 :: 56 :: 56 :: 56 :: 57 :: 57 :: 48 :: 57 :: 49 :: 57 :: 50 :: 57 :: 51 :: 57 :: 52 :: 57 :: 53 :: 57 :: 54 :: 57 :: 55 :: 57 :: 56 :: 57 :: 57 :: []⟩⟩ : ByteArray) = vW := rfl
attribute [go_sem] aHC
def vX : ByteArray := ⟨⟨48 :: 49 :: 50 :: 51 :: 52 :: 53 :: 54 :: 55 :: 56 :: 57 :: 97 :: 98 :: 99 :: 100 :: 101 :: 102 :: 103 :: 104 :: 105 :: 106 :: 107 :: 108 :: 109 :: 110 :: 111 :: 112 :: 113 :: 114 :: 115 :: 116 :: 117 :: 118 :: 119 :: 120 :: 121 :: 122 :: []⟩⟩
theorem aHD : (⟨⟨48 :: 49 :: 50 :: 51 :: 52 :: 53 :: 54 :: 55 :: 56 :: 57 :: 97 :: 98 :: 99 :: 100 :: 101 :: 102 :: 103 :: 104 :: 105 :: 106 :: 107 :: 108 :: 109 :: 110 :: 111 :: 112 :: 113 :: 114 :: 115 :: 116 :: 117 :: 118 :: 119 :: 120 :: 121 :: 122 :: []⟩⟩ : ByteArray) = vX := rfl
attribute [go_sem] aHD
def sC : ByteArray := ⟨⟨32 :: 32 :: 32 :: 32 :: 32 :: 32 :: 32 :: 32 :: 32 :: 32 :: 32 :: 32 :: 32 :: 32 :: 32 :: 32 :: 32 :: 32 :: 32 :: 32 :: 32 :: 32 :: 32 :: 32 :: 32 :: 32 :: 32 :: 32 :: 32 :: 32 :: 32 :: 32 :: 32 :: 32 :: 32 :: 32 :: 32 :: 32 :: 32 :: 32 :: 32 :: 32 :: 32 :: 32 :: 32 :: 32 :: 32 :: 32 :: 32 :: 32 :: 32 :: 32 :: 32 :: 32 :: 32 :: 32 :: 32 :: 32 :: 32 :: 32 :: 32 :: 32 :: 32 :: 32 :: 32 :: 32 :: 32 :: 32 :: 32 :: 32 :: 32 :: 32 :: 32 :: 32 :: 32 :: 32 :: 32 :: 32 :: 32 :: 32 :: 32 :: 32 :: 32 :: 32 :: 32 :: 32 :: 32 :: 32 :: 32 :: 32 :: 32 :: 32 :: 32 :: 32 :: 32 :: 32 :: 32 :: 32 :: 32 :: 32 :: 32 :: 32 :: 32 :: 32 :: 32 :: 32 :: 32 :: 32 :: 32 :: 32 :: 32 :: 32 :: 32 :: 32 :: 32 :: 32 :: 32 :: 32 :: 32 :: 32 :: 32 :: 32 :: 32 :: 32 :: 32 :: 32 :: 32 :: 32 :: []⟩⟩
theorem aHE : (⟨⟨32 :: 32 :: 32 :: 32 :: 32 :: 32 :: 32 :: 32 :: 32 :: 32 :: 32 :: 32 :: 32 :: 32 :: 32 :: 32 :: 32 :: 32 :: 32 :: 32 :: 32 :: 32 :: 32 :: 32 :: 32 :: 32 :: 32 :: 32 :: 32 :: 32 :: 32 :: 32 :: 32 :: 32 :: 32 :: 32 :: 32 :: 32 :: 32 :: 32 :: 32 :: 32 :: 32 :: 32 :: 32 :: 32 :: 32 :: 32 :: 32 :: 32 :: 32 :: 32 :: 32 :: 32 :: 32 :: 32 :: 32 :: 32 :: 32 :: 32 :: 32 :: 32 :: 32 :: 32 :: 32 :: 32 :: 32 :: 32 :: 32 :: 32 :: 32 :: 32 :: 32 :: 32 :: 32 :: 32 :: 32 :: 32 :: 32 :: 32 :: 32 :: 32 :: 32 :: 32 :: 32 :: 32 :: 32 :: 32 :: 32 :: 32 :: 32 :: 32 :: 32 :: 32 :: 32 :: 32 :: 32 :: 32 :: 32 :: 32 :: 32 :: 32 :: 32 :: 32 :: 32 :: 32 :: 32 :: 32 :: 32 :: 32 :: 32 :: 32 :: 32 :: 32 :: 32 :: 32 :: 32 :: 32 :: 32 :: 32 :: 32 :: 32 :: 32 :: 32 :: 32 :: 32 :: 32 :: 32 :: []⟩⟩ : ByteArray) = sC := rfl
attribute [go_sem] aHE
noncomputable def eC (b_0 : Bool) : Option Int :=
 if b_0 = true then some (1 : Int) else some (0 : Int)
def rJ : PlR := ⟨[(0, .A [0]), (1, .A [3]), (2, .A [2]), (3, .A [2])], []⟩
def tD : Ty := .pair .bool .unit
noncomputable def kH : aJ := mSpec tD (.one (.i .i64)) (fun x => eC x.1)
noncomputable def aAY : List (FuncId × aJ) := []
theorem aAZ : cB Tryd.prog GL aAY := .nil
attribute [go_sem] tD rJ
set_option maxHeartbeats 4000000 in
theorem aAk : FOK Tryd.prog GL 77 kH := by
 refine cE (bW aAZ) mix Tryd.func77 rfl (by kernel_rfl) (by decide) rJ fun w0 S x Θ hw h hF => ?_
 obtain ⟨(b_0 : Bool), u⟩ := x
 simp only [cH, go_sem]
 replace h : sat (eC b_0) _ := h
 unfold eC at h
 refine aDX h (fun hc h => ?_) fun hc h => ?_
 ·exact aK hF [.tmp 2] rfl rfl rfl (aB h) (by simp only [aZ, go_sem])
 ·exact aK hF [.tmp 2] rfl rfl rfl (aB h) (by simp only [aZ, go_sem])
attribute [go_sem] kH
noncomputable def bP (x_0 : Int) : Option Int :=
 ck (I64 (x_0 * (78913 : Int))) (some (Int.fdiv (x_0 * (78913 : Int)) (2 ^ (18 : Nat))))
def rK : PlR := ⟨[(0, .A [0]), (1, .A [2])], []⟩
def tE : Ty := .pair (.i .i64) .unit
noncomputable def kI : aJ := mSpec tE (.one (.i .i64)) (fun x => bP x.1)
noncomputable def aA0 : List (FuncId × aJ) := []
theorem aA1 : cB Tryd.prog GL aA0 := .nil
attribute [go_sem] tE rK
set_option maxHeartbeats 4000000 in
theorem aAl : FOK Tryd.prog GL 75 kI := by
 refine cE (bW aA1) mix Tryd.func75 rfl (by kernel_rfl) (by decide) rK fun w0 S x Θ hw h hF => ?_
 obtain ⟨(x_0 : Int), u⟩ := x
 simp only [cH, go_sem]
 replace h : sat (bP x_0) _ := h
 unfold bP at h
 refine aN h fun g0 h => ?_
 exact aK hF [.tmp 2] rfl rfl rfl (aB h) (by simp only [aZ, go_sem])
attribute [go_sem] kI
noncomputable def aI (d_0 : Nat) : Option Int :=
 ck (((bP (cU d_0)).isSome = true)) (ck (0 ≤ ((bP (cU d_0)).getD (0 : Int)) ∧ ((bP (cU d_0)).getD (0 : Int)) < (20 : Int)) (ck (((eC (decide ((p10.getD (((bP (cU d_0)).getD (0 : Int)).toNat) (0 : Nat)) ≤ d_0))).isSome = true)) (ck (I64 (((bP (cU d_0)).getD (0 : Int)) + ((eC (decide ((p10.getD (((bP (cU d_0)).getD (0 : Int)).toNat) (0 : Nat)) ≤ d_0))).getD (0 : Int)))) (some (((bP (cU d_0)).getD (0 : Int)) + ((eC (decide ((p10.getD (((bP (cU d_0)).getD (0 : Int)).toNat) (0 : Nat)) ≤ d_0))).getD (0 : Int)))))))
def rL : PlR := ⟨[(0, .A [0]), (1, .A [0, 3]), (2, .A [2])], []⟩
def tF : Ty := .pair (.u .u64) .unit
noncomputable def fG : aJ := mSpec tF (.one (.i .i64)) (fun x => aI x.1)
noncomputable def kX : List (FuncId × aJ) := [(75, kI), (76, nM), (77, kH)]
theorem aA2 : cB Tryd.prog GL kX := .cons aAl (by kernel_rfl) (.cons aBI (by kernel_rfl) (.cons aAk (by kernel_rfl) (.nil)))
theorem yB : gam kX 75 = some kI := rfl
theorem yC : gam kX 76 = some nM := rfl
theorem yD : gam kX 77 = some kH := rfl
attribute [go_sem] tF rL yB yC yD
set_option maxHeartbeats 4000000 in
theorem rM : FOK Tryd.prog GL 62 fG := by
 refine cE (bW aA2) mix Tryd.func62 rfl (by kernel_rfl) (by decide) rL fun w0 S x Θ hw h hF => ?_
 obtain ⟨(d_0 : Nat), u⟩ := x
 simp only [cH, go_sem]
 replace h : sat (aI d_0) _ := h
 unfold aI at h
 refine aN h fun g0 h => ?_
 refine aN h fun g0 h => aN h fun g1 h => aN h fun g2 h => ?_
 exact aK hF [.tmp 2] rfl rfl rfl (aB h) (by simp only [aZ, go_sem])
attribute [go_sem] fG
noncomputable def eS (i_0 : Int) : Option (List Nat) :=
 if i_0 < (10 : Int) then ck (I64 (i_0 + (1 : Int))) (ck (0 ≤ i_0 ∧ i_0 ≤ (i_0 + (1 : Int)) ∧ (i_0 + (1 : Int)) ≤ ((((aX vX).length) : Nat) : Int)) (some (List.drop (i_0.toNat) (List.take ((i_0 + (1 : Int)).toNat) (aX vX))))) else ck (I64 (i_0 * (2 : Int))) (ck (I64 (i_0 * (2 : Int))) (ck (I64 ((i_0 * (2 : Int)) + (2 : Int))) (ck (0 ≤ (i_0 * (2 : Int)) ∧ (i_0 * (2 : Int)) ≤ ((i_0 * (2 : Int)) + (2 : Int)) ∧ ((i_0 * (2 : Int)) + (2 : Int)) ≤ ((((aX vW).length) : Nat) : Int)) (some (List.drop ((i_0 * (2 : Int)).toNat) (List.take (((i_0 * (2 : Int)) + (2 : Int)).toNat) (aX vW)))))))
def wP : PlR := ⟨[(0, .A [0]), (1, .A [0, 4]), (2, .A [2]), (3, .A [2])], []⟩
def yE : Ty := .pair (.i .i64) .unit
noncomputable def iB : aJ := mSpec yE (.one .str) (fun x => eS x.1)
noncomputable def aDz : List (FuncId × aJ) := []
theorem aDA : cB Tryd.prog GL aDz := .nil
attribute [go_sem] yE wP
set_option maxHeartbeats 4000000 in
theorem wQ : FOK Tryd.prog GL 61 iB := by
 refine cE (bW aDA) mix Tryd.func61 rfl (by kernel_rfl) (by decide) wP fun w0 S x Θ hw h hF => ?_
 obtain ⟨(i_0 : Int), u⟩ := x
 simp only [cH, go_sem]
 replace h : sat (eS i_0) _ := h
 unfold eS at h
 refine eZ h (fun hc h => ?_) fun hc h => ?_
 ·refine aN h fun g0 h => aN h fun g1 h => ?_
  exact aK hF [.tmp 2] rfl rfl rfl (aB h) (by simp only [aZ, go_sem])
 ·refine aN h fun g0 h => aN h fun g1 h => aN h fun g2 h => aN h fun g3 h => ?_
  exact aK hF [.tmp 2] rfl rfl rfl (aB h) (by simp only [aZ, go_sem])
attribute [go_sem] iB
noncomputable def fH (i_0 : Nat) (base_1 : Int) : Option (List Nat) :=
 if base_1 = (10 : Int) then if i_0 < (100 : Nat) then ck (((eS (IntKind.i64.wrap ((i_0 : Nat) : Int))).isSome = true)) (some ((eS (IntKind.i64.wrap ((i_0 : Nat) : Int))).getD ([] : List Nat))) else ck (((aI i_0).isSome = true)) (ck ((0 : Int) < ((aI i_0).getD (0 : Int)) ∧ ((aI i_0).getD (0 : Int)) ≤ 24) (((cJ (0 : Nat) ((((aI i_0).getD (0 : Int)) - (0 : Int)).toNat) i_0 (List.replicate 24 (0 : Nat)))).bind (fun r_5 => ck ((0 : Int) < ((aI i_0).getD (0 : Int)) ∧ ((aI i_0).getD (0 : Int)) ≤ 24) (ck ((0 : Nat) + ((((aI i_0).getD (0 : Int)) - (0 : Int)).toNat) ≤ 24) (some (List.take ((((aI i_0).getD (0 : Int)) - (0 : Int)).toNat) (List.drop (0 : Nat) r_5))))))) else none
def kJ : Ty := .pair (.u .u64) (.pair (.i .i64) .unit)
attribute [go_sem] kJ
noncomputable def iZ : aJ := mSpec kJ (.one .str) (fun x => fH x.1 x.2.1)
noncomputable def kK : List (FuncId × aJ) := [(61, iB), (62, fG)]
theorem rN : cB Tryd.prog GL kK := .cons wQ (by kernel_rfl) (.cons rM (by kernel_rfl) (.nil))
theorem xG : gam kK 61 = some iB := rfl
attribute [go_sem] xG
theorem xH : gam kK 62 = some fG := rfl
attribute [go_sem] xH
set_option maxHeartbeats 4000000 in
theorem zR : FOK Tryd.prog GL 70 iZ := by
 refine rY (bW rN) Tryd.func70 rfl (by kernel_rfl) (by decide) fun w0 S x r hw h => ?_
 have hF : rD (fr Tryd.prog (EM kK) S w0 Tryd.f70.ntmps) := ⟨bW rN, mix⟩
 obtain ⟨(i_0 : Nat), (base_1 : Int), u⟩ := x
 simp only [kJ, Ty.wf, rS] at hw
 simp only [cH, kJ]
 try dsimp only at h
 unfold fH at h
 refine aE (aD hF [0, 1] ?_)
 simp only [go_sem]
 refine aF (aE (aE (aD hF [0, 1, 10] ?_)))
 simp only [go_sem]
 refine aF (bK rfl (fun hc => ?_) (fun hc => ?_))
 ·try simp only [go_sem] at hc
  have h := fP (by first | exact hc | omega | (simpa using hc) | (simp at hc ⊢; omega)) h
  refine aE (aE (aD hF [0, 12] ?_))
  simp only [go_sem]
  refine aF (bK rfl (fun hc => ?_) (fun hc => ?_))
  ·try simp only [go_sem] at hc
   have h := fP (by first | exact hc | omega | (simpa using hc) | (simp at hc ⊢; omega)) h
   refine aE (aD hF [4] ?_)
   simp only [go_sem]
   obtain ⟨g0, h⟩ := aH h
   repeat (refine ⟨by first | with_reducible assumption | omega | (intros; first | assumption | omega) | (simp only [go_sem] at *; first | assumption | omega) | decide, ?_⟩)
   obtain rfl := Option.some.inj h
   refine aF (eP (bV (bV (fW hF [.tmp 4] rfl rfl rfl ?_))))
   (try simp only [lZ, aZ, go_sem]) <;> first | rfl | (simp; done)
  ·try simp only [go_sem] at hc
   have h := fQ (by first | exact hc | omega | (simpa using hc) | (simp at hc ⊢; omega)) h
   refine cG (aF (aE (cD hF [0, 5] ?_)))
   simp only [go_sem]
   refine aF (aE (aD hF [0, 5, 6] ?_))
   simp only [go_sem]
   obtain ⟨g0, h⟩ := aH h
   repeat (refine ⟨by first | with_reducible assumption | omega | (intros; first | assumption | omega) | (simp only [go_sem] at *; first | assumption | omega) | decide, ?_⟩)
   obtain ⟨g0, h⟩ := aH h
   obtain ⟨r_5, he1, h⟩ := bind_some h
   try dsimp only at h
   refine aF (aE (dL hF (iW (l := [(63, ⟨gQ, [0], ((0 : Nat), ((((aI i_0).getD (0 : Int)) - (0 : Int)).toNat), i_0, (List.replicate 24 (0 : Nat)), r_5)⟩)]) (.cons pA (by kernel_rfl) (.nil))) [5, 6] [19] ?_))
   simp only [go_sem]
   repeat (refine ⟨by first | with_reducible assumption | omega | (intros; first | assumption | omega) | (simp only [go_sem] at *; first | assumption | omega) | decide, ?_⟩)
   obtain ⟨g0, h⟩ := aH h
   obtain ⟨g1, h⟩ := aH h
   refine aF (aE (dL hF (iW (l := []) (.nil)) [4] [23] ?_))
   simp only [go_sem]
   repeat (refine ⟨by first | with_reducible assumption | omega | (intros; first | assumption | omega) | (simp only [go_sem] at *; first | assumption | omega) | decide, ?_⟩)
   obtain rfl := Option.some.inj h
   refine aF (eP (bV (fW hF [.tmp 4] rfl rfl rfl ?_)))
   (try simp only [lZ, aZ, go_sem]) <;> first | rfl | (simp; done)
 ·try simp only [go_sem] at hc
  have h := fQ (by first | exact hc | omega | (simpa using hc) | (simp at hc ⊢; omega)) h
  cases h
attribute [go_sem] iZ
noncomputable def dE (i_0 : Nat) (base_1 : Int) : Option (List Nat) :=
 ck (((fH i_0 base_1).isSome = true)) (some ((fH i_0 base_1).getD ([] : List Nat)))
def rO : PlR := ⟨[(0, .A [0, 1]), (1, .A [4])], []⟩
def tG : Ty := .pair (.u .u64) (.pair (.i .i64) .unit)
noncomputable def kL : aJ := mSpec tG (.one .str) (fun x => dE x.1 x.2.1)
noncomputable def tH : List (FuncId × aJ) := [(70, iZ)]
theorem aA3 : cB Tryd.prog GL tH := .cons zR (by kernel_rfl) (.nil)
theorem yF : gam tH 70 = some iZ := rfl
attribute [go_sem] tG rO yF
set_option maxHeartbeats 4000000 in
theorem aAm : FOK Tryd.prog GL 53 kL := by
 refine cE (bW aA3) mix Tryd.func53 rfl (by kernel_rfl) (by decide) rO fun w0 S x Θ hw h hF => ?_
 obtain ⟨(i_0 : Nat), (base_1 : Int), u⟩ := x
 simp only [cH, go_sem]
 replace h : sat (dE i_0 base_1) _ := h
 unfold dE at h
 refine aN h fun g0 h => ?_
 exact aK hF [.tmp 4] rfl rfl rfl (aB h) (by simp only [aZ, go_sem])
attribute [go_sem] kL
noncomputable def bD (x_0 : Nat) (y_1 : Nat) : Option (Nat × (Nat × Unit)) :=
 some (((bA x_0 y_1).1), (((bA x_0 y_1).2).1), ())
def aEk : PlR := ⟨[(0, .A [0, 1]), (3, .A [8, 9]), (4, .A [4, 5])], []⟩
def aGG : Ty := .pair (.u .u64) (.pair (.u .u64) .unit)
noncomputable def wR : aJ := mSpec aGG (.tup (.pair (.u .u64) (.pair (.u .u64) .unit))) (fun x => bD x.1 x.2.1)
noncomputable def aGH : List (FuncId × aJ) := [(47, jI)]
theorem aL6 : cB Tryd.prog GL aGH := .cons xF (by kernel_rfl) (.nil)
theorem aHF : gam aGH 47 = some jI := rfl
attribute [go_sem] aGG aEk aHF
set_option maxHeartbeats 4000000 in
theorem aK7 : FOK Tryd.prog GL 54 wR := by
 refine cE (bW aL6) mix Tryd.func54 rfl (by kernel_rfl) (by decide) aEk fun w0 S x Θ hw h hF => ?_
 obtain ⟨(x_0 : Nat), (y_1 : Nat), u⟩ := x
 simp only [cH, go_sem]
 replace h : sat (bD x_0 y_1) _ := h
 unfold bD at h
 exact aK hF [.tmp 4, .tmp 5] rfl rfl rfl (aB h) (by simp only [aZ, go_sem])
attribute [go_sem] wR
noncomputable def fJ (s_0 : (List Nat)) (prefix_1 : (List Nat)) : Option Bool :=
 ck ((((prefix_1.length : Int) ≤ (s_0.length : Int)) → (0 ≤ (prefix_1.length : Int) ∧ (prefix_1.length : Int) ≤ (s_0.length : Int)))) (some ((decide ((prefix_1.length : Int) ≤ (s_0.length : Int))) && (decide ((List.take (prefix_1.length) s_0) = prefix_1))))
def oT : PlR := ⟨[(0, .A [0, 1]), (1, .A [4])], []⟩
def pB : Ty := .pair .str (.pair .str .unit)
noncomputable def gG : aJ := mSpec pB (.one .bool) (fun x => fJ x.1 x.2.1)
noncomputable def xI : List (FuncId × aJ) := []
theorem xJ : cB Tryd.prog GL xI := .nil
attribute [go_sem] pB oT
set_option maxHeartbeats 4000000 in
theorem vZ : FOK Tryd.prog GL 72 gG := by
 refine cE (bW xJ) mix Tryd.func72 rfl (by kernel_rfl) (by decide) oT fun w0 S x Θ hw h hF => ?_
 obtain ⟨(s_0 : (List Nat)), (prefix_1 : (List Nat)), u⟩ := x
 simp only [cH, go_sem]
 replace h : sat (fJ s_0 prefix_1) _ := h
 unfold fJ at h
 refine aN h fun g0 h => ?_
 exact aK hF [.tmp 4] rfl rfl rfl (aB h) (by simp only [aZ, go_sem])
attribute [go_sem] gG
noncomputable def bF (s_0 : (List Nat)) (prefix_1 : (List Nat)) : Option Bool :=
 ck (((fJ s_0 prefix_1).isSome = true)) (some ((fJ s_0 prefix_1).getD false))
def tI : PlR := ⟨[(0, .A [0, 1]), (1, .A [4])], []⟩
def tW : Ty := .pair .str (.pair .str .unit)
noncomputable def kY : aJ := mSpec tW (.one .bool) (fun x => bF x.1 x.2.1)
noncomputable def tX : List (FuncId × aJ) := [(72, gG)]
theorem aBv : cB Tryd.prog GL tX := .cons vZ (by kernel_rfl) (.nil)
theorem zS : gam tX 72 = some gG := rfl
attribute [go_sem] tW tI zS
set_option maxHeartbeats 4000000 in
theorem aA4 : FOK Tryd.prog GL 55 kY := by
 refine cE (bW aBv) mix Tryd.func55 rfl (by kernel_rfl) (by decide) tI fun w0 S x Θ hw h hF => ?_
 obtain ⟨(s_0 : (List Nat)), (prefix_1 : (List Nat)), u⟩ := x
 simp only [cH, go_sem]
 replace h : sat (bF s_0 prefix_1) _ := h
 unfold bF at h
 refine aN h fun g0 h => ?_
 exact aK hF [.tmp 4] rfl rfl rfl (aB h) (by simp only [aZ, go_sem])
attribute [go_sem] kY
noncomputable def iP (chunkMax_4 : Int) : Option ((List Nat)) :=
 none
noncomputable def lW (s_0 : (List Nat)) (count_1 : Int) : Option ((List Nat)) :=
 if (8192 : Int) < (IntKind.i64.wrap ((((((bD (((s_0.length : Int) % (18446744073709551616 : Int)).toNat) ((count_1 % (18446744073709551616 : Int)).toNat)).getD ((0 : Nat), (0 : Nat), ())).2).1) : Nat) : Int)) then ck ((s_0.length : Int) ≠ 0) (ck (I64 (Int.tdiv (8192 : Int) (s_0.length : Int))) (ck (I64 ((Int.tdiv (8192 : Int) (s_0.length : Int)) * (s_0.length : Int))) (if ((Int.tdiv (8192 : Int) (s_0.length : Int)) * (s_0.length : Int)) = (0 : Int) then iP (s_0.length : Int) else iP ((Int.tdiv (8192 : Int) (s_0.length : Int)) * (s_0.length : Int))))) else iP (IntKind.i64.wrap ((((((bD (((s_0.length : Int) % (18446744073709551616 : Int)).toNat) ((count_1 % (18446744073709551616 : Int)).toNat)).getD ((0 : Nat), (0 : Nat), ())).2).1) : Nat) : Int))
noncomputable def dN (s_0 : (List Nat)) (count_1 : Int) (x43_5 : Bool) : Option ((List Nat)) :=
 if x43_5 = true then ck ((((IntKind.i64.wrap ((((((bD (((s_0.length : Int) % (18446744073709551616 : Int)).toNat) ((count_1 % (18446744073709551616 : Int)).toNat)).getD ((0 : Nat), (0 : Nat), ())).2).1) : Nat) : Int)) ≤ (128 : Int)) → (((bF (aX sC) s_0).isSome = true)))) (if ((IntKind.i64.wrap ((((((bD (((s_0.length : Int) % (18446744073709551616 : Int)).toNat) ((count_1 % (18446744073709551616 : Int)).toNat)).getD ((0 : Nat), (0 : Nat), ())).2).1) : Nat) : Int)) ≤ (128 : Int)) ∧ (((bF (aX sC) s_0).getD false) = true) then ck (0 ≤ (IntKind.i64.wrap ((((((bD (((s_0.length : Int) % (18446744073709551616 : Int)).toNat) ((count_1 % (18446744073709551616 : Int)).toNat)).getD ((0 : Nat), (0 : Nat), ())).2).1) : Nat) : Int)) ∧ (IntKind.i64.wrap ((((((bD (((s_0.length : Int) % (18446744073709551616 : Int)).toNat) ((count_1 % (18446744073709551616 : Int)).toNat)).getD ((0 : Nat), (0 : Nat), ())).2).1) : Nat) : Int)) ≤ ((((aX sC).length) : Nat) : Int)) (some (List.take ((IntKind.i64.wrap ((((((bD (((s_0.length : Int) % (18446744073709551616 : Int)).toNat) ((count_1 % (18446744073709551616 : Int)).toNat)).getD ((0 : Nat), (0 : Nat), ())).2).1) : Nat) : Int)).toNat) (aX sC))) else ck ((((IntKind.i64.wrap ((((((bD (((s_0.length : Int) % (18446744073709551616 : Int)).toNat) ((count_1 % (18446744073709551616 : Int)).toNat)).getD ((0 : Nat), (0 : Nat), ())).2).1) : Nat) : Int)) ≤ (128 : Int)) → (((bF (aX sB) s_0).isSome = true)))) (if ((IntKind.i64.wrap ((((((bD (((s_0.length : Int) % (18446744073709551616 : Int)).toNat) ((count_1 % (18446744073709551616 : Int)).toNat)).getD ((0 : Nat), (0 : Nat), ())).2).1) : Nat) : Int)) ≤ (128 : Int)) ∧ (((bF (aX sB) s_0).getD false) = true) then ck (0 ≤ (IntKind.i64.wrap ((((((bD (((s_0.length : Int) % (18446744073709551616 : Int)).toNat) ((count_1 % (18446744073709551616 : Int)).toNat)).getD ((0 : Nat), (0 : Nat), ())).2).1) : Nat) : Int)) ∧ (IntKind.i64.wrap ((((((bD (((s_0.length : Int) % (18446744073709551616 : Int)).toNat) ((count_1 % (18446744073709551616 : Int)).toNat)).getD ((0 : Nat), (0 : Nat), ())).2).1) : Nat) : Int)) ≤ ((((aX sB).length) : Nat) : Int)) (some (List.take ((IntKind.i64.wrap ((((((bD (((s_0.length : Int) % (18446744073709551616 : Int)).toNat) ((count_1 % (18446744073709551616 : Int)).toNat)).getD ((0 : Nat), (0 : Nat), ())).2).1) : Nat) : Int)).toNat) (aX sB))) else ck ((((IntKind.i64.wrap ((((((bD (((s_0.length : Int) % (18446744073709551616 : Int)).toNat) ((count_1 % (18446744073709551616 : Int)).toNat)).getD ((0 : Nat), (0 : Nat), ())).2).1) : Nat) : Int)) ≤ (64 : Int)) → (((bF (aX pM) s_0).isSome = true)))) (if ((IntKind.i64.wrap ((((((bD (((s_0.length : Int) % (18446744073709551616 : Int)).toNat) ((count_1 % (18446744073709551616 : Int)).toNat)).getD ((0 : Nat), (0 : Nat), ())).2).1) : Nat) : Int)) ≤ (64 : Int)) ∧ (((bF (aX pM) s_0).getD false) = true) then ck (0 ≤ (IntKind.i64.wrap ((((((bD (((s_0.length : Int) % (18446744073709551616 : Int)).toNat) ((count_1 % (18446744073709551616 : Int)).toNat)).getD ((0 : Nat), (0 : Nat), ())).2).1) : Nat) : Int)) ∧ (IntKind.i64.wrap ((((((bD (((s_0.length : Int) % (18446744073709551616 : Int)).toNat) ((count_1 % (18446744073709551616 : Int)).toNat)).getD ((0 : Nat), (0 : Nat), ())).2).1) : Nat) : Int)) ≤ ((((aX pM).length) : Nat) : Int)) (some (List.take ((IntKind.i64.wrap ((((((bD (((s_0.length : Int) % (18446744073709551616 : Int)).toNat) ((count_1 % (18446744073709551616 : Int)).toNat)).getD ((0 : Nat), (0 : Nat), ())).2).1) : Nat) : Int)).toNat) (aX pM))) else ck ((((IntKind.i64.wrap ((((((bD (((s_0.length : Int) % (18446744073709551616 : Int)).toNat) ((count_1 % (18446744073709551616 : Int)).toNat)).getD ((0 : Nat), (0 : Nat), ())).2).1) : Nat) : Int)) ≤ (128 : Int)) → (((bF (aX vU) s_0).isSome = true)))) (if ((IntKind.i64.wrap ((((((bD (((s_0.length : Int) % (18446744073709551616 : Int)).toNat) ((count_1 % (18446744073709551616 : Int)).toNat)).getD ((0 : Nat), (0 : Nat), ())).2).1) : Nat) : Int)) ≤ (128 : Int)) ∧ (((bF (aX vU) s_0).getD false) = true) then ck (0 ≤ (IntKind.i64.wrap ((((((bD (((s_0.length : Int) % (18446744073709551616 : Int)).toNat) ((count_1 % (18446744073709551616 : Int)).toNat)).getD ((0 : Nat), (0 : Nat), ())).2).1) : Nat) : Int)) ∧ (IntKind.i64.wrap ((((((bD (((s_0.length : Int) % (18446744073709551616 : Int)).toNat) ((count_1 % (18446744073709551616 : Int)).toNat)).getD ((0 : Nat), (0 : Nat), ())).2).1) : Nat) : Int)) ≤ ((((aX vU).length) : Nat) : Int)) (some (List.take ((IntKind.i64.wrap ((((((bD (((s_0.length : Int) % (18446744073709551616 : Int)).toNat) ((count_1 % (18446744073709551616 : Int)).toNat)).getD ((0 : Nat), (0 : Nat), ())).2).1) : Nat) : Int)).toNat) (aX vU))) else ck ((((IntKind.i64.wrap ((((((bD (((s_0.length : Int) % (18446744073709551616 : Int)).toNat) ((count_1 % (18446744073709551616 : Int)).toNat)).getD ((0 : Nat), (0 : Nat), ())).2).1) : Nat) : Int)) ≤ (64 : Int)) → (((bF (aX vV) s_0).isSome = true)))) (if ((IntKind.i64.wrap ((((((bD (((s_0.length : Int) % (18446744073709551616 : Int)).toNat) ((count_1 % (18446744073709551616 : Int)).toNat)).getD ((0 : Nat), (0 : Nat), ())).2).1) : Nat) : Int)) ≤ (64 : Int)) ∧ (((bF (aX vV) s_0).getD false) = true) then ck (0 ≤ (IntKind.i64.wrap ((((((bD (((s_0.length : Int) % (18446744073709551616 : Int)).toNat) ((count_1 % (18446744073709551616 : Int)).toNat)).getD ((0 : Nat), (0 : Nat), ())).2).1) : Nat) : Int)) ∧ (IntKind.i64.wrap ((((((bD (((s_0.length : Int) % (18446744073709551616 : Int)).toNat) ((count_1 % (18446744073709551616 : Int)).toNat)).getD ((0 : Nat), (0 : Nat), ())).2).1) : Nat) : Int)) ≤ ((((aX vV).length) : Nat) : Int)) (some (List.take ((IntKind.i64.wrap ((((((bD (((s_0.length : Int) % (18446744073709551616 : Int)).toNat) ((count_1 % (18446744073709551616 : Int)).toNat)).getD ((0 : Nat), (0 : Nat), ())).2).1) : Nat) : Int)).toNat) (aX vV))) else lW s_0 count_1))))) else lW s_0 count_1
noncomputable def aL (s_0 : (List Nat)) (count_1 : Int) : Option (List Nat) :=
 if count_1 = (0 : Int) then some (aX ⟨#[]⟩) else if count_1 = (1 : Int) then some s_0 else if count_1 < (0 : Int) then none else ck (((bD (((s_0.length : Int) % (18446744073709551616 : Int)).toNat) ((count_1 % (18446744073709551616 : Int)).toNat)).isSome = true)) (if ((0 : Nat) < (((bD (((s_0.length : Int) % (18446744073709551616 : Int)).toNat) ((count_1 % (18446744073709551616 : Int)).toNat)).getD ((0 : Nat), (0 : Nat), ())).1)) ∨ ((9223372036854775807 : Nat) < ((((bD (((s_0.length : Int) % (18446744073709551616 : Int)).toNat) ((count_1 % (18446744073709551616 : Int)).toNat)).getD ((0 : Nat), (0 : Nat), ())).2).1)) then none else if (s_0.length : Int) = (0 : Int) then some (aX ⟨#[]⟩) else ck ((0 : Int) < (s_0.length : Int)) (if (s_0.getD (0 : Nat) (0 : Nat)) = (32 : Nat) then dN s_0 count_1 (decide ((s_0.getD (0 : Nat) (0 : Nat)) = (32 : Nat))) else if (s_0.getD (0 : Nat) (0 : Nat)) = (45 : Nat) then dN s_0 count_1 (decide ((s_0.getD (0 : Nat) (0 : Nat)) = (45 : Nat))) else if (s_0.getD (0 : Nat) (0 : Nat)) = (48 : Nat) then dN s_0 count_1 (decide ((s_0.getD (0 : Nat) (0 : Nat)) = (48 : Nat))) else if (s_0.getD (0 : Nat) (0 : Nat)) = (61 : Nat) then dN s_0 count_1 (decide ((s_0.getD (0 : Nat) (0 : Nat)) = (61 : Nat))) else dN s_0 count_1 (decide ((s_0.getD (0 : Nat) (0 : Nat)) = (9 : Nat)))))
def oO : Ty := .pair .str (.pair (.i .i64) .unit)
attribute [go_sem] oO
noncomputable def iC : aJ := mSpec oO (.one .str) (fun x => aL x.1 x.2.1)
noncomputable def oP : List (FuncId × aJ) := [(54, wR), (55, kY)]
theorem yG : cB Tryd.prog GL oP := .cons aK7 (by kernel_rfl) (.cons aA4 (by kernel_rfl) (.nil))
theorem aBw : gam oP 54 = some wR := rfl
attribute [go_sem] aBw
theorem aBx : gam oP 55 = some kY := rfl
attribute [go_sem] aBx
set_option maxHeartbeats 4000000 in
theorem wS : FOK Tryd.prog GL 37 iC := by
 refine rY (bW yG) Tryd.func37 rfl (by kernel_rfl) (by decide) fun w0 S x r hw h => ?_
 have hF : rD (fr Tryd.prog (EM oP) S w0 Tryd.f37.ntmps) := ⟨bW yG, mix⟩
 obtain ⟨(s_0 : (List Nat)), (count_1 : Int), u⟩ := x
 simp only [oO, Ty.wf, rS] at hw
 simp only [cH, oO]
 try dsimp only at h
 unfold aL at h
 refine aE (aD hF [0, 1] ?_)
 simp only [go_sem]
 refine aF (aE (aE (aD hF [0, 1, 11] ?_)))
 simp only [go_sem]
 refine aF (dF (aE (aD hF [0, 1, 11, 12] ?_)))
 simp only [go_sem]
 refine aF (bK rfl (fun hc => ?_) (fun hc => ?_))
 ·try simp only [go_sem] at hc
  have h := fP (by first | exact hc | omega | (simpa using hc) | (simp at hc ⊢; omega)) h
  refine aE (aD hF [4] ?_)
  simp only [go_sem]
  obtain rfl := Option.some.inj h
  refine aF (eP (dQ (bV (fW hF [.tmp 4] rfl rfl rfl ?_))))
  (try simp only [lZ, aZ, go_sem]) <;> first | rfl | (simp; done)
 ·try simp only [go_sem] at hc
  have h := fQ (by first | exact hc | omega | (simpa using hc) | (simp at hc ⊢; omega)) h
  refine aE (aD hF [0, 1, 14] ?_)
  simp only [go_sem]
  refine aF (bK rfl (fun hc => ?_) (fun hc => ?_))
  ·try simp only [go_sem] at hc
   have h := fP (by first | exact hc | omega | (simpa using hc) | (simp at hc ⊢; omega)) h
   refine aE (aD hF [4] ?_)
   simp only [go_sem]
   obtain rfl := Option.some.inj h
   refine aF (eP (dQ (bV (fW hF [.tmp 4] rfl rfl rfl ?_))))
   (try simp only [lZ, aZ, go_sem]) <;> first | rfl | (simp; done)
  ·try simp only [go_sem] at hc
   have h := fQ (by first | exact hc | omega | (simpa using hc) | (simp at hc ⊢; omega)) h
   refine cG (eH (aF (aE (aE (aD hF [0, 1, 18] ?_)))))
   simp only [go_sem]
   refine aF (bK rfl (fun hc => ?_) (fun hc => ?_))
   ·try simp only [go_sem] at hc
    have h := fP (by first | exact hc | omega | (simpa using hc) | (simp at hc ⊢; omega)) h
    cases h
   ·try simp only [go_sem] at hc
    have h := fQ (by first | exact hc | omega | (simpa using hc) | (simp at hc ⊢; omega)) h
    refine cG (aF (aE (aD hF [0, 5, 6] ?_)))
    simp only [go_sem]
    obtain ⟨g0, h⟩ := aH h
    repeat (refine ⟨by first | with_reducible assumption | omega | (intros; first | assumption | omega) | (simp only [go_sem] at *; first | assumption | omega) | decide, ?_⟩)
    refine aF (aE (aE (aD hF [0, 6, 34] ?_)))
    simp only [go_sem]
    refine aF (bK rfl (fun hc => ?_) (fun hc => ?_))
    ·try simp only [go_sem] at hc
     have h := fP (by first | exact hc | omega | (simpa using hc) | (simp at hc ⊢; omega)) h
     cases h
    ·try simp only [go_sem] at hc
     have h := fQ (by first | exact hc | omega | (simpa using hc) | (simp at hc ⊢; omega)) h
     refine cG (aF (aE (aD hF [0, 7] ?_)))
     simp only [go_sem]
     refine aF (aE (aE (aD hF [0, 7, 40] ?_)))
     simp only [go_sem]
     refine aF (bK rfl (fun hc => ?_) (fun hc => ?_))
     ·try simp only [go_sem] at hc
      have h := fP (by first | exact hc | omega | (simpa using hc) | (simp at hc ⊢; omega)) h
      refine aE (aD hF [4] ?_)
      simp only [go_sem]
      obtain rfl := Option.some.inj h
      refine aF (eP (bV (fW hF [.tmp 4] rfl rfl rfl ?_)))
      (try simp only [lZ, aZ, go_sem]) <;> first | rfl | (simp; done)
     ·try simp only [go_sem] at hc
      have h := fQ (by first | exact hc | omega | (simpa using hc) | (simp at hc ⊢; omega)) h
      refine cG (aF (nL (D := Unit) (fun d => lW s_0 count_1 = some r) [0, 7] (fun d => []) (fun d => []) ?_ ?_))
      ·refine aE (aD hF [0, 7, 42] ?_)
       simp only [go_sem]
       obtain ⟨g0, h⟩ := aH h
       repeat (refine ⟨by first | with_reducible assumption | omega | (intros; first | assumption | omega) | (simp only [go_sem] at *; first | assumption | omega) | decide, ?_⟩)
       refine aF (dF (nL (D := Bool) (fun d => dN s_0 count_1 d = some r) [0, 7] (fun d => [(43, .val .bool d)]) (fun d => []) ?_ ?_))
       ·refine aE (aD hF [0, 7, 42, 43] ?_)
        simp only [go_sem]
        refine aF (bK rfl (fun hc => ?_) (fun hc => ?_))
        ·try simp only [go_sem] at hc
         have h := fP (by first | exact hc | omega | (simpa using hc) | (simp at hc ⊢; omega)) h
         refine cG (bC (aY ((decide ((s_0.getD (0 : Nat) (0 : Nat)) = (32 : Nat)))) h rfl ?_))
         ·(try simp only [kW, gY, true_or, and_self, go_sem]) <;> (repeat' apply And.intro) <;> first | rfl | (left; rfl) | (right; rfl) | (left; simp only [go_sem]; done) | (right; simp only [go_sem]; done) | (simp; done) | (simp only [*]; done) | omega
        ·try simp only [go_sem] at hc
         have h := fQ (by first | exact hc | omega | (simpa using hc) | (simp at hc ⊢; omega)) h
         refine aE (aD hF [0, 7, 42, 43] ?_)
         simp only [go_sem]
         refine aF (bK rfl (fun hc => ?_) (fun hc => ?_))
         ·try simp only [go_sem] at hc
          have h := fP (by first | exact hc | omega | (simpa using hc) | (simp at hc ⊢; omega)) h
          refine cG (bC (aY ((decide ((s_0.getD (0 : Nat) (0 : Nat)) = (45 : Nat)))) h rfl ?_))
          ·(try simp only [kW, gY, true_or, and_self, go_sem]) <;> (repeat' apply And.intro) <;> first | rfl | (left; rfl) | (right; rfl) | (left; simp only [go_sem]; done) | (right; simp only [go_sem]; done) | (simp; done) | (simp only [*]; done) | omega
         ·try simp only [go_sem] at hc
          have h := fQ (by first | exact hc | omega | (simpa using hc) | (simp at hc ⊢; omega)) h
          refine aE (aD hF [0, 7, 42, 43] ?_)
          simp only [go_sem]
          refine aF (bK rfl (fun hc => ?_) (fun hc => ?_))
          ·try simp only [go_sem] at hc
           have h := fP (by first | exact hc | omega | (simpa using hc) | (simp at hc ⊢; omega)) h
           refine cG (bC (aY ((decide ((s_0.getD (0 : Nat) (0 : Nat)) = (48 : Nat)))) h rfl ?_))
           ·(try simp only [kW, gY, true_or, and_self, go_sem]) <;> (repeat' apply And.intro) <;> first | rfl | (left; rfl) | (right; rfl) | (left; simp only [go_sem]; done) | (right; simp only [go_sem]; done) | (simp; done) | (simp only [*]; done) | omega
          ·try simp only [go_sem] at hc
           have h := fQ (by first | exact hc | omega | (simpa using hc) | (simp at hc ⊢; omega)) h
           refine aE (aD hF [0, 7, 42, 43] ?_)
           simp only [go_sem]
           refine aF (bK rfl (fun hc => ?_) (fun hc => ?_))
           ·try simp only [go_sem] at hc
            have h := fP (by first | exact hc | omega | (simpa using hc) | (simp at hc ⊢; omega)) h
            refine cG (bC (aY ((decide ((s_0.getD (0 : Nat) (0 : Nat)) = (61 : Nat)))) h rfl ?_))
            ·(try simp only [kW, gY, true_or, and_self, go_sem]) <;> (repeat' apply And.intro) <;> first | rfl | (left; rfl) | (right; rfl) | (left; simp only [go_sem]; done) | (right; simp only [go_sem]; done) | (simp; done) | (simp only [*]; done) | omega
           ·try simp only [go_sem] at hc
            have h := fQ (by first | exact hc | omega | (simpa using hc) | (simp at hc ⊢; omega)) h
            refine aD hF [0, 7, 43] ?_
            simp only [go_sem]
            refine bC (aY ((decide ((s_0.getD (0 : Nat) (0 : Nat)) = (9 : Nat)))) h rfl ?_)
            ·(try simp only [kW, gY, true_or, and_self, go_sem]) <;> (repeat' apply And.intro) <;> first | rfl | (left; rfl) | (right; rfl) | (left; simp only [go_sem]; done) | (right; simp only [go_sem]; done) | (simp; done) | (simp only [*]; done) | omega
       ·rintro x43_5 h
        try dsimp only at h
        simp only [go_sem]
        unfold dN at h
        refine bK rfl (fun hc => ?_) (fun hc => ?_)
        ·try simp only [go_sem] at hc
         have h := fP (by first | exact hc | omega | (simpa using hc) | (simp at hc ⊢; omega)) h
         refine dF (aE (aD hF [0, 7, 49] ?_))
         simp only [go_sem]
         obtain ⟨g0, h⟩ := aH h
         repeat (refine ⟨by first | with_reducible assumption | omega | (intros; first | assumption | omega) | (simp only [go_sem] at *; first | assumption | omega) | (intro q0; (try have e0 := g0 (by first | exact q0 | omega | (simpa using q0))); first | assumption | omega) | decide, ?_⟩)
         refine aF (bK rfl (fun hc => ?_) (fun hc => ?_))
         ·try simp only [go_sem] at hc
          have h := fP (by first | exact hc | omega | (simpa using hc) | (simp at hc ⊢; omega)) h
          refine aE (aD hF [4] ?_)
          simp only [go_sem]
          obtain ⟨g0, h⟩ := aH h
          repeat (refine ⟨by first | with_reducible assumption | omega | (intros; first | assumption | omega) | (simp only [go_sem] at *; first | assumption | omega) | decide, ?_⟩)
          obtain rfl := Option.some.inj h
          refine aF (eP (dQ (dQ (bV (fW hF [.tmp 4] rfl rfl rfl ?_)))))
          (try simp only [lZ, aZ, go_sem]) <;> first | rfl | (simp; done)
         ·try simp only [go_sem] at hc
          have h := fQ (by first | exact hc | omega | (simpa using hc) | (simp at hc ⊢; omega)) h
          refine aE (aD hF [0, 7, 58] ?_)
          simp only [go_sem]
          obtain ⟨g0, h⟩ := aH h
          repeat (refine ⟨by first | with_reducible assumption | omega | (intros; first | assumption | omega) | (simp only [go_sem] at *; first | assumption | omega) | (intro q0; (try have e0 := g0 (by first | exact q0 | omega | (simpa using q0))); first | assumption | omega) | decide, ?_⟩)
          refine aF (bK rfl (fun hc => ?_) (fun hc => ?_))
          ·try simp only [go_sem] at hc
           have h := fP (by first | exact hc | omega | (simpa using hc) | (simp at hc ⊢; omega)) h
           refine aE (aD hF [4] ?_)
           simp only [go_sem]
           obtain ⟨g0, h⟩ := aH h
           repeat (refine ⟨by first | with_reducible assumption | omega | (intros; first | assumption | omega) | (simp only [go_sem] at *; first | assumption | omega) | decide, ?_⟩)
           obtain rfl := Option.some.inj h
           refine aF (eP (dQ (dQ (bV (fW hF [.tmp 4] rfl rfl rfl ?_)))))
           (try simp only [lZ, aZ, go_sem]) <;> first | rfl | (simp; done)
          ·try simp only [go_sem] at hc
           have h := fQ (by first | exact hc | omega | (simpa using hc) | (simp at hc ⊢; omega)) h
           refine aE (aD hF [0, 7, 67] ?_)
           simp only [go_sem]
           obtain ⟨g0, h⟩ := aH h
           repeat (refine ⟨by first | with_reducible assumption | omega | (intros; first | assumption | omega) | (simp only [go_sem] at *; first | assumption | omega) | (intro q0; (try have e0 := g0 (by first | exact q0 | omega | (simpa using q0))); first | assumption | omega) | decide, ?_⟩)
           refine aF (bK rfl (fun hc => ?_) (fun hc => ?_))
           ·try simp only [go_sem] at hc
            have h := fP (by first | exact hc | omega | (simpa using hc) | (simp at hc ⊢; omega)) h
            refine aE (aD hF [4] ?_)
            simp only [go_sem]
            obtain ⟨g0, h⟩ := aH h
            repeat (refine ⟨by first | with_reducible assumption | omega | (intros; first | assumption | omega) | (simp only [go_sem] at *; first | assumption | omega) | decide, ?_⟩)
            obtain rfl := Option.some.inj h
            refine aF (eP (dQ (dQ (bV (fW hF [.tmp 4] rfl rfl rfl ?_)))))
            (try simp only [lZ, aZ, go_sem]) <;> first | rfl | (simp; done)
           ·try simp only [go_sem] at hc
            have h := fQ (by first | exact hc | omega | (simpa using hc) | (simp at hc ⊢; omega)) h
            refine aE (aD hF [0, 7, 76] ?_)
            simp only [go_sem]
            obtain ⟨g0, h⟩ := aH h
            repeat (refine ⟨by first | with_reducible assumption | omega | (intros; first | assumption | omega) | (simp only [go_sem] at *; first | assumption | omega) | (intro q0; (try have e0 := g0 (by first | exact q0 | omega | (simpa using q0))); first | assumption | omega) | decide, ?_⟩)
            refine aF (bK rfl (fun hc => ?_) (fun hc => ?_))
            ·try simp only [go_sem] at hc
             have h := fP (by first | exact hc | omega | (simpa using hc) | (simp at hc ⊢; omega)) h
             refine aE (aD hF [4] ?_)
             simp only [go_sem]
             obtain ⟨g0, h⟩ := aH h
             repeat (refine ⟨by first | with_reducible assumption | omega | (intros; first | assumption | omega) | (simp only [go_sem] at *; first | assumption | omega) | decide, ?_⟩)
             obtain rfl := Option.some.inj h
             refine aF (eP (dQ (dQ (bV (fW hF [.tmp 4] rfl rfl rfl ?_)))))
             (try simp only [lZ, aZ, go_sem]) <;> first | rfl | (simp; done)
            ·try simp only [go_sem] at hc
             have h := fQ (by first | exact hc | omega | (simpa using hc) | (simp at hc ⊢; omega)) h
             refine aE (aD hF [0, 7, 85] ?_)
             simp only [go_sem]
             obtain ⟨g0, h⟩ := aH h
             repeat (refine ⟨by first | with_reducible assumption | omega | (intros; first | assumption | omega) | (simp only [go_sem] at *; first | assumption | omega) | (intro q0; (try have e0 := g0 (by first | exact q0 | omega | (simpa using q0))); first | assumption | omega) | decide, ?_⟩)
             refine aF (bK rfl (fun hc => ?_) (fun hc => ?_))
             ·try simp only [go_sem] at hc
              have h := fP (by first | exact hc | omega | (simpa using hc) | (simp at hc ⊢; omega)) h
              refine aE (aD hF [4] ?_)
              simp only [go_sem]
              obtain ⟨g0, h⟩ := aH h
              repeat (refine ⟨by first | with_reducible assumption | omega | (intros; first | assumption | omega) | (simp only [go_sem] at *; first | assumption | omega) | decide, ?_⟩)
              obtain rfl := Option.some.inj h
              refine aF (eP (dQ (dQ (bV (fW hF [.tmp 4] rfl rfl rfl ?_)))))
              (try simp only [lZ, aZ, go_sem]) <;> first | rfl | (simp; done)
             ·try simp only [go_sem] at hc
              have h := fQ (by first | exact hc | omega | (simpa using hc) | (simp at hc ⊢; omega)) h
              refine cG (eH (eH (bC (aY (()) h rfl ?_))))
              ·(try simp only [kW, gY, true_or, and_self, go_sem]) <;> (repeat' apply And.intro) <;> first | rfl | (left; rfl) | (right; rfl) | (left; simp only [go_sem]; done) | (right; simp only [go_sem]; done) | (simp; done) | (simp only [*]; done) | omega
        ·try simp only [go_sem] at hc
         have h := fQ (by first | exact hc | omega | (simpa using hc) | (simp at hc ⊢; omega)) h
         refine cG (eH (bC (aY (()) h rfl ?_)))
         ·(try simp only [kW, gY, true_or, and_self, go_sem]) <;> (repeat' apply And.intro) <;> first | rfl | (left; rfl) | (right; rfl) | (left; simp only [go_sem]; done) | (right; simp only [go_sem]; done) | (simp; done) | (simp only [*]; done) | omega
      ·rintro u h
       try dsimp only at h
       simp only [go_sem]
       unfold lW at h
       refine aE (aD hF [0, 7, 8] ?_)
       simp only [go_sem]
       refine aF (nL (D := Int) (fun d => iP d = some r) [0, 7] (fun d => [(8, .val (.i .i64) d)]) (fun d => []) ?_ ?_)
       ·refine aE (aD hF [0, 7, 8, 96] ?_)
        simp only [go_sem]
        refine aF (bK rfl (fun hc => ?_) (fun hc => ?_))
        ·try simp only [go_sem] at hc
         have h := fP (by first | exact hc | omega | (simpa using hc) | (simp at hc ⊢; omega)) h
         refine aE (aD hF [0, 7, 8] ?_)
         simp only [go_sem]
         obtain ⟨g0, h⟩ := aH h
         obtain ⟨g1, h⟩ := aH h
         obtain ⟨g2, h⟩ := aH h
         try simp only [I64, I32] at g1
         try simp only [I64, I32] at g2
         repeat (refine ⟨by first | with_reducible assumption | omega | (intros; first | assumption | omega) | (simp only [go_sem] at *; first | assumption | omega) | decide, ?_⟩)
         refine aF (aE (aD hF [0, 7, 8, 104] ?_))
         simp only [go_sem]
         refine aF (bK rfl (fun hc => ?_) (fun hc => ?_))
         ·try simp only [go_sem] at hc
          have h := fP (by first | exact hc | omega | (simpa using hc) | (simp at hc ⊢; omega)) h
          refine aD hF [0, 7, 8] ?_
          simp only [go_sem]
          refine bC (aY ((s_0.length : Int)) h rfl ?_)
          ·(try simp only [kW, gY, true_or, and_self, go_sem]) <;> (repeat' apply And.intro) <;> first | rfl | (left; rfl) | (right; rfl) | (left; simp only [go_sem]; done) | (right; simp only [go_sem]; done) | (simp; done) | (simp only [*]; done) | omega
         ·try simp only [go_sem] at hc
          have h := fQ (by first | exact hc | omega | (simpa using hc) | (simp at hc ⊢; omega)) h
          refine cG (bC (aY (((Int.tdiv (8192 : Int) (s_0.length : Int)) * (s_0.length : Int))) h rfl ?_))
          ·(try simp only [kW, gY, true_or, and_self, go_sem]) <;> (repeat' apply And.intro) <;> first | rfl | (left; rfl) | (right; rfl) | (left; simp only [go_sem]; done) | (right; simp only [go_sem]; done) | (simp; done) | (simp only [*]; done) | omega
        ·try simp only [go_sem] at hc
         have h := fQ (by first | exact hc | omega | (simpa using hc) | (simp at hc ⊢; omega)) h
         refine cG (bC (aY ((IntKind.i64.wrap ((((((bD (((s_0.length : Int) % (18446744073709551616 : Int)).toNat) ((count_1 % (18446744073709551616 : Int)).toNat)).getD ((0 : Nat), (0 : Nat), ())).2).1) : Nat) : Int))) h rfl ?_))
         ·(try simp only [kW, gY, true_or, and_self, go_sem]) <;> (repeat' apply And.intro) <;> first | rfl | (left; rfl) | (right; rfl) | (left; simp only [go_sem]; done) | (right; simp only [go_sem]; done) | (simp; done) | (simp only [*]; done) | omega
       ·rintro chunkMax_4 h
        try dsimp only at h
        simp only [go_sem]
        unfold iP at h
        refine aE (cD hF [0, 7, 8, 9] ?_)
        simp only [go_sem]
        refine aPj 0 4294967355 5 rfl ?_
        simp only [go_sem]
        cases h
attribute [go_sem] iC
end Nu
end Go.Proofs
namespace Go.Proofs
open Go.Vc
set_option maxRecDepth 20000
namespace Nu
noncomputable def kA (l_8 : (List (List Nat))) (out_13 : (List Nat)) (x44_14 : Int) : Option (((List Nat) × Int) ⊕ (((List Nat)))) :=
 if x44_14 < (l_8.length : Int) then ck (0 ≤ x44_14 ∧ x44_14 < (l_8.length : Int)) (ck (((l_8.getD (x44_14.toNat) ([] : List Nat)).length) + (out_13.length) ≤ 9223372036854775807) (ck (I64 (x44_14 + (1 : Int))) (some (.inl (((l_8.getD (x44_14.toNat) ([] : List Nat)) ++ out_13), (x44_14 + (1 : Int))))))) else some (.inr out_13)
noncomputable def nO (l_8 : (List (List Nat))) : Option ((List Nat)) :=
 (cX (fun d : (List Nat) × Int => kA l_8 d.1 d.2) ((aX ⟨#[]⟩), (0 : Int))).bind (fun e => some e)
noncomputable def gR (l_20 : (List (List Nat))) (m_19 : (List Nat)) (s_25 : (List Nat)) : Option (((List Nat) × (List (List Nat))) ⊕ (((List (List Nat))))) :=
 ck (((l_20.length) + (1 : Nat)) * 16 ≤ 140737488355328) (if (((((dG m_19 ([1000000000000000000] : List Nat)).1).length) : Nat) : Int) = (0 : Int) then some (.inr (l_20 ++ ([s_25] : List (List Nat)))) else ck (I64 (((((l_20 ++ ([s_25] : List (List Nat))).length) : Nat) : Int) - (1 : Int))) (ck (I64 ((18 : Int) - (s_25.length : Int))) (ck (((aL (aX ⟨#[48]⟩) ((18 : Int) - (s_25.length : Int))).isSome = true)) (ck ((((aL (aX ⟨#[48]⟩) ((18 : Int) - (s_25.length : Int))).getD ([] : List Nat)).length) + (s_25.length) ≤ 9223372036854775807) (ck (0 ≤ (((((l_20 ++ ([s_25] : List (List Nat))).length) : Nat) : Int) - (1 : Int)) ∧ (((((l_20 ++ ([s_25] : List (List Nat))).length) : Nat) : Int) - (1 : Int)) < ((((l_20 ++ ([s_25] : List (List Nat))).length) : Nat) : Int)) (some (.inl (((dG m_19 ([1000000000000000000] : List Nat)).1), ((l_20 ++ ([s_25] : List (List Nat))).set ((((((l_20 ++ ([s_25] : List (List Nat))).length) : Nat) : Int) - (1 : Int)).toNat) (((aL (aX ⟨#[48]⟩) ((18 : Int) - (s_25.length : Int))).getD ([] : List Nat)) ++ s_25))))))))))
noncomputable def jJ (m_19 : (List Nat)) (l_20 : (List (List Nat))) : Option (((List Nat) × (List (List Nat))) ⊕ (((List (List Nat))))) :=
 ck ((uI m_19 ([1000000000000000000] : List Nat))) (if (0 : Int) < ((((((dG m_19 ([1000000000000000000] : List Nat)).2).1).length) : Nat) : Int) then ck ((0 : Int) < ((((((dG m_19 ([1000000000000000000] : List Nat)).2).1).length) : Nat) : Int)) (ck (((dE ((((dG m_19 ([1000000000000000000] : List Nat)).2).1).getD (0 : Nat) (0 : Nat)) (10 : Int)).isSome = true)) (gR l_20 m_19 ((dE ((((dG m_19 ([1000000000000000000] : List Nat)).2).1).getD (0 : Nat) (0 : Nat)) (10 : Int)).getD ([] : List Nat)))) else gR l_20 m_19 (aX ⟨#[]⟩))
noncomputable def aO (m_0 : (List Nat)) : Option (List Nat) :=
 (cX (fun d : (List Nat) × (List (List Nat)) => jJ d.1 d.2) (m_0, ([] : List (List Nat)))).bind (fun e => nO e)
def aEl : PlR := ⟨[(0, .A [0]), (1, .A [0, 3]), (2, .A [3, 4, 5]), (3, .A [3, 4, 5, 6]), (4, .A [3, 4, 5, 6, 18]), (5, .A [3, 4, 6]), (6, .B [3, 4, 6]), (7, .A [0, 3, 6]), (8, .A [0, 3, 6, 30]), (9, .B [0, 3]), (10, .A [3, 7]), (11, .A [7, 42, 43, 44]), (12, .A [7, 42, 43, 44, 45]), (13, .A [7, 9, 42, 43, 44]), (14, .A [7, 42, 43, 44]), (15, .A [7, 42, 43, 44]), (16, .A [2])], [(5, 13), (7, 9)]⟩
def aGI : Ty := .pair (.sl (.u .u64)) .unit
noncomputable def wT : aJ := mSpec aGI (.one .str) (fun x => aO x.1)
noncomputable def zT : List (FuncId × aJ) := [(37, iC), (52, sM), (53, kL)]
theorem aL7 : cB Tryd.prog GL zT := .cons wS (by kernel_rfl) (.cons aHt (by kernel_rfl) (.cons aAm (by kernel_rfl) (.nil)))
theorem aHG : gam zT 37 = some iC := rfl
theorem aHH : gam zT 52 = some sM := rfl
theorem aHI : gam zT 53 = some kL := rfl
attribute [go_sem] aGI aEl aHG aHH aHI
set_option maxHeartbeats 4000000 in
theorem aK8 : FOK Tryd.prog GL 36 wT := by
 refine cE (bW aL7) mix Tryd.func36 rfl (by kernel_rfl) (by decide) aEl fun w0 S x Θ hw h hF => ?_
 obtain ⟨(m_0 : (List Nat)), u⟩ := x
 simp only [cH, go_sem]
 replace h : sat (aO m_0) _ := h
 unfold aO at h
 refine gB hF (D := (List (List Nat))) (fun d => sat (nO d) Θ) [] (fun d => [(3, .own 0)]) (fun d => [.inr (.row 9 .str d)]) ?_ ?_
 ·simp only [go_sem]
  refine aLF 3 9 .str rfl ?_
  simp only [go_sem]
  refine cK hF (D := (List Nat) × (List (List Nat))) [] (fun d => [(0, .val (.sl (.u .u64)) d.1), (3, .own 0)]) (fun d => [.inr (.row 9 .str d.2)]) h rfl (by simp only [go_sem]) ?_
  rintro ⟨m_19, l_20⟩ A2 T2 hA2 hE2 h
  simp only [go_sem]
  replace h : sat (jJ m_19 l_20) _ := h
  unfold jJ at h
  refine aN h fun g0 h => ?_
  refine gB hF (D := (List Nat)) (fun d => sat (gR l_20 m_19 d) T2) [4] (fun d => [(3, .own 0), (6, .val .str d)]) (fun d => [.inr (.row 9 .str l_20)]) ?_ ?_
  ·simp only [go_sem]
   refine eZ h (fun hc h => ?_) fun hc h => ?_
   ·obtain ⟨g0, h⟩ := aV h
    obtain ⟨g1, h⟩ := aV h
    repeat (refine ⟨by omega, ?_⟩)
    exact aY (((dE ((((dG m_19 ([1000000000000000000] : List Nat)).2).1).getD (0 : Nat) (0 : Nat)) (10 : Int)).getD ([] : List Nat))) h rfl (by simp only [go_sem])
   ·exact aY ((aX ⟨#[]⟩)) h rfl (by simp only [go_sem])
  ·rintro s_25 h
   simp only [go_sem]
   replace h : sat (gR l_20 m_19 s_25) _ := h
   unfold gR at h
   obtain ⟨g0, h⟩ := aV h
   repeat (refine ⟨by omega, ?_⟩)
   refine iX h (fun hc h => ?_) fun hc h => ?_
   ·replace h := hE2 _ (aB h)
    try dsimp only at h
    refine qO [1] rfl rfl ?_
    simp only [go_sem]
    exact aY ((l_20 ++ ([s_25] : List (List Nat)))) h rfl (by simp only [go_sem])
   ·obtain ⟨g0, h⟩ := aV h
    repeat (refine ⟨by omega, ?_⟩)
    obtain ⟨g0, h⟩ := aV h
    repeat (refine ⟨by omega, ?_⟩)
    obtain ⟨g0, h⟩ := aV h
    repeat (refine ⟨by omega, ?_⟩)
    obtain ⟨g0, h⟩ := aV h
    repeat (refine ⟨by omega, ?_⟩)
    obtain ⟨g0, h⟩ := aV h
    repeat (refine ⟨by omega, ?_⟩)
    replace h := hA2 _ (aB h)
    refine qO [1] rfl rfl ?_
    simp only [go_sem]
    exact aY _ h rfl (by simp only [go_sem])
 ·rintro l_8 h
  simp only [go_sem]
  replace h : sat (nO l_8) _ := h
  unfold nO at h
  refine cK hF (D := (List Nat) × Int) [43] (fun d => [(7, .val .str d.1), (42, .own 0), (44, .val (.i .i64) d.2)]) (fun d => [.inr (.row 9 .str l_8)]) h rfl (by simp only [go_sem]) ?_
  rintro ⟨out_13, x44_14⟩ A12 T12 hA12 hE12 h
  simp only [go_sem]
  replace h : sat (kA l_8 out_13 x44_14) _ := h
  unfold kA at h
  refine eZ h (fun hc h => ?_) fun hc h => ?_
  ·obtain ⟨g0, h⟩ := aV h
   repeat (refine ⟨by omega, ?_⟩)
   refine aN h fun g0 h => ?_
   refine aN h fun g0 h => ?_
   replace h := hA12 _ (aB h)
   exact aY _ h rfl (by simp only [go_sem])
  ·replace h := hE12 _ (aB h)
   try dsimp only at h
   exact aK hF [.tmp 2] rfl rfl rfl (aB h) (by simp only [aZ, go_sem])
attribute [go_sem] wT
noncomputable def lP (d_0 : qD0) (q_4 : (List Nat)) (s_5 : (List Nat)) : Option (((List Nat) × (Int × Unit))) :=
 if ((d_0.1) = true) ∧ ((0 : Int) < (q_4.length : Int)) then ck (((aX ⟨#[45]⟩).length) + (s_5.length) ≤ 9223372036854775807) (some (((aX ⟨#[45]⟩) ++ s_5), (0 : Int), ())) else some (s_5, (0 : Int), ())
noncomputable def lQ (digits_1 : Int) (d_0 : qD0) (q_4 : (List Nat)) : Option (((List Nat) × (Int × Unit))) :=
 ck (((aO q_4).isSome = true)) (ck (I64 (digits_1 + (1 : Int))) (ck (I64 ((digits_1 + (1 : Int)) - (((((aO q_4).getD ([] : List Nat)).length) : Nat) : Int))) (ck (((aL (aX ⟨#[48]⟩) (max ((digits_1 + (1 : Int)) - (((((aO q_4).getD ([] : List Nat)).length) : Nat) : Int)) (0 : Int))).isSome = true)) (ck ((((aL (aX ⟨#[48]⟩) (max ((digits_1 + (1 : Int)) - (((((aO q_4).getD ([] : List Nat)).length) : Nat) : Int)) (0 : Int))).getD ([] : List Nat)).length) + (((aO q_4).getD ([] : List Nat)).length) ≤ 9223372036854775807) (if (0 : Int) < digits_1 then ck (I64 (((((((aL (aX ⟨#[48]⟩) (max ((digits_1 + (1 : Int)) - (((((aO q_4).getD ([] : List Nat)).length) : Nat) : Int)) (0 : Int))).getD ([] : List Nat)) ++ ((aO q_4).getD ([] : List Nat))).length) : Nat) : Int) - digits_1)) (ck (0 ≤ (((((((aL (aX ⟨#[48]⟩) (max ((digits_1 + (1 : Int)) - (((((aO q_4).getD ([] : List Nat)).length) : Nat) : Int)) (0 : Int))).getD ([] : List Nat)) ++ ((aO q_4).getD ([] : List Nat))).length) : Nat) : Int) - digits_1) ∧ (((((((aL (aX ⟨#[48]⟩) (max ((digits_1 + (1 : Int)) - (((((aO q_4).getD ([] : List Nat)).length) : Nat) : Int)) (0 : Int))).getD ([] : List Nat)) ++ ((aO q_4).getD ([] : List Nat))).length) : Nat) : Int) - digits_1) ≤ ((((((aL (aX ⟨#[48]⟩) (max ((digits_1 + (1 : Int)) - (((((aO q_4).getD ([] : List Nat)).length) : Nat) : Int)) (0 : Int))).getD ([] : List Nat)) ++ ((aO q_4).getD ([] : List Nat))).length) : Nat) : Int)) (ck (((List.take ((((((((aL (aX ⟨#[48]⟩) (max ((digits_1 + (1 : Int)) - (((((aO q_4).getD ([] : List Nat)).length) : Nat) : Int)) (0 : Int))).getD ([] : List Nat)) ++ ((aO q_4).getD ([] : List Nat))).length) : Nat) : Int) - digits_1).toNat) (((aL (aX ⟨#[48]⟩) (max ((digits_1 + (1 : Int)) - (((((aO q_4).getD ([] : List Nat)).length) : Nat) : Int)) (0 : Int))).getD ([] : List Nat)) ++ ((aO q_4).getD ([] : List Nat)))).length) + ((aX ⟨#[46]⟩).length) ≤ 9223372036854775807) (ck (I64 (((((((aL (aX ⟨#[48]⟩) (max ((digits_1 + (1 : Int)) - (((((aO q_4).getD ([] : List Nat)).length) : Nat) : Int)) (0 : Int))).getD ([] : List Nat)) ++ ((aO q_4).getD ([] : List Nat))).length) : Nat) : Int) - digits_1)) (ck (0 ≤ (((((((aL (aX ⟨#[48]⟩) (max ((digits_1 + (1 : Int)) - (((((aO q_4).getD ([] : List Nat)).length) : Nat) : Int)) (0 : Int))).getD ([] : List Nat)) ++ ((aO q_4).getD ([] : List Nat))).length) : Nat) : Int) - digits_1) ∧ (((((((aL (aX ⟨#[48]⟩) (max ((digits_1 + (1 : Int)) - (((((aO q_4).getD ([] : List Nat)).length) : Nat) : Int)) (0 : Int))).getD ([] : List Nat)) ++ ((aO q_4).getD ([] : List Nat))).length) : Nat) : Int) - digits_1) ≤ ((((((aL (aX ⟨#[48]⟩) (max ((digits_1 + (1 : Int)) - (((((aO q_4).getD ([] : List Nat)).length) : Nat) : Int)) (0 : Int))).getD ([] : List Nat)) ++ ((aO q_4).getD ([] : List Nat))).length) : Nat) : Int)) (ck ((((List.take ((((((((aL (aX ⟨#[48]⟩) (max ((digits_1 + (1 : Int)) - (((((aO q_4).getD ([] : List Nat)).length) : Nat) : Int)) (0 : Int))).getD ([] : List Nat)) ++ ((aO q_4).getD ([] : List Nat))).length) : Nat) : Int) - digits_1).toNat) (((aL (aX ⟨#[48]⟩) (max ((digits_1 + (1 : Int)) - (((((aO q_4).getD ([] : List Nat)).length) : Nat) : Int)) (0 : Int))).getD ([] : List Nat)) ++ ((aO q_4).getD ([] : List Nat)))) ++ (aX ⟨#[46]⟩)).length) + ((List.drop ((((((((aL (aX ⟨#[48]⟩) (max ((digits_1 + (1 : Int)) - (((((aO q_4).getD ([] : List Nat)).length) : Nat) : Int)) (0 : Int))).getD ([] : List Nat)) ++ ((aO q_4).getD ([] : List Nat))).length) : Nat) : Int) - digits_1).toNat) (((aL (aX ⟨#[48]⟩) (max ((digits_1 + (1 : Int)) - (((((aO q_4).getD ([] : List Nat)).length) : Nat) : Int)) (0 : Int))).getD ([] : List Nat)) ++ ((aO q_4).getD ([] : List Nat)))).length) ≤ 9223372036854775807) (lP d_0 q_4 (((List.take ((((((((aL (aX ⟨#[48]⟩) (max ((digits_1 + (1 : Int)) - (((((aO q_4).getD ([] : List Nat)).length) : Nat) : Int)) (0 : Int))).getD ([] : List Nat)) ++ ((aO q_4).getD ([] : List Nat))).length) : Nat) : Int) - digits_1).toNat) (((aL (aX ⟨#[48]⟩) (max ((digits_1 + (1 : Int)) - (((((aO q_4).getD ([] : List Nat)).length) : Nat) : Int)) (0 : Int))).getD ([] : List Nat)) ++ ((aO q_4).getD ([] : List Nat)))) ++ (aX ⟨#[46]⟩)) ++ (List.drop ((((((((aL (aX ⟨#[48]⟩) (max ((digits_1 + (1 : Int)) - (((((aO q_4).getD ([] : List Nat)).length) : Nat) : Int)) (0 : Int))).getD ([] : List Nat)) ++ ((aO q_4).getD ([] : List Nat))).length) : Nat) : Int) - digits_1).toNat) (((aL (aX ⟨#[48]⟩) (max ((digits_1 + (1 : Int)) - (((((aO q_4).getD ([] : List Nat)).length) : Nat) : Int)) (0 : Int))).getD ([] : List Nat)) ++ ((aO q_4).getD ([] : List Nat))))))))))) else lP d_0 q_4 (((aL (aX ⟨#[48]⟩) (max ((digits_1 + (1 : Int)) - (((((aO q_4).getD ([] : List Nat)).length) : Nat) : Int)) (0 : Int))).getD ([] : List Nat)) ++ ((aO q_4).getD ([] : List Nat))))))))
noncomputable def iL (d_0 : qD0) (digits_1 : Int) (up_2 : Bool) : Option ((List Nat) × (Int × Unit)) :=
 ck (((cO d_0).isSome = true)) (if ((¬ (((cO d_0).getD false) = true)) ∨ (digits_1 < (0 : Int))) ∨ ((60 : Int) < digits_1) then some ((aX ⟨#[]⟩), (1 : Int), ()) else if ((2000 : Int) < (((d_0.2).2).1)) ∨ ((((d_0.2).2).1) < (-2000 : Int)) then some ((aX ⟨#[]⟩), (2 : Int), ()) else ck ((aGe ((d_0.2).1) (max (((d_0.2).2).1) (0 : Int)))) (ck (((dD (10 : Nat) digits_1).isSome = true)) (ck ((aLP (bX ((d_0.2).1) (max (((d_0.2).2).1) (0 : Int))) ((dD (10 : Nat) digits_1).getD ([] : List Nat)))) (ck (I64 (0 - (((d_0.2).2).1))) (ck ((aJm (cY (bX ((d_0.2).1) (max (((d_0.2).2).1) (0 : Int))) ((dD (10 : Nat) digits_1).getD ([] : List Nat))) (max (0 - (((d_0.2).2).1)) (0 : Int)))) (ck ((((0 : Int) < ((((cY (bX ((d_0.2).1) (max (((d_0.2).2).1) (0 : Int))) ((dD (10 : Nat) digits_1).getD ([] : List Nat))).length) : Nat) : Int)) → ((pSz (cY (bX ((d_0.2).1) (max (((d_0.2).2).1) (0 : Int))) ((dD (10 : Nat) digits_1).getD ([] : List Nat))))))) (if (((0 : Int) < ((((cY (bX ((d_0.2).1) (max (((d_0.2).2).1) (0 : Int))) ((dD (10 : Nat) digits_1).getD ([] : List Nat))).length) : Nat) : Int)) ∧ ((oB (cY (bX ((d_0.2).1) (max (((d_0.2).2).1) (0 : Int))) ((dD (10 : Nat) digits_1).getD ([] : List Nat)))) < (max (0 - (((d_0.2).2).1)) (0 : Int)))) ∧ ((up_2 != (d_0.1)) = true) then ck ((aLP (gC (cY (bX ((d_0.2).1) (max (((d_0.2).2).1) (0 : Int))) ((dD (10 : Nat) digits_1).getD ([] : List Nat))) (max (0 - (((d_0.2).2).1)) (0 : Int))) ([1] : List Nat))) (lQ digits_1 d_0 (pL (gC (cY (bX ((d_0.2).1) (max (((d_0.2).2).1) (0 : Int))) ((dD (10 : Nat) digits_1).getD ([] : List Nat))) (max (0 - (((d_0.2).2).1)) (0 : Int))) ([1] : List Nat))) else lQ digits_1 d_0 (gC (cY (bX ((d_0.2).1) (max (((d_0.2).2).1) (0 : Int))) ((dD (10 : Nat) digits_1).getD ([] : List Nat))) (max (0 - (((d_0.2).2).1)) (0 : Int))))))))))
def aEm : PlR := ⟨[(0, .B [1, 2, 3]), (1, .A [1, 2, 3, 12]), (2, .A [6, 7]), (3, .A [1, 2, 3, 24]), (4, .A [6, 7]), (5, .A [1, 2, 3, 8]), (6, .A [1, 2, 3, 8, 9]), (7, .A [1, 2, 3, 8, 9, 10]), (8, .A [1, 3, 10, 63]), (9, .A [1, 3, 10]), (10, .A [1, 3, 10, 11]), (11, .A [1, 3, 10, 11]), (12, .A [1, 3, 10, 11, 79]), (13, .A [3, 10, 11]), (14, .A [11, 100]), (15, .A [11]), (16, .A [6, 7])], [(11, 13), (15, 17)]⟩
def aGJ : Ty := .pair (.pair .bool (.pair (.sl (.u .u64)) (.pair (.i .i64) .unit))) (.pair (.i .i64) (.pair .bool .unit))
noncomputable def pZ : aJ := mSpec aGJ (.tup (.pair .str (.pair (.i .i64) .unit))) (fun x => iL x.1 x.2.1 x.2.2.1)
noncomputable def lR : List (FuncId × aJ) := [(21, fD), (30, oM), (31, mR), (32, uN), (33, oN), (34, uF), (35, wM), (36, wT), (37, iC)]
theorem aL8 : cB Tryd.prog GL lR := .cons pX (by kernel_rfl) (.cons aCM (by kernel_rfl) (.cons aAU (by kernel_rfl) (.cons aJJ (by kernel_rfl) (.cons aCO (by kernel_rfl) (.cons aJw (by kernel_rfl) (.cons aKW (by kernel_rfl) (.cons aK8 (by kernel_rfl) (.cons wS (by kernel_rfl) (.nil)))))))))
theorem aHJ : gam lR 21 = some fD := rfl
theorem aHK : gam lR 30 = some oM := rfl
theorem aHL : gam lR 31 = some mR := rfl
theorem aHM : gam lR 32 = some uN := rfl
theorem aHN : gam lR 33 = some oN := rfl
theorem aHO : gam lR 34 = some uF := rfl
theorem aHP : gam lR 35 = some wM := rfl
theorem aHQ : gam lR 36 = some wT := rfl
theorem aHR : gam lR 37 = some iC := rfl
attribute [go_sem] aGJ aEm aHJ aHK aHL aHM aHN aHO aHP aHQ aHR
set_option maxHeartbeats 4000000 in
theorem aEn : FOK Tryd.prog GL 16 pZ := by
 refine cE (bW aL8) mix Tryd.func16 rfl (by kernel_rfl) (by decide) aEm fun w0 S x Θ hw h hF => ?_
 obtain ⟨(d_0 : qD0), (digits_1 : Int), (up_2 : Bool), u⟩ := x
 simp only [cH, go_sem]
 replace h : sat (iL d_0 digits_1 up_2) _ := h
 unfold iL at h
 refine aN h fun g0 h => ?_
 refine ⟨fun hc => ?_, fun hc => ?_⟩
 ·replace h := mO (by first | exact hc | omega | (simpa using hc) | (simp at hc ⊢; omega)) h
  exact aK hF [.tmp 6, .tmp 7] rfl rfl rfl (aB h) (by simp only [aZ, go_sem])
 ·replace h := mP (by first | exact hc | omega | (simpa using hc) | (simp at hc ⊢; omega)) h
  refine ⟨fun hc => ?_, fun hc => ?_⟩
  ·replace h := mO hc h
   exact aK hF [.tmp 6, .tmp 7] rfl rfl rfl (aB h) (by simp only [aZ, go_sem])
  ·replace h := mP hc h
   refine aN h fun g0 h => aN h fun g1 h => aN h fun g2 h => ?_
   refine aN h fun g0 h => ?_
   refine aN h fun g0 h => ?_
   refine gB hF (D := (List Nat)) (fun d => sat (lQ digits_1 d_0 d) Θ) [1] (fun d => [(3, .ptr 0 []), (10, .val (.sl (.u .u64)) d)]) (fun d => [.inr (.box 3 (.val (.pair .bool (.pair (.sl (.u .u64)) (.pair (.i .i64) .unit))) d_0))]) ?_ ?_
   ·simp only [go_sem]
    refine aN h fun g0 h => ?_
    refine ⟨fun hc => ?_, fun hc => ?_⟩
    ·replace h := mO hc h
     refine aN h fun g0 h => ?_
     exact aY ((pL (gC (cY (bX ((d_0.2).1) (max (((d_0.2).2).1) (0 : Int))) ((dD (10 : Nat) digits_1).getD ([] : List Nat))) (max (0 - (((d_0.2).2).1)) (0 : Int))) ([1] : List Nat))) h rfl (by simp only [go_sem])
    ·replace h := mP hc h
     exact aY ((gC (cY (bX ((d_0.2).1) (max (((d_0.2).2).1) (0 : Int))) ((dD (10 : Nat) digits_1).getD ([] : List Nat))) (max (0 - (((d_0.2).2).1)) (0 : Int)))) h rfl (by simp only [go_sem])
   ·rintro q_4 h
    simp only [go_sem]
    replace h : sat (lQ digits_1 d_0 q_4) _ := h
    unfold lQ at h
    refine aN h fun g0 h => ?_
    refine aN h fun g0 h => aN h fun g1 h => aN h fun g2 h => aN h fun g3 h => ?_
    refine gB hF (D := (List Nat)) (fun d => sat (lP d_0 q_4 d) Θ) [10] (fun d => [(3, .ptr 0 []), (11, .val .str d)]) (fun d => [.inr (.box 3 (.val (.pair .bool (.pair (.sl (.u .u64)) (.pair (.i .i64) .unit))) d_0))]) ?_ ?_
    ·simp only [go_sem]
     refine eZ h (fun hc h => ?_) fun hc h => ?_
     ·refine aN h fun g0 h => aN h fun g1 h => aN h fun g2 h => aN h fun g3 h => aN h fun g4 h => aN h fun g5 h => ?_
      exact aY ((((List.take ((((((((aL (aX ⟨#[48]⟩) (max ((digits_1 + (1 : Int)) - (((((aO q_4).getD ([] : List Nat)).length) : Nat) : Int)) (0 : Int))).getD ([] : List Nat)) ++ ((aO q_4).getD ([] : List Nat))).length) : Nat) : Int) - digits_1).toNat) (((aL (aX ⟨#[48]⟩) (max ((digits_1 + (1 : Int)) - (((((aO q_4).getD ([] : List Nat)).length) : Nat) : Int)) (0 : Int))).getD ([] : List Nat)) ++ ((aO q_4).getD ([] : List Nat)))) ++ (aX ⟨#[46]⟩)) ++ (List.drop ((((((((aL (aX ⟨#[48]⟩) (max ((digits_1 + (1 : Int)) - (((((aO q_4).getD ([] : List Nat)).length) : Nat) : Int)) (0 : Int))).getD ([] : List Nat)) ++ ((aO q_4).getD ([] : List Nat))).length) : Nat) : Int) - digits_1).toNat) (((aL (aX ⟨#[48]⟩) (max ((digits_1 + (1 : Int)) - (((((aO q_4).getD ([] : List Nat)).length) : Nat) : Int)) (0 : Int))).getD ([] : List Nat)) ++ ((aO q_4).getD ([] : List Nat)))))) h rfl (by simp only [go_sem])
     ·exact aY ((((aL (aX ⟨#[48]⟩) (max ((digits_1 + (1 : Int)) - (((((aO q_4).getD ([] : List Nat)).length) : Nat) : Int)) (0 : Int))).getD ([] : List Nat)) ++ ((aO q_4).getD ([] : List Nat)))) h rfl (by simp only [go_sem])
    ·rintro s_5 h
     simp only [go_sem]
     replace h : sat (lP d_0 q_4 s_5) _ := h
     unfold lP at h
     refine ⟨fun hc => ?_, fun hc => ?_⟩
     ·replace h := mO hc h
      refine aN h fun g0 h => ?_
      exact aK hF [.tmp 6, .tmp 7] rfl rfl rfl (aB h) (by simp only [aZ, go_sem])
     ·replace h := mP hc h
      exact aK hF [.tmp 6, .tmp 7] rfl rfl rfl (aB h) (by simp only [aZ, go_sem])
attribute [go_sem] pZ
end Nu
end Go.Proofs
namespace Go.Proofs
open Go.Vc
set_option maxRecDepth 20000
namespace Nu
theorem p2m (n m : Nat) (h : n ≤ m) : 2 ^ n ≤ 2 ^ m := Nat.pow_le_pow_right (by decide) h
theorem aSO (m : Nat) {x n : Nat} (h : x < 2 ^ n) (hn : n ≤ m) : x < 2 ^ m := Nat.lt_of_lt_of_le h (p2m n m hn)
theorem aSP (k : Nat) {x n : Nat} (h : x < 2 ^ n) (hn : n ≤ 64 * k) : x < 18446744073709551616 ^ k := by rw [vR]; exact aSO _ h hn
theorem aRM (a b : Nat) (h : a < b) : 18446744073709551616 ^ a < 18446744073709551616 ^ b := Nat.pow_lt_pow_right (by decide) h
abbrev Dy : Type := Bool × List Nat × Int × Unit
def d0 : Dy := (false, [], 0, ())
def oW (d : Dy) : Bool :=
 if d.2.1.length = 0 then !d.1 && decide (d.2.2.1 = 0)
 else decide (d.2.1.length ≤ 64 ∧ Nrm d.2.1) && decide (d.2.1.getD 0 0 % 2 = 1) && decide (-1048576 ≤ d.2.2.1) && decide (d.2.2.1 ≤ 1048576)
theorem aRn (x : Nat) : x &&& 1 = x % 2 := Nat.and_two_pow_sub_one_eq_mod x 1
theorem aA5 (d : Dy) : cO d = some (oW d) := by
 unfold cO oW
 by_cases h : d.2.1.length = 0
 ·rw [if_pos (by omega), if_pos h]
 ·rw [if_neg (by omega), if_neg h]
  refine aC (fun _ => by omega) ?_
  rw [aRn]
  rfl
def told {α : Type} (z : α) : α ⊕ (Int × Unit) → α × Int × Unit
 | .inl r => (r, 0, ())
 | .inr p => (z, p.1, ())
end Nu
end Go.Proofs
namespace Go.Proofs
open Go.Vc
set_option maxRecDepth 20000
namespace Nu
theorem aRo {m n : Nat} (h : m ≠ 0) : tzn m < n ↔ m % 2 ^ n ≠ 0 := by
 obtain ⟨q, hq⟩ := aCG h
 constructor
 ·intro hlt h0
  obtain ⟨k, hk⟩ := Nat.dvd_of_mod_eq_zero h0
  rw [hq, show n = tzn m + (n - tzn m) from by omega, Nat.pow_add, Nat.mul_assoc] at hk
  have h2 := Nat.eq_of_mul_eq_mul_left (Nat.two_pow_pos _) hk
  rw [show n - tzn m = (n - tzn m - 1) + 1 from by omega, Nat.pow_succ, Nat.mul_comm (2 ^ (n - tzn m - 1)) 2, Nat.mul_assoc] at h2
  omega
 ·intro h0
  rcases Nat.lt_or_ge (tzn m) n with hlt | hge
  ·exact hlt
  ·exfalso
   apply h0
   rw [hq, show tzn m = n + (tzn m - n) from by omega, Nat.pow_add, Nat.mul_assoc]
   exact Nat.mul_mod_right _ _
theorem aBr {d : Dy} (h : oW d = true) : d.2.1.length ≤ 64 ∧ Nrm d.2.1 ∧ -1048576 ≤ d.2.2.1 ∧ d.2.2.1 ≤ 1048576 := by
 unfold oW at h
 split at h
 ·rename_i h0
  have : d.2.1 = [] := List.eq_nil_of_length_eq_zero h0
  simp at h
  rw [this, h.2]
  exact ⟨by decide, aM7, by decide, by decide⟩
 ·simp at h
  exact ⟨h.1.1.1.1, h.1.1.1.2, h.1.2, h.2⟩
end Nu
end Go.Proofs
namespace Go.Proofs
open Go.Vc
set_option maxRecDepth 20000
namespace Nu
end Nu
end Go.Proofs
namespace Go.Proofs
open Go.Vc
set_option maxRecDepth 20000
namespace Nu
end Nu
end Go.Proofs
namespace Go.Proofs
open Go.Vc
set_option maxRecDepth 20000
namespace Nu
theorem aPS {b i : Nat} (h : b < 18446744073709551616) : (lb (b ^ i)).length ≤ i + 1 :=
 aAO.2 (Nat.lt_of_le_of_lt (Nat.pow_le_pow_left (Nat.le_of_lt h) i) (Nat.pow_lt_pow_right (by decide) (by omega)))
theorem aPT (b n : Nat) (hb : b < 18446744073709551616) (hn : n ≤ 100000) : dD b (n : Int) = some (lb (b ^ n)) := by
 unfold dD
 refine bB (nX (step := fun d : (List Nat) × Int => jZ (n : Int) b d.1 d.2) (I := fun d => 0 ≤ d.2 ∧ d.2 ≤ n ∧ d.1 = lb (b ^ d.2.toNat)) (fun d => ((n : Int) - d.2).toNat) (fun _ => lb (b ^ n)) ?_ ([1], 0) ⟨by simp, by simp, ?_⟩) rfl
 ·rintro ⟨m, i⟩ ⟨i0, i1, i2⟩
  have i2 : m = lb (b ^ i.toNat) := i2
  have i0 : 0 ≤ i := i0
  have i1 : i ≤ n := i1
  show (∃ d', jZ (n : Int) b m i = _ ∧ _) ∨ jZ (n : Int) b m i = _
  unfold jZ
  have hl := aPS (i := i.toNat) hb
  by_cases hi : i < n
  ·left
   have ht : cY m [b] = lb (b ^ (i + 1).toNat) := by
    unfold cY
    rw [i2, rG, show (i + 1).toNat = i.toNat + 1 from by omega, Nat.pow_succ]
    rfl
   refine ⟨(lb (b ^ (i + 1).toNat), i + 1), ?_, ⟨by simp only; omega, by simp only; omega, rfl⟩, by simp only; omega, rfl⟩
   rw [if_pos hi]
   refine aC ⟨by show m.length ≤ _; rw [i2]; omega, by show (1 : Nat) ≤ _; decide⟩ (aC (by constructor <;> omega) ?_)
   rw [ht]
  ·right
   rw [if_neg hi, i2, show i.toNat = n from by omega]
 ·show [1] = lb (b ^ 0)
  rw [Nat.pow_zero, aDs (by decide)]
  rw [show 1 / 18446744073709551616 = 0 from by decide, lV]
end Nu
end Go.Proofs
namespace Go.Proofs
open Go.Vc
set_option maxRecDepth 20000
namespace Nu
def aRp (s : List Nat) (i : Nat) (c : Nat) : Prop := i < s.length ∧ s.getD i 0 = c
instance (s : List Nat) (i c : Nat) : Decidable (aRp s i c) := inferInstanceAs (Decidable (_ ∧ _))
end Nu
end Go.Proofs
namespace Go.Proofs
open Go.Vc
set_option maxRecDepth 20000
namespace Nu
theorem aPU (n : Nat) : 10 ^ n ≤ 2 ^ (4 * n) := by
 rw [Nat.pow_mul]
 exact Nat.pow_le_pow_left (by decide) n
end Nu
end Go.Proofs
namespace Go.Proofs
open Go.Vc
set_option maxRecDepth 20000
namespace Nu
end Nu
end Go.Proofs
namespace Go.Proofs
open Go.Vc
set_option maxRecDepth 20000
namespace Nu
end Nu
end Go.Proofs
namespace Go.Proofs
open Go.Vc
set_option maxRecDepth 20000
namespace Nu
def mJ (u : Nat) : List Nat := dgs (Lib.nDigits u) u
theorem aL9 {u : Nat} (h : u < 10) : mJ u = [48 + u] := by
 unfold mJ
 rw [Lib.nDigits_small h]
 simp [dgs, Nat.mod_eq_of_lt h]
theorem aPV {u : Nat} (h : ¬ u < 10) (h2 : u < 100) : mJ u = [48 + u / 10, 48 + u % 10] := by
 unfold mJ
 rw [Lib.nDigits_big h, Lib.nDigits_small (by omega)]
 have : u / 10 % 10 = u / 10 := Nat.mod_eq_of_lt (by omega)
 simp [dgs, List.range_succ, this]
theorem aN2 : ∀ u : Fin 100, (if u.val < 10 then List.drop u.val (List.take (u.val + 1) (aX vX)) else List.drop (u.val * 2) (List.take (u.val * 2 + 2) (aX vW))) = if u.val < 10 then [48 + u.val] else [48 + u.val / 10, 48 + u.val % 10] := by
 decide +kernel
theorem aN3 : (aX vX).length = 36 ∧ (aX vW).length = 200 := by decide +kernel
theorem aK9 (u : Nat) (h : u < 100) : eS (u : Int) = some (mJ u) := by
 have ht := aN2 ⟨u, h⟩
 obtain ⟨l1, l2⟩ := aN3
 simp only at ht
 unfold eS
 by_cases h1 : u < 10
 ·rw [if_pos h1, if_pos h1] at ht
  rw [if_pos (by omega), l1, aL9 h1]
  refine aC (by constructor <;> omega) (aC (by constructor <;> omega) ?_)
  rw [Int.toNat_natCast, show ((u : Int) + 1).toNat = u + 1 from by omega, ht]
 ·rw [if_neg h1, if_neg h1] at ht
  rw [if_neg (by omega), l2, aPV h1 h]
  refine aC (by constructor <;> omega) (aC (by constructor <;> omega) (aC (by constructor <;> omega) (aC (by constructor <;> omega) ?_)))
  rw [show ((u : Int) * 2).toNat = u * 2 from by omega, show ((u : Int) * 2 + 2).toNat = u * 2 + 2 from by omega, ht]
theorem aRq : ∀ k : Fin 20, ([1, 10, 100, 1000, 10000, 100000, 1000000, 10000000, 100000000, 1000000000, 10000000000, 100000000000, 1000000000000, 10000000000000, 100000000000000, 1000000000000000, 10000000000000000, 100000000000000000, 1000000000000000000, 10000000000000000000] : List Nat).getD k.val 0 = 10 ^ k.val := by decide +kernel
theorem aN4 {u : Nat} (h1 : u ≠ 0) (h : u < 18446744073709551616) : Lib.bitLen u = bl u := by
 obtain ⟨a, b, c⟩ := Lib.bitLenAux_bounds 64 u h (by omega)
 unfold Lib.bitLen
 have h2 := aCE c
 have h3 := aGa b
 omega
theorem aBN (u : Nat) (h1 : u ≠ 0) (h : u < 18446744073709551616) : aI u = some (Lib.nDigits u : Int) := by
 obtain ⟨k1, k2⟩ := Lib.numDigits_eq u (by omega) h
 rw [aN4 h1 h] at k1 k2
 have hb := aNQ h
 have hl : Int.fdiv ((bl u : Int) * 78913) (2 ^ 18) = (Lib.l10 (bl u) : Int) := by
  unfold Lib.l10
  rw [Int.fdiv_eq_ediv_of_nonneg _ (by decide)]
  omega
 have hlog : bP (cU u) = some (Lib.l10 (bl u) : Int) := by
  unfold bP cU
  refine aC (by constructor <;> omega) ?_
  rw [hl]
 have hp : p10.getD (Lib.l10 (bl u)) 0 = 10 ^ Lib.l10 (bl u) := by
  rw [aPq]; exact aRq ⟨Lib.l10 (bl u), by omega⟩
 have hbool : ∀ b : Bool, eC b = some (if b = true then 1 else 0) := fun b => by cases b <;> rfl
 unfold aI
 simp only [hlog, Option.getD_some, Int.toNat_natCast, hp, hbool]
 refine aC rfl (aC (by constructor <;> omega) (aC rfl ?_))
 by_cases hh : 10 ^ Lib.l10 (bl u) ≤ u
 ·rw [if_pos hh] at k1
  simp only [hh, decide_true, if_true]
  refine aC (by constructor <;> omega) ?_
  rw [show (Lib.l10 (bl u) : Int) + 1 = (Lib.nDigits u : Int) from by omega]
 ·rw [if_neg hh] at k1
  simp only [hh, decide_false, Bool.false_eq_true, if_false]
  refine aC (by constructor <;> omega) ?_
  rw [show (Lib.l10 (bl u) : Int) + 0 = (Lib.nDigits u : Int) from by omega]
theorem aHS (u : Nat) (h : u < 18446744073709551616) : dE u 10 = some (mJ u) := by
 have key : fH u 10 = some (mJ u) := by
  unfold fH
  rw [if_pos rfl]
  by_cases h1 : u < 100
  ·have hw : IntKind.i64.wrap ((u : Nat) : Int) = (u : Int) := by
    simp only [IntKind.wrap, IntKind.signed, IntKind.bits]; simp; omega
   rw [if_pos h1, hw]
   simp only [aK9 u h1, Option.getD_some]
   exact aC rfl rfl
  ·rw [if_neg h1]
   have hn := aBN u (by omega) h
   obtain ⟨k1, k2⟩ := Lib.numDigits_eq u (by omega) h
   have hle : Lib.nDigits u ≤ 20 := by split at k1 <;> omega
   have hpos := Lib.nDigits_pos u
   have hlt := Lib.lt_pow_nDigits u
   simp only [hn, Option.getD_some]
   have e : ((Lib.nDigits u : Int) - 0).toNat = Lib.nDigits u := by omega
   rw [e]
   have hf : cJ 0 (Lib.nDigits u) u (List.replicate 24 0) = some (mJ u ++ (List.replicate 24 0).drop (0 + Lib.nDigits u)) := by
    unfold cJ
    refine aC (by omega) (aC hlt ?_)
    rfl
   refine aC rfl (aC (by constructor <;> omega) (bB hf (aC (by constructor <;> omega) (aC (by omega) ?_))))
   rw [List.drop_zero, List.take_append_of_le_length (by unfold mJ; rw [nB]; exact Nat.le_refl _), List.take_of_length_le (by unfold mJ; rw [nB]; exact Nat.le_refl _)]
 unfold dE
 rw [key]
 exact aC rfl rfl
end Nu
end Go.Proofs
namespace Go.Proofs
open Go.Vc
set_option maxRecDepth 20000
namespace Nu
theorem aSr : bF (aX sC) [48] = some false := by decide +kernel
theorem aSs : bF (aX sB) [48] = some false := by decide +kernel
theorem aSt : bF (aX pM) [48] = some true := by decide +kernel
theorem aSQ : aX pM = List.replicate 64 48 := by decide +kernel
theorem aID (c : Nat) (h : c ≤ 64) : aL [48] (c : Int) = some (List.replicate c 48) := by
 have hw : IntKind.i64.wrap ((c : Nat) : Int) = (c : Int) := by
  simp only [IntKind.wrap, IntKind.signed, IntKind.bits]; simp; omega
 have hm : bD (((([48] : List Nat).length : Nat) : Int) % (18446744073709551616 : Int)).toNat ((c : Int) % (18446744073709551616 : Int)).toNat = some (0, c, ()) := by
  have e1 : (((([48] : List Nat).length : Nat) : Int) % (18446744073709551616 : Int)).toNat = 1 := by decide
  have e2 : ((c : Int) % (18446744073709551616 : Int)).toNat = c := by omega
  rw [e1, e2]
  unfold bD bA
  simp only
  rw [Nat.one_mul, Nat.div_eq_of_lt (by omega), Nat.mod_eq_of_lt (by omega)]
 unfold aL
 by_cases h0 : c = 0
 ·subst h0; rfl
 by_cases h1 : c = 1
 ·subst h1; rfl
 rw [if_neg (by omega), if_neg (by omega), if_neg (by omega)]
 simp only [hm, Option.getD_some]
 refine aC rfl ?_
 rw [if_neg (by omega), if_neg (by decide)]
 refine aC (by decide) ?_
 rw [if_neg (by decide), if_neg (by decide), if_pos (by decide)]
 have hd : decide ((([48] : List Nat).getD 0 0) = 48) = true := by decide
 rw [hd]
 unfold dN
 rw [if_pos rfl]
 simp only [hm, Option.getD_some, hw, aSr, aSs, aSt]
 refine aC (fun _ => rfl) ?_
 rw [if_neg (fun hh => by cases hh.2)]
 refine aC (fun _ => rfl) ?_
 rw [if_neg (fun hh => by cases hh.2)]
 refine aC (fun _ => rfl) ?_
 rw [if_pos ⟨by omega, trivial⟩, aSQ]
 refine aC (by constructor; omega; rw [List.length_replicate]; omega) ?_
 rw [Int.toNat_natCast, List.take_replicate, Nat.min_eq_left h]
theorem aJK (a b x y : Nat) (hy : y < 10 ^ b) : dgs a x ++ dgs b y = dgs (a + b) (x * 10 ^ b + y) := by
 apply List.ext_getElem
 ·simp [dgs]
 ·intro i h1 h2
  have hi : i < a + b := by simpa [dgs] using h2
  by_cases hlt : i < a
  ·rw [List.getElem_append_left (by simpa [dgs] using hlt)]
   simp only [dgs, List.getElem_map, List.getElem_range]
   rw [show a + b - 1 - i = b + (a - 1 - i) from by omega, Nat.pow_add, ← Nat.div_div_eq_div_mul, Nat.mul_comm x, Nat.mul_add_div (Nat.pow_pos (by decide)), Nat.div_eq_of_lt hy, Nat.add_zero]
  ·rw [List.getElem_append_right (by simp [dgs]; omega)]
   simp only [dgs, List.length_map, List.length_range, List.getElem_map, List.getElem_range]
   have e1 : a + b - 1 - i = b - 1 - (i - a) := by omega
   rw [e1]
   congr 1
   have hk : b = (b - 1 - (i - a)) + (i - a + 1) := by omega
   have e2 : x * 10 ^ b = 10 ^ (b - 1 - (i - a)) * (x * 10 ^ (i - a) * 10) := by
    conv => lhs; rw [hk]
    rw [Nat.pow_add, Nat.pow_succ, Nat.mul_left_comm, Nat.mul_assoc x]
   rw [e2, Nat.mul_add_div (Nat.pow_pos (by decide)), Nat.add_comm, Nat.add_mul_mod_self_right]
theorem aLa (n : Nat) : dgs n 0 = List.replicate n 48 := by
 apply List.ext_getElem
 ·simp [dgs]
 ·intro i h1 h2; simp [dgs]
theorem aRr {k n r : Nat} (hk : k ≤ n) (hr : r < 10 ^ k) : List.replicate (n - k) 48 ++ dgs k r = dgs n r := by
 rw [← aLa, aJK _ _ _ _ hr, Nat.zero_mul, Nat.zero_add]
 congr 1; omega
theorem wU (u : Nat) (h0 : u ≠ 0) : 10 ^ (Lib.nDigits u - 1) ≤ u := by
 induction u using Nat.strongRecOn with
 | _ u ih =>
  by_cases h : u < 10
  ·rw [Lib.nDigits_small h]; simp; omega
  ·have := ih (u / 10) (by omega) (by omega)
   have hp := Lib.nDigits_pos (u / 10)
   rw [Lib.nDigits_big h, Nat.add_sub_cancel, show Lib.nDigits (u / 10) = Lib.nDigits (u / 10) - 1 + 1 from by omega, Nat.pow_succ]
   omega
theorem aJL {M b y : Nat} (hM : M ≠ 0) (hy : y < 10 ^ b) : Lib.nDigits (M * 10 ^ b + y) = Lib.nDigits M + b := by
 have h1 := Lib.lt_pow_nDigits M
 have h2 := Lib.nDigits_pos M
 have h3 := wU M hM
 have h4 := Nat.mul_le_mul_right (10 ^ b) h3
 have h5 := Nat.mul_le_mul_right (10 ^ b) (show M + 1 ≤ 10 ^ Lib.nDigits M from h1)
 rw [← Nat.pow_add] at h4 h5
 rw [Nat.add_mul, Nat.one_mul] at h5
 have := Lib.nDigits_unique (Lib.nDigits M - 1 + b) (M * 10 ^ b + y) (by omega) (by rw [show Lib.nDigits M - 1 + b + 1 = Lib.nDigits M + b from by omega]; omega)
 omega
theorem aPW {M b y : Nat} (hM : M ≠ 0) (hy : y < 10 ^ b) : mJ M ++ dgs b y = mJ (M * 10 ^ b + y) := by
 unfold mJ
 rw [aJL hM hy, aJK _ _ _ _ hy]
end Nu
end Go.Proofs
namespace Go.Proofs
open Go.Vc
set_option maxRecDepth 20000
namespace Nu
def cat (l : List (List Nat)) : List Nat := l.reverse.flatten
theorem aGK (l : List (List Nat)) (s : List Nat) : cat (l ++ [s]) = s ++ cat l := by simp [cat]
theorem aN5 (l : List (List Nat)) (k : Nat) : cat l = cat (l.drop k) ++ cat (l.take k) := by
 unfold cat
 rw [← List.flatten_append, ← List.reverse_append, List.take_append_drop]
theorem aJM (l : List (List Nat)) (k : Nat) : (cat (l.take k)).length ≤ (cat l).length := by
 rw [aN5 l k, List.length_append]; omega
theorem aRs (l : List (List Nat)) (h1 : l.length ≤ 1000000000) (h2 : (cat l).length ≤ 1000000000) : nO l = some (cat l) := by
 unfold nO
 refine bB (nX (step := fun d : (List Nat) × Int => kA l d.1 d.2) (I := fun d => 0 ≤ d.2 ∧ d.2 ≤ l.length ∧ d.1 = cat (l.take d.2.toNat)) (fun d => ((l.length : Int) - d.2).toNat) (fun _ => cat l) ?_ (aX ⟨#[]⟩, 0) ⟨by simp, by simp, rfl⟩) rfl
 rintro ⟨out, i⟩ ⟨i0, i1, i2⟩
 have i0 : 0 ≤ i := i0
 have i1 : i ≤ l.length := i1
 have i2 : out = cat (l.take i.toNat) := i2
 show (∃ d', kA l out i = _ ∧ _) ∨ kA l out i = _
 unfold kA
 by_cases hi : i < l.length
 ·left
  have hk : i.toNat < l.length := by omega
  have ht : cat (l.take (i + 1).toNat) = l.getD i.toNat [] ++ out := by
   rw [show (i + 1).toNat = i.toNat + 1 from by omega, List.take_succ_eq_append_getElem hk, aGK, i2, List.getD_eq_getElem?_getD, List.getElem?_eq_getElem hk]; rfl
  have hlen := aJM l (i + 1).toNat
  rw [ht, List.length_append] at hlen
  refine ⟨(cat (l.take (i + 1).toNat), i + 1), ?_, ⟨by simp only; omega, by simp only; omega, rfl⟩, by simp only; omega, rfl⟩
  rw [if_pos hi]
  refine aC (by constructor <;> omega) (aC (by omega) (aC (by constructor <;> omega) ?_))
  rw [ht]
 ·right
  rw [if_neg hi, i2, List.take_of_length_le (by omega)]
def txt (n : Nat) : List Nat := if n = 0 then [] else mJ n
structure TxI (n : Nat) (m : List Nat) (l : List (List Nat)) (M rest : Nat) : Prop where
 m0 : m = lb M
 sum : n = M * 10 ^ (18 * l.length) + rest
 lt : rest < 10 ^ (18 * l.length)
 str : cat l = dgs (18 * l.length) rest
 pos : M ≠ 0 ∨ l.length = 0
theorem aRt {n M rest : Nat} {m : List Nat} {l : List (List Nat)} (h : TxI n m l M rest) : 18 * l.length ≤ bl n := by
 rcases h.pos with hp | hp
 ·rcases Nat.eq_zero_or_pos l.length with h0 | h0
  ·omega
  ·have h1 : 2 ^ (18 * l.length) ≤ 10 ^ (18 * l.length) := Nat.pow_le_pow_left (by decide) _
   have h2 : 10 ^ (18 * l.length) ≤ M * 10 ^ (18 * l.length) := Nat.le_mul_of_pos_left _ (by omega)
   have h3 : 2 ^ (18 * l.length) ≤ n := by rw [h.sum]; omega
   have := aGa h3
   omega
 ·omega
theorem q18 (M : Nat) : dG (lb M) [1000000000000000000] = (lb (M / 1000000000000000000), lb (M % 1000000000000000000), ()) := by
 unfold dG
 rw [rG]
 rfl
theorem aPX {n M P T rest : Nat} (h : n = M * T + rest) : n = M / P * (P * T) + (M % P * T + rest) := by
 have e := Nat.div_add_mod M P
 rw [h, ← Nat.add_assoc]
 congr 1
 conv => lhs; rw [← e]
 rw [Nat.add_mul, Nat.mul_comm P, Nat.mul_assoc]
theorem aRu {r P T rest : Nat} (h : r < P) (h2 : rest < T) : r * T + rest < P * T := by
 have h1 := Nat.mul_le_mul_right T (show r + 1 ≤ P from h)
 rw [Nat.add_mul, Nat.one_mul] at h1
 omega
theorem p18 : (10 : Nat) ^ 18 = 1000000000000000000 := by decide
theorem aRv {n M rest : Nat} {m : List Nat} {l : List (List Nat)} (hn : bl n ≤ 1000000) (h : TxI n m l M rest) :
  (∃ m' l' M' rest', gR l m (txt (M % 1000000000000000000)) = some (.inl (m', l')) ∧ TxI n m' l' M' rest' ∧ M' < M) ∨
   ∃ l', gR l m (txt (M % 1000000000000000000)) = some (.inr l') ∧ cat l' = txt n ∧ l'.length ≤ 1000000 := by
 have hl := aRt h
 have hr : M % 1000000000000000000 < 10 ^ 18 := Nat.mod_lt _ (by decide)
 have e := Nat.div_add_mod M 1000000000000000000
 have hsl : (txt (M % 1000000000000000000)).length ≤ 18 := by
  unfold txt
  split
  ·simp
  ·rename_i h0
   unfold mJ
   rw [nB]
   have h1 := wU _ h0
   rcases Nat.lt_or_ge (Lib.nDigits (M % 1000000000000000000)) 19 with hh | hh
   ·omega
   ·have h2 : 10 ^ 18 ≤ 10 ^ (Lib.nDigits (M % 1000000000000000000) - 1) := Nat.pow_le_pow_right (by decide) (by omega)
    omega
 unfold gR
 rw [h.m0, q18]
 by_cases hq : M / 1000000000000000000 = 0
 ·right
  refine ⟨l ++ [txt (M % 1000000000000000000)], ?_, ?_, by rw [List.length_append]; simp; omega⟩
  ·refine aC (by omega) ?_
   rw [if_pos (by simp only; rw [hq, lV]; rfl)]
  ·have hM : M % 1000000000000000000 = M := by omega
   rw [aGK, hM, h.str]
   rcases Nat.eq_zero_or_pos M with h0 | h0
   ·subst h0
    rcases h.pos with hp | hp
    ·exact absurd rfl hp
    ·have hs := h.sum
     have hlt := h.lt
     rw [hp] at hlt hs ⊢
     have : rest = 0 := by simpa using hlt
     subst this
     simp only [Nat.zero_mul, Nat.add_zero] at hs
     subst hs
     rfl
   ·have hn0 : n ≠ 0 := by
     rw [h.sum]
     have := Nat.mul_pos h0 (Nat.pow_pos (n := 18 * l.length) (show 0 < 10 by decide))
     omega
    unfold txt
    rw [if_neg (by omega), if_neg hn0, aPW (by omega) h.lt, ← h.sum]
 ·left
  have hpad : List.replicate (18 - (txt (M % 1000000000000000000)).length) 48 ++ txt (M % 1000000000000000000) = dgs 18 (M % 1000000000000000000) := by
   unfold txt at hsl ⊢
   split
   ·rename_i h0; rw [h0, aLa]; simp
   ·rename_i h0
    rw [if_neg h0] at hsl
    unfold mJ at hsl ⊢
    rw [nB] at hsl ⊢
    exact aRr hsl (Lib.lt_pow_nDigits _)
  have hrep : aL (aX ⟨#[48]⟩) (18 - ((txt (M % 1000000000000000000)).length : Int)) = some (List.replicate (18 - (txt (M % 1000000000000000000)).length) 48) := by
   have := aID (18 - (txt (M % 1000000000000000000)).length) (by omega)
   rw [show ((18 - (txt (M % 1000000000000000000)).length : Nat) : Int) = 18 - ((txt (M % 1000000000000000000)).length : Int) from by omega] at this
   exact this
  have hset : (l ++ [txt (M % 1000000000000000000)]).set (((l ++ [txt (M % 1000000000000000000)]).length : Int) - 1).toNat (List.replicate (18 - (txt (M % 1000000000000000000)).length) 48 ++ txt (M % 1000000000000000000)) = l ++ [dgs 18 (M % 1000000000000000000)] := by
   rw [hpad, List.length_append, List.length_singleton, show (((l.length + 1 : Nat) : Int) - 1).toNat = l.length from by omega]
   simp
  refine ⟨lb (M / 1000000000000000000), l ++ [dgs 18 (M % 1000000000000000000)], M / 1000000000000000000, M % 1000000000000000000 * 10 ^ (18 * l.length) + rest, ?_, ?_, Nat.div_lt_self (by omega) (by decide)⟩
  ·have hne := List.length_pos_iff.2 (fun e => hq (aDt.1 e))
   have hll : (l ++ [txt (M % 1000000000000000000)]).length = l.length + 1 := by simp
   refine aC (by omega) ?_
   rw [if_neg (by simp only; omega)]
   simp only [hrep, Option.getD_some]
   refine aC (by constructor <;> omega) (aC (by constructor <;> omega) (aC rfl (aC (by rw [List.length_replicate]; omega) (aC (by constructor <;> omega) ?_))))
   rw [hset]
  ·have hl1 : (l ++ [dgs 18 (M % 1000000000000000000)]).length = l.length + 1 := by simp
   have hp : 10 ^ (18 * (l.length + 1)) = 1000000000000000000 * 10 ^ (18 * l.length) := by rw [← p18, ← Nat.pow_add]; congr 1; omega
   refine ⟨rfl, ?_, ?_, ?_, .inl hq⟩
   ·rw [hl1, hp]
    have := aPX (P := 1000000000000000000) (T := 10 ^ (18 * l.length)) h.sum
    exact this
   ·rw [hl1, hp]; exact aRu (Nat.mod_lt _ (by decide)) h.lt
   ·have := aJK 18 (18 * l.length) (M % 1000000000000000000) rest h.lt
    rw [hl1, aGK, h.str, this, show 18 + 18 * l.length = 18 * (l.length + 1) from by omega]
end Nu
end Go.Proofs
namespace Go.Proofs
open Go.Vc
set_option maxRecDepth 20000
namespace Nu
theorem aPY {x : Nat} (h : x < 18446744073709551616) : (lb x).getD 0 0 = x := by
 rw [oK (aM6 x), rG, Nat.pow_zero, Nat.div_one, Nat.mod_eq_of_lt h]
theorem aNk : Nrm [1000000000000000000] ∧ nv [1000000000000000000] ≠ 0 := by decide
theorem aRw {n M rest : Nat} {m : List Nat} {l : List (List Nat)} (hm : m.length ≤ 100000) (h : TxI n m l M rest) : jJ m l = gR l m (txt (M % 1000000000000000000)) := by
 have hr : M % 1000000000000000000 < 1000000000000000000 := Nat.mod_lt _ (by decide)
 have hp : uI m [1000000000000000000] := ⟨by rw [h.m0]; exact aJd _, aNk.1, aNk.2, by omega⟩
 unfold jJ
 refine aC hp ?_
 have hq : (dG m [1000000000000000000]).2.1 = lb (M % 1000000000000000000) := by rw [h.m0, q18]
 rw [hq]
 by_cases h0 : M % 1000000000000000000 = 0
 ·have ht : txt (M % 1000000000000000000) = aX ⟨#[]⟩ := by unfold txt; rw [if_pos h0]; rfl
  rw [if_neg (by rw [h0, lV]; simp), ht]
 ·have ht : txt (M % 1000000000000000000) = mJ (M % 1000000000000000000) := by unfold txt; rw [if_neg h0]
  have hl := List.length_pos_iff.2 (fun e => h0 (aDt.1 e))
  have hf := aHS (M % 1000000000000000000) (by omega)
  rw [if_pos (by omega), aPY (by omega), ht]
  simp only [hf, Option.getD_some]
  exact aC (by omega) (aC rfl rfl)
theorem aSu (k : Nat) {n : Nat} (h : n < 18446744073709551616 ^ k) : bl n ≤ 64 * k := aCE (by rw [← vR]; exact h)
theorem aRx (n : Nat) (hn : n < 18446744073709551616 ^ 10000) : aO (lb n) = some (txt n) := by
 have hb := aSu 10000 hn
 have key := iF (step := fun d : (List Nat) × (List (List Nat)) => jJ d.1 d.2) (I := fun d => ∃ M rest, TxI n d.1 d.2 M rest) (fun d => nv d.1) (fun e => cat e = txt n ∧ e.length ≤ 1000000) ?_ (lb n, []) ⟨n, 0, ⟨rfl, by simp, by simp, rfl, .inr rfl⟩⟩
 ·obtain ⟨e, h1, h2, h3⟩ := key
  unfold aO
  refine bB h1 ?_
  have hlen : (txt n).length ≤ 1000000 := by
   unfold txt
   split
   ·simp
   ·rename_i h0
    unfold mJ
    rw [nB]
    have a := wU n h0
    have b : 2 ^ (Lib.nDigits n - 1) ≤ 10 ^ (Lib.nDigits n - 1) := Nat.pow_le_pow_left (by decide) _
    have := aGa (Nat.le_trans b a)
    omega
  rw [aRs e (by omega) (by rw [h2]; omega), h2]
 ·rintro ⟨m, l⟩ ⟨M, rest, h⟩
  have h : TxI n m l M rest := h
  have hMn : M ≤ n := by
   rw [h.sum]
   have := Nat.le_mul_of_pos_right M (Nat.pow_pos (n := 18 * l.length) (show 0 < 10 by decide))
   omega
  have hm : m.length ≤ 100000 := by
   rw [h.m0]
   exact Nat.le_trans (aAO.2 (Nat.lt_of_le_of_lt hMn hn)) (by decide)
  show (∃ d', jJ m l = _ ∧ _) ∨ ∃ e, jJ m l = _ ∧ _
  rw [aRw hm h]
  rcases aRv (by omega) h with ⟨m', l', M', rest', k1, k2, k3⟩ | ⟨l', k1, k2, k3⟩
  ·left
   refine ⟨(m', l'), k1, ⟨M', rest', k2⟩, ?_⟩
   show nv m' < nv m
   rw [k2.m0, h.m0, rG, rG]
   exact k3
  ·right
   exact ⟨l', k1, k2, k3⟩
end Nu
end Go.Proofs
namespace Go.Proofs
open Go.Vc
set_option maxRecDepth 20000
namespace Nu
def aAn (k : Nat) (s : List Nat) : List Nat := List.replicate (k + 1 - s.length) 48 ++ s
def ptS (k : Nat) (s : List Nat) : List Nat := if 0 < k then s.take (s.length - k) ++ [46] ++ s.drop (s.length - k) else s
def sgS (neg : Bool) (q : Nat) (s : List Nat) : List Nat := if neg = true ∧ q ≠ 0 then 45 :: s else s
theorem aNl {n : Nat} (h : bl n ≤ 640000) : (txt n).length ≤ 1000000 := by
 unfold txt
 split
 ·simp
 ·rename_i h0
  unfold mJ
  rw [nB]
  have a := wU n h0
  have b : 2 ^ (Lib.nDigits n - 1) ≤ 10 ^ (Lib.nDigits n - 1) := Nat.pow_le_pow_left (by decide) _
  have := aGa (Nat.le_trans b a)
  omega
theorem aRN {n k : Nat} (h : n < 18446744073709551616 ^ k) : bl n ≤ 64 * k := aCE (by rw [← vR]; exact h)
theorem aNm (d : Dy) (q : Nat) (s : List Nat) (hs : s.length ≤ 10000000) : lP d (lb q) s = some (sgS d.1 q s, 0, ()) := by
 unfold lP sgS
 have hq : (0 : Int) < ((lb q).length : Int) ↔ q ≠ 0 := by
  constructor
  ·intro h e; rw [e, lV] at h; simp at h
  ·intro h
   have := List.length_pos_iff.2 (fun e => h (aDt.1 e))
   omega
 by_cases h : d.1 = true ∧ q ≠ 0
 ·rw [if_pos ⟨h.1, hq.2 h.2⟩, if_pos h]
  refine aC ?_ rfl
  have : (aX ⟨#[45]⟩).length = 1 := rfl
  omega
 ·rw [if_neg (fun hh => h ⟨hh.1, hq.1 hh.2⟩), if_neg h]
theorem aNn (k : Nat) (d : Dy) (q : Nat) (hk : k ≤ 60) (hq : q < 18446744073709551616 ^ 10000) : lQ (k : Int) d (lb q) = some (sgS d.1 q (ptS k (aAn k (txt q))), 0, ()) := by
 have hl := aNl (Nat.le_trans (aRN hq) (by decide))
 have ht := aRx q hq
 have hr : aL (aX ⟨#[48]⟩) (max ((k : Int) + 1 - ((txt q).length : Int)) 0) = some (List.replicate (k + 1 - (txt q).length) 48) := by
  have := aID (k + 1 - (txt q).length) (by omega)
  rw [show ((k + 1 - (txt q).length : Nat) : Int) = max ((k : Int) + 1 - ((txt q).length : Int)) 0 from by omega] at this
  exact this
 have hp : (aAn k (txt q)).length = k + 1 - (txt q).length + (txt q).length := by unfold aAn; rw [List.length_append, List.length_replicate]
 have e : List.replicate (k + 1 - (txt q).length) 48 ++ txt q = aAn k (txt q) := rfl
 unfold lQ
 simp only [ht, Option.getD_some, hr, e]
 refine aC rfl (aC (by constructor <;> omega) (aC (by constructor <;> omega) (aC rfl (aC (by rw [List.length_replicate]; omega) ?_))))
 have h1 : (aX ⟨#[46]⟩) = [46] := rfl
 unfold ptS
 by_cases h : 0 < k
 ·have en : (((aAn k (txt q)).length : Int) - (k : Int)).toNat = (aAn k (txt q)).length - k := by omega
  rw [if_pos (by omega), if_pos h, h1, en]
  have l1 : ((aAn k (txt q)).take ((aAn k (txt q)).length - k)).length = (aAn k (txt q)).length - k := by rw [List.length_take]; omega
  have l2 : ((aAn k (txt q)).drop ((aAn k (txt q)).length - k)).length = k := by rw [List.length_drop]; omega
  refine aC (by constructor <;> omega) (aC (by constructor <;> omega) (aC (by rw [l1]; simp; omega) (aC (by constructor <;> omega) (aC (by constructor <;> omega) (aC (by rw [List.length_append, l1, l2]; simp; omega) ?_)))))
  exact aNm d q _ (by rw [List.length_append, List.length_append, l1, l2]; simp; omega)
 ·rw [if_neg (by omega), if_neg h]
  exact aNm d q _ (by omega)
def txM (d : Dy) (k : Nat) : Nat := nv d.2.1 * 2 ^ (max d.2.2.1 0).toNat * 10 ^ k
def txQ (d : Dy) (k : Nat) (up : Bool) : Nat :=
 let m := txM d k
 let n := (max (-d.2.2.1) 0).toNat
 if m % 2 ^ n ≠ 0 ∧ (up != d.1) = true then m / 2 ^ n + 1 else m / 2 ^ n
def jK (d : Dy) (k : Int) (up : Bool) : List Nat × Int × Unit :=
 if oW d = false ∨ k < 0 ∨ 60 < k then ([], 1, ())
 else if 2000 < d.2.2.1 ∨ d.2.2.1 < -2000 then ([], 2, ())
 else (sgS d.1 (txQ d k.toNat up) (ptS k.toNat (aAn k.toNat (txt (txQ d k.toNat up)))), 0, ())
theorem aPZ {d : Dy} {k : Nat} (lm : Lm d.2.1) (hl : d.2.1.length ≤ 64) (he : d.2.2.1 ≤ 2000) (hk : k ≤ 60) : txM d k < 18446744073709551616 ^ 200 := by
 have h1 := nH lm
 rw [vR] at h1
 have h2 := aPU k
 unfold txM
 have h3 : nv d.2.1 * 2 ^ (max d.2.2.1 0).toNat < 2 ^ (64 * d.2.1.length) * 2 ^ (max d.2.2.1 0).toNat := Nat.mul_lt_mul_of_pos_right h1 (Nat.two_pow_pos _)
 rw [← Nat.pow_add] at h3
 have h4 := Nat.mul_lt_mul_of_lt_of_le h3 h2 (Nat.pow_pos (by decide))
 rw [← Nat.pow_add] at h4
 exact aSP 200 h4 (by omega)
theorem aJN (d : Dy) (k : Int) (up : Bool) (lm : Lm d.2.1) : iL d k up = some (jK d k up) := by
 unfold iL jK
 simp only [aA5, Option.getD_some]
 refine aC rfl ?_
 by_cases h1 : oW d = false ∨ k < 0 ∨ 60 < k
 ·rw [if_pos (by rcases h1 with h | h | h; exact .inl (.inl (by rw [h]; decide)); exact .inl (.inr h); exact .inr h), if_pos h1]; rfl
 ·have hm : oW d = true := by
   cases hh : oW d with
   | true => rfl
   | false => exact absurd (.inl hh) h1
  have hk : 0 ≤ k ∧ k ≤ 60 := by omega
  rw [if_neg (by rintro ((h | h) | h); exact h hm; omega; omega), if_neg h1]
  by_cases h2 : 2000 < d.2.2.1 ∨ d.2.2.1 < -2000
  ·rw [if_pos h2, if_pos h2]; rfl
  ·rw [if_neg h2, if_neg h2]
   obtain ⟨a1, a2, a3, a4⟩ := aBr hm
   obtain ⟨j, rfl⟩ : ∃ j : Nat, k = (j : Int) := ⟨k.toNat, by omega⟩
   rw [Int.toNat_natCast]
   have hM := aPZ (k := j) lm a1 (by omega) (by omega)
   have hpw := aPT 10 j (by decide) (by omega)
   have hL : bX d.2.1 (max d.2.2.1 0) = lb (nv d.2.1 * 2 ^ (max d.2.2.1 0).toNat) := rfl
   have hT : cY (lb (nv d.2.1 * 2 ^ (max d.2.2.1 0).toNat)) (lb (10 ^ j)) = lb (txM d j) := by
    unfold cY txM; rw [rG, rG]
   have hLl : (lb (nv d.2.1 * 2 ^ (max d.2.2.1 0).toNat)).length ≤ 200 := by
    refine aAO.2 (Nat.lt_of_le_of_lt ?_ hM)
    unfold txM
    exact Nat.le_mul_of_pos_right _ (Nat.pow_pos (by decide))
   have hPl := aPS (b := 10) (i := j) (by decide)
   have hTl := aAO.2 hM
   have hn : max (0 - d.2.2.1) 0 = ((max (-d.2.2.1) 0).toNat : Int) := by omega
   simp only [hpw, Option.getD_some, hL, hT, hn]
   have hR : gC (lb (txM d j)) ((max (-d.2.2.1) 0).toNat : Int) = lb (txM d j / 2 ^ (max (-d.2.2.1) 0).toNat) := by
    unfold gC; rw [rG, Int.toNat_natCast]
   rw [hR]
   have hqlt : txM d j / 2 ^ (max (-d.2.2.1) 0).toNat < 18446744073709551616 ^ 200 := Nat.lt_of_le_of_lt (Nat.div_le_self _ _) hM
   have hP : pL (lb (txM d j / 2 ^ (max (-d.2.2.1) 0).toNat)) [1] = lb (txM d j / 2 ^ (max (-d.2.2.1) 0).toNat + 1) := by
    unfold pL; rw [rG]; rfl
   have hbig : ∀ x, x < 18446744073709551616 ^ 200 → x + 1 < 18446744073709551616 ^ 10000 := fun x hx => by
    have : 18446744073709551616 ^ 200 < 18446744073709551616 ^ 10000 := aRM 200 10000 (by decide)
    exact Nat.lt_of_le_of_lt hx this
   refine aC ⟨by show d.2.1.length ≤ _; omega, by omega, by omega⟩ (aC rfl (aC ⟨by show (lb (nv d.2.1 * 2 ^ (max d.2.2.1 0).toNat)).length ≤ _; omega, by show (lb (10 ^ j)).length ≤ _; omega⟩ (aC (by constructor <;> omega) (aC ⟨by show (lb (txM d j)).length ≤ _; omega, by omega⟩ (aC (fun _ => by show (lb (txM d j)).length ≤ _; omega) ?_)))))
   have hc : ((0 : Int) < ((lb (txM d j)).length : Int) ∧ oB (lb (txM d j)) < ((max (-d.2.2.1) 0).toNat : Int)) ↔ txM d j % 2 ^ (max (-d.2.2.1) 0).toNat ≠ 0 := by
    by_cases h0 : txM d j = 0
    ·rw [h0, lV, Nat.zero_mod]; simp
    ·have hl := List.length_pos_iff.2 (fun e => h0 (aDt.1 e))
     have hz : oB (lb (txM d j)) = (tzn (txM d j) : Int) := by unfold oB; rw [rG, if_neg h0]
     rw [hz, ← aRo h0]
     constructor
     ·intro h; omega
     ·intro h; exact ⟨by omega, by omega⟩
   unfold txQ
   simp only
   by_cases h3 : txM d j % 2 ^ (max (-d.2.2.1) 0).toNat ≠ 0 ∧ (up != d.1) = true
   ·rw [if_pos ⟨hc.2 h3.1, h3.2⟩, if_pos h3, hP]
    have hl3 := aAO.2 hqlt
    refine aC ⟨by show (lb (txM d j / 2 ^ (max (-d.2.2.1) 0).toNat)).length ≤ _; omega, by show (1 : Nat) ≤ _; decide⟩ ?_
    exact aNn j d _ (by omega) (hbig _ hqlt)
   ·rw [if_neg (fun h => h3 ⟨hc.1 h.1, h.2⟩), if_neg h3]
    exact aNn j d _ (by omega) (Nat.lt_of_succ_lt (hbig _ hqlt))
end Nu
end Go.Proofs
namespace Go.Proofs
open Go.Vc
set_option maxRecDepth 20000
namespace Nu
end Nu
end Go.Proofs
namespace Go.Proofs
open Go.Vc
set_option maxRecDepth 20000
namespace Nu
def tJ (d : Dy) : Int := if oW d = false ∨ d.2.1.length = 0 then 0 else if d.1 = true then -1 else 1
theorem aRy (d : Dy) : dM d = some (tJ d) := by
 unfold dM tJ
 simp only [aA5, Option.getD_some]
 refine aC rfl ?_
 by_cases h : oW d = false ∨ d.2.1.length = 0
 ·rw [if_pos (by rcases h with h | h; exact .inl (by rw [h]; decide); exact .inr (by omega)), if_pos h]
 ·have hm : oW d = true := by
   cases hh : oW d with
   | true => rfl
   | false => exact absurd (.inl hh) h
  rw [if_neg (by rintro (hh | hh); exact hh hm; exact h (.inr (by omega))), if_neg h]
  by_cases hn : d.1 = true
  ·rw [if_pos hn, if_pos hn]
  ·rw [if_neg hn, if_neg hn]
def aIE (a b : Dy) : Int :=
 let x := (bl (nv a.2.1) : Int) + a.2.2.1
 let y := (bl (nv b.2.1) : Int) + b.2.2.1
 let low := min a.2.2.1 b.2.2.1
 if x < y then -1 else if y < x then 1 else aLQ (nv a.2.1 * 2 ^ (a.2.2.1 - low).toNat) (nv b.2.1 * 2 ^ (b.2.2.1 - low).toNat)
theorem size_eq (a b : Dy) (la : Lm a.2.1) (lb' : Lm b.2.1) (ha : oW a = true) (hb : oW b = true) : mS a b = some (aIE a b) := by
 obtain ⟨a1, a2, a3, a4⟩ := aBr ha
 obtain ⟨b1, b2, b3, b4⟩ := aBr hb
 have hba : bl (nv a.2.1) ≤ 64 * a.2.1.length := aCE (by rw [← vR]; exact nH la)
 have hbb : bl (nv b.2.1) ≤ 64 * b.2.1.length := aCE (by rw [← vR]; exact nH lb')
 have e1 : jT a.2.1 = (bl (nv a.2.1) : Int) := rfl
 have e2 : jT b.2.1 = (bl (nv b.2.1) : Int) := rfl
 unfold mS aIE
 rw [e1, e2]
 refine aC ⟨a2, by show a.2.1.length ≤ _; omega⟩ (aC (by constructor <;> omega) (aC ⟨b2, by show b.2.1.length ≤ _; omega⟩ (aC (by constructor <;> omega) ?_)))
 simp only
 by_cases h1 : (bl (nv a.2.1) : Int) + a.2.2.1 < (bl (nv b.2.1) : Int) + b.2.2.1
 ·rw [if_pos h1, if_pos h1]
 ·rw [if_neg h1, if_neg h1]
  by_cases h2 : (bl (nv b.2.1) : Int) + b.2.2.1 < (bl (nv a.2.1) : Int) + a.2.2.1
  ·rw [if_pos h2, if_pos h2]
  ·rw [if_neg h2, if_neg h2]
   refine aC (by constructor <;> omega) (aC ⟨by show a.2.1.length ≤ _; omega, by omega, by omega⟩ (aC (by constructor <;> omega) (aC ⟨by show b.2.1.length ≤ _; omega, by omega, by omega⟩ (aC ⟨aJd _, aJd _⟩ ?_))))
   unfold mQ bX
   rw [rG, rG]
def aP0 (a b : Dy) : Int :=
 if oW a = false ∨ oW b = false then 0
 else if tJ a < tJ b then -1
 else if tJ b < tJ a then 1
 else if tJ a = 0 then 0
 else tJ a * aIE a b
theorem aLb (a b : Dy) : -1 ≤ aIE a b ∧ aIE a b ≤ 1 := by
 unfold aIE
 simp only
 split
 ·decide
 ·split
  ·decide
  ·unfold aLQ
   split
   ·decide
   ·split <;> decide
theorem aEo (d : Dy) : tJ d = 0 ∨ tJ d = 1 ∨ tJ d = -1 := by
 unfold tJ
 split
 ·exact .inl rfl
 ·split
  ·exact .inr (.inr rfl)
  ·exact .inr (.inl rfl)
theorem aP1 (a b : Dy) (la : Lm a.2.1) (lb' : Lm b.2.1) : nA a b = some (aP0 a b) := by
 have ra := aEo a
 have rb := aEo b
 have rs := aLb a b
 unfold nA aP0
 simp only [aRy, aA5, Option.getD_some]
 refine aC rfl (aC rfl (aC rfl (aC (fun _ => rfl) ?_)))
 by_cases h : oW a = false ∨ oW b = false
 ·rw [if_pos (by rcases h with h | h; exact .inl (by rw [h]; decide); exact .inr (by rw [h]; decide)), if_pos h]
 ·have ha : oW a = true := by
   cases hh : oW a with
   | true => rfl
   | false => exact absurd (.inl hh) h
  have hb : oW b = true := by
   cases hh : oW b with
   | true => rfl
   | false => exact absurd (.inr hh) h
  rw [if_neg (by rintro (hh | hh); exact hh ha; exact hh hb), if_neg h]
  by_cases h1 : tJ a < tJ b
  ·rw [if_pos ⟨by omega, h1⟩, if_pos h1]
  ·rw [if_neg (fun hh => h1 hh.2), if_neg h1]
   by_cases h2 : tJ b < tJ a
   ·rw [if_pos (by omega), if_pos h2]
   ·rw [if_neg (by omega), if_neg h2]
    by_cases h3 : tJ a = 0
    ·rw [if_pos h3, if_pos h3]
    ·rw [if_neg h3, if_neg h3]
     simp only [size_eq a b la lb' ha hb, Option.getD_some]
     refine aC rfl (aC ?_ rfl)
     rcases ra with r | r | r <;> rw [r] <;> constructor <;> omega
end Nu
end Go.Proofs
