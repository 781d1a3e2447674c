import Derived.Test.YtkihplehmkbfaaaGreatDoorZS1
import Derived.Test.YtkihplehmkbfaaaGreatDoorZL5
set_option linter.unusedVariables false
set_option linter.unusedSimpArgs false
namespace Go.Proofs
open Go.Vc
set_option maxRecDepth 20000
namespace Nu
structure DgN (X V P v1 v0 U2 U1 U0 : Nat) : Prop where
 hP : 0 < P
 hX : X / P = (U2 * 18446744073709551616 + U1) * 18446744073709551616 + U0
 hV : V / P = v1 * 18446744073709551616 + v0
 v1l : 9223372036854775808 ≤ v1
 v1h : v1 < 18446744073709551616
 v0h : v0 < 18446744073709551616
 u2h : U2 < 18446744073709551616
 u1h : U1 < 18446744073709551616
 u0h : U0 < 18446744073709551616
 hq : X < 18446744073709551616 * V
variable {X V P v1 v0 U2 U1 U0 : Nat}
theorem aX2 (h : DgN X V P v1 v0 U2 U1 U0) : U2 ≤ v1 := by
 have h1 : V < (V / P + 1) * P := by rw [Nat.mul_comm]; exact Nat.lt_mul_div_succ V h.hP
 have h2 : X / P < 18446744073709551616 * (V / P + 1) := by
  refine (Nat.div_lt_iff_lt_mul h.hP).2 (Nat.lt_of_lt_of_le h.hq ?_)
  rw [Nat.mul_assoc]
  exact Nat.mul_le_mul_left _ (Nat.le_of_lt h1)
 rw [h.hX, h.hV] at h2
 have a := h.v0h
 have b := h.u0h
 have c := h.u1h
 omega
theorem aXq (h : DgN X V P v1 v0 U2 U1 U0) : X / V * (v1 * 18446744073709551616 + v0) ≤ (U2 * 18446744073709551616 + U1) * 18446744073709551616 + U0 := by
 rw [← h.hX, ← h.hV]
 refine (Nat.le_div_iff_mul_le h.hP).2 ?_
 rw [Nat.mul_assoc]
 exact Nat.le_trans (Nat.mul_le_mul_left _ (Nat.div_mul_le_self V P)) (Nat.div_mul_le_self X V)
theorem mul_two (x v1 v0 : Nat) : x * (v1 * 18446744073709551616 + v0) = x * v1 * 18446744073709551616 + x * v0 := by rw [Nat.mul_add, Nat.mul_assoc]
theorem aX3 (h : DgN X V P v1 v0 U2 U1 U0) : X / V ≤ (U2 * 18446744073709551616 + U1) / v1 := by
 refine (Nat.le_div_iff_mul_le (by have := h.v1l; omega)).2 ?_
 have h1 := aXq h
 rw [mul_two] at h1
 have b := h.u0h
 generalize X / V * v1 = A at *
 generalize X / V * v0 = C at *
 omega
theorem aX4 (h : DgN X V P v1 v0 U2 U1 U0) : X / V < 18446744073709551616 := (Nat.div_lt_iff_lt_mul (by
 have := h.hq
 rcases Nat.eq_zero_or_pos V with h0 | h0
 ·subst h0; simp at this
 ·exact h0)).2 h.hq
theorem aRY (h : DgN X V P v1 v0 U2 U1 U0) {x : Nat} (hx : x < 18446744073709551616) (hl : x * (v1 * 18446744073709551616 + v0) ≤ (U2 * 18446744073709551616 + U1) * 18446744073709551616 + U0) : x ≤ X / V + 1 := by
 rcases x with _ | y
 ·exact Nat.zero_le _
 refine Nat.succ_le_succ ?_
 have hVp : 0 < V := by
  rcases Nat.eq_zero_or_pos V with h0 | h0
  ·have := h.hq; subst h0; simp at this
  ·exact h0
 refine (Nat.le_div_iff_mul_le hVp).2 ?_
 rw [← h.hX, ← h.hV] at hl
 have e := Nat.div_add_mod V P
 have m := Nat.mod_lt V h.hP
 have h1 : (y + 1) * (V / P) * P ≤ X := Nat.le_trans (Nat.mul_le_mul_right P hl) (Nat.div_mul_le_self X P)
 have h2 : y * (V % P) ≤ 18446744073709551616 * P := Nat.mul_le_mul (by omega) (Nat.le_of_lt m)
 have h3 : 18446744073709551616 * P ≤ V / P * P := Nat.mul_le_mul_right _ (by rw [h.hV]; have := h.v1l; omega)
 have h4 : y * V = y * (V / P) * P + y * (V % P) := by
  conv => lhs; rw [← e]
  rw [Nat.mul_add, Nat.mul_comm P, Nat.mul_assoc]
 rw [h4]
 rw [Nat.add_mul, Nat.add_mul, Nat.one_mul] at h1
 generalize y * (V / P) * P = A at *
 generalize y * (V % P) = C at *
 generalize V / P * P = D at *
 generalize 18446744073709551616 * P = E at *
 omega
structure DgL (v1 U2 U1 Q x rest over : Nat) : Prop where
 eq : x * v1 + (rest + over * 18446744073709551616) = U2 * 18446744073709551616 + U1
 r1 : rest < 18446744073709551616
 o1 : over ≤ 1
 x1 : x < 18446744073709551616
 ge : Q ≤ x
theorem aUS {A C hi lo r u2 u1 u0 : Nat} (d : 18446744073709551616 * hi + lo = C) (m : lo < 18446744073709551616) (e : A + (r + 0 * 18446744073709551616) = u2 * 18446744073709551616 + u1) (hr : r < 18446744073709551616) (hu : u0 < 18446744073709551616) : (hi < r ∨ hi = r ∧ lo ≤ u0) ↔ A * 18446744073709551616 + C ≤ (u2 * 18446744073709551616 + u1) * 18446744073709551616 + u0 := by
 have e2 : (u2 * 18446744073709551616 + u1) * 18446744073709551616 = A * 18446744073709551616 + r * 18446744073709551616 := by rw [← e, Nat.zero_mul, Nat.add_zero, Nat.add_mul]
 rw [e2]
 omega
theorem aUT {A r v1 u2 u1 : Nat} (e : A + 1 * v1 + (r + 0 * 18446744073709551616) = u2 * 18446744073709551616 + u1) : A + ((r + v1 + 0) % 18446744073709551616 + (r + v1 + 0) / 18446744073709551616 * 18446744073709551616) = u2 * 18446744073709551616 + u1 := by
 have d := Nat.div_add_mod (r + v1 + 0) 18446744073709551616
 omega
theorem aUU {Q x rest : Nat} (hv0 : v0 < 18446744073709551616) (hu0 : U0 < 18446744073709551616) (h : DgL v1 U2 U1 Q x rest 0) : (x * v0 / 18446744073709551616 < rest ∨ x * v0 / 18446744073709551616 = rest ∧ x * v0 % 18446744073709551616 ≤ U0) ↔ x * (v1 * 18446744073709551616 + v0) ≤ (U2 * 18446744073709551616 + U1) * 18446744073709551616 + U0 := by
 have e := h.eq
 rw [mul_two]
 have d := Nat.div_add_mod (x * v0) 18446744073709551616
 have m := Nat.mod_lt (x * v0) (show 0 < 18446744073709551616 by decide)
 exact aUS d m e h.r1 hu0
theorem aWM {Q x rest : Nat} (hv0 : v0 < 18446744073709551616) (h : DgL v1 U2 U1 Q x rest 1) : x * (v1 * 18446744073709551616 + v0) ≤ (U2 * 18446744073709551616 + U1) * 18446744073709551616 + U0 := by
 have e := h.eq
 have r := h.r1
 have p : x * v0 ≤ 18446744073709551615 * 18446744073709551615 := Nat.mul_le_mul (by have := h.x1; omega) (by omega)
 rw [mul_two]
 generalize x * v1 = A at *
 generalize x * v0 = C at *
 omega
theorem aUV {Q x rest : Nat} (hv1 : v1 < 18446744073709551616) (hQ : Q * (v1 * 18446744073709551616 + v0) ≤ (U2 * 18446744073709551616 + U1) * 18446744073709551616 + U0) (h : DgL v1 U2 U1 Q x rest 0) (hc : ¬ x * (v1 * 18446744073709551616 + v0) ≤ (U2 * 18446744073709551616 + U1) * 18446744073709551616 + U0) :
  lR .u64 x 1 = x - 1 ∧ x - 1 < x ∧ DgL v1 U2 U1 Q (x - 1) ((rest + v1 + 0) % 18446744073709551616) ((rest + v1 + 0) / 18446744073709551616) := by
 have hlt : Q < x := by
  refine Nat.lt_of_mul_lt_mul_right (a := v1 * 18446744073709551616 + v0) ?_
  omega
 have e := h.eq
 have r := h.r1
 have x1 := h.x1
 obtain ⟨y, rfl⟩ : ∃ y, x = y + 1 := ⟨x - 1, by omega⟩
 rw [Nat.add_mul] at e
 refine ⟨aOL x1 (by omega), by omega, ⟨?_, Nat.mod_lt _ (by decide), by omega, by omega, by omega⟩⟩
 exact aUT e
theorem aUW {v o : List Nat} {j un : Nat} (hn : 2 ≤ v.length) (hs : v.length ≤ 9000000000000) (hu : un = v.length + 1) (ho : j + un ≤ o.length)
  (h : DgN X V P (v.getD (v.length - 1) 0) (v.getD (v.length - 2) 0) U2 U1 (o.getD (j + (v.length - 2)) 0)) {x rest over : Nat} (hi : DgL (v.getD (v.length - 1) 0) U2 U1 (X / V) x rest over) :
  ∃ e, eQ (fun d : Nat × Nat × Nat => mC v un j o d.1 d.2.1 d.2.2) (x, rest, over) = some e ∧ X / V ≤ e ∧ e ≤ X / V + 1 ∧ e < 18446744073709551616 := by
 have e1 : ((v.length : Int) - 1).toNat = v.length - 1 := by omega
 have e2 : ((v.length : Int) - 2).toNat = v.length - 2 := by omega
 refine lV (step := fun d : Nat × Nat × Nat => mC v un j o d.1 d.2.1 d.2.2) (I := fun d => DgL (v.getD (v.length - 1) 0) U2 U1 (X / V) d.1 d.2.1 d.2.2) (fun d => d.1) (fun e => X / V ≤ e ∧ e ≤ X / V + 1 ∧ e < 18446744073709551616) ?_ (x, rest, over) hi
 rintro ⟨x, rest, over⟩ hi
 have hi : DgL (v.getD (v.length - 1) 0) U2 U1 (X / V) x rest over := hi
 show (∃ d', mC v un j o x rest over = _ ∧ _) ∨ ∃ e, mC v un j o x rest over = _ ∧ _
 unfold mC
 rw [e1, e2]
 by_cases h0 : over = 0
 ·subst h0
  have ht := aUU h.v0h h.u0h hi
  rw [if_pos rfl]
  by_cases hc : x * (v.getD (v.length - 1) 0 * 18446744073709551616 + v.getD (v.length - 2) 0) ≤ (U2 * 18446744073709551616 + U1) * 18446744073709551616 + o.getD (j + (v.length - 2)) 0
  ·right
   refine ⟨x, ?_, hi.ge, aRY h hi.x1 hc, hi.x1⟩
   refine aB (by constructor <;> omega) (aB (by constructor <;> omega) (aB (fun _ _ => by constructor <;> omega) (aB (fun _ _ => by omega) ?_)))
   exact (if_pos (ht.2 hc))
  ·left
   obtain ⟨s1, s2, s3⟩ := aUV h.v1h (aXq h) hi hc
   refine ⟨(x - 1, (rest + v.getD (v.length - 1) 0 + 0) % 18446744073709551616, (rest + v.getD (v.length - 1) 0 + 0) / 18446744073709551616), ?_, s3, s2⟩
   refine aB (by constructor <;> omega) (aB (by constructor <;> omega) (aB (fun _ _ => by constructor <;> omega) (aB (fun _ _ => by omega) ?_)))
   refine (if_neg (fun hh => hc (ht.1 hh))).trans ?_
   rw [s1]
   exact aB (by constructor <;> omega) (aB (by constructor <;> omega) (aB (Nat.zero_le _) rfl))
 ·right
  have h1 : over = 1 := by have := hi.o1; omega
  subst h1
  exact ⟨x, by rw [if_neg h0], hi.ge, aRY h hi.x1 (aWM h.v0h hi), hi.x1⟩
end Nu
end Go.Proofs
namespace Go.Proofs
open Go.Vc
set_option maxRecDepth 20000
namespace Nu
theorem aPd {x y c b o lo hi z c' d b' : Nat} (e : 18446744073709551616 * hi + lo = x * y) (hlo : lo < 18446744073709551616) (hp : x * y ≤ 18446744073709551615 * 18446744073709551615) (hc : c < 18446744073709551616) (hb : b ≤ 1) (ho : o < 18446744073709551616)
  (hz : z = (lo + c + 0) % 18446744073709551616) (hc' : c' = (hi + (lo + c + 0) / 18446744073709551616) % 18446744073709551616) (hd : d = (o + 18446744073709551616 - z - b) % 18446744073709551616) (hb' : b' = if o < z + b then 1 else 0) :
  d + x * y + c + b = o + 18446744073709551616 * (c' + b') ∧ d < 18446744073709551616 ∧ c' < 18446744073709551616 ∧ b' ≤ 1 := by
 generalize x * y = w at *
 subst hz hc' hd hb'
 split <;> omega
theorem aX5 {N N' N0 Q R P o d c b c' b' x y t : Nat} (hP : P = Q * R) (h1 : N' + P * o = N + P * d) (h2 : N + Q * x * t = N0 + P * (c + b)) (h3 : d + x * y + c + b = o + 18446744073709551616 * (c' + b')) : N' + Q * x * (t + R * y) = N0 + P * 18446744073709551616 * (c' + b') := by
 have e := congrArg (P * ·) h3
 simp only [Nat.mul_add] at e
 have e2 : P * (x * y) = Q * x * (R * y) := by
  rw [hP, Nat.mul_assoc, Nat.mul_assoc]; congr 1; rw [Nat.mul_left_comm]
 rw [Nat.mul_add] at h2 ⊢
 rw [Nat.mul_assoc P 18446744073709551616, Nat.mul_add 18446744073709551616, Nat.mul_add P]
 omega
theorem aX6 {N N' N0 Q R P o d c c' y t : Nat} (hP : P = Q * R) (h1 : N' + P * o = N + P * d) (h2 : N + P * c = N0 + Q * t) (h3 : d + 18446744073709551616 * c' = o + y + c) : N' + P * 18446744073709551616 * c' = N0 + Q * (t + R * y) := by
 have e := congrArg (P * ·) h3
 simp only [Nat.mul_add] at e
 have e2 : P * y = Q * (R * y) := by rw [hP, Nat.mul_assoc]
 rw [Nat.mul_add, Nat.mul_assoc P 18446744073709551616]
 omega
structure MsI (v u : List Nat) (x j : Nat) (c b : Nat) (i : Int) (w : List Nat) : Prop where
 i0 : 0 ≤ i
 i1 : i ≤ v.length
 len : w.length = u.length
 lm : Lm w
 c1 : c < 18446744073709551616
 b1 : b ≤ 1
 rest : w.drop (j + i.toNat) = u.drop (j + i.toNat)
 sum : nv w + 18446744073709551616 ^ j * x * nv (v.take i.toNat) = nv u + 18446744073709551616 ^ (j + i.toNat) * (c + b)
structure AbI (v u : List Nat) (j : Nat) (c : Nat) (i : Int) (w : List Nat) : Prop where
 i0 : 0 ≤ i
 i1 : i ≤ v.length
 len : w.length = u.length
 lm : Lm w
 c1 : c ≤ 1
 rest : w.drop (j + i.toNat) = u.drop (j + i.toNat)
 sum : nv w + 18446744073709551616 ^ (j + i.toNat) * c = nv u + 18446744073709551616 ^ j * nv (v.take i.toNat)
theorem aUX {v u : List Nat} {x j c b : Nat} {i : Int} {w : List Nat} (hl : j + v.length < u.length) (h : MsI v u x j c b i w) (hi : i < v.length) {d c' b' : Nat} (hd : d < 18446744073709551616) (hc' : c' < 18446744073709551616) (hb' : b' ≤ 1)
  (e : d + x * v.getD i.toNat 0 + c + b = w.getD (j + i.toNat) 0 + 18446744073709551616 * (c' + b')) : MsI v u x j c' b' (i + 1) (w.set (j + i.toNat) d) := by
 have h0 := h.i0
 have hlen := h.len
 have e1 : (i + 1).toNat = i.toNat + 1 := by omega
 refine ⟨by omega, by omega, by rw [List.length_set]; exact hlen, xH h.lm _ hd, hc', hb', ?_, ?_⟩
 ·rw [e1, ← Nat.add_assoc, drop_set]; exact yO h.rest
 ·rw [e1, pF, ← Nat.add_assoc, Nat.pow_succ]
  exact aX5 (R := 18446744073709551616 ^ i.toNat) (Nat.pow_add _ _ _) (aAI (by omega)) h.sum e
theorem aUY {v u : List Nat} {j c : Nat} {i : Int} {w : List Nat} (hl : j + v.length < u.length) (h : AbI v u j c i w) (hi : i < v.length) {d c' : Nat} (hd : d < 18446744073709551616) (hc' : c' ≤ 1)
  (e : d + 18446744073709551616 * c' = w.getD (j + i.toNat) 0 + v.getD i.toNat 0 + c) : AbI v u j c' (i + 1) (w.set (j + i.toNat) d) := by
 have h0 := h.i0
 have hlen := h.len
 have e1 : (i + 1).toNat = i.toNat + 1 := by omega
 refine ⟨by omega, by omega, by rw [List.length_set]; exact hlen, xH h.lm _ hd, hc', ?_, ?_⟩
 ·rw [e1, ← Nat.add_assoc, drop_set]; exact yO h.rest
 ·rw [e1, pF, ← Nat.add_assoc, Nat.pow_succ]
  exact aX6 (R := 18446744073709551616 ^ i.toNat) (Nat.pow_add _ _ _) (aAI (by omega)) h.sum e
theorem aS1 {v u : List Nat} {x j un : Nat} (lv : Lm v) (hx : x < 18446744073709551616) (hs : v.length ≤ 9000000000000) (hu : un = v.length + 1) (ho : j + un ≤ u.length) (lu : Lm u) :
  ∃ e, eQ (fun d : Nat × Nat × Int × (List Nat) => kE v x un j d.1 d.2.1 d.2.2.1 d.2.2.2) (0, 0, 0, u) = some e ∧ MsI v u x j e.1 e.2.1 v.length e.2.2 := by
 refine lV (step := fun d : Nat × Nat × Int × (List Nat) => kE v x un j d.1 d.2.1 d.2.2.1 d.2.2.2) (I := fun d => MsI v u x j d.1 d.2.1 d.2.2.1 d.2.2.2) (fun d => (v.length - d.2.2.1).toNat) (fun e => MsI v u x j e.1 e.2.1 v.length e.2.2) ?_ (0, 0, 0, u) ⟨by simp, by simp, rfl, lu, by simp, by simp, rfl, by simp [nv]⟩
 rintro ⟨c, b, i, w⟩ h
 have h : MsI v u x j c b i w := h
 have h0 := h.i0
 have hlen := h.len
 show (∃ d', kE v x un j c b i w = _ ∧ _) ∨ ∃ e, kE v x un j c b i w = _ ∧ _
 unfold kE
 by_cases hi : i < v.length
 ·left
  have hy := gB lv i.toNat
  have hw := gB h.lm (j + i.toNat)
  have hb := h.b1
  obtain ⟨k1, k2, k3, k4⟩ := aPd (b' := if w.getD (j + i.toNat) 0 < (x * v.getD i.toNat 0 % 18446744073709551616 + c + 0) % 18446744073709551616 + b then 1 else 0) (Nat.div_add_mod (x * v.getD i.toNat 0) 18446744073709551616) (Nat.mod_lt _ (by decide)) (Nat.mul_le_mul (by omega) (by omega)) h.c1 hb hw rfl rfl rfl rfl
  refine ⟨((x * v.getD i.toNat 0 / 18446744073709551616 + (x * v.getD i.toNat 0 % 18446744073709551616 + c + 0) / 18446744073709551616) % 18446744073709551616, (if w.getD (j + i.toNat) 0 < (x * v.getD i.toNat 0 % 18446744073709551616 + c + 0) % 18446744073709551616 + b then 1 else 0), i + 1, w.set (j + i.toNat) ((w.getD (j + i.toNat) 0 + 18446744073709551616 - (x * v.getD i.toNat 0 % 18446744073709551616 + c + 0) % 18446744073709551616 - b) % 18446744073709551616)), ?_, aUX (by omega) h hi k2 k3 k4 k1, by simp only; omega⟩
  rw [if_pos hi]
  exact aB (by constructor <;> omega) (aB (Nat.zero_le _) (aB (by constructor <;> omega) (aB (by omega) (aB hb (aB (by constructor <;> omega) (aB (by omega) (aB (by constructor <;> omega) rfl)))))))
 ·right
  refine ⟨(c, b, w), by rw [if_neg hi], ?_⟩
  have e : i = v.length := by have := h.i1; omega
  rw [e] at h
  exact h
theorem aS2 {v u : List Nat} {j un : Nat} (lv : Lm v) (hs : v.length ≤ 9000000000000) (hu : un = v.length + 1) (ho : j + un ≤ u.length) (lu : Lm u) :
  ∃ e, eQ (fun d : Nat × Int × (List Nat) => kD v un j d.1 d.2.1 d.2.2) (0, 0, u) = some e ∧ AbI v u j e.1 v.length e.2 := by
 refine lV (step := fun d : Nat × Int × (List Nat) => kD v un j d.1 d.2.1 d.2.2) (I := fun d => AbI v u j d.1 d.2.1 d.2.2) (fun d => (v.length - d.2.1).toNat) (fun e => AbI v u j e.1 v.length e.2) ?_ (0, 0, u) ⟨by simp, by simp, rfl, lu, by simp, rfl, by simp [nv]⟩
 rintro ⟨c, i, w⟩ h
 have h : AbI v u j c i w := h
 have h0 := h.i0
 have hlen := h.len
 show (∃ d', kD v un j c i w = _ ∧ _) ∨ ∃ e, kD v un j c i w = _ ∧ _
 unfold kD
 by_cases hi : i < v.length
 ·left
  have hy := gB lv i.toNat
  have hw := gB h.lm (j + i.toNat)
  have hc := h.c1
  have k1 := Nat.div_add_mod (w.getD (j + i.toNat) 0 + v.getD i.toNat 0 + c) 18446744073709551616
  refine ⟨(_, _, _), ?_, aUY (d := (w.getD (j + i.toNat) 0 + v.getD i.toNat 0 + c) % 18446744073709551616) (c' := (w.getD (j + i.toNat) 0 + v.getD i.toNat 0 + c) / 18446744073709551616) (by omega) h hi (Nat.mod_lt _ (by decide)) (by omega) (by rw [Nat.add_comm]; exact k1), by simp only; omega⟩
  rw [if_pos hi]
  refine aB (by constructor <;> omega) (aB (by constructor <;> omega) (aB (by omega) (aB hc (aB (by constructor <;> omega) (aB (by omega) (aB (by constructor <;> omega) ?_))))))
  simp only [gO]
 ·right
  refine ⟨(c, w), by rw [if_neg hi], ?_⟩
  have e : i = v.length := by have := h.i1; omega
  rw [e] at h
  exact h
theorem aRZ {w u : List Nat} {K : Nat} (lw : Lm w) (lu : Lm u) (h : w.drop K = u.drop K) (hu : nv u < 18446744073709551616 ^ K) : nv w < 18446744073709551616 ^ K := by
 have hp : 0 < 18446744073709551616 ^ K := Nat.pow_pos (by decide)
 have h1 := aFi lw K
 rw [h, aFi lu, Nat.div_eq_of_lt hu] at h1
 exact (Nat.div_eq_zero_iff_lt hp).1 h1.symm
theorem aUZ {N N3 W x : Nat} {Q : Nat} (hW : 0 < W) (hQ : Q = N / W) (hx : Q ≤ x) (h : N3 + x * W = N) : x = Q ∧ N3 + Q * W = N := by
 have h1 : x ≤ N / W := (Nat.le_div_iff_mul_le hW).2 (by omega)
 have : x = Q := by omega
 subst this
 exact ⟨rfl, h⟩
theorem aWN {N N3 N4 N5 W x T S o4 c : Nat} {Q : Nat} (hQ : Q = N / W) (hx1 : Q ≤ x) (hx2 : x ≤ Q + 1) (h3 : N3 + x * W = N + T) (hT3 : N3 < T) (h4 : N4 + S * c = N3 + W) (h5 : N5 + S * o4 = N4 + S * ((o4 + c) % 18446744073709551616)) (hT5 : N5 < T) (hT : T = S * 18446744073709551616) (ho : o4 < 18446744073709551616) (hc : c ≤ 1) :
  x = Q + 1 ∧ N5 + Q * W = N := by
 have hle : Q * W ≤ N := by rw [hQ]; exact Nat.div_mul_le_self N W
 have hx : x = Q + 1 := by
  rcases Nat.lt_or_ge Q x with h | h
  ·omega
  ·have : x = Q := by omega
   subst this
   omega
 subst hx
 refine ⟨rfl, ?_⟩
 rw [Nat.add_mul, Nat.one_mul] at h3
 rcases Nat.lt_or_ge (o4 + c) 18446744073709551616 with h | h
 ·rw [Nat.mod_eq_of_lt h, Nat.mul_add] at h5
  omega
 ·have e : (o4 + c) % 18446744073709551616 = 0 := by omega
  have e2 : S * 18446744073709551616 = S * o4 + S * c := by rw [← Nat.mul_add]; congr 1; omega
  rw [e, Nat.mul_zero, Nat.add_zero] at h5
  omega
theorem aLl {v u : List Nat} {j un : Nat} (lv : Lm v) (lu : Lm u) (hn : 2 ≤ v.length) (hs : v.length ≤ 9000000000000) (hu : un = v.length + 1) (ho : j + un ≤ u.length)
  (hv : 9223372036854775808 ≤ v.getD (v.length - 1) 0) (hq : nv u < 18446744073709551616 ^ (j + 1) * nv v) :
  ∃ w, tB j un v u = some (nv u / (18446744073709551616 ^ j * nv v), w) ∧ w.length = u.length ∧ Lm w ∧ nv w + nv u / (18446744073709551616 ^ j * nv v) * (18446744073709551616 ^ j * nv v) = nv u := by
 have hVB := kP lv
 have hJ : 0 < 18446744073709551616 ^ j := Nat.pow_pos (by decide)
 have hX : nv u / 18446744073709551616 ^ j < 18446744073709551616 * nv v := (Nat.div_lt_iff_lt_mul hJ).2 (by rw [Nat.pow_succ, Nat.mul_assoc] at hq; rw [Nat.mul_comm]; exact hq)
 have hqq : nv u / 18446744073709551616 ^ j / nv v = nv u / (18446744073709551616 ^ j * nv v) := Nat.div_div_eq_div_mul _ _ _
 have hNT : nv u < 18446744073709551616 ^ (j + v.length + 1) := by
  refine Nat.lt_of_lt_of_le hq ?_
  rw [show j + v.length + 1 = j + 1 + v.length from by omega, Nat.pow_add _ (j + 1)]
  exact Nat.mul_le_mul_left _ (Nat.le_of_lt hVB)
 have hD : DgN (nv u / 18446744073709551616 ^ j) (nv v) (18446744073709551616 ^ (v.length - 2)) (v.getD (v.length - 1) 0) (v.getD (v.length - 2) 0) (u.getD (j + v.length) 0) (u.getD (j + (v.length - 1)) 0) (u.getD (j + (v.length - 2)) 0) := by
  refine ⟨Nat.pow_pos (by decide), ?_, ?_, hv, gB lv _, gB lv _, gB lu _, gB lu _, gB lu _, hX⟩
  ·have e1 : j + (v.length - 1) = j + (v.length - 2) + 1 := by omega
   have e2 : j + v.length = j + (v.length - 2) + 1 + 1 := by omega
   have hz : nv u / 18446744073709551616 ^ (j + (v.length - 2)) < 18446744073709551616 * 18446744073709551616 * 18446744073709551616 := by
    refine (Nat.div_lt_iff_lt_mul (Nat.pow_pos (by decide))).2 ?_
    rw [show j + v.length + 1 = j + (v.length - 2) + 1 + 1 + 1 from by omega, Nat.pow_succ, Nat.pow_succ, Nat.pow_succ] at hNT
    rw [Nat.mul_comm, ← Nat.mul_assoc, ← Nat.mul_assoc]
    exact hNT
   rw [qE lu, qE lu, qE lu, e1, e2, Nat.pow_succ, Nat.pow_succ, ← Nat.div_div_eq_div_mul, ← Nat.div_div_eq_div_mul, Nat.div_div_eq_div_mul _ (18446744073709551616 ^ j), ← Nat.pow_add]
   generalize nv u / 18446744073709551616 ^ (j + (v.length - 2)) = z at *
   omega
  ·have hz : nv v / 18446744073709551616 ^ (v.length - 2) < 18446744073709551616 * 18446744073709551616 := by
    refine (Nat.div_lt_iff_lt_mul (Nat.pow_pos (by decide))).2 ?_
    have h := hVB
    rw [show v.length = v.length - 2 + 1 + 1 from by omega, Nat.pow_succ, Nat.pow_succ] at h
    rw [Nat.mul_comm, ← Nat.mul_assoc]
    exact h
   rw [qE lv, qE lv, show v.length - 1 = v.length - 2 + 1 from by omega, Nat.pow_succ, ← Nat.div_div_eq_div_mul]
   generalize nv v / 18446744073709551616 ^ (v.length - 2) = z at *
   omega
 have e1 : ((v.length : Int) - 1).toNat = v.length - 1 := by omega
 rw [← hqq]
 have hV0 : 0 < nv v := by
  rcases Nat.eq_zero_or_pos (nv v) with h | h
  ·rw [h] at hq; simp at hq
  ·exact h
 have hW : 0 < 18446744073709551616 ^ j * nv v := Nat.mul_pos hJ hV0
 have main : ∀ x, nv u / 18446744073709551616 ^ j / nv v ≤ x → x ≤ nv u / 18446744073709551616 ^ j / nv v + 1 → x < 18446744073709551616 → ∃ w, qO v un j u x = some (nv u / 18446744073709551616 ^ j / nv v, w) ∧ w.length = u.length ∧ Lm w ∧ nv w + nv u / 18446744073709551616 ^ j / nv v * (18446744073709551616 ^ j * nv v) = nv u := by
  intro x hx1 hx2 hx3
  obtain ⟨⟨c, b, w⟩, m1, m2⟩ := aS1 (j := j) lv hx3 hs hu ho lu
  have m2 : MsI v u x j c b v.length w := m2
  have hlen := m2.len
  have ho2 := gB m2.lm (j + v.length)
  have hc := m2.c1
  have hb := m2.b1
  have hrest := m2.rest
  have hsum := m2.sum
  rw [Int.toNat_natCast] at hrest hsum
  rw [List.take_length] at hsum
  have hset := aAI (a := w) (k := j + v.length) (v := (w.getD (j + v.length) 0 + 18446744073709551616 - c - b) % 18446744073709551616) (by omega)
  have lw2 : Lm (w.set (j + v.length) ((w.getD (j + v.length) 0 + 18446744073709551616 - c - b) % 18446744073709551616)) := xH m2.lm _ (Nat.mod_lt _ (by decide))
  have hr2 : (w.set (j + v.length) ((w.getD (j + v.length) 0 + 18446744073709551616 - c - b) % 18446744073709551616)).drop (j + v.length + 1) = u.drop (j + v.length + 1) := by
   rw [drop_set]; exact yO hrest
  have hT3 := aRZ lw2 lu hr2 hNT
  have hx : 18446744073709551616 ^ j * x * nv v = x * (18446744073709551616 ^ j * nv v) := by rw [Nat.mul_comm (18446744073709551616 ^ j) x, Nat.mul_assoc]
  rw [hx] at hsum
  unfold qO
  rw [m1]
  simp only [Option.bind_some]
  unfold uH
  by_cases hbo : w.getD (j + v.length) 0 < c + b
  ·
   have hd : (w.getD (j + v.length) 0 + 18446744073709551616 - c - b) % 18446744073709551616 + c + b = w.getD (j + v.length) 0 + 18446744073709551616 := by omega
   have h3 : nv (w.set (j + v.length) ((w.getD (j + v.length) 0 + 18446744073709551616 - c - b) % 18446744073709551616)) + x * (18446744073709551616 ^ j * nv v) = nv u + 18446744073709551616 ^ (j + v.length + 1) := by
    have e := congrArg (18446744073709551616 ^ (j + v.length) * ·) hd
    simp only [Nat.mul_add] at e hsum
    rw [Nat.pow_succ]
    omega
   have hb1 : ¬ (zE (w.getD (j + v.length) 0) c b).2.1 = 0 := by show ¬ (if w.getD (j + v.length) 0 < c + b then 1 else 0) = 0; rw [if_pos hbo]; decide
   have hl3 : (w.set (j + v.length) ((w.getD (j + v.length) 0 + 18446744073709551616 - c - b) % 18446744073709551616)).length = u.length := by rw [List.length_set]; exact hlen
   obtain ⟨w3, hw3⟩ : ∃ w3, w3 = w.set (j + v.length) ((w.getD (j + v.length) 0 + 18446744073709551616 - c - b) % 18446744073709551616) := ⟨_, rfl⟩
   have hw3' : w.set (j + v.length) (zE (w.getD (j + v.length) 0) c b).1 = w3 := hw3.symm
   rw [← hw3] at h3 hT3 lw2 hr2 hl3
   obtain ⟨⟨c4, w4⟩, n1, n2⟩ := aS2 (u := w3) (j := j) lv hs hu (by omega) lw2
   have n2 : AbI v w3 j c4 v.length w4 := n2
   have hl4 := n2.len
   have ho4 := gB n2.lm (j + v.length)
   have hrest4 := n2.rest
   have hsum4 := n2.sum
   rw [Int.toNat_natCast] at hrest4 hsum4
   rw [List.take_length] at hsum4
   have hset4 := aAI (a := w4) (k := j + v.length) (v := (w4.getD (j + v.length) 0 + c4) % 18446744073709551616) (by omega)
   have lw5 : Lm (w4.set (j + v.length) ((w4.getD (j + v.length) 0 + c4) % 18446744073709551616)) := xH n2.lm _ (Nat.mod_lt _ (by decide))
   have hr5 : (w4.set (j + v.length) ((w4.getD (j + v.length) 0 + c4) % 18446744073709551616)).drop (j + v.length + 1) = u.drop (j + v.length + 1) := by
    rw [drop_set, ← hr2]; exact yO hrest4
   have hT5 := aRZ lw5 lu hr5 hNT
   obtain ⟨f1, f2⟩ := aWN hqq hx1 hx2 h3 hT3 hsum4 hset4 hT5 (Nat.pow_succ ..) ho4 n2.c1
   refine ⟨_, aB (by constructor <;> omega) (aB (by omega) (aB hb (aB (by constructor <;> omega) (aB (by omega) ?_)))), ?_, lw5, f2⟩
   ·refine (if_neg hb1).trans ?_
    rw [hw3']
    refine bH n1 ?_
    unfold uG
    refine aB (by constructor <;> omega) (aB (by simp only; omega) (aB (by constructor <;> omega) (aB (by simp only; omega) ?_)))
    rw [aOL hx3 (by rw [f1]; exact Nat.succ_le_succ (Nat.zero_le _)), f1, Nat.add_sub_cancel]
   ·rw [List.length_set]; omega
  ·have hd : (w.getD (j + v.length) 0 + 18446744073709551616 - c - b) % 18446744073709551616 + c + b = w.getD (j + v.length) 0 := by omega
   have h3 : nv (w.set (j + v.length) ((w.getD (j + v.length) 0 + 18446744073709551616 - c - b) % 18446744073709551616)) + x * (18446744073709551616 ^ j * nv v) = nv u := by
    have e := congrArg (18446744073709551616 ^ (j + v.length) * ·) hd
    simp only [Nat.mul_add] at e hsum
    omega
   have hb0 : (zE (w.getD (j + v.length) 0) c b).2.1 = 0 := if_neg hbo
   obtain ⟨f1, f2⟩ := aUZ hW hqq hx1 h3
   refine ⟨_, aB (by constructor <;> omega) (aB (by omega) (aB hb (aB (by constructor <;> omega) (aB (by omega) ?_)))), ?_, lw2, f2⟩
   ·refine (if_pos hb0).trans ?_
    rw [f1]; rfl
   ·rw [List.length_set]; exact hlen
 have start : ∀ x rest over, DgL (v.getD (v.length - 1) 0) (u.getD (j + v.length) 0) (u.getD (j + (v.length - 1)) 0) (nv u / 18446744073709551616 ^ j / nv v) x rest over → ∃ w, oO v un j u x rest over = some (nv u / 18446744073709551616 ^ j / nv v, w) ∧ w.length = u.length ∧ Lm w ∧ nv w + nv u / 18446744073709551616 ^ j / nv v * (18446744073709551616 ^ j * nv v) = nv u := by
  intro x rest over hL
  obtain ⟨e, g1, g2, g3, g4⟩ := aUW hn hs hu ho hD hL
  obtain ⟨w, k1, k2⟩ := main e g2 g3 g4
  refine ⟨w, ?_, k2⟩
  unfold oO
  exact bH g1 k1
 have hu1 := gB lu (j + (v.length - 1))
 have hu2 := gB lu (j + v.length)
 have hv1 := gB lv (v.length - 1)
 have hge := aX3 hD
 have hlt := aX4 hD
 have hle := aX2 hD
 unfold tB
 rw [e1]
 by_cases hc : u.getD (j + v.length) 0 < v.getD (v.length - 1) 0
 ·have hdm := Nat.div_add_mod (u.getD (j + v.length) 0 * 18446744073709551616 + u.getD (j + (v.length - 1)) 0) (v.getD (v.length - 1) 0)
  have hml := Nat.mod_lt (u.getD (j + v.length) 0 * 18446744073709551616 + u.getD (j + (v.length - 1)) 0) (show 0 < v.getD (v.length - 1) 0 by omega)
  have hdl : (u.getD (j + v.length) 0 * 18446744073709551616 + u.getD (j + (v.length - 1)) 0) / v.getD (v.length - 1) 0 < 18446744073709551616 := by
   refine (Nat.div_lt_iff_lt_mul (by omega)).2 ?_
   have := Nat.mul_le_mul_right 18446744073709551616 (show u.getD (j + v.length) 0 + 1 ≤ v.getD (v.length - 1) 0 from hc)
   rw [Nat.mul_comm 18446744073709551616]; omega
  obtain ⟨w, k1, k2⟩ := start _ _ 0 ⟨by rw [Nat.zero_mul, Nat.add_zero, Nat.mul_comm]; exact hdm, Nat.lt_trans hml hv1, by decide, hdl, hge⟩
  refine ⟨w, ?_, k2⟩
  refine aB (by constructor <;> omega) (aB (by omega) (aB (by constructor <;> omega) (aB (by constructor <;> omega) ?_)))
  refine (if_pos hc).trans ?_
  exact aB (by constructor <;> omega) (aB (by omega) (aB (by constructor <;> omega) (aB (by constructor <;> omega) (aB (by omega) (aB (by constructor <;> omega) (aB (by constructor <;> omega) (aB hc k1)))))))
 ·have hd := Nat.div_add_mod (u.getD (j + (v.length - 1)) 0 + v.getD (v.length - 1) 0 + 0) 18446744073709551616
  obtain ⟨w, k1, k2⟩ := start 18446744073709551615 ((u.getD (j + (v.length - 1)) 0 + v.getD (v.length - 1) 0 + 0) % 18446744073709551616) ((u.getD (j + (v.length - 1)) 0 + v.getD (v.length - 1) 0 + 0) / 18446744073709551616) ⟨by omega, Nat.mod_lt _ (by decide), by omega, by decide, by omega⟩
  refine ⟨w, ?_, k2⟩
  refine aB (by constructor <;> omega) (aB (by omega) (aB (by constructor <;> omega) (aB (by constructor <;> omega) ?_)))
  refine (if_neg hc).trans ?_
  exact aB (by constructor <;> omega) (aB (by constructor <;> omega) (aB (by omega) (aB (by constructor <;> omega) (aB (by constructor <;> omega) (aB (Nat.zero_le _) k1)))))
end Nu
end Go.Proofs
namespace Go.Proofs
open Go.Vc
set_option maxRecDepth 20000
namespace Nu
abbrev uI (a b : List Nat) : Prop := Nrm a ∧ Nrm b ∧ nv b ≠ 0 ∧ a.length ≤ 1099511627776
def cA (a b : List Nat) : List Nat × List Nat × Unit := (lb (nv a / nv b), lb (nv a % nv b), ())
noncomputable def sC (b_1 : (List Nat)) (u_11 : (List Nat)) (q_12 : (List Nat)) : Option (((List Nat) × ((List Nat) × Unit))) :=
 ck (0 ≤ (b_1.length : Int) ∧ (b_1.length : Int) ≤ (u_11.length : Int)) (ck ((aGr (dE (List.take (b_1.length) u_11)) (aA (b_1.getD (((b_1.length : Int) - (1 : Int)).toNat) (0 : Nat))))) (some ((dE q_12), (dB (dE (List.take (b_1.length) u_11)) (aA (b_1.getD (((b_1.length : Int) - (1 : Int)).toNat) (0 : Nat)))), ())))
noncomputable def nB (b_1 : (List Nat)) (j_14 : Int) (u_15 : (List Nat)) (q_16 : (List Nat)) : Option ((Int × (List Nat) × (List Nat)) ⊕ (((List Nat) × (List Nat)))) :=
 if (0 : Int) ≤ j_14 then ck (I64 (j_14 + (b_1.length : Int))) (ck (I64 ((j_14 + (b_1.length : Int)) + (1 : Int))) (ck (0 ≤ j_14 ∧ j_14 < ((j_14 + (b_1.length : Int)) + (1 : Int)) ∧ ((j_14 + (b_1.length : Int)) + (1 : Int)) ≤ (u_15.length : Int)) (((tB (j_14.toNat) ((((j_14 + (b_1.length : Int)) + (1 : Int)) - j_14).toNat) (dM (bI b_1 (aA (b_1.getD (((b_1.length : Int) - (1 : Int)).toNat) (0 : Nat)))) (b_1.length : Int)) u_15)).bind (fun r_24 => ck (0 ≤ j_14 ∧ j_14 < (q_16.length : Int)) (ck (I64 (j_14 - (1 : Int))) (some (.inl ((j_14 - (1 : Int)), (r_24.2), (q_16.set (j_14.toNat) (r_24.1)))))))))) else some (.inr (u_15, q_16))
noncomputable def yA (a_0 : (List Nat)) (b_1 : (List Nat)) : Option ((List Nat) × ((List Nat) × Unit)) :=
 ck ((aRS a_0 b_1)) (if (oW a_0 b_1) < (0 : Int) then ck ((aQg a_0)) (some (([] : List Nat), (id a_0), ())) else if (b_1.length : Int) = (1 : Int) then ck ((0 : Int) < (b_1.length : Int)) (ck ((aCT a_0 (b_1.getD (0 : Nat) (0 : Nat)))) (some (((sX a_0 (b_1.getD (0 : Nat) (0 : Nat))).1), (((sX a_0 (b_1.getD (0 : Nat) (0 : Nat))).2).1), ()))) else ck (I64 ((b_1.length : Int) - (1 : Int))) (ck (0 ≤ ((b_1.length : Int) - (1 : Int)) ∧ ((b_1.length : Int) - (1 : Int)) < (b_1.length : Int)) (ck ((aHb b_1 (aA (b_1.getD (((b_1.length : Int) - (1 : Int)).toNat) (0 : Nat))))) (ck ((xZ (bI b_1 (aA (b_1.getD (((b_1.length : Int) - (1 : Int)).toNat) (0 : Nat)))) (b_1.length : Int))) (ck ((aHb a_0 (aA (b_1.getD (((b_1.length : Int) - (1 : Int)).toNat) (0 : Nat))))) (ck (I64 ((a_0.length : Int) + (1 : Int))) (ck ((xZ (bI a_0 (aA (b_1.getD (((b_1.length : Int) - (1 : Int)).toNat) (0 : Nat)))) ((a_0.length : Int) + (1 : Int)))) (ck (I64 ((a_0.length : Int) - (b_1.length : Int))) (ck (I64 (((a_0.length : Int) - (b_1.length : Int)) + (1 : Int))) (ck (0 ≤ (((a_0.length : Int) - (b_1.length : Int)) + (1 : Int))) (ck ((8 : Int) * (((a_0.length : Int) - (b_1.length : Int)) + (1 : Int)) ≤ 281474976710656) (ck (I64 ((a_0.length : Int) - (b_1.length : Int))) ((eQ (fun d : Int × (List Nat) × (List Nat) => nB b_1 d.1 d.2.1 d.2.2) (((a_0.length : Int) - (b_1.length : Int)), (dM (bI a_0 (aA (b_1.getD (((b_1.length : Int) - (1 : Int)).toNat) (0 : Nat)))) ((a_0.length : Int) + (1 : Int))), (List.replicate ((((a_0.length : Int) - (b_1.length : Int)) + (1 : Int)).toNat) (0 : Nat)))).bind (fun e => sC b_1 e.1 e.2))))))))))))))
theorem aGu {a : List Nat} {n : Int} : nv (dM a n) = nv a := by
 unfold dM; rw [aGm, aGn, Nat.mul_zero, Nat.add_zero]
theorem aJ9 {a : List Nat} {n : Int} (h : a.length ≤ n) : (dM a n).length = n.toNat := by
 unfold dM; rw [List.length_append, List.length_replicate]; omega
theorem aMF {a : List Nat} {n : Int} (h : Lm a) : Lm (dM a n) := aUE h (aGo _)
theorem aPe {b : List Nat} (lb' : Lm b) (hn : Nrm b) (h0 : nv b ≠ 0) : 0 < b.length ∧ 1 ≤ b.getD (b.length - 1) 0 ∧ b.getD (b.length - 1) 0 * 18446744073709551616 ^ (b.length - 1) ≤ nv b ∧ nv b < (b.getD (b.length - 1) 0 + 1) * 18446744073709551616 ^ (b.length - 1) := by
 have hne : b ≠ [] := fun e => h0 (by rw [e]; rfl)
 have hl : 0 < b.length := List.length_pos_iff.2 hne
 have hp : 0 < 18446744073709551616 ^ (b.length - 1) := Nat.pow_pos (by decide)
 have hge := aRQ hn hne
 have hlt := kP lb'
 have ht : b.getD (b.length - 1) 0 = nv b / 18446744073709551616 ^ (b.length - 1) := by
  rw [qE lb']
  refine Nat.mod_eq_of_lt ((Nat.div_lt_iff_lt_mul hp).2 ?_)
  rw [Nat.mul_comm, ← Nat.pow_succ, show (b.length - 1).succ = b.length from by omega]
  exact hlt
 rw [ht]
 exact ⟨hl, (Nat.le_div_iff_mul_le hp).2 (by omega), Nat.div_mul_le_self _ _, by rw [Nat.mul_comm]; exact Nat.lt_mul_div_succ _ hp⟩
theorem aS3 {b : List Nat} (lb' : Lm b) (hn : Nrm b) (h0 : nv b ≠ 0) : nv b * 2 ^ (64 - bl (b.getD (b.length - 1) 0)) < 18446744073709551616 ^ b.length ∧ 9223372036854775808 * 18446744073709551616 ^ (b.length - 1) ≤ nv b * 2 ^ (64 - bl (b.getD (b.length - 1) 0)) := by
 obtain ⟨hl, h1, h2, h3⟩ := aPe lb' hn h0
 have hb := aSS (gB lb' (b.length - 1))
 have hlow := aGp (x := b.getD (b.length - 1) 0) (by omega)
 have hlt := aDZ (b.getD (b.length - 1) 0)
 have hpos := aCS (x := b.getD (b.length - 1) 0) (by omega)
 generalize b.getD (b.length - 1) 0 = t at *
 have hp := Nat.two_pow_pos (64 - bl t)
 have e1 : 2 ^ bl t * 2 ^ (64 - bl t) = 18446744073709551616 := by rw [← Nat.pow_add, show bl t + (64 - bl t) = 64 from by omega]
 have e2 : 2 ^ (bl t - 1) * 2 ^ (64 - bl t) = 9223372036854775808 := by rw [← Nat.pow_add, show bl t - 1 + (64 - bl t) = 63 from by omega]
 constructor
 ·have k1 : (t + 1) * 2 ^ (64 - bl t) ≤ 18446744073709551616 := by rw [← e1]; exact Nat.mul_le_mul_right _ hlt
  have k2 := Nat.mul_lt_mul_of_pos_right h3 hp
  refine Nat.lt_of_lt_of_le k2 ?_
  rw [Nat.mul_right_comm, show 18446744073709551616 ^ b.length = 18446744073709551616 * 18446744073709551616 ^ (b.length - 1) from by rw [Nat.mul_comm, ← Nat.pow_succ]; congr 1; omega]
  exact Nat.mul_le_mul_right _ k1
 ·have k1 : 9223372036854775808 ≤ t * 2 ^ (64 - bl t) := by rw [← e2]; exact Nat.mul_le_mul_right _ hlow
  refine Nat.le_trans (Nat.mul_le_mul_right _ k1) ?_
  rw [Nat.mul_right_comm]
  exact Nat.mul_le_mul_right _ h2
structure QrI (m n V N : Nat) (j : Int) (u q : List Nat) : Prop where
 j0 : -1 ≤ j
 j1 : j ≤ m
 ul : u.length = m + n + 1
 lu : Lm u
 ql : q.length = m + 1
 lq : Lm q
 lt : nv u < 18446744073709551616 ^ (j + 1).toNat * V
 lo : ∃ t, nv q = 18446744073709551616 ^ (j + 1).toNat * t
 sum : nv q * V + nv u = N
theorem aU0 {m n V N : Nat} {j : Int} {u q w : List Nat} (h : QrI m n V N j u q) (hj : 0 ≤ j) (hw : w.length = u.length) (lw : Lm w) (hV : 0 < V)
  (e : nv w + nv u / (18446744073709551616 ^ j.toNat * V) * (18446744073709551616 ^ j.toNat * V) = nv u) : QrI m n V N (j - 1) w (q.set j.toNat (nv u / (18446744073709551616 ^ j.toNat * V))) := by
 have h1 := h.j1
 have hql := h.ql
 have hul := h.ul
 have e1 : (j + 1).toNat = j.toNat + 1 := by omega
 have e2 : (j - 1 + 1).toNat = j.toNat := by omega
 have hW : 0 < 18446744073709551616 ^ j.toNat * V := Nat.mul_pos (Nat.pow_pos (by decide)) hV
 have hlt := h.lt
 obtain ⟨t, ht⟩ := h.lo
 rw [e1] at hlt ht
 have hQ : nv u / (18446744073709551616 ^ j.toNat * V) < 18446744073709551616 := by
  refine (Nat.div_lt_iff_lt_mul hW).2 ?_
  rw [Nat.pow_succ, Nat.mul_comm (18446744073709551616 ^ j.toNat) 18446744073709551616, Nat.mul_assoc] at hlt
  exact hlt
 have hz : q.getD j.toNat 0 = 0 := by
  rw [qE h.lq, ht, Nat.pow_succ, Nat.mul_assoc, Nat.mul_div_cancel_left _ (Nat.pow_pos (by decide)), Nat.mul_mod_right]
 have hset := aAI (a := q) (k := j.toNat) (v := nv u / (18446744073709551616 ^ j.toNat * V)) (by omega)
 rw [hz, Nat.mul_zero, Nat.add_zero] at hset
 have hwm : nv w = nv u % (18446744073709551616 ^ j.toNat * V) := by
  have d := Nat.div_add_mod (nv u) (18446744073709551616 ^ j.toNat * V)
  rw [Nat.mul_comm] at d
  omega
 refine ⟨by omega, by omega, by omega, lw, by rw [List.length_set]; exact hql, xH h.lq _ hQ, ?_, ?_, ?_⟩
 ·rw [e2, hwm]; exact Nat.mod_lt _ hW
 ·rw [e2, hset, ht, Nat.pow_succ, Nat.mul_assoc, ← Nat.mul_add]; exact ⟨_, rfl⟩
 ·have hs := h.sum
  rw [hset, Nat.add_mul, Nat.mul_right_comm, Nat.mul_comm (18446744073709551616 ^ j.toNat * V)]
  omega
theorem aKa (a : List Nat) (wa : (Ty.sl (.u .u64)).wf a) (b : List Nat) (wb : (Ty.sl (.u .u64)).wf b) (hp : uI a b) : yA a b = some (cA a b) := by
 obtain ⟨na, nb, hb0, sa⟩ := hp
 have la := tZ wa
 have lb' := tZ wb
 obtain ⟨hl, t1, t2, t3⟩ := aPe lb' nb hb0
 obtain ⟨v1, v2⟩ := aS3 lb' nb hb0
 have h64 := aSS (gB lb' (b.length - 1))
 have hpos := aCS (x := b.getD (b.length - 1) 0) (by omega)
 unfold yA
 refine aB ⟨na, nb⟩ (aB8 (fun hc => ?_) (fun hc => aB8 (fun h1 => ?_) (fun h1 => ?_)))
 ·have hlt : nv a < nv b := by
   unfold oW zV at hc
   split at hc
   ·assumption
   ·split at hc <;> omega
  unfold cA
  rw [Nat.div_eq_of_lt hlt, Nat.mod_eq_of_lt hlt, mO, aRP la na]
  exact aB (by show a.length * 8 ≤ _; omega) rfl
 ·have hb1 : nv b = b.getD 0 0 := by
   match b, (show b.length = 1 by omega) with
   | [x], _ => rfl
  refine aB (by omega) (aB ⟨by rw [← hb1]; exact hb0, sa⟩ ?_)
  unfold sX cA
  rw [← hb1]
 ·have hge : nv b ≤ nv a := by
   unfold oW zV at hc
   split at hc
   ·omega
   ·omega
  have hlen : b.length ≤ a.length := by
   rcases Nat.lt_or_ge a.length b.length with h | h
   ·exfalso
    have k1 := kP la
    have k2 : 18446744073709551616 ^ a.length ≤ 18446744073709551616 ^ (b.length - 1) := Nat.pow_le_pow_right (by decide) (by omega)
    have k3 := aRQ nb (fun e => hb0 (by rw [e]; rfl))
    omega
   ·exact h
  have e1 : ((b.length : Int) - 1).toNat = b.length - 1 := by omega
  rw [e1]
  have hs : (aA (b.getD (b.length - 1) 0)).toNat = 64 - bl (b.getD (b.length - 1) 0) := by unfold aA; omega
  have hs2 : 0 ≤ aA (b.getD (b.length - 1) 0) ∧ aA (b.getD (b.length - 1) 0) ≤ 63 := by unfold aA; omega
  have hLb : bI b (aA (b.getD (b.length - 1) 0)) = lb (nv b * 2 ^ (64 - bl (b.getD (b.length - 1) 0))) := by unfold bI; rw [hs]
  have hLa : bI a (aA (b.getD (b.length - 1) 0)) = lb (nv a * 2 ^ (64 - bl (b.getD (b.length - 1) 0))) := by unfold bI; rw [hs]
  have hs3 : 64 - bl (b.getD (b.length - 1) 0) ≤ 63 := by omega
  have hbl : (lb (nv b * 2 ^ (64 - bl (b.getD (b.length - 1) 0)))).length ≤ b.length := nV.2 v1
  have hal : (lb (nv a * 2 ^ (64 - bl (b.getD (b.length - 1) 0)))).length ≤ a.length + 1 := by
   refine nV.2 ?_
   rw [Nat.pow_succ]
   refine Nat.mul_lt_mul'' (kP la) ?_
   exact Nat.lt_of_le_of_lt (Nat.pow_le_pow_right (by decide) hs3) (by decide)
  have hn2 : 2 ≤ b.length := by omega
  obtain ⟨sI, hsI⟩ : ∃ sI, sI = aA (b.getD (b.length - 1) 0) := ⟨_, rfl⟩
  obtain ⟨s, hss⟩ : ∃ s, s = 64 - bl (b.getD (b.length - 1) 0) := ⟨_, rfl⟩
  rw [← hss] at v1 v2 hbl hal hLa hLb hs3 hs
  rw [← hsI] at hLa hLb hs2 hs
  rw [← hsI, hLa, hLb]
  have hV : 0 < nv b * 2 ^ s := Nat.mul_pos (by omega) (Nat.two_pow_pos s)
  have key := lV (step := fun d : Int × (List Nat) × (List Nat) => nB b d.1 d.2.1 d.2.2) (I := fun d => QrI (a.length - b.length) b.length (nv b * 2 ^ s) (nv a * 2 ^ s) d.1 d.2.1 d.2.2) (fun d => (d.1 + 1).toNat)
   (fun e => e.1.length = a.length + 1 ∧ Lm e.1 ∧ nv e.1 = nv a * 2 ^ s % (nv b * 2 ^ s) ∧ nv e.2 = nv a * 2 ^ s / (nv b * 2 ^ s)) ?_ ((a.length : Int) - (b.length : Int), dM (lb (nv a * 2 ^ s)) ((a.length : Int) + 1), List.replicate (((a.length : Int) - (b.length : Int)) + 1).toNat 0) ?_
  ·obtain ⟨e, h2, h3, h4, h5, h6⟩ := key
   refine aB (by constructor <;> omega) (aB (by constructor <;> omega) (aB ⟨(by show b.length ≤ _; omega), by omega, by omega⟩ (aB (by constructor <;> omega) (aB ⟨sa, by omega, by omega⟩ (aB (by constructor <;> omega) (aB (by constructor <;> omega) (aB (by constructor <;> omega) (aB (by constructor <;> omega) (aB (by omega) (aB (by omega) (aB (by constructor <;> omega) (bH h2 ?_))))))))))))
   have hm : nv e.1 < nv b * 2 ^ s := by rw [h5]; exact Nat.mod_lt _ hV
   have htk : nv (e.1.take b.length) = nv e.1 := by
    rw [aWz h4]; exact Nat.mod_eq_of_lt (Nat.lt_trans hm v1)
   have htr : dE (e.1.take b.length) = lb (nv e.1) := by rw [dE, htk]
   unfold sC
   rw [e1, ← hsI, htr]
   refine aB (by constructor <;> omega) (aB ⟨?_, hs2.1⟩ ?_)
   ·have := nV.2 (Nat.lt_trans hm v1)
    show (lb (nv e.1)).length ≤ _
    omega
   ·unfold cA dB
    rw [dE, h6, iI, hs, h5, Nat.mul_div_mul_right _ _ (Nat.two_pow_pos s), Nat.mul_mod_mul_right, Nat.mul_div_cancel _ (Nat.two_pow_pos s)]
  ·rintro ⟨j, u, q⟩ h
   have h : QrI (a.length - b.length) b.length (nv b * 2 ^ s) (nv a * 2 ^ s) j u q := h
   have i0 := h.j0
   have i1 := h.j1
   have hul := h.ul
   have hql := h.ql
   show (∃ d', nB b j u q = _ ∧ _) ∨ ∃ e, nB b j u q = _ ∧ _
   unfold nB
   rw [e1, ← hsI, hLb]
   by_cases hj : 0 ≤ j
   ·left
    have hvl : (dM (lb (nv b * 2 ^ s)) (b.length : Int)).length = b.length := by rw [aJ9 (by omega), Int.toNat_natCast]
    have hvv : nv (dM (lb (nv b * 2 ^ s)) (b.length : Int)) = nv b * 2 ^ s := by rw [aGu, iI]
    have lv : Lm (dM (lb (nv b * 2 ^ s)) (b.length : Int)) := aMF (aB7 _)
    have htop : 9223372036854775808 ≤ (dM (lb (nv b * 2 ^ s)) (b.length : Int)).getD (b.length - 1) 0 := by
     have hp : 0 < 18446744073709551616 ^ (b.length - 1) := Nat.pow_pos (by decide)
     rw [qE lv, hvv, Nat.mod_eq_of_lt ((Nat.div_lt_iff_lt_mul hp).2 (by rw [← Nat.pow_succ', show (b.length - 1).succ = b.length from by omega]; exact v1))]
     exact (Nat.le_div_iff_mul_le hp).2 v2
    have hlt := h.lt
    rw [show (j + 1).toNat = j.toNat + 1 from by omega] at hlt
    obtain ⟨w, k1, k2, k3, k4⟩ := aLl (v := dM (lb (nv b * 2 ^ s)) (b.length : Int)) (u := u) (j := j.toNat) (un := ((j + (b.length : Int)) + 1 - j).toNat) lv h.lu (by rw [hvl]; exact hn2) (by rw [hvl]; omega) (by rw [hvl]; omega) (by omega) (by rw [hvl]; exact htop) (by rw [hvv]; exact hlt)
    rw [hvv] at k1 k4
    refine ⟨(j - 1, w, q.set j.toNat (nv u / (18446744073709551616 ^ j.toNat * (nv b * 2 ^ s)))), ?_, aU0 h hj k2 k3 hV k4, by simp only; omega⟩
    rw [if_pos hj]
    exact aB (by constructor <;> omega) (aB (by constructor <;> omega) (aB (by constructor <;> omega) (bH k1 (aB (by constructor <;> omega) (aB (by constructor <;> omega) rfl)))))
   ·right
    have hj1 : (j + 1).toNat = 0 := by omega
    have hlt := h.lt
    rw [hj1, Nat.pow_zero, Nat.one_mul] at hlt
    have hs4 := h.sum
    refine ⟨(u, q), by rw [if_neg hj], by simp only; omega, h.lu, ?_, ?_⟩
    ·simp only
     rw [← hs4, Nat.add_comm, Nat.add_mul_mod_self_right, Nat.mod_eq_of_lt hlt]
    ·simp only
     rw [← hs4, Nat.add_comm, Nat.add_mul_div_right _ _ hV, Nat.div_eq_of_lt hlt, Nat.zero_add]
  ·have ej : ((a.length : Int) - (b.length : Int) + 1).toNat = a.length - b.length + 1 := by omega
   refine ⟨by simp only; omega, by simp only; omega, ?_, aMF (aB7 _), ?_, aGo _, ?_, ⟨0, ?_⟩, ?_⟩
   ·simp only; rw [aJ9 (by omega)]; omega
   ·simp only; rw [List.length_replicate]; omega
   ·simp only
    rw [aGu, iI, ej]
    have k1 := kP la
    have k2 : 2 ^ s ≤ 2 ^ 63 := Nat.pow_le_pow_right (by decide) hs3
    refine Nat.lt_of_lt_of_le (Nat.mul_lt_mul_of_pos_right k1 (Nat.two_pow_pos s)) ?_
    refine Nat.le_trans (Nat.mul_le_mul_left _ k2) ?_
    refine Nat.le_trans ?_ (Nat.mul_le_mul_left _ v2)
    rw [Nat.mul_left_comm, ← Nat.pow_add, show a.length - b.length + 1 + (b.length - 1) = a.length from by omega, Nat.mul_comm]
    exact Nat.le_refl _
   ·simp only; rw [aGn, Nat.mul_zero]
   ·simp only; rw [aGn, Nat.zero_mul, Nat.zero_add, aGu, iI]
end Nu
end Go.Proofs
namespace Go.Proofs
open Go.Vc
set_option maxRecDepth 20000
namespace Nu
def aD6 : PlR := ⟨[(0, .A [0, 1]), (1, .B [4])], []⟩
def aBQ : Ty := .pair (.sl (.u .u64)) (.pair (.i .i64) .unit)
noncomputable def wA : aJ := ⟨aBQ, .own 83 (.u .u64), fun x => xZ x.1 x.2.1, fun x => dM x.1 x.2.1⟩
attribute [go_sem] wA aBQ
noncomputable def aLm : aJ := mSpec aBQ (.own 83 (.u .u64)) (fun x => uF x.1 x.2.1)
noncomputable def aFu : List (FuncId × aJ) := [(165, bQ)]
theorem aNJ : bL Tryz.prog GL aFu := .cons iB (by kernel_rfl) (.nil)
theorem aGv : gam aFu 165 = some bQ := rfl
attribute [go_sem] aD6 aGv
set_option maxHeartbeats 4000000 in
theorem aLn : FOK Tryz.prog GL 220 aLm := by
 refine bZ (bF aNJ) mix Tryz.func220 rfl (by kernel_rfl) (by decide) aD6 fun w0 S x Θ hw h hF => ?_
 obtain ⟨(a_0 : (List Nat)), (n_1 : Int), u⟩ := x
 simp only [cC, go_sem]
 replace h : sat (uF a_0 n_1) _ := h
 unfold uF at h
 refine aN h fun g0 h => ?_
 refine aN h fun g0 h => ?_
 obtain ⟨g0, h⟩ := aM h
 obtain ⟨g1, h⟩ := aM h
 repeat (refine ⟨by omega, ?_⟩)
 exact aK hF [.tmp 4] rfl rfl rfl (aF h) (by simp only [bA, go_sem])
theorem aLo : FOK Tryz.prog GL 220 wA := eY aLn (fun ⟨x0, x1, u⟩ ⟨w0, w1, wu⟩ hp => aJ8 x0 w0 x1 w1 hp)
noncomputable def yB : mY where
 D := Nat × Nat × (List Nat) × (List Nat) × ((Nat × (List Nat)))
 av := fun d => [.sub 0 1 d.1 d.2.1, .val (.sl (.u .u64)) d.2.2.1]
 hp := fun d => [.row 83 (.u .u64) d.2.2.2.1]
 m := 1
 pre := fun d => tB d.1 d.2.1 d.2.2.1 d.2.2.2.1 = some d.2.2.2.2
 out := fun d => (fun r : (Nat × (List Nat)) => .ret (.val (.u .u64) r.1) [.row 83 (.u .u64) (r.2)]) d.2.2.2.2
noncomputable def tC : List (FuncId × aJ) := [(161, lI), (162, lH), (252, pU), (253, vY)]
theorem aHq : bL Tryz.prog GL tC := .cons aAK (by kernel_rfl) (.nat aAF (.cons aD4 (by kernel_rfl) (.nat aK6 (.nil))))
theorem aH0 : gam tC 161 = some lI := rfl
attribute [go_sem] aH0
theorem aH1 : gam tC 162 = some lH := rfl
attribute [go_sem] aH1
theorem aH2 : gam tC 252 = some pU := rfl
attribute [go_sem] aH2
theorem aH3 : gam tC 253 = some vY := rfl
attribute [go_sem] aH3
set_option maxHeartbeats 4000000 in
theorem aNK : GOK Tryz.prog GL 221 yB := by
 refine pN (bF aHq) Tryz.func221 rfl (by kernel_rfl) (fun _ => Nat.le_of_ble_eq_true rfl) fun c0 w0 d hw1 hw2 h hn => ?_
 have hF : iZ ⟨Tryz.prog, EM tC, GM yB c0 d, w0, Tryz.f221.ntmps, []⟩ := ⟨bF aHq, mix⟩
 obtain ⟨(uo_0 : Nat), (un_0 : Nat), (v_1 : (List Nat)), (o0_2 : (List Nat)), r⟩ := d
 replace h : tB uo_0 un_0 v_1 o0_2 = some r := h
 have hw1 : AV.wfL [.sub 0 1 uo_0 un_0, .val (.sl (.u .u64)) v_1] := hw1
 simp only [AV.wfL, AV.wfV, Ty.wf, lT] at hw1
 show Tri _ _ _ [(0, .sub 0 1 uo_0 un_0), (1, .val (.sl (.u .u64)) v_1)] [.row 83 (.u .u64) o0_2]
 unfold tB at h
 refine aC (aE hF [0, 1] ?_)
 simp only [go_sem]
 refine aD (aC (aE hF [0, 1, 5] ?_))
 simp only [go_sem]
 refine aD (aC (aE hF [0, 1, 5, 6, 8] ?_))
 simp only [go_sem]
 refine aD (jR (D := Nat × Nat × Nat) (fun d => oO v_1 un_0 uo_0 o0_2 d.1 d.2.1 d.2.2 = some r) [1, 5] (fun d => [(0, .sub 0 1 uo_0 un_0), (6, .val (.u .u64) d.1), (7, .val (.u .u64) d.2.1), (8, .val (.u .u64) d.2.2)]) (fun d => [.inr (.row 83 (.u .u64) o0_2)]) ?_ ?_)
 ·refine aC (aE hF [0, 1, 5, 6, 8, 31] ?_)
  simp only [go_sem]
  obtain ⟨g0, h⟩ := aH h
  obtain ⟨g1, h⟩ := aH h
  obtain ⟨g2, h⟩ := aH h
  obtain ⟨g3, h⟩ := aH h
  try simp only [I64, I32] at g2
  repeat (refine ⟨by first | with_reducible assumption | omega | (intros; first | assumption | omega) | (simp only [go_sem] at *; first | assumption | omega) | decide, ?_⟩)
  refine aD (bG rfl (fun hc => ?_) (fun hc => ?_))
  ·try simp only [go_sem] at hc
   have h := eF (by first | exact hc | omega | (simpa using hc) | (simp at hc ⊢; omega)) h
   refine aE hF [0, 1, 5, 6, 7, 8] ?_
   simp only [go_sem]
   obtain ⟨g0, h⟩ := aH h
   obtain ⟨g1, h⟩ := aH h
   obtain ⟨g2, h⟩ := aH h
   obtain ⟨g3, h⟩ := aH h
   obtain ⟨g4, h⟩ := aH h
   obtain ⟨g5, h⟩ := aH h
   obtain ⟨g6, h⟩ := aH h
   obtain ⟨g7, h⟩ := aH h
   try simp only [I64, I32] at g2
   try simp only [I64, I32] at g5
   repeat (refine ⟨by first | with_reducible assumption | omega | (intros; first | assumption | omega) | (simp only [go_sem] at *; first | assumption | omega) | decide, ?_⟩)
   refine bB (aX ((((kX (o0_2.getD (uo_0 + (v_1.length)) (0 : Nat)) (o0_2.getD (uo_0 + (((v_1.length : Int) - (1 : Int)).toNat)) (0 : Nat)) (v_1.getD (((v_1.length : Int) - (1 : Int)).toNat) (0 : Nat))).1), (((kX (o0_2.getD (uo_0 + (v_1.length)) (0 : Nat)) (o0_2.getD (uo_0 + (((v_1.length : Int) - (1 : Int)).toNat)) (0 : Nat)) (v_1.getD (((v_1.length : Int) - (1 : Int)).toNat) (0 : Nat))).2).1), (0 : Nat))) h rfl ?_)
   ·(try simp only [jA, fL, true_or, and_self, go_sem]) <;> (repeat' apply And.intro) <;> first | rfl | (left; rfl) | (right; rfl) | (left; simp only [go_sem]; done) | (right; simp only [go_sem]; done) | (simp; done) | (simp only [*]; done) | omega
  ·try simp only [go_sem] at hc
   have h := eG (by first | exact hc | omega | (simpa using hc) | (simp at hc ⊢; omega)) h
   refine aE hF [0, 1, 5, 6, 7, 8] ?_
   simp only [go_sem]
   obtain ⟨g0, h⟩ := aH h
   obtain ⟨g1, h⟩ := aH h
   obtain ⟨g2, h⟩ := aH h
   obtain ⟨g3, h⟩ := aH h
   obtain ⟨g4, h⟩ := aH h
   obtain ⟨g5, h⟩ := aH h
   try simp only [I64, I32] at g0
   try simp only [I64, I32] at g3
   repeat (refine ⟨by first | with_reducible assumption | omega | (intros; first | assumption | omega) | (simp only [go_sem] at *; first | assumption | omega) | decide, ?_⟩)
   refine bB (aX (((18446744073709551615 : Nat), ((gO (o0_2.getD (uo_0 + (((v_1.length : Int) - (1 : Int)).toNat)) (0 : Nat)) (v_1.getD (((v_1.length : Int) - (1 : Int)).toNat) (0 : Nat)) (0 : Nat)).1), (((gO (o0_2.getD (uo_0 + (((v_1.length : Int) - (1 : Int)).toNat)) (0 : Nat)) (v_1.getD (((v_1.length : Int) - (1 : Int)).toNat) (0 : Nat)) (0 : Nat)).2).1))) h rfl ?_)
   ·(try simp only [jA, fL, true_or, and_self, go_sem]) <;> (repeat' apply And.intro) <;> first | rfl | (left; rfl) | (right; rfl) | (left; simp only [go_sem]; done) | (right; simp only [go_sem]; done) | (simp; done) | (simp only [*]; done) | omega
 ·rintro ⟨x_4, rest_5, over_6⟩ h
  try dsimp only at h
  simp only [go_sem]
  unfold oO at h
  refine jR (D := Nat) (fun d => qO v_1 un_0 uo_0 o0_2 d = some r) [1, 5] (fun d => [(0, .sub 0 1 uo_0 un_0), (6, .val (.u .u64) d)]) (fun d => [.inr (.row 83 (.u .u64) o0_2)]) ?_ ?_
  ·refine dO (sV (D := Nat × Nat × Nat) [1, 5] (fun d => [(0, .sub 0 1 uo_0 un_0), (6, .val (.u .u64) d.1), (7, .val (.u .u64) d.2.1), (8, .val (.u .u64) d.2.2)]) (fun d => [.inr (.row 83 (.u .u64) o0_2)]) h ?_ ?_ ?_)
   ·first | rfl | (simp only [go_sem]; done)
   ·(try simp only [jA, fL, true_or, and_self, go_sem]) <;> (repeat' apply And.intro) <;> first | rfl | (left; rfl) | (right; rfl) | (left; simp only [go_sem]; done) | (right; simp only [go_sem]; done) | (simp; done) | (simp only [*]; done) | omega
   rintro ⟨x_52, rest_53, over_54⟩ s6 h hs6
   simp only [go_sem]
   try dsimp only at h
   unfold mC at h
   refine aC (aC (aE hF [0, 1, 5, 6, 7, 65] ?_))
   simp only [go_sem]
   refine aD (bG rfl (fun hc => ?_) (fun hc => ?_))
   ·try simp only [go_sem] at hc
    have h := eF (by first | exact hc | omega | (simpa using hc) | (simp at hc ⊢; omega)) h
    refine bR (aD (dO (aC (aE hF [0, 1, 5, 6, 7, 9, 10] ?_))))
    simp only [go_sem]
    obtain ⟨g0, h⟩ := aH h
    obtain ⟨g1, h⟩ := aH h
    try simp only [I64, I32] at g0
    repeat (refine ⟨by first | with_reducible assumption | omega | (intros; first | assumption | omega) | (simp only [go_sem] at *; first | assumption | omega) | decide, ?_⟩)
    refine aD (aC (aC (aE hF [0, 1, 5, 6, 7, 92] ?_)))
    simp only [go_sem]
    obtain ⟨g0, h⟩ := aH h
    obtain ⟨g1, h⟩ := aH h
    try simp only [I64, I32] at g0
    repeat (refine ⟨by first | with_reducible assumption | omega | (intros; first | assumption | omega) | (simp only [go_sem] at *; first | assumption | omega) | (intro q0 q1; (try have e0 := g0 (by first | exact q0 | omega | (simpa using q0)) (by first | exact q1 | omega | (simpa using q1))); (try have e1 := g1 (by first | exact q0 | omega | (simpa using q0)) (by first | exact q1 | omega | (simpa using q1))); first | assumption | omega) | (rintro ⟨q0, q1⟩; (try have e0 := g0 (by first | exact q0 | omega | (simpa using q0)) (by first | exact q1 | omega | (simpa using q1))); (try have e1 := g1 (by first | exact q0 | omega | (simpa using q0)) (by first | exact q1 | omega | (simpa using q1))); first | assumption | omega) | decide, ?_⟩)
    refine aD (bG rfl (fun hc => ?_) (fun hc => ?_))
    ·try simp only [go_sem] at hc
     have h := eF (by first | exact hc | omega | (simpa using hc) | (simp at hc ⊢; omega)) h
     obtain rfl := Option.some.inj h
     dsimp only [rN] at hs6
     have h := hs6
     try dsimp only at h
     refine kN (bS (jJ (by decide) (bS (dA (bB (aX (x_52) h rfl ?_))))))
     ·(try simp only [jA, fL, true_or, and_self, go_sem]) <;> (repeat' apply And.intro) <;> first | rfl | (left; rfl) | (right; rfl) | (left; simp only [go_sem]; done) | (right; simp only [go_sem]; done) | (simp; done) | (simp only [*]; done) | omega
    ·try simp only [go_sem] at hc
     have h := eG (by first | exact hc | omega | (simpa using hc) | (simp at hc ⊢; omega)) h
     refine bR (aD (aC (aE hF [0, 1, 5, 6, 7] ?_)))
     simp only [go_sem]
     refine aD (aE hF [0, 1, 5, 6, 7, 8] ?_)
     simp only [go_sem]
     obtain ⟨g0, h⟩ := aH h
     obtain ⟨g1, h⟩ := aH h
     obtain ⟨g2, h⟩ := aH h
     try simp only [I64, I32] at g0
     repeat (refine ⟨by first | with_reducible assumption | omega | (intros; first | assumption | omega) | (simp only [go_sem] at *; first | assumption | omega) | decide, ?_⟩)
     obtain rfl := Option.some.inj h
     dsimp only [rN] at hs6
     refine eB (bB (aX (((lR .u64 x_52 (1 : Nat)), ((gO rest_53 (v_1.getD (((v_1.length : Int) - (1 : Int)).toNat) (0 : Nat)) (0 : Nat)).1), (((gO rest_53 (v_1.getD (((v_1.length : Int) - (1 : Int)).toNat) (0 : Nat)) (0 : Nat)).2).1))) hs6 rfl ?_))
     ·(try simp only [jA, fL, true_or, and_self, go_sem]) <;> (repeat' apply And.intro) <;> first | rfl | (left; rfl) | (right; rfl) | (left; simp only [go_sem]; done) | (right; simp only [go_sem]; done) | (simp; done) | (simp only [*]; done) | omega
   ·try simp only [go_sem] at hc
    have h := eG (by first | exact hc | omega | (simpa using hc) | (simp at hc ⊢; omega)) h
    obtain rfl := Option.some.inj h
    dsimp only [rN] at hs6
    have h := hs6
    try dsimp only at h
    refine kN (bS (bS (dA (bB (aX (x_52) h rfl ?_)))))
    ·(try simp only [jA, fL, true_or, and_self, go_sem]) <;> (repeat' apply And.intro) <;> first | rfl | (left; rfl) | (right; rfl) | (left; simp only [go_sem]; done) | (right; simp only [go_sem]; done) | (simp; done) | (simp only [*]; done) | omega
  ·rintro x_13 h
   try dsimp only at h
   simp only [go_sem]
   unfold qO at h
   refine aC (aE hF [0, 1, 5, 6, 11, 12] ?_)
   simp only [go_sem]
   refine aD (jR (D := Nat × Nat × (List Nat)) (fun d => uH v_1 un_0 uo_0 x_13 d.1 d.2.1 d.2.2 = some r) [1, 5, 6] (fun d => [(0, .sub 0 1 uo_0 un_0), (11, .val (.u .u64) d.1), (12, .val (.u .u64) d.2.1)]) (fun d => [.inr (.row 83 (.u .u64) d.2.2)]) ?_ ?_)
   ·refine aC (aE hF [0, 1, 5, 6, 11, 12, 105, 106, 107] ?_)
    simp only [go_sem]
    refine aD (dO (sV (D := Nat × Nat × Int × (List Nat)) [1, 5, 6, 105, 106] (fun d => [(0, .sub 0 1 uo_0 un_0), (11, .val (.u .u64) d.1), (12, .val (.u .u64) d.2.1), (107, .val (.i .i64) d.2.2.1)]) (fun d => [.inr (.row 83 (.u .u64) d.2.2.2)]) h ?_ ?_ ?_))
    ·first | rfl | (simp only [go_sem]; done)
    ·(try simp only [jA, fL, true_or, and_self, go_sem]) <;> (repeat' apply And.intro) <;> first | rfl | (left; rfl) | (right; rfl) | (left; simp only [go_sem]; done) | (right; simp only [go_sem]; done) | (simp; done) | (simp only [*]; done) | omega
    rintro ⟨carry_41, borrow_42, x107_43, u_44⟩ s13 h hs13
    simp only [go_sem]
    try dsimp only at h
    unfold kE at h
    refine aC (aE hF [0, 1, 5, 6, 11, 12, 105, 106, 107, 108] ?_)
    simp only [go_sem]
    refine aD (aC (bG rfl (fun hc => ?_) (fun hc => ?_)))
    ·try simp only [go_sem] at hc
     have h := eF (by first | exact hc | omega | (simpa using hc) | (simp at hc ⊢; omega)) h
     refine bR (aD (aC (dO (aC (aE hF [0, 1, 5, 6, 11, 12, 13, 14, 105, 106, 107] ?_)))))
     simp only [go_sem]
     obtain ⟨g0, h⟩ := aH h
     repeat (refine ⟨by first | with_reducible assumption | omega | (intros; first | assumption | omega) | (simp only [go_sem] at *; first | assumption | omega) | decide, ?_⟩)
     refine aD (aC (aE hF [0, 1, 5, 6, 11, 12, 13, 15, 16, 105, 106, 107] ?_))
     simp only [go_sem]
     refine aD (aC (aE hF [0, 1, 5, 6, 11, 12, 13, 15, 16, 105, 106, 107] ?_))
     simp only [go_sem]
     refine aD (aC (aE hF [0, 1, 5, 6, 12, 13, 15, 16, 17, 105, 106, 107] ?_))
     simp only [go_sem]
     obtain ⟨g0, h⟩ := aH h
     repeat (refine ⟨by first | with_reducible assumption | omega | (intros; first | assumption | omega) | (simp only [go_sem] at *; first | assumption | omega) | decide, ?_⟩)
     refine aD (aC (aE hF [0, 1, 5, 6, 11, 12, 13, 16, 105, 106, 107] ?_))
     simp only [go_sem]
     refine aD (bC hF [0, 1, 5, 6, 11, 12, 105, 106, 107] ?_)
     simp only [go_sem]
     obtain ⟨g0, h⟩ := aH h
     obtain ⟨g1, h⟩ := aH h
     repeat (refine ⟨by first | with_reducible assumption | omega | (intros; first | assumption | omega) | (simp only [go_sem] at *; first | assumption | omega) | decide, ?_⟩)
     obtain ⟨g0, h⟩ := aH h
     repeat (refine ⟨by first | with_reducible assumption | omega | (intros; first | assumption | omega) | (simp only [go_sem] at *; first | assumption | omega) | decide, ?_⟩)
     obtain ⟨g0, h⟩ := aH h
     obtain ⟨g1, h⟩ := aH h
     repeat (refine ⟨by first | with_reducible assumption | omega | (intros; first | assumption | omega) | (simp only [go_sem] at *; first | assumption | omega) | decide, ?_⟩)
     refine eB (aD (aE hF [0, 1, 5, 6, 11, 12, 105, 106, 107] ?_))
     simp only [go_sem]
     obtain ⟨g0, h⟩ := aH h
     try simp only [I64, I32] at g0
     repeat (refine ⟨by first | with_reducible assumption | omega | (intros; first | assumption | omega) | (simp only [go_sem] at *; first | assumption | omega) | decide, ?_⟩)
     obtain rfl := Option.some.inj h
     dsimp only [rN] at hs13
     refine bB (aX ((((((bJ x_13 (v_1.getD (x107_43.toNat) (0 : Nat))).1) + (((gO (((bJ x_13 (v_1.getD (x107_43.toNat) (0 : Nat))).2).1) carry_41 (0 : Nat)).2).1)) % 18446744073709551616), (((zE (u_44.getD (uo_0 + (x107_43.toNat)) (0 : Nat)) ((gO (((bJ x_13 (v_1.getD (x107_43.toNat) (0 : Nat))).2).1) carry_41 (0 : Nat)).1) borrow_42).2).1), (x107_43 + (1 : Int)), (u_44.set (uo_0 + (x107_43.toNat)) ((zE (u_44.getD (uo_0 + (x107_43.toNat)) (0 : Nat)) ((gO (((bJ x_13 (v_1.getD (x107_43.toNat) (0 : Nat))).2).1) carry_41 (0 : Nat)).1) borrow_42).1)))) hs13 rfl ?_)
     ·(try simp only [jA, fL, true_or, and_self, go_sem]) <;> (repeat' apply And.intro) <;> first | rfl | (left; rfl) | (right; rfl) | (left; simp only [go_sem]; done) | (right; simp only [go_sem]; done) | (simp; done) | (simp only [*]; done) | omega
    ·try simp only [go_sem] at hc
     have h := eG (by first | exact hc | omega | (simpa using hc) | (simp at hc ⊢; omega)) h
     obtain rfl := Option.some.inj h
     dsimp only [rN] at hs13
     have h := hs13
     try dsimp only at h
     refine kN (bS (bS (dA (bB (aX ((carry_41, borrow_42, u_44)) h rfl ?_)))))
     ·(try simp only [jA, fL, true_or, and_self, go_sem]) <;> (repeat' apply And.intro) <;> first | rfl | (left; rfl) | (right; rfl) | (left; simp only [go_sem]; done) | (right; simp only [go_sem]; done) | (simp; done) | (simp only [*]; done) | omega
   ·rintro ⟨carry_22, borrow_23, u_24⟩ h
    try dsimp only at h
    simp only [go_sem]
    unfold uH at h
    refine aC (aC (bC hF [0, 1, 5, 6, 12] ?_))
    simp only [go_sem]
    obtain ⟨g0, h⟩ := aH h
    obtain ⟨g1, h⟩ := aH h
    repeat (refine ⟨by first | with_reducible assumption | omega | (intros; first | assumption | omega) | (simp only [go_sem] at *; first | assumption | omega) | decide, ?_⟩)
    obtain ⟨g0, h⟩ := aH h
    repeat (refine ⟨by first | with_reducible assumption | omega | (intros; first | assumption | omega) | (simp only [go_sem] at *; first | assumption | omega) | decide, ?_⟩)
    obtain ⟨g0, h⟩ := aH h
    obtain ⟨g1, h⟩ := aH h
    repeat (refine ⟨by first | with_reducible assumption | omega | (intros; first | assumption | omega) | (simp only [go_sem] at *; first | assumption | omega) | decide, ?_⟩)
    refine aD (aC (aE hF [0, 1, 5, 6, 155] ?_))
    simp only [go_sem]
    refine aD (bG rfl (fun hc => ?_) (fun hc => ?_))
    ·try simp only [go_sem] at hc
     have h := eF (by first | exact hc | omega | (simpa using hc) | (simp at hc ⊢; omega)) h
     refine aC (aE hF [4] ?_)
     simp only [go_sem]
     obtain rfl := Option.some.inj h
     refine aD (dD (bW (qC hF [.tmp 4] rfl rfl rfl rfl rfl rfl ?_)))
     (try simp only [bA, zU, zC, fL, nU, AV.isAgg, go_sem]) <;> first | trivial | rfl | (simp; done)
    ·try simp only [go_sem] at hc
     have h := eG (by first | exact hc | omega | (simpa using hc) | (simp at hc ⊢; omega)) h
     refine bR (aD (aC (aE hF [0, 1, 5, 6, 11] ?_)))
     simp only [go_sem]
     refine aD (jR (D := Nat × (List Nat)) (fun d => uG v_1 un_0 uo_0 x_13 d.1 d.2 = some r) [5, 6] (fun d => [(0, .sub 0 1 uo_0 un_0), (11, .val (.u .u64) d.1)]) (fun d => [.inr (.row 83 (.u .u64) d.2)]) ?_ ?_)
     ·refine aC (aE hF [0, 5, 6, 11, 157, 158, 159] ?_)
      simp only [go_sem]
      refine aD (dO (sV (D := Nat × Int × (List Nat)) [5, 6, 157, 158] (fun d => [(0, .sub 0 1 uo_0 un_0), (11, .val (.u .u64) d.1), (159, .val (.i .i64) d.2.1)]) (fun d => [.inr (.row 83 (.u .u64) d.2.2)]) h ?_ ?_ ?_))
      ·first | rfl | (simp only [go_sem]; done)
      ·(try simp only [jA, fL, true_or, and_self, go_sem]) <;> (repeat' apply And.intro) <;> first | rfl | (left; rfl) | (right; rfl) | (left; simp only [go_sem]; done) | (right; simp only [go_sem]; done) | (simp; done) | (simp only [*]; done) | omega
      rintro ⟨carry_33, x159_34, u_35⟩ s26 h hs26
      simp only [go_sem]
      try dsimp only at h
      unfold kD at h
      refine aC (aE hF [0, 5, 6, 11, 157, 158, 159, 160] ?_)
      simp only [go_sem]
      refine aD (aC (bG rfl (fun hc => ?_) (fun hc => ?_)))
      ·try simp only [go_sem] at hc
       have h := eF (by first | exact hc | omega | (simpa using hc) | (simp at hc ⊢; omega)) h
       refine bR (aD (aC (dO (aC (aE hF [0, 5, 6, 11, 18, 19, 157, 158, 159] ?_)))))
       simp only [go_sem]
       obtain ⟨g0, h⟩ := aH h
       repeat (refine ⟨by first | with_reducible assumption | omega | (intros; first | assumption | omega) | (simp only [go_sem] at *; first | assumption | omega) | decide, ?_⟩)
       refine aD (bC hF [0, 5, 6, 11, 157, 158, 159] ?_)
       simp only [go_sem]
       obtain ⟨g0, h⟩ := aH h
       obtain ⟨g1, h⟩ := aH h
       repeat (refine ⟨by first | with_reducible assumption | omega | (intros; first | assumption | omega) | (simp only [go_sem] at *; first | assumption | omega) | decide, ?_⟩)
       obtain ⟨g0, h⟩ := aH h
       repeat (refine ⟨by first | with_reducible assumption | omega | (intros; first | assumption | omega) | (simp only [go_sem] at *; first | assumption | omega) | decide, ?_⟩)
       obtain ⟨g0, h⟩ := aH h
       obtain ⟨g1, h⟩ := aH h
       repeat (refine ⟨by first | with_reducible assumption | omega | (intros; first | assumption | omega) | (simp only [go_sem] at *; first | assumption | omega) | decide, ?_⟩)
       refine eB (aD (aE hF [0, 5, 6, 11, 157, 158, 159] ?_))
       simp only [go_sem]
       obtain ⟨g0, h⟩ := aH h
       try simp only [I64, I32] at g0
       repeat (refine ⟨by first | with_reducible assumption | omega | (intros; first | assumption | omega) | (simp only [go_sem] at *; first | assumption | omega) | decide, ?_⟩)
       obtain rfl := Option.some.inj h
       dsimp only [rN] at hs26
       refine bB (aX (((((gO (u_35.getD (uo_0 + (x159_34.toNat)) (0 : Nat)) (v_1.getD (x159_34.toNat) (0 : Nat)) carry_33).2).1), (x159_34 + (1 : Int)), (u_35.set (uo_0 + (x159_34.toNat)) ((gO (u_35.getD (uo_0 + (x159_34.toNat)) (0 : Nat)) (v_1.getD (x159_34.toNat) (0 : Nat)) carry_33).1)))) hs26 rfl ?_)
       ·(try simp only [jA, fL, true_or, and_self, go_sem]) <;> (repeat' apply And.intro) <;> first | rfl | (left; rfl) | (right; rfl) | (left; simp only [go_sem]; done) | (right; simp only [go_sem]; done) | (simp; done) | (simp only [*]; done) | omega
      ·try simp only [go_sem] at hc
       have h := eG (by first | exact hc | omega | (simpa using hc) | (simp at hc ⊢; omega)) h
       obtain rfl := Option.some.inj h
       dsimp only [rN] at hs26
       have h := hs26
       try dsimp only at h
       refine kN (bS (bS (dA (bB (aX ((carry_33, u_35)) h rfl ?_)))))
       ·(try simp only [jA, fL, true_or, and_self, go_sem]) <;> (repeat' apply And.intro) <;> first | rfl | (left; rfl) | (right; rfl) | (left; simp only [go_sem]; done) | (right; simp only [go_sem]; done) | (simp; done) | (simp only [*]; done) | omega
     ·rintro ⟨carry_31, u_32⟩ h
      try dsimp only at h
      simp only [go_sem]
      unfold uG at h
      refine aC (bC hF [6] ?_)
      simp only [go_sem]
      obtain ⟨g0, h⟩ := aH h
      obtain ⟨g1, h⟩ := aH h
      repeat (refine ⟨by first | with_reducible assumption | omega | (intros; first | assumption | omega) | (simp only [go_sem] at *; first | assumption | omega) | decide, ?_⟩)
      obtain ⟨g0, h⟩ := aH h
      obtain ⟨g1, h⟩ := aH h
      repeat (refine ⟨by first | with_reducible assumption | omega | (intros; first | assumption | omega) | (simp only [go_sem] at *; first | assumption | omega) | decide, ?_⟩)
      refine aD (aC (aE hF [4] ?_))
      simp only [go_sem]
      obtain rfl := Option.some.inj h
      refine aD (dD (qC hF [.tmp 4] rfl rfl rfl rfl rfl rfl ?_))
      (try simp only [bA, zU, zC, fL, nU, AV.isAgg, go_sem]) <;> first | trivial | rfl | (simp; done)
attribute [go_sem] yB
end Nu
end Go.Proofs
namespace Go.Proofs
open Go.Vc
set_option maxRecDepth 20000
namespace Nu
def uJ : Ty := .pair (.sl (.u .u64)) (.pair (.sl (.u .u64)) .unit)
noncomputable def pV : aJ := ⟨uJ, .tup (.pair (.sl (.u .u64)) (.pair (.sl (.u .u64)) .unit)), fun x => uI x.1 x.2.1, fun x => cA x.1 x.2.1⟩
attribute [go_sem] pV uJ
noncomputable def aLp : aJ := mSpec uJ (.tup (.pair (.sl (.u .u64)) (.pair (.sl (.u .u64)) .unit))) (fun x => yA x.1 x.2.1)
noncomputable def jE : List (FuncId × aJ) := [(122, rB), (163, eH), (165, bQ), (188, dL), (219, xY), (220, wA), (95, lJ), (97, jC)]
theorem aFv : bL Tryz.prog GL jE := .cons aFm (by kernel_rfl) (.cons qN (by kernel_rfl) (.cons iB (by kernel_rfl) (.cons pG (by kernel_rfl) (.cons aNI (by kernel_rfl) (.cons aLo (by kernel_rfl) (.cons aAo (by kernel_rfl) (.cons xX (by kernel_rfl) (.nil))))))))
theorem aGw : gam jE 122 = some rB := rfl
attribute [go_sem] aGw
theorem aGx : gam jE 163 = some eH := rfl
attribute [go_sem] aGx
theorem aGy : gam jE 165 = some bQ := rfl
attribute [go_sem] aGy
theorem aGz : gam jE 188 = some dL := rfl
attribute [go_sem] aGz
theorem aGA : gam jE 219 = some xY := rfl
attribute [go_sem] aGA
theorem aGB : gam jE 220 = some wA := rfl
attribute [go_sem] aGB
theorem aH4 : gam jE 95 = some lJ := rfl
attribute [go_sem] aH4
theorem aH5 : gam jE 97 = some jC := rfl
attribute [go_sem] aH5
set_option maxHeartbeats 4000000 in
theorem aLq : FOK Tryz.prog GL 166 aLp := by
 refine pS (bF aFv) Tryz.func166 rfl (by kernel_rfl) (by decide) fun w0 S x r hw h => ?_
 have hF : iZ (fr Tryz.prog (EM jE) S w0 Tryz.f166.ntmps) := ⟨bF aFv, mix⟩
 obtain ⟨(a_0 : (List Nat)), (b_1 : (List Nat)), u⟩ := x
 simp only [uJ, Ty.wf, lT] at hw
 simp only [cC, uJ]
 try dsimp only at h
 unfold yA at h
 refine aC (aE hF [0, 1] ?_)
 simp only [go_sem]
 refine aD (aC (aC (aE hF [0, 1, 15] ?_)))
 simp only [go_sem]
 obtain ⟨g0, h⟩ := aH h
 repeat (refine ⟨by first | with_reducible assumption | omega | (intros; first | assumption | omega) | (simp only [go_sem] at *; first | assumption | omega) | decide, ?_⟩)
 refine aD (bG rfl (fun hc => ?_) (fun hc => ?_))
 ·try simp only [go_sem] at hc
  have h := eF (by first | exact hc | omega | (simpa using hc) | (simp at hc ⊢; omega)) h
  refine aC (bC hF [4, 5] ?_)
  simp only [go_sem]
  obtain ⟨g0, h⟩ := aH h
  repeat (refine ⟨by first | with_reducible assumption | omega | (intros; first | assumption | omega) | (simp only [go_sem] at *; first | assumption | omega) | decide, ?_⟩)
  obtain rfl := Option.some.inj h
  refine aD (dD (bW (fD hF [.tmp 4, .tmp 5] rfl rfl rfl ?_)))
  (try simp only [iH, bA, go_sem]) <;> first | rfl | (simp; done)
 ·try simp only [go_sem] at hc
  have h := eG (by first | exact hc | omega | (simpa using hc) | (simp at hc ⊢; omega)) h
  refine bR (aD (aC (aC (aE hF [0, 1, 20] ?_))))
  simp only [go_sem]
  refine aD (bG rfl (fun hc => ?_) (fun hc => ?_))
  ·try simp only [go_sem] at hc
   have h := eF (by first | exact hc | omega | (simpa using hc) | (simp at hc ⊢; omega)) h
   refine aC (aE hF [4, 5] ?_)
   simp only [go_sem]
   obtain ⟨g0, h⟩ := aH h
   obtain ⟨g1, h⟩ := aH h
   repeat (refine ⟨by first | with_reducible assumption | omega | (intros; first | assumption | omega) | (simp only [go_sem] at *; first | assumption | omega) | decide, ?_⟩)
   obtain rfl := Option.some.inj h
   refine aD (dD (bW (fD hF [.tmp 4, .tmp 5] rfl rfl rfl ?_)))
   (try simp only [iH, bA, go_sem]) <;> first | rfl | (simp; done)
  ·try simp only [go_sem] at hc
   have h := eG (by first | exact hc | omega | (simpa using hc) | (simp at hc ⊢; omega)) h
   refine bR (aD (aC (aE hF [0, 1, 6, 7] ?_)))
   simp only [go_sem]
   obtain ⟨g0, h⟩ := aH h
   obtain ⟨g1, h⟩ := aH h
   try simp only [I64, I32] at g0
   repeat (refine ⟨by first | with_reducible assumption | omega | (intros; first | assumption | omega) | (simp only [go_sem] at *; first | assumption | omega) | decide, ?_⟩)
   refine aD (aC (bC hF [0, 6, 7, 8, 9] ?_))
   simp only [go_sem]
   obtain ⟨g0, h⟩ := aH h
   repeat (refine ⟨by first | with_reducible assumption | omega | (intros; first | assumption | omega) | (simp only [go_sem] at *; first | assumption | omega) | decide, ?_⟩)
   obtain ⟨g0, h⟩ := aH h
   repeat (refine ⟨by first | with_reducible assumption | omega | (intros; first | assumption | omega) | (simp only [go_sem] at *; first | assumption | omega) | decide, ?_⟩)
   obtain ⟨g0, h⟩ := aH h
   repeat (refine ⟨by first | with_reducible assumption | omega | (intros; first | assumption | omega) | (simp only [go_sem] at *; first | assumption | omega) | decide, ?_⟩)
   obtain ⟨g0, h⟩ := aH h
   try simp only [I64, I32] at g0
   repeat (refine ⟨by first | with_reducible assumption | omega | (intros; first | assumption | omega) | (simp only [go_sem] at *; first | assumption | omega) | decide, ?_⟩)
   obtain ⟨g0, h⟩ := aH h
   repeat (refine ⟨by first | with_reducible assumption | omega | (intros; first | assumption | omega) | (simp only [go_sem] at *; first | assumption | omega) | decide, ?_⟩)
   refine aD (aC (bC hF [0, 6, 7, 8, 9, 10] ?_))
   simp only [go_sem]
   obtain ⟨g0, h⟩ := aH h
   try simp only [I64, I32] at g0
   repeat (refine ⟨by first | with_reducible assumption | omega | (intros; first | assumption | omega) | (simp only [go_sem] at *; first | assumption | omega) | decide, ?_⟩)
   obtain ⟨g0, h⟩ := aH h
   try simp only [I64, I32] at g0
   repeat (refine ⟨by first | with_reducible assumption | omega | (intros; first | assumption | omega) | (simp only [go_sem] at *; first | assumption | omega) | decide, ?_⟩)
   obtain ⟨g0, h⟩ := aH h
   obtain ⟨g1, h⟩ := aH h
   repeat (refine ⟨by first | with_reducible assumption | omega | (intros; first | assumption | omega) | (simp only [go_sem] at *; first | assumption | omega) | decide, ?_⟩)
   refine aD (jR (D := (List Nat) × (List Nat)) (fun d => sC b_1 d.1 d.2 = some r) [6, 7] (fun d => [(9, .own 0), (10, .own 1)]) (fun d => [.inr (.row 83 (.u .u64) d.1), .inr (.row 83 (.u .u64) d.2)]) ?_ ?_)
   ·refine aC (aE hF [6, 7, 8, 9, 10, 11] ?_)
    simp only [go_sem]
    obtain ⟨g0, h⟩ := aH h
    try simp only [I64, I32] at g0
    repeat (refine ⟨by first | with_reducible assumption | omega | (intros; first | assumption | omega) | (simp only [go_sem] at *; first | assumption | omega) | decide, ?_⟩)
    refine aD (dO (aEv 0 ?_))
    simp only [go_sem]
    refine aM8 [1, 2] rfl rfl ?_
    simp only [ren, gN, oE, posOf, eX, go_sem]
    refine sV (D := Int × (List Nat) × (List Nat)) [6, 7, 8] (fun d => [(9, .own 0), (10, .own 1), (11, .val (.i .i64) d.1)]) (fun d => [.inr (.row 83 (.u .u64) d.2.1), .inr (.row 83 (.u .u64) d.2.2)]) h ?_ ?_ ?_
    ·first | rfl | (simp only [go_sem]; done)
    ·(try simp only [jA, fL, true_or, and_self, go_sem]) <;> (repeat' apply And.intro) <;> first | rfl | (left; rfl) | (right; rfl) | (left; simp only [go_sem]; done) | (right; simp only [go_sem]; done) | (simp; done) | (simp only [*]; done) | omega
    rintro ⟨j_14, u_15, q_16⟩ s9 h hs9
    simp only [go_sem]
    try dsimp only at h
    unfold nB at h
    refine aC (aC (aE hF [6, 7, 8, 9, 10, 11, 60] ?_))
    simp only [go_sem]
    refine aD (bG rfl (fun hc => ?_) (fun hc => ?_))
    ·try simp only [go_sem] at hc
     have h := eF (by first | exact hc | omega | (simpa using hc) | (simp at hc ⊢; omega)) h
     obtain ⟨g0, h⟩ := aH h
     try simp only [I64, I32] at g0
     obtain ⟨g1, h⟩ := aH h
     try simp only [I64, I32] at g1
     obtain ⟨g2, h⟩ := aH h
     obtain ⟨r_24, he1, h⟩ := bind_some h
     try dsimp only at h
     obtain ⟨g3, h⟩ := aH h
     refine bR (aD (aC (dO (aT hF (cH (l := [(221, ⟨yB, [0], ((j_14.toNat), ((((j_14 + (b_1.length : Int)) + (1 : Int)) - j_14).toNat), (dM (bI b_1 (aA (b_1.getD (((b_1.length : Int) - (1 : Int)).toNat) (0 : Nat)))) (b_1.length : Int)), u_15, r_24)⟩)]) (.cons aNK (by kernel_rfl) (.nil))) [6, 7, 8, 9, 10, 11] [71] ?_))))
     simp only [go_sem]
     repeat (refine ⟨by first | with_reducible assumption | omega | (intros; first | assumption | omega) | (simp only [go_sem] at *; first | assumption | omega) | decide, ?_⟩)
     refine eB (aD (aE hF [6, 7, 8, 9, 10, 11] ?_))
     simp only [go_sem]
     obtain ⟨g0, h⟩ := aH h
     try simp only [I64, I32] at g0
     repeat (refine ⟨by first | with_reducible assumption | omega | (intros; first | assumption | omega) | (simp only [go_sem] at *; first | assumption | omega) | decide, ?_⟩)
     obtain rfl := Option.some.inj h
     dsimp only [rN] at hs9
     refine bB (aX (((j_14 - (1 : Int)), (r_24.2), (q_16.set (j_14.toNat) (r_24.1)))) hs9 rfl ?_)
     ·(try simp only [jA, fL, true_or, and_self, go_sem]) <;> (repeat' apply And.intro) <;> first | rfl | (left; rfl) | (right; rfl) | (left; simp only [go_sem]; done) | (right; simp only [go_sem]; done) | (simp; done) | (simp only [*]; done) | omega
    ·try simp only [go_sem] at hc
     have h := eG (by first | exact hc | omega | (simpa using hc) | (simp at hc ⊢; omega)) h
     obtain rfl := Option.some.inj h
     dsimp only [rN] at hs9
     have h := hs9
     try dsimp only at h
     refine kN (bS (bS (dA (bB (aX ((u_15, q_16)) h rfl ?_)))))
     ·(try simp only [jA, fL, true_or, and_self, go_sem]) <;> (repeat' apply And.intro) <;> first | rfl | (left; rfl) | (right; rfl) | (left; simp only [go_sem]; done) | (right; simp only [go_sem]; done) | (simp; done) | (simp only [*]; done) | omega
   ·rintro ⟨u_11, q_12⟩ h
    try dsimp only at h
    simp only [go_sem]
    unfold sC at h
    refine aC (aEv 1 ?_)
    simp only [go_sem]
    refine aEv 0 ?_
    simp only [go_sem]
    refine aE hF [4, 5] ?_
    simp only [go_sem]
    obtain ⟨g0, h⟩ := aH h
    obtain ⟨g1, h⟩ := aH h
    repeat (refine ⟨by first | with_reducible assumption | omega | (intros; first | assumption | omega) | (simp only [go_sem] at *; first | assumption | omega) | decide, ?_⟩)
    obtain rfl := Option.some.inj h
    refine aD (dD (fD hF [.tmp 4, .tmp 5] rfl rfl rfl ?_))
    (try simp only [iH, bA, go_sem]) <;> first | rfl | (simp; done)
theorem aD7 : FOK Tryz.prog GL 166 pV := eY aLq (fun ⟨x0, x1, u⟩ ⟨w0, w1, wu⟩ hp => aKa x0 w0 x1 w1 hp)
end Nu
end Go.Proofs
namespace Go.Proofs
open Go.Vc
set_option maxRecDepth 20000
namespace Nu
noncomputable def cL (d_0 : qD0) : Option Bool :=
 if (((d_0.2).1).length : Int) = (0 : Int) then some ((!(d_0.1)) && (decide ((((d_0.2).2).1) = (0 : Int)))) else ck ((((aA8 ((d_0.2).1)) = true) → ((0 : Int) < (((d_0.2).1).length : Int)))) (some ((((aA8 ((d_0.2).1)) && (decide (((((d_0.2).1).getD (0 : Nat) (0 : Nat)) &&& (1 : Nat)) = (1 : Nat)))) && (decide ((-1048576 : Int) ≤ (((d_0.2).2).1)))) && (decide ((((d_0.2).2).1) ≤ (1048576 : Int)))))
def aHr : PlR := ⟨[(0, .B [1]), (1, .A [1, 6]), (2, .A [2]), (3, .A [2])], []⟩
def aKb : Ty := .pair (.pair .bool (.pair (.sl (.u .u64)) (.pair (.i .i64) .unit))) .unit
noncomputable def dR : aJ := mSpec aKb (.one .bool) (fun x => cL x.1)
noncomputable def aKc : List (FuncId × aJ) := [(120, aBK)]
theorem aQw : bL Tryz.prog GL aKc := .cons aQp (by kernel_rfl) (.nil)
theorem aKd : gam aKc 120 = some aBK := rfl
attribute [go_sem] aKb aHr aKd
set_option maxHeartbeats 4000000 in
theorem oZ : FOK Tryz.prog GL 58 dR := by
 refine bZ (bF aQw) mix Tryz.func58 rfl (by kernel_rfl) (by decide) aHr fun w0 S x Θ hw h hF => ?_
 obtain ⟨(d_0 : qD0), u⟩ := x
 simp only [cC, go_sem]
 replace h : sat (cL d_0) _ := h
 unfold cL at h
 refine iL h (fun hc h => ?_) fun hc h => ?_
 ·exact aK hF [.tmp 2] rfl rfl rfl (aF h) (by simp only [bA, go_sem])
 ·refine aN h fun g0 h => ?_
  exact aK hF [.tmp 2] rfl rfl rfl (aF h) (by simp only [bA, go_sem])
attribute [go_sem] dR
noncomputable def eI (d_0 : qD0) : Option Int :=
 ck (((cL d_0).isSome = true)) (if (¬ (((cL d_0).getD false) = true)) ∨ ((((((d_0.2).1).length) : Nat) : Int) = (0 : Int)) then some (0 : Int) else if (d_0.1) = true then some (-1 : Int) else some (1 : Int))
def aFw : PlR := ⟨[(0, .B [1]), (1, .A [1, 3]), (2, .A [2]), (3, .A [13]), (4, .A [2]), (5, .A [2])], []⟩
def aHs : Ty := .pair (.pair .bool (.pair (.sl (.u .u64)) (.pair (.i .i64) .unit))) .unit
noncomputable def yC : aJ := mSpec aHs (.one (.i .i64)) (fun x => eI x.1)
noncomputable def aHt : List (FuncId × aJ) := [(58, dR)]
theorem aPf : bL Tryz.prog GL aHt := .cons oZ (by kernel_rfl) (.nil)
theorem aKe : gam aHt 58 = some dR := rfl
attribute [go_sem] aHs aFw aKe
set_option maxHeartbeats 4000000 in
theorem aNL : FOK Tryz.prog GL 57 yC := by
 refine bZ (bF aPf) mix Tryz.func57 rfl (by kernel_rfl) (by decide) aFw fun w0 S x Θ hw h hF => ?_
 obtain ⟨(d_0 : qD0), u⟩ := x
 simp only [cC, go_sem]
 replace h : sat (eI d_0) _ := h
 unfold eI at h
 refine aN h fun g0 h => ?_
 refine ⟨fun hc => ?_, fun hc => ?_⟩
 ·replace h := hZ (by first | exact hc | omega | (simpa using hc) | (simp at hc ⊢; omega)) h
  exact aK hF [.tmp 2] rfl rfl rfl (aF h) (by simp only [bA, go_sem])
 ·replace h := iA (by first | exact hc | omega | (simpa using hc) | (simp at hc ⊢; omega)) h
  refine aJH h (fun hc h => ?_) fun hc h => ?_
  ·exact aK hF [.tmp 2] rfl rfl rfl (aF h) (by simp only [bA, go_sem])
  ·exact aK hF [.tmp 2] rfl rfl rfl (aF h) (by simp only [bA, go_sem])
attribute [go_sem] yC
noncomputable def pA (a_0 : qD0) (b_1 : qD0) : Option Int :=
 ck ((aJQ ((a_0.2).1))) (ck (I64 ((aV ((a_0.2).1)) + (((a_0.2).2).1))) (ck ((aJQ ((b_1.2).1))) (ck (I64 ((aV ((b_1.2).1)) + (((b_1.2).2).1))) (if ((aV ((a_0.2).1)) + (((a_0.2).2).1)) < ((aV ((b_1.2).1)) + (((b_1.2).2).1)) then some (-1 : Int) else if ((aV ((b_1.2).1)) + (((b_1.2).2).1)) < ((aV ((a_0.2).1)) + (((a_0.2).2).1)) then some (1 : Int) else ck (I64 ((((a_0.2).2).1) - (min (((a_0.2).2).1) (((b_1.2).2).1)))) (ck ((aHb ((a_0.2).1) ((((a_0.2).2).1) - (min (((a_0.2).2).1) (((b_1.2).2).1))))) (ck (I64 ((((b_1.2).2).1) - (min (((a_0.2).2).1) (((b_1.2).2).1)))) (ck ((aHb ((b_1.2).1) ((((b_1.2).2).1) - (min (((a_0.2).2).1) (((b_1.2).2).1))))) (ck ((aRS (bI ((a_0.2).1) ((((a_0.2).2).1) - (min (((a_0.2).2).1) (((b_1.2).2).1)))) (bI ((b_1.2).1) ((((b_1.2).2).1) - (min (((a_0.2).2).1) (((b_1.2).2).1)))))) (some (oW (bI ((a_0.2).1) ((((a_0.2).2).1) - (min (((a_0.2).2).1) (((b_1.2).2).1)))) (bI ((b_1.2).1) ((((b_1.2).2).1) - (min (((a_0.2).2).1) (((b_1.2).2).1))))))))))))))
def aFx : PlR := ⟨[(0, .B [2, 3]), (1, .A [2, 3, 5, 6]), (2, .A [2, 3, 5, 6, 20]), (3, .A [4]), (4, .A [2, 3, 24]), (5, .A [4]), (6, .A [2, 3, 7]), (7, .A [4])], []⟩
def aHu : Ty := .pair (.pair .bool (.pair (.sl (.u .u64)) (.pair (.i .i64) .unit))) (.pair (.pair .bool (.pair (.sl (.u .u64)) (.pair (.i .i64) .unit))) .unit)
noncomputable def yD : aJ := mSpec aHu (.one (.i .i64)) (fun x => pA x.1 x.2.1)
noncomputable def aAq : List (FuncId × aJ) := [(121, oX), (122, rB), (95, lJ)]
theorem aPg : bL Tryz.prog GL aAq := .cons aCV (by kernel_rfl) (.cons aFm (by kernel_rfl) (.cons aAo (by kernel_rfl) (.nil)))
theorem aH6 : gam aAq 121 = some oX := rfl
theorem aH7 : gam aAq 122 = some rB := rfl
theorem aKf : gam aAq 95 = some lJ := rfl
attribute [go_sem] aHu aFx aH6 aH7 aKf
set_option maxHeartbeats 4000000 in
theorem aNM : FOK Tryz.prog GL 59 yD := by
 refine bZ (bF aPg) mix Tryz.func59 rfl (by kernel_rfl) (by decide) aFx fun w0 S x Θ hw h hF => ?_
 obtain ⟨(a_0 : qD0), (b_1 : qD0), u⟩ := x
 simp only [cC, go_sem]
 replace h : sat (pA a_0 b_1) _ := h
 unfold pA at h
 refine aN h fun g0 h => aN h fun g1 h => aN h fun g2 h => aN h fun g3 h => ?_
 refine jZ h (fun hc h => ?_) fun hc h => ?_
 ·exact aK hF [.tmp 4] rfl rfl rfl (aF h) (by simp only [bA, go_sem])
 ·refine jZ h (fun hc h => ?_) fun hc h => ?_
  ·exact aK hF [.tmp 4] rfl rfl rfl (aF h) (by simp only [bA, go_sem])
  ·refine aN h fun g0 h => aN h fun g1 h => aN h fun g2 h => aN h fun g3 h => aN h fun g4 h => ?_
   exact aK hF [.tmp 4] rfl rfl rfl (aF h) (by simp only [bA, go_sem])
attribute [go_sem] yD
noncomputable def iF (a_0 : qD0) (b_1 : qD0) : Option Int :=
 ck (((eI a_0).isSome = true)) (ck (((eI b_1).isSome = true)) (ck (((cL a_0).isSome = true)) (ck ((¬ (¬ (((cL a_0).getD false) = true)) → (((cL b_1).isSome = true)))) (if (¬ (((cL a_0).getD false) = true)) ∨ (¬ (((cL b_1).getD false) = true)) then some (0 : Int) else if (¬ (((eI a_0).getD (0 : Int)) = ((eI b_1).getD (0 : Int)))) ∧ (((eI a_0).getD (0 : Int)) < ((eI b_1).getD (0 : Int))) then some (-1 : Int) else if ¬ (((eI a_0).getD (0 : Int)) = ((eI b_1).getD (0 : Int))) then some (1 : Int) else if ((eI a_0).getD (0 : Int)) = (0 : Int) then some (0 : Int) else ck (((pA a_0 b_1).isSome = true)) (ck (I64 (((eI a_0).getD (0 : Int)) * ((pA a_0 b_1).getD (0 : Int)))) (some (((eI a_0).getD (0 : Int)) * ((pA a_0 b_1).getD (0 : Int)))))))))
def aHv : PlR := ⟨[(0, .B [2, 3]), (1, .A [2, 3, 5, 6]), (2, .A [2, 3, 5, 6, 11]), (3, .A [4]), (4, .A [2, 3, 5, 6, 20]), (5, .A [4]), (6, .A [2, 3, 5, 29]), (7, .A [4]), (8, .A [2, 3, 5, 33]), (9, .A [4]), (10, .A [4])], []⟩
def aKg : Ty := .pair (.pair .bool (.pair (.sl (.u .u64)) (.pair (.i .i64) .unit))) (.pair (.pair .bool (.pair (.sl (.u .u64)) (.pair (.i .i64) .unit))) .unit)
noncomputable def pB : aJ := mSpec aKg (.one (.i .i64)) (fun x => iF x.1 x.2.1)
noncomputable def aBR : List (FuncId × aJ) := [(57, yC), (58, dR), (59, yD)]
theorem aQx : bL Tryz.prog GL aBR := .cons aNL (by kernel_rfl) (.cons oZ (by kernel_rfl) (.cons aNM (by kernel_rfl) (.nil)))
theorem aLr : gam aBR 57 = some yC := rfl
theorem aLs : gam aBR 58 = some dR := rfl
theorem aLt : gam aBR 59 = some yD := rfl
attribute [go_sem] aKg aHv aLr aLs aLt
set_option maxHeartbeats 4000000 in
theorem aC2 : FOK Tryz.prog GL 22 pB := by
 refine bZ (bF aQx) mix Tryz.func22 rfl (by kernel_rfl) (by decide) aHv fun w0 S x Θ hw h hF => ?_
 obtain ⟨(a_0 : qD0), (b_1 : qD0), u⟩ := x
 simp only [cC, go_sem]
 replace h : sat (iF a_0 b_1) _ := h
 unfold iF at h
 obtain ⟨g0, h⟩ := aM h
 obtain ⟨g1, h⟩ := aM h
 repeat (refine ⟨by first | with_reducible assumption | omega | (intros; first | assumption | omega) | (simp only [go_sem] at *; first | assumption | omega) | decide, ?_⟩)
 obtain ⟨g0, h⟩ := aM h
 obtain ⟨g1, h⟩ := aM h
 repeat (refine ⟨by first | with_reducible assumption | omega | (intros; first | assumption | omega) | (simp only [go_sem] at *; first | assumption | omega) | (intro q0; (try have e1 := g1 (by first | exact q0 | omega | (simpa using q0))); first | assumption | omega) | decide, ?_⟩)
 refine ⟨fun hc => ?_, fun hc => ?_⟩
 ·replace h := hZ (by first | exact hc | omega | (simpa using hc) | (simp at hc ⊢; omega)) h
  exact aK hF [.tmp 4] rfl rfl rfl (aF h) (by simp only [bA, go_sem])
 ·replace h := iA (by first | exact hc | omega | (simpa using hc) | (simp at hc ⊢; omega)) h
  refine ⟨fun hc => ?_, fun hc => ?_⟩
  ·replace h := hZ (by first | exact hc | omega | (simpa using hc) | (simp at hc ⊢; omega)) h
   exact aK hF [.tmp 4] rfl rfl rfl (aF h) (by simp only [bA, go_sem])
  ·replace h := iA (by first | exact hc | omega | (simpa using hc) | (simp at hc ⊢; omega)) h
   refine ⟨fun hc => ?_, fun hc => ?_⟩
   ·replace h := hZ hc h
    exact aK hF [.tmp 4] rfl rfl rfl (aF h) (by simp only [bA, go_sem])
   ·replace h := iA (by first | exact hc | omega | simpa using hc) h
    refine iL h (fun hc h => ?_) fun hc h => ?_
    ·exact aK hF [.tmp 4] rfl rfl rfl (aF h) (by simp only [bA, go_sem])
    ·obtain ⟨g0, h⟩ := aM h
     obtain ⟨g1, h⟩ := aM h
     try simp only [I64, I32] at g1
     repeat (refine ⟨by first | with_reducible assumption | omega | (intros; first | assumption | omega) | (simp only [go_sem] at *; first | assumption | omega) | decide, ?_⟩)
     exact aK hF [.tmp 4] rfl rfl rfl (aF h) (by simp only [bA, go_sem])
attribute [go_sem] pB
noncomputable def eD (d_0 : qD0) : Option qD0 :=
 ck ((aQg ((d_0.2).1))) (some ((d_0.1), (id ((d_0.2).1)), (((d_0.2).2).1), ()))
def aC3 : PlR := ⟨[(0, .B [1, 2]), (1, .B [1, 2]), (2, .B [2])], []⟩
def aD8 : Ty := .pair (.pair .bool (.pair (.sl (.u .u64)) (.pair (.i .i64) .unit))) .unit
noncomputable def uK : aJ := mSpec aD8 (.one (.pair .bool (.pair (.sl (.u .u64)) (.pair (.i .i64) .unit)))) (fun x => eD x.1)
noncomputable def aD9 : List (FuncId × aJ) := [(165, bQ)]
theorem aLu : bL Tryz.prog GL aD9 := .cons iB (by kernel_rfl) (.nil)
theorem aFy : gam aD9 165 = some bQ := rfl
attribute [go_sem] aD8 aC3 aFy
set_option maxHeartbeats 4000000 in
theorem aKh : FOK Tryz.prog GL 119 uK := by
 refine bZ (bF aLu) mix Tryz.func119 rfl (by kernel_rfl) (by decide) aC3 fun w0 S x Θ hw h hF => ?_
 obtain ⟨(d_0 : qD0), u⟩ := x
 simp only [cC, go_sem]
 replace h : sat (eD d_0) _ := h
 unfold eD at h
 refine aN h fun g0 h => ?_
 exact aK hF [.cell 2 25] rfl rfl rfl (aF h) (by simp only [bA, go_sem])
attribute [go_sem] uK
noncomputable def gP (d_0 : qD0) : Option qD0 :=
 ck (((eD d_0).isSome = true)) (ck (((cL ((eD d_0).getD (false, ([] : List Nat), (0 : Int), ()))).isSome = true)) (if (((cL ((eD d_0).getD (false, ([] : List Nat), (0 : Int), ()))).getD false) = true) ∧ ((0 : Int) < (((((((eD d_0).getD (false, ([] : List Nat), (0 : Int), ())).2).1).length) : Nat) : Int)) then some ((!(((eD d_0).getD (false, ([] : List Nat), (0 : Int), ())).1)), ((((eD d_0).getD (false, ([] : List Nat), (0 : Int), ())).2).1), (((((eD d_0).getD (false, ([] : List Nat), (0 : Int), ())).2).2).1), ()) else some ((eD d_0).getD (false, ([] : List Nat), (0 : Int), ()))))
def aHw : PlR := ⟨[(0, .B [1, 2]), (1, .B [1, 2]), (2, .A [1, 2, 12]), (3, .B [1, 2]), (4, .B [2])], []⟩
def aKi : Ty := .pair (.pair .bool (.pair (.sl (.u .u64)) (.pair (.i .i64) .unit))) .unit
noncomputable def aAr : aJ := mSpec aKi (.one (.pair .bool (.pair (.sl (.u .u64)) (.pair (.i .i64) .unit)))) (fun x => gP x.1)
noncomputable def aEK : List (FuncId × aJ) := [(119, uK), (58, dR)]
theorem aQy : bL Tryz.prog GL aEK := .cons aKh (by kernel_rfl) (.cons oZ (by kernel_rfl) (.nil))
theorem aKj : gam aEK 119 = some uK := rfl
theorem aLv : gam aEK 58 = some dR := rfl
attribute [go_sem] aKi aHw aKj aLv
set_option maxHeartbeats 4000000 in
theorem aPh : FOK Tryz.prog GL 56 aAr := by
 refine bZ (bF aQy) mix Tryz.func56 rfl (by kernel_rfl) (by decide) aHw fun w0 S x Θ hw h hF => ?_
 obtain ⟨(d_0 : qD0), u⟩ := x
 simp only [cC, go_sem]
 replace h : sat (gP d_0) _ := h
 unfold gP at h
 refine aN h fun g0 h => ?_
 refine aN h fun g0 h => ?_
 refine ⟨fun hc => ?_, fun hc => ?_⟩
 ·replace h := hZ hc h
  exact aK hF [.cell 2 25] rfl rfl rfl (aF h) (by simp only [bA, go_sem])
 ·replace h := iA hc h
  exact aK hF [.cell 2 25] rfl rfl rfl (aF h) (by simp only [bA, go_sem])
attribute [go_sem] aAr
noncomputable def jF (is_0 : Bool) (e_1 : Int) : Option (Unit ⊕ (Int × Unit)) :=
 if ¬ (is_0 = true) then some (.inr (e_1, ())) else some (.inl ())
noncomputable def eE : mY where
 D := Bool × Int × (Unit ⊕ (Int × Unit))
 av := fun d => [.val .bool d.1, .val (.i .i64) d.2.1]
 hp := fun d => []
 m := 0
 pre := fun d => jF d.1 d.2.1 = some d.2.2
 out := fun d => match d.2.2 with | .inl r => .ret (.tup []) [] | .inr p => .pan ⟨254, (.pair (.i .i64) .unit), p⟩ []
noncomputable def aFz : List (FuncId × aJ) := []
theorem aFA : bL Tryz.prog GL aFz := .nil
set_option maxHeartbeats 4000000 in
theorem hO : GOK Tryz.prog GL 186 eE := by
 refine pN (bF aFA) Tryz.func186 rfl (by kernel_rfl) (fun _ => Nat.le_of_ble_eq_true rfl) fun c0 w0 d hw1 hw2 h hn => ?_
 have hF : iZ ⟨Tryz.prog, EM aFz, GM eE c0 d, w0, Tryz.f186.ntmps, []⟩ := ⟨bF aFA, mix⟩
 obtain ⟨(is_0 : Bool), (e_1 : Int), r⟩ := d
 replace h : jF is_0 e_1 = some r := h
 have hw1 : AV.wfL [.val .bool is_0, .val (.i .i64) e_1] := hw1
 simp only [AV.wfL, AV.wfV, Ty.wf, lT] at hw1
 show Tri _ _ _ [(0, .val .bool is_0), (1, .val (.i .i64) e_1)] []
 unfold jF at h
 refine aC (aE hF [1, 5] ?_)
 simp only [go_sem]
 refine aD (bG rfl (fun hc => ?_) (fun hc => ?_))
 ·try simp only [go_sem] at hc
  have h := eF (by first | exact hc | omega | (simpa using hc) | (simp at hc ⊢; omega)) h
  refine aT hF (cH (l := []) (.nil)) [] [] ?_
  simp only [go_sem]
  repeat (refine ⟨by first | with_reducible assumption | omega | (intros; first | assumption | omega) | (simp only [go_sem] at *; first | assumption | omega) | decide, ?_⟩)
  obtain rfl := Option.some.inj h
  refine qD rfl rfl rfl rfl
 ·try simp only [go_sem] at hc
  have h := eG (by first | exact hc | omega | (simpa using hc) | (simp at hc ⊢; omega)) h
  obtain rfl := Option.some.inj h
  refine bR (tX (qC hF [] rfl rfl rfl rfl rfl rfl ?_))
  (try simp only [bA, zU, zC, fL, nU, AV.isAgg, go_sem]) <;> first | trivial | rfl | (simp; done)
attribute [go_sem] eE
noncomputable def mD (l_1 : (List qD0)) (x15_13 : Int) : Option ((Int) ⊕ ((Unit) ⊕ (Int × Unit))) :=
 if x15_13 < (l_1.length : Int) then ck (0 ≤ x15_13 ∧ x15_13 < (l_1.length : Int)) (ck (((cL (l_1.getD (x15_13.toNat) (false, ([] : List Nat), (0 : Int), ()))).isSome = true)) (((jF ((cL (l_1.getD (x15_13.toNat) (false, ([] : List Nat), (0 : Int), ()))).getD false) (1 : Int))).bind (fun e => match e with | .inl r_19 => ck (I64 (x15_13 + (1 : Int))) (some (.inl (x15_13 + (1 : Int)))) | .inr p_20 => some (.inr (.inr p_20))))) else some (.inr (.inl ()))
noncomputable def qP (l_1 : (List qD0)) : Option ((Unit ⊕ (Int × Unit))) :=
 (eQ (fun d : Int => mD l_1 d) (0 : Int)).bind (fun e => match e with | (.inl e) => some (.inl ()) | (.inr e) => some (.inr e))
noncomputable def tD (p_0 : Int) (l_1 : (List qD0)) : Option (Unit ⊕ (Int × Unit)) :=
 if (1 : Int) ≤ p_0 then ((jF ((decide ((1 : Int) ≤ p_0)) && (decide (p_0 ≤ (2000 : Int)))) (1 : Int))).bind (fun e => match e with | .inl r_22 => qP l_1 | .inr p_23 => some (.inr p_23)) else ((jF false (1 : Int))).bind (fun e => match e with | .inl r_24 => qP l_1 | .inr p_25 => some (.inr p_25))
noncomputable def uL : mY where
 D := Int × (List qD0) × (Unit ⊕ (Int × Unit))
 av := fun d => [.val (.i .i64) d.1, .val (.sl (.pair .bool (.pair (.sl (.u .u64)) (.pair (.i .i64) .unit)))) d.2.1]
 hp := fun d => []
 m := 0
 pre := fun d => tD d.1 d.2.1 = some d.2.2
 out := fun d => match d.2.2 with | .inl r => .ret (.tup []) [] | .inr p => .pan ⟨254, (.pair (.i .i64) .unit), p⟩ []
noncomputable def aC4 : List (FuncId × aJ) := [(58, dR)]
theorem aHx : bL Tryz.prog GL aC4 := .cons oZ (by kernel_rfl) (.nil)
theorem aKk : gam aC4 58 = some dR := rfl
attribute [go_sem] aKk
set_option maxHeartbeats 4000000 in
theorem aFB : GOK Tryz.prog GL 185 uL := by
 refine pN (bF aHx) Tryz.func185 rfl (by kernel_rfl) (fun _ => Nat.le_of_ble_eq_true rfl) fun c0 w0 d hw1 hw2 h hn => ?_
 have hF : iZ ⟨Tryz.prog, EM aC4, GM uL c0 d, w0, Tryz.f185.ntmps, []⟩ := ⟨bF aHx, mix⟩
 obtain ⟨(p_0 : Int), (l_1 : (List qD0)), r⟩ := d
 replace h : tD p_0 l_1 = some r := h
 have hw1 : AV.wfL [.val (.i .i64) p_0, .val (.sl (.pair .bool (.pair (.sl (.u .u64)) (.pair (.i .i64) .unit)))) l_1] := hw1
 simp only [AV.wfL, AV.wfV, Ty.wf, lT] at hw1
 show Tri _ _ _ [(0, .val (.i .i64) p_0), (1, .val (.sl (.pair .bool (.pair (.sl (.u .u64)) (.pair (.i .i64) .unit)))) l_1)] []
 unfold tD at h
 refine jR (D := Unit) (fun d => qP l_1 = some r) [1] (fun d => []) (fun d => []) ?_ ?_
 ·by_cases hq : (1 : Int) ≤ p_0
  ·have h := eF hq h
   obtain ⟨e, he2, h⟩ := bind_some h
   rcases e with r_22 | p_23
   ·try dsimp only at h
    refine aT hF (cH (l := [(186, ⟨eE, [], (((decide ((1 : Int) ≤ p_0)) && (decide (p_0 ≤ (2000 : Int)))), (1 : Int), .inl r_22)⟩)]) (.cons hO (by kernel_rfl) (.nil))) [1] [] ?_
    simp only [go_sem]
    repeat (refine ⟨by first | with_reducible assumption | omega | (intros; first | assumption | omega) | (simp only [go_sem] at *; first | assumption | omega) | decide, ?_⟩)
    refine ⟨fun _ => ?_, fun hx => by first | (exfalso; omega) | (exfalso; simp_all; done)⟩
    repeat (refine ⟨by first | with_reducible assumption | omega | (intros; first | assumption | omega) | (simp only [go_sem] at *; first | assumption | omega) | decide, ?_⟩)
    refine ⟨fun _ => ?_, fun hx => by first | (exfalso; omega) | (exfalso; simp_all; done)⟩
    repeat (refine ⟨by first | with_reducible assumption | omega | (intros; first | assumption | omega) | (simp only [go_sem] at *; first | assumption | omega) | decide, ?_⟩)
    refine bB (aX (()) h rfl ?_)
    ·(try simp only [jA, fL, true_or, and_self, go_sem]) <;> (repeat' apply And.intro) <;> first | rfl | (left; rfl) | (right; rfl) | (left; simp only [go_sem]; done) | (right; simp only [go_sem]; done) | (simp; done) | (simp only [*]; done) | omega
   ·try dsimp only at h
    refine aT hF (cH (l := [(186, ⟨eE, [], (((decide ((1 : Int) ≤ p_0)) && (decide (p_0 ≤ (2000 : Int)))), (1 : Int), .inr p_23)⟩)]) (.cons hO (by kernel_rfl) (.nil))) [1] [] ?_
    simp only [go_sem]
    repeat (refine ⟨by first | with_reducible assumption | omega | (intros; first | assumption | omega) | (simp only [go_sem] at *; first | assumption | omega) | decide, ?_⟩)
    refine ⟨fun _ => ?_, fun hx => by first | (exfalso; omega) | (exfalso; simp_all; done)⟩
    repeat (refine ⟨by first | with_reducible assumption | omega | (intros; first | assumption | omega) | (simp only [go_sem] at *; first | assumption | omega) | decide, ?_⟩)
    refine ⟨fun _ => ?_, fun hx => by first | (exfalso; omega) | (exfalso; simp_all; done)⟩
    repeat (refine ⟨by first | with_reducible assumption | omega | (intros; first | assumption | omega) | (simp only [go_sem] at *; first | assumption | omega) | decide, ?_⟩)
    obtain rfl := Option.some.inj h
    refine lU (qD rfl rfl rfl rfl)
  ·have h := eG hq h
   obtain ⟨e, he3, h⟩ := bind_some h
   rcases e with r_24 | p_25
   ·try dsimp only at h
    refine aT hF (cH (l := [(186, ⟨eE, [], (false, (1 : Int), .inl r_24)⟩)]) (.cons hO (by kernel_rfl) (.nil))) [1] [] ?_
    simp only [go_sem]
    repeat (refine ⟨by first | with_reducible assumption | omega | (intros; first | assumption | omega) | (simp only [go_sem] at *; first | assumption | omega) | decide, ?_⟩)
    first | (refine ⟨fun hx => by first | (exfalso; omega) | (exfalso; simp_all; done), fun _ => ?_⟩) | intro _
    repeat (refine ⟨by first | with_reducible assumption | omega | (intros; first | assumption | omega) | (simp only [go_sem] at *; first | assumption | omega) | decide, ?_⟩)
    first | (refine ⟨fun hx => by first | (exfalso; omega) | (exfalso; simp_all; done), fun _ => ?_⟩) | intro _
    repeat (refine ⟨by first | with_reducible assumption | omega | (intros; first | assumption | omega) | (simp only [go_sem] at *; first | assumption | omega) | decide, ?_⟩)
    refine bB (aX (()) h rfl ?_)
    ·(try simp only [jA, fL, true_or, and_self, go_sem]) <;> (repeat' apply And.intro) <;> first | rfl | (left; rfl) | (right; rfl) | (left; simp only [go_sem]; done) | (right; simp only [go_sem]; done) | (simp; done) | (simp only [*]; done) | omega
   ·try dsimp only at h
    refine aT hF (cH (l := [(186, ⟨eE, [], (false, (1 : Int), .inr p_25)⟩)]) (.cons hO (by kernel_rfl) (.nil))) [1] [] ?_
    simp only [go_sem]
    repeat (refine ⟨by first | with_reducible assumption | omega | (intros; first | assumption | omega) | (simp only [go_sem] at *; first | assumption | omega) | decide, ?_⟩)
    first | (refine ⟨fun hx => by first | (exfalso; omega) | (exfalso; simp_all; done), fun _ => ?_⟩) | intro _
    repeat (refine ⟨by first | with_reducible assumption | omega | (intros; first | assumption | omega) | (simp only [go_sem] at *; first | assumption | omega) | decide, ?_⟩)
    first | (refine ⟨fun hx => by first | (exfalso; omega) | (exfalso; simp_all; done), fun _ => ?_⟩) | intro _
    repeat (refine ⟨by first | with_reducible assumption | omega | (intros; first | assumption | omega) | (simp only [go_sem] at *; first | assumption | omega) | decide, ?_⟩)
    obtain rfl := Option.some.inj h
    refine lU (qD rfl rfl rfl rfl)
 ·rintro u h
  try dsimp only at h
  simp only [go_sem]
  unfold qP at h
  refine aC (aE hF [13, 14, 15] ?_)
  simp only [go_sem]
  refine aD (dO (sV (D := Int) [13, 14] (fun d => [(15, .val (.i .i64) d)]) (fun d => []) h ?_ ?_ ?_))
  ·first | rfl | (simp only [go_sem]; done)
  ·(try simp only [jA, fL, true_or, and_self, go_sem]) <;> (repeat' apply And.intro) <;> first | rfl | (left; rfl) | (right; rfl) | (left; simp only [go_sem]; done) | (right; simp only [go_sem]; done) | (simp; done) | (simp only [*]; done) | omega
  rintro x15_13 s2 h hs2
  simp only [go_sem]
  try dsimp only at h
  unfold mD at h
  refine aC (aE hF [13, 14, 15, 16] ?_)
  simp only [go_sem]
  refine aD (aC (bG rfl (fun hc => ?_) (fun hc => ?_)))
  ·try simp only [go_sem] at hc
   have h := eF (by first | exact hc | omega | (simpa using hc) | (simp at hc ⊢; omega)) h
   refine bR (aD (aC (dO (aC (bC hF [5, 13, 14, 15] ?_)))))
   simp only [go_sem]
   obtain ⟨g0, h⟩ := aH h
   repeat (refine ⟨by first | with_reducible assumption | omega | (intros; first | assumption | omega) | (simp only [go_sem] at *; first | assumption | omega) | decide, ?_⟩)
   obtain ⟨g0, h⟩ := aH h
   obtain ⟨e, he1, h⟩ := bind_some h
   rcases e with r_19 | p_20
   ·try dsimp only at h
    refine aD (aT hF (cH (l := [(186, ⟨eE, [], (((cL (l_1.getD (x15_13.toNat) (false, ([] : List Nat), (0 : Int), ()))).getD false), (1 : Int), .inl r_19)⟩)]) (.cons hO (by kernel_rfl) (.nil))) [13, 14, 15] [] ?_)
    simp only [go_sem]
    repeat (refine ⟨by first | with_reducible assumption | omega | (intros; first | assumption | omega) | (simp only [go_sem] at *; first | assumption | omega) | decide, ?_⟩)
    refine eB (aD (aE hF [13, 14, 15] ?_))
    simp only [go_sem]
    obtain ⟨g0, h⟩ := aH h
    try simp only [I64, I32] at g0
    repeat (refine ⟨by first | with_reducible assumption | omega | (intros; first | assumption | omega) | (simp only [go_sem] at *; first | assumption | omega) | decide, ?_⟩)
    obtain rfl := Option.some.inj h
    dsimp only [rN] at hs2
    refine bB (oN [] rfl rfl ?_)
    simp only [ren, gN, oE, posOf, eX, go_sem]
    refine aX ((x15_13 + (1 : Int))) hs2 rfl ?_
    ·(try simp only [jA, fL, true_or, and_self, go_sem]) <;> (repeat' apply And.intro) <;> first | rfl | (left; rfl) | (right; rfl) | (left; simp only [go_sem]; done) | (right; simp only [go_sem]; done) | (simp; done) | (simp only [*]; done) | omega
   ·try dsimp only at h
    refine aD (aT hF (cH (l := [(186, ⟨eE, [], (((cL (l_1.getD (x15_13.toNat) (false, ([] : List Nat), (0 : Int), ()))).getD false), (1 : Int), .inr p_20)⟩)]) (.cons hO (by kernel_rfl) (.nil))) [13, 14, 15] [] ?_)
    simp only [go_sem]
    repeat (refine ⟨by first | with_reducible assumption | omega | (intros; first | assumption | omega) | (simp only [go_sem] at *; first | assumption | omega) | decide, ?_⟩)
    obtain rfl := Option.some.inj h
    dsimp only [rN] at hs2
    have h := hs2
    try dsimp only at h
    obtain rfl := Option.some.inj h
    refine aMq (lU (lU (aMq (vX [] rfl rfl ?_))))
    simp only [ren, gN, oE, posOf, eX, go_sem]
    refine qD rfl rfl rfl rfl
  ·try simp only [go_sem] at hc
   have h := eG (by first | exact hc | omega | (simpa using hc) | (simp at hc ⊢; omega)) h
   obtain rfl := Option.some.inj h
   dsimp only [rN] at hs2
   have h := hs2
   try dsimp only at h
   obtain rfl := Option.some.inj h
   refine kN (bS (bS (dA (tX (qC hF [] rfl rfl rfl rfl rfl rfl ?_)))))
   (try simp only [bA, zU, zC, fL, nU, AV.isAgg, go_sem]) <;> first | trivial | rfl | (simp; done)
attribute [go_sem] uL
noncomputable def oP (neg_0 : Bool) (e_8 : Int) (m_10 : (List Nat)) : Option ((qD0 ⊕ (Int × Unit))) :=
 ck (((cD neg_0 m_10 e_8).isSome = true)) (((jF (decide (((((cD neg_0 m_10 e_8).getD ((false, ([] : List Nat), (0 : Int), ()), (0 : Int), ())).2).1) = (0 : Int))) ((((cD neg_0 m_10 e_8).getD ((false, ([] : List Nat), (0 : Int), ()), (0 : Int), ())).2).1))).bind (fun e => match e with | .inl r_15 => some (.inl (((cD neg_0 m_10 e_8).getD ((false, ([] : List Nat), (0 : Int), ()), (0 : Int), ())).1)) | .inr p_16 => some (.inr p_16)))
noncomputable def oQ (up_5 : Bool) (neg_0 : Bool) (m_7 : (List Nat)) (e_8 : Int) (rest_9 : Bool) : Option ((qD0 ⊕ (Int × Unit))) :=
 if (rest_9 = true) ∧ ((up_5 != neg_0) = true) then ck ((aJP m_7 ([1] : List Nat))) (oP neg_0 e_8 (iD m_7 ([1] : List Nat))) else oP neg_0 e_8 m_7
noncomputable def tE (neg_0 : Bool) (m_1 : (List Nat)) (e_2 : Int) (rest_3 : Bool) (p_4 : Int) (up_5 : Bool) : Option (qD0 ⊕ (Int × Unit)) :=
 ck ((aJQ m_1)) (ck (I64 ((aV m_1) - p_4)) (if (0 : Int) < ((aV m_1) - p_4) then ck ((¬ (rest_3 = true) → ((pSz m_1)))) (ck ((aGr m_1 ((aV m_1) - p_4))) (ck (I64 (e_2 + ((aV m_1) - p_4))) (oQ up_5 neg_0 (dB m_1 ((aV m_1) - p_4)) (e_2 + ((aV m_1) - p_4)) (rest_3 || (decide ((bX m_1) < ((aV m_1) - p_4))))))) else oQ up_5 neg_0 m_1 e_2 rest_3))
noncomputable def uM : mY where
 D := Bool × (List Nat) × Int × Bool × Int × Bool × (qD0 ⊕ (Int × Unit))
 av := fun d => [.val .bool d.1, .val (.sl (.u .u64)) d.2.1, .val (.i .i64) d.2.2.1, .val .bool d.2.2.2.1, .val (.i .i64) d.2.2.2.2.1, .val .bool d.2.2.2.2.2.1]
 hp := fun d => []
 m := 0
 pre := fun d => tE d.1 d.2.1 d.2.2.1 d.2.2.2.1 d.2.2.2.2.1 d.2.2.2.2.2.1 = some d.2.2.2.2.2.2
 out := fun d => match d.2.2.2.2.2.2 with | .inl r => .ret (.val (.pair .bool (.pair (.sl (.u .u64)) (.pair (.i .i64) .unit))) r) [] | .inr p => .pan ⟨254, (.pair (.i .i64) .unit), p⟩ []
noncomputable def qQ : List (FuncId × aJ) := [(117, tA), (121, oX), (97, jC), (98, nG), (99, oY)]
theorem aHy : bL Tryz.prog GL qQ := .cons aHp (by kernel_rfl) (.cons aCV (by kernel_rfl) (.cons xX (by kernel_rfl) (.cons aBL (by kernel_rfl) (.cons aCX (by kernel_rfl) (.nil)))))
theorem aH8 : gam qQ 117 = some tA := rfl
attribute [go_sem] aH8
theorem aH9 : gam qQ 121 = some oX := rfl
attribute [go_sem] aH9
theorem aKl : gam qQ 97 = some jC := rfl
attribute [go_sem] aKl
theorem aKm : gam qQ 98 = some nG := rfl
attribute [go_sem] aKm
theorem aKn : gam qQ 99 = some oY := rfl
attribute [go_sem] aKn
set_option maxHeartbeats 4000000 in
theorem aFC : GOK Tryz.prog GL 187 uM := by
 refine pN (bF aHy) Tryz.func187 rfl (by kernel_rfl) (fun _ => Nat.le_of_ble_eq_true rfl) fun c0 w0 d hw1 hw2 h hn => ?_
 have hF : iZ ⟨Tryz.prog, EM qQ, GM uM c0 d, w0, Tryz.f187.ntmps, []⟩ := ⟨bF aHy, mix⟩
 obtain ⟨(neg_0 : Bool), (m_1 : (List Nat)), (e_2 : Int), (rest_3 : Bool), (p_4 : Int), (up_5 : Bool), r⟩ := d
 replace h : tE neg_0 m_1 e_2 rest_3 p_4 up_5 = some r := h
 have hw1 : AV.wfL [.val .bool neg_0, .val (.sl (.u .u64)) m_1, .val (.i .i64) e_2, .val .bool rest_3, .val (.i .i64) p_4, .val .bool up_5] := hw1
 simp only [AV.wfL, AV.wfV, Ty.wf, lT] at hw1
 show Tri _ _ _ [(0, .val .bool neg_0), (1, .val (.sl (.u .u64)) m_1), (2, .val (.i .i64) e_2), (3, .val .bool rest_3), (4, .val (.i .i64) p_4), (5, .val .bool up_5)] []
 unfold tE at h
 refine aC (bC hF [0, 1, 2, 3, 4, 5, 12] ?_)
 simp only [go_sem]
 refine aD (jR (D := (List Nat) × Int × Bool) (fun d => oQ up_5 neg_0 d.1 d.2.1 d.2.2 = some r) [0, 5] (fun d => [(1, .val (.sl (.u .u64)) d.1), (2, .val (.i .i64) d.2.1), (3, .val .bool d.2.2), (12, .ptr 0 [])]) (fun d => [.inr (.box 3 (.val (.pair .bool (.pair (.sl (.u .u64)) (.pair (.i .i64) .unit))) (false, ([] : List Nat), (0 : Int), ())))]) ?_ ?_)
 ·refine aC (aE hF [0, 1, 2, 3, 5, 12, 13] ?_)
  simp only [go_sem]
  obtain ⟨g0, h⟩ := aH h
  obtain ⟨g1, h⟩ := aH h
  try simp only [I64, I32] at g1
  repeat (refine ⟨by first | with_reducible assumption | omega | (intros; first | assumption | omega) | (simp only [go_sem] at *; first | assumption | omega) | decide, ?_⟩)
  refine aD (aC (aE hF [0, 1, 2, 3, 5, 12, 13, 21] ?_))
  simp only [go_sem]
  refine aD (bG rfl (fun hc => ?_) (fun hc => ?_))
  ·try simp only [go_sem] at hc
   have h := eF (by first | exact hc | omega | (simpa using hc) | (simp at hc ⊢; omega)) h
   refine aC (aE hF [0, 1, 2, 3, 5, 12, 13] ?_)
   simp only [go_sem]
   obtain ⟨g0, h⟩ := aH h
   repeat (refine ⟨by first | with_reducible assumption | omega | (intros; first | assumption | omega) | (simp only [go_sem] at *; first | assumption | omega) | (intro q0; (try have e0 := g0 (by first | exact q0 | omega | (simpa using q0))); first | assumption | omega) | decide, ?_⟩)
   refine aD (aE hF [0, 1, 2, 3, 5, 12] ?_)
   simp only [go_sem]
   obtain ⟨g0, h⟩ := aH h
   obtain ⟨g1, h⟩ := aH h
   try simp only [I64, I32] at g1
   repeat (refine ⟨by first | with_reducible assumption | omega | (intros; first | assumption | omega) | (simp only [go_sem] at *; first | assumption | omega) | decide, ?_⟩)
   refine bB (aX (((dB m_1 ((aV m_1) - p_4)), (e_2 + ((aV m_1) - p_4)), (rest_3 || (decide ((bX m_1) < ((aV m_1) - p_4)))))) h rfl ?_)
   ·(try simp only [jA, fL, true_or, and_self, go_sem]) <;> (repeat' apply And.intro) <;> first | rfl | (left; rfl) | (right; rfl) | (left; simp only [go_sem]; done) | (right; simp only [go_sem]; done) | (simp; done) | (simp only [*]; done) | omega
  ·try simp only [go_sem] at hc
   have h := eG (by first | exact hc | omega | (simpa using hc) | (simp at hc ⊢; omega)) h
   refine bR (bB (aX ((m_1, e_2, rest_3)) h rfl ?_))
   ·(try simp only [jA, fL, true_or, and_self, go_sem]) <;> (repeat' apply And.intro) <;> first | rfl | (left; rfl) | (right; rfl) | (left; simp only [go_sem]; done) | (right; simp only [go_sem]; done) | (simp; done) | (simp only [*]; done) | omega
 ·rintro ⟨m_7, e_8, rest_9⟩ h
  try dsimp only at h
  simp only [go_sem]
  unfold oQ at h
  refine jR (D := (List Nat)) (fun d => oP neg_0 e_8 d = some r) [0, 2] (fun d => [(1, .val (.sl (.u .u64)) d), (12, .ptr 0 [])]) (fun d => [.inr (.box 3 (.val (.pair .bool (.pair (.sl (.u .u64)) (.pair (.i .i64) .unit))) (false, ([] : List Nat), (0 : Int), ())))]) ?_ ?_
  ·refine aC (aE hF [0, 1, 2, 12, 40] ?_)
   simp only [go_sem]
   refine aD (bG rfl (fun hc => ?_) (fun hc => ?_))
   ·try simp only [go_sem] at hc
    have h := eF (by first | exact hc | omega | (simpa using hc) | (simp at hc ⊢; omega)) h
    refine aE hF [0, 1, 2, 12] ?_
    simp only [go_sem]
    obtain ⟨g0, h⟩ := aH h
    repeat (refine ⟨by first | with_reducible assumption | omega | (intros; first | assumption | omega) | (simp only [go_sem] at *; first | assumption | omega) | decide, ?_⟩)
    refine bB (aX ((iD m_7 ([1] : List Nat))) h rfl ?_)
    ·(try simp only [jA, fL, true_or, and_self, go_sem]) <;> (repeat' apply And.intro) <;> first | rfl | (left; rfl) | (right; rfl) | (left; simp only [go_sem]; done) | (right; simp only [go_sem]; done) | (simp; done) | (simp only [*]; done) | omega
   ·try simp only [go_sem] at hc
    have h := eG (by first | exact hc | omega | (simpa using hc) | (simp at hc ⊢; omega)) h
    refine bR (bB (aX (m_7) h rfl ?_))
    ·(try simp only [jA, fL, true_or, and_self, go_sem]) <;> (repeat' apply And.intro) <;> first | rfl | (left; rfl) | (right; rfl) | (left; simp only [go_sem]; done) | (right; simp only [go_sem]; done) | (simp; done) | (simp only [*]; done) | omega
  ·rintro m_10 h
   try dsimp only at h
   simp only [go_sem]
   unfold oP at h
   refine aC (bC hF [12, 14, 15] ?_)
   simp only [go_sem]
   obtain ⟨g0, h⟩ := aH h
   repeat (refine ⟨by first | with_reducible assumption | omega | (intros; first | assumption | omega) | (simp only [go_sem] at *; first | assumption | omega) | decide, ?_⟩)
   obtain ⟨e, he1, h⟩ := bind_some h
   rcases e with r_15 | p_16
   ·try dsimp only at h
    refine aD (aC (aT hF (cH (l := [(186, ⟨eE, [], ((decide (((((cD neg_0 m_10 e_8).getD ((false, ([] : List Nat), (0 : Int), ()), (0 : Int), ())).2).1) = (0 : Int))), ((((cD neg_0 m_10 e_8).getD ((false, ([] : List Nat), (0 : Int), ()), (0 : Int), ())).2).1), .inl r_15)⟩)]) (.cons hO (by kernel_rfl) (.nil))) [12, 14] [] ?_))
    simp only [go_sem]
    repeat (refine ⟨by first | with_reducible assumption | omega | (intros; first | assumption | omega) | (simp only [go_sem] at *; first | assumption | omega) | decide, ?_⟩)
    refine aD (aC (bC hF [12] ?_))
    simp only [go_sem]
    obtain rfl := Option.some.inj h
    refine aD (dD (aCO hF [.cell 12 25] [] rfl rfl rfl rfl rfl rfl rfl rfl rfl ?_))
    (try simp only [bA, zU, zC, fL, nU, AV.isAgg, go_sem]) <;> first | trivial | rfl | (simp; done)
   ·try dsimp only at h
    refine aD (aC (aT hF (cH (l := [(186, ⟨eE, [], ((decide (((((cD neg_0 m_10 e_8).getD ((false, ([] : List Nat), (0 : Int), ()), (0 : Int), ())).2).1) = (0 : Int))), ((((cD neg_0 m_10 e_8).getD ((false, ([] : List Nat), (0 : Int), ()), (0 : Int), ())).2).1), .inr p_16)⟩)]) (.cons hO (by kernel_rfl) (.nil))) [12, 14] [] ?_))
    simp only [go_sem]
    repeat (refine ⟨by first | with_reducible assumption | omega | (intros; first | assumption | omega) | (simp only [go_sem] at *; first | assumption | omega) | decide, ?_⟩)
    obtain rfl := Option.some.inj h
    refine lU (vX [] rfl rfl ?_)
    simp only [ren, gN, oE, posOf, eX, go_sem]
    refine qD rfl rfl rfl rfl
attribute [go_sem] uM
noncomputable def oR (a0_0 : Int) (a1_1 : qD0) (a2_2 : qD0) (a3_3 : Bool) : Option (qD0 ⊕ (Int × Unit)) :=
 ((tD a0_0 ([a1_1, a2_2] : List qD0))).bind (fun e => match e with | .inl r_9 => ((jF (decide ((0 : Int) < (((a2_2.2).1).length : Int))) (4 : Int))).bind (fun e => match e with | .inl r_15 => ck (I64 (a0_0 + (1 : Int))) (ck ((aJQ ((a2_2.2).1))) (ck (I64 ((a0_0 + (1 : Int)) + (aV ((a2_2.2).1)))) (ck ((aJQ ((a1_1.2).1))) (ck (I64 (((a0_0 + (1 : Int)) + (aV ((a2_2.2).1))) - (aV ((a1_1.2).1)))) (ck ((aHb ((a1_1.2).1) (max (0 : Int) (((a0_0 + (1 : Int)) + (aV ((a2_2.2).1))) - (aV ((a1_1.2).1)))))) (ck ((uI (bI ((a1_1.2).1) (max (0 : Int) (((a0_0 + (1 : Int)) + (aV ((a2_2.2).1))) - (aV ((a1_1.2).1))))) ((a2_2.2).1))) (ck (I64 ((((a1_1.2).2).1) - (((a2_2.2).2).1))) (ck (I64 (((((a1_1.2).2).1) - (((a2_2.2).2).1)) - (max (0 : Int) (((a0_0 + (1 : Int)) + (aV ((a2_2.2).1))) - (aV ((a1_1.2).1)))))) (((tE ((a1_1.1) != (a2_2.1)) ((cA (bI ((a1_1.2).1) (max (0 : Int) (((a0_0 + (1 : Int)) + (aV ((a2_2.2).1))) - (aV ((a1_1.2).1))))) ((a2_2.2).1)).1) (((((a1_1.2).2).1) - (((a2_2.2).2).1)) - (max (0 : Int) (((a0_0 + (1 : Int)) + (aV ((a2_2.2).1))) - (aV ((a1_1.2).1))))) (decide ((0 : Int) < ((((((cA (bI ((a1_1.2).1) (max (0 : Int) (((a0_0 + (1 : Int)) + (aV ((a2_2.2).1))) - (aV ((a1_1.2).1))))) ((a2_2.2).1)).2).1).length) : Nat) : Int))) a0_0 a3_3)).bind (fun e => match e with | .inl r_21 => some (.inl r_21) | .inr p_22 => some (.inr p_22))))))))))) | .inr p_16 => some (.inr p_16)) | .inr p_10 => some (.inr p_10))
noncomputable def pQ : mY where
 D := Int × qD0 × qD0 × Bool × (qD0 ⊕ (Int × Unit))
 av := fun d => [.val (.rp (.i .i64)) d.1, .val (.rp (.pair .bool (.pair (.sl (.u .u64)) (.pair (.i .i64) .unit)))) d.2.1, .val (.rp (.pair .bool (.pair (.sl (.u .u64)) (.pair (.i .i64) .unit)))) d.2.2.1, .val (.rp .bool) d.2.2.2.1]
 hp := fun d => []
 m := 0
 pre := fun d => oR d.1 d.2.1 d.2.2.1 d.2.2.2.1 = some d.2.2.2.2
 out := fun d => match d.2.2.2.2 with | .inl r => .ret (.val (.pair .bool (.pair (.sl (.u .u64)) (.pair (.i .i64) .unit))) r) [] | .inr p => .pan ⟨254, (.pair (.i .i64) .unit), p⟩ []
noncomputable def qR : List (FuncId × aJ) := [(121, oX), (166, pV), (95, lJ)]
theorem aC5 : bL Tryz.prog GL qR := .cons aCV (by kernel_rfl) (.cons aD7 (by kernel_rfl) (.cons aAo (by kernel_rfl) (.nil)))
theorem aEL : gam qR 121 = some oX := rfl
attribute [go_sem] aEL
theorem aEM : gam qR 166 = some pV := rfl
attribute [go_sem] aEM
theorem aFD : gam qR 95 = some lJ := rfl
attribute [go_sem] aFD
set_option maxHeartbeats 4000000 in
theorem aB9 : GOK Tryz.prog GL 184 pQ := by
 refine pN (bF aC5) Tryz.func184 rfl (by kernel_rfl) (fun _ => Nat.le_of_ble_eq_true rfl) fun c0 w0 d hw1 hw2 h hn => ?_
 have hF : iZ ⟨Tryz.prog, EM qR, GM pQ c0 d, w0, Tryz.f184.ntmps, []⟩ := ⟨bF aC5, mix⟩
 obtain ⟨(a0_0 : Int), (a1_1 : qD0), (a2_2 : qD0), (a3_3 : Bool), r⟩ := d
 replace h : oR a0_0 a1_1 a2_2 a3_3 = some r := h
 have hw1 : AV.wfL [.val (.rp (.i .i64)) a0_0, .val (.rp (.pair .bool (.pair (.sl (.u .u64)) (.pair (.i .i64) .unit)))) a1_1, .val (.rp (.pair .bool (.pair (.sl (.u .u64)) (.pair (.i .i64) .unit)))) a2_2, .val (.rp .bool) a3_3] := hw1
 simp only [AV.wfL, AV.wfV, Ty.wf, lT] at hw1
 show Tri _ _ _ [(0, .roa (.i .i64) a0_0), (1, .roa (.pair .bool (.pair (.sl (.u .u64)) (.pair (.i .i64) .unit))) a1_1), (2, .roa (.pair .bool (.pair (.sl (.u .u64)) (.pair (.i .i64) .unit))) a2_2), (3, .roa .bool a3_3)] []
 unfold oR at h
 refine aC (bC hF [0, 1, 2, 3, 4] ?_)
 simp only [go_sem]
 obtain ⟨e, he1, h⟩ := bind_some h
 rcases e with r_9 | p_10
 ·try dsimp only at h
  refine aD (aC (aT hF (cH (l := [(185, ⟨uL, [], (a0_0, ([a1_1, a2_2] : List qD0), .inl r_9)⟩)]) (.cons aFB (by kernel_rfl) (.nil))) [0, 1, 2, 3, 4] [] ?_))
  simp only [go_sem]
  repeat (refine ⟨by first | with_reducible assumption | omega | (intros; first | assumption | omega) | (simp only [go_sem] at *; first | assumption | omega) | decide, ?_⟩)
  obtain ⟨e, he2, h⟩ := bind_some h
  rcases e with r_15 | p_16
  ·try dsimp only at h
   refine aD (aC (aT hF (cH (l := [(186, ⟨eE, [], ((decide ((0 : Int) < (((a2_2.2).1).length : Int))), (4 : Int), .inl r_15)⟩)]) (.cons hO (by kernel_rfl) (.nil))) [0, 1, 2, 3, 4] [] ?_))
   simp only [go_sem]
   repeat (refine ⟨by first | with_reducible assumption | omega | (intros; first | assumption | omega) | (simp only [go_sem] at *; first | assumption | omega) | decide, ?_⟩)
   refine aD (aC (aE hF [0, 1, 2, 3, 4, 5] ?_))
   simp only [go_sem]
   obtain ⟨g0, h⟩ := aH h
   obtain ⟨g1, h⟩ := aH h
   obtain ⟨g2, h⟩ := aH h
   obtain ⟨g3, h⟩ := aH h
   obtain ⟨g4, h⟩ := aH h
   try simp only [I64, I32] at g0
   try simp only [I64, I32] at g2
   try simp only [I64, I32] at g4
   repeat (refine ⟨by first | with_reducible assumption | omega | (intros; first | assumption | omega) | (simp only [go_sem] at *; first | assumption | omega) | decide, ?_⟩)
   refine aD (aC (aE hF [0, 1, 2, 3, 4, 5, 6, 7] ?_))
   simp only [go_sem]
   obtain ⟨g0, h⟩ := aH h
   obtain ⟨g1, h⟩ := aH h
   repeat (refine ⟨by first | with_reducible assumption | omega | (intros; first | assumption | omega) | (simp only [go_sem] at *; first | assumption | omega) | decide, ?_⟩)
   obtain ⟨g0, h⟩ := aH h
   try simp only [I64, I32] at g0
   obtain ⟨g1, h⟩ := aH h
   try simp only [I64, I32] at g1
   obtain ⟨e, he3, h⟩ := bind_some h
   rcases e with r_21 | p_22
   ·try dsimp only at h
    refine aD (aC (aT hF (cH (l := [(187, ⟨uM, [], (((a1_1.1) != (a2_2.1)), ((cA (bI ((a1_1.2).1) (max (0 : Int) (((a0_0 + (1 : Int)) + (aV ((a2_2.2).1))) - (aV ((a1_1.2).1))))) ((a2_2.2).1)).1), (((((a1_1.2).2).1) - (((a2_2.2).2).1)) - (max (0 : Int) (((a0_0 + (1 : Int)) + (aV ((a2_2.2).1))) - (aV ((a1_1.2).1))))), (decide ((0 : Int) < ((((((cA (bI ((a1_1.2).1) (max (0 : Int) (((a0_0 + (1 : Int)) + (aV ((a2_2.2).1))) - (aV ((a1_1.2).1))))) ((a2_2.2).1)).2).1).length) : Nat) : Int))), a0_0, a3_3, .inl r_21)⟩)]) (.cons aFC (by kernel_rfl) (.nil))) [4] [] ?_))
    simp only [go_sem]
    repeat (refine ⟨by first | with_reducible assumption | omega | (intros; first | assumption | omega) | (simp only [go_sem] at *; first | assumption | omega) | decide, ?_⟩)
    obtain rfl := Option.some.inj h
    refine aD (dD (aCO hF [.cell 4 25] [] rfl rfl rfl rfl rfl rfl rfl rfl rfl ?_))
    (try simp only [bA, zU, zC, fL, nU, AV.isAgg, go_sem]) <;> first | trivial | rfl | (simp; done)
   ·try dsimp only at h
    refine aD (aC (aT hF (cH (l := [(187, ⟨uM, [], (((a1_1.1) != (a2_2.1)), ((cA (bI ((a1_1.2).1) (max (0 : Int) (((a0_0 + (1 : Int)) + (aV ((a2_2.2).1))) - (aV ((a1_1.2).1))))) ((a2_2.2).1)).1), (((((a1_1.2).2).1) - (((a2_2.2).2).1)) - (max (0 : Int) (((a0_0 + (1 : Int)) + (aV ((a2_2.2).1))) - (aV ((a1_1.2).1))))), (decide ((0 : Int) < ((((((cA (bI ((a1_1.2).1) (max (0 : Int) (((a0_0 + (1 : Int)) + (aV ((a2_2.2).1))) - (aV ((a1_1.2).1))))) ((a2_2.2).1)).2).1).length) : Nat) : Int))), a0_0, a3_3, .inr p_22)⟩)]) (.cons aFC (by kernel_rfl) (.nil))) [4] [] ?_))
    simp only [go_sem]
    repeat (refine ⟨by first | with_reducible assumption | omega | (intros; first | assumption | omega) | (simp only [go_sem] at *; first | assumption | omega) | decide, ?_⟩)
    obtain rfl := Option.some.inj h
    refine lU (vX [] rfl rfl ?_)
    simp only [ren, gN, oE, posOf, eX, go_sem]
    refine qD rfl rfl rfl rfl
  ·try dsimp only at h
   refine aD (aC (aT hF (cH (l := [(186, ⟨eE, [], ((decide ((0 : Int) < (((a2_2.2).1).length : Int))), (4 : Int), .inr p_16)⟩)]) (.cons hO (by kernel_rfl) (.nil))) [0, 1, 2, 3, 4] [] ?_))
   simp only [go_sem]
   repeat (refine ⟨by first | with_reducible assumption | omega | (intros; first | assumption | omega) | (simp only [go_sem] at *; first | assumption | omega) | decide, ?_⟩)
   obtain rfl := Option.some.inj h
   refine lU (vX [] rfl rfl ?_)
   simp only [ren, gN, oE, posOf, eX, go_sem]
   refine qD rfl rfl rfl rfl
 ·try dsimp only at h
  refine aD (aC (aT hF (cH (l := [(185, ⟨uL, [], (a0_0, ([a1_1, a2_2] : List qD0), .inr p_10)⟩)]) (.cons aFB (by kernel_rfl) (.nil))) [0, 1, 2, 3, 4] [] ?_))
  simp only [go_sem]
  repeat (refine ⟨by first | with_reducible assumption | omega | (intros; first | assumption | omega) | (simp only [go_sem] at *; first | assumption | omega) | decide, ?_⟩)
  obtain rfl := Option.some.inj h
  refine lU (vX [] rfl rfl ?_)
  simp only [ren, gN, oE, posOf, eX, go_sem]
  refine qD rfl rfl rfl rfl
attribute [go_sem] pQ
def qS : mY where
 D := qD0 × Int
 av := fun _ => [.ptr 0 [], .ptr 1 []]
 hp := fun d => [.box 3 (.val (.pair .bool (.pair (.sl (.u .u64)) (.pair (.i .i64) .unit))) d.1), .box 1 (.val (.i .i64) d.2)]
 m := 2
 pre := fun _ => True
 out := fun d => .ret (.tup []) [.box 3 (.val (.pair .bool (.pair (.sl (.u .u64)) (.pair (.i .i64) .unit))) d.1), .box 1 (.val (.i .i64) d.2)]
def qT (x : (Int × Unit)) : mY where
 D := qD0 × Int
 av := fun _ => [.ptr 0 [], .ptr 1 []]
 hp := fun d => [.box 3 (.val (.pair .bool (.pair (.sl (.u .u64)) (.pair (.i .i64) .unit))) d.1), .box 1 (.val (.i .i64) d.2)]
 m := 2
 pre := fun _ => True
 out := fun d => .ret (.tup []) [.box 3 (.val (.pair .bool (.pair (.sl (.u .u64)) (.pair (.i .i64) .unit))) (false, ([] : List Nat), (0 : Int), ())), .box 1 (.val (.i .i64) x.1)]
theorem aIa : DOK Tryz.prog GL 234 none qS := by
 refine aNe (bF aAp) Tryz.func234 rfl (by kernel_rfl) (fun _ => Nat.le_of_ble_eq_true rfl) rfl fun c w d hw1 hw2 hp hn => ?_
 have hF : iZ ⟨Tryz.prog, EM [], GM qS c d, w, Tryz.f234.ntmps, []⟩ := ⟨bF aAp, mix⟩
 obtain ⟨d, e⟩ := d
 show pY _ _ _ [(5, .val .nili ()), (0, .ptr 0 []), (1, .ptr 1 [])] [.box 3 (.val (.pair .bool (.pair (.sl (.u .u64)) (.pair (.i .i64) .unit))) d), .box 1 (.val (.i .i64) e)] _
 simp only [go_sem]
 refine aC (aE hF [0, 1, 2, 9] ?_)
 simp only [go_sem]
 refine aD (bG rfl (fun hc => absurd hc (by decide)) (fun hc => ?_))
 refine bR ?_
 refine oN [0, 1] rfl rfl ?_
 simp only [ren, gN, oE, posOf, eX, go_sem]
 refine tX (qC hF [] rfl rfl rfl rfl rfl rfl ?_)
 simp only [bA, zU, zC, go_sem]
 try decide
theorem aIb (x : (Int × Unit)) : DOK Tryz.prog GL 234 (some ⟨254, (.pair (.i .i64) .unit), x⟩) (qT x) := by
 refine aNe (bF aAp) Tryz.func234 rfl (by kernel_rfl) (fun _ => Nat.le_of_ble_eq_true rfl) rfl fun c w d hw1 hw2 hp hn => ?_
 have hF : iZ ⟨Tryz.prog, EM [], GM (qT x) c d, w, Tryz.f234.ntmps, []⟩ := ⟨bF aAp, mix⟩
 obtain ⟨d, e⟩ := d
 show pY _ _ _ [(5, .val (.ifc 254 (.pair (.i .i64) .unit)) x), (0, .ptr 0 []), (1, .ptr 1 [])] [.box 3 (.val (.pair .bool (.pair (.sl (.u .u64)) (.pair (.i .i64) .unit))) d), .box 1 (.val (.i .i64) e)] _
 simp only [go_sem]
 refine aC (aE hF [0, 1, 2, 9] ?_)
 simp only [go_sem]
 refine aD (bG rfl (fun hc => ?_) (fun hc => absurd hc (by decide)))
 refine aG7 hF [] [] [.box 3 (.val (.pair .bool (.pair (.sl (.u .u64)) (.pair (.i .i64) .unit))) (false, ([] : List Nat), (0 : Int), ())), .box 1 (.val (.i .i64) x.1), .box 1 (.val (.pair (.i .i64) .unit) x)] (by decide) ?_ ?_
 ·simp only [go_sem]
  unfold anyS
  intro i hi
  have hi : i = 0 ∨ i = 1 := by revert hi; revert i; decide
  rcases hi with rfl | rfl
  ·simp only [go_sem]
   skip
   unfold anyS
   intro i hi
   have hi : i = 1 ∨ i = 3 := by revert hi; revert i; decide
   rcases hi with rfl | rfl
   ·simp only [go_sem]
    skip
    unfold anyS
    intro i hi
    have hi : i = 2 ∨ i = 3 := by revert hi; revert i; decide
    rcases hi with rfl | rfl
    ·simp only [go_sem]
     skip
     unfold anyS
     intro i hi
     have hi : i = 3 := by revert hi; revert i; decide
     subst hi
     simp only [go_sem]
     skip
     unfold anyS
     intro i hi
     have hi : i = 4 := by revert hi; revert i; decide
     subst hi
     simp only [go_sem]
     skip
     (simp only [anyS, go_sem]) <;> first | exact ⟨rfl, rfl⟩ | trivial
    ·simp only [go_sem]
     skip
     unfold anyS
     intro i hi
     have hi : i = 2 := by revert hi; revert i; decide
     subst hi
     simp only [go_sem]
     skip
     unfold anyS
     intro i hi
     have hi : i = 4 := by revert hi; revert i; decide
     subst hi
     simp only [go_sem]
     skip
     (simp only [anyS, go_sem]) <;> first | exact ⟨rfl, rfl⟩ | trivial
   ·simp only [go_sem]
    skip
    unfold anyS
    intro i hi
    have hi : i = 1 := by revert hi; revert i; decide
    subst hi
    simp only [go_sem]
    skip
    unfold anyS
    intro i hi
    have hi : i = 2 := by revert hi; revert i; decide
    subst hi
    simp only [go_sem]
    skip
    unfold anyS
    intro i hi
    have hi : i = 4 := by revert hi; revert i; decide
    subst hi
    simp only [go_sem]
    skip
    (simp only [anyS, go_sem]) <;> first | exact ⟨rfl, rfl⟩ | trivial
  ·simp only [go_sem]
   skip
   unfold anyS
   intro i hi
   have hi : i = 0 ∨ i = 2 := by revert hi; revert i; decide
   rcases hi with rfl | rfl
   ·simp only [go_sem]
    skip
    unfold anyS
    intro i hi
    have hi : i = 2 ∨ i = 3 := by revert hi; revert i; decide
    rcases hi with rfl | rfl
    ·simp only [go_sem]
     skip
     unfold anyS
     intro i hi
     have hi : i = 3 := by revert hi; revert i; decide
     subst hi
     simp only [go_sem]
     skip
     unfold anyS
     intro i hi
     have hi : i = 4 := by revert hi; revert i; decide
     subst hi
     simp only [go_sem]
     skip
     (simp only [anyS, go_sem]) <;> first | exact ⟨rfl, rfl⟩ | trivial
    ·simp only [go_sem]
     skip
     unfold anyS
     intro i hi
     have hi : i = 2 := by revert hi; revert i; decide
     subst hi
     simp only [go_sem]
     skip
     unfold anyS
     intro i hi
     have hi : i = 4 := by revert hi; revert i; decide
     subst hi
     simp only [go_sem]
     skip
     (simp only [anyS, go_sem]) <;> first | exact ⟨rfl, rfl⟩ | trivial
   ·simp only [go_sem]
    skip
    unfold anyS
    intro i hi
    have hi : i = 0 := by revert hi; revert i; decide
    subst hi
    simp only [go_sem]
    skip
    unfold anyS
    intro i hi
    have hi : i = 3 := by revert hi; revert i; decide
    subst hi
    simp only [go_sem]
    skip
    unfold anyS
    intro i hi
    have hi : i = 4 := by revert hi; revert i; decide
    subst hi
    simp only [go_sem]
    skip
    (simp only [anyS, go_sem]) <;> first | exact ⟨rfl, rfl⟩ | trivial
 refine oN [0, 1] rfl rfl ?_
 simp only [ren, gN, oE, posOf, eX, go_sem]
 refine tX (qC hF [] rfl rfl rfl rfl rfl rfl ?_)
 simp only [bA, zU, zC, go_sem]
 try decide
noncomputable def cV (c0 : Int) (c1 : qD0) (c2 : qD0) (c3 : Bool) : Option (qD0 × Int × Unit) :=
 (oR c0 c1 c2 c3).bind fun q => some (match q with | .inl r => (r, 0, ()) | .inr p => ((false, ([] : List Nat), (0 : Int), ()), p.1, ()))
def qU : Ty := .pair (.clo 184 (.pair (.rp (.i .i64)) (.pair (.rp (.pair .bool (.pair (.sl (.u .u64)) (.pair (.i .i64) .unit)))) (.pair (.rp (.pair .bool (.pair (.sl (.u .u64)) (.pair (.i .i64) .unit)))) (.pair (.rp .bool) .unit))))) .unit
noncomputable def gY : aJ := mSpec qU (.tup (.pair (.pair .bool (.pair (.sl (.u .u64)) (.pair (.i .i64) .unit))) (.pair (.i .i64) .unit))) (fun x => cV x.1.1 x.1.2.1 x.1.2.2.1 x.1.2.2.2.1)
set_option maxHeartbeats 4000000 in
theorem yE : FOK Tryz.prog GL 183 gY := by
 refine aJG (bF aAp) Tryz.func183 rfl (by kernel_rfl) (by decide) fun w0 S x r hw h => ?_
 have hF : iZ (fr Tryz.prog (EM []) S w0 Tryz.f183.ntmps) := ⟨bF aAp, mix⟩
 obtain ⟨⟨(c0 : Int), (c1 : qD0), (c2 : qD0), (c3 : Bool), u1⟩, u⟩ := x
 replace h : cV c0 c1 c2 c3 = some r := h
 show Tri _ _ _ [(0, .val (.clo 184 (.pair (.rp (.i .i64)) (.pair (.rp (.pair .bool (.pair (.sl (.u .u64)) (.pair (.i .i64) .unit)))) (.pair (.rp (.pair .bool (.pair (.sl (.u .u64)) (.pair (.i .i64) .unit)))) (.pair (.rp .bool) .unit))))) (c0, c1, c2, c3, u1))] []
 unfold cV at h
 obtain ⟨q, hq, h⟩ := bind_some h
 obtain rfl := Option.some.inj h
 refine aC (bC hF [0, 2, 3] ?_)
 simp only [go_sem]
 refine aD (aDY 2 [0, 1] rfl rfl (Nat.zero_le _) (by decide) fun roots hroots => ?_)
 have hF' : iZ { fr Tryz.prog (EM []) S w0 Tryz.f183.ntmps with M := ⟨nothing, S, 2, roots⟩, ds := [⟨.fn (.func 234) ([0, 1].map roots).toArray, #[]⟩] } := ⟨bF aAp, mix⟩
 rcases q with q | q
 ·refine aC (aT hF' (cH (l := [(184, ⟨pQ, [], (c0, c1, c2, c3, .inl q)⟩)]) (.cons aB9 (by kernel_rfl) .nil)) [2, 3] [] ?_)
  simp only [go_sem]
  refine ⟨hq, ?_⟩
  refine aD (dD ?_)
  refine aRz (fn := Tryz.f183) (k := 2) (l2 := [0, 1]) hF' rfl rfl (by decide) rfl (aFe (by kernel_rfl)) ⟨qS, [0, 1], (q, 0)⟩ aIa rfl [.cell 2 25, .cell 3 3] rfl ?_ ?_
  ·(simp only [qS, go_sem]) <;> first | decide | trivial
  ·(simp only [qS, bA, iH, go_sem]) <;> first | decide | trivial
 ·refine aC (aT hF' (cH (l := [(184, ⟨pQ, [], (c0, c1, c2, c3, .inr q)⟩)]) (.cons aB9 (by kernel_rfl) .nil)) [2, 3] [] ?_)
  simp only [go_sem]
  refine ⟨hq, ?_⟩
  refine lU ?_
  refine aRA (fn := Tryz.f183) (k := 2) (l2 := [0, 1]) hF' rfl rfl (by decide) rfl (aFe (by kernel_rfl)) ⟨qT q, [0, 1], ((false, ([] : List Nat), (0 : Int), ()), 0)⟩ (aIb q) rfl [.cell 2 25, .cell 3 3] rfl ?_ ?_
  ·(simp only [qT, go_sem]) <;> first | decide | trivial
  ·(simp only [qT, bA, iH, go_sem]) <;> first | decide | trivial
attribute [go_sem] gY qU
noncomputable def fT (a_0 : qD0) (b_1 : qD0) (p_2 : Int) (up_3 : Bool) : Option (qD0 × (Int × Unit)) :=
 ck (((cV p_2 a_0 b_1 up_3).isSome = true)) (some ((((cV p_2 a_0 b_1 up_3).getD ((false, ([] : List Nat), (0 : Int), ()), (0 : Int), ())).1), ((((cV p_2 a_0 b_1 up_3).getD ((false, ([] : List Nat), (0 : Int), ()), (0 : Int), ())).2).1), ()))
def yF : Ty := .pair (.pair .bool (.pair (.sl (.u .u64)) (.pair (.i .i64) .unit))) (.pair (.pair .bool (.pair (.sl (.u .u64)) (.pair (.i .i64) .unit))) (.pair (.i .i64) (.pair .bool .unit)))
attribute [go_sem] yF
noncomputable def wB : aJ := mSpec yF (.tup (.pair (.pair .bool (.pair (.sl (.u .u64)) (.pair (.i .i64) .unit))) (.pair (.i .i64) .unit))) (fun x => fT x.1 x.2.1 x.2.2.1 x.2.2.2.1)
noncomputable def aBS : List (FuncId × aJ) := [(183, gY)]
theorem aFE : bL Tryz.prog GL aBS := .cons yE (by kernel_rfl) (.nil)
theorem aGC : gam aBS 183 = some gY := rfl
attribute [go_sem] aGC
set_option maxHeartbeats 4000000 in
theorem aLw : FOK Tryz.prog GL 118 wB := by
 refine pS (bF aFE) Tryz.func118 rfl (by kernel_rfl) (by decide) fun w0 S x r hw h => ?_
 have hF : iZ (fr Tryz.prog (EM aBS) S w0 Tryz.f118.ntmps) := ⟨bF aFE, mix⟩
 obtain ⟨(a_0 : qD0), (b_1 : qD0), (p_2 : Int), (up_3 : Bool), u⟩ := x
 simp only [yF, Ty.wf, lT] at hw
 simp only [cC, yF]
 try dsimp only at h
 unfold fT at h
 refine aC (bC hF [4, 5, 6, 7, 8] ?_)
 simp only [go_sem]
 refine aD (aC (zD 2 rfl ?_))
 simp only [go_sem]
 refine zD 0 rfl ?_
 simp only [go_sem]
 refine zD 1 rfl ?_
 simp only [go_sem]
 refine zD 3 rfl ?_
 simp only [go_sem]
 refine bC hF [8, 9] ?_
 simp only [go_sem]
 obtain ⟨g0, h⟩ := aH h
 repeat (refine ⟨by first | with_reducible assumption | omega | (intros; first | assumption | omega) | (simp only [go_sem] at *; first | assumption | omega) | decide, ?_⟩)
 obtain rfl := Option.some.inj h
 refine aD (dD (fD hF [.cell 8 25, .tmp 9] rfl rfl rfl ?_))
 (try simp only [iH, bA, go_sem]) <;> first | rfl | (simp; done)
attribute [go_sem] wB
end Nu
end Go.Proofs
namespace Go.Proofs
open Go.Vc
set_option maxRecDepth 20000
namespace Nu
theorem p2m (n m : Nat) (h : n ≤ m) : 2 ^ n ≤ 2 ^ m := Nat.pow_le_pow_right (by decide) h
theorem aU1 (m : Nat) {x n : Nat} (h : x < 2 ^ n) (hn : n ≤ m) : x < 2 ^ m := Nat.lt_of_lt_of_le h (p2m n m hn)
theorem aPi (m : Nat) {x n : Nat} (h : x ≤ 2 ^ n) (hn : n < m) : x < 2 ^ m := Nat.lt_of_le_of_lt h (Nat.pow_lt_pow_right (by decide) hn)
theorem aMG (k : Nat) {x n : Nat} (h : x < 2 ^ n) (hn : n ≤ 64 * k) : x < 18446744073709551616 ^ k := by rw [qJ]; exact aU1 _ h hn
theorem aR0 (a b : Nat) (h : a < b) : 18446744073709551616 ^ a < 18446744073709551616 ^ b := Nat.pow_lt_pow_right (by decide) h
abbrev Dy : Type := Bool × List Nat × Int × Unit
def d0 : Dy := (false, [], 0, ())
def dV (d : Dy) : Bool :=
 if d.2.1.length = 0 then !d.1 && decide (d.2.2.1 = 0)
 else decide (d.2.1.length ≤ 64 ∧ Nrm d.2.1) && decide (d.2.1.getD 0 0 % 2 = 1) && decide (-1048576 ≤ d.2.2.1) && decide (d.2.2.1 ≤ 1048576)
theorem aWO (x : Nat) : x &&& 1 = x % 2 := Nat.and_two_pow_sub_one_eq_mod x 1
theorem vN (d : Dy) : cL d = some (dV d) := by
 unfold cL dV
 by_cases h : d.2.1.length = 0
 ·rw [if_pos (by omega), if_pos h]
 ·rw [if_neg (by omega), if_neg h]
  refine aB (fun _ => by omega) ?_
  rw [aWO]
  rfl
theorem aQz (e : Int) : lK false e = some (.inr (e, ())) := rfl
theorem aNN {b : Bool} {e : Int} (h : b = true) : lK b e = some (.inl ()) := by rw [h]; rfl
theorem aKo {b : Bool} {e : Int} (h : b = false) : lK b e = some (.inr (e, ())) := by rw [h]; rfl
def aQA (neg : Bool) (m : Nat) (e : Int) : Dy ⊕ (Int × Unit) :=
 if m = 0 then .inl d0
 else if 64 < (lb (m / 2 ^ tzn m)).length then .inr (2, ())
 else if ¬ (e ≤ 1048576 ∧ -1048576 - (tzn m : Int) ≤ e) then .inr (3, ())
 else if 1048576 < e + (tzn m : Int) then .inr (3, ())
 else .inl (neg, lb (m / 2 ^ tzn m), e + (tzn m : Int), ())
theorem aX7 {m k : Nat} (h0 : m ≠ 0) (h : m < 18446744073709551616 ^ k) : tzn m < 64 * k := by
 obtain ⟨q, hq⟩ := zJ h0
 rw [qJ] at h
 refine (Nat.pow_lt_pow_iff_right (show 1 < 2 by decide)).1 (Nat.lt_of_le_of_lt ?_ h)
 rw [hq, aGq rfl]
 exact Nat.le_mul_of_pos_right _ (by omega)
theorem aX8 (neg : Bool) (m : List Nat) (e : Int) (lm : Lm m) (nm : Nrm m) (sm : m.length ≤ 1099511627776) : vM neg m e = some (aQA neg (nv m) e) := by
 unfold vM aQA
 by_cases h0 : m.length = 0
 ·have hm : m = [] := List.eq_nil_of_length_eq_zero h0
  subst hm
  rfl
 ·have hm : nv m ≠ 0 := by have := aA5 nm (fun e => h0 (by rw [e]; rfl)); omega
  have hz : bX m = (tzn (nv m) : Int) := by unfold bX; rw [if_neg hm]
  have hzl := aX7 hm (kP lm)
  have hR : dB m (tzn (nv m) : Int) = lb (nv m / 2 ^ tzn (nv m)) := by unfold dB; rw [Int.toNat_natCast]
  rw [if_neg (by omega), if_neg hm, hz, hR]
  refine aB sm (aB ⟨sm, by omega⟩ ?_)
  by_cases h1 : 64 < (lb (nv m / 2 ^ tzn (nv m))).length
  ·rw [aKo (by simp; omega), if_pos h1]; rfl
  ·rw [aNN (by simp; omega), if_neg h1]
   simp only [Option.bind_some]
   by_cases h2 : e ≤ 1048576
   ·rw [if_pos h2]
    refine aB (by constructor <;> omega) ?_
    by_cases h3 : -1048576 - (tzn (nv m) : Int) ≤ e
    ·rw [aNN (by simp; omega), if_neg (by omega)]
     simp only [Option.bind_some]
     unfold rT
     rw [hz, hR]
     refine aB (by constructor <;> omega) ?_
     by_cases h4 : e + (tzn (nv m) : Int) ≤ 1048576
     ·rw [aNN (by simp; omega), if_neg (by omega)]
      simp only [Option.bind_some]
      exact aB (by constructor <;> omega) rfl
     ·rw [aKo (by simp; omega), if_pos (by omega)]; rfl
    ·rw [aKo (by simp; omega), if_pos (by omega)]; rfl
   ·rw [if_neg h2, aQz, if_pos (by omega)]; rfl
def told {α : Type} (z : α) : α ⊕ (Int × Unit) → α × Int × Unit
 | .inl r => (r, 0, ())
 | .inr p => (z, p.1, ())
def aLx (neg : Bool) (m : Nat) (e : Int) : Dy × Int × Unit := told d0 (aQA neg m e)
theorem aU2 (neg : Bool) (m : List Nat) (e : Int) (lm : Lm m) (nm : Nrm m) (sm : m.length ≤ 1099511627776) : cD neg m e = some (aLx neg (nv m) e) := by
 have h1 : rC neg m e = some (aQA neg (nv m) e) := by
  unfold rC
  rw [aX8 neg m e lm nm sm]
  simp only [Option.bind_some]
  cases aQA neg (nv m) e <;> rfl
 have h2 : dG neg m e = some (aLx neg (nv m) e) := by
  unfold dG aLx
  rw [h1]
  simp only [Option.bind_some]
  cases aQA neg (nv m) e <;> rfl
 unfold cD
 rw [h2]
 exact aB rfl rfl
end Nu
end Go.Proofs
namespace Go.Proofs
open Go.Vc
set_option maxRecDepth 20000
namespace Nu
theorem aFF {b : Bool} {e : Int} (h : b = true) : jF b e = some (.inl ()) := by rw [h]; rfl
theorem aBc {b : Bool} {e : Int} (h : b = false) : jF b e = some (.inr (e, ())) := by rw [h]; rfl
def aQB (p : Int) (l : List Dy) : Unit ⊕ (Int × Unit) := if 1 ≤ p ∧ p ≤ 2000 ∧ l.all dV = true then .inl () else .inr (1, ())
theorem aWP (p : Int) (l : List Dy) (hl : l.length ≤ 9223372036854775807) : tD p l = some (aQB p l) := by
 have key : eQ (fun d : Int => mD l d) 0 = some (if l.all dV = true then (.inl () : Unit ⊕ (Int × Unit)) else .inr (1, ())) := by
  have := kO (step := fun d : Int => mD l d) (I := fun i => 0 ≤ i ∧ i ≤ l.length) (fun i => (l.length - i).toNat) (fun i => if (l.drop i.toNat).all dV = true then (.inl () : Unit ⊕ (Int × Unit)) else .inr (1, ())) ?_ 0 ⟨by omega, by omega⟩
  ·have e : l.drop ((0 : Int).toNat) = l := rfl
   rw [e] at this
   exact this
  ·rintro i ⟨i0, i1⟩
   show (∃ d', mD l i = _ ∧ _) ∨ mD l i = _
   unfold mD
   by_cases hi : i < l.length
   ·have hk : i.toNat < l.length := by omega
    have hd : l.drop i.toNat = l.getD i.toNat d0 :: l.drop (i.toNat + 1) := by
     rw [List.drop_eq_getElem_cons hk, List.getD_eq_getElem?_getD, List.getElem?_eq_getElem hk]; rfl
    by_cases hm : dV (l.getD i.toNat d0) = true
    ·left
     refine ⟨i + 1, ?_, ⟨by omega, by omega⟩, by omega, ?_⟩
     ·rw [if_pos hi]
      refine aB (by constructor <;> omega) (aB (by rw [vN]; rfl) ?_)
      rw [vN]
      refine bH (aFF hm) ?_
      exact aB (by constructor <;> omega) rfl
     ·rw [hd, List.all_cons, hm, Bool.true_and, show (i + 1).toNat = i.toNat + 1 from by omega]
    ·right
     rw [if_pos hi]
     refine aB (by constructor <;> omega) (aB (by rw [vN]; rfl) ?_)
     rw [vN]
     refine bH (aBc ((Bool.not_eq_true _).mp hm)) ?_
     rw [hd, List.all_cons]
     have : dV (l.getD i.toNat d0) = false := (Bool.not_eq_true _).mp hm
     rw [this]
     rfl
   ·right
    rw [if_neg hi, List.drop_eq_nil_of_le (by omega)]
    rfl
 unfold tD aQB
 by_cases h1 : 1 ≤ p
 ·rw [if_pos h1]
  by_cases h2 : p ≤ 2000
  ·refine bH (aFF (by simp; omega)) ?_
   unfold qP
   rw [key]
   by_cases h3 : l.all dV = true
   ·rw [if_pos h3, if_pos ⟨h1, h2, h3⟩]; rfl
   ·rw [if_neg h3, if_neg (fun h => h3 h.2.2)]; rfl
  ·refine bH (aBc (by simp; omega)) ?_
   rw [if_neg (fun h => h2 h.2.1)]
 ·rw [if_neg h1]
  refine bH (aBc rfl) ?_
  rw [if_neg (fun h => h1 h.1)]
def aQC (neg : Bool) (m : Nat) (e : Int) (rest : Bool) (p : Int) (up : Bool) : Dy ⊕ (Int × Unit) :=
 let n := (bl m : Int) - p
 let m1 := if 0 < n then m / 2 ^ n.toNat else m
 let e1 := if 0 < n then e + n else e
 let r1 := if 0 < n then rest || decide (m % 2 ^ n.toNat ≠ 0) else rest
 let m2 := if r1 = true ∧ (up != neg) = true then m1 + 1 else m1
 match aLx neg m2 e1 with
 | (d, f, _) => if f = 0 then .inl d else .inr (f, ())
theorem aR1 {m n : Nat} (h : m ≠ 0) : tzn m < n ↔ m % 2 ^ n ≠ 0 := by
 obtain ⟨q, hq⟩ := zJ h
 constructor
 ·intro hlt h0
  obtain ⟨k, hk⟩ := Nat.dvd_of_mod_eq_zero h0
  rw [hq, show n = tzn m + (n - tzn m) from by omega, Nat.pow_add, Nat.mul_assoc] at hk
  have h2 := Nat.eq_of_mul_eq_mul_left (Nat.two_pow_pos _) hk
  rw [show n - tzn m = (n - tzn m - 1) + 1 from by omega, Nat.pow_succ, Nat.mul_comm (2 ^ (n - tzn m - 1)) 2, Nat.mul_assoc] at h2
  omega
 ·intro h0
  rcases Nat.lt_or_ge (tzn m) n with hlt | hge
  ·exact hlt
  ·exfalso
   apply h0
   rw [hq, show tzn m = n + (tzn m - n) from by omega, Nat.pow_add, Nat.mul_assoc]
   exact Nat.mul_mod_right _ _
theorem aWQ (x : Nat) : (lb (x + 1)).length ≤ (lb x).length + 1 :=
 nV.2 (Nat.lt_of_le_of_lt (nV.1 (Nat.le_refl (lb x).length)) (Nat.pow_lt_pow_right (by decide) (by omega)))
theorem aXr {x k : Nat} (a : List Nat) (la : Lm a) (h : x ≤ nv a) (hk : a.length ≤ k) : (lb x).length ≤ k :=
 Nat.le_trans (nV.2 (Nat.lt_of_le_of_lt h (kP la))) hk
theorem aX9 (neg : Bool) (m : List Nat) (e : Int) (rest : Bool) (p : Int) (up : Bool) (lm : Lm m) (nm : Nrm m) (sm : m.length ≤ 549755813888) (hp : 1 ≤ p ∧ p ≤ 2000) (he : -1000000000000 ≤ e ∧ e ≤ 1000000000000) :
  tE neg m e rest p up = some (aQC neg (nv m) e rest p up) := by
 have hb : aV m = (bl (nv m) : Int) := rfl
 have hbl : bl (nv m) ≤ 64 * m.length := by
  refine sW ?_
  rw [← qJ]; exact kP lm
 have j2 : ∀ (x : Nat) (e' : Int), (lb x).length ≤ 1099511627776 → oP neg e' (lb x) = some (match aLx neg x e' with | (d, f, _) => if f = 0 then .inl d else .inr (f, ())) := by
  intro x e' hx
  unfold oP
  rw [aU2 neg (lb x) e' (aB7 x) (aBD x) hx, iI]
  refine aB rfl ?_
  simp only [Option.getD_some]
  rcases aLx neg x e' with ⟨d, f, u⟩
  by_cases hf : f = 0
  ·refine bH (aFF (by simpa using hf)) ?_
   simp only; rw [if_pos hf]
  ·refine bH (aBc (by simpa using hf)) ?_
   simp only; rw [if_neg hf]
 have j1 : ∀ (x : Nat) (e' : Int) (r : Bool), (lb x).length ≤ 549755813888 → oQ up neg (lb x) e' r = some (match aLx neg (if r = true ∧ (up != neg) = true then x + 1 else x) e' with | (d, f, _) => if f = 0 then .inl d else .inr (f, ())) := by
  intro x e' r hx
  unfold oQ
  by_cases h : r = true ∧ (up != neg) = true
  ·rw [if_pos h, if_pos h]
   refine aB ⟨by show (lb x).length ≤ _; omega, by show (1 : Nat) ≤ _; decide⟩ ?_
   have : iD (lb x) [1] = lb (x + 1) := by
    unfold iD; rw [iI]; rfl
   rw [this]
   refine j2 _ _ ?_
   have := aWQ x
   omega
  ·rw [if_neg h, if_neg h]
   exact j2 _ _ (by omega)
 unfold tE aQC
 rw [hb]
 refine aB ⟨nm, by show m.length ≤ _; omega⟩ (aB (by constructor <;> omega) ?_)
 by_cases hn : 0 < (bl (nv m) : Int) - p
 ·have h0 : nv m ≠ 0 := by
   intro h; rw [h] at hn
   have : bl 0 = 0 := rfl
   omega
  have hz : bX m = (tzn (nv m) : Int) := by unfold bX; rw [if_neg h0]
  have hd : decide ((tzn (nv m) : Int) < (bl (nv m) : Int) - p) = decide (nv m % 2 ^ ((bl (nv m) : Int) - p).toNat ≠ 0) := by
   have := aR1 (n := ((bl (nv m) : Int) - p).toNat) h0
   refine decide_eq_decide.2 (Iff.trans ?_ this)
   omega
  simp only [if_pos hn]
  rw [hz, hd]
  refine aB (fun _ => by show m.length ≤ _; omega) (aB ⟨by show m.length ≤ _; omega, by omega⟩ (aB (by constructor <;> omega) ?_))
  unfold dB
  refine j1 _ _ _ ?_
  exact aXr m lm (Nat.div_le_self _ _) sm
 ·simp only [if_neg hn]
  have := j1 (nv m) e rest (by rw [aRP lm nm]; exact sm)
  rw [aRP lm nm] at this
  exact this
def aKp (a b : Dy) (p : Int) (up : Bool) : Dy ⊕ (Int × Unit) :=
 match aQB p [a, b] with
 | .inr e => .inr e
 | .inl _ => if b.2.1.length = 0 then .inr (4, ()) else
  let k := max 0 (p + 1 + (bl (nv b.2.1) : Int) - (bl (nv a.2.1) : Int))
  aQC (a.1 != b.1) (nv a.2.1 * 2 ^ k.toNat / nv b.2.1) (a.2.2.1 - b.2.2.1 - k) (decide (nv a.2.1 * 2 ^ k.toNat % nv b.2.1 ≠ 0)) p up
theorem jT {d : Dy} (h : dV d = true) : d.2.1.length ≤ 64 ∧ Nrm d.2.1 ∧ -1048576 ≤ d.2.2.1 ∧ d.2.2.1 ≤ 1048576 := by
 unfold dV at h
 split at h
 ·rename_i h0
  have : d.2.1 = [] := List.eq_nil_of_length_eq_zero h0
  simp at h
  rw [this, h.2]
  exact ⟨by decide, aRN, by decide, by decide⟩
 ·simp at h
  exact ⟨h.1.1.1.1, h.1.1.1.2, h.1.2, h.2⟩
theorem aWR (a b : Dy) (p : Int) (up : Bool) (la : Lm a.2.1) (lb' : Lm b.2.1) : fT a b p up = some (told d0 (aKp a b p up)) := by
 have h1 : oR p a b up = some (aKp a b p up) := by
  unfold oR aKp
  rw [aWP p [a, b] (by simp)]
  simp only [Option.bind_some]
  cases hm : aQB p [a, b] with
  | inr e => rfl
  | inl u =>
   unfold aQB at hm
   split at hm
   ·rename_i hh
    obtain ⟨p1, p2, p3⟩ := hh
    simp only [List.all_cons, List.all_nil, Bool.and_true, Bool.and_eq_true] at p3
    obtain ⟨a1, a2, a3, a4⟩ := jT p3.1
    obtain ⟨b1, b2, b3, b4⟩ := jT p3.2
    simp only
    by_cases hb : b.2.1.length = 0
    ·rw [if_pos hb]
     refine bH (aBc (decide_eq_false (by omega))) rfl
    ·rw [if_neg hb]
     have hb0 : nv b.2.1 ≠ 0 := by have := aA5 b2 (fun e => hb (by rw [e]; rfl)); omega
     have hba : bl (nv a.2.1) ≤ 64 * a.2.1.length := sW (by rw [← qJ]; exact kP la)
     have hbb : bl (nv b.2.1) ≤ 64 * b.2.1.length := sW (by rw [← qJ]; exact kP lb')
     have e1 : aV a.2.1 = (bl (nv a.2.1) : Int) := rfl
     have e2 : aV b.2.1 = (bl (nv b.2.1) : Int) := rfl
     rw [e1, e2]
     have hk : ∃ k : Nat, max (0 : Int) (p + 1 + (bl (nv b.2.1) : Int) - (bl (nv a.2.1) : Int)) = (k : Int) ∧ k ≤ 6200 := ⟨(max (0 : Int) (p + 1 + (bl (nv b.2.1) : Int) - (bl (nv a.2.1) : Int))).toNat, by omega, by omega⟩
     obtain ⟨k, hk, hk2⟩ := hk
     rw [hk]
     have hA : nv a.2.1 * 2 ^ k < 18446744073709551616 ^ 200 := by
      have h1 := kP la
      rw [qJ] at h1
      have h4 := Nat.mul_lt_mul_of_pos_right h1 (Nat.two_pow_pos k)
      rw [← Nat.pow_add] at h4
      exact aMG _ h4 (by omega)
     have hL : bI a.2.1 (k : Int) = lb (nv a.2.1 * 2 ^ k) := by unfold bI; rw [Int.toNat_natCast]
     rw [hL]
     have hLl : (lb (nv a.2.1 * 2 ^ k)).length ≤ 200 := nV.2 hA
     refine bH (aFF (decide_eq_true (by omega))) ?_
     refine aB (by constructor <;> omega) (aB ⟨b2, by show b.2.1.length ≤ _; omega⟩ (aB (by constructor <;> omega) (aB ⟨a2, by show a.2.1.length ≤ _; omega⟩ (aB (by constructor <;> omega) (aB ⟨by show a.2.1.length ≤ _; omega, by omega, by omega⟩ (aB ⟨aBD _, b2, hb0, by omega⟩ (aB (by constructor <;> omega) (aB (by constructor <;> omega) ?_))))))))
     have hq : (cA (lb (nv a.2.1 * 2 ^ k)) b.2.1).1 = lb (nv a.2.1 * 2 ^ k / nv b.2.1) := by unfold cA; rw [iI]
     have hr : decide ((0 : Int) < (((cA (lb (nv a.2.1 * 2 ^ k)) b.2.1).2.1.length : Nat) : Int)) = decide (nv a.2.1 * 2 ^ k % nv b.2.1 ≠ 0) := by
      refine decide_eq_decide.2 ?_
      unfold cA
      rw [iI]
      simp only
      constructor
      ·intro h e; rw [aAH.2 e] at h; simp at h
      ·intro h
       have := List.length_pos_iff.2 (fun e => h (aAH.1 e))
       omega
     rw [hq, hr]
     rw [aX9 _ _ _ _ p up (aB7 _) (aBD _) (by have := nV.2 (Nat.lt_of_le_of_lt (Nat.div_le_self (nv a.2.1 * 2 ^ k) (nv b.2.1)) hA); omega) ⟨p1, p2⟩ (by constructor <;> omega), iI]
     simp only [Option.bind_some, Int.toNat_natCast]
     cases aQC (a.1 != b.1) (nv a.2.1 * 2 ^ k / nv b.2.1) (a.2.2.1 - b.2.2.1 - (k : Int)) (decide (nv a.2.1 * 2 ^ k % nv b.2.1 ≠ 0)) p up <;> rfl
   ·cases hm
 have h2 : cV p a b up = some (told d0 (aKp a b p up)) := by
  unfold cV
  rw [h1]
  simp only [Option.bind_some]
  cases aKp a b p up <;> rfl
 unfold fT
 rw [h2]
 exact aB rfl rfl
end Nu
end Go.Proofs
namespace Go.Proofs
open Go.Vc
set_option maxRecDepth 20000
namespace Nu
def rq (A B k : Nat) : Nat := A * 2 ^ k / B
def rn (A B p k : Nat) : Nat := bl (rq A B k) - p
def rM (A B p k : Nat) : Nat := rq A B k / 2 ^ rn A B p k
def rE (A B p k : Nat) : Int := (rn A B p k : Int) - (k : Int)
def rS (A B p k : Nat) : Bool := decide (A * 2 ^ k % (B * 2 ^ rn A B p k) ≠ 0)
theorem aR2 (A B k d : Nat) : rq A B (k + d) / 2 ^ d = rq A B k := by
 unfold rq
 rw [Nat.div_div_eq_div_mul, Nat.pow_add, ← Nat.mul_assoc, Nat.mul_div_mul_right _ _ (Nat.two_pow_pos d)]
theorem aYa {x d : Nat} (h : x / 2 ^ d ≠ 0) : bl x = bl (x / 2 ^ d) + d := by
 have e := Nat.div_add_mod x (2 ^ d)
 have m := Nat.mod_lt x (Nat.two_pow_pos d)
 have := aQi (x := x / 2 ^ d) (m := x % 2 ^ d) (k := d) h m
 rw [Nat.add_comm] at e
 rw [e] at this
 omega
theorem aU3 {A B p k d : Nat} (hp : 1 ≤ p) (h : 2 ^ p ≤ rq A B k) : rM A B p (k + d) = rM A B p k ∧ rE A B p (k + d) = rE A B p k ∧ rS A B p (k + d) = rS A B p k := by
 have hq := aR2 A B k d
 have hpos := Nat.two_pow_pos p
 have hb := aYa (x := rq A B (k + d)) (d := d) (by rw [hq]; omega)
 rw [hq] at hb
 have hge : p + 1 ≤ bl (rq A B k) := by
  rcases Nat.lt_or_ge (bl (rq A B k)) (p + 1) with hlt | hge
  ·have h1 := aDZ (rq A B k)
   have h2 : 2 ^ bl (rq A B k) ≤ 2 ^ p := Nat.pow_le_pow_right (by decide) (by omega)
   omega
  ·exact hge
 have hn : rn A B p (k + d) = rn A B p k + d := by unfold rn; omega
 refine ⟨?_, ?_, ?_⟩
 ·unfold rM
  rw [hn, Nat.add_comm (rn A B p k) d, Nat.pow_add, ← Nat.div_div_eq_div_mul, hq]
 ·unfold rE; rw [hn]; omega
 ·unfold rS
  rw [hn, Nat.pow_add, Nat.pow_add, ← Nat.mul_assoc, ← Nat.mul_assoc, Nat.mul_mod_mul_right]
  refine decide_eq_decide.2 ?_
  have := Nat.two_pow_pos d
  constructor
  ·intro h1 h2; apply h1; rw [h2, Nat.zero_mul]
  ·intro h1 h2
   rcases Nat.mul_eq_zero.1 h2 with h3 | h3
   ·exact h1 h3
   ·omega
theorem aU4 {A B p k : Nat} (hA : A ≠ 0) (hB : B ≠ 0) (h : p + bl B ≤ bl A - 1 + k) : 2 ^ p ≤ rq A B k := by
 unfold rq
 refine (Nat.le_div_iff_mul_le (by omega)).2 ?_
 have h1 := aGp hA
 have h2 := aDZ B
 calc 2 ^ p * B ≤ 2 ^ p * 2 ^ bl B := Nat.mul_le_mul_left _ (Nat.le_of_lt h2)
  _ = 2 ^ (p + bl B) := (Nat.pow_add _ _ _).symm
  _ ≤ 2 ^ (bl A - 1 + k) := Nat.pow_le_pow_right (by decide) h
  _ = 2 ^ (bl A - 1) * 2 ^ k := Nat.pow_add _ _ _
  _ ≤ A * 2 ^ k := Nat.mul_le_mul_right _ h1
theorem aYb {A B p k k' : Nat} (hp : 1 ≤ p) (h : 2 ^ p ≤ rq A B k) (h' : 2 ^ p ≤ rq A B k') : rM A B p k = rM A B p k' ∧ rE A B p k = rE A B p k' ∧ rS A B p k = rS A B p k' := by
 obtain ⟨a1, a2, a3⟩ := aU3 (d := k') hp h
 obtain ⟨b1, b2, b3⟩ := aU3 (d := k) hp h'
 rw [Nat.add_comm k' k] at b1 b2 b3
 exact ⟨a1.symm.trans b1, a2.symm.trans b2, a3.symm.trans b3⟩
def rm2 (A B p k : Nat) (up : Bool) : Nat := if rS A B p k = true ∧ up = true then rM A B p k + 1 else rM A B p k
theorem aYA {A B p k : Nat} {e : Int} {up : Bool} (hp : 1 ≤ p) (h : 2 ^ p ≤ rq A B k) :
  aQC false (rq A B k) (e - (k : Int)) (decide (A * 2 ^ k % B ≠ 0)) (p : Int) up = match aLx false (rm2 A B p k up) (e + rE A B p k) with | (d, f, _) => if f = 0 then .inl d else .inr (f, ()) := by
 have hge : p + 1 ≤ bl (rq A B k) := by
  rcases Nat.lt_or_ge (bl (rq A B k)) (p + 1) with hlt | hge
  ·have h1 := aDZ (rq A B k)
   have h2 : 2 ^ bl (rq A B k) ≤ 2 ^ p := Nat.pow_le_pow_right (by decide) (by omega)
   omega
  ·exact hge
 have hn : ((bl (rq A B k) : Int) - (p : Int)).toNat = rn A B p k := by unfold rn; omega
 have hS : (decide (A * 2 ^ k % B ≠ 0) || decide (rq A B k % 2 ^ rn A B p k ≠ 0)) = rS A B p k := by
  unfold rS
  rw [Nat.mod_mul, ← Bool.decide_or]
  refine decide_eq_decide.2 ?_
  unfold rq
  have hB : 0 < B := by
   rcases Nat.eq_zero_or_pos B with h0 | h0
   ·unfold rq at h; rw [h0, Nat.div_zero] at h; have := Nat.two_pow_pos p; omega
   ·exact h0
  constructor
  ·rintro (h1 | h1) h2
   ·exact h1 (by omega)
   ·apply h1
    have := Nat.mul_eq_zero.1 (show B * (A * 2 ^ k / B % 2 ^ rn A B p k) = 0 by omega)
    omega
  ·intro h1
   by_cases h2 : A * 2 ^ k % B = 0
   ·right; intro h3; apply h1; rw [h2, h3]; rfl
   ·exact .inl h2
 have hp0 : 0 < (bl (rq A B k) : Int) - (p : Int) := by omega
 unfold aQC
 simp only [hn, hp0, if_true, hS]
 have e1 : e - (k : Int) + ((bl (rq A B k) : Int) - (p : Int)) = e + rE A B p k := by unfold rE rn; omega
 rw [e1]
 have e2 : (up != false) = up := by cases up <;> rfl
 simp only [e2]
 rfl
end Nu
end Go.Proofs
namespace Go.Proofs
open Go.Vc
set_option maxRecDepth 20000
namespace Nu
def cO (M : Nat) (e : Int) : Dy := if M = 0 then d0 else (false, lb (M / 2 ^ tzn M), e + (tzn M : Int), ())
theorem aGD {M K : Nat} (h0 : M ≠ 0) (h : M < 2 ^ K) : tzn M < K := by
 obtain ⟨q, hq⟩ := zJ h0
 refine (Nat.pow_lt_pow_iff_right (show 1 < 2 by decide)).1 (Nat.lt_of_le_of_lt ?_ h)
 rw [hq, aGq rfl]
 exact Nat.le_mul_of_pos_right _ (by omega)
theorem aR3 {M K : Nat} {e : Int} (hM : M < 2 ^ K) (hK : K ≤ 4096) (he : -1000000 ≤ e ∧ e ≤ 1000000) : aLx false M e = (cO M e, 0, ()) := by
 unfold aLx aQA cO
 by_cases h0 : M = 0
 ·rw [if_pos h0, if_pos h0]; rfl
 ·have hz := aGD h0 hM
  have hl : (lb (M / 2 ^ tzn M)).length ≤ 64 := by
   exact nV.2 (aMG 64 (Nat.lt_of_le_of_lt (Nat.div_le_self _ _) hM) (by omega))
  rw [if_neg h0, if_neg h0, if_neg (by omega), if_neg (by omega), if_neg (by omega)]
  rfl
theorem aBT {M : Nat} (h0 : M ≠ 0) : M / 2 ^ tzn M * 2 ^ tzn M = M ∧ M / 2 ^ tzn M % 2 = 1 := by
 obtain ⟨q, hq⟩ := zJ h0
 have h1 : M / 2 ^ tzn M = 2 * q + 1 := by
  have := Nat.mul_div_cancel_left (2 * q + 1) (Nat.two_pow_pos (tzn M))
  rw [← hq] at this
  exact this
 rw [h1]
 exact ⟨by rw [Nat.mul_comm]; exact hq.symm, by omega⟩
theorem uN {M K : Nat} {e : Int} (hM : M < 2 ^ K) (hK : K ≤ 4096) (he : -1000000 ≤ e ∧ e ≤ 1000000) : dV (cO M e) = true := by
 unfold cO
 by_cases h0 : M = 0
 ·rw [if_pos h0]; rfl
 ·have hz := aGD h0 hM
  obtain ⟨p1, p2⟩ := aBT h0
  have hne : M / 2 ^ tzn M ≠ 0 := by omega
  have hl : (lb (M / 2 ^ tzn M)).length ≤ 64 := by
   exact nV.2 (aMG 64 (Nat.lt_of_le_of_lt (Nat.div_le_self _ _) hM) (by omega))
  have hlp : (lb (M / 2 ^ tzn M)).length ≠ 0 := fun h => hne (aAH.1 (List.eq_nil_of_length_eq_zero h))
  have hg : (lb (M / 2 ^ tzn M)).getD 0 0 % 2 = 1 := by
   rw [qE (aB7 _), iI, Nat.pow_zero, Nat.div_one]
   omega
  rw [if_neg h0]
  unfold dV
  simp only
  rw [if_neg hlp]
  simp only [Bool.and_eq_true, decide_eq_true_iff]
  exact ⟨⟨⟨⟨hl, aBD _⟩, hg⟩, by omega⟩, by omega⟩
theorem aU5 {A B p k : Nat} : rM A B p k < 2 ^ p := by
 unfold rM rn
 refine (Nat.div_lt_iff_lt_mul (Nat.two_pow_pos _)).2 ?_
 rw [← Nat.pow_add]
 exact Nat.lt_of_lt_of_le (aDZ _) (Nat.pow_le_pow_right (by decide) (by omega))
theorem aNO {A B p k : Nat} {up : Bool} : rm2 A B p k up < 2 ^ (p + 1) := by
 have := aU5 (A := A) (B := B) (p := p) (k := k)
 have h2 : 2 ^ (p + 1) = 2 ^ p * 2 := Nat.pow_succ ..
 have h3 := Nat.two_pow_pos p
 unfold rm2
 split <;> omega
theorem aQD {x k : Nat} (h : x ≠ 0) : bl (x * 2 ^ k) = bl x + k := by
 have := aQi (x := x) (m := 0) (k := k) h (Nat.two_pow_pos k)
 rw [Nat.zero_add, Nat.mul_comm] at this
 omega
theorem aWS {x y : Nat} (h : x ≤ y) : bl x ≤ bl y := sW (Nat.lt_of_le_of_lt h (aDZ y))
theorem aKq {A B p k : Nat} (hA : A ≠ 0) : -(k : Int) ≤ rE A B p k ∧ rE A B p k ≤ bl A := by
 have h1 : bl (rq A B k) ≤ bl A + k := by
  rw [← aQD hA]
  exact aWS (Nat.div_le_self _ _)
 unfold rE rn
 constructor <;> omega
theorem aYB {A B A' B' p k za zb : Nat} (hp : 1 ≤ p) (hA : A = A' * 2 ^ za) (hB : B = B' * 2 ^ zb) (h : 2 ^ p ≤ rq A B k) :
  2 ^ p ≤ rq A' B' (za + k) ∧ rM A' B' p (za + k) = rM A B p k ∧ rE A' B' p (za + k) + za - zb = rE A B p k ∧ rS A' B' p (za + k) = rS A B p k := by
 obtain ⟨a1, a2, a3⟩ := aU3 (d := zb) hp h
 have hz := Nat.two_pow_pos zb
 have e1 : rq A B (k + zb) = rq A' B' (za + k) := by
  unfold rq
  rw [hA, hB, Nat.mul_assoc, ← Nat.pow_add, ← Nat.add_assoc, Nat.pow_add 2 (za + k), ← Nat.mul_assoc, Nat.mul_div_mul_right _ _ hz]
 have e2 : rn A B p (k + zb) = rn A' B' p (za + k) := by unfold rn; rw [e1]
 refine ⟨?_, ?_, ?_, ?_⟩
 ·rw [← e1]
  have h1 := aR2 A B k zb
  have h2 := Nat.div_le_self (rq A B (k + zb)) (2 ^ zb)
  omega
 ·rw [← a1]; unfold rM; rw [e1, e2]
 ·rw [← a2]; unfold rE; rw [e2]; omega
 ·rw [← a3]; unfold rS
  rw [e2, hA, hB, Nat.mul_assoc A', ← Nat.pow_add, ← Nat.add_assoc, Nat.pow_add 2 (za + k), ← Nat.mul_assoc, Nat.mul_right_comm B', Nat.mul_mod_mul_right]
  refine decide_eq_decide.2 ?_
  constructor
  ·intro h1 h2
   rcases Nat.mul_eq_zero.1 h2 with h3 | h3
   ·exact h1 h3
   ·omega
  ·intro h1 h2; apply h1; rw [h2, Nat.zero_mul]
end Nu
end Go.Proofs
namespace Go.Proofs
open Go.Vc
set_option maxRecDepth 20000
namespace Nu
noncomputable def pI : Option ((Int × (Unit × Unit))) :=
 none
noncomputable def mE (s_0 : (List Nat)) (n_14 : Int) : Option ((Int × (Unit × Unit))) :=
 ck ((0 : Int) < (s_0.length : Int)) (if (s_0.getD (0 : Nat) (0 : Nat)) = (45 : Nat) then ck (I64 (0 - n_14)) (some ((0 - n_14), (), ())) else some (n_14, (), ()))
noncomputable def fZ (s_9 : (List Nat)) (n_15 : Int) (x49_16 : Int) : Option ((Int × Int) ⊕ ((Int) ⊕ (Int × (Unit × Unit)))) :=
 if x49_16 < (s_9.length : Int) then ck (0 ≤ x49_16 ∧ x49_16 < (s_9.length : Int)) (if (9 : Nat) < (lR .u8 (s_9.getD (x49_16.toNat) (0 : Nat)) (48 : Nat)) then none else ck (I64 (n_15 * (10 : Int))) (ck (I64 ((n_15 * (10 : Int)) + (((lR .u8 (s_9.getD (x49_16.toNat) (0 : Nat)) (48 : Nat)) : Nat) : Int))) (ck (I64 (x49_16 + (1 : Int))) (some (.inl (((n_15 * (10 : Int)) + (((lR .u8 (s_9.getD (x49_16.toNat) (0 : Nat)) (48 : Nat)) : Nat) : Int)), (x49_16 + (1 : Int)))))))) else some (.inr (.inl n_15))
noncomputable def gQ (s_0 : (List Nat)) (s_9 : (List Nat)) : Option ((Int × (Unit × Unit))) :=
 (eQ (fun d : Int × Int => fZ s_9 d.1 d.2) ((0 : Int), (0 : Int))).bind (fun e => match e with | (.inl e) => mE s_0 e | (.inr e) => some e)
noncomputable def kF (s_0 : (List Nat)) : Option (Int × (Unit × Unit)) :=
 if ((False) ∧ (((0 : Int) < (s_0.length : Int)) ∧ ((s_0.length : Int) < (10 : Int)))) ∨ ((True) ∧ (((0 : Int) < (s_0.length : Int)) ∧ ((s_0.length : Int) < (19 : Int)))) then ck ((0 : Int) < (s_0.length : Int)) (ck ((¬ ((s_0.getD (0 : Nat) (0 : Nat)) = (45 : Nat)) → ((0 : Int) < (s_0.length : Int)))) (if ((s_0.getD (0 : Nat) (0 : Nat)) = (45 : Nat)) ∨ ((s_0.getD (0 : Nat) (0 : Nat)) = (43 : Nat)) then ck ((1 : Int) ≤ (s_0.length : Int)) (if ((((List.drop (1 : Nat) s_0).length) : Nat) : Int) < (1 : Int) then none else gQ s_0 (List.drop (1 : Nat) s_0)) else gQ s_0 s_0)) else pI
def aBd : PlR := ⟨[(0, .A [0]), (1, .A [0, 4]), (2, .A [0, 30]), (3, .A [0, 5]), (4, .A [0, 5, 39]), (5, .A [0, 5]), (6, .A [0, 5, 44]), (7, .A [2, 3]), (8, .A [0, 5, 6]), (9, .A [5, 6, 47, 48, 49]), (10, .A [5, 6, 47, 48, 49, 50]), (11, .A [5, 6, 8, 47, 48, 49]), (12, .A [5, 6, 8, 47, 48, 49]), (13, .A [5, 6, 8, 47, 48, 49, 56]), (14, .A [2, 3]), (15, .A [5, 6, 47, 48, 49]), (16, .A [5, 6, 47, 48, 49]), (17, .A [6, 66]), (18, .A [6]), (19, .A [2, 3]), (20, .stop)], [(5, 23), (7, 11), (12, 20)]⟩
def aCa : Ty := .pair .str .unit
noncomputable def rD : aJ := mSpec aCa (.tup (.pair (.i .i64) (.pair .nili .unit))) (fun x => kF x.1)
noncomputable def aIc : List (FuncId × aJ) := []
theorem aId : bL Tryz.prog GL aIc := .nil
attribute [go_sem] aCa aBd
set_option maxHeartbeats 4000000 in
theorem aGE : FOK Tryz.prog GL 254 rD := by
 refine bZ (bF aId) mix Tryz.func254 rfl (by kernel_rfl) (by decide) aBd fun w0 S x Θ hw h hF => ?_
 obtain ⟨(s_0 : (List Nat)), u⟩ := x
 simp only [cC, go_sem]
 replace h : sat (kF s_0) _ := h
 unfold kF at h
 refine eC hF (D := Unit) (fun d => sat (pI) Θ) [0] (fun d => []) (fun d => []) ?_ ?_
 ·simp only [go_sem]
  refine ⟨fun hc => ?_, fun hc => ?_⟩
  ·replace h := hZ (by first | exact hc | omega | (simpa using hc) | (simp at hc ⊢; omega)) h
   refine eC hF (D := (List Nat)) (fun d => sat (gQ s_0 d) Θ) [5] (fun d => [(0, .val .str d)]) (fun d => []) ?_ ?_
   ·simp only [go_sem]
    refine aN h fun g0 h => aN h fun g1 h => ?_
    refine ⟨fun hc => ?_, fun hc => ?_⟩
    ·replace h := hZ hc h
     refine aN h fun g0 h => ?_
     refine jZ h (fun hc h => ?_) fun hc h => ?_
     ·exact aCP h
     ·exact aX ((List.drop (1 : Nat) s_0)) h rfl (by simp only [go_sem])
    ·replace h := iA hc h
     exact aX (s_0) h rfl (by simp only [go_sem])
   ·rintro s_9 h
    simp only [go_sem]
    replace h : sat (gQ s_0 s_9) _ := h
    unfold gQ at h
    refine eC hF (D := Int) (fun d => sat (mE s_0 d) Θ) [5] (fun d => [(6, .val (.i .i64) d)]) (fun d => []) ?_ ?_
    ·simp only [go_sem]
     refine dP hF (D := Int × Int) [5, 47, 48] (fun d => [(6, .val (.i .i64) d.1), (49, .val (.i .i64) d.2)]) (fun d => []) h rfl (by simp only [go_sem]) ?_
     rintro ⟨n_15, x49_16⟩ A10 T10 hA10 hE10 h
     simp only [go_sem]
     replace h : sat (fZ s_9 n_15 x49_16) _ := h
     unfold fZ at h
     refine jZ h (fun hc h => ?_) fun hc h => ?_
     ·refine aN h fun g0 h => ?_
      refine iL h (fun hc h => ?_) fun hc h => ?_
      ·exact aCP h
      ·refine aN h fun g0 h => aN h fun g1 h => ?_
       refine aN h fun g0 h => ?_
       replace h := hA10 _ (aF h)
       exact aX _ h rfl (by simp only [go_sem])
     ·replace h := hE10 _ (aF h)
      try dsimp only at h
      exact aX (n_15) h rfl (by simp only [go_sem])
    ·rintro n_14 h
     simp only [go_sem]
     replace h : sat (mE s_0 n_14) _ := h
     unfold mE at h
     refine aN h fun g0 h => ?_
     refine iL h (fun hc h => ?_) fun hc h => ?_
     ·refine aN h fun g0 h => ?_
      exact aK hF [.tmp 2, .tmp 3] rfl rfl rfl (aF h) (by simp only [bA, go_sem])
     ·exact aK hF [.tmp 2, .tmp 3] rfl rfl rfl (aF h) (by simp only [bA, go_sem])
  ·replace h := iA (by first | exact hc | omega | (simpa using hc) | (simp at hc ⊢; omega)) h
   exact aX (()) h rfl (by simp only [go_sem])
 ·rintro u h
  simp only [go_sem]
  replace h : sat (pI) _ := h
  unfold pI at h
  exact aCP h
attribute [go_sem] rD
noncomputable def dW (s_0 : (List Nat)) : Option (Int × (Unit × Unit)) :=
 ck (((kF s_0).isSome = true)) (some ((((kF s_0).getD ((0 : Int), (), ())).1), (), ()))
def aCb : PlR := ⟨[(0, .A [0]), (1, .A [0, 4, 5]), (2, .A [0, 4, 5, 12]), (4, .A [2, 3])], []⟩
def aC6 : Ty := .pair .str .unit
noncomputable def sD : aJ := mSpec aC6 (.tup (.pair (.i .i64) (.pair .nili .unit))) (fun x => dW x.1)
noncomputable def aC7 : List (FuncId × aJ) := [(254, rD)]
theorem aKr : bL Tryz.prog GL aC7 := .cons aGE (by kernel_rfl) (.nil)
theorem aEN : gam aC7 254 = some rD := rfl
attribute [go_sem] aC6 aCb aEN
set_option maxHeartbeats 4000000 in
theorem aIe : FOK Tryz.prog GL 230 sD := by
 refine bZ (bF aKr) mix Tryz.func230 rfl (by kernel_rfl) (by decide) aCb fun w0 S x Θ hw h hF => ?_
 obtain ⟨(s_0 : (List Nat)), u⟩ := x
 simp only [cC, go_sem]
 replace h : sat (dW s_0) _ := h
 unfold dW at h
 refine aN h fun g0 h => ?_
 exact aK hF [.tmp 2, .tmp 3] rfl rfl rfl (aF h) (by simp only [bA, go_sem])
attribute [go_sem] sD
noncomputable def kG (at_1 : Int) (s_0 : (List Nat)) (n_5 : Int) : Option ((Int) ⊕ ((Int))) :=
 ck (I64 (at_1 + n_5)) (ck ((((at_1 + n_5) < (s_0.length : Int)) → (I64 (at_1 + n_5)))) (ck ((((at_1 + n_5) < (s_0.length : Int)) → (0 ≤ (at_1 + n_5) ∧ (at_1 + n_5) < (s_0.length : Int)))) (ck (((((at_1 + n_5) < (s_0.length : Int)) ∧ ((48 : Nat) ≤ (s_0.getD ((at_1 + n_5).toNat) (0 : Nat)))) → (I64 (at_1 + n_5)))) (ck (((((at_1 + n_5) < (s_0.length : Int)) ∧ ((48 : Nat) ≤ (s_0.getD ((at_1 + n_5).toNat) (0 : Nat)))) → (0 ≤ (at_1 + n_5) ∧ (at_1 + n_5) < (s_0.length : Int)))) (if (((at_1 + n_5) < (s_0.length : Int)) ∧ ((48 : Nat) ≤ (s_0.getD ((at_1 + n_5).toNat) (0 : Nat)))) ∧ ((s_0.getD ((at_1 + n_5).toNat) (0 : Nat)) ≤ (57 : Nat)) then ck (I64 (n_5 + (1 : Int))) (some (.inl (n_5 + (1 : Int)))) else some (.inr n_5))))))
noncomputable def aG (s_0 : (List Nat)) (at_1 : Int) : Option Int :=
 (eQ (fun d : Int => kG at_1 s_0 d) (0 : Int)).bind (fun e => some e)
def aEa : PlR := ⟨[(0, .A [0, 1]), (1, .A [0, 1, 5]), (2, .A [0, 1, 5, 27]), (3, .A [0, 1, 5]), (4, .A [4])], []⟩
def aFG : Ty := .pair .str (.pair (.i .i64) .unit)
noncomputable def wC : aJ := mSpec aFG (.one (.i .i64)) (fun x => aG x.1 x.2.1)
noncomputable def aNP : List (FuncId × aJ) := []
theorem aNQ : bL Tryz.prog GL aNP := .nil
attribute [go_sem] aFG aEa
set_option maxHeartbeats 4000000 in
theorem aLy : FOK Tryz.prog GL 229 wC := by
 refine bZ (bF aNQ) mix Tryz.func229 rfl (by kernel_rfl) (by decide) aEa fun w0 S x Θ hw h hF => ?_
 obtain ⟨(s_0 : (List Nat)), (at_1 : Int), u⟩ := x
 simp only [cC, go_sem]
 replace h : sat (aG s_0 at_1) _ := h
 unfold aG at h
 refine dP hF (D := Int) [0, 1] (fun d => [(5, .val (.i .i64) d)]) (fun d => []) h rfl (by simp only [go_sem]) ?_
 rintro n_5 A2 T2 hA2 hE2 h
 simp only [go_sem]
 replace h : sat (kG at_1 s_0 n_5) _ := h
 unfold kG at h
 refine aN h fun g0 h => aN h fun g1 h => aN h fun g2 h => aN h fun g3 h => aN h fun g4 h => ?_
 refine ⟨fun hc => ?_, fun hc => ?_⟩
 ·replace h := hZ hc h
  refine aN h fun g0 h => ?_
  replace h := hA2 _ (aF h)
  exact aX _ h rfl (by simp only [go_sem])
 ·replace h := iA hc h
  replace h := hE2 _ (aF h)
  try dsimp only at h
  exact aK hF [.tmp 4] rfl rfl rfl (aF h) (by simp only [bA, go_sem])
attribute [go_sem] wC
noncomputable def mF (n_1 : Int) (b_0 : Nat) (m_7 : (List Nat)) (x8_8 : Int) : Option (((List Nat) × Int) ⊕ (((List Nat)))) :=
 if x8_8 < n_1 then ck ((aJP m_7 ([b_0] : List Nat))) (ck (I64 (x8_8 + (1 : Int))) (some (.inl ((bY m_7 ([b_0] : List Nat)), (x8_8 + (1 : Int)))))) else some (.inr m_7)
noncomputable def cX (b_0 : Nat) (n_1 : Int) : Option (List Nat) :=
 (eQ (fun d : (List Nat) × Int => mF n_1 b_0 d.1 d.2) (([1] : List Nat), (0 : Int))).bind (fun e => some e)
def aFH : PlR := ⟨[(0, .A [0, 1]), (1, .A [0, 1, 5]), (2, .A [0, 5, 7, 8]), (3, .A [0, 5, 7, 8, 9]), (4, .A [0, 5, 7, 8]), (5, .A [0, 5, 7, 8]), (6, .A [4])], []⟩
def aHz : Ty := .pair (.u .u64) (.pair (.i .i64) .unit)
noncomputable def rF : aJ := mSpec aHz (.one (.sl (.u .u64))) (fun x => cX x.1 x.2.1)
noncomputable def aHA : List (FuncId × aJ) := [(94, jB)]
theorem aPj : bL Tryz.prog GL aHA := .cons xW (by kernel_rfl) (.nil)
theorem aKs : gam aHA 94 = some jB := rfl
attribute [go_sem] aHz aFH aKs
set_option maxHeartbeats 4000000 in
theorem aFI : FOK Tryz.prog GL 96 rF := by
 refine bZ (bF aPj) mix Tryz.func96 rfl (by kernel_rfl) (by decide) aFH fun w0 S x Θ hw h hF => ?_
 obtain ⟨(b_0 : Nat), (n_1 : Int), u⟩ := x
 simp only [cC, go_sem]
 replace h : sat (cX b_0 n_1) _ := h
 unfold cX at h
 refine dP hF (D := (List Nat) × Int) [0, 7] (fun d => [(5, .val (.sl (.u .u64)) d.1), (8, .val (.i .i64) d.2)]) (fun d => []) h rfl (by simp only [go_sem]) ?_
 rintro ⟨m_7, x8_8⟩ A3 T3 hA3 hE3 h
 simp only [go_sem]
 replace h : sat (mF n_1 b_0 m_7 x8_8) _ := h
 unfold mF at h
 refine jZ h (fun hc h => ?_) fun hc h => ?_
 ·refine aN h fun g0 h => ?_
  refine aN h fun g0 h => ?_
  replace h := hA3 _ (aF h)
  exact aX _ h rfl (by simp only [go_sem])
 ·replace h := hE3 _ (aF h)
  try dsimp only at h
  exact aK hF [.tmp 4] rfl rfl rfl (aF h) (by simp only [bA, go_sem])
attribute [go_sem] rF
noncomputable def kH (s_0 : (List Nat)) (m_6 : (List Nat)) (x9_7 : Int) : Option (((List Nat) × Int) ⊕ (((List Nat)))) :=
 if x9_7 < (s_0.length : Int) then ck (0 ≤ x9_7 ∧ x9_7 < (s_0.length : Int)) (ck ((aJP m_6 ([10] : List Nat))) (ck ((pSz ([(lR .u8 (s_0.getD (x9_7.toNat) (0 : Nat)) (48 : Nat))] : List Nat))) (ck ((aJP (bY m_6 ([10] : List Nat)) (vL ([(lR .u8 (s_0.getD (x9_7.toNat) (0 : Nat)) (48 : Nat))] : List Nat)))) (ck (I64 (x9_7 + (1 : Int))) (some (.inl ((iD (bY m_6 ([10] : List Nat)) (vL ([(lR .u8 (s_0.getD (x9_7.toNat) (0 : Nat)) (48 : Nat))] : List Nat))), (x9_7 + (1 : Int))))))))) else some (.inr m_6)
noncomputable def nI (s_0 : (List Nat)) : Option (List Nat) :=
 (eQ (fun d : (List Nat) × Int => kH s_0 d.1 d.2) (([] : List Nat), (0 : Int))).bind (fun e => some e)
def aEb : PlR := ⟨[(0, .A [0]), (1, .A [0, 3]), (2, .A [3, 7, 8, 9]), (3, .A [3, 7, 8, 9, 10]), (4, .A [3, 5, 7, 8, 9]), (5, .A [3, 7, 8, 9]), (6, .A [3, 7, 8, 9]), (7, .A [2])], []⟩
def aFJ : Ty := .pair .str .unit
noncomputable def wD : aJ := mSpec aFJ (.one (.sl (.u .u64))) (fun x => nI x.1)
noncomputable def yG : List (FuncId × aJ) := [(231, aAm), (94, jB), (99, oY)]
theorem aNR : bL Tryz.prog GL yG := .cons aO7 (by kernel_rfl) (.cons xW (by kernel_rfl) (.cons aCX (by kernel_rfl) (.nil)))
theorem aGF : gam yG 231 = some aAm := rfl
theorem aIf : gam yG 94 = some jB := rfl
theorem aIg : gam yG 99 = some oY := rfl
attribute [go_sem] aFJ aEb aGF aIf aIg
set_option maxHeartbeats 4000000 in
theorem aLz : FOK Tryz.prog GL 179 wD := by
 refine bZ (bF aNR) mix Tryz.func179 rfl (by kernel_rfl) (by decide) aEb fun w0 S x Θ hw h hF => ?_
 obtain ⟨(s_0 : (List Nat)), u⟩ := x
 simp only [cC, go_sem]
 replace h : sat (nI s_0) _ := h
 unfold nI at h
 refine dP hF (D := (List Nat) × Int) [7, 8] (fun d => [(3, .val (.sl (.u .u64)) d.1), (9, .val (.i .i64) d.2)]) (fun d => []) h rfl (by simp only [go_sem]) ?_
 rintro ⟨m_6, x9_7⟩ A3 T3 hA3 hE3 h
 simp only [go_sem]
 replace h : sat (kH s_0 m_6 x9_7) _ := h
 unfold kH at h
 refine jZ h (fun hc h => ?_) fun hc h => ?_
 ·obtain ⟨g0, h⟩ := aM h
  repeat (refine ⟨by omega, ?_⟩)
  obtain ⟨g0, h⟩ := aM h
  obtain ⟨g1, h⟩ := aM h
  obtain ⟨g2, h⟩ := aM h
  repeat (refine ⟨by omega, ?_⟩)
  obtain ⟨g0, h⟩ := aM h
  repeat (refine ⟨by omega, ?_⟩)
  replace h := hA3 _ (aF h)
  exact aX _ h rfl (by simp only [go_sem])
 ·replace h := hE3 _ (aF h)
  try dsimp only at h
  exact aK hF [.tmp 2] rfl rfl rfl (aF h) (by simp only [bA, go_sem])
attribute [go_sem] wD
noncomputable def iQ (all_3 : (List Nat)) (s_0 : (List Nat)) (at_7 : Int) (pow_8 : Int) : Option (((List Nat) × (Int × (Bool × Unit)))) :=
 some (all_3, pow_8, (decide (at_7 = (s_0.length : Int))), ())
noncomputable def iR (pow_4 : Int) (at_9 : Int) (s_0 : (List Nat)) (all_3 : (List Nat)) (x_10 : Int) : Option (((List Nat) × (Int × (Bool × Unit)))) :=
 ck (I64 (pow_4 + x_10)) (ck (I64 (at_9 + ((aG s_0 at_9).getD (0 : Int)))) (iQ all_3 s_0 (at_9 + ((aG s_0 at_9).getD (0 : Int))) (pow_4 + x_10)))
noncomputable def iS (s_0 : (List Nat)) (at_2 : Int) (pow_4 : Int) (all_3 : (List Nat)) (at_9 : Int) : Option (((List Nat) × (Int × (Bool × Unit)))) :=
 ck (((aG s_0 at_9).isSome = true)) (if (((aG s_0 at_9).getD (0 : Int)) < (1 : Int)) ∨ ((3 : Int) < ((aG s_0 at_9).getD (0 : Int))) then some ((bE ⟨#[]⟩), (0 : Int), false, ()) else ck (I64 (at_9 + ((aG s_0 at_9).getD (0 : Int)))) (ck (0 ≤ at_9 ∧ at_9 ≤ (at_9 + ((aG s_0 at_9).getD (0 : Int))) ∧ (at_9 + ((aG s_0 at_9).getD (0 : Int))) ≤ (s_0.length : Int)) (ck (((dW (List.drop (at_9.toNat) (List.take ((at_9 + ((aG s_0 at_9).getD (0 : Int))).toNat) s_0))).isSome = true)) (if (100 : Int) < (((dW (List.drop (at_9.toNat) (List.take ((at_9 + ((aG s_0 at_9).getD (0 : Int))).toNat) s_0))).getD ((0 : Int), (), ())).1) then some ((bE ⟨#[]⟩), (0 : Int), false, ()) else if ((at_2 + (1 : Int)) < (s_0.length : Int)) ∧ ((s_0.getD ((at_2 + (1 : Int)).toNat) (0 : Nat)) = (45 : Nat)) then ck (I64 (0 - (((dW (List.drop (at_9.toNat) (List.take ((at_9 + ((aG s_0 at_9).getD (0 : Int))).toNat) s_0))).getD ((0 : Int), (), ())).1))) (iR pow_4 at_9 s_0 all_3 (0 - (((dW (List.drop (at_9.toNat) (List.take ((at_9 + ((aG s_0 at_9).getD (0 : Int))).toNat) s_0))).getD ((0 : Int), (), ())).1))) else iR pow_4 at_9 s_0 all_3 (((dW (List.drop (at_9.toNat) (List.take ((at_9 + ((aG s_0 at_9).getD (0 : Int))).toNat) s_0))).getD ((0 : Int), (), ())).1)))))
noncomputable def iT (s_0 : (List Nat)) (at_2 : Int) (all_3 : (List Nat)) (pow_4 : Int) : Option (((List Nat) × (Int × (Bool × Unit)))) :=
 ck (((at_2 < (s_0.length : Int)) → (0 ≤ at_2 ∧ at_2 < (s_0.length : Int)))) (if (at_2 < (s_0.length : Int)) ∧ ((s_0.getD (at_2.toNat) (0 : Nat)) = (101 : Nat)) then ck (I64 (at_2 + (1 : Int))) (ck ((((at_2 + (1 : Int)) < (s_0.length : Int)) → (0 ≤ (at_2 + (1 : Int)) ∧ (at_2 + (1 : Int)) < (s_0.length : Int)))) (ck ((¬ (((at_2 + (1 : Int)) < (s_0.length : Int)) ∧ ((s_0.getD ((at_2 + (1 : Int)).toNat) (0 : Nat)) = (45 : Nat))) → ((at_2 + (1 : Int)) < (s_0.length : Int)) → (0 ≤ (at_2 + (1 : Int)) ∧ (at_2 + (1 : Int)) < (s_0.length : Int)))) (if (((at_2 + (1 : Int)) < (s_0.length : Int)) ∧ ((s_0.getD ((at_2 + (1 : Int)).toNat) (0 : Nat)) = (45 : Nat))) ∨ (((at_2 + (1 : Int)) < (s_0.length : Int)) ∧ ((s_0.getD ((at_2 + (1 : Int)).toNat) (0 : Nat)) = (43 : Nat))) then ck (I64 ((at_2 + (1 : Int)) + (1 : Int))) (iS s_0 at_2 pow_4 all_3 ((at_2 + (1 : Int)) + (1 : Int))) else iS s_0 at_2 pow_4 all_3 (at_2 + (1 : Int))))) else iQ all_3 s_0 at_2 pow_4)
noncomputable def dI (s_0 : (List Nat)) : Option ((List Nat) × (Int × (Bool × Unit))) :=
 ck (((aG s_0 (0 : Int)).isSome = true)) (ck (0 ≤ ((aG s_0 (0 : Int)).getD (0 : Int)) ∧ ((aG s_0 (0 : Int)).getD (0 : Int)) ≤ (s_0.length : Int)) (if ((60 : Int) < (s_0.length : Int)) ∨ (((aG s_0 (0 : Int)).getD (0 : Int)) = (0 : Int)) then some ((bE ⟨#[]⟩), (0 : Int), false, ()) else ck (((((aG s_0 (0 : Int)).getD (0 : Int)) < (s_0.length : Int)) → (0 ≤ ((aG s_0 (0 : Int)).getD (0 : Int)) ∧ ((aG s_0 (0 : Int)).getD (0 : Int)) < (s_0.length : Int)))) (if (((aG s_0 (0 : Int)).getD (0 : Int)) < (s_0.length : Int)) ∧ ((s_0.getD (((aG s_0 (0 : Int)).getD (0 : Int)).toNat) (0 : Nat)) = (46 : Nat)) then ck (I64 (((aG s_0 (0 : Int)).getD (0 : Int)) + (1 : Int))) (ck (((aG s_0 (((aG s_0 (0 : Int)).getD (0 : Int)) + (1 : Int))).isSome = true)) (if ((aG s_0 (((aG s_0 (0 : Int)).getD (0 : Int)) + (1 : Int))).getD (0 : Int)) = (0 : Int) then some ((bE ⟨#[]⟩), (0 : Int), false, ()) else ck (I64 (((aG s_0 (0 : Int)).getD (0 : Int)) + (1 : Int))) (ck (I64 (((aG s_0 (0 : Int)).getD (0 : Int)) + (1 : Int))) (ck (I64 ((((aG s_0 (0 : Int)).getD (0 : Int)) + (1 : Int)) + ((aG s_0 (((aG s_0 (0 : Int)).getD (0 : Int)) + (1 : Int))).getD (0 : Int)))) (ck (0 ≤ (((aG s_0 (0 : Int)).getD (0 : Int)) + (1 : Int)) ∧ (((aG s_0 (0 : Int)).getD (0 : Int)) + (1 : Int)) ≤ ((((aG s_0 (0 : Int)).getD (0 : Int)) + (1 : Int)) + ((aG s_0 (((aG s_0 (0 : Int)).getD (0 : Int)) + (1 : Int))).getD (0 : Int))) ∧ ((((aG s_0 (0 : Int)).getD (0 : Int)) + (1 : Int)) + ((aG s_0 (((aG s_0 (0 : Int)).getD (0 : Int)) + (1 : Int))).getD (0 : Int))) ≤ (s_0.length : Int)) (ck (((List.take (((aG s_0 (0 : Int)).getD (0 : Int)).toNat) s_0).length) + ((List.drop ((((aG s_0 (0 : Int)).getD (0 : Int)) + (1 : Int)).toNat) (List.take (((((aG s_0 (0 : Int)).getD (0 : Int)) + (1 : Int)) + ((aG s_0 (((aG s_0 (0 : Int)).getD (0 : Int)) + (1 : Int))).getD (0 : Int))).toNat) s_0)).length) ≤ 9223372036854775807) (ck (I64 (0 - ((aG s_0 (((aG s_0 (0 : Int)).getD (0 : Int)) + (1 : Int))).getD (0 : Int)))) (ck (I64 (((aG s_0 (0 : Int)).getD (0 : Int)) + (1 : Int))) (ck (I64 ((((aG s_0 (0 : Int)).getD (0 : Int)) + (1 : Int)) + ((aG s_0 (((aG s_0 (0 : Int)).getD (0 : Int)) + (1 : Int))).getD (0 : Int)))) (iT s_0 ((((aG s_0 (0 : Int)).getD (0 : Int)) + (1 : Int)) + ((aG s_0 (((aG s_0 (0 : Int)).getD (0 : Int)) + (1 : Int))).getD (0 : Int))) ((List.take (((aG s_0 (0 : Int)).getD (0 : Int)).toNat) s_0) ++ (List.drop ((((aG s_0 (0 : Int)).getD (0 : Int)) + (1 : Int)).toNat) (List.take (((((aG s_0 (0 : Int)).getD (0 : Int)) + (1 : Int)) + ((aG s_0 (((aG s_0 (0 : Int)).getD (0 : Int)) + (1 : Int))).getD (0 : Int))).toNat) s_0))) (0 - ((aG s_0 (((aG s_0 (0 : Int)).getD (0 : Int)) + (1 : Int))).getD (0 : Int))))))))))))) else iT s_0 ((aG s_0 (0 : Int)).getD (0 : Int)) (List.take (((aG s_0 (0 : Int)).getD (0 : Int)).toNat) s_0) (0 : Int))))
def aC8 : PlR := ⟨[(0, .A [0]), (1, .A [0, 5]), (2, .A [0, 5, 6, 7]), (3, .A [0, 5, 6, 7, 24]), (4, .A [2, 3, 4]), (5, .A [0, 5, 6, 7, 34]), (6, .A [0, 5, 6, 8]), (7, .A [0, 5, 6, 8, 40]), (8, .A [2, 3, 4]), (9, .A [0, 5, 6, 7]), (10, .A [0, 5, 6, 7, 66]), (11, .A [0, 5, 6, 7]), (12, .A [0, 5, 6, 7, 9]), (13, .A [0, 5, 6, 7, 9, 91]), (14, .A [0, 5, 6, 7, 9]), (15, .A [0, 5, 6, 7, 9, 10]), (16, .A [0, 5, 6, 7, 9, 10, 102]), (17, .A [2, 3, 4]), (18, .A [0, 5, 6, 7, 9, 10, 11]), (19, .A [0, 5, 6, 7, 9, 10, 11, 114]), (20, .A [2, 3, 4]), (21, .A [0, 5, 6, 7, 10, 11, 115]), (22, .A [0, 5, 6, 7, 10, 11]), (23, .A [0, 5, 6, 7]), (24, .A [2, 3, 4])], [(8, 13), (13, 27), (16, 18), (24, 26)]⟩
def aEc : Ty := .pair .str .unit
noncomputable def uP : aJ := mSpec aEc (.tup (.pair .str (.pair (.i .i64) (.pair .bool .unit)))) (fun x => dI x.1)
noncomputable def aAM : List (FuncId × aJ) := [(229, wC), (230, sD)]
theorem aLA : bL Tryz.prog GL aAM := .cons aLy (by kernel_rfl) (.cons aIe (by kernel_rfl) (.nil))
theorem aFK : gam aAM 229 = some wC := rfl
theorem aFL : gam aAM 230 = some sD := rfl
attribute [go_sem] aEc aC8 aFK aFL
set_option maxHeartbeats 4000000 in
theorem aKt : FOK Tryz.prog GL 178 uP := by
 refine bZ (bF aLA) mix Tryz.func178 rfl (by kernel_rfl) (by decide) aC8 fun w0 S x Θ hw h hF => ?_
 obtain ⟨(s_0 : (List Nat)), u⟩ := x
 simp only [cC, go_sem]
 replace h : sat (dI s_0) _ := h
 unfold dI at h
 obtain ⟨g0, h⟩ := aM h
 repeat (refine ⟨by omega, ?_⟩)
 obtain ⟨g0, h⟩ := aM h
 repeat (refine ⟨by omega, ?_⟩)
 refine ⟨fun hc => ?_, fun hc => ?_⟩
 ·replace h := hZ hc h
  exact aK hF [.tmp 2, .tmp 3, .tmp 4] rfl rfl rfl (aF h) (by simp only [bA, go_sem])
 ·replace h := iA hc h
  refine eC hF (D := Int × (List Nat) × Int) (fun d => sat (iT s_0 d.1 d.2.1 d.2.2) Θ) [0] (fun d => [(5, .val (.i .i64) d.1), (6, .val .str d.2.1), (7, .val (.i .i64) d.2.2)]) (fun d => []) ?_ ?_
  ·simp only [go_sem]
   obtain ⟨g0, h⟩ := aM h
   repeat (refine ⟨by omega, ?_⟩)
   refine ⟨fun hc => ?_, fun hc => ?_⟩
   ·replace h := hZ hc h
    obtain ⟨g0, h⟩ := aM h
    obtain ⟨g1, h⟩ := aM h
    repeat (refine ⟨by omega, ?_⟩)
    refine iL h (fun hc h => ?_) fun hc h => ?_
    ·exact aK hF [.tmp 2, .tmp 3, .tmp 4] rfl rfl rfl (aF h) (by simp only [bA, go_sem])
    ·obtain ⟨g0, h⟩ := aM h
     obtain ⟨g1, h⟩ := aM h
     obtain ⟨g2, h⟩ := aM h
     obtain ⟨g3, h⟩ := aM h
     obtain ⟨g4, h⟩ := aM h
     obtain ⟨g5, h⟩ := aM h
     obtain ⟨g6, h⟩ := aM h
     obtain ⟨g7, h⟩ := aM h
     repeat (refine ⟨by omega, ?_⟩)
     exact aX ((((((aG s_0 (0 : Int)).getD (0 : Int)) + (1 : Int)) + ((aG s_0 (((aG s_0 (0 : Int)).getD (0 : Int)) + (1 : Int))).getD (0 : Int))), ((List.take (((aG s_0 (0 : Int)).getD (0 : Int)).toNat) s_0) ++ (List.drop ((((aG s_0 (0 : Int)).getD (0 : Int)) + (1 : Int)).toNat) (List.take (((((aG s_0 (0 : Int)).getD (0 : Int)) + (1 : Int)) + ((aG s_0 (((aG s_0 (0 : Int)).getD (0 : Int)) + (1 : Int))).getD (0 : Int))).toNat) s_0))), (0 - ((aG s_0 (((aG s_0 (0 : Int)).getD (0 : Int)) + (1 : Int))).getD (0 : Int))))) h rfl (by simp only [go_sem])
   ·replace h := iA hc h
    exact aX ((((aG s_0 (0 : Int)).getD (0 : Int)), (List.take (((aG s_0 (0 : Int)).getD (0 : Int)).toNat) s_0), (0 : Int))) h rfl (by simp only [go_sem])
  ·rintro ⟨at_2, all_3, pow_4⟩ h
   simp only [go_sem]
   replace h : sat (iT s_0 at_2 all_3 pow_4) _ := h
   unfold iT at h
   refine eC hF (D := Int × Int) (fun d => sat (iQ all_3 s_0 d.1 d.2) Θ) [0, 6] (fun d => [(5, .val (.i .i64) d.1), (7, .val (.i .i64) d.2)]) (fun d => []) ?_ ?_
   ·simp only [go_sem]
    obtain ⟨g0, h⟩ := aM h
    repeat (refine ⟨by omega, ?_⟩)
    refine ⟨fun hc => ?_, fun hc => ?_⟩
    ·replace h := hZ hc h
     obtain ⟨g0, h⟩ := aM h
     repeat (refine ⟨by omega, ?_⟩)
     obtain ⟨g0, h⟩ := aM h
     repeat (refine ⟨by omega, ?_⟩)
     refine eC hF (D := Int) (fun d => sat (iS s_0 at_2 pow_4 all_3 d) Θ) [0, 6, 7, 9] (fun d => [(5, .val (.i .i64) d)]) (fun d => []) ?_ ?_
     ·simp only [go_sem]
      obtain ⟨g0, h⟩ := aM h
      repeat (refine ⟨by omega, ?_⟩)
      refine ⟨fun hc => ?_, fun hc => ?_⟩
      ·replace h := hZ hc h
       obtain ⟨g0, h⟩ := aM h
       repeat (refine ⟨by omega, ?_⟩)
       exact aX (((at_2 + (1 : Int)) + (1 : Int))) h rfl (by simp only [go_sem])
      ·replace h := iA hc h
       exact aX ((at_2 + (1 : Int))) h rfl (by simp only [go_sem])
     ·rintro at_9 h
      simp only [go_sem]
      replace h : sat (iS s_0 at_2 pow_4 all_3 at_9) _ := h
      unfold iS at h
      obtain ⟨g0, h⟩ := aM h
      repeat (refine ⟨by omega, ?_⟩)
      refine ⟨fun hc => ?_, fun hc => ?_⟩
      ·replace h := hZ hc h
       exact aK hF [.tmp 2, .tmp 3, .tmp 4] rfl rfl rfl (aF h) (by simp only [bA, go_sem])
      ·replace h := iA hc h
       obtain ⟨g0, h⟩ := aM h
       obtain ⟨g1, h⟩ := aM h
       obtain ⟨g2, h⟩ := aM h
       repeat (refine ⟨by omega, ?_⟩)
       refine jZ h (fun hc h => ?_) fun hc h => ?_
       ·exact aK hF [.tmp 2, .tmp 3, .tmp 4] rfl rfl rfl (aF h) (by simp only [bA, go_sem])
       ·refine eC hF (D := Int) (fun d => sat (iR pow_4 at_9 s_0 all_3 d) Θ) [0, 5, 6, 7, 10] (fun d => [(11, .val (.i .i64) d)]) (fun d => []) ?_ ?_
        ·simp only [go_sem]
         refine ⟨fun hc => ?_, fun hc => ?_⟩
         ·replace h := hZ hc h
          obtain ⟨g0, h⟩ := aM h
          repeat (refine ⟨by omega, ?_⟩)
          exact aX ((0 - (((dW (List.drop (at_9.toNat) (List.take ((at_9 + ((aG s_0 at_9).getD (0 : Int))).toNat) s_0))).getD ((0 : Int), (), ())).1))) h rfl (by simp only [go_sem])
         ·replace h := iA hc h
          exact aX ((((dW (List.drop (at_9.toNat) (List.take ((at_9 + ((aG s_0 at_9).getD (0 : Int))).toNat) s_0))).getD ((0 : Int), (), ())).1)) h rfl (by simp only [go_sem])
        ·rintro x_10 h
         simp only [go_sem]
         replace h : sat (iR pow_4 at_9 s_0 all_3 x_10) _ := h
         unfold iR at h
         obtain ⟨g0, h⟩ := aM h
         obtain ⟨g1, h⟩ := aM h
         repeat (refine ⟨by omega, ?_⟩)
         exact aX (((at_9 + ((aG s_0 at_9).getD (0 : Int))), (pow_4 + x_10))) h rfl (by simp only [go_sem])
    ·replace h := iA hc h
     exact aX ((at_2, pow_4)) h rfl (by simp only [go_sem])
   ·rintro ⟨at_7, pow_8⟩ h
    simp only [go_sem]
    replace h : sat (iQ all_3 s_0 at_7 pow_8) _ := h
    unfold iQ at h
    exact aK hF [.tmp 2, .tmp 3, .tmp 4] rfl rfl rfl (aF h) (by simp only [bA, go_sem])
attribute [go_sem] uP
noncomputable def cS (s_0 : (List Nat)) : Option ((List Nat) × ((List Nat) × (Bool × Unit))) :=
 ck (((dI s_0).isSome = true)) (if ¬ ((((((dI s_0).getD (([] : List Nat), (0 : Int), false, ())).2).2).1) = true) then some (([] : List Nat), ([] : List Nat), false, ()) else ck (((nI (((dI s_0).getD (([] : List Nat), (0 : Int), false, ())).1)).isSome = true)) (ck (((cX (10 : Nat) (max ((((dI s_0).getD (([] : List Nat), (0 : Int), false, ())).2).1) (0 : Int))).isSome = true)) (ck ((aJP ((nI (((dI s_0).getD (([] : List Nat), (0 : Int), false, ())).1)).getD ([] : List Nat)) ((cX (10 : Nat) (max ((((dI s_0).getD (([] : List Nat), (0 : Int), false, ())).2).1) (0 : Int))).getD ([] : List Nat)))) (ck (I64 (0 - ((((dI s_0).getD (([] : List Nat), (0 : Int), false, ())).2).1))) (ck (((cX (10 : Nat) (max (0 - ((((dI s_0).getD (([] : List Nat), (0 : Int), false, ())).2).1)) (0 : Int))).isSome = true)) (some ((bY ((nI (((dI s_0).getD (([] : List Nat), (0 : Int), false, ())).1)).getD ([] : List Nat)) ((cX (10 : Nat) (max ((((dI s_0).getD (([] : List Nat), (0 : Int), false, ())).2).1) (0 : Int))).getD ([] : List Nat))), ((cX (10 : Nat) (max (0 - ((((dI s_0).getD (([] : List Nat), (0 : Int), false, ())).2).1)) (0 : Int))).getD ([] : List Nat)), true, ())))))))
def aFM : PlR := ⟨[(0, .A [0]), (1, .A [5, 6, 7]), (2, .A [5, 6, 15]), (3, .A [2, 3, 4]), (4, .A [2, 3, 4])], []⟩
def aHB : Ty := .pair .str .unit
noncomputable def yH : aJ := mSpec aHB (.tup (.pair (.sl (.u .u64)) (.pair (.sl (.u .u64)) (.pair .bool .unit)))) (fun x => cS x.1)
noncomputable def wU : List (FuncId × aJ) := [(178, uP), (179, wD), (94, jB), (96, rF)]
theorem aPk : bL Tryz.prog GL wU := .cons aKt (by kernel_rfl) (.cons aLz (by kernel_rfl) (.cons xW (by kernel_rfl) (.cons aFI (by kernel_rfl) (.nil))))
theorem aIh : gam wU 178 = some uP := rfl
theorem aIi : gam wU 179 = some wD := rfl
theorem aKu : gam wU 94 = some jB := rfl
theorem aKv : gam wU 96 = some rF := rfl
attribute [go_sem] aHB aFM aIh aIi aKu aKv
set_option maxHeartbeats 4000000 in
theorem aNS : FOK Tryz.prog GL 116 yH := by
 refine bZ (bF aPk) mix Tryz.func116 rfl (by kernel_rfl) (by decide) aFM fun w0 S x Θ hw h hF => ?_
 obtain ⟨(s_0 : (List Nat)), u⟩ := x
 simp only [cC, go_sem]
 replace h : sat (cS s_0) _ := h
 unfold cS at h
 refine aN h fun g0 h => ?_
 refine aQa h (fun hc h => ?_) fun hc h => ?_
 ·exact aK hF [.tmp 2, .tmp 3, .tmp 4] rfl rfl rfl (aF h) (by simp only [bA, go_sem])
 ·refine aN h fun g0 h => aN h fun g1 h => aN h fun g2 h => aN h fun g3 h => aN h fun g4 h => ?_
  exact aK hF [.tmp 2, .tmp 3, .tmp 4] rfl rfl rfl (aF h) (by simp only [bA, go_sem])
attribute [go_sem] yH
noncomputable def dQ (s_0 : (List Nat)) (p_1 : Int) : Option (qI0 × (Int × Unit)) :=
 ck (((cS s_0).isSome = true)) (if ¬ ((((((cS s_0).getD (([] : List Nat), ([] : List Nat), false, ())).2).2).1) = true) then some (((false, ([] : List Nat), (0 : Int), ()), (false, ([] : List Nat), (0 : Int), ()), ()), (6 : Int), ()) else if (p_1 < (1 : Int)) ∨ ((2000 : Int) < p_1) then some (((false, ([] : List Nat), (0 : Int), ()), (false, ([] : List Nat), (0 : Int), ()), ()), (1 : Int), ()) else ck (((cD false (((cS s_0).getD (([] : List Nat), ([] : List Nat), false, ())).1) (0 : Int)).isSome = true)) (ck (((cD false ((((cS s_0).getD (([] : List Nat), ([] : List Nat), false, ())).2).1) (0 : Int)).isSome = true)) (ck (((fT (((cD false (((cS s_0).getD (([] : List Nat), ([] : List Nat), false, ())).1) (0 : Int)).getD ((false, ([] : List Nat), (0 : Int), ()), (0 : Int), ())).1) (((cD false ((((cS s_0).getD (([] : List Nat), ([] : List Nat), false, ())).2).1) (0 : Int)).getD ((false, ([] : List Nat), (0 : Int), ()), (0 : Int), ())).1) p_1 false).isSome = true)) (ck (((fT (((cD false (((cS s_0).getD (([] : List Nat), ([] : List Nat), false, ())).1) (0 : Int)).getD ((false, ([] : List Nat), (0 : Int), ()), (0 : Int), ())).1) (((cD false ((((cS s_0).getD (([] : List Nat), ([] : List Nat), false, ())).2).1) (0 : Int)).getD ((false, ([] : List Nat), (0 : Int), ()), (0 : Int), ())).1) p_1 true).isSome = true)) (if (¬ (((((fT (((cD false (((cS s_0).getD (([] : List Nat), ([] : List Nat), false, ())).1) (0 : Int)).getD ((false, ([] : List Nat), (0 : Int), ()), (0 : Int), ())).1) (((cD false ((((cS s_0).getD (([] : List Nat), ([] : List Nat), false, ())).2).1) (0 : Int)).getD ((false, ([] : List Nat), (0 : Int), ()), (0 : Int), ())).1) p_1 false).getD ((false, ([] : List Nat), (0 : Int), ()), (0 : Int), ())).2).1) = (0 : Int))) ∨ (¬ (((((fT (((cD false (((cS s_0).getD (([] : List Nat), ([] : List Nat), false, ())).1) (0 : Int)).getD ((false, ([] : List Nat), (0 : Int), ()), (0 : Int), ())).1) (((cD false ((((cS s_0).getD (([] : List Nat), ([] : List Nat), false, ())).2).1) (0 : Int)).getD ((false, ([] : List Nat), (0 : Int), ()), (0 : Int), ())).1) p_1 true).getD ((false, ([] : List Nat), (0 : Int), ()), (0 : Int), ())).2).1) = (0 : Int))) then some (((false, ([] : List Nat), (0 : Int), ()), (false, ([] : List Nat), (0 : Int), ()), ()), (max ((((fT (((cD false (((cS s_0).getD (([] : List Nat), ([] : List Nat), false, ())).1) (0 : Int)).getD ((false, ([] : List Nat), (0 : Int), ()), (0 : Int), ())).1) (((cD false ((((cS s_0).getD (([] : List Nat), ([] : List Nat), false, ())).2).1) (0 : Int)).getD ((false, ([] : List Nat), (0 : Int), ()), (0 : Int), ())).1) p_1 false).getD ((false, ([] : List Nat), (0 : Int), ()), (0 : Int), ())).2).1) ((((fT (((cD false (((cS s_0).getD (([] : List Nat), ([] : List Nat), false, ())).1) (0 : Int)).getD ((false, ([] : List Nat), (0 : Int), ()), (0 : Int), ())).1) (((cD false ((((cS s_0).getD (([] : List Nat), ([] : List Nat), false, ())).2).1) (0 : Int)).getD ((false, ([] : List Nat), (0 : Int), ()), (0 : Int), ())).1) p_1 true).getD ((false, ([] : List Nat), (0 : Int), ()), (0 : Int), ())).2).1)), ()) else some (((((fT (((cD false (((cS s_0).getD (([] : List Nat), ([] : List Nat), false, ())).1) (0 : Int)).getD ((false, ([] : List Nat), (0 : Int), ()), (0 : Int), ())).1) (((cD false ((((cS s_0).getD (([] : List Nat), ([] : List Nat), false, ())).2).1) (0 : Int)).getD ((false, ([] : List Nat), (0 : Int), ()), (0 : Int), ())).1) p_1 false).getD ((false, ([] : List Nat), (0 : Int), ()), (0 : Int), ())).1), (((fT (((cD false (((cS s_0).getD (([] : List Nat), ([] : List Nat), false, ())).1) (0 : Int)).getD ((false, ([] : List Nat), (0 : Int), ()), (0 : Int), ())).1) (((cD false ((((cS s_0).getD (([] : List Nat), ([] : List Nat), false, ())).2).1) (0 : Int)).getD ((false, ([] : List Nat), (0 : Int), ()), (0 : Int), ())).1) p_1 true).getD ((false, ([] : List Nat), (0 : Int), ()), (0 : Int), ())).1), ()), (0 : Int), ()))))))
def aKw : PlR := ⟨[(0, .B [0, 1, 4]), (1, .A [1, 4, 6, 7, 8]), (2, .A [1, 4, 6, 7, 23]), (3, .B [4, 5]), (4, .A [1, 4, 6, 7, 27]), (5, .B [4, 5]), (6, .B [1, 4, 7, 9]), (7, .B [1, 4, 9, 11]), (8, .B [1, 4, 9, 11, 13, 14]), (9, .B [4, 13, 14, 15, 16]), (10, .A [4, 13, 14, 15, 16, 64]), (11, .B [4, 5]), (12, .B [4, 5])], []⟩
def aMH : Ty := .pair .str (.pair (.i .i64) .unit)
noncomputable def aBU : aJ := mSpec aMH (.tup (.pair (.pair (.pair .bool (.pair (.sl (.u .u64)) (.pair (.i .i64) .unit))) (.pair (.pair .bool (.pair (.sl (.u .u64)) (.pair (.i .i64) .unit))) .unit)) (.pair (.i .i64) .unit))) (fun x => dQ x.1 x.2.1)
noncomputable def aDG : List (FuncId × aJ) := [(116, yH), (117, tA), (118, wB)]
theorem aS4 : bL Tryz.prog GL aDG := .cons aNS (by kernel_rfl) (.cons aHp (by kernel_rfl) (.cons aLw (by kernel_rfl) (.nil)))
theorem aLB : gam aDG 116 = some yH := rfl
theorem aLC : gam aDG 117 = some tA := rfl
theorem aLD : gam aDG 118 = some wB := rfl
attribute [go_sem] aMH aKw aLB aLC aLD
set_option maxHeartbeats 4000000 in
theorem aQE : FOK Tryz.prog GL 55 aBU := by
 refine bZ (bF aS4) mix Tryz.func55 rfl (by kernel_rfl) (by decide) aKw fun w0 S x Θ hw h hF => ?_
 obtain ⟨(s_0 : (List Nat)), (p_1 : Int), u⟩ := x
 simp only [cC, go_sem]
 replace h : sat (dQ s_0 p_1) _ := h
 unfold dQ at h
 refine aN h fun g0 h => ?_
 refine aQa h (fun hc h => ?_) fun hc h => ?_
 ·exact aK hF [.cell 4 27, .tmp 5] rfl rfl rfl (aF h) (by simp only [bA, go_sem])
 ·refine ⟨fun hc => ?_, fun hc => ?_⟩
  ·replace h := hZ hc h
   exact aK hF [.cell 4 27, .tmp 5] rfl rfl rfl (aF h) (by simp only [bA, go_sem])
  ·replace h := iA hc h
   refine aN h fun g0 h => ?_
   refine aN h fun g0 h => ?_
   refine aN h fun g0 h => ?_
   refine aN h fun g0 h => ?_
   refine ⟨fun hc => ?_, fun hc => ?_⟩
   ·replace h := hZ hc h
    exact aK hF [.cell 4 27, .tmp 5] rfl rfl rfl (aF h) (by simp only [bA, go_sem])
   ·replace h := iA hc h
    exact aK hF [.cell 4 27, .tmp 5] rfl rfl rfl (aF h) (by simp only [bA, go_sem])
attribute [go_sem] aBU
end Nu
end Go.Proofs
namespace Go.Proofs
open Go.Vc
set_option maxRecDepth 20000
namespace Nu
def kQ (c : Nat) : Bool := decide (48 ≤ c ∧ c ≤ 57)
def dC (s : List Nat) (i : Nat) : Nat := ((s.drop i).takeWhile kQ).length
theorem aXs {p : Nat → Bool} : ∀ (l : List Nat) (n : Nat), n ≤ (l.takeWhile p).length → (n < (l.takeWhile p).length ↔ n < l.length ∧ p (l.getD n 0) = true)
 | [], n, h => by simp
 | x :: r, n, h => by
  by_cases hp : p x = true
  ·rw [List.takeWhile_cons_of_pos hp] at h ⊢
   cases n with
   | zero => simp [hp]
   | succ n =>
    have := aXs (p := p) r n (by simpa using h)
    simpa using this
  ·rw [List.takeWhile_cons_of_neg hp] at h ⊢
   have : n = 0 := by simpa using h
   subst this
   simp [hp]
theorem aBV (s : List Nat) (i : Nat) : dC s i ≤ s.length - i := by
 have := (List.takeWhile_prefix (p := kQ) (l := s.drop i)).length_le
 rw [List.length_drop] at this
 exact this
theorem aDH (s : List Nat) (i : Nat) (hs : s.length ≤ 4611686018427387904) (hi : i ≤ 4611686018427387904) : aG s (i : Int) = some (dC s i : Int) := by
 have hd := aBV s i
 unfold aG
 refine bH (kO (step := fun d : Int => kG (i : Int) s d) (I := fun n => 0 ≤ n ∧ n ≤ dC s i) (fun n => ((dC s i : Int) - n).toNat) (fun _ => (dC s i : Int)) ?_ 0 ⟨by omega, by omega⟩) rfl
 rintro n ⟨n0, n1⟩
 obtain ⟨k, rfl⟩ := Int.eq_ofNat_of_zero_le n0
 show (∃ d', kG (i : Int) s k = _ ∧ _) ∨ kG (i : Int) s k = _
 have e : ((i : Int) + (k : Int)).toNat = i + k := by omega
 have hx : s.getD (i + k) 0 = (s.drop i).getD k 0 := by simp [List.getD_eq_getElem?_getD, List.getElem?_drop]
 have ht := aXs (p := kQ) (s.drop i) k (by show k ≤ dC s i; omega)
 have ht : k < dC s i ↔ i + k < s.length ∧ 48 ≤ s.getD (i + k) 0 ∧ s.getD (i + k) 0 ≤ 57 := by
  rw [hx]
  refine ht.trans ?_
  rw [List.length_drop, kQ, decide_eq_true_iff]
  constructor
  ·rintro ⟨h1, h2⟩; exact ⟨by omega, h2⟩
  ·rintro ⟨h1, h2⟩; exact ⟨by omega, h2⟩
 unfold kG
 rw [e]
 by_cases hk : k < dC s i
 ·left
  obtain ⟨h1, h2, h3⟩ := ht.1 hk
  refine ⟨(k : Int) + 1, ?_, ⟨by omega, by omega⟩, by omega, rfl⟩
  refine aB (by constructor <;> omega) (aB (fun _ => by constructor <;> omega) (aB (fun _ => by constructor <;> omega) (aB (fun _ => by constructor <;> omega) (aB (fun _ => by constructor <;> omega) ?_))))
  rw [if_pos ⟨⟨by omega, h2⟩, h3⟩]
  exact aB (by constructor <;> omega) rfl
 ·right
  refine aB (by constructor <;> omega) (aB (fun _ => by constructor <;> omega) (aB (fun _ => by constructor <;> omega) (aB (fun _ => by constructor <;> omega) (aB (fun _ => by constructor <;> omega) ?_))))
  rw [if_neg (fun h => hk (ht.2 ⟨by omega, h.1.2, h.2⟩)), show (k : Int) = (dC s i : Int) from by omega]
theorem aQF {b i : Nat} (h : b < 18446744073709551616) : (lb (b ^ i)).length ≤ i + 1 :=
 nV.2 (Nat.lt_of_le_of_lt (Nat.pow_le_pow_left (Nat.le_of_lt h) i) (Nat.pow_lt_pow_right (by decide) (by omega)))
theorem aKx (b n : Nat) (hb : b < 18446744073709551616) (hn : n ≤ 100000) : cX b (n : Int) = some (lb (b ^ n)) := by
 unfold cX
 refine bH (kO (step := fun d : (List Nat) × Int => mF (n : Int) b d.1 d.2) (I := fun d => 0 ≤ d.2 ∧ d.2 ≤ n ∧ d.1 = lb (b ^ d.2.toNat)) (fun d => ((n : Int) - d.2).toNat) (fun _ => lb (b ^ n)) ?_ ([1], 0) ⟨by simp, by simp, ?_⟩) rfl
 ·rintro ⟨m, i⟩ ⟨i0, i1, i2⟩
  have i2 : m = lb (b ^ i.toNat) := i2
  have i0 : 0 ≤ i := i0
  have i1 : i ≤ n := i1
  show (∃ d', mF (n : Int) b m i = _ ∧ _) ∨ mF (n : Int) b m i = _
  unfold mF
  have hl := aQF (i := i.toNat) hb
  by_cases hi : i < n
  ·left
   have ht : bY m [b] = lb (b ^ (i + 1).toNat) := by
    unfold bY
    rw [i2, iI, show (i + 1).toNat = i.toNat + 1 from by omega, Nat.pow_succ]
    rfl
   refine ⟨(lb (b ^ (i + 1).toNat), i + 1), ?_, ⟨by simp only; omega, by simp only; omega, rfl⟩, by simp only; omega, rfl⟩
   rw [if_pos hi]
   refine aB ⟨by show m.length ≤ _; rw [i2]; omega, by show (1 : Nat) ≤ _; decide⟩ (aB (by constructor <;> omega) ?_)
   rw [ht]
  ·right
   rw [if_neg hi, i2, show i.toNat = n from by omega]
 ·show [1] = lb (b ^ 0)
  rw [Nat.pow_zero, aGl (by decide)]
  rw [show 1 / 18446744073709551616 = 0 from by decide, mO]
theorem aYC {a b : Nat} (ha : a < 256) (hb : b ≤ a) : lR .u8 a b = a - b := by
 have hm : gR .u8 = 256 := by decide +kernel
 rw [aEU, hm, show a + (256 - b) = (a - b) + 256 from by omega, Nat.add_mod_right, Nat.mod_eq_of_lt (by omega)]
def mZ (s : List Nat) : Nat := s.foldl (fun m c => m * 10 + (c - 48)) 0
theorem aDI (s : List Nat) (c : Nat) : mZ (s ++ [c]) = mZ s * 10 + (c - 48) := by simp [mZ]
theorem aMI : ∀ (s : List Nat) (m : Nat), (∀ c ∈ s, kQ c = true) → s.foldl (fun m c => m * 10 + (c - 48)) m < (m + 1) * 10 ^ s.length
 | [], m, _ => by simp
 | x :: r, m, h => by
  have hx := h x (by simp)
  simp only [kQ, decide_eq_true_iff] at hx
  have ih := aMI r (m * 10 + (x - 48)) (fun c hc => h c (by simp [hc]))
  rw [List.foldl_cons, List.length_cons, Nat.pow_succ, Nat.mul_comm (10 ^ r.length) 10, ← Nat.mul_assoc]
  exact Nat.lt_of_lt_of_le ih (Nat.mul_le_mul_right _ (by omega))
theorem aIN {s : List Nat} (h : ∀ c ∈ s, kQ c = true) : mZ s < 10 ^ s.length := by
 have := aMI s 0 h
 rw [Nat.zero_add, Nat.one_mul] at this
 exact this
theorem aS5 (s : List Nat) (hd : ∀ c ∈ s, kQ c = true) (hs : s.length ≤ 100000) : nI s = some (lb (mZ s)) := by
 unfold nI
 refine bH (kO (step := fun d : (List Nat) × Int => kH s d.1 d.2) (I := fun d => 0 ≤ d.2 ∧ d.2 ≤ s.length ∧ d.1 = lb (mZ (s.take d.2.toNat))) (fun d => ((s.length : Int) - d.2).toNat) (fun _ => lb (mZ s)) ?_ ([], 0) ⟨by simp, by simp, ?_⟩) rfl
 ·rintro ⟨m, i⟩ ⟨i0, i1, i2⟩
  have i2 : m = lb (mZ (s.take i.toNat)) := i2
  have i0 : 0 ≤ i := i0
  have i1 : i ≤ s.length := i1
  show (∃ d', kH s m i = _ ∧ _) ∨ kH s m i = _
  unfold kH
  have hml : m.length ≤ 100001 := by
   rw [i2]
   have h1 := aIN (s := s.take i.toNat) (fun c hc => hd c (List.mem_of_mem_take hc))
   have h2 : (s.take i.toNat).length ≤ 100000 := by rw [List.length_take]; omega
   have h3 := aQF (b := 10) (i := (s.take i.toNat).length) (by decide)
   have h4 := aXr (x := mZ (s.take i.toNat)) (lb (10 ^ (s.take i.toNat).length)) (aB7 _) (by rw [iI]; omega) h3
   omega
  by_cases hi : i < s.length
  ·left
   have hk : i.toNat < s.length := by omega
   have hg : s.getD i.toNat 0 ∈ s := by rw [List.getD_eq_getElem?_getD, List.getElem?_eq_getElem hk]; exact List.getElem_mem hk
   have hc := hd _ hg
   simp only [kQ, decide_eq_true_iff] at hc
   have hsub : lR .u8 (s.getD i.toNat 0) 48 = s.getD i.toNat 0 - 48 := aYC (by omega) hc.1
   have hN : vL [s.getD i.toNat 0 - 48] = lb (s.getD i.toNat 0 - 48) := by
    show lb (nv [s.getD i.toNat 0 - 48]) = _
    simp [nv]
   have ht : iD (bY m [10]) (lb (s.getD i.toNat 0 - 48)) = lb (mZ (s.take (i + 1).toNat)) := by
    unfold iD bY
    rw [i2, iI, iI, iI, show (i + 1).toNat = i.toNat + 1 from by omega, take_succ hk, aDI]
    rfl
   have hT : (bY m [10]).length ≤ 100002 := by
    unfold bY
    refine Nat.le_trans (nV (k := m.length + 1).2 ?_) (by omega)
    rw [i2, iI, Nat.pow_succ, ← i2]
    have h1 := kP (a := m) (by rw [i2]; exact aB7 _)
    rw [i2, iI, ← i2] at h1
    exact Nat.mul_lt_mul'' h1 (by decide)
   refine ⟨(lb (mZ (s.take (i + 1).toNat)), i + 1), ?_, ⟨by simp only; omega, by simp only; omega, rfl⟩, by simp only; omega, rfl⟩
   rw [if_pos hi, hsub, hN, ht]
   refine aB (by constructor <;> omega) (aB ⟨by show m.length ≤ _; omega, by show (1 : Nat) ≤ _; decide⟩ (aB (by show (1 : Nat) ≤ _; decide) (aB ⟨by show (bY m [10]).length ≤ _; omega, ?_⟩ (aB (by constructor <;> omega) rfl))))
   show (lb (s.getD i.toNat 0 - 48)).length ≤ _
   have := nV (n := s.getD i.toNat 0 - 48) (k := 1).2 (by omega)
   omega
  ·right
   rw [if_neg hi, i2, List.take_of_length_le (by omega)]
 ·show [] = lb (mZ [])
  rw [show mZ [] = 0 from rfl, mO]
end Nu
end Go.Proofs
namespace Go.Proofs
open Go.Vc
set_option maxRecDepth 20000
namespace Nu
theorem aU6 {k : Nat} (h : k ≤ 18) : 10 ^ k ≤ 1000000000000000000 := Nat.pow_le_pow_right (n := 10) (by decide) h
theorem aWT (s : List Nat) (hd : ∀ c ∈ s, kQ c = true) (h0 : 0 < s.length) (h1 : s.length ≤ 18) : dW s = some ((mZ s : Int), (), ()) := by
 have hget : ∀ k, k < s.length → 48 ≤ s.getD k 0 ∧ s.getD k 0 ≤ 57 := fun k hk => by
  have hg : s.getD k 0 ∈ s := by rw [List.getD_eq_getElem?_getD, List.getElem?_eq_getElem hk]; exact List.getElem_mem hk
  have := hd _ hg
  simpa only [kQ, decide_eq_true_iff] using this
 have hlt : ∀ k, mZ (s.take k) < 1000000000000000000 ∨ k > s.length := fun k => by
  rcases Nat.lt_or_ge s.length k with h | h
  ·exact .inr h
  ·left
   have a := aIN (s := s.take k) (fun c hc => hd c (List.mem_of_mem_take hc))
   have b := aU6 (k := (s.take k).length) (by rw [List.length_take]; omega)
   omega
 have key : gQ s s = some ((mZ s : Int), (), ()) := by
  unfold gQ
  refine bH (kO (step := fun d : Int × Int => fZ s d.1 d.2) (I := fun d => 0 ≤ d.2 ∧ d.2 ≤ s.length ∧ d.1 = (mZ (s.take d.2.toNat) : Int)) (fun d => ((s.length : Int) - d.2).toNat) (fun _ => .inl (mZ s : Int)) ?_ (0, 0) ⟨by simp, by simp, by simp [mZ]⟩) ?_
  ·rintro ⟨n, i⟩ ⟨i0, i1, i2⟩
   have i0 : 0 ≤ i := i0
   have i1 : i ≤ s.length := i1
   have i2 : n = (mZ (s.take i.toNat) : Int) := i2
   show (∃ d', fZ s n i = _ ∧ _) ∨ fZ s n i = _
   unfold fZ
   by_cases hi : i < s.length
   ·left
    have hk : i.toNat < s.length := by omega
    obtain ⟨c1, c2⟩ := hget _ hk
    have hsub : lR .u8 (s.getD i.toNat 0) 48 = s.getD i.toNat 0 - 48 := aYC (by omega) c1
    have hb : mZ (s.take (i.toNat + 1)) = mZ (s.take i.toNat) * 10 + (s.getD i.toNat 0 - 48) := by rw [take_succ hk, aDI]
    have hl := hlt (i.toNat + 1)
    refine ⟨((mZ (s.take (i + 1).toNat) : Int), i + 1), ?_, ⟨by simp only; omega, by simp only; omega, rfl⟩, by simp only; omega, rfl⟩
    rw [if_pos hi, hsub, show (i + 1).toNat = i.toNat + 1 from by omega, hb]
    refine aB (by constructor <;> omega) ?_
    rw [if_neg (by omega), i2]
    refine aB (by constructor <;> omega) (aB (by constructor <;> omega) (aB (by constructor <;> omega) ?_))
    congr 3
   ·right
    rw [if_neg hi, i2, List.take_of_length_le (by omega)]
  ·unfold mE
   obtain ⟨c1, c2⟩ := hget 0 h0
   refine aB (by omega) ?_
   rw [if_neg (by omega)]
 have h2 : kF s = some ((mZ s : Int), (), ()) := by
  unfold kF
  obtain ⟨c1, c2⟩ := hget 0 h0
  rw [if_pos (.inr ⟨trivial, by omega, by omega⟩)]
  refine aB (by omega) (aB (fun _ => by omega) ?_)
  rw [if_neg (by omega)]
  exact key
 unfold dW
 rw [h2]
 exact aB rfl rfl
theorem aKy (s : List Nat) (i : Nat) : ∀ c ∈ (s.drop i).take (dC s i), kQ c = true := by
 intro c hc
 have h : (s.drop i).take (dC s i) = (s.drop i).takeWhile kQ := by
  have := List.prefix_iff_eq_take.1 (List.takeWhile_prefix (p := kQ) (l := s.drop i))
  exact this.symm
 rw [h] at hc
 exact List.all_eq_true.1 List.all_takeWhile c hc
abbrev aU7 : Type := List Nat × Int × Bool × Unit
def litNo : aU7 := ([], 0, false, ())
def oH (s : List Nat) (i : Nat) (c : Nat) : Prop := i < s.length ∧ s.getD i 0 = c
instance (s : List Nat) (i c : Nat) : Decidable (oH s i c) := inferInstanceAs (Decidable (_ ∧ _))
def aKz (s : List Nat) (i : Nat) (all : List Nat) (pow : Int) (neg : Bool) : aU7 :=
 if dC s i < 1 ∨ 3 < dC s i then litNo
 else if 100 < mZ ((s.drop i).take (dC s i)) then litNo
 else (all, pow + (if neg then -(mZ ((s.drop i).take (dC s i)) : Int) else mZ ((s.drop i).take (dC s i))), decide (i + dC s i = s.length), ())
def aPl (s : List Nat) (i : Nat) (all : List Nat) (pow : Int) : aU7 :=
 if oH s i 101 then aKz s (if oH s (i + 1) 45 ∨ oH s (i + 1) 43 then i + 2 else i + 1) all pow (decide (oH s (i + 1) 45))
 else (all, pow, decide (i = s.length), ())
def oS (s : List Nat) : aU7 :=
 if 60 < s.length ∨ dC s 0 = 0 then litNo
 else if oH s (dC s 0) 46 then
  if dC s (dC s 0 + 1) = 0 then litNo
  else aPl s (dC s 0 + 1 + dC s (dC s 0 + 1)) (s.take (dC s 0) ++ (s.drop (dC s 0 + 1)).take (dC s (dC s 0 + 1))) (-(dC s (dC s 0 + 1) : Int))
 else aPl s (dC s 0) (s.take (dC s 0)) 0
theorem aU8 (s : List Nat) (i : Nat) : s.getD ((i : Int)).toNat 0 = s.getD i 0 := by rw [Int.toNat_natCast]
theorem aU9 (s : List Nat) (k : Nat) (all : List Nat) (pow x : Int) (hs : s.length ≤ 60) (hk : k ≤ 100) (hp : -100 ≤ pow ∧ pow ≤ 100) (hx : -100 ≤ x ∧ x ≤ 100) : iR pow (k : Int) s all x = some (all, pow + x, decide (k + dC s k = s.length), ()) := by
 have hd := aBV s k
 unfold iR
 rw [aDH s k (by omega) (by omega)]
 simp only [Option.getD_some]
 refine aB (by constructor <;> omega) (aB (by constructor <;> omega) ?_)
 unfold iQ
 have : decide ((k : Int) + (dC s k : Int) = (s.length : Int)) = decide (k + dC s k = s.length) := decide_eq_decide.2 (by omega)
 rw [this]
theorem aVa (s : List Nat) (i k : Nat) (all : List Nat) (pow : Int) (hs : s.length ≤ 60) (hi : i ≤ 60) (hk : k ≤ 100) (hp : -100 ≤ pow ∧ pow ≤ 100) : iS s (i : Int) pow all (k : Int) = some (aKz s k all pow (decide (oH s (i + 1) 45))) := by
 have hd := aBV s k
 unfold iS aKz
 rw [aDH s k (by omega) (by omega)]
 simp only [Option.getD_some]
 refine aB rfl ?_
 by_cases h1 : dC s k < 1 ∨ 3 < dC s k
 ·rw [if_pos (by omega), if_pos h1]; rfl
 ·rw [if_neg (by omega), if_neg h1]
  have ht : List.drop ((k : Int)).toNat (List.take ((k : Int) + (dC s k : Int)).toNat s) = (s.drop k).take (dC s k) := by
   rw [List.drop_take, Int.toNat_natCast]
   congr 1
   omega
  have hl : ((s.drop k).take (dC s k)).length = dC s k := by rw [List.length_take, List.length_drop]; omega
  have ha := aWT _ (aKy s k) (by omega) (by omega)
  simp only [ht, ha, Option.getD_some]
  refine aB (by constructor <;> omega) (aB (by constructor <;> omega) (aB rfl ?_))
  by_cases h2 : 100 < mZ ((s.drop k).take (dC s k))
  ·rw [if_pos (by omega), if_pos h2]; rfl
  ·rw [if_neg (by omega), if_neg h2]
   have e : ((i : Int) + 1).toNat = i + 1 := by omega
   rw [e]
   by_cases h3 : oH s (i + 1) 45
   ·have h3' : i + 1 < s.length ∧ s.getD (i + 1) 0 = 45 := h3
    rw [if_pos ⟨by omega, h3'.2⟩, decide_eq_true h3]
    refine aB (by constructor <;> omega) ?_
    rw [show (0 : Int) - (mZ ((s.drop k).take (dC s k)) : Int) = -(mZ ((s.drop k).take (dC s k)) : Int) from by omega]
    rw [aU9 s k all pow _ hs hk hp (by constructor <;> omega)]
    rfl
   ·have h3' : ¬ (i + 1 < s.length ∧ s.getD (i + 1) 0 = 45) := h3
    rw [if_neg (fun h => h3' ⟨by omega, h.2⟩), decide_eq_false h3]
    rw [aU9 s k all pow _ hs hk hp (by constructor <;> omega)]
    rfl
theorem aVb (s : List Nat) (i : Nat) (all : List Nat) (pow : Int) (hs : s.length ≤ 60) (hi : i ≤ 60) (hp : -100 ≤ pow ∧ pow ≤ 100) : iT s (i : Int) all pow = some (aPl s i all pow) := by
 unfold iT aPl
 have e : ((i : Int) + 1).toNat = i + 1 := by omega
 rw [aU8, e]
 refine aB (fun _ => by constructor <;> omega) ?_
 by_cases h : oH s i 101
 ·have h' : i < s.length ∧ s.getD i 0 = 101 := h
  rw [if_pos ⟨by omega, h'.2⟩, if_pos h]
  refine aB (by constructor <;> omega) (aB (fun _ => by constructor <;> omega) (aB (fun _ _ => by constructor <;> omega) ?_))
  by_cases h2 : oH s (i + 1) 45 ∨ oH s (i + 1) 43
  ·have h2' : (i + 1 < s.length ∧ s.getD (i + 1) 0 = 45) ∨ (i + 1 < s.length ∧ s.getD (i + 1) 0 = 43) := h2
   rw [if_pos (by rcases h2' with h | h; exact .inl ⟨by omega, h.2⟩; exact .inr ⟨by omega, h.2⟩), if_pos h2]
   refine aB (by constructor <;> omega) ?_
   have := aVa s i (i + 2) all pow hs hi (by omega) hp
   rw [show ((i + 2 : Nat) : Int) = (i : Int) + 1 + 1 from by omega] at this
   exact this
  ·have h2' : ¬ ((i + 1 < s.length ∧ s.getD (i + 1) 0 = 45) ∨ (i + 1 < s.length ∧ s.getD (i + 1) 0 = 43)) := h2
   rw [if_neg (fun h => h2' (by rcases h with h | h; exact .inl ⟨by omega, h.2⟩; exact .inr ⟨by omega, h.2⟩)), if_neg h2]
   have := aVa s i (i + 1) all pow hs hi (by omega) hp
   rw [show ((i + 1 : Nat) : Int) = (i : Int) + 1 from by omega] at this
   exact this
 ·have h' : ¬ (i < s.length ∧ s.getD i 0 = 101) := h
  rw [if_neg (fun h => h' ⟨by omega, h.2⟩), if_neg h]
  unfold iQ
  have : decide ((i : Int) = (s.length : Int)) = decide (i = s.length) := decide_eq_decide.2 (by omega)
  rw [this]
theorem aYc (s : List Nat) (hs : s.length ≤ 4611686018427387904) : dI s = some (oS s) := by
 have hd0 := aBV s 0
 have hd1 := aBV s (dC s 0 + 1)
 unfold dI oS
 have e0 := aDH s 0 hs (by omega)
 rw [show ((0 : Nat) : Int) = 0 from rfl] at e0
 rw [e0]
 simp only [Option.getD_some]
 refine aB rfl (aB (by constructor <;> omega) ?_)
 by_cases h1 : 60 < s.length ∨ dC s 0 = 0
 ·rw [if_pos (by omega), if_pos h1]; rfl
 ·rw [if_neg (by omega), if_neg h1]
  rw [aU8]
  refine aB (fun _ => by constructor <;> omega) ?_
  by_cases h2 : oH s (dC s 0) 46
  ·have h2' : dC s 0 < s.length ∧ s.getD (dC s 0) 0 = 46 := h2
   rw [if_pos ⟨by omega, h2'.2⟩, if_pos h2]
   have e1 := aDH s (dC s 0 + 1) hs (by omega)
   rw [show ((dC s 0 + 1 : Nat) : Int) = (dC s 0 : Int) + 1 from by omega] at e1
   simp only [e1, Option.getD_some]
   refine aB (by constructor <;> omega) (aB rfl ?_)
   by_cases h3 : dC s (dC s 0 + 1) = 0
   ·rw [if_pos (by omega), if_pos h3]; rfl
   ·rw [if_neg (by omega), if_neg h3]
    have ht : List.drop ((dC s 0 : Int) + 1).toNat (List.take ((dC s 0 : Int) + 1 + (dC s (dC s 0 + 1) : Int)).toNat s) = (s.drop (dC s 0 + 1)).take (dC s (dC s 0 + 1)) := by
     rw [List.drop_take, show ((dC s 0 : Int) + 1).toNat = dC s 0 + 1 from by omega]
     congr 1
     omega
    simp only [ht, Int.toNat_natCast]
    have hl1 : (s.take (dC s 0)).length ≤ 60 := by rw [List.length_take]; omega
    have hl2 : ((s.drop (dC s 0 + 1)).take (dC s (dC s 0 + 1))).length ≤ 60 := by rw [List.length_take]; omega
    refine aB (by constructor <;> omega) (aB (by constructor <;> omega) (aB (by constructor <;> omega) (aB (by constructor <;> omega) (aB (by omega) (aB (by constructor <;> omega) (aB (by constructor <;> omega) (aB (by constructor <;> omega) ?_)))))))
    have := aVb s (dC s 0 + 1 + dC s (dC s 0 + 1)) (s.take (dC s 0) ++ (s.drop (dC s 0 + 1)).take (dC s (dC s 0 + 1))) (-(dC s (dC s 0 + 1) : Int)) (by omega) (by omega) (by constructor <;> omega)
    rw [show ((dC s 0 + 1 + dC s (dC s 0 + 1) : Nat) : Int) = (dC s 0 : Int) + 1 + (dC s (dC s 0 + 1) : Int) from by omega] at this
    rw [show (0 : Int) - (dC s (dC s 0 + 1) : Int) = -(dC s (dC s 0 + 1) : Int) from by omega]
    exact this
  ·have h2' : ¬ (dC s 0 < s.length ∧ s.getD (dC s 0) 0 = 46) := h2
   rw [if_neg (fun h => h2' ⟨by omega, h.2⟩), if_neg h2]
   rw [Int.toNat_natCast]
   exact aVb s (dC s 0) _ 0 (by omega) (by omega) (by decide)
end Nu
end Go.Proofs
