import Derived.Test.YtabdejmolnikaaaGreatDoorZS1
import Derived.Test.YtabdejmolnikaaaGreatDoorZL5
set_option linter.unusedVariables false
set_option linter.unusedSimpArgs false
namespace Go.Proofs
open Go.Vc
set_option maxRecDepth 20000
namespace Nu
structure DgN (X V P v1 v0 U2 U1 U0 : Nat) : Prop where
 hP : 0 < P
 hX : X / P = (U2 * 18446744073709551616 + U1) * 18446744073709551616 + U0
 hV : V / P = v1 * 18446744073709551616 + v0
 v1l : 9223372036854775808 ≤ v1
 v1h : v1 < 18446744073709551616
 v0h : v0 < 18446744073709551616
 u2h : U2 < 18446744073709551616
 u1h : U1 < 18446744073709551616
 u0h : U0 < 18446744073709551616
 hq : X < 18446744073709551616 * V
variable {X V P v1 v0 U2 U1 U0 : Nat}
theorem aTv (h : DgN X V P v1 v0 U2 U1 U0) : U2 ≤ v1 := by
 have h1 : V < (V / P + 1) * P := by rw [Nat.mul_comm]; exact Nat.lt_mul_div_succ V h.hP
 have h2 : X / P < 18446744073709551616 * (V / P + 1) := by
  refine (Nat.div_lt_iff_lt_mul h.hP).2 (Nat.lt_of_lt_of_le h.hq ?_)
  rw [Nat.mul_assoc]
  exact Nat.mul_le_mul_left _ (Nat.le_of_lt h1)
 rw [h.hX, h.hV] at h2
 have a := h.v0h
 have b := h.u0h
 have c := h.u1h
 omega
theorem aSS (h : DgN X V P v1 v0 U2 U1 U0) : X / V * (v1 * 18446744073709551616 + v0) ≤ (U2 * 18446744073709551616 + U1) * 18446744073709551616 + U0 := by
 rw [← h.hX, ← h.hV]
 refine (Nat.le_div_iff_mul_le h.hP).2 ?_
 rw [Nat.mul_assoc]
 exact Nat.le_trans (Nat.mul_le_mul_left _ (Nat.div_mul_le_self V P)) (Nat.div_mul_le_self X V)
theorem mul_two (x v1 v0 : Nat) : x * (v1 * 18446744073709551616 + v0) = x * v1 * 18446744073709551616 + x * v0 := by rw [Nat.mul_add, Nat.mul_assoc]
theorem aTw (h : DgN X V P v1 v0 U2 U1 U0) : X / V ≤ (U2 * 18446744073709551616 + U1) / v1 := by
 refine (Nat.le_div_iff_mul_le (by have := h.v1l; omega)).2 ?_
 have h1 := aSS h
 rw [mul_two] at h1
 have b := h.u0h
 generalize X / V * v1 = A at *
 generalize X / V * v0 = C at *
 omega
theorem aTx (h : DgN X V P v1 v0 U2 U1 U0) : X / V < 18446744073709551616 := (Nat.div_lt_iff_lt_mul (by
 have := h.hq
 rcases Nat.eq_zero_or_pos V with h0 | h0
 ·subst h0; simp at this
 ·exact h0)).2 h.hq
theorem aOh (h : DgN X V P v1 v0 U2 U1 U0) {x : Nat} (hx : x < 18446744073709551616) (hl : x * (v1 * 18446744073709551616 + v0) ≤ (U2 * 18446744073709551616 + U1) * 18446744073709551616 + U0) : x ≤ X / V + 1 := by
 rcases x with _ | y
 ·exact Nat.zero_le _
 refine Nat.succ_le_succ ?_
 have hVp : 0 < V := by
  rcases Nat.eq_zero_or_pos V with h0 | h0
  ·have := h.hq; subst h0; simp at this
  ·exact h0
 refine (Nat.le_div_iff_mul_le hVp).2 ?_
 rw [← h.hX, ← h.hV] at hl
 have e := Nat.div_add_mod V P
 have m := Nat.mod_lt V h.hP
 have h1 : (y + 1) * (V / P) * P ≤ X := Nat.le_trans (Nat.mul_le_mul_right P hl) (Nat.div_mul_le_self X P)
 have h2 : y * (V % P) ≤ 18446744073709551616 * P := Nat.mul_le_mul (by omega) (Nat.le_of_lt m)
 have h3 : 18446744073709551616 * P ≤ V / P * P := Nat.mul_le_mul_right _ (by rw [h.hV]; have := h.v1l; omega)
 have h4 : y * V = y * (V / P) * P + y * (V % P) := by
  conv => lhs; rw [← e]
  rw [Nat.mul_add, Nat.mul_comm P, Nat.mul_assoc]
 rw [h4]
 rw [Nat.add_mul, Nat.add_mul, Nat.one_mul] at h1
 generalize y * (V / P) * P = A at *
 generalize y * (V % P) = C at *
 generalize V / P * P = D at *
 generalize 18446744073709551616 * P = E at *
 omega
structure DgL (v1 U2 U1 Q x rest over : Nat) : Prop where
 eq : x * v1 + (rest + over * 18446744073709551616) = U2 * 18446744073709551616 + U1
 r1 : rest < 18446744073709551616
 o1 : over ≤ 1
 x1 : x < 18446744073709551616
 ge : Q ≤ x
theorem aQR {A C hi lo r u2 u1 u0 : Nat} (d : 18446744073709551616 * hi + lo = C) (m : lo < 18446744073709551616) (e : A + (r + 0 * 18446744073709551616) = u2 * 18446744073709551616 + u1) (hr : r < 18446744073709551616) (hu : u0 < 18446744073709551616) : (hi < r ∨ hi = r ∧ lo ≤ u0) ↔ A * 18446744073709551616 + C ≤ (u2 * 18446744073709551616 + u1) * 18446744073709551616 + u0 := by
 have e2 : (u2 * 18446744073709551616 + u1) * 18446744073709551616 = A * 18446744073709551616 + r * 18446744073709551616 := by rw [← e, Nat.zero_mul, Nat.add_zero, Nat.add_mul]
 rw [e2]
 omega
theorem aQS {A r v1 u2 u1 : Nat} (e : A + 1 * v1 + (r + 0 * 18446744073709551616) = u2 * 18446744073709551616 + u1) : A + ((r + v1 + 0) % 18446744073709551616 + (r + v1 + 0) / 18446744073709551616 * 18446744073709551616) = u2 * 18446744073709551616 + u1 := by
 have d := Nat.div_add_mod (r + v1 + 0) 18446744073709551616
 omega
theorem aQT {Q x rest : Nat} (hv0 : v0 < 18446744073709551616) (hu0 : U0 < 18446744073709551616) (h : DgL v1 U2 U1 Q x rest 0) : (x * v0 / 18446744073709551616 < rest ∨ x * v0 / 18446744073709551616 = rest ∧ x * v0 % 18446744073709551616 ≤ U0) ↔ x * (v1 * 18446744073709551616 + v0) ≤ (U2 * 18446744073709551616 + U1) * 18446744073709551616 + U0 := by
 have e := h.eq
 rw [mul_two]
 have d := Nat.div_add_mod (x * v0) 18446744073709551616
 have m := Nat.mod_lt (x * v0) (show 0 < 18446744073709551616 by decide)
 exact aQR d m e h.r1 hu0
theorem aSj {Q x rest : Nat} (hv0 : v0 < 18446744073709551616) (h : DgL v1 U2 U1 Q x rest 1) : x * (v1 * 18446744073709551616 + v0) ≤ (U2 * 18446744073709551616 + U1) * 18446744073709551616 + U0 := by
 have e := h.eq
 have r := h.r1
 have p : x * v0 ≤ 18446744073709551615 * 18446744073709551615 := Nat.mul_le_mul (by have := h.x1; omega) (by omega)
 rw [mul_two]
 generalize x * v1 = A at *
 generalize x * v0 = C at *
 omega
theorem aQU {Q x rest : Nat} (hv1 : v1 < 18446744073709551616) (hQ : Q * (v1 * 18446744073709551616 + v0) ≤ (U2 * 18446744073709551616 + U1) * 18446744073709551616 + U0) (h : DgL v1 U2 U1 Q x rest 0) (hc : ¬ x * (v1 * 18446744073709551616 + v0) ≤ (U2 * 18446744073709551616 + U1) * 18446744073709551616 + U0) :
  iD .u64 x 1 = x - 1 ∧ x - 1 < x ∧ DgL v1 U2 U1 Q (x - 1) ((rest + v1 + 0) % 18446744073709551616) ((rest + v1 + 0) / 18446744073709551616) := by
 have hlt : Q < x := by
  refine Nat.lt_of_mul_lt_mul_right (a := v1 * 18446744073709551616 + v0) ?_
  omega
 have e := h.eq
 have r := h.r1
 have x1 := h.x1
 obtain ⟨y, rfl⟩ : ∃ y, x = y + 1 := ⟨x - 1, by omega⟩
 rw [Nat.add_mul] at e
 refine ⟨aLt x1 (by omega), by omega, ⟨?_, Nat.mod_lt _ (by decide), by omega, by omega, by omega⟩⟩
 exact aQS e
theorem aQV {v o : List Nat} {j un : Nat} (hn : 2 ≤ v.length) (hs : v.length ≤ 9000000000000) (hu : un = v.length + 1) (ho : j + un ≤ o.length)
  (h : DgN X V P (v.getD (v.length - 1) 0) (v.getD (v.length - 2) 0) U2 U1 (o.getD (j + (v.length - 2)) 0)) {x rest over : Nat} (hi : DgL (v.getD (v.length - 1) 0) U2 U1 (X / V) x rest over) :
  ∃ e, dC (fun d : Nat × Nat × Nat => jI v un j o d.1 d.2.1 d.2.2) (x, rest, over) = some e ∧ X / V ≤ e ∧ e ≤ X / V + 1 ∧ e < 18446744073709551616 := by
 have e1 : ((v.length : Int) - 1).toNat = v.length - 1 := by omega
 have e2 : ((v.length : Int) - 2).toNat = v.length - 2 := by omega
 refine gU (step := fun d : Nat × Nat × Nat => jI v un j o d.1 d.2.1 d.2.2) (I := fun d => DgL (v.getD (v.length - 1) 0) U2 U1 (X / V) d.1 d.2.1 d.2.2) (fun d => d.1) (fun e => X / V ≤ e ∧ e ≤ X / V + 1 ∧ e < 18446744073709551616) ?_ (x, rest, over) hi
 rintro ⟨x, rest, over⟩ hi
 have hi : DgL (v.getD (v.length - 1) 0) U2 U1 (X / V) x rest over := hi
 show (∃ d', jI v un j o x rest over = _ ∧ _) ∨ ∃ e, jI v un j o x rest over = _ ∧ _
 unfold jI
 rw [e1, e2]
 by_cases h0 : over = 0
 ·subst h0
  have ht := aQT h.v0h h.u0h hi
  rw [if_pos rfl]
  by_cases hc : x * (v.getD (v.length - 1) 0 * 18446744073709551616 + v.getD (v.length - 2) 0) ≤ (U2 * 18446744073709551616 + U1) * 18446744073709551616 + o.getD (j + (v.length - 2)) 0
  ·right
   refine ⟨x, ?_, hi.ge, aOh h hi.x1 hc, hi.x1⟩
   refine aB (by constructor <;> omega) (aB (by constructor <;> omega) (aB (fun _ _ => by constructor <;> omega) (aB (fun _ _ => by omega) ?_)))
   exact (if_pos (ht.2 hc))
  ·left
   obtain ⟨s1, s2, s3⟩ := aQU h.v1h (aSS h) hi hc
   refine ⟨(x - 1, (rest + v.getD (v.length - 1) 0 + 0) % 18446744073709551616, (rest + v.getD (v.length - 1) 0 + 0) / 18446744073709551616), ?_, s3, s2⟩
   refine aB (by constructor <;> omega) (aB (by constructor <;> omega) (aB (fun _ _ => by constructor <;> omega) (aB (fun _ _ => by omega) ?_)))
   refine (if_neg (fun hh => hc (ht.1 hh))).trans ?_
   rw [s1]
   exact aB (by constructor <;> omega) (aB (by constructor <;> omega) (aB (Nat.zero_le _) rfl))
 ·right
  have h1 : over = 1 := by have := hi.o1; omega
  subst h1
  exact ⟨x, by rw [if_neg h0], hi.ge, aOh h hi.x1 (aSj h.v0h hi), hi.x1⟩
end Nu
end Go.Proofs
namespace Go.Proofs
open Go.Vc
set_option maxRecDepth 20000
namespace Nu
theorem aLV {x y c b o lo hi z c' d b' : Nat} (e : 18446744073709551616 * hi + lo = x * y) (hlo : lo < 18446744073709551616) (hp : x * y ≤ 18446744073709551615 * 18446744073709551615) (hc : c < 18446744073709551616) (hb : b ≤ 1) (ho : o < 18446744073709551616)
  (hz : z = (lo + c + 0) % 18446744073709551616) (hc' : c' = (hi + (lo + c + 0) / 18446744073709551616) % 18446744073709551616) (hd : d = (o + 18446744073709551616 - z - b) % 18446744073709551616) (hb' : b' = if o < z + b then 1 else 0) :
  d + x * y + c + b = o + 18446744073709551616 * (c' + b') ∧ d < 18446744073709551616 ∧ c' < 18446744073709551616 ∧ b' ≤ 1 := by
 generalize x * y = w at *
 subst hz hc' hd hb'
 split <;> omega
theorem aTy {N N' N0 Q R P o d c b c' b' x y t : Nat} (hP : P = Q * R) (h1 : N' + P * o = N + P * d) (h2 : N + Q * x * t = N0 + P * (c + b)) (h3 : d + x * y + c + b = o + 18446744073709551616 * (c' + b')) : N' + Q * x * (t + R * y) = N0 + P * 18446744073709551616 * (c' + b') := by
 have e := congrArg (P * ·) h3
 simp only [Nat.mul_add] at e
 have e2 : P * (x * y) = Q * x * (R * y) := by
  rw [hP, Nat.mul_assoc, Nat.mul_assoc]; congr 1; rw [Nat.mul_left_comm]
 rw [Nat.mul_add] at h2 ⊢
 rw [Nat.mul_assoc P 18446744073709551616, Nat.mul_add 18446744073709551616, Nat.mul_add P]
 omega
theorem aTz {N N' N0 Q R P o d c c' y t : Nat} (hP : P = Q * R) (h1 : N' + P * o = N + P * d) (h2 : N + P * c = N0 + Q * t) (h3 : d + 18446744073709551616 * c' = o + y + c) : N' + P * 18446744073709551616 * c' = N0 + Q * (t + R * y) := by
 have e := congrArg (P * ·) h3
 simp only [Nat.mul_add] at e
 have e2 : P * y = Q * (R * y) := by rw [hP, Nat.mul_assoc]
 rw [Nat.mul_add, Nat.mul_assoc P 18446744073709551616]
 omega
structure MsI (v u : List Nat) (x j : Nat) (c b : Nat) (i : Int) (w : List Nat) : Prop where
 i0 : 0 ≤ i
 i1 : i ≤ v.length
 len : w.length = u.length
 lm : Lm w
 c1 : c < 18446744073709551616
 b1 : b ≤ 1
 rest : w.drop (j + i.toNat) = u.drop (j + i.toNat)
 sum : nv w + 18446744073709551616 ^ j * x * nv (v.take i.toNat) = nv u + 18446744073709551616 ^ (j + i.toNat) * (c + b)
structure AbI (v u : List Nat) (j : Nat) (c : Nat) (i : Int) (w : List Nat) : Prop where
 i0 : 0 ≤ i
 i1 : i ≤ v.length
 len : w.length = u.length
 lm : Lm w
 c1 : c ≤ 1
 rest : w.drop (j + i.toNat) = u.drop (j + i.toNat)
 sum : nv w + 18446744073709551616 ^ (j + i.toNat) * c = nv u + 18446744073709551616 ^ j * nv (v.take i.toNat)
theorem aQW {v u : List Nat} {x j c b : Nat} {i : Int} {w : List Nat} (hl : j + v.length < u.length) (h : MsI v u x j c b i w) (hi : i < v.length) {d c' b' : Nat} (hd : d < 18446744073709551616) (hc' : c' < 18446744073709551616) (hb' : b' ≤ 1)
  (e : d + x * v.getD i.toNat 0 + c + b = w.getD (j + i.toNat) 0 + 18446744073709551616 * (c' + b')) : MsI v u x j c' b' (i + 1) (w.set (j + i.toNat) d) := by
 have h0 := h.i0
 have hlen := h.len
 have e1 : (i + 1).toNat = i.toNat + 1 := by omega
 refine ⟨by omega, by omega, by rw [List.length_set]; exact hlen, sU h.lm _ hd, hc', hb', ?_, ?_⟩
 ·rw [e1, ← Nat.add_assoc, drop_set]; exact tW h.rest
 ·rw [e1, lP, ← Nat.add_assoc, Nat.pow_succ]
  exact aTy (R := 18446744073709551616 ^ i.toNat) (Nat.pow_add _ _ _) (wS (by omega)) h.sum e
theorem aQX {v u : List Nat} {j c : Nat} {i : Int} {w : List Nat} (hl : j + v.length < u.length) (h : AbI v u j c i w) (hi : i < v.length) {d c' : Nat} (hd : d < 18446744073709551616) (hc' : c' ≤ 1)
  (e : d + 18446744073709551616 * c' = w.getD (j + i.toNat) 0 + v.getD i.toNat 0 + c) : AbI v u j c' (i + 1) (w.set (j + i.toNat) d) := by
 have h0 := h.i0
 have hlen := h.len
 have e1 : (i + 1).toNat = i.toNat + 1 := by omega
 refine ⟨by omega, by omega, by rw [List.length_set]; exact hlen, sU h.lm _ hd, hc', ?_, ?_⟩
 ·rw [e1, ← Nat.add_assoc, drop_set]; exact tW h.rest
 ·rw [e1, lP, ← Nat.add_assoc, Nat.pow_succ]
  exact aTz (R := 18446744073709551616 ^ i.toNat) (Nat.pow_add _ _ _) (wS (by omega)) h.sum e
theorem aPb {v u : List Nat} {x j un : Nat} (lv : Lm v) (hx : x < 18446744073709551616) (hs : v.length ≤ 9000000000000) (hu : un = v.length + 1) (ho : j + un ≤ u.length) (lu : Lm u) :
  ∃ e, dC (fun d : Nat × Nat × Int × (List Nat) => hO v x un j d.1 d.2.1 d.2.2.1 d.2.2.2) (0, 0, 0, u) = some e ∧ MsI v u x j e.1 e.2.1 v.length e.2.2 := by
 refine gU (step := fun d : Nat × Nat × Int × (List Nat) => hO v x un j d.1 d.2.1 d.2.2.1 d.2.2.2) (I := fun d => MsI v u x j d.1 d.2.1 d.2.2.1 d.2.2.2) (fun d => (v.length - d.2.2.1).toNat) (fun e => MsI v u x j e.1 e.2.1 v.length e.2.2) ?_ (0, 0, 0, u) ⟨by simp, by simp, rfl, lu, by simp, by simp, rfl, by simp [nv]⟩
 rintro ⟨c, b, i, w⟩ h
 have h : MsI v u x j c b i w := h
 have h0 := h.i0
 have hlen := h.len
 show (∃ d', hO v x un j c b i w = _ ∧ _) ∨ ∃ e, hO v x un j c b i w = _ ∧ _
 unfold hO
 by_cases hi : i < v.length
 ·left
  have hy := eI lv i.toNat
  have hw := eI h.lm (j + i.toNat)
  have hb := h.b1
  obtain ⟨k1, k2, k3, k4⟩ := aLV (b' := if w.getD (j + i.toNat) 0 < (x * v.getD i.toNat 0 % 18446744073709551616 + c + 0) % 18446744073709551616 + b then 1 else 0) (Nat.div_add_mod (x * v.getD i.toNat 0) 18446744073709551616) (Nat.mod_lt _ (by decide)) (Nat.mul_le_mul (by omega) (by omega)) h.c1 hb hw rfl rfl rfl rfl
  refine ⟨((x * v.getD i.toNat 0 / 18446744073709551616 + (x * v.getD i.toNat 0 % 18446744073709551616 + c + 0) / 18446744073709551616) % 18446744073709551616, (if w.getD (j + i.toNat) 0 < (x * v.getD i.toNat 0 % 18446744073709551616 + c + 0) % 18446744073709551616 + b then 1 else 0), i + 1, w.set (j + i.toNat) ((w.getD (j + i.toNat) 0 + 18446744073709551616 - (x * v.getD i.toNat 0 % 18446744073709551616 + c + 0) % 18446744073709551616 - b) % 18446744073709551616)), ?_, aQW (by omega) h hi k2 k3 k4 k1, by simp only; omega⟩
  rw [if_pos hi]
  exact aB (by constructor <;> omega) (aB (Nat.zero_le _) (aB (by constructor <;> omega) (aB (by omega) (aB hb (aB (by constructor <;> omega) (aB (by omega) (aB (by constructor <;> omega) rfl)))))))
 ·right
  refine ⟨(c, b, w), by rw [if_neg hi], ?_⟩
  have e : i = v.length := by have := h.i1; omega
  rw [e] at h
  exact h
theorem aPc {v u : List Nat} {j un : Nat} (lv : Lm v) (hs : v.length ≤ 9000000000000) (hu : un = v.length + 1) (ho : j + un ≤ u.length) (lu : Lm u) :
  ∃ e, dC (fun d : Nat × Int × (List Nat) => gZ v un j d.1 d.2.1 d.2.2) (0, 0, u) = some e ∧ AbI v u j e.1 v.length e.2 := by
 refine gU (step := fun d : Nat × Int × (List Nat) => gZ v un j d.1 d.2.1 d.2.2) (I := fun d => AbI v u j d.1 d.2.1 d.2.2) (fun d => (v.length - d.2.1).toNat) (fun e => AbI v u j e.1 v.length e.2) ?_ (0, 0, u) ⟨by simp, by simp, rfl, lu, by simp, rfl, by simp [nv]⟩
 rintro ⟨c, i, w⟩ h
 have h : AbI v u j c i w := h
 have h0 := h.i0
 have hlen := h.len
 show (∃ d', gZ v un j c i w = _ ∧ _) ∨ ∃ e, gZ v un j c i w = _ ∧ _
 unfold gZ
 by_cases hi : i < v.length
 ·left
  have hy := eI lv i.toNat
  have hw := eI h.lm (j + i.toNat)
  have hc := h.c1
  have k1 := Nat.div_add_mod (w.getD (j + i.toNat) 0 + v.getD i.toNat 0 + c) 18446744073709551616
  refine ⟨(_, _, _), ?_, aQX (d := (w.getD (j + i.toNat) 0 + v.getD i.toNat 0 + c) % 18446744073709551616) (c' := (w.getD (j + i.toNat) 0 + v.getD i.toNat 0 + c) / 18446744073709551616) (by omega) h hi (Nat.mod_lt _ (by decide)) (by omega) (by rw [Nat.add_comm]; exact k1), by simp only; omega⟩
  rw [if_pos hi]
  refine aB (by constructor <;> omega) (aB (by constructor <;> omega) (aB (by omega) (aB hc (aB (by constructor <;> omega) (aB (by omega) (aB (by constructor <;> omega) ?_))))))
  simp only [eU]
 ·right
  refine ⟨(c, w), by rw [if_neg hi], ?_⟩
  have e : i = v.length := by have := h.i1; omega
  rw [e] at h
  exact h
theorem aOi {w u : List Nat} {K : Nat} (lw : Lm w) (lu : Lm u) (h : w.drop K = u.drop K) (hu : nv u < 18446744073709551616 ^ K) : nv w < 18446744073709551616 ^ K := by
 have hp : 0 < 18446744073709551616 ^ K := Nat.pow_pos (by decide)
 have h1 := aCL lw K
 rw [h, aCL lu, Nat.div_eq_of_lt hu] at h1
 exact (Nat.div_eq_zero_iff_lt hp).1 h1.symm
theorem aQY {N N3 W x : Nat} {Q : Nat} (hW : 0 < W) (hQ : Q = N / W) (hx : Q ≤ x) (h : N3 + x * W = N) : x = Q ∧ N3 + Q * W = N := by
 have h1 : x ≤ N / W := (Nat.le_div_iff_mul_le hW).2 (by omega)
 have : x = Q := by omega
 subst this
 exact ⟨rfl, h⟩
theorem aSk {N N3 N4 N5 W x T S o4 c : Nat} {Q : Nat} (hQ : Q = N / W) (hx1 : Q ≤ x) (hx2 : x ≤ Q + 1) (h3 : N3 + x * W = N + T) (hT3 : N3 < T) (h4 : N4 + S * c = N3 + W) (h5 : N5 + S * o4 = N4 + S * ((o4 + c) % 18446744073709551616)) (hT5 : N5 < T) (hT : T = S * 18446744073709551616) (ho : o4 < 18446744073709551616) (hc : c ≤ 1) :
  x = Q + 1 ∧ N5 + Q * W = N := by
 have hle : Q * W ≤ N := by rw [hQ]; exact Nat.div_mul_le_self N W
 have hx : x = Q + 1 := by
  rcases Nat.lt_or_ge Q x with h | h
  ·omega
  ·have : x = Q := by omega
   subst this
   omega
 subst hx
 refine ⟨rfl, ?_⟩
 rw [Nat.add_mul, Nat.one_mul] at h3
 rcases Nat.lt_or_ge (o4 + c) 18446744073709551616 with h | h
 ·rw [Nat.mod_eq_of_lt h, Nat.mul_add] at h5
  omega
 ·have e : (o4 + c) % 18446744073709551616 = 0 := by omega
  have e2 : S * 18446744073709551616 = S * o4 + S * c := by rw [← Nat.mul_add]; congr 1; omega
  rw [e, Nat.mul_zero, Nat.add_zero] at h5
  omega
theorem aIh {v u : List Nat} {j un : Nat} (lv : Lm v) (lu : Lm u) (hn : 2 ≤ v.length) (hs : v.length ≤ 9000000000000) (hu : un = v.length + 1) (ho : j + un ≤ u.length)
  (hv : 9223372036854775808 ≤ v.getD (v.length - 1) 0) (hq : nv u < 18446744073709551616 ^ (j + 1) * nv v) :
  ∃ w, pD j un v u = some (nv u / (18446744073709551616 ^ j * nv v), w) ∧ w.length = u.length ∧ Lm w ∧ nv w + nv u / (18446744073709551616 ^ j * nv v) * (18446744073709551616 ^ j * nv v) = nv u := by
 have hVB := iG lv
 have hJ : 0 < 18446744073709551616 ^ j := Nat.pow_pos (by decide)
 have hX : nv u / 18446744073709551616 ^ j < 18446744073709551616 * nv v := (Nat.div_lt_iff_lt_mul hJ).2 (by rw [Nat.pow_succ, Nat.mul_assoc] at hq; rw [Nat.mul_comm]; exact hq)
 have hqq : nv u / 18446744073709551616 ^ j / nv v = nv u / (18446744073709551616 ^ j * nv v) := Nat.div_div_eq_div_mul _ _ _
 have hNT : nv u < 18446744073709551616 ^ (j + v.length + 1) := by
  refine Nat.lt_of_lt_of_le hq ?_
  rw [show j + v.length + 1 = j + 1 + v.length from by omega, Nat.pow_add _ (j + 1)]
  exact Nat.mul_le_mul_left _ (Nat.le_of_lt hVB)
 have hD : DgN (nv u / 18446744073709551616 ^ j) (nv v) (18446744073709551616 ^ (v.length - 2)) (v.getD (v.length - 1) 0) (v.getD (v.length - 2) 0) (u.getD (j + v.length) 0) (u.getD (j + (v.length - 1)) 0) (u.getD (j + (v.length - 2)) 0) := by
  refine ⟨Nat.pow_pos (by decide), ?_, ?_, hv, eI lv _, eI lv _, eI lu _, eI lu _, eI lu _, hX⟩
  ·have e1 : j + (v.length - 1) = j + (v.length - 2) + 1 := by omega
   have e2 : j + v.length = j + (v.length - 2) + 1 + 1 := by omega
   have hz : nv u / 18446744073709551616 ^ (j + (v.length - 2)) < 18446744073709551616 * 18446744073709551616 * 18446744073709551616 := by
    refine (Nat.div_lt_iff_lt_mul (Nat.pow_pos (by decide))).2 ?_
    rw [show j + v.length + 1 = j + (v.length - 2) + 1 + 1 + 1 from by omega, Nat.pow_succ, Nat.pow_succ, Nat.pow_succ] at hNT
    rw [Nat.mul_comm, ← Nat.mul_assoc, ← Nat.mul_assoc]
    exact hNT
   rw [mR lu, mR lu, mR lu, e1, e2, Nat.pow_succ, Nat.pow_succ, ← Nat.div_div_eq_div_mul, ← Nat.div_div_eq_div_mul, Nat.div_div_eq_div_mul _ (18446744073709551616 ^ j), ← Nat.pow_add]
   generalize nv u / 18446744073709551616 ^ (j + (v.length - 2)) = z at *
   omega
  ·have hz : nv v / 18446744073709551616 ^ (v.length - 2) < 18446744073709551616 * 18446744073709551616 := by
    refine (Nat.div_lt_iff_lt_mul (Nat.pow_pos (by decide))).2 ?_
    have h := hVB
    rw [show v.length = v.length - 2 + 1 + 1 from by omega, Nat.pow_succ, Nat.pow_succ] at h
    rw [Nat.mul_comm, ← Nat.mul_assoc]
    exact h
   rw [mR lv, mR lv, show v.length - 1 = v.length - 2 + 1 from by omega, Nat.pow_succ, ← Nat.div_div_eq_div_mul]
   generalize nv v / 18446744073709551616 ^ (v.length - 2) = z at *
   omega
 have e1 : ((v.length : Int) - 1).toNat = v.length - 1 := by omega
 rw [← hqq]
 have hV0 : 0 < nv v := by
  rcases Nat.eq_zero_or_pos (nv v) with h | h
  ·rw [h] at hq; simp at hq
  ·exact h
 have hW : 0 < 18446744073709551616 ^ j * nv v := Nat.mul_pos hJ hV0
 have main : ∀ x, nv u / 18446744073709551616 ^ j / nv v ≤ x → x ≤ nv u / 18446744073709551616 ^ j / nv v + 1 → x < 18446744073709551616 → ∃ w, nB v un j u x = some (nv u / 18446744073709551616 ^ j / nv v, w) ∧ w.length = u.length ∧ Lm w ∧ nv w + nv u / 18446744073709551616 ^ j / nv v * (18446744073709551616 ^ j * nv v) = nv u := by
  intro x hx1 hx2 hx3
  obtain ⟨⟨c, b, w⟩, m1, m2⟩ := aPb (j := j) lv hx3 hs hu ho lu
  have m2 : MsI v u x j c b v.length w := m2
  have hlen := m2.len
  have ho2 := eI m2.lm (j + v.length)
  have hc := m2.c1
  have hb := m2.b1
  have hrest := m2.rest
  have hsum := m2.sum
  rw [Int.toNat_natCast] at hrest hsum
  rw [List.take_length] at hsum
  have hset := wS (a := w) (k := j + v.length) (v := (w.getD (j + v.length) 0 + 18446744073709551616 - c - b) % 18446744073709551616) (by omega)
  have lw2 : Lm (w.set (j + v.length) ((w.getD (j + v.length) 0 + 18446744073709551616 - c - b) % 18446744073709551616)) := sU m2.lm _ (Nat.mod_lt _ (by decide))
  have hr2 : (w.set (j + v.length) ((w.getD (j + v.length) 0 + 18446744073709551616 - c - b) % 18446744073709551616)).drop (j + v.length + 1) = u.drop (j + v.length + 1) := by
   rw [drop_set]; exact tW hrest
  have hT3 := aOi lw2 lu hr2 hNT
  have hx : 18446744073709551616 ^ j * x * nv v = x * (18446744073709551616 ^ j * nv v) := by rw [Nat.mul_comm (18446744073709551616 ^ j) x, Nat.mul_assoc]
  rw [hx] at hsum
  unfold nB
  rw [m1]
  simp only [Option.bind_some]
  unfold qE
  by_cases hbo : w.getD (j + v.length) 0 < c + b
  ·
   have hd : (w.getD (j + v.length) 0 + 18446744073709551616 - c - b) % 18446744073709551616 + c + b = w.getD (j + v.length) 0 + 18446744073709551616 := by omega
   have h3 : nv (w.set (j + v.length) ((w.getD (j + v.length) 0 + 18446744073709551616 - c - b) % 18446744073709551616)) + x * (18446744073709551616 ^ j * nv v) = nv u + 18446744073709551616 ^ (j + v.length + 1) := by
    have e := congrArg (18446744073709551616 ^ (j + v.length) * ·) hd
    simp only [Nat.mul_add] at e hsum
    rw [Nat.pow_succ]
    omega
   have hb1 : ¬ (uN (w.getD (j + v.length) 0) c b).2.1 = 0 := by show ¬ (if w.getD (j + v.length) 0 < c + b then 1 else 0) = 0; rw [if_pos hbo]; decide
   have hl3 : (w.set (j + v.length) ((w.getD (j + v.length) 0 + 18446744073709551616 - c - b) % 18446744073709551616)).length = u.length := by rw [List.length_set]; exact hlen
   obtain ⟨w3, hw3⟩ : ∃ w3, w3 = w.set (j + v.length) ((w.getD (j + v.length) 0 + 18446744073709551616 - c - b) % 18446744073709551616) := ⟨_, rfl⟩
   have hw3' : w.set (j + v.length) (uN (w.getD (j + v.length) 0) c b).1 = w3 := hw3.symm
   rw [← hw3] at h3 hT3 lw2 hr2 hl3
   obtain ⟨⟨c4, w4⟩, n1, n2⟩ := aPc (u := w3) (j := j) lv hs hu (by omega) lw2
   have n2 : AbI v w3 j c4 v.length w4 := n2
   have hl4 := n2.len
   have ho4 := eI n2.lm (j + v.length)
   have hrest4 := n2.rest
   have hsum4 := n2.sum
   rw [Int.toNat_natCast] at hrest4 hsum4
   rw [List.take_length] at hsum4
   have hset4 := wS (a := w4) (k := j + v.length) (v := (w4.getD (j + v.length) 0 + c4) % 18446744073709551616) (by omega)
   have lw5 : Lm (w4.set (j + v.length) ((w4.getD (j + v.length) 0 + c4) % 18446744073709551616)) := sU n2.lm _ (Nat.mod_lt _ (by decide))
   have hr5 : (w4.set (j + v.length) ((w4.getD (j + v.length) 0 + c4) % 18446744073709551616)).drop (j + v.length + 1) = u.drop (j + v.length + 1) := by
    rw [drop_set, ← hr2]; exact tW hrest4
   have hT5 := aOi lw5 lu hr5 hNT
   obtain ⟨f1, f2⟩ := aSk hqq hx1 hx2 h3 hT3 hsum4 hset4 hT5 (Nat.pow_succ ..) ho4 n2.c1
   refine ⟨_, aB (by constructor <;> omega) (aB (by omega) (aB hb (aB (by constructor <;> omega) (aB (by omega) ?_)))), ?_, lw5, f2⟩
   ·refine (if_neg hb1).trans ?_
    rw [hw3']
    refine cE n1 ?_
    unfold qD
    refine aB (by constructor <;> omega) (aB (by simp only; omega) (aB (by constructor <;> omega) (aB (by simp only; omega) ?_)))
    rw [aLt hx3 (by rw [f1]; exact Nat.succ_le_succ (Nat.zero_le _)), f1, Nat.add_sub_cancel]
   ·rw [List.length_set]; omega
  ·have hd : (w.getD (j + v.length) 0 + 18446744073709551616 - c - b) % 18446744073709551616 + c + b = w.getD (j + v.length) 0 := by omega
   have h3 : nv (w.set (j + v.length) ((w.getD (j + v.length) 0 + 18446744073709551616 - c - b) % 18446744073709551616)) + x * (18446744073709551616 ^ j * nv v) = nv u := by
    have e := congrArg (18446744073709551616 ^ (j + v.length) * ·) hd
    simp only [Nat.mul_add] at e hsum
    omega
   have hb0 : (uN (w.getD (j + v.length) 0) c b).2.1 = 0 := if_neg hbo
   obtain ⟨f1, f2⟩ := aQY hW hqq hx1 h3
   refine ⟨_, aB (by constructor <;> omega) (aB (by omega) (aB hb (aB (by constructor <;> omega) (aB (by omega) ?_)))), ?_, lw2, f2⟩
   ·refine (if_pos hb0).trans ?_
    rw [f1]; rfl
   ·rw [List.length_set]; exact hlen
 have start : ∀ x rest over, DgL (v.getD (v.length - 1) 0) (u.getD (j + v.length) 0) (u.getD (j + (v.length - 1)) 0) (nv u / 18446744073709551616 ^ j / nv v) x rest over → ∃ w, kY v un j u x rest over = some (nv u / 18446744073709551616 ^ j / nv v, w) ∧ w.length = u.length ∧ Lm w ∧ nv w + nv u / 18446744073709551616 ^ j / nv v * (18446744073709551616 ^ j * nv v) = nv u := by
  intro x rest over hL
  obtain ⟨e, g1, g2, g3, g4⟩ := aQV hn hs hu ho hD hL
  obtain ⟨w, k1, k2⟩ := main e g2 g3 g4
  refine ⟨w, ?_, k2⟩
  unfold kY
  exact cE g1 k1
 have hu1 := eI lu (j + (v.length - 1))
 have hu2 := eI lu (j + v.length)
 have hv1 := eI lv (v.length - 1)
 have hge := aTw hD
 have hlt := aTx hD
 have hle := aTv hD
 unfold pD
 rw [e1]
 by_cases hc : u.getD (j + v.length) 0 < v.getD (v.length - 1) 0
 ·have hdm := Nat.div_add_mod (u.getD (j + v.length) 0 * 18446744073709551616 + u.getD (j + (v.length - 1)) 0) (v.getD (v.length - 1) 0)
  have hml := Nat.mod_lt (u.getD (j + v.length) 0 * 18446744073709551616 + u.getD (j + (v.length - 1)) 0) (show 0 < v.getD (v.length - 1) 0 by omega)
  have hdl : (u.getD (j + v.length) 0 * 18446744073709551616 + u.getD (j + (v.length - 1)) 0) / v.getD (v.length - 1) 0 < 18446744073709551616 := by
   refine (Nat.div_lt_iff_lt_mul (by omega)).2 ?_
   have := Nat.mul_le_mul_right 18446744073709551616 (show u.getD (j + v.length) 0 + 1 ≤ v.getD (v.length - 1) 0 from hc)
   rw [Nat.mul_comm 18446744073709551616]; omega
  obtain ⟨w, k1, k2⟩ := start _ _ 0 ⟨by rw [Nat.zero_mul, Nat.add_zero, Nat.mul_comm]; exact hdm, Nat.lt_trans hml hv1, by decide, hdl, hge⟩
  refine ⟨w, ?_, k2⟩
  refine aB (by constructor <;> omega) (aB (by omega) (aB (by constructor <;> omega) (aB (by constructor <;> omega) ?_)))
  refine (if_pos hc).trans ?_
  exact aB (by constructor <;> omega) (aB (by omega) (aB (by constructor <;> omega) (aB (by constructor <;> omega) (aB (by omega) (aB (by constructor <;> omega) (aB (by constructor <;> omega) (aB hc k1)))))))
 ·have hd := Nat.div_add_mod (u.getD (j + (v.length - 1)) 0 + v.getD (v.length - 1) 0 + 0) 18446744073709551616
  obtain ⟨w, k1, k2⟩ := start 18446744073709551615 ((u.getD (j + (v.length - 1)) 0 + v.getD (v.length - 1) 0 + 0) % 18446744073709551616) ((u.getD (j + (v.length - 1)) 0 + v.getD (v.length - 1) 0 + 0) / 18446744073709551616) ⟨by omega, Nat.mod_lt _ (by decide), by omega, by decide, by omega⟩
  refine ⟨w, ?_, k2⟩
  refine aB (by constructor <;> omega) (aB (by omega) (aB (by constructor <;> omega) (aB (by constructor <;> omega) ?_)))
  refine (if_neg hc).trans ?_
  exact aB (by constructor <;> omega) (aB (by constructor <;> omega) (aB (by omega) (aB (by constructor <;> omega) (aB (by constructor <;> omega) (aB (Nat.zero_le _) k1)))))
end Nu
end Go.Proofs
namespace Go.Proofs
open Go.Vc
set_option maxRecDepth 20000
namespace Nu
abbrev nS (a b : List Nat) : Prop := Nrm a ∧ Nrm b ∧ nv b ≠ 0 ∧ a.length ≤ 1099511627776
def bD (a b : List Nat) : List Nat × List Nat × Unit := (lb (nv a / nv b), lb (nv a % nv b), ())
noncomputable def oN (b_1 : (List Nat)) (u_11 : (List Nat)) (q_12 : (List Nat)) : Option (((List Nat) × ((List Nat) × Unit))) :=
 ck (0 ≤ (((b_1.length) : Nat) : Int) ∧ (((b_1.length) : Nat) : Int) ≤ (((u_11.length) : Nat) : Int)) (ck ((aDM (cK (List.take (b_1.length) u_11)) (aA (b_1.getD (((((b_1.length) : Nat) : Int) - (1 : Int)).toNat) (0 : Nat))))) (some ((cK q_12), (cH (cK (List.take (b_1.length) u_11)) (aA (b_1.getD (((((b_1.length) : Nat) : Int) - (1 : Int)).toNat) (0 : Nat)))), ())))
noncomputable def jX (b_1 : (List Nat)) (j_14 : Int) (u_15 : (List Nat)) (q_16 : (List Nat)) : Option ((Int × (List Nat) × (List Nat)) ⊕ (((List Nat) × (List Nat)))) :=
 if (0 : Int) ≤ j_14 then ck (I64 (j_14 + (((b_1.length) : Nat) : Int))) (ck (I64 ((j_14 + (((b_1.length) : Nat) : Int)) + (1 : Int))) (ck (0 ≤ j_14 ∧ j_14 < ((j_14 + (((b_1.length) : Nat) : Int)) + (1 : Int)) ∧ ((j_14 + (((b_1.length) : Nat) : Int)) + (1 : Int)) ≤ (((u_15.length) : Nat) : Int)) (((pD (j_14.toNat) ((((j_14 + (((b_1.length) : Nat) : Int)) + (1 : Int)) - j_14).toNat) (cS (bF b_1 (aA (b_1.getD (((((b_1.length) : Nat) : Int) - (1 : Int)).toNat) (0 : Nat)))) (((b_1.length) : Nat) : Int)) u_15)).bind (fun r_24 => ck (0 ≤ j_14 ∧ j_14 < (((q_16.length) : Nat) : Int)) (ck (I64 (j_14 - (1 : Int))) (some (.inl ((j_14 - (1 : Int)), (r_24.2), (q_16.set (j_14.toNat) (r_24.1)))))))))) else some (.inr (u_15, q_16))
noncomputable def tI (a_0 : (List Nat)) (b_1 : (List Nat)) : Option ((List Nat) × ((List Nat) × Unit)) :=
 ck ((aOb a_0 b_1)) (if (lH a_0 b_1) < (0 : Int) then ck ((aMO a_0)) (some (([] : List Nat), (id a_0), ())) else if (((b_1.length) : Nat) : Int) = (1 : Int) then ck ((0 : Int) < (((b_1.length) : Nat) : Int)) (ck ((aAV a_0 (b_1.getD (0 : Nat) (0 : Nat)))) (some (((oZ a_0 (b_1.getD (0 : Nat) (0 : Nat))).1), (((oZ a_0 (b_1.getD (0 : Nat) (0 : Nat))).2).1), ()))) else ck (I64 ((((b_1.length) : Nat) : Int) - (1 : Int))) (ck (0 ≤ ((((b_1.length) : Nat) : Int) - (1 : Int)) ∧ ((((b_1.length) : Nat) : Int) - (1 : Int)) < (((b_1.length) : Nat) : Int)) (ck ((aEo b_1 (aA (b_1.getD (((((b_1.length) : Nat) : Int) - (1 : Int)).toNat) (0 : Nat))))) (ck ((tH (bF b_1 (aA (b_1.getD (((((b_1.length) : Nat) : Int) - (1 : Int)).toNat) (0 : Nat)))) (((b_1.length) : Nat) : Int))) (ck ((aEo a_0 (aA (b_1.getD (((((b_1.length) : Nat) : Int) - (1 : Int)).toNat) (0 : Nat))))) (ck (I64 ((((a_0.length) : Nat) : Int) + (1 : Int))) (ck ((tH (bF a_0 (aA (b_1.getD (((((b_1.length) : Nat) : Int) - (1 : Int)).toNat) (0 : Nat)))) ((((a_0.length) : Nat) : Int) + (1 : Int)))) (ck (I64 ((((a_0.length) : Nat) : Int) - (((b_1.length) : Nat) : Int))) (ck (I64 (((((a_0.length) : Nat) : Int) - (((b_1.length) : Nat) : Int)) + (1 : Int))) (ck (0 ≤ (((((a_0.length) : Nat) : Int) - (((b_1.length) : Nat) : Int)) + (1 : Int))) (ck ((8 : Int) * (((((a_0.length) : Nat) : Int) - (((b_1.length) : Nat) : Int)) + (1 : Int)) ≤ 281474976710656) (ck (I64 ((((a_0.length) : Nat) : Int) - (((b_1.length) : Nat) : Int))) ((dC (fun d : Int × (List Nat) × (List Nat) => jX b_1 d.1 d.2.1 d.2.2) (((((a_0.length) : Nat) : Int) - (((b_1.length) : Nat) : Int)), (cS (bF a_0 (aA (b_1.getD (((((b_1.length) : Nat) : Int) - (1 : Int)).toNat) (0 : Nat)))) ((((a_0.length) : Nat) : Int) + (1 : Int))), (List.replicate ((((((a_0.length) : Nat) : Int) - (((b_1.length) : Nat) : Int)) + (1 : Int)).toNat) (0 : Nat)))).bind (fun e => oN b_1 e.1 e.2))))))))))))))
theorem aDP {a : List Nat} {n : Int} : nv (cS a n) = nv a := by
 unfold cS; rw [aDJ, aDK, Nat.mul_zero, Nat.add_zero]
theorem aGY {a : List Nat} {n : Int} (h : a.length ≤ n) : (cS a n).length = n.toNat := by
 unfold cS; rw [List.length_append, List.length_replicate]; omega
theorem aJu {a : List Nat} {n : Int} (h : Lm a) : Lm (cS a n) := aQD h (aDL _)
theorem aLW {b : List Nat} (lb' : Lm b) (hn : Nrm b) (h0 : nv b ≠ 0) : 0 < b.length ∧ 1 ≤ b.getD (b.length - 1) 0 ∧ b.getD (b.length - 1) 0 * 18446744073709551616 ^ (b.length - 1) ≤ nv b ∧ nv b < (b.getD (b.length - 1) 0 + 1) * 18446744073709551616 ^ (b.length - 1) := by
 have hne : b ≠ [] := fun e => h0 (by rw [e]; rfl)
 have hl : 0 < b.length := List.length_pos_iff.2 hne
 have hp : 0 < 18446744073709551616 ^ (b.length - 1) := Nat.pow_pos (by decide)
 have hge := aN9 hn hne
 have hlt := iG lb'
 have ht : b.getD (b.length - 1) 0 = nv b / 18446744073709551616 ^ (b.length - 1) := by
  rw [mR lb']
  refine Nat.mod_eq_of_lt ((Nat.div_lt_iff_lt_mul hp).2 ?_)
  rw [Nat.mul_comm, ← Nat.pow_succ, show (b.length - 1).succ = b.length from by omega]
  exact hlt
 rw [ht]
 exact ⟨hl, (Nat.le_div_iff_mul_le hp).2 (by omega), Nat.div_mul_le_self _ _, by rw [Nat.mul_comm]; exact Nat.lt_mul_div_succ _ hp⟩
theorem aPd {b : List Nat} (lb' : Lm b) (hn : Nrm b) (h0 : nv b ≠ 0) : nv b * 2 ^ (64 - bl (b.getD (b.length - 1) 0)) < 18446744073709551616 ^ b.length ∧ 9223372036854775808 * 18446744073709551616 ^ (b.length - 1) ≤ nv b * 2 ^ (64 - bl (b.getD (b.length - 1) 0)) := by
 obtain ⟨hl, h1, h2, h3⟩ := aLW lb' hn h0
 have hb := aO2 (eI lb' (b.length - 1))
 have hlow := aGF (x := b.getD (b.length - 1) 0) (by omega)
 have hlt := aCM (b.getD (b.length - 1) 0)
 have hpos := aB6 (x := b.getD (b.length - 1) 0) (by omega)
 generalize b.getD (b.length - 1) 0 = t at *
 have hp := Nat.two_pow_pos (64 - bl t)
 have e1 : 2 ^ bl t * 2 ^ (64 - bl t) = 18446744073709551616 := by rw [← Nat.pow_add, show bl t + (64 - bl t) = 64 from by omega]
 have e2 : 2 ^ (bl t - 1) * 2 ^ (64 - bl t) = 9223372036854775808 := by rw [← Nat.pow_add, show bl t - 1 + (64 - bl t) = 63 from by omega]
 constructor
 ·have k1 : (t + 1) * 2 ^ (64 - bl t) ≤ 18446744073709551616 := by rw [← e1]; exact Nat.mul_le_mul_right _ hlt
  have k2 := Nat.mul_lt_mul_of_pos_right h3 hp
  refine Nat.lt_of_lt_of_le k2 ?_
  rw [Nat.mul_right_comm, show 18446744073709551616 ^ b.length = 18446744073709551616 * 18446744073709551616 ^ (b.length - 1) from by rw [Nat.mul_comm, ← Nat.pow_succ]; congr 1; omega]
  exact Nat.mul_le_mul_right _ k1
 ·have k1 : 9223372036854775808 ≤ t * 2 ^ (64 - bl t) := by rw [← e2]; exact Nat.mul_le_mul_right _ hlow
  refine Nat.le_trans (Nat.mul_le_mul_right _ k1) ?_
  rw [Nat.mul_right_comm]
  exact Nat.mul_le_mul_right _ h2
structure QrI (m n V N : Nat) (j : Int) (u q : List Nat) : Prop where
 j0 : -1 ≤ j
 j1 : j ≤ m
 ul : u.length = m + n + 1
 lu : Lm u
 ql : q.length = m + 1
 lq : Lm q
 lt : nv u < 18446744073709551616 ^ (j + 1).toNat * V
 lo : ∃ t, nv q = 18446744073709551616 ^ (j + 1).toNat * t
 sum : nv q * V + nv u = N
theorem aQZ {m n V N : Nat} {j : Int} {u q w : List Nat} (h : QrI m n V N j u q) (hj : 0 ≤ j) (hw : w.length = u.length) (lw : Lm w) (hV : 0 < V)
  (e : nv w + nv u / (18446744073709551616 ^ j.toNat * V) * (18446744073709551616 ^ j.toNat * V) = nv u) : QrI m n V N (j - 1) w (q.set j.toNat (nv u / (18446744073709551616 ^ j.toNat * V))) := by
 have h1 := h.j1
 have hql := h.ql
 have hul := h.ul
 have e1 : (j + 1).toNat = j.toNat + 1 := by omega
 have e2 : (j - 1 + 1).toNat = j.toNat := by omega
 have hW : 0 < 18446744073709551616 ^ j.toNat * V := Nat.mul_pos (Nat.pow_pos (by decide)) hV
 have hlt := h.lt
 obtain ⟨t, ht⟩ := h.lo
 rw [e1] at hlt ht
 have hQ : nv u / (18446744073709551616 ^ j.toNat * V) < 18446744073709551616 := by
  refine (Nat.div_lt_iff_lt_mul hW).2 ?_
  rw [Nat.pow_succ, Nat.mul_comm (18446744073709551616 ^ j.toNat) 18446744073709551616, Nat.mul_assoc] at hlt
  exact hlt
 have hz : q.getD j.toNat 0 = 0 := by
  rw [mR h.lq, ht, Nat.pow_succ, Nat.mul_assoc, Nat.mul_div_cancel_left _ (Nat.pow_pos (by decide)), Nat.mul_mod_right]
 have hset := wS (a := q) (k := j.toNat) (v := nv u / (18446744073709551616 ^ j.toNat * V)) (by omega)
 rw [hz, Nat.mul_zero, Nat.add_zero] at hset
 have hwm : nv w = nv u % (18446744073709551616 ^ j.toNat * V) := by
  have d := Nat.div_add_mod (nv u) (18446744073709551616 ^ j.toNat * V)
  rw [Nat.mul_comm] at d
  omega
 refine ⟨by omega, by omega, by omega, lw, by rw [List.length_set]; exact hql, sU h.lq _ hQ, ?_, ?_, ?_⟩
 ·rw [e2, hwm]; exact Nat.mod_lt _ hW
 ·rw [e2, hset, ht, Nat.pow_succ, Nat.mul_assoc, ← Nat.mul_add]; exact ⟨_, rfl⟩
 ·have hs := h.sum
  rw [hset, Nat.add_mul, Nat.mul_right_comm, Nat.mul_comm (18446744073709551616 ^ j.toNat * V)]
  omega
theorem aGZ (a : List Nat) (wa : (Ty.sl (.u .u64)).wf a) (b : List Nat) (wb : (Ty.sl (.u .u64)).wf b) (hp : nS a b) : tI a b = some (bD a b) := by
 obtain ⟨na, nb, hb0, sa⟩ := hp
 have la := qN wa
 have lb' := qN wb
 obtain ⟨hl, t1, t2, t3⟩ := aLW lb' nb hb0
 obtain ⟨v1, v2⟩ := aPd lb' nb hb0
 have h64 := aO2 (eI lb' (b.length - 1))
 have hpos := aB6 (x := b.getD (b.length - 1) 0) (by omega)
 unfold tI
 refine aB ⟨na, nb⟩ (aAi (fun hc => ?_) (fun hc => aAi (fun h1 => ?_) (fun h1 => ?_)))
 ·have hlt : nv a < nv b := by
   unfold lH xW at hc
   split at hc
   ·assumption
   ·split at hc <;> omega
  unfold bD
  rw [Nat.div_eq_of_lt hlt, Nat.mod_eq_of_lt hlt, gF, aN8 la na]
  exact aB (by show a.length * 8 ≤ _; omega) rfl
 ·have hb1 : nv b = b.getD 0 0 := by
   match b, (show b.length = 1 by omega) with
   | [x], _ => rfl
  refine aB (by omega) (aB ⟨by rw [← hb1]; exact hb0, sa⟩ ?_)
  unfold oZ bD
  rw [← hb1]
 ·have hge : nv b ≤ nv a := by
   unfold lH xW at hc
   split at hc
   ·omega
   ·omega
  have hlen : b.length ≤ a.length := by
   rcases Nat.lt_or_ge a.length b.length with h | h
   ·exfalso
    have k1 := iG la
    have k2 : 18446744073709551616 ^ a.length ≤ 18446744073709551616 ^ (b.length - 1) := Nat.pow_le_pow_right (by decide) (by omega)
    have k3 := aN9 nb (fun e => hb0 (by rw [e]; rfl))
    omega
   ·exact h
  have e1 : ((b.length : Int) - 1).toNat = b.length - 1 := by omega
  rw [e1]
  have hs : (aA (b.getD (b.length - 1) 0)).toNat = 64 - bl (b.getD (b.length - 1) 0) := by unfold aA; omega
  have hs2 : 0 ≤ aA (b.getD (b.length - 1) 0) ∧ aA (b.getD (b.length - 1) 0) ≤ 63 := by unfold aA; omega
  have hLb : bF b (aA (b.getD (b.length - 1) 0)) = lb (nv b * 2 ^ (64 - bl (b.getD (b.length - 1) 0))) := by unfold bF; rw [hs]
  have hLa : bF a (aA (b.getD (b.length - 1) 0)) = lb (nv a * 2 ^ (64 - bl (b.getD (b.length - 1) 0))) := by unfold bF; rw [hs]
  have hs3 : 64 - bl (b.getD (b.length - 1) 0) ≤ 63 := by omega
  have hbl : (lb (nv b * 2 ^ (64 - bl (b.getD (b.length - 1) 0)))).length ≤ b.length := iM.2 v1
  have hal : (lb (nv a * 2 ^ (64 - bl (b.getD (b.length - 1) 0)))).length ≤ a.length + 1 := by
   refine iM.2 ?_
   rw [Nat.pow_succ]
   refine Nat.mul_lt_mul'' (iG la) ?_
   exact Nat.lt_of_le_of_lt (Nat.pow_le_pow_right (by decide) hs3) (by decide)
  have hn2 : 2 ≤ b.length := by omega
  obtain ⟨sI, hsI⟩ : ∃ sI, sI = aA (b.getD (b.length - 1) 0) := ⟨_, rfl⟩
  obtain ⟨s, hss⟩ : ∃ s, s = 64 - bl (b.getD (b.length - 1) 0) := ⟨_, rfl⟩
  rw [← hss] at v1 v2 hbl hal hLa hLb hs3 hs
  rw [← hsI] at hLa hLb hs2 hs
  rw [← hsI, hLa, hLb]
  have hV : 0 < nv b * 2 ^ s := Nat.mul_pos (by omega) (Nat.two_pow_pos s)
  have key := gU (step := fun d : Int × (List Nat) × (List Nat) => jX b d.1 d.2.1 d.2.2) (I := fun d => QrI (a.length - b.length) b.length (nv b * 2 ^ s) (nv a * 2 ^ s) d.1 d.2.1 d.2.2) (fun d => (d.1 + 1).toNat)
   (fun e => e.1.length = a.length + 1 ∧ Lm e.1 ∧ nv e.1 = nv a * 2 ^ s % (nv b * 2 ^ s) ∧ nv e.2 = nv a * 2 ^ s / (nv b * 2 ^ s)) ?_ ((a.length : Int) - (b.length : Int), cS (lb (nv a * 2 ^ s)) ((a.length : Int) + 1), List.replicate (((a.length : Int) - (b.length : Int)) + 1).toNat 0) ?_
  ·obtain ⟨e, h2, h3, h4, h5, h6⟩ := key
   refine aB (by constructor <;> omega) (aB (by constructor <;> omega) (aB ⟨(by show b.length ≤ _; omega), by omega, by omega⟩ (aB (by constructor <;> omega) (aB ⟨sa, by omega, by omega⟩ (aB (by constructor <;> omega) (aB (by constructor <;> omega) (aB (by constructor <;> omega) (aB (by constructor <;> omega) (aB (by omega) (aB (by omega) (aB (by constructor <;> omega) (cE h2 ?_))))))))))))
   have hm : nv e.1 < nv b * 2 ^ s := by rw [h5]; exact Nat.mod_lt _ hV
   have htk : nv (e.1.take b.length) = nv e.1 := by
    rw [aR6 h4]; exact Nat.mod_eq_of_lt (Nat.lt_trans hm v1)
   have htr : cK (e.1.take b.length) = lb (nv e.1) := by rw [cK, htk]
   unfold oN
   rw [e1, ← hsI, htr]
   refine aB (by constructor <;> omega) (aB ⟨?_, hs2.1⟩ ?_)
   ·have := iM.2 (Nat.lt_trans hm v1)
    show (lb (nv e.1)).length ≤ _
    omega
   ·unfold bD cH
    rw [cK, h6, dV, hs, h5, Nat.mul_div_mul_right _ _ (Nat.two_pow_pos s), Nat.mul_mod_mul_right, Nat.mul_div_cancel _ (Nat.two_pow_pos s)]
  ·rintro ⟨j, u, q⟩ h
   have h : QrI (a.length - b.length) b.length (nv b * 2 ^ s) (nv a * 2 ^ s) j u q := h
   have i0 := h.j0
   have i1 := h.j1
   have hul := h.ul
   have hql := h.ql
   show (∃ d', jX b j u q = _ ∧ _) ∨ ∃ e, jX b j u q = _ ∧ _
   unfold jX
   rw [e1, ← hsI, hLb]
   by_cases hj : 0 ≤ j
   ·left
    have hvl : (cS (lb (nv b * 2 ^ s)) (b.length : Int)).length = b.length := by rw [aGY (by omega), Int.toNat_natCast]
    have hvv : nv (cS (lb (nv b * 2 ^ s)) (b.length : Int)) = nv b * 2 ^ s := by rw [aDP, dV]
    have lv : Lm (cS (lb (nv b * 2 ^ s)) (b.length : Int)) := aJu (uQ _)
    have htop : 9223372036854775808 ≤ (cS (lb (nv b * 2 ^ s)) (b.length : Int)).getD (b.length - 1) 0 := by
     have hp : 0 < 18446744073709551616 ^ (b.length - 1) := Nat.pow_pos (by decide)
     rw [mR lv, hvv, Nat.mod_eq_of_lt ((Nat.div_lt_iff_lt_mul hp).2 (by rw [← Nat.pow_succ', show (b.length - 1).succ = b.length from by omega]; exact v1))]
     exact (Nat.le_div_iff_mul_le hp).2 v2
    have hlt := h.lt
    rw [show (j + 1).toNat = j.toNat + 1 from by omega] at hlt
    obtain ⟨w, k1, k2, k3, k4⟩ := aIh (v := cS (lb (nv b * 2 ^ s)) (b.length : Int)) (u := u) (j := j.toNat) (un := ((j + (b.length : Int)) + 1 - j).toNat) lv h.lu (by rw [hvl]; exact hn2) (by rw [hvl]; omega) (by rw [hvl]; omega) (by omega) (by rw [hvl]; exact htop) (by rw [hvv]; exact hlt)
    rw [hvv] at k1 k4
    refine ⟨(j - 1, w, q.set j.toNat (nv u / (18446744073709551616 ^ j.toNat * (nv b * 2 ^ s)))), ?_, aQZ h hj k2 k3 hV k4, by simp only; omega⟩
    rw [if_pos hj]
    exact aB (by constructor <;> omega) (aB (by constructor <;> omega) (aB (by constructor <;> omega) (cE k1 (aB (by constructor <;> omega) (aB (by constructor <;> omega) rfl)))))
   ·right
    have hj1 : (j + 1).toNat = 0 := by omega
    have hlt := h.lt
    rw [hj1, Nat.pow_zero, Nat.one_mul] at hlt
    have hs4 := h.sum
    refine ⟨(u, q), by rw [if_neg hj], by simp only; omega, h.lu, ?_, ?_⟩
    ·simp only
     rw [← hs4, Nat.add_comm, Nat.add_mul_mod_self_right, Nat.mod_eq_of_lt hlt]
    ·simp only
     rw [← hs4, Nat.add_comm, Nat.add_mul_div_right _ _ hV, Nat.div_eq_of_lt hlt, Nat.zero_add]
  ·have ej : ((a.length : Int) - (b.length : Int) + 1).toNat = a.length - b.length + 1 := by omega
   refine ⟨by simp only; omega, by simp only; omega, ?_, aJu (uQ _), ?_, aDL _, ?_, ⟨0, ?_⟩, ?_⟩
   ·simp only; rw [aGY (by omega)]; omega
   ·simp only; rw [List.length_replicate]; omega
   ·simp only
    rw [aDP, dV, ej]
    have k1 := iG la
    have k2 : 2 ^ s ≤ 2 ^ 63 := Nat.pow_le_pow_right (by decide) hs3
    refine Nat.lt_of_lt_of_le (Nat.mul_lt_mul_of_pos_right k1 (Nat.two_pow_pos s)) ?_
    refine Nat.le_trans (Nat.mul_le_mul_left _ k2) ?_
    refine Nat.le_trans ?_ (Nat.mul_le_mul_left _ v2)
    rw [Nat.mul_left_comm, ← Nat.pow_add, show a.length - b.length + 1 + (b.length - 1) = a.length from by omega, Nat.mul_comm]
    exact Nat.le_refl _
   ·simp only; rw [aDK, Nat.mul_zero]
   ·simp only; rw [aDK, Nat.zero_mul, Nat.zero_add, aDP, dV]
end Nu
end Go.Proofs
namespace Go.Proofs
open Go.Vc
set_option maxRecDepth 20000
namespace Nu
def aBL : PlR := ⟨[(0, .A [0, 1]), (1, .B [4])], []⟩
def zQ : Ty := .pair (.sl (.u .u64)) (.pair (.i .i64) .unit)
noncomputable def rP : aL := ⟨zQ, .own 54 (.u .u64), fun x => tH x.1 x.2.1, fun x => cS x.1 x.2.1⟩
attribute [go_sem] rP zQ
noncomputable def aIi : aL := mSpec zQ (.own 54 (.u .u64)) (fun x => qC x.1 x.2.1)
noncomputable def aCZ : List (FuncId × aL) := [(120, bN)]
theorem aKt : bW Tryz.prog GL aCZ := .cons fK (by kernel_rfl) (.nil)
theorem aDQ : gam aCZ 120 = some bN := rfl
attribute [go_sem] aBL aDQ
set_option maxHeartbeats 4000000 in
theorem aIj : FOK Tryz.prog GL 123 aIi := by
 refine cG (bI aKt) mix Tryz.func123 rfl (by kernel_rfl) (by decide) aBL fun w0 S x Θ hw h hF => ?_
 obtain ⟨(a_0 : (List Nat)), (n_1 : Int), u⟩ := x
 simp only [cF, go_sem]
 replace h : sat (qC a_0 n_1) _ := h
 unfold qC at h
 refine aM h fun g0 h => ?_
 refine aM h fun g0 h => ?_
 obtain ⟨g0, h⟩ := aI h
 obtain ⟨g1, h⟩ := aI h
 repeat (refine ⟨by omega, ?_⟩)
 exact aS hF [.tmp 4] rfl rfl rfl (aC h) (by simp only [bA, go_sem])
theorem aIk : FOK Tryz.prog GL 123 rP := dU aIj (fun ⟨x0, x1, u⟩ ⟨w0, w1, wu⟩ hp => aGX x0 w0 x1 w1 hp)
noncomputable def tJ : lG where
 D := Nat × Nat × (List Nat) × (List Nat) × ((Nat × (List Nat)))
 av := fun d => [.sub 0 1 d.1 d.2.1, .val (.sl (.u .u64)) d.2.2.1]
 hp := fun d => [.row 54 (.u .u64) d.2.2.2.1]
 m := 1
 pre := fun d => pD d.1 d.2.1 d.2.2.1 d.2.2.2.1 = some d.2.2.2.2
 out := fun d => (fun r : (Nat × (List Nat)) => .ret (.val (.u .u64) r.1) [.row 54 (.u .u64) (r.2)]) d.2.2.2.2
noncomputable def pE : List (FuncId × aL) := [(126, iT), (127, iS), (157, mF), (159, rN)]
theorem aEC : bW Tryz.prog GL pE := .cons wU (by kernel_rfl) (.nat wQ (.cons aBJ (by kernel_rfl) (.nat aH2 (.nil))))
theorem aFg : gam pE 126 = some iT := rfl
attribute [go_sem] aFg
theorem aFh : gam pE 127 = some iS := rfl
attribute [go_sem] aFh
theorem aFi : gam pE 157 = some mF := rfl
attribute [go_sem] aFi
theorem aFj : gam pE 159 = some rN := rfl
attribute [go_sem] aFj
set_option maxHeartbeats 4000000 in
theorem aKu : GOK Tryz.prog GL 124 tJ := by
 refine oF (bI aEC) Tryz.func124 rfl (by kernel_rfl) (fun _ => Nat.le_of_ble_eq_true rfl) fun c0 w0 d hw1 hw2 h hn => ?_
 have hF : jB ⟨Tryz.prog, EM pE, GM tJ c0 d, w0, Tryz.f124.ntmps, []⟩ := ⟨bI aEC, mix⟩
 obtain ⟨(uo_0 : Nat), (un_0 : Nat), (v_1 : (List Nat)), (o0_2 : (List Nat)), r⟩ := d
 replace h : pD uo_0 un_0 v_1 o0_2 = some r := h
 have hw1 : AV.wfL [.sub 0 1 uo_0 un_0, .val (.sl (.u .u64)) v_1] := hw1
 simp only [AV.wfL, AV.wfV, Ty.wf, mJ] at hw1
 show Tri _ _ _ [(0, .sub 0 1 uo_0 un_0), (1, .val (.sl (.u .u64)) v_1)] [.row 54 (.u .u64) o0_2]
 unfold pD at h
 refine aD (aG hF [0, 1] ?_)
 simp only [go_sem]
 refine aF (aD (aG hF [0, 1, 5] ?_))
 simp only [go_sem]
 refine aF (aD (aG hF [0, 1, 5, 6, 8] ?_))
 simp only [go_sem]
 refine aF (jW (D := Nat × Nat × Nat) (fun d => kY v_1 un_0 uo_0 o0_2 d.1 d.2.1 d.2.2 = some r) [1, 5] (fun d => [(0, .sub 0 1 uo_0 un_0), (6, .val (.u .u64) d.1), (7, .val (.u .u64) d.2.1), (8, .val (.u .u64) d.2.2)]) (fun d => [.inr (.row 54 (.u .u64) o0_2)]) ?_ ?_)
 ·refine aD (aG hF [0, 1, 5, 6, 8, 31] ?_)
  simp only [go_sem]
  obtain ⟨g0, h⟩ := aH h
  obtain ⟨g1, h⟩ := aH h
  obtain ⟨g2, h⟩ := aH h
  obtain ⟨g3, h⟩ := aH h
  try simp only [I64, I32] at g2
  repeat (refine ⟨by first | with_reducible assumption | omega | (intros; first | assumption | omega) | (simp only [go_sem] at *; first | assumption | omega) | decide, ?_⟩)
  refine aF (bV rfl (fun hc => ?_) (fun hc => ?_))
  ·try simp only [go_sem] at hc
   have h := fR (by first | exact hc | omega | (simpa using hc) | (simp at hc ⊢; omega)) h
   refine aG hF [0, 1, 5, 6, 7, 8] ?_
   simp only [go_sem]
   obtain ⟨g0, h⟩ := aH h
   obtain ⟨g1, h⟩ := aH h
   obtain ⟨g2, h⟩ := aH h
   obtain ⟨g3, h⟩ := aH h
   obtain ⟨g4, h⟩ := aH h
   obtain ⟨g5, h⟩ := aH h
   obtain ⟨g6, h⟩ := aH h
   obtain ⟨g7, h⟩ := aH h
   try simp only [I64, I32] at g2
   try simp only [I64, I32] at g5
   repeat (refine ⟨by first | with_reducible assumption | omega | (intros; first | assumption | omega) | (simp only [go_sem] at *; first | assumption | omega) | decide, ?_⟩)
   refine bG (aY ((((iN (o0_2.getD (uo_0 + (v_1.length)) (0 : Nat)) (o0_2.getD (uo_0 + (((((v_1.length) : Nat) : Int) - (1 : Int)).toNat)) (0 : Nat)) (v_1.getD (((((v_1.length) : Nat) : Int) - (1 : Int)).toNat) (0 : Nat))).1), (((iN (o0_2.getD (uo_0 + (v_1.length)) (0 : Nat)) (o0_2.getD (uo_0 + (((((v_1.length) : Nat) : Int) - (1 : Int)).toNat)) (0 : Nat)) (v_1.getD (((((v_1.length) : Nat) : Int) - (1 : Int)).toNat) (0 : Nat))).2).1), (0 : Nat))) h rfl ?_)
   ·(try simp only [kH, fO, true_or, and_self, go_sem]) <;> (repeat' apply And.intro) <;> first | rfl | (left; rfl) | (right; rfl) | (left; simp only [go_sem]; done) | (right; simp only [go_sem]; done) | (simp; done) | (simp only [*]; done) | omega
  ·try simp only [go_sem] at hc
   have h := fS (by first | exact hc | omega | (simpa using hc) | (simp at hc ⊢; omega)) h
   refine aG hF [0, 1, 5, 6, 7, 8] ?_
   simp only [go_sem]
   obtain ⟨g0, h⟩ := aH h
   obtain ⟨g1, h⟩ := aH h
   obtain ⟨g2, h⟩ := aH h
   obtain ⟨g3, h⟩ := aH h
   obtain ⟨g4, h⟩ := aH h
   obtain ⟨g5, h⟩ := aH h
   try simp only [I64, I32] at g0
   try simp only [I64, I32] at g3
   repeat (refine ⟨by first | with_reducible assumption | omega | (intros; first | assumption | omega) | (simp only [go_sem] at *; first | assumption | omega) | decide, ?_⟩)
   refine bG (aY (((18446744073709551615 : Nat), ((eU (o0_2.getD (uo_0 + (((((v_1.length) : Nat) : Int) - (1 : Int)).toNat)) (0 : Nat)) (v_1.getD (((((v_1.length) : Nat) : Int) - (1 : Int)).toNat) (0 : Nat)) (0 : Nat)).1), (((eU (o0_2.getD (uo_0 + (((((v_1.length) : Nat) : Int) - (1 : Int)).toNat)) (0 : Nat)) (v_1.getD (((((v_1.length) : Nat) : Int) - (1 : Int)).toNat) (0 : Nat)) (0 : Nat)).2).1))) h rfl ?_)
   ·(try simp only [kH, fO, true_or, and_self, go_sem]) <;> (repeat' apply And.intro) <;> first | rfl | (left; rfl) | (right; rfl) | (left; simp only [go_sem]; done) | (right; simp only [go_sem]; done) | (simp; done) | (simp only [*]; done) | omega
 ·rintro ⟨x_4, rest_5, over_6⟩ h
  try dsimp only at h
  simp only [go_sem]
  unfold kY at h
  refine jW (D := Nat) (fun d => nB v_1 un_0 uo_0 o0_2 d = some r) [1, 5] (fun d => [(0, .sub 0 1 uo_0 un_0), (6, .val (.u .u64) d)]) (fun d => [.inr (.row 54 (.u .u64) o0_2)]) ?_ ?_
  ·refine gP (xR (D := Nat × Nat × Nat) [1, 5] (fun d => [(0, .sub 0 1 uo_0 un_0), (6, .val (.u .u64) d.1), (7, .val (.u .u64) d.2.1), (8, .val (.u .u64) d.2.2)]) (fun d => [.inr (.row 54 (.u .u64) o0_2)]) h ?_ ?_ ?_)
   ·first | rfl | (simp only [go_sem]; done)
   ·(try simp only [kH, fO, true_or, and_self, go_sem]) <;> (repeat' apply And.intro) <;> first | rfl | (left; rfl) | (right; rfl) | (left; simp only [go_sem]; done) | (right; simp only [go_sem]; done) | (simp; done) | (simp only [*]; done) | omega
   rintro ⟨x_52, rest_53, over_54⟩ s6 h hs6
   simp only [go_sem]
   try dsimp only at h
   unfold jI at h
   refine aD (aD (aG hF [0, 1, 5, 6, 7, 65] ?_))
   simp only [go_sem]
   refine aF (bV rfl (fun hc => ?_) (fun hc => ?_))
   ·try simp only [go_sem] at hc
    have h := fR (by first | exact hc | omega | (simpa using hc) | (simp at hc ⊢; omega)) h
    refine cJ (aF (gP (aD (aG hF [0, 1, 5, 6, 7, 9, 10] ?_))))
    simp only [go_sem]
    obtain ⟨g0, h⟩ := aH h
    obtain ⟨g1, h⟩ := aH h
    try simp only [I64, I32] at g0
    repeat (refine ⟨by first | with_reducible assumption | omega | (intros; first | assumption | omega) | (simp only [go_sem] at *; first | assumption | omega) | decide, ?_⟩)
    refine aF (aD (aD (aG hF [0, 1, 5, 6, 7, 92] ?_)))
    simp only [go_sem]
    obtain ⟨g0, h⟩ := aH h
    obtain ⟨g1, h⟩ := aH h
    try simp only [I64, I32] at g0
    repeat (refine ⟨by first | with_reducible assumption | omega | (intros; first | assumption | omega) | (simp only [go_sem] at *; first | assumption | omega) | (intro q0 q1; (try have e0 := g0 (by first | exact q0 | omega | (simpa using q0)) (by first | exact q1 | omega | (simpa using q1))); (try have e1 := g1 (by first | exact q0 | omega | (simpa using q0)) (by first | exact q1 | omega | (simpa using q1))); first | assumption | omega) | (rintro ⟨q0, q1⟩; (try have e0 := g0 (by first | exact q0 | omega | (simpa using q0)) (by first | exact q1 | omega | (simpa using q1))); (try have e1 := g1 (by first | exact q0 | omega | (simpa using q0)) (by first | exact q1 | omega | (simpa using q1))); first | assumption | omega) | decide, ?_⟩)
    refine aF (bV rfl (fun hc => ?_) (fun hc => ?_))
    ·try simp only [go_sem] at hc
     have h := fR (by first | exact hc | omega | (simpa using hc) | (simp at hc ⊢; omega)) h
     obtain rfl := Option.some.inj h
     dsimp only [uM] at hs6
     have h := hs6
     try dsimp only at h
     refine uI (eP (uJ (by decide) (eP (iR (bG (aY (x_52) h rfl ?_))))))
     ·(try simp only [kH, fO, true_or, and_self, go_sem]) <;> (repeat' apply And.intro) <;> first | rfl | (left; rfl) | (right; rfl) | (left; simp only [go_sem]; done) | (right; simp only [go_sem]; done) | (simp; done) | (simp only [*]; done) | omega
    ·try simp only [go_sem] at hc
     have h := fS (by first | exact hc | omega | (simpa using hc) | (simp at hc ⊢; omega)) h
     refine cJ (aF (aD (aG hF [0, 1, 5, 6, 7] ?_)))
     simp only [go_sem]
     refine aF (aG hF [0, 1, 5, 6, 7, 8] ?_)
     simp only [go_sem]
     obtain ⟨g0, h⟩ := aH h
     obtain ⟨g1, h⟩ := aH h
     obtain ⟨g2, h⟩ := aH h
     try simp only [I64, I32] at g0
     repeat (refine ⟨by first | with_reducible assumption | omega | (intros; first | assumption | omega) | (simp only [go_sem] at *; first | assumption | omega) | decide, ?_⟩)
     obtain rfl := Option.some.inj h
     dsimp only [uM] at hs6
     refine gE (bG (aY (((iD .u64 x_52 (1 : Nat)), ((eU rest_53 (v_1.getD (((((v_1.length) : Nat) : Int) - (1 : Int)).toNat) (0 : Nat)) (0 : Nat)).1), (((eU rest_53 (v_1.getD (((((v_1.length) : Nat) : Int) - (1 : Int)).toNat) (0 : Nat)) (0 : Nat)).2).1))) hs6 rfl ?_))
     ·(try simp only [kH, fO, true_or, and_self, go_sem]) <;> (repeat' apply And.intro) <;> first | rfl | (left; rfl) | (right; rfl) | (left; simp only [go_sem]; done) | (right; simp only [go_sem]; done) | (simp; done) | (simp only [*]; done) | omega
   ·try simp only [go_sem] at hc
    have h := fS (by first | exact hc | omega | (simpa using hc) | (simp at hc ⊢; omega)) h
    obtain rfl := Option.some.inj h
    dsimp only [uM] at hs6
    have h := hs6
    try dsimp only at h
    refine uI (eP (eP (iR (bG (aY (x_52) h rfl ?_)))))
    ·(try simp only [kH, fO, true_or, and_self, go_sem]) <;> (repeat' apply And.intro) <;> first | rfl | (left; rfl) | (right; rfl) | (left; simp only [go_sem]; done) | (right; simp only [go_sem]; done) | (simp; done) | (simp only [*]; done) | omega
  ·rintro x_13 h
   try dsimp only at h
   simp only [go_sem]
   unfold nB at h
   refine aD (aG hF [0, 1, 5, 6, 11, 12] ?_)
   simp only [go_sem]
   refine aF (jW (D := Nat × Nat × (List Nat)) (fun d => qE v_1 un_0 uo_0 x_13 d.1 d.2.1 d.2.2 = some r) [1, 5, 6] (fun d => [(0, .sub 0 1 uo_0 un_0), (11, .val (.u .u64) d.1), (12, .val (.u .u64) d.2.1)]) (fun d => [.inr (.row 54 (.u .u64) d.2.2)]) ?_ ?_)
   ·refine aD (aG hF [0, 1, 5, 6, 11, 12, 105, 106, 107] ?_)
    simp only [go_sem]
    refine aF (gP (xR (D := Nat × Nat × Int × (List Nat)) [1, 5, 6, 105, 106] (fun d => [(0, .sub 0 1 uo_0 un_0), (11, .val (.u .u64) d.1), (12, .val (.u .u64) d.2.1), (107, .val (.i .i64) d.2.2.1)]) (fun d => [.inr (.row 54 (.u .u64) d.2.2.2)]) h ?_ ?_ ?_))
    ·first | rfl | (simp only [go_sem]; done)
    ·(try simp only [kH, fO, true_or, and_self, go_sem]) <;> (repeat' apply And.intro) <;> first | rfl | (left; rfl) | (right; rfl) | (left; simp only [go_sem]; done) | (right; simp only [go_sem]; done) | (simp; done) | (simp only [*]; done) | omega
    rintro ⟨carry_41, borrow_42, x107_43, u_44⟩ s13 h hs13
    simp only [go_sem]
    try dsimp only at h
    unfold hO at h
    refine aD (aG hF [0, 1, 5, 6, 11, 12, 105, 106, 107, 108] ?_)
    simp only [go_sem]
    refine aF (aD (bV rfl (fun hc => ?_) (fun hc => ?_)))
    ·try simp only [go_sem] at hc
     have h := fR (by first | exact hc | omega | (simpa using hc) | (simp at hc ⊢; omega)) h
     refine cJ (aF (aD (gP (aD (aG hF [0, 1, 5, 6, 11, 12, 13, 14, 105, 106, 107] ?_)))))
     simp only [go_sem]
     obtain ⟨g0, h⟩ := aH h
     repeat (refine ⟨by first | with_reducible assumption | omega | (intros; first | assumption | omega) | (simp only [go_sem] at *; first | assumption | omega) | decide, ?_⟩)
     refine aF (aD (aG hF [0, 1, 5, 6, 11, 12, 13, 15, 16, 105, 106, 107] ?_))
     simp only [go_sem]
     refine aF (aD (aG hF [0, 1, 5, 6, 11, 12, 13, 15, 16, 105, 106, 107] ?_))
     simp only [go_sem]
     refine aF (aD (aG hF [0, 1, 5, 6, 12, 13, 15, 16, 17, 105, 106, 107] ?_))
     simp only [go_sem]
     obtain ⟨g0, h⟩ := aH h
     repeat (refine ⟨by first | with_reducible assumption | omega | (intros; first | assumption | omega) | (simp only [go_sem] at *; first | assumption | omega) | decide, ?_⟩)
     refine aF (aD (aG hF [0, 1, 5, 6, 11, 12, 13, 16, 105, 106, 107] ?_))
     simp only [go_sem]
     refine aF (bO hF [0, 1, 5, 6, 11, 12, 105, 106, 107] ?_)
     simp only [go_sem]
     obtain ⟨g0, h⟩ := aH h
     obtain ⟨g1, h⟩ := aH h
     repeat (refine ⟨by first | with_reducible assumption | omega | (intros; first | assumption | omega) | (simp only [go_sem] at *; first | assumption | omega) | decide, ?_⟩)
     obtain ⟨g0, h⟩ := aH h
     repeat (refine ⟨by first | with_reducible assumption | omega | (intros; first | assumption | omega) | (simp only [go_sem] at *; first | assumption | omega) | decide, ?_⟩)
     obtain ⟨g0, h⟩ := aH h
     obtain ⟨g1, h⟩ := aH h
     repeat (refine ⟨by first | with_reducible assumption | omega | (intros; first | assumption | omega) | (simp only [go_sem] at *; first | assumption | omega) | decide, ?_⟩)
     refine gE (aF (aG hF [0, 1, 5, 6, 11, 12, 105, 106, 107] ?_))
     simp only [go_sem]
     obtain ⟨g0, h⟩ := aH h
     try simp only [I64, I32] at g0
     repeat (refine ⟨by first | with_reducible assumption | omega | (intros; first | assumption | omega) | (simp only [go_sem] at *; first | assumption | omega) | decide, ?_⟩)
     obtain rfl := Option.some.inj h
     dsimp only [uM] at hs13
     refine bG (aY ((((((bH x_13 (v_1.getD (x107_43.toNat) (0 : Nat))).1) + (((eU (((bH x_13 (v_1.getD (x107_43.toNat) (0 : Nat))).2).1) carry_41 (0 : Nat)).2).1)) % 18446744073709551616), (((uN (u_44.getD (uo_0 + (x107_43.toNat)) (0 : Nat)) ((eU (((bH x_13 (v_1.getD (x107_43.toNat) (0 : Nat))).2).1) carry_41 (0 : Nat)).1) borrow_42).2).1), (x107_43 + (1 : Int)), (u_44.set (uo_0 + (x107_43.toNat)) ((uN (u_44.getD (uo_0 + (x107_43.toNat)) (0 : Nat)) ((eU (((bH x_13 (v_1.getD (x107_43.toNat) (0 : Nat))).2).1) carry_41 (0 : Nat)).1) borrow_42).1)))) hs13 rfl ?_)
     ·(try simp only [kH, fO, true_or, and_self, go_sem]) <;> (repeat' apply And.intro) <;> first | rfl | (left; rfl) | (right; rfl) | (left; simp only [go_sem]; done) | (right; simp only [go_sem]; done) | (simp; done) | (simp only [*]; done) | omega
    ·try simp only [go_sem] at hc
     have h := fS (by first | exact hc | omega | (simpa using hc) | (simp at hc ⊢; omega)) h
     obtain rfl := Option.some.inj h
     dsimp only [uM] at hs13
     have h := hs13
     try dsimp only at h
     refine uI (eP (eP (iR (bG (aY ((carry_41, borrow_42, u_44)) h rfl ?_)))))
     ·(try simp only [kH, fO, true_or, and_self, go_sem]) <;> (repeat' apply And.intro) <;> first | rfl | (left; rfl) | (right; rfl) | (left; simp only [go_sem]; done) | (right; simp only [go_sem]; done) | (simp; done) | (simp only [*]; done) | omega
   ·rintro ⟨carry_22, borrow_23, u_24⟩ h
    try dsimp only at h
    simp only [go_sem]
    unfold qE at h
    refine aD (aD (bO hF [0, 1, 5, 6, 12] ?_))
    simp only [go_sem]
    obtain ⟨g0, h⟩ := aH h
    obtain ⟨g1, h⟩ := aH h
    repeat (refine ⟨by first | with_reducible assumption | omega | (intros; first | assumption | omega) | (simp only [go_sem] at *; first | assumption | omega) | decide, ?_⟩)
    obtain ⟨g0, h⟩ := aH h
    repeat (refine ⟨by first | with_reducible assumption | omega | (intros; first | assumption | omega) | (simp only [go_sem] at *; first | assumption | omega) | decide, ?_⟩)
    obtain ⟨g0, h⟩ := aH h
    obtain ⟨g1, h⟩ := aH h
    repeat (refine ⟨by first | with_reducible assumption | omega | (intros; first | assumption | omega) | (simp only [go_sem] at *; first | assumption | omega) | decide, ?_⟩)
    refine aF (aD (aG hF [0, 1, 5, 6, 155] ?_))
    simp only [go_sem]
    refine aF (bV rfl (fun hc => ?_) (fun hc => ?_))
    ·try simp only [go_sem] at hc
     have h := fR (by first | exact hc | omega | (simpa using hc) | (simp at hc ⊢; omega)) h
     refine aD (aG hF [4] ?_)
     simp only [go_sem]
     obtain rfl := Option.some.inj h
     refine aF (cW (dI (tD hF [.tmp 4] rfl rfl rfl rfl rfl rfl ?_)))
     (try simp only [bA, xQ, wO, fO, lN, AV.isAgg, go_sem]) <;> first | trivial | rfl | (simp; done)
    ·try simp only [go_sem] at hc
     have h := fS (by first | exact hc | omega | (simpa using hc) | (simp at hc ⊢; omega)) h
     refine cJ (aF (aD (aG hF [0, 1, 5, 6, 11] ?_)))
     simp only [go_sem]
     refine aF (jW (D := Nat × (List Nat)) (fun d => qD v_1 un_0 uo_0 x_13 d.1 d.2 = some r) [5, 6] (fun d => [(0, .sub 0 1 uo_0 un_0), (11, .val (.u .u64) d.1)]) (fun d => [.inr (.row 54 (.u .u64) d.2)]) ?_ ?_)
     ·refine aD (aG hF [0, 5, 6, 11, 157, 158, 159] ?_)
      simp only [go_sem]
      refine aF (gP (xR (D := Nat × Int × (List Nat)) [5, 6, 157, 158] (fun d => [(0, .sub 0 1 uo_0 un_0), (11, .val (.u .u64) d.1), (159, .val (.i .i64) d.2.1)]) (fun d => [.inr (.row 54 (.u .u64) d.2.2)]) h ?_ ?_ ?_))
      ·first | rfl | (simp only [go_sem]; done)
      ·(try simp only [kH, fO, true_or, and_self, go_sem]) <;> (repeat' apply And.intro) <;> first | rfl | (left; rfl) | (right; rfl) | (left; simp only [go_sem]; done) | (right; simp only [go_sem]; done) | (simp; done) | (simp only [*]; done) | omega
      rintro ⟨carry_33, x159_34, u_35⟩ s26 h hs26
      simp only [go_sem]
      try dsimp only at h
      unfold gZ at h
      refine aD (aG hF [0, 5, 6, 11, 157, 158, 159, 160] ?_)
      simp only [go_sem]
      refine aF (aD (bV rfl (fun hc => ?_) (fun hc => ?_)))
      ·try simp only [go_sem] at hc
       have h := fR (by first | exact hc | omega | (simpa using hc) | (simp at hc ⊢; omega)) h
       refine cJ (aF (aD (gP (aD (aG hF [0, 5, 6, 11, 18, 19, 157, 158, 159] ?_)))))
       simp only [go_sem]
       obtain ⟨g0, h⟩ := aH h
       repeat (refine ⟨by first | with_reducible assumption | omega | (intros; first | assumption | omega) | (simp only [go_sem] at *; first | assumption | omega) | decide, ?_⟩)
       refine aF (bO hF [0, 5, 6, 11, 157, 158, 159] ?_)
       simp only [go_sem]
       obtain ⟨g0, h⟩ := aH h
       obtain ⟨g1, h⟩ := aH h
       repeat (refine ⟨by first | with_reducible assumption | omega | (intros; first | assumption | omega) | (simp only [go_sem] at *; first | assumption | omega) | decide, ?_⟩)
       obtain ⟨g0, h⟩ := aH h
       repeat (refine ⟨by first | with_reducible assumption | omega | (intros; first | assumption | omega) | (simp only [go_sem] at *; first | assumption | omega) | decide, ?_⟩)
       obtain ⟨g0, h⟩ := aH h
       obtain ⟨g1, h⟩ := aH h
       repeat (refine ⟨by first | with_reducible assumption | omega | (intros; first | assumption | omega) | (simp only [go_sem] at *; first | assumption | omega) | decide, ?_⟩)
       refine gE (aF (aG hF [0, 5, 6, 11, 157, 158, 159] ?_))
       simp only [go_sem]
       obtain ⟨g0, h⟩ := aH h
       try simp only [I64, I32] at g0
       repeat (refine ⟨by first | with_reducible assumption | omega | (intros; first | assumption | omega) | (simp only [go_sem] at *; first | assumption | omega) | decide, ?_⟩)
       obtain rfl := Option.some.inj h
       dsimp only [uM] at hs26
       refine bG (aY (((((eU (u_35.getD (uo_0 + (x159_34.toNat)) (0 : Nat)) (v_1.getD (x159_34.toNat) (0 : Nat)) carry_33).2).1), (x159_34 + (1 : Int)), (u_35.set (uo_0 + (x159_34.toNat)) ((eU (u_35.getD (uo_0 + (x159_34.toNat)) (0 : Nat)) (v_1.getD (x159_34.toNat) (0 : Nat)) carry_33).1)))) hs26 rfl ?_)
       ·(try simp only [kH, fO, true_or, and_self, go_sem]) <;> (repeat' apply And.intro) <;> first | rfl | (left; rfl) | (right; rfl) | (left; simp only [go_sem]; done) | (right; simp only [go_sem]; done) | (simp; done) | (simp only [*]; done) | omega
      ·try simp only [go_sem] at hc
       have h := fS (by first | exact hc | omega | (simpa using hc) | (simp at hc ⊢; omega)) h
       obtain rfl := Option.some.inj h
       dsimp only [uM] at hs26
       have h := hs26
       try dsimp only at h
       refine uI (eP (eP (iR (bG (aY ((carry_33, u_35)) h rfl ?_)))))
       ·(try simp only [kH, fO, true_or, and_self, go_sem]) <;> (repeat' apply And.intro) <;> first | rfl | (left; rfl) | (right; rfl) | (left; simp only [go_sem]; done) | (right; simp only [go_sem]; done) | (simp; done) | (simp only [*]; done) | omega
     ·rintro ⟨carry_31, u_32⟩ h
      try dsimp only at h
      simp only [go_sem]
      unfold qD at h
      refine aD (bO hF [6] ?_)
      simp only [go_sem]
      obtain ⟨g0, h⟩ := aH h
      obtain ⟨g1, h⟩ := aH h
      repeat (refine ⟨by first | with_reducible assumption | omega | (intros; first | assumption | omega) | (simp only [go_sem] at *; first | assumption | omega) | decide, ?_⟩)
      obtain ⟨g0, h⟩ := aH h
      obtain ⟨g1, h⟩ := aH h
      repeat (refine ⟨by first | with_reducible assumption | omega | (intros; first | assumption | omega) | (simp only [go_sem] at *; first | assumption | omega) | decide, ?_⟩)
      refine aF (aD (aG hF [4] ?_))
      simp only [go_sem]
      obtain rfl := Option.some.inj h
      refine aF (cW (tD hF [.tmp 4] rfl rfl rfl rfl rfl rfl ?_))
      (try simp only [bA, xQ, wO, fO, lN, AV.isAgg, go_sem]) <;> first | trivial | rfl | (simp; done)
attribute [go_sem] tJ
end Nu
end Go.Proofs
namespace Go.Proofs
open Go.Vc
set_option maxRecDepth 20000
namespace Nu
def qF : Ty := .pair (.sl (.u .u64)) (.pair (.sl (.u .u64)) .unit)
noncomputable def iZ : aL := ⟨qF, .tup (.pair (.sl (.u .u64)) (.pair (.sl (.u .u64)) .unit)), fun x => nS x.1 x.2.1, fun x => bD x.1 x.2.1⟩
attribute [go_sem] iZ qF
noncomputable def aIl : aL := mSpec qF (.tup (.pair (.sl (.u .u64)) (.pair (.sl (.u .u64)) .unit))) (fun x => tI x.1 x.2.1)
noncomputable def gI : List (FuncId × aL) := [(119, nP), (120, bN), (121, tG), (122, cR), (123, rP), (125, dJ), (68, iV), (69, gG)]
theorem aC0 : bW Tryz.prog GL gI := .cons aCR (by kernel_rfl) (.cons fK (by kernel_rfl) (.cons aKs (by kernel_rfl) (.cons lR (by kernel_rfl) (.cons aIk (by kernel_rfl) (.cons mZ (by kernel_rfl) (.cons vY (by kernel_rfl) (.cons tF (by kernel_rfl) (.nil))))))))
theorem aDR : gam gI 119 = some nP := rfl
attribute [go_sem] aDR
theorem aDS : gam gI 120 = some bN := rfl
attribute [go_sem] aDS
theorem aDT : gam gI 121 = some tG := rfl
attribute [go_sem] aDT
theorem aDU : gam gI 122 = some cR := rfl
attribute [go_sem] aDU
theorem aDV : gam gI 123 = some rP := rfl
attribute [go_sem] aDV
theorem aDW : gam gI 125 = some dJ := rfl
attribute [go_sem] aDW
theorem aFk : gam gI 68 = some iV := rfl
attribute [go_sem] aFk
theorem aFl : gam gI 69 = some gG := rfl
attribute [go_sem] aFl
set_option maxHeartbeats 4000000 in
theorem aIm : FOK Tryz.prog GL 62 aIl := by
 refine rF (bI aC0) Tryz.func62 rfl (by kernel_rfl) (by decide) fun w0 S x r hw h => ?_
 have hF : jB (fr Tryz.prog (EM gI) S w0 Tryz.f62.ntmps) := ⟨bI aC0, mix⟩
 obtain ⟨(a_0 : (List Nat)), (b_1 : (List Nat)), u⟩ := x
 simp only [qF, Ty.wf, mJ] at hw
 simp only [cF, qF]
 try dsimp only at h
 unfold tI at h
 refine aD (aG hF [0, 1] ?_)
 simp only [go_sem]
 refine aF (aD (aD (aG hF [0, 1, 15] ?_)))
 simp only [go_sem]
 obtain ⟨g0, h⟩ := aH h
 repeat (refine ⟨by first | with_reducible assumption | omega | (intros; first | assumption | omega) | (simp only [go_sem] at *; first | assumption | omega) | decide, ?_⟩)
 refine aF (bV rfl (fun hc => ?_) (fun hc => ?_))
 ·try simp only [go_sem] at hc
  have h := fR (by first | exact hc | omega | (simpa using hc) | (simp at hc ⊢; omega)) h
  refine aD (bO hF [4, 5] ?_)
  simp only [go_sem]
  obtain ⟨g0, h⟩ := aH h
  repeat (refine ⟨by first | with_reducible assumption | omega | (intros; first | assumption | omega) | (simp only [go_sem] at *; first | assumption | omega) | decide, ?_⟩)
  obtain rfl := Option.some.inj h
  refine aF (cW (dI (iL hF [.tmp 4, .tmp 5] rfl rfl rfl ?_)))
  (try simp only [jD, bA, go_sem]) <;> first | rfl | (simp; done)
 ·try simp only [go_sem] at hc
  have h := fS (by first | exact hc | omega | (simpa using hc) | (simp at hc ⊢; omega)) h
  refine cJ (aF (aD (aD (aG hF [0, 1, 20] ?_))))
  simp only [go_sem]
  refine aF (bV rfl (fun hc => ?_) (fun hc => ?_))
  ·try simp only [go_sem] at hc
   have h := fR (by first | exact hc | omega | (simpa using hc) | (simp at hc ⊢; omega)) h
   refine aD (aG hF [4, 5] ?_)
   simp only [go_sem]
   obtain ⟨g0, h⟩ := aH h
   obtain ⟨g1, h⟩ := aH h
   repeat (refine ⟨by first | with_reducible assumption | omega | (intros; first | assumption | omega) | (simp only [go_sem] at *; first | assumption | omega) | decide, ?_⟩)
   obtain rfl := Option.some.inj h
   refine aF (cW (dI (iL hF [.tmp 4, .tmp 5] rfl rfl rfl ?_)))
   (try simp only [jD, bA, go_sem]) <;> first | rfl | (simp; done)
  ·try simp only [go_sem] at hc
   have h := fS (by first | exact hc | omega | (simpa using hc) | (simp at hc ⊢; omega)) h
   refine cJ (aF (aD (aG hF [0, 1, 6, 7] ?_)))
   simp only [go_sem]
   obtain ⟨g0, h⟩ := aH h
   obtain ⟨g1, h⟩ := aH h
   try simp only [I64, I32] at g0
   repeat (refine ⟨by first | with_reducible assumption | omega | (intros; first | assumption | omega) | (simp only [go_sem] at *; first | assumption | omega) | decide, ?_⟩)
   refine aF (aD (bO hF [0, 6, 7, 8, 9] ?_))
   simp only [go_sem]
   obtain ⟨g0, h⟩ := aH h
   repeat (refine ⟨by first | with_reducible assumption | omega | (intros; first | assumption | omega) | (simp only [go_sem] at *; first | assumption | omega) | decide, ?_⟩)
   obtain ⟨g0, h⟩ := aH h
   repeat (refine ⟨by first | with_reducible assumption | omega | (intros; first | assumption | omega) | (simp only [go_sem] at *; first | assumption | omega) | decide, ?_⟩)
   obtain ⟨g0, h⟩ := aH h
   repeat (refine ⟨by first | with_reducible assumption | omega | (intros; first | assumption | omega) | (simp only [go_sem] at *; first | assumption | omega) | decide, ?_⟩)
   obtain ⟨g0, h⟩ := aH h
   try simp only [I64, I32] at g0
   repeat (refine ⟨by first | with_reducible assumption | omega | (intros; first | assumption | omega) | (simp only [go_sem] at *; first | assumption | omega) | decide, ?_⟩)
   obtain ⟨g0, h⟩ := aH h
   repeat (refine ⟨by first | with_reducible assumption | omega | (intros; first | assumption | omega) | (simp only [go_sem] at *; first | assumption | omega) | decide, ?_⟩)
   refine aF (aD (bO hF [0, 6, 7, 8, 9, 10] ?_))
   simp only [go_sem]
   obtain ⟨g0, h⟩ := aH h
   try simp only [I64, I32] at g0
   repeat (refine ⟨by first | with_reducible assumption | omega | (intros; first | assumption | omega) | (simp only [go_sem] at *; first | assumption | omega) | decide, ?_⟩)
   obtain ⟨g0, h⟩ := aH h
   try simp only [I64, I32] at g0
   repeat (refine ⟨by first | with_reducible assumption | omega | (intros; first | assumption | omega) | (simp only [go_sem] at *; first | assumption | omega) | decide, ?_⟩)
   obtain ⟨g0, h⟩ := aH h
   obtain ⟨g1, h⟩ := aH h
   repeat (refine ⟨by first | with_reducible assumption | omega | (intros; first | assumption | omega) | (simp only [go_sem] at *; first | assumption | omega) | decide, ?_⟩)
   refine aF (jW (D := (List Nat) × (List Nat)) (fun d => oN b_1 d.1 d.2 = some r) [6, 7] (fun d => [(9, .own 0), (10, .own 1)]) (fun d => [.inr (.row 54 (.u .u64) d.1), .inr (.row 54 (.u .u64) d.2)]) ?_ ?_)
   ·refine aD (aG hF [6, 7, 8, 9, 10, 11] ?_)
    simp only [go_sem]
    obtain ⟨g0, h⟩ := aH h
    try simp only [I64, I32] at g0
    repeat (refine ⟨by first | with_reducible assumption | omega | (intros; first | assumption | omega) | (simp only [go_sem] at *; first | assumption | omega) | decide, ?_⟩)
    refine aF (gP (aB0 0 ?_))
    simp only [go_sem]
    refine aNO [1, 2] rfl rfl ?_
    simp only [ren, gN, nM, posOf, fG, go_sem]
    refine xR (D := Int × (List Nat) × (List Nat)) [6, 7, 8] (fun d => [(9, .own 0), (10, .own 1), (11, .val (.i .i64) d.1)]) (fun d => [.inr (.row 54 (.u .u64) d.2.1), .inr (.row 54 (.u .u64) d.2.2)]) h ?_ ?_ ?_
    ·first | rfl | (simp only [go_sem]; done)
    ·(try simp only [kH, fO, true_or, and_self, go_sem]) <;> (repeat' apply And.intro) <;> first | rfl | (left; rfl) | (right; rfl) | (left; simp only [go_sem]; done) | (right; simp only [go_sem]; done) | (simp; done) | (simp only [*]; done) | omega
    rintro ⟨j_14, u_15, q_16⟩ s9 h hs9
    simp only [go_sem]
    try dsimp only at h
    unfold jX at h
    refine aD (aD (aG hF [6, 7, 8, 9, 10, 11, 60] ?_))
    simp only [go_sem]
    refine aF (bV rfl (fun hc => ?_) (fun hc => ?_))
    ·try simp only [go_sem] at hc
     have h := fR (by first | exact hc | omega | (simpa using hc) | (simp at hc ⊢; omega)) h
     obtain ⟨g0, h⟩ := aH h
     try simp only [I64, I32] at g0
     obtain ⟨g1, h⟩ := aH h
     try simp only [I64, I32] at g1
     obtain ⟨g2, h⟩ := aH h
     obtain ⟨r_24, he1, h⟩ := bind_some h
     try dsimp only at h
     obtain ⟨g3, h⟩ := aH h
     refine cJ (aF (aD (gP (aW hF (bY (l := [(124, ⟨tJ, [0], ((j_14.toNat), ((((j_14 + (((b_1.length) : Nat) : Int)) + (1 : Int)) - j_14).toNat), (cS (bF b_1 (aA (b_1.getD (((((b_1.length) : Nat) : Int) - (1 : Int)).toNat) (0 : Nat)))) (((b_1.length) : Nat) : Int)), u_15, r_24)⟩)]) (.cons aKu (by kernel_rfl) (.nil))) [6, 7, 8, 9, 10, 11] [71] ?_))))
     simp only [go_sem]
     repeat (refine ⟨by first | with_reducible assumption | omega | (intros; first | assumption | omega) | (simp only [go_sem] at *; first | assumption | omega) | decide, ?_⟩)
     refine gE (aF (aG hF [6, 7, 8, 9, 10, 11] ?_))
     simp only [go_sem]
     obtain ⟨g0, h⟩ := aH h
     try simp only [I64, I32] at g0
     repeat (refine ⟨by first | with_reducible assumption | omega | (intros; first | assumption | omega) | (simp only [go_sem] at *; first | assumption | omega) | decide, ?_⟩)
     obtain rfl := Option.some.inj h
     dsimp only [uM] at hs9
     refine bG (aY (((j_14 - (1 : Int)), (r_24.2), (q_16.set (j_14.toNat) (r_24.1)))) hs9 rfl ?_)
     ·(try simp only [kH, fO, true_or, and_self, go_sem]) <;> (repeat' apply And.intro) <;> first | rfl | (left; rfl) | (right; rfl) | (left; simp only [go_sem]; done) | (right; simp only [go_sem]; done) | (simp; done) | (simp only [*]; done) | omega
    ·try simp only [go_sem] at hc
     have h := fS (by first | exact hc | omega | (simpa using hc) | (simp at hc ⊢; omega)) h
     obtain rfl := Option.some.inj h
     dsimp only [uM] at hs9
     have h := hs9
     try dsimp only at h
     refine uI (eP (eP (iR (bG (aY ((u_15, q_16)) h rfl ?_)))))
     ·(try simp only [kH, fO, true_or, and_self, go_sem]) <;> (repeat' apply And.intro) <;> first | rfl | (left; rfl) | (right; rfl) | (left; simp only [go_sem]; done) | (right; simp only [go_sem]; done) | (simp; done) | (simp only [*]; done) | omega
   ·rintro ⟨u_11, q_12⟩ h
    try dsimp only at h
    simp only [go_sem]
    unfold oN at h
    refine aD (aB0 1 ?_)
    simp only [go_sem]
    refine aB0 0 ?_
    simp only [go_sem]
    refine aG hF [4, 5] ?_
    simp only [go_sem]
    obtain ⟨g0, h⟩ := aH h
    obtain ⟨g1, h⟩ := aH h
    repeat (refine ⟨by first | with_reducible assumption | omega | (intros; first | assumption | omega) | (simp only [go_sem] at *; first | assumption | omega) | decide, ?_⟩)
    obtain rfl := Option.some.inj h
    refine aF (cW (iL hF [.tmp 4, .tmp 5] rfl rfl rfl ?_))
    (try simp only [jD, bA, go_sem]) <;> first | rfl | (simp; done)
theorem wW : FOK Tryz.prog GL 62 iZ := dU aIm (fun ⟨x0, x1, u⟩ ⟨w0, w1, wu⟩ hp => aGZ x0 w0 x1 w1 hp)
end Nu
end Go.Proofs
namespace Go.Proofs
open Go.Vc
set_option maxRecDepth 20000
namespace Nu
noncomputable def bQ (d_0 : (Bool × ((List Nat) × (Int × Unit)))) : Option Bool :=
 if (((((d_0.2).1).length) : Nat) : Int) = (0 : Int) then some ((!(d_0.1)) && (decide ((((d_0.2).2).1) = (0 : Int)))) else ck ((((xV ((d_0.2).1)) = true) → ((0 : Int) < (((((d_0.2).1).length) : Nat) : Int)))) (some ((((xV ((d_0.2).1)) && (decide (((((d_0.2).1).getD (0 : Nat) (0 : Nat)) &&& (1 : Nat)) = (1 : Nat)))) && (decide ((-1048576 : Int) ≤ (((d_0.2).2).1)))) && (decide ((((d_0.2).2).1) ≤ (1048576 : Int)))))
def aED : PlR := ⟨[(0, .B [1]), (1, .A [1, 6]), (2, .A [2]), (3, .A [2])], []⟩
def aG0 : Ty := .pair (.pair .bool (.pair (.sl (.u .u64)) (.pair (.i .i64) .unit))) .unit
noncomputable def dK : aL := mSpec aG0 (.one .bool) (fun x => bQ x.1)
noncomputable def aG1 : List (FuncId × aL) := [(81, zK)]
theorem aM4 : bW Tryz.prog GL aG1 := .cons aMX (by kernel_rfl) (.nil)
theorem aIn : gam aG1 81 = some zK := rfl
attribute [go_sem] aG0 aED aIn
set_option maxHeartbeats 4000000 in
theorem nC : FOK Tryz.prog GL 29 dK := by
 refine cG (bI aM4) mix Tryz.func29 rfl (by kernel_rfl) (by decide) aED fun w0 S x Θ hw h hF => ?_
 obtain ⟨(d_0 : (Bool × ((List Nat) × (Int × Unit)))), u⟩ := x
 simp only [cF, go_sem]
 replace h : sat (bQ d_0) _ := h
 unfold bQ at h
 refine fP h (fun hc h => ?_) fun hc h => ?_
 ·exact aS hF [.tmp 2] rfl rfl rfl (aC h) (by simp only [bA, go_sem])
 ·refine aM h fun g0 h => ?_
  exact aS hF [.tmp 2] rfl rfl rfl (aC h) (by simp only [bA, go_sem])
attribute [go_sem] dK
noncomputable def dL (d_0 : (Bool × ((List Nat) × (Int × Unit)))) : Option Int :=
 ck (((bQ d_0).isSome = true)) (if (¬ (((bQ d_0).getD false) = true)) ∨ ((((((d_0.2).1).length) : Nat) : Int) = (0 : Int)) then some (0 : Int) else if (d_0.1) = true then some (-1 : Int) else some (1 : Int))
def aC1 : PlR := ⟨[(0, .B [1]), (1, .A [1, 3]), (2, .A [2]), (3, .A [13]), (4, .A [2]), (5, .A [2])], []⟩
def aEE : Ty := .pair (.pair .bool (.pair (.sl (.u .u64)) (.pair (.i .i64) .unit))) .unit
noncomputable def tK : aL := mSpec aEE (.one (.i .i64)) (fun x => dL x.1)
noncomputable def aEF : List (FuncId × aL) := [(29, dK)]
theorem aLX : bW Tryz.prog GL aEF := .cons nC (by kernel_rfl) (.nil)
theorem aG2 : gam aEF 29 = some dK := rfl
attribute [go_sem] aEE aC1 aG2
set_option maxHeartbeats 4000000 in
theorem aKv : FOK Tryz.prog GL 82 tK := by
 refine cG (bI aLX) mix Tryz.func82 rfl (by kernel_rfl) (by decide) aC1 fun w0 S x Θ hw h hF => ?_
 obtain ⟨(d_0 : (Bool × ((List Nat) × (Int × Unit)))), u⟩ := x
 simp only [cF, go_sem]
 replace h : sat (dL d_0) _ := h
 unfold dL at h
 refine aM h fun g0 h => ?_
 refine ⟨fun hc => ?_, fun hc => ?_⟩
 ·replace h := iE (by first | exact hc | omega | (simpa using hc) | (simp at hc ⊢; omega)) h
  exact aS hF [.tmp 2] rfl rfl rfl (aC h) (by simp only [bA, go_sem])
 ·replace h := iF (by first | exact hc | omega | (simpa using hc) | (simp at hc ⊢; omega)) h
  refine aQe h (fun hc h => ?_) fun hc h => ?_
  ·exact aS hF [.tmp 2] rfl rfl rfl (aC h) (by simp only [bA, go_sem])
  ·exact aS hF [.tmp 2] rfl rfl rfl (aC h) (by simp only [bA, go_sem])
attribute [go_sem] tK
noncomputable def lJ (a_0 : (Bool × ((List Nat) × (Int × Unit)))) (b_1 : (Bool × ((List Nat) × (Int × Unit)))) : Option Int :=
 ck ((aEl ((a_0.2).1))) (ck (I64 ((aT ((a_0.2).1)) + (((a_0.2).2).1))) (ck ((aEl ((b_1.2).1))) (ck (I64 ((aT ((b_1.2).1)) + (((b_1.2).2).1))) (if ((aT ((a_0.2).1)) + (((a_0.2).2).1)) < ((aT ((b_1.2).1)) + (((b_1.2).2).1)) then some (-1 : Int) else if ((aT ((b_1.2).1)) + (((b_1.2).2).1)) < ((aT ((a_0.2).1)) + (((a_0.2).2).1)) then some (1 : Int) else ck (I64 ((((a_0.2).2).1) - (min (((a_0.2).2).1) (((b_1.2).2).1)))) (ck ((aEo ((a_0.2).1) ((((a_0.2).2).1) - (min (((a_0.2).2).1) (((b_1.2).2).1))))) (ck (I64 ((((b_1.2).2).1) - (min (((a_0.2).2).1) (((b_1.2).2).1)))) (ck ((aEo ((b_1.2).1) ((((b_1.2).2).1) - (min (((a_0.2).2).1) (((b_1.2).2).1))))) (ck ((aOb (bF ((a_0.2).1) ((((a_0.2).2).1) - (min (((a_0.2).2).1) (((b_1.2).2).1)))) (bF ((b_1.2).1) ((((b_1.2).2).1) - (min (((a_0.2).2).1) (((b_1.2).2).1)))))) (some (lH (bF ((a_0.2).1) ((((a_0.2).2).1) - (min (((a_0.2).2).1) (((b_1.2).2).1)))) (bF ((b_1.2).1) ((((b_1.2).2).1) - (min (((a_0.2).2).1) (((b_1.2).2).1))))))))))))))
def aC2 : PlR := ⟨[(0, .B [2, 3]), (1, .A [2, 3, 5, 6]), (2, .A [2, 3, 5, 6, 20]), (3, .A [4]), (4, .A [2, 3, 24]), (5, .A [4]), (6, .A [2, 3, 7]), (7, .A [4])], []⟩
def aEG : Ty := .pair (.pair .bool (.pair (.sl (.u .u64)) (.pair (.i .i64) .unit))) (.pair (.pair .bool (.pair (.sl (.u .u64)) (.pair (.i .i64) .unit))) .unit)
noncomputable def tL : aL := mSpec aEG (.one (.i .i64)) (fun x => lJ x.1 x.2.1)
noncomputable def wB : List (FuncId × aL) := [(119, nP), (68, iV), (89, iU)]
theorem aLY : bW Tryz.prog GL wB := .cons aCR (by kernel_rfl) (.cons vY (by kernel_rfl) (.cons vW (by kernel_rfl) (.nil)))
theorem aFm : gam wB 119 = some nP := rfl
theorem aG3 : gam wB 68 = some iV := rfl
theorem aG4 : gam wB 89 = some iU := rfl
attribute [go_sem] aEG aC2 aFm aG3 aG4
set_option maxHeartbeats 4000000 in
theorem aKw : FOK Tryz.prog GL 83 tL := by
 refine cG (bI aLY) mix Tryz.func83 rfl (by kernel_rfl) (by decide) aC2 fun w0 S x Θ hw h hF => ?_
 obtain ⟨(a_0 : (Bool × ((List Nat) × (Int × Unit)))), (b_1 : (Bool × ((List Nat) × (Int × Unit)))), u⟩ := x
 simp only [cF, go_sem]
 replace h : sat (lJ a_0 b_1) _ := h
 unfold lJ at h
 refine aM h fun g0 h => aM h fun g1 h => aM h fun g2 h => aM h fun g3 h => ?_
 refine gV h (fun hc h => ?_) fun hc h => ?_
 ·exact aS hF [.tmp 4] rfl rfl rfl (aC h) (by simp only [bA, go_sem])
 ·refine gV h (fun hc h => ?_) fun hc h => ?_
  ·exact aS hF [.tmp 4] rfl rfl rfl (aC h) (by simp only [bA, go_sem])
  ·refine aM h fun g0 h => aM h fun g1 h => aM h fun g2 h => aM h fun g3 h => aM h fun g4 h => ?_
   exact aS hF [.tmp 4] rfl rfl rfl (aC h) (by simp only [bA, go_sem])
attribute [go_sem] tL
noncomputable def cA (a_0 : (Bool × ((List Nat) × (Int × Unit)))) (b_1 : (Bool × ((List Nat) × (Int × Unit)))) : Option Int :=
 ck (((dL a_0).isSome = true)) (ck (((dL b_1).isSome = true)) (ck (((bQ a_0).isSome = true)) (ck ((¬ (¬ (((bQ a_0).getD false) = true)) → (((bQ b_1).isSome = true)))) (if (¬ (((bQ a_0).getD false) = true)) ∨ (¬ (((bQ b_1).getD false) = true)) then some (0 : Int) else if (¬ (((dL a_0).getD (0 : Int)) = ((dL b_1).getD (0 : Int)))) ∧ (((dL a_0).getD (0 : Int)) < ((dL b_1).getD (0 : Int))) then some (-1 : Int) else if ¬ (((dL a_0).getD (0 : Int)) = ((dL b_1).getD (0 : Int))) then some (1 : Int) else if ((dL a_0).getD (0 : Int)) = (0 : Int) then some (0 : Int) else ck (((lJ a_0 b_1).isSome = true)) (ck (I64 (((dL a_0).getD (0 : Int)) * ((lJ a_0 b_1).getD (0 : Int)))) (some (((dL a_0).getD (0 : Int)) * ((lJ a_0 b_1).getD (0 : Int)))))))))
def aEH : PlR := ⟨[(0, .B [2, 3]), (1, .A [2, 3, 5, 6]), (2, .A [2, 3, 5, 6, 11]), (3, .A [4]), (4, .A [2, 3, 5, 6, 20]), (5, .A [4]), (6, .A [2, 3, 5, 29]), (7, .A [4]), (8, .A [2, 3, 5, 33]), (9, .A [4]), (10, .A [4])], []⟩
def aG5 : Ty := .pair (.pair .bool (.pair (.sl (.u .u64)) (.pair (.i .i64) .unit))) (.pair (.pair .bool (.pair (.sl (.u .u64)) (.pair (.i .i64) .unit))) .unit)
noncomputable def pF : aL := mSpec aG5 (.one (.i .i64)) (fun x => cA x.1 x.2.1)
noncomputable def zS : List (FuncId × aL) := [(29, dK), (82, tK), (83, tL)]
theorem aM5 : bW Tryz.prog GL zS := .cons nC (by kernel_rfl) (.cons aKv (by kernel_rfl) (.cons aKw (by kernel_rfl) (.nil)))
theorem aIo : gam zS 29 = some dK := rfl
theorem aIp : gam zS 82 = some tK := rfl
theorem aIq : gam zS 83 = some tL := rfl
attribute [go_sem] aG5 aEH aIo aIp aIq
set_option maxHeartbeats 4000000 in
theorem aEI : FOK Tryz.prog GL 31 pF := by
 refine cG (bI aM5) mix Tryz.func31 rfl (by kernel_rfl) (by decide) aEH fun w0 S x Θ hw h hF => ?_
 obtain ⟨(a_0 : (Bool × ((List Nat) × (Int × Unit)))), (b_1 : (Bool × ((List Nat) × (Int × Unit)))), u⟩ := x
 simp only [cF, go_sem]
 replace h : sat (cA a_0 b_1) _ := h
 unfold cA at h
 obtain ⟨g0, h⟩ := aI h
 obtain ⟨g1, h⟩ := aI h
 repeat (refine ⟨by first | with_reducible assumption | omega | (intros; first | assumption | omega) | (simp only [go_sem] at *; first | assumption | omega) | decide, ?_⟩)
 obtain ⟨g0, h⟩ := aI h
 obtain ⟨g1, h⟩ := aI h
 repeat (refine ⟨by first | with_reducible assumption | omega | (intros; first | assumption | omega) | (simp only [go_sem] at *; first | assumption | omega) | (intro q0; (try have e1 := g1 (by first | exact q0 | omega | (simpa using q0))); first | assumption | omega) | decide, ?_⟩)
 refine ⟨fun hc => ?_, fun hc => ?_⟩
 ·replace h := iE (by first | exact hc | omega | (simpa using hc) | (simp at hc ⊢; omega)) h
  exact aS hF [.tmp 4] rfl rfl rfl (aC h) (by simp only [bA, go_sem])
 ·replace h := iF (by first | exact hc | omega | (simpa using hc) | (simp at hc ⊢; omega)) h
  refine ⟨fun hc => ?_, fun hc => ?_⟩
  ·replace h := iE (by first | exact hc | omega | (simpa using hc) | (simp at hc ⊢; omega)) h
   exact aS hF [.tmp 4] rfl rfl rfl (aC h) (by simp only [bA, go_sem])
  ·replace h := iF (by first | exact hc | omega | (simpa using hc) | (simp at hc ⊢; omega)) h
   refine ⟨fun hc => ?_, fun hc => ?_⟩
   ·replace h := iE hc h
    exact aS hF [.tmp 4] rfl rfl rfl (aC h) (by simp only [bA, go_sem])
   ·replace h := iF (by first | exact hc | omega | simpa using hc) h
    refine fP h (fun hc h => ?_) fun hc h => ?_
    ·exact aS hF [.tmp 4] rfl rfl rfl (aC h) (by simp only [bA, go_sem])
    ·obtain ⟨g0, h⟩ := aI h
     obtain ⟨g1, h⟩ := aI h
     try simp only [I64, I32] at g1
     repeat (refine ⟨by first | with_reducible assumption | omega | (intros; first | assumption | omega) | (simp only [go_sem] at *; first | assumption | omega) | decide, ?_⟩)
     exact aS hF [.tmp 4] rfl rfl rfl (aC h) (by simp only [bA, go_sem])
attribute [go_sem] pF
noncomputable def dG (d_0 : (Bool × ((List Nat) × (Int × Unit)))) : Option (Bool × ((List Nat) × (Int × Unit))) :=
 ck ((aMO ((d_0.2).1))) (some ((d_0.1), (id ((d_0.2).1)), (((d_0.2).2).1), ()))
def aA5 : PlR := ⟨[(0, .B [1, 2]), (1, .B [1, 2]), (2, .B [2])], []⟩
def aBM : Ty := .pair (.pair .bool (.pair (.sl (.u .u64)) (.pair (.i .i64) .unit))) .unit
noncomputable def qG : aL := mSpec aBM (.one (.pair .bool (.pair (.sl (.u .u64)) (.pair (.i .i64) .unit)))) (fun x => dG x.1)
noncomputable def aBN : List (FuncId × aL) := [(120, bN)]
theorem aIr : bW Tryz.prog GL aBN := .cons fK (by kernel_rfl) (.nil)
theorem aC3 : gam aBN 120 = some bN := rfl
attribute [go_sem] aBM aA5 aC3
set_option maxHeartbeats 4000000 in
theorem aG6 : FOK Tryz.prog GL 103 qG := by
 refine cG (bI aIr) mix Tryz.func103 rfl (by kernel_rfl) (by decide) aA5 fun w0 S x Θ hw h hF => ?_
 obtain ⟨(d_0 : (Bool × ((List Nat) × (Int × Unit)))), u⟩ := x
 simp only [cF, go_sem]
 replace h : sat (dG d_0) _ := h
 unfold dG at h
 refine aM h fun g0 h => ?_
 exact aS hF [.cell 2 25] rfl rfl rfl (aC h) (by simp only [bA, go_sem])
attribute [go_sem] qG
noncomputable def cB (d_0 : (Bool × ((List Nat) × (Int × Unit)))) : Option (Bool × ((List Nat) × (Int × Unit))) :=
 ck (((dG d_0).isSome = true)) (ck (((bQ ((dG d_0).getD (false, ([] : List Nat), (0 : Int), ()))).isSome = true)) (if (((bQ ((dG d_0).getD (false, ([] : List Nat), (0 : Int), ()))).getD false) = true) ∧ ((0 : Int) < (((((((dG d_0).getD (false, ([] : List Nat), (0 : Int), ())).2).1).length) : Nat) : Int)) then some ((!(((dG d_0).getD (false, ([] : List Nat), (0 : Int), ())).1)), ((((dG d_0).getD (false, ([] : List Nat), (0 : Int), ())).2).1), (((((dG d_0).getD (false, ([] : List Nat), (0 : Int), ())).2).2).1), ()) else some ((dG d_0).getD (false, ([] : List Nat), (0 : Int), ()))))
def aEJ : PlR := ⟨[(0, .B [1, 2]), (1, .B [1, 2]), (2, .A [1, 2, 12]), (3, .B [1, 2]), (4, .B [2])], []⟩
def aG7 : Ty := .pair (.pair .bool (.pair (.sl (.u .u64)) (.pair (.i .i64) .unit))) .unit
noncomputable def wC : aL := mSpec aG7 (.one (.pair .bool (.pair (.sl (.u .u64)) (.pair (.i .i64) .unit)))) (fun x => cB x.1)
noncomputable def aCf : List (FuncId × aL) := [(103, qG), (29, dK)]
theorem aM6 : bW Tryz.prog GL aCf := .cons aG6 (by kernel_rfl) (.cons nC (by kernel_rfl) (.nil))
theorem aG8 : gam aCf 103 = some qG := rfl
theorem aIs : gam aCf 29 = some dK := rfl
attribute [go_sem] aG7 aEJ aG8 aIs
set_option maxHeartbeats 4000000 in
theorem aLZ : FOK Tryz.prog GL 52 wC := by
 refine cG (bI aM6) mix Tryz.func52 rfl (by kernel_rfl) (by decide) aEJ fun w0 S x Θ hw h hF => ?_
 obtain ⟨(d_0 : (Bool × ((List Nat) × (Int × Unit)))), u⟩ := x
 simp only [cF, go_sem]
 replace h : sat (cB d_0) _ := h
 unfold cB at h
 refine aM h fun g0 h => ?_
 refine aM h fun g0 h => ?_
 refine ⟨fun hc => ?_, fun hc => ?_⟩
 ·replace h := iE hc h
  exact aS hF [.cell 2 25] rfl rfl rfl (aC h) (by simp only [bA, go_sem])
 ·replace h := iF hc h
  exact aS hF [.cell 2 25] rfl rfl rfl (aC h) (by simp only [bA, go_sem])
attribute [go_sem] wC
noncomputable def gJ (is_0 : Bool) (e_1 : Int) : Option (Unit ⊕ (Int × Unit)) :=
 if ¬ (is_0 = true) then some (.inr (e_1, ())) else some (.inl ())
noncomputable def dH : lG where
 D := Bool × Int × (Unit ⊕ (Int × Unit))
 av := fun d => [.val .bool d.1, .val (.i .i64) d.2.1]
 hp := fun d => []
 m := 0
 pre := fun d => gJ d.1 d.2.1 = some d.2.2
 out := fun d => match d.2.2 with | .inl r => .ret (.tup []) [] | .inr p => .pan ⟨165, (.pair (.i .i64) .unit), p⟩ []
noncomputable def aC4 : List (FuncId × aL) := []
theorem aC5 : bW Tryz.prog GL aC4 := .nil
set_option maxHeartbeats 4000000 in
theorem fI : GOK Tryz.prog GL 109 dH := by
 refine oF (bI aC5) Tryz.func109 rfl (by kernel_rfl) (fun _ => Nat.le_of_ble_eq_true rfl) fun c0 w0 d hw1 hw2 h hn => ?_
 have hF : jB ⟨Tryz.prog, EM aC4, GM dH c0 d, w0, Tryz.f109.ntmps, []⟩ := ⟨bI aC5, mix⟩
 obtain ⟨(is_0 : Bool), (e_1 : Int), r⟩ := d
 replace h : gJ is_0 e_1 = some r := h
 have hw1 : AV.wfL [.val .bool is_0, .val (.i .i64) e_1] := hw1
 simp only [AV.wfL, AV.wfV, Ty.wf, mJ] at hw1
 show Tri _ _ _ [(0, .val .bool is_0), (1, .val (.i .i64) e_1)] []
 unfold gJ at h
 refine aD (aG hF [1, 5] ?_)
 simp only [go_sem]
 refine aF (bV rfl (fun hc => ?_) (fun hc => ?_))
 ·try simp only [go_sem] at hc
  have h := fR (by first | exact hc | omega | (simpa using hc) | (simp at hc ⊢; omega)) h
  refine aW hF (bY (l := []) (.nil)) [] [] ?_
  simp only [go_sem]
  repeat (refine ⟨by first | with_reducible assumption | omega | (intros; first | assumption | omega) | (simp only [go_sem] at *; first | assumption | omega) | decide, ?_⟩)
  obtain rfl := Option.some.inj h
  refine iK rfl rfl rfl rfl
 ·try simp only [go_sem] at hc
  have h := fS (by first | exact hc | omega | (simpa using hc) | (simp at hc ⊢; omega)) h
  obtain rfl := Option.some.inj h
  refine cJ (zC (tD hF [] rfl rfl rfl rfl rfl rfl ?_))
  (try simp only [bA, xQ, wO, fO, lN, AV.isAgg, go_sem]) <;> first | trivial | rfl | (simp; done)
attribute [go_sem] dH
noncomputable def jJ (l_1 : (List (Bool × ((List Nat) × (Int × Unit))))) (x15_13 : Int) : Option ((Int) ⊕ ((Unit) ⊕ (Int × Unit))) :=
 if x15_13 < (((l_1.length) : Nat) : Int) then ck (0 ≤ x15_13 ∧ x15_13 < (((l_1.length) : Nat) : Int)) (ck (((bQ (l_1.getD (x15_13.toNat) (false, ([] : List Nat), (0 : Int), ()))).isSome = true)) (((gJ ((bQ (l_1.getD (x15_13.toNat) (false, ([] : List Nat), (0 : Int), ()))).getD false) (1 : Int))).bind (fun e => match e with | .inl r_19 => ck (I64 (x15_13 + (1 : Int))) (some (.inl (x15_13 + (1 : Int)))) | .inr p_20 => some (.inr (.inr p_20))))) else some (.inr (.inl ()))
noncomputable def nD (l_1 : (List (Bool × ((List Nat) × (Int × Unit))))) : Option ((Unit ⊕ (Int × Unit))) :=
 (dC (fun d : Int => jJ l_1 d) (0 : Int)).bind (fun e => match e with | (.inl e) => some (.inl ()) | (.inr e) => some (.inr e))
noncomputable def pG (p_0 : Int) (l_1 : (List (Bool × ((List Nat) × (Int × Unit))))) : Option (Unit ⊕ (Int × Unit)) :=
 if (1 : Int) ≤ p_0 then ((gJ ((decide ((1 : Int) ≤ p_0)) && (decide (p_0 ≤ (2000 : Int)))) (1 : Int))).bind (fun e => match e with | .inl r_22 => nD l_1 | .inr p_23 => some (.inr p_23)) else ((gJ false (1 : Int))).bind (fun e => match e with | .inl r_24 => nD l_1 | .inr p_25 => some (.inr p_25))
noncomputable def qH : lG where
 D := Int × (List (Bool × ((List Nat) × (Int × Unit)))) × (Unit ⊕ (Int × Unit))
 av := fun d => [.val (.i .i64) d.1, .val (.sl (.pair .bool (.pair (.sl (.u .u64)) (.pair (.i .i64) .unit)))) d.2.1]
 hp := fun d => []
 m := 0
 pre := fun d => pG d.1 d.2.1 = some d.2.2
 out := fun d => match d.2.2 with | .inl r => .ret (.tup []) [] | .inr p => .pan ⟨165, (.pair (.i .i64) .unit), p⟩ []
noncomputable def aA6 : List (FuncId × aL) := [(29, dK)]
theorem aEK : bW Tryz.prog GL aA6 := .cons nC (by kernel_rfl) (.nil)
theorem aG9 : gam aA6 29 = some dK := rfl
attribute [go_sem] aG9
set_option maxHeartbeats 4000000 in
theorem aC6 : GOK Tryz.prog GL 108 qH := by
 refine oF (bI aEK) Tryz.func108 rfl (by kernel_rfl) (fun _ => Nat.le_of_ble_eq_true rfl) fun c0 w0 d hw1 hw2 h hn => ?_
 have hF : jB ⟨Tryz.prog, EM aA6, GM qH c0 d, w0, Tryz.f108.ntmps, []⟩ := ⟨bI aEK, mix⟩
 obtain ⟨(p_0 : Int), (l_1 : (List (Bool × ((List Nat) × (Int × Unit))))), r⟩ := d
 replace h : pG p_0 l_1 = some r := h
 have hw1 : AV.wfL [.val (.i .i64) p_0, .val (.sl (.pair .bool (.pair (.sl (.u .u64)) (.pair (.i .i64) .unit)))) l_1] := hw1
 simp only [AV.wfL, AV.wfV, Ty.wf, mJ] at hw1
 show Tri _ _ _ [(0, .val (.i .i64) p_0), (1, .val (.sl (.pair .bool (.pair (.sl (.u .u64)) (.pair (.i .i64) .unit)))) l_1)] []
 unfold pG at h
 refine jW (D := Unit) (fun d => nD l_1 = some r) [1] (fun d => []) (fun d => []) ?_ ?_
 ·by_cases hq : (1 : Int) ≤ p_0
  ·have h := fR hq h
   obtain ⟨e, he2, h⟩ := bind_some h
   rcases e with r_22 | p_23
   ·try dsimp only at h
    refine aW hF (bY (l := [(109, ⟨dH, [], (((decide ((1 : Int) ≤ p_0)) && (decide (p_0 ≤ (2000 : Int)))), (1 : Int), .inl r_22)⟩)]) (.cons fI (by kernel_rfl) (.nil))) [1] [] ?_
    simp only [go_sem]
    repeat (refine ⟨by first | with_reducible assumption | omega | (intros; first | assumption | omega) | (simp only [go_sem] at *; first | assumption | omega) | decide, ?_⟩)
    refine ⟨fun _ => ?_, fun hx => by first | (exfalso; omega) | (exfalso; simp_all; done)⟩
    repeat (refine ⟨by first | with_reducible assumption | omega | (intros; first | assumption | omega) | (simp only [go_sem] at *; first | assumption | omega) | decide, ?_⟩)
    refine ⟨fun _ => ?_, fun hx => by first | (exfalso; omega) | (exfalso; simp_all; done)⟩
    repeat (refine ⟨by first | with_reducible assumption | omega | (intros; first | assumption | omega) | (simp only [go_sem] at *; first | assumption | omega) | decide, ?_⟩)
    refine bG (aY (()) h rfl ?_)
    ·(try simp only [kH, fO, true_or, and_self, go_sem]) <;> (repeat' apply And.intro) <;> first | rfl | (left; rfl) | (right; rfl) | (left; simp only [go_sem]; done) | (right; simp only [go_sem]; done) | (simp; done) | (simp only [*]; done) | omega
   ·try dsimp only at h
    refine aW hF (bY (l := [(109, ⟨dH, [], (((decide ((1 : Int) ≤ p_0)) && (decide (p_0 ≤ (2000 : Int)))), (1 : Int), .inr p_23)⟩)]) (.cons fI (by kernel_rfl) (.nil))) [1] [] ?_
    simp only [go_sem]
    repeat (refine ⟨by first | with_reducible assumption | omega | (intros; first | assumption | omega) | (simp only [go_sem] at *; first | assumption | omega) | decide, ?_⟩)
    refine ⟨fun _ => ?_, fun hx => by first | (exfalso; omega) | (exfalso; simp_all; done)⟩
    repeat (refine ⟨by first | with_reducible assumption | omega | (intros; first | assumption | omega) | (simp only [go_sem] at *; first | assumption | omega) | decide, ?_⟩)
    refine ⟨fun _ => ?_, fun hx => by first | (exfalso; omega) | (exfalso; simp_all; done)⟩
    repeat (refine ⟨by first | with_reducible assumption | omega | (intros; first | assumption | omega) | (simp only [go_sem] at *; first | assumption | omega) | decide, ?_⟩)
    obtain rfl := Option.some.inj h
    refine eK (iK rfl rfl rfl rfl)
  ·have h := fS hq h
   obtain ⟨e, he3, h⟩ := bind_some h
   rcases e with r_24 | p_25
   ·try dsimp only at h
    refine aW hF (bY (l := [(109, ⟨dH, [], (false, (1 : Int), .inl r_24)⟩)]) (.cons fI (by kernel_rfl) (.nil))) [1] [] ?_
    simp only [go_sem]
    repeat (refine ⟨by first | with_reducible assumption | omega | (intros; first | assumption | omega) | (simp only [go_sem] at *; first | assumption | omega) | decide, ?_⟩)
    first | (refine ⟨fun hx => by first | (exfalso; omega) | (exfalso; simp_all; done), fun _ => ?_⟩) | intro _
    repeat (refine ⟨by first | with_reducible assumption | omega | (intros; first | assumption | omega) | (simp only [go_sem] at *; first | assumption | omega) | decide, ?_⟩)
    first | (refine ⟨fun hx => by first | (exfalso; omega) | (exfalso; simp_all; done), fun _ => ?_⟩) | intro _
    repeat (refine ⟨by first | with_reducible assumption | omega | (intros; first | assumption | omega) | (simp only [go_sem] at *; first | assumption | omega) | decide, ?_⟩)
    refine bG (aY (()) h rfl ?_)
    ·(try simp only [kH, fO, true_or, and_self, go_sem]) <;> (repeat' apply And.intro) <;> first | rfl | (left; rfl) | (right; rfl) | (left; simp only [go_sem]; done) | (right; simp only [go_sem]; done) | (simp; done) | (simp only [*]; done) | omega
   ·try dsimp only at h
    refine aW hF (bY (l := [(109, ⟨dH, [], (false, (1 : Int), .inr p_25)⟩)]) (.cons fI (by kernel_rfl) (.nil))) [1] [] ?_
    simp only [go_sem]
    repeat (refine ⟨by first | with_reducible assumption | omega | (intros; first | assumption | omega) | (simp only [go_sem] at *; first | assumption | omega) | decide, ?_⟩)
    first | (refine ⟨fun hx => by first | (exfalso; omega) | (exfalso; simp_all; done), fun _ => ?_⟩) | intro _
    repeat (refine ⟨by first | with_reducible assumption | omega | (intros; first | assumption | omega) | (simp only [go_sem] at *; first | assumption | omega) | decide, ?_⟩)
    first | (refine ⟨fun hx => by first | (exfalso; omega) | (exfalso; simp_all; done), fun _ => ?_⟩) | intro _
    repeat (refine ⟨by first | with_reducible assumption | omega | (intros; first | assumption | omega) | (simp only [go_sem] at *; first | assumption | omega) | decide, ?_⟩)
    obtain rfl := Option.some.inj h
    refine eK (iK rfl rfl rfl rfl)
 ·rintro u h
  try dsimp only at h
  simp only [go_sem]
  unfold nD at h
  refine aD (aG hF [13, 14, 15] ?_)
  simp only [go_sem]
  refine aF (gP (xR (D := Int) [13, 14] (fun d => [(15, .val (.i .i64) d)]) (fun d => []) h ?_ ?_ ?_))
  ·first | rfl | (simp only [go_sem]; done)
  ·(try simp only [kH, fO, true_or, and_self, go_sem]) <;> (repeat' apply And.intro) <;> first | rfl | (left; rfl) | (right; rfl) | (left; simp only [go_sem]; done) | (right; simp only [go_sem]; done) | (simp; done) | (simp only [*]; done) | omega
  rintro x15_13 s2 h hs2
  simp only [go_sem]
  try dsimp only at h
  unfold jJ at h
  refine aD (aG hF [13, 14, 15, 16] ?_)
  simp only [go_sem]
  refine aF (aD (bV rfl (fun hc => ?_) (fun hc => ?_)))
  ·try simp only [go_sem] at hc
   have h := fR (by first | exact hc | omega | (simpa using hc) | (simp at hc ⊢; omega)) h
   refine cJ (aF (aD (gP (aD (bO hF [5, 13, 14, 15] ?_)))))
   simp only [go_sem]
   obtain ⟨g0, h⟩ := aH h
   repeat (refine ⟨by first | with_reducible assumption | omega | (intros; first | assumption | omega) | (simp only [go_sem] at *; first | assumption | omega) | decide, ?_⟩)
   obtain ⟨g0, h⟩ := aH h
   obtain ⟨e, he1, h⟩ := bind_some h
   rcases e with r_19 | p_20
   ·try dsimp only at h
    refine aF (aW hF (bY (l := [(109, ⟨dH, [], (((bQ (l_1.getD (x15_13.toNat) (false, ([] : List Nat), (0 : Int), ()))).getD false), (1 : Int), .inl r_19)⟩)]) (.cons fI (by kernel_rfl) (.nil))) [13, 14, 15] [] ?_)
    simp only [go_sem]
    repeat (refine ⟨by first | with_reducible assumption | omega | (intros; first | assumption | omega) | (simp only [go_sem] at *; first | assumption | omega) | decide, ?_⟩)
    refine gE (aF (aG hF [13, 14, 15] ?_))
    simp only [go_sem]
    obtain ⟨g0, h⟩ := aH h
    try simp only [I64, I32] at g0
    repeat (refine ⟨by first | with_reducible assumption | omega | (intros; first | assumption | omega) | (simp only [go_sem] at *; first | assumption | omega) | decide, ?_⟩)
    obtain rfl := Option.some.inj h
    dsimp only [uM] at hs2
    refine bG (aAP [] rfl rfl ?_)
    simp only [ren, gN, nM, posOf, fG, go_sem]
    refine aY ((x15_13 + (1 : Int))) hs2 rfl ?_
    ·(try simp only [kH, fO, true_or, and_self, go_sem]) <;> (repeat' apply And.intro) <;> first | rfl | (left; rfl) | (right; rfl) | (left; simp only [go_sem]; done) | (right; simp only [go_sem]; done) | (simp; done) | (simp only [*]; done) | omega
   ·try dsimp only at h
    refine aF (aW hF (bY (l := [(109, ⟨dH, [], (((bQ (l_1.getD (x15_13.toNat) (false, ([] : List Nat), (0 : Int), ()))).getD false), (1 : Int), .inr p_20)⟩)]) (.cons fI (by kernel_rfl) (.nil))) [13, 14, 15] [] ?_)
    simp only [go_sem]
    repeat (refine ⟨by first | with_reducible assumption | omega | (intros; first | assumption | omega) | (simp only [go_sem] at *; first | assumption | omega) | decide, ?_⟩)
    obtain rfl := Option.some.inj h
    dsimp only [uM] at hs2
    have h := hs2
    try dsimp only at h
    obtain rfl := Option.some.inj h
    refine aJk (eK (eK (aJk (lO [] rfl rfl ?_))))
    simp only [ren, gN, nM, posOf, fG, go_sem]
    refine iK rfl rfl rfl rfl
  ·try simp only [go_sem] at hc
   have h := fS (by first | exact hc | omega | (simpa using hc) | (simp at hc ⊢; omega)) h
   obtain rfl := Option.some.inj h
   dsimp only [uM] at hs2
   have h := hs2
   try dsimp only at h
   obtain rfl := Option.some.inj h
   refine uI (eP (eP (iR (zC (tD hF [] rfl rfl rfl rfl rfl rfl ?_)))))
   (try simp only [bA, xQ, wO, fO, lN, AV.isAgg, go_sem]) <;> first | trivial | rfl | (simp; done)
attribute [go_sem] qH
noncomputable def kZ (neg_0 : Bool) (e_8 : Int) (m_10 : (List Nat)) : Option (((Bool × ((List Nat) × (Int × Unit))) ⊕ (Int × Unit))) :=
 ck (((bJ neg_0 m_10 e_8).isSome = true)) (((gJ (decide (((((bJ neg_0 m_10 e_8).getD ((false, ([] : List Nat), (0 : Int), ()), (0 : Int), ())).2).1) = (0 : Int))) ((((bJ neg_0 m_10 e_8).getD ((false, ([] : List Nat), (0 : Int), ()), (0 : Int), ())).2).1))).bind (fun e => match e with | .inl r_15 => some (.inl (((bJ neg_0 m_10 e_8).getD ((false, ([] : List Nat), (0 : Int), ()), (0 : Int), ())).1)) | .inr p_16 => some (.inr p_16)))
noncomputable def lB (up_5 : Bool) (neg_0 : Bool) (m_7 : (List Nat)) (e_8 : Int) (rest_9 : Bool) : Option (((Bool × ((List Nat) × (Int × Unit))) ⊕ (Int × Unit))) :=
 if (rest_9 = true) ∧ ((up_5 != neg_0) = true) then ck ((aCO m_7 ([1] : List Nat))) (kZ neg_0 e_8 (fM m_7 ([1] : List Nat))) else kZ neg_0 e_8 m_7
noncomputable def pH (neg_0 : Bool) (m_1 : (List Nat)) (e_2 : Int) (rest_3 : Bool) (p_4 : Int) (up_5 : Bool) : Option ((Bool × ((List Nat) × (Int × Unit))) ⊕ (Int × Unit)) :=
 ck ((aEl m_1)) (ck (I64 ((aT m_1) - p_4)) (if (0 : Int) < ((aT m_1) - p_4) then ck ((¬ (rest_3 = true) → ((pSz m_1)))) (ck ((aDM m_1 ((aT m_1) - p_4))) (ck (I64 (e_2 + ((aT m_1) - p_4))) (lB up_5 neg_0 (cH m_1 ((aT m_1) - p_4)) (e_2 + ((aT m_1) - p_4)) (rest_3 || (decide ((bS m_1) < ((aT m_1) - p_4))))))) else lB up_5 neg_0 m_1 e_2 rest_3))
noncomputable def qI : lG where
 D := Bool × (List Nat) × Int × Bool × Int × Bool × ((Bool × ((List Nat) × (Int × Unit))) ⊕ (Int × Unit))
 av := fun d => [.val .bool d.1, .val (.sl (.u .u64)) d.2.1, .val (.i .i64) d.2.2.1, .val .bool d.2.2.2.1, .val (.i .i64) d.2.2.2.2.1, .val .bool d.2.2.2.2.2.1]
 hp := fun d => []
 m := 0
 pre := fun d => pH d.1 d.2.1 d.2.2.1 d.2.2.2.1 d.2.2.2.2.1 d.2.2.2.2.2.1 = some d.2.2.2.2.2.2
 out := fun d => match d.2.2.2.2.2.2 with | .inl r => .ret (.val (.pair .bool (.pair (.sl (.u .u64)) (.pair (.i .i64) .unit))) r) [] | .inr p => .pan ⟨165, (.pair (.i .i64) .unit), p⟩ []
noncomputable def nE : List (FuncId × aL) := [(54, iY), (69, gG), (70, kA), (71, lI), (89, iU)]
theorem aEL : bW Tryz.prog GL nE := .cons wA (by kernel_rfl) (.cons tF (by kernel_rfl) (.cons zL (by kernel_rfl) (.cons aAY (by kernel_rfl) (.cons vW (by kernel_rfl) (.nil)))))
theorem aHa : gam nE 54 = some iY := rfl
attribute [go_sem] aHa
theorem aHb : gam nE 69 = some gG := rfl
attribute [go_sem] aHb
theorem aHc : gam nE 70 = some kA := rfl
attribute [go_sem] aHc
theorem aHd : gam nE 71 = some lI := rfl
attribute [go_sem] aHd
theorem aHe : gam nE 89 = some iU := rfl
attribute [go_sem] aHe
set_option maxHeartbeats 4000000 in
theorem aC7 : GOK Tryz.prog GL 110 qI := by
 refine oF (bI aEL) Tryz.func110 rfl (by kernel_rfl) (fun _ => Nat.le_of_ble_eq_true rfl) fun c0 w0 d hw1 hw2 h hn => ?_
 have hF : jB ⟨Tryz.prog, EM nE, GM qI c0 d, w0, Tryz.f110.ntmps, []⟩ := ⟨bI aEL, mix⟩
 obtain ⟨(neg_0 : Bool), (m_1 : (List Nat)), (e_2 : Int), (rest_3 : Bool), (p_4 : Int), (up_5 : Bool), r⟩ := d
 replace h : pH neg_0 m_1 e_2 rest_3 p_4 up_5 = some r := h
 have hw1 : AV.wfL [.val .bool neg_0, .val (.sl (.u .u64)) m_1, .val (.i .i64) e_2, .val .bool rest_3, .val (.i .i64) p_4, .val .bool up_5] := hw1
 simp only [AV.wfL, AV.wfV, Ty.wf, mJ] at hw1
 show Tri _ _ _ [(0, .val .bool neg_0), (1, .val (.sl (.u .u64)) m_1), (2, .val (.i .i64) e_2), (3, .val .bool rest_3), (4, .val (.i .i64) p_4), (5, .val .bool up_5)] []
 unfold pH at h
 refine aD (bO hF [0, 1, 2, 3, 4, 5, 12] ?_)
 simp only [go_sem]
 refine aF (jW (D := (List Nat) × Int × Bool) (fun d => lB up_5 neg_0 d.1 d.2.1 d.2.2 = some r) [0, 5] (fun d => [(1, .val (.sl (.u .u64)) d.1), (2, .val (.i .i64) d.2.1), (3, .val .bool d.2.2), (12, .ptr 0 [])]) (fun d => [.inr (.box 3 (.val (.pair .bool (.pair (.sl (.u .u64)) (.pair (.i .i64) .unit))) (false, ([] : List Nat), (0 : Int), ())))]) ?_ ?_)
 ·refine aD (aG hF [0, 1, 2, 3, 5, 12, 13] ?_)
  simp only [go_sem]
  obtain ⟨g0, h⟩ := aH h
  obtain ⟨g1, h⟩ := aH h
  try simp only [I64, I32] at g1
  repeat (refine ⟨by first | with_reducible assumption | omega | (intros; first | assumption | omega) | (simp only [go_sem] at *; first | assumption | omega) | decide, ?_⟩)
  refine aF (aD (aG hF [0, 1, 2, 3, 5, 12, 13, 21] ?_))
  simp only [go_sem]
  refine aF (bV rfl (fun hc => ?_) (fun hc => ?_))
  ·try simp only [go_sem] at hc
   have h := fR (by first | exact hc | omega | (simpa using hc) | (simp at hc ⊢; omega)) h
   refine aD (aG hF [0, 1, 2, 3, 5, 12, 13] ?_)
   simp only [go_sem]
   obtain ⟨g0, h⟩ := aH h
   repeat (refine ⟨by first | with_reducible assumption | omega | (intros; first | assumption | omega) | (simp only [go_sem] at *; first | assumption | omega) | (intro q0; (try have e0 := g0 (by first | exact q0 | omega | (simpa using q0))); first | assumption | omega) | decide, ?_⟩)
   refine aF (aG hF [0, 1, 2, 3, 5, 12] ?_)
   simp only [go_sem]
   obtain ⟨g0, h⟩ := aH h
   obtain ⟨g1, h⟩ := aH h
   try simp only [I64, I32] at g1
   repeat (refine ⟨by first | with_reducible assumption | omega | (intros; first | assumption | omega) | (simp only [go_sem] at *; first | assumption | omega) | decide, ?_⟩)
   refine bG (aY (((cH m_1 ((aT m_1) - p_4)), (e_2 + ((aT m_1) - p_4)), (rest_3 || (decide ((bS m_1) < ((aT m_1) - p_4)))))) h rfl ?_)
   ·(try simp only [kH, fO, true_or, and_self, go_sem]) <;> (repeat' apply And.intro) <;> first | rfl | (left; rfl) | (right; rfl) | (left; simp only [go_sem]; done) | (right; simp only [go_sem]; done) | (simp; done) | (simp only [*]; done) | omega
  ·try simp only [go_sem] at hc
   have h := fS (by first | exact hc | omega | (simpa using hc) | (simp at hc ⊢; omega)) h
   refine cJ (bG (aY ((m_1, e_2, rest_3)) h rfl ?_))
   ·(try simp only [kH, fO, true_or, and_self, go_sem]) <;> (repeat' apply And.intro) <;> first | rfl | (left; rfl) | (right; rfl) | (left; simp only [go_sem]; done) | (right; simp only [go_sem]; done) | (simp; done) | (simp only [*]; done) | omega
 ·rintro ⟨m_7, e_8, rest_9⟩ h
  try dsimp only at h
  simp only [go_sem]
  unfold lB at h
  refine jW (D := (List Nat)) (fun d => kZ neg_0 e_8 d = some r) [0, 2] (fun d => [(1, .val (.sl (.u .u64)) d), (12, .ptr 0 [])]) (fun d => [.inr (.box 3 (.val (.pair .bool (.pair (.sl (.u .u64)) (.pair (.i .i64) .unit))) (false, ([] : List Nat), (0 : Int), ())))]) ?_ ?_
  ·refine aD (aG hF [0, 1, 2, 12, 40] ?_)
   simp only [go_sem]
   refine aF (bV rfl (fun hc => ?_) (fun hc => ?_))
   ·try simp only [go_sem] at hc
    have h := fR (by first | exact hc | omega | (simpa using hc) | (simp at hc ⊢; omega)) h
    refine aG hF [0, 1, 2, 12] ?_
    simp only [go_sem]
    obtain ⟨g0, h⟩ := aH h
    repeat (refine ⟨by first | with_reducible assumption | omega | (intros; first | assumption | omega) | (simp only [go_sem] at *; first | assumption | omega) | decide, ?_⟩)
    refine bG (aY ((fM m_7 ([1] : List Nat))) h rfl ?_)
    ·(try simp only [kH, fO, true_or, and_self, go_sem]) <;> (repeat' apply And.intro) <;> first | rfl | (left; rfl) | (right; rfl) | (left; simp only [go_sem]; done) | (right; simp only [go_sem]; done) | (simp; done) | (simp only [*]; done) | omega
   ·try simp only [go_sem] at hc
    have h := fS (by first | exact hc | omega | (simpa using hc) | (simp at hc ⊢; omega)) h
    refine cJ (bG (aY (m_7) h rfl ?_))
    ·(try simp only [kH, fO, true_or, and_self, go_sem]) <;> (repeat' apply And.intro) <;> first | rfl | (left; rfl) | (right; rfl) | (left; simp only [go_sem]; done) | (right; simp only [go_sem]; done) | (simp; done) | (simp only [*]; done) | omega
  ·rintro m_10 h
   try dsimp only at h
   simp only [go_sem]
   unfold kZ at h
   refine aD (bO hF [12, 14, 15] ?_)
   simp only [go_sem]
   obtain ⟨g0, h⟩ := aH h
   repeat (refine ⟨by first | with_reducible assumption | omega | (intros; first | assumption | omega) | (simp only [go_sem] at *; first | assumption | omega) | decide, ?_⟩)
   obtain ⟨e, he1, h⟩ := bind_some h
   rcases e with r_15 | p_16
   ·try dsimp only at h
    refine aF (aD (aW hF (bY (l := [(109, ⟨dH, [], ((decide (((((bJ neg_0 m_10 e_8).getD ((false, ([] : List Nat), (0 : Int), ()), (0 : Int), ())).2).1) = (0 : Int))), ((((bJ neg_0 m_10 e_8).getD ((false, ([] : List Nat), (0 : Int), ()), (0 : Int), ())).2).1), .inl r_15)⟩)]) (.cons fI (by kernel_rfl) (.nil))) [12, 14] [] ?_))
    simp only [go_sem]
    repeat (refine ⟨by first | with_reducible assumption | omega | (intros; first | assumption | omega) | (simp only [go_sem] at *; first | assumption | omega) | decide, ?_⟩)
    refine aF (aD (bO hF [12] ?_))
    simp only [go_sem]
    obtain rfl := Option.some.inj h
    refine aF (cW (sA hF [.cell 12 25] [] rfl rfl rfl rfl rfl rfl rfl rfl rfl ?_))
    (try simp only [bA, xQ, wO, fO, lN, AV.isAgg, go_sem]) <;> first | trivial | rfl | (simp; done)
   ·try dsimp only at h
    refine aF (aD (aW hF (bY (l := [(109, ⟨dH, [], ((decide (((((bJ neg_0 m_10 e_8).getD ((false, ([] : List Nat), (0 : Int), ()), (0 : Int), ())).2).1) = (0 : Int))), ((((bJ neg_0 m_10 e_8).getD ((false, ([] : List Nat), (0 : Int), ()), (0 : Int), ())).2).1), .inr p_16)⟩)]) (.cons fI (by kernel_rfl) (.nil))) [12, 14] [] ?_))
    simp only [go_sem]
    repeat (refine ⟨by first | with_reducible assumption | omega | (intros; first | assumption | omega) | (simp only [go_sem] at *; first | assumption | omega) | decide, ?_⟩)
    obtain rfl := Option.some.inj h
    refine eK (lO [] rfl rfl ?_)
    simp only [ren, gN, nM, posOf, fG, go_sem]
    refine iK rfl rfl rfl rfl
attribute [go_sem] qI
noncomputable def lC (a0_0 : Int) (a1_1 : (Bool × ((List Nat) × (Int × Unit)))) (a2_2 : (Bool × ((List Nat) × (Int × Unit)))) (a3_3 : Bool) : Option ((Bool × ((List Nat) × (Int × Unit))) ⊕ (Int × Unit)) :=
 ((pG a0_0 ([a1_1, a2_2] : List (Bool × ((List Nat) × (Int × Unit)))))).bind (fun e => match e with | .inl r_9 => ((gJ (decide ((0 : Int) < (((((a2_2.2).1).length) : Nat) : Int))) (4 : Int))).bind (fun e => match e with | .inl r_15 => ck (I64 (a0_0 + (1 : Int))) (ck ((aEl ((a2_2.2).1))) (ck (I64 ((a0_0 + (1 : Int)) + (aT ((a2_2.2).1)))) (ck ((aEl ((a1_1.2).1))) (ck (I64 (((a0_0 + (1 : Int)) + (aT ((a2_2.2).1))) - (aT ((a1_1.2).1)))) (ck ((aEo ((a1_1.2).1) (max (0 : Int) (((a0_0 + (1 : Int)) + (aT ((a2_2.2).1))) - (aT ((a1_1.2).1)))))) (ck ((nS (bF ((a1_1.2).1) (max (0 : Int) (((a0_0 + (1 : Int)) + (aT ((a2_2.2).1))) - (aT ((a1_1.2).1))))) ((a2_2.2).1))) (ck (I64 ((((a1_1.2).2).1) - (((a2_2.2).2).1))) (ck (I64 (((((a1_1.2).2).1) - (((a2_2.2).2).1)) - (max (0 : Int) (((a0_0 + (1 : Int)) + (aT ((a2_2.2).1))) - (aT ((a1_1.2).1)))))) (((pH ((a1_1.1) != (a2_2.1)) ((bD (bF ((a1_1.2).1) (max (0 : Int) (((a0_0 + (1 : Int)) + (aT ((a2_2.2).1))) - (aT ((a1_1.2).1))))) ((a2_2.2).1)).1) (((((a1_1.2).2).1) - (((a2_2.2).2).1)) - (max (0 : Int) (((a0_0 + (1 : Int)) + (aT ((a2_2.2).1))) - (aT ((a1_1.2).1))))) (decide ((0 : Int) < ((((((bD (bF ((a1_1.2).1) (max (0 : Int) (((a0_0 + (1 : Int)) + (aT ((a2_2.2).1))) - (aT ((a1_1.2).1))))) ((a2_2.2).1)).2).1).length) : Nat) : Int))) a0_0 a3_3)).bind (fun e => match e with | .inl r_21 => some (.inl r_21) | .inr p_22 => some (.inr p_22))))))))))) | .inr p_16 => some (.inr p_16)) | .inr p_10 => some (.inr p_10))
noncomputable def lY : lG where
 D := Int × (Bool × ((List Nat) × (Int × Unit))) × (Bool × ((List Nat) × (Int × Unit))) × Bool × ((Bool × ((List Nat) × (Int × Unit))) ⊕ (Int × Unit))
 av := fun d => [.val (.rp (.i .i64)) d.1, .val (.rp (.pair .bool (.pair (.sl (.u .u64)) (.pair (.i .i64) .unit)))) d.2.1, .val (.rp (.pair .bool (.pair (.sl (.u .u64)) (.pair (.i .i64) .unit)))) d.2.2.1, .val (.rp .bool) d.2.2.2.1]
 hp := fun d => []
 m := 0
 pre := fun d => lC d.1 d.2.1 d.2.2.1 d.2.2.2.1 = some d.2.2.2.2
 out := fun d => match d.2.2.2.2 with | .inl r => .ret (.val (.pair .bool (.pair (.sl (.u .u64)) (.pair (.i .i64) .unit))) r) [] | .inr p => .pan ⟨165, (.pair (.i .i64) .unit), p⟩ []
noncomputable def nF : List (FuncId × aL) := [(62, iZ), (68, iV), (89, iU)]
theorem aA7 : bW Tryz.prog GL nF := .cons wW (by kernel_rfl) (.cons vY (by kernel_rfl) (.cons vW (by kernel_rfl) (.nil)))
theorem aC8 : gam nF 62 = some iZ := rfl
attribute [go_sem] aC8
theorem aC9 : gam nF 68 = some iV := rfl
attribute [go_sem] aC9
theorem aDa : gam nF 89 = some iU := rfl
attribute [go_sem] aDa
set_option maxHeartbeats 4000000 in
theorem aAj : GOK Tryz.prog GL 107 lY := by
 refine oF (bI aA7) Tryz.func107 rfl (by kernel_rfl) (fun _ => Nat.le_of_ble_eq_true rfl) fun c0 w0 d hw1 hw2 h hn => ?_
 have hF : jB ⟨Tryz.prog, EM nF, GM lY c0 d, w0, Tryz.f107.ntmps, []⟩ := ⟨bI aA7, mix⟩
 obtain ⟨(a0_0 : Int), (a1_1 : (Bool × ((List Nat) × (Int × Unit)))), (a2_2 : (Bool × ((List Nat) × (Int × Unit)))), (a3_3 : Bool), r⟩ := d
 replace h : lC a0_0 a1_1 a2_2 a3_3 = some r := h
 have hw1 : AV.wfL [.val (.rp (.i .i64)) a0_0, .val (.rp (.pair .bool (.pair (.sl (.u .u64)) (.pair (.i .i64) .unit)))) a1_1, .val (.rp (.pair .bool (.pair (.sl (.u .u64)) (.pair (.i .i64) .unit)))) a2_2, .val (.rp .bool) a3_3] := hw1
 simp only [AV.wfL, AV.wfV, Ty.wf, mJ] at hw1
 show Tri _ _ _ [(0, .roa (.i .i64) a0_0), (1, .roa (.pair .bool (.pair (.sl (.u .u64)) (.pair (.i .i64) .unit))) a1_1), (2, .roa (.pair .bool (.pair (.sl (.u .u64)) (.pair (.i .i64) .unit))) a2_2), (3, .roa .bool a3_3)] []
 unfold lC at h
 refine aD (bO hF [0, 1, 2, 3, 4] ?_)
 simp only [go_sem]
 obtain ⟨e, he1, h⟩ := bind_some h
 rcases e with r_9 | p_10
 ·try dsimp only at h
  refine aF (aD (aW hF (bY (l := [(108, ⟨qH, [], (a0_0, ([a1_1, a2_2] : List (Bool × ((List Nat) × (Int × Unit)))), .inl r_9)⟩)]) (.cons aC6 (by kernel_rfl) (.nil))) [0, 1, 2, 3, 4] [] ?_))
  simp only [go_sem]
  repeat (refine ⟨by first | with_reducible assumption | omega | (intros; first | assumption | omega) | (simp only [go_sem] at *; first | assumption | omega) | decide, ?_⟩)
  obtain ⟨e, he2, h⟩ := bind_some h
  rcases e with r_15 | p_16
  ·try dsimp only at h
   refine aF (aD (aW hF (bY (l := [(109, ⟨dH, [], ((decide ((0 : Int) < (((((a2_2.2).1).length) : Nat) : Int))), (4 : Int), .inl r_15)⟩)]) (.cons fI (by kernel_rfl) (.nil))) [0, 1, 2, 3, 4] [] ?_))
   simp only [go_sem]
   repeat (refine ⟨by first | with_reducible assumption | omega | (intros; first | assumption | omega) | (simp only [go_sem] at *; first | assumption | omega) | decide, ?_⟩)
   refine aF (aD (aG hF [0, 1, 2, 3, 4, 5] ?_))
   simp only [go_sem]
   obtain ⟨g0, h⟩ := aH h
   obtain ⟨g1, h⟩ := aH h
   obtain ⟨g2, h⟩ := aH h
   obtain ⟨g3, h⟩ := aH h
   obtain ⟨g4, h⟩ := aH h
   try simp only [I64, I32] at g0
   try simp only [I64, I32] at g2
   try simp only [I64, I32] at g4
   repeat (refine ⟨by first | with_reducible assumption | omega | (intros; first | assumption | omega) | (simp only [go_sem] at *; first | assumption | omega) | decide, ?_⟩)
   refine aF (aD (aG hF [0, 1, 2, 3, 4, 5, 6, 7] ?_))
   simp only [go_sem]
   obtain ⟨g0, h⟩ := aH h
   obtain ⟨g1, h⟩ := aH h
   repeat (refine ⟨by first | with_reducible assumption | omega | (intros; first | assumption | omega) | (simp only [go_sem] at *; first | assumption | omega) | decide, ?_⟩)
   obtain ⟨g0, h⟩ := aH h
   try simp only [I64, I32] at g0
   obtain ⟨g1, h⟩ := aH h
   try simp only [I64, I32] at g1
   obtain ⟨e, he3, h⟩ := bind_some h
   rcases e with r_21 | p_22
   ·try dsimp only at h
    refine aF (aD (aW hF (bY (l := [(110, ⟨qI, [], (((a1_1.1) != (a2_2.1)), ((bD (bF ((a1_1.2).1) (max (0 : Int) (((a0_0 + (1 : Int)) + (aT ((a2_2.2).1))) - (aT ((a1_1.2).1))))) ((a2_2.2).1)).1), (((((a1_1.2).2).1) - (((a2_2.2).2).1)) - (max (0 : Int) (((a0_0 + (1 : Int)) + (aT ((a2_2.2).1))) - (aT ((a1_1.2).1))))), (decide ((0 : Int) < ((((((bD (bF ((a1_1.2).1) (max (0 : Int) (((a0_0 + (1 : Int)) + (aT ((a2_2.2).1))) - (aT ((a1_1.2).1))))) ((a2_2.2).1)).2).1).length) : Nat) : Int))), a0_0, a3_3, .inl r_21)⟩)]) (.cons aC7 (by kernel_rfl) (.nil))) [4] [] ?_))
    simp only [go_sem]
    repeat (refine ⟨by first | with_reducible assumption | omega | (intros; first | assumption | omega) | (simp only [go_sem] at *; first | assumption | omega) | decide, ?_⟩)
    obtain rfl := Option.some.inj h
    refine aF (cW (sA hF [.cell 4 25] [] rfl rfl rfl rfl rfl rfl rfl rfl rfl ?_))
    (try simp only [bA, xQ, wO, fO, lN, AV.isAgg, go_sem]) <;> first | trivial | rfl | (simp; done)
   ·try dsimp only at h
    refine aF (aD (aW hF (bY (l := [(110, ⟨qI, [], (((a1_1.1) != (a2_2.1)), ((bD (bF ((a1_1.2).1) (max (0 : Int) (((a0_0 + (1 : Int)) + (aT ((a2_2.2).1))) - (aT ((a1_1.2).1))))) ((a2_2.2).1)).1), (((((a1_1.2).2).1) - (((a2_2.2).2).1)) - (max (0 : Int) (((a0_0 + (1 : Int)) + (aT ((a2_2.2).1))) - (aT ((a1_1.2).1))))), (decide ((0 : Int) < ((((((bD (bF ((a1_1.2).1) (max (0 : Int) (((a0_0 + (1 : Int)) + (aT ((a2_2.2).1))) - (aT ((a1_1.2).1))))) ((a2_2.2).1)).2).1).length) : Nat) : Int))), a0_0, a3_3, .inr p_22)⟩)]) (.cons aC7 (by kernel_rfl) (.nil))) [4] [] ?_))
    simp only [go_sem]
    repeat (refine ⟨by first | with_reducible assumption | omega | (intros; first | assumption | omega) | (simp only [go_sem] at *; first | assumption | omega) | decide, ?_⟩)
    obtain rfl := Option.some.inj h
    refine eK (lO [] rfl rfl ?_)
    simp only [ren, gN, nM, posOf, fG, go_sem]
    refine iK rfl rfl rfl rfl
  ·try dsimp only at h
   refine aF (aD (aW hF (bY (l := [(109, ⟨dH, [], ((decide ((0 : Int) < (((((a2_2.2).1).length) : Nat) : Int))), (4 : Int), .inr p_16)⟩)]) (.cons fI (by kernel_rfl) (.nil))) [0, 1, 2, 3, 4] [] ?_))
   simp only [go_sem]
   repeat (refine ⟨by first | with_reducible assumption | omega | (intros; first | assumption | omega) | (simp only [go_sem] at *; first | assumption | omega) | decide, ?_⟩)
   obtain rfl := Option.some.inj h
   refine eK (lO [] rfl rfl ?_)
   simp only [ren, gN, nM, posOf, fG, go_sem]
   refine iK rfl rfl rfl rfl
 ·try dsimp only at h
  refine aF (aD (aW hF (bY (l := [(108, ⟨qH, [], (a0_0, ([a1_1, a2_2] : List (Bool × ((List Nat) × (Int × Unit)))), .inr p_10)⟩)]) (.cons aC6 (by kernel_rfl) (.nil))) [0, 1, 2, 3, 4] [] ?_))
  simp only [go_sem]
  repeat (refine ⟨by first | with_reducible assumption | omega | (intros; first | assumption | omega) | (simp only [go_sem] at *; first | assumption | omega) | decide, ?_⟩)
  obtain rfl := Option.some.inj h
  refine eK (lO [] rfl rfl ?_)
  simp only [ren, gN, nM, posOf, fG, go_sem]
  refine iK rfl rfl rfl rfl
attribute [go_sem] lY
def nG : lG where
 D := (Bool × ((List Nat) × (Int × Unit))) × Int
 av := fun _ => [.ptr 0 [], .ptr 1 []]
 hp := fun d => [.box 3 (.val (.pair .bool (.pair (.sl (.u .u64)) (.pair (.i .i64) .unit))) d.1), .box 1 (.val (.i .i64) d.2)]
 m := 2
 pre := fun _ => True
 out := fun d => .ret (.tup []) [.box 3 (.val (.pair .bool (.pair (.sl (.u .u64)) (.pair (.i .i64) .unit))) d.1), .box 1 (.val (.i .i64) d.2)]
def nH (x : (Int × Unit)) : lG where
 D := (Bool × ((List Nat) × (Int × Unit))) × Int
 av := fun _ => [.ptr 0 [], .ptr 1 []]
 hp := fun d => [.box 3 (.val (.pair .bool (.pair (.sl (.u .u64)) (.pair (.i .i64) .unit))) d.1), .box 1 (.val (.i .i64) d.2)]
 m := 2
 pre := fun _ => True
 out := fun d => .ret (.tup []) [.box 3 (.val (.pair .bool (.pair (.sl (.u .u64)) (.pair (.i .i64) .unit))) (false, ([] : List Nat), (0 : Int), ())), .box 1 (.val (.i .i64) x.1)]
theorem aFn : DOK Tryz.prog GL 151 none nG := by
 refine aJY (bI sH) Tryz.func151 rfl (by kernel_rfl) (fun _ => Nat.le_of_ble_eq_true rfl) rfl fun c w d hw1 hw2 hp hn => ?_
 have hF : jB ⟨Tryz.prog, EM [], GM nG c d, w, Tryz.f151.ntmps, []⟩ := ⟨bI sH, mix⟩
 obtain ⟨d, e⟩ := d
 show mK _ _ _ [(5, .val .nili ()), (0, .ptr 0 []), (1, .ptr 1 [])] [.box 3 (.val (.pair .bool (.pair (.sl (.u .u64)) (.pair (.i .i64) .unit))) d), .box 1 (.val (.i .i64) e)] _
 simp only [go_sem]
 refine aD (aG hF [0, 1, 2, 9] ?_)
 simp only [go_sem]
 refine aF (bV rfl (fun hc => absurd hc (by decide)) (fun hc => ?_))
 refine cJ ?_
 refine aAP [0, 1] rfl rfl ?_
 simp only [ren, gN, nM, posOf, fG, go_sem]
 refine zC (tD hF [] rfl rfl rfl rfl rfl rfl ?_)
 simp only [bA, xQ, wO, go_sem]
 try decide
theorem aFo (x : (Int × Unit)) : DOK Tryz.prog GL 151 (some ⟨165, (.pair (.i .i64) .unit), x⟩) (nH x) := by
 refine aJY (bI sH) Tryz.func151 rfl (by kernel_rfl) (fun _ => Nat.le_of_ble_eq_true rfl) rfl fun c w d hw1 hw2 hp hn => ?_
 have hF : jB ⟨Tryz.prog, EM [], GM (nH x) c d, w, Tryz.f151.ntmps, []⟩ := ⟨bI sH, mix⟩
 obtain ⟨d, e⟩ := d
 show mK _ _ _ [(5, .val (.ifc 165 (.pair (.i .i64) .unit)) x), (0, .ptr 0 []), (1, .ptr 1 [])] [.box 3 (.val (.pair .bool (.pair (.sl (.u .u64)) (.pair (.i .i64) .unit))) d), .box 1 (.val (.i .i64) e)] _
 simp only [go_sem]
 refine aD (aG hF [0, 1, 2, 9] ?_)
 simp only [go_sem]
 refine aF (bV rfl (fun hc => ?_) (fun hc => absurd hc (by decide)))
 refine aEj hF [] [] [.box 3 (.val (.pair .bool (.pair (.sl (.u .u64)) (.pair (.i .i64) .unit))) (false, ([] : List Nat), (0 : Int), ())), .box 1 (.val (.i .i64) x.1), .box 1 (.val (.pair (.i .i64) .unit) x)] (by decide) ?_ ?_
 ·simp only [go_sem]
  unfold anyS
  intro i hi
  have hi : i = 0 ∨ i = 1 := by revert hi; revert i; decide
  rcases hi with rfl | rfl
  ·simp only [go_sem]
   skip
   unfold anyS
   intro i hi
   have hi : i = 1 ∨ i = 3 := by revert hi; revert i; decide
   rcases hi with rfl | rfl
   ·simp only [go_sem]
    skip
    unfold anyS
    intro i hi
    have hi : i = 2 ∨ i = 3 := by revert hi; revert i; decide
    rcases hi with rfl | rfl
    ·simp only [go_sem]
     skip
     unfold anyS
     intro i hi
     have hi : i = 3 := by revert hi; revert i; decide
     subst hi
     simp only [go_sem]
     skip
     unfold anyS
     intro i hi
     have hi : i = 4 := by revert hi; revert i; decide
     subst hi
     simp only [go_sem]
     skip
     (simp only [anyS, go_sem]) <;> first | exact ⟨rfl, rfl⟩ | trivial
    ·simp only [go_sem]
     skip
     unfold anyS
     intro i hi
     have hi : i = 2 := by revert hi; revert i; decide
     subst hi
     simp only [go_sem]
     skip
     unfold anyS
     intro i hi
     have hi : i = 4 := by revert hi; revert i; decide
     subst hi
     simp only [go_sem]
     skip
     (simp only [anyS, go_sem]) <;> first | exact ⟨rfl, rfl⟩ | trivial
   ·simp only [go_sem]
    skip
    unfold anyS
    intro i hi
    have hi : i = 1 := by revert hi; revert i; decide
    subst hi
    simp only [go_sem]
    skip
    unfold anyS
    intro i hi
    have hi : i = 2 := by revert hi; revert i; decide
    subst hi
    simp only [go_sem]
    skip
    unfold anyS
    intro i hi
    have hi : i = 4 := by revert hi; revert i; decide
    subst hi
    simp only [go_sem]
    skip
    (simp only [anyS, go_sem]) <;> first | exact ⟨rfl, rfl⟩ | trivial
  ·simp only [go_sem]
   skip
   unfold anyS
   intro i hi
   have hi : i = 0 ∨ i = 2 := by revert hi; revert i; decide
   rcases hi with rfl | rfl
   ·simp only [go_sem]
    skip
    unfold anyS
    intro i hi
    have hi : i = 2 ∨ i = 3 := by revert hi; revert i; decide
    rcases hi with rfl | rfl
    ·simp only [go_sem]
     skip
     unfold anyS
     intro i hi
     have hi : i = 3 := by revert hi; revert i; decide
     subst hi
     simp only [go_sem]
     skip
     unfold anyS
     intro i hi
     have hi : i = 4 := by revert hi; revert i; decide
     subst hi
     simp only [go_sem]
     skip
     (simp only [anyS, go_sem]) <;> first | exact ⟨rfl, rfl⟩ | trivial
    ·simp only [go_sem]
     skip
     unfold anyS
     intro i hi
     have hi : i = 2 := by revert hi; revert i; decide
     subst hi
     simp only [go_sem]
     skip
     unfold anyS
     intro i hi
     have hi : i = 4 := by revert hi; revert i; decide
     subst hi
     simp only [go_sem]
     skip
     (simp only [anyS, go_sem]) <;> first | exact ⟨rfl, rfl⟩ | trivial
   ·simp only [go_sem]
    skip
    unfold anyS
    intro i hi
    have hi : i = 0 := by revert hi; revert i; decide
    subst hi
    simp only [go_sem]
    skip
    unfold anyS
    intro i hi
    have hi : i = 3 := by revert hi; revert i; decide
    subst hi
    simp only [go_sem]
    skip
    unfold anyS
    intro i hi
    have hi : i = 4 := by revert hi; revert i; decide
    subst hi
    simp only [go_sem]
    skip
    (simp only [anyS, go_sem]) <;> first | exact ⟨rfl, rfl⟩ | trivial
 refine aAP [0, 1] rfl rfl ?_
 simp only [ren, gN, nM, posOf, fG, go_sem]
 refine zC (tD hF [] rfl rfl rfl rfl rfl rfl ?_)
 simp only [bA, xQ, wO, go_sem]
 try decide
noncomputable def cD (c0 : Int) (c1 : (Bool × ((List Nat) × (Int × Unit)))) (c2 : (Bool × ((List Nat) × (Int × Unit)))) (c3 : Bool) : Option ((Bool × ((List Nat) × (Int × Unit))) × Int × Unit) :=
 (lC c0 c1 c2 c3).bind fun q => some (match q with | .inl r => (r, 0, ()) | .inr p => ((false, ([] : List Nat), (0 : Int), ()), p.1, ()))
def nI : Ty := .pair (.clo 107 (.pair (.rp (.i .i64)) (.pair (.rp (.pair .bool (.pair (.sl (.u .u64)) (.pair (.i .i64) .unit)))) (.pair (.rp (.pair .bool (.pair (.sl (.u .u64)) (.pair (.i .i64) .unit)))) (.pair (.rp .bool) .unit))))) .unit
noncomputable def fF : aL := mSpec nI (.tup (.pair (.pair .bool (.pair (.sl (.u .u64)) (.pair (.i .i64) .unit))) (.pair (.i .i64) .unit))) (fun x => cD x.1.1 x.1.2.1 x.1.2.2.1 x.1.2.2.2.1)
set_option maxHeartbeats 4000000 in
theorem tM : FOK Tryz.prog GL 106 fF := by
 refine aB5 (bI sH) Tryz.func106 rfl (by kernel_rfl) (by decide) fun w0 S x r hw h => ?_
 have hF : jB (fr Tryz.prog (EM []) S w0 Tryz.f106.ntmps) := ⟨bI sH, mix⟩
 obtain ⟨⟨(c0 : Int), (c1 : (Bool × ((List Nat) × (Int × Unit)))), (c2 : (Bool × ((List Nat) × (Int × Unit)))), (c3 : Bool), u1⟩, u⟩ := x
 replace h : cD c0 c1 c2 c3 = some r := h
 show Tri _ _ _ [(0, .val (.clo 107 (.pair (.rp (.i .i64)) (.pair (.rp (.pair .bool (.pair (.sl (.u .u64)) (.pair (.i .i64) .unit)))) (.pair (.rp (.pair .bool (.pair (.sl (.u .u64)) (.pair (.i .i64) .unit)))) (.pair (.rp .bool) .unit))))) (c0, c1, c2, c3, u1))] []
 unfold cD at h
 obtain ⟨q, hq, h⟩ := bind_some h
 obtain rfl := Option.some.inj h
 refine aD (bO hF [0, 2, 3] ?_)
 simp only [go_sem]
 refine aF (wP 2 [0, 1] rfl rfl (Nat.zero_le _) (by decide) fun roots hroots => ?_)
 have hF' : jB { fr Tryz.prog (EM []) S w0 Tryz.f106.ntmps with M := ⟨nothing, S, 2, roots⟩, ds := [⟨.fn (.func 151) ([0, 1].map roots).toArray, #[]⟩] } := ⟨bI sH, mix⟩
 rcases q with q | q
 ·refine aD (aW hF' (bY (l := [(107, ⟨lY, [], (c0, c1, c2, c3, .inl q)⟩)]) (.cons aAj (by kernel_rfl) .nil)) [2, 3] [] ?_)
  simp only [go_sem]
  refine ⟨hq, ?_⟩
  refine aF (cW ?_)
  refine aJW (fn := Tryz.f106) (k := 2) (l2 := [0, 1]) hF' rfl rfl (by decide) rfl (zA (by kernel_rfl)) ⟨nG, [0, 1], (q, 0)⟩ aFn rfl [.cell 2 25, .cell 3 3] rfl ?_ ?_
  ·(simp only [nG, go_sem]) <;> first | decide | trivial
  ·(simp only [nG, bA, jD, go_sem]) <;> first | decide | trivial
 ·refine aD (aW hF' (bY (l := [(107, ⟨lY, [], (c0, c1, c2, c3, .inr q)⟩)]) (.cons aAj (by kernel_rfl) .nil)) [2, 3] [] ?_)
  simp only [go_sem]
  refine ⟨hq, ?_⟩
  refine eK ?_
  refine aJX (fn := Tryz.f106) (k := 2) (l2 := [0, 1]) hF' rfl rfl (by decide) rfl (zA (by kernel_rfl)) ⟨nH q, [0, 1], ((false, ([] : List Nat), (0 : Int), ()), 0)⟩ (aFo q) rfl [.cell 2 25, .cell 3 3] rfl ?_ ?_
  ·(simp only [nH, go_sem]) <;> first | decide | trivial
  ·(simp only [nH, bA, jD, go_sem]) <;> first | decide | trivial
attribute [go_sem] fF nI
noncomputable def eE (a_0 : (Bool × ((List Nat) × (Int × Unit)))) (b_1 : (Bool × ((List Nat) × (Int × Unit)))) (p_2 : Int) (up_3 : Bool) : Option ((Bool × ((List Nat) × (Int × Unit))) × (Int × Unit)) :=
 ck (((cD p_2 a_0 b_1 up_3).isSome = true)) (some ((((cD p_2 a_0 b_1 up_3).getD ((false, ([] : List Nat), (0 : Int), ()), (0 : Int), ())).1), ((((cD p_2 a_0 b_1 up_3).getD ((false, ([] : List Nat), (0 : Int), ()), (0 : Int), ())).2).1), ()))
def tN : Ty := .pair (.pair .bool (.pair (.sl (.u .u64)) (.pair (.i .i64) .unit))) (.pair (.pair .bool (.pair (.sl (.u .u64)) (.pair (.i .i64) .unit))) (.pair (.i .i64) (.pair .bool .unit)))
attribute [go_sem] tN
noncomputable def rQ : aL := mSpec tN (.tup (.pair (.pair .bool (.pair (.sl (.u .u64)) (.pair (.i .i64) .unit))) (.pair (.i .i64) .unit))) (fun x => eE x.1 x.2.1 x.2.2.1 x.2.2.2.1)
noncomputable def zT : List (FuncId × aL) := [(106, fF)]
theorem aDb : bW Tryz.prog GL zT := .cons tM (by kernel_rfl) (.nil)
theorem aDX : gam zT 106 = some fF := rfl
attribute [go_sem] aDX
set_option maxHeartbeats 4000000 in
theorem aIt : FOK Tryz.prog GL 55 rQ := by
 refine rF (bI aDb) Tryz.func55 rfl (by kernel_rfl) (by decide) fun w0 S x r hw h => ?_
 have hF : jB (fr Tryz.prog (EM zT) S w0 Tryz.f55.ntmps) := ⟨bI aDb, mix⟩
 obtain ⟨(a_0 : (Bool × ((List Nat) × (Int × Unit)))), (b_1 : (Bool × ((List Nat) × (Int × Unit)))), (p_2 : Int), (up_3 : Bool), u⟩ := x
 simp only [tN, Ty.wf, mJ] at hw
 simp only [cF, tN]
 try dsimp only at h
 unfold eE at h
 refine aD (bO hF [4, 5, 6, 7, 8] ?_)
 simp only [go_sem]
 refine aF (aD (oE 2 rfl ?_))
 simp only [go_sem]
 refine oE 0 rfl ?_
 simp only [go_sem]
 refine oE 1 rfl ?_
 simp only [go_sem]
 refine oE 3 rfl ?_
 simp only [go_sem]
 refine bO hF [8, 9] ?_
 simp only [go_sem]
 obtain ⟨g0, h⟩ := aH h
 repeat (refine ⟨by first | with_reducible assumption | omega | (intros; first | assumption | omega) | (simp only [go_sem] at *; first | assumption | omega) | decide, ?_⟩)
 obtain rfl := Option.some.inj h
 refine aF (cW (iL hF [.cell 8 25, .tmp 9] rfl rfl rfl ?_))
 (try simp only [jD, bA, go_sem]) <;> first | rfl | (simp; done)
attribute [go_sem] rQ
noncomputable def gK (d_0 : (Bool × ((List Nat) × (Int × Unit)))) : Option Int :=
 ck (((bQ d_0).isSome = true)) (if ¬ (((bQ d_0).getD false) = true) then some (0 : Int) else ck ((aEl ((d_0.2).1))) (some (aT ((d_0.2).1))))
def aBO : PlR := ⟨[(0, .B [1]), (1, .A [1, 5]), (2, .A [2]), (3, .A [2])], []⟩
def aDc : Ty := .pair (.pair .bool (.pair (.sl (.u .u64)) (.pair (.i .i64) .unit))) .unit
noncomputable def rR : aL := mSpec aDc (.one (.i .i64)) (fun x => gK x.1)
noncomputable def zU : List (FuncId × aL) := [(29, dK), (89, iU)]
theorem aKx : bW Tryz.prog GL zU := .cons nC (by kernel_rfl) (.cons vW (by kernel_rfl) (.nil))
theorem aFp : gam zU 29 = some dK := rfl
theorem aFq : gam zU 89 = some iU := rfl
attribute [go_sem] aDc aBO aFp aFq
set_option maxHeartbeats 4000000 in
theorem aIu : FOK Tryz.prog GL 35 rR := by
 refine cG (bI aKx) mix Tryz.func35 rfl (by kernel_rfl) (by decide) aBO fun w0 S x Θ hw h hF => ?_
 obtain ⟨(d_0 : (Bool × ((List Nat) × (Int × Unit)))), u⟩ := x
 simp only [cF, go_sem]
 replace h : sat (gK d_0) _ := h
 unfold gK at h
 refine aM h fun g0 h => ?_
 refine aJ0 h (fun hc h => ?_) fun hc h => ?_
 ·exact aS hF [.tmp 2] rfl rfl rfl (aC h) (by simp only [bA, go_sem])
 ·refine aM h fun g0 h => ?_
  exact aS hF [.tmp 2] rfl rfl rfl (aC h) (by simp only [bA, go_sem])
attribute [go_sem] rR
end Nu
end Go.Proofs
namespace Go.Proofs
open Go.Vc
set_option maxRecDepth 20000
namespace Nu
theorem p2m (n m : Nat) (h : n ≤ m) : 2 ^ n ≤ 2 ^ m := Nat.pow_le_pow_right (by decide) h
theorem aL0 (m : Nat) {x n : Nat} (h : x < 2 ^ n) (hn : n ≤ m) : x < 2 ^ m := Nat.lt_of_lt_of_le h (p2m n m hn)
theorem aHf (m : Nat) {x n : Nat} (h : x ≤ 2 ^ n) (hn : n < m) : x < 2 ^ m := Nat.lt_of_le_of_lt h (Nat.pow_lt_pow_right (by decide) hn)
theorem aHg (k : Nat) {x n : Nat} (h : x < 2 ^ n) (hn : n ≤ 64 * k) : x < 18446744073709551616 ^ k := by rw [mM]; exact aL0 _ h hn
theorem aUd (a b : Nat) (h : a < b) : 18446744073709551616 ^ a < 18446744073709551616 ^ b := Nat.pow_lt_pow_right (by decide) h
abbrev Dy : Type := Bool × List Nat × Int × Unit
def d0 : Dy := (false, [], 0, ())
def kB (d : Dy) : Bool :=
 if d.2.1.length = 0 then !d.1 && decide (d.2.2.1 = 0)
 else decide (d.2.1.length ≤ 64 ∧ Nrm d.2.1) && decide (d.2.1.getD 0 0 % 2 = 1) && decide (-1048576 ≤ d.2.2.1) && decide (d.2.2.1 ≤ 1048576)
theorem aSl (x : Nat) : x &&& 1 = x % 2 := Nat.and_two_pow_sub_one_eq_mod x 1
theorem wX (d : Dy) : bQ d = some (kB d) := by
 unfold bQ kB
 by_cases h : d.2.1.length = 0
 ·rw [if_pos (by omega), if_pos h]
 ·rw [if_neg (by omega), if_neg h]
  refine aB (fun _ => by omega) ?_
  rw [aSl]
  rfl
theorem aPe (e : Int) : fD true e = some (.inl ()) := rfl
theorem aM7 (e : Int) : fD false e = some (.inr (e, ())) := rfl
theorem aKy {b : Bool} {e : Int} (h : b = true) : fD b e = some (.inl ()) := by rw [h]; rfl
theorem aHh {b : Bool} {e : Int} (h : b = false) : fD b e = some (.inr (e, ())) := by rw [h]; rfl
def aKz (neg : Bool) (m : Nat) (e : Int) : Dy ⊕ (Int × Unit) :=
 if m = 0 then .inl d0
 else if 64 < (lb (m / 2 ^ tzn m)).length then .inr (2, ())
 else if ¬ (e ≤ 1048576 ∧ -1048576 - (tzn m : Int) ≤ e) then .inr (3, ())
 else if 1048576 < e + (tzn m : Int) then .inr (3, ())
 else .inl (neg, lb (m / 2 ^ tzn m), e + (tzn m : Int), ())
theorem aTA {m k : Nat} (h0 : m ≠ 0) (h : m < 18446744073709551616 ^ k) : tzn m < 64 * k := by
 obtain ⟨q, hq⟩ := uW h0
 rw [mM] at h
 refine (Nat.pow_lt_pow_iff_right (show 1 < 2 by decide)).1 (Nat.lt_of_le_of_lt ?_ h)
 rw [hq, zD rfl]
 exact Nat.le_mul_of_pos_right _ (by omega)
theorem aQ0 (neg : Bool) (m : List Nat) (e : Int) (lm : Lm m) (nm : Nrm m) (sm : m.length ≤ 1099511627776) : oU neg m e = some (aKz neg (nv m) e) := by
 unfold oU aKz
 by_cases h0 : m.length = 0
 ·have hm : m = [] := List.eq_nil_of_length_eq_zero h0
  subst hm
  rfl
 ·have hm : nv m ≠ 0 := by have := xS nm (fun e => h0 (by rw [e]; rfl)); omega
  have hz : bS m = (tzn (nv m) : Int) := by unfold bS; rw [if_neg hm]
  have hzl := aTA hm (iG lm)
  have hR : cH m (tzn (nv m) : Int) = lb (nv m / 2 ^ tzn (nv m)) := by unfold cH; rw [Int.toNat_natCast]
  rw [if_neg (by omega), if_neg hm, hz, hR]
  refine aB sm (aB ⟨sm, by omega⟩ ?_)
  by_cases h1 : 64 < (lb (nv m / 2 ^ tzn (nv m))).length
  ·rw [aHh (by simp; omega), if_pos h1]; rfl
  ·rw [aKy (by simp; omega), if_neg h1]
   simp only [Option.bind_some]
   by_cases h2 : e ≤ 1048576
   ·rw [if_pos h2]
    refine aB (by constructor <;> omega) ?_
    by_cases h3 : -1048576 - (tzn (nv m) : Int) ≤ e
    ·rw [aKy (by simp; omega), if_neg (by omega)]
     simp only [Option.bind_some]
     unfold oH
     rw [hz, hR]
     refine aB (by constructor <;> omega) ?_
     by_cases h4 : e + (tzn (nv m) : Int) ≤ 1048576
     ·rw [aKy (by simp; omega), if_neg (by omega)]
      simp only [Option.bind_some]
      exact aB (by constructor <;> omega) rfl
     ·rw [aHh (by simp; omega), if_pos (by omega)]; rfl
    ·rw [aHh (by simp; omega), if_pos (by omega)]; rfl
   ·rw [if_neg h2, aM7, if_pos (by omega)]; rfl
def told {α : Type} (z : α) : α ⊕ (Int × Unit) → α × Int × Unit
 | .inl r => (r, 0, ())
 | .inr p => (z, p.1, ())
def aIv (neg : Bool) (m : Nat) (e : Int) : Dy × Int × Unit := told d0 (aKz neg m e)
theorem aKA (neg : Bool) (m : List Nat) (e : Int) (lm : Lm m) (nm : Nrm m) (sm : m.length ≤ 1099511627776) : bJ neg m e = some (aIv neg (nv m) e) := by
 have h1 : nR neg m e = some (aKz neg (nv m) e) := by
  unfold nR
  rw [aQ0 neg m e lm nm sm]
  simp only [Option.bind_some]
  cases aKz neg (nv m) e <;> rfl
 have h2 : cO neg m e = some (aIv neg (nv m) e) := by
  unfold cO aIv
  rw [h1]
  simp only [Option.bind_some]
  cases aKz neg (nv m) e <;> rfl
 unfold bJ
 rw [h2]
 exact aB rfl rfl
end Nu
end Go.Proofs
namespace Go.Proofs
open Go.Vc
set_option maxRecDepth 20000
namespace Nu
theorem aDd {b : Bool} {e : Int} (h : b = true) : gJ b e = some (.inl ()) := by rw [h]; rfl
theorem yA {b : Bool} {e : Int} (h : b = false) : gJ b e = some (.inr (e, ())) := by rw [h]; rfl
def aM8 (p : Int) (l : List Dy) : Unit ⊕ (Int × Unit) := if 1 ≤ p ∧ p ≤ 2000 ∧ l.all kB = true then .inl () else .inr (1, ())
theorem aSm (p : Int) (l : List Dy) (hl : l.length ≤ 9223372036854775807) : pG p l = some (aM8 p l) := by
 have key : dC (fun d : Int => jJ l d) 0 = some (if l.all kB = true then (.inl () : Unit ⊕ (Int × Unit)) else .inr (1, ())) := by
  have := jZ (step := fun d : Int => jJ l d) (I := fun i => 0 ≤ i ∧ i ≤ l.length) (fun i => (l.length - i).toNat) (fun i => if (l.drop i.toNat).all kB = true then (.inl () : Unit ⊕ (Int × Unit)) else .inr (1, ())) ?_ 0 ⟨by omega, by omega⟩
  ·have e : l.drop ((0 : Int).toNat) = l := rfl
   rw [e] at this
   exact this
  ·rintro i ⟨i0, i1⟩
   show (∃ d', jJ l i = _ ∧ _) ∨ jJ l i = _
   unfold jJ
   by_cases hi : i < l.length
   ·have hk : i.toNat < l.length := by omega
    have hd : l.drop i.toNat = l.getD i.toNat d0 :: l.drop (i.toNat + 1) := by
     rw [List.drop_eq_getElem_cons hk, List.getD_eq_getElem?_getD, List.getElem?_eq_getElem hk]; rfl
    by_cases hm : kB (l.getD i.toNat d0) = true
    ·left
     refine ⟨i + 1, ?_, ⟨by omega, by omega⟩, by omega, ?_⟩
     ·rw [if_pos hi]
      refine aB (by constructor <;> omega) (aB (by rw [wX]; rfl) ?_)
      rw [wX]
      refine cE (aDd hm) ?_
      exact aB (by constructor <;> omega) rfl
     ·rw [hd, List.all_cons, hm, Bool.true_and, show (i + 1).toNat = i.toNat + 1 from by omega]
    ·right
     rw [if_pos hi]
     refine aB (by constructor <;> omega) (aB (by rw [wX]; rfl) ?_)
     rw [wX]
     refine cE (yA ((Bool.not_eq_true _).mp hm)) ?_
     rw [hd, List.all_cons]
     have : kB (l.getD i.toNat d0) = false := (Bool.not_eq_true _).mp hm
     rw [this]
     rfl
   ·right
    rw [if_neg hi, List.drop_eq_nil_of_le (by omega)]
    rfl
 unfold pG aM8
 by_cases h1 : 1 ≤ p
 ·rw [if_pos h1]
  by_cases h2 : p ≤ 2000
  ·refine cE (aDd (by simp; omega)) ?_
   unfold nD
   rw [key]
   by_cases h3 : l.all kB = true
   ·rw [if_pos h3, if_pos ⟨h1, h2, h3⟩]; rfl
   ·rw [if_neg h3, if_neg (fun h => h3 h.2.2)]; rfl
  ·refine cE (yA (by simp; omega)) ?_
   rw [if_neg (fun h => h2 h.2.1)]
 ·rw [if_neg h1]
  refine cE (yA rfl) ?_
  rw [if_neg (fun h => h1 h.1)]
def aM9 (neg : Bool) (m : Nat) (e : Int) (rest : Bool) (p : Int) (up : Bool) : Dy ⊕ (Int × Unit) :=
 let n := (bl m : Int) - p
 let m1 := if 0 < n then m / 2 ^ n.toNat else m
 let e1 := if 0 < n then e + n else e
 let r1 := if 0 < n then rest || decide (m % 2 ^ n.toNat ≠ 0) else rest
 let m2 := if r1 = true ∧ (up != neg) = true then m1 + 1 else m1
 match aIv neg m2 e1 with
 | (d, f, _) => if f = 0 then .inl d else .inr (f, ())
theorem aOj {m n : Nat} (h : m ≠ 0) : tzn m < n ↔ m % 2 ^ n ≠ 0 := by
 obtain ⟨q, hq⟩ := uW h
 constructor
 ·intro hlt h0
  obtain ⟨k, hk⟩ := Nat.dvd_of_mod_eq_zero h0
  rw [hq, show n = tzn m + (n - tzn m) from by omega, Nat.pow_add, Nat.mul_assoc] at hk
  have h2 := Nat.eq_of_mul_eq_mul_left (Nat.two_pow_pos _) hk
  rw [show n - tzn m = (n - tzn m - 1) + 1 from by omega, Nat.pow_succ, Nat.mul_comm (2 ^ (n - tzn m - 1)) 2, Nat.mul_assoc] at h2
  omega
 ·intro h0
  rcases Nat.lt_or_ge (tzn m) n with hlt | hge
  ·exact hlt
  ·exfalso
   apply h0
   rw [hq, show tzn m = n + (tzn m - n) from by omega, Nat.pow_add, Nat.mul_assoc]
   exact Nat.mul_mod_right _ _
theorem aSn (x : Nat) : (lb (x + 1)).length ≤ (lb x).length + 1 :=
 iM.2 (Nat.lt_of_le_of_lt (iM.1 (Nat.le_refl (lb x).length)) (Nat.pow_lt_pow_right (by decide) (by omega)))
theorem aST {x k : Nat} (a : List Nat) (la : Lm a) (h : x ≤ nv a) (hk : a.length ≤ k) : (lb x).length ≤ k :=
 Nat.le_trans (iM.2 (Nat.lt_of_le_of_lt h (iG la))) hk
theorem aTB (neg : Bool) (m : List Nat) (e : Int) (rest : Bool) (p : Int) (up : Bool) (lm : Lm m) (nm : Nrm m) (sm : m.length ≤ 549755813888) (hp : 1 ≤ p ∧ p ≤ 2000) (he : -1000000000000 ≤ e ∧ e ≤ 1000000000000) :
  pH neg m e rest p up = some (aM9 neg (nv m) e rest p up) := by
 have hb : aT m = (bl (nv m) : Int) := rfl
 have hbl : bl (nv m) ≤ 64 * m.length := by
  refine oG ?_
  rw [← mM]; exact iG lm
 have j2 : ∀ (x : Nat) (e' : Int), (lb x).length ≤ 1099511627776 → kZ neg e' (lb x) = some (match aIv neg x e' with | (d, f, _) => if f = 0 then .inl d else .inr (f, ())) := by
  intro x e' hx
  unfold kZ
  rw [aKA neg (lb x) e' (uQ x) (pW x) hx, dV]
  refine aB rfl ?_
  simp only [Option.getD_some]
  rcases aIv neg x e' with ⟨d, f, u⟩
  by_cases hf : f = 0
  ·refine cE (aDd (by simpa using hf)) ?_
   simp only; rw [if_pos hf]
  ·refine cE (yA (by simpa using hf)) ?_
   simp only; rw [if_neg hf]
 have j1 : ∀ (x : Nat) (e' : Int) (r : Bool), (lb x).length ≤ 549755813888 → lB up neg (lb x) e' r = some (match aIv neg (if r = true ∧ (up != neg) = true then x + 1 else x) e' with | (d, f, _) => if f = 0 then .inl d else .inr (f, ())) := by
  intro x e' r hx
  unfold lB
  by_cases h : r = true ∧ (up != neg) = true
  ·rw [if_pos h, if_pos h]
   refine aB ⟨by show (lb x).length ≤ _; omega, by show (1 : Nat) ≤ _; decide⟩ ?_
   have : fM (lb x) [1] = lb (x + 1) := by
    unfold fM; rw [dV]; rfl
   rw [this]
   refine j2 _ _ ?_
   have := aSn x
   omega
  ·rw [if_neg h, if_neg h]
   exact j2 _ _ (by omega)
 unfold pH aM9
 rw [hb]
 refine aB ⟨nm, by show m.length ≤ _; omega⟩ (aB (by constructor <;> omega) ?_)
 by_cases hn : 0 < (bl (nv m) : Int) - p
 ·have h0 : nv m ≠ 0 := by
   intro h; rw [h] at hn
   have : bl 0 = 0 := rfl
   omega
  have hz : bS m = (tzn (nv m) : Int) := by unfold bS; rw [if_neg h0]
  have hd : decide ((tzn (nv m) : Int) < (bl (nv m) : Int) - p) = decide (nv m % 2 ^ ((bl (nv m) : Int) - p).toNat ≠ 0) := by
   have := aOj (n := ((bl (nv m) : Int) - p).toNat) h0
   refine decide_eq_decide.2 (Iff.trans ?_ this)
   omega
  simp only [if_pos hn]
  rw [hz, hd]
  refine aB (fun _ => by show m.length ≤ _; omega) (aB ⟨by show m.length ≤ _; omega, by omega⟩ (aB (by constructor <;> omega) ?_))
  unfold cH
  refine j1 _ _ _ ?_
  exact aST m lm (Nat.div_le_self _ _) sm
 ·simp only [if_neg hn]
  have := j1 (nv m) e rest (by rw [aN8 lm nm]; exact sm)
  rw [aN8 lm nm] at this
  exact this
def aHi (a b : Dy) (p : Int) (up : Bool) : Dy ⊕ (Int × Unit) :=
 match aM8 p [a, b] with
 | .inr e => .inr e
 | .inl _ => if b.2.1.length = 0 then .inr (4, ()) else
  let k := max 0 (p + 1 + (bl (nv b.2.1) : Int) - (bl (nv a.2.1) : Int))
  aM9 (a.1 != b.1) (nv a.2.1 * 2 ^ k.toNat / nv b.2.1) (a.2.2.1 - b.2.2.1 - k) (decide (nv a.2.1 * 2 ^ k.toNat % nv b.2.1 ≠ 0)) p up
theorem mG {d : Dy} (h : kB d = true) : d.2.1.length ≤ 64 ∧ Nrm d.2.1 ∧ -1048576 ≤ d.2.2.1 ∧ d.2.2.1 ≤ 1048576 := by
 unfold kB at h
 split at h
 ·rename_i h0
  have : d.2.1 = [] := List.eq_nil_of_length_eq_zero h0
  simp at h
  rw [this, h.2]
  exact ⟨by decide, aN6, by decide, by decide⟩
 ·simp at h
  exact ⟨h.1.1.1.1, h.1.1.1.2, h.1.2, h.2⟩
theorem aSo (a b : Dy) (p : Int) (up : Bool) (la : Lm a.2.1) (lb' : Lm b.2.1) : eE a b p up = some (told d0 (aHi a b p up)) := by
 have h1 : lC p a b up = some (aHi a b p up) := by
  unfold lC aHi
  rw [aSm p [a, b] (by simp)]
  simp only [Option.bind_some]
  cases hm : aM8 p [a, b] with
  | inr e => rfl
  | inl u =>
   unfold aM8 at hm
   split at hm
   ·rename_i hh
    obtain ⟨p1, p2, p3⟩ := hh
    simp only [List.all_cons, List.all_nil, Bool.and_true, Bool.and_eq_true] at p3
    obtain ⟨a1, a2, a3, a4⟩ := mG p3.1
    obtain ⟨b1, b2, b3, b4⟩ := mG p3.2
    simp only
    by_cases hb : b.2.1.length = 0
    ·rw [if_pos hb]
     refine cE (yA (decide_eq_false (by omega))) rfl
    ·rw [if_neg hb]
     have hb0 : nv b.2.1 ≠ 0 := by have := xS b2 (fun e => hb (by rw [e]; rfl)); omega
     have hba : bl (nv a.2.1) ≤ 64 * a.2.1.length := oG (by rw [← mM]; exact iG la)
     have hbb : bl (nv b.2.1) ≤ 64 * b.2.1.length := oG (by rw [← mM]; exact iG lb')
     have e1 : aT a.2.1 = (bl (nv a.2.1) : Int) := rfl
     have e2 : aT b.2.1 = (bl (nv b.2.1) : Int) := rfl
     rw [e1, e2]
     have hk : ∃ k : Nat, max (0 : Int) (p + 1 + (bl (nv b.2.1) : Int) - (bl (nv a.2.1) : Int)) = (k : Int) ∧ k ≤ 6200 := ⟨(max (0 : Int) (p + 1 + (bl (nv b.2.1) : Int) - (bl (nv a.2.1) : Int))).toNat, by omega, by omega⟩
     obtain ⟨k, hk, hk2⟩ := hk
     rw [hk]
     have hA : nv a.2.1 * 2 ^ k < 18446744073709551616 ^ 200 := by
      have h1 := iG la
      rw [mM] at h1
      have h4 := Nat.mul_lt_mul_of_pos_right h1 (Nat.two_pow_pos k)
      rw [← Nat.pow_add] at h4
      exact aHg _ h4 (by omega)
     have hL : bF a.2.1 (k : Int) = lb (nv a.2.1 * 2 ^ k) := by unfold bF; rw [Int.toNat_natCast]
     rw [hL]
     have hLl : (lb (nv a.2.1 * 2 ^ k)).length ≤ 200 := iM.2 hA
     refine cE (aDd (decide_eq_true (by omega))) ?_
     refine aB (by constructor <;> omega) (aB ⟨b2, by show b.2.1.length ≤ _; omega⟩ (aB (by constructor <;> omega) (aB ⟨a2, by show a.2.1.length ≤ _; omega⟩ (aB (by constructor <;> omega) (aB ⟨by show a.2.1.length ≤ _; omega, by omega, by omega⟩ (aB ⟨pW _, b2, hb0, by omega⟩ (aB (by constructor <;> omega) (aB (by constructor <;> omega) ?_))))))))
     have hq : (bD (lb (nv a.2.1 * 2 ^ k)) b.2.1).1 = lb (nv a.2.1 * 2 ^ k / nv b.2.1) := by unfold bD; rw [dV]
     have hr : decide ((0 : Int) < (((bD (lb (nv a.2.1 * 2 ^ k)) b.2.1).2.1.length : Nat) : Int)) = decide (nv a.2.1 * 2 ^ k % nv b.2.1 ≠ 0) := by
      refine decide_eq_decide.2 ?_
      unfold bD
      rw [dV]
      simp only
      constructor
      ·intro h e; rw [uR.2 e] at h; simp at h
      ·intro h
       have := List.length_pos_iff.2 (fun e => h (uR.1 e))
       omega
     rw [hq, hr]
     rw [aTB _ _ _ _ p up (uQ _) (pW _) (by have := iM.2 (Nat.lt_of_le_of_lt (Nat.div_le_self (nv a.2.1 * 2 ^ k) (nv b.2.1)) hA); omega) ⟨p1, p2⟩ (by constructor <;> omega), dV]
     simp only [Option.bind_some, Int.toNat_natCast]
     cases aM9 (a.1 != b.1) (nv a.2.1 * 2 ^ k / nv b.2.1) (a.2.2.1 - b.2.2.1 - (k : Int)) (decide (nv a.2.1 * 2 ^ k % nv b.2.1 ≠ 0)) p up <;> rfl
   ·cases hm
 have h2 : cD p a b up = some (told d0 (aHi a b p up)) := by
  unfold cD
  rw [h1]
  simp only [Option.bind_some]
  cases aHi a b p up <;> rfl
 unfold eE
 rw [h2]
 exact aB rfl rfl
end Nu
end Go.Proofs
namespace Go.Proofs
open Go.Vc
set_option maxRecDepth 20000
namespace Nu
def rq (A B k : Nat) : Nat := A * 2 ^ k / B
def rn (A B p k : Nat) : Nat := bl (rq A B k) - p
def rM (A B p k : Nat) : Nat := rq A B k / 2 ^ rn A B p k
def rE (A B p k : Nat) : Int := (rn A B p k : Int) - (k : Int)
def rS (A B p k : Nat) : Bool := decide (A * 2 ^ k % (B * 2 ^ rn A B p k) ≠ 0)
theorem aOk (A B k d : Nat) : rq A B (k + d) / 2 ^ d = rq A B k := by
 unfold rq
 rw [Nat.div_div_eq_div_mul, Nat.pow_add, ← Nat.mul_assoc, Nat.mul_div_mul_right _ _ (Nat.two_pow_pos d)]
theorem aTC {x d : Nat} (h : x / 2 ^ d ≠ 0) : bl x = bl (x / 2 ^ d) + d := by
 have e := Nat.div_add_mod x (2 ^ d)
 have m := Nat.mod_lt x (Nat.two_pow_pos d)
 have := aMQ (x := x / 2 ^ d) (m := x % 2 ^ d) (k := d) h m
 rw [Nat.add_comm] at e
 rw [e] at this
 omega
theorem aQ1 {A B p k d : Nat} (hp : 1 ≤ p) (h : 2 ^ p ≤ rq A B k) : rM A B p (k + d) = rM A B p k ∧ rE A B p (k + d) = rE A B p k ∧ rS A B p (k + d) = rS A B p k := by
 have hq := aOk A B k d
 have hpos := Nat.two_pow_pos p
 have hb := aTC (x := rq A B (k + d)) (d := d) (by rw [hq]; omega)
 rw [hq] at hb
 have hge : p + 1 ≤ bl (rq A B k) := by
  rcases Nat.lt_or_ge (bl (rq A B k)) (p + 1) with hlt | hge
  ·have h1 := aCM (rq A B k)
   have h2 : 2 ^ bl (rq A B k) ≤ 2 ^ p := Nat.pow_le_pow_right (by decide) (by omega)
   omega
  ·exact hge
 have hn : rn A B p (k + d) = rn A B p k + d := by unfold rn; omega
 refine ⟨?_, ?_, ?_⟩
 ·unfold rM
  rw [hn, Nat.add_comm (rn A B p k) d, Nat.pow_add, ← Nat.div_div_eq_div_mul, hq]
 ·unfold rE; rw [hn]; omega
 ·unfold rS
  rw [hn, Nat.pow_add, Nat.pow_add, ← Nat.mul_assoc, ← Nat.mul_assoc, Nat.mul_mod_mul_right]
  refine decide_eq_decide.2 ?_
  have := Nat.two_pow_pos d
  constructor
  ·intro h1 h2; apply h1; rw [h2, Nat.zero_mul]
  ·intro h1 h2
   rcases Nat.mul_eq_zero.1 h2 with h3 | h3
   ·exact h1 h3
   ·omega
theorem aQ2 {A B p k : Nat} (hA : A ≠ 0) (hB : B ≠ 0) (h : p + bl B ≤ bl A - 1 + k) : 2 ^ p ≤ rq A B k := by
 unfold rq
 refine (Nat.le_div_iff_mul_le (by omega)).2 ?_
 have h1 := aGF hA
 have h2 := aCM B
 calc 2 ^ p * B ≤ 2 ^ p * 2 ^ bl B := Nat.mul_le_mul_left _ (Nat.le_of_lt h2)
  _ = 2 ^ (p + bl B) := (Nat.pow_add _ _ _).symm
  _ ≤ 2 ^ (bl A - 1 + k) := Nat.pow_le_pow_right (by decide) h
  _ = 2 ^ (bl A - 1) * 2 ^ k := Nat.pow_add _ _ _
  _ ≤ A * 2 ^ k := Nat.mul_le_mul_right _ h1
theorem aTD {A B p k k' : Nat} (hp : 1 ≤ p) (h : 2 ^ p ≤ rq A B k) (h' : 2 ^ p ≤ rq A B k') : rM A B p k = rM A B p k' ∧ rE A B p k = rE A B p k' ∧ rS A B p k = rS A B p k' := by
 obtain ⟨a1, a2, a3⟩ := aQ1 (d := k') hp h
 obtain ⟨b1, b2, b3⟩ := aQ1 (d := k) hp h'
 rw [Nat.add_comm k' k] at b1 b2 b3
 exact ⟨a1.symm.trans b1, a2.symm.trans b2, a3.symm.trans b3⟩
def rm2 (A B p k : Nat) (up : Bool) : Nat := if rS A B p k = true ∧ up = true then rM A B p k + 1 else rM A B p k
theorem aUe {A B p k : Nat} {e : Int} {up : Bool} (hp : 1 ≤ p) (h : 2 ^ p ≤ rq A B k) :
  aM9 false (rq A B k) (e - (k : Int)) (decide (A * 2 ^ k % B ≠ 0)) (p : Int) up = match aIv false (rm2 A B p k up) (e + rE A B p k) with | (d, f, _) => if f = 0 then .inl d else .inr (f, ()) := by
 have hge : p + 1 ≤ bl (rq A B k) := by
  rcases Nat.lt_or_ge (bl (rq A B k)) (p + 1) with hlt | hge
  ·have h1 := aCM (rq A B k)
   have h2 : 2 ^ bl (rq A B k) ≤ 2 ^ p := Nat.pow_le_pow_right (by decide) (by omega)
   omega
  ·exact hge
 have hn : ((bl (rq A B k) : Int) - (p : Int)).toNat = rn A B p k := by unfold rn; omega
 have hS : (decide (A * 2 ^ k % B ≠ 0) || decide (rq A B k % 2 ^ rn A B p k ≠ 0)) = rS A B p k := by
  unfold rS
  rw [Nat.mod_mul, ← Bool.decide_or]
  refine decide_eq_decide.2 ?_
  unfold rq
  have hB : 0 < B := by
   rcases Nat.eq_zero_or_pos B with h0 | h0
   ·unfold rq at h; rw [h0, Nat.div_zero] at h; have := Nat.two_pow_pos p; omega
   ·exact h0
  constructor
  ·rintro (h1 | h1) h2
   ·exact h1 (by omega)
   ·apply h1
    have := Nat.mul_eq_zero.1 (show B * (A * 2 ^ k / B % 2 ^ rn A B p k) = 0 by omega)
    omega
  ·intro h1
   by_cases h2 : A * 2 ^ k % B = 0
   ·right; intro h3; apply h1; rw [h2, h3]; rfl
   ·exact .inl h2
 have hp0 : 0 < (bl (rq A B k) : Int) - (p : Int) := by omega
 unfold aM9
 simp only [hn, hp0, if_true, hS]
 have e1 : e - (k : Int) + ((bl (rq A B k) : Int) - (p : Int)) = e + rE A B p k := by unfold rE rn; omega
 rw [e1]
 have e2 : (up != false) = up := by cases up <;> rfl
 simp only [e2]
 rfl
end Nu
end Go.Proofs
namespace Go.Proofs
open Go.Vc
set_option maxRecDepth 20000
namespace Nu
def bB (M : Nat) (e : Int) : Dy := if M = 0 then d0 else (false, lb (M / 2 ^ tzn M), e + (tzn M : Int), ())
theorem zV {M K : Nat} (h0 : M ≠ 0) (h : M < 2 ^ K) : tzn M < K := by
 obtain ⟨q, hq⟩ := uW h0
 refine (Nat.pow_lt_pow_iff_right (show 1 < 2 by decide)).1 (Nat.lt_of_le_of_lt ?_ h)
 rw [hq, zD rfl]
 exact Nat.le_mul_of_pos_right _ (by omega)
theorem aFQ {M K : Nat} {e : Int} (hM : M < 2 ^ K) (hK : K ≤ 4096) (he : -1000000 ≤ e ∧ e ≤ 1000000) : aIv false M e = (bB M e, 0, ()) := by
 unfold aIv aKz bB
 by_cases h0 : M = 0
 ·rw [if_pos h0, if_pos h0]; rfl
 ·have hz := zV h0 hM
  have hl : (lb (M / 2 ^ tzn M)).length ≤ 64 := by
   exact iM.2 (aHg 64 (Nat.lt_of_le_of_lt (Nat.div_le_self _ _) hM) (by omega))
  rw [if_neg h0, if_neg h0, if_neg (by omega), if_neg (by omega), if_neg (by omega)]
  rfl
theorem zW {M : Nat} (h0 : M ≠ 0) : M / 2 ^ tzn M * 2 ^ tzn M = M ∧ M / 2 ^ tzn M % 2 = 1 := by
 obtain ⟨q, hq⟩ := uW h0
 have h1 : M / 2 ^ tzn M = 2 * q + 1 := by
  have := Nat.mul_div_cancel_left (2 * q + 1) (Nat.two_pow_pos (tzn M))
  rw [← hq] at this
  exact this
 rw [h1]
 exact ⟨by rw [Nat.mul_comm]; exact hq.symm, by omega⟩
theorem oJ {M K : Nat} {e : Int} (hM : M < 2 ^ K) (hK : K ≤ 4096) (he : -1000000 ≤ e ∧ e ≤ 1000000) : kB (bB M e) = true := by
 unfold bB
 by_cases h0 : M = 0
 ·rw [if_pos h0]; rfl
 ·have hz := zV h0 hM
  obtain ⟨p1, p2⟩ := zW h0
  have hne : M / 2 ^ tzn M ≠ 0 := by omega
  have hl : (lb (M / 2 ^ tzn M)).length ≤ 64 := by
   exact iM.2 (aHg 64 (Nat.lt_of_le_of_lt (Nat.div_le_self _ _) hM) (by omega))
  have hlp : (lb (M / 2 ^ tzn M)).length ≠ 0 := fun h => hne (uR.1 (List.eq_nil_of_length_eq_zero h))
  have hg : (lb (M / 2 ^ tzn M)).getD 0 0 % 2 = 1 := by
   rw [mR (uQ _), dV, Nat.pow_zero, Nat.div_one]
   omega
  rw [if_neg h0]
  unfold kB
  simp only
  rw [if_neg hlp]
  simp only [Bool.and_eq_true, decide_eq_true_iff]
  exact ⟨⟨⟨⟨hl, pW _⟩, hg⟩, by omega⟩, by omega⟩
theorem aSU {A B p k : Nat} : rM A B p k < 2 ^ p := by
 unfold rM rn
 refine (Nat.div_lt_iff_lt_mul (Nat.two_pow_pos _)).2 ?_
 rw [← Nat.pow_add]
 exact Nat.lt_of_lt_of_le (aCM _) (Nat.pow_le_pow_right (by decide) (by omega))
theorem aNa {A B p k : Nat} {up : Bool} : rm2 A B p k up < 2 ^ (p + 1) := by
 have := aSU (A := A) (B := B) (p := p) (k := k)
 have h2 : 2 ^ (p + 1) = 2 ^ p * 2 := Nat.pow_succ ..
 have h3 := Nat.two_pow_pos p
 unfold rm2
 split <;> omega
theorem aNb {x k : Nat} (h : x ≠ 0) : bl (x * 2 ^ k) = bl x + k := by
 have := aMQ (x := x) (m := 0) (k := k) h (Nat.two_pow_pos k)
 rw [Nat.zero_add, Nat.mul_comm] at this
 omega
theorem aSp {x y : Nat} (h : x ≤ y) : bl x ≤ bl y := oG (Nat.lt_of_le_of_lt h (aCM y))
theorem aHj {A B p k : Nat} (hA : A ≠ 0) : -(k : Int) ≤ rE A B p k ∧ rE A B p k ≤ bl A := by
 have h1 : bl (rq A B k) ≤ bl A + k := by
  rw [← aNb hA]
  exact aSp (Nat.div_le_self _ _)
 unfold rE rn
 constructor <;> omega
theorem aUf {A B A' B' p k za zb : Nat} (hp : 1 ≤ p) (hA : A = A' * 2 ^ za) (hB : B = B' * 2 ^ zb) (h : 2 ^ p ≤ rq A B k) :
  2 ^ p ≤ rq A' B' (za + k) ∧ rM A' B' p (za + k) = rM A B p k ∧ rE A' B' p (za + k) + za - zb = rE A B p k ∧ rS A' B' p (za + k) = rS A B p k := by
 obtain ⟨a1, a2, a3⟩ := aQ1 (d := zb) hp h
 have hz := Nat.two_pow_pos zb
 have e1 : rq A B (k + zb) = rq A' B' (za + k) := by
  unfold rq
  rw [hA, hB, Nat.mul_assoc, ← Nat.pow_add, ← Nat.add_assoc, Nat.pow_add 2 (za + k), ← Nat.mul_assoc, Nat.mul_div_mul_right _ _ hz]
 have e2 : rn A B p (k + zb) = rn A' B' p (za + k) := by unfold rn; rw [e1]
 refine ⟨?_, ?_, ?_, ?_⟩
 ·rw [← e1]
  have h1 := aOk A B k zb
  have h2 := Nat.div_le_self (rq A B (k + zb)) (2 ^ zb)
  omega
 ·rw [← a1]; unfold rM; rw [e1, e2]
 ·rw [← a2]; unfold rE; rw [e2]; omega
 ·rw [← a3]; unfold rS
  rw [e2, hA, hB, Nat.mul_assoc A', ← Nat.pow_add, ← Nat.add_assoc, Nat.pow_add 2 (za + k), ← Nat.mul_assoc, Nat.mul_right_comm B', Nat.mul_mod_mul_right]
  refine decide_eq_decide.2 ?_
  constructor
  ·intro h1 h2
   rcases Nat.mul_eq_zero.1 h2 with h3 | h3
   ·exact h1 h3
   ·omega
  ·intro h1 h2; apply h1; rw [h2, Nat.zero_mul]
end Nu
end Go.Proofs
namespace Go.Proofs
open Go.Vc
set_option maxRecDepth 20000
namespace Nu
noncomputable def lT : Option ((Int × (Unit × Unit))) :=
 none
noncomputable def jK (s_0 : (List Nat)) (n_14 : Int) : Option ((Int × (Unit × Unit))) :=
 ck ((0 : Int) < (((s_0.length) : Nat) : Int)) (if (s_0.getD (0 : Nat) (0 : Nat)) = (45 : Nat) then ck (I64 (0 - n_14)) (some ((0 - n_14), (), ())) else some (n_14, (), ()))
noncomputable def eH (s_9 : (List Nat)) (n_15 : Int) (x49_16 : Int) : Option ((Int × Int) ⊕ ((Int) ⊕ (Int × (Unit × Unit)))) :=
 if x49_16 < (((s_9.length) : Nat) : Int) then ck (0 ≤ x49_16 ∧ x49_16 < (((s_9.length) : Nat) : Int)) (if (9 : Nat) < (iD .u8 (s_9.getD (x49_16.toNat) (0 : Nat)) (48 : Nat)) then none else ck (I64 (n_15 * (10 : Int))) (ck (I64 ((n_15 * (10 : Int)) + (((iD .u8 (s_9.getD (x49_16.toNat) (0 : Nat)) (48 : Nat)) : Nat) : Int))) (ck (I64 (x49_16 + (1 : Int))) (some (.inl (((n_15 * (10 : Int)) + (((iD .u8 (s_9.getD (x49_16.toNat) (0 : Nat)) (48 : Nat)) : Nat) : Int)), (x49_16 + (1 : Int)))))))) else some (.inr (.inl n_15))
noncomputable def eV (s_0 : (List Nat)) (s_9 : (List Nat)) : Option ((Int × (Unit × Unit))) :=
 (dC (fun d : Int × Int => eH s_9 d.1 d.2) ((0 : Int), (0 : Int))).bind (fun e => match e with | (.inl e) => jK s_0 e | (.inr e) => some e)
noncomputable def hZ (s_0 : (List Nat)) : Option (Int × (Unit × Unit)) :=
 if ((False) ∧ (((0 : Int) < (((s_0.length) : Nat) : Int)) ∧ ((((s_0.length) : Nat) : Int) < (10 : Int)))) ∨ ((True) ∧ (((0 : Int) < (((s_0.length) : Nat) : Int)) ∧ ((((s_0.length) : Nat) : Int) < (19 : Int)))) then ck ((0 : Int) < (((s_0.length) : Nat) : Int)) (ck ((¬ ((s_0.getD (0 : Nat) (0 : Nat)) = (45 : Nat)) → ((0 : Int) < (((s_0.length) : Nat) : Int)))) (if ((s_0.getD (0 : Nat) (0 : Nat)) = (45 : Nat)) ∨ ((s_0.getD (0 : Nat) (0 : Nat)) = (43 : Nat)) then ck ((1 : Int) ≤ (((s_0.length) : Nat) : Int)) (if ((((List.drop (1 : Nat) s_0).length) : Nat) : Int) < (1 : Int) then none else eV s_0 (List.drop (1 : Nat) s_0)) else eV s_0 s_0)) else lT
def yB : PlR := ⟨[(0, .A [0]), (1, .A [0, 4]), (2, .A [0, 30]), (3, .A [0, 5]), (4, .A [0, 5, 39]), (5, .A [0, 5]), (6, .A [0, 5, 44]), (7, .A [2, 3]), (8, .A [0, 5, 6]), (9, .A [5, 6, 47, 48, 49]), (10, .A [5, 6, 47, 48, 49, 50]), (11, .A [5, 6, 8, 47, 48, 49]), (12, .A [5, 6, 8, 47, 48, 49]), (13, .A [5, 6, 8, 47, 48, 49, 56]), (14, .A [2, 3]), (15, .A [5, 6, 47, 48, 49]), (16, .A [5, 6, 47, 48, 49]), (17, .A [6, 66]), (18, .A [6]), (19, .A [2, 3]), (20, .stop)], [(5, 23), (7, 11), (12, 20)]⟩
def aAk : Ty := .pair .str .unit
noncomputable def nT : aL := mSpec aAk (.tup (.pair (.i .i64) (.pair .nili .unit))) (fun x => hZ x.1)
noncomputable def aFr : List (FuncId × aL) := []
theorem aFs : bW Tryz.prog GL aFr := .nil
attribute [go_sem] aAk yB
set_option maxHeartbeats 4000000 in
theorem aDY : FOK Tryz.prog GL 154 nT := by
 refine cG (bI aFs) mix Tryz.func154 rfl (by kernel_rfl) (by decide) yB fun w0 S x Θ hw h hF => ?_
 obtain ⟨(s_0 : (List Nat)), u⟩ := x
 simp only [cF, go_sem]
 replace h : sat (hZ s_0) _ := h
 unfold hZ at h
 refine cP hF (D := Unit) (fun d => sat (lT) Θ) [0] (fun d => []) (fun d => []) ?_ ?_
 ·simp only [go_sem]
  refine ⟨fun hc => ?_, fun hc => ?_⟩
  ·replace h := iE (by first | exact hc | omega | (simpa using hc) | (simp at hc ⊢; omega)) h
   refine cP hF (D := (List Nat)) (fun d => sat (eV s_0 d) Θ) [5] (fun d => [(0, .val .str d)]) (fun d => []) ?_ ?_
   ·simp only [go_sem]
    refine aM h fun g0 h => aM h fun g1 h => ?_
    refine ⟨fun hc => ?_, fun hc => ?_⟩
    ·replace h := iE hc h
     refine aM h fun g0 h => ?_
     refine gV h (fun hc h => ?_) fun hc h => ?_
     ·exact aAR h
     ·exact aY ((List.drop (1 : Nat) s_0)) h rfl (by simp only [go_sem])
    ·replace h := iF hc h
     exact aY (s_0) h rfl (by simp only [go_sem])
   ·rintro s_9 h
    simp only [go_sem]
    replace h : sat (eV s_0 s_9) _ := h
    unfold eV at h
    refine cP hF (D := Int) (fun d => sat (jK s_0 d) Θ) [5] (fun d => [(6, .val (.i .i64) d)]) (fun d => []) ?_ ?_
    ·simp only [go_sem]
     refine dF hF (D := Int × Int) [5, 47, 48] (fun d => [(6, .val (.i .i64) d.1), (49, .val (.i .i64) d.2)]) (fun d => []) h rfl (by simp only [go_sem]) ?_
     rintro ⟨n_15, x49_16⟩ A10 T10 hA10 hE10 h
     simp only [go_sem]
     replace h : sat (eH s_9 n_15 x49_16) _ := h
     unfold eH at h
     refine gV h (fun hc h => ?_) fun hc h => ?_
     ·refine aM h fun g0 h => ?_
      refine fP h (fun hc h => ?_) fun hc h => ?_
      ·exact aAR h
      ·refine aM h fun g0 h => aM h fun g1 h => ?_
       refine aM h fun g0 h => ?_
       replace h := hA10 _ (aC h)
       exact aY _ h rfl (by simp only [go_sem])
     ·replace h := hE10 _ (aC h)
      try dsimp only at h
      exact aY (n_15) h rfl (by simp only [go_sem])
    ·rintro n_14 h
     simp only [go_sem]
     replace h : sat (jK s_0 n_14) _ := h
     unfold jK at h
     refine aM h fun g0 h => ?_
     refine fP h (fun hc h => ?_) fun hc h => ?_
     ·refine aM h fun g0 h => ?_
      exact aS hF [.tmp 2, .tmp 3] rfl rfl rfl (aC h) (by simp only [bA, go_sem])
     ·exact aS hF [.tmp 2, .tmp 3] rfl rfl rfl (aC h) (by simp only [bA, go_sem])
  ·replace h := iF (by first | exact hc | omega | (simpa using hc) | (simp at hc ⊢; omega)) h
   exact aY (()) h rfl (by simp only [go_sem])
 ·rintro u h
  simp only [go_sem]
  replace h : sat (lT) _ := h
  unfold lT at h
  exact aAR h
attribute [go_sem] nT
noncomputable def dD (s_0 : (List Nat)) : Option (Int × (Unit × Unit)) :=
 ck (((hZ s_0).isSome = true)) (some ((((hZ s_0).getD ((0 : Int), (), ())).1), (), ()))
def aAl : PlR := ⟨[(0, .A [0]), (1, .A [0, 4, 5]), (2, .A [0, 4, 5, 12]), (4, .A [2, 3])], []⟩
def aA8 : Ty := .pair .str .unit
noncomputable def oO : aL := mSpec aA8 (.tup (.pair (.i .i64) (.pair .nili .unit))) (fun x => dD x.1)
noncomputable def aA9 : List (FuncId × aL) := [(154, nT)]
theorem aHk : bW Tryz.prog GL aA9 := .cons aDY (by kernel_rfl) (.nil)
theorem aCg : gam aA9 154 = some nT := rfl
attribute [go_sem] aA8 aAl aCg
set_option maxHeartbeats 4000000 in
theorem aFt : FOK Tryz.prog GL 118 oO := by
 refine cG (bI aHk) mix Tryz.func118 rfl (by kernel_rfl) (by decide) aAl fun w0 S x Θ hw h hF => ?_
 obtain ⟨(s_0 : (List Nat)), u⟩ := x
 simp only [cF, go_sem]
 replace h : sat (dD s_0) _ := h
 unfold dD at h
 refine aM h fun g0 h => ?_
 exact aS hF [.tmp 2, .tmp 3] rfl rfl rfl (aC h) (by simp only [bA, go_sem])
attribute [go_sem] oO
noncomputable def iA (at_1 : Int) (s_0 : (List Nat)) (n_5 : Int) : Option ((Int) ⊕ ((Int))) :=
 ck (I64 (at_1 + n_5)) (ck ((((at_1 + n_5) < (((s_0.length) : Nat) : Int)) → (I64 (at_1 + n_5)))) (ck ((((at_1 + n_5) < (((s_0.length) : Nat) : Int)) → (0 ≤ (at_1 + n_5) ∧ (at_1 + n_5) < (((s_0.length) : Nat) : Int)))) (ck (((((at_1 + n_5) < (((s_0.length) : Nat) : Int)) ∧ ((48 : Nat) ≤ (s_0.getD ((at_1 + n_5).toNat) (0 : Nat)))) → (I64 (at_1 + n_5)))) (ck (((((at_1 + n_5) < (((s_0.length) : Nat) : Int)) ∧ ((48 : Nat) ≤ (s_0.getD ((at_1 + n_5).toNat) (0 : Nat)))) → (0 ≤ (at_1 + n_5) ∧ (at_1 + n_5) < (((s_0.length) : Nat) : Int)))) (if (((at_1 + n_5) < (((s_0.length) : Nat) : Int)) ∧ ((48 : Nat) ≤ (s_0.getD ((at_1 + n_5).toNat) (0 : Nat)))) ∧ ((s_0.getD ((at_1 + n_5).toNat) (0 : Nat)) ≤ (57 : Nat)) then ck (I64 (n_5 + (1 : Int))) (some (.inl (n_5 + (1 : Int)))) else some (.inr n_5))))))
noncomputable def aE (s_0 : (List Nat)) (at_1 : Int) : Option Int :=
 (dC (fun d : Int => iA at_1 s_0 d) (0 : Int)).bind (fun e => some e)
def aBP : PlR := ⟨[(0, .A [0, 1]), (1, .A [0, 1, 5]), (2, .A [0, 1, 5, 27]), (3, .A [0, 1, 5]), (4, .A [4])], []⟩
def aDe : Ty := .pair .str (.pair (.i .i64) .unit)
noncomputable def rT : aL := mSpec aDe (.one (.i .i64)) (fun x => aE x.1 x.2.1)
noncomputable def aKB : List (FuncId × aL) := []
theorem aKC : bW Tryz.prog GL aKB := .nil
attribute [go_sem] aDe aBP
set_option maxHeartbeats 4000000 in
theorem aIw : FOK Tryz.prog GL 117 rT := by
 refine cG (bI aKC) mix Tryz.func117 rfl (by kernel_rfl) (by decide) aBP fun w0 S x Θ hw h hF => ?_
 obtain ⟨(s_0 : (List Nat)), (at_1 : Int), u⟩ := x
 simp only [cF, go_sem]
 replace h : sat (aE s_0 at_1) _ := h
 unfold aE at h
 refine dF hF (D := Int) [0, 1] (fun d => [(5, .val (.i .i64) d)]) (fun d => []) h rfl (by simp only [go_sem]) ?_
 rintro n_5 A2 T2 hA2 hE2 h
 simp only [go_sem]
 replace h : sat (iA at_1 s_0 n_5) _ := h
 unfold iA at h
 refine aM h fun g0 h => aM h fun g1 h => aM h fun g2 h => aM h fun g3 h => aM h fun g4 h => ?_
 refine ⟨fun hc => ?_, fun hc => ?_⟩
 ·replace h := iE hc h
  refine aM h fun g0 h => ?_
  replace h := hA2 _ (aC h)
  exact aY _ h rfl (by simp only [go_sem])
 ·replace h := iF hc h
  replace h := hE2 _ (aC h)
  try dsimp only at h
  exact aS hF [.tmp 4] rfl rfl rfl (aC h) (by simp only [bA, go_sem])
attribute [go_sem] rT
noncomputable def jL (n_1 : Int) (b_0 : Nat) (m_7 : (List Nat)) (x8_8 : Int) : Option (((List Nat) × Int) ⊕ (((List Nat)))) :=
 if x8_8 < n_1 then ck ((aCO m_7 ([b_0] : List Nat))) (ck (I64 (x8_8 + (1 : Int))) (some (.inl ((aZ m_7 ([b_0] : List Nat)), (x8_8 + (1 : Int)))))) else some (.inr m_7)
noncomputable def bC (b_0 : Nat) (n_1 : Int) : Option (List Nat) :=
 (dC (fun d : (List Nat) × Int => jL n_1 b_0 d.1 d.2) (([1] : List Nat), (0 : Int))).bind (fun e => some e)
def aDf : PlR := ⟨[(0, .A [0, 1]), (1, .A [0, 1, 5]), (2, .A [0, 5, 7, 8]), (3, .A [0, 5, 7, 8, 9]), (4, .A [0, 5, 7, 8]), (5, .A [0, 5, 7, 8]), (6, .A [4])], []⟩
def aEM : Ty := .pair (.u .u64) (.pair (.i .i64) .unit)
noncomputable def kC : aL := mSpec aEM (.one (.sl (.u .u64))) (fun x => bC x.1 x.2.1)
noncomputable def aEN : List (FuncId × aL) := [(63, dS)]
theorem aL1 : bW Tryz.prog GL aEN := .cons nQ (by kernel_rfl) (.nil)
theorem aHl : gam aEN 63 = some dS := rfl
attribute [go_sem] aEM aDf aHl
set_option maxHeartbeats 4000000 in
theorem zX : FOK Tryz.prog GL 65 kC := by
 refine cG (bI aL1) mix Tryz.func65 rfl (by kernel_rfl) (by decide) aDf fun w0 S x Θ hw h hF => ?_
 obtain ⟨(b_0 : Nat), (n_1 : Int), u⟩ := x
 simp only [cF, go_sem]
 replace h : sat (bC b_0 n_1) _ := h
 unfold bC at h
 refine dF hF (D := (List Nat) × Int) [0, 7] (fun d => [(5, .val (.sl (.u .u64)) d.1), (8, .val (.i .i64) d.2)]) (fun d => []) h rfl (by simp only [go_sem]) ?_
 rintro ⟨m_7, x8_8⟩ A3 T3 hA3 hE3 h
 simp only [go_sem]
 replace h : sat (jL n_1 b_0 m_7 x8_8) _ := h
 unfold jL at h
 refine gV h (fun hc h => ?_) fun hc h => ?_
 ·refine aM h fun g0 h => ?_
  refine aM h fun g0 h => ?_
  replace h := hA3 _ (aC h)
  exact aY _ h rfl (by simp only [go_sem])
 ·replace h := hE3 _ (aC h)
  try dsimp only at h
  exact aS hF [.tmp 4] rfl rfl rfl (aC h) (by simp only [bA, go_sem])
attribute [go_sem] kC
noncomputable def iB (s_0 : (List Nat)) (m_6 : (List Nat)) (x9_7 : Int) : Option (((List Nat) × Int) ⊕ (((List Nat)))) :=
 if x9_7 < (((s_0.length) : Nat) : Int) then ck (0 ≤ x9_7 ∧ x9_7 < (((s_0.length) : Nat) : Int)) (ck ((aCO m_6 ([10] : List Nat))) (ck ((pSz ([(iD .u8 (s_0.getD (x9_7.toNat) (0 : Nat)) (48 : Nat))] : List Nat))) (ck ((aCO (aZ m_6 ([10] : List Nat)) (lQ ([(iD .u8 (s_0.getD (x9_7.toNat) (0 : Nat)) (48 : Nat))] : List Nat)))) (ck (I64 (x9_7 + (1 : Int))) (some (.inl ((fM (aZ m_6 ([10] : List Nat)) (lQ ([(iD .u8 (s_0.getD (x9_7.toNat) (0 : Nat)) (48 : Nat))] : List Nat))), (x9_7 + (1 : Int))))))))) else some (.inr m_6)
noncomputable def dA (s_0 : (List Nat)) : Option (List Nat) :=
 (dC (fun d : (List Nat) × Int => iB s_0 d.1 d.2) (([] : List Nat), (0 : Int))).bind (fun e => some e)
def aBQ : PlR := ⟨[(0, .A [0]), (1, .A [0, 3]), (2, .A [3, 7, 8, 9]), (3, .A [3, 7, 8, 9, 10]), (4, .A [3, 5, 7, 8, 9]), (5, .A [3, 7, 8, 9]), (6, .A [3, 7, 8, 9]), (7, .A [2])], []⟩
def aDg : Ty := .pair .str .unit
noncomputable def mH : aL := mSpec aDg (.one (.sl (.u .u64))) (fun x => dA x.1)
noncomputable def tO : List (FuncId × aL) := [(63, dS), (71, lI), (85, pB)]
theorem aKD : bW Tryz.prog GL tO := .cons nQ (by kernel_rfl) (.cons aAY (by kernel_rfl) (.cons aEx (by kernel_rfl) (.nil)))
theorem aFu : gam tO 63 = some dS := rfl
theorem aFv : gam tO 71 = some lI := rfl
theorem aFw : gam tO 85 = some pB := rfl
attribute [go_sem] aDg aBQ aFu aFv aFw
set_option maxHeartbeats 4000000 in
theorem aBR : FOK Tryz.prog GL 64 mH := by
 refine cG (bI aKD) mix Tryz.func64 rfl (by kernel_rfl) (by decide) aBQ fun w0 S x Θ hw h hF => ?_
 obtain ⟨(s_0 : (List Nat)), u⟩ := x
 simp only [cF, go_sem]
 replace h : sat (dA s_0) _ := h
 unfold dA at h
 refine dF hF (D := (List Nat) × Int) [7, 8] (fun d => [(3, .val (.sl (.u .u64)) d.1), (9, .val (.i .i64) d.2)]) (fun d => []) h rfl (by simp only [go_sem]) ?_
 rintro ⟨m_6, x9_7⟩ A3 T3 hA3 hE3 h
 simp only [go_sem]
 replace h : sat (iB s_0 m_6 x9_7) _ := h
 unfold iB at h
 refine gV h (fun hc h => ?_) fun hc h => ?_
 ·obtain ⟨g0, h⟩ := aI h
  repeat (refine ⟨by omega, ?_⟩)
  obtain ⟨g0, h⟩ := aI h
  obtain ⟨g1, h⟩ := aI h
  obtain ⟨g2, h⟩ := aI h
  repeat (refine ⟨by omega, ?_⟩)
  obtain ⟨g0, h⟩ := aI h
  repeat (refine ⟨by omega, ?_⟩)
  replace h := hA3 _ (aC h)
  exact aY _ h rfl (by simp only [go_sem])
 ·replace h := hE3 _ (aC h)
  try dsimp only at h
  exact aS hF [.tmp 2] rfl rfl rfl (aC h) (by simp only [bA, go_sem])
attribute [go_sem] mH
noncomputable def fW (all_3 : (List Nat)) (s_0 : (List Nat)) (at_7 : Int) (pow_8 : Int) : Option (((List Nat) × (Int × (Bool × Unit)))) :=
 some (all_3, pow_8, (decide (at_7 = (((s_0.length) : Nat) : Int))), ())
noncomputable def fX (pow_4 : Int) (at_9 : Int) (s_0 : (List Nat)) (all_3 : (List Nat)) (x_10 : Int) : Option (((List Nat) × (Int × (Bool × Unit)))) :=
 ck (I64 (pow_4 + x_10)) (ck (I64 (at_9 + ((aE s_0 at_9).getD (0 : Int)))) (fW all_3 s_0 (at_9 + ((aE s_0 at_9).getD (0 : Int))) (pow_4 + x_10)))
noncomputable def fY (s_0 : (List Nat)) (at_2 : Int) (pow_4 : Int) (all_3 : (List Nat)) (at_9 : Int) : Option (((List Nat) × (Int × (Bool × Unit)))) :=
 ck (((aE s_0 at_9).isSome = true)) (if (((aE s_0 at_9).getD (0 : Int)) < (1 : Int)) ∨ ((3 : Int) < ((aE s_0 at_9).getD (0 : Int))) then some ((aN ⟨#[]⟩), (0 : Int), false, ()) else ck (I64 (at_9 + ((aE s_0 at_9).getD (0 : Int)))) (ck (0 ≤ at_9 ∧ at_9 ≤ (at_9 + ((aE s_0 at_9).getD (0 : Int))) ∧ (at_9 + ((aE s_0 at_9).getD (0 : Int))) ≤ (((s_0.length) : Nat) : Int)) (ck (((dD (List.drop (at_9.toNat) (List.take ((at_9 + ((aE s_0 at_9).getD (0 : Int))).toNat) s_0))).isSome = true)) (if (100 : Int) < (((dD (List.drop (at_9.toNat) (List.take ((at_9 + ((aE s_0 at_9).getD (0 : Int))).toNat) s_0))).getD ((0 : Int), (), ())).1) then some ((aN ⟨#[]⟩), (0 : Int), false, ()) else if ((at_2 + (1 : Int)) < (((s_0.length) : Nat) : Int)) ∧ ((s_0.getD ((at_2 + (1 : Int)).toNat) (0 : Nat)) = (45 : Nat)) then ck (I64 (0 - (((dD (List.drop (at_9.toNat) (List.take ((at_9 + ((aE s_0 at_9).getD (0 : Int))).toNat) s_0))).getD ((0 : Int), (), ())).1))) (fX pow_4 at_9 s_0 all_3 (0 - (((dD (List.drop (at_9.toNat) (List.take ((at_9 + ((aE s_0 at_9).getD (0 : Int))).toNat) s_0))).getD ((0 : Int), (), ())).1))) else fX pow_4 at_9 s_0 all_3 (((dD (List.drop (at_9.toNat) (List.take ((at_9 + ((aE s_0 at_9).getD (0 : Int))).toNat) s_0))).getD ((0 : Int), (), ())).1)))))
noncomputable def fZ (s_0 : (List Nat)) (at_2 : Int) (all_3 : (List Nat)) (pow_4 : Int) : Option (((List Nat) × (Int × (Bool × Unit)))) :=
 ck (((at_2 < (((s_0.length) : Nat) : Int)) → (0 ≤ at_2 ∧ at_2 < (((s_0.length) : Nat) : Int)))) (if (at_2 < (((s_0.length) : Nat) : Int)) ∧ ((s_0.getD (at_2.toNat) (0 : Nat)) = (101 : Nat)) then ck (I64 (at_2 + (1 : Int))) (ck ((((at_2 + (1 : Int)) < (((s_0.length) : Nat) : Int)) → (0 ≤ (at_2 + (1 : Int)) ∧ (at_2 + (1 : Int)) < (((s_0.length) : Nat) : Int)))) (ck ((¬ (((at_2 + (1 : Int)) < (((s_0.length) : Nat) : Int)) ∧ ((s_0.getD ((at_2 + (1 : Int)).toNat) (0 : Nat)) = (45 : Nat))) → ((at_2 + (1 : Int)) < (((s_0.length) : Nat) : Int)) → (0 ≤ (at_2 + (1 : Int)) ∧ (at_2 + (1 : Int)) < (((s_0.length) : Nat) : Int)))) (if (((at_2 + (1 : Int)) < (((s_0.length) : Nat) : Int)) ∧ ((s_0.getD ((at_2 + (1 : Int)).toNat) (0 : Nat)) = (45 : Nat))) ∨ (((at_2 + (1 : Int)) < (((s_0.length) : Nat) : Int)) ∧ ((s_0.getD ((at_2 + (1 : Int)).toNat) (0 : Nat)) = (43 : Nat))) then ck (I64 ((at_2 + (1 : Int)) + (1 : Int))) (fY s_0 at_2 pow_4 all_3 ((at_2 + (1 : Int)) + (1 : Int))) else fY s_0 at_2 pow_4 all_3 (at_2 + (1 : Int))))) else fW all_3 s_0 at_2 pow_4)
noncomputable def aP (s_0 : (List Nat)) : Option ((List Nat) × (Int × (Bool × Unit))) :=
 ck (((aE s_0 (0 : Int)).isSome = true)) (ck (0 ≤ ((aE s_0 (0 : Int)).getD (0 : Int)) ∧ ((aE s_0 (0 : Int)).getD (0 : Int)) ≤ (((s_0.length) : Nat) : Int)) (if ((60 : Int) < (((s_0.length) : Nat) : Int)) ∨ (((aE s_0 (0 : Int)).getD (0 : Int)) = (0 : Int)) then some ((aN ⟨#[]⟩), (0 : Int), false, ()) else ck (((((aE s_0 (0 : Int)).getD (0 : Int)) < (((s_0.length) : Nat) : Int)) → (0 ≤ ((aE s_0 (0 : Int)).getD (0 : Int)) ∧ ((aE s_0 (0 : Int)).getD (0 : Int)) < (((s_0.length) : Nat) : Int)))) (if (((aE s_0 (0 : Int)).getD (0 : Int)) < (((s_0.length) : Nat) : Int)) ∧ ((s_0.getD (((aE s_0 (0 : Int)).getD (0 : Int)).toNat) (0 : Nat)) = (46 : Nat)) then ck (I64 (((aE s_0 (0 : Int)).getD (0 : Int)) + (1 : Int))) (ck (((aE s_0 (((aE s_0 (0 : Int)).getD (0 : Int)) + (1 : Int))).isSome = true)) (if ((aE s_0 (((aE s_0 (0 : Int)).getD (0 : Int)) + (1 : Int))).getD (0 : Int)) = (0 : Int) then some ((aN ⟨#[]⟩), (0 : Int), false, ()) else ck (I64 (((aE s_0 (0 : Int)).getD (0 : Int)) + (1 : Int))) (ck (I64 (((aE s_0 (0 : Int)).getD (0 : Int)) + (1 : Int))) (ck (I64 ((((aE s_0 (0 : Int)).getD (0 : Int)) + (1 : Int)) + ((aE s_0 (((aE s_0 (0 : Int)).getD (0 : Int)) + (1 : Int))).getD (0 : Int)))) (ck (0 ≤ (((aE s_0 (0 : Int)).getD (0 : Int)) + (1 : Int)) ∧ (((aE s_0 (0 : Int)).getD (0 : Int)) + (1 : Int)) ≤ ((((aE s_0 (0 : Int)).getD (0 : Int)) + (1 : Int)) + ((aE s_0 (((aE s_0 (0 : Int)).getD (0 : Int)) + (1 : Int))).getD (0 : Int))) ∧ ((((aE s_0 (0 : Int)).getD (0 : Int)) + (1 : Int)) + ((aE s_0 (((aE s_0 (0 : Int)).getD (0 : Int)) + (1 : Int))).getD (0 : Int))) ≤ (((s_0.length) : Nat) : Int)) (ck (((List.take (((aE s_0 (0 : Int)).getD (0 : Int)).toNat) s_0).length) + ((List.drop ((((aE s_0 (0 : Int)).getD (0 : Int)) + (1 : Int)).toNat) (List.take (((((aE s_0 (0 : Int)).getD (0 : Int)) + (1 : Int)) + ((aE s_0 (((aE s_0 (0 : Int)).getD (0 : Int)) + (1 : Int))).getD (0 : Int))).toNat) s_0)).length) ≤ 9223372036854775807) (ck (I64 (0 - ((aE s_0 (((aE s_0 (0 : Int)).getD (0 : Int)) + (1 : Int))).getD (0 : Int)))) (ck (I64 (((aE s_0 (0 : Int)).getD (0 : Int)) + (1 : Int))) (ck (I64 ((((aE s_0 (0 : Int)).getD (0 : Int)) + (1 : Int)) + ((aE s_0 (((aE s_0 (0 : Int)).getD (0 : Int)) + (1 : Int))).getD (0 : Int)))) (fZ s_0 ((((aE s_0 (0 : Int)).getD (0 : Int)) + (1 : Int)) + ((aE s_0 (((aE s_0 (0 : Int)).getD (0 : Int)) + (1 : Int))).getD (0 : Int))) ((List.take (((aE s_0 (0 : Int)).getD (0 : Int)).toNat) s_0) ++ (List.drop ((((aE s_0 (0 : Int)).getD (0 : Int)) + (1 : Int)).toNat) (List.take (((((aE s_0 (0 : Int)).getD (0 : Int)) + (1 : Int)) + ((aE s_0 (((aE s_0 (0 : Int)).getD (0 : Int)) + (1 : Int))).getD (0 : Int))).toNat) s_0))) (0 - ((aE s_0 (((aE s_0 (0 : Int)).getD (0 : Int)) + (1 : Int))).getD (0 : Int))))))))))))) else fZ s_0 ((aE s_0 (0 : Int)).getD (0 : Int)) (List.take (((aE s_0 (0 : Int)).getD (0 : Int)).toNat) s_0) (0 : Int))))
def aBa : PlR := ⟨[(0, .A [0]), (1, .A [0, 5]), (2, .A [0, 5, 6, 7]), (3, .A [0, 5, 6, 7, 24]), (4, .A [2, 3, 4]), (5, .A [0, 5, 6, 7, 34]), (6, .A [0, 5, 6, 8]), (7, .A [0, 5, 6, 8, 40]), (8, .A [2, 3, 4]), (9, .A [0, 5, 6, 7]), (10, .A [0, 5, 6, 7, 66]), (11, .A [0, 5, 6, 7]), (12, .A [0, 5, 6, 7, 9]), (13, .A [0, 5, 6, 7, 9, 91]), (14, .A [0, 5, 6, 7, 9]), (15, .A [0, 5, 6, 7, 9, 10]), (16, .A [0, 5, 6, 7, 9, 10, 102]), (17, .A [2, 3, 4]), (18, .A [0, 5, 6, 7, 9, 10, 11]), (19, .A [0, 5, 6, 7, 9, 10, 11, 114]), (20, .A [2, 3, 4]), (21, .A [0, 5, 6, 7, 10, 11, 115]), (22, .A [0, 5, 6, 7, 10, 11]), (23, .A [0, 5, 6, 7]), (24, .A [2, 3, 4])], [(8, 13), (13, 27), (16, 18), (24, 26)]⟩
def aBS : Ty := .pair .str .unit
noncomputable def gM : aL := mSpec aBS (.tup (.pair .str (.pair (.i .i64) (.pair .bool .unit)))) (fun x => aP x.1)
noncomputable def wY : List (FuncId × aL) := [(117, rT), (118, oO)]
theorem aIx : bW Tryz.prog GL wY := .cons aIw (by kernel_rfl) (.cons aFt (by kernel_rfl) (.nil))
theorem aDh : gam wY 117 = some rT := rfl
theorem aDi : gam wY 118 = some oO := rfl
attribute [go_sem] aBS aBa aDh aDi
set_option maxHeartbeats 4000000 in
theorem vA : FOK Tryz.prog GL 61 gM := by
 refine cG (bI aIx) mix Tryz.func61 rfl (by kernel_rfl) (by decide) aBa fun w0 S x Θ hw h hF => ?_
 obtain ⟨(s_0 : (List Nat)), u⟩ := x
 simp only [cF, go_sem]
 replace h : sat (aP s_0) _ := h
 unfold aP at h
 obtain ⟨g0, h⟩ := aI h
 repeat (refine ⟨by omega, ?_⟩)
 obtain ⟨g0, h⟩ := aI h
 repeat (refine ⟨by omega, ?_⟩)
 refine ⟨fun hc => ?_, fun hc => ?_⟩
 ·replace h := iE hc h
  exact aS hF [.tmp 2, .tmp 3, .tmp 4] rfl rfl rfl (aC h) (by simp only [bA, go_sem])
 ·replace h := iF hc h
  refine cP hF (D := Int × (List Nat) × Int) (fun d => sat (fZ s_0 d.1 d.2.1 d.2.2) Θ) [0] (fun d => [(5, .val (.i .i64) d.1), (6, .val .str d.2.1), (7, .val (.i .i64) d.2.2)]) (fun d => []) ?_ ?_
  ·simp only [go_sem]
   obtain ⟨g0, h⟩ := aI h
   repeat (refine ⟨by omega, ?_⟩)
   refine ⟨fun hc => ?_, fun hc => ?_⟩
   ·replace h := iE hc h
    obtain ⟨g0, h⟩ := aI h
    obtain ⟨g1, h⟩ := aI h
    repeat (refine ⟨by omega, ?_⟩)
    refine fP h (fun hc h => ?_) fun hc h => ?_
    ·exact aS hF [.tmp 2, .tmp 3, .tmp 4] rfl rfl rfl (aC h) (by simp only [bA, go_sem])
    ·obtain ⟨g0, h⟩ := aI h
     obtain ⟨g1, h⟩ := aI h
     obtain ⟨g2, h⟩ := aI h
     obtain ⟨g3, h⟩ := aI h
     obtain ⟨g4, h⟩ := aI h
     obtain ⟨g5, h⟩ := aI h
     obtain ⟨g6, h⟩ := aI h
     obtain ⟨g7, h⟩ := aI h
     repeat (refine ⟨by omega, ?_⟩)
     exact aY ((((((aE s_0 (0 : Int)).getD (0 : Int)) + (1 : Int)) + ((aE s_0 (((aE s_0 (0 : Int)).getD (0 : Int)) + (1 : Int))).getD (0 : Int))), ((List.take (((aE s_0 (0 : Int)).getD (0 : Int)).toNat) s_0) ++ (List.drop ((((aE s_0 (0 : Int)).getD (0 : Int)) + (1 : Int)).toNat) (List.take (((((aE s_0 (0 : Int)).getD (0 : Int)) + (1 : Int)) + ((aE s_0 (((aE s_0 (0 : Int)).getD (0 : Int)) + (1 : Int))).getD (0 : Int))).toNat) s_0))), (0 - ((aE s_0 (((aE s_0 (0 : Int)).getD (0 : Int)) + (1 : Int))).getD (0 : Int))))) h rfl (by simp only [go_sem])
   ·replace h := iF hc h
    exact aY ((((aE s_0 (0 : Int)).getD (0 : Int)), (List.take (((aE s_0 (0 : Int)).getD (0 : Int)).toNat) s_0), (0 : Int))) h rfl (by simp only [go_sem])
  ·rintro ⟨at_2, all_3, pow_4⟩ h
   simp only [go_sem]
   replace h : sat (fZ s_0 at_2 all_3 pow_4) _ := h
   unfold fZ at h
   refine cP hF (D := Int × Int) (fun d => sat (fW all_3 s_0 d.1 d.2) Θ) [0, 6] (fun d => [(5, .val (.i .i64) d.1), (7, .val (.i .i64) d.2)]) (fun d => []) ?_ ?_
   ·simp only [go_sem]
    obtain ⟨g0, h⟩ := aI h
    repeat (refine ⟨by omega, ?_⟩)
    refine ⟨fun hc => ?_, fun hc => ?_⟩
    ·replace h := iE hc h
     obtain ⟨g0, h⟩ := aI h
     repeat (refine ⟨by omega, ?_⟩)
     obtain ⟨g0, h⟩ := aI h
     repeat (refine ⟨by omega, ?_⟩)
     refine cP hF (D := Int) (fun d => sat (fY s_0 at_2 pow_4 all_3 d) Θ) [0, 6, 7, 9] (fun d => [(5, .val (.i .i64) d)]) (fun d => []) ?_ ?_
     ·simp only [go_sem]
      obtain ⟨g0, h⟩ := aI h
      repeat (refine ⟨by omega, ?_⟩)
      refine ⟨fun hc => ?_, fun hc => ?_⟩
      ·replace h := iE hc h
       obtain ⟨g0, h⟩ := aI h
       repeat (refine ⟨by omega, ?_⟩)
       exact aY (((at_2 + (1 : Int)) + (1 : Int))) h rfl (by simp only [go_sem])
      ·replace h := iF hc h
       exact aY ((at_2 + (1 : Int))) h rfl (by simp only [go_sem])
     ·rintro at_9 h
      simp only [go_sem]
      replace h : sat (fY s_0 at_2 pow_4 all_3 at_9) _ := h
      unfold fY at h
      obtain ⟨g0, h⟩ := aI h
      repeat (refine ⟨by omega, ?_⟩)
      refine ⟨fun hc => ?_, fun hc => ?_⟩
      ·replace h := iE hc h
       exact aS hF [.tmp 2, .tmp 3, .tmp 4] rfl rfl rfl (aC h) (by simp only [bA, go_sem])
      ·replace h := iF hc h
       obtain ⟨g0, h⟩ := aI h
       obtain ⟨g1, h⟩ := aI h
       obtain ⟨g2, h⟩ := aI h
       repeat (refine ⟨by omega, ?_⟩)
       refine gV h (fun hc h => ?_) fun hc h => ?_
       ·exact aS hF [.tmp 2, .tmp 3, .tmp 4] rfl rfl rfl (aC h) (by simp only [bA, go_sem])
       ·refine cP hF (D := Int) (fun d => sat (fX pow_4 at_9 s_0 all_3 d) Θ) [0, 5, 6, 7, 10] (fun d => [(11, .val (.i .i64) d)]) (fun d => []) ?_ ?_
        ·simp only [go_sem]
         refine ⟨fun hc => ?_, fun hc => ?_⟩
         ·replace h := iE hc h
          obtain ⟨g0, h⟩ := aI h
          repeat (refine ⟨by omega, ?_⟩)
          exact aY ((0 - (((dD (List.drop (at_9.toNat) (List.take ((at_9 + ((aE s_0 at_9).getD (0 : Int))).toNat) s_0))).getD ((0 : Int), (), ())).1))) h rfl (by simp only [go_sem])
         ·replace h := iF hc h
          exact aY ((((dD (List.drop (at_9.toNat) (List.take ((at_9 + ((aE s_0 at_9).getD (0 : Int))).toNat) s_0))).getD ((0 : Int), (), ())).1)) h rfl (by simp only [go_sem])
        ·rintro x_10 h
         simp only [go_sem]
         replace h : sat (fX pow_4 at_9 s_0 all_3 x_10) _ := h
         unfold fX at h
         obtain ⟨g0, h⟩ := aI h
         obtain ⟨g1, h⟩ := aI h
         repeat (refine ⟨by omega, ?_⟩)
         exact aY (((at_9 + ((aE s_0 at_9).getD (0 : Int))), (pow_4 + x_10))) h rfl (by simp only [go_sem])
    ·replace h := iF hc h
     exact aY ((at_2, pow_4)) h rfl (by simp only [go_sem])
   ·rintro ⟨at_7, pow_8⟩ h
    simp only [go_sem]
    replace h : sat (fW all_3 s_0 at_7 pow_8) _ := h
    unfold fW at h
    exact aS hF [.tmp 2, .tmp 3, .tmp 4] rfl rfl rfl (aC h) (by simp only [bA, go_sem])
attribute [go_sem] gM
noncomputable def bU (s_0 : (List Nat)) : Option Bool :=
 ck (((aP s_0).isSome = true)) (some (((((aP s_0).getD (([] : List Nat), (0 : Int), false, ())).2).2).1))
def aEO : PlR := ⟨[(0, .A [0]), (1, .A [5]), (2, .A [2])], []⟩
def aHm : Ty := .pair .str .unit
noncomputable def wD : aL := mSpec aHm (.one .bool) (fun x => bU x.1)
noncomputable def aHn : List (FuncId × aL) := [(61, gM)]
theorem aNc : bW Tryz.prog GL aHn := .cons vA (by kernel_rfl) (.nil)
theorem aIy : gam aHn 61 = some gM := rfl
attribute [go_sem] aHm aEO aIy
set_option maxHeartbeats 4000000 in
theorem aL2 : FOK Tryz.prog GL 23 wD := by
 refine cG (bI aNc) mix Tryz.func23 rfl (by kernel_rfl) (by decide) aEO fun w0 S x Θ hw h hF => ?_
 obtain ⟨(s_0 : (List Nat)), u⟩ := x
 simp only [cF, go_sem]
 replace h : sat (bU s_0) _ := h
 unfold bU at h
 refine aM h fun g0 h => ?_
 exact aS hF [.tmp 2] rfl rfl rfl (aC h) (by simp only [bA, go_sem])
attribute [go_sem] wD
noncomputable def bX (s_0 : (List Nat)) : Option ((List Nat) × ((List Nat) × (Bool × Unit))) :=
 ck (((aP s_0).isSome = true)) (if ¬ ((((((aP s_0).getD (([] : List Nat), (0 : Int), false, ())).2).2).1) = true) then some (([] : List Nat), ([] : List Nat), false, ()) else ck (((dA (((aP s_0).getD (([] : List Nat), (0 : Int), false, ())).1)).isSome = true)) (ck (((bC (10 : Nat) (max ((((aP s_0).getD (([] : List Nat), (0 : Int), false, ())).2).1) (0 : Int))).isSome = true)) (ck ((aCO ((dA (((aP s_0).getD (([] : List Nat), (0 : Int), false, ())).1)).getD ([] : List Nat)) ((bC (10 : Nat) (max ((((aP s_0).getD (([] : List Nat), (0 : Int), false, ())).2).1) (0 : Int))).getD ([] : List Nat)))) (ck (I64 (0 - ((((aP s_0).getD (([] : List Nat), (0 : Int), false, ())).2).1))) (ck (((bC (10 : Nat) (max (0 - ((((aP s_0).getD (([] : List Nat), (0 : Int), false, ())).2).1)) (0 : Int))).isSome = true)) (some ((aZ ((dA (((aP s_0).getD (([] : List Nat), (0 : Int), false, ())).1)).getD ([] : List Nat)) ((bC (10 : Nat) (max ((((aP s_0).getD (([] : List Nat), (0 : Int), false, ())).2).1) (0 : Int))).getD ([] : List Nat))), ((bC (10 : Nat) (max (0 - ((((aP s_0).getD (([] : List Nat), (0 : Int), false, ())).2).1)) (0 : Int))).getD ([] : List Nat)), true, ())))))))
def aDj : PlR := ⟨[(0, .A [0]), (1, .A [5, 6, 7]), (2, .A [5, 6, 15]), (3, .A [2, 3, 4]), (4, .A [2, 3, 4])], []⟩
def aEP : Ty := .pair .str .unit
noncomputable def tP : aL := mSpec aEP (.tup (.pair (.sl (.u .u64)) (.pair (.sl (.u .u64)) (.pair .bool .unit)))) (fun x => bX x.1)
noncomputable def sJ : List (FuncId × aL) := [(61, gM), (63, dS), (64, mH), (65, kC)]
theorem aL3 : bW Tryz.prog GL sJ := .cons vA (by kernel_rfl) (.cons nQ (by kernel_rfl) (.cons aBR (by kernel_rfl) (.cons zX (by kernel_rfl) (.nil))))
theorem aHo : gam sJ 61 = some gM := rfl
theorem aHp : gam sJ 63 = some dS := rfl
theorem aHq : gam sJ 64 = some mH := rfl
theorem aHr : gam sJ 65 = some kC := rfl
attribute [go_sem] aEP aDj aHo aHp aHq aHr
set_option maxHeartbeats 4000000 in
theorem aKE : FOK Tryz.prog GL 53 tP := by
 refine cG (bI aL3) mix Tryz.func53 rfl (by kernel_rfl) (by decide) aDj fun w0 S x Θ hw h hF => ?_
 obtain ⟨(s_0 : (List Nat)), u⟩ := x
 simp only [cF, go_sem]
 replace h : sat (bX s_0) _ := h
 unfold bX at h
 refine aM h fun g0 h => ?_
 refine aJ0 h (fun hc h => ?_) fun hc h => ?_
 ·exact aS hF [.tmp 2, .tmp 3, .tmp 4] rfl rfl rfl (aC h) (by simp only [bA, go_sem])
 ·refine aM h fun g0 h => aM h fun g1 h => aM h fun g2 h => aM h fun g3 h => aM h fun g4 h => ?_
  exact aS hF [.tmp 2, .tmp 3, .tmp 4] rfl rfl rfl (aC h) (by simp only [bA, go_sem])
attribute [go_sem] tP
noncomputable def cC (s_0 : (List Nat)) (p_1 : Int) : Option (((Bool × ((List Nat) × (Int × Unit))) × ((Bool × ((List Nat) × (Int × Unit))) × Unit)) × (Int × Unit)) :=
 ck (((bX s_0).isSome = true)) (if ¬ ((((((bX s_0).getD (([] : List Nat), ([] : List Nat), false, ())).2).2).1) = true) then some (((false, ([] : List Nat), (0 : Int), ()), (false, ([] : List Nat), (0 : Int), ()), ()), (6 : Int), ()) else if (p_1 < (1 : Int)) ∨ ((2000 : Int) < p_1) then some (((false, ([] : List Nat), (0 : Int), ()), (false, ([] : List Nat), (0 : Int), ()), ()), (1 : Int), ()) else ck (((bJ false (((bX s_0).getD (([] : List Nat), ([] : List Nat), false, ())).1) (0 : Int)).isSome = true)) (ck (((bJ false ((((bX s_0).getD (([] : List Nat), ([] : List Nat), false, ())).2).1) (0 : Int)).isSome = true)) (ck (((eE (((bJ false (((bX s_0).getD (([] : List Nat), ([] : List Nat), false, ())).1) (0 : Int)).getD ((false, ([] : List Nat), (0 : Int), ()), (0 : Int), ())).1) (((bJ false ((((bX s_0).getD (([] : List Nat), ([] : List Nat), false, ())).2).1) (0 : Int)).getD ((false, ([] : List Nat), (0 : Int), ()), (0 : Int), ())).1) p_1 false).isSome = true)) (ck (((eE (((bJ false (((bX s_0).getD (([] : List Nat), ([] : List Nat), false, ())).1) (0 : Int)).getD ((false, ([] : List Nat), (0 : Int), ()), (0 : Int), ())).1) (((bJ false ((((bX s_0).getD (([] : List Nat), ([] : List Nat), false, ())).2).1) (0 : Int)).getD ((false, ([] : List Nat), (0 : Int), ()), (0 : Int), ())).1) p_1 true).isSome = true)) (if (¬ (((((eE (((bJ false (((bX s_0).getD (([] : List Nat), ([] : List Nat), false, ())).1) (0 : Int)).getD ((false, ([] : List Nat), (0 : Int), ()), (0 : Int), ())).1) (((bJ false ((((bX s_0).getD (([] : List Nat), ([] : List Nat), false, ())).2).1) (0 : Int)).getD ((false, ([] : List Nat), (0 : Int), ()), (0 : Int), ())).1) p_1 false).getD ((false, ([] : List Nat), (0 : Int), ()), (0 : Int), ())).2).1) = (0 : Int))) ∨ (¬ (((((eE (((bJ false (((bX s_0).getD (([] : List Nat), ([] : List Nat), false, ())).1) (0 : Int)).getD ((false, ([] : List Nat), (0 : Int), ()), (0 : Int), ())).1) (((bJ false ((((bX s_0).getD (([] : List Nat), ([] : List Nat), false, ())).2).1) (0 : Int)).getD ((false, ([] : List Nat), (0 : Int), ()), (0 : Int), ())).1) p_1 true).getD ((false, ([] : List Nat), (0 : Int), ()), (0 : Int), ())).2).1) = (0 : Int))) then some (((false, ([] : List Nat), (0 : Int), ()), (false, ([] : List Nat), (0 : Int), ()), ()), (max ((((eE (((bJ false (((bX s_0).getD (([] : List Nat), ([] : List Nat), false, ())).1) (0 : Int)).getD ((false, ([] : List Nat), (0 : Int), ()), (0 : Int), ())).1) (((bJ false ((((bX s_0).getD (([] : List Nat), ([] : List Nat), false, ())).2).1) (0 : Int)).getD ((false, ([] : List Nat), (0 : Int), ()), (0 : Int), ())).1) p_1 false).getD ((false, ([] : List Nat), (0 : Int), ()), (0 : Int), ())).2).1) ((((eE (((bJ false (((bX s_0).getD (([] : List Nat), ([] : List Nat), false, ())).1) (0 : Int)).getD ((false, ([] : List Nat), (0 : Int), ()), (0 : Int), ())).1) (((bJ false ((((bX s_0).getD (([] : List Nat), ([] : List Nat), false, ())).2).1) (0 : Int)).getD ((false, ([] : List Nat), (0 : Int), ()), (0 : Int), ())).1) p_1 true).getD ((false, ([] : List Nat), (0 : Int), ()), (0 : Int), ())).2).1)), ()) else some (((((eE (((bJ false (((bX s_0).getD (([] : List Nat), ([] : List Nat), false, ())).1) (0 : Int)).getD ((false, ([] : List Nat), (0 : Int), ()), (0 : Int), ())).1) (((bJ false ((((bX s_0).getD (([] : List Nat), ([] : List Nat), false, ())).2).1) (0 : Int)).getD ((false, ([] : List Nat), (0 : Int), ()), (0 : Int), ())).1) p_1 false).getD ((false, ([] : List Nat), (0 : Int), ()), (0 : Int), ())).1), (((eE (((bJ false (((bX s_0).getD (([] : List Nat), ([] : List Nat), false, ())).1) (0 : Int)).getD ((false, ([] : List Nat), (0 : Int), ()), (0 : Int), ())).1) (((bJ false ((((bX s_0).getD (([] : List Nat), ([] : List Nat), false, ())).2).1) (0 : Int)).getD ((false, ([] : List Nat), (0 : Int), ()), (0 : Int), ())).1) p_1 true).getD ((false, ([] : List Nat), (0 : Int), ()), (0 : Int), ())).1), ()), (0 : Int), ()))))))
def aHs : PlR := ⟨[(0, .B [0, 1, 4]), (1, .A [1, 4, 6, 7, 8]), (2, .A [1, 4, 6, 7, 23]), (3, .B [4, 5]), (4, .A [1, 4, 6, 7, 27]), (5, .B [4, 5]), (6, .B [1, 4, 7, 9]), (7, .B [1, 4, 9, 11]), (8, .B [1, 4, 9, 11, 13, 14]), (9, .B [4, 13, 14, 15, 16]), (10, .A [4, 13, 14, 15, 16, 64]), (11, .B [4, 5]), (12, .B [4, 5])], []⟩
def aJv : Ty := .pair .str (.pair (.i .i64) .unit)
noncomputable def rI : aL := mSpec aJv (.tup (.pair (.pair (.pair .bool (.pair (.sl (.u .u64)) (.pair (.i .i64) .unit))) (.pair (.pair .bool (.pair (.sl (.u .u64)) (.pair (.i .i64) .unit))) .unit)) (.pair (.i .i64) .unit))) (fun x => cC x.1 x.2.1)
noncomputable def aBr : List (FuncId × aL) := [(53, tP), (54, iY), (55, rQ)]
theorem aPf : bW Tryz.prog GL aBr := .cons aKE (by kernel_rfl) (.cons wA (by kernel_rfl) (.cons aIt (by kernel_rfl) (.nil)))
theorem aKF : gam aBr 53 = some tP := rfl
theorem aKG : gam aBr 54 = some iY := rfl
theorem aKH : gam aBr 55 = some rQ := rfl
attribute [go_sem] aJv aHs aKF aKG aKH
set_option maxHeartbeats 4000000 in
theorem aHt : FOK Tryz.prog GL 19 rI := by
 refine cG (bI aPf) mix Tryz.func19 rfl (by kernel_rfl) (by decide) aHs fun w0 S x Θ hw h hF => ?_
 obtain ⟨(s_0 : (List Nat)), (p_1 : Int), u⟩ := x
 simp only [cF, go_sem]
 replace h : sat (cC s_0 p_1) _ := h
 unfold cC at h
 refine aM h fun g0 h => ?_
 refine aJ0 h (fun hc h => ?_) fun hc h => ?_
 ·exact aS hF [.cell 4 27, .tmp 5] rfl rfl rfl (aC h) (by simp only [bA, go_sem])
 ·refine ⟨fun hc => ?_, fun hc => ?_⟩
  ·replace h := iE hc h
   exact aS hF [.cell 4 27, .tmp 5] rfl rfl rfl (aC h) (by simp only [bA, go_sem])
  ·replace h := iF hc h
   refine aM h fun g0 h => ?_
   refine aM h fun g0 h => ?_
   refine aM h fun g0 h => ?_
   refine aM h fun g0 h => ?_
   refine ⟨fun hc => ?_, fun hc => ?_⟩
   ·replace h := iE hc h
    exact aS hF [.cell 4 27, .tmp 5] rfl rfl rfl (aC h) (by simp only [bA, go_sem])
   ·replace h := iF hc h
    exact aS hF [.cell 4 27, .tmp 5] rfl rfl rfl (aC h) (by simp only [bA, go_sem])
attribute [go_sem] rI
noncomputable def bE (s_0 : (List Nat)) : Option ((Bool × ((List Nat) × (Int × Unit))) × (Int × Unit)) :=
 ck (((aP s_0).isSome = true)) (if ¬ ((((((aP s_0).getD (([] : List Nat), (0 : Int), false, ())).2).2).1) = true) then some ((false, ([] : List Nat), (0 : Int), ()), (6 : Int), ()) else ck (((dA (((aP s_0).getD (([] : List Nat), (0 : Int), false, ())).1)).isSome = true)) (ck (((bC (5 : Nat) (max ((((aP s_0).getD (([] : List Nat), (0 : Int), false, ())).2).1) (0 : Int))).isSome = true)) (ck ((aCO ((dA (((aP s_0).getD (([] : List Nat), (0 : Int), false, ())).1)).getD ([] : List Nat)) ((bC (5 : Nat) (max ((((aP s_0).getD (([] : List Nat), (0 : Int), false, ())).2).1) (0 : Int))).getD ([] : List Nat)))) (ck (I64 (0 - ((((aP s_0).getD (([] : List Nat), (0 : Int), false, ())).2).1))) (ck (((bC (5 : Nat) (max (0 - ((((aP s_0).getD (([] : List Nat), (0 : Int), false, ())).2).1)) (0 : Int))).isSome = true)) (ck ((nS (aZ ((dA (((aP s_0).getD (([] : List Nat), (0 : Int), false, ())).1)).getD ([] : List Nat)) ((bC (5 : Nat) (max ((((aP s_0).getD (([] : List Nat), (0 : Int), false, ())).2).1) (0 : Int))).getD ([] : List Nat))) ((bC (5 : Nat) (max (0 - ((((aP s_0).getD (([] : List Nat), (0 : Int), false, ())).2).1)) (0 : Int))).getD ([] : List Nat)))) (ck (((bJ false ((bD (aZ ((dA (((aP s_0).getD (([] : List Nat), (0 : Int), false, ())).1)).getD ([] : List Nat)) ((bC (5 : Nat) (max ((((aP s_0).getD (([] : List Nat), (0 : Int), false, ())).2).1) (0 : Int))).getD ([] : List Nat))) ((bC (5 : Nat) (max (0 - ((((aP s_0).getD (([] : List Nat), (0 : Int), false, ())).2).1)) (0 : Int))).getD ([] : List Nat))).1) ((((aP s_0).getD (([] : List Nat), (0 : Int), false, ())).2).1)).isSome = true)) (if ((0 : Int) < ((((((bD (aZ ((dA (((aP s_0).getD (([] : List Nat), (0 : Int), false, ())).1)).getD ([] : List Nat)) ((bC (5 : Nat) (max ((((aP s_0).getD (([] : List Nat), (0 : Int), false, ())).2).1) (0 : Int))).getD ([] : List Nat))) ((bC (5 : Nat) (max (0 - ((((aP s_0).getD (([] : List Nat), (0 : Int), false, ())).2).1)) (0 : Int))).getD ([] : List Nat))).2).1).length) : Nat) : Int)) ∨ (¬ (((((bJ false ((bD (aZ ((dA (((aP s_0).getD (([] : List Nat), (0 : Int), false, ())).1)).getD ([] : List Nat)) ((bC (5 : Nat) (max ((((aP s_0).getD (([] : List Nat), (0 : Int), false, ())).2).1) (0 : Int))).getD ([] : List Nat))) ((bC (5 : Nat) (max (0 - ((((aP s_0).getD (([] : List Nat), (0 : Int), false, ())).2).1)) (0 : Int))).getD ([] : List Nat))).1) ((((aP s_0).getD (([] : List Nat), (0 : Int), false, ())).2).1)).getD ((false, ([] : List Nat), (0 : Int), ()), (0 : Int), ())).2).1) = (0 : Int))) then some ((false, ([] : List Nat), (0 : Int), ()), (6 : Int), ()) else some ((((bJ false ((bD (aZ ((dA (((aP s_0).getD (([] : List Nat), (0 : Int), false, ())).1)).getD ([] : List Nat)) ((bC (5 : Nat) (max ((((aP s_0).getD (([] : List Nat), (0 : Int), false, ())).2).1) (0 : Int))).getD ([] : List Nat))) ((bC (5 : Nat) (max (0 - ((((aP s_0).getD (([] : List Nat), (0 : Int), false, ())).2).1)) (0 : Int))).getD ([] : List Nat))).1) ((((aP s_0).getD (([] : List Nat), (0 : Int), false, ())).2).1)).getD ((false, ([] : List Nat), (0 : Int), ()), (0 : Int), ())).1), (0 : Int), ())))))))))
def aDk : PlR := ⟨[(0, .B [0, 2]), (1, .A [2, 4, 5, 6]), (2, .A [2, 4, 5, 18]), (3, .B [2, 3]), (4, .A [2, 5, 7, 8]), (5, .B [2, 8, 9, 10]), (6, .A [2, 9, 46]), (7, .B [2, 3]), (8, .B [2, 3])], []⟩
def aEQ : Ty := .pair .str .unit
noncomputable def tQ : aL := mSpec aEQ (.tup (.pair (.pair .bool (.pair (.sl (.u .u64)) (.pair (.i .i64) .unit))) (.pair (.i .i64) .unit))) (fun x => bE x.1)
noncomputable def nJ : List (FuncId × aL) := [(54, iY), (61, gM), (62, iZ), (63, dS), (64, mH), (65, kC)]
theorem aL4 : bW Tryz.prog GL nJ := .cons wA (by kernel_rfl) (.cons vA (by kernel_rfl) (.cons wW (by kernel_rfl) (.cons nQ (by kernel_rfl) (.cons aBR (by kernel_rfl) (.cons zX (by kernel_rfl) (.nil))))))
theorem aHu : gam nJ 54 = some iY := rfl
theorem aHv : gam nJ 61 = some gM := rfl
theorem aHw : gam nJ 62 = some iZ := rfl
theorem aHx : gam nJ 63 = some dS := rfl
theorem aHy : gam nJ 64 = some mH := rfl
theorem aHz : gam nJ 65 = some kC := rfl
attribute [go_sem] aEQ aDk aHu aHv aHw aHx aHy aHz
set_option maxHeartbeats 4000000 in
theorem aKI : FOK Tryz.prog GL 21 tQ := by
 refine cG (bI aL4) mix Tryz.func21 rfl (by kernel_rfl) (by decide) aDk fun w0 S x Θ hw h hF => ?_
 obtain ⟨(s_0 : (List Nat)), u⟩ := x
 simp only [cF, go_sem]
 replace h : sat (bE s_0) _ := h
 unfold bE at h
 refine aM h fun g0 h => ?_
 refine aJ0 h (fun hc h => ?_) fun hc h => ?_
 ·exact aS hF [.cell 2 25, .tmp 3] rfl rfl rfl (aC h) (by simp only [bA, go_sem])
 ·refine aM h fun g0 h => aM h fun g1 h => aM h fun g2 h => aM h fun g3 h => aM h fun g4 h => aM h fun g5 h => ?_
  refine aM h fun g0 h => ?_
  refine ⟨fun hc => ?_, fun hc => ?_⟩
  ·replace h := iE hc h
   exact aS hF [.cell 2 25, .tmp 3] rfl rfl rfl (aC h) (by simp only [bA, go_sem])
  ·replace h := iF hc h
   exact aS hF [.cell 2 25, .tmp 3] rfl rfl rfl (aC h) (by simp only [bA, go_sem])
attribute [go_sem] tQ
end Nu
end Go.Proofs
namespace Go.Proofs
open Go.Vc
set_option maxRecDepth 20000
namespace Nu
def gR (c : Nat) : Bool := decide (48 ≤ c ∧ c ≤ 57)
def cI (s : List Nat) (i : Nat) : Nat := ((s.drop i).takeWhile gR).length
theorem aSV {p : Nat → Bool} : ∀ (l : List Nat) (n : Nat), n ≤ (l.takeWhile p).length → (n < (l.takeWhile p).length ↔ n < l.length ∧ p (l.getD n 0) = true)
 | [], n, h => by simp
 | x :: r, n, h => by
  by_cases hp : p x = true
  ·rw [List.takeWhile_cons_of_pos hp] at h ⊢
   cases n with
   | zero => simp [hp]
   | succ n =>
    have := aSV (p := p) r n (by simpa using h)
    simpa using this
  ·rw [List.takeWhile_cons_of_neg hp] at h ⊢
   have : n = 0 := by simpa using h
   subst this
   simp [hp]
theorem zY (s : List Nat) (i : Nat) : cI s i ≤ s.length - i := by
 have := (List.takeWhile_prefix (p := gR) (l := s.drop i)).length_le
 rw [List.length_drop] at this
 exact this
theorem aBs (s : List Nat) (i : Nat) (hs : s.length ≤ 4611686018427387904) (hi : i ≤ 4611686018427387904) : aE s (i : Int) = some (cI s i : Int) := by
 have hd := zY s i
 unfold aE
 refine cE (jZ (step := fun d : Int => iA (i : Int) s d) (I := fun n => 0 ≤ n ∧ n ≤ cI s i) (fun n => ((cI s i : Int) - n).toNat) (fun _ => (cI s i : Int)) ?_ 0 ⟨by omega, by omega⟩) rfl
 rintro n ⟨n0, n1⟩
 obtain ⟨k, rfl⟩ := Int.eq_ofNat_of_zero_le n0
 show (∃ d', iA (i : Int) s k = _ ∧ _) ∨ iA (i : Int) s k = _
 have e : ((i : Int) + (k : Int)).toNat = i + k := by omega
 have hx : s.getD (i + k) 0 = (s.drop i).getD k 0 := by simp [List.getD_eq_getElem?_getD, List.getElem?_drop]
 have ht := aSV (p := gR) (s.drop i) k (by show k ≤ cI s i; omega)
 have ht : k < cI s i ↔ i + k < s.length ∧ 48 ≤ s.getD (i + k) 0 ∧ s.getD (i + k) 0 ≤ 57 := by
  rw [hx]
  refine ht.trans ?_
  rw [List.length_drop, gR, decide_eq_true_iff]
  constructor
  ·rintro ⟨h1, h2⟩; exact ⟨by omega, h2⟩
  ·rintro ⟨h1, h2⟩; exact ⟨by omega, h2⟩
 unfold iA
 rw [e]
 by_cases hk : k < cI s i
 ·left
  obtain ⟨h1, h2, h3⟩ := ht.1 hk
  refine ⟨(k : Int) + 1, ?_, ⟨by omega, by omega⟩, by omega, rfl⟩
  refine aB (by constructor <;> omega) (aB (fun _ => by constructor <;> omega) (aB (fun _ => by constructor <;> omega) (aB (fun _ => by constructor <;> omega) (aB (fun _ => by constructor <;> omega) ?_))))
  rw [if_pos ⟨⟨by omega, h2⟩, h3⟩]
  exact aB (by constructor <;> omega) rfl
 ·right
  refine aB (by constructor <;> omega) (aB (fun _ => by constructor <;> omega) (aB (fun _ => by constructor <;> omega) (aB (fun _ => by constructor <;> omega) (aB (fun _ => by constructor <;> omega) ?_))))
  rw [if_neg (fun h => hk (ht.2 ⟨by omega, h.1.2, h.2⟩)), show (k : Int) = (cI s i : Int) from by omega]
theorem aNd {b i : Nat} (h : b < 18446744073709551616) : (lb (b ^ i)).length ≤ i + 1 :=
 iM.2 (Nat.lt_of_le_of_lt (Nat.pow_le_pow_left (Nat.le_of_lt h) i) (Nat.pow_lt_pow_right (by decide) (by omega)))
theorem aBb (b n : Nat) (hb : b < 18446744073709551616) (hn : n ≤ 100000) : bC b (n : Int) = some (lb (b ^ n)) := by
 unfold bC
 refine cE (jZ (step := fun d : (List Nat) × Int => jL (n : Int) b d.1 d.2) (I := fun d => 0 ≤ d.2 ∧ d.2 ≤ n ∧ d.1 = lb (b ^ d.2.toNat)) (fun d => ((n : Int) - d.2).toNat) (fun _ => lb (b ^ n)) ?_ ([1], 0) ⟨by simp, by simp, ?_⟩) rfl
 ·rintro ⟨m, i⟩ ⟨i0, i1, i2⟩
  have i2 : m = lb (b ^ i.toNat) := i2
  have i0 : 0 ≤ i := i0
  have i1 : i ≤ n := i1
  show (∃ d', jL (n : Int) b m i = _ ∧ _) ∨ jL (n : Int) b m i = _
  unfold jL
  have hl := aNd (i := i.toNat) hb
  by_cases hi : i < n
  ·left
   have ht : aZ m [b] = lb (b ^ (i + 1).toNat) := by
    unfold aZ
    rw [i2, dV, show (i + 1).toNat = i.toNat + 1 from by omega, Nat.pow_succ]
    rfl
   refine ⟨(lb (b ^ (i + 1).toNat), i + 1), ?_, ⟨by simp only; omega, by simp only; omega, rfl⟩, by simp only; omega, rfl⟩
   rw [if_pos hi]
   refine aB ⟨by show m.length ≤ _; rw [i2]; omega, by show (1 : Nat) ≤ _; decide⟩ (aB (by constructor <;> omega) ?_)
   rw [ht]
  ·right
   rw [if_neg hi, i2, show i.toNat = n from by omega]
 ·show [1] = lb (b ^ 0)
  rw [Nat.pow_zero, aAT (by decide)]
  rw [show 1 / 18446744073709551616 = 0 from by decide, gF]
theorem aTE {a b : Nat} (ha : a < 256) (hb : b ≤ a) : iD .u8 a b = a - b := by
 have hm : eY .u8 = 256 := by decide +kernel
 rw [aCo, hm, show a + (256 - b) = (a - b) + 256 from by omega, Nat.add_mod_right, Nat.mod_eq_of_lt (by omega)]
def iH (s : List Nat) : Nat := s.foldl (fun m c => m * 10 + (c - 48)) 0
theorem aDZ (s : List Nat) (c : Nat) : iH (s ++ [c]) = iH s * 10 + (c - 48) := by simp [iH]
theorem aJw : ∀ (s : List Nat) (m : Nat), (∀ c ∈ s, gR c = true) → s.foldl (fun m c => m * 10 + (c - 48)) m < (m + 1) * 10 ^ s.length
 | [], m, _ => by simp
 | x :: r, m, h => by
  have hx := h x (by simp)
  simp only [gR, decide_eq_true_iff] at hx
  have ih := aJw r (m * 10 + (x - 48)) (fun c hc => h c (by simp [hc]))
  rw [List.foldl_cons, List.length_cons, Nat.pow_succ, Nat.mul_comm (10 ^ r.length) 10, ← Nat.mul_assoc]
  exact Nat.lt_of_lt_of_le ih (Nat.mul_le_mul_right _ (by omega))
theorem wE {s : List Nat} (h : ∀ c ∈ s, gR c = true) : iH s < 10 ^ s.length := by
 have := aJw s 0 h
 rw [Nat.zero_add, Nat.one_mul] at this
 exact this
theorem aJx (s : List Nat) (hd : ∀ c ∈ s, gR c = true) (hs : s.length ≤ 100000) : dA s = some (lb (iH s)) := by
 unfold dA
 refine cE (jZ (step := fun d : (List Nat) × Int => iB s d.1 d.2) (I := fun d => 0 ≤ d.2 ∧ d.2 ≤ s.length ∧ d.1 = lb (iH (s.take d.2.toNat))) (fun d => ((s.length : Int) - d.2).toNat) (fun _ => lb (iH s)) ?_ ([], 0) ⟨by simp, by simp, ?_⟩) rfl
 ·rintro ⟨m, i⟩ ⟨i0, i1, i2⟩
  have i2 : m = lb (iH (s.take i.toNat)) := i2
  have i0 : 0 ≤ i := i0
  have i1 : i ≤ s.length := i1
  show (∃ d', iB s m i = _ ∧ _) ∨ iB s m i = _
  unfold iB
  have hml : m.length ≤ 100001 := by
   rw [i2]
   have h1 := wE (s := s.take i.toNat) (fun c hc => hd c (List.mem_of_mem_take hc))
   have h2 : (s.take i.toNat).length ≤ 100000 := by rw [List.length_take]; omega
   have h3 := aNd (b := 10) (i := (s.take i.toNat).length) (by decide)
   have h4 := aST (x := iH (s.take i.toNat)) (lb (10 ^ (s.take i.toNat).length)) (uQ _) (by rw [dV]; omega) h3
   omega
  by_cases hi : i < s.length
  ·left
   have hk : i.toNat < s.length := by omega
   have hg : s.getD i.toNat 0 ∈ s := by rw [List.getD_eq_getElem?_getD, List.getElem?_eq_getElem hk]; exact List.getElem_mem hk
   have hc := hd _ hg
   simp only [gR, decide_eq_true_iff] at hc
   have hsub : iD .u8 (s.getD i.toNat 0) 48 = s.getD i.toNat 0 - 48 := aTE (by omega) hc.1
   have hN : lQ [s.getD i.toNat 0 - 48] = lb (s.getD i.toNat 0 - 48) := by
    show lb (nv [s.getD i.toNat 0 - 48]) = _
    simp [nv]
   have ht : fM (aZ m [10]) (lb (s.getD i.toNat 0 - 48)) = lb (iH (s.take (i + 1).toNat)) := by
    unfold fM aZ
    rw [i2, dV, dV, dV, show (i + 1).toNat = i.toNat + 1 from by omega, take_succ hk, aDZ]
    rfl
   have hT : (aZ m [10]).length ≤ 100002 := by
    unfold aZ
    refine Nat.le_trans (iM (k := m.length + 1).2 ?_) (by omega)
    rw [i2, dV, Nat.pow_succ, ← i2]
    have h1 := iG (a := m) (by rw [i2]; exact uQ _)
    rw [i2, dV, ← i2] at h1
    exact Nat.mul_lt_mul'' h1 (by decide)
   refine ⟨(lb (iH (s.take (i + 1).toNat)), i + 1), ?_, ⟨by simp only; omega, by simp only; omega, rfl⟩, by simp only; omega, rfl⟩
   rw [if_pos hi, hsub, hN, ht]
   refine aB (by constructor <;> omega) (aB ⟨by show m.length ≤ _; omega, by show (1 : Nat) ≤ _; decide⟩ (aB (by show (1 : Nat) ≤ _; decide) (aB ⟨by show (aZ m [10]).length ≤ _; omega, ?_⟩ (aB (by constructor <;> omega) rfl))))
   show (lb (s.getD i.toNat 0 - 48)).length ≤ _
   have := iM (n := s.getD i.toNat 0 - 48) (k := 1).2 (by omega)
   omega
  ·right
   rw [if_neg hi, i2, List.take_of_length_le (by omega)]
 ·show [] = lb (iH [])
  rw [show iH [] = 0 from rfl, gF]
end Nu
end Go.Proofs
