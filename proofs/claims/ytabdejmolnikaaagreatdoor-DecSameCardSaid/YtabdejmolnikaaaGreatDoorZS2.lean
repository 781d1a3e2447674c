import Derived.Test.YtabdejmolnikaaaGreatDoorZS1
import Derived.Test.YtabdejmolnikaaaGreatDoorZL5
import Derived.Shelf.Strconv.Itoa2
set_option linter.unusedVariables false
set_option linter.unusedSimpArgs false
namespace Go.Proofs
open Go.Vc
set_option maxRecDepth 20000
namespace Nu
structure DgN (X V P v1 v0 U2 U1 U0 : Nat) : Prop where
 hP : 0 < P
 hX : X / P = (U2 * 18446744073709551616 + U1) * 18446744073709551616 + U0
 hV : V / P = v1 * 18446744073709551616 + v0
 v1l : 9223372036854775808 ≤ v1
 v1h : v1 < 18446744073709551616
 v0h : v0 < 18446744073709551616
 u2h : U2 < 18446744073709551616
 u1h : U1 < 18446744073709551616
 u0h : U0 < 18446744073709551616
 hq : X < 18446744073709551616 * V
variable {X V P v1 v0 U2 U1 U0 : Nat}
theorem aSz (h : DgN X V P v1 v0 U2 U1 U0) : U2 ≤ v1 := by
 have h1 : V < (V / P + 1) * P := by rw [Nat.mul_comm]; exact Nat.lt_mul_div_succ V h.hP
 have h2 : X / P < 18446744073709551616 * (V / P + 1) := by
  refine (Nat.div_lt_iff_lt_mul h.hP).2 (Nat.lt_of_lt_of_le h.hq ?_)
  rw [Nat.mul_assoc]
  exact Nat.mul_le_mul_left _ (Nat.le_of_lt h1)
 rw [h.hX, h.hV] at h2
 have a := h.v0h
 have b := h.u0h
 have c := h.u1h
 omega
theorem aRZ (h : DgN X V P v1 v0 U2 U1 U0) : X / V * (v1 * 18446744073709551616 + v0) ≤ (U2 * 18446744073709551616 + U1) * 18446744073709551616 + U0 := by
 rw [← h.hX, ← h.hV]
 refine (Nat.le_div_iff_mul_le h.hP).2 ?_
 rw [Nat.mul_assoc]
 exact Nat.le_trans (Nat.mul_le_mul_left _ (Nat.div_mul_le_self V P)) (Nat.div_mul_le_self X V)
theorem mul_two (x v1 v0 : Nat) : x * (v1 * 18446744073709551616 + v0) = x * v1 * 18446744073709551616 + x * v0 := by rw [Nat.mul_add, Nat.mul_assoc]
theorem aSA (h : DgN X V P v1 v0 U2 U1 U0) : X / V ≤ (U2 * 18446744073709551616 + U1) / v1 := by
 refine (Nat.le_div_iff_mul_le (by have := h.v1l; omega)).2 ?_
 have h1 := aRZ h
 rw [mul_two] at h1
 have b := h.u0h
 generalize X / V * v1 = A at *
 generalize X / V * v0 = C at *
 omega
theorem aSB (h : DgN X V P v1 v0 U2 U1 U0) : X / V < 18446744073709551616 := (Nat.div_lt_iff_lt_mul (by
 have := h.hq
 rcases Nat.eq_zero_or_pos V with h0 | h0
 ·subst h0; simp at this
 ·exact h0)).2 h.hq
theorem aND (h : DgN X V P v1 v0 U2 U1 U0) {x : Nat} (hx : x < 18446744073709551616) (hl : x * (v1 * 18446744073709551616 + v0) ≤ (U2 * 18446744073709551616 + U1) * 18446744073709551616 + U0) : x ≤ X / V + 1 := by
 rcases x with _ | y
 ·exact Nat.zero_le _
 refine Nat.succ_le_succ ?_
 have hVp : 0 < V := by
  rcases Nat.eq_zero_or_pos V with h0 | h0
  ·have := h.hq; subst h0; simp at this
  ·exact h0
 refine (Nat.le_div_iff_mul_le hVp).2 ?_
 rw [← h.hX, ← h.hV] at hl
 have e := Nat.div_add_mod V P
 have m := Nat.mod_lt V h.hP
 have h1 : (y + 1) * (V / P) * P ≤ X := Nat.le_trans (Nat.mul_le_mul_right P hl) (Nat.div_mul_le_self X P)
 have h2 : y * (V % P) ≤ 18446744073709551616 * P := Nat.mul_le_mul (by omega) (Nat.le_of_lt m)
 have h3 : 18446744073709551616 * P ≤ V / P * P := Nat.mul_le_mul_right _ (by rw [h.hV]; have := h.v1l; omega)
 have h4 : y * V = y * (V / P) * P + y * (V % P) := by
  conv => lhs; rw [← e]
  rw [Nat.mul_add, Nat.mul_comm P, Nat.mul_assoc]
 rw [h4]
 rw [Nat.add_mul, Nat.add_mul, Nat.one_mul] at h1
 generalize y * (V / P) * P = A at *
 generalize y * (V % P) = C at *
 generalize V / P * P = D at *
 generalize 18446744073709551616 * P = E at *
 omega
structure DgL (v1 U2 U1 Q x rest over : Nat) : Prop where
 eq : x * v1 + (rest + over * 18446744073709551616) = U2 * 18446744073709551616 + U1
 r1 : rest < 18446744073709551616
 o1 : over ≤ 1
 x1 : x < 18446744073709551616
 ge : Q ≤ x
theorem aP5 {A C hi lo r u2 u1 u0 : Nat} (d : 18446744073709551616 * hi + lo = C) (m : lo < 18446744073709551616) (e : A + (r + 0 * 18446744073709551616) = u2 * 18446744073709551616 + u1) (hr : r < 18446744073709551616) (hu : u0 < 18446744073709551616) : (hi < r ∨ hi = r ∧ lo ≤ u0) ↔ A * 18446744073709551616 + C ≤ (u2 * 18446744073709551616 + u1) * 18446744073709551616 + u0 := by
 have e2 : (u2 * 18446744073709551616 + u1) * 18446744073709551616 = A * 18446744073709551616 + r * 18446744073709551616 := by rw [← e, Nat.zero_mul, Nat.add_zero, Nat.add_mul]
 rw [e2]
 omega
theorem aP6 {A r v1 u2 u1 : Nat} (e : A + 1 * v1 + (r + 0 * 18446744073709551616) = u2 * 18446744073709551616 + u1) : A + ((r + v1 + 0) % 18446744073709551616 + (r + v1 + 0) / 18446744073709551616 * 18446744073709551616) = u2 * 18446744073709551616 + u1 := by
 have d := Nat.div_add_mod (r + v1 + 0) 18446744073709551616
 omega
theorem aP7 {Q x rest : Nat} (hv0 : v0 < 18446744073709551616) (hu0 : U0 < 18446744073709551616) (h : DgL v1 U2 U1 Q x rest 0) : (x * v0 / 18446744073709551616 < rest ∨ x * v0 / 18446744073709551616 = rest ∧ x * v0 % 18446744073709551616 ≤ U0) ↔ x * (v1 * 18446744073709551616 + v0) ≤ (U2 * 18446744073709551616 + U1) * 18446744073709551616 + U0 := by
 have e := h.eq
 rw [mul_two]
 have d := Nat.div_add_mod (x * v0) 18446744073709551616
 have m := Nat.mod_lt (x * v0) (show 0 < 18446744073709551616 by decide)
 exact aP5 d m e h.r1 hu0
theorem aRr {Q x rest : Nat} (hv0 : v0 < 18446744073709551616) (h : DgL v1 U2 U1 Q x rest 1) : x * (v1 * 18446744073709551616 + v0) ≤ (U2 * 18446744073709551616 + U1) * 18446744073709551616 + U0 := by
 have e := h.eq
 have r := h.r1
 have p : x * v0 ≤ 18446744073709551615 * 18446744073709551615 := Nat.mul_le_mul (by have := h.x1; omega) (by omega)
 rw [mul_two]
 generalize x * v1 = A at *
 generalize x * v0 = C at *
 omega
theorem aP8 {Q x rest : Nat} (hv1 : v1 < 18446744073709551616) (hQ : Q * (v1 * 18446744073709551616 + v0) ≤ (U2 * 18446744073709551616 + U1) * 18446744073709551616 + U0) (h : DgL v1 U2 U1 Q x rest 0) (hc : ¬ x * (v1 * 18446744073709551616 + v0) ≤ (U2 * 18446744073709551616 + U1) * 18446744073709551616 + U0) :
  iE .u64 x 1 = x - 1 ∧ x - 1 < x ∧ DgL v1 U2 U1 Q (x - 1) ((rest + v1 + 0) % 18446744073709551616) ((rest + v1 + 0) / 18446744073709551616) := by
 have hlt : Q < x := by
  refine Nat.lt_of_mul_lt_mul_right (a := v1 * 18446744073709551616 + v0) ?_
  omega
 have e := h.eq
 have r := h.r1
 have x1 := h.x1
 obtain ⟨y, rfl⟩ : ∃ y, x = y + 1 := ⟨x - 1, by omega⟩
 rw [Nat.add_mul] at e
 refine ⟨aKI x1 (by omega), by omega, ⟨?_, Nat.mod_lt _ (by decide), by omega, by omega, by omega⟩⟩
 exact aP6 e
theorem aP9 {v o : List Nat} {j un : Nat} (hn : 2 ≤ v.length) (hs : v.length ≤ 9000000000000) (hu : un = v.length + 1) (ho : j + un ≤ o.length)
  (h : DgN X V P (v.getD (v.length - 1) 0) (v.getD (v.length - 2) 0) U2 U1 (o.getD (j + (v.length - 2)) 0)) {x rest over : Nat} (hi : DgL (v.getD (v.length - 1) 0) U2 U1 (X / V) x rest over) :
  ∃ e, dG (fun d : Nat × Nat × Nat => iM v un j o d.1 d.2.1 d.2.2) (x, rest, over) = some e ∧ X / V ≤ e ∧ e ≤ X / V + 1 ∧ e < 18446744073709551616 := by
 have e1 : ((v.length : Int) - 1).toNat = v.length - 1 := by omega
 have e2 : ((v.length : Int) - 2).toNat = v.length - 2 := by omega
 refine gI (step := fun d : Nat × Nat × Nat => iM v un j o d.1 d.2.1 d.2.2) (I := fun d => DgL (v.getD (v.length - 1) 0) U2 U1 (X / V) d.1 d.2.1 d.2.2) (fun d => d.1) (fun e => X / V ≤ e ∧ e ≤ X / V + 1 ∧ e < 18446744073709551616) ?_ (x, rest, over) hi
 rintro ⟨x, rest, over⟩ hi
 have hi : DgL (v.getD (v.length - 1) 0) U2 U1 (X / V) x rest over := hi
 show (∃ d', iM v un j o x rest over = _ ∧ _) ∨ ∃ e, iM v un j o x rest over = _ ∧ _
 unfold iM
 rw [e1, e2]
 by_cases h0 : over = 0
 ·subst h0
  have ht := aP7 h.v0h h.u0h hi
  rw [if_pos rfl]
  by_cases hc : x * (v.getD (v.length - 1) 0 * 18446744073709551616 + v.getD (v.length - 2) 0) ≤ (U2 * 18446744073709551616 + U1) * 18446744073709551616 + o.getD (j + (v.length - 2)) 0
  ·right
   refine ⟨x, ?_, hi.ge, aND h hi.x1 hc, hi.x1⟩
   refine aB (by constructor <;> omega) (aB (by constructor <;> omega) (aB (fun _ _ => by constructor <;> omega) (aB (fun _ _ => by omega) ?_)))
   exact (if_pos (ht.2 hc))
  ·left
   obtain ⟨s1, s2, s3⟩ := aP8 h.v1h (aRZ h) hi hc
   refine ⟨(x - 1, (rest + v.getD (v.length - 1) 0 + 0) % 18446744073709551616, (rest + v.getD (v.length - 1) 0 + 0) / 18446744073709551616), ?_, s3, s2⟩
   refine aB (by constructor <;> omega) (aB (by constructor <;> omega) (aB (fun _ _ => by constructor <;> omega) (aB (fun _ _ => by omega) ?_)))
   refine (if_neg (fun hh => hc (ht.1 hh))).trans ?_
   rw [s1]
   exact aB (by constructor <;> omega) (aB (by constructor <;> omega) (aB (Nat.zero_le _) rfl))
 ·right
  have h1 : over = 1 := by have := hi.o1; omega
  subst h1
  exact ⟨x, by rw [if_neg h0], hi.ge, aND h hi.x1 (aRr h.v0h hi), hi.x1⟩
end Nu
end Go.Proofs
namespace Go.Proofs
open Go.Vc
set_option maxRecDepth 20000
namespace Nu
theorem aLb {x y c b o lo hi z c' d b' : Nat} (e : 18446744073709551616 * hi + lo = x * y) (hlo : lo < 18446744073709551616) (hp : x * y ≤ 18446744073709551615 * 18446744073709551615) (hc : c < 18446744073709551616) (hb : b ≤ 1) (ho : o < 18446744073709551616)
  (hz : z = (lo + c + 0) % 18446744073709551616) (hc' : c' = (hi + (lo + c + 0) / 18446744073709551616) % 18446744073709551616) (hd : d = (o + 18446744073709551616 - z - b) % 18446744073709551616) (hb' : b' = if o < z + b then 1 else 0) :
  d + x * y + c + b = o + 18446744073709551616 * (c' + b') ∧ d < 18446744073709551616 ∧ c' < 18446744073709551616 ∧ b' ≤ 1 := by
 generalize x * y = w at *
 subst hz hc' hd hb'
 split <;> omega
theorem aSC {N N' N0 Q R P o d c b c' b' x y t : Nat} (hP : P = Q * R) (h1 : N' + P * o = N + P * d) (h2 : N + Q * x * t = N0 + P * (c + b)) (h3 : d + x * y + c + b = o + 18446744073709551616 * (c' + b')) : N' + Q * x * (t + R * y) = N0 + P * 18446744073709551616 * (c' + b') := by
 have e := congrArg (P * ·) h3
 simp only [Nat.mul_add] at e
 have e2 : P * (x * y) = Q * x * (R * y) := by
  rw [hP, Nat.mul_assoc, Nat.mul_assoc]; congr 1; rw [Nat.mul_left_comm]
 rw [Nat.mul_add] at h2 ⊢
 rw [Nat.mul_assoc P 18446744073709551616, Nat.mul_add 18446744073709551616, Nat.mul_add P]
 omega
theorem aSD {N N' N0 Q R P o d c c' y t : Nat} (hP : P = Q * R) (h1 : N' + P * o = N + P * d) (h2 : N + P * c = N0 + Q * t) (h3 : d + 18446744073709551616 * c' = o + y + c) : N' + P * 18446744073709551616 * c' = N0 + Q * (t + R * y) := by
 have e := congrArg (P * ·) h3
 simp only [Nat.mul_add] at e
 have e2 : P * y = Q * (R * y) := by rw [hP, Nat.mul_assoc]
 rw [Nat.mul_add, Nat.mul_assoc P 18446744073709551616]
 omega
structure MsI (v u : List Nat) (x j : Nat) (c b : Nat) (i : Int) (w : List Nat) : Prop where
 i0 : 0 ≤ i
 i1 : i ≤ v.length
 len : w.length = u.length
 lm : Lm w
 c1 : c < 18446744073709551616
 b1 : b ≤ 1
 rest : w.drop (j + i.toNat) = u.drop (j + i.toNat)
 sum : nv w + 18446744073709551616 ^ j * x * nv (v.take i.toNat) = nv u + 18446744073709551616 ^ (j + i.toNat) * (c + b)
structure AbI (v u : List Nat) (j : Nat) (c : Nat) (i : Int) (w : List Nat) : Prop where
 i0 : 0 ≤ i
 i1 : i ≤ v.length
 len : w.length = u.length
 lm : Lm w
 c1 : c ≤ 1
 rest : w.drop (j + i.toNat) = u.drop (j + i.toNat)
 sum : nv w + 18446744073709551616 ^ (j + i.toNat) * c = nv u + 18446744073709551616 ^ j * nv (v.take i.toNat)
theorem aQa {v u : List Nat} {x j c b : Nat} {i : Int} {w : List Nat} (hl : j + v.length < u.length) (h : MsI v u x j c b i w) (hi : i < v.length) {d c' b' : Nat} (hd : d < 18446744073709551616) (hc' : c' < 18446744073709551616) (hb' : b' ≤ 1)
  (e : d + x * v.getD i.toNat 0 + c + b = w.getD (j + i.toNat) 0 + 18446744073709551616 * (c' + b')) : MsI v u x j c' b' (i + 1) (w.set (j + i.toNat) d) := by
 have h0 := h.i0
 have hlen := h.len
 have e1 : (i + 1).toNat = i.toNat + 1 := by omega
 refine ⟨by omega, by omega, by rw [List.length_set]; exact hlen, rG h.lm _ hd, hc', hb', ?_, ?_⟩
 ·rw [e1, ← Nat.add_assoc, drop_set]; exact sS h.rest
 ·rw [e1, kT, ← Nat.add_assoc, Nat.pow_succ]
  exact aSC (R := 18446744073709551616 ^ i.toNat) (Nat.pow_add _ _ _) (vF (by omega)) h.sum e
theorem aQb {v u : List Nat} {j c : Nat} {i : Int} {w : List Nat} (hl : j + v.length < u.length) (h : AbI v u j c i w) (hi : i < v.length) {d c' : Nat} (hd : d < 18446744073709551616) (hc' : c' ≤ 1)
  (e : d + 18446744073709551616 * c' = w.getD (j + i.toNat) 0 + v.getD i.toNat 0 + c) : AbI v u j c' (i + 1) (w.set (j + i.toNat) d) := by
 have h0 := h.i0
 have hlen := h.len
 have e1 : (i + 1).toNat = i.toNat + 1 := by omega
 refine ⟨by omega, by omega, by rw [List.length_set]; exact hlen, rG h.lm _ hd, hc', ?_, ?_⟩
 ·rw [e1, ← Nat.add_assoc, drop_set]; exact sS h.rest
 ·rw [e1, kT, ← Nat.add_assoc, Nat.pow_succ]
  exact aSD (R := 18446744073709551616 ^ i.toNat) (Nat.pow_add _ _ _) (vF (by omega)) h.sum e
theorem aOs {v u : List Nat} {x j un : Nat} (lv : Lm v) (hx : x < 18446744073709551616) (hs : v.length ≤ 9000000000000) (hu : un = v.length + 1) (ho : j + un ≤ u.length) (lu : Lm u) :
  ∃ e, dG (fun d : Nat × Nat × Int × (List Nat) => gN v x un j d.1 d.2.1 d.2.2.1 d.2.2.2) (0, 0, 0, u) = some e ∧ MsI v u x j e.1 e.2.1 v.length e.2.2 := by
 refine gI (step := fun d : Nat × Nat × Int × (List Nat) => gN v x un j d.1 d.2.1 d.2.2.1 d.2.2.2) (I := fun d => MsI v u x j d.1 d.2.1 d.2.2.1 d.2.2.2) (fun d => (v.length - d.2.2.1).toNat) (fun e => MsI v u x j e.1 e.2.1 v.length e.2.2) ?_ (0, 0, 0, u) ⟨by simp, by simp, rfl, lu, by simp, by simp, rfl, by simp [nv]⟩
 rintro ⟨c, b, i, w⟩ h
 have h : MsI v u x j c b i w := h
 have h0 := h.i0
 have hlen := h.len
 show (∃ d', gN v x un j c b i w = _ ∧ _) ∨ ∃ e, gN v x un j c b i w = _ ∧ _
 unfold gN
 by_cases hi : i < v.length
 ·left
  have hy := dV lv i.toNat
  have hw := dV h.lm (j + i.toNat)
  have hb := h.b1
  obtain ⟨k1, k2, k3, k4⟩ := aLb (b' := if w.getD (j + i.toNat) 0 < (x * v.getD i.toNat 0 % 18446744073709551616 + c + 0) % 18446744073709551616 + b then 1 else 0) (Nat.div_add_mod (x * v.getD i.toNat 0) 18446744073709551616) (Nat.mod_lt _ (by decide)) (Nat.mul_le_mul (by omega) (by omega)) h.c1 hb hw rfl rfl rfl rfl
  refine ⟨((x * v.getD i.toNat 0 / 18446744073709551616 + (x * v.getD i.toNat 0 % 18446744073709551616 + c + 0) / 18446744073709551616) % 18446744073709551616, (if w.getD (j + i.toNat) 0 < (x * v.getD i.toNat 0 % 18446744073709551616 + c + 0) % 18446744073709551616 + b then 1 else 0), i + 1, w.set (j + i.toNat) ((w.getD (j + i.toNat) 0 + 18446744073709551616 - (x * v.getD i.toNat 0 % 18446744073709551616 + c + 0) % 18446744073709551616 - b) % 18446744073709551616)), ?_, aQa (by omega) h hi k2 k3 k4 k1, by simp only; omega⟩
  rw [if_pos hi]
  exact aB (by constructor <;> omega) (aB (Nat.zero_le _) (aB (by constructor <;> omega) (aB (by omega) (aB hb (aB (by constructor <;> omega) (aB (by omega) (aB (by constructor <;> omega) rfl)))))))
 ·right
  refine ⟨(c, b, w), by rw [if_neg hi], ?_⟩
  have e : i = v.length := by have := h.i1; omega
  rw [e] at h
  exact h
theorem aOt {v u : List Nat} {j un : Nat} (lv : Lm v) (hs : v.length ≤ 9000000000000) (hu : un = v.length + 1) (ho : j + un ≤ u.length) (lu : Lm u) :
  ∃ e, dG (fun d : Nat × Int × (List Nat) => gM v un j d.1 d.2.1 d.2.2) (0, 0, u) = some e ∧ AbI v u j e.1 v.length e.2 := by
 refine gI (step := fun d : Nat × Int × (List Nat) => gM v un j d.1 d.2.1 d.2.2) (I := fun d => AbI v u j d.1 d.2.1 d.2.2) (fun d => (v.length - d.2.1).toNat) (fun e => AbI v u j e.1 v.length e.2) ?_ (0, 0, u) ⟨by simp, by simp, rfl, lu, by simp, rfl, by simp [nv]⟩
 rintro ⟨c, i, w⟩ h
 have h : AbI v u j c i w := h
 have h0 := h.i0
 have hlen := h.len
 show (∃ d', gM v un j c i w = _ ∧ _) ∨ ∃ e, gM v un j c i w = _ ∧ _
 unfold gM
 by_cases hi : i < v.length
 ·left
  have hy := dV lv i.toNat
  have hw := dV h.lm (j + i.toNat)
  have hc := h.c1
  have k1 := Nat.div_add_mod (w.getD (j + i.toNat) 0 + v.getD i.toNat 0 + c) 18446744073709551616
  refine ⟨(_, _, _), ?_, aQb (d := (w.getD (j + i.toNat) 0 + v.getD i.toNat 0 + c) % 18446744073709551616) (c' := (w.getD (j + i.toNat) 0 + v.getD i.toNat 0 + c) / 18446744073709551616) (by omega) h hi (Nat.mod_lt _ (by decide)) (by omega) (by rw [Nat.add_comm]; exact k1), by simp only; omega⟩
  rw [if_pos hi]
  refine aB (by constructor <;> omega) (aB (by constructor <;> omega) (aB (by omega) (aB hc (aB (by constructor <;> omega) (aB (by omega) (aB (by constructor <;> omega) ?_))))))
  simp only [eH]
 ·right
  refine ⟨(c, w), by rw [if_neg hi], ?_⟩
  have e : i = v.length := by have := h.i1; omega
  rw [e] at h
  exact h
theorem aNE {w u : List Nat} {K : Nat} (lw : Lm w) (lu : Lm u) (h : w.drop K = u.drop K) (hu : nv u < 18446744073709551616 ^ K) : nv w < 18446744073709551616 ^ K := by
 have hp : 0 < 18446744073709551616 ^ K := Nat.pow_pos (by decide)
 have h1 := aBX lw K
 rw [h, aBX lu, Nat.div_eq_of_lt hu] at h1
 exact (Nat.div_eq_zero_iff_lt hp).1 h1.symm
theorem aQc {N N3 W x : Nat} {Q : Nat} (hW : 0 < W) (hQ : Q = N / W) (hx : Q ≤ x) (h : N3 + x * W = N) : x = Q ∧ N3 + Q * W = N := by
 have h1 : x ≤ N / W := (Nat.le_div_iff_mul_le hW).2 (by omega)
 have : x = Q := by omega
 subst this
 exact ⟨rfl, h⟩
theorem aRs {N N3 N4 N5 W x T S o4 c : Nat} {Q : Nat} (hQ : Q = N / W) (hx1 : Q ≤ x) (hx2 : x ≤ Q + 1) (h3 : N3 + x * W = N + T) (hT3 : N3 < T) (h4 : N4 + S * c = N3 + W) (h5 : N5 + S * o4 = N4 + S * ((o4 + c) % 18446744073709551616)) (hT5 : N5 < T) (hT : T = S * 18446744073709551616) (ho : o4 < 18446744073709551616) (hc : c ≤ 1) :
  x = Q + 1 ∧ N5 + Q * W = N := by
 have hle : Q * W ≤ N := by rw [hQ]; exact Nat.div_mul_le_self N W
 have hx : x = Q + 1 := by
  rcases Nat.lt_or_ge Q x with h | h
  ·omega
  ·have : x = Q := by omega
   subst this
   omega
 subst hx
 refine ⟨rfl, ?_⟩
 rw [Nat.add_mul, Nat.one_mul] at h3
 rcases Nat.lt_or_ge (o4 + c) 18446744073709551616 with h | h
 ·rw [Nat.mod_eq_of_lt h, Nat.mul_add] at h5
  omega
 ·have e : (o4 + c) % 18446744073709551616 = 0 := by omega
  have e2 : S * 18446744073709551616 = S * o4 + S * c := by rw [← Nat.mul_add]; congr 1; omega
  rw [e, Nat.mul_zero, Nat.add_zero] at h5
  omega
theorem aHw {v u : List Nat} {j un : Nat} (lv : Lm v) (lu : Lm u) (hn : 2 ≤ v.length) (hs : v.length ≤ 9000000000000) (hu : un = v.length + 1) (ho : j + un ≤ u.length)
  (hv : 9223372036854775808 ≤ v.getD (v.length - 1) 0) (hq : nv u < 18446744073709551616 ^ (j + 1) * nv v) :
  ∃ w, nU j un v u = some (nv u / (18446744073709551616 ^ j * nv v), w) ∧ w.length = u.length ∧ Lm w ∧ nv w + nv u / (18446744073709551616 ^ j * nv v) * (18446744073709551616 ^ j * nv v) = nv u := by
 have hVB := gU lv
 have hJ : 0 < 18446744073709551616 ^ j := Nat.pow_pos (by decide)
 have hX : nv u / 18446744073709551616 ^ j < 18446744073709551616 * nv v := (Nat.div_lt_iff_lt_mul hJ).2 (by rw [Nat.pow_succ, Nat.mul_assoc] at hq; rw [Nat.mul_comm]; exact hq)
 have hqq : nv u / 18446744073709551616 ^ j / nv v = nv u / (18446744073709551616 ^ j * nv v) := Nat.div_div_eq_div_mul _ _ _
 have hNT : nv u < 18446744073709551616 ^ (j + v.length + 1) := by
  refine Nat.lt_of_lt_of_le hq ?_
  rw [show j + v.length + 1 = j + 1 + v.length from by omega, Nat.pow_add _ (j + 1)]
  exact Nat.mul_le_mul_left _ (Nat.le_of_lt hVB)
 have hD : DgN (nv u / 18446744073709551616 ^ j) (nv v) (18446744073709551616 ^ (v.length - 2)) (v.getD (v.length - 1) 0) (v.getD (v.length - 2) 0) (u.getD (j + v.length) 0) (u.getD (j + (v.length - 1)) 0) (u.getD (j + (v.length - 2)) 0) := by
  refine ⟨Nat.pow_pos (by decide), ?_, ?_, hv, dV lv _, dV lv _, dV lu _, dV lu _, dV lu _, hX⟩
  ·have e1 : j + (v.length - 1) = j + (v.length - 2) + 1 := by omega
   have e2 : j + v.length = j + (v.length - 2) + 1 + 1 := by omega
   have hz : nv u / 18446744073709551616 ^ (j + (v.length - 2)) < 18446744073709551616 * 18446744073709551616 * 18446744073709551616 := by
    refine (Nat.div_lt_iff_lt_mul (Nat.pow_pos (by decide))).2 ?_
    rw [show j + v.length + 1 = j + (v.length - 2) + 1 + 1 + 1 from by omega, Nat.pow_succ, Nat.pow_succ, Nat.pow_succ] at hNT
    rw [Nat.mul_comm, ← Nat.mul_assoc, ← Nat.mul_assoc]
    exact hNT
   rw [lQ lu, lQ lu, lQ lu, e1, e2, Nat.pow_succ, Nat.pow_succ, ← Nat.div_div_eq_div_mul, ← Nat.div_div_eq_div_mul, Nat.div_div_eq_div_mul _ (18446744073709551616 ^ j), ← Nat.pow_add]
   generalize nv u / 18446744073709551616 ^ (j + (v.length - 2)) = z at *
   omega
  ·have hz : nv v / 18446744073709551616 ^ (v.length - 2) < 18446744073709551616 * 18446744073709551616 := by
    refine (Nat.div_lt_iff_lt_mul (Nat.pow_pos (by decide))).2 ?_
    have h := hVB
    rw [show v.length = v.length - 2 + 1 + 1 from by omega, Nat.pow_succ, Nat.pow_succ] at h
    rw [Nat.mul_comm, ← Nat.mul_assoc]
    exact h
   rw [lQ lv, lQ lv, show v.length - 1 = v.length - 2 + 1 from by omega, Nat.pow_succ, ← Nat.div_div_eq_div_mul]
   generalize nv v / 18446744073709551616 ^ (v.length - 2) = z at *
   omega
 have e1 : ((v.length : Int) - 1).toNat = v.length - 1 := by omega
 rw [← hqq]
 have hV0 : 0 < nv v := by
  rcases Nat.eq_zero_or_pos (nv v) with h | h
  ·rw [h] at hq; simp at hq
  ·exact h
 have hW : 0 < 18446744073709551616 ^ j * nv v := Nat.mul_pos hJ hV0
 have main : ∀ x, nv u / 18446744073709551616 ^ j / nv v ≤ x → x ≤ nv u / 18446744073709551616 ^ j / nv v + 1 → x < 18446744073709551616 → ∃ w, lZ v un j u x = some (nv u / 18446744073709551616 ^ j / nv v, w) ∧ w.length = u.length ∧ Lm w ∧ nv w + nv u / 18446744073709551616 ^ j / nv v * (18446744073709551616 ^ j * nv v) = nv u := by
  intro x hx1 hx2 hx3
  obtain ⟨⟨c, b, w⟩, m1, m2⟩ := aOs (j := j) lv hx3 hs hu ho lu
  have m2 : MsI v u x j c b v.length w := m2
  have hlen := m2.len
  have ho2 := dV m2.lm (j + v.length)
  have hc := m2.c1
  have hb := m2.b1
  have hrest := m2.rest
  have hsum := m2.sum
  rw [Int.toNat_natCast] at hrest hsum
  rw [List.take_length] at hsum
  have hset := vF (a := w) (k := j + v.length) (v := (w.getD (j + v.length) 0 + 18446744073709551616 - c - b) % 18446744073709551616) (by omega)
  have lw2 : Lm (w.set (j + v.length) ((w.getD (j + v.length) 0 + 18446744073709551616 - c - b) % 18446744073709551616)) := rG m2.lm _ (Nat.mod_lt _ (by decide))
  have hr2 : (w.set (j + v.length) ((w.getD (j + v.length) 0 + 18446744073709551616 - c - b) % 18446744073709551616)).drop (j + v.length + 1) = u.drop (j + v.length + 1) := by
   rw [drop_set]; exact sS hrest
  have hT3 := aNE lw2 lu hr2 hNT
  have hx : 18446744073709551616 ^ j * x * nv v = x * (18446744073709551616 ^ j * nv v) := by rw [Nat.mul_comm (18446744073709551616 ^ j) x, Nat.mul_assoc]
  rw [hx] at hsum
  unfold lZ
  rw [m1]
  simp only [Option.bind_some]
  unfold oT
  by_cases hbo : w.getD (j + v.length) 0 < c + b
  ·
   have hd : (w.getD (j + v.length) 0 + 18446744073709551616 - c - b) % 18446744073709551616 + c + b = w.getD (j + v.length) 0 + 18446744073709551616 := by omega
   have h3 : nv (w.set (j + v.length) ((w.getD (j + v.length) 0 + 18446744073709551616 - c - b) % 18446744073709551616)) + x * (18446744073709551616 ^ j * nv v) = nv u + 18446744073709551616 ^ (j + v.length + 1) := by
    have e := congrArg (18446744073709551616 ^ (j + v.length) * ·) hd
    simp only [Nat.mul_add] at e hsum
    rw [Nat.pow_succ]
    omega
   have hb1 : ¬ (tI (w.getD (j + v.length) 0) c b).2.1 = 0 := by show ¬ (if w.getD (j + v.length) 0 < c + b then 1 else 0) = 0; rw [if_pos hbo]; decide
   have hl3 : (w.set (j + v.length) ((w.getD (j + v.length) 0 + 18446744073709551616 - c - b) % 18446744073709551616)).length = u.length := by rw [List.length_set]; exact hlen
   obtain ⟨w3, hw3⟩ : ∃ w3, w3 = w.set (j + v.length) ((w.getD (j + v.length) 0 + 18446744073709551616 - c - b) % 18446744073709551616) := ⟨_, rfl⟩
   have hw3' : w.set (j + v.length) (tI (w.getD (j + v.length) 0) c b).1 = w3 := hw3.symm
   rw [← hw3] at h3 hT3 lw2 hr2 hl3
   obtain ⟨⟨c4, w4⟩, n1, n2⟩ := aOt (u := w3) (j := j) lv hs hu (by omega) lw2
   have n2 : AbI v w3 j c4 v.length w4 := n2
   have hl4 := n2.len
   have ho4 := dV n2.lm (j + v.length)
   have hrest4 := n2.rest
   have hsum4 := n2.sum
   rw [Int.toNat_natCast] at hrest4 hsum4
   rw [List.take_length] at hsum4
   have hset4 := vF (a := w4) (k := j + v.length) (v := (w4.getD (j + v.length) 0 + c4) % 18446744073709551616) (by omega)
   have lw5 : Lm (w4.set (j + v.length) ((w4.getD (j + v.length) 0 + c4) % 18446744073709551616)) := rG n2.lm _ (Nat.mod_lt _ (by decide))
   have hr5 : (w4.set (j + v.length) ((w4.getD (j + v.length) 0 + c4) % 18446744073709551616)).drop (j + v.length + 1) = u.drop (j + v.length + 1) := by
    rw [drop_set, ← hr2]; exact sS hrest4
   have hT5 := aNE lw5 lu hr5 hNT
   obtain ⟨f1, f2⟩ := aRs hqq hx1 hx2 h3 hT3 hsum4 hset4 hT5 (Nat.pow_succ ..) ho4 n2.c1
   refine ⟨_, aB (by constructor <;> omega) (aB (by omega) (aB hb (aB (by constructor <;> omega) (aB (by omega) ?_)))), ?_, lw5, f2⟩
   ·refine (if_neg hb1).trans ?_
    rw [hw3']
    refine bZ n1 ?_
    unfold oS
    refine aB (by constructor <;> omega) (aB (by simp only; omega) (aB (by constructor <;> omega) (aB (by simp only; omega) ?_)))
    rw [aKI hx3 (by rw [f1]; exact Nat.succ_le_succ (Nat.zero_le _)), f1, Nat.add_sub_cancel]
   ·rw [List.length_set]; omega
  ·have hd : (w.getD (j + v.length) 0 + 18446744073709551616 - c - b) % 18446744073709551616 + c + b = w.getD (j + v.length) 0 := by omega
   have h3 : nv (w.set (j + v.length) ((w.getD (j + v.length) 0 + 18446744073709551616 - c - b) % 18446744073709551616)) + x * (18446744073709551616 ^ j * nv v) = nv u := by
    have e := congrArg (18446744073709551616 ^ (j + v.length) * ·) hd
    simp only [Nat.mul_add] at e hsum
    omega
   have hb0 : (tI (w.getD (j + v.length) 0) c b).2.1 = 0 := if_neg hbo
   obtain ⟨f1, f2⟩ := aQc hW hqq hx1 h3
   refine ⟨_, aB (by constructor <;> omega) (aB (by omega) (aB hb (aB (by constructor <;> omega) (aB (by omega) ?_)))), ?_, lw2, f2⟩
   ·refine (if_pos hb0).trans ?_
    rw [f1]; rfl
   ·rw [List.length_set]; exact hlen
 have start : ∀ x rest over, DgL (v.getD (v.length - 1) 0) (u.getD (j + v.length) 0) (u.getD (j + (v.length - 1)) 0) (nv u / 18446744073709551616 ^ j / nv v) x rest over → ∃ w, kF v un j u x rest over = some (nv u / 18446744073709551616 ^ j / nv v, w) ∧ w.length = u.length ∧ Lm w ∧ nv w + nv u / 18446744073709551616 ^ j / nv v * (18446744073709551616 ^ j * nv v) = nv u := by
  intro x rest over hL
  obtain ⟨e, g1, g2, g3, g4⟩ := aP9 hn hs hu ho hD hL
  obtain ⟨w, k1, k2⟩ := main e g2 g3 g4
  refine ⟨w, ?_, k2⟩
  unfold kF
  exact bZ g1 k1
 have hu1 := dV lu (j + (v.length - 1))
 have hu2 := dV lu (j + v.length)
 have hv1 := dV lv (v.length - 1)
 have hge := aSA hD
 have hlt := aSB hD
 have hle := aSz hD
 unfold nU
 rw [e1]
 by_cases hc : u.getD (j + v.length) 0 < v.getD (v.length - 1) 0
 ·have hdm := Nat.div_add_mod (u.getD (j + v.length) 0 * 18446744073709551616 + u.getD (j + (v.length - 1)) 0) (v.getD (v.length - 1) 0)
  have hml := Nat.mod_lt (u.getD (j + v.length) 0 * 18446744073709551616 + u.getD (j + (v.length - 1)) 0) (show 0 < v.getD (v.length - 1) 0 by omega)
  have hdl : (u.getD (j + v.length) 0 * 18446744073709551616 + u.getD (j + (v.length - 1)) 0) / v.getD (v.length - 1) 0 < 18446744073709551616 := by
   refine (Nat.div_lt_iff_lt_mul (by omega)).2 ?_
   have := Nat.mul_le_mul_right 18446744073709551616 (show u.getD (j + v.length) 0 + 1 ≤ v.getD (v.length - 1) 0 from hc)
   rw [Nat.mul_comm 18446744073709551616]; omega
  obtain ⟨w, k1, k2⟩ := start _ _ 0 ⟨by rw [Nat.zero_mul, Nat.add_zero, Nat.mul_comm]; exact hdm, Nat.lt_trans hml hv1, by decide, hdl, hge⟩
  refine ⟨w, ?_, k2⟩
  refine aB (by constructor <;> omega) (aB (by omega) (aB (by constructor <;> omega) (aB (by constructor <;> omega) ?_)))
  refine (if_pos hc).trans ?_
  exact aB (by constructor <;> omega) (aB (by omega) (aB (by constructor <;> omega) (aB (by constructor <;> omega) (aB (by omega) (aB (by constructor <;> omega) (aB (by constructor <;> omega) (aB hc k1)))))))
 ·have hd := Nat.div_add_mod (u.getD (j + (v.length - 1)) 0 + v.getD (v.length - 1) 0 + 0) 18446744073709551616
  obtain ⟨w, k1, k2⟩ := start 18446744073709551615 ((u.getD (j + (v.length - 1)) 0 + v.getD (v.length - 1) 0 + 0) % 18446744073709551616) ((u.getD (j + (v.length - 1)) 0 + v.getD (v.length - 1) 0 + 0) / 18446744073709551616) ⟨by omega, Nat.mod_lt _ (by decide), by omega, by decide, by omega⟩
  refine ⟨w, ?_, k2⟩
  refine aB (by constructor <;> omega) (aB (by omega) (aB (by constructor <;> omega) (aB (by constructor <;> omega) ?_)))
  refine (if_neg hc).trans ?_
  exact aB (by constructor <;> omega) (aB (by constructor <;> omega) (aB (by omega) (aB (by constructor <;> omega) (aB (by constructor <;> omega) (aB (Nat.zero_le _) k1)))))
end Nu
end Go.Proofs
namespace Go.Proofs
open Go.Vc
set_option maxRecDepth 20000
namespace Nu
abbrev mQ (a b : List Nat) : Prop := Nrm a ∧ Nrm b ∧ nv b ≠ 0 ∧ a.length ≤ 1099511627776
def bB (a b : List Nat) : List Nat × List Nat × Unit := (lb (nv a / nv b), lb (nv a % nv b), ())
noncomputable def nH (b_1 : (List Nat)) (u_11 : (List Nat)) (q_12 : (List Nat)) : Option (((List Nat) × ((List Nat) × Unit))) :=
 ck (0 ≤ (((b_1.length) : Nat) : Int) ∧ (((b_1.length) : Nat) : Int) ≤ (((u_11.length) : Nat) : Int)) (ck ((aC0 (cF (List.take (b_1.length) u_11)) (aA (b_1.getD (((((b_1.length) : Nat) : Int) - (1 : Int)).toNat) (0 : Nat))))) (some ((cF q_12), (cD (cF (List.take (b_1.length) u_11)) (aA (b_1.getD (((((b_1.length) : Nat) : Int) - (1 : Int)).toNat) (0 : Nat)))), ())))
noncomputable def jD (b_1 : (List Nat)) (j_14 : Int) (u_15 : (List Nat)) (q_16 : (List Nat)) : Option ((Int × (List Nat) × (List Nat)) ⊕ (((List Nat) × (List Nat)))) :=
 if (0 : Int) ≤ j_14 then ck (I64 (j_14 + (((b_1.length) : Nat) : Int))) (ck (I64 ((j_14 + (((b_1.length) : Nat) : Int)) + (1 : Int))) (ck (0 ≤ j_14 ∧ j_14 < ((j_14 + (((b_1.length) : Nat) : Int)) + (1 : Int)) ∧ ((j_14 + (((b_1.length) : Nat) : Int)) + (1 : Int)) ≤ (((u_15.length) : Nat) : Int)) (((nU (j_14.toNat) ((((j_14 + (((b_1.length) : Nat) : Int)) + (1 : Int)) - j_14).toNat) (cL (bD b_1 (aA (b_1.getD (((((b_1.length) : Nat) : Int) - (1 : Int)).toNat) (0 : Nat)))) (((b_1.length) : Nat) : Int)) u_15)).bind (fun r_24 => ck (0 ≤ j_14 ∧ j_14 < (((q_16.length) : Nat) : Int)) (ck (I64 (j_14 - (1 : Int))) (some (.inl ((j_14 - (1 : Int)), (r_24.2), (q_16.set (j_14.toNat) (r_24.1)))))))))) else some (.inr (u_15, q_16))
noncomputable def rY (a_0 : (List Nat)) (b_1 : (List Nat)) : Option ((List Nat) × ((List Nat) × Unit)) :=
 ck ((aNx a_0 b_1)) (if (kL a_0 b_1) < (0 : Int) then ck ((aL6 a_0)) (some (([] : List Nat), (id a_0), ())) else if (((b_1.length) : Nat) : Int) = (1 : Int) then ck ((0 : Int) < (((b_1.length) : Nat) : Int)) (ck ((aAd a_0 (b_1.getD (0 : Nat) (0 : Nat)))) (some (((nR a_0 (b_1.getD (0 : Nat) (0 : Nat))).1), (((nR a_0 (b_1.getD (0 : Nat) (0 : Nat))).2).1), ()))) else ck (I64 ((((b_1.length) : Nat) : Int) - (1 : Int))) (ck (0 ≤ ((((b_1.length) : Nat) : Int) - (1 : Int)) ∧ ((((b_1.length) : Nat) : Int) - (1 : Int)) < (((b_1.length) : Nat) : Int)) (ck ((aDD b_1 (aA (b_1.getD (((((b_1.length) : Nat) : Int) - (1 : Int)).toNat) (0 : Nat))))) (ck ((rX (bD b_1 (aA (b_1.getD (((((b_1.length) : Nat) : Int) - (1 : Int)).toNat) (0 : Nat)))) (((b_1.length) : Nat) : Int))) (ck ((aDD a_0 (aA (b_1.getD (((((b_1.length) : Nat) : Int) - (1 : Int)).toNat) (0 : Nat))))) (ck (I64 ((((a_0.length) : Nat) : Int) + (1 : Int))) (ck ((rX (bD a_0 (aA (b_1.getD (((((b_1.length) : Nat) : Int) - (1 : Int)).toNat) (0 : Nat)))) ((((a_0.length) : Nat) : Int) + (1 : Int)))) (ck (I64 ((((a_0.length) : Nat) : Int) - (((b_1.length) : Nat) : Int))) (ck (I64 (((((a_0.length) : Nat) : Int) - (((b_1.length) : Nat) : Int)) + (1 : Int))) (ck (0 ≤ (((((a_0.length) : Nat) : Int) - (((b_1.length) : Nat) : Int)) + (1 : Int))) (ck ((8 : Int) * (((((a_0.length) : Nat) : Int) - (((b_1.length) : Nat) : Int)) + (1 : Int)) ≤ 281474976710656) (ck (I64 ((((a_0.length) : Nat) : Int) - (((b_1.length) : Nat) : Int))) ((dG (fun d : Int × (List Nat) × (List Nat) => jD b_1 d.1 d.2.1 d.2.2) (((((a_0.length) : Nat) : Int) - (((b_1.length) : Nat) : Int)), (cL (bD a_0 (aA (b_1.getD (((((b_1.length) : Nat) : Int) - (1 : Int)).toNat) (0 : Nat)))) ((((a_0.length) : Nat) : Int) + (1 : Int))), (List.replicate ((((((a_0.length) : Nat) : Int) - (((b_1.length) : Nat) : Int)) + (1 : Int)).toNat) (0 : Nat)))).bind (fun e => nH b_1 e.1 e.2))))))))))))))
theorem aC3 {a : List Nat} {n : Int} : nv (cL a n) = nv a := by
 unfold cL; rw [aCW, aCX, Nat.mul_zero, Nat.add_zero]
theorem aGc {a : List Nat} {n : Int} (h : a.length ≤ n) : (cL a n).length = n.toNat := by
 unfold cL; rw [List.length_append, List.length_replicate]; omega
theorem aIF {a : List Nat} {n : Int} (h : Lm a) : Lm (cL a n) := aPR h (aCY _)
theorem aLc {b : List Nat} (lb' : Lm b) (hn : Nrm b) (h0 : nv b ≠ 0) : 0 < b.length ∧ 1 ≤ b.getD (b.length - 1) 0 ∧ b.getD (b.length - 1) 0 * 18446744073709551616 ^ (b.length - 1) ≤ nv b ∧ nv b < (b.getD (b.length - 1) 0 + 1) * 18446744073709551616 ^ (b.length - 1) := by
 have hne : b ≠ [] := fun e => h0 (by rw [e]; rfl)
 have hl : 0 < b.length := List.length_pos_iff.2 hne
 have hp : 0 < 18446744073709551616 ^ (b.length - 1) := Nat.pow_pos (by decide)
 have hge := aNv hn hne
 have hlt := gU lb'
 have ht : b.getD (b.length - 1) 0 = nv b / 18446744073709551616 ^ (b.length - 1) := by
  rw [lQ lb']
  refine Nat.mod_eq_of_lt ((Nat.div_lt_iff_lt_mul hp).2 ?_)
  rw [Nat.mul_comm, ← Nat.pow_succ, show (b.length - 1).succ = b.length from by omega]
  exact hlt
 rw [ht]
 exact ⟨hl, (Nat.le_div_iff_mul_le hp).2 (by omega), Nat.div_mul_le_self _ _, by rw [Nat.mul_comm]; exact Nat.lt_mul_div_succ _ hp⟩
theorem aOu {b : List Nat} (lb' : Lm b) (hn : Nrm b) (h0 : nv b ≠ 0) : nv b * 2 ^ (64 - bl (b.getD (b.length - 1) 0)) < 18446744073709551616 ^ b.length ∧ 9223372036854775808 * 18446744073709551616 ^ (b.length - 1) ≤ nv b * 2 ^ (64 - bl (b.getD (b.length - 1) 0)) := by
 obtain ⟨hl, h1, h2, h3⟩ := aLc lb' hn h0
 have hb := aOj (dV lb' (b.length - 1))
 have hlow := aJe (x := b.getD (b.length - 1) 0) (by omega)
 have hlt := aDA (b.getD (b.length - 1) 0)
 have hpos := aCZ (x := b.getD (b.length - 1) 0) (by omega)
 generalize b.getD (b.length - 1) 0 = t at *
 have hp := Nat.two_pow_pos (64 - bl t)
 have e1 : 2 ^ bl t * 2 ^ (64 - bl t) = 18446744073709551616 := by rw [← Nat.pow_add, show bl t + (64 - bl t) = 64 from by omega]
 have e2 : 2 ^ (bl t - 1) * 2 ^ (64 - bl t) = 9223372036854775808 := by rw [← Nat.pow_add, show bl t - 1 + (64 - bl t) = 63 from by omega]
 constructor
 ·have k1 : (t + 1) * 2 ^ (64 - bl t) ≤ 18446744073709551616 := by rw [← e1]; exact Nat.mul_le_mul_right _ hlt
  have k2 := Nat.mul_lt_mul_of_pos_right h3 hp
  refine Nat.lt_of_lt_of_le k2 ?_
  rw [Nat.mul_right_comm, show 18446744073709551616 ^ b.length = 18446744073709551616 * 18446744073709551616 ^ (b.length - 1) from by rw [Nat.mul_comm, ← Nat.pow_succ]; congr 1; omega]
  exact Nat.mul_le_mul_right _ k1
 ·have k1 : 9223372036854775808 ≤ t * 2 ^ (64 - bl t) := by rw [← e2]; exact Nat.mul_le_mul_right _ hlow
  refine Nat.le_trans (Nat.mul_le_mul_right _ k1) ?_
  rw [Nat.mul_right_comm]
  exact Nat.mul_le_mul_right _ h2
structure QrI (m n V N : Nat) (j : Int) (u q : List Nat) : Prop where
 j0 : -1 ≤ j
 j1 : j ≤ m
 ul : u.length = m + n + 1
 lu : Lm u
 ql : q.length = m + 1
 lq : Lm q
 lt : nv u < 18446744073709551616 ^ (j + 1).toNat * V
 lo : ∃ t, nv q = 18446744073709551616 ^ (j + 1).toNat * t
 sum : nv q * V + nv u = N
theorem aQd {m n V N : Nat} {j : Int} {u q w : List Nat} (h : QrI m n V N j u q) (hj : 0 ≤ j) (hw : w.length = u.length) (lw : Lm w) (hV : 0 < V)
  (e : nv w + nv u / (18446744073709551616 ^ j.toNat * V) * (18446744073709551616 ^ j.toNat * V) = nv u) : QrI m n V N (j - 1) w (q.set j.toNat (nv u / (18446744073709551616 ^ j.toNat * V))) := by
 have h1 := h.j1
 have hql := h.ql
 have hul := h.ul
 have e1 : (j + 1).toNat = j.toNat + 1 := by omega
 have e2 : (j - 1 + 1).toNat = j.toNat := by omega
 have hW : 0 < 18446744073709551616 ^ j.toNat * V := Nat.mul_pos (Nat.pow_pos (by decide)) hV
 have hlt := h.lt
 obtain ⟨t, ht⟩ := h.lo
 rw [e1] at hlt ht
 have hQ : nv u / (18446744073709551616 ^ j.toNat * V) < 18446744073709551616 := by
  refine (Nat.div_lt_iff_lt_mul hW).2 ?_
  rw [Nat.pow_succ, Nat.mul_comm (18446744073709551616 ^ j.toNat) 18446744073709551616, Nat.mul_assoc] at hlt
  exact hlt
 have hz : q.getD j.toNat 0 = 0 := by
  rw [lQ h.lq, ht, Nat.pow_succ, Nat.mul_assoc, Nat.mul_div_cancel_left _ (Nat.pow_pos (by decide)), Nat.mul_mod_right]
 have hset := vF (a := q) (k := j.toNat) (v := nv u / (18446744073709551616 ^ j.toNat * V)) (by omega)
 rw [hz, Nat.mul_zero, Nat.add_zero] at hset
 have hwm : nv w = nv u % (18446744073709551616 ^ j.toNat * V) := by
  have d := Nat.div_add_mod (nv u) (18446744073709551616 ^ j.toNat * V)
  rw [Nat.mul_comm] at d
  omega
 refine ⟨by omega, by omega, by omega, lw, by rw [List.length_set]; exact hql, rG h.lq _ hQ, ?_, ?_, ?_⟩
 ·rw [e2, hwm]; exact Nat.mod_lt _ hW
 ·rw [e2, hset, ht, Nat.pow_succ, Nat.mul_assoc, ← Nat.mul_add]; exact ⟨_, rfl⟩
 ·have hs := h.sum
  rw [hset, Nat.add_mul, Nat.mul_right_comm, Nat.mul_comm (18446744073709551616 ^ j.toNat * V)]
  omega
theorem aGd (a : List Nat) (wa : (Ty.sl (.u .u64)).wf a) (b : List Nat) (wb : (Ty.sl (.u .u64)).wf b) (hp : mQ a b) : rY a b = some (bB a b) := by
 obtain ⟨na, nb, hb0, sa⟩ := hp
 have la := pE wa
 have lb' := pE wb
 obtain ⟨hl, t1, t2, t3⟩ := aLc lb' nb hb0
 obtain ⟨v1, v2⟩ := aOu lb' nb hb0
 have h64 := aOj (dV lb' (b.length - 1))
 have hpos := aCZ (x := b.getD (b.length - 1) 0) (by omega)
 unfold rY
 refine aB ⟨na, nb⟩ (yK (fun hc => ?_) (fun hc => yK (fun h1 => ?_) (fun h1 => ?_)))
 ·have hlt : nv a < nv b := by
   unfold kL aL8 at hc
   split at hc
   ·assumption
   ·split at hc <;> omega
  unfold bB
  rw [Nat.div_eq_of_lt hlt, Nat.mod_eq_of_lt hlt, fS, aNu la na]
  exact aB (by show a.length * 8 ≤ _; omega) rfl
 ·have hb1 : nv b = b.getD 0 0 := by
   match b, (show b.length = 1 by omega) with
   | [x], _ => rfl
  refine aB (by omega) (aB ⟨by rw [← hb1]; exact hb0, sa⟩ ?_)
  unfold nR bB
  rw [← hb1]
 ·have hge : nv b ≤ nv a := by
   unfold kL aL8 at hc
   split at hc
   ·omega
   ·omega
  have hlen : b.length ≤ a.length := by
   rcases Nat.lt_or_ge a.length b.length with h | h
   ·exfalso
    have k1 := gU la
    have k2 : 18446744073709551616 ^ a.length ≤ 18446744073709551616 ^ (b.length - 1) := Nat.pow_le_pow_right (by decide) (by omega)
    have k3 := aNv nb (fun e => hb0 (by rw [e]; rfl))
    omega
   ·exact h
  have e1 : ((b.length : Int) - 1).toNat = b.length - 1 := by omega
  rw [e1]
  have hs : (aA (b.getD (b.length - 1) 0)).toNat = 64 - bl (b.getD (b.length - 1) 0) := by unfold aA; omega
  have hs2 : 0 ≤ aA (b.getD (b.length - 1) 0) ∧ aA (b.getD (b.length - 1) 0) ≤ 63 := by unfold aA; omega
  have hLb : bD b (aA (b.getD (b.length - 1) 0)) = lb (nv b * 2 ^ (64 - bl (b.getD (b.length - 1) 0))) := by unfold bD; rw [hs]
  have hLa : bD a (aA (b.getD (b.length - 1) 0)) = lb (nv a * 2 ^ (64 - bl (b.getD (b.length - 1) 0))) := by unfold bD; rw [hs]
  have hs3 : 64 - bl (b.getD (b.length - 1) 0) ≤ 63 := by omega
  have hbl : (lb (nv b * 2 ^ (64 - bl (b.getD (b.length - 1) 0)))).length ≤ b.length := jN.2 v1
  have hal : (lb (nv a * 2 ^ (64 - bl (b.getD (b.length - 1) 0)))).length ≤ a.length + 1 := by
   refine jN.2 ?_
   rw [Nat.pow_succ]
   refine Nat.mul_lt_mul'' (gU la) ?_
   exact Nat.lt_of_le_of_lt (Nat.pow_le_pow_right (by decide) hs3) (by decide)
  have hn2 : 2 ≤ b.length := by omega
  obtain ⟨sI, hsI⟩ : ∃ sI, sI = aA (b.getD (b.length - 1) 0) := ⟨_, rfl⟩
  obtain ⟨s, hss⟩ : ∃ s, s = 64 - bl (b.getD (b.length - 1) 0) := ⟨_, rfl⟩
  rw [← hss] at v1 v2 hbl hal hLa hLb hs3 hs
  rw [← hsI] at hLa hLb hs2 hs
  rw [← hsI, hLa, hLb]
  have hV : 0 < nv b * 2 ^ s := Nat.mul_pos (by omega) (Nat.two_pow_pos s)
  have key := gI (step := fun d : Int × (List Nat) × (List Nat) => jD b d.1 d.2.1 d.2.2) (I := fun d => QrI (a.length - b.length) b.length (nv b * 2 ^ s) (nv a * 2 ^ s) d.1 d.2.1 d.2.2) (fun d => (d.1 + 1).toNat)
   (fun e => e.1.length = a.length + 1 ∧ Lm e.1 ∧ nv e.1 = nv a * 2 ^ s % (nv b * 2 ^ s) ∧ nv e.2 = nv a * 2 ^ s / (nv b * 2 ^ s)) ?_ ((a.length : Int) - (b.length : Int), cL (lb (nv a * 2 ^ s)) ((a.length : Int) + 1), List.replicate (((a.length : Int) - (b.length : Int)) + 1).toNat 0) ?_
  ·obtain ⟨e, h2, h3, h4, h5, h6⟩ := key
   refine aB (by constructor <;> omega) (aB (by constructor <;> omega) (aB ⟨(by show b.length ≤ _; omega), by omega, by omega⟩ (aB (by constructor <;> omega) (aB ⟨sa, by omega, by omega⟩ (aB (by constructor <;> omega) (aB (by constructor <;> omega) (aB (by constructor <;> omega) (aB (by constructor <;> omega) (aB (by omega) (aB (by omega) (aB (by constructor <;> omega) (bZ h2 ?_))))))))))))
   have hm : nv e.1 < nv b * 2 ^ s := by rw [h5]; exact Nat.mod_lt _ hV
   have htk : nv (e.1.take b.length) = nv e.1 := by
    rw [aRe h4]; exact Nat.mod_eq_of_lt (Nat.lt_trans hm v1)
   have htr : cF (e.1.take b.length) = lb (nv e.1) := by rw [cF, htk]
   unfold nH
   rw [e1, ← hsI, htr]
   refine aB (by constructor <;> omega) (aB ⟨?_, hs2.1⟩ ?_)
   ·have := jN.2 (Nat.lt_trans hm v1)
    show (lb (nv e.1)).length ≤ _
    omega
   ·unfold bB cD
    rw [cF, h6, eV, hs, h5, Nat.mul_div_mul_right _ _ (Nat.two_pow_pos s), Nat.mul_mod_mul_right, Nat.mul_div_cancel _ (Nat.two_pow_pos s)]
  ·rintro ⟨j, u, q⟩ h
   have h : QrI (a.length - b.length) b.length (nv b * 2 ^ s) (nv a * 2 ^ s) j u q := h
   have i0 := h.j0
   have i1 := h.j1
   have hul := h.ul
   have hql := h.ql
   show (∃ d', jD b j u q = _ ∧ _) ∨ ∃ e, jD b j u q = _ ∧ _
   unfold jD
   rw [e1, ← hsI, hLb]
   by_cases hj : 0 ≤ j
   ·left
    have hvl : (cL (lb (nv b * 2 ^ s)) (b.length : Int)).length = b.length := by rw [aGc (by omega), Int.toNat_natCast]
    have hvv : nv (cL (lb (nv b * 2 ^ s)) (b.length : Int)) = nv b * 2 ^ s := by rw [aC3, eV]
    have lv : Lm (cL (lb (nv b * 2 ^ s)) (b.length : Int)) := aIF (yJ _)
    have htop : 9223372036854775808 ≤ (cL (lb (nv b * 2 ^ s)) (b.length : Int)).getD (b.length - 1) 0 := by
     have hp : 0 < 18446744073709551616 ^ (b.length - 1) := Nat.pow_pos (by decide)
     rw [lQ lv, hvv, Nat.mod_eq_of_lt ((Nat.div_lt_iff_lt_mul hp).2 (by rw [← Nat.pow_succ', show (b.length - 1).succ = b.length from by omega]; exact v1))]
     exact (Nat.le_div_iff_mul_le hp).2 v2
    have hlt := h.lt
    rw [show (j + 1).toNat = j.toNat + 1 from by omega] at hlt
    obtain ⟨w, k1, k2, k3, k4⟩ := aHw (v := cL (lb (nv b * 2 ^ s)) (b.length : Int)) (u := u) (j := j.toNat) (un := ((j + (b.length : Int)) + 1 - j).toNat) lv h.lu (by rw [hvl]; exact hn2) (by rw [hvl]; omega) (by rw [hvl]; omega) (by omega) (by rw [hvl]; exact htop) (by rw [hvv]; exact hlt)
    rw [hvv] at k1 k4
    refine ⟨(j - 1, w, q.set j.toNat (nv u / (18446744073709551616 ^ j.toNat * (nv b * 2 ^ s)))), ?_, aQd h hj k2 k3 hV k4, by simp only; omega⟩
    rw [if_pos hj]
    exact aB (by constructor <;> omega) (aB (by constructor <;> omega) (aB (by constructor <;> omega) (bZ k1 (aB (by constructor <;> omega) (aB (by constructor <;> omega) rfl)))))
   ·right
    have hj1 : (j + 1).toNat = 0 := by omega
    have hlt := h.lt
    rw [hj1, Nat.pow_zero, Nat.one_mul] at hlt
    have hs4 := h.sum
    refine ⟨(u, q), by rw [if_neg hj], by simp only; omega, h.lu, ?_, ?_⟩
    ·simp only
     rw [← hs4, Nat.add_comm, Nat.add_mul_mod_self_right, Nat.mod_eq_of_lt hlt]
    ·simp only
     rw [← hs4, Nat.add_comm, Nat.add_mul_div_right _ _ hV, Nat.div_eq_of_lt hlt, Nat.zero_add]
  ·have ej : ((a.length : Int) - (b.length : Int) + 1).toNat = a.length - b.length + 1 := by omega
   refine ⟨by simp only; omega, by simp only; omega, ?_, aIF (yJ _), ?_, aCY _, ?_, ⟨0, ?_⟩, ?_⟩
   ·simp only; rw [aGc (by omega)]; omega
   ·simp only; rw [List.length_replicate]; omega
   ·simp only
    rw [aC3, eV, ej]
    have k1 := gU la
    have k2 : 2 ^ s ≤ 2 ^ 63 := Nat.pow_le_pow_right (by decide) hs3
    refine Nat.lt_of_lt_of_le (Nat.mul_lt_mul_of_pos_right k1 (Nat.two_pow_pos s)) ?_
    refine Nat.le_trans (Nat.mul_le_mul_left _ k2) ?_
    refine Nat.le_trans ?_ (Nat.mul_le_mul_left _ v2)
    rw [Nat.mul_left_comm, ← Nat.pow_add, show a.length - b.length + 1 + (b.length - 1) = a.length from by omega, Nat.mul_comm]
    exact Nat.le_refl _
   ·simp only; rw [aCX, Nat.mul_zero]
   ·simp only; rw [aCX, Nat.zero_mul, Nat.zero_add, aC3, eV]
end Nu
end Go.Proofs
namespace Go.Proofs
open Go.Vc
set_option maxRecDepth 20000
namespace Nu
def aA5 : PlR := ⟨[(0, .A [0, 1]), (1, .B [4])], []⟩
def xX : Ty := .pair (.sl (.u .u64)) (.pair (.i .i64) .unit)
noncomputable def qD : aM := ⟨xX, .own 54 (.u .u64), fun x => rX x.1 x.2.1, fun x => cL x.1 x.2.1⟩
attribute [go_sem] qD xX
noncomputable def aHx : aM := mSpec xX (.own 54 (.u .u64)) (fun x => oR x.1 x.2.1)
noncomputable def aB9 : List (FuncId × aM) := [(120, bK)]
theorem aJE : bU Tryz.prog GL aB9 := .cons eY (by kernel_rfl) (.nil)
theorem aC4 : gam aB9 120 = some bK := rfl
attribute [go_sem] aA5 aC4
set_option maxHeartbeats 4000000 in
theorem aHy : FOK Tryz.prog GL 123 aHx := by
 refine cB (bL aJE) mix Tryz.func123 rfl (by kernel_rfl) (by decide) aA5 fun w0 S x Θ hw h hF => ?_
 obtain ⟨(a_0 : (List Nat)), (n_1 : Int), u⟩ := x
 simp only [cA, go_sem]
 replace h : sat (oR a_0 n_1) _ := h
 unfold oR at h
 refine aH h fun g0 h => ?_
 refine aH h fun g0 h => ?_
 obtain ⟨g0, h⟩ := aN h
 obtain ⟨g1, h⟩ := aN h
 repeat (refine ⟨by omega, ?_⟩)
 exact aS hF [.tmp 4] rfl rfl rfl (aD h) (by simp only [bA, go_sem])
theorem aHz : FOK Tryz.prog GL 123 qD := dH aHy (fun ⟨x0, x1, u⟩ ⟨w0, w1, wu⟩ hp => aGb x0 w0 x1 w1 hp)
noncomputable def rZ : lO where
 D := Nat × Nat × (List Nat) × (List Nat) × ((Nat × (List Nat)))
 av := fun d => [.sub 0 1 d.1 d.2.1, .val (.sl (.u .u64)) d.2.2.1]
 hp := fun d => [.row 54 (.u .u64) d.2.2.2.1]
 m := 1
 pre := fun d => nU d.1 d.2.1 d.2.2.1 d.2.2.2.1 = some d.2.2.2.2
 out := fun d => (fun r : (Nat × (List Nat)) => .ret (.val (.u .u64) r.1) [.row 54 (.u .u64) (r.2)]) d.2.2.2.2
noncomputable def nV : List (FuncId × aM) := [(126, hZ), (127, hO), (157, lF), (159, qB)]
theorem aDR : bU Tryz.prog GL nV := .cons vH (by kernel_rfl) (.nat vE (.cons aA3 (by kernel_rfl) (.nat aHh (.nil))))
theorem aEw : gam nV 126 = some hZ := rfl
attribute [go_sem] aEw
theorem aEx : gam nV 127 = some hO := rfl
attribute [go_sem] aEx
theorem aEy : gam nV 157 = some lF := rfl
attribute [go_sem] aEy
theorem aEz : gam nV 159 = some qB := rfl
attribute [go_sem] aEz
set_option maxHeartbeats 4000000 in
theorem aJF : GOK Tryz.prog GL 124 rZ := by
 refine qL (bL aDR) Tryz.func124 rfl (by kernel_rfl) (fun _ => Nat.le_of_ble_eq_true rfl) fun c0 w0 d hw1 hw2 h hn => ?_
 have hF : jX ⟨Tryz.prog, EM nV, GM rZ c0 d, w0, Tryz.f124.ntmps, []⟩ := ⟨bL aDR, mix⟩
 obtain ⟨(uo_0 : Nat), (un_0 : Nat), (v_1 : (List Nat)), (o0_2 : (List Nat)), r⟩ := d
 replace h : nU uo_0 un_0 v_1 o0_2 = some r := h
 have hw1 : AV.wfL [.sub 0 1 uo_0 un_0, .val (.sl (.u .u64)) v_1] := hw1
 simp only [AV.wfL, AV.wfV, Ty.wf, nM] at hw1
 show Tri _ _ _ [(0, .sub 0 1 uo_0 un_0), (1, .val (.sl (.u .u64)) v_1)] [.row 54 (.u .u64) o0_2]
 unfold nU at h
 refine aF (aE hF [0, 1] ?_)
 simp only [go_sem]
 refine aG (aF (aE hF [0, 1, 5] ?_))
 simp only [go_sem]
 refine aG (aF (aE hF [0, 1, 5, 6, 8] ?_))
 simp only [go_sem]
 refine aG (jC (D := Nat × Nat × Nat) (fun d => kF v_1 un_0 uo_0 o0_2 d.1 d.2.1 d.2.2 = some r) [1, 5] (fun d => [(0, .sub 0 1 uo_0 un_0), (6, .val (.u .u64) d.1), (7, .val (.u .u64) d.2.1), (8, .val (.u .u64) d.2.2)]) (fun d => [.inr (.row 54 (.u .u64) o0_2)]) ?_ ?_)
 ·refine aF (aE hF [0, 1, 5, 6, 8, 31] ?_)
  simp only [go_sem]
  obtain ⟨g0, h⟩ := aI h
  obtain ⟨g1, h⟩ := aI h
  obtain ⟨g2, h⟩ := aI h
  obtain ⟨g3, h⟩ := aI h
  try simp only [I64, I32] at g2
  repeat (refine ⟨by first | with_reducible assumption | omega | (intros; first | assumption | omega) | (simp only [go_sem] at *; first | assumption | omega) | decide, ?_⟩)
  refine aG (bS rfl (fun hc => ?_) (fun hc => ?_))
  ·try simp only [go_sem] at hc
   have h := fN (by first | exact hc | omega | (simpa using hc) | (simp at hc ⊢; omega)) h
   refine aE hF [0, 1, 5, 6, 7, 8] ?_
   simp only [go_sem]
   obtain ⟨g0, h⟩ := aI h
   obtain ⟨g1, h⟩ := aI h
   obtain ⟨g2, h⟩ := aI h
   obtain ⟨g3, h⟩ := aI h
   obtain ⟨g4, h⟩ := aI h
   obtain ⟨g5, h⟩ := aI h
   obtain ⟨g6, h⟩ := aI h
   obtain ⟨g7, h⟩ := aI h
   try simp only [I64, I32] at g2
   try simp only [I64, I32] at g5
   repeat (refine ⟨by first | with_reducible assumption | omega | (intros; first | assumption | omega) | (simp only [go_sem] at *; first | assumption | omega) | decide, ?_⟩)
   refine bE (aX ((((gW (o0_2.getD (uo_0 + (v_1.length)) (0 : Nat)) (o0_2.getD (uo_0 + (((((v_1.length) : Nat) : Int) - (1 : Int)).toNat)) (0 : Nat)) (v_1.getD (((((v_1.length) : Nat) : Int) - (1 : Int)).toNat) (0 : Nat))).1), (((gW (o0_2.getD (uo_0 + (v_1.length)) (0 : Nat)) (o0_2.getD (uo_0 + (((((v_1.length) : Nat) : Int) - (1 : Int)).toNat)) (0 : Nat)) (v_1.getD (((((v_1.length) : Nat) : Int) - (1 : Int)).toNat) (0 : Nat))).2).1), (0 : Nat))) h rfl ?_)
   ·(try simp only [jM, fR, true_or, and_self, go_sem]) <;> (repeat' apply And.intro) <;> first | rfl | (left; rfl) | (right; rfl) | (left; simp only [go_sem]; done) | (right; simp only [go_sem]; done) | (simp; done) | (simp only [*]; done) | omega
  ·try simp only [go_sem] at hc
   have h := fO (by first | exact hc | omega | (simpa using hc) | (simp at hc ⊢; omega)) h
   refine aE hF [0, 1, 5, 6, 7, 8] ?_
   simp only [go_sem]
   obtain ⟨g0, h⟩ := aI h
   obtain ⟨g1, h⟩ := aI h
   obtain ⟨g2, h⟩ := aI h
   obtain ⟨g3, h⟩ := aI h
   obtain ⟨g4, h⟩ := aI h
   obtain ⟨g5, h⟩ := aI h
   try simp only [I64, I32] at g0
   try simp only [I64, I32] at g3
   repeat (refine ⟨by first | with_reducible assumption | omega | (intros; first | assumption | omega) | (simp only [go_sem] at *; first | assumption | omega) | decide, ?_⟩)
   refine bE (aX (((18446744073709551615 : Nat), ((eH (o0_2.getD (uo_0 + (((((v_1.length) : Nat) : Int) - (1 : Int)).toNat)) (0 : Nat)) (v_1.getD (((((v_1.length) : Nat) : Int) - (1 : Int)).toNat) (0 : Nat)) (0 : Nat)).1), (((eH (o0_2.getD (uo_0 + (((((v_1.length) : Nat) : Int) - (1 : Int)).toNat)) (0 : Nat)) (v_1.getD (((((v_1.length) : Nat) : Int) - (1 : Int)).toNat) (0 : Nat)) (0 : Nat)).2).1))) h rfl ?_)
   ·(try simp only [jM, fR, true_or, and_self, go_sem]) <;> (repeat' apply And.intro) <;> first | rfl | (left; rfl) | (right; rfl) | (left; simp only [go_sem]; done) | (right; simp only [go_sem]; done) | (simp; done) | (simp only [*]; done) | omega
 ·rintro ⟨x_4, rest_5, over_6⟩ h
  try dsimp only at h
  simp only [go_sem]
  unfold kF at h
  refine jC (D := Nat) (fun d => lZ v_1 un_0 uo_0 o0_2 d = some r) [1, 5] (fun d => [(0, .sub 0 1 uo_0 un_0), (6, .val (.u .u64) d)]) (fun d => [.inr (.row 54 (.u .u64) o0_2)]) ?_ ?_
  ·refine gB (wB (D := Nat × Nat × Nat) [1, 5] (fun d => [(0, .sub 0 1 uo_0 un_0), (6, .val (.u .u64) d.1), (7, .val (.u .u64) d.2.1), (8, .val (.u .u64) d.2.2)]) (fun d => [.inr (.row 54 (.u .u64) o0_2)]) h ?_ ?_ ?_)
   ·first | rfl | (simp only [go_sem]; done)
   ·(try simp only [jM, fR, true_or, and_self, go_sem]) <;> (repeat' apply And.intro) <;> first | rfl | (left; rfl) | (right; rfl) | (left; simp only [go_sem]; done) | (right; simp only [go_sem]; done) | (simp; done) | (simp only [*]; done) | omega
   rintro ⟨x_52, rest_53, over_54⟩ s6 h hs6
   simp only [go_sem]
   try dsimp only at h
   unfold iM at h
   refine aF (aF (aE hF [0, 1, 5, 6, 7, 65] ?_))
   simp only [go_sem]
   refine aG (bS rfl (fun hc => ?_) (fun hc => ?_))
   ·try simp only [go_sem] at hc
    have h := fN (by first | exact hc | omega | (simpa using hc) | (simp at hc ⊢; omega)) h
    refine cE (aG (gB (aF (aE hF [0, 1, 5, 6, 7, 9, 10] ?_))))
    simp only [go_sem]
    obtain ⟨g0, h⟩ := aI h
    obtain ⟨g1, h⟩ := aI h
    try simp only [I64, I32] at g0
    repeat (refine ⟨by first | with_reducible assumption | omega | (intros; first | assumption | omega) | (simp only [go_sem] at *; first | assumption | omega) | decide, ?_⟩)
    refine aG (aF (aF (aE hF [0, 1, 5, 6, 7, 92] ?_)))
    simp only [go_sem]
    obtain ⟨g0, h⟩ := aI h
    obtain ⟨g1, h⟩ := aI h
    try simp only [I64, I32] at g0
    repeat (refine ⟨by first | with_reducible assumption | omega | (intros; first | assumption | omega) | (simp only [go_sem] at *; first | assumption | omega) | (intro q0 q1; (try have e0 := g0 (by first | exact q0 | omega | (simpa using q0)) (by first | exact q1 | omega | (simpa using q1))); (try have e1 := g1 (by first | exact q0 | omega | (simpa using q0)) (by first | exact q1 | omega | (simpa using q1))); first | assumption | omega) | (rintro ⟨q0, q1⟩; (try have e0 := g0 (by first | exact q0 | omega | (simpa using q0)) (by first | exact q1 | omega | (simpa using q1))); (try have e1 := g1 (by first | exact q0 | omega | (simpa using q0)) (by first | exact q1 | omega | (simpa using q1))); first | assumption | omega) | decide, ?_⟩)
    refine aG (bS rfl (fun hc => ?_) (fun hc => ?_))
    ·try simp only [go_sem] at hc
     have h := fN (by first | exact hc | omega | (simpa using hc) | (simp at hc ⊢; omega)) h
     obtain rfl := Option.some.inj h
     dsimp only [tG] at hs6
     have h := hs6
     try dsimp only at h
     refine tC (eC (tD (by decide) (eC (gZ (bE (aX (x_52) h rfl ?_))))))
     ·(try simp only [jM, fR, true_or, and_self, go_sem]) <;> (repeat' apply And.intro) <;> first | rfl | (left; rfl) | (right; rfl) | (left; simp only [go_sem]; done) | (right; simp only [go_sem]; done) | (simp; done) | (simp only [*]; done) | omega
    ·try simp only [go_sem] at hc
     have h := fO (by first | exact hc | omega | (simpa using hc) | (simp at hc ⊢; omega)) h
     refine cE (aG (aF (aE hF [0, 1, 5, 6, 7] ?_)))
     simp only [go_sem]
     refine aG (aE hF [0, 1, 5, 6, 7, 8] ?_)
     simp only [go_sem]
     obtain ⟨g0, h⟩ := aI h
     obtain ⟨g1, h⟩ := aI h
     obtain ⟨g2, h⟩ := aI h
     try simp only [I64, I32] at g0
     repeat (refine ⟨by first | with_reducible assumption | omega | (intros; first | assumption | omega) | (simp only [go_sem] at *; first | assumption | omega) | decide, ?_⟩)
     obtain rfl := Option.some.inj h
     dsimp only [tG] at hs6
     refine fQ (bE (aX (((iE .u64 x_52 (1 : Nat)), ((eH rest_53 (v_1.getD (((((v_1.length) : Nat) : Int) - (1 : Int)).toNat) (0 : Nat)) (0 : Nat)).1), (((eH rest_53 (v_1.getD (((((v_1.length) : Nat) : Int) - (1 : Int)).toNat) (0 : Nat)) (0 : Nat)).2).1))) hs6 rfl ?_))
     ·(try simp only [jM, fR, true_or, and_self, go_sem]) <;> (repeat' apply And.intro) <;> first | rfl | (left; rfl) | (right; rfl) | (left; simp only [go_sem]; done) | (right; simp only [go_sem]; done) | (simp; done) | (simp only [*]; done) | omega
   ·try simp only [go_sem] at hc
    have h := fO (by first | exact hc | omega | (simpa using hc) | (simp at hc ⊢; omega)) h
    obtain rfl := Option.some.inj h
    dsimp only [tG] at hs6
    have h := hs6
    try dsimp only at h
    refine tC (eC (eC (gZ (bE (aX (x_52) h rfl ?_)))))
    ·(try simp only [jM, fR, true_or, and_self, go_sem]) <;> (repeat' apply And.intro) <;> first | rfl | (left; rfl) | (right; rfl) | (left; simp only [go_sem]; done) | (right; simp only [go_sem]; done) | (simp; done) | (simp only [*]; done) | omega
  ·rintro x_13 h
   try dsimp only at h
   simp only [go_sem]
   unfold lZ at h
   refine aF (aE hF [0, 1, 5, 6, 11, 12] ?_)
   simp only [go_sem]
   refine aG (jC (D := Nat × Nat × (List Nat)) (fun d => oT v_1 un_0 uo_0 x_13 d.1 d.2.1 d.2.2 = some r) [1, 5, 6] (fun d => [(0, .sub 0 1 uo_0 un_0), (11, .val (.u .u64) d.1), (12, .val (.u .u64) d.2.1)]) (fun d => [.inr (.row 54 (.u .u64) d.2.2)]) ?_ ?_)
   ·refine aF (aE hF [0, 1, 5, 6, 11, 12, 105, 106, 107] ?_)
    simp only [go_sem]
    refine aG (gB (wB (D := Nat × Nat × Int × (List Nat)) [1, 5, 6, 105, 106] (fun d => [(0, .sub 0 1 uo_0 un_0), (11, .val (.u .u64) d.1), (12, .val (.u .u64) d.2.1), (107, .val (.i .i64) d.2.2.1)]) (fun d => [.inr (.row 54 (.u .u64) d.2.2.2)]) h ?_ ?_ ?_))
    ·first | rfl | (simp only [go_sem]; done)
    ·(try simp only [jM, fR, true_or, and_self, go_sem]) <;> (repeat' apply And.intro) <;> first | rfl | (left; rfl) | (right; rfl) | (left; simp only [go_sem]; done) | (right; simp only [go_sem]; done) | (simp; done) | (simp only [*]; done) | omega
    rintro ⟨carry_41, borrow_42, x107_43, u_44⟩ s13 h hs13
    simp only [go_sem]
    try dsimp only at h
    unfold gN at h
    refine aF (aE hF [0, 1, 5, 6, 11, 12, 105, 106, 107, 108] ?_)
    simp only [go_sem]
    refine aG (aF (bS rfl (fun hc => ?_) (fun hc => ?_)))
    ·try simp only [go_sem] at hc
     have h := fN (by first | exact hc | omega | (simpa using hc) | (simp at hc ⊢; omega)) h
     refine cE (aG (aF (gB (aF (aE hF [0, 1, 5, 6, 11, 12, 13, 14, 105, 106, 107] ?_)))))
     simp only [go_sem]
     obtain ⟨g0, h⟩ := aI h
     repeat (refine ⟨by first | with_reducible assumption | omega | (intros; first | assumption | omega) | (simp only [go_sem] at *; first | assumption | omega) | decide, ?_⟩)
     refine aG (aF (aE hF [0, 1, 5, 6, 11, 12, 13, 15, 16, 105, 106, 107] ?_))
     simp only [go_sem]
     refine aG (aF (aE hF [0, 1, 5, 6, 11, 12, 13, 15, 16, 105, 106, 107] ?_))
     simp only [go_sem]
     refine aG (aF (aE hF [0, 1, 5, 6, 12, 13, 15, 16, 17, 105, 106, 107] ?_))
     simp only [go_sem]
     obtain ⟨g0, h⟩ := aI h
     repeat (refine ⟨by first | with_reducible assumption | omega | (intros; first | assumption | omega) | (simp only [go_sem] at *; first | assumption | omega) | decide, ?_⟩)
     refine aG (aF (aE hF [0, 1, 5, 6, 11, 12, 13, 16, 105, 106, 107] ?_))
     simp only [go_sem]
     refine aG (bV hF [0, 1, 5, 6, 11, 12, 105, 106, 107] ?_)
     simp only [go_sem]
     obtain ⟨g0, h⟩ := aI h
     obtain ⟨g1, h⟩ := aI h
     repeat (refine ⟨by first | with_reducible assumption | omega | (intros; first | assumption | omega) | (simp only [go_sem] at *; first | assumption | omega) | decide, ?_⟩)
     obtain ⟨g0, h⟩ := aI h
     repeat (refine ⟨by first | with_reducible assumption | omega | (intros; first | assumption | omega) | (simp only [go_sem] at *; first | assumption | omega) | decide, ?_⟩)
     obtain ⟨g0, h⟩ := aI h
     obtain ⟨g1, h⟩ := aI h
     repeat (refine ⟨by first | with_reducible assumption | omega | (intros; first | assumption | omega) | (simp only [go_sem] at *; first | assumption | omega) | decide, ?_⟩)
     refine fQ (aG (aE hF [0, 1, 5, 6, 11, 12, 105, 106, 107] ?_))
     simp only [go_sem]
     obtain ⟨g0, h⟩ := aI h
     try simp only [I64, I32] at g0
     repeat (refine ⟨by first | with_reducible assumption | omega | (intros; first | assumption | omega) | (simp only [go_sem] at *; first | assumption | omega) | decide, ?_⟩)
     obtain rfl := Option.some.inj h
     dsimp only [tG] at hs13
     refine bE (aX ((((((bF x_13 (v_1.getD (x107_43.toNat) (0 : Nat))).1) + (((eH (((bF x_13 (v_1.getD (x107_43.toNat) (0 : Nat))).2).1) carry_41 (0 : Nat)).2).1)) % 18446744073709551616), (((tI (u_44.getD (uo_0 + (x107_43.toNat)) (0 : Nat)) ((eH (((bF x_13 (v_1.getD (x107_43.toNat) (0 : Nat))).2).1) carry_41 (0 : Nat)).1) borrow_42).2).1), (x107_43 + (1 : Int)), (u_44.set (uo_0 + (x107_43.toNat)) ((tI (u_44.getD (uo_0 + (x107_43.toNat)) (0 : Nat)) ((eH (((bF x_13 (v_1.getD (x107_43.toNat) (0 : Nat))).2).1) carry_41 (0 : Nat)).1) borrow_42).1)))) hs13 rfl ?_)
     ·(try simp only [jM, fR, true_or, and_self, go_sem]) <;> (repeat' apply And.intro) <;> first | rfl | (left; rfl) | (right; rfl) | (left; simp only [go_sem]; done) | (right; simp only [go_sem]; done) | (simp; done) | (simp only [*]; done) | omega
    ·try simp only [go_sem] at hc
     have h := fO (by first | exact hc | omega | (simpa using hc) | (simp at hc ⊢; omega)) h
     obtain rfl := Option.some.inj h
     dsimp only [tG] at hs13
     have h := hs13
     try dsimp only at h
     refine tC (eC (eC (gZ (bE (aX ((carry_41, borrow_42, u_44)) h rfl ?_)))))
     ·(try simp only [jM, fR, true_or, and_self, go_sem]) <;> (repeat' apply And.intro) <;> first | rfl | (left; rfl) | (right; rfl) | (left; simp only [go_sem]; done) | (right; simp only [go_sem]; done) | (simp; done) | (simp only [*]; done) | omega
   ·rintro ⟨carry_22, borrow_23, u_24⟩ h
    try dsimp only at h
    simp only [go_sem]
    unfold oT at h
    refine aF (aF (bV hF [0, 1, 5, 6, 12] ?_))
    simp only [go_sem]
    obtain ⟨g0, h⟩ := aI h
    obtain ⟨g1, h⟩ := aI h
    repeat (refine ⟨by first | with_reducible assumption | omega | (intros; first | assumption | omega) | (simp only [go_sem] at *; first | assumption | omega) | decide, ?_⟩)
    obtain ⟨g0, h⟩ := aI h
    repeat (refine ⟨by first | with_reducible assumption | omega | (intros; first | assumption | omega) | (simp only [go_sem] at *; first | assumption | omega) | decide, ?_⟩)
    obtain ⟨g0, h⟩ := aI h
    obtain ⟨g1, h⟩ := aI h
    repeat (refine ⟨by first | with_reducible assumption | omega | (intros; first | assumption | omega) | (simp only [go_sem] at *; first | assumption | omega) | decide, ?_⟩)
    refine aG (aF (aE hF [0, 1, 5, 6, 155] ?_))
    simp only [go_sem]
    refine aG (bS rfl (fun hc => ?_) (fun hc => ?_))
    ·try simp only [go_sem] at hc
     have h := fN (by first | exact hc | omega | (simpa using hc) | (simp at hc ⊢; omega)) h
     refine aF (aE hF [4] ?_)
     simp only [go_sem]
     obtain rfl := Option.some.inj h
     refine aG (dO (cZ (rT hF [.tmp 4] rfl rfl rfl rfl rfl rfl ?_)))
     (try simp only [bA, zW, yT, fR, mY, AV.isAgg, go_sem]) <;> first | trivial | rfl | (simp; done)
    ·try simp only [go_sem] at hc
     have h := fO (by first | exact hc | omega | (simpa using hc) | (simp at hc ⊢; omega)) h
     refine cE (aG (aF (aE hF [0, 1, 5, 6, 11] ?_)))
     simp only [go_sem]
     refine aG (jC (D := Nat × (List Nat)) (fun d => oS v_1 un_0 uo_0 x_13 d.1 d.2 = some r) [5, 6] (fun d => [(0, .sub 0 1 uo_0 un_0), (11, .val (.u .u64) d.1)]) (fun d => [.inr (.row 54 (.u .u64) d.2)]) ?_ ?_)
     ·refine aF (aE hF [0, 5, 6, 11, 157, 158, 159] ?_)
      simp only [go_sem]
      refine aG (gB (wB (D := Nat × Int × (List Nat)) [5, 6, 157, 158] (fun d => [(0, .sub 0 1 uo_0 un_0), (11, .val (.u .u64) d.1), (159, .val (.i .i64) d.2.1)]) (fun d => [.inr (.row 54 (.u .u64) d.2.2)]) h ?_ ?_ ?_))
      ·first | rfl | (simp only [go_sem]; done)
      ·(try simp only [jM, fR, true_or, and_self, go_sem]) <;> (repeat' apply And.intro) <;> first | rfl | (left; rfl) | (right; rfl) | (left; simp only [go_sem]; done) | (right; simp only [go_sem]; done) | (simp; done) | (simp only [*]; done) | omega
      rintro ⟨carry_33, x159_34, u_35⟩ s26 h hs26
      simp only [go_sem]
      try dsimp only at h
      unfold gM at h
      refine aF (aE hF [0, 5, 6, 11, 157, 158, 159, 160] ?_)
      simp only [go_sem]
      refine aG (aF (bS rfl (fun hc => ?_) (fun hc => ?_)))
      ·try simp only [go_sem] at hc
       have h := fN (by first | exact hc | omega | (simpa using hc) | (simp at hc ⊢; omega)) h
       refine cE (aG (aF (gB (aF (aE hF [0, 5, 6, 11, 18, 19, 157, 158, 159] ?_)))))
       simp only [go_sem]
       obtain ⟨g0, h⟩ := aI h
       repeat (refine ⟨by first | with_reducible assumption | omega | (intros; first | assumption | omega) | (simp only [go_sem] at *; first | assumption | omega) | decide, ?_⟩)
       refine aG (bV hF [0, 5, 6, 11, 157, 158, 159] ?_)
       simp only [go_sem]
       obtain ⟨g0, h⟩ := aI h
       obtain ⟨g1, h⟩ := aI h
       repeat (refine ⟨by first | with_reducible assumption | omega | (intros; first | assumption | omega) | (simp only [go_sem] at *; first | assumption | omega) | decide, ?_⟩)
       obtain ⟨g0, h⟩ := aI h
       repeat (refine ⟨by first | with_reducible assumption | omega | (intros; first | assumption | omega) | (simp only [go_sem] at *; first | assumption | omega) | decide, ?_⟩)
       obtain ⟨g0, h⟩ := aI h
       obtain ⟨g1, h⟩ := aI h
       repeat (refine ⟨by first | with_reducible assumption | omega | (intros; first | assumption | omega) | (simp only [go_sem] at *; first | assumption | omega) | decide, ?_⟩)
       refine fQ (aG (aE hF [0, 5, 6, 11, 157, 158, 159] ?_))
       simp only [go_sem]
       obtain ⟨g0, h⟩ := aI h
       try simp only [I64, I32] at g0
       repeat (refine ⟨by first | with_reducible assumption | omega | (intros; first | assumption | omega) | (simp only [go_sem] at *; first | assumption | omega) | decide, ?_⟩)
       obtain rfl := Option.some.inj h
       dsimp only [tG] at hs26
       refine bE (aX (((((eH (u_35.getD (uo_0 + (x159_34.toNat)) (0 : Nat)) (v_1.getD (x159_34.toNat) (0 : Nat)) carry_33).2).1), (x159_34 + (1 : Int)), (u_35.set (uo_0 + (x159_34.toNat)) ((eH (u_35.getD (uo_0 + (x159_34.toNat)) (0 : Nat)) (v_1.getD (x159_34.toNat) (0 : Nat)) carry_33).1)))) hs26 rfl ?_)
       ·(try simp only [jM, fR, true_or, and_self, go_sem]) <;> (repeat' apply And.intro) <;> first | rfl | (left; rfl) | (right; rfl) | (left; simp only [go_sem]; done) | (right; simp only [go_sem]; done) | (simp; done) | (simp only [*]; done) | omega
      ·try simp only [go_sem] at hc
       have h := fO (by first | exact hc | omega | (simpa using hc) | (simp at hc ⊢; omega)) h
       obtain rfl := Option.some.inj h
       dsimp only [tG] at hs26
       have h := hs26
       try dsimp only at h
       refine tC (eC (eC (gZ (bE (aX ((carry_33, u_35)) h rfl ?_)))))
       ·(try simp only [jM, fR, true_or, and_self, go_sem]) <;> (repeat' apply And.intro) <;> first | rfl | (left; rfl) | (right; rfl) | (left; simp only [go_sem]; done) | (right; simp only [go_sem]; done) | (simp; done) | (simp only [*]; done) | omega
     ·rintro ⟨carry_31, u_32⟩ h
      try dsimp only at h
      simp only [go_sem]
      unfold oS at h
      refine aF (bV hF [6] ?_)
      simp only [go_sem]
      obtain ⟨g0, h⟩ := aI h
      obtain ⟨g1, h⟩ := aI h
      repeat (refine ⟨by first | with_reducible assumption | omega | (intros; first | assumption | omega) | (simp only [go_sem] at *; first | assumption | omega) | decide, ?_⟩)
      obtain ⟨g0, h⟩ := aI h
      obtain ⟨g1, h⟩ := aI h
      repeat (refine ⟨by first | with_reducible assumption | omega | (intros; first | assumption | omega) | (simp only [go_sem] at *; first | assumption | omega) | decide, ?_⟩)
      refine aG (aF (aE hF [4] ?_))
      simp only [go_sem]
      obtain rfl := Option.some.inj h
      refine aG (dO (rT hF [.tmp 4] rfl rfl rfl rfl rfl rfl ?_))
      (try simp only [bA, zW, yT, fR, mY, AV.isAgg, go_sem]) <;> first | trivial | rfl | (simp; done)
attribute [go_sem] rZ
end Nu
end Go.Proofs
namespace Go.Proofs
open Go.Vc
set_option maxRecDepth 20000
namespace Nu
def oU : Ty := .pair (.sl (.u .u64)) (.pair (.sl (.u .u64)) .unit)
noncomputable def iC : aM := ⟨oU, .tup (.pair (.sl (.u .u64)) (.pair (.sl (.u .u64)) .unit)), fun x => mQ x.1 x.2.1, fun x => bB x.1 x.2.1⟩
attribute [go_sem] iC oU
noncomputable def aHA : aM := mSpec oU (.tup (.pair (.sl (.u .u64)) (.pair (.sl (.u .u64)) .unit))) (fun x => rY x.1 x.2.1)
noncomputable def fV : List (FuncId × aM) := [(119, mO), (120, bK), (121, rW), (122, cK), (123, qD), (125, dA), (68, iA), (69, fT)]
theorem aCa : bU Tryz.prog GL fV := .cons aB1 (by kernel_rfl) (.cons eY (by kernel_rfl) (.cons aJD (by kernel_rfl) (.cons kU (by kernel_rfl) (.cons aHz (by kernel_rfl) (.cons lY (by kernel_rfl) (.cons uP (by kernel_rfl) (.cons rV (by kernel_rfl) (.nil))))))))
theorem aC5 : gam fV 119 = some mO := rfl
attribute [go_sem] aC5
theorem aC6 : gam fV 120 = some bK := rfl
attribute [go_sem] aC6
theorem aC7 : gam fV 121 = some rW := rfl
attribute [go_sem] aC7
theorem aC8 : gam fV 122 = some cK := rfl
attribute [go_sem] aC8
theorem aC9 : gam fV 123 = some qD := rfl
attribute [go_sem] aC9
theorem aDa : gam fV 125 = some dA := rfl
attribute [go_sem] aDa
theorem aEA : gam fV 68 = some iA := rfl
attribute [go_sem] aEA
theorem aEB : gam fV 69 = some fT := rfl
attribute [go_sem] aEB
set_option maxHeartbeats 4000000 in
theorem aHB : FOK Tryz.prog GL 62 aHA := by
 refine sR (bL aCa) Tryz.func62 rfl (by kernel_rfl) (by decide) fun w0 S x r hw h => ?_
 have hF : jX (fr Tryz.prog (EM fV) S w0 Tryz.f62.ntmps) := ⟨bL aCa, mix⟩
 obtain ⟨(a_0 : (List Nat)), (b_1 : (List Nat)), u⟩ := x
 simp only [oU, Ty.wf, nM] at hw
 simp only [cA, oU]
 try dsimp only at h
 unfold rY at h
 refine aF (aE hF [0, 1] ?_)
 simp only [go_sem]
 refine aG (aF (aF (aE hF [0, 1, 15] ?_)))
 simp only [go_sem]
 obtain ⟨g0, h⟩ := aI h
 repeat (refine ⟨by first | with_reducible assumption | omega | (intros; first | assumption | omega) | (simp only [go_sem] at *; first | assumption | omega) | decide, ?_⟩)
 refine aG (bS rfl (fun hc => ?_) (fun hc => ?_))
 ·try simp only [go_sem] at hc
  have h := fN (by first | exact hc | omega | (simpa using hc) | (simp at hc ⊢; omega)) h
  refine aF (bV hF [4, 5] ?_)
  simp only [go_sem]
  obtain ⟨g0, h⟩ := aI h
  repeat (refine ⟨by first | with_reducible assumption | omega | (intros; first | assumption | omega) | (simp only [go_sem] at *; first | assumption | omega) | decide, ?_⟩)
  obtain rfl := Option.some.inj h
  refine aG (dO (cZ (iT hF [.tmp 4, .tmp 5] rfl rfl rfl ?_)))
  (try simp only [jW, bA, go_sem]) <;> first | rfl | (simp; done)
 ·try simp only [go_sem] at hc
  have h := fO (by first | exact hc | omega | (simpa using hc) | (simp at hc ⊢; omega)) h
  refine cE (aG (aF (aF (aE hF [0, 1, 20] ?_))))
  simp only [go_sem]
  refine aG (bS rfl (fun hc => ?_) (fun hc => ?_))
  ·try simp only [go_sem] at hc
   have h := fN (by first | exact hc | omega | (simpa using hc) | (simp at hc ⊢; omega)) h
   refine aF (aE hF [4, 5] ?_)
   simp only [go_sem]
   obtain ⟨g0, h⟩ := aI h
   obtain ⟨g1, h⟩ := aI h
   repeat (refine ⟨by first | with_reducible assumption | omega | (intros; first | assumption | omega) | (simp only [go_sem] at *; first | assumption | omega) | decide, ?_⟩)
   obtain rfl := Option.some.inj h
   refine aG (dO (cZ (iT hF [.tmp 4, .tmp 5] rfl rfl rfl ?_)))
   (try simp only [jW, bA, go_sem]) <;> first | rfl | (simp; done)
  ·try simp only [go_sem] at hc
   have h := fO (by first | exact hc | omega | (simpa using hc) | (simp at hc ⊢; omega)) h
   refine cE (aG (aF (aE hF [0, 1, 6, 7] ?_)))
   simp only [go_sem]
   obtain ⟨g0, h⟩ := aI h
   obtain ⟨g1, h⟩ := aI h
   try simp only [I64, I32] at g0
   repeat (refine ⟨by first | with_reducible assumption | omega | (intros; first | assumption | omega) | (simp only [go_sem] at *; first | assumption | omega) | decide, ?_⟩)
   refine aG (aF (bV hF [0, 6, 7, 8, 9] ?_))
   simp only [go_sem]
   obtain ⟨g0, h⟩ := aI h
   repeat (refine ⟨by first | with_reducible assumption | omega | (intros; first | assumption | omega) | (simp only [go_sem] at *; first | assumption | omega) | decide, ?_⟩)
   obtain ⟨g0, h⟩ := aI h
   repeat (refine ⟨by first | with_reducible assumption | omega | (intros; first | assumption | omega) | (simp only [go_sem] at *; first | assumption | omega) | decide, ?_⟩)
   obtain ⟨g0, h⟩ := aI h
   repeat (refine ⟨by first | with_reducible assumption | omega | (intros; first | assumption | omega) | (simp only [go_sem] at *; first | assumption | omega) | decide, ?_⟩)
   obtain ⟨g0, h⟩ := aI h
   try simp only [I64, I32] at g0
   repeat (refine ⟨by first | with_reducible assumption | omega | (intros; first | assumption | omega) | (simp only [go_sem] at *; first | assumption | omega) | decide, ?_⟩)
   obtain ⟨g0, h⟩ := aI h
   repeat (refine ⟨by first | with_reducible assumption | omega | (intros; first | assumption | omega) | (simp only [go_sem] at *; first | assumption | omega) | decide, ?_⟩)
   refine aG (aF (bV hF [0, 6, 7, 8, 9, 10] ?_))
   simp only [go_sem]
   obtain ⟨g0, h⟩ := aI h
   try simp only [I64, I32] at g0
   repeat (refine ⟨by first | with_reducible assumption | omega | (intros; first | assumption | omega) | (simp only [go_sem] at *; first | assumption | omega) | decide, ?_⟩)
   obtain ⟨g0, h⟩ := aI h
   try simp only [I64, I32] at g0
   repeat (refine ⟨by first | with_reducible assumption | omega | (intros; first | assumption | omega) | (simp only [go_sem] at *; first | assumption | omega) | decide, ?_⟩)
   obtain ⟨g0, h⟩ := aI h
   obtain ⟨g1, h⟩ := aI h
   repeat (refine ⟨by first | with_reducible assumption | omega | (intros; first | assumption | omega) | (simp only [go_sem] at *; first | assumption | omega) | decide, ?_⟩)
   refine aG (jC (D := (List Nat) × (List Nat)) (fun d => nH b_1 d.1 d.2 = some r) [6, 7] (fun d => [(9, .own 0), (10, .own 1)]) (fun d => [.inr (.row 54 (.u .u64) d.1), .inr (.row 54 (.u .u64) d.2)]) ?_ ?_)
   ·refine aF (aE hF [6, 7, 8, 9, 10, 11] ?_)
    simp only [go_sem]
    obtain ⟨g0, h⟩ := aI h
    try simp only [I64, I32] at g0
    repeat (refine ⟨by first | with_reducible assumption | omega | (intros; first | assumption | omega) | (simp only [go_sem] at *; first | assumption | omega) | decide, ?_⟩)
    refine aG (gB (aBj 0 ?_))
    simp only [go_sem]
    refine aM8 [1, 2] rfl rfl ?_
    simp only [ren, iG, oI, posOf, gG, go_sem]
    refine wB (D := Int × (List Nat) × (List Nat)) [6, 7, 8] (fun d => [(9, .own 0), (10, .own 1), (11, .val (.i .i64) d.1)]) (fun d => [.inr (.row 54 (.u .u64) d.2.1), .inr (.row 54 (.u .u64) d.2.2)]) h ?_ ?_ ?_
    ·first | rfl | (simp only [go_sem]; done)
    ·(try simp only [jM, fR, true_or, and_self, go_sem]) <;> (repeat' apply And.intro) <;> first | rfl | (left; rfl) | (right; rfl) | (left; simp only [go_sem]; done) | (right; simp only [go_sem]; done) | (simp; done) | (simp only [*]; done) | omega
    rintro ⟨j_14, u_15, q_16⟩ s9 h hs9
    simp only [go_sem]
    try dsimp only at h
    unfold jD at h
    refine aF (aF (aE hF [6, 7, 8, 9, 10, 11, 60] ?_))
    simp only [go_sem]
    refine aG (bS rfl (fun hc => ?_) (fun hc => ?_))
    ·try simp only [go_sem] at hc
     have h := fN (by first | exact hc | omega | (simpa using hc) | (simp at hc ⊢; omega)) h
     obtain ⟨g0, h⟩ := aI h
     try simp only [I64, I32] at g0
     obtain ⟨g1, h⟩ := aI h
     try simp only [I64, I32] at g1
     obtain ⟨g2, h⟩ := aI h
     obtain ⟨r_24, he1, h⟩ := bind_some h
     try dsimp only at h
     obtain ⟨g3, h⟩ := aI h
     refine cE (aG (aF (gB (bG hF (cQ (l := [(124, ⟨rZ, [0], ((j_14.toNat), ((((j_14 + (((b_1.length) : Nat) : Int)) + (1 : Int)) - j_14).toNat), (cL (bD b_1 (aA (b_1.getD (((((b_1.length) : Nat) : Int) - (1 : Int)).toNat) (0 : Nat)))) (((b_1.length) : Nat) : Int)), u_15, r_24)⟩)]) (.cons aJF (by kernel_rfl) (.nil))) [6, 7, 8, 9, 10, 11] [71] ?_))))
     simp only [go_sem]
     repeat (refine ⟨by first | with_reducible assumption | omega | (intros; first | assumption | omega) | (simp only [go_sem] at *; first | assumption | omega) | decide, ?_⟩)
     refine fQ (aG (aE hF [6, 7, 8, 9, 10, 11] ?_))
     simp only [go_sem]
     obtain ⟨g0, h⟩ := aI h
     try simp only [I64, I32] at g0
     repeat (refine ⟨by first | with_reducible assumption | omega | (intros; first | assumption | omega) | (simp only [go_sem] at *; first | assumption | omega) | decide, ?_⟩)
     obtain rfl := Option.some.inj h
     dsimp only [tG] at hs9
     refine bE (aX (((j_14 - (1 : Int)), (r_24.2), (q_16.set (j_14.toNat) (r_24.1)))) hs9 rfl ?_)
     ·(try simp only [jM, fR, true_or, and_self, go_sem]) <;> (repeat' apply And.intro) <;> first | rfl | (left; rfl) | (right; rfl) | (left; simp only [go_sem]; done) | (right; simp only [go_sem]; done) | (simp; done) | (simp only [*]; done) | omega
    ·try simp only [go_sem] at hc
     have h := fO (by first | exact hc | omega | (simpa using hc) | (simp at hc ⊢; omega)) h
     obtain rfl := Option.some.inj h
     dsimp only [tG] at hs9
     have h := hs9
     try dsimp only at h
     refine tC (eC (eC (gZ (bE (aX ((u_15, q_16)) h rfl ?_)))))
     ·(try simp only [jM, fR, true_or, and_self, go_sem]) <;> (repeat' apply And.intro) <;> first | rfl | (left; rfl) | (right; rfl) | (left; simp only [go_sem]; done) | (right; simp only [go_sem]; done) | (simp; done) | (simp only [*]; done) | omega
   ·rintro ⟨u_11, q_12⟩ h
    try dsimp only at h
    simp only [go_sem]
    unfold nH at h
    refine aF (aBj 1 ?_)
    simp only [go_sem]
    refine aBj 0 ?_
    simp only [go_sem]
    refine aE hF [4, 5] ?_
    simp only [go_sem]
    obtain ⟨g0, h⟩ := aI h
    obtain ⟨g1, h⟩ := aI h
    repeat (refine ⟨by first | with_reducible assumption | omega | (intros; first | assumption | omega) | (simp only [go_sem] at *; first | assumption | omega) | decide, ?_⟩)
    obtain rfl := Option.some.inj h
    refine aG (dO (iT hF [.tmp 4, .tmp 5] rfl rfl rfl ?_))
    (try simp only [jW, bA, go_sem]) <;> first | rfl | (simp; done)
theorem vJ : FOK Tryz.prog GL 62 iC := dH aHB (fun ⟨x0, x1, u⟩ ⟨w0, w1, wu⟩ hp => aGd x0 w0 x1 w1 hp)
end Nu
end Go.Proofs
namespace Go.Proofs
open Go.Vc
set_option maxRecDepth 20000
namespace Nu
noncomputable def cR (d_0 : (Bool × ((List Nat) × (Int × Unit)))) : Option Bool :=
 if (((((d_0.2).1).length) : Nat) : Int) = (0 : Int) then some ((!(d_0.1)) && (decide ((((d_0.2).2).1) = (0 : Int)))) else ck ((((wF ((d_0.2).1)) = true) → ((0 : Int) < (((((d_0.2).1).length) : Nat) : Int)))) (some ((((wF ((d_0.2).1)) && (decide (((((d_0.2).1).getD (0 : Nat) (0 : Nat)) &&& (1 : Nat)) = (1 : Nat)))) && (decide ((-1048576 : Int) ≤ (((d_0.2).2).1)))) && (decide ((((d_0.2).2).1) ≤ (1048576 : Int)))))
def aDS : PlR := ⟨[(0, .B [1]), (1, .A [1, 6]), (2, .A [2]), (3, .A [2])], []⟩
def aGe : Ty := .pair (.pair .bool (.pair (.sl (.u .u64)) (.pair (.i .i64) .unit))) .unit
noncomputable def fC : aM := mSpec aGe (.one .bool) (fun x => cR x.1)
noncomputable def aGf : List (FuncId × aM) := [(81, xR)]
theorem aMn : bU Tryz.prog GL aGf := .cons aMg (by kernel_rfl) (.nil)
theorem aHC : gam aGf 81 = some xR := rfl
attribute [go_sem] aGe aDS aHC
set_option maxHeartbeats 4000000 in
theorem qS : FOK Tryz.prog GL 29 fC := by
 refine cB (bL aMn) mix Tryz.func29 rfl (by kernel_rfl) (by decide) aDS fun w0 S x Θ hw h hF => ?_
 obtain ⟨(d_0 : (Bool × ((List Nat) × (Int × Unit)))), u⟩ := x
 simp only [cA, go_sem]
 replace h : sat (cR d_0) _ := h
 unfold cR at h
 refine fD h (fun hc h => ?_) fun hc h => ?_
 ·exact aS hF [.tmp 2] rfl rfl rfl (aD h) (by simp only [bA, go_sem])
 ·refine aH h fun g0 h => ?_
  exact aS hF [.tmp 2] rfl rfl rfl (aD h) (by simp only [bA, go_sem])
attribute [go_sem] fC
noncomputable def dB (d_0 : (Bool × ((List Nat) × (Int × Unit)))) : Option Int :=
 ck (((cR d_0).isSome = true)) (if (¬ (((cR d_0).getD false) = true)) ∨ ((((((d_0.2).1).length) : Nat) : Int) = (0 : Int)) then some (0 : Int) else if (d_0.1) = true then some (-1 : Int) else some (1 : Int))
def aCb : PlR := ⟨[(0, .B [1]), (1, .A [1, 3]), (2, .A [2]), (3, .A [13]), (4, .A [2]), (5, .A [2])], []⟩
def aDT : Ty := .pair (.pair .bool (.pair (.sl (.u .u64)) (.pair (.i .i64) .unit))) .unit
noncomputable def sA : aM := mSpec aDT (.one (.i .i64)) (fun x => dB x.1)
noncomputable def aDU : List (FuncId × aM) := [(29, fC)]
theorem aLd : bU Tryz.prog GL aDU := .cons qS (by kernel_rfl) (.nil)
theorem aGg : gam aDU 29 = some fC := rfl
attribute [go_sem] aDT aCb aGg
set_option maxHeartbeats 4000000 in
theorem aJG : FOK Tryz.prog GL 82 sA := by
 refine cB (bL aLd) mix Tryz.func82 rfl (by kernel_rfl) (by decide) aCb fun w0 S x Θ hw h hF => ?_
 obtain ⟨(d_0 : (Bool × ((List Nat) × (Int × Unit)))), u⟩ := x
 simp only [cA, go_sem]
 replace h : sat (dB d_0) _ := h
 unfold dB at h
 refine aH h fun g0 h => ?_
 refine ⟨fun hc => ?_, fun hc => ?_⟩
 ·replace h := gS (by first | exact hc | omega | (simpa using hc) | (simp at hc ⊢; omega)) h
  exact aS hF [.tmp 2] rfl rfl rfl (aD h) (by simp only [bA, go_sem])
 ·replace h := gT (by first | exact hc | omega | (simpa using hc) | (simp at hc ⊢; omega)) h
  refine aPs h (fun hc h => ?_) fun hc h => ?_
  ·exact aS hF [.tmp 2] rfl rfl rfl (aD h) (by simp only [bA, go_sem])
  ·exact aS hF [.tmp 2] rfl rfl rfl (aD h) (by simp only [bA, go_sem])
attribute [go_sem] sA
noncomputable def kP (a_0 : (Bool × ((List Nat) × (Int × Unit)))) (b_1 : (Bool × ((List Nat) × (Int × Unit)))) : Option Int :=
 ck ((aFT ((a_0.2).1))) (ck (I64 ((aV ((a_0.2).1)) + (((a_0.2).2).1))) (ck ((aFT ((b_1.2).1))) (ck (I64 ((aV ((b_1.2).1)) + (((b_1.2).2).1))) (if ((aV ((a_0.2).1)) + (((a_0.2).2).1)) < ((aV ((b_1.2).1)) + (((b_1.2).2).1)) then some (-1 : Int) else if ((aV ((b_1.2).1)) + (((b_1.2).2).1)) < ((aV ((a_0.2).1)) + (((a_0.2).2).1)) then some (1 : Int) else ck (I64 ((((a_0.2).2).1) - (min (((a_0.2).2).1) (((b_1.2).2).1)))) (ck ((aDD ((a_0.2).1) ((((a_0.2).2).1) - (min (((a_0.2).2).1) (((b_1.2).2).1))))) (ck (I64 ((((b_1.2).2).1) - (min (((a_0.2).2).1) (((b_1.2).2).1)))) (ck ((aDD ((b_1.2).1) ((((b_1.2).2).1) - (min (((a_0.2).2).1) (((b_1.2).2).1))))) (ck ((aNx (bD ((a_0.2).1) ((((a_0.2).2).1) - (min (((a_0.2).2).1) (((b_1.2).2).1)))) (bD ((b_1.2).1) ((((b_1.2).2).1) - (min (((a_0.2).2).1) (((b_1.2).2).1)))))) (some (kL (bD ((a_0.2).1) ((((a_0.2).2).1) - (min (((a_0.2).2).1) (((b_1.2).2).1)))) (bD ((b_1.2).1) ((((b_1.2).2).1) - (min (((a_0.2).2).1) (((b_1.2).2).1))))))))))))))
def aCc : PlR := ⟨[(0, .B [2, 3]), (1, .A [2, 3, 5, 6]), (2, .A [2, 3, 5, 6, 20]), (3, .A [4]), (4, .A [2, 3, 24]), (5, .A [4]), (6, .A [2, 3, 7]), (7, .A [4])], []⟩
def aDV : Ty := .pair (.pair .bool (.pair (.sl (.u .u64)) (.pair (.i .i64) .unit))) (.pair (.pair .bool (.pair (.sl (.u .u64)) (.pair (.i .i64) .unit))) .unit)
noncomputable def sB : aM := mSpec aDV (.one (.i .i64)) (fun x => kP x.1 x.2.1)
noncomputable def uR : List (FuncId × aM) := [(119, mO), (68, iA), (89, kM)]
theorem aLe : bU Tryz.prog GL uR := .cons aB1 (by kernel_rfl) (.cons uP (by kernel_rfl) (.cons aAf (by kernel_rfl) (.nil)))
theorem aEC : gam uR 119 = some mO := rfl
theorem aGh : gam uR 68 = some iA := rfl
theorem aGi : gam uR 89 = some kM := rfl
attribute [go_sem] aDV aCc aEC aGh aGi
set_option maxHeartbeats 4000000 in
theorem aJH : FOK Tryz.prog GL 83 sB := by
 refine cB (bL aLe) mix Tryz.func83 rfl (by kernel_rfl) (by decide) aCc fun w0 S x Θ hw h hF => ?_
 obtain ⟨(a_0 : (Bool × ((List Nat) × (Int × Unit)))), (b_1 : (Bool × ((List Nat) × (Int × Unit)))), u⟩ := x
 simp only [cA, go_sem]
 replace h : sat (kP a_0 b_1) _ := h
 unfold kP at h
 refine aH h fun g0 h => aH h fun g1 h => aH h fun g2 h => aH h fun g3 h => ?_
 refine jB h (fun hc h => ?_) fun hc h => ?_
 ·exact aS hF [.tmp 4] rfl rfl rfl (aD h) (by simp only [bA, go_sem])
 ·refine jB h (fun hc h => ?_) fun hc h => ?_
  ·exact aS hF [.tmp 4] rfl rfl rfl (aD h) (by simp only [bA, go_sem])
  ·refine aH h fun g0 h => aH h fun g1 h => aH h fun g2 h => aH h fun g3 h => aH h fun g4 h => ?_
   exact aS hF [.tmp 4] rfl rfl rfl (aD h) (by simp only [bA, go_sem])
attribute [go_sem] sB
noncomputable def fH (a_0 : (Bool × ((List Nat) × (Int × Unit)))) (b_1 : (Bool × ((List Nat) × (Int × Unit)))) : Option Int :=
 ck (((dB a_0).isSome = true)) (ck (((dB b_1).isSome = true)) (ck (((cR a_0).isSome = true)) (ck ((¬ (¬ (((cR a_0).getD false) = true)) → (((cR b_1).isSome = true)))) (if (¬ (((cR a_0).getD false) = true)) ∨ (¬ (((cR b_1).getD false) = true)) then some (0 : Int) else if (¬ (((dB a_0).getD (0 : Int)) = ((dB b_1).getD (0 : Int)))) ∧ (((dB a_0).getD (0 : Int)) < ((dB b_1).getD (0 : Int))) then some (-1 : Int) else if ¬ (((dB a_0).getD (0 : Int)) = ((dB b_1).getD (0 : Int))) then some (1 : Int) else if ((dB a_0).getD (0 : Int)) = (0 : Int) then some (0 : Int) else ck (((kP a_0 b_1).isSome = true)) (ck (I64 (((dB a_0).getD (0 : Int)) * ((kP a_0 b_1).getD (0 : Int)))) (some (((dB a_0).getD (0 : Int)) * ((kP a_0 b_1).getD (0 : Int)))))))))
def aDW : PlR := ⟨[(0, .B [2, 3]), (1, .A [2, 3, 5, 6]), (2, .A [2, 3, 5, 6, 11]), (3, .A [4]), (4, .A [2, 3, 5, 6, 20]), (5, .A [4]), (6, .A [2, 3, 5, 29]), (7, .A [4]), (8, .A [2, 3, 5, 33]), (9, .A [4]), (10, .A [4])], []⟩
def aGj : Ty := .pair (.pair .bool (.pair (.sl (.u .u64)) (.pair (.i .i64) .unit))) (.pair (.pair .bool (.pair (.sl (.u .u64)) (.pair (.i .i64) .unit))) .unit)
noncomputable def uS : aM := mSpec aGj (.one (.i .i64)) (fun x => fH x.1 x.2.1)
noncomputable def xY : List (FuncId × aM) := [(29, fC), (82, sA), (83, sB)]
theorem aMo : bU Tryz.prog GL xY := .cons qS (by kernel_rfl) (.cons aJG (by kernel_rfl) (.cons aJH (by kernel_rfl) (.nil)))
theorem aHD : gam xY 29 = some fC := rfl
theorem aHE : gam xY 82 = some sA := rfl
theorem aHF : gam xY 83 = some sB := rfl
attribute [go_sem] aGj aDW aHD aHE aHF
set_option maxHeartbeats 4000000 in
theorem aLf : FOK Tryz.prog GL 31 uS := by
 refine cB (bL aMo) mix Tryz.func31 rfl (by kernel_rfl) (by decide) aDW fun w0 S x Θ hw h hF => ?_
 obtain ⟨(a_0 : (Bool × ((List Nat) × (Int × Unit)))), (b_1 : (Bool × ((List Nat) × (Int × Unit)))), u⟩ := x
 simp only [cA, go_sem]
 replace h : sat (fH a_0 b_1) _ := h
 unfold fH at h
 obtain ⟨g0, h⟩ := aN h
 obtain ⟨g1, h⟩ := aN h
 repeat (refine ⟨by first | with_reducible assumption | omega | (intros; first | assumption | omega) | (simp only [go_sem] at *; first | assumption | omega) | decide, ?_⟩)
 obtain ⟨g0, h⟩ := aN h
 obtain ⟨g1, h⟩ := aN h
 repeat (refine ⟨by first | with_reducible assumption | omega | (intros; first | assumption | omega) | (simp only [go_sem] at *; first | assumption | omega) | (intro q0; (try have e1 := g1 (by first | exact q0 | omega | (simpa using q0))); first | assumption | omega) | decide, ?_⟩)
 refine ⟨fun hc => ?_, fun hc => ?_⟩
 ·replace h := gS (by first | exact hc | omega | (simpa using hc) | (simp at hc ⊢; omega)) h
  exact aS hF [.tmp 4] rfl rfl rfl (aD h) (by simp only [bA, go_sem])
 ·replace h := gT (by first | exact hc | omega | (simpa using hc) | (simp at hc ⊢; omega)) h
  refine ⟨fun hc => ?_, fun hc => ?_⟩
  ·replace h := gS (by first | exact hc | omega | (simpa using hc) | (simp at hc ⊢; omega)) h
   exact aS hF [.tmp 4] rfl rfl rfl (aD h) (by simp only [bA, go_sem])
  ·replace h := gT (by first | exact hc | omega | (simpa using hc) | (simp at hc ⊢; omega)) h
   refine ⟨fun hc => ?_, fun hc => ?_⟩
   ·replace h := gS hc h
    exact aS hF [.tmp 4] rfl rfl rfl (aD h) (by simp only [bA, go_sem])
   ·replace h := gT (by first | exact hc | omega | simpa using hc) h
    refine fD h (fun hc h => ?_) fun hc h => ?_
    ·exact aS hF [.tmp 4] rfl rfl rfl (aD h) (by simp only [bA, go_sem])
    ·obtain ⟨g0, h⟩ := aN h
     obtain ⟨g1, h⟩ := aN h
     try simp only [I64, I32] at g1
     repeat (refine ⟨by first | with_reducible assumption | omega | (intros; first | assumption | omega) | (simp only [go_sem] at *; first | assumption | omega) | decide, ?_⟩)
     exact aS hF [.tmp 4] rfl rfl rfl (aD h) (by simp only [bA, go_sem])
attribute [go_sem] uS
noncomputable def cX (d_0 : (Bool × ((List Nat) × (Int × Unit)))) : Option (Bool × ((List Nat) × (Int × Unit))) :=
 ck ((aL6 ((d_0.2).1))) (some ((d_0.1), (id ((d_0.2).1)), (((d_0.2).2).1), ()))
def aAn : PlR := ⟨[(0, .B [1, 2]), (1, .B [1, 2]), (2, .B [2])], []⟩
def aA6 : Ty := .pair (.pair .bool (.pair (.sl (.u .u64)) (.pair (.i .i64) .unit))) .unit
noncomputable def oV : aM := mSpec aA6 (.one (.pair .bool (.pair (.sl (.u .u64)) (.pair (.i .i64) .unit)))) (fun x => cX x.1)
noncomputable def aA7 : List (FuncId × aM) := [(120, bK)]
theorem aHG : bU Tryz.prog GL aA7 := .cons eY (by kernel_rfl) (.nil)
theorem aCd : gam aA7 120 = some bK := rfl
attribute [go_sem] aA6 aAn aCd
set_option maxHeartbeats 4000000 in
theorem aGk : FOK Tryz.prog GL 103 oV := by
 refine cB (bL aHG) mix Tryz.func103 rfl (by kernel_rfl) (by decide) aAn fun w0 S x Θ hw h hF => ?_
 obtain ⟨(d_0 : (Bool × ((List Nat) × (Int × Unit)))), u⟩ := x
 simp only [cA, go_sem]
 replace h : sat (cX d_0) _ := h
 unfold cX at h
 refine aH h fun g0 h => ?_
 exact aS hF [.cell 2 25] rfl rfl rfl (aD h) (by simp only [bA, go_sem])
attribute [go_sem] oV
noncomputable def bW (d_0 : (Bool × ((List Nat) × (Int × Unit)))) : Option (Bool × ((List Nat) × (Int × Unit))) :=
 ck (((cX d_0).isSome = true)) (ck (((cR ((cX d_0).getD (false, ([] : List Nat), (0 : Int), ()))).isSome = true)) (if (((cR ((cX d_0).getD (false, ([] : List Nat), (0 : Int), ()))).getD false) = true) ∧ ((0 : Int) < (((((((cX d_0).getD (false, ([] : List Nat), (0 : Int), ())).2).1).length) : Nat) : Int)) then some ((!(((cX d_0).getD (false, ([] : List Nat), (0 : Int), ())).1)), ((((cX d_0).getD (false, ([] : List Nat), (0 : Int), ())).2).1), (((((cX d_0).getD (false, ([] : List Nat), (0 : Int), ())).2).2).1), ()) else some ((cX d_0).getD (false, ([] : List Nat), (0 : Int), ()))))
def aDX : PlR := ⟨[(0, .B [1, 2]), (1, .B [1, 2]), (2, .A [1, 2, 12]), (3, .B [1, 2]), (4, .B [2])], []⟩
def aGl : Ty := .pair (.pair .bool (.pair (.sl (.u .u64)) (.pair (.i .i64) .unit))) .unit
noncomputable def uT : aM := mSpec aGl (.one (.pair .bool (.pair (.sl (.u .u64)) (.pair (.i .i64) .unit)))) (fun x => bW x.1)
noncomputable def aBv : List (FuncId × aM) := [(103, oV), (29, fC)]
theorem aMp : bU Tryz.prog GL aBv := .cons aGk (by kernel_rfl) (.cons qS (by kernel_rfl) (.nil))
theorem aGm : gam aBv 103 = some oV := rfl
theorem aHH : gam aBv 29 = some fC := rfl
attribute [go_sem] aGl aDX aGm aHH
set_option maxHeartbeats 4000000 in
theorem aLg : FOK Tryz.prog GL 52 uT := by
 refine cB (bL aMp) mix Tryz.func52 rfl (by kernel_rfl) (by decide) aDX fun w0 S x Θ hw h hF => ?_
 obtain ⟨(d_0 : (Bool × ((List Nat) × (Int × Unit)))), u⟩ := x
 simp only [cA, go_sem]
 replace h : sat (bW d_0) _ := h
 unfold bW at h
 refine aH h fun g0 h => ?_
 refine aH h fun g0 h => ?_
 refine ⟨fun hc => ?_, fun hc => ?_⟩
 ·replace h := gS hc h
  exact aS hF [.cell 2 25] rfl rfl rfl (aD h) (by simp only [bA, go_sem])
 ·replace h := gT hc h
  exact aS hF [.cell 2 25] rfl rfl rfl (aD h) (by simp only [bA, go_sem])
attribute [go_sem] uT
noncomputable def fW (is_0 : Bool) (e_1 : Int) : Option (Unit ⊕ (Int × Unit)) :=
 if ¬ (is_0 = true) then some (.inr (e_1, ())) else some (.inl ())
noncomputable def cY : lO where
 D := Bool × Int × (Unit ⊕ (Int × Unit))
 av := fun d => [.val .bool d.1, .val (.i .i64) d.2.1]
 hp := fun d => []
 m := 0
 pre := fun d => fW d.1 d.2.1 = some d.2.2
 out := fun d => match d.2.2 with | .inl r => .ret (.tup []) [] | .inr p => .pan ⟨165, (.pair (.i .i64) .unit), p⟩ []
noncomputable def aCe : List (FuncId × aM) := []
theorem aCf : bU Tryz.prog GL aCe := .nil
set_option maxHeartbeats 4000000 in
theorem eX : GOK Tryz.prog GL 109 cY := by
 refine qL (bL aCf) Tryz.func109 rfl (by kernel_rfl) (fun _ => Nat.le_of_ble_eq_true rfl) fun c0 w0 d hw1 hw2 h hn => ?_
 have hF : jX ⟨Tryz.prog, EM aCe, GM cY c0 d, w0, Tryz.f109.ntmps, []⟩ := ⟨bL aCf, mix⟩
 obtain ⟨(is_0 : Bool), (e_1 : Int), r⟩ := d
 replace h : fW is_0 e_1 = some r := h
 have hw1 : AV.wfL [.val .bool is_0, .val (.i .i64) e_1] := hw1
 simp only [AV.wfL, AV.wfV, Ty.wf, nM] at hw1
 show Tri _ _ _ [(0, .val .bool is_0), (1, .val (.i .i64) e_1)] []
 unfold fW at h
 refine aF (aE hF [1, 5] ?_)
 simp only [go_sem]
 refine aG (bS rfl (fun hc => ?_) (fun hc => ?_))
 ·try simp only [go_sem] at hc
  have h := fN (by first | exact hc | omega | (simpa using hc) | (simp at hc ⊢; omega)) h
  refine bG hF (cQ (l := []) (.nil)) [] [] ?_
  simp only [go_sem]
  repeat (refine ⟨by first | with_reducible assumption | omega | (intros; first | assumption | omega) | (simp only [go_sem] at *; first | assumption | omega) | decide, ?_⟩)
  obtain rfl := Option.some.inj h
  refine lP rfl rfl rfl rfl
 ·try simp only [go_sem] at hc
  have h := fO (by first | exact hc | omega | (simpa using hc) | (simp at hc ⊢; omega)) h
  obtain rfl := Option.some.inj h
  refine cE (xK (rT hF [] rfl rfl rfl rfl rfl rfl ?_))
  (try simp only [bA, zW, yT, fR, mY, AV.isAgg, go_sem]) <;> first | trivial | rfl | (simp; done)
attribute [go_sem] cY
noncomputable def iN (l_1 : (List (Bool × ((List Nat) × (Int × Unit))))) (x15_13 : Int) : Option ((Int) ⊕ ((Unit) ⊕ (Int × Unit))) :=
 if x15_13 < (((l_1.length) : Nat) : Int) then ck (0 ≤ x15_13 ∧ x15_13 < (((l_1.length) : Nat) : Int)) (ck (((cR (l_1.getD (x15_13.toNat) (false, ([] : List Nat), (0 : Int), ()))).isSome = true)) (((fW ((cR (l_1.getD (x15_13.toNat) (false, ([] : List Nat), (0 : Int), ()))).getD false) (1 : Int))).bind (fun e => match e with | .inl r_19 => ck (I64 (x15_13 + (1 : Int))) (some (.inl (x15_13 + (1 : Int)))) | .inr p_20 => some (.inr (.inr p_20))))) else some (.inr (.inl ()))
noncomputable def mC (l_1 : (List (Bool × ((List Nat) × (Int × Unit))))) : Option ((Unit ⊕ (Int × Unit))) :=
 (dG (fun d : Int => iN l_1 d) (0 : Int)).bind (fun e => match e with | (.inl e) => some (.inl ()) | (.inr e) => some (.inr e))
noncomputable def nW (p_0 : Int) (l_1 : (List (Bool × ((List Nat) × (Int × Unit))))) : Option (Unit ⊕ (Int × Unit)) :=
 if (1 : Int) ≤ p_0 then ((fW ((decide ((1 : Int) ≤ p_0)) && (decide (p_0 ≤ (2000 : Int)))) (1 : Int))).bind (fun e => match e with | .inl r_22 => mC l_1 | .inr p_23 => some (.inr p_23)) else ((fW false (1 : Int))).bind (fun e => match e with | .inl r_24 => mC l_1 | .inr p_25 => some (.inr p_25))
noncomputable def oW : lO where
 D := Int × (List (Bool × ((List Nat) × (Int × Unit)))) × (Unit ⊕ (Int × Unit))
 av := fun d => [.val (.i .i64) d.1, .val (.sl (.pair .bool (.pair (.sl (.u .u64)) (.pair (.i .i64) .unit)))) d.2.1]
 hp := fun d => []
 m := 0
 pre := fun d => nW d.1 d.2.1 = some d.2.2
 out := fun d => match d.2.2 with | .inl r => .ret (.tup []) [] | .inr p => .pan ⟨165, (.pair (.i .i64) .unit), p⟩ []
noncomputable def aAo : List (FuncId × aM) := [(29, fC)]
theorem aDY : bU Tryz.prog GL aAo := .cons qS (by kernel_rfl) (.nil)
theorem aGn : gam aAo 29 = some fC := rfl
attribute [go_sem] aGn
set_option maxHeartbeats 4000000 in
theorem aCg : GOK Tryz.prog GL 108 oW := by
 refine qL (bL aDY) Tryz.func108 rfl (by kernel_rfl) (fun _ => Nat.le_of_ble_eq_true rfl) fun c0 w0 d hw1 hw2 h hn => ?_
 have hF : jX ⟨Tryz.prog, EM aAo, GM oW c0 d, w0, Tryz.f108.ntmps, []⟩ := ⟨bL aDY, mix⟩
 obtain ⟨(p_0 : Int), (l_1 : (List (Bool × ((List Nat) × (Int × Unit))))), r⟩ := d
 replace h : nW p_0 l_1 = some r := h
 have hw1 : AV.wfL [.val (.i .i64) p_0, .val (.sl (.pair .bool (.pair (.sl (.u .u64)) (.pair (.i .i64) .unit)))) l_1] := hw1
 simp only [AV.wfL, AV.wfV, Ty.wf, nM] at hw1
 show Tri _ _ _ [(0, .val (.i .i64) p_0), (1, .val (.sl (.pair .bool (.pair (.sl (.u .u64)) (.pair (.i .i64) .unit)))) l_1)] []
 unfold nW at h
 refine jC (D := Unit) (fun d => mC l_1 = some r) [1] (fun d => []) (fun d => []) ?_ ?_
 ·by_cases hq : (1 : Int) ≤ p_0
  ·have h := fN hq h
   obtain ⟨e, he2, h⟩ := bind_some h
   rcases e with r_22 | p_23
   ·try dsimp only at h
    refine bG hF (cQ (l := [(109, ⟨cY, [], (((decide ((1 : Int) ≤ p_0)) && (decide (p_0 ≤ (2000 : Int)))), (1 : Int), .inl r_22)⟩)]) (.cons eX (by kernel_rfl) (.nil))) [1] [] ?_
    simp only [go_sem]
    repeat (refine ⟨by first | with_reducible assumption | omega | (intros; first | assumption | omega) | (simp only [go_sem] at *; first | assumption | omega) | decide, ?_⟩)
    refine ⟨fun _ => ?_, fun hx => by first | (exfalso; omega) | (exfalso; simp_all; done)⟩
    repeat (refine ⟨by first | with_reducible assumption | omega | (intros; first | assumption | omega) | (simp only [go_sem] at *; first | assumption | omega) | decide, ?_⟩)
    refine ⟨fun _ => ?_, fun hx => by first | (exfalso; omega) | (exfalso; simp_all; done)⟩
    repeat (refine ⟨by first | with_reducible assumption | omega | (intros; first | assumption | omega) | (simp only [go_sem] at *; first | assumption | omega) | decide, ?_⟩)
    refine bE (aX (()) h rfl ?_)
    ·(try simp only [jM, fR, true_or, and_self, go_sem]) <;> (repeat' apply And.intro) <;> first | rfl | (left; rfl) | (right; rfl) | (left; simp only [go_sem]; done) | (right; simp only [go_sem]; done) | (simp; done) | (simp only [*]; done) | omega
   ·try dsimp only at h
    refine bG hF (cQ (l := [(109, ⟨cY, [], (((decide ((1 : Int) ≤ p_0)) && (decide (p_0 ≤ (2000 : Int)))), (1 : Int), .inr p_23)⟩)]) (.cons eX (by kernel_rfl) (.nil))) [1] [] ?_
    simp only [go_sem]
    repeat (refine ⟨by first | with_reducible assumption | omega | (intros; first | assumption | omega) | (simp only [go_sem] at *; first | assumption | omega) | decide, ?_⟩)
    refine ⟨fun _ => ?_, fun hx => by first | (exfalso; omega) | (exfalso; simp_all; done)⟩
    repeat (refine ⟨by first | with_reducible assumption | omega | (intros; first | assumption | omega) | (simp only [go_sem] at *; first | assumption | omega) | decide, ?_⟩)
    refine ⟨fun _ => ?_, fun hx => by first | (exfalso; omega) | (exfalso; simp_all; done)⟩
    repeat (refine ⟨by first | with_reducible assumption | omega | (intros; first | assumption | omega) | (simp only [go_sem] at *; first | assumption | omega) | decide, ?_⟩)
    obtain rfl := Option.some.inj h
    refine iH (lP rfl rfl rfl rfl)
  ·have h := fO hq h
   obtain ⟨e, he3, h⟩ := bind_some h
   rcases e with r_24 | p_25
   ·try dsimp only at h
    refine bG hF (cQ (l := [(109, ⟨cY, [], (false, (1 : Int), .inl r_24)⟩)]) (.cons eX (by kernel_rfl) (.nil))) [1] [] ?_
    simp only [go_sem]
    repeat (refine ⟨by first | with_reducible assumption | omega | (intros; first | assumption | omega) | (simp only [go_sem] at *; first | assumption | omega) | decide, ?_⟩)
    first | (refine ⟨fun hx => by first | (exfalso; omega) | (exfalso; simp_all; done), fun _ => ?_⟩) | intro _
    repeat (refine ⟨by first | with_reducible assumption | omega | (intros; first | assumption | omega) | (simp only [go_sem] at *; first | assumption | omega) | decide, ?_⟩)
    first | (refine ⟨fun hx => by first | (exfalso; omega) | (exfalso; simp_all; done), fun _ => ?_⟩) | intro _
    repeat (refine ⟨by first | with_reducible assumption | omega | (intros; first | assumption | omega) | (simp only [go_sem] at *; first | assumption | omega) | decide, ?_⟩)
    refine bE (aX (()) h rfl ?_)
    ·(try simp only [jM, fR, true_or, and_self, go_sem]) <;> (repeat' apply And.intro) <;> first | rfl | (left; rfl) | (right; rfl) | (left; simp only [go_sem]; done) | (right; simp only [go_sem]; done) | (simp; done) | (simp only [*]; done) | omega
   ·try dsimp only at h
    refine bG hF (cQ (l := [(109, ⟨cY, [], (false, (1 : Int), .inr p_25)⟩)]) (.cons eX (by kernel_rfl) (.nil))) [1] [] ?_
    simp only [go_sem]
    repeat (refine ⟨by first | with_reducible assumption | omega | (intros; first | assumption | omega) | (simp only [go_sem] at *; first | assumption | omega) | decide, ?_⟩)
    first | (refine ⟨fun hx => by first | (exfalso; omega) | (exfalso; simp_all; done), fun _ => ?_⟩) | intro _
    repeat (refine ⟨by first | with_reducible assumption | omega | (intros; first | assumption | omega) | (simp only [go_sem] at *; first | assumption | omega) | decide, ?_⟩)
    first | (refine ⟨fun hx => by first | (exfalso; omega) | (exfalso; simp_all; done), fun _ => ?_⟩) | intro _
    repeat (refine ⟨by first | with_reducible assumption | omega | (intros; first | assumption | omega) | (simp only [go_sem] at *; first | assumption | omega) | decide, ?_⟩)
    obtain rfl := Option.some.inj h
    refine iH (lP rfl rfl rfl rfl)
 ·rintro u h
  try dsimp only at h
  simp only [go_sem]
  unfold mC at h
  refine aF (aE hF [13, 14, 15] ?_)
  simp only [go_sem]
  refine aG (gB (wB (D := Int) [13, 14] (fun d => [(15, .val (.i .i64) d)]) (fun d => []) h ?_ ?_ ?_))
  ·first | rfl | (simp only [go_sem]; done)
  ·(try simp only [jM, fR, true_or, and_self, go_sem]) <;> (repeat' apply And.intro) <;> first | rfl | (left; rfl) | (right; rfl) | (left; simp only [go_sem]; done) | (right; simp only [go_sem]; done) | (simp; done) | (simp only [*]; done) | omega
  rintro x15_13 s2 h hs2
  simp only [go_sem]
  try dsimp only at h
  unfold iN at h
  refine aF (aE hF [13, 14, 15, 16] ?_)
  simp only [go_sem]
  refine aG (aF (bS rfl (fun hc => ?_) (fun hc => ?_)))
  ·try simp only [go_sem] at hc
   have h := fN (by first | exact hc | omega | (simpa using hc) | (simp at hc ⊢; omega)) h
   refine cE (aG (aF (gB (aF (bV hF [5, 13, 14, 15] ?_)))))
   simp only [go_sem]
   obtain ⟨g0, h⟩ := aI h
   repeat (refine ⟨by first | with_reducible assumption | omega | (intros; first | assumption | omega) | (simp only [go_sem] at *; first | assumption | omega) | decide, ?_⟩)
   obtain ⟨g0, h⟩ := aI h
   obtain ⟨e, he1, h⟩ := bind_some h
   rcases e with r_19 | p_20
   ·try dsimp only at h
    refine aG (bG hF (cQ (l := [(109, ⟨cY, [], (((cR (l_1.getD (x15_13.toNat) (false, ([] : List Nat), (0 : Int), ()))).getD false), (1 : Int), .inl r_19)⟩)]) (.cons eX (by kernel_rfl) (.nil))) [13, 14, 15] [] ?_)
    simp only [go_sem]
    repeat (refine ⟨by first | with_reducible assumption | omega | (intros; first | assumption | omega) | (simp only [go_sem] at *; first | assumption | omega) | decide, ?_⟩)
    refine fQ (aG (aE hF [13, 14, 15] ?_))
    simp only [go_sem]
    obtain ⟨g0, h⟩ := aI h
    try simp only [I64, I32] at g0
    repeat (refine ⟨by first | with_reducible assumption | omega | (intros; first | assumption | omega) | (simp only [go_sem] at *; first | assumption | omega) | decide, ?_⟩)
    obtain rfl := Option.some.inj h
    dsimp only [tG] at hs2
    refine bE (zU [] rfl rfl ?_)
    simp only [ren, iG, oI, posOf, gG, go_sem]
    refine aX ((x15_13 + (1 : Int))) hs2 rfl ?_
    ·(try simp only [jM, fR, true_or, and_self, go_sem]) <;> (repeat' apply And.intro) <;> first | rfl | (left; rfl) | (right; rfl) | (left; simp only [go_sem]; done) | (right; simp only [go_sem]; done) | (simp; done) | (simp only [*]; done) | omega
   ·try dsimp only at h
    refine aG (bG hF (cQ (l := [(109, ⟨cY, [], (((cR (l_1.getD (x15_13.toNat) (false, ([] : List Nat), (0 : Int), ()))).getD false), (1 : Int), .inr p_20)⟩)]) (.cons eX (by kernel_rfl) (.nil))) [13, 14, 15] [] ?_)
    simp only [go_sem]
    repeat (refine ⟨by first | with_reducible assumption | omega | (intros; first | assumption | omega) | (simp only [go_sem] at *; first | assumption | omega) | decide, ?_⟩)
    obtain rfl := Option.some.inj h
    dsimp only [tG] at hs2
    have h := hs2
    try dsimp only at h
    obtain rfl := Option.some.inj h
    refine aIw (iH (iH (aIw (qA [] rfl rfl ?_))))
    simp only [ren, iG, oI, posOf, gG, go_sem]
    refine lP rfl rfl rfl rfl
  ·try simp only [go_sem] at hc
   have h := fO (by first | exact hc | omega | (simpa using hc) | (simp at hc ⊢; omega)) h
   obtain rfl := Option.some.inj h
   dsimp only [tG] at hs2
   have h := hs2
   try dsimp only at h
   obtain rfl := Option.some.inj h
   refine tC (eC (eC (gZ (xK (rT hF [] rfl rfl rfl rfl rfl rfl ?_)))))
   (try simp only [bA, zW, yT, fR, mY, AV.isAgg, go_sem]) <;> first | trivial | rfl | (simp; done)
attribute [go_sem] oW
noncomputable def kG (neg_0 : Bool) (e_8 : Int) (m_10 : (List Nat)) : Option (((Bool × ((List Nat) × (Int × Unit))) ⊕ (Int × Unit))) :=
 ck (((bJ neg_0 m_10 e_8).isSome = true)) (((fW (decide (((((bJ neg_0 m_10 e_8).getD ((false, ([] : List Nat), (0 : Int), ()), (0 : Int), ())).2).1) = (0 : Int))) ((((bJ neg_0 m_10 e_8).getD ((false, ([] : List Nat), (0 : Int), ()), (0 : Int), ())).2).1))).bind (fun e => match e with | .inl r_15 => some (.inl (((bJ neg_0 m_10 e_8).getD ((false, ([] : List Nat), (0 : Int), ()), (0 : Int), ())).1)) | .inr p_16 => some (.inr p_16)))
noncomputable def kH (up_5 : Bool) (neg_0 : Bool) (m_7 : (List Nat)) (e_8 : Int) (rest_9 : Bool) : Option (((Bool × ((List Nat) × (Int × Unit))) ⊕ (Int × Unit))) :=
 if (rest_9 = true) ∧ ((up_5 != neg_0) = true) then ck ((aEn m_7 ([1] : List Nat))) (kG neg_0 e_8 (fA m_7 ([1] : List Nat))) else kG neg_0 e_8 m_7
noncomputable def nX (neg_0 : Bool) (m_1 : (List Nat)) (e_2 : Int) (rest_3 : Bool) (p_4 : Int) (up_5 : Bool) : Option ((Bool × ((List Nat) × (Int × Unit))) ⊕ (Int × Unit)) :=
 ck ((aFT m_1)) (ck (I64 ((aV m_1) - p_4)) (if (0 : Int) < ((aV m_1) - p_4) then ck ((¬ (rest_3 = true) → ((pSz m_1)))) (ck ((aC0 m_1 ((aV m_1) - p_4))) (ck (I64 (e_2 + ((aV m_1) - p_4))) (kH up_5 neg_0 (cD m_1 ((aV m_1) - p_4)) (e_2 + ((aV m_1) - p_4)) (rest_3 || (decide ((bP m_1) < ((aV m_1) - p_4))))))) else kH up_5 neg_0 m_1 e_2 rest_3))
noncomputable def oX : lO where
 D := Bool × (List Nat) × Int × Bool × Int × Bool × ((Bool × ((List Nat) × (Int × Unit))) ⊕ (Int × Unit))
 av := fun d => [.val .bool d.1, .val (.sl (.u .u64)) d.2.1, .val (.i .i64) d.2.2.1, .val .bool d.2.2.2.1, .val (.i .i64) d.2.2.2.2.1, .val .bool d.2.2.2.2.2.1]
 hp := fun d => []
 m := 0
 pre := fun d => nX d.1 d.2.1 d.2.2.1 d.2.2.2.1 d.2.2.2.2.1 d.2.2.2.2.2.1 = some d.2.2.2.2.2.2
 out := fun d => match d.2.2.2.2.2.2 with | .inl r => .ret (.val (.pair .bool (.pair (.sl (.u .u64)) (.pair (.i .i64) .unit))) r) [] | .inr p => .pan ⟨165, (.pair (.i .i64) .unit), p⟩ []
noncomputable def mD : List (FuncId × aM) := [(54, kO), (69, fT), (70, jF), (71, kN), (89, kM)]
theorem aDZ : bU Tryz.prog GL mD := .cons aAm (by kernel_rfl) (.cons rV (by kernel_rfl) (.cons xS (by kernel_rfl) (.cons aAh (by kernel_rfl) (.cons aAf (by kernel_rfl) (.nil)))))
theorem aGo : gam mD 54 = some kO := rfl
attribute [go_sem] aGo
theorem aGp : gam mD 69 = some fT := rfl
attribute [go_sem] aGp
theorem aGq : gam mD 70 = some jF := rfl
attribute [go_sem] aGq
theorem aGr : gam mD 71 = some kN := rfl
attribute [go_sem] aGr
theorem aGs : gam mD 89 = some kM := rfl
attribute [go_sem] aGs
set_option maxHeartbeats 4000000 in
theorem aCh : GOK Tryz.prog GL 110 oX := by
 refine qL (bL aDZ) Tryz.func110 rfl (by kernel_rfl) (fun _ => Nat.le_of_ble_eq_true rfl) fun c0 w0 d hw1 hw2 h hn => ?_
 have hF : jX ⟨Tryz.prog, EM mD, GM oX c0 d, w0, Tryz.f110.ntmps, []⟩ := ⟨bL aDZ, mix⟩
 obtain ⟨(neg_0 : Bool), (m_1 : (List Nat)), (e_2 : Int), (rest_3 : Bool), (p_4 : Int), (up_5 : Bool), r⟩ := d
 replace h : nX neg_0 m_1 e_2 rest_3 p_4 up_5 = some r := h
 have hw1 : AV.wfL [.val .bool neg_0, .val (.sl (.u .u64)) m_1, .val (.i .i64) e_2, .val .bool rest_3, .val (.i .i64) p_4, .val .bool up_5] := hw1
 simp only [AV.wfL, AV.wfV, Ty.wf, nM] at hw1
 show Tri _ _ _ [(0, .val .bool neg_0), (1, .val (.sl (.u .u64)) m_1), (2, .val (.i .i64) e_2), (3, .val .bool rest_3), (4, .val (.i .i64) p_4), (5, .val .bool up_5)] []
 unfold nX at h
 refine aF (bV hF [0, 1, 2, 3, 4, 5, 12] ?_)
 simp only [go_sem]
 refine aG (jC (D := (List Nat) × Int × Bool) (fun d => kH up_5 neg_0 d.1 d.2.1 d.2.2 = some r) [0, 5] (fun d => [(1, .val (.sl (.u .u64)) d.1), (2, .val (.i .i64) d.2.1), (3, .val .bool d.2.2), (12, .ptr 0 [])]) (fun d => [.inr (.box 3 (.val (.pair .bool (.pair (.sl (.u .u64)) (.pair (.i .i64) .unit))) (false, ([] : List Nat), (0 : Int), ())))]) ?_ ?_)
 ·refine aF (aE hF [0, 1, 2, 3, 5, 12, 13] ?_)
  simp only [go_sem]
  obtain ⟨g0, h⟩ := aI h
  obtain ⟨g1, h⟩ := aI h
  try simp only [I64, I32] at g1
  repeat (refine ⟨by first | with_reducible assumption | omega | (intros; first | assumption | omega) | (simp only [go_sem] at *; first | assumption | omega) | decide, ?_⟩)
  refine aG (aF (aE hF [0, 1, 2, 3, 5, 12, 13, 21] ?_))
  simp only [go_sem]
  refine aG (bS rfl (fun hc => ?_) (fun hc => ?_))
  ·try simp only [go_sem] at hc
   have h := fN (by first | exact hc | omega | (simpa using hc) | (simp at hc ⊢; omega)) h
   refine aF (aE hF [0, 1, 2, 3, 5, 12, 13] ?_)
   simp only [go_sem]
   obtain ⟨g0, h⟩ := aI h
   repeat (refine ⟨by first | with_reducible assumption | omega | (intros; first | assumption | omega) | (simp only [go_sem] at *; first | assumption | omega) | (intro q0; (try have e0 := g0 (by first | exact q0 | omega | (simpa using q0))); first | assumption | omega) | decide, ?_⟩)
   refine aG (aE hF [0, 1, 2, 3, 5, 12] ?_)
   simp only [go_sem]
   obtain ⟨g0, h⟩ := aI h
   obtain ⟨g1, h⟩ := aI h
   try simp only [I64, I32] at g1
   repeat (refine ⟨by first | with_reducible assumption | omega | (intros; first | assumption | omega) | (simp only [go_sem] at *; first | assumption | omega) | decide, ?_⟩)
   refine bE (aX (((cD m_1 ((aV m_1) - p_4)), (e_2 + ((aV m_1) - p_4)), (rest_3 || (decide ((bP m_1) < ((aV m_1) - p_4)))))) h rfl ?_)
   ·(try simp only [jM, fR, true_or, and_self, go_sem]) <;> (repeat' apply And.intro) <;> first | rfl | (left; rfl) | (right; rfl) | (left; simp only [go_sem]; done) | (right; simp only [go_sem]; done) | (simp; done) | (simp only [*]; done) | omega
  ·try simp only [go_sem] at hc
   have h := fO (by first | exact hc | omega | (simpa using hc) | (simp at hc ⊢; omega)) h
   refine cE (bE (aX ((m_1, e_2, rest_3)) h rfl ?_))
   ·(try simp only [jM, fR, true_or, and_self, go_sem]) <;> (repeat' apply And.intro) <;> first | rfl | (left; rfl) | (right; rfl) | (left; simp only [go_sem]; done) | (right; simp only [go_sem]; done) | (simp; done) | (simp only [*]; done) | omega
 ·rintro ⟨m_7, e_8, rest_9⟩ h
  try dsimp only at h
  simp only [go_sem]
  unfold kH at h
  refine jC (D := (List Nat)) (fun d => kG neg_0 e_8 d = some r) [0, 2] (fun d => [(1, .val (.sl (.u .u64)) d), (12, .ptr 0 [])]) (fun d => [.inr (.box 3 (.val (.pair .bool (.pair (.sl (.u .u64)) (.pair (.i .i64) .unit))) (false, ([] : List Nat), (0 : Int), ())))]) ?_ ?_
  ·refine aF (aE hF [0, 1, 2, 12, 40] ?_)
   simp only [go_sem]
   refine aG (bS rfl (fun hc => ?_) (fun hc => ?_))
   ·try simp only [go_sem] at hc
    have h := fN (by first | exact hc | omega | (simpa using hc) | (simp at hc ⊢; omega)) h
    refine aE hF [0, 1, 2, 12] ?_
    simp only [go_sem]
    obtain ⟨g0, h⟩ := aI h
    repeat (refine ⟨by first | with_reducible assumption | omega | (intros; first | assumption | omega) | (simp only [go_sem] at *; first | assumption | omega) | decide, ?_⟩)
    refine bE (aX ((fA m_7 ([1] : List Nat))) h rfl ?_)
    ·(try simp only [jM, fR, true_or, and_self, go_sem]) <;> (repeat' apply And.intro) <;> first | rfl | (left; rfl) | (right; rfl) | (left; simp only [go_sem]; done) | (right; simp only [go_sem]; done) | (simp; done) | (simp only [*]; done) | omega
   ·try simp only [go_sem] at hc
    have h := fO (by first | exact hc | omega | (simpa using hc) | (simp at hc ⊢; omega)) h
    refine cE (bE (aX (m_7) h rfl ?_))
    ·(try simp only [jM, fR, true_or, and_self, go_sem]) <;> (repeat' apply And.intro) <;> first | rfl | (left; rfl) | (right; rfl) | (left; simp only [go_sem]; done) | (right; simp only [go_sem]; done) | (simp; done) | (simp only [*]; done) | omega
  ·rintro m_10 h
   try dsimp only at h
   simp only [go_sem]
   unfold kG at h
   refine aF (bV hF [12, 14, 15] ?_)
   simp only [go_sem]
   obtain ⟨g0, h⟩ := aI h
   repeat (refine ⟨by first | with_reducible assumption | omega | (intros; first | assumption | omega) | (simp only [go_sem] at *; first | assumption | omega) | decide, ?_⟩)
   obtain ⟨e, he1, h⟩ := bind_some h
   rcases e with r_15 | p_16
   ·try dsimp only at h
    refine aG (aF (bG hF (cQ (l := [(109, ⟨cY, [], ((decide (((((bJ neg_0 m_10 e_8).getD ((false, ([] : List Nat), (0 : Int), ()), (0 : Int), ())).2).1) = (0 : Int))), ((((bJ neg_0 m_10 e_8).getD ((false, ([] : List Nat), (0 : Int), ()), (0 : Int), ())).2).1), .inl r_15)⟩)]) (.cons eX (by kernel_rfl) (.nil))) [12, 14] [] ?_))
    simp only [go_sem]
    repeat (refine ⟨by first | with_reducible assumption | omega | (intros; first | assumption | omega) | (simp only [go_sem] at *; first | assumption | omega) | decide, ?_⟩)
    refine aG (aF (bV hF [12] ?_))
    simp only [go_sem]
    obtain rfl := Option.some.inj h
    refine aG (dO (zX hF [.cell 12 25] [] rfl rfl rfl rfl rfl rfl rfl rfl rfl ?_))
    (try simp only [bA, zW, yT, fR, mY, AV.isAgg, go_sem]) <;> first | trivial | rfl | (simp; done)
   ·try dsimp only at h
    refine aG (aF (bG hF (cQ (l := [(109, ⟨cY, [], ((decide (((((bJ neg_0 m_10 e_8).getD ((false, ([] : List Nat), (0 : Int), ()), (0 : Int), ())).2).1) = (0 : Int))), ((((bJ neg_0 m_10 e_8).getD ((false, ([] : List Nat), (0 : Int), ()), (0 : Int), ())).2).1), .inr p_16)⟩)]) (.cons eX (by kernel_rfl) (.nil))) [12, 14] [] ?_))
    simp only [go_sem]
    repeat (refine ⟨by first | with_reducible assumption | omega | (intros; first | assumption | omega) | (simp only [go_sem] at *; first | assumption | omega) | decide, ?_⟩)
    obtain rfl := Option.some.inj h
    refine iH (qA [] rfl rfl ?_)
    simp only [ren, iG, oI, posOf, gG, go_sem]
    refine lP rfl rfl rfl rfl
attribute [go_sem] oX
noncomputable def kI (a0_0 : Int) (a1_1 : (Bool × ((List Nat) × (Int × Unit)))) (a2_2 : (Bool × ((List Nat) × (Int × Unit)))) (a3_3 : Bool) : Option ((Bool × ((List Nat) × (Int × Unit))) ⊕ (Int × Unit)) :=
 ((nW a0_0 ([a1_1, a2_2] : List (Bool × ((List Nat) × (Int × Unit)))))).bind (fun e => match e with | .inl r_9 => ((fW (decide ((0 : Int) < (((((a2_2.2).1).length) : Nat) : Int))) (4 : Int))).bind (fun e => match e with | .inl r_15 => ck (I64 (a0_0 + (1 : Int))) (ck ((aFT ((a2_2.2).1))) (ck (I64 ((a0_0 + (1 : Int)) + (aV ((a2_2.2).1)))) (ck ((aFT ((a1_1.2).1))) (ck (I64 (((a0_0 + (1 : Int)) + (aV ((a2_2.2).1))) - (aV ((a1_1.2).1)))) (ck ((aDD ((a1_1.2).1) (max (0 : Int) (((a0_0 + (1 : Int)) + (aV ((a2_2.2).1))) - (aV ((a1_1.2).1)))))) (ck ((mQ (bD ((a1_1.2).1) (max (0 : Int) (((a0_0 + (1 : Int)) + (aV ((a2_2.2).1))) - (aV ((a1_1.2).1))))) ((a2_2.2).1))) (ck (I64 ((((a1_1.2).2).1) - (((a2_2.2).2).1))) (ck (I64 (((((a1_1.2).2).1) - (((a2_2.2).2).1)) - (max (0 : Int) (((a0_0 + (1 : Int)) + (aV ((a2_2.2).1))) - (aV ((a1_1.2).1)))))) (((nX ((a1_1.1) != (a2_2.1)) ((bB (bD ((a1_1.2).1) (max (0 : Int) (((a0_0 + (1 : Int)) + (aV ((a2_2.2).1))) - (aV ((a1_1.2).1))))) ((a2_2.2).1)).1) (((((a1_1.2).2).1) - (((a2_2.2).2).1)) - (max (0 : Int) (((a0_0 + (1 : Int)) + (aV ((a2_2.2).1))) - (aV ((a1_1.2).1))))) (decide ((0 : Int) < ((((((bB (bD ((a1_1.2).1) (max (0 : Int) (((a0_0 + (1 : Int)) + (aV ((a2_2.2).1))) - (aV ((a1_1.2).1))))) ((a2_2.2).1)).2).1).length) : Nat) : Int))) a0_0 a3_3)).bind (fun e => match e with | .inl r_21 => some (.inl r_21) | .inr p_22 => some (.inr p_22))))))))))) | .inr p_16 => some (.inr p_16)) | .inr p_10 => some (.inr p_10))
noncomputable def lB : lO where
 D := Int × (Bool × ((List Nat) × (Int × Unit))) × (Bool × ((List Nat) × (Int × Unit))) × Bool × ((Bool × ((List Nat) × (Int × Unit))) ⊕ (Int × Unit))
 av := fun d => [.val (.rp (.i .i64)) d.1, .val (.rp (.pair .bool (.pair (.sl (.u .u64)) (.pair (.i .i64) .unit)))) d.2.1, .val (.rp (.pair .bool (.pair (.sl (.u .u64)) (.pair (.i .i64) .unit)))) d.2.2.1, .val (.rp .bool) d.2.2.2.1]
 hp := fun d => []
 m := 0
 pre := fun d => kI d.1 d.2.1 d.2.2.1 d.2.2.2.1 = some d.2.2.2.2
 out := fun d => match d.2.2.2.2 with | .inl r => .ret (.val (.pair .bool (.pair (.sl (.u .u64)) (.pair (.i .i64) .unit))) r) [] | .inr p => .pan ⟨165, (.pair (.i .i64) .unit), p⟩ []
noncomputable def mE : List (FuncId × aM) := [(62, iC), (68, iA), (89, kM)]
theorem aAp : bU Tryz.prog GL mE := .cons vJ (by kernel_rfl) (.cons uP (by kernel_rfl) (.cons aAf (by kernel_rfl) (.nil)))
theorem aCi : gam mE 62 = some iC := rfl
attribute [go_sem] aCi
theorem aCj : gam mE 68 = some iA := rfl
attribute [go_sem] aCj
theorem aCk : gam mE 89 = some kM := rfl
attribute [go_sem] aCk
set_option maxHeartbeats 4000000 in
theorem yL : GOK Tryz.prog GL 107 lB := by
 refine qL (bL aAp) Tryz.func107 rfl (by kernel_rfl) (fun _ => Nat.le_of_ble_eq_true rfl) fun c0 w0 d hw1 hw2 h hn => ?_
 have hF : jX ⟨Tryz.prog, EM mE, GM lB c0 d, w0, Tryz.f107.ntmps, []⟩ := ⟨bL aAp, mix⟩
 obtain ⟨(a0_0 : Int), (a1_1 : (Bool × ((List Nat) × (Int × Unit)))), (a2_2 : (Bool × ((List Nat) × (Int × Unit)))), (a3_3 : Bool), r⟩ := d
 replace h : kI a0_0 a1_1 a2_2 a3_3 = some r := h
 have hw1 : AV.wfL [.val (.rp (.i .i64)) a0_0, .val (.rp (.pair .bool (.pair (.sl (.u .u64)) (.pair (.i .i64) .unit)))) a1_1, .val (.rp (.pair .bool (.pair (.sl (.u .u64)) (.pair (.i .i64) .unit)))) a2_2, .val (.rp .bool) a3_3] := hw1
 simp only [AV.wfL, AV.wfV, Ty.wf, nM] at hw1
 show Tri _ _ _ [(0, .roa (.i .i64) a0_0), (1, .roa (.pair .bool (.pair (.sl (.u .u64)) (.pair (.i .i64) .unit))) a1_1), (2, .roa (.pair .bool (.pair (.sl (.u .u64)) (.pair (.i .i64) .unit))) a2_2), (3, .roa .bool a3_3)] []
 unfold kI at h
 refine aF (bV hF [0, 1, 2, 3, 4] ?_)
 simp only [go_sem]
 obtain ⟨e, he1, h⟩ := bind_some h
 rcases e with r_9 | p_10
 ·try dsimp only at h
  refine aG (aF (bG hF (cQ (l := [(108, ⟨oW, [], (a0_0, ([a1_1, a2_2] : List (Bool × ((List Nat) × (Int × Unit)))), .inl r_9)⟩)]) (.cons aCg (by kernel_rfl) (.nil))) [0, 1, 2, 3, 4] [] ?_))
  simp only [go_sem]
  repeat (refine ⟨by first | with_reducible assumption | omega | (intros; first | assumption | omega) | (simp only [go_sem] at *; first | assumption | omega) | decide, ?_⟩)
  obtain ⟨e, he2, h⟩ := bind_some h
  rcases e with r_15 | p_16
  ·try dsimp only at h
   refine aG (aF (bG hF (cQ (l := [(109, ⟨cY, [], ((decide ((0 : Int) < (((((a2_2.2).1).length) : Nat) : Int))), (4 : Int), .inl r_15)⟩)]) (.cons eX (by kernel_rfl) (.nil))) [0, 1, 2, 3, 4] [] ?_))
   simp only [go_sem]
   repeat (refine ⟨by first | with_reducible assumption | omega | (intros; first | assumption | omega) | (simp only [go_sem] at *; first | assumption | omega) | decide, ?_⟩)
   refine aG (aF (aE hF [0, 1, 2, 3, 4, 5] ?_))
   simp only [go_sem]
   obtain ⟨g0, h⟩ := aI h
   obtain ⟨g1, h⟩ := aI h
   obtain ⟨g2, h⟩ := aI h
   obtain ⟨g3, h⟩ := aI h
   obtain ⟨g4, h⟩ := aI h
   try simp only [I64, I32] at g0
   try simp only [I64, I32] at g2
   try simp only [I64, I32] at g4
   repeat (refine ⟨by first | with_reducible assumption | omega | (intros; first | assumption | omega) | (simp only [go_sem] at *; first | assumption | omega) | decide, ?_⟩)
   refine aG (aF (aE hF [0, 1, 2, 3, 4, 5, 6, 7] ?_))
   simp only [go_sem]
   obtain ⟨g0, h⟩ := aI h
   obtain ⟨g1, h⟩ := aI h
   repeat (refine ⟨by first | with_reducible assumption | omega | (intros; first | assumption | omega) | (simp only [go_sem] at *; first | assumption | omega) | decide, ?_⟩)
   obtain ⟨g0, h⟩ := aI h
   try simp only [I64, I32] at g0
   obtain ⟨g1, h⟩ := aI h
   try simp only [I64, I32] at g1
   obtain ⟨e, he3, h⟩ := bind_some h
   rcases e with r_21 | p_22
   ·try dsimp only at h
    refine aG (aF (bG hF (cQ (l := [(110, ⟨oX, [], (((a1_1.1) != (a2_2.1)), ((bB (bD ((a1_1.2).1) (max (0 : Int) (((a0_0 + (1 : Int)) + (aV ((a2_2.2).1))) - (aV ((a1_1.2).1))))) ((a2_2.2).1)).1), (((((a1_1.2).2).1) - (((a2_2.2).2).1)) - (max (0 : Int) (((a0_0 + (1 : Int)) + (aV ((a2_2.2).1))) - (aV ((a1_1.2).1))))), (decide ((0 : Int) < ((((((bB (bD ((a1_1.2).1) (max (0 : Int) (((a0_0 + (1 : Int)) + (aV ((a2_2.2).1))) - (aV ((a1_1.2).1))))) ((a2_2.2).1)).2).1).length) : Nat) : Int))), a0_0, a3_3, .inl r_21)⟩)]) (.cons aCh (by kernel_rfl) (.nil))) [4] [] ?_))
    simp only [go_sem]
    repeat (refine ⟨by first | with_reducible assumption | omega | (intros; first | assumption | omega) | (simp only [go_sem] at *; first | assumption | omega) | decide, ?_⟩)
    obtain rfl := Option.some.inj h
    refine aG (dO (zX hF [.cell 4 25] [] rfl rfl rfl rfl rfl rfl rfl rfl rfl ?_))
    (try simp only [bA, zW, yT, fR, mY, AV.isAgg, go_sem]) <;> first | trivial | rfl | (simp; done)
   ·try dsimp only at h
    refine aG (aF (bG hF (cQ (l := [(110, ⟨oX, [], (((a1_1.1) != (a2_2.1)), ((bB (bD ((a1_1.2).1) (max (0 : Int) (((a0_0 + (1 : Int)) + (aV ((a2_2.2).1))) - (aV ((a1_1.2).1))))) ((a2_2.2).1)).1), (((((a1_1.2).2).1) - (((a2_2.2).2).1)) - (max (0 : Int) (((a0_0 + (1 : Int)) + (aV ((a2_2.2).1))) - (aV ((a1_1.2).1))))), (decide ((0 : Int) < ((((((bB (bD ((a1_1.2).1) (max (0 : Int) (((a0_0 + (1 : Int)) + (aV ((a2_2.2).1))) - (aV ((a1_1.2).1))))) ((a2_2.2).1)).2).1).length) : Nat) : Int))), a0_0, a3_3, .inr p_22)⟩)]) (.cons aCh (by kernel_rfl) (.nil))) [4] [] ?_))
    simp only [go_sem]
    repeat (refine ⟨by first | with_reducible assumption | omega | (intros; first | assumption | omega) | (simp only [go_sem] at *; first | assumption | omega) | decide, ?_⟩)
    obtain rfl := Option.some.inj h
    refine iH (qA [] rfl rfl ?_)
    simp only [ren, iG, oI, posOf, gG, go_sem]
    refine lP rfl rfl rfl rfl
  ·try dsimp only at h
   refine aG (aF (bG hF (cQ (l := [(109, ⟨cY, [], ((decide ((0 : Int) < (((((a2_2.2).1).length) : Nat) : Int))), (4 : Int), .inr p_16)⟩)]) (.cons eX (by kernel_rfl) (.nil))) [0, 1, 2, 3, 4] [] ?_))
   simp only [go_sem]
   repeat (refine ⟨by first | with_reducible assumption | omega | (intros; first | assumption | omega) | (simp only [go_sem] at *; first | assumption | omega) | decide, ?_⟩)
   obtain rfl := Option.some.inj h
   refine iH (qA [] rfl rfl ?_)
   simp only [ren, iG, oI, posOf, gG, go_sem]
   refine lP rfl rfl rfl rfl
 ·try dsimp only at h
  refine aG (aF (bG hF (cQ (l := [(108, ⟨oW, [], (a0_0, ([a1_1, a2_2] : List (Bool × ((List Nat) × (Int × Unit)))), .inr p_10)⟩)]) (.cons aCg (by kernel_rfl) (.nil))) [0, 1, 2, 3, 4] [] ?_))
  simp only [go_sem]
  repeat (refine ⟨by first | with_reducible assumption | omega | (intros; first | assumption | omega) | (simp only [go_sem] at *; first | assumption | omega) | decide, ?_⟩)
  obtain rfl := Option.some.inj h
  refine iH (qA [] rfl rfl ?_)
  simp only [ren, iG, oI, posOf, gG, go_sem]
  refine lP rfl rfl rfl rfl
attribute [go_sem] lB
def mF : lO where
 D := (Bool × ((List Nat) × (Int × Unit))) × Int
 av := fun _ => [.ptr 0 [], .ptr 1 []]
 hp := fun d => [.box 3 (.val (.pair .bool (.pair (.sl (.u .u64)) (.pair (.i .i64) .unit))) d.1), .box 1 (.val (.i .i64) d.2)]
 m := 2
 pre := fun _ => True
 out := fun d => .ret (.tup []) [.box 3 (.val (.pair .bool (.pair (.sl (.u .u64)) (.pair (.i .i64) .unit))) d.1), .box 1 (.val (.i .i64) d.2)]
def mG (x : (Int × Unit)) : lO where
 D := (Bool × ((List Nat) × (Int × Unit))) × Int
 av := fun _ => [.ptr 0 [], .ptr 1 []]
 hp := fun d => [.box 3 (.val (.pair .bool (.pair (.sl (.u .u64)) (.pair (.i .i64) .unit))) d.1), .box 1 (.val (.i .i64) d.2)]
 m := 2
 pre := fun _ => True
 out := fun d => .ret (.tup []) [.box 3 (.val (.pair .bool (.pair (.sl (.u .u64)) (.pair (.i .i64) .unit))) (false, ([] : List Nat), (0 : Int), ())), .box 1 (.val (.i .i64) x.1)]
theorem aED : DOK Tryz.prog GL 151 none mF := by
 refine aI9 (bL uQ) Tryz.func151 rfl (by kernel_rfl) (fun _ => Nat.le_of_ble_eq_true rfl) rfl fun c w d hw1 hw2 hp hn => ?_
 have hF : jX ⟨Tryz.prog, EM [], GM mF c d, w, Tryz.f151.ntmps, []⟩ := ⟨bL uQ, mix⟩
 obtain ⟨d, e⟩ := d
 show lI _ _ _ [(5, .val .nili ()), (0, .ptr 0 []), (1, .ptr 1 [])] [.box 3 (.val (.pair .bool (.pair (.sl (.u .u64)) (.pair (.i .i64) .unit))) d), .box 1 (.val (.i .i64) e)] _
 simp only [go_sem]
 refine aF (aE hF [0, 1, 2, 9] ?_)
 simp only [go_sem]
 refine aG (bS rfl (fun hc => absurd hc (by decide)) (fun hc => ?_))
 refine cE ?_
 refine zU [0, 1] rfl rfl ?_
 simp only [ren, iG, oI, posOf, gG, go_sem]
 refine xK (rT hF [] rfl rfl rfl rfl rfl rfl ?_)
 simp only [bA, zW, yT, go_sem]
 try decide
theorem aEE (x : (Int × Unit)) : DOK Tryz.prog GL 151 (some ⟨165, (.pair (.i .i64) .unit), x⟩) (mG x) := by
 refine aI9 (bL uQ) Tryz.func151 rfl (by kernel_rfl) (fun _ => Nat.le_of_ble_eq_true rfl) rfl fun c w d hw1 hw2 hp hn => ?_
 have hF : jX ⟨Tryz.prog, EM [], GM (mG x) c d, w, Tryz.f151.ntmps, []⟩ := ⟨bL uQ, mix⟩
 obtain ⟨d, e⟩ := d
 show lI _ _ _ [(5, .val (.ifc 165 (.pair (.i .i64) .unit)) x), (0, .ptr 0 []), (1, .ptr 1 [])] [.box 3 (.val (.pair .bool (.pair (.sl (.u .u64)) (.pair (.i .i64) .unit))) d), .box 1 (.val (.i .i64) e)] _
 simp only [go_sem]
 refine aF (aE hF [0, 1, 2, 9] ?_)
 simp only [go_sem]
 refine aG (bS rfl (fun hc => ?_) (fun hc => absurd hc (by decide)))
 refine aDy hF [] [] [.box 3 (.val (.pair .bool (.pair (.sl (.u .u64)) (.pair (.i .i64) .unit))) (false, ([] : List Nat), (0 : Int), ())), .box 1 (.val (.i .i64) x.1), .box 1 (.val (.pair (.i .i64) .unit) x)] (by decide) ?_ ?_
 ·simp only [go_sem]
  unfold anyS
  intro i hi
  have hi : i = 0 ∨ i = 1 := by revert hi; revert i; decide
  rcases hi with rfl | rfl
  ·simp only [go_sem]
   skip
   unfold anyS
   intro i hi
   have hi : i = 1 ∨ i = 3 := by revert hi; revert i; decide
   rcases hi with rfl | rfl
   ·simp only [go_sem]
    skip
    unfold anyS
    intro i hi
    have hi : i = 2 ∨ i = 3 := by revert hi; revert i; decide
    rcases hi with rfl | rfl
    ·simp only [go_sem]
     skip
     unfold anyS
     intro i hi
     have hi : i = 3 := by revert hi; revert i; decide
     subst hi
     simp only [go_sem]
     skip
     unfold anyS
     intro i hi
     have hi : i = 4 := by revert hi; revert i; decide
     subst hi
     simp only [go_sem]
     skip
     (simp only [anyS, go_sem]) <;> first | exact ⟨rfl, rfl⟩ | trivial
    ·simp only [go_sem]
     skip
     unfold anyS
     intro i hi
     have hi : i = 2 := by revert hi; revert i; decide
     subst hi
     simp only [go_sem]
     skip
     unfold anyS
     intro i hi
     have hi : i = 4 := by revert hi; revert i; decide
     subst hi
     simp only [go_sem]
     skip
     (simp only [anyS, go_sem]) <;> first | exact ⟨rfl, rfl⟩ | trivial
   ·simp only [go_sem]
    skip
    unfold anyS
    intro i hi
    have hi : i = 1 := by revert hi; revert i; decide
    subst hi
    simp only [go_sem]
    skip
    unfold anyS
    intro i hi
    have hi : i = 2 := by revert hi; revert i; decide
    subst hi
    simp only [go_sem]
    skip
    unfold anyS
    intro i hi
    have hi : i = 4 := by revert hi; revert i; decide
    subst hi
    simp only [go_sem]
    skip
    (simp only [anyS, go_sem]) <;> first | exact ⟨rfl, rfl⟩ | trivial
  ·simp only [go_sem]
   skip
   unfold anyS
   intro i hi
   have hi : i = 0 ∨ i = 2 := by revert hi; revert i; decide
   rcases hi with rfl | rfl
   ·simp only [go_sem]
    skip
    unfold anyS
    intro i hi
    have hi : i = 2 ∨ i = 3 := by revert hi; revert i; decide
    rcases hi with rfl | rfl
    ·simp only [go_sem]
     skip
     unfold anyS
     intro i hi
     have hi : i = 3 := by revert hi; revert i; decide
     subst hi
     simp only [go_sem]
     skip
     unfold anyS
     intro i hi
     have hi : i = 4 := by revert hi; revert i; decide
     subst hi
     simp only [go_sem]
     skip
     (simp only [anyS, go_sem]) <;> first | exact ⟨rfl, rfl⟩ | trivial
    ·simp only [go_sem]
     skip
     unfold anyS
     intro i hi
     have hi : i = 2 := by revert hi; revert i; decide
     subst hi
     simp only [go_sem]
     skip
     unfold anyS
     intro i hi
     have hi : i = 4 := by revert hi; revert i; decide
     subst hi
     simp only [go_sem]
     skip
     (simp only [anyS, go_sem]) <;> first | exact ⟨rfl, rfl⟩ | trivial
   ·simp only [go_sem]
    skip
    unfold anyS
    intro i hi
    have hi : i = 0 := by revert hi; revert i; decide
    subst hi
    simp only [go_sem]
    skip
    unfold anyS
    intro i hi
    have hi : i = 3 := by revert hi; revert i; decide
    subst hi
    simp only [go_sem]
    skip
    unfold anyS
    intro i hi
    have hi : i = 4 := by revert hi; revert i; decide
    subst hi
    simp only [go_sem]
    skip
    (simp only [anyS, go_sem]) <;> first | exact ⟨rfl, rfl⟩ | trivial
 refine zU [0, 1] rfl rfl ?_
 simp only [ren, iG, oI, posOf, gG, go_sem]
 refine xK (rT hF [] rfl rfl rfl rfl rfl rfl ?_)
 simp only [bA, zW, yT, go_sem]
 try decide
noncomputable def bY (c0 : Int) (c1 : (Bool × ((List Nat) × (Int × Unit)))) (c2 : (Bool × ((List Nat) × (Int × Unit)))) (c3 : Bool) : Option ((Bool × ((List Nat) × (Int × Unit))) × Int × Unit) :=
 (kI c0 c1 c2 c3).bind fun q => some (match q with | .inl r => (r, 0, ()) | .inr p => ((false, ([] : List Nat), (0 : Int), ()), p.1, ()))
def mH : Ty := .pair (.clo 107 (.pair (.rp (.i .i64)) (.pair (.rp (.pair .bool (.pair (.sl (.u .u64)) (.pair (.i .i64) .unit)))) (.pair (.rp (.pair .bool (.pair (.sl (.u .u64)) (.pair (.i .i64) .unit)))) (.pair (.rp .bool) .unit))))) .unit
noncomputable def eS : aM := mSpec mH (.tup (.pair (.pair .bool (.pair (.sl (.u .u64)) (.pair (.i .i64) .unit))) (.pair (.i .i64) .unit))) (fun x => bY x.1.1 x.1.2.1 x.1.2.2.1 x.1.2.2.2.1)
set_option maxHeartbeats 4000000 in
theorem sC : FOK Tryz.prog GL 106 eS := by
 refine aFM (bL uQ) Tryz.func106 rfl (by kernel_rfl) (by decide) fun w0 S x r hw h => ?_
 have hF : jX (fr Tryz.prog (EM []) S w0 Tryz.f106.ntmps) := ⟨bL uQ, mix⟩
 obtain ⟨⟨(c0 : Int), (c1 : (Bool × ((List Nat) × (Int × Unit)))), (c2 : (Bool × ((List Nat) × (Int × Unit)))), (c3 : Bool), u1⟩, u⟩ := x
 replace h : bY c0 c1 c2 c3 = some r := h
 show Tri _ _ _ [(0, .val (.clo 107 (.pair (.rp (.i .i64)) (.pair (.rp (.pair .bool (.pair (.sl (.u .u64)) (.pair (.i .i64) .unit)))) (.pair (.rp (.pair .bool (.pair (.sl (.u .u64)) (.pair (.i .i64) .unit)))) (.pair (.rp .bool) .unit))))) (c0, c1, c2, c3, u1))] []
 unfold bY at h
 obtain ⟨q, hq, h⟩ := bind_some h
 obtain rfl := Option.some.inj h
 refine aF (bV hF [0, 2, 3] ?_)
 simp only [go_sem]
 refine aG (aAY 2 [0, 1] rfl rfl (Nat.zero_le _) (by decide) fun roots hroots => ?_)
 have hF' : jX { fr Tryz.prog (EM []) S w0 Tryz.f106.ntmps with M := ⟨nothing, S, 2, roots⟩, ds := [⟨.fn (.func 151) ([0, 1].map roots).toArray, #[]⟩] } := ⟨bL uQ, mix⟩
 rcases q with q | q
 ·refine aF (bG hF' (cQ (l := [(107, ⟨lB, [], (c0, c1, c2, c3, .inl q)⟩)]) (.cons yL (by kernel_rfl) .nil)) [2, 3] [] ?_)
  simp only [go_sem]
  refine ⟨hq, ?_⟩
  refine aG (dO ?_)
  refine aNi (fn := Tryz.f106) (k := 2) (l2 := [0, 1]) hF' rfl rfl (by decide) rfl (aBU (by kernel_rfl)) ⟨mF, [0, 1], (q, 0)⟩ aED rfl [.cell 2 25, .cell 3 3] rfl ?_ ?_
  ·(simp only [mF, go_sem]) <;> first | decide | trivial
  ·(simp only [mF, bA, jW, go_sem]) <;> first | decide | trivial
 ·refine aF (bG hF' (cQ (l := [(107, ⟨lB, [], (c0, c1, c2, c3, .inr q)⟩)]) (.cons yL (by kernel_rfl) .nil)) [2, 3] [] ?_)
  simp only [go_sem]
  refine ⟨hq, ?_⟩
  refine iH ?_
  refine aNj (fn := Tryz.f106) (k := 2) (l2 := [0, 1]) hF' rfl rfl (by decide) rfl (aBU (by kernel_rfl)) ⟨mG q, [0, 1], ((false, ([] : List Nat), (0 : Int), ()), 0)⟩ (aEE q) rfl [.cell 2 25, .cell 3 3] rfl ?_ ?_
  ·(simp only [mG, go_sem]) <;> first | decide | trivial
  ·(simp only [mG, bA, jW, go_sem]) <;> first | decide | trivial
attribute [go_sem] eS mH
noncomputable def dQ (a_0 : (Bool × ((List Nat) × (Int × Unit)))) (b_1 : (Bool × ((List Nat) × (Int × Unit)))) (p_2 : Int) (up_3 : Bool) : Option ((Bool × ((List Nat) × (Int × Unit))) × (Int × Unit)) :=
 ck (((bY p_2 a_0 b_1 up_3).isSome = true)) (some ((((bY p_2 a_0 b_1 up_3).getD ((false, ([] : List Nat), (0 : Int), ()), (0 : Int), ())).1), ((((bY p_2 a_0 b_1 up_3).getD ((false, ([] : List Nat), (0 : Int), ()), (0 : Int), ())).2).1), ()))
def sD : Ty := .pair (.pair .bool (.pair (.sl (.u .u64)) (.pair (.i .i64) .unit))) (.pair (.pair .bool (.pair (.sl (.u .u64)) (.pair (.i .i64) .unit))) (.pair (.i .i64) (.pair .bool .unit)))
attribute [go_sem] sD
noncomputable def qE : aM := mSpec sD (.tup (.pair (.pair .bool (.pair (.sl (.u .u64)) (.pair (.i .i64) .unit))) (.pair (.i .i64) .unit))) (fun x => dQ x.1 x.2.1 x.2.2.1 x.2.2.2.1)
noncomputable def xZ : List (FuncId × aM) := [(106, eS)]
theorem aCl : bU Tryz.prog GL xZ := .cons sC (by kernel_rfl) (.nil)
theorem aDb : gam xZ 106 = some eS := rfl
attribute [go_sem] aDb
set_option maxHeartbeats 4000000 in
theorem aHI : FOK Tryz.prog GL 55 qE := by
 refine sR (bL aCl) Tryz.func55 rfl (by kernel_rfl) (by decide) fun w0 S x r hw h => ?_
 have hF : jX (fr Tryz.prog (EM xZ) S w0 Tryz.f55.ntmps) := ⟨bL aCl, mix⟩
 obtain ⟨(a_0 : (Bool × ((List Nat) × (Int × Unit)))), (b_1 : (Bool × ((List Nat) × (Int × Unit)))), (p_2 : Int), (up_3 : Bool), u⟩ := x
 simp only [sD, Ty.wf, nM] at hw
 simp only [cA, sD]
 try dsimp only at h
 unfold dQ at h
 refine aF (bV hF [4, 5, 6, 7, 8] ?_)
 simp only [go_sem]
 refine aG (aF (tH 2 rfl ?_))
 simp only [go_sem]
 refine tH 0 rfl ?_
 simp only [go_sem]
 refine tH 1 rfl ?_
 simp only [go_sem]
 refine tH 3 rfl ?_
 simp only [go_sem]
 refine bV hF [8, 9] ?_
 simp only [go_sem]
 obtain ⟨g0, h⟩ := aI h
 repeat (refine ⟨by first | with_reducible assumption | omega | (intros; first | assumption | omega) | (simp only [go_sem] at *; first | assumption | omega) | decide, ?_⟩)
 obtain rfl := Option.some.inj h
 refine aG (dO (iT hF [.cell 8 25, .tmp 9] rfl rfl rfl ?_))
 (try simp only [jW, bA, go_sem]) <;> first | rfl | (simp; done)
attribute [go_sem] qE
end Nu
end Go.Proofs
namespace Go.Proofs
open Go.Vc
set_option maxRecDepth 20000
namespace Nu
noncomputable def kW : Option ((Int × (Unit × Unit))) :=
 none
noncomputable def iO (s_0 : (List Nat)) (n_14 : Int) : Option ((Int × (Unit × Unit))) :=
 ck ((0 : Int) < (((s_0.length) : Nat) : Int)) (if (s_0.getD (0 : Nat) (0 : Nat)) = (45 : Nat) then ck (I64 (0 - n_14)) (some ((0 - n_14), (), ())) else some (n_14, (), ()))
noncomputable def dU (s_9 : (List Nat)) (n_15 : Int) (x49_16 : Int) : Option ((Int × Int) ⊕ ((Int) ⊕ (Int × (Unit × Unit)))) :=
 if x49_16 < (((s_9.length) : Nat) : Int) then ck (0 ≤ x49_16 ∧ x49_16 < (((s_9.length) : Nat) : Int)) (if (9 : Nat) < (iE .u8 (s_9.getD (x49_16.toNat) (0 : Nat)) (48 : Nat)) then none else ck (I64 (n_15 * (10 : Int))) (ck (I64 ((n_15 * (10 : Int)) + (((iE .u8 (s_9.getD (x49_16.toNat) (0 : Nat)) (48 : Nat)) : Nat) : Int))) (ck (I64 (x49_16 + (1 : Int))) (some (.inl (((n_15 * (10 : Int)) + (((iE .u8 (s_9.getD (x49_16.toNat) (0 : Nat)) (48 : Nat)) : Nat) : Int)), (x49_16 + (1 : Int)))))))) else some (.inr (.inl n_15))
noncomputable def eI (s_0 : (List Nat)) (s_9 : (List Nat)) : Option ((Int × (Unit × Unit))) :=
 (dG (fun d : Int × Int => dU s_9 d.1 d.2) ((0 : Int), (0 : Int))).bind (fun e => match e with | (.inl e) => iO s_0 e | (.inr e) => some e)
noncomputable def gO (s_0 : (List Nat)) : Option (Int × (Unit × Unit)) :=
 if ((False) ∧ (((0 : Int) < (((s_0.length) : Nat) : Int)) ∧ ((((s_0.length) : Nat) : Int) < (10 : Int)))) ∨ ((True) ∧ (((0 : Int) < (((s_0.length) : Nat) : Int)) ∧ ((((s_0.length) : Nat) : Int) < (19 : Int)))) then ck ((0 : Int) < (((s_0.length) : Nat) : Int)) (ck ((¬ ((s_0.getD (0 : Nat) (0 : Nat)) = (45 : Nat)) → ((0 : Int) < (((s_0.length) : Nat) : Int)))) (if ((s_0.getD (0 : Nat) (0 : Nat)) = (45 : Nat)) ∨ ((s_0.getD (0 : Nat) (0 : Nat)) = (43 : Nat)) then ck ((1 : Int) ≤ (((s_0.length) : Nat) : Int)) (if ((((List.drop (1 : Nat) s_0).length) : Nat) : Int) < (1 : Int) then none else eI s_0 (List.drop (1 : Nat) s_0)) else eI s_0 s_0)) else kW
def wJ : PlR := ⟨[(0, .A [0]), (1, .A [0, 4]), (2, .A [0, 30]), (3, .A [0, 5]), (4, .A [0, 5, 39]), (5, .A [0, 5]), (6, .A [0, 5, 44]), (7, .A [2, 3]), (8, .A [0, 5, 6]), (9, .A [5, 6, 47, 48, 49]), (10, .A [5, 6, 47, 48, 49, 50]), (11, .A [5, 6, 8, 47, 48, 49]), (12, .A [5, 6, 8, 47, 48, 49]), (13, .A [5, 6, 8, 47, 48, 49, 56]), (14, .A [2, 3]), (15, .A [5, 6, 47, 48, 49]), (16, .A [5, 6, 47, 48, 49]), (17, .A [6, 66]), (18, .A [6]), (19, .A [2, 3]), (20, .stop)], [(5, 23), (7, 11), (12, 20)]⟩
def yM : Ty := .pair .str .unit
noncomputable def mR : aM := mSpec yM (.tup (.pair (.i .i64) (.pair .nili .unit))) (fun x => gO x.1)
noncomputable def aEF : List (FuncId × aM) := []
theorem aEG : bU Tryz.prog GL aEF := .nil
attribute [go_sem] yM wJ
set_option maxHeartbeats 4000000 in
theorem aDc : FOK Tryz.prog GL 154 mR := by
 refine cB (bL aEG) mix Tryz.func154 rfl (by kernel_rfl) (by decide) wJ fun w0 S x Θ hw h hF => ?_
 obtain ⟨(s_0 : (List Nat)), u⟩ := x
 simp only [cA, go_sem]
 replace h : sat (gO s_0) _ := h
 unfold gO at h
 refine cW hF (D := Unit) (fun d => sat (kW) Θ) [0] (fun d => []) (fun d => []) ?_ ?_
 ·simp only [go_sem]
  refine ⟨fun hc => ?_, fun hc => ?_⟩
  ·replace h := gS (by first | exact hc | omega | (simpa using hc) | (simp at hc ⊢; omega)) h
   refine cW hF (D := (List Nat)) (fun d => sat (eI s_0 d) Θ) [5] (fun d => [(0, .val .str d)]) (fun d => []) ?_ ?_
   ·simp only [go_sem]
    refine aH h fun g0 h => aH h fun g1 h => ?_
    refine ⟨fun hc => ?_, fun hc => ?_⟩
    ·replace h := gS hc h
     refine aH h fun g0 h => ?_
     refine jB h (fun hc h => ?_) fun hc h => ?_
     ·exact zY h
     ·exact aX ((List.drop (1 : Nat) s_0)) h rfl (by simp only [go_sem])
    ·replace h := gT hc h
     exact aX (s_0) h rfl (by simp only [go_sem])
   ·rintro s_9 h
    simp only [go_sem]
    replace h : sat (eI s_0 s_9) _ := h
    unfold eI at h
    refine cW hF (D := Int) (fun d => sat (iO s_0 d) Θ) [5] (fun d => [(6, .val (.i .i64) d)]) (fun d => []) ?_ ?_
    ·simp only [go_sem]
     refine dI hF (D := Int × Int) [5, 47, 48] (fun d => [(6, .val (.i .i64) d.1), (49, .val (.i .i64) d.2)]) (fun d => []) h rfl (by simp only [go_sem]) ?_
     rintro ⟨n_15, x49_16⟩ A10 T10 hA10 hE10 h
     simp only [go_sem]
     replace h : sat (dU s_9 n_15 x49_16) _ := h
     unfold dU at h
     refine jB h (fun hc h => ?_) fun hc h => ?_
     ·refine aH h fun g0 h => ?_
      refine fD h (fun hc h => ?_) fun hc h => ?_
      ·exact zY h
      ·refine aH h fun g0 h => aH h fun g1 h => ?_
       refine aH h fun g0 h => ?_
       replace h := hA10 _ (aD h)
       exact aX _ h rfl (by simp only [go_sem])
     ·replace h := hE10 _ (aD h)
      try dsimp only at h
      exact aX (n_15) h rfl (by simp only [go_sem])
    ·rintro n_14 h
     simp only [go_sem]
     replace h : sat (iO s_0 n_14) _ := h
     unfold iO at h
     refine aH h fun g0 h => ?_
     refine fD h (fun hc h => ?_) fun hc h => ?_
     ·refine aH h fun g0 h => ?_
      exact aS hF [.tmp 2, .tmp 3] rfl rfl rfl (aD h) (by simp only [bA, go_sem])
     ·exact aS hF [.tmp 2, .tmp 3] rfl rfl rfl (aD h) (by simp only [bA, go_sem])
  ·replace h := gT (by first | exact hc | omega | (simpa using hc) | (simp at hc ⊢; omega)) h
   exact aX (()) h rfl (by simp only [go_sem])
 ·rintro u h
  simp only [go_sem]
  replace h : sat (kW) _ := h
  unfold kW at h
  exact zY h
attribute [go_sem] mR
noncomputable def cU (s_0 : (List Nat)) : Option (Int × (Unit × Unit)) :=
 ck (((gO s_0).isSome = true)) (some ((((gO s_0).getD ((0 : Int), (), ())).1), (), ()))
def yN : PlR := ⟨[(0, .A [0]), (1, .A [0, 4, 5]), (2, .A [0, 4, 5, 12]), (4, .A [2, 3])], []⟩
def aAq : Ty := .pair .str .unit
noncomputable def nI : aM := mSpec aAq (.tup (.pair (.i .i64) (.pair .nili .unit))) (fun x => cU x.1)
noncomputable def aAr : List (FuncId × aM) := [(154, mR)]
theorem aGt : bU Tryz.prog GL aAr := .cons aDc (by kernel_rfl) (.nil)
theorem aBw : gam aAr 154 = some mR := rfl
attribute [go_sem] aAq yN aBw
set_option maxHeartbeats 4000000 in
theorem aEH : FOK Tryz.prog GL 118 nI := by
 refine cB (bL aGt) mix Tryz.func118 rfl (by kernel_rfl) (by decide) yN fun w0 S x Θ hw h hF => ?_
 obtain ⟨(s_0 : (List Nat)), u⟩ := x
 simp only [cA, go_sem]
 replace h : sat (cU s_0) _ := h
 unfold cU at h
 refine aH h fun g0 h => ?_
 exact aS hF [.tmp 2, .tmp 3] rfl rfl rfl (aD h) (by simp only [bA, go_sem])
attribute [go_sem] nI
noncomputable def gP (at_1 : Int) (s_0 : (List Nat)) (n_5 : Int) : Option ((Int) ⊕ ((Int))) :=
 ck (I64 (at_1 + n_5)) (ck ((((at_1 + n_5) < (((s_0.length) : Nat) : Int)) → (I64 (at_1 + n_5)))) (ck ((((at_1 + n_5) < (((s_0.length) : Nat) : Int)) → (0 ≤ (at_1 + n_5) ∧ (at_1 + n_5) < (((s_0.length) : Nat) : Int)))) (ck (((((at_1 + n_5) < (((s_0.length) : Nat) : Int)) ∧ ((48 : Nat) ≤ (s_0.getD ((at_1 + n_5).toNat) (0 : Nat)))) → (I64 (at_1 + n_5)))) (ck (((((at_1 + n_5) < (((s_0.length) : Nat) : Int)) ∧ ((48 : Nat) ≤ (s_0.getD ((at_1 + n_5).toNat) (0 : Nat)))) → (0 ≤ (at_1 + n_5) ∧ (at_1 + n_5) < (((s_0.length) : Nat) : Int)))) (if (((at_1 + n_5) < (((s_0.length) : Nat) : Int)) ∧ ((48 : Nat) ≤ (s_0.getD ((at_1 + n_5).toNat) (0 : Nat)))) ∧ ((s_0.getD ((at_1 + n_5).toNat) (0 : Nat)) ≤ (57 : Nat)) then ck (I64 (n_5 + (1 : Int))) (some (.inl (n_5 + (1 : Int)))) else some (.inr n_5))))))
noncomputable def aC (s_0 : (List Nat)) (at_1 : Int) : Option Int :=
 (dG (fun d : Int => gP at_1 s_0 d) (0 : Int)).bind (fun e => some e)
def aA8 : PlR := ⟨[(0, .A [0, 1]), (1, .A [0, 1, 5]), (2, .A [0, 1, 5, 27]), (3, .A [0, 1, 5]), (4, .A [4])], []⟩
def aCm : Ty := .pair .str (.pair (.i .i64) .unit)
noncomputable def qF : aM := mSpec aCm (.one (.i .i64)) (fun x => aC x.1 x.2.1)
noncomputable def aJI : List (FuncId × aM) := []
theorem aJJ : bU Tryz.prog GL aJI := .nil
attribute [go_sem] aCm aA8
set_option maxHeartbeats 4000000 in
theorem aHJ : FOK Tryz.prog GL 117 qF := by
 refine cB (bL aJJ) mix Tryz.func117 rfl (by kernel_rfl) (by decide) aA8 fun w0 S x Θ hw h hF => ?_
 obtain ⟨(s_0 : (List Nat)), (at_1 : Int), u⟩ := x
 simp only [cA, go_sem]
 replace h : sat (aC s_0 at_1) _ := h
 unfold aC at h
 refine dI hF (D := Int) [0, 1] (fun d => [(5, .val (.i .i64) d)]) (fun d => []) h rfl (by simp only [go_sem]) ?_
 rintro n_5 A2 T2 hA2 hE2 h
 simp only [go_sem]
 replace h : sat (gP at_1 s_0 n_5) _ := h
 unfold gP at h
 refine aH h fun g0 h => aH h fun g1 h => aH h fun g2 h => aH h fun g3 h => aH h fun g4 h => ?_
 refine ⟨fun hc => ?_, fun hc => ?_⟩
 ·replace h := gS hc h
  refine aH h fun g0 h => ?_
  replace h := hA2 _ (aD h)
  exact aX _ h rfl (by simp only [go_sem])
 ·replace h := gT hc h
  replace h := hE2 _ (aD h)
  try dsimp only at h
  exact aS hF [.tmp 4] rfl rfl rfl (aD h) (by simp only [bA, go_sem])
attribute [go_sem] qF
noncomputable def iP (n_1 : Int) (b_0 : Nat) (m_7 : (List Nat)) (x8_8 : Int) : Option (((List Nat) × Int) ⊕ (((List Nat)))) :=
 if x8_8 < n_1 then ck ((aEn m_7 ([b_0] : List Nat))) (ck (I64 (x8_8 + (1 : Int))) (some (.inl ((aY m_7 ([b_0] : List Nat)), (x8_8 + (1 : Int)))))) else some (.inr m_7)
noncomputable def aZ (b_0 : Nat) (n_1 : Int) : Option (List Nat) :=
 (dG (fun d : (List Nat) × Int => iP n_1 b_0 d.1 d.2) (([1] : List Nat), (0 : Int))).bind (fun e => some e)
def aCn : PlR := ⟨[(0, .A [0, 1]), (1, .A [0, 1, 5]), (2, .A [0, 5, 7, 8]), (3, .A [0, 5, 7, 8, 9]), (4, .A [0, 5, 7, 8]), (5, .A [0, 5, 7, 8]), (6, .A [4])], []⟩
def aD0 : Ty := .pair (.u .u64) (.pair (.i .i64) .unit)
noncomputable def jH : aM := mSpec aD0 (.one (.sl (.u .u64))) (fun x => aZ x.1 x.2.1)
noncomputable def aD1 : List (FuncId × aM) := [(63, eE)]
theorem aLh : bU Tryz.prog GL aD1 := .cons oQ (by kernel_rfl) (.nil)
theorem aGu : gam aD1 63 = some eE := rfl
attribute [go_sem] aD0 aCn aGu
set_option maxHeartbeats 4000000 in
theorem yA : FOK Tryz.prog GL 65 jH := by
 refine cB (bL aLh) mix Tryz.func65 rfl (by kernel_rfl) (by decide) aCn fun w0 S x Θ hw h hF => ?_
 obtain ⟨(b_0 : Nat), (n_1 : Int), u⟩ := x
 simp only [cA, go_sem]
 replace h : sat (aZ b_0 n_1) _ := h
 unfold aZ at h
 refine dI hF (D := (List Nat) × Int) [0, 7] (fun d => [(5, .val (.sl (.u .u64)) d.1), (8, .val (.i .i64) d.2)]) (fun d => []) h rfl (by simp only [go_sem]) ?_
 rintro ⟨m_7, x8_8⟩ A3 T3 hA3 hE3 h
 simp only [go_sem]
 replace h : sat (iP n_1 b_0 m_7 x8_8) _ := h
 unfold iP at h
 refine jB h (fun hc h => ?_) fun hc h => ?_
 ·refine aH h fun g0 h => ?_
  refine aH h fun g0 h => ?_
  replace h := hA3 _ (aD h)
  exact aX _ h rfl (by simp only [go_sem])
 ·replace h := hE3 _ (aD h)
  try dsimp only at h
  exact aS hF [.tmp 4] rfl rfl rfl (aD h) (by simp only [bA, go_sem])
attribute [go_sem] jH
noncomputable def gQ (s_0 : (List Nat)) (m_6 : (List Nat)) (x9_7 : Int) : Option (((List Nat) × Int) ⊕ (((List Nat)))) :=
 if x9_7 < (((s_0.length) : Nat) : Int) then ck (0 ≤ x9_7 ∧ x9_7 < (((s_0.length) : Nat) : Int)) (ck ((aEn m_6 ([10] : List Nat))) (ck ((pSz ([(iE .u8 (s_0.getD (x9_7.toNat) (0 : Nat)) (48 : Nat))] : List Nat))) (ck ((aEn (aY m_6 ([10] : List Nat)) (pV ([(iE .u8 (s_0.getD (x9_7.toNat) (0 : Nat)) (48 : Nat))] : List Nat)))) (ck (I64 (x9_7 + (1 : Int))) (some (.inl ((fA (aY m_6 ([10] : List Nat)) (pV ([(iE .u8 (s_0.getD (x9_7.toNat) (0 : Nat)) (48 : Nat))] : List Nat))), (x9_7 + (1 : Int))))))))) else some (.inr m_6)
noncomputable def cT (s_0 : (List Nat)) : Option (List Nat) :=
 (dG (fun d : (List Nat) × Int => gQ s_0 d.1 d.2) (([] : List Nat), (0 : Int))).bind (fun e => some e)
def aA9 : PlR := ⟨[(0, .A [0]), (1, .A [0, 3]), (2, .A [3, 7, 8, 9]), (3, .A [3, 7, 8, 9, 10]), (4, .A [3, 5, 7, 8, 9]), (5, .A [3, 7, 8, 9]), (6, .A [3, 7, 8, 9]), (7, .A [2])], []⟩
def aCo : Ty := .pair .str .unit
noncomputable def lG : aM := mSpec aCo (.one (.sl (.u .u64))) (fun x => cT x.1)
noncomputable def sE : List (FuncId × aM) := [(63, eE), (71, kN), (85, uM)]
theorem aJK : bU Tryz.prog GL sE := .cons oQ (by kernel_rfl) (.cons aAh (by kernel_rfl) (.cons aK5 (by kernel_rfl) (.nil)))
theorem aEI : gam sE 63 = some eE := rfl
theorem aEJ : gam sE 71 = some kN := rfl
theorem aEK : gam sE 85 = some uM := rfl
attribute [go_sem] aCo aA9 aEI aEJ aEK
set_option maxHeartbeats 4000000 in
theorem aBa : FOK Tryz.prog GL 64 lG := by
 refine cB (bL aJK) mix Tryz.func64 rfl (by kernel_rfl) (by decide) aA9 fun w0 S x Θ hw h hF => ?_
 obtain ⟨(s_0 : (List Nat)), u⟩ := x
 simp only [cA, go_sem]
 replace h : sat (cT s_0) _ := h
 unfold cT at h
 refine dI hF (D := (List Nat) × Int) [7, 8] (fun d => [(3, .val (.sl (.u .u64)) d.1), (9, .val (.i .i64) d.2)]) (fun d => []) h rfl (by simp only [go_sem]) ?_
 rintro ⟨m_6, x9_7⟩ A3 T3 hA3 hE3 h
 simp only [go_sem]
 replace h : sat (gQ s_0 m_6 x9_7) _ := h
 unfold gQ at h
 refine jB h (fun hc h => ?_) fun hc h => ?_
 ·obtain ⟨g0, h⟩ := aN h
  repeat (refine ⟨by omega, ?_⟩)
  obtain ⟨g0, h⟩ := aN h
  obtain ⟨g1, h⟩ := aN h
  obtain ⟨g2, h⟩ := aN h
  repeat (refine ⟨by omega, ?_⟩)
  obtain ⟨g0, h⟩ := aN h
  repeat (refine ⟨by omega, ?_⟩)
  replace h := hA3 _ (aD h)
  exact aX _ h rfl (by simp only [go_sem])
 ·replace h := hE3 _ (aD h)
  try dsimp only at h
  exact aS hF [.tmp 2] rfl rfl rfl (aD h) (by simp only [bA, go_sem])
attribute [go_sem] lG
noncomputable def fI (all_3 : (List Nat)) (s_0 : (List Nat)) (at_7 : Int) (pow_8 : Int) : Option (((List Nat) × (Int × (Bool × Unit)))) :=
 some (all_3, pow_8, (decide (at_7 = (((s_0.length) : Nat) : Int))), ())
noncomputable def fJ (pow_4 : Int) (at_9 : Int) (s_0 : (List Nat)) (all_3 : (List Nat)) (x_10 : Int) : Option (((List Nat) × (Int × (Bool × Unit)))) :=
 ck (I64 (pow_4 + x_10)) (ck (I64 (at_9 + ((aC s_0 at_9).getD (0 : Int)))) (fI all_3 s_0 (at_9 + ((aC s_0 at_9).getD (0 : Int))) (pow_4 + x_10)))
noncomputable def fK (s_0 : (List Nat)) (at_2 : Int) (pow_4 : Int) (all_3 : (List Nat)) (at_9 : Int) : Option (((List Nat) × (Int × (Bool × Unit)))) :=
 ck (((aC s_0 at_9).isSome = true)) (if (((aC s_0 at_9).getD (0 : Int)) < (1 : Int)) ∨ ((3 : Int) < ((aC s_0 at_9).getD (0 : Int))) then some ((aK ⟨#[]⟩), (0 : Int), false, ()) else ck (I64 (at_9 + ((aC s_0 at_9).getD (0 : Int)))) (ck (0 ≤ at_9 ∧ at_9 ≤ (at_9 + ((aC s_0 at_9).getD (0 : Int))) ∧ (at_9 + ((aC s_0 at_9).getD (0 : Int))) ≤ (((s_0.length) : Nat) : Int)) (ck (((cU (List.drop (at_9.toNat) (List.take ((at_9 + ((aC s_0 at_9).getD (0 : Int))).toNat) s_0))).isSome = true)) (if (100 : Int) < (((cU (List.drop (at_9.toNat) (List.take ((at_9 + ((aC s_0 at_9).getD (0 : Int))).toNat) s_0))).getD ((0 : Int), (), ())).1) then some ((aK ⟨#[]⟩), (0 : Int), false, ()) else if ((at_2 + (1 : Int)) < (((s_0.length) : Nat) : Int)) ∧ ((s_0.getD ((at_2 + (1 : Int)).toNat) (0 : Nat)) = (45 : Nat)) then ck (I64 (0 - (((cU (List.drop (at_9.toNat) (List.take ((at_9 + ((aC s_0 at_9).getD (0 : Int))).toNat) s_0))).getD ((0 : Int), (), ())).1))) (fJ pow_4 at_9 s_0 all_3 (0 - (((cU (List.drop (at_9.toNat) (List.take ((at_9 + ((aC s_0 at_9).getD (0 : Int))).toNat) s_0))).getD ((0 : Int), (), ())).1))) else fJ pow_4 at_9 s_0 all_3 (((cU (List.drop (at_9.toNat) (List.take ((at_9 + ((aC s_0 at_9).getD (0 : Int))).toNat) s_0))).getD ((0 : Int), (), ())).1)))))
noncomputable def fL (s_0 : (List Nat)) (at_2 : Int) (all_3 : (List Nat)) (pow_4 : Int) : Option (((List Nat) × (Int × (Bool × Unit)))) :=
 ck (((at_2 < (((s_0.length) : Nat) : Int)) → (0 ≤ at_2 ∧ at_2 < (((s_0.length) : Nat) : Int)))) (if (at_2 < (((s_0.length) : Nat) : Int)) ∧ ((s_0.getD (at_2.toNat) (0 : Nat)) = (101 : Nat)) then ck (I64 (at_2 + (1 : Int))) (ck ((((at_2 + (1 : Int)) < (((s_0.length) : Nat) : Int)) → (0 ≤ (at_2 + (1 : Int)) ∧ (at_2 + (1 : Int)) < (((s_0.length) : Nat) : Int)))) (ck ((¬ (((at_2 + (1 : Int)) < (((s_0.length) : Nat) : Int)) ∧ ((s_0.getD ((at_2 + (1 : Int)).toNat) (0 : Nat)) = (45 : Nat))) → ((at_2 + (1 : Int)) < (((s_0.length) : Nat) : Int)) → (0 ≤ (at_2 + (1 : Int)) ∧ (at_2 + (1 : Int)) < (((s_0.length) : Nat) : Int)))) (if (((at_2 + (1 : Int)) < (((s_0.length) : Nat) : Int)) ∧ ((s_0.getD ((at_2 + (1 : Int)).toNat) (0 : Nat)) = (45 : Nat))) ∨ (((at_2 + (1 : Int)) < (((s_0.length) : Nat) : Int)) ∧ ((s_0.getD ((at_2 + (1 : Int)).toNat) (0 : Nat)) = (43 : Nat))) then ck (I64 ((at_2 + (1 : Int)) + (1 : Int))) (fK s_0 at_2 pow_4 all_3 ((at_2 + (1 : Int)) + (1 : Int))) else fK s_0 at_2 pow_4 all_3 (at_2 + (1 : Int))))) else fI all_3 s_0 at_2 pow_4)
noncomputable def aP (s_0 : (List Nat)) : Option ((List Nat) × (Int × (Bool × Unit))) :=
 ck (((aC s_0 (0 : Int)).isSome = true)) (ck (0 ≤ ((aC s_0 (0 : Int)).getD (0 : Int)) ∧ ((aC s_0 (0 : Int)).getD (0 : Int)) ≤ (((s_0.length) : Nat) : Int)) (if ((60 : Int) < (((s_0.length) : Nat) : Int)) ∨ (((aC s_0 (0 : Int)).getD (0 : Int)) = (0 : Int)) then some ((aK ⟨#[]⟩), (0 : Int), false, ()) else ck (((((aC s_0 (0 : Int)).getD (0 : Int)) < (((s_0.length) : Nat) : Int)) → (0 ≤ ((aC s_0 (0 : Int)).getD (0 : Int)) ∧ ((aC s_0 (0 : Int)).getD (0 : Int)) < (((s_0.length) : Nat) : Int)))) (if (((aC s_0 (0 : Int)).getD (0 : Int)) < (((s_0.length) : Nat) : Int)) ∧ ((s_0.getD (((aC s_0 (0 : Int)).getD (0 : Int)).toNat) (0 : Nat)) = (46 : Nat)) then ck (I64 (((aC s_0 (0 : Int)).getD (0 : Int)) + (1 : Int))) (ck (((aC s_0 (((aC s_0 (0 : Int)).getD (0 : Int)) + (1 : Int))).isSome = true)) (if ((aC s_0 (((aC s_0 (0 : Int)).getD (0 : Int)) + (1 : Int))).getD (0 : Int)) = (0 : Int) then some ((aK ⟨#[]⟩), (0 : Int), false, ()) else ck (I64 (((aC s_0 (0 : Int)).getD (0 : Int)) + (1 : Int))) (ck (I64 (((aC s_0 (0 : Int)).getD (0 : Int)) + (1 : Int))) (ck (I64 ((((aC s_0 (0 : Int)).getD (0 : Int)) + (1 : Int)) + ((aC s_0 (((aC s_0 (0 : Int)).getD (0 : Int)) + (1 : Int))).getD (0 : Int)))) (ck (0 ≤ (((aC s_0 (0 : Int)).getD (0 : Int)) + (1 : Int)) ∧ (((aC s_0 (0 : Int)).getD (0 : Int)) + (1 : Int)) ≤ ((((aC s_0 (0 : Int)).getD (0 : Int)) + (1 : Int)) + ((aC s_0 (((aC s_0 (0 : Int)).getD (0 : Int)) + (1 : Int))).getD (0 : Int))) ∧ ((((aC s_0 (0 : Int)).getD (0 : Int)) + (1 : Int)) + ((aC s_0 (((aC s_0 (0 : Int)).getD (0 : Int)) + (1 : Int))).getD (0 : Int))) ≤ (((s_0.length) : Nat) : Int)) (ck (((List.take (((aC s_0 (0 : Int)).getD (0 : Int)).toNat) s_0).length) + ((List.drop ((((aC s_0 (0 : Int)).getD (0 : Int)) + (1 : Int)).toNat) (List.take (((((aC s_0 (0 : Int)).getD (0 : Int)) + (1 : Int)) + ((aC s_0 (((aC s_0 (0 : Int)).getD (0 : Int)) + (1 : Int))).getD (0 : Int))).toNat) s_0)).length) ≤ 9223372036854775807) (ck (I64 (0 - ((aC s_0 (((aC s_0 (0 : Int)).getD (0 : Int)) + (1 : Int))).getD (0 : Int)))) (ck (I64 (((aC s_0 (0 : Int)).getD (0 : Int)) + (1 : Int))) (ck (I64 ((((aC s_0 (0 : Int)).getD (0 : Int)) + (1 : Int)) + ((aC s_0 (((aC s_0 (0 : Int)).getD (0 : Int)) + (1 : Int))).getD (0 : Int)))) (fL s_0 ((((aC s_0 (0 : Int)).getD (0 : Int)) + (1 : Int)) + ((aC s_0 (((aC s_0 (0 : Int)).getD (0 : Int)) + (1 : Int))).getD (0 : Int))) ((List.take (((aC s_0 (0 : Int)).getD (0 : Int)).toNat) s_0) ++ (List.drop ((((aC s_0 (0 : Int)).getD (0 : Int)) + (1 : Int)).toNat) (List.take (((((aC s_0 (0 : Int)).getD (0 : Int)) + (1 : Int)) + ((aC s_0 (((aC s_0 (0 : Int)).getD (0 : Int)) + (1 : Int))).getD (0 : Int))).toNat) s_0))) (0 - ((aC s_0 (((aC s_0 (0 : Int)).getD (0 : Int)) + (1 : Int))).getD (0 : Int))))))))))))) else fL s_0 ((aC s_0 (0 : Int)).getD (0 : Int)) (List.take (((aC s_0 (0 : Int)).getD (0 : Int)).toNat) s_0) (0 : Int))))
def aAs : PlR := ⟨[(0, .A [0]), (1, .A [0, 5]), (2, .A [0, 5, 6, 7]), (3, .A [0, 5, 6, 7, 24]), (4, .A [2, 3, 4]), (5, .A [0, 5, 6, 7, 34]), (6, .A [0, 5, 6, 8]), (7, .A [0, 5, 6, 8, 40]), (8, .A [2, 3, 4]), (9, .A [0, 5, 6, 7]), (10, .A [0, 5, 6, 7, 66]), (11, .A [0, 5, 6, 7]), (12, .A [0, 5, 6, 7, 9]), (13, .A [0, 5, 6, 7, 9, 91]), (14, .A [0, 5, 6, 7, 9]), (15, .A [0, 5, 6, 7, 9, 10]), (16, .A [0, 5, 6, 7, 9, 10, 102]), (17, .A [2, 3, 4]), (18, .A [0, 5, 6, 7, 9, 10, 11]), (19, .A [0, 5, 6, 7, 9, 10, 11, 114]), (20, .A [2, 3, 4]), (21, .A [0, 5, 6, 7, 10, 11, 115]), (22, .A [0, 5, 6, 7, 10, 11]), (23, .A [0, 5, 6, 7]), (24, .A [2, 3, 4])], [(8, 13), (13, 27), (16, 18), (24, 26)]⟩
def aBb : Ty := .pair .str .unit
noncomputable def fZ : aM := mSpec aBb (.tup (.pair .str (.pair (.i .i64) (.pair .bool .unit)))) (fun x => aP x.1)
noncomputable def vK : List (FuncId × aM) := [(117, qF), (118, nI)]
theorem aHK : bU Tryz.prog GL vK := .cons aHJ (by kernel_rfl) (.cons aEH (by kernel_rfl) (.nil))
theorem aCp : gam vK 117 = some qF := rfl
theorem aCq : gam vK 118 = some nI := rfl
attribute [go_sem] aBb aAs aCp aCq
set_option maxHeartbeats 4000000 in
theorem tT : FOK Tryz.prog GL 61 fZ := by
 refine cB (bL aHK) mix Tryz.func61 rfl (by kernel_rfl) (by decide) aAs fun w0 S x Θ hw h hF => ?_
 obtain ⟨(s_0 : (List Nat)), u⟩ := x
 simp only [cA, go_sem]
 replace h : sat (aP s_0) _ := h
 unfold aP at h
 obtain ⟨g0, h⟩ := aN h
 repeat (refine ⟨by omega, ?_⟩)
 obtain ⟨g0, h⟩ := aN h
 repeat (refine ⟨by omega, ?_⟩)
 refine ⟨fun hc => ?_, fun hc => ?_⟩
 ·replace h := gS hc h
  exact aS hF [.tmp 2, .tmp 3, .tmp 4] rfl rfl rfl (aD h) (by simp only [bA, go_sem])
 ·replace h := gT hc h
  refine cW hF (D := Int × (List Nat) × Int) (fun d => sat (fL s_0 d.1 d.2.1 d.2.2) Θ) [0] (fun d => [(5, .val (.i .i64) d.1), (6, .val .str d.2.1), (7, .val (.i .i64) d.2.2)]) (fun d => []) ?_ ?_
  ·simp only [go_sem]
   obtain ⟨g0, h⟩ := aN h
   repeat (refine ⟨by omega, ?_⟩)
   refine ⟨fun hc => ?_, fun hc => ?_⟩
   ·replace h := gS hc h
    obtain ⟨g0, h⟩ := aN h
    obtain ⟨g1, h⟩ := aN h
    repeat (refine ⟨by omega, ?_⟩)
    refine fD h (fun hc h => ?_) fun hc h => ?_
    ·exact aS hF [.tmp 2, .tmp 3, .tmp 4] rfl rfl rfl (aD h) (by simp only [bA, go_sem])
    ·obtain ⟨g0, h⟩ := aN h
     obtain ⟨g1, h⟩ := aN h
     obtain ⟨g2, h⟩ := aN h
     obtain ⟨g3, h⟩ := aN h
     obtain ⟨g4, h⟩ := aN h
     obtain ⟨g5, h⟩ := aN h
     obtain ⟨g6, h⟩ := aN h
     obtain ⟨g7, h⟩ := aN h
     repeat (refine ⟨by omega, ?_⟩)
     exact aX ((((((aC s_0 (0 : Int)).getD (0 : Int)) + (1 : Int)) + ((aC s_0 (((aC s_0 (0 : Int)).getD (0 : Int)) + (1 : Int))).getD (0 : Int))), ((List.take (((aC s_0 (0 : Int)).getD (0 : Int)).toNat) s_0) ++ (List.drop ((((aC s_0 (0 : Int)).getD (0 : Int)) + (1 : Int)).toNat) (List.take (((((aC s_0 (0 : Int)).getD (0 : Int)) + (1 : Int)) + ((aC s_0 (((aC s_0 (0 : Int)).getD (0 : Int)) + (1 : Int))).getD (0 : Int))).toNat) s_0))), (0 - ((aC s_0 (((aC s_0 (0 : Int)).getD (0 : Int)) + (1 : Int))).getD (0 : Int))))) h rfl (by simp only [go_sem])
   ·replace h := gT hc h
    exact aX ((((aC s_0 (0 : Int)).getD (0 : Int)), (List.take (((aC s_0 (0 : Int)).getD (0 : Int)).toNat) s_0), (0 : Int))) h rfl (by simp only [go_sem])
  ·rintro ⟨at_2, all_3, pow_4⟩ h
   simp only [go_sem]
   replace h : sat (fL s_0 at_2 all_3 pow_4) _ := h
   unfold fL at h
   refine cW hF (D := Int × Int) (fun d => sat (fI all_3 s_0 d.1 d.2) Θ) [0, 6] (fun d => [(5, .val (.i .i64) d.1), (7, .val (.i .i64) d.2)]) (fun d => []) ?_ ?_
   ·simp only [go_sem]
    obtain ⟨g0, h⟩ := aN h
    repeat (refine ⟨by omega, ?_⟩)
    refine ⟨fun hc => ?_, fun hc => ?_⟩
    ·replace h := gS hc h
     obtain ⟨g0, h⟩ := aN h
     repeat (refine ⟨by omega, ?_⟩)
     obtain ⟨g0, h⟩ := aN h
     repeat (refine ⟨by omega, ?_⟩)
     refine cW hF (D := Int) (fun d => sat (fK s_0 at_2 pow_4 all_3 d) Θ) [0, 6, 7, 9] (fun d => [(5, .val (.i .i64) d)]) (fun d => []) ?_ ?_
     ·simp only [go_sem]
      obtain ⟨g0, h⟩ := aN h
      repeat (refine ⟨by omega, ?_⟩)
      refine ⟨fun hc => ?_, fun hc => ?_⟩
      ·replace h := gS hc h
       obtain ⟨g0, h⟩ := aN h
       repeat (refine ⟨by omega, ?_⟩)
       exact aX (((at_2 + (1 : Int)) + (1 : Int))) h rfl (by simp only [go_sem])
      ·replace h := gT hc h
       exact aX ((at_2 + (1 : Int))) h rfl (by simp only [go_sem])
     ·rintro at_9 h
      simp only [go_sem]
      replace h : sat (fK s_0 at_2 pow_4 all_3 at_9) _ := h
      unfold fK at h
      obtain ⟨g0, h⟩ := aN h
      repeat (refine ⟨by omega, ?_⟩)
      refine ⟨fun hc => ?_, fun hc => ?_⟩
      ·replace h := gS hc h
       exact aS hF [.tmp 2, .tmp 3, .tmp 4] rfl rfl rfl (aD h) (by simp only [bA, go_sem])
      ·replace h := gT hc h
       obtain ⟨g0, h⟩ := aN h
       obtain ⟨g1, h⟩ := aN h
       obtain ⟨g2, h⟩ := aN h
       repeat (refine ⟨by omega, ?_⟩)
       refine jB h (fun hc h => ?_) fun hc h => ?_
       ·exact aS hF [.tmp 2, .tmp 3, .tmp 4] rfl rfl rfl (aD h) (by simp only [bA, go_sem])
       ·refine cW hF (D := Int) (fun d => sat (fJ pow_4 at_9 s_0 all_3 d) Θ) [0, 5, 6, 7, 10] (fun d => [(11, .val (.i .i64) d)]) (fun d => []) ?_ ?_
        ·simp only [go_sem]
         refine ⟨fun hc => ?_, fun hc => ?_⟩
         ·replace h := gS hc h
          obtain ⟨g0, h⟩ := aN h
          repeat (refine ⟨by omega, ?_⟩)
          exact aX ((0 - (((cU (List.drop (at_9.toNat) (List.take ((at_9 + ((aC s_0 at_9).getD (0 : Int))).toNat) s_0))).getD ((0 : Int), (), ())).1))) h rfl (by simp only [go_sem])
         ·replace h := gT hc h
          exact aX ((((cU (List.drop (at_9.toNat) (List.take ((at_9 + ((aC s_0 at_9).getD (0 : Int))).toNat) s_0))).getD ((0 : Int), (), ())).1)) h rfl (by simp only [go_sem])
        ·rintro x_10 h
         simp only [go_sem]
         replace h : sat (fJ pow_4 at_9 s_0 all_3 x_10) _ := h
         unfold fJ at h
         obtain ⟨g0, h⟩ := aN h
         obtain ⟨g1, h⟩ := aN h
         repeat (refine ⟨by omega, ?_⟩)
         exact aX (((at_9 + ((aC s_0 at_9).getD (0 : Int))), (pow_4 + x_10))) h rfl (by simp only [go_sem])
    ·replace h := gT hc h
     exact aX ((at_2, pow_4)) h rfl (by simp only [go_sem])
   ·rintro ⟨at_7, pow_8⟩ h
    simp only [go_sem]
    replace h : sat (fI all_3 s_0 at_7 pow_8) _ := h
    unfold fI at h
    exact aS hF [.tmp 2, .tmp 3, .tmp 4] rfl rfl rfl (aD h) (by simp only [bA, go_sem])
attribute [go_sem] fZ
noncomputable def bR (s_0 : (List Nat)) : Option Bool :=
 ck (((aP s_0).isSome = true)) (some (((((aP s_0).getD (([] : List Nat), (0 : Int), false, ())).2).2).1))
def aD2 : PlR := ⟨[(0, .A [0]), (1, .A [5]), (2, .A [2])], []⟩
def aGv : Ty := .pair .str .unit
noncomputable def uU : aM := mSpec aGv (.one .bool) (fun x => bR x.1)
noncomputable def aGw : List (FuncId × aM) := [(61, fZ)]
theorem aMq : bU Tryz.prog GL aGw := .cons tT (by kernel_rfl) (.nil)
theorem aHL : gam aGw 61 = some fZ := rfl
attribute [go_sem] aGv aD2 aHL
set_option maxHeartbeats 4000000 in
theorem aLi : FOK Tryz.prog GL 23 uU := by
 refine cB (bL aMq) mix Tryz.func23 rfl (by kernel_rfl) (by decide) aD2 fun w0 S x Θ hw h hF => ?_
 obtain ⟨(s_0 : (List Nat)), u⟩ := x
 simp only [cA, go_sem]
 replace h : sat (bR s_0) _ := h
 unfold bR at h
 refine aH h fun g0 h => ?_
 exact aS hF [.tmp 2] rfl rfl rfl (aD h) (by simp only [bA, go_sem])
attribute [go_sem] uU
noncomputable def bT (s_0 : (List Nat)) : Option ((List Nat) × ((List Nat) × (Bool × Unit))) :=
 ck (((aP s_0).isSome = true)) (if ¬ ((((((aP s_0).getD (([] : List Nat), (0 : Int), false, ())).2).2).1) = true) then some (([] : List Nat), ([] : List Nat), false, ()) else ck (((cT (((aP s_0).getD (([] : List Nat), (0 : Int), false, ())).1)).isSome = true)) (ck (((aZ (10 : Nat) (max ((((aP s_0).getD (([] : List Nat), (0 : Int), false, ())).2).1) (0 : Int))).isSome = true)) (ck ((aEn ((cT (((aP s_0).getD (([] : List Nat), (0 : Int), false, ())).1)).getD ([] : List Nat)) ((aZ (10 : Nat) (max ((((aP s_0).getD (([] : List Nat), (0 : Int), false, ())).2).1) (0 : Int))).getD ([] : List Nat)))) (ck (I64 (0 - ((((aP s_0).getD (([] : List Nat), (0 : Int), false, ())).2).1))) (ck (((aZ (10 : Nat) (max (0 - ((((aP s_0).getD (([] : List Nat), (0 : Int), false, ())).2).1)) (0 : Int))).isSome = true)) (some ((aY ((cT (((aP s_0).getD (([] : List Nat), (0 : Int), false, ())).1)).getD ([] : List Nat)) ((aZ (10 : Nat) (max ((((aP s_0).getD (([] : List Nat), (0 : Int), false, ())).2).1) (0 : Int))).getD ([] : List Nat))), ((aZ (10 : Nat) (max (0 - ((((aP s_0).getD (([] : List Nat), (0 : Int), false, ())).2).1)) (0 : Int))).getD ([] : List Nat)), true, ())))))))
def aCr : PlR := ⟨[(0, .A [0]), (1, .A [5, 6, 7]), (2, .A [5, 6, 15]), (3, .A [2, 3, 4]), (4, .A [2, 3, 4])], []⟩
def aD3 : Ty := .pair .str .unit
noncomputable def sF : aM := mSpec aD3 (.tup (.pair (.sl (.u .u64)) (.pair (.sl (.u .u64)) (.pair .bool .unit)))) (fun x => bT x.1)
noncomputable def qT : List (FuncId × aM) := [(61, fZ), (63, eE), (64, lG), (65, jH)]
theorem aLj : bU Tryz.prog GL qT := .cons tT (by kernel_rfl) (.cons oQ (by kernel_rfl) (.cons aBa (by kernel_rfl) (.cons yA (by kernel_rfl) (.nil))))
theorem aGx : gam qT 61 = some fZ := rfl
theorem aGy : gam qT 63 = some eE := rfl
theorem aGz : gam qT 64 = some lG := rfl
theorem aGA : gam qT 65 = some jH := rfl
attribute [go_sem] aD3 aCr aGx aGy aGz aGA
set_option maxHeartbeats 4000000 in
theorem aJL : FOK Tryz.prog GL 53 sF := by
 refine cB (bL aLj) mix Tryz.func53 rfl (by kernel_rfl) (by decide) aCr fun w0 S x Θ hw h hF => ?_
 obtain ⟨(s_0 : (List Nat)), u⟩ := x
 simp only [cA, go_sem]
 replace h : sat (bT s_0) _ := h
 unfold bT at h
 refine aH h fun g0 h => ?_
 refine aL2 h (fun hc h => ?_) fun hc h => ?_
 ·exact aS hF [.tmp 2, .tmp 3, .tmp 4] rfl rfl rfl (aD h) (by simp only [bA, go_sem])
 ·refine aH h fun g0 h => aH h fun g1 h => aH h fun g2 h => aH h fun g3 h => aH h fun g4 h => ?_
  exact aS hF [.tmp 2, .tmp 3, .tmp 4] rfl rfl rfl (aD h) (by simp only [bA, go_sem])
attribute [go_sem] sF
noncomputable def bN (s_0 : (List Nat)) (p_1 : Int) : Option (((Bool × ((List Nat) × (Int × Unit))) × ((Bool × ((List Nat) × (Int × Unit))) × Unit)) × (Int × Unit)) :=
 ck (((bT s_0).isSome = true)) (if ¬ ((((((bT s_0).getD (([] : List Nat), ([] : List Nat), false, ())).2).2).1) = true) then some (((false, ([] : List Nat), (0 : Int), ()), (false, ([] : List Nat), (0 : Int), ()), ()), (6 : Int), ()) else if (p_1 < (1 : Int)) ∨ ((2000 : Int) < p_1) then some (((false, ([] : List Nat), (0 : Int), ()), (false, ([] : List Nat), (0 : Int), ()), ()), (1 : Int), ()) else ck (((bJ false (((bT s_0).getD (([] : List Nat), ([] : List Nat), false, ())).1) (0 : Int)).isSome = true)) (ck (((bJ false ((((bT s_0).getD (([] : List Nat), ([] : List Nat), false, ())).2).1) (0 : Int)).isSome = true)) (ck (((dQ (((bJ false (((bT s_0).getD (([] : List Nat), ([] : List Nat), false, ())).1) (0 : Int)).getD ((false, ([] : List Nat), (0 : Int), ()), (0 : Int), ())).1) (((bJ false ((((bT s_0).getD (([] : List Nat), ([] : List Nat), false, ())).2).1) (0 : Int)).getD ((false, ([] : List Nat), (0 : Int), ()), (0 : Int), ())).1) p_1 false).isSome = true)) (ck (((dQ (((bJ false (((bT s_0).getD (([] : List Nat), ([] : List Nat), false, ())).1) (0 : Int)).getD ((false, ([] : List Nat), (0 : Int), ()), (0 : Int), ())).1) (((bJ false ((((bT s_0).getD (([] : List Nat), ([] : List Nat), false, ())).2).1) (0 : Int)).getD ((false, ([] : List Nat), (0 : Int), ()), (0 : Int), ())).1) p_1 true).isSome = true)) (if (¬ (((((dQ (((bJ false (((bT s_0).getD (([] : List Nat), ([] : List Nat), false, ())).1) (0 : Int)).getD ((false, ([] : List Nat), (0 : Int), ()), (0 : Int), ())).1) (((bJ false ((((bT s_0).getD (([] : List Nat), ([] : List Nat), false, ())).2).1) (0 : Int)).getD ((false, ([] : List Nat), (0 : Int), ()), (0 : Int), ())).1) p_1 false).getD ((false, ([] : List Nat), (0 : Int), ()), (0 : Int), ())).2).1) = (0 : Int))) ∨ (¬ (((((dQ (((bJ false (((bT s_0).getD (([] : List Nat), ([] : List Nat), false, ())).1) (0 : Int)).getD ((false, ([] : List Nat), (0 : Int), ()), (0 : Int), ())).1) (((bJ false ((((bT s_0).getD (([] : List Nat), ([] : List Nat), false, ())).2).1) (0 : Int)).getD ((false, ([] : List Nat), (0 : Int), ()), (0 : Int), ())).1) p_1 true).getD ((false, ([] : List Nat), (0 : Int), ()), (0 : Int), ())).2).1) = (0 : Int))) then some (((false, ([] : List Nat), (0 : Int), ()), (false, ([] : List Nat), (0 : Int), ()), ()), (max ((((dQ (((bJ false (((bT s_0).getD (([] : List Nat), ([] : List Nat), false, ())).1) (0 : Int)).getD ((false, ([] : List Nat), (0 : Int), ()), (0 : Int), ())).1) (((bJ false ((((bT s_0).getD (([] : List Nat), ([] : List Nat), false, ())).2).1) (0 : Int)).getD ((false, ([] : List Nat), (0 : Int), ()), (0 : Int), ())).1) p_1 false).getD ((false, ([] : List Nat), (0 : Int), ()), (0 : Int), ())).2).1) ((((dQ (((bJ false (((bT s_0).getD (([] : List Nat), ([] : List Nat), false, ())).1) (0 : Int)).getD ((false, ([] : List Nat), (0 : Int), ()), (0 : Int), ())).1) (((bJ false ((((bT s_0).getD (([] : List Nat), ([] : List Nat), false, ())).2).1) (0 : Int)).getD ((false, ([] : List Nat), (0 : Int), ()), (0 : Int), ())).1) p_1 true).getD ((false, ([] : List Nat), (0 : Int), ()), (0 : Int), ())).2).1)), ()) else some (((((dQ (((bJ false (((bT s_0).getD (([] : List Nat), ([] : List Nat), false, ())).1) (0 : Int)).getD ((false, ([] : List Nat), (0 : Int), ()), (0 : Int), ())).1) (((bJ false ((((bT s_0).getD (([] : List Nat), ([] : List Nat), false, ())).2).1) (0 : Int)).getD ((false, ([] : List Nat), (0 : Int), ()), (0 : Int), ())).1) p_1 false).getD ((false, ([] : List Nat), (0 : Int), ()), (0 : Int), ())).1), (((dQ (((bJ false (((bT s_0).getD (([] : List Nat), ([] : List Nat), false, ())).1) (0 : Int)).getD ((false, ([] : List Nat), (0 : Int), ()), (0 : Int), ())).1) (((bJ false ((((bT s_0).getD (([] : List Nat), ([] : List Nat), false, ())).2).1) (0 : Int)).getD ((false, ([] : List Nat), (0 : Int), ()), (0 : Int), ())).1) p_1 true).getD ((false, ([] : List Nat), (0 : Int), ()), (0 : Int), ())).1), ()), (0 : Int), ()))))))
def aGB : PlR := ⟨[(0, .B [0, 1, 4]), (1, .A [1, 4, 6, 7, 8]), (2, .A [1, 4, 6, 7, 23]), (3, .B [4, 5]), (4, .A [1, 4, 6, 7, 27]), (5, .B [4, 5]), (6, .B [1, 4, 7, 9]), (7, .B [1, 4, 9, 11]), (8, .B [1, 4, 9, 11, 13, 14]), (9, .B [4, 13, 14, 15, 16]), (10, .A [4, 13, 14, 15, 16, 64]), (11, .B [4, 5]), (12, .B [4, 5])], []⟩
def aIG : Ty := .pair .str (.pair (.i .i64) .unit)
noncomputable def pX : aM := mSpec aIG (.tup (.pair (.pair (.pair .bool (.pair (.sl (.u .u64)) (.pair (.i .i64) .unit))) (.pair (.pair .bool (.pair (.sl (.u .u64)) (.pair (.i .i64) .unit))) .unit)) (.pair (.i .i64) .unit))) (fun x => bN x.1 x.2.1)
noncomputable def aAL : List (FuncId × aM) := [(53, sF), (54, kO), (55, qE)]
theorem aOv : bU Tryz.prog GL aAL := .cons aJL (by kernel_rfl) (.cons aAm (by kernel_rfl) (.cons aHI (by kernel_rfl) (.nil)))
theorem aJM : gam aAL 53 = some sF := rfl
theorem aJN : gam aAL 54 = some kO := rfl
theorem aJO : gam aAL 55 = some qE := rfl
attribute [go_sem] aIG aGB aJM aJN aJO
set_option maxHeartbeats 4000000 in
theorem aGC : FOK Tryz.prog GL 19 pX := by
 refine cB (bL aOv) mix Tryz.func19 rfl (by kernel_rfl) (by decide) aGB fun w0 S x Θ hw h hF => ?_
 obtain ⟨(s_0 : (List Nat)), (p_1 : Int), u⟩ := x
 simp only [cA, go_sem]
 replace h : sat (bN s_0 p_1) _ := h
 unfold bN at h
 refine aH h fun g0 h => ?_
 refine aL2 h (fun hc h => ?_) fun hc h => ?_
 ·exact aS hF [.cell 4 27, .tmp 5] rfl rfl rfl (aD h) (by simp only [bA, go_sem])
 ·refine ⟨fun hc => ?_, fun hc => ?_⟩
  ·replace h := gS hc h
   exact aS hF [.cell 4 27, .tmp 5] rfl rfl rfl (aD h) (by simp only [bA, go_sem])
  ·replace h := gT hc h
   refine aH h fun g0 h => ?_
   refine aH h fun g0 h => ?_
   refine aH h fun g0 h => ?_
   refine aH h fun g0 h => ?_
   refine ⟨fun hc => ?_, fun hc => ?_⟩
   ·replace h := gS hc h
    exact aS hF [.cell 4 27, .tmp 5] rfl rfl rfl (aD h) (by simp only [bA, go_sem])
   ·replace h := gT hc h
    exact aS hF [.cell 4 27, .tmp 5] rfl rfl rfl (aD h) (by simp only [bA, go_sem])
attribute [go_sem] pX
noncomputable def bC (s_0 : (List Nat)) : Option ((Bool × ((List Nat) × (Int × Unit))) × (Int × Unit)) :=
 ck (((aP s_0).isSome = true)) (if ¬ ((((((aP s_0).getD (([] : List Nat), (0 : Int), false, ())).2).2).1) = true) then some ((false, ([] : List Nat), (0 : Int), ()), (6 : Int), ()) else ck (((cT (((aP s_0).getD (([] : List Nat), (0 : Int), false, ())).1)).isSome = true)) (ck (((aZ (5 : Nat) (max ((((aP s_0).getD (([] : List Nat), (0 : Int), false, ())).2).1) (0 : Int))).isSome = true)) (ck ((aEn ((cT (((aP s_0).getD (([] : List Nat), (0 : Int), false, ())).1)).getD ([] : List Nat)) ((aZ (5 : Nat) (max ((((aP s_0).getD (([] : List Nat), (0 : Int), false, ())).2).1) (0 : Int))).getD ([] : List Nat)))) (ck (I64 (0 - ((((aP s_0).getD (([] : List Nat), (0 : Int), false, ())).2).1))) (ck (((aZ (5 : Nat) (max (0 - ((((aP s_0).getD (([] : List Nat), (0 : Int), false, ())).2).1)) (0 : Int))).isSome = true)) (ck ((mQ (aY ((cT (((aP s_0).getD (([] : List Nat), (0 : Int), false, ())).1)).getD ([] : List Nat)) ((aZ (5 : Nat) (max ((((aP s_0).getD (([] : List Nat), (0 : Int), false, ())).2).1) (0 : Int))).getD ([] : List Nat))) ((aZ (5 : Nat) (max (0 - ((((aP s_0).getD (([] : List Nat), (0 : Int), false, ())).2).1)) (0 : Int))).getD ([] : List Nat)))) (ck (((bJ false ((bB (aY ((cT (((aP s_0).getD (([] : List Nat), (0 : Int), false, ())).1)).getD ([] : List Nat)) ((aZ (5 : Nat) (max ((((aP s_0).getD (([] : List Nat), (0 : Int), false, ())).2).1) (0 : Int))).getD ([] : List Nat))) ((aZ (5 : Nat) (max (0 - ((((aP s_0).getD (([] : List Nat), (0 : Int), false, ())).2).1)) (0 : Int))).getD ([] : List Nat))).1) ((((aP s_0).getD (([] : List Nat), (0 : Int), false, ())).2).1)).isSome = true)) (if ((0 : Int) < ((((((bB (aY ((cT (((aP s_0).getD (([] : List Nat), (0 : Int), false, ())).1)).getD ([] : List Nat)) ((aZ (5 : Nat) (max ((((aP s_0).getD (([] : List Nat), (0 : Int), false, ())).2).1) (0 : Int))).getD ([] : List Nat))) ((aZ (5 : Nat) (max (0 - ((((aP s_0).getD (([] : List Nat), (0 : Int), false, ())).2).1)) (0 : Int))).getD ([] : List Nat))).2).1).length) : Nat) : Int)) ∨ (¬ (((((bJ false ((bB (aY ((cT (((aP s_0).getD (([] : List Nat), (0 : Int), false, ())).1)).getD ([] : List Nat)) ((aZ (5 : Nat) (max ((((aP s_0).getD (([] : List Nat), (0 : Int), false, ())).2).1) (0 : Int))).getD ([] : List Nat))) ((aZ (5 : Nat) (max (0 - ((((aP s_0).getD (([] : List Nat), (0 : Int), false, ())).2).1)) (0 : Int))).getD ([] : List Nat))).1) ((((aP s_0).getD (([] : List Nat), (0 : Int), false, ())).2).1)).getD ((false, ([] : List Nat), (0 : Int), ()), (0 : Int), ())).2).1) = (0 : Int))) then some ((false, ([] : List Nat), (0 : Int), ()), (6 : Int), ()) else some ((((bJ false ((bB (aY ((cT (((aP s_0).getD (([] : List Nat), (0 : Int), false, ())).1)).getD ([] : List Nat)) ((aZ (5 : Nat) (max ((((aP s_0).getD (([] : List Nat), (0 : Int), false, ())).2).1) (0 : Int))).getD ([] : List Nat))) ((aZ (5 : Nat) (max (0 - ((((aP s_0).getD (([] : List Nat), (0 : Int), false, ())).2).1)) (0 : Int))).getD ([] : List Nat))).1) ((((aP s_0).getD (([] : List Nat), (0 : Int), false, ())).2).1)).getD ((false, ([] : List Nat), (0 : Int), ()), (0 : Int), ())).1), (0 : Int), ())))))))))
def aCs : PlR := ⟨[(0, .B [0, 2]), (1, .A [2, 4, 5, 6]), (2, .A [2, 4, 5, 18]), (3, .B [2, 3]), (4, .A [2, 5, 7, 8]), (5, .B [2, 8, 9, 10]), (6, .A [2, 9, 46]), (7, .B [2, 3]), (8, .B [2, 3])], []⟩
def aD4 : Ty := .pair .str .unit
noncomputable def sG : aM := mSpec aD4 (.tup (.pair (.pair .bool (.pair (.sl (.u .u64)) (.pair (.i .i64) .unit))) (.pair (.i .i64) .unit))) (fun x => bC x.1)
noncomputable def mI : List (FuncId × aM) := [(54, kO), (61, fZ), (62, iC), (63, eE), (64, lG), (65, jH)]
theorem aLk : bU Tryz.prog GL mI := .cons aAm (by kernel_rfl) (.cons tT (by kernel_rfl) (.cons vJ (by kernel_rfl) (.cons oQ (by kernel_rfl) (.cons aBa (by kernel_rfl) (.cons yA (by kernel_rfl) (.nil))))))
theorem aGD : gam mI 54 = some kO := rfl
theorem aGE : gam mI 61 = some fZ := rfl
theorem aGF : gam mI 62 = some iC := rfl
theorem aGG : gam mI 63 = some eE := rfl
theorem aGH : gam mI 64 = some lG := rfl
theorem aGI : gam mI 65 = some jH := rfl
attribute [go_sem] aD4 aCs aGD aGE aGF aGG aGH aGI
set_option maxHeartbeats 4000000 in
theorem aJP : FOK Tryz.prog GL 21 sG := by
 refine cB (bL aLk) mix Tryz.func21 rfl (by kernel_rfl) (by decide) aCs fun w0 S x Θ hw h hF => ?_
 obtain ⟨(s_0 : (List Nat)), u⟩ := x
 simp only [cA, go_sem]
 replace h : sat (bC s_0) _ := h
 unfold bC at h
 refine aH h fun g0 h => ?_
 refine aL2 h (fun hc h => ?_) fun hc h => ?_
 ·exact aS hF [.cell 2 25, .tmp 3] rfl rfl rfl (aD h) (by simp only [bA, go_sem])
 ·refine aH h fun g0 h => aH h fun g1 h => aH h fun g2 h => aH h fun g3 h => aH h fun g4 h => aH h fun g5 h => ?_
  refine aH h fun g0 h => ?_
  refine ⟨fun hc => ?_, fun hc => ?_⟩
  ·replace h := gS hc h
   exact aS hF [.cell 2 25, .tmp 3] rfl rfl rfl (aD h) (by simp only [bA, go_sem])
  ·replace h := gT hc h
   exact aS hF [.cell 2 25, .tmp 3] rfl rfl rfl (aD h) (by simp only [bA, go_sem])
attribute [go_sem] sG
end Nu
end Go.Proofs
namespace Go.Proofs
open Go.Shelf
def Tryz.lays285_ren : Go.Shelf.Ren := ⟨fun | 285 => 165 | n => n, fun | 37 => 77 | 53 => 54 | 3 => 3 | 4 => 4 | 51 => 96 | 9 => 9 | 5 => 5 | 0 => 0 | n => n, fun | n => n⟩
theorem Tryz.lays285 : Go.Proofs.Lays.n285 Tryz.prog Tryz.lays285_ren := {
 mixed := by kernel_rfl
 f285 := Tryz.func165.trans (congrArg some (by kernel_rfl))
 t0 := Tryz.underlying0
 a0 := Tryz.isAgg0
 z0 := Tryz.sizeOf0
 v0 := Tryz.zeroValue0
 t3 := Tryz.underlying3
 a3 := Tryz.isAgg3
 z3 := Tryz.sizeOf3
 v3 := Tryz.zeroValue3
 t4 := Tryz.underlying4
 a4 := Tryz.isAgg4
 z4 := Tryz.sizeOf4
 v4 := Tryz.zeroValue4
 t5 := Tryz.underlying5
 a5 := Tryz.isAgg5
 z5 := Tryz.sizeOf5
 v5 := Tryz.zeroValue5
 t9 := Tryz.underlying9
 a9 := Tryz.isAgg9
 z9 := Tryz.sizeOf9
 v9 := Tryz.zeroValue9
 t37 := Tryz.underlying77
 a37 := Tryz.isAgg77
 z37 := Tryz.sizeOf77
 v37 := Tryz.zeroValue77
 t51 := Tryz.underlying96
 a51 := Tryz.isAgg96
 z51 := Tryz.sizeOf96
 v51 := Tryz.zeroValue96
 t53 := Tryz.underlying54
 a53 := Tryz.isAgg54
 z53 := Tryz.sizeOf54
 v53 := Tryz.zeroValue54 }
open Go.Vc
set_option maxRecDepth 20000
namespace Nu
def dgs (n u : Nat) : List Nat := (List.range n).map fun t => 48 + u / 10 ^ (n - 1 - t) % 10
theorem nJ (n u : Nat) : (dgs n u).length = n := by simp [dgs]
noncomputable def dJ (uo un u : Nat) (xs : List Nat) : Option (List Nat) :=
 ck (uo + un ≤ 24) (ck (u < 10 ^ un) (some (xs.take uo ++ dgs un u ++ xs.drop (uo + un))))
noncomputable def jS : lO where
 D := Nat × Nat × Nat × (List Nat) × ((List Nat))
 av := fun d => [.sub 0 1 d.1 d.2.1, .val (.u .u64) d.2.2.1]
 hp := fun d => [.box 24 (.val (.arr 24 (.u .u8)) d.2.2.2.1)]
 m := 1
 pre := fun d => dJ d.1 d.2.1 d.2.2.1 d.2.2.2.1 = some d.2.2.2.2
 out := fun d => (fun r : (List Nat) => .ret (.tup []) [.box 24 (.val (.arr 24 (.u .u8)) (r))]) d.2.2.2.2
attribute [go_sem] jS
theorem aD5 (xs : List Nat) : (xs.map (fun (x : Nat) => [Value.int .u8 (x : Int)])).flatten = xs.map (fun (x : Nat) => Value.int .u8 (x : Int)) := by
 induction xs with
 | nil => rfl
 | cons x r ih => simp [ih]
theorem aRt {w : World} {S : Nat → Prop} {m : Nat} {xs : List Nat} {cs : List Value} (h : aU w S (.arr m (.u .u8)) xs cs) : xs.length = m ∧ cs = xs.map (fun (x : Nat) => Value.int .u8 (x : Int)) ∧ ∀ x ∈ xs, x < 256 := by
 obtain ⟨hl, css, rfl, hcl, hr⟩ := h
 have hl : xs.length = m := hl
 have key : ∀ i (h : i < xs.length) (h' : i < css.length), css[i] = [Value.int .u8 (xs[i] : Int)] ∧ xs[i] < 256 := fun i h h' => by
  obtain ⟨h1, _, h3⟩ := hr i h h'
  refine ⟨h1, ?_⟩
  simp only [IntKind.max, IntKind.signed, IntKind.bits] at h3
  simp at h3
  omega
 refine ⟨hl, ?_, fun x hx => ?_⟩
 ·have e : css = xs.map (fun (x : Nat) => [Value.int .u8 (x : Int)]) := by
   apply List.ext_getElem
   ·simp; exact hcl
   ·intro i h1 h2
    have := (key i (by simpa using h2) h1).1
    simpa using this
  rw [e, aD5]
 ·obtain ⟨i, hi, rfl⟩ := List.getElem_of_mem hx
  exact (key i hi (by have : css.length = xs.length := hcl; omega)).2
theorem aTj {w : World} {S : Nat → Prop} {m : Nat} {xs : List Nat} (hl : xs.length = m) (hx : ∀ x ∈ xs, x < 256) : aU w S (.arr m (.u .u8)) xs (xs.map (fun (x : Nat) => Value.int .u8 (x : Int))) := by
 refine ⟨hl, xs.map (fun (x : Nat) => [Value.int .u8 (x : Int)]), (aD5 xs).symm, by simp, fun i h h' => ?_⟩
 ·have := hx xs[i] (List.getElem_mem h)
  refine ⟨by simp, rfl, ?_⟩
  simp only [IntKind.max, IntKind.signed, IntKind.bits]
  simp
  omega
open Go.Sort in
theorem aOw {cells : Array Value} {xs : List Nat} {uo un u v' : Nat} {dk : Array UInt8} (hc : cells.toList = xs.map (fun (x : Nat) => Value.int .u8 (x : Int))) (hle : uo + un ≤ xs.length) (hF : Lib.FmtInv un u 0 v' dk) :
  (putCells (fun (b : UInt8) => Value.int .u8 (b.toNat : Int)) uo dk cells).toList = (xs.take uo ++ dgs un u ++ xs.drop (uo + un)).map (fun (x : Nat) => Value.int .u8 (x : Int)) := by
 have hsz : cells.size = xs.length := by rw [← Array.length_toList, hc, List.length_map]
 have hdk := hF.size
 apply List.ext_getElem
 ·simp [putCells, nJ, hsz]; omega
 ·intro i h1 h2
  have hi : i < xs.length := by simpa [putCells, hsz] using h1
  have hci : cells[i]'(by omega) = Value.int .u8 (xs[i] : Int) := by
   have : cells.toList[i]'(by rw [Array.length_toList]; omega) = Value.int .u8 (xs[i] : Int) := by simp [hc]
   simpa using this
  simp only [putCells, Array.toList_mapIdx, List.getElem_mapIdx, Array.getElem_toList, List.getElem_map]
  by_cases hr : uo ≤ i ∧ i < uo + dk.size
  ·rw [if_pos hr, hF.done (i - uo) (Nat.zero_le _) (by omega)]
   have : (xs.take uo ++ dgs un u ++ xs.drop (uo + un))[i]'(by simpa using h2) = 48 + u / 10 ^ (un - 1 - (i - uo)) % 10 := by
    rw [List.getElem_append_left (by simp [nJ]; omega), List.getElem_append_right (by simp; omega)]
    simp [dgs, Nat.min_eq_left (show uo ≤ xs.length by omega)]
   rw [this]
   have hm := Nat.mod_lt (u / 10 ^ (un - 1 - (i - uo))) (show 0 < 10 by decide)
   simp only [Lib.dg, UInt8.toNat_ofNat']
   rw [Nat.mod_eq_of_lt (by omega)]
  ·rw [if_neg hr, hci]
   rcases Nat.lt_or_ge i uo with h | h
   ·rw [List.getElem_append_left (by simp [nJ]; omega), List.getElem_append_left (by simp; omega)]
    simp
   ·rw [List.getElem_append_right (by simp [nJ]; omega)]
    simp only [List.length_append, List.length_take, nJ, List.getElem_drop]
    congr 3
    omega
open Go.Sort in
theorem vL : GOK Tryz.prog GL 165 jS := by
 rintro c w ⟨uo, un, u, xs, r⟩ vs hpre ⟨good, glob, len, val⟩
 have hpre : dJ uo un u xs = some r := hpre
 unfold dJ at hpre
 obtain ⟨h1, hpre⟩ := aI hpre
 obtain ⟨h2, hpre⟩ := aI hpre
 have hr : xs.take uo ++ dgs un u ++ xs.drop (uo + un) = r := Option.some.inj hpre
 obtain ⟨b, cells, e, hhd, hheap, hsz, hcl⟩ := good.objs 0 _ rfl
 obtain ⟨hl, hcs, hx⟩ := aRt hcl
 have hl : xs.length = 24 := hl
 have hcs : cells.toList = xs.map (fun (x : Nat) => Value.int .u8 (x : Int)) := hcs
 have hx : ∀ x ∈ xs, x < 256 := hx
 have hsz : cells.size = 24 := hsz
 have hv0 := val 0 (by show 0 < 2; decide) (by rw [len]; show 0 < 2; decide)
 have hv1 := val 1 (by show 1 < 2; decide) (by rw [len]; show 1 < 2; decide)
 obtain ⟨_, hn, b', cap, hb', e0⟩ := aEU (i := 0) (s := 1) (off := uo) (n := un) hv0
 obtain ⟨e1, _, hu⟩ := zC (k := .u64) (n := u) hv1
 rw [hhd] at hb'
 simp only [aW, Option.some.injEq] at hb'
 subst hb'
 have hvs : vs = #[.slice (some ⟨b, uo * 1, none⟩) un cap, .int .u64 (u : Int)] := by
  have hlen : vs.toList.length = 2 := len
  rw [← Array.toList_inj]
  apply List.ext_getElem
  ·exact hlen
  ·intro i a1 a2
   match i, a2 with
   | 0, _ => exact e0
   | 1, _ => exact e1
 have hd : (((xs.drop uo).take un).map UInt8.ofNat).toArray.size = un := by simp; omega
 have hcell : ∀ j (hj : j < xs.length), w.cell? ⟨b, j, none⟩ = some (.int .u8 (xs[j] : Int)) := fun j hj => by
  have hj2 : j < cells.size := by omega
  have : cells[j] = Value.int .u8 (xs[j] : Int) := by
   have : cells.toList[j]'(by rw [Array.length_toList]; omega) = Value.int .u8 (xs[j] : Int) := by simp [hcs]
   simpa using this
  simp [World.cell?, hheap, hj2, this]
 have hH : Holds (fun (b : UInt8) => Value.int .u8 (b.toNat : Int)) w b uo (((xs.drop uo).take un).map UInt8.ofNat).toArray := fun j hj => by
  rw [hd] at hj
  have hj2 : uo + j < xs.length := by omega
  refine ⟨?_, ?_⟩
  ·rw [hcell _ hj2]
   have hlt := hx xs[uo + j] (List.getElem_mem hj2)
   have : (((xs.drop uo).take un).map UInt8.ofNat).toArray[j]! = UInt8.ofNat xs[uo + j] := by
    rw [getElem!_pos _ j (by rw [hd]; exact hj)]
    simp
   rw [this]
   simp only [UInt8.toNat_ofNat']
   rw [Nat.mod_eq_of_lt (by omega)]
  ·simp [World.frozen?, hheap]
 have hB : eK .u64 = 18446744073709551616 := by decide +kernel
 have key := Any.internal_strconv_formatBase10 Tryz.lays285 b uo cap u _ w hH (by rw [hd]; exact h2) (by omega) (by rw [hd]; omega)
 rw [hd] at key
 rw [hvs, Nat.mul_one]
 refine Calls.mono (f := 165) key ?_
 rintro e w' ⟨rfl, n, v', dk, rfl, hF⟩
 refine ⟨c, .tuple #[], rfl, ?_, ?_⟩
 ·have hbl : b < w.heap.size := (Array.getElem?_eq_some_iff.1 hheap).1
  have hpc := aOw (uo := uo) (xs := xs) (u := u) (dk := dk) (un := un) hcs (by omega) hF
  have hheap' : ((putRow (fun (b : UInt8) => Value.int .u8 (b.toNat : Int)) w b uo dk).drewN n).heap[b]? = some (.cells (putCells (fun (b : UInt8) => Value.int .u8 (b.toNat : Int)) uo dk cells) e (0, 0)) := by
   show (w.heap.modify b (onCells _))[b]? = _
   rw [Array.getElem?_modify, if_pos rfl, hheap]
   rfl
  have hoth : ∀ k, k ≠ b → ((putRow (fun (b : UInt8) => Value.int .u8 (b.toNat : Int)) w b uo dk).drewN n).heap[k]? = w.heap[k]? := fun k hk => by
   show (w.heap.modify b (onCells _))[k]? = _
   rw [Array.getElem?_modify, if_neg (fun h => hk h.symm)]
  have hsize : ((putRow (fun (b : UInt8) => Value.int .u8 (b.toNat : Int)) w b uo dk).drewN n).heap.size = w.heap.size := by
   show (w.heap.modify b (onCells _)).size = _
   simp
  have hnS : ¬ c.S b := (good.own 0 _ b rfl (by show aW (c.hd 0) = some b; rw [hhd]; rfl)).2.2
  refine ⟨good.n, ⟨rfl, rfl, rfl, Nat.le_of_eq hsize.symm, fun k hk hM => hoth k (fun hkb => hM ?_)⟩, fun k hk => by rw [hsize]; exact good.sfin k hk, good.src, fun i o hio => ?_, fun i o k hio hk => ?_, fun i j oi oj k hi hj hbi hbj => ?_, good.root⟩
  ·subst hkb
   exact ⟨0, _, rfl, by show aW (c.hd 0) = some k; rw [hhd]; rfl⟩
  ·match i, hio with
   | 0, hio =>
    cases hio
    refine ⟨b, _, e, hhd, hheap', ?_, ?_⟩
    ·simp [putCells, hsz]
    ·show aU _ c.S (.arr 24 (.u .u8)) r _
     rw [hpc, hr]
     have hrl : r.length = 24 := by rw [← hr]; simp [nJ]; omega
     refine aTj hrl (fun x hxr => ?_)
     rw [← hr] at hxr
     rcases List.mem_append.1 hxr with hxr | hxr
     ·rcases List.mem_append.1 hxr with hxr | hxr
      ·exact hx x (List.mem_of_mem_take hxr)
      ·obtain ⟨t, _, rfl⟩ := List.mem_map.1 hxr
       have := Nat.mod_lt (u / 10 ^ (un - 1 - t)) (show 0 < 10 by decide)
       omega
     ·exact hx x (List.mem_of_mem_drop hxr)
   | i + 1, hio => cases hio
  ·match i, hio with
   | 0, hio =>
    cases hio
    have := good.own 0 _ k rfl hk
    rw [hsize]; exact this
   | i + 1, hio => cases hio
  ·match i, j, hi, hj with
   | 0, 0, _, _ => rfl
   | 0, j + 1, _, hj => cases hj
   | i + 1, _, hi, _ => cases hi
 ·exact ⟨[], rfl, rfl, fun i h1 _ => by cases h1⟩
end Nu
end Go.Proofs
