import Derived.Test.YtabdejmolnikaaaGreatDoorZS1
import Derived.Test.YtabdejmolnikaaaGreatDoorZL5
import Derived.Shelf.Strconv.Itoa2
set_option linter.unusedVariables false
set_option linter.unusedSimpArgs false
namespace Go.Proofs
open Go.Vc
set_option maxRecDepth 20000
namespace Nu
structure DgN (X V P v1 v0 U2 U1 U0 : Nat) : Prop where
 hP : 0 < P
 hX : X / P = (U2 * 18446744073709551616 + U1) * 18446744073709551616 + U0
 hV : V / P = v1 * 18446744073709551616 + v0
 v1l : 9223372036854775808 ≤ v1
 v1h : v1 < 18446744073709551616
 v0h : v0 < 18446744073709551616
 u2h : U2 < 18446744073709551616
 u1h : U1 < 18446744073709551616
 u0h : U0 < 18446744073709551616
 hq : X < 18446744073709551616 * V
variable {X V P v1 v0 U2 U1 U0 : Nat}
theorem aYQ (h : DgN X V P v1 v0 U2 U1 U0) : U2 ≤ v1 := by
 have h1 : V < (V / P + 1) * P := by rw [Nat.mul_comm]; exact Nat.lt_mul_div_succ V h.hP
 have h2 : X / P < 18446744073709551616 * (V / P + 1) := by
  refine (Nat.div_lt_iff_lt_mul h.hP).2 (Nat.lt_of_lt_of_le h.hq ?_)
  rw [Nat.mul_assoc]
  exact Nat.mul_le_mul_left _ (Nat.le_of_lt h1)
 rw [h.hX, h.hV] at h2
 have a := h.v0h
 have b := h.u0h
 have c := h.u1h
 omega
theorem aYd (h : DgN X V P v1 v0 U2 U1 U0) : X / V * (v1 * 18446744073709551616 + v0) ≤ (U2 * 18446744073709551616 + U1) * 18446744073709551616 + U0 := by
 rw [← h.hX, ← h.hV]
 refine (Nat.le_div_iff_mul_le h.hP).2 ?_
 rw [Nat.mul_assoc]
 exact Nat.le_trans (Nat.mul_le_mul_left _ (Nat.div_mul_le_self V P)) (Nat.div_mul_le_self X V)
theorem mul_two (x v1 v0 : Nat) : x * (v1 * 18446744073709551616 + v0) = x * v1 * 18446744073709551616 + x * v0 := by rw [Nat.mul_add, Nat.mul_assoc]
theorem aYR (h : DgN X V P v1 v0 U2 U1 U0) : X / V ≤ (U2 * 18446744073709551616 + U1) / v1 := by
 refine (Nat.le_div_iff_mul_le (by have := h.v1l; omega)).2 ?_
 have h1 := aYd h
 rw [mul_two] at h1
 have b := h.u0h
 generalize X / V * v1 = A at *
 generalize X / V * v0 = C at *
 omega
theorem aYS (h : DgN X V P v1 v0 U2 U1 U0) : X / V < 18446744073709551616 := (Nat.div_lt_iff_lt_mul (by
 have := h.hq
 rcases Nat.eq_zero_or_pos V with h0 | h0
 ·subst h0; simp at this
 ·exact h0)).2 h.hq
theorem aTd (h : DgN X V P v1 v0 U2 U1 U0) {x : Nat} (hx : x < 18446744073709551616) (hl : x * (v1 * 18446744073709551616 + v0) ≤ (U2 * 18446744073709551616 + U1) * 18446744073709551616 + U0) : x ≤ X / V + 1 := by
 rcases x with _ | y
 ·exact Nat.zero_le _
 refine Nat.succ_le_succ ?_
 have hVp : 0 < V := by
  rcases Nat.eq_zero_or_pos V with h0 | h0
  ·have := h.hq; subst h0; simp at this
  ·exact h0
 refine (Nat.le_div_iff_mul_le hVp).2 ?_
 rw [← h.hX, ← h.hV] at hl
 have e := Nat.div_add_mod V P
 have m := Nat.mod_lt V h.hP
 have h1 : (y + 1) * (V / P) * P ≤ X := Nat.le_trans (Nat.mul_le_mul_right P hl) (Nat.div_mul_le_self X P)
 have h2 : y * (V % P) ≤ 18446744073709551616 * P := Nat.mul_le_mul (by omega) (Nat.le_of_lt m)
 have h3 : 18446744073709551616 * P ≤ V / P * P := Nat.mul_le_mul_right _ (by rw [h.hV]; have := h.v1l; omega)
 have h4 : y * V = y * (V / P) * P + y * (V % P) := by
  conv => lhs; rw [← e]
  rw [Nat.mul_add, Nat.mul_comm P, Nat.mul_assoc]
 rw [h4]
 rw [Nat.add_mul, Nat.add_mul, Nat.one_mul] at h1
 generalize y * (V / P) * P = A at *
 generalize y * (V % P) = C at *
 generalize V / P * P = D at *
 generalize 18446744073709551616 * P = E at *
 omega
structure DgL (v1 U2 U1 Q x rest over : Nat) : Prop where
 eq : x * v1 + (rest + over * 18446744073709551616) = U2 * 18446744073709551616 + U1
 r1 : rest < 18446744073709551616
 o1 : over ≤ 1
 x1 : x < 18446744073709551616
 ge : Q ≤ x
theorem aVS {A C hi lo r u2 u1 u0 : Nat} (d : 18446744073709551616 * hi + lo = C) (m : lo < 18446744073709551616) (e : A + (r + 0 * 18446744073709551616) = u2 * 18446744073709551616 + u1) (hr : r < 18446744073709551616) (hu : u0 < 18446744073709551616) : (hi < r ∨ hi = r ∧ lo ≤ u0) ↔ A * 18446744073709551616 + C ≤ (u2 * 18446744073709551616 + u1) * 18446744073709551616 + u0 := by
 have e2 : (u2 * 18446744073709551616 + u1) * 18446744073709551616 = A * 18446744073709551616 + r * 18446744073709551616 := by rw [← e, Nat.zero_mul, Nat.add_zero, Nat.add_mul]
 rw [e2]
 omega
theorem aVT {A r v1 u2 u1 : Nat} (e : A + 1 * v1 + (r + 0 * 18446744073709551616) = u2 * 18446744073709551616 + u1) : A + ((r + v1 + 0) % 18446744073709551616 + (r + v1 + 0) / 18446744073709551616 * 18446744073709551616) = u2 * 18446744073709551616 + u1 := by
 have d := Nat.div_add_mod (r + v1 + 0) 18446744073709551616
 omega
theorem aVU {Q x rest : Nat} (hv0 : v0 < 18446744073709551616) (hu0 : U0 < 18446744073709551616) (h : DgL v1 U2 U1 Q x rest 0) : (x * v0 / 18446744073709551616 < rest ∨ x * v0 / 18446744073709551616 = rest ∧ x * v0 % 18446744073709551616 ≤ U0) ↔ x * (v1 * 18446744073709551616 + v0) ≤ (U2 * 18446744073709551616 + U1) * 18446744073709551616 + U0 := by
 have e := h.eq
 rw [mul_two]
 have d := Nat.div_add_mod (x * v0) 18446744073709551616
 have m := Nat.mod_lt (x * v0) (show 0 < 18446744073709551616 by decide)
 exact aVS d m e h.r1 hu0
theorem aXq {Q x rest : Nat} (hv0 : v0 < 18446744073709551616) (h : DgL v1 U2 U1 Q x rest 1) : x * (v1 * 18446744073709551616 + v0) ≤ (U2 * 18446744073709551616 + U1) * 18446744073709551616 + U0 := by
 have e := h.eq
 have r := h.r1
 have p : x * v0 ≤ 18446744073709551615 * 18446744073709551615 := Nat.mul_le_mul (by have := h.x1; omega) (by omega)
 rw [mul_two]
 generalize x * v1 = A at *
 generalize x * v0 = C at *
 omega
theorem aVV {Q x rest : Nat} (hv1 : v1 < 18446744073709551616) (hQ : Q * (v1 * 18446744073709551616 + v0) ≤ (U2 * 18446744073709551616 + U1) * 18446744073709551616 + U0) (h : DgL v1 U2 U1 Q x rest 0) (hc : ¬ x * (v1 * 18446744073709551616 + v0) ≤ (U2 * 18446744073709551616 + U1) * 18446744073709551616 + U0) :
  gQ .u64 x 1 = x - 1 ∧ x - 1 < x ∧ DgL v1 U2 U1 Q (x - 1) ((rest + v1 + 0) % 18446744073709551616) ((rest + v1 + 0) / 18446744073709551616) := by
 have hlt : Q < x := by
  refine Nat.lt_of_mul_lt_mul_right (a := v1 * 18446744073709551616 + v0) ?_
  omega
 have e := h.eq
 have r := h.r1
 have x1 := h.x1
 obtain ⟨y, rfl⟩ : ∃ y, x = y + 1 := ⟨x - 1, by omega⟩
 rw [Nat.add_mul] at e
 refine ⟨aPL x1 (by omega), by omega, ⟨?_, Nat.mod_lt _ (by decide), by omega, by omega, by omega⟩⟩
 exact aVT e
theorem aVW {v o : List Nat} {j un : Nat} (hn : 2 ≤ v.length) (hs : v.length ≤ 9000000000000) (hu : un = v.length + 1) (ho : j + un ≤ o.length)
  (h : DgN X V P (v.getD (v.length - 1) 0) (v.getD (v.length - 2) 0) U2 U1 (o.getD (j + (v.length - 2)) 0)) {x rest over : Nat} (hi : DgL (v.getD (v.length - 1) 0) U2 U1 (X / V) x rest over) :
  ∃ e, cE (fun d : Nat × Nat × Nat => jQ v un j o d.1 d.2.1 d.2.2) (x, rest, over) = some e ∧ X / V ≤ e ∧ e ≤ X / V + 1 ∧ e < 18446744073709551616 := by
 have e1 : ((v.length : Int) - 1).toNat = v.length - 1 := by omega
 have e2 : ((v.length : Int) - 2).toNat = v.length - 2 := by omega
 refine cT (step := fun d : Nat × Nat × Nat => jQ v un j o d.1 d.2.1 d.2.2) (I := fun d => DgL (v.getD (v.length - 1) 0) U2 U1 (X / V) d.1 d.2.1 d.2.2) (fun d => d.1) (fun e => X / V ≤ e ∧ e ≤ X / V + 1 ∧ e < 18446744073709551616) ?_ (x, rest, over) hi
 rintro ⟨x, rest, over⟩ hi
 have hi : DgL (v.getD (v.length - 1) 0) U2 U1 (X / V) x rest over := hi
 show (∃ d', jQ v un j o x rest over = _ ∧ _) ∨ ∃ e, jQ v un j o x rest over = _ ∧ _
 unfold jQ
 rw [e1, e2]
 by_cases h0 : over = 0
 ·subst h0
  have ht := aVU h.v0h h.u0h hi
  rw [if_pos rfl]
  by_cases hc : x * (v.getD (v.length - 1) 0 * 18446744073709551616 + v.getD (v.length - 2) 0) ≤ (U2 * 18446744073709551616 + U1) * 18446744073709551616 + o.getD (j + (v.length - 2)) 0
  ·right
   refine ⟨x, ?_, hi.ge, aTd h hi.x1 hc, hi.x1⟩
   refine aA (by constructor <;> omega) (aA (by constructor <;> omega) (aA (fun _ _ => by constructor <;> omega) (aA (fun _ _ => by omega) ?_)))
   exact (if_pos (ht.2 hc))
  ·left
   obtain ⟨s1, s2, s3⟩ := aVV h.v1h (aYd h) hi hc
   refine ⟨(x - 1, (rest + v.getD (v.length - 1) 0 + 0) % 18446744073709551616, (rest + v.getD (v.length - 1) 0 + 0) / 18446744073709551616), ?_, s3, s2⟩
   refine aA (by constructor <;> omega) (aA (by constructor <;> omega) (aA (fun _ _ => by constructor <;> omega) (aA (fun _ _ => by omega) ?_)))
   refine (if_neg (fun hh => hc (ht.1 hh))).trans ?_
   rw [s1]
   exact aA (by constructor <;> omega) (aA (by constructor <;> omega) (aA (Nat.zero_le _) rfl))
 ·right
  have h1 : over = 1 := by have := hi.o1; omega
  subst h1
  exact ⟨x, by rw [if_neg h0], hi.ge, aTd h hi.x1 (aXq h.v0h hi), hi.x1⟩
end Nu
end Go.Proofs
namespace Go.Proofs
open Go.Vc
set_option maxRecDepth 20000
namespace Nu
theorem aQe {x y c b o lo hi z c' d b' : Nat} (e : 18446744073709551616 * hi + lo = x * y) (hlo : lo < 18446744073709551616) (hp : x * y ≤ 18446744073709551615 * 18446744073709551615) (hc : c < 18446744073709551616) (hb : b ≤ 1) (ho : o < 18446744073709551616)
  (hz : z = (lo + c + 0) % 18446744073709551616) (hc' : c' = (hi + (lo + c + 0) / 18446744073709551616) % 18446744073709551616) (hd : d = (o + 18446744073709551616 - z - b) % 18446744073709551616) (hb' : b' = if o < z + b then 1 else 0) :
  d + x * y + c + b = o + 18446744073709551616 * (c' + b') ∧ d < 18446744073709551616 ∧ c' < 18446744073709551616 ∧ b' ≤ 1 := by
 generalize x * y = w at *
 subst hz hc' hd hb'
 split <;> omega
theorem aYT {N N' N0 Q R P o d c b c' b' x y t : Nat} (hP : P = Q * R) (h1 : N' + P * o = N + P * d) (h2 : N + Q * x * t = N0 + P * (c + b)) (h3 : d + x * y + c + b = o + 18446744073709551616 * (c' + b')) : N' + Q * x * (t + R * y) = N0 + P * 18446744073709551616 * (c' + b') := by
 have e := congrArg (P * ·) h3
 simp only [Nat.mul_add] at e
 have e2 : P * (x * y) = Q * x * (R * y) := by
  rw [hP, Nat.mul_assoc, Nat.mul_assoc]; congr 1; rw [Nat.mul_left_comm]
 rw [Nat.mul_add] at h2 ⊢
 rw [Nat.mul_assoc P 18446744073709551616, Nat.mul_add 18446744073709551616, Nat.mul_add P]
 omega
theorem aYU {N N' N0 Q R P o d c c' y t : Nat} (hP : P = Q * R) (h1 : N' + P * o = N + P * d) (h2 : N + P * c = N0 + Q * t) (h3 : d + 18446744073709551616 * c' = o + y + c) : N' + P * 18446744073709551616 * c' = N0 + Q * (t + R * y) := by
 have e := congrArg (P * ·) h3
 simp only [Nat.mul_add] at e
 have e2 : P * y = Q * (R * y) := by rw [hP, Nat.mul_assoc]
 rw [Nat.mul_add, Nat.mul_assoc P 18446744073709551616]
 omega
structure MsI (v u : List Nat) (x j : Nat) (c b : Nat) (i : Int) (w : List Nat) : Prop where
 i0 : 0 ≤ i
 i1 : i ≤ v.length
 len : w.length = u.length
 lm : Lm w
 c1 : c < 18446744073709551616
 b1 : b ≤ 1
 rest : w.drop (j + i.toNat) = u.drop (j + i.toNat)
 sum : nv w + 18446744073709551616 ^ j * x * nv (v.take i.toNat) = nv u + 18446744073709551616 ^ (j + i.toNat) * (c + b)
structure AbI (v u : List Nat) (j : Nat) (c : Nat) (i : Int) (w : List Nat) : Prop where
 i0 : 0 ≤ i
 i1 : i ≤ v.length
 len : w.length = u.length
 lm : Lm w
 c1 : c ≤ 1
 rest : w.drop (j + i.toNat) = u.drop (j + i.toNat)
 sum : nv w + 18446744073709551616 ^ (j + i.toNat) * c = nv u + 18446744073709551616 ^ j * nv (v.take i.toNat)
theorem aVX {v u : List Nat} {x j c b : Nat} {i : Int} {w : List Nat} (hl : j + v.length < u.length) (h : MsI v u x j c b i w) (hi : i < v.length) {d c' b' : Nat} (hd : d < 18446744073709551616) (hc' : c' < 18446744073709551616) (hb' : b' ≤ 1)
  (e : d + x * v.getD i.toNat 0 + c + b = w.getD (j + i.toNat) 0 + 18446744073709551616 * (c' + b')) : MsI v u x j c' b' (i + 1) (w.set (j + i.toNat) d) := by
 have h0 := h.i0
 have hlen := h.len
 have e1 : (i + 1).toNat = i.toNat + 1 := by omega
 refine ⟨by omega, by omega, by rw [List.length_set]; exact hlen, tZ h.lm _ hd, hc', hb', ?_, ?_⟩
 ·rw [e1, ← Nat.add_assoc, drop_set]; exact uB h.rest
 ·rw [e1, nC, ← Nat.add_assoc, Nat.pow_succ]
  exact aYT (R := 18446744073709551616 ^ i.toNat) (Nat.pow_add _ _ _) (yE (by omega)) h.sum e
theorem aVY {v u : List Nat} {j c : Nat} {i : Int} {w : List Nat} (hl : j + v.length < u.length) (h : AbI v u j c i w) (hi : i < v.length) {d c' : Nat} (hd : d < 18446744073709551616) (hc' : c' ≤ 1)
  (e : d + 18446744073709551616 * c' = w.getD (j + i.toNat) 0 + v.getD i.toNat 0 + c) : AbI v u j c' (i + 1) (w.set (j + i.toNat) d) := by
 have h0 := h.i0
 have hlen := h.len
 have e1 : (i + 1).toNat = i.toNat + 1 := by omega
 refine ⟨by omega, by omega, by rw [List.length_set]; exact hlen, tZ h.lm _ hd, hc', ?_, ?_⟩
 ·rw [e1, ← Nat.add_assoc, drop_set]; exact uB h.rest
 ·rw [e1, nC, ← Nat.add_assoc, Nat.pow_succ]
  exact aYU (R := 18446744073709551616 ^ i.toNat) (Nat.pow_add _ _ _) (yE (by omega)) h.sum e
theorem aUd {v u : List Nat} {x j un : Nat} (lv : Lm v) (hx : x < 18446744073709551616) (hs : v.length ≤ 9000000000000) (hu : un = v.length + 1) (ho : j + un ≤ u.length) (lu : Lm u) :
  ∃ e, cE (fun d : Nat × Nat × Int × (List Nat) => iK v x un j d.1 d.2.1 d.2.2.1 d.2.2.2) (0, 0, 0, u) = some e ∧ MsI v u x j e.1 e.2.1 v.length e.2.2 := by
 refine cT (step := fun d : Nat × Nat × Int × (List Nat) => iK v x un j d.1 d.2.1 d.2.2.1 d.2.2.2) (I := fun d => MsI v u x j d.1 d.2.1 d.2.2.1 d.2.2.2) (fun d => (v.length - d.2.2.1).toNat) (fun e => MsI v u x j e.1 e.2.1 v.length e.2.2) ?_ (0, 0, 0, u) ⟨by simp, by simp, rfl, lu, by simp, by simp, rfl, by simp [nv]⟩
 rintro ⟨c, b, i, w⟩ h
 have h : MsI v u x j c b i w := h
 have h0 := h.i0
 have hlen := h.len
 show (∃ d', iK v x un j c b i w = _ ∧ _) ∨ ∃ e, iK v x un j c b i w = _ ∧ _
 unfold iK
 by_cases hi : i < v.length
 ·left
  have hy := eH lv i.toNat
  have hw := eH h.lm (j + i.toNat)
  have hb := h.b1
  obtain ⟨k1, k2, k3, k4⟩ := aQe (b' := if w.getD (j + i.toNat) 0 < (x * v.getD i.toNat 0 % 18446744073709551616 + c + 0) % 18446744073709551616 + b then 1 else 0) (Nat.div_add_mod (x * v.getD i.toNat 0) 18446744073709551616) (Nat.mod_lt _ (by decide)) (Nat.mul_le_mul (by omega) (by omega)) h.c1 hb hw rfl rfl rfl rfl
  refine ⟨((x * v.getD i.toNat 0 / 18446744073709551616 + (x * v.getD i.toNat 0 % 18446744073709551616 + c + 0) / 18446744073709551616) % 18446744073709551616, (if w.getD (j + i.toNat) 0 < (x * v.getD i.toNat 0 % 18446744073709551616 + c + 0) % 18446744073709551616 + b then 1 else 0), i + 1, w.set (j + i.toNat) ((w.getD (j + i.toNat) 0 + 18446744073709551616 - (x * v.getD i.toNat 0 % 18446744073709551616 + c + 0) % 18446744073709551616 - b) % 18446744073709551616)), ?_, aVX (by omega) h hi k2 k3 k4 k1, by simp only; omega⟩
  rw [if_pos hi]
  exact aA (by constructor <;> omega) (aA (Nat.zero_le _) (aA (by constructor <;> omega) (aA (by omega) (aA hb (aA (by constructor <;> omega) (aA (by omega) (aA (by constructor <;> omega) rfl)))))))
 ·right
  refine ⟨(c, b, w), by rw [if_neg hi], ?_⟩
  have e : i = v.length := by have := h.i1; omega
  rw [e] at h
  exact h
theorem aUe {v u : List Nat} {j un : Nat} (lv : Lm v) (hs : v.length ≤ 9000000000000) (hu : un = v.length + 1) (ho : j + un ≤ u.length) (lu : Lm u) :
  ∃ e, cE (fun d : Nat × Int × (List Nat) => iJ v un j d.1 d.2.1 d.2.2) (0, 0, u) = some e ∧ AbI v u j e.1 v.length e.2 := by
 refine cT (step := fun d : Nat × Int × (List Nat) => iJ v un j d.1 d.2.1 d.2.2) (I := fun d => AbI v u j d.1 d.2.1 d.2.2) (fun d => (v.length - d.2.1).toNat) (fun e => AbI v u j e.1 v.length e.2) ?_ (0, 0, u) ⟨by simp, by simp, rfl, lu, by simp, rfl, by simp [nv]⟩
 rintro ⟨c, i, w⟩ h
 have h : AbI v u j c i w := h
 have h0 := h.i0
 have hlen := h.len
 show (∃ d', iJ v un j c i w = _ ∧ _) ∨ ∃ e, iJ v un j c i w = _ ∧ _
 unfold iJ
 by_cases hi : i < v.length
 ·left
  have hy := eH lv i.toNat
  have hw := eH h.lm (j + i.toNat)
  have hc := h.c1
  have k1 := Nat.div_add_mod (w.getD (j + i.toNat) 0 + v.getD i.toNat 0 + c) 18446744073709551616
  refine ⟨(_, _, _), ?_, aVY (d := (w.getD (j + i.toNat) 0 + v.getD i.toNat 0 + c) % 18446744073709551616) (c' := (w.getD (j + i.toNat) 0 + v.getD i.toNat 0 + c) / 18446744073709551616) (by omega) h hi (Nat.mod_lt _ (by decide)) (by omega) (by rw [Nat.add_comm]; exact k1), by simp only; omega⟩
  rw [if_pos hi]
  refine aA (by constructor <;> omega) (aA (by constructor <;> omega) (aA (by omega) (aA hc (aA (by constructor <;> omega) (aA (by omega) (aA (by constructor <;> omega) ?_))))))
  simp only [fB]
 ·right
  refine ⟨(c, w), by rw [if_neg hi], ?_⟩
  have e : i = v.length := by have := h.i1; omega
  rw [e] at h
  exact h
theorem aTe {w u : List Nat} {K : Nat} (lw : Lm w) (lu : Lm u) (h : w.drop K = u.drop K) (hu : nv u < 18446744073709551616 ^ K) : nv w < 18446744073709551616 ^ K := by
 have hp : 0 < 18446744073709551616 ^ K := Nat.pow_pos (by decide)
 have h1 := aEs lw K
 rw [h, aEs lu, Nat.div_eq_of_lt hu] at h1
 exact (Nat.div_eq_zero_iff_lt hp).1 h1.symm
theorem aVZ {N N3 W x : Nat} {Q : Nat} (hW : 0 < W) (hQ : Q = N / W) (hx : Q ≤ x) (h : N3 + x * W = N) : x = Q ∧ N3 + Q * W = N := by
 have h1 : x ≤ N / W := (Nat.le_div_iff_mul_le hW).2 (by omega)
 have : x = Q := by omega
 subst this
 exact ⟨rfl, h⟩
theorem aXr {N N3 N4 N5 W x T S o4 c : Nat} {Q : Nat} (hQ : Q = N / W) (hx1 : Q ≤ x) (hx2 : x ≤ Q + 1) (h3 : N3 + x * W = N + T) (hT3 : N3 < T) (h4 : N4 + S * c = N3 + W) (h5 : N5 + S * o4 = N4 + S * ((o4 + c) % 18446744073709551616)) (hT5 : N5 < T) (hT : T = S * 18446744073709551616) (ho : o4 < 18446744073709551616) (hc : c ≤ 1) :
  x = Q + 1 ∧ N5 + Q * W = N := by
 have hle : Q * W ≤ N := by rw [hQ]; exact Nat.div_mul_le_self N W
 have hx : x = Q + 1 := by
  rcases Nat.lt_or_ge Q x with h | h
  ·omega
  ·have : x = Q := by omega
   subst this
   omega
 subst hx
 refine ⟨rfl, ?_⟩
 rw [Nat.add_mul, Nat.one_mul] at h3
 rcases Nat.lt_or_ge (o4 + c) 18446744073709551616 with h | h
 ·rw [Nat.mod_eq_of_lt h, Nat.mul_add] at h5
  omega
 ·have e : (o4 + c) % 18446744073709551616 = 0 := by omega
  have e2 : S * 18446744073709551616 = S * o4 + S * c := by rw [← Nat.mul_add]; congr 1; omega
  rw [e, Nat.mul_zero, Nat.add_zero] at h5
  omega
theorem aLR {v u : List Nat} {j un : Nat} (lv : Lm v) (lu : Lm u) (hn : 2 ≤ v.length) (hs : v.length ≤ 9000000000000) (hu : un = v.length + 1) (ho : j + un ≤ u.length)
  (hv : 9223372036854775808 ≤ v.getD (v.length - 1) 0) (hq : nv u < 18446744073709551616 ^ (j + 1) * nv v) :
  ∃ w, rL j un v u = some (nv u / (18446744073709551616 ^ j * nv v), w) ∧ w.length = u.length ∧ Lm w ∧ nv w + nv u / (18446744073709551616 ^ j * nv v) * (18446744073709551616 ^ j * nv v) = nv u := by
 have hVB := iB lv
 have hJ : 0 < 18446744073709551616 ^ j := Nat.pow_pos (by decide)
 have hX : nv u / 18446744073709551616 ^ j < 18446744073709551616 * nv v := (Nat.div_lt_iff_lt_mul hJ).2 (by rw [Nat.pow_succ, Nat.mul_assoc] at hq; rw [Nat.mul_comm]; exact hq)
 have hqq : nv u / 18446744073709551616 ^ j / nv v = nv u / (18446744073709551616 ^ j * nv v) := Nat.div_div_eq_div_mul _ _ _
 have hNT : nv u < 18446744073709551616 ^ (j + v.length + 1) := by
  refine Nat.lt_of_lt_of_le hq ?_
  rw [show j + v.length + 1 = j + 1 + v.length from by omega, Nat.pow_add _ (j + 1)]
  exact Nat.mul_le_mul_left _ (Nat.le_of_lt hVB)
 have hD : DgN (nv u / 18446744073709551616 ^ j) (nv v) (18446744073709551616 ^ (v.length - 2)) (v.getD (v.length - 1) 0) (v.getD (v.length - 2) 0) (u.getD (j + v.length) 0) (u.getD (j + (v.length - 1)) 0) (u.getD (j + (v.length - 2)) 0) := by
  refine ⟨Nat.pow_pos (by decide), ?_, ?_, hv, eH lv _, eH lv _, eH lu _, eH lu _, eH lu _, hX⟩
  ·have e1 : j + (v.length - 1) = j + (v.length - 2) + 1 := by omega
   have e2 : j + v.length = j + (v.length - 2) + 1 + 1 := by omega
   have hz : nv u / 18446744073709551616 ^ (j + (v.length - 2)) < 18446744073709551616 * 18446744073709551616 * 18446744073709551616 := by
    refine (Nat.div_lt_iff_lt_mul (Nat.pow_pos (by decide))).2 ?_
    rw [show j + v.length + 1 = j + (v.length - 2) + 1 + 1 + 1 from by omega, Nat.pow_succ, Nat.pow_succ, Nat.pow_succ] at hNT
    rw [Nat.mul_comm, ← Nat.mul_assoc, ← Nat.mul_assoc]
    exact hNT
   rw [nD lu, nD lu, nD lu, e1, e2, Nat.pow_succ, Nat.pow_succ, ← Nat.div_div_eq_div_mul, ← Nat.div_div_eq_div_mul, Nat.div_div_eq_div_mul _ (18446744073709551616 ^ j), ← Nat.pow_add]
   generalize nv u / 18446744073709551616 ^ (j + (v.length - 2)) = z at *
   omega
  ·have hz : nv v / 18446744073709551616 ^ (v.length - 2) < 18446744073709551616 * 18446744073709551616 := by
    refine (Nat.div_lt_iff_lt_mul (Nat.pow_pos (by decide))).2 ?_
    have h := hVB
    rw [show v.length = v.length - 2 + 1 + 1 from by omega, Nat.pow_succ, Nat.pow_succ] at h
    rw [Nat.mul_comm, ← Nat.mul_assoc]
    exact h
   rw [nD lv, nD lv, show v.length - 1 = v.length - 2 + 1 from by omega, Nat.pow_succ, ← Nat.div_div_eq_div_mul]
   generalize nv v / 18446744073709551616 ^ (v.length - 2) = z at *
   omega
 have e1 : ((v.length : Int) - 1).toNat = v.length - 1 := by omega
 rw [← hqq]
 have hV0 : 0 < nv v := by
  rcases Nat.eq_zero_or_pos (nv v) with h | h
  ·rw [h] at hq; simp at hq
  ·exact h
 have hW : 0 < 18446744073709551616 ^ j * nv v := Nat.mul_pos hJ hV0
 have main : ∀ x, nv u / 18446744073709551616 ^ j / nv v ≤ x → x ≤ nv u / 18446744073709551616 ^ j / nv v + 1 → x < 18446744073709551616 → ∃ w, oX v un j u x = some (nv u / 18446744073709551616 ^ j / nv v, w) ∧ w.length = u.length ∧ Lm w ∧ nv w + nv u / 18446744073709551616 ^ j / nv v * (18446744073709551616 ^ j * nv v) = nv u := by
  intro x hx1 hx2 hx3
  obtain ⟨⟨c, b, w⟩, m1, m2⟩ := aUd (j := j) lv hx3 hs hu ho lu
  have m2 : MsI v u x j c b v.length w := m2
  have hlen := m2.len
  have ho2 := eH m2.lm (j + v.length)
  have hc := m2.c1
  have hb := m2.b1
  have hrest := m2.rest
  have hsum := m2.sum
  rw [Int.toNat_natCast] at hrest hsum
  rw [List.take_length] at hsum
  have hset := yE (a := w) (k := j + v.length) (v := (w.getD (j + v.length) 0 + 18446744073709551616 - c - b) % 18446744073709551616) (by omega)
  have lw2 : Lm (w.set (j + v.length) ((w.getD (j + v.length) 0 + 18446744073709551616 - c - b) % 18446744073709551616)) := tZ m2.lm _ (Nat.mod_lt _ (by decide))
  have hr2 : (w.set (j + v.length) ((w.getD (j + v.length) 0 + 18446744073709551616 - c - b) % 18446744073709551616)).drop (j + v.length + 1) = u.drop (j + v.length + 1) := by
   rw [drop_set]; exact uB hrest
  have hT3 := aTe lw2 lu hr2 hNT
  have hx : 18446744073709551616 ^ j * x * nv v = x * (18446744073709551616 ^ j * nv v) := by rw [Nat.mul_comm (18446744073709551616 ^ j) x, Nat.mul_assoc]
  rw [hx] at hsum
  unfold oX
  rw [m1]
  simp only [Option.bind_some]
  unfold sW
  by_cases hbo : w.getD (j + v.length) 0 < c + b
  ·
   have hd : (w.getD (j + v.length) 0 + 18446744073709551616 - c - b) % 18446744073709551616 + c + b = w.getD (j + v.length) 0 + 18446744073709551616 := by omega
   have h3 : nv (w.set (j + v.length) ((w.getD (j + v.length) 0 + 18446744073709551616 - c - b) % 18446744073709551616)) + x * (18446744073709551616 ^ j * nv v) = nv u + 18446744073709551616 ^ (j + v.length + 1) := by
    have e := congrArg (18446744073709551616 ^ (j + v.length) * ·) hd
    simp only [Nat.mul_add] at e hsum
    rw [Nat.pow_succ]
    omega
   have hb1 : ¬ (yB (w.getD (j + v.length) 0) c b).2.1 = 0 := by show ¬ (if w.getD (j + v.length) 0 < c + b then 1 else 0) = 0; rw [if_pos hbo]; decide
   have hl3 : (w.set (j + v.length) ((w.getD (j + v.length) 0 + 18446744073709551616 - c - b) % 18446744073709551616)).length = u.length := by rw [List.length_set]; exact hlen
   obtain ⟨w3, hw3⟩ : ∃ w3, w3 = w.set (j + v.length) ((w.getD (j + v.length) 0 + 18446744073709551616 - c - b) % 18446744073709551616) := ⟨_, rfl⟩
   have hw3' : w.set (j + v.length) (yB (w.getD (j + v.length) 0) c b).1 = w3 := hw3.symm
   rw [← hw3] at h3 hT3 lw2 hr2 hl3
   obtain ⟨⟨c4, w4⟩, n1, n2⟩ := aUe (u := w3) (j := j) lv hs hu (by omega) lw2
   have n2 : AbI v w3 j c4 v.length w4 := n2
   have hl4 := n2.len
   have ho4 := eH n2.lm (j + v.length)
   have hrest4 := n2.rest
   have hsum4 := n2.sum
   rw [Int.toNat_natCast] at hrest4 hsum4
   rw [List.take_length] at hsum4
   have hset4 := yE (a := w4) (k := j + v.length) (v := (w4.getD (j + v.length) 0 + c4) % 18446744073709551616) (by omega)
   have lw5 : Lm (w4.set (j + v.length) ((w4.getD (j + v.length) 0 + c4) % 18446744073709551616)) := tZ n2.lm _ (Nat.mod_lt _ (by decide))
   have hr5 : (w4.set (j + v.length) ((w4.getD (j + v.length) 0 + c4) % 18446744073709551616)).drop (j + v.length + 1) = u.drop (j + v.length + 1) := by
    rw [drop_set, ← hr2]; exact uB hrest4
   have hT5 := aTe lw5 lu hr5 hNT
   obtain ⟨f1, f2⟩ := aXr hqq hx1 hx2 h3 hT3 hsum4 hset4 hT5 (Nat.pow_succ ..) ho4 n2.c1
   refine ⟨_, aA (by constructor <;> omega) (aA (by omega) (aA hb (aA (by constructor <;> omega) (aA (by omega) ?_)))), ?_, lw5, f2⟩
   ·refine (if_neg hb1).trans ?_
    rw [hw3']
    refine aM n1 ?_
    unfold sV
    refine aA (by constructor <;> omega) (aA (by simp only; omega) (aA (by constructor <;> omega) (aA (by simp only; omega) ?_)))
    rw [aPL hx3 (by rw [f1]; exact Nat.succ_le_succ (Nat.zero_le _)), f1, Nat.add_sub_cancel]
   ·rw [List.length_set]; omega
  ·have hd : (w.getD (j + v.length) 0 + 18446744073709551616 - c - b) % 18446744073709551616 + c + b = w.getD (j + v.length) 0 := by omega
   have h3 : nv (w.set (j + v.length) ((w.getD (j + v.length) 0 + 18446744073709551616 - c - b) % 18446744073709551616)) + x * (18446744073709551616 ^ j * nv v) = nv u := by
    have e := congrArg (18446744073709551616 ^ (j + v.length) * ·) hd
    simp only [Nat.mul_add] at e hsum
    omega
   have hb0 : (yB (w.getD (j + v.length) 0) c b).2.1 = 0 := if_neg hbo
   obtain ⟨f1, f2⟩ := aVZ hW hqq hx1 h3
   refine ⟨_, aA (by constructor <;> omega) (aA (by omega) (aA hb (aA (by constructor <;> omega) (aA (by omega) ?_)))), ?_, lw2, f2⟩
   ·refine (if_pos hb0).trans ?_
    rw [f1]; rfl
   ·rw [List.length_set]; exact hlen
 have start : ∀ x rest over, DgL (v.getD (v.length - 1) 0) (u.getD (j + v.length) 0) (u.getD (j + (v.length - 1)) 0) (nv u / 18446744073709551616 ^ j / nv v) x rest over → ∃ w, mI v un j u x rest over = some (nv u / 18446744073709551616 ^ j / nv v, w) ∧ w.length = u.length ∧ Lm w ∧ nv w + nv u / 18446744073709551616 ^ j / nv v * (18446744073709551616 ^ j * nv v) = nv u := by
  intro x rest over hL
  obtain ⟨e, g1, g2, g3, g4⟩ := aVW hn hs hu ho hD hL
  obtain ⟨w, k1, k2⟩ := main e g2 g3 g4
  refine ⟨w, ?_, k2⟩
  unfold mI
  exact aM g1 k1
 have hu1 := eH lu (j + (v.length - 1))
 have hu2 := eH lu (j + v.length)
 have hv1 := eH lv (v.length - 1)
 have hge := aYR hD
 have hlt := aYS hD
 have hle := aYQ hD
 unfold rL
 rw [e1]
 by_cases hc : u.getD (j + v.length) 0 < v.getD (v.length - 1) 0
 ·have hdm := Nat.div_add_mod (u.getD (j + v.length) 0 * 18446744073709551616 + u.getD (j + (v.length - 1)) 0) (v.getD (v.length - 1) 0)
  have hml := Nat.mod_lt (u.getD (j + v.length) 0 * 18446744073709551616 + u.getD (j + (v.length - 1)) 0) (show 0 < v.getD (v.length - 1) 0 by omega)
  have hdl : (u.getD (j + v.length) 0 * 18446744073709551616 + u.getD (j + (v.length - 1)) 0) / v.getD (v.length - 1) 0 < 18446744073709551616 := by
   refine (Nat.div_lt_iff_lt_mul (by omega)).2 ?_
   have := Nat.mul_le_mul_right 18446744073709551616 (show u.getD (j + v.length) 0 + 1 ≤ v.getD (v.length - 1) 0 from hc)
   rw [Nat.mul_comm 18446744073709551616]; omega
  obtain ⟨w, k1, k2⟩ := start _ _ 0 ⟨by rw [Nat.zero_mul, Nat.add_zero, Nat.mul_comm]; exact hdm, Nat.lt_trans hml hv1, by decide, hdl, hge⟩
  refine ⟨w, ?_, k2⟩
  refine aA (by constructor <;> omega) (aA (by omega) (aA (by constructor <;> omega) (aA (by constructor <;> omega) ?_)))
  refine (if_pos hc).trans ?_
  exact aA (by constructor <;> omega) (aA (by omega) (aA (by constructor <;> omega) (aA (by constructor <;> omega) (aA (by omega) (aA (by constructor <;> omega) (aA (by constructor <;> omega) (aA hc k1)))))))
 ·have hd := Nat.div_add_mod (u.getD (j + (v.length - 1)) 0 + v.getD (v.length - 1) 0 + 0) 18446744073709551616
  obtain ⟨w, k1, k2⟩ := start 18446744073709551615 ((u.getD (j + (v.length - 1)) 0 + v.getD (v.length - 1) 0 + 0) % 18446744073709551616) ((u.getD (j + (v.length - 1)) 0 + v.getD (v.length - 1) 0 + 0) / 18446744073709551616) ⟨by omega, Nat.mod_lt _ (by decide), by omega, by decide, by omega⟩
  refine ⟨w, ?_, k2⟩
  refine aA (by constructor <;> omega) (aA (by omega) (aA (by constructor <;> omega) (aA (by constructor <;> omega) ?_)))
  refine (if_neg hc).trans ?_
  exact aA (by constructor <;> omega) (aA (by constructor <;> omega) (aA (by omega) (aA (by constructor <;> omega) (aA (by constructor <;> omega) (aA (Nat.zero_le _) k1)))))
end Nu
end Go.Proofs
namespace Go.Proofs
open Go.Vc
set_option maxRecDepth 20000
namespace Nu
abbrev pP (a b : List Nat) : Prop := Nrm a ∧ Nrm b ∧ nv b ≠ 0 ∧ a.length ≤ 1099511627776
def bG (a b : List Nat) : List Nat × List Nat × Unit := (lb (nv a / nv b), lb (nv a % nv b), ())
noncomputable def qR (b_1 : (List Nat)) (u_11 : (List Nat)) (q_12 : (List Nat)) : Option (((List Nat) × ((List Nat) × Unit))) :=
 ck (0 ≤ (((b_1.length) : Nat) : Int) ∧ (((b_1.length) : Nat) : Int) ≤ (((u_11.length) : Nat) : Int)) (ck ((aFR (cP (List.take (b_1.length) u_11)) (aC (b_1.getD (((((b_1.length) : Nat) : Int) - (1 : Int)).toNat) (0 : Nat))))) (some ((cP q_12), (cM (cP (List.take (b_1.length) u_11)) (aC (b_1.getD (((((b_1.length) : Nat) : Int) - (1 : Int)).toNat) (0 : Nat)))), ())))
noncomputable def kJ (b_1 : (List Nat)) (j_14 : Int) (u_15 : (List Nat)) (q_16 : (List Nat)) : Option ((Int × (List Nat) × (List Nat)) ⊕ (((List Nat) × (List Nat)))) :=
 if (0 : Int) ≤ j_14 then ck (I64 (j_14 + (((b_1.length) : Nat) : Int))) (ck (I64 ((j_14 + (((b_1.length) : Nat) : Int)) + (1 : Int))) (ck (0 ≤ j_14 ∧ j_14 < ((j_14 + (((b_1.length) : Nat) : Int)) + (1 : Int)) ∧ ((j_14 + (((b_1.length) : Nat) : Int)) + (1 : Int)) ≤ (((u_15.length) : Nat) : Int)) (((rL (j_14.toNat) ((((j_14 + (((b_1.length) : Nat) : Int)) + (1 : Int)) - j_14).toNat) (cX (bH b_1 (aC (b_1.getD (((((b_1.length) : Nat) : Int) - (1 : Int)).toNat) (0 : Nat)))) (((b_1.length) : Nat) : Int)) u_15)).bind (fun r_24 => ck (0 ≤ j_14 ∧ j_14 < (((q_16.length) : Nat) : Int)) (ck (I64 (j_14 - (1 : Int))) (some (.inl ((j_14 - (1 : Int)), (r_24.2), (q_16.set (j_14.toNat) (r_24.1)))))))))) else some (.inr (u_15, q_16))
noncomputable def wR (a_0 : (List Nat)) (b_1 : (List Nat)) : Option ((List Nat) × ((List Nat) × Unit)) :=
 ck ((aS5 a_0 b_1)) (if (mQ a_0 b_1) < (0 : Int) then ck ((aRj a_0)) (some (([] : List Nat), (id a_0), ())) else if (((b_1.length) : Nat) : Int) = (1 : Int) then ck ((0 : Int) < (((b_1.length) : Nat) : Int)) (ck ((aCn a_0 (b_1.getD (0 : Nat) (0 : Nat)))) (some (((rI a_0 (b_1.getD (0 : Nat) (0 : Nat))).1), (((rI a_0 (b_1.getD (0 : Nat) (0 : Nat))).2).1), ()))) else ck (I64 ((((b_1.length) : Nat) : Int) - (1 : Int))) (ck (0 ≤ ((((b_1.length) : Nat) : Int) - (1 : Int)) ∧ ((((b_1.length) : Nat) : Int) - (1 : Int)) < (((b_1.length) : Nat) : Int)) (ck ((aGA b_1 (aC (b_1.getD (((((b_1.length) : Nat) : Int) - (1 : Int)).toNat) (0 : Nat))))) (ck ((wQ (bH b_1 (aC (b_1.getD (((((b_1.length) : Nat) : Int) - (1 : Int)).toNat) (0 : Nat)))) (((b_1.length) : Nat) : Int))) (ck ((aGA a_0 (aC (b_1.getD (((((b_1.length) : Nat) : Int) - (1 : Int)).toNat) (0 : Nat))))) (ck (I64 ((((a_0.length) : Nat) : Int) + (1 : Int))) (ck ((wQ (bH a_0 (aC (b_1.getD (((((b_1.length) : Nat) : Int) - (1 : Int)).toNat) (0 : Nat)))) ((((a_0.length) : Nat) : Int) + (1 : Int)))) (ck (I64 ((((a_0.length) : Nat) : Int) - (((b_1.length) : Nat) : Int))) (ck (I64 (((((a_0.length) : Nat) : Int) - (((b_1.length) : Nat) : Int)) + (1 : Int))) (ck (0 ≤ (((((a_0.length) : Nat) : Int) - (((b_1.length) : Nat) : Int)) + (1 : Int))) (ck ((8 : Int) * (((((a_0.length) : Nat) : Int) - (((b_1.length) : Nat) : Int)) + (1 : Int)) ≤ 281474976710656) (ck (I64 ((((a_0.length) : Nat) : Int) - (((b_1.length) : Nat) : Int))) ((cE (fun d : Int × (List Nat) × (List Nat) => kJ b_1 d.1 d.2.1 d.2.2) (((((a_0.length) : Nat) : Int) - (((b_1.length) : Nat) : Int)), (cX (bH a_0 (aC (b_1.getD (((((b_1.length) : Nat) : Int) - (1 : Int)).toNat) (0 : Nat)))) ((((a_0.length) : Nat) : Int) + (1 : Int))), (List.replicate ((((((a_0.length) : Nat) : Int) - (((b_1.length) : Nat) : Int)) + (1 : Int)).toNat) (0 : Nat)))).bind (fun e => qR b_1 e.1 e.2))))))))))))))
theorem aFU {a : List Nat} {n : Int} : nv (cX a n) = nv a := by
 unfold cX; rw [aDO, aFP, Nat.mul_zero, Nat.add_zero]
theorem aJU {a : List Nat} {n : Int} (h : a.length ≤ n) : (cX a n).length = n.toNat := by
 unfold cX; rw [List.length_append, List.length_replicate]; omega
theorem aNj {a : List Nat} {n : Int} (h : Lm a) : Lm (cX a n) := aRk h (aFQ _)
theorem aQf {b : List Nat} (lb' : Lm b) (hn : Nrm b) (h0 : nv b ≠ 0) : 0 < b.length ∧ 1 ≤ b.getD (b.length - 1) 0 ∧ b.getD (b.length - 1) 0 * 18446744073709551616 ^ (b.length - 1) ≤ nv b ∧ nv b < (b.getD (b.length - 1) 0 + 1) * 18446744073709551616 ^ (b.length - 1) := by
 have hne : b ≠ [] := fun e => h0 (by rw [e]; rfl)
 have hl : 0 < b.length := List.length_pos_iff.2 hne
 have hp : 0 < 18446744073709551616 ^ (b.length - 1) := Nat.pow_pos (by decide)
 have hge := aS3 hn hne
 have hlt := iB lb'
 have ht : b.getD (b.length - 1) 0 = nv b / 18446744073709551616 ^ (b.length - 1) := by
  rw [nD lb']
  refine Nat.mod_eq_of_lt ((Nat.div_lt_iff_lt_mul hp).2 ?_)
  rw [Nat.mul_comm, ← Nat.pow_succ, show (b.length - 1).succ = b.length from by omega]
  exact hlt
 rw [ht]
 exact ⟨hl, (Nat.le_div_iff_mul_le hp).2 (by omega), Nat.div_mul_le_self _ _, by rw [Nat.mul_comm]; exact Nat.lt_mul_div_succ _ hp⟩
theorem aUf {b : List Nat} (lb' : Lm b) (hn : Nrm b) (h0 : nv b ≠ 0) : nv b * 2 ^ (64 - bl (b.getD (b.length - 1) 0)) < 18446744073709551616 ^ b.length ∧ 9223372036854775808 * 18446744073709551616 ^ (b.length - 1) ≤ nv b * 2 ^ (64 - bl (b.getD (b.length - 1) 0)) := by
 obtain ⟨hl, h1, h2, h3⟩ := aQf lb' hn h0
 have hb := aT4 (eH lb' (b.length - 1))
 have hlow := aNZ (x := b.getD (b.length - 1) 0) (by omega)
 have hlt := aDh (b.getD (b.length - 1) 0)
 have hpos := aCl (x := b.getD (b.length - 1) 0) (by omega)
 generalize b.getD (b.length - 1) 0 = t at *
 have hp := Nat.two_pow_pos (64 - bl t)
 have e1 : 2 ^ bl t * 2 ^ (64 - bl t) = 18446744073709551616 := by rw [← Nat.pow_add, show bl t + (64 - bl t) = 64 from by omega]
 have e2 : 2 ^ (bl t - 1) * 2 ^ (64 - bl t) = 9223372036854775808 := by rw [← Nat.pow_add, show bl t - 1 + (64 - bl t) = 63 from by omega]
 constructor
 ·have k1 : (t + 1) * 2 ^ (64 - bl t) ≤ 18446744073709551616 := by rw [← e1]; exact Nat.mul_le_mul_right _ hlt
  have k2 := Nat.mul_lt_mul_of_pos_right h3 hp
  refine Nat.lt_of_lt_of_le k2 ?_
  rw [Nat.mul_right_comm, show 18446744073709551616 ^ b.length = 18446744073709551616 * 18446744073709551616 ^ (b.length - 1) from by rw [Nat.mul_comm, ← Nat.pow_succ]; congr 1; omega]
  exact Nat.mul_le_mul_right _ k1
 ·have k1 : 9223372036854775808 ≤ t * 2 ^ (64 - bl t) := by rw [← e2]; exact Nat.mul_le_mul_right _ hlow
  refine Nat.le_trans (Nat.mul_le_mul_right _ k1) ?_
  rw [Nat.mul_right_comm]
  exact Nat.mul_le_mul_right _ h2
structure QrI (m n V N : Nat) (j : Int) (u q : List Nat) : Prop where
 j0 : -1 ≤ j
 j1 : j ≤ m
 ul : u.length = m + n + 1
 lu : Lm u
 ql : q.length = m + 1
 lq : Lm q
 lt : nv u < 18446744073709551616 ^ (j + 1).toNat * V
 lo : ∃ t, nv q = 18446744073709551616 ^ (j + 1).toNat * t
 sum : nv q * V + nv u = N
theorem aV0 {m n V N : Nat} {j : Int} {u q w : List Nat} (h : QrI m n V N j u q) (hj : 0 ≤ j) (hw : w.length = u.length) (lw : Lm w) (hV : 0 < V)
  (e : nv w + nv u / (18446744073709551616 ^ j.toNat * V) * (18446744073709551616 ^ j.toNat * V) = nv u) : QrI m n V N (j - 1) w (q.set j.toNat (nv u / (18446744073709551616 ^ j.toNat * V))) := by
 have h1 := h.j1
 have hql := h.ql
 have hul := h.ul
 have e1 : (j + 1).toNat = j.toNat + 1 := by omega
 have e2 : (j - 1 + 1).toNat = j.toNat := by omega
 have hW : 0 < 18446744073709551616 ^ j.toNat * V := Nat.mul_pos (Nat.pow_pos (by decide)) hV
 have hlt := h.lt
 obtain ⟨t, ht⟩ := h.lo
 rw [e1] at hlt ht
 have hQ : nv u / (18446744073709551616 ^ j.toNat * V) < 18446744073709551616 := by
  refine (Nat.div_lt_iff_lt_mul hW).2 ?_
  rw [Nat.pow_succ, Nat.mul_comm (18446744073709551616 ^ j.toNat) 18446744073709551616, Nat.mul_assoc] at hlt
  exact hlt
 have hz : q.getD j.toNat 0 = 0 := by
  rw [nD h.lq, ht, Nat.pow_succ, Nat.mul_assoc, Nat.mul_div_cancel_left _ (Nat.pow_pos (by decide)), Nat.mul_mod_right]
 have hset := yE (a := q) (k := j.toNat) (v := nv u / (18446744073709551616 ^ j.toNat * V)) (by omega)
 rw [hz, Nat.mul_zero, Nat.add_zero] at hset
 have hwm : nv w = nv u % (18446744073709551616 ^ j.toNat * V) := by
  have d := Nat.div_add_mod (nv u) (18446744073709551616 ^ j.toNat * V)
  rw [Nat.mul_comm] at d
  omega
 refine ⟨by omega, by omega, by omega, lw, by rw [List.length_set]; exact hql, tZ h.lq _ hQ, ?_, ?_, ?_⟩
 ·rw [e2, hwm]; exact Nat.mod_lt _ hW
 ·rw [e2, hset, ht, Nat.pow_succ, Nat.mul_assoc, ← Nat.mul_add]; exact ⟨_, rfl⟩
 ·have hs := h.sum
  rw [hset, Nat.add_mul, Nat.mul_right_comm, Nat.mul_comm (18446744073709551616 ^ j.toNat * V)]
  omega
theorem aJV (a : List Nat) (wa : (Ty.sl (.u .u64)).wf a) (b : List Nat) (wb : (Ty.sl (.u .u64)).wf b) (hp : pP a b) : wR a b = some (bG a b) := by
 obtain ⟨na, nb, hb0, sa⟩ := hp
 have la := tI wa
 have lb' := tI wb
 obtain ⟨hl, t1, t2, t3⟩ := aQf lb' nb hb0
 obtain ⟨v1, v2⟩ := aUf lb' nb hb0
 have h64 := aT4 (eH lb' (b.length - 1))
 have hpos := aCl (x := b.getD (b.length - 1) 0) (by omega)
 unfold wR
 refine aA ⟨na, nb⟩ (aAy (fun hc => ?_) (fun hc => aAy (fun h1 => ?_) (fun h1 => ?_)))
 ·have hlt : nv a < nv b := by
   unfold mQ aDP at hc
   split at hc
   ·assumption
   ·split at hc <;> omega
  unfold bG
  rw [Nat.div_eq_of_lt hlt, Nat.mod_eq_of_lt hlt, fP, aPK la na]
  exact aA (by show a.length * 8 ≤ _; omega) rfl
 ·have hb1 : nv b = b.getD 0 0 := by
   match b, (show b.length = 1 by omega) with
   | [x], _ => rfl
  refine aA (by omega) (aA ⟨by rw [← hb1]; exact hb0, sa⟩ ?_)
  unfold rI bG
  rw [← hb1]
 ·have hge : nv b ≤ nv a := by
   unfold mQ aDP at hc
   split at hc
   ·omega
   ·omega
  have hlen : b.length ≤ a.length := by
   rcases Nat.lt_or_ge a.length b.length with h | h
   ·exfalso
    have k1 := iB la
    have k2 : 18446744073709551616 ^ a.length ≤ 18446744073709551616 ^ (b.length - 1) := Nat.pow_le_pow_right (by decide) (by omega)
    have k3 := aS3 nb (fun e => hb0 (by rw [e]; rfl))
    omega
   ·exact h
  have e1 : ((b.length : Int) - 1).toNat = b.length - 1 := by omega
  rw [e1]
  have hs : (aC (b.getD (b.length - 1) 0)).toNat = 64 - bl (b.getD (b.length - 1) 0) := by unfold aC; omega
  have hs2 : 0 ≤ aC (b.getD (b.length - 1) 0) ∧ aC (b.getD (b.length - 1) 0) ≤ 63 := by unfold aC; omega
  have hLb : bH b (aC (b.getD (b.length - 1) 0)) = lb (nv b * 2 ^ (64 - bl (b.getD (b.length - 1) 0))) := by unfold bH; rw [hs]
  have hLa : bH a (aC (b.getD (b.length - 1) 0)) = lb (nv a * 2 ^ (64 - bl (b.getD (b.length - 1) 0))) := by unfold bH; rw [hs]
  have hs3 : 64 - bl (b.getD (b.length - 1) 0) ≤ 63 := by omega
  have hbl : (lb (nv b * 2 ^ (64 - bl (b.getD (b.length - 1) 0)))).length ≤ b.length := kY.2 v1
  have hal : (lb (nv a * 2 ^ (64 - bl (b.getD (b.length - 1) 0)))).length ≤ a.length + 1 := by
   refine kY.2 ?_
   rw [Nat.pow_succ]
   refine Nat.mul_lt_mul'' (iB la) ?_
   exact Nat.lt_of_le_of_lt (Nat.pow_le_pow_right (by decide) hs3) (by decide)
  have hn2 : 2 ≤ b.length := by omega
  obtain ⟨sI, hsI⟩ : ∃ sI, sI = aC (b.getD (b.length - 1) 0) := ⟨_, rfl⟩
  obtain ⟨s, hss⟩ : ∃ s, s = 64 - bl (b.getD (b.length - 1) 0) := ⟨_, rfl⟩
  rw [← hss] at v1 v2 hbl hal hLa hLb hs3 hs
  rw [← hsI] at hLa hLb hs2 hs
  rw [← hsI, hLa, hLb]
  have hV : 0 < nv b * 2 ^ s := Nat.mul_pos (by omega) (Nat.two_pow_pos s)
  have key := cT (step := fun d : Int × (List Nat) × (List Nat) => kJ b d.1 d.2.1 d.2.2) (I := fun d => QrI (a.length - b.length) b.length (nv b * 2 ^ s) (nv a * 2 ^ s) d.1 d.2.1 d.2.2) (fun d => (d.1 + 1).toNat)
   (fun e => e.1.length = a.length + 1 ∧ Lm e.1 ∧ nv e.1 = nv a * 2 ^ s % (nv b * 2 ^ s) ∧ nv e.2 = nv a * 2 ^ s / (nv b * 2 ^ s)) ?_ ((a.length : Int) - (b.length : Int), cX (lb (nv a * 2 ^ s)) ((a.length : Int) + 1), List.replicate (((a.length : Int) - (b.length : Int)) + 1).toNat 0) ?_
  ·obtain ⟨e, h2, h3, h4, h5, h6⟩ := key
   refine aA (by constructor <;> omega) (aA (by constructor <;> omega) (aA ⟨(by show b.length ≤ _; omega), by omega, by omega⟩ (aA (by constructor <;> omega) (aA ⟨sa, by omega, by omega⟩ (aA (by constructor <;> omega) (aA (by constructor <;> omega) (aA (by constructor <;> omega) (aA (by constructor <;> omega) (aA (by omega) (aA (by omega) (aA (by constructor <;> omega) (aM h2 ?_))))))))))))
   have hm : nv e.1 < nv b * 2 ^ s := by rw [h5]; exact Nat.mod_lt _ hV
   have htk : nv (e.1.take b.length) = nv e.1 := by
    rw [aXe h4]; exact Nat.mod_eq_of_lt (Nat.lt_trans hm v1)
   have htr : cP (e.1.take b.length) = lb (nv e.1) := by rw [cP, htk]
   unfold qR
   rw [e1, ← hsI, htr]
   refine aA (by constructor <;> omega) (aA ⟨?_, hs2.1⟩ ?_)
   ·have := kY.2 (Nat.lt_trans hm v1)
    show (lb (nv e.1)).length ≤ _
    omega
   ·unfold bG cM
    rw [cP, h6, fM, hs, h5, Nat.mul_div_mul_right _ _ (Nat.two_pow_pos s), Nat.mul_mod_mul_right, Nat.mul_div_cancel _ (Nat.two_pow_pos s)]
  ·rintro ⟨j, u, q⟩ h
   have h : QrI (a.length - b.length) b.length (nv b * 2 ^ s) (nv a * 2 ^ s) j u q := h
   have i0 := h.j0
   have i1 := h.j1
   have hul := h.ul
   have hql := h.ql
   show (∃ d', kJ b j u q = _ ∧ _) ∨ ∃ e, kJ b j u q = _ ∧ _
   unfold kJ
   rw [e1, ← hsI, hLb]
   by_cases hj : 0 ≤ j
   ·left
    have hvl : (cX (lb (nv b * 2 ^ s)) (b.length : Int)).length = b.length := by rw [aJU (by omega), Int.toNat_natCast]
    have hvv : nv (cX (lb (nv b * 2 ^ s)) (b.length : Int)) = nv b * 2 ^ s := by rw [aFU, fM]
    have lv : Lm (cX (lb (nv b * 2 ^ s)) (b.length : Int)) := aNj (aBC _)
    have htop : 9223372036854775808 ≤ (cX (lb (nv b * 2 ^ s)) (b.length : Int)).getD (b.length - 1) 0 := by
     have hp : 0 < 18446744073709551616 ^ (b.length - 1) := Nat.pow_pos (by decide)
     rw [nD lv, hvv, Nat.mod_eq_of_lt ((Nat.div_lt_iff_lt_mul hp).2 (by rw [← Nat.pow_succ', show (b.length - 1).succ = b.length from by omega]; exact v1))]
     exact (Nat.le_div_iff_mul_le hp).2 v2
    have hlt := h.lt
    rw [show (j + 1).toNat = j.toNat + 1 from by omega] at hlt
    obtain ⟨w, k1, k2, k3, k4⟩ := aLR (v := cX (lb (nv b * 2 ^ s)) (b.length : Int)) (u := u) (j := j.toNat) (un := ((j + (b.length : Int)) + 1 - j).toNat) lv h.lu (by rw [hvl]; exact hn2) (by rw [hvl]; omega) (by rw [hvl]; omega) (by omega) (by rw [hvl]; exact htop) (by rw [hvv]; exact hlt)
    rw [hvv] at k1 k4
    refine ⟨(j - 1, w, q.set j.toNat (nv u / (18446744073709551616 ^ j.toNat * (nv b * 2 ^ s)))), ?_, aV0 h hj k2 k3 hV k4, by simp only; omega⟩
    rw [if_pos hj]
    exact aA (by constructor <;> omega) (aA (by constructor <;> omega) (aA (by constructor <;> omega) (aM k1 (aA (by constructor <;> omega) (aA (by constructor <;> omega) rfl)))))
   ·right
    have hj1 : (j + 1).toNat = 0 := by omega
    have hlt := h.lt
    rw [hj1, Nat.pow_zero, Nat.one_mul] at hlt
    have hs4 := h.sum
    refine ⟨(u, q), by rw [if_neg hj], by simp only; omega, h.lu, ?_, ?_⟩
    ·simp only
     rw [← hs4, Nat.add_comm, Nat.add_mul_mod_self_right, Nat.mod_eq_of_lt hlt]
    ·simp only
     rw [← hs4, Nat.add_comm, Nat.add_mul_div_right _ _ hV, Nat.div_eq_of_lt hlt, Nat.zero_add]
  ·have ej : ((a.length : Int) - (b.length : Int) + 1).toNat = a.length - b.length + 1 := by omega
   refine ⟨by simp only; omega, by simp only; omega, ?_, aNj (aBC _), ?_, aFQ _, ?_, ⟨0, ?_⟩, ?_⟩
   ·simp only; rw [aJU (by omega)]; omega
   ·simp only; rw [List.length_replicate]; omega
   ·simp only
    rw [aFU, fM, ej]
    have k1 := iB la
    have k2 : 2 ^ s ≤ 2 ^ 63 := Nat.pow_le_pow_right (by decide) hs3
    refine Nat.lt_of_lt_of_le (Nat.mul_lt_mul_of_pos_right k1 (Nat.two_pow_pos s)) ?_
    refine Nat.le_trans (Nat.mul_le_mul_left _ k2) ?_
    refine Nat.le_trans ?_ (Nat.mul_le_mul_left _ v2)
    rw [Nat.mul_left_comm, ← Nat.pow_add, show a.length - b.length + 1 + (b.length - 1) = a.length from by omega, Nat.mul_comm]
    exact Nat.le_refl _
   ·simp only; rw [aFP, Nat.mul_zero]
   ·simp only; rw [aFP, Nat.zero_mul, Nat.zero_add, aFU, fM]
end Nu
end Go.Proofs
namespace Go.Proofs
open Go.Vc
set_option maxRecDepth 20000
namespace Nu
def aDo : PlR := ⟨[(0, .A [0, 1]), (1, .B [4])], []⟩
def aBk : Ty := .pair (.sl (.u .u64)) (.pair (.i .i64) .unit)
noncomputable def uR : aK := ⟨aBk, .own 54 (.u .u64), fun x => wQ x.1 x.2.1, fun x => cX x.1 x.2.1⟩
attribute [go_sem] uR aBk
noncomputable def aLS : aK := mSpec aBk (.own 54 (.u .u64)) (fun x => sU x.1 x.2.1)
noncomputable def aEC : List (FuncId × aK) := [(120, bS)]
theorem aOp : bL Tryz.prog GL aEC := .cons fO (by kernel_rfl) (.nil)
theorem aFV : gam aEC 120 = some bS := rfl
attribute [go_sem] aDo aFV
set_option maxHeartbeats 4000000 in
theorem aLT : FOK Tryz.prog GL 123 aLS := by
 refine bK (bC aOp) mix Tryz.func123 rfl (by kernel_rfl) (by decide) aDo fun w0 S x Θ hw h hF => ?_
 obtain ⟨(a_0 : (List Nat)), (n_1 : Int), u⟩ := x
 simp only [bR, go_sem]
 replace h : sat (sU a_0 n_1) _ := h
 unfold sU at h
 refine aF h fun g0 h => ?_
 refine aF h fun g0 h => ?_
 obtain ⟨g0, h⟩ := aD h
 obtain ⟨g1, h⟩ := aD h
 repeat (refine ⟨by omega, ?_⟩)
 exact aJ hF [.tmp 4] rfl rfl rfl (aB h) (by simp only [aW, go_sem])
theorem aLU : FOK Tryz.prog GL 123 uR := dS aLT (fun ⟨x0, x1, u⟩ ⟨w0, w1, wu⟩ hp => aJT x0 w0 x1 w1 hp)
noncomputable def wS : oJ where
 D := Nat × Nat × (List Nat) × (List Nat) × ((Nat × (List Nat)))
 av := fun d => [.sub 0 1 d.1 d.2.1, .val (.sl (.u .u64)) d.2.2.1]
 hp := fun d => [.row 54 (.u .u64) d.2.2.2.1]
 m := 1
 pre := fun d => rL d.1 d.2.1 d.2.2.1 d.2.2.2.1 = some d.2.2.2.2
 out := fun d => (fun r : (Nat × (List Nat)) => .ret (.val (.u .u64) r.1) [.row 54 (.u .u64) (r.2)]) d.2.2.2.2
noncomputable def rN : List (FuncId × aK) := [(126, jA), (127, iZ), (157, nV), (159, uP)]
theorem aGO : bL Tryz.prog GL rN := .cons aAc (by kernel_rfl) (.nat zZ (.cons aDm (by kernel_rfl) (.nat aLC (.nil))))
theorem aHV : gam rN 126 = some jA := rfl
attribute [go_sem] aHV
theorem aHW : gam rN 127 = some iZ := rfl
attribute [go_sem] aHW
theorem aHX : gam rN 157 = some nV := rfl
attribute [go_sem] aHX
theorem aHY : gam rN 159 = some uP := rfl
attribute [go_sem] aHY
set_option maxHeartbeats 4000000 in
theorem aOq : GOK Tryz.prog GL 124 wS := by
 refine vG (bC aGO) Tryz.func124 rfl (by kernel_rfl) (fun _ => Nat.le_of_ble_eq_true rfl) fun c0 w0 d hw1 hw2 h hn => ?_
 have hF : lZ ⟨Tryz.prog, EM rN, GM wS c0 d, w0, Tryz.f124.ntmps, []⟩ := ⟨bC aGO, mix⟩
 obtain ⟨(uo_0 : Nat), (un_0 : Nat), (v_1 : (List Nat)), (o0_2 : (List Nat)), r⟩ := d
 replace h : rL uo_0 un_0 v_1 o0_2 = some r := h
 have hw1 : AV.wfL [.sub 0 1 uo_0 un_0, .val (.sl (.u .u64)) v_1] := hw1
 simp only [AV.wfL, AV.wfV, Ty.wf, qX] at hw1
 show Tri _ _ _ [(0, .sub 0 1 uo_0 un_0), (1, .val (.sl (.u .u64)) v_1)] [.row 54 (.u .u64) o0_2]
 unfold rL at h
 refine aH (aG hF [0, 1] ?_)
 simp only [go_sem]
 refine aI (aH (aG hF [0, 1, 5] ?_))
 simp only [go_sem]
 refine aI (aH (aG hF [0, 1, 5, 6, 8] ?_))
 simp only [go_sem]
 refine aI (kI (D := Nat × Nat × Nat) (fun d => mI v_1 un_0 uo_0 o0_2 d.1 d.2.1 d.2.2 = some r) [1, 5] (fun d => [(0, .sub 0 1 uo_0 un_0), (6, .val (.u .u64) d.1), (7, .val (.u .u64) d.2.1), (8, .val (.u .u64) d.2.2)]) (fun d => [.inr (.row 54 (.u .u64) o0_2)]) ?_ ?_)
 ·refine aH (aG hF [0, 1, 5, 6, 8, 31] ?_)
  simp only [go_sem]
  obtain ⟨g0, h⟩ := aL h
  obtain ⟨g1, h⟩ := aL h
  obtain ⟨g2, h⟩ := aL h
  obtain ⟨g3, h⟩ := aL h
  try simp only [I64, I32] at g2
  repeat (refine ⟨by first | with_reducible assumption | omega | (intros; first | assumption | omega) | (simp only [go_sem] at *; first | assumption | omega) | decide, ?_⟩)
  refine aI (cA rfl (fun hc => ?_) (fun hc => ?_))
  ·try simp only [go_sem] at hc
   have h := gN (by first | exact hc | omega | (simpa using hc) | (simp at hc ⊢; omega)) h
   refine aG hF [0, 1, 5, 6, 7, 8] ?_
   simp only [go_sem]
   obtain ⟨g0, h⟩ := aL h
   obtain ⟨g1, h⟩ := aL h
   obtain ⟨g2, h⟩ := aL h
   obtain ⟨g3, h⟩ := aL h
   obtain ⟨g4, h⟩ := aL h
   obtain ⟨g5, h⟩ := aL h
   obtain ⟨g6, h⟩ := aL h
   obtain ⟨g7, h⟩ := aL h
   try simp only [I64, I32] at g2
   try simp only [I64, I32] at g5
   repeat (refine ⟨by first | with_reducible assumption | omega | (intros; first | assumption | omega) | (simp only [go_sem] at *; first | assumption | omega) | decide, ?_⟩)
   refine bI (aO ((((iV (o0_2.getD (uo_0 + (v_1.length)) (0 : Nat)) (o0_2.getD (uo_0 + (((((v_1.length) : Nat) : Int) - (1 : Int)).toNat)) (0 : Nat)) (v_1.getD (((((v_1.length) : Nat) : Int) - (1 : Int)).toNat) (0 : Nat))).1), (((iV (o0_2.getD (uo_0 + (v_1.length)) (0 : Nat)) (o0_2.getD (uo_0 + (((((v_1.length) : Nat) : Int) - (1 : Int)).toNat)) (0 : Nat)) (v_1.getD (((((v_1.length) : Nat) : Int) - (1 : Int)).toNat) (0 : Nat))).2).1), (0 : Nat))) h rfl ?_)
   ·(try simp only [kH, gB, true_or, and_self, go_sem]) <;> (repeat' apply And.intro) <;> first | rfl | (left; rfl) | (right; rfl) | (left; simp only [go_sem]; done) | (right; simp only [go_sem]; done) | (simp; done) | (simp only [*]; done) | omega
  ·try simp only [go_sem] at hc
   have h := gO (by first | exact hc | omega | (simpa using hc) | (simp at hc ⊢; omega)) h
   refine aG hF [0, 1, 5, 6, 7, 8] ?_
   simp only [go_sem]
   obtain ⟨g0, h⟩ := aL h
   obtain ⟨g1, h⟩ := aL h
   obtain ⟨g2, h⟩ := aL h
   obtain ⟨g3, h⟩ := aL h
   obtain ⟨g4, h⟩ := aL h
   obtain ⟨g5, h⟩ := aL h
   try simp only [I64, I32] at g0
   try simp only [I64, I32] at g3
   repeat (refine ⟨by first | with_reducible assumption | omega | (intros; first | assumption | omega) | (simp only [go_sem] at *; first | assumption | omega) | decide, ?_⟩)
   refine bI (aO (((18446744073709551615 : Nat), ((fB (o0_2.getD (uo_0 + (((((v_1.length) : Nat) : Int) - (1 : Int)).toNat)) (0 : Nat)) (v_1.getD (((((v_1.length) : Nat) : Int) - (1 : Int)).toNat) (0 : Nat)) (0 : Nat)).1), (((fB (o0_2.getD (uo_0 + (((((v_1.length) : Nat) : Int) - (1 : Int)).toNat)) (0 : Nat)) (v_1.getD (((((v_1.length) : Nat) : Int) - (1 : Int)).toNat) (0 : Nat)) (0 : Nat)).2).1))) h rfl ?_)
   ·(try simp only [kH, gB, true_or, and_self, go_sem]) <;> (repeat' apply And.intro) <;> first | rfl | (left; rfl) | (right; rfl) | (left; simp only [go_sem]; done) | (right; simp only [go_sem]; done) | (simp; done) | (simp only [*]; done) | omega
 ·rintro ⟨x_4, rest_5, over_6⟩ h
  try dsimp only at h
  simp only [go_sem]
  unfold mI at h
  refine kI (D := Nat) (fun d => oX v_1 un_0 uo_0 o0_2 d = some r) [1, 5] (fun d => [(0, .sub 0 1 uo_0 un_0), (6, .val (.u .u64) d)]) (fun d => [.inr (.row 54 (.u .u64) o0_2)]) ?_ ?_
  ·refine iA (aAw (D := Nat × Nat × Nat) [1, 5] (fun d => [(0, .sub 0 1 uo_0 un_0), (6, .val (.u .u64) d.1), (7, .val (.u .u64) d.2.1), (8, .val (.u .u64) d.2.2)]) (fun d => [.inr (.row 54 (.u .u64) o0_2)]) h ?_ ?_ ?_)
   ·first | rfl | (simp only [go_sem]; done)
   ·(try simp only [kH, gB, true_or, and_self, go_sem]) <;> (repeat' apply And.intro) <;> first | rfl | (left; rfl) | (right; rfl) | (left; simp only [go_sem]; done) | (right; simp only [go_sem]; done) | (simp; done) | (simp only [*]; done) | omega
   rintro ⟨x_52, rest_53, over_54⟩ s6 h hs6
   simp only [go_sem]
   try dsimp only at h
   unfold jQ at h
   refine aH (aH (aG hF [0, 1, 5, 6, 7, 65] ?_))
   simp only [go_sem]
   refine aI (cA rfl (fun hc => ?_) (fun hc => ?_))
   ·try simp only [go_sem] at hc
    have h := gN (by first | exact hc | omega | (simpa using hc) | (simp at hc ⊢; omega)) h
    refine cO (aI (iA (aH (aG hF [0, 1, 5, 6, 7, 9, 10] ?_))))
    simp only [go_sem]
    obtain ⟨g0, h⟩ := aL h
    obtain ⟨g1, h⟩ := aL h
    try simp only [I64, I32] at g0
    repeat (refine ⟨by first | with_reducible assumption | omega | (intros; first | assumption | omega) | (simp only [go_sem] at *; first | assumption | omega) | decide, ?_⟩)
    refine aI (aH (aH (aG hF [0, 1, 5, 6, 7, 92] ?_)))
    simp only [go_sem]
    obtain ⟨g0, h⟩ := aL h
    obtain ⟨g1, h⟩ := aL h
    try simp only [I64, I32] at g0
    repeat (refine ⟨by first | with_reducible assumption | omega | (intros; first | assumption | omega) | (simp only [go_sem] at *; first | assumption | omega) | (intro q0 q1; (try have e0 := g0 (by first | exact q0 | omega | (simpa using q0)) (by first | exact q1 | omega | (simpa using q1))); (try have e1 := g1 (by first | exact q0 | omega | (simpa using q0)) (by first | exact q1 | omega | (simpa using q1))); first | assumption | omega) | (rintro ⟨q0, q1⟩; (try have e0 := g0 (by first | exact q0 | omega | (simpa using q0)) (by first | exact q1 | omega | (simpa using q1))); (try have e1 := g1 (by first | exact q0 | omega | (simpa using q0)) (by first | exact q1 | omega | (simpa using q1))); first | assumption | omega) | decide, ?_⟩)
    refine aI (cA rfl (fun hc => ?_) (fun hc => ?_))
    ·try simp only [go_sem] at hc
     have h := gN (by first | exact hc | omega | (simpa using hc) | (simp at hc ⊢; omega)) h
     obtain rfl := Option.some.inj h
     dsimp only [xY] at hs6
     have h := hs6
     try dsimp only at h
     refine xU (eV (xV (by decide) (eV (iY (bI (aO (x_52) h rfl ?_))))))
     ·(try simp only [kH, gB, true_or, and_self, go_sem]) <;> (repeat' apply And.intro) <;> first | rfl | (left; rfl) | (right; rfl) | (left; simp only [go_sem]; done) | (right; simp only [go_sem]; done) | (simp; done) | (simp only [*]; done) | omega
    ·try simp only [go_sem] at hc
     have h := gO (by first | exact hc | omega | (simpa using hc) | (simp at hc ⊢; omega)) h
     refine cO (aI (aH (aG hF [0, 1, 5, 6, 7] ?_)))
     simp only [go_sem]
     refine aI (aG hF [0, 1, 5, 6, 7, 8] ?_)
     simp only [go_sem]
     obtain ⟨g0, h⟩ := aL h
     obtain ⟨g1, h⟩ := aL h
     obtain ⟨g2, h⟩ := aL h
     try simp only [I64, I32] at g0
     repeat (refine ⟨by first | with_reducible assumption | omega | (intros; first | assumption | omega) | (simp only [go_sem] at *; first | assumption | omega) | decide, ?_⟩)
     obtain rfl := Option.some.inj h
     dsimp only [xY] at hs6
     refine gR (bI (aO (((gQ .u64 x_52 (1 : Nat)), ((fB rest_53 (v_1.getD (((((v_1.length) : Nat) : Int) - (1 : Int)).toNat) (0 : Nat)) (0 : Nat)).1), (((fB rest_53 (v_1.getD (((((v_1.length) : Nat) : Int) - (1 : Int)).toNat) (0 : Nat)) (0 : Nat)).2).1))) hs6 rfl ?_))
     ·(try simp only [kH, gB, true_or, and_self, go_sem]) <;> (repeat' apply And.intro) <;> first | rfl | (left; rfl) | (right; rfl) | (left; simp only [go_sem]; done) | (right; simp only [go_sem]; done) | (simp; done) | (simp only [*]; done) | omega
   ·try simp only [go_sem] at hc
    have h := gO (by first | exact hc | omega | (simpa using hc) | (simp at hc ⊢; omega)) h
    obtain rfl := Option.some.inj h
    dsimp only [xY] at hs6
    have h := hs6
    try dsimp only at h
    refine xU (eV (eV (iY (bI (aO (x_52) h rfl ?_)))))
    ·(try simp only [kH, gB, true_or, and_self, go_sem]) <;> (repeat' apply And.intro) <;> first | rfl | (left; rfl) | (right; rfl) | (left; simp only [go_sem]; done) | (right; simp only [go_sem]; done) | (simp; done) | (simp only [*]; done) | omega
  ·rintro x_13 h
   try dsimp only at h
   simp only [go_sem]
   unfold oX at h
   refine aH (aG hF [0, 1, 5, 6, 11, 12] ?_)
   simp only [go_sem]
   refine aI (kI (D := Nat × Nat × (List Nat)) (fun d => sW v_1 un_0 uo_0 x_13 d.1 d.2.1 d.2.2 = some r) [1, 5, 6] (fun d => [(0, .sub 0 1 uo_0 un_0), (11, .val (.u .u64) d.1), (12, .val (.u .u64) d.2.1)]) (fun d => [.inr (.row 54 (.u .u64) d.2.2)]) ?_ ?_)
   ·refine aH (aG hF [0, 1, 5, 6, 11, 12, 105, 106, 107] ?_)
    simp only [go_sem]
    refine aI (iA (aAw (D := Nat × Nat × Int × (List Nat)) [1, 5, 6, 105, 106] (fun d => [(0, .sub 0 1 uo_0 un_0), (11, .val (.u .u64) d.1), (12, .val (.u .u64) d.2.1), (107, .val (.i .i64) d.2.2.1)]) (fun d => [.inr (.row 54 (.u .u64) d.2.2.2)]) h ?_ ?_ ?_))
    ·first | rfl | (simp only [go_sem]; done)
    ·(try simp only [kH, gB, true_or, and_self, go_sem]) <;> (repeat' apply And.intro) <;> first | rfl | (left; rfl) | (right; rfl) | (left; simp only [go_sem]; done) | (right; simp only [go_sem]; done) | (simp; done) | (simp only [*]; done) | omega
    rintro ⟨carry_41, borrow_42, x107_43, u_44⟩ s13 h hs13
    simp only [go_sem]
    try dsimp only at h
    unfold iK at h
    refine aH (aG hF [0, 1, 5, 6, 11, 12, 105, 106, 107, 108] ?_)
    simp only [go_sem]
    refine aI (aH (cA rfl (fun hc => ?_) (fun hc => ?_)))
    ·try simp only [go_sem] at hc
     have h := gN (by first | exact hc | omega | (simpa using hc) | (simp at hc ⊢; omega)) h
     refine cO (aI (aH (iA (aH (aG hF [0, 1, 5, 6, 11, 12, 13, 14, 105, 106, 107] ?_)))))
     simp only [go_sem]
     obtain ⟨g0, h⟩ := aL h
     repeat (refine ⟨by first | with_reducible assumption | omega | (intros; first | assumption | omega) | (simp only [go_sem] at *; first | assumption | omega) | decide, ?_⟩)
     refine aI (aH (aG hF [0, 1, 5, 6, 11, 12, 13, 15, 16, 105, 106, 107] ?_))
     simp only [go_sem]
     refine aI (aH (aG hF [0, 1, 5, 6, 11, 12, 13, 15, 16, 105, 106, 107] ?_))
     simp only [go_sem]
     refine aI (aH (aG hF [0, 1, 5, 6, 12, 13, 15, 16, 17, 105, 106, 107] ?_))
     simp only [go_sem]
     obtain ⟨g0, h⟩ := aL h
     repeat (refine ⟨by first | with_reducible assumption | omega | (intros; first | assumption | omega) | (simp only [go_sem] at *; first | assumption | omega) | decide, ?_⟩)
     refine aI (aH (aG hF [0, 1, 5, 6, 11, 12, 13, 16, 105, 106, 107] ?_))
     simp only [go_sem]
     refine aI (cD hF [0, 1, 5, 6, 11, 12, 105, 106, 107] ?_)
     simp only [go_sem]
     obtain ⟨g0, h⟩ := aL h
     obtain ⟨g1, h⟩ := aL h
     repeat (refine ⟨by first | with_reducible assumption | omega | (intros; first | assumption | omega) | (simp only [go_sem] at *; first | assumption | omega) | decide, ?_⟩)
     obtain ⟨g0, h⟩ := aL h
     repeat (refine ⟨by first | with_reducible assumption | omega | (intros; first | assumption | omega) | (simp only [go_sem] at *; first | assumption | omega) | decide, ?_⟩)
     obtain ⟨g0, h⟩ := aL h
     obtain ⟨g1, h⟩ := aL h
     repeat (refine ⟨by first | with_reducible assumption | omega | (intros; first | assumption | omega) | (simp only [go_sem] at *; first | assumption | omega) | decide, ?_⟩)
     refine gR (aI (aG hF [0, 1, 5, 6, 11, 12, 105, 106, 107] ?_))
     simp only [go_sem]
     obtain ⟨g0, h⟩ := aL h
     try simp only [I64, I32] at g0
     repeat (refine ⟨by first | with_reducible assumption | omega | (intros; first | assumption | omega) | (simp only [go_sem] at *; first | assumption | omega) | decide, ?_⟩)
     obtain rfl := Option.some.inj h
     dsimp only [xY] at hs13
     refine bI (aO ((((((bJ x_13 (v_1.getD (x107_43.toNat) (0 : Nat))).1) + (((fB (((bJ x_13 (v_1.getD (x107_43.toNat) (0 : Nat))).2).1) carry_41 (0 : Nat)).2).1)) % 18446744073709551616), (((yB (u_44.getD (uo_0 + (x107_43.toNat)) (0 : Nat)) ((fB (((bJ x_13 (v_1.getD (x107_43.toNat) (0 : Nat))).2).1) carry_41 (0 : Nat)).1) borrow_42).2).1), (x107_43 + (1 : Int)), (u_44.set (uo_0 + (x107_43.toNat)) ((yB (u_44.getD (uo_0 + (x107_43.toNat)) (0 : Nat)) ((fB (((bJ x_13 (v_1.getD (x107_43.toNat) (0 : Nat))).2).1) carry_41 (0 : Nat)).1) borrow_42).1)))) hs13 rfl ?_)
     ·(try simp only [kH, gB, true_or, and_self, go_sem]) <;> (repeat' apply And.intro) <;> first | rfl | (left; rfl) | (right; rfl) | (left; simp only [go_sem]; done) | (right; simp only [go_sem]; done) | (simp; done) | (simp only [*]; done) | omega
    ·try simp only [go_sem] at hc
     have h := gO (by first | exact hc | omega | (simpa using hc) | (simp at hc ⊢; omega)) h
     obtain rfl := Option.some.inj h
     dsimp only [xY] at hs13
     have h := hs13
     try dsimp only at h
     refine xU (eV (eV (iY (bI (aO ((carry_41, borrow_42, u_44)) h rfl ?_)))))
     ·(try simp only [kH, gB, true_or, and_self, go_sem]) <;> (repeat' apply And.intro) <;> first | rfl | (left; rfl) | (right; rfl) | (left; simp only [go_sem]; done) | (right; simp only [go_sem]; done) | (simp; done) | (simp only [*]; done) | omega
   ·rintro ⟨carry_22, borrow_23, u_24⟩ h
    try dsimp only at h
    simp only [go_sem]
    unfold sW at h
    refine aH (aH (cD hF [0, 1, 5, 6, 12] ?_))
    simp only [go_sem]
    obtain ⟨g0, h⟩ := aL h
    obtain ⟨g1, h⟩ := aL h
    repeat (refine ⟨by first | with_reducible assumption | omega | (intros; first | assumption | omega) | (simp only [go_sem] at *; first | assumption | omega) | decide, ?_⟩)
    obtain ⟨g0, h⟩ := aL h
    repeat (refine ⟨by first | with_reducible assumption | omega | (intros; first | assumption | omega) | (simp only [go_sem] at *; first | assumption | omega) | decide, ?_⟩)
    obtain ⟨g0, h⟩ := aL h
    obtain ⟨g1, h⟩ := aL h
    repeat (refine ⟨by first | with_reducible assumption | omega | (intros; first | assumption | omega) | (simp only [go_sem] at *; first | assumption | omega) | decide, ?_⟩)
    refine aI (aH (aG hF [0, 1, 5, 6, 155] ?_))
    simp only [go_sem]
    refine aI (cA rfl (fun hc => ?_) (fun hc => ?_))
    ·try simp only [go_sem] at hc
     have h := gN (by first | exact hc | omega | (simpa using hc) | (simp at hc ⊢; omega)) h
     refine aH (aG hF [4] ?_)
     simp only [go_sem]
     obtain rfl := Option.some.inj h
     refine aI (eG (dN (wL hF [.tmp 4] rfl rfl rfl rfl rfl rfl ?_)))
     (try simp only [aW, aCe, aBM, gB, qE, AV.isAgg, go_sem]) <;> first | trivial | rfl | (simp; done)
    ·try simp only [go_sem] at hc
     have h := gO (by first | exact hc | omega | (simpa using hc) | (simp at hc ⊢; omega)) h
     refine cO (aI (aH (aG hF [0, 1, 5, 6, 11] ?_)))
     simp only [go_sem]
     refine aI (kI (D := Nat × (List Nat)) (fun d => sV v_1 un_0 uo_0 x_13 d.1 d.2 = some r) [5, 6] (fun d => [(0, .sub 0 1 uo_0 un_0), (11, .val (.u .u64) d.1)]) (fun d => [.inr (.row 54 (.u .u64) d.2)]) ?_ ?_)
     ·refine aH (aG hF [0, 5, 6, 11, 157, 158, 159] ?_)
      simp only [go_sem]
      refine aI (iA (aAw (D := Nat × Int × (List Nat)) [5, 6, 157, 158] (fun d => [(0, .sub 0 1 uo_0 un_0), (11, .val (.u .u64) d.1), (159, .val (.i .i64) d.2.1)]) (fun d => [.inr (.row 54 (.u .u64) d.2.2)]) h ?_ ?_ ?_))
      ·first | rfl | (simp only [go_sem]; done)
      ·(try simp only [kH, gB, true_or, and_self, go_sem]) <;> (repeat' apply And.intro) <;> first | rfl | (left; rfl) | (right; rfl) | (left; simp only [go_sem]; done) | (right; simp only [go_sem]; done) | (simp; done) | (simp only [*]; done) | omega
      rintro ⟨carry_33, x159_34, u_35⟩ s26 h hs26
      simp only [go_sem]
      try dsimp only at h
      unfold iJ at h
      refine aH (aG hF [0, 5, 6, 11, 157, 158, 159, 160] ?_)
      simp only [go_sem]
      refine aI (aH (cA rfl (fun hc => ?_) (fun hc => ?_)))
      ·try simp only [go_sem] at hc
       have h := gN (by first | exact hc | omega | (simpa using hc) | (simp at hc ⊢; omega)) h
       refine cO (aI (aH (iA (aH (aG hF [0, 5, 6, 11, 18, 19, 157, 158, 159] ?_)))))
       simp only [go_sem]
       obtain ⟨g0, h⟩ := aL h
       repeat (refine ⟨by first | with_reducible assumption | omega | (intros; first | assumption | omega) | (simp only [go_sem] at *; first | assumption | omega) | decide, ?_⟩)
       refine aI (cD hF [0, 5, 6, 11, 157, 158, 159] ?_)
       simp only [go_sem]
       obtain ⟨g0, h⟩ := aL h
       obtain ⟨g1, h⟩ := aL h
       repeat (refine ⟨by first | with_reducible assumption | omega | (intros; first | assumption | omega) | (simp only [go_sem] at *; first | assumption | omega) | decide, ?_⟩)
       obtain ⟨g0, h⟩ := aL h
       repeat (refine ⟨by first | with_reducible assumption | omega | (intros; first | assumption | omega) | (simp only [go_sem] at *; first | assumption | omega) | decide, ?_⟩)
       obtain ⟨g0, h⟩ := aL h
       obtain ⟨g1, h⟩ := aL h
       repeat (refine ⟨by first | with_reducible assumption | omega | (intros; first | assumption | omega) | (simp only [go_sem] at *; first | assumption | omega) | decide, ?_⟩)
       refine gR (aI (aG hF [0, 5, 6, 11, 157, 158, 159] ?_))
       simp only [go_sem]
       obtain ⟨g0, h⟩ := aL h
       try simp only [I64, I32] at g0
       repeat (refine ⟨by first | with_reducible assumption | omega | (intros; first | assumption | omega) | (simp only [go_sem] at *; first | assumption | omega) | decide, ?_⟩)
       obtain rfl := Option.some.inj h
       dsimp only [xY] at hs26
       refine bI (aO (((((fB (u_35.getD (uo_0 + (x159_34.toNat)) (0 : Nat)) (v_1.getD (x159_34.toNat) (0 : Nat)) carry_33).2).1), (x159_34 + (1 : Int)), (u_35.set (uo_0 + (x159_34.toNat)) ((fB (u_35.getD (uo_0 + (x159_34.toNat)) (0 : Nat)) (v_1.getD (x159_34.toNat) (0 : Nat)) carry_33).1)))) hs26 rfl ?_)
       ·(try simp only [kH, gB, true_or, and_self, go_sem]) <;> (repeat' apply And.intro) <;> first | rfl | (left; rfl) | (right; rfl) | (left; simp only [go_sem]; done) | (right; simp only [go_sem]; done) | (simp; done) | (simp only [*]; done) | omega
      ·try simp only [go_sem] at hc
       have h := gO (by first | exact hc | omega | (simpa using hc) | (simp at hc ⊢; omega)) h
       obtain rfl := Option.some.inj h
       dsimp only [xY] at hs26
       have h := hs26
       try dsimp only at h
       refine xU (eV (eV (iY (bI (aO ((carry_33, u_35)) h rfl ?_)))))
       ·(try simp only [kH, gB, true_or, and_self, go_sem]) <;> (repeat' apply And.intro) <;> first | rfl | (left; rfl) | (right; rfl) | (left; simp only [go_sem]; done) | (right; simp only [go_sem]; done) | (simp; done) | (simp only [*]; done) | omega
     ·rintro ⟨carry_31, u_32⟩ h
      try dsimp only at h
      simp only [go_sem]
      unfold sV at h
      refine aH (cD hF [6] ?_)
      simp only [go_sem]
      obtain ⟨g0, h⟩ := aL h
      obtain ⟨g1, h⟩ := aL h
      repeat (refine ⟨by first | with_reducible assumption | omega | (intros; first | assumption | omega) | (simp only [go_sem] at *; first | assumption | omega) | decide, ?_⟩)
      obtain ⟨g0, h⟩ := aL h
      obtain ⟨g1, h⟩ := aL h
      repeat (refine ⟨by first | with_reducible assumption | omega | (intros; first | assumption | omega) | (simp only [go_sem] at *; first | assumption | omega) | decide, ?_⟩)
      refine aI (aH (aG hF [4] ?_))
      simp only [go_sem]
      obtain rfl := Option.some.inj h
      refine aI (eG (wL hF [.tmp 4] rfl rfl rfl rfl rfl rfl ?_))
      (try simp only [aW, aCe, aBM, gB, qE, AV.isAgg, go_sem]) <;> first | trivial | rfl | (simp; done)
attribute [go_sem] wS
end Nu
end Go.Proofs
namespace Go.Proofs
open Go.Vc
set_option maxRecDepth 20000
namespace Nu
def sX : Ty := .pair (.sl (.u .u64)) (.pair (.sl (.u .u64)) .unit)
noncomputable def jD : aK := ⟨sX, .tup (.pair (.sl (.u .u64)) (.pair (.sl (.u .u64)) .unit)), fun x => pP x.1 x.2.1, fun x => bG x.1 x.2.1⟩
attribute [go_sem] jD sX
noncomputable def aLV : aK := mSpec sX (.tup (.pair (.sl (.u .u64)) (.pair (.sl (.u .u64)) .unit))) (fun x => wR x.1 x.2.1)
noncomputable def gU : List (FuncId × aK) := [(119, pN), (120, bS), (121, wP), (122, cW), (123, uR), (125, dO), (68, jB), (69, gS)]
theorem aED : bL Tryz.prog GL gU := .cons aEu (by kernel_rfl) (.cons fO (by kernel_rfl) (.cons aOo (by kernel_rfl) (.cons nE (by kernel_rfl) (.cons aLU (by kernel_rfl) (.cons oW (by kernel_rfl) (.cons zF (by kernel_rfl) (.cons wO (by kernel_rfl) (.nil))))))))
theorem aFW : gam gU 119 = some pN := rfl
attribute [go_sem] aFW
theorem aFX : gam gU 120 = some bS := rfl
attribute [go_sem] aFX
theorem aFY : gam gU 121 = some wP := rfl
attribute [go_sem] aFY
theorem aFZ : gam gU 122 = some cW := rfl
attribute [go_sem] aFZ
theorem aF0 : gam gU 123 = some uR := rfl
attribute [go_sem] aF0
theorem aF1 : gam gU 125 = some dO := rfl
attribute [go_sem] aF1
theorem aHZ : gam gU 68 = some jB := rfl
attribute [go_sem] aHZ
theorem aH0 : gam gU 69 = some gS := rfl
attribute [go_sem] aH0
set_option maxHeartbeats 4000000 in
theorem aLW : FOK Tryz.prog GL 62 aLV := by
 refine xK (bC aED) Tryz.func62 rfl (by kernel_rfl) (by decide) fun w0 S x r hw h => ?_
 have hF : lZ (fr Tryz.prog (EM gU) S w0 Tryz.f62.ntmps) := ⟨bC aED, mix⟩
 obtain ⟨(a_0 : (List Nat)), (b_1 : (List Nat)), u⟩ := x
 simp only [sX, Ty.wf, qX] at hw
 simp only [bR, sX]
 try dsimp only at h
 unfold wR at h
 refine aH (aG hF [0, 1] ?_)
 simp only [go_sem]
 refine aI (aH (aH (aG hF [0, 1, 15] ?_)))
 simp only [go_sem]
 obtain ⟨g0, h⟩ := aL h
 repeat (refine ⟨by first | with_reducible assumption | omega | (intros; first | assumption | omega) | (simp only [go_sem] at *; first | assumption | omega) | decide, ?_⟩)
 refine aI (cA rfl (fun hc => ?_) (fun hc => ?_))
 ·try simp only [go_sem] at hc
  have h := gN (by first | exact hc | omega | (simpa using hc) | (simp at hc ⊢; omega)) h
  refine aH (cD hF [4, 5] ?_)
  simp only [go_sem]
  obtain ⟨g0, h⟩ := aL h
  repeat (refine ⟨by first | with_reducible assumption | omega | (intros; first | assumption | omega) | (simp only [go_sem] at *; first | assumption | omega) | decide, ?_⟩)
  obtain rfl := Option.some.inj h
  refine aI (eG (dN (jZ hF [.tmp 4, .tmp 5] rfl rfl rfl ?_)))
  (try simp only [lY, aW, go_sem]) <;> first | rfl | (simp; done)
 ·try simp only [go_sem] at hc
  have h := gO (by first | exact hc | omega | (simpa using hc) | (simp at hc ⊢; omega)) h
  refine cO (aI (aH (aH (aG hF [0, 1, 20] ?_))))
  simp only [go_sem]
  refine aI (cA rfl (fun hc => ?_) (fun hc => ?_))
  ·try simp only [go_sem] at hc
   have h := gN (by first | exact hc | omega | (simpa using hc) | (simp at hc ⊢; omega)) h
   refine aH (aG hF [4, 5] ?_)
   simp only [go_sem]
   obtain ⟨g0, h⟩ := aL h
   obtain ⟨g1, h⟩ := aL h
   repeat (refine ⟨by first | with_reducible assumption | omega | (intros; first | assumption | omega) | (simp only [go_sem] at *; first | assumption | omega) | decide, ?_⟩)
   obtain rfl := Option.some.inj h
   refine aI (eG (dN (jZ hF [.tmp 4, .tmp 5] rfl rfl rfl ?_)))
   (try simp only [lY, aW, go_sem]) <;> first | rfl | (simp; done)
  ·try simp only [go_sem] at hc
   have h := gO (by first | exact hc | omega | (simpa using hc) | (simp at hc ⊢; omega)) h
   refine cO (aI (aH (aG hF [0, 1, 6, 7] ?_)))
   simp only [go_sem]
   obtain ⟨g0, h⟩ := aL h
   obtain ⟨g1, h⟩ := aL h
   try simp only [I64, I32] at g0
   repeat (refine ⟨by first | with_reducible assumption | omega | (intros; first | assumption | omega) | (simp only [go_sem] at *; first | assumption | omega) | decide, ?_⟩)
   refine aI (aH (cD hF [0, 6, 7, 8, 9] ?_))
   simp only [go_sem]
   obtain ⟨g0, h⟩ := aL h
   repeat (refine ⟨by first | with_reducible assumption | omega | (intros; first | assumption | omega) | (simp only [go_sem] at *; first | assumption | omega) | decide, ?_⟩)
   obtain ⟨g0, h⟩ := aL h
   repeat (refine ⟨by first | with_reducible assumption | omega | (intros; first | assumption | omega) | (simp only [go_sem] at *; first | assumption | omega) | decide, ?_⟩)
   obtain ⟨g0, h⟩ := aL h
   repeat (refine ⟨by first | with_reducible assumption | omega | (intros; first | assumption | omega) | (simp only [go_sem] at *; first | assumption | omega) | decide, ?_⟩)
   obtain ⟨g0, h⟩ := aL h
   try simp only [I64, I32] at g0
   repeat (refine ⟨by first | with_reducible assumption | omega | (intros; first | assumption | omega) | (simp only [go_sem] at *; first | assumption | omega) | decide, ?_⟩)
   obtain ⟨g0, h⟩ := aL h
   repeat (refine ⟨by first | with_reducible assumption | omega | (intros; first | assumption | omega) | (simp only [go_sem] at *; first | assumption | omega) | decide, ?_⟩)
   refine aI (aH (cD hF [0, 6, 7, 8, 9, 10] ?_))
   simp only [go_sem]
   obtain ⟨g0, h⟩ := aL h
   try simp only [I64, I32] at g0
   repeat (refine ⟨by first | with_reducible assumption | omega | (intros; first | assumption | omega) | (simp only [go_sem] at *; first | assumption | omega) | decide, ?_⟩)
   obtain ⟨g0, h⟩ := aL h
   try simp only [I64, I32] at g0
   repeat (refine ⟨by first | with_reducible assumption | omega | (intros; first | assumption | omega) | (simp only [go_sem] at *; first | assumption | omega) | decide, ?_⟩)
   obtain ⟨g0, h⟩ := aL h
   obtain ⟨g1, h⟩ := aL h
   repeat (refine ⟨by first | with_reducible assumption | omega | (intros; first | assumption | omega) | (simp only [go_sem] at *; first | assumption | omega) | decide, ?_⟩)
   refine aI (kI (D := (List Nat) × (List Nat)) (fun d => qR b_1 d.1 d.2 = some r) [6, 7] (fun d => [(9, .own 0), (10, .own 1)]) (fun d => [.inr (.row 54 (.u .u64) d.1), .inr (.row 54 (.u .u64) d.2)]) ?_ ?_)
   ·refine aH (aG hF [6, 7, 8, 9, 10, 11] ?_)
    simp only [go_sem]
    obtain ⟨g0, h⟩ := aL h
    try simp only [I64, I32] at g0
    repeat (refine ⟨by first | with_reducible assumption | omega | (intros; first | assumption | omega) | (simp only [go_sem] at *; first | assumption | omega) | decide, ?_⟩)
    refine aI (iA (aDK 0 ?_))
    simp only [go_sem]
    refine aSI [1, 2] rfl rfl ?_
    simp only [ren, jK, sK, posOf, iE, go_sem]
    refine aAw (D := Int × (List Nat) × (List Nat)) [6, 7, 8] (fun d => [(9, .own 0), (10, .own 1), (11, .val (.i .i64) d.1)]) (fun d => [.inr (.row 54 (.u .u64) d.2.1), .inr (.row 54 (.u .u64) d.2.2)]) h ?_ ?_ ?_
    ·first | rfl | (simp only [go_sem]; done)
    ·(try simp only [kH, gB, true_or, and_self, go_sem]) <;> (repeat' apply And.intro) <;> first | rfl | (left; rfl) | (right; rfl) | (left; simp only [go_sem]; done) | (right; simp only [go_sem]; done) | (simp; done) | (simp only [*]; done) | omega
    rintro ⟨j_14, u_15, q_16⟩ s9 h hs9
    simp only [go_sem]
    try dsimp only at h
    unfold kJ at h
    refine aH (aH (aG hF [6, 7, 8, 9, 10, 11, 60] ?_))
    simp only [go_sem]
    refine aI (cA rfl (fun hc => ?_) (fun hc => ?_))
    ·try simp only [go_sem] at hc
     have h := gN (by first | exact hc | omega | (simpa using hc) | (simp at hc ⊢; omega)) h
     obtain ⟨g0, h⟩ := aL h
     try simp only [I64, I32] at g0
     obtain ⟨g1, h⟩ := aL h
     try simp only [I64, I32] at g1
     obtain ⟨g2, h⟩ := aL h
     obtain ⟨r_24, he1, h⟩ := bind_some h
     try dsimp only at h
     obtain ⟨g3, h⟩ := aL h
     refine cO (aI (aH (iA (bM hF (dB (l := [(124, ⟨wS, [0], ((j_14.toNat), ((((j_14 + (((b_1.length) : Nat) : Int)) + (1 : Int)) - j_14).toNat), (cX (bH b_1 (aC (b_1.getD (((((b_1.length) : Nat) : Int) - (1 : Int)).toNat) (0 : Nat)))) (((b_1.length) : Nat) : Int)), u_15, r_24)⟩)]) (.cons aOq (by kernel_rfl) (.nil))) [6, 7, 8, 9, 10, 11] [71] ?_))))
     simp only [go_sem]
     repeat (refine ⟨by first | with_reducible assumption | omega | (intros; first | assumption | omega) | (simp only [go_sem] at *; first | assumption | omega) | decide, ?_⟩)
     refine gR (aI (aG hF [6, 7, 8, 9, 10, 11] ?_))
     simp only [go_sem]
     obtain ⟨g0, h⟩ := aL h
     try simp only [I64, I32] at g0
     repeat (refine ⟨by first | with_reducible assumption | omega | (intros; first | assumption | omega) | (simp only [go_sem] at *; first | assumption | omega) | decide, ?_⟩)
     obtain rfl := Option.some.inj h
     dsimp only [xY] at hs9
     refine bI (aO (((j_14 - (1 : Int)), (r_24.2), (q_16.set (j_14.toNat) (r_24.1)))) hs9 rfl ?_)
     ·(try simp only [kH, gB, true_or, and_self, go_sem]) <;> (repeat' apply And.intro) <;> first | rfl | (left; rfl) | (right; rfl) | (left; simp only [go_sem]; done) | (right; simp only [go_sem]; done) | (simp; done) | (simp only [*]; done) | omega
    ·try simp only [go_sem] at hc
     have h := gO (by first | exact hc | omega | (simpa using hc) | (simp at hc ⊢; omega)) h
     obtain rfl := Option.some.inj h
     dsimp only [xY] at hs9
     have h := hs9
     try dsimp only at h
     refine xU (eV (eV (iY (bI (aO ((u_15, q_16)) h rfl ?_)))))
     ·(try simp only [kH, gB, true_or, and_self, go_sem]) <;> (repeat' apply And.intro) <;> first | rfl | (left; rfl) | (right; rfl) | (left; simp only [go_sem]; done) | (right; simp only [go_sem]; done) | (simp; done) | (simp only [*]; done) | omega
   ·rintro ⟨u_11, q_12⟩ h
    try dsimp only at h
    simp only [go_sem]
    unfold qR at h
    refine aH (aDK 1 ?_)
    simp only [go_sem]
    refine aDK 0 ?_
    simp only [go_sem]
    refine aG hF [4, 5] ?_
    simp only [go_sem]
    obtain ⟨g0, h⟩ := aL h
    obtain ⟨g1, h⟩ := aL h
    repeat (refine ⟨by first | with_reducible assumption | omega | (intros; first | assumption | omega) | (simp only [go_sem] at *; first | assumption | omega) | decide, ?_⟩)
    obtain rfl := Option.some.inj h
    refine aI (eG (jZ hF [.tmp 4, .tmp 5] rfl rfl rfl ?_))
    (try simp only [lY, aW, go_sem]) <;> first | rfl | (simp; done)
theorem aAe : FOK Tryz.prog GL 62 jD := dS aLW (fun ⟨x0, x1, u⟩ ⟨w0, w1, wu⟩ hp => aJV x0 w0 x1 w1 hp)
end Nu
end Go.Proofs
namespace Go.Proofs
open Go.Vc
set_option maxRecDepth 20000
namespace Nu
noncomputable def dD (d_0 : (Bool × ((List Nat) × (Int × Unit)))) : Option Bool :=
 if (((((d_0.2).1).length) : Nat) : Int) = (0 : Int) then some ((!(d_0.1)) && (decide ((((d_0.2).2).1) = (0 : Int)))) else ck ((((aAB ((d_0.2).1)) = true) → ((0 : Int) < (((((d_0.2).1).length) : Nat) : Int)))) (some ((((aAB ((d_0.2).1)) && (decide (((((d_0.2).1).getD (0 : Nat) (0 : Nat)) &&& (1 : Nat)) = (1 : Nat)))) && (decide ((-1048576 : Int) ≤ (((d_0.2).2).1)))) && (decide ((((d_0.2).2).1) ≤ (1048576 : Int)))))
def aGP : PlR := ⟨[(0, .B [1]), (1, .A [1, 6]), (2, .A [2]), (3, .A [2])], []⟩
def aJW : Ty := .pair (.pair .bool (.pair (.sl (.u .u64)) (.pair (.i .i64) .unit))) .unit
noncomputable def fW : aK := mSpec aJW (.one .bool) (fun x => dD x.1)
noncomputable def aJX : List (FuncId × aK) := [(81, aBe)]
theorem aRA : bL Tryz.prog GL aJX := .cons aRt (by kernel_rfl) (.nil)
theorem aLX : gam aJX 81 = some aBe := rfl
attribute [go_sem] aJW aGP aLX
set_option maxHeartbeats 4000000 in
theorem vN : FOK Tryz.prog GL 29 fW := by
 refine bK (bC aRA) mix Tryz.func29 rfl (by kernel_rfl) (by decide) aGP fun w0 S x Θ hw h hF => ?_
 obtain ⟨(d_0 : (Bool × ((List Nat) × (Int × Unit)))), u⟩ := x
 simp only [bR, go_sem]
 replace h : sat (dD d_0) _ := h
 unfold dD at h
 refine cJ h (fun hc h => ?_) fun hc h => ?_
 ·exact aJ hF [.tmp 2] rfl rfl rfl (aB h) (by simp only [aW, go_sem])
 ·refine aF h fun g0 h => ?_
  exact aJ hF [.tmp 2] rfl rfl rfl (aB h) (by simp only [aW, go_sem])
attribute [go_sem] fW
noncomputable def dP (d_0 : (Bool × ((List Nat) × (Int × Unit)))) : Option Int :=
 ck (((dD d_0).isSome = true)) (if (¬ (((dD d_0).getD false) = true)) ∨ ((((((d_0.2).1).length) : Nat) : Int) = (0 : Int)) then some (0 : Int) else if (d_0.1) = true then some (-1 : Int) else some (1 : Int))
def aEE : PlR := ⟨[(0, .B [1]), (1, .A [1, 3]), (2, .A [2]), (3, .A [13]), (4, .A [2]), (5, .A [2])], []⟩
def aGQ : Ty := .pair (.pair .bool (.pair (.sl (.u .u64)) (.pair (.i .i64) .unit))) .unit
noncomputable def wT : aK := mSpec aGQ (.one (.i .i64)) (fun x => dP x.1)
noncomputable def aGR : List (FuncId × aK) := [(29, fW)]
theorem aQg : bL Tryz.prog GL aGR := .cons vN (by kernel_rfl) (.nil)
theorem aJY : gam aGR 29 = some fW := rfl
attribute [go_sem] aGQ aEE aJY
set_option maxHeartbeats 4000000 in
theorem aOr : FOK Tryz.prog GL 82 wT := by
 refine bK (bC aQg) mix Tryz.func82 rfl (by kernel_rfl) (by decide) aEE fun w0 S x Θ hw h hF => ?_
 obtain ⟨(d_0 : (Bool × ((List Nat) × (Int × Unit)))), u⟩ := x
 simp only [bR, go_sem]
 replace h : sat (dP d_0) _ := h
 unfold dP at h
 refine aF h fun g0 h => ?_
 refine ⟨fun hc => ?_, fun hc => ?_⟩
 ·replace h := eC (by first | exact hc | omega | (simpa using hc) | (simp at hc ⊢; omega)) h
  exact aJ hF [.tmp 2] rfl rfl rfl (aB h) (by simp only [aW, go_sem])
 ·replace h := eE (by first | exact hc | omega | (simpa using hc) | (simp at hc ⊢; omega)) h
  refine aJv h (fun hc h => ?_) fun hc h => ?_
  ·exact aJ hF [.tmp 2] rfl rfl rfl (aB h) (by simp only [aW, go_sem])
  ·exact aJ hF [.tmp 2] rfl rfl rfl (aB h) (by simp only [aW, go_sem])
attribute [go_sem] wT
noncomputable def mU (a_0 : (Bool × ((List Nat) × (Int × Unit)))) (b_1 : (Bool × ((List Nat) × (Int × Unit)))) : Option Int :=
 ck ((aJB ((a_0.2).1))) (ck (I64 ((aZ ((a_0.2).1)) + (((a_0.2).2).1))) (ck ((aJB ((b_1.2).1))) (ck (I64 ((aZ ((b_1.2).1)) + (((b_1.2).2).1))) (if ((aZ ((a_0.2).1)) + (((a_0.2).2).1)) < ((aZ ((b_1.2).1)) + (((b_1.2).2).1)) then some (-1 : Int) else if ((aZ ((b_1.2).1)) + (((b_1.2).2).1)) < ((aZ ((a_0.2).1)) + (((a_0.2).2).1)) then some (1 : Int) else ck (I64 ((((a_0.2).2).1) - (min (((a_0.2).2).1) (((b_1.2).2).1)))) (ck ((aGA ((a_0.2).1) ((((a_0.2).2).1) - (min (((a_0.2).2).1) (((b_1.2).2).1))))) (ck (I64 ((((b_1.2).2).1) - (min (((a_0.2).2).1) (((b_1.2).2).1)))) (ck ((aGA ((b_1.2).1) ((((b_1.2).2).1) - (min (((a_0.2).2).1) (((b_1.2).2).1))))) (ck ((aS5 (bH ((a_0.2).1) ((((a_0.2).2).1) - (min (((a_0.2).2).1) (((b_1.2).2).1)))) (bH ((b_1.2).1) ((((b_1.2).2).1) - (min (((a_0.2).2).1) (((b_1.2).2).1)))))) (some (mQ (bH ((a_0.2).1) ((((a_0.2).2).1) - (min (((a_0.2).2).1) (((b_1.2).2).1)))) (bH ((b_1.2).1) ((((b_1.2).2).1) - (min (((a_0.2).2).1) (((b_1.2).2).1))))))))))))))
def aEF : PlR := ⟨[(0, .B [2, 3]), (1, .A [2, 3, 5, 6]), (2, .A [2, 3, 5, 6, 20]), (3, .A [4]), (4, .A [2, 3, 24]), (5, .A [4]), (6, .A [2, 3, 7]), (7, .A [4])], []⟩
def aGS : Ty := .pair (.pair .bool (.pair (.sl (.u .u64)) (.pair (.i .i64) .unit))) (.pair (.pair .bool (.pair (.sl (.u .u64)) (.pair (.i .i64) .unit))) .unit)
noncomputable def wU : aK := mSpec aGS (.one (.i .i64)) (fun x => mU x.1 x.2.1)
noncomputable def zH : List (FuncId × aK) := [(119, pN), (68, jB), (89, mR)]
theorem aQh : bL Tryz.prog GL zH := .cons aEu (by kernel_rfl) (.cons zF (by kernel_rfl) (.cons aCp (by kernel_rfl) (.nil)))
theorem aH1 : gam zH 119 = some pN := rfl
theorem aJZ : gam zH 68 = some jB := rfl
theorem aJ0 : gam zH 89 = some mR := rfl
attribute [go_sem] aGS aEF aH1 aJZ aJ0
set_option maxHeartbeats 4000000 in
theorem aOs : FOK Tryz.prog GL 83 wU := by
 refine bK (bC aQh) mix Tryz.func83 rfl (by kernel_rfl) (by decide) aEF fun w0 S x Θ hw h hF => ?_
 obtain ⟨(a_0 : (Bool × ((List Nat) × (Int × Unit)))), (b_1 : (Bool × ((List Nat) × (Int × Unit)))), u⟩ := x
 simp only [bR, go_sem]
 replace h : sat (mU a_0 b_1) _ := h
 unfold mU at h
 refine aF h fun g0 h => aF h fun g1 h => aF h fun g2 h => aF h fun g3 h => ?_
 refine dE h (fun hc h => ?_) fun hc h => ?_
 ·exact aJ hF [.tmp 4] rfl rfl rfl (aB h) (by simp only [aW, go_sem])
 ·refine dE h (fun hc h => ?_) fun hc h => ?_
  ·exact aJ hF [.tmp 4] rfl rfl rfl (aB h) (by simp only [aW, go_sem])
  ·refine aF h fun g0 h => aF h fun g1 h => aF h fun g2 h => aF h fun g3 h => aF h fun g4 h => ?_
   exact aJ hF [.tmp 4] rfl rfl rfl (aB h) (by simp only [aW, go_sem])
attribute [go_sem] wU
noncomputable def gG (a_0 : (Bool × ((List Nat) × (Int × Unit)))) (b_1 : (Bool × ((List Nat) × (Int × Unit)))) : Option Int :=
 ck (((dP a_0).isSome = true)) (ck (((dP b_1).isSome = true)) (ck (((dD a_0).isSome = true)) (ck ((¬ (¬ (((dD a_0).getD false) = true)) → (((dD b_1).isSome = true)))) (if (¬ (((dD a_0).getD false) = true)) ∨ (¬ (((dD b_1).getD false) = true)) then some (0 : Int) else if (¬ (((dP a_0).getD (0 : Int)) = ((dP b_1).getD (0 : Int)))) ∧ (((dP a_0).getD (0 : Int)) < ((dP b_1).getD (0 : Int))) then some (-1 : Int) else if ¬ (((dP a_0).getD (0 : Int)) = ((dP b_1).getD (0 : Int))) then some (1 : Int) else if ((dP a_0).getD (0 : Int)) = (0 : Int) then some (0 : Int) else ck (((mU a_0 b_1).isSome = true)) (ck (I64 (((dP a_0).getD (0 : Int)) * ((mU a_0 b_1).getD (0 : Int)))) (some (((dP a_0).getD (0 : Int)) * ((mU a_0 b_1).getD (0 : Int)))))))))
def aGT : PlR := ⟨[(0, .B [2, 3]), (1, .A [2, 3, 5, 6]), (2, .A [2, 3, 5, 6, 11]), (3, .A [4]), (4, .A [2, 3, 5, 6, 20]), (5, .A [4]), (6, .A [2, 3, 5, 29]), (7, .A [4]), (8, .A [2, 3, 5, 33]), (9, .A [4]), (10, .A [4])], []⟩
def aJ1 : Ty := .pair (.pair .bool (.pair (.sl (.u .u64)) (.pair (.i .i64) .unit))) (.pair (.pair .bool (.pair (.sl (.u .u64)) (.pair (.i .i64) .unit))) .unit)
noncomputable def zI : aK := mSpec aJ1 (.one (.i .i64)) (fun x => gG x.1 x.2.1)
noncomputable def aBl : List (FuncId × aK) := [(29, fW), (82, wT), (83, wU)]
theorem aRB : bL Tryz.prog GL aBl := .cons vN (by kernel_rfl) (.cons aOr (by kernel_rfl) (.cons aOs (by kernel_rfl) (.nil)))
theorem aLY : gam aBl 29 = some fW := rfl
theorem aLZ : gam aBl 82 = some wT := rfl
theorem aL0 : gam aBl 83 = some wU := rfl
attribute [go_sem] aJ1 aGT aLY aLZ aL0
set_option maxHeartbeats 4000000 in
theorem aQi : FOK Tryz.prog GL 31 zI := by
 refine bK (bC aRB) mix Tryz.func31 rfl (by kernel_rfl) (by decide) aGT fun w0 S x Θ hw h hF => ?_
 obtain ⟨(a_0 : (Bool × ((List Nat) × (Int × Unit)))), (b_1 : (Bool × ((List Nat) × (Int × Unit)))), u⟩ := x
 simp only [bR, go_sem]
 replace h : sat (gG a_0 b_1) _ := h
 unfold gG at h
 obtain ⟨g0, h⟩ := aD h
 obtain ⟨g1, h⟩ := aD h
 repeat (refine ⟨by first | with_reducible assumption | omega | (intros; first | assumption | omega) | (simp only [go_sem] at *; first | assumption | omega) | decide, ?_⟩)
 obtain ⟨g0, h⟩ := aD h
 obtain ⟨g1, h⟩ := aD h
 repeat (refine ⟨by first | with_reducible assumption | omega | (intros; first | assumption | omega) | (simp only [go_sem] at *; first | assumption | omega) | (intro q0; (try have e1 := g1 (by first | exact q0 | omega | (simpa using q0))); first | assumption | omega) | decide, ?_⟩)
 refine ⟨fun hc => ?_, fun hc => ?_⟩
 ·replace h := eC (by first | exact hc | omega | (simpa using hc) | (simp at hc ⊢; omega)) h
  exact aJ hF [.tmp 4] rfl rfl rfl (aB h) (by simp only [aW, go_sem])
 ·replace h := eE (by first | exact hc | omega | (simpa using hc) | (simp at hc ⊢; omega)) h
  refine ⟨fun hc => ?_, fun hc => ?_⟩
  ·replace h := eC (by first | exact hc | omega | (simpa using hc) | (simp at hc ⊢; omega)) h
   exact aJ hF [.tmp 4] rfl rfl rfl (aB h) (by simp only [aW, go_sem])
  ·replace h := eE (by first | exact hc | omega | (simpa using hc) | (simp at hc ⊢; omega)) h
   refine ⟨fun hc => ?_, fun hc => ?_⟩
   ·replace h := eC hc h
    exact aJ hF [.tmp 4] rfl rfl rfl (aB h) (by simp only [aW, go_sem])
   ·replace h := eE (by first | exact hc | omega | simpa using hc) h
    refine cJ h (fun hc h => ?_) fun hc h => ?_
    ·exact aJ hF [.tmp 4] rfl rfl rfl (aB h) (by simp only [aW, go_sem])
    ·obtain ⟨g0, h⟩ := aD h
     obtain ⟨g1, h⟩ := aD h
     try simp only [I64, I32] at g1
     repeat (refine ⟨by first | with_reducible assumption | omega | (intros; first | assumption | omega) | (simp only [go_sem] at *; first | assumption | omega) | decide, ?_⟩)
     exact aJ hF [.tmp 4] rfl rfl rfl (aB h) (by simp only [aW, go_sem])
attribute [go_sem] zI
noncomputable def dL (d_0 : (Bool × ((List Nat) × (Int × Unit)))) : Option (Bool × ((List Nat) × (Int × Unit))) :=
 ck ((aRj ((d_0.2).1))) (some ((d_0.1), (id ((d_0.2).1)), (((d_0.2).2).1), ()))
def aCx : PlR := ⟨[(0, .B [1, 2]), (1, .B [1, 2]), (2, .B [2])], []⟩
def aDp : Ty := .pair (.pair .bool (.pair (.sl (.u .u64)) (.pair (.i .i64) .unit))) .unit
noncomputable def sY : aK := mSpec aDp (.one (.pair .bool (.pair (.sl (.u .u64)) (.pair (.i .i64) .unit)))) (fun x => dL x.1)
noncomputable def aDq : List (FuncId × aK) := [(120, bS)]
theorem aL1 : bL Tryz.prog GL aDq := .cons fO (by kernel_rfl) (.nil)
theorem aEG : gam aDq 120 = some bS := rfl
attribute [go_sem] aDp aCx aEG
set_option maxHeartbeats 4000000 in
theorem aJ2 : FOK Tryz.prog GL 103 sY := by
 refine bK (bC aL1) mix Tryz.func103 rfl (by kernel_rfl) (by decide) aCx fun w0 S x Θ hw h hF => ?_
 obtain ⟨(d_0 : (Bool × ((List Nat) × (Int × Unit)))), u⟩ := x
 simp only [bR, go_sem]
 replace h : sat (dL d_0) _ := h
 unfold dL at h
 refine aF h fun g0 h => ?_
 exact aJ hF [.cell 2 25] rfl rfl rfl (aB h) (by simp only [aW, go_sem])
attribute [go_sem] sY
noncomputable def cF (d_0 : (Bool × ((List Nat) × (Int × Unit)))) : Option (Bool × ((List Nat) × (Int × Unit))) :=
 ck (((dL d_0).isSome = true)) (ck (((dD ((dL d_0).getD (false, ([] : List Nat), (0 : Int), ()))).isSome = true)) (if (((dD ((dL d_0).getD (false, ([] : List Nat), (0 : Int), ()))).getD false) = true) ∧ ((0 : Int) < (((((((dL d_0).getD (false, ([] : List Nat), (0 : Int), ())).2).1).length) : Nat) : Int)) then some ((!(((dL d_0).getD (false, ([] : List Nat), (0 : Int), ())).1)), ((((dL d_0).getD (false, ([] : List Nat), (0 : Int), ())).2).1), (((((dL d_0).getD (false, ([] : List Nat), (0 : Int), ())).2).2).1), ()) else some ((dL d_0).getD (false, ([] : List Nat), (0 : Int), ()))))
def aGU : PlR := ⟨[(0, .B [1, 2]), (1, .B [1, 2]), (2, .A [1, 2, 12]), (3, .B [1, 2]), (4, .B [2])], []⟩
def aJ3 : Ty := .pair (.pair .bool (.pair (.sl (.u .u64)) (.pair (.i .i64) .unit))) .unit
noncomputable def zJ : aK := mSpec aJ3 (.one (.pair .bool (.pair (.sl (.u .u64)) (.pair (.i .i64) .unit)))) (fun x => cF x.1)
noncomputable def aDY : List (FuncId × aK) := [(103, sY), (29, fW)]
theorem aRC : bL Tryz.prog GL aDY := .cons aJ2 (by kernel_rfl) (.cons vN (by kernel_rfl) (.nil))
theorem aJ4 : gam aDY 103 = some sY := rfl
theorem aL2 : gam aDY 29 = some fW := rfl
attribute [go_sem] aJ3 aGU aJ4 aL2
set_option maxHeartbeats 4000000 in
theorem aQj : FOK Tryz.prog GL 52 zJ := by
 refine bK (bC aRC) mix Tryz.func52 rfl (by kernel_rfl) (by decide) aGU fun w0 S x Θ hw h hF => ?_
 obtain ⟨(d_0 : (Bool × ((List Nat) × (Int × Unit)))), u⟩ := x
 simp only [bR, go_sem]
 replace h : sat (cF d_0) _ := h
 unfold cF at h
 refine aF h fun g0 h => ?_
 refine aF h fun g0 h => ?_
 refine ⟨fun hc => ?_, fun hc => ?_⟩
 ·replace h := eC hc h
  exact aJ hF [.cell 2 25] rfl rfl rfl (aB h) (by simp only [aW, go_sem])
 ·replace h := eE hc h
  exact aJ hF [.cell 2 25] rfl rfl rfl (aB h) (by simp only [aW, go_sem])
attribute [go_sem] zJ
noncomputable def gV (is_0 : Bool) (e_1 : Int) : Option (Unit ⊕ (Int × Unit)) :=
 if ¬ (is_0 = true) then some (.inr (e_1, ())) else some (.inl ())
noncomputable def dM : oJ where
 D := Bool × Int × (Unit ⊕ (Int × Unit))
 av := fun d => [.val .bool d.1, .val (.i .i64) d.2.1]
 hp := fun d => []
 m := 0
 pre := fun d => gV d.1 d.2.1 = some d.2.2
 out := fun d => match d.2.2 with | .inl r => .ret (.tup []) [] | .inr p => .pan ⟨165, (.pair (.i .i64) .unit), p⟩ []
noncomputable def aEH : List (FuncId × aK) := []
theorem aEI : bL Tryz.prog GL aEH := .nil
set_option maxHeartbeats 4000000 in
theorem fN : GOK Tryz.prog GL 109 dM := by
 refine vG (bC aEI) Tryz.func109 rfl (by kernel_rfl) (fun _ => Nat.le_of_ble_eq_true rfl) fun c0 w0 d hw1 hw2 h hn => ?_
 have hF : lZ ⟨Tryz.prog, EM aEH, GM dM c0 d, w0, Tryz.f109.ntmps, []⟩ := ⟨bC aEI, mix⟩
 obtain ⟨(is_0 : Bool), (e_1 : Int), r⟩ := d
 replace h : gV is_0 e_1 = some r := h
 have hw1 : AV.wfL [.val .bool is_0, .val (.i .i64) e_1] := hw1
 simp only [AV.wfL, AV.wfV, Ty.wf, qX] at hw1
 show Tri _ _ _ [(0, .val .bool is_0), (1, .val (.i .i64) e_1)] []
 unfold gV at h
 refine aH (aG hF [1, 5] ?_)
 simp only [go_sem]
 refine aI (cA rfl (fun hc => ?_) (fun hc => ?_))
 ·try simp only [go_sem] at hc
  have h := gN (by first | exact hc | omega | (simpa using hc) | (simp at hc ⊢; omega)) h
  refine bM hF (dB (l := []) (.nil)) [] [] ?_
  simp only [go_sem]
  repeat (refine ⟨by first | with_reducible assumption | omega | (intros; first | assumption | omega) | (simp only [go_sem] at *; first | assumption | omega) | decide, ?_⟩)
  obtain rfl := Option.some.inj h
  refine oK rfl rfl rfl rfl
 ·try simp only [go_sem] at hc
  have h := gO (by first | exact hc | omega | (simpa using hc) | (simp at hc ⊢; omega)) h
  obtain rfl := Option.some.inj h
  refine cO (aA6 (wL hF [] rfl rfl rfl rfl rfl rfl ?_))
  (try simp only [aW, aCe, aBM, gB, qE, AV.isAgg, go_sem]) <;> first | trivial | rfl | (simp; done)
attribute [go_sem] dM
noncomputable def jR (l_1 : (List (Bool × ((List Nat) × (Int × Unit))))) (x15_13 : Int) : Option ((Int) ⊕ ((Unit) ⊕ (Int × Unit))) :=
 if x15_13 < (((l_1.length) : Nat) : Int) then ck (0 ≤ x15_13 ∧ x15_13 < (((l_1.length) : Nat) : Int)) (ck (((dD (l_1.getD (x15_13.toNat) (false, ([] : List Nat), (0 : Int), ()))).isSome = true)) (((gV ((dD (l_1.getD (x15_13.toNat) (false, ([] : List Nat), (0 : Int), ()))).getD false) (1 : Int))).bind (fun e => match e with | .inl r_19 => ck (I64 (x15_13 + (1 : Int))) (some (.inl (x15_13 + (1 : Int)))) | .inr p_20 => some (.inr (.inr p_20))))) else some (.inr (.inl ()))
noncomputable def oY (l_1 : (List (Bool × ((List Nat) × (Int × Unit))))) : Option ((Unit ⊕ (Int × Unit))) :=
 (cE (fun d : Int => jR l_1 d) (0 : Int)).bind (fun e => match e with | (.inl e) => some (.inl ()) | (.inr e) => some (.inr e))
noncomputable def rO (p_0 : Int) (l_1 : (List (Bool × ((List Nat) × (Int × Unit))))) : Option (Unit ⊕ (Int × Unit)) :=
 if (1 : Int) ≤ p_0 then ((gV ((decide ((1 : Int) ≤ p_0)) && (decide (p_0 ≤ (2000 : Int)))) (1 : Int))).bind (fun e => match e with | .inl r_22 => oY l_1 | .inr p_23 => some (.inr p_23)) else ((gV false (1 : Int))).bind (fun e => match e with | .inl r_24 => oY l_1 | .inr p_25 => some (.inr p_25))
noncomputable def sZ : oJ where
 D := Int × (List (Bool × ((List Nat) × (Int × Unit)))) × (Unit ⊕ (Int × Unit))
 av := fun d => [.val (.i .i64) d.1, .val (.sl (.pair .bool (.pair (.sl (.u .u64)) (.pair (.i .i64) .unit)))) d.2.1]
 hp := fun d => []
 m := 0
 pre := fun d => rO d.1 d.2.1 = some d.2.2
 out := fun d => match d.2.2 with | .inl r => .ret (.tup []) [] | .inr p => .pan ⟨165, (.pair (.i .i64) .unit), p⟩ []
noncomputable def aCy : List (FuncId × aK) := [(29, fW)]
theorem aGV : bL Tryz.prog GL aCy := .cons vN (by kernel_rfl) (.nil)
theorem aJ5 : gam aCy 29 = some fW := rfl
attribute [go_sem] aJ5
set_option maxHeartbeats 4000000 in
theorem aEJ : GOK Tryz.prog GL 108 sZ := by
 refine vG (bC aGV) Tryz.func108 rfl (by kernel_rfl) (fun _ => Nat.le_of_ble_eq_true rfl) fun c0 w0 d hw1 hw2 h hn => ?_
 have hF : lZ ⟨Tryz.prog, EM aCy, GM sZ c0 d, w0, Tryz.f108.ntmps, []⟩ := ⟨bC aGV, mix⟩
 obtain ⟨(p_0 : Int), (l_1 : (List (Bool × ((List Nat) × (Int × Unit))))), r⟩ := d
 replace h : rO p_0 l_1 = some r := h
 have hw1 : AV.wfL [.val (.i .i64) p_0, .val (.sl (.pair .bool (.pair (.sl (.u .u64)) (.pair (.i .i64) .unit)))) l_1] := hw1
 simp only [AV.wfL, AV.wfV, Ty.wf, qX] at hw1
 show Tri _ _ _ [(0, .val (.i .i64) p_0), (1, .val (.sl (.pair .bool (.pair (.sl (.u .u64)) (.pair (.i .i64) .unit)))) l_1)] []
 unfold rO at h
 refine kI (D := Unit) (fun d => oY l_1 = some r) [1] (fun d => []) (fun d => []) ?_ ?_
 ·by_cases hq : (1 : Int) ≤ p_0
  ·have h := gN hq h
   obtain ⟨e, he2, h⟩ := bind_some h
   rcases e with r_22 | p_23
   ·try dsimp only at h
    refine bM hF (dB (l := [(109, ⟨dM, [], (((decide ((1 : Int) ≤ p_0)) && (decide (p_0 ≤ (2000 : Int)))), (1 : Int), .inl r_22)⟩)]) (.cons fN (by kernel_rfl) (.nil))) [1] [] ?_
    simp only [go_sem]
    repeat (refine ⟨by first | with_reducible assumption | omega | (intros; first | assumption | omega) | (simp only [go_sem] at *; first | assumption | omega) | decide, ?_⟩)
    refine ⟨fun _ => ?_, fun hx => by first | (exfalso; omega) | (exfalso; simp_all; done)⟩
    repeat (refine ⟨by first | with_reducible assumption | omega | (intros; first | assumption | omega) | (simp only [go_sem] at *; first | assumption | omega) | decide, ?_⟩)
    refine ⟨fun _ => ?_, fun hx => by first | (exfalso; omega) | (exfalso; simp_all; done)⟩
    repeat (refine ⟨by first | with_reducible assumption | omega | (intros; first | assumption | omega) | (simp only [go_sem] at *; first | assumption | omega) | decide, ?_⟩)
    refine bI (aO (()) h rfl ?_)
    ·(try simp only [kH, gB, true_or, and_self, go_sem]) <;> (repeat' apply And.intro) <;> first | rfl | (left; rfl) | (right; rfl) | (left; simp only [go_sem]; done) | (right; simp only [go_sem]; done) | (simp; done) | (simp only [*]; done) | omega
   ·try dsimp only at h
    refine bM hF (dB (l := [(109, ⟨dM, [], (((decide ((1 : Int) ≤ p_0)) && (decide (p_0 ≤ (2000 : Int)))), (1 : Int), .inr p_23)⟩)]) (.cons fN (by kernel_rfl) (.nil))) [1] [] ?_
    simp only [go_sem]
    repeat (refine ⟨by first | with_reducible assumption | omega | (intros; first | assumption | omega) | (simp only [go_sem] at *; first | assumption | omega) | decide, ?_⟩)
    refine ⟨fun _ => ?_, fun hx => by first | (exfalso; omega) | (exfalso; simp_all; done)⟩
    repeat (refine ⟨by first | with_reducible assumption | omega | (intros; first | assumption | omega) | (simp only [go_sem] at *; first | assumption | omega) | decide, ?_⟩)
    refine ⟨fun _ => ?_, fun hx => by first | (exfalso; omega) | (exfalso; simp_all; done)⟩
    repeat (refine ⟨by first | with_reducible assumption | omega | (intros; first | assumption | omega) | (simp only [go_sem] at *; first | assumption | omega) | decide, ?_⟩)
    obtain rfl := Option.some.inj h
    refine jL (oK rfl rfl rfl rfl)
  ·have h := gO hq h
   obtain ⟨e, he3, h⟩ := bind_some h
   rcases e with r_24 | p_25
   ·try dsimp only at h
    refine bM hF (dB (l := [(109, ⟨dM, [], (false, (1 : Int), .inl r_24)⟩)]) (.cons fN (by kernel_rfl) (.nil))) [1] [] ?_
    simp only [go_sem]
    repeat (refine ⟨by first | with_reducible assumption | omega | (intros; first | assumption | omega) | (simp only [go_sem] at *; first | assumption | omega) | decide, ?_⟩)
    first | (refine ⟨fun hx => by first | (exfalso; omega) | (exfalso; simp_all; done), fun _ => ?_⟩) | intro _
    repeat (refine ⟨by first | with_reducible assumption | omega | (intros; first | assumption | omega) | (simp only [go_sem] at *; first | assumption | omega) | decide, ?_⟩)
    first | (refine ⟨fun hx => by first | (exfalso; omega) | (exfalso; simp_all; done), fun _ => ?_⟩) | intro _
    repeat (refine ⟨by first | with_reducible assumption | omega | (intros; first | assumption | omega) | (simp only [go_sem] at *; first | assumption | omega) | decide, ?_⟩)
    refine bI (aO (()) h rfl ?_)
    ·(try simp only [kH, gB, true_or, and_self, go_sem]) <;> (repeat' apply And.intro) <;> first | rfl | (left; rfl) | (right; rfl) | (left; simp only [go_sem]; done) | (right; simp only [go_sem]; done) | (simp; done) | (simp only [*]; done) | omega
   ·try dsimp only at h
    refine bM hF (dB (l := [(109, ⟨dM, [], (false, (1 : Int), .inr p_25)⟩)]) (.cons fN (by kernel_rfl) (.nil))) [1] [] ?_
    simp only [go_sem]
    repeat (refine ⟨by first | with_reducible assumption | omega | (intros; first | assumption | omega) | (simp only [go_sem] at *; first | assumption | omega) | decide, ?_⟩)
    first | (refine ⟨fun hx => by first | (exfalso; omega) | (exfalso; simp_all; done), fun _ => ?_⟩) | intro _
    repeat (refine ⟨by first | with_reducible assumption | omega | (intros; first | assumption | omega) | (simp only [go_sem] at *; first | assumption | omega) | decide, ?_⟩)
    first | (refine ⟨fun hx => by first | (exfalso; omega) | (exfalso; simp_all; done), fun _ => ?_⟩) | intro _
    repeat (refine ⟨by first | with_reducible assumption | omega | (intros; first | assumption | omega) | (simp only [go_sem] at *; first | assumption | omega) | decide, ?_⟩)
    obtain rfl := Option.some.inj h
    refine jL (oK rfl rfl rfl rfl)
 ·rintro u h
  try dsimp only at h
  simp only [go_sem]
  unfold oY at h
  refine aH (aG hF [13, 14, 15] ?_)
  simp only [go_sem]
  refine aI (iA (aAw (D := Int) [13, 14] (fun d => [(15, .val (.i .i64) d)]) (fun d => []) h ?_ ?_ ?_))
  ·first | rfl | (simp only [go_sem]; done)
  ·(try simp only [kH, gB, true_or, and_self, go_sem]) <;> (repeat' apply And.intro) <;> first | rfl | (left; rfl) | (right; rfl) | (left; simp only [go_sem]; done) | (right; simp only [go_sem]; done) | (simp; done) | (simp only [*]; done) | omega
  rintro x15_13 s2 h hs2
  simp only [go_sem]
  try dsimp only at h
  unfold jR at h
  refine aH (aG hF [13, 14, 15, 16] ?_)
  simp only [go_sem]
  refine aI (aH (cA rfl (fun hc => ?_) (fun hc => ?_)))
  ·try simp only [go_sem] at hc
   have h := gN (by first | exact hc | omega | (simpa using hc) | (simp at hc ⊢; omega)) h
   refine cO (aI (aH (iA (aH (cD hF [5, 13, 14, 15] ?_)))))
   simp only [go_sem]
   obtain ⟨g0, h⟩ := aL h
   repeat (refine ⟨by first | with_reducible assumption | omega | (intros; first | assumption | omega) | (simp only [go_sem] at *; first | assumption | omega) | decide, ?_⟩)
   obtain ⟨g0, h⟩ := aL h
   obtain ⟨e, he1, h⟩ := bind_some h
   rcases e with r_19 | p_20
   ·try dsimp only at h
    refine aI (bM hF (dB (l := [(109, ⟨dM, [], (((dD (l_1.getD (x15_13.toNat) (false, ([] : List Nat), (0 : Int), ()))).getD false), (1 : Int), .inl r_19)⟩)]) (.cons fN (by kernel_rfl) (.nil))) [13, 14, 15] [] ?_)
    simp only [go_sem]
    repeat (refine ⟨by first | with_reducible assumption | omega | (intros; first | assumption | omega) | (simp only [go_sem] at *; first | assumption | omega) | decide, ?_⟩)
    refine gR (aI (aG hF [13, 14, 15] ?_))
    simp only [go_sem]
    obtain ⟨g0, h⟩ := aL h
    try simp only [I64, I32] at g0
    repeat (refine ⟨by first | with_reducible assumption | omega | (intros; first | assumption | omega) | (simp only [go_sem] at *; first | assumption | omega) | decide, ?_⟩)
    obtain rfl := Option.some.inj h
    dsimp only [xY] at hs2
    refine bI (qD [] rfl rfl ?_)
    simp only [ren, jK, sK, posOf, iE, go_sem]
    refine aO ((x15_13 + (1 : Int))) hs2 rfl ?_
    ·(try simp only [kH, gB, true_or, and_self, go_sem]) <;> (repeat' apply And.intro) <;> first | rfl | (left; rfl) | (right; rfl) | (left; simp only [go_sem]; done) | (right; simp only [go_sem]; done) | (simp; done) | (simp only [*]; done) | omega
   ·try dsimp only at h
    refine aI (bM hF (dB (l := [(109, ⟨dM, [], (((dD (l_1.getD (x15_13.toNat) (false, ([] : List Nat), (0 : Int), ()))).getD false), (1 : Int), .inr p_20)⟩)]) (.cons fN (by kernel_rfl) (.nil))) [13, 14, 15] [] ?_)
    simp only [go_sem]
    repeat (refine ⟨by first | with_reducible assumption | omega | (intros; first | assumption | omega) | (simp only [go_sem] at *; first | assumption | omega) | decide, ?_⟩)
    obtain rfl := Option.some.inj h
    dsimp only [xY] at hs2
    have h := hs2
    try dsimp only at h
    obtain rfl := Option.some.inj h
    refine aNa (jL (jL (aNa (uN [] rfl rfl ?_))))
    simp only [ren, jK, sK, posOf, iE, go_sem]
    refine oK rfl rfl rfl rfl
  ·try simp only [go_sem] at hc
   have h := gO (by first | exact hc | omega | (simpa using hc) | (simp at hc ⊢; omega)) h
   obtain rfl := Option.some.inj h
   dsimp only [xY] at hs2
   have h := hs2
   try dsimp only at h
   obtain rfl := Option.some.inj h
   refine xU (eV (eV (iY (aA6 (wL hF [] rfl rfl rfl rfl rfl rfl ?_)))))
   (try simp only [aW, aCe, aBM, gB, qE, AV.isAgg, go_sem]) <;> first | trivial | rfl | (simp; done)
attribute [go_sem] sZ
noncomputable def mJ (neg_0 : Bool) (e_8 : Int) (m_10 : (List Nat)) : Option (((Bool × ((List Nat) × (Int × Unit))) ⊕ (Int × Unit))) :=
 ck (((bP neg_0 m_10 e_8).isSome = true)) (((gV (decide (((((bP neg_0 m_10 e_8).getD ((false, ([] : List Nat), (0 : Int), ()), (0 : Int), ())).2).1) = (0 : Int))) ((((bP neg_0 m_10 e_8).getD ((false, ([] : List Nat), (0 : Int), ()), (0 : Int), ())).2).1))).bind (fun e => match e with | .inl r_15 => some (.inl (((bP neg_0 m_10 e_8).getD ((false, ([] : List Nat), (0 : Int), ()), (0 : Int), ())).1)) | .inr p_16 => some (.inr p_16)))
noncomputable def mK (up_5 : Bool) (neg_0 : Bool) (m_7 : (List Nat)) (e_8 : Int) (rest_9 : Bool) : Option (((Bool × ((List Nat) × (Int × Unit))) ⊕ (Int × Unit))) :=
 if (rest_9 = true) ∧ ((up_5 != neg_0) = true) then ck ((aHM m_7 ([1] : List Nat))) (mJ neg_0 e_8 (fR m_7 ([1] : List Nat))) else mJ neg_0 e_8 m_7
noncomputable def rP (neg_0 : Bool) (m_1 : (List Nat)) (e_2 : Int) (rest_3 : Bool) (p_4 : Int) (up_5 : Bool) : Option ((Bool × ((List Nat) × (Int × Unit))) ⊕ (Int × Unit)) :=
 ck ((aJB m_1)) (ck (I64 ((aZ m_1) - p_4)) (if (0 : Int) < ((aZ m_1) - p_4) then ck ((¬ (rest_3 = true) → ((pSz m_1)))) (ck ((aFR m_1 ((aZ m_1) - p_4))) (ck (I64 (e_2 + ((aZ m_1) - p_4))) (mK up_5 neg_0 (cM m_1 ((aZ m_1) - p_4)) (e_2 + ((aZ m_1) - p_4)) (rest_3 || (decide ((bX m_1) < ((aZ m_1) - p_4))))))) else mK up_5 neg_0 m_1 e_2 rest_3))
noncomputable def tA : oJ where
 D := Bool × (List Nat) × Int × Bool × Int × Bool × ((Bool × ((List Nat) × (Int × Unit))) ⊕ (Int × Unit))
 av := fun d => [.val .bool d.1, .val (.sl (.u .u64)) d.2.1, .val (.i .i64) d.2.2.1, .val .bool d.2.2.2.1, .val (.i .i64) d.2.2.2.2.1, .val .bool d.2.2.2.2.2.1]
 hp := fun d => []
 m := 0
 pre := fun d => rP d.1 d.2.1 d.2.2.1 d.2.2.2.1 d.2.2.2.2.1 d.2.2.2.2.2.1 = some d.2.2.2.2.2.2
 out := fun d => match d.2.2.2.2.2.2 with | .inl r => .ret (.val (.pair .bool (.pair (.sl (.u .u64)) (.pair (.i .i64) .unit))) r) [] | .inr p => .pan ⟨165, (.pair (.i .i64) .unit), p⟩ []
noncomputable def oZ : List (FuncId × aK) := [(54, mT), (69, gS), (70, kL), (71, mS), (89, mR)]
theorem aGW : bL Tryz.prog GL oZ := .cons aCw (by kernel_rfl) (.cons wO (by kernel_rfl) (.cons aBf (by kernel_rfl) (.cons aCr (by kernel_rfl) (.cons aCp (by kernel_rfl) (.nil)))))
theorem aJ6 : gam oZ 54 = some mT := rfl
attribute [go_sem] aJ6
theorem aJ7 : gam oZ 69 = some gS := rfl
attribute [go_sem] aJ7
theorem aJ8 : gam oZ 70 = some kL := rfl
attribute [go_sem] aJ8
theorem aJ9 : gam oZ 71 = some mS := rfl
attribute [go_sem] aJ9
theorem aKa : gam oZ 89 = some mR := rfl
attribute [go_sem] aKa
set_option maxHeartbeats 4000000 in
theorem aEK : GOK Tryz.prog GL 110 tA := by
 refine vG (bC aGW) Tryz.func110 rfl (by kernel_rfl) (fun _ => Nat.le_of_ble_eq_true rfl) fun c0 w0 d hw1 hw2 h hn => ?_
 have hF : lZ ⟨Tryz.prog, EM oZ, GM tA c0 d, w0, Tryz.f110.ntmps, []⟩ := ⟨bC aGW, mix⟩
 obtain ⟨(neg_0 : Bool), (m_1 : (List Nat)), (e_2 : Int), (rest_3 : Bool), (p_4 : Int), (up_5 : Bool), r⟩ := d
 replace h : rP neg_0 m_1 e_2 rest_3 p_4 up_5 = some r := h
 have hw1 : AV.wfL [.val .bool neg_0, .val (.sl (.u .u64)) m_1, .val (.i .i64) e_2, .val .bool rest_3, .val (.i .i64) p_4, .val .bool up_5] := hw1
 simp only [AV.wfL, AV.wfV, Ty.wf, qX] at hw1
 show Tri _ _ _ [(0, .val .bool neg_0), (1, .val (.sl (.u .u64)) m_1), (2, .val (.i .i64) e_2), (3, .val .bool rest_3), (4, .val (.i .i64) p_4), (5, .val .bool up_5)] []
 unfold rP at h
 refine aH (cD hF [0, 1, 2, 3, 4, 5, 12] ?_)
 simp only [go_sem]
 refine aI (kI (D := (List Nat) × Int × Bool) (fun d => mK up_5 neg_0 d.1 d.2.1 d.2.2 = some r) [0, 5] (fun d => [(1, .val (.sl (.u .u64)) d.1), (2, .val (.i .i64) d.2.1), (3, .val .bool d.2.2), (12, .ptr 0 [])]) (fun d => [.inr (.box 3 (.val (.pair .bool (.pair (.sl (.u .u64)) (.pair (.i .i64) .unit))) (false, ([] : List Nat), (0 : Int), ())))]) ?_ ?_)
 ·refine aH (aG hF [0, 1, 2, 3, 5, 12, 13] ?_)
  simp only [go_sem]
  obtain ⟨g0, h⟩ := aL h
  obtain ⟨g1, h⟩ := aL h
  try simp only [I64, I32] at g1
  repeat (refine ⟨by first | with_reducible assumption | omega | (intros; first | assumption | omega) | (simp only [go_sem] at *; first | assumption | omega) | decide, ?_⟩)
  refine aI (aH (aG hF [0, 1, 2, 3, 5, 12, 13, 21] ?_))
  simp only [go_sem]
  refine aI (cA rfl (fun hc => ?_) (fun hc => ?_))
  ·try simp only [go_sem] at hc
   have h := gN (by first | exact hc | omega | (simpa using hc) | (simp at hc ⊢; omega)) h
   refine aH (aG hF [0, 1, 2, 3, 5, 12, 13] ?_)
   simp only [go_sem]
   obtain ⟨g0, h⟩ := aL h
   repeat (refine ⟨by first | with_reducible assumption | omega | (intros; first | assumption | omega) | (simp only [go_sem] at *; first | assumption | omega) | (intro q0; (try have e0 := g0 (by first | exact q0 | omega | (simpa using q0))); first | assumption | omega) | decide, ?_⟩)
   refine aI (aG hF [0, 1, 2, 3, 5, 12] ?_)
   simp only [go_sem]
   obtain ⟨g0, h⟩ := aL h
   obtain ⟨g1, h⟩ := aL h
   try simp only [I64, I32] at g1
   repeat (refine ⟨by first | with_reducible assumption | omega | (intros; first | assumption | omega) | (simp only [go_sem] at *; first | assumption | omega) | decide, ?_⟩)
   refine bI (aO (((cM m_1 ((aZ m_1) - p_4)), (e_2 + ((aZ m_1) - p_4)), (rest_3 || (decide ((bX m_1) < ((aZ m_1) - p_4)))))) h rfl ?_)
   ·(try simp only [kH, gB, true_or, and_self, go_sem]) <;> (repeat' apply And.intro) <;> first | rfl | (left; rfl) | (right; rfl) | (left; simp only [go_sem]; done) | (right; simp only [go_sem]; done) | (simp; done) | (simp only [*]; done) | omega
  ·try simp only [go_sem] at hc
   have h := gO (by first | exact hc | omega | (simpa using hc) | (simp at hc ⊢; omega)) h
   refine cO (bI (aO ((m_1, e_2, rest_3)) h rfl ?_))
   ·(try simp only [kH, gB, true_or, and_self, go_sem]) <;> (repeat' apply And.intro) <;> first | rfl | (left; rfl) | (right; rfl) | (left; simp only [go_sem]; done) | (right; simp only [go_sem]; done) | (simp; done) | (simp only [*]; done) | omega
 ·rintro ⟨m_7, e_8, rest_9⟩ h
  try dsimp only at h
  simp only [go_sem]
  unfold mK at h
  refine kI (D := (List Nat)) (fun d => mJ neg_0 e_8 d = some r) [0, 2] (fun d => [(1, .val (.sl (.u .u64)) d), (12, .ptr 0 [])]) (fun d => [.inr (.box 3 (.val (.pair .bool (.pair (.sl (.u .u64)) (.pair (.i .i64) .unit))) (false, ([] : List Nat), (0 : Int), ())))]) ?_ ?_
  ·refine aH (aG hF [0, 1, 2, 12, 40] ?_)
   simp only [go_sem]
   refine aI (cA rfl (fun hc => ?_) (fun hc => ?_))
   ·try simp only [go_sem] at hc
    have h := gN (by first | exact hc | omega | (simpa using hc) | (simp at hc ⊢; omega)) h
    refine aG hF [0, 1, 2, 12] ?_
    simp only [go_sem]
    obtain ⟨g0, h⟩ := aL h
    repeat (refine ⟨by first | with_reducible assumption | omega | (intros; first | assumption | omega) | (simp only [go_sem] at *; first | assumption | omega) | decide, ?_⟩)
    refine bI (aO ((fR m_7 ([1] : List Nat))) h rfl ?_)
    ·(try simp only [kH, gB, true_or, and_self, go_sem]) <;> (repeat' apply And.intro) <;> first | rfl | (left; rfl) | (right; rfl) | (left; simp only [go_sem]; done) | (right; simp only [go_sem]; done) | (simp; done) | (simp only [*]; done) | omega
   ·try simp only [go_sem] at hc
    have h := gO (by first | exact hc | omega | (simpa using hc) | (simp at hc ⊢; omega)) h
    refine cO (bI (aO (m_7) h rfl ?_))
    ·(try simp only [kH, gB, true_or, and_self, go_sem]) <;> (repeat' apply And.intro) <;> first | rfl | (left; rfl) | (right; rfl) | (left; simp only [go_sem]; done) | (right; simp only [go_sem]; done) | (simp; done) | (simp only [*]; done) | omega
  ·rintro m_10 h
   try dsimp only at h
   simp only [go_sem]
   unfold mJ at h
   refine aH (cD hF [12, 14, 15] ?_)
   simp only [go_sem]
   obtain ⟨g0, h⟩ := aL h
   repeat (refine ⟨by first | with_reducible assumption | omega | (intros; first | assumption | omega) | (simp only [go_sem] at *; first | assumption | omega) | decide, ?_⟩)
   obtain ⟨e, he1, h⟩ := bind_some h
   rcases e with r_15 | p_16
   ·try dsimp only at h
    refine aI (aH (bM hF (dB (l := [(109, ⟨dM, [], ((decide (((((bP neg_0 m_10 e_8).getD ((false, ([] : List Nat), (0 : Int), ()), (0 : Int), ())).2).1) = (0 : Int))), ((((bP neg_0 m_10 e_8).getD ((false, ([] : List Nat), (0 : Int), ()), (0 : Int), ())).2).1), .inl r_15)⟩)]) (.cons fN (by kernel_rfl) (.nil))) [12, 14] [] ?_))
    simp only [go_sem]
    repeat (refine ⟨by first | with_reducible assumption | omega | (intros; first | assumption | omega) | (simp only [go_sem] at *; first | assumption | omega) | decide, ?_⟩)
    refine aI (aH (cD hF [12] ?_))
    simp only [go_sem]
    obtain rfl := Option.some.inj h
    refine aI (eG (aCf hF [.cell 12 25] [] rfl rfl rfl rfl rfl rfl rfl rfl rfl ?_))
    (try simp only [aW, aCe, aBM, gB, qE, AV.isAgg, go_sem]) <;> first | trivial | rfl | (simp; done)
   ·try dsimp only at h
    refine aI (aH (bM hF (dB (l := [(109, ⟨dM, [], ((decide (((((bP neg_0 m_10 e_8).getD ((false, ([] : List Nat), (0 : Int), ()), (0 : Int), ())).2).1) = (0 : Int))), ((((bP neg_0 m_10 e_8).getD ((false, ([] : List Nat), (0 : Int), ()), (0 : Int), ())).2).1), .inr p_16)⟩)]) (.cons fN (by kernel_rfl) (.nil))) [12, 14] [] ?_))
    simp only [go_sem]
    repeat (refine ⟨by first | with_reducible assumption | omega | (intros; first | assumption | omega) | (simp only [go_sem] at *; first | assumption | omega) | decide, ?_⟩)
    obtain rfl := Option.some.inj h
    refine jL (uN [] rfl rfl ?_)
    simp only [ren, jK, sK, posOf, iE, go_sem]
    refine oK rfl rfl rfl rfl
attribute [go_sem] tA
noncomputable def mL (a0_0 : Int) (a1_1 : (Bool × ((List Nat) × (Int × Unit)))) (a2_2 : (Bool × ((List Nat) × (Int × Unit)))) (a3_3 : Bool) : Option ((Bool × ((List Nat) × (Int × Unit))) ⊕ (Int × Unit)) :=
 ((rO a0_0 ([a1_1, a2_2] : List (Bool × ((List Nat) × (Int × Unit)))))).bind (fun e => match e with | .inl r_9 => ((gV (decide ((0 : Int) < (((((a2_2.2).1).length) : Nat) : Int))) (4 : Int))).bind (fun e => match e with | .inl r_15 => ck (I64 (a0_0 + (1 : Int))) (ck ((aJB ((a2_2.2).1))) (ck (I64 ((a0_0 + (1 : Int)) + (aZ ((a2_2.2).1)))) (ck ((aJB ((a1_1.2).1))) (ck (I64 (((a0_0 + (1 : Int)) + (aZ ((a2_2.2).1))) - (aZ ((a1_1.2).1)))) (ck ((aGA ((a1_1.2).1) (max (0 : Int) (((a0_0 + (1 : Int)) + (aZ ((a2_2.2).1))) - (aZ ((a1_1.2).1)))))) (ck ((pP (bH ((a1_1.2).1) (max (0 : Int) (((a0_0 + (1 : Int)) + (aZ ((a2_2.2).1))) - (aZ ((a1_1.2).1))))) ((a2_2.2).1))) (ck (I64 ((((a1_1.2).2).1) - (((a2_2.2).2).1))) (ck (I64 (((((a1_1.2).2).1) - (((a2_2.2).2).1)) - (max (0 : Int) (((a0_0 + (1 : Int)) + (aZ ((a2_2.2).1))) - (aZ ((a1_1.2).1)))))) (((rP ((a1_1.1) != (a2_2.1)) ((bG (bH ((a1_1.2).1) (max (0 : Int) (((a0_0 + (1 : Int)) + (aZ ((a2_2.2).1))) - (aZ ((a1_1.2).1))))) ((a2_2.2).1)).1) (((((a1_1.2).2).1) - (((a2_2.2).2).1)) - (max (0 : Int) (((a0_0 + (1 : Int)) + (aZ ((a2_2.2).1))) - (aZ ((a1_1.2).1))))) (decide ((0 : Int) < ((((((bG (bH ((a1_1.2).1) (max (0 : Int) (((a0_0 + (1 : Int)) + (aZ ((a2_2.2).1))) - (aZ ((a1_1.2).1))))) ((a2_2.2).1)).2).1).length) : Nat) : Int))) a0_0 a3_3)).bind (fun e => match e with | .inl r_21 => some (.inl r_21) | .inr p_22 => some (.inr p_22))))))))))) | .inr p_16 => some (.inr p_16)) | .inr p_10 => some (.inr p_10))
noncomputable def nP : oJ where
 D := Int × (Bool × ((List Nat) × (Int × Unit))) × (Bool × ((List Nat) × (Int × Unit))) × Bool × ((Bool × ((List Nat) × (Int × Unit))) ⊕ (Int × Unit))
 av := fun d => [.val (.rp (.i .i64)) d.1, .val (.rp (.pair .bool (.pair (.sl (.u .u64)) (.pair (.i .i64) .unit)))) d.2.1, .val (.rp (.pair .bool (.pair (.sl (.u .u64)) (.pair (.i .i64) .unit)))) d.2.2.1, .val (.rp .bool) d.2.2.2.1]
 hp := fun d => []
 m := 0
 pre := fun d => mL d.1 d.2.1 d.2.2.1 d.2.2.2.1 = some d.2.2.2.2
 out := fun d => match d.2.2.2.2 with | .inl r => .ret (.val (.pair .bool (.pair (.sl (.u .u64)) (.pair (.i .i64) .unit))) r) [] | .inr p => .pan ⟨165, (.pair (.i .i64) .unit), p⟩ []
noncomputable def pA : List (FuncId × aK) := [(62, jD), (68, jB), (89, mR)]
theorem aCz : bL Tryz.prog GL pA := .cons aAe (by kernel_rfl) (.cons zF (by kernel_rfl) (.cons aCp (by kernel_rfl) (.nil)))
theorem aEL : gam pA 62 = some jD := rfl
attribute [go_sem] aEL
theorem aEM : gam pA 68 = some jB := rfl
attribute [go_sem] aEM
theorem aEN : gam pA 89 = some mR := rfl
attribute [go_sem] aEN
set_option maxHeartbeats 4000000 in
theorem aBD : GOK Tryz.prog GL 107 nP := by
 refine vG (bC aCz) Tryz.func107 rfl (by kernel_rfl) (fun _ => Nat.le_of_ble_eq_true rfl) fun c0 w0 d hw1 hw2 h hn => ?_
 have hF : lZ ⟨Tryz.prog, EM pA, GM nP c0 d, w0, Tryz.f107.ntmps, []⟩ := ⟨bC aCz, mix⟩
 obtain ⟨(a0_0 : Int), (a1_1 : (Bool × ((List Nat) × (Int × Unit)))), (a2_2 : (Bool × ((List Nat) × (Int × Unit)))), (a3_3 : Bool), r⟩ := d
 replace h : mL a0_0 a1_1 a2_2 a3_3 = some r := h
 have hw1 : AV.wfL [.val (.rp (.i .i64)) a0_0, .val (.rp (.pair .bool (.pair (.sl (.u .u64)) (.pair (.i .i64) .unit)))) a1_1, .val (.rp (.pair .bool (.pair (.sl (.u .u64)) (.pair (.i .i64) .unit)))) a2_2, .val (.rp .bool) a3_3] := hw1
 simp only [AV.wfL, AV.wfV, Ty.wf, qX] at hw1
 show Tri _ _ _ [(0, .roa (.i .i64) a0_0), (1, .roa (.pair .bool (.pair (.sl (.u .u64)) (.pair (.i .i64) .unit))) a1_1), (2, .roa (.pair .bool (.pair (.sl (.u .u64)) (.pair (.i .i64) .unit))) a2_2), (3, .roa .bool a3_3)] []
 unfold mL at h
 refine aH (cD hF [0, 1, 2, 3, 4] ?_)
 simp only [go_sem]
 obtain ⟨e, he1, h⟩ := bind_some h
 rcases e with r_9 | p_10
 ·try dsimp only at h
  refine aI (aH (bM hF (dB (l := [(108, ⟨sZ, [], (a0_0, ([a1_1, a2_2] : List (Bool × ((List Nat) × (Int × Unit)))), .inl r_9)⟩)]) (.cons aEJ (by kernel_rfl) (.nil))) [0, 1, 2, 3, 4] [] ?_))
  simp only [go_sem]
  repeat (refine ⟨by first | with_reducible assumption | omega | (intros; first | assumption | omega) | (simp only [go_sem] at *; first | assumption | omega) | decide, ?_⟩)
  obtain ⟨e, he2, h⟩ := bind_some h
  rcases e with r_15 | p_16
  ·try dsimp only at h
   refine aI (aH (bM hF (dB (l := [(109, ⟨dM, [], ((decide ((0 : Int) < (((((a2_2.2).1).length) : Nat) : Int))), (4 : Int), .inl r_15)⟩)]) (.cons fN (by kernel_rfl) (.nil))) [0, 1, 2, 3, 4] [] ?_))
   simp only [go_sem]
   repeat (refine ⟨by first | with_reducible assumption | omega | (intros; first | assumption | omega) | (simp only [go_sem] at *; first | assumption | omega) | decide, ?_⟩)
   refine aI (aH (aG hF [0, 1, 2, 3, 4, 5] ?_))
   simp only [go_sem]
   obtain ⟨g0, h⟩ := aL h
   obtain ⟨g1, h⟩ := aL h
   obtain ⟨g2, h⟩ := aL h
   obtain ⟨g3, h⟩ := aL h
   obtain ⟨g4, h⟩ := aL h
   try simp only [I64, I32] at g0
   try simp only [I64, I32] at g2
   try simp only [I64, I32] at g4
   repeat (refine ⟨by first | with_reducible assumption | omega | (intros; first | assumption | omega) | (simp only [go_sem] at *; first | assumption | omega) | decide, ?_⟩)
   refine aI (aH (aG hF [0, 1, 2, 3, 4, 5, 6, 7] ?_))
   simp only [go_sem]
   obtain ⟨g0, h⟩ := aL h
   obtain ⟨g1, h⟩ := aL h
   repeat (refine ⟨by first | with_reducible assumption | omega | (intros; first | assumption | omega) | (simp only [go_sem] at *; first | assumption | omega) | decide, ?_⟩)
   obtain ⟨g0, h⟩ := aL h
   try simp only [I64, I32] at g0
   obtain ⟨g1, h⟩ := aL h
   try simp only [I64, I32] at g1
   obtain ⟨e, he3, h⟩ := bind_some h
   rcases e with r_21 | p_22
   ·try dsimp only at h
    refine aI (aH (bM hF (dB (l := [(110, ⟨tA, [], (((a1_1.1) != (a2_2.1)), ((bG (bH ((a1_1.2).1) (max (0 : Int) (((a0_0 + (1 : Int)) + (aZ ((a2_2.2).1))) - (aZ ((a1_1.2).1))))) ((a2_2.2).1)).1), (((((a1_1.2).2).1) - (((a2_2.2).2).1)) - (max (0 : Int) (((a0_0 + (1 : Int)) + (aZ ((a2_2.2).1))) - (aZ ((a1_1.2).1))))), (decide ((0 : Int) < ((((((bG (bH ((a1_1.2).1) (max (0 : Int) (((a0_0 + (1 : Int)) + (aZ ((a2_2.2).1))) - (aZ ((a1_1.2).1))))) ((a2_2.2).1)).2).1).length) : Nat) : Int))), a0_0, a3_3, .inl r_21)⟩)]) (.cons aEK (by kernel_rfl) (.nil))) [4] [] ?_))
    simp only [go_sem]
    repeat (refine ⟨by first | with_reducible assumption | omega | (intros; first | assumption | omega) | (simp only [go_sem] at *; first | assumption | omega) | decide, ?_⟩)
    obtain rfl := Option.some.inj h
    refine aI (eG (aCf hF [.cell 4 25] [] rfl rfl rfl rfl rfl rfl rfl rfl rfl ?_))
    (try simp only [aW, aCe, aBM, gB, qE, AV.isAgg, go_sem]) <;> first | trivial | rfl | (simp; done)
   ·try dsimp only at h
    refine aI (aH (bM hF (dB (l := [(110, ⟨tA, [], (((a1_1.1) != (a2_2.1)), ((bG (bH ((a1_1.2).1) (max (0 : Int) (((a0_0 + (1 : Int)) + (aZ ((a2_2.2).1))) - (aZ ((a1_1.2).1))))) ((a2_2.2).1)).1), (((((a1_1.2).2).1) - (((a2_2.2).2).1)) - (max (0 : Int) (((a0_0 + (1 : Int)) + (aZ ((a2_2.2).1))) - (aZ ((a1_1.2).1))))), (decide ((0 : Int) < ((((((bG (bH ((a1_1.2).1) (max (0 : Int) (((a0_0 + (1 : Int)) + (aZ ((a2_2.2).1))) - (aZ ((a1_1.2).1))))) ((a2_2.2).1)).2).1).length) : Nat) : Int))), a0_0, a3_3, .inr p_22)⟩)]) (.cons aEK (by kernel_rfl) (.nil))) [4] [] ?_))
    simp only [go_sem]
    repeat (refine ⟨by first | with_reducible assumption | omega | (intros; first | assumption | omega) | (simp only [go_sem] at *; first | assumption | omega) | decide, ?_⟩)
    obtain rfl := Option.some.inj h
    refine jL (uN [] rfl rfl ?_)
    simp only [ren, jK, sK, posOf, iE, go_sem]
    refine oK rfl rfl rfl rfl
  ·try dsimp only at h
   refine aI (aH (bM hF (dB (l := [(109, ⟨dM, [], ((decide ((0 : Int) < (((((a2_2.2).1).length) : Nat) : Int))), (4 : Int), .inr p_16)⟩)]) (.cons fN (by kernel_rfl) (.nil))) [0, 1, 2, 3, 4] [] ?_))
   simp only [go_sem]
   repeat (refine ⟨by first | with_reducible assumption | omega | (intros; first | assumption | omega) | (simp only [go_sem] at *; first | assumption | omega) | decide, ?_⟩)
   obtain rfl := Option.some.inj h
   refine jL (uN [] rfl rfl ?_)
   simp only [ren, jK, sK, posOf, iE, go_sem]
   refine oK rfl rfl rfl rfl
 ·try dsimp only at h
  refine aI (aH (bM hF (dB (l := [(108, ⟨sZ, [], (a0_0, ([a1_1, a2_2] : List (Bool × ((List Nat) × (Int × Unit)))), .inr p_10)⟩)]) (.cons aEJ (by kernel_rfl) (.nil))) [0, 1, 2, 3, 4] [] ?_))
  simp only [go_sem]
  repeat (refine ⟨by first | with_reducible assumption | omega | (intros; first | assumption | omega) | (simp only [go_sem] at *; first | assumption | omega) | decide, ?_⟩)
  obtain rfl := Option.some.inj h
  refine jL (uN [] rfl rfl ?_)
  simp only [ren, jK, sK, posOf, iE, go_sem]
  refine oK rfl rfl rfl rfl
attribute [go_sem] nP
def pB : oJ where
 D := (Bool × ((List Nat) × (Int × Unit))) × Int
 av := fun _ => [.ptr 0 [], .ptr 1 []]
 hp := fun d => [.box 3 (.val (.pair .bool (.pair (.sl (.u .u64)) (.pair (.i .i64) .unit))) d.1), .box 1 (.val (.i .i64) d.2)]
 m := 2
 pre := fun _ => True
 out := fun d => .ret (.tup []) [.box 3 (.val (.pair .bool (.pair (.sl (.u .u64)) (.pair (.i .i64) .unit))) d.1), .box 1 (.val (.i .i64) d.2)]
def pC (x : (Int × Unit)) : oJ where
 D := (Bool × ((List Nat) × (Int × Unit))) × Int
 av := fun _ => [.ptr 0 [], .ptr 1 []]
 hp := fun d => [.box 3 (.val (.pair .bool (.pair (.sl (.u .u64)) (.pair (.i .i64) .unit))) d.1), .box 1 (.val (.i .i64) d.2)]
 m := 2
 pre := fun _ => True
 out := fun d => .ret (.tup []) [.box 3 (.val (.pair .bool (.pair (.sl (.u .u64)) (.pair (.i .i64) .unit))) (false, ([] : List Nat), (0 : Int), ())), .box 1 (.val (.i .i64) x.1)]
theorem aH2 : DOK Tryz.prog GL 151 none pB := by
 refine aNT (bC zG) Tryz.func151 rfl (by kernel_rfl) (fun _ => Nat.le_of_ble_eq_true rfl) rfl fun c w d hw1 hw2 hp hn => ?_
 have hF : lZ ⟨Tryz.prog, EM [], GM pB c d, w, Tryz.f151.ntmps, []⟩ := ⟨bC zG, mix⟩
 obtain ⟨d, e⟩ := d
 show oD _ _ _ [(5, .val .nili ()), (0, .ptr 0 []), (1, .ptr 1 [])] [.box 3 (.val (.pair .bool (.pair (.sl (.u .u64)) (.pair (.i .i64) .unit))) d), .box 1 (.val (.i .i64) e)] _
 simp only [go_sem]
 refine aH (aG hF [0, 1, 2, 9] ?_)
 simp only [go_sem]
 refine aI (cA rfl (fun hc => absurd hc (by decide)) (fun hc => ?_))
 refine cO ?_
 refine qD [0, 1] rfl rfl ?_
 simp only [ren, jK, sK, posOf, iE, go_sem]
 refine aA6 (wL hF [] rfl rfl rfl rfl rfl rfl ?_)
 simp only [aW, aCe, aBM, go_sem]
 try decide
theorem aH3 (x : (Int × Unit)) : DOK Tryz.prog GL 151 (some ⟨165, (.pair (.i .i64) .unit), x⟩) (pC x) := by
 refine aNT (bC zG) Tryz.func151 rfl (by kernel_rfl) (fun _ => Nat.le_of_ble_eq_true rfl) rfl fun c w d hw1 hw2 hp hn => ?_
 have hF : lZ ⟨Tryz.prog, EM [], GM (pC x) c d, w, Tryz.f151.ntmps, []⟩ := ⟨bC zG, mix⟩
 obtain ⟨d, e⟩ := d
 show oD _ _ _ [(5, .val (.ifc 165 (.pair (.i .i64) .unit)) x), (0, .ptr 0 []), (1, .ptr 1 [])] [.box 3 (.val (.pair .bool (.pair (.sl (.u .u64)) (.pair (.i .i64) .unit))) d), .box 1 (.val (.i .i64) e)] _
 simp only [go_sem]
 refine aH (aG hF [0, 1, 2, 9] ?_)
 simp only [go_sem]
 refine aI (cA rfl (fun hc => ?_) (fun hc => absurd hc (by decide)))
 refine aGv hF [] [] [.box 3 (.val (.pair .bool (.pair (.sl (.u .u64)) (.pair (.i .i64) .unit))) (false, ([] : List Nat), (0 : Int), ())), .box 1 (.val (.i .i64) x.1), .box 1 (.val (.pair (.i .i64) .unit) x)] (by decide) ?_ ?_
 ·simp only [go_sem]
  unfold anyS
  intro i hi
  have hi : i = 0 ∨ i = 1 := by revert hi; revert i; decide
  rcases hi with rfl | rfl
  ·simp only [go_sem]
   skip
   unfold anyS
   intro i hi
   have hi : i = 1 ∨ i = 3 := by revert hi; revert i; decide
   rcases hi with rfl | rfl
   ·simp only [go_sem]
    skip
    unfold anyS
    intro i hi
    have hi : i = 2 ∨ i = 3 := by revert hi; revert i; decide
    rcases hi with rfl | rfl
    ·simp only [go_sem]
     skip
     unfold anyS
     intro i hi
     have hi : i = 3 := by revert hi; revert i; decide
     subst hi
     simp only [go_sem]
     skip
     unfold anyS
     intro i hi
     have hi : i = 4 := by revert hi; revert i; decide
     subst hi
     simp only [go_sem]
     skip
     (simp only [anyS, go_sem]) <;> first | exact ⟨rfl, rfl⟩ | trivial
    ·simp only [go_sem]
     skip
     unfold anyS
     intro i hi
     have hi : i = 2 := by revert hi; revert i; decide
     subst hi
     simp only [go_sem]
     skip
     unfold anyS
     intro i hi
     have hi : i = 4 := by revert hi; revert i; decide
     subst hi
     simp only [go_sem]
     skip
     (simp only [anyS, go_sem]) <;> first | exact ⟨rfl, rfl⟩ | trivial
   ·simp only [go_sem]
    skip
    unfold anyS
    intro i hi
    have hi : i = 1 := by revert hi; revert i; decide
    subst hi
    simp only [go_sem]
    skip
    unfold anyS
    intro i hi
    have hi : i = 2 := by revert hi; revert i; decide
    subst hi
    simp only [go_sem]
    skip
    unfold anyS
    intro i hi
    have hi : i = 4 := by revert hi; revert i; decide
    subst hi
    simp only [go_sem]
    skip
    (simp only [anyS, go_sem]) <;> first | exact ⟨rfl, rfl⟩ | trivial
  ·simp only [go_sem]
   skip
   unfold anyS
   intro i hi
   have hi : i = 0 ∨ i = 2 := by revert hi; revert i; decide
   rcases hi with rfl | rfl
   ·simp only [go_sem]
    skip
    unfold anyS
    intro i hi
    have hi : i = 2 ∨ i = 3 := by revert hi; revert i; decide
    rcases hi with rfl | rfl
    ·simp only [go_sem]
     skip
     unfold anyS
     intro i hi
     have hi : i = 3 := by revert hi; revert i; decide
     subst hi
     simp only [go_sem]
     skip
     unfold anyS
     intro i hi
     have hi : i = 4 := by revert hi; revert i; decide
     subst hi
     simp only [go_sem]
     skip
     (simp only [anyS, go_sem]) <;> first | exact ⟨rfl, rfl⟩ | trivial
    ·simp only [go_sem]
     skip
     unfold anyS
     intro i hi
     have hi : i = 2 := by revert hi; revert i; decide
     subst hi
     simp only [go_sem]
     skip
     unfold anyS
     intro i hi
     have hi : i = 4 := by revert hi; revert i; decide
     subst hi
     simp only [go_sem]
     skip
     (simp only [anyS, go_sem]) <;> first | exact ⟨rfl, rfl⟩ | trivial
   ·simp only [go_sem]
    skip
    unfold anyS
    intro i hi
    have hi : i = 0 := by revert hi; revert i; decide
    subst hi
    simp only [go_sem]
    skip
    unfold anyS
    intro i hi
    have hi : i = 3 := by revert hi; revert i; decide
    subst hi
    simp only [go_sem]
    skip
    unfold anyS
    intro i hi
    have hi : i = 4 := by revert hi; revert i; decide
    subst hi
    simp only [go_sem]
    skip
    (simp only [anyS, go_sem]) <;> first | exact ⟨rfl, rfl⟩ | trivial
 refine qD [0, 1] rfl rfl ?_
 simp only [ren, jK, sK, posOf, iE, go_sem]
 refine aA6 (wL hF [] rfl rfl rfl rfl rfl rfl ?_)
 simp only [aW, aCe, aBM, go_sem]
 try decide
noncomputable def cI (c0 : Int) (c1 : (Bool × ((List Nat) × (Int × Unit)))) (c2 : (Bool × ((List Nat) × (Int × Unit)))) (c3 : Bool) : Option ((Bool × ((List Nat) × (Int × Unit))) × Int × Unit) :=
 (mL c0 c1 c2 c3).bind fun q => some (match q with | .inl r => (r, 0, ()) | .inr p => ((false, ([] : List Nat), (0 : Int), ()), p.1, ()))
def pD : Ty := .pair (.clo 107 (.pair (.rp (.i .i64)) (.pair (.rp (.pair .bool (.pair (.sl (.u .u64)) (.pair (.i .i64) .unit)))) (.pair (.rp (.pair .bool (.pair (.sl (.u .u64)) (.pair (.i .i64) .unit)))) (.pair (.rp .bool) .unit))))) .unit
noncomputable def fJ : aK := mSpec pD (.tup (.pair (.pair .bool (.pair (.sl (.u .u64)) (.pair (.i .i64) .unit))) (.pair (.i .i64) .unit))) (fun x => cI x.1.1 x.1.2.1 x.1.2.2.1 x.1.2.2.2.1)
set_option maxHeartbeats 4000000 in
theorem wV : FOK Tryz.prog GL 106 fJ := by
 refine aJu (bC zG) Tryz.func106 rfl (by kernel_rfl) (by decide) fun w0 S x r hw h => ?_
 have hF : lZ (fr Tryz.prog (EM []) S w0 Tryz.f106.ntmps) := ⟨bC zG, mix⟩
 obtain ⟨⟨(c0 : Int), (c1 : (Bool × ((List Nat) × (Int × Unit)))), (c2 : (Bool × ((List Nat) × (Int × Unit)))), (c3 : Bool), u1⟩, u⟩ := x
 replace h : cI c0 c1 c2 c3 = some r := h
 show Tri _ _ _ [(0, .val (.clo 107 (.pair (.rp (.i .i64)) (.pair (.rp (.pair .bool (.pair (.sl (.u .u64)) (.pair (.i .i64) .unit)))) (.pair (.rp (.pair .bool (.pair (.sl (.u .u64)) (.pair (.i .i64) .unit)))) (.pair (.rp .bool) .unit))))) (c0, c1, c2, c3, u1))] []
 unfold cI at h
 obtain ⟨q, hq, h⟩ := bind_some h
 obtain rfl := Option.some.inj h
 refine aH (cD hF [0, 2, 3] ?_)
 simp only [go_sem]
 refine aI (aDg 2 [0, 1] rfl rfl (Nat.zero_le _) (by decide) fun roots hroots => ?_)
 have hF' : lZ { fr Tryz.prog (EM []) S w0 Tryz.f106.ntmps with M := ⟨nothing, S, 2, roots⟩, ds := [⟨.fn (.func 151) ([0, 1].map roots).toArray, #[]⟩] } := ⟨bC zG, mix⟩
 rcases q with q | q
 ·refine aH (bM hF' (dB (l := [(107, ⟨nP, [], (c0, c1, c2, c3, .inl q)⟩)]) (.cons aBD (by kernel_rfl) .nil)) [2, 3] [] ?_)
  simp only [go_sem]
  refine ⟨hq, ?_⟩
  refine aI (eG ?_)
  refine aSS (fn := Tryz.f106) (k := 2) (l2 := [0, 1]) hF' rfl rfl (by decide) rfl (aEp (by kernel_rfl)) ⟨pB, [0, 1], (q, 0)⟩ aH2 rfl [.cell 2 25, .cell 3 3] rfl ?_ ?_
  ·(simp only [pB, go_sem]) <;> first | decide | trivial
  ·(simp only [pB, aW, lY, go_sem]) <;> first | decide | trivial
 ·refine aH (bM hF' (dB (l := [(107, ⟨nP, [], (c0, c1, c2, c3, .inr q)⟩)]) (.cons aBD (by kernel_rfl) .nil)) [2, 3] [] ?_)
  simp only [go_sem]
  refine ⟨hq, ?_⟩
  refine jL ?_
  refine aST (fn := Tryz.f106) (k := 2) (l2 := [0, 1]) hF' rfl rfl (by decide) rfl (aEp (by kernel_rfl)) ⟨pC q, [0, 1], ((false, ([] : List Nat), (0 : Int), ()), 0)⟩ (aH3 q) rfl [.cell 2 25, .cell 3 3] rfl ?_ ?_
  ·(simp only [pC, go_sem]) <;> first | decide | trivial
  ·(simp only [pC, aW, lY, go_sem]) <;> first | decide | trivial
attribute [go_sem] fJ pD
noncomputable def eJ (a_0 : (Bool × ((List Nat) × (Int × Unit)))) (b_1 : (Bool × ((List Nat) × (Int × Unit)))) (p_2 : Int) (up_3 : Bool) : Option ((Bool × ((List Nat) × (Int × Unit))) × (Int × Unit)) :=
 ck (((cI p_2 a_0 b_1 up_3).isSome = true)) (some ((((cI p_2 a_0 b_1 up_3).getD ((false, ([] : List Nat), (0 : Int), ()), (0 : Int), ())).1), ((((cI p_2 a_0 b_1 up_3).getD ((false, ([] : List Nat), (0 : Int), ()), (0 : Int), ())).2).1), ()))
def wW : Ty := .pair (.pair .bool (.pair (.sl (.u .u64)) (.pair (.i .i64) .unit))) (.pair (.pair .bool (.pair (.sl (.u .u64)) (.pair (.i .i64) .unit))) (.pair (.i .i64) (.pair .bool .unit)))
attribute [go_sem] wW
noncomputable def uS : aK := mSpec wW (.tup (.pair (.pair .bool (.pair (.sl (.u .u64)) (.pair (.i .i64) .unit))) (.pair (.i .i64) .unit))) (fun x => eJ x.1 x.2.1 x.2.2.1 x.2.2.2.1)
noncomputable def aBm : List (FuncId × aK) := [(106, fJ)]
theorem aEO : bL Tryz.prog GL aBm := .cons wV (by kernel_rfl) (.nil)
theorem aF2 : gam aBm 106 = some fJ := rfl
attribute [go_sem] aF2
set_option maxHeartbeats 4000000 in
theorem aL3 : FOK Tryz.prog GL 55 uS := by
 refine xK (bC aEO) Tryz.func55 rfl (by kernel_rfl) (by decide) fun w0 S x r hw h => ?_
 have hF : lZ (fr Tryz.prog (EM aBm) S w0 Tryz.f55.ntmps) := ⟨bC aEO, mix⟩
 obtain ⟨(a_0 : (Bool × ((List Nat) × (Int × Unit)))), (b_1 : (Bool × ((List Nat) × (Int × Unit)))), (p_2 : Int), (up_3 : Bool), u⟩ := x
 simp only [wW, Ty.wf, qX] at hw
 simp only [bR, wW]
 try dsimp only at h
 unfold eJ at h
 refine aH (cD hF [4, 5, 6, 7, 8] ?_)
 simp only [go_sem]
 refine aI (aH (xZ 2 rfl ?_))
 simp only [go_sem]
 refine xZ 0 rfl ?_
 simp only [go_sem]
 refine xZ 1 rfl ?_
 simp only [go_sem]
 refine xZ 3 rfl ?_
 simp only [go_sem]
 refine cD hF [8, 9] ?_
 simp only [go_sem]
 obtain ⟨g0, h⟩ := aL h
 repeat (refine ⟨by first | with_reducible assumption | omega | (intros; first | assumption | omega) | (simp only [go_sem] at *; first | assumption | omega) | decide, ?_⟩)
 obtain rfl := Option.some.inj h
 refine aI (eG (jZ hF [.cell 8 25, .tmp 9] rfl rfl rfl ?_))
 (try simp only [lY, aW, go_sem]) <;> first | rfl | (simp; done)
attribute [go_sem] uS
end Nu
end Go.Proofs
namespace Go.Proofs
open Go.Vc
set_option maxRecDepth 20000
namespace Nu
noncomputable def nG : Option ((Int × (Unit × Unit))) :=
 none
noncomputable def jS (s_0 : (List Nat)) (n_14 : Int) : Option ((Int × (Unit × Unit))) :=
 ck ((0 : Int) < (((s_0.length) : Nat) : Int)) (if (s_0.getD (0 : Nat) (0 : Nat)) = (45 : Nat) then ck (I64 (0 - n_14)) (some ((0 - n_14), (), ())) else some (n_14, (), ()))
noncomputable def eP (s_9 : (List Nat)) (n_15 : Int) (x49_16 : Int) : Option ((Int × Int) ⊕ ((Int) ⊕ (Int × (Unit × Unit)))) :=
 if x49_16 < (((s_9.length) : Nat) : Int) then ck (0 ≤ x49_16 ∧ x49_16 < (((s_9.length) : Nat) : Int)) (if (9 : Nat) < (gQ .u8 (s_9.getD (x49_16.toNat) (0 : Nat)) (48 : Nat)) then none else ck (I64 (n_15 * (10 : Int))) (ck (I64 ((n_15 * (10 : Int)) + (((gQ .u8 (s_9.getD (x49_16.toNat) (0 : Nat)) (48 : Nat)) : Nat) : Int))) (ck (I64 (x49_16 + (1 : Int))) (some (.inl (((n_15 * (10 : Int)) + (((gQ .u8 (s_9.getD (x49_16.toNat) (0 : Nat)) (48 : Nat)) : Nat) : Int)), (x49_16 + (1 : Int)))))))) else some (.inr (.inl n_15))
noncomputable def fC (s_0 : (List Nat)) (s_9 : (List Nat)) : Option ((Int × (Unit × Unit))) :=
 (cE (fun d : Int × Int => eP s_9 d.1 d.2) ((0 : Int), (0 : Int))).bind (fun e => match e with | (.inl e) => jS s_0 e | (.inr e) => some e)
noncomputable def iL (s_0 : (List Nat)) : Option (Int × (Unit × Unit)) :=
 if ((False) ∧ (((0 : Int) < (((s_0.length) : Nat) : Int)) ∧ ((((s_0.length) : Nat) : Int) < (10 : Int)))) ∨ ((True) ∧ (((0 : Int) < (((s_0.length) : Nat) : Int)) ∧ ((((s_0.length) : Nat) : Int) < (19 : Int)))) then ck ((0 : Int) < (((s_0.length) : Nat) : Int)) (ck ((¬ ((s_0.getD (0 : Nat) (0 : Nat)) = (45 : Nat)) → ((0 : Int) < (((s_0.length) : Nat) : Int)))) (if ((s_0.getD (0 : Nat) (0 : Nat)) = (45 : Nat)) ∨ ((s_0.getD (0 : Nat) (0 : Nat)) = (43 : Nat)) then ck ((1 : Int) ≤ (((s_0.length) : Nat) : Int)) (if ((((List.drop (1 : Nat) s_0).length) : Nat) : Int) < (1 : Int) then none else fC s_0 (List.drop (1 : Nat) s_0)) else fC s_0 s_0)) else nG
def aAF : PlR := ⟨[(0, .A [0]), (1, .A [0, 4]), (2, .A [0, 30]), (3, .A [0, 5]), (4, .A [0, 5, 39]), (5, .A [0, 5]), (6, .A [0, 5, 44]), (7, .A [2, 3]), (8, .A [0, 5, 6]), (9, .A [5, 6, 47, 48, 49]), (10, .A [5, 6, 47, 48, 49, 50]), (11, .A [5, 6, 8, 47, 48, 49]), (12, .A [5, 6, 8, 47, 48, 49]), (13, .A [5, 6, 8, 47, 48, 49, 56]), (14, .A [2, 3]), (15, .A [5, 6, 47, 48, 49]), (16, .A [5, 6, 47, 48, 49]), (17, .A [6, 66]), (18, .A [6]), (19, .A [2, 3]), (20, .stop)], [(5, 23), (7, 11), (12, 20)]⟩
def aBE : Ty := .pair .str .unit
noncomputable def pQ : aK := mSpec aBE (.tup (.pair (.i .i64) (.pair .nili .unit))) (fun x => iL x.1)
noncomputable def aH4 : List (FuncId × aK) := []
theorem aH5 : bL Tryz.prog GL aH4 := .nil
attribute [go_sem] aBE aAF
set_option maxHeartbeats 4000000 in
theorem aF3 : FOK Tryz.prog GL 154 pQ := by
 refine bK (bC aH5) mix Tryz.func154 rfl (by kernel_rfl) (by decide) aAF fun w0 S x Θ hw h hF => ?_
 obtain ⟨(s_0 : (List Nat)), u⟩ := x
 simp only [bR, go_sem]
 replace h : sat (iL s_0) _ := h
 unfold iL at h
 refine bY hF (D := Unit) (fun d => sat (nG) Θ) [0] (fun d => []) (fun d => []) ?_ ?_
 ·simp only [go_sem]
  refine ⟨fun hc => ?_, fun hc => ?_⟩
  ·replace h := eC (by first | exact hc | omega | (simpa using hc) | (simp at hc ⊢; omega)) h
   refine bY hF (D := (List Nat)) (fun d => sat (fC s_0 d) Θ) [5] (fun d => [(0, .val .str d)]) (fun d => []) ?_ ?_
   ·simp only [go_sem]
    refine aF h fun g0 h => aF h fun g1 h => ?_
    refine ⟨fun hc => ?_, fun hc => ?_⟩
    ·replace h := eC hc h
     refine aF h fun g0 h => ?_
     refine dE h (fun hc h => ?_) fun hc h => ?_
     ·exact aCg h
     ·exact aO ((List.drop (1 : Nat) s_0)) h rfl (by simp only [go_sem])
    ·replace h := eE hc h
     exact aO (s_0) h rfl (by simp only [go_sem])
   ·rintro s_9 h
    simp only [go_sem]
    replace h : sat (fC s_0 s_9) _ := h
    unfold fC at h
    refine bY hF (D := Int) (fun d => sat (jS s_0 d) Θ) [5] (fun d => [(6, .val (.i .i64) d)]) (fun d => []) ?_ ?_
    ·simp only [go_sem]
     refine bQ hF (D := Int × Int) [5, 47, 48] (fun d => [(6, .val (.i .i64) d.1), (49, .val (.i .i64) d.2)]) (fun d => []) h rfl (by simp only [go_sem]) ?_
     rintro ⟨n_15, x49_16⟩ A10 T10 hA10 hE10 h
     simp only [go_sem]
     replace h : sat (eP s_9 n_15 x49_16) _ := h
     unfold eP at h
     refine dE h (fun hc h => ?_) fun hc h => ?_
     ·refine aF h fun g0 h => ?_
      refine cJ h (fun hc h => ?_) fun hc h => ?_
      ·exact aCg h
      ·refine aF h fun g0 h => aF h fun g1 h => ?_
       refine aF h fun g0 h => ?_
       replace h := hA10 _ (aB h)
       exact aO _ h rfl (by simp only [go_sem])
     ·replace h := hE10 _ (aB h)
      try dsimp only at h
      exact aO (n_15) h rfl (by simp only [go_sem])
    ·rintro n_14 h
     simp only [go_sem]
     replace h : sat (jS s_0 n_14) _ := h
     unfold jS at h
     refine aF h fun g0 h => ?_
     refine cJ h (fun hc h => ?_) fun hc h => ?_
     ·refine aF h fun g0 h => ?_
      exact aJ hF [.tmp 2, .tmp 3] rfl rfl rfl (aB h) (by simp only [aW, go_sem])
     ·exact aJ hF [.tmp 2, .tmp 3] rfl rfl rfl (aB h) (by simp only [aW, go_sem])
  ·replace h := eE (by first | exact hc | omega | (simpa using hc) | (simp at hc ⊢; omega)) h
   exact aO (()) h rfl (by simp only [go_sem])
 ·rintro u h
  simp only [go_sem]
  replace h : sat (nG) _ := h
  unfold nG at h
  exact aCg h
attribute [go_sem] pQ
noncomputable def dI (s_0 : (List Nat)) : Option (Int × (Unit × Unit)) :=
 ck (((iL s_0).isSome = true)) (some ((((iL s_0).getD ((0 : Int), (), ())).1), (), ()))
def aBF : PlR := ⟨[(0, .A [0]), (1, .A [0, 4, 5]), (2, .A [0, 4, 5, 12]), (4, .A [2, 3])], []⟩
def aCA : Ty := .pair .str .unit
noncomputable def qS : aK := mSpec aCA (.tup (.pair (.i .i64) (.pair .nili .unit))) (fun x => dI x.1)
noncomputable def aCB : List (FuncId × aK) := [(154, pQ)]
theorem aKb : bL Tryz.prog GL aCB := .cons aF3 (by kernel_rfl) (.nil)
theorem aDZ : gam aCB 154 = some pQ := rfl
attribute [go_sem] aCA aBF aDZ
set_option maxHeartbeats 4000000 in
theorem aH6 : FOK Tryz.prog GL 118 qS := by
 refine bK (bC aKb) mix Tryz.func118 rfl (by kernel_rfl) (by decide) aBF fun w0 S x Θ hw h hF => ?_
 obtain ⟨(s_0 : (List Nat)), u⟩ := x
 simp only [bR, go_sem]
 replace h : sat (dI s_0) _ := h
 unfold dI at h
 refine aF h fun g0 h => ?_
 exact aJ hF [.tmp 2, .tmp 3] rfl rfl rfl (aB h) (by simp only [aW, go_sem])
attribute [go_sem] qS
noncomputable def iM (at_1 : Int) (s_0 : (List Nat)) (n_5 : Int) : Option ((Int) ⊕ ((Int))) :=
 ck (I64 (at_1 + n_5)) (ck ((((at_1 + n_5) < (((s_0.length) : Nat) : Int)) → (I64 (at_1 + n_5)))) (ck ((((at_1 + n_5) < (((s_0.length) : Nat) : Int)) → (0 ≤ (at_1 + n_5) ∧ (at_1 + n_5) < (((s_0.length) : Nat) : Int)))) (ck (((((at_1 + n_5) < (((s_0.length) : Nat) : Int)) ∧ ((48 : Nat) ≤ (s_0.getD ((at_1 + n_5).toNat) (0 : Nat)))) → (I64 (at_1 + n_5)))) (ck (((((at_1 + n_5) < (((s_0.length) : Nat) : Int)) ∧ ((48 : Nat) ≤ (s_0.getD ((at_1 + n_5).toNat) (0 : Nat)))) → (0 ≤ (at_1 + n_5) ∧ (at_1 + n_5) < (((s_0.length) : Nat) : Int)))) (if (((at_1 + n_5) < (((s_0.length) : Nat) : Int)) ∧ ((48 : Nat) ≤ (s_0.getD ((at_1 + n_5).toNat) (0 : Nat)))) ∧ ((s_0.getD ((at_1 + n_5).toNat) (0 : Nat)) ≤ (57 : Nat)) then ck (I64 (n_5 + (1 : Int))) (some (.inl (n_5 + (1 : Int)))) else some (.inr n_5))))))
noncomputable def aE (s_0 : (List Nat)) (at_1 : Int) : Option Int :=
 (cE (fun d : Int => iM at_1 s_0 d) (0 : Int)).bind (fun e => some e)
def aDr : PlR := ⟨[(0, .A [0, 1]), (1, .A [0, 1, 5]), (2, .A [0, 1, 5, 27]), (3, .A [0, 1, 5]), (4, .A [4])], []⟩
def aEP : Ty := .pair .str (.pair (.i .i64) .unit)
noncomputable def uT : aK := mSpec aEP (.one (.i .i64)) (fun x => aE x.1 x.2.1)
noncomputable def aOt : List (FuncId × aK) := []
theorem aOu : bL Tryz.prog GL aOt := .nil
attribute [go_sem] aEP aDr
set_option maxHeartbeats 4000000 in
theorem aL4 : FOK Tryz.prog GL 117 uT := by
 refine bK (bC aOu) mix Tryz.func117 rfl (by kernel_rfl) (by decide) aDr fun w0 S x Θ hw h hF => ?_
 obtain ⟨(s_0 : (List Nat)), (at_1 : Int), u⟩ := x
 simp only [bR, go_sem]
 replace h : sat (aE s_0 at_1) _ := h
 unfold aE at h
 refine bQ hF (D := Int) [0, 1] (fun d => [(5, .val (.i .i64) d)]) (fun d => []) h rfl (by simp only [go_sem]) ?_
 rintro n_5 A2 T2 hA2 hE2 h
 simp only [go_sem]
 replace h : sat (iM at_1 s_0 n_5) _ := h
 unfold iM at h
 refine aF h fun g0 h => aF h fun g1 h => aF h fun g2 h => aF h fun g3 h => aF h fun g4 h => ?_
 refine ⟨fun hc => ?_, fun hc => ?_⟩
 ·replace h := eC hc h
  refine aF h fun g0 h => ?_
  replace h := hA2 _ (aB h)
  exact aO _ h rfl (by simp only [go_sem])
 ·replace h := eE hc h
  replace h := hE2 _ (aB h)
  try dsimp only at h
  exact aJ hF [.tmp 4] rfl rfl rfl (aB h) (by simp only [aW, go_sem])
attribute [go_sem] uT
noncomputable def jT (n_1 : Int) (b_0 : Nat) (m_7 : (List Nat)) (x8_8 : Int) : Option (((List Nat) × Int) ⊕ (((List Nat)))) :=
 if x8_8 < n_1 then ck ((aHM m_7 ([b_0] : List Nat))) (ck (I64 (x8_8 + (1 : Int))) (some (.inl ((bD m_7 ([b_0] : List Nat)), (x8_8 + (1 : Int)))))) else some (.inr m_7)
noncomputable def bE (b_0 : Nat) (n_1 : Int) : Option (List Nat) :=
 (cE (fun d : (List Nat) × Int => jT n_1 b_0 d.1 d.2) (([1] : List Nat), (0 : Int))).bind (fun e => some e)
def aEQ : PlR := ⟨[(0, .A [0, 1]), (1, .A [0, 1, 5]), (2, .A [0, 5, 7, 8]), (3, .A [0, 5, 7, 8, 9]), (4, .A [0, 5, 7, 8]), (5, .A [0, 5, 7, 8]), (6, .A [4])], []⟩
def aGX : Ty := .pair (.u .u64) (.pair (.i .i64) .unit)
noncomputable def kN : aK := mSpec aGX (.one (.sl (.u .u64))) (fun x => bE x.1 x.2.1)
noncomputable def aGY : List (FuncId × aK) := [(63, eY)]
theorem aQk : bL Tryz.prog GL aGY := .cons sT (by kernel_rfl) (.nil)
theorem aKc : gam aGY 63 = some eY := rfl
attribute [go_sem] aGX aEQ aKc
set_option maxHeartbeats 4000000 in
theorem aBn : FOK Tryz.prog GL 65 kN := by
 refine bK (bC aQk) mix Tryz.func65 rfl (by kernel_rfl) (by decide) aEQ fun w0 S x Θ hw h hF => ?_
 obtain ⟨(b_0 : Nat), (n_1 : Int), u⟩ := x
 simp only [bR, go_sem]
 replace h : sat (bE b_0 n_1) _ := h
 unfold bE at h
 refine bQ hF (D := (List Nat) × Int) [0, 7] (fun d => [(5, .val (.sl (.u .u64)) d.1), (8, .val (.i .i64) d.2)]) (fun d => []) h rfl (by simp only [go_sem]) ?_
 rintro ⟨m_7, x8_8⟩ A3 T3 hA3 hE3 h
 simp only [go_sem]
 replace h : sat (jT n_1 b_0 m_7 x8_8) _ := h
 unfold jT at h
 refine dE h (fun hc h => ?_) fun hc h => ?_
 ·refine aF h fun g0 h => ?_
  refine aF h fun g0 h => ?_
  replace h := hA3 _ (aB h)
  exact aO _ h rfl (by simp only [go_sem])
 ·replace h := hE3 _ (aB h)
  try dsimp only at h
  exact aJ hF [.tmp 4] rfl rfl rfl (aB h) (by simp only [aW, go_sem])
attribute [go_sem] kN
noncomputable def iN (s_0 : (List Nat)) (m_6 : (List Nat)) (x9_7 : Int) : Option (((List Nat) × Int) ⊕ (((List Nat)))) :=
 if x9_7 < (((s_0.length) : Nat) : Int) then ck (0 ≤ x9_7 ∧ x9_7 < (((s_0.length) : Nat) : Int)) (ck ((aHM m_6 ([10] : List Nat))) (ck ((pSz ([(gQ .u8 (s_0.getD (x9_7.toNat) (0 : Nat)) (48 : Nat))] : List Nat))) (ck ((aHM (bD m_6 ([10] : List Nat)) (uC ([(gQ .u8 (s_0.getD (x9_7.toNat) (0 : Nat)) (48 : Nat))] : List Nat)))) (ck (I64 (x9_7 + (1 : Int))) (some (.inl ((fR (bD m_6 ([10] : List Nat)) (uC ([(gQ .u8 (s_0.getD (x9_7.toNat) (0 : Nat)) (48 : Nat))] : List Nat))), (x9_7 + (1 : Int))))))))) else some (.inr m_6)
noncomputable def dG (s_0 : (List Nat)) : Option (List Nat) :=
 (cE (fun d : (List Nat) × Int => iN s_0 d.1 d.2) (([] : List Nat), (0 : Int))).bind (fun e => some e)
def aDs : PlR := ⟨[(0, .A [0]), (1, .A [0, 3]), (2, .A [3, 7, 8, 9]), (3, .A [3, 7, 8, 9, 10]), (4, .A [3, 5, 7, 8, 9]), (5, .A [3, 7, 8, 9]), (6, .A [3, 7, 8, 9]), (7, .A [2])], []⟩
def aER : Ty := .pair .str .unit
noncomputable def nW : aK := mSpec aER (.one (.sl (.u .u64))) (fun x => dG x.1)
noncomputable def wX : List (FuncId × aK) := [(63, eY), (71, mS), (85, zD)]
theorem aOv : bL Tryz.prog GL wX := .cons sT (by kernel_rfl) (.cons aCr (by kernel_rfl) (.cons aP8 (by kernel_rfl) (.nil)))
theorem aH7 : gam wX 63 = some eY := rfl
theorem aH8 : gam wX 71 = some mS := rfl
theorem aH9 : gam wX 85 = some zD := rfl
attribute [go_sem] aER aDs aH7 aH8 aH9
set_option maxHeartbeats 4000000 in
theorem aDt : FOK Tryz.prog GL 64 nW := by
 refine bK (bC aOv) mix Tryz.func64 rfl (by kernel_rfl) (by decide) aDs fun w0 S x Θ hw h hF => ?_
 obtain ⟨(s_0 : (List Nat)), u⟩ := x
 simp only [bR, go_sem]
 replace h : sat (dG s_0) _ := h
 unfold dG at h
 refine bQ hF (D := (List Nat) × Int) [7, 8] (fun d => [(3, .val (.sl (.u .u64)) d.1), (9, .val (.i .i64) d.2)]) (fun d => []) h rfl (by simp only [go_sem]) ?_
 rintro ⟨m_6, x9_7⟩ A3 T3 hA3 hE3 h
 simp only [go_sem]
 replace h : sat (iN s_0 m_6 x9_7) _ := h
 unfold iN at h
 refine dE h (fun hc h => ?_) fun hc h => ?_
 ·obtain ⟨g0, h⟩ := aD h
  repeat (refine ⟨by omega, ?_⟩)
  obtain ⟨g0, h⟩ := aD h
  obtain ⟨g1, h⟩ := aD h
  obtain ⟨g2, h⟩ := aD h
  repeat (refine ⟨by omega, ?_⟩)
  obtain ⟨g0, h⟩ := aD h
  repeat (refine ⟨by omega, ?_⟩)
  replace h := hA3 _ (aB h)
  exact aO _ h rfl (by simp only [go_sem])
 ·replace h := hE3 _ (aB h)
  try dsimp only at h
  exact aJ hF [.tmp 2] rfl rfl rfl (aB h) (by simp only [aW, go_sem])
attribute [go_sem] nW
noncomputable def gH (all_3 : (List Nat)) (s_0 : (List Nat)) (at_7 : Int) (pow_8 : Int) : Option (((List Nat) × (Int × (Bool × Unit)))) :=
 some (all_3, pow_8, (decide (at_7 = (((s_0.length) : Nat) : Int))), ())
noncomputable def gI (pow_4 : Int) (at_9 : Int) (s_0 : (List Nat)) (all_3 : (List Nat)) (x_10 : Int) : Option (((List Nat) × (Int × (Bool × Unit)))) :=
 ck (I64 (pow_4 + x_10)) (ck (I64 (at_9 + ((aE s_0 at_9).getD (0 : Int)))) (gH all_3 s_0 (at_9 + ((aE s_0 at_9).getD (0 : Int))) (pow_4 + x_10)))
noncomputable def gJ (s_0 : (List Nat)) (at_2 : Int) (pow_4 : Int) (all_3 : (List Nat)) (at_9 : Int) : Option (((List Nat) × (Int × (Bool × Unit)))) :=
 ck (((aE s_0 at_9).isSome = true)) (if (((aE s_0 at_9).getD (0 : Int)) < (1 : Int)) ∨ ((3 : Int) < ((aE s_0 at_9).getD (0 : Int))) then some ((aS ⟨#[]⟩), (0 : Int), false, ()) else ck (I64 (at_9 + ((aE s_0 at_9).getD (0 : Int)))) (ck (0 ≤ at_9 ∧ at_9 ≤ (at_9 + ((aE s_0 at_9).getD (0 : Int))) ∧ (at_9 + ((aE s_0 at_9).getD (0 : Int))) ≤ (((s_0.length) : Nat) : Int)) (ck (((dI (List.drop (at_9.toNat) (List.take ((at_9 + ((aE s_0 at_9).getD (0 : Int))).toNat) s_0))).isSome = true)) (if (100 : Int) < (((dI (List.drop (at_9.toNat) (List.take ((at_9 + ((aE s_0 at_9).getD (0 : Int))).toNat) s_0))).getD ((0 : Int), (), ())).1) then some ((aS ⟨#[]⟩), (0 : Int), false, ()) else if ((at_2 + (1 : Int)) < (((s_0.length) : Nat) : Int)) ∧ ((s_0.getD ((at_2 + (1 : Int)).toNat) (0 : Nat)) = (45 : Nat)) then ck (I64 (0 - (((dI (List.drop (at_9.toNat) (List.take ((at_9 + ((aE s_0 at_9).getD (0 : Int))).toNat) s_0))).getD ((0 : Int), (), ())).1))) (gI pow_4 at_9 s_0 all_3 (0 - (((dI (List.drop (at_9.toNat) (List.take ((at_9 + ((aE s_0 at_9).getD (0 : Int))).toNat) s_0))).getD ((0 : Int), (), ())).1))) else gI pow_4 at_9 s_0 all_3 (((dI (List.drop (at_9.toNat) (List.take ((at_9 + ((aE s_0 at_9).getD (0 : Int))).toNat) s_0))).getD ((0 : Int), (), ())).1)))))
noncomputable def gK (s_0 : (List Nat)) (at_2 : Int) (all_3 : (List Nat)) (pow_4 : Int) : Option (((List Nat) × (Int × (Bool × Unit)))) :=
 ck (((at_2 < (((s_0.length) : Nat) : Int)) → (0 ≤ at_2 ∧ at_2 < (((s_0.length) : Nat) : Int)))) (if (at_2 < (((s_0.length) : Nat) : Int)) ∧ ((s_0.getD (at_2.toNat) (0 : Nat)) = (101 : Nat)) then ck (I64 (at_2 + (1 : Int))) (ck ((((at_2 + (1 : Int)) < (((s_0.length) : Nat) : Int)) → (0 ≤ (at_2 + (1 : Int)) ∧ (at_2 + (1 : Int)) < (((s_0.length) : Nat) : Int)))) (ck ((¬ (((at_2 + (1 : Int)) < (((s_0.length) : Nat) : Int)) ∧ ((s_0.getD ((at_2 + (1 : Int)).toNat) (0 : Nat)) = (45 : Nat))) → ((at_2 + (1 : Int)) < (((s_0.length) : Nat) : Int)) → (0 ≤ (at_2 + (1 : Int)) ∧ (at_2 + (1 : Int)) < (((s_0.length) : Nat) : Int)))) (if (((at_2 + (1 : Int)) < (((s_0.length) : Nat) : Int)) ∧ ((s_0.getD ((at_2 + (1 : Int)).toNat) (0 : Nat)) = (45 : Nat))) ∨ (((at_2 + (1 : Int)) < (((s_0.length) : Nat) : Int)) ∧ ((s_0.getD ((at_2 + (1 : Int)).toNat) (0 : Nat)) = (43 : Nat))) then ck (I64 ((at_2 + (1 : Int)) + (1 : Int))) (gJ s_0 at_2 pow_4 all_3 ((at_2 + (1 : Int)) + (1 : Int))) else gJ s_0 at_2 pow_4 all_3 (at_2 + (1 : Int))))) else gH all_3 s_0 at_2 pow_4)
noncomputable def aR (s_0 : (List Nat)) : Option ((List Nat) × (Int × (Bool × Unit))) :=
 ck (((aE s_0 (0 : Int)).isSome = true)) (ck (0 ≤ ((aE s_0 (0 : Int)).getD (0 : Int)) ∧ ((aE s_0 (0 : Int)).getD (0 : Int)) ≤ (((s_0.length) : Nat) : Int)) (if ((60 : Int) < (((s_0.length) : Nat) : Int)) ∨ (((aE s_0 (0 : Int)).getD (0 : Int)) = (0 : Int)) then some ((aS ⟨#[]⟩), (0 : Int), false, ()) else ck (((((aE s_0 (0 : Int)).getD (0 : Int)) < (((s_0.length) : Nat) : Int)) → (0 ≤ ((aE s_0 (0 : Int)).getD (0 : Int)) ∧ ((aE s_0 (0 : Int)).getD (0 : Int)) < (((s_0.length) : Nat) : Int)))) (if (((aE s_0 (0 : Int)).getD (0 : Int)) < (((s_0.length) : Nat) : Int)) ∧ ((s_0.getD (((aE s_0 (0 : Int)).getD (0 : Int)).toNat) (0 : Nat)) = (46 : Nat)) then ck (I64 (((aE s_0 (0 : Int)).getD (0 : Int)) + (1 : Int))) (ck (((aE s_0 (((aE s_0 (0 : Int)).getD (0 : Int)) + (1 : Int))).isSome = true)) (if ((aE s_0 (((aE s_0 (0 : Int)).getD (0 : Int)) + (1 : Int))).getD (0 : Int)) = (0 : Int) then some ((aS ⟨#[]⟩), (0 : Int), false, ()) else ck (I64 (((aE s_0 (0 : Int)).getD (0 : Int)) + (1 : Int))) (ck (I64 (((aE s_0 (0 : Int)).getD (0 : Int)) + (1 : Int))) (ck (I64 ((((aE s_0 (0 : Int)).getD (0 : Int)) + (1 : Int)) + ((aE s_0 (((aE s_0 (0 : Int)).getD (0 : Int)) + (1 : Int))).getD (0 : Int)))) (ck (0 ≤ (((aE s_0 (0 : Int)).getD (0 : Int)) + (1 : Int)) ∧ (((aE s_0 (0 : Int)).getD (0 : Int)) + (1 : Int)) ≤ ((((aE s_0 (0 : Int)).getD (0 : Int)) + (1 : Int)) + ((aE s_0 (((aE s_0 (0 : Int)).getD (0 : Int)) + (1 : Int))).getD (0 : Int))) ∧ ((((aE s_0 (0 : Int)).getD (0 : Int)) + (1 : Int)) + ((aE s_0 (((aE s_0 (0 : Int)).getD (0 : Int)) + (1 : Int))).getD (0 : Int))) ≤ (((s_0.length) : Nat) : Int)) (ck (((List.take (((aE s_0 (0 : Int)).getD (0 : Int)).toNat) s_0).length) + ((List.drop ((((aE s_0 (0 : Int)).getD (0 : Int)) + (1 : Int)).toNat) (List.take (((((aE s_0 (0 : Int)).getD (0 : Int)) + (1 : Int)) + ((aE s_0 (((aE s_0 (0 : Int)).getD (0 : Int)) + (1 : Int))).getD (0 : Int))).toNat) s_0)).length) ≤ 9223372036854775807) (ck (I64 (0 - ((aE s_0 (((aE s_0 (0 : Int)).getD (0 : Int)) + (1 : Int))).getD (0 : Int)))) (ck (I64 (((aE s_0 (0 : Int)).getD (0 : Int)) + (1 : Int))) (ck (I64 ((((aE s_0 (0 : Int)).getD (0 : Int)) + (1 : Int)) + ((aE s_0 (((aE s_0 (0 : Int)).getD (0 : Int)) + (1 : Int))).getD (0 : Int)))) (gK s_0 ((((aE s_0 (0 : Int)).getD (0 : Int)) + (1 : Int)) + ((aE s_0 (((aE s_0 (0 : Int)).getD (0 : Int)) + (1 : Int))).getD (0 : Int))) ((List.take (((aE s_0 (0 : Int)).getD (0 : Int)).toNat) s_0) ++ (List.drop ((((aE s_0 (0 : Int)).getD (0 : Int)) + (1 : Int)).toNat) (List.take (((((aE s_0 (0 : Int)).getD (0 : Int)) + (1 : Int)) + ((aE s_0 (((aE s_0 (0 : Int)).getD (0 : Int)) + (1 : Int))).getD (0 : Int))).toNat) s_0))) (0 - ((aE s_0 (((aE s_0 (0 : Int)).getD (0 : Int)) + (1 : Int))).getD (0 : Int))))))))))))) else gK s_0 ((aE s_0 (0 : Int)).getD (0 : Int)) (List.take (((aE s_0 (0 : Int)).getD (0 : Int)).toNat) s_0) (0 : Int))))
def aCC : PlR := ⟨[(0, .A [0]), (1, .A [0, 5]), (2, .A [0, 5, 6, 7]), (3, .A [0, 5, 6, 7, 24]), (4, .A [2, 3, 4]), (5, .A [0, 5, 6, 7, 34]), (6, .A [0, 5, 6, 8]), (7, .A [0, 5, 6, 8, 40]), (8, .A [2, 3, 4]), (9, .A [0, 5, 6, 7]), (10, .A [0, 5, 6, 7, 66]), (11, .A [0, 5, 6, 7]), (12, .A [0, 5, 6, 7, 9]), (13, .A [0, 5, 6, 7, 9, 91]), (14, .A [0, 5, 6, 7, 9]), (15, .A [0, 5, 6, 7, 9, 10]), (16, .A [0, 5, 6, 7, 9, 10, 102]), (17, .A [2, 3, 4]), (18, .A [0, 5, 6, 7, 9, 10, 11]), (19, .A [0, 5, 6, 7, 9, 10, 11, 114]), (20, .A [2, 3, 4]), (21, .A [0, 5, 6, 7, 10, 11, 115]), (22, .A [0, 5, 6, 7, 10, 11]), (23, .A [0, 5, 6, 7]), (24, .A [2, 3, 4])], [(8, 13), (13, 27), (16, 18), (24, 26)]⟩
def aDu : Ty := .pair .str .unit
noncomputable def gY : aK := mSpec aDu (.tup (.pair .str (.pair (.i .i64) (.pair .bool .unit)))) (fun x => aR x.1)
noncomputable def aAf : List (FuncId × aK) := [(117, uT), (118, qS)]
theorem aL5 : bL Tryz.prog GL aAf := .cons aL4 (by kernel_rfl) (.cons aH6 (by kernel_rfl) (.nil))
theorem aES : gam aAf 117 = some uT := rfl
theorem aET : gam aAf 118 = some qS := rfl
attribute [go_sem] aDu aCC aES aET
set_option maxHeartbeats 4000000 in
theorem yL : FOK Tryz.prog GL 61 gY := by
 refine bK (bC aL5) mix Tryz.func61 rfl (by kernel_rfl) (by decide) aCC fun w0 S x Θ hw h hF => ?_
 obtain ⟨(s_0 : (List Nat)), u⟩ := x
 simp only [bR, go_sem]
 replace h : sat (aR s_0) _ := h
 unfold aR at h
 obtain ⟨g0, h⟩ := aD h
 repeat (refine ⟨by omega, ?_⟩)
 obtain ⟨g0, h⟩ := aD h
 repeat (refine ⟨by omega, ?_⟩)
 refine ⟨fun hc => ?_, fun hc => ?_⟩
 ·replace h := eC hc h
  exact aJ hF [.tmp 2, .tmp 3, .tmp 4] rfl rfl rfl (aB h) (by simp only [aW, go_sem])
 ·replace h := eE hc h
  refine bY hF (D := Int × (List Nat) × Int) (fun d => sat (gK s_0 d.1 d.2.1 d.2.2) Θ) [0] (fun d => [(5, .val (.i .i64) d.1), (6, .val .str d.2.1), (7, .val (.i .i64) d.2.2)]) (fun d => []) ?_ ?_
  ·simp only [go_sem]
   obtain ⟨g0, h⟩ := aD h
   repeat (refine ⟨by omega, ?_⟩)
   refine ⟨fun hc => ?_, fun hc => ?_⟩
   ·replace h := eC hc h
    obtain ⟨g0, h⟩ := aD h
    obtain ⟨g1, h⟩ := aD h
    repeat (refine ⟨by omega, ?_⟩)
    refine cJ h (fun hc h => ?_) fun hc h => ?_
    ·exact aJ hF [.tmp 2, .tmp 3, .tmp 4] rfl rfl rfl (aB h) (by simp only [aW, go_sem])
    ·obtain ⟨g0, h⟩ := aD h
     obtain ⟨g1, h⟩ := aD h
     obtain ⟨g2, h⟩ := aD h
     obtain ⟨g3, h⟩ := aD h
     obtain ⟨g4, h⟩ := aD h
     obtain ⟨g5, h⟩ := aD h
     obtain ⟨g6, h⟩ := aD h
     obtain ⟨g7, h⟩ := aD h
     repeat (refine ⟨by omega, ?_⟩)
     exact aO ((((((aE s_0 (0 : Int)).getD (0 : Int)) + (1 : Int)) + ((aE s_0 (((aE s_0 (0 : Int)).getD (0 : Int)) + (1 : Int))).getD (0 : Int))), ((List.take (((aE s_0 (0 : Int)).getD (0 : Int)).toNat) s_0) ++ (List.drop ((((aE s_0 (0 : Int)).getD (0 : Int)) + (1 : Int)).toNat) (List.take (((((aE s_0 (0 : Int)).getD (0 : Int)) + (1 : Int)) + ((aE s_0 (((aE s_0 (0 : Int)).getD (0 : Int)) + (1 : Int))).getD (0 : Int))).toNat) s_0))), (0 - ((aE s_0 (((aE s_0 (0 : Int)).getD (0 : Int)) + (1 : Int))).getD (0 : Int))))) h rfl (by simp only [go_sem])
   ·replace h := eE hc h
    exact aO ((((aE s_0 (0 : Int)).getD (0 : Int)), (List.take (((aE s_0 (0 : Int)).getD (0 : Int)).toNat) s_0), (0 : Int))) h rfl (by simp only [go_sem])
  ·rintro ⟨at_2, all_3, pow_4⟩ h
   simp only [go_sem]
   replace h : sat (gK s_0 at_2 all_3 pow_4) _ := h
   unfold gK at h
   refine bY hF (D := Int × Int) (fun d => sat (gH all_3 s_0 d.1 d.2) Θ) [0, 6] (fun d => [(5, .val (.i .i64) d.1), (7, .val (.i .i64) d.2)]) (fun d => []) ?_ ?_
   ·simp only [go_sem]
    obtain ⟨g0, h⟩ := aD h
    repeat (refine ⟨by omega, ?_⟩)
    refine ⟨fun hc => ?_, fun hc => ?_⟩
    ·replace h := eC hc h
     obtain ⟨g0, h⟩ := aD h
     repeat (refine ⟨by omega, ?_⟩)
     obtain ⟨g0, h⟩ := aD h
     repeat (refine ⟨by omega, ?_⟩)
     refine bY hF (D := Int) (fun d => sat (gJ s_0 at_2 pow_4 all_3 d) Θ) [0, 6, 7, 9] (fun d => [(5, .val (.i .i64) d)]) (fun d => []) ?_ ?_
     ·simp only [go_sem]
      obtain ⟨g0, h⟩ := aD h
      repeat (refine ⟨by omega, ?_⟩)
      refine ⟨fun hc => ?_, fun hc => ?_⟩
      ·replace h := eC hc h
       obtain ⟨g0, h⟩ := aD h
       repeat (refine ⟨by omega, ?_⟩)
       exact aO (((at_2 + (1 : Int)) + (1 : Int))) h rfl (by simp only [go_sem])
      ·replace h := eE hc h
       exact aO ((at_2 + (1 : Int))) h rfl (by simp only [go_sem])
     ·rintro at_9 h
      simp only [go_sem]
      replace h : sat (gJ s_0 at_2 pow_4 all_3 at_9) _ := h
      unfold gJ at h
      obtain ⟨g0, h⟩ := aD h
      repeat (refine ⟨by omega, ?_⟩)
      refine ⟨fun hc => ?_, fun hc => ?_⟩
      ·replace h := eC hc h
       exact aJ hF [.tmp 2, .tmp 3, .tmp 4] rfl rfl rfl (aB h) (by simp only [aW, go_sem])
      ·replace h := eE hc h
       obtain ⟨g0, h⟩ := aD h
       obtain ⟨g1, h⟩ := aD h
       obtain ⟨g2, h⟩ := aD h
       repeat (refine ⟨by omega, ?_⟩)
       refine dE h (fun hc h => ?_) fun hc h => ?_
       ·exact aJ hF [.tmp 2, .tmp 3, .tmp 4] rfl rfl rfl (aB h) (by simp only [aW, go_sem])
       ·refine bY hF (D := Int) (fun d => sat (gI pow_4 at_9 s_0 all_3 d) Θ) [0, 5, 6, 7, 10] (fun d => [(11, .val (.i .i64) d)]) (fun d => []) ?_ ?_
        ·simp only [go_sem]
         refine ⟨fun hc => ?_, fun hc => ?_⟩
         ·replace h := eC hc h
          obtain ⟨g0, h⟩ := aD h
          repeat (refine ⟨by omega, ?_⟩)
          exact aO ((0 - (((dI (List.drop (at_9.toNat) (List.take ((at_9 + ((aE s_0 at_9).getD (0 : Int))).toNat) s_0))).getD ((0 : Int), (), ())).1))) h rfl (by simp only [go_sem])
         ·replace h := eE hc h
          exact aO ((((dI (List.drop (at_9.toNat) (List.take ((at_9 + ((aE s_0 at_9).getD (0 : Int))).toNat) s_0))).getD ((0 : Int), (), ())).1)) h rfl (by simp only [go_sem])
        ·rintro x_10 h
         simp only [go_sem]
         replace h : sat (gI pow_4 at_9 s_0 all_3 x_10) _ := h
         unfold gI at h
         obtain ⟨g0, h⟩ := aD h
         obtain ⟨g1, h⟩ := aD h
         repeat (refine ⟨by omega, ?_⟩)
         exact aO (((at_9 + ((aE s_0 at_9).getD (0 : Int))), (pow_4 + x_10))) h rfl (by simp only [go_sem])
    ·replace h := eE hc h
     exact aO ((at_2, pow_4)) h rfl (by simp only [go_sem])
   ·rintro ⟨at_7, pow_8⟩ h
    simp only [go_sem]
    replace h : sat (gH all_3 s_0 at_7 pow_8) _ := h
    unfold gH at h
    exact aJ hF [.tmp 2, .tmp 3, .tmp 4] rfl rfl rfl (aB h) (by simp only [aW, go_sem])
attribute [go_sem] gY
noncomputable def bT (s_0 : (List Nat)) : Option Bool :=
 ck (((aR s_0).isSome = true)) (some (((((aR s_0).getD (([] : List Nat), (0 : Int), false, ())).2).2).1))
def aGZ : PlR := ⟨[(0, .A [0]), (1, .A [5]), (2, .A [2])], []⟩
def aKd : Ty := .pair .str .unit
noncomputable def rQ : aK := mSpec aKd (.one .bool) (fun x => bT x.1)
noncomputable def aKe : List (FuncId × aK) := [(61, gY)]
theorem aRD : bL Tryz.prog GL aKe := .cons yL (by kernel_rfl) (.nil)
theorem aL6 : gam aKe 61 = some gY := rfl
attribute [go_sem] aKd aGZ aL6
set_option maxHeartbeats 4000000 in
theorem aG0 : FOK Tryz.prog GL 23 rQ := by
 refine bK (bC aRD) mix Tryz.func23 rfl (by kernel_rfl) (by decide) aGZ fun w0 S x Θ hw h hF => ?_
 obtain ⟨(s_0 : (List Nat)), u⟩ := x
 simp only [bR, go_sem]
 replace h : sat (bT s_0) _ := h
 unfold bT at h
 refine aF h fun g0 h => ?_
 exact aJ hF [.tmp 2] rfl rfl rfl (aB h) (by simp only [aW, go_sem])
attribute [go_sem] rQ
noncomputable def cC (s_0 : (List Nat)) : Option ((List Nat) × ((List Nat) × (Bool × Unit))) :=
 ck (((aR s_0).isSome = true)) (if ¬ ((((((aR s_0).getD (([] : List Nat), (0 : Int), false, ())).2).2).1) = true) then some (([] : List Nat), ([] : List Nat), false, ()) else ck (((dG (((aR s_0).getD (([] : List Nat), (0 : Int), false, ())).1)).isSome = true)) (ck (((bE (10 : Nat) (max ((((aR s_0).getD (([] : List Nat), (0 : Int), false, ())).2).1) (0 : Int))).isSome = true)) (ck ((aHM ((dG (((aR s_0).getD (([] : List Nat), (0 : Int), false, ())).1)).getD ([] : List Nat)) ((bE (10 : Nat) (max ((((aR s_0).getD (([] : List Nat), (0 : Int), false, ())).2).1) (0 : Int))).getD ([] : List Nat)))) (ck (I64 (0 - ((((aR s_0).getD (([] : List Nat), (0 : Int), false, ())).2).1))) (ck (((bE (10 : Nat) (max (0 - ((((aR s_0).getD (([] : List Nat), (0 : Int), false, ())).2).1)) (0 : Int))).isSome = true)) (some ((bD ((dG (((aR s_0).getD (([] : List Nat), (0 : Int), false, ())).1)).getD ([] : List Nat)) ((bE (10 : Nat) (max ((((aR s_0).getD (([] : List Nat), (0 : Int), false, ())).2).1) (0 : Int))).getD ([] : List Nat))), ((bE (10 : Nat) (max (0 - ((((aR s_0).getD (([] : List Nat), (0 : Int), false, ())).2).1)) (0 : Int))).getD ([] : List Nat)), true, ())))))))
def aEU : PlR := ⟨[(0, .A [0]), (1, .A [5, 6, 7]), (2, .A [5, 6, 15]), (3, .A [2, 3, 4]), (4, .A [2, 3, 4])], []⟩
def aG1 : Ty := .pair .str .unit
noncomputable def wY : aK := mSpec aG1 (.tup (.pair (.sl (.u .u64)) (.pair (.sl (.u .u64)) (.pair .bool .unit)))) (fun x => cC x.1)
noncomputable def vO : List (FuncId × aK) := [(61, gY), (63, eY), (64, nW), (65, kN)]
theorem aQl : bL Tryz.prog GL vO := .cons yL (by kernel_rfl) (.cons sT (by kernel_rfl) (.cons aDt (by kernel_rfl) (.cons aBn (by kernel_rfl) (.nil))))
theorem aKf : gam vO 61 = some gY := rfl
theorem aKg : gam vO 63 = some eY := rfl
theorem aKh : gam vO 64 = some nW := rfl
theorem aKi : gam vO 65 = some kN := rfl
attribute [go_sem] aG1 aEU aKf aKg aKh aKi
set_option maxHeartbeats 4000000 in
theorem aOw : FOK Tryz.prog GL 53 wY := by
 refine bK (bC aQl) mix Tryz.func53 rfl (by kernel_rfl) (by decide) aEU fun w0 S x Θ hw h hF => ?_
 obtain ⟨(s_0 : (List Nat)), u⟩ := x
 simp only [bR, go_sem]
 replace h : sat (cC s_0) _ := h
 unfold cC at h
 refine aF h fun g0 h => ?_
 refine aJw h (fun hc h => ?_) fun hc h => ?_
 ·exact aJ hF [.tmp 2, .tmp 3, .tmp 4] rfl rfl rfl (aB h) (by simp only [aW, go_sem])
 ·refine aF h fun g0 h => aF h fun g1 h => aF h fun g2 h => aF h fun g3 h => aF h fun g4 h => ?_
  exact aJ hF [.tmp 2, .tmp 3, .tmp 4] rfl rfl rfl (aB h) (by simp only [aW, go_sem])
attribute [go_sem] wY
noncomputable def cG (s_0 : (List Nat)) (p_1 : Int) : Option (((Bool × ((List Nat) × (Int × Unit))) × ((Bool × ((List Nat) × (Int × Unit))) × Unit)) × (Int × Unit)) :=
 ck (((cC s_0).isSome = true)) (if ¬ ((((((cC s_0).getD (([] : List Nat), ([] : List Nat), false, ())).2).2).1) = true) then some (((false, ([] : List Nat), (0 : Int), ()), (false, ([] : List Nat), (0 : Int), ()), ()), (6 : Int), ()) else if (p_1 < (1 : Int)) ∨ ((2000 : Int) < p_1) then some (((false, ([] : List Nat), (0 : Int), ()), (false, ([] : List Nat), (0 : Int), ()), ()), (1 : Int), ()) else ck (((bP false (((cC s_0).getD (([] : List Nat), ([] : List Nat), false, ())).1) (0 : Int)).isSome = true)) (ck (((bP false ((((cC s_0).getD (([] : List Nat), ([] : List Nat), false, ())).2).1) (0 : Int)).isSome = true)) (ck (((eJ (((bP false (((cC s_0).getD (([] : List Nat), ([] : List Nat), false, ())).1) (0 : Int)).getD ((false, ([] : List Nat), (0 : Int), ()), (0 : Int), ())).1) (((bP false ((((cC s_0).getD (([] : List Nat), ([] : List Nat), false, ())).2).1) (0 : Int)).getD ((false, ([] : List Nat), (0 : Int), ()), (0 : Int), ())).1) p_1 false).isSome = true)) (ck (((eJ (((bP false (((cC s_0).getD (([] : List Nat), ([] : List Nat), false, ())).1) (0 : Int)).getD ((false, ([] : List Nat), (0 : Int), ()), (0 : Int), ())).1) (((bP false ((((cC s_0).getD (([] : List Nat), ([] : List Nat), false, ())).2).1) (0 : Int)).getD ((false, ([] : List Nat), (0 : Int), ()), (0 : Int), ())).1) p_1 true).isSome = true)) (if (¬ (((((eJ (((bP false (((cC s_0).getD (([] : List Nat), ([] : List Nat), false, ())).1) (0 : Int)).getD ((false, ([] : List Nat), (0 : Int), ()), (0 : Int), ())).1) (((bP false ((((cC s_0).getD (([] : List Nat), ([] : List Nat), false, ())).2).1) (0 : Int)).getD ((false, ([] : List Nat), (0 : Int), ()), (0 : Int), ())).1) p_1 false).getD ((false, ([] : List Nat), (0 : Int), ()), (0 : Int), ())).2).1) = (0 : Int))) ∨ (¬ (((((eJ (((bP false (((cC s_0).getD (([] : List Nat), ([] : List Nat), false, ())).1) (0 : Int)).getD ((false, ([] : List Nat), (0 : Int), ()), (0 : Int), ())).1) (((bP false ((((cC s_0).getD (([] : List Nat), ([] : List Nat), false, ())).2).1) (0 : Int)).getD ((false, ([] : List Nat), (0 : Int), ()), (0 : Int), ())).1) p_1 true).getD ((false, ([] : List Nat), (0 : Int), ()), (0 : Int), ())).2).1) = (0 : Int))) then some (((false, ([] : List Nat), (0 : Int), ()), (false, ([] : List Nat), (0 : Int), ()), ()), (max ((((eJ (((bP false (((cC s_0).getD (([] : List Nat), ([] : List Nat), false, ())).1) (0 : Int)).getD ((false, ([] : List Nat), (0 : Int), ()), (0 : Int), ())).1) (((bP false ((((cC s_0).getD (([] : List Nat), ([] : List Nat), false, ())).2).1) (0 : Int)).getD ((false, ([] : List Nat), (0 : Int), ()), (0 : Int), ())).1) p_1 false).getD ((false, ([] : List Nat), (0 : Int), ()), (0 : Int), ())).2).1) ((((eJ (((bP false (((cC s_0).getD (([] : List Nat), ([] : List Nat), false, ())).1) (0 : Int)).getD ((false, ([] : List Nat), (0 : Int), ()), (0 : Int), ())).1) (((bP false ((((cC s_0).getD (([] : List Nat), ([] : List Nat), false, ())).2).1) (0 : Int)).getD ((false, ([] : List Nat), (0 : Int), ()), (0 : Int), ())).1) p_1 true).getD ((false, ([] : List Nat), (0 : Int), ()), (0 : Int), ())).2).1)), ()) else some (((((eJ (((bP false (((cC s_0).getD (([] : List Nat), ([] : List Nat), false, ())).1) (0 : Int)).getD ((false, ([] : List Nat), (0 : Int), ()), (0 : Int), ())).1) (((bP false ((((cC s_0).getD (([] : List Nat), ([] : List Nat), false, ())).2).1) (0 : Int)).getD ((false, ([] : List Nat), (0 : Int), ()), (0 : Int), ())).1) p_1 false).getD ((false, ([] : List Nat), (0 : Int), ()), (0 : Int), ())).1), (((eJ (((bP false (((cC s_0).getD (([] : List Nat), ([] : List Nat), false, ())).1) (0 : Int)).getD ((false, ([] : List Nat), (0 : Int), ()), (0 : Int), ())).1) (((bP false ((((cC s_0).getD (([] : List Nat), ([] : List Nat), false, ())).2).1) (0 : Int)).getD ((false, ([] : List Nat), (0 : Int), ()), (0 : Int), ())).1) p_1 true).getD ((false, ([] : List Nat), (0 : Int), ()), (0 : Int), ())).1), ()), (0 : Int), ()))))))
def aKj : PlR := ⟨[(0, .B [0, 1, 4]), (1, .A [1, 4, 6, 7, 8]), (2, .A [1, 4, 6, 7, 23]), (3, .B [4, 5]), (4, .A [1, 4, 6, 7, 27]), (5, .B [4, 5]), (6, .B [1, 4, 7, 9]), (7, .B [1, 4, 9, 11]), (8, .B [1, 4, 9, 11, 13, 14]), (9, .B [4, 13, 14, 15, 16]), (10, .A [4, 13, 14, 15, 16, 64]), (11, .B [4, 5]), (12, .B [4, 5])], []⟩
def aNk : Ty := .pair .str (.pair (.i .i64) .unit)
noncomputable def uF : aK := mSpec aNk (.tup (.pair (.pair (.pair .bool (.pair (.sl (.u .u64)) (.pair (.i .i64) .unit))) (.pair (.pair .bool (.pair (.sl (.u .u64)) (.pair (.i .i64) .unit))) .unit)) (.pair (.i .i64) .unit))) (fun x => cG x.1 x.2.1)
noncomputable def aC2 : List (FuncId × aK) := [(53, wY), (54, mT), (55, uS)]
theorem aUg : bL Tryz.prog GL aC2 := .cons aOw (by kernel_rfl) (.cons aCw (by kernel_rfl) (.cons aL3 (by kernel_rfl) (.nil)))
theorem aOx : gam aC2 53 = some wY := rfl
theorem aOy : gam aC2 54 = some mT := rfl
theorem aOz : gam aC2 55 = some uS := rfl
attribute [go_sem] aNk aKj aOx aOy aOz
set_option maxHeartbeats 4000000 in
theorem aKk : FOK Tryz.prog GL 19 uF := by
 refine bK (bC aUg) mix Tryz.func19 rfl (by kernel_rfl) (by decide) aKj fun w0 S x Θ hw h hF => ?_
 obtain ⟨(s_0 : (List Nat)), (p_1 : Int), u⟩ := x
 simp only [bR, go_sem]
 replace h : sat (cG s_0 p_1) _ := h
 unfold cG at h
 refine aF h fun g0 h => ?_
 refine aJw h (fun hc h => ?_) fun hc h => ?_
 ·exact aJ hF [.cell 4 27, .tmp 5] rfl rfl rfl (aB h) (by simp only [aW, go_sem])
 ·refine ⟨fun hc => ?_, fun hc => ?_⟩
  ·replace h := eC hc h
   exact aJ hF [.cell 4 27, .tmp 5] rfl rfl rfl (aB h) (by simp only [aW, go_sem])
  ·replace h := eE hc h
   refine aF h fun g0 h => ?_
   refine aF h fun g0 h => ?_
   refine aF h fun g0 h => ?_
   refine aF h fun g0 h => ?_
   refine ⟨fun hc => ?_, fun hc => ?_⟩
   ·replace h := eC hc h
    exact aJ hF [.cell 4 27, .tmp 5] rfl rfl rfl (aB h) (by simp only [aW, go_sem])
   ·replace h := eE hc h
    exact aJ hF [.cell 4 27, .tmp 5] rfl rfl rfl (aB h) (by simp only [aW, go_sem])
attribute [go_sem] uF
noncomputable def bF (s_0 : (List Nat)) : Option ((Bool × ((List Nat) × (Int × Unit))) × (Int × Unit)) :=
 ck (((aR s_0).isSome = true)) (if ¬ ((((((aR s_0).getD (([] : List Nat), (0 : Int), false, ())).2).2).1) = true) then some ((false, ([] : List Nat), (0 : Int), ()), (6 : Int), ()) else ck (((dG (((aR s_0).getD (([] : List Nat), (0 : Int), false, ())).1)).isSome = true)) (ck (((bE (5 : Nat) (max ((((aR s_0).getD (([] : List Nat), (0 : Int), false, ())).2).1) (0 : Int))).isSome = true)) (ck ((aHM ((dG (((aR s_0).getD (([] : List Nat), (0 : Int), false, ())).1)).getD ([] : List Nat)) ((bE (5 : Nat) (max ((((aR s_0).getD (([] : List Nat), (0 : Int), false, ())).2).1) (0 : Int))).getD ([] : List Nat)))) (ck (I64 (0 - ((((aR s_0).getD (([] : List Nat), (0 : Int), false, ())).2).1))) (ck (((bE (5 : Nat) (max (0 - ((((aR s_0).getD (([] : List Nat), (0 : Int), false, ())).2).1)) (0 : Int))).isSome = true)) (ck ((pP (bD ((dG (((aR s_0).getD (([] : List Nat), (0 : Int), false, ())).1)).getD ([] : List Nat)) ((bE (5 : Nat) (max ((((aR s_0).getD (([] : List Nat), (0 : Int), false, ())).2).1) (0 : Int))).getD ([] : List Nat))) ((bE (5 : Nat) (max (0 - ((((aR s_0).getD (([] : List Nat), (0 : Int), false, ())).2).1)) (0 : Int))).getD ([] : List Nat)))) (ck (((bP false ((bG (bD ((dG (((aR s_0).getD (([] : List Nat), (0 : Int), false, ())).1)).getD ([] : List Nat)) ((bE (5 : Nat) (max ((((aR s_0).getD (([] : List Nat), (0 : Int), false, ())).2).1) (0 : Int))).getD ([] : List Nat))) ((bE (5 : Nat) (max (0 - ((((aR s_0).getD (([] : List Nat), (0 : Int), false, ())).2).1)) (0 : Int))).getD ([] : List Nat))).1) ((((aR s_0).getD (([] : List Nat), (0 : Int), false, ())).2).1)).isSome = true)) (if ((0 : Int) < ((((((bG (bD ((dG (((aR s_0).getD (([] : List Nat), (0 : Int), false, ())).1)).getD ([] : List Nat)) ((bE (5 : Nat) (max ((((aR s_0).getD (([] : List Nat), (0 : Int), false, ())).2).1) (0 : Int))).getD ([] : List Nat))) ((bE (5 : Nat) (max (0 - ((((aR s_0).getD (([] : List Nat), (0 : Int), false, ())).2).1)) (0 : Int))).getD ([] : List Nat))).2).1).length) : Nat) : Int)) ∨ (¬ (((((bP false ((bG (bD ((dG (((aR s_0).getD (([] : List Nat), (0 : Int), false, ())).1)).getD ([] : List Nat)) ((bE (5 : Nat) (max ((((aR s_0).getD (([] : List Nat), (0 : Int), false, ())).2).1) (0 : Int))).getD ([] : List Nat))) ((bE (5 : Nat) (max (0 - ((((aR s_0).getD (([] : List Nat), (0 : Int), false, ())).2).1)) (0 : Int))).getD ([] : List Nat))).1) ((((aR s_0).getD (([] : List Nat), (0 : Int), false, ())).2).1)).getD ((false, ([] : List Nat), (0 : Int), ()), (0 : Int), ())).2).1) = (0 : Int))) then some ((false, ([] : List Nat), (0 : Int), ()), (6 : Int), ()) else some ((((bP false ((bG (bD ((dG (((aR s_0).getD (([] : List Nat), (0 : Int), false, ())).1)).getD ([] : List Nat)) ((bE (5 : Nat) (max ((((aR s_0).getD (([] : List Nat), (0 : Int), false, ())).2).1) (0 : Int))).getD ([] : List Nat))) ((bE (5 : Nat) (max (0 - ((((aR s_0).getD (([] : List Nat), (0 : Int), false, ())).2).1)) (0 : Int))).getD ([] : List Nat))).1) ((((aR s_0).getD (([] : List Nat), (0 : Int), false, ())).2).1)).getD ((false, ([] : List Nat), (0 : Int), ()), (0 : Int), ())).1), (0 : Int), ())))))))))
def aEV : PlR := ⟨[(0, .B [0, 2]), (1, .A [2, 4, 5, 6]), (2, .A [2, 4, 5, 18]), (3, .B [2, 3]), (4, .A [2, 5, 7, 8]), (5, .B [2, 8, 9, 10]), (6, .A [2, 9, 46]), (7, .B [2, 3]), (8, .B [2, 3])], []⟩
def aG2 : Ty := .pair .str .unit
noncomputable def pR : aK := mSpec aG2 (.tup (.pair (.pair .bool (.pair (.sl (.u .u64)) (.pair (.i .i64) .unit))) (.pair (.i .i64) .unit))) (fun x => bF x.1)
noncomputable def pE : List (FuncId × aK) := [(54, mT), (61, gY), (62, jD), (63, eY), (64, nW), (65, kN)]
theorem aQm : bL Tryz.prog GL pE := .cons aCw (by kernel_rfl) (.cons yL (by kernel_rfl) (.cons aAe (by kernel_rfl) (.cons sT (by kernel_rfl) (.cons aDt (by kernel_rfl) (.cons aBn (by kernel_rfl) (.nil))))))
theorem aKl : gam pE 54 = some mT := rfl
theorem aKm : gam pE 61 = some gY := rfl
theorem aKn : gam pE 62 = some jD := rfl
theorem aKo : gam pE 63 = some eY := rfl
theorem aKp : gam pE 64 = some nW := rfl
theorem aKq : gam pE 65 = some kN := rfl
attribute [go_sem] aG2 aEV aKl aKm aKn aKo aKp aKq
set_option maxHeartbeats 4000000 in
theorem aEW : FOK Tryz.prog GL 21 pR := by
 refine bK (bC aQm) mix Tryz.func21 rfl (by kernel_rfl) (by decide) aEV fun w0 S x Θ hw h hF => ?_
 obtain ⟨(s_0 : (List Nat)), u⟩ := x
 simp only [bR, go_sem]
 replace h : sat (bF s_0) _ := h
 unfold bF at h
 refine aF h fun g0 h => ?_
 refine aJw h (fun hc h => ?_) fun hc h => ?_
 ·exact aJ hF [.cell 2 25, .tmp 3] rfl rfl rfl (aB h) (by simp only [aW, go_sem])
 ·refine aF h fun g0 h => aF h fun g1 h => aF h fun g2 h => aF h fun g3 h => aF h fun g4 h => aF h fun g5 h => ?_
  refine aF h fun g0 h => ?_
  refine ⟨fun hc => ?_, fun hc => ?_⟩
  ·replace h := eC hc h
   exact aJ hF [.cell 2 25, .tmp 3] rfl rfl rfl (aB h) (by simp only [aW, go_sem])
  ·replace h := eE hc h
   exact aJ hF [.cell 2 25, .tmp 3] rfl rfl rfl (aB h) (by simp only [aW, go_sem])
attribute [go_sem] pR
end Nu
end Go.Proofs
namespace Go.Proofs
open Go.Shelf
def Tryz.lays285_ren : Go.Shelf.Ren := ⟨fun | 285 => 165 | n => n, fun | 37 => 77 | 53 => 54 | 3 => 3 | 4 => 4 | 51 => 96 | 9 => 9 | 5 => 5 | 0 => 0 | n => n, fun | n => n⟩
theorem Tryz.lays285 : Go.Proofs.Lays.n285 Tryz.prog Tryz.lays285_ren := {
 mixed := by kernel_rfl
 f285 := Tryz.func165.trans (congrArg some (by kernel_rfl))
 t0 := Tryz.underlying0
 a0 := Tryz.isAgg0
 z0 := Tryz.sizeOf0
 v0 := Tryz.zeroValue0
 t3 := Tryz.underlying3
 a3 := Tryz.isAgg3
 z3 := Tryz.sizeOf3
 v3 := Tryz.zeroValue3
 t4 := Tryz.underlying4
 a4 := Tryz.isAgg4
 z4 := Tryz.sizeOf4
 v4 := Tryz.zeroValue4
 t5 := Tryz.underlying5
 a5 := Tryz.isAgg5
 z5 := Tryz.sizeOf5
 v5 := Tryz.zeroValue5
 t9 := Tryz.underlying9
 a9 := Tryz.isAgg9
 z9 := Tryz.sizeOf9
 v9 := Tryz.zeroValue9
 t37 := Tryz.underlying77
 a37 := Tryz.isAgg77
 z37 := Tryz.sizeOf77
 v37 := Tryz.zeroValue77
 t51 := Tryz.underlying96
 a51 := Tryz.isAgg96
 z51 := Tryz.sizeOf96
 v51 := Tryz.zeroValue96
 t53 := Tryz.underlying54
 a53 := Tryz.isAgg54
 z53 := Tryz.sizeOf54
 v53 := Tryz.zeroValue54 }
open Go.Vc
set_option maxRecDepth 20000
namespace Nu
def dgs (n u : Nat) : List Nat := (List.range n).map fun t => 48 + u / 10 ^ (n - 1 - t) % 10
theorem qT (n u : Nat) : (dgs n u).length = n := by simp [dgs]
noncomputable def dT (uo un u : Nat) (xs : List Nat) : Option (List Nat) :=
 ck (uo + un ≤ 24) (ck (u < 10 ^ un) (some (xs.take uo ++ dgs un u ++ xs.drop (uo + un))))
noncomputable def lF : oJ where
 D := Nat × Nat × Nat × (List Nat) × ((List Nat))
 av := fun d => [.sub 0 1 d.1 d.2.1, .val (.u .u64) d.2.2.1]
 hp := fun d => [.box 24 (.val (.arr 24 (.u .u8)) d.2.2.2.1)]
 m := 1
 pre := fun d => dT d.1 d.2.1 d.2.2.1 d.2.2.2.1 = some d.2.2.2.2
 out := fun d => (fun r : (List Nat) => .ret (.tup []) [.box 24 (.val (.arr 24 (.u .u8)) (r))]) d.2.2.2.2
attribute [go_sem] lF
theorem aG3 (xs : List Nat) : (xs.map (fun (x : Nat) => [Value.int .u8 (x : Int)])).flatten = xs.map (fun (x : Nat) => Value.int .u8 (x : Int)) := by
 induction xs with
 | nil => rfl
 | cons x r ih => simp [ih]
theorem aXs {w : World} {S : Nat → Prop} {m : Nat} {xs : List Nat} {cs : List Value} (h : aY w S (.arr m (.u .u8)) xs cs) : xs.length = m ∧ cs = xs.map (fun (x : Nat) => Value.int .u8 (x : Int)) ∧ ∀ x ∈ xs, x < 256 := by
 obtain ⟨hl, css, rfl, hcl, hr⟩ := h
 have hl : xs.length = m := hl
 have key : ∀ i (h : i < xs.length) (h' : i < css.length), css[i] = [Value.int .u8 (xs[i] : Int)] ∧ xs[i] < 256 := fun i h h' => by
  obtain ⟨h1, _, h3⟩ := hr i h h'
  refine ⟨h1, ?_⟩
  simp only [IntKind.max, IntKind.signed, IntKind.bits] at h3
  simp at h3
  omega
 refine ⟨hl, ?_, fun x hx => ?_⟩
 ·have e : css = xs.map (fun (x : Nat) => [Value.int .u8 (x : Int)]) := by
   apply List.ext_getElem
   ·simp; exact hcl
   ·intro i h1 h2
    have := (key i (by simpa using h2) h1).1
    simpa using this
  rw [e, aG3]
 ·obtain ⟨i, hi, rfl⟩ := List.getElem_of_mem hx
  exact (key i hi (by have : css.length = xs.length := hcl; omega)).2
theorem aZy {w : World} {S : Nat → Prop} {m : Nat} {xs : List Nat} (hl : xs.length = m) (hx : ∀ x ∈ xs, x < 256) : aY w S (.arr m (.u .u8)) xs (xs.map (fun (x : Nat) => Value.int .u8 (x : Int))) := by
 refine ⟨hl, xs.map (fun (x : Nat) => [Value.int .u8 (x : Int)]), (aG3 xs).symm, by simp, fun i h h' => ?_⟩
 ·have := hx xs[i] (List.getElem_mem h)
  refine ⟨by simp, rfl, ?_⟩
  simp only [IntKind.max, IntKind.signed, IntKind.bits]
  simp
  omega
open Go.Sort in
theorem aUh {cells : Array Value} {xs : List Nat} {uo un u v' : Nat} {dk : Array UInt8} (hc : cells.toList = xs.map (fun (x : Nat) => Value.int .u8 (x : Int))) (hle : uo + un ≤ xs.length) (hF : Lib.FmtInv un u 0 v' dk) :
  (putCells (fun (b : UInt8) => Value.int .u8 (b.toNat : Int)) uo dk cells).toList = (xs.take uo ++ dgs un u ++ xs.drop (uo + un)).map (fun (x : Nat) => Value.int .u8 (x : Int)) := by
 have hsz : cells.size = xs.length := by rw [← Array.length_toList, hc, List.length_map]
 have hdk := hF.size
 apply List.ext_getElem
 ·simp [putCells, qT, hsz]; omega
 ·intro i h1 h2
  have hi : i < xs.length := by simpa [putCells, hsz] using h1
  have hci : cells[i]'(by omega) = Value.int .u8 (xs[i] : Int) := by
   have : cells.toList[i]'(by rw [Array.length_toList]; omega) = Value.int .u8 (xs[i] : Int) := by simp [hc]
   simpa using this
  simp only [putCells, Array.toList_mapIdx, List.getElem_mapIdx, Array.getElem_toList, List.getElem_map]
  by_cases hr : uo ≤ i ∧ i < uo + dk.size
  ·rw [if_pos hr, hF.done (i - uo) (Nat.zero_le _) (by omega)]
   have : (xs.take uo ++ dgs un u ++ xs.drop (uo + un))[i]'(by simpa using h2) = 48 + u / 10 ^ (un - 1 - (i - uo)) % 10 := by
    rw [List.getElem_append_left (by simp [qT]; omega), List.getElem_append_right (by simp; omega)]
    simp [dgs, Nat.min_eq_left (show uo ≤ xs.length by omega)]
   rw [this]
   have hm := Nat.mod_lt (u / 10 ^ (un - 1 - (i - uo))) (show 0 < 10 by decide)
   simp only [Lib.dg, UInt8.toNat_ofNat']
   rw [Nat.mod_eq_of_lt (by omega)]
  ·rw [if_neg hr, hci]
   rcases Nat.lt_or_ge i uo with h | h
   ·rw [List.getElem_append_left (by simp [qT]; omega), List.getElem_append_left (by simp; omega)]
    simp
   ·rw [List.getElem_append_right (by simp [qT]; omega)]
    simp only [List.length_append, List.length_take, qT, List.getElem_drop]
    congr 3
    omega
open Go.Sort in
theorem aAg : GOK Tryz.prog GL 165 lF := by
 rintro c w ⟨uo, un, u, xs, r⟩ vs hpre ⟨good, glob, len, val⟩
 have hpre : dT uo un u xs = some r := hpre
 unfold dT at hpre
 obtain ⟨h1, hpre⟩ := aL hpre
 obtain ⟨h2, hpre⟩ := aL hpre
 have hr : xs.take uo ++ dgs un u ++ xs.drop (uo + un) = r := Option.some.inj hpre
 obtain ⟨b, cells, e, hhd, hheap, hsz, hcl⟩ := good.objs 0 _ rfl
 obtain ⟨hl, hcs, hx⟩ := aXs hcl
 have hl : xs.length = 24 := hl
 have hcs : cells.toList = xs.map (fun (x : Nat) => Value.int .u8 (x : Int)) := hcs
 have hx : ∀ x ∈ xs, x < 256 := hx
 have hsz : cells.size = 24 := hsz
 have hv0 := val 0 (by show 0 < 2; decide) (by rw [len]; show 0 < 2; decide)
 have hv1 := val 1 (by show 1 < 2; decide) (by rw [len]; show 1 < 2; decide)
 obtain ⟨_, hn, b', cap, hb', e0⟩ := aIz (i := 0) (s := 1) (off := uo) (n := un) hv0
 obtain ⟨e1, _, hu⟩ := aBV (k := .u64) (n := u) hv1
 rw [hhd] at hb'
 simp only [bA, Option.some.injEq] at hb'
 subst hb'
 have hvs : vs = #[.slice (some ⟨b, uo * 1, none⟩) un cap, .int .u64 (u : Int)] := by
  have hlen : vs.toList.length = 2 := len
  rw [← Array.toList_inj]
  apply List.ext_getElem
  ·exact hlen
  ·intro i a1 a2
   match i, a2 with
   | 0, _ => exact e0
   | 1, _ => exact e1
 have hd : (((xs.drop uo).take un).map UInt8.ofNat).toArray.size = un := by simp; omega
 have hcell : ∀ j (hj : j < xs.length), w.cell? ⟨b, j, none⟩ = some (.int .u8 (xs[j] : Int)) := fun j hj => by
  have hj2 : j < cells.size := by omega
  have : cells[j] = Value.int .u8 (xs[j] : Int) := by
   have : cells.toList[j]'(by rw [Array.length_toList]; omega) = Value.int .u8 (xs[j] : Int) := by simp [hcs]
   simpa using this
  simp [World.cell?, hheap, hj2, this]
 have hH : Holds (fun (b : UInt8) => Value.int .u8 (b.toNat : Int)) w b uo (((xs.drop uo).take un).map UInt8.ofNat).toArray := fun j hj => by
  rw [hd] at hj
  have hj2 : uo + j < xs.length := by omega
  refine ⟨?_, ?_⟩
  ·rw [hcell _ hj2]
   have hlt := hx xs[uo + j] (List.getElem_mem hj2)
   have : (((xs.drop uo).take un).map UInt8.ofNat).toArray[j]! = UInt8.ofNat xs[uo + j] := by
    rw [getElem!_pos _ j (by rw [hd]; exact hj)]
    simp
   rw [this]
   simp only [UInt8.toNat_ofNat']
   rw [Nat.mod_eq_of_lt (by omega)]
  ·simp [World.frozen?, hheap]
 have hB : fA .u64 = 18446744073709551616 := by decide +kernel
 have key := Any.internal_strconv_formatBase10 Tryz.lays285 b uo cap u _ w hH (by rw [hd]; exact h2) (by omega) (by rw [hd]; omega)
 rw [hd] at key
 rw [hvs, Nat.mul_one]
 refine Calls.mono (f := 165) key ?_
 rintro e w' ⟨rfl, n, v', dk, rfl, hF⟩
 refine ⟨c, .tuple #[], rfl, ?_, ?_⟩
 ·have hbl : b < w.heap.size := (Array.getElem?_eq_some_iff.1 hheap).1
  have hpc := aUh (uo := uo) (xs := xs) (u := u) (dk := dk) (un := un) hcs (by omega) hF
  have hheap' : ((putRow (fun (b : UInt8) => Value.int .u8 (b.toNat : Int)) w b uo dk).drewN n).heap[b]? = some (.cells (putCells (fun (b : UInt8) => Value.int .u8 (b.toNat : Int)) uo dk cells) e (0, 0)) := by
   show (w.heap.modify b (onCells _))[b]? = _
   rw [Array.getElem?_modify, if_pos rfl, hheap]
   rfl
  have hoth : ∀ k, k ≠ b → ((putRow (fun (b : UInt8) => Value.int .u8 (b.toNat : Int)) w b uo dk).drewN n).heap[k]? = w.heap[k]? := fun k hk => by
   show (w.heap.modify b (onCells _))[k]? = _
   rw [Array.getElem?_modify, if_neg (fun h => hk h.symm)]
  have hsize : ((putRow (fun (b : UInt8) => Value.int .u8 (b.toNat : Int)) w b uo dk).drewN n).heap.size = w.heap.size := by
   show (w.heap.modify b (onCells _)).size = _
   simp
  have hnS : ¬ c.S b := (good.own 0 _ b rfl (by show bA (c.hd 0) = some b; rw [hhd]; rfl)).2.2
  refine ⟨good.n, ⟨rfl, rfl, rfl, Nat.le_of_eq hsize.symm, fun k hk hM => hoth k (fun hkb => hM ?_)⟩, fun k hk => by rw [hsize]; exact good.sfin k hk, good.src, fun i o hio => ?_, fun i o k hio hk => ?_, fun i j oi oj k hi hj hbi hbj => ?_, good.root⟩
  ·subst hkb
   exact ⟨0, _, rfl, by show bA (c.hd 0) = some k; rw [hhd]; rfl⟩
  ·match i, hio with
   | 0, hio =>
    cases hio
    refine ⟨b, _, e, hhd, hheap', ?_, ?_⟩
    ·simp [putCells, hsz]
    ·show aY _ c.S (.arr 24 (.u .u8)) r _
     rw [hpc, hr]
     have hrl : r.length = 24 := by rw [← hr]; simp [qT]; omega
     refine aZy hrl (fun x hxr => ?_)
     rw [← hr] at hxr
     rcases List.mem_append.1 hxr with hxr | hxr
     ·rcases List.mem_append.1 hxr with hxr | hxr
      ·exact hx x (List.mem_of_mem_take hxr)
      ·obtain ⟨t, _, rfl⟩ := List.mem_map.1 hxr
       have := Nat.mod_lt (u / 10 ^ (un - 1 - t)) (show 0 < 10 by decide)
       omega
     ·exact hx x (List.mem_of_mem_drop hxr)
   | i + 1, hio => cases hio
  ·match i, hio with
   | 0, hio =>
    cases hio
    have := good.own 0 _ k rfl hk
    rw [hsize]; exact this
   | i + 1, hio => cases hio
  ·match i, j, hi, hj with
   | 0, 0, _, _ => rfl
   | 0, j + 1, _, hj => cases hj
   | i + 1, _, hi, _ => cases hi
 ·exact ⟨[], rfl, rfl, fun i h1 _ => by cases h1⟩
end Nu
end Go.Proofs
