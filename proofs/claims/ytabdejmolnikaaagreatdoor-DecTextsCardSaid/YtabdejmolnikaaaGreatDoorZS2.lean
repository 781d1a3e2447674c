import Derived.Test.YtabdejmolnikaaaGreatDoorZS1
import Derived.Test.YtabdejmolnikaaaGreatDoorZL5
import Derived.Shelf.Strconv.Itoa2
set_option linter.unusedVariables false
set_option linter.unusedSimpArgs false
namespace Go.Proofs
open Go.Vc
set_option maxRecDepth 20000
namespace Nu
structure DgN (X V P v1 v0 U2 U1 U0 : Nat) : Prop where
 hP : 0 < P
 hX : X / P = (U2 * 18446744073709551616 + U1) * 18446744073709551616 + U0
 hV : V / P = v1 * 18446744073709551616 + v0
 v1l : 9223372036854775808 ≤ v1
 v1h : v1 < 18446744073709551616
 v0h : v0 < 18446744073709551616
 u2h : U2 < 18446744073709551616
 u1h : U1 < 18446744073709551616
 u0h : U0 < 18446744073709551616
 hq : X < 18446744073709551616 * V
variable {X V P v1 v0 U2 U1 U0 : Nat}
theorem aWa (h : DgN X V P v1 v0 U2 U1 U0) : U2 ≤ v1 := by
 have h1 : V < (V / P + 1) * P := by rw [Nat.mul_comm]; exact Nat.lt_mul_div_succ V h.hP
 have h2 : X / P < 18446744073709551616 * (V / P + 1) := by
  refine (Nat.div_lt_iff_lt_mul h.hP).2 (Nat.lt_of_lt_of_le h.hq ?_)
  rw [Nat.mul_assoc]
  exact Nat.mul_le_mul_left _ (Nat.le_of_lt h1)
 rw [h.hX, h.hV] at h2
 have a := h.v0h
 have b := h.u0h
 have c := h.u1h
 omega
theorem aVx (h : DgN X V P v1 v0 U2 U1 U0) : X / V * (v1 * 18446744073709551616 + v0) ≤ (U2 * 18446744073709551616 + U1) * 18446744073709551616 + U0 := by
 rw [← h.hX, ← h.hV]
 refine (Nat.le_div_iff_mul_le h.hP).2 ?_
 rw [Nat.mul_assoc]
 exact Nat.le_trans (Nat.mul_le_mul_left _ (Nat.div_mul_le_self V P)) (Nat.div_mul_le_self X V)
theorem mul_two (x v1 v0 : Nat) : x * (v1 * 18446744073709551616 + v0) = x * v1 * 18446744073709551616 + x * v0 := by rw [Nat.mul_add, Nat.mul_assoc]
theorem aWb (h : DgN X V P v1 v0 U2 U1 U0) : X / V ≤ (U2 * 18446744073709551616 + U1) / v1 := by
 refine (Nat.le_div_iff_mul_le (by have := h.v1l; omega)).2 ?_
 have h1 := aVx h
 rw [mul_two] at h1
 have b := h.u0h
 generalize X / V * v1 = A at *
 generalize X / V * v0 = C at *
 omega
theorem aWc (h : DgN X V P v1 v0 U2 U1 U0) : X / V < 18446744073709551616 := (Nat.div_lt_iff_lt_mul (by
 have := h.hq
 rcases Nat.eq_zero_or_pos V with h0 | h0
 ·subst h0; simp at this
 ·exact h0)).2 h.hq
theorem aQy (h : DgN X V P v1 v0 U2 U1 U0) {x : Nat} (hx : x < 18446744073709551616) (hl : x * (v1 * 18446744073709551616 + v0) ≤ (U2 * 18446744073709551616 + U1) * 18446744073709551616 + U0) : x ≤ X / V + 1 := by
 rcases x with _ | y
 ·exact Nat.zero_le _
 refine Nat.succ_le_succ ?_
 have hVp : 0 < V := by
  rcases Nat.eq_zero_or_pos V with h0 | h0
  ·have := h.hq; subst h0; simp at this
  ·exact h0
 refine (Nat.le_div_iff_mul_le hVp).2 ?_
 rw [← h.hX, ← h.hV] at hl
 have e := Nat.div_add_mod V P
 have m := Nat.mod_lt V h.hP
 have h1 : (y + 1) * (V / P) * P ≤ X := Nat.le_trans (Nat.mul_le_mul_right P hl) (Nat.div_mul_le_self X P)
 have h2 : y * (V % P) ≤ 18446744073709551616 * P := Nat.mul_le_mul (by omega) (Nat.le_of_lt m)
 have h3 : 18446744073709551616 * P ≤ V / P * P := Nat.mul_le_mul_right _ (by rw [h.hV]; have := h.v1l; omega)
 have h4 : y * V = y * (V / P) * P + y * (V % P) := by
  conv => lhs; rw [← e]
  rw [Nat.mul_add, Nat.mul_comm P, Nat.mul_assoc]
 rw [h4]
 rw [Nat.add_mul, Nat.add_mul, Nat.one_mul] at h1
 generalize y * (V / P) * P = A at *
 generalize y * (V % P) = C at *
 generalize V / P * P = D at *
 generalize 18446744073709551616 * P = E at *
 omega
structure DgL (v1 U2 U1 Q x rest over : Nat) : Prop where
 eq : x * v1 + (rest + over * 18446744073709551616) = U2 * 18446744073709551616 + U1
 r1 : rest < 18446744073709551616
 o1 : over ≤ 1
 x1 : x < 18446744073709551616
 ge : Q ≤ x
theorem aTd {A C hi lo r u2 u1 u0 : Nat} (d : 18446744073709551616 * hi + lo = C) (m : lo < 18446744073709551616) (e : A + (r + 0 * 18446744073709551616) = u2 * 18446744073709551616 + u1) (hr : r < 18446744073709551616) (hu : u0 < 18446744073709551616) : (hi < r ∨ hi = r ∧ lo ≤ u0) ↔ A * 18446744073709551616 + C ≤ (u2 * 18446744073709551616 + u1) * 18446744073709551616 + u0 := by
 have e2 : (u2 * 18446744073709551616 + u1) * 18446744073709551616 = A * 18446744073709551616 + r * 18446744073709551616 := by rw [← e, Nat.zero_mul, Nat.add_zero, Nat.add_mul]
 rw [e2]
 omega
theorem aTe {A r v1 u2 u1 : Nat} (e : A + 1 * v1 + (r + 0 * 18446744073709551616) = u2 * 18446744073709551616 + u1) : A + ((r + v1 + 0) % 18446744073709551616 + (r + v1 + 0) / 18446744073709551616 * 18446744073709551616) = u2 * 18446744073709551616 + u1 := by
 have d := Nat.div_add_mod (r + v1 + 0) 18446744073709551616
 omega
theorem aTf {Q x rest : Nat} (hv0 : v0 < 18446744073709551616) (hu0 : U0 < 18446744073709551616) (h : DgL v1 U2 U1 Q x rest 0) : (x * v0 / 18446744073709551616 < rest ∨ x * v0 / 18446744073709551616 = rest ∧ x * v0 % 18446744073709551616 ≤ U0) ↔ x * (v1 * 18446744073709551616 + v0) ≤ (U2 * 18446744073709551616 + U1) * 18446744073709551616 + U0 := by
 have e := h.eq
 rw [mul_two]
 have d := Nat.div_add_mod (x * v0) 18446744073709551616
 have m := Nat.mod_lt (x * v0) (show 0 < 18446744073709551616 by decide)
 exact aTd d m e h.r1 hu0
theorem aUI {Q x rest : Nat} (hv0 : v0 < 18446744073709551616) (h : DgL v1 U2 U1 Q x rest 1) : x * (v1 * 18446744073709551616 + v0) ≤ (U2 * 18446744073709551616 + U1) * 18446744073709551616 + U0 := by
 have e := h.eq
 have r := h.r1
 have p : x * v0 ≤ 18446744073709551615 * 18446744073709551615 := Nat.mul_le_mul (by have := h.x1; omega) (by omega)
 rw [mul_two]
 generalize x * v1 = A at *
 generalize x * v0 = C at *
 omega
theorem aTg {Q x rest : Nat} (hv1 : v1 < 18446744073709551616) (hQ : Q * (v1 * 18446744073709551616 + v0) ≤ (U2 * 18446744073709551616 + U1) * 18446744073709551616 + U0) (h : DgL v1 U2 U1 Q x rest 0) (hc : ¬ x * (v1 * 18446744073709551616 + v0) ≤ (U2 * 18446744073709551616 + U1) * 18446744073709551616 + U0) :
  iO .u64 x 1 = x - 1 ∧ x - 1 < x ∧ DgL v1 U2 U1 Q (x - 1) ((rest + v1 + 0) % 18446744073709551616) ((rest + v1 + 0) / 18446744073709551616) := by
 have hlt : Q < x := by
  refine Nat.lt_of_mul_lt_mul_right (a := v1 * 18446744073709551616 + v0) ?_
  omega
 have e := h.eq
 have r := h.r1
 have x1 := h.x1
 obtain ⟨y, rfl⟩ : ∃ y, x = y + 1 := ⟨x - 1, by omega⟩
 rw [Nat.add_mul] at e
 refine ⟨aNh x1 (by omega), by omega, ⟨?_, Nat.mod_lt _ (by decide), by omega, by omega, by omega⟩⟩
 exact aTe e
theorem aTh {v o : List Nat} {j un : Nat} (hn : 2 ≤ v.length) (hs : v.length ≤ 9000000000000) (hu : un = v.length + 1) (ho : j + un ≤ o.length)
  (h : DgN X V P (v.getD (v.length - 1) 0) (v.getD (v.length - 2) 0) U2 U1 (o.getD (j + (v.length - 2)) 0)) {x rest over : Nat} (hi : DgL (v.getD (v.length - 1) 0) U2 U1 (X / V) x rest over) :
  ∃ e, cE (fun d : Nat × Nat × Nat => iW v un j o d.1 d.2.1 d.2.2) (x, rest, over) = some e ∧ X / V ≤ e ∧ e ≤ X / V + 1 ∧ e < 18446744073709551616 := by
 have e1 : ((v.length : Int) - 1).toNat = v.length - 1 := by omega
 have e2 : ((v.length : Int) - 2).toNat = v.length - 2 := by omega
 refine cR (step := fun d : Nat × Nat × Nat => iW v un j o d.1 d.2.1 d.2.2) (I := fun d => DgL (v.getD (v.length - 1) 0) U2 U1 (X / V) d.1 d.2.1 d.2.2) (fun d => d.1) (fun e => X / V ≤ e ∧ e ≤ X / V + 1 ∧ e < 18446744073709551616) ?_ (x, rest, over) hi
 rintro ⟨x, rest, over⟩ hi
 have hi : DgL (v.getD (v.length - 1) 0) U2 U1 (X / V) x rest over := hi
 show (∃ d', iW v un j o x rest over = _ ∧ _) ∨ ∃ e, iW v un j o x rest over = _ ∧ _
 unfold iW
 rw [e1, e2]
 by_cases h0 : over = 0
 ·subst h0
  have ht := aTf h.v0h h.u0h hi
  rw [if_pos rfl]
  by_cases hc : x * (v.getD (v.length - 1) 0 * 18446744073709551616 + v.getD (v.length - 2) 0) ≤ (U2 * 18446744073709551616 + U1) * 18446744073709551616 + o.getD (j + (v.length - 2)) 0
  ·right
   refine ⟨x, ?_, hi.ge, aQy h hi.x1 hc, hi.x1⟩
   refine aA (by constructor <;> omega) (aA (by constructor <;> omega) (aA (fun _ _ => by constructor <;> omega) (aA (fun _ _ => by omega) ?_)))
   exact (if_pos (ht.2 hc))
  ·left
   obtain ⟨s1, s2, s3⟩ := aTg h.v1h (aVx h) hi hc
   refine ⟨(x - 1, (rest + v.getD (v.length - 1) 0 + 0) % 18446744073709551616, (rest + v.getD (v.length - 1) 0 + 0) / 18446744073709551616), ?_, s3, s2⟩
   refine aA (by constructor <;> omega) (aA (by constructor <;> omega) (aA (fun _ _ => by constructor <;> omega) (aA (fun _ _ => by omega) ?_)))
   refine (if_neg (fun hh => hc (ht.1 hh))).trans ?_
   rw [s1]
   exact aA (by constructor <;> omega) (aA (by constructor <;> omega) (aA (Nat.zero_le _) rfl))
 ·right
  have h1 : over = 1 := by have := hi.o1; omega
  subst h1
  exact ⟨x, by rw [if_neg h0], hi.ge, aQy h hi.x1 (aUI h.v0h hi), hi.x1⟩
end Nu
end Go.Proofs
namespace Go.Proofs
open Go.Vc
set_option maxRecDepth 20000
namespace Nu
theorem aNK {x y c b o lo hi z c' d b' : Nat} (e : 18446744073709551616 * hi + lo = x * y) (hlo : lo < 18446744073709551616) (hp : x * y ≤ 18446744073709551615 * 18446744073709551615) (hc : c < 18446744073709551616) (hb : b ≤ 1) (ho : o < 18446744073709551616)
  (hz : z = (lo + c + 0) % 18446744073709551616) (hc' : c' = (hi + (lo + c + 0) / 18446744073709551616) % 18446744073709551616) (hd : d = (o + 18446744073709551616 - z - b) % 18446744073709551616) (hb' : b' = if o < z + b then 1 else 0) :
  d + x * y + c + b = o + 18446744073709551616 * (c' + b') ∧ d < 18446744073709551616 ∧ c' < 18446744073709551616 ∧ b' ≤ 1 := by
 generalize x * y = w at *
 subst hz hc' hd hb'
 split <;> omega
theorem aWd {N N' N0 Q R P o d c b c' b' x y t : Nat} (hP : P = Q * R) (h1 : N' + P * o = N + P * d) (h2 : N + Q * x * t = N0 + P * (c + b)) (h3 : d + x * y + c + b = o + 18446744073709551616 * (c' + b')) : N' + Q * x * (t + R * y) = N0 + P * 18446744073709551616 * (c' + b') := by
 have e := congrArg (P * ·) h3
 simp only [Nat.mul_add] at e
 have e2 : P * (x * y) = Q * x * (R * y) := by
  rw [hP, Nat.mul_assoc, Nat.mul_assoc]; congr 1; rw [Nat.mul_left_comm]
 rw [Nat.mul_add] at h2 ⊢
 rw [Nat.mul_assoc P 18446744073709551616, Nat.mul_add 18446744073709551616, Nat.mul_add P]
 omega
theorem aWe {N N' N0 Q R P o d c c' y t : Nat} (hP : P = Q * R) (h1 : N' + P * o = N + P * d) (h2 : N + P * c = N0 + Q * t) (h3 : d + 18446744073709551616 * c' = o + y + c) : N' + P * 18446744073709551616 * c' = N0 + Q * (t + R * y) := by
 have e := congrArg (P * ·) h3
 simp only [Nat.mul_add] at e
 have e2 : P * y = Q * (R * y) := by rw [hP, Nat.mul_assoc]
 rw [Nat.mul_add, Nat.mul_assoc P 18446744073709551616]
 omega
structure MsI (v u : List Nat) (x j : Nat) (c b : Nat) (i : Int) (w : List Nat) : Prop where
 i0 : 0 ≤ i
 i1 : i ≤ v.length
 len : w.length = u.length
 lm : Lm w
 c1 : c < 18446744073709551616
 b1 : b ≤ 1
 rest : w.drop (j + i.toNat) = u.drop (j + i.toNat)
 sum : nv w + 18446744073709551616 ^ j * x * nv (v.take i.toNat) = nv u + 18446744073709551616 ^ (j + i.toNat) * (c + b)
structure AbI (v u : List Nat) (j : Nat) (c : Nat) (i : Int) (w : List Nat) : Prop where
 i0 : 0 ≤ i
 i1 : i ≤ v.length
 len : w.length = u.length
 lm : Lm w
 c1 : c ≤ 1
 rest : w.drop (j + i.toNat) = u.drop (j + i.toNat)
 sum : nv w + 18446744073709551616 ^ (j + i.toNat) * c = nv u + 18446744073709551616 ^ j * nv (v.take i.toNat)
theorem aTi {v u : List Nat} {x j c b : Nat} {i : Int} {w : List Nat} (hl : j + v.length < u.length) (h : MsI v u x j c b i w) (hi : i < v.length) {d c' b' : Nat} (hd : d < 18446744073709551616) (hc' : c' < 18446744073709551616) (hb' : b' ≤ 1)
  (e : d + x * v.getD i.toNat 0 + c + b = w.getD (j + i.toNat) 0 + 18446744073709551616 * (c' + b')) : MsI v u x j c' b' (i + 1) (w.set (j + i.toNat) d) := by
 have h0 := h.i0
 have hlen := h.len
 have e1 : (i + 1).toNat = i.toNat + 1 := by omega
 refine ⟨by omega, by omega, by rw [List.length_set]; exact hlen, tT h.lm _ hd, hc', hb', ?_, ?_⟩
 ·rw [e1, ← Nat.add_assoc, drop_set]; exact sA h.rest
 ·rw [e1, lX, ← Nat.add_assoc, Nat.pow_succ]
  exact aWd (R := 18446744073709551616 ^ i.toNat) (Nat.pow_add _ _ _) (xY (by omega)) h.sum e
theorem aTj {v u : List Nat} {j c : Nat} {i : Int} {w : List Nat} (hl : j + v.length < u.length) (h : AbI v u j c i w) (hi : i < v.length) {d c' : Nat} (hd : d < 18446744073709551616) (hc' : c' ≤ 1)
  (e : d + 18446744073709551616 * c' = w.getD (j + i.toNat) 0 + v.getD i.toNat 0 + c) : AbI v u j c' (i + 1) (w.set (j + i.toNat) d) := by
 have h0 := h.i0
 have hlen := h.len
 have e1 : (i + 1).toNat = i.toNat + 1 := by omega
 refine ⟨by omega, by omega, by rw [List.length_set]; exact hlen, tT h.lm _ hd, hc', ?_, ?_⟩
 ·rw [e1, ← Nat.add_assoc, drop_set]; exact sA h.rest
 ·rw [e1, lX, ← Nat.add_assoc, Nat.pow_succ]
  exact aWe (R := 18446744073709551616 ^ i.toNat) (Nat.pow_add _ _ _) (xY (by omega)) h.sum e
theorem aRu {v u : List Nat} {x j un : Nat} (lv : Lm v) (hx : x < 18446744073709551616) (hs : v.length ≤ 9000000000000) (hu : un = v.length + 1) (ho : j + un ≤ u.length) (lu : Lm u) :
  ∃ e, cE (fun d : Nat × Nat × Int × (List Nat) => gW v x un j d.1 d.2.1 d.2.2.1 d.2.2.2) (0, 0, 0, u) = some e ∧ MsI v u x j e.1 e.2.1 v.length e.2.2 := by
 refine cR (step := fun d : Nat × Nat × Int × (List Nat) => gW v x un j d.1 d.2.1 d.2.2.1 d.2.2.2) (I := fun d => MsI v u x j d.1 d.2.1 d.2.2.1 d.2.2.2) (fun d => (v.length - d.2.2.1).toNat) (fun e => MsI v u x j e.1 e.2.1 v.length e.2.2) ?_ (0, 0, 0, u) ⟨by simp, by simp, rfl, lu, by simp, by simp, rfl, by simp [nv]⟩
 rintro ⟨c, b, i, w⟩ h
 have h : MsI v u x j c b i w := h
 have h0 := h.i0
 have hlen := h.len
 show (∃ d', gW v x un j c b i w = _ ∧ _) ∨ ∃ e, gW v x un j c b i w = _ ∧ _
 unfold gW
 by_cases hi : i < v.length
 ·left
  have hy := dT lv i.toNat
  have hw := dT h.lm (j + i.toNat)
  have hb := h.b1
  obtain ⟨k1, k2, k3, k4⟩ := aNK (b' := if w.getD (j + i.toNat) 0 < (x * v.getD i.toNat 0 % 18446744073709551616 + c + 0) % 18446744073709551616 + b then 1 else 0) (Nat.div_add_mod (x * v.getD i.toNat 0) 18446744073709551616) (Nat.mod_lt _ (by decide)) (Nat.mul_le_mul (by omega) (by omega)) h.c1 hb hw rfl rfl rfl rfl
  refine ⟨((x * v.getD i.toNat 0 / 18446744073709551616 + (x * v.getD i.toNat 0 % 18446744073709551616 + c + 0) / 18446744073709551616) % 18446744073709551616, (if w.getD (j + i.toNat) 0 < (x * v.getD i.toNat 0 % 18446744073709551616 + c + 0) % 18446744073709551616 + b then 1 else 0), i + 1, w.set (j + i.toNat) ((w.getD (j + i.toNat) 0 + 18446744073709551616 - (x * v.getD i.toNat 0 % 18446744073709551616 + c + 0) % 18446744073709551616 - b) % 18446744073709551616)), ?_, aTi (by omega) h hi k2 k3 k4 k1, by simp only; omega⟩
  rw [if_pos hi]
  exact aA (by constructor <;> omega) (aA (Nat.zero_le _) (aA (by constructor <;> omega) (aA (by omega) (aA hb (aA (by constructor <;> omega) (aA (by omega) (aA (by constructor <;> omega) rfl)))))))
 ·right
  refine ⟨(c, b, w), by rw [if_neg hi], ?_⟩
  have e : i = v.length := by have := h.i1; omega
  rw [e] at h
  exact h
theorem aRv {v u : List Nat} {j un : Nat} (lv : Lm v) (hs : v.length ≤ 9000000000000) (hu : un = v.length + 1) (ho : j + un ≤ u.length) (lu : Lm u) :
  ∃ e, cE (fun d : Nat × Int × (List Nat) => gV v un j d.1 d.2.1 d.2.2) (0, 0, u) = some e ∧ AbI v u j e.1 v.length e.2 := by
 refine cR (step := fun d : Nat × Int × (List Nat) => gV v un j d.1 d.2.1 d.2.2) (I := fun d => AbI v u j d.1 d.2.1 d.2.2) (fun d => (v.length - d.2.1).toNat) (fun e => AbI v u j e.1 v.length e.2) ?_ (0, 0, u) ⟨by simp, by simp, rfl, lu, by simp, rfl, by simp [nv]⟩
 rintro ⟨c, i, w⟩ h
 have h : AbI v u j c i w := h
 have h0 := h.i0
 have hlen := h.len
 show (∃ d', gV v un j c i w = _ ∧ _) ∨ ∃ e, gV v un j c i w = _ ∧ _
 unfold gV
 by_cases hi : i < v.length
 ·left
  have hy := dT lv i.toNat
  have hw := dT h.lm (j + i.toNat)
  have hc := h.c1
  have k1 := Nat.div_add_mod (w.getD (j + i.toNat) 0 + v.getD i.toNat 0 + c) 18446744073709551616
  refine ⟨(_, _, _), ?_, aTj (d := (w.getD (j + i.toNat) 0 + v.getD i.toNat 0 + c) % 18446744073709551616) (c' := (w.getD (j + i.toNat) 0 + v.getD i.toNat 0 + c) / 18446744073709551616) (by omega) h hi (Nat.mod_lt _ (by decide)) (by omega) (by rw [Nat.add_comm]; exact k1), by simp only; omega⟩
  rw [if_pos hi]
  refine aA (by constructor <;> omega) (aA (by constructor <;> omega) (aA (by omega) (aA hc (aA (by constructor <;> omega) (aA (by omega) (aA (by constructor <;> omega) ?_))))))
  simp only [eK]
 ·right
  refine ⟨(c, w), by rw [if_neg hi], ?_⟩
  have e : i = v.length := by have := h.i1; omega
  rw [e] at h
  exact h
theorem aQz {w u : List Nat} {K : Nat} (lw : Lm w) (lu : Lm u) (h : w.drop K = u.drop K) (hu : nv u < 18446744073709551616 ^ K) : nv w < 18446744073709551616 ^ K := by
 have hp : 0 < 18446744073709551616 ^ K := Nat.pow_pos (by decide)
 have h1 := aDl lw K
 rw [h, aDl lu, Nat.div_eq_of_lt hu] at h1
 exact (Nat.div_eq_zero_iff_lt hp).1 h1.symm
theorem aTk {N N3 W x : Nat} {Q : Nat} (hW : 0 < W) (hQ : Q = N / W) (hx : Q ≤ x) (h : N3 + x * W = N) : x = Q ∧ N3 + Q * W = N := by
 have h1 : x ≤ N / W := (Nat.le_div_iff_mul_le hW).2 (by omega)
 have : x = Q := by omega
 subst this
 exact ⟨rfl, h⟩
theorem aUJ {N N3 N4 N5 W x T S o4 c : Nat} {Q : Nat} (hQ : Q = N / W) (hx1 : Q ≤ x) (hx2 : x ≤ Q + 1) (h3 : N3 + x * W = N + T) (hT3 : N3 < T) (h4 : N4 + S * c = N3 + W) (h5 : N5 + S * o4 = N4 + S * ((o4 + c) % 18446744073709551616)) (hT5 : N5 < T) (hT : T = S * 18446744073709551616) (ho : o4 < 18446744073709551616) (hc : c ≤ 1) :
  x = Q + 1 ∧ N5 + Q * W = N := by
 have hle : Q * W ≤ N := by rw [hQ]; exact Nat.div_mul_le_self N W
 have hx : x = Q + 1 := by
  rcases Nat.lt_or_ge Q x with h | h
  ·omega
  ·have : x = Q := by omega
   subst this
   omega
 subst hx
 refine ⟨rfl, ?_⟩
 rw [Nat.add_mul, Nat.one_mul] at h3
 rcases Nat.lt_or_ge (o4 + c) 18446744073709551616 with h | h
 ·rw [Nat.mod_eq_of_lt h, Nat.mul_add] at h5
  omega
 ·have e : (o4 + c) % 18446744073709551616 = 0 := by omega
  have e2 : S * 18446744073709551616 = S * o4 + S * c := by rw [← Nat.mul_add]; congr 1; omega
  rw [e, Nat.mul_zero, Nat.add_zero] at h5
  omega
theorem aJJ {v u : List Nat} {j un : Nat} (lv : Lm v) (lu : Lm u) (hn : 2 ≤ v.length) (hs : v.length ≤ 9000000000000) (hu : un = v.length + 1) (ho : j + un ≤ u.length)
  (hv : 9223372036854775808 ≤ v.getD (v.length - 1) 0) (hq : nv u < 18446744073709551616 ^ (j + 1) * nv v) :
  ∃ w, pS j un v u = some (nv u / (18446744073709551616 ^ j * nv v), w) ∧ w.length = u.length ∧ Lm w ∧ nv w + nv u / (18446744073709551616 ^ j * nv v) * (18446744073709551616 ^ j * nv v) = nv u := by
 have hVB := gN lv
 have hJ : 0 < 18446744073709551616 ^ j := Nat.pow_pos (by decide)
 have hX : nv u / 18446744073709551616 ^ j < 18446744073709551616 * nv v := (Nat.div_lt_iff_lt_mul hJ).2 (by rw [Nat.pow_succ, Nat.mul_assoc] at hq; rw [Nat.mul_comm]; exact hq)
 have hqq : nv u / 18446744073709551616 ^ j / nv v = nv u / (18446744073709551616 ^ j * nv v) := Nat.div_div_eq_div_mul _ _ _
 have hNT : nv u < 18446744073709551616 ^ (j + v.length + 1) := by
  refine Nat.lt_of_lt_of_le hq ?_
  rw [show j + v.length + 1 = j + 1 + v.length from by omega, Nat.pow_add _ (j + 1)]
  exact Nat.mul_le_mul_left _ (Nat.le_of_lt hVB)
 have hD : DgN (nv u / 18446744073709551616 ^ j) (nv v) (18446744073709551616 ^ (v.length - 2)) (v.getD (v.length - 1) 0) (v.getD (v.length - 2) 0) (u.getD (j + v.length) 0) (u.getD (j + (v.length - 1)) 0) (u.getD (j + (v.length - 2)) 0) := by
  refine ⟨Nat.pow_pos (by decide), ?_, ?_, hv, dT lv _, dT lv _, dT lu _, dT lu _, dT lu _, hX⟩
  ·have e1 : j + (v.length - 1) = j + (v.length - 2) + 1 := by omega
   have e2 : j + v.length = j + (v.length - 2) + 1 + 1 := by omega
   have hz : nv u / 18446744073709551616 ^ (j + (v.length - 2)) < 18446744073709551616 * 18446744073709551616 * 18446744073709551616 := by
    refine (Nat.div_lt_iff_lt_mul (Nat.pow_pos (by decide))).2 ?_
    rw [show j + v.length + 1 = j + (v.length - 2) + 1 + 1 + 1 from by omega, Nat.pow_succ, Nat.pow_succ, Nat.pow_succ] at hNT
    rw [Nat.mul_comm, ← Nat.mul_assoc, ← Nat.mul_assoc]
    exact hNT
   rw [nB lu, nB lu, nB lu, e1, e2, Nat.pow_succ, Nat.pow_succ, ← Nat.div_div_eq_div_mul, ← Nat.div_div_eq_div_mul, Nat.div_div_eq_div_mul _ (18446744073709551616 ^ j), ← Nat.pow_add]
   generalize nv u / 18446744073709551616 ^ (j + (v.length - 2)) = z at *
   omega
  ·have hz : nv v / 18446744073709551616 ^ (v.length - 2) < 18446744073709551616 * 18446744073709551616 := by
    refine (Nat.div_lt_iff_lt_mul (Nat.pow_pos (by decide))).2 ?_
    have h := hVB
    rw [show v.length = v.length - 2 + 1 + 1 from by omega, Nat.pow_succ, Nat.pow_succ] at h
    rw [Nat.mul_comm, ← Nat.mul_assoc]
    exact h
   rw [nB lv, nB lv, show v.length - 1 = v.length - 2 + 1 from by omega, Nat.pow_succ, ← Nat.div_div_eq_div_mul]
   generalize nv v / 18446744073709551616 ^ (v.length - 2) = z at *
   omega
 have e1 : ((v.length : Int) - 1).toNat = v.length - 1 := by omega
 rw [← hqq]
 have hV0 : 0 < nv v := by
  rcases Nat.eq_zero_or_pos (nv v) with h | h
  ·rw [h] at hq; simp at hq
  ·exact h
 have hW : 0 < 18446744073709551616 ^ j * nv v := Nat.mul_pos hJ hV0
 have main : ∀ x, nv u / 18446744073709551616 ^ j / nv v ≤ x → x ≤ nv u / 18446744073709551616 ^ j / nv v + 1 → x < 18446744073709551616 → ∃ w, nM v un j u x = some (nv u / 18446744073709551616 ^ j / nv v, w) ∧ w.length = u.length ∧ Lm w ∧ nv w + nv u / 18446744073709551616 ^ j / nv v * (18446744073709551616 ^ j * nv v) = nv u := by
  intro x hx1 hx2 hx3
  obtain ⟨⟨c, b, w⟩, m1, m2⟩ := aRu (j := j) lv hx3 hs hu ho lu
  have m2 : MsI v u x j c b v.length w := m2
  have hlen := m2.len
  have ho2 := dT m2.lm (j + v.length)
  have hc := m2.c1
  have hb := m2.b1
  have hrest := m2.rest
  have hsum := m2.sum
  rw [Int.toNat_natCast] at hrest hsum
  rw [List.take_length] at hsum
  have hset := xY (a := w) (k := j + v.length) (v := (w.getD (j + v.length) 0 + 18446744073709551616 - c - b) % 18446744073709551616) (by omega)
  have lw2 : Lm (w.set (j + v.length) ((w.getD (j + v.length) 0 + 18446744073709551616 - c - b) % 18446744073709551616)) := tT m2.lm _ (Nat.mod_lt _ (by decide))
  have hr2 : (w.set (j + v.length) ((w.getD (j + v.length) 0 + 18446744073709551616 - c - b) % 18446744073709551616)).drop (j + v.length + 1) = u.drop (j + v.length + 1) := by
   rw [drop_set]; exact sA hrest
  have hT3 := aQz lw2 lu hr2 hNT
  have hx : 18446744073709551616 ^ j * x * nv v = x * (18446744073709551616 ^ j * nv v) := by rw [Nat.mul_comm (18446744073709551616 ^ j) x, Nat.mul_assoc]
  rw [hx] at hsum
  unfold nM
  rw [m1]
  simp only [Option.bind_some]
  unfold qZ
  by_cases hbo : w.getD (j + v.length) 0 < c + b
  ·
   have hd : (w.getD (j + v.length) 0 + 18446744073709551616 - c - b) % 18446744073709551616 + c + b = w.getD (j + v.length) 0 + 18446744073709551616 := by omega
   have h3 : nv (w.set (j + v.length) ((w.getD (j + v.length) 0 + 18446744073709551616 - c - b) % 18446744073709551616)) + x * (18446744073709551616 ^ j * nv v) = nv u + 18446744073709551616 ^ (j + v.length + 1) := by
    have e := congrArg (18446744073709551616 ^ (j + v.length) * ·) hd
    simp only [Nat.mul_add] at e hsum
    rw [Nat.pow_succ]
    omega
   have hb1 : ¬ (vY (w.getD (j + v.length) 0) c b).2.1 = 0 := by show ¬ (if w.getD (j + v.length) 0 < c + b then 1 else 0) = 0; rw [if_pos hbo]; decide
   have hl3 : (w.set (j + v.length) ((w.getD (j + v.length) 0 + 18446744073709551616 - c - b) % 18446744073709551616)).length = u.length := by rw [List.length_set]; exact hlen
   obtain ⟨w3, hw3⟩ : ∃ w3, w3 = w.set (j + v.length) ((w.getD (j + v.length) 0 + 18446744073709551616 - c - b) % 18446744073709551616) := ⟨_, rfl⟩
   have hw3' : w.set (j + v.length) (vY (w.getD (j + v.length) 0) c b).1 = w3 := hw3.symm
   rw [← hw3] at h3 hT3 lw2 hr2 hl3
   obtain ⟨⟨c4, w4⟩, n1, n2⟩ := aRv (u := w3) (j := j) lv hs hu (by omega) lw2
   have n2 : AbI v w3 j c4 v.length w4 := n2
   have hl4 := n2.len
   have ho4 := dT n2.lm (j + v.length)
   have hrest4 := n2.rest
   have hsum4 := n2.sum
   rw [Int.toNat_natCast] at hrest4 hsum4
   rw [List.take_length] at hsum4
   have hset4 := xY (a := w4) (k := j + v.length) (v := (w4.getD (j + v.length) 0 + c4) % 18446744073709551616) (by omega)
   have lw5 : Lm (w4.set (j + v.length) ((w4.getD (j + v.length) 0 + c4) % 18446744073709551616)) := tT n2.lm _ (Nat.mod_lt _ (by decide))
   have hr5 : (w4.set (j + v.length) ((w4.getD (j + v.length) 0 + c4) % 18446744073709551616)).drop (j + v.length + 1) = u.drop (j + v.length + 1) := by
    rw [drop_set, ← hr2]; exact sA hrest4
   have hT5 := aQz lw5 lu hr5 hNT
   obtain ⟨f1, f2⟩ := aUJ hqq hx1 hx2 h3 hT3 hsum4 hset4 hT5 (Nat.pow_succ ..) ho4 n2.c1
   refine ⟨_, aA (by constructor <;> omega) (aA (by omega) (aA hb (aA (by constructor <;> omega) (aA (by omega) ?_)))), ?_, lw5, f2⟩
   ·refine (if_neg hb1).trans ?_
    rw [hw3']
    refine aX n1 ?_
    unfold qY
    refine aA (by constructor <;> omega) (aA (by simp only; omega) (aA (by constructor <;> omega) (aA (by simp only; omega) ?_)))
    rw [aNh hx3 (by rw [f1]; exact Nat.succ_le_succ (Nat.zero_le _)), f1, Nat.add_sub_cancel]
   ·rw [List.length_set]; omega
  ·have hd : (w.getD (j + v.length) 0 + 18446744073709551616 - c - b) % 18446744073709551616 + c + b = w.getD (j + v.length) 0 := by omega
   have h3 : nv (w.set (j + v.length) ((w.getD (j + v.length) 0 + 18446744073709551616 - c - b) % 18446744073709551616)) + x * (18446744073709551616 ^ j * nv v) = nv u := by
    have e := congrArg (18446744073709551616 ^ (j + v.length) * ·) hd
    simp only [Nat.mul_add] at e hsum
    omega
   have hb0 : (vY (w.getD (j + v.length) 0) c b).2.1 = 0 := if_neg hbo
   obtain ⟨f1, f2⟩ := aTk hW hqq hx1 h3
   refine ⟨_, aA (by constructor <;> omega) (aA (by omega) (aA hb (aA (by constructor <;> omega) (aA (by omega) ?_)))), ?_, lw2, f2⟩
   ·refine (if_pos hb0).trans ?_
    rw [f1]; rfl
   ·rw [List.length_set]; exact hlen
 have start : ∀ x rest over, DgL (v.getD (v.length - 1) 0) (u.getD (j + v.length) 0) (u.getD (j + (v.length - 1)) 0) (nv u / 18446744073709551616 ^ j / nv v) x rest over → ∃ w, lD v un j u x rest over = some (nv u / 18446744073709551616 ^ j / nv v, w) ∧ w.length = u.length ∧ Lm w ∧ nv w + nv u / 18446744073709551616 ^ j / nv v * (18446744073709551616 ^ j * nv v) = nv u := by
  intro x rest over hL
  obtain ⟨e, g1, g2, g3, g4⟩ := aTh hn hs hu ho hD hL
  obtain ⟨w, k1, k2⟩ := main e g2 g3 g4
  refine ⟨w, ?_, k2⟩
  unfold lD
  exact aX g1 k1
 have hu1 := dT lu (j + (v.length - 1))
 have hu2 := dT lu (j + v.length)
 have hv1 := dT lv (v.length - 1)
 have hge := aWb hD
 have hlt := aWc hD
 have hle := aWa hD
 unfold pS
 rw [e1]
 by_cases hc : u.getD (j + v.length) 0 < v.getD (v.length - 1) 0
 ·have hdm := Nat.div_add_mod (u.getD (j + v.length) 0 * 18446744073709551616 + u.getD (j + (v.length - 1)) 0) (v.getD (v.length - 1) 0)
  have hml := Nat.mod_lt (u.getD (j + v.length) 0 * 18446744073709551616 + u.getD (j + (v.length - 1)) 0) (show 0 < v.getD (v.length - 1) 0 by omega)
  have hdl : (u.getD (j + v.length) 0 * 18446744073709551616 + u.getD (j + (v.length - 1)) 0) / v.getD (v.length - 1) 0 < 18446744073709551616 := by
   refine (Nat.div_lt_iff_lt_mul (by omega)).2 ?_
   have := Nat.mul_le_mul_right 18446744073709551616 (show u.getD (j + v.length) 0 + 1 ≤ v.getD (v.length - 1) 0 from hc)
   rw [Nat.mul_comm 18446744073709551616]; omega
  obtain ⟨w, k1, k2⟩ := start _ _ 0 ⟨by rw [Nat.zero_mul, Nat.add_zero, Nat.mul_comm]; exact hdm, Nat.lt_trans hml hv1, by decide, hdl, hge⟩
  refine ⟨w, ?_, k2⟩
  refine aA (by constructor <;> omega) (aA (by omega) (aA (by constructor <;> omega) (aA (by constructor <;> omega) ?_)))
  refine (if_pos hc).trans ?_
  exact aA (by constructor <;> omega) (aA (by omega) (aA (by constructor <;> omega) (aA (by constructor <;> omega) (aA (by omega) (aA (by constructor <;> omega) (aA (by constructor <;> omega) (aA hc k1)))))))
 ·have hd := Nat.div_add_mod (u.getD (j + (v.length - 1)) 0 + v.getD (v.length - 1) 0 + 0) 18446744073709551616
  obtain ⟨w, k1, k2⟩ := start 18446744073709551615 ((u.getD (j + (v.length - 1)) 0 + v.getD (v.length - 1) 0 + 0) % 18446744073709551616) ((u.getD (j + (v.length - 1)) 0 + v.getD (v.length - 1) 0 + 0) / 18446744073709551616) ⟨by omega, Nat.mod_lt _ (by decide), by omega, by decide, by omega⟩
  refine ⟨w, ?_, k2⟩
  refine aA (by constructor <;> omega) (aA (by omega) (aA (by constructor <;> omega) (aA (by constructor <;> omega) ?_)))
  refine (if_neg hc).trans ?_
  exact aA (by constructor <;> omega) (aA (by constructor <;> omega) (aA (by omega) (aA (by constructor <;> omega) (aA (by constructor <;> omega) (aA (Nat.zero_le _) k1)))))
end Nu
end Go.Proofs
namespace Go.Proofs
open Go.Vc
set_option maxRecDepth 20000
namespace Nu
abbrev oC (a b : List Nat) : Prop := Nrm a ∧ Nrm b ∧ nv b ≠ 0 ∧ a.length ≤ 1099511627776
def bD (a b : List Nat) : List Nat × List Nat × Unit := (lb (nv a / nv b), lb (nv a % nv b), ())
noncomputable def oX (b_1 : (List Nat)) (u_11 : (List Nat)) (q_12 : (List Nat)) : Option (((List Nat) × ((List Nat) × Unit))) :=
 ck (0 ≤ (((b_1.length) : Nat) : Int) ∧ (((b_1.length) : Nat) : Int) ≤ (((u_11.length) : Nat) : Int)) (ck ((aEm (cH (List.take (b_1.length) u_11)) (aB (b_1.getD (((((b_1.length) : Nat) : Int) - (1 : Int)).toNat) (0 : Nat))))) (some ((cH q_12), (cF (cH (List.take (b_1.length) u_11)) (aB (b_1.getD (((((b_1.length) : Nat) : Int) - (1 : Int)).toNat) (0 : Nat)))), ())))
noncomputable def jP (b_1 : (List Nat)) (j_14 : Int) (u_15 : (List Nat)) (q_16 : (List Nat)) : Option ((Int × (List Nat) × (List Nat)) ⊕ (((List Nat) × (List Nat)))) :=
 if (0 : Int) ≤ j_14 then ck (I64 (j_14 + (((b_1.length) : Nat) : Int))) (ck (I64 ((j_14 + (((b_1.length) : Nat) : Int)) + (1 : Int))) (ck (0 ≤ j_14 ∧ j_14 < ((j_14 + (((b_1.length) : Nat) : Int)) + (1 : Int)) ∧ ((j_14 + (((b_1.length) : Nat) : Int)) + (1 : Int)) ≤ (((u_15.length) : Nat) : Int)) (((pS (j_14.toNat) ((((j_14 + (((b_1.length) : Nat) : Int)) + (1 : Int)) - j_14).toNat) (cP (bF b_1 (aB (b_1.getD (((((b_1.length) : Nat) : Int) - (1 : Int)).toNat) (0 : Nat)))) (((b_1.length) : Nat) : Int)) u_15)).bind (fun r_24 => ck (0 ≤ j_14 ∧ j_14 < (((q_16.length) : Nat) : Int)) (ck (I64 (j_14 - (1 : Int))) (some (.inl ((j_14 - (1 : Int)), (r_24.2), (q_16.set (j_14.toNat) (r_24.1)))))))))) else some (.inr (u_15, q_16))
noncomputable def uK (a_0 : (List Nat)) (b_1 : (List Nat)) : Option ((List Nat) × ((List Nat) × Unit)) :=
 ck ((aQs a_0 b_1)) (if (lL a_0 b_1) < (0 : Int) then ck ((aOM a_0)) (some (([] : List Nat), (id a_0), ())) else if (((b_1.length) : Nat) : Int) = (1 : Int) then ck ((0 : Int) < (((b_1.length) : Nat) : Int)) (ck ((aBm a_0 (b_1.getD (0 : Nat) (0 : Nat)))) (some (((pP a_0 (b_1.getD (0 : Nat) (0 : Nat))).1), (((pP a_0 (b_1.getD (0 : Nat) (0 : Nat))).2).1), ()))) else ck (I64 ((((b_1.length) : Nat) : Int) - (1 : Int))) (ck (0 ≤ ((((b_1.length) : Nat) : Int) - (1 : Int)) ∧ ((((b_1.length) : Nat) : Int) - (1 : Int)) < (((b_1.length) : Nat) : Int)) (ck ((aEX b_1 (aB (b_1.getD (((((b_1.length) : Nat) : Int) - (1 : Int)).toNat) (0 : Nat))))) (ck ((uJ (bF b_1 (aB (b_1.getD (((((b_1.length) : Nat) : Int) - (1 : Int)).toNat) (0 : Nat)))) (((b_1.length) : Nat) : Int))) (ck ((aEX a_0 (aB (b_1.getD (((((b_1.length) : Nat) : Int) - (1 : Int)).toNat) (0 : Nat))))) (ck (I64 ((((a_0.length) : Nat) : Int) + (1 : Int))) (ck ((uJ (bF a_0 (aB (b_1.getD (((((b_1.length) : Nat) : Int) - (1 : Int)).toNat) (0 : Nat)))) ((((a_0.length) : Nat) : Int) + (1 : Int)))) (ck (I64 ((((a_0.length) : Nat) : Int) - (((b_1.length) : Nat) : Int))) (ck (I64 (((((a_0.length) : Nat) : Int) - (((b_1.length) : Nat) : Int)) + (1 : Int))) (ck (0 ≤ (((((a_0.length) : Nat) : Int) - (((b_1.length) : Nat) : Int)) + (1 : Int))) (ck ((8 : Int) * (((((a_0.length) : Nat) : Int) - (((b_1.length) : Nat) : Int)) + (1 : Int)) ≤ 281474976710656) (ck (I64 ((((a_0.length) : Nat) : Int) - (((b_1.length) : Nat) : Int))) ((cE (fun d : Int × (List Nat) × (List Nat) => jP b_1 d.1 d.2.1 d.2.2) (((((a_0.length) : Nat) : Int) - (((b_1.length) : Nat) : Int)), (cP (bF a_0 (aB (b_1.getD (((((b_1.length) : Nat) : Int) - (1 : Int)).toNat) (0 : Nat)))) ((((a_0.length) : Nat) : Int) + (1 : Int))), (List.replicate ((((((a_0.length) : Nat) : Int) - (((b_1.length) : Nat) : Int)) + (1 : Int)).toNat) (0 : Nat)))).bind (fun e => oX b_1 e.1 e.2))))))))))))))
theorem aEp {a : List Nat} {n : Int} : nv (cP a n) = nv a := by
 unfold cP; rw [aEi, aEj, Nat.mul_zero, Nat.add_zero]
theorem aHO {a : List Nat} {n : Int} (h : a.length ≤ n) : (cP a n).length = n.toNat := by
 unfold cP; rw [List.length_append, List.length_replicate]; omega
theorem aKX {a : List Nat} {n : Int} (h : Lm a) : Lm (cP a n) := aSZ h (aEk _)
theorem aNL {b : List Nat} (lb' : Lm b) (hn : Nrm b) (h0 : nv b ≠ 0) : 0 < b.length ∧ 1 ≤ b.getD (b.length - 1) 0 ∧ b.getD (b.length - 1) 0 * 18446744073709551616 ^ (b.length - 1) ≤ nv b ∧ nv b < (b.getD (b.length - 1) 0 + 1) * 18446744073709551616 ^ (b.length - 1) := by
 have hne : b ≠ [] := fun e => h0 (by rw [e]; rfl)
 have hl : 0 < b.length := List.length_pos_iff.2 hne
 have hp : 0 < 18446744073709551616 ^ (b.length - 1) := Nat.pow_pos (by decide)
 have hge := aQq hn hne
 have hlt := gN lb'
 have ht : b.getD (b.length - 1) 0 = nv b / 18446744073709551616 ^ (b.length - 1) := by
  rw [nB lb']
  refine Nat.mod_eq_of_lt ((Nat.div_lt_iff_lt_mul hp).2 ?_)
  rw [Nat.mul_comm, ← Nat.pow_succ, show (b.length - 1).succ = b.length from by omega]
  exact hlt
 rw [ht]
 exact ⟨hl, (Nat.le_div_iff_mul_le hp).2 (by omega), Nat.div_mul_le_self _ _, by rw [Nat.mul_comm]; exact Nat.lt_mul_div_succ _ hp⟩
theorem aRw {b : List Nat} (lb' : Lm b) (hn : Nrm b) (h0 : nv b ≠ 0) : nv b * 2 ^ (64 - bl (b.getD (b.length - 1) 0)) < 18446744073709551616 ^ b.length ∧ 9223372036854775808 * 18446744073709551616 ^ (b.length - 1) ≤ nv b * 2 ^ (64 - bl (b.getD (b.length - 1) 0)) := by
 obtain ⟨hl, h1, h2, h3⟩ := aNL lb' hn h0
 have hb := aRl (dT lb' (b.length - 1))
 have hlow := aLE (x := b.getD (b.length - 1) 0) (by omega)
 have hlt := aCf (b.getD (b.length - 1) 0)
 have hpos := aEl (x := b.getD (b.length - 1) 0) (by omega)
 generalize b.getD (b.length - 1) 0 = t at *
 have hp := Nat.two_pow_pos (64 - bl t)
 have e1 : 2 ^ bl t * 2 ^ (64 - bl t) = 18446744073709551616 := by rw [← Nat.pow_add, show bl t + (64 - bl t) = 64 from by omega]
 have e2 : 2 ^ (bl t - 1) * 2 ^ (64 - bl t) = 9223372036854775808 := by rw [← Nat.pow_add, show bl t - 1 + (64 - bl t) = 63 from by omega]
 constructor
 ·have k1 : (t + 1) * 2 ^ (64 - bl t) ≤ 18446744073709551616 := by rw [← e1]; exact Nat.mul_le_mul_right _ hlt
  have k2 := Nat.mul_lt_mul_of_pos_right h3 hp
  refine Nat.lt_of_lt_of_le k2 ?_
  rw [Nat.mul_right_comm, show 18446744073709551616 ^ b.length = 18446744073709551616 * 18446744073709551616 ^ (b.length - 1) from by rw [Nat.mul_comm, ← Nat.pow_succ]; congr 1; omega]
  exact Nat.mul_le_mul_right _ k1
 ·have k1 : 9223372036854775808 ≤ t * 2 ^ (64 - bl t) := by rw [← e2]; exact Nat.mul_le_mul_right _ hlow
  refine Nat.le_trans (Nat.mul_le_mul_right _ k1) ?_
  rw [Nat.mul_right_comm]
  exact Nat.mul_le_mul_right _ h2
structure QrI (m n V N : Nat) (j : Int) (u q : List Nat) : Prop where
 j0 : -1 ≤ j
 j1 : j ≤ m
 ul : u.length = m + n + 1
 lu : Lm u
 ql : q.length = m + 1
 lq : Lm q
 lt : nv u < 18446744073709551616 ^ (j + 1).toNat * V
 lo : ∃ t, nv q = 18446744073709551616 ^ (j + 1).toNat * t
 sum : nv q * V + nv u = N
theorem aTl {m n V N : Nat} {j : Int} {u q w : List Nat} (h : QrI m n V N j u q) (hj : 0 ≤ j) (hw : w.length = u.length) (lw : Lm w) (hV : 0 < V)
  (e : nv w + nv u / (18446744073709551616 ^ j.toNat * V) * (18446744073709551616 ^ j.toNat * V) = nv u) : QrI m n V N (j - 1) w (q.set j.toNat (nv u / (18446744073709551616 ^ j.toNat * V))) := by
 have h1 := h.j1
 have hql := h.ql
 have hul := h.ul
 have e1 : (j + 1).toNat = j.toNat + 1 := by omega
 have e2 : (j - 1 + 1).toNat = j.toNat := by omega
 have hW : 0 < 18446744073709551616 ^ j.toNat * V := Nat.mul_pos (Nat.pow_pos (by decide)) hV
 have hlt := h.lt
 obtain ⟨t, ht⟩ := h.lo
 rw [e1] at hlt ht
 have hQ : nv u / (18446744073709551616 ^ j.toNat * V) < 18446744073709551616 := by
  refine (Nat.div_lt_iff_lt_mul hW).2 ?_
  rw [Nat.pow_succ, Nat.mul_comm (18446744073709551616 ^ j.toNat) 18446744073709551616, Nat.mul_assoc] at hlt
  exact hlt
 have hz : q.getD j.toNat 0 = 0 := by
  rw [nB h.lq, ht, Nat.pow_succ, Nat.mul_assoc, Nat.mul_div_cancel_left _ (Nat.pow_pos (by decide)), Nat.mul_mod_right]
 have hset := xY (a := q) (k := j.toNat) (v := nv u / (18446744073709551616 ^ j.toNat * V)) (by omega)
 rw [hz, Nat.mul_zero, Nat.add_zero] at hset
 have hwm : nv w = nv u % (18446744073709551616 ^ j.toNat * V) := by
  have d := Nat.div_add_mod (nv u) (18446744073709551616 ^ j.toNat * V)
  rw [Nat.mul_comm] at d
  omega
 refine ⟨by omega, by omega, by omega, lw, by rw [List.length_set]; exact hql, tT h.lq _ hQ, ?_, ?_, ?_⟩
 ·rw [e2, hwm]; exact Nat.mod_lt _ hW
 ·rw [e2, hset, ht, Nat.pow_succ, Nat.mul_assoc, ← Nat.mul_add]; exact ⟨_, rfl⟩
 ·have hs := h.sum
  rw [hset, Nat.add_mul, Nat.mul_right_comm, Nat.mul_comm (18446744073709551616 ^ j.toNat * V)]
  omega
theorem aHP (a : List Nat) (wa : (Ty.sl (.u .u64)).wf a) (b : List Nat) (wb : (Ty.sl (.u .u64)).wf b) (hp : oC a b) : uK a b = some (bD a b) := by
 obtain ⟨na, nb, hb0, sa⟩ := hp
 have la := qR wa
 have lb' := qR wb
 obtain ⟨hl, t1, t2, t3⟩ := aNL lb' nb hb0
 obtain ⟨v1, v2⟩ := aRw lb' nb hb0
 have h64 := aRl (dT lb' (b.length - 1))
 have hpos := aEl (x := b.getD (b.length - 1) 0) (by omega)
 unfold uK
 refine aA ⟨na, nb⟩ (yW (fun hc => ?_) (fun hc => yW (fun h1 => ?_) (fun h1 => ?_)))
 ·have hlt : nv a < nv b := by
   unfold lL aCE at hc
   split at hc
   ·assumption
   ·split at hc <;> omega
  unfold bD
  rw [Nat.div_eq_of_lt hlt, Nat.mod_eq_of_lt hlt, gB, aQp la na]
  exact aA (by show a.length * 8 ≤ _; omega) rfl
 ·have hb1 : nv b = b.getD 0 0 := by
   match b, (show b.length = 1 by omega) with
   | [x], _ => rfl
  refine aA (by omega) (aA ⟨by rw [← hb1]; exact hb0, sa⟩ ?_)
  unfold pP bD
  rw [← hb1]
 ·have hge : nv b ≤ nv a := by
   unfold lL aCE at hc
   split at hc
   ·omega
   ·omega
  have hlen : b.length ≤ a.length := by
   rcases Nat.lt_or_ge a.length b.length with h | h
   ·exfalso
    have k1 := gN la
    have k2 : 18446744073709551616 ^ a.length ≤ 18446744073709551616 ^ (b.length - 1) := Nat.pow_le_pow_right (by decide) (by omega)
    have k3 := aQq nb (fun e => hb0 (by rw [e]; rfl))
    omega
   ·exact h
  have e1 : ((b.length : Int) - 1).toNat = b.length - 1 := by omega
  rw [e1]
  have hs : (aB (b.getD (b.length - 1) 0)).toNat = 64 - bl (b.getD (b.length - 1) 0) := by unfold aB; omega
  have hs2 : 0 ≤ aB (b.getD (b.length - 1) 0) ∧ aB (b.getD (b.length - 1) 0) ≤ 63 := by unfold aB; omega
  have hLb : bF b (aB (b.getD (b.length - 1) 0)) = lb (nv b * 2 ^ (64 - bl (b.getD (b.length - 1) 0))) := by unfold bF; rw [hs]
  have hLa : bF a (aB (b.getD (b.length - 1) 0)) = lb (nv a * 2 ^ (64 - bl (b.getD (b.length - 1) 0))) := by unfold bF; rw [hs]
  have hs3 : 64 - bl (b.getD (b.length - 1) 0) ≤ 63 := by omega
  have hbl : (lb (nv b * 2 ^ (64 - bl (b.getD (b.length - 1) 0)))).length ≤ b.length := lC.2 v1
  have hal : (lb (nv a * 2 ^ (64 - bl (b.getD (b.length - 1) 0)))).length ≤ a.length + 1 := by
   refine lC.2 ?_
   rw [Nat.pow_succ]
   refine Nat.mul_lt_mul'' (gN la) ?_
   exact Nat.lt_of_le_of_lt (Nat.pow_le_pow_right (by decide) hs3) (by decide)
  have hn2 : 2 ≤ b.length := by omega
  obtain ⟨sI, hsI⟩ : ∃ sI, sI = aB (b.getD (b.length - 1) 0) := ⟨_, rfl⟩
  obtain ⟨s, hss⟩ : ∃ s, s = 64 - bl (b.getD (b.length - 1) 0) := ⟨_, rfl⟩
  rw [← hss] at v1 v2 hbl hal hLa hLb hs3 hs
  rw [← hsI] at hLa hLb hs2 hs
  rw [← hsI, hLa, hLb]
  have hV : 0 < nv b * 2 ^ s := Nat.mul_pos (by omega) (Nat.two_pow_pos s)
  have key := cR (step := fun d : Int × (List Nat) × (List Nat) => jP b d.1 d.2.1 d.2.2) (I := fun d => QrI (a.length - b.length) b.length (nv b * 2 ^ s) (nv a * 2 ^ s) d.1 d.2.1 d.2.2) (fun d => (d.1 + 1).toNat)
   (fun e => e.1.length = a.length + 1 ∧ Lm e.1 ∧ nv e.1 = nv a * 2 ^ s % (nv b * 2 ^ s) ∧ nv e.2 = nv a * 2 ^ s / (nv b * 2 ^ s)) ?_ ((a.length : Int) - (b.length : Int), cP (lb (nv a * 2 ^ s)) ((a.length : Int) + 1), List.replicate (((a.length : Int) - (b.length : Int)) + 1).toNat 0) ?_
  ·obtain ⟨e, h2, h3, h4, h5, h6⟩ := key
   refine aA (by constructor <;> omega) (aA (by constructor <;> omega) (aA ⟨(by show b.length ≤ _; omega), by omega, by omega⟩ (aA (by constructor <;> omega) (aA ⟨sa, by omega, by omega⟩ (aA (by constructor <;> omega) (aA (by constructor <;> omega) (aA (by constructor <;> omega) (aA (by constructor <;> omega) (aA (by omega) (aA (by omega) (aA (by constructor <;> omega) (aX h2 ?_))))))))))))
   have hm : nv e.1 < nv b * 2 ^ s := by rw [h5]; exact Nat.mod_lt _ hV
   have htk : nv (e.1.take b.length) = nv e.1 := by
    rw [aUu h4]; exact Nat.mod_eq_of_lt (Nat.lt_trans hm v1)
   have htr : cH (e.1.take b.length) = lb (nv e.1) := by rw [cH, htk]
   unfold oX
   rw [e1, ← hsI, htr]
   refine aA (by constructor <;> omega) (aA ⟨?_, hs2.1⟩ ?_)
   ·have := lC.2 (Nat.lt_trans hm v1)
    show (lb (nv e.1)).length ≤ _
    omega
   ·unfold bD cF
    rw [cH, h6, eZ, hs, h5, Nat.mul_div_mul_right _ _ (Nat.two_pow_pos s), Nat.mul_mod_mul_right, Nat.mul_div_cancel _ (Nat.two_pow_pos s)]
  ·rintro ⟨j, u, q⟩ h
   have h : QrI (a.length - b.length) b.length (nv b * 2 ^ s) (nv a * 2 ^ s) j u q := h
   have i0 := h.j0
   have i1 := h.j1
   have hul := h.ul
   have hql := h.ql
   show (∃ d', jP b j u q = _ ∧ _) ∨ ∃ e, jP b j u q = _ ∧ _
   unfold jP
   rw [e1, ← hsI, hLb]
   by_cases hj : 0 ≤ j
   ·left
    have hvl : (cP (lb (nv b * 2 ^ s)) (b.length : Int)).length = b.length := by rw [aHO (by omega), Int.toNat_natCast]
    have hvv : nv (cP (lb (nv b * 2 ^ s)) (b.length : Int)) = nv b * 2 ^ s := by rw [aEp, eZ]
    have lv : Lm (cP (lb (nv b * 2 ^ s)) (b.length : Int)) := aKX (aAE _)
    have htop : 9223372036854775808 ≤ (cP (lb (nv b * 2 ^ s)) (b.length : Int)).getD (b.length - 1) 0 := by
     have hp : 0 < 18446744073709551616 ^ (b.length - 1) := Nat.pow_pos (by decide)
     rw [nB lv, hvv, Nat.mod_eq_of_lt ((Nat.div_lt_iff_lt_mul hp).2 (by rw [← Nat.pow_succ', show (b.length - 1).succ = b.length from by omega]; exact v1))]
     exact (Nat.le_div_iff_mul_le hp).2 v2
    have hlt := h.lt
    rw [show (j + 1).toNat = j.toNat + 1 from by omega] at hlt
    obtain ⟨w, k1, k2, k3, k4⟩ := aJJ (v := cP (lb (nv b * 2 ^ s)) (b.length : Int)) (u := u) (j := j.toNat) (un := ((j + (b.length : Int)) + 1 - j).toNat) lv h.lu (by rw [hvl]; exact hn2) (by rw [hvl]; omega) (by rw [hvl]; omega) (by omega) (by rw [hvl]; exact htop) (by rw [hvv]; exact hlt)
    rw [hvv] at k1 k4
    refine ⟨(j - 1, w, q.set j.toNat (nv u / (18446744073709551616 ^ j.toNat * (nv b * 2 ^ s)))), ?_, aTl h hj k2 k3 hV k4, by simp only; omega⟩
    rw [if_pos hj]
    exact aA (by constructor <;> omega) (aA (by constructor <;> omega) (aA (by constructor <;> omega) (aX k1 (aA (by constructor <;> omega) (aA (by constructor <;> omega) rfl)))))
   ·right
    have hj1 : (j + 1).toNat = 0 := by omega
    have hlt := h.lt
    rw [hj1, Nat.pow_zero, Nat.one_mul] at hlt
    have hs4 := h.sum
    refine ⟨(u, q), by rw [if_neg hj], by simp only; omega, h.lu, ?_, ?_⟩
    ·simp only
     rw [← hs4, Nat.add_comm, Nat.add_mul_mod_self_right, Nat.mod_eq_of_lt hlt]
    ·simp only
     rw [← hs4, Nat.add_comm, Nat.add_mul_div_right _ _ hV, Nat.div_eq_of_lt hlt, Nat.zero_add]
  ·have ej : ((a.length : Int) - (b.length : Int) + 1).toNat = a.length - b.length + 1 := by omega
   refine ⟨by simp only; omega, by simp only; omega, ?_, aKX (aAE _), ?_, aEk _, ?_, ⟨0, ?_⟩, ?_⟩
   ·simp only; rw [aHO (by omega)]; omega
   ·simp only; rw [List.length_replicate]; omega
   ·simp only
    rw [aEp, eZ, ej]
    have k1 := gN la
    have k2 : 2 ^ s ≤ 2 ^ 63 := Nat.pow_le_pow_right (by decide) hs3
    refine Nat.lt_of_lt_of_le (Nat.mul_lt_mul_of_pos_right k1 (Nat.two_pow_pos s)) ?_
    refine Nat.le_trans (Nat.mul_le_mul_left _ k2) ?_
    refine Nat.le_trans ?_ (Nat.mul_le_mul_left _ v2)
    rw [Nat.mul_left_comm, ← Nat.pow_add, show a.length - b.length + 1 + (b.length - 1) = a.length from by omega, Nat.mul_comm]
    exact Nat.le_refl _
   ·simp only; rw [aEj, Nat.mul_zero]
   ·simp only; rw [aEj, Nat.zero_mul, Nat.zero_add, aEp, eZ]
end Nu
end Go.Proofs
namespace Go.Proofs
open Go.Vc
set_option maxRecDepth 20000
namespace Nu
def aCm : PlR := ⟨[(0, .A [0, 1]), (1, .B [4])], []⟩
def aAr : Ty := .pair (.sl (.u .u64)) (.pair (.i .i64) .unit)
noncomputable def sN : aK := ⟨aAr, .own 54 (.u .u64), fun x => uJ x.1 x.2.1, fun x => cP x.1 x.2.1⟩
attribute [go_sem] sN aAr
noncomputable def aJK : aK := mSpec aAr (.own 54 (.u .u64)) (fun x => qX x.1 x.2.1)
noncomputable def aDv : List (FuncId × aK) := [(120, bM)]
theorem aL4 : bN Tryz.prog GL aDv := .cons fD (by kernel_rfl) (.nil)
theorem aEq : gam aDv 120 = some bM := rfl
attribute [go_sem] aCm aEq
set_option maxHeartbeats 4000000 in
theorem aJL : FOK Tryz.prog GL 123 aJK := by
 refine bR (bC aL4) mix Tryz.func123 rfl (by kernel_rfl) (by decide) aCm fun w0 S x Θ hw h hF => ?_
 obtain ⟨(a_0 : (List Nat)), (n_1 : Int), u⟩ := x
 simp only [bV, go_sem]
 replace h : sat (qX a_0 n_1) _ := h
 unfold qX at h
 refine aI h fun g0 h => ?_
 refine aI h fun g0 h => ?_
 obtain ⟨g0, h⟩ := aH h
 obtain ⟨g1, h⟩ := aH h
 repeat (refine ⟨by omega, ?_⟩)
 exact aL hF [.tmp 4] rfl rfl rfl (aC h) (by simp only [aZ, go_sem])
theorem aJM : FOK Tryz.prog GL 123 sN := dM aJL (fun ⟨x0, x1, u⟩ ⟨w0, w1, wu⟩ hp => aHN x0 w0 x1 w1 hp)
noncomputable def uL : mZ where
 D := Nat × Nat × (List Nat) × (List Nat) × ((Nat × (List Nat)))
 av := fun d => [.sub 0 1 d.1 d.2.1, .val (.sl (.u .u64)) d.2.2.1]
 hp := fun d => [.row 54 (.u .u64) d.2.2.2.1]
 m := 1
 pre := fun d => pS d.1 d.2.1 d.2.2.1 d.2.2.2.1 = some d.2.2.2.2
 out := fun d => (fun r : (Nat × (List Nat)) => .ret (.val (.u .u64) r.1) [.row 54 (.u .u64) (r.2)]) d.2.2.2.2
noncomputable def pT : List (FuncId × aK) := [(126, iH), (127, iG), (157, mP), (159, sL)]
theorem aFb : bN Tryz.prog GL pT := .cons yA (by kernel_rfl) (.nat xX (.cons aCk (by kernel_rfl) (.nat aJu (.nil))))
theorem aF9 : gam pT 126 = some iH := rfl
attribute [go_sem] aF9
theorem aGa : gam pT 127 = some iG := rfl
attribute [go_sem] aGa
theorem aGb : gam pT 157 = some mP := rfl
attribute [go_sem] aGb
theorem aGc : gam pT 159 = some sL := rfl
attribute [go_sem] aGc
set_option maxHeartbeats 4000000 in
theorem aL5 : GOK Tryz.prog GL 124 uL := by
 refine sW (bC aFb) Tryz.func124 rfl (by kernel_rfl) (fun _ => Nat.le_of_ble_eq_true rfl) fun c0 w0 d hw1 hw2 h hn => ?_
 have hF : kT ⟨Tryz.prog, EM pT, GM uL c0 d, w0, Tryz.f124.ntmps, []⟩ := ⟨bC aFb, mix⟩
 obtain ⟨(uo_0 : Nat), (un_0 : Nat), (v_1 : (List Nat)), (o0_2 : (List Nat)), r⟩ := d
 replace h : pS uo_0 un_0 v_1 o0_2 = some r := h
 have hw1 : AV.wfL [.sub 0 1 uo_0 un_0, .val (.sl (.u .u64)) v_1] := hw1
 simp only [AV.wfL, AV.wfV, Ty.wf, pH] at hw1
 show Tri _ _ _ [(0, .sub 0 1 uo_0 un_0), (1, .val (.sl (.u .u64)) v_1)] [.row 54 (.u .u64) o0_2]
 unfold pS at h
 refine aF (aE hF [0, 1] ?_)
 simp only [go_sem]
 refine aG (aF (aE hF [0, 1, 5] ?_))
 simp only [go_sem]
 refine aG (aF (aE hF [0, 1, 5, 6, 8] ?_))
 simp only [go_sem]
 refine aG (jO (D := Nat × Nat × Nat) (fun d => lD v_1 un_0 uo_0 o0_2 d.1 d.2.1 d.2.2 = some r) [1, 5] (fun d => [(0, .sub 0 1 uo_0 un_0), (6, .val (.u .u64) d.1), (7, .val (.u .u64) d.2.1), (8, .val (.u .u64) d.2.2)]) (fun d => [.inr (.row 54 (.u .u64) o0_2)]) ?_ ?_)
 ·refine aF (aE hF [0, 1, 5, 6, 8, 31] ?_)
  simp only [go_sem]
  obtain ⟨g0, h⟩ := aJ h
  obtain ⟨g1, h⟩ := aJ h
  obtain ⟨g2, h⟩ := aJ h
  obtain ⟨g3, h⟩ := aJ h
  try simp only [I64, I32] at g2
  repeat (refine ⟨by first | with_reducible assumption | omega | (intros; first | assumption | omega) | (simp only [go_sem] at *; first | assumption | omega) | decide, ?_⟩)
  refine aG (bU rfl (fun hc => ?_) (fun hc => ?_))
  ·try simp only [go_sem] at hc
   have h := fX (by first | exact hc | omega | (simpa using hc) | (simp at hc ⊢; omega)) h
   refine aE hF [0, 1, 5, 6, 7, 8] ?_
   simp only [go_sem]
   obtain ⟨g0, h⟩ := aJ h
   obtain ⟨g1, h⟩ := aJ h
   obtain ⟨g2, h⟩ := aJ h
   obtain ⟨g3, h⟩ := aJ h
   obtain ⟨g4, h⟩ := aJ h
   obtain ⟨g5, h⟩ := aJ h
   obtain ⟨g6, h⟩ := aJ h
   obtain ⟨g7, h⟩ := aJ h
   try simp only [I64, I32] at g2
   try simp only [I64, I32] at g5
   repeat (refine ⟨by first | with_reducible assumption | omega | (intros; first | assumption | omega) | (simp only [go_sem] at *; first | assumption | omega) | decide, ?_⟩)
   refine bG (aQ ((((iC (o0_2.getD (uo_0 + (v_1.length)) (0 : Nat)) (o0_2.getD (uo_0 + (((((v_1.length) : Nat) : Int) - (1 : Int)).toNat)) (0 : Nat)) (v_1.getD (((((v_1.length) : Nat) : Int) - (1 : Int)).toNat) (0 : Nat))).1), (((iC (o0_2.getD (uo_0 + (v_1.length)) (0 : Nat)) (o0_2.getD (uo_0 + (((((v_1.length) : Nat) : Int) - (1 : Int)).toNat)) (0 : Nat)) (v_1.getD (((((v_1.length) : Nat) : Int) - (1 : Int)).toNat) (0 : Nat))).2).1), (0 : Nat))) h rfl ?_)
   ·(try simp only [jR, fQ, true_or, and_self, go_sem]) <;> (repeat' apply And.intro) <;> first | rfl | (left; rfl) | (right; rfl) | (left; simp only [go_sem]; done) | (right; simp only [go_sem]; done) | (simp; done) | (simp only [*]; done) | omega
  ·try simp only [go_sem] at hc
   have h := fY (by first | exact hc | omega | (simpa using hc) | (simp at hc ⊢; omega)) h
   refine aE hF [0, 1, 5, 6, 7, 8] ?_
   simp only [go_sem]
   obtain ⟨g0, h⟩ := aJ h
   obtain ⟨g1, h⟩ := aJ h
   obtain ⟨g2, h⟩ := aJ h
   obtain ⟨g3, h⟩ := aJ h
   obtain ⟨g4, h⟩ := aJ h
   obtain ⟨g5, h⟩ := aJ h
   try simp only [I64, I32] at g0
   try simp only [I64, I32] at g3
   repeat (refine ⟨by first | with_reducible assumption | omega | (intros; first | assumption | omega) | (simp only [go_sem] at *; first | assumption | omega) | decide, ?_⟩)
   refine bG (aQ (((18446744073709551615 : Nat), ((eK (o0_2.getD (uo_0 + (((((v_1.length) : Nat) : Int) - (1 : Int)).toNat)) (0 : Nat)) (v_1.getD (((((v_1.length) : Nat) : Int) - (1 : Int)).toNat) (0 : Nat)) (0 : Nat)).1), (((eK (o0_2.getD (uo_0 + (((((v_1.length) : Nat) : Int) - (1 : Int)).toNat)) (0 : Nat)) (v_1.getD (((((v_1.length) : Nat) : Int) - (1 : Int)).toNat) (0 : Nat)) (0 : Nat)).2).1))) h rfl ?_)
   ·(try simp only [jR, fQ, true_or, and_self, go_sem]) <;> (repeat' apply And.intro) <;> first | rfl | (left; rfl) | (right; rfl) | (left; simp only [go_sem]; done) | (right; simp only [go_sem]; done) | (simp; done) | (simp only [*]; done) | omega
 ·rintro ⟨x_4, rest_5, over_6⟩ h
  try dsimp only at h
  simp only [go_sem]
  unfold lD at h
  refine jO (D := Nat) (fun d => nM v_1 un_0 uo_0 o0_2 d = some r) [1, 5] (fun d => [(0, .sub 0 1 uo_0 un_0), (6, .val (.u .u64) d)]) (fun d => [.inr (.row 54 (.u .u64) o0_2)]) ?_ ?_
  ·refine gM (yU (D := Nat × Nat × Nat) [1, 5] (fun d => [(0, .sub 0 1 uo_0 un_0), (6, .val (.u .u64) d.1), (7, .val (.u .u64) d.2.1), (8, .val (.u .u64) d.2.2)]) (fun d => [.inr (.row 54 (.u .u64) o0_2)]) h ?_ ?_ ?_)
   ·first | rfl | (simp only [go_sem]; done)
   ·(try simp only [jR, fQ, true_or, and_self, go_sem]) <;> (repeat' apply And.intro) <;> first | rfl | (left; rfl) | (right; rfl) | (left; simp only [go_sem]; done) | (right; simp only [go_sem]; done) | (simp; done) | (simp only [*]; done) | omega
   rintro ⟨x_52, rest_53, over_54⟩ s6 h hs6
   simp only [go_sem]
   try dsimp only at h
   unfold iW at h
   refine aF (aF (aE hF [0, 1, 5, 6, 7, 65] ?_))
   simp only [go_sem]
   refine aG (bU rfl (fun hc => ?_) (fun hc => ?_))
   ·try simp only [go_sem] at hc
    have h := fX (by first | exact hc | omega | (simpa using hc) | (simp at hc ⊢; omega)) h
    refine cG (aG (gM (aF (aE hF [0, 1, 5, 6, 7, 9, 10] ?_))))
    simp only [go_sem]
    obtain ⟨g0, h⟩ := aJ h
    obtain ⟨g1, h⟩ := aJ h
    try simp only [I64, I32] at g0
    repeat (refine ⟨by first | with_reducible assumption | omega | (intros; first | assumption | omega) | (simp only [go_sem] at *; first | assumption | omega) | decide, ?_⟩)
    refine aG (aF (aF (aE hF [0, 1, 5, 6, 7, 92] ?_)))
    simp only [go_sem]
    obtain ⟨g0, h⟩ := aJ h
    obtain ⟨g1, h⟩ := aJ h
    try simp only [I64, I32] at g0
    repeat (refine ⟨by first | with_reducible assumption | omega | (intros; first | assumption | omega) | (simp only [go_sem] at *; first | assumption | omega) | (intro q0 q1; (try have e0 := g0 (by first | exact q0 | omega | (simpa using q0)) (by first | exact q1 | omega | (simpa using q1))); (try have e1 := g1 (by first | exact q0 | omega | (simpa using q0)) (by first | exact q1 | omega | (simpa using q1))); first | assumption | omega) | (rintro ⟨q0, q1⟩; (try have e0 := g0 (by first | exact q0 | omega | (simpa using q0)) (by first | exact q1 | omega | (simpa using q1))); (try have e1 := g1 (by first | exact q0 | omega | (simpa using q0)) (by first | exact q1 | omega | (simpa using q1))); first | assumption | omega) | decide, ?_⟩)
    refine aG (bU rfl (fun hc => ?_) (fun hc => ?_))
    ·try simp only [go_sem] at hc
     have h := fX (by first | exact hc | omega | (simpa using hc) | (simp at hc ⊢; omega)) h
     obtain rfl := Option.some.inj h
     dsimp only [vW] at hs6
     have h := hs6
     try dsimp only at h
     refine vR (eF (vS (by decide) (eF (iF (bG (aQ (x_52) h rfl ?_))))))
     ·(try simp only [jR, fQ, true_or, and_self, go_sem]) <;> (repeat' apply And.intro) <;> first | rfl | (left; rfl) | (right; rfl) | (left; simp only [go_sem]; done) | (right; simp only [go_sem]; done) | (simp; done) | (simp only [*]; done) | omega
    ·try simp only [go_sem] at hc
     have h := fY (by first | exact hc | omega | (simpa using hc) | (simp at hc ⊢; omega)) h
     refine cG (aG (aF (aE hF [0, 1, 5, 6, 7] ?_)))
     simp only [go_sem]
     refine aG (aE hF [0, 1, 5, 6, 7, 8] ?_)
     simp only [go_sem]
     obtain ⟨g0, h⟩ := aJ h
     obtain ⟨g1, h⟩ := aJ h
     obtain ⟨g2, h⟩ := aJ h
     try simp only [I64, I32] at g0
     repeat (refine ⟨by first | with_reducible assumption | omega | (intros; first | assumption | omega) | (simp only [go_sem] at *; first | assumption | omega) | decide, ?_⟩)
     obtain rfl := Option.some.inj h
     dsimp only [vW] at hs6
     refine gA (bG (aQ (((iO .u64 x_52 (1 : Nat)), ((eK rest_53 (v_1.getD (((((v_1.length) : Nat) : Int) - (1 : Int)).toNat) (0 : Nat)) (0 : Nat)).1), (((eK rest_53 (v_1.getD (((((v_1.length) : Nat) : Int) - (1 : Int)).toNat) (0 : Nat)) (0 : Nat)).2).1))) hs6 rfl ?_))
     ·(try simp only [jR, fQ, true_or, and_self, go_sem]) <;> (repeat' apply And.intro) <;> first | rfl | (left; rfl) | (right; rfl) | (left; simp only [go_sem]; done) | (right; simp only [go_sem]; done) | (simp; done) | (simp only [*]; done) | omega
   ·try simp only [go_sem] at hc
    have h := fY (by first | exact hc | omega | (simpa using hc) | (simp at hc ⊢; omega)) h
    obtain rfl := Option.some.inj h
    dsimp only [vW] at hs6
    have h := hs6
    try dsimp only at h
    refine vR (eF (eF (iF (bG (aQ (x_52) h rfl ?_)))))
    ·(try simp only [jR, fQ, true_or, and_self, go_sem]) <;> (repeat' apply And.intro) <;> first | rfl | (left; rfl) | (right; rfl) | (left; simp only [go_sem]; done) | (right; simp only [go_sem]; done) | (simp; done) | (simp only [*]; done) | omega
  ·rintro x_13 h
   try dsimp only at h
   simp only [go_sem]
   unfold nM at h
   refine aF (aE hF [0, 1, 5, 6, 11, 12] ?_)
   simp only [go_sem]
   refine aG (jO (D := Nat × Nat × (List Nat)) (fun d => qZ v_1 un_0 uo_0 x_13 d.1 d.2.1 d.2.2 = some r) [1, 5, 6] (fun d => [(0, .sub 0 1 uo_0 un_0), (11, .val (.u .u64) d.1), (12, .val (.u .u64) d.2.1)]) (fun d => [.inr (.row 54 (.u .u64) d.2.2)]) ?_ ?_)
   ·refine aF (aE hF [0, 1, 5, 6, 11, 12, 105, 106, 107] ?_)
    simp only [go_sem]
    refine aG (gM (yU (D := Nat × Nat × Int × (List Nat)) [1, 5, 6, 105, 106] (fun d => [(0, .sub 0 1 uo_0 un_0), (11, .val (.u .u64) d.1), (12, .val (.u .u64) d.2.1), (107, .val (.i .i64) d.2.2.1)]) (fun d => [.inr (.row 54 (.u .u64) d.2.2.2)]) h ?_ ?_ ?_))
    ·first | rfl | (simp only [go_sem]; done)
    ·(try simp only [jR, fQ, true_or, and_self, go_sem]) <;> (repeat' apply And.intro) <;> first | rfl | (left; rfl) | (right; rfl) | (left; simp only [go_sem]; done) | (right; simp only [go_sem]; done) | (simp; done) | (simp only [*]; done) | omega
    rintro ⟨carry_41, borrow_42, x107_43, u_44⟩ s13 h hs13
    simp only [go_sem]
    try dsimp only at h
    unfold gW at h
    refine aF (aE hF [0, 1, 5, 6, 11, 12, 105, 106, 107, 108] ?_)
    simp only [go_sem]
    refine aG (aF (bU rfl (fun hc => ?_) (fun hc => ?_)))
    ·try simp only [go_sem] at hc
     have h := fX (by first | exact hc | omega | (simpa using hc) | (simp at hc ⊢; omega)) h
     refine cG (aG (aF (gM (aF (aE hF [0, 1, 5, 6, 11, 12, 13, 14, 105, 106, 107] ?_)))))
     simp only [go_sem]
     obtain ⟨g0, h⟩ := aJ h
     repeat (refine ⟨by first | with_reducible assumption | omega | (intros; first | assumption | omega) | (simp only [go_sem] at *; first | assumption | omega) | decide, ?_⟩)
     refine aG (aF (aE hF [0, 1, 5, 6, 11, 12, 13, 15, 16, 105, 106, 107] ?_))
     simp only [go_sem]
     refine aG (aF (aE hF [0, 1, 5, 6, 11, 12, 13, 15, 16, 105, 106, 107] ?_))
     simp only [go_sem]
     refine aG (aF (aE hF [0, 1, 5, 6, 12, 13, 15, 16, 17, 105, 106, 107] ?_))
     simp only [go_sem]
     obtain ⟨g0, h⟩ := aJ h
     repeat (refine ⟨by first | with_reducible assumption | omega | (intros; first | assumption | omega) | (simp only [go_sem] at *; first | assumption | omega) | decide, ?_⟩)
     refine aG (aF (aE hF [0, 1, 5, 6, 11, 12, 13, 16, 105, 106, 107] ?_))
     simp only [go_sem]
     refine aG (bY hF [0, 1, 5, 6, 11, 12, 105, 106, 107] ?_)
     simp only [go_sem]
     obtain ⟨g0, h⟩ := aJ h
     obtain ⟨g1, h⟩ := aJ h
     repeat (refine ⟨by first | with_reducible assumption | omega | (intros; first | assumption | omega) | (simp only [go_sem] at *; first | assumption | omega) | decide, ?_⟩)
     obtain ⟨g0, h⟩ := aJ h
     repeat (refine ⟨by first | with_reducible assumption | omega | (intros; first | assumption | omega) | (simp only [go_sem] at *; first | assumption | omega) | decide, ?_⟩)
     obtain ⟨g0, h⟩ := aJ h
     obtain ⟨g1, h⟩ := aJ h
     repeat (refine ⟨by first | with_reducible assumption | omega | (intros; first | assumption | omega) | (simp only [go_sem] at *; first | assumption | omega) | decide, ?_⟩)
     refine gA (aG (aE hF [0, 1, 5, 6, 11, 12, 105, 106, 107] ?_))
     simp only [go_sem]
     obtain ⟨g0, h⟩ := aJ h
     try simp only [I64, I32] at g0
     repeat (refine ⟨by first | with_reducible assumption | omega | (intros; first | assumption | omega) | (simp only [go_sem] at *; first | assumption | omega) | decide, ?_⟩)
     obtain rfl := Option.some.inj h
     dsimp only [vW] at hs13
     refine bG (aQ ((((((bH x_13 (v_1.getD (x107_43.toNat) (0 : Nat))).1) + (((eK (((bH x_13 (v_1.getD (x107_43.toNat) (0 : Nat))).2).1) carry_41 (0 : Nat)).2).1)) % 18446744073709551616), (((vY (u_44.getD (uo_0 + (x107_43.toNat)) (0 : Nat)) ((eK (((bH x_13 (v_1.getD (x107_43.toNat) (0 : Nat))).2).1) carry_41 (0 : Nat)).1) borrow_42).2).1), (x107_43 + (1 : Int)), (u_44.set (uo_0 + (x107_43.toNat)) ((vY (u_44.getD (uo_0 + (x107_43.toNat)) (0 : Nat)) ((eK (((bH x_13 (v_1.getD (x107_43.toNat) (0 : Nat))).2).1) carry_41 (0 : Nat)).1) borrow_42).1)))) hs13 rfl ?_)
     ·(try simp only [jR, fQ, true_or, and_self, go_sem]) <;> (repeat' apply And.intro) <;> first | rfl | (left; rfl) | (right; rfl) | (left; simp only [go_sem]; done) | (right; simp only [go_sem]; done) | (simp; done) | (simp only [*]; done) | omega
    ·try simp only [go_sem] at hc
     have h := fY (by first | exact hc | omega | (simpa using hc) | (simp at hc ⊢; omega)) h
     obtain rfl := Option.some.inj h
     dsimp only [vW] at hs13
     have h := hs13
     try dsimp only at h
     refine vR (eF (eF (iF (bG (aQ ((carry_41, borrow_42, u_44)) h rfl ?_)))))
     ·(try simp only [jR, fQ, true_or, and_self, go_sem]) <;> (repeat' apply And.intro) <;> first | rfl | (left; rfl) | (right; rfl) | (left; simp only [go_sem]; done) | (right; simp only [go_sem]; done) | (simp; done) | (simp only [*]; done) | omega
   ·rintro ⟨carry_22, borrow_23, u_24⟩ h
    try dsimp only at h
    simp only [go_sem]
    unfold qZ at h
    refine aF (aF (bY hF [0, 1, 5, 6, 12] ?_))
    simp only [go_sem]
    obtain ⟨g0, h⟩ := aJ h
    obtain ⟨g1, h⟩ := aJ h
    repeat (refine ⟨by first | with_reducible assumption | omega | (intros; first | assumption | omega) | (simp only [go_sem] at *; first | assumption | omega) | decide, ?_⟩)
    obtain ⟨g0, h⟩ := aJ h
    repeat (refine ⟨by first | with_reducible assumption | omega | (intros; first | assumption | omega) | (simp only [go_sem] at *; first | assumption | omega) | decide, ?_⟩)
    obtain ⟨g0, h⟩ := aJ h
    obtain ⟨g1, h⟩ := aJ h
    repeat (refine ⟨by first | with_reducible assumption | omega | (intros; first | assumption | omega) | (simp only [go_sem] at *; first | assumption | omega) | decide, ?_⟩)
    refine aG (aF (aE hF [0, 1, 5, 6, 155] ?_))
    simp only [go_sem]
    refine aG (bU rfl (fun hc => ?_) (fun hc => ?_))
    ·try simp only [go_sem] at hc
     have h := fX (by first | exact hc | omega | (simpa using hc) | (simp at hc ⊢; omega)) h
     refine aF (aE hF [4] ?_)
     simp only [go_sem]
     obtain rfl := Option.some.inj h
     refine aG (dS (dH (uF hF [.tmp 4] rfl rfl rfl rfl rfl rfl ?_)))
     (try simp only [aZ, aBe, aAM, fQ, oL, AV.isAgg, go_sem]) <;> first | trivial | rfl | (simp; done)
    ·try simp only [go_sem] at hc
     have h := fY (by first | exact hc | omega | (simpa using hc) | (simp at hc ⊢; omega)) h
     refine cG (aG (aF (aE hF [0, 1, 5, 6, 11] ?_)))
     simp only [go_sem]
     refine aG (jO (D := Nat × (List Nat)) (fun d => qY v_1 un_0 uo_0 x_13 d.1 d.2 = some r) [5, 6] (fun d => [(0, .sub 0 1 uo_0 un_0), (11, .val (.u .u64) d.1)]) (fun d => [.inr (.row 54 (.u .u64) d.2)]) ?_ ?_)
     ·refine aF (aE hF [0, 5, 6, 11, 157, 158, 159] ?_)
      simp only [go_sem]
      refine aG (gM (yU (D := Nat × Int × (List Nat)) [5, 6, 157, 158] (fun d => [(0, .sub 0 1 uo_0 un_0), (11, .val (.u .u64) d.1), (159, .val (.i .i64) d.2.1)]) (fun d => [.inr (.row 54 (.u .u64) d.2.2)]) h ?_ ?_ ?_))
      ·first | rfl | (simp only [go_sem]; done)
      ·(try simp only [jR, fQ, true_or, and_self, go_sem]) <;> (repeat' apply And.intro) <;> first | rfl | (left; rfl) | (right; rfl) | (left; simp only [go_sem]; done) | (right; simp only [go_sem]; done) | (simp; done) | (simp only [*]; done) | omega
      rintro ⟨carry_33, x159_34, u_35⟩ s26 h hs26
      simp only [go_sem]
      try dsimp only at h
      unfold gV at h
      refine aF (aE hF [0, 5, 6, 11, 157, 158, 159, 160] ?_)
      simp only [go_sem]
      refine aG (aF (bU rfl (fun hc => ?_) (fun hc => ?_)))
      ·try simp only [go_sem] at hc
       have h := fX (by first | exact hc | omega | (simpa using hc) | (simp at hc ⊢; omega)) h
       refine cG (aG (aF (gM (aF (aE hF [0, 5, 6, 11, 18, 19, 157, 158, 159] ?_)))))
       simp only [go_sem]
       obtain ⟨g0, h⟩ := aJ h
       repeat (refine ⟨by first | with_reducible assumption | omega | (intros; first | assumption | omega) | (simp only [go_sem] at *; first | assumption | omega) | decide, ?_⟩)
       refine aG (bY hF [0, 5, 6, 11, 157, 158, 159] ?_)
       simp only [go_sem]
       obtain ⟨g0, h⟩ := aJ h
       obtain ⟨g1, h⟩ := aJ h
       repeat (refine ⟨by first | with_reducible assumption | omega | (intros; first | assumption | omega) | (simp only [go_sem] at *; first | assumption | omega) | decide, ?_⟩)
       obtain ⟨g0, h⟩ := aJ h
       repeat (refine ⟨by first | with_reducible assumption | omega | (intros; first | assumption | omega) | (simp only [go_sem] at *; first | assumption | omega) | decide, ?_⟩)
       obtain ⟨g0, h⟩ := aJ h
       obtain ⟨g1, h⟩ := aJ h
       repeat (refine ⟨by first | with_reducible assumption | omega | (intros; first | assumption | omega) | (simp only [go_sem] at *; first | assumption | omega) | decide, ?_⟩)
       refine gA (aG (aE hF [0, 5, 6, 11, 157, 158, 159] ?_))
       simp only [go_sem]
       obtain ⟨g0, h⟩ := aJ h
       try simp only [I64, I32] at g0
       repeat (refine ⟨by first | with_reducible assumption | omega | (intros; first | assumption | omega) | (simp only [go_sem] at *; first | assumption | omega) | decide, ?_⟩)
       obtain rfl := Option.some.inj h
       dsimp only [vW] at hs26
       refine bG (aQ (((((eK (u_35.getD (uo_0 + (x159_34.toNat)) (0 : Nat)) (v_1.getD (x159_34.toNat) (0 : Nat)) carry_33).2).1), (x159_34 + (1 : Int)), (u_35.set (uo_0 + (x159_34.toNat)) ((eK (u_35.getD (uo_0 + (x159_34.toNat)) (0 : Nat)) (v_1.getD (x159_34.toNat) (0 : Nat)) carry_33).1)))) hs26 rfl ?_)
       ·(try simp only [jR, fQ, true_or, and_self, go_sem]) <;> (repeat' apply And.intro) <;> first | rfl | (left; rfl) | (right; rfl) | (left; simp only [go_sem]; done) | (right; simp only [go_sem]; done) | (simp; done) | (simp only [*]; done) | omega
      ·try simp only [go_sem] at hc
       have h := fY (by first | exact hc | omega | (simpa using hc) | (simp at hc ⊢; omega)) h
       obtain rfl := Option.some.inj h
       dsimp only [vW] at hs26
       have h := hs26
       try dsimp only at h
       refine vR (eF (eF (iF (bG (aQ ((carry_33, u_35)) h rfl ?_)))))
       ·(try simp only [jR, fQ, true_or, and_self, go_sem]) <;> (repeat' apply And.intro) <;> first | rfl | (left; rfl) | (right; rfl) | (left; simp only [go_sem]; done) | (right; simp only [go_sem]; done) | (simp; done) | (simp only [*]; done) | omega
     ·rintro ⟨carry_31, u_32⟩ h
      try dsimp only at h
      simp only [go_sem]
      unfold qY at h
      refine aF (bY hF [6] ?_)
      simp only [go_sem]
      obtain ⟨g0, h⟩ := aJ h
      obtain ⟨g1, h⟩ := aJ h
      repeat (refine ⟨by first | with_reducible assumption | omega | (intros; first | assumption | omega) | (simp only [go_sem] at *; first | assumption | omega) | decide, ?_⟩)
      obtain ⟨g0, h⟩ := aJ h
      obtain ⟨g1, h⟩ := aJ h
      repeat (refine ⟨by first | with_reducible assumption | omega | (intros; first | assumption | omega) | (simp only [go_sem] at *; first | assumption | omega) | decide, ?_⟩)
      refine aG (aF (aE hF [4] ?_))
      simp only [go_sem]
      obtain rfl := Option.some.inj h
      refine aG (dS (uF hF [.tmp 4] rfl rfl rfl rfl rfl rfl ?_))
      (try simp only [aZ, aBe, aAM, fQ, oL, AV.isAgg, go_sem]) <;> first | trivial | rfl | (simp; done)
attribute [go_sem] uL
end Nu
end Go.Proofs
namespace Go.Proofs
open Go.Vc
set_option maxRecDepth 20000
namespace Nu
def rA : Ty := .pair (.sl (.u .u64)) (.pair (.sl (.u .u64)) .unit)
noncomputable def iK : aK := ⟨rA, .tup (.pair (.sl (.u .u64)) (.pair (.sl (.u .u64)) .unit)), fun x => oC x.1 x.2.1, fun x => bD x.1 x.2.1⟩
attribute [go_sem] iK rA
noncomputable def aJN : aK := mSpec rA (.tup (.pair (.sl (.u .u64)) (.pair (.sl (.u .u64)) .unit))) (fun x => uK x.1 x.2.1)
noncomputable def gE : List (FuncId × aK) := [(119, oA), (120, bM), (121, uI), (122, cO), (123, sN), (125, dI), (68, iI), (69, gC)]
theorem aDw : bN Tryz.prog GL gE := .cons aDn (by kernel_rfl) (.cons fD (by kernel_rfl) (.cons aL3 (by kernel_rfl) (.cons lY (by kernel_rfl) (.cons aJM (by kernel_rfl) (.cons nL (by kernel_rfl) (.cons xD (by kernel_rfl) (.cons uH (by kernel_rfl) (.nil))))))))
theorem aEr : gam gE 119 = some oA := rfl
attribute [go_sem] aEr
theorem aEs : gam gE 120 = some bM := rfl
attribute [go_sem] aEs
theorem aEt : gam gE 121 = some uI := rfl
attribute [go_sem] aEt
theorem aEu : gam gE 122 = some cO := rfl
attribute [go_sem] aEu
theorem aEv : gam gE 123 = some sN := rfl
attribute [go_sem] aEv
theorem aEw : gam gE 125 = some dI := rfl
attribute [go_sem] aEw
theorem aGd : gam gE 68 = some iI := rfl
attribute [go_sem] aGd
theorem aGe : gam gE 69 = some gC := rfl
attribute [go_sem] aGe
set_option maxHeartbeats 4000000 in
theorem aJO : FOK Tryz.prog GL 62 aJN := by
 refine vG (bC aDw) Tryz.func62 rfl (by kernel_rfl) (by decide) fun w0 S x r hw h => ?_
 have hF : kT (fr Tryz.prog (EM gE) S w0 Tryz.f62.ntmps) := ⟨bC aDw, mix⟩
 obtain ⟨(a_0 : (List Nat)), (b_1 : (List Nat)), u⟩ := x
 simp only [rA, Ty.wf, pH] at hw
 simp only [bV, rA]
 try dsimp only at h
 unfold uK at h
 refine aF (aE hF [0, 1] ?_)
 simp only [go_sem]
 refine aG (aF (aF (aE hF [0, 1, 15] ?_)))
 simp only [go_sem]
 obtain ⟨g0, h⟩ := aJ h
 repeat (refine ⟨by first | with_reducible assumption | omega | (intros; first | assumption | omega) | (simp only [go_sem] at *; first | assumption | omega) | decide, ?_⟩)
 refine aG (bU rfl (fun hc => ?_) (fun hc => ?_))
 ·try simp only [go_sem] at hc
  have h := fX (by first | exact hc | omega | (simpa using hc) | (simp at hc ⊢; omega)) h
  refine aF (bY hF [4, 5] ?_)
  simp only [go_sem]
  obtain ⟨g0, h⟩ := aJ h
  repeat (refine ⟨by first | with_reducible assumption | omega | (intros; first | assumption | omega) | (simp only [go_sem] at *; first | assumption | omega) | decide, ?_⟩)
  obtain rfl := Option.some.inj h
  refine aG (dS (dH (jG hF [.tmp 4, .tmp 5] rfl rfl rfl ?_)))
  (try simp only [kS, aZ, go_sem]) <;> first | rfl | (simp; done)
 ·try simp only [go_sem] at hc
  have h := fY (by first | exact hc | omega | (simpa using hc) | (simp at hc ⊢; omega)) h
  refine cG (aG (aF (aF (aE hF [0, 1, 20] ?_))))
  simp only [go_sem]
  refine aG (bU rfl (fun hc => ?_) (fun hc => ?_))
  ·try simp only [go_sem] at hc
   have h := fX (by first | exact hc | omega | (simpa using hc) | (simp at hc ⊢; omega)) h
   refine aF (aE hF [4, 5] ?_)
   simp only [go_sem]
   obtain ⟨g0, h⟩ := aJ h
   obtain ⟨g1, h⟩ := aJ h
   repeat (refine ⟨by first | with_reducible assumption | omega | (intros; first | assumption | omega) | (simp only [go_sem] at *; first | assumption | omega) | decide, ?_⟩)
   obtain rfl := Option.some.inj h
   refine aG (dS (dH (jG hF [.tmp 4, .tmp 5] rfl rfl rfl ?_)))
   (try simp only [kS, aZ, go_sem]) <;> first | rfl | (simp; done)
  ·try simp only [go_sem] at hc
   have h := fY (by first | exact hc | omega | (simpa using hc) | (simp at hc ⊢; omega)) h
   refine cG (aG (aF (aE hF [0, 1, 6, 7] ?_)))
   simp only [go_sem]
   obtain ⟨g0, h⟩ := aJ h
   obtain ⟨g1, h⟩ := aJ h
   try simp only [I64, I32] at g0
   repeat (refine ⟨by first | with_reducible assumption | omega | (intros; first | assumption | omega) | (simp only [go_sem] at *; first | assumption | omega) | decide, ?_⟩)
   refine aG (aF (bY hF [0, 6, 7, 8, 9] ?_))
   simp only [go_sem]
   obtain ⟨g0, h⟩ := aJ h
   repeat (refine ⟨by first | with_reducible assumption | omega | (intros; first | assumption | omega) | (simp only [go_sem] at *; first | assumption | omega) | decide, ?_⟩)
   obtain ⟨g0, h⟩ := aJ h
   repeat (refine ⟨by first | with_reducible assumption | omega | (intros; first | assumption | omega) | (simp only [go_sem] at *; first | assumption | omega) | decide, ?_⟩)
   obtain ⟨g0, h⟩ := aJ h
   repeat (refine ⟨by first | with_reducible assumption | omega | (intros; first | assumption | omega) | (simp only [go_sem] at *; first | assumption | omega) | decide, ?_⟩)
   obtain ⟨g0, h⟩ := aJ h
   try simp only [I64, I32] at g0
   repeat (refine ⟨by first | with_reducible assumption | omega | (intros; first | assumption | omega) | (simp only [go_sem] at *; first | assumption | omega) | decide, ?_⟩)
   obtain ⟨g0, h⟩ := aJ h
   repeat (refine ⟨by first | with_reducible assumption | omega | (intros; first | assumption | omega) | (simp only [go_sem] at *; first | assumption | omega) | decide, ?_⟩)
   refine aG (aF (bY hF [0, 6, 7, 8, 9, 10] ?_))
   simp only [go_sem]
   obtain ⟨g0, h⟩ := aJ h
   try simp only [I64, I32] at g0
   repeat (refine ⟨by first | with_reducible assumption | omega | (intros; first | assumption | omega) | (simp only [go_sem] at *; first | assumption | omega) | decide, ?_⟩)
   obtain ⟨g0, h⟩ := aJ h
   try simp only [I64, I32] at g0
   repeat (refine ⟨by first | with_reducible assumption | omega | (intros; first | assumption | omega) | (simp only [go_sem] at *; first | assumption | omega) | decide, ?_⟩)
   obtain ⟨g0, h⟩ := aJ h
   obtain ⟨g1, h⟩ := aJ h
   repeat (refine ⟨by first | with_reducible assumption | omega | (intros; first | assumption | omega) | (simp only [go_sem] at *; first | assumption | omega) | decide, ?_⟩)
   refine aG (jO (D := (List Nat) × (List Nat)) (fun d => oX b_1 d.1 d.2 = some r) [6, 7] (fun d => [(9, .own 0), (10, .own 1)]) (fun d => [.inr (.row 54 (.u .u64) d.1), .inr (.row 54 (.u .u64) d.2)]) ?_ ?_)
   ·refine aF (aE hF [6, 7, 8, 9, 10, 11] ?_)
    simp only [go_sem]
    obtain ⟨g0, h⟩ := aJ h
    try simp only [I64, I32] at g0
    repeat (refine ⟨by first | with_reducible assumption | omega | (intros; first | assumption | omega) | (simp only [go_sem] at *; first | assumption | omega) | decide, ?_⟩)
    refine aG (gM (aCA 0 ?_))
    simp only [go_sem]
    refine aP4 [1, 2] rfl rfl ?_
    simp only [ren, iQ, qN, posOf, gQ, go_sem]
    refine yU (D := Int × (List Nat) × (List Nat)) [6, 7, 8] (fun d => [(9, .own 0), (10, .own 1), (11, .val (.i .i64) d.1)]) (fun d => [.inr (.row 54 (.u .u64) d.2.1), .inr (.row 54 (.u .u64) d.2.2)]) h ?_ ?_ ?_
    ·first | rfl | (simp only [go_sem]; done)
    ·(try simp only [jR, fQ, true_or, and_self, go_sem]) <;> (repeat' apply And.intro) <;> first | rfl | (left; rfl) | (right; rfl) | (left; simp only [go_sem]; done) | (right; simp only [go_sem]; done) | (simp; done) | (simp only [*]; done) | omega
    rintro ⟨j_14, u_15, q_16⟩ s9 h hs9
    simp only [go_sem]
    try dsimp only at h
    unfold jP at h
    refine aF (aF (aE hF [6, 7, 8, 9, 10, 11, 60] ?_))
    simp only [go_sem]
    refine aG (bU rfl (fun hc => ?_) (fun hc => ?_))
    ·try simp only [go_sem] at hc
     have h := fX (by first | exact hc | omega | (simpa using hc) | (simp at hc ⊢; omega)) h
     obtain ⟨g0, h⟩ := aJ h
     try simp only [I64, I32] at g0
     obtain ⟨g1, h⟩ := aJ h
     try simp only [I64, I32] at g1
     obtain ⟨g2, h⟩ := aJ h
     obtain ⟨r_24, he1, h⟩ := bind_some h
     try dsimp only at h
     obtain ⟨g3, h⟩ := aJ h
     refine cG (aG (aF (gM (bI hF (cV (l := [(124, ⟨uL, [0], ((j_14.toNat), ((((j_14 + (((b_1.length) : Nat) : Int)) + (1 : Int)) - j_14).toNat), (cP (bF b_1 (aB (b_1.getD (((((b_1.length) : Nat) : Int) - (1 : Int)).toNat) (0 : Nat)))) (((b_1.length) : Nat) : Int)), u_15, r_24)⟩)]) (.cons aL5 (by kernel_rfl) (.nil))) [6, 7, 8, 9, 10, 11] [71] ?_))))
     simp only [go_sem]
     repeat (refine ⟨by first | with_reducible assumption | omega | (intros; first | assumption | omega) | (simp only [go_sem] at *; first | assumption | omega) | decide, ?_⟩)
     refine gA (aG (aE hF [6, 7, 8, 9, 10, 11] ?_))
     simp only [go_sem]
     obtain ⟨g0, h⟩ := aJ h
     try simp only [I64, I32] at g0
     repeat (refine ⟨by first | with_reducible assumption | omega | (intros; first | assumption | omega) | (simp only [go_sem] at *; first | assumption | omega) | decide, ?_⟩)
     obtain rfl := Option.some.inj h
     dsimp only [vW] at hs9
     refine bG (aQ (((j_14 - (1 : Int)), (r_24.2), (q_16.set (j_14.toNat) (r_24.1)))) hs9 rfl ?_)
     ·(try simp only [jR, fQ, true_or, and_self, go_sem]) <;> (repeat' apply And.intro) <;> first | rfl | (left; rfl) | (right; rfl) | (left; simp only [go_sem]; done) | (right; simp only [go_sem]; done) | (simp; done) | (simp only [*]; done) | omega
    ·try simp only [go_sem] at hc
     have h := fY (by first | exact hc | omega | (simpa using hc) | (simp at hc ⊢; omega)) h
     obtain rfl := Option.some.inj h
     dsimp only [vW] at hs9
     have h := hs9
     try dsimp only at h
     refine vR (eF (eF (iF (bG (aQ ((u_15, q_16)) h rfl ?_)))))
     ·(try simp only [jR, fQ, true_or, and_self, go_sem]) <;> (repeat' apply And.intro) <;> first | rfl | (left; rfl) | (right; rfl) | (left; simp only [go_sem]; done) | (right; simp only [go_sem]; done) | (simp; done) | (simp only [*]; done) | omega
   ·rintro ⟨u_11, q_12⟩ h
    try dsimp only at h
    simp only [go_sem]
    unfold oX at h
    refine aF (aCA 1 ?_)
    simp only [go_sem]
    refine aCA 0 ?_
    simp only [go_sem]
    refine aE hF [4, 5] ?_
    simp only [go_sem]
    obtain ⟨g0, h⟩ := aJ h
    obtain ⟨g1, h⟩ := aJ h
    repeat (refine ⟨by first | with_reducible assumption | omega | (intros; first | assumption | omega) | (simp only [go_sem] at *; first | assumption | omega) | decide, ?_⟩)
    obtain rfl := Option.some.inj h
    refine aG (dS (jG hF [.tmp 4, .tmp 5] rfl rfl rfl ?_))
    (try simp only [kS, aZ, go_sem]) <;> first | rfl | (simp; done)
theorem yC : FOK Tryz.prog GL 62 iK := dM aJO (fun ⟨x0, x1, u⟩ ⟨w0, w1, wu⟩ hp => aHP x0 w0 x1 w1 hp)
end Nu
end Go.Proofs
namespace Go.Proofs
open Go.Vc
set_option maxRecDepth 20000
namespace Nu
noncomputable def cX (d_0 : (Bool × ((List Nat) × (Int × Unit)))) : Option Bool :=
 if (((((d_0.2).1).length) : Nat) : Int) = (0 : Int) then some ((!(d_0.1)) && (decide ((((d_0.2).2).1) = (0 : Int)))) else ck ((((yZ ((d_0.2).1)) = true) → ((0 : Int) < (((((d_0.2).1).length) : Nat) : Int)))) (some ((((yZ ((d_0.2).1)) && (decide (((((d_0.2).1).getD (0 : Nat) (0 : Nat)) &&& (1 : Nat)) = (1 : Nat)))) && (decide ((-1048576 : Int) ≤ (((d_0.2).2).1)))) && (decide ((((d_0.2).2).1) ≤ (1048576 : Int)))))
def aFc : PlR := ⟨[(0, .B [1]), (1, .A [1, 6]), (2, .A [2]), (3, .A [2])], []⟩
def aHQ : Ty := .pair (.pair .bool (.pair (.sl (.u .u64)) (.pair (.i .i64) .unit))) .unit
noncomputable def fJ : aK := mSpec aHQ (.one .bool) (fun x => cX x.1)
noncomputable def aHR : List (FuncId × aK) := [(81, aAl)]
theorem aO1 : bN Tryz.prog GL aHR := .cons aOU (by kernel_rfl) (.nil)
theorem aJP : gam aHR 81 = some aAl := rfl
attribute [go_sem] aHQ aFc aJP
set_option maxHeartbeats 4000000 in
theorem tE : FOK Tryz.prog GL 29 fJ := by
 refine bR (bC aO1) mix Tryz.func29 rfl (by kernel_rfl) (by decide) aFc fun w0 S x Θ hw h hF => ?_
 obtain ⟨(d_0 : (Bool × ((List Nat) × (Int × Unit)))), u⟩ := x
 simp only [bV, go_sem]
 replace h : sat (cX d_0) _ := h
 unfold cX at h
 refine cZ h (fun hc h => ?_) fun hc h => ?_
 ·exact aL hF [.tmp 2] rfl rfl rfl (aC h) (by simp only [aZ, go_sem])
 ·refine aI h fun g0 h => ?_
  exact aL hF [.tmp 2] rfl rfl rfl (aC h) (by simp only [aZ, go_sem])
attribute [go_sem] fJ
noncomputable def dJ (d_0 : (Bool × ((List Nat) × (Int × Unit)))) : Option Int :=
 ck (((cX d_0).isSome = true)) (if (¬ (((cX d_0).getD false) = true)) ∨ ((((((d_0.2).1).length) : Nat) : Int) = (0 : Int)) then some (0 : Int) else if (d_0.1) = true then some (-1 : Int) else some (1 : Int))
def aDx : PlR := ⟨[(0, .B [1]), (1, .A [1, 3]), (2, .A [2]), (3, .A [13]), (4, .A [2]), (5, .A [2])], []⟩
def aFd : Ty := .pair (.pair .bool (.pair (.sl (.u .u64)) (.pair (.i .i64) .unit))) .unit
noncomputable def uM : aK := mSpec aFd (.one (.i .i64)) (fun x => dJ x.1)
noncomputable def aFe : List (FuncId × aK) := [(29, fJ)]
theorem aNM : bN Tryz.prog GL aFe := .cons tE (by kernel_rfl) (.nil)
theorem aHS : gam aFe 29 = some fJ := rfl
attribute [go_sem] aFd aDx aHS
set_option maxHeartbeats 4000000 in
theorem aL6 : FOK Tryz.prog GL 82 uM := by
 refine bR (bC aNM) mix Tryz.func82 rfl (by kernel_rfl) (by decide) aDx fun w0 S x Θ hw h hF => ?_
 obtain ⟨(d_0 : (Bool × ((List Nat) × (Int × Unit)))), u⟩ := x
 simp only [bV, go_sem]
 replace h : sat (dJ d_0) _ := h
 unfold dJ at h
 refine aI h fun g0 h => ?_
 refine ⟨fun hc => ?_, fun hc => ?_⟩
 ·replace h := fB (by first | exact hc | omega | (simpa using hc) | (simp at hc ⊢; omega)) h
  exact aL hF [.tmp 2] rfl rfl rfl (aC h) (by simp only [aZ, go_sem])
 ·replace h := fC (by first | exact hc | omega | (simpa using hc) | (simp at hc ⊢; omega)) h
  refine aSB h (fun hc h => ?_) fun hc h => ?_
  ·exact aL hF [.tmp 2] rfl rfl rfl (aC h) (by simp only [aZ, go_sem])
  ·exact aL hF [.tmp 2] rfl rfl rfl (aC h) (by simp only [aZ, go_sem])
attribute [go_sem] uM
noncomputable def lR (a_0 : (Bool × ((List Nat) × (Int × Unit)))) (b_1 : (Bool × ((List Nat) × (Int × Unit)))) : Option Int :=
 ck ((aHv ((a_0.2).1))) (ck (I64 ((aW ((a_0.2).1)) + (((a_0.2).2).1))) (ck ((aHv ((b_1.2).1))) (ck (I64 ((aW ((b_1.2).1)) + (((b_1.2).2).1))) (if ((aW ((a_0.2).1)) + (((a_0.2).2).1)) < ((aW ((b_1.2).1)) + (((b_1.2).2).1)) then some (-1 : Int) else if ((aW ((b_1.2).1)) + (((b_1.2).2).1)) < ((aW ((a_0.2).1)) + (((a_0.2).2).1)) then some (1 : Int) else ck (I64 ((((a_0.2).2).1) - (min (((a_0.2).2).1) (((b_1.2).2).1)))) (ck ((aEX ((a_0.2).1) ((((a_0.2).2).1) - (min (((a_0.2).2).1) (((b_1.2).2).1))))) (ck (I64 ((((b_1.2).2).1) - (min (((a_0.2).2).1) (((b_1.2).2).1)))) (ck ((aEX ((b_1.2).1) ((((b_1.2).2).1) - (min (((a_0.2).2).1) (((b_1.2).2).1))))) (ck ((aQs (bF ((a_0.2).1) ((((a_0.2).2).1) - (min (((a_0.2).2).1) (((b_1.2).2).1)))) (bF ((b_1.2).1) ((((b_1.2).2).1) - (min (((a_0.2).2).1) (((b_1.2).2).1)))))) (some (lL (bF ((a_0.2).1) ((((a_0.2).2).1) - (min (((a_0.2).2).1) (((b_1.2).2).1)))) (bF ((b_1.2).1) ((((b_1.2).2).1) - (min (((a_0.2).2).1) (((b_1.2).2).1))))))))))))))
def aDy : PlR := ⟨[(0, .B [2, 3]), (1, .A [2, 3, 5, 6]), (2, .A [2, 3, 5, 6, 20]), (3, .A [4]), (4, .A [2, 3, 24]), (5, .A [4]), (6, .A [2, 3, 7]), (7, .A [4])], []⟩
def aFf : Ty := .pair (.pair .bool (.pair (.sl (.u .u64)) (.pair (.i .i64) .unit))) (.pair (.pair .bool (.pair (.sl (.u .u64)) (.pair (.i .i64) .unit))) .unit)
noncomputable def uN : aK := mSpec aFf (.one (.i .i64)) (fun x => lR x.1 x.2.1)
noncomputable def xF : List (FuncId × aK) := [(119, oA), (68, iI), (89, lO)]
theorem aNN : bN Tryz.prog GL xF := .cons aDn (by kernel_rfl) (.cons xD (by kernel_rfl) (.cons aBo (by kernel_rfl) (.nil)))
theorem aGf : gam xF 119 = some oA := rfl
theorem aHT : gam xF 68 = some iI := rfl
theorem aHU : gam xF 89 = some lO := rfl
attribute [go_sem] aFf aDy aGf aHT aHU
set_option maxHeartbeats 4000000 in
theorem aL7 : FOK Tryz.prog GL 83 uN := by
 refine bR (bC aNN) mix Tryz.func83 rfl (by kernel_rfl) (by decide) aDy fun w0 S x Θ hw h hF => ?_
 obtain ⟨(a_0 : (Bool × ((List Nat) × (Int × Unit)))), (b_1 : (Bool × ((List Nat) × (Int × Unit)))), u⟩ := x
 simp only [bV, go_sem]
 replace h : sat (lR a_0 b_1) _ := h
 unfold lR at h
 refine aI h fun g0 h => aI h fun g1 h => aI h fun g2 h => aI h fun g3 h => ?_
 refine dA h (fun hc h => ?_) fun hc h => ?_
 ·exact aL hF [.tmp 4] rfl rfl rfl (aC h) (by simp only [aZ, go_sem])
 ·refine dA h (fun hc h => ?_) fun hc h => ?_
  ·exact aL hF [.tmp 4] rfl rfl rfl (aC h) (by simp only [aZ, go_sem])
  ·refine aI h fun g0 h => aI h fun g1 h => aI h fun g2 h => aI h fun g3 h => aI h fun g4 h => ?_
   exact aL hF [.tmp 4] rfl rfl rfl (aC h) (by simp only [aZ, go_sem])
attribute [go_sem] uN
noncomputable def fR (a_0 : (Bool × ((List Nat) × (Int × Unit)))) (b_1 : (Bool × ((List Nat) × (Int × Unit)))) : Option Int :=
 ck (((dJ a_0).isSome = true)) (ck (((dJ b_1).isSome = true)) (ck (((cX a_0).isSome = true)) (ck ((¬ (¬ (((cX a_0).getD false) = true)) → (((cX b_1).isSome = true)))) (if (¬ (((cX a_0).getD false) = true)) ∨ (¬ (((cX b_1).getD false) = true)) then some (0 : Int) else if (¬ (((dJ a_0).getD (0 : Int)) = ((dJ b_1).getD (0 : Int)))) ∧ (((dJ a_0).getD (0 : Int)) < ((dJ b_1).getD (0 : Int))) then some (-1 : Int) else if ¬ (((dJ a_0).getD (0 : Int)) = ((dJ b_1).getD (0 : Int))) then some (1 : Int) else if ((dJ a_0).getD (0 : Int)) = (0 : Int) then some (0 : Int) else ck (((lR a_0 b_1).isSome = true)) (ck (I64 (((dJ a_0).getD (0 : Int)) * ((lR a_0 b_1).getD (0 : Int)))) (some (((dJ a_0).getD (0 : Int)) * ((lR a_0 b_1).getD (0 : Int)))))))))
def aFg : PlR := ⟨[(0, .B [2, 3]), (1, .A [2, 3, 5, 6]), (2, .A [2, 3, 5, 6, 11]), (3, .A [4]), (4, .A [2, 3, 5, 6, 20]), (5, .A [4]), (6, .A [2, 3, 5, 29]), (7, .A [4]), (8, .A [2, 3, 5, 33]), (9, .A [4]), (10, .A [4])], []⟩
def aHV : Ty := .pair (.pair .bool (.pair (.sl (.u .u64)) (.pair (.i .i64) .unit))) (.pair (.pair .bool (.pair (.sl (.u .u64)) (.pair (.i .i64) .unit))) .unit)
noncomputable def xG : aK := mSpec aHV (.one (.i .i64)) (fun x => fR x.1 x.2.1)
noncomputable def aAs : List (FuncId × aK) := [(29, fJ), (82, uM), (83, uN)]
theorem aO2 : bN Tryz.prog GL aAs := .cons tE (by kernel_rfl) (.cons aL6 (by kernel_rfl) (.cons aL7 (by kernel_rfl) (.nil)))
theorem aJQ : gam aAs 29 = some fJ := rfl
theorem aJR : gam aAs 82 = some uM := rfl
theorem aJS : gam aAs 83 = some uN := rfl
attribute [go_sem] aHV aFg aJQ aJR aJS
set_option maxHeartbeats 4000000 in
theorem aNO : FOK Tryz.prog GL 31 xG := by
 refine bR (bC aO2) mix Tryz.func31 rfl (by kernel_rfl) (by decide) aFg fun w0 S x Θ hw h hF => ?_
 obtain ⟨(a_0 : (Bool × ((List Nat) × (Int × Unit)))), (b_1 : (Bool × ((List Nat) × (Int × Unit)))), u⟩ := x
 simp only [bV, go_sem]
 replace h : sat (fR a_0 b_1) _ := h
 unfold fR at h
 obtain ⟨g0, h⟩ := aH h
 obtain ⟨g1, h⟩ := aH h
 repeat (refine ⟨by first | with_reducible assumption | omega | (intros; first | assumption | omega) | (simp only [go_sem] at *; first | assumption | omega) | decide, ?_⟩)
 obtain ⟨g0, h⟩ := aH h
 obtain ⟨g1, h⟩ := aH h
 repeat (refine ⟨by first | with_reducible assumption | omega | (intros; first | assumption | omega) | (simp only [go_sem] at *; first | assumption | omega) | (intro q0; (try have e1 := g1 (by first | exact q0 | omega | (simpa using q0))); first | assumption | omega) | decide, ?_⟩)
 refine ⟨fun hc => ?_, fun hc => ?_⟩
 ·replace h := fB (by first | exact hc | omega | (simpa using hc) | (simp at hc ⊢; omega)) h
  exact aL hF [.tmp 4] rfl rfl rfl (aC h) (by simp only [aZ, go_sem])
 ·replace h := fC (by first | exact hc | omega | (simpa using hc) | (simp at hc ⊢; omega)) h
  refine ⟨fun hc => ?_, fun hc => ?_⟩
  ·replace h := fB (by first | exact hc | omega | (simpa using hc) | (simp at hc ⊢; omega)) h
   exact aL hF [.tmp 4] rfl rfl rfl (aC h) (by simp only [aZ, go_sem])
  ·replace h := fC (by first | exact hc | omega | (simpa using hc) | (simp at hc ⊢; omega)) h
   refine ⟨fun hc => ?_, fun hc => ?_⟩
   ·replace h := fB hc h
    exact aL hF [.tmp 4] rfl rfl rfl (aC h) (by simp only [aZ, go_sem])
   ·replace h := fC (by first | exact hc | omega | simpa using hc) h
    refine cZ h (fun hc h => ?_) fun hc h => ?_
    ·exact aL hF [.tmp 4] rfl rfl rfl (aC h) (by simp only [aZ, go_sem])
    ·obtain ⟨g0, h⟩ := aH h
     obtain ⟨g1, h⟩ := aH h
     try simp only [I64, I32] at g1
     repeat (refine ⟨by first | with_reducible assumption | omega | (intros; first | assumption | omega) | (simp only [go_sem] at *; first | assumption | omega) | decide, ?_⟩)
     exact aL hF [.tmp 4] rfl rfl rfl (aC h) (by simp only [aZ, go_sem])
attribute [go_sem] xG
noncomputable def dF (d_0 : (Bool × ((List Nat) × (Int × Unit)))) : Option (Bool × ((List Nat) × (Int × Unit))) :=
 ck ((aOM ((d_0.2).1))) (some ((d_0.1), (id ((d_0.2).1)), (((d_0.2).2).1), ()))
def aBw : PlR := ⟨[(0, .B [1, 2]), (1, .B [1, 2]), (2, .B [2])], []⟩
def aCn : Ty := .pair (.pair .bool (.pair (.sl (.u .u64)) (.pair (.i .i64) .unit))) .unit
noncomputable def rB : aK := mSpec aCn (.one (.pair .bool (.pair (.sl (.u .u64)) (.pair (.i .i64) .unit)))) (fun x => dF x.1)
noncomputable def aCo : List (FuncId × aK) := [(120, bM)]
theorem aJT : bN Tryz.prog GL aCo := .cons fD (by kernel_rfl) (.nil)
theorem aDz : gam aCo 120 = some bM := rfl
attribute [go_sem] aCn aBw aDz
set_option maxHeartbeats 4000000 in
theorem aHW : FOK Tryz.prog GL 103 rB := by
 refine bR (bC aJT) mix Tryz.func103 rfl (by kernel_rfl) (by decide) aBw fun w0 S x Θ hw h hF => ?_
 obtain ⟨(d_0 : (Bool × ((List Nat) × (Int × Unit)))), u⟩ := x
 simp only [bV, go_sem]
 replace h : sat (dF d_0) _ := h
 unfold dF at h
 refine aI h fun g0 h => ?_
 exact aL hF [.cell 2 25] rfl rfl rfl (aC h) (by simp only [aZ, go_sem])
attribute [go_sem] rB
noncomputable def bZ (d_0 : (Bool × ((List Nat) × (Int × Unit)))) : Option (Bool × ((List Nat) × (Int × Unit))) :=
 ck (((dF d_0).isSome = true)) (ck (((cX ((dF d_0).getD (false, ([] : List Nat), (0 : Int), ()))).isSome = true)) (if (((cX ((dF d_0).getD (false, ([] : List Nat), (0 : Int), ()))).getD false) = true) ∧ ((0 : Int) < (((((((dF d_0).getD (false, ([] : List Nat), (0 : Int), ())).2).1).length) : Nat) : Int)) then some ((!(((dF d_0).getD (false, ([] : List Nat), (0 : Int), ())).1)), ((((dF d_0).getD (false, ([] : List Nat), (0 : Int), ())).2).1), (((((dF d_0).getD (false, ([] : List Nat), (0 : Int), ())).2).2).1), ()) else some ((dF d_0).getD (false, ([] : List Nat), (0 : Int), ()))))
def aFh : PlR := ⟨[(0, .B [1, 2]), (1, .B [1, 2]), (2, .A [1, 2, 12]), (3, .B [1, 2]), (4, .B [2])], []⟩
def aHX : Ty := .pair (.pair .bool (.pair (.sl (.u .u64)) (.pair (.i .i64) .unit))) .unit
noncomputable def xH : aK := mSpec aHX (.one (.pair .bool (.pair (.sl (.u .u64)) (.pair (.i .i64) .unit)))) (fun x => bZ x.1)
noncomputable def aCN : List (FuncId × aK) := [(103, rB), (29, fJ)]
theorem aO3 : bN Tryz.prog GL aCN := .cons aHW (by kernel_rfl) (.cons tE (by kernel_rfl) (.nil))
theorem aHY : gam aCN 103 = some rB := rfl
theorem aJU : gam aCN 29 = some fJ := rfl
attribute [go_sem] aHX aFh aHY aJU
set_option maxHeartbeats 4000000 in
theorem aNP : FOK Tryz.prog GL 52 xH := by
 refine bR (bC aO3) mix Tryz.func52 rfl (by kernel_rfl) (by decide) aFh fun w0 S x Θ hw h hF => ?_
 obtain ⟨(d_0 : (Bool × ((List Nat) × (Int × Unit)))), u⟩ := x
 simp only [bV, go_sem]
 replace h : sat (bZ d_0) _ := h
 unfold bZ at h
 refine aI h fun g0 h => ?_
 refine aI h fun g0 h => ?_
 refine ⟨fun hc => ?_, fun hc => ?_⟩
 ·replace h := fB hc h
  exact aL hF [.cell 2 25] rfl rfl rfl (aC h) (by simp only [aZ, go_sem])
 ·replace h := fC hc h
  exact aL hF [.cell 2 25] rfl rfl rfl (aC h) (by simp only [aZ, go_sem])
attribute [go_sem] xH
noncomputable def gF (is_0 : Bool) (e_1 : Int) : Option (Unit ⊕ (Int × Unit)) :=
 if ¬ (is_0 = true) then some (.inr (e_1, ())) else some (.inl ())
noncomputable def dG : mZ where
 D := Bool × Int × (Unit ⊕ (Int × Unit))
 av := fun d => [.val .bool d.1, .val (.i .i64) d.2.1]
 hp := fun d => []
 m := 0
 pre := fun d => gF d.1 d.2.1 = some d.2.2
 out := fun d => match d.2.2 with | .inl r => .ret (.tup []) [] | .inr p => .pan ⟨165, (.pair (.i .i64) .unit), p⟩ []
noncomputable def aDA : List (FuncId × aK) := []
theorem aDB : bN Tryz.prog GL aDA := .nil
set_option maxHeartbeats 4000000 in
theorem fA : GOK Tryz.prog GL 109 dG := by
 refine sW (bC aDB) Tryz.func109 rfl (by kernel_rfl) (fun _ => Nat.le_of_ble_eq_true rfl) fun c0 w0 d hw1 hw2 h hn => ?_
 have hF : kT ⟨Tryz.prog, EM aDA, GM dG c0 d, w0, Tryz.f109.ntmps, []⟩ := ⟨bC aDB, mix⟩
 obtain ⟨(is_0 : Bool), (e_1 : Int), r⟩ := d
 replace h : gF is_0 e_1 = some r := h
 have hw1 : AV.wfL [.val .bool is_0, .val (.i .i64) e_1] := hw1
 simp only [AV.wfL, AV.wfV, Ty.wf, pH] at hw1
 show Tri _ _ _ [(0, .val .bool is_0), (1, .val (.i .i64) e_1)] []
 unfold gF at h
 refine aF (aE hF [1, 5] ?_)
 simp only [go_sem]
 refine aG (bU rfl (fun hc => ?_) (fun hc => ?_))
 ·try simp only [go_sem] at hc
  have h := fX (by first | exact hc | omega | (simpa using hc) | (simp at hc ⊢; omega)) h
  refine bI hF (cV (l := []) (.nil)) [] [] ?_
  simp only [go_sem]
  repeat (refine ⟨by first | with_reducible assumption | omega | (intros; first | assumption | omega) | (simp only [go_sem] at *; first | assumption | omega) | decide, ?_⟩)
  obtain rfl := Option.some.inj h
  refine nA rfl rfl rfl rfl
 ·try simp only [go_sem] at hc
  have h := fY (by first | exact hc | omega | (simpa using hc) | (simp at hc ⊢; omega)) h
  obtain rfl := Option.some.inj h
  refine cG (aAc (uF hF [] rfl rfl rfl rfl rfl rfl ?_))
  (try simp only [aZ, aBe, aAM, fQ, oL, AV.isAgg, go_sem]) <;> first | trivial | rfl | (simp; done)
attribute [go_sem] dG
noncomputable def iX (l_1 : (List (Bool × ((List Nat) × (Int × Unit))))) (x15_13 : Int) : Option ((Int) ⊕ ((Unit) ⊕ (Int × Unit))) :=
 if x15_13 < (((l_1.length) : Nat) : Int) then ck (0 ≤ x15_13 ∧ x15_13 < (((l_1.length) : Nat) : Int)) (ck (((cX (l_1.getD (x15_13.toNat) (false, ([] : List Nat), (0 : Int), ()))).isSome = true)) (((gF ((cX (l_1.getD (x15_13.toNat) (false, ([] : List Nat), (0 : Int), ()))).getD false) (1 : Int))).bind (fun e => match e with | .inl r_19 => ck (I64 (x15_13 + (1 : Int))) (some (.inl (x15_13 + (1 : Int)))) | .inr p_20 => some (.inr (.inr p_20))))) else some (.inr (.inl ()))
noncomputable def nN (l_1 : (List (Bool × ((List Nat) × (Int × Unit))))) : Option ((Unit ⊕ (Int × Unit))) :=
 (cE (fun d : Int => iX l_1 d) (0 : Int)).bind (fun e => match e with | (.inl e) => some (.inl ()) | (.inr e) => some (.inr e))
noncomputable def pU (p_0 : Int) (l_1 : (List (Bool × ((List Nat) × (Int × Unit))))) : Option (Unit ⊕ (Int × Unit)) :=
 if (1 : Int) ≤ p_0 then ((gF ((decide ((1 : Int) ≤ p_0)) && (decide (p_0 ≤ (2000 : Int)))) (1 : Int))).bind (fun e => match e with | .inl r_22 => nN l_1 | .inr p_23 => some (.inr p_23)) else ((gF false (1 : Int))).bind (fun e => match e with | .inl r_24 => nN l_1 | .inr p_25 => some (.inr p_25))
noncomputable def rC : mZ where
 D := Int × (List (Bool × ((List Nat) × (Int × Unit)))) × (Unit ⊕ (Int × Unit))
 av := fun d => [.val (.i .i64) d.1, .val (.sl (.pair .bool (.pair (.sl (.u .u64)) (.pair (.i .i64) .unit)))) d.2.1]
 hp := fun d => []
 m := 0
 pre := fun d => pU d.1 d.2.1 = some d.2.2
 out := fun d => match d.2.2 with | .inl r => .ret (.tup []) [] | .inr p => .pan ⟨165, (.pair (.i .i64) .unit), p⟩ []
noncomputable def aBx : List (FuncId × aK) := [(29, fJ)]
theorem aFi : bN Tryz.prog GL aBx := .cons tE (by kernel_rfl) (.nil)
theorem aHZ : gam aBx 29 = some fJ := rfl
attribute [go_sem] aHZ
set_option maxHeartbeats 4000000 in
theorem aDC : GOK Tryz.prog GL 108 rC := by
 refine sW (bC aFi) Tryz.func108 rfl (by kernel_rfl) (fun _ => Nat.le_of_ble_eq_true rfl) fun c0 w0 d hw1 hw2 h hn => ?_
 have hF : kT ⟨Tryz.prog, EM aBx, GM rC c0 d, w0, Tryz.f108.ntmps, []⟩ := ⟨bC aFi, mix⟩
 obtain ⟨(p_0 : Int), (l_1 : (List (Bool × ((List Nat) × (Int × Unit))))), r⟩ := d
 replace h : pU p_0 l_1 = some r := h
 have hw1 : AV.wfL [.val (.i .i64) p_0, .val (.sl (.pair .bool (.pair (.sl (.u .u64)) (.pair (.i .i64) .unit)))) l_1] := hw1
 simp only [AV.wfL, AV.wfV, Ty.wf, pH] at hw1
 show Tri _ _ _ [(0, .val (.i .i64) p_0), (1, .val (.sl (.pair .bool (.pair (.sl (.u .u64)) (.pair (.i .i64) .unit)))) l_1)] []
 unfold pU at h
 refine jO (D := Unit) (fun d => nN l_1 = some r) [1] (fun d => []) (fun d => []) ?_ ?_
 ·by_cases hq : (1 : Int) ≤ p_0
  ·have h := fX hq h
   obtain ⟨e, he2, h⟩ := bind_some h
   rcases e with r_22 | p_23
   ·try dsimp only at h
    refine bI hF (cV (l := [(109, ⟨dG, [], (((decide ((1 : Int) ≤ p_0)) && (decide (p_0 ≤ (2000 : Int)))), (1 : Int), .inl r_22)⟩)]) (.cons fA (by kernel_rfl) (.nil))) [1] [] ?_
    simp only [go_sem]
    repeat (refine ⟨by first | with_reducible assumption | omega | (intros; first | assumption | omega) | (simp only [go_sem] at *; first | assumption | omega) | decide, ?_⟩)
    refine ⟨fun _ => ?_, fun hx => by first | (exfalso; omega) | (exfalso; simp_all; done)⟩
    repeat (refine ⟨by first | with_reducible assumption | omega | (intros; first | assumption | omega) | (simp only [go_sem] at *; first | assumption | omega) | decide, ?_⟩)
    refine ⟨fun _ => ?_, fun hx => by first | (exfalso; omega) | (exfalso; simp_all; done)⟩
    repeat (refine ⟨by first | with_reducible assumption | omega | (intros; first | assumption | omega) | (simp only [go_sem] at *; first | assumption | omega) | decide, ?_⟩)
    refine bG (aQ (()) h rfl ?_)
    ·(try simp only [jR, fQ, true_or, and_self, go_sem]) <;> (repeat' apply And.intro) <;> first | rfl | (left; rfl) | (right; rfl) | (left; simp only [go_sem]; done) | (right; simp only [go_sem]; done) | (simp; done) | (simp only [*]; done) | omega
   ·try dsimp only at h
    refine bI hF (cV (l := [(109, ⟨dG, [], (((decide ((1 : Int) ≤ p_0)) && (decide (p_0 ≤ (2000 : Int)))), (1 : Int), .inr p_23)⟩)]) (.cons fA (by kernel_rfl) (.nil))) [1] [] ?_
    simp only [go_sem]
    repeat (refine ⟨by first | with_reducible assumption | omega | (intros; first | assumption | omega) | (simp only [go_sem] at *; first | assumption | omega) | decide, ?_⟩)
    refine ⟨fun _ => ?_, fun hx => by first | (exfalso; omega) | (exfalso; simp_all; done)⟩
    repeat (refine ⟨by first | with_reducible assumption | omega | (intros; first | assumption | omega) | (simp only [go_sem] at *; first | assumption | omega) | decide, ?_⟩)
    refine ⟨fun _ => ?_, fun hx => by first | (exfalso; omega) | (exfalso; simp_all; done)⟩
    repeat (refine ⟨by first | with_reducible assumption | omega | (intros; first | assumption | omega) | (simp only [go_sem] at *; first | assumption | omega) | decide, ?_⟩)
    obtain rfl := Option.some.inj h
    refine iR (nA rfl rfl rfl rfl)
  ·have h := fY hq h
   obtain ⟨e, he3, h⟩ := bind_some h
   rcases e with r_24 | p_25
   ·try dsimp only at h
    refine bI hF (cV (l := [(109, ⟨dG, [], (false, (1 : Int), .inl r_24)⟩)]) (.cons fA (by kernel_rfl) (.nil))) [1] [] ?_
    simp only [go_sem]
    repeat (refine ⟨by first | with_reducible assumption | omega | (intros; first | assumption | omega) | (simp only [go_sem] at *; first | assumption | omega) | decide, ?_⟩)
    first | (refine ⟨fun hx => by first | (exfalso; omega) | (exfalso; simp_all; done), fun _ => ?_⟩) | intro _
    repeat (refine ⟨by first | with_reducible assumption | omega | (intros; first | assumption | omega) | (simp only [go_sem] at *; first | assumption | omega) | decide, ?_⟩)
    first | (refine ⟨fun hx => by first | (exfalso; omega) | (exfalso; simp_all; done), fun _ => ?_⟩) | intro _
    repeat (refine ⟨by first | with_reducible assumption | omega | (intros; first | assumption | omega) | (simp only [go_sem] at *; first | assumption | omega) | decide, ?_⟩)
    refine bG (aQ (()) h rfl ?_)
    ·(try simp only [jR, fQ, true_or, and_self, go_sem]) <;> (repeat' apply And.intro) <;> first | rfl | (left; rfl) | (right; rfl) | (left; simp only [go_sem]; done) | (right; simp only [go_sem]; done) | (simp; done) | (simp only [*]; done) | omega
   ·try dsimp only at h
    refine bI hF (cV (l := [(109, ⟨dG, [], (false, (1 : Int), .inr p_25)⟩)]) (.cons fA (by kernel_rfl) (.nil))) [1] [] ?_
    simp only [go_sem]
    repeat (refine ⟨by first | with_reducible assumption | omega | (intros; first | assumption | omega) | (simp only [go_sem] at *; first | assumption | omega) | decide, ?_⟩)
    first | (refine ⟨fun hx => by first | (exfalso; omega) | (exfalso; simp_all; done), fun _ => ?_⟩) | intro _
    repeat (refine ⟨by first | with_reducible assumption | omega | (intros; first | assumption | omega) | (simp only [go_sem] at *; first | assumption | omega) | decide, ?_⟩)
    first | (refine ⟨fun hx => by first | (exfalso; omega) | (exfalso; simp_all; done), fun _ => ?_⟩) | intro _
    repeat (refine ⟨by first | with_reducible assumption | omega | (intros; first | assumption | omega) | (simp only [go_sem] at *; first | assumption | omega) | decide, ?_⟩)
    obtain rfl := Option.some.inj h
    refine iR (nA rfl rfl rfl rfl)
 ·rintro u h
  try dsimp only at h
  simp only [go_sem]
  unfold nN at h
  refine aF (aE hF [13, 14, 15] ?_)
  simp only [go_sem]
  refine aG (gM (yU (D := Int) [13, 14] (fun d => [(15, .val (.i .i64) d)]) (fun d => []) h ?_ ?_ ?_))
  ·first | rfl | (simp only [go_sem]; done)
  ·(try simp only [jR, fQ, true_or, and_self, go_sem]) <;> (repeat' apply And.intro) <;> first | rfl | (left; rfl) | (right; rfl) | (left; simp only [go_sem]; done) | (right; simp only [go_sem]; done) | (simp; done) | (simp only [*]; done) | omega
  rintro x15_13 s2 h hs2
  simp only [go_sem]
  try dsimp only at h
  unfold iX at h
  refine aF (aE hF [13, 14, 15, 16] ?_)
  simp only [go_sem]
  refine aG (aF (bU rfl (fun hc => ?_) (fun hc => ?_)))
  ·try simp only [go_sem] at hc
   have h := fX (by first | exact hc | omega | (simpa using hc) | (simp at hc ⊢; omega)) h
   refine cG (aG (aF (gM (aF (bY hF [5, 13, 14, 15] ?_)))))
   simp only [go_sem]
   obtain ⟨g0, h⟩ := aJ h
   repeat (refine ⟨by first | with_reducible assumption | omega | (intros; first | assumption | omega) | (simp only [go_sem] at *; first | assumption | omega) | decide, ?_⟩)
   obtain ⟨g0, h⟩ := aJ h
   obtain ⟨e, he1, h⟩ := bind_some h
   rcases e with r_19 | p_20
   ·try dsimp only at h
    refine aG (bI hF (cV (l := [(109, ⟨dG, [], (((cX (l_1.getD (x15_13.toNat) (false, ([] : List Nat), (0 : Int), ()))).getD false), (1 : Int), .inl r_19)⟩)]) (.cons fA (by kernel_rfl) (.nil))) [13, 14, 15] [] ?_)
    simp only [go_sem]
    repeat (refine ⟨by first | with_reducible assumption | omega | (intros; first | assumption | omega) | (simp only [go_sem] at *; first | assumption | omega) | decide, ?_⟩)
    refine gA (aG (aE hF [13, 14, 15] ?_))
    simp only [go_sem]
    obtain ⟨g0, h⟩ := aJ h
    try simp only [I64, I32] at g0
    repeat (refine ⟨by first | with_reducible assumption | omega | (intros; first | assumption | omega) | (simp only [go_sem] at *; first | assumption | omega) | decide, ?_⟩)
    obtain rfl := Option.some.inj h
    dsimp only [vW] at hs2
    refine bG (pI [] rfl rfl ?_)
    simp only [ren, iQ, qN, posOf, gQ, go_sem]
    refine aQ ((x15_13 + (1 : Int))) hs2 rfl ?_
    ·(try simp only [jR, fQ, true_or, and_self, go_sem]) <;> (repeat' apply And.intro) <;> first | rfl | (left; rfl) | (right; rfl) | (left; simp only [go_sem]; done) | (right; simp only [go_sem]; done) | (simp; done) | (simp only [*]; done) | omega
   ·try dsimp only at h
    refine aG (bI hF (cV (l := [(109, ⟨dG, [], (((cX (l_1.getD (x15_13.toNat) (false, ([] : List Nat), (0 : Int), ()))).getD false), (1 : Int), .inr p_20)⟩)]) (.cons fA (by kernel_rfl) (.nil))) [13, 14, 15] [] ?_)
    simp only [go_sem]
    repeat (refine ⟨by first | with_reducible assumption | omega | (intros; first | assumption | omega) | (simp only [go_sem] at *; first | assumption | omega) | decide, ?_⟩)
    obtain rfl := Option.some.inj h
    dsimp only [vW] at hs2
    have h := hs2
    try dsimp only at h
    obtain rfl := Option.some.inj h
    refine aKO (iR (iR (aKO (sK [] rfl rfl ?_))))
    simp only [ren, iQ, qN, posOf, gQ, go_sem]
    refine nA rfl rfl rfl rfl
  ·try simp only [go_sem] at hc
   have h := fY (by first | exact hc | omega | (simpa using hc) | (simp at hc ⊢; omega)) h
   obtain rfl := Option.some.inj h
   dsimp only [vW] at hs2
   have h := hs2
   try dsimp only at h
   obtain rfl := Option.some.inj h
   refine vR (eF (eF (iF (aAc (uF hF [] rfl rfl rfl rfl rfl rfl ?_)))))
   (try simp only [aZ, aBe, aAM, fQ, oL, AV.isAgg, go_sem]) <;> first | trivial | rfl | (simp; done)
attribute [go_sem] rC
noncomputable def lE (neg_0 : Bool) (e_8 : Int) (m_10 : (List Nat)) : Option (((Bool × ((List Nat) × (Int × Unit))) ⊕ (Int × Unit))) :=
 ck (((bL neg_0 m_10 e_8).isSome = true)) (((gF (decide (((((bL neg_0 m_10 e_8).getD ((false, ([] : List Nat), (0 : Int), ()), (0 : Int), ())).2).1) = (0 : Int))) ((((bL neg_0 m_10 e_8).getD ((false, ([] : List Nat), (0 : Int), ()), (0 : Int), ())).2).1))).bind (fun e => match e with | .inl r_15 => some (.inl (((bL neg_0 m_10 e_8).getD ((false, ([] : List Nat), (0 : Int), ()), (0 : Int), ())).1)) | .inr p_16 => some (.inr p_16)))
noncomputable def lF (up_5 : Bool) (neg_0 : Bool) (m_7 : (List Nat)) (e_8 : Int) (rest_9 : Bool) : Option (((Bool × ((List Nat) × (Int × Unit))) ⊕ (Int × Unit))) :=
 if (rest_9 = true) ∧ ((up_5 != neg_0) = true) then ck ((aF0 m_7 ([1] : List Nat))) (lE neg_0 e_8 (fF m_7 ([1] : List Nat))) else lE neg_0 e_8 m_7
noncomputable def pV (neg_0 : Bool) (m_1 : (List Nat)) (e_2 : Int) (rest_3 : Bool) (p_4 : Int) (up_5 : Bool) : Option ((Bool × ((List Nat) × (Int × Unit))) ⊕ (Int × Unit)) :=
 ck ((aHv m_1)) (ck (I64 ((aW m_1) - p_4)) (if (0 : Int) < ((aW m_1) - p_4) then ck ((¬ (rest_3 = true) → ((pSz m_1)))) (ck ((aEm m_1 ((aW m_1) - p_4))) (ck (I64 (e_2 + ((aW m_1) - p_4))) (lF up_5 neg_0 (cF m_1 ((aW m_1) - p_4)) (e_2 + ((aW m_1) - p_4)) (rest_3 || (decide ((bQ m_1) < ((aW m_1) - p_4))))))) else lF up_5 neg_0 m_1 e_2 rest_3))
noncomputable def rD : mZ where
 D := Bool × (List Nat) × Int × Bool × Int × Bool × ((Bool × ((List Nat) × (Int × Unit))) ⊕ (Int × Unit))
 av := fun d => [.val .bool d.1, .val (.sl (.u .u64)) d.2.1, .val (.i .i64) d.2.2.1, .val .bool d.2.2.2.1, .val (.i .i64) d.2.2.2.2.1, .val .bool d.2.2.2.2.2.1]
 hp := fun d => []
 m := 0
 pre := fun d => pV d.1 d.2.1 d.2.2.1 d.2.2.2.1 d.2.2.2.2.1 d.2.2.2.2.2.1 = some d.2.2.2.2.2.2
 out := fun d => match d.2.2.2.2.2.2 with | .inl r => .ret (.val (.pair .bool (.pair (.sl (.u .u64)) (.pair (.i .i64) .unit))) r) [] | .inr p => .pan ⟨165, (.pair (.i .i64) .unit), p⟩ []
noncomputable def nO : List (FuncId × aK) := [(54, lQ), (69, gC), (70, jS), (71, lP), (89, lO)]
theorem aFj : bN Tryz.prog GL nO := .cons aBv (by kernel_rfl) (.cons uH (by kernel_rfl) (.cons aAm (by kernel_rfl) (.cons aBq (by kernel_rfl) (.cons aBo (by kernel_rfl) (.nil)))))
theorem aH0 : gam nO 54 = some lQ := rfl
attribute [go_sem] aH0
theorem aH1 : gam nO 69 = some gC := rfl
attribute [go_sem] aH1
theorem aH2 : gam nO 70 = some jS := rfl
attribute [go_sem] aH2
theorem aH3 : gam nO 71 = some lP := rfl
attribute [go_sem] aH3
theorem aH4 : gam nO 89 = some lO := rfl
attribute [go_sem] aH4
set_option maxHeartbeats 4000000 in
theorem aDD : GOK Tryz.prog GL 110 rD := by
 refine sW (bC aFj) Tryz.func110 rfl (by kernel_rfl) (fun _ => Nat.le_of_ble_eq_true rfl) fun c0 w0 d hw1 hw2 h hn => ?_
 have hF : kT ⟨Tryz.prog, EM nO, GM rD c0 d, w0, Tryz.f110.ntmps, []⟩ := ⟨bC aFj, mix⟩
 obtain ⟨(neg_0 : Bool), (m_1 : (List Nat)), (e_2 : Int), (rest_3 : Bool), (p_4 : Int), (up_5 : Bool), r⟩ := d
 replace h : pV neg_0 m_1 e_2 rest_3 p_4 up_5 = some r := h
 have hw1 : AV.wfL [.val .bool neg_0, .val (.sl (.u .u64)) m_1, .val (.i .i64) e_2, .val .bool rest_3, .val (.i .i64) p_4, .val .bool up_5] := hw1
 simp only [AV.wfL, AV.wfV, Ty.wf, pH] at hw1
 show Tri _ _ _ [(0, .val .bool neg_0), (1, .val (.sl (.u .u64)) m_1), (2, .val (.i .i64) e_2), (3, .val .bool rest_3), (4, .val (.i .i64) p_4), (5, .val .bool up_5)] []
 unfold pV at h
 refine aF (bY hF [0, 1, 2, 3, 4, 5, 12] ?_)
 simp only [go_sem]
 refine aG (jO (D := (List Nat) × Int × Bool) (fun d => lF up_5 neg_0 d.1 d.2.1 d.2.2 = some r) [0, 5] (fun d => [(1, .val (.sl (.u .u64)) d.1), (2, .val (.i .i64) d.2.1), (3, .val .bool d.2.2), (12, .ptr 0 [])]) (fun d => [.inr (.box 3 (.val (.pair .bool (.pair (.sl (.u .u64)) (.pair (.i .i64) .unit))) (false, ([] : List Nat), (0 : Int), ())))]) ?_ ?_)
 ·refine aF (aE hF [0, 1, 2, 3, 5, 12, 13] ?_)
  simp only [go_sem]
  obtain ⟨g0, h⟩ := aJ h
  obtain ⟨g1, h⟩ := aJ h
  try simp only [I64, I32] at g1
  repeat (refine ⟨by first | with_reducible assumption | omega | (intros; first | assumption | omega) | (simp only [go_sem] at *; first | assumption | omega) | decide, ?_⟩)
  refine aG (aF (aE hF [0, 1, 2, 3, 5, 12, 13, 21] ?_))
  simp only [go_sem]
  refine aG (bU rfl (fun hc => ?_) (fun hc => ?_))
  ·try simp only [go_sem] at hc
   have h := fX (by first | exact hc | omega | (simpa using hc) | (simp at hc ⊢; omega)) h
   refine aF (aE hF [0, 1, 2, 3, 5, 12, 13] ?_)
   simp only [go_sem]
   obtain ⟨g0, h⟩ := aJ h
   repeat (refine ⟨by first | with_reducible assumption | omega | (intros; first | assumption | omega) | (simp only [go_sem] at *; first | assumption | omega) | (intro q0; (try have e0 := g0 (by first | exact q0 | omega | (simpa using q0))); first | assumption | omega) | decide, ?_⟩)
   refine aG (aE hF [0, 1, 2, 3, 5, 12] ?_)
   simp only [go_sem]
   obtain ⟨g0, h⟩ := aJ h
   obtain ⟨g1, h⟩ := aJ h
   try simp only [I64, I32] at g1
   repeat (refine ⟨by first | with_reducible assumption | omega | (intros; first | assumption | omega) | (simp only [go_sem] at *; first | assumption | omega) | decide, ?_⟩)
   refine bG (aQ (((cF m_1 ((aW m_1) - p_4)), (e_2 + ((aW m_1) - p_4)), (rest_3 || (decide ((bQ m_1) < ((aW m_1) - p_4)))))) h rfl ?_)
   ·(try simp only [jR, fQ, true_or, and_self, go_sem]) <;> (repeat' apply And.intro) <;> first | rfl | (left; rfl) | (right; rfl) | (left; simp only [go_sem]; done) | (right; simp only [go_sem]; done) | (simp; done) | (simp only [*]; done) | omega
  ·try simp only [go_sem] at hc
   have h := fY (by first | exact hc | omega | (simpa using hc) | (simp at hc ⊢; omega)) h
   refine cG (bG (aQ ((m_1, e_2, rest_3)) h rfl ?_))
   ·(try simp only [jR, fQ, true_or, and_self, go_sem]) <;> (repeat' apply And.intro) <;> first | rfl | (left; rfl) | (right; rfl) | (left; simp only [go_sem]; done) | (right; simp only [go_sem]; done) | (simp; done) | (simp only [*]; done) | omega
 ·rintro ⟨m_7, e_8, rest_9⟩ h
  try dsimp only at h
  simp only [go_sem]
  unfold lF at h
  refine jO (D := (List Nat)) (fun d => lE neg_0 e_8 d = some r) [0, 2] (fun d => [(1, .val (.sl (.u .u64)) d), (12, .ptr 0 [])]) (fun d => [.inr (.box 3 (.val (.pair .bool (.pair (.sl (.u .u64)) (.pair (.i .i64) .unit))) (false, ([] : List Nat), (0 : Int), ())))]) ?_ ?_
  ·refine aF (aE hF [0, 1, 2, 12, 40] ?_)
   simp only [go_sem]
   refine aG (bU rfl (fun hc => ?_) (fun hc => ?_))
   ·try simp only [go_sem] at hc
    have h := fX (by first | exact hc | omega | (simpa using hc) | (simp at hc ⊢; omega)) h
    refine aE hF [0, 1, 2, 12] ?_
    simp only [go_sem]
    obtain ⟨g0, h⟩ := aJ h
    repeat (refine ⟨by first | with_reducible assumption | omega | (intros; first | assumption | omega) | (simp only [go_sem] at *; first | assumption | omega) | decide, ?_⟩)
    refine bG (aQ ((fF m_7 ([1] : List Nat))) h rfl ?_)
    ·(try simp only [jR, fQ, true_or, and_self, go_sem]) <;> (repeat' apply And.intro) <;> first | rfl | (left; rfl) | (right; rfl) | (left; simp only [go_sem]; done) | (right; simp only [go_sem]; done) | (simp; done) | (simp only [*]; done) | omega
   ·try simp only [go_sem] at hc
    have h := fY (by first | exact hc | omega | (simpa using hc) | (simp at hc ⊢; omega)) h
    refine cG (bG (aQ (m_7) h rfl ?_))
    ·(try simp only [jR, fQ, true_or, and_self, go_sem]) <;> (repeat' apply And.intro) <;> first | rfl | (left; rfl) | (right; rfl) | (left; simp only [go_sem]; done) | (right; simp only [go_sem]; done) | (simp; done) | (simp only [*]; done) | omega
  ·rintro m_10 h
   try dsimp only at h
   simp only [go_sem]
   unfold lE at h
   refine aF (bY hF [12, 14, 15] ?_)
   simp only [go_sem]
   obtain ⟨g0, h⟩ := aJ h
   repeat (refine ⟨by first | with_reducible assumption | omega | (intros; first | assumption | omega) | (simp only [go_sem] at *; first | assumption | omega) | decide, ?_⟩)
   obtain ⟨e, he1, h⟩ := bind_some h
   rcases e with r_15 | p_16
   ·try dsimp only at h
    refine aG (aF (bI hF (cV (l := [(109, ⟨dG, [], ((decide (((((bL neg_0 m_10 e_8).getD ((false, ([] : List Nat), (0 : Int), ()), (0 : Int), ())).2).1) = (0 : Int))), ((((bL neg_0 m_10 e_8).getD ((false, ([] : List Nat), (0 : Int), ()), (0 : Int), ())).2).1), .inl r_15)⟩)]) (.cons fA (by kernel_rfl) (.nil))) [12, 14] [] ?_))
    simp only [go_sem]
    repeat (refine ⟨by first | with_reducible assumption | omega | (intros; first | assumption | omega) | (simp only [go_sem] at *; first | assumption | omega) | decide, ?_⟩)
    refine aG (aF (bY hF [12] ?_))
    simp only [go_sem]
    obtain rfl := Option.some.inj h
    refine aG (dS (aBf hF [.cell 12 25] [] rfl rfl rfl rfl rfl rfl rfl rfl rfl ?_))
    (try simp only [aZ, aBe, aAM, fQ, oL, AV.isAgg, go_sem]) <;> first | trivial | rfl | (simp; done)
   ·try dsimp only at h
    refine aG (aF (bI hF (cV (l := [(109, ⟨dG, [], ((decide (((((bL neg_0 m_10 e_8).getD ((false, ([] : List Nat), (0 : Int), ()), (0 : Int), ())).2).1) = (0 : Int))), ((((bL neg_0 m_10 e_8).getD ((false, ([] : List Nat), (0 : Int), ()), (0 : Int), ())).2).1), .inr p_16)⟩)]) (.cons fA (by kernel_rfl) (.nil))) [12, 14] [] ?_))
    simp only [go_sem]
    repeat (refine ⟨by first | with_reducible assumption | omega | (intros; first | assumption | omega) | (simp only [go_sem] at *; first | assumption | omega) | decide, ?_⟩)
    obtain rfl := Option.some.inj h
    refine iR (sK [] rfl rfl ?_)
    simp only [ren, iQ, qN, posOf, gQ, go_sem]
    refine nA rfl rfl rfl rfl
attribute [go_sem] rD
noncomputable def lG (a0_0 : Int) (a1_1 : (Bool × ((List Nat) × (Int × Unit)))) (a2_2 : (Bool × ((List Nat) × (Int × Unit)))) (a3_3 : Bool) : Option ((Bool × ((List Nat) × (Int × Unit))) ⊕ (Int × Unit)) :=
 ((pU a0_0 ([a1_1, a2_2] : List (Bool × ((List Nat) × (Int × Unit)))))).bind (fun e => match e with | .inl r_9 => ((gF (decide ((0 : Int) < (((((a2_2.2).1).length) : Nat) : Int))) (4 : Int))).bind (fun e => match e with | .inl r_15 => ck (I64 (a0_0 + (1 : Int))) (ck ((aHv ((a2_2.2).1))) (ck (I64 ((a0_0 + (1 : Int)) + (aW ((a2_2.2).1)))) (ck ((aHv ((a1_1.2).1))) (ck (I64 (((a0_0 + (1 : Int)) + (aW ((a2_2.2).1))) - (aW ((a1_1.2).1)))) (ck ((aEX ((a1_1.2).1) (max (0 : Int) (((a0_0 + (1 : Int)) + (aW ((a2_2.2).1))) - (aW ((a1_1.2).1)))))) (ck ((oC (bF ((a1_1.2).1) (max (0 : Int) (((a0_0 + (1 : Int)) + (aW ((a2_2.2).1))) - (aW ((a1_1.2).1))))) ((a2_2.2).1))) (ck (I64 ((((a1_1.2).2).1) - (((a2_2.2).2).1))) (ck (I64 (((((a1_1.2).2).1) - (((a2_2.2).2).1)) - (max (0 : Int) (((a0_0 + (1 : Int)) + (aW ((a2_2.2).1))) - (aW ((a1_1.2).1)))))) (((pV ((a1_1.1) != (a2_2.1)) ((bD (bF ((a1_1.2).1) (max (0 : Int) (((a0_0 + (1 : Int)) + (aW ((a2_2.2).1))) - (aW ((a1_1.2).1))))) ((a2_2.2).1)).1) (((((a1_1.2).2).1) - (((a2_2.2).2).1)) - (max (0 : Int) (((a0_0 + (1 : Int)) + (aW ((a2_2.2).1))) - (aW ((a1_1.2).1))))) (decide ((0 : Int) < ((((((bD (bF ((a1_1.2).1) (max (0 : Int) (((a0_0 + (1 : Int)) + (aW ((a2_2.2).1))) - (aW ((a1_1.2).1))))) ((a2_2.2).1)).2).1).length) : Nat) : Int))) a0_0 a3_3)).bind (fun e => match e with | .inl r_21 => some (.inl r_21) | .inr p_22 => some (.inr p_22))))))))))) | .inr p_16 => some (.inr p_16)) | .inr p_10 => some (.inr p_10))
noncomputable def mJ : mZ where
 D := Int × (Bool × ((List Nat) × (Int × Unit))) × (Bool × ((List Nat) × (Int × Unit))) × Bool × ((Bool × ((List Nat) × (Int × Unit))) ⊕ (Int × Unit))
 av := fun d => [.val (.rp (.i .i64)) d.1, .val (.rp (.pair .bool (.pair (.sl (.u .u64)) (.pair (.i .i64) .unit)))) d.2.1, .val (.rp (.pair .bool (.pair (.sl (.u .u64)) (.pair (.i .i64) .unit)))) d.2.2.1, .val (.rp .bool) d.2.2.2.1]
 hp := fun d => []
 m := 0
 pre := fun d => lG d.1 d.2.1 d.2.2.1 d.2.2.2.1 = some d.2.2.2.2
 out := fun d => match d.2.2.2.2 with | .inl r => .ret (.val (.pair .bool (.pair (.sl (.u .u64)) (.pair (.i .i64) .unit))) r) [] | .inr p => .pan ⟨165, (.pair (.i .i64) .unit), p⟩ []
noncomputable def nP : List (FuncId × aK) := [(62, iK), (68, iI), (89, lO)]
theorem aBy : bN Tryz.prog GL nP := .cons yC (by kernel_rfl) (.cons xD (by kernel_rfl) (.cons aBo (by kernel_rfl) (.nil)))
theorem aDE : gam nP 62 = some iK := rfl
attribute [go_sem] aDE
theorem aDF : gam nP 68 = some iI := rfl
attribute [go_sem] aDF
theorem aDG : gam nP 89 = some lO := rfl
attribute [go_sem] aDG
set_option maxHeartbeats 4000000 in
theorem aAF : GOK Tryz.prog GL 107 mJ := by
 refine sW (bC aBy) Tryz.func107 rfl (by kernel_rfl) (fun _ => Nat.le_of_ble_eq_true rfl) fun c0 w0 d hw1 hw2 h hn => ?_
 have hF : kT ⟨Tryz.prog, EM nP, GM mJ c0 d, w0, Tryz.f107.ntmps, []⟩ := ⟨bC aBy, mix⟩
 obtain ⟨(a0_0 : Int), (a1_1 : (Bool × ((List Nat) × (Int × Unit)))), (a2_2 : (Bool × ((List Nat) × (Int × Unit)))), (a3_3 : Bool), r⟩ := d
 replace h : lG a0_0 a1_1 a2_2 a3_3 = some r := h
 have hw1 : AV.wfL [.val (.rp (.i .i64)) a0_0, .val (.rp (.pair .bool (.pair (.sl (.u .u64)) (.pair (.i .i64) .unit)))) a1_1, .val (.rp (.pair .bool (.pair (.sl (.u .u64)) (.pair (.i .i64) .unit)))) a2_2, .val (.rp .bool) a3_3] := hw1
 simp only [AV.wfL, AV.wfV, Ty.wf, pH] at hw1
 show Tri _ _ _ [(0, .roa (.i .i64) a0_0), (1, .roa (.pair .bool (.pair (.sl (.u .u64)) (.pair (.i .i64) .unit))) a1_1), (2, .roa (.pair .bool (.pair (.sl (.u .u64)) (.pair (.i .i64) .unit))) a2_2), (3, .roa .bool a3_3)] []
 unfold lG at h
 refine aF (bY hF [0, 1, 2, 3, 4] ?_)
 simp only [go_sem]
 obtain ⟨e, he1, h⟩ := bind_some h
 rcases e with r_9 | p_10
 ·try dsimp only at h
  refine aG (aF (bI hF (cV (l := [(108, ⟨rC, [], (a0_0, ([a1_1, a2_2] : List (Bool × ((List Nat) × (Int × Unit)))), .inl r_9)⟩)]) (.cons aDC (by kernel_rfl) (.nil))) [0, 1, 2, 3, 4] [] ?_))
  simp only [go_sem]
  repeat (refine ⟨by first | with_reducible assumption | omega | (intros; first | assumption | omega) | (simp only [go_sem] at *; first | assumption | omega) | decide, ?_⟩)
  obtain ⟨e, he2, h⟩ := bind_some h
  rcases e with r_15 | p_16
  ·try dsimp only at h
   refine aG (aF (bI hF (cV (l := [(109, ⟨dG, [], ((decide ((0 : Int) < (((((a2_2.2).1).length) : Nat) : Int))), (4 : Int), .inl r_15)⟩)]) (.cons fA (by kernel_rfl) (.nil))) [0, 1, 2, 3, 4] [] ?_))
   simp only [go_sem]
   repeat (refine ⟨by first | with_reducible assumption | omega | (intros; first | assumption | omega) | (simp only [go_sem] at *; first | assumption | omega) | decide, ?_⟩)
   refine aG (aF (aE hF [0, 1, 2, 3, 4, 5] ?_))
   simp only [go_sem]
   obtain ⟨g0, h⟩ := aJ h
   obtain ⟨g1, h⟩ := aJ h
   obtain ⟨g2, h⟩ := aJ h
   obtain ⟨g3, h⟩ := aJ h
   obtain ⟨g4, h⟩ := aJ h
   try simp only [I64, I32] at g0
   try simp only [I64, I32] at g2
   try simp only [I64, I32] at g4
   repeat (refine ⟨by first | with_reducible assumption | omega | (intros; first | assumption | omega) | (simp only [go_sem] at *; first | assumption | omega) | decide, ?_⟩)
   refine aG (aF (aE hF [0, 1, 2, 3, 4, 5, 6, 7] ?_))
   simp only [go_sem]
   obtain ⟨g0, h⟩ := aJ h
   obtain ⟨g1, h⟩ := aJ h
   repeat (refine ⟨by first | with_reducible assumption | omega | (intros; first | assumption | omega) | (simp only [go_sem] at *; first | assumption | omega) | decide, ?_⟩)
   obtain ⟨g0, h⟩ := aJ h
   try simp only [I64, I32] at g0
   obtain ⟨g1, h⟩ := aJ h
   try simp only [I64, I32] at g1
   obtain ⟨e, he3, h⟩ := bind_some h
   rcases e with r_21 | p_22
   ·try dsimp only at h
    refine aG (aF (bI hF (cV (l := [(110, ⟨rD, [], (((a1_1.1) != (a2_2.1)), ((bD (bF ((a1_1.2).1) (max (0 : Int) (((a0_0 + (1 : Int)) + (aW ((a2_2.2).1))) - (aW ((a1_1.2).1))))) ((a2_2.2).1)).1), (((((a1_1.2).2).1) - (((a2_2.2).2).1)) - (max (0 : Int) (((a0_0 + (1 : Int)) + (aW ((a2_2.2).1))) - (aW ((a1_1.2).1))))), (decide ((0 : Int) < ((((((bD (bF ((a1_1.2).1) (max (0 : Int) (((a0_0 + (1 : Int)) + (aW ((a2_2.2).1))) - (aW ((a1_1.2).1))))) ((a2_2.2).1)).2).1).length) : Nat) : Int))), a0_0, a3_3, .inl r_21)⟩)]) (.cons aDD (by kernel_rfl) (.nil))) [4] [] ?_))
    simp only [go_sem]
    repeat (refine ⟨by first | with_reducible assumption | omega | (intros; first | assumption | omega) | (simp only [go_sem] at *; first | assumption | omega) | decide, ?_⟩)
    obtain rfl := Option.some.inj h
    refine aG (dS (aBf hF [.cell 4 25] [] rfl rfl rfl rfl rfl rfl rfl rfl rfl ?_))
    (try simp only [aZ, aBe, aAM, fQ, oL, AV.isAgg, go_sem]) <;> first | trivial | rfl | (simp; done)
   ·try dsimp only at h
    refine aG (aF (bI hF (cV (l := [(110, ⟨rD, [], (((a1_1.1) != (a2_2.1)), ((bD (bF ((a1_1.2).1) (max (0 : Int) (((a0_0 + (1 : Int)) + (aW ((a2_2.2).1))) - (aW ((a1_1.2).1))))) ((a2_2.2).1)).1), (((((a1_1.2).2).1) - (((a2_2.2).2).1)) - (max (0 : Int) (((a0_0 + (1 : Int)) + (aW ((a2_2.2).1))) - (aW ((a1_1.2).1))))), (decide ((0 : Int) < ((((((bD (bF ((a1_1.2).1) (max (0 : Int) (((a0_0 + (1 : Int)) + (aW ((a2_2.2).1))) - (aW ((a1_1.2).1))))) ((a2_2.2).1)).2).1).length) : Nat) : Int))), a0_0, a3_3, .inr p_22)⟩)]) (.cons aDD (by kernel_rfl) (.nil))) [4] [] ?_))
    simp only [go_sem]
    repeat (refine ⟨by first | with_reducible assumption | omega | (intros; first | assumption | omega) | (simp only [go_sem] at *; first | assumption | omega) | decide, ?_⟩)
    obtain rfl := Option.some.inj h
    refine iR (sK [] rfl rfl ?_)
    simp only [ren, iQ, qN, posOf, gQ, go_sem]
    refine nA rfl rfl rfl rfl
  ·try dsimp only at h
   refine aG (aF (bI hF (cV (l := [(109, ⟨dG, [], ((decide ((0 : Int) < (((((a2_2.2).1).length) : Nat) : Int))), (4 : Int), .inr p_16)⟩)]) (.cons fA (by kernel_rfl) (.nil))) [0, 1, 2, 3, 4] [] ?_))
   simp only [go_sem]
   repeat (refine ⟨by first | with_reducible assumption | omega | (intros; first | assumption | omega) | (simp only [go_sem] at *; first | assumption | omega) | decide, ?_⟩)
   obtain rfl := Option.some.inj h
   refine iR (sK [] rfl rfl ?_)
   simp only [ren, iQ, qN, posOf, gQ, go_sem]
   refine nA rfl rfl rfl rfl
 ·try dsimp only at h
  refine aG (aF (bI hF (cV (l := [(108, ⟨rC, [], (a0_0, ([a1_1, a2_2] : List (Bool × ((List Nat) × (Int × Unit)))), .inr p_10)⟩)]) (.cons aDC (by kernel_rfl) (.nil))) [0, 1, 2, 3, 4] [] ?_))
  simp only [go_sem]
  repeat (refine ⟨by first | with_reducible assumption | omega | (intros; first | assumption | omega) | (simp only [go_sem] at *; first | assumption | omega) | decide, ?_⟩)
  obtain rfl := Option.some.inj h
  refine iR (sK [] rfl rfl ?_)
  simp only [ren, iQ, qN, posOf, gQ, go_sem]
  refine nA rfl rfl rfl rfl
attribute [go_sem] mJ
def nQ : mZ where
 D := (Bool × ((List Nat) × (Int × Unit))) × Int
 av := fun _ => [.ptr 0 [], .ptr 1 []]
 hp := fun d => [.box 3 (.val (.pair .bool (.pair (.sl (.u .u64)) (.pair (.i .i64) .unit))) d.1), .box 1 (.val (.i .i64) d.2)]
 m := 2
 pre := fun _ => True
 out := fun d => .ret (.tup []) [.box 3 (.val (.pair .bool (.pair (.sl (.u .u64)) (.pair (.i .i64) .unit))) d.1), .box 1 (.val (.i .i64) d.2)]
def nR (x : (Int × Unit)) : mZ where
 D := (Bool × ((List Nat) × (Int × Unit))) × Int
 av := fun _ => [.ptr 0 [], .ptr 1 []]
 hp := fun d => [.box 3 (.val (.pair .bool (.pair (.sl (.u .u64)) (.pair (.i .i64) .unit))) d.1), .box 1 (.val (.i .i64) d.2)]
 m := 2
 pre := fun _ => True
 out := fun d => .ret (.tup []) [.box 3 (.val (.pair .bool (.pair (.sl (.u .u64)) (.pair (.i .i64) .unit))) (false, ([] : List Nat), (0 : Int), ())), .box 1 (.val (.i .i64) x.1)]
theorem aGg : DOK Tryz.prog GL 151 none nQ := by
 refine aLy (bC xE) Tryz.func151 rfl (by kernel_rfl) (fun _ => Nat.le_of_ble_eq_true rfl) rfl fun c w d hw1 hw2 hp hn => ?_
 have hF : kT ⟨Tryz.prog, EM [], GM nQ c d, w, Tryz.f151.ntmps, []⟩ := ⟨bC xE, mix⟩
 obtain ⟨d, e⟩ := d
 show mU _ _ _ [(5, .val .nili ()), (0, .ptr 0 []), (1, .ptr 1 [])] [.box 3 (.val (.pair .bool (.pair (.sl (.u .u64)) (.pair (.i .i64) .unit))) d), .box 1 (.val (.i .i64) e)] _
 simp only [go_sem]
 refine aF (aE hF [0, 1, 2, 9] ?_)
 simp only [go_sem]
 refine aG (bU rfl (fun hc => absurd hc (by decide)) (fun hc => ?_))
 refine cG ?_
 refine pI [0, 1] rfl rfl ?_
 simp only [ren, iQ, qN, posOf, gQ, go_sem]
 refine aAc (uF hF [] rfl rfl rfl rfl rfl rfl ?_)
 simp only [aZ, aBe, aAM, go_sem]
 try decide
theorem aGh (x : (Int × Unit)) : DOK Tryz.prog GL 151 (some ⟨165, (.pair (.i .i64) .unit), x⟩) (nR x) := by
 refine aLy (bC xE) Tryz.func151 rfl (by kernel_rfl) (fun _ => Nat.le_of_ble_eq_true rfl) rfl fun c w d hw1 hw2 hp hn => ?_
 have hF : kT ⟨Tryz.prog, EM [], GM (nR x) c d, w, Tryz.f151.ntmps, []⟩ := ⟨bC xE, mix⟩
 obtain ⟨d, e⟩ := d
 show mU _ _ _ [(5, .val (.ifc 165 (.pair (.i .i64) .unit)) x), (0, .ptr 0 []), (1, .ptr 1 [])] [.box 3 (.val (.pair .bool (.pair (.sl (.u .u64)) (.pair (.i .i64) .unit))) d), .box 1 (.val (.i .i64) e)] _
 simp only [go_sem]
 refine aF (aE hF [0, 1, 2, 9] ?_)
 simp only [go_sem]
 refine aG (bU rfl (fun hc => ?_) (fun hc => absurd hc (by decide)))
 refine aET hF [] [] [.box 3 (.val (.pair .bool (.pair (.sl (.u .u64)) (.pair (.i .i64) .unit))) (false, ([] : List Nat), (0 : Int), ())), .box 1 (.val (.i .i64) x.1), .box 1 (.val (.pair (.i .i64) .unit) x)] (by decide) ?_ ?_
 ·simp only [go_sem]
  unfold anyS
  intro i hi
  have hi : i = 0 ∨ i = 1 := by revert hi; revert i; decide
  rcases hi with rfl | rfl
  ·simp only [go_sem]
   skip
   unfold anyS
   intro i hi
   have hi : i = 1 ∨ i = 3 := by revert hi; revert i; decide
   rcases hi with rfl | rfl
   ·simp only [go_sem]
    skip
    unfold anyS
    intro i hi
    have hi : i = 2 ∨ i = 3 := by revert hi; revert i; decide
    rcases hi with rfl | rfl
    ·simp only [go_sem]
     skip
     unfold anyS
     intro i hi
     have hi : i = 3 := by revert hi; revert i; decide
     subst hi
     simp only [go_sem]
     skip
     unfold anyS
     intro i hi
     have hi : i = 4 := by revert hi; revert i; decide
     subst hi
     simp only [go_sem]
     skip
     (simp only [anyS, go_sem]) <;> first | exact ⟨rfl, rfl⟩ | trivial
    ·simp only [go_sem]
     skip
     unfold anyS
     intro i hi
     have hi : i = 2 := by revert hi; revert i; decide
     subst hi
     simp only [go_sem]
     skip
     unfold anyS
     intro i hi
     have hi : i = 4 := by revert hi; revert i; decide
     subst hi
     simp only [go_sem]
     skip
     (simp only [anyS, go_sem]) <;> first | exact ⟨rfl, rfl⟩ | trivial
   ·simp only [go_sem]
    skip
    unfold anyS
    intro i hi
    have hi : i = 1 := by revert hi; revert i; decide
    subst hi
    simp only [go_sem]
    skip
    unfold anyS
    intro i hi
    have hi : i = 2 := by revert hi; revert i; decide
    subst hi
    simp only [go_sem]
    skip
    unfold anyS
    intro i hi
    have hi : i = 4 := by revert hi; revert i; decide
    subst hi
    simp only [go_sem]
    skip
    (simp only [anyS, go_sem]) <;> first | exact ⟨rfl, rfl⟩ | trivial
  ·simp only [go_sem]
   skip
   unfold anyS
   intro i hi
   have hi : i = 0 ∨ i = 2 := by revert hi; revert i; decide
   rcases hi with rfl | rfl
   ·simp only [go_sem]
    skip
    unfold anyS
    intro i hi
    have hi : i = 2 ∨ i = 3 := by revert hi; revert i; decide
    rcases hi with rfl | rfl
    ·simp only [go_sem]
     skip
     unfold anyS
     intro i hi
     have hi : i = 3 := by revert hi; revert i; decide
     subst hi
     simp only [go_sem]
     skip
     unfold anyS
     intro i hi
     have hi : i = 4 := by revert hi; revert i; decide
     subst hi
     simp only [go_sem]
     skip
     (simp only [anyS, go_sem]) <;> first | exact ⟨rfl, rfl⟩ | trivial
    ·simp only [go_sem]
     skip
     unfold anyS
     intro i hi
     have hi : i = 2 := by revert hi; revert i; decide
     subst hi
     simp only [go_sem]
     skip
     unfold anyS
     intro i hi
     have hi : i = 4 := by revert hi; revert i; decide
     subst hi
     simp only [go_sem]
     skip
     (simp only [anyS, go_sem]) <;> first | exact ⟨rfl, rfl⟩ | trivial
   ·simp only [go_sem]
    skip
    unfold anyS
    intro i hi
    have hi : i = 0 := by revert hi; revert i; decide
    subst hi
    simp only [go_sem]
    skip
    unfold anyS
    intro i hi
    have hi : i = 3 := by revert hi; revert i; decide
    subst hi
    simp only [go_sem]
    skip
    unfold anyS
    intro i hi
    have hi : i = 4 := by revert hi; revert i; decide
    subst hi
    simp only [go_sem]
    skip
    (simp only [anyS, go_sem]) <;> first | exact ⟨rfl, rfl⟩ | trivial
 refine pI [0, 1] rfl rfl ?_
 simp only [ren, iQ, qN, posOf, gQ, go_sem]
 refine aAc (uF hF [] rfl rfl rfl rfl rfl rfl ?_)
 simp only [aZ, aBe, aAM, go_sem]
 try decide
noncomputable def cD (c0 : Int) (c1 : (Bool × ((List Nat) × (Int × Unit)))) (c2 : (Bool × ((List Nat) × (Int × Unit)))) (c3 : Bool) : Option ((Bool × ((List Nat) × (Int × Unit))) × Int × Unit) :=
 (lG c0 c1 c2 c3).bind fun q => some (match q with | .inl r => (r, 0, ()) | .inr p => ((false, ([] : List Nat), (0 : Int), ()), p.1, ()))
def nS : Ty := .pair (.clo 107 (.pair (.rp (.i .i64)) (.pair (.rp (.pair .bool (.pair (.sl (.u .u64)) (.pair (.i .i64) .unit)))) (.pair (.rp (.pair .bool (.pair (.sl (.u .u64)) (.pair (.i .i64) .unit)))) (.pair (.rp .bool) .unit))))) .unit
noncomputable def eV : aK := mSpec nS (.tup (.pair (.pair .bool (.pair (.sl (.u .u64)) (.pair (.i .i64) .unit))) (.pair (.i .i64) .unit))) (fun x => cD x.1.1 x.1.2.1 x.1.2.2.1 x.1.2.2.2.1)
set_option maxHeartbeats 4000000 in
theorem uP : FOK Tryz.prog GL 106 eV := by
 refine aHp (bC xE) Tryz.func106 rfl (by kernel_rfl) (by decide) fun w0 S x r hw h => ?_
 have hF : kT (fr Tryz.prog (EM []) S w0 Tryz.f106.ntmps) := ⟨bC xE, mix⟩
 obtain ⟨⟨(c0 : Int), (c1 : (Bool × ((List Nat) × (Int × Unit)))), (c2 : (Bool × ((List Nat) × (Int × Unit)))), (c3 : Bool), u1⟩, u⟩ := x
 replace h : cD c0 c1 c2 c3 = some r := h
 show Tri _ _ _ [(0, .val (.clo 107 (.pair (.rp (.i .i64)) (.pair (.rp (.pair .bool (.pair (.sl (.u .u64)) (.pair (.i .i64) .unit)))) (.pair (.rp (.pair .bool (.pair (.sl (.u .u64)) (.pair (.i .i64) .unit)))) (.pair (.rp .bool) .unit))))) (c0, c1, c2, c3, u1))] []
 unfold cD at h
 obtain ⟨q, hq, h⟩ := bind_some h
 obtain rfl := Option.some.inj h
 refine aF (bY hF [0, 2, 3] ?_)
 simp only [go_sem]
 refine aG (aCe 2 [0, 1] rfl rfl (Nat.zero_le _) (by decide) fun roots hroots => ?_)
 have hF' : kT { fr Tryz.prog (EM []) S w0 Tryz.f106.ntmps with M := ⟨nothing, S, 2, roots⟩, ds := [⟨.fn (.func 151) ([0, 1].map roots).toArray, #[]⟩] } := ⟨bC xE, mix⟩
 rcases q with q | q
 ·refine aF (bI hF' (cV (l := [(107, ⟨mJ, [], (c0, c1, c2, c3, .inl q)⟩)]) (.cons aAF (by kernel_rfl) .nil)) [2, 3] [] ?_)
  simp only [go_sem]
  refine ⟨hq, ?_⟩
  refine aG (dS ?_)
  refine aQe (fn := Tryz.f106) (k := 2) (l2 := [0, 1]) hF' rfl rfl (by decide) rfl (aDi (by kernel_rfl)) ⟨nQ, [0, 1], (q, 0)⟩ aGg rfl [.cell 2 25, .cell 3 3] rfl ?_ ?_
  ·(simp only [nQ, go_sem]) <;> first | decide | trivial
  ·(simp only [nQ, aZ, kS, go_sem]) <;> first | decide | trivial
 ·refine aF (bI hF' (cV (l := [(107, ⟨mJ, [], (c0, c1, c2, c3, .inr q)⟩)]) (.cons aAF (by kernel_rfl) .nil)) [2, 3] [] ?_)
  simp only [go_sem]
  refine ⟨hq, ?_⟩
  refine iR ?_
  refine aQf (fn := Tryz.f106) (k := 2) (l2 := [0, 1]) hF' rfl rfl (by decide) rfl (aDi (by kernel_rfl)) ⟨nR q, [0, 1], ((false, ([] : List Nat), (0 : Int), ()), 0)⟩ (aGh q) rfl [.cell 2 25, .cell 3 3] rfl ?_ ?_
  ·(simp only [nR, go_sem]) <;> first | decide | trivial
  ·(simp only [nR, aZ, kS, go_sem]) <;> first | decide | trivial
attribute [go_sem] eV nS
noncomputable def dV (a_0 : (Bool × ((List Nat) × (Int × Unit)))) (b_1 : (Bool × ((List Nat) × (Int × Unit)))) (p_2 : Int) (up_3 : Bool) : Option ((Bool × ((List Nat) × (Int × Unit))) × (Int × Unit)) :=
 ck (((cD p_2 a_0 b_1 up_3).isSome = true)) (some ((((cD p_2 a_0 b_1 up_3).getD ((false, ([] : List Nat), (0 : Int), ()), (0 : Int), ())).1), ((((cD p_2 a_0 b_1 up_3).getD ((false, ([] : List Nat), (0 : Int), ()), (0 : Int), ())).2).1), ()))
def uQ : Ty := .pair (.pair .bool (.pair (.sl (.u .u64)) (.pair (.i .i64) .unit))) (.pair (.pair .bool (.pair (.sl (.u .u64)) (.pair (.i .i64) .unit))) (.pair (.i .i64) (.pair .bool .unit)))
attribute [go_sem] uQ
noncomputable def sO : aK := mSpec uQ (.tup (.pair (.pair .bool (.pair (.sl (.u .u64)) (.pair (.i .i64) .unit))) (.pair (.i .i64) .unit))) (fun x => dV x.1 x.2.1 x.2.2.1 x.2.2.2.1)
noncomputable def aAt : List (FuncId × aK) := [(106, eV)]
theorem aDH : bN Tryz.prog GL aAt := .cons uP (by kernel_rfl) (.nil)
theorem aEx : gam aAt 106 = some eV := rfl
attribute [go_sem] aEx
set_option maxHeartbeats 4000000 in
theorem aJV : FOK Tryz.prog GL 55 sO := by
 refine vG (bC aDH) Tryz.func55 rfl (by kernel_rfl) (by decide) fun w0 S x r hw h => ?_
 have hF : kT (fr Tryz.prog (EM aAt) S w0 Tryz.f55.ntmps) := ⟨bC aDH, mix⟩
 obtain ⟨(a_0 : (Bool × ((List Nat) × (Int × Unit)))), (b_1 : (Bool × ((List Nat) × (Int × Unit)))), (p_2 : Int), (up_3 : Bool), u⟩ := x
 simp only [uQ, Ty.wf, pH] at hw
 simp only [bV, uQ]
 try dsimp only at h
 unfold dV at h
 refine aF (bY hF [4, 5, 6, 7, 8] ?_)
 simp only [go_sem]
 refine aG (aF (vX 2 rfl ?_))
 simp only [go_sem]
 refine vX 0 rfl ?_
 simp only [go_sem]
 refine vX 1 rfl ?_
 simp only [go_sem]
 refine vX 3 rfl ?_
 simp only [go_sem]
 refine bY hF [8, 9] ?_
 simp only [go_sem]
 obtain ⟨g0, h⟩ := aJ h
 repeat (refine ⟨by first | with_reducible assumption | omega | (intros; first | assumption | omega) | (simp only [go_sem] at *; first | assumption | omega) | decide, ?_⟩)
 obtain rfl := Option.some.inj h
 refine aG (dS (jG hF [.cell 8 25, .tmp 9] rfl rfl rfl ?_))
 (try simp only [kS, aZ, go_sem]) <;> first | rfl | (simp; done)
attribute [go_sem] sO
end Nu
end Go.Proofs
namespace Go.Proofs
open Go.Vc
set_option maxRecDepth 20000
namespace Nu
noncomputable def mC : Option ((Int × (Unit × Unit))) :=
 none
noncomputable def iY (s_0 : (List Nat)) (n_14 : Int) : Option ((Int × (Unit × Unit))) :=
 ck ((0 : Int) < (((s_0.length) : Nat) : Int)) (if (s_0.getD (0 : Nat) (0 : Nat)) = (45 : Nat) then ck (I64 (0 - n_14)) (some ((0 - n_14), (), ())) else some (n_14, (), ()))
noncomputable def dZ (s_9 : (List Nat)) (n_15 : Int) (x49_16 : Int) : Option ((Int × Int) ⊕ ((Int) ⊕ (Int × (Unit × Unit)))) :=
 if x49_16 < (((s_9.length) : Nat) : Int) then ck (0 ≤ x49_16 ∧ x49_16 < (((s_9.length) : Nat) : Int)) (if (9 : Nat) < (iO .u8 (s_9.getD (x49_16.toNat) (0 : Nat)) (48 : Nat)) then none else ck (I64 (n_15 * (10 : Int))) (ck (I64 ((n_15 * (10 : Int)) + (((iO .u8 (s_9.getD (x49_16.toNat) (0 : Nat)) (48 : Nat)) : Nat) : Int))) (ck (I64 (x49_16 + (1 : Int))) (some (.inl (((n_15 * (10 : Int)) + (((iO .u8 (s_9.getD (x49_16.toNat) (0 : Nat)) (48 : Nat)) : Nat) : Int)), (x49_16 + (1 : Int)))))))) else some (.inr (.inl n_15))
noncomputable def eL (s_0 : (List Nat)) (s_9 : (List Nat)) : Option ((Int × (Unit × Unit))) :=
 (cE (fun d : Int × Int => dZ s_9 d.1 d.2) ((0 : Int), (0 : Int))).bind (fun e => match e with | (.inl e) => iY s_0 e | (.inr e) => some e)
noncomputable def gX (s_0 : (List Nat)) : Option (Int × (Unit × Unit)) :=
 if ((False) ∧ (((0 : Int) < (((s_0.length) : Nat) : Int)) ∧ ((((s_0.length) : Nat) : Int) < (10 : Int)))) ∨ ((True) ∧ (((0 : Int) < (((s_0.length) : Nat) : Int)) ∧ ((((s_0.length) : Nat) : Int) < (19 : Int)))) then ck ((0 : Int) < (((s_0.length) : Nat) : Int)) (ck ((¬ ((s_0.getD (0 : Nat) (0 : Nat)) = (45 : Nat)) → ((0 : Int) < (((s_0.length) : Nat) : Int)))) (if ((s_0.getD (0 : Nat) (0 : Nat)) = (45 : Nat)) ∨ ((s_0.getD (0 : Nat) (0 : Nat)) = (43 : Nat)) then ck ((1 : Int) ≤ (((s_0.length) : Nat) : Int)) (if ((((List.drop (1 : Nat) s_0).length) : Nat) : Int) < (1 : Int) then none else eL s_0 (List.drop (1 : Nat) s_0)) else eL s_0 s_0)) else mC
def zD : PlR := ⟨[(0, .A [0]), (1, .A [0, 4]), (2, .A [0, 30]), (3, .A [0, 5]), (4, .A [0, 5, 39]), (5, .A [0, 5]), (6, .A [0, 5, 44]), (7, .A [2, 3]), (8, .A [0, 5, 6]), (9, .A [5, 6, 47, 48, 49]), (10, .A [5, 6, 47, 48, 49, 50]), (11, .A [5, 6, 8, 47, 48, 49]), (12, .A [5, 6, 8, 47, 48, 49]), (13, .A [5, 6, 8, 47, 48, 49, 56]), (14, .A [2, 3]), (15, .A [5, 6, 47, 48, 49]), (16, .A [5, 6, 47, 48, 49]), (17, .A [6, 66]), (18, .A [6]), (19, .A [2, 3]), (20, .stop)], [(5, 23), (7, 11), (12, 20)]⟩
def aAG : Ty := .pair .str .unit
noncomputable def oD : aK := mSpec aAG (.tup (.pair (.i .i64) (.pair .nili .unit))) (fun x => gX x.1)
noncomputable def aGi : List (FuncId × aK) := []
theorem aGj : bN Tryz.prog GL aGi := .nil
attribute [go_sem] aAG zD
set_option maxHeartbeats 4000000 in
theorem aEy : FOK Tryz.prog GL 154 oD := by
 refine bR (bC aGj) mix Tryz.func154 rfl (by kernel_rfl) (by decide) zD fun w0 S x Θ hw h hF => ?_
 obtain ⟨(s_0 : (List Nat)), u⟩ := x
 simp only [bV, go_sem]
 replace h : sat (gX s_0) _ := h
 unfold gX at h
 refine cB hF (D := Unit) (fun d => sat (mC) Θ) [0] (fun d => []) (fun d => []) ?_ ?_
 ·simp only [go_sem]
  refine ⟨fun hc => ?_, fun hc => ?_⟩
  ·replace h := fB (by first | exact hc | omega | (simpa using hc) | (simp at hc ⊢; omega)) h
   refine cB hF (D := (List Nat)) (fun d => sat (eL s_0 d) Θ) [5] (fun d => [(0, .val .str d)]) (fun d => []) ?_ ?_
   ·simp only [go_sem]
    refine aI h fun g0 h => aI h fun g1 h => ?_
    refine ⟨fun hc => ?_, fun hc => ?_⟩
    ·replace h := fB hc h
     refine aI h fun g0 h => ?_
     refine dA h (fun hc h => ?_) fun hc h => ?_
     ·exact aBg h
     ·exact aQ ((List.drop (1 : Nat) s_0)) h rfl (by simp only [go_sem])
    ·replace h := fC hc h
     exact aQ (s_0) h rfl (by simp only [go_sem])
   ·rintro s_9 h
    simp only [go_sem]
    replace h : sat (eL s_0 s_9) _ := h
    unfold eL at h
    refine cB hF (D := Int) (fun d => sat (iY s_0 d) Θ) [5] (fun d => [(6, .val (.i .i64) d)]) (fun d => []) ?_ ?_
    ·simp only [go_sem]
     refine bW hF (D := Int × Int) [5, 47, 48] (fun d => [(6, .val (.i .i64) d.1), (49, .val (.i .i64) d.2)]) (fun d => []) h rfl (by simp only [go_sem]) ?_
     rintro ⟨n_15, x49_16⟩ A10 T10 hA10 hE10 h
     simp only [go_sem]
     replace h : sat (dZ s_9 n_15 x49_16) _ := h
     unfold dZ at h
     refine dA h (fun hc h => ?_) fun hc h => ?_
     ·refine aI h fun g0 h => ?_
      refine cZ h (fun hc h => ?_) fun hc h => ?_
      ·exact aBg h
      ·refine aI h fun g0 h => aI h fun g1 h => ?_
       refine aI h fun g0 h => ?_
       replace h := hA10 _ (aC h)
       exact aQ _ h rfl (by simp only [go_sem])
     ·replace h := hE10 _ (aC h)
      try dsimp only at h
      exact aQ (n_15) h rfl (by simp only [go_sem])
    ·rintro n_14 h
     simp only [go_sem]
     replace h : sat (iY s_0 n_14) _ := h
     unfold iY at h
     refine aI h fun g0 h => ?_
     refine cZ h (fun hc h => ?_) fun hc h => ?_
     ·refine aI h fun g0 h => ?_
      exact aL hF [.tmp 2, .tmp 3] rfl rfl rfl (aC h) (by simp only [aZ, go_sem])
     ·exact aL hF [.tmp 2, .tmp 3] rfl rfl rfl (aC h) (by simp only [aZ, go_sem])
  ·replace h := fC (by first | exact hc | omega | (simpa using hc) | (simp at hc ⊢; omega)) h
   exact aQ (()) h rfl (by simp only [go_sem])
 ·rintro u h
  simp only [go_sem]
  replace h : sat (mC) _ := h
  unfold mC at h
  exact aBg h
attribute [go_sem] oD
noncomputable def dD (s_0 : (List Nat)) : Option (Int × (Unit × Unit)) :=
 ck (((gX s_0).isSome = true)) (some ((((gX s_0).getD ((0 : Int), (), ())).1), (), ()))
def aAH : PlR := ⟨[(0, .A [0]), (1, .A [0, 4, 5]), (2, .A [0, 4, 5, 12]), (4, .A [2, 3])], []⟩
def aBz : Ty := .pair .str .unit
noncomputable def oY : aK := mSpec aBz (.tup (.pair (.i .i64) (.pair .nili .unit))) (fun x => dD x.1)
noncomputable def aBA : List (FuncId × aK) := [(154, oD)]
theorem aH5 : bN Tryz.prog GL aBA := .cons aEy (by kernel_rfl) (.nil)
theorem aCO : gam aBA 154 = some oD := rfl
attribute [go_sem] aBz aAH aCO
set_option maxHeartbeats 4000000 in
theorem aGk : FOK Tryz.prog GL 118 oY := by
 refine bR (bC aH5) mix Tryz.func118 rfl (by kernel_rfl) (by decide) aAH fun w0 S x Θ hw h hF => ?_
 obtain ⟨(s_0 : (List Nat)), u⟩ := x
 simp only [bV, go_sem]
 replace h : sat (dD s_0) _ := h
 unfold dD at h
 refine aI h fun g0 h => ?_
 exact aL hF [.tmp 2, .tmp 3] rfl rfl rfl (aC h) (by simp only [aZ, go_sem])
attribute [go_sem] oY
noncomputable def gY (at_1 : Int) (s_0 : (List Nat)) (n_5 : Int) : Option ((Int) ⊕ ((Int))) :=
 ck (I64 (at_1 + n_5)) (ck ((((at_1 + n_5) < (((s_0.length) : Nat) : Int)) → (I64 (at_1 + n_5)))) (ck ((((at_1 + n_5) < (((s_0.length) : Nat) : Int)) → (0 ≤ (at_1 + n_5) ∧ (at_1 + n_5) < (((s_0.length) : Nat) : Int)))) (ck (((((at_1 + n_5) < (((s_0.length) : Nat) : Int)) ∧ ((48 : Nat) ≤ (s_0.getD ((at_1 + n_5).toNat) (0 : Nat)))) → (I64 (at_1 + n_5)))) (ck (((((at_1 + n_5) < (((s_0.length) : Nat) : Int)) ∧ ((48 : Nat) ≤ (s_0.getD ((at_1 + n_5).toNat) (0 : Nat)))) → (0 ≤ (at_1 + n_5) ∧ (at_1 + n_5) < (((s_0.length) : Nat) : Int)))) (if (((at_1 + n_5) < (((s_0.length) : Nat) : Int)) ∧ ((48 : Nat) ≤ (s_0.getD ((at_1 + n_5).toNat) (0 : Nat)))) ∧ ((s_0.getD ((at_1 + n_5).toNat) (0 : Nat)) ≤ (57 : Nat)) then ck (I64 (n_5 + (1 : Int))) (some (.inl (n_5 + (1 : Int)))) else some (.inr n_5))))))
noncomputable def aD (s_0 : (List Nat)) (at_1 : Int) : Option Int :=
 (cE (fun d : Int => gY at_1 s_0 d) (0 : Int)).bind (fun e => some e)
def aCp : PlR := ⟨[(0, .A [0, 1]), (1, .A [0, 1, 5]), (2, .A [0, 1, 5, 27]), (3, .A [0, 1, 5]), (4, .A [4])], []⟩
def aDI : Ty := .pair .str (.pair (.i .i64) .unit)
noncomputable def sP : aK := mSpec aDI (.one (.i .i64)) (fun x => aD x.1 x.2.1)
noncomputable def aL8 : List (FuncId × aK) := []
theorem aL9 : bN Tryz.prog GL aL8 := .nil
attribute [go_sem] aDI aCp
set_option maxHeartbeats 4000000 in
theorem aJW : FOK Tryz.prog GL 117 sP := by
 refine bR (bC aL9) mix Tryz.func117 rfl (by kernel_rfl) (by decide) aCp fun w0 S x Θ hw h hF => ?_
 obtain ⟨(s_0 : (List Nat)), (at_1 : Int), u⟩ := x
 simp only [bV, go_sem]
 replace h : sat (aD s_0 at_1) _ := h
 unfold aD at h
 refine bW hF (D := Int) [0, 1] (fun d => [(5, .val (.i .i64) d)]) (fun d => []) h rfl (by simp only [go_sem]) ?_
 rintro n_5 A2 T2 hA2 hE2 h
 simp only [go_sem]
 replace h : sat (gY at_1 s_0 n_5) _ := h
 unfold gY at h
 refine aI h fun g0 h => aI h fun g1 h => aI h fun g2 h => aI h fun g3 h => aI h fun g4 h => ?_
 refine ⟨fun hc => ?_, fun hc => ?_⟩
 ·replace h := fB hc h
  refine aI h fun g0 h => ?_
  replace h := hA2 _ (aC h)
  exact aQ _ h rfl (by simp only [go_sem])
 ·replace h := fC hc h
  replace h := hE2 _ (aC h)
  try dsimp only at h
  exact aL hF [.tmp 4] rfl rfl rfl (aC h) (by simp only [aZ, go_sem])
attribute [go_sem] sP
noncomputable def iZ (n_1 : Int) (b_0 : Nat) (m_7 : (List Nat)) (x8_8 : Int) : Option (((List Nat) × Int) ⊕ (((List Nat)))) :=
 if x8_8 < n_1 then ck ((aF0 m_7 ([b_0] : List Nat))) (ck (I64 (x8_8 + (1 : Int))) (some (.inl ((bA m_7 ([b_0] : List Nat)), (x8_8 + (1 : Int)))))) else some (.inr m_7)
noncomputable def bB (b_0 : Nat) (n_1 : Int) : Option (List Nat) :=
 (cE (fun d : (List Nat) × Int => iZ n_1 b_0 d.1 d.2) (([1] : List Nat), (0 : Int))).bind (fun e => some e)
def aDJ : PlR := ⟨[(0, .A [0, 1]), (1, .A [0, 1, 5]), (2, .A [0, 5, 7, 8]), (3, .A [0, 5, 7, 8, 9]), (4, .A [0, 5, 7, 8]), (5, .A [0, 5, 7, 8]), (6, .A [4])], []⟩
def aFk : Ty := .pair (.u .u64) (.pair (.i .i64) .unit)
noncomputable def jU : aK := mSpec aFk (.one (.sl (.u .u64))) (fun x => bB x.1 x.2.1)
noncomputable def aFl : List (FuncId × aK) := [(63, eH)]
theorem aNQ : bN Tryz.prog GL aFl := .cons qW (by kernel_rfl) (.nil)
theorem aH6 : gam aFl 63 = some eH := rfl
attribute [go_sem] aFk aDJ aH6
set_option maxHeartbeats 4000000 in
theorem aAu : FOK Tryz.prog GL 65 jU := by
 refine bR (bC aNQ) mix Tryz.func65 rfl (by kernel_rfl) (by decide) aDJ fun w0 S x Θ hw h hF => ?_
 obtain ⟨(b_0 : Nat), (n_1 : Int), u⟩ := x
 simp only [bV, go_sem]
 replace h : sat (bB b_0 n_1) _ := h
 unfold bB at h
 refine bW hF (D := (List Nat) × Int) [0, 7] (fun d => [(5, .val (.sl (.u .u64)) d.1), (8, .val (.i .i64) d.2)]) (fun d => []) h rfl (by simp only [go_sem]) ?_
 rintro ⟨m_7, x8_8⟩ A3 T3 hA3 hE3 h
 simp only [go_sem]
 replace h : sat (iZ n_1 b_0 m_7 x8_8) _ := h
 unfold iZ at h
 refine dA h (fun hc h => ?_) fun hc h => ?_
 ·refine aI h fun g0 h => ?_
  refine aI h fun g0 h => ?_
  replace h := hA3 _ (aC h)
  exact aQ _ h rfl (by simp only [go_sem])
 ·replace h := hE3 _ (aC h)
  try dsimp only at h
  exact aL hF [.tmp 4] rfl rfl rfl (aC h) (by simp only [aZ, go_sem])
attribute [go_sem] jU
noncomputable def gZ (s_0 : (List Nat)) (m_6 : (List Nat)) (x9_7 : Int) : Option (((List Nat) × Int) ⊕ (((List Nat)))) :=
 if x9_7 < (((s_0.length) : Nat) : Int) then ck (0 ≤ x9_7 ∧ x9_7 < (((s_0.length) : Nat) : Int)) (ck ((aF0 m_6 ([10] : List Nat))) (ck ((pSz ([(iO .u8 (s_0.getD (x9_7.toNat) (0 : Nat)) (48 : Nat))] : List Nat))) (ck ((aF0 (bA m_6 ([10] : List Nat)) (sB ([(iO .u8 (s_0.getD (x9_7.toNat) (0 : Nat)) (48 : Nat))] : List Nat)))) (ck (I64 (x9_7 + (1 : Int))) (some (.inl ((fF (bA m_6 ([10] : List Nat)) (sB ([(iO .u8 (s_0.getD (x9_7.toNat) (0 : Nat)) (48 : Nat))] : List Nat))), (x9_7 + (1 : Int))))))))) else some (.inr m_6)
noncomputable def dC (s_0 : (List Nat)) : Option (List Nat) :=
 (cE (fun d : (List Nat) × Int => gZ s_0 d.1 d.2) (([] : List Nat), (0 : Int))).bind (fun e => some e)
def aCq : PlR := ⟨[(0, .A [0]), (1, .A [0, 3]), (2, .A [3, 7, 8, 9]), (3, .A [3, 7, 8, 9, 10]), (4, .A [3, 5, 7, 8, 9]), (5, .A [3, 7, 8, 9]), (6, .A [3, 7, 8, 9]), (7, .A [2])], []⟩
def aDK : Ty := .pair .str .unit
noncomputable def mQ : aK := mSpec aDK (.one (.sl (.u .u64))) (fun x => dC x.1)
noncomputable def uR : List (FuncId × aK) := [(63, eH), (71, lP), (85, xB)]
theorem aMa : bN Tryz.prog GL uR := .cons qW (by kernel_rfl) (.cons aBq (by kernel_rfl) (.cons aNE (by kernel_rfl) (.nil)))
theorem aGl : gam uR 63 = some eH := rfl
theorem aGm : gam uR 71 = some lP := rfl
theorem aGn : gam uR 85 = some xB := rfl
attribute [go_sem] aDK aCq aGl aGm aGn
set_option maxHeartbeats 4000000 in
theorem aCr : FOK Tryz.prog GL 64 mQ := by
 refine bR (bC aMa) mix Tryz.func64 rfl (by kernel_rfl) (by decide) aCq fun w0 S x Θ hw h hF => ?_
 obtain ⟨(s_0 : (List Nat)), u⟩ := x
 simp only [bV, go_sem]
 replace h : sat (dC s_0) _ := h
 unfold dC at h
 refine bW hF (D := (List Nat) × Int) [7, 8] (fun d => [(3, .val (.sl (.u .u64)) d.1), (9, .val (.i .i64) d.2)]) (fun d => []) h rfl (by simp only [go_sem]) ?_
 rintro ⟨m_6, x9_7⟩ A3 T3 hA3 hE3 h
 simp only [go_sem]
 replace h : sat (gZ s_0 m_6 x9_7) _ := h
 unfold gZ at h
 refine dA h (fun hc h => ?_) fun hc h => ?_
 ·obtain ⟨g0, h⟩ := aH h
  repeat (refine ⟨by omega, ?_⟩)
  obtain ⟨g0, h⟩ := aH h
  obtain ⟨g1, h⟩ := aH h
  obtain ⟨g2, h⟩ := aH h
  repeat (refine ⟨by omega, ?_⟩)
  obtain ⟨g0, h⟩ := aH h
  repeat (refine ⟨by omega, ?_⟩)
  replace h := hA3 _ (aC h)
  exact aQ _ h rfl (by simp only [go_sem])
 ·replace h := hE3 _ (aC h)
  try dsimp only at h
  exact aL hF [.tmp 2] rfl rfl rfl (aC h) (by simp only [aZ, go_sem])
attribute [go_sem] mQ
noncomputable def fS (all_3 : (List Nat)) (s_0 : (List Nat)) (at_7 : Int) (pow_8 : Int) : Option (((List Nat) × (Int × (Bool × Unit)))) :=
 some (all_3, pow_8, (decide (at_7 = (((s_0.length) : Nat) : Int))), ())
noncomputable def fT (pow_4 : Int) (at_9 : Int) (s_0 : (List Nat)) (all_3 : (List Nat)) (x_10 : Int) : Option (((List Nat) × (Int × (Bool × Unit)))) :=
 ck (I64 (pow_4 + x_10)) (ck (I64 (at_9 + ((aD s_0 at_9).getD (0 : Int)))) (fS all_3 s_0 (at_9 + ((aD s_0 at_9).getD (0 : Int))) (pow_4 + x_10)))
noncomputable def fU (s_0 : (List Nat)) (at_2 : Int) (pow_4 : Int) (all_3 : (List Nat)) (at_9 : Int) : Option (((List Nat) × (Int × (Bool × Unit)))) :=
 ck (((aD s_0 at_9).isSome = true)) (if (((aD s_0 at_9).getD (0 : Int)) < (1 : Int)) ∨ ((3 : Int) < ((aD s_0 at_9).getD (0 : Int))) then some ((aO ⟨#[]⟩), (0 : Int), false, ()) else ck (I64 (at_9 + ((aD s_0 at_9).getD (0 : Int)))) (ck (0 ≤ at_9 ∧ at_9 ≤ (at_9 + ((aD s_0 at_9).getD (0 : Int))) ∧ (at_9 + ((aD s_0 at_9).getD (0 : Int))) ≤ (((s_0.length) : Nat) : Int)) (ck (((dD (List.drop (at_9.toNat) (List.take ((at_9 + ((aD s_0 at_9).getD (0 : Int))).toNat) s_0))).isSome = true)) (if (100 : Int) < (((dD (List.drop (at_9.toNat) (List.take ((at_9 + ((aD s_0 at_9).getD (0 : Int))).toNat) s_0))).getD ((0 : Int), (), ())).1) then some ((aO ⟨#[]⟩), (0 : Int), false, ()) else if ((at_2 + (1 : Int)) < (((s_0.length) : Nat) : Int)) ∧ ((s_0.getD ((at_2 + (1 : Int)).toNat) (0 : Nat)) = (45 : Nat)) then ck (I64 (0 - (((dD (List.drop (at_9.toNat) (List.take ((at_9 + ((aD s_0 at_9).getD (0 : Int))).toNat) s_0))).getD ((0 : Int), (), ())).1))) (fT pow_4 at_9 s_0 all_3 (0 - (((dD (List.drop (at_9.toNat) (List.take ((at_9 + ((aD s_0 at_9).getD (0 : Int))).toNat) s_0))).getD ((0 : Int), (), ())).1))) else fT pow_4 at_9 s_0 all_3 (((dD (List.drop (at_9.toNat) (List.take ((at_9 + ((aD s_0 at_9).getD (0 : Int))).toNat) s_0))).getD ((0 : Int), (), ())).1)))))
noncomputable def fV (s_0 : (List Nat)) (at_2 : Int) (all_3 : (List Nat)) (pow_4 : Int) : Option (((List Nat) × (Int × (Bool × Unit)))) :=
 ck (((at_2 < (((s_0.length) : Nat) : Int)) → (0 ≤ at_2 ∧ at_2 < (((s_0.length) : Nat) : Int)))) (if (at_2 < (((s_0.length) : Nat) : Int)) ∧ ((s_0.getD (at_2.toNat) (0 : Nat)) = (101 : Nat)) then ck (I64 (at_2 + (1 : Int))) (ck ((((at_2 + (1 : Int)) < (((s_0.length) : Nat) : Int)) → (0 ≤ (at_2 + (1 : Int)) ∧ (at_2 + (1 : Int)) < (((s_0.length) : Nat) : Int)))) (ck ((¬ (((at_2 + (1 : Int)) < (((s_0.length) : Nat) : Int)) ∧ ((s_0.getD ((at_2 + (1 : Int)).toNat) (0 : Nat)) = (45 : Nat))) → ((at_2 + (1 : Int)) < (((s_0.length) : Nat) : Int)) → (0 ≤ (at_2 + (1 : Int)) ∧ (at_2 + (1 : Int)) < (((s_0.length) : Nat) : Int)))) (if (((at_2 + (1 : Int)) < (((s_0.length) : Nat) : Int)) ∧ ((s_0.getD ((at_2 + (1 : Int)).toNat) (0 : Nat)) = (45 : Nat))) ∨ (((at_2 + (1 : Int)) < (((s_0.length) : Nat) : Int)) ∧ ((s_0.getD ((at_2 + (1 : Int)).toNat) (0 : Nat)) = (43 : Nat))) then ck (I64 ((at_2 + (1 : Int)) + (1 : Int))) (fU s_0 at_2 pow_4 all_3 ((at_2 + (1 : Int)) + (1 : Int))) else fU s_0 at_2 pow_4 all_3 (at_2 + (1 : Int))))) else fS all_3 s_0 at_2 pow_4)
noncomputable def aR (s_0 : (List Nat)) : Option ((List Nat) × (Int × (Bool × Unit))) :=
 ck (((aD s_0 (0 : Int)).isSome = true)) (ck (0 ≤ ((aD s_0 (0 : Int)).getD (0 : Int)) ∧ ((aD s_0 (0 : Int)).getD (0 : Int)) ≤ (((s_0.length) : Nat) : Int)) (if ((60 : Int) < (((s_0.length) : Nat) : Int)) ∨ (((aD s_0 (0 : Int)).getD (0 : Int)) = (0 : Int)) then some ((aO ⟨#[]⟩), (0 : Int), false, ()) else ck (((((aD s_0 (0 : Int)).getD (0 : Int)) < (((s_0.length) : Nat) : Int)) → (0 ≤ ((aD s_0 (0 : Int)).getD (0 : Int)) ∧ ((aD s_0 (0 : Int)).getD (0 : Int)) < (((s_0.length) : Nat) : Int)))) (if (((aD s_0 (0 : Int)).getD (0 : Int)) < (((s_0.length) : Nat) : Int)) ∧ ((s_0.getD (((aD s_0 (0 : Int)).getD (0 : Int)).toNat) (0 : Nat)) = (46 : Nat)) then ck (I64 (((aD s_0 (0 : Int)).getD (0 : Int)) + (1 : Int))) (ck (((aD s_0 (((aD s_0 (0 : Int)).getD (0 : Int)) + (1 : Int))).isSome = true)) (if ((aD s_0 (((aD s_0 (0 : Int)).getD (0 : Int)) + (1 : Int))).getD (0 : Int)) = (0 : Int) then some ((aO ⟨#[]⟩), (0 : Int), false, ()) else ck (I64 (((aD s_0 (0 : Int)).getD (0 : Int)) + (1 : Int))) (ck (I64 (((aD s_0 (0 : Int)).getD (0 : Int)) + (1 : Int))) (ck (I64 ((((aD s_0 (0 : Int)).getD (0 : Int)) + (1 : Int)) + ((aD s_0 (((aD s_0 (0 : Int)).getD (0 : Int)) + (1 : Int))).getD (0 : Int)))) (ck (0 ≤ (((aD s_0 (0 : Int)).getD (0 : Int)) + (1 : Int)) ∧ (((aD s_0 (0 : Int)).getD (0 : Int)) + (1 : Int)) ≤ ((((aD s_0 (0 : Int)).getD (0 : Int)) + (1 : Int)) + ((aD s_0 (((aD s_0 (0 : Int)).getD (0 : Int)) + (1 : Int))).getD (0 : Int))) ∧ ((((aD s_0 (0 : Int)).getD (0 : Int)) + (1 : Int)) + ((aD s_0 (((aD s_0 (0 : Int)).getD (0 : Int)) + (1 : Int))).getD (0 : Int))) ≤ (((s_0.length) : Nat) : Int)) (ck (((List.take (((aD s_0 (0 : Int)).getD (0 : Int)).toNat) s_0).length) + ((List.drop ((((aD s_0 (0 : Int)).getD (0 : Int)) + (1 : Int)).toNat) (List.take (((((aD s_0 (0 : Int)).getD (0 : Int)) + (1 : Int)) + ((aD s_0 (((aD s_0 (0 : Int)).getD (0 : Int)) + (1 : Int))).getD (0 : Int))).toNat) s_0)).length) ≤ 9223372036854775807) (ck (I64 (0 - ((aD s_0 (((aD s_0 (0 : Int)).getD (0 : Int)) + (1 : Int))).getD (0 : Int)))) (ck (I64 (((aD s_0 (0 : Int)).getD (0 : Int)) + (1 : Int))) (ck (I64 ((((aD s_0 (0 : Int)).getD (0 : Int)) + (1 : Int)) + ((aD s_0 (((aD s_0 (0 : Int)).getD (0 : Int)) + (1 : Int))).getD (0 : Int)))) (fV s_0 ((((aD s_0 (0 : Int)).getD (0 : Int)) + (1 : Int)) + ((aD s_0 (((aD s_0 (0 : Int)).getD (0 : Int)) + (1 : Int))).getD (0 : Int))) ((List.take (((aD s_0 (0 : Int)).getD (0 : Int)).toNat) s_0) ++ (List.drop ((((aD s_0 (0 : Int)).getD (0 : Int)) + (1 : Int)).toNat) (List.take (((((aD s_0 (0 : Int)).getD (0 : Int)) + (1 : Int)) + ((aD s_0 (((aD s_0 (0 : Int)).getD (0 : Int)) + (1 : Int))).getD (0 : Int))).toNat) s_0))) (0 - ((aD s_0 (((aD s_0 (0 : Int)).getD (0 : Int)) + (1 : Int))).getD (0 : Int))))))))))))) else fV s_0 ((aD s_0 (0 : Int)).getD (0 : Int)) (List.take (((aD s_0 (0 : Int)).getD (0 : Int)).toNat) s_0) (0 : Int))))
def aBB : PlR := ⟨[(0, .A [0]), (1, .A [0, 5]), (2, .A [0, 5, 6, 7]), (3, .A [0, 5, 6, 7, 24]), (4, .A [2, 3, 4]), (5, .A [0, 5, 6, 7, 34]), (6, .A [0, 5, 6, 8]), (7, .A [0, 5, 6, 8, 40]), (8, .A [2, 3, 4]), (9, .A [0, 5, 6, 7]), (10, .A [0, 5, 6, 7, 66]), (11, .A [0, 5, 6, 7]), (12, .A [0, 5, 6, 7, 9]), (13, .A [0, 5, 6, 7, 9, 91]), (14, .A [0, 5, 6, 7, 9]), (15, .A [0, 5, 6, 7, 9, 10]), (16, .A [0, 5, 6, 7, 9, 10, 102]), (17, .A [2, 3, 4]), (18, .A [0, 5, 6, 7, 9, 10, 11]), (19, .A [0, 5, 6, 7, 9, 10, 11, 114]), (20, .A [2, 3, 4]), (21, .A [0, 5, 6, 7, 10, 11, 115]), (22, .A [0, 5, 6, 7, 10, 11]), (23, .A [0, 5, 6, 7]), (24, .A [2, 3, 4])], [(8, 13), (13, 27), (16, 18), (24, 26)]⟩
def aCs : Ty := .pair .str .unit
noncomputable def gH : aK := mSpec aCs (.tup (.pair .str (.pair (.i .i64) (.pair .bool .unit)))) (fun x => aR x.1)
noncomputable def yD : List (FuncId × aK) := [(117, sP), (118, oY)]
theorem aJX : bN Tryz.prog GL yD := .cons aJW (by kernel_rfl) (.cons aGk (by kernel_rfl) (.nil))
theorem aDL : gam yD 117 = some sP := rfl
theorem aDM : gam yD 118 = some oY := rfl
attribute [go_sem] aCs aBB aDL aDM
set_option maxHeartbeats 4000000 in
theorem wI : FOK Tryz.prog GL 61 gH := by
 refine bR (bC aJX) mix Tryz.func61 rfl (by kernel_rfl) (by decide) aBB fun w0 S x Θ hw h hF => ?_
 obtain ⟨(s_0 : (List Nat)), u⟩ := x
 simp only [bV, go_sem]
 replace h : sat (aR s_0) _ := h
 unfold aR at h
 obtain ⟨g0, h⟩ := aH h
 repeat (refine ⟨by omega, ?_⟩)
 obtain ⟨g0, h⟩ := aH h
 repeat (refine ⟨by omega, ?_⟩)
 refine ⟨fun hc => ?_, fun hc => ?_⟩
 ·replace h := fB hc h
  exact aL hF [.tmp 2, .tmp 3, .tmp 4] rfl rfl rfl (aC h) (by simp only [aZ, go_sem])
 ·replace h := fC hc h
  refine cB hF (D := Int × (List Nat) × Int) (fun d => sat (fV s_0 d.1 d.2.1 d.2.2) Θ) [0] (fun d => [(5, .val (.i .i64) d.1), (6, .val .str d.2.1), (7, .val (.i .i64) d.2.2)]) (fun d => []) ?_ ?_
  ·simp only [go_sem]
   obtain ⟨g0, h⟩ := aH h
   repeat (refine ⟨by omega, ?_⟩)
   refine ⟨fun hc => ?_, fun hc => ?_⟩
   ·replace h := fB hc h
    obtain ⟨g0, h⟩ := aH h
    obtain ⟨g1, h⟩ := aH h
    repeat (refine ⟨by omega, ?_⟩)
    refine cZ h (fun hc h => ?_) fun hc h => ?_
    ·exact aL hF [.tmp 2, .tmp 3, .tmp 4] rfl rfl rfl (aC h) (by simp only [aZ, go_sem])
    ·obtain ⟨g0, h⟩ := aH h
     obtain ⟨g1, h⟩ := aH h
     obtain ⟨g2, h⟩ := aH h
     obtain ⟨g3, h⟩ := aH h
     obtain ⟨g4, h⟩ := aH h
     obtain ⟨g5, h⟩ := aH h
     obtain ⟨g6, h⟩ := aH h
     obtain ⟨g7, h⟩ := aH h
     repeat (refine ⟨by omega, ?_⟩)
     exact aQ ((((((aD s_0 (0 : Int)).getD (0 : Int)) + (1 : Int)) + ((aD s_0 (((aD s_0 (0 : Int)).getD (0 : Int)) + (1 : Int))).getD (0 : Int))), ((List.take (((aD s_0 (0 : Int)).getD (0 : Int)).toNat) s_0) ++ (List.drop ((((aD s_0 (0 : Int)).getD (0 : Int)) + (1 : Int)).toNat) (List.take (((((aD s_0 (0 : Int)).getD (0 : Int)) + (1 : Int)) + ((aD s_0 (((aD s_0 (0 : Int)).getD (0 : Int)) + (1 : Int))).getD (0 : Int))).toNat) s_0))), (0 - ((aD s_0 (((aD s_0 (0 : Int)).getD (0 : Int)) + (1 : Int))).getD (0 : Int))))) h rfl (by simp only [go_sem])
   ·replace h := fC hc h
    exact aQ ((((aD s_0 (0 : Int)).getD (0 : Int)), (List.take (((aD s_0 (0 : Int)).getD (0 : Int)).toNat) s_0), (0 : Int))) h rfl (by simp only [go_sem])
  ·rintro ⟨at_2, all_3, pow_4⟩ h
   simp only [go_sem]
   replace h : sat (fV s_0 at_2 all_3 pow_4) _ := h
   unfold fV at h
   refine cB hF (D := Int × Int) (fun d => sat (fS all_3 s_0 d.1 d.2) Θ) [0, 6] (fun d => [(5, .val (.i .i64) d.1), (7, .val (.i .i64) d.2)]) (fun d => []) ?_ ?_
   ·simp only [go_sem]
    obtain ⟨g0, h⟩ := aH h
    repeat (refine ⟨by omega, ?_⟩)
    refine ⟨fun hc => ?_, fun hc => ?_⟩
    ·replace h := fB hc h
     obtain ⟨g0, h⟩ := aH h
     repeat (refine ⟨by omega, ?_⟩)
     obtain ⟨g0, h⟩ := aH h
     repeat (refine ⟨by omega, ?_⟩)
     refine cB hF (D := Int) (fun d => sat (fU s_0 at_2 pow_4 all_3 d) Θ) [0, 6, 7, 9] (fun d => [(5, .val (.i .i64) d)]) (fun d => []) ?_ ?_
     ·simp only [go_sem]
      obtain ⟨g0, h⟩ := aH h
      repeat (refine ⟨by omega, ?_⟩)
      refine ⟨fun hc => ?_, fun hc => ?_⟩
      ·replace h := fB hc h
       obtain ⟨g0, h⟩ := aH h
       repeat (refine ⟨by omega, ?_⟩)
       exact aQ (((at_2 + (1 : Int)) + (1 : Int))) h rfl (by simp only [go_sem])
      ·replace h := fC hc h
       exact aQ ((at_2 + (1 : Int))) h rfl (by simp only [go_sem])
     ·rintro at_9 h
      simp only [go_sem]
      replace h : sat (fU s_0 at_2 pow_4 all_3 at_9) _ := h
      unfold fU at h
      obtain ⟨g0, h⟩ := aH h
      repeat (refine ⟨by omega, ?_⟩)
      refine ⟨fun hc => ?_, fun hc => ?_⟩
      ·replace h := fB hc h
       exact aL hF [.tmp 2, .tmp 3, .tmp 4] rfl rfl rfl (aC h) (by simp only [aZ, go_sem])
      ·replace h := fC hc h
       obtain ⟨g0, h⟩ := aH h
       obtain ⟨g1, h⟩ := aH h
       obtain ⟨g2, h⟩ := aH h
       repeat (refine ⟨by omega, ?_⟩)
       refine dA h (fun hc h => ?_) fun hc h => ?_
       ·exact aL hF [.tmp 2, .tmp 3, .tmp 4] rfl rfl rfl (aC h) (by simp only [aZ, go_sem])
       ·refine cB hF (D := Int) (fun d => sat (fT pow_4 at_9 s_0 all_3 d) Θ) [0, 5, 6, 7, 10] (fun d => [(11, .val (.i .i64) d)]) (fun d => []) ?_ ?_
        ·simp only [go_sem]
         refine ⟨fun hc => ?_, fun hc => ?_⟩
         ·replace h := fB hc h
          obtain ⟨g0, h⟩ := aH h
          repeat (refine ⟨by omega, ?_⟩)
          exact aQ ((0 - (((dD (List.drop (at_9.toNat) (List.take ((at_9 + ((aD s_0 at_9).getD (0 : Int))).toNat) s_0))).getD ((0 : Int), (), ())).1))) h rfl (by simp only [go_sem])
         ·replace h := fC hc h
          exact aQ ((((dD (List.drop (at_9.toNat) (List.take ((at_9 + ((aD s_0 at_9).getD (0 : Int))).toNat) s_0))).getD ((0 : Int), (), ())).1)) h rfl (by simp only [go_sem])
        ·rintro x_10 h
         simp only [go_sem]
         replace h : sat (fT pow_4 at_9 s_0 all_3 x_10) _ := h
         unfold fT at h
         obtain ⟨g0, h⟩ := aH h
         obtain ⟨g1, h⟩ := aH h
         repeat (refine ⟨by omega, ?_⟩)
         exact aQ (((at_9 + ((aD s_0 at_9).getD (0 : Int))), (pow_4 + x_10))) h rfl (by simp only [go_sem])
    ·replace h := fC hc h
     exact aQ ((at_2, pow_4)) h rfl (by simp only [go_sem])
   ·rintro ⟨at_7, pow_8⟩ h
    simp only [go_sem]
    replace h : sat (fS all_3 s_0 at_7 pow_8) _ := h
    unfold fS at h
    exact aL hF [.tmp 2, .tmp 3, .tmp 4] rfl rfl rfl (aC h) (by simp only [aZ, go_sem])
attribute [go_sem] gH
noncomputable def bT (s_0 : (List Nat)) : Option Bool :=
 ck (((aR s_0).isSome = true)) (some (((((aR s_0).getD (([] : List Nat), (0 : Int), false, ())).2).2).1))
def aFm : PlR := ⟨[(0, .A [0]), (1, .A [5]), (2, .A [2])], []⟩
def aH7 : Ty := .pair .str .unit
noncomputable def xI : aK := mSpec aH7 (.one .bool) (fun x => bT x.1)
noncomputable def aH8 : List (FuncId × aK) := [(61, gH)]
theorem aO4 : bN Tryz.prog GL aH8 := .cons wI (by kernel_rfl) (.nil)
theorem aJY : gam aH8 61 = some gH := rfl
attribute [go_sem] aH7 aFm aJY
set_option maxHeartbeats 4000000 in
theorem aNR : FOK Tryz.prog GL 23 xI := by
 refine bR (bC aO4) mix Tryz.func23 rfl (by kernel_rfl) (by decide) aFm fun w0 S x Θ hw h hF => ?_
 obtain ⟨(s_0 : (List Nat)), u⟩ := x
 simp only [bV, go_sem]
 replace h : sat (bT s_0) _ := h
 unfold bT at h
 refine aI h fun g0 h => ?_
 exact aL hF [.tmp 2] rfl rfl rfl (aC h) (by simp only [aZ, go_sem])
attribute [go_sem] xI
noncomputable def bX (s_0 : (List Nat)) : Option ((List Nat) × ((List Nat) × (Bool × Unit))) :=
 ck (((aR s_0).isSome = true)) (if ¬ ((((((aR s_0).getD (([] : List Nat), (0 : Int), false, ())).2).2).1) = true) then some (([] : List Nat), ([] : List Nat), false, ()) else ck (((dC (((aR s_0).getD (([] : List Nat), (0 : Int), false, ())).1)).isSome = true)) (ck (((bB (10 : Nat) (max ((((aR s_0).getD (([] : List Nat), (0 : Int), false, ())).2).1) (0 : Int))).isSome = true)) (ck ((aF0 ((dC (((aR s_0).getD (([] : List Nat), (0 : Int), false, ())).1)).getD ([] : List Nat)) ((bB (10 : Nat) (max ((((aR s_0).getD (([] : List Nat), (0 : Int), false, ())).2).1) (0 : Int))).getD ([] : List Nat)))) (ck (I64 (0 - ((((aR s_0).getD (([] : List Nat), (0 : Int), false, ())).2).1))) (ck (((bB (10 : Nat) (max (0 - ((((aR s_0).getD (([] : List Nat), (0 : Int), false, ())).2).1)) (0 : Int))).isSome = true)) (some ((bA ((dC (((aR s_0).getD (([] : List Nat), (0 : Int), false, ())).1)).getD ([] : List Nat)) ((bB (10 : Nat) (max ((((aR s_0).getD (([] : List Nat), (0 : Int), false, ())).2).1) (0 : Int))).getD ([] : List Nat))), ((bB (10 : Nat) (max (0 - ((((aR s_0).getD (([] : List Nat), (0 : Int), false, ())).2).1)) (0 : Int))).getD ([] : List Nat)), true, ())))))))
def aDN : PlR := ⟨[(0, .A [0]), (1, .A [5, 6, 7]), (2, .A [5, 6, 15]), (3, .A [2, 3, 4]), (4, .A [2, 3, 4])], []⟩
def aFn : Ty := .pair .str .unit
noncomputable def uS : aK := mSpec aFn (.tup (.pair (.sl (.u .u64)) (.pair (.sl (.u .u64)) (.pair .bool .unit)))) (fun x => bX x.1)
noncomputable def tF : List (FuncId × aK) := [(61, gH), (63, eH), (64, mQ), (65, jU)]
theorem aNS : bN Tryz.prog GL tF := .cons wI (by kernel_rfl) (.cons qW (by kernel_rfl) (.cons aCr (by kernel_rfl) (.cons aAu (by kernel_rfl) (.nil))))
theorem aH9 : gam tF 61 = some gH := rfl
theorem aIa : gam tF 63 = some eH := rfl
theorem aIb : gam tF 64 = some mQ := rfl
theorem aIc : gam tF 65 = some jU := rfl
attribute [go_sem] aFn aDN aH9 aIa aIb aIc
set_option maxHeartbeats 4000000 in
theorem aMb : FOK Tryz.prog GL 53 uS := by
 refine bR (bC aNS) mix Tryz.func53 rfl (by kernel_rfl) (by decide) aDN fun w0 S x Θ hw h hF => ?_
 obtain ⟨(s_0 : (List Nat)), u⟩ := x
 simp only [bV, go_sem]
 replace h : sat (bX s_0) _ := h
 unfold bX at h
 refine aI h fun g0 h => ?_
 refine aOI h (fun hc h => ?_) fun hc h => ?_
 ·exact aL hF [.tmp 2, .tmp 3, .tmp 4] rfl rfl rfl (aC h) (by simp only [aZ, go_sem])
 ·refine aI h fun g0 h => aI h fun g1 h => aI h fun g2 h => aI h fun g3 h => aI h fun g4 h => ?_
  exact aL hF [.tmp 2, .tmp 3, .tmp 4] rfl rfl rfl (aC h) (by simp only [aZ, go_sem])
attribute [go_sem] uS
noncomputable def cC (s_0 : (List Nat)) (p_1 : Int) : Option (((Bool × ((List Nat) × (Int × Unit))) × ((Bool × ((List Nat) × (Int × Unit))) × Unit)) × (Int × Unit)) :=
 ck (((bX s_0).isSome = true)) (if ¬ ((((((bX s_0).getD (([] : List Nat), ([] : List Nat), false, ())).2).2).1) = true) then some (((false, ([] : List Nat), (0 : Int), ()), (false, ([] : List Nat), (0 : Int), ()), ()), (6 : Int), ()) else if (p_1 < (1 : Int)) ∨ ((2000 : Int) < p_1) then some (((false, ([] : List Nat), (0 : Int), ()), (false, ([] : List Nat), (0 : Int), ()), ()), (1 : Int), ()) else ck (((bL false (((bX s_0).getD (([] : List Nat), ([] : List Nat), false, ())).1) (0 : Int)).isSome = true)) (ck (((bL false ((((bX s_0).getD (([] : List Nat), ([] : List Nat), false, ())).2).1) (0 : Int)).isSome = true)) (ck (((dV (((bL false (((bX s_0).getD (([] : List Nat), ([] : List Nat), false, ())).1) (0 : Int)).getD ((false, ([] : List Nat), (0 : Int), ()), (0 : Int), ())).1) (((bL false ((((bX s_0).getD (([] : List Nat), ([] : List Nat), false, ())).2).1) (0 : Int)).getD ((false, ([] : List Nat), (0 : Int), ()), (0 : Int), ())).1) p_1 false).isSome = true)) (ck (((dV (((bL false (((bX s_0).getD (([] : List Nat), ([] : List Nat), false, ())).1) (0 : Int)).getD ((false, ([] : List Nat), (0 : Int), ()), (0 : Int), ())).1) (((bL false ((((bX s_0).getD (([] : List Nat), ([] : List Nat), false, ())).2).1) (0 : Int)).getD ((false, ([] : List Nat), (0 : Int), ()), (0 : Int), ())).1) p_1 true).isSome = true)) (if (¬ (((((dV (((bL false (((bX s_0).getD (([] : List Nat), ([] : List Nat), false, ())).1) (0 : Int)).getD ((false, ([] : List Nat), (0 : Int), ()), (0 : Int), ())).1) (((bL false ((((bX s_0).getD (([] : List Nat), ([] : List Nat), false, ())).2).1) (0 : Int)).getD ((false, ([] : List Nat), (0 : Int), ()), (0 : Int), ())).1) p_1 false).getD ((false, ([] : List Nat), (0 : Int), ()), (0 : Int), ())).2).1) = (0 : Int))) ∨ (¬ (((((dV (((bL false (((bX s_0).getD (([] : List Nat), ([] : List Nat), false, ())).1) (0 : Int)).getD ((false, ([] : List Nat), (0 : Int), ()), (0 : Int), ())).1) (((bL false ((((bX s_0).getD (([] : List Nat), ([] : List Nat), false, ())).2).1) (0 : Int)).getD ((false, ([] : List Nat), (0 : Int), ()), (0 : Int), ())).1) p_1 true).getD ((false, ([] : List Nat), (0 : Int), ()), (0 : Int), ())).2).1) = (0 : Int))) then some (((false, ([] : List Nat), (0 : Int), ()), (false, ([] : List Nat), (0 : Int), ()), ()), (max ((((dV (((bL false (((bX s_0).getD (([] : List Nat), ([] : List Nat), false, ())).1) (0 : Int)).getD ((false, ([] : List Nat), (0 : Int), ()), (0 : Int), ())).1) (((bL false ((((bX s_0).getD (([] : List Nat), ([] : List Nat), false, ())).2).1) (0 : Int)).getD ((false, ([] : List Nat), (0 : Int), ()), (0 : Int), ())).1) p_1 false).getD ((false, ([] : List Nat), (0 : Int), ()), (0 : Int), ())).2).1) ((((dV (((bL false (((bX s_0).getD (([] : List Nat), ([] : List Nat), false, ())).1) (0 : Int)).getD ((false, ([] : List Nat), (0 : Int), ()), (0 : Int), ())).1) (((bL false ((((bX s_0).getD (([] : List Nat), ([] : List Nat), false, ())).2).1) (0 : Int)).getD ((false, ([] : List Nat), (0 : Int), ()), (0 : Int), ())).1) p_1 true).getD ((false, ([] : List Nat), (0 : Int), ()), (0 : Int), ())).2).1)), ()) else some (((((dV (((bL false (((bX s_0).getD (([] : List Nat), ([] : List Nat), false, ())).1) (0 : Int)).getD ((false, ([] : List Nat), (0 : Int), ()), (0 : Int), ())).1) (((bL false ((((bX s_0).getD (([] : List Nat), ([] : List Nat), false, ())).2).1) (0 : Int)).getD ((false, ([] : List Nat), (0 : Int), ()), (0 : Int), ())).1) p_1 false).getD ((false, ([] : List Nat), (0 : Int), ()), (0 : Int), ())).1), (((dV (((bL false (((bX s_0).getD (([] : List Nat), ([] : List Nat), false, ())).1) (0 : Int)).getD ((false, ([] : List Nat), (0 : Int), ()), (0 : Int), ())).1) (((bL false ((((bX s_0).getD (([] : List Nat), ([] : List Nat), false, ())).2).1) (0 : Int)).getD ((false, ([] : List Nat), (0 : Int), ()), (0 : Int), ())).1) p_1 true).getD ((false, ([] : List Nat), (0 : Int), ()), (0 : Int), ())).1), ()), (0 : Int), ()))))))
def aId : PlR := ⟨[(0, .B [0, 1, 4]), (1, .A [1, 4, 6, 7, 8]), (2, .A [1, 4, 6, 7, 23]), (3, .B [4, 5]), (4, .A [1, 4, 6, 7, 27]), (5, .B [4, 5]), (6, .B [1, 4, 7, 9]), (7, .B [1, 4, 9, 11]), (8, .B [1, 4, 9, 11, 13, 14]), (9, .B [4, 13, 14, 15, 16]), (10, .A [4, 13, 14, 15, 16, 64]), (11, .B [4, 5]), (12, .B [4, 5])], []⟩
def aKY : Ty := .pair .str (.pair (.i .i64) .unit)
noncomputable def aAv : aK := mSpec aKY (.tup (.pair (.pair (.pair .bool (.pair (.sl (.u .u64)) (.pair (.i .i64) .unit))) (.pair (.pair .bool (.pair (.sl (.u .u64)) (.pair (.i .i64) .unit))) .unit)) (.pair (.i .i64) .unit))) (fun x => cC x.1 x.2.1)
noncomputable def aB0 : List (FuncId × aK) := [(53, uS), (54, lQ), (55, sO)]
theorem aRx : bN Tryz.prog GL aB0 := .cons aMb (by kernel_rfl) (.cons aBv (by kernel_rfl) (.cons aJV (by kernel_rfl) (.nil)))
theorem aMc : gam aB0 53 = some uS := rfl
theorem aMd : gam aB0 54 = some lQ := rfl
theorem aMe : gam aB0 55 = some sO := rfl
attribute [go_sem] aKY aId aMc aMd aMe
set_option maxHeartbeats 4000000 in
theorem aO5 : FOK Tryz.prog GL 19 aAv := by
 refine bR (bC aRx) mix Tryz.func19 rfl (by kernel_rfl) (by decide) aId fun w0 S x Θ hw h hF => ?_
 obtain ⟨(s_0 : (List Nat)), (p_1 : Int), u⟩ := x
 simp only [bV, go_sem]
 replace h : sat (cC s_0 p_1) _ := h
 unfold cC at h
 refine aI h fun g0 h => ?_
 refine aOI h (fun hc h => ?_) fun hc h => ?_
 ·exact aL hF [.cell 4 27, .tmp 5] rfl rfl rfl (aC h) (by simp only [aZ, go_sem])
 ·refine ⟨fun hc => ?_, fun hc => ?_⟩
  ·replace h := fB hc h
   exact aL hF [.cell 4 27, .tmp 5] rfl rfl rfl (aC h) (by simp only [aZ, go_sem])
  ·replace h := fC hc h
   refine aI h fun g0 h => ?_
   refine aI h fun g0 h => ?_
   refine aI h fun g0 h => ?_
   refine aI h fun g0 h => ?_
   refine ⟨fun hc => ?_, fun hc => ?_⟩
   ·replace h := fB hc h
    exact aL hF [.cell 4 27, .tmp 5] rfl rfl rfl (aC h) (by simp only [aZ, go_sem])
   ·replace h := fC hc h
    exact aL hF [.cell 4 27, .tmp 5] rfl rfl rfl (aC h) (by simp only [aZ, go_sem])
attribute [go_sem] aAv
noncomputable def bE (s_0 : (List Nat)) : Option ((Bool × ((List Nat) × (Int × Unit))) × (Int × Unit)) :=
 ck (((aR s_0).isSome = true)) (if ¬ ((((((aR s_0).getD (([] : List Nat), (0 : Int), false, ())).2).2).1) = true) then some ((false, ([] : List Nat), (0 : Int), ()), (6 : Int), ()) else ck (((dC (((aR s_0).getD (([] : List Nat), (0 : Int), false, ())).1)).isSome = true)) (ck (((bB (5 : Nat) (max ((((aR s_0).getD (([] : List Nat), (0 : Int), false, ())).2).1) (0 : Int))).isSome = true)) (ck ((aF0 ((dC (((aR s_0).getD (([] : List Nat), (0 : Int), false, ())).1)).getD ([] : List Nat)) ((bB (5 : Nat) (max ((((aR s_0).getD (([] : List Nat), (0 : Int), false, ())).2).1) (0 : Int))).getD ([] : List Nat)))) (ck (I64 (0 - ((((aR s_0).getD (([] : List Nat), (0 : Int), false, ())).2).1))) (ck (((bB (5 : Nat) (max (0 - ((((aR s_0).getD (([] : List Nat), (0 : Int), false, ())).2).1)) (0 : Int))).isSome = true)) (ck ((oC (bA ((dC (((aR s_0).getD (([] : List Nat), (0 : Int), false, ())).1)).getD ([] : List Nat)) ((bB (5 : Nat) (max ((((aR s_0).getD (([] : List Nat), (0 : Int), false, ())).2).1) (0 : Int))).getD ([] : List Nat))) ((bB (5 : Nat) (max (0 - ((((aR s_0).getD (([] : List Nat), (0 : Int), false, ())).2).1)) (0 : Int))).getD ([] : List Nat)))) (ck (((bL false ((bD (bA ((dC (((aR s_0).getD (([] : List Nat), (0 : Int), false, ())).1)).getD ([] : List Nat)) ((bB (5 : Nat) (max ((((aR s_0).getD (([] : List Nat), (0 : Int), false, ())).2).1) (0 : Int))).getD ([] : List Nat))) ((bB (5 : Nat) (max (0 - ((((aR s_0).getD (([] : List Nat), (0 : Int), false, ())).2).1)) (0 : Int))).getD ([] : List Nat))).1) ((((aR s_0).getD (([] : List Nat), (0 : Int), false, ())).2).1)).isSome = true)) (if ((0 : Int) < ((((((bD (bA ((dC (((aR s_0).getD (([] : List Nat), (0 : Int), false, ())).1)).getD ([] : List Nat)) ((bB (5 : Nat) (max ((((aR s_0).getD (([] : List Nat), (0 : Int), false, ())).2).1) (0 : Int))).getD ([] : List Nat))) ((bB (5 : Nat) (max (0 - ((((aR s_0).getD (([] : List Nat), (0 : Int), false, ())).2).1)) (0 : Int))).getD ([] : List Nat))).2).1).length) : Nat) : Int)) ∨ (¬ (((((bL false ((bD (bA ((dC (((aR s_0).getD (([] : List Nat), (0 : Int), false, ())).1)).getD ([] : List Nat)) ((bB (5 : Nat) (max ((((aR s_0).getD (([] : List Nat), (0 : Int), false, ())).2).1) (0 : Int))).getD ([] : List Nat))) ((bB (5 : Nat) (max (0 - ((((aR s_0).getD (([] : List Nat), (0 : Int), false, ())).2).1)) (0 : Int))).getD ([] : List Nat))).1) ((((aR s_0).getD (([] : List Nat), (0 : Int), false, ())).2).1)).getD ((false, ([] : List Nat), (0 : Int), ()), (0 : Int), ())).2).1) = (0 : Int))) then some ((false, ([] : List Nat), (0 : Int), ()), (6 : Int), ()) else some ((((bL false ((bD (bA ((dC (((aR s_0).getD (([] : List Nat), (0 : Int), false, ())).1)).getD ([] : List Nat)) ((bB (5 : Nat) (max ((((aR s_0).getD (([] : List Nat), (0 : Int), false, ())).2).1) (0 : Int))).getD ([] : List Nat))) ((bB (5 : Nat) (max (0 - ((((aR s_0).getD (([] : List Nat), (0 : Int), false, ())).2).1)) (0 : Int))).getD ([] : List Nat))).1) ((((aR s_0).getD (([] : List Nat), (0 : Int), false, ())).2).1)).getD ((false, ([] : List Nat), (0 : Int), ()), (0 : Int), ())).1), (0 : Int), ())))))))))
def aDO : PlR := ⟨[(0, .B [0, 2]), (1, .A [2, 4, 5, 6]), (2, .A [2, 4, 5, 18]), (3, .B [2, 3]), (4, .A [2, 5, 7, 8]), (5, .B [2, 8, 9, 10]), (6, .A [2, 9, 46]), (7, .B [2, 3]), (8, .B [2, 3])], []⟩
def aFo : Ty := .pair .str .unit
noncomputable def uT : aK := mSpec aFo (.tup (.pair (.pair .bool (.pair (.sl (.u .u64)) (.pair (.i .i64) .unit))) (.pair (.i .i64) .unit))) (fun x => bE x.1)
noncomputable def nT : List (FuncId × aK) := [(54, lQ), (61, gH), (62, iK), (63, eH), (64, mQ), (65, jU)]
theorem aNT : bN Tryz.prog GL nT := .cons aBv (by kernel_rfl) (.cons wI (by kernel_rfl) (.cons yC (by kernel_rfl) (.cons qW (by kernel_rfl) (.cons aCr (by kernel_rfl) (.cons aAu (by kernel_rfl) (.nil))))))
theorem aIe : gam nT 54 = some lQ := rfl
theorem aIf : gam nT 61 = some gH := rfl
theorem aIg : gam nT 62 = some iK := rfl
theorem aIh : gam nT 63 = some eH := rfl
theorem aIi : gam nT 64 = some mQ := rfl
theorem aIj : gam nT 65 = some jU := rfl
attribute [go_sem] aFo aDO aIe aIf aIg aIh aIi aIj
set_option maxHeartbeats 4000000 in
theorem aMf : FOK Tryz.prog GL 21 uT := by
 refine bR (bC aNT) mix Tryz.func21 rfl (by kernel_rfl) (by decide) aDO fun w0 S x Θ hw h hF => ?_
 obtain ⟨(s_0 : (List Nat)), u⟩ := x
 simp only [bV, go_sem]
 replace h : sat (bE s_0) _ := h
 unfold bE at h
 refine aI h fun g0 h => ?_
 refine aOI h (fun hc h => ?_) fun hc h => ?_
 ·exact aL hF [.cell 2 25, .tmp 3] rfl rfl rfl (aC h) (by simp only [aZ, go_sem])
 ·refine aI h fun g0 h => aI h fun g1 h => aI h fun g2 h => aI h fun g3 h => aI h fun g4 h => aI h fun g5 h => ?_
  refine aI h fun g0 h => ?_
  refine ⟨fun hc => ?_, fun hc => ?_⟩
  ·replace h := fB hc h
   exact aL hF [.cell 2 25, .tmp 3] rfl rfl rfl (aC h) (by simp only [aZ, go_sem])
  ·replace h := fC hc h
   exact aL hF [.cell 2 25, .tmp 3] rfl rfl rfl (aC h) (by simp only [aZ, go_sem])
attribute [go_sem] uT
end Nu
end Go.Proofs
namespace Go.Proofs
open Go.Shelf
def Tryz.lays285_ren : Go.Shelf.Ren := ⟨fun | 285 => 165 | n => n, fun | 37 => 77 | 53 => 54 | 3 => 3 | 4 => 4 | 51 => 96 | 9 => 9 | 5 => 5 | 0 => 0 | n => n, fun | n => n⟩
theorem Tryz.lays285 : Go.Proofs.Lays.n285 Tryz.prog Tryz.lays285_ren := {
 mixed := by kernel_rfl
 f285 := Tryz.func165.trans (congrArg some (by kernel_rfl))
 t0 := Tryz.underlying0
 a0 := Tryz.isAgg0
 z0 := Tryz.sizeOf0
 v0 := Tryz.zeroValue0
 t3 := Tryz.underlying3
 a3 := Tryz.isAgg3
 z3 := Tryz.sizeOf3
 v3 := Tryz.zeroValue3
 t4 := Tryz.underlying4
 a4 := Tryz.isAgg4
 z4 := Tryz.sizeOf4
 v4 := Tryz.zeroValue4
 t5 := Tryz.underlying5
 a5 := Tryz.isAgg5
 z5 := Tryz.sizeOf5
 v5 := Tryz.zeroValue5
 t9 := Tryz.underlying9
 a9 := Tryz.isAgg9
 z9 := Tryz.sizeOf9
 v9 := Tryz.zeroValue9
 t37 := Tryz.underlying77
 a37 := Tryz.isAgg77
 z37 := Tryz.sizeOf77
 v37 := Tryz.zeroValue77
 t51 := Tryz.underlying96
 a51 := Tryz.isAgg96
 z51 := Tryz.sizeOf96
 v51 := Tryz.zeroValue96
 t53 := Tryz.underlying54
 a53 := Tryz.isAgg54
 z53 := Tryz.sizeOf54
 v53 := Tryz.zeroValue54 }
open Go.Vc
set_option maxRecDepth 20000
namespace Nu
def dgs (n u : Nat) : List Nat := (List.range n).map fun t => 48 + u / 10 ^ (n - 1 - t) % 10
theorem oZ (n u : Nat) : (dgs n u).length = n := by simp [dgs]
noncomputable def dN (uo un u : Nat) (xs : List Nat) : Option (List Nat) :=
 ck (uo + un ≤ 24) (ck (u < 10 ^ un) (some (xs.take uo ++ dgs un u ++ xs.drop (uo + un))))
noncomputable def kC : mZ where
 D := Nat × Nat × Nat × (List Nat) × ((List Nat))
 av := fun d => [.sub 0 1 d.1 d.2.1, .val (.u .u64) d.2.2.1]
 hp := fun d => [.box 24 (.val (.arr 24 (.u .u8)) d.2.2.2.1)]
 m := 1
 pre := fun d => dN d.1 d.2.1 d.2.2.1 d.2.2.2.1 = some d.2.2.2.2
 out := fun d => (fun r : (List Nat) => .ret (.tup []) [.box 24 (.val (.arr 24 (.u .u8)) (r))]) d.2.2.2.2
attribute [go_sem] kC
theorem aFp (xs : List Nat) : (xs.map (fun (x : Nat) => [Value.int .u8 (x : Int)])).flatten = xs.map (fun (x : Nat) => Value.int .u8 (x : Int)) := by
 induction xs with
 | nil => rfl
 | cons x r ih => simp [ih]
theorem aUK {w : World} {S : Nat → Prop} {m : Nat} {xs : List Nat} {cs : List Value} (h : aV w S (.arr m (.u .u8)) xs cs) : xs.length = m ∧ cs = xs.map (fun (x : Nat) => Value.int .u8 (x : Int)) ∧ ∀ x ∈ xs, x < 256 := by
 obtain ⟨hl, css, rfl, hcl, hr⟩ := h
 have hl : xs.length = m := hl
 have key : ∀ i (h : i < xs.length) (h' : i < css.length), css[i] = [Value.int .u8 (xs[i] : Int)] ∧ xs[i] < 256 := fun i h h' => by
  obtain ⟨h1, _, h3⟩ := hr i h h'
  refine ⟨h1, ?_⟩
  simp only [IntKind.max, IntKind.signed, IntKind.bits] at h3
  simp at h3
  omega
 refine ⟨hl, ?_, fun x hx => ?_⟩
 ·have e : css = xs.map (fun (x : Nat) => [Value.int .u8 (x : Int)]) := by
   apply List.ext_getElem
   ·simp; exact hcl
   ·intro i h1 h2
    have := (key i (by simpa using h2) h1).1
    simpa using this
  rw [e, aFp]
 ·obtain ⟨i, hi, rfl⟩ := List.getElem_of_mem hx
  exact (key i hi (by have : css.length = xs.length := hcl; omega)).2
theorem aWT {w : World} {S : Nat → Prop} {m : Nat} {xs : List Nat} (hl : xs.length = m) (hx : ∀ x ∈ xs, x < 256) : aV w S (.arr m (.u .u8)) xs (xs.map (fun (x : Nat) => Value.int .u8 (x : Int))) := by
 refine ⟨hl, xs.map (fun (x : Nat) => [Value.int .u8 (x : Int)]), (aFp xs).symm, by simp, fun i h h' => ?_⟩
 ·have := hx xs[i] (List.getElem_mem h)
  refine ⟨by simp, rfl, ?_⟩
  simp only [IntKind.max, IntKind.signed, IntKind.bits]
  simp
  omega
open Go.Sort in
theorem aRy {cells : Array Value} {xs : List Nat} {uo un u v' : Nat} {dk : Array UInt8} (hc : cells.toList = xs.map (fun (x : Nat) => Value.int .u8 (x : Int))) (hle : uo + un ≤ xs.length) (hF : Lib.FmtInv un u 0 v' dk) :
  (putCells (fun (b : UInt8) => Value.int .u8 (b.toNat : Int)) uo dk cells).toList = (xs.take uo ++ dgs un u ++ xs.drop (uo + un)).map (fun (x : Nat) => Value.int .u8 (x : Int)) := by
 have hsz : cells.size = xs.length := by rw [← Array.length_toList, hc, List.length_map]
 have hdk := hF.size
 apply List.ext_getElem
 ·simp [putCells, oZ, hsz]; omega
 ·intro i h1 h2
  have hi : i < xs.length := by simpa [putCells, hsz] using h1
  have hci : cells[i]'(by omega) = Value.int .u8 (xs[i] : Int) := by
   have : cells.toList[i]'(by rw [Array.length_toList]; omega) = Value.int .u8 (xs[i] : Int) := by simp [hc]
   simpa using this
  simp only [putCells, Array.toList_mapIdx, List.getElem_mapIdx, Array.getElem_toList, List.getElem_map]
  by_cases hr : uo ≤ i ∧ i < uo + dk.size
  ·rw [if_pos hr, hF.done (i - uo) (Nat.zero_le _) (by omega)]
   have : (xs.take uo ++ dgs un u ++ xs.drop (uo + un))[i]'(by simpa using h2) = 48 + u / 10 ^ (un - 1 - (i - uo)) % 10 := by
    rw [List.getElem_append_left (by simp [oZ]; omega), List.getElem_append_right (by simp; omega)]
    simp [dgs, Nat.min_eq_left (show uo ≤ xs.length by omega)]
   rw [this]
   have hm := Nat.mod_lt (u / 10 ^ (un - 1 - (i - uo))) (show 0 < 10 by decide)
   simp only [Lib.dg, UInt8.toNat_ofNat']
   rw [Nat.mod_eq_of_lt (by omega)]
  ·rw [if_neg hr, hci]
   rcases Nat.lt_or_ge i uo with h | h
   ·rw [List.getElem_append_left (by simp [oZ]; omega), List.getElem_append_left (by simp; omega)]
    simp
   ·rw [List.getElem_append_right (by simp [oZ]; omega)]
    simp only [List.length_append, List.length_take, oZ, List.getElem_drop]
    congr 3
    omega
open Go.Sort in
theorem yE : GOK Tryz.prog GL 165 kC := by
 rintro c w ⟨uo, un, u, xs, r⟩ vs hpre ⟨good, glob, len, val⟩
 have hpre : dN uo un u xs = some r := hpre
 unfold dN at hpre
 obtain ⟨h1, hpre⟩ := aJ hpre
 obtain ⟨h2, hpre⟩ := aJ hpre
 have hr : xs.take uo ++ dgs un u ++ xs.drop (uo + un) = r := Option.some.inj hpre
 obtain ⟨b, cells, e, hhd, hheap, hsz, hcl⟩ := good.objs 0 _ rfl
 obtain ⟨hl, hcs, hx⟩ := aUK hcl
 have hl : xs.length = 24 := hl
 have hcs : cells.toList = xs.map (fun (x : Nat) => Value.int .u8 (x : Int)) := hcs
 have hx : ∀ x ∈ xs, x < 256 := hx
 have hsz : cells.size = 24 := hsz
 have hv0 := val 0 (by show 0 < 2; decide) (by rw [len]; show 0 < 2; decide)
 have hv1 := val 1 (by show 1 < 2; decide) (by rw [len]; show 1 < 2; decide)
 obtain ⟨_, hn, b', cap, hb', e0⟩ := aGx (i := 0) (s := 1) (off := uo) (n := un) hv0
 obtain ⟨e1, _, hu⟩ := aAV (k := .u64) (n := u) hv1
 rw [hhd] at hb'
 simp only [aY, Option.some.injEq] at hb'
 subst hb'
 have hvs : vs = #[.slice (some ⟨b, uo * 1, none⟩) un cap, .int .u64 (u : Int)] := by
  have hlen : vs.toList.length = 2 := len
  rw [← Array.toList_inj]
  apply List.ext_getElem
  ·exact hlen
  ·intro i a1 a2
   match i, a2 with
   | 0, _ => exact e0
   | 1, _ => exact e1
 have hd : (((xs.drop uo).take un).map UInt8.ofNat).toArray.size = un := by simp; omega
 have hcell : ∀ j (hj : j < xs.length), w.cell? ⟨b, j, none⟩ = some (.int .u8 (xs[j] : Int)) := fun j hj => by
  have hj2 : j < cells.size := by omega
  have : cells[j] = Value.int .u8 (xs[j] : Int) := by
   have : cells.toList[j]'(by rw [Array.length_toList]; omega) = Value.int .u8 (xs[j] : Int) := by simp [hcs]
   simpa using this
  simp [World.cell?, hheap, hj2, this]
 have hH : Holds (fun (b : UInt8) => Value.int .u8 (b.toNat : Int)) w b uo (((xs.drop uo).take un).map UInt8.ofNat).toArray := fun j hj => by
  rw [hd] at hj
  have hj2 : uo + j < xs.length := by omega
  refine ⟨?_, ?_⟩
  ·rw [hcell _ hj2]
   have hlt := hx xs[uo + j] (List.getElem_mem hj2)
   have : (((xs.drop uo).take un).map UInt8.ofNat).toArray[j]! = UInt8.ofNat xs[uo + j] := by
    rw [getElem!_pos _ j (by rw [hd]; exact hj)]
    simp
   rw [this]
   simp only [UInt8.toNat_ofNat']
   rw [Nat.mod_eq_of_lt (by omega)]
  ·simp [World.frozen?, hheap]
 have hB : eJ .u64 = 18446744073709551616 := by decide +kernel
 have key := Any.internal_strconv_formatBase10 Tryz.lays285 b uo cap u _ w hH (by rw [hd]; exact h2) (by omega) (by rw [hd]; omega)
 rw [hd] at key
 rw [hvs, Nat.mul_one]
 refine Calls.mono (f := 165) key ?_
 rintro e w' ⟨rfl, n, v', dk, rfl, hF⟩
 refine ⟨c, .tuple #[], rfl, ?_, ?_⟩
 ·have hbl : b < w.heap.size := (Array.getElem?_eq_some_iff.1 hheap).1
  have hpc := aRy (uo := uo) (xs := xs) (u := u) (dk := dk) (un := un) hcs (by omega) hF
  have hheap' : ((putRow (fun (b : UInt8) => Value.int .u8 (b.toNat : Int)) w b uo dk).drewN n).heap[b]? = some (.cells (putCells (fun (b : UInt8) => Value.int .u8 (b.toNat : Int)) uo dk cells) e (0, 0)) := by
   show (w.heap.modify b (onCells _))[b]? = _
   rw [Array.getElem?_modify, if_pos rfl, hheap]
   rfl
  have hoth : ∀ k, k ≠ b → ((putRow (fun (b : UInt8) => Value.int .u8 (b.toNat : Int)) w b uo dk).drewN n).heap[k]? = w.heap[k]? := fun k hk => by
   show (w.heap.modify b (onCells _))[k]? = _
   rw [Array.getElem?_modify, if_neg (fun h => hk h.symm)]
  have hsize : ((putRow (fun (b : UInt8) => Value.int .u8 (b.toNat : Int)) w b uo dk).drewN n).heap.size = w.heap.size := by
   show (w.heap.modify b (onCells _)).size = _
   simp
  have hnS : ¬ c.S b := (good.own 0 _ b rfl (by show aY (c.hd 0) = some b; rw [hhd]; rfl)).2.2
  refine ⟨good.n, ⟨rfl, rfl, rfl, Nat.le_of_eq hsize.symm, fun k hk hM => hoth k (fun hkb => hM ?_)⟩, fun k hk => by rw [hsize]; exact good.sfin k hk, good.src, fun i o hio => ?_, fun i o k hio hk => ?_, fun i j oi oj k hi hj hbi hbj => ?_, good.root⟩
  ·subst hkb
   exact ⟨0, _, rfl, by show aY (c.hd 0) = some k; rw [hhd]; rfl⟩
  ·match i, hio with
   | 0, hio =>
    cases hio
    refine ⟨b, _, e, hhd, hheap', ?_, ?_⟩
    ·simp [putCells, hsz]
    ·show aV _ c.S (.arr 24 (.u .u8)) r _
     rw [hpc, hr]
     have hrl : r.length = 24 := by rw [← hr]; simp [oZ]; omega
     refine aWT hrl (fun x hxr => ?_)
     rw [← hr] at hxr
     rcases List.mem_append.1 hxr with hxr | hxr
     ·rcases List.mem_append.1 hxr with hxr | hxr
      ·exact hx x (List.mem_of_mem_take hxr)
      ·obtain ⟨t, _, rfl⟩ := List.mem_map.1 hxr
       have := Nat.mod_lt (u / 10 ^ (un - 1 - t)) (show 0 < 10 by decide)
       omega
     ·exact hx x (List.mem_of_mem_drop hxr)
   | i + 1, hio => cases hio
  ·match i, hio with
   | 0, hio =>
    cases hio
    have := good.own 0 _ k rfl hk
    rw [hsize]; exact this
   | i + 1, hio => cases hio
  ·match i, j, hi, hj with
   | 0, 0, _, _ => rfl
   | 0, j + 1, _, hj => cases hj
   | i + 1, _, hi, _ => cases hi
 ·exact ⟨[], rfl, rfl, fun i h1 _ => by cases h1⟩
end Nu
end Go.Proofs
