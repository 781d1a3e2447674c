import Derived.Test.YtkihplehmkbfaaaGreatDoorZS2
import Derived.Test.YtkihplehmkbfaaaGreatDoorZS1
import Derived.Test.YtkihplehmkbfaaaGreatDoorZL5
import Derived.Shelf.Strconv.Itoa2
import Derived.Lib.ItoaNum
import Derived.Shelf.Strings.OnBuilder
set_option linter.unusedVariables false
set_option linter.unusedSimpArgs false
namespace Go.Proofs
open Go.Vc
set_option maxRecDepth 20000
namespace Nu
def aQG (A B p k : Nat) (up : Bool) : Dy := cO (rm2 A B p k up) (rE A B p k)
theorem vO {M : Nat} {e : Int} : (cO M e).2.1 = lb (M / 2 ^ tzn M) := by
 unfold cO
 split
 ·rename_i h; subst h; rw [Nat.zero_div, mO]; rfl
 ·rfl
theorem aS6 {A B p k0 K : Nat} {up : Bool} (hB : B ≠ 0) (hAK : A < 2 ^ K) (hBK : B < 2 ^ K) (hK : K ≤ 1000) (hp : 1 ≤ p) (hp2 : p ≤ 2000) (h : A ≠ 0 → 2 ^ p ≤ rq A B k0) :
  aKp (cO A 0) (cO B 0) (p : Int) up = .inl (if A = 0 then d0 else aQG A B p k0 up) := by
 have mA : dV (cO A 0) = true := uN hAK (by omega) (by decide)
 have mB : dV (cO B 0) = true := uN hBK (by omega) (by decide)
 have hm : aQB (p : Int) [cO A 0, cO B 0] = .inl () := by
  unfold aQB
  rw [if_pos ⟨by omega, by omega, by simp [mA, mB]⟩]
 obtain ⟨b1, b2⟩ := aBT hB
 have hB' : B / 2 ^ tzn B ≠ 0 := by omega
 have hbB : bl (B / 2 ^ tzn B) ≤ K := sW (Nat.lt_of_le_of_lt (Nat.div_le_self _ _) hBK)
 have hzB := aGD hB hBK
 unfold aKp
 rw [hm]
 simp only [vO, iI]
 rw [if_neg (fun h => hB' (aAH.1 (List.eq_nil_of_length_eq_zero h)))]
 have hs1 : (cO A 0).1 = false := by unfold cO; split <;> rfl
 have hs2 : (cO B 0).1 = false := by unfold cO; split <;> rfl
 rw [hs1, hs2]
 by_cases hA : A = 0
 ·subst hA
  simp only [if_true]
  have h1 : (cO 0 0).2.2.1 = 0 := rfl
  have h2 : (cO B 0).2.2.1 = (tzn B : Int) := by unfold cO; rw [if_neg hB]; simp
  rw [h1, h2, Nat.zero_div, Nat.zero_mul, Nat.zero_div, Nat.zero_mod]
  unfold aQC
  have hb0 : ¬ 0 < ((bl 0 : Nat) : Int) - (p : Int) := by
   have : bl 0 = 0 := rfl
   omega
  simp only [hb0, if_false]
  have : decide ((0 : Nat) ≠ 0) = false := rfl
  rw [this]
  simp only [Bool.false_eq_true, false_and, if_false]
  rfl
 ·obtain ⟨a1, a2⟩ := aBT hA
  have hA' : A / 2 ^ tzn A ≠ 0 := by omega
  have hbA : bl (A / 2 ^ tzn A) ≤ K := sW (Nat.lt_of_le_of_lt (Nat.div_le_self _ _) hAK)
  have hzA := aGD hA hAK
  have h1 : (cO A 0).2.2.1 = (tzn A : Int) := by unfold cO; rw [if_neg hA]; simp
  have h2 : (cO B 0).2.2.1 = (tzn B : Int) := by unfold cO; rw [if_neg hB]; simp
  rw [h1, h2, if_neg hA]
  obtain ⟨k, hk, hk2, hk3⟩ : ∃ k : Nat, max (0 : Int) ((p : Int) + 1 + (bl (B / 2 ^ tzn B) : Int) - (bl (A / 2 ^ tzn A) : Int)) = (k : Int) ∧ p + bl (B / 2 ^ tzn B) ≤ bl (A / 2 ^ tzn A) - 1 + k ∧ k ≤ 4000 := by
   have hpos := aCS hA'
   exact ⟨(max (0 : Int) ((p : Int) + 1 + (bl (B / 2 ^ tzn B) : Int) - (bl (A / 2 ^ tzn A) : Int))).toNat, by omega, by omega, by omega⟩
  rw [hk, Int.toNat_natCast]
  have hbig := aU4 (p := p) hA' hB' hk2
  have hf : (false != false) = false := rfl
  rw [hf]
  have hc := aYA (e := (tzn A : Int) - (tzn B : Int)) (up := up) hp hbig
  unfold rq at hc
  rw [hc]
  obtain ⟨o1, o2, o3, o4⟩ := aYB (A' := A / 2 ^ tzn A) (B' := B / 2 ^ tzn B) (za := tzn A) (zb := tzn B) hp a1.symm b1.symm (h hA)
  obtain ⟨s1, s2, s3⟩ := aYb hp hbig o1
  have hrm : rm2 (A / 2 ^ tzn A) (B / 2 ^ tzn B) p k up = rm2 A B p k0 up := by unfold rm2; rw [s1, s3, o2, o4]
  have hre : (tzn A : Int) - (tzn B : Int) + rE (A / 2 ^ tzn A) (B / 2 ^ tzn B) p k = rE A B p k0 := by rw [s2]; omega
  obtain ⟨q1, q2⟩ := aKq (A := A / 2 ^ tzn A) (B := B / 2 ^ tzn B) (p := p) (k := k) hA'
  rw [hrm, hre, aR3 (K := p + 1) aNO (by omega) (by constructor <;> omega)]
  simp only [if_true]
  rfl
def aWU (r : aU7) : Prop := (∀ c ∈ r.1, kQ c = true) ∧ r.1.length ≤ 60 ∧ -160 ≤ r.2.1 ∧ r.2.1 ≤ 160
theorem aAs : aWU litNo := ⟨(fun c hc => by cases hc), by decide, by decide, by decide⟩
theorem aNT {s : List Nat} {i : Nat} {all : List Nat} {pow : Int} {neg : Bool} (h1 : ∀ c ∈ all, kQ c = true) (h2 : all.length ≤ 60) (h3 : -60 ≤ pow ∧ pow ≤ 0) : aWU (aKz s i all pow neg) := by
 unfold aKz
 split
 ·exact aAs
 ·split
  ·exact aAs
  ·refine ⟨h1, h2, ?_, ?_⟩
   ·simp only; split <;> omega
   ·simp only; split <;> omega
theorem aKA {s : List Nat} {i : Nat} {all : List Nat} {pow : Int} (h1 : ∀ c ∈ all, kQ c = true) (h2 : all.length ≤ 60) (h3 : -60 ≤ pow ∧ pow ≤ 0) : aWU (aPl s i all pow) := by
 unfold aPl
 split
 ·exact aNT h1 h2 h3
 ·exact ⟨h1, h2, by simp only; omega, by simp only; omega⟩
theorem aEO (s : List Nat) : aWU (oS s) := by
 have hd0 := aBV s 0
 have hd1 := aBV s (dC s 0 + 1)
 have a0 := aKy s 0
 rw [List.drop_zero] at a0
 have a1 := aKy s (dC s 0 + 1)
 unfold oS
 split
 ·exact aAs
 ·rename_i h
  split
  ·split
   ·exact aAs
   ·refine aKA (fun c hc => ?_) ?_ (by constructor <;> omega)
    ·rcases List.mem_append.1 hc with hc | hc
     ·exact a0 c hc
     ·exact a1 c hc
    ·rw [List.length_append, List.length_take, List.length_take, List.length_drop]; omega
  ·refine aKA a0 ?_ (by decide)
   rw [List.length_take]; omega
def aFN (s : List Nat) : Nat := mZ (oS s).1 * 10 ^ (max (oS s).2.1 0).toNat
def aEP (s : List Nat) : Nat := 10 ^ (max (-(oS s).2.1) 0).toNat
theorem aBe (n : Nat) : 10 ^ n ≤ 2 ^ (4 * n) := by
 rw [Nat.pow_mul]
 exact Nat.pow_le_pow_left (by decide) n
theorem aR4 (s : List Nat) : aFN s < 2 ^ 900 := by
 obtain ⟨h1, h2, h3, h4⟩ := aEO s
 have a := aIN h1
 have b := aBe (oS s).1.length
 have c := aBe (max (oS s).2.1 0).toNat
 unfold aFN
 have d := Nat.mul_lt_mul_of_lt_of_le (Nat.lt_of_lt_of_le a b) c (Nat.pow_pos (by decide))
 rw [← Nat.pow_add] at d
 exact aU1 900 d (by omega)
theorem aR5 (s : List Nat) : aEP s < 2 ^ 900 := by
 obtain ⟨h1, h2, h3, h4⟩ := aEO s
 have c := aBe (max (-(oS s).2.1) 0).toNat
 unfold aEP
 exact aPi 900 c (by omega)
theorem aPm (s : List Nat) : aEP s ≠ 0 := by
 unfold aEP
 have := Nat.pow_pos (n := (max (-(oS s).2.1) 0).toNat) (show 0 < 10 by decide)
 omega
def aYd (s : List Nat) : List Nat × List Nat × Bool × Unit := if (oS s).2.2.1 = true then (lb (aFN s), lb (aEP s), true, ()) else ([], [], false, ())
theorem aVc {x : Nat} (h : x < 2 ^ 900) : (lb x).length ≤ 15 := by
 exact nV.2 (aMG 15 h (by decide))
theorem aVd (s : List Nat) (hs : s.length ≤ 4611686018427387904) : cS s = some (aYd s) := by
 obtain ⟨h1, h2, h3, h4⟩ := aEO s
 unfold cS aYd
 simp only [aYc s hs, Option.getD_some]
 refine aB rfl ?_
 by_cases h : (oS s).2.2.1 = true
 ·rw [if_neg (fun hn => hn h), if_pos h]
  have e1 := aS5 (oS s).1 h1 (by omega)
  have e2 := aKx 10 (max (oS s).2.1 0).toNat (by decide) (by omega)
  have e3 := aKx 10 (max (-(oS s).2.1) 0).toNat (by decide) (by omega)
  rw [show (((max (oS s).2.1 0).toNat : Nat) : Int) = max (oS s).2.1 0 from by omega] at e2
  rw [show (((max (-(oS s).2.1) 0).toNat : Nat) : Int) = max (0 - (oS s).2.1) 0 from by omega] at e3
  simp only [e1, e2, e3, Option.getD_some]
  have l1 : (lb (mZ (oS s).1)).length ≤ 15 := aVc (by
   have a := aIN h1
   have b := aBe (oS s).1.length
   exact aU1 900 (Nat.lt_of_lt_of_le a b) (by omega))
  have l2 : (lb (10 ^ (max (oS s).2.1 0).toNat)).length ≤ 15 := aVc (aPi 900 (aBe _) (by omega))
  refine aB rfl (aB rfl (aB ⟨?_, ?_⟩ (aB (by constructor <;> omega) (aB rfl ?_))))
  ·show (lb (mZ (oS s).1)).length ≤ _; omega
  ·show (lb (10 ^ (max (oS s).2.1 0).toNat)).length ≤ _; omega
  ·have ht : bY (lb (mZ (oS s).1)) (lb (10 ^ (max (oS s).2.1 0).toNat)) = lb (aFN s) := by
    unfold bY aFN; rw [iI, iI]
   rw [ht]; rfl
 ·rw [if_pos h, if_neg h]
end Nu
end Go.Proofs
namespace Go.Proofs
open Go.Vc
set_option maxRecDepth 20000
namespace Nu
def sN (s : List Nat) (p : Nat) (up : Bool) : Dy := if aFN s = 0 then d0 else aQG (aFN s) (aEP s) p (p + 1 + bl (aEP s)) up
def aFO (s : List Nat) (p : Int) : (Dy × Dy × Unit) × Int × Unit :=
 if ¬ (oS s).2.2.1 = true then ((d0, d0, ()), 6, ())
 else if p < 1 ∨ 2000 < p then ((d0, d0, ()), 1, ())
 else ((sN s p.toNat false, sN s p.toNat true, ()), 0, ())
theorem aVe {A K : Nat} (h : A < 2 ^ K) (hK : K ≤ 4096) : cD false (lb A) 0 = some (cO A 0, 0, ()) := by
 have hl : (lb A).length ≤ K + 1 := nV.2 (Nat.lt_of_lt_of_le h (by rw [qJ]; exact Nat.pow_le_pow_right (by decide) (by omega)))
 rw [aU2 false (lb A) 0 (aB7 A) (aBD A) (by omega), iI, aR3 h hK (by decide)]
theorem aPn (s : List Nat) (p : Nat) (up : Bool) (hp : 1 ≤ p ∧ p ≤ 2000) : fT (cO (aFN s) 0) (cO (aEP s) 0) (p : Int) up = some (sN s p up, 0, ()) := by
 have hL : ∀ M, Lm (cO M 0).2.1 := fun M => by rw [vO]; exact aB7 _
 rw [aWR _ _ _ _ (hL _) (hL _), aS6 (k0 := p + 1 + bl (aEP s)) (aPm s) (aR4 s) (aR5 s) (by decide) hp.1 hp.2 (fun h => aU4 h (aPm s) (by have := aCS h; omega))]
 rfl
theorem aVf (s : List Nat) (p : Int) (hs : s.length ≤ 4611686018427387904) : dQ s p = some (aFO s p) := by
 unfold dQ aFO
 simp only [aVd s hs, Option.getD_some]
 refine aB rfl ?_
 unfold aYd
 by_cases h : (oS s).2.2.1 = true
 ·simp only [h, if_true, not_true, if_false]
  by_cases h2 : p < 1 ∨ 2000 < p
  ·simp only [h2, if_true]; rfl
  ·simp only [h2, if_false]
   obtain ⟨q, rfl⟩ : ∃ q : Nat, p = (q : Int) := ⟨p.toNat, by omega⟩
   simp only [aVe (aR4 s) (by decide), aVe (aR5 s) (by decide), Option.getD_some, aPn s q false (by constructor <;> omega), aPn s q true (by constructor <;> omega)]
   refine aB rfl (aB rfl (aB rfl (aB rfl ?_)))
   simp only [not_true, or_self, if_false, Int.toNat_natCast]
 ·simp only [h, if_false, Bool.false_eq_true, not_false_eq_true, if_true]; rfl
end Nu
end Go.Proofs
namespace Go.Proofs
open Go.Vc
set_option maxRecDepth 20000
namespace Nu
theorem aPo {a : List Nat} (h : ∀ c ∈ a, kQ c = true) (pre : List Nat) : dC (pre ++ a) pre.length = a.length := by
 unfold dC
 rw [List.drop_left]
 have := List.takeWhile_append_of_pos (l₂ := []) h
 rw [List.append_nil, List.takeWhile_nil, List.append_nil] at this
 rw [this]
theorem aS7 {a b : List Nat} {x : Nat} (h : ∀ c ∈ a, kQ c = true) (hx : kQ x = false) : dC (a ++ x :: b) 0 = a.length := by
 unfold dC
 rw [List.drop_zero, List.takeWhile_append_of_pos h, List.takeWhile_cons, hx]
 simp
theorem aVg {a : List Nat} (h : ∀ c ∈ a, kQ c = true) (h1 : 1 ≤ a.length) (h2 : a.length ≤ 60) : oS a = (a, 0, true, ()) := by
 have hd : dC a 0 = a.length := aPo h []
 unfold oS aPl
 rw [hd, if_neg (by omega), if_neg (fun hh : oH a a.length 46 => by have := hh.1; omega), if_neg (fun hh : oH a a.length 101 => by have := hh.1; omega), List.take_length, decide_eq_true rfl]
theorem aWV {a b : List Nat} (h : ∀ c ∈ a, kQ c = true) (hb : ∀ c ∈ b, kQ c = true) (h1 : 1 ≤ a.length) (h3 : 1 ≤ b.length) (h2 : a.length + 1 + b.length ≤ 60) : oS (a ++ 46 :: b) = (a ++ b, -(b.length : Int), true, ()) := by
 have hd : dC (a ++ 46 :: b) 0 = a.length := aS7 h rfl
 have hl : (a ++ 46 :: b).length = a.length + 1 + b.length := by simp; omega
 have hg : oH (a ++ 46 :: b) a.length 46 := ⟨by omega, by simp [List.getD_eq_getElem?_getD]⟩
 have hr : a ++ 46 :: b = (a ++ [46]) ++ b := by simp
 have hd2 : dC (a ++ 46 :: b) (a.length + 1) = b.length := by
  have := aPo hb (a ++ [46])
  rw [← hr, List.length_append] at this
  exact this
 have hdr : (a ++ 46 :: b).drop (a.length + 1) = b := by
  rw [hr, show a.length + 1 = (a ++ [46]).length by simp, List.drop_left]
 unfold oS aPl
 rw [hd, hd2, if_neg (by omega), if_pos hg, if_neg (by omega), if_neg (fun hh : oH (a ++ 46 :: b) (a.length + 1 + b.length) 101 => by have := hh.1; omega), List.take_left, hdr, List.take_length, decide_eq_true hl.symm]
theorem aPp (a : List Nat) : ∀ n, mZ (a ++ List.replicate n 48) = mZ a * 10 ^ n
 | 0 => by simp
 | n + 1 => by
  rw [List.replicate_succ', ← List.append_assoc, aDI, aPp a n, Nat.pow_succ, Nat.mul_assoc]; rfl
theorem aWW (n : Nat) : ∀ c ∈ List.replicate n 48, kQ c = true := fun c hc => by rw [(List.mem_replicate.1 hc).2]; rfl
theorem aWX {a b : List Nat} (h : ∀ c ∈ a, kQ c = true) (hb : ∀ c ∈ b, kQ c = true) : ∀ c ∈ a ++ b, kQ c = true := fun c hc => (List.mem_append.1 hc).elim (h c) (hb c)
end Nu
end Go.Proofs
namespace Go.Proofs
open Go.Vc
set_option maxRecDepth 20000
namespace Nu
def exN (s : List Nat) : Nat := mZ (oS s).1 * 5 ^ (max (oS s).2.1 0).toNat
def exD (s : List Nat) : Nat := 5 ^ (max (-(oS s).2.1) 0).toNat
end Nu
end Go.Proofs
namespace Go.Proofs
open Go.Shelf
def Tryz.lays285_ren : Go.Shelf.Ren := ⟨fun | 285 => 217 | n => n, fun | 37 => 99 | 53 => 83 | 3 => 3 | 4 => 4 | 51 => 146 | 9 => 9 | 5 => 5 | 0 => 0 | n => n, fun | n => n⟩
theorem Tryz.lays285 : Go.Proofs.Lays.n285 Tryz.prog Tryz.lays285_ren := {
 mixed := by kernel_rfl
 f285 := Tryz.func217.trans (congrArg some (by kernel_rfl))
 t0 := Tryz.underlying0
 a0 := Tryz.isAgg0
 z0 := Tryz.sizeOf0
 v0 := Tryz.zeroValue0
 t3 := Tryz.underlying3
 a3 := Tryz.isAgg3
 z3 := Tryz.sizeOf3
 v3 := Tryz.zeroValue3
 t4 := Tryz.underlying4
 a4 := Tryz.isAgg4
 z4 := Tryz.sizeOf4
 v4 := Tryz.zeroValue4
 t5 := Tryz.underlying5
 a5 := Tryz.isAgg5
 z5 := Tryz.sizeOf5
 v5 := Tryz.zeroValue5
 t9 := Tryz.underlying9
 a9 := Tryz.isAgg9
 z9 := Tryz.sizeOf9
 v9 := Tryz.zeroValue9
 t37 := Tryz.underlying99
 a37 := Tryz.isAgg99
 z37 := Tryz.sizeOf99
 v37 := Tryz.zeroValue99
 t51 := Tryz.underlying146
 a51 := Tryz.isAgg146
 z51 := Tryz.sizeOf146
 v51 := Tryz.zeroValue146
 t53 := Tryz.underlying83
 a53 := Tryz.isAgg83
 z53 := Tryz.sizeOf83
 v53 := Tryz.zeroValue83 }
open Go.Vc
set_option maxRecDepth 20000
namespace Nu
def dgs (n u : Nat) : List Nat := (List.range n).map fun t => 48 + u / 10 ^ (n - 1 - t) % 10
theorem pJ (n u : Nat) : (dgs n u).length = n := by simp [dgs]
noncomputable def cW (uo un u : Nat) (xs : List Nat) : Option (List Nat) :=
 ck (uo + un ≤ 24) (ck (u < 10 ^ un) (some (xs.take uo ++ dgs un u ++ xs.drop (uo + un))))
noncomputable def jG : mY where
 D := Nat × Nat × Nat × (List Nat) × ((List Nat))
 av := fun d => [.sub 0 1 d.1 d.2.1, .val (.u .u64) d.2.2.1]
 hp := fun d => [.box 24 (.val (.arr 24 (.u .u8)) d.2.2.2.1)]
 m := 1
 pre := fun d => cW d.1 d.2.1 d.2.2.1 d.2.2.2.1 = some d.2.2.2.2
 out := fun d => (fun r : (List Nat) => .ret (.tup []) [.box 24 (.val (.arr 24 (.u .u8)) (r))]) d.2.2.2.2
attribute [go_sem] jG
theorem aHC (xs : List Nat) : (xs.map (fun (x : Nat) => [Value.int .u8 (x : Int)])).flatten = xs.map (fun (x : Nat) => Value.int .u8 (x : Int)) := by
 induction xs with
 | nil => rfl
 | cons x r ih => simp [ih]
theorem aWY {w : World} {S : Nat → Prop} {m : Nat} {xs : List Nat} {cs : List Value} (h : aS w S (.arr m (.u .u8)) xs cs) : xs.length = m ∧ cs = xs.map (fun (x : Nat) => Value.int .u8 (x : Int)) ∧ ∀ x ∈ xs, x < 256 := by
 obtain ⟨hl, css, rfl, hcl, hr⟩ := h
 have hl : xs.length = m := hl
 have key : ∀ i (h : i < xs.length) (h' : i < css.length), css[i] = [Value.int .u8 (xs[i] : Int)] ∧ xs[i] < 256 := fun i h h' => by
  obtain ⟨h1, _, h3⟩ := hr i h h'
  refine ⟨h1, ?_⟩
  simp only [IntKind.max, IntKind.signed, IntKind.bits] at h3
  simp at h3
  omega
 refine ⟨hl, ?_, fun x hx => ?_⟩
 ·have e : css = xs.map (fun (x : Nat) => [Value.int .u8 (x : Int)]) := by
   apply List.ext_getElem
   ·simp; exact hcl
   ·intro i h1 h2
    have := (key i (by simpa using h2) h1).1
    simpa using this
  rw [e, aHC]
 ·obtain ⟨i, hi, rfl⟩ := List.getElem_of_mem hx
  exact (key i hi (by have : css.length = xs.length := hcl; omega)).2
theorem aYD {w : World} {S : Nat → Prop} {m : Nat} {xs : List Nat} (hl : xs.length = m) (hx : ∀ x ∈ xs, x < 256) : aS w S (.arr m (.u .u8)) xs (xs.map (fun (x : Nat) => Value.int .u8 (x : Int))) := by
 refine ⟨hl, xs.map (fun (x : Nat) => [Value.int .u8 (x : Int)]), (aHC xs).symm, by simp, fun i h h' => ?_⟩
 ·have := hx xs[i] (List.getElem_mem h)
  refine ⟨by simp, rfl, ?_⟩
  simp only [IntKind.max, IntKind.signed, IntKind.bits]
  simp
  omega
open Go.Sort in
theorem aS8 {cells : Array Value} {xs : List Nat} {uo un u v' : Nat} {dk : Array UInt8} (hc : cells.toList = xs.map (fun (x : Nat) => Value.int .u8 (x : Int))) (hle : uo + un ≤ xs.length) (hF : Lib.FmtInv un u 0 v' dk) :
  (putCells (fun (b : UInt8) => Value.int .u8 (b.toNat : Int)) uo dk cells).toList = (xs.take uo ++ dgs un u ++ xs.drop (uo + un)).map (fun (x : Nat) => Value.int .u8 (x : Int)) := by
 have hsz : cells.size = xs.length := by rw [← Array.length_toList, hc, List.length_map]
 have hdk := hF.size
 apply List.ext_getElem
 ·simp [putCells, pJ, hsz]; omega
 ·intro i h1 h2
  have hi : i < xs.length := by simpa [putCells, hsz] using h1
  have hci : cells[i]'(by omega) = Value.int .u8 (xs[i] : Int) := by
   have : cells.toList[i]'(by rw [Array.length_toList]; omega) = Value.int .u8 (xs[i] : Int) := by simp [hc]
   simpa using this
  simp only [putCells, Array.toList_mapIdx, List.getElem_mapIdx, Array.getElem_toList, List.getElem_map]
  by_cases hr : uo ≤ i ∧ i < uo + dk.size
  ·rw [if_pos hr, hF.done (i - uo) (Nat.zero_le _) (by omega)]
   have : (xs.take uo ++ dgs un u ++ xs.drop (uo + un))[i]'(by simpa using h2) = 48 + u / 10 ^ (un - 1 - (i - uo)) % 10 := by
    rw [List.getElem_append_left (by simp [pJ]; omega), List.getElem_append_right (by simp; omega)]
    simp [dgs, Nat.min_eq_left (show uo ≤ xs.length by omega)]
   rw [this]
   have hm := Nat.mod_lt (u / 10 ^ (un - 1 - (i - uo))) (show 0 < 10 by decide)
   simp only [Lib.dg, UInt8.toNat_ofNat']
   rw [Nat.mod_eq_of_lt (by omega)]
  ·rw [if_neg hr, hci]
   rcases Nat.lt_or_ge i uo with h | h
   ·rw [List.getElem_append_left (by simp [pJ]; omega), List.getElem_append_left (by simp; omega)]
    simp
   ·rw [List.getElem_append_right (by simp [pJ]; omega)]
    simp only [List.length_append, List.length_take, pJ, List.getElem_drop]
    congr 3
    omega
open Go.Sort in
theorem rX : GOK Tryz.prog GL 217 jG := by
 rintro c w ⟨uo, un, u, xs, r⟩ vs hpre ⟨good, glob, len, val⟩
 have hpre : cW uo un u xs = some r := hpre
 unfold cW at hpre
 obtain ⟨h1, hpre⟩ := aH hpre
 obtain ⟨h2, hpre⟩ := aH hpre
 have hr : xs.take uo ++ dgs un u ++ xs.drop (uo + un) = r := Option.some.inj hpre
 obtain ⟨b, cells, e, hhd, hheap, hsz, hcl⟩ := good.objs 0 _ rfl
 obtain ⟨hl, hcs, hx⟩ := aWY hcl
 have hl : xs.length = 24 := hl
 have hcs : cells.toList = xs.map (fun (x : Nat) => Value.int .u8 (x : Int)) := hcs
 have hx : ∀ x ∈ xs, x < 256 := hx
 have hsz : cells.size = 24 := by
  rcases hsz with h | ⟨_, h⟩
  ·exact h
  ·exact absurd h (by omega)
 have hv0 := val 0 (by show 0 < 2; decide) (by rw [len]; show 0 < 2; decide)
 have hv1 := val 1 (by show 1 < 2; decide) (by rw [len]; show 1 < 2; decide)
 obtain ⟨_, hn, b', cap, hb', e0⟩ := aIE (i := 0) (s := 1) (off := uo) (n := un) hv0
 obtain ⟨e1, _, hu⟩ := aCv (k := .u64) (n := u) hv1
 rw [hhd] at hb'
 simp only [aQ, Option.some.injEq] at hb'
 subst hb'
 have hvs : vs = #[.slice (some ⟨b, uo * 1, none⟩) un cap, .int .u64 (u : Int)] := by
  have hlen : vs.toList.length = 2 := len
  rw [← Array.toList_inj]
  apply List.ext_getElem
  ·exact hlen
  ·intro i a1 a2
   match i, a2 with
   | 0, _ => exact e0
   | 1, _ => exact e1
 have hd : (((xs.drop uo).take un).map UInt8.ofNat).toArray.size = un := by simp; omega
 have hcell : ∀ j (hj : j < xs.length), w.cell? ⟨b, j, none⟩ = some (.int .u8 (xs[j] : Int)) := fun j hj => by
  have hj2 : j < cells.size := by omega
  have : cells[j] = Value.int .u8 (xs[j] : Int) := by
   have : cells.toList[j]'(by rw [Array.length_toList]; omega) = Value.int .u8 (xs[j] : Int) := by simp [hcs]
   simpa using this
  simp [World.cell?, hheap, hj2, this]
 have hH : Holds (fun (b : UInt8) => Value.int .u8 (b.toNat : Int)) w b uo (((xs.drop uo).take un).map UInt8.ofNat).toArray := fun j hj => by
  rw [hd] at hj
  have hj2 : uo + j < xs.length := by omega
  refine ⟨?_, ?_⟩
  ·rw [hcell _ hj2]
   have hlt := hx xs[uo + j] (List.getElem_mem hj2)
   have : (((xs.drop uo).take un).map UInt8.ofNat).toArray[j]! = UInt8.ofNat xs[uo + j] := by
    rw [getElem!_pos _ j (by rw [hd]; exact hj)]
    simp
   rw [this]
   simp only [UInt8.toNat_ofNat']
   rw [Nat.mod_eq_of_lt (by omega)]
  ·simp [World.frozen?, hheap]
 have hB : gR .u64 = 18446744073709551616 := by decide +kernel
 have key := Any.internal_strconv_formatBase10 Tryz.lays285 b uo cap u _ w hH (by rw [hd]; exact h2) (by omega) (by rw [hd]; omega)
 rw [hd] at key
 rw [hvs, Nat.mul_one]
 refine Calls.mono (f := 217) key ?_
 rintro e w' ⟨rfl, n, v', dk, rfl, hF⟩
 refine ⟨c, .tuple #[], rfl, ?_, ?_⟩
 ·have hbl : b < w.heap.size := (Array.getElem?_eq_some_iff.1 hheap).1
  have hpc := aS8 (uo := uo) (xs := xs) (u := u) (dk := dk) (un := un) hcs (by omega) hF
  have hheap' : ((putRow (fun (b : UInt8) => Value.int .u8 (b.toNat : Int)) w b uo dk).drewN n).heap[b]? = some (.cells (putCells (fun (b : UInt8) => Value.int .u8 (b.toNat : Int)) uo dk cells) e (0, 0)) := by
   show (w.heap.modify b (onCells _))[b]? = _
   rw [Array.getElem?_modify, if_pos rfl, hheap]
   rfl
  have hoth : ∀ k, k ≠ b → ((putRow (fun (b : UInt8) => Value.int .u8 (b.toNat : Int)) w b uo dk).drewN n).heap[k]? = w.heap[k]? := fun k hk => by
   show (w.heap.modify b (onCells _))[k]? = _
   rw [Array.getElem?_modify, if_neg (fun h => hk h.symm)]
  have hsize : ((putRow (fun (b : UInt8) => Value.int .u8 (b.toNat : Int)) w b uo dk).drewN n).heap.size = w.heap.size := by
   show (w.heap.modify b (onCells _)).size = _
   simp
  have hnS : ¬ c.S b := (good.own 0 _ b rfl (by show aQ (c.hd 0) = some b; rw [hhd]; rfl)).2.2
  refine ⟨good.n, ⟨rfl, rfl, rfl, Nat.le_of_eq hsize.symm, fun k hk hM => hoth k (fun hkb => hM ?_)⟩, fun k hk => by rw [hsize]; exact good.sfin k hk, good.src, fun i o hio => ?_, fun i o k hio hk => ?_, fun i j oi oj k hi hj hbi hbj => ?_, good.root⟩
  ·subst hkb
   exact ⟨0, _, rfl, by show aQ (c.hd 0) = some k; rw [hhd]; rfl⟩
  ·match i, hio with
   | 0, hio =>
    cases hio
    refine ⟨b, _, e, hhd, hheap', ?_, ?_⟩
    ·exact .inl (by (simp [putCells, hsz]) <;> rfl)
    ·show aS _ c.S (.arr 24 (.u .u8)) r _
     rw [hpc, hr]
     have hrl : r.length = 24 := by rw [← hr]; simp [pJ]; omega
     refine aYD hrl (fun x hxr => ?_)
     rw [← hr] at hxr
     rcases List.mem_append.1 hxr with hxr | hxr
     ·rcases List.mem_append.1 hxr with hxr | hxr
      ·exact hx x (List.mem_of_mem_take hxr)
      ·obtain ⟨t, _, rfl⟩ := List.mem_map.1 hxr
       have := Nat.mod_lt (u / 10 ^ (un - 1 - t)) (show 0 < 10 by decide)
       omega
     ·exact hx x (List.mem_of_mem_drop hxr)
   | i + 1, hio => cases hio
  ·match i, hio with
   | 0, hio =>
    cases hio
    have := good.own 0 _ k rfl hk
    rw [hsize]; exact this
   | i + 1, hio => cases hio
  ·match i, j, hi, hj with
   | 0, 0, _, _ => rfl
   | 0, j + 1, _, hj => cases hj
   | i + 1, _, hi, _ => cases hi
 ·exact ⟨[], rfl, rfl, fun i h1 _ => by cases h1⟩
end Nu
end Go.Proofs
namespace Go.Proofs
open Go.Vc
set_option maxRecDepth 20000
namespace Nu
def sO : ByteArray := ⟨⟨48 :: 48 :: 48 :: 48 :: 48 :: 48 :: 48 :: 48 :: 48 :: 48 :: 48 :: 48 :: 48 :: 48 :: 48 :: 48 :: 48 :: 48 :: 48 :: 48 :: 48 :: 48 :: 48 :: 48 :: 48 :: 48 :: 48 :: 48 :: 48 :: 48 :: 48 :: 48 :: 48 :: 48 :: 48 :: 48 :: 48 :: 48 :: 48 :: 48 :: 48 :: 48 :: 48 :: 48 :: 48 :: 48 :: 48 :: 48 :: 48 :: 48 :: 48 :: 48 :: 48 :: 48 :: 48 :: 48 :: 48 :: 48 :: 48 :: 48 :: 48 :: 48 :: 48 :: 48 :: []⟩⟩
theorem aLE : (⟨⟨48 :: 48 :: 48 :: 48 :: 48 :: 48 :: 48 :: 48 :: 48 :: 48 :: 48 :: 48 :: 48 :: 48 :: 48 :: 48 :: 48 :: 48 :: 48 :: 48 :: 48 :: 48 :: 48 :: 48 :: 48 :: 48 :: 48 :: 48 :: 48 :: 48 :: 48 :: 48 :: 48 :: 48 :: 48 :: 48 :: 48 :: 48 :: 48 :: 48 :: 48 :: 48 :: 48 :: 48 :: 48 :: 48 :: 48 :: 48 :: 48 :: 48 :: 48 :: 48 :: 48 :: 48 :: 48 :: 48 :: 48 :: 48 :: 48 :: 48 :: 48 :: 48 :: 48 :: 48 :: []⟩⟩ : ByteArray) = sO := rfl
attribute [go_sem] aLE
def vP : ByteArray := ⟨⟨45 :: 45 :: 45 :: 45 :: 45 :: 45 :: 45 :: 45 :: 45 :: 45 :: 45 :: 45 :: 45 :: 45 :: 45 :: 45 :: 45 :: 45 :: 45 :: 45 :: 45 :: 45 :: 45 :: 45 :: 45 :: 45 :: 45 :: 45 :: 45 :: 45 :: 45 :: 45 :: 45 :: 45 :: 45 :: 45 :: 45 :: 45 :: 45 :: 45 :: 45 :: 45 :: 45 :: 45 :: 45 :: 45 :: 45 :: 45 :: 45 :: 45 :: 45 :: 45 :: 45 :: 45 :: 45 :: 45 :: 45 :: 45 :: 45 :: 45 :: 45 :: 45 :: 45 :: 45 :: 45 :: 45 :: 45 :: 45 :: 45 :: 45 :: 45 :: 45 :: 45 :: 45 :: 45 :: 45 :: 45 :: 45 :: 45 :: 45 :: 45 :: 45 :: 45 :: 45 :: 45 :: 45 :: 45 :: 45 :: 45 :: 45 :: 45 :: 45 :: 45 :: 45 :: 45 :: 45 :: 45 :: 45 :: 45 :: 45 :: 45 :: 45 :: 45 :: 45 :: 45 :: 45 :: 45 :: 45 :: 45 :: 45 :: 45 :: 45 :: 45 :: 45 :: 45 :: 45 :: 45 :: 45 :: 45 :: 45 :: 45 :: 45 :: 45 :: 45 :: 45 :: 45 :: 45 :: 45 :: []⟩⟩
theorem aLF : (⟨⟨45 :: 45 :: 45 :: 45 :: 45 :: 45 :: 45 :: 45 :: 45 :: 45 :: 45 :: 45 :: 45 :: 45 :: 45 :: 45 :: 45 :: 45 :: 45 :: 45 :: 45 :: 45 :: 45 :: 45 :: 45 :: 45 :: 45 :: 45 :: 45 :: 45 :: 45 :: 45 :: 45 :: 45 :: 45 :: 45 :: 45 :: 45 :: 45 :: 45 :: 45 :: 45 :: 45 :: 45 :: 45 :: 45 :: 45 :: 45 :: 45 :: 45 :: 45 :: 45 :: 45 :: 45 :: 45 :: 45 :: 45 :: 45 :: 45 :: 45 :: 45 :: 45 :: 45 :: 45 :: 45 :: 45 :: 45 :: 45 :: 45 :: 45 :: 45 :: 45 :: 45 :: 45 :: 45 :: 45 :: 45 :: 45 :: 45 :: 45 :: 45 :: 45 :: 45 :: 45 :: 45 :: 45 :: 45 :: 45 :: 45 :: 45 :: 45 :: 45 :: 45 :: 45 :: 45 :: 45 :: 45 :: 45 :: 45 :: 45 :: 45 :: 45 :: 45 :: 45 :: 45 :: 45 :: 45 :: 45 :: 45 :: 45 :: 45 :: 45 :: 45 :: 45 :: 45 :: 45 :: 45 :: 45 :: 45 :: 45 :: 45 :: 45 :: 45 :: 45 :: 45 :: 45 :: 45 :: 45 :: []⟩⟩ : ByteArray) = vP := rfl
attribute [go_sem] aLF
def zN : ByteArray := ⟨⟨61 :: 61 :: 61 :: 61 :: 61 :: 61 :: 61 :: 61 :: 61 :: 61 :: 61 :: 61 :: 61 :: 61 :: 61 :: 61 :: 61 :: 61 :: 61 :: 61 :: 61 :: 61 :: 61 :: 61 :: 61 :: 61 :: 61 :: 61 :: 61 :: 61 :: 61 :: 61 :: 61 :: 61 :: 61 :: 61 :: 61 :: 61 :: 61 :: 61 :: 61 :: 61 :: 61 :: 61 :: 61 :: 61 :: 61 :: 61 :: 61 :: 61 :: 61 :: 61 :: 61 :: 61 :: 61 :: 61 :: 61 :: 61 :: 61 :: 61 :: 61 :: 61 :: 61 :: 61 :: 61 :: 61 :: 61 :: 61 :: 61 :: 61 :: 61 :: 61 :: 61 :: 61 :: 61 :: 61 :: 61 :: 61 :: 61 :: 61 :: 61 :: 61 :: 61 :: 61 :: 61 :: 61 :: 61 :: 61 :: 61 :: 61 :: 61 :: 61 :: 61 :: 61 :: 61 :: 61 :: 61 :: 61 :: 61 :: 61 :: 61 :: 61 :: 61 :: 61 :: 61 :: 61 :: 61 :: 61 :: 61 :: 61 :: 61 :: 61 :: 61 :: 61 :: 61 :: 61 :: 61 :: 61 :: 61 :: 61 :: 61 :: 61 :: 61 :: 61 :: 61 :: 61 :: 61 :: 61 :: []⟩⟩
theorem aLG : (⟨⟨61 :: 61 :: 61 :: 61 :: 61 :: 61 :: 61 :: 61 :: 61 :: 61 :: 61 :: 61 :: 61 :: 61 :: 61 :: 61 :: 61 :: 61 :: 61 :: 61 :: 61 :: 61 :: 61 :: 61 :: 61 :: 61 :: 61 :: 61 :: 61 :: 61 :: 61 :: 61 :: 61 :: 61 :: 61 :: 61 :: 61 :: 61 :: 61 :: 61 :: 61 :: 61 :: 61 :: 61 :: 61 :: 61 :: 61 :: 61 :: 61 :: 61 :: 61 :: 61 :: 61 :: 61 :: 61 :: 61 :: 61 :: 61 :: 61 :: 61 :: 61 :: 61 :: 61 :: 61 :: 61 :: 61 :: 61 :: 61 :: 61 :: 61 :: 61 :: 61 :: 61 :: 61 :: 61 :: 61 :: 61 :: 61 :: 61 :: 61 :: 61 :: 61 :: 61 :: 61 :: 61 :: 61 :: 61 :: 61 :: 61 :: 61 :: 61 :: 61 :: 61 :: 61 :: 61 :: 61 :: 61 :: 61 :: 61 :: 61 :: 61 :: 61 :: 61 :: 61 :: 61 :: 61 :: 61 :: 61 :: 61 :: 61 :: 61 :: 61 :: 61 :: 61 :: 61 :: 61 :: 61 :: 61 :: 61 :: 61 :: 61 :: 61 :: 61 :: 61 :: 61 :: 61 :: 61 :: 61 :: []⟩⟩ : ByteArray) = zN := rfl
attribute [go_sem] aLG
def zO : ByteArray := ⟨⟨9 :: 9 :: 9 :: 9 :: 9 :: 9 :: 9 :: 9 :: 9 :: 9 :: 9 :: 9 :: 9 :: 9 :: 9 :: 9 :: 9 :: 9 :: 9 :: 9 :: 9 :: 9 :: 9 :: 9 :: 9 :: 9 :: 9 :: 9 :: 9 :: 9 :: 9 :: 9 :: 9 :: 9 :: 9 :: 9 :: 9 :: 9 :: 9 :: 9 :: 9 :: 9 :: 9 :: 9 :: 9 :: 9 :: 9 :: 9 :: 9 :: 9 :: 9 :: 9 :: 9 :: 9 :: 9 :: 9 :: 9 :: 9 :: 9 :: 9 :: 9 :: 9 :: 9 :: 9 :: []⟩⟩
theorem aLH : (⟨⟨9 :: 9 :: 9 :: 9 :: 9 :: 9 :: 9 :: 9 :: 9 :: 9 :: 9 :: 9 :: 9 :: 9 :: 9 :: 9 :: 9 :: 9 :: 9 :: 9 :: 9 :: 9 :: 9 :: 9 :: 9 :: 9 :: 9 :: 9 :: 9 :: 9 :: 9 :: 9 :: 9 :: 9 :: 9 :: 9 :: 9 :: 9 :: 9 :: 9 :: 9 :: 9 :: 9 :: 9 :: 9 :: 9 :: 9 :: 9 :: 9 :: 9 :: 9 :: 9 :: 9 :: 9 :: 9 :: 9 :: 9 :: 9 :: 9 :: 9 :: 9 :: 9 :: 9 :: 9 :: []⟩⟩ : ByteArray) = zO := rfl
attribute [go_sem] aLH
def zP : ByteArray := ⟨⟨48 :: 48 :: 48 :: 49 :: 48 :: 50 :: 48 :: 51 :: 48 :: 52 :: 48 :: 53 :: 48 :: 54 :: 48 :: 55 :: 48 :: 56 :: 48 :: 57 :: 49 :: 48 :: 49 :: 49 :: 49 :: 50 :: 49 :: 51 :: 49 :: 52 :: 49 :: 53 :: 49 :: 54 :: 49 :: 55 :: 49 :: 56 :: 49 :: 57 :: 50 :: 48 :: 50 :: 49 :: 50 :: 50 :: 50 :: 51 :: 50 :: 52 :: 50 :: 53 :: 50 :: 54 :: 50 :: 55 :: 50 :: 56 :: 50 :: 57 :: 51 :: 48 :: 51 :: 49 :: 51 :: 50 :: 51 :: 51 :: 51 :: 52 :: 51 :: 53 :: 51 :: 54 :: 51 :: 55 :: 51 :: 56 :: 51 :: 57 :: 52 :: 48 :: 52 :: 49 :: 52 :: 50 :: 52 :: 51 :: 52 :: 52 :: 52 :: 53 :: 52 :: 54 :: 52 :: 55 :: 52 :: 56 :: 52 :: 57 :: 53 :: 48 :: 53 :: 49 :: 53 :: 50 :: 53 :: 51 :: 53 :: 52 :: 53 :: 53 :: 53 :: 54 :: 53 :: 55 :: 53 :: 56 :: 53 :: 57 :: 54 :: 48 :: 54 :: 49 :: 54 :: 50 :: 54 :: 51 :: 54 :: 52 :: 54 :: 53 :: 54 :: 54 :: 54 :: 55 :: 54 :: 56 :: 54 :: 57 :: 55 :: 48 :: 55 :: 49 :: 55 :: 50 :: 55 :: 51 :: 55 :: 52 :: 55 :: 53 :: 55 :: 54 :: 55 :: 55 :: 55 :: 56 :: 55 :: 57 :: 56 :: 48 :: 56 :: 49 :: 56 :: 50 :: 56 :: 51 :: 56 :: 52 :: 56 :: 53 :: 56 :: 54 :: 56 :: 55 :: 56 :: 56 :: 56 :: 57 :: 57 :: 48 :: 57 :: 49 :: 57 :: 50 :: 57 :: 51 :: 57 :: 52 :: 57 :: 53 :: 57 :: 54 :: 57 :: 55 :: 57 :: 56 :: 57 :: 57 :: []⟩⟩
theorem aLI : (⟨⟨48 :: 48 :: 48 :: 49 :: 48 :: 50 :: 48 :: 51 :: 48 :: 52 :: 48 :: 53 :: 48 :: 54 :: 48 :: 55 :: 48 :: 56 :: 48 :: 57 :: 49 :: 48 :: 49 :: 49 :: 49 :: 50 :: 49 :: 51 :: 49 :: 52 :: 49 :: 53 :: 49 :: 54 :: 49 :: 55 :: 49 :: 56 :: 49 :: 57 :: 50 :: 48 :: 50 :: 49 :: 50 :: 50 :: 50 :: 51 :: 50 :: 52 :: 50 :: 53 :: 50 :: 54 :: 50 :: 55 :: 50 :: 56 :: 50 :: 57 :: 51 :: 48 :: 51 :: 49 :: 51 :: 50 :: 51 :: 51 :: 51 :: 52 :: 51 :: 53 :: 51 :: 54 :: 51 :: 55 :: 51 :: 56 :: 51 :: 57 :: 52 :: 48 :: 52 :: 49 :: 52 :: 50 :: 52 :: 51 :: 52 :: 52 :: 52 :: 53 :: 52 :: 54 :: 52 :: 55 :: 52 :: 56 :: 52 :: 57 :: 53 :: 48 :: 53 :: 49 :: 53 :: 50 :: 53 :: 51 :: 53 :: 52 :: 53 :: 53 :: 53 :: 54 :: 53 :: 55 :: 53 :: 56 :: 53 :: 57 :: 54 :: 48 :: 54 :: 49 :: 54 :: 50 :: 54 :: 51 :: 54 :: 52 :: 54 :: 53 :: 54 :: 54 :: 54 :: 55 :: 54 :: 56 :: 54 :: 57 :: 55 :: 48 :: 55 :: 49 :: 55 :: 50 :: 55 :: 51 :: 55 :: 52 :: 55 :: 53 :: 55 :: 54 :: 55 :: 55 :: 55 :: 56 :: 55 :: 57 :: 56 :: 48 :: 56 :: 49 :: 56 :: 50 :: 56 :: 51 :: 56 :: 52 :: 56 :: 53 :: 56 :: 54 :: 56 :: 55 :: 56 :: 56 :: 56 :: 57 :: 57 :: 48 :: 57 :: 49 :: 57 :: 50 :: 57 :: 51 :: 57 :: 52 :: 57 :: 53 :: 57 :: 54 :: 57 :: 55 :: 57 :: 56 :: 57 :: 57 :: []⟩⟩ : ByteArray) = zP := rfl
attribute [go_sem] aLI
def zQ : ByteArray := ⟨⟨48 :: 49 :: 50 :: 51 :: 52 :: 53 :: 54 :: 55 :: 56 :: 57 :: 97 :: 98 :: 99 :: 100 :: 101 :: 102 :: 103 :: 104 :: 105 :: 106 :: 107 :: 108 :: 109 :: 110 :: 111 :: 112 :: 113 :: 114 :: 115 :: 116 :: 117 :: 118 :: 119 :: 120 :: 121 :: 122 :: []⟩⟩
theorem aLJ : (⟨⟨48 :: 49 :: 50 :: 51 :: 52 :: 53 :: 54 :: 55 :: 56 :: 57 :: 97 :: 98 :: 99 :: 100 :: 101 :: 102 :: 103 :: 104 :: 105 :: 106 :: 107 :: 108 :: 109 :: 110 :: 111 :: 112 :: 113 :: 114 :: 115 :: 116 :: 117 :: 118 :: 119 :: 120 :: 121 :: 122 :: []⟩⟩ : ByteArray) = zQ := rfl
attribute [go_sem] aLJ
def vQ : ByteArray := ⟨⟨32 :: 32 :: 32 :: 32 :: 32 :: 32 :: 32 :: 32 :: 32 :: 32 :: 32 :: 32 :: 32 :: 32 :: 32 :: 32 :: 32 :: 32 :: 32 :: 32 :: 32 :: 32 :: 32 :: 32 :: 32 :: 32 :: 32 :: 32 :: 32 :: 32 :: 32 :: 32 :: 32 :: 32 :: 32 :: 32 :: 32 :: 32 :: 32 :: 32 :: 32 :: 32 :: 32 :: 32 :: 32 :: 32 :: 32 :: 32 :: 32 :: 32 :: 32 :: 32 :: 32 :: 32 :: 32 :: 32 :: 32 :: 32 :: 32 :: 32 :: 32 :: 32 :: 32 :: 32 :: 32 :: 32 :: 32 :: 32 :: 32 :: 32 :: 32 :: 32 :: 32 :: 32 :: 32 :: 32 :: 32 :: 32 :: 32 :: 32 :: 32 :: 32 :: 32 :: 32 :: 32 :: 32 :: 32 :: 32 :: 32 :: 32 :: 32 :: 32 :: 32 :: 32 :: 32 :: 32 :: 32 :: 32 :: 32 :: 32 :: 32 :: 32 :: 32 :: 32 :: 32 :: 32 :: 32 :: 32 :: 32 :: 32 :: 32 :: 32 :: 32 :: 32 :: 32 :: 32 :: 32 :: 32 :: 32 :: 32 :: 32 :: 32 :: 32 :: 32 :: 32 :: 32 :: 32 :: 32 :: []⟩⟩
theorem aLK : (⟨⟨32 :: 32 :: 32 :: 32 :: 32 :: 32 :: 32 :: 32 :: 32 :: 32 :: 32 :: 32 :: 32 :: 32 :: 32 :: 32 :: 32 :: 32 :: 32 :: 32 :: 32 :: 32 :: 32 :: 32 :: 32 :: 32 :: 32 :: 32 :: 32 :: 32 :: 32 :: 32 :: 32 :: 32 :: 32 :: 32 :: 32 :: 32 :: 32 :: 32 :: 32 :: 32 :: 32 :: 32 :: 32 :: 32 :: 32 :: 32 :: 32 :: 32 :: 32 :: 32 :: 32 :: 32 :: 32 :: 32 :: 32 :: 32 :: 32 :: 32 :: 32 :: 32 :: 32 :: 32 :: 32 :: 32 :: 32 :: 32 :: 32 :: 32 :: 32 :: 32 :: 32 :: 32 :: 32 :: 32 :: 32 :: 32 :: 32 :: 32 :: 32 :: 32 :: 32 :: 32 :: 32 :: 32 :: 32 :: 32 :: 32 :: 32 :: 32 :: 32 :: 32 :: 32 :: 32 :: 32 :: 32 :: 32 :: 32 :: 32 :: 32 :: 32 :: 32 :: 32 :: 32 :: 32 :: 32 :: 32 :: 32 :: 32 :: 32 :: 32 :: 32 :: 32 :: 32 :: 32 :: 32 :: 32 :: 32 :: 32 :: 32 :: 32 :: 32 :: 32 :: 32 :: 32 :: 32 :: 32 :: []⟩⟩ : ByteArray) = vQ := rfl
attribute [go_sem] aLK
noncomputable def fF (b_0 : Bool) : Option Int :=
 if b_0 = true then some (1 : Int) else some (0 : Int)
def uY : PlR := ⟨[(0, .A [0]), (1, .A [3]), (2, .A [2]), (3, .A [2])], []⟩
def wV : Ty := .pair .bool .unit
noncomputable def mP : aJ := mSpec wV (.one (.i .i64)) (fun x => fF x.1)
noncomputable def aC9 : List (FuncId × aJ) := []
theorem aDa : bL Tryz.prog GL aC9 := .nil
attribute [go_sem] wV uY
set_option maxHeartbeats 4000000 in
theorem aCp : FOK Tryz.prog GL 249 mP := by
 refine bZ (bF aDa) mix Tryz.func249 rfl (by kernel_rfl) (by decide) uY fun w0 S x Θ hw h hF => ?_
 obtain ⟨(b_0 : Bool), u⟩ := x
 simp only [cC, go_sem]
 replace h : sat (fF b_0) _ := h
 unfold fF at h
 refine aJH h (fun hc h => ?_) fun hc h => ?_
 ·exact aK hF [.tmp 2] rfl rfl rfl (aF h) (by simp only [bA, go_sem])
 ·exact aK hF [.tmp 2] rfl rfl rfl (aF h) (by simp only [bA, go_sem])
attribute [go_sem] mP
noncomputable def cG (x_0 : Int) : Option Int :=
 ck (I64 (x_0 * (78913 : Int))) (some (Int.fdiv (x_0 * (78913 : Int)) (2 ^ (18 : Nat))))
def uZ : PlR := ⟨[(0, .A [0]), (1, .A [2])], []⟩
def wW : Ty := .pair (.i .i64) .unit
noncomputable def mQ : aJ := mSpec wW (.one (.i .i64)) (fun x => cG x.1)
noncomputable def aDb : List (FuncId × aJ) := []
theorem aDc : bL Tryz.prog GL aDb := .nil
attribute [go_sem] wW uZ
set_option maxHeartbeats 4000000 in
theorem aCq : FOK Tryz.prog GL 248 mQ := by
 refine bZ (bF aDc) mix Tryz.func248 rfl (by kernel_rfl) (by decide) uZ fun w0 S x Θ hw h hF => ?_
 obtain ⟨(x_0 : Int), u⟩ := x
 simp only [cC, go_sem]
 replace h : sat (cG x_0) _ := h
 unfold cG at h
 refine aN h fun g0 h => ?_
 exact aK hF [.tmp 2] rfl rfl rfl (aF h) (by simp only [bA, go_sem])
attribute [go_sem] mQ
noncomputable def aL (d_0 : Nat) : Option Int :=
 ck (((cG (dK d_0)).isSome = true)) (ck (0 ≤ ((cG (dK d_0)).getD (0 : Int)) ∧ ((cG (dK d_0)).getD (0 : Int)) < (20 : Int)) (ck (((fF (decide ((p10.getD (((cG (dK d_0)).getD (0 : Int)).toNat) (0 : Nat)) ≤ d_0))).isSome = true)) (ck (I64 (((cG (dK d_0)).getD (0 : Int)) + ((fF (decide ((p10.getD (((cG (dK d_0)).getD (0 : Int)).toNat) (0 : Nat)) ≤ d_0))).getD (0 : Int)))) (some (((cG (dK d_0)).getD (0 : Int)) + ((fF (decide ((p10.getD (((cG (dK d_0)).getD (0 : Int)).toNat) (0 : Nat)) ≤ d_0))).getD (0 : Int)))))))
def vA : PlR := ⟨[(0, .A [0]), (1, .A [0, 3]), (2, .A [2])], []⟩
def wX : Ty := .pair (.u .u64) .unit
noncomputable def gE : aJ := mSpec wX (.one (.i .i64)) (fun x => aL x.1)
noncomputable def nJ : List (FuncId × aJ) := [(235, pT), (248, mQ), (249, mP)]
theorem aDd : bL Tryz.prog GL nJ := .cons aD1 (by kernel_rfl) (.cons aCq (by kernel_rfl) (.cons aCp (by kernel_rfl) (.nil)))
theorem aAN : gam nJ 235 = some pT := rfl
theorem aAO : gam nJ 248 = some mQ := rfl
theorem aAP : gam nJ 249 = some mP := rfl
attribute [go_sem] wX vA aAN aAO aAP
set_option maxHeartbeats 4000000 in
theorem vB : FOK Tryz.prog GL 216 gE := by
 refine bZ (bF aDd) mix Tryz.func216 rfl (by kernel_rfl) (by decide) vA fun w0 S x Θ hw h hF => ?_
 obtain ⟨(d_0 : Nat), u⟩ := x
 simp only [cC, go_sem]
 replace h : sat (aL d_0) _ := h
 unfold aL at h
 refine aN h fun g0 h => ?_
 refine aN h fun g0 h => aN h fun g1 h => aN h fun g2 h => ?_
 exact aK hF [.tmp 2] rfl rfl rfl (aF h) (by simp only [bA, go_sem])
attribute [go_sem] gE
noncomputable def fU (i_0 : Int) : Option (List Nat) :=
 if i_0 < (10 : Int) then ck (I64 (i_0 + (1 : Int))) (ck (0 ≤ i_0 ∧ i_0 ≤ (i_0 + (1 : Int)) ∧ (i_0 + (1 : Int)) ≤ ((((bE zQ).length) : Nat) : Int)) (some (List.drop (i_0.toNat) (List.take ((i_0 + (1 : Int)).toNat) (bE zQ))))) else ck (I64 (i_0 * (2 : Int))) (ck (I64 (i_0 * (2 : Int))) (ck (I64 ((i_0 * (2 : Int)) + (2 : Int))) (ck (0 ≤ (i_0 * (2 : Int)) ∧ (i_0 * (2 : Int)) ≤ ((i_0 * (2 : Int)) + (2 : Int)) ∧ ((i_0 * (2 : Int)) + (2 : Int)) ≤ ((((bE zP).length) : Nat) : Int)) (some (List.drop ((i_0 * (2 : Int)).toNat) (List.take (((i_0 * (2 : Int)) + (2 : Int)).toNat) (bE zP)))))))
def aAt : PlR := ⟨[(0, .A [0]), (1, .A [0, 4]), (2, .A [2]), (3, .A [2])], []⟩
def aBf : Ty := .pair (.i .i64) .unit
noncomputable def jU : aJ := mSpec aBf (.one .str) (fun x => fU x.1)
noncomputable def aGG : List (FuncId × aJ) := []
theorem aGH : bL Tryz.prog GL aGG := .nil
attribute [go_sem] aBf aAt
set_option maxHeartbeats 4000000 in
theorem aAu : FOK Tryz.prog GL 215 jU := by
 refine bZ (bF aGH) mix Tryz.func215 rfl (by kernel_rfl) (by decide) aAt fun w0 S x Θ hw h hF => ?_
 obtain ⟨(i_0 : Int), u⟩ := x
 simp only [cC, go_sem]
 replace h : sat (fU i_0) _ := h
 unfold fU at h
 refine jZ h (fun hc h => ?_) fun hc h => ?_
 ·refine aN h fun g0 h => aN h fun g1 h => ?_
  exact aK hF [.tmp 2] rfl rfl rfl (aF h) (by simp only [bA, go_sem])
 ·refine aN h fun g0 h => aN h fun g1 h => aN h fun g2 h => aN h fun g3 h => ?_
  exact aK hF [.tmp 2] rfl rfl rfl (aF h) (by simp only [bA, go_sem])
attribute [go_sem] jU
noncomputable def gF (i_0 : Nat) (base_1 : Int) : Option (List Nat) :=
 if base_1 = (10 : Int) then if i_0 < (100 : Nat) then ck (((fU (IntKind.i64.wrap ((i_0 : Nat) : Int))).isSome = true)) (some ((fU (IntKind.i64.wrap ((i_0 : Nat) : Int))).getD ([] : List Nat))) else ck (((aL i_0).isSome = true)) (ck ((0 : Int) < ((aL i_0).getD (0 : Int)) ∧ ((aL i_0).getD (0 : Int)) ≤ 24) (((cW (0 : Nat) ((((aL i_0).getD (0 : Int)) - (0 : Int)).toNat) i_0 (List.replicate 24 (0 : Nat)))).bind (fun r_5 => ck ((0 : Int) < ((aL i_0).getD (0 : Int)) ∧ ((aL i_0).getD (0 : Int)) ≤ 24) (ck ((0 : Nat) + ((((aL i_0).getD (0 : Int)) - (0 : Int)).toNat) ≤ 24) (some (List.take ((((aL i_0).getD (0 : Int)) - (0 : Int)).toNat) (List.drop (0 : Nat) r_5))))))) else none
def mR : Ty := .pair (.u .u64) (.pair (.i .i64) .unit)
attribute [go_sem] mR
noncomputable def kY : aJ := mSpec mR (.one .str) (fun x => gF x.1 x.2.1)
noncomputable def mS : List (FuncId × aJ) := [(215, jU), (216, gE)]
theorem vC : bL Tryz.prog GL mS := .cons aAu (by kernel_rfl) (.cons vB (by kernel_rfl) (.nil))
theorem zX : gam mS 215 = some jU := rfl
attribute [go_sem] zX
theorem zY : gam mS 216 = some gE := rfl
attribute [go_sem] zY
set_option maxHeartbeats 4000000 in
theorem aBW : FOK Tryz.prog GL 222 kY := by
 refine pS (bF vC) Tryz.func222 rfl (by kernel_rfl) (by decide) fun w0 S x r hw h => ?_
 have hF : iZ (fr Tryz.prog (EM mS) S w0 Tryz.f222.ntmps) := ⟨bF vC, mix⟩
 obtain ⟨(i_0 : Nat), (base_1 : Int), u⟩ := x
 simp only [mR, Ty.wf, lT] at hw
 simp only [cC, mR]
 try dsimp only at h
 unfold gF at h
 refine aC (aE hF [0, 1] ?_)
 simp only [go_sem]
 refine aD (aC (aC (aE hF [0, 1, 10] ?_)))
 simp only [go_sem]
 refine aD (bG rfl (fun hc => ?_) (fun hc => ?_))
 ·try simp only [go_sem] at hc
  have h := eF (by first | exact hc | omega | (simpa using hc) | (simp at hc ⊢; omega)) h
  refine aC (aC (aE hF [0, 12] ?_))
  simp only [go_sem]
  refine aD (bG rfl (fun hc => ?_) (fun hc => ?_))
  ·try simp only [go_sem] at hc
   have h := eF (by first | exact hc | omega | (simpa using hc) | (simp at hc ⊢; omega)) h
   refine aC (aE hF [4] ?_)
   simp only [go_sem]
   obtain ⟨g0, h⟩ := aH h
   repeat (refine ⟨by first | with_reducible assumption | omega | (intros; first | assumption | omega) | (simp only [go_sem] at *; first | assumption | omega) | decide, ?_⟩)
   obtain rfl := Option.some.inj h
   refine aD (dD (bW (bW (fD hF [.tmp 4] rfl rfl rfl ?_))))
   (try simp only [iH, bA, go_sem]) <;> first | rfl | (simp; done)
  ·try simp only [go_sem] at hc
   have h := eG (by first | exact hc | omega | (simpa using hc) | (simp at hc ⊢; omega)) h
   refine bR (aD (aC (bC hF [0, 5] ?_)))
   simp only [go_sem]
   refine aD (aC (aE hF [0, 5, 6] ?_))
   simp only [go_sem]
   obtain ⟨g0, h⟩ := aH h
   repeat (refine ⟨by first | with_reducible assumption | omega | (intros; first | assumption | omega) | (simp only [go_sem] at *; first | assumption | omega) | decide, ?_⟩)
   obtain ⟨g0, h⟩ := aH h
   obtain ⟨r_5, he1, h⟩ := bind_some h
   try dsimp only at h
   refine aD (aC (aT hF (cH (l := [(217, ⟨jG, [0], ((0 : Nat), ((((aL i_0).getD (0 : Int)) - (0 : Int)).toNat), i_0, (List.replicate 24 (0 : Nat)), r_5)⟩)]) (.cons rX (by kernel_rfl) (.nil))) [5, 6] [19] ?_))
   simp only [go_sem]
   repeat (refine ⟨by first | with_reducible assumption | omega | (intros; first | assumption | omega) | (simp only [go_sem] at *; first | assumption | omega) | decide, ?_⟩)
   obtain ⟨g0, h⟩ := aH h
   obtain ⟨g1, h⟩ := aH h
   refine aD (aC (aT hF (cH (l := []) (.nil)) [4] [23] ?_))
   simp only [go_sem]
   repeat (refine ⟨by first | with_reducible assumption | omega | (intros; first | assumption | omega) | (simp only [go_sem] at *; first | assumption | omega) | decide, ?_⟩)
   obtain rfl := Option.some.inj h
   refine aD (dD (bW (fD hF [.tmp 4] rfl rfl rfl ?_)))
   (try simp only [iH, bA, go_sem]) <;> first | rfl | (simp; done)
 ·try simp only [go_sem] at hc
  have h := eG (by first | exact hc | omega | (simpa using hc) | (simp at hc ⊢; omega)) h
  cases h
attribute [go_sem] kY
noncomputable def dT (i_0 : Nat) (base_1 : Int) : Option (List Nat) :=
 ck (((gF i_0 base_1).isSome = true)) (some ((gF i_0 base_1).getD ([] : List Nat)))
def vD : PlR := ⟨[(0, .A [0, 1]), (1, .A [4])], []⟩
def wY : Ty := .pair (.u .u64) (.pair (.i .i64) .unit)
noncomputable def mT : aJ := mSpec wY (.one .str) (fun x => dT x.1 x.2.1)
noncomputable def wZ : List (FuncId × aJ) := [(222, kY)]
theorem aDe : bL Tryz.prog GL wZ := .cons aBW (by kernel_rfl) (.nil)
theorem aAQ : gam wZ 222 = some kY := rfl
attribute [go_sem] wY vD aAQ
set_option maxHeartbeats 4000000 in
theorem aCr : FOK Tryz.prog GL 167 mT := by
 refine bZ (bF aDe) mix Tryz.func167 rfl (by kernel_rfl) (by decide) vD fun w0 S x Θ hw h hF => ?_
 obtain ⟨(i_0 : Nat), (base_1 : Int), u⟩ := x
 simp only [cC, go_sem]
 replace h : sat (dT i_0 base_1) _ := h
 unfold dT at h
 refine aN h fun g0 h => ?_
 exact aK hF [.tmp 4] rfl rfl rfl (aF h) (by simp only [bA, go_sem])
attribute [go_sem] mT
noncomputable def bK (x_0 : Nat) (y_1 : Nat) : Option (Nat × (Nat × Unit)) :=
 some (((bJ x_0 y_1).1), (((bJ x_0 y_1).2).1), ())
def aHD : PlR := ⟨[(0, .A [0, 1]), (3, .A [8, 9]), (4, .A [4, 5])], []⟩
def aKB : Ty := .pair (.u .u64) (.pair (.u .u64) .unit)
noncomputable def aAv : aJ := mSpec aKB (.tup (.pair (.u .u64) (.pair (.u .u64) .unit))) (fun x => bK x.1 x.2.1)
noncomputable def aKC : List (FuncId × aJ) := [(161, lI)]
theorem aQH : bL Tryz.prog GL aKC := .cons aAK (by kernel_rfl) (.nil)
theorem aKD : gam aKC 161 = some lI := rfl
attribute [go_sem] aKB aHD aKD
set_option maxHeartbeats 4000000 in
theorem aPq : FOK Tryz.prog GL 168 aAv := by
 refine bZ (bF aQH) mix Tryz.func168 rfl (by kernel_rfl) (by decide) aHD fun w0 S x Θ hw h hF => ?_
 obtain ⟨(x_0 : Nat), (y_1 : Nat), u⟩ := x
 simp only [cC, go_sem]
 replace h : sat (bK x_0 y_1) _ := h
 unfold bK at h
 exact aK hF [.tmp 4, .tmp 5] rfl rfl rfl (aF h) (by simp only [bA, go_sem])
attribute [go_sem] aAv
noncomputable def gH (s_0 : (List Nat)) (prefix_1 : (List Nat)) : Option Bool :=
 ck ((((prefix_1.length : Int) ≤ (s_0.length : Int)) → (0 ≤ (prefix_1.length : Int) ∧ (prefix_1.length : Int) ≤ (s_0.length : Int)))) (some ((decide ((prefix_1.length : Int) ≤ (s_0.length : Int))) && (decide ((List.take (prefix_1.length) s_0) = prefix_1))))
def rO : PlR := ⟨[(0, .A [0, 1]), (1, .A [4])], []⟩
def rY : Ty := .pair .str (.pair .str .unit)
noncomputable def iM : aJ := mSpec rY (.one .bool) (fun x => gH x.1 x.2.1)
noncomputable def aAR : List (FuncId × aJ) := []
theorem aAS : bL Tryz.prog GL aAR := .nil
attribute [go_sem] rY rO
set_option maxHeartbeats 4000000 in
theorem zZ : FOK Tryz.prog GL 224 iM := by
 refine bZ (bF aAS) mix Tryz.func224 rfl (by kernel_rfl) (by decide) rO fun w0 S x Θ hw h hF => ?_
 obtain ⟨(s_0 : (List Nat)), (prefix_1 : (List Nat)), u⟩ := x
 simp only [cC, go_sem]
 replace h : sat (gH s_0 prefix_1) _ := h
 unfold gH at h
 refine aN h fun g0 h => ?_
 exact aK hF [.tmp 4] rfl rfl rfl (aF h) (by simp only [bA, go_sem])
attribute [go_sem] iM
noncomputable def bN (s_0 : (List Nat)) (prefix_1 : (List Nat)) : Option Bool :=
 ck (((gH s_0 prefix_1).isSome = true)) (some ((gH s_0 prefix_1).getD false))
def xA : PlR := ⟨[(0, .A [0, 1]), (1, .A [4])], []⟩
def xO : Ty := .pair .str (.pair .str .unit)
noncomputable def nK : aJ := mSpec xO (.one .bool) (fun x => bN x.1 x.2.1)
noncomputable def xP : List (FuncId × aJ) := [(224, iM)]
theorem aDM : bL Tryz.prog GL xP := .cons zZ (by kernel_rfl) (.nil)
theorem aBg : gam xP 224 = some iM := rfl
attribute [go_sem] xO xA aBg
set_option maxHeartbeats 4000000 in
theorem aDf : FOK Tryz.prog GL 169 nK := by
 refine bZ (bF aDM) mix Tryz.func169 rfl (by kernel_rfl) (by decide) xA fun w0 S x Θ hw h hF => ?_
 obtain ⟨(s_0 : (List Nat)), (prefix_1 : (List Nat)), u⟩ := x
 simp only [cC, go_sem]
 replace h : sat (bN s_0 prefix_1) _ := h
 unfold bN at h
 refine aN h fun g0 h => ?_
 exact aK hF [.tmp 4] rfl rfl rfl (aF h) (by simp only [bA, go_sem])
attribute [go_sem] nK
noncomputable def kR (chunkMax_4 : Int) : Option ((List Nat)) :=
 none
noncomputable def oI (s_0 : (List Nat)) (count_1 : Int) : Option ((List Nat)) :=
 if (8192 : Int) < (IntKind.i64.wrap ((((((bK (((s_0.length : Int) % (18446744073709551616 : Int)).toNat) ((count_1 % (18446744073709551616 : Int)).toNat)).getD ((0 : Nat), (0 : Nat), ())).2).1) : Nat) : Int)) then ck ((s_0.length : Int) ≠ 0) (ck (I64 (Int.tdiv (8192 : Int) (s_0.length : Int))) (ck (I64 ((Int.tdiv (8192 : Int) (s_0.length : Int)) * (s_0.length : Int))) (if ((Int.tdiv (8192 : Int) (s_0.length : Int)) * (s_0.length : Int)) = (0 : Int) then kR (s_0.length : Int) else kR ((Int.tdiv (8192 : Int) (s_0.length : Int)) * (s_0.length : Int))))) else kR (IntKind.i64.wrap ((((((bK (((s_0.length : Int) % (18446744073709551616 : Int)).toNat) ((count_1 % (18446744073709551616 : Int)).toNat)).getD ((0 : Nat), (0 : Nat), ())).2).1) : Nat) : Int))
noncomputable def eJ (s_0 : (List Nat)) (count_1 : Int) (x43_5 : Bool) : Option ((List Nat)) :=
 if x43_5 = true then ck ((((IntKind.i64.wrap ((((((bK (((s_0.length : Int) % (18446744073709551616 : Int)).toNat) ((count_1 % (18446744073709551616 : Int)).toNat)).getD ((0 : Nat), (0 : Nat), ())).2).1) : Nat) : Int)) ≤ (128 : Int)) → (((bN (bE vQ) s_0).isSome = true)))) (if ((IntKind.i64.wrap ((((((bK (((s_0.length : Int) % (18446744073709551616 : Int)).toNat) ((count_1 % (18446744073709551616 : Int)).toNat)).getD ((0 : Nat), (0 : Nat), ())).2).1) : Nat) : Int)) ≤ (128 : Int)) ∧ (((bN (bE vQ) s_0).getD false) = true) then ck (0 ≤ (IntKind.i64.wrap ((((((bK (((s_0.length : Int) % (18446744073709551616 : Int)).toNat) ((count_1 % (18446744073709551616 : Int)).toNat)).getD ((0 : Nat), (0 : Nat), ())).2).1) : Nat) : Int)) ∧ (IntKind.i64.wrap ((((((bK (((s_0.length : Int) % (18446744073709551616 : Int)).toNat) ((count_1 % (18446744073709551616 : Int)).toNat)).getD ((0 : Nat), (0 : Nat), ())).2).1) : Nat) : Int)) ≤ ((((bE vQ).length) : Nat) : Int)) (some (List.take ((IntKind.i64.wrap ((((((bK (((s_0.length : Int) % (18446744073709551616 : Int)).toNat) ((count_1 % (18446744073709551616 : Int)).toNat)).getD ((0 : Nat), (0 : Nat), ())).2).1) : Nat) : Int)).toNat) (bE vQ))) else ck ((((IntKind.i64.wrap ((((((bK (((s_0.length : Int) % (18446744073709551616 : Int)).toNat) ((count_1 % (18446744073709551616 : Int)).toNat)).getD ((0 : Nat), (0 : Nat), ())).2).1) : Nat) : Int)) ≤ (128 : Int)) → (((bN (bE vP) s_0).isSome = true)))) (if ((IntKind.i64.wrap ((((((bK (((s_0.length : Int) % (18446744073709551616 : Int)).toNat) ((count_1 % (18446744073709551616 : Int)).toNat)).getD ((0 : Nat), (0 : Nat), ())).2).1) : Nat) : Int)) ≤ (128 : Int)) ∧ (((bN (bE vP) s_0).getD false) = true) then ck (0 ≤ (IntKind.i64.wrap ((((((bK (((s_0.length : Int) % (18446744073709551616 : Int)).toNat) ((count_1 % (18446744073709551616 : Int)).toNat)).getD ((0 : Nat), (0 : Nat), ())).2).1) : Nat) : Int)) ∧ (IntKind.i64.wrap ((((((bK (((s_0.length : Int) % (18446744073709551616 : Int)).toNat) ((count_1 % (18446744073709551616 : Int)).toNat)).getD ((0 : Nat), (0 : Nat), ())).2).1) : Nat) : Int)) ≤ ((((bE vP).length) : Nat) : Int)) (some (List.take ((IntKind.i64.wrap ((((((bK (((s_0.length : Int) % (18446744073709551616 : Int)).toNat) ((count_1 % (18446744073709551616 : Int)).toNat)).getD ((0 : Nat), (0 : Nat), ())).2).1) : Nat) : Int)).toNat) (bE vP))) else ck ((((IntKind.i64.wrap ((((((bK (((s_0.length : Int) % (18446744073709551616 : Int)).toNat) ((count_1 % (18446744073709551616 : Int)).toNat)).getD ((0 : Nat), (0 : Nat), ())).2).1) : Nat) : Int)) ≤ (64 : Int)) → (((bN (bE sO) s_0).isSome = true)))) (if ((IntKind.i64.wrap ((((((bK (((s_0.length : Int) % (18446744073709551616 : Int)).toNat) ((count_1 % (18446744073709551616 : Int)).toNat)).getD ((0 : Nat), (0 : Nat), ())).2).1) : Nat) : Int)) ≤ (64 : Int)) ∧ (((bN (bE sO) s_0).getD false) = true) then ck (0 ≤ (IntKind.i64.wrap ((((((bK (((s_0.length : Int) % (18446744073709551616 : Int)).toNat) ((count_1 % (18446744073709551616 : Int)).toNat)).getD ((0 : Nat), (0 : Nat), ())).2).1) : Nat) : Int)) ∧ (IntKind.i64.wrap ((((((bK (((s_0.length : Int) % (18446744073709551616 : Int)).toNat) ((count_1 % (18446744073709551616 : Int)).toNat)).getD ((0 : Nat), (0 : Nat), ())).2).1) : Nat) : Int)) ≤ ((((bE sO).length) : Nat) : Int)) (some (List.take ((IntKind.i64.wrap ((((((bK (((s_0.length : Int) % (18446744073709551616 : Int)).toNat) ((count_1 % (18446744073709551616 : Int)).toNat)).getD ((0 : Nat), (0 : Nat), ())).2).1) : Nat) : Int)).toNat) (bE sO))) else ck ((((IntKind.i64.wrap ((((((bK (((s_0.length : Int) % (18446744073709551616 : Int)).toNat) ((count_1 % (18446744073709551616 : Int)).toNat)).getD ((0 : Nat), (0 : Nat), ())).2).1) : Nat) : Int)) ≤ (128 : Int)) → (((bN (bE zN) s_0).isSome = true)))) (if ((IntKind.i64.wrap ((((((bK (((s_0.length : Int) % (18446744073709551616 : Int)).toNat) ((count_1 % (18446744073709551616 : Int)).toNat)).getD ((0 : Nat), (0 : Nat), ())).2).1) : Nat) : Int)) ≤ (128 : Int)) ∧ (((bN (bE zN) s_0).getD false) = true) then ck (0 ≤ (IntKind.i64.wrap ((((((bK (((s_0.length : Int) % (18446744073709551616 : Int)).toNat) ((count_1 % (18446744073709551616 : Int)).toNat)).getD ((0 : Nat), (0 : Nat), ())).2).1) : Nat) : Int)) ∧ (IntKind.i64.wrap ((((((bK (((s_0.length : Int) % (18446744073709551616 : Int)).toNat) ((count_1 % (18446744073709551616 : Int)).toNat)).getD ((0 : Nat), (0 : Nat), ())).2).1) : Nat) : Int)) ≤ ((((bE zN).length) : Nat) : Int)) (some (List.take ((IntKind.i64.wrap ((((((bK (((s_0.length : Int) % (18446744073709551616 : Int)).toNat) ((count_1 % (18446744073709551616 : Int)).toNat)).getD ((0 : Nat), (0 : Nat), ())).2).1) : Nat) : Int)).toNat) (bE zN))) else ck ((((IntKind.i64.wrap ((((((bK (((s_0.length : Int) % (18446744073709551616 : Int)).toNat) ((count_1 % (18446744073709551616 : Int)).toNat)).getD ((0 : Nat), (0 : Nat), ())).2).1) : Nat) : Int)) ≤ (64 : Int)) → (((bN (bE zO) s_0).isSome = true)))) (if ((IntKind.i64.wrap ((((((bK (((s_0.length : Int) % (18446744073709551616 : Int)).toNat) ((count_1 % (18446744073709551616 : Int)).toNat)).getD ((0 : Nat), (0 : Nat), ())).2).1) : Nat) : Int)) ≤ (64 : Int)) ∧ (((bN (bE zO) s_0).getD false) = true) then ck (0 ≤ (IntKind.i64.wrap ((((((bK (((s_0.length : Int) % (18446744073709551616 : Int)).toNat) ((count_1 % (18446744073709551616 : Int)).toNat)).getD ((0 : Nat), (0 : Nat), ())).2).1) : Nat) : Int)) ∧ (IntKind.i64.wrap ((((((bK (((s_0.length : Int) % (18446744073709551616 : Int)).toNat) ((count_1 % (18446744073709551616 : Int)).toNat)).getD ((0 : Nat), (0 : Nat), ())).2).1) : Nat) : Int)) ≤ ((((bE zO).length) : Nat) : Int)) (some (List.take ((IntKind.i64.wrap ((((((bK (((s_0.length : Int) % (18446744073709551616 : Int)).toNat) ((count_1 % (18446744073709551616 : Int)).toNat)).getD ((0 : Nat), (0 : Nat), ())).2).1) : Nat) : Int)).toNat) (bE zO))) else oI s_0 count_1))))) else oI s_0 count_1
noncomputable def aO (s_0 : (List Nat)) (count_1 : Int) : Option (List Nat) :=
 if count_1 = (0 : Int) then some (bE ⟨#[]⟩) else if count_1 = (1 : Int) then some s_0 else if count_1 < (0 : Int) then none else ck (((bK (((s_0.length : Int) % (18446744073709551616 : Int)).toNat) ((count_1 % (18446744073709551616 : Int)).toNat)).isSome = true)) (if ((0 : Nat) < (((bK (((s_0.length : Int) % (18446744073709551616 : Int)).toNat) ((count_1 % (18446744073709551616 : Int)).toNat)).getD ((0 : Nat), (0 : Nat), ())).1)) ∨ ((9223372036854775807 : Nat) < ((((bK (((s_0.length : Int) % (18446744073709551616 : Int)).toNat) ((count_1 % (18446744073709551616 : Int)).toNat)).getD ((0 : Nat), (0 : Nat), ())).2).1)) then none else if (s_0.length : Int) = (0 : Int) then some (bE ⟨#[]⟩) else ck ((0 : Int) < (s_0.length : Int)) (if (s_0.getD (0 : Nat) (0 : Nat)) = (32 : Nat) then eJ s_0 count_1 (decide ((s_0.getD (0 : Nat) (0 : Nat)) = (32 : Nat))) else if (s_0.getD (0 : Nat) (0 : Nat)) = (45 : Nat) then eJ s_0 count_1 (decide ((s_0.getD (0 : Nat) (0 : Nat)) = (45 : Nat))) else if (s_0.getD (0 : Nat) (0 : Nat)) = (48 : Nat) then eJ s_0 count_1 (decide ((s_0.getD (0 : Nat) (0 : Nat)) = (48 : Nat))) else if (s_0.getD (0 : Nat) (0 : Nat)) = (61 : Nat) then eJ s_0 count_1 (decide ((s_0.getD (0 : Nat) (0 : Nat)) = (61 : Nat))) else eJ s_0 count_1 (decide ((s_0.getD (0 : Nat) (0 : Nat)) = (9 : Nat)))))
def rG : Ty := .pair .str (.pair (.i .i64) .unit)
attribute [go_sem] rG
noncomputable def jV : aJ := mSpec rG (.one .str) (fun x => aO x.1 x.2.1)
noncomputable def rH : List (FuncId × aJ) := [(168, aAv), (169, nK)]
theorem aBh : bL Tryz.prog GL rH := .cons aPq (by kernel_rfl) (.cons aDf (by kernel_rfl) (.nil))
theorem aDg : gam rH 168 = some aAv := rfl
attribute [go_sem] aDg
theorem aDh : gam rH 169 = some nK := rfl
attribute [go_sem] aDh
set_option maxHeartbeats 4000000 in
theorem aAw : FOK Tryz.prog GL 101 jV := by
 refine pS (bF aBh) Tryz.func101 rfl (by kernel_rfl) (by decide) fun w0 S x r hw h => ?_
 have hF : iZ (fr Tryz.prog (EM rH) S w0 Tryz.f101.ntmps) := ⟨bF aBh, mix⟩
 obtain ⟨(s_0 : (List Nat)), (count_1 : Int), u⟩ := x
 simp only [rG, Ty.wf, lT] at hw
 simp only [cC, rG]
 try dsimp only at h
 unfold aO at h
 refine aC (aE hF [0, 1] ?_)
 simp only [go_sem]
 refine aD (aC (aC (aE hF [0, 1, 11] ?_)))
 simp only [go_sem]
 refine aD (dO (aC (aE hF [0, 1, 11, 12] ?_)))
 simp only [go_sem]
 refine aD (bG rfl (fun hc => ?_) (fun hc => ?_))
 ·try simp only [go_sem] at hc
  have h := eF (by first | exact hc | omega | (simpa using hc) | (simp at hc ⊢; omega)) h
  refine aC (aE hF [4] ?_)
  simp only [go_sem]
  obtain rfl := Option.some.inj h
  refine aD (dD (eO (bW (fD hF [.tmp 4] rfl rfl rfl ?_))))
  (try simp only [iH, bA, go_sem]) <;> first | rfl | (simp; done)
 ·try simp only [go_sem] at hc
  have h := eG (by first | exact hc | omega | (simpa using hc) | (simp at hc ⊢; omega)) h
  refine aC (aE hF [0, 1, 14] ?_)
  simp only [go_sem]
  refine aD (bG rfl (fun hc => ?_) (fun hc => ?_))
  ·try simp only [go_sem] at hc
   have h := eF (by first | exact hc | omega | (simpa using hc) | (simp at hc ⊢; omega)) h
   refine aC (aE hF [4] ?_)
   simp only [go_sem]
   obtain rfl := Option.some.inj h
   refine aD (dD (eO (bW (fD hF [.tmp 4] rfl rfl rfl ?_))))
   (try simp only [iH, bA, go_sem]) <;> first | rfl | (simp; done)
  ·try simp only [go_sem] at hc
   have h := eG (by first | exact hc | omega | (simpa using hc) | (simp at hc ⊢; omega)) h
   refine bR (eB (aD (aC (aC (aE hF [0, 1, 18] ?_)))))
   simp only [go_sem]
   refine aD (bG rfl (fun hc => ?_) (fun hc => ?_))
   ·try simp only [go_sem] at hc
    have h := eF (by first | exact hc | omega | (simpa using hc) | (simp at hc ⊢; omega)) h
    cases h
   ·try simp only [go_sem] at hc
    have h := eG (by first | exact hc | omega | (simpa using hc) | (simp at hc ⊢; omega)) h
    refine bR (aD (aC (aE hF [0, 5, 6] ?_)))
    simp only [go_sem]
    obtain ⟨g0, h⟩ := aH h
    repeat (refine ⟨by first | with_reducible assumption | omega | (intros; first | assumption | omega) | (simp only [go_sem] at *; first | assumption | omega) | decide, ?_⟩)
    refine aD (aC (aC (aE hF [0, 6, 34] ?_)))
    simp only [go_sem]
    refine aD (bG rfl (fun hc => ?_) (fun hc => ?_))
    ·try simp only [go_sem] at hc
     have h := eF (by first | exact hc | omega | (simpa using hc) | (simp at hc ⊢; omega)) h
     cases h
    ·try simp only [go_sem] at hc
     have h := eG (by first | exact hc | omega | (simpa using hc) | (simp at hc ⊢; omega)) h
     refine bR (aD (aC (aE hF [0, 7] ?_)))
     simp only [go_sem]
     refine aD (aC (aC (aE hF [0, 7, 40] ?_)))
     simp only [go_sem]
     refine aD (bG rfl (fun hc => ?_) (fun hc => ?_))
     ·try simp only [go_sem] at hc
      have h := eF (by first | exact hc | omega | (simpa using hc) | (simp at hc ⊢; omega)) h
      refine aC (aE hF [4] ?_)
      simp only [go_sem]
      obtain rfl := Option.some.inj h
      refine aD (dD (bW (fD hF [.tmp 4] rfl rfl rfl ?_)))
      (try simp only [iH, bA, go_sem]) <;> first | rfl | (simp; done)
     ·try simp only [go_sem] at hc
      have h := eG (by first | exact hc | omega | (simpa using hc) | (simp at hc ⊢; omega)) h
      refine bR (aD (jR (D := Unit) (fun d => oI s_0 count_1 = some r) [0, 7] (fun d => []) (fun d => []) ?_ ?_))
      ·refine aC (aE hF [0, 7, 42] ?_)
       simp only [go_sem]
       obtain ⟨g0, h⟩ := aH h
       repeat (refine ⟨by first | with_reducible assumption | omega | (intros; first | assumption | omega) | (simp only [go_sem] at *; first | assumption | omega) | decide, ?_⟩)
       refine aD (dO (jR (D := Bool) (fun d => eJ s_0 count_1 d = some r) [0, 7] (fun d => [(43, .val .bool d)]) (fun d => []) ?_ ?_))
       ·refine aC (aE hF [0, 7, 42, 43] ?_)
        simp only [go_sem]
        refine aD (bG rfl (fun hc => ?_) (fun hc => ?_))
        ·try simp only [go_sem] at hc
         have h := eF (by first | exact hc | omega | (simpa using hc) | (simp at hc ⊢; omega)) h
         refine bR (bB (aX ((decide ((s_0.getD (0 : Nat) (0 : Nat)) = (32 : Nat)))) h rfl ?_))
         ·(try simp only [jA, fL, true_or, and_self, go_sem]) <;> (repeat' apply And.intro) <;> first | rfl | (left; rfl) | (right; rfl) | (left; simp only [go_sem]; done) | (right; simp only [go_sem]; done) | (simp; done) | (simp only [*]; done) | omega
        ·try simp only [go_sem] at hc
         have h := eG (by first | exact hc | omega | (simpa using hc) | (simp at hc ⊢; omega)) h
         refine aC (aE hF [0, 7, 42, 43] ?_)
         simp only [go_sem]
         refine aD (bG rfl (fun hc => ?_) (fun hc => ?_))
         ·try simp only [go_sem] at hc
          have h := eF (by first | exact hc | omega | (simpa using hc) | (simp at hc ⊢; omega)) h
          refine bR (bB (aX ((decide ((s_0.getD (0 : Nat) (0 : Nat)) = (45 : Nat)))) h rfl ?_))
          ·(try simp only [jA, fL, true_or, and_self, go_sem]) <;> (repeat' apply And.intro) <;> first | rfl | (left; rfl) | (right; rfl) | (left; simp only [go_sem]; done) | (right; simp only [go_sem]; done) | (simp; done) | (simp only [*]; done) | omega
         ·try simp only [go_sem] at hc
          have h := eG (by first | exact hc | omega | (simpa using hc) | (simp at hc ⊢; omega)) h
          refine aC (aE hF [0, 7, 42, 43] ?_)
          simp only [go_sem]
          refine aD (bG rfl (fun hc => ?_) (fun hc => ?_))
          ·try simp only [go_sem] at hc
           have h := eF (by first | exact hc | omega | (simpa using hc) | (simp at hc ⊢; omega)) h
           refine bR (bB (aX ((decide ((s_0.getD (0 : Nat) (0 : Nat)) = (48 : Nat)))) h rfl ?_))
           ·(try simp only [jA, fL, true_or, and_self, go_sem]) <;> (repeat' apply And.intro) <;> first | rfl | (left; rfl) | (right; rfl) | (left; simp only [go_sem]; done) | (right; simp only [go_sem]; done) | (simp; done) | (simp only [*]; done) | omega
          ·try simp only [go_sem] at hc
           have h := eG (by first | exact hc | omega | (simpa using hc) | (simp at hc ⊢; omega)) h
           refine aC (aE hF [0, 7, 42, 43] ?_)
           simp only [go_sem]
           refine aD (bG rfl (fun hc => ?_) (fun hc => ?_))
           ·try simp only [go_sem] at hc
            have h := eF (by first | exact hc | omega | (simpa using hc) | (simp at hc ⊢; omega)) h
            refine bR (bB (aX ((decide ((s_0.getD (0 : Nat) (0 : Nat)) = (61 : Nat)))) h rfl ?_))
            ·(try simp only [jA, fL, true_or, and_self, go_sem]) <;> (repeat' apply And.intro) <;> first | rfl | (left; rfl) | (right; rfl) | (left; simp only [go_sem]; done) | (right; simp only [go_sem]; done) | (simp; done) | (simp only [*]; done) | omega
           ·try simp only [go_sem] at hc
            have h := eG (by first | exact hc | omega | (simpa using hc) | (simp at hc ⊢; omega)) h
            refine aE hF [0, 7, 43] ?_
            simp only [go_sem]
            refine bB (aX ((decide ((s_0.getD (0 : Nat) (0 : Nat)) = (9 : Nat)))) h rfl ?_)
            ·(try simp only [jA, fL, true_or, and_self, go_sem]) <;> (repeat' apply And.intro) <;> first | rfl | (left; rfl) | (right; rfl) | (left; simp only [go_sem]; done) | (right; simp only [go_sem]; done) | (simp; done) | (simp only [*]; done) | omega
       ·rintro x43_5 h
        try dsimp only at h
        simp only [go_sem]
        unfold eJ at h
        refine bG rfl (fun hc => ?_) (fun hc => ?_)
        ·try simp only [go_sem] at hc
         have h := eF (by first | exact hc | omega | (simpa using hc) | (simp at hc ⊢; omega)) h
         refine dO (aC (aE hF [0, 7, 49] ?_))
         simp only [go_sem]
         obtain ⟨g0, h⟩ := aH h
         repeat (refine ⟨by first | with_reducible assumption | omega | (intros; first | assumption | omega) | (simp only [go_sem] at *; first | assumption | omega) | (intro q0; (try have e0 := g0 (by first | exact q0 | omega | (simpa using q0))); first | assumption | omega) | decide, ?_⟩)
         refine aD (bG rfl (fun hc => ?_) (fun hc => ?_))
         ·try simp only [go_sem] at hc
          have h := eF (by first | exact hc | omega | (simpa using hc) | (simp at hc ⊢; omega)) h
          refine aC (aE hF [4] ?_)
          simp only [go_sem]
          obtain ⟨g0, h⟩ := aH h
          repeat (refine ⟨by first | with_reducible assumption | omega | (intros; first | assumption | omega) | (simp only [go_sem] at *; first | assumption | omega) | decide, ?_⟩)
          obtain rfl := Option.some.inj h
          refine aD (dD (eO (eO (bW (fD hF [.tmp 4] rfl rfl rfl ?_)))))
          (try simp only [iH, bA, go_sem]) <;> first | rfl | (simp; done)
         ·try simp only [go_sem] at hc
          have h := eG (by first | exact hc | omega | (simpa using hc) | (simp at hc ⊢; omega)) h
          refine aC (aE hF [0, 7, 58] ?_)
          simp only [go_sem]
          obtain ⟨g0, h⟩ := aH h
          repeat (refine ⟨by first | with_reducible assumption | omega | (intros; first | assumption | omega) | (simp only [go_sem] at *; first | assumption | omega) | (intro q0; (try have e0 := g0 (by first | exact q0 | omega | (simpa using q0))); first | assumption | omega) | decide, ?_⟩)
          refine aD (bG rfl (fun hc => ?_) (fun hc => ?_))
          ·try simp only [go_sem] at hc
           have h := eF (by first | exact hc | omega | (simpa using hc) | (simp at hc ⊢; omega)) h
           refine aC (aE hF [4] ?_)
           simp only [go_sem]
           obtain ⟨g0, h⟩ := aH h
           repeat (refine ⟨by first | with_reducible assumption | omega | (intros; first | assumption | omega) | (simp only [go_sem] at *; first | assumption | omega) | decide, ?_⟩)
           obtain rfl := Option.some.inj h
           refine aD (dD (eO (eO (bW (fD hF [.tmp 4] rfl rfl rfl ?_)))))
           (try simp only [iH, bA, go_sem]) <;> first | rfl | (simp; done)
          ·try simp only [go_sem] at hc
           have h := eG (by first | exact hc | omega | (simpa using hc) | (simp at hc ⊢; omega)) h
           refine aC (aE hF [0, 7, 67] ?_)
           simp only [go_sem]
           obtain ⟨g0, h⟩ := aH h
           repeat (refine ⟨by first | with_reducible assumption | omega | (intros; first | assumption | omega) | (simp only [go_sem] at *; first | assumption | omega) | (intro q0; (try have e0 := g0 (by first | exact q0 | omega | (simpa using q0))); first | assumption | omega) | decide, ?_⟩)
           refine aD (bG rfl (fun hc => ?_) (fun hc => ?_))
           ·try simp only [go_sem] at hc
            have h := eF (by first | exact hc | omega | (simpa using hc) | (simp at hc ⊢; omega)) h
            refine aC (aE hF [4] ?_)
            simp only [go_sem]
            obtain ⟨g0, h⟩ := aH h
            repeat (refine ⟨by first | with_reducible assumption | omega | (intros; first | assumption | omega) | (simp only [go_sem] at *; first | assumption | omega) | decide, ?_⟩)
            obtain rfl := Option.some.inj h
            refine aD (dD (eO (eO (bW (fD hF [.tmp 4] rfl rfl rfl ?_)))))
            (try simp only [iH, bA, go_sem]) <;> first | rfl | (simp; done)
           ·try simp only [go_sem] at hc
            have h := eG (by first | exact hc | omega | (simpa using hc) | (simp at hc ⊢; omega)) h
            refine aC (aE hF [0, 7, 76] ?_)
            simp only [go_sem]
            obtain ⟨g0, h⟩ := aH h
            repeat (refine ⟨by first | with_reducible assumption | omega | (intros; first | assumption | omega) | (simp only [go_sem] at *; first | assumption | omega) | (intro q0; (try have e0 := g0 (by first | exact q0 | omega | (simpa using q0))); first | assumption | omega) | decide, ?_⟩)
            refine aD (bG rfl (fun hc => ?_) (fun hc => ?_))
            ·try simp only [go_sem] at hc
             have h := eF (by first | exact hc | omega | (simpa using hc) | (simp at hc ⊢; omega)) h
             refine aC (aE hF [4] ?_)
             simp only [go_sem]
             obtain ⟨g0, h⟩ := aH h
             repeat (refine ⟨by first | with_reducible assumption | omega | (intros; first | assumption | omega) | (simp only [go_sem] at *; first | assumption | omega) | decide, ?_⟩)
             obtain rfl := Option.some.inj h
             refine aD (dD (eO (eO (bW (fD hF [.tmp 4] rfl rfl rfl ?_)))))
             (try simp only [iH, bA, go_sem]) <;> first | rfl | (simp; done)
            ·try simp only [go_sem] at hc
             have h := eG (by first | exact hc | omega | (simpa using hc) | (simp at hc ⊢; omega)) h
             refine aC (aE hF [0, 7, 85] ?_)
             simp only [go_sem]
             obtain ⟨g0, h⟩ := aH h
             repeat (refine ⟨by first | with_reducible assumption | omega | (intros; first | assumption | omega) | (simp only [go_sem] at *; first | assumption | omega) | (intro q0; (try have e0 := g0 (by first | exact q0 | omega | (simpa using q0))); first | assumption | omega) | decide, ?_⟩)
             refine aD (bG rfl (fun hc => ?_) (fun hc => ?_))
             ·try simp only [go_sem] at hc
              have h := eF (by first | exact hc | omega | (simpa using hc) | (simp at hc ⊢; omega)) h
              refine aC (aE hF [4] ?_)
              simp only [go_sem]
              obtain ⟨g0, h⟩ := aH h
              repeat (refine ⟨by first | with_reducible assumption | omega | (intros; first | assumption | omega) | (simp only [go_sem] at *; first | assumption | omega) | decide, ?_⟩)
              obtain rfl := Option.some.inj h
              refine aD (dD (eO (eO (bW (fD hF [.tmp 4] rfl rfl rfl ?_)))))
              (try simp only [iH, bA, go_sem]) <;> first | rfl | (simp; done)
             ·try simp only [go_sem] at hc
              have h := eG (by first | exact hc | omega | (simpa using hc) | (simp at hc ⊢; omega)) h
              refine bR (eB (eB (bB (aX (()) h rfl ?_))))
              ·(try simp only [jA, fL, true_or, and_self, go_sem]) <;> (repeat' apply And.intro) <;> first | rfl | (left; rfl) | (right; rfl) | (left; simp only [go_sem]; done) | (right; simp only [go_sem]; done) | (simp; done) | (simp only [*]; done) | omega
        ·try simp only [go_sem] at hc
         have h := eG (by first | exact hc | omega | (simpa using hc) | (simp at hc ⊢; omega)) h
         refine bR (eB (bB (aX (()) h rfl ?_)))
         ·(try simp only [jA, fL, true_or, and_self, go_sem]) <;> (repeat' apply And.intro) <;> first | rfl | (left; rfl) | (right; rfl) | (left; simp only [go_sem]; done) | (right; simp only [go_sem]; done) | (simp; done) | (simp only [*]; done) | omega
      ·rintro u h
       try dsimp only at h
       simp only [go_sem]
       unfold oI at h
       refine aC (aE hF [0, 7, 8] ?_)
       simp only [go_sem]
       refine aD (jR (D := Int) (fun d => kR d = some r) [0, 7] (fun d => [(8, .val (.i .i64) d)]) (fun d => []) ?_ ?_)
       ·refine aC (aE hF [0, 7, 8, 96] ?_)
        simp only [go_sem]
        refine aD (bG rfl (fun hc => ?_) (fun hc => ?_))
        ·try simp only [go_sem] at hc
         have h := eF (by first | exact hc | omega | (simpa using hc) | (simp at hc ⊢; omega)) h
         refine aC (aE hF [0, 7, 8] ?_)
         simp only [go_sem]
         obtain ⟨g0, h⟩ := aH h
         obtain ⟨g1, h⟩ := aH h
         obtain ⟨g2, h⟩ := aH h
         try simp only [I64, I32] at g1
         try simp only [I64, I32] at g2
         repeat (refine ⟨by first | with_reducible assumption | omega | (intros; first | assumption | omega) | (simp only [go_sem] at *; first | assumption | omega) | decide, ?_⟩)
         refine aD (aC (aE hF [0, 7, 8, 104] ?_))
         simp only [go_sem]
         refine aD (bG rfl (fun hc => ?_) (fun hc => ?_))
         ·try simp only [go_sem] at hc
          have h := eF (by first | exact hc | omega | (simpa using hc) | (simp at hc ⊢; omega)) h
          refine aE hF [0, 7, 8] ?_
          simp only [go_sem]
          refine bB (aX ((s_0.length : Int)) h rfl ?_)
          ·(try simp only [jA, fL, true_or, and_self, go_sem]) <;> (repeat' apply And.intro) <;> first | rfl | (left; rfl) | (right; rfl) | (left; simp only [go_sem]; done) | (right; simp only [go_sem]; done) | (simp; done) | (simp only [*]; done) | omega
         ·try simp only [go_sem] at hc
          have h := eG (by first | exact hc | omega | (simpa using hc) | (simp at hc ⊢; omega)) h
          refine bR (bB (aX (((Int.tdiv (8192 : Int) (s_0.length : Int)) * (s_0.length : Int))) h rfl ?_))
          ·(try simp only [jA, fL, true_or, and_self, go_sem]) <;> (repeat' apply And.intro) <;> first | rfl | (left; rfl) | (right; rfl) | (left; simp only [go_sem]; done) | (right; simp only [go_sem]; done) | (simp; done) | (simp only [*]; done) | omega
        ·try simp only [go_sem] at hc
         have h := eG (by first | exact hc | omega | (simpa using hc) | (simp at hc ⊢; omega)) h
         refine bR (bB (aX ((IntKind.i64.wrap ((((((bK (((s_0.length : Int) % (18446744073709551616 : Int)).toNat) ((count_1 % (18446744073709551616 : Int)).toNat)).getD ((0 : Nat), (0 : Nat), ())).2).1) : Nat) : Int))) h rfl ?_))
         ·(try simp only [jA, fL, true_or, and_self, go_sem]) <;> (repeat' apply And.intro) <;> first | rfl | (left; rfl) | (right; rfl) | (left; simp only [go_sem]; done) | (right; simp only [go_sem]; done) | (simp; done) | (simp only [*]; done) | omega
       ·rintro chunkMax_4 h
        try dsimp only at h
        simp only [go_sem]
        unfold kR at h
        refine aC (bC hF [0, 7, 8, 9] ?_)
        simp only [go_sem]
        refine aUu 0 4294967397 5 rfl ?_
        simp only [go_sem]
        cases h
attribute [go_sem] jV
end Nu
end Go.Proofs
namespace Go.Proofs
open Go.Vc
set_option maxRecDepth 20000
namespace Nu
noncomputable def mG (l_8 : (List (List Nat))) (out_13 : (List Nat)) (x44_14 : Int) : Option (((List Nat) × Int) ⊕ (((List Nat)))) :=
 if x44_14 < (l_8.length : Int) then ck (0 ≤ x44_14 ∧ x44_14 < (l_8.length : Int)) (ck (((l_8.getD (x44_14.toNat) ([] : List Nat)).length) + (out_13.length) ≤ 9223372036854775807) (ck (I64 (x44_14 + (1 : Int))) (some (.inl (((l_8.getD (x44_14.toNat) ([] : List Nat)) ++ out_13), (x44_14 + (1 : Int))))))) else some (.inr out_13)
noncomputable def pW (l_8 : (List (List Nat))) : Option ((List Nat)) :=
 (eQ (fun d : (List Nat) × Int => mG l_8 d.1 d.2) ((bE ⟨#[]⟩), (0 : Int))).bind (fun e => some e)
noncomputable def jH (l_20 : (List (List Nat))) (m_19 : (List Nat)) (s_25 : (List Nat)) : Option (((List Nat) × (List (List Nat))) ⊕ (((List (List Nat))))) :=
 ck (((l_20.length) + (1 : Nat)) * 16 ≤ 140737488355328) (if (((((cA m_19 ([1000000000000000000] : List Nat)).1).length) : Nat) : Int) = (0 : Int) then some (.inr (l_20 ++ ([s_25] : List (List Nat)))) else ck (I64 (((((l_20 ++ ([s_25] : List (List Nat))).length) : Nat) : Int) - (1 : Int))) (ck (I64 ((18 : Int) - (s_25.length : Int))) (ck (((aO (bE ⟨#[48]⟩) ((18 : Int) - (s_25.length : Int))).isSome = true)) (ck ((((aO (bE ⟨#[48]⟩) ((18 : Int) - (s_25.length : Int))).getD ([] : List Nat)).length) + (s_25.length) ≤ 9223372036854775807) (ck (0 ≤ (((((l_20 ++ ([s_25] : List (List Nat))).length) : Nat) : Int) - (1 : Int)) ∧ (((((l_20 ++ ([s_25] : List (List Nat))).length) : Nat) : Int) - (1 : Int)) < ((((l_20 ++ ([s_25] : List (List Nat))).length) : Nat) : Int)) (some (.inl (((cA m_19 ([1000000000000000000] : List Nat)).1), ((l_20 ++ ([s_25] : List (List Nat))).set ((((((l_20 ++ ([s_25] : List (List Nat))).length) : Nat) : Int) - (1 : Int)).toNat) (((aO (bE ⟨#[48]⟩) ((18 : Int) - (s_25.length : Int))).getD ([] : List Nat)) ++ s_25))))))))))
noncomputable def lL (m_19 : (List Nat)) (l_20 : (List (List Nat))) : Option (((List Nat) × (List (List Nat))) ⊕ (((List (List Nat))))) :=
 ck ((uI m_19 ([1000000000000000000] : List Nat))) (if (0 : Int) < ((((((cA m_19 ([1000000000000000000] : List Nat)).2).1).length) : Nat) : Int) then ck ((0 : Int) < ((((((cA m_19 ([1000000000000000000] : List Nat)).2).1).length) : Nat) : Int)) (ck (((dT ((((cA m_19 ([1000000000000000000] : List Nat)).2).1).getD (0 : Nat) (0 : Nat)) (10 : Int)).isSome = true)) (jH l_20 m_19 ((dT ((((cA m_19 ([1000000000000000000] : List Nat)).2).1).getD (0 : Nat) (0 : Nat)) (10 : Int)).getD ([] : List Nat)))) else jH l_20 m_19 (bE ⟨#[]⟩))
noncomputable def aR (m_0 : (List Nat)) : Option (List Nat) :=
 (eQ (fun d : (List Nat) × (List (List Nat)) => lL d.1 d.2) (m_0, ([] : List (List Nat)))).bind (fun e => pW e)
def aHE : PlR := ⟨[(0, .A [0]), (1, .A [0, 3]), (2, .A [3, 4, 5]), (3, .A [3, 4, 5, 6]), (4, .A [3, 4, 5, 6, 18]), (5, .A [3, 4, 6]), (6, .B [3, 4, 6]), (7, .A [0, 3, 6]), (8, .A [0, 3, 6, 30]), (9, .B [0, 3]), (10, .A [3, 7]), (11, .A [7, 42, 43, 44]), (12, .A [7, 42, 43, 44, 45]), (13, .A [7, 9, 42, 43, 44]), (14, .A [7, 42, 43, 44]), (15, .A [7, 42, 43, 44]), (16, .A [2])], [(5, 13), (7, 9)]⟩
def aKE : Ty := .pair (.sl (.u .u64)) .unit
noncomputable def aAx : aJ := mSpec aKE (.one .str) (fun x => aR x.1)
noncomputable def aBX : List (FuncId × aJ) := [(101, jV), (166, pV), (167, mT)]
theorem aQI : bL Tryz.prog GL aBX := .cons aAw (by kernel_rfl) (.cons aD7 (by kernel_rfl) (.cons aCr (by kernel_rfl) (.nil)))
theorem aKF : gam aBX 101 = some jV := rfl
theorem aKG : gam aBX 166 = some pV := rfl
theorem aKH : gam aBX 167 = some mT := rfl
attribute [go_sem] aKE aHE aKF aKG aKH
set_option maxHeartbeats 4000000 in
theorem aPr : FOK Tryz.prog GL 100 aAx := by
 refine bZ (bF aQI) mix Tryz.func100 rfl (by kernel_rfl) (by decide) aHE fun w0 S x Θ hw h hF => ?_
 obtain ⟨(m_0 : (List Nat)), u⟩ := x
 simp only [cC, go_sem]
 replace h : sat (aR m_0) _ := h
 unfold aR at h
 refine eC hF (D := (List (List Nat))) (fun d => sat (pW d) Θ) [] (fun d => [(3, .own 0)]) (fun d => [.inr (.row 9 .str d)]) ?_ ?_
 ·simp only [go_sem]
  refine aP4 3 9 .str rfl ?_
  simp only [go_sem]
  refine dP hF (D := (List Nat) × (List (List Nat))) [] (fun d => [(0, .val (.sl (.u .u64)) d.1), (3, .own 0)]) (fun d => [.inr (.row 9 .str d.2)]) h rfl (by simp only [go_sem]) ?_
  rintro ⟨m_19, l_20⟩ A2 T2 hA2 hE2 h
  simp only [go_sem]
  replace h : sat (lL m_19 l_20) _ := h
  unfold lL at h
  refine aN h fun g0 h => ?_
  refine eC hF (D := (List Nat)) (fun d => sat (jH l_20 m_19 d) T2) [4] (fun d => [(3, .own 0), (6, .val .str d)]) (fun d => [.inr (.row 9 .str l_20)]) ?_ ?_
  ·simp only [go_sem]
   refine jZ h (fun hc h => ?_) fun hc h => ?_
   ·obtain ⟨g0, h⟩ := aM h
    obtain ⟨g1, h⟩ := aM h
    repeat (refine ⟨by omega, ?_⟩)
    exact aX (((dT ((((cA m_19 ([1000000000000000000] : List Nat)).2).1).getD (0 : Nat) (0 : Nat)) (10 : Int)).getD ([] : List Nat))) h rfl (by simp only [go_sem])
   ·exact aX ((bE ⟨#[]⟩)) h rfl (by simp only [go_sem])
  ·rintro s_25 h
   simp only [go_sem]
   replace h : sat (jH l_20 m_19 s_25) _ := h
   unfold jH at h
   obtain ⟨g0, h⟩ := aM h
   repeat (refine ⟨by omega, ?_⟩)
   refine iL h (fun hc h => ?_) fun hc h => ?_
   ·replace h := hE2 _ (aF h)
    try dsimp only at h
    refine oN [1] rfl rfl ?_
    simp only [go_sem]
    exact aX ((l_20 ++ ([s_25] : List (List Nat)))) h rfl (by simp only [go_sem])
   ·obtain ⟨g0, h⟩ := aM h
    repeat (refine ⟨by omega, ?_⟩)
    obtain ⟨g0, h⟩ := aM h
    repeat (refine ⟨by omega, ?_⟩)
    obtain ⟨g0, h⟩ := aM h
    repeat (refine ⟨by omega, ?_⟩)
    obtain ⟨g0, h⟩ := aM h
    repeat (refine ⟨by omega, ?_⟩)
    obtain ⟨g0, h⟩ := aM h
    repeat (refine ⟨by omega, ?_⟩)
    replace h := hA2 _ (aF h)
    refine oN [1] rfl rfl ?_
    simp only [go_sem]
    exact aX _ h rfl (by simp only [go_sem])
 ·rintro l_8 h
  simp only [go_sem]
  replace h : sat (pW l_8) _ := h
  unfold pW at h
  refine dP hF (D := (List Nat) × Int) [43] (fun d => [(7, .val .str d.1), (42, .own 0), (44, .val (.i .i64) d.2)]) (fun d => [.inr (.row 9 .str l_8)]) h rfl (by simp only [go_sem]) ?_
  rintro ⟨out_13, x44_14⟩ A12 T12 hA12 hE12 h
  simp only [go_sem]
  replace h : sat (mG l_8 out_13 x44_14) _ := h
  unfold mG at h
  refine jZ h (fun hc h => ?_) fun hc h => ?_
  ·obtain ⟨g0, h⟩ := aM h
   repeat (refine ⟨by omega, ?_⟩)
   refine aN h fun g0 h => ?_
   refine aN h fun g0 h => ?_
   replace h := hA12 _ (aF h)
   exact aX _ h rfl (by simp only [go_sem])
  ·replace h := hE12 _ (aF h)
   try dsimp only at h
   exact aK hF [.tmp 2] rfl rfl rfl (aF h) (by simp only [bA, go_sem])
attribute [go_sem] aAx
noncomputable def oA (d_0 : qD0) (q_4 : (List Nat)) (s_5 : (List Nat)) : Option (((List Nat) × (Int × Unit))) :=
 if ((d_0.1) = true) ∧ ((0 : Int) < (q_4.length : Int)) then ck (((bE ⟨#[45]⟩).length) + (s_5.length) ≤ 9223372036854775807) (some (((bE ⟨#[45]⟩) ++ s_5), (0 : Int), ())) else some (s_5, (0 : Int), ())
noncomputable def oB (digits_1 : Int) (d_0 : qD0) (q_4 : (List Nat)) : Option (((List Nat) × (Int × Unit))) :=
 ck (((aR q_4).isSome = true)) (ck (I64 (digits_1 + (1 : Int))) (ck (I64 ((digits_1 + (1 : Int)) - (((((aR q_4).getD ([] : List Nat)).length) : Nat) : Int))) (ck (((aO (bE ⟨#[48]⟩) (max ((digits_1 + (1 : Int)) - (((((aR q_4).getD ([] : List Nat)).length) : Nat) : Int)) (0 : Int))).isSome = true)) (ck ((((aO (bE ⟨#[48]⟩) (max ((digits_1 + (1 : Int)) - (((((aR q_4).getD ([] : List Nat)).length) : Nat) : Int)) (0 : Int))).getD ([] : List Nat)).length) + (((aR q_4).getD ([] : List Nat)).length) ≤ 9223372036854775807) (if (0 : Int) < digits_1 then ck (I64 (((((((aO (bE ⟨#[48]⟩) (max ((digits_1 + (1 : Int)) - (((((aR q_4).getD ([] : List Nat)).length) : Nat) : Int)) (0 : Int))).getD ([] : List Nat)) ++ ((aR q_4).getD ([] : List Nat))).length) : Nat) : Int) - digits_1)) (ck (0 ≤ (((((((aO (bE ⟨#[48]⟩) (max ((digits_1 + (1 : Int)) - (((((aR q_4).getD ([] : List Nat)).length) : Nat) : Int)) (0 : Int))).getD ([] : List Nat)) ++ ((aR q_4).getD ([] : List Nat))).length) : Nat) : Int) - digits_1) ∧ (((((((aO (bE ⟨#[48]⟩) (max ((digits_1 + (1 : Int)) - (((((aR q_4).getD ([] : List Nat)).length) : Nat) : Int)) (0 : Int))).getD ([] : List Nat)) ++ ((aR q_4).getD ([] : List Nat))).length) : Nat) : Int) - digits_1) ≤ ((((((aO (bE ⟨#[48]⟩) (max ((digits_1 + (1 : Int)) - (((((aR q_4).getD ([] : List Nat)).length) : Nat) : Int)) (0 : Int))).getD ([] : List Nat)) ++ ((aR q_4).getD ([] : List Nat))).length) : Nat) : Int)) (ck (((List.take ((((((((aO (bE ⟨#[48]⟩) (max ((digits_1 + (1 : Int)) - (((((aR q_4).getD ([] : List Nat)).length) : Nat) : Int)) (0 : Int))).getD ([] : List Nat)) ++ ((aR q_4).getD ([] : List Nat))).length) : Nat) : Int) - digits_1).toNat) (((aO (bE ⟨#[48]⟩) (max ((digits_1 + (1 : Int)) - (((((aR q_4).getD ([] : List Nat)).length) : Nat) : Int)) (0 : Int))).getD ([] : List Nat)) ++ ((aR q_4).getD ([] : List Nat)))).length) + ((bE ⟨#[46]⟩).length) ≤ 9223372036854775807) (ck (I64 (((((((aO (bE ⟨#[48]⟩) (max ((digits_1 + (1 : Int)) - (((((aR q_4).getD ([] : List Nat)).length) : Nat) : Int)) (0 : Int))).getD ([] : List Nat)) ++ ((aR q_4).getD ([] : List Nat))).length) : Nat) : Int) - digits_1)) (ck (0 ≤ (((((((aO (bE ⟨#[48]⟩) (max ((digits_1 + (1 : Int)) - (((((aR q_4).getD ([] : List Nat)).length) : Nat) : Int)) (0 : Int))).getD ([] : List Nat)) ++ ((aR q_4).getD ([] : List Nat))).length) : Nat) : Int) - digits_1) ∧ (((((((aO (bE ⟨#[48]⟩) (max ((digits_1 + (1 : Int)) - (((((aR q_4).getD ([] : List Nat)).length) : Nat) : Int)) (0 : Int))).getD ([] : List Nat)) ++ ((aR q_4).getD ([] : List Nat))).length) : Nat) : Int) - digits_1) ≤ ((((((aO (bE ⟨#[48]⟩) (max ((digits_1 + (1 : Int)) - (((((aR q_4).getD ([] : List Nat)).length) : Nat) : Int)) (0 : Int))).getD ([] : List Nat)) ++ ((aR q_4).getD ([] : List Nat))).length) : Nat) : Int)) (ck ((((List.take ((((((((aO (bE ⟨#[48]⟩) (max ((digits_1 + (1 : Int)) - (((((aR q_4).getD ([] : List Nat)).length) : Nat) : Int)) (0 : Int))).getD ([] : List Nat)) ++ ((aR q_4).getD ([] : List Nat))).length) : Nat) : Int) - digits_1).toNat) (((aO (bE ⟨#[48]⟩) (max ((digits_1 + (1 : Int)) - (((((aR q_4).getD ([] : List Nat)).length) : Nat) : Int)) (0 : Int))).getD ([] : List Nat)) ++ ((aR q_4).getD ([] : List Nat)))) ++ (bE ⟨#[46]⟩)).length) + ((List.drop ((((((((aO (bE ⟨#[48]⟩) (max ((digits_1 + (1 : Int)) - (((((aR q_4).getD ([] : List Nat)).length) : Nat) : Int)) (0 : Int))).getD ([] : List Nat)) ++ ((aR q_4).getD ([] : List Nat))).length) : Nat) : Int) - digits_1).toNat) (((aO (bE ⟨#[48]⟩) (max ((digits_1 + (1 : Int)) - (((((aR q_4).getD ([] : List Nat)).length) : Nat) : Int)) (0 : Int))).getD ([] : List Nat)) ++ ((aR q_4).getD ([] : List Nat)))).length) ≤ 9223372036854775807) (oA d_0 q_4 (((List.take ((((((((aO (bE ⟨#[48]⟩) (max ((digits_1 + (1 : Int)) - (((((aR q_4).getD ([] : List Nat)).length) : Nat) : Int)) (0 : Int))).getD ([] : List Nat)) ++ ((aR q_4).getD ([] : List Nat))).length) : Nat) : Int) - digits_1).toNat) (((aO (bE ⟨#[48]⟩) (max ((digits_1 + (1 : Int)) - (((((aR q_4).getD ([] : List Nat)).length) : Nat) : Int)) (0 : Int))).getD ([] : List Nat)) ++ ((aR q_4).getD ([] : List Nat)))) ++ (bE ⟨#[46]⟩)) ++ (List.drop ((((((((aO (bE ⟨#[48]⟩) (max ((digits_1 + (1 : Int)) - (((((aR q_4).getD ([] : List Nat)).length) : Nat) : Int)) (0 : Int))).getD ([] : List Nat)) ++ ((aR q_4).getD ([] : List Nat))).length) : Nat) : Int) - digits_1).toNat) (((aO (bE ⟨#[48]⟩) (max ((digits_1 + (1 : Int)) - (((((aR q_4).getD ([] : List Nat)).length) : Nat) : Int)) (0 : Int))).getD ([] : List Nat)) ++ ((aR q_4).getD ([] : List Nat))))))))))) else oA d_0 q_4 (((aO (bE ⟨#[48]⟩) (max ((digits_1 + (1 : Int)) - (((((aR q_4).getD ([] : List Nat)).length) : Nat) : Int)) (0 : Int))).getD ([] : List Nat)) ++ ((aR q_4).getD ([] : List Nat))))))))
noncomputable def kI (d_0 : qD0) (digits_1 : Int) (up_2 : Bool) : Option ((List Nat) × (Int × Unit)) :=
 ck (((cL d_0).isSome = true)) (if ((¬ (((cL d_0).getD false) = true)) ∨ (digits_1 < (0 : Int))) ∨ ((60 : Int) < digits_1) then some ((bE ⟨#[]⟩), (1 : Int), ()) else if ((2000 : Int) < (((d_0.2).2).1)) ∨ ((((d_0.2).2).1) < (-2000 : Int)) then some ((bE ⟨#[]⟩), (2 : Int), ()) else ck ((aHb ((d_0.2).1) (max (((d_0.2).2).1) (0 : Int)))) (ck (((cX (10 : Nat) digits_1).isSome = true)) (ck ((aJP (bI ((d_0.2).1) (max (((d_0.2).2).1) (0 : Int))) ((cX (10 : Nat) digits_1).getD ([] : List Nat)))) (ck (I64 (0 - (((d_0.2).2).1))) (ck ((aGr (bY (bI ((d_0.2).1) (max (((d_0.2).2).1) (0 : Int))) ((cX (10 : Nat) digits_1).getD ([] : List Nat))) (max (0 - (((d_0.2).2).1)) (0 : Int)))) (ck ((((0 : Int) < ((((bY (bI ((d_0.2).1) (max (((d_0.2).2).1) (0 : Int))) ((cX (10 : Nat) digits_1).getD ([] : List Nat))).length) : Nat) : Int)) → ((pSz (bY (bI ((d_0.2).1) (max (((d_0.2).2).1) (0 : Int))) ((cX (10 : Nat) digits_1).getD ([] : List Nat))))))) (if (((0 : Int) < ((((bY (bI ((d_0.2).1) (max (((d_0.2).2).1) (0 : Int))) ((cX (10 : Nat) digits_1).getD ([] : List Nat))).length) : Nat) : Int)) ∧ ((bX (bY (bI ((d_0.2).1) (max (((d_0.2).2).1) (0 : Int))) ((cX (10 : Nat) digits_1).getD ([] : List Nat)))) < (max (0 - (((d_0.2).2).1)) (0 : Int)))) ∧ ((up_2 != (d_0.1)) = true) then ck ((aJP (dB (bY (bI ((d_0.2).1) (max (((d_0.2).2).1) (0 : Int))) ((cX (10 : Nat) digits_1).getD ([] : List Nat))) (max (0 - (((d_0.2).2).1)) (0 : Int))) ([1] : List Nat))) (oB digits_1 d_0 (iD (dB (bY (bI ((d_0.2).1) (max (((d_0.2).2).1) (0 : Int))) ((cX (10 : Nat) digits_1).getD ([] : List Nat))) (max (0 - (((d_0.2).2).1)) (0 : Int))) ([1] : List Nat))) else oB digits_1 d_0 (dB (bY (bI ((d_0.2).1) (max (((d_0.2).2).1) (0 : Int))) ((cX (10 : Nat) digits_1).getD ([] : List Nat))) (max (0 - (((d_0.2).2).1)) (0 : Int))))))))))
def aHF : PlR := ⟨[(0, .B [1, 2, 3]), (1, .A [1, 2, 3, 12]), (2, .A [6, 7]), (3, .A [1, 2, 3, 24]), (4, .A [6, 7]), (5, .A [1, 2, 3, 8]), (6, .A [1, 2, 3, 8, 9]), (7, .A [1, 2, 3, 8, 9, 10]), (8, .A [1, 3, 10, 63]), (9, .A [1, 3, 10]), (10, .A [1, 3, 10, 11]), (11, .A [1, 3, 10, 11]), (12, .A [1, 3, 10, 11, 79]), (13, .A [3, 10, 11]), (14, .A [11, 100]), (15, .A [11]), (16, .A [6, 7])], [(11, 13), (15, 17)]⟩
def aKI : Ty := .pair (.pair .bool (.pair (.sl (.u .u64)) (.pair (.i .i64) .unit))) (.pair (.i .i64) (.pair .bool .unit))
noncomputable def tF : aJ := mSpec aKI (.tup (.pair .str (.pair (.i .i64) .unit))) (fun x => kI x.1 x.2.1 x.2.2.1)
noncomputable def oC : List (FuncId × aJ) := [(100, aAx), (101, jV), (58, dR), (94, jB), (95, lJ), (96, rF), (97, jC), (98, nG), (99, oY)]
theorem aQJ : bL Tryz.prog GL oC := .cons aPr (by kernel_rfl) (.cons aAw (by kernel_rfl) (.cons oZ (by kernel_rfl) (.cons xW (by kernel_rfl) (.cons aAo (by kernel_rfl) (.cons aFI (by kernel_rfl) (.cons xX (by kernel_rfl) (.cons aBL (by kernel_rfl) (.cons aCX (by kernel_rfl) (.nil)))))))))
theorem aKJ : gam oC 100 = some aAx := rfl
theorem aKK : gam oC 101 = some jV := rfl
theorem aLL : gam oC 58 = some dR := rfl
theorem aLM : gam oC 94 = some jB := rfl
theorem aLN : gam oC 95 = some lJ := rfl
theorem aLO : gam oC 96 = some rF := rfl
theorem aLP : gam oC 97 = some jC := rfl
theorem aLQ : gam oC 98 = some nG := rfl
theorem aLR : gam oC 99 = some oY := rfl
attribute [go_sem] aKI aHF aKJ aKK aLL aLM aLN aLO aLP aLQ aLR
set_option maxHeartbeats 4000000 in
theorem aHG : FOK Tryz.prog GL 45 tF := by
 refine bZ (bF aQJ) mix Tryz.func45 rfl (by kernel_rfl) (by decide) aHF fun w0 S x Θ hw h hF => ?_
 obtain ⟨(d_0 : qD0), (digits_1 : Int), (up_2 : Bool), u⟩ := x
 simp only [cC, go_sem]
 replace h : sat (kI d_0 digits_1 up_2) _ := h
 unfold kI at h
 refine aN h fun g0 h => ?_
 refine ⟨fun hc => ?_, fun hc => ?_⟩
 ·replace h := hZ (by first | exact hc | omega | (simpa using hc) | (simp at hc ⊢; omega)) h
  exact aK hF [.tmp 6, .tmp 7] rfl rfl rfl (aF h) (by simp only [bA, go_sem])
 ·replace h := iA (by first | exact hc | omega | (simpa using hc) | (simp at hc ⊢; omega)) h
  refine ⟨fun hc => ?_, fun hc => ?_⟩
  ·replace h := hZ hc h
   exact aK hF [.tmp 6, .tmp 7] rfl rfl rfl (aF h) (by simp only [bA, go_sem])
  ·replace h := iA hc h
   refine aN h fun g0 h => aN h fun g1 h => aN h fun g2 h => ?_
   refine aN h fun g0 h => ?_
   refine aN h fun g0 h => ?_
   refine eC hF (D := (List Nat)) (fun d => sat (oB digits_1 d_0 d) Θ) [1] (fun d => [(3, .ptr 0 []), (10, .val (.sl (.u .u64)) d)]) (fun d => [.inr (.box 3 (.val (.pair .bool (.pair (.sl (.u .u64)) (.pair (.i .i64) .unit))) d_0))]) ?_ ?_
   ·simp only [go_sem]
    refine aN h fun g0 h => ?_
    refine ⟨fun hc => ?_, fun hc => ?_⟩
    ·replace h := hZ hc h
     refine aN h fun g0 h => ?_
     exact aX ((iD (dB (bY (bI ((d_0.2).1) (max (((d_0.2).2).1) (0 : Int))) ((cX (10 : Nat) digits_1).getD ([] : List Nat))) (max (0 - (((d_0.2).2).1)) (0 : Int))) ([1] : List Nat))) h rfl (by simp only [go_sem])
    ·replace h := iA hc h
     exact aX ((dB (bY (bI ((d_0.2).1) (max (((d_0.2).2).1) (0 : Int))) ((cX (10 : Nat) digits_1).getD ([] : List Nat))) (max (0 - (((d_0.2).2).1)) (0 : Int)))) h rfl (by simp only [go_sem])
   ·rintro q_4 h
    simp only [go_sem]
    replace h : sat (oB digits_1 d_0 q_4) _ := h
    unfold oB at h
    refine aN h fun g0 h => ?_
    refine aN h fun g0 h => aN h fun g1 h => aN h fun g2 h => aN h fun g3 h => ?_
    refine eC hF (D := (List Nat)) (fun d => sat (oA d_0 q_4 d) Θ) [10] (fun d => [(3, .ptr 0 []), (11, .val .str d)]) (fun d => [.inr (.box 3 (.val (.pair .bool (.pair (.sl (.u .u64)) (.pair (.i .i64) .unit))) d_0))]) ?_ ?_
    ·simp only [go_sem]
     refine jZ h (fun hc h => ?_) fun hc h => ?_
     ·refine aN h fun g0 h => aN h fun g1 h => aN h fun g2 h => aN h fun g3 h => aN h fun g4 h => aN h fun g5 h => ?_
      exact aX ((((List.take ((((((((aO (bE ⟨#[48]⟩) (max ((digits_1 + (1 : Int)) - (((((aR q_4).getD ([] : List Nat)).length) : Nat) : Int)) (0 : Int))).getD ([] : List Nat)) ++ ((aR q_4).getD ([] : List Nat))).length) : Nat) : Int) - digits_1).toNat) (((aO (bE ⟨#[48]⟩) (max ((digits_1 + (1 : Int)) - (((((aR q_4).getD ([] : List Nat)).length) : Nat) : Int)) (0 : Int))).getD ([] : List Nat)) ++ ((aR q_4).getD ([] : List Nat)))) ++ (bE ⟨#[46]⟩)) ++ (List.drop ((((((((aO (bE ⟨#[48]⟩) (max ((digits_1 + (1 : Int)) - (((((aR q_4).getD ([] : List Nat)).length) : Nat) : Int)) (0 : Int))).getD ([] : List Nat)) ++ ((aR q_4).getD ([] : List Nat))).length) : Nat) : Int) - digits_1).toNat) (((aO (bE ⟨#[48]⟩) (max ((digits_1 + (1 : Int)) - (((((aR q_4).getD ([] : List Nat)).length) : Nat) : Int)) (0 : Int))).getD ([] : List Nat)) ++ ((aR q_4).getD ([] : List Nat)))))) h rfl (by simp only [go_sem])
     ·exact aX ((((aO (bE ⟨#[48]⟩) (max ((digits_1 + (1 : Int)) - (((((aR q_4).getD ([] : List Nat)).length) : Nat) : Int)) (0 : Int))).getD ([] : List Nat)) ++ ((aR q_4).getD ([] : List Nat)))) h rfl (by simp only [go_sem])
    ·rintro s_5 h
     simp only [go_sem]
     replace h : sat (oA d_0 q_4 s_5) _ := h
     unfold oA at h
     refine ⟨fun hc => ?_, fun hc => ?_⟩
     ·replace h := hZ hc h
      refine aN h fun g0 h => ?_
      exact aK hF [.tmp 6, .tmp 7] rfl rfl rfl (aF h) (by simp only [bA, go_sem])
     ·replace h := iA hc h
      exact aK hF [.tmp 6, .tmp 7] rfl rfl rfl (aF h) (by simp only [bA, go_sem])
attribute [go_sem] tF
end Nu
end Go.Proofs
namespace Go.Proofs
open Go.Vc
set_option maxRecDepth 20000
namespace Nu
def oU (u : Nat) : List Nat := dgs (Lib.nDigits u) u
theorem aQK {u : Nat} (h : u < 10) : oU u = [48 + u] := by
 unfold oU
 rw [Lib.nDigits_small h]
 simp [dgs, Nat.mod_eq_of_lt h]
theorem aVh {u : Nat} (h : ¬ u < 10) (h2 : u < 100) : oU u = [48 + u / 10, 48 + u % 10] := by
 unfold oU
 rw [Lib.nDigits_big h, Lib.nDigits_small (by omega)]
 have : u / 10 % 10 = u / 10 := Nat.mod_eq_of_lt (by omega)
 simp [dgs, List.range_succ, this]
theorem aS9 : ∀ u : Fin 100, (if u.val < 10 then List.drop u.val (List.take (u.val + 1) (bE zQ)) else List.drop (u.val * 2) (List.take (u.val * 2 + 2) (bE zP))) = if u.val < 10 then [48 + u.val] else [48 + u.val / 10, 48 + u.val % 10] := by
 decide +kernel
theorem aTa : (bE zQ).length = 36 ∧ (bE zP).length = 200 := by decide +kernel
theorem aPs (u : Nat) (h : u < 100) : fU (u : Int) = some (oU u) := by
 have ht := aS9 ⟨u, h⟩
 obtain ⟨l1, l2⟩ := aTa
 simp only at ht
 unfold fU
 by_cases h1 : u < 10
 ·rw [if_pos h1, if_pos h1] at ht
  rw [if_pos (by omega), l1, aQK h1]
  refine aB (by constructor <;> omega) (aB (by constructor <;> omega) ?_)
  rw [Int.toNat_natCast, show ((u : Int) + 1).toNat = u + 1 from by omega, ht]
 ·rw [if_neg h1, if_neg h1] at ht
  rw [if_neg (by omega), l2, aVh h1 h]
  refine aB (by constructor <;> omega) (aB (by constructor <;> omega) (aB (by constructor <;> omega) (aB (by constructor <;> omega) ?_)))
  rw [show ((u : Int) * 2).toNat = u * 2 from by omega, show ((u : Int) * 2 + 2).toNat = u * 2 + 2 from by omega, ht]
theorem aWZ : ∀ k : Fin 20, ([1, 10, 100, 1000, 10000, 100000, 1000000, 10000000, 100000000, 1000000000, 10000000000, 100000000000, 1000000000000, 10000000000000, 100000000000000, 1000000000000000, 10000000000000000, 100000000000000000, 1000000000000000000, 10000000000000000000] : List Nat).getD k.val 0 = 10 ^ k.val := by decide +kernel
theorem aTb {u : Nat} (h1 : u ≠ 0) (h : u < 18446744073709551616) : Lib.bitLen u = bl u := by
 obtain ⟨a, b, c⟩ := Lib.bitLenAux_bounds 64 u h (by omega)
 unfold Lib.bitLen
 have h2 := sW c
 have h3 := aJM b
 omega
theorem aEd (u : Nat) (h1 : u ≠ 0) (h : u < 18446744073709551616) : aL u = some (Lib.nDigits u : Int) := by
 obtain ⟨k1, k2⟩ := Lib.numDigits_eq u (by omega) h
 rw [aTb h1 h] at k1 k2
 have hb := aSS h
 have hl : Int.fdiv ((bl u : Int) * 78913) (2 ^ 18) = (Lib.l10 (bl u) : Int) := by
  unfold Lib.l10
  rw [Int.fdiv_eq_ediv_of_nonneg _ (by decide)]
  omega
 have hlog : cG (dK u) = some (Lib.l10 (bl u) : Int) := by
  unfold cG dK
  refine aB (by constructor <;> omega) ?_
  rw [hl]
 have hp : p10.getD (Lib.l10 (bl u)) 0 = 10 ^ Lib.l10 (bl u) := by
  rw [aUB]; exact aWZ ⟨Lib.l10 (bl u), by omega⟩
 have hbool : ∀ b : Bool, fF b = some (if b = true then 1 else 0) := fun b => by cases b <;> rfl
 unfold aL
 simp only [hlog, Option.getD_some, Int.toNat_natCast, hp, hbool]
 refine aB rfl (aB (by constructor <;> omega) (aB rfl ?_))
 by_cases hh : 10 ^ Lib.l10 (bl u) ≤ u
 ·rw [if_pos hh] at k1
  simp only [hh, decide_true, if_true]
  refine aB (by constructor <;> omega) ?_
  rw [show (Lib.l10 (bl u) : Int) + 1 = (Lib.nDigits u : Int) from by omega]
 ·rw [if_neg hh] at k1
  simp only [hh, decide_false, Bool.false_eq_true, if_false]
  refine aB (by constructor <;> omega) ?_
  rw [show (Lib.l10 (bl u) : Int) + 0 = (Lib.nDigits u : Int) from by omega]
theorem aLS (u : Nat) (h : u < 18446744073709551616) : dT u 10 = some (oU u) := by
 have key : gF u 10 = some (oU u) := by
  unfold gF
  rw [if_pos rfl]
  by_cases h1 : u < 100
  ·have hw : IntKind.i64.wrap ((u : Nat) : Int) = (u : Int) := by
    simp only [IntKind.wrap, IntKind.signed, IntKind.bits]; simp; omega
   rw [if_pos h1, hw]
   simp only [aPs u h1, Option.getD_some]
   exact aB rfl rfl
  ·rw [if_neg h1]
   have hn := aEd u (by omega) h
   obtain ⟨k1, k2⟩ := Lib.numDigits_eq u (by omega) h
   have hle : Lib.nDigits u ≤ 20 := by split at k1 <;> omega
   have hpos := Lib.nDigits_pos u
   have hlt := Lib.lt_pow_nDigits u
   simp only [hn, Option.getD_some]
   have e : ((Lib.nDigits u : Int) - 0).toNat = Lib.nDigits u := by omega
   rw [e]
   have hf : cW 0 (Lib.nDigits u) u (List.replicate 24 0) = some (oU u ++ (List.replicate 24 0).drop (0 + Lib.nDigits u)) := by
    unfold cW
    refine aB (by omega) (aB hlt ?_)
    rfl
   refine aB rfl (aB (by constructor <;> omega) (bH hf (aB (by constructor <;> omega) (aB (by omega) ?_))))
   rw [List.drop_zero, List.take_append_of_le_length (by unfold oU; rw [pJ]; exact Nat.le_refl _), List.take_of_length_le (by unfold oU; rw [pJ]; exact Nat.le_refl _)]
 unfold dT
 rw [key]
 exact aB rfl rfl
end Nu
end Go.Proofs
namespace Go.Proofs
open Go.Vc
set_option maxRecDepth 20000
namespace Nu
theorem aYe : bN (bE vQ) [48] = some false := by decide +kernel
theorem aYf : bN (bE vP) [48] = some false := by decide +kernel
theorem aYg : bN (bE sO) [48] = some true := by decide +kernel
theorem aYE : bE sO = List.replicate 64 48 := by decide +kernel
theorem aMJ (c : Nat) (h : c ≤ 64) : aO [48] (c : Int) = some (List.replicate c 48) := by
 have hw : IntKind.i64.wrap ((c : Nat) : Int) = (c : Int) := by
  simp only [IntKind.wrap, IntKind.signed, IntKind.bits]; simp; omega
 have hm : bK (((([48] : List Nat).length : Nat) : Int) % (18446744073709551616 : Int)).toNat ((c : Int) % (18446744073709551616 : Int)).toNat = some (0, c, ()) := by
  have e1 : (((([48] : List Nat).length : Nat) : Int) % (18446744073709551616 : Int)).toNat = 1 := by decide
  have e2 : ((c : Int) % (18446744073709551616 : Int)).toNat = c := by omega
  rw [e1, e2]
  unfold bK bJ
  simp only
  rw [Nat.one_mul, Nat.div_eq_of_lt (by omega), Nat.mod_eq_of_lt (by omega)]
 unfold aO
 by_cases h0 : c = 0
 ·subst h0; rfl
 by_cases h1 : c = 1
 ·subst h1; rfl
 rw [if_neg (by omega), if_neg (by omega), if_neg (by omega)]
 simp only [hm, Option.getD_some]
 refine aB rfl ?_
 rw [if_neg (by omega), if_neg (by decide)]
 refine aB (by decide) ?_
 rw [if_neg (by decide), if_neg (by decide), if_pos (by decide)]
 have hd : decide ((([48] : List Nat).getD 0 0) = 48) = true := by decide
 rw [hd]
 unfold eJ
 rw [if_pos rfl]
 simp only [hm, Option.getD_some, hw, aYe, aYf, aYg]
 refine aB (fun _ => rfl) ?_
 rw [if_neg (fun hh => by cases hh.2)]
 refine aB (fun _ => rfl) ?_
 rw [if_neg (fun hh => by cases hh.2)]
 refine aB (fun _ => rfl) ?_
 rw [if_pos ⟨by omega, trivial⟩, aYE]
 refine aB (by constructor; omega; rw [List.length_replicate]; omega) ?_
 rw [Int.toNat_natCast, List.take_replicate, Nat.min_eq_left h]
theorem aIO (a b x y : Nat) (hy : y < 10 ^ b) : dgs a x ++ dgs b y = dgs (a + b) (x * 10 ^ b + y) := by
 apply List.ext_getElem
 ·simp [dgs]
 ·intro i h1 h2
  have hi : i < a + b := by simpa [dgs] using h2
  by_cases hlt : i < a
  ·rw [List.getElem_append_left (by simpa [dgs] using hlt)]
   simp only [dgs, List.getElem_map, List.getElem_range]
   rw [show a + b - 1 - i = b + (a - 1 - i) from by omega, Nat.pow_add, ← Nat.div_div_eq_div_mul, Nat.mul_comm x, Nat.mul_add_div (Nat.pow_pos (by decide)), Nat.div_eq_of_lt hy, Nat.add_zero]
  ·rw [List.getElem_append_right (by simp [dgs]; omega)]
   simp only [dgs, List.length_map, List.length_range, List.getElem_map, List.getElem_range]
   have e1 : a + b - 1 - i = b - 1 - (i - a) := by omega
   rw [e1]
   congr 1
   have hk : b = (b - 1 - (i - a)) + (i - a + 1) := by omega
   have e2 : x * 10 ^ b = 10 ^ (b - 1 - (i - a)) * (x * 10 ^ (i - a) * 10) := by
    conv => lhs; rw [hk]
    rw [Nat.pow_add, Nat.pow_succ, Nat.mul_left_comm, Nat.mul_assoc x]
   rw [e2, Nat.mul_add_div (Nat.pow_pos (by decide)), Nat.add_comm, Nat.add_mul_mod_self_right]
theorem aPt (n : Nat) : dgs n 0 = List.replicate n 48 := by
 apply List.ext_getElem
 ·simp [dgs]
 ·intro i h1 h2; simp [dgs]
theorem aW0 {k n r : Nat} (hk : k ≤ n) (hr : r < 10 ^ k) : List.replicate (n - k) 48 ++ dgs k r = dgs n r := by
 rw [← aPt, aIO _ _ _ _ hr, Nat.zero_mul, Nat.zero_add]
 congr 1; omega
theorem aAy (u : Nat) (h0 : u ≠ 0) : 10 ^ (Lib.nDigits u - 1) ≤ u := by
 induction u using Nat.strongRecOn with
 | _ u ih =>
  by_cases h : u < 10
  ·rw [Lib.nDigits_small h]; simp; omega
  ·have := ih (u / 10) (by omega) (by omega)
   have hp := Lib.nDigits_pos (u / 10)
   rw [Lib.nDigits_big h, Nat.add_sub_cancel, show Lib.nDigits (u / 10) = Lib.nDigits (u / 10) - 1 + 1 from by omega, Nat.pow_succ]
   omega
theorem aNU {M b y : Nat} (hM : M ≠ 0) (hy : y < 10 ^ b) : Lib.nDigits (M * 10 ^ b + y) = Lib.nDigits M + b := by
 have h1 := Lib.lt_pow_nDigits M
 have h2 := Lib.nDigits_pos M
 have h3 := aAy M hM
 have h4 := Nat.mul_le_mul_right (10 ^ b) h3
 have h5 := Nat.mul_le_mul_right (10 ^ b) (show M + 1 ≤ 10 ^ Lib.nDigits M from h1)
 rw [← Nat.pow_add] at h4 h5
 rw [Nat.add_mul, Nat.one_mul] at h5
 have := Lib.nDigits_unique (Lib.nDigits M - 1 + b) (M * 10 ^ b + y) (by omega) (by rw [show Lib.nDigits M - 1 + b + 1 = Lib.nDigits M + b from by omega]; omega)
 omega
theorem aVi {M b y : Nat} (hM : M ≠ 0) (hy : y < 10 ^ b) : oU M ++ dgs b y = oU (M * 10 ^ b + y) := by
 unfold oU
 rw [aNU hM hy, aIO _ _ _ _ hy]
end Nu
end Go.Proofs
namespace Go.Proofs
open Go.Vc
set_option maxRecDepth 20000
namespace Nu
def cat (l : List (List Nat)) : List Nat := l.reverse.flatten
theorem aKL (l : List (List Nat)) (s : List Nat) : cat (l ++ [s]) = s ++ cat l := by simp [cat]
theorem aTc (l : List (List Nat)) (k : Nat) : cat l = cat (l.drop k) ++ cat (l.take k) := by
 unfold cat
 rw [← List.flatten_append, ← List.reverse_append, List.take_append_drop]
theorem aNV (l : List (List Nat)) (k : Nat) : (cat (l.take k)).length ≤ (cat l).length := by
 rw [aTc l k, List.length_append]; omega
theorem aW1 (l : List (List Nat)) (h1 : l.length ≤ 1000000000) (h2 : (cat l).length ≤ 1000000000) : pW l = some (cat l) := by
 unfold pW
 refine bH (kO (step := fun d : (List Nat) × Int => mG l d.1 d.2) (I := fun d => 0 ≤ d.2 ∧ d.2 ≤ l.length ∧ d.1 = cat (l.take d.2.toNat)) (fun d => ((l.length : Int) - d.2).toNat) (fun _ => cat l) ?_ (bE ⟨#[]⟩, 0) ⟨by simp, by simp, rfl⟩) rfl
 rintro ⟨out, i⟩ ⟨i0, i1, i2⟩
 have i0 : 0 ≤ i := i0
 have i1 : i ≤ l.length := i1
 have i2 : out = cat (l.take i.toNat) := i2
 show (∃ d', mG l out i = _ ∧ _) ∨ mG l out i = _
 unfold mG
 by_cases hi : i < l.length
 ·left
  have hk : i.toNat < l.length := by omega
  have ht : cat (l.take (i + 1).toNat) = l.getD i.toNat [] ++ out := by
   rw [show (i + 1).toNat = i.toNat + 1 from by omega, List.take_succ_eq_append_getElem hk, aKL, i2, List.getD_eq_getElem?_getD, List.getElem?_eq_getElem hk]; rfl
  have hlen := aNV l (i + 1).toNat
  rw [ht, List.length_append] at hlen
  refine ⟨(cat (l.take (i + 1).toNat), i + 1), ?_, ⟨by simp only; omega, by simp only; omega, rfl⟩, by simp only; omega, rfl⟩
  rw [if_pos hi]
  refine aB (by constructor <;> omega) (aB (by omega) (aB (by constructor <;> omega) ?_))
  rw [ht]
 ·right
  rw [if_neg hi, i2, List.take_of_length_le (by omega)]
def txt (n : Nat) : List Nat := if n = 0 then [] else oU n
structure TxI (n : Nat) (m : List Nat) (l : List (List Nat)) (M rest : Nat) : Prop where
 m0 : m = lb M
 sum : n = M * 10 ^ (18 * l.length) + rest
 lt : rest < 10 ^ (18 * l.length)
 str : cat l = dgs (18 * l.length) rest
 pos : M ≠ 0 ∨ l.length = 0
theorem aW2 {n M rest : Nat} {m : List Nat} {l : List (List Nat)} (h : TxI n m l M rest) : 18 * l.length ≤ bl n := by
 rcases h.pos with hp | hp
 ·rcases Nat.eq_zero_or_pos l.length with h0 | h0
  ·omega
  ·have h1 : 2 ^ (18 * l.length) ≤ 10 ^ (18 * l.length) := Nat.pow_le_pow_left (by decide) _
   have h2 : 10 ^ (18 * l.length) ≤ M * 10 ^ (18 * l.length) := Nat.le_mul_of_pos_left _ (by omega)
   have h3 : 2 ^ (18 * l.length) ≤ n := by rw [h.sum]; omega
   have := aJM h3
   omega
 ·omega
theorem q18 (M : Nat) : cA (lb M) [1000000000000000000] = (lb (M / 1000000000000000000), lb (M % 1000000000000000000), ()) := by
 unfold cA
 rw [iI]
 rfl
theorem aVj {n M P T rest : Nat} (h : n = M * T + rest) : n = M / P * (P * T) + (M % P * T + rest) := by
 have e := Nat.div_add_mod M P
 rw [h, ← Nat.add_assoc]
 congr 1
 conv => lhs; rw [← e]
 rw [Nat.add_mul, Nat.mul_comm P, Nat.mul_assoc]
theorem aW3 {r P T rest : Nat} (h : r < P) (h2 : rest < T) : r * T + rest < P * T := by
 have h1 := Nat.mul_le_mul_right T (show r + 1 ≤ P from h)
 rw [Nat.add_mul, Nat.one_mul] at h1
 omega
theorem p18 : (10 : Nat) ^ 18 = 1000000000000000000 := by decide
theorem aW4 {n M rest : Nat} {m : List Nat} {l : List (List Nat)} (hn : bl n ≤ 1000000) (h : TxI n m l M rest) :
  (∃ m' l' M' rest', jH l m (txt (M % 1000000000000000000)) = some (.inl (m', l')) ∧ TxI n m' l' M' rest' ∧ M' < M) ∨
   ∃ l', jH l m (txt (M % 1000000000000000000)) = some (.inr l') ∧ cat l' = txt n ∧ l'.length ≤ 1000000 := by
 have hl := aW2 h
 have hr : M % 1000000000000000000 < 10 ^ 18 := Nat.mod_lt _ (by decide)
 have e := Nat.div_add_mod M 1000000000000000000
 have hsl : (txt (M % 1000000000000000000)).length ≤ 18 := by
  unfold txt
  split
  ·simp
  ·rename_i h0
   unfold oU
   rw [pJ]
   have h1 := aAy _ h0
   rcases Nat.lt_or_ge (Lib.nDigits (M % 1000000000000000000)) 19 with hh | hh
   ·omega
   ·have h2 : 10 ^ 18 ≤ 10 ^ (Lib.nDigits (M % 1000000000000000000) - 1) := Nat.pow_le_pow_right (by decide) (by omega)
    omega
 unfold jH
 rw [h.m0, q18]
 by_cases hq : M / 1000000000000000000 = 0
 ·right
  refine ⟨l ++ [txt (M % 1000000000000000000)], ?_, ?_, by rw [List.length_append]; simp; omega⟩
  ·refine aB (by omega) ?_
   rw [if_pos (by simp only; rw [hq, mO]; rfl)]
  ·have hM : M % 1000000000000000000 = M := by omega
   rw [aKL, hM, h.str]
   rcases Nat.eq_zero_or_pos M with h0 | h0
   ·subst h0
    rcases h.pos with hp | hp
    ·exact absurd rfl hp
    ·have hs := h.sum
     have hlt := h.lt
     rw [hp] at hlt hs ⊢
     have : rest = 0 := by simpa using hlt
     subst this
     simp only [Nat.zero_mul, Nat.add_zero] at hs
     subst hs
     rfl
   ·have hn0 : n ≠ 0 := by
     rw [h.sum]
     have := Nat.mul_pos h0 (Nat.pow_pos (n := 18 * l.length) (show 0 < 10 by decide))
     omega
    unfold txt
    rw [if_neg (by omega), if_neg hn0, aVi (by omega) h.lt, ← h.sum]
 ·left
  have hpad : List.replicate (18 - (txt (M % 1000000000000000000)).length) 48 ++ txt (M % 1000000000000000000) = dgs 18 (M % 1000000000000000000) := by
   unfold txt at hsl ⊢
   split
   ·rename_i h0; rw [h0, aPt]; simp
   ·rename_i h0
    rw [if_neg h0] at hsl
    unfold oU at hsl ⊢
    rw [pJ] at hsl ⊢
    exact aW0 hsl (Lib.lt_pow_nDigits _)
  have hrep : aO (bE ⟨#[48]⟩) (18 - ((txt (M % 1000000000000000000)).length : Int)) = some (List.replicate (18 - (txt (M % 1000000000000000000)).length) 48) := by
   have := aMJ (18 - (txt (M % 1000000000000000000)).length) (by omega)
   rw [show ((18 - (txt (M % 1000000000000000000)).length : Nat) : Int) = 18 - ((txt (M % 1000000000000000000)).length : Int) from by omega] at this
   exact this
  have hset : (l ++ [txt (M % 1000000000000000000)]).set (((l ++ [txt (M % 1000000000000000000)]).length : Int) - 1).toNat (List.replicate (18 - (txt (M % 1000000000000000000)).length) 48 ++ txt (M % 1000000000000000000)) = l ++ [dgs 18 (M % 1000000000000000000)] := by
   rw [hpad, List.length_append, List.length_singleton, show (((l.length + 1 : Nat) : Int) - 1).toNat = l.length from by omega]
   simp
  refine ⟨lb (M / 1000000000000000000), l ++ [dgs 18 (M % 1000000000000000000)], M / 1000000000000000000, M % 1000000000000000000 * 10 ^ (18 * l.length) + rest, ?_, ?_, Nat.div_lt_self (by omega) (by decide)⟩
  ·have hne := List.length_pos_iff.2 (fun e => hq (aAH.1 e))
   have hll : (l ++ [txt (M % 1000000000000000000)]).length = l.length + 1 := by simp
   refine aB (by omega) ?_
   rw [if_neg (by simp only; omega)]
   simp only [hrep, Option.getD_some]
   refine aB (by constructor <;> omega) (aB (by constructor <;> omega) (aB rfl (aB (by rw [List.length_replicate]; omega) (aB (by constructor <;> omega) ?_))))
   rw [hset]
  ·have hl1 : (l ++ [dgs 18 (M % 1000000000000000000)]).length = l.length + 1 := by simp
   have hp : 10 ^ (18 * (l.length + 1)) = 1000000000000000000 * 10 ^ (18 * l.length) := by rw [← p18, ← Nat.pow_add]; congr 1; omega
   refine ⟨rfl, ?_, ?_, ?_, .inl hq⟩
   ·rw [hl1, hp]
    have := aVj (P := 1000000000000000000) (T := 10 ^ (18 * l.length)) h.sum
    exact this
   ·rw [hl1, hp]; exact aW3 (Nat.mod_lt _ (by decide)) h.lt
   ·have := aIO 18 (18 * l.length) (M % 1000000000000000000) rest h.lt
    rw [hl1, aKL, h.str, this, show 18 + 18 * l.length = 18 * (l.length + 1) from by omega]
end Nu
end Go.Proofs
namespace Go.Proofs
open Go.Vc
set_option maxRecDepth 20000
namespace Nu
theorem aVk {x : Nat} (h : x < 18446744073709551616) : (lb x).getD 0 0 = x := by
 rw [qE (aB7 x), iI, Nat.pow_zero, Nat.div_one, Nat.mod_eq_of_lt h]
theorem aR6 : Nrm [1000000000000000000] ∧ nv [1000000000000000000] ≠ 0 := by decide
theorem aW5 {n M rest : Nat} {m : List Nat} {l : List (List Nat)} (hm : m.length ≤ 100000) (h : TxI n m l M rest) : lL m l = jH l m (txt (M % 1000000000000000000)) := by
 have hr : M % 1000000000000000000 < 1000000000000000000 := Nat.mod_lt _ (by decide)
 have hp : uI m [1000000000000000000] := ⟨by rw [h.m0]; exact aBD _, aR6.1, aR6.2, by omega⟩
 unfold lL
 refine aB hp ?_
 have hq : (cA m [1000000000000000000]).2.1 = lb (M % 1000000000000000000) := by rw [h.m0, q18]
 rw [hq]
 by_cases h0 : M % 1000000000000000000 = 0
 ·have ht : txt (M % 1000000000000000000) = bE ⟨#[]⟩ := by unfold txt; rw [if_pos h0]; rfl
  rw [if_neg (by rw [h0, mO]; simp), ht]
 ·have ht : txt (M % 1000000000000000000) = oU (M % 1000000000000000000) := by unfold txt; rw [if_neg h0]
  have hl := List.length_pos_iff.2 (fun e => h0 (aAH.1 e))
  have hf := aLS (M % 1000000000000000000) (by omega)
  rw [if_pos (by omega), aVk (by omega), ht]
  simp only [hf, Option.getD_some]
  exact aB (by omega) (aB rfl rfl)
theorem aVl (k : Nat) {n : Nat} (h : n < 18446744073709551616 ^ k) : bl n ≤ 64 * k := sW (by rw [← qJ]; exact h)
theorem aW6 (n : Nat) (hn : n < 18446744073709551616 ^ 10000) : aR (lb n) = some (txt n) := by
 have hb := aVl 10000 hn
 have key := lV (step := fun d : (List Nat) × (List (List Nat)) => lL d.1 d.2) (I := fun d => ∃ M rest, TxI n d.1 d.2 M rest) (fun d => nv d.1) (fun e => cat e = txt n ∧ e.length ≤ 1000000) ?_ (lb n, []) ⟨n, 0, ⟨rfl, by simp, by simp, rfl, .inr rfl⟩⟩
 ·obtain ⟨e, h1, h2, h3⟩ := key
  unfold aR
  refine bH h1 ?_
  have hlen : (txt n).length ≤ 1000000 := by
   unfold txt
   split
   ·simp
   ·rename_i h0
    unfold oU
    rw [pJ]
    have a := aAy n h0
    have b : 2 ^ (Lib.nDigits n - 1) ≤ 10 ^ (Lib.nDigits n - 1) := Nat.pow_le_pow_left (by decide) _
    have := aJM (Nat.le_trans b a)
    omega
  rw [aW1 e (by omega) (by rw [h2]; omega), h2]
 ·rintro ⟨m, l⟩ ⟨M, rest, h⟩
  have h : TxI n m l M rest := h
  have hMn : M ≤ n := by
   rw [h.sum]
   have := Nat.le_mul_of_pos_right M (Nat.pow_pos (n := 18 * l.length) (show 0 < 10 by decide))
   omega
  have hm : m.length ≤ 100000 := by
   rw [h.m0]
   exact Nat.le_trans (nV.2 (Nat.lt_of_le_of_lt hMn hn)) (by decide)
  show (∃ d', lL m l = _ ∧ _) ∨ ∃ e, lL m l = _ ∧ _
  rw [aW5 hm h]
  rcases aW4 (by omega) h with ⟨m', l', M', rest', k1, k2, k3⟩ | ⟨l', k1, k2, k3⟩
  ·left
   refine ⟨(m', l'), k1, ⟨M', rest', k2⟩, ?_⟩
   show nv m' < nv m
   rw [k2.m0, h.m0, iI, iI]
   exact k3
  ·right
   exact ⟨l', k1, k2, k3⟩
end Nu
end Go.Proofs
namespace Go.Proofs
open Go.Vc
set_option maxRecDepth 20000
namespace Nu
def rI (k : Nat) (s : List Nat) : List Nat := List.replicate (k + 1 - s.length) 48 ++ s
def ptS (k : Nat) (s : List Nat) : List Nat := if 0 < k then s.take (s.length - k) ++ [46] ++ s.drop (s.length - k) else s
def sgS (neg : Bool) (q : Nat) (s : List Nat) : List Nat := if neg = true ∧ q ≠ 0 then 45 :: s else s
theorem aNW {n : Nat} (h : bl n ≤ 640000) : (txt n).length ≤ 1000000 := by
 unfold txt
 split
 ·simp
 ·rename_i h0
  unfold oU
  rw [pJ]
  have a := aAy n h0
  have b : 2 ^ (Lib.nDigits n - 1) ≤ 10 ^ (Lib.nDigits n - 1) := Nat.pow_le_pow_left (by decide) _
  have := aJM (Nat.le_trans b a)
  omega
theorem aVm {n k : Nat} (h : n < 18446744073709551616 ^ k) : bl n ≤ 64 * k := sW (by rw [← qJ]; exact h)
theorem aR7 (d : Dy) (q : Nat) (s : List Nat) (hs : s.length ≤ 10000000) : oA d (lb q) s = some (sgS d.1 q s, 0, ()) := by
 unfold oA sgS
 have hq : (0 : Int) < ((lb q).length : Int) ↔ q ≠ 0 := by
  constructor
  ·intro h e; rw [e, mO] at h; simp at h
  ·intro h
   have := List.length_pos_iff.2 (fun e => h (aAH.1 e))
   omega
 by_cases h : d.1 = true ∧ q ≠ 0
 ·rw [if_pos ⟨h.1, hq.2 h.2⟩, if_pos h]
  refine aB ?_ rfl
  have : (bE ⟨#[45]⟩).length = 1 := rfl
  omega
 ·rw [if_neg (fun hh => h ⟨hh.1, hq.1 hh.2⟩), if_neg h]
theorem aR8 (k : Nat) (d : Dy) (q : Nat) (hk : k ≤ 60) (hq : q < 18446744073709551616 ^ 10000) : oB (k : Int) d (lb q) = some (sgS d.1 q (ptS k (rI k (txt q))), 0, ()) := by
 have hl := aNW (Nat.le_trans (aVm hq) (by decide))
 have ht := aW6 q hq
 have hr : aO (bE ⟨#[48]⟩) (max ((k : Int) + 1 - ((txt q).length : Int)) 0) = some (List.replicate (k + 1 - (txt q).length) 48) := by
  have := aMJ (k + 1 - (txt q).length) (by omega)
  rw [show ((k + 1 - (txt q).length : Nat) : Int) = max ((k : Int) + 1 - ((txt q).length : Int)) 0 from by omega] at this
  exact this
 have hp : (rI k (txt q)).length = k + 1 - (txt q).length + (txt q).length := by unfold rI; rw [List.length_append, List.length_replicate]
 have e : List.replicate (k + 1 - (txt q).length) 48 ++ txt q = rI k (txt q) := rfl
 unfold oB
 simp only [ht, Option.getD_some, hr, e]
 refine aB rfl (aB (by constructor <;> omega) (aB (by constructor <;> omega) (aB rfl (aB (by rw [List.length_replicate]; omega) ?_))))
 have h1 : (bE ⟨#[46]⟩) = [46] := rfl
 unfold ptS
 by_cases h : 0 < k
 ·have en : (((rI k (txt q)).length : Int) - (k : Int)).toNat = (rI k (txt q)).length - k := by omega
  rw [if_pos (by omega), if_pos h, h1, en]
  have l1 : ((rI k (txt q)).take ((rI k (txt q)).length - k)).length = (rI k (txt q)).length - k := by rw [List.length_take]; omega
  have l2 : ((rI k (txt q)).drop ((rI k (txt q)).length - k)).length = k := by rw [List.length_drop]; omega
  refine aB (by constructor <;> omega) (aB (by constructor <;> omega) (aB (by rw [l1]; simp; omega) (aB (by constructor <;> omega) (aB (by constructor <;> omega) (aB (by rw [List.length_append, l1, l2]; simp; omega) ?_)))))
  exact aR7 d q _ (by rw [List.length_append, List.length_append, l1, l2]; simp; omega)
 ·rw [if_neg (by omega), if_neg h]
  exact aR7 d q _ (by omega)
def txM (d : Dy) (k : Nat) : Nat := nv d.2.1 * 2 ^ (max d.2.2.1 0).toNat * 10 ^ k
def txQ (d : Dy) (k : Nat) (up : Bool) : Nat :=
 let m := txM d k
 let n := (max (-d.2.2.1) 0).toNat
 if m % 2 ^ n ≠ 0 ∧ (up != d.1) = true then m / 2 ^ n + 1 else m / 2 ^ n
def jW (d : Dy) (k : Int) (up : Bool) : List Nat × Int × Unit :=
 if dV d = false ∨ k < 0 ∨ 60 < k then ([], 1, ())
 else if 2000 < d.2.2.1 ∨ d.2.2.1 < -2000 then ([], 2, ())
 else (sgS d.1 (txQ d k.toNat up) (ptS k.toNat (rI k.toNat (txt (txQ d k.toNat up)))), 0, ())
theorem aQL {d : Dy} {k : Nat} (lm : Lm d.2.1) (hl : d.2.1.length ≤ 64) (he : d.2.2.1 ≤ 2000) (hk : k ≤ 60) : txM d k < 18446744073709551616 ^ 200 := by
 have h1 := kP lm
 rw [qJ] at h1
 have h2 := aBe k
 unfold txM
 have h3 : nv d.2.1 * 2 ^ (max d.2.2.1 0).toNat < 2 ^ (64 * d.2.1.length) * 2 ^ (max d.2.2.1 0).toNat := Nat.mul_lt_mul_of_pos_right h1 (Nat.two_pow_pos _)
 rw [← Nat.pow_add] at h3
 have h4 := Nat.mul_lt_mul_of_lt_of_le h3 h2 (Nat.pow_pos (by decide))
 rw [← Nat.pow_add] at h4
 exact aMG 200 h4 (by omega)
theorem aNX (d : Dy) (k : Int) (up : Bool) (lm : Lm d.2.1) : kI d k up = some (jW d k up) := by
 unfold kI jW
 simp only [vN, Option.getD_some]
 refine aB rfl ?_
 by_cases h1 : dV d = false ∨ k < 0 ∨ 60 < k
 ·rw [if_pos (by rcases h1 with h | h | h; exact .inl (.inl (by rw [h]; decide)); exact .inl (.inr h); exact .inr h), if_pos h1]; rfl
 ·have hm : dV d = true := by
   cases hh : dV d with
   | true => rfl
   | false => exact absurd (.inl hh) h1
  have hk : 0 ≤ k ∧ k ≤ 60 := by omega
  rw [if_neg (by rintro ((h | h) | h); exact h hm; omega; omega), if_neg h1]
  by_cases h2 : 2000 < d.2.2.1 ∨ d.2.2.1 < -2000
  ·rw [if_pos h2, if_pos h2]; rfl
  ·rw [if_neg h2, if_neg h2]
   obtain ⟨a1, a2, a3, a4⟩ := jT hm
   obtain ⟨j, rfl⟩ : ∃ j : Nat, k = (j : Int) := ⟨k.toNat, by omega⟩
   rw [Int.toNat_natCast]
   have hM := aQL (k := j) lm a1 (by omega) (by omega)
   have hpw := aKx 10 j (by decide) (by omega)
   have hL : bI d.2.1 (max d.2.2.1 0) = lb (nv d.2.1 * 2 ^ (max d.2.2.1 0).toNat) := rfl
   have hT : bY (lb (nv d.2.1 * 2 ^ (max d.2.2.1 0).toNat)) (lb (10 ^ j)) = lb (txM d j) := by
    unfold bY txM; rw [iI, iI]
   have hLl : (lb (nv d.2.1 * 2 ^ (max d.2.2.1 0).toNat)).length ≤ 200 := by
    refine nV.2 (Nat.lt_of_le_of_lt ?_ hM)
    unfold txM
    exact Nat.le_mul_of_pos_right _ (Nat.pow_pos (by decide))
   have hPl := aQF (b := 10) (i := j) (by decide)
   have hTl := nV.2 hM
   have hn : max (0 - d.2.2.1) 0 = ((max (-d.2.2.1) 0).toNat : Int) := by omega
   simp only [hpw, Option.getD_some, hL, hT, hn]
   have hR : dB (lb (txM d j)) ((max (-d.2.2.1) 0).toNat : Int) = lb (txM d j / 2 ^ (max (-d.2.2.1) 0).toNat) := by
    unfold dB; rw [iI, Int.toNat_natCast]
   rw [hR]
   have hqlt : txM d j / 2 ^ (max (-d.2.2.1) 0).toNat < 18446744073709551616 ^ 200 := Nat.lt_of_le_of_lt (Nat.div_le_self _ _) hM
   have hP : iD (lb (txM d j / 2 ^ (max (-d.2.2.1) 0).toNat)) [1] = lb (txM d j / 2 ^ (max (-d.2.2.1) 0).toNat + 1) := by
    unfold iD; rw [iI]; rfl
   have hbig : ∀ x, x < 18446744073709551616 ^ 200 → x + 1 < 18446744073709551616 ^ 10000 := fun x hx => by
    have : 18446744073709551616 ^ 200 < 18446744073709551616 ^ 10000 := aR0 200 10000 (by decide)
    exact Nat.lt_of_le_of_lt hx this
   refine aB ⟨by show d.2.1.length ≤ _; omega, by omega, by omega⟩ (aB rfl (aB ⟨by show (lb (nv d.2.1 * 2 ^ (max d.2.2.1 0).toNat)).length ≤ _; omega, by show (lb (10 ^ j)).length ≤ _; omega⟩ (aB (by constructor <;> omega) (aB ⟨by show (lb (txM d j)).length ≤ _; omega, by omega⟩ (aB (fun _ => by show (lb (txM d j)).length ≤ _; omega) ?_)))))
   have hc : ((0 : Int) < ((lb (txM d j)).length : Int) ∧ bX (lb (txM d j)) < ((max (-d.2.2.1) 0).toNat : Int)) ↔ txM d j % 2 ^ (max (-d.2.2.1) 0).toNat ≠ 0 := by
    by_cases h0 : txM d j = 0
    ·rw [h0, mO, Nat.zero_mod]; simp
    ·have hl := List.length_pos_iff.2 (fun e => h0 (aAH.1 e))
     have hz : bX (lb (txM d j)) = (tzn (txM d j) : Int) := by unfold bX; rw [iI, if_neg h0]
     rw [hz, ← aR1 h0]
     constructor
     ·intro h; omega
     ·intro h; exact ⟨by omega, by omega⟩
   unfold txQ
   simp only
   by_cases h3 : txM d j % 2 ^ (max (-d.2.2.1) 0).toNat ≠ 0 ∧ (up != d.1) = true
   ·rw [if_pos ⟨hc.2 h3.1, h3.2⟩, if_pos h3, hP]
    have hl3 := nV.2 hqlt
    refine aB ⟨by show (lb (txM d j / 2 ^ (max (-d.2.2.1) 0).toNat)).length ≤ _; omega, by show (1 : Nat) ≤ _; decide⟩ ?_
    exact aR8 j d _ (by omega) (hbig _ hqlt)
   ·rw [if_neg (fun h => h3 ⟨hc.1 h.1, h.2⟩), if_neg h3]
    exact aR8 j d _ (by omega) (Nat.lt_of_succ_lt (hbig _ hqlt))
end Nu
end Go.Proofs
namespace Go.Proofs
open Go.Vc
set_option maxRecDepth 20000
namespace Nu
def aFP (d : Dy) : Dy := if dV d = true ∧ 0 < d.2.1.length then (!d.1, d.2.1, d.2.2.1, ()) else d
theorem aVn (d : Dy) (h : d.2.1.length ≤ 1000000) : gP d = some (aFP d) := by
 have hc : eD d = some d := by
  unfold eD
  exact aB (by show d.2.1.length * 8 ≤ _; omega) rfl
 unfold gP aFP
 simp only [hc, vN, Option.getD_some]
 refine aB rfl (aB rfl ?_)
 by_cases hh : dV d = true ∧ 0 < d.2.1.length
 ·rw [if_pos ⟨hh.1, by omega⟩, if_pos hh]
 ·rw [if_neg (fun h => hh ⟨h.1, by omega⟩), if_neg hh]
end Nu
end Go.Proofs
namespace Go.Proofs
open Go.Vc
set_option maxRecDepth 20000
namespace Nu
def kS (d : Dy) : Int := if dV d = false ∨ d.2.1.length = 0 then 0 else if d.1 = true then -1 else 1
theorem aW7 (d : Dy) : eI d = some (kS d) := by
 unfold eI kS
 simp only [vN, Option.getD_some]
 refine aB rfl ?_
 by_cases h : dV d = false ∨ d.2.1.length = 0
 ·rw [if_pos (by rcases h with h | h; exact .inl (by rw [h]; decide); exact .inr (by omega)), if_pos h]
 ·have hm : dV d = true := by
   cases hh : dV d with
   | true => rfl
   | false => exact absurd (.inl hh) h
  rw [if_neg (by rintro (hh | hh); exact hh hm; exact h (.inr (by omega))), if_neg h]
  by_cases hn : d.1 = true
  ·rw [if_pos hn, if_pos hn]
  ·rw [if_neg hn, if_neg hn]
def aDi (a b : Dy) : Int :=
 let x := (bl (nv a.2.1) : Int) + a.2.2.1
 let y := (bl (nv b.2.1) : Int) + b.2.2.1
 let low := min a.2.2.1 b.2.2.1
 if x < y then -1 else if y < x then 1 else zV (nv a.2.1 * 2 ^ (a.2.2.1 - low).toNat) (nv b.2.1 * 2 ^ (b.2.2.1 - low).toNat)
theorem size_eq (a b : Dy) (la : Lm a.2.1) (lb' : Lm b.2.1) (ha : dV a = true) (hb : dV b = true) : pA a b = some (aDi a b) := by
 obtain ⟨a1, a2, a3, a4⟩ := jT ha
 obtain ⟨b1, b2, b3, b4⟩ := jT hb
 have hba : bl (nv a.2.1) ≤ 64 * a.2.1.length := sW (by rw [← qJ]; exact kP la)
 have hbb : bl (nv b.2.1) ≤ 64 * b.2.1.length := sW (by rw [← qJ]; exact kP lb')
 have e1 : aV a.2.1 = (bl (nv a.2.1) : Int) := rfl
 have e2 : aV b.2.1 = (bl (nv b.2.1) : Int) := rfl
 unfold pA aDi
 rw [e1, e2]
 refine aB ⟨a2, by show a.2.1.length ≤ _; omega⟩ (aB (by constructor <;> omega) (aB ⟨b2, by show b.2.1.length ≤ _; omega⟩ (aB (by constructor <;> omega) ?_)))
 simp only
 by_cases h1 : (bl (nv a.2.1) : Int) + a.2.2.1 < (bl (nv b.2.1) : Int) + b.2.2.1
 ·rw [if_pos h1, if_pos h1]
 ·rw [if_neg h1, if_neg h1]
  by_cases h2 : (bl (nv b.2.1) : Int) + b.2.2.1 < (bl (nv a.2.1) : Int) + a.2.2.1
  ·rw [if_pos h2, if_pos h2]
  ·rw [if_neg h2, if_neg h2]
   refine aB (by constructor <;> omega) (aB ⟨by show a.2.1.length ≤ _; omega, by omega, by omega⟩ (aB (by constructor <;> omega) (aB ⟨by show b.2.1.length ≤ _; omega, by omega, by omega⟩ (aB ⟨aBD _, aBD _⟩ ?_))))
   unfold oW bI
   rw [iI, iI]
def uT (a b : Dy) : Int :=
 if dV a = false ∨ dV b = false then 0
 else if kS a < kS b then -1
 else if kS b < kS a then 1
 else if kS a = 0 then 0
 else kS a * aDi a b
theorem aPu (a b : Dy) : -1 ≤ aDi a b ∧ aDi a b ≤ 1 := by
 unfold aDi
 simp only
 split
 ·decide
 ·split
  ·decide
  ·unfold zV
   split
   ·decide
   ·split <;> decide
theorem aHH (d : Dy) : kS d = 0 ∨ kS d = 1 ∨ kS d = -1 := by
 unfold kS
 split
 ·exact .inl rfl
 ·split
  ·exact .inr (.inr rfl)
  ·exact .inr (.inl rfl)
theorem aNY (a b : Dy) (la : Lm a.2.1) (lb' : Lm b.2.1) : iF a b = some (uT a b) := by
 have ra := aHH a
 have rb := aHH b
 have rs := aPu a b
 unfold iF uT
 simp only [aW7, vN, Option.getD_some]
 refine aB rfl (aB rfl (aB rfl (aB (fun _ => rfl) ?_)))
 by_cases h : dV a = false ∨ dV b = false
 ·rw [if_pos (by rcases h with h | h; exact .inl (by rw [h]; decide); exact .inr (by rw [h]; decide)), if_pos h]
 ·have ha : dV a = true := by
   cases hh : dV a with
   | true => rfl
   | false => exact absurd (.inl hh) h
  have hb : dV b = true := by
   cases hh : dV b with
   | true => rfl
   | false => exact absurd (.inr hh) h
  rw [if_neg (by rintro (hh | hh); exact hh ha; exact hh hb), if_neg h]
  by_cases h1 : kS a < kS b
  ·rw [if_pos ⟨by omega, h1⟩, if_pos h1]
  ·rw [if_neg (fun hh => h1 hh.2), if_neg h1]
   by_cases h2 : kS b < kS a
   ·rw [if_pos (by omega), if_pos h2]
   ·rw [if_neg (by omega), if_neg h2]
    by_cases h3 : kS a = 0
    ·rw [if_pos h3, if_pos h3]
    ·rw [if_neg h3, if_neg h3]
     simp only [size_eq a b la lb' ha hb, Option.getD_some]
     refine aB rfl (aB ?_ rfl)
     rcases ra with r | r | r <;> rw [r] <;> constructor <;> omega
end Nu
end Go.Proofs
namespace Go.Proofs
open Go.Vc
set_option maxRecDepth 20000
namespace Nu
theorem aPv : ∀ n u, u < 10 ^ n → mZ (dgs n u) = u
 | 0, u, h => by
  rw [Nat.pow_zero] at h
  have : u = 0 := by omega
  subst this; rfl
 | n + 1, u, h => by
  have hm := Nat.mod_lt u (show 0 < 10 by decide)
  have h1 : dgs 1 (u % 10) = [48 + u % 10] := by simp [dgs]
  have h2 := aIO n 1 (u / 10) (u % 10) (by omega)
  rw [h1, show u / 10 * 10 ^ 1 + u % 10 = u from by omega] at h2
  rw [Nat.pow_succ] at h
  rw [← h2, aDI, aPv n (u / 10) (by omega)]
  omega
theorem aW8 (n u : Nat) : ∀ c ∈ dgs n u, kQ c = true := by
 intro c hc
 unfold dgs at hc
 obtain ⟨t, _, rfl⟩ := List.mem_map.1 hc
 have := Nat.mod_lt (u / 10 ^ (n - 1 - t)) (show 0 < 10 by decide)
 simp only [kQ, decide_eq_true_iff]; omega
theorem aVo (q : Nat) : mZ (txt q) = q := by
 unfold txt oU
 split
 ·rename_i h; rw [h]; rfl
 ·exact aPv _ _ (Lib.lt_pow_nDigits q)
theorem aR9 (q : Nat) : ∀ c ∈ txt q, kQ c = true := by
 unfold txt oU
 split
 ·intro c hc; cases hc
 ·exact aW8 _ _
theorem aW9 (a b : List Nat) : mZ (a ++ b) = b.foldl (fun m c => m * 10 + (c - 48)) (mZ a) := by unfold mZ; rw [List.foldl_append]
theorem aVp (k : Nat) (s : List Nat) : mZ (rI k s) = mZ s := by
 have h := aPp [] (k + 1 - s.length)
 rw [List.nil_append, show mZ ([] : List Nat) = 0 from rfl, Nat.zero_mul] at h
 unfold rI
 rw [aW9, h]; rfl
theorem aSa (k : Nat) {s : List Nat} (h : ∀ c ∈ s, kQ c = true) : ∀ c ∈ rI k s, kQ c = true := aWX (aWW _) h
theorem aVq (k : Nat) (s : List Nat) : k + 1 ≤ (rI k s).length := by unfold rI; rw [List.length_append, List.length_replicate]; omega
theorem aPw (n q : Nat) (h : (ptS n (rI n (txt q))).length ≤ 60) : oS (ptS n (rI n (txt q))) = (rI n (txt q), -(n : Int), true, ()) := by
 have hd := aSa n (aR9 q)
 have hl := aVq n (txt q)
 generalize rI n (txt q) = s at *
 unfold ptS at h ⊢
 by_cases h0 : 0 < n
 ·rw [if_pos h0] at h ⊢
  have l1 : (s.take (s.length - n)).length = s.length - n := by rw [List.length_take]; omega
  have l2 : (s.drop (s.length - n)).length = n := by rw [List.length_drop]; omega
  rw [List.length_append, List.length_append, l1, l2, List.length_singleton] at h
  have := aWV (a := s.take (s.length - n)) (b := s.drop (s.length - n)) (fun c hc => hd c (List.mem_of_mem_take hc)) (fun c hc => hd c (List.mem_of_mem_drop hc)) (by omega) (by omega) (by omega)
  rw [l2, List.take_append_drop] at this
  rw [← this, List.append_assoc]; rfl
 ·rw [if_neg h0] at h ⊢
  have : n = 0 := by omega
  subst this
  exact aVg hd (by omega) h
theorem aXa (n q : Nat) (h : (ptS n (rI n (txt q))).length ≤ 60) : aFN (ptS n (rI n (txt q))) = q ∧ aEP (ptS n (rI n (txt q))) = 10 ^ n ∧ exN (ptS n (rI n (txt q))) = q ∧ exD (ptS n (rI n (txt q))) = 5 ^ n := by
 have f := aPw n q h
 unfold aFN aEP exN exD
 rw [f]
 simp only
 rw [aVp, aVo, show (max (-(n : Int)) 0).toNat = 0 from by omega, show (max (-(-(n : Int))) 0).toNat = n from by omega]
 simp
theorem qV {a : List Nat} (h : Nrm a) : nv a = 0 ↔ a.length = 0 := by
 constructor
 ·intro h0
  cases a with
  | nil => rfl
  | cons x r => have := aA5 h (by simp); omega
 ·intro h0; rw [List.eq_nil_of_length_eq_zero h0]; rfl
theorem aVr {a b : Dy} (ha : dV a = true) (hb : dV b = true) (na : a.1 = false) (nb : b.1 = false) (low : Int) (h1 : low ≤ a.2.2.1) (h2 : low ≤ b.2.2.1) (h : nv a.2.1 * 2 ^ (a.2.2.1 - low).toNat ≤ nv b.2.1 * 2 ^ (b.2.2.1 - low).toNat) : uT a b ≤ 0 := by
 obtain ⟨_, ma, _, _⟩ := jT ha
 obtain ⟨_, mb, _, _⟩ := jT hb
 have za := qV ma
 have zb := qV mb
 have sa : kS a = if a.2.1.length = 0 then 0 else 1 := by
  unfold kS; rw [ha, na]
  by_cases h0 : a.2.1.length = 0
  ·rw [if_pos (.inr h0), if_pos h0]
  ·rw [if_neg (by rintro (h | h); cases h; exact h0 h), if_neg h0]; rfl
 have sb : kS b = if b.2.1.length = 0 then 0 else 1 := by
  unfold kS; rw [hb, nb]
  by_cases h0 : b.2.1.length = 0
  ·rw [if_pos (.inr h0), if_pos h0]
  ·rw [if_neg (by rintro (h | h); cases h; exact h0 h), if_neg h0]; rfl
 unfold uT
 rw [if_neg (by rw [ha, hb]; rintro (h | h) <;> cases h), sa, sb]
 by_cases h0 : a.2.1.length = 0
 ·rw [if_pos h0]
  by_cases h3 : b.2.1.length = 0
  ·rw [if_pos h3]; simp
  ·rw [if_neg h3]; simp
 ·have ha0 : nv a.2.1 ≠ 0 := fun e => h0 (za.1 e)
  have hp := Nat.mul_pos (Nat.pos_of_ne_zero ha0) (Nat.two_pow_pos (a.2.2.1 - low).toNat)
  have hb0 : nv b.2.1 ≠ 0 := fun e => by rw [e, Nat.zero_mul] at h; omega
  have h3 : b.2.1.length ≠ 0 := fun e => hb0 (zb.2 e)
  rw [if_neg h0, if_neg h3, if_neg (by decide), if_neg (by decide), if_neg (by decide), Int.one_mul]
  unfold aDi
  simp only
  by_cases hx : (bl (nv a.2.1) : Int) + a.2.2.1 < (bl (nv b.2.1) : Int) + b.2.2.1
  ·rw [if_pos hx]; decide
  ·rw [if_neg hx]
   have hy : ¬ (bl (nv b.2.1) : Int) + b.2.2.1 < (bl (nv a.2.1) : Int) + a.2.2.1 := by
    intro hy
    have pa := aGp ha0
    have pb := aDZ (nv b.2.1)
    have ba := aCS ha0
    have e1 : nv b.2.1 * 2 ^ (b.2.2.1 - low).toNat < 2 ^ (bl (nv b.2.1) + (b.2.2.1 - low).toNat) := by
     rw [Nat.pow_add]; exact Nat.mul_lt_mul_of_pos_right pb (Nat.two_pow_pos _)
    have e2 : 2 ^ (bl (nv a.2.1) - 1 + (a.2.2.1 - low).toNat) ≤ nv a.2.1 * 2 ^ (a.2.2.1 - low).toNat := by
     rw [Nat.pow_add]; exact Nat.mul_le_mul_right _ pa
    have e3 := p2m (bl (nv b.2.1) + (b.2.2.1 - low).toNat) (bl (nv a.2.1) - 1 + (a.2.2.1 - low).toNat) (by omega)
    omega
   rw [if_neg hy]
   have e1 : (a.2.2.1 - low).toNat = (a.2.2.1 - min a.2.2.1 b.2.2.1).toNat + (min a.2.2.1 b.2.2.1 - low).toNat := by omega
   have e2 : (b.2.2.1 - low).toNat = (b.2.2.1 - min a.2.2.1 b.2.2.1).toNat + (min a.2.2.1 b.2.2.1 - low).toNat := by omega
   rw [e1, e2, Nat.pow_add, Nat.pow_add, ← Nat.mul_assoc, ← Nat.mul_assoc] at h
   have h4 := Nat.le_of_mul_le_mul_right h (Nat.two_pow_pos _)
   unfold zV
   split
   ·decide
   ·split
    ·decide
    ·omega
theorem vR (M : Nat) (e : Int) : (cO M e).1 = false := by unfold cO; split <;> rfl
theorem aVs (M : Nat) (e : Int) : Lm (cO M e).2.1 := by rw [vO]; exact aB7 _
theorem tG (M : Nat) (e low : Int) (h0 : low ≤ 0) (h : low ≤ e) : low ≤ (cO M e).2.2.1 ∧ nv (cO M e).2.1 * 2 ^ ((cO M e).2.2.1 - low).toNat = M * 2 ^ (e - low).toNat := by
 unfold cO
 by_cases hz : M = 0
 ·rw [if_pos hz, hz, Nat.zero_mul]
  exact ⟨h0, by show nv [] * _ = 0; rw [aAG, Nat.zero_mul]⟩
 ·rw [if_neg hz]
  obtain ⟨p1, _⟩ := aBT hz
  simp only
  refine ⟨by omega, ?_⟩
  rw [iI, show (e + (tzn M : Int) - low).toNat = tzn M + (e - low).toNat from by omega, Nat.pow_add, ← Nat.mul_assoc, p1]
theorem lo_le {A B p k : Nat} : rM A B p k * 2 ^ rn A B p k * B ≤ A * 2 ^ k := by
 unfold rM
 refine Nat.le_trans (Nat.mul_le_mul_right B (Nat.div_mul_le_self _ _)) ?_
 unfold rq
 exact Nat.div_mul_le_self _ _
theorem aXt {A B p k : Nat} (hB : B ≠ 0) : A * 2 ^ k ≤ rm2 A B p k true * 2 ^ rn A B p k * B := by
 have e : rM A B p k = A * 2 ^ k / (B * 2 ^ rn A B p k) := by
  unfold rM
  conv => lhs; arg 1; unfold rq
  rw [Nat.div_div_eq_div_mul]
 have hY : 0 < B * 2 ^ rn A B p k := Nat.mul_pos (by omega) (Nat.two_pow_pos _)
 have hdm := Nat.div_add_mod (A * 2 ^ k) (B * 2 ^ rn A B p k)
 have hlt := Nat.mod_lt (A * 2 ^ k) hY
 rw [← e] at hdm
 unfold rm2 rS
 rw [Nat.mul_assoc, Nat.mul_comm (2 ^ _) B]
 by_cases h : A * 2 ^ k % (B * 2 ^ rn A B p k) = 0
 ·rw [if_neg (fun hh => (of_decide_eq_true hh.1) h), Nat.mul_comm (rM A B p k)]
  omega
 ·rw [if_pos ⟨decide_eq_true h, rfl⟩, Nat.add_mul, Nat.one_mul, Nat.mul_comm (rM A B p k)]
  omega
theorem aSb {d : Dy} {R r k K : Nat} (hd : dV d = true) (nd : d.1 = false) (hR : R < 2 ^ K) (hK : K ≤ 4096) (hr : r ≤ 100000) (hk : k ≤ 100000) (h : R * 2 ^ (r + (max (-d.2.2.1) 0).toNat) ≤ nv d.2.1 * 2 ^ ((max d.2.2.1 0).toNat + k)) : uT (cO R ((r : Int) - (k : Int))) d ≤ 0 := by
 obtain ⟨v1, v2⟩ := tG R ((r : Int) - (k : Int)) (-(k : Int) - (max (-d.2.2.1) 0)) (by omega) (by omega)
 refine aVr (uN hR hK (by constructor <;> omega)) hd (vR _ _) nd (-(k : Int) - (max (-d.2.2.1) 0)) v1 (by omega) ?_
 rw [v2, show ((r : Int) - (k : Int) - (-(k : Int) - (max (-d.2.2.1) 0))).toNat = r + (max (-d.2.2.1) 0).toNat from by omega, show (d.2.2.1 - (-(k : Int) - (max (-d.2.2.1) 0))).toNat = (max d.2.2.1 0).toNat + k from by omega]
 exact h
theorem aSc {d : Dy} {R r k K : Nat} (hd : dV d = true) (nd : d.1 = false) (hR : R < 2 ^ K) (hK : K ≤ 4096) (hr : r ≤ 100000) (hk : k ≤ 100000) (h : nv d.2.1 * 2 ^ ((max d.2.2.1 0).toNat + k) ≤ R * 2 ^ (r + (max (-d.2.2.1) 0).toNat)) : uT d (cO R ((r : Int) - (k : Int))) ≤ 0 := by
 obtain ⟨v1, v2⟩ := tG R ((r : Int) - (k : Int)) (-(k : Int) - (max (-d.2.2.1) 0)) (by omega) (by omega)
 refine aVr hd (uN hR hK (by constructor <;> omega)) nd (vR _ _) (-(k : Int) - (max (-d.2.2.1) 0)) (by omega) v1 ?_
 rw [v2, show ((r : Int) - (k : Int) - (-(k : Int) - (max (-d.2.2.1) 0))).toNat = r + (max (-d.2.2.1) 0).toNat from by omega, show (d.2.2.1 - (-(k : Int) - (max (-d.2.2.1) 0))).toNat = (max d.2.2.1 0).toNat + k from by omega]
 exact h
theorem aYh {d : Dy} {n : Nat} (nd : d.1 = false) : txQ d n false * 2 ^ (max (-d.2.2.1) 0).toNat ≤ txM d n := by
 unfold txQ; simp only
 rw [if_neg (by rw [nd]; rintro ⟨_, h⟩; cases h)]
 exact Nat.div_mul_le_self _ _
theorem aVt {d : Dy} {n : Nat} (nd : d.1 = false) : txM d n ≤ txQ d n true * 2 ^ (max (-d.2.2.1) 0).toNat ∧ (txQ d n true = txQ d n false ↔ txM d n % 2 ^ (max (-d.2.2.1) 0).toNat = 0) := by
 have hp := Nat.two_pow_pos (max (-d.2.2.1) 0).toNat
 have hdm := Nat.div_add_mod (txM d n) (2 ^ (max (-d.2.2.1) 0).toNat)
 have hlt := Nat.mod_lt (txM d n) hp
 rw [Nat.mul_comm] at hdm
 unfold txQ; simp only
 rw [if_neg (c := _ ∧ (false != d.1) = true) (by rw [nd]; rintro ⟨_, h⟩; cases h)]
 by_cases h : txM d n % 2 ^ (max (-d.2.2.1) 0).toNat = 0
 ·rw [if_neg (fun hh => hh.1 h)]
  exact ⟨by omega, fun _ => h, fun _ => rfl⟩
 ·rw [if_pos ⟨h, by rw [nd]; rfl⟩, Nat.add_mul, Nat.one_mul]
  exact ⟨by omega, fun hh => by omega, fun hh => absurd hh h⟩
end Nu
end Go.Proofs
namespace Go.Proofs
open Go.Vc
set_option maxRecDepth 20000
namespace Nu
theorem aVu {R r N M P k T q : Nat} (h1 : R * 2 ^ r * T ≤ q * 2 ^ k) (h2 : q * 2 ^ N ≤ M * 2 ^ P * T) (hT : 0 < T) : R * 2 ^ (r + N) ≤ M * 2 ^ (P + k) := by
 refine Nat.le_of_mul_le_mul_right (c := T) ?_ hT
 have a := Nat.mul_le_mul_right (2 ^ N) h1
 have b := Nat.mul_le_mul_right (2 ^ k) h2
 have e1 : R * 2 ^ (r + N) * T = R * 2 ^ r * T * 2 ^ N := by rw [Nat.pow_add]; ac_rfl
 have e2 : q * 2 ^ k * 2 ^ N = q * 2 ^ N * 2 ^ k := by ac_rfl
 have e3 : M * 2 ^ (P + k) * T = M * 2 ^ P * T * 2 ^ k := by rw [Nat.pow_add]; ac_rfl
 omega
theorem aPx {R r N M P k T q : Nat} (h1 : q * 2 ^ k ≤ R * 2 ^ r * T) (h2 : M * 2 ^ P * T ≤ q * 2 ^ N) (hT : 0 < T) : M * 2 ^ (P + k) ≤ R * 2 ^ (r + N) := by
 refine Nat.le_of_mul_le_mul_right (c := T) ?_ hT
 have a := Nat.mul_le_mul_right (2 ^ N) h1
 have b := Nat.mul_le_mul_right (2 ^ k) h2
 have e1 : R * 2 ^ (r + N) * T = R * 2 ^ r * T * 2 ^ N := by rw [Nat.pow_add]; ac_rfl
 have e2 : q * 2 ^ k * 2 ^ N = q * 2 ^ N * 2 ^ k := by ac_rfl
 have e3 : M * 2 ^ (P + k) * T = M * 2 ^ P * T * 2 ^ k := by rw [Nat.pow_add]; ac_rfl
 omega
theorem aEQ {q n : Nat} (hq : q < 18446744073709551616 ^ 201) (hn : n ≤ 40) : 1000 + 1 + bl (10 ^ n) ≤ 100000 ∧ rn q (10 ^ n) 1000 (1000 + 1 + bl (10 ^ n)) ≤ 100000 := by
 have hT : 10 ^ n ≤ 10 ^ 40 := Nat.pow_le_pow_right (by decide) hn
 have hbl : bl (10 ^ n) ≤ 200 := sW (Nat.lt_of_le_of_lt hT (by decide))
 have hbq : bl q ≤ 64 * 201 := aVl 201 hq
 refine ⟨by omega, ?_⟩
 by_cases h0 : q = 0
 ·have : rn q (10 ^ n) 1000 (1000 + 1 + bl (10 ^ n)) = 0 := by
   unfold rn rq; rw [h0, Nat.zero_mul, Nat.zero_div]; rfl
  omega
 ·have hr := (aKq (A := q) (B := 10 ^ n) (p := 1000) (k := 1000 + 1 + bl (10 ^ n)) h0).2
  unfold rE at hr
  omega
theorem aVv {d : Dy} {n : Nat} {s : List Nat} (hd : dV d = true) (nd : d.1 = false) (hn : n ≤ 40) (hx : txQ d n false < 18446744073709551616 ^ 201) (hA : aFN s = txQ d n false) (hB : aEP s = 10 ^ n) : uT (sN s 1000 false) d ≤ 0 := by
 have hq := aYh (n := n) nd
 obtain ⟨r1, r2⟩ := aEQ hx hn
 unfold sN
 rw [hA, hB]
 by_cases h0 : txQ d n false = 0
 ·rw [if_pos h0]
  exact aSb (R := 0) (r := 0) (k := 0) (K := 1) hd nd (by decide) (by decide) (by decide) (by decide) (by rw [Nat.zero_mul]; exact Nat.zero_le _)
 ·rw [if_neg h0]
  unfold aQG rE
  have e : rm2 (txQ d n false) (10 ^ n) 1000 (1000 + 1 + bl (10 ^ n)) false = rM (txQ d n false) (10 ^ n) 1000 (1000 + 1 + bl (10 ^ n)) := by
   unfold rm2; rw [if_neg (by rintro ⟨_, h⟩; cases h)]
  rw [e]
  exact aSb hd nd aU5 (by decide) r2 r1 (aVu lo_le hq (Nat.pow_pos (by decide)))
theorem aVw {d : Dy} {n : Nat} {s : List Nat} (hd : dV d = true) (nd : d.1 = false) (hn : n ≤ 40) (hx : txQ d n true < 18446744073709551616 ^ 201) (hA : aFN s = txQ d n true) (hB : aEP s = 10 ^ n) : uT d (sN s 1000 true) ≤ 0 := by
 have hq := (aVt (n := n) nd).1
 obtain ⟨r1, r2⟩ := aEQ hx hn
 have hT : 0 < 10 ^ n := Nat.pow_pos (by decide)
 unfold sN
 rw [hA, hB]
 by_cases h0 : txQ d n true = 0
 ·rw [if_pos h0]
  refine aSc (R := 0) (r := 0) (k := 0) (K := 1) hd nd (by decide) (by decide) (by decide) (by decide) ?_
  rw [h0] at hq
  exact aPx (q := 0) (T := 10 ^ n) (by omega) hq hT
 ·rw [if_neg h0]
  unfold aQG rE
  exact aSc hd nd aNO (by decide) r2 r1 (aPx (aXt (by omega)) hq hT)
end Nu
end Go.Proofs
namespace Go.Proofs
open Go.Vc
set_option maxRecDepth 20000
namespace Nu
theorem aSd {x y i j : Nat} (hy : y ≠ 0) (h : bl x + i < bl y + j) : x * 2 ^ i < y * 2 ^ j := by
 have pa := aGp hy
 have pb := aDZ x
 have ba := aCS hy
 have e1 : x * 2 ^ i < 2 ^ (bl x + i) := by
  rw [Nat.pow_add]; exact Nat.mul_lt_mul_of_pos_right pb (Nat.two_pow_pos _)
 have e2 : 2 ^ (bl y - 1 + j) ≤ y * 2 ^ j := by
  rw [Nat.pow_add]; exact Nat.mul_le_mul_right _ pa
 have e3 := p2m (bl x + i) (bl y - 1 + j) (by omega)
 omega
theorem aVx (x y : Nat) {c : Nat} (h : 0 < c) : zV (x * c) (y * c) = zV x y := by
 unfold zV
 by_cases h1 : x < y
 ·rw [if_pos h1, if_pos (Nat.mul_lt_mul_of_pos_right h1 h)]
 ·rw [if_neg h1, if_neg (fun hh => h1 (Nat.lt_of_mul_lt_mul_right hh))]
  by_cases h2 : x = y
  ·rw [if_pos h2, if_pos (by rw [h2])]
  ·rw [if_neg h2, if_neg (fun hh => h2 (Nat.eq_of_mul_eq_mul_right h hh))]
theorem aSe {x y : Nat} (h : x < y) : zV x y = -1 := by unfold zV; rw [if_pos h]
theorem aSf {x y : Nat} (h : y < x) : zV x y = 1 := by unfold zV; rw [if_neg (by omega), if_neg (by omega)]
theorem aNZ {x y : Nat} : zV x y ≤ 0 ↔ x ≤ y := by
 unfold zV
 split
 ·constructor <;> intro _ <;> omega
 ·split
  ·constructor <;> intro _ <;> omega
  ·constructor <;> intro _ <;> omega
theorem aPy {x y : Nat} : zV x y = 0 ↔ x = y := by
 unfold zV
 split
 ·constructor <;> intro _ <;> omega
 ·split
  ·constructor <;> intro _ <;> omega
  ·constructor <;> intro _ <;> omega
theorem aIP {a b : Dy} (ha : dV a = true) (hb : dV b = true) (na : a.1 = false) (nb : b.1 = false) (low : Int) (h1 : low ≤ a.2.2.1) (h2 : low ≤ b.2.2.1) : uT a b = zV (nv a.2.1 * 2 ^ (a.2.2.1 - low).toNat) (nv b.2.1 * 2 ^ (b.2.2.1 - low).toNat) := by
 obtain ⟨_, ma, _, _⟩ := jT ha
 obtain ⟨_, mb, _, _⟩ := jT hb
 have za := qV ma
 have zb := qV mb
 have pa := Nat.two_pow_pos (a.2.2.1 - low).toNat
 have pb := Nat.two_pow_pos (b.2.2.1 - low).toNat
 have sa : kS a = if a.2.1.length = 0 then 0 else 1 := by
  unfold kS; rw [ha, na]
  by_cases h0 : a.2.1.length = 0
  ·rw [if_pos (.inr h0), if_pos h0]
  ·rw [if_neg (by rintro (h | h); cases h; exact h0 h), if_neg h0]; rfl
 have sb : kS b = if b.2.1.length = 0 then 0 else 1 := by
  unfold kS; rw [hb, nb]
  by_cases h0 : b.2.1.length = 0
  ·rw [if_pos (.inr h0), if_pos h0]
  ·rw [if_neg (by rintro (h | h); cases h; exact h0 h), if_neg h0]; rfl
 unfold uT
 rw [if_neg (by rw [ha, hb]; rintro (h | h) <;> cases h), sa, sb]
 by_cases h0 : a.2.1.length = 0
 ·rw [if_pos h0, za.2 h0, Nat.zero_mul]
  by_cases h3 : b.2.1.length = 0
  ·rw [if_pos h3, zb.2 h3, Nat.zero_mul]; simp [zV]
  ·have hb0 : nv b.2.1 ≠ 0 := fun e => h3 (zb.1 e)
   rw [if_neg h3, aSe (Nat.mul_pos (by omega) pb)]; simp
 ·have ha0 : nv a.2.1 ≠ 0 := fun e => h0 (za.1 e)
  rw [if_neg h0]
  by_cases h3 : b.2.1.length = 0
  ·rw [if_pos h3, zb.2 h3, Nat.zero_mul, aSf (Nat.mul_pos (by omega) pa)]; simp
  ·have hb0 : nv b.2.1 ≠ 0 := fun e => h3 (zb.1 e)
   rw [if_neg h3, if_neg (by decide), if_neg (by decide), if_neg (by decide), Int.one_mul]
   unfold aDi
   simp only
   by_cases hx : (bl (nv a.2.1) : Int) + a.2.2.1 < (bl (nv b.2.1) : Int) + b.2.2.1
   ·rw [if_pos hx, aSe (aSd hb0 (by omega))]
   ·rw [if_neg hx]
    by_cases hy : (bl (nv b.2.1) : Int) + b.2.2.1 < (bl (nv a.2.1) : Int) + a.2.2.1
    ·rw [if_pos hy, aSf (aSd ha0 (by omega))]
    ·rw [if_neg hy]
     have e1 : (a.2.2.1 - low).toNat = (a.2.2.1 - min a.2.2.1 b.2.2.1).toNat + (min a.2.2.1 b.2.2.1 - low).toNat := by omega
     have e2 : (b.2.2.1 - low).toNat = (b.2.2.1 - min a.2.2.1 b.2.2.1).toNat + (min a.2.2.1 b.2.2.1 - low).toNat := by omega
     rw [e1, e2, Nat.pow_add, Nat.pow_add, ← Nat.mul_assoc, ← Nat.mul_assoc, aVx _ _ (Nat.two_pow_pos _)]
def aKM (a b : Dy) : Dy := cO (nv a.2.1 * nv b.2.1) (a.2.2.1 + b.2.2.1)
theorem aQM {M : Nat} : M / 2 ^ tzn M ≤ M := Nat.div_le_self _ _
structure aZf (q B p : Nat) (lo hi : Dy) : Prop where
 cl : uT (aKM lo (cO B 0)) (cO q 0) ≤ 0
 ch : uT (cO q 0) (aKM hi (cO B 0)) ≤ 0
 bl1 : bl (nv lo.2.1) ≤ p
 bl2 : bl (nv hi.2.1) ≤ p
 eq : lo = hi ↔ (uT (aKM lo (cO B 0)) (cO q 0) = 0 ∧ uT (cO q 0) (aKM hi (cO B 0)) = 0)
theorem aSg {R r k B K J : Nat} (hR : R < 2 ^ K) (hB : B < 2 ^ J) (hKJ : K + J ≤ 4096) (hr : r ≤ 100000) (hk : k ≤ 100000) :
  -(k : Int) ≤ (aKM (cO R ((r : Int) - (k : Int))) (cO B 0)).2.2.1 ∧ nv (aKM (cO R ((r : Int) - (k : Int))) (cO B 0)).2.1 * 2 ^ ((aKM (cO R ((r : Int) - (k : Int))) (cO B 0)).2.2.1 - -(k : Int)).toNat = R * 2 ^ r * B ∧ dV (aKM (cO R ((r : Int) - (k : Int))) (cO B 0)) = true := by
 obtain ⟨a1, a2⟩ := tG R ((r : Int) - (k : Int)) (-(k : Int)) (by omega) (by omega)
 obtain ⟨b1, b2⟩ := tG B 0 0 (by omega) (by omega)
 rw [show ((r : Int) - (k : Int) - -(k : Int)).toNat = r from by omega] at a2
 rw [show ((0 : Int) - 0).toNat = 0 from rfl, Nat.pow_zero, Nat.mul_one] at b2
 have hle : nv (cO R ((r : Int) - (k : Int))).2.1 * nv (cO B 0).2.1 < 2 ^ (K + J) := by
  rw [vO, vO, iI, iI, Nat.pow_add]
  exact Nat.mul_lt_mul'' (Nat.lt_of_le_of_lt aQM hR) (Nat.lt_of_le_of_lt aQM hB)
 have hmR := uN (e := (r : Int) - (k : Int)) hR (by omega) (by constructor <;> omega)
 have hmB := uN (e := 0) hB (by omega) (by constructor <;> omega)
 have zR : (cO R ((r : Int) - (k : Int))).2.2.1 ≤ 104096 := by
  unfold cO
  split
  ·decide
  ·rename_i h0
   have := aGD h0 hR
   simp only; omega
 have zB : (cO B 0).2.2.1 ≤ 4096 := by
  unfold cO
  split
  ·decide
  ·rename_i h0
   have := aGD h0 hB
   simp only; omega
 obtain ⟨c1, c2⟩ := tG (nv (cO R ((r : Int) - (k : Int))).2.1 * nv (cO B 0).2.1) ((cO R ((r : Int) - (k : Int))).2.2.1 + (cO B 0).2.2.1) (-(k : Int)) (by omega) (by omega)
 refine ⟨c1, ?_, uN hle hKJ (by constructor <;> omega)⟩
 unfold aKM
 rw [c2, show ((cO R ((r : Int) - (k : Int))).2.2.1 + (cO B 0).2.2.1 - -(k : Int)).toNat = ((cO R ((r : Int) - (k : Int))).2.2.1 - -(k : Int)).toNat + ((cO B 0).2.2.1 - 0).toNat from by omega, Nat.pow_add]
 rw [← a2, show nv (cO R ((r : Int) - (k : Int))).2.1 * 2 ^ ((cO R ((r : Int) - (k : Int))).2.2.1 - -(k : Int)).toNat * B = nv (cO R ((r : Int) - (k : Int))).2.1 * 2 ^ ((cO R ((r : Int) - (k : Int))).2.2.1 - -(k : Int)).toNat * (nv (cO B 0).2.1 * 2 ^ ((cO B 0).2.2.1 - 0).toNat) from by rw [b2]]
 ac_rfl
theorem aVy {R e p : Nat} {E : Int} (hR : R ≤ 2 ^ p) (hp : 1 ≤ p) : bl (nv (cO R E).2.1) ≤ p := by
 rw [vO, iI]
 by_cases h : R = 2 ^ p
 ·have : tzn R = p := aGq (m := 0) (by rw [h]; simp)
  rw [this, h, Nat.div_self (Nat.two_pow_pos p)]
  exact sW (Nat.lt_of_lt_of_le (show 1 < 2 ^ 1 by decide) (p2m _ _ hp))
 ·exact sW (Nat.lt_of_le_of_lt aQM (by omega))
theorem aYF {A B p k : Nat} : rM A B p k = A * 2 ^ k / (B * 2 ^ rn A B p k) := by
 unfold rM
 conv => lhs; arg 1; unfold rq
 rw [Nat.div_div_eq_div_mul]
theorem aVz {A B p k : Nat} : rm2 A B p k true = if A * 2 ^ k % (B * 2 ^ rn A B p k) = 0 then rM A B p k else rM A B p k + 1 := by
 unfold rm2 rS
 by_cases h : A * 2 ^ k % (B * 2 ^ rn A B p k) = 0
 ·rw [if_pos h, if_neg (fun hh => (of_decide_eq_true hh.1) h)]
 ·rw [if_neg h, if_pos ⟨decide_eq_true h, rfl⟩]
theorem held {q B p : Nat} (hq : q < 2 ^ 60) (hB0 : B ≠ 0) (hB : B < 2 ^ 60) (hp : 1 ≤ p) (hp2 : p ≤ 100) (F : Bool → Dy) (hF : ∀ up, F up = if q = 0 then d0 else aQG q B p (p + 1 + bl B) up) : aZf q B p (F false) (F true) := by
 by_cases h0 : q = 0
 ·have e : ∀ up, F up = d0 := fun up => by rw [hF, if_pos h0]
  have em : aKM d0 (cO B 0) = d0 := by
   unfold aKM
   rw [show nv d0.2.1 = 0 from aAG, Nat.zero_mul]; rfl
  have ex : cO q 0 = d0 := by rw [h0]; rfl
  have ec : uT d0 d0 = 0 := by decide
  rw [e, e]
  refine ⟨by rw [em, ex, ec]; decide, by rw [em, ex, ec]; decide, ?_, ?_, ⟨fun _ => ⟨by rw [em, ex, ec], by rw [em, ex, ec]⟩, fun _ => rfl⟩⟩
  ·rw [show nv d0.2.1 = 0 from aAG]; exact Nat.zero_le _
  ·rw [show nv d0.2.1 = 0 from aAG]; exact Nat.zero_le _
 ·have hbB : bl B ≤ 60 := sW hB
  have hbq : bl q ≤ 60 := sW hq
  obtain ⟨k, hk⟩ : ∃ k, k = p + 1 + bl B := ⟨_, rfl⟩
  have hr := (aKq (A := q) (B := B) (p := p) (k := k) h0).2
  have e1 : F false = cO (rM q B p k) ((rn q B p k : Int) - (k : Int)) := by
   rw [hF, if_neg h0, ← hk]; unfold aQG rE rm2
   rw [if_neg (by rintro ⟨_, h⟩; cases h)]
  have e2 : F true = cO (rm2 q B p k true) ((rn q B p k : Int) - (k : Int)) := by
   rw [hF, if_neg h0, ← hk]; rfl
  unfold rE at hr
  have R1 : rM q B p k < 2 ^ p := aU5
  have R2 : rm2 q B p k true ≤ 2 ^ p := by rw [aVz]; split <;> omega
  have R3 : rm2 q B p k true < 2 ^ (p + 1) := aNO
  obtain ⟨a1, a2, a3⟩ := aSg (r := rn q B p k) (k := k) R1 hB (by omega) (by omega) (by omega)
  obtain ⟨b1, b2, b3⟩ := aSg (r := rn q B p k) (k := k) R3 hB (by omega) (by omega) (by omega)
  obtain ⟨x1, x2⟩ := tG q 0 (-(k : Int)) (by omega) (by omega)
  have x3 := uN (e := 0) hq (by decide) (by decide)
  rw [show ((0 : Int) - -(k : Int)).toNat = k from by omega] at x2
  have ca := aIP a3 x3 (vR _ _) (vR _ _) (-(k : Int)) a1 x1
  have cb := aIP x3 b3 (vR _ _) (vR _ _) (-(k : Int)) x1 b1
  rw [a2, x2] at ca
  rw [b2, x2] at cb
  rw [e1, e2]
  have hY : 0 < B * 2 ^ rn q B p k := Nat.mul_pos (by omega) (Nat.two_pow_pos _)
  have hdm := Nat.div_add_mod (q * 2 ^ k) (B * 2 ^ rn q B p k)
  rw [← aYF] at hdm
  have hRY : rM q B p k * 2 ^ rn q B p k * B = B * 2 ^ rn q B p k * rM q B p k := by ac_rfl
  refine ⟨by rw [ca]; exact aNZ.2 lo_le, by rw [cb]; exact aNZ.2 (aXt hB0), aVy (e := 0) (by omega) hp, aVy (e := 0) R2 hp, ?_⟩
  rw [ca, cb, aPy, aPy]
  by_cases hs : q * 2 ^ k % (B * 2 ^ rn q B p k) = 0
  ·have e3 : rm2 q B p k true = rM q B p k := by rw [aVz, if_pos hs]
   rw [e3]
   exact ⟨fun _ => ⟨by omega, by omega⟩, fun _ => rfl⟩
  ·have e3 : rm2 q B p k true = rM q B p k + 1 := by rw [aVz, if_neg hs]
   rw [e3]
   constructor
   ·intro h
    obtain ⟨_, v1⟩ := tG (rM q B p k) ((rn q B p k : Int) - (k : Int)) (-(k : Int)) (by omega) (by omega)
    obtain ⟨_, v2⟩ := tG (rM q B p k + 1) ((rn q B p k : Int) - (k : Int)) (-(k : Int)) (by omega) (by omega)
    rw [h, v2] at v1
    have := Nat.eq_of_mul_eq_mul_right (Nat.two_pow_pos _) v1
    omega
   ·rintro ⟨h, _⟩
    omega
end Nu
end Go.Proofs
namespace Go.Proofs
open Go.Vc
set_option maxRecDepth 20000
namespace Nu
noncomputable def qW (a_0 : qI0) : Option Bool :=
 (cL (a_0.1)).bind (fun v_5 => ck (((v_5 = true) → (((cL ((a_0.2).1)).isSome = true)))) (ck ((((v_5 = true) ∧ (((cL ((a_0.2).1)).getD false) = true)) → (((iF (a_0.1) ((a_0.2).1)).isSome = true)))) (some ((v_5 && ((cL ((a_0.2).1)).getD false)) && (decide (((iF (a_0.1) ((a_0.2).1)).getD (0 : Int)) ≤ (0 : Int)))))))
def aHI : PlR := ⟨[(0, .B [1]), (1, .A [2])], []⟩
def aKN : Ty := .pair (.pair (.pair .bool (.pair (.sl (.u .u64)) (.pair (.i .i64) .unit))) (.pair (.pair .bool (.pair (.sl (.u .u64)) (.pair (.i .i64) .unit))) .unit)) .unit
noncomputable def pC : aJ := mSpec aKN (.one .bool) (fun x => qW x.1)
noncomputable def aER : List (FuncId × aJ) := [(22, pB), (58, dR)]
theorem aQN : bL Tryz.prog GL aER := .cons aC2 (by kernel_rfl) (.cons oZ (by kernel_rfl) (.nil))
theorem aLT : gam aER 22 = some pB := rfl
theorem aLU : gam aER 58 = some dR := rfl
attribute [go_sem] aKN aHI aLT aLU
set_option maxHeartbeats 4000000 in
theorem aDj : FOK Tryz.prog GL 52 pC := by
 refine bZ (bF aQN) mix Tryz.func52 rfl (by kernel_rfl) (by decide) aHI fun w0 S x Θ hw h hF => ?_
 obtain ⟨(a_0 : qI0), u⟩ := x
 simp only [cC, go_sem]
 replace h : sat (qW a_0) _ := h
 unfold qW at h
 obtain ⟨v_5, hv, h⟩ := cY h
 try simp only [hv, go_sem]
 refine aN h fun g0 h => aN h fun g1 h => ?_
 exact aK hF [.tmp 2] rfl rfl rfl (aF h) (by simp only [bA, go_sem])
attribute [go_sem] pC
noncomputable def fK (a_0 : qI0) (digits_1 : Int) : Option ((List Nat) × (Int × Unit)) :=
 (qW a_0).bind (fun v_8 => if ¬ (v_8 = true) then some ((bE ⟨#[]⟩), (1 : Int), ()) else (kI (a_0.1) digits_1 false).bind (fun v_12 => if ¬ (((v_12.2).1) = (0 : Int)) then some ((bE ⟨#[]⟩), ((v_12.2).1), ()) else (kI ((a_0.2).1) digits_1 true).bind (fun v_16 => if ¬ (((v_16.2).1) = (0 : Int)) then some ((bE ⟨#[]⟩), ((v_16.2).1), ()) else ck (((bE ⟨#[91]⟩).length) + ((v_12.1).length) ≤ 9223372036854775807) (ck ((((bE ⟨#[91]⟩) ++ (v_12.1)).length) + ((bE ⟨#[44, 32]⟩).length) ≤ 9223372036854775807) (ck (((((bE ⟨#[91]⟩) ++ (v_12.1)) ++ (bE ⟨#[44, 32]⟩)).length) + ((v_16.1).length) ≤ 9223372036854775807) (ck ((((((bE ⟨#[91]⟩) ++ (v_12.1)) ++ (bE ⟨#[44, 32]⟩)) ++ (v_16.1)).length) + ((bE ⟨#[93]⟩).length) ≤ 9223372036854775807) (some ((((((bE ⟨#[91]⟩) ++ (v_12.1)) ++ (bE ⟨#[44, 32]⟩)) ++ (v_16.1)) ++ (bE ⟨#[93]⟩)), (0 : Int), ()))))))))
def aDk : PlR := ⟨[], []⟩
def aEe : Ty := .pair (.pair (.pair .bool (.pair (.sl (.u .u64)) (.pair (.i .i64) .unit))) (.pair (.pair .bool (.pair (.sl (.u .u64)) (.pair (.i .i64) .unit))) .unit)) (.pair (.i .i64) .unit)
noncomputable def jK : aJ := mSpec aEe (.tup (.pair .str (.pair (.i .i64) .unit))) (fun x => fK x.1 x.2.1)
noncomputable def aAT : List (FuncId × aJ) := [(45, tF), (52, pC)]
theorem aLV : bL Tryz.prog GL aAT := .cons aHG (by kernel_rfl) (.cons aDj (by kernel_rfl) (.nil))
theorem aGI : gam aAT 45 = some tF := rfl
theorem aGJ : gam aAT 52 = some pC := rfl
attribute [go_sem] aEe aDk aGI aGJ
set_option maxHeartbeats 4000000 in
theorem zS : FOK Tryz.prog GL 18 jK := by
 refine bZ (bF aLV) mix Tryz.func18 rfl (by kernel_rfl) (by decide) aDk fun w0 S x Θ hw h hF => ?_
 obtain ⟨(a_0 : qI0), (digits_1 : Int), u⟩ := x
 simp only [cC, go_sem]
 replace h : sat (fK a_0 digits_1) _ := h
 unfold fK at h
 refine aNg hF [1, 2] ?_
 simp only [go_sem]
 refine dS hF [1, 2, 11] ?_
 simp only [go_sem]
 obtain ⟨v_8, hv, h⟩ := cY h
 try simp only [hv, go_sem]
 refine aQa h (fun hc h => ?_) fun hc h => ?_
 ·refine dS hF [4, 5] ?_
  simp only [go_sem]
  exact aK hF [.tmp 4, .tmp 5] rfl rfl rfl (aF h) (by simp only [bA, go_sem])
 ·refine dS hF [1, 2, 6, 7] ?_
  simp only [go_sem]
  obtain ⟨v_12, hv, h⟩ := cY h
  try simp only [hv, go_sem]
  refine dS hF [1, 2, 6, 7, 20] ?_
  simp only [go_sem]
  refine iL h (fun hc h => ?_) fun hc h => ?_
  ·refine dS hF [4, 5] ?_
   simp only [go_sem]
   exact aK hF [.tmp 4, .tmp 5] rfl rfl rfl (aF h) (by simp only [bA, go_sem])
  ·refine dS hF [6, 7, 8] ?_
   simp only [go_sem]
   obtain ⟨v_16, hv, h⟩ := cY h
   try simp only [hv, go_sem]
   refine dS hF [6, 7, 8, 30] ?_
   simp only [go_sem]
   refine iL h (fun hc h => ?_) fun hc h => ?_
   ·refine dS hF [4, 5] ?_
    simp only [go_sem]
    exact aK hF [.tmp 4, .tmp 5] rfl rfl rfl (aF h) (by simp only [bA, go_sem])
   ·refine dS hF [4, 5] ?_
    simp only [go_sem]
    refine aN h fun g0 h => aN h fun g1 h => aN h fun g2 h => aN h fun g3 h => ?_
    exact aK hF [.tmp 4, .tmp 5] rfl rfl rfl (aF h) (by simp only [bA, go_sem])
attribute [go_sem] jK
noncomputable def mH (a_0 : qI0) : Option Bool :=
 (qW a_0).bind (fun v_5 => some (!v_5))
def aCc : PlR := ⟨[(0, .B [1]), (1, .A [2])], []⟩
def aDl : Ty := .pair (.pair (.pair .bool (.pair (.sl (.u .u64)) (.pair (.i .i64) .unit))) (.pair (.pair .bool (.pair (.sl (.u .u64)) (.pair (.i .i64) .unit))) .unit)) .unit
noncomputable def sE : aJ := mSpec aDl (.one .bool) (fun x => mH x.1)
noncomputable def aDm : List (FuncId × aJ) := [(52, pC)]
theorem aKO : bL Tryz.prog GL aDm := .cons aDj (by kernel_rfl) (.nil)
theorem aFQ : gam aDm 52 = some pC := rfl
attribute [go_sem] aDl aCc aFQ
set_option maxHeartbeats 4000000 in
theorem aIj : FOK Tryz.prog GL 87 sE := by
 refine bZ (bF aKO) mix Tryz.func87 rfl (by kernel_rfl) (by decide) aCc fun w0 S x Θ hw h hF => ?_
 obtain ⟨(a_0 : qI0), u⟩ := x
 simp only [cC, go_sem]
 replace h : sat (mH a_0) _ := h
 unfold mH at h
 obtain ⟨v_5, hv, h⟩ := cY h
 try simp only [hv, go_sem]
 exact aK hF [.tmp 2] rfl rfl rfl (aF h) (by simp only [bA, go_sem])
attribute [go_sem] sE
noncomputable def cI (s_0 : (List qI0)) (x8_14 : Int) : Option ((Int) ⊕ ((Unit) ⊕ Int)) :=
 if x8_14 < (s_0.length : Int) then ck (0 ≤ x8_14 ∧ x8_14 < (s_0.length : Int)) ((mH (s_0.getD (x8_14.toNat) ((false, ([] : List Nat), (0 : Int), ()), (false, ([] : List Nat), (0 : Int), ()), ()))).bind (fun v_27 => if v_27 = true then some (.inr (.inr x8_14)) else ck (I64 (x8_14 + (1 : Int))) (some (.inl (x8_14 + (1 : Int)))))) else some (.inr (.inl ()))
noncomputable def bO (s_0 : (List qI0)) (f_1 : Unit) : Option Int :=
 (eQ (fun d : Int => cI s_0 d) (0 : Int)).bind (fun e => match e with | (.inl e) => some (-1 : Int) | (.inr e) => some e)
def fG : PlR := ⟨[(0, .A [0, 1]), (1, .A [0, 1, 7, 8]), (2, .A [0, 1, 7, 8, 9]), (3, .A [0, 1, 5, 7, 8]), (4, .A [0, 1, 5, 7, 8, 16]), (5, .A [4]), (6, .A [0, 1, 7, 8]), (7, .A [4])], []⟩
def fO : Ty := .pair (.sl (.pair (.pair .bool (.pair (.sl (.u .u64)) (.pair (.i .i64) .unit))) (.pair (.pair .bool (.pair (.sl (.u .u64)) (.pair (.i .i64) .unit))) .unit))) (.pair (.clo 87 .unit) .unit)
noncomputable def cP : aJ := mSpec fO (.one (.i .i64)) (fun x => bO x.1 x.2.1)
noncomputable def fP : List (FuncId × aJ) := [(87, sE)]
theorem mV : bL Tryz.prog GL fP := .cons aIj (by kernel_rfl) (.nil)
theorem kZ : gam fP 87 = some sE := rfl
attribute [go_sem] fO fG kZ
set_option maxHeartbeats 4000000 in
theorem mI : FOK Tryz.prog GL 156 cP := by
 refine bZ (bF mV) mix Tryz.func156 rfl (by kernel_rfl) (by decide) fG fun w0 S x Θ hw h hF => ?_
 obtain ⟨(s_0 : (List qI0)), (f_1 : Unit), u⟩ := x
 simp only [cC, go_sem]
 replace h : sat (bO s_0 f_1) _ := h
 unfold bO at h
 refine dP hF (D := Int) [0, 1, 7] (fun d => [(8, .val (.i .i64) d)]) (fun d => []) h rfl (by simp only [go_sem]) ?_
 rintro x8_14 A2 T2 hA2 hE2 h
 simp only [go_sem]
 replace h : sat (cI s_0 x8_14) _ := h
 unfold cI at h
 refine jZ h (fun hc h => ?_) fun hc h => ?_
 ·refine aN h fun g0 h => ?_
  obtain ⟨v_27, hv, h⟩ := cY h
  try simp only [hv, go_sem]
  refine aJH h (fun hc h => ?_) fun hc h => ?_
  ·replace h := hE2 _ (aF h)
   try dsimp only at h
   exact aK hF [.tmp 4] rfl rfl rfl (aF h) (by simp only [bA, go_sem])
  ·refine aN h fun g0 h => ?_
   replace h := hA2 _ (aF h)
   exact aX _ h rfl (by simp only [go_sem])
 ·replace h := hE2 _ (aF h)
  try dsimp only at h
  exact aK hF [.tmp 4] rfl rfl rfl (aF h) (by simp only [bA, go_sem])
attribute [go_sem] cP
noncomputable def aY (s_0 : (List qI0)) (f_1 : Unit) : Option Bool :=
 (bO s_0 f_1).bind (fun v_6 => some (decide ((0 : Int) ≤ v_6)))
def eK : PlR := ⟨[(0, .A [0, 1]), (1, .A [4])], []⟩
def eR : Ty := .pair (.sl (.pair (.pair .bool (.pair (.sl (.u .u64)) (.pair (.i .i64) .unit))) (.pair (.pair .bool (.pair (.sl (.u .u64)) (.pair (.i .i64) .unit))) .unit))) (.pair (.clo 87 .unit) .unit)
noncomputable def cE : aJ := mSpec eR (.one .bool) (fun x => aY x.1 x.2.1)
noncomputable def eS : List (FuncId × aJ) := [(156, cP)]
theorem lB : bL Tryz.prog GL eS := .cons mI (by kernel_rfl) (.nil)
theorem jL : gam eS 156 = some cP := rfl
attribute [go_sem] eR eK jL
set_option maxHeartbeats 4000000 in
theorem kT : FOK Tryz.prog GL 86 cE := by
 refine bZ (bF lB) mix Tryz.func86 rfl (by kernel_rfl) (by decide) eK fun w0 S x Θ hw h hF => ?_
 obtain ⟨(s_0 : (List qI0)), (f_1 : Unit), u⟩ := x
 simp only [cC, go_sem]
 replace h : sat (aY s_0 f_1) _ := h
 unfold aY at h
 obtain ⟨v_6, hv, h⟩ := cY h
 try simp only [hv, go_sem]
 exact aK hF [.tmp 4] rfl rfl rfl (aF h) (by simp only [bA, go_sem])
attribute [go_sem] cE
noncomputable def pK (a_0 : qI0) : Option Bool :=
 (qW a_0).bind (fun v_5 => some (!v_5))
def aEf : PlR := ⟨[(0, .B [1]), (1, .A [2])], []⟩
def aFR : Ty := .pair (.pair (.pair .bool (.pair (.sl (.u .u64)) (.pair (.i .i64) .unit))) (.pair (.pair .bool (.pair (.sl (.u .u64)) (.pair (.i .i64) .unit))) .unit)) .unit
noncomputable def wE : aJ := mSpec aFR (.one .bool) (fun x => pK x.1)
noncomputable def aFS : List (FuncId × aJ) := [(52, pC)]
theorem aN0 : bL Tryz.prog GL aFS := .cons aDj (by kernel_rfl) (.nil)
theorem aIk : gam aFS 52 = some pC := rfl
attribute [go_sem] aFR aEf aIk
set_option maxHeartbeats 4000000 in
theorem aLW : FOK Tryz.prog GL 159 wE := by
 refine bZ (bF aN0) mix Tryz.func159 rfl (by kernel_rfl) (by decide) aEf fun w0 S x Θ hw h hF => ?_
 obtain ⟨(a_0 : qI0), u⟩ := x
 simp only [cC, go_sem]
 replace h : sat (pK a_0) _ := h
 unfold pK at h
 obtain ⟨v_5, hv, h⟩ := cY h
 try simp only [hv, go_sem]
 exact aK hF [.tmp 2] rfl rfl rfl (aF h) (by simp only [bA, go_sem])
attribute [go_sem] wE
noncomputable def cQ (s_0 : (List qI0)) (x8_14 : Int) : Option ((Int) ⊕ ((Unit) ⊕ Int)) :=
 if x8_14 < (s_0.length : Int) then ck (0 ≤ x8_14 ∧ x8_14 < (s_0.length : Int)) ((pK (s_0.getD (x8_14.toNat) ((false, ([] : List Nat), (0 : Int), ()), (false, ([] : List Nat), (0 : Int), ()), ()))).bind (fun v_27 => if v_27 = true then some (.inr (.inr x8_14)) else ck (I64 (x8_14 + (1 : Int))) (some (.inl (x8_14 + (1 : Int)))))) else some (.inr (.inl ()))
noncomputable def bT (s_0 : (List qI0)) (f_1 : Unit) : Option Int :=
 (eQ (fun d : Int => cQ s_0 d) (0 : Int)).bind (fun e => match e with | (.inl e) => some (-1 : Int) | (.inr e) => some e)
def fY : PlR := ⟨[(0, .A [0, 1]), (1, .A [0, 1, 7, 8]), (2, .A [0, 1, 7, 8, 9]), (3, .A [0, 1, 5, 7, 8]), (4, .A [0, 1, 5, 7, 8, 16]), (5, .A [4]), (6, .A [0, 1, 7, 8]), (7, .A [4])], []⟩
def gC : Ty := .pair (.sl (.pair (.pair .bool (.pair (.sl (.u .u64)) (.pair (.i .i64) .unit))) (.pair (.pair .bool (.pair (.sl (.u .u64)) (.pair (.i .i64) .unit))) .unit))) (.pair (.clo 159 .unit) .unit)
noncomputable def cT : aJ := mSpec gC (.one (.i .i64)) (fun x => bT x.1 x.2.1)
noncomputable def gD : List (FuncId × aJ) := [(159, wE)]
theorem nL : bL Tryz.prog GL gD := .cons aLW (by kernel_rfl) (.nil)
theorem lM : gam gD 159 = some wE := rfl
attribute [go_sem] gC fY lM
set_option maxHeartbeats 4000000 in
theorem nA : FOK Tryz.prog GL 156 cT := by
 refine bZ (bF nL) mix Tryz.func156 rfl (by kernel_rfl) (by decide) fY fun w0 S x Θ hw h hF => ?_
 obtain ⟨(s_0 : (List qI0)), (f_1 : Unit), u⟩ := x
 simp only [cC, go_sem]
 replace h : sat (bT s_0 f_1) _ := h
 unfold bT at h
 refine dP hF (D := Int) [0, 1, 7] (fun d => [(8, .val (.i .i64) d)]) (fun d => []) h rfl (by simp only [go_sem]) ?_
 rintro x8_14 A2 T2 hA2 hE2 h
 simp only [go_sem]
 replace h : sat (cQ s_0 x8_14) _ := h
 unfold cQ at h
 refine jZ h (fun hc h => ?_) fun hc h => ?_
 ·refine aN h fun g0 h => ?_
  obtain ⟨v_27, hv, h⟩ := cY h
  try simp only [hv, go_sem]
  refine aJH h (fun hc h => ?_) fun hc h => ?_
  ·replace h := hE2 _ (aF h)
   try dsimp only at h
   exact aK hF [.tmp 4] rfl rfl rfl (aF h) (by simp only [bA, go_sem])
  ·refine aN h fun g0 h => ?_
   replace h := hA2 _ (aF h)
   exact aX _ h rfl (by simp only [go_sem])
 ·replace h := hE2 _ (aF h)
  try dsimp only at h
  exact aK hF [.tmp 4] rfl rfl rfl (aF h) (by simp only [bA, go_sem])
attribute [go_sem] cT
noncomputable def bD (s_0 : (List qI0)) (f_1 : Unit) : Option Bool :=
 (bT s_0 f_1).bind (fun v_6 => some (decide ((0 : Int) ≤ v_6)))
def eZ : PlR := ⟨[(0, .A [0, 1]), (1, .A [4])], []⟩
def fH : Ty := .pair (.sl (.pair (.pair .bool (.pair (.sl (.u .u64)) (.pair (.i .i64) .unit))) (.pair (.pair .bool (.pair (.sl (.u .u64)) (.pair (.i .i64) .unit))) .unit))) (.pair (.clo 159 .unit) .unit)
noncomputable def cM : aJ := mSpec fH (.one .bool) (fun x => bD x.1 x.2.1)
noncomputable def fI : List (FuncId × aJ) := [(156, cT)]
theorem mJ : bL Tryz.prog GL fI := .cons nA (by kernel_rfl) (.nil)
theorem kJ : gam fI 156 = some cT := rfl
attribute [go_sem] fH eZ kJ
set_option maxHeartbeats 4000000 in
theorem lN : FOK Tryz.prog GL 86 cM := by
 refine bZ (bF mJ) mix Tryz.func86 rfl (by kernel_rfl) (by decide) eZ fun w0 S x Θ hw h hF => ?_
 obtain ⟨(s_0 : (List qI0)), (f_1 : Unit), u⟩ := x
 simp only [cC, go_sem]
 replace h : sat (bD s_0 f_1) _ := h
 unfold bD at h
 obtain ⟨v_6, hv, h⟩ := cY h
 try simp only [hv, go_sem]
 exact aK hF [.tmp 4] rfl rfl rfl (aF h) (by simp only [bA, go_sem])
attribute [go_sem] cM
noncomputable def pX (t_0 : qT0) (x26_13 : Int) : Option ((Int) ⊕ ((Unit) ⊕ Bool)) :=
 if x26_13 < ((t_0.1).length : Int) then ck (0 ≤ x26_13 ∧ x26_13 < ((t_0.1).length : Int)) ((cL ((t_0.1).getD (x26_13.toNat) (false, ([] : List Nat), (0 : Int), ()))).bind (fun v_26 => ck ((¬ (¬ (v_26 = true)) → ((0 : Int) < x26_13) → (I64 (x26_13 - (1 : Int))))) (ck ((¬ (¬ (v_26 = true)) → ((0 : Int) < x26_13) → (0 ≤ (x26_13 - (1 : Int)) ∧ (x26_13 - (1 : Int)) < ((t_0.1).length : Int)))) (ck ((¬ (¬ (v_26 = true)) → ((0 : Int) < x26_13) → (((iF ((t_0.1).getD ((x26_13 - (1 : Int)).toNat) (false, ([] : List Nat), (0 : Int), ())) ((t_0.1).getD (x26_13.toNat) (false, ([] : List Nat), (0 : Int), ()))).isSome = true)))) (if (¬ (v_26 = true)) ∨ (((0 : Int) < x26_13) ∧ ((0 : Int) ≤ ((iF ((t_0.1).getD ((x26_13 - (1 : Int)).toNat) (false, ([] : List Nat), (0 : Int), ())) ((t_0.1).getD (x26_13.toNat) (false, ([] : List Nat), (0 : Int), ()))).getD (0 : Int)))) then some (.inr (.inr false)) else ck (I64 (x26_13 + (1 : Int))) (some (.inl (x26_13 + (1 : Int))))))))) else some (.inr (.inl ()))
noncomputable def vS (t_0 : qT0) : Option Bool :=
 ck ((¬ (((((((t_0.2).1).length) : Nat) : Int) < (1 : Int)) ∨ ((256 : Int) < (((t_0.2).1).length : Int))) → (I64 ((((((t_0.2).1).length) : Nat) : Int) + (1 : Int))))) (if (((((((t_0.2).1).length) : Nat) : Int) < (1 : Int)) ∨ ((256 : Int) < (((t_0.2).1).length : Int))) ∨ (¬ (((((t_0.1).length) : Nat) : Int) = ((((((t_0.2).1).length) : Nat) : Int) + (1 : Int)))) then some false else (eQ (fun d : Int => pX t_0 d) (0 : Int)).bind (fun e => match e with | (.inl e) => (bD ((t_0.2).1) ()).bind (fun v_34 => some (!v_34)) | (.inr e) => some e))
def aHJ : PlR := ⟨[(0, .B [1]), (1, .A [1, 3]), (2, .A [1, 22]), (3, .A [2]), (4, .A [1, 24, 25, 26]), (5, .A [1, 24, 25, 26, 27]), (6, .B [1, 4, 5, 24, 25, 26]), (7, .A [1, 24, 25, 26, 48]), (8, .A [2]), (9, .A [1, 24, 25, 26]), (10, .A [2])], []⟩
def aKP : Ty := .pair (.pair (.sl (.pair .bool (.pair (.sl (.u .u64)) (.pair (.i .i64) .unit)))) (.pair (.sl (.pair (.pair .bool (.pair (.sl (.u .u64)) (.pair (.i .i64) .unit))) (.pair (.pair .bool (.pair (.sl (.u .u64)) (.pair (.i .i64) .unit))) .unit))) .unit)) .unit
noncomputable def aAz : aJ := mSpec aKP (.one .bool) (fun x => vS x.1)
noncomputable def aBY : List (FuncId × aJ) := [(86, cM), (22, pB), (58, dR)]
theorem aQO : bL Tryz.prog GL aBY := .cons lN (by kernel_rfl) (.cons aC2 (by kernel_rfl) (.cons oZ (by kernel_rfl) (.nil)))
theorem aLX : gam aBY 86 = some cM := rfl
theorem aLY : gam aBY 22 = some pB := rfl
theorem aLZ : gam aBY 58 = some dR := rfl
attribute [go_sem] aKP aHJ aLX aLY aLZ
set_option maxHeartbeats 4000000 in
theorem aPz : FOK Tryz.prog GL 92 aAz := by
 refine bZ (bF aQO) mix Tryz.func92 rfl (by kernel_rfl) (by decide) aHJ fun w0 S x Θ hw h hF => ?_
 obtain ⟨(t_0 : qT0), u⟩ := x
 simp only [cC, go_sem]
 replace h : sat (vS t_0) _ := h
 unfold vS at h
 obtain ⟨g0, h⟩ := aM h
 try simp only [I64, I32] at g0
 repeat (refine ⟨by first | with_reducible assumption | omega | (intros; first | assumption | omega) | (simp only [go_sem] at *; first | assumption | omega) | (intro q0; (try have e0 := g0 (by first | exact q0 | omega | (simpa using q0))); first | assumption | omega) | decide, ?_⟩)
 refine ⟨fun hc => ?_, fun hc => ?_⟩
 ·replace h := hZ hc h
  exact aK hF [.tmp 2] rfl rfl rfl (aF h) (by simp only [bA, go_sem])
 ·replace h := iA hc h
  refine dP hF (D := Int) [24, 25] (fun d => [(1, .ptr 0 []), (26, .val (.i .i64) d)]) (fun d => [.inr (.box 2 (.val (.pair (.sl (.pair .bool (.pair (.sl (.u .u64)) (.pair (.i .i64) .unit)))) (.pair (.sl (.pair (.pair .bool (.pair (.sl (.u .u64)) (.pair (.i .i64) .unit))) (.pair (.pair .bool (.pair (.sl (.u .u64)) (.pair (.i .i64) .unit))) .unit))) .unit)) t_0))]) h rfl (by simp only [go_sem]) ?_
  rintro x26_13 A5 T5 hA5 hE5 h
  simp only [go_sem]
  replace h : sat (pX t_0 x26_13) _ := h
  unfold pX at h
  refine jZ h (fun hc h => ?_) fun hc h => ?_
  ·obtain ⟨g0, h⟩ := aM h
   repeat (refine ⟨by first | with_reducible assumption | omega | (intros; first | assumption | omega) | (simp only [go_sem] at *; first | assumption | omega) | decide, ?_⟩)
   obtain ⟨v_26, hv, h⟩ := cY h
   try simp only [hv, go_sem]
   obtain ⟨g0, h⟩ := aM h
   obtain ⟨g1, h⟩ := aM h
   obtain ⟨g2, h⟩ := aM h
   try simp only [I64, I32] at g0
   repeat (refine ⟨by first | with_reducible assumption | omega | (intros; first | assumption | omega) | (simp only [go_sem] at *; first | assumption | omega) | (intro q0 q1; (try have e0 := g0 (by first | exact q0 | omega | (simpa using q0)) (by first | exact q1 | omega | (simpa using q1))); (try have e1 := g1 (by first | exact q0 | omega | (simpa using q0)) (by first | exact q1 | omega | (simpa using q1))); (try have e2 := g2 (by first | exact q0 | omega | (simpa using q0)) (by first | exact q1 | omega | (simpa using q1))); first | assumption | omega) | (rintro ⟨q0, q1⟩; (try have e0 := g0 (by first | exact q0 | omega | (simpa using q0)) (by first | exact q1 | omega | (simpa using q1))); (try have e1 := g1 (by first | exact q0 | omega | (simpa using q0)) (by first | exact q1 | omega | (simpa using q1))); (try have e2 := g2 (by first | exact q0 | omega | (simpa using q0)) (by first | exact q1 | omega | (simpa using q1))); first | assumption | omega) | decide, ?_⟩)
   refine ⟨fun hc => ?_, fun hc => ?_⟩
   ·replace h := hZ (by first | exact hc | omega | (simpa using hc) | (simp at hc ⊢; omega)) h
    replace h := hE5 _ (aF h)
    try dsimp only at h
    exact aK hF [.tmp 2] rfl rfl rfl (aF h) (by simp only [bA, go_sem])
   ·replace h := iA (by first | exact hc | omega | (simpa using hc) | (simp at hc ⊢; omega)) h
    obtain ⟨g0, h⟩ := aM h
    try simp only [I64, I32] at g0
    repeat (refine ⟨by first | with_reducible assumption | omega | (intros; first | assumption | omega) | (simp only [go_sem] at *; first | assumption | omega) | decide, ?_⟩)
    replace h := hA5 _ (aF h)
    refine oN [0] rfl rfl ?_
    simp only [go_sem]
    exact aX _ h rfl (by simp only [go_sem])
  ·replace h := hE5 _ (aF h)
   try dsimp only at h
   obtain ⟨v_30, hv, h⟩ := cY h
   try simp only [hv, go_sem]
   exact aK hF [.tmp 2] rfl rfl rfl (aF h) (by simp only [bA, go_sem])
attribute [go_sem] aAz
noncomputable def iU (t_0 : qT0) : Option Bool :=
 (vS t_0).bind (fun v_5 => some (!v_5))
def aAA : PlR := ⟨[(0, .B [1]), (1, .A [2])], []⟩
def aBi : Ty := .pair (.pair (.sl (.pair .bool (.pair (.sl (.u .u64)) (.pair (.i .i64) .unit)))) (.pair (.sl (.pair (.pair .bool (.pair (.sl (.u .u64)) (.pair (.i .i64) .unit))) (.pair (.pair .bool (.pair (.sl (.u .u64)) (.pair (.i .i64) .unit))) .unit))) .unit)) .unit
noncomputable def qF : aJ := mSpec aBi (.one .bool) (fun x => iU x.1)
noncomputable def aBj : List (FuncId × aJ) := [(92, aAz)]
theorem aGK : bL Tryz.prog GL aBj := .cons aPz (by kernel_rfl) (.nil)
theorem aDN : gam aBj 92 = some aAz := rfl
attribute [go_sem] aBi aAA aDN
set_option maxHeartbeats 4000000 in
theorem aFT : FOK Tryz.prog GL 91 qF := by
 refine bZ (bF aGK) mix Tryz.func91 rfl (by kernel_rfl) (by decide) aAA fun w0 S x Θ hw h hF => ?_
 obtain ⟨(t_0 : qT0), u⟩ := x
 simp only [cC, go_sem]
 replace h : sat (iU t_0) _ := h
 unfold iU at h
 obtain ⟨v_5, hv, h⟩ := cY h
 try simp only [hv, go_sem]
 exact aK hF [.tmp 2] rfl rfl rfl (aF h) (by simp only [bA, go_sem])
attribute [go_sem] qF
noncomputable def cB (s_0 : (List qT0)) (x8_14 : Int) : Option ((Int) ⊕ ((Unit) ⊕ Int)) :=
 if x8_14 < (s_0.length : Int) then ck (0 ≤ x8_14 ∧ x8_14 < (s_0.length : Int)) ((iU (s_0.getD (x8_14.toNat) (([] : List qD0), ([] : List qI0), ()))).bind (fun v_27 => if v_27 = true then some (.inr (.inr x8_14)) else ck (I64 (x8_14 + (1 : Int))) (some (.inl (x8_14 + (1 : Int)))))) else some (.inr (.inl ()))
noncomputable def bM (s_0 : (List qT0)) (f_1 : Unit) : Option Int :=
 (eQ (fun d : Int => cB s_0 d) (0 : Int)).bind (fun e => match e with | (.inl e) => some (-1 : Int) | (.inr e) => some e)
def eT : PlR := ⟨[(0, .A [0, 1]), (1, .A [0, 1, 7, 8]), (2, .A [0, 1, 7, 8, 9]), (3, .A [0, 1, 5, 7, 8]), (4, .A [0, 1, 5, 7, 8, 16]), (5, .A [4]), (6, .A [0, 1, 7, 8]), (7, .A [4])], []⟩
def fA : Ty := .pair (.sl (.pair (.sl (.pair .bool (.pair (.sl (.u .u64)) (.pair (.i .i64) .unit)))) (.pair (.sl (.pair (.pair .bool (.pair (.sl (.u .u64)) (.pair (.i .i64) .unit))) (.pair (.pair .bool (.pair (.sl (.u .u64)) (.pair (.i .i64) .unit))) .unit))) .unit))) (.pair (.clo 91 .unit) .unit)
noncomputable def cJ : aJ := mSpec fA (.one (.i .i64)) (fun x => bM x.1 x.2.1)
noncomputable def fB : List (FuncId × aJ) := [(91, qF)]
theorem lO : bL Tryz.prog GL fB := .cons aFT (by kernel_rfl) (.nil)
theorem kK : gam fB 91 = some qF := rfl
attribute [go_sem] fA eT kK
set_option maxHeartbeats 4000000 in
theorem lC : FOK Tryz.prog GL 158 cJ := by
 refine bZ (bF lO) mix Tryz.func158 rfl (by kernel_rfl) (by decide) eT fun w0 S x Θ hw h hF => ?_
 obtain ⟨(s_0 : (List qT0)), (f_1 : Unit), u⟩ := x
 simp only [cC, go_sem]
 replace h : sat (bM s_0 f_1) _ := h
 unfold bM at h
 refine dP hF (D := Int) [0, 1, 7] (fun d => [(8, .val (.i .i64) d)]) (fun d => []) h rfl (by simp only [go_sem]) ?_
 rintro x8_14 A2 T2 hA2 hE2 h
 simp only [go_sem]
 replace h : sat (cB s_0 x8_14) _ := h
 unfold cB at h
 refine jZ h (fun hc h => ?_) fun hc h => ?_
 ·refine aN h fun g0 h => ?_
  obtain ⟨v_27, hv, h⟩ := cY h
  try simp only [hv, go_sem]
  refine aJH h (fun hc h => ?_) fun hc h => ?_
  ·replace h := hE2 _ (aF h)
   try dsimp only at h
   exact aK hF [.tmp 4] rfl rfl rfl (aF h) (by simp only [bA, go_sem])
  ·refine aN h fun g0 h => ?_
   replace h := hA2 _ (aF h)
   exact aX _ h rfl (by simp only [go_sem])
 ·replace h := hE2 _ (aF h)
  try dsimp only at h
  exact aK hF [.tmp 4] rfl rfl rfl (aF h) (by simp only [bA, go_sem])
attribute [go_sem] cJ
noncomputable def aW (s_0 : (List qT0)) (f_1 : Unit) : Option Bool :=
 (bM s_0 f_1).bind (fun v_6 => some (decide ((0 : Int) ≤ v_6)))
def dU : PlR := ⟨[(0, .A [0, 1]), (1, .A [4])], []⟩
def dX : Ty := .pair (.sl (.pair (.sl (.pair .bool (.pair (.sl (.u .u64)) (.pair (.i .i64) .unit)))) (.pair (.sl (.pair (.pair .bool (.pair (.sl (.u .u64)) (.pair (.i .i64) .unit))) (.pair (.pair .bool (.pair (.sl (.u .u64)) (.pair (.i .i64) .unit))) .unit))) .unit))) (.pair (.clo 91 .unit) .unit)
noncomputable def bU : aJ := mSpec dX (.one .bool) (fun x => aW x.1 x.2.1)
noncomputable def dY : List (FuncId × aJ) := [(158, cJ)]
theorem kL : bL Tryz.prog GL dY := .cons lC (by kernel_rfl) (.nil)
theorem iV : gam dY 158 = some cJ := rfl
attribute [go_sem] dX dU iV
set_option maxHeartbeats 4000000 in
theorem jP : FOK Tryz.prog GL 90 bU := by
 refine bZ (bF kL) mix Tryz.func90 rfl (by kernel_rfl) (by decide) dU fun w0 S x Θ hw h hF => ?_
 obtain ⟨(s_0 : (List qT0)), (f_1 : Unit), u⟩ := x
 simp only [cC, go_sem]
 replace h : sat (aW s_0 f_1) _ := h
 unfold aW at h
 obtain ⟨v_6, hv, h⟩ := cY h
 try simp only [hv, go_sem]
 exact aK hF [.tmp 4] rfl rfl rfl (aF h) (by simp only [bA, go_sem])
attribute [go_sem] bU
noncomputable def mK (l_0 : (List qT0)) : Option Bool :=
 ck ((¬ ((64 : Int) < (l_0.length : Int)) → (((aW l_0 ()).isSome = true)))) (some ((decide ((64 : Int) < (l_0.length : Int))) || ((aW l_0 ()).getD false)))
def aCd : PlR := ⟨[(0, .A [0]), (1, .A [2])], []⟩
def aDn : Ty := .pair (.sl (.pair (.sl (.pair .bool (.pair (.sl (.u .u64)) (.pair (.i .i64) .unit)))) (.pair (.sl (.pair (.pair .bool (.pair (.sl (.u .u64)) (.pair (.i .i64) .unit))) (.pair (.pair .bool (.pair (.sl (.u .u64)) (.pair (.i .i64) .unit))) .unit))) .unit))) .unit
noncomputable def sF : aJ := mSpec aDn (.one .bool) (fun x => mK x.1)
noncomputable def aDo : List (FuncId × aJ) := [(90, bU)]
theorem aKQ : bL Tryz.prog GL aDo := .cons jP (by kernel_rfl) (.nil)
theorem aFU : gam aDo 90 = some bU := rfl
attribute [go_sem] aDn aCd aFU
set_option maxHeartbeats 4000000 in
theorem aIl : FOK Tryz.prog GL 89 sF := by
 refine bZ (bF aKQ) mix Tryz.func89 rfl (by kernel_rfl) (by decide) aCd fun w0 S x Θ hw h hF => ?_
 obtain ⟨(l_0 : (List qT0)), u⟩ := x
 simp only [cC, go_sem]
 replace h : sat (mK l_0) _ := h
 unfold mK at h
 obtain ⟨g0, h⟩ := aM h
 repeat (refine ⟨by first | with_reducible assumption | omega | (intros; first | assumption | omega) | (simp only [go_sem] at *; first | assumption | omega) | (intro q0; (try have e0 := g0 (by first | exact q0 | omega | (simpa using q0))); first | assumption | omega) | decide, ?_⟩)
 exact aK hF [.tmp 2] rfl rfl rfl (aF h) (by simp only [bA, go_sem])
attribute [go_sem] sF
noncomputable def cK (s_0 : (List (List qT0))) (x8_14 : Int) : Option ((Int) ⊕ ((Unit) ⊕ Int)) :=
 if x8_14 < (s_0.length : Int) then ck (0 ≤ x8_14 ∧ x8_14 < (s_0.length : Int)) ((mK (s_0.getD (x8_14.toNat) ([] : List qT0))).bind (fun v_27 => if v_27 = true then some (.inr (.inr x8_14)) else ck (I64 (x8_14 + (1 : Int))) (some (.inl (x8_14 + (1 : Int)))))) else some (.inr (.inl ()))
noncomputable def bP (s_0 : (List (List qT0))) (f_1 : Unit) : Option Int :=
 (eQ (fun d : Int => cK s_0 d) (0 : Int)).bind (fun e => match e with | (.inl e) => some (-1 : Int) | (.inr e) => some e)
def fJ : PlR := ⟨[(0, .A [0, 1]), (1, .A [0, 1, 7, 8]), (2, .A [0, 1, 7, 8, 9]), (3, .A [0, 1, 5, 7, 8]), (4, .A [0, 1, 5, 7, 8, 16]), (5, .A [4]), (6, .A [0, 1, 7, 8]), (7, .A [4])], []⟩
def fQ : Ty := .pair (.sl (.sl (.pair (.sl (.pair .bool (.pair (.sl (.u .u64)) (.pair (.i .i64) .unit)))) (.pair (.sl (.pair (.pair .bool (.pair (.sl (.u .u64)) (.pair (.i .i64) .unit))) (.pair (.pair .bool (.pair (.sl (.u .u64)) (.pair (.i .i64) .unit))) .unit))) .unit)))) (.pair (.clo 89 .unit) .unit)
noncomputable def cR : aJ := mSpec fQ (.one (.i .i64)) (fun x => bP x.1 x.2.1)
noncomputable def fR : List (FuncId × aJ) := [(89, sF)]
theorem mW : bL Tryz.prog GL fR := .cons aIl (by kernel_rfl) (.nil)
theorem lD : gam fR 89 = some sF := rfl
attribute [go_sem] fQ fJ lD
set_option maxHeartbeats 4000000 in
theorem mL : FOK Tryz.prog GL 157 cR := by
 refine bZ (bF mW) mix Tryz.func157 rfl (by kernel_rfl) (by decide) fJ fun w0 S x Θ hw h hF => ?_
 obtain ⟨(s_0 : (List (List qT0))), (f_1 : Unit), u⟩ := x
 simp only [cC, go_sem]
 replace h : sat (bP s_0 f_1) _ := h
 unfold bP at h
 refine dP hF (D := Int) [0, 1, 7] (fun d => [(8, .val (.i .i64) d)]) (fun d => []) h rfl (by simp only [go_sem]) ?_
 rintro x8_14 A2 T2 hA2 hE2 h
 simp only [go_sem]
 replace h : sat (cK s_0 x8_14) _ := h
 unfold cK at h
 refine jZ h (fun hc h => ?_) fun hc h => ?_
 ·refine aN h fun g0 h => ?_
  obtain ⟨v_27, hv, h⟩ := cY h
  try simp only [hv, go_sem]
  refine aJH h (fun hc h => ?_) fun hc h => ?_
  ·replace h := hE2 _ (aF h)
   try dsimp only at h
   exact aK hF [.tmp 4] rfl rfl rfl (aF h) (by simp only [bA, go_sem])
  ·refine aN h fun g0 h => ?_
   replace h := hA2 _ (aF h)
   exact aX _ h rfl (by simp only [go_sem])
 ·replace h := hE2 _ (aF h)
  try dsimp only at h
  exact aK hF [.tmp 4] rfl rfl rfl (aF h) (by simp only [bA, go_sem])
attribute [go_sem] cR
noncomputable def aZ (s_0 : (List (List qT0))) (f_1 : Unit) : Option Bool :=
 (bP s_0 f_1).bind (fun v_6 => some (decide ((0 : Int) ≤ v_6)))
def eL : PlR := ⟨[(0, .A [0, 1]), (1, .A [4])], []⟩
def eU : Ty := .pair (.sl (.sl (.pair (.sl (.pair .bool (.pair (.sl (.u .u64)) (.pair (.i .i64) .unit)))) (.pair (.sl (.pair (.pair .bool (.pair (.sl (.u .u64)) (.pair (.i .i64) .unit))) (.pair (.pair .bool (.pair (.sl (.u .u64)) (.pair (.i .i64) .unit))) .unit))) .unit)))) (.pair (.clo 89 .unit) .unit)
noncomputable def cF : aJ := mSpec eU (.one .bool) (fun x => aZ x.1 x.2.1)
noncomputable def eV : List (FuncId × aJ) := [(157, cR)]
theorem lE : bL Tryz.prog GL eV := .cons mL (by kernel_rfl) (.nil)
theorem jM : gam eV 157 = some cR := rfl
attribute [go_sem] eU eL jM
set_option maxHeartbeats 4000000 in
theorem kU : FOK Tryz.prog GL 88 cF := by
 refine bZ (bF lE) mix Tryz.func88 rfl (by kernel_rfl) (by decide) eL fun w0 S x Θ hw h hF => ?_
 obtain ⟨(s_0 : (List (List qT0))), (f_1 : Unit), u⟩ := x
 simp only [cC, go_sem]
 replace h : sat (aZ s_0 f_1) _ := h
 unfold aZ at h
 obtain ⟨v_6, hv, h⟩ := cY h
 try simp only [hv, go_sem]
 exact aK hF [.tmp 4] rfl rfl rfl (aF h) (by simp only [bA, go_sem])
attribute [go_sem] cF
noncomputable def nC (r_0 : qR0) (x60_4 : Int) : Option ((Int) ⊕ ((Unit) ⊕ Bool)) :=
 if x60_4 < (((((((r_0.2).2).2).2).2).1).length : Int) then ck (0 ≤ x60_4 ∧ x60_4 < (((((((r_0.2).2).2).2).2).1).length : Int)) (ck ((¬ ((64 : Int) < ((((((((((r_0.2).2).2).2).2).1).getD (x60_4.toNat) ([] : List qI0)).length) : Nat) : Int)) → (((aY (((((((r_0.2).2).2).2).2).1).getD (x60_4.toNat) ([] : List qI0)) ()).isSome = true)))) (if ((64 : Int) < ((((((((((r_0.2).2).2).2).2).1).getD (x60_4.toNat) ([] : List qI0)).length) : Nat) : Int)) ∨ (((aY (((((((r_0.2).2).2).2).2).1).getD (x60_4.toNat) ([] : List qI0)) ()).getD false) = true) then some (.inr (.inr false)) else ck (I64 (x60_4 + (1 : Int))) (some (.inl (x60_4 + (1 : Int)))))) else some (.inr (.inl ()))
noncomputable def pL (r_0 : qR0) : Option Bool :=
 ck ((¬ (((((((r_0.1) < (1 : Int)) ∨ ((3 : Int) < (r_0.1))) ∨ (((r_0.2).1) < (0 : Int))) ∨ ((1073741824 : Int) < ((r_0.2).1))) ∨ ((((r_0.2).2).1) < (0 : Int))) ∨ ((200 : Int) < (((r_0.2).2).1))) → (((cL ((((r_0.2).2).2).1)).isSome = true)))) (ck ((¬ ((((((((r_0.1) < (1 : Int)) ∨ ((3 : Int) < (r_0.1))) ∨ (((r_0.2).1) < (0 : Int))) ∨ ((1073741824 : Int) < ((r_0.2).1))) ∨ ((((r_0.2).2).1) < (0 : Int))) ∨ ((200 : Int) < (((r_0.2).2).1))) ∨ (¬ (((cL ((((r_0.2).2).2).1)).getD false) = true))) → (((cL (((((r_0.2).2).2).2).1)).isSome = true)))) (if ((((((((((r_0.1) < (1 : Int)) ∨ ((3 : Int) < (r_0.1))) ∨ (((r_0.2).1) < (0 : Int))) ∨ ((1073741824 : Int) < ((r_0.2).1))) ∨ ((((r_0.2).2).1) < (0 : Int))) ∨ ((200 : Int) < (((r_0.2).2).1))) ∨ (¬ (((cL ((((r_0.2).2).2).1)).getD false) = true))) ∨ (¬ (((cL (((((r_0.2).2).2).2).1)).getD false) = true))) ∨ ((16 : Int) < (((((((r_0.2).2).2).2).2).1).length : Int))) ∨ ((16 : Int) < ((((((((r_0.2).2).2).2).2).2).1).length : Int)) then some false else (eQ (fun d : Int => nC r_0 d) (0 : Int)).bind (fun e => match e with | (.inl e) => (aZ (((((((r_0.2).2).2).2).2).2).1) ()).bind (fun v_13 => some (!v_13)) | (.inr e) => some e)))
def aEg : PlR := ⟨[(0, .B [1]), (1, .A [1, 56]), (2, .A [2]), (3, .A [1, 58, 59, 60]), (4, .A [1, 58, 59, 60, 61]), (5, .A [1, 4, 58, 59, 60]), (6, .A [1, 58, 59, 60, 70]), (7, .A [2]), (8, .A [1, 58, 59, 60]), (9, .A [2])], []⟩
def aFV : Ty := .pair (.pair (.i .i64) (.pair (.i .i64) (.pair (.i .i64) (.pair (.pair .bool (.pair (.sl (.u .u64)) (.pair (.i .i64) .unit))) (.pair (.pair .bool (.pair (.sl (.u .u64)) (.pair (.i .i64) .unit))) (.pair (.sl (.sl (.pair (.pair .bool (.pair (.sl (.u .u64)) (.pair (.i .i64) .unit))) (.pair (.pair .bool (.pair (.sl (.u .u64)) (.pair (.i .i64) .unit))) .unit)))) (.pair (.sl (.sl (.pair (.sl (.pair .bool (.pair (.sl (.u .u64)) (.pair (.i .i64) .unit)))) (.pair (.sl (.pair (.pair .bool (.pair (.sl (.u .u64)) (.pair (.i .i64) .unit))) (.pair (.pair .bool (.pair (.sl (.u .u64)) (.pair (.i .i64) .unit))) .unit))) .unit)))) .unit))))))) .unit
noncomputable def wF : aJ := mSpec aFV (.one .bool) (fun x => pL x.1)
noncomputable def yI : List (FuncId × aJ) := [(86, cE), (88, cF), (58, dR)]
theorem aN1 : bL Tryz.prog GL yI := .cons kT (by kernel_rfl) (.cons kU (by kernel_rfl) (.cons oZ (by kernel_rfl) (.nil)))
theorem aIm : gam yI 86 = some cE := rfl
theorem aIn : gam yI 88 = some cF := rfl
theorem aIo : gam yI 58 = some dR := rfl
attribute [go_sem] aFV aEg aIm aIn aIo
set_option maxHeartbeats 4000000 in
theorem aL0 : FOK Tryz.prog GL 40 wF := by
 refine bZ (bF aN1) mix Tryz.func40 rfl (by kernel_rfl) (by decide) aEg fun w0 S x Θ hw h hF => ?_
 obtain ⟨(r_0 : qR0), u⟩ := x
 simp only [cC, go_sem]
 replace h : sat (pL r_0) _ := h
 unfold pL at h
 obtain ⟨g0, h⟩ := aM h
 obtain ⟨g1, h⟩ := aM h
 repeat (refine ⟨by first | with_reducible assumption | omega | (intros; first | assumption | omega) | (simp only [go_sem] at *; first | assumption | omega) | (intro q0; (try have e0 := g0 (by first | exact q0 | omega | (simpa using q0))); (try have e1 := g1 (by first | exact q0 | omega | (simpa using q0))); first | assumption | omega) | decide, ?_⟩)
 refine ⟨fun hc => ?_, fun hc => ?_⟩
 ·replace h := hZ (by first | exact hc | omega | (simpa using hc) | (simp at hc ⊢; omega)) h
  exact aK hF [.tmp 2] rfl rfl rfl (aF h) (by simp only [bA, go_sem])
 ·replace h := iA (by first | exact hc | omega | (simpa using hc) | (simp at hc ⊢; omega)) h
  refine dP hF (D := Int) [58, 59] (fun d => [(1, .ptr 0 []), (60, .val (.i .i64) d)]) (fun d => [.inr (.box 11 (.val (.pair (.i .i64) (.pair (.i .i64) (.pair (.i .i64) (.pair (.pair .bool (.pair (.sl (.u .u64)) (.pair (.i .i64) .unit))) (.pair (.pair .bool (.pair (.sl (.u .u64)) (.pair (.i .i64) .unit))) (.pair (.sl (.sl (.pair (.pair .bool (.pair (.sl (.u .u64)) (.pair (.i .i64) .unit))) (.pair (.pair .bool (.pair (.sl (.u .u64)) (.pair (.i .i64) .unit))) .unit)))) (.pair (.sl (.sl (.pair (.sl (.pair .bool (.pair (.sl (.u .u64)) (.pair (.i .i64) .unit)))) (.pair (.sl (.pair (.pair .bool (.pair (.sl (.u .u64)) (.pair (.i .i64) .unit))) (.pair (.pair .bool (.pair (.sl (.u .u64)) (.pair (.i .i64) .unit))) .unit))) .unit)))) .unit))))))) r_0))]) h rfl (by simp only [go_sem]) ?_
  rintro x60_4 A4 T4 hA4 hE4 h
  simp only [go_sem]
  replace h : sat (nC r_0 x60_4) _ := h
  unfold nC at h
  refine jZ h (fun hc h => ?_) fun hc h => ?_
  ·obtain ⟨g0, h⟩ := aM h
   repeat (refine ⟨by first | with_reducible assumption | omega | (intros; first | assumption | omega) | (simp only [go_sem] at *; first | assumption | omega) | decide, ?_⟩)
   obtain ⟨g0, h⟩ := aM h
   repeat (refine ⟨by first | with_reducible assumption | omega | (intros; first | assumption | omega) | (simp only [go_sem] at *; first | assumption | omega) | (intro q0; (try have e0 := g0 (by first | exact q0 | omega | (simpa using q0))); first | assumption | omega) | decide, ?_⟩)
   refine ⟨fun hc => ?_, fun hc => ?_⟩
   ·replace h := hZ hc h
    replace h := hE4 _ (aF h)
    try dsimp only at h
    exact aK hF [.tmp 2] rfl rfl rfl (aF h) (by simp only [bA, go_sem])
   ·replace h := iA hc h
    obtain ⟨g0, h⟩ := aM h
    try simp only [I64, I32] at g0
    repeat (refine ⟨by first | with_reducible assumption | omega | (intros; first | assumption | omega) | (simp only [go_sem] at *; first | assumption | omega) | decide, ?_⟩)
    replace h := hA4 _ (aF h)
    exact aX _ h rfl (by simp only [go_sem])
  ·replace h := hE4 _ (aF h)
   try dsimp only at h
   obtain ⟨v_9, hv, h⟩ := cY h
   try simp only [hv, go_sem]
   exact aK hF [.tmp 2] rfl rfl rfl (aF h) (by simp only [bA, go_sem])
attribute [go_sem] wF
end Nu
end Go.Proofs
namespace Go.Proofs
open Go.Vc
set_option maxRecDepth 20000
namespace Nu
abbrev Iv := Dy × Dy × Unit
abbrev Tb := List Dy × List Iv × Unit
abbrev Rec := Int × Int × Int × Dy × Dy × List (List Iv) × List (List Tb) × Unit
def LmI (a : Iv) : Prop := Lm a.1.2.1 ∧ Lm a.2.1.2.1
def LmT (t : Tb) : Prop := (∀ d ∈ t.1, Lm d.2.1) ∧ ∀ a ∈ t.2.1, LmI a
def LmR (r : Rec) : Prop := Lm r.2.2.2.1.2.1 ∧ Lm r.2.2.2.2.1.2.1 ∧ (∀ b ∈ r.2.2.2.2.2.1, ∀ a ∈ b, LmI a) ∧ ∀ l ∈ r.2.2.2.2.2.2.1, ∀ t ∈ l, LmT t
def aDp (a : Iv) : Bool := dV a.1 && dV a.2.1 && decide (uT a.1 a.2.1 ≤ 0)
def stepT (l : List Dy) (i : Nat) : Bool := dV (l.getD i d0) && (decide (i = 0) || decide (uT (l.getD (i - 1) d0) (l.getD i d0) < 0))
def aQP (t : Tb) : Bool := decide (1 ≤ t.2.1.length ∧ t.2.1.length ≤ 256 ∧ t.1.length = t.2.1.length + 1) && (List.range t.1.length).all (stepT t.1) && t.2.1.all aDp
def aMK (r : Rec) : Bool := decide (1 ≤ r.1 ∧ r.1 ≤ 3 ∧ 0 ≤ r.2.1 ∧ r.2.1 ≤ 1073741824 ∧ 0 ≤ r.2.2.1 ∧ r.2.2.1 ≤ 200) && dV r.2.2.2.1 && dV r.2.2.2.2.1 && decide (r.2.2.2.2.2.1.length ≤ 16 ∧ r.2.2.2.2.2.2.1.length ≤ 16)
def aQQ (b : List Iv) : Bool := decide (b.length ≤ 64) && b.all aDp
def aVA (l : List Tb) : Bool := decide (l.length ≤ 64) && l.all aQP
def xI (r : Rec) : Bool := aMK r && r.2.2.2.2.2.1.all aQQ && r.2.2.2.2.2.2.1.all aVA
theorem zT {α : Type} {l : List α} {i : Nat} {z : α} (h : i < l.length) : l.getD i z ∈ l := by simp [List.getD, h]
theorem aTd {α : Type} (l : List α) (z : α) (p : α → Bool) : (List.range l.length).all (fun i => p (l.getD i z)) = l.all p := by
 rw [Bool.eq_iff_iff, List.all_eq_true, List.all_eq_true]
 constructor
 ·intro h x hx
  obtain ⟨i, hi, rfl⟩ := List.getElem_of_mem hx
  have := h i (List.mem_range.2 hi)
  simpa [List.getD, hi] using this
 ·intro h i hi
  exact h _ (zT (List.mem_range.1 hi))
def stp {E : Type} (o : Option E) (i : Int) : Int ⊕ E := match o with
 | some e => .inr e
 | none => .inl i
theorem aML {E : Type} {step : Int → Option (Int ⊕ E)} (n : Nat) (stop : Nat → Option E) (z : E) (h : ∀ i, i < n → step (i : Int) = some (stp (stop i) ((i : Int) + 1))) (h3 : step (n : Int) = some (.inr z)) : eQ step 0 = some (((List.range n).findSome? stop).getD z) := by
 have key := kO (step := step) (I := fun d : Int => ∃ i : Nat, d = i ∧ i ≤ n) (fun d => (n - d).toNat) (fun d => ((List.range' d.toNat (n - d.toNat)).findSome? stop).getD z) (fun d hd => by
  obtain ⟨i, rfl, hi⟩ := hd
  simp only [Int.toNat_natCast]
  rcases Nat.lt_or_ge i n with hlt | hge
  ·have e : n - i = (n - (i + 1)) + 1 := by omega
   have hs := h i hlt
   cases ho : stop i with
   | none =>
    left
    refine ⟨(i : Int) + 1, by rw [hs, ho]; rfl, ⟨i + 1, by simp, hlt⟩, by omega, ?_⟩
    rw [e, List.range'_succ, List.findSome?_cons, ho]
    rfl
   | some v =>
    right
    rw [hs, ho, e, List.range'_succ, List.findSome?_cons, ho]
    rfl
  ·right
   obtain rfl : i = n := by omega
   rw [h3, Nat.sub_self]
   rfl) 0 ⟨0, rfl, Nat.zero_le _⟩
 rw [key, List.range_eq_range']
 rfl
theorem aVB {E : Type} {n : Nat} {p : Nat → Bool} {e : E} : (List.range n).findSome? (fun i => bif p i then none else some e) = bif (List.range n).all p then none else some e := by
 generalize List.range n = l
 induction l with
 | nil => rfl
 | cons x r ih =>
  rw [List.findSome?_cons, List.all_cons, ih]
  cases p x <;> rfl
theorem aPA {step : Int → Option (Int ⊕ (Unit ⊕ Bool))} (n : Nat) (p : Nat → Bool) (h1 : ∀ i, i < n → step (i : Int) = some (bif p i then .inl ((i : Int) + 1) else .inr (.inr false))) (h3 : step (n : Int) = some (.inr (.inl ()))) : eQ step 0 = some (bif (List.range n).all p then .inl () else .inr false) := by
 rw [aML n (fun i => bif p i then none else some (.inr false)) (.inl ()) (fun i hi => ?_) h3, aVB]
 ·cases (List.range n).all p <;> rfl
 ·rw [h1 i hi]
  cases p i <;> rfl
theorem aVC {α : Type} (s : List α) (z : α) (p : α → Bool) : ∃ v, (((List.range s.length).findSome? (fun i => bif p (s.getD i z) then some (Sum.inr (i : Int)) else none)).getD (Sum.inl ()) : Unit ⊕ Int) = v ∧ ((v = .inl () ∧ s.any p = false) ∨ ∃ i : Nat, v = .inr (i : Int) ∧ s.any p = true) := by
 refine ⟨_, rfl, ?_⟩
 cases hf : (List.range s.length).findSome? (fun i => bif p (s.getD i z) then some (Sum.inr (i : Int) : Unit ⊕ Int) else none) with
 | none =>
  left
  refine ⟨rfl, ?_⟩
  rw [List.findSome?_eq_none_iff] at hf
  rw [List.any_eq_false]
  intro x hx
  obtain ⟨i, hi, rfl⟩ := List.getElem_of_mem hx
  have := hf i (List.mem_range.2 hi)
  intro hp
  rw [show s.getD i z = s[i] from by simp [List.getD, hi], hp] at this
  cases this
 | some v =>
  right
  obtain ⟨i, hi, hv⟩ := List.exists_of_findSome?_eq_some hf
  have hi := List.mem_range.1 hi
  cases hp : p (s.getD i z) with
  | false => rw [hp] at hv; cases hv
  | true =>
   rw [hp] at hv
   refine ⟨i, (Option.some.inj hv).symm, List.any_eq_true.2 ⟨_, zT hi, hp⟩⟩
theorem aIQ {α : Type} (s : List α) (z : α) (p : α → Bool) (m : α → Option Bool) (hl : s.length ≤ 4611686018427387904) (hm : ∀ x ∈ s, m x = some (p x)) (step : Int → Option (Int ⊕ (Unit ⊕ Int)))
  (hs : ∀ x, step x = if x < (s.length : Int) then ck (0 ≤ x ∧ x < (s.length : Int)) ((m (s.getD x.toNat z)).bind (fun v => if v = true then some (.inr (.inr x)) else ck (I64 (x + 1)) (some (.inl (x + 1))))) else some (.inr (.inl ()))) :
  ∃ e, eQ step 0 = some e ∧ ((e = .inl () ∧ s.any p = false) ∨ ∃ i : Nat, e = .inr (i : Int) ∧ s.any p = true) := by
 obtain ⟨v, hv, hq⟩ := aVC s z p
 refine ⟨v, ?_, hq⟩
 rw [← hv]
 refine aML _ _ _ (fun i hi => ?_) (by rw [hs, if_neg (by omega)])
 have h1 : (0 : Int) ≤ i ∧ (i : Int) < (s.length : Int) := by omega
 have h2 := hm _ (zT (z := z) hi)
 rw [hs, if_pos h1.2, aGi h1, Int.toNat_natCast, h2, Option.bind_some]
 cases p (s.getD i z) with
 | true => rfl
 | false =>
  rw [if_neg (by decide), aGi (by constructor <;> omega)]
  rfl
theorem aDq (a : Iv) (lm : LmI a) : qW a = some (aDp a) := by
 unfold qW aDp
 rw [vN, vN, aNY _ _ lm.1 lm.2]
 exact aB (fun _ => rfl) (aB (fun _ => rfl) rfl)
theorem aIp (a : Iv) (lm : LmI a) : mH a = some (!aDp a) := by
 unfold mH
 rw [aDq a lm]; rfl
theorem aL1 (a : Iv) (lm : LmI a) : pK a = some (!aDp a) := by
 unfold pK
 rw [aDq a lm]; rfl
theorem aIR {α : Type} (s : List α) (p : α → Bool) : s.any (fun x => !p x) = !s.all p := by rw [List.any_eq_not_all_not]; simp
theorem aVD (s : List Iv) (lm : ∀ a ∈ s, LmI a) (hl : s.length ≤ 4611686018427387904) : aY s () = some (!s.all aDp) := by
 obtain ⟨e, h1, h2⟩ := aIQ s _ (fun a => !aDp a) mH hl (fun a ha => aIp a (lm a ha)) (cI s) (fun x => rfl)
 rw [aIR] at h2
 unfold aY bO
 rw [h1]
 rcases h2 with ⟨rfl, h2⟩ | ⟨i, rfl, h2⟩ <;> rw [h2] <;> simp
theorem aVE (s : List Iv) (lm : ∀ a ∈ s, LmI a) (hl : s.length ≤ 4611686018427387904) : bD s () = some (!s.all aDp) := by
 obtain ⟨e, h1, h2⟩ := aIQ s _ (fun a => !aDp a) pK hl (fun a ha => aL1 a (lm a ha)) (cQ s) (fun x => rfl)
 rw [aIR] at h2
 unfold bD bT
 rw [h1]
 rcases h2 with ⟨rfl, h2⟩ | ⟨i, rfl, h2⟩ <;> rw [h2] <;> simp
theorem aPB (t : Tb) (lm : LmT t) : vS t = some (aQP t) := by
 unfold vS
 refine aB (fun h => by constructor <;> omega) ?_
 by_cases h : 1 ≤ t.2.1.length ∧ t.2.1.length ≤ 256 ∧ t.1.length = t.2.1.length + 1
 ·rw [if_neg (by omega)]
  have hc := aVE t.2.1 lm.2 (by omega)
  have hlp : eQ (fun d : Int => pX t d) 0 = some (bif (List.range t.1.length).all (stepT t.1) then .inl () else .inr false) := by
   refine aPA t.1.length (stepT t.1) (fun i hi => ?_) (by unfold pX; rw [if_neg (by omega)])
   have h1 := lm.1 _ (zT (z := (d0 : Dy)) hi)
   have hi1 : i - 1 < t.1.length := by omega
   have h2 := lm.1 _ (zT (z := (d0 : Dy)) hi1)
   have e1 : ((i : Int) - 1).toNat = i - 1 := by omega
   unfold pX
   rw [if_pos (by omega)]
   refine aB (by constructor <;> omega) (bH (vN _) ?_)
   rw [Int.toNat_natCast, e1]
   have hcmp := aNY _ _ h2 h1
   refine aB (fun _ _ => by constructor <;> omega) (aB (fun _ _ => by constructor <;> omega) (aB (fun _ _ => by rw [show ((false, [], (0 : Int), ()) : Dy) = d0 from rfl, hcmp]; rfl) ?_))
   rw [show ((false, [], (0 : Int), ()) : Dy) = d0 from rfl, hcmp, Option.getD_some]
   have hI : I64 ((i : Int) + 1) := by constructor <;> omega
   unfold stepT
   generalize uT (t.1.getD (i - 1) d0) (t.1.getD i d0) = c
   cases dV (t.1.getD i d0) with
   | false => rw [if_pos (by simp)]; rfl
   | true =>
    by_cases h0 : i = 0
    ·rw [if_neg (by simp; omega), aGi hI]; simp [h0]
    ·by_cases hq : c < 0
     ·rw [if_neg (by simp; omega), aGi hI]; simp [hq]
     ·rw [if_pos (by simp; omega)]; simp [hq, h0]
  rw [hlp]
  unfold aQP
  rw [decide_eq_true h]
  cases (List.range t.1.length).all (stepT t.1) with
  | false => rfl
  | true =>
   show (bD t.2.1 ()).bind _ = _
   rw [hc]; simp
 ·rw [if_pos (by omega)]
  unfold aQP
  rw [decide_eq_false h]; rfl
theorem aFW (t : Tb) (lm : LmT t) : iU t = some (!aQP t) := by
 unfold iU
 rw [aPB t lm]; rfl
theorem aVF (s : List Tb) (lm : ∀ a ∈ s, LmT a) (hl : s.length ≤ 4611686018427387904) : aW s () = some (!s.all aQP) := by
 obtain ⟨e, h1, h2⟩ := aIQ s _ (fun a => !aQP a) iU hl (fun a ha => aFW a (lm a ha)) (cB s) (fun x => rfl)
 rw [aIR] at h2
 unfold aW bM
 rw [h1]
 rcases h2 with ⟨rfl, h2⟩ | ⟨i, rfl, h2⟩ <;> rw [h2] <;> simp
theorem aIq (l : List Tb) (lm : ∀ a ∈ l, LmT a) : mK l = some (!aVA l) := by
 unfold mK aVA
 by_cases h : l.length ≤ 64
 ·rw [aVF l lm (by omega)]
  refine aB (fun _ => rfl) ?_
  rw [decide_eq_false (by omega), decide_eq_true h]; simp
 ·refine aB (fun hh => absurd (by omega) hh) ?_
  rw [decide_eq_true (by omega), decide_eq_false h]; simp
theorem aVG (s : List (List Tb)) (lm : ∀ l ∈ s, ∀ a ∈ l, LmT a) (hl : s.length ≤ 4611686018427387904) : aZ s () = some (!s.all aVA) := by
 obtain ⟨e, h1, h2⟩ := aIQ s _ (fun a => !aVA a) mK hl (fun a ha => aIq a (lm a ha)) (cK s) (fun x => rfl)
 rw [aIR] at h2
 unfold aZ bP
 rw [h1]
 rcases h2 with ⟨rfl, h2⟩ | ⟨i, rfl, h2⟩ <;> rw [h2] <;> simp
theorem aL2 (r : Rec) (lm : LmR r) : pL r = some (xI r) := by
 unfold pL
 rw [vN, vN]
 refine aB (fun _ => rfl) (aB (fun _ => rfl) ?_)
 rw [Option.getD_some, Option.getD_some]
 cases hh : aMK r with
 | false =>
  rw [if_pos]
  ·unfold xI; rw [hh]; rfl
  ·unfold aMK at hh
   simp only [Bool.and_eq_false_iff, decide_eq_false_iff_not] at hh
   rcases hh with ((hh | hh) | hh) | hh
   ·omega
   ·rw [hh]; simp
   ·rw [hh]; simp
   ·omega
 | true =>
  have hh' := hh
  unfold aMK at hh'
  simp only [Bool.and_eq_true, decide_eq_true_eq] at hh'
  obtain ⟨⟨⟨q1, q2⟩, q3⟩, q4⟩ := hh'
  rw [if_neg (by rw [q2, q3]; simp; omega)]
  have hlp : eQ (fun d : Int => nC r d) 0 = some (bif (List.range r.2.2.2.2.2.1.length).all (fun i => aQQ (r.2.2.2.2.2.1.getD i [])) then .inl () else .inr false) := by
   refine aPA r.2.2.2.2.2.1.length _ (fun i hi => ?_) (by unfold nC; rw [if_neg (by omega)])
   have hm := zT (z := ([] : List Iv)) hi
   unfold nC
   rw [if_pos (by omega)]
   refine aB (by constructor <;> omega) ?_
   rw [Int.toNat_natCast]
   have hI : I64 ((i : Int) + 1) := by constructor <;> omega
   generalize r.2.2.2.2.2.1.getD i [] = b at hm ⊢
   unfold aQQ
   by_cases h : b.length ≤ 64
   ·rw [aVD b (lm.2.2.1 b hm) (by omega)]
    refine aB (fun _ => rfl) ?_
    rw [decide_eq_true h, Option.getD_some]
    cases b.all aDp with
    | true => rw [if_neg (by simp; omega), aGi hI]; rfl
    | false => rw [if_pos (by simp)]; rfl
   ·refine aB (fun hx => absurd (by omega) hx) ?_
    rw [if_pos (.inl (by omega)), decide_eq_false h]; rfl
  rw [hlp, aTd]
  unfold xI
  rw [hh]
  cases r.2.2.2.2.2.1.all aQQ with
  | false => rfl
  | true =>
   show (aZ r.2.2.2.2.2.2.1 ()).bind _ = _
   rw [aVG _ lm.2.2.2 (by omega)]; simp
end Nu
end Go.Proofs
namespace Go.Proofs
open Go.Shelf
def Tryz.lays156_ren : Go.Shelf.Ren := ⟨fun | 156 => 46 | 165 => 102 | 166 => 50 | 169 => 51 | 240 => 114 | 241 => 171 | 276 => 175 | 277 => 225 | n => n, fun | 31 => 48 | 9 => 9 | 3 => 3 | 4 => 4 | 0 => 0 | 20 => 20 | 72 => 101 | 76 => 104 | 70 => 98 | 37 => 99 | 75 => 103 | 127 => 148 | 164 => 198 | 5 => 5 | 80 => 106 | n => n, fun | n => n⟩
theorem Tryz.lays156 : Go.Proofs.Lays.n156 Tryz.prog Tryz.lays156_ren := {
 mixed := by kernel_rfl
 f156 := Tryz.func46.trans (congrArg some (by kernel_rfl))
 f165 := Tryz.func102.trans (congrArg some (by kernel_rfl))
 f166 := Tryz.func50.trans (congrArg some (by kernel_rfl))
 f169 := Tryz.func51.trans (congrArg some (by kernel_rfl))
 f240 := Tryz.func114.trans (congrArg some (by kernel_rfl))
 f241 := Tryz.func171.trans (congrArg some (by kernel_rfl))
 f276 := Tryz.func175.trans (congrArg some (by kernel_rfl))
 f277 := Tryz.func225.trans (congrArg some (by kernel_rfl))
 t0 := Tryz.underlying0
 a0 := Tryz.isAgg0
 z0 := Tryz.sizeOf0
 v0 := Tryz.zeroValue0
 t3 := Tryz.underlying3
 a3 := Tryz.isAgg3
 z3 := Tryz.sizeOf3
 v3 := Tryz.zeroValue3
 t4 := Tryz.underlying4
 a4 := Tryz.isAgg4
 z4 := Tryz.sizeOf4
 v4 := Tryz.zeroValue4
 t9 := Tryz.underlying9
 a9 := Tryz.isAgg9
 z9 := Tryz.sizeOf9
 v9 := Tryz.zeroValue9
 t20 := Tryz.underlying20
 a20 := Tryz.isAgg20
 z20 := Tryz.sizeOf20
 v20 := Tryz.zeroValue20
 t31 := Tryz.underlying48
 a31 := Tryz.isAgg48
 z31 := Tryz.sizeOf48
 v31 := Tryz.zeroValue48
 t37 := Tryz.underlying99
 a37 := Tryz.isAgg99
 z37 := Tryz.sizeOf99
 v37 := Tryz.zeroValue99
 t70 := Tryz.underlying98
 a70 := Tryz.isAgg98
 z70 := Tryz.sizeOf98
 v70 := Tryz.zeroValue98
 t72 := Tryz.underlying101
 a72 := Tryz.isAgg101
 z72 := Tryz.sizeOf101
 v72 := Tryz.zeroValue101
 t75 := Tryz.underlying103
 a75 := Tryz.isAgg103
 z75 := Tryz.sizeOf103
 v75 := Tryz.zeroValue103
 t76 := Tryz.underlying104
 a76 := Tryz.isAgg104
 z76 := Tryz.sizeOf104
 v76 := Tryz.zeroValue104
 t127 := Tryz.underlying148
 a127 := Tryz.isAgg148
 z127 := Tryz.sizeOf148
 v127 := Tryz.zeroValue148
 t164 := Tryz.underlying198
 a164 := Tryz.isAgg198
 z164 := Tryz.sizeOf198
 v164 := Tryz.zeroValue198 }
theorem Tryz.bx156 : Builder.Extra Tryz.prog Tryz.lays156_ren where
 sizeBuilder := by kernel_rfl
 liesBuilder := by kernel_rfl
 t5 := Tryz.underlying5
 a5 := Tryz.isAgg5
 z5 := Tryz.sizeOf5
 v5 := Tryz.zeroValue5
 infoByte := by kernel_rfl
 cellsByte := by kernel_rfl
 sizeByte := by kernel_rfl
 neB5 := by decide
open Go.Vc
set_option maxRecDepth 20000
namespace Nu
noncomputable def lF (o : Bool × List Nat) : Option (Bool × List Nat) := some (false, o.2)
noncomputable def kM : mY where
 D := (Bool × (List Nat)) × ((Bool × (List Nat)))
 av := fun d => [.ptr 0 []]
 hp := fun d => [.box 4294967397 (.agg [pk (d.1.1) 0, .own 1]), .row 5 (.u .u8) (d.1.2)]
 m := 1
 pre := fun d => lF d.1 = some d.2
 out := fun d => (fun r : (Bool × (List Nat)) => .ret (.tup []) [.box 4294967397 (.agg [pk ((r).1) 0, .own 1]), .row 5 (.u .u8) ((r).2)]) d.2
attribute [go_sem] kM
noncomputable def jI (o : Bool × List Nat) : Option (List Nat) := some o.2
noncomputable def iN : mY where
 D := (Bool × (List Nat)) × ((List Nat))
 av := fun d => [.ptr 0 []]
 hp := fun d => [.box 4294967397 (.agg [pk (d.1.1) 0, .own 1]), .row 5 (.u .u8) (d.1.2)]
 m := 1
 pre := fun d => jI d.1 = some d.2
 out := fun d => (fun r : (List Nat) => .ret (.val .str r) [.dead]) d.2
attribute [go_sem] iN
theorem aPC {b : Nat} {c : Ctx} {w : World} {vs : Array Value} (hl : vs.toList.length = 1) (hb : c.hd 0 = .pointer (some ⟨b, 0, none⟩)) (hv : ∀ (h2 : 0 < vs.toList.length), aP c w (.ptr 0 []) vs.toList[0]) : vs = #[.pointer (some ⟨b, 0, none⟩)] := by
 obtain ⟨_, b', hb', e⟩ := aAd (hv (by omega))
 rw [hb] at hb'
 simp only [aQ, Option.some.injEq] at hb'
 subst hb'
 rw [← Array.toList_inj]
 refine List.ext_getElem hl fun i a1 a2 => ?_
 match i, a2 with
 | 0, _ => exact e
theorem xJ : GOK Tryz.prog GL 114 kM := by
 rintro c w ⟨⟨b, xs⟩, r⟩ vs hpre ⟨good, glob, len, val⟩
 obtain rfl : (false, xs) = r := Option.some.inj hpre
 obtain ⟨B, q1, q2, q3⟩ := aJI good (i := 0) (j := 1) (tb := 101) rfl rfl
 have hvs := aPC len q1 (fun h2 => val 0 (by show 0 < 1; decide) h2)
 rw [hvs]
 have hr : aP c w (.tup []) (.tuple #[]) := ⟨[], rfl, rfl, fun i h1 _ => by cases h1⟩
 cases b with
 | true =>
  refine Calls.mono (f := 114) (Any.Builder_copyCheck_fresh { Tryz.lays156 with } Tryz.bx156.toX72 B w (by rw [Lib.cell_of_heap q2]; rfl) (by simp [World.shape?, q2]; rfl) (Lib.frozen_of_heap q2 0)) ?_
  rintro e w' ⟨rfl, rfl⟩
  exact ⟨c, .tuple #[], rfl, aUw good (i := 0) (j := 1) (tb := 101) rfl rfl q1, ⟨[], rfl, rfl, fun i h1 _ => by cases h1⟩⟩
 | false =>
  refine Calls.mono (f := 114) (Any.Builder_copyCheck_used { Tryz.lays156 with } Tryz.bx156.toX72 B w (by rw [Lib.cell_of_heap q2]; rfl)) ?_
  rintro e w' ⟨rfl, rfl⟩
  exact ⟨c, .tuple #[], rfl, good, hr⟩
theorem aAa : GOK Tryz.prog GL 51 iN := by
 rintro c w ⟨⟨b, xs⟩, r⟩ vs hpre ⟨good, glob, len, val⟩
 obtain rfl : xs = r := Option.some.inj hpre
 obtain ⟨B, q1, q2, q3⟩ := aJI good (i := 0) (j := 1) (tb := 101) rfl rfl
 have hvs := aPC len q1 (fun h2 => val 0 (by show 0 < 1; decide) h2)
 rw [hvs]
 obtain ⟨l, hx, hl⟩ := aSQ q3
 have hlm : l.length ≤ maxLen := by
  rcases hl with ⟨_, rfl⟩ | ⟨g, cap, cur, _, _, h1, h2, _⟩
  ·exact Nat.zero_le _
  ·exact Nat.le_trans h1 h2
 have hfin : ∀ (g : Option Nat) (w' : World), (∀ b', g = some b' → aQ (c.hd 1) = some b') → w.grownBy w' g → aGe iN c w ((b, xs), xs) (.returned (.string ⟨l.toArray⟩)) w' := fun g w' hg hgr => by
  refine ⟨⟨c.S, c.hd, 1⟩, .string ⟨l.toArray⟩, rfl, aUx good (i := 0) (j := 1) rfl rfl rfl hgr hg, ?_, (fun h => by cases h), fun _ cs => by simp⟩
  show aS w' c.S .str xs [.string ⟨l.toArray⟩]
  exact ⟨_, rfl, (by simp only [bE]; exact hx.symm), hlm⟩
 rcases hl with ⟨e1, rfl⟩ | ⟨g, cap, cur, e1, hg, hnc, hcm, hcs, hcell⟩
 ·rw [e1] at q2
  refine Calls.mono (f := 51) (aQe { Tryz.lays156 with } Tryz.bx156 B _ w q2) ?_
  rintro e w' ⟨rfl, hgr⟩
  exact hfin _ _ (fun _ h => by cases h) hgr
 ·rw [e1] at q2
  by_cases h0 : l = []
  ·subst h0
   by_cases hc0 : cap = 0
   ·subst hc0
    refine Calls.mono (f := 51) (aK5 { Tryz.lays156 with } Tryz.bx156 B g _ cur w q2 hg) ?_
    rintro e w' ⟨rfl, hgr⟩
    exact hfin _ _ (fun _ h => by cases h) hgr
   ·refine Calls.mono (f := 51) (aOI { Tryz.lays156 with } Tryz.bx156 B g cap _ w hc0 q2) ?_
    rintro e w' ⟨rfl, hgr⟩
    exact hfin _ _ (fun _ h => by cases h) hgr
  ·refine Calls.mono (f := 51) (aOH { Tryz.lays156 with } Tryz.bx156 B g cap _ cur l w h0 q2 hg hnc hcm hcs hcell) ?_
   rintro e w' ⟨rfl, hgr⟩
   exact hfin _ _ (fun b' h => by cases h; rw [e1]; rfl) hgr
def xB (xs : List (List Nat)) (sep : List Nat) : List Nat := sep.intercalate xs
def aSh (xs : List (List Nat)) (sep : List Nat) : Prop := xs.length ≤ 140737488355328 ∧ (xB xs sep).length ≤ 140737488355328
instance (xs : List (List Nat)) (sep : List Nat) : Decidable (aSh xs sep) := by unfold aSh; infer_instance
theorem aMM {s : ByteArray} {x : List Nat} (h : bE s = x) : s.data.toList = x.map UInt8.ofNat := by
 subst h
 simp [bE, List.map_map, Function.comp_def]
theorem aPD {α β : Type} (f : α → β) (sep : List α) : ∀ xs : List (List α), (sep.intercalate xs).map f = (sep.map f).intercalate (xs.map (List.map f))
 | [] => rfl
 | [x] => by simp [List.intercalate]
 | x :: y :: r => by
  have := aPD f sep (y :: r)
  simp only [List.intercalate, List.intersperse, List.flatten_cons, List.map_append, List.map_cons] at this ⊢
  rw [this]
def aDr : Ty := .pair (.sl .str) (.pair .str .unit)
noncomputable def sG : aJ := ⟨aDr, .one .str, fun x => aSh x.1 x.2.1, fun x => xB x.1 x.2.1⟩
attribute [go_sem] sG aDr
theorem aIr : FOK Tryz.prog GL 46 sG := by
 rintro w S vs ⟨xs, sep, u⟩ hS hG ⟨v, vs', e1, h1, v2, vs2, e2, h2, e3⟩ ⟨p1, p2⟩
 have h1 : aS w S (.sl .str) xs [v] := h1
 obtain ⟨a, len, cap, ev, hl, hlc, hcm, hr⟩ := h1
 have h2 : aS w S .str sep [v2] := h2
 obtain ⟨s, es, hs, hsz⟩ := h2
 have hl : xs.length = len := hl
 have e3 : vs2 = [] := e3
 have hvs : vs = #[.slice a len cap, .string s] := by
  rw [← Array.toList_inj, e1, e2, e3, (List.cons.inj ev).1, (List.cons.inj es).1]
 rw [hvs]
 have hres : ∀ (t : List UInt8) (w' : World), t.map (·.toNat) = xB xs sep → cU w' (fun b => S b ∨ (w.heap.size ≤ b ∧ b < w'.heap.size)) .str (xB xs sep) (.string ⟨t.toArray⟩) := fun t w' ht => by
  show aS w' (fun b => S b ∨ (w.heap.size ≤ b ∧ b < w'.heap.size)) .str (xB xs sep) [.string ⟨t.toArray⟩]
  refine ⟨_, rfl, by simp [bE, ht], ?_⟩
  have : t.length = (xB xs sep).length := by rw [← ht, List.length_map]
  have hp : (xB xs sep).length ≤ 140737488355328 := p2
  show t.length ≤ maxLen
  unfold maxLen
  omega
 rcases hr with hr | ⟨b, off, ea, hb, hc⟩
 ·have hr : xs = [] := hr
  subst hr
  have hl0 : len = 0 := hl.symm
  subst hl0
  refine Calls.mono (f := 46) (Any.strings_Join_none Tryz.lays156 Tryz.bx156 a cap s w) ?_
  rintro e w' ⟨rfl, rfl⟩
  exact ⟨.string ⟨#[]⟩, rfl, .refl _ _, hres [] w' rfl⟩
 ·have ex : xs = (xs.map (fun l => (⟨(l.map UInt8.ofNat).toArray⟩ : ByteArray))).map bE := by
   rw [List.map_map]
   apply List.ext_getElem
   ·simp
   ·intro i h1 h2
    obtain ⟨ds, hd, _⟩ := hc i h1
    obtain ⟨s', _, hs', _⟩ := hd
    have hb := aMM hs'
    simp only [List.getElem_map, Function.comp]
    show xs[i] = List.map _ ((xs[i]).map UInt8.ofNat)
    rw [← hb]; exact hs'.symm
  subst ea
  have hcells : ∀ (j : Nat) x, (xs.map (fun l => (⟨(l.map UInt8.ofNat).toArray⟩ : ByteArray)))[j]? = some x → w.cell? ⟨b, off + j, none⟩ = some (.string x) := fun j x hx => by
   have hj : j < xs.length := by
    rcases Nat.lt_or_ge j xs.length with h | h
    ·exact h
    ·rw [List.getElem?_eq_none (by simpa using h)] at hx; cases hx
   obtain ⟨ds, hd, hcell⟩ := hc j hj
   obtain ⟨s', hds, hs', _⟩ := hd
   have hds : ds = [.string s'] := hds
   have := hcell 0 (.string s') (by rw [hds]; rfl)
   rw [List.getElem?_map, List.getElem?_eq_getElem hj] at hx
   have hx : (⟨((xs[j]).map UInt8.ofNat).toArray⟩ : ByteArray) = x := Option.some.inj hx
   rw [← hx, ← aMM hs']
   simpa [Ty.cells] using this
  have hsd : s.data.toList.map (·.toNat) = sep := hs
  have hj : (Lib.join ((xs.map (fun l => (⟨(l.map UInt8.ofNat).toArray⟩ : ByteArray))).map (·.data.toList)) s.data.toList).map (·.toNat) = xB xs sep := by
   unfold Lib.join xB
   rw [aPD, hsd]
   congr 1
   conv => rhs; rw [ex]
   simp only [List.map_map]
   rfl
  have key := Any.strings_Join Tryz.lays156 Tryz.bx156 b off cap (xs.map (fun l => (⟨(l.map UInt8.ofNat).toArray⟩ : ByteArray))) s w hcells (hS b hb) (by rw [List.length_map]; exact p1) (by rw [List.length_map, hl]; exact hlc) (by
   have := congrArg List.length hj
   rw [List.length_map] at this
   rw [this]; exact p2)
  rw [List.length_map, hl] at key
  refine Calls.mono (f := 46) key ?_
  rintro e w' ⟨rfl, hbel⟩
  exact ⟨_, rfl, fM.of_below hbel, hres _ w' hj⟩
end Nu
end Go.Proofs
