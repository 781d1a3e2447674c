import Derived.Test.YtabdejmolnikaaaGreatDoorZS2
import Derived.Test.YtabdejmolnikaaaGreatDoorZS1
import Derived.Test.YtabdejmolnikaaaGreatDoorZL5
import Derived.Shelf.Strconv.Itoa2
import Derived.Lib.ItoaNum
set_option linter.unusedVariables false
set_option linter.unusedSimpArgs false
namespace Go.Proofs
open Go.Vc
set_option maxRecDepth 20000
namespace Nu
theorem aQ3 {k : Nat} (h : k ≤ 18) : 10 ^ k ≤ 1000000000000000000 := Nat.pow_le_pow_right (n := 10) (by decide) h
theorem aSq (s : List Nat) (hd : ∀ c ∈ s, gR c = true) (h0 : 0 < s.length) (h1 : s.length ≤ 18) : dD s = some ((iH s : Int), (), ()) := by
 have hget : ∀ k, k < s.length → 48 ≤ s.getD k 0 ∧ s.getD k 0 ≤ 57 := fun k hk => by
  have hg : s.getD k 0 ∈ s := by rw [List.getD_eq_getElem?_getD, List.getElem?_eq_getElem hk]; exact List.getElem_mem hk
  have := hd _ hg
  simpa only [gR, decide_eq_true_iff] using this
 have hlt : ∀ k, iH (s.take k) < 1000000000000000000 ∨ k > s.length := fun k => by
  rcases Nat.lt_or_ge s.length k with h | h
  ·exact .inr h
  ·left
   have a := wE (s := s.take k) (fun c hc => hd c (List.mem_of_mem_take hc))
   have b := aQ3 (k := (s.take k).length) (by rw [List.length_take]; omega)
   omega
 have key : eV s s = some ((iH s : Int), (), ()) := by
  unfold eV
  refine cE (jZ (step := fun d : Int × Int => eH s d.1 d.2) (I := fun d => 0 ≤ d.2 ∧ d.2 ≤ s.length ∧ d.1 = (iH (s.take d.2.toNat) : Int)) (fun d => ((s.length : Int) - d.2).toNat) (fun _ => .inl (iH s : Int)) ?_ (0, 0) ⟨by simp, by simp, by simp [iH]⟩) ?_
  ·rintro ⟨n, i⟩ ⟨i0, i1, i2⟩
   have i0 : 0 ≤ i := i0
   have i1 : i ≤ s.length := i1
   have i2 : n = (iH (s.take i.toNat) : Int) := i2
   show (∃ d', eH s n i = _ ∧ _) ∨ eH s n i = _
   unfold eH
   by_cases hi : i < s.length
   ·left
    have hk : i.toNat < s.length := by omega
    obtain ⟨c1, c2⟩ := hget _ hk
    have hsub : iD .u8 (s.getD i.toNat 0) 48 = s.getD i.toNat 0 - 48 := aTE (by omega) c1
    have hb : iH (s.take (i.toNat + 1)) = iH (s.take i.toNat) * 10 + (s.getD i.toNat 0 - 48) := by rw [take_succ hk, aDZ]
    have hl := hlt (i.toNat + 1)
    refine ⟨((iH (s.take (i + 1).toNat) : Int), i + 1), ?_, ⟨by simp only; omega, by simp only; omega, rfl⟩, by simp only; omega, rfl⟩
    rw [if_pos hi, hsub, show (i + 1).toNat = i.toNat + 1 from by omega, hb]
    refine aB (by constructor <;> omega) ?_
    rw [if_neg (by omega), i2]
    refine aB (by constructor <;> omega) (aB (by constructor <;> omega) (aB (by constructor <;> omega) ?_))
    congr 3
   ·right
    rw [if_neg hi, i2, List.take_of_length_le (by omega)]
  ·unfold jK
   obtain ⟨c1, c2⟩ := hget 0 h0
   refine aB (by omega) ?_
   rw [if_neg (by omega)]
 have h2 : hZ s = some ((iH s : Int), (), ()) := by
  unfold hZ
  obtain ⟨c1, c2⟩ := hget 0 h0
  rw [if_pos (.inr ⟨trivial, by omega, by omega⟩)]
  refine aB (by omega) (aB (fun _ => by omega) ?_)
  rw [if_neg (by omega)]
  exact key
 unfold dD
 rw [h2]
 exact aB rfl rfl
theorem aHA (s : List Nat) (i : Nat) : ∀ c ∈ (s.drop i).take (cI s i), gR c = true := by
 intro c hc
 have h : (s.drop i).take (cI s i) = (s.drop i).takeWhile gR := by
  have := List.prefix_iff_eq_take.1 (List.takeWhile_prefix (p := gR) (l := s.drop i))
  exact this.symm
 rw [h] at hc
 exact List.all_eq_true.1 List.all_takeWhile c hc
abbrev aQ4 : Type := List Nat × Int × Bool × Unit
def litNo : aQ4 := ([], 0, false, ())
def kT (s : List Nat) (i : Nat) (c : Nat) : Prop := i < s.length ∧ s.getD i 0 = c
instance (s : List Nat) (i c : Nat) : Decidable (kT s i c) := inferInstanceAs (Decidable (_ ∧ _))
def aHB (s : List Nat) (i : Nat) (all : List Nat) (pow : Int) (neg : Bool) : aQ4 :=
 if cI s i < 1 ∨ 3 < cI s i then litNo
 else if 100 < iH ((s.drop i).take (cI s i)) then litNo
 else (all, pow + (if neg then -(iH ((s.drop i).take (cI s i)) : Int) else iH ((s.drop i).take (cI s i))), decide (i + cI s i = s.length), ())
def aL5 (s : List Nat) (i : Nat) (all : List Nat) (pow : Int) : aQ4 :=
 if kT s i 101 then aHB s (if kT s (i + 1) 45 ∨ kT s (i + 1) 43 then i + 2 else i + 1) all pow (decide (kT s (i + 1) 45))
 else (all, pow, decide (i = s.length), ())
def eF (s : List Nat) : aQ4 :=
 if 60 < s.length ∨ cI s 0 = 0 then litNo
 else if kT s (cI s 0) 46 then
  if cI s (cI s 0 + 1) = 0 then litNo
  else aL5 s (cI s 0 + 1 + cI s (cI s 0 + 1)) (s.take (cI s 0) ++ (s.drop (cI s 0 + 1)).take (cI s (cI s 0 + 1))) (-(cI s (cI s 0 + 1) : Int))
 else aL5 s (cI s 0) (s.take (cI s 0)) 0
theorem aQ5 (s : List Nat) (i : Nat) : s.getD ((i : Int)).toNat 0 = s.getD i 0 := by rw [Int.toNat_natCast]
theorem aQ6 (s : List Nat) (k : Nat) (all : List Nat) (pow x : Int) (hs : s.length ≤ 60) (hk : k ≤ 100) (hp : -100 ≤ pow ∧ pow ≤ 100) (hx : -100 ≤ x ∧ x ≤ 100) : fX pow (k : Int) s all x = some (all, pow + x, decide (k + cI s k = s.length), ()) := by
 have hd := zY s k
 unfold fX
 rw [aBs s k (by omega) (by omega)]
 simp only [Option.getD_some]
 refine aB (by constructor <;> omega) (aB (by constructor <;> omega) ?_)
 unfold fW
 have : decide ((k : Int) + (cI s k : Int) = (s.length : Int)) = decide (k + cI s k = s.length) := decide_eq_decide.2 (by omega)
 rw [this]
theorem aQ7 (s : List Nat) (i k : Nat) (all : List Nat) (pow : Int) (hs : s.length ≤ 60) (hi : i ≤ 60) (hk : k ≤ 100) (hp : -100 ≤ pow ∧ pow ≤ 100) : fY s (i : Int) pow all (k : Int) = some (aHB s k all pow (decide (kT s (i + 1) 45))) := by
 have hd := zY s k
 unfold fY aHB
 rw [aBs s k (by omega) (by omega)]
 simp only [Option.getD_some]
 refine aB rfl ?_
 by_cases h1 : cI s k < 1 ∨ 3 < cI s k
 ·rw [if_pos (by omega), if_pos h1]; rfl
 ·rw [if_neg (by omega), if_neg h1]
  have ht : List.drop ((k : Int)).toNat (List.take ((k : Int) + (cI s k : Int)).toNat s) = (s.drop k).take (cI s k) := by
   rw [List.drop_take, Int.toNat_natCast]
   congr 1
   omega
  have hl : ((s.drop k).take (cI s k)).length = cI s k := by rw [List.length_take, List.length_drop]; omega
  have ha := aSq _ (aHA s k) (by omega) (by omega)
  simp only [ht, ha, Option.getD_some]
  refine aB (by constructor <;> omega) (aB (by constructor <;> omega) (aB rfl ?_))
  by_cases h2 : 100 < iH ((s.drop k).take (cI s k))
  ·rw [if_pos (by omega), if_pos h2]; rfl
  ·rw [if_neg (by omega), if_neg h2]
   have e : ((i : Int) + 1).toNat = i + 1 := by omega
   rw [e]
   by_cases h3 : kT s (i + 1) 45
   ·have h3' : i + 1 < s.length ∧ s.getD (i + 1) 0 = 45 := h3
    rw [if_pos ⟨by omega, h3'.2⟩, decide_eq_true h3]
    refine aB (by constructor <;> omega) ?_
    rw [show (0 : Int) - (iH ((s.drop k).take (cI s k)) : Int) = -(iH ((s.drop k).take (cI s k)) : Int) from by omega]
    rw [aQ6 s k all pow _ hs hk hp (by constructor <;> omega)]
    rfl
   ·have h3' : ¬ (i + 1 < s.length ∧ s.getD (i + 1) 0 = 45) := h3
    rw [if_neg (fun h => h3' ⟨by omega, h.2⟩), decide_eq_false h3]
    rw [aQ6 s k all pow _ hs hk hp (by constructor <;> omega)]
    rfl
theorem aQ8 (s : List Nat) (i : Nat) (all : List Nat) (pow : Int) (hs : s.length ≤ 60) (hi : i ≤ 60) (hp : -100 ≤ pow ∧ pow ≤ 100) : fZ s (i : Int) all pow = some (aL5 s i all pow) := by
 unfold fZ aL5
 have e : ((i : Int) + 1).toNat = i + 1 := by omega
 rw [aQ5, e]
 refine aB (fun _ => by constructor <;> omega) ?_
 by_cases h : kT s i 101
 ·have h' : i < s.length ∧ s.getD i 0 = 101 := h
  rw [if_pos ⟨by omega, h'.2⟩, if_pos h]
  refine aB (by constructor <;> omega) (aB (fun _ => by constructor <;> omega) (aB (fun _ _ => by constructor <;> omega) ?_))
  by_cases h2 : kT s (i + 1) 45 ∨ kT s (i + 1) 43
  ·have h2' : (i + 1 < s.length ∧ s.getD (i + 1) 0 = 45) ∨ (i + 1 < s.length ∧ s.getD (i + 1) 0 = 43) := h2
   rw [if_pos (by rcases h2' with h | h; exact .inl ⟨by omega, h.2⟩; exact .inr ⟨by omega, h.2⟩), if_pos h2]
   refine aB (by constructor <;> omega) ?_
   have := aQ7 s i (i + 2) all pow hs hi (by omega) hp
   rw [show ((i + 2 : Nat) : Int) = (i : Int) + 1 + 1 from by omega] at this
   exact this
  ·have h2' : ¬ ((i + 1 < s.length ∧ s.getD (i + 1) 0 = 45) ∨ (i + 1 < s.length ∧ s.getD (i + 1) 0 = 43)) := h2
   rw [if_neg (fun h => h2' (by rcases h with h | h; exact .inl ⟨by omega, h.2⟩; exact .inr ⟨by omega, h.2⟩)), if_neg h2]
   have := aQ7 s i (i + 1) all pow hs hi (by omega) hp
   rw [show ((i + 1 : Nat) : Int) = (i : Int) + 1 from by omega] at this
   exact this
 ·have h' : ¬ (i < s.length ∧ s.getD i 0 = 101) := h
  rw [if_neg (fun h => h' ⟨by omega, h.2⟩), if_neg h]
  unfold fW
  have : decide ((i : Int) = (s.length : Int)) = decide (i = s.length) := decide_eq_decide.2 (by omega)
  rw [this]
theorem aNe (s : List Nat) (hs : s.length ≤ 4611686018427387904) : aP s = some (eF s) := by
 have hd0 := zY s 0
 have hd1 := zY s (cI s 0 + 1)
 unfold aP eF
 have e0 := aBs s 0 hs (by omega)
 rw [show ((0 : Nat) : Int) = 0 from rfl] at e0
 rw [e0]
 simp only [Option.getD_some]
 refine aB rfl (aB (by constructor <;> omega) ?_)
 by_cases h1 : 60 < s.length ∨ cI s 0 = 0
 ·rw [if_pos (by omega), if_pos h1]; rfl
 ·rw [if_neg (by omega), if_neg h1]
  rw [aQ5]
  refine aB (fun _ => by constructor <;> omega) ?_
  by_cases h2 : kT s (cI s 0) 46
  ·have h2' : cI s 0 < s.length ∧ s.getD (cI s 0) 0 = 46 := h2
   rw [if_pos ⟨by omega, h2'.2⟩, if_pos h2]
   have e1 := aBs s (cI s 0 + 1) hs (by omega)
   rw [show ((cI s 0 + 1 : Nat) : Int) = (cI s 0 : Int) + 1 from by omega] at e1
   simp only [e1, Option.getD_some]
   refine aB (by constructor <;> omega) (aB rfl ?_)
   by_cases h3 : cI s (cI s 0 + 1) = 0
   ·rw [if_pos (by omega), if_pos h3]; rfl
   ·rw [if_neg (by omega), if_neg h3]
    have ht : List.drop ((cI s 0 : Int) + 1).toNat (List.take ((cI s 0 : Int) + 1 + (cI s (cI s 0 + 1) : Int)).toNat s) = (s.drop (cI s 0 + 1)).take (cI s (cI s 0 + 1)) := by
     rw [List.drop_take, show ((cI s 0 : Int) + 1).toNat = cI s 0 + 1 from by omega]
     congr 1
     omega
    simp only [ht, Int.toNat_natCast]
    have hl1 : (s.take (cI s 0)).length ≤ 60 := by rw [List.length_take]; omega
    have hl2 : ((s.drop (cI s 0 + 1)).take (cI s (cI s 0 + 1))).length ≤ 60 := by rw [List.length_take]; omega
    refine aB (by constructor <;> omega) (aB (by constructor <;> omega) (aB (by constructor <;> omega) (aB (by constructor <;> omega) (aB (by omega) (aB (by constructor <;> omega) (aB (by constructor <;> omega) (aB (by constructor <;> omega) ?_)))))))
    have := aQ8 s (cI s 0 + 1 + cI s (cI s 0 + 1)) (s.take (cI s 0) ++ (s.drop (cI s 0 + 1)).take (cI s (cI s 0 + 1))) (-(cI s (cI s 0 + 1) : Int)) (by omega) (by omega) (by constructor <;> omega)
    rw [show ((cI s 0 + 1 + cI s (cI s 0 + 1) : Nat) : Int) = (cI s 0 : Int) + 1 + (cI s (cI s 0 + 1) : Int) from by omega] at this
    rw [show (0 : Int) - (cI s (cI s 0 + 1) : Int) = -(cI s (cI s 0 + 1) : Int) from by omega]
    exact this
  ·have h2' : ¬ (cI s 0 < s.length ∧ s.getD (cI s 0) 0 = 46) := h2
   rw [if_neg (fun h => h2' ⟨by omega, h.2⟩), if_neg h2]
   rw [Int.toNat_natCast]
   exact aQ8 s (cI s 0) _ 0 (by omega) (by omega) (by decide)
end Nu
end Go.Proofs
namespace Go.Proofs
open Go.Vc
set_option maxRecDepth 20000
namespace Nu
def aIz (A B p k : Nat) (up : Bool) : Dy := bB (rm2 A B p k up) (rE A B p k)
theorem nU {M : Nat} {e : Int} : (bB M e).2.1 = lb (M / 2 ^ tzn M) := by
 unfold bB
 split
 ·rename_i h; subst h; rw [Nat.zero_div, gF]; rfl
 ·rfl
theorem aPg {A B p k0 K : Nat} {up : Bool} (hB : B ≠ 0) (hAK : A < 2 ^ K) (hBK : B < 2 ^ K) (hK : K ≤ 1000) (hp : 1 ≤ p) (hp2 : p ≤ 2000) (h : A ≠ 0 → 2 ^ p ≤ rq A B k0) :
  aHi (bB A 0) (bB B 0) (p : Int) up = .inl (if A = 0 then d0 else aIz A B p k0 up) := by
 have mA : kB (bB A 0) = true := oJ hAK (by omega) (by decide)
 have mB : kB (bB B 0) = true := oJ hBK (by omega) (by decide)
 have hm : aM8 (p : Int) [bB A 0, bB B 0] = .inl () := by
  unfold aM8
  rw [if_pos ⟨by omega, by omega, by simp [mA, mB]⟩]
 obtain ⟨b1, b2⟩ := zW hB
 have hB' : B / 2 ^ tzn B ≠ 0 := by omega
 have hbB : bl (B / 2 ^ tzn B) ≤ K := oG (Nat.lt_of_le_of_lt (Nat.div_le_self _ _) hBK)
 have hzB := zV hB hBK
 unfold aHi
 rw [hm]
 simp only [nU, dV]
 rw [if_neg (fun h => hB' (uR.1 (List.eq_nil_of_length_eq_zero h)))]
 have hs1 : (bB A 0).1 = false := by unfold bB; split <;> rfl
 have hs2 : (bB B 0).1 = false := by unfold bB; split <;> rfl
 rw [hs1, hs2]
 by_cases hA : A = 0
 ·subst hA
  simp only [if_true]
  have h1 : (bB 0 0).2.2.1 = 0 := rfl
  have h2 : (bB B 0).2.2.1 = (tzn B : Int) := by unfold bB; rw [if_neg hB]; simp
  rw [h1, h2, Nat.zero_div, Nat.zero_mul, Nat.zero_div, Nat.zero_mod]
  unfold aM9
  have hb0 : ¬ 0 < ((bl 0 : Nat) : Int) - (p : Int) := by
   have : bl 0 = 0 := rfl
   omega
  simp only [hb0, if_false]
  have : decide ((0 : Nat) ≠ 0) = false := rfl
  rw [this]
  simp only [Bool.false_eq_true, false_and, if_false]
  rfl
 ·obtain ⟨a1, a2⟩ := zW hA
  have hA' : A / 2 ^ tzn A ≠ 0 := by omega
  have hbA : bl (A / 2 ^ tzn A) ≤ K := oG (Nat.lt_of_le_of_lt (Nat.div_le_self _ _) hAK)
  have hzA := zV hA hAK
  have h1 : (bB A 0).2.2.1 = (tzn A : Int) := by unfold bB; rw [if_neg hA]; simp
  have h2 : (bB B 0).2.2.1 = (tzn B : Int) := by unfold bB; rw [if_neg hB]; simp
  rw [h1, h2, if_neg hA]
  obtain ⟨k, hk, hk2, hk3⟩ : ∃ k : Nat, max (0 : Int) ((p : Int) + 1 + (bl (B / 2 ^ tzn B) : Int) - (bl (A / 2 ^ tzn A) : Int)) = (k : Int) ∧ p + bl (B / 2 ^ tzn B) ≤ bl (A / 2 ^ tzn A) - 1 + k ∧ k ≤ 4000 := by
   have hpos := aB6 hA'
   exact ⟨(max (0 : Int) ((p : Int) + 1 + (bl (B / 2 ^ tzn B) : Int) - (bl (A / 2 ^ tzn A) : Int))).toNat, by omega, by omega, by omega⟩
  rw [hk, Int.toNat_natCast]
  have hbig := aQ2 (p := p) hA' hB' hk2
  have hf : (false != false) = false := rfl
  rw [hf]
  have hc := aUe (e := (tzn A : Int) - (tzn B : Int)) (up := up) hp hbig
  unfold rq at hc
  rw [hc]
  obtain ⟨o1, o2, o3, o4⟩ := aUf (A' := A / 2 ^ tzn A) (B' := B / 2 ^ tzn B) (za := tzn A) (zb := tzn B) hp a1.symm b1.symm (h hA)
  obtain ⟨s1, s2, s3⟩ := aTD hp hbig o1
  have hrm : rm2 (A / 2 ^ tzn A) (B / 2 ^ tzn B) p k up = rm2 A B p k0 up := by unfold rm2; rw [s1, s3, o2, o4]
  have hre : (tzn A : Int) - (tzn B : Int) + rE (A / 2 ^ tzn A) (B / 2 ^ tzn B) p k = rE A B p k0 := by rw [s2]; omega
  obtain ⟨q1, q2⟩ := aHj (A := A / 2 ^ tzn A) (B := B / 2 ^ tzn B) (p := p) (k := k) hA'
  rw [hrm, hre, aFQ (K := p + 1) aNa (by omega) (by constructor <;> omega)]
  simp only [if_true]
  rfl
def aSr (r : aQ4) : Prop := (∀ c ∈ r.1, gR c = true) ∧ r.1.length ≤ 60 ∧ -160 ≤ r.2.1 ∧ r.2.1 ≤ 160
theorem wF : aSr litNo := ⟨(fun c hc => by cases hc), by decide, by decide, by decide⟩
theorem aKJ {s : List Nat} {i : Nat} {all : List Nat} {pow : Int} {neg : Bool} (h1 : ∀ c ∈ all, gR c = true) (h2 : all.length ≤ 60) (h3 : -60 ≤ pow ∧ pow ≤ 0) : aSr (aHB s i all pow neg) := by
 unfold aHB
 split
 ·exact wF
 ·split
  ·exact wF
  ·refine ⟨h1, h2, ?_, ?_⟩
   ·simp only; split <;> omega
   ·simp only; split <;> omega
theorem aHC {s : List Nat} {i : Nat} {all : List Nat} {pow : Int} (h1 : ∀ c ∈ all, gR c = true) (h2 : all.length ≤ 60) (h3 : -60 ≤ pow ∧ pow ≤ 0) : aSr (aL5 s i all pow) := by
 unfold aL5
 split
 ·exact aKJ h1 h2 h3
 ·exact ⟨h1, h2, by simp only; omega, by simp only; omega⟩
theorem vB (s : List Nat) : aSr (eF s) := by
 have hd0 := zY s 0
 have hd1 := zY s (cI s 0 + 1)
 have a0 := aHA s 0
 rw [List.drop_zero] at a0
 have a1 := aHA s (cI s 0 + 1)
 unfold eF
 split
 ·exact wF
 ·rename_i h
  split
  ·split
   ·exact wF
   ·refine aHC (fun c hc => ?_) ?_ (by constructor <;> omega)
    ·rcases List.mem_append.1 hc with hc | hc
     ·exact a0 c hc
     ·exact a1 c hc
    ·rw [List.length_append, List.length_take, List.length_take, List.length_drop]; omega
  ·refine aHC a0 ?_ (by decide)
   rw [List.length_take]; omega
def aFx (s : List Nat) : Nat := iH (eF s).1 * 10 ^ (max (eF s).2.1 0).toNat
def aD0 (s : List Nat) : Nat := 10 ^ (max (-(eF s).2.1) 0).toNat
theorem qJ (n : Nat) : 10 ^ n ≤ 2 ^ (4 * n) := by
 rw [Nat.pow_mul]
 exact Nat.pow_le_pow_left (by decide) n
theorem aOl (s : List Nat) : aFx s < 2 ^ 900 := by
 obtain ⟨h1, h2, h3, h4⟩ := vB s
 have a := wE h1
 have b := qJ (eF s).1.length
 have c := qJ (max (eF s).2.1 0).toNat
 unfold aFx
 have d := Nat.mul_lt_mul_of_lt_of_le (Nat.lt_of_lt_of_le a b) c (Nat.pow_pos (by decide))
 rw [← Nat.pow_add] at d
 exact aL0 900 d (by omega)
theorem aOm (s : List Nat) : aD0 s < 2 ^ 900 := by
 obtain ⟨h1, h2, h3, h4⟩ := vB s
 have c := qJ (max (-(eF s).2.1) 0).toNat
 unfold aD0
 exact aHf 900 c (by omega)
theorem aL6 (s : List Nat) : aD0 s ≠ 0 := by
 unfold aD0
 have := Nat.pow_pos (n := (max (-(eF s).2.1) 0).toNat) (show 0 < 10 by decide)
 omega
def aTF (s : List Nat) : List Nat × List Nat × Bool × Unit := if (eF s).2.2.1 = true then (lb (aFx s), lb (aD0 s), true, ()) else ([], [], false, ())
theorem aD1 {x : Nat} (h : x < 2 ^ 900) : (lb x).length ≤ 15 := by
 exact iM.2 (aHg 15 h (by decide))
theorem aQ9 (s : List Nat) (hs : s.length ≤ 4611686018427387904) : bX s = some (aTF s) := by
 obtain ⟨h1, h2, h3, h4⟩ := vB s
 unfold bX aTF
 simp only [aNe s hs, Option.getD_some]
 refine aB rfl ?_
 by_cases h : (eF s).2.2.1 = true
 ·rw [if_neg (fun hn => hn h), if_pos h]
  have e1 := aJx (eF s).1 h1 (by omega)
  have e2 := aBb 10 (max (eF s).2.1 0).toNat (by decide) (by omega)
  have e3 := aBb 10 (max (-(eF s).2.1) 0).toNat (by decide) (by omega)
  rw [show (((max (eF s).2.1 0).toNat : Nat) : Int) = max (eF s).2.1 0 from by omega] at e2
  rw [show (((max (-(eF s).2.1) 0).toNat : Nat) : Int) = max (0 - (eF s).2.1) 0 from by omega] at e3
  simp only [e1, e2, e3, Option.getD_some]
  have l1 : (lb (iH (eF s).1)).length ≤ 15 := aD1 (by
   have a := wE h1
   have b := qJ (eF s).1.length
   exact aL0 900 (Nat.lt_of_lt_of_le a b) (by omega))
  have l2 : (lb (10 ^ (max (eF s).2.1 0).toNat)).length ≤ 15 := aD1 (aHf 900 (qJ _) (by omega))
  refine aB rfl (aB rfl (aB ⟨?_, ?_⟩ (aB (by constructor <;> omega) (aB rfl ?_))))
  ·show (lb (iH (eF s).1)).length ≤ _; omega
  ·show (lb (10 ^ (max (eF s).2.1 0).toNat)).length ≤ _; omega
  ·have ht : aZ (lb (iH (eF s).1)) (lb (10 ^ (max (eF s).2.1 0).toNat)) = lb (aFx s) := by
    unfold aZ aFx; rw [dV, dV]
   rw [ht]; rfl
 ·rw [if_pos h, if_neg h]
end Nu
end Go.Proofs
namespace Go.Proofs
open Go.Vc
set_option maxRecDepth 20000
namespace Nu
theorem aDl (s : List Nat) (hs : s.length ≤ 4611686018427387904) : bU s = some (eF s).2.2.1 := by
 unfold bU
 simp only [aNe s hs, Option.getD_some]
 exact aB rfl rfl
def vC (s : List Nat) (p : Nat) (up : Bool) : Dy := if aFx s = 0 then d0 else aIz (aFx s) (aD0 s) p (p + 1 + bl (aD0 s)) up
def aRa (s : List Nat) (p : Int) : (Dy × Dy × Unit) × Int × Unit :=
 if ¬ (eF s).2.2.1 = true then ((d0, d0, ()), 6, ())
 else if p < 1 ∨ 2000 < p then ((d0, d0, ()), 1, ())
 else ((vC s p.toNat false, vC s p.toNat true, ()), 0, ())
theorem aRb {A K : Nat} (h : A < 2 ^ K) (hK : K ≤ 4096) : bJ false (lb A) 0 = some (bB A 0, 0, ()) := by
 have hl : (lb A).length ≤ K + 1 := iM.2 (Nat.lt_of_lt_of_le h (by rw [mM]; exact Nat.pow_le_pow_right (by decide) (by omega)))
 rw [aKA false (lb A) 0 (uQ A) (pW A) (by omega), dV, aFQ h hK (by decide)]
theorem aL7 (s : List Nat) (p : Nat) (up : Bool) (hp : 1 ≤ p ∧ p ≤ 2000) : eE (bB (aFx s) 0) (bB (aD0 s) 0) (p : Int) up = some (vC s p up, 0, ()) := by
 have hL : ∀ M, Lm (bB M 0).2.1 := fun M => by rw [nU]; exact uQ _
 rw [aSo _ _ _ _ (hL _) (hL _), aPg (k0 := p + 1 + bl (aD0 s)) (aL6 s) (aOl s) (aOm s) (by decide) hp.1 hp.2 (fun h => aQ2 h (aL6 s) (by have := aB6 h; omega))]
 rfl
theorem aRc (s : List Nat) (p : Int) (hs : s.length ≤ 4611686018427387904) : cC s p = some (aRa s p) := by
 unfold cC aRa
 simp only [aQ9 s hs, Option.getD_some]
 refine aB rfl ?_
 unfold aTF
 by_cases h : (eF s).2.2.1 = true
 ·simp only [h, if_true, not_true, if_false]
  by_cases h2 : p < 1 ∨ 2000 < p
  ·simp only [h2, if_true]; rfl
  ·simp only [h2, if_false]
   obtain ⟨q, rfl⟩ : ∃ q : Nat, p = (q : Int) := ⟨p.toNat, by omega⟩
   simp only [aRb (aOl s) (by decide), aRb (aOm s) (by decide), Option.getD_some, aL7 s q false (by constructor <;> omega), aL7 s q true (by constructor <;> omega)]
   refine aB rfl (aB rfl (aB rfl (aB rfl ?_)))
   simp only [not_true, or_self, if_false, Int.toNat_natCast]
 ·simp only [h, if_false, Bool.false_eq_true, not_false_eq_true, if_true]; rfl
end Nu
end Go.Proofs
namespace Go.Proofs
open Go.Vc
set_option maxRecDepth 20000
namespace Nu
theorem aL8 {a : List Nat} (h : ∀ c ∈ a, gR c = true) (pre : List Nat) : cI (pre ++ a) pre.length = a.length := by
 unfold cI
 rw [List.drop_left]
 have := List.takeWhile_append_of_pos (l₂ := []) h
 rw [List.append_nil, List.takeWhile_nil, List.append_nil] at this
 rw [this]
theorem aPh {a b : List Nat} {x : Nat} (h : ∀ c ∈ a, gR c = true) (hx : gR x = false) : cI (a ++ x :: b) 0 = a.length := by
 unfold cI
 rw [List.drop_zero, List.takeWhile_append_of_pos h, List.takeWhile_cons, hx]
 simp
theorem aRd {a : List Nat} (h : ∀ c ∈ a, gR c = true) (h1 : 1 ≤ a.length) (h2 : a.length ≤ 60) : eF a = (a, 0, true, ()) := by
 have hd : cI a 0 = a.length := aL8 h []
 unfold eF aL5
 rw [hd, if_neg (by omega), if_neg (fun hh : kT a a.length 46 => by have := hh.1; omega), if_neg (fun hh : kT a a.length 101 => by have := hh.1; omega), List.take_length, decide_eq_true rfl]
theorem aSs {a b : List Nat} (h : ∀ c ∈ a, gR c = true) (hb : ∀ c ∈ b, gR c = true) (h1 : 1 ≤ a.length) (h3 : 1 ≤ b.length) (h2 : a.length + 1 + b.length ≤ 60) : eF (a ++ 46 :: b) = (a ++ b, -(b.length : Int), true, ()) := by
 have hd : cI (a ++ 46 :: b) 0 = a.length := aPh h rfl
 have hl : (a ++ 46 :: b).length = a.length + 1 + b.length := by simp; omega
 have hg : kT (a ++ 46 :: b) a.length 46 := ⟨by omega, by simp [List.getD_eq_getElem?_getD]⟩
 have hr : a ++ 46 :: b = (a ++ [46]) ++ b := by simp
 have hd2 : cI (a ++ 46 :: b) (a.length + 1) = b.length := by
  have := aL8 hb (a ++ [46])
  rw [← hr, List.length_append] at this
  exact this
 have hdr : (a ++ 46 :: b).drop (a.length + 1) = b := by
  rw [hr, show a.length + 1 = (a ++ [46]).length by simp, List.drop_left]
 unfold eF aL5
 rw [hd, hd2, if_neg (by omega), if_pos hg, if_neg (by omega), if_neg (fun hh : kT (a ++ 46 :: b) (a.length + 1 + b.length) 101 => by have := hh.1; omega), List.take_left, hdr, List.take_length, decide_eq_true hl.symm]
theorem aSt {a b : List Nat} (h : ∀ c ∈ a, gR c = true) (hb : ∀ c ∈ b, gR c = true) : ∀ c ∈ a ++ b, gR c = true := fun c hc => (List.mem_append.1 hc).elim (h c) (hb c)
end Nu
end Go.Proofs
namespace Go.Proofs
open Go.Vc
set_option maxRecDepth 20000
namespace Nu
def exN (s : List Nat) : Nat := iH (eF s).1 * 5 ^ (max (eF s).2.1 0).toNat
def exD (s : List Nat) : Nat := 5 ^ (max (-(eF s).2.1) 0).toNat
def aKK (s : List Nat) : Dy × Int × Unit :=
 if ¬ (eF s).2.2.1 = true then (d0, 6, ())
 else if exN s % exD s ≠ 0 then (d0, 6, ())
 else (bB (exN s / exD s) (eF s).2.1, 0, ())
theorem aL9 (n : Nat) : 5 ^ n ≤ 2 ^ (4 * n) := Nat.le_trans (Nat.pow_le_pow_left (by decide) n) (qJ n)
theorem aTG (s : List Nat) : exN s < 2 ^ 900 := by
 obtain ⟨h1, h2, h3, h4⟩ := vB s
 have a := wE h1
 have b := qJ (eF s).1.length
 have c := aL9 (max (eF s).2.1 0).toNat
 unfold exN
 have d := Nat.mul_lt_mul_of_lt_of_le (Nat.lt_of_lt_of_le a b) c (Nat.pow_pos (by decide))
 rw [← Nat.pow_add] at d
 exact aL0 900 d (by omega)
theorem aSu (s : List Nat) : exD s ≠ 0 := by
 unfold exD
 have := Nat.pow_pos (n := (max (-(eF s).2.1) 0).toNat) (show 0 < 5 by decide)
 omega
theorem aMa (s : List Nat) (hs : s.length ≤ 4611686018427387904) : bE s = some (aKK s) := by
 obtain ⟨h1, h2, h3, h4⟩ := vB s
 unfold bE aKK
 simp only [aNe s hs, Option.getD_some]
 refine aB rfl ?_
 by_cases h : (eF s).2.2.1 = true
 ·simp only [h, not_true, if_false]
  have e1 := aJx (eF s).1 h1 (by omega)
  have e2 := aBb 5 (max (eF s).2.1 0).toNat (by decide) (by omega)
  have e3 := aBb 5 (max (-(eF s).2.1) 0).toNat (by decide) (by omega)
  rw [show (((max (eF s).2.1 0).toNat : Nat) : Int) = max (eF s).2.1 0 from by omega] at e2
  rw [show (((max (-(eF s).2.1) 0).toNat : Nat) : Int) = max (0 - (eF s).2.1) 0 from by omega] at e3
  have l1 : (lb (iH (eF s).1)).length ≤ 15 := aD1 (by
   have a := wE h1
   have b := qJ (eF s).1.length
   exact aL0 900 (Nat.lt_of_lt_of_le a b) (by omega))
  have l2 : (lb (5 ^ (max (eF s).2.1 0).toNat)).length ≤ 15 := aD1 (aHf 900 (aL9 _) (by omega))
  have ht : aZ (lb (iH (eF s).1)) (lb (5 ^ (max (eF s).2.1 0).toNat)) = lb (exN s) := by
   unfold aZ exN; rw [dV, dV]
  have hq : bD (lb (exN s)) (lb (exD s)) = (lb (exN s / exD s), lb (exN s % exD s), ()) := by
   unfold bD; rw [dV, dV]
  have hN := aTG s
  have hlt : exN s / exD s < 2 ^ 900 := Nat.lt_of_le_of_lt (Nat.div_le_self _ _) hN
  have hF : bJ false (lb (exN s / exD s)) (eF s).2.1 = some (bB (exN s / exD s) (eF s).2.1, 0, ()) := by
   rw [aKA false _ _ (uQ _) (pW _) (by have := aD1 hlt; omega), dV, aFQ hlt (by decide) (by constructor <;> omega)]
  have hD : lb (5 ^ (max (-(eF s).2.1) 0).toNat) = lb (exD s) := rfl
  rw [hD] at e3
  simp only [e1, e2, e3, Option.getD_some, ht, hq, hF]
  refine aB rfl (aB rfl (aB ⟨?_, ?_⟩ (aB (by constructor <;> omega) (aB rfl (aB ⟨pW _, pW _, by rw [dV]; exact aSu s, ?_⟩ (aB rfl ?_))))))
  ·show (lb (iH (eF s).1)).length ≤ _; omega
  ·show (lb (5 ^ (max (eF s).2.1 0).toNat)).length ≤ _; omega
  ·have := aD1 hN; omega
  ·by_cases hr : exN s % exD s = 0
   ·rw [if_neg (by rw [hr, gF]; simp), if_neg (fun h => h hr)]
   ·have hl := List.length_pos_iff.2 (fun e => hr (uR.1 e))
    rw [if_pos (.inl (by omega)), if_pos hr]; rfl
 ·simp only [h, not_false_eq_true, if_true, Bool.false_eq_true]; rfl
end Nu
end Go.Proofs
namespace Go.Proofs
open Go.Shelf
def Tryz.lays285_ren : Go.Shelf.Ren := ⟨fun | 285 => 165 | n => n, fun | 37 => 77 | 53 => 54 | 3 => 3 | 4 => 4 | 51 => 96 | 9 => 9 | 5 => 5 | 0 => 0 | n => n, fun | n => n⟩
theorem Tryz.lays285 : Go.Proofs.Lays.n285 Tryz.prog Tryz.lays285_ren := {
 mixed := by kernel_rfl
 f285 := Tryz.func165.trans (congrArg some (by kernel_rfl))
 t0 := Tryz.underlying0
 a0 := Tryz.isAgg0
 z0 := Tryz.sizeOf0
 v0 := Tryz.zeroValue0
 t3 := Tryz.underlying3
 a3 := Tryz.isAgg3
 z3 := Tryz.sizeOf3
 v3 := Tryz.zeroValue3
 t4 := Tryz.underlying4
 a4 := Tryz.isAgg4
 z4 := Tryz.sizeOf4
 v4 := Tryz.zeroValue4
 t5 := Tryz.underlying5
 a5 := Tryz.isAgg5
 z5 := Tryz.sizeOf5
 v5 := Tryz.zeroValue5
 t9 := Tryz.underlying9
 a9 := Tryz.isAgg9
 z9 := Tryz.sizeOf9
 v9 := Tryz.zeroValue9
 t37 := Tryz.underlying77
 a37 := Tryz.isAgg77
 z37 := Tryz.sizeOf77
 v37 := Tryz.zeroValue77
 t51 := Tryz.underlying96
 a51 := Tryz.isAgg96
 z51 := Tryz.sizeOf96
 v51 := Tryz.zeroValue96
 t53 := Tryz.underlying54
 a53 := Tryz.isAgg54
 z53 := Tryz.sizeOf54
 v53 := Tryz.zeroValue54 }
open Go.Vc
set_option maxRecDepth 20000
namespace Nu
def dgs (n u : Nat) : List Nat := (List.range n).map fun t => 48 + u / 10 ^ (n - 1 - t) % 10
theorem oP (n u : Nat) : (dgs n u).length = n := by simp [dgs]
noncomputable def dW (uo un u : Nat) (xs : List Nat) : Option (List Nat) :=
 ck (uo + un ≤ 24) (ck (u < 10 ^ un) (some (xs.take uo ++ dgs un u ++ xs.drop (uo + un))))
noncomputable def kM : lG where
 D := Nat × Nat × Nat × (List Nat) × ((List Nat))
 av := fun d => [.sub 0 1 d.1 d.2.1, .val (.u .u64) d.2.2.1]
 hp := fun d => [.box 24 (.val (.arr 24 (.u .u8)) d.2.2.2.1)]
 m := 1
 pre := fun d => dW d.1 d.2.1 d.2.2.1 d.2.2.2.1 = some d.2.2.2.2
 out := fun d => (fun r : (List Nat) => .ret (.tup []) [.box 24 (.val (.arr 24 (.u .u8)) (r))]) d.2.2.2.2
attribute [go_sem] kM
theorem aER (xs : List Nat) : (xs.map (fun (x : Nat) => [Value.int .u8 (x : Int)])).flatten = xs.map (fun (x : Nat) => Value.int .u8 (x : Int)) := by
 induction xs with
 | nil => rfl
 | cons x r ih => simp [ih]
theorem aSv {w : World} {S : Nat → Prop} {m : Nat} {xs : List Nat} {cs : List Value} (h : aV w S (.arr m (.u .u8)) xs cs) : xs.length = m ∧ cs = xs.map (fun (x : Nat) => Value.int .u8 (x : Int)) ∧ ∀ x ∈ xs, x < 256 := by
 obtain ⟨hl, css, rfl, hcl, hr⟩ := h
 have hl : xs.length = m := hl
 have key : ∀ i (h : i < xs.length) (h' : i < css.length), css[i] = [Value.int .u8 (xs[i] : Int)] ∧ xs[i] < 256 := fun i h h' => by
  obtain ⟨h1, _, h3⟩ := hr i h h'
  refine ⟨h1, ?_⟩
  simp only [IntKind.max, IntKind.signed, IntKind.bits] at h3
  simp at h3
  omega
 refine ⟨hl, ?_, fun x hx => ?_⟩
 ·have e : css = xs.map (fun (x : Nat) => [Value.int .u8 (x : Int)]) := by
   apply List.ext_getElem
   ·simp; exact hcl
   ·intro i h1 h2
    have := (key i (by simpa using h2) h1).1
    simpa using this
  rw [e, aER]
 ·obtain ⟨i, hi, rfl⟩ := List.getElem_of_mem hx
  exact (key i hi (by have : css.length = xs.length := hcl; omega)).2
theorem aUg {w : World} {S : Nat → Prop} {m : Nat} {xs : List Nat} (hl : xs.length = m) (hx : ∀ x ∈ xs, x < 256) : aV w S (.arr m (.u .u8)) xs (xs.map (fun (x : Nat) => Value.int .u8 (x : Int))) := by
 refine ⟨hl, xs.map (fun (x : Nat) => [Value.int .u8 (x : Int)]), (aER xs).symm, by simp, fun i h h' => ?_⟩
 ·have := hx xs[i] (List.getElem_mem h)
  refine ⟨by simp, rfl, ?_⟩
  simp only [IntKind.max, IntKind.signed, IntKind.bits]
  simp
  omega
open Go.Sort in
theorem aPi {cells : Array Value} {xs : List Nat} {uo un u v' : Nat} {dk : Array UInt8} (hc : cells.toList = xs.map (fun (x : Nat) => Value.int .u8 (x : Int))) (hle : uo + un ≤ xs.length) (hF : Lib.FmtInv un u 0 v' dk) :
  (putCells (fun (b : UInt8) => Value.int .u8 (b.toNat : Int)) uo dk cells).toList = (xs.take uo ++ dgs un u ++ xs.drop (uo + un)).map (fun (x : Nat) => Value.int .u8 (x : Int)) := by
 have hsz : cells.size = xs.length := by rw [← Array.length_toList, hc, List.length_map]
 have hdk := hF.size
 apply List.ext_getElem
 ·simp [putCells, oP, hsz]; omega
 ·intro i h1 h2
  have hi : i < xs.length := by simpa [putCells, hsz] using h1
  have hci : cells[i]'(by omega) = Value.int .u8 (xs[i] : Int) := by
   have : cells.toList[i]'(by rw [Array.length_toList]; omega) = Value.int .u8 (xs[i] : Int) := by simp [hc]
   simpa using this
  simp only [putCells, Array.toList_mapIdx, List.getElem_mapIdx, Array.getElem_toList, List.getElem_map]
  by_cases hr : uo ≤ i ∧ i < uo + dk.size
  ·rw [if_pos hr, hF.done (i - uo) (Nat.zero_le _) (by omega)]
   have : (xs.take uo ++ dgs un u ++ xs.drop (uo + un))[i]'(by simpa using h2) = 48 + u / 10 ^ (un - 1 - (i - uo)) % 10 := by
    rw [List.getElem_append_left (by simp [oP]; omega), List.getElem_append_right (by simp; omega)]
    simp [dgs, Nat.min_eq_left (show uo ≤ xs.length by omega)]
   rw [this]
   have hm := Nat.mod_lt (u / 10 ^ (un - 1 - (i - uo))) (show 0 < 10 by decide)
   simp only [Lib.dg, UInt8.toNat_ofNat']
   rw [Nat.mod_eq_of_lt (by omega)]
  ·rw [if_neg hr, hci]
   rcases Nat.lt_or_ge i uo with h | h
   ·rw [List.getElem_append_left (by simp [oP]; omega), List.getElem_append_left (by simp; omega)]
    simp
   ·rw [List.getElem_append_right (by simp [oP]; omega)]
    simp only [List.length_append, List.length_take, oP, List.getElem_drop]
    congr 3
    omega
open Go.Sort in
theorem wZ : GOK Tryz.prog GL 165 kM := by
 rintro c w ⟨uo, un, u, xs, r⟩ vs hpre ⟨good, glob, len, val⟩
 have hpre : dW uo un u xs = some r := hpre
 unfold dW at hpre
 obtain ⟨h1, hpre⟩ := aH hpre
 obtain ⟨h2, hpre⟩ := aH hpre
 have hr : xs.take uo ++ dgs un u ++ xs.drop (uo + un) = r := Option.some.inj hpre
 obtain ⟨b, cells, e, hhd, hheap, hsz, hcl⟩ := good.objs 0 _ rfl
 obtain ⟨hl, hcs, hx⟩ := aSv hcl
 have hl : xs.length = 24 := hl
 have hcs : cells.toList = xs.map (fun (x : Nat) => Value.int .u8 (x : Int)) := hcs
 have hx : ∀ x ∈ xs, x < 256 := hx
 have hsz : cells.size = 24 := hsz
 have hv0 := val 0 (by show 0 < 2; decide) (by rw [len]; show 0 < 2; decide)
 have hv1 := val 1 (by show 1 < 2; decide) (by rw [len]; show 1 < 2; decide)
 obtain ⟨_, hn, b', cap, hb', e0⟩ := aFH (i := 0) (s := 1) (off := uo) (n := un) hv0
 obtain ⟨e1, _, hu⟩ := aAx (k := .u64) (n := u) hv1
 rw [hhd] at hb'
 simp only [aX, Option.some.injEq] at hb'
 subst hb'
 have hvs : vs = #[.slice (some ⟨b, uo * 1, none⟩) un cap, .int .u64 (u : Int)] := by
  have hlen : vs.toList.length = 2 := len
  rw [← Array.toList_inj]
  apply List.ext_getElem
  ·exact hlen
  ·intro i a1 a2
   match i, a2 with
   | 0, _ => exact e0
   | 1, _ => exact e1
 have hd : (((xs.drop uo).take un).map UInt8.ofNat).toArray.size = un := by simp; omega
 have hcell : ∀ j (hj : j < xs.length), w.cell? ⟨b, j, none⟩ = some (.int .u8 (xs[j] : Int)) := fun j hj => by
  have hj2 : j < cells.size := by omega
  have : cells[j] = Value.int .u8 (xs[j] : Int) := by
   have : cells.toList[j]'(by rw [Array.length_toList]; omega) = Value.int .u8 (xs[j] : Int) := by simp [hcs]
   simpa using this
  simp [World.cell?, hheap, hj2, this]
 have hH : Holds (fun (b : UInt8) => Value.int .u8 (b.toNat : Int)) w b uo (((xs.drop uo).take un).map UInt8.ofNat).toArray := fun j hj => by
  rw [hd] at hj
  have hj2 : uo + j < xs.length := by omega
  refine ⟨?_, ?_⟩
  ·rw [hcell _ hj2]
   have hlt := hx xs[uo + j] (List.getElem_mem hj2)
   have : (((xs.drop uo).take un).map UInt8.ofNat).toArray[j]! = UInt8.ofNat xs[uo + j] := by
    rw [getElem!_pos _ j (by rw [hd]; exact hj)]
    simp
   rw [this]
   simp only [UInt8.toNat_ofNat']
   rw [Nat.mod_eq_of_lt (by omega)]
  ·simp [World.frozen?, hheap]
 have hB : eY .u64 = 18446744073709551616 := by decide +kernel
 have key := Any.internal_strconv_formatBase10 Tryz.lays285 b uo cap u _ w hH (by rw [hd]; exact h2) (by omega) (by rw [hd]; omega)
 rw [hd] at key
 rw [hvs, Nat.mul_one]
 refine Calls.mono (f := 165) key ?_
 rintro e w' ⟨rfl, n, v', dk, rfl, hF⟩
 refine ⟨c, .tuple #[], rfl, ?_, ?_⟩
 ·have hbl : b < w.heap.size := (Array.getElem?_eq_some_iff.1 hheap).1
  have hpc := aPi (uo := uo) (xs := xs) (u := u) (dk := dk) (un := un) hcs (by omega) hF
  have hheap' : ((putRow (fun (b : UInt8) => Value.int .u8 (b.toNat : Int)) w b uo dk).drewN n).heap[b]? = some (.cells (putCells (fun (b : UInt8) => Value.int .u8 (b.toNat : Int)) uo dk cells) e (0, 0)) := by
   show (w.heap.modify b (onCells _))[b]? = _
   rw [Array.getElem?_modify, if_pos rfl, hheap]
   rfl
  have hoth : ∀ k, k ≠ b → ((putRow (fun (b : UInt8) => Value.int .u8 (b.toNat : Int)) w b uo dk).drewN n).heap[k]? = w.heap[k]? := fun k hk => by
   show (w.heap.modify b (onCells _))[k]? = _
   rw [Array.getElem?_modify, if_neg (fun h => hk h.symm)]
  have hsize : ((putRow (fun (b : UInt8) => Value.int .u8 (b.toNat : Int)) w b uo dk).drewN n).heap.size = w.heap.size := by
   show (w.heap.modify b (onCells _)).size = _
   simp
  have hnS : ¬ c.S b := (good.own 0 _ b rfl (by show aX (c.hd 0) = some b; rw [hhd]; rfl)).2.2
  refine ⟨good.n, ⟨rfl, rfl, rfl, Nat.le_of_eq hsize.symm, fun k hk hM => hoth k (fun hkb => hM ?_)⟩, fun k hk => by rw [hsize]; exact good.sfin k hk, good.src, fun i o hio => ?_, fun i o k hio hk => ?_, fun i j oi oj k hi hj hbi hbj => ?_, good.root⟩
  ·subst hkb
   exact ⟨0, _, rfl, by show aX (c.hd 0) = some k; rw [hhd]; rfl⟩
  ·match i, hio with
   | 0, hio =>
    cases hio
    refine ⟨b, _, e, hhd, hheap', ?_, ?_⟩
    ·simp [putCells, hsz]
    ·show aV _ c.S (.arr 24 (.u .u8)) r _
     rw [hpc, hr]
     have hrl : r.length = 24 := by rw [← hr]; simp [oP]; omega
     refine aUg hrl (fun x hxr => ?_)
     rw [← hr] at hxr
     rcases List.mem_append.1 hxr with hxr | hxr
     ·rcases List.mem_append.1 hxr with hxr | hxr
      ·exact hx x (List.mem_of_mem_take hxr)
      ·obtain ⟨t, _, rfl⟩ := List.mem_map.1 hxr
       have := Nat.mod_lt (u / 10 ^ (un - 1 - t)) (show 0 < 10 by decide)
       omega
     ·exact hx x (List.mem_of_mem_drop hxr)
   | i + 1, hio => cases hio
  ·match i, hio with
   | 0, hio =>
    cases hio
    have := good.own 0 _ k rfl hk
    rw [hsize]; exact this
   | i + 1, hio => cases hio
  ·match i, j, hi, hj with
   | 0, 0, _, _ => rfl
   | 0, j + 1, _, hj => cases hj
   | i + 1, _, hi, _ => cases hi
 ·exact ⟨[], rfl, rfl, fun i h1 _ => by cases h1⟩
end Nu
end Go.Proofs
namespace Go.Proofs
open Go.Vc
set_option maxRecDepth 20000
namespace Nu
def oV : ByteArray := ⟨⟨48 :: 48 :: 48 :: 48 :: 48 :: 48 :: 48 :: 48 :: 48 :: 48 :: 48 :: 48 :: 48 :: 48 :: 48 :: 48 :: 48 :: 48 :: 48 :: 48 :: 48 :: 48 :: 48 :: 48 :: 48 :: 48 :: 48 :: 48 :: 48 :: 48 :: 48 :: 48 :: 48 :: 48 :: 48 :: 48 :: 48 :: 48 :: 48 :: 48 :: 48 :: 48 :: 48 :: 48 :: 48 :: 48 :: 48 :: 48 :: 48 :: 48 :: 48 :: 48 :: 48 :: 48 :: 48 :: 48 :: 48 :: 48 :: 48 :: 48 :: 48 :: 48 :: 48 :: 48 :: []⟩⟩
theorem aIA : (⟨⟨48 :: 48 :: 48 :: 48 :: 48 :: 48 :: 48 :: 48 :: 48 :: 48 :: 48 :: 48 :: 48 :: 48 :: 48 :: 48 :: 48 :: 48 :: 48 :: 48 :: 48 :: 48 :: 48 :: 48 :: 48 :: 48 :: 48 :: 48 :: 48 :: 48 :: 48 :: 48 :: 48 :: 48 :: 48 :: 48 :: 48 :: 48 :: 48 :: 48 :: 48 :: 48 :: 48 :: 48 :: 48 :: 48 :: 48 :: 48 :: 48 :: 48 :: 48 :: 48 :: 48 :: 48 :: 48 :: 48 :: 48 :: 48 :: 48 :: 48 :: 48 :: 48 :: 48 :: 48 :: []⟩⟩ : ByteArray) = oV := rfl
attribute [go_sem] aIA
def rJ : ByteArray := ⟨⟨45 :: 45 :: 45 :: 45 :: 45 :: 45 :: 45 :: 45 :: 45 :: 45 :: 45 :: 45 :: 45 :: 45 :: 45 :: 45 :: 45 :: 45 :: 45 :: 45 :: 45 :: 45 :: 45 :: 45 :: 45 :: 45 :: 45 :: 45 :: 45 :: 45 :: 45 :: 45 :: 45 :: 45 :: 45 :: 45 :: 45 :: 45 :: 45 :: 45 :: 45 :: 45 :: 45 :: 45 :: 45 :: 45 :: 45 :: 45 :: 45 :: 45 :: 45 :: 45 :: 45 :: 45 :: 45 :: 45 :: 45 :: 45 :: 45 :: 45 :: 45 :: 45 :: 45 :: 45 :: 45 :: 45 :: 45 :: 45 :: 45 :: 45 :: 45 :: 45 :: 45 :: 45 :: 45 :: 45 :: 45 :: 45 :: 45 :: 45 :: 45 :: 45 :: 45 :: 45 :: 45 :: 45 :: 45 :: 45 :: 45 :: 45 :: 45 :: 45 :: 45 :: 45 :: 45 :: 45 :: 45 :: 45 :: 45 :: 45 :: 45 :: 45 :: 45 :: 45 :: 45 :: 45 :: 45 :: 45 :: 45 :: 45 :: 45 :: 45 :: 45 :: 45 :: 45 :: 45 :: 45 :: 45 :: 45 :: 45 :: 45 :: 45 :: 45 :: 45 :: 45 :: 45 :: 45 :: 45 :: []⟩⟩
theorem aIB : (⟨⟨45 :: 45 :: 45 :: 45 :: 45 :: 45 :: 45 :: 45 :: 45 :: 45 :: 45 :: 45 :: 45 :: 45 :: 45 :: 45 :: 45 :: 45 :: 45 :: 45 :: 45 :: 45 :: 45 :: 45 :: 45 :: 45 :: 45 :: 45 :: 45 :: 45 :: 45 :: 45 :: 45 :: 45 :: 45 :: 45 :: 45 :: 45 :: 45 :: 45 :: 45 :: 45 :: 45 :: 45 :: 45 :: 45 :: 45 :: 45 :: 45 :: 45 :: 45 :: 45 :: 45 :: 45 :: 45 :: 45 :: 45 :: 45 :: 45 :: 45 :: 45 :: 45 :: 45 :: 45 :: 45 :: 45 :: 45 :: 45 :: 45 :: 45 :: 45 :: 45 :: 45 :: 45 :: 45 :: 45 :: 45 :: 45 :: 45 :: 45 :: 45 :: 45 :: 45 :: 45 :: 45 :: 45 :: 45 :: 45 :: 45 :: 45 :: 45 :: 45 :: 45 :: 45 :: 45 :: 45 :: 45 :: 45 :: 45 :: 45 :: 45 :: 45 :: 45 :: 45 :: 45 :: 45 :: 45 :: 45 :: 45 :: 45 :: 45 :: 45 :: 45 :: 45 :: 45 :: 45 :: 45 :: 45 :: 45 :: 45 :: 45 :: 45 :: 45 :: 45 :: 45 :: 45 :: 45 :: 45 :: []⟩⟩ : ByteArray) = rJ := rfl
attribute [go_sem] aIB
def vD : ByteArray := ⟨⟨61 :: 61 :: 61 :: 61 :: 61 :: 61 :: 61 :: 61 :: 61 :: 61 :: 61 :: 61 :: 61 :: 61 :: 61 :: 61 :: 61 :: 61 :: 61 :: 61 :: 61 :: 61 :: 61 :: 61 :: 61 :: 61 :: 61 :: 61 :: 61 :: 61 :: 61 :: 61 :: 61 :: 61 :: 61 :: 61 :: 61 :: 61 :: 61 :: 61 :: 61 :: 61 :: 61 :: 61 :: 61 :: 61 :: 61 :: 61 :: 61 :: 61 :: 61 :: 61 :: 61 :: 61 :: 61 :: 61 :: 61 :: 61 :: 61 :: 61 :: 61 :: 61 :: 61 :: 61 :: 61 :: 61 :: 61 :: 61 :: 61 :: 61 :: 61 :: 61 :: 61 :: 61 :: 61 :: 61 :: 61 :: 61 :: 61 :: 61 :: 61 :: 61 :: 61 :: 61 :: 61 :: 61 :: 61 :: 61 :: 61 :: 61 :: 61 :: 61 :: 61 :: 61 :: 61 :: 61 :: 61 :: 61 :: 61 :: 61 :: 61 :: 61 :: 61 :: 61 :: 61 :: 61 :: 61 :: 61 :: 61 :: 61 :: 61 :: 61 :: 61 :: 61 :: 61 :: 61 :: 61 :: 61 :: 61 :: 61 :: 61 :: 61 :: 61 :: 61 :: 61 :: 61 :: 61 :: 61 :: []⟩⟩
theorem aIC : (⟨⟨61 :: 61 :: 61 :: 61 :: 61 :: 61 :: 61 :: 61 :: 61 :: 61 :: 61 :: 61 :: 61 :: 61 :: 61 :: 61 :: 61 :: 61 :: 61 :: 61 :: 61 :: 61 :: 61 :: 61 :: 61 :: 61 :: 61 :: 61 :: 61 :: 61 :: 61 :: 61 :: 61 :: 61 :: 61 :: 61 :: 61 :: 61 :: 61 :: 61 :: 61 :: 61 :: 61 :: 61 :: 61 :: 61 :: 61 :: 61 :: 61 :: 61 :: 61 :: 61 :: 61 :: 61 :: 61 :: 61 :: 61 :: 61 :: 61 :: 61 :: 61 :: 61 :: 61 :: 61 :: 61 :: 61 :: 61 :: 61 :: 61 :: 61 :: 61 :: 61 :: 61 :: 61 :: 61 :: 61 :: 61 :: 61 :: 61 :: 61 :: 61 :: 61 :: 61 :: 61 :: 61 :: 61 :: 61 :: 61 :: 61 :: 61 :: 61 :: 61 :: 61 :: 61 :: 61 :: 61 :: 61 :: 61 :: 61 :: 61 :: 61 :: 61 :: 61 :: 61 :: 61 :: 61 :: 61 :: 61 :: 61 :: 61 :: 61 :: 61 :: 61 :: 61 :: 61 :: 61 :: 61 :: 61 :: 61 :: 61 :: 61 :: 61 :: 61 :: 61 :: 61 :: 61 :: 61 :: 61 :: []⟩⟩ : ByteArray) = vD := rfl
attribute [go_sem] aIC
def vE : ByteArray := ⟨⟨9 :: 9 :: 9 :: 9 :: 9 :: 9 :: 9 :: 9 :: 9 :: 9 :: 9 :: 9 :: 9 :: 9 :: 9 :: 9 :: 9 :: 9 :: 9 :: 9 :: 9 :: 9 :: 9 :: 9 :: 9 :: 9 :: 9 :: 9 :: 9 :: 9 :: 9 :: 9 :: 9 :: 9 :: 9 :: 9 :: 9 :: 9 :: 9 :: 9 :: 9 :: 9 :: 9 :: 9 :: 9 :: 9 :: 9 :: 9 :: 9 :: 9 :: 9 :: 9 :: 9 :: 9 :: 9 :: 9 :: 9 :: 9 :: 9 :: 9 :: 9 :: 9 :: 9 :: 9 :: []⟩⟩
theorem aID : (⟨⟨9 :: 9 :: 9 :: 9 :: 9 :: 9 :: 9 :: 9 :: 9 :: 9 :: 9 :: 9 :: 9 :: 9 :: 9 :: 9 :: 9 :: 9 :: 9 :: 9 :: 9 :: 9 :: 9 :: 9 :: 9 :: 9 :: 9 :: 9 :: 9 :: 9 :: 9 :: 9 :: 9 :: 9 :: 9 :: 9 :: 9 :: 9 :: 9 :: 9 :: 9 :: 9 :: 9 :: 9 :: 9 :: 9 :: 9 :: 9 :: 9 :: 9 :: 9 :: 9 :: 9 :: 9 :: 9 :: 9 :: 9 :: 9 :: 9 :: 9 :: 9 :: 9 :: 9 :: 9 :: []⟩⟩ : ByteArray) = vE := rfl
attribute [go_sem] aID
def vF : ByteArray := ⟨⟨48 :: 48 :: 48 :: 49 :: 48 :: 50 :: 48 :: 51 :: 48 :: 52 :: 48 :: 53 :: 48 :: 54 :: 48 :: 55 :: 48 :: 56 :: 48 :: 57 :: 49 :: 48 :: 49 :: 49 :: 49 :: 50 :: 49 :: 51 :: 49 :: 52 :: 49 :: 53 :: 49 :: 54 :: 49 :: 55 :: 49 :: 56 :: 49 :: 57 :: 50 :: 48 :: 50 :: 49 :: 50 :: 50 :: 50 :: 51 :: 50 :: 52 :: 50 :: 53 :: 50 :: 54 :: 50 :: 55 :: 50 :: 56 :: 50 :: 57 :: 51 :: 48 :: 51 :: 49 :: 51 :: 50 :: 51 :: 51 :: 51 :: 52 :: 51 :: 53 :: 51 :: 54 :: 51 :: 55 :: 51 :: 56 :: 51 :: 57 :: 52 :: 48 :: 52 :: 49 :: 52 :: 50 :: 52 :: 51 :: 52 :: 52 :: 52 :: 53 :: 52 :: 54 :: 52 :: 55 :: 52 :: 56 :: 52 :: 57 :: 53 :: 48 :: 53 :: 49 :: 53 :: 50 :: 53 :: 51 :: 53 :: 52 :: 53 :: 53 :: 53 :: 54 :: 53 :: 55 :: 53 :: 56 :: 53 :: 57 :: 54 :: 48 :: 54 :: 49 :: 54 :: 50 :: 54 :: 51 :: 54 :: 52 :: 54 :: 53 :: 54 :: 54 :: 54 :: 55 :: 54 :: 56 :: 54 :: 57 :: 55 :: 48 :: 55 :: 49 :: 55 :: 50 :: 55 :: 51 :: 55 :: 52 :: 55 :: 53 :: 55 :: 54 :: 55 :: 55 :: 55 :: 56 :: 55 :: 57 :: 56 :: 48 :: 56 :: 49 :: 56 :: 50 :: 56 :: 51 :: 56 :: 52 :: 56 :: 53 :: 56 :: 54 :: 56 :: 55 :: 56 :: 56 :: 56 :: 57 :: 57 :: 48 :: 57 :: 49 :: 57 :: 50 :: 57 :: 51 :: 57 :: 52 :: 57 :: 53 :: 57 :: 54 :: 57 :: 55 :: 57 :: 56 :: 57 :: 57 :: []⟩⟩
theorem aIE : (⟨⟨48 :: 48 :: 48 :: 49 :: 48 :: 50 :: 48 :: 51 :: 48 :: 52 :: 48 :: 53 :: 48 :: 54 :: 48 :: 55 :: 48 :: 56 :: 48 :: 57 :: 49 :: 48 :: 49 :: 49 :: 49 :: 50 :: 49 :: 51 :: 49 :: 52 :: 49 :: 53 :: 49 :: 54 :: 49 :: 55 :: 49 :: 56 :: 49 :: 57 :: 50 :: 48 :: 50 :: 49 :: 50 :: 50 :: 50 :: 51 :: 50 :: 52 :: 50 :: 53 :: 50 :: 54 :: 50 :: 55 :: 50 :: 56 :: 50 :: 57 :: 51 :: 48 :: 51 :: 49 :: 51 :: 50 :: 51 :: 51 :: 51 :: 52 :: 51 :: 53 :: 51 :: 54 :: 51 :: 55 :: 51 :: 56 :: 51 :: 57 :: 52 :: 48 :: 52 :: 49 :: 52 :: 50 :: 52 :: 51 :: 52 :: 52 :: 52 :: 53 :: 52 :: 54 :: 52 :: 55 :: 52 :: 56 :: 52 :: 57 :: 53 :: 48 :: 53 :: 49 :: 53 :: 50 :: 53 :: 51 :: 53 :: 52 :: 53 :: 53 :: 53 :: 54 :: 53 :: 55 :: 53 :: 56 :: 53 :: 57 :: 54 :: 48 :: 54 :: 49 :: 54 :: 50 :: 54 :: 51 :: 54 :: 52 :: 54 :: 53 :: 54 :: 54 :: 54 :: 55 :: 54 :: 56 :: 54 :: 57 :: 55 :: 48 :: 55 :: 49 :: 55 :: 50 :: 55 :: 51 :: 55 :: 52 :: 55 :: 53 :: 55 :: 54 :: 55 :: 55 :: 55 :: 56 :: 55 :: 57 :: 56 :: 48 :: 56 :: 49 :: 56 :: 50 :: 56 :: 51 :: 56 :: 52 :: 56 :: 53 :: 56 :: 54 :: 56 :: 55 :: 56 :: 56 :: 56 :: 57 :: 57 :: 48 :: 57 :: 49 :: 57 :: 50 :: 57 :: 51 :: 57 :: 52 :: 57 :: 53 :: 57 :: 54 :: 57 :: 55 :: 57 :: 56 :: 57 :: 57 :: []⟩⟩ : ByteArray) = vF := rfl
attribute [go_sem] aIE
def vG : ByteArray := ⟨⟨48 :: 49 :: 50 :: 51 :: 52 :: 53 :: 54 :: 55 :: 56 :: 57 :: 97 :: 98 :: 99 :: 100 :: 101 :: 102 :: 103 :: 104 :: 105 :: 106 :: 107 :: 108 :: 109 :: 110 :: 111 :: 112 :: 113 :: 114 :: 115 :: 116 :: 117 :: 118 :: 119 :: 120 :: 121 :: 122 :: []⟩⟩
theorem aIF : (⟨⟨48 :: 49 :: 50 :: 51 :: 52 :: 53 :: 54 :: 55 :: 56 :: 57 :: 97 :: 98 :: 99 :: 100 :: 101 :: 102 :: 103 :: 104 :: 105 :: 106 :: 107 :: 108 :: 109 :: 110 :: 111 :: 112 :: 113 :: 114 :: 115 :: 116 :: 117 :: 118 :: 119 :: 120 :: 121 :: 122 :: []⟩⟩ : ByteArray) = vG := rfl
attribute [go_sem] aIF
def rK : ByteArray := ⟨⟨32 :: 32 :: 32 :: 32 :: 32 :: 32 :: 32 :: 32 :: 32 :: 32 :: 32 :: 32 :: 32 :: 32 :: 32 :: 32 :: 32 :: 32 :: 32 :: 32 :: 32 :: 32 :: 32 :: 32 :: 32 :: 32 :: 32 :: 32 :: 32 :: 32 :: 32 :: 32 :: 32 :: 32 :: 32 :: 32 :: 32 :: 32 :: 32 :: 32 :: 32 :: 32 :: 32 :: 32 :: 32 :: 32 :: 32 :: 32 :: 32 :: 32 :: 32 :: 32 :: 32 :: 32 :: 32 :: 32 :: 32 :: 32 :: 32 :: 32 :: 32 :: 32 :: 32 :: 32 :: 32 :: 32 :: 32 :: 32 :: 32 :: 32 :: 32 :: 32 :: 32 :: 32 :: 32 :: 32 :: 32 :: 32 :: 32 :: 32 :: 32 :: 32 :: 32 :: 32 :: 32 :: 32 :: 32 :: 32 :: 32 :: 32 :: 32 :: 32 :: 32 :: 32 :: 32 :: 32 :: 32 :: 32 :: 32 :: 32 :: 32 :: 32 :: 32 :: 32 :: 32 :: 32 :: 32 :: 32 :: 32 :: 32 :: 32 :: 32 :: 32 :: 32 :: 32 :: 32 :: 32 :: 32 :: 32 :: 32 :: 32 :: 32 :: 32 :: 32 :: 32 :: 32 :: 32 :: 32 :: []⟩⟩
theorem aIG : (⟨⟨32 :: 32 :: 32 :: 32 :: 32 :: 32 :: 32 :: 32 :: 32 :: 32 :: 32 :: 32 :: 32 :: 32 :: 32 :: 32 :: 32 :: 32 :: 32 :: 32 :: 32 :: 32 :: 32 :: 32 :: 32 :: 32 :: 32 :: 32 :: 32 :: 32 :: 32 :: 32 :: 32 :: 32 :: 32 :: 32 :: 32 :: 32 :: 32 :: 32 :: 32 :: 32 :: 32 :: 32 :: 32 :: 32 :: 32 :: 32 :: 32 :: 32 :: 32 :: 32 :: 32 :: 32 :: 32 :: 32 :: 32 :: 32 :: 32 :: 32 :: 32 :: 32 :: 32 :: 32 :: 32 :: 32 :: 32 :: 32 :: 32 :: 32 :: 32 :: 32 :: 32 :: 32 :: 32 :: 32 :: 32 :: 32 :: 32 :: 32 :: 32 :: 32 :: 32 :: 32 :: 32 :: 32 :: 32 :: 32 :: 32 :: 32 :: 32 :: 32 :: 32 :: 32 :: 32 :: 32 :: 32 :: 32 :: 32 :: 32 :: 32 :: 32 :: 32 :: 32 :: 32 :: 32 :: 32 :: 32 :: 32 :: 32 :: 32 :: 32 :: 32 :: 32 :: 32 :: 32 :: 32 :: 32 :: 32 :: 32 :: 32 :: 32 :: 32 :: 32 :: 32 :: 32 :: 32 :: 32 :: []⟩⟩ : ByteArray) = rK := rfl
attribute [go_sem] aIG
noncomputable def dZ (b_0 : Bool) : Option Int :=
 if b_0 = true then some (1 : Int) else some (0 : Int)
def qP : PlR := ⟨[(0, .A [0]), (1, .A [3]), (2, .A [2]), (3, .A [2])], []⟩
def sK : Ty := .pair .bool .unit
noncomputable def jP : aL := mSpec sK (.one (.i .i64)) (fun x => dZ x.1)
noncomputable def aBc : List (FuncId × aL) := []
theorem aBd : bW Tryz.prog GL aBc := .nil
attribute [go_sem] sK qP
set_option maxHeartbeats 4000000 in
theorem aAq : FOK Tryz.prog GL 174 jP := by
 refine cG (bI aBd) mix Tryz.func174 rfl (by kernel_rfl) (by decide) qP fun w0 S x Θ hw h hF => ?_
 obtain ⟨(b_0 : Bool), u⟩ := x
 simp only [cF, go_sem]
 replace h : sat (dZ b_0) _ := h
 unfold dZ at h
 refine aQe h (fun hc h => ?_) fun hc h => ?_
 ·exact aS hF [.tmp 2] rfl rfl rfl (aC h) (by simp only [bA, go_sem])
 ·exact aS hF [.tmp 2] rfl rfl rfl (aC h) (by simp only [bA, go_sem])
attribute [go_sem] jP
noncomputable def bT (x_0 : Int) : Option Int :=
 ck (I64 (x_0 * (78913 : Int))) (some (Int.fdiv (x_0 * (78913 : Int)) (2 ^ (18 : Nat))))
def qQ : PlR := ⟨[(0, .A [0]), (1, .A [2])], []⟩
def sL : Ty := .pair (.i .i64) .unit
noncomputable def jQ : aL := mSpec sL (.one (.i .i64)) (fun x => bT x.1)
noncomputable def aBe : List (FuncId × aL) := []
theorem aBf : bW Tryz.prog GL aBe := .nil
attribute [go_sem] sL qQ
set_option maxHeartbeats 4000000 in
theorem aAr : FOK Tryz.prog GL 173 jQ := by
 refine cG (bI aBf) mix Tryz.func173 rfl (by kernel_rfl) (by decide) qQ fun w0 S x Θ hw h hF => ?_
 obtain ⟨(x_0 : Int), u⟩ := x
 simp only [cF, go_sem]
 replace h : sat (bT x_0) _ := h
 unfold bT at h
 refine aM h fun g0 h => ?_
 exact aS hF [.tmp 2] rfl rfl rfl (aC h) (by simp only [bA, go_sem])
attribute [go_sem] jQ
noncomputable def bP (d_0 : Nat) : Option Int :=
 ck (((bT (cQ d_0)).isSome = true)) (ck (0 ≤ ((bT (cQ d_0)).getD (0 : Int)) ∧ ((bT (cQ d_0)).getD (0 : Int)) < (20 : Int)) (ck (((dZ (decide ((p10.getD (((bT (cQ d_0)).getD (0 : Int)).toNat) (0 : Nat)) ≤ d_0))).isSome = true)) (ck (I64 (((bT (cQ d_0)).getD (0 : Int)) + ((dZ (decide ((p10.getD (((bT (cQ d_0)).getD (0 : Int)).toNat) (0 : Nat)) ≤ d_0))).getD (0 : Int)))) (some (((bT (cQ d_0)).getD (0 : Int)) + ((dZ (decide ((p10.getD (((bT (cQ d_0)).getD (0 : Int)).toNat) (0 : Nat)) ≤ d_0))).getD (0 : Int)))))))
def qR : PlR := ⟨[(0, .A [0]), (1, .A [0, 3]), (2, .A [2])], []⟩
def sM : Ty := .pair (.u .u64) .unit
noncomputable def jR : aL := mSpec sM (.one (.i .i64)) (fun x => bP x.1)
noncomputable def kD : List (FuncId × aL) := [(158, mE), (173, jQ), (174, jP)]
theorem aBg : bW Tryz.prog GL kD := .cons aBG (by kernel_rfl) (.cons aAr (by kernel_rfl) (.cons aAq (by kernel_rfl) (.nil)))
theorem xA : gam kD 158 = some mE := rfl
theorem xB : gam kD 173 = some jQ := rfl
theorem xC : gam kD 174 = some jP := rfl
attribute [go_sem] sM qR xA xB xC
set_option maxHeartbeats 4000000 in
theorem aAs : FOK Tryz.prog GL 164 jR := by
 refine cG (bI aBg) mix Tryz.func164 rfl (by kernel_rfl) (by decide) qR fun w0 S x Θ hw h hF => ?_
 obtain ⟨(d_0 : Nat), u⟩ := x
 simp only [cF, go_sem]
 replace h : sat (bP d_0) _ := h
 unfold bP at h
 refine aM h fun g0 h => ?_
 refine aM h fun g0 h => aM h fun g1 h => aM h fun g2 h => ?_
 exact aS hF [.tmp 2] rfl rfl rfl (aC h) (by simp only [bA, go_sem])
attribute [go_sem] jR
noncomputable def gA (i_0 : Int) : Option (List Nat) :=
 if i_0 < (10 : Int) then ck (I64 (i_0 + (1 : Int))) (ck (0 ≤ i_0 ∧ i_0 ≤ (i_0 + (1 : Int)) ∧ (i_0 + (1 : Int)) ≤ ((((aN vG).length) : Nat) : Int)) (some (List.drop (i_0.toNat) (List.take ((i_0 + (1 : Int)).toNat) (aN vG))))) else ck (I64 (i_0 * (2 : Int))) (ck (I64 (i_0 * (2 : Int))) (ck (I64 ((i_0 * (2 : Int)) + (2 : Int))) (ck (0 ≤ (i_0 * (2 : Int)) ∧ (i_0 * (2 : Int)) ≤ ((i_0 * (2 : Int)) + (2 : Int)) ∧ ((i_0 * (2 : Int)) + (2 : Int)) ≤ ((((aN vF).length) : Nat) : Int)) (some (List.drop ((i_0 * (2 : Int)).toNat) (List.take (((i_0 * (2 : Int)) + (2 : Int)).toNat) (aN vF)))))))
def wG : PlR := ⟨[(0, .A [0]), (1, .A [0, 4]), (2, .A [2]), (3, .A [2])], []⟩
def yC : Ty := .pair (.i .i64) .unit
noncomputable def mS : aL := mSpec yC (.one .str) (fun x => gA x.1)
noncomputable def aD2 : List (FuncId × aL) := []
theorem aD3 : bW Tryz.prog GL aD2 := .nil
attribute [go_sem] yC wG
set_option maxHeartbeats 4000000 in
theorem aDm : FOK Tryz.prog GL 163 mS := by
 refine cG (bI aD3) mix Tryz.func163 rfl (by kernel_rfl) (by decide) wG fun w0 S x Θ hw h hF => ?_
 obtain ⟨(i_0 : Int), u⟩ := x
 simp only [cF, go_sem]
 replace h : sat (gA i_0) _ := h
 unfold gA at h
 refine gV h (fun hc h => ?_) fun hc h => ?_
 ·refine aM h fun g0 h => aM h fun g1 h => ?_
  exact aS hF [.tmp 2] rfl rfl rfl (aC h) (by simp only [bA, go_sem])
 ·refine aM h fun g0 h => aM h fun g1 h => aM h fun g2 h => aM h fun g3 h => ?_
  exact aS hF [.tmp 2] rfl rfl rfl (aC h) (by simp only [bA, go_sem])
attribute [go_sem] mS
noncomputable def eJ (i_0 : Nat) (base_1 : Int) : Option (List Nat) :=
 if base_1 = (10 : Int) then if i_0 < (100 : Nat) then ck (((gA (IntKind.i64.wrap ((i_0 : Nat) : Int))).isSome = true)) (some ((gA (IntKind.i64.wrap ((i_0 : Nat) : Int))).getD ([] : List Nat))) else ck (((bP i_0).isSome = true)) (ck ((0 : Int) < ((bP i_0).getD (0 : Int)) ∧ ((bP i_0).getD (0 : Int)) ≤ 24) (((dW (0 : Nat) ((((bP i_0).getD (0 : Int)) - (0 : Int)).toNat) i_0 (List.replicate 24 (0 : Nat)))).bind (fun r_5 => ck ((0 : Int) < ((bP i_0).getD (0 : Int)) ∧ ((bP i_0).getD (0 : Int)) ≤ 24) (ck ((0 : Nat) + ((((bP i_0).getD (0 : Int)) - (0 : Int)).toNat) ≤ 24) (some (List.take ((((bP i_0).getD (0 : Int)) - (0 : Int)).toNat) (List.drop (0 : Nat) r_5))))))) else none
def jS : Ty := .pair (.u .u64) (.pair (.i .i64) .unit)
attribute [go_sem] jS
noncomputable def iO : aL := mSpec jS (.one .str) (fun x => eJ x.1 x.2.1)
noncomputable def jT : List (FuncId × aL) := [(163, mS), (164, jR)]
theorem qS : bW Tryz.prog GL jT := .cons aDm (by kernel_rfl) (.cons aAs (by kernel_rfl) (.nil))
theorem vJ : gam jT 163 = some mS := rfl
attribute [go_sem] vJ
theorem vK : gam jT 164 = some jR := rfl
attribute [go_sem] vK
set_option maxHeartbeats 4000000 in
theorem zZ : FOK Tryz.prog GL 160 iO := by
 refine rF (bI qS) Tryz.func160 rfl (by kernel_rfl) (by decide) fun w0 S x r hw h => ?_
 have hF : jB (fr Tryz.prog (EM jT) S w0 Tryz.f160.ntmps) := ⟨bI qS, mix⟩
 obtain ⟨(i_0 : Nat), (base_1 : Int), u⟩ := x
 simp only [jS, Ty.wf, mJ] at hw
 simp only [cF, jS]
 try dsimp only at h
 unfold eJ at h
 refine aD (aG hF [0, 1] ?_)
 simp only [go_sem]
 refine aF (aD (aD (aG hF [0, 1, 10] ?_)))
 simp only [go_sem]
 refine aF (bV rfl (fun hc => ?_) (fun hc => ?_))
 ·try simp only [go_sem] at hc
  have h := fR (by first | exact hc | omega | (simpa using hc) | (simp at hc ⊢; omega)) h
  refine aD (aD (aG hF [0, 12] ?_))
  simp only [go_sem]
  refine aF (bV rfl (fun hc => ?_) (fun hc => ?_))
  ·try simp only [go_sem] at hc
   have h := fR (by first | exact hc | omega | (simpa using hc) | (simp at hc ⊢; omega)) h
   refine aD (aG hF [4] ?_)
   simp only [go_sem]
   obtain ⟨g0, h⟩ := aH h
   repeat (refine ⟨by first | with_reducible assumption | omega | (intros; first | assumption | omega) | (simp only [go_sem] at *; first | assumption | omega) | decide, ?_⟩)
   obtain rfl := Option.some.inj h
   refine aF (cW (dI (dI (iL hF [.tmp 4] rfl rfl rfl ?_))))
   (try simp only [jD, bA, go_sem]) <;> first | rfl | (simp; done)
  ·try simp only [go_sem] at hc
   have h := fS (by first | exact hc | omega | (simpa using hc) | (simp at hc ⊢; omega)) h
   refine cJ (aF (aD (bO hF [0, 5] ?_)))
   simp only [go_sem]
   refine aF (aD (aG hF [0, 5, 6] ?_))
   simp only [go_sem]
   obtain ⟨g0, h⟩ := aH h
   repeat (refine ⟨by first | with_reducible assumption | omega | (intros; first | assumption | omega) | (simp only [go_sem] at *; first | assumption | omega) | decide, ?_⟩)
   obtain ⟨g0, h⟩ := aH h
   obtain ⟨r_5, he1, h⟩ := bind_some h
   try dsimp only at h
   refine aF (aD (aW hF (bY (l := [(165, ⟨kM, [0], ((0 : Nat), ((((bP i_0).getD (0 : Int)) - (0 : Int)).toNat), i_0, (List.replicate 24 (0 : Nat)), r_5)⟩)]) (.cons wZ (by kernel_rfl) (.nil))) [5, 6] [19] ?_))
   simp only [go_sem]
   repeat (refine ⟨by first | with_reducible assumption | omega | (intros; first | assumption | omega) | (simp only [go_sem] at *; first | assumption | omega) | decide, ?_⟩)
   obtain ⟨g0, h⟩ := aH h
   obtain ⟨g1, h⟩ := aH h
   refine aF (aD (aW hF (bY (l := []) (.nil)) [4] [23] ?_))
   simp only [go_sem]
   repeat (refine ⟨by first | with_reducible assumption | omega | (intros; first | assumption | omega) | (simp only [go_sem] at *; first | assumption | omega) | decide, ?_⟩)
   obtain rfl := Option.some.inj h
   refine aF (cW (dI (iL hF [.tmp 4] rfl rfl rfl ?_)))
   (try simp only [jD, bA, go_sem]) <;> first | rfl | (simp; done)
 ·try simp only [go_sem] at hc
  have h := fS (by first | exact hc | omega | (simpa using hc) | (simp at hc ⊢; omega)) h
  cases h
attribute [go_sem] iO
noncomputable def cY (i_0 : Nat) (base_1 : Int) : Option (List Nat) :=
 ck (((eJ i_0 base_1).isSome = true)) (some ((eJ i_0 base_1).getD ([] : List Nat)))
def qT : PlR := ⟨[(0, .A [0, 1]), (1, .A [4])], []⟩
def sN : Ty := .pair (.u .u64) (.pair (.i .i64) .unit)
noncomputable def jU : aL := mSpec sN (.one .str) (fun x => cY x.1 x.2.1)
noncomputable def sO : List (FuncId × aL) := [(160, iO)]
theorem aBh : bW Tryz.prog GL sO := .cons zZ (by kernel_rfl) (.nil)
theorem xD : gam sO 160 = some iO := rfl
attribute [go_sem] sN qT xD
set_option maxHeartbeats 4000000 in
theorem aAt : FOK Tryz.prog GL 132 jU := by
 refine cG (bI aBh) mix Tryz.func132 rfl (by kernel_rfl) (by decide) qT fun w0 S x Θ hw h hF => ?_
 obtain ⟨(i_0 : Nat), (base_1 : Int), u⟩ := x
 simp only [cF, go_sem]
 replace h : sat (cY i_0 base_1) _ := h
 unfold cY at h
 refine aM h fun g0 h => ?_
 exact aS hF [.tmp 4] rfl rfl rfl (aC h) (by simp only [bA, go_sem])
attribute [go_sem] jU
noncomputable def bK (x_0 : Nat) (y_1 : Nat) : Option (Nat × (Nat × Unit)) :=
 some (((bH x_0 y_1).1), (((bH x_0 y_1).2).1), ())
def aES : PlR := ⟨[(0, .A [0, 1]), (3, .A [8, 9]), (4, .A [4, 5])], []⟩
def aHD : Ty := .pair (.u .u64) (.pair (.u .u64) .unit)
noncomputable def wH : aL := mSpec aHD (.tup (.pair (.u .u64) (.pair (.u .u64) .unit))) (fun x => bK x.1 x.2.1)
noncomputable def aHE : List (FuncId × aL) := [(126, iT)]
theorem aNf : bW Tryz.prog GL aHE := .cons wU (by kernel_rfl) (.nil)
theorem aHF : gam aHE 126 = some iT := rfl
attribute [go_sem] aHD aES aHF
set_option maxHeartbeats 4000000 in
theorem aMb : FOK Tryz.prog GL 133 wH := by
 refine cG (bI aNf) mix Tryz.func133 rfl (by kernel_rfl) (by decide) aES fun w0 S x Θ hw h hF => ?_
 obtain ⟨(x_0 : Nat), (y_1 : Nat), u⟩ := x
 simp only [cF, go_sem]
 replace h : sat (bK x_0 y_1) _ := h
 unfold bK at h
 exact aS hF [.tmp 4, .tmp 5] rfl rfl rfl (aC h) (by simp only [bA, go_sem])
attribute [go_sem] wH
noncomputable def eM (s_0 : (List Nat)) (prefix_1 : (List Nat)) : Option Bool :=
 ck ((((((prefix_1.length) : Nat) : Int) ≤ (((s_0.length) : Nat) : Int)) → (0 ≤ (((prefix_1.length) : Nat) : Int) ∧ (((prefix_1.length) : Nat) : Int) ≤ (((s_0.length) : Nat) : Int)))) (some ((decide ((((prefix_1.length) : Nat) : Int) ≤ (((s_0.length) : Nat) : Int))) && (decide ((List.take (prefix_1.length) s_0) = prefix_1))))
def nZ : PlR := ⟨[(0, .A [0, 1]), (1, .A [4])], []⟩
def oK : Ty := .pair .str (.pair .str .unit)
noncomputable def fQ : aL := mSpec oK (.one .bool) (fun x => eM x.1 x.2.1)
noncomputable def xE : List (FuncId × aL) := []
theorem xF : bW Tryz.prog GL xE := .nil
attribute [go_sem] oK nZ
set_option maxHeartbeats 4000000 in
theorem vL : FOK Tryz.prog GL 162 fQ := by
 refine cG (bI xF) mix Tryz.func162 rfl (by kernel_rfl) (by decide) nZ fun w0 S x Θ hw h hF => ?_
 obtain ⟨(s_0 : (List Nat)), (prefix_1 : (List Nat)), u⟩ := x
 simp only [cF, go_sem]
 replace h : sat (eM s_0 prefix_1) _ := h
 unfold eM at h
 refine aM h fun g0 h => ?_
 exact aS hF [.tmp 4] rfl rfl rfl (aC h) (by simp only [bA, go_sem])
attribute [go_sem] fQ
noncomputable def bL (s_0 : (List Nat)) (prefix_1 : (List Nat)) : Option Bool :=
 ck (((eM s_0 prefix_1).isSome = true)) (some ((eM s_0 prefix_1).getD false))
def sP : PlR := ⟨[(0, .A [0, 1]), (1, .A [4])], []⟩
def sW : Ty := .pair .str (.pair .str .unit)
noncomputable def kE : aL := mSpec sW (.one .bool) (fun x => bL x.1 x.2.1)
noncomputable def sX : List (FuncId × aL) := [(162, fQ)]
theorem aBx : bW Tryz.prog GL sX := .cons vL (by kernel_rfl) (.nil)
theorem yD : gam sX 162 = some fQ := rfl
attribute [go_sem] sW sP yD
set_option maxHeartbeats 4000000 in
theorem aBi : FOK Tryz.prog GL 134 kE := by
 refine cG (bI aBx) mix Tryz.func134 rfl (by kernel_rfl) (by decide) sP fun w0 S x Θ hw h hF => ?_
 obtain ⟨(s_0 : (List Nat)), (prefix_1 : (List Nat)), u⟩ := x
 simp only [cF, go_sem]
 replace h : sat (bL s_0 prefix_1) _ := h
 unfold bL at h
 refine aM h fun g0 h => ?_
 exact aS hF [.tmp 4] rfl rfl rfl (aC h) (by simp only [bA, go_sem])
attribute [go_sem] kE
noncomputable def iI (chunkMax_4 : Int) : Option ((List Nat)) :=
 none
noncomputable def kU (s_0 : (List Nat)) (count_1 : Int) : Option ((List Nat)) :=
 if (8192 : Int) < (IntKind.i64.wrap ((((((bK (((((s_0.length) : Nat) : Int) % (18446744073709551616 : Int)).toNat) ((count_1 % (18446744073709551616 : Int)).toNat)).getD ((0 : Nat), (0 : Nat), ())).2).1) : Nat) : Int)) then ck ((((s_0.length) : Nat) : Int) ≠ 0) (ck (I64 (Int.tdiv (8192 : Int) (((s_0.length) : Nat) : Int))) (ck (I64 ((Int.tdiv (8192 : Int) (((s_0.length) : Nat) : Int)) * (((s_0.length) : Nat) : Int))) (if ((Int.tdiv (8192 : Int) (((s_0.length) : Nat) : Int)) * (((s_0.length) : Nat) : Int)) = (0 : Int) then iI (((s_0.length) : Nat) : Int) else iI ((Int.tdiv (8192 : Int) (((s_0.length) : Nat) : Int)) * (((s_0.length) : Nat) : Int))))) else iI (IntKind.i64.wrap ((((((bK (((((s_0.length) : Nat) : Int) % (18446744073709551616 : Int)).toNat) ((count_1 % (18446744073709551616 : Int)).toNat)).getD ((0 : Nat), (0 : Nat), ())).2).1) : Nat) : Int))
noncomputable def dM (s_0 : (List Nat)) (count_1 : Int) (x43_5 : Bool) : Option ((List Nat)) :=
 if x43_5 = true then ck ((((IntKind.i64.wrap ((((((bK (((((s_0.length) : Nat) : Int) % (18446744073709551616 : Int)).toNat) ((count_1 % (18446744073709551616 : Int)).toNat)).getD ((0 : Nat), (0 : Nat), ())).2).1) : Nat) : Int)) ≤ (128 : Int)) → (((bL (aN rK) s_0).isSome = true)))) (if ((IntKind.i64.wrap ((((((bK (((((s_0.length) : Nat) : Int) % (18446744073709551616 : Int)).toNat) ((count_1 % (18446744073709551616 : Int)).toNat)).getD ((0 : Nat), (0 : Nat), ())).2).1) : Nat) : Int)) ≤ (128 : Int)) ∧ (((bL (aN rK) s_0).getD false) = true) then ck (0 ≤ (IntKind.i64.wrap ((((((bK (((((s_0.length) : Nat) : Int) % (18446744073709551616 : Int)).toNat) ((count_1 % (18446744073709551616 : Int)).toNat)).getD ((0 : Nat), (0 : Nat), ())).2).1) : Nat) : Int)) ∧ (IntKind.i64.wrap ((((((bK (((((s_0.length) : Nat) : Int) % (18446744073709551616 : Int)).toNat) ((count_1 % (18446744073709551616 : Int)).toNat)).getD ((0 : Nat), (0 : Nat), ())).2).1) : Nat) : Int)) ≤ ((((aN rK).length) : Nat) : Int)) (some (List.take ((IntKind.i64.wrap ((((((bK (((((s_0.length) : Nat) : Int) % (18446744073709551616 : Int)).toNat) ((count_1 % (18446744073709551616 : Int)).toNat)).getD ((0 : Nat), (0 : Nat), ())).2).1) : Nat) : Int)).toNat) (aN rK))) else ck ((((IntKind.i64.wrap ((((((bK (((((s_0.length) : Nat) : Int) % (18446744073709551616 : Int)).toNat) ((count_1 % (18446744073709551616 : Int)).toNat)).getD ((0 : Nat), (0 : Nat), ())).2).1) : Nat) : Int)) ≤ (128 : Int)) → (((bL (aN rJ) s_0).isSome = true)))) (if ((IntKind.i64.wrap ((((((bK (((((s_0.length) : Nat) : Int) % (18446744073709551616 : Int)).toNat) ((count_1 % (18446744073709551616 : Int)).toNat)).getD ((0 : Nat), (0 : Nat), ())).2).1) : Nat) : Int)) ≤ (128 : Int)) ∧ (((bL (aN rJ) s_0).getD false) = true) then ck (0 ≤ (IntKind.i64.wrap ((((((bK (((((s_0.length) : Nat) : Int) % (18446744073709551616 : Int)).toNat) ((count_1 % (18446744073709551616 : Int)).toNat)).getD ((0 : Nat), (0 : Nat), ())).2).1) : Nat) : Int)) ∧ (IntKind.i64.wrap ((((((bK (((((s_0.length) : Nat) : Int) % (18446744073709551616 : Int)).toNat) ((count_1 % (18446744073709551616 : Int)).toNat)).getD ((0 : Nat), (0 : Nat), ())).2).1) : Nat) : Int)) ≤ ((((aN rJ).length) : Nat) : Int)) (some (List.take ((IntKind.i64.wrap ((((((bK (((((s_0.length) : Nat) : Int) % (18446744073709551616 : Int)).toNat) ((count_1 % (18446744073709551616 : Int)).toNat)).getD ((0 : Nat), (0 : Nat), ())).2).1) : Nat) : Int)).toNat) (aN rJ))) else ck ((((IntKind.i64.wrap ((((((bK (((((s_0.length) : Nat) : Int) % (18446744073709551616 : Int)).toNat) ((count_1 % (18446744073709551616 : Int)).toNat)).getD ((0 : Nat), (0 : Nat), ())).2).1) : Nat) : Int)) ≤ (64 : Int)) → (((bL (aN oV) s_0).isSome = true)))) (if ((IntKind.i64.wrap ((((((bK (((((s_0.length) : Nat) : Int) % (18446744073709551616 : Int)).toNat) ((count_1 % (18446744073709551616 : Int)).toNat)).getD ((0 : Nat), (0 : Nat), ())).2).1) : Nat) : Int)) ≤ (64 : Int)) ∧ (((bL (aN oV) s_0).getD false) = true) then ck (0 ≤ (IntKind.i64.wrap ((((((bK (((((s_0.length) : Nat) : Int) % (18446744073709551616 : Int)).toNat) ((count_1 % (18446744073709551616 : Int)).toNat)).getD ((0 : Nat), (0 : Nat), ())).2).1) : Nat) : Int)) ∧ (IntKind.i64.wrap ((((((bK (((((s_0.length) : Nat) : Int) % (18446744073709551616 : Int)).toNat) ((count_1 % (18446744073709551616 : Int)).toNat)).getD ((0 : Nat), (0 : Nat), ())).2).1) : Nat) : Int)) ≤ ((((aN oV).length) : Nat) : Int)) (some (List.take ((IntKind.i64.wrap ((((((bK (((((s_0.length) : Nat) : Int) % (18446744073709551616 : Int)).toNat) ((count_1 % (18446744073709551616 : Int)).toNat)).getD ((0 : Nat), (0 : Nat), ())).2).1) : Nat) : Int)).toNat) (aN oV))) else ck ((((IntKind.i64.wrap ((((((bK (((((s_0.length) : Nat) : Int) % (18446744073709551616 : Int)).toNat) ((count_1 % (18446744073709551616 : Int)).toNat)).getD ((0 : Nat), (0 : Nat), ())).2).1) : Nat) : Int)) ≤ (128 : Int)) → (((bL (aN vD) s_0).isSome = true)))) (if ((IntKind.i64.wrap ((((((bK (((((s_0.length) : Nat) : Int) % (18446744073709551616 : Int)).toNat) ((count_1 % (18446744073709551616 : Int)).toNat)).getD ((0 : Nat), (0 : Nat), ())).2).1) : Nat) : Int)) ≤ (128 : Int)) ∧ (((bL (aN vD) s_0).getD false) = true) then ck (0 ≤ (IntKind.i64.wrap ((((((bK (((((s_0.length) : Nat) : Int) % (18446744073709551616 : Int)).toNat) ((count_1 % (18446744073709551616 : Int)).toNat)).getD ((0 : Nat), (0 : Nat), ())).2).1) : Nat) : Int)) ∧ (IntKind.i64.wrap ((((((bK (((((s_0.length) : Nat) : Int) % (18446744073709551616 : Int)).toNat) ((count_1 % (18446744073709551616 : Int)).toNat)).getD ((0 : Nat), (0 : Nat), ())).2).1) : Nat) : Int)) ≤ ((((aN vD).length) : Nat) : Int)) (some (List.take ((IntKind.i64.wrap ((((((bK (((((s_0.length) : Nat) : Int) % (18446744073709551616 : Int)).toNat) ((count_1 % (18446744073709551616 : Int)).toNat)).getD ((0 : Nat), (0 : Nat), ())).2).1) : Nat) : Int)).toNat) (aN vD))) else ck ((((IntKind.i64.wrap ((((((bK (((((s_0.length) : Nat) : Int) % (18446744073709551616 : Int)).toNat) ((count_1 % (18446744073709551616 : Int)).toNat)).getD ((0 : Nat), (0 : Nat), ())).2).1) : Nat) : Int)) ≤ (64 : Int)) → (((bL (aN vE) s_0).isSome = true)))) (if ((IntKind.i64.wrap ((((((bK (((((s_0.length) : Nat) : Int) % (18446744073709551616 : Int)).toNat) ((count_1 % (18446744073709551616 : Int)).toNat)).getD ((0 : Nat), (0 : Nat), ())).2).1) : Nat) : Int)) ≤ (64 : Int)) ∧ (((bL (aN vE) s_0).getD false) = true) then ck (0 ≤ (IntKind.i64.wrap ((((((bK (((((s_0.length) : Nat) : Int) % (18446744073709551616 : Int)).toNat) ((count_1 % (18446744073709551616 : Int)).toNat)).getD ((0 : Nat), (0 : Nat), ())).2).1) : Nat) : Int)) ∧ (IntKind.i64.wrap ((((((bK (((((s_0.length) : Nat) : Int) % (18446744073709551616 : Int)).toNat) ((count_1 % (18446744073709551616 : Int)).toNat)).getD ((0 : Nat), (0 : Nat), ())).2).1) : Nat) : Int)) ≤ ((((aN vE).length) : Nat) : Int)) (some (List.take ((IntKind.i64.wrap ((((((bK (((((s_0.length) : Nat) : Int) % (18446744073709551616 : Int)).toNat) ((count_1 % (18446744073709551616 : Int)).toNat)).getD ((0 : Nat), (0 : Nat), ())).2).1) : Nat) : Int)).toNat) (aN vE))) else kU s_0 count_1))))) else kU s_0 count_1
noncomputable def aO (s_0 : (List Nat)) (count_1 : Int) : Option (List Nat) :=
 if count_1 = (0 : Int) then some (aN ⟨#[]⟩) else if count_1 = (1 : Int) then some s_0 else if count_1 < (0 : Int) then none else ck (((bK (((((s_0.length) : Nat) : Int) % (18446744073709551616 : Int)).toNat) ((count_1 % (18446744073709551616 : Int)).toNat)).isSome = true)) (if ((0 : Nat) < (((bK (((((s_0.length) : Nat) : Int) % (18446744073709551616 : Int)).toNat) ((count_1 % (18446744073709551616 : Int)).toNat)).getD ((0 : Nat), (0 : Nat), ())).1)) ∨ ((9223372036854775807 : Nat) < ((((bK (((((s_0.length) : Nat) : Int) % (18446744073709551616 : Int)).toNat) ((count_1 % (18446744073709551616 : Int)).toNat)).getD ((0 : Nat), (0 : Nat), ())).2).1)) then none else if (((s_0.length) : Nat) : Int) = (0 : Int) then some (aN ⟨#[]⟩) else ck ((0 : Int) < (((s_0.length) : Nat) : Int)) (if (s_0.getD (0 : Nat) (0 : Nat)) = (32 : Nat) then dM s_0 count_1 (decide ((s_0.getD (0 : Nat) (0 : Nat)) = (32 : Nat))) else if (s_0.getD (0 : Nat) (0 : Nat)) = (45 : Nat) then dM s_0 count_1 (decide ((s_0.getD (0 : Nat) (0 : Nat)) = (45 : Nat))) else if (s_0.getD (0 : Nat) (0 : Nat)) = (48 : Nat) then dM s_0 count_1 (decide ((s_0.getD (0 : Nat) (0 : Nat)) = (48 : Nat))) else if (s_0.getD (0 : Nat) (0 : Nat)) = (61 : Nat) then dM s_0 count_1 (decide ((s_0.getD (0 : Nat) (0 : Nat)) = (61 : Nat))) else dM s_0 count_1 (decide ((s_0.getD (0 : Nat) (0 : Nat)) = (9 : Nat)))))
def nV : Ty := .pair .str (.pair (.i .i64) .unit)
attribute [go_sem] nV
noncomputable def gS : aL := mSpec nV (.one .str) (fun x => aO x.1 x.2.1)
noncomputable def nW : List (FuncId × aL) := [(133, wH), (134, kE)]
theorem yE : bW Tryz.prog GL nW := .cons aMb (by kernel_rfl) (.cons aBi (by kernel_rfl) (.nil))
theorem aBj : gam nW 133 = some wH := rfl
attribute [go_sem] aBj
theorem aBk : gam nW 134 = some kE := rfl
attribute [go_sem] aBk
set_option maxHeartbeats 4000000 in
theorem wI : FOK Tryz.prog GL 73 gS := by
 refine rF (bI yE) Tryz.func73 rfl (by kernel_rfl) (by decide) fun w0 S x r hw h => ?_
 have hF : jB (fr Tryz.prog (EM nW) S w0 Tryz.f73.ntmps) := ⟨bI yE, mix⟩
 obtain ⟨(s_0 : (List Nat)), (count_1 : Int), u⟩ := x
 simp only [nV, Ty.wf, mJ] at hw
 simp only [cF, nV]
 try dsimp only at h
 unfold aO at h
 refine aD (aG hF [0, 1] ?_)
 simp only [go_sem]
 refine aF (aD (aD (aG hF [0, 1, 11] ?_)))
 simp only [go_sem]
 refine aF (gP (aD (aG hF [0, 1, 11, 12] ?_)))
 simp only [go_sem]
 refine aF (bV rfl (fun hc => ?_) (fun hc => ?_))
 ·try simp only [go_sem] at hc
  have h := fR (by first | exact hc | omega | (simpa using hc) | (simp at hc ⊢; omega)) h
  refine aD (aG hF [4] ?_)
  simp only [go_sem]
  obtain rfl := Option.some.inj h
  refine aF (cW (eQ (dI (iL hF [.tmp 4] rfl rfl rfl ?_))))
  (try simp only [jD, bA, go_sem]) <;> first | rfl | (simp; done)
 ·try simp only [go_sem] at hc
  have h := fS (by first | exact hc | omega | (simpa using hc) | (simp at hc ⊢; omega)) h
  refine aD (aG hF [0, 1, 14] ?_)
  simp only [go_sem]
  refine aF (bV rfl (fun hc => ?_) (fun hc => ?_))
  ·try simp only [go_sem] at hc
   have h := fR (by first | exact hc | omega | (simpa using hc) | (simp at hc ⊢; omega)) h
   refine aD (aG hF [4] ?_)
   simp only [go_sem]
   obtain rfl := Option.some.inj h
   refine aF (cW (eQ (dI (iL hF [.tmp 4] rfl rfl rfl ?_))))
   (try simp only [jD, bA, go_sem]) <;> first | rfl | (simp; done)
  ·try simp only [go_sem] at hc
   have h := fS (by first | exact hc | omega | (simpa using hc) | (simp at hc ⊢; omega)) h
   refine cJ (gE (aF (aD (aD (aG hF [0, 1, 18] ?_)))))
   simp only [go_sem]
   refine aF (bV rfl (fun hc => ?_) (fun hc => ?_))
   ·try simp only [go_sem] at hc
    have h := fR (by first | exact hc | omega | (simpa using hc) | (simp at hc ⊢; omega)) h
    cases h
   ·try simp only [go_sem] at hc
    have h := fS (by first | exact hc | omega | (simpa using hc) | (simp at hc ⊢; omega)) h
    refine cJ (aF (aD (aG hF [0, 5, 6] ?_)))
    simp only [go_sem]
    obtain ⟨g0, h⟩ := aH h
    repeat (refine ⟨by first | with_reducible assumption | omega | (intros; first | assumption | omega) | (simp only [go_sem] at *; first | assumption | omega) | decide, ?_⟩)
    refine aF (aD (aD (aG hF [0, 6, 34] ?_)))
    simp only [go_sem]
    refine aF (bV rfl (fun hc => ?_) (fun hc => ?_))
    ·try simp only [go_sem] at hc
     have h := fR (by first | exact hc | omega | (simpa using hc) | (simp at hc ⊢; omega)) h
     cases h
    ·try simp only [go_sem] at hc
     have h := fS (by first | exact hc | omega | (simpa using hc) | (simp at hc ⊢; omega)) h
     refine cJ (aF (aD (aG hF [0, 7] ?_)))
     simp only [go_sem]
     refine aF (aD (aD (aG hF [0, 7, 40] ?_)))
     simp only [go_sem]
     refine aF (bV rfl (fun hc => ?_) (fun hc => ?_))
     ·try simp only [go_sem] at hc
      have h := fR (by first | exact hc | omega | (simpa using hc) | (simp at hc ⊢; omega)) h
      refine aD (aG hF [4] ?_)
      simp only [go_sem]
      obtain rfl := Option.some.inj h
      refine aF (cW (dI (iL hF [.tmp 4] rfl rfl rfl ?_)))
      (try simp only [jD, bA, go_sem]) <;> first | rfl | (simp; done)
     ·try simp only [go_sem] at hc
      have h := fS (by first | exact hc | omega | (simpa using hc) | (simp at hc ⊢; omega)) h
      refine cJ (aF (jW (D := Unit) (fun d => kU s_0 count_1 = some r) [0, 7] (fun d => []) (fun d => []) ?_ ?_))
      ·refine aD (aG hF [0, 7, 42] ?_)
       simp only [go_sem]
       obtain ⟨g0, h⟩ := aH h
       repeat (refine ⟨by first | with_reducible assumption | omega | (intros; first | assumption | omega) | (simp only [go_sem] at *; first | assumption | omega) | decide, ?_⟩)
       refine aF (gP (jW (D := Bool) (fun d => dM s_0 count_1 d = some r) [0, 7] (fun d => [(43, .val .bool d)]) (fun d => []) ?_ ?_))
       ·refine aD (aG hF [0, 7, 42, 43] ?_)
        simp only [go_sem]
        refine aF (bV rfl (fun hc => ?_) (fun hc => ?_))
        ·try simp only [go_sem] at hc
         have h := fR (by first | exact hc | omega | (simpa using hc) | (simp at hc ⊢; omega)) h
         refine cJ (bG (aY ((decide ((s_0.getD (0 : Nat) (0 : Nat)) = (32 : Nat)))) h rfl ?_))
         ·(try simp only [kH, fO, true_or, and_self, go_sem]) <;> (repeat' apply And.intro) <;> first | rfl | (left; rfl) | (right; rfl) | (left; simp only [go_sem]; done) | (right; simp only [go_sem]; done) | (simp; done) | (simp only [*]; done) | omega
        ·try simp only [go_sem] at hc
         have h := fS (by first | exact hc | omega | (simpa using hc) | (simp at hc ⊢; omega)) h
         refine aD (aG hF [0, 7, 42, 43] ?_)
         simp only [go_sem]
         refine aF (bV rfl (fun hc => ?_) (fun hc => ?_))
         ·try simp only [go_sem] at hc
          have h := fR (by first | exact hc | omega | (simpa using hc) | (simp at hc ⊢; omega)) h
          refine cJ (bG (aY ((decide ((s_0.getD (0 : Nat) (0 : Nat)) = (45 : Nat)))) h rfl ?_))
          ·(try simp only [kH, fO, true_or, and_self, go_sem]) <;> (repeat' apply And.intro) <;> first | rfl | (left; rfl) | (right; rfl) | (left; simp only [go_sem]; done) | (right; simp only [go_sem]; done) | (simp; done) | (simp only [*]; done) | omega
         ·try simp only [go_sem] at hc
          have h := fS (by first | exact hc | omega | (simpa using hc) | (simp at hc ⊢; omega)) h
          refine aD (aG hF [0, 7, 42, 43] ?_)
          simp only [go_sem]
          refine aF (bV rfl (fun hc => ?_) (fun hc => ?_))
          ·try simp only [go_sem] at hc
           have h := fR (by first | exact hc | omega | (simpa using hc) | (simp at hc ⊢; omega)) h
           refine cJ (bG (aY ((decide ((s_0.getD (0 : Nat) (0 : Nat)) = (48 : Nat)))) h rfl ?_))
           ·(try simp only [kH, fO, true_or, and_self, go_sem]) <;> (repeat' apply And.intro) <;> first | rfl | (left; rfl) | (right; rfl) | (left; simp only [go_sem]; done) | (right; simp only [go_sem]; done) | (simp; done) | (simp only [*]; done) | omega
          ·try simp only [go_sem] at hc
           have h := fS (by first | exact hc | omega | (simpa using hc) | (simp at hc ⊢; omega)) h
           refine aD (aG hF [0, 7, 42, 43] ?_)
           simp only [go_sem]
           refine aF (bV rfl (fun hc => ?_) (fun hc => ?_))
           ·try simp only [go_sem] at hc
            have h := fR (by first | exact hc | omega | (simpa using hc) | (simp at hc ⊢; omega)) h
            refine cJ (bG (aY ((decide ((s_0.getD (0 : Nat) (0 : Nat)) = (61 : Nat)))) h rfl ?_))
            ·(try simp only [kH, fO, true_or, and_self, go_sem]) <;> (repeat' apply And.intro) <;> first | rfl | (left; rfl) | (right; rfl) | (left; simp only [go_sem]; done) | (right; simp only [go_sem]; done) | (simp; done) | (simp only [*]; done) | omega
           ·try simp only [go_sem] at hc
            have h := fS (by first | exact hc | omega | (simpa using hc) | (simp at hc ⊢; omega)) h
            refine aG hF [0, 7, 43] ?_
            simp only [go_sem]
            refine bG (aY ((decide ((s_0.getD (0 : Nat) (0 : Nat)) = (9 : Nat)))) h rfl ?_)
            ·(try simp only [kH, fO, true_or, and_self, go_sem]) <;> (repeat' apply And.intro) <;> first | rfl | (left; rfl) | (right; rfl) | (left; simp only [go_sem]; done) | (right; simp only [go_sem]; done) | (simp; done) | (simp only [*]; done) | omega
       ·rintro x43_5 h
        try dsimp only at h
        simp only [go_sem]
        unfold dM at h
        refine bV rfl (fun hc => ?_) (fun hc => ?_)
        ·try simp only [go_sem] at hc
         have h := fR (by first | exact hc | omega | (simpa using hc) | (simp at hc ⊢; omega)) h
         refine gP (aD (aG hF [0, 7, 49] ?_))
         simp only [go_sem]
         obtain ⟨g0, h⟩ := aH h
         repeat (refine ⟨by first | with_reducible assumption | omega | (intros; first | assumption | omega) | (simp only [go_sem] at *; first | assumption | omega) | (intro q0; (try have e0 := g0 (by first | exact q0 | omega | (simpa using q0))); first | assumption | omega) | decide, ?_⟩)
         refine aF (bV rfl (fun hc => ?_) (fun hc => ?_))
         ·try simp only [go_sem] at hc
          have h := fR (by first | exact hc | omega | (simpa using hc) | (simp at hc ⊢; omega)) h
          refine aD (aG hF [4] ?_)
          simp only [go_sem]
          obtain ⟨g0, h⟩ := aH h
          repeat (refine ⟨by first | with_reducible assumption | omega | (intros; first | assumption | omega) | (simp only [go_sem] at *; first | assumption | omega) | decide, ?_⟩)
          obtain rfl := Option.some.inj h
          refine aF (cW (eQ (eQ (dI (iL hF [.tmp 4] rfl rfl rfl ?_)))))
          (try simp only [jD, bA, go_sem]) <;> first | rfl | (simp; done)
         ·try simp only [go_sem] at hc
          have h := fS (by first | exact hc | omega | (simpa using hc) | (simp at hc ⊢; omega)) h
          refine aD (aG hF [0, 7, 58] ?_)
          simp only [go_sem]
          obtain ⟨g0, h⟩ := aH h
          repeat (refine ⟨by first | with_reducible assumption | omega | (intros; first | assumption | omega) | (simp only [go_sem] at *; first | assumption | omega) | (intro q0; (try have e0 := g0 (by first | exact q0 | omega | (simpa using q0))); first | assumption | omega) | decide, ?_⟩)
          refine aF (bV rfl (fun hc => ?_) (fun hc => ?_))
          ·try simp only [go_sem] at hc
           have h := fR (by first | exact hc | omega | (simpa using hc) | (simp at hc ⊢; omega)) h
           refine aD (aG hF [4] ?_)
           simp only [go_sem]
           obtain ⟨g0, h⟩ := aH h
           repeat (refine ⟨by first | with_reducible assumption | omega | (intros; first | assumption | omega) | (simp only [go_sem] at *; first | assumption | omega) | decide, ?_⟩)
           obtain rfl := Option.some.inj h
           refine aF (cW (eQ (eQ (dI (iL hF [.tmp 4] rfl rfl rfl ?_)))))
           (try simp only [jD, bA, go_sem]) <;> first | rfl | (simp; done)
          ·try simp only [go_sem] at hc
           have h := fS (by first | exact hc | omega | (simpa using hc) | (simp at hc ⊢; omega)) h
           refine aD (aG hF [0, 7, 67] ?_)
           simp only [go_sem]
           obtain ⟨g0, h⟩ := aH h
           repeat (refine ⟨by first | with_reducible assumption | omega | (intros; first | assumption | omega) | (simp only [go_sem] at *; first | assumption | omega) | (intro q0; (try have e0 := g0 (by first | exact q0 | omega | (simpa using q0))); first | assumption | omega) | decide, ?_⟩)
           refine aF (bV rfl (fun hc => ?_) (fun hc => ?_))
           ·try simp only [go_sem] at hc
            have h := fR (by first | exact hc | omega | (simpa using hc) | (simp at hc ⊢; omega)) h
            refine aD (aG hF [4] ?_)
            simp only [go_sem]
            obtain ⟨g0, h⟩ := aH h
            repeat (refine ⟨by first | with_reducible assumption | omega | (intros; first | assumption | omega) | (simp only [go_sem] at *; first | assumption | omega) | decide, ?_⟩)
            obtain rfl := Option.some.inj h
            refine aF (cW (eQ (eQ (dI (iL hF [.tmp 4] rfl rfl rfl ?_)))))
            (try simp only [jD, bA, go_sem]) <;> first | rfl | (simp; done)
           ·try simp only [go_sem] at hc
            have h := fS (by first | exact hc | omega | (simpa using hc) | (simp at hc ⊢; omega)) h
            refine aD (aG hF [0, 7, 76] ?_)
            simp only [go_sem]
            obtain ⟨g0, h⟩ := aH h
            repeat (refine ⟨by first | with_reducible assumption | omega | (intros; first | assumption | omega) | (simp only [go_sem] at *; first | assumption | omega) | (intro q0; (try have e0 := g0 (by first | exact q0 | omega | (simpa using q0))); first | assumption | omega) | decide, ?_⟩)
            refine aF (bV rfl (fun hc => ?_) (fun hc => ?_))
            ·try simp only [go_sem] at hc
             have h := fR (by first | exact hc | omega | (simpa using hc) | (simp at hc ⊢; omega)) h
             refine aD (aG hF [4] ?_)
             simp only [go_sem]
             obtain ⟨g0, h⟩ := aH h
             repeat (refine ⟨by first | with_reducible assumption | omega | (intros; first | assumption | omega) | (simp only [go_sem] at *; first | assumption | omega) | decide, ?_⟩)
             obtain rfl := Option.some.inj h
             refine aF (cW (eQ (eQ (dI (iL hF [.tmp 4] rfl rfl rfl ?_)))))
             (try simp only [jD, bA, go_sem]) <;> first | rfl | (simp; done)
            ·try simp only [go_sem] at hc
             have h := fS (by first | exact hc | omega | (simpa using hc) | (simp at hc ⊢; omega)) h
             refine aD (aG hF [0, 7, 85] ?_)
             simp only [go_sem]
             obtain ⟨g0, h⟩ := aH h
             repeat (refine ⟨by first | with_reducible assumption | omega | (intros; first | assumption | omega) | (simp only [go_sem] at *; first | assumption | omega) | (intro q0; (try have e0 := g0 (by first | exact q0 | omega | (simpa using q0))); first | assumption | omega) | decide, ?_⟩)
             refine aF (bV rfl (fun hc => ?_) (fun hc => ?_))
             ·try simp only [go_sem] at hc
              have h := fR (by first | exact hc | omega | (simpa using hc) | (simp at hc ⊢; omega)) h
              refine aD (aG hF [4] ?_)
              simp only [go_sem]
              obtain ⟨g0, h⟩ := aH h
              repeat (refine ⟨by first | with_reducible assumption | omega | (intros; first | assumption | omega) | (simp only [go_sem] at *; first | assumption | omega) | decide, ?_⟩)
              obtain rfl := Option.some.inj h
              refine aF (cW (eQ (eQ (dI (iL hF [.tmp 4] rfl rfl rfl ?_)))))
              (try simp only [jD, bA, go_sem]) <;> first | rfl | (simp; done)
             ·try simp only [go_sem] at hc
              have h := fS (by first | exact hc | omega | (simpa using hc) | (simp at hc ⊢; omega)) h
              refine cJ (gE (gE (bG (aY (()) h rfl ?_))))
              ·(try simp only [kH, fO, true_or, and_self, go_sem]) <;> (repeat' apply And.intro) <;> first | rfl | (left; rfl) | (right; rfl) | (left; simp only [go_sem]; done) | (right; simp only [go_sem]; done) | (simp; done) | (simp only [*]; done) | omega
        ·try simp only [go_sem] at hc
         have h := fS (by first | exact hc | omega | (simpa using hc) | (simp at hc ⊢; omega)) h
         refine cJ (gE (bG (aY (()) h rfl ?_)))
         ·(try simp only [kH, fO, true_or, and_self, go_sem]) <;> (repeat' apply And.intro) <;> first | rfl | (left; rfl) | (right; rfl) | (left; simp only [go_sem]; done) | (right; simp only [go_sem]; done) | (simp; done) | (simp only [*]; done) | omega
      ·rintro u h
       try dsimp only at h
       simp only [go_sem]
       unfold kU at h
       refine aD (aG hF [0, 7, 8] ?_)
       simp only [go_sem]
       refine aF (jW (D := Int) (fun d => iI d = some r) [0, 7] (fun d => [(8, .val (.i .i64) d)]) (fun d => []) ?_ ?_)
       ·refine aD (aG hF [0, 7, 8, 96] ?_)
        simp only [go_sem]
        refine aF (bV rfl (fun hc => ?_) (fun hc => ?_))
        ·try simp only [go_sem] at hc
         have h := fR (by first | exact hc | omega | (simpa using hc) | (simp at hc ⊢; omega)) h
         refine aD (aG hF [0, 7, 8] ?_)
         simp only [go_sem]
         obtain ⟨g0, h⟩ := aH h
         obtain ⟨g1, h⟩ := aH h
         obtain ⟨g2, h⟩ := aH h
         try simp only [I64, I32] at g1
         try simp only [I64, I32] at g2
         repeat (refine ⟨by first | with_reducible assumption | omega | (intros; first | assumption | omega) | (simp only [go_sem] at *; first | assumption | omega) | decide, ?_⟩)
         refine aF (aD (aG hF [0, 7, 8, 104] ?_))
         simp only [go_sem]
         refine aF (bV rfl (fun hc => ?_) (fun hc => ?_))
         ·try simp only [go_sem] at hc
          have h := fR (by first | exact hc | omega | (simpa using hc) | (simp at hc ⊢; omega)) h
          refine aG hF [0, 7, 8] ?_
          simp only [go_sem]
          refine bG (aY ((((s_0.length) : Nat) : Int)) h rfl ?_)
          ·(try simp only [kH, fO, true_or, and_self, go_sem]) <;> (repeat' apply And.intro) <;> first | rfl | (left; rfl) | (right; rfl) | (left; simp only [go_sem]; done) | (right; simp only [go_sem]; done) | (simp; done) | (simp only [*]; done) | omega
         ·try simp only [go_sem] at hc
          have h := fS (by first | exact hc | omega | (simpa using hc) | (simp at hc ⊢; omega)) h
          refine cJ (bG (aY (((Int.tdiv (8192 : Int) (((s_0.length) : Nat) : Int)) * (((s_0.length) : Nat) : Int))) h rfl ?_))
          ·(try simp only [kH, fO, true_or, and_self, go_sem]) <;> (repeat' apply And.intro) <;> first | rfl | (left; rfl) | (right; rfl) | (left; simp only [go_sem]; done) | (right; simp only [go_sem]; done) | (simp; done) | (simp only [*]; done) | omega
        ·try simp only [go_sem] at hc
         have h := fS (by first | exact hc | omega | (simpa using hc) | (simp at hc ⊢; omega)) h
         refine cJ (bG (aY ((IntKind.i64.wrap ((((((bK (((((s_0.length) : Nat) : Int) % (18446744073709551616 : Int)).toNat) ((count_1 % (18446744073709551616 : Int)).toNat)).getD ((0 : Nat), (0 : Nat), ())).2).1) : Nat) : Int))) h rfl ?_))
         ·(try simp only [kH, fO, true_or, and_self, go_sem]) <;> (repeat' apply And.intro) <;> first | rfl | (left; rfl) | (right; rfl) | (left; simp only [go_sem]; done) | (right; simp only [go_sem]; done) | (simp; done) | (simp only [*]; done) | omega
       ·rintro chunkMax_4 h
        try dsimp only at h
        simp only [go_sem]
        unfold iI at h
        cases h
attribute [go_sem] gS
end Nu
end Go.Proofs
namespace Go.Proofs
open Go.Vc
set_option maxRecDepth 20000
namespace Nu
noncomputable def cU (a0_0 : (List Nat)) (a1_1 : (List Nat)) (x13_5 : Int) : Option ((Int) ⊕ ((Unit) ⊕ Bool)) :=
 if x13_5 < (((a0_0.length) : Nat) : Int) then ck (0 ≤ x13_5 ∧ x13_5 < (((a0_0.length) : Nat) : Int)) (ck (0 ≤ x13_5 ∧ x13_5 < (((a1_1.length) : Nat) : Int)) (if ¬ ((a0_0.getD (x13_5.toNat) (0 : Nat)) = (a1_1.getD (x13_5.toNat) (0 : Nat))) then some (.inr (.inr false)) else ck (I64 (x13_5 + (1 : Int))) (some (.inl (x13_5 + (1 : Int)))))) else some (.inr (.inl ()))
noncomputable def dQ (a0_0 : (List Nat)) (a1_1 : (List Nat)) : Option Bool :=
 if ¬ ((((a0_0.length) : Nat) : Int) = (((a1_1.length) : Nat) : Int)) then some false else (dC (fun d : Int => cU a0_0 a1_1 d) (0 : Int)).bind (fun e => match e with | (.inl e) => some true | (.inr e) => some e)
def qK : PlR := ⟨[(0, .A [0, 1]), (1, .A [0, 1, 10]), (2, .A [4]), (3, .A [0, 1, 12, 13]), (4, .A [0, 1, 12, 13, 14]), (5, .A [0, 1, 5, 12, 13]), (6, .A [0, 1, 12, 13, 24]), (7, .A [4]), (8, .A [0, 1, 12, 13]), (9, .A [4])], []⟩
def qU : Ty := .pair (.sl (.u .u64)) (.pair (.sl (.u .u64)) .unit)
noncomputable def iP : aL := mSpec qU (.one .bool) (fun x => dQ x.1 x.2.1)
noncomputable def aAu : List (FuncId × aL) := []
theorem aAv : bW Tryz.prog GL aAu := .nil
attribute [go_sem] qU qK
set_option maxHeartbeats 4000000 in
theorem aAa : FOK Tryz.prog GL 84 iP := by
 refine cG (bI aAv) mix Tryz.func84 rfl (by kernel_rfl) (by decide) qK fun w0 S x Θ hw h hF => ?_
 obtain ⟨(a0_0 : (List Nat)), (a1_1 : (List Nat)), u⟩ := x
 simp only [cF, go_sem]
 replace h : sat (dQ a0_0 a1_1) _ := h
 unfold dQ at h
 refine fP h (fun hc h => ?_) fun hc h => ?_
 ·exact aS hF [.tmp 4] rfl rfl rfl (aC h) (by simp only [bA, go_sem])
 ·refine dF hF (D := Int) [0, 1, 12] (fun d => [(13, .val (.i .i64) d)]) (fun d => []) h rfl (by simp only [go_sem]) ?_
  rintro x13_5 A4 T4 hA4 hE4 h
  simp only [go_sem]
  replace h : sat (cU a0_0 a1_1 x13_5) _ := h
  unfold cU at h
  refine gV h (fun hc h => ?_) fun hc h => ?_
  ·refine aM h fun g0 h => aM h fun g1 h => ?_
   refine fP h (fun hc h => ?_) fun hc h => ?_
   ·replace h := hE4 _ (aC h)
    try dsimp only at h
    exact aS hF [.tmp 4] rfl rfl rfl (aC h) (by simp only [bA, go_sem])
   ·refine aM h fun g0 h => ?_
    replace h := hA4 _ (aC h)
    exact aY _ h rfl (by simp only [go_sem])
  ·replace h := hE4 _ (aC h)
   try dsimp only at h
   exact aS hF [.tmp 4] rfl rfl rfl (aC h) (by simp only [bA, go_sem])
attribute [go_sem] iP
noncomputable def jM (l_8 : (List (List Nat))) (out_13 : (List Nat)) (x44_14 : Int) : Option (((List Nat) × Int) ⊕ (((List Nat)))) :=
 if x44_14 < (((l_8.length) : Nat) : Int) then ck (0 ≤ x44_14 ∧ x44_14 < (((l_8.length) : Nat) : Int)) (ck (((l_8.getD (x44_14.toNat) ([] : List Nat)).length) + (out_13.length) ≤ 9223372036854775807) (ck (I64 (x44_14 + (1 : Int))) (some (.inl (((l_8.getD (x44_14.toNat) ([] : List Nat)) ++ out_13), (x44_14 + (1 : Int))))))) else some (.inr out_13)
noncomputable def mI (l_8 : (List (List Nat))) : Option ((List Nat)) :=
 (dC (fun d : (List Nat) × Int => jM l_8 d.1 d.2) ((aN ⟨#[]⟩), (0 : Int))).bind (fun e => some e)
noncomputable def gL (l_20 : (List (List Nat))) (m_19 : (List Nat)) (s_25 : (List Nat)) : Option (((List Nat) × (List (List Nat))) ⊕ (((List (List Nat))))) :=
 ck (((l_20.length) + (1 : Nat)) * 16 ≤ 140737488355328) (if (((((bD m_19 ([1000000000000000000] : List Nat)).1).length) : Nat) : Int) = (0 : Int) then some (.inr (l_20 ++ ([s_25] : List (List Nat)))) else ck (I64 (((((l_20 ++ ([s_25] : List (List Nat))).length) : Nat) : Int) - (1 : Int))) (ck (I64 ((18 : Int) - (((s_25.length) : Nat) : Int))) (ck (((aO (aN ⟨#[48]⟩) ((18 : Int) - (((s_25.length) : Nat) : Int))).isSome = true)) (ck ((((aO (aN ⟨#[48]⟩) ((18 : Int) - (((s_25.length) : Nat) : Int))).getD ([] : List Nat)).length) + (s_25.length) ≤ 9223372036854775807) (ck (0 ≤ (((((l_20 ++ ([s_25] : List (List Nat))).length) : Nat) : Int) - (1 : Int)) ∧ (((((l_20 ++ ([s_25] : List (List Nat))).length) : Nat) : Int) - (1 : Int)) < ((((l_20 ++ ([s_25] : List (List Nat))).length) : Nat) : Int)) (some (.inl (((bD m_19 ([1000000000000000000] : List Nat)).1), ((l_20 ++ ([s_25] : List (List Nat))).set ((((((l_20 ++ ([s_25] : List (List Nat))).length) : Nat) : Int) - (1 : Int)).toNat) (((aO (aN ⟨#[48]⟩) ((18 : Int) - (((s_25.length) : Nat) : Int))).getD ([] : List Nat)) ++ s_25))))))))))
noncomputable def jA (m_19 : (List Nat)) (l_20 : (List (List Nat))) : Option (((List Nat) × (List (List Nat))) ⊕ (((List (List Nat))))) :=
 ck ((nS m_19 ([1000000000000000000] : List Nat))) (if (0 : Int) < ((((((bD m_19 ([1000000000000000000] : List Nat)).2).1).length) : Nat) : Int) then ck ((0 : Int) < ((((((bD m_19 ([1000000000000000000] : List Nat)).2).1).length) : Nat) : Int)) (ck (((cY ((((bD m_19 ([1000000000000000000] : List Nat)).2).1).getD (0 : Nat) (0 : Nat)) (10 : Int)).isSome = true)) (gL l_20 m_19 ((cY ((((bD m_19 ([1000000000000000000] : List Nat)).2).1).getD (0 : Nat) (0 : Nat)) (10 : Int)).getD ([] : List Nat)))) else gL l_20 m_19 (aN ⟨#[]⟩))
noncomputable def aR (m_0 : (List Nat)) : Option (List Nat) :=
 (dC (fun d : (List Nat) × (List (List Nat)) => jA d.1 d.2) (m_0, ([] : List (List Nat)))).bind (fun e => mI e)
def aET : PlR := ⟨[(0, .A [0]), (1, .A [0, 3]), (2, .A [3, 4, 5]), (3, .A [3, 4, 5, 6]), (4, .A [3, 4, 5, 6, 18]), (5, .A [3, 4, 6]), (6, .B [3, 4, 6]), (7, .A [0, 3, 6]), (8, .A [0, 3, 6, 30]), (9, .B [0, 3]), (10, .A [3, 7]), (11, .A [7, 42, 43, 44]), (12, .A [7, 42, 43, 44, 45]), (13, .A [7, 9, 42, 43, 44]), (14, .A [7, 42, 43, 44]), (15, .A [7, 42, 43, 44]), (16, .A [2])], [(5, 13), (7, 9)]⟩
def aHG : Ty := .pair (.sl (.u .u64)) .unit
noncomputable def wJ : aL := mSpec aHG (.one .str) (fun x => aR x.1)
noncomputable def aAb : List (FuncId × aL) := [(132, jU), (62, iZ), (73, gS)]
theorem aNg : bW Tryz.prog GL aAb := .cons aAt (by kernel_rfl) (.cons wW (by kernel_rfl) (.cons wI (by kernel_rfl) (.nil)))
theorem aHH : gam aAb 132 = some jU := rfl
theorem aIH : gam aAb 62 = some iZ := rfl
theorem aII : gam aAb 73 = some gS := rfl
attribute [go_sem] aHG aET aHH aIH aII
set_option maxHeartbeats 4000000 in
theorem aMc : FOK Tryz.prog GL 72 wJ := by
 refine cG (bI aNg) mix Tryz.func72 rfl (by kernel_rfl) (by decide) aET fun w0 S x Θ hw h hF => ?_
 obtain ⟨(m_0 : (List Nat)), u⟩ := x
 simp only [cF, go_sem]
 replace h : sat (aR m_0) _ := h
 unfold aR at h
 refine cP hF (D := (List (List Nat))) (fun d => sat (mI d) Θ) [] (fun d => [(3, .own 0)]) (fun d => [.inr (.row 9 .str d)]) ?_ ?_
 ·simp only [go_sem]
  refine aME 3 9 .str rfl ?_
  simp only [go_sem]
  refine dF hF (D := (List Nat) × (List (List Nat))) [] (fun d => [(0, .val (.sl (.u .u64)) d.1), (3, .own 0)]) (fun d => [.inr (.row 9 .str d.2)]) h rfl (by simp only [go_sem]) ?_
  rintro ⟨m_19, l_20⟩ A2 T2 hA2 hE2 h
  simp only [go_sem]
  replace h : sat (jA m_19 l_20) _ := h
  unfold jA at h
  refine aM h fun g0 h => ?_
  refine cP hF (D := (List Nat)) (fun d => sat (gL l_20 m_19 d) T2) [4] (fun d => [(3, .own 0), (6, .val .str d)]) (fun d => [.inr (.row 9 .str l_20)]) ?_ ?_
  ·simp only [go_sem]
   refine gV h (fun hc h => ?_) fun hc h => ?_
   ·obtain ⟨g0, h⟩ := aI h
    obtain ⟨g1, h⟩ := aI h
    repeat (refine ⟨by omega, ?_⟩)
    exact aY (((cY ((((bD m_19 ([1000000000000000000] : List Nat)).2).1).getD (0 : Nat) (0 : Nat)) (10 : Int)).getD ([] : List Nat))) h rfl (by simp only [go_sem])
   ·exact aY ((aN ⟨#[]⟩)) h rfl (by simp only [go_sem])
  ·rintro s_25 h
   simp only [go_sem]
   replace h : sat (gL l_20 m_19 s_25) _ := h
   unfold gL at h
   obtain ⟨g0, h⟩ := aI h
   repeat (refine ⟨by omega, ?_⟩)
   refine fP h (fun hc h => ?_) fun hc h => ?_
   ·replace h := hE2 _ (aC h)
    try dsimp only at h
    refine aAP [1] rfl rfl ?_
    simp only [go_sem]
    exact aY ((l_20 ++ ([s_25] : List (List Nat)))) h rfl (by simp only [go_sem])
   ·obtain ⟨g0, h⟩ := aI h
    repeat (refine ⟨by omega, ?_⟩)
    obtain ⟨g0, h⟩ := aI h
    repeat (refine ⟨by omega, ?_⟩)
    obtain ⟨g0, h⟩ := aI h
    repeat (refine ⟨by omega, ?_⟩)
    obtain ⟨g0, h⟩ := aI h
    repeat (refine ⟨by omega, ?_⟩)
    obtain ⟨g0, h⟩ := aI h
    repeat (refine ⟨by omega, ?_⟩)
    replace h := hA2 _ (aC h)
    refine aAP [1] rfl rfl ?_
    simp only [go_sem]
    exact aY _ h rfl (by simp only [go_sem])
 ·rintro l_8 h
  simp only [go_sem]
  replace h : sat (mI l_8) _ := h
  unfold mI at h
  refine dF hF (D := (List Nat) × Int) [43] (fun d => [(7, .val .str d.1), (42, .own 0), (44, .val (.i .i64) d.2)]) (fun d => [.inr (.row 9 .str l_8)]) h rfl (by simp only [go_sem]) ?_
  rintro ⟨out_13, x44_14⟩ A12 T12 hA12 hE12 h
  simp only [go_sem]
  replace h : sat (jM l_8 out_13 x44_14) _ := h
  unfold jM at h
  refine gV h (fun hc h => ?_) fun hc h => ?_
  ·obtain ⟨g0, h⟩ := aI h
   repeat (refine ⟨by omega, ?_⟩)
   refine aM h fun g0 h => ?_
   refine aM h fun g0 h => ?_
   replace h := hA12 _ (aC h)
   exact aY _ h rfl (by simp only [go_sem])
  ·replace h := hE12 _ (aC h)
   try dsimp only at h
   exact aS hF [.tmp 2] rfl rfl rfl (aC h) (by simp only [bA, go_sem])
attribute [go_sem] wJ
noncomputable def kN (d_0 : (Bool × ((List Nat) × (Int × Unit)))) (q_4 : (List Nat)) (s_5 : (List Nat)) : Option (((List Nat) × (Int × Unit))) :=
 if ((d_0.1) = true) ∧ ((0 : Int) < (((q_4.length) : Nat) : Int)) then ck (((aN ⟨#[45]⟩).length) + (s_5.length) ≤ 9223372036854775807) (some (((aN ⟨#[45]⟩) ++ s_5), (0 : Int), ())) else some (s_5, (0 : Int), ())
noncomputable def kO (digits_1 : Int) (d_0 : (Bool × ((List Nat) × (Int × Unit)))) (q_4 : (List Nat)) : Option (((List Nat) × (Int × Unit))) :=
 ck (((aR q_4).isSome = true)) (ck (I64 (digits_1 + (1 : Int))) (ck (I64 ((digits_1 + (1 : Int)) - (((((aR q_4).getD ([] : List Nat)).length) : Nat) : Int))) (ck (((aO (aN ⟨#[48]⟩) (max ((digits_1 + (1 : Int)) - (((((aR q_4).getD ([] : List Nat)).length) : Nat) : Int)) (0 : Int))).isSome = true)) (ck ((((aO (aN ⟨#[48]⟩) (max ((digits_1 + (1 : Int)) - (((((aR q_4).getD ([] : List Nat)).length) : Nat) : Int)) (0 : Int))).getD ([] : List Nat)).length) + (((aR q_4).getD ([] : List Nat)).length) ≤ 9223372036854775807) (if (0 : Int) < digits_1 then ck (I64 (((((((aO (aN ⟨#[48]⟩) (max ((digits_1 + (1 : Int)) - (((((aR q_4).getD ([] : List Nat)).length) : Nat) : Int)) (0 : Int))).getD ([] : List Nat)) ++ ((aR q_4).getD ([] : List Nat))).length) : Nat) : Int) - digits_1)) (ck (0 ≤ (((((((aO (aN ⟨#[48]⟩) (max ((digits_1 + (1 : Int)) - (((((aR q_4).getD ([] : List Nat)).length) : Nat) : Int)) (0 : Int))).getD ([] : List Nat)) ++ ((aR q_4).getD ([] : List Nat))).length) : Nat) : Int) - digits_1) ∧ (((((((aO (aN ⟨#[48]⟩) (max ((digits_1 + (1 : Int)) - (((((aR q_4).getD ([] : List Nat)).length) : Nat) : Int)) (0 : Int))).getD ([] : List Nat)) ++ ((aR q_4).getD ([] : List Nat))).length) : Nat) : Int) - digits_1) ≤ ((((((aO (aN ⟨#[48]⟩) (max ((digits_1 + (1 : Int)) - (((((aR q_4).getD ([] : List Nat)).length) : Nat) : Int)) (0 : Int))).getD ([] : List Nat)) ++ ((aR q_4).getD ([] : List Nat))).length) : Nat) : Int)) (ck (((List.take ((((((((aO (aN ⟨#[48]⟩) (max ((digits_1 + (1 : Int)) - (((((aR q_4).getD ([] : List Nat)).length) : Nat) : Int)) (0 : Int))).getD ([] : List Nat)) ++ ((aR q_4).getD ([] : List Nat))).length) : Nat) : Int) - digits_1).toNat) (((aO (aN ⟨#[48]⟩) (max ((digits_1 + (1 : Int)) - (((((aR q_4).getD ([] : List Nat)).length) : Nat) : Int)) (0 : Int))).getD ([] : List Nat)) ++ ((aR q_4).getD ([] : List Nat)))).length) + ((aN ⟨#[46]⟩).length) ≤ 9223372036854775807) (ck (I64 (((((((aO (aN ⟨#[48]⟩) (max ((digits_1 + (1 : Int)) - (((((aR q_4).getD ([] : List Nat)).length) : Nat) : Int)) (0 : Int))).getD ([] : List Nat)) ++ ((aR q_4).getD ([] : List Nat))).length) : Nat) : Int) - digits_1)) (ck (0 ≤ (((((((aO (aN ⟨#[48]⟩) (max ((digits_1 + (1 : Int)) - (((((aR q_4).getD ([] : List Nat)).length) : Nat) : Int)) (0 : Int))).getD ([] : List Nat)) ++ ((aR q_4).getD ([] : List Nat))).length) : Nat) : Int) - digits_1) ∧ (((((((aO (aN ⟨#[48]⟩) (max ((digits_1 + (1 : Int)) - (((((aR q_4).getD ([] : List Nat)).length) : Nat) : Int)) (0 : Int))).getD ([] : List Nat)) ++ ((aR q_4).getD ([] : List Nat))).length) : Nat) : Int) - digits_1) ≤ ((((((aO (aN ⟨#[48]⟩) (max ((digits_1 + (1 : Int)) - (((((aR q_4).getD ([] : List Nat)).length) : Nat) : Int)) (0 : Int))).getD ([] : List Nat)) ++ ((aR q_4).getD ([] : List Nat))).length) : Nat) : Int)) (ck ((((List.take ((((((((aO (aN ⟨#[48]⟩) (max ((digits_1 + (1 : Int)) - (((((aR q_4).getD ([] : List Nat)).length) : Nat) : Int)) (0 : Int))).getD ([] : List Nat)) ++ ((aR q_4).getD ([] : List Nat))).length) : Nat) : Int) - digits_1).toNat) (((aO (aN ⟨#[48]⟩) (max ((digits_1 + (1 : Int)) - (((((aR q_4).getD ([] : List Nat)).length) : Nat) : Int)) (0 : Int))).getD ([] : List Nat)) ++ ((aR q_4).getD ([] : List Nat)))) ++ (aN ⟨#[46]⟩)).length) + ((List.drop ((((((((aO (aN ⟨#[48]⟩) (max ((digits_1 + (1 : Int)) - (((((aR q_4).getD ([] : List Nat)).length) : Nat) : Int)) (0 : Int))).getD ([] : List Nat)) ++ ((aR q_4).getD ([] : List Nat))).length) : Nat) : Int) - digits_1).toNat) (((aO (aN ⟨#[48]⟩) (max ((digits_1 + (1 : Int)) - (((((aR q_4).getD ([] : List Nat)).length) : Nat) : Int)) (0 : Int))).getD ([] : List Nat)) ++ ((aR q_4).getD ([] : List Nat)))).length) ≤ 9223372036854775807) (kN d_0 q_4 (((List.take ((((((((aO (aN ⟨#[48]⟩) (max ((digits_1 + (1 : Int)) - (((((aR q_4).getD ([] : List Nat)).length) : Nat) : Int)) (0 : Int))).getD ([] : List Nat)) ++ ((aR q_4).getD ([] : List Nat))).length) : Nat) : Int) - digits_1).toNat) (((aO (aN ⟨#[48]⟩) (max ((digits_1 + (1 : Int)) - (((((aR q_4).getD ([] : List Nat)).length) : Nat) : Int)) (0 : Int))).getD ([] : List Nat)) ++ ((aR q_4).getD ([] : List Nat)))) ++ (aN ⟨#[46]⟩)) ++ (List.drop ((((((((aO (aN ⟨#[48]⟩) (max ((digits_1 + (1 : Int)) - (((((aR q_4).getD ([] : List Nat)).length) : Nat) : Int)) (0 : Int))).getD ([] : List Nat)) ++ ((aR q_4).getD ([] : List Nat))).length) : Nat) : Int) - digits_1).toNat) (((aO (aN ⟨#[48]⟩) (max ((digits_1 + (1 : Int)) - (((((aR q_4).getD ([] : List Nat)).length) : Nat) : Int)) (0 : Int))).getD ([] : List Nat)) ++ ((aR q_4).getD ([] : List Nat))))))))))) else kN d_0 q_4 (((aO (aN ⟨#[48]⟩) (max ((digits_1 + (1 : Int)) - (((((aR q_4).getD ([] : List Nat)).length) : Nat) : Int)) (0 : Int))).getD ([] : List Nat)) ++ ((aR q_4).getD ([] : List Nat))))))))
noncomputable def aK (d_0 : (Bool × ((List Nat) × (Int × Unit)))) (digits_1 : Int) (up_2 : Bool) : Option ((List Nat) × (Int × Unit)) :=
 ck (((bQ d_0).isSome = true)) (if ((¬ (((bQ d_0).getD false) = true)) ∨ (digits_1 < (0 : Int))) ∨ ((60 : Int) < digits_1) then some ((aN ⟨#[]⟩), (1 : Int), ()) else if ((2000 : Int) < (((d_0.2).2).1)) ∨ ((((d_0.2).2).1) < (-2000 : Int)) then some ((aN ⟨#[]⟩), (2 : Int), ()) else ck ((aEo ((d_0.2).1) (max (((d_0.2).2).1) (0 : Int)))) (ck (((bC (10 : Nat) digits_1).isSome = true)) (ck ((aCO (bF ((d_0.2).1) (max (((d_0.2).2).1) (0 : Int))) ((bC (10 : Nat) digits_1).getD ([] : List Nat)))) (ck (I64 (0 - (((d_0.2).2).1))) (ck ((aDM (aZ (bF ((d_0.2).1) (max (((d_0.2).2).1) (0 : Int))) ((bC (10 : Nat) digits_1).getD ([] : List Nat))) (max (0 - (((d_0.2).2).1)) (0 : Int)))) (ck ((((0 : Int) < ((((aZ (bF ((d_0.2).1) (max (((d_0.2).2).1) (0 : Int))) ((bC (10 : Nat) digits_1).getD ([] : List Nat))).length) : Nat) : Int)) → ((pSz (aZ (bF ((d_0.2).1) (max (((d_0.2).2).1) (0 : Int))) ((bC (10 : Nat) digits_1).getD ([] : List Nat))))))) (if (((0 : Int) < ((((aZ (bF ((d_0.2).1) (max (((d_0.2).2).1) (0 : Int))) ((bC (10 : Nat) digits_1).getD ([] : List Nat))).length) : Nat) : Int)) ∧ ((bS (aZ (bF ((d_0.2).1) (max (((d_0.2).2).1) (0 : Int))) ((bC (10 : Nat) digits_1).getD ([] : List Nat)))) < (max (0 - (((d_0.2).2).1)) (0 : Int)))) ∧ ((up_2 != (d_0.1)) = true) then ck ((aCO (cH (aZ (bF ((d_0.2).1) (max (((d_0.2).2).1) (0 : Int))) ((bC (10 : Nat) digits_1).getD ([] : List Nat))) (max (0 - (((d_0.2).2).1)) (0 : Int))) ([1] : List Nat))) (kO digits_1 d_0 (fM (cH (aZ (bF ((d_0.2).1) (max (((d_0.2).2).1) (0 : Int))) ((bC (10 : Nat) digits_1).getD ([] : List Nat))) (max (0 - (((d_0.2).2).1)) (0 : Int))) ([1] : List Nat))) else kO digits_1 d_0 (cH (aZ (bF ((d_0.2).1) (max (((d_0.2).2).1) (0 : Int))) ((bC (10 : Nat) digits_1).getD ([] : List Nat))) (max (0 - (((d_0.2).2).1)) (0 : Int))))))))))
def aEU : PlR := ⟨[(0, .B [1, 2, 3]), (1, .A [1, 2, 3, 12]), (2, .A [6, 7]), (3, .A [1, 2, 3, 24]), (4, .A [6, 7]), (5, .A [1, 2, 3, 8]), (6, .A [1, 2, 3, 8, 9]), (7, .A [1, 2, 3, 8, 9, 10]), (8, .A [1, 3, 10, 63]), (9, .A [1, 3, 10]), (10, .A [1, 3, 10, 11]), (11, .A [1, 3, 10, 11]), (12, .A [1, 3, 10, 11, 79]), (13, .A [3, 10, 11]), (14, .A [11, 100]), (15, .A [11]), (16, .A [6, 7])], [(11, 13), (15, 17)]⟩
def aHI : Ty := .pair (.pair .bool (.pair (.sl (.u .u64)) (.pair (.i .i64) .unit))) (.pair (.i .i64) (.pair .bool .unit))
noncomputable def wK : aL := mSpec aHI (.tup (.pair .str (.pair (.i .i64) .unit))) (fun x => aK x.1 x.2.1 x.2.2.1)
noncomputable def kP : List (FuncId × aL) := [(29, dK), (63, dS), (65, kC), (68, iV), (69, gG), (70, kA), (71, lI), (72, wJ), (73, gS)]
theorem aNh : bW Tryz.prog GL kP := .cons nC (by kernel_rfl) (.cons nQ (by kernel_rfl) (.cons zX (by kernel_rfl) (.cons vY (by kernel_rfl) (.cons tF (by kernel_rfl) (.cons zL (by kernel_rfl) (.cons aAY (by kernel_rfl) (.cons aMc (by kernel_rfl) (.cons wI (by kernel_rfl) (.nil)))))))))
theorem aIJ : gam kP 29 = some dK := rfl
theorem aIK : gam kP 63 = some dS := rfl
theorem aIL : gam kP 65 = some kC := rfl
theorem aIM : gam kP 68 = some iV := rfl
theorem aIN : gam kP 69 = some gG := rfl
theorem aIO : gam kP 70 = some kA := rfl
theorem aIP : gam kP 71 = some lI := rfl
theorem aIQ : gam kP 72 = some wJ := rfl
theorem aIR : gam kP 73 = some gS := rfl
attribute [go_sem] aHI aEU aIJ aIK aIL aIM aIN aIO aIP aIQ aIR
set_option maxHeartbeats 4000000 in
theorem aMd : FOK Tryz.prog GL 27 wK := by
 refine cG (bI aNh) mix Tryz.func27 rfl (by kernel_rfl) (by decide) aEU fun w0 S x Θ hw h hF => ?_
 obtain ⟨(d_0 : (Bool × ((List Nat) × (Int × Unit)))), (digits_1 : Int), (up_2 : Bool), u⟩ := x
 simp only [cF, go_sem]
 replace h : sat (aK d_0 digits_1 up_2) _ := h
 unfold aK at h
 refine aM h fun g0 h => ?_
 refine ⟨fun hc => ?_, fun hc => ?_⟩
 ·replace h := iE (by first | exact hc | omega | (simpa using hc) | (simp at hc ⊢; omega)) h
  exact aS hF [.tmp 6, .tmp 7] rfl rfl rfl (aC h) (by simp only [bA, go_sem])
 ·replace h := iF (by first | exact hc | omega | (simpa using hc) | (simp at hc ⊢; omega)) h
  refine ⟨fun hc => ?_, fun hc => ?_⟩
  ·replace h := iE hc h
   exact aS hF [.tmp 6, .tmp 7] rfl rfl rfl (aC h) (by simp only [bA, go_sem])
  ·replace h := iF hc h
   refine aM h fun g0 h => aM h fun g1 h => aM h fun g2 h => ?_
   refine aM h fun g0 h => ?_
   refine aM h fun g0 h => ?_
   refine cP hF (D := (List Nat)) (fun d => sat (kO digits_1 d_0 d) Θ) [1] (fun d => [(3, .ptr 0 []), (10, .val (.sl (.u .u64)) d)]) (fun d => [.inr (.box 3 (.val (.pair .bool (.pair (.sl (.u .u64)) (.pair (.i .i64) .unit))) d_0))]) ?_ ?_
   ·simp only [go_sem]
    refine aM h fun g0 h => ?_
    refine ⟨fun hc => ?_, fun hc => ?_⟩
    ·replace h := iE hc h
     refine aM h fun g0 h => ?_
     exact aY ((fM (cH (aZ (bF ((d_0.2).1) (max (((d_0.2).2).1) (0 : Int))) ((bC (10 : Nat) digits_1).getD ([] : List Nat))) (max (0 - (((d_0.2).2).1)) (0 : Int))) ([1] : List Nat))) h rfl (by simp only [go_sem])
    ·replace h := iF hc h
     exact aY ((cH (aZ (bF ((d_0.2).1) (max (((d_0.2).2).1) (0 : Int))) ((bC (10 : Nat) digits_1).getD ([] : List Nat))) (max (0 - (((d_0.2).2).1)) (0 : Int)))) h rfl (by simp only [go_sem])
   ·rintro q_4 h
    simp only [go_sem]
    replace h : sat (kO digits_1 d_0 q_4) _ := h
    unfold kO at h
    refine aM h fun g0 h => ?_
    refine aM h fun g0 h => aM h fun g1 h => aM h fun g2 h => aM h fun g3 h => ?_
    refine cP hF (D := (List Nat)) (fun d => sat (kN d_0 q_4 d) Θ) [10] (fun d => [(3, .ptr 0 []), (11, .val .str d)]) (fun d => [.inr (.box 3 (.val (.pair .bool (.pair (.sl (.u .u64)) (.pair (.i .i64) .unit))) d_0))]) ?_ ?_
    ·simp only [go_sem]
     refine gV h (fun hc h => ?_) fun hc h => ?_
     ·refine aM h fun g0 h => aM h fun g1 h => aM h fun g2 h => aM h fun g3 h => aM h fun g4 h => aM h fun g5 h => ?_
      exact aY ((((List.take ((((((((aO (aN ⟨#[48]⟩) (max ((digits_1 + (1 : Int)) - (((((aR q_4).getD ([] : List Nat)).length) : Nat) : Int)) (0 : Int))).getD ([] : List Nat)) ++ ((aR q_4).getD ([] : List Nat))).length) : Nat) : Int) - digits_1).toNat) (((aO (aN ⟨#[48]⟩) (max ((digits_1 + (1 : Int)) - (((((aR q_4).getD ([] : List Nat)).length) : Nat) : Int)) (0 : Int))).getD ([] : List Nat)) ++ ((aR q_4).getD ([] : List Nat)))) ++ (aN ⟨#[46]⟩)) ++ (List.drop ((((((((aO (aN ⟨#[48]⟩) (max ((digits_1 + (1 : Int)) - (((((aR q_4).getD ([] : List Nat)).length) : Nat) : Int)) (0 : Int))).getD ([] : List Nat)) ++ ((aR q_4).getD ([] : List Nat))).length) : Nat) : Int) - digits_1).toNat) (((aO (aN ⟨#[48]⟩) (max ((digits_1 + (1 : Int)) - (((((aR q_4).getD ([] : List Nat)).length) : Nat) : Int)) (0 : Int))).getD ([] : List Nat)) ++ ((aR q_4).getD ([] : List Nat)))))) h rfl (by simp only [go_sem])
     ·exact aY ((((aO (aN ⟨#[48]⟩) (max ((digits_1 + (1 : Int)) - (((((aR q_4).getD ([] : List Nat)).length) : Nat) : Int)) (0 : Int))).getD ([] : List Nat)) ++ ((aR q_4).getD ([] : List Nat)))) h rfl (by simp only [go_sem])
    ·rintro s_5 h
     simp only [go_sem]
     replace h : sat (kN d_0 q_4 s_5) _ := h
     unfold kN at h
     refine ⟨fun hc => ?_, fun hc => ?_⟩
     ·replace h := iE hc h
      refine aM h fun g0 h => ?_
      exact aS hF [.tmp 6, .tmp 7] rfl rfl rfl (aC h) (by simp only [bA, go_sem])
     ·replace h := iF hc h
      exact aS hF [.tmp 6, .tmp 7] rfl rfl rfl (aC h) (by simp only [bA, go_sem])
attribute [go_sem] wK
noncomputable def dN (a_0 : (Bool × ((List Nat) × (Int × Unit)))) (b_1 : (Bool × ((List Nat) × (Int × Unit)))) : Option Bool :=
 ck ((((((a_0.1) == (b_1.1)) = true) ∧ ((((a_0.2).2).1) = (((b_1.2).2).1))) → (((dQ ((a_0.2).1) ((b_1.2).1)).isSome = true)))) (some ((((a_0.1) == (b_1.1)) && (decide ((((a_0.2).2).1) = (((b_1.2).2).1)))) && ((dQ ((a_0.2).1) ((b_1.2).1)).getD false)))
def aDn : PlR := ⟨[(0, .B [2, 3]), (1, .A [4])], []⟩
def aEV : Ty := .pair (.pair .bool (.pair (.sl (.u .u64)) (.pair (.i .i64) .unit))) (.pair (.pair .bool (.pair (.sl (.u .u64)) (.pair (.i .i64) .unit))) .unit)
noncomputable def nX : aL := mSpec aEV (.one .bool) (fun x => dN x.1 x.2.1)
noncomputable def aEW : List (FuncId × aL) := [(84, iP)]
theorem aMe : bW Tryz.prog GL aEW := .cons aAa (by kernel_rfl) (.nil)
theorem aHJ : gam aEW 84 = some iP := rfl
attribute [go_sem] aEV aDn aHJ
set_option maxHeartbeats 4000000 in
theorem aDo : FOK Tryz.prog GL 32 nX := by
 refine cG (bI aMe) mix Tryz.func32 rfl (by kernel_rfl) (by decide) aDn fun w0 S x Θ hw h hF => ?_
 obtain ⟨(a_0 : (Bool × ((List Nat) × (Int × Unit)))), (b_1 : (Bool × ((List Nat) × (Int × Unit)))), u⟩ := x
 simp only [cF, go_sem]
 replace h : sat (dN a_0 b_1) _ := h
 unfold dN at h
 refine aM h fun g0 h => ?_
 exact aS hF [.tmp 4] rfl rfl rfl (aC h) (by simp only [bA, go_sem])
attribute [go_sem] nX
noncomputable def pI : Option Bool :=
 ck (((aK (false, ([1] : List Nat), (-3 : Int), ()) (2 : Int) false).isSome = true)) (ck (((aK (false, ([1] : List Nat), (-3 : Int), ()) (2 : Int) true).isSome = true)) (ck (((cB (false, ([1] : List Nat), (-3 : Int), ())).isSome = true)) (ck (((aK ((cB (false, ([1] : List Nat), (-3 : Int), ())).getD (false, ([] : List Nat), (0 : Int), ())) (2 : Int) false).isSome = true)) (ck (((bE (aN ⟨#[48, 46, 49, 50, 53]⟩)).isSome = true)) (ck (((bE (aN ⟨#[48, 46, 49]⟩)).isSome = true)) (ck (((cC (aN ⟨#[48, 46, 49]⟩) (20 : Int)).isSome = true)) (ck (I64 (((((aK (false, ([1] : List Nat), (-3 : Int), ()) (2 : Int) false).getD (([] : List Nat), (0 : Int), ())).2).1) + ((((aK (false, ([1] : List Nat), (-3 : Int), ()) (2 : Int) true).getD (([] : List Nat), (0 : Int), ())).2).1))) (ck (I64 ((((((aK (false, ([1] : List Nat), (-3 : Int), ()) (2 : Int) false).getD (([] : List Nat), (0 : Int), ())).2).1) + ((((aK (false, ([1] : List Nat), (-3 : Int), ()) (2 : Int) true).getD (([] : List Nat), (0 : Int), ())).2).1)) + ((((aK ((cB (false, ([1] : List Nat), (-3 : Int), ())).getD (false, ([] : List Nat), (0 : Int), ())) (2 : Int) false).getD (([] : List Nat), (0 : Int), ())).2).1))) (ck (I64 (((((((aK (false, ([1] : List Nat), (-3 : Int), ()) (2 : Int) false).getD (([] : List Nat), (0 : Int), ())).2).1) + ((((aK (false, ([1] : List Nat), (-3 : Int), ()) (2 : Int) true).getD (([] : List Nat), (0 : Int), ())).2).1)) + ((((aK ((cB (false, ([1] : List Nat), (-3 : Int), ())).getD (false, ([] : List Nat), (0 : Int), ())) (2 : Int) false).getD (([] : List Nat), (0 : Int), ())).2).1)) + ((((bE (aN ⟨#[48, 46, 49, 50, 53]⟩)).getD ((false, ([] : List Nat), (0 : Int), ()), (0 : Int), ())).2).1))) (ck (I64 ((((((((aK (false, ([1] : List Nat), (-3 : Int), ()) (2 : Int) false).getD (([] : List Nat), (0 : Int), ())).2).1) + ((((aK (false, ([1] : List Nat), (-3 : Int), ()) (2 : Int) true).getD (([] : List Nat), (0 : Int), ())).2).1)) + ((((aK ((cB (false, ([1] : List Nat), (-3 : Int), ())).getD (false, ([] : List Nat), (0 : Int), ())) (2 : Int) false).getD (([] : List Nat), (0 : Int), ())).2).1)) + ((((bE (aN ⟨#[48, 46, 49, 50, 53]⟩)).getD ((false, ([] : List Nat), (0 : Int), ()), (0 : Int), ())).2).1)) + ((((cC (aN ⟨#[48, 46, 49]⟩) (20 : Int)).getD (((false, ([] : List Nat), (0 : Int), ()), (false, ([] : List Nat), (0 : Int), ()), ()), (0 : Int), ())).2).1))) (ck ((((((((((((((aK (false, ([1] : List Nat), (-3 : Int), ()) (2 : Int) false).getD (([] : List Nat), (0 : Int), ())).2).1) + ((((aK (false, ([1] : List Nat), (-3 : Int), ()) (2 : Int) true).getD (([] : List Nat), (0 : Int), ())).2).1)) + ((((aK ((cB (false, ([1] : List Nat), (-3 : Int), ())).getD (false, ([] : List Nat), (0 : Int), ())) (2 : Int) false).getD (([] : List Nat), (0 : Int), ())).2).1)) + ((((bE (aN ⟨#[48, 46, 49, 50, 53]⟩)).getD ((false, ([] : List Nat), (0 : Int), ()), (0 : Int), ())).2).1)) + ((((cC (aN ⟨#[48, 46, 49]⟩) (20 : Int)).getD (((false, ([] : List Nat), (0 : Int), ()), (false, ([] : List Nat), (0 : Int), ()), ()), (0 : Int), ())).2).1)) = (0 : Int)) ∧ ((((aK (false, ([1] : List Nat), (-3 : Int), ()) (2 : Int) false).getD (([] : List Nat), (0 : Int), ())).1) = (aN ⟨#[48, 46, 49, 50]⟩))) ∧ ((((aK (false, ([1] : List Nat), (-3 : Int), ()) (2 : Int) true).getD (([] : List Nat), (0 : Int), ())).1) = (aN ⟨#[48, 46, 49, 51]⟩))) ∧ ((((aK ((cB (false, ([1] : List Nat), (-3 : Int), ())).getD (false, ([] : List Nat), (0 : Int), ())) (2 : Int) false).getD (([] : List Nat), (0 : Int), ())).1) = (aN ⟨#[45, 48, 46, 49, 51]⟩))) → (((dN (((bE (aN ⟨#[48, 46, 49, 50, 53]⟩)).getD ((false, ([] : List Nat), (0 : Int), ()), (0 : Int), ())).1) (false, ([1] : List Nat), (-3 : Int), ())).isSome = true)))) (ck ((((((((((((((((aK (false, ([1] : List Nat), (-3 : Int), ()) (2 : Int) false).getD (([] : List Nat), (0 : Int), ())).2).1) + ((((aK (false, ([1] : List Nat), (-3 : Int), ()) (2 : Int) true).getD (([] : List Nat), (0 : Int), ())).2).1)) + ((((aK ((cB (false, ([1] : List Nat), (-3 : Int), ())).getD (false, ([] : List Nat), (0 : Int), ())) (2 : Int) false).getD (([] : List Nat), (0 : Int), ())).2).1)) + ((((bE (aN ⟨#[48, 46, 49, 50, 53]⟩)).getD ((false, ([] : List Nat), (0 : Int), ()), (0 : Int), ())).2).1)) + ((((cC (aN ⟨#[48, 46, 49]⟩) (20 : Int)).getD (((false, ([] : List Nat), (0 : Int), ()), (false, ([] : List Nat), (0 : Int), ()), ()), (0 : Int), ())).2).1)) = (0 : Int)) ∧ ((((aK (false, ([1] : List Nat), (-3 : Int), ()) (2 : Int) false).getD (([] : List Nat), (0 : Int), ())).1) = (aN ⟨#[48, 46, 49, 50]⟩))) ∧ ((((aK (false, ([1] : List Nat), (-3 : Int), ()) (2 : Int) true).getD (([] : List Nat), (0 : Int), ())).1) = (aN ⟨#[48, 46, 49, 51]⟩))) ∧ ((((aK ((cB (false, ([1] : List Nat), (-3 : Int), ())).getD (false, ([] : List Nat), (0 : Int), ())) (2 : Int) false).getD (([] : List Nat), (0 : Int), ())).1) = (aN ⟨#[45, 48, 46, 49, 51]⟩))) ∧ (((dN (((bE (aN ⟨#[48, 46, 49, 50, 53]⟩)).getD ((false, ([] : List Nat), (0 : Int), ()), (0 : Int), ())).1) (false, ([1] : List Nat), (-3 : Int), ())).getD false) = true)) ∧ (((((bE (aN ⟨#[48, 46, 49]⟩)).getD ((false, ([] : List Nat), (0 : Int), ()), (0 : Int), ())).2).1) = (6 : Int))) → (((cA ((((cC (aN ⟨#[48, 46, 49]⟩) (20 : Int)).getD (((false, ([] : List Nat), (0 : Int), ()), (false, ([] : List Nat), (0 : Int), ()), ()), (0 : Int), ())).1).1) (((((cC (aN ⟨#[48, 46, 49]⟩) (20 : Int)).getD (((false, ([] : List Nat), (0 : Int), ()), (false, ([] : List Nat), (0 : Int), ()), ()), (0 : Int), ())).1).2).1)).isSome = true)))) (ck (((((((((((((((((aK (false, ([1] : List Nat), (-3 : Int), ()) (2 : Int) false).getD (([] : List Nat), (0 : Int), ())).2).1) + ((((aK (false, ([1] : List Nat), (-3 : Int), ()) (2 : Int) true).getD (([] : List Nat), (0 : Int), ())).2).1)) + ((((aK ((cB (false, ([1] : List Nat), (-3 : Int), ())).getD (false, ([] : List Nat), (0 : Int), ())) (2 : Int) false).getD (([] : List Nat), (0 : Int), ())).2).1)) + ((((bE (aN ⟨#[48, 46, 49, 50, 53]⟩)).getD ((false, ([] : List Nat), (0 : Int), ()), (0 : Int), ())).2).1)) + ((((cC (aN ⟨#[48, 46, 49]⟩) (20 : Int)).getD (((false, ([] : List Nat), (0 : Int), ()), (false, ([] : List Nat), (0 : Int), ()), ()), (0 : Int), ())).2).1)) = (0 : Int)) ∧ ((((aK (false, ([1] : List Nat), (-3 : Int), ()) (2 : Int) false).getD (([] : List Nat), (0 : Int), ())).1) = (aN ⟨#[48, 46, 49, 50]⟩))) ∧ ((((aK (false, ([1] : List Nat), (-3 : Int), ()) (2 : Int) true).getD (([] : List Nat), (0 : Int), ())).1) = (aN ⟨#[48, 46, 49, 51]⟩))) ∧ ((((aK ((cB (false, ([1] : List Nat), (-3 : Int), ())).getD (false, ([] : List Nat), (0 : Int), ())) (2 : Int) false).getD (([] : List Nat), (0 : Int), ())).1) = (aN ⟨#[45, 48, 46, 49, 51]⟩))) ∧ (((dN (((bE (aN ⟨#[48, 46, 49, 50, 53]⟩)).getD ((false, ([] : List Nat), (0 : Int), ()), (0 : Int), ())).1) (false, ([1] : List Nat), (-3 : Int), ())).getD false) = true)) ∧ (((((bE (aN ⟨#[48, 46, 49]⟩)).getD ((false, ([] : List Nat), (0 : Int), ()), (0 : Int), ())).2).1) = (6 : Int))) ∧ (((cA ((((cC (aN ⟨#[48, 46, 49]⟩) (20 : Int)).getD (((false, ([] : List Nat), (0 : Int), ()), (false, ([] : List Nat), (0 : Int), ()), ()), (0 : Int), ())).1).1) (((((cC (aN ⟨#[48, 46, 49]⟩) (20 : Int)).getD (((false, ([] : List Nat), (0 : Int), ()), (false, ([] : List Nat), (0 : Int), ()), ()), (0 : Int), ())).1).2).1)).getD (0 : Int)) < (0 : Int))) → (((bU (aN ⟨#[49, 46, 53, 101, 45, 51]⟩)).isSome = true)))) (ck ((((((((((((((((((aK (false, ([1] : List Nat), (-3 : Int), ()) (2 : Int) false).getD (([] : List Nat), (0 : Int), ())).2).1) + ((((aK (false, ([1] : List Nat), (-3 : Int), ()) (2 : Int) true).getD (([] : List Nat), (0 : Int), ())).2).1)) + ((((aK ((cB (false, ([1] : List Nat), (-3 : Int), ())).getD (false, ([] : List Nat), (0 : Int), ())) (2 : Int) false).getD (([] : List Nat), (0 : Int), ())).2).1)) + ((((bE (aN ⟨#[48, 46, 49, 50, 53]⟩)).getD ((false, ([] : List Nat), (0 : Int), ()), (0 : Int), ())).2).1)) + ((((cC (aN ⟨#[48, 46, 49]⟩) (20 : Int)).getD (((false, ([] : List Nat), (0 : Int), ()), (false, ([] : List Nat), (0 : Int), ()), ()), (0 : Int), ())).2).1)) = (0 : Int)) ∧ ((((aK (false, ([1] : List Nat), (-3 : Int), ()) (2 : Int) false).getD (([] : List Nat), (0 : Int), ())).1) = (aN ⟨#[48, 46, 49, 50]⟩))) ∧ ((((aK (false, ([1] : List Nat), (-3 : Int), ()) (2 : Int) true).getD (([] : List Nat), (0 : Int), ())).1) = (aN ⟨#[48, 46, 49, 51]⟩))) ∧ ((((aK ((cB (false, ([1] : List Nat), (-3 : Int), ())).getD (false, ([] : List Nat), (0 : Int), ())) (2 : Int) false).getD (([] : List Nat), (0 : Int), ())).1) = (aN ⟨#[45, 48, 46, 49, 51]⟩))) ∧ (((dN (((bE (aN ⟨#[48, 46, 49, 50, 53]⟩)).getD ((false, ([] : List Nat), (0 : Int), ()), (0 : Int), ())).1) (false, ([1] : List Nat), (-3 : Int), ())).getD false) = true)) ∧ (((((bE (aN ⟨#[48, 46, 49]⟩)).getD ((false, ([] : List Nat), (0 : Int), ()), (0 : Int), ())).2).1) = (6 : Int))) ∧ (((cA ((((cC (aN ⟨#[48, 46, 49]⟩) (20 : Int)).getD (((false, ([] : List Nat), (0 : Int), ()), (false, ([] : List Nat), (0 : Int), ()), ()), (0 : Int), ())).1).1) (((((cC (aN ⟨#[48, 46, 49]⟩) (20 : Int)).getD (((false, ([] : List Nat), (0 : Int), ()), (false, ([] : List Nat), (0 : Int), ()), ()), (0 : Int), ())).1).2).1)).getD (0 : Int)) < (0 : Int))) ∧ (((bU (aN ⟨#[49, 46, 53, 101, 45, 51]⟩)).getD false) = true)) → (((bU (aN ⟨#[49, 46]⟩)).isSome = true)))) (ck (((((((((((((((((((aK (false, ([1] : List Nat), (-3 : Int), ()) (2 : Int) false).getD (([] : List Nat), (0 : Int), ())).2).1) + ((((aK (false, ([1] : List Nat), (-3 : Int), ()) (2 : Int) true).getD (([] : List Nat), (0 : Int), ())).2).1)) + ((((aK ((cB (false, ([1] : List Nat), (-3 : Int), ())).getD (false, ([] : List Nat), (0 : Int), ())) (2 : Int) false).getD (([] : List Nat), (0 : Int), ())).2).1)) + ((((bE (aN ⟨#[48, 46, 49, 50, 53]⟩)).getD ((false, ([] : List Nat), (0 : Int), ()), (0 : Int), ())).2).1)) + ((((cC (aN ⟨#[48, 46, 49]⟩) (20 : Int)).getD (((false, ([] : List Nat), (0 : Int), ()), (false, ([] : List Nat), (0 : Int), ()), ()), (0 : Int), ())).2).1)) = (0 : Int)) ∧ ((((aK (false, ([1] : List Nat), (-3 : Int), ()) (2 : Int) false).getD (([] : List Nat), (0 : Int), ())).1) = (aN ⟨#[48, 46, 49, 50]⟩))) ∧ ((((aK (false, ([1] : List Nat), (-3 : Int), ()) (2 : Int) true).getD (([] : List Nat), (0 : Int), ())).1) = (aN ⟨#[48, 46, 49, 51]⟩))) ∧ ((((aK ((cB (false, ([1] : List Nat), (-3 : Int), ())).getD (false, ([] : List Nat), (0 : Int), ())) (2 : Int) false).getD (([] : List Nat), (0 : Int), ())).1) = (aN ⟨#[45, 48, 46, 49, 51]⟩))) ∧ (((dN (((bE (aN ⟨#[48, 46, 49, 50, 53]⟩)).getD ((false, ([] : List Nat), (0 : Int), ()), (0 : Int), ())).1) (false, ([1] : List Nat), (-3 : Int), ())).getD false) = true)) ∧ (((((bE (aN ⟨#[48, 46, 49]⟩)).getD ((false, ([] : List Nat), (0 : Int), ()), (0 : Int), ())).2).1) = (6 : Int))) ∧ (((cA ((((cC (aN ⟨#[48, 46, 49]⟩) (20 : Int)).getD (((false, ([] : List Nat), (0 : Int), ()), (false, ([] : List Nat), (0 : Int), ()), ()), (0 : Int), ())).1).1) (((((cC (aN ⟨#[48, 46, 49]⟩) (20 : Int)).getD (((false, ([] : List Nat), (0 : Int), ()), (false, ([] : List Nat), (0 : Int), ()), ()), (0 : Int), ())).1).2).1)).getD (0 : Int)) < (0 : Int))) ∧ (((bU (aN ⟨#[49, 46, 53, 101, 45, 51]⟩)).getD false) = true)) ∧ (¬ (((bU (aN ⟨#[49, 46]⟩)).getD false) = true))) → (((bU (aN ⟨#[46, 53]⟩)).isSome = true)))) (ck ((((((((((((((((((((aK (false, ([1] : List Nat), (-3 : Int), ()) (2 : Int) false).getD (([] : List Nat), (0 : Int), ())).2).1) + ((((aK (false, ([1] : List Nat), (-3 : Int), ()) (2 : Int) true).getD (([] : List Nat), (0 : Int), ())).2).1)) + ((((aK ((cB (false, ([1] : List Nat), (-3 : Int), ())).getD (false, ([] : List Nat), (0 : Int), ())) (2 : Int) false).getD (([] : List Nat), (0 : Int), ())).2).1)) + ((((bE (aN ⟨#[48, 46, 49, 50, 53]⟩)).getD ((false, ([] : List Nat), (0 : Int), ()), (0 : Int), ())).2).1)) + ((((cC (aN ⟨#[48, 46, 49]⟩) (20 : Int)).getD (((false, ([] : List Nat), (0 : Int), ()), (false, ([] : List Nat), (0 : Int), ()), ()), (0 : Int), ())).2).1)) = (0 : Int)) ∧ ((((aK (false, ([1] : List Nat), (-3 : Int), ()) (2 : Int) false).getD (([] : List Nat), (0 : Int), ())).1) = (aN ⟨#[48, 46, 49, 50]⟩))) ∧ ((((aK (false, ([1] : List Nat), (-3 : Int), ()) (2 : Int) true).getD (([] : List Nat), (0 : Int), ())).1) = (aN ⟨#[48, 46, 49, 51]⟩))) ∧ ((((aK ((cB (false, ([1] : List Nat), (-3 : Int), ())).getD (false, ([] : List Nat), (0 : Int), ())) (2 : Int) false).getD (([] : List Nat), (0 : Int), ())).1) = (aN ⟨#[45, 48, 46, 49, 51]⟩))) ∧ (((dN (((bE (aN ⟨#[48, 46, 49, 50, 53]⟩)).getD ((false, ([] : List Nat), (0 : Int), ()), (0 : Int), ())).1) (false, ([1] : List Nat), (-3 : Int), ())).getD false) = true)) ∧ (((((bE (aN ⟨#[48, 46, 49]⟩)).getD ((false, ([] : List Nat), (0 : Int), ()), (0 : Int), ())).2).1) = (6 : Int))) ∧ (((cA ((((cC (aN ⟨#[48, 46, 49]⟩) (20 : Int)).getD (((false, ([] : List Nat), (0 : Int), ()), (false, ([] : List Nat), (0 : Int), ()), ()), (0 : Int), ())).1).1) (((((cC (aN ⟨#[48, 46, 49]⟩) (20 : Int)).getD (((false, ([] : List Nat), (0 : Int), ()), (false, ([] : List Nat), (0 : Int), ()), ()), (0 : Int), ())).1).2).1)).getD (0 : Int)) < (0 : Int))) ∧ (((bU (aN ⟨#[49, 46, 53, 101, 45, 51]⟩)).getD false) = true)) ∧ (¬ (((bU (aN ⟨#[49, 46]⟩)).getD false) = true))) ∧ (¬ (((bU (aN ⟨#[46, 53]⟩)).getD false) = true))) → (((bU (aN ⟨#[49, 101, 49, 48, 49]⟩)).isSome = true)))) (ck (((((((((((((((((((((aK (false, ([1] : List Nat), (-3 : Int), ()) (2 : Int) false).getD (([] : List Nat), (0 : Int), ())).2).1) + ((((aK (false, ([1] : List Nat), (-3 : Int), ()) (2 : Int) true).getD (([] : List Nat), (0 : Int), ())).2).1)) + ((((aK ((cB (false, ([1] : List Nat), (-3 : Int), ())).getD (false, ([] : List Nat), (0 : Int), ())) (2 : Int) false).getD (([] : List Nat), (0 : Int), ())).2).1)) + ((((bE (aN ⟨#[48, 46, 49, 50, 53]⟩)).getD ((false, ([] : List Nat), (0 : Int), ()), (0 : Int), ())).2).1)) + ((((cC (aN ⟨#[48, 46, 49]⟩) (20 : Int)).getD (((false, ([] : List Nat), (0 : Int), ()), (false, ([] : List Nat), (0 : Int), ()), ()), (0 : Int), ())).2).1)) = (0 : Int)) ∧ ((((aK (false, ([1] : List Nat), (-3 : Int), ()) (2 : Int) false).getD (([] : List Nat), (0 : Int), ())).1) = (aN ⟨#[48, 46, 49, 50]⟩))) ∧ ((((aK (false, ([1] : List Nat), (-3 : Int), ()) (2 : Int) true).getD (([] : List Nat), (0 : Int), ())).1) = (aN ⟨#[48, 46, 49, 51]⟩))) ∧ ((((aK ((cB (false, ([1] : List Nat), (-3 : Int), ())).getD (false, ([] : List Nat), (0 : Int), ())) (2 : Int) false).getD (([] : List Nat), (0 : Int), ())).1) = (aN ⟨#[45, 48, 46, 49, 51]⟩))) ∧ (((dN (((bE (aN ⟨#[48, 46, 49, 50, 53]⟩)).getD ((false, ([] : List Nat), (0 : Int), ()), (0 : Int), ())).1) (false, ([1] : List Nat), (-3 : Int), ())).getD false) = true)) ∧ (((((bE (aN ⟨#[48, 46, 49]⟩)).getD ((false, ([] : List Nat), (0 : Int), ()), (0 : Int), ())).2).1) = (6 : Int))) ∧ (((cA ((((cC (aN ⟨#[48, 46, 49]⟩) (20 : Int)).getD (((false, ([] : List Nat), (0 : Int), ()), (false, ([] : List Nat), (0 : Int), ()), ()), (0 : Int), ())).1).1) (((((cC (aN ⟨#[48, 46, 49]⟩) (20 : Int)).getD (((false, ([] : List Nat), (0 : Int), ()), (false, ([] : List Nat), (0 : Int), ()), ()), (0 : Int), ())).1).2).1)).getD (0 : Int)) < (0 : Int))) ∧ (((bU (aN ⟨#[49, 46, 53, 101, 45, 51]⟩)).getD false) = true)) ∧ (¬ (((bU (aN ⟨#[49, 46]⟩)).getD false) = true))) ∧ (¬ (((bU (aN ⟨#[46, 53]⟩)).getD false) = true))) ∧ (¬ (((bU (aN ⟨#[49, 101, 49, 48, 49]⟩)).getD false) = true))) → (((bU (aN ⟨#[]⟩)).isSome = true)))) (some ((((((((((((decide (((((((((aK (false, ([1] : List Nat), (-3 : Int), ()) (2 : Int) false).getD (([] : List Nat), (0 : Int), ())).2).1) + ((((aK (false, ([1] : List Nat), (-3 : Int), ()) (2 : Int) true).getD (([] : List Nat), (0 : Int), ())).2).1)) + ((((aK ((cB (false, ([1] : List Nat), (-3 : Int), ())).getD (false, ([] : List Nat), (0 : Int), ())) (2 : Int) false).getD (([] : List Nat), (0 : Int), ())).2).1)) + ((((bE (aN ⟨#[48, 46, 49, 50, 53]⟩)).getD ((false, ([] : List Nat), (0 : Int), ()), (0 : Int), ())).2).1)) + ((((cC (aN ⟨#[48, 46, 49]⟩) (20 : Int)).getD (((false, ([] : List Nat), (0 : Int), ()), (false, ([] : List Nat), (0 : Int), ()), ()), (0 : Int), ())).2).1)) = (0 : Int))) && (decide ((((aK (false, ([1] : List Nat), (-3 : Int), ()) (2 : Int) false).getD (([] : List Nat), (0 : Int), ())).1) = (aN ⟨#[48, 46, 49, 50]⟩)))) && (decide ((((aK (false, ([1] : List Nat), (-3 : Int), ()) (2 : Int) true).getD (([] : List Nat), (0 : Int), ())).1) = (aN ⟨#[48, 46, 49, 51]⟩)))) && (decide ((((aK ((cB (false, ([1] : List Nat), (-3 : Int), ())).getD (false, ([] : List Nat), (0 : Int), ())) (2 : Int) false).getD (([] : List Nat), (0 : Int), ())).1) = (aN ⟨#[45, 48, 46, 49, 51]⟩)))) && ((dN (((bE (aN ⟨#[48, 46, 49, 50, 53]⟩)).getD ((false, ([] : List Nat), (0 : Int), ()), (0 : Int), ())).1) (false, ([1] : List Nat), (-3 : Int), ())).getD false)) && (decide (((((bE (aN ⟨#[48, 46, 49]⟩)).getD ((false, ([] : List Nat), (0 : Int), ()), (0 : Int), ())).2).1) = (6 : Int)))) && (decide (((cA ((((cC (aN ⟨#[48, 46, 49]⟩) (20 : Int)).getD (((false, ([] : List Nat), (0 : Int), ()), (false, ([] : List Nat), (0 : Int), ()), ()), (0 : Int), ())).1).1) (((((cC (aN ⟨#[48, 46, 49]⟩) (20 : Int)).getD (((false, ([] : List Nat), (0 : Int), ()), (false, ([] : List Nat), (0 : Int), ()), ()), (0 : Int), ())).1).2).1)).getD (0 : Int)) < (0 : Int)))) && ((bU (aN ⟨#[49, 46, 53, 101, 45, 51]⟩)).getD false)) && (!((bU (aN ⟨#[49, 46]⟩)).getD false))) && (!((bU (aN ⟨#[46, 53]⟩)).getD false))) && (!((bU (aN ⟨#[49, 101, 49, 48, 49]⟩)).getD false))) && (!((bU (aN ⟨#[]⟩)).getD false)))))))))))))))))))))
def aDp : PlR := ⟨[(0, .A []), (1, .B [1]), (2, .A [1, 2, 3]), (3, .A [1, 2, 3, 4, 5]), (4, .A [1, 2, 3, 4, 5, 6, 7]), (5, .B [1, 2, 3, 4, 5, 6, 7, 8, 9]), (6, .B [1, 2, 3, 4, 5, 6, 7, 8, 9, 11]), (7, .B [1, 2, 3, 4, 5, 6, 7, 8, 9, 11, 12, 13]), (8, .A [0])], []⟩
def aEX : Ty := .unit
noncomputable def tR : aL := mSpec aEX (.one .bool) (fun x => pI )
noncomputable def lK : List (FuncId × aL) := [(19, rI), (21, tQ), (23, wD), (27, wK), (31, pF), (32, nX), (52, wC)]
theorem aMf : bW Tryz.prog GL lK := .cons aHt (by kernel_rfl) (.cons aKI (by kernel_rfl) (.cons aL2 (by kernel_rfl) (.cons aMd (by kernel_rfl) (.cons aEI (by kernel_rfl) (.cons aDo (by kernel_rfl) (.cons aLZ (by kernel_rfl) (.nil)))))))
theorem aHK : gam lK 19 = some rI := rfl
theorem aHL : gam lK 21 = some tQ := rfl
theorem aHM : gam lK 23 = some wD := rfl
theorem aHN : gam lK 27 = some wK := rfl
theorem aHO : gam lK 31 = some pF := rfl
theorem aHP : gam lK 32 = some nX := rfl
theorem aHQ : gam lK 52 = some wC := rfl
attribute [go_sem] aEX aDp aHK aHL aHM aHN aHO aHP aHQ
set_option maxHeartbeats 4000000 in
theorem aKL : FOK Tryz.prog GL 18 tR := by
 refine cG (bI aMf) mix Tryz.func18 rfl (by kernel_rfl) (by decide) aDp fun w0 S x Θ hw h hF => ?_
 simp only [cF, go_sem]
 replace h : sat (pI) _ := h
 unfold pI at h
 obtain ⟨g0, h⟩ := aI h
 repeat (refine ⟨by first | with_reducible assumption | omega | (intros; first | assumption | omega) | (simp only [go_sem] at *; first | assumption | omega) | decide, ?_⟩)
 obtain ⟨g0, h⟩ := aI h
 repeat (refine ⟨by first | with_reducible assumption | omega | (intros; first | assumption | omega) | (simp only [go_sem] at *; first | assumption | omega) | decide, ?_⟩)
 obtain ⟨g0, h⟩ := aI h
 obtain ⟨g1, h⟩ := aI h
 repeat (refine ⟨by first | with_reducible assumption | omega | (intros; first | assumption | omega) | (simp only [go_sem] at *; first | assumption | omega) | decide, ?_⟩)
 obtain ⟨g0, h⟩ := aI h
 repeat (refine ⟨by first | with_reducible assumption | omega | (intros; first | assumption | omega) | (simp only [go_sem] at *; first | assumption | omega) | decide, ?_⟩)
 obtain ⟨g0, h⟩ := aI h
 repeat (refine ⟨by first | with_reducible assumption | omega | (intros; first | assumption | omega) | (simp only [go_sem] at *; first | assumption | omega) | decide, ?_⟩)
 obtain ⟨g0, h⟩ := aI h
 repeat (refine ⟨by first | with_reducible assumption | omega | (intros; first | assumption | omega) | (simp only [go_sem] at *; first | assumption | omega) | decide, ?_⟩)
 obtain ⟨g0, h⟩ := aI h
 obtain ⟨g1, h⟩ := aI h
 obtain ⟨g2, h⟩ := aI h
 obtain ⟨g3, h⟩ := aI h
 obtain ⟨g4, h⟩ := aI h
 obtain ⟨g5, h⟩ := aI h
 obtain ⟨g6, h⟩ := aI h
 obtain ⟨g7, h⟩ := aI h
 obtain ⟨g8, h⟩ := aI h
 obtain ⟨g9, h⟩ := aI h
 obtain ⟨g10, h⟩ := aI h
 try simp only [I64, I32] at g0
 try simp only [I64, I32] at g1
 try simp only [I64, I32] at g2
 try simp only [I64, I32] at g3
 repeat (refine ⟨by first | with_reducible assumption | omega | (intros; first | assumption | omega) | (simp only [go_sem] at *; first | assumption | omega) | (intro q0; (try have e4 := g4 (by first | exact q0 | omega | (simpa using q0))); (try have e5 := g5 (by first | exact q0 | omega | (simpa using q0))); (try have e6 := g6 (by first | exact q0 | omega | (simpa using q0))); (try have e7 := g7 (by first | exact q0 | omega | (simpa using q0))); (try have e8 := g8 (by first | exact q0 | omega | (simpa using q0))); (try have e9 := g9 (by first | exact q0 | omega | (simpa using q0))); (try have e10 := g10 (by first | exact q0 | omega | (simpa using q0))); first | assumption | omega) | decide, ?_⟩)
 exact aS hF [.tmp 0] rfl rfl rfl (aC h) (by simp only [bA, go_sem])
attribute [go_sem] tR
end Nu
end Go.Proofs
namespace Go.Proofs
open Go.Vc
set_option maxRecDepth 20000
namespace Nu
def aAc (u : Nat) : List Nat := dgs (Lib.nDigits u) u
theorem aTH {u : Nat} (h : u < 10) : aAc u = [48 + u] := by
 unfold aAc
 rw [Lib.nDigits_small h]
 simp [dgs, Nat.mod_eq_of_lt h]
theorem aNi {u : Nat} (h : ¬ u < 10) (h2 : u < 100) : aAc u = [48 + u / 10, 48 + u % 10] := by
 unfold aAc
 rw [Lib.nDigits_big h, Lib.nDigits_small (by omega)]
 have : u / 10 % 10 = u / 10 := Nat.mod_eq_of_lt (by omega)
 simp [dgs, List.range_succ, this]
theorem aPj : ∀ u : Fin 100, (if u.val < 10 then List.drop u.val (List.take (u.val + 1) (aN vG)) else List.drop (u.val * 2) (List.take (u.val * 2 + 2) (aN vF))) = if u.val < 10 then [48 + u.val] else [48 + u.val / 10, 48 + u.val % 10] := by
 decide +kernel
theorem aPk : (aN vG).length = 36 ∧ (aN vF).length = 200 := by decide +kernel
theorem aRe (u : Nat) (h : u < 100) : gA (u : Int) = some (aAc u) := by
 have ht := aPj ⟨u, h⟩
 obtain ⟨l1, l2⟩ := aPk
 simp only at ht
 unfold gA
 by_cases h1 : u < 10
 ·rw [if_pos h1, if_pos h1] at ht
  rw [if_pos (by omega), l1, aTH h1]
  refine aB (by constructor <;> omega) (aB (by constructor <;> omega) ?_)
  rw [Int.toNat_natCast, show ((u : Int) + 1).toNat = u + 1 from by omega, ht]
 ·rw [if_neg h1, if_neg h1] at ht
  rw [if_neg (by omega), l2, aNi h1 h]
  refine aB (by constructor <;> omega) (aB (by constructor <;> omega) (aB (by constructor <;> omega) (aB (by constructor <;> omega) ?_)))
  rw [show ((u : Int) * 2).toNat = u * 2 from by omega, show ((u : Int) * 2 + 2).toNat = u * 2 + 2 from by omega, ht]
theorem aSw : ∀ k : Fin 20, ([1, 10, 100, 1000, 10000, 100000, 1000000, 10000000, 100000000, 1000000000, 10000000000, 100000000000, 1000000000000, 10000000000000, 100000000000000, 1000000000000000, 10000000000000000, 100000000000000000, 1000000000000000000, 10000000000000000000] : List Nat).getD k.val 0 = 10 ^ k.val := by decide +kernel
theorem aPl {u : Nat} (h1 : u ≠ 0) (h : u < 18446744073709551616) : Lib.bitLen u = bl u := by
 obtain ⟨a, b, c⟩ := Lib.bitLenAux_bounds 64 u h (by omega)
 unfold Lib.bitLen
 have h2 := oG c
 have h3 := aGE b
 omega
theorem aIS (u : Nat) (h1 : u ≠ 0) (h : u < 18446744073709551616) : bP u = some (Lib.nDigits u : Int) := by
 obtain ⟨k1, k2⟩ := Lib.numDigits_eq u (by omega) h
 rw [aPl h1 h] at k1 k2
 have hb := aO2 h
 have hl : Int.fdiv ((bl u : Int) * 78913) (2 ^ 18) = (Lib.l10 (bl u) : Int) := by
  unfold Lib.l10
  rw [Int.fdiv_eq_ediv_of_nonneg _ (by decide)]
  omega
 have hlog : bT (cQ u) = some (Lib.l10 (bl u) : Int) := by
  unfold bT cQ
  refine aB (by constructor <;> omega) ?_
  rw [hl]
 have hp : p10.getD (Lib.l10 (bl u)) 0 = 10 ^ Lib.l10 (bl u) := by
  rw [aQA]; exact aSw ⟨Lib.l10 (bl u), by omega⟩
 have hbool : ∀ b : Bool, dZ b = some (if b = true then 1 else 0) := fun b => by cases b <;> rfl
 unfold bP
 simp only [hlog, Option.getD_some, Int.toNat_natCast, hp, hbool]
 refine aB rfl (aB (by constructor <;> omega) (aB rfl ?_))
 by_cases hh : 10 ^ Lib.l10 (bl u) ≤ u
 ·rw [if_pos hh] at k1
  simp only [hh, decide_true, if_true]
  refine aB (by constructor <;> omega) ?_
  rw [show (Lib.l10 (bl u) : Int) + 1 = (Lib.nDigits u : Int) from by omega]
 ·rw [if_neg hh] at k1
  simp only [hh, decide_false, Bool.false_eq_true, if_false]
  refine aB (by constructor <;> omega) ?_
  rw [show (Lib.l10 (bl u) : Int) + 0 = (Lib.nDigits u : Int) from by omega]
theorem aIT (u : Nat) (h : u < 18446744073709551616) : cY u 10 = some (aAc u) := by
 have key : eJ u 10 = some (aAc u) := by
  unfold eJ
  rw [if_pos rfl]
  by_cases h1 : u < 100
  ·have hw : IntKind.i64.wrap ((u : Nat) : Int) = (u : Int) := by
    simp only [IntKind.wrap, IntKind.signed, IntKind.bits]; simp; omega
   rw [if_pos h1, hw]
   simp only [aRe u h1, Option.getD_some]
   exact aB rfl rfl
  ·rw [if_neg h1]
   have hn := aIS u (by omega) h
   obtain ⟨k1, k2⟩ := Lib.numDigits_eq u (by omega) h
   have hle : Lib.nDigits u ≤ 20 := by split at k1 <;> omega
   have hpos := Lib.nDigits_pos u
   have hlt := Lib.lt_pow_nDigits u
   simp only [hn, Option.getD_some]
   have e : ((Lib.nDigits u : Int) - 0).toNat = Lib.nDigits u := by omega
   rw [e]
   have hf : dW 0 (Lib.nDigits u) u (List.replicate 24 0) = some (aAc u ++ (List.replicate 24 0).drop (0 + Lib.nDigits u)) := by
    unfold dW
    refine aB (by omega) (aB hlt ?_)
    rfl
   refine aB rfl (aB (by constructor <;> omega) (cE hf (aB (by constructor <;> omega) (aB (by omega) ?_))))
   rw [List.drop_zero, List.take_append_of_le_length (by unfold aAc; rw [oP]; exact Nat.le_refl _), List.take_of_length_le (by unfold aAc; rw [oP]; exact Nat.le_refl _)]
 unfold cY
 rw [key]
 exact aB rfl rfl
end Nu
end Go.Proofs
namespace Go.Proofs
open Go.Vc
set_option maxRecDepth 20000
namespace Nu
theorem aTI : bL (aN rK) [48] = some false := by decide +kernel
theorem aTJ : bL (aN rJ) [48] = some false := by decide +kernel
theorem aTK : bL (aN oV) [48] = some true := by decide +kernel
theorem aUh : aN oV = List.replicate 64 48 := by decide +kernel
theorem aJy (c : Nat) (h : c ≤ 64) : aO [48] (c : Int) = some (List.replicate c 48) := by
 have hw : IntKind.i64.wrap ((c : Nat) : Int) = (c : Int) := by
  simp only [IntKind.wrap, IntKind.signed, IntKind.bits]; simp; omega
 have hm : bK (((([48] : List Nat).length : Nat) : Int) % (18446744073709551616 : Int)).toNat ((c : Int) % (18446744073709551616 : Int)).toNat = some (0, c, ()) := by
  have e1 : (((([48] : List Nat).length : Nat) : Int) % (18446744073709551616 : Int)).toNat = 1 := by decide
  have e2 : ((c : Int) % (18446744073709551616 : Int)).toNat = c := by omega
  rw [e1, e2]
  unfold bK bH
  simp only
  rw [Nat.one_mul, Nat.div_eq_of_lt (by omega), Nat.mod_eq_of_lt (by omega)]
 unfold aO
 by_cases h0 : c = 0
 ·subst h0; rfl
 by_cases h1 : c = 1
 ·subst h1; rfl
 rw [if_neg (by omega), if_neg (by omega), if_neg (by omega)]
 simp only [hm, Option.getD_some]
 refine aB rfl ?_
 rw [if_neg (by omega), if_neg (by decide)]
 refine aB (by decide) ?_
 rw [if_neg (by decide), if_neg (by decide), if_pos (by decide)]
 have hd : decide ((([48] : List Nat).getD 0 0) = 48) = true := by decide
 rw [hd]
 unfold dM
 rw [if_pos rfl]
 simp only [hm, Option.getD_some, hw, aTI, aTJ, aTK]
 refine aB (fun _ => rfl) ?_
 rw [if_neg (fun hh => by cases hh.2)]
 refine aB (fun _ => rfl) ?_
 rw [if_neg (fun hh => by cases hh.2)]
 refine aB (fun _ => rfl) ?_
 rw [if_pos ⟨by omega, trivial⟩, aUh]
 refine aB (by constructor; omega; rw [List.length_replicate]; omega) ?_
 rw [Int.toNat_natCast, List.take_replicate, Nat.min_eq_left h]
theorem aKM (a b x y : Nat) (hy : y < 10 ^ b) : dgs a x ++ dgs b y = dgs (a + b) (x * 10 ^ b + y) := by
 apply List.ext_getElem
 ·simp [dgs]
 ·intro i h1 h2
  have hi : i < a + b := by simpa [dgs] using h2
  by_cases hlt : i < a
  ·rw [List.getElem_append_left (by simpa [dgs] using hlt)]
   simp only [dgs, List.getElem_map, List.getElem_range]
   rw [show a + b - 1 - i = b + (a - 1 - i) from by omega, Nat.pow_add, ← Nat.div_div_eq_div_mul, Nat.mul_comm x, Nat.mul_add_div (Nat.pow_pos (by decide)), Nat.div_eq_of_lt hy, Nat.add_zero]
  ·rw [List.getElem_append_right (by simp [dgs]; omega)]
   simp only [dgs, List.length_map, List.length_range, List.getElem_map, List.getElem_range]
   have e1 : a + b - 1 - i = b - 1 - (i - a) := by omega
   rw [e1]
   congr 1
   have hk : b = (b - 1 - (i - a)) + (i - a + 1) := by omega
   have e2 : x * 10 ^ b = 10 ^ (b - 1 - (i - a)) * (x * 10 ^ (i - a) * 10) := by
    conv => lhs; rw [hk]
    rw [Nat.pow_add, Nat.pow_succ, Nat.mul_left_comm, Nat.mul_assoc x]
   rw [e2, Nat.mul_add_div (Nat.pow_pos (by decide)), Nat.add_comm, Nat.add_mul_mod_self_right]
theorem aMg (n : Nat) : dgs n 0 = List.replicate n 48 := by
 apply List.ext_getElem
 ·simp [dgs]
 ·intro i h1 h2; simp [dgs]
theorem aSx {k n r : Nat} (hk : k ≤ n) (hr : r < 10 ^ k) : List.replicate (n - k) 48 ++ dgs k r = dgs n r := by
 rw [← aMg, aKM _ _ _ _ hr, Nat.zero_mul, Nat.zero_add]
 congr 1; omega
theorem wL (u : Nat) (h0 : u ≠ 0) : 10 ^ (Lib.nDigits u - 1) ≤ u := by
 induction u using Nat.strongRecOn with
 | _ u ih =>
  by_cases h : u < 10
  ·rw [Lib.nDigits_small h]; simp; omega
  ·have := ih (u / 10) (by omega) (by omega)
   have hp := Lib.nDigits_pos (u / 10)
   rw [Lib.nDigits_big h, Nat.add_sub_cancel, show Lib.nDigits (u / 10) = Lib.nDigits (u / 10) - 1 + 1 from by omega, Nat.pow_succ]
   omega
theorem aKN {M b y : Nat} (hM : M ≠ 0) (hy : y < 10 ^ b) : Lib.nDigits (M * 10 ^ b + y) = Lib.nDigits M + b := by
 have h1 := Lib.lt_pow_nDigits M
 have h2 := Lib.nDigits_pos M
 have h3 := wL M hM
 have h4 := Nat.mul_le_mul_right (10 ^ b) h3
 have h5 := Nat.mul_le_mul_right (10 ^ b) (show M + 1 ≤ 10 ^ Lib.nDigits M from h1)
 rw [← Nat.pow_add] at h4 h5
 rw [Nat.add_mul, Nat.one_mul] at h5
 have := Lib.nDigits_unique (Lib.nDigits M - 1 + b) (M * 10 ^ b + y) (by omega) (by rw [show Lib.nDigits M - 1 + b + 1 = Lib.nDigits M + b from by omega]; omega)
 omega
theorem aRf {M b y : Nat} (hM : M ≠ 0) (hy : y < 10 ^ b) : aAc M ++ dgs b y = aAc (M * 10 ^ b + y) := by
 unfold aAc
 rw [aKN hM hy, aKM _ _ _ _ hy]
end Nu
end Go.Proofs
namespace Go.Proofs
open Go.Vc
set_option maxRecDepth 20000
namespace Nu
def cat (l : List (List Nat)) : List Nat := l.reverse.flatten
theorem aHR (l : List (List Nat)) (s : List Nat) : cat (l ++ [s]) = s ++ cat l := by simp [cat]
theorem aPm (l : List (List Nat)) (k : Nat) : cat l = cat (l.drop k) ++ cat (l.take k) := by
 unfold cat
 rw [← List.flatten_append, ← List.reverse_append, List.take_append_drop]
theorem aKO (l : List (List Nat)) (k : Nat) : (cat (l.take k)).length ≤ (cat l).length := by
 rw [aPm l k, List.length_append]; omega
theorem aSy (l : List (List Nat)) (h1 : l.length ≤ 1000000000) (h2 : (cat l).length ≤ 1000000000) : mI l = some (cat l) := by
 unfold mI
 refine cE (jZ (step := fun d : (List Nat) × Int => jM l d.1 d.2) (I := fun d => 0 ≤ d.2 ∧ d.2 ≤ l.length ∧ d.1 = cat (l.take d.2.toNat)) (fun d => ((l.length : Int) - d.2).toNat) (fun _ => cat l) ?_ (aN ⟨#[]⟩, 0) ⟨by simp, by simp, rfl⟩) rfl
 rintro ⟨out, i⟩ ⟨i0, i1, i2⟩
 have i0 : 0 ≤ i := i0
 have i1 : i ≤ l.length := i1
 have i2 : out = cat (l.take i.toNat) := i2
 show (∃ d', jM l out i = _ ∧ _) ∨ jM l out i = _
 unfold jM
 by_cases hi : i < l.length
 ·left
  have hk : i.toNat < l.length := by omega
  have ht : cat (l.take (i + 1).toNat) = l.getD i.toNat [] ++ out := by
   rw [show (i + 1).toNat = i.toNat + 1 from by omega, List.take_succ_eq_append_getElem hk, aHR, i2, List.getD_eq_getElem?_getD, List.getElem?_eq_getElem hk]; rfl
  have hlen := aKO l (i + 1).toNat
  rw [ht, List.length_append] at hlen
  refine ⟨(cat (l.take (i + 1).toNat), i + 1), ?_, ⟨by simp only; omega, by simp only; omega, rfl⟩, by simp only; omega, rfl⟩
  rw [if_pos hi]
  refine aB (by constructor <;> omega) (aB (by omega) (aB (by constructor <;> omega) ?_))
  rw [ht]
 ·right
  rw [if_neg hi, i2, List.take_of_length_le (by omega)]
def txt (n : Nat) : List Nat := if n = 0 then [] else aAc n
structure TxI (n : Nat) (m : List Nat) (l : List (List Nat)) (M rest : Nat) : Prop where
 m0 : m = lb M
 sum : n = M * 10 ^ (18 * l.length) + rest
 lt : rest < 10 ^ (18 * l.length)
 str : cat l = dgs (18 * l.length) rest
 pos : M ≠ 0 ∨ l.length = 0
theorem aSz {n M rest : Nat} {m : List Nat} {l : List (List Nat)} (h : TxI n m l M rest) : 18 * l.length ≤ bl n := by
 rcases h.pos with hp | hp
 ·rcases Nat.eq_zero_or_pos l.length with h0 | h0
  ·omega
  ·have h1 : 2 ^ (18 * l.length) ≤ 10 ^ (18 * l.length) := Nat.pow_le_pow_left (by decide) _
   have h2 : 10 ^ (18 * l.length) ≤ M * 10 ^ (18 * l.length) := Nat.le_mul_of_pos_left _ (by omega)
   have h3 : 2 ^ (18 * l.length) ≤ n := by rw [h.sum]; omega
   have := aGE h3
   omega
 ·omega
theorem q18 (M : Nat) : bD (lb M) [1000000000000000000] = (lb (M / 1000000000000000000), lb (M % 1000000000000000000), ()) := by
 unfold bD
 rw [dV]
 rfl
theorem aRg {n M P T rest : Nat} (h : n = M * T + rest) : n = M / P * (P * T) + (M % P * T + rest) := by
 have e := Nat.div_add_mod M P
 rw [h, ← Nat.add_assoc]
 congr 1
 conv => lhs; rw [← e]
 rw [Nat.add_mul, Nat.mul_comm P, Nat.mul_assoc]
theorem aSA {r P T rest : Nat} (h : r < P) (h2 : rest < T) : r * T + rest < P * T := by
 have h1 := Nat.mul_le_mul_right T (show r + 1 ≤ P from h)
 rw [Nat.add_mul, Nat.one_mul] at h1
 omega
theorem p18 : (10 : Nat) ^ 18 = 1000000000000000000 := by decide
theorem aSB {n M rest : Nat} {m : List Nat} {l : List (List Nat)} (hn : bl n ≤ 1000000) (h : TxI n m l M rest) :
  (∃ m' l' M' rest', gL l m (txt (M % 1000000000000000000)) = some (.inl (m', l')) ∧ TxI n m' l' M' rest' ∧ M' < M) ∨
   ∃ l', gL l m (txt (M % 1000000000000000000)) = some (.inr l') ∧ cat l' = txt n ∧ l'.length ≤ 1000000 := by
 have hl := aSz h
 have hr : M % 1000000000000000000 < 10 ^ 18 := Nat.mod_lt _ (by decide)
 have e := Nat.div_add_mod M 1000000000000000000
 have hsl : (txt (M % 1000000000000000000)).length ≤ 18 := by
  unfold txt
  split
  ·simp
  ·rename_i h0
   unfold aAc
   rw [oP]
   have h1 := wL _ h0
   rcases Nat.lt_or_ge (Lib.nDigits (M % 1000000000000000000)) 19 with hh | hh
   ·omega
   ·have h2 : 10 ^ 18 ≤ 10 ^ (Lib.nDigits (M % 1000000000000000000) - 1) := Nat.pow_le_pow_right (by decide) (by omega)
    omega
 unfold gL
 rw [h.m0, q18]
 by_cases hq : M / 1000000000000000000 = 0
 ·right
  refine ⟨l ++ [txt (M % 1000000000000000000)], ?_, ?_, by rw [List.length_append]; simp; omega⟩
  ·refine aB (by omega) ?_
   rw [if_pos (by simp only; rw [hq, gF]; rfl)]
  ·have hM : M % 1000000000000000000 = M := by omega
   rw [aHR, hM, h.str]
   rcases Nat.eq_zero_or_pos M with h0 | h0
   ·subst h0
    rcases h.pos with hp | hp
    ·exact absurd rfl hp
    ·have hs := h.sum
     have hlt := h.lt
     rw [hp] at hlt hs ⊢
     have : rest = 0 := by simpa using hlt
     subst this
     simp only [Nat.zero_mul, Nat.add_zero] at hs
     subst hs
     rfl
   ·have hn0 : n ≠ 0 := by
     rw [h.sum]
     have := Nat.mul_pos h0 (Nat.pow_pos (n := 18 * l.length) (show 0 < 10 by decide))
     omega
    unfold txt
    rw [if_neg (by omega), if_neg hn0, aRf (by omega) h.lt, ← h.sum]
 ·left
  have hpad : List.replicate (18 - (txt (M % 1000000000000000000)).length) 48 ++ txt (M % 1000000000000000000) = dgs 18 (M % 1000000000000000000) := by
   unfold txt at hsl ⊢
   split
   ·rename_i h0; rw [h0, aMg]; simp
   ·rename_i h0
    rw [if_neg h0] at hsl
    unfold aAc at hsl ⊢
    rw [oP] at hsl ⊢
    exact aSx hsl (Lib.lt_pow_nDigits _)
  have hrep : aO (aN ⟨#[48]⟩) (18 - ((txt (M % 1000000000000000000)).length : Int)) = some (List.replicate (18 - (txt (M % 1000000000000000000)).length) 48) := by
   have := aJy (18 - (txt (M % 1000000000000000000)).length) (by omega)
   rw [show ((18 - (txt (M % 1000000000000000000)).length : Nat) : Int) = 18 - ((txt (M % 1000000000000000000)).length : Int) from by omega] at this
   exact this
  have hset : (l ++ [txt (M % 1000000000000000000)]).set (((l ++ [txt (M % 1000000000000000000)]).length : Int) - 1).toNat (List.replicate (18 - (txt (M % 1000000000000000000)).length) 48 ++ txt (M % 1000000000000000000)) = l ++ [dgs 18 (M % 1000000000000000000)] := by
   rw [hpad, List.length_append, List.length_singleton, show (((l.length + 1 : Nat) : Int) - 1).toNat = l.length from by omega]
   simp
  refine ⟨lb (M / 1000000000000000000), l ++ [dgs 18 (M % 1000000000000000000)], M / 1000000000000000000, M % 1000000000000000000 * 10 ^ (18 * l.length) + rest, ?_, ?_, Nat.div_lt_self (by omega) (by decide)⟩
  ·have hne := List.length_pos_iff.2 (fun e => hq (uR.1 e))
   have hll : (l ++ [txt (M % 1000000000000000000)]).length = l.length + 1 := by simp
   refine aB (by omega) ?_
   rw [if_neg (by simp only; omega)]
   simp only [hrep, Option.getD_some]
   refine aB (by constructor <;> omega) (aB (by constructor <;> omega) (aB rfl (aB (by rw [List.length_replicate]; omega) (aB (by constructor <;> omega) ?_))))
   rw [hset]
  ·have hl1 : (l ++ [dgs 18 (M % 1000000000000000000)]).length = l.length + 1 := by simp
   have hp : 10 ^ (18 * (l.length + 1)) = 1000000000000000000 * 10 ^ (18 * l.length) := by rw [← p18, ← Nat.pow_add]; congr 1; omega
   refine ⟨rfl, ?_, ?_, ?_, .inl hq⟩
   ·rw [hl1, hp]
    have := aRg (P := 1000000000000000000) (T := 10 ^ (18 * l.length)) h.sum
    exact this
   ·rw [hl1, hp]; exact aSA (Nat.mod_lt _ (by decide)) h.lt
   ·have := aKM 18 (18 * l.length) (M % 1000000000000000000) rest h.lt
    rw [hl1, aHR, h.str, this, show 18 + 18 * l.length = 18 * (l.length + 1) from by omega]
end Nu
end Go.Proofs
namespace Go.Proofs
open Go.Vc
set_option maxRecDepth 20000
namespace Nu
theorem aRh {x : Nat} (h : x < 18446744073709551616) : (lb x).getD 0 0 = x := by
 rw [mR (uQ x), dV, Nat.pow_zero, Nat.div_one, Nat.mod_eq_of_lt h]
theorem aOn : Nrm [1000000000000000000] ∧ nv [1000000000000000000] ≠ 0 := by decide
theorem aSC {n M rest : Nat} {m : List Nat} {l : List (List Nat)} (hm : m.length ≤ 100000) (h : TxI n m l M rest) : jA m l = gL l m (txt (M % 1000000000000000000)) := by
 have hr : M % 1000000000000000000 < 1000000000000000000 := Nat.mod_lt _ (by decide)
 have hp : nS m [1000000000000000000] := ⟨by rw [h.m0]; exact pW _, aOn.1, aOn.2, by omega⟩
 unfold jA
 refine aB hp ?_
 have hq : (bD m [1000000000000000000]).2.1 = lb (M % 1000000000000000000) := by rw [h.m0, q18]
 rw [hq]
 by_cases h0 : M % 1000000000000000000 = 0
 ·have ht : txt (M % 1000000000000000000) = aN ⟨#[]⟩ := by unfold txt; rw [if_pos h0]; rfl
  rw [if_neg (by rw [h0, gF]; simp), ht]
 ·have ht : txt (M % 1000000000000000000) = aAc (M % 1000000000000000000) := by unfold txt; rw [if_neg h0]
  have hl := List.length_pos_iff.2 (fun e => h0 (uR.1 e))
  have hf := aIT (M % 1000000000000000000) (by omega)
  rw [if_pos (by omega), aRh (by omega), ht]
  simp only [hf, Option.getD_some]
  exact aB (by omega) (aB rfl rfl)
theorem aTL (k : Nat) {n : Nat} (h : n < 18446744073709551616 ^ k) : bl n ≤ 64 * k := oG (by rw [← mM]; exact h)
theorem aSD (n : Nat) (hn : n < 18446744073709551616 ^ 10000) : aR (lb n) = some (txt n) := by
 have hb := aTL 10000 hn
 have key := gU (step := fun d : (List Nat) × (List (List Nat)) => jA d.1 d.2) (I := fun d => ∃ M rest, TxI n d.1 d.2 M rest) (fun d => nv d.1) (fun e => cat e = txt n ∧ e.length ≤ 1000000) ?_ (lb n, []) ⟨n, 0, ⟨rfl, by simp, by simp, rfl, .inr rfl⟩⟩
 ·obtain ⟨e, h1, h2, h3⟩ := key
  unfold aR
  refine cE h1 ?_
  have hlen : (txt n).length ≤ 1000000 := by
   unfold txt
   split
   ·simp
   ·rename_i h0
    unfold aAc
    rw [oP]
    have a := wL n h0
    have b : 2 ^ (Lib.nDigits n - 1) ≤ 10 ^ (Lib.nDigits n - 1) := Nat.pow_le_pow_left (by decide) _
    have := aGE (Nat.le_trans b a)
    omega
  rw [aSy e (by omega) (by rw [h2]; omega), h2]
 ·rintro ⟨m, l⟩ ⟨M, rest, h⟩
  have h : TxI n m l M rest := h
  have hMn : M ≤ n := by
   rw [h.sum]
   have := Nat.le_mul_of_pos_right M (Nat.pow_pos (n := 18 * l.length) (show 0 < 10 by decide))
   omega
  have hm : m.length ≤ 100000 := by
   rw [h.m0]
   exact Nat.le_trans (iM.2 (Nat.lt_of_le_of_lt hMn hn)) (by decide)
  show (∃ d', jA m l = _ ∧ _) ∨ ∃ e, jA m l = _ ∧ _
  rw [aSC hm h]
  rcases aSB (by omega) h with ⟨m', l', M', rest', k1, k2, k3⟩ | ⟨l', k1, k2, k3⟩
  ·left
   refine ⟨(m', l'), k1, ⟨M', rest', k2⟩, ?_⟩
   show nv m' < nv m
   rw [k2.m0, h.m0, dV, dV]
   exact k3
  ·right
   exact ⟨l', k1, k2, k3⟩
end Nu
end Go.Proofs
namespace Go.Proofs
open Go.Vc
set_option maxRecDepth 20000
namespace Nu
def aFy (k : Nat) (s : List Nat) : List Nat := List.replicate (k + 1 - s.length) 48 ++ s
def ptS (k : Nat) (s : List Nat) : List Nat := if 0 < k then s.take (s.length - k) ++ [46] ++ s.drop (s.length - k) else s
def sgS (neg : Bool) (q : Nat) (s : List Nat) : List Nat := if neg = true ∧ q ≠ 0 then 45 :: s else s
theorem aSE {n : Nat} (h : bl n ≤ 640000) : (txt n).length ≤ 1000000 := by
 unfold txt
 split
 ·simp
 ·rename_i h0
  unfold aAc
  rw [oP]
  have a := wL n h0
  have b : 2 ^ (Lib.nDigits n - 1) ≤ 10 ^ (Lib.nDigits n - 1) := Nat.pow_le_pow_left (by decide) _
  have := aGE (Nat.le_trans b a)
  omega
theorem aUi {n k : Nat} (h : n < 18446744073709551616 ^ k) : bl n ≤ 64 * k := oG (by rw [← mM]; exact h)
theorem aOo (d : Dy) (q : Nat) (s : List Nat) (hs : s.length ≤ 10000000) : kN d (lb q) s = some (sgS d.1 q s, 0, ()) := by
 unfold kN sgS
 have hq : (0 : Int) < ((lb q).length : Int) ↔ q ≠ 0 := by
  constructor
  ·intro h e; rw [e, gF] at h; simp at h
  ·intro h
   have := List.length_pos_iff.2 (fun e => h (uR.1 e))
   omega
 by_cases h : d.1 = true ∧ q ≠ 0
 ·rw [if_pos ⟨h.1, hq.2 h.2⟩, if_pos h]
  refine aB ?_ rfl
  have : (aN ⟨#[45]⟩).length = 1 := rfl
  omega
 ·rw [if_neg (fun hh => h ⟨hh.1, hq.1 hh.2⟩), if_neg h]
theorem aOp (k : Nat) (d : Dy) (q : Nat) (hk : k ≤ 60) (hq : q < 18446744073709551616 ^ 10000) : kO (k : Int) d (lb q) = some (sgS d.1 q (ptS k (aFy k (txt q))), 0, ()) := by
 have hl := aSE (Nat.le_trans (aUi hq) (by decide))
 have ht := aSD q hq
 have hr : aO (aN ⟨#[48]⟩) (max ((k : Int) + 1 - ((txt q).length : Int)) 0) = some (List.replicate (k + 1 - (txt q).length) 48) := by
  have := aJy (k + 1 - (txt q).length) (by omega)
  rw [show ((k + 1 - (txt q).length : Nat) : Int) = max ((k : Int) + 1 - ((txt q).length : Int)) 0 from by omega] at this
  exact this
 have hp : (aFy k (txt q)).length = k + 1 - (txt q).length + (txt q).length := by unfold aFy; rw [List.length_append, List.length_replicate]
 have e : List.replicate (k + 1 - (txt q).length) 48 ++ txt q = aFy k (txt q) := rfl
 unfold kO
 simp only [ht, Option.getD_some, hr, e]
 refine aB rfl (aB (by constructor <;> omega) (aB (by constructor <;> omega) (aB rfl (aB (by rw [List.length_replicate]; omega) ?_))))
 have h1 : (aN ⟨#[46]⟩) = [46] := rfl
 unfold ptS
 by_cases h : 0 < k
 ·have en : (((aFy k (txt q)).length : Int) - (k : Int)).toNat = (aFy k (txt q)).length - k := by omega
  rw [if_pos (by omega), if_pos h, h1, en]
  have l1 : ((aFy k (txt q)).take ((aFy k (txt q)).length - k)).length = (aFy k (txt q)).length - k := by rw [List.length_take]; omega
  have l2 : ((aFy k (txt q)).drop ((aFy k (txt q)).length - k)).length = k := by rw [List.length_drop]; omega
  refine aB (by constructor <;> omega) (aB (by constructor <;> omega) (aB (by rw [l1]; simp; omega) (aB (by constructor <;> omega) (aB (by constructor <;> omega) (aB (by rw [List.length_append, l1, l2]; simp; omega) ?_)))))
  exact aOo d q _ (by rw [List.length_append, List.length_append, l1, l2]; simp; omega)
 ·rw [if_neg (by omega), if_neg h]
  exact aOo d q _ (by omega)
def txM (d : Dy) (k : Nat) : Nat := nv d.2.1 * 2 ^ (max d.2.2.1 0).toNat * 10 ^ k
def txQ (d : Dy) (k : Nat) (up : Bool) : Nat :=
 let m := txM d k
 let n := (max (-d.2.2.1) 0).toNat
 if m % 2 ^ n ≠ 0 ∧ (up != d.1) = true then m / 2 ^ n + 1 else m / 2 ^ n
def aMh (d : Dy) (k : Int) (up : Bool) : List Nat × Int × Unit :=
 if kB d = false ∨ k < 0 ∨ 60 < k then ([], 1, ())
 else if 2000 < d.2.2.1 ∨ d.2.2.1 < -2000 then ([], 2, ())
 else (sgS d.1 (txQ d k.toNat up) (ptS k.toNat (aFy k.toNat (txt (txQ d k.toNat up)))), 0, ())
theorem aTM {d : Dy} {k : Nat} (lm : Lm d.2.1) (hl : d.2.1.length ≤ 64) (he : d.2.2.1 ≤ 2000) (hk : k ≤ 60) : txM d k < 18446744073709551616 ^ 200 := by
 have h1 := iG lm
 rw [mM] at h1
 have h2 := qJ k
 unfold txM
 have h3 : nv d.2.1 * 2 ^ (max d.2.2.1 0).toNat < 2 ^ (64 * d.2.1.length) * 2 ^ (max d.2.2.1 0).toNat := Nat.mul_lt_mul_of_pos_right h1 (Nat.two_pow_pos _)
 rw [← Nat.pow_add] at h3
 have h4 := Nat.mul_lt_mul_of_lt_of_le h3 h2 (Nat.pow_pos (by decide))
 rw [← Nat.pow_add] at h4
 exact aHg 200 h4 (by omega)
theorem aKP (d : Dy) (k : Int) (up : Bool) (lm : Lm d.2.1) : aK d k up = some (aMh d k up) := by
 unfold aK aMh
 simp only [wX, Option.getD_some]
 refine aB rfl ?_
 by_cases h1 : kB d = false ∨ k < 0 ∨ 60 < k
 ·rw [if_pos (by rcases h1 with h | h | h; exact .inl (.inl (by rw [h]; decide)); exact .inl (.inr h); exact .inr h), if_pos h1]; rfl
 ·have hm : kB d = true := by
   cases hh : kB d with
   | true => rfl
   | false => exact absurd (.inl hh) h1
  have hk : 0 ≤ k ∧ k ≤ 60 := by omega
  rw [if_neg (by rintro ((h | h) | h); exact h hm; omega; omega), if_neg h1]
  by_cases h2 : 2000 < d.2.2.1 ∨ d.2.2.1 < -2000
  ·rw [if_pos h2, if_pos h2]; rfl
  ·rw [if_neg h2, if_neg h2]
   obtain ⟨a1, a2, a3, a4⟩ := mG hm
   obtain ⟨j, rfl⟩ : ∃ j : Nat, k = (j : Int) := ⟨k.toNat, by omega⟩
   rw [Int.toNat_natCast]
   have hM := aTM (k := j) lm a1 (by omega) (by omega)
   have hpw := aBb 10 j (by decide) (by omega)
   have hL : bF d.2.1 (max d.2.2.1 0) = lb (nv d.2.1 * 2 ^ (max d.2.2.1 0).toNat) := rfl
   have hT : aZ (lb (nv d.2.1 * 2 ^ (max d.2.2.1 0).toNat)) (lb (10 ^ j)) = lb (txM d j) := by
    unfold aZ txM; rw [dV, dV]
   have hLl : (lb (nv d.2.1 * 2 ^ (max d.2.2.1 0).toNat)).length ≤ 200 := by
    refine iM.2 (Nat.lt_of_le_of_lt ?_ hM)
    unfold txM
    exact Nat.le_mul_of_pos_right _ (Nat.pow_pos (by decide))
   have hPl := aNd (b := 10) (i := j) (by decide)
   have hTl := iM.2 hM
   have hn : max (0 - d.2.2.1) 0 = ((max (-d.2.2.1) 0).toNat : Int) := by omega
   simp only [hpw, Option.getD_some, hL, hT, hn]
   have hR : cH (lb (txM d j)) ((max (-d.2.2.1) 0).toNat : Int) = lb (txM d j / 2 ^ (max (-d.2.2.1) 0).toNat) := by
    unfold cH; rw [dV, Int.toNat_natCast]
   rw [hR]
   have hqlt : txM d j / 2 ^ (max (-d.2.2.1) 0).toNat < 18446744073709551616 ^ 200 := Nat.lt_of_le_of_lt (Nat.div_le_self _ _) hM
   have hP : fM (lb (txM d j / 2 ^ (max (-d.2.2.1) 0).toNat)) [1] = lb (txM d j / 2 ^ (max (-d.2.2.1) 0).toNat + 1) := by
    unfold fM; rw [dV]; rfl
   have hbig : ∀ x, x < 18446744073709551616 ^ 200 → x + 1 < 18446744073709551616 ^ 10000 := fun x hx => by
    have : 18446744073709551616 ^ 200 < 18446744073709551616 ^ 10000 := aUd 200 10000 (by decide)
    exact Nat.lt_of_le_of_lt hx this
   refine aB ⟨by show d.2.1.length ≤ _; omega, by omega, by omega⟩ (aB rfl (aB ⟨by show (lb (nv d.2.1 * 2 ^ (max d.2.2.1 0).toNat)).length ≤ _; omega, by show (lb (10 ^ j)).length ≤ _; omega⟩ (aB (by constructor <;> omega) (aB ⟨by show (lb (txM d j)).length ≤ _; omega, by omega⟩ (aB (fun _ => by show (lb (txM d j)).length ≤ _; omega) ?_)))))
   have hc : ((0 : Int) < ((lb (txM d j)).length : Int) ∧ bS (lb (txM d j)) < ((max (-d.2.2.1) 0).toNat : Int)) ↔ txM d j % 2 ^ (max (-d.2.2.1) 0).toNat ≠ 0 := by
    by_cases h0 : txM d j = 0
    ·rw [h0, gF, Nat.zero_mod]; simp
    ·have hl := List.length_pos_iff.2 (fun e => h0 (uR.1 e))
     have hz : bS (lb (txM d j)) = (tzn (txM d j) : Int) := by unfold bS; rw [dV, if_neg h0]
     rw [hz, ← aOj h0]
     constructor
     ·intro h; omega
     ·intro h; exact ⟨by omega, by omega⟩
   unfold txQ
   simp only
   by_cases h3 : txM d j % 2 ^ (max (-d.2.2.1) 0).toNat ≠ 0 ∧ (up != d.1) = true
   ·rw [if_pos ⟨hc.2 h3.1, h3.2⟩, if_pos h3, hP]
    have hl3 := iM.2 hqlt
    refine aB ⟨by show (lb (txM d j / 2 ^ (max (-d.2.2.1) 0).toNat)).length ≤ _; omega, by show (1 : Nat) ≤ _; decide⟩ ?_
    exact aOp j d _ (by omega) (hbig _ hqlt)
   ·rw [if_neg (fun h => h3 ⟨hc.1 h.1, h.2⟩), if_neg h3]
    exact aOp j d _ (by omega) (Nat.lt_of_succ_lt (hbig _ hqlt))
end Nu
end Go.Proofs
namespace Go.Proofs
open Go.Vc
set_option maxRecDepth 20000
namespace Nu
def aTN (d : Dy) : Dy := if kB d = true ∧ 0 < d.2.1.length then (!d.1, d.2.1, d.2.2.1, ()) else d
theorem aTO (d : Dy) (h : d.2.1.length ≤ 1000000) : cB d = some (aTN d) := by
 have hc : dG d = some d := by
  unfold dG
  exact aB (by show d.2.1.length * 8 ≤ _; omega) rfl
 unfold cB aTN
 simp only [hc, wX, Option.getD_some]
 refine aB rfl (aB rfl ?_)
 by_cases hh : kB d = true ∧ 0 < d.2.1.length
 ·rw [if_pos ⟨hh.1, by omega⟩, if_pos hh]
 ·rw [if_neg (fun h => hh ⟨h.1, by omega⟩), if_neg hh]
theorem aRi (a b : List Nat) (ha : a.length ≤ 9223372036854775807) : dQ a b = some (decide (a = b)) := by
 unfold dQ
 by_cases hl : a.length = b.length
 ·rw [if_neg (by omega)]
  have key := jZ (step := fun d : Int => cU a b d) (I := fun i => 0 ≤ i ∧ i ≤ a.length) (fun i => (a.length - i).toNat) (fun i => if a.drop i.toNat = b.drop i.toNat then (.inl () : Unit ⊕ Bool) else .inr false) ?_ 0 ⟨by omega, by omega⟩
  ·have e1 : a.drop ((0 : Int).toNat) = a := rfl
   have e2 : b.drop ((0 : Int).toNat) = b := rfl
   rw [e1, e2] at key
   refine cE key ?_
   by_cases h : a = b
   ·rw [if_pos h, decide_eq_true h]
   ·rw [if_neg h, decide_eq_false h]
  ·rintro i ⟨i0, i1⟩
   show (∃ d', cU a b i = _ ∧ _) ∨ cU a b i = _
   unfold cU
   by_cases hi : i < a.length
   ·have hk : i.toNat < a.length := by omega
    have hk2 : i.toNat < b.length := by omega
    have ea : a.drop i.toNat = a.getD i.toNat 0 :: a.drop (i.toNat + 1) := by
     rw [List.drop_eq_getElem_cons hk, List.getD_eq_getElem?_getD, List.getElem?_eq_getElem hk]; rfl
    have eb : b.drop i.toNat = b.getD i.toNat 0 :: b.drop (i.toNat + 1) := by
     rw [List.drop_eq_getElem_cons hk2, List.getD_eq_getElem?_getD, List.getElem?_eq_getElem hk2]; rfl
    by_cases hx : a.getD i.toNat 0 = b.getD i.toNat 0
    ·left
     refine ⟨i + 1, ?_, ⟨by omega, by omega⟩, by omega, ?_⟩
     ·rw [if_pos hi]
      refine aB (by constructor <;> omega) (aB (by constructor <;> omega) ?_)
      rw [if_neg (fun h => h hx)]
      exact aB (by constructor <;> omega) rfl
     ·rw [ea, eb, hx, show (i + 1).toNat = i.toNat + 1 from by omega]
      simp
    ·right
     rw [if_pos hi]
     refine aB (by constructor <;> omega) (aB (by constructor <;> omega) ?_)
     rw [if_pos hx, if_neg (by rw [ea, eb]; intro h; exact hx (List.cons.inj h).1)]
   ·right
    rw [if_neg hi, List.drop_eq_nil_of_le (by omega), List.drop_eq_nil_of_le (by omega), if_pos rfl]
 ·rw [if_pos (by omega), decide_eq_false (fun h => hl (by rw [h]))]
theorem aOq (a b : Dy) (ha : a.2.1.length ≤ 9223372036854775807) : dN a b = some ((a.1 == b.1) && decide (a.2.2.1 = b.2.2.1) && decide (a.2.1 = b.2.1)) := by
 unfold dN
 simp only [aRi a.2.1 b.2.1 ha, Option.getD_some]
 exact aB (fun _ => rfl) rfl
end Nu
end Go.Proofs
namespace Go.Proofs
open Go.Vc
set_option maxRecDepth 20000
namespace Nu
def lZ (d : Dy) : Int := if kB d = false ∨ d.2.1.length = 0 then 0 else if d.1 = true then -1 else 1
theorem aSF (d : Dy) : dL d = some (lZ d) := by
 unfold dL lZ
 simp only [wX, Option.getD_some]
 refine aB rfl ?_
 by_cases h : kB d = false ∨ d.2.1.length = 0
 ·rw [if_pos (by rcases h with h | h; exact .inl (by rw [h]; decide); exact .inr (by omega)), if_pos h]
 ·have hm : kB d = true := by
   cases hh : kB d with
   | true => rfl
   | false => exact absurd (.inl hh) h
  rw [if_neg (by rintro (hh | hh); exact hh hm; exact h (.inr (by omega))), if_neg h]
  by_cases hn : d.1 = true
  ·rw [if_pos hn, if_pos hn]
  ·rw [if_neg hn, if_neg hn]
def aDq (a b : Dy) : Int :=
 let x := (bl (nv a.2.1) : Int) + a.2.2.1
 let y := (bl (nv b.2.1) : Int) + b.2.2.1
 let low := min a.2.2.1 b.2.2.1
 if x < y then -1 else if y < x then 1 else xW (nv a.2.1 * 2 ^ (a.2.2.1 - low).toNat) (nv b.2.1 * 2 ^ (b.2.2.1 - low).toNat)
theorem size_eq (a b : Dy) (la : Lm a.2.1) (lb' : Lm b.2.1) (ha : kB a = true) (hb : kB b = true) : lJ a b = some (aDq a b) := by
 obtain ⟨a1, a2, a3, a4⟩ := mG ha
 obtain ⟨b1, b2, b3, b4⟩ := mG hb
 have hba : bl (nv a.2.1) ≤ 64 * a.2.1.length := oG (by rw [← mM]; exact iG la)
 have hbb : bl (nv b.2.1) ≤ 64 * b.2.1.length := oG (by rw [← mM]; exact iG lb')
 have e1 : aT a.2.1 = (bl (nv a.2.1) : Int) := rfl
 have e2 : aT b.2.1 = (bl (nv b.2.1) : Int) := rfl
 unfold lJ aDq
 rw [e1, e2]
 refine aB ⟨a2, by show a.2.1.length ≤ _; omega⟩ (aB (by constructor <;> omega) (aB ⟨b2, by show b.2.1.length ≤ _; omega⟩ (aB (by constructor <;> omega) ?_)))
 simp only
 by_cases h1 : (bl (nv a.2.1) : Int) + a.2.2.1 < (bl (nv b.2.1) : Int) + b.2.2.1
 ·rw [if_pos h1, if_pos h1]
 ·rw [if_neg h1, if_neg h1]
  by_cases h2 : (bl (nv b.2.1) : Int) + b.2.2.1 < (bl (nv a.2.1) : Int) + a.2.2.1
  ·rw [if_pos h2, if_pos h2]
  ·rw [if_neg h2, if_neg h2]
   refine aB (by constructor <;> omega) (aB ⟨by show a.2.1.length ≤ _; omega, by omega, by omega⟩ (aB (by constructor <;> omega) (aB ⟨by show b.2.1.length ≤ _; omega, by omega, by omega⟩ (aB ⟨pW _, pW _⟩ ?_))))
   unfold lH bF
   rw [dV, dV]
def aFz (a b : Dy) : Int :=
 if kB a = false ∨ kB b = false then 0
 else if lZ a < lZ b then -1
 else if lZ b < lZ a then 1
 else if lZ a = 0 then 0
 else lZ a * aDq a b
theorem aMi (a b : Dy) : -1 ≤ aDq a b ∧ aDq a b ≤ 1 := by
 unfold aDq
 simp only
 split
 ·decide
 ·split
  ·decide
  ·unfold xW
   split
   ·decide
   ·split <;> decide
theorem aEY (d : Dy) : lZ d = 0 ∨ lZ d = 1 ∨ lZ d = -1 := by
 unfold lZ
 split
 ·exact .inl rfl
 ·split
  ·exact .inr (.inr rfl)
  ·exact .inr (.inl rfl)
theorem aNj (a b : Dy) (la : Lm a.2.1) (lb' : Lm b.2.1) : cA a b = some (aFz a b) := by
 have ra := aEY a
 have rb := aEY b
 have rs := aMi a b
 unfold cA aFz
 simp only [aSF, wX, Option.getD_some]
 refine aB rfl (aB rfl (aB rfl (aB (fun _ => rfl) ?_)))
 by_cases h : kB a = false ∨ kB b = false
 ·rw [if_pos (by rcases h with h | h; exact .inl (by rw [h]; decide); exact .inr (by rw [h]; decide)), if_pos h]
 ·have ha : kB a = true := by
   cases hh : kB a with
   | true => rfl
   | false => exact absurd (.inl hh) h
  have hb : kB b = true := by
   cases hh : kB b with
   | true => rfl
   | false => exact absurd (.inr hh) h
  rw [if_neg (by rintro (hh | hh); exact hh ha; exact hh hb), if_neg h]
  by_cases h1 : lZ a < lZ b
  ·rw [if_pos ⟨by omega, h1⟩, if_pos h1]
  ·rw [if_neg (fun hh => h1 hh.2), if_neg h1]
   by_cases h2 : lZ b < lZ a
   ·rw [if_pos (by omega), if_pos h2]
   ·rw [if_neg (by omega), if_neg h2]
    by_cases h3 : lZ a = 0
    ·rw [if_pos h3, if_pos h3]
    ·rw [if_neg h3, if_neg h3]
     simp only [size_eq a b la lb' ha hb, Option.getD_some]
     refine aB rfl (aB ?_ rfl)
     rcases ra with r | r | r <;> rw [r] <;> constructor <;> omega
end Nu
end Go.Proofs
namespace Go.Proofs
open Go.Vc
set_option maxRecDepth 20000
namespace Nu
theorem aEZ {a : List Nat} (h : Nrm a) : nv a = 0 ↔ a.length = 0 := by
 constructor
 ·intro h0
  cases a with
  | nil => rfl
  | cons x r => have := xS h (by simp); omega
 ·intro h0; rw [List.eq_nil_of_length_eq_zero h0]; rfl
theorem pJ (M : Nat) (e : Int) : (bB M e).1 = false := by unfold bB; split <;> rfl
theorem yF (M : Nat) (e : Int) : Lm (bB M e).2.1 := by rw [nU]; exact uQ _
theorem tX (M : Nat) (e low : Int) (h0 : low ≤ 0) (h : low ≤ e) : low ≤ (bB M e).2.2.1 ∧ nv (bB M e).2.1 * 2 ^ ((bB M e).2.2.1 - low).toNat = M * 2 ^ (e - low).toNat := by
 unfold bB
 by_cases hz : M = 0
 ·rw [if_pos hz, hz, Nat.zero_mul]
  exact ⟨h0, by show nv [] * _ = 0; rw [wR, Nat.zero_mul]⟩
 ·rw [if_neg hz]
  obtain ⟨p1, _⟩ := zW hz
  simp only
  refine ⟨by omega, ?_⟩
  rw [dV, show (e + (tzn M : Int) - low).toNat = tzn M + (e - low).toNat from by omega, Nat.pow_add, ← Nat.mul_assoc, p1]
theorem lo_le {A B p k : Nat} : rM A B p k * 2 ^ rn A B p k * B ≤ A * 2 ^ k := by
 unfold rM
 refine Nat.le_trans (Nat.mul_le_mul_right B (Nat.div_mul_le_self _ _)) ?_
 unfold rq
 exact Nat.div_mul_le_self _ _
theorem aUj {A B p k : Nat} (hB : B ≠ 0) : A * 2 ^ k ≤ rm2 A B p k true * 2 ^ rn A B p k * B := by
 have e : rM A B p k = A * 2 ^ k / (B * 2 ^ rn A B p k) := by
  unfold rM
  conv => lhs; arg 1; unfold rq
  rw [Nat.div_div_eq_div_mul]
 have hY : 0 < B * 2 ^ rn A B p k := Nat.mul_pos (by omega) (Nat.two_pow_pos _)
 have hdm := Nat.div_add_mod (A * 2 ^ k) (B * 2 ^ rn A B p k)
 have hlt := Nat.mod_lt (A * 2 ^ k) hY
 rw [← e] at hdm
 unfold rm2 rS
 rw [Nat.mul_assoc, Nat.mul_comm (2 ^ _) B]
 by_cases h : A * 2 ^ k % (B * 2 ^ rn A B p k) = 0
 ·rw [if_neg (fun hh => (of_decide_eq_true hh.1) h), Nat.mul_comm (rM A B p k)]
  omega
 ·rw [if_pos ⟨decide_eq_true h, rfl⟩, Nat.add_mul, Nat.one_mul, Nat.mul_comm (rM A B p k)]
  omega
end Nu
end Go.Proofs
namespace Go.Proofs
open Go.Vc
set_option maxRecDepth 20000
namespace Nu
theorem aOr {x y i j : Nat} (hy : y ≠ 0) (h : bl x + i < bl y + j) : x * 2 ^ i < y * 2 ^ j := by
 have pa := aGF hy
 have pb := aCM x
 have ba := aB6 hy
 have e1 : x * 2 ^ i < 2 ^ (bl x + i) := by
  rw [Nat.pow_add]; exact Nat.mul_lt_mul_of_pos_right pb (Nat.two_pow_pos _)
 have e2 : 2 ^ (bl y - 1 + j) ≤ y * 2 ^ j := by
  rw [Nat.pow_add]; exact Nat.mul_le_mul_right _ pa
 have e3 := p2m (bl x + i) (bl y - 1 + j) (by omega)
 omega
theorem aRj (x y : Nat) {c : Nat} (h : 0 < c) : xW (x * c) (y * c) = xW x y := by
 unfold xW
 by_cases h1 : x < y
 ·rw [if_pos h1, if_pos (Nat.mul_lt_mul_of_pos_right h1 h)]
 ·rw [if_neg h1, if_neg (fun hh => h1 (Nat.lt_of_mul_lt_mul_right hh))]
  by_cases h2 : x = y
  ·rw [if_pos h2, if_pos (by rw [h2])]
  ·rw [if_neg h2, if_neg (fun hh => h2 (Nat.eq_of_mul_eq_mul_right h hh))]
theorem aOs {x y : Nat} (h : x < y) : xW x y = -1 := by unfold xW; rw [if_pos h]
theorem aOt {x y : Nat} (h : y < x) : xW x y = 1 := by unfold xW; rw [if_neg (by omega), if_neg (by omega)]
theorem aOu {x y : Nat} : xW x y ≤ 0 ↔ x ≤ y := by
 unfold xW
 split
 ·constructor <;> intro _ <;> omega
 ·split
  ·constructor <;> intro _ <;> omega
  ·constructor <;> intro _ <;> omega
theorem aMj {x y : Nat} : xW x y = 0 ↔ x = y := by
 unfold xW
 split
 ·constructor <;> intro _ <;> omega
 ·split
  ·constructor <;> intro _ <;> omega
  ·constructor <;> intro _ <;> omega
theorem aOv {a b : Dy} (ha : kB a = true) (hb : kB b = true) (na : a.1 = false) (nb : b.1 = false) (low : Int) (h1 : low ≤ a.2.2.1) (h2 : low ≤ b.2.2.1) : aFz a b = xW (nv a.2.1 * 2 ^ (a.2.2.1 - low).toNat) (nv b.2.1 * 2 ^ (b.2.2.1 - low).toNat) := by
 obtain ⟨_, ma, _, _⟩ := mG ha
 obtain ⟨_, mb, _, _⟩ := mG hb
 have za := aEZ ma
 have zb := aEZ mb
 have pa := Nat.two_pow_pos (a.2.2.1 - low).toNat
 have pb := Nat.two_pow_pos (b.2.2.1 - low).toNat
 have sa : lZ a = if a.2.1.length = 0 then 0 else 1 := by
  unfold lZ; rw [ha, na]
  by_cases h0 : a.2.1.length = 0
  ·rw [if_pos (.inr h0), if_pos h0]
  ·rw [if_neg (by rintro (h | h); cases h; exact h0 h), if_neg h0]; rfl
 have sb : lZ b = if b.2.1.length = 0 then 0 else 1 := by
  unfold lZ; rw [hb, nb]
  by_cases h0 : b.2.1.length = 0
  ·rw [if_pos (.inr h0), if_pos h0]
  ·rw [if_neg (by rintro (h | h); cases h; exact h0 h), if_neg h0]; rfl
 unfold aFz
 rw [if_neg (by rw [ha, hb]; rintro (h | h) <;> cases h), sa, sb]
 by_cases h0 : a.2.1.length = 0
 ·rw [if_pos h0, za.2 h0, Nat.zero_mul]
  by_cases h3 : b.2.1.length = 0
  ·rw [if_pos h3, zb.2 h3, Nat.zero_mul]; simp [xW]
  ·have hb0 : nv b.2.1 ≠ 0 := fun e => h3 (zb.1 e)
   rw [if_neg h3, aOs (Nat.mul_pos (by omega) pb)]; simp
 ·have ha0 : nv a.2.1 ≠ 0 := fun e => h0 (za.1 e)
  rw [if_neg h0]
  by_cases h3 : b.2.1.length = 0
  ·rw [if_pos h3, zb.2 h3, Nat.zero_mul, aOt (Nat.mul_pos (by omega) pa)]; simp
  ·have hb0 : nv b.2.1 ≠ 0 := fun e => h3 (zb.1 e)
   rw [if_neg h3, if_neg (by decide), if_neg (by decide), if_neg (by decide), Int.one_mul]
   unfold aDq
   simp only
   by_cases hx : (bl (nv a.2.1) : Int) + a.2.2.1 < (bl (nv b.2.1) : Int) + b.2.2.1
   ·rw [if_pos hx, aOs (aOr hb0 (by omega))]
   ·rw [if_neg hx]
    by_cases hy : (bl (nv b.2.1) : Int) + b.2.2.1 < (bl (nv a.2.1) : Int) + a.2.2.1
    ·rw [if_pos hy, aOt (aOr ha0 (by omega))]
    ·rw [if_neg hy]
     have e1 : (a.2.2.1 - low).toNat = (a.2.2.1 - min a.2.2.1 b.2.2.1).toNat + (min a.2.2.1 b.2.2.1 - low).toNat := by omega
     have e2 : (b.2.2.1 - low).toNat = (b.2.2.1 - min a.2.2.1 b.2.2.1).toNat + (min a.2.2.1 b.2.2.1 - low).toNat := by omega
     rw [e1, e2, Nat.pow_add, Nat.pow_add, ← Nat.mul_assoc, ← Nat.mul_assoc, aRj _ _ (Nat.two_pow_pos _)]
theorem aSG {M K : Nat} {e : Int} (hM : M < 2 ^ K) (hK : K ≤ 4096) (he : -1000000 ≤ e ∧ e ≤ 1000000) : aKz false M e = .inl (bB M e) := by
 unfold aKz bB
 by_cases h0 : M = 0
 ·rw [if_pos h0, if_pos h0]
 ·have hz := zV h0 hM
  have hl : (lb (M / 2 ^ tzn M)).length ≤ 64 := by
   exact iM.2 (aHg 64 (Nat.lt_of_le_of_lt (Nat.div_le_self _ _) hM) (by omega))
  rw [if_neg h0, if_neg h0, if_neg (by omega), if_neg (by omega), if_neg (by omega)]
def xG (a b : Dy) : Dy := bB (nv a.2.1 * nv b.2.1) (a.2.2.1 + b.2.2.1)
theorem aHS {M : Nat} : M / 2 ^ tzn M ≤ M := Nat.div_le_self _ _
structure aUF (q B p : Nat) (lo hi : Dy) : Prop where
 cl : aFz (xG lo (bB B 0)) (bB q 0) ≤ 0
 ch : aFz (bB q 0) (xG hi (bB B 0)) ≤ 0
 bl1 : bl (nv lo.2.1) ≤ p
 bl2 : bl (nv hi.2.1) ≤ p
 eq : lo = hi ↔ (aFz (xG lo (bB B 0)) (bB q 0) = 0 ∧ aFz (bB q 0) (xG hi (bB B 0)) = 0)
theorem aOw {R r k B K J : Nat} (hR : R < 2 ^ K) (hB : B < 2 ^ J) (hKJ : K + J ≤ 4096) (hr : r ≤ 100000) (hk : k ≤ 100000) :
  -(k : Int) ≤ (xG (bB R ((r : Int) - (k : Int))) (bB B 0)).2.2.1 ∧ nv (xG (bB R ((r : Int) - (k : Int))) (bB B 0)).2.1 * 2 ^ ((xG (bB R ((r : Int) - (k : Int))) (bB B 0)).2.2.1 - -(k : Int)).toNat = R * 2 ^ r * B ∧ kB (xG (bB R ((r : Int) - (k : Int))) (bB B 0)) = true := by
 obtain ⟨a1, a2⟩ := tX R ((r : Int) - (k : Int)) (-(k : Int)) (by omega) (by omega)
 obtain ⟨b1, b2⟩ := tX B 0 0 (by omega) (by omega)
 rw [show ((r : Int) - (k : Int) - -(k : Int)).toNat = r from by omega] at a2
 rw [show ((0 : Int) - 0).toNat = 0 from rfl, Nat.pow_zero, Nat.mul_one] at b2
 have hle : nv (bB R ((r : Int) - (k : Int))).2.1 * nv (bB B 0).2.1 < 2 ^ (K + J) := by
  rw [nU, nU, dV, dV, Nat.pow_add]
  exact Nat.mul_lt_mul'' (Nat.lt_of_le_of_lt aHS hR) (Nat.lt_of_le_of_lt aHS hB)
 have hmR := oJ (e := (r : Int) - (k : Int)) hR (by omega) (by constructor <;> omega)
 have hmB := oJ (e := 0) hB (by omega) (by constructor <;> omega)
 have zR : (bB R ((r : Int) - (k : Int))).2.2.1 ≤ 104096 := by
  unfold bB
  split
  ·decide
  ·rename_i h0
   have := zV h0 hR
   simp only; omega
 have zB : (bB B 0).2.2.1 ≤ 4096 := by
  unfold bB
  split
  ·decide
  ·rename_i h0
   have := zV h0 hB
   simp only; omega
 obtain ⟨c1, c2⟩ := tX (nv (bB R ((r : Int) - (k : Int))).2.1 * nv (bB B 0).2.1) ((bB R ((r : Int) - (k : Int))).2.2.1 + (bB B 0).2.2.1) (-(k : Int)) (by omega) (by omega)
 refine ⟨c1, ?_, oJ hle hKJ (by constructor <;> omega)⟩
 unfold xG
 rw [c2, show ((bB R ((r : Int) - (k : Int))).2.2.1 + (bB B 0).2.2.1 - -(k : Int)).toNat = ((bB R ((r : Int) - (k : Int))).2.2.1 - -(k : Int)).toNat + ((bB B 0).2.2.1 - 0).toNat from by omega, Nat.pow_add]
 rw [← a2, show nv (bB R ((r : Int) - (k : Int))).2.1 * 2 ^ ((bB R ((r : Int) - (k : Int))).2.2.1 - -(k : Int)).toNat * B = nv (bB R ((r : Int) - (k : Int))).2.1 * 2 ^ ((bB R ((r : Int) - (k : Int))).2.2.1 - -(k : Int)).toNat * (nv (bB B 0).2.1 * 2 ^ ((bB B 0).2.2.1 - 0).toNat) from by rw [b2]]
 ac_rfl
theorem aRk {R e p : Nat} {E : Int} (hR : R ≤ 2 ^ p) (hp : 1 ≤ p) : bl (nv (bB R E).2.1) ≤ p := by
 rw [nU, dV]
 by_cases h : R = 2 ^ p
 ·have : tzn R = p := zD (m := 0) (by rw [h]; simp)
  rw [this, h, Nat.div_self (Nat.two_pow_pos p)]
  exact oG (Nat.lt_of_lt_of_le (show 1 < 2 ^ 1 by decide) (p2m _ _ hp))
 ·exact oG (Nat.lt_of_le_of_lt aHS (by omega))
theorem aUk {A B p k : Nat} : rM A B p k = A * 2 ^ k / (B * 2 ^ rn A B p k) := by
 unfold rM
 conv => lhs; arg 1; unfold rq
 rw [Nat.div_div_eq_div_mul]
theorem aRl {A B p k : Nat} : rm2 A B p k true = if A * 2 ^ k % (B * 2 ^ rn A B p k) = 0 then rM A B p k else rM A B p k + 1 := by
 unfold rm2 rS
 by_cases h : A * 2 ^ k % (B * 2 ^ rn A B p k) = 0
 ·rw [if_pos h, if_neg (fun hh => (of_decide_eq_true hh.1) h)]
 ·rw [if_neg h, if_pos ⟨decide_eq_true h, rfl⟩]
theorem held {q B p : Nat} (hq : q < 2 ^ 60) (hB0 : B ≠ 0) (hB : B < 2 ^ 60) (hp : 1 ≤ p) (hp2 : p ≤ 100) (F : Bool → Dy) (hF : ∀ up, F up = if q = 0 then d0 else aIz q B p (p + 1 + bl B) up) : aUF q B p (F false) (F true) := by
 by_cases h0 : q = 0
 ·have e : ∀ up, F up = d0 := fun up => by rw [hF, if_pos h0]
  have em : xG d0 (bB B 0) = d0 := by
   unfold xG
   rw [show nv d0.2.1 = 0 from wR, Nat.zero_mul]; rfl
  have ex : bB q 0 = d0 := by rw [h0]; rfl
  have ec : aFz d0 d0 = 0 := by decide
  rw [e, e]
  refine ⟨by rw [em, ex, ec]; decide, by rw [em, ex, ec]; decide, ?_, ?_, ⟨fun _ => ⟨by rw [em, ex, ec], by rw [em, ex, ec]⟩, fun _ => rfl⟩⟩
  ·rw [show nv d0.2.1 = 0 from wR]; exact Nat.zero_le _
  ·rw [show nv d0.2.1 = 0 from wR]; exact Nat.zero_le _
 ·have hbB : bl B ≤ 60 := oG hB
  have hbq : bl q ≤ 60 := oG hq
  obtain ⟨k, hk⟩ : ∃ k, k = p + 1 + bl B := ⟨_, rfl⟩
  have hr := (aHj (A := q) (B := B) (p := p) (k := k) h0).2
  have e1 : F false = bB (rM q B p k) ((rn q B p k : Int) - (k : Int)) := by
   rw [hF, if_neg h0, ← hk]; unfold aIz rE rm2
   rw [if_neg (by rintro ⟨_, h⟩; cases h)]
  have e2 : F true = bB (rm2 q B p k true) ((rn q B p k : Int) - (k : Int)) := by
   rw [hF, if_neg h0, ← hk]; rfl
  unfold rE at hr
  have R1 : rM q B p k < 2 ^ p := aSU
  have R2 : rm2 q B p k true ≤ 2 ^ p := by rw [aRl]; split <;> omega
  have R3 : rm2 q B p k true < 2 ^ (p + 1) := aNa
  obtain ⟨a1, a2, a3⟩ := aOw (r := rn q B p k) (k := k) R1 hB (by omega) (by omega) (by omega)
  obtain ⟨b1, b2, b3⟩ := aOw (r := rn q B p k) (k := k) R3 hB (by omega) (by omega) (by omega)
  obtain ⟨x1, x2⟩ := tX q 0 (-(k : Int)) (by omega) (by omega)
  have x3 := oJ (e := 0) hq (by decide) (by decide)
  rw [show ((0 : Int) - -(k : Int)).toNat = k from by omega] at x2
  have ca := aOv a3 x3 (pJ _ _) (pJ _ _) (-(k : Int)) a1 x1
  have cb := aOv x3 b3 (pJ _ _) (pJ _ _) (-(k : Int)) x1 b1
  rw [a2, x2] at ca
  rw [b2, x2] at cb
  rw [e1, e2]
  have hY : 0 < B * 2 ^ rn q B p k := Nat.mul_pos (by omega) (Nat.two_pow_pos _)
  have hdm := Nat.div_add_mod (q * 2 ^ k) (B * 2 ^ rn q B p k)
  rw [← aUk] at hdm
  have hRY : rM q B p k * 2 ^ rn q B p k * B = B * 2 ^ rn q B p k * rM q B p k := by ac_rfl
  refine ⟨by rw [ca]; exact aOu.2 lo_le, by rw [cb]; exact aOu.2 (aUj hB0), aRk (e := 0) (by omega) hp, aRk (e := 0) R2 hp, ?_⟩
  rw [ca, cb, aMj, aMj]
  by_cases hs : q * 2 ^ k % (B * 2 ^ rn q B p k) = 0
  ·have e3 : rm2 q B p k true = rM q B p k := by rw [aRl, if_pos hs]
   rw [e3]
   exact ⟨fun _ => ⟨by omega, by omega⟩, fun _ => rfl⟩
  ·have e3 : rm2 q B p k true = rM q B p k + 1 := by rw [aRl, if_neg hs]
   rw [e3]
   constructor
   ·intro h
    obtain ⟨_, v1⟩ := tX (rM q B p k) ((rn q B p k : Int) - (k : Int)) (-(k : Int)) (by omega) (by omega)
    obtain ⟨_, v2⟩ := tX (rM q B p k + 1) ((rn q B p k : Int) - (k : Int)) (-(k : Int)) (by omega) (by omega)
    rw [h, v2] at v1
    have := Nat.eq_of_mul_eq_mul_right (Nat.two_pow_pos _) v1
    omega
   ·rintro ⟨h, _⟩
    omega
end Nu
end Go.Proofs
namespace Go.Proofs
open Go.Vc
set_option maxRecDepth 20000
namespace Nu
def oW : Dy := (false, [1], -3, ())
def aBt : Dy := (true, [1], -3, ())
theorem aTP : txt 12 = [49, 50] := by
 unfold txt; rw [if_neg (by decide), aNi (by decide) (by decide)]
theorem aRm : txt 13 = [49, 51] := by
 unfold txt; rw [if_neg (by decide), aNi (by decide) (by decide)]
theorem aTQ : Lm [1] := by intro x hx; simp at hx; subst hx; decide
theorem aOx : kB oW = true ∧ kB aBt = true := by decide +kernel
theorem aUG : txQ oW 2 false = 12 := by decide +kernel
theorem aUH : txQ oW 2 true = 13 := by decide +kernel
theorem aUI : txQ aBt 2 false = 13 := by decide +kernel
theorem aTR : aK oW 2 false = some ([48, 46, 49, 50], 0, ()) := by
 rw [aKP oW 2 false aTQ]
 unfold aMh
 rw [if_neg (by rw [aOx.1]; decide), if_neg (by decide), show ((2 : Int).toNat) = 2 from rfl, aUG, aTP]
 rfl
theorem aTS : aK oW 2 true = some ([48, 46, 49, 51], 0, ()) := by
 rw [aKP oW 2 true aTQ]
 unfold aMh
 rw [if_neg (by rw [aOx.1]; decide), if_neg (by decide), show ((2 : Int).toNat) = 2 from rfl, aUH, aRm]
 rfl
theorem aTT : aK aBt 2 false = some ([45, 48, 46, 49, 51], 0, ()) := by
 rw [aKP aBt 2 false aTQ]
 unfold aMh
 rw [if_neg (by rw [aOx.2]; decide), if_neg (by decide), show ((2 : Int).toNat) = 2 from rfl, aUI, aRm]
 rfl
theorem aTU : cB oW = some aBt := by
 rw [aTO oW (by decide)]
 unfold aTN
 rw [if_pos ⟨aOx.1, by decide⟩]
 rfl
theorem aKQ : eF [48, 46, 49, 50, 53] = ([48, 49, 50, 53], -3, true, ()) := by decide +kernel
theorem aD4 : eF [48, 46, 49] = ([48, 49], -1, true, ()) := by decide +kernel
theorem aUJ : lb 1 = [1] := by rw [aAT (by decide), show 1 / 18446744073709551616 = 0 from by decide, gF]
theorem aTV : bE [48, 46, 49, 50, 53] = some (oW, 0, ()) := by
 rw [aMa _ (by decide)]
 have hN : exN [48, 46, 49, 50, 53] = 125 := by unfold exN; rw [aKQ]; decide
 have hD : exD [48, 46, 49, 50, 53] = 125 := by unfold exD; rw [aKQ]; decide
 unfold aKK
 rw [hN, hD, aKQ, if_neg (by decide), if_neg (by decide), show 125 / 125 = 1 from rfl]
 have ht : tzn 1 = 0 := zD (m := 0) rfl
 unfold bB
 rw [if_neg (by decide), ht, show 1 / 2 ^ 0 = 1 from rfl, aUJ]
 rfl
theorem aTW : bE [48, 46, 49] = some (d0, 6, ()) := by
 rw [aMa _ (by decide)]
 have hN : exN [48, 46, 49] = 1 := by unfold exN; rw [aD4]; decide
 have hD : exD [48, 46, 49] = 5 := by unfold exD; rw [aD4]; decide
 unfold aKK
 rw [hN, hD, aD4, if_neg (by decide), if_pos (by decide)]
theorem aTX : (eF [49, 46, 53, 101, 45, 51]).2.2.1 = true ∧ (eF [49, 46]).2.2.1 = false ∧ (eF [46, 53]).2.2.1 = false ∧ (eF [49, 101, 49, 48, 49]).2.2.1 = false ∧ (eF []).2.2.1 = false := by decide +kernel
end Nu
end Go.Proofs
namespace Go.Proofs
open Go.Vc
set_option maxRecDepth 20000
namespace Nu
theorem aMk {x : Nat} (h0 : x ≠ 0) (h : x < 18446744073709551616) : lb x = [x] := by
 rw [aAT h0, Nat.mod_eq_of_lt h, Nat.div_eq_of_lt h, gF]
def aIU : Dy := (false, [209715], -21, ())
def aIV : Dy := (false, [838861], -23, ())
theorem aSW : bl 10 = 4 := aLu (k := 3) (by decide) (by decide)
theorem aUK : bl 3355443 = 22 := aLu (k := 21) (by decide) (by decide)
theorem aRn : rn 1 10 20 25 = 2 ∧ rM 1 10 20 25 = 838860 ∧ rE 1 10 20 25 = -23 ∧ rS 1 10 20 25 = true := by
 have hq : rq 1 10 25 = 3355443 := by decide
 have hn : rn 1 10 20 25 = 2 := by unfold rn; rw [hq, aUK]
 refine ⟨hn, ?_, ?_, ?_⟩
 ·unfold rM; rw [hn, hq]
 ·unfold rE; rw [hn]; rfl
 ·unfold rS; rw [hn]; decide
theorem aUl : aIz 1 10 20 25 false = aIU := by
 obtain ⟨h1, h2, h3, h4⟩ := aRn
 have hm : rm2 1 10 20 25 false = 838860 := by unfold rm2; rw [h2, if_neg (by rintro ⟨_, h⟩; cases h)]
 have ht : tzn 838860 = 2 := zD (m := 104857) (by decide)
 unfold aIz bB
 rw [hm, h3, if_neg (by decide), ht, show 838860 / 2 ^ 2 = 209715 from by decide, aMk (by decide) (by decide)]
 rfl
theorem aUm : aIz 1 10 20 25 true = aIV := by
 obtain ⟨h1, h2, h3, h4⟩ := aRn
 have hm : rm2 1 10 20 25 true = 838861 := by unfold rm2; rw [h2, h4, if_pos ⟨rfl, rfl⟩]
 have ht : tzn 838861 = 0 := zD (m := 419430) (by decide)
 unfold aIz bB
 rw [hm, h3, if_neg (by decide), ht, show 838861 / 2 ^ 0 = 838861 from by decide, aMk (by decide) (by decide)]
 rfl
theorem aTY : cC [48, 46, 49] 20 = some ((aIU, aIV, ()), 0, ()) := by
 rw [aRc _ _ (by decide)]
 have hA : aFx [48, 46, 49] = 1 := by unfold aFx; rw [aD4]; decide
 have hB : aD0 [48, 46, 49] = 10 := by unfold aD0; rw [aD4]; decide
 have e1 : vC [48, 46, 49] 20 false = aIU := by
  unfold vC; rw [hA, hB, if_neg (by decide), aSW]; exact aUl
 have e2 : vC [48, 46, 49] 20 true = aIV := by
  unfold vC; rw [hA, hB, if_neg (by decide), aSW]; exact aUm
 unfold aRa
 rw [aD4, if_neg (by decide), if_neg (by decide), show ((20 : Int).toNat) = 20 from rfl, e1, e2]
theorem aUn {x : Nat} (h : x < 18446744073709551616) : Lm [x] := by intro y hy; simp at hy; subst hy; exact h
theorem aTZ : cA aIU aIV = some (-1) := by
 rw [aNj aIU aIV (aUn (by decide)) (aUn (by decide))]
 have b1 : bl (nv [209715]) = 18 := aLu (k := 17) (by decide) (by decide)
 have b2 : bl (nv [838861]) = 20 := aLu (k := 19) (by decide) (by decide)
 have m1 : kB aIU = true ∧ kB aIV = true := by decide +kernel
 have s1 : lZ aIU = 1 := by unfold lZ; rw [m1.1]; decide
 have s2 : lZ aIV = 1 := by unfold lZ; rw [m1.2]; decide
 have sz : aDq aIU aIV = -1 := by
  unfold aDq aIU aIV
  simp only [b1, b2]
  decide +kernel
 unfold aFz
 rw [m1.1, m1.2, s1, s2, sz, if_neg (by decide), if_neg (by decide), if_neg (by decide), if_neg (by decide)]
 rfl
theorem aT0 : dN oW oW = some true := by
 rw [aOq oW oW (by decide)]; decide
theorem aSH : pI = some true := by
 have a := aTR
 have b := aTS
 have n := aTU
 have c := aTT
 have d := aTV
 have e := aTW
 have f := aTY
 have g := aTZ
 have h := aT0
 unfold oW at a b n d h
 unfold aBt at n c
 unfold aIU aIV at f g
 obtain ⟨f1, f2, f3, f4, f5⟩ := aTX
 have s1 : aN ⟨#[48, 46, 49, 50, 53]⟩ = [48, 46, 49, 50, 53] := rfl
 have s2 : aN ⟨#[48, 46, 49]⟩ = [48, 46, 49] := rfl
 have s3 : aN ⟨#[48, 46, 49, 50]⟩ = [48, 46, 49, 50] := rfl
 have s4 : aN ⟨#[48, 46, 49, 51]⟩ = [48, 46, 49, 51] := rfl
 have s5 : aN ⟨#[45, 48, 46, 49, 51]⟩ = [45, 48, 46, 49, 51] := rfl
 have w1 : bU (aN ⟨#[49, 46, 53, 101, 45, 51]⟩) = some true := by rw [show aN ⟨#[49, 46, 53, 101, 45, 51]⟩ = [49, 46, 53, 101, 45, 51] from rfl, aDl _ (by decide), f1]
 have w2 : bU (aN ⟨#[49, 46]⟩) = some false := by rw [show aN ⟨#[49, 46]⟩ = [49, 46] from rfl, aDl _ (by decide), f2]
 have w3 : bU (aN ⟨#[46, 53]⟩) = some false := by rw [show aN ⟨#[46, 53]⟩ = [46, 53] from rfl, aDl _ (by decide), f3]
 have w4 : bU (aN ⟨#[49, 101, 49, 48, 49]⟩) = some false := by rw [show aN ⟨#[49, 101, 49, 48, 49]⟩ = [49, 101, 49, 48, 49] from rfl, aDl _ (by decide), f4]
 have w5 : bU (aN ⟨#[]⟩) = some false := by rw [show aN ⟨#[]⟩ = [] from rfl, aDl _ (by decide), f5]
 unfold pI
 simp only [s1, s2, s3, s4, s5, a, b, n, c, d, e, f, g, h, w1, w2, w3, w4, w5, Option.getD_some]
 simp [ck]
 exact ⟨by decide, by decide⟩
end Nu
end Go.Proofs
namespace Go.Proofs
open Go.Vc
set_option maxRecDepth 20000
namespace Nu
end Nu
end Go.Proofs
namespace Go.Proofs
open Go.Vc
set_option maxRecDepth 20000
namespace Nu
def hv : List Nat → Nat
 | [] => 0
 | x :: r => x + 65536 * hv r
def hb (n : Nat) : List Nat := if h : n = 0 then [] else n % 65536 :: hb (n / 65536)
termination_by n
decreasing_by exact Nat.div_lt_self (by omega) (by decide)
end Nu
end Go.Proofs
namespace Go.Proofs
open Go.Vc
set_option maxRecDepth 20000
namespace Nu
end Nu
end Go.Proofs
namespace Go.Proofs
open Go.Vc
set_option maxRecDepth 20000
namespace Nu
end Nu
end Go.Proofs
namespace Go.Proofs
open Go.Vc
set_option maxRecDepth 20000
namespace Nu
end Nu
end Go.Proofs
namespace Go.Proofs
open Go.Vc
set_option maxRecDepth 20000
namespace Nu
end Nu
end Go.Proofs
namespace Go.Proofs
open Go.Vc
set_option maxRecDepth 20000
namespace Nu
end Nu
end Go.Proofs
namespace Go.Proofs
open Go.Vc
set_option maxRecDepth 20000
namespace Nu
end Nu
end Go.Proofs
namespace Go.Proofs
open Go.Vc
set_option maxRecDepth 20000
namespace Nu
end Nu
end Go.Proofs
namespace Go.Proofs
open Go.Vc
set_option maxRecDepth 20000
namespace Nu
end Nu
end Go.Proofs
namespace Go.Proofs
open Go.Vc
set_option maxRecDepth 20000
namespace Nu
abbrev VS : Type := Nat × Int × Nat × Bool × Bool × Bool
def v0 : VS := (0, 0, 0, false, false, false)
end Nu
end Go.Proofs
namespace Go.Proofs
open Go.Vc
set_option maxRecDepth 20000
namespace Nu
end Nu
end Go.Proofs
namespace Go.Proofs
open Go.Vc
set_option maxRecDepth 20000
namespace Nu
end Nu
end Go.Proofs
namespace Go.Proofs
open Go.Vc
set_option maxRecDepth 20000
namespace Nu
theorem aOy (x : Int) (k : Nat) (h : k ≤ 1000) (h0 : 0 < k) : ∃ n : Nat, n < k ∧ IntKind.i64.wrap ((((x % (18446744073709551616 : Int)).toNat % k : Nat) : Int)) = (n : Int) := by
 have key : ∀ r : Nat, r < 1000 → IntKind.i64.wrap (r : Int) = (r : Int) := fun r hr => by
  simp only [IntKind.wrap, IntKind.signed, IntKind.bits]; simp; omega
 have := Nat.mod_lt (x % (18446744073709551616 : Int)).toNat h0
 exact ⟨(x % (18446744073709551616 : Int)).toNat % k, this, key _ (by omega)⟩
theorem aRo {M K : Nat} {e : Int} (h : M < 2 ^ K) : (bB M e).2.1.length ≤ K := by
 rw [nU]
 refine iM.2 (Nat.lt_of_le_of_lt (Nat.div_le_self _ _) (Nat.lt_of_lt_of_le h ?_))
 rw [mM]
 exact p2m _ _ (by omega)
theorem aT1 : ∀ n : Fin 10, List.drop n.val (List.take (n.val + 1) (aN ⟨#[48, 49, 50, 51, 52, 53, 54, 55, 56, 57]⟩)) = [48 + n.val] := by decide +kernel
theorem aSI {n : Nat} (h : n < 10) : ∀ c ∈ [48 + n], gR c = true := by
 intro c hc
 rw [List.mem_singleton.1 hc]
 simp only [gR, decide_eq_true_iff]; omega
end Nu
end Go.Proofs
