import Derived.Test.YtabdejmolnikaaaGreatDoorZS2
import Derived.Test.YtabdejmolnikaaaGreatDoorZS1
import Derived.Test.YtabdejmolnikaaaGreatDoorZL5
import Derived.Shelf.Strconv.Itoa2
import Derived.Lib.ItoaNum
set_option linter.unusedVariables false
set_option linter.unusedSimpArgs false
namespace Go.Proofs
open Go.Vc
set_option maxRecDepth 20000
namespace Nu
theorem aQc {k : Nat} (h : k ≤ 18) : 10 ^ k ≤ 1000000000000000000 := Nat.pow_le_pow_right (n := 10) (by decide) h
theorem aRy (s : List Nat) (hd : ∀ c ∈ s, gZ c = true) (h0 : 0 < s.length) (h1 : s.length ≤ 18) : cU s = some ((iA s : Int), (), ()) := by
 have hget : ∀ k, k < s.length → 48 ≤ s.getD k 0 ∧ s.getD k 0 ≤ 57 := fun k hk => by
  have hg : s.getD k 0 ∈ s := by rw [List.getD_eq_getElem?_getD, List.getElem?_eq_getElem hk]; exact List.getElem_mem hk
  have := hd _ hg
  simpa only [gZ, decide_eq_true_iff] using this
 have hlt : ∀ k, iA (s.take k) < 1000000000000000000 ∨ k > s.length := fun k => by
  rcases Nat.lt_or_ge s.length k with h | h
  ·exact .inr h
  ·left
   have a := aAI (s := s.take k) (fun c hc => hd c (List.mem_of_mem_take hc))
   have b := aQc (k := (s.take k).length) (by rw [List.length_take]; omega)
   omega
 have key : eI s s = some ((iA s : Int), (), ()) := by
  unfold eI
  refine bZ (kX (step := fun d : Int × Int => dV s d.1 d.2) (I := fun d => 0 ≤ d.2 ∧ d.2 ≤ s.length ∧ d.1 = (iA (s.take d.2.toNat) : Int)) (fun d => ((s.length : Int) - d.2).toNat) (fun _ => .inl (iA s : Int)) ?_ (0, 0) ⟨by simp, by simp, by simp [iA]⟩) ?_
  ·rintro ⟨n, i⟩ ⟨i0, i1, i2⟩
   have i0 : 0 ≤ i := i0
   have i1 : i ≤ s.length := i1
   have i2 : n = (iA (s.take i.toNat) : Int) := i2
   show (∃ d', dV s n i = _ ∧ _) ∨ dV s n i = _
   unfold dV
   by_cases hi : i < s.length
   ·left
    have hk : i.toNat < s.length := by omega
    obtain ⟨c1, c2⟩ := hget _ hk
    have hsub : iB .u8 (s.getD i.toNat 0) 48 = s.getD i.toNat 0 - 48 := aTm (by omega) c1
    have hb : iA (s.take (i.toNat + 1)) = iA (s.take i.toNat) * 10 + (s.getD i.toNat 0 - 48) := by rw [take_succ hk, aAH]
    have hl := hlt (i.toNat + 1)
    refine ⟨((iA (s.take (i + 1).toNat) : Int), i + 1), ?_, ⟨by simp only; omega, by simp only; omega, rfl⟩, by simp only; omega, rfl⟩
    rw [if_pos hi, hsub, show (i + 1).toNat = i.toNat + 1 from by omega, hb]
    refine aB (by constructor <;> omega) ?_
    rw [if_neg (by omega), i2]
    refine aB (by constructor <;> omega) (aB (by constructor <;> omega) (aB (by constructor <;> omega) ?_))
    congr 3
   ·right
    rw [if_neg hi, i2, List.take_of_length_le (by omega)]
  ·unfold iM
   obtain ⟨c1, c2⟩ := hget 0 h0
   refine aB (by omega) ?_
   rw [if_neg (by omega)]
 have h2 : gK s = some ((iA s : Int), (), ()) := by
  unfold gK
  obtain ⟨c1, c2⟩ := hget 0 h0
  rw [if_pos (.inr ⟨trivial, by omega, by omega⟩)]
  refine aB (by omega) (aB (fun _ => by omega) ?_)
  rw [if_neg (by omega)]
  exact key
 unfold cU
 rw [h2]
 exact aB rfl rfl
theorem aGK (s : List Nat) (i : Nat) : ∀ c ∈ (s.drop i).take (cD s i), gZ c = true := by
 intro c hc
 have h : (s.drop i).take (cD s i) = (s.drop i).takeWhile gZ := by
  have := List.prefix_iff_eq_take.1 (List.takeWhile_prefix (p := gZ) (l := s.drop i))
  exact this.symm
 rw [h] at hc
 exact List.all_eq_true.1 List.all_takeWhile c hc
abbrev aQd : Type := List Nat × Int × Bool × Unit
def litNo : aQd := ([], 0, false, ())
def jV (s : List Nat) (i : Nat) (c : Nat) : Prop := i < s.length ∧ s.getD i 0 = c
instance (s : List Nat) (i c : Nat) : Decidable (jV s i c) := inferInstanceAs (Decidable (_ ∧ _))
def aGL (s : List Nat) (i : Nat) (all : List Nat) (pow : Int) (neg : Bool) : aQd :=
 if cD s i < 1 ∨ 3 < cD s i then litNo
 else if 100 < iA ((s.drop i).take (cD s i)) then litNo
 else (all, pow + (if neg then -(iA ((s.drop i).take (cD s i)) : Int) else iA ((s.drop i).take (cD s i))), decide (i + cD s i = s.length), ())
def aLd (s : List Nat) (i : Nat) (all : List Nat) (pow : Int) : aQd :=
 if jV s i 101 then aGL s (if jV s (i + 1) 45 ∨ jV s (i + 1) 43 then i + 2 else i + 1) all pow (decide (jV s (i + 1) 45))
 else (all, pow, decide (i = s.length), ())
def dI (s : List Nat) : aQd :=
 if 60 < s.length ∨ cD s 0 = 0 then litNo
 else if jV s (cD s 0) 46 then
  if cD s (cD s 0 + 1) = 0 then litNo
  else aLd s (cD s 0 + 1 + cD s (cD s 0 + 1)) (s.take (cD s 0) ++ (s.drop (cD s 0 + 1)).take (cD s (cD s 0 + 1))) (-(cD s (cD s 0 + 1) : Int))
 else aLd s (cD s 0) (s.take (cD s 0)) 0
theorem aQe (s : List Nat) (i : Nat) : s.getD ((i : Int)).toNat 0 = s.getD i 0 := by rw [Int.toNat_natCast]
theorem aQf (s : List Nat) (k : Nat) (all : List Nat) (pow x : Int) (hs : s.length ≤ 60) (hk : k ≤ 100) (hp : -100 ≤ pow ∧ pow ≤ 100) (hx : -100 ≤ x ∧ x ≤ 100) : fF pow (k : Int) s all x = some (all, pow + x, decide (k + cD s k = s.length), ()) := by
 have hd := yA s k
 unfold fF
 rw [aAG s k (by omega) (by omega)]
 simp only [Option.getD_some]
 refine aB (by constructor <;> omega) (aB (by constructor <;> omega) ?_)
 unfold fE
 have : decide ((k : Int) + (cD s k : Int) = (s.length : Int)) = decide (k + cD s k = s.length) := decide_eq_decide.2 (by omega)
 rw [this]
theorem aQg (s : List Nat) (i k : Nat) (all : List Nat) (pow : Int) (hs : s.length ≤ 60) (hi : i ≤ 60) (hk : k ≤ 100) (hp : -100 ≤ pow ∧ pow ≤ 100) : fG s (i : Int) pow all (k : Int) = some (aGL s k all pow (decide (jV s (i + 1) 45))) := by
 have hd := yA s k
 unfold fG aGL
 rw [aAG s k (by omega) (by omega)]
 simp only [Option.getD_some]
 refine aB rfl ?_
 by_cases h1 : cD s k < 1 ∨ 3 < cD s k
 ·rw [if_pos (by omega), if_pos h1]; rfl
 ·rw [if_neg (by omega), if_neg h1]
  have ht : List.drop ((k : Int)).toNat (List.take ((k : Int) + (cD s k : Int)).toNat s) = (s.drop k).take (cD s k) := by
   rw [List.drop_take, Int.toNat_natCast]
   congr 1
   omega
  have hl : ((s.drop k).take (cD s k)).length = cD s k := by rw [List.length_take, List.length_drop]; omega
  have ha := aRy _ (aGK s k) (by omega) (by omega)
  simp only [ht, ha, Option.getD_some]
  refine aB (by constructor <;> omega) (aB (by constructor <;> omega) (aB rfl ?_))
  by_cases h2 : 100 < iA ((s.drop k).take (cD s k))
  ·rw [if_pos (by omega), if_pos h2]; rfl
  ·rw [if_neg (by omega), if_neg h2]
   have e : ((i : Int) + 1).toNat = i + 1 := by omega
   rw [e]
   by_cases h3 : jV s (i + 1) 45
   ·have h3' : i + 1 < s.length ∧ s.getD (i + 1) 0 = 45 := h3
    rw [if_pos ⟨by omega, h3'.2⟩, decide_eq_true h3]
    refine aB (by constructor <;> omega) ?_
    rw [show (0 : Int) - (iA ((s.drop k).take (cD s k)) : Int) = -(iA ((s.drop k).take (cD s k)) : Int) from by omega]
    rw [aQf s k all pow _ hs hk hp (by constructor <;> omega)]
    rfl
   ·have h3' : ¬ (i + 1 < s.length ∧ s.getD (i + 1) 0 = 45) := h3
    rw [if_neg (fun h => h3' ⟨by omega, h.2⟩), decide_eq_false h3]
    rw [aQf s k all pow _ hs hk hp (by constructor <;> omega)]
    rfl
theorem aQh (s : List Nat) (i : Nat) (all : List Nat) (pow : Int) (hs : s.length ≤ 60) (hi : i ≤ 60) (hp : -100 ≤ pow ∧ pow ≤ 100) : fH s (i : Int) all pow = some (aLd s i all pow) := by
 unfold fH aLd
 have e : ((i : Int) + 1).toNat = i + 1 := by omega
 rw [aQe, e]
 refine aB (fun _ => by constructor <;> omega) ?_
 by_cases h : jV s i 101
 ·have h' : i < s.length ∧ s.getD i 0 = 101 := h
  rw [if_pos ⟨by omega, h'.2⟩, if_pos h]
  refine aB (by constructor <;> omega) (aB (fun _ => by constructor <;> omega) (aB (fun _ _ => by constructor <;> omega) ?_))
  by_cases h2 : jV s (i + 1) 45 ∨ jV s (i + 1) 43
  ·have h2' : (i + 1 < s.length ∧ s.getD (i + 1) 0 = 45) ∨ (i + 1 < s.length ∧ s.getD (i + 1) 0 = 43) := h2
   rw [if_pos (by rcases h2' with h | h; exact .inl ⟨by omega, h.2⟩; exact .inr ⟨by omega, h.2⟩), if_pos h2]
   refine aB (by constructor <;> omega) ?_
   have := aQg s i (i + 2) all pow hs hi (by omega) hp
   rw [show ((i + 2 : Nat) : Int) = (i : Int) + 1 + 1 from by omega] at this
   exact this
  ·have h2' : ¬ ((i + 1 < s.length ∧ s.getD (i + 1) 0 = 45) ∨ (i + 1 < s.length ∧ s.getD (i + 1) 0 = 43)) := h2
   rw [if_neg (fun h => h2' (by rcases h with h | h; exact .inl ⟨by omega, h.2⟩; exact .inr ⟨by omega, h.2⟩)), if_neg h2]
   have := aQg s i (i + 1) all pow hs hi (by omega) hp
   rw [show ((i + 1 : Nat) : Int) = (i : Int) + 1 from by omega] at this
   exact this
 ·have h' : ¬ (i < s.length ∧ s.getD i 0 = 101) := h
  rw [if_neg (fun h => h' ⟨by omega, h.2⟩), if_neg h]
  unfold fE
  have : decide ((i : Int) = (s.length : Int)) = decide (i = s.length) := decide_eq_decide.2 (by omega)
  rw [this]
theorem aMn (s : List Nat) (hs : s.length ≤ 4611686018427387904) : aO s = some (dI s) := by
 have hd0 := yA s 0
 have hd1 := yA s (cD s 0 + 1)
 unfold aO dI
 have e0 := aAG s 0 hs (by omega)
 rw [show ((0 : Nat) : Int) = 0 from rfl] at e0
 rw [e0]
 simp only [Option.getD_some]
 refine aB rfl (aB (by constructor <;> omega) ?_)
 by_cases h1 : 60 < s.length ∨ cD s 0 = 0
 ·rw [if_pos (by omega), if_pos h1]; rfl
 ·rw [if_neg (by omega), if_neg h1]
  rw [aQe]
  refine aB (fun _ => by constructor <;> omega) ?_
  by_cases h2 : jV s (cD s 0) 46
  ·have h2' : cD s 0 < s.length ∧ s.getD (cD s 0) 0 = 46 := h2
   rw [if_pos ⟨by omega, h2'.2⟩, if_pos h2]
   have e1 := aAG s (cD s 0 + 1) hs (by omega)
   rw [show ((cD s 0 + 1 : Nat) : Int) = (cD s 0 : Int) + 1 from by omega] at e1
   simp only [e1, Option.getD_some]
   refine aB (by constructor <;> omega) (aB rfl ?_)
   by_cases h3 : cD s (cD s 0 + 1) = 0
   ·rw [if_pos (by omega), if_pos h3]; rfl
   ·rw [if_neg (by omega), if_neg h3]
    have ht : List.drop ((cD s 0 : Int) + 1).toNat (List.take ((cD s 0 : Int) + 1 + (cD s (cD s 0 + 1) : Int)).toNat s) = (s.drop (cD s 0 + 1)).take (cD s (cD s 0 + 1)) := by
     rw [List.drop_take, show ((cD s 0 : Int) + 1).toNat = cD s 0 + 1 from by omega]
     congr 1
     omega
    simp only [ht, Int.toNat_natCast]
    have hl1 : (s.take (cD s 0)).length ≤ 60 := by rw [List.length_take]; omega
    have hl2 : ((s.drop (cD s 0 + 1)).take (cD s (cD s 0 + 1))).length ≤ 60 := by rw [List.length_take]; omega
    refine aB (by constructor <;> omega) (aB (by constructor <;> omega) (aB (by constructor <;> omega) (aB (by constructor <;> omega) (aB (by omega) (aB (by constructor <;> omega) (aB (by constructor <;> omega) (aB (by constructor <;> omega) ?_)))))))
    have := aQh s (cD s 0 + 1 + cD s (cD s 0 + 1)) (s.take (cD s 0) ++ (s.drop (cD s 0 + 1)).take (cD s (cD s 0 + 1))) (-(cD s (cD s 0 + 1) : Int)) (by omega) (by omega) (by constructor <;> omega)
    rw [show ((cD s 0 + 1 + cD s (cD s 0 + 1) : Nat) : Int) = (cD s 0 : Int) + 1 + (cD s (cD s 0 + 1) : Int) from by omega] at this
    rw [show (0 : Int) - (cD s (cD s 0 + 1) : Int) = -(cD s (cD s 0 + 1) : Int) from by omega]
    exact this
  ·have h2' : ¬ (cD s 0 < s.length ∧ s.getD (cD s 0) 0 = 46) := h2
   rw [if_neg (fun h => h2' ⟨by omega, h.2⟩), if_neg h2]
   rw [Int.toNat_natCast]
   exact aQh s (cD s 0) _ 0 (by omega) (by omega) (by decide)
end Nu
end Go.Proofs
namespace Go.Proofs
open Go.Vc
set_option maxRecDepth 20000
namespace Nu
def aLe (A B p k : Nat) (up : Bool) : Dy := dN (rm2 A B p k up) (rE A B p k)
theorem aAJ {M : Nat} {e : Int} : (dN M e).2.1 = lb (M / 2 ^ tzn M) := by
 unfold dN
 split
 ·rename_i h; subst h; rw [Nat.zero_div, fR]; rfl
 ·rfl
theorem aOo {A B p k0 K : Nat} {up : Bool} (hB : B ≠ 0) (hAK : A < 2 ^ K) (hBK : B < 2 ^ K) (hK : K ≤ 1000) (hp : 1 ≤ p) (hp2 : p ≤ 2000) (h : A ≠ 0 → 2 ^ p ≤ rq A B k0) :
  aGt (dN A 0) (dN B 0) (p : Int) up = .inl (if A = 0 then d0 else aLe A B p k0 up) := by
 have mA : gJ (dN A 0) = true := aCk hAK (by omega) (by decide)
 have mB : gJ (dN B 0) = true := aCk hBK (by omega) (by decide)
 have hm : aMi (p : Int) [dN A 0, dN B 0] = .inl () := by
  unfold aMi
  rw [if_pos ⟨by omega, by omega, by simp [mA, mB]⟩]
 obtain ⟨b1, b2⟩ := tS hB
 have hB' : B / 2 ^ tzn B ≠ 0 := by omega
 have hbB : bl (B / 2 ^ tzn B) ≤ K := rN (Nat.lt_of_le_of_lt (Nat.div_le_self _ _) hBK)
 have hzB := aJF hB hBK
 unfold aGt
 rw [hm]
 simp only [aAJ, eM]
 rw [if_neg (fun h => hB' (tK.1 (List.eq_nil_of_length_eq_zero h)))]
 have hs1 : (dN A 0).1 = false := by unfold dN; split <;> rfl
 have hs2 : (dN B 0).1 = false := by unfold dN; split <;> rfl
 rw [hs1, hs2]
 by_cases hA : A = 0
 ·subst hA
  simp only [if_true]
  have h1 : (dN 0 0).2.2.1 = 0 := rfl
  have h2 : (dN B 0).2.2.1 = (tzn B : Int) := by unfold dN; rw [if_neg hB]; simp
  rw [h1, h2, Nat.zero_div, Nat.zero_mul, Nat.zero_div, Nat.zero_mod]
  unfold aMj
  have hb0 : ¬ 0 < ((bl 0 : Nat) : Int) - (p : Int) := by
   have : bl 0 = 0 := rfl
   omega
  simp only [hb0, if_false]
  have : decide ((0 : Nat) ≠ 0) = false := rfl
  rw [this]
  simp only [Bool.false_eq_true, false_and, if_false]
  rfl
 ·obtain ⟨a1, a2⟩ := tS hA
  have hA' : A / 2 ^ tzn A ≠ 0 := by omega
  have hbA : bl (A / 2 ^ tzn A) ≤ K := rN (Nat.lt_of_le_of_lt (Nat.div_le_self _ _) hAK)
  have hzA := aJF hA hAK
  have h1 : (dN A 0).2.2.1 = (tzn A : Int) := by unfold dN; rw [if_neg hA]; simp
  have h2 : (dN B 0).2.2.1 = (tzn B : Int) := by unfold dN; rw [if_neg hB]; simp
  rw [h1, h2, if_neg hA]
  obtain ⟨k, hk, hk2, hk3⟩ : ∃ k : Nat, max (0 : Int) ((p : Int) + 1 + (bl (B / 2 ^ tzn B) : Int) - (bl (A / 2 ^ tzn A) : Int)) = (k : Int) ∧ p + bl (B / 2 ^ tzn B) ≤ bl (A / 2 ^ tzn A) - 1 + k ∧ k ≤ 4000 := by
   have hpos := aBj hA'
   exact ⟨(max (0 : Int) ((p : Int) + 1 + (bl (B / 2 ^ tzn B) : Int) - (bl (A / 2 ^ tzn A) : Int))).toNat, by omega, by omega, by omega⟩
  rw [hk, Int.toNat_natCast]
  have hbig := aQa (p := p) hA' hB' hk2
  have hf : (false != false) = false := rfl
  rw [hf]
  have hc := aTk (e := (tzn A : Int) - (tzn B : Int)) (up := up) hp hbig
  unfold rq at hc
  rw [hc]
  obtain ⟨o1, o2, o3, o4⟩ := aTl (A' := A / 2 ^ tzn A) (B' := B / 2 ^ tzn B) (za := tzn A) (zb := tzn B) hp a1.symm b1.symm (h hA)
  obtain ⟨s1, s2, s3⟩ := aSL hp hbig o1
  have hrm : rm2 (A / 2 ^ tzn A) (B / 2 ^ tzn B) p k up = rm2 A B p k0 up := by unfold rm2; rw [s1, s3, o2, o4]
  have hre : (tzn A : Int) - (tzn B : Int) + rE (A / 2 ^ tzn A) (B / 2 ^ tzn B) p k = rE A B p k0 := by rw [s2]; omega
  obtain ⟨q1, q2⟩ := aK8 (A := A / 2 ^ tzn A) (B := B / 2 ^ tzn B) (p := p) (k := k) hA'
  rw [hrm, hre, aJG (K := p + 1) aQb (by omega) (by constructor <;> omega)]
  simp only [if_true]
  rfl
def aRz (r : aQd) : Prop := (∀ c ∈ r.1, gZ c = true) ∧ r.1.length ≤ 60 ∧ -160 ≤ r.2.1 ∧ r.2.1 ≤ 160
theorem uU : aRz litNo := ⟨(fun c hc => by cases hc), by decide, by decide, by decide⟩
theorem aJO {s : List Nat} {i : Nat} {all : List Nat} {pow : Int} {neg : Bool} (h1 : ∀ c ∈ all, gZ c = true) (h2 : all.length ≤ 60) (h3 : -60 ≤ pow ∧ pow ≤ 0) : aRz (aGL s i all pow neg) := by
 unfold aGL
 split
 ·exact uU
 ·split
  ·exact uU
  ·refine ⟨h1, h2, ?_, ?_⟩
   ·simp only; split <;> omega
   ·simp only; split <;> omega
theorem aGM {s : List Nat} {i : Nat} {all : List Nat} {pow : Int} (h1 : ∀ c ∈ all, gZ c = true) (h2 : all.length ≤ 60) (h3 : -60 ≤ pow ∧ pow ≤ 0) : aRz (aLd s i all pow) := by
 unfold aLd
 split
 ·exact aJO h1 h2 h3
 ·exact ⟨h1, h2, by simp only; omega, by simp only; omega⟩
theorem tU (s : List Nat) : aRz (dI s) := by
 have hd0 := yA s 0
 have hd1 := yA s (cD s 0 + 1)
 have a0 := aGK s 0
 rw [List.drop_zero] at a0
 have a1 := aGK s (cD s 0 + 1)
 unfold dI
 split
 ·exact uU
 ·rename_i h
  split
  ·split
   ·exact uU
   ·refine aGM (fun c hc => ?_) ?_ (by constructor <;> omega)
    ·rcases List.mem_append.1 hc with hc | hc
     ·exact a0 c hc
     ·exact a1 c hc
    ·rw [List.length_append, List.length_take, List.length_take, List.length_drop]; omega
  ·refine aGM a0 ?_ (by decide)
   rw [List.length_take]; omega
def aCt (s : List Nat) : Nat := iA (dI s).1 * 10 ^ (max (dI s).2.1 0).toNat
def aBu (s : List Nat) : Nat := 10 ^ (max (-(dI s).2.1) 0).toNat
theorem pC (n : Nat) : 10 ^ n ≤ 2 ^ (4 * n) := by
 rw [Nat.pow_mul]
 exact Nat.pow_le_pow_left (by decide) n
theorem aNy (s : List Nat) : aCt s < 2 ^ 900 := by
 obtain ⟨h1, h2, h3, h4⟩ := tU s
 have a := aAI h1
 have b := pC (dI s).1.length
 have c := pC (max (dI s).2.1 0).toNat
 unfold aCt
 have d := Nat.mul_lt_mul_of_lt_of_le (Nat.lt_of_lt_of_le a b) c (Nat.pow_pos (by decide))
 rw [← Nat.pow_add] at d
 exact aK6 900 d (by omega)
theorem aNz (s : List Nat) : aBu s < 2 ^ 900 := by
 obtain ⟨h1, h2, h3, h4⟩ := tU s
 have c := pC (max (-(dI s).2.1) 0).toNat
 unfold aBu
 exact aGr 900 c (by omega)
theorem aLf (s : List Nat) : aBu s ≠ 0 := by
 unfold aBu
 have := Nat.pow_pos (n := (max (-(dI s).2.1) 0).toNat) (show 0 < 10 by decide)
 omega
def aSM (s : List Nat) : List Nat × List Nat × Bool × Unit := if (dI s).2.2.1 = true then (lb (aCt s), lb (aBu s), true, ()) else ([], [], false, ())
theorem aDg {x : Nat} (h : x < 2 ^ 900) : (lb x).length ≤ 15 := by
 exact jI.2 (aK7 15 h (by decide))
theorem aQi (s : List Nat) (hs : s.length ≤ 4611686018427387904) : bS s = some (aSM s) := by
 obtain ⟨h1, h2, h3, h4⟩ := tU s
 unfold bS aSM
 simp only [aMn s hs, Option.getD_some]
 refine aB rfl ?_
 by_cases h : (dI s).2.2.1 = true
 ·rw [if_neg (fun hn => hn h), if_pos h]
  have e1 := aIF (dI s).1 h1 (by omega)
  have e2 := aAp 10 (max (dI s).2.1 0).toNat (by decide) (by omega)
  have e3 := aAp 10 (max (-(dI s).2.1) 0).toNat (by decide) (by omega)
  rw [show (((max (dI s).2.1 0).toNat : Nat) : Int) = max (dI s).2.1 0 from by omega] at e2
  rw [show (((max (-(dI s).2.1) 0).toNat : Nat) : Int) = max (0 - (dI s).2.1) 0 from by omega] at e3
  simp only [e1, e2, e3, Option.getD_some]
  have l1 : (lb (iA (dI s).1)).length ≤ 15 := aDg (by
   have a := aAI h1
   have b := pC (dI s).1.length
   exact aK6 900 (Nat.lt_of_lt_of_le a b) (by omega))
  have l2 : (lb (10 ^ (max (dI s).2.1 0).toNat)).length ≤ 15 := aDg (aGr 900 (pC _) (by omega))
  refine aB rfl (aB rfl (aB ⟨?_, ?_⟩ (aB (by constructor <;> omega) (aB rfl ?_))))
  ·show (lb (iA (dI s).1)).length ≤ _; omega
  ·show (lb (10 ^ (max (dI s).2.1 0).toNat)).length ≤ _; omega
  ·have ht : aZ (lb (iA (dI s).1)) (lb (10 ^ (max (dI s).2.1 0).toNat)) = lb (aCt s) := by
    unfold aZ aCt; rw [eM, eM]
   rw [ht]; rfl
 ·rw [if_pos h, if_neg h]
end Nu
end Go.Proofs
namespace Go.Proofs
open Go.Vc
set_option maxRecDepth 20000
namespace Nu
theorem aCu (s : List Nat) (hs : s.length ≤ 4611686018427387904) : bQ s = some (dI s).2.2.1 := by
 unfold bQ
 simp only [aMn s hs, Option.getD_some]
 exact aB rfl rfl
def kV (s : List Nat) (p : Nat) (up : Bool) : Dy := if aCt s = 0 then d0 else aLe (aCt s) (aBu s) p (p + 1 + bl (aBu s)) up
def aMo (s : List Nat) (p : Int) : (Dy × Dy × Unit) × Int × Unit :=
 if ¬ (dI s).2.2.1 = true then ((d0, d0, ()), 6, ())
 else if p < 1 ∨ 2000 < p then ((d0, d0, ()), 1, ())
 else ((kV s p.toNat false, kV s p.toNat true, ()), 0, ())
theorem aQj {A K : Nat} (h : A < 2 ^ K) (hK : K ≤ 4096) : bJ false (lb A) 0 = some (dN A 0, 0, ()) := by
 have hl : (lb A).length ≤ K + 1 := jI.2 (Nat.lt_of_lt_of_le h (by rw [lK]; exact Nat.pow_le_pow_right (by decide) (by omega)))
 rw [aMh false (lb A) 0 (wC A) (rJ A) (by omega), eM, aJG h hK (by decide)]
theorem aLg (s : List Nat) (p : Nat) (up : Bool) (hp : 1 ≤ p ∧ p ≤ 2000) : dR (dN (aCt s) 0) (dN (aBu s) 0) (p : Int) up = some (kV s p up, 0, ()) := by
 have hL : ∀ M, Lm (dN M 0).2.1 := fun M => by rw [aAJ]; exact wC _
 rw [aRw _ _ _ _ (hL _) (hL _), aOo (k0 := p + 1 + bl (aBu s)) (aLf s) (aNy s) (aNz s) (by decide) hp.1 hp.2 (fun h => aQa h (aLf s) (by have := aBj h; omega))]
 rfl
theorem aMp (s : List Nat) (p : Int) (hs : s.length ≤ 4611686018427387904) : bT s p = some (aMo s p) := by
 unfold bT aMo
 simp only [aQi s hs, Option.getD_some]
 refine aB rfl ?_
 unfold aSM
 by_cases h : (dI s).2.2.1 = true
 ·simp only [h, if_true, not_true, if_false]
  by_cases h2 : p < 1 ∨ 2000 < p
  ·simp only [h2, if_true]; rfl
  ·simp only [h2, if_false]
   obtain ⟨q, rfl⟩ : ∃ q : Nat, p = (q : Int) := ⟨p.toNat, by omega⟩
   simp only [aQj (aNy s) (by decide), aQj (aNz s) (by decide), Option.getD_some, aLg s q false (by constructor <;> omega), aLg s q true (by constructor <;> omega)]
   refine aB rfl (aB rfl (aB rfl (aB rfl ?_)))
   simp only [not_true, or_self, if_false, Int.toNat_natCast]
 ·simp only [h, if_false, Bool.false_eq_true, not_false_eq_true, if_true]; rfl
end Nu
end Go.Proofs
namespace Go.Proofs
open Go.Vc
set_option maxRecDepth 20000
namespace Nu
theorem aLh {a : List Nat} (h : ∀ c ∈ a, gZ c = true) (pre : List Nat) : cD (pre ++ a) pre.length = a.length := by
 unfold cD
 rw [List.drop_left]
 have := List.takeWhile_append_of_pos (l₂ := []) h
 rw [List.append_nil, List.takeWhile_nil, List.append_nil] at this
 rw [this]
theorem aOp {a b : List Nat} {x : Nat} (h : ∀ c ∈ a, gZ c = true) (hx : gZ x = false) : cD (a ++ x :: b) 0 = a.length := by
 unfold cD
 rw [List.drop_zero, List.takeWhile_append_of_pos h, List.takeWhile_cons, hx]
 simp
theorem aQk {a : List Nat} (h : ∀ c ∈ a, gZ c = true) (h1 : 1 ≤ a.length) (h2 : a.length ≤ 60) : dI a = (a, 0, true, ()) := by
 have hd : cD a 0 = a.length := aLh h []
 unfold dI aLd
 rw [hd, if_neg (by omega), if_neg (fun hh : jV a a.length 46 => by have := hh.1; omega), if_neg (fun hh : jV a a.length 101 => by have := hh.1; omega), List.take_length, decide_eq_true rfl]
theorem aRA {a b : List Nat} (h : ∀ c ∈ a, gZ c = true) (hb : ∀ c ∈ b, gZ c = true) (h1 : 1 ≤ a.length) (h3 : 1 ≤ b.length) (h2 : a.length + 1 + b.length ≤ 60) : dI (a ++ 46 :: b) = (a ++ b, -(b.length : Int), true, ()) := by
 have hd : cD (a ++ 46 :: b) 0 = a.length := aOp h rfl
 have hl : (a ++ 46 :: b).length = a.length + 1 + b.length := by simp; omega
 have hg : jV (a ++ 46 :: b) a.length 46 := ⟨by omega, by simp [List.getD_eq_getElem?_getD]⟩
 have hr : a ++ 46 :: b = (a ++ [46]) ++ b := by simp
 have hd2 : cD (a ++ 46 :: b) (a.length + 1) = b.length := by
  have := aLh hb (a ++ [46])
  rw [← hr, List.length_append] at this
  exact this
 have hdr : (a ++ 46 :: b).drop (a.length + 1) = b := by
  rw [hr, show a.length + 1 = (a ++ [46]).length by simp, List.drop_left]
 unfold dI aLd
 rw [hd, hd2, if_neg (by omega), if_pos hg, if_neg (by omega), if_neg (fun hh : jV (a ++ 46 :: b) (a.length + 1 + b.length) 101 => by have := hh.1; omega), List.take_left, hdr, List.take_length, decide_eq_true hl.symm]
theorem aLi (a : List Nat) : ∀ n, iA (a ++ List.replicate n 48) = iA a * 10 ^ n
 | 0 => by simp
 | n + 1 => by
  rw [List.replicate_succ', ← List.append_assoc, aAH, aLi a n, Nat.pow_succ, Nat.mul_assoc]; rfl
theorem aRB (n : Nat) : ∀ c ∈ List.replicate n 48, gZ c = true := fun c hc => by rw [(List.mem_replicate.1 hc).2]; rfl
theorem aRC {a b : List Nat} (h : ∀ c ∈ a, gZ c = true) (hb : ∀ c ∈ b, gZ c = true) : ∀ c ∈ a ++ b, gZ c = true := fun c hc => (List.mem_append.1 hc).elim (h c) (hb c)
end Nu
end Go.Proofs
namespace Go.Proofs
open Go.Vc
set_option maxRecDepth 20000
namespace Nu
def exN (s : List Nat) : Nat := iA (dI s).1 * 5 ^ (max (dI s).2.1 0).toNat
def exD (s : List Nat) : Nat := 5 ^ (max (-(dI s).2.1) 0).toNat
def qA (s : List Nat) : Dy × Int × Unit :=
 if ¬ (dI s).2.2.1 = true then (d0, 6, ())
 else if exN s % exD s ≠ 0 then (d0, 6, ())
 else (dN (exN s / exD s) (dI s).2.1, 0, ())
theorem aLj (n : Nat) : 5 ^ n ≤ 2 ^ (4 * n) := Nat.le_trans (Nat.pow_le_pow_left (by decide) n) (pC n)
theorem aQl (s : List Nat) : exN s < 2 ^ 900 := by
 obtain ⟨h1, h2, h3, h4⟩ := tU s
 have a := aAI h1
 have b := pC (dI s).1.length
 have c := aLj (max (dI s).2.1 0).toNat
 unfold exN
 have d := Nat.mul_lt_mul_of_lt_of_le (Nat.lt_of_lt_of_le a b) c (Nat.pow_pos (by decide))
 rw [← Nat.pow_add] at d
 exact aK6 900 d (by omega)
theorem aRD (s : List Nat) : exD s ≠ 0 := by
 unfold exD
 have := Nat.pow_pos (n := (max (-(dI s).2.1) 0).toNat) (show 0 < 5 by decide)
 omega
theorem aGN (s : List Nat) (hs : s.length ≤ 4611686018427387904) : bB s = some (qA s) := by
 obtain ⟨h1, h2, h3, h4⟩ := tU s
 unfold bB qA
 simp only [aMn s hs, Option.getD_some]
 refine aB rfl ?_
 by_cases h : (dI s).2.2.1 = true
 ·simp only [h, not_true, if_false]
  have e1 := aIF (dI s).1 h1 (by omega)
  have e2 := aAp 5 (max (dI s).2.1 0).toNat (by decide) (by omega)
  have e3 := aAp 5 (max (-(dI s).2.1) 0).toNat (by decide) (by omega)
  rw [show (((max (dI s).2.1 0).toNat : Nat) : Int) = max (dI s).2.1 0 from by omega] at e2
  rw [show (((max (-(dI s).2.1) 0).toNat : Nat) : Int) = max (0 - (dI s).2.1) 0 from by omega] at e3
  have l1 : (lb (iA (dI s).1)).length ≤ 15 := aDg (by
   have a := aAI h1
   have b := pC (dI s).1.length
   exact aK6 900 (Nat.lt_of_lt_of_le a b) (by omega))
  have l2 : (lb (5 ^ (max (dI s).2.1 0).toNat)).length ≤ 15 := aDg (aGr 900 (aLj _) (by omega))
  have ht : aZ (lb (iA (dI s).1)) (lb (5 ^ (max (dI s).2.1 0).toNat)) = lb (exN s) := by
   unfold aZ exN; rw [eM, eM]
  have hq : bC (lb (exN s)) (lb (exD s)) = (lb (exN s / exD s), lb (exN s % exD s), ()) := by
   unfold bC; rw [eM, eM]
  have hN := aQl s
  have hlt : exN s / exD s < 2 ^ 900 := Nat.lt_of_le_of_lt (Nat.div_le_self _ _) hN
  have hF : bJ false (lb (exN s / exD s)) (dI s).2.1 = some (dN (exN s / exD s) (dI s).2.1, 0, ()) := by
   rw [aMh false _ _ (wC _) (rJ _) (by have := aDg hlt; omega), eM, aJG hlt (by decide) (by constructor <;> omega)]
  have hD : lb (5 ^ (max (-(dI s).2.1) 0).toNat) = lb (exD s) := rfl
  rw [hD] at e3
  simp only [e1, e2, e3, Option.getD_some, ht, hq, hF]
  refine aB rfl (aB rfl (aB ⟨?_, ?_⟩ (aB (by constructor <;> omega) (aB rfl (aB ⟨rJ _, rJ _, by rw [eM]; exact aRD s, ?_⟩ (aB rfl ?_))))))
  ·show (lb (iA (dI s).1)).length ≤ _; omega
  ·show (lb (5 ^ (max (dI s).2.1 0).toNat)).length ≤ _; omega
  ·have := aDg hN; omega
  ·by_cases hr : exN s % exD s = 0
   ·rw [if_neg (by rw [hr, fR]; simp), if_neg (fun h => h hr)]
   ·have hl := List.length_pos_iff.2 (fun e => hr (tK.1 e))
    rw [if_pos (.inl (by omega)), if_pos hr]; rfl
 ·simp only [h, not_false_eq_true, if_true, Bool.false_eq_true]; rfl
end Nu
end Go.Proofs
namespace Go.Proofs
open Go.Shelf
def Tryz.lays285_ren : Go.Shelf.Ren := ⟨fun | 285 => 165 | n => n, fun | 37 => 77 | 53 => 54 | 3 => 3 | 4 => 4 | 51 => 96 | 9 => 9 | 5 => 5 | 0 => 0 | n => n, fun | n => n⟩
theorem Tryz.lays285 : Go.Proofs.Lays.n285 Tryz.prog Tryz.lays285_ren := {
 mixed := by kernel_rfl
 f285 := Tryz.func165.trans (congrArg some (by kernel_rfl))
 t0 := Tryz.underlying0
 a0 := Tryz.isAgg0
 z0 := Tryz.sizeOf0
 v0 := Tryz.zeroValue0
 t3 := Tryz.underlying3
 a3 := Tryz.isAgg3
 z3 := Tryz.sizeOf3
 v3 := Tryz.zeroValue3
 t4 := Tryz.underlying4
 a4 := Tryz.isAgg4
 z4 := Tryz.sizeOf4
 v4 := Tryz.zeroValue4
 t5 := Tryz.underlying5
 a5 := Tryz.isAgg5
 z5 := Tryz.sizeOf5
 v5 := Tryz.zeroValue5
 t9 := Tryz.underlying9
 a9 := Tryz.isAgg9
 z9 := Tryz.sizeOf9
 v9 := Tryz.zeroValue9
 t37 := Tryz.underlying77
 a37 := Tryz.isAgg77
 z37 := Tryz.sizeOf77
 v37 := Tryz.zeroValue77
 t51 := Tryz.underlying96
 a51 := Tryz.isAgg96
 z51 := Tryz.sizeOf96
 v51 := Tryz.zeroValue96
 t53 := Tryz.underlying54
 a53 := Tryz.isAgg54
 z53 := Tryz.sizeOf54
 v53 := Tryz.zeroValue54 }
open Go.Vc
set_option maxRecDepth 20000
namespace Nu
def dgs (n u : Nat) : List Nat := (List.range n).map fun t => 48 + u / 10 ^ (n - 1 - t) % 10
theorem nI (n u : Nat) : (dgs n u).length = n := by simp [dgs]
noncomputable def dH (uo un u : Nat) (xs : List Nat) : Option (List Nat) :=
 ck (uo + un ≤ 24) (ck (u < 10 ^ un) (some (xs.take uo ++ dgs un u ++ xs.drop (uo + un))))
noncomputable def jN : lO where
 D := Nat × Nat × Nat × (List Nat) × ((List Nat))
 av := fun d => [.sub 0 1 d.1 d.2.1, .val (.u .u64) d.2.2.1]
 hp := fun d => [.box 24 (.val (.arr 24 (.u .u8)) d.2.2.2.1)]
 m := 1
 pre := fun d => dH d.1 d.2.1 d.2.2.1 d.2.2.2.1 = some d.2.2.2.2
 out := fun d => (fun r : (List Nat) => .ret (.tup []) [.box 24 (.val (.arr 24 (.u .u8)) (r))]) d.2.2.2.2
attribute [go_sem] jN
theorem aD5 (xs : List Nat) : (xs.map (fun (x : Nat) => [Value.int .u8 (x : Int)])).flatten = xs.map (fun (x : Nat) => Value.int .u8 (x : Int)) := by
 induction xs with
 | nil => rfl
 | cons x r ih => simp [ih]
theorem aRE {w : World} {S : Nat → Prop} {m : Nat} {xs : List Nat} {cs : List Value} (h : aU w S (.arr m (.u .u8)) xs cs) : xs.length = m ∧ cs = xs.map (fun (x : Nat) => Value.int .u8 (x : Int)) ∧ ∀ x ∈ xs, x < 256 := by
 obtain ⟨hl, css, rfl, hcl, hr⟩ := h
 have hl : xs.length = m := hl
 have key : ∀ i (h : i < xs.length) (h' : i < css.length), css[i] = [Value.int .u8 (xs[i] : Int)] ∧ xs[i] < 256 := fun i h h' => by
  obtain ⟨h1, _, h3⟩ := hr i h h'
  refine ⟨h1, ?_⟩
  simp only [IntKind.max, IntKind.signed, IntKind.bits] at h3
  simp at h3
  omega
 refine ⟨hl, ?_, fun x hx => ?_⟩
 ·have e : css = xs.map (fun (x : Nat) => [Value.int .u8 (x : Int)]) := by
   apply List.ext_getElem
   ·simp; exact hcl
   ·intro i h1 h2
    have := (key i (by simpa using h2) h1).1
    simpa using this
  rw [e, aD5]
 ·obtain ⟨i, hi, rfl⟩ := List.getElem_of_mem hx
  exact (key i hi (by have : css.length = xs.length := hcl; omega)).2
theorem aTn {w : World} {S : Nat → Prop} {m : Nat} {xs : List Nat} (hl : xs.length = m) (hx : ∀ x ∈ xs, x < 256) : aU w S (.arr m (.u .u8)) xs (xs.map (fun (x : Nat) => Value.int .u8 (x : Int))) := by
 refine ⟨hl, xs.map (fun (x : Nat) => [Value.int .u8 (x : Int)]), (aD5 xs).symm, by simp, fun i h h' => ?_⟩
 ·have := hx xs[i] (List.getElem_mem h)
  refine ⟨by simp, rfl, ?_⟩
  simp only [IntKind.max, IntKind.signed, IntKind.bits]
  simp
  omega
open Go.Sort in
theorem aOq {cells : Array Value} {xs : List Nat} {uo un u v' : Nat} {dk : Array UInt8} (hc : cells.toList = xs.map (fun (x : Nat) => Value.int .u8 (x : Int))) (hle : uo + un ≤ xs.length) (hF : Lib.FmtInv un u 0 v' dk) :
  (putCells (fun (b : UInt8) => Value.int .u8 (b.toNat : Int)) uo dk cells).toList = (xs.take uo ++ dgs un u ++ xs.drop (uo + un)).map (fun (x : Nat) => Value.int .u8 (x : Int)) := by
 have hsz : cells.size = xs.length := by rw [← Array.length_toList, hc, List.length_map]
 have hdk := hF.size
 apply List.ext_getElem
 ·simp [putCells, nI, hsz]; omega
 ·intro i h1 h2
  have hi : i < xs.length := by simpa [putCells, hsz] using h1
  have hci : cells[i]'(by omega) = Value.int .u8 (xs[i] : Int) := by
   have : cells.toList[i]'(by rw [Array.length_toList]; omega) = Value.int .u8 (xs[i] : Int) := by simp [hc]
   simpa using this
  simp only [putCells, Array.toList_mapIdx, List.getElem_mapIdx, Array.getElem_toList, List.getElem_map]
  by_cases hr : uo ≤ i ∧ i < uo + dk.size
  ·rw [if_pos hr, hF.done (i - uo) (Nat.zero_le _) (by omega)]
   have : (xs.take uo ++ dgs un u ++ xs.drop (uo + un))[i]'(by simpa using h2) = 48 + u / 10 ^ (un - 1 - (i - uo)) % 10 := by
    rw [List.getElem_append_left (by simp [nI]; omega), List.getElem_append_right (by simp; omega)]
    simp [dgs, Nat.min_eq_left (show uo ≤ xs.length by omega)]
   rw [this]
   have hm := Nat.mod_lt (u / 10 ^ (un - 1 - (i - uo))) (show 0 < 10 by decide)
   simp only [Lib.dg, UInt8.toNat_ofNat']
   rw [Nat.mod_eq_of_lt (by omega)]
  ·rw [if_neg hr, hci]
   rcases Nat.lt_or_ge i uo with h | h
   ·rw [List.getElem_append_left (by simp [nI]; omega), List.getElem_append_left (by simp; omega)]
    simp
   ·rw [List.getElem_append_right (by simp [nI]; omega)]
    simp only [List.length_append, List.length_take, nI, List.getElem_drop]
    congr 3
    omega
open Go.Sort in
theorem vK : GOK Tryz.prog GL 165 jN := by
 rintro c w ⟨uo, un, u, xs, r⟩ vs hpre ⟨good, glob, len, val⟩
 have hpre : dH uo un u xs = some r := hpre
 unfold dH at hpre
 obtain ⟨h1, hpre⟩ := aH hpre
 obtain ⟨h2, hpre⟩ := aH hpre
 have hr : xs.take uo ++ dgs un u ++ xs.drop (uo + un) = r := Option.some.inj hpre
 obtain ⟨b, cells, e, hhd, hheap, hsz, hcl⟩ := good.objs 0 _ rfl
 obtain ⟨hl, hcs, hx⟩ := aRE hcl
 have hl : xs.length = 24 := hl
 have hcs : cells.toList = xs.map (fun (x : Nat) => Value.int .u8 (x : Int)) := hcs
 have hx : ∀ x ∈ xs, x < 256 := hx
 have hsz : cells.size = 24 := hsz
 have hv0 := val 0 (by show 0 < 2; decide) (by rw [len]; show 0 < 2; decide)
 have hv1 := val 1 (by show 1 < 2; decide) (by rw [len]; show 1 < 2; decide)
 obtain ⟨_, hn, b', cap, hb', e0⟩ := aER (i := 0) (s := 1) (off := uo) (n := un) hv0
 obtain ⟨e1, _, hu⟩ := yY (k := .u64) (n := u) hv1
 rw [hhd] at hb'
 simp only [aW, Option.some.injEq] at hb'
 subst hb'
 have hvs : vs = #[.slice (some ⟨b, uo * 1, none⟩) un cap, .int .u64 (u : Int)] := by
  have hlen : vs.toList.length = 2 := len
  rw [← Array.toList_inj]
  apply List.ext_getElem
  ·exact hlen
  ·intro i a1 a2
   match i, a2 with
   | 0, _ => exact e0
   | 1, _ => exact e1
 have hd : (((xs.drop uo).take un).map UInt8.ofNat).toArray.size = un := by simp; omega
 have hcell : ∀ j (hj : j < xs.length), w.cell? ⟨b, j, none⟩ = some (.int .u8 (xs[j] : Int)) := fun j hj => by
  have hj2 : j < cells.size := by omega
  have : cells[j] = Value.int .u8 (xs[j] : Int) := by
   have : cells.toList[j]'(by rw [Array.length_toList]; omega) = Value.int .u8 (xs[j] : Int) := by simp [hcs]
   simpa using this
  simp [World.cell?, hheap, hj2, this]
 have hH : Holds (fun (b : UInt8) => Value.int .u8 (b.toNat : Int)) w b uo (((xs.drop uo).take un).map UInt8.ofNat).toArray := fun j hj => by
  rw [hd] at hj
  have hj2 : uo + j < xs.length := by omega
  refine ⟨?_, ?_⟩
  ·rw [hcell _ hj2]
   have hlt := hx xs[uo + j] (List.getElem_mem hj2)
   have : (((xs.drop uo).take un).map UInt8.ofNat).toArray[j]! = UInt8.ofNat xs[uo + j] := by
    rw [getElem!_pos _ j (by rw [hd]; exact hj)]
    simp
   rw [this]
   simp only [UInt8.toNat_ofNat']
   rw [Nat.mod_eq_of_lt (by omega)]
  ·simp [World.frozen?, hheap]
 have hB : eJ .u64 = 18446744073709551616 := by decide +kernel
 have key := Any.internal_strconv_formatBase10 Tryz.lays285 b uo cap u _ w hH (by rw [hd]; exact h2) (by omega) (by rw [hd]; omega)
 rw [hd] at key
 rw [hvs, Nat.mul_one]
 refine Calls.mono (f := 165) key ?_
 rintro e w' ⟨rfl, n, v', dk, rfl, hF⟩
 refine ⟨c, .tuple #[], rfl, ?_, ?_⟩
 ·have hbl : b < w.heap.size := (Array.getElem?_eq_some_iff.1 hheap).1
  have hpc := aOq (uo := uo) (xs := xs) (u := u) (dk := dk) (un := un) hcs (by omega) hF
  have hheap' : ((putRow (fun (b : UInt8) => Value.int .u8 (b.toNat : Int)) w b uo dk).drewN n).heap[b]? = some (.cells (putCells (fun (b : UInt8) => Value.int .u8 (b.toNat : Int)) uo dk cells) e (0, 0)) := by
   show (w.heap.modify b (onCells _))[b]? = _
   rw [Array.getElem?_modify, if_pos rfl, hheap]
   rfl
  have hoth : ∀ k, k ≠ b → ((putRow (fun (b : UInt8) => Value.int .u8 (b.toNat : Int)) w b uo dk).drewN n).heap[k]? = w.heap[k]? := fun k hk => by
   show (w.heap.modify b (onCells _))[k]? = _
   rw [Array.getElem?_modify, if_neg (fun h => hk h.symm)]
  have hsize : ((putRow (fun (b : UInt8) => Value.int .u8 (b.toNat : Int)) w b uo dk).drewN n).heap.size = w.heap.size := by
   show (w.heap.modify b (onCells _)).size = _
   simp
  have hnS : ¬ c.S b := (good.own 0 _ b rfl (by show aW (c.hd 0) = some b; rw [hhd]; rfl)).2.2
  refine ⟨good.n, ⟨rfl, rfl, rfl, Nat.le_of_eq hsize.symm, fun k hk hM => hoth k (fun hkb => hM ?_)⟩, fun k hk => by rw [hsize]; exact good.sfin k hk, good.src, fun i o hio => ?_, fun i o k hio hk => ?_, fun i j oi oj k hi hj hbi hbj => ?_, good.root⟩
  ·subst hkb
   exact ⟨0, _, rfl, by show aW (c.hd 0) = some k; rw [hhd]; rfl⟩
  ·match i, hio with
   | 0, hio =>
    cases hio
    refine ⟨b, _, e, hhd, hheap', ?_, ?_⟩
    ·simp [putCells, hsz]
    ·show aU _ c.S (.arr 24 (.u .u8)) r _
     rw [hpc, hr]
     have hrl : r.length = 24 := by rw [← hr]; simp [nI]; omega
     refine aTn hrl (fun x hxr => ?_)
     rw [← hr] at hxr
     rcases List.mem_append.1 hxr with hxr | hxr
     ·rcases List.mem_append.1 hxr with hxr | hxr
      ·exact hx x (List.mem_of_mem_take hxr)
      ·obtain ⟨t, _, rfl⟩ := List.mem_map.1 hxr
       have := Nat.mod_lt (u / 10 ^ (un - 1 - t)) (show 0 < 10 by decide)
       omega
     ·exact hx x (List.mem_of_mem_drop hxr)
   | i + 1, hio => cases hio
  ·match i, hio with
   | 0, hio =>
    cases hio
    have := good.own 0 _ k rfl hk
    rw [hsize]; exact this
   | i + 1, hio => cases hio
  ·match i, j, hi, hj with
   | 0, 0, _, _ => rfl
   | 0, j + 1, _, hj => cases hj
   | i + 1, _, hi, _ => cases hi
 ·exact ⟨[], rfl, rfl, fun i h1 _ => by cases h1⟩
end Nu
end Go.Proofs
namespace Go.Proofs
open Go.Vc
set_option maxRecDepth 20000
namespace Nu
def nN : ByteArray := ⟨⟨48 :: 48 :: 48 :: 48 :: 48 :: 48 :: 48 :: 48 :: 48 :: 48 :: 48 :: 48 :: 48 :: 48 :: 48 :: 48 :: 48 :: 48 :: 48 :: 48 :: 48 :: 48 :: 48 :: 48 :: 48 :: 48 :: 48 :: 48 :: 48 :: 48 :: 48 :: 48 :: 48 :: 48 :: 48 :: 48 :: 48 :: 48 :: 48 :: 48 :: 48 :: 48 :: 48 :: 48 :: 48 :: 48 :: 48 :: 48 :: 48 :: 48 :: 48 :: 48 :: 48 :: 48 :: 48 :: 48 :: 48 :: 48 :: 48 :: 48 :: 48 :: 48 :: 48 :: 48 :: []⟩⟩
theorem aHL : (⟨⟨48 :: 48 :: 48 :: 48 :: 48 :: 48 :: 48 :: 48 :: 48 :: 48 :: 48 :: 48 :: 48 :: 48 :: 48 :: 48 :: 48 :: 48 :: 48 :: 48 :: 48 :: 48 :: 48 :: 48 :: 48 :: 48 :: 48 :: 48 :: 48 :: 48 :: 48 :: 48 :: 48 :: 48 :: 48 :: 48 :: 48 :: 48 :: 48 :: 48 :: 48 :: 48 :: 48 :: 48 :: 48 :: 48 :: 48 :: 48 :: 48 :: 48 :: 48 :: 48 :: 48 :: 48 :: 48 :: 48 :: 48 :: 48 :: 48 :: 48 :: 48 :: 48 :: 48 :: 48 :: []⟩⟩ : ByteArray) = nN := rfl
attribute [go_sem] aHL
def qB : ByteArray := ⟨⟨45 :: 45 :: 45 :: 45 :: 45 :: 45 :: 45 :: 45 :: 45 :: 45 :: 45 :: 45 :: 45 :: 45 :: 45 :: 45 :: 45 :: 45 :: 45 :: 45 :: 45 :: 45 :: 45 :: 45 :: 45 :: 45 :: 45 :: 45 :: 45 :: 45 :: 45 :: 45 :: 45 :: 45 :: 45 :: 45 :: 45 :: 45 :: 45 :: 45 :: 45 :: 45 :: 45 :: 45 :: 45 :: 45 :: 45 :: 45 :: 45 :: 45 :: 45 :: 45 :: 45 :: 45 :: 45 :: 45 :: 45 :: 45 :: 45 :: 45 :: 45 :: 45 :: 45 :: 45 :: 45 :: 45 :: 45 :: 45 :: 45 :: 45 :: 45 :: 45 :: 45 :: 45 :: 45 :: 45 :: 45 :: 45 :: 45 :: 45 :: 45 :: 45 :: 45 :: 45 :: 45 :: 45 :: 45 :: 45 :: 45 :: 45 :: 45 :: 45 :: 45 :: 45 :: 45 :: 45 :: 45 :: 45 :: 45 :: 45 :: 45 :: 45 :: 45 :: 45 :: 45 :: 45 :: 45 :: 45 :: 45 :: 45 :: 45 :: 45 :: 45 :: 45 :: 45 :: 45 :: 45 :: 45 :: 45 :: 45 :: 45 :: 45 :: 45 :: 45 :: 45 :: 45 :: 45 :: 45 :: []⟩⟩
theorem aHM : (⟨⟨45 :: 45 :: 45 :: 45 :: 45 :: 45 :: 45 :: 45 :: 45 :: 45 :: 45 :: 45 :: 45 :: 45 :: 45 :: 45 :: 45 :: 45 :: 45 :: 45 :: 45 :: 45 :: 45 :: 45 :: 45 :: 45 :: 45 :: 45 :: 45 :: 45 :: 45 :: 45 :: 45 :: 45 :: 45 :: 45 :: 45 :: 45 :: 45 :: 45 :: 45 :: 45 :: 45 :: 45 :: 45 :: 45 :: 45 :: 45 :: 45 :: 45 :: 45 :: 45 :: 45 :: 45 :: 45 :: 45 :: 45 :: 45 :: 45 :: 45 :: 45 :: 45 :: 45 :: 45 :: 45 :: 45 :: 45 :: 45 :: 45 :: 45 :: 45 :: 45 :: 45 :: 45 :: 45 :: 45 :: 45 :: 45 :: 45 :: 45 :: 45 :: 45 :: 45 :: 45 :: 45 :: 45 :: 45 :: 45 :: 45 :: 45 :: 45 :: 45 :: 45 :: 45 :: 45 :: 45 :: 45 :: 45 :: 45 :: 45 :: 45 :: 45 :: 45 :: 45 :: 45 :: 45 :: 45 :: 45 :: 45 :: 45 :: 45 :: 45 :: 45 :: 45 :: 45 :: 45 :: 45 :: 45 :: 45 :: 45 :: 45 :: 45 :: 45 :: 45 :: 45 :: 45 :: 45 :: 45 :: []⟩⟩ : ByteArray) = qB := rfl
attribute [go_sem] aHM
def tV : ByteArray := ⟨⟨61 :: 61 :: 61 :: 61 :: 61 :: 61 :: 61 :: 61 :: 61 :: 61 :: 61 :: 61 :: 61 :: 61 :: 61 :: 61 :: 61 :: 61 :: 61 :: 61 :: 61 :: 61 :: 61 :: 61 :: 61 :: 61 :: 61 :: 61 :: 61 :: 61 :: 61 :: 61 :: 61 :: 61 :: 61 :: 61 :: 61 :: 61 :: 61 :: 61 :: 61 :: 61 :: 61 :: 61 :: 61 :: 61 :: 61 :: 61 :: 61 :: 61 :: 61 :: 61 :: 61 :: 61 :: 61 :: 61 :: 61 :: 61 :: 61 :: 61 :: 61 :: 61 :: 61 :: 61 :: 61 :: 61 :: 61 :: 61 :: 61 :: 61 :: 61 :: 61 :: 61 :: 61 :: 61 :: 61 :: 61 :: 61 :: 61 :: 61 :: 61 :: 61 :: 61 :: 61 :: 61 :: 61 :: 61 :: 61 :: 61 :: 61 :: 61 :: 61 :: 61 :: 61 :: 61 :: 61 :: 61 :: 61 :: 61 :: 61 :: 61 :: 61 :: 61 :: 61 :: 61 :: 61 :: 61 :: 61 :: 61 :: 61 :: 61 :: 61 :: 61 :: 61 :: 61 :: 61 :: 61 :: 61 :: 61 :: 61 :: 61 :: 61 :: 61 :: 61 :: 61 :: 61 :: 61 :: 61 :: []⟩⟩
theorem aHN : (⟨⟨61 :: 61 :: 61 :: 61 :: 61 :: 61 :: 61 :: 61 :: 61 :: 61 :: 61 :: 61 :: 61 :: 61 :: 61 :: 61 :: 61 :: 61 :: 61 :: 61 :: 61 :: 61 :: 61 :: 61 :: 61 :: 61 :: 61 :: 61 :: 61 :: 61 :: 61 :: 61 :: 61 :: 61 :: 61 :: 61 :: 61 :: 61 :: 61 :: 61 :: 61 :: 61 :: 61 :: 61 :: 61 :: 61 :: 61 :: 61 :: 61 :: 61 :: 61 :: 61 :: 61 :: 61 :: 61 :: 61 :: 61 :: 61 :: 61 :: 61 :: 61 :: 61 :: 61 :: 61 :: 61 :: 61 :: 61 :: 61 :: 61 :: 61 :: 61 :: 61 :: 61 :: 61 :: 61 :: 61 :: 61 :: 61 :: 61 :: 61 :: 61 :: 61 :: 61 :: 61 :: 61 :: 61 :: 61 :: 61 :: 61 :: 61 :: 61 :: 61 :: 61 :: 61 :: 61 :: 61 :: 61 :: 61 :: 61 :: 61 :: 61 :: 61 :: 61 :: 61 :: 61 :: 61 :: 61 :: 61 :: 61 :: 61 :: 61 :: 61 :: 61 :: 61 :: 61 :: 61 :: 61 :: 61 :: 61 :: 61 :: 61 :: 61 :: 61 :: 61 :: 61 :: 61 :: 61 :: 61 :: []⟩⟩ : ByteArray) = tV := rfl
attribute [go_sem] aHN
def tW : ByteArray := ⟨⟨9 :: 9 :: 9 :: 9 :: 9 :: 9 :: 9 :: 9 :: 9 :: 9 :: 9 :: 9 :: 9 :: 9 :: 9 :: 9 :: 9 :: 9 :: 9 :: 9 :: 9 :: 9 :: 9 :: 9 :: 9 :: 9 :: 9 :: 9 :: 9 :: 9 :: 9 :: 9 :: 9 :: 9 :: 9 :: 9 :: 9 :: 9 :: 9 :: 9 :: 9 :: 9 :: 9 :: 9 :: 9 :: 9 :: 9 :: 9 :: 9 :: 9 :: 9 :: 9 :: 9 :: 9 :: 9 :: 9 :: 9 :: 9 :: 9 :: 9 :: 9 :: 9 :: 9 :: 9 :: []⟩⟩
theorem aHO : (⟨⟨9 :: 9 :: 9 :: 9 :: 9 :: 9 :: 9 :: 9 :: 9 :: 9 :: 9 :: 9 :: 9 :: 9 :: 9 :: 9 :: 9 :: 9 :: 9 :: 9 :: 9 :: 9 :: 9 :: 9 :: 9 :: 9 :: 9 :: 9 :: 9 :: 9 :: 9 :: 9 :: 9 :: 9 :: 9 :: 9 :: 9 :: 9 :: 9 :: 9 :: 9 :: 9 :: 9 :: 9 :: 9 :: 9 :: 9 :: 9 :: 9 :: 9 :: 9 :: 9 :: 9 :: 9 :: 9 :: 9 :: 9 :: 9 :: 9 :: 9 :: 9 :: 9 :: 9 :: 9 :: []⟩⟩ : ByteArray) = tW := rfl
attribute [go_sem] aHO
def tX : ByteArray := ⟨⟨48 :: 48 :: 48 :: 49 :: 48 :: 50 :: 48 :: 51 :: 48 :: 52 :: 48 :: 53 :: 48 :: 54 :: 48 :: 55 :: 48 :: 56 :: 48 :: 57 :: 49 :: 48 :: 49 :: 49 :: 49 :: 50 :: 49 :: 51 :: 49 :: 52 :: 49 :: 53 :: 49 :: 54 :: 49 :: 55 :: 49 :: 56 :: 49 :: 57 :: 50 :: 48 :: 50 :: 49 :: 50 :: 50 :: 50 :: 51 :: 50 :: 52 :: 50 :: 53 :: 50 :: 54 :: 50 :: 55 :: 50 :: 56 :: 50 :: 57 :: 51 :: 48 :: 51 :: 49 :: 51 :: 50 :: 51 :: 51 :: 51 :: 52 :: 51 :: 53 :: 51 :: 54 :: 51 :: 55 :: 51 :: 56 :: 51 :: 57 :: 52 :: 48 :: 52 :: 49 :: 52 :: 50 :: 52 :: 51 :: 52 :: 52 :: 52 :: 53 :: 52 :: 54 :: 52 :: 55 :: 52 :: 56 :: 52 :: 57 :: 53 :: 48 :: 53 :: 49 :: 53 :: 50 :: 53 :: 51 :: 53 :: 52 :: 53 :: 53 :: 53 :: 54 :: 53 :: 55 :: 53 :: 56 :: 53 :: 57 :: 54 :: 48 :: 54 :: 49 :: 54 :: 50 :: 54 :: 51 :: 54 :: 52 :: 54 :: 53 :: 54 :: 54 :: 54 :: 55 :: 54 :: 56 :: 54 :: 57 :: 55 :: 48 :: 55 :: 49 :: 55 :: 50 :: 55 :: 51 :: 55 :: 52 :: 55 :: 53 :: 55 :: 54 :: 55 :: 55 :: 55 :: 56 :: 55 :: 57 :: 56 :: 48 :: 56 :: 49 :: 56 :: 50 :: 56 :: 51 :: 56 :: 52 :: 56 :: 53 :: 56 :: 54 :: 56 :: 55 :: 56 :: 56 :: 56 :: 57 :: 57 :: 48 :: 57 :: 49 :: 57 :: 50 :: 57 :: 51 :: 57 :: 52 :: 57 :: 53 :: 57 :: 54 :: 57 :: 55 :: 57 :: 56 :: 57 :: 57 :: []⟩⟩
theorem aHP : (⟨⟨48 :: 48 :: 48 :: 49 :: 48 :: 50 :: 48 :: 51 :: 48 :: 52 :: 48 :: 53 :: 48 :: 54 :: 48 :: 55 :: 48 :: 56 :: 48 :: 57 :: 49 :: 48 :: 49 :: 49 :: 49 :: 50 :: 49 :: 51 :: 49 :: 52 :: 49 :: 53 :: 49 :: 54 :: 49 :: 55 :: 49 :: 56 :: 49 :: 57 :: 50 :: 48 :: 50 :: 49 :: 50 :: 50 :: 50 :: 51 :: 50 :: 52 :: 50 :: 53 :: 50 :: 54 :: 50 :: 55 :: 50 :: 56 :: 50 :: 57 :: 51 :: 48 :: 51 :: 49 :: 51 :: 50 :: 51 :: 51 :: 51 :: 52 :: 51 :: 53 :: 51 :: 54 :: 51 :: 55 :: 51 :: 56 :: 51 :: 57 :: 52 :: 48 :: 52 :: 49 :: 52 :: 50 :: 52 :: 51 :: 52 :: 52 :: 52 :: 53 :: 52 :: 54 :: 52 :: 55 :: 52 :: 56 :: 52 :: 57 :: 53 :: 48 :: 53 :: 49 :: 53 :: 50 :: 53 :: 51 :: 53 :: 52 :: 53 :: 53 :: 53 :: 54 :: 53 :: 55 :: 53 :: 56 :: 53 :: 57 :: 54 :: 48 :: 54 :: 49 :: 54 :: 50 :: 54 :: 51 :: 54 :: 52 :: 54 :: 53 :: 54 :: 54 :: 54 :: 55 :: 54 :: 56 :: 54 :: 57 :: 55 :: 48 :: 55 :: 49 :: 55 :: 50 :: 55 :: 51 :: 55 :: 52 :: 55 :: 53 :: 55 :: 54 :: 55 :: 55 :: 55 :: 56 :: 55 :: 57 :: 56 :: 48 :: 56 :: 49 :: 56 :: 50 :: 56 :: 51 :: 56 :: 52 :: 56 :: 53 :: 56 :: 54 :: 56 :: 55 :: 56 :: 56 :: 56 :: 57 :: 57 :: 48 :: 57 :: 49 :: 57 :: 50 :: 57 :: 51 :: 57 :: 52 :: 57 :: 53 :: 57 :: 54 :: 57 :: 55 :: 57 :: 56 :: 57 :: 57 :: []⟩⟩ : ByteArray) = tX := rfl
attribute [go_sem] aHP
def tY : ByteArray := ⟨⟨48 :: 49 :: 50 :: 51 :: 52 :: 53 :: 54 :: 55 :: 56 :: 57 :: 97 :: 98 :: 99 :: 100 :: 101 :: 102 :: 103 :: 104 :: 105 :: 106 :: 107 :: 108 :: 109 :: 110 :: 111 :: 112 :: 113 :: 114 :: 115 :: 116 :: 117 :: 118 :: 119 :: 120 :: 121 :: 122 :: []⟩⟩
theorem aHQ : (⟨⟨48 :: 49 :: 50 :: 51 :: 52 :: 53 :: 54 :: 55 :: 56 :: 57 :: 97 :: 98 :: 99 :: 100 :: 101 :: 102 :: 103 :: 104 :: 105 :: 106 :: 107 :: 108 :: 109 :: 110 :: 111 :: 112 :: 113 :: 114 :: 115 :: 116 :: 117 :: 118 :: 119 :: 120 :: 121 :: 122 :: []⟩⟩ : ByteArray) = tY := rfl
attribute [go_sem] aHQ
def qC : ByteArray := ⟨⟨32 :: 32 :: 32 :: 32 :: 32 :: 32 :: 32 :: 32 :: 32 :: 32 :: 32 :: 32 :: 32 :: 32 :: 32 :: 32 :: 32 :: 32 :: 32 :: 32 :: 32 :: 32 :: 32 :: 32 :: 32 :: 32 :: 32 :: 32 :: 32 :: 32 :: 32 :: 32 :: 32 :: 32 :: 32 :: 32 :: 32 :: 32 :: 32 :: 32 :: 32 :: 32 :: 32 :: 32 :: 32 :: 32 :: 32 :: 32 :: 32 :: 32 :: 32 :: 32 :: 32 :: 32 :: 32 :: 32 :: 32 :: 32 :: 32 :: 32 :: 32 :: 32 :: 32 :: 32 :: 32 :: 32 :: 32 :: 32 :: 32 :: 32 :: 32 :: 32 :: 32 :: 32 :: 32 :: 32 :: 32 :: 32 :: 32 :: 32 :: 32 :: 32 :: 32 :: 32 :: 32 :: 32 :: 32 :: 32 :: 32 :: 32 :: 32 :: 32 :: 32 :: 32 :: 32 :: 32 :: 32 :: 32 :: 32 :: 32 :: 32 :: 32 :: 32 :: 32 :: 32 :: 32 :: 32 :: 32 :: 32 :: 32 :: 32 :: 32 :: 32 :: 32 :: 32 :: 32 :: 32 :: 32 :: 32 :: 32 :: 32 :: 32 :: 32 :: 32 :: 32 :: 32 :: 32 :: 32 :: []⟩⟩
theorem aHR : (⟨⟨32 :: 32 :: 32 :: 32 :: 32 :: 32 :: 32 :: 32 :: 32 :: 32 :: 32 :: 32 :: 32 :: 32 :: 32 :: 32 :: 32 :: 32 :: 32 :: 32 :: 32 :: 32 :: 32 :: 32 :: 32 :: 32 :: 32 :: 32 :: 32 :: 32 :: 32 :: 32 :: 32 :: 32 :: 32 :: 32 :: 32 :: 32 :: 32 :: 32 :: 32 :: 32 :: 32 :: 32 :: 32 :: 32 :: 32 :: 32 :: 32 :: 32 :: 32 :: 32 :: 32 :: 32 :: 32 :: 32 :: 32 :: 32 :: 32 :: 32 :: 32 :: 32 :: 32 :: 32 :: 32 :: 32 :: 32 :: 32 :: 32 :: 32 :: 32 :: 32 :: 32 :: 32 :: 32 :: 32 :: 32 :: 32 :: 32 :: 32 :: 32 :: 32 :: 32 :: 32 :: 32 :: 32 :: 32 :: 32 :: 32 :: 32 :: 32 :: 32 :: 32 :: 32 :: 32 :: 32 :: 32 :: 32 :: 32 :: 32 :: 32 :: 32 :: 32 :: 32 :: 32 :: 32 :: 32 :: 32 :: 32 :: 32 :: 32 :: 32 :: 32 :: 32 :: 32 :: 32 :: 32 :: 32 :: 32 :: 32 :: 32 :: 32 :: 32 :: 32 :: 32 :: 32 :: 32 :: 32 :: []⟩⟩ : ByteArray) = qC := rfl
attribute [go_sem] aHR
noncomputable def dK (b_0 : Bool) : Option Int :=
 if b_0 = true then some (1 : Int) else some (0 : Int)
def pI : PlR := ⟨[(0, .A [0]), (1, .A [3]), (2, .A [2]), (3, .A [2])], []⟩
def qY : Ty := .pair .bool .unit
noncomputable def iQ : aL := mSpec qY (.one (.i .i64)) (fun x => dK x.1)
noncomputable def aAq : List (FuncId × aL) := []
theorem aAr : bV Tryz.prog GL aAq := .nil
attribute [go_sem] qY pI
set_option maxHeartbeats 4000000 in
theorem yR : FOK Tryz.prog GL 174 iQ := by
 refine cB (bL aAr) mix Tryz.func174 rfl (by kernel_rfl) (by decide) pI fun w0 S x Θ hw h hF => ?_
 obtain ⟨(b_0 : Bool), u⟩ := x
 simp only [cA, go_sem]
 replace h : sat (dK b_0) _ := h
 unfold dK at h
 refine aPn h (fun hc h => ?_) fun hc h => ?_
 ·exact aS hF [.tmp 2] rfl rfl rfl (aD h) (by simp only [aY, go_sem])
 ·exact aS hF [.tmp 2] rfl rfl rfl (aD h) (by simp only [aY, go_sem])
attribute [go_sem] iQ
noncomputable def bP (x_0 : Int) : Option Int :=
 ck (I64 (x_0 * (78913 : Int))) (some (Int.fdiv (x_0 * (78913 : Int)) (2 ^ (18 : Nat))))
def pJ : PlR := ⟨[(0, .A [0]), (1, .A [2])], []⟩
def qZ : Ty := .pair (.i .i64) .unit
noncomputable def iR : aL := mSpec qZ (.one (.i .i64)) (fun x => bP x.1)
noncomputable def aAs : List (FuncId × aL) := []
theorem aAt : bV Tryz.prog GL aAs := .nil
attribute [go_sem] qZ pJ
set_option maxHeartbeats 4000000 in
theorem yS : FOK Tryz.prog GL 173 iR := by
 refine cB (bL aAt) mix Tryz.func173 rfl (by kernel_rfl) (by decide) pJ fun w0 S x Θ hw h hF => ?_
 obtain ⟨(x_0 : Int), u⟩ := x
 simp only [cA, go_sem]
 replace h : sat (bP x_0) _ := h
 unfold bP at h
 refine aM h fun g0 h => ?_
 exact aS hF [.tmp 2] rfl rfl rfl (aD h) (by simp only [aY, go_sem])
attribute [go_sem] iR
noncomputable def bM (d_0 : Nat) : Option Int :=
 ck (((bP (cK d_0)).isSome = true)) (ck (0 ≤ ((bP (cK d_0)).getD (0 : Int)) ∧ ((bP (cK d_0)).getD (0 : Int)) < (20 : Int)) (ck (((dK (decide ((p10.getD (((bP (cK d_0)).getD (0 : Int)).toNat) (0 : Nat)) ≤ d_0))).isSome = true)) (ck (I64 (((bP (cK d_0)).getD (0 : Int)) + ((dK (decide ((p10.getD (((bP (cK d_0)).getD (0 : Int)).toNat) (0 : Nat)) ≤ d_0))).getD (0 : Int)))) (some (((bP (cK d_0)).getD (0 : Int)) + ((dK (decide ((p10.getD (((bP (cK d_0)).getD (0 : Int)).toNat) (0 : Nat)) ≤ d_0))).getD (0 : Int)))))))
def pK : PlR := ⟨[(0, .A [0]), (1, .A [0, 3]), (2, .A [2])], []⟩
def rA : Ty := .pair (.u .u64) .unit
noncomputable def iS : aL := mSpec rA (.one (.i .i64)) (fun x => bM x.1)
noncomputable def jD : List (FuncId × aL) := [(158, lE), (173, iR), (174, iQ)]
theorem aAu : bV Tryz.prog GL jD := .cons aAW (by kernel_rfl) (.cons yS (by kernel_rfl) (.cons yR (by kernel_rfl) (.nil)))
theorem vL : gam jD 158 = some lE := rfl
theorem vM : gam jD 173 = some iR := rfl
theorem vN : gam jD 174 = some iQ := rfl
attribute [go_sem] rA pK vL vM vN
set_option maxHeartbeats 4000000 in
theorem yT : FOK Tryz.prog GL 164 iS := by
 refine cB (bL aAu) mix Tryz.func164 rfl (by kernel_rfl) (by decide) pK fun w0 S x Θ hw h hF => ?_
 obtain ⟨(d_0 : Nat), u⟩ := x
 simp only [cA, go_sem]
 replace h : sat (bM d_0) _ := h
 unfold bM at h
 refine aM h fun g0 h => ?_
 refine aM h fun g0 h => aM h fun g1 h => aM h fun g2 h => ?_
 exact aS hF [.tmp 2] rfl rfl rfl (aD h) (by simp only [aY, go_sem])
attribute [go_sem] iS
noncomputable def fI (i_0 : Int) : Option (List Nat) :=
 if i_0 < (10 : Int) then ck (I64 (i_0 + (1 : Int))) (ck (0 ≤ i_0 ∧ i_0 ≤ (i_0 + (1 : Int)) ∧ (i_0 + (1 : Int)) ≤ ((((aP tY).length) : Nat) : Int)) (some (List.drop (i_0.toNat) (List.take ((i_0 + (1 : Int)).toNat) (aP tY))))) else ck (I64 (i_0 * (2 : Int))) (ck (I64 (i_0 * (2 : Int))) (ck (I64 ((i_0 * (2 : Int)) + (2 : Int))) (ck (0 ≤ (i_0 * (2 : Int)) ∧ (i_0 * (2 : Int)) ≤ ((i_0 * (2 : Int)) + (2 : Int)) ∧ ((i_0 * (2 : Int)) + (2 : Int)) ≤ ((((aP tX).length) : Nat) : Int)) (some (List.drop ((i_0 * (2 : Int)).toNat) (List.take (((i_0 * (2 : Int)) + (2 : Int)).toNat) (aP tX)))))))
def uW : PlR := ⟨[(0, .A [0]), (1, .A [0, 4]), (2, .A [2]), (3, .A [2])], []⟩
def wM : Ty := .pair (.i .i64) .unit
noncomputable def lQ : aL := mSpec wM (.one .str) (fun x => fI x.1)
noncomputable def aDh : List (FuncId × aL) := []
theorem aDi : bV Tryz.prog GL aDh := .nil
attribute [go_sem] wM uW
set_option maxHeartbeats 4000000 in
theorem aCv : FOK Tryz.prog GL 163 lQ := by
 refine cB (bL aDi) mix Tryz.func163 rfl (by kernel_rfl) (by decide) uW fun w0 S x Θ hw h hF => ?_
 obtain ⟨(i_0 : Int), u⟩ := x
 simp only [cA, go_sem]
 replace h : sat (fI i_0) _ := h
 unfold fI at h
 refine kA h (fun hc h => ?_) fun hc h => ?_
 ·refine aM h fun g0 h => aM h fun g1 h => ?_
  exact aS hF [.tmp 2] rfl rfl rfl (aD h) (by simp only [aY, go_sem])
 ·refine aM h fun g0 h => aM h fun g1 h => aM h fun g2 h => aM h fun g3 h => ?_
  exact aS hF [.tmp 2] rfl rfl rfl (aD h) (by simp only [aY, go_sem])
attribute [go_sem] lQ
noncomputable def dZ (i_0 : Nat) (base_1 : Int) : Option (List Nat) :=
 if base_1 = (10 : Int) then if i_0 < (100 : Nat) then ck (((fI (IntKind.i64.wrap ((i_0 : Nat) : Int))).isSome = true)) (some ((fI (IntKind.i64.wrap ((i_0 : Nat) : Int))).getD ([] : List Nat))) else ck (((bM i_0).isSome = true)) (ck ((0 : Int) < ((bM i_0).getD (0 : Int)) ∧ ((bM i_0).getD (0 : Int)) ≤ 24) (((dH (0 : Nat) ((((bM i_0).getD (0 : Int)) - (0 : Int)).toNat) i_0 (List.replicate 24 (0 : Nat)))).bind (fun r_5 => ck ((0 : Int) < ((bM i_0).getD (0 : Int)) ∧ ((bM i_0).getD (0 : Int)) ≤ 24) (ck ((0 : Nat) + ((((bM i_0).getD (0 : Int)) - (0 : Int)).toNat) ≤ 24) (some (List.take ((((bM i_0).getD (0 : Int)) - (0 : Int)).toNat) (List.drop (0 : Nat) r_5))))))) else none
def iT : Ty := .pair (.u .u64) (.pair (.i .i64) .unit)
attribute [go_sem] iT
noncomputable def gR : aL := mSpec iT (.one .str) (fun x => dZ x.1 x.2.1)
noncomputable def iU : List (FuncId × aL) := [(163, lQ), (164, iS)]
theorem pL : bV Tryz.prog GL iU := .cons aCv (by kernel_rfl) (.cons yT (by kernel_rfl) (.nil))
theorem uA : gam iU 163 = some lQ := rfl
attribute [go_sem] uA
theorem uB : gam iU 164 = some iS := rfl
attribute [go_sem] uB
set_option maxHeartbeats 4000000 in
theorem yB : FOK Tryz.prog GL 160 gR := by
 refine sR (bL pL) Tryz.func160 rfl (by kernel_rfl) (by decide) fun w0 S x r hw h => ?_
 have hF : jS (fr Tryz.prog (EM iU) S w0 Tryz.f160.ntmps) := ⟨bL pL, mix⟩
 obtain ⟨(i_0 : Nat), (base_1 : Int), u⟩ := x
 simp only [iT, Ty.wf, nL] at hw
 simp only [cA, iT]
 try dsimp only at h
 unfold dZ at h
 refine aF (aE hF [0, 1] ?_)
 simp only [go_sem]
 refine aG (aF (aF (aE hF [0, 1, 10] ?_)))
 simp only [go_sem]
 refine aG (bR rfl (fun hc => ?_) (fun hc => ?_))
 ·try simp only [go_sem] at hc
  have h := fJ (by first | exact hc | omega | (simpa using hc) | (simp at hc ⊢; omega)) h
  refine aF (aF (aE hF [0, 12] ?_))
  simp only [go_sem]
  refine aG (bR rfl (fun hc => ?_) (fun hc => ?_))
  ·try simp only [go_sem] at hc
   have h := fJ (by first | exact hc | omega | (simpa using hc) | (simp at hc ⊢; omega)) h
   refine aF (aE hF [4] ?_)
   simp only [go_sem]
   obtain ⟨g0, h⟩ := aH h
   repeat (refine ⟨by first | with_reducible assumption | omega | (intros; first | assumption | omega) | (simp only [go_sem] at *; first | assumption | omega) | decide, ?_⟩)
   obtain rfl := Option.some.inj h
   refine aG (dP (cY (cY (iP hF [.tmp 4] rfl rfl rfl ?_))))
   (try simp only [jR, aY, go_sem]) <;> first | rfl | (simp; done)
  ·try simp only [go_sem] at hc
   have h := fK (by first | exact hc | omega | (simpa using hc) | (simp at hc ⊢; omega)) h
   refine cE (aG (aF (bU hF [0, 5] ?_)))
   simp only [go_sem]
   refine aG (aF (aE hF [0, 5, 6] ?_))
   simp only [go_sem]
   obtain ⟨g0, h⟩ := aH h
   repeat (refine ⟨by first | with_reducible assumption | omega | (intros; first | assumption | omega) | (simp only [go_sem] at *; first | assumption | omega) | decide, ?_⟩)
   obtain ⟨g0, h⟩ := aH h
   obtain ⟨r_5, he1, h⟩ := bind_some h
   try dsimp only at h
   refine aG (aF (bG hF (cR (l := [(165, ⟨jN, [0], ((0 : Nat), ((((bM i_0).getD (0 : Int)) - (0 : Int)).toNat), i_0, (List.replicate 24 (0 : Nat)), r_5)⟩)]) (.cons vK (by kernel_rfl) (.nil))) [5, 6] [19] ?_))
   simp only [go_sem]
   repeat (refine ⟨by first | with_reducible assumption | omega | (intros; first | assumption | omega) | (simp only [go_sem] at *; first | assumption | omega) | decide, ?_⟩)
   obtain ⟨g0, h⟩ := aH h
   obtain ⟨g1, h⟩ := aH h
   refine aG (aF (bG hF (cR (l := []) (.nil)) [4] [23] ?_))
   simp only [go_sem]
   repeat (refine ⟨by first | with_reducible assumption | omega | (intros; first | assumption | omega) | (simp only [go_sem] at *; first | assumption | omega) | decide, ?_⟩)
   obtain rfl := Option.some.inj h
   refine aG (dP (cY (iP hF [.tmp 4] rfl rfl rfl ?_)))
   (try simp only [jR, aY, go_sem]) <;> first | rfl | (simp; done)
 ·try simp only [go_sem] at hc
  have h := fK (by first | exact hc | omega | (simpa using hc) | (simp at hc ⊢; omega)) h
  cases h
attribute [go_sem] gR
noncomputable def cS (i_0 : Nat) (base_1 : Int) : Option (List Nat) :=
 ck (((dZ i_0 base_1).isSome = true)) (some ((dZ i_0 base_1).getD ([] : List Nat)))
def pM : PlR := ⟨[(0, .A [0, 1]), (1, .A [4])], []⟩
def rB : Ty := .pair (.u .u64) (.pair (.i .i64) .unit)
noncomputable def iV : aL := mSpec rB (.one .str) (fun x => cS x.1 x.2.1)
noncomputable def rC : List (FuncId × aL) := [(160, gR)]
theorem aAv : bV Tryz.prog GL rC := .cons yB (by kernel_rfl) (.nil)
theorem vO : gam rC 160 = some gR := rfl
attribute [go_sem] rB pM vO
set_option maxHeartbeats 4000000 in
theorem yU : FOK Tryz.prog GL 132 iV := by
 refine cB (bL aAv) mix Tryz.func132 rfl (by kernel_rfl) (by decide) pM fun w0 S x Θ hw h hF => ?_
 obtain ⟨(i_0 : Nat), (base_1 : Int), u⟩ := x
 simp only [cA, go_sem]
 replace h : sat (cS i_0 base_1) _ := h
 unfold cS at h
 refine aM h fun g0 h => ?_
 exact aS hF [.tmp 4] rfl rfl rfl (aD h) (by simp only [aY, go_sem])
attribute [go_sem] iV
noncomputable def bH (x_0 : Nat) (y_1 : Nat) : Option (Nat × (Nat × Unit)) :=
 some (((bF x_0 y_1).1), (((bF x_0 y_1).2).1), ())
def aD6 : PlR := ⟨[(0, .A [0, 1]), (3, .A [8, 9]), (4, .A [4, 5])], []⟩
def aGO : Ty := .pair (.u .u64) (.pair (.u .u64) .unit)
noncomputable def uX : aL := mSpec aGO (.tup (.pair (.u .u64) (.pair (.u .u64) .unit))) (fun x => bH x.1 x.2.1)
noncomputable def aGP : List (FuncId × aL) := [(126, gV)]
theorem aMq : bV Tryz.prog GL aGP := .cons vG (by kernel_rfl) (.nil)
theorem aGQ : gam aGP 126 = some gV := rfl
attribute [go_sem] aGO aD6 aGQ
set_option maxHeartbeats 4000000 in
theorem aLk : FOK Tryz.prog GL 133 uX := by
 refine cB (bL aMq) mix Tryz.func133 rfl (by kernel_rfl) (by decide) aD6 fun w0 S x Θ hw h hF => ?_
 obtain ⟨(x_0 : Nat), (y_1 : Nat), u⟩ := x
 simp only [cA, go_sem]
 replace h : sat (bH x_0 y_1) _ := h
 unfold bH at h
 exact aS hF [.tmp 4, .tmp 5] rfl rfl rfl (aD h) (by simp only [aY, go_sem])
attribute [go_sem] uX
noncomputable def eC (s_0 : (List Nat)) (prefix_1 : (List Nat)) : Option Bool :=
 ck ((((((prefix_1.length) : Nat) : Int) ≤ (((s_0.length) : Nat) : Int)) → (0 ≤ (((prefix_1.length) : Nat) : Int) ∧ (((prefix_1.length) : Nat) : Int) ≤ (((s_0.length) : Nat) : Int)))) (some ((decide ((((prefix_1.length) : Nat) : Int) ≤ (((s_0.length) : Nat) : Int))) && (decide ((List.take (prefix_1.length) s_0) = prefix_1))))
def mV : PlR := ⟨[(0, .A [0, 1]), (1, .A [4])], []⟩
def nF : Ty := .pair .str (.pair .str .unit)
noncomputable def fB : aL := mSpec nF (.one .bool) (fun x => eC x.1 x.2.1)
noncomputable def vP : List (FuncId × aL) := []
theorem vQ : bV Tryz.prog GL vP := .nil
attribute [go_sem] nF mV
set_option maxHeartbeats 4000000 in
theorem uC : FOK Tryz.prog GL 162 fB := by
 refine cB (bL vQ) mix Tryz.func162 rfl (by kernel_rfl) (by decide) mV fun w0 S x Θ hw h hF => ?_
 obtain ⟨(s_0 : (List Nat)), (prefix_1 : (List Nat)), u⟩ := x
 simp only [cA, go_sem]
 replace h : sat (eC s_0 prefix_1) _ := h
 unfold eC at h
 refine aM h fun g0 h => ?_
 exact aS hF [.tmp 4] rfl rfl rfl (aD h) (by simp only [aY, go_sem])
attribute [go_sem] fB
noncomputable def bI (s_0 : (List Nat)) (prefix_1 : (List Nat)) : Option Bool :=
 ck (((eC s_0 prefix_1).isSome = true)) (some ((eC s_0 prefix_1).getD false))
def rD : PlR := ⟨[(0, .A [0, 1]), (1, .A [4])], []⟩
def rO : Ty := .pair .str (.pair .str .unit)
noncomputable def jE : aL := mSpec rO (.one .bool) (fun x => bI x.1 x.2.1)
noncomputable def rP : List (FuncId × aL) := [(162, fB)]
theorem aAO : bV Tryz.prog GL rP := .cons uC (by kernel_rfl) (.nil)
theorem wN : gam rP 162 = some fB := rfl
attribute [go_sem] rO rD wN
set_option maxHeartbeats 4000000 in
theorem aAw : FOK Tryz.prog GL 134 jE := by
 refine cB (bL aAO) mix Tryz.func134 rfl (by kernel_rfl) (by decide) rD fun w0 S x Θ hw h hF => ?_
 obtain ⟨(s_0 : (List Nat)), (prefix_1 : (List Nat)), u⟩ := x
 simp only [cA, go_sem]
 replace h : sat (bI s_0 prefix_1) _ := h
 unfold bI at h
 refine aM h fun g0 h => ?_
 exact aS hF [.tmp 4] rfl rfl rfl (aD h) (by simp only [aY, go_sem])
attribute [go_sem] jE
noncomputable def gP (chunkMax_4 : Int) : Option ((List Nat)) :=
 none
noncomputable def jW (s_0 : (List Nat)) (count_1 : Int) : Option ((List Nat)) :=
 if (8192 : Int) < (IntKind.i64.wrap ((((((bH (((((s_0.length) : Nat) : Int) % (18446744073709551616 : Int)).toNat) ((count_1 % (18446744073709551616 : Int)).toNat)).getD ((0 : Nat), (0 : Nat), ())).2).1) : Nat) : Int)) then ck ((((s_0.length) : Nat) : Int) ≠ 0) (ck (I64 (Int.tdiv (8192 : Int) (((s_0.length) : Nat) : Int))) (ck (I64 ((Int.tdiv (8192 : Int) (((s_0.length) : Nat) : Int)) * (((s_0.length) : Nat) : Int))) (if ((Int.tdiv (8192 : Int) (((s_0.length) : Nat) : Int)) * (((s_0.length) : Nat) : Int)) = (0 : Int) then gP (((s_0.length) : Nat) : Int) else gP ((Int.tdiv (8192 : Int) (((s_0.length) : Nat) : Int)) * (((s_0.length) : Nat) : Int))))) else gP (IntKind.i64.wrap ((((((bH (((((s_0.length) : Nat) : Int) % (18446744073709551616 : Int)).toNat) ((count_1 % (18446744073709551616 : Int)).toNat)).getD ((0 : Nat), (0 : Nat), ())).2).1) : Nat) : Int))
noncomputable def dB (s_0 : (List Nat)) (count_1 : Int) (x43_5 : Bool) : Option ((List Nat)) :=
 if x43_5 = true then ck ((((IntKind.i64.wrap ((((((bH (((((s_0.length) : Nat) : Int) % (18446744073709551616 : Int)).toNat) ((count_1 % (18446744073709551616 : Int)).toNat)).getD ((0 : Nat), (0 : Nat), ())).2).1) : Nat) : Int)) ≤ (128 : Int)) → (((bI (aP qC) s_0).isSome = true)))) (if ((IntKind.i64.wrap ((((((bH (((((s_0.length) : Nat) : Int) % (18446744073709551616 : Int)).toNat) ((count_1 % (18446744073709551616 : Int)).toNat)).getD ((0 : Nat), (0 : Nat), ())).2).1) : Nat) : Int)) ≤ (128 : Int)) ∧ (((bI (aP qC) s_0).getD false) = true) then ck (0 ≤ (IntKind.i64.wrap ((((((bH (((((s_0.length) : Nat) : Int) % (18446744073709551616 : Int)).toNat) ((count_1 % (18446744073709551616 : Int)).toNat)).getD ((0 : Nat), (0 : Nat), ())).2).1) : Nat) : Int)) ∧ (IntKind.i64.wrap ((((((bH (((((s_0.length) : Nat) : Int) % (18446744073709551616 : Int)).toNat) ((count_1 % (18446744073709551616 : Int)).toNat)).getD ((0 : Nat), (0 : Nat), ())).2).1) : Nat) : Int)) ≤ ((((aP qC).length) : Nat) : Int)) (some (List.take ((IntKind.i64.wrap ((((((bH (((((s_0.length) : Nat) : Int) % (18446744073709551616 : Int)).toNat) ((count_1 % (18446744073709551616 : Int)).toNat)).getD ((0 : Nat), (0 : Nat), ())).2).1) : Nat) : Int)).toNat) (aP qC))) else ck ((((IntKind.i64.wrap ((((((bH (((((s_0.length) : Nat) : Int) % (18446744073709551616 : Int)).toNat) ((count_1 % (18446744073709551616 : Int)).toNat)).getD ((0 : Nat), (0 : Nat), ())).2).1) : Nat) : Int)) ≤ (128 : Int)) → (((bI (aP qB) s_0).isSome = true)))) (if ((IntKind.i64.wrap ((((((bH (((((s_0.length) : Nat) : Int) % (18446744073709551616 : Int)).toNat) ((count_1 % (18446744073709551616 : Int)).toNat)).getD ((0 : Nat), (0 : Nat), ())).2).1) : Nat) : Int)) ≤ (128 : Int)) ∧ (((bI (aP qB) s_0).getD false) = true) then ck (0 ≤ (IntKind.i64.wrap ((((((bH (((((s_0.length) : Nat) : Int) % (18446744073709551616 : Int)).toNat) ((count_1 % (18446744073709551616 : Int)).toNat)).getD ((0 : Nat), (0 : Nat), ())).2).1) : Nat) : Int)) ∧ (IntKind.i64.wrap ((((((bH (((((s_0.length) : Nat) : Int) % (18446744073709551616 : Int)).toNat) ((count_1 % (18446744073709551616 : Int)).toNat)).getD ((0 : Nat), (0 : Nat), ())).2).1) : Nat) : Int)) ≤ ((((aP qB).length) : Nat) : Int)) (some (List.take ((IntKind.i64.wrap ((((((bH (((((s_0.length) : Nat) : Int) % (18446744073709551616 : Int)).toNat) ((count_1 % (18446744073709551616 : Int)).toNat)).getD ((0 : Nat), (0 : Nat), ())).2).1) : Nat) : Int)).toNat) (aP qB))) else ck ((((IntKind.i64.wrap ((((((bH (((((s_0.length) : Nat) : Int) % (18446744073709551616 : Int)).toNat) ((count_1 % (18446744073709551616 : Int)).toNat)).getD ((0 : Nat), (0 : Nat), ())).2).1) : Nat) : Int)) ≤ (64 : Int)) → (((bI (aP nN) s_0).isSome = true)))) (if ((IntKind.i64.wrap ((((((bH (((((s_0.length) : Nat) : Int) % (18446744073709551616 : Int)).toNat) ((count_1 % (18446744073709551616 : Int)).toNat)).getD ((0 : Nat), (0 : Nat), ())).2).1) : Nat) : Int)) ≤ (64 : Int)) ∧ (((bI (aP nN) s_0).getD false) = true) then ck (0 ≤ (IntKind.i64.wrap ((((((bH (((((s_0.length) : Nat) : Int) % (18446744073709551616 : Int)).toNat) ((count_1 % (18446744073709551616 : Int)).toNat)).getD ((0 : Nat), (0 : Nat), ())).2).1) : Nat) : Int)) ∧ (IntKind.i64.wrap ((((((bH (((((s_0.length) : Nat) : Int) % (18446744073709551616 : Int)).toNat) ((count_1 % (18446744073709551616 : Int)).toNat)).getD ((0 : Nat), (0 : Nat), ())).2).1) : Nat) : Int)) ≤ ((((aP nN).length) : Nat) : Int)) (some (List.take ((IntKind.i64.wrap ((((((bH (((((s_0.length) : Nat) : Int) % (18446744073709551616 : Int)).toNat) ((count_1 % (18446744073709551616 : Int)).toNat)).getD ((0 : Nat), (0 : Nat), ())).2).1) : Nat) : Int)).toNat) (aP nN))) else ck ((((IntKind.i64.wrap ((((((bH (((((s_0.length) : Nat) : Int) % (18446744073709551616 : Int)).toNat) ((count_1 % (18446744073709551616 : Int)).toNat)).getD ((0 : Nat), (0 : Nat), ())).2).1) : Nat) : Int)) ≤ (128 : Int)) → (((bI (aP tV) s_0).isSome = true)))) (if ((IntKind.i64.wrap ((((((bH (((((s_0.length) : Nat) : Int) % (18446744073709551616 : Int)).toNat) ((count_1 % (18446744073709551616 : Int)).toNat)).getD ((0 : Nat), (0 : Nat), ())).2).1) : Nat) : Int)) ≤ (128 : Int)) ∧ (((bI (aP tV) s_0).getD false) = true) then ck (0 ≤ (IntKind.i64.wrap ((((((bH (((((s_0.length) : Nat) : Int) % (18446744073709551616 : Int)).toNat) ((count_1 % (18446744073709551616 : Int)).toNat)).getD ((0 : Nat), (0 : Nat), ())).2).1) : Nat) : Int)) ∧ (IntKind.i64.wrap ((((((bH (((((s_0.length) : Nat) : Int) % (18446744073709551616 : Int)).toNat) ((count_1 % (18446744073709551616 : Int)).toNat)).getD ((0 : Nat), (0 : Nat), ())).2).1) : Nat) : Int)) ≤ ((((aP tV).length) : Nat) : Int)) (some (List.take ((IntKind.i64.wrap ((((((bH (((((s_0.length) : Nat) : Int) % (18446744073709551616 : Int)).toNat) ((count_1 % (18446744073709551616 : Int)).toNat)).getD ((0 : Nat), (0 : Nat), ())).2).1) : Nat) : Int)).toNat) (aP tV))) else ck ((((IntKind.i64.wrap ((((((bH (((((s_0.length) : Nat) : Int) % (18446744073709551616 : Int)).toNat) ((count_1 % (18446744073709551616 : Int)).toNat)).getD ((0 : Nat), (0 : Nat), ())).2).1) : Nat) : Int)) ≤ (64 : Int)) → (((bI (aP tW) s_0).isSome = true)))) (if ((IntKind.i64.wrap ((((((bH (((((s_0.length) : Nat) : Int) % (18446744073709551616 : Int)).toNat) ((count_1 % (18446744073709551616 : Int)).toNat)).getD ((0 : Nat), (0 : Nat), ())).2).1) : Nat) : Int)) ≤ (64 : Int)) ∧ (((bI (aP tW) s_0).getD false) = true) then ck (0 ≤ (IntKind.i64.wrap ((((((bH (((((s_0.length) : Nat) : Int) % (18446744073709551616 : Int)).toNat) ((count_1 % (18446744073709551616 : Int)).toNat)).getD ((0 : Nat), (0 : Nat), ())).2).1) : Nat) : Int)) ∧ (IntKind.i64.wrap ((((((bH (((((s_0.length) : Nat) : Int) % (18446744073709551616 : Int)).toNat) ((count_1 % (18446744073709551616 : Int)).toNat)).getD ((0 : Nat), (0 : Nat), ())).2).1) : Nat) : Int)) ≤ ((((aP tW).length) : Nat) : Int)) (some (List.take ((IntKind.i64.wrap ((((((bH (((((s_0.length) : Nat) : Int) % (18446744073709551616 : Int)).toNat) ((count_1 % (18446744073709551616 : Int)).toNat)).getD ((0 : Nat), (0 : Nat), ())).2).1) : Nat) : Int)).toNat) (aP tW))) else jW s_0 count_1))))) else jW s_0 count_1
noncomputable def aN (s_0 : (List Nat)) (count_1 : Int) : Option (List Nat) :=
 if count_1 = (0 : Int) then some (aP ⟨#[]⟩) else if count_1 = (1 : Int) then some s_0 else if count_1 < (0 : Int) then none else ck (((bH (((((s_0.length) : Nat) : Int) % (18446744073709551616 : Int)).toNat) ((count_1 % (18446744073709551616 : Int)).toNat)).isSome = true)) (if ((0 : Nat) < (((bH (((((s_0.length) : Nat) : Int) % (18446744073709551616 : Int)).toNat) ((count_1 % (18446744073709551616 : Int)).toNat)).getD ((0 : Nat), (0 : Nat), ())).1)) ∨ ((9223372036854775807 : Nat) < ((((bH (((((s_0.length) : Nat) : Int) % (18446744073709551616 : Int)).toNat) ((count_1 % (18446744073709551616 : Int)).toNat)).getD ((0 : Nat), (0 : Nat), ())).2).1)) then none else if (((s_0.length) : Nat) : Int) = (0 : Int) then some (aP ⟨#[]⟩) else ck ((0 : Int) < (((s_0.length) : Nat) : Int)) (if (s_0.getD (0 : Nat) (0 : Nat)) = (32 : Nat) then dB s_0 count_1 (decide ((s_0.getD (0 : Nat) (0 : Nat)) = (32 : Nat))) else if (s_0.getD (0 : Nat) (0 : Nat)) = (45 : Nat) then dB s_0 count_1 (decide ((s_0.getD (0 : Nat) (0 : Nat)) = (45 : Nat))) else if (s_0.getD (0 : Nat) (0 : Nat)) = (48 : Nat) then dB s_0 count_1 (decide ((s_0.getD (0 : Nat) (0 : Nat)) = (48 : Nat))) else if (s_0.getD (0 : Nat) (0 : Nat)) = (61 : Nat) then dB s_0 count_1 (decide ((s_0.getD (0 : Nat) (0 : Nat)) = (61 : Nat))) else dB s_0 count_1 (decide ((s_0.getD (0 : Nat) (0 : Nat)) = (9 : Nat)))))
def mS : Ty := .pair .str (.pair (.i .i64) .unit)
attribute [go_sem] mS
noncomputable def gB : aL := mSpec mS (.one .str) (fun x => aN x.1 x.2.1)
noncomputable def mT : List (FuncId × aL) := [(133, uX), (134, jE)]
theorem wO : bV Tryz.prog GL mT := .cons aLk (by kernel_rfl) (.cons aAw (by kernel_rfl) (.nil))
theorem aAx : gam mT 133 = some uX := rfl
attribute [go_sem] aAx
theorem aAy : gam mT 134 = some jE := rfl
attribute [go_sem] aAy
set_option maxHeartbeats 4000000 in
theorem uY : FOK Tryz.prog GL 73 gB := by
 refine sR (bL wO) Tryz.func73 rfl (by kernel_rfl) (by decide) fun w0 S x r hw h => ?_
 have hF : jS (fr Tryz.prog (EM mT) S w0 Tryz.f73.ntmps) := ⟨bL wO, mix⟩
 obtain ⟨(s_0 : (List Nat)), (count_1 : Int), u⟩ := x
 simp only [mS, Ty.wf, nL] at hw
 simp only [cA, mS]
 try dsimp only at h
 unfold aN at h
 refine aF (aE hF [0, 1] ?_)
 simp only [go_sem]
 refine aG (aF (aF (aE hF [0, 1, 11] ?_)))
 simp only [go_sem]
 refine aG (fZ (aF (aE hF [0, 1, 11, 12] ?_)))
 simp only [go_sem]
 refine aG (bR rfl (fun hc => ?_) (fun hc => ?_))
 ·try simp only [go_sem] at hc
  have h := fJ (by first | exact hc | omega | (simpa using hc) | (simp at hc ⊢; omega)) h
  refine aF (aE hF [4] ?_)
  simp only [go_sem]
  obtain rfl := Option.some.inj h
  refine aG (dP (eE (cY (iP hF [.tmp 4] rfl rfl rfl ?_))))
  (try simp only [jR, aY, go_sem]) <;> first | rfl | (simp; done)
 ·try simp only [go_sem] at hc
  have h := fK (by first | exact hc | omega | (simpa using hc) | (simp at hc ⊢; omega)) h
  refine aF (aE hF [0, 1, 14] ?_)
  simp only [go_sem]
  refine aG (bR rfl (fun hc => ?_) (fun hc => ?_))
  ·try simp only [go_sem] at hc
   have h := fJ (by first | exact hc | omega | (simpa using hc) | (simp at hc ⊢; omega)) h
   refine aF (aE hF [4] ?_)
   simp only [go_sem]
   obtain rfl := Option.some.inj h
   refine aG (dP (eE (cY (iP hF [.tmp 4] rfl rfl rfl ?_))))
   (try simp only [jR, aY, go_sem]) <;> first | rfl | (simp; done)
  ·try simp only [go_sem] at hc
   have h := fK (by first | exact hc | omega | (simpa using hc) | (simp at hc ⊢; omega)) h
   refine cE (fO (aG (aF (aF (aE hF [0, 1, 18] ?_)))))
   simp only [go_sem]
   refine aG (bR rfl (fun hc => ?_) (fun hc => ?_))
   ·try simp only [go_sem] at hc
    have h := fJ (by first | exact hc | omega | (simpa using hc) | (simp at hc ⊢; omega)) h
    cases h
   ·try simp only [go_sem] at hc
    have h := fK (by first | exact hc | omega | (simpa using hc) | (simp at hc ⊢; omega)) h
    refine cE (aG (aF (aE hF [0, 5, 6] ?_)))
    simp only [go_sem]
    obtain ⟨g0, h⟩ := aH h
    repeat (refine ⟨by first | with_reducible assumption | omega | (intros; first | assumption | omega) | (simp only [go_sem] at *; first | assumption | omega) | decide, ?_⟩)
    refine aG (aF (aF (aE hF [0, 6, 34] ?_)))
    simp only [go_sem]
    refine aG (bR rfl (fun hc => ?_) (fun hc => ?_))
    ·try simp only [go_sem] at hc
     have h := fJ (by first | exact hc | omega | (simpa using hc) | (simp at hc ⊢; omega)) h
     cases h
    ·try simp only [go_sem] at hc
     have h := fK (by first | exact hc | omega | (simpa using hc) | (simp at hc ⊢; omega)) h
     refine cE (aG (aF (aE hF [0, 7] ?_)))
     simp only [go_sem]
     refine aG (aF (aF (aE hF [0, 7, 40] ?_)))
     simp only [go_sem]
     refine aG (bR rfl (fun hc => ?_) (fun hc => ?_))
     ·try simp only [go_sem] at hc
      have h := fJ (by first | exact hc | omega | (simpa using hc) | (simp at hc ⊢; omega)) h
      refine aF (aE hF [4] ?_)
      simp only [go_sem]
      obtain rfl := Option.some.inj h
      refine aG (dP (cY (iP hF [.tmp 4] rfl rfl rfl ?_)))
      (try simp only [jR, aY, go_sem]) <;> first | rfl | (simp; done)
     ·try simp only [go_sem] at hc
      have h := fK (by first | exact hc | omega | (simpa using hc) | (simp at hc ⊢; omega)) h
      refine cE (aG (iX (D := Unit) (fun d => jW s_0 count_1 = some r) [0, 7] (fun d => []) (fun d => []) ?_ ?_))
      ·refine aF (aE hF [0, 7, 42] ?_)
       simp only [go_sem]
       obtain ⟨g0, h⟩ := aH h
       repeat (refine ⟨by first | with_reducible assumption | omega | (intros; first | assumption | omega) | (simp only [go_sem] at *; first | assumption | omega) | decide, ?_⟩)
       refine aG (fZ (iX (D := Bool) (fun d => dB s_0 count_1 d = some r) [0, 7] (fun d => [(43, .val .bool d)]) (fun d => []) ?_ ?_))
       ·refine aF (aE hF [0, 7, 42, 43] ?_)
        simp only [go_sem]
        refine aG (bR rfl (fun hc => ?_) (fun hc => ?_))
        ·try simp only [go_sem] at hc
         have h := fJ (by first | exact hc | omega | (simpa using hc) | (simp at hc ⊢; omega)) h
         refine cE (bE (aX ((decide ((s_0.getD (0 : Nat) (0 : Nat)) = (32 : Nat)))) h rfl ?_))
         ·(try simp only [jH, fP, true_or, and_self, go_sem]) <;> (repeat' apply And.intro) <;> first | rfl | (left; rfl) | (right; rfl) | (left; simp only [go_sem]; done) | (right; simp only [go_sem]; done) | (simp; done) | (simp only [*]; done) | omega
        ·try simp only [go_sem] at hc
         have h := fK (by first | exact hc | omega | (simpa using hc) | (simp at hc ⊢; omega)) h
         refine aF (aE hF [0, 7, 42, 43] ?_)
         simp only [go_sem]
         refine aG (bR rfl (fun hc => ?_) (fun hc => ?_))
         ·try simp only [go_sem] at hc
          have h := fJ (by first | exact hc | omega | (simpa using hc) | (simp at hc ⊢; omega)) h
          refine cE (bE (aX ((decide ((s_0.getD (0 : Nat) (0 : Nat)) = (45 : Nat)))) h rfl ?_))
          ·(try simp only [jH, fP, true_or, and_self, go_sem]) <;> (repeat' apply And.intro) <;> first | rfl | (left; rfl) | (right; rfl) | (left; simp only [go_sem]; done) | (right; simp only [go_sem]; done) | (simp; done) | (simp only [*]; done) | omega
         ·try simp only [go_sem] at hc
          have h := fK (by first | exact hc | omega | (simpa using hc) | (simp at hc ⊢; omega)) h
          refine aF (aE hF [0, 7, 42, 43] ?_)
          simp only [go_sem]
          refine aG (bR rfl (fun hc => ?_) (fun hc => ?_))
          ·try simp only [go_sem] at hc
           have h := fJ (by first | exact hc | omega | (simpa using hc) | (simp at hc ⊢; omega)) h
           refine cE (bE (aX ((decide ((s_0.getD (0 : Nat) (0 : Nat)) = (48 : Nat)))) h rfl ?_))
           ·(try simp only [jH, fP, true_or, and_self, go_sem]) <;> (repeat' apply And.intro) <;> first | rfl | (left; rfl) | (right; rfl) | (left; simp only [go_sem]; done) | (right; simp only [go_sem]; done) | (simp; done) | (simp only [*]; done) | omega
          ·try simp only [go_sem] at hc
           have h := fK (by first | exact hc | omega | (simpa using hc) | (simp at hc ⊢; omega)) h
           refine aF (aE hF [0, 7, 42, 43] ?_)
           simp only [go_sem]
           refine aG (bR rfl (fun hc => ?_) (fun hc => ?_))
           ·try simp only [go_sem] at hc
            have h := fJ (by first | exact hc | omega | (simpa using hc) | (simp at hc ⊢; omega)) h
            refine cE (bE (aX ((decide ((s_0.getD (0 : Nat) (0 : Nat)) = (61 : Nat)))) h rfl ?_))
            ·(try simp only [jH, fP, true_or, and_self, go_sem]) <;> (repeat' apply And.intro) <;> first | rfl | (left; rfl) | (right; rfl) | (left; simp only [go_sem]; done) | (right; simp only [go_sem]; done) | (simp; done) | (simp only [*]; done) | omega
           ·try simp only [go_sem] at hc
            have h := fK (by first | exact hc | omega | (simpa using hc) | (simp at hc ⊢; omega)) h
            refine aE hF [0, 7, 43] ?_
            simp only [go_sem]
            refine bE (aX ((decide ((s_0.getD (0 : Nat) (0 : Nat)) = (9 : Nat)))) h rfl ?_)
            ·(try simp only [jH, fP, true_or, and_self, go_sem]) <;> (repeat' apply And.intro) <;> first | rfl | (left; rfl) | (right; rfl) | (left; simp only [go_sem]; done) | (right; simp only [go_sem]; done) | (simp; done) | (simp only [*]; done) | omega
       ·rintro x43_5 h
        try dsimp only at h
        simp only [go_sem]
        unfold dB at h
        refine bR rfl (fun hc => ?_) (fun hc => ?_)
        ·try simp only [go_sem] at hc
         have h := fJ (by first | exact hc | omega | (simpa using hc) | (simp at hc ⊢; omega)) h
         refine fZ (aF (aE hF [0, 7, 49] ?_))
         simp only [go_sem]
         obtain ⟨g0, h⟩ := aH h
         repeat (refine ⟨by first | with_reducible assumption | omega | (intros; first | assumption | omega) | (simp only [go_sem] at *; first | assumption | omega) | (intro q0; (try have e0 := g0 (by first | exact q0 | omega | (simpa using q0))); first | assumption | omega) | decide, ?_⟩)
         refine aG (bR rfl (fun hc => ?_) (fun hc => ?_))
         ·try simp only [go_sem] at hc
          have h := fJ (by first | exact hc | omega | (simpa using hc) | (simp at hc ⊢; omega)) h
          refine aF (aE hF [4] ?_)
          simp only [go_sem]
          obtain ⟨g0, h⟩ := aH h
          repeat (refine ⟨by first | with_reducible assumption | omega | (intros; first | assumption | omega) | (simp only [go_sem] at *; first | assumption | omega) | decide, ?_⟩)
          obtain rfl := Option.some.inj h
          refine aG (dP (eE (eE (cY (iP hF [.tmp 4] rfl rfl rfl ?_)))))
          (try simp only [jR, aY, go_sem]) <;> first | rfl | (simp; done)
         ·try simp only [go_sem] at hc
          have h := fK (by first | exact hc | omega | (simpa using hc) | (simp at hc ⊢; omega)) h
          refine aF (aE hF [0, 7, 58] ?_)
          simp only [go_sem]
          obtain ⟨g0, h⟩ := aH h
          repeat (refine ⟨by first | with_reducible assumption | omega | (intros; first | assumption | omega) | (simp only [go_sem] at *; first | assumption | omega) | (intro q0; (try have e0 := g0 (by first | exact q0 | omega | (simpa using q0))); first | assumption | omega) | decide, ?_⟩)
          refine aG (bR rfl (fun hc => ?_) (fun hc => ?_))
          ·try simp only [go_sem] at hc
           have h := fJ (by first | exact hc | omega | (simpa using hc) | (simp at hc ⊢; omega)) h
           refine aF (aE hF [4] ?_)
           simp only [go_sem]
           obtain ⟨g0, h⟩ := aH h
           repeat (refine ⟨by first | with_reducible assumption | omega | (intros; first | assumption | omega) | (simp only [go_sem] at *; first | assumption | omega) | decide, ?_⟩)
           obtain rfl := Option.some.inj h
           refine aG (dP (eE (eE (cY (iP hF [.tmp 4] rfl rfl rfl ?_)))))
           (try simp only [jR, aY, go_sem]) <;> first | rfl | (simp; done)
          ·try simp only [go_sem] at hc
           have h := fK (by first | exact hc | omega | (simpa using hc) | (simp at hc ⊢; omega)) h
           refine aF (aE hF [0, 7, 67] ?_)
           simp only [go_sem]
           obtain ⟨g0, h⟩ := aH h
           repeat (refine ⟨by first | with_reducible assumption | omega | (intros; first | assumption | omega) | (simp only [go_sem] at *; first | assumption | omega) | (intro q0; (try have e0 := g0 (by first | exact q0 | omega | (simpa using q0))); first | assumption | omega) | decide, ?_⟩)
           refine aG (bR rfl (fun hc => ?_) (fun hc => ?_))
           ·try simp only [go_sem] at hc
            have h := fJ (by first | exact hc | omega | (simpa using hc) | (simp at hc ⊢; omega)) h
            refine aF (aE hF [4] ?_)
            simp only [go_sem]
            obtain ⟨g0, h⟩ := aH h
            repeat (refine ⟨by first | with_reducible assumption | omega | (intros; first | assumption | omega) | (simp only [go_sem] at *; first | assumption | omega) | decide, ?_⟩)
            obtain rfl := Option.some.inj h
            refine aG (dP (eE (eE (cY (iP hF [.tmp 4] rfl rfl rfl ?_)))))
            (try simp only [jR, aY, go_sem]) <;> first | rfl | (simp; done)
           ·try simp only [go_sem] at hc
            have h := fK (by first | exact hc | omega | (simpa using hc) | (simp at hc ⊢; omega)) h
            refine aF (aE hF [0, 7, 76] ?_)
            simp only [go_sem]
            obtain ⟨g0, h⟩ := aH h
            repeat (refine ⟨by first | with_reducible assumption | omega | (intros; first | assumption | omega) | (simp only [go_sem] at *; first | assumption | omega) | (intro q0; (try have e0 := g0 (by first | exact q0 | omega | (simpa using q0))); first | assumption | omega) | decide, ?_⟩)
            refine aG (bR rfl (fun hc => ?_) (fun hc => ?_))
            ·try simp only [go_sem] at hc
             have h := fJ (by first | exact hc | omega | (simpa using hc) | (simp at hc ⊢; omega)) h
             refine aF (aE hF [4] ?_)
             simp only [go_sem]
             obtain ⟨g0, h⟩ := aH h
             repeat (refine ⟨by first | with_reducible assumption | omega | (intros; first | assumption | omega) | (simp only [go_sem] at *; first | assumption | omega) | decide, ?_⟩)
             obtain rfl := Option.some.inj h
             refine aG (dP (eE (eE (cY (iP hF [.tmp 4] rfl rfl rfl ?_)))))
             (try simp only [jR, aY, go_sem]) <;> first | rfl | (simp; done)
            ·try simp only [go_sem] at hc
             have h := fK (by first | exact hc | omega | (simpa using hc) | (simp at hc ⊢; omega)) h
             refine aF (aE hF [0, 7, 85] ?_)
             simp only [go_sem]
             obtain ⟨g0, h⟩ := aH h
             repeat (refine ⟨by first | with_reducible assumption | omega | (intros; first | assumption | omega) | (simp only [go_sem] at *; first | assumption | omega) | (intro q0; (try have e0 := g0 (by first | exact q0 | omega | (simpa using q0))); first | assumption | omega) | decide, ?_⟩)
             refine aG (bR rfl (fun hc => ?_) (fun hc => ?_))
             ·try simp only [go_sem] at hc
              have h := fJ (by first | exact hc | omega | (simpa using hc) | (simp at hc ⊢; omega)) h
              refine aF (aE hF [4] ?_)
              simp only [go_sem]
              obtain ⟨g0, h⟩ := aH h
              repeat (refine ⟨by first | with_reducible assumption | omega | (intros; first | assumption | omega) | (simp only [go_sem] at *; first | assumption | omega) | decide, ?_⟩)
              obtain rfl := Option.some.inj h
              refine aG (dP (eE (eE (cY (iP hF [.tmp 4] rfl rfl rfl ?_)))))
              (try simp only [jR, aY, go_sem]) <;> first | rfl | (simp; done)
             ·try simp only [go_sem] at hc
              have h := fK (by first | exact hc | omega | (simpa using hc) | (simp at hc ⊢; omega)) h
              refine cE (fO (fO (bE (aX (()) h rfl ?_))))
              ·(try simp only [jH, fP, true_or, and_self, go_sem]) <;> (repeat' apply And.intro) <;> first | rfl | (left; rfl) | (right; rfl) | (left; simp only [go_sem]; done) | (right; simp only [go_sem]; done) | (simp; done) | (simp only [*]; done) | omega
        ·try simp only [go_sem] at hc
         have h := fK (by first | exact hc | omega | (simpa using hc) | (simp at hc ⊢; omega)) h
         refine cE (fO (bE (aX (()) h rfl ?_)))
         ·(try simp only [jH, fP, true_or, and_self, go_sem]) <;> (repeat' apply And.intro) <;> first | rfl | (left; rfl) | (right; rfl) | (left; simp only [go_sem]; done) | (right; simp only [go_sem]; done) | (simp; done) | (simp only [*]; done) | omega
      ·rintro u h
       try dsimp only at h
       simp only [go_sem]
       unfold jW at h
       refine aF (aE hF [0, 7, 8] ?_)
       simp only [go_sem]
       refine aG (iX (D := Int) (fun d => gP d = some r) [0, 7] (fun d => [(8, .val (.i .i64) d)]) (fun d => []) ?_ ?_)
       ·refine aF (aE hF [0, 7, 8, 96] ?_)
        simp only [go_sem]
        refine aG (bR rfl (fun hc => ?_) (fun hc => ?_))
        ·try simp only [go_sem] at hc
         have h := fJ (by first | exact hc | omega | (simpa using hc) | (simp at hc ⊢; omega)) h
         refine aF (aE hF [0, 7, 8] ?_)
         simp only [go_sem]
         obtain ⟨g0, h⟩ := aH h
         obtain ⟨g1, h⟩ := aH h
         obtain ⟨g2, h⟩ := aH h
         try simp only [I64, I32] at g1
         try simp only [I64, I32] at g2
         repeat (refine ⟨by first | with_reducible assumption | omega | (intros; first | assumption | omega) | (simp only [go_sem] at *; first | assumption | omega) | decide, ?_⟩)
         refine aG (aF (aE hF [0, 7, 8, 104] ?_))
         simp only [go_sem]
         refine aG (bR rfl (fun hc => ?_) (fun hc => ?_))
         ·try simp only [go_sem] at hc
          have h := fJ (by first | exact hc | omega | (simpa using hc) | (simp at hc ⊢; omega)) h
          refine aE hF [0, 7, 8] ?_
          simp only [go_sem]
          refine bE (aX ((((s_0.length) : Nat) : Int)) h rfl ?_)
          ·(try simp only [jH, fP, true_or, and_self, go_sem]) <;> (repeat' apply And.intro) <;> first | rfl | (left; rfl) | (right; rfl) | (left; simp only [go_sem]; done) | (right; simp only [go_sem]; done) | (simp; done) | (simp only [*]; done) | omega
         ·try simp only [go_sem] at hc
          have h := fK (by first | exact hc | omega | (simpa using hc) | (simp at hc ⊢; omega)) h
          refine cE (bE (aX (((Int.tdiv (8192 : Int) (((s_0.length) : Nat) : Int)) * (((s_0.length) : Nat) : Int))) h rfl ?_))
          ·(try simp only [jH, fP, true_or, and_self, go_sem]) <;> (repeat' apply And.intro) <;> first | rfl | (left; rfl) | (right; rfl) | (left; simp only [go_sem]; done) | (right; simp only [go_sem]; done) | (simp; done) | (simp only [*]; done) | omega
        ·try simp only [go_sem] at hc
         have h := fK (by first | exact hc | omega | (simpa using hc) | (simp at hc ⊢; omega)) h
         refine cE (bE (aX ((IntKind.i64.wrap ((((((bH (((((s_0.length) : Nat) : Int) % (18446744073709551616 : Int)).toNat) ((count_1 % (18446744073709551616 : Int)).toNat)).getD ((0 : Nat), (0 : Nat), ())).2).1) : Nat) : Int))) h rfl ?_))
         ·(try simp only [jH, fP, true_or, and_self, go_sem]) <;> (repeat' apply And.intro) <;> first | rfl | (left; rfl) | (right; rfl) | (left; simp only [go_sem]; done) | (right; simp only [go_sem]; done) | (simp; done) | (simp only [*]; done) | omega
       ·rintro chunkMax_4 h
        try dsimp only at h
        simp only [go_sem]
        unfold gP at h
        cases h
attribute [go_sem] gB
end Nu
end Go.Proofs
namespace Go.Proofs
open Go.Vc
set_option maxRecDepth 20000
namespace Nu
noncomputable def cP (a0_0 : (List Nat)) (a1_1 : (List Nat)) (x13_5 : Int) : Option ((Int) ⊕ ((Unit) ⊕ Bool)) :=
 if x13_5 < (((a0_0.length) : Nat) : Int) then ck (0 ≤ x13_5 ∧ x13_5 < (((a0_0.length) : Nat) : Int)) (ck (0 ≤ x13_5 ∧ x13_5 < (((a1_1.length) : Nat) : Int)) (if ¬ ((a0_0.getD (x13_5.toNat) (0 : Nat)) = (a1_1.getD (x13_5.toNat) (0 : Nat))) then some (.inr (.inr false)) else ck (I64 (x13_5 + (1 : Int))) (some (.inl (x13_5 + (1 : Int)))))) else some (.inr (.inl ()))
noncomputable def dE (a0_0 : (List Nat)) (a1_1 : (List Nat)) : Option Bool :=
 if ¬ ((((a0_0.length) : Nat) : Int) = (((a1_1.length) : Nat) : Int)) then some false else (dM (fun d : Int => cP a0_0 a1_1 d) (0 : Int)).bind (fun e => match e with | (.inl e) => some true | (.inr e) => some e)
def pD : PlR := ⟨[(0, .A [0, 1]), (1, .A [0, 1, 10]), (2, .A [4]), (3, .A [0, 1, 12, 13]), (4, .A [0, 1, 12, 13, 14]), (5, .A [0, 1, 5, 12, 13]), (6, .A [0, 1, 12, 13, 24]), (7, .A [4]), (8, .A [0, 1, 12, 13]), (9, .A [4])], []⟩
def pN : Ty := .pair (.sl (.u .u64)) (.pair (.sl (.u .u64)) .unit)
noncomputable def gS : aL := mSpec pN (.one .bool) (fun x => dE x.1 x.2.1)
noncomputable def yV : List (FuncId × aL) := []
theorem yW : bV Tryz.prog GL yV := .nil
attribute [go_sem] pN pD
set_option maxHeartbeats 4000000 in
theorem yC : FOK Tryz.prog GL 84 gS := by
 refine cB (bL yW) mix Tryz.func84 rfl (by kernel_rfl) (by decide) pD fun w0 S x Θ hw h hF => ?_
 obtain ⟨(a0_0 : (List Nat)), (a1_1 : (List Nat)), u⟩ := x
 simp only [cA, go_sem]
 replace h : sat (dE a0_0 a1_1) _ := h
 unfold dE at h
 refine fQ h (fun hc h => ?_) fun hc h => ?_
 ·exact aS hF [.tmp 4] rfl rfl rfl (aD h) (by simp only [aY, go_sem])
 ·refine dY hF (D := Int) [0, 1, 12] (fun d => [(13, .val (.i .i64) d)]) (fun d => []) h rfl (by simp only [go_sem]) ?_
  rintro x13_5 A4 T4 hA4 hE4 h
  simp only [go_sem]
  replace h : sat (cP a0_0 a1_1 x13_5) _ := h
  unfold cP at h
  refine kA h (fun hc h => ?_) fun hc h => ?_
  ·refine aM h fun g0 h => aM h fun g1 h => ?_
   refine fQ h (fun hc h => ?_) fun hc h => ?_
   ·replace h := hE4 _ (aD h)
    try dsimp only at h
    exact aS hF [.tmp 4] rfl rfl rfl (aD h) (by simp only [aY, go_sem])
   ·refine aM h fun g0 h => ?_
    replace h := hA4 _ (aD h)
    exact aX _ h rfl (by simp only [go_sem])
  ·replace h := hE4 _ (aD h)
   try dsimp only at h
   exact aS hF [.tmp 4] rfl rfl rfl (aD h) (by simp only [aY, go_sem])
attribute [go_sem] gS
noncomputable def iO (l_8 : (List (List Nat))) (out_13 : (List Nat)) (x44_14 : Int) : Option (((List Nat) × Int) ⊕ (((List Nat)))) :=
 if x44_14 < (((l_8.length) : Nat) : Int) then ck (0 ≤ x44_14 ∧ x44_14 < (((l_8.length) : Nat) : Int)) (ck (((l_8.getD (x44_14.toNat) ([] : List Nat)).length) + (out_13.length) ≤ 9223372036854775807) (ck (I64 (x44_14 + (1 : Int))) (some (.inl (((l_8.getD (x44_14.toNat) ([] : List Nat)) ++ out_13), (x44_14 + (1 : Int))))))) else some (.inr out_13)
noncomputable def lH (l_8 : (List (List Nat))) : Option ((List Nat)) :=
 (dM (fun d : (List Nat) × Int => iO l_8 d.1 d.2) ((aP ⟨#[]⟩), (0 : Int))).bind (fun e => some e)
noncomputable def fW (l_20 : (List (List Nat))) (m_19 : (List Nat)) (s_25 : (List Nat)) : Option (((List Nat) × (List (List Nat))) ⊕ (((List (List Nat))))) :=
 ck (((l_20.length) + (1 : Nat)) * 16 ≤ 140737488355328) (if (((((bC m_19 ([1000000000000000000] : List Nat)).1).length) : Nat) : Int) = (0 : Int) then some (.inr (l_20 ++ ([s_25] : List (List Nat)))) else ck (I64 (((((l_20 ++ ([s_25] : List (List Nat))).length) : Nat) : Int) - (1 : Int))) (ck (I64 ((18 : Int) - (((s_25.length) : Nat) : Int))) (ck (((aN (aP ⟨#[48]⟩) ((18 : Int) - (((s_25.length) : Nat) : Int))).isSome = true)) (ck ((((aN (aP ⟨#[48]⟩) ((18 : Int) - (((s_25.length) : Nat) : Int))).getD ([] : List Nat)).length) + (s_25.length) ≤ 9223372036854775807) (ck (0 ≤ (((((l_20 ++ ([s_25] : List (List Nat))).length) : Nat) : Int) - (1 : Int)) ∧ (((((l_20 ++ ([s_25] : List (List Nat))).length) : Nat) : Int) - (1 : Int)) < ((((l_20 ++ ([s_25] : List (List Nat))).length) : Nat) : Int)) (some (.inl (((bC m_19 ([1000000000000000000] : List Nat)).1), ((l_20 ++ ([s_25] : List (List Nat))).set ((((((l_20 ++ ([s_25] : List (List Nat))).length) : Nat) : Int) - (1 : Int)).toNat) (((aN (aP ⟨#[48]⟩) ((18 : Int) - (((s_25.length) : Nat) : Int))).getD ([] : List Nat)) ++ s_25))))))))))
noncomputable def hO (m_19 : (List Nat)) (l_20 : (List (List Nat))) : Option (((List Nat) × (List (List Nat))) ⊕ (((List (List Nat))))) :=
 ck ((mP m_19 ([1000000000000000000] : List Nat))) (if (0 : Int) < ((((((bC m_19 ([1000000000000000000] : List Nat)).2).1).length) : Nat) : Int) then ck ((0 : Int) < ((((((bC m_19 ([1000000000000000000] : List Nat)).2).1).length) : Nat) : Int)) (ck (((cS ((((bC m_19 ([1000000000000000000] : List Nat)).2).1).getD (0 : Nat) (0 : Nat)) (10 : Int)).isSome = true)) (fW l_20 m_19 ((cS ((((bC m_19 ([1000000000000000000] : List Nat)).2).1).getD (0 : Nat) (0 : Nat)) (10 : Int)).getD ([] : List Nat)))) else fW l_20 m_19 (aP ⟨#[]⟩))
noncomputable def aR (m_0 : (List Nat)) : Option (List Nat) :=
 (dM (fun d : (List Nat) × (List (List Nat)) => hO d.1 d.2) (m_0, ([] : List (List Nat)))).bind (fun e => lH e)
def aD7 : PlR := ⟨[(0, .A [0]), (1, .A [0, 3]), (2, .A [3, 4, 5]), (3, .A [3, 4, 5, 6]), (4, .A [3, 4, 5, 6, 18]), (5, .A [3, 4, 6]), (6, .B [3, 4, 6]), (7, .A [0, 3, 6]), (8, .A [0, 3, 6, 30]), (9, .B [0, 3]), (10, .A [3, 7]), (11, .A [7, 42, 43, 44]), (12, .A [7, 42, 43, 44, 45]), (13, .A [7, 9, 42, 43, 44]), (14, .A [7, 42, 43, 44]), (15, .A [7, 42, 43, 44]), (16, .A [2])], [(5, 13), (7, 9)]⟩
def aGR : Ty := .pair (.sl (.u .u64)) .unit
noncomputable def uZ : aL := mSpec aGR (.one .str) (fun x => aR x.1)
noncomputable def yD : List (FuncId × aL) := [(132, iV), (62, gY), (73, gB)]
theorem aMr : bV Tryz.prog GL yD := .cons yU (by kernel_rfl) (.cons vI (by kernel_rfl) (.cons uY (by kernel_rfl) (.nil)))
theorem aGS : gam yD 132 = some iV := rfl
theorem aHS : gam yD 62 = some gY := rfl
theorem aHT : gam yD 73 = some gB := rfl
attribute [go_sem] aGR aD7 aGS aHS aHT
set_option maxHeartbeats 4000000 in
theorem aLl : FOK Tryz.prog GL 72 uZ := by
 refine cB (bL aMr) mix Tryz.func72 rfl (by kernel_rfl) (by decide) aD7 fun w0 S x Θ hw h hF => ?_
 obtain ⟨(m_0 : (List Nat)), u⟩ := x
 simp only [cA, go_sem]
 replace h : sat (aR m_0) _ := h
 unfold aR at h
 refine dG hF (D := (List (List Nat))) (fun d => sat (lH d) Θ) [] (fun d => [(3, .own 0)]) (fun d => [.inr (.row 9 .str d)]) ?_ ?_
 ·simp only [go_sem]
  refine aLL 3 9 .str rfl ?_
  simp only [go_sem]
  refine dY hF (D := (List Nat) × (List (List Nat))) [] (fun d => [(0, .val (.sl (.u .u64)) d.1), (3, .own 0)]) (fun d => [.inr (.row 9 .str d.2)]) h rfl (by simp only [go_sem]) ?_
  rintro ⟨m_19, l_20⟩ A2 T2 hA2 hE2 h
  simp only [go_sem]
  replace h : sat (hO m_19 l_20) _ := h
  unfold hO at h
  refine aM h fun g0 h => ?_
  refine dG hF (D := (List Nat)) (fun d => sat (fW l_20 m_19 d) T2) [4] (fun d => [(3, .own 0), (6, .val .str d)]) (fun d => [.inr (.row 9 .str l_20)]) ?_ ?_
  ·simp only [go_sem]
   refine kA h (fun hc h => ?_) fun hc h => ?_
   ·obtain ⟨g0, h⟩ := aK h
    obtain ⟨g1, h⟩ := aK h
    repeat (refine ⟨by omega, ?_⟩)
    exact aX (((cS ((((bC m_19 ([1000000000000000000] : List Nat)).2).1).getD (0 : Nat) (0 : Nat)) (10 : Int)).getD ([] : List Nat))) h rfl (by simp only [go_sem])
   ·exact aX ((aP ⟨#[]⟩)) h rfl (by simp only [go_sem])
  ·rintro s_25 h
   simp only [go_sem]
   replace h : sat (fW l_20 m_19 s_25) _ := h
   unfold fW at h
   obtain ⟨g0, h⟩ := aK h
   repeat (refine ⟨by omega, ?_⟩)
   refine fQ h (fun hc h => ?_) fun hc h => ?_
   ·replace h := hE2 _ (aD h)
    try dsimp only at h
    refine zQ [1] rfl rfl ?_
    simp only [go_sem]
    exact aX ((l_20 ++ ([s_25] : List (List Nat)))) h rfl (by simp only [go_sem])
   ·obtain ⟨g0, h⟩ := aK h
    repeat (refine ⟨by omega, ?_⟩)
    obtain ⟨g0, h⟩ := aK h
    repeat (refine ⟨by omega, ?_⟩)
    obtain ⟨g0, h⟩ := aK h
    repeat (refine ⟨by omega, ?_⟩)
    obtain ⟨g0, h⟩ := aK h
    repeat (refine ⟨by omega, ?_⟩)
    obtain ⟨g0, h⟩ := aK h
    repeat (refine ⟨by omega, ?_⟩)
    replace h := hA2 _ (aD h)
    refine zQ [1] rfl rfl ?_
    simp only [go_sem]
    exact aX _ h rfl (by simp only [go_sem])
 ·rintro l_8 h
  simp only [go_sem]
  replace h : sat (lH l_8) _ := h
  unfold lH at h
  refine dY hF (D := (List Nat) × Int) [43] (fun d => [(7, .val .str d.1), (42, .own 0), (44, .val (.i .i64) d.2)]) (fun d => [.inr (.row 9 .str l_8)]) h rfl (by simp only [go_sem]) ?_
  rintro ⟨out_13, x44_14⟩ A12 T12 hA12 hE12 h
  simp only [go_sem]
  replace h : sat (iO l_8 out_13 x44_14) _ := h
  unfold iO at h
  refine kA h (fun hc h => ?_) fun hc h => ?_
  ·obtain ⟨g0, h⟩ := aK h
   repeat (refine ⟨by omega, ?_⟩)
   refine aM h fun g0 h => ?_
   refine aM h fun g0 h => ?_
   replace h := hA12 _ (aD h)
   exact aX _ h rfl (by simp only [go_sem])
  ·replace h := hE12 _ (aD h)
   try dsimp only at h
   exact aS hF [.tmp 2] rfl rfl rfl (aD h) (by simp only [aY, go_sem])
attribute [go_sem] uZ
noncomputable def jO (d_0 : (Bool × ((List Nat) × (Int × Unit)))) (q_4 : (List Nat)) (s_5 : (List Nat)) : Option (((List Nat) × (Int × Unit))) :=
 if ((d_0.1) = true) ∧ ((0 : Int) < (((q_4.length) : Nat) : Int)) then ck (((aP ⟨#[45]⟩).length) + (s_5.length) ≤ 9223372036854775807) (some (((aP ⟨#[45]⟩) ++ s_5), (0 : Int), ())) else some (s_5, (0 : Int), ())
noncomputable def jP (digits_1 : Int) (d_0 : (Bool × ((List Nat) × (Int × Unit)))) (q_4 : (List Nat)) : Option (((List Nat) × (Int × Unit))) :=
 ck (((aR q_4).isSome = true)) (ck (I64 (digits_1 + (1 : Int))) (ck (I64 ((digits_1 + (1 : Int)) - (((((aR q_4).getD ([] : List Nat)).length) : Nat) : Int))) (ck (((aN (aP ⟨#[48]⟩) (max ((digits_1 + (1 : Int)) - (((((aR q_4).getD ([] : List Nat)).length) : Nat) : Int)) (0 : Int))).isSome = true)) (ck ((((aN (aP ⟨#[48]⟩) (max ((digits_1 + (1 : Int)) - (((((aR q_4).getD ([] : List Nat)).length) : Nat) : Int)) (0 : Int))).getD ([] : List Nat)).length) + (((aR q_4).getD ([] : List Nat)).length) ≤ 9223372036854775807) (if (0 : Int) < digits_1 then ck (I64 (((((((aN (aP ⟨#[48]⟩) (max ((digits_1 + (1 : Int)) - (((((aR q_4).getD ([] : List Nat)).length) : Nat) : Int)) (0 : Int))).getD ([] : List Nat)) ++ ((aR q_4).getD ([] : List Nat))).length) : Nat) : Int) - digits_1)) (ck (0 ≤ (((((((aN (aP ⟨#[48]⟩) (max ((digits_1 + (1 : Int)) - (((((aR q_4).getD ([] : List Nat)).length) : Nat) : Int)) (0 : Int))).getD ([] : List Nat)) ++ ((aR q_4).getD ([] : List Nat))).length) : Nat) : Int) - digits_1) ∧ (((((((aN (aP ⟨#[48]⟩) (max ((digits_1 + (1 : Int)) - (((((aR q_4).getD ([] : List Nat)).length) : Nat) : Int)) (0 : Int))).getD ([] : List Nat)) ++ ((aR q_4).getD ([] : List Nat))).length) : Nat) : Int) - digits_1) ≤ ((((((aN (aP ⟨#[48]⟩) (max ((digits_1 + (1 : Int)) - (((((aR q_4).getD ([] : List Nat)).length) : Nat) : Int)) (0 : Int))).getD ([] : List Nat)) ++ ((aR q_4).getD ([] : List Nat))).length) : Nat) : Int)) (ck (((List.take ((((((((aN (aP ⟨#[48]⟩) (max ((digits_1 + (1 : Int)) - (((((aR q_4).getD ([] : List Nat)).length) : Nat) : Int)) (0 : Int))).getD ([] : List Nat)) ++ ((aR q_4).getD ([] : List Nat))).length) : Nat) : Int) - digits_1).toNat) (((aN (aP ⟨#[48]⟩) (max ((digits_1 + (1 : Int)) - (((((aR q_4).getD ([] : List Nat)).length) : Nat) : Int)) (0 : Int))).getD ([] : List Nat)) ++ ((aR q_4).getD ([] : List Nat)))).length) + ((aP ⟨#[46]⟩).length) ≤ 9223372036854775807) (ck (I64 (((((((aN (aP ⟨#[48]⟩) (max ((digits_1 + (1 : Int)) - (((((aR q_4).getD ([] : List Nat)).length) : Nat) : Int)) (0 : Int))).getD ([] : List Nat)) ++ ((aR q_4).getD ([] : List Nat))).length) : Nat) : Int) - digits_1)) (ck (0 ≤ (((((((aN (aP ⟨#[48]⟩) (max ((digits_1 + (1 : Int)) - (((((aR q_4).getD ([] : List Nat)).length) : Nat) : Int)) (0 : Int))).getD ([] : List Nat)) ++ ((aR q_4).getD ([] : List Nat))).length) : Nat) : Int) - digits_1) ∧ (((((((aN (aP ⟨#[48]⟩) (max ((digits_1 + (1 : Int)) - (((((aR q_4).getD ([] : List Nat)).length) : Nat) : Int)) (0 : Int))).getD ([] : List Nat)) ++ ((aR q_4).getD ([] : List Nat))).length) : Nat) : Int) - digits_1) ≤ ((((((aN (aP ⟨#[48]⟩) (max ((digits_1 + (1 : Int)) - (((((aR q_4).getD ([] : List Nat)).length) : Nat) : Int)) (0 : Int))).getD ([] : List Nat)) ++ ((aR q_4).getD ([] : List Nat))).length) : Nat) : Int)) (ck ((((List.take ((((((((aN (aP ⟨#[48]⟩) (max ((digits_1 + (1 : Int)) - (((((aR q_4).getD ([] : List Nat)).length) : Nat) : Int)) (0 : Int))).getD ([] : List Nat)) ++ ((aR q_4).getD ([] : List Nat))).length) : Nat) : Int) - digits_1).toNat) (((aN (aP ⟨#[48]⟩) (max ((digits_1 + (1 : Int)) - (((((aR q_4).getD ([] : List Nat)).length) : Nat) : Int)) (0 : Int))).getD ([] : List Nat)) ++ ((aR q_4).getD ([] : List Nat)))) ++ (aP ⟨#[46]⟩)).length) + ((List.drop ((((((((aN (aP ⟨#[48]⟩) (max ((digits_1 + (1 : Int)) - (((((aR q_4).getD ([] : List Nat)).length) : Nat) : Int)) (0 : Int))).getD ([] : List Nat)) ++ ((aR q_4).getD ([] : List Nat))).length) : Nat) : Int) - digits_1).toNat) (((aN (aP ⟨#[48]⟩) (max ((digits_1 + (1 : Int)) - (((((aR q_4).getD ([] : List Nat)).length) : Nat) : Int)) (0 : Int))).getD ([] : List Nat)) ++ ((aR q_4).getD ([] : List Nat)))).length) ≤ 9223372036854775807) (jO d_0 q_4 (((List.take ((((((((aN (aP ⟨#[48]⟩) (max ((digits_1 + (1 : Int)) - (((((aR q_4).getD ([] : List Nat)).length) : Nat) : Int)) (0 : Int))).getD ([] : List Nat)) ++ ((aR q_4).getD ([] : List Nat))).length) : Nat) : Int) - digits_1).toNat) (((aN (aP ⟨#[48]⟩) (max ((digits_1 + (1 : Int)) - (((((aR q_4).getD ([] : List Nat)).length) : Nat) : Int)) (0 : Int))).getD ([] : List Nat)) ++ ((aR q_4).getD ([] : List Nat)))) ++ (aP ⟨#[46]⟩)) ++ (List.drop ((((((((aN (aP ⟨#[48]⟩) (max ((digits_1 + (1 : Int)) - (((((aR q_4).getD ([] : List Nat)).length) : Nat) : Int)) (0 : Int))).getD ([] : List Nat)) ++ ((aR q_4).getD ([] : List Nat))).length) : Nat) : Int) - digits_1).toNat) (((aN (aP ⟨#[48]⟩) (max ((digits_1 + (1 : Int)) - (((((aR q_4).getD ([] : List Nat)).length) : Nat) : Int)) (0 : Int))).getD ([] : List Nat)) ++ ((aR q_4).getD ([] : List Nat))))))))))) else jO d_0 q_4 (((aN (aP ⟨#[48]⟩) (max ((digits_1 + (1 : Int)) - (((((aR q_4).getD ([] : List Nat)).length) : Nat) : Int)) (0 : Int))).getD ([] : List Nat)) ++ ((aR q_4).getD ([] : List Nat))))))))
noncomputable def aJ (d_0 : (Bool × ((List Nat) × (Int × Unit)))) (digits_1 : Int) (up_2 : Bool) : Option ((List Nat) × (Int × Unit)) :=
 ck (((cG d_0).isSome = true)) (if ((¬ (((cG d_0).getD false) = true)) ∨ (digits_1 < (0 : Int))) ∨ ((60 : Int) < digits_1) then some ((aP ⟨#[]⟩), (1 : Int), ()) else if ((2000 : Int) < (((d_0.2).2).1)) ∨ ((((d_0.2).2).1) < (-2000 : Int)) then some ((aP ⟨#[]⟩), (2 : Int), ()) else ck ((aDC ((d_0.2).1) (max (((d_0.2).2).1) (0 : Int)))) (ck (((bA (10 : Nat) digits_1).isSome = true)) (ck ((aEn (bD ((d_0.2).1) (max (((d_0.2).2).1) (0 : Int))) ((bA (10 : Nat) digits_1).getD ([] : List Nat)))) (ck (I64 (0 - (((d_0.2).2).1))) (ck ((aC3 (aZ (bD ((d_0.2).1) (max (((d_0.2).2).1) (0 : Int))) ((bA (10 : Nat) digits_1).getD ([] : List Nat))) (max (0 - (((d_0.2).2).1)) (0 : Int)))) (ck ((((0 : Int) < ((((aZ (bD ((d_0.2).1) (max (((d_0.2).2).1) (0 : Int))) ((bA (10 : Nat) digits_1).getD ([] : List Nat))).length) : Nat) : Int)) → ((pSz (aZ (bD ((d_0.2).1) (max (((d_0.2).2).1) (0 : Int))) ((bA (10 : Nat) digits_1).getD ([] : List Nat))))))) (if (((0 : Int) < ((((aZ (bD ((d_0.2).1) (max (((d_0.2).2).1) (0 : Int))) ((bA (10 : Nat) digits_1).getD ([] : List Nat))).length) : Nat) : Int)) ∧ ((bO (aZ (bD ((d_0.2).1) (max (((d_0.2).2).1) (0 : Int))) ((bA (10 : Nat) digits_1).getD ([] : List Nat)))) < (max (0 - (((d_0.2).2).1)) (0 : Int)))) ∧ ((up_2 != (d_0.1)) = true) then ck ((aEn (cC (aZ (bD ((d_0.2).1) (max (((d_0.2).2).1) (0 : Int))) ((bA (10 : Nat) digits_1).getD ([] : List Nat))) (max (0 - (((d_0.2).2).1)) (0 : Int))) ([1] : List Nat))) (jP digits_1 d_0 (eY (cC (aZ (bD ((d_0.2).1) (max (((d_0.2).2).1) (0 : Int))) ((bA (10 : Nat) digits_1).getD ([] : List Nat))) (max (0 - (((d_0.2).2).1)) (0 : Int))) ([1] : List Nat))) else jP digits_1 d_0 (cC (aZ (bD ((d_0.2).1) (max (((d_0.2).2).1) (0 : Int))) ((bA (10 : Nat) digits_1).getD ([] : List Nat))) (max (0 - (((d_0.2).2).1)) (0 : Int))))))))))
def aD8 : PlR := ⟨[(0, .B [1, 2, 3]), (1, .A [1, 2, 3, 12]), (2, .A [6, 7]), (3, .A [1, 2, 3, 24]), (4, .A [6, 7]), (5, .A [1, 2, 3, 8]), (6, .A [1, 2, 3, 8, 9]), (7, .A [1, 2, 3, 8, 9, 10]), (8, .A [1, 3, 10, 63]), (9, .A [1, 3, 10]), (10, .A [1, 3, 10, 11]), (11, .A [1, 3, 10, 11]), (12, .A [1, 3, 10, 11, 79]), (13, .A [3, 10, 11]), (14, .A [11, 100]), (15, .A [11]), (16, .A [6, 7])], [(11, 13), (15, 17)]⟩
def aGT : Ty := .pair (.pair .bool (.pair (.sl (.u .u64)) (.pair (.i .i64) .unit))) (.pair (.i .i64) (.pair .bool .unit))
noncomputable def oB : aL := mSpec aGT (.tup (.pair .str (.pair (.i .i64) .unit))) (fun x => aJ x.1 x.2.1 x.2.2.1)
noncomputable def jQ : List (FuncId × aL) := [(29, dX), (63, eF), (65, jC), (68, gW), (69, fS), (70, jA), (71, kJ), (72, uZ), (73, gB)]
theorem aMs : bV Tryz.prog GL jQ := .cons nW (by kernel_rfl) (.cons oU (by kernel_rfl) (.cons xZ (by kernel_rfl) (.cons uP (by kernel_rfl) (.cons rZ (by kernel_rfl) (.cons xQ (by kernel_rfl) (.cons aAd (by kernel_rfl) (.cons aLl (by kernel_rfl) (.cons uY (by kernel_rfl) (.nil)))))))))
theorem aHU : gam jQ 29 = some dX := rfl
theorem aHV : gam jQ 63 = some eF := rfl
theorem aHW : gam jQ 65 = some jC := rfl
theorem aHX : gam jQ 68 = some gW := rfl
theorem aHY : gam jQ 69 = some fS := rfl
theorem aHZ : gam jQ 70 = some jA := rfl
theorem aH0 : gam jQ 71 = some kJ := rfl
theorem aH1 : gam jQ 72 = some uZ := rfl
theorem aH2 : gam jQ 73 = some gB := rfl
attribute [go_sem] aGT aD8 aHU aHV aHW aHX aHY aHZ aH0 aH1 aH2
set_option maxHeartbeats 4000000 in
theorem aD9 : FOK Tryz.prog GL 27 oB := by
 refine cB (bL aMs) mix Tryz.func27 rfl (by kernel_rfl) (by decide) aD8 fun w0 S x Θ hw h hF => ?_
 obtain ⟨(d_0 : (Bool × ((List Nat) × (Int × Unit)))), (digits_1 : Int), (up_2 : Bool), u⟩ := x
 simp only [cA, go_sem]
 replace h : sat (aJ d_0 digits_1 up_2) _ := h
 unfold aJ at h
 refine aM h fun g0 h => ?_
 refine ⟨fun hc => ?_, fun hc => ?_⟩
 ·replace h := fL (by first | exact hc | omega | (simpa using hc) | (simp at hc ⊢; omega)) h
  exact aS hF [.tmp 6, .tmp 7] rfl rfl rfl (aD h) (by simp only [aY, go_sem])
 ·replace h := fM (by first | exact hc | omega | (simpa using hc) | (simp at hc ⊢; omega)) h
  refine ⟨fun hc => ?_, fun hc => ?_⟩
  ·replace h := fL hc h
   exact aS hF [.tmp 6, .tmp 7] rfl rfl rfl (aD h) (by simp only [aY, go_sem])
  ·replace h := fM hc h
   refine aM h fun g0 h => aM h fun g1 h => aM h fun g2 h => ?_
   refine aM h fun g0 h => ?_
   refine aM h fun g0 h => ?_
   refine dG hF (D := (List Nat)) (fun d => sat (jP digits_1 d_0 d) Θ) [1] (fun d => [(3, .ptr 0 []), (10, .val (.sl (.u .u64)) d)]) (fun d => [.inr (.box 3 (.val (.pair .bool (.pair (.sl (.u .u64)) (.pair (.i .i64) .unit))) d_0))]) ?_ ?_
   ·simp only [go_sem]
    refine aM h fun g0 h => ?_
    refine ⟨fun hc => ?_, fun hc => ?_⟩
    ·replace h := fL hc h
     refine aM h fun g0 h => ?_
     exact aX ((eY (cC (aZ (bD ((d_0.2).1) (max (((d_0.2).2).1) (0 : Int))) ((bA (10 : Nat) digits_1).getD ([] : List Nat))) (max (0 - (((d_0.2).2).1)) (0 : Int))) ([1] : List Nat))) h rfl (by simp only [go_sem])
    ·replace h := fM hc h
     exact aX ((cC (aZ (bD ((d_0.2).1) (max (((d_0.2).2).1) (0 : Int))) ((bA (10 : Nat) digits_1).getD ([] : List Nat))) (max (0 - (((d_0.2).2).1)) (0 : Int)))) h rfl (by simp only [go_sem])
   ·rintro q_4 h
    simp only [go_sem]
    replace h : sat (jP digits_1 d_0 q_4) _ := h
    unfold jP at h
    refine aM h fun g0 h => ?_
    refine aM h fun g0 h => aM h fun g1 h => aM h fun g2 h => aM h fun g3 h => ?_
    refine dG hF (D := (List Nat)) (fun d => sat (jO d_0 q_4 d) Θ) [10] (fun d => [(3, .ptr 0 []), (11, .val .str d)]) (fun d => [.inr (.box 3 (.val (.pair .bool (.pair (.sl (.u .u64)) (.pair (.i .i64) .unit))) d_0))]) ?_ ?_
    ·simp only [go_sem]
     refine kA h (fun hc h => ?_) fun hc h => ?_
     ·refine aM h fun g0 h => aM h fun g1 h => aM h fun g2 h => aM h fun g3 h => aM h fun g4 h => aM h fun g5 h => ?_
      exact aX ((((List.take ((((((((aN (aP ⟨#[48]⟩) (max ((digits_1 + (1 : Int)) - (((((aR q_4).getD ([] : List Nat)).length) : Nat) : Int)) (0 : Int))).getD ([] : List Nat)) ++ ((aR q_4).getD ([] : List Nat))).length) : Nat) : Int) - digits_1).toNat) (((aN (aP ⟨#[48]⟩) (max ((digits_1 + (1 : Int)) - (((((aR q_4).getD ([] : List Nat)).length) : Nat) : Int)) (0 : Int))).getD ([] : List Nat)) ++ ((aR q_4).getD ([] : List Nat)))) ++ (aP ⟨#[46]⟩)) ++ (List.drop ((((((((aN (aP ⟨#[48]⟩) (max ((digits_1 + (1 : Int)) - (((((aR q_4).getD ([] : List Nat)).length) : Nat) : Int)) (0 : Int))).getD ([] : List Nat)) ++ ((aR q_4).getD ([] : List Nat))).length) : Nat) : Int) - digits_1).toNat) (((aN (aP ⟨#[48]⟩) (max ((digits_1 + (1 : Int)) - (((((aR q_4).getD ([] : List Nat)).length) : Nat) : Int)) (0 : Int))).getD ([] : List Nat)) ++ ((aR q_4).getD ([] : List Nat)))))) h rfl (by simp only [go_sem])
     ·exact aX ((((aN (aP ⟨#[48]⟩) (max ((digits_1 + (1 : Int)) - (((((aR q_4).getD ([] : List Nat)).length) : Nat) : Int)) (0 : Int))).getD ([] : List Nat)) ++ ((aR q_4).getD ([] : List Nat)))) h rfl (by simp only [go_sem])
    ·rintro s_5 h
     simp only [go_sem]
     replace h : sat (jO d_0 q_4 s_5) _ := h
     unfold jO at h
     refine ⟨fun hc => ?_, fun hc => ?_⟩
     ·replace h := fL hc h
      refine aM h fun g0 h => ?_
      exact aS hF [.tmp 6, .tmp 7] rfl rfl rfl (aD h) (by simp only [aY, go_sem])
     ·replace h := fM hc h
      exact aS hF [.tmp 6, .tmp 7] rfl rfl rfl (aD h) (by simp only [aY, go_sem])
attribute [go_sem] oB
noncomputable def dC (a_0 : (Bool × ((List Nat) × (Int × Unit)))) (b_1 : (Bool × ((List Nat) × (Int × Unit)))) : Option Bool :=
 ck ((((((a_0.1) == (b_1.1)) = true) ∧ ((((a_0.2).2).1) = (((b_1.2).2).1))) → (((dE ((a_0.2).1) ((b_1.2).1)).isSome = true)))) (some ((((a_0.1) == (b_1.1)) && (decide ((((a_0.2).2).1) = (((b_1.2).2).1)))) && ((dE ((a_0.2).1) ((b_1.2).1)).getD false)))
def aCw : PlR := ⟨[(0, .B [2, 3]), (1, .A [4])], []⟩
def aEa : Ty := .pair (.pair .bool (.pair (.sl (.u .u64)) (.pair (.i .i64) .unit))) (.pair (.pair .bool (.pair (.sl (.u .u64)) (.pair (.i .i64) .unit))) .unit)
noncomputable def mU : aL := mSpec aEa (.one .bool) (fun x => dC x.1 x.2.1)
noncomputable def aEb : List (FuncId × aL) := [(84, gS)]
theorem aLm : bV Tryz.prog GL aEb := .cons yC (by kernel_rfl) (.nil)
theorem aGU : gam aEb 84 = some gS := rfl
attribute [go_sem] aEa aCw aGU
set_option maxHeartbeats 4000000 in
theorem aCx : FOK Tryz.prog GL 32 mU := by
 refine cB (bL aLm) mix Tryz.func32 rfl (by kernel_rfl) (by decide) aCw fun w0 S x Θ hw h hF => ?_
 obtain ⟨(a_0 : (Bool × ((List Nat) × (Int × Unit)))), (b_1 : (Bool × ((List Nat) × (Int × Unit)))), u⟩ := x
 simp only [cA, go_sem]
 replace h : sat (dC a_0 b_1) _ := h
 unfold dC at h
 refine aM h fun g0 h => ?_
 exact aS hF [.tmp 4] rfl rfl rfl (aD h) (by simp only [aY, go_sem])
attribute [go_sem] mU
noncomputable def kM : Option Bool :=
 ck (((aJ (false, ([1] : List Nat), (-3 : Int), ()) (2 : Int) false).isSome = true)) (ck (((aJ (false, ([1] : List Nat), (-3 : Int), ()) (2 : Int) true).isSome = true)) (ck (((bW (false, ([1] : List Nat), (-3 : Int), ())).isSome = true)) (ck (((aJ ((bW (false, ([1] : List Nat), (-3 : Int), ())).getD (false, ([] : List Nat), (0 : Int), ())) (2 : Int) false).isSome = true)) (ck (((bB (aP ⟨#[48, 46, 49, 50, 53]⟩)).isSome = true)) (ck (((bB (aP ⟨#[48, 46, 49]⟩)).isSome = true)) (ck (((bT (aP ⟨#[48, 46, 49]⟩) (20 : Int)).isSome = true)) (ck (I64 (((((aJ (false, ([1] : List Nat), (-3 : Int), ()) (2 : Int) false).getD (([] : List Nat), (0 : Int), ())).2).1) + ((((aJ (false, ([1] : List Nat), (-3 : Int), ()) (2 : Int) true).getD (([] : List Nat), (0 : Int), ())).2).1))) (ck (I64 ((((((aJ (false, ([1] : List Nat), (-3 : Int), ()) (2 : Int) false).getD (([] : List Nat), (0 : Int), ())).2).1) + ((((aJ (false, ([1] : List Nat), (-3 : Int), ()) (2 : Int) true).getD (([] : List Nat), (0 : Int), ())).2).1)) + ((((aJ ((bW (false, ([1] : List Nat), (-3 : Int), ())).getD (false, ([] : List Nat), (0 : Int), ())) (2 : Int) false).getD (([] : List Nat), (0 : Int), ())).2).1))) (ck (I64 (((((((aJ (false, ([1] : List Nat), (-3 : Int), ()) (2 : Int) false).getD (([] : List Nat), (0 : Int), ())).2).1) + ((((aJ (false, ([1] : List Nat), (-3 : Int), ()) (2 : Int) true).getD (([] : List Nat), (0 : Int), ())).2).1)) + ((((aJ ((bW (false, ([1] : List Nat), (-3 : Int), ())).getD (false, ([] : List Nat), (0 : Int), ())) (2 : Int) false).getD (([] : List Nat), (0 : Int), ())).2).1)) + ((((bB (aP ⟨#[48, 46, 49, 50, 53]⟩)).getD ((false, ([] : List Nat), (0 : Int), ()), (0 : Int), ())).2).1))) (ck (I64 ((((((((aJ (false, ([1] : List Nat), (-3 : Int), ()) (2 : Int) false).getD (([] : List Nat), (0 : Int), ())).2).1) + ((((aJ (false, ([1] : List Nat), (-3 : Int), ()) (2 : Int) true).getD (([] : List Nat), (0 : Int), ())).2).1)) + ((((aJ ((bW (false, ([1] : List Nat), (-3 : Int), ())).getD (false, ([] : List Nat), (0 : Int), ())) (2 : Int) false).getD (([] : List Nat), (0 : Int), ())).2).1)) + ((((bB (aP ⟨#[48, 46, 49, 50, 53]⟩)).getD ((false, ([] : List Nat), (0 : Int), ()), (0 : Int), ())).2).1)) + ((((bT (aP ⟨#[48, 46, 49]⟩) (20 : Int)).getD (((false, ([] : List Nat), (0 : Int), ()), (false, ([] : List Nat), (0 : Int), ()), ()), (0 : Int), ())).2).1))) (ck ((((((((((((((aJ (false, ([1] : List Nat), (-3 : Int), ()) (2 : Int) false).getD (([] : List Nat), (0 : Int), ())).2).1) + ((((aJ (false, ([1] : List Nat), (-3 : Int), ()) (2 : Int) true).getD (([] : List Nat), (0 : Int), ())).2).1)) + ((((aJ ((bW (false, ([1] : List Nat), (-3 : Int), ())).getD (false, ([] : List Nat), (0 : Int), ())) (2 : Int) false).getD (([] : List Nat), (0 : Int), ())).2).1)) + ((((bB (aP ⟨#[48, 46, 49, 50, 53]⟩)).getD ((false, ([] : List Nat), (0 : Int), ()), (0 : Int), ())).2).1)) + ((((bT (aP ⟨#[48, 46, 49]⟩) (20 : Int)).getD (((false, ([] : List Nat), (0 : Int), ()), (false, ([] : List Nat), (0 : Int), ()), ()), (0 : Int), ())).2).1)) = (0 : Int)) ∧ ((((aJ (false, ([1] : List Nat), (-3 : Int), ()) (2 : Int) false).getD (([] : List Nat), (0 : Int), ())).1) = (aP ⟨#[48, 46, 49, 50]⟩))) ∧ ((((aJ (false, ([1] : List Nat), (-3 : Int), ()) (2 : Int) true).getD (([] : List Nat), (0 : Int), ())).1) = (aP ⟨#[48, 46, 49, 51]⟩))) ∧ ((((aJ ((bW (false, ([1] : List Nat), (-3 : Int), ())).getD (false, ([] : List Nat), (0 : Int), ())) (2 : Int) false).getD (([] : List Nat), (0 : Int), ())).1) = (aP ⟨#[45, 48, 46, 49, 51]⟩))) → (((dC (((bB (aP ⟨#[48, 46, 49, 50, 53]⟩)).getD ((false, ([] : List Nat), (0 : Int), ()), (0 : Int), ())).1) (false, ([1] : List Nat), (-3 : Int), ())).isSome = true)))) (ck ((((((((((((((((aJ (false, ([1] : List Nat), (-3 : Int), ()) (2 : Int) false).getD (([] : List Nat), (0 : Int), ())).2).1) + ((((aJ (false, ([1] : List Nat), (-3 : Int), ()) (2 : Int) true).getD (([] : List Nat), (0 : Int), ())).2).1)) + ((((aJ ((bW (false, ([1] : List Nat), (-3 : Int), ())).getD (false, ([] : List Nat), (0 : Int), ())) (2 : Int) false).getD (([] : List Nat), (0 : Int), ())).2).1)) + ((((bB (aP ⟨#[48, 46, 49, 50, 53]⟩)).getD ((false, ([] : List Nat), (0 : Int), ()), (0 : Int), ())).2).1)) + ((((bT (aP ⟨#[48, 46, 49]⟩) (20 : Int)).getD (((false, ([] : List Nat), (0 : Int), ()), (false, ([] : List Nat), (0 : Int), ()), ()), (0 : Int), ())).2).1)) = (0 : Int)) ∧ ((((aJ (false, ([1] : List Nat), (-3 : Int), ()) (2 : Int) false).getD (([] : List Nat), (0 : Int), ())).1) = (aP ⟨#[48, 46, 49, 50]⟩))) ∧ ((((aJ (false, ([1] : List Nat), (-3 : Int), ()) (2 : Int) true).getD (([] : List Nat), (0 : Int), ())).1) = (aP ⟨#[48, 46, 49, 51]⟩))) ∧ ((((aJ ((bW (false, ([1] : List Nat), (-3 : Int), ())).getD (false, ([] : List Nat), (0 : Int), ())) (2 : Int) false).getD (([] : List Nat), (0 : Int), ())).1) = (aP ⟨#[45, 48, 46, 49, 51]⟩))) ∧ (((dC (((bB (aP ⟨#[48, 46, 49, 50, 53]⟩)).getD ((false, ([] : List Nat), (0 : Int), ()), (0 : Int), ())).1) (false, ([1] : List Nat), (-3 : Int), ())).getD false) = true)) ∧ (((((bB (aP ⟨#[48, 46, 49]⟩)).getD ((false, ([] : List Nat), (0 : Int), ()), (0 : Int), ())).2).1) = (6 : Int))) → (((dD ((((bT (aP ⟨#[48, 46, 49]⟩) (20 : Int)).getD (((false, ([] : List Nat), (0 : Int), ()), (false, ([] : List Nat), (0 : Int), ()), ()), (0 : Int), ())).1).1) (((((bT (aP ⟨#[48, 46, 49]⟩) (20 : Int)).getD (((false, ([] : List Nat), (0 : Int), ()), (false, ([] : List Nat), (0 : Int), ()), ()), (0 : Int), ())).1).2).1)).isSome = true)))) (ck (((((((((((((((((aJ (false, ([1] : List Nat), (-3 : Int), ()) (2 : Int) false).getD (([] : List Nat), (0 : Int), ())).2).1) + ((((aJ (false, ([1] : List Nat), (-3 : Int), ()) (2 : Int) true).getD (([] : List Nat), (0 : Int), ())).2).1)) + ((((aJ ((bW (false, ([1] : List Nat), (-3 : Int), ())).getD (false, ([] : List Nat), (0 : Int), ())) (2 : Int) false).getD (([] : List Nat), (0 : Int), ())).2).1)) + ((((bB (aP ⟨#[48, 46, 49, 50, 53]⟩)).getD ((false, ([] : List Nat), (0 : Int), ()), (0 : Int), ())).2).1)) + ((((bT (aP ⟨#[48, 46, 49]⟩) (20 : Int)).getD (((false, ([] : List Nat), (0 : Int), ()), (false, ([] : List Nat), (0 : Int), ()), ()), (0 : Int), ())).2).1)) = (0 : Int)) ∧ ((((aJ (false, ([1] : List Nat), (-3 : Int), ()) (2 : Int) false).getD (([] : List Nat), (0 : Int), ())).1) = (aP ⟨#[48, 46, 49, 50]⟩))) ∧ ((((aJ (false, ([1] : List Nat), (-3 : Int), ()) (2 : Int) true).getD (([] : List Nat), (0 : Int), ())).1) = (aP ⟨#[48, 46, 49, 51]⟩))) ∧ ((((aJ ((bW (false, ([1] : List Nat), (-3 : Int), ())).getD (false, ([] : List Nat), (0 : Int), ())) (2 : Int) false).getD (([] : List Nat), (0 : Int), ())).1) = (aP ⟨#[45, 48, 46, 49, 51]⟩))) ∧ (((dC (((bB (aP ⟨#[48, 46, 49, 50, 53]⟩)).getD ((false, ([] : List Nat), (0 : Int), ()), (0 : Int), ())).1) (false, ([1] : List Nat), (-3 : Int), ())).getD false) = true)) ∧ (((((bB (aP ⟨#[48, 46, 49]⟩)).getD ((false, ([] : List Nat), (0 : Int), ()), (0 : Int), ())).2).1) = (6 : Int))) ∧ (((dD ((((bT (aP ⟨#[48, 46, 49]⟩) (20 : Int)).getD (((false, ([] : List Nat), (0 : Int), ()), (false, ([] : List Nat), (0 : Int), ()), ()), (0 : Int), ())).1).1) (((((bT (aP ⟨#[48, 46, 49]⟩) (20 : Int)).getD (((false, ([] : List Nat), (0 : Int), ()), (false, ([] : List Nat), (0 : Int), ()), ()), (0 : Int), ())).1).2).1)).getD (0 : Int)) < (0 : Int))) → (((bQ (aP ⟨#[49, 46, 53, 101, 45, 51]⟩)).isSome = true)))) (ck ((((((((((((((((((aJ (false, ([1] : List Nat), (-3 : Int), ()) (2 : Int) false).getD (([] : List Nat), (0 : Int), ())).2).1) + ((((aJ (false, ([1] : List Nat), (-3 : Int), ()) (2 : Int) true).getD (([] : List Nat), (0 : Int), ())).2).1)) + ((((aJ ((bW (false, ([1] : List Nat), (-3 : Int), ())).getD (false, ([] : List Nat), (0 : Int), ())) (2 : Int) false).getD (([] : List Nat), (0 : Int), ())).2).1)) + ((((bB (aP ⟨#[48, 46, 49, 50, 53]⟩)).getD ((false, ([] : List Nat), (0 : Int), ()), (0 : Int), ())).2).1)) + ((((bT (aP ⟨#[48, 46, 49]⟩) (20 : Int)).getD (((false, ([] : List Nat), (0 : Int), ()), (false, ([] : List Nat), (0 : Int), ()), ()), (0 : Int), ())).2).1)) = (0 : Int)) ∧ ((((aJ (false, ([1] : List Nat), (-3 : Int), ()) (2 : Int) false).getD (([] : List Nat), (0 : Int), ())).1) = (aP ⟨#[48, 46, 49, 50]⟩))) ∧ ((((aJ (false, ([1] : List Nat), (-3 : Int), ()) (2 : Int) true).getD (([] : List Nat), (0 : Int), ())).1) = (aP ⟨#[48, 46, 49, 51]⟩))) ∧ ((((aJ ((bW (false, ([1] : List Nat), (-3 : Int), ())).getD (false, ([] : List Nat), (0 : Int), ())) (2 : Int) false).getD (([] : List Nat), (0 : Int), ())).1) = (aP ⟨#[45, 48, 46, 49, 51]⟩))) ∧ (((dC (((bB (aP ⟨#[48, 46, 49, 50, 53]⟩)).getD ((false, ([] : List Nat), (0 : Int), ()), (0 : Int), ())).1) (false, ([1] : List Nat), (-3 : Int), ())).getD false) = true)) ∧ (((((bB (aP ⟨#[48, 46, 49]⟩)).getD ((false, ([] : List Nat), (0 : Int), ()), (0 : Int), ())).2).1) = (6 : Int))) ∧ (((dD ((((bT (aP ⟨#[48, 46, 49]⟩) (20 : Int)).getD (((false, ([] : List Nat), (0 : Int), ()), (false, ([] : List Nat), (0 : Int), ()), ()), (0 : Int), ())).1).1) (((((bT (aP ⟨#[48, 46, 49]⟩) (20 : Int)).getD (((false, ([] : List Nat), (0 : Int), ()), (false, ([] : List Nat), (0 : Int), ()), ()), (0 : Int), ())).1).2).1)).getD (0 : Int)) < (0 : Int))) ∧ (((bQ (aP ⟨#[49, 46, 53, 101, 45, 51]⟩)).getD false) = true)) → (((bQ (aP ⟨#[49, 46]⟩)).isSome = true)))) (ck (((((((((((((((((((aJ (false, ([1] : List Nat), (-3 : Int), ()) (2 : Int) false).getD (([] : List Nat), (0 : Int), ())).2).1) + ((((aJ (false, ([1] : List Nat), (-3 : Int), ()) (2 : Int) true).getD (([] : List Nat), (0 : Int), ())).2).1)) + ((((aJ ((bW (false, ([1] : List Nat), (-3 : Int), ())).getD (false, ([] : List Nat), (0 : Int), ())) (2 : Int) false).getD (([] : List Nat), (0 : Int), ())).2).1)) + ((((bB (aP ⟨#[48, 46, 49, 50, 53]⟩)).getD ((false, ([] : List Nat), (0 : Int), ()), (0 : Int), ())).2).1)) + ((((bT (aP ⟨#[48, 46, 49]⟩) (20 : Int)).getD (((false, ([] : List Nat), (0 : Int), ()), (false, ([] : List Nat), (0 : Int), ()), ()), (0 : Int), ())).2).1)) = (0 : Int)) ∧ ((((aJ (false, ([1] : List Nat), (-3 : Int), ()) (2 : Int) false).getD (([] : List Nat), (0 : Int), ())).1) = (aP ⟨#[48, 46, 49, 50]⟩))) ∧ ((((aJ (false, ([1] : List Nat), (-3 : Int), ()) (2 : Int) true).getD (([] : List Nat), (0 : Int), ())).1) = (aP ⟨#[48, 46, 49, 51]⟩))) ∧ ((((aJ ((bW (false, ([1] : List Nat), (-3 : Int), ())).getD (false, ([] : List Nat), (0 : Int), ())) (2 : Int) false).getD (([] : List Nat), (0 : Int), ())).1) = (aP ⟨#[45, 48, 46, 49, 51]⟩))) ∧ (((dC (((bB (aP ⟨#[48, 46, 49, 50, 53]⟩)).getD ((false, ([] : List Nat), (0 : Int), ()), (0 : Int), ())).1) (false, ([1] : List Nat), (-3 : Int), ())).getD false) = true)) ∧ (((((bB (aP ⟨#[48, 46, 49]⟩)).getD ((false, ([] : List Nat), (0 : Int), ()), (0 : Int), ())).2).1) = (6 : Int))) ∧ (((dD ((((bT (aP ⟨#[48, 46, 49]⟩) (20 : Int)).getD (((false, ([] : List Nat), (0 : Int), ()), (false, ([] : List Nat), (0 : Int), ()), ()), (0 : Int), ())).1).1) (((((bT (aP ⟨#[48, 46, 49]⟩) (20 : Int)).getD (((false, ([] : List Nat), (0 : Int), ()), (false, ([] : List Nat), (0 : Int), ()), ()), (0 : Int), ())).1).2).1)).getD (0 : Int)) < (0 : Int))) ∧ (((bQ (aP ⟨#[49, 46, 53, 101, 45, 51]⟩)).getD false) = true)) ∧ (¬ (((bQ (aP ⟨#[49, 46]⟩)).getD false) = true))) → (((bQ (aP ⟨#[46, 53]⟩)).isSome = true)))) (ck ((((((((((((((((((((aJ (false, ([1] : List Nat), (-3 : Int), ()) (2 : Int) false).getD (([] : List Nat), (0 : Int), ())).2).1) + ((((aJ (false, ([1] : List Nat), (-3 : Int), ()) (2 : Int) true).getD (([] : List Nat), (0 : Int), ())).2).1)) + ((((aJ ((bW (false, ([1] : List Nat), (-3 : Int), ())).getD (false, ([] : List Nat), (0 : Int), ())) (2 : Int) false).getD (([] : List Nat), (0 : Int), ())).2).1)) + ((((bB (aP ⟨#[48, 46, 49, 50, 53]⟩)).getD ((false, ([] : List Nat), (0 : Int), ()), (0 : Int), ())).2).1)) + ((((bT (aP ⟨#[48, 46, 49]⟩) (20 : Int)).getD (((false, ([] : List Nat), (0 : Int), ()), (false, ([] : List Nat), (0 : Int), ()), ()), (0 : Int), ())).2).1)) = (0 : Int)) ∧ ((((aJ (false, ([1] : List Nat), (-3 : Int), ()) (2 : Int) false).getD (([] : List Nat), (0 : Int), ())).1) = (aP ⟨#[48, 46, 49, 50]⟩))) ∧ ((((aJ (false, ([1] : List Nat), (-3 : Int), ()) (2 : Int) true).getD (([] : List Nat), (0 : Int), ())).1) = (aP ⟨#[48, 46, 49, 51]⟩))) ∧ ((((aJ ((bW (false, ([1] : List Nat), (-3 : Int), ())).getD (false, ([] : List Nat), (0 : Int), ())) (2 : Int) false).getD (([] : List Nat), (0 : Int), ())).1) = (aP ⟨#[45, 48, 46, 49, 51]⟩))) ∧ (((dC (((bB (aP ⟨#[48, 46, 49, 50, 53]⟩)).getD ((false, ([] : List Nat), (0 : Int), ()), (0 : Int), ())).1) (false, ([1] : List Nat), (-3 : Int), ())).getD false) = true)) ∧ (((((bB (aP ⟨#[48, 46, 49]⟩)).getD ((false, ([] : List Nat), (0 : Int), ()), (0 : Int), ())).2).1) = (6 : Int))) ∧ (((dD ((((bT (aP ⟨#[48, 46, 49]⟩) (20 : Int)).getD (((false, ([] : List Nat), (0 : Int), ()), (false, ([] : List Nat), (0 : Int), ()), ()), (0 : Int), ())).1).1) (((((bT (aP ⟨#[48, 46, 49]⟩) (20 : Int)).getD (((false, ([] : List Nat), (0 : Int), ()), (false, ([] : List Nat), (0 : Int), ()), ()), (0 : Int), ())).1).2).1)).getD (0 : Int)) < (0 : Int))) ∧ (((bQ (aP ⟨#[49, 46, 53, 101, 45, 51]⟩)).getD false) = true)) ∧ (¬ (((bQ (aP ⟨#[49, 46]⟩)).getD false) = true))) ∧ (¬ (((bQ (aP ⟨#[46, 53]⟩)).getD false) = true))) → (((bQ (aP ⟨#[49, 101, 49, 48, 49]⟩)).isSome = true)))) (ck (((((((((((((((((((((aJ (false, ([1] : List Nat), (-3 : Int), ()) (2 : Int) false).getD (([] : List Nat), (0 : Int), ())).2).1) + ((((aJ (false, ([1] : List Nat), (-3 : Int), ()) (2 : Int) true).getD (([] : List Nat), (0 : Int), ())).2).1)) + ((((aJ ((bW (false, ([1] : List Nat), (-3 : Int), ())).getD (false, ([] : List Nat), (0 : Int), ())) (2 : Int) false).getD (([] : List Nat), (0 : Int), ())).2).1)) + ((((bB (aP ⟨#[48, 46, 49, 50, 53]⟩)).getD ((false, ([] : List Nat), (0 : Int), ()), (0 : Int), ())).2).1)) + ((((bT (aP ⟨#[48, 46, 49]⟩) (20 : Int)).getD (((false, ([] : List Nat), (0 : Int), ()), (false, ([] : List Nat), (0 : Int), ()), ()), (0 : Int), ())).2).1)) = (0 : Int)) ∧ ((((aJ (false, ([1] : List Nat), (-3 : Int), ()) (2 : Int) false).getD (([] : List Nat), (0 : Int), ())).1) = (aP ⟨#[48, 46, 49, 50]⟩))) ∧ ((((aJ (false, ([1] : List Nat), (-3 : Int), ()) (2 : Int) true).getD (([] : List Nat), (0 : Int), ())).1) = (aP ⟨#[48, 46, 49, 51]⟩))) ∧ ((((aJ ((bW (false, ([1] : List Nat), (-3 : Int), ())).getD (false, ([] : List Nat), (0 : Int), ())) (2 : Int) false).getD (([] : List Nat), (0 : Int), ())).1) = (aP ⟨#[45, 48, 46, 49, 51]⟩))) ∧ (((dC (((bB (aP ⟨#[48, 46, 49, 50, 53]⟩)).getD ((false, ([] : List Nat), (0 : Int), ()), (0 : Int), ())).1) (false, ([1] : List Nat), (-3 : Int), ())).getD false) = true)) ∧ (((((bB (aP ⟨#[48, 46, 49]⟩)).getD ((false, ([] : List Nat), (0 : Int), ()), (0 : Int), ())).2).1) = (6 : Int))) ∧ (((dD ((((bT (aP ⟨#[48, 46, 49]⟩) (20 : Int)).getD (((false, ([] : List Nat), (0 : Int), ()), (false, ([] : List Nat), (0 : Int), ()), ()), (0 : Int), ())).1).1) (((((bT (aP ⟨#[48, 46, 49]⟩) (20 : Int)).getD (((false, ([] : List Nat), (0 : Int), ()), (false, ([] : List Nat), (0 : Int), ()), ()), (0 : Int), ())).1).2).1)).getD (0 : Int)) < (0 : Int))) ∧ (((bQ (aP ⟨#[49, 46, 53, 101, 45, 51]⟩)).getD false) = true)) ∧ (¬ (((bQ (aP ⟨#[49, 46]⟩)).getD false) = true))) ∧ (¬ (((bQ (aP ⟨#[46, 53]⟩)).getD false) = true))) ∧ (¬ (((bQ (aP ⟨#[49, 101, 49, 48, 49]⟩)).getD false) = true))) → (((bQ (aP ⟨#[]⟩)).isSome = true)))) (some ((((((((((((decide (((((((((aJ (false, ([1] : List Nat), (-3 : Int), ()) (2 : Int) false).getD (([] : List Nat), (0 : Int), ())).2).1) + ((((aJ (false, ([1] : List Nat), (-3 : Int), ()) (2 : Int) true).getD (([] : List Nat), (0 : Int), ())).2).1)) + ((((aJ ((bW (false, ([1] : List Nat), (-3 : Int), ())).getD (false, ([] : List Nat), (0 : Int), ())) (2 : Int) false).getD (([] : List Nat), (0 : Int), ())).2).1)) + ((((bB (aP ⟨#[48, 46, 49, 50, 53]⟩)).getD ((false, ([] : List Nat), (0 : Int), ()), (0 : Int), ())).2).1)) + ((((bT (aP ⟨#[48, 46, 49]⟩) (20 : Int)).getD (((false, ([] : List Nat), (0 : Int), ()), (false, ([] : List Nat), (0 : Int), ()), ()), (0 : Int), ())).2).1)) = (0 : Int))) && (decide ((((aJ (false, ([1] : List Nat), (-3 : Int), ()) (2 : Int) false).getD (([] : List Nat), (0 : Int), ())).1) = (aP ⟨#[48, 46, 49, 50]⟩)))) && (decide ((((aJ (false, ([1] : List Nat), (-3 : Int), ()) (2 : Int) true).getD (([] : List Nat), (0 : Int), ())).1) = (aP ⟨#[48, 46, 49, 51]⟩)))) && (decide ((((aJ ((bW (false, ([1] : List Nat), (-3 : Int), ())).getD (false, ([] : List Nat), (0 : Int), ())) (2 : Int) false).getD (([] : List Nat), (0 : Int), ())).1) = (aP ⟨#[45, 48, 46, 49, 51]⟩)))) && ((dC (((bB (aP ⟨#[48, 46, 49, 50, 53]⟩)).getD ((false, ([] : List Nat), (0 : Int), ()), (0 : Int), ())).1) (false, ([1] : List Nat), (-3 : Int), ())).getD false)) && (decide (((((bB (aP ⟨#[48, 46, 49]⟩)).getD ((false, ([] : List Nat), (0 : Int), ()), (0 : Int), ())).2).1) = (6 : Int)))) && (decide (((dD ((((bT (aP ⟨#[48, 46, 49]⟩) (20 : Int)).getD (((false, ([] : List Nat), (0 : Int), ()), (false, ([] : List Nat), (0 : Int), ()), ()), (0 : Int), ())).1).1) (((((bT (aP ⟨#[48, 46, 49]⟩) (20 : Int)).getD (((false, ([] : List Nat), (0 : Int), ()), (false, ([] : List Nat), (0 : Int), ()), ()), (0 : Int), ())).1).2).1)).getD (0 : Int)) < (0 : Int)))) && ((bQ (aP ⟨#[49, 46, 53, 101, 45, 51]⟩)).getD false)) && (!((bQ (aP ⟨#[49, 46]⟩)).getD false))) && (!((bQ (aP ⟨#[46, 53]⟩)).getD false))) && (!((bQ (aP ⟨#[49, 101, 49, 48, 49]⟩)).getD false))) && (!((bQ (aP ⟨#[]⟩)).getD false)))))))))))))))))))))
def aCy : PlR := ⟨[(0, .A []), (1, .B [1]), (2, .A [1, 2, 3]), (3, .A [1, 2, 3, 4, 5]), (4, .A [1, 2, 3, 4, 5, 6, 7]), (5, .B [1, 2, 3, 4, 5, 6, 7, 8, 9]), (6, .B [1, 2, 3, 4, 5, 6, 7, 8, 9, 11]), (7, .B [1, 2, 3, 4, 5, 6, 7, 8, 9, 11, 12, 13]), (8, .A [0])], []⟩
def aEc : Ty := .unit
noncomputable def sL : aL := mSpec aEc (.one .bool) (fun x => kM )
noncomputable def kN : List (FuncId × aL) := [(19, pZ), (21, mR), (23, uT), (27, oB), (31, nX), (32, mU), (52, uS)]
theorem aLn : bV Tryz.prog GL kN := .cons aGD (by kernel_rfl) (.cons aCs (by kernel_rfl) (.cons aLa (by kernel_rfl) (.cons aD9 (by kernel_rfl) (.cons aDW (by kernel_rfl) (.cons aCx (by kernel_rfl) (.cons aK5 (by kernel_rfl) (.nil)))))))
theorem aGV : gam kN 19 = some pZ := rfl
theorem aGW : gam kN 21 = some mR := rfl
theorem aGX : gam kN 23 = some uT := rfl
theorem aGY : gam kN 27 = some oB := rfl
theorem aGZ : gam kN 31 = some nX := rfl
theorem aG0 : gam kN 32 = some mU := rfl
theorem aG1 : gam kN 52 = some uS := rfl
attribute [go_sem] aEc aCy aGV aGW aGX aGY aGZ aG0 aG1
set_option maxHeartbeats 4000000 in
theorem aJP : FOK Tryz.prog GL 18 sL := by
 refine cB (bL aLn) mix Tryz.func18 rfl (by kernel_rfl) (by decide) aCy fun w0 S x Θ hw h hF => ?_
 simp only [cA, go_sem]
 replace h : sat (kM) _ := h
 unfold kM at h
 obtain ⟨g0, h⟩ := aK h
 repeat (refine ⟨by first | with_reducible assumption | omega | (intros; first | assumption | omega) | (simp only [go_sem] at *; first | assumption | omega) | decide, ?_⟩)
 obtain ⟨g0, h⟩ := aK h
 repeat (refine ⟨by first | with_reducible assumption | omega | (intros; first | assumption | omega) | (simp only [go_sem] at *; first | assumption | omega) | decide, ?_⟩)
 obtain ⟨g0, h⟩ := aK h
 obtain ⟨g1, h⟩ := aK h
 repeat (refine ⟨by first | with_reducible assumption | omega | (intros; first | assumption | omega) | (simp only [go_sem] at *; first | assumption | omega) | decide, ?_⟩)
 obtain ⟨g0, h⟩ := aK h
 repeat (refine ⟨by first | with_reducible assumption | omega | (intros; first | assumption | omega) | (simp only [go_sem] at *; first | assumption | omega) | decide, ?_⟩)
 obtain ⟨g0, h⟩ := aK h
 repeat (refine ⟨by first | with_reducible assumption | omega | (intros; first | assumption | omega) | (simp only [go_sem] at *; first | assumption | omega) | decide, ?_⟩)
 obtain ⟨g0, h⟩ := aK h
 repeat (refine ⟨by first | with_reducible assumption | omega | (intros; first | assumption | omega) | (simp only [go_sem] at *; first | assumption | omega) | decide, ?_⟩)
 obtain ⟨g0, h⟩ := aK h
 obtain ⟨g1, h⟩ := aK h
 obtain ⟨g2, h⟩ := aK h
 obtain ⟨g3, h⟩ := aK h
 obtain ⟨g4, h⟩ := aK h
 obtain ⟨g5, h⟩ := aK h
 obtain ⟨g6, h⟩ := aK h
 obtain ⟨g7, h⟩ := aK h
 obtain ⟨g8, h⟩ := aK h
 obtain ⟨g9, h⟩ := aK h
 obtain ⟨g10, h⟩ := aK h
 try simp only [I64, I32] at g0
 try simp only [I64, I32] at g1
 try simp only [I64, I32] at g2
 try simp only [I64, I32] at g3
 repeat (refine ⟨by first | with_reducible assumption | omega | (intros; first | assumption | omega) | (simp only [go_sem] at *; first | assumption | omega) | (intro q0; (try have e4 := g4 (by first | exact q0 | omega | (simpa using q0))); (try have e5 := g5 (by first | exact q0 | omega | (simpa using q0))); (try have e6 := g6 (by first | exact q0 | omega | (simpa using q0))); (try have e7 := g7 (by first | exact q0 | omega | (simpa using q0))); (try have e8 := g8 (by first | exact q0 | omega | (simpa using q0))); (try have e9 := g9 (by first | exact q0 | omega | (simpa using q0))); (try have e10 := g10 (by first | exact q0 | omega | (simpa using q0))); first | assumption | omega) | decide, ?_⟩)
 exact aS hF [.tmp 0] rfl rfl rfl (aD h) (by simp only [aY, go_sem])
attribute [go_sem] sL
end Nu
end Go.Proofs
namespace Go.Proofs
open Go.Vc
set_option maxRecDepth 20000
namespace Nu
def vR (u : Nat) : List Nat := dgs (Lib.nDigits u) u
theorem aSN {u : Nat} (h : u < 10) : vR u = [48 + u] := by
 unfold vR
 rw [Lib.nDigits_small h]
 simp [dgs, Nat.mod_eq_of_lt h]
theorem aMt {u : Nat} (h : ¬ u < 10) (h2 : u < 100) : vR u = [48 + u / 10, 48 + u % 10] := by
 unfold vR
 rw [Lib.nDigits_big h, Lib.nDigits_small (by omega)]
 have : u / 10 % 10 = u / 10 := Nat.mod_eq_of_lt (by omega)
 simp [dgs, List.range_succ, this]
theorem aOr : ∀ u : Fin 100, (if u.val < 10 then List.drop u.val (List.take (u.val + 1) (aP tY)) else List.drop (u.val * 2) (List.take (u.val * 2 + 2) (aP tX))) = if u.val < 10 then [48 + u.val] else [48 + u.val / 10, 48 + u.val % 10] := by
 decide +kernel
theorem aOs : (aP tY).length = 36 ∧ (aP tX).length = 200 := by decide +kernel
theorem aQm (u : Nat) (h : u < 100) : fI (u : Int) = some (vR u) := by
 have ht := aOr ⟨u, h⟩
 obtain ⟨l1, l2⟩ := aOs
 simp only at ht
 unfold fI
 by_cases h1 : u < 10
 ·rw [if_pos h1, if_pos h1] at ht
  rw [if_pos (by omega), l1, aSN h1]
  refine aB (by constructor <;> omega) (aB (by constructor <;> omega) ?_)
  rw [Int.toNat_natCast, show ((u : Int) + 1).toNat = u + 1 from by omega, ht]
 ·rw [if_neg h1, if_neg h1] at ht
  rw [if_neg (by omega), l2, aMt h1 h]
  refine aB (by constructor <;> omega) (aB (by constructor <;> omega) (aB (by constructor <;> omega) (aB (by constructor <;> omega) ?_)))
  rw [show ((u : Int) * 2).toNat = u * 2 from by omega, show ((u : Int) * 2 + 2).toNat = u * 2 + 2 from by omega, ht]
theorem aRF : ∀ k : Fin 20, ([1, 10, 100, 1000, 10000, 100000, 1000000, 10000000, 100000000, 1000000000, 10000000000, 100000000000, 1000000000000, 10000000000000, 100000000000000, 1000000000000000, 10000000000000000, 100000000000000000, 1000000000000000000, 10000000000000000000] : List Nat).getD k.val 0 = 10 ^ k.val := by decide +kernel
theorem aOt {u : Nat} (h1 : u ≠ 0) (h : u < 18446744073709551616) : Lib.bitLen u = bl u := by
 obtain ⟨a, b, c⟩ := Lib.bitLenAux_bounds 64 u h (by omega)
 unfold Lib.bitLen
 have h2 := rN c
 have h3 := aFN b
 omega
theorem aH3 (u : Nat) (h1 : u ≠ 0) (h : u < 18446744073709551616) : bM u = some (Lib.nDigits u : Int) := by
 obtain ⟨k1, k2⟩ := Lib.numDigits_eq u (by omega) h
 rw [aOt h1 h] at k1 k2
 have hb := aOb h
 have hl : Int.fdiv ((bl u : Int) * 78913) (2 ^ 18) = (Lib.l10 (bl u) : Int) := by
  unfold Lib.l10
  rw [Int.fdiv_eq_ediv_of_nonneg _ (by decide)]
  omega
 have hlog : bP (cK u) = some (Lib.l10 (bl u) : Int) := by
  unfold bP cK
  refine aB (by constructor <;> omega) ?_
  rw [hl]
 have hp : p10.getD (Lib.l10 (bl u)) 0 = 10 ^ Lib.l10 (bl u) := by
  rw [aPJ]; exact aRF ⟨Lib.l10 (bl u), by omega⟩
 have hbool : ∀ b : Bool, dK b = some (if b = true then 1 else 0) := fun b => by cases b <;> rfl
 unfold bM
 simp only [hlog, Option.getD_some, Int.toNat_natCast, hp, hbool]
 refine aB rfl (aB (by constructor <;> omega) (aB rfl ?_))
 by_cases hh : 10 ^ Lib.l10 (bl u) ≤ u
 ·rw [if_pos hh] at k1
  simp only [hh, decide_true, if_true]
  refine aB (by constructor <;> omega) ?_
  rw [show (Lib.l10 (bl u) : Int) + 1 = (Lib.nDigits u : Int) from by omega]
 ·rw [if_neg hh] at k1
  simp only [hh, decide_false, Bool.false_eq_true, if_false]
  refine aB (by constructor <;> omega) ?_
  rw [show (Lib.l10 (bl u) : Int) + 0 = (Lib.nDigits u : Int) from by omega]
theorem aH4 (u : Nat) (h : u < 18446744073709551616) : cS u 10 = some (vR u) := by
 have key : dZ u 10 = some (vR u) := by
  unfold dZ
  rw [if_pos rfl]
  by_cases h1 : u < 100
  ·have hw : IntKind.i64.wrap ((u : Nat) : Int) = (u : Int) := by
    simp only [IntKind.wrap, IntKind.signed, IntKind.bits]; simp; omega
   rw [if_pos h1, hw]
   simp only [aQm u h1, Option.getD_some]
   exact aB rfl rfl
  ·rw [if_neg h1]
   have hn := aH3 u (by omega) h
   obtain ⟨k1, k2⟩ := Lib.numDigits_eq u (by omega) h
   have hle : Lib.nDigits u ≤ 20 := by split at k1 <;> omega
   have hpos := Lib.nDigits_pos u
   have hlt := Lib.lt_pow_nDigits u
   simp only [hn, Option.getD_some]
   have e : ((Lib.nDigits u : Int) - 0).toNat = Lib.nDigits u := by omega
   rw [e]
   have hf : dH 0 (Lib.nDigits u) u (List.replicate 24 0) = some (vR u ++ (List.replicate 24 0).drop (0 + Lib.nDigits u)) := by
    unfold dH
    refine aB (by omega) (aB hlt ?_)
    rfl
   refine aB rfl (aB (by constructor <;> omega) (bZ hf (aB (by constructor <;> omega) (aB (by omega) ?_))))
   rw [List.drop_zero, List.take_append_of_le_length (by unfold vR; rw [nI]; exact Nat.le_refl _), List.take_of_length_le (by unfold vR; rw [nI]; exact Nat.le_refl _)]
 unfold cS
 rw [key]
 exact aB rfl rfl
end Nu
end Go.Proofs
namespace Go.Proofs
open Go.Vc
set_option maxRecDepth 20000
namespace Nu
theorem aSO : bI (aP qC) [48] = some false := by decide +kernel
theorem aSP : bI (aP qB) [48] = some false := by decide +kernel
theorem aSQ : bI (aP nN) [48] = some true := by decide +kernel
theorem aTo : aP nN = List.replicate 64 48 := by decide +kernel
theorem aIG (c : Nat) (h : c ≤ 64) : aN [48] (c : Int) = some (List.replicate c 48) := by
 have hw : IntKind.i64.wrap ((c : Nat) : Int) = (c : Int) := by
  simp only [IntKind.wrap, IntKind.signed, IntKind.bits]; simp; omega
 have hm : bH (((([48] : List Nat).length : Nat) : Int) % (18446744073709551616 : Int)).toNat ((c : Int) % (18446744073709551616 : Int)).toNat = some (0, c, ()) := by
  have e1 : (((([48] : List Nat).length : Nat) : Int) % (18446744073709551616 : Int)).toNat = 1 := by decide
  have e2 : ((c : Int) % (18446744073709551616 : Int)).toNat = c := by omega
  rw [e1, e2]
  unfold bH bF
  simp only
  rw [Nat.one_mul, Nat.div_eq_of_lt (by omega), Nat.mod_eq_of_lt (by omega)]
 unfold aN
 by_cases h0 : c = 0
 ·subst h0; rfl
 by_cases h1 : c = 1
 ·subst h1; rfl
 rw [if_neg (by omega), if_neg (by omega), if_neg (by omega)]
 simp only [hm, Option.getD_some]
 refine aB rfl ?_
 rw [if_neg (by omega), if_neg (by decide)]
 refine aB (by decide) ?_
 rw [if_neg (by decide), if_neg (by decide), if_pos (by decide)]
 have hd : decide ((([48] : List Nat).getD 0 0) = 48) = true := by decide
 rw [hd]
 unfold dB
 rw [if_pos rfl]
 simp only [hm, Option.getD_some, hw, aSO, aSP, aSQ]
 refine aB (fun _ => rfl) ?_
 rw [if_neg (fun hh => by cases hh.2)]
 refine aB (fun _ => rfl) ?_
 rw [if_neg (fun hh => by cases hh.2)]
 refine aB (fun _ => rfl) ?_
 rw [if_pos ⟨by omega, trivial⟩, aTo]
 refine aB (by constructor; omega; rw [List.length_replicate]; omega) ?_
 rw [Int.toNat_natCast, List.take_replicate, Nat.min_eq_left h]
theorem aE0 (a b x y : Nat) (hy : y < 10 ^ b) : dgs a x ++ dgs b y = dgs (a + b) (x * 10 ^ b + y) := by
 apply List.ext_getElem
 ·simp [dgs]
 ·intro i h1 h2
  have hi : i < a + b := by simpa [dgs] using h2
  by_cases hlt : i < a
  ·rw [List.getElem_append_left (by simpa [dgs] using hlt)]
   simp only [dgs, List.getElem_map, List.getElem_range]
   rw [show a + b - 1 - i = b + (a - 1 - i) from by omega, Nat.pow_add, ← Nat.div_div_eq_div_mul, Nat.mul_comm x, Nat.mul_add_div (Nat.pow_pos (by decide)), Nat.div_eq_of_lt hy, Nat.add_zero]
  ·rw [List.getElem_append_right (by simp [dgs]; omega)]
   simp only [dgs, List.length_map, List.length_range, List.getElem_map, List.getElem_range]
   have e1 : a + b - 1 - i = b - 1 - (i - a) := by omega
   rw [e1]
   congr 1
   have hk : b = (b - 1 - (i - a)) + (i - a + 1) := by omega
   have e2 : x * 10 ^ b = 10 ^ (b - 1 - (i - a)) * (x * 10 ^ (i - a) * 10) := by
    conv => lhs; rw [hk]
    rw [Nat.pow_add, Nat.pow_succ, Nat.mul_left_comm, Nat.mul_assoc x]
   rw [e2, Nat.mul_add_div (Nat.pow_pos (by decide)), Nat.add_comm, Nat.add_mul_mod_self_right]
theorem aLo (n : Nat) : dgs n 0 = List.replicate n 48 := by
 apply List.ext_getElem
 ·simp [dgs]
 ·intro i h1 h2; simp [dgs]
theorem aRG {k n r : Nat} (hk : k ≤ n) (hr : r < 10 ^ k) : List.replicate (n - k) 48 ++ dgs k r = dgs n r := by
 rw [← aLo, aE0 _ _ _ _ hr, Nat.zero_mul, Nat.zero_add]
 congr 1; omega
theorem vA (u : Nat) (h0 : u ≠ 0) : 10 ^ (Lib.nDigits u - 1) ≤ u := by
 induction u using Nat.strongRecOn with
 | _ u ih =>
  by_cases h : u < 10
  ·rw [Lib.nDigits_small h]; simp; omega
  ·have := ih (u / 10) (by omega) (by omega)
   have hp := Lib.nDigits_pos (u / 10)
   rw [Lib.nDigits_big h, Nat.add_sub_cancel, show Lib.nDigits (u / 10) = Lib.nDigits (u / 10) - 1 + 1 from by omega, Nat.pow_succ]
   omega
theorem aJQ {M b y : Nat} (hM : M ≠ 0) (hy : y < 10 ^ b) : Lib.nDigits (M * 10 ^ b + y) = Lib.nDigits M + b := by
 have h1 := Lib.lt_pow_nDigits M
 have h2 := Lib.nDigits_pos M
 have h3 := vA M hM
 have h4 := Nat.mul_le_mul_right (10 ^ b) h3
 have h5 := Nat.mul_le_mul_right (10 ^ b) (show M + 1 ≤ 10 ^ Lib.nDigits M from h1)
 rw [← Nat.pow_add] at h4 h5
 rw [Nat.add_mul, Nat.one_mul] at h5
 have := Lib.nDigits_unique (Lib.nDigits M - 1 + b) (M * 10 ^ b + y) (by omega) (by rw [show Lib.nDigits M - 1 + b + 1 = Lib.nDigits M + b from by omega]; omega)
 omega
theorem aQn {M b y : Nat} (hM : M ≠ 0) (hy : y < 10 ^ b) : vR M ++ dgs b y = vR (M * 10 ^ b + y) := by
 unfold vR
 rw [aJQ hM hy, aE0 _ _ _ _ hy]
end Nu
end Go.Proofs
namespace Go.Proofs
open Go.Vc
set_option maxRecDepth 20000
namespace Nu
def cat (l : List (List Nat)) : List Nat := l.reverse.flatten
theorem aG2 (l : List (List Nat)) (s : List Nat) : cat (l ++ [s]) = s ++ cat l := by simp [cat]
theorem aOu (l : List (List Nat)) (k : Nat) : cat l = cat (l.drop k) ++ cat (l.take k) := by
 unfold cat
 rw [← List.flatten_append, ← List.reverse_append, List.take_append_drop]
theorem aJR (l : List (List Nat)) (k : Nat) : (cat (l.take k)).length ≤ (cat l).length := by
 rw [aOu l k, List.length_append]; omega
theorem aRH (l : List (List Nat)) (h1 : l.length ≤ 1000000000) (h2 : (cat l).length ≤ 1000000000) : lH l = some (cat l) := by
 unfold lH
 refine bZ (kX (step := fun d : (List Nat) × Int => iO l d.1 d.2) (I := fun d => 0 ≤ d.2 ∧ d.2 ≤ l.length ∧ d.1 = cat (l.take d.2.toNat)) (fun d => ((l.length : Int) - d.2).toNat) (fun _ => cat l) ?_ (aP ⟨#[]⟩, 0) ⟨by simp, by simp, rfl⟩) rfl
 rintro ⟨out, i⟩ ⟨i0, i1, i2⟩
 have i0 : 0 ≤ i := i0
 have i1 : i ≤ l.length := i1
 have i2 : out = cat (l.take i.toNat) := i2
 show (∃ d', iO l out i = _ ∧ _) ∨ iO l out i = _
 unfold iO
 by_cases hi : i < l.length
 ·left
  have hk : i.toNat < l.length := by omega
  have ht : cat (l.take (i + 1).toNat) = l.getD i.toNat [] ++ out := by
   rw [show (i + 1).toNat = i.toNat + 1 from by omega, List.take_succ_eq_append_getElem hk, aG2, i2, List.getD_eq_getElem?_getD, List.getElem?_eq_getElem hk]; rfl
  have hlen := aJR l (i + 1).toNat
  rw [ht, List.length_append] at hlen
  refine ⟨(cat (l.take (i + 1).toNat), i + 1), ?_, ⟨by simp only; omega, by simp only; omega, rfl⟩, by simp only; omega, rfl⟩
  rw [if_pos hi]
  refine aB (by constructor <;> omega) (aB (by omega) (aB (by constructor <;> omega) ?_))
  rw [ht]
 ·right
  rw [if_neg hi, i2, List.take_of_length_le (by omega)]
def txt (n : Nat) : List Nat := if n = 0 then [] else vR n
structure TxI (n : Nat) (m : List Nat) (l : List (List Nat)) (M rest : Nat) : Prop where
 m0 : m = lb M
 sum : n = M * 10 ^ (18 * l.length) + rest
 lt : rest < 10 ^ (18 * l.length)
 str : cat l = dgs (18 * l.length) rest
 pos : M ≠ 0 ∨ l.length = 0
theorem aRI {n M rest : Nat} {m : List Nat} {l : List (List Nat)} (h : TxI n m l M rest) : 18 * l.length ≤ bl n := by
 rcases h.pos with hp | hp
 ·rcases Nat.eq_zero_or_pos l.length with h0 | h0
  ·omega
  ·have h1 : 2 ^ (18 * l.length) ≤ 10 ^ (18 * l.length) := Nat.pow_le_pow_left (by decide) _
   have h2 : 10 ^ (18 * l.length) ≤ M * 10 ^ (18 * l.length) := Nat.le_mul_of_pos_left _ (by omega)
   have h3 : 2 ^ (18 * l.length) ≤ n := by rw [h.sum]; omega
   have := aFN h3
   omega
 ·omega
theorem q18 (M : Nat) : bC (lb M) [1000000000000000000] = (lb (M / 1000000000000000000), lb (M % 1000000000000000000), ()) := by
 unfold bC
 rw [eM]
 rfl
theorem aQo {n M P T rest : Nat} (h : n = M * T + rest) : n = M / P * (P * T) + (M % P * T + rest) := by
 have e := Nat.div_add_mod M P
 rw [h, ← Nat.add_assoc]
 congr 1
 conv => lhs; rw [← e]
 rw [Nat.add_mul, Nat.mul_comm P, Nat.mul_assoc]
theorem aRJ {r P T rest : Nat} (h : r < P) (h2 : rest < T) : r * T + rest < P * T := by
 have h1 := Nat.mul_le_mul_right T (show r + 1 ≤ P from h)
 rw [Nat.add_mul, Nat.one_mul] at h1
 omega
theorem p18 : (10 : Nat) ^ 18 = 1000000000000000000 := by decide
theorem aRK {n M rest : Nat} {m : List Nat} {l : List (List Nat)} (hn : bl n ≤ 1000000) (h : TxI n m l M rest) :
  (∃ m' l' M' rest', fW l m (txt (M % 1000000000000000000)) = some (.inl (m', l')) ∧ TxI n m' l' M' rest' ∧ M' < M) ∨
   ∃ l', fW l m (txt (M % 1000000000000000000)) = some (.inr l') ∧ cat l' = txt n ∧ l'.length ≤ 1000000 := by
 have hl := aRI h
 have hr : M % 1000000000000000000 < 10 ^ 18 := Nat.mod_lt _ (by decide)
 have e := Nat.div_add_mod M 1000000000000000000
 have hsl : (txt (M % 1000000000000000000)).length ≤ 18 := by
  unfold txt
  split
  ·simp
  ·rename_i h0
   unfold vR
   rw [nI]
   have h1 := vA _ h0
   rcases Nat.lt_or_ge (Lib.nDigits (M % 1000000000000000000)) 19 with hh | hh
   ·omega
   ·have h2 : 10 ^ 18 ≤ 10 ^ (Lib.nDigits (M % 1000000000000000000) - 1) := Nat.pow_le_pow_right (by decide) (by omega)
    omega
 unfold fW
 rw [h.m0, q18]
 by_cases hq : M / 1000000000000000000 = 0
 ·right
  refine ⟨l ++ [txt (M % 1000000000000000000)], ?_, ?_, by rw [List.length_append]; simp; omega⟩
  ·refine aB (by omega) ?_
   rw [if_pos (by simp only; rw [hq, fR]; rfl)]
  ·have hM : M % 1000000000000000000 = M := by omega
   rw [aG2, hM, h.str]
   rcases Nat.eq_zero_or_pos M with h0 | h0
   ·subst h0
    rcases h.pos with hp | hp
    ·exact absurd rfl hp
    ·have hs := h.sum
     have hlt := h.lt
     rw [hp] at hlt hs ⊢
     have : rest = 0 := by simpa using hlt
     subst this
     simp only [Nat.zero_mul, Nat.add_zero] at hs
     subst hs
     rfl
   ·have hn0 : n ≠ 0 := by
     rw [h.sum]
     have := Nat.mul_pos h0 (Nat.pow_pos (n := 18 * l.length) (show 0 < 10 by decide))
     omega
    unfold txt
    rw [if_neg (by omega), if_neg hn0, aQn (by omega) h.lt, ← h.sum]
 ·left
  have hpad : List.replicate (18 - (txt (M % 1000000000000000000)).length) 48 ++ txt (M % 1000000000000000000) = dgs 18 (M % 1000000000000000000) := by
   unfold txt at hsl ⊢
   split
   ·rename_i h0; rw [h0, aLo]; simp
   ·rename_i h0
    rw [if_neg h0] at hsl
    unfold vR at hsl ⊢
    rw [nI] at hsl ⊢
    exact aRG hsl (Lib.lt_pow_nDigits _)
  have hrep : aN (aP ⟨#[48]⟩) (18 - ((txt (M % 1000000000000000000)).length : Int)) = some (List.replicate (18 - (txt (M % 1000000000000000000)).length) 48) := by
   have := aIG (18 - (txt (M % 1000000000000000000)).length) (by omega)
   rw [show ((18 - (txt (M % 1000000000000000000)).length : Nat) : Int) = 18 - ((txt (M % 1000000000000000000)).length : Int) from by omega] at this
   exact this
  have hset : (l ++ [txt (M % 1000000000000000000)]).set (((l ++ [txt (M % 1000000000000000000)]).length : Int) - 1).toNat (List.replicate (18 - (txt (M % 1000000000000000000)).length) 48 ++ txt (M % 1000000000000000000)) = l ++ [dgs 18 (M % 1000000000000000000)] := by
   rw [hpad, List.length_append, List.length_singleton, show (((l.length + 1 : Nat) : Int) - 1).toNat = l.length from by omega]
   simp
  refine ⟨lb (M / 1000000000000000000), l ++ [dgs 18 (M % 1000000000000000000)], M / 1000000000000000000, M % 1000000000000000000 * 10 ^ (18 * l.length) + rest, ?_, ?_, Nat.div_lt_self (by omega) (by decide)⟩
  ·have hne := List.length_pos_iff.2 (fun e => hq (tK.1 e))
   have hll : (l ++ [txt (M % 1000000000000000000)]).length = l.length + 1 := by simp
   refine aB (by omega) ?_
   rw [if_neg (by simp only; omega)]
   simp only [hrep, Option.getD_some]
   refine aB (by constructor <;> omega) (aB (by constructor <;> omega) (aB rfl (aB (by rw [List.length_replicate]; omega) (aB (by constructor <;> omega) ?_))))
   rw [hset]
  ·have hl1 : (l ++ [dgs 18 (M % 1000000000000000000)]).length = l.length + 1 := by simp
   have hp : 10 ^ (18 * (l.length + 1)) = 1000000000000000000 * 10 ^ (18 * l.length) := by rw [← p18, ← Nat.pow_add]; congr 1; omega
   refine ⟨rfl, ?_, ?_, ?_, .inl hq⟩
   ·rw [hl1, hp]
    have := aQo (P := 1000000000000000000) (T := 10 ^ (18 * l.length)) h.sum
    exact this
   ·rw [hl1, hp]; exact aRJ (Nat.mod_lt _ (by decide)) h.lt
   ·have := aE0 18 (18 * l.length) (M % 1000000000000000000) rest h.lt
    rw [hl1, aG2, h.str, this, show 18 + 18 * l.length = 18 * (l.length + 1) from by omega]
end Nu
end Go.Proofs
namespace Go.Proofs
open Go.Vc
set_option maxRecDepth 20000
namespace Nu
theorem aQp {x : Nat} (h : x < 18446744073709551616) : (lb x).getD 0 0 = x := by
 rw [kR (wC x), eM, Nat.pow_zero, Nat.div_one, Nat.mod_eq_of_lt h]
theorem aNA : Nrm [1000000000000000000] ∧ nv [1000000000000000000] ≠ 0 := by decide
theorem aRL {n M rest : Nat} {m : List Nat} {l : List (List Nat)} (hm : m.length ≤ 100000) (h : TxI n m l M rest) : hO m l = fW l m (txt (M % 1000000000000000000)) := by
 have hr : M % 1000000000000000000 < 1000000000000000000 := Nat.mod_lt _ (by decide)
 have hp : mP m [1000000000000000000] := ⟨by rw [h.m0]; exact rJ _, aNA.1, aNA.2, by omega⟩
 unfold hO
 refine aB hp ?_
 have hq : (bC m [1000000000000000000]).2.1 = lb (M % 1000000000000000000) := by rw [h.m0, q18]
 rw [hq]
 by_cases h0 : M % 1000000000000000000 = 0
 ·have ht : txt (M % 1000000000000000000) = aP ⟨#[]⟩ := by unfold txt; rw [if_pos h0]; rfl
  rw [if_neg (by rw [h0, fR]; simp), ht]
 ·have ht : txt (M % 1000000000000000000) = vR (M % 1000000000000000000) := by unfold txt; rw [if_neg h0]
  have hl := List.length_pos_iff.2 (fun e => h0 (tK.1 e))
  have hf := aH4 (M % 1000000000000000000) (by omega)
  rw [if_pos (by omega), aQp (by omega), ht]
  simp only [hf, Option.getD_some]
  exact aB (by omega) (aB rfl rfl)
theorem aQq (k : Nat) {n : Nat} (h : n < 18446744073709551616 ^ k) : bl n ≤ 64 * k := rN (by rw [← lK]; exact h)
theorem aRM (n : Nat) (hn : n < 18446744073709551616 ^ 10000) : aR (lb n) = some (txt n) := by
 have hb := aQq 10000 hn
 have key := iF (step := fun d : (List Nat) × (List (List Nat)) => hO d.1 d.2) (I := fun d => ∃ M rest, TxI n d.1 d.2 M rest) (fun d => nv d.1) (fun e => cat e = txt n ∧ e.length ≤ 1000000) ?_ (lb n, []) ⟨n, 0, ⟨rfl, by simp, by simp, rfl, .inr rfl⟩⟩
 ·obtain ⟨e, h1, h2, h3⟩ := key
  unfold aR
  refine bZ h1 ?_
  have hlen : (txt n).length ≤ 1000000 := by
   unfold txt
   split
   ·simp
   ·rename_i h0
    unfold vR
    rw [nI]
    have a := vA n h0
    have b : 2 ^ (Lib.nDigits n - 1) ≤ 10 ^ (Lib.nDigits n - 1) := Nat.pow_le_pow_left (by decide) _
    have := aFN (Nat.le_trans b a)
    omega
  rw [aRH e (by omega) (by rw [h2]; omega), h2]
 ·rintro ⟨m, l⟩ ⟨M, rest, h⟩
  have h : TxI n m l M rest := h
  have hMn : M ≤ n := by
   rw [h.sum]
   have := Nat.le_mul_of_pos_right M (Nat.pow_pos (n := 18 * l.length) (show 0 < 10 by decide))
   omega
  have hm : m.length ≤ 100000 := by
   rw [h.m0]
   exact Nat.le_trans (jI.2 (Nat.lt_of_le_of_lt hMn hn)) (by decide)
  show (∃ d', hO m l = _ ∧ _) ∨ ∃ e, hO m l = _ ∧ _
  rw [aRL hm h]
  rcases aRK (by omega) h with ⟨m', l', M', rest', k1, k2, k3⟩ | ⟨l', k1, k2, k3⟩
  ·left
   refine ⟨(m', l'), k1, ⟨M', rest', k2⟩, ?_⟩
   show nv m' < nv m
   rw [k2.m0, h.m0, eM, eM]
   exact k3
  ·right
   exact ⟨l', k1, k2, k3⟩
end Nu
end Go.Proofs
namespace Go.Proofs
open Go.Vc
set_option maxRecDepth 20000
namespace Nu
def nO (k : Nat) (s : List Nat) : List Nat := List.replicate (k + 1 - s.length) 48 ++ s
def ptS (k : Nat) (s : List Nat) : List Nat := if 0 < k then s.take (s.length - k) ++ [46] ++ s.drop (s.length - k) else s
def sgS (neg : Bool) (q : Nat) (s : List Nat) : List Nat := if neg = true ∧ q ≠ 0 then 45 :: s else s
theorem aRN {n : Nat} (h : bl n ≤ 640000) : (txt n).length ≤ 1000000 := by
 unfold txt
 split
 ·simp
 ·rename_i h0
  unfold vR
  rw [nI]
  have a := vA n h0
  have b : 2 ^ (Lib.nDigits n - 1) ≤ 10 ^ (Lib.nDigits n - 1) := Nat.pow_le_pow_left (by decide) _
  have := aFN (Nat.le_trans b a)
  omega
theorem aTp {n k : Nat} (h : n < 18446744073709551616 ^ k) : bl n ≤ 64 * k := rN (by rw [← lK]; exact h)
theorem aNB (d : Dy) (q : Nat) (s : List Nat) (hs : s.length ≤ 10000000) : jO d (lb q) s = some (sgS d.1 q s, 0, ()) := by
 unfold jO sgS
 have hq : (0 : Int) < ((lb q).length : Int) ↔ q ≠ 0 := by
  constructor
  ·intro h e; rw [e, fR] at h; simp at h
  ·intro h
   have := List.length_pos_iff.2 (fun e => h (tK.1 e))
   omega
 by_cases h : d.1 = true ∧ q ≠ 0
 ·rw [if_pos ⟨h.1, hq.2 h.2⟩, if_pos h]
  refine aB ?_ rfl
  have : (aP ⟨#[45]⟩).length = 1 := rfl
  omega
 ·rw [if_neg (fun hh => h ⟨hh.1, hq.1 hh.2⟩), if_neg h]
theorem aNC (k : Nat) (d : Dy) (q : Nat) (hk : k ≤ 60) (hq : q < 18446744073709551616 ^ 10000) : jP (k : Int) d (lb q) = some (sgS d.1 q (ptS k (nO k (txt q))), 0, ()) := by
 have hl := aRN (Nat.le_trans (aTp hq) (by decide))
 have ht := aRM q hq
 have hr : aN (aP ⟨#[48]⟩) (max ((k : Int) + 1 - ((txt q).length : Int)) 0) = some (List.replicate (k + 1 - (txt q).length) 48) := by
  have := aIG (k + 1 - (txt q).length) (by omega)
  rw [show ((k + 1 - (txt q).length : Nat) : Int) = max ((k : Int) + 1 - ((txt q).length : Int)) 0 from by omega] at this
  exact this
 have hp : (nO k (txt q)).length = k + 1 - (txt q).length + (txt q).length := by unfold nO; rw [List.length_append, List.length_replicate]
 have e : List.replicate (k + 1 - (txt q).length) 48 ++ txt q = nO k (txt q) := rfl
 unfold jP
 simp only [ht, Option.getD_some, hr, e]
 refine aB rfl (aB (by constructor <;> omega) (aB (by constructor <;> omega) (aB rfl (aB (by rw [List.length_replicate]; omega) ?_))))
 have h1 : (aP ⟨#[46]⟩) = [46] := rfl
 unfold ptS
 by_cases h : 0 < k
 ·have en : (((nO k (txt q)).length : Int) - (k : Int)).toNat = (nO k (txt q)).length - k := by omega
  rw [if_pos (by omega), if_pos h, h1, en]
  have l1 : ((nO k (txt q)).take ((nO k (txt q)).length - k)).length = (nO k (txt q)).length - k := by rw [List.length_take]; omega
  have l2 : ((nO k (txt q)).drop ((nO k (txt q)).length - k)).length = k := by rw [List.length_drop]; omega
  refine aB (by constructor <;> omega) (aB (by constructor <;> omega) (aB (by rw [l1]; simp; omega) (aB (by constructor <;> omega) (aB (by constructor <;> omega) (aB (by rw [List.length_append, l1, l2]; simp; omega) ?_)))))
  exact aNB d q _ (by rw [List.length_append, List.length_append, l1, l2]; simp; omega)
 ·rw [if_neg (by omega), if_neg h]
  exact aNB d q _ (by omega)
def txM (d : Dy) (k : Nat) : Nat := nv d.2.1 * 2 ^ (max d.2.2.1 0).toNat * 10 ^ k
def txQ (d : Dy) (k : Nat) (up : Bool) : Nat :=
 let m := txM d k
 let n := (max (-d.2.2.1) 0).toNat
 if m % 2 ^ n ≠ 0 ∧ (up != d.1) = true then m / 2 ^ n + 1 else m / 2 ^ n
def aG3 (d : Dy) (k : Int) (up : Bool) : List Nat × Int × Unit :=
 if gJ d = false ∨ k < 0 ∨ 60 < k then ([], 1, ())
 else if 2000 < d.2.2.1 ∨ d.2.2.1 < -2000 then ([], 2, ())
 else (sgS d.1 (txQ d k.toNat up) (ptS k.toNat (nO k.toNat (txt (txQ d k.toNat up)))), 0, ())
theorem aQr {d : Dy} {k : Nat} (lm : Lm d.2.1) (hl : d.2.1.length ≤ 64) (he : d.2.2.1 ≤ 2000) (hk : k ≤ 60) : txM d k < 18446744073709551616 ^ 200 := by
 have h1 := gO lm
 rw [lK] at h1
 have h2 := pC k
 unfold txM
 have h3 : nv d.2.1 * 2 ^ (max d.2.2.1 0).toNat < 2 ^ (64 * d.2.1.length) * 2 ^ (max d.2.2.1 0).toNat := Nat.mul_lt_mul_of_pos_right h1 (Nat.two_pow_pos _)
 rw [← Nat.pow_add] at h3
 have h4 := Nat.mul_lt_mul_of_lt_of_le h3 h2 (Nat.pow_pos (by decide))
 rw [← Nat.pow_add] at h4
 exact aK7 200 h4 (by omega)
theorem aCz (d : Dy) (k : Int) (up : Bool) (lm : Lm d.2.1) : aJ d k up = some (aG3 d k up) := by
 unfold aJ aG3
 simp only [xY, Option.getD_some]
 refine aB rfl ?_
 by_cases h1 : gJ d = false ∨ k < 0 ∨ 60 < k
 ·rw [if_pos (by rcases h1 with h | h | h; exact .inl (.inl (by rw [h]; decide)); exact .inl (.inr h); exact .inr h), if_pos h1]; rfl
 ·have hm : gJ d = true := by
   cases hh : gJ d with
   | true => rfl
   | false => exact absurd (.inl hh) h1
  have hk : 0 ≤ k ∧ k ≤ 60 := by omega
  rw [if_neg (by rintro ((h | h) | h); exact h hm; omega; omega), if_neg h1]
  by_cases h2 : 2000 < d.2.2.1 ∨ d.2.2.1 < -2000
  ·rw [if_pos h2, if_pos h2]; rfl
  ·rw [if_neg h2, if_neg h2]
   obtain ⟨a1, a2, a3, a4⟩ := oA hm
   obtain ⟨j, rfl⟩ : ∃ j : Nat, k = (j : Int) := ⟨k.toNat, by omega⟩
   rw [Int.toNat_natCast]
   have hM := aQr (k := j) lm a1 (by omega) (by omega)
   have hpw := aAp 10 j (by decide) (by omega)
   have hL : bD d.2.1 (max d.2.2.1 0) = lb (nv d.2.1 * 2 ^ (max d.2.2.1 0).toNat) := rfl
   have hT : aZ (lb (nv d.2.1 * 2 ^ (max d.2.2.1 0).toNat)) (lb (10 ^ j)) = lb (txM d j) := by
    unfold aZ txM; rw [eM, eM]
   have hLl : (lb (nv d.2.1 * 2 ^ (max d.2.2.1 0).toNat)).length ≤ 200 := by
    refine jI.2 (Nat.lt_of_le_of_lt ?_ hM)
    unfold txM
    exact Nat.le_mul_of_pos_right _ (Nat.pow_pos (by decide))
   have hPl := aMm (b := 10) (i := j) (by decide)
   have hTl := jI.2 hM
   have hn : max (0 - d.2.2.1) 0 = ((max (-d.2.2.1) 0).toNat : Int) := by omega
   simp only [hpw, Option.getD_some, hL, hT, hn]
   have hR : cC (lb (txM d j)) ((max (-d.2.2.1) 0).toNat : Int) = lb (txM d j / 2 ^ (max (-d.2.2.1) 0).toNat) := by
    unfold cC; rw [eM, Int.toNat_natCast]
   rw [hR]
   have hqlt : txM d j / 2 ^ (max (-d.2.2.1) 0).toNat < 18446744073709551616 ^ 200 := Nat.lt_of_le_of_lt (Nat.div_le_self _ _) hM
   have hP : eY (lb (txM d j / 2 ^ (max (-d.2.2.1) 0).toNat)) [1] = lb (txM d j / 2 ^ (max (-d.2.2.1) 0).toNat + 1) := by
    unfold eY; rw [eM]; rfl
   have hbig : ∀ x, x < 18446744073709551616 ^ 200 → x + 1 < 18446744073709551616 ^ 10000 := fun x hx => by
    have : 18446744073709551616 ^ 200 < 18446744073709551616 ^ 10000 := aTj 200 10000 (by decide)
    exact Nat.lt_of_le_of_lt hx this
   refine aB ⟨by show d.2.1.length ≤ _; omega, by omega, by omega⟩ (aB rfl (aB ⟨by show (lb (nv d.2.1 * 2 ^ (max d.2.2.1 0).toNat)).length ≤ _; omega, by show (lb (10 ^ j)).length ≤ _; omega⟩ (aB (by constructor <;> omega) (aB ⟨by show (lb (txM d j)).length ≤ _; omega, by omega⟩ (aB (fun _ => by show (lb (txM d j)).length ≤ _; omega) ?_)))))
   have hc : ((0 : Int) < ((lb (txM d j)).length : Int) ∧ bO (lb (txM d j)) < ((max (-d.2.2.1) 0).toNat : Int)) ↔ txM d j % 2 ^ (max (-d.2.2.1) 0).toNat ≠ 0 := by
    by_cases h0 : txM d j = 0
    ·rw [h0, fR, Nat.zero_mod]; simp
    ·have hl := List.length_pos_iff.2 (fun e => h0 (tK.1 e))
     have hz : bO (lb (txM d j)) = (tzn (txM d j) : Int) := by unfold bO; rw [eM, if_neg h0]
     rw [hz, ← aNw h0]
     constructor
     ·intro h; omega
     ·intro h; exact ⟨by omega, by omega⟩
   unfold txQ
   simp only
   by_cases h3 : txM d j % 2 ^ (max (-d.2.2.1) 0).toNat ≠ 0 ∧ (up != d.1) = true
   ·rw [if_pos ⟨hc.2 h3.1, h3.2⟩, if_pos h3, hP]
    have hl3 := jI.2 hqlt
    refine aB ⟨by show (lb (txM d j / 2 ^ (max (-d.2.2.1) 0).toNat)).length ≤ _; omega, by show (1 : Nat) ≤ _; decide⟩ ?_
    exact aNC j d _ (by omega) (hbig _ hqlt)
   ·rw [if_neg (fun h => h3 ⟨hc.1 h.1, h.2⟩), if_neg h3]
    exact aNC j d _ (by omega) (Nat.lt_of_succ_lt (hbig _ hqlt))
end Nu
end Go.Proofs
namespace Go.Proofs
open Go.Vc
set_option maxRecDepth 20000
namespace Nu
def aSR (d : Dy) : Dy := if gJ d = true ∧ 0 < d.2.1.length then (!d.1, d.2.1, d.2.2.1, ()) else d
theorem aSS (d : Dy) (h : d.2.1.length ≤ 1000000) : bW d = some (aSR d) := by
 have hc : cW d = some d := by
  unfold cW
  exact aB (by show d.2.1.length * 8 ≤ _; omega) rfl
 unfold bW aSR
 simp only [hc, xY, Option.getD_some]
 refine aB rfl (aB rfl ?_)
 by_cases hh : gJ d = true ∧ 0 < d.2.1.length
 ·rw [if_pos ⟨hh.1, by omega⟩, if_pos hh]
 ·rw [if_neg (fun h => hh ⟨h.1, by omega⟩), if_neg hh]
theorem aQs (a b : List Nat) (ha : a.length ≤ 9223372036854775807) : dE a b = some (decide (a = b)) := by
 unfold dE
 by_cases hl : a.length = b.length
 ·rw [if_neg (by omega)]
  have key := kX (step := fun d : Int => cP a b d) (I := fun i => 0 ≤ i ∧ i ≤ a.length) (fun i => (a.length - i).toNat) (fun i => if a.drop i.toNat = b.drop i.toNat then (.inl () : Unit ⊕ Bool) else .inr false) ?_ 0 ⟨by omega, by omega⟩
  ·have e1 : a.drop ((0 : Int).toNat) = a := rfl
   have e2 : b.drop ((0 : Int).toNat) = b := rfl
   rw [e1, e2] at key
   refine bZ key ?_
   by_cases h : a = b
   ·rw [if_pos h, decide_eq_true h]
   ·rw [if_neg h, decide_eq_false h]
  ·rintro i ⟨i0, i1⟩
   show (∃ d', cP a b i = _ ∧ _) ∨ cP a b i = _
   unfold cP
   by_cases hi : i < a.length
   ·have hk : i.toNat < a.length := by omega
    have hk2 : i.toNat < b.length := by omega
    have ea : a.drop i.toNat = a.getD i.toNat 0 :: a.drop (i.toNat + 1) := by
     rw [List.drop_eq_getElem_cons hk, List.getD_eq_getElem?_getD, List.getElem?_eq_getElem hk]; rfl
    have eb : b.drop i.toNat = b.getD i.toNat 0 :: b.drop (i.toNat + 1) := by
     rw [List.drop_eq_getElem_cons hk2, List.getD_eq_getElem?_getD, List.getElem?_eq_getElem hk2]; rfl
    by_cases hx : a.getD i.toNat 0 = b.getD i.toNat 0
    ·left
     refine ⟨i + 1, ?_, ⟨by omega, by omega⟩, by omega, ?_⟩
     ·rw [if_pos hi]
      refine aB (by constructor <;> omega) (aB (by constructor <;> omega) ?_)
      rw [if_neg (fun h => h hx)]
      exact aB (by constructor <;> omega) rfl
     ·rw [ea, eb, hx, show (i + 1).toNat = i.toNat + 1 from by omega]
      simp
    ·right
     rw [if_pos hi]
     refine aB (by constructor <;> omega) (aB (by constructor <;> omega) ?_)
     rw [if_pos hx, if_neg (by rw [ea, eb]; intro h; exact hx (List.cons.inj h).1)]
   ·right
    rw [if_neg hi, List.drop_eq_nil_of_le (by omega), List.drop_eq_nil_of_le (by omega), if_pos rfl]
 ·rw [if_pos (by omega), decide_eq_false (fun h => hl (by rw [h]))]
theorem aND (a b : Dy) (ha : a.2.1.length ≤ 9223372036854775807) : dC a b = some ((a.1 == b.1) && decide (a.2.2.1 = b.2.2.1) && decide (a.2.1 = b.2.1)) := by
 unfold dC
 simp only [aQs a.2.1 b.2.1 ha, Option.getD_some]
 exact aB (fun _ => rfl) rfl
end Nu
end Go.Proofs
namespace Go.Proofs
open Go.Vc
set_option maxRecDepth 20000
namespace Nu
def lC (d : Dy) : Int := if gJ d = false ∨ d.2.1.length = 0 then 0 else if d.1 = true then -1 else 1
theorem aRO (d : Dy) : dA d = some (lC d) := by
 unfold dA lC
 simp only [xY, Option.getD_some]
 refine aB rfl ?_
 by_cases h : gJ d = false ∨ d.2.1.length = 0
 ·rw [if_pos (by rcases h with h | h; exact .inl (by rw [h]; decide); exact .inr (by omega)), if_pos h]
 ·have hm : gJ d = true := by
   cases hh : gJ d with
   | true => rfl
   | false => exact absurd (.inl hh) h
  rw [if_neg (by rintro (hh | hh); exact hh hm; exact h (.inr (by omega))), if_neg h]
  by_cases hn : d.1 = true
  ·rw [if_pos hn, if_pos hn]
  ·rw [if_neg hn, if_neg hn]
def aCA (a b : Dy) : Int :=
 let x := (bl (nv a.2.1) : Int) + a.2.2.1
 let y := (bl (nv b.2.1) : Int) + b.2.2.1
 let low := min a.2.2.1 b.2.2.1
 if x < y then -1 else if y < x then 1 else aKD (nv a.2.1 * 2 ^ (a.2.2.1 - low).toNat) (nv b.2.1 * 2 ^ (b.2.2.1 - low).toNat)
theorem size_eq (a b : Dy) (la : Lm a.2.1) (lb' : Lm b.2.1) (ha : gJ a = true) (hb : gJ b = true) : kL a b = some (aCA a b) := by
 obtain ⟨a1, a2, a3, a4⟩ := oA ha
 obtain ⟨b1, b2, b3, b4⟩ := oA hb
 have hba : bl (nv a.2.1) ≤ 64 * a.2.1.length := rN (by rw [← lK]; exact gO la)
 have hbb : bl (nv b.2.1) ≤ 64 * b.2.1.length := rN (by rw [← lK]; exact gO lb')
 have e1 : aV a.2.1 = (bl (nv a.2.1) : Int) := rfl
 have e2 : aV b.2.1 = (bl (nv b.2.1) : Int) := rfl
 unfold kL aCA
 rw [e1, e2]
 refine aB ⟨a2, by show a.2.1.length ≤ _; omega⟩ (aB (by constructor <;> omega) (aB ⟨b2, by show b.2.1.length ≤ _; omega⟩ (aB (by constructor <;> omega) ?_)))
 simp only
 by_cases h1 : (bl (nv a.2.1) : Int) + a.2.2.1 < (bl (nv b.2.1) : Int) + b.2.2.1
 ·rw [if_pos h1, if_pos h1]
 ·rw [if_neg h1, if_neg h1]
  by_cases h2 : (bl (nv b.2.1) : Int) + b.2.2.1 < (bl (nv a.2.1) : Int) + a.2.2.1
  ·rw [if_pos h2, if_pos h2]
  ·rw [if_neg h2, if_neg h2]
   refine aB (by constructor <;> omega) (aB ⟨by show a.2.1.length ≤ _; omega, by omega, by omega⟩ (aB (by constructor <;> omega) (aB ⟨by show b.2.1.length ≤ _; omega, by omega, by omega⟩ (aB ⟨rJ _, rJ _⟩ ?_))))
   unfold kH bD
   rw [eM, eM]
def aG4 (a b : Dy) : Int :=
 if gJ a = false ∨ gJ b = false then 0
 else if lC a < lC b then -1
 else if lC b < lC a then 1
 else if lC a = 0 then 0
 else lC a * aCA a b
theorem aLp (a b : Dy) : -1 ≤ aCA a b ∧ aCA a b ≤ 1 := by
 unfold aCA
 simp only
 split
 ·decide
 ·split
  ·decide
  ·unfold aKD
   split
   ·decide
   ·split <;> decide
theorem aEd (d : Dy) : lC d = 0 ∨ lC d = 1 ∨ lC d = -1 := by
 unfold lC
 split
 ·exact .inl rfl
 ·split
  ·exact .inr (.inr rfl)
  ·exact .inr (.inl rfl)
theorem aMu (a b : Dy) (la : Lm a.2.1) (lb' : Lm b.2.1) : dD a b = some (aG4 a b) := by
 have ra := aEd a
 have rb := aEd b
 have rs := aLp a b
 unfold dD aG4
 simp only [aRO, xY, Option.getD_some]
 refine aB rfl (aB rfl (aB rfl (aB (fun _ => rfl) ?_)))
 by_cases h : gJ a = false ∨ gJ b = false
 ·rw [if_pos (by rcases h with h | h; exact .inl (by rw [h]; decide); exact .inr (by rw [h]; decide)), if_pos h]
 ·have ha : gJ a = true := by
   cases hh : gJ a with
   | true => rfl
   | false => exact absurd (.inl hh) h
  have hb : gJ b = true := by
   cases hh : gJ b with
   | true => rfl
   | false => exact absurd (.inr hh) h
  rw [if_neg (by rintro (hh | hh); exact hh ha; exact hh hb), if_neg h]
  by_cases h1 : lC a < lC b
  ·rw [if_pos ⟨by omega, h1⟩, if_pos h1]
  ·rw [if_neg (fun hh => h1 hh.2), if_neg h1]
   by_cases h2 : lC b < lC a
   ·rw [if_pos (by omega), if_pos h2]
   ·rw [if_neg (by omega), if_neg h2]
    by_cases h3 : lC a = 0
    ·rw [if_pos h3, if_pos h3]
    ·rw [if_neg h3, if_neg h3]
     simp only [size_eq a b la lb' ha hb, Option.getD_some]
     refine aB rfl (aB ?_ rfl)
     rcases ra with r | r | r <;> rw [r] <;> constructor <;> omega
end Nu
end Go.Proofs
namespace Go.Proofs
open Go.Vc
set_option maxRecDepth 20000
namespace Nu
theorem aLq : ∀ n u, u < 10 ^ n → iA (dgs n u) = u
 | 0, u, h => by
  rw [Nat.pow_zero] at h
  have : u = 0 := by omega
  subst this; rfl
 | n + 1, u, h => by
  have hm := Nat.mod_lt u (show 0 < 10 by decide)
  have h1 : dgs 1 (u % 10) = [48 + u % 10] := by simp [dgs]
  have h2 := aE0 n 1 (u / 10) (u % 10) (by omega)
  rw [h1, show u / 10 * 10 ^ 1 + u % 10 = u from by omega] at h2
  rw [Nat.pow_succ] at h
  rw [← h2, aAH, aLq n (u / 10) (by omega)]
  omega
theorem aRP (n u : Nat) : ∀ c ∈ dgs n u, gZ c = true := by
 intro c hc
 unfold dgs at hc
 obtain ⟨t, _, rfl⟩ := List.mem_map.1 hc
 have := Nat.mod_lt (u / 10 ^ (n - 1 - t)) (show 0 < 10 by decide)
 simp only [gZ, decide_eq_true_iff]; omega
theorem aQt (q : Nat) : iA (txt q) = q := by
 unfold txt vR
 split
 ·rename_i h; rw [h]; rfl
 ·exact aLq _ _ (Lib.lt_pow_nDigits q)
theorem aRQ (q : Nat) : ∀ c ∈ txt q, gZ c = true := by
 unfold txt vR
 split
 ·intro c hc; cases hc
 ·exact aRP _ _
theorem aRR (a b : List Nat) : iA (a ++ b) = b.foldl (fun m c => m * 10 + (c - 48)) (iA a) := by unfold iA; rw [List.foldl_append]
theorem aQu (k : Nat) (s : List Nat) : iA (nO k s) = iA s := by
 have h := aLi [] (k + 1 - s.length)
 rw [List.nil_append, show iA ([] : List Nat) = 0 from rfl, Nat.zero_mul] at h
 unfold nO
 rw [aRR, h]; rfl
theorem aRS (k : Nat) {s : List Nat} (h : ∀ c ∈ s, gZ c = true) : ∀ c ∈ nO k s, gZ c = true := aRC (aRB _) h
theorem aST (k : Nat) (s : List Nat) : k + 1 ≤ (nO k s).length := by unfold nO; rw [List.length_append, List.length_replicate]; omega
theorem aG5 (n q : Nat) (h : (ptS n (nO n (txt q))).length ≤ 60) : dI (ptS n (nO n (txt q))) = (nO n (txt q), -(n : Int), true, ()) := by
 have hd := aRS n (aRQ q)
 have hl := aST n (txt q)
 generalize nO n (txt q) = s at *
 unfold ptS at h ⊢
 by_cases h0 : 0 < n
 ·rw [if_pos h0] at h ⊢
  have l1 : (s.take (s.length - n)).length = s.length - n := by rw [List.length_take]; omega
  have l2 : (s.drop (s.length - n)).length = n := by rw [List.length_drop]; omega
  rw [List.length_append, List.length_append, l1, l2, List.length_singleton] at h
  have := aRA (a := s.take (s.length - n)) (b := s.drop (s.length - n)) (fun c hc => hd c (List.mem_of_mem_take hc)) (fun c hc => hd c (List.mem_of_mem_drop hc)) (by omega) (by omega) (by omega)
  rw [l2, List.take_append_drop] at this
  rw [← this, List.append_assoc]; rfl
 ·rw [if_neg h0] at h ⊢
  have : n = 0 := by omega
  subst this
  exact aQk hd (by omega) h
theorem aNE (n q : Nat) (h : (ptS n (nO n (txt q))).length ≤ 60) : aCt (ptS n (nO n (txt q))) = q ∧ aBu (ptS n (nO n (txt q))) = 10 ^ n ∧ exN (ptS n (nO n (txt q))) = q ∧ exD (ptS n (nO n (txt q))) = 5 ^ n := by
 have f := aG5 n q h
 unfold aCt aBu exN exD
 rw [f]
 simp only
 rw [aQu, aQt, show (max (-(n : Int)) 0).toNat = 0 from by omega, show (max (-(-(n : Int))) 0).toNat = n from by omega]
 simp
theorem aEe {a : List Nat} (h : Nrm a) : nv a = 0 ↔ a.length = 0 := by
 constructor
 ·intro h0
  cases a with
  | nil => rfl
  | cons x r => have := wD h (by simp); omega
 ·intro h0; rw [List.eq_nil_of_length_eq_zero h0]; rfl
theorem aQv {a b : Dy} (ha : gJ a = true) (hb : gJ b = true) (na : a.1 = false) (nb : b.1 = false) (low : Int) (h1 : low ≤ a.2.2.1) (h2 : low ≤ b.2.2.1) (h : nv a.2.1 * 2 ^ (a.2.2.1 - low).toNat ≤ nv b.2.1 * 2 ^ (b.2.2.1 - low).toNat) : aG4 a b ≤ 0 := by
 obtain ⟨_, ma, _, _⟩ := oA ha
 obtain ⟨_, mb, _, _⟩ := oA hb
 have za := aEe ma
 have zb := aEe mb
 have sa : lC a = if a.2.1.length = 0 then 0 else 1 := by
  unfold lC; rw [ha, na]
  by_cases h0 : a.2.1.length = 0
  ·rw [if_pos (.inr h0), if_pos h0]
  ·rw [if_neg (by rintro (h | h); cases h; exact h0 h), if_neg h0]; rfl
 have sb : lC b = if b.2.1.length = 0 then 0 else 1 := by
  unfold lC; rw [hb, nb]
  by_cases h0 : b.2.1.length = 0
  ·rw [if_pos (.inr h0), if_pos h0]
  ·rw [if_neg (by rintro (h | h); cases h; exact h0 h), if_neg h0]; rfl
 unfold aG4
 rw [if_neg (by rw [ha, hb]; rintro (h | h) <;> cases h), sa, sb]
 by_cases h0 : a.2.1.length = 0
 ·rw [if_pos h0]
  by_cases h3 : b.2.1.length = 0
  ·rw [if_pos h3]; simp
  ·rw [if_neg h3]; simp
 ·have ha0 : nv a.2.1 ≠ 0 := fun e => h0 (za.1 e)
  have hp := Nat.mul_pos (Nat.pos_of_ne_zero ha0) (Nat.two_pow_pos (a.2.2.1 - low).toNat)
  have hb0 : nv b.2.1 ≠ 0 := fun e => by rw [e, Nat.zero_mul] at h; omega
  have h3 : b.2.1.length ≠ 0 := fun e => hb0 (zb.2 e)
  rw [if_neg h0, if_neg h3, if_neg (by decide), if_neg (by decide), if_neg (by decide), Int.one_mul]
  unfold aCA
  simp only
  by_cases hx : (bl (nv a.2.1) : Int) + a.2.2.1 < (bl (nv b.2.1) : Int) + b.2.2.1
  ·rw [if_pos hx]; decide
  ·rw [if_neg hx]
   have hy : ¬ (bl (nv b.2.1) : Int) + b.2.2.1 < (bl (nv a.2.1) : Int) + a.2.2.1 := by
    intro hy
    have pa := aFO ha0
    have pb := aBU (nv b.2.1)
    have ba := aBj ha0
    have e1 : nv b.2.1 * 2 ^ (b.2.2.1 - low).toNat < 2 ^ (bl (nv b.2.1) + (b.2.2.1 - low).toNat) := by
     rw [Nat.pow_add]; exact Nat.mul_lt_mul_of_pos_right pb (Nat.two_pow_pos _)
    have e2 : 2 ^ (bl (nv a.2.1) - 1 + (a.2.2.1 - low).toNat) ≤ nv a.2.1 * 2 ^ (a.2.2.1 - low).toNat := by
     rw [Nat.pow_add]; exact Nat.mul_le_mul_right _ pa
    have e3 := p2m (bl (nv b.2.1) + (b.2.2.1 - low).toNat) (bl (nv a.2.1) - 1 + (a.2.2.1 - low).toNat) (by omega)
    omega
   rw [if_neg hy]
   have e1 : (a.2.2.1 - low).toNat = (a.2.2.1 - min a.2.2.1 b.2.2.1).toNat + (min a.2.2.1 b.2.2.1 - low).toNat := by omega
   have e2 : (b.2.2.1 - low).toNat = (b.2.2.1 - min a.2.2.1 b.2.2.1).toNat + (min a.2.2.1 b.2.2.1 - low).toNat := by omega
   rw [e1, e2, Nat.pow_add, Nat.pow_add, ← Nat.mul_assoc, ← Nat.mul_assoc] at h
   have h4 := Nat.le_of_mul_le_mul_right h (Nat.two_pow_pos _)
   unfold aKD
   split
   ·decide
   ·split
    ·decide
    ·omega
theorem aIH (M : Nat) (e : Int) : (dN M e).1 = false := by unfold dN; split <;> rfl
theorem aQw (M : Nat) (e : Int) : Lm (dN M e).2.1 := by rw [aAJ]; exact wC _
theorem aDj (M : Nat) (e low : Int) (h0 : low ≤ 0) (h : low ≤ e) : low ≤ (dN M e).2.2.1 ∧ nv (dN M e).2.1 * 2 ^ ((dN M e).2.2.1 - low).toNat = M * 2 ^ (e - low).toNat := by
 unfold dN
 by_cases hz : M = 0
 ·rw [if_pos hz, hz, Nat.zero_mul]
  exact ⟨h0, by show nv [] * _ = 0; rw [zW, Nat.zero_mul]⟩
 ·rw [if_neg hz]
  obtain ⟨p1, _⟩ := tS hz
  simp only
  refine ⟨by omega, ?_⟩
  rw [eM, show (e + (tzn M : Int) - low).toNat = tzn M + (e - low).toNat from by omega, Nat.pow_add, ← Nat.mul_assoc, p1]
theorem lo_le {A B p k : Nat} : rM A B p k * 2 ^ rn A B p k * B ≤ A * 2 ^ k := by
 unfold rM
 refine Nat.le_trans (Nat.mul_le_mul_right B (Nat.div_mul_le_self _ _)) ?_
 unfold rq
 exact Nat.div_mul_le_self _ _
theorem aTq {A B p k : Nat} (hB : B ≠ 0) : A * 2 ^ k ≤ rm2 A B p k true * 2 ^ rn A B p k * B := by
 have e : rM A B p k = A * 2 ^ k / (B * 2 ^ rn A B p k) := by
  unfold rM
  conv => lhs; arg 1; unfold rq
  rw [Nat.div_div_eq_div_mul]
 have hY : 0 < B * 2 ^ rn A B p k := Nat.mul_pos (by omega) (Nat.two_pow_pos _)
 have hdm := Nat.div_add_mod (A * 2 ^ k) (B * 2 ^ rn A B p k)
 have hlt := Nat.mod_lt (A * 2 ^ k) hY
 rw [← e] at hdm
 unfold rm2 rS
 rw [Nat.mul_assoc, Nat.mul_comm (2 ^ _) B]
 by_cases h : A * 2 ^ k % (B * 2 ^ rn A B p k) = 0
 ·rw [if_neg (fun hh => (of_decide_eq_true hh.1) h), Nat.mul_comm (rM A B p k)]
  omega
 ·rw [if_pos ⟨decide_eq_true h, rfl⟩, Nat.add_mul, Nat.one_mul, Nat.mul_comm (rM A B p k)]
  omega
theorem aNF {d : Dy} {R r k K : Nat} (hd : gJ d = true) (nd : d.1 = false) (hR : R < 2 ^ K) (hK : K ≤ 4096) (hr : r ≤ 100000) (hk : k ≤ 100000) (h : R * 2 ^ (r + (max (-d.2.2.1) 0).toNat) ≤ nv d.2.1 * 2 ^ ((max d.2.2.1 0).toNat + k)) : aG4 (dN R ((r : Int) - (k : Int))) d ≤ 0 := by
 obtain ⟨v1, v2⟩ := aDj R ((r : Int) - (k : Int)) (-(k : Int) - (max (-d.2.2.1) 0)) (by omega) (by omega)
 refine aQv (aCk hR hK (by constructor <;> omega)) hd (aIH _ _) nd (-(k : Int) - (max (-d.2.2.1) 0)) v1 (by omega) ?_
 rw [v2, show ((r : Int) - (k : Int) - (-(k : Int) - (max (-d.2.2.1) 0))).toNat = r + (max (-d.2.2.1) 0).toNat from by omega, show (d.2.2.1 - (-(k : Int) - (max (-d.2.2.1) 0))).toNat = (max d.2.2.1 0).toNat + k from by omega]
 exact h
theorem aNG {d : Dy} {R r k K : Nat} (hd : gJ d = true) (nd : d.1 = false) (hR : R < 2 ^ K) (hK : K ≤ 4096) (hr : r ≤ 100000) (hk : k ≤ 100000) (h : nv d.2.1 * 2 ^ ((max d.2.2.1 0).toNat + k) ≤ R * 2 ^ (r + (max (-d.2.2.1) 0).toNat)) : aG4 d (dN R ((r : Int) - (k : Int))) ≤ 0 := by
 obtain ⟨v1, v2⟩ := aDj R ((r : Int) - (k : Int)) (-(k : Int) - (max (-d.2.2.1) 0)) (by omega) (by omega)
 refine aQv hd (aCk hR hK (by constructor <;> omega)) nd (aIH _ _) (-(k : Int) - (max (-d.2.2.1) 0)) (by omega) v1 ?_
 rw [v2, show ((r : Int) - (k : Int) - (-(k : Int) - (max (-d.2.2.1) 0))).toNat = r + (max (-d.2.2.1) 0).toNat from by omega, show (d.2.2.1 - (-(k : Int) - (max (-d.2.2.1) 0))).toNat = (max d.2.2.1 0).toNat + k from by omega]
 exact h
theorem aSU {d : Dy} {n : Nat} (nd : d.1 = false) : txQ d n false * 2 ^ (max (-d.2.2.1) 0).toNat ≤ txM d n := by
 unfold txQ; simp only
 rw [if_neg (by rw [nd]; rintro ⟨_, h⟩; cases h)]
 exact Nat.div_mul_le_self _ _
theorem aQx {d : Dy} {n : Nat} (nd : d.1 = false) : txM d n ≤ txQ d n true * 2 ^ (max (-d.2.2.1) 0).toNat ∧ (txQ d n true = txQ d n false ↔ txM d n % 2 ^ (max (-d.2.2.1) 0).toNat = 0) := by
 have hp := Nat.two_pow_pos (max (-d.2.2.1) 0).toNat
 have hdm := Nat.div_add_mod (txM d n) (2 ^ (max (-d.2.2.1) 0).toNat)
 have hlt := Nat.mod_lt (txM d n) hp
 rw [Nat.mul_comm] at hdm
 unfold txQ; simp only
 rw [if_neg (c := _ ∧ (false != d.1) = true) (by rw [nd]; rintro ⟨_, h⟩; cases h)]
 by_cases h : txM d n % 2 ^ (max (-d.2.2.1) 0).toNat = 0
 ·rw [if_neg (fun hh => hh.1 h)]
  exact ⟨by omega, fun _ => h, fun _ => rfl⟩
 ·rw [if_pos ⟨h, by rw [nd]; rfl⟩, Nat.add_mul, Nat.one_mul]
  exact ⟨by omega, fun hh => by omega, fun hh => absurd hh h⟩
end Nu
end Go.Proofs
namespace Go.Proofs
open Go.Vc
set_option maxRecDepth 20000
namespace Nu
def nP : Dy := (false, [1], -3, ())
def aAK : Dy := (true, [1], -3, ())
theorem aSV : txt 12 = [49, 50] := by
 unfold txt; rw [if_neg (by decide), aMt (by decide) (by decide)]
theorem aQy : txt 13 = [49, 51] := by
 unfold txt; rw [if_neg (by decide), aMt (by decide) (by decide)]
theorem aSW : Lm [1] := by intro x hx; simp at hx; subst hx; decide
theorem aNH : gJ nP = true ∧ gJ aAK = true := by decide +kernel
theorem aTL : txQ nP 2 false = 12 := by decide +kernel
theorem aTM : txQ nP 2 true = 13 := by decide +kernel
theorem aTN : txQ aAK 2 false = 13 := by decide +kernel
theorem aSX : aJ nP 2 false = some ([48, 46, 49, 50], 0, ()) := by
 rw [aCz nP 2 false aSW]
 unfold aG3
 rw [if_neg (by rw [aNH.1]; decide), if_neg (by decide), show ((2 : Int).toNat) = 2 from rfl, aTL, aSV]
 rfl
theorem aSY : aJ nP 2 true = some ([48, 46, 49, 51], 0, ()) := by
 rw [aCz nP 2 true aSW]
 unfold aG3
 rw [if_neg (by rw [aNH.1]; decide), if_neg (by decide), show ((2 : Int).toNat) = 2 from rfl, aTM, aQy]
 rfl
theorem aSZ : aJ aAK 2 false = some ([45, 48, 46, 49, 51], 0, ()) := by
 rw [aCz aAK 2 false aSW]
 unfold aG3
 rw [if_neg (by rw [aNH.2]; decide), if_neg (by decide), show ((2 : Int).toNat) = 2 from rfl, aTN, aQy]
 rfl
theorem aS0 : bW nP = some aAK := by
 rw [aSS nP (by decide)]
 unfold aSR
 rw [if_pos ⟨aNH.1, by decide⟩]
 rfl
theorem aJS : dI [48, 46, 49, 50, 53] = ([48, 49, 50, 53], -3, true, ()) := by decide +kernel
theorem aDk : dI [48, 46, 49] = ([48, 49], -1, true, ()) := by decide +kernel
theorem aTO : lb 1 = [1] := by rw [zX (by decide), show 1 / 18446744073709551616 = 0 from by decide, fR]
theorem aS1 : bB [48, 46, 49, 50, 53] = some (nP, 0, ()) := by
 rw [aGN _ (by decide)]
 have hN : exN [48, 46, 49, 50, 53] = 125 := by unfold exN; rw [aJS]; decide
 have hD : exD [48, 46, 49, 50, 53] = 125 := by unfold exD; rw [aJS]; decide
 unfold qA
 rw [hN, hD, aJS, if_neg (by decide), if_neg (by decide), show 125 / 125 = 1 from rfl]
 have ht : tzn 1 = 0 := xI (m := 0) rfl
 unfold dN
 rw [if_neg (by decide), ht, show 1 / 2 ^ 0 = 1 from rfl, aTO]
 rfl
theorem aS2 : bB [48, 46, 49] = some (d0, 6, ()) := by
 rw [aGN _ (by decide)]
 have hN : exN [48, 46, 49] = 1 := by unfold exN; rw [aDk]; decide
 have hD : exD [48, 46, 49] = 5 := by unfold exD; rw [aDk]; decide
 unfold qA
 rw [hN, hD, aDk, if_neg (by decide), if_pos (by decide)]
theorem aS3 : (dI [49, 46, 53, 101, 45, 51]).2.2.1 = true ∧ (dI [49, 46]).2.2.1 = false ∧ (dI [46, 53]).2.2.1 = false ∧ (dI [49, 101, 49, 48, 49]).2.2.1 = false ∧ (dI []).2.2.1 = false := by decide +kernel
end Nu
end Go.Proofs
namespace Go.Proofs
open Go.Vc
set_option maxRecDepth 20000
namespace Nu
theorem aLr {x : Nat} (h0 : x ≠ 0) (h : x < 18446744073709551616) : lb x = [x] := by
 rw [zX h0, Nat.mod_eq_of_lt h, Nat.div_eq_of_lt h, fR]
def aH5 : Dy := (false, [209715], -21, ())
def aH6 : Dy := (false, [838861], -23, ())
theorem aR5 : bl 10 = 4 := aKy (k := 3) (by decide) (by decide)
theorem aTP : bl 3355443 = 22 := aKy (k := 21) (by decide) (by decide)
theorem aQz : rn 1 10 20 25 = 2 ∧ rM 1 10 20 25 = 838860 ∧ rE 1 10 20 25 = -23 ∧ rS 1 10 20 25 = true := by
 have hq : rq 1 10 25 = 3355443 := by decide
 have hn : rn 1 10 20 25 = 2 := by unfold rn; rw [hq, aTP]
 refine ⟨hn, ?_, ?_, ?_⟩
 ·unfold rM; rw [hn, hq]
 ·unfold rE; rw [hn]; rfl
 ·unfold rS; rw [hn]; decide
theorem aTr : aLe 1 10 20 25 false = aH5 := by
 obtain ⟨h1, h2, h3, h4⟩ := aQz
 have hm : rm2 1 10 20 25 false = 838860 := by unfold rm2; rw [h2, if_neg (by rintro ⟨_, h⟩; cases h)]
 have ht : tzn 838860 = 2 := xI (m := 104857) (by decide)
 unfold aLe dN
 rw [hm, h3, if_neg (by decide), ht, show 838860 / 2 ^ 2 = 209715 from by decide, aLr (by decide) (by decide)]
 rfl
theorem aTs : aLe 1 10 20 25 true = aH6 := by
 obtain ⟨h1, h2, h3, h4⟩ := aQz
 have hm : rm2 1 10 20 25 true = 838861 := by unfold rm2; rw [h2, h4, if_pos ⟨rfl, rfl⟩]
 have ht : tzn 838861 = 0 := xI (m := 419430) (by decide)
 unfold aLe dN
 rw [hm, h3, if_neg (by decide), ht, show 838861 / 2 ^ 0 = 838861 from by decide, aLr (by decide) (by decide)]
 rfl
theorem aS4 : bT [48, 46, 49] 20 = some ((aH5, aH6, ()), 0, ()) := by
 rw [aMp _ _ (by decide)]
 have hA : aCt [48, 46, 49] = 1 := by unfold aCt; rw [aDk]; decide
 have hB : aBu [48, 46, 49] = 10 := by unfold aBu; rw [aDk]; decide
 have e1 : kV [48, 46, 49] 20 false = aH5 := by
  unfold kV; rw [hA, hB, if_neg (by decide), aR5]; exact aTr
 have e2 : kV [48, 46, 49] 20 true = aH6 := by
  unfold kV; rw [hA, hB, if_neg (by decide), aR5]; exact aTs
 unfold aMo
 rw [aDk, if_neg (by decide), if_neg (by decide), show ((20 : Int).toNat) = 20 from rfl, e1, e2]
theorem aTt {x : Nat} (h : x < 18446744073709551616) : Lm [x] := by intro y hy; simp at hy; subst hy; exact h
theorem aS5 : dD aH5 aH6 = some (-1) := by
 rw [aMu aH5 aH6 (aTt (by decide)) (aTt (by decide))]
 have b1 : bl (nv [209715]) = 18 := aKy (k := 17) (by decide) (by decide)
 have b2 : bl (nv [838861]) = 20 := aKy (k := 19) (by decide) (by decide)
 have m1 : gJ aH5 = true ∧ gJ aH6 = true := by decide +kernel
 have s1 : lC aH5 = 1 := by unfold lC; rw [m1.1]; decide
 have s2 : lC aH6 = 1 := by unfold lC; rw [m1.2]; decide
 have sz : aCA aH5 aH6 = -1 := by
  unfold aCA aH5 aH6
  simp only [b1, b2]
  decide +kernel
 unfold aG4
 rw [m1.1, m1.2, s1, s2, sz, if_neg (by decide), if_neg (by decide), if_neg (by decide), if_neg (by decide)]
 rfl
theorem aS6 : dC nP nP = some true := by
 rw [aND nP nP (by decide)]; decide
theorem aJT : kM = some true := by
 have a := aSX
 have b := aSY
 have n := aS0
 have c := aSZ
 have d := aS1
 have e := aS2
 have f := aS4
 have g := aS5
 have h := aS6
 unfold nP at a b n d h
 unfold aAK at n c
 unfold aH5 aH6 at f g
 obtain ⟨f1, f2, f3, f4, f5⟩ := aS3
 have s1 : aP ⟨#[48, 46, 49, 50, 53]⟩ = [48, 46, 49, 50, 53] := rfl
 have s2 : aP ⟨#[48, 46, 49]⟩ = [48, 46, 49] := rfl
 have s3 : aP ⟨#[48, 46, 49, 50]⟩ = [48, 46, 49, 50] := rfl
 have s4 : aP ⟨#[48, 46, 49, 51]⟩ = [48, 46, 49, 51] := rfl
 have s5 : aP ⟨#[45, 48, 46, 49, 51]⟩ = [45, 48, 46, 49, 51] := rfl
 have w1 : bQ (aP ⟨#[49, 46, 53, 101, 45, 51]⟩) = some true := by rw [show aP ⟨#[49, 46, 53, 101, 45, 51]⟩ = [49, 46, 53, 101, 45, 51] from rfl, aCu _ (by decide), f1]
 have w2 : bQ (aP ⟨#[49, 46]⟩) = some false := by rw [show aP ⟨#[49, 46]⟩ = [49, 46] from rfl, aCu _ (by decide), f2]
 have w3 : bQ (aP ⟨#[46, 53]⟩) = some false := by rw [show aP ⟨#[46, 53]⟩ = [46, 53] from rfl, aCu _ (by decide), f3]
 have w4 : bQ (aP ⟨#[49, 101, 49, 48, 49]⟩) = some false := by rw [show aP ⟨#[49, 101, 49, 48, 49]⟩ = [49, 101, 49, 48, 49] from rfl, aCu _ (by decide), f4]
 have w5 : bQ (aP ⟨#[]⟩) = some false := by rw [show aP ⟨#[]⟩ = [] from rfl, aCu _ (by decide), f5]
 unfold kM
 simp only [s1, s2, s3, s4, s5, a, b, n, c, d, e, f, g, h, w1, w2, w3, w4, w5, Option.getD_some]
 simp [ck]
 exact ⟨by decide, by decide⟩
end Nu
end Go.Proofs
namespace Go.Proofs
open Go.Vc
set_option maxRecDepth 20000
namespace Nu
end Nu
end Go.Proofs
namespace Go.Proofs
open Go.Vc
set_option maxRecDepth 20000
namespace Nu
def hv : List Nat → Nat
 | [] => 0
 | x :: r => x + 65536 * hv r
def hb (n : Nat) : List Nat := if h : n = 0 then [] else n % 65536 :: hb (n / 65536)
termination_by n
decreasing_by exact Nat.div_lt_self (by omega) (by decide)
end Nu
end Go.Proofs
namespace Go.Proofs
open Go.Vc
set_option maxRecDepth 20000
namespace Nu
end Nu
end Go.Proofs
namespace Go.Proofs
open Go.Vc
set_option maxRecDepth 20000
namespace Nu
end Nu
end Go.Proofs
namespace Go.Proofs
open Go.Vc
set_option maxRecDepth 20000
namespace Nu
end Nu
end Go.Proofs
namespace Go.Proofs
open Go.Vc
set_option maxRecDepth 20000
namespace Nu
end Nu
end Go.Proofs
namespace Go.Proofs
open Go.Vc
set_option maxRecDepth 20000
namespace Nu
end Nu
end Go.Proofs
namespace Go.Proofs
open Go.Vc
set_option maxRecDepth 20000
namespace Nu
end Nu
end Go.Proofs
namespace Go.Proofs
open Go.Vc
set_option maxRecDepth 20000
namespace Nu
end Nu
end Go.Proofs
namespace Go.Proofs
open Go.Vc
set_option maxRecDepth 20000
namespace Nu
end Nu
end Go.Proofs
namespace Go.Proofs
open Go.Vc
set_option maxRecDepth 20000
namespace Nu
abbrev VS : Type := Nat × Int × Nat × Bool × Bool × Bool
def v0 : VS := (0, 0, 0, false, false, false)
end Nu
end Go.Proofs
namespace Go.Proofs
open Go.Vc
set_option maxRecDepth 20000
namespace Nu
end Nu
end Go.Proofs
namespace Go.Proofs
open Go.Vc
set_option maxRecDepth 20000
namespace Nu
noncomputable def qD (d_0 : (Bool × ((List Nat) × (Int × Unit)))) : Option Bool :=
 some (decide ((((((d_0.2).1).length) : Nat) : Int) ≤ (70 : Int)))
def aEf : PlR := ⟨[(0, .B [1]), (1, .A [2])], []⟩
def aG6 : Ty := .pair (.pair .bool (.pair (.sl (.u .u64)) (.pair (.i .i64) .unit))) .unit
noncomputable def vB : aL := mSpec aG6 (.one .bool) (fun x => qD x.1)
noncomputable def aMv : List (FuncId × aL) := []
theorem aMw : bV Tryz.prog GL aMv := .nil
attribute [go_sem] aG6 aEf
set_option maxHeartbeats 4000000 in
theorem aLs : FOK Tryz.prog GL 30 vB := by
 refine cB (bL aMw) mix Tryz.func30 rfl (by kernel_rfl) (by decide) aEf fun w0 S x Θ hw h hF => ?_
 obtain ⟨(d_0 : (Bool × ((List Nat) × (Int × Unit)))), u⟩ := x
 simp only [cA, go_sem]
 replace h : sat (qD d_0) _ := h
 unfold qD at h
 exact aS hF [.tmp 2] rfl rfl rfl (aD h) (by simp only [aY, go_sem])
attribute [go_sem] vB
noncomputable def mI (d_0 : (Bool × ((List Nat) × (Int × Unit)))) (digits_1 : Int) : Option Bool :=
 ck ((¬ ((4 : Int) < (((((d_0.2).1).length) : Nat) : Int)) → (((cG d_0).isSome = true)))) (ck ((¬ ((((((4 : Int) < (((((d_0.2).1).length) : Nat) : Int)) ∨ (¬ (((cG d_0).getD false) = true))) ∨ ((d_0.1) = true)) ∨ ((((d_0.2).2).1) < (-60 : Int))) ∨ ((100 : Int) < (((d_0.2).2).1))) → (((qD d_0).isSome = true)))) (if ((((((4 : Int) < (((((d_0.2).1).length) : Nat) : Int)) ∨ (¬ (((cG d_0).getD false) = true))) ∨ ((d_0.1) = true)) ∨ ((((d_0.2).2).1) < (-60 : Int))) ∨ ((100 : Int) < (((d_0.2).2).1))) ∨ (¬ (((qD d_0).getD false) = true)) then (kM).bind (fun v_8 => some v_8) else (aJ d_0 (IntKind.i64.wrap (((((digits_1 % (18446744073709551616 : Int)).toNat) % (41 : Nat)) : Nat) : Int)) false).bind (fun v_12 => (aJ d_0 (IntKind.i64.wrap (((((digits_1 % (18446744073709551616 : Int)).toNat) % (41 : Nat)) : Nat) : Int)) true).bind (fun v_16 => if (¬ (((v_12.2).1) = (0 : Int))) ∨ (¬ (((v_16.2).1) = (0 : Int))) then some false else if ((60 : Int) < ((((v_12.1).length) : Nat) : Int)) ∨ ((60 : Int) < ((((v_16.1).length) : Nat) : Int)) then (kM).bind (fun v_22 => some v_22) else (bT (v_12.1) (1000 : Int)).bind (fun v_24 => (bT (v_16.1) (1000 : Int)).bind (fun v_26 => ck ((¬ ((¬ (((v_24.2).1) = (0 : Int))) ∨ (¬ (((v_26.2).1) = (0 : Int)))) → (((dD ((v_24.1).1) d_0).isSome = true)))) (ck ((¬ (((¬ (((v_24.2).1) = (0 : Int))) ∨ (¬ (((v_26.2).1) = (0 : Int)))) ∨ ((0 : Int) < ((dD ((v_24.1).1) d_0).getD (0 : Int)))) → (((dD d_0 (((v_26.1).2).1)).isSome = true)))) (if (((¬ (((v_24.2).1) = (0 : Int))) ∨ (¬ (((v_26.2).1) = (0 : Int)))) ∨ ((0 : Int) < ((dD ((v_24.1).1) d_0).getD (0 : Int)))) ∨ ((0 : Int) < ((dD d_0 (((v_26.1).2).1)).getD (0 : Int))) then some false else (bB (v_12.1)).bind (fun v_28 => (kM).bind (fun v_32 => ck (((v_32 = true) → (((v_28.2).1) = (0 : Int)) → (((dC (v_28.1) d_0).isSome = true)))) (some (v_32 && ((decide ((v_12.1) = (v_16.1))) == ((decide (((v_28.2).1) = (0 : Int))) && ((dC (v_28.1) d_0).getD false)))))))))))))))
def yL : PlR := ⟨[(0, .B [1, 2]), (1, .A [2, 5]), (2, .A [2, 5, 47]), (3, .A [4]), (4, .A [2, 5, 6, 7]), (5, .A [2, 6, 7, 8, 9]), (6, .A [2, 6, 8, 66]), (7, .A [4]), (8, .A [2, 6, 8, 74]), (9, .A [4]), (10, .B [2, 6, 8, 10, 11]), (11, .B [2, 6, 8, 10, 11, 12, 13]), (12, .A [2, 6, 8, 105]), (13, .A [4]), (14, .B [2, 6, 8, 14, 15]), (15, .A [4])], []⟩
def pE : Ty := .pair (.pair .bool (.pair (.sl (.u .u64)) (.pair (.i .i64) .unit))) (.pair (.i .i64) .unit)
noncomputable def yM : aL := mSpec pE (.one .bool) (fun x => mI x.1 x.2.1)
noncomputable def fA : List (FuncId × aL) := [(18, sL), (19, pZ), (21, mR), (27, oB), (29, dX), (30, vB), (31, nX), (32, mU)]
theorem aG7 : bV Tryz.prog GL fA := .cons aJP (by kernel_rfl) (.cons aGD (by kernel_rfl) (.cons aCs (by kernel_rfl) (.cons aD9 (by kernel_rfl) (.cons nW (by kernel_rfl) (.cons aLs (by kernel_rfl) (.cons aDW (by kernel_rfl) (.cons aCx (by kernel_rfl) (.nil))))))))
theorem aCB : gam fA 18 = some sL := rfl
theorem aCC : gam fA 19 = some pZ := rfl
theorem aCD : gam fA 21 = some mR := rfl
theorem aCE : gam fA 27 = some oB := rfl
theorem aCF : gam fA 29 = some dX := rfl
theorem aCG : gam fA 30 = some vB := rfl
theorem aCH : gam fA 31 = some nX := rfl
theorem aCI : gam fA 32 = some mU := rfl
attribute [go_sem] pE yL aCB aCC aCD aCE aCF aCG aCH aCI
set_option maxHeartbeats 4000000 in
theorem aEL : FOK Tryz.prog GL 6 yM := by
 refine cB (bL aG7) mix Tryz.func6 rfl (by kernel_rfl) (by decide) yL fun w0 S x Θ hw h hF => ?_
 obtain ⟨(d_0 : (Bool × ((List Nat) × (Int × Unit)))), (digits_1 : Int), u⟩ := x
 simp only [cA, go_sem]
 replace h : sat (mI d_0 digits_1) _ := h
 unfold mI at h
 obtain ⟨g0, h⟩ := aK h
 obtain ⟨g1, h⟩ := aK h
 repeat (refine ⟨by first | with_reducible assumption | omega | (intros; first | assumption | omega) | (simp only [go_sem] at *; first | assumption | omega) | (intro q0; (try have e0 := g0 (by first | exact q0 | omega | (simpa using q0))); (try have e1 := g1 (by first | exact q0 | omega | (simpa using q0))); first | assumption | omega) | decide, ?_⟩)
 refine ⟨fun hc => ?_, fun hc => ?_⟩
 ·replace h := fL (by first | exact hc | omega | (simpa using hc) | (simp at hc ⊢; omega)) h
  obtain ⟨v_8, hv, h⟩ := qQ h
  try simp only [hv, go_sem]
  exact aS hF [.tmp 4] rfl rfl rfl (aD h) (by simp only [aY, go_sem])
 ·replace h := fM (by first | exact hc | omega | (simpa using hc) | (simp at hc ⊢; omega)) h
  obtain ⟨v_12, hv, h⟩ := qQ h
  try simp only [hv, go_sem]
  obtain ⟨v_16, hv, h⟩ := qQ h
  try simp only [hv, go_sem]
  refine ⟨fun hc => ?_, fun hc => ?_⟩
  ·replace h := fL hc h
   exact aS hF [.tmp 4] rfl rfl rfl (aD h) (by simp only [aY, go_sem])
  ·replace h := fM hc h
   refine ⟨fun hc => ?_, fun hc => ?_⟩
   ·replace h := fL hc h
    obtain ⟨v_22, hv, h⟩ := qQ h
    try simp only [hv, go_sem]
    exact aS hF [.tmp 4] rfl rfl rfl (aD h) (by simp only [aY, go_sem])
   ·replace h := fM hc h
    obtain ⟨v_24, hv, h⟩ := qQ h
    try simp only [hv, go_sem]
    obtain ⟨v_26, hv, h⟩ := qQ h
    try simp only [hv, go_sem]
    obtain ⟨g0, h⟩ := aK h
    obtain ⟨g1, h⟩ := aK h
    repeat (refine ⟨by first | with_reducible assumption | omega | (intros; first | assumption | omega) | (simp only [go_sem] at *; first | assumption | omega) | (intro q0; (try have e0 := g0 (by first | exact q0 | omega | (simpa using q0))); (try have e1 := g1 (by first | exact q0 | omega | (simpa using q0))); first | assumption | omega) | decide, ?_⟩)
    refine ⟨fun hc => ?_, fun hc => ?_⟩
    ·replace h := fL hc h
     exact aS hF [.tmp 4] rfl rfl rfl (aD h) (by simp only [aY, go_sem])
    ·replace h := fM hc h
     obtain ⟨v_28, hv, h⟩ := qQ h
     try simp only [hv, go_sem]
     obtain ⟨v_32, hv, h⟩ := qQ h
     try simp only [hv, go_sem]
     obtain ⟨g0, h⟩ := aK h
     repeat (refine ⟨by first | with_reducible assumption | omega | (intros; first | assumption | omega) | (simp only [go_sem] at *; first | assumption | omega) | (intro q0 q1; (try have e0 := g0 (by first | exact q0 | omega | (simpa using q0)) (by first | exact q1 | omega | (simpa using q1))); first | assumption | omega) | (rintro ⟨q0, q1⟩; (try have e0 := g0 (by first | exact q0 | omega | (simpa using q0)) (by first | exact q1 | omega | (simpa using q1))); first | assumption | omega) | decide, ?_⟩)
     exact aS hF [.tmp 4] rfl rfl rfl (aD h) (by simp only [aY, go_sem])
attribute [go_sem] yM
end Nu
end Go.Proofs
namespace Go.Proofs
open Go.Vc
set_option maxRecDepth 20000
namespace Nu
theorem aRT (x : Int) (k : Nat) (h : k ≤ 1000) (h0 : 0 < k) : ∃ n : Nat, n < k ∧ IntKind.i64.wrap ((((x % (18446744073709551616 : Int)).toNat % k : Nat) : Int)) = (n : Int) := by
 have key : ∀ r : Nat, r < 1000 → IntKind.i64.wrap (r : Int) = (r : Int) := fun r hr => by
  simp only [IntKind.wrap, IntKind.signed, IntKind.bits]; simp; omega
 have := Nat.mod_lt (x % (18446744073709551616 : Int)).toNat h0
 exact ⟨(x % (18446744073709551616 : Int)).toNat % k, this, key _ (by omega)⟩
theorem aQA {M K : Nat} {e : Int} (h : M < 2 ^ K) : (dN M e).2.1.length ≤ K := by
 rw [aAJ]
 refine jI.2 (Nat.lt_of_le_of_lt (Nat.div_le_self _ _) (Nat.lt_of_lt_of_le h ?_))
 rw [lK]
 exact p2m _ _ (by omega)
end Nu
end Go.Proofs
namespace Go.Proofs
open Go.Vc
set_option maxRecDepth 20000
namespace Nu
theorem aQB {R r N M P k T q : Nat} (h1 : R * 2 ^ r * T ≤ q * 2 ^ k) (h2 : q * 2 ^ N ≤ M * 2 ^ P * T) (hT : 0 < T) : R * 2 ^ (r + N) ≤ M * 2 ^ (P + k) := by
 refine Nat.le_of_mul_le_mul_right (c := T) ?_ hT
 have a := Nat.mul_le_mul_right (2 ^ N) h1
 have b := Nat.mul_le_mul_right (2 ^ k) h2
 have e1 : R * 2 ^ (r + N) * T = R * 2 ^ r * T * 2 ^ N := by rw [Nat.pow_add]; ac_rfl
 have e2 : q * 2 ^ k * 2 ^ N = q * 2 ^ N * 2 ^ k := by ac_rfl
 have e3 : M * 2 ^ (P + k) * T = M * 2 ^ P * T * 2 ^ k := by rw [Nat.pow_add]; ac_rfl
 omega
theorem aLt {R r N M P k T q : Nat} (h1 : q * 2 ^ k ≤ R * 2 ^ r * T) (h2 : M * 2 ^ P * T ≤ q * 2 ^ N) (hT : 0 < T) : M * 2 ^ (P + k) ≤ R * 2 ^ (r + N) := by
 refine Nat.le_of_mul_le_mul_right (c := T) ?_ hT
 have a := Nat.mul_le_mul_right (2 ^ N) h1
 have b := Nat.mul_le_mul_right (2 ^ k) h2
 have e1 : R * 2 ^ (r + N) * T = R * 2 ^ r * T * 2 ^ N := by rw [Nat.pow_add]; ac_rfl
 have e2 : q * 2 ^ k * 2 ^ N = q * 2 ^ N * 2 ^ k := by ac_rfl
 have e3 : M * 2 ^ (P + k) * T = M * 2 ^ P * T * 2 ^ k := by rw [Nat.pow_add]; ac_rfl
 omega
theorem aG8 {q n : Nat} (hq : q < 18446744073709551616 ^ 201) (hn : n ≤ 40) : 1000 + 1 + bl (10 ^ n) ≤ 100000 ∧ rn q (10 ^ n) 1000 (1000 + 1 + bl (10 ^ n)) ≤ 100000 := by
 have hT : 10 ^ n ≤ 10 ^ 40 := Nat.pow_le_pow_right (by decide) hn
 have hbl : bl (10 ^ n) ≤ 200 := rN (Nat.lt_of_le_of_lt hT (by decide))
 have hbq : bl q ≤ 64 * 201 := aQq 201 hq
 refine ⟨by omega, ?_⟩
 by_cases h0 : q = 0
 ·have : rn q (10 ^ n) 1000 (1000 + 1 + bl (10 ^ n)) = 0 := by
   unfold rn rq; rw [h0, Nat.zero_mul, Nat.zero_div]; rfl
  omega
 ·have hr := (aK8 (A := q) (B := 10 ^ n) (p := 1000) (k := 1000 + 1 + bl (10 ^ n)) h0).2
  unfold rE at hr
  omega
theorem aS7 {d : Dy} {n : Nat} {s : List Nat} (hd : gJ d = true) (nd : d.1 = false) (hn : n ≤ 40) (hx : txQ d n false < 18446744073709551616 ^ 201) (hA : aCt s = txQ d n false) (hB : aBu s = 10 ^ n) : aG4 (kV s 1000 false) d ≤ 0 := by
 have hq := aSU (n := n) nd
 obtain ⟨r1, r2⟩ := aG8 hx hn
 unfold kV
 rw [hA, hB]
 by_cases h0 : txQ d n false = 0
 ·rw [if_pos h0]
  exact aNF (R := 0) (r := 0) (k := 0) (K := 1) hd nd (by decide) (by decide) (by decide) (by decide) (by rw [Nat.zero_mul]; exact Nat.zero_le _)
 ·rw [if_neg h0]
  unfold aLe rE
  have e : rm2 (txQ d n false) (10 ^ n) 1000 (1000 + 1 + bl (10 ^ n)) false = rM (txQ d n false) (10 ^ n) 1000 (1000 + 1 + bl (10 ^ n)) := by
   unfold rm2; rw [if_neg (by rintro ⟨_, h⟩; cases h)]
  rw [e]
  exact aNF hd nd aR3 (by decide) r2 r1 (aQB lo_le hq (Nat.pow_pos (by decide)))
theorem aS8 {d : Dy} {n : Nat} {s : List Nat} (hd : gJ d = true) (nd : d.1 = false) (hn : n ≤ 40) (hx : txQ d n true < 18446744073709551616 ^ 201) (hA : aCt s = txQ d n true) (hB : aBu s = 10 ^ n) : aG4 d (kV s 1000 true) ≤ 0 := by
 have hq := (aQx (n := n) nd).1
 obtain ⟨r1, r2⟩ := aG8 hx hn
 have hT : 0 < 10 ^ n := Nat.pow_pos (by decide)
 unfold kV
 rw [hA, hB]
 by_cases h0 : txQ d n true = 0
 ·rw [if_pos h0]
  refine aNG (R := 0) (r := 0) (k := 0) (K := 1) hd nd (by decide) (by decide) (by decide) (by decide) ?_
  rw [h0] at hq
  exact aLt (q := 0) (T := 10 ^ n) (by omega) hq hT
 ·rw [if_neg h0]
  unfold aLe rE
  exact aNG hd nd aQb (by decide) r2 r1 (aLt (aTq (by omega)) hq hT)
theorem aOv {d : Dy} {n : Nat} {s : List Nat} (lm : Lm d.2.1) (hd : gJ d = true) (nd : d.1 = false) (hf : (dI s).2.2.1 = true) (hp : (dI s).2.1 = -(n : Int)) (hN : exN s = txQ d n false) (hD : exD s = 5 ^ n) :
  (txQ d n true = txQ d n false) ↔ ((qA s).2.1 = 0 ∧ (qA s).1 = d) := by
 obtain ⟨_, nm, _, _⟩ := oA hd
 have h5 : 0 < 5 ^ n := Nat.pow_pos (by decide)
 have hZ := Nat.two_pow_pos (max (-d.2.2.1) 0).toNat
 have t10 : 10 ^ n = 2 ^ n * 5 ^ n := by rw [← Nat.mul_pow]
 have hex : qA s = if txQ d n false % 5 ^ n ≠ 0 then (d0, 6, ()) else (dN (txQ d n false / 5 ^ n) (-(n : Int)), 0, ()) := by
  unfold qA
  rw [if_neg (fun h => h hf), hN, hD, hp]
 rw [(aQx nd).2]
 have hlo : txQ d n false = txM d n / 2 ^ (max (-d.2.2.1) 0).toNat := by
  unfold txQ; simp only
  rw [if_neg (by rw [nd]; rintro ⟨_, h⟩; cases h)]
 have hX : txM d n = nv d.2.1 * 2 ^ (max d.2.2.1 0).toNat * 10 ^ n := rfl
 constructor
 ·intro hz
  have hq : txQ d n false * 2 ^ (max (-d.2.2.1) 0).toNat = txM d n := by
   have := Nat.div_add_mod (txM d n) (2 ^ (max (-d.2.2.1) 0).toNat)
   rw [hz, Nat.add_zero, Nat.mul_comm] at this
   rw [hlo]; exact this
  have hdv : 5 ^ n ∣ txQ d n false := by
   have h1 : 5 ^ n ∣ txQ d n false * 2 ^ (max (-d.2.2.1) 0).toNat := by
    rw [hq, hX, t10, ← Nat.mul_assoc]; exact Nat.dvd_mul_left _ _
   exact (Nat.Coprime.pow n _ (by decide : Nat.Coprime 5 2)).dvd_of_dvd_mul_right h1
  obtain ⟨r, hr⟩ := hdv
  have hm : txQ d n false % 5 ^ n = 0 := by rw [hr, Nat.mul_mod_right]
  have hdiv : txQ d n false / 5 ^ n = r := by rw [hr, Nat.mul_div_cancel_left _ h5]
  have hv : r * 2 ^ (max (-d.2.2.1) 0).toNat = nv d.2.1 * 2 ^ ((max d.2.2.1 0).toNat + n) := by
   refine Nat.eq_of_mul_eq_mul_right h5 ?_
   have e1 : r * 2 ^ (max (-d.2.2.1) 0).toNat * 5 ^ n = txQ d n false * 2 ^ (max (-d.2.2.1) 0).toNat := by rw [hr]; ac_rfl
   have e2 : nv d.2.1 * 2 ^ ((max d.2.2.1 0).toNat + n) * 5 ^ n = txM d n := by rw [hX, t10, Nat.pow_add]; ac_rfl
   rw [e1, e2, hq]
  rw [hex, if_neg (fun h => h hm), hdiv]
  refine ⟨rfl, ?_⟩
  obtain ⟨s0, M, E, u⟩ := d
  have nd : s0 = false := nd
  subst nd
  simp only at *
  unfold dN
  by_cases hM : M.length = 0
  ·have hM0 : M = [] := List.eq_nil_of_length_eq_zero hM
   have hE : E = 0 := by
    unfold gJ at hd
    simp only at hd
    rw [if_pos hM] at hd
    simpa using hd
   have hr0 : r = 0 := by
    rw [hM0, zW, Nat.zero_mul] at hv
    rcases Nat.mul_eq_zero.1 hv with h | h
    ·exact h
    ·omega
   rw [if_pos hr0, hM0, hE]; rfl
  ·have hodd : nv M % 2 = 1 := by
    unfold gJ at hd
    simp only at hd
    rw [if_neg hM] at hd
    simp only [Bool.and_eq_true, decide_eq_true_iff] at hd
    have h1 := hd.1.1.2
    rw [kR lm, Nat.pow_zero, Nat.div_one] at h1
    omega
   have hr0 : r ≠ 0 := by
    intro h
    rw [h, Nat.zero_mul] at hv
    rcases Nat.mul_eq_zero.1 hv.symm with h | h
    ·omega
    ·have := Nat.two_pow_pos ((max E 0).toNat + n); omega
   have t1 : tzn (r * 2 ^ (max (-E) 0).toNat) = (max (-E) 0).toNat + tzn r := by rw [Nat.mul_comm]; exact aNo _ hr0
   have t2 : tzn (nv M * 2 ^ ((max E 0).toNat + n)) = (max E 0).toNat + n := xI (m := nv M / 2) (by rw [Nat.mul_comm]; congr 1; omega)
   rw [hv, t2] at t1
   obtain ⟨p1, p2⟩ := tS hr0
   have hMr : r / 2 ^ tzn r = nv M := by
    refine Nat.eq_of_mul_eq_mul_right (Nat.two_pow_pos ((max E 0).toNat + n)) ?_
    rw [← hv, t1, Nat.add_comm, Nat.pow_add, ← Nat.mul_assoc, p1]
   rw [if_neg hr0, hMr, aKw lm nm, show -(n : Int) + (tzn r : Int) = E from by omega]
 ·rintro ⟨h1, h2⟩
  rw [hex] at h1 h2
  by_cases hm : txQ d n false % 5 ^ n = 0
  ·rw [if_neg (fun h => h hm)] at h2
   have h2 : dN (txQ d n false / 5 ^ n) (-(n : Int)) = d := h2
   obtain ⟨v1, v2⟩ := aDj (txQ d n false / 5 ^ n) (-(n : Int)) (-(n : Int) - (max (-d.2.2.1) 0)) (by omega) (by omega)
   rw [h2] at v2
   rw [show (d.2.2.1 - (-(n : Int) - (max (-d.2.2.1) 0))).toNat = (max d.2.2.1 0).toNat + n from by omega, show (-(n : Int) - (-(n : Int) - (max (-d.2.2.1) 0))).toNat = (max (-d.2.2.1) 0).toNat from by omega] at v2
   have hr := Nat.div_add_mod (txQ d n false) (5 ^ n)
   rw [hm, Nat.add_zero] at hr
   have e2 : txM d n = nv d.2.1 * 2 ^ ((max d.2.2.1 0).toNat + n) * 5 ^ n := by rw [hX, t10, Nat.pow_add]; ac_rfl
   rw [e2, v2]
   have e3 : txQ d n false / 5 ^ n * 2 ^ (max (-d.2.2.1) 0).toNat * 5 ^ n = (5 ^ n * (txQ d n false / 5 ^ n)) * 2 ^ (max (-d.2.2.1) 0).toNat := by ac_rfl
   rw [e3, Nat.mul_mod_left]
  ·rw [if_pos hm] at h1; cases h1
theorem aII (s : List Nat) (p : Nat) (up : Bool) : Lm (kV s p up).2.1 := by
 unfold kV
 split
 ·intro x hx; cases hx
 ·exact aQw _ _
theorem aQC {d : Dy} {n : Nat} {up : Bool} (lm : Lm d.2.1) (hl : d.2.1.length ≤ 64) (he : d.2.2.1 ≤ 2000) (hn : n ≤ 60) : txQ d n up < 18446744073709551616 ^ 201 := by
 have hM := aQr (k := n) lm hl he hn
 have h2 : 18446744073709551616 ^ 201 = 18446744073709551616 ^ 200 * 18446744073709551616 := Nat.pow_succ ..
 have h3 := Nat.div_le_self (txM d n) (2 ^ (max (-d.2.2.1) 0).toNat)
 have h4 : 18446744073709551616 ^ 200 * 2 ≤ 18446744073709551616 ^ 200 * 18446744073709551616 := Nat.mul_le_mul_left _ (by decide)
 unfold txQ; simp only
 split <;> omega
theorem aOw (d : Dy) (n : Nat) (lm : Lm d.2.1) (hn : n ≤ 40) (hl : d.2.1.length ≤ 4) (hd : gJ d = true) (nd : d.1 = false) (he : -60 ≤ d.2.2.1 ∧ d.2.2.1 ≤ 100) (a b : List Nat) (ha : a = ptS n (nO n (txt (txQ d n false)))) (hb : b = ptS n (nO n (txt (txQ d n true)))) (la : a.length ≤ 60) (lb' : b.length ≤ 60) :
  aMo a 1000 = ((kV a 1000 false, kV a 1000 true, ()), 0, ()) ∧ aMo b 1000 = ((kV b 1000 false, kV b 1000 true, ()), 0, ()) ∧ aG4 (kV a 1000 false) d ≤ 0 ∧ aG4 d (kV b 1000 true) ≤ 0 ∧ (a = b ↔ ((qA a).2.1 = 0 ∧ (qA a).1 = d)) := by
 have fa := aG5 n (txQ d n false) (by rw [← ha]; exact la)
 have fb := aG5 n (txQ d n true) (by rw [← hb]; exact lb')
 obtain ⟨a1, a2, a3, a4⟩ := aNE n (txQ d n false) (by rw [← ha]; exact la)
 obtain ⟨b1, b2, b3, b4⟩ := aNE n (txQ d n true) (by rw [← hb]; exact lb')
 rw [← ha] at fa a1 a2 a3 a4
 rw [← hb] at fb b1 b2 b3 b4
 have oa : (dI a).2.2.1 = true := by rw [fa]
 have ob : (dI b).2.2.1 = true := by rw [fb]
 have qa : txQ d n false < 18446744073709551616 ^ 201 := aQC lm (by omega) (by omega) (by omega)
 have qb : txQ d n true < 18446744073709551616 ^ 201 := aQC lm (by omega) (by omega) (by omega)
 refine ⟨?_, ?_, aS7 hd nd hn qa a1 a2, aS8 hd nd hn qb b1 b2, ?_⟩
 ·unfold aMo; rw [if_neg (fun h => h oa), if_neg (by omega)]; rfl
 ·unfold aMo; rw [if_neg (fun h => h ob), if_neg (by omega)]; rfl
 ·rw [← aOv lm hd nd oa (by rw [fa]) a3 a4]
  constructor
  ·intro h
   rw [h, b1] at a1
   exact a1
  ·intro h; rw [ha, hb, h]
theorem aJU (d : Dy) (g : Int) (lm : Lm d.2.1) : mI d g = some true := by
 obtain ⟨n, hn, en⟩ := aRT g 41 (by decide) (by decide)
 have hfew : qD d = some (decide ((d.2.1.length : Int) ≤ 70)) := rfl
 unfold mI
 simp only [en, xY, hfew, Option.getD_some, Option.isSome_some]
 refine aB (fun _ => trivial) (aB (fun _ => trivial) ?_)
 by_cases h : (((((4 : Int) < (d.2.1.length : Int) ∨ ¬ (gJ d = true)) ∨ d.1 = true) ∨ d.2.2.1 < -60) ∨ 100 < d.2.2.1) ∨ ¬ (decide ((d.2.1.length : Int) ≤ 70) = true)
 ·rw [if_pos h]; exact bZ aJT rfl
 ·rw [if_neg h]
  have hl : d.2.1.length ≤ 4 := by omega
  have hd : gJ d = true := by
   cases hm : gJ d with
   | true => rfl
   | false => exact absurd (.inl (.inl (.inl (.inl (.inr (by rw [hm]; decide)))))) h
  have nd : d.1 = false := by
   cases hm : d.1 with
   | false => rfl
   | true => exact absurd (.inl (.inl (.inl (.inr hm)))) h
  have he : -60 ≤ d.2.2.1 ∧ d.2.2.1 ≤ 100 := by omega
  have ht : ∀ up, aG3 d (n : Int) up = (ptS n (nO n (txt (txQ d n up))), 0, ()) := fun up => by
   unfold aG3
   rw [if_neg (by rw [hd]; rintro (h | h | h); cases h; omega; omega), if_neg (by omega), Int.toNat_natCast]
   unfold sgS
   rw [if_neg (by rw [nd]; rintro ⟨h, _⟩; cases h)]
  have key := aOw d n lm (by omega) hl hd nd he _ _ rfl rfl
  have t1 := aCz d (n : Int) false lm
  have t2 := aCz d (n : Int) true lm
  rw [ht] at t1 t2
  generalize ptS n (nO n (txt (txQ d n false))) = a at *
  generalize ptS n (nO n (txt (txQ d n true))) = b at *
  refine bZ t1 (bZ t2 ?_)
  simp only
  rw [if_neg (by simp)]
  by_cases hlen : ((60 : Int) < (a.length : Int)) ∨ ((60 : Int) < (b.length : Int))
  ·rw [if_pos hlen]; exact bZ aJT rfl
  ·rw [if_neg hlen]
   obtain ⟨k1, k2, k3, k4, k5⟩ := key (by omega) (by omega)
   have q1 := aMp a 1000 (by omega)
   have q2 := aMp b 1000 (by omega)
   rw [k1] at q1
   rw [k2] at q2
   refine bZ q1 (bZ q2 ?_)
   simp only [aMu _ _ (aII a 1000 false) lm, aMu _ _ lm (aII b 1000 true), Option.getD_some, Option.isSome_some]
   refine aB (fun _ => trivial) (aB (fun _ => trivial) ?_)
   rw [if_neg (by rintro ((( h | h) | h) | h); exact h trivial; exact h trivial; omega; omega)]
   refine bZ (aGN a (by omega)) (bZ aJT ?_)
   have hxl : (qA a).1.2.1.length ≤ 9223372036854775807 := by
    unfold qA
    split
    ·exact Nat.zero_le _
    ·split
     ·exact Nat.zero_le _
     ·exact Nat.le_trans (aQA (K := 900) (Nat.lt_of_le_of_lt (Nat.div_le_self _ _) (aQl a))) (by decide)
   rw [aND _ d hxl]
   refine aB (fun _ _ => rfl) ?_
   rw [Option.getD_some, Bool.true_and]
   congr 1
   generalize qA a = x at *
   obtain ⟨c, e, u⟩ := x
   obtain ⟨c1, c2, c3, u'⟩ := c
   obtain ⟨d1, d2, d3, u''⟩ := d
   by_cases hab : a = b
   ·obtain ⟨z1, z2⟩ := k5.1 hab
    have z1 : e = 0 := z1
    have z2 : (c1, c2, c3, u') = (d1, d2, d3, u'') := z2
    injection z2 with y1 y2; injection y2 with y2 y3; injection y3 with y3 y4
    simp [hab, z1, y1, y2, y3]
   ·rw [decide_eq_false hab]
    by_cases z1 : e = 0
    ·have : ¬ (c1 = d1 ∧ c3 = d3 ∧ c2 = d2) := by
      rintro ⟨y1, y2, y3⟩
      exact hab (k5.2 ⟨z1, by rw [y1, y2, y3]⟩)
     by_cases y1 : c1 = d1
     ·by_cases y2 : c3 = d3
      ·have y3 : ¬ c2 = d2 := fun y3 => this ⟨y1, y2, y3⟩
       simp [y3]
      ·simp [y2]
     ·have : (c1 == d1) = false := by simpa using y1
      simp [this]
    ·simp [z1]
end Nu
end Go.Proofs
