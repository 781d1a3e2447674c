import Derived.Test.YtabdejmolnikaaaGreatDoorZS3
import Derived.Lib.ItoaNum
set_option linter.unusedVariables false
set_option linter.unusedSimpArgs false
namespace Go.Proofs
open Go.Vc
set_option maxRecDepth 20000
namespace Nu
def exN (s : List Nat) : Nat := mK (eO s).1 * 5 ^ (max (eO s).2.1 0).toNat
def exD (s : List Nat) : Nat := 5 ^ (max (-(eO s).2.1) 0).toNat
def aMq (s : List Nat) : Dy × Int × Unit :=
 if ¬ (eO s).2.2.1 = true then (d0, 6, ())
 else if exN s % exD s ≠ 0 then (d0, 6, ())
 else (iA (exN s / exD s) (eO s).2.1, 0, ())
theorem aOf (n : Nat) : 5 ^ n ≤ 2 ^ (4 * n) := Nat.le_trans (Nat.pow_le_pow_left (by decide) n) (oU n)
theorem aWo (s : List Nat) : exN s < 2 ^ 900 := by
 obtain ⟨h1, h2, h3, h4⟩ := wN s
 have a := aB2 h1
 have b := oU (eO s).1.length
 have c := aOf (max (eO s).2.1 0).toNat
 unfold exN
 have d := Nat.mul_lt_mul_of_lt_of_le (Nat.lt_of_lt_of_le a b) c (Nat.pow_pos (by decide))
 rw [← Nat.pow_add] at d
 exact aOa 900 d (by omega)
theorem aUR (s : List Nat) : exD s ≠ 0 := by
 unfold exD
 have := Nat.pow_pos (n := (max (-(eO s).2.1) 0).toNat) (show 0 < 5 by decide)
 omega
theorem aOg (s : List Nat) (hs : s.length ≤ 4611686018427387904) : bE s = some (aMq s) := by
 obtain ⟨h1, h2, h3, h4⟩ := wN s
 unfold bE aMq
 simp only [aPt s hs, Option.getD_some]
 refine aA rfl ?_
 by_cases h : (eO s).2.2.1 = true
 ·simp only [h, not_true, if_false]
  have e1 := aK1 (eO s).1 h1 (by omega)
  have e2 := aBR 5 (max (eO s).2.1 0).toNat (by decide) (by omega)
  have e3 := aBR 5 (max (-(eO s).2.1) 0).toNat (by decide) (by omega)
  rw [show (((max (eO s).2.1 0).toNat : Nat) : Int) = max (eO s).2.1 0 from by omega] at e2
  rw [show (((max (-(eO s).2.1) 0).toNat : Nat) : Int) = max (0 - (eO s).2.1) 0 from by omega] at e3
  have l1 : (lb (mK (eO s).1)).length ≤ 15 := aEB (by
   have a := aB2 h1
   have b := oU (eO s).1.length
   exact aOa 900 (Nat.lt_of_lt_of_le a b) (by omega))
  have l2 : (lb (5 ^ (max (eO s).2.1 0).toNat)).length ≤ 15 := aEB (aBP 900 (aOf _) (by omega))
  have ht : bA (lb (mK (eO s).1)) (lb (5 ^ (max (eO s).2.1 0).toNat)) = lb (exN s) := by
   unfold bA exN; rw [eZ, eZ]
  have hq : bD (lb (exN s)) (lb (exD s)) = (lb (exN s / exD s), lb (exN s % exD s), ()) := by
   unfold bD; rw [eZ, eZ]
  have hN := aWo s
  have hlt : exN s / exD s < 2 ^ 900 := Nat.lt_of_le_of_lt (Nat.div_le_self _ _) hN
  have hF : bL false (lb (exN s / exD s)) (eO s).2.1 = some (iA (exN s / exD s) (eO s).2.1, 0, ()) := by
   rw [aPo false _ _ (aAE _) (tS _) (by have := aEB hlt; omega), eZ, aMo hlt (by decide) (by constructor <;> omega)]
  have hD : lb (5 ^ (max (-(eO s).2.1) 0).toNat) = lb (exD s) := rfl
  rw [hD] at e3
  simp only [e1, e2, e3, Option.getD_some, ht, hq, hF]
  refine aA rfl (aA rfl (aA ⟨?_, ?_⟩ (aA (by constructor <;> omega) (aA rfl (aA ⟨tS _, tS _, by rw [eZ]; exact aUR s, ?_⟩ (aA rfl ?_))))))
  ·show (lb (mK (eO s).1)).length ≤ _; omega
  ·show (lb (5 ^ (max (eO s).2.1 0).toNat)).length ≤ _; omega
  ·have := aEB hN; omega
  ·by_cases hr : exN s % exD s = 0
   ·rw [if_neg (by rw [hr, gB]; simp), if_neg (fun h => h hr)]
   ·have hl := List.length_pos_iff.2 (fun e => hr (wA.1 e))
    rw [if_pos (.inl (by omega)), if_pos hr]; rfl
 ·simp only [h, not_false_eq_true, if_true, Bool.false_eq_true]; rfl
end Nu
end Go.Proofs
namespace Go.Proofs
open Go.Vc
set_option maxRecDepth 20000
namespace Nu
def aAA (u : Nat) : List Nat := dgs (Lib.nDigits u) u
theorem aTy {u : Nat} (h : u < 10) : aAA u = [48 + u] := by
 unfold aAA
 rw [Lib.nDigits_small h]
 simp [dgs, Nat.mod_eq_of_lt h]
theorem aPu {u : Nat} (h : ¬ u < 10) (h2 : u < 100) : aAA u = [48 + u / 10, 48 + u % 10] := by
 unfold aAA
 rw [Lib.nDigits_big h, Lib.nDigits_small (by omega)]
 have : u / 10 % 10 = u / 10 := Nat.mod_eq_of_lt (by omega)
 simp [dgs, List.range_succ, this]
theorem aRC : ∀ u : Fin 100, (if u.val < 10 then List.drop u.val (List.take (u.val + 1) (aO wM)) else List.drop (u.val * 2) (List.take (u.val * 2 + 2) (aO wL))) = if u.val < 10 then [48 + u.val] else [48 + u.val / 10, 48 + u.val % 10] := by
 decide +kernel
theorem aRD : (aO wM).length = 36 ∧ (aO wL).length = 200 := by decide +kernel
theorem aTz (u : Nat) (h : u < 100) : fW (u : Int) = some (aAA u) := by
 have ht := aRC ⟨u, h⟩
 obtain ⟨l1, l2⟩ := aRD
 simp only at ht
 unfold fW
 by_cases h1 : u < 10
 ·rw [if_pos h1, if_pos h1] at ht
  rw [if_pos (by omega), l1, aTy h1]
  refine aA (by constructor <;> omega) (aA (by constructor <;> omega) ?_)
  rw [Int.toNat_natCast, show ((u : Int) + 1).toNat = u + 1 from by omega, ht]
 ·rw [if_neg h1, if_neg h1] at ht
  rw [if_neg (by omega), l2, aPu h1 h]
  refine aA (by constructor <;> omega) (aA (by constructor <;> omega) (aA (by constructor <;> omega) (aA (by constructor <;> omega) ?_)))
  rw [show ((u : Int) * 2).toNat = u * 2 from by omega, show ((u : Int) * 2 + 2).toNat = u * 2 + 2 from by omega, ht]
theorem aUS : ∀ k : Fin 20, ([1, 10, 100, 1000, 10000, 100000, 1000000, 10000000, 100000000, 1000000000, 10000000000, 100000000000, 1000000000000, 10000000000000, 100000000000000, 1000000000000000, 10000000000000000, 100000000000000000, 1000000000000000000, 10000000000000000000] : List Nat).getD k.val 0 = 10 ^ k.val := by decide +kernel
theorem aRE {u : Nat} (h1 : u ≠ 0) (h : u < 18446744073709551616) : Lib.bitLen u = bl u := by
 obtain ⟨a, b, c⟩ := Lib.bitLenAux_bounds 64 u h (by omega)
 unfold Lib.bitLen
 have h2 := sX c
 have h3 := aHs b
 omega
theorem aKn (u : Nat) (h1 : u ≠ 0) (h : u < 18446744073709551616) : bO u = some (Lib.nDigits u : Int) := by
 obtain ⟨k1, k2⟩ := Lib.numDigits_eq u (by omega) h
 rw [aRE h1 h] at k1 k2
 have hb := aRl h
 have hl : Int.fdiv ((bl u : Int) * 78913) (2 ^ 18) = (Lib.l10 (bl u) : Int) := by
  unfold Lib.l10
  rw [Int.fdiv_eq_ediv_of_nonneg _ (by decide)]
  omega
 have hlog : bS (cM u) = some (Lib.l10 (bl u) : Int) := by
  unfold bS cM
  refine aA (by constructor <;> omega) ?_
  rw [hl]
 have hp : p10.getD (Lib.l10 (bl u)) 0 = 10 ^ Lib.l10 (bl u) := by
  rw [aSX]; exact aUS ⟨Lib.l10 (bl u), by omega⟩
 have hbool : ∀ b : Bool, dP b = some (if b = true then 1 else 0) := fun b => by cases b <;> rfl
 unfold bO
 simp only [hlog, Option.getD_some, Int.toNat_natCast, hp, hbool]
 refine aA rfl (aA (by constructor <;> omega) (aA rfl ?_))
 by_cases hh : 10 ^ Lib.l10 (bl u) ≤ u
 ·rw [if_pos hh] at k1
  simp only [hh, decide_true, if_true]
  refine aA (by constructor <;> omega) ?_
  rw [show (Lib.l10 (bl u) : Int) + 1 = (Lib.nDigits u : Int) from by omega]
 ·rw [if_neg hh] at k1
  simp only [hh, decide_false, Bool.false_eq_true, if_false]
  refine aA (by constructor <;> omega) ?_
  rw [show (Lib.l10 (bl u) : Int) + 0 = (Lib.nDigits u : Int) from by omega]
theorem aKo (u : Nat) (h : u < 18446744073709551616) : cY u 10 = some (aAA u) := by
 have key : eC u 10 = some (aAA u) := by
  unfold eC
  rw [if_pos rfl]
  by_cases h1 : u < 100
  ·have hw : IntKind.i64.wrap ((u : Nat) : Int) = (u : Int) := by
    simp only [IntKind.wrap, IntKind.signed, IntKind.bits]; simp; omega
   rw [if_pos h1, hw]
   simp only [aTz u h1, Option.getD_some]
   exact aA rfl rfl
  ·rw [if_neg h1]
   have hn := aKn u (by omega) h
   obtain ⟨k1, k2⟩ := Lib.numDigits_eq u (by omega) h
   have hle : Lib.nDigits u ≤ 20 := by split at k1 <;> omega
   have hpos := Lib.nDigits_pos u
   have hlt := Lib.lt_pow_nDigits u
   simp only [hn, Option.getD_some]
   have e : ((Lib.nDigits u : Int) - 0).toNat = Lib.nDigits u := by omega
   rw [e]
   have hf : dN 0 (Lib.nDigits u) u (List.replicate 24 0) = some (aAA u ++ (List.replicate 24 0).drop (0 + Lib.nDigits u)) := by
    unfold dN
    refine aA (by omega) (aA hlt ?_)
    rfl
   refine aA rfl (aA (by constructor <;> omega) (aX hf (aA (by constructor <;> omega) (aA (by omega) ?_))))
   rw [List.drop_zero, List.take_append_of_le_length (by unfold aAA; rw [oZ]; exact Nat.le_refl _), List.take_of_length_le (by unfold aAA; rw [oZ]; exact Nat.le_refl _)]
 unfold cY
 rw [key]
 exact aA rfl rfl
end Nu
end Go.Proofs
namespace Go.Proofs
open Go.Vc
set_option maxRecDepth 20000
namespace Nu
theorem aWp : bK (aO sE) [48] = some false := by decide +kernel
theorem aWq : bK (aO sD) [48] = some false := by decide +kernel
theorem aWr : bK (aO pK) [48] = some true := by decide +kernel
theorem aWY : aO pK = List.replicate 64 48 := by decide +kernel
theorem aK3 (c : Nat) (h : c ≤ 64) : aP [48] (c : Int) = some (List.replicate c 48) := by
 have hw : IntKind.i64.wrap ((c : Nat) : Int) = (c : Int) := by
  simp only [IntKind.wrap, IntKind.signed, IntKind.bits]; simp; omega
 have hm : bJ (((([48] : List Nat).length : Nat) : Int) % (18446744073709551616 : Int)).toNat ((c : Int) % (18446744073709551616 : Int)).toNat = some (0, c, ()) := by
  have e1 : (((([48] : List Nat).length : Nat) : Int) % (18446744073709551616 : Int)).toNat = 1 := by decide
  have e2 : ((c : Int) % (18446744073709551616 : Int)).toNat = c := by omega
  rw [e1, e2]
  unfold bJ bH
  simp only
  rw [Nat.one_mul, Nat.div_eq_of_lt (by omega), Nat.mod_eq_of_lt (by omega)]
 unfold aP
 by_cases h0 : c = 0
 ·subst h0; rfl
 by_cases h1 : c = 1
 ·subst h1; rfl
 rw [if_neg (by omega), if_neg (by omega), if_neg (by omega)]
 simp only [hm, Option.getD_some]
 refine aA rfl ?_
 rw [if_neg (by omega), if_neg (by decide)]
 refine aA (by decide) ?_
 rw [if_neg (by decide), if_neg (by decide), if_pos (by decide)]
 have hd : decide ((([48] : List Nat).getD 0 0) = 48) = true := by decide
 rw [hd]
 unfold dK
 rw [if_pos rfl]
 simp only [hm, Option.getD_some, hw, aWp, aWq, aWr]
 refine aA (fun _ => rfl) ?_
 rw [if_neg (fun hh => by cases hh.2)]
 refine aA (fun _ => rfl) ?_
 rw [if_neg (fun hh => by cases hh.2)]
 refine aA (fun _ => rfl) ?_
 rw [if_pos ⟨by omega, trivial⟩, aWY]
 refine aA (by constructor; omega; rw [List.length_replicate]; omega) ?_
 rw [Int.toNat_natCast, List.take_replicate, Nat.min_eq_left h]
theorem aMr (a b x y : Nat) (hy : y < 10 ^ b) : dgs a x ++ dgs b y = dgs (a + b) (x * 10 ^ b + y) := by
 apply List.ext_getElem
 ·simp [dgs]
 ·intro i h1 h2
  have hi : i < a + b := by simpa [dgs] using h2
  by_cases hlt : i < a
  ·rw [List.getElem_append_left (by simpa [dgs] using hlt)]
   simp only [dgs, List.getElem_map, List.getElem_range]
   rw [show a + b - 1 - i = b + (a - 1 - i) from by omega, Nat.pow_add, ← Nat.div_div_eq_div_mul, Nat.mul_comm x, Nat.mul_add_div (Nat.pow_pos (by decide)), Nat.div_eq_of_lt hy, Nat.add_zero]
  ·rw [List.getElem_append_right (by simp [dgs]; omega)]
   simp only [dgs, List.length_map, List.length_range, List.getElem_map, List.getElem_range]
   have e1 : a + b - 1 - i = b - 1 - (i - a) := by omega
   rw [e1]
   congr 1
   have hk : b = (b - 1 - (i - a)) + (i - a + 1) := by omega
   have e2 : x * 10 ^ b = 10 ^ (b - 1 - (i - a)) * (x * 10 ^ (i - a) * 10) := by
    conv => lhs; rw [hk]
    rw [Nat.pow_add, Nat.pow_succ, Nat.mul_left_comm, Nat.mul_assoc x]
   rw [e2, Nat.mul_add_div (Nat.pow_pos (by decide)), Nat.add_comm, Nat.add_mul_mod_self_right]
theorem aOh (n : Nat) : dgs n 0 = List.replicate n 48 := by
 apply List.ext_getElem
 ·simp [dgs]
 ·intro i h1 h2; simp [dgs]
theorem aUT {k n r : Nat} (hk : k ≤ n) (hr : r < 10 ^ k) : List.replicate (n - k) 48 ++ dgs k r = dgs n r := by
 rw [← aOh, aMr _ _ _ _ hr, Nat.zero_mul, Nat.zero_add]
 congr 1; omega
theorem xU (u : Nat) (h0 : u ≠ 0) : 10 ^ (Lib.nDigits u - 1) ≤ u := by
 induction u using Nat.strongRecOn with
 | _ u ih =>
  by_cases h : u < 10
  ·rw [Lib.nDigits_small h]; simp; omega
  ·have := ih (u / 10) (by omega) (by omega)
   have hp := Lib.nDigits_pos (u / 10)
   rw [Lib.nDigits_big h, Nat.add_sub_cancel, show Lib.nDigits (u / 10) = Lib.nDigits (u / 10) - 1 + 1 from by omega, Nat.pow_succ]
   omega
theorem aMs {M b y : Nat} (hM : M ≠ 0) (hy : y < 10 ^ b) : Lib.nDigits (M * 10 ^ b + y) = Lib.nDigits M + b := by
 have h1 := Lib.lt_pow_nDigits M
 have h2 := Lib.nDigits_pos M
 have h3 := xU M hM
 have h4 := Nat.mul_le_mul_right (10 ^ b) h3
 have h5 := Nat.mul_le_mul_right (10 ^ b) (show M + 1 ≤ 10 ^ Lib.nDigits M from h1)
 rw [← Nat.pow_add] at h4 h5
 rw [Nat.add_mul, Nat.one_mul] at h5
 have := Lib.nDigits_unique (Lib.nDigits M - 1 + b) (M * 10 ^ b + y) (by omega) (by rw [show Lib.nDigits M - 1 + b + 1 = Lib.nDigits M + b from by omega]; omega)
 omega
theorem aOi {M b y : Nat} (hM : M ≠ 0) (hy : y < 10 ^ b) : aAA M ++ dgs b y = aAA (M * 10 ^ b + y) := by
 unfold aAA
 rw [aMs hM hy, aMr _ _ _ _ hy]
end Nu
end Go.Proofs
namespace Go.Proofs
open Go.Vc
set_option maxRecDepth 20000
namespace Nu
def cat (l : List (List Nat)) : List Nat := l.reverse.flatten
theorem aJe (l : List (List Nat)) (s : List Nat) : cat (l ++ [s]) = s ++ cat l := by simp [cat]
theorem aRF (l : List (List Nat)) (k : Nat) : cat l = cat (l.drop k) ++ cat (l.take k) := by
 unfold cat
 rw [← List.flatten_append, ← List.reverse_append, List.take_append_drop]
theorem aMt (l : List (List Nat)) (k : Nat) : (cat (l.take k)).length ≤ (cat l).length := by
 rw [aRF l k, List.length_append]; omega
theorem aUU (l : List (List Nat)) (h1 : l.length ≤ 1000000000) (h2 : (cat l).length ≤ 1000000000) : mT l = some (cat l) := by
 unfold mT
 refine aX (fN (step := fun d : (List Nat) × Int => jF l d.1 d.2) (I := fun d => 0 ≤ d.2 ∧ d.2 ≤ l.length ∧ d.1 = cat (l.take d.2.toNat)) (fun d => ((l.length : Int) - d.2).toNat) (fun _ => cat l) ?_ (aO ⟨#[]⟩, 0) ⟨by simp, by simp, rfl⟩) rfl
 rintro ⟨out, i⟩ ⟨i0, i1, i2⟩
 have i0 : 0 ≤ i := i0
 have i1 : i ≤ l.length := i1
 have i2 : out = cat (l.take i.toNat) := i2
 show (∃ d', jF l out i = _ ∧ _) ∨ jF l out i = _
 unfold jF
 by_cases hi : i < l.length
 ·left
  have hk : i.toNat < l.length := by omega
  have ht : cat (l.take (i + 1).toNat) = l.getD i.toNat [] ++ out := by
   rw [show (i + 1).toNat = i.toNat + 1 from by omega, List.take_succ_eq_append_getElem hk, aJe, i2, List.getD_eq_getElem?_getD, List.getElem?_eq_getElem hk]; rfl
  have hlen := aMt l (i + 1).toNat
  rw [ht, List.length_append] at hlen
  refine ⟨(cat (l.take (i + 1).toNat), i + 1), ?_, ⟨by simp only; omega, by simp only; omega, rfl⟩, by simp only; omega, rfl⟩
  rw [if_pos hi]
  refine aA (by constructor <;> omega) (aA (by omega) (aA (by constructor <;> omega) ?_))
  rw [ht]
 ·right
  rw [if_neg hi, i2, List.take_of_length_le (by omega)]
def txt (n : Nat) : List Nat := if n = 0 then [] else aAA n
structure TxI (n : Nat) (m : List Nat) (l : List (List Nat)) (M rest : Nat) : Prop where
 m0 : m = lb M
 sum : n = M * 10 ^ (18 * l.length) + rest
 lt : rest < 10 ^ (18 * l.length)
 str : cat l = dgs (18 * l.length) rest
 pos : M ≠ 0 ∨ l.length = 0
theorem aUV {n M rest : Nat} {m : List Nat} {l : List (List Nat)} (h : TxI n m l M rest) : 18 * l.length ≤ bl n := by
 rcases h.pos with hp | hp
 ·rcases Nat.eq_zero_or_pos l.length with h0 | h0
  ·omega
  ·have h1 : 2 ^ (18 * l.length) ≤ 10 ^ (18 * l.length) := Nat.pow_le_pow_left (by decide) _
   have h2 : 10 ^ (18 * l.length) ≤ M * 10 ^ (18 * l.length) := Nat.le_mul_of_pos_left _ (by omega)
   have h3 : 2 ^ (18 * l.length) ≤ n := by rw [h.sum]; omega
   have := aHs h3
   omega
 ·omega
theorem q18 (M : Nat) : bD (lb M) [1000000000000000000] = (lb (M / 1000000000000000000), lb (M % 1000000000000000000), ()) := by
 unfold bD
 rw [eZ]
 rfl
theorem aTA {n M P T rest : Nat} (h : n = M * T + rest) : n = M / P * (P * T) + (M % P * T + rest) := by
 have e := Nat.div_add_mod M P
 rw [h, ← Nat.add_assoc]
 congr 1
 conv => lhs; rw [← e]
 rw [Nat.add_mul, Nat.mul_comm P, Nat.mul_assoc]
theorem aUW {r P T rest : Nat} (h : r < P) (h2 : rest < T) : r * T + rest < P * T := by
 have h1 := Nat.mul_le_mul_right T (show r + 1 ≤ P from h)
 rw [Nat.add_mul, Nat.one_mul] at h1
 omega
theorem p18 : (10 : Nat) ^ 18 = 1000000000000000000 := by decide
theorem aUX {n M rest : Nat} {m : List Nat} {l : List (List Nat)} (hn : bl n ≤ 1000000) (h : TxI n m l M rest) :
  (∃ m' l' M' rest', gG l m (txt (M % 1000000000000000000)) = some (.inl (m', l')) ∧ TxI n m' l' M' rest' ∧ M' < M) ∨
   ∃ l', gG l m (txt (M % 1000000000000000000)) = some (.inr l') ∧ cat l' = txt n ∧ l'.length ≤ 1000000 := by
 have hl := aUV h
 have hr : M % 1000000000000000000 < 10 ^ 18 := Nat.mod_lt _ (by decide)
 have e := Nat.div_add_mod M 1000000000000000000
 have hsl : (txt (M % 1000000000000000000)).length ≤ 18 := by
  unfold txt
  split
  ·simp
  ·rename_i h0
   unfold aAA
   rw [oZ]
   have h1 := xU _ h0
   rcases Nat.lt_or_ge (Lib.nDigits (M % 1000000000000000000)) 19 with hh | hh
   ·omega
   ·have h2 : 10 ^ 18 ≤ 10 ^ (Lib.nDigits (M % 1000000000000000000) - 1) := Nat.pow_le_pow_right (by decide) (by omega)
    omega
 unfold gG
 rw [h.m0, q18]
 by_cases hq : M / 1000000000000000000 = 0
 ·right
  refine ⟨l ++ [txt (M % 1000000000000000000)], ?_, ?_, by rw [List.length_append]; simp; omega⟩
  ·refine aA (by omega) ?_
   rw [if_pos (by simp only; rw [hq, gB]; rfl)]
  ·have hM : M % 1000000000000000000 = M := by omega
   rw [aJe, hM, h.str]
   rcases Nat.eq_zero_or_pos M with h0 | h0
   ·subst h0
    rcases h.pos with hp | hp
    ·exact absurd rfl hp
    ·have hs := h.sum
     have hlt := h.lt
     rw [hp] at hlt hs ⊢
     have : rest = 0 := by simpa using hlt
     subst this
     simp only [Nat.zero_mul, Nat.add_zero] at hs
     subst hs
     rfl
   ·have hn0 : n ≠ 0 := by
     rw [h.sum]
     have := Nat.mul_pos h0 (Nat.pow_pos (n := 18 * l.length) (show 0 < 10 by decide))
     omega
    unfold txt
    rw [if_neg (by omega), if_neg hn0, aOi (by omega) h.lt, ← h.sum]
 ·left
  have hpad : List.replicate (18 - (txt (M % 1000000000000000000)).length) 48 ++ txt (M % 1000000000000000000) = dgs 18 (M % 1000000000000000000) := by
   unfold txt at hsl ⊢
   split
   ·rename_i h0; rw [h0, aOh]; simp
   ·rename_i h0
    rw [if_neg h0] at hsl
    unfold aAA at hsl ⊢
    rw [oZ] at hsl ⊢
    exact aUT hsl (Lib.lt_pow_nDigits _)
  have hrep : aP (aO ⟨#[48]⟩) (18 - ((txt (M % 1000000000000000000)).length : Int)) = some (List.replicate (18 - (txt (M % 1000000000000000000)).length) 48) := by
   have := aK3 (18 - (txt (M % 1000000000000000000)).length) (by omega)
   rw [show ((18 - (txt (M % 1000000000000000000)).length : Nat) : Int) = 18 - ((txt (M % 1000000000000000000)).length : Int) from by omega] at this
   exact this
  have hset : (l ++ [txt (M % 1000000000000000000)]).set (((l ++ [txt (M % 1000000000000000000)]).length : Int) - 1).toNat (List.replicate (18 - (txt (M % 1000000000000000000)).length) 48 ++ txt (M % 1000000000000000000)) = l ++ [dgs 18 (M % 1000000000000000000)] := by
   rw [hpad, List.length_append, List.length_singleton, show (((l.length + 1 : Nat) : Int) - 1).toNat = l.length from by omega]
   simp
  refine ⟨lb (M / 1000000000000000000), l ++ [dgs 18 (M % 1000000000000000000)], M / 1000000000000000000, M % 1000000000000000000 * 10 ^ (18 * l.length) + rest, ?_, ?_, Nat.div_lt_self (by omega) (by decide)⟩
  ·have hne := List.length_pos_iff.2 (fun e => hq (wA.1 e))
   have hll : (l ++ [txt (M % 1000000000000000000)]).length = l.length + 1 := by simp
   refine aA (by omega) ?_
   rw [if_neg (by simp only; omega)]
   simp only [hrep, Option.getD_some]
   refine aA (by constructor <;> omega) (aA (by constructor <;> omega) (aA rfl (aA (by rw [List.length_replicate]; omega) (aA (by constructor <;> omega) ?_))))
   rw [hset]
  ·have hl1 : (l ++ [dgs 18 (M % 1000000000000000000)]).length = l.length + 1 := by simp
   have hp : 10 ^ (18 * (l.length + 1)) = 1000000000000000000 * 10 ^ (18 * l.length) := by rw [← p18, ← Nat.pow_add]; congr 1; omega
   refine ⟨rfl, ?_, ?_, ?_, .inl hq⟩
   ·rw [hl1, hp]
    have := aTA (P := 1000000000000000000) (T := 10 ^ (18 * l.length)) h.sum
    exact this
   ·rw [hl1, hp]; exact aUW (Nat.mod_lt _ (by decide)) h.lt
   ·have := aMr 18 (18 * l.length) (M % 1000000000000000000) rest h.lt
    rw [hl1, aJe, h.str, this, show 18 + 18 * l.length = 18 * (l.length + 1) from by omega]
end Nu
end Go.Proofs
namespace Go.Proofs
open Go.Vc
set_option maxRecDepth 20000
namespace Nu
theorem aTB {x : Nat} (h : x < 18446744073709551616) : (lb x).getD 0 0 = x := by
 rw [nB (aAE x), eZ, Nat.pow_zero, Nat.div_one, Nat.mod_eq_of_lt h]
theorem aQE : Nrm [1000000000000000000] ∧ nv [1000000000000000000] ≠ 0 := by decide
theorem aUY {n M rest : Nat} {m : List Nat} {l : List (List Nat)} (hm : m.length ≤ 100000) (h : TxI n m l M rest) : iN m l = gG l m (txt (M % 1000000000000000000)) := by
 have hr : M % 1000000000000000000 < 1000000000000000000 := Nat.mod_lt _ (by decide)
 have hp : oC m [1000000000000000000] := ⟨by rw [h.m0]; exact tS _, aQE.1, aQE.2, by omega⟩
 unfold iN
 refine aA hp ?_
 have hq : (bD m [1000000000000000000]).2.1 = lb (M % 1000000000000000000) := by rw [h.m0, q18]
 rw [hq]
 by_cases h0 : M % 1000000000000000000 = 0
 ·have ht : txt (M % 1000000000000000000) = aO ⟨#[]⟩ := by unfold txt; rw [if_pos h0]; rfl
  rw [if_neg (by rw [h0, gB]; simp), ht]
 ·have ht : txt (M % 1000000000000000000) = aAA (M % 1000000000000000000) := by unfold txt; rw [if_neg h0]
  have hl := List.length_pos_iff.2 (fun e => h0 (wA.1 e))
  have hf := aKo (M % 1000000000000000000) (by omega)
  rw [if_pos (by omega), aTB (by omega), ht]
  simp only [hf, Option.getD_some]
  exact aA (by omega) (aA rfl rfl)
theorem aPv (k : Nat) {n : Nat} (h : n < 18446744073709551616 ^ k) : bl n ≤ 64 * k := sX (by rw [← nH]; exact h)
theorem aUZ (n : Nat) (hn : n < 18446744073709551616 ^ 10000) : aT (lb n) = some (txt n) := by
 have hb := aPv 10000 hn
 have key := cR (step := fun d : (List Nat) × (List (List Nat)) => iN d.1 d.2) (I := fun d => ∃ M rest, TxI n d.1 d.2 M rest) (fun d => nv d.1) (fun e => cat e = txt n ∧ e.length ≤ 1000000) ?_ (lb n, []) ⟨n, 0, ⟨rfl, by simp, by simp, rfl, .inr rfl⟩⟩
 ·obtain ⟨e, h1, h2, h3⟩ := key
  unfold aT
  refine aX h1 ?_
  have hlen : (txt n).length ≤ 1000000 := by
   unfold txt
   split
   ·simp
   ·rename_i h0
    unfold aAA
    rw [oZ]
    have a := xU n h0
    have b : 2 ^ (Lib.nDigits n - 1) ≤ 10 ^ (Lib.nDigits n - 1) := Nat.pow_le_pow_left (by decide) _
    have := aHs (Nat.le_trans b a)
    omega
  rw [aUU e (by omega) (by rw [h2]; omega), h2]
 ·rintro ⟨m, l⟩ ⟨M, rest, h⟩
  have h : TxI n m l M rest := h
  have hMn : M ≤ n := by
   rw [h.sum]
   have := Nat.le_mul_of_pos_right M (Nat.pow_pos (n := 18 * l.length) (show 0 < 10 by decide))
   omega
  have hm : m.length ≤ 100000 := by
   rw [h.m0]
   exact Nat.le_trans (lC.2 (Nat.lt_of_le_of_lt hMn hn)) (by decide)
  show (∃ d', iN m l = _ ∧ _) ∨ ∃ e, iN m l = _ ∧ _
  rw [aUY hm h]
  rcases aUX (by omega) h with ⟨m', l', M', rest', k1, k2, k3⟩ | ⟨l', k1, k2, k3⟩
  ·left
   refine ⟨(m', l'), k1, ⟨M', rest', k2⟩, ?_⟩
   show nv m' < nv m
   rw [k2.m0, h.m0, eZ, eZ]
   exact k3
  ·right
   exact ⟨l', k1, k2, k3⟩
end Nu
end Go.Proofs
namespace Go.Proofs
open Go.Vc
set_option maxRecDepth 20000
namespace Nu
def vA (k : Nat) (s : List Nat) : List Nat := List.replicate (k + 1 - s.length) 48 ++ s
def ptS (k : Nat) (s : List Nat) : List Nat := if 0 < k then s.take (s.length - k) ++ [46] ++ s.drop (s.length - k) else s
def sgS (neg : Bool) (q : Nat) (s : List Nat) : List Nat := if neg = true ∧ q ≠ 0 then 45 :: s else s
theorem aMu {n : Nat} (h : bl n ≤ 640000) : (txt n).length ≤ 1000000 := by
 unfold txt
 split
 ·simp
 ·rename_i h0
  unfold aAA
  rw [oZ]
  have a := xU n h0
  have b : 2 ^ (Lib.nDigits n - 1) ≤ 10 ^ (Lib.nDigits n - 1) := Nat.pow_le_pow_left (by decide) _
  have := aHs (Nat.le_trans b a)
  omega
theorem aWZ {n k : Nat} (h : n < 18446744073709551616 ^ k) : bl n ≤ 64 * k := sX (by rw [← nH]; exact h)
theorem aQF (d : Dy) (q : Nat) (s : List Nat) (hs : s.length ≤ 10000000) : kO d (lb q) s = some (sgS d.1 q s, 0, ()) := by
 unfold kO sgS
 have hq : (0 : Int) < ((lb q).length : Int) ↔ q ≠ 0 := by
  constructor
  ·intro h e; rw [e, gB] at h; simp at h
  ·intro h
   have := List.length_pos_iff.2 (fun e => h (wA.1 e))
   omega
 by_cases h : d.1 = true ∧ q ≠ 0
 ·rw [if_pos ⟨h.1, hq.2 h.2⟩, if_pos h]
  refine aA ?_ rfl
  have : (aO ⟨#[45]⟩).length = 1 := rfl
  omega
 ·rw [if_neg (fun hh => h ⟨hh.1, hq.1 hh.2⟩), if_neg h]
theorem aQG (k : Nat) (d : Dy) (q : Nat) (hk : k ≤ 60) (hq : q < 18446744073709551616 ^ 10000) : kP (k : Int) d (lb q) = some (sgS d.1 q (ptS k (vA k (txt q))), 0, ()) := by
 have hl := aMu (Nat.le_trans (aWZ hq) (by decide))
 have ht := aUZ q hq
 have hr : aP (aO ⟨#[48]⟩) (max ((k : Int) + 1 - ((txt q).length : Int)) 0) = some (List.replicate (k + 1 - (txt q).length) 48) := by
  have := aK3 (k + 1 - (txt q).length) (by omega)
  rw [show ((k + 1 - (txt q).length : Nat) : Int) = max ((k : Int) + 1 - ((txt q).length : Int)) 0 from by omega] at this
  exact this
 have hp : (vA k (txt q)).length = k + 1 - (txt q).length + (txt q).length := by unfold vA; rw [List.length_append, List.length_replicate]
 have e : List.replicate (k + 1 - (txt q).length) 48 ++ txt q = vA k (txt q) := rfl
 unfold kP
 simp only [ht, Option.getD_some, hr, e]
 refine aA rfl (aA (by constructor <;> omega) (aA (by constructor <;> omega) (aA rfl (aA (by rw [List.length_replicate]; omega) ?_))))
 have h1 : (aO ⟨#[46]⟩) = [46] := rfl
 unfold ptS
 by_cases h : 0 < k
 ·have en : (((vA k (txt q)).length : Int) - (k : Int)).toNat = (vA k (txt q)).length - k := by omega
  rw [if_pos (by omega), if_pos h, h1, en]
  have l1 : ((vA k (txt q)).take ((vA k (txt q)).length - k)).length = (vA k (txt q)).length - k := by rw [List.length_take]; omega
  have l2 : ((vA k (txt q)).drop ((vA k (txt q)).length - k)).length = k := by rw [List.length_drop]; omega
  refine aA (by constructor <;> omega) (aA (by constructor <;> omega) (aA (by rw [l1]; simp; omega) (aA (by constructor <;> omega) (aA (by constructor <;> omega) (aA (by rw [List.length_append, l1, l2]; simp; omega) ?_)))))
  exact aQF d q _ (by rw [List.length_append, List.length_append, l1, l2]; simp; omega)
 ·rw [if_neg (by omega), if_neg h]
  exact aQF d q _ (by omega)
def txM (d : Dy) (k : Nat) : Nat := nv d.2.1 * 2 ^ (max d.2.2.1 0).toNat * 10 ^ k
def txQ (d : Dy) (k : Nat) (up : Bool) : Nat :=
 let m := txM d k
 let n := (max (-d.2.2.1) 0).toNat
 if m % 2 ^ n ≠ 0 ∧ (up != d.1) = true then m / 2 ^ n + 1 else m / 2 ^ n
def aJf (d : Dy) (k : Int) (up : Bool) : List Nat × Int × Unit :=
 if kR d = false ∨ k < 0 ∨ 60 < k then ([], 1, ())
 else if 2000 < d.2.2.1 ∨ d.2.2.1 < -2000 then ([], 2, ())
 else (sgS d.1 (txQ d k.toNat up) (ptS k.toNat (vA k.toNat (txt (txQ d k.toNat up)))), 0, ())
theorem aTC {d : Dy} {k : Nat} (lm : Lm d.2.1) (hl : d.2.1.length ≤ 64) (he : d.2.2.1 ≤ 2000) (hk : k ≤ 60) : txM d k < 18446744073709551616 ^ 200 := by
 have h1 := gN lm
 rw [nH] at h1
 have h2 := oU k
 unfold txM
 have h3 : nv d.2.1 * 2 ^ (max d.2.2.1 0).toNat < 2 ^ (64 * d.2.1.length) * 2 ^ (max d.2.2.1 0).toNat := Nat.mul_lt_mul_of_pos_right h1 (Nat.two_pow_pos _)
 rw [← Nat.pow_add] at h3
 have h4 := Nat.mul_lt_mul_of_lt_of_le h3 h2 (Nat.pow_pos (by decide))
 rw [← Nat.pow_add] at h4
 exact aOb 200 h4 (by omega)
theorem aGG (d : Dy) (k : Int) (up : Bool) (lm : Lm d.2.1) : aN d k up = some (aJf d k up) := by
 unfold aN aJf
 simp only [aBQ, Option.getD_some]
 refine aA rfl ?_
 by_cases h1 : kR d = false ∨ k < 0 ∨ 60 < k
 ·rw [if_pos (by rcases h1 with h | h | h; exact .inl (.inl (by rw [h]; decide)); exact .inl (.inr h); exact .inr h), if_pos h1]; rfl
 ·have hm : kR d = true := by
   cases hh : kR d with
   | true => rfl
   | false => exact absurd (.inl hh) h1
  have hk : 0 ≤ k ∧ k ≤ 60 := by omega
  rw [if_neg (by rintro ((h | h) | h); exact h hm; omega; omega), if_neg h1]
  by_cases h2 : 2000 < d.2.2.1 ∨ d.2.2.1 < -2000
  ·rw [if_pos h2, if_pos h2]; rfl
  ·rw [if_neg h2, if_neg h2]
   obtain ⟨a1, a2, a3, a4⟩ := vH hm
   obtain ⟨j, rfl⟩ : ∃ j : Nat, k = (j : Int) := ⟨k.toNat, by omega⟩
   rw [Int.toNat_natCast]
   have hM := aTC (k := j) lm a1 (by omega) (by omega)
   have hpw := aBR 10 j (by decide) (by omega)
   have hL : bF d.2.1 (max d.2.2.1 0) = lb (nv d.2.1 * 2 ^ (max d.2.2.1 0).toNat) := rfl
   have hT : bA (lb (nv d.2.1 * 2 ^ (max d.2.2.1 0).toNat)) (lb (10 ^ j)) = lb (txM d j) := by
    unfold bA txM; rw [eZ, eZ]
   have hLl : (lb (nv d.2.1 * 2 ^ (max d.2.2.1 0).toNat)).length ≤ 200 := by
    refine lC.2 (Nat.lt_of_le_of_lt ?_ hM)
    unfold txM
    exact Nat.le_mul_of_pos_right _ (Nat.pow_pos (by decide))
   have hPl := aPs (b := 10) (i := j) (by decide)
   have hTl := lC.2 hM
   have hn : max (0 - d.2.2.1) 0 = ((max (-d.2.2.1) 0).toNat : Int) := by omega
   simp only [hpw, Option.getD_some, hL, hT, hn]
   have hR : cF (lb (txM d j)) ((max (-d.2.2.1) 0).toNat : Int) = lb (txM d j / 2 ^ (max (-d.2.2.1) 0).toNat) := by
    unfold cF; rw [eZ, Int.toNat_natCast]
   rw [hR]
   have hqlt : txM d j / 2 ^ (max (-d.2.2.1) 0).toNat < 18446744073709551616 ^ 200 := Nat.lt_of_le_of_lt (Nat.div_le_self _ _) hM
   have hP : fF (lb (txM d j / 2 ^ (max (-d.2.2.1) 0).toNat)) [1] = lb (txM d j / 2 ^ (max (-d.2.2.1) 0).toNat + 1) := by
    unfold fF; rw [eZ]; rfl
   have hbig : ∀ x, x < 18446744073709551616 ^ 200 → x + 1 < 18446744073709551616 ^ 10000 := fun x hx => by
    have : 18446744073709551616 ^ 200 < 18446744073709551616 ^ 10000 := aTm 200 10000 (by decide)
    exact Nat.lt_of_le_of_lt hx this
   refine aA ⟨by show d.2.1.length ≤ _; omega, by omega, by omega⟩ (aA rfl (aA ⟨by show (lb (nv d.2.1 * 2 ^ (max d.2.2.1 0).toNat)).length ≤ _; omega, by show (lb (10 ^ j)).length ≤ _; omega⟩ (aA (by constructor <;> omega) (aA ⟨by show (lb (txM d j)).length ≤ _; omega, by omega⟩ (aA (fun _ => by show (lb (txM d j)).length ≤ _; omega) ?_)))))
   have hc : ((0 : Int) < ((lb (txM d j)).length : Int) ∧ bQ (lb (txM d j)) < ((max (-d.2.2.1) 0).toNat : Int)) ↔ txM d j % 2 ^ (max (-d.2.2.1) 0).toNat ≠ 0 := by
    by_cases h0 : txM d j = 0
    ·rw [h0, gB, Nat.zero_mod]; simp
    ·have hl := List.length_pos_iff.2 (fun e => h0 (wA.1 e))
     have hz : bQ (lb (txM d j)) = (tzn (txM d j) : Int) := by unfold bQ; rw [eZ, if_neg h0]
     rw [hz, ← aQA h0]
     constructor
     ·intro h; omega
     ·intro h; exact ⟨by omega, by omega⟩
   unfold txQ
   simp only
   by_cases h3 : txM d j % 2 ^ (max (-d.2.2.1) 0).toNat ≠ 0 ∧ (up != d.1) = true
   ·rw [if_pos ⟨hc.2 h3.1, h3.2⟩, if_pos h3, hP]
    have hl3 := lC.2 hqlt
    refine aA ⟨by show (lb (txM d j / 2 ^ (max (-d.2.2.1) 0).toNat)).length ≤ _; omega, by show (1 : Nat) ≤ _; decide⟩ ?_
    exact aQG j d _ (by omega) (hbig _ hqlt)
   ·rw [if_neg (fun h => h3 ⟨hc.1 h.1, h.2⟩), if_neg h3]
    exact aQG j d _ (by omega) (Nat.lt_of_succ_lt (hbig _ hqlt))
end Nu
end Go.Proofs
namespace Go.Proofs
open Go.Vc
set_option maxRecDepth 20000
namespace Nu
def aWs (d : Dy) : Dy := if kR d = true ∧ 0 < d.2.1.length then (!d.1, d.2.1, d.2.2.1, ()) else d
theorem aWt (d : Dy) (h : d.2.1.length ≤ 1000000) : bZ d = some (aWs d) := by
 have hc : dF d = some d := by
  unfold dF
  exact aA (by show d.2.1.length * 8 ≤ _; omega) rfl
 unfold bZ aWs
 simp only [hc, aBQ, Option.getD_some]
 refine aA rfl (aA rfl ?_)
 by_cases hh : kR d = true ∧ 0 < d.2.1.length
 ·rw [if_pos ⟨hh.1, by omega⟩, if_pos hh]
 ·rw [if_neg (fun h => hh ⟨h.1, by omega⟩), if_neg hh]
theorem aTD (a b : List Nat) (ha : a.length ≤ 9223372036854775807) : dL a b = some (decide (a = b)) := by
 unfold dL
 by_cases hl : a.length = b.length
 ·rw [if_neg (by omega)]
  have key := fN (step := fun d : Int => cS a b d) (I := fun i => 0 ≤ i ∧ i ≤ a.length) (fun i => (a.length - i).toNat) (fun i => if a.drop i.toNat = b.drop i.toNat then (.inl () : Unit ⊕ Bool) else .inr false) ?_ 0 ⟨by omega, by omega⟩
  ·have e1 : a.drop ((0 : Int).toNat) = a := rfl
   have e2 : b.drop ((0 : Int).toNat) = b := rfl
   rw [e1, e2] at key
   refine aX key ?_
   by_cases h : a = b
   ·rw [if_pos h, decide_eq_true h]
   ·rw [if_neg h, decide_eq_false h]
  ·rintro i ⟨i0, i1⟩
   show (∃ d', cS a b i = _ ∧ _) ∨ cS a b i = _
   unfold cS
   by_cases hi : i < a.length
   ·have hk : i.toNat < a.length := by omega
    have hk2 : i.toNat < b.length := by omega
    have ea : a.drop i.toNat = a.getD i.toNat 0 :: a.drop (i.toNat + 1) := by
     rw [List.drop_eq_getElem_cons hk, List.getD_eq_getElem?_getD, List.getElem?_eq_getElem hk]; rfl
    have eb : b.drop i.toNat = b.getD i.toNat 0 :: b.drop (i.toNat + 1) := by
     rw [List.drop_eq_getElem_cons hk2, List.getD_eq_getElem?_getD, List.getElem?_eq_getElem hk2]; rfl
    by_cases hx : a.getD i.toNat 0 = b.getD i.toNat 0
    ·left
     refine ⟨i + 1, ?_, ⟨by omega, by omega⟩, by omega, ?_⟩
     ·rw [if_pos hi]
      refine aA (by constructor <;> omega) (aA (by constructor <;> omega) ?_)
      rw [if_neg (fun h => h hx)]
      exact aA (by constructor <;> omega) rfl
     ·rw [ea, eb, hx, show (i + 1).toNat = i.toNat + 1 from by omega]
      simp
    ·right
     rw [if_pos hi]
     refine aA (by constructor <;> omega) (aA (by constructor <;> omega) ?_)
     rw [if_pos hx, if_neg (by rw [ea, eb]; intro h; exact hx (List.cons.inj h).1)]
   ·right
    rw [if_neg hi, List.drop_eq_nil_of_le (by omega), List.drop_eq_nil_of_le (by omega), if_pos rfl]
 ·rw [if_pos (by omega), decide_eq_false (fun h => hl (by rw [h]))]
theorem aU0 (a b : Dy) (ha : a.2.1.length ≤ 9223372036854775807) : eB a b = some ((a.1 == b.1) && decide (a.2.2.1 = b.2.2.1) && decide (a.2.1 = b.2.1)) := by
 unfold eB
 simp only [aTD a.2.1 b.2.1 ha, Option.getD_some]
 exact aA (fun _ => rfl) rfl
end Nu
end Go.Proofs
namespace Go.Proofs
open Go.Vc
set_option maxRecDepth 20000
namespace Nu
def oV (d : Dy) : Int := if kR d = false ∨ d.2.1.length = 0 then 0 else if d.1 = true then -1 else 1
theorem aU1 (d : Dy) : dJ d = some (oV d) := by
 unfold dJ oV
 simp only [aBQ, Option.getD_some]
 refine aA rfl ?_
 by_cases h : kR d = false ∨ d.2.1.length = 0
 ·rw [if_pos (by rcases h with h | h; exact .inl (by rw [h]; decide); exact .inr (by omega)), if_pos h]
 ·have hm : kR d = true := by
   cases hh : kR d with
   | true => rfl
   | false => exact absurd (.inl hh) h
  rw [if_neg (by rintro (hh | hh); exact hh hm; exact h (.inr (by omega))), if_neg h]
  by_cases hn : d.1 = true
  ·rw [if_pos hn, if_pos hn]
  ·rw [if_neg hn, if_neg hn]
def aFQ (a b : Dy) : Int :=
 let x := (bl (nv a.2.1) : Int) + a.2.2.1
 let y := (bl (nv b.2.1) : Int) + b.2.2.1
 let low := min a.2.2.1 b.2.2.1
 if x < y then -1 else if y < x then 1 else aCE (nv a.2.1 * 2 ^ (a.2.2.1 - low).toNat) (nv b.2.1 * 2 ^ (b.2.2.1 - low).toNat)
theorem size_eq (a b : Dy) (la : Lm a.2.1) (lb' : Lm b.2.1) (ha : kR a = true) (hb : kR b = true) : lR a b = some (aFQ a b) := by
 obtain ⟨a1, a2, a3, a4⟩ := vH ha
 obtain ⟨b1, b2, b3, b4⟩ := vH hb
 have hba : bl (nv a.2.1) ≤ 64 * a.2.1.length := sX (by rw [← nH]; exact gN la)
 have hbb : bl (nv b.2.1) ≤ 64 * b.2.1.length := sX (by rw [← nH]; exact gN lb')
 have e1 : aW a.2.1 = (bl (nv a.2.1) : Int) := rfl
 have e2 : aW b.2.1 = (bl (nv b.2.1) : Int) := rfl
 unfold lR aFQ
 rw [e1, e2]
 refine aA ⟨a2, by show a.2.1.length ≤ _; omega⟩ (aA (by constructor <;> omega) (aA ⟨b2, by show b.2.1.length ≤ _; omega⟩ (aA (by constructor <;> omega) ?_)))
 simp only
 by_cases h1 : (bl (nv a.2.1) : Int) + a.2.2.1 < (bl (nv b.2.1) : Int) + b.2.2.1
 ·rw [if_pos h1, if_pos h1]
 ·rw [if_neg h1, if_neg h1]
  by_cases h2 : (bl (nv b.2.1) : Int) + b.2.2.1 < (bl (nv a.2.1) : Int) + a.2.2.1
  ·rw [if_pos h2, if_pos h2]
  ·rw [if_neg h2, if_neg h2]
   refine aA (by constructor <;> omega) (aA ⟨by show a.2.1.length ≤ _; omega, by omega, by omega⟩ (aA (by constructor <;> omega) (aA ⟨by show b.2.1.length ≤ _; omega, by omega, by omega⟩ (aA ⟨tS _, tS _⟩ ?_))))
   unfold lL bF
   rw [eZ, eZ]
def aWu (a b : Dy) : Int :=
 if kR a = false ∨ kR b = false then 0
 else if oV a < oV b then -1
 else if oV b < oV a then 1
 else if oV a = 0 then 0
 else oV a * aFQ a b
theorem aOj (a b : Dy) : -1 ≤ aFQ a b ∧ aFQ a b ≤ 1 := by
 unfold aFQ
 simp only
 split
 ·decide
 ·split
  ·decide
  ·unfold aCE
   split
   ·decide
   ·split <;> decide
theorem aFR (d : Dy) : oV d = 0 ∨ oV d = 1 ∨ oV d = -1 := by
 unfold oV
 split
 ·exact .inl rfl
 ·split
  ·exact .inr (.inr rfl)
  ·exact .inr (.inl rfl)
theorem aWv (a b : Dy) (la : Lm a.2.1) (lb' : Lm b.2.1) : fR a b = some (aWu a b) := by
 have ra := aFR a
 have rb := aFR b
 have rs := aOj a b
 unfold fR aWu
 simp only [aU1, aBQ, Option.getD_some]
 refine aA rfl (aA rfl (aA rfl (aA (fun _ => rfl) ?_)))
 by_cases h : kR a = false ∨ kR b = false
 ·rw [if_pos (by rcases h with h | h; exact .inl (by rw [h]; decide); exact .inr (by rw [h]; decide)), if_pos h]
 ·have ha : kR a = true := by
   cases hh : kR a with
   | true => rfl
   | false => exact absurd (.inl hh) h
  have hb : kR b = true := by
   cases hh : kR b with
   | true => rfl
   | false => exact absurd (.inr hh) h
  rw [if_neg (by rintro (hh | hh); exact hh ha; exact hh hb), if_neg h]
  by_cases h1 : oV a < oV b
  ·rw [if_pos ⟨by omega, h1⟩, if_pos h1]
  ·rw [if_neg (fun hh => h1 hh.2), if_neg h1]
   by_cases h2 : oV b < oV a
   ·rw [if_pos (by omega), if_pos h2]
   ·rw [if_neg (by omega), if_neg h2]
    by_cases h3 : oV a = 0
    ·rw [if_pos h3, if_pos h3]
    ·rw [if_neg h3, if_neg h3]
     simp only [size_eq a b la lb' ha hb, Option.getD_some]
     refine aA rfl (aA ?_ rfl)
     rcases ra with r | r | r <;> rw [r] <;> constructor <;> omega
end Nu
end Go.Proofs
namespace Go.Proofs
open Go.Vc
set_option maxRecDepth 20000
namespace Nu
def pN : Dy := (false, [1], -3, ())
def aB3 : Dy := (true, [1], -3, ())
theorem aWw : txt 12 = [49, 50] := by
 unfold txt; rw [if_neg (by decide), aPu (by decide) (by decide)]
theorem aTE : txt 13 = [49, 51] := by
 unfold txt; rw [if_neg (by decide), aPu (by decide) (by decide)]
theorem aWx : Lm [1] := by intro x hx; simp at hx; subst hx; decide
theorem aQH : kR pN = true ∧ kR aB3 = true := by decide +kernel
theorem aXo : txQ pN 2 false = 12 := by decide +kernel
theorem aXp : txQ pN 2 true = 13 := by decide +kernel
theorem aXq : txQ aB3 2 false = 13 := by decide +kernel
theorem aWy : aN pN 2 false = some ([48, 46, 49, 50], 0, ()) := by
 rw [aGG pN 2 false aWx]
 unfold aJf
 rw [if_neg (by rw [aQH.1]; decide), if_neg (by decide), show ((2 : Int).toNat) = 2 from rfl, aXo, aWw]
 rfl
theorem aWz : aN pN 2 true = some ([48, 46, 49, 51], 0, ()) := by
 rw [aGG pN 2 true aWx]
 unfold aJf
 rw [if_neg (by rw [aQH.1]; decide), if_neg (by decide), show ((2 : Int).toNat) = 2 from rfl, aXp, aTE]
 rfl
theorem aWA : aN aB3 2 false = some ([45, 48, 46, 49, 51], 0, ()) := by
 rw [aGG aB3 2 false aWx]
 unfold aJf
 rw [if_neg (by rw [aQH.2]; decide), if_neg (by decide), show ((2 : Int).toNat) = 2 from rfl, aXq, aTE]
 rfl
theorem aWB : bZ pN = some aB3 := by
 rw [aWt pN (by decide)]
 unfold aWs
 rw [if_pos ⟨aQH.1, by decide⟩]
 rfl
theorem aMv : eO [48, 46, 49, 50, 53] = ([48, 49, 50, 53], -3, true, ()) := by decide +kernel
theorem aEC : eO [48, 46, 49] = ([48, 49], -1, true, ()) := by decide +kernel
theorem aXr : lb 1 = [1] := by rw [aBi (by decide), show 1 / 18446744073709551616 = 0 from by decide, gB]
theorem aWC : bE [48, 46, 49, 50, 53] = some (pN, 0, ()) := by
 rw [aOg _ (by decide)]
 have hN : exN [48, 46, 49, 50, 53] = 125 := by unfold exN; rw [aMv]; decide
 have hD : exD [48, 46, 49, 50, 53] = 125 := by unfold exD; rw [aMv]; decide
 unfold aMq
 rw [hN, hD, aMv, if_neg (by decide), if_neg (by decide), show 125 / 125 = 1 from rfl]
 have ht : tzn 1 = 0 := aBl (m := 0) rfl
 unfold iA
 rw [if_neg (by decide), ht, show 1 / 2 ^ 0 = 1 from rfl, aXr]
 rfl
theorem aWD : bE [48, 46, 49] = some (d0, 6, ()) := by
 rw [aOg _ (by decide)]
 have hN : exN [48, 46, 49] = 1 := by unfold exN; rw [aEC]; decide
 have hD : exD [48, 46, 49] = 5 := by unfold exD; rw [aEC]; decide
 unfold aMq
 rw [hN, hD, aEC, if_neg (by decide), if_pos (by decide)]
theorem aWE : (eO [49, 46, 53, 101, 45, 51]).2.2.1 = true ∧ (eO [49, 46]).2.2.1 = false ∧ (eO [46, 53]).2.2.1 = false ∧ (eO [49, 101, 49, 48, 49]).2.2.1 = false ∧ (eO []).2.2.1 = false := by decide +kernel
end Nu
end Go.Proofs
namespace Go.Proofs
open Go.Vc
set_option maxRecDepth 20000
namespace Nu
theorem aOk {x : Nat} (h0 : x ≠ 0) (h : x < 18446744073709551616) : lb x = [x] := by
 rw [aBi h0, Nat.mod_eq_of_lt h, Nat.div_eq_of_lt h, gB]
def aKp : Dy := (false, [209715], -21, ())
def aKq : Dy := (false, [838861], -23, ())
theorem aVA : bl 10 = 4 := aNi (k := 3) (by decide) (by decide)
theorem aXs : bl 3355443 = 22 := aNi (k := 21) (by decide) (by decide)
theorem aTF : rn 1 10 20 25 = 2 ∧ rM 1 10 20 25 = 838860 ∧ rE 1 10 20 25 = -23 ∧ rS 1 10 20 25 = true := by
 have hq : rq 1 10 25 = 3355443 := by decide
 have hn : rn 1 10 20 25 = 2 := by unfold rn; rw [hq, aXs]
 refine ⟨hn, ?_, ?_, ?_⟩
 ·unfold rM; rw [hn, hq]
 ·unfold rE; rw [hn]; rfl
 ·unfold rS; rw [hn]; decide
theorem aW0 : aRA 1 10 20 25 false = aKp := by
 obtain ⟨h1, h2, h3, h4⟩ := aTF
 have hm : rm2 1 10 20 25 false = 838860 := by unfold rm2; rw [h2, if_neg (by rintro ⟨_, h⟩; cases h)]
 have ht : tzn 838860 = 2 := aBl (m := 104857) (by decide)
 unfold aRA iA
 rw [hm, h3, if_neg (by decide), ht, show 838860 / 2 ^ 2 = 209715 from by decide, aOk (by decide) (by decide)]
 rfl
theorem aW1 : aRA 1 10 20 25 true = aKq := by
 obtain ⟨h1, h2, h3, h4⟩ := aTF
 have hm : rm2 1 10 20 25 true = 838861 := by unfold rm2; rw [h2, h4, if_pos ⟨rfl, rfl⟩]
 have ht : tzn 838861 = 0 := aBl (m := 419430) (by decide)
 unfold aRA iA
 rw [hm, h3, if_neg (by decide), ht, show 838861 / 2 ^ 0 = 838861 from by decide, aOk (by decide) (by decide)]
 rfl
theorem aWF : cC [48, 46, 49] 20 = some ((aKp, aKq, ()), 0, ()) := by
 rw [aWn _ _ (by decide)]
 have hA : aKm [48, 46, 49] = 1 := by unfold aKm; rw [aEC]; decide
 have hB : aJd [48, 46, 49] = 10 := by unfold aJd; rw [aEC]; decide
 have e1 : aCR [48, 46, 49] 20 false = aKp := by
  unfold aCR; rw [hA, hB, if_neg (by decide), aVA]; exact aW0
 have e2 : aCR [48, 46, 49] 20 true = aKq := by
  unfold aCR; rw [hA, hB, if_neg (by decide), aVA]; exact aW1
 unfold aWm
 rw [aEC, if_neg (by decide), if_neg (by decide), show ((20 : Int).toNat) = 20 from rfl, e1, e2]
theorem aW2 {x : Nat} (h : x < 18446744073709551616) : Lm [x] := by intro y hy; simp at hy; subst hy; exact h
theorem aWG : fR aKp aKq = some (-1) := by
 rw [aWv aKp aKq (aW2 (by decide)) (aW2 (by decide))]
 have b1 : bl (nv [209715]) = 18 := aNi (k := 17) (by decide) (by decide)
 have b2 : bl (nv [838861]) = 20 := aNi (k := 19) (by decide) (by decide)
 have m1 : kR aKp = true ∧ kR aKq = true := by decide +kernel
 have s1 : oV aKp = 1 := by unfold oV; rw [m1.1]; decide
 have s2 : oV aKq = 1 := by unfold oV; rw [m1.2]; decide
 have sz : aFQ aKp aKq = -1 := by
  unfold aFQ aKp aKq
  simp only [b1, b2]
  decide +kernel
 unfold aWu
 rw [m1.1, m1.2, s1, s2, sz, if_neg (by decide), if_neg (by decide), if_neg (by decide), if_neg (by decide)]
 rfl
theorem aWH : eB pN pN = some true := by
 rw [aU0 pN pN (by decide)]; decide
theorem aQI : nX = some true := by
 have a := aWy
 have b := aWz
 have n := aWB
 have c := aWA
 have d := aWC
 have e := aWD
 have f := aWF
 have g := aWG
 have h := aWH
 unfold pN at a b n d h
 unfold aB3 at n c
 unfold aKp aKq at f g
 obtain ⟨f1, f2, f3, f4, f5⟩ := aWE
 have s1 : aO ⟨#[48, 46, 49, 50, 53]⟩ = [48, 46, 49, 50, 53] := rfl
 have s2 : aO ⟨#[48, 46, 49]⟩ = [48, 46, 49] := rfl
 have s3 : aO ⟨#[48, 46, 49, 50]⟩ = [48, 46, 49, 50] := rfl
 have s4 : aO ⟨#[48, 46, 49, 51]⟩ = [48, 46, 49, 51] := rfl
 have s5 : aO ⟨#[45, 48, 46, 49, 51]⟩ = [45, 48, 46, 49, 51] := rfl
 have w1 : bT (aO ⟨#[49, 46, 53, 101, 45, 51]⟩) = some true := by rw [show aO ⟨#[49, 46, 53, 101, 45, 51]⟩ = [49, 46, 53, 101, 45, 51] from rfl, aDY _ (by decide), f1]
 have w2 : bT (aO ⟨#[49, 46]⟩) = some false := by rw [show aO ⟨#[49, 46]⟩ = [49, 46] from rfl, aDY _ (by decide), f2]
 have w3 : bT (aO ⟨#[46, 53]⟩) = some false := by rw [show aO ⟨#[46, 53]⟩ = [46, 53] from rfl, aDY _ (by decide), f3]
 have w4 : bT (aO ⟨#[49, 101, 49, 48, 49]⟩) = some false := by rw [show aO ⟨#[49, 101, 49, 48, 49]⟩ = [49, 101, 49, 48, 49] from rfl, aDY _ (by decide), f4]
 have w5 : bT (aO ⟨#[]⟩) = some false := by rw [show aO ⟨#[]⟩ = [] from rfl, aDY _ (by decide), f5]
 unfold nX
 simp only [s1, s2, s3, s4, s5, a, b, n, c, d, e, f, g, h, w1, w2, w3, w4, w5, Option.getD_some]
 simp [ck]
 exact ⟨by decide, by decide⟩
end Nu
end Go.Proofs
namespace Go.Proofs
open Go.Vc
set_option maxRecDepth 20000
namespace Nu
def hv : List Nat → Nat
 | [] => 0
 | x :: r => x + 65536 * hv r
def hb (n : Nat) : List Nat := if h : n = 0 then [] else n % 65536 :: hb (n / 65536)
termination_by n
decreasing_by exact Nat.div_lt_self (by omega) (by decide)
def Hm (a : List Nat) : Prop := ∀ x ∈ a, x < 65536
theorem aMw : hv [] = 0 := rfl
theorem nD (x : Nat) (r : List Nat) : hv (x :: r) = x + 65536 * hv r := rfl
theorem kX : hb 0 = [] := by rw [hb]; simp
theorem aCS {n : Nat} (h : n ≠ 0) : hb n = n % 65536 :: hb (n / 65536) := by rw [hb, dif_neg h]
theorem oW (n : Nat) : hv (hb n) = n := by
 induction n using Nat.strongRecOn with
 | _ n ih =>
  by_cases h : n = 0
  ·subst h; rw [kX]; rfl
  ·rw [aCS h, nD, ih (n / 65536) (Nat.div_lt_self (by omega) (by decide))]
   exact Nat.mod_add_div n 65536
theorem tX (n : Nat) : Hm (hb n) := by
 induction n using Nat.strongRecOn with
 | _ n ih =>
  by_cases h : n = 0
  ·subst h; rw [kX]; intro x hx; cases hx
  ·rw [aCS h]
   intro x hx
   rcases List.mem_cons.1 hx with rfl | hx
   ·exact Nat.mod_lt _ (by decide)
   ·exact ih (n / 65536) (Nat.div_lt_self (by omega) (by decide)) x hx
theorem aPw {n : Nat} : hb n = [] ↔ n = 0 := by
 constructor
 ·intro h
  rcases Nat.eq_zero_or_pos n with h0 | h0
  ·exact h0
  ·rw [aCS (by omega)] at h; cases h
 ·rintro rfl; exact kX
theorem aJg (n : Nat) : Nrm (hb n) := by
 induction n using Nat.strongRecOn with
 | _ n ih =>
  by_cases h : n = 0
  ·subst h; rw [kX]; exact aLD
  ·rw [aCS h]
   refine aNg (ih _ (Nat.div_lt_self (by omega) (by decide))) fun e => ?_
   have := aPw.1 e
   intro h0
   have := Nat.div_add_mod n 65536
   omega
theorem aQJ {x : Nat} {r : List Nat} (h : Hm (x :: r)) : x < 65536 ∧ Hm r := ⟨h x (by simp), fun y hy => h y (by simp [hy])⟩
theorem aED {a b : List Nat} (ha : Hm a) (hb : Hm b) : Hm (a ++ b) := fun x hx => (List.mem_append.1 hx).elim (ha x) (hb x)
theorem aK4 {a : List Nat} (h : Nrm a) (hne : a ≠ []) : 0 < hv a := by
  induction a with
  | nil => exact absurd rfl hne
  | cons x r ih =>
    rw [nD]
    cases r with
    | nil => have : x ≠ 0 := by simpa [Nrm] using h
             rw [aMw]; omega
    | cons y r =>
      have := ih (yV h) (by simp)
      have : 65536 * 1 ≤ 65536 * hv (y :: r) := Nat.mul_le_mul_left _ this
      omega
theorem aW3 {a : List Nat} (hl : Hm a) (hn : Nrm a) : hb (hv a) = a := by
 induction a with
 | nil => rw [aMw, kX]
 | cons x r ih =>
  have hx := aQJ hl
  have hpos : hv (x :: r) ≠ 0 := by have := aK4 hn (by simp); omega
  have h1 : hv (x :: r) % 65536 = x := by rw [nD, Nat.add_mul_mod_self_left]; exact Nat.mod_eq_of_lt hx.1
  have h2 : hv (x :: r) / 65536 = hv r := by rw [nD, Nat.add_mul_div_left _ _ (by decide), Nat.div_eq_of_lt hx.1, Nat.zero_add]
  rw [aCS hpos, h1, h2]
  cases r with
  | nil => rw [aMw, kX]
  | cons y r => rw [ih hx.2 (yV hn)]
theorem aJh (a b : List Nat) : hv (a ++ b) = hv a + 65536 ^ a.length * hv b := by
 induction a with
 | nil => simp [hv]
 | cons x r ih =>
  rw [List.cons_append, nD, nD, ih, List.length_cons, Nat.pow_succ, Nat.mul_add]
  have : 65536 * (65536 ^ r.length * hv b) = 65536 ^ r.length * 65536 * hv b := by rw [← Nat.mul_assoc, Nat.mul_comm 65536]
  omega
theorem tN {a : List Nat} (hl : Hm a) : hv a < 65536 ^ a.length := by
 induction a with
 | nil => simp [hv]
 | cons x r ih =>
  have hx := aQJ hl
  have := ih hx.2
  rw [nD, List.length_cons, Nat.pow_succ]
  have h2 : 65536 * (hv r + 1) ≤ 65536 * 65536 ^ r.length := Nat.mul_le_mul_left _ this
  rw [Nat.mul_add] at h2
  rw [Nat.mul_comm (65536 ^ r.length)]
  omega
theorem aVB {a : List Nat} (hn : Nrm a) (hne : a ≠ []) : 65536 ^ (a.length - 1) ≤ hv a := by
 induction a with
 | nil => exact absurd rfl hne
 | cons x r ih =>
  cases r with
  | nil => have := aK4 hn hne; simp only [List.length_cons, List.length_nil, Nat.zero_add, Nat.sub_self, Nat.pow_zero]; omega
  | cons y r =>
   have := ih (yV hn) (by simp)
   rw [nD]
   simp only [List.length_cons, Nat.add_sub_cancel] at this ⊢
   rw [Nat.pow_succ, Nat.mul_comm]
   have := Nat.mul_le_mul_left 65536 this
   omega
theorem aJi {n k : Nat} : (hb n).length ≤ k ↔ n < 65536 ^ k := by
 constructor
 ·intro h
  have := tN (tX n)
  rw [oW] at this
  exact Nat.lt_of_lt_of_le this (Nat.pow_le_pow_right (by decide) h)
 ·intro h
  by_cases h0 : n = 0
  ·subst h0; rw [kX]; exact Nat.zero_le _
  ·have hne : hb n ≠ [] := fun e => h0 (aPw.1 e)
   have := aVB (aJg n) hne
   rw [oW] at this
   have hlt : 65536 ^ ((hb n).length - 1) < 65536 ^ k := Nat.lt_of_le_of_lt this h
   have := (Nat.pow_lt_pow_iff_right (by decide)).1 hlt
   omega
theorem aPx (n : Nat) : hv (List.replicate n 0) = 0 := by
 induction n with
 | zero => rfl
 | succ n ih => rw [List.replicate_succ, nD, ih]
theorem aMx (a : List Nat) (k : Nat) : hv a = hv (a.take k) + 65536 ^ (min k a.length) * hv (a.drop k) := by
 have := aJh (a.take k) (a.drop k)
 rw [List.take_append_drop, List.length_take] at this
 exact this
theorem aB4 {a : List Nat} (h : Hm a) (k : Nat) : Hm (a.take k) := fun x hx => h x (List.mem_of_mem_take hx)
theorem aQK {a : List Nat} (h : Hm a) (k : Nat) : hv (a.drop k) = hv a / 65536 ^ k := by
 rcases Nat.lt_or_ge k a.length with hk | hk
 ·rw [aMx a k, Nat.min_eq_left (Nat.le_of_lt hk), Nat.add_mul_div_left _ _ (Nat.pow_pos (by decide)), Nat.div_eq_of_lt, Nat.zero_add]
  have := tN (aB4 h k)
  rw [List.length_take, Nat.min_eq_left (Nat.le_of_lt hk)] at this
  exact this
 ·rw [List.drop_eq_nil_of_le hk, aMw, Nat.div_eq_of_lt]
  exact Nat.lt_of_lt_of_le (tN h) (Nat.pow_le_pow_right (by decide) hk)
theorem gK {a : List Nat} (h : Hm a) (i : Nat) : a.getD i 0 < 65536 := by
 rw [List.getD_eq_getElem?_getD]
 cases e : a[i]? with
 | none => exact (by decide : (0 : Nat) < 65536)
 | some x => exact h x (List.mem_of_getElem? e)
theorem oG {a : List Nat} {k : Nat} (h : k < a.length) : hv (a.take (k + 1)) = hv (a.take k) + 65536 ^ k * a.getD k 0 := by
 rw [take_succ h, aJh, List.length_take, Nat.min_eq_left (Nat.le_of_lt h)]
 simp [hv]
theorem aPy {a : List Nat} {k v : Nat} (h : k < a.length) : hv (a.set k v) + 65536 ^ k * a.getD k 0 = hv a + 65536 ^ k * v := by
 induction a generalizing k with
 | nil => simp at h
 | cons x r ih =>
  cases k with
  | zero => simp [hv]; omega
  | succ k =>
   have := ih (k := k) (by simpa using h)
   simp only [List.set_cons_succ, nD, List.getD_cons_succ, Nat.pow_succ]
   have h1 : 65536 ^ k * 65536 * r.getD k 0 = 65536 * (65536 ^ k * r.getD k 0) := by rw [Nat.mul_comm (65536 ^ k) 65536, Nat.mul_assoc]
   have h2 : 65536 ^ k * 65536 * v = 65536 * (65536 ^ k * v) := by rw [Nat.mul_comm (65536 ^ k) 65536, Nat.mul_assoc]
   rw [h1, h2]
   have := congrArg (65536 * ·) this
   simp only [Nat.mul_add] at this
   omega
theorem aPz {a : List Nat} (h : Hm a) (k : Nat) {v : Nat} (hv : v < 65536) : Hm (a.set k v) := fun x hx => by
 rcases List.mem_or_eq_of_mem_set hx with hx | rfl
 ·exact h x hx
 ·exact hv
theorem aPA (n : Nat) : Hm (List.replicate n 0) := fun x hx => by
 rw [List.eq_of_mem_replicate hx]; decide
end Nu
end Go.Proofs
namespace Go.Proofs
open Go.Vc
set_option maxRecDepth 20000
namespace Nu
theorem h16 : (65536 : Nat) ^ 4 = 18446744073709551616 := by decide
theorem aMy (k : Nat) : 65536 ^ (4 * k) = 18446744073709551616 ^ k := by rw [Nat.pow_mul, h16]
theorem sQ (k : Nat) : (65536 : Nat) ^ k = 2 ^ (16 * k) := by rw [Nat.pow_mul]
theorem aFS (x : Nat) : x &&& 65535 = x % 65536 := Nat.and_two_pow_sub_one_eq_mod x 16
theorem wO (a : List Nat) (ha : Hm a) (hl : a.length ≤ 4611686018427387904) : fK a = some (hb (hv a)) := by
 unfold fK
 have key := cR (step := fun d : Int => jA a d) (I := fun n => 0 ≤ n ∧ n ≤ a.length ∧ hv (a.take n.toNat) = hv a) (fun n => n.toNat)
  (fun e => 0 ≤ e ∧ e ≤ a.length ∧ a.take e.toNat = hb (hv a)) ?_ (a.length : Int) ⟨by omega, by omega, by rw [Int.toNat_natCast, List.take_length]⟩
 ·obtain ⟨e, h1, h2, h3, h4⟩ := key
  refine aX h1 (aA ⟨h2, h3⟩ ?_)
  rw [h4]
 ·intro n ⟨n0, n1, n2⟩
  show (∃ d', jA a n = _ ∧ _) ∨ ∃ e, jA a n = _ ∧ _
  unfold jA
  by_cases h0 : 0 < n
  ·have hk : n.toNat - 1 < a.length := by omega
   have e1 : (n - 1).toNat = n.toNat - 1 := by omega
   have hs := oG hk
   rw [show n.toNat - 1 + 1 = n.toNat from by omega] at hs
   by_cases hz : a.getD (n.toNat - 1) 0 = 0
   ·left
    refine ⟨n - 1, aA (fun _ => by constructor <;> omega) (aA (fun _ => by constructor <;> omega) ?_), ⟨by omega, by omega, ?_⟩, by omega⟩
    ·rw [e1, if_pos ⟨h0, hz⟩]; exact aA (by constructor <;> omega) rfl
    ·rw [e1, ← n2, hs, hz]; omega
   ·right
    refine ⟨n, aA (fun _ => by constructor <;> omega) (aA (fun _ => by constructor <;> omega) ?_), n0, n1, ?_⟩
    ·rw [e1, if_neg (fun h => hz h.2)]
    ·rw [← n2, aW3 (aB4 ha _)]
     have hl' : (a.take n.toNat).length = n.toNat := by rw [List.length_take]; omega
     refine (aBZ (by omega)).2 ?_
     rw [hl', List.getD_eq_getElem?_getD, List.getElem?_take_of_lt (by omega), ← List.getD_eq_getElem?_getD]
     exact hz
  ·right
   have e0 : n = 0 := by omega
   subst e0
   refine ⟨0, aA (fun h => absurd h h0) (aA (fun h => absurd h h0) ?_), by omega, by omega, ?_⟩
   ·rw [if_neg (fun h => h0 h.1)]
   ·rw [← n2]; simp [hv, kX]
def aCT (x k : Nat) : List Nat := (List.range k).map fun j => x / 65536 ^ j % 65536
theorem aK5 (x k : Nat) : aCT x (k + 1) = aCT x k ++ [x / 65536 ^ k % 65536] := by simp [aCT, List.range_succ]
theorem aJj (x k : Nat) : (aCT x k).length = k := by simp [aCT]
theorem aU2 (x k : Nat) : Hm (aCT x k) := fun y hy => by
 obtain ⟨j, _, rfl⟩ := List.mem_map.1 hy
 exact Nat.mod_lt _ (by decide)
theorem aU3 (x k : Nat) : hv (aCT x k) = x % 65536 ^ k := by
 induction k with
 | zero => simp [aCT, hv, Nat.mod_one]
 | succ k ih =>
  rw [aK5, aJh, aJj, ih, Nat.pow_succ, Nat.mod_mul]
  simp [hv]
theorem aU4 (a : List Nat) (i : Int) (h0 : 0 ≤ i) (h1 : i < a.length) (out : List Nat) (hs : out.length ≤ 1099511627776) :
  cE (fun d : Int × List Nat => gI i a d.1 d.2) (0, out) = some (out ++ aCT (a.getD i.toNat 0) 4) := by
 refine fN (step := fun d : Int × List Nat => gI i a d.1 d.2) (I := fun d => 0 ≤ d.1 ∧ d.1 ≤ 4 ∧ d.2 = out ++ aCT (a.getD i.toNat 0) d.1.toNat) (fun d => (4 - d.1).toNat) (fun _ => out ++ aCT (a.getD i.toNat 0) 4) ?_ (0, out) ⟨by simp, by simp, by simp [aCT]⟩
 rintro ⟨k, o⟩ ⟨k0, k1, k2⟩
 have k0 : 0 ≤ k := k0
 have k1 : k ≤ 4 := k1
 have k2 : o = out ++ aCT (a.getD i.toNat 0) k.toNat := k2
 show (∃ d', gI i a k o = _ ∧ _) ∨ gI i a k o = _
 unfold gI
 by_cases hk : k < 4
 ·left
  have e1 : (k + 1).toNat = k.toNat + 1 := by omega
  have e2 : ((16 * k) % (18446744073709551616 : Int)).toNat = 16 * k.toNat := by omega
  have e3 : (a.getD i.toNat 0 / 2 ^ (16 * k.toNat)) % 4294967296 % 65536 = a.getD i.toNat 0 / 65536 ^ k.toNat % 65536 := by
   rw [sQ]; omega
  have ol : o.length ≤ 1099511627780 := by rw [k2, List.length_append, aJj]; omega
  refine ⟨(k + 1, out ++ aCT (a.getD i.toNat 0) (k + 1).toNat), ?_, ⟨by simp only; omega, by simp only; omega, rfl⟩, by simp only; omega, rfl⟩
  rw [if_pos hk, aFS, e2, e3]
  refine aA ⟨h0, h1⟩ (aA (by constructor <;> omega) (aA (by omega) (aA (by constructor <;> omega) ?_)))
  rw [e1, aK5, k2, List.append_assoc]
 ·right
  rw [if_neg hk, k2, show k.toNat = 4 from by omega]
theorem aU5 (a : List Nat) (ha : Lm a) (hl : a.length ≤ 68719476736) : pX a = some (hb (nv a)) := by
 unfold pX
 have key := cR (step := fun d : Int × List Nat => jB a d.1 d.2) (I := fun d => 0 ≤ d.1 ∧ d.1 ≤ a.length ∧ d.2.length = 4 * d.1.toNat ∧ Hm d.2 ∧ hv d.2 = nv (a.take d.1.toNat)) (fun d => (a.length - d.1).toNat)
  (fun e => e.length = 4 * a.length ∧ Hm e ∧ hv e = nv a) ?_ (0, []) ⟨by simp, by simp, by simp, (fun x hx => by cases hx), by simp [hv, nv]⟩
 ·obtain ⟨e, h1, h2, h3, h4⟩ := key
  refine aX h1 (aX (wO e h3 (by omega)) ?_)
  rw [h4]
 ·rintro ⟨i, o⟩ ⟨i0, i1, i2, i3, i4⟩
  have i0 : 0 ≤ i := i0
  have i1 : i ≤ a.length := i1
  have i2 : o.length = 4 * i.toNat := i2
  have i3 : Hm o := i3
  have i4 : hv o = nv (a.take i.toNat) := i4
  show (∃ d', jB a i o = _ ∧ _) ∨ ∃ e, jB a i o = _ ∧ _
  unfold jB
  by_cases hi : i < a.length
  ·left
   have hk : i.toNat < a.length := by omega
   refine ⟨(i + 1, o ++ aCT (a.getD i.toNat 0) 4), ?_, ⟨by simp only; omega, by simp only; omega, ?_, ?_, ?_⟩, by simp only; omega⟩
   ·rw [if_pos hi]
    exact aX (aU4 a i i0 hi o (by omega)) (aA (by constructor <;> omega) rfl)
   ·simp only; rw [List.length_append, aJj]; omega
   ·exact aED i3 (aU2 _ _)
   ·simp only
    rw [show (i + 1).toNat = i.toNat + 1 from by omega, lW hk, aJh, aU3, i2, i4, aMy, h16, Nat.mod_eq_of_lt (dT ha _)]
  ·right
   have e : i.toNat = a.length := by omega
   rw [e, List.take_length] at i4
   exact ⟨o, by rw [if_neg hi], by rw [i2, e], i3, i4⟩
theorem aMz {n : Int} (h : 0 ≤ n) : Int.tdiv n 16 = ((n.toNat / 16 : Nat) : Int) ∧ Int.tmod n 16 = ((n.toNat % 16 : Nat) : Int) := by
 obtain ⟨k, rfl⟩ : ∃ k : Nat, n = (k : Int) := ⟨n.toNat, by omega⟩
 rw [Int.toNat_natCast]
 exact ⟨rfl, rfl⟩
theorem aMA (x y k : Nat) (h : x < 2 ^ k) : x ||| (y * 2 ^ k) = x + y * 2 ^ k := by
 have := Nat.two_pow_add_eq_or_of_lt h y
 rw [Nat.or_comm, Nat.mul_comm y, ← this, Nat.add_comm]
end Nu
end Go.Proofs
namespace Go.Proofs
open Go.Vc
set_option maxRecDepth 20000
namespace Nu
theorem aK6 {a b : List Nat} (ha : Hm a) (hb' : Nrm b) (h : a.length < b.length) : hv a < hv b := by
 have h1 := tN ha
 have h2 := aVB hb' (by intro e; subst e; simp at h)
 exact Nat.lt_of_lt_of_le h1 (Nat.le_trans (Nat.pow_le_pow_right (by decide) (by omega)) h2)
theorem aU6 (a b : List Nat) (la : Hm a) (lb' : Hm b) (ha : Nrm a) (hb' : Nrm b) (na : a.length ≤ 4611686018427387904) : mF a b = some (aCE (hv a) (hv b)) := by
 unfold mF
 refine yW (fun h => ?_) (fun h => ?_)
 ·unfold aCE
  rcases Nat.lt_or_ge a.length b.length with hl | hl
  ·have := aK6 la hb' hl
   rw [if_pos (by omega), if_pos this]
  ·have hl' : b.length < a.length := by omega
   have := aK6 lb' ha hl'
   rw [if_neg (by omega), if_neg (by omega), if_neg (by omega)]
 ·have hlen : a.length = b.length := by omega
  refine aA (by constructor <;> omega) ?_
  have key := fN (step := fun d : Int => kI a b d) (I := fun i => -1 ≤ i ∧ i < a.length ∧ hv (a.drop (i + 1).toNat) = hv (b.drop (i + 1).toNat)) (fun i => (i + 1).toNat)
   (fun i => if hv (a.take (i + 1).toNat) = hv (b.take (i + 1).toNat) then (.inl () : Unit ⊕ Int) else .inr (if hv (a.take (i + 1).toNat) < hv (b.take (i + 1).toNat) then -1 else 1)) ?_ ((a.length : Int) - 1) ⟨by omega, by omega, by rw [List.drop_eq_nil_of_le (by omega), List.drop_eq_nil_of_le (by omega)]⟩
  ·rw [show ((a.length : Int) - 1 + 1).toNat = a.length from by omega, List.take_length] at key
   rw [hlen, List.take_length] at key
   rw [hlen]
   refine aX key ?_
   unfold aCE
   by_cases e : hv a = hv b
   ·simp [e]
   ·by_cases e2 : hv a < hv b <;> simp [e, e2]
  ·intro i ⟨h1, h2, h3⟩
   show (∃ d', kI a b i = _ ∧ _) ∨ kI a b i = _
   unfold kI
   by_cases hi : 0 ≤ i
   ·have hk : (i + 1).toNat = i.toNat + 1 := by omega
    have hia : i.toNat < a.length := by omega
    have hib : i.toNat < b.length := by omega
    rw [if_pos hi, hk, oG hia, oG hib]
    have ta := tN (aB4 la i.toNat)
    have tb := tN (aB4 lb' i.toNat)
    rw [List.length_take, Nat.min_eq_left (by omega)] at ta tb
    by_cases he : a.getD i.toNat 0 = b.getD i.toNat 0
    ·left
     refine ⟨i - 1, aA (by constructor <;> omega) (aA (by constructor <;> omega) ?_), ⟨by omega, by omega, ?_⟩, by omega, ?_⟩
     ·rw [if_neg (by omega)]
      refine aA (by constructor <;> omega) (aA (by constructor <;> omega) ?_)
      rw [if_neg (by omega)]
      exact aA (by constructor <;> omega) rfl
     ·rw [show (i - 1 + 1).toNat = i.toNat from by omega, List.drop_eq_getElem_cons hia, List.drop_eq_getElem_cons hib, nD, nD]
      rw [hk] at h3
      rw [h3]
      rw [List.getD_eq_getElem?_getD, List.getD_eq_getElem?_getD, List.getElem?_eq_getElem hia, List.getElem?_eq_getElem hib] at he
      have he : a[i.toNat] = b[i.toNat] := he
      rw [he]
     ·rw [show (i - 1 + 1).toNat = i.toNat from by omega, he]
      simp only [Nat.add_right_cancel_iff, Nat.add_lt_add_iff_right]
    ·right
     refine aA (by constructor <;> omega) (aA (by constructor <;> omega) ?_)
     generalize a.getD i.toNat 0 = x at *
     generalize b.getD i.toNat 0 = y at *
     generalize hv (a.take i.toNat) = p at *
     generalize hv (b.take i.toNat) = q at *
     generalize 65536 ^ i.toNat = P at *
     rcases Nat.lt_or_ge x y with hxy | hxy
     ·have : P * (x + 1) ≤ P * y := Nat.mul_le_mul_left _ hxy
      rw [Nat.mul_add] at this
      rw [if_pos hxy, if_neg (by omega), if_pos (by omega)]
     ·have hxy' : y < x := by omega
      have : P * (y + 1) ≤ P * x := Nat.mul_le_mul_left _ hxy'
      rw [Nat.mul_add] at this
      rw [if_neg (by omega)]
      refine aA (by constructor <;> omega) (aA (by constructor <;> omega) ?_)
      rw [if_pos hxy', if_neg (by omega), if_neg (by omega)]
   ·right
    have e : i = -1 := by omega
    subst e
    rw [if_neg hi]
    simp [hv]
theorem aMB (a b : Nat) (h : (hb a).length ≤ 4611686018427387904) : mF (hb a) (hb b) = some (aCE a b) := by
 rw [aU6 _ _ (tX a) (tX b) (aJg a) (aJg b) h, oW, oW]
theorem aU7 {x : Nat} (h : x ≠ 0) : bl x = bl (x / 2) + 1 := by
 by_cases h1 : x = 1
 ·subst h1; rfl
 ·have := aBk (x := x) (k := 1) (by omega)
  rw [Nat.pow_one] at this
  omega
theorem aU8 {a : List Nat} (h : 0 < a.length) : hv a = hv (a.take (a.length - 1)) + 65536 ^ (a.length - 1) * a.getD (a.length - 1) 0 := by
 have := oG (a := a) (k := a.length - 1) (by omega)
 rwa [show a.length - 1 + 1 = a.length from by omega, List.take_length] at this
theorem aTG {a : List Nat} (hl : Hm a) (hn : Nrm a) (h : 0 < a.length) : bl (hv a) = 16 * (a.length - 1) + bl (a.getD (a.length - 1) 0) := by
 rw [aU8 h, sQ]
 refine aLH ((aBZ h).1 hn) ?_
 have := tN (aB4 hl (a.length - 1))
 rw [List.length_take, Nat.min_eq_left (by omega), sQ] at this
 exact this
theorem aTH (n : Nat) (hs : (hb n).length ≤ 1099511627776) : pZ (hb n) = some (bl n : Int) := by
 have ha := tX n
 have hn := aJg n
 have hv' := oW n
 generalize hb n = a at *
 unfold pZ
 by_cases h0 : a.length = 0
 ·have e : a = [] := List.eq_nil_of_length_eq_zero h0
  subst e
  rw [if_pos (by simp), ← hv']; rfl
 ·have hx := gK ha (a.length - 1)
  have hbx : bl (a.getD (a.length - 1) 0) ≤ 16 := sX (by omega)
  have e1 : ((a.length : Int) - 1).toNat = a.length - 1 := by omega
  rw [if_neg (by omega), e1]
  refine aA (by constructor <;> omega) (aA (by constructor <;> omega) (aA (by constructor <;> omega) (aA (by constructor <;> omega) ?_)))
  have key := fN (step := fun d : Int × Nat => jC d.1 d.2) (I := fun d => -1000 ≤ d.1 ∧ d.1 + bl d.2 ≤ 1099511627776000) (fun d => bl d.2) (fun d => d.1 + (bl d.2 : Int)) ?_ (16 * ((a.length : Int) - 1), a.getD (a.length - 1) 0) ⟨by simp only; omega, by simp only; omega⟩
  ·refine aX key ?_
   rw [← hv', aTG ha hn (by omega)]
   congr 1; simp only; omega
  ·rintro ⟨k, x⟩ ⟨k0, k1⟩
   have k0 : -1000 ≤ k := k0
   have k1 : k + bl x ≤ 1099511627776000 := k1
   show (∃ d', jC k x = _ ∧ _) ∨ jC k x = _
   unfold jC
   by_cases hx : 0 < x
   ·left
    have hh := aU7 (x := x) (by omega)
    refine ⟨(k + 1, x / 2), ?_, ⟨by simp only; omega, by simp only; omega⟩, by simp only; omega, ?_⟩
    ·rw [if_pos hx]; exact aA (by constructor <;> omega) rfl
    ·simp only; omega
   ·right
    have : x = 0 := by omega
    subst this
    rw [if_neg hx]; simp [aUv]
theorem aW4 (y : Nat) {s : Nat} (h : s < 16) : y % 65536 / 2 ^ s % 2 = y / 2 ^ s % 2 := by
 have h16s : (65536 : Nat) = 2 ^ s * 2 ^ (16 - s) := by rw [← Nat.pow_add, show s + (16 - s) = 16 from by omega]
 rw [h16s, Nat.mod_mul_right_div_self]
 refine Nat.mod_mod_of_dvd _ ⟨2 ^ (15 - s), ?_⟩
 rw [← Nat.pow_succ']; congr 1; omega
theorem aU9 (n : Nat) (i : Int) (h0 : 0 ≤ i) (h1 : i ≤ 4611686018427387904) (hs : (hb n).length ≤ 1099511627776) : sG (hb n) i = some (n / 2 ^ i.toNat % 2) := by
 have ha := tX n
 have hv' := oW n
 generalize hb n = a at *
 obtain ⟨d1, d2⟩ := aMz h0
 have hdm := Nat.div_add_mod i.toNat 16
 have hr := Nat.mod_lt i.toNat (show 0 < 16 by decide)
 have hP : (2 : Nat) ^ i.toNat = 65536 ^ (i.toNat / 16) * 2 ^ (i.toNat % 16) := by
  conv => lhs; rw [← hdm]
  rw [Nat.pow_add, sQ]
 unfold sG
 rw [d1, d2]
 refine aA (by constructor <;> omega) ?_
 by_cases h : a.length ≤ i.toNat / 16
 ·rw [if_pos (by omega)]
  have hlt := tN ha
  rw [hv'] at hlt
  have : n < 2 ^ i.toNat := by
   rw [hP]
   refine Nat.lt_of_lt_of_le hlt (Nat.le_trans (Nat.pow_le_pow_right (by decide) h) ?_)
   exact Nat.le_mul_of_pos_right _ (Nat.two_pow_pos _)
  rw [Nat.div_eq_of_lt this]
 ·rw [if_neg (by omega), Int.toNat_natCast]
  refine aA (by constructor <;> omega) (aA (by constructor <;> omega) ?_)
  have e2 : ((((i.toNat % 16 : Nat) : Int)) % (18446744073709551616 : Int)).toNat = i.toNat % 16 := by omega
  have hg : a.getD (i.toNat / 16) 0 = hv a / 65536 ^ (i.toNat / 16) % 65536 := by
   have := aQK ha (i.toNat / 16)
   rw [List.drop_eq_getElem_cons (by omega), nD] at this
   rw [← this, Nat.add_mul_mod_self_left, List.getD_eq_getElem?_getD, List.getElem?_eq_getElem (by omega)]
   exact (Nat.mod_eq_of_lt (ha _ (List.getElem_mem _))).symm
  rw [e2, aMl, hg, hv', hP, ← Nat.div_div_eq_div_mul]
  exact congrArg some (aW4 _ hr)
structure aVa (a b : List Nat) (c : Nat) (i : Int) (o : List Nat) : Prop where
 i0 : 0 ≤ i
 i1 : i ≤ max a.length b.length + 1
 c1 : c ≤ 1
 len : o.length = i.toNat
 lm : Hm o
 sum : hv o + 65536 ^ i.toNat * c = hv (a.take i.toNat) + hv (b.take i.toNat)
theorem oH (b : List Nat) (i : Nat) : hv (b.take (i + 1)) = hv (b.take i) + 65536 ^ i * b.getD i 0 := by
 rcases Nat.lt_or_ge i b.length with h | h
 ·exact oG h
 ·rw [List.take_of_length_le (by omega), List.take_of_length_le h, List.getD_eq_getElem?_getD, List.getElem?_eq_none h]
  simp
theorem aJk (a : List Nat) (x : Nat) : hv (a ++ [x]) = hv a + 65536 ^ a.length * x := by rw [aJh]; simp [hv]
theorem aRG {a b : List Nat} {c : Nat} {i : Int} {o : List Nat} (la : Hm a) (lb' : Hm b) (h : aVa a b c i o) (hi : i ≤ max a.length b.length) :
  aVa a b ((c + a.getD i.toNat 0 + b.getD i.toNat 0) / 65536) (i + 1) (o ++ [(c + a.getD i.toNat 0 + b.getD i.toNat 0) % 65536]) := by
 have hx := gK la i.toNat
 have hy := gK lb' i.toNat
 have hc := h.c1
 have h0 := h.i0
 have hl := h.len
 have hs := h.sum
 have e1 : (i + 1).toNat = i.toNat + 1 := by omega
 refine ⟨by omega, by omega, by omega, by rw [List.length_append, hl, e1]; rfl, aED h.lm (by intro x hx; simp at hx; subst hx; exact Nat.mod_lt _ (by decide)), ?_⟩
 have em := Nat.mod_add_div (c + a.getD i.toNat 0 + b.getD i.toNat 0) 65536
 have e2 := congrArg (65536 ^ i.toNat * ·) em
 simp only [Nat.mul_add] at e2
 rw [e1, aJk, hl, oH, oH, Nat.pow_succ, Nat.mul_assoc]
 omega
theorem aQL {a b : List Nat} {i : Int} {o : List Nat} (lb' : Hm b) (i0 : 0 ≤ i) (hs : o.length ≤ 1099511627778) (hi : i ≤ 1099511627776) (c : Nat) (hc : c ≤ 65536) :
  kE i b o c = some (.inl ((c + b.getD i.toNat 0) / 65536, i + 1, o ++ [(c + b.getD i.toNat 0) % 65536])) := by
 have hy := gK lb' i.toNat
 unfold kE
 by_cases h : i < b.length
 ·rw [if_pos h, aFS, Nat.mod_eq_of_lt (show c + b.getD i.toNat 0 < 4294967296 by omega)]
  exact aA ⟨i0, h⟩ (aA (by omega) (aA (by constructor <;> omega) rfl))
 ·have : b.getD i.toNat 0 = 0 := by rw [List.getD_eq_getElem?_getD, List.getElem?_eq_none (by omega)]; rfl
  rw [if_neg h, aFS, this, Nat.add_zero]
  exact aA (by omega) (aA (by constructor <;> omega) rfl)
theorem aVb (a b : List Nat) (la : Hm a) (lb' : Hm b) (ha : a.length ≤ 1099511627775) (hb' : b.length ≤ 1099511627775) : nU a b = some (hb (hv a + hv b)) := by
 unfold nU
 have key := cR (step := fun d : Nat × Int × List Nat => kF a b d.1 d.2.1 d.2.2) (I := fun d => aVa a b d.1 d.2.1 d.2.2) (fun d => 2 * (max a.length b.length - d.2.1).toNat + d.1) (fun e => Hm e ∧ e.length ≤ 1099511627777 ∧ hv e = hv a + hv b) ?_ (0, 0, []) ⟨by simp, by simp; omega, by simp, by simp, (fun x hx => by cases hx), by simp [hv]⟩
 ·obtain ⟨e, h1, h2, h3, h4⟩ := key
  refine aX h1 (aX (wO e h2 (by omega)) ?_)
  rw [h4]
 ·rintro ⟨c, i, o⟩ h
  have h : aVa a b c i o := h
  have i0 := h.i0
  have i1 := h.i1
  have hc := h.c1
  have hl := h.len
  show (∃ d', kF a b c i o = _ ∧ _) ∨ ∃ e, kF a b c i o = _ ∧ _
  unfold kF
  have hx := gK la i.toNat
  by_cases hg : (i < a.length ∨ i < b.length) ∨ 0 < c
  ·left
   have hi : i ≤ max a.length b.length := by
    by_cases hge : i ≤ max a.length b.length
    ·exact hge
    ·exfalso
     have hs := h.sum
     rw [List.take_of_length_le (by omega), List.take_of_length_le (by omega)] at hs
     have p1 := tN la
     have p2 := tN lb'
     have q1 : 65536 ^ a.length ≤ 65536 ^ (i.toNat - 1) := Nat.pow_le_pow_right (by decide) (by omega)
     have q2 : 65536 ^ b.length ≤ 65536 ^ (i.toNat - 1) := Nat.pow_le_pow_right (by decide) (by omega)
     have q3 : 65536 ^ i.toNat = 65536 ^ (i.toNat - 1) * 65536 := by rw [← Nat.pow_succ]; congr 1; omega
     rw [q3] at hs
     have : 65536 ^ (i.toNat - 1) * 65536 * 1 ≤ 65536 ^ (i.toNat - 1) * 65536 * c := Nat.mul_le_mul_left _ (by omega)
     omega
   have hst := aRG la lb' h hi
   refine ⟨(_, _, _), ?_, hst, ?_⟩
   ·rw [if_pos hg]
    by_cases hia : i < a.length
    ·rw [if_pos hia, Nat.mod_eq_of_lt (show c + a.getD i.toNat 0 < 4294967296 by omega)]
     exact aA ⟨i0, hia⟩ (aQL (a := a) lb' i0 (by omega) (by omega) _ (by omega))
    ·have : a.getD i.toNat 0 = 0 := by rw [List.getD_eq_getElem?_getD, List.getElem?_eq_none (by omega)]; rfl
     rw [if_neg hia, this, Nat.add_zero]
     exact aQL (a := a) lb' i0 (by omega) (by omega) _ (by omega)
   ·simp only
    have hy := gK lb' i.toNat
    by_cases hlt : i < max a.length b.length
    ·have : (c + a.getD i.toNat 0 + b.getD i.toNat 0) / 65536 ≤ 1 := by omega
     omega
    ·have z1 : a.getD i.toNat 0 = 0 := by rw [List.getD_eq_getElem?_getD, List.getElem?_eq_none (by omega)]; rfl
     have z2 : b.getD i.toNat 0 = 0 := by rw [List.getD_eq_getElem?_getD, List.getElem?_eq_none (by omega)]; rfl
     rw [z1, z2]
     omega
  ·right
   have hs := h.sum
   have c0 : c = 0 := by omega
   rw [c0, Nat.mul_zero, Nat.add_zero, List.take_of_length_le (by omega), List.take_of_length_le (by omega)] at hs
   exact ⟨o, by rw [if_neg hg], h.lm, by omega, hs⟩
theorem aQM (a b : Nat) (ha : (hb a).length ≤ 1099511627775) (hb' : (hb b).length ≤ 1099511627775) : nU (hb a) (hb b) = some (hb (a + b)) := by
 rw [aVb _ _ (tX a) (tX b) ha hb', oW, oW]
theorem aJl : hb 1 = [1] := by rw [aCS (by decide)]; simp [kX]
end Nu
end Go.Proofs
namespace Go.Proofs
open Go.Vc
set_option maxRecDepth 20000
namespace Nu
structure aRH (a b : List Nat) (c : Int) (i : Int) (o : List Nat) : Prop where
 i0 : 0 ≤ i
 i1 : i ≤ a.length
 c0 : 0 ≤ c
 c1 : c ≤ 1
 len : o.length = i.toNat
 lm : Hm o
 sum : hv (a.take i.toNat) + 65536 ^ i.toNat * c.toNat = hv o + hv (b.take i.toNat)
theorem aK7 {a b : List Nat} {c c' : Int} {i : Int} {o : List Nat} {d : Nat} (h : aRH a b c i o) (hi : i < a.length) (hd : d < 65536) (hc0 : 0 ≤ c') (hc1 : c' ≤ 1) (e : a.getD i.toNat 0 + 65536 * c'.toNat = c.toNat + d + b.getD i.toNat 0) : aRH a b c' (i + 1) (o ++ [d]) := by
 have h0 := h.i0
 have hs := h.sum
 have hl := h.len
 have e1 : (i + 1).toNat = i.toNat + 1 := by omega
 refine ⟨by omega, by omega, hc0, hc1, by rw [List.length_append, hl, e1]; rfl, aED h.lm (by intro x hx; simp at hx; subst hx; exact hd), ?_⟩
 have e2 := congrArg (65536 ^ i.toNat * ·) e
 simp only [Nat.mul_add] at e2
 rw [e1, aJk, hl, oH, oH, Nat.pow_succ, Nat.mul_assoc]
 omega
theorem w32 {x : Nat} (h : x < 65536) : IntKind.i32.wrap (x : Int) = (x : Int) := by
 simp only [IntKind.wrap, IntKind.signed, IntKind.bits]; simp; omega
theorem aVc {a b : List Nat} {c : Int} {i : Int} {o : List Nat} (la : Hm a) (lb' : Hm b) (hs : a.length ≤ 1099511627776) (h : aRH a b c i o) (hi : i < a.length) :
  ∃ c' o', kJ o i ((a.getD i.toNat 0 : Int) - c - (b.getD i.toNat 0 : Int)) = some (.inl (c', i + 1, o')) ∧ aRH a b c' (i + 1) o' := by
 have hx := gK la i.toNat
 have hy := gK lb' i.toNat
 have h0 := h.i0
 have h1 := h.c0
 have h2 := h.c1
 have hl := h.len
 unfold kJ
 by_cases hn : (a.getD i.toNat 0 : Int) - c - (b.getD i.toNat 0 : Int) < 0
 ·refine ⟨1, o ++ [a.getD i.toNat 0 + 65536 - c.toNat - b.getD i.toNat 0], ?_, aK7 h hi (by omega) (by decide) (by decide) (by omega)⟩
  rw [if_pos hn, show (((a.getD i.toNat 0 : Int) - c - (b.getD i.toNat 0 : Int) + 65536) % 4294967296).toNat = a.getD i.toNat 0 + 65536 - c.toNat - b.getD i.toNat 0 from by omega]
  exact aA (by constructor <;> omega) (aA (by omega) (aA (by constructor <;> omega) rfl))
 ·refine ⟨0, o ++ [a.getD i.toNat 0 - c.toNat - b.getD i.toNat 0], ?_, aK7 h hi (by omega) (by decide) (by decide) (by omega)⟩
  rw [if_neg hn, show (((a.getD i.toNat 0 : Int) - c - (b.getD i.toNat 0 : Int)) % 4294967296).toNat = a.getD i.toNat 0 - c.toNat - b.getD i.toNat 0 from by omega]
  exact aA (by omega) (aA (by constructor <;> omega) rfl)
theorem aVd (a b : List Nat) (la : Hm a) (lb' : Hm b) (ha : a.length ≤ 1099511627775) (hab : b.length ≤ a.length) (hle : hv b ≤ hv a) : pL a b = some (hb (hv a - hv b)) := by
 unfold pL
 have key := cR (step := fun d : Int × Int × List Nat => kK a b d.1 d.2.1 d.2.2) (I := fun d => aRH a b d.1 d.2.1 d.2.2) (fun d => (a.length - d.2.1).toNat) (fun e => Hm e ∧ e.length = a.length ∧ hv e = hv a - hv b) ?_ (0, 0, []) ⟨by simp, by simp, by simp, by simp, by simp, (fun x hx => by cases hx), by simp [hv]⟩
 ·obtain ⟨e, h1, h2, h3, h4⟩ := key
  refine aX h1 (aX (wO e h2 (by omega)) ?_)
  rw [h4]
 ·rintro ⟨c, i, o⟩ h
  have h : aRH a b c i o := h
  have i0 := h.i0
  have i1 := h.i1
  have c0 := h.c0
  have c1 := h.c1
  show (∃ d', kK a b c i o = _ ∧ _) ∨ ∃ e, kK a b c i o = _ ∧ _
  unfold kK
  have hx := gK la i.toNat
  have hy := gK lb' i.toNat
  by_cases hi : i < a.length
  ·left
   obtain ⟨c', o', q1, q2⟩ := aVc la lb' (by omega) h hi
   refine ⟨(c', i + 1, o'), ?_, q2, by simp only; omega⟩
   rw [if_pos hi, w32 hx, w32 hy]
   refine aA ⟨i0, hi⟩ (aA (by constructor <;> omega) ?_)
   by_cases hib : i < b.length
   ·rw [if_pos hib]
    exact aA ⟨i0, hib⟩ (aA (by constructor <;> omega) q1)
   ·have hz : b.getD i.toNat 0 = 0 := by rw [List.getD_eq_getElem?_getD, List.getElem?_eq_none (by omega)]; rfl
    rw [hz] at q1
    rw [if_neg hib]
    simpa using q1
  ·right
   have hl := h.len
   have hs := h.sum
   rw [List.take_of_length_le (by omega), List.take_of_length_le (l := b) (by omega)] at hs
   have hlt := tN h.lm
   rw [hl] at hlt
   refine ⟨o, by rw [if_neg hi], h.lm, by omega, ?_⟩
   have c0' : c.toNat = 0 := by
    rcases Nat.eq_zero_or_pos c.toNat with hz | hz
    ·exact hz
    ·have : 65536 ^ i.toNat * 1 ≤ 65536 ^ i.toNat * c.toNat := Nat.mul_le_mul_left _ hz
     omega
   rw [c0', Nat.mul_zero] at hs
   omega
theorem xV {a b : Nat} (h : a ≤ b) : (hb a).length ≤ (hb b).length := by
 have := tN (tX b)
 rw [oW] at this
 exact aJi.2 (Nat.lt_of_le_of_lt h this)
theorem aVe (a b : Nat) (ha : (hb a).length ≤ 1099511627775) (hle : b ≤ a) : pL (hb a) (hb b) = some (hb (a - b)) := by
 rw [aVd _ _ (tX a) (tX b) ha (xV hle) (by rw [oW, oW]; exact hle), oW, oW]
theorem aW5 : eJ .u32 = 4294967296 := by decide +kernel
theorem aW6 (a b : Nat) : iB .u32 a b = a * b % 4294967296 := by rw [aLa, aW5]
theorem aDZ {a : List Nat} (h : Hm a) (k : Nat) : a.getD k 0 = hv a / 65536 ^ k % 65536 := by
 rw [← aQK h]
 rcases Nat.lt_or_ge k a.length with hk | hk
 ·rw [List.drop_eq_getElem_cons hk, nD, Nat.add_mul_mod_self_left, List.getD_eq_getElem?_getD, List.getElem?_eq_getElem hk]
  exact (Nat.mod_eq_of_lt (h _ (List.getElem_mem hk))).symm
 ·rw [List.drop_eq_nil_of_le hk, List.getD_eq_getElem?_getD, List.getElem?_eq_none hk]; rfl
theorem aPB {a : List Nat} (h : Hm a) {k : Nat} (hk : hv a < 65536 ^ k) : a.getD k 0 = 0 := by
 rw [aDZ h, Nat.div_eq_of_lt hk]
structure RMJ (b : List Nat) (x : Nat) (i : Int) (o0 : List Nat) (c : Nat) (j : Int) (o : List Nat) : Prop where
 j0 : 0 ≤ j
 j1 : j ≤ b.length
 len : o.length = o0.length
 lm : Hm o
 c1 : c < 65536
 rest : o.drop (i + j).toNat = o0.drop (i + j).toNat
 sum : hv o + 65536 ^ (i + j).toNat * c = hv o0 + 65536 ^ i.toNat * x * hv (b.take j.toNat)
theorem aTI {N N' N0 Q R P o v c c' x y t : Nat} (hP : P = Q * R) (h1 : N' + P * o = N + P * v) (h2 : N + P * c = N0 + Q * x * t) (h3 : v + 65536 * c' = o + x * y + c) : N' + P * 65536 * c' = N0 + Q * x * (t + R * y) := by
 have e := congrArg (P * ·) h3
 simp only [Nat.mul_add] at e
 have e2 : P * (x * y) = Q * x * (R * y) := by
  rw [hP, Nat.mul_assoc, Nat.mul_assoc]; congr 1; rw [Nat.mul_left_comm]
 rw [Nat.mul_add, Nat.mul_assoc P 65536 c']
 omega
theorem aTJ {b : List Nat} {x : Nat} {i : Int} {o0 : List Nat} {c : Nat} {j : Int} {o : List Nat} (lb' : Hm b) (hi : 0 ≤ i) (hl : i + b.length ≤ o0.length) (h : RMJ b x i o0 c j o) (hj : j < b.length) {v c' : Nat} (hv1 : v < 65536) (hc' : c' < 65536) (e : v + 65536 * c' = o.getD (i + j).toNat 0 + x * b.getD j.toNat 0 + c) :
  RMJ b x i o0 c' (j + 1) (o.set (i + j).toNat v) := by
 have h0 := h.j0
 have hlen := h.len
 have e1 : (i + (j + 1)).toNat = (i + j).toNat + 1 := by omega
 have e2 : (j + 1).toNat = j.toNat + 1 := by omega
 refine ⟨by omega, by omega, by rw [List.length_set]; exact hlen, aPz h.lm _ hv1, hc', ?_, ?_⟩
 ·rw [e1, drop_set]; exact sA h.rest
 ·rw [e1, e2, oH, Nat.pow_succ]
  exact aTI (R := 65536 ^ j.toNat) (by rw [← Nat.pow_add]; congr 1; omega) (aPy (by omega)) h.sum e
theorem aVf {a b : List Nat} {i : Int} {o0 : List Nat} (hi : 0 ≤ i) (hia : i < a.length) (hs : i + b.length ≤ 9000000000000) (hl : i + b.length ≤ o0.length) (la : Hm a) (lb' : Hm b) (l0 : Hm o0) :
  ∃ e : Nat × List Nat, cE (fun d : Nat × Int × List Nat => iL b i a d.1 d.2.1 d.2.2) (0, 0, o0) = some e ∧ RMJ b (a.getD i.toNat 0) i o0 e.1 b.length e.2 := by
 ·have key := cR (step := fun d : Nat × Int × List Nat => iL b i a d.1 d.2.1 d.2.2) (I := fun d => RMJ b (a.getD i.toNat 0) i o0 d.1 d.2.1 d.2.2) (fun d => (b.length - d.2.1).toNat) (fun e => RMJ b (a.getD i.toNat 0) i o0 e.1 b.length e.2) ?_ (0, 0, o0) ⟨by simp, by simp, rfl, l0, by simp, rfl, by simp [hv]⟩
  ·obtain ⟨e, h1, h2⟩ := key
   exact ⟨e, h1, h2⟩
  ·rintro ⟨c, j, o⟩ h
   have h : RMJ b (a.getD i.toNat 0) i o0 c j o := h
   have h0 := h.j0
   have hlen := h.len
   have h1 := h.j1
   have hx := gK la i.toNat
   have hy := gK lb' j.toNat
   have ho := gK h.lm (i + j).toNat
   have hc := h.c1
   have hp : a.getD i.toNat 0 * b.getD j.toNat 0 ≤ 65535 * 65535 := Nat.mul_le_mul (by omega) (by omega)
   show (∃ d', iL b i a c j o = _ ∧ _) ∨ ∃ e, iL b i a c j o = _ ∧ _
   unfold iL mR
   by_cases hj : j < b.length
   ·left
    have m1 : iB .u32 (a.getD i.toNat 0) (b.getD j.toNat 0) = a.getD i.toNat 0 * b.getD j.toNat 0 := by rw [aW6, Nat.mod_eq_of_lt (by omega)]
    have m2 : (a.getD i.toNat 0 * b.getD j.toNat 0 + o.getD (i + j).toNat 0) % 4294967296 = a.getD i.toNat 0 * b.getD j.toNat 0 + o.getD (i + j).toNat 0 := Nat.mod_eq_of_lt (by omega)
    have m3 : (a.getD i.toNat 0 * b.getD j.toNat 0 + o.getD (i + j).toNat 0 + c) % 4294967296 = a.getD i.toNat 0 * b.getD j.toNat 0 + o.getD (i + j).toNat 0 + c := Nat.mod_eq_of_lt (by omega)
    simp only [m1, m2, m3, aFS]
    generalize hz : a.getD i.toNat 0 * b.getD j.toNat 0 + o.getD (i + j).toNat 0 + c = z
    have hzl : z < 4294967296 := by omega
    have hst := aTJ lb' hi hl h hj (v := z % 65536) (c' := z / 65536) (Nat.mod_lt _ (by decide)) (by omega) (by omega)
    refine ⟨(z / 65536, j + 1, o.set (i + j).toNat (z % 65536)), ?_, hst, by simp only; omega⟩
    rw [if_pos hj, if_neg (by omega), Nat.add_zero, Nat.mod_eq_of_lt (show z / 65536 < 4294967296 by omega)]
    exact aA ⟨hi, hia⟩ (aA ⟨h0, hj⟩ (aA (by constructor <;> omega) (aA (by constructor <;> omega) (aA (by constructor <;> omega) (aA (by constructor <;> omega) (aA (by constructor <;> omega) rfl))))))
   ·right
    have e : j = b.length := by omega
    rw [e] at h
    exact ⟨(c, o), by rw [if_neg hj], h⟩
end Nu
end Go.Proofs
namespace Go.Proofs
open Go.Vc
set_option maxRecDepth 20000
namespace Nu
theorem aTK {o : List Nat} {k : Int} {c : Nat} (hk : 0 ≤ k) (hl : k < o.length) (hs : o.length ≤ 9000000000000) (lm : Hm o) (hz : o.getD k.toNat 0 = 0) (hc : c < 65536) :
  ∃ e, cE (fun d : Nat × Int × List Nat => eE d.1 d.2.1 d.2.2) (c, k, o) = some e ∧ Hm e ∧ e.length = o.length ∧ hv e = hv o + 65536 ^ k.toNat * c := by
 have hset := aPy (a := o) (k := k.toNat) (v := c) (by omega)
 rw [hz, Nat.mul_zero, Nat.add_zero] at hset
 refine cR (step := fun d : Nat × Int × List Nat => eE d.1 d.2.1 d.2.2) (I := fun d => d = (c, k, o) ∨ d = (0, k + 1, o.set k.toNat c)) (fun d => d.1) (fun e => Hm e ∧ e.length = o.length ∧ hv e = hv o + 65536 ^ k.toNat * c) ?_ (c, k, o) (.inl rfl)
 rintro d (rfl | rfl)
 ·show (∃ d', eE c k o = _ ∧ _) ∨ ∃ e, eE c k o = _ ∧ _
  unfold eE
  by_cases h0 : 0 < c
  ·left
   refine ⟨(0, k + 1, o.set k.toNat c), ?_, .inr rfl, h0⟩
   rw [if_pos h0, hz, Nat.add_zero, Nat.mod_eq_of_lt (show c < 4294967296 by omega), aFS, Nat.mod_eq_of_lt hc, Nat.div_eq_of_lt hc]
   exact aA ⟨hk, hl⟩ (aA ⟨hk, hl⟩ (aA (by constructor <;> omega) rfl))
  ·right
   have e0 : c = 0 := by omega
   refine ⟨o, by rw [if_neg h0], lm, rfl, by rw [e0, Nat.mul_zero, Nat.add_zero]⟩
 ·right
  show ∃ e, eE 0 (k + 1) (o.set k.toNat c) = _ ∧ _
  unfold eE
  refine ⟨o.set k.toNat c, by rw [if_neg (by omega)], aPz lm _ hc, by rw [List.length_set], hset⟩
structure RMI (a b : List Nat) (i : Int) (o : List Nat) : Prop where
 i0 : 0 ≤ i
 i1 : i ≤ a.length
 len : o.length = a.length + b.length
 lm : Hm o
 sum : hv o = hv (a.take i.toNat) * hv b
theorem aTL {a b : List Nat} {i : Int} {o : List Nat} (la : Hm a) (lb' : Hm b) (h : RMI a b i o) : hv o < 65536 ^ (i.toNat + b.length) := by
 rw [h.sum, Nat.pow_add]
 have h1 := tN (aB4 la i.toNat)
 have h2 := tN lb'
 have h3 : (a.take i.toNat).length ≤ i.toNat := by rw [List.length_take]; omega
 have h4 := Nat.lt_of_lt_of_le h1 (Nat.pow_le_pow_right (show 0 < 65536 by decide) h3)
 exact Nat.mul_lt_mul'' h4 h2
theorem aVg (a b : List Nat) (la : Hm a) (lb' : Hm b) (ha : a.length ≤ 1000000000) (hb' : b.length ≤ 1000000000) : mE a b = some (hb (hv a * hv b)) := by
 unfold mE
 have en : ((a.length : Int) + (b.length : Int)).toNat = a.length + b.length := by omega
 refine aA (by constructor <;> omega) (aA (by omega) (aA (by omega) ?_))
 rw [en]
 have key := cR (step := fun d : Int × List Nat => kD a b d.1 d.2) (I := fun d => RMI a b d.1 d.2) (fun d => (a.length - d.1).toNat) (fun e => Hm e ∧ e.length = a.length + b.length ∧ hv e = hv a * hv b) ?_ (0, List.replicate (a.length + b.length) 0) ⟨by simp, by simp, by simp, aPA _, by rw [aPx]; simp [hv]⟩
 ·obtain ⟨e, h1, h2, h3, h4⟩ := key
  refine aX h1 (aX (wO e h2 (by omega)) ?_)
  rw [h4]
 ·rintro ⟨i, o⟩ h
  have h : RMI a b i o := h
  have i0 := h.i0
  have i1 := h.i1
  have hl := h.len
  show (∃ d', kD a b i o = _ ∧ _) ∨ ∃ e, kD a b i o = _ ∧ _
  unfold kD
  by_cases hi : i < a.length
  ·left
   obtain ⟨⟨c, o1⟩, q1, q2⟩ := aVf (o0 := o) i0 hi (by omega) (by omega) la lb' h.lm
   have q2 : RMJ b (a.getD i.toNat 0) i o c b.length o1 := q2
   have e1 : (i + 1).toNat = i.toNat + 1 := by omega
   have e2 : (i + (b.length : Int)).toNat = i.toNat + b.length := by omega
   have l1 := q2.len
   have hz : o1.getD (i + (b.length : Int)).toNat 0 = 0 := by
    rw [aAe q2.rest, e2]
    exact aPB h.lm (aTL la lb' h)
   obtain ⟨o2, p1, p2, p3, p4⟩ := aTK (o := o1) (k := i + b.length) (c := c) (by omega) (by omega) (by omega) q2.lm hz q2.c1
   refine ⟨(i + 1, o2), ?_, ⟨by simp only; omega, by simp only; omega, by rw [p3]; omega, p2, ?_⟩, by simp only; omega⟩
   ·rw [if_pos hi]
    refine aX q1 ?_
    unfold oT
    exact aA (by constructor <;> omega) (aX p1 (aA (by constructor <;> omega) rfl))
   ·simp only
    have hs := q2.sum
    rw [p4, hs, e1, oH, h.sum, Int.toNat_natCast, List.take_length, Nat.add_mul]
  ·right
   have hs := h.sum
   rw [List.take_of_length_le (by omega)] at hs
   exact ⟨o, by rw [if_neg hi], h.lm, hl, hs⟩
theorem aQN (a b : Nat) (ha : (hb a).length ≤ 1000000000) (hb' : (hb b).length ≤ 1000000000) : mE (hb a) (hb b) = some (hb (a * b)) := by
 rw [aVg _ _ (tX a) (tX b) ha hb', oW, oW]
theorem aJm {x : Nat} (h0 : x ≠ 0) (h : x < 65536) : hb x = [x] := by
 rw [aCS h0, Nat.mod_eq_of_lt h, Nat.div_eq_of_lt h, kX]
theorem aEE (k : Nat) {n m : Nat} (h : n < 2 ^ m) (hm : m ≤ 16 * k) : (hb n).length ≤ k := by
 refine aJi.2 (Nat.lt_of_lt_of_le h ?_)
 rw [sQ]
 exact p2m _ _ hm
theorem aWI {b : Nat} (hb0 : b ≠ 0) (hb1 : b < 16) (i : Nat) (hi : i ≤ 10000) : mE (hb (b ^ i)) [b] = some (hb (b ^ (i + 1))) := by
 have h1 : b ^ i ≤ 2 ^ (4 * i) := by
  rw [Nat.pow_mul]; exact Nat.pow_le_pow_left (by omega) i
 have := aQN (b ^ i) b (aEE 1000000000 (aBP (4 * i + 1) h1 (by omega)) (by omega)) (aEE 1000000000 (m := 4) (by omega) (by decide))
 rw [aJm hb0 (by omega)] at this
 rw [this, Nat.pow_succ]
theorem aVh (n : Int) (h0 : 0 ≤ n) (h1 : n ≤ 1000) : sF n = some (hb (10 ^ n.toNat)) := by
 unfold sF
 refine aX (fN (step := fun d : List Nat × Int => kG n d.1 d.2) (I := fun d => 0 ≤ d.2 ∧ d.2 ≤ n ∧ d.1 = hb (10 ^ d.2.toNat)) (fun d => (n - d.2).toNat) (fun _ => hb (10 ^ n.toNat)) ?_ ([1], 0) ⟨by simp, by simp; exact h0, by simp [aJl]⟩) rfl
 rintro ⟨o, i⟩ ⟨i0, i1, i2⟩
 have i0 : 0 ≤ i := i0
 have i1 : i ≤ n := i1
 have i2 : o = hb (10 ^ i.toNat) := i2
 show (∃ d', kG n o i = _ ∧ _) ∨ kG n o i = _
 unfold kG
 by_cases hi : i < n
 ·left
  have hp := aWI (b := 10) (by decide) (by decide) i.toNat (by omega)
  rw [← i2] at hp
  refine ⟨(hb (10 ^ (i.toNat + 1)), i + 1), ?_, ⟨by simp only; omega, by simp only; omega, ?_⟩, by simp only; omega, rfl⟩
  ·rw [if_pos hi]
   exact aX hp (aA (by constructor <;> omega) rfl)
  ·simp only; rw [show (i + 1).toNat = i.toNat + 1 from by omega]
 ·right
  rw [if_neg hi, i2, show i = n from by omega]
structure aK8 (a : List Nat) (m s : Nat) (c : Nat) (i : Int) (o : List Nat) : Prop where
 i0 : 0 ≤ i
 i1 : i ≤ a.length
 c1 : c < 2 ^ s
 len : o.length = m + i.toNat
 lm : Hm o
 sum : hv o + 65536 ^ (m + i.toNat) * c = 65536 ^ m * 2 ^ s * hv (a.take i.toNat)
theorem aPC {a : List Nat} {m s c : Nat} {i : Int} {o : List Nat} (la : Hm a) (hs : s < 16) (h : aK8 a m s c i o) (hi : i < a.length) :
  aK8 a m s ((c + a.getD i.toNat 0 * 2 ^ s) / 65536) (i + 1) (o ++ [(c + a.getD i.toNat 0 * 2 ^ s) % 65536]) := by
 have hx := gK la i.toNat
 have hc := h.c1
 have h0 := h.i0
 have hl := h.len
 have hsum := h.sum
 have e1 : (i + 1).toNat = i.toNat + 1 := by omega
 have hz : c + a.getD i.toNat 0 * 2 ^ s < 65536 * 2 ^ s := by
  have := Nat.mul_le_mul_right (2 ^ s) (show a.getD i.toNat 0 + 1 ≤ 65536 by omega)
  rw [Nat.add_mul, Nat.one_mul] at this
  omega
 refine ⟨by omega, by omega, (Nat.div_lt_iff_lt_mul (by decide)).2 (by rw [Nat.mul_comm (2 ^ s) 65536]; exact hz), by rw [List.length_append, hl, e1]; rfl, aED h.lm (by intro x hx; simp at hx; subst hx; exact Nat.mod_lt _ (by decide)), ?_⟩
 have em := Nat.mod_add_div (c + a.getD i.toNat 0 * 2 ^ s) 65536
 have e2 := congrArg (65536 ^ (m + i.toNat) * ·) em
 simp only [Nat.mul_add] at e2
 have e3 : 65536 ^ m * 2 ^ s * (65536 ^ i.toNat * a.getD i.toNat 0) = 65536 ^ (m + i.toNat) * (a.getD i.toNat 0 * 2 ^ s) := by
  rw [Nat.pow_add, Nat.mul_assoc, Nat.mul_assoc, Nat.mul_left_comm (2 ^ s), Nat.mul_comm (2 ^ s)]
 rw [e1, aJk, hl, oG (by omega), ← Nat.add_assoc, Nat.pow_succ, Nat.mul_assoc, Nat.mul_add, e3, ← hsum]
 omega
theorem aVi (a : List Nat) (n : Int) (la : Hm a) (h0 : 0 ≤ n) (hn : n ≤ 1000000000) (ha : a.length ≤ 1000000000) (hna : Nrm a) : jD a n = some (hb (hv a * 2 ^ n.toNat)) := by
 obtain ⟨d1, d2⟩ := aMz h0
 have hdm := Nat.div_add_mod n.toNat 16
 have hr := Nat.mod_lt n.toNat (show 0 < 16 by decide)
 have hP : (2 : Nat) ^ n.toNat = 65536 ^ (n.toNat / 16) * 2 ^ (n.toNat % 16) := by
  conv => lhs; rw [← hdm]
  rw [Nat.pow_add, sQ]
 unfold jD
 by_cases hz : a.length = 0
 ·have e : a = [] := List.eq_nil_of_length_eq_zero hz
  subst e
  rw [if_pos (by simp)]
  simp [hv, kX]
 ·rw [if_neg (by omega), d1, Int.toNat_natCast]
  refine aA (by constructor <;> omega) (aA (by omega) (aA (by omega) ?_))
  have key := cR (step := fun d : Nat × Int × List Nat => kH a n d.1 d.2.1 d.2.2) (I := fun d => aK8 a (n.toNat / 16) (n.toNat % 16) d.1 d.2.1 d.2.2) (fun d => (a.length - d.2.1).toNat) (fun e => aK8 a (n.toNat / 16) (n.toNat % 16) e.1 a.length e.2) ?_ (0, 0, List.replicate (n.toNat / 16) 0) ⟨by simp, by simp, Nat.two_pow_pos _, by simp, aPA _, by rw [aPx]; simp [hv]⟩
  ·obtain ⟨e, h1, h2⟩ := key
   obtain ⟨c, o⟩ := e
   have h2 : aK8 a (n.toNat / 16) (n.toNat % 16) c a.length o := h2
   have hc := h2.c1
   have hl := h2.len
   have hsum := h2.sum
   have hc2 : c < 65536 := Nat.lt_of_lt_of_le hc (by rw [show (65536 : Nat) = 2 ^ 16 from rfl]; exact p2m _ _ (by omega))
   rw [Int.toNat_natCast] at hl hsum
   rw [List.take_length] at hsum
   refine aX h1 (aA (by show (o.length + 1) * 4 ≤ _; omega) (aX (wO (o ++ [c]) (aED h2.lm (by intro x hx; simp at hx; subst hx; exact hc2)) (by rw [List.length_append]; simp; omega)) ?_))
   rw [aJk, hl, hsum, hP, Nat.mul_comm (hv a)]
  ·rintro ⟨c, i, o⟩ h
   have h : aK8 a (n.toNat / 16) (n.toNat % 16) c i o := h
   have i0 := h.i0
   have i1 := h.i1
   have hc := h.c1
   have hl := h.len
   have hx := gK la i.toNat
   show (∃ d', kH a n c i o = _ ∧ _) ∨ ∃ e, kH a n c i o = _ ∧ _
   unfold kH
   rw [d2]
   by_cases hi : i < a.length
   ·left
    have hst := aPC la hr h hi
    refine ⟨(_, _, _), ?_, hst, by simp only; omega⟩
    have e2 : ((((n.toNat % 16 : Nat) : Int)) % (18446744073709551616 : Int)).toNat = n.toNat % 16 := by omega
    have hb1 : a.getD i.toNat 0 * 2 ^ (n.toNat % 16) < 4294967296 := by
     have p1 : 2 ^ (n.toNat % 16) ≤ 32768 := by rw [show (32768 : Nat) = 2 ^ 15 from rfl]; exact p2m _ _ (by omega)
     have := Nat.mul_le_mul (show a.getD i.toNat 0 ≤ 65535 by omega) p1
     omega
    rw [if_pos hi, e2, Nat.mod_eq_of_lt hb1, Nat.or_comm, aMA _ _ _ hc, aFS]
    exact aA ⟨i0, hi⟩ (aA (by omega) (aA (by constructor <;> omega) rfl))
   ·right
    have e : i = a.length := by omega
    rw [e] at h
    exact ⟨(c, o), by rw [if_neg hi], h⟩
theorem aMC (x : Nat) (n : Int) (h0 : 0 ≤ n) (hn : n ≤ 1000000000) (hx : (hb x).length ≤ 1000000000) : jD (hb x) n = some (hb (x * 2 ^ n.toNat)) := by
 rw [aVi _ n (tX x) h0 hn hx (aJg x), oW]
theorem aRI {X i m s n : Nat} (hs : s < 16) (hn : n = 16 * m + s) (hi : m ≤ i) : (X / 65536 ^ i % 65536 + X / 65536 ^ (i + 1) % 65536 * 65536) / 2 ^ s % 65536 = X / 2 ^ n / 65536 ^ (i - m) % 65536 := by
 have e1 : X / 2 ^ n / 65536 ^ (i - m) = X / 65536 ^ i / 2 ^ s := by
  rw [Nat.div_div_eq_div_mul, Nat.div_div_eq_div_mul]
  congr 1
  rw [hn, Nat.pow_add, ← sQ, Nat.mul_right_comm, ← Nat.pow_add]; congr 2; omega
 rw [e1, Nat.pow_succ, ← Nat.div_div_eq_div_mul]
 generalize X / 65536 ^ i = Y
 have e2 : Y % 65536 + Y / 65536 % 65536 * 65536 = Y % (65536 * 65536) := by rw [Nat.mod_mul, Nat.mul_comm]
 rw [e2]
 have hp : (65536 : Nat) = 2 ^ s * 2 ^ (16 - s) := by rw [← Nat.pow_add, show s + (16 - s) = 16 from by omega]
 have e3 : 65536 * 65536 = 2 ^ s * (2 ^ (16 - s) * 65536) := by rw [← Nat.mul_assoc, ← hp]
 rw [e3, Nat.mod_mul, Nat.add_comm, Nat.mul_add_div (Nat.two_pow_pos _), Nat.div_eq_of_lt (Nat.mod_lt _ (Nat.two_pow_pos _)), Nat.add_zero]
 exact Nat.mod_mul_left_mod _ _ _
structure aVC (X n m : Nat) (l : Nat) (i : Int) (o : List Nat) : Prop where
 i0 : m ≤ i
 i1 : i ≤ l
 len : o.length = i.toNat - m
 lm : Hm o
 sum : hv o = X / 2 ^ n % 65536 ^ (i.toNat - m)
theorem aVj (a : List Nat) (n : Int) (la : Hm a) (h0 : 0 ≤ n) (hn : n ≤ 1000000000) (ha : a.length ≤ 1000000000) : pM a n = some (hb (hv a / 2 ^ n.toNat)) := by
 obtain ⟨d1, d2⟩ := aMz h0
 have hdm := Nat.div_add_mod n.toNat 16
 have hr := Nat.mod_lt n.toNat (show 0 < 16 by decide)
 have hP : (2 : Nat) ^ n.toNat = 65536 ^ (n.toNat / 16) * 2 ^ (n.toNat % 16) := by
  conv => lhs; rw [← hdm]
  rw [Nat.pow_add, sQ]
 have hlt := tN la
 unfold pM
 rw [d1]
 refine aA (by constructor <;> omega) ?_
 by_cases hz : a.length ≤ n.toNat / 16
 ·rw [if_pos (by omega)]
  have : hv a < 2 ^ n.toNat := by
   rw [hP]
   refine Nat.lt_of_lt_of_le hlt (Nat.le_trans (Nat.pow_le_pow_right (by decide) hz) ?_)
   exact Nat.le_mul_of_pos_right _ (Nat.two_pow_pos _)
  rw [Nat.div_eq_of_lt this, kX]
 ·rw [if_neg (by omega)]
  refine aA (by constructor <;> omega) ?_
  have key := cR (step := fun d : Int × List Nat => kN a n d.1 d.2) (I := fun d => aVC (hv a) n.toNat (n.toNat / 16) a.length d.1 d.2) (fun d => (a.length - d.1).toNat) (fun e => Hm e ∧ e.length ≤ a.length ∧ hv e = hv a / 2 ^ n.toNat) ?_ (((n.toNat / 16 : Nat) : Int), []) ⟨by simp only; omega, by simp only; omega, by simp only; simp, (fun x hx => by cases hx), by simp only; simp [hv, Nat.mod_one]⟩
  ·obtain ⟨e, h1, h2, h3, h4⟩ := key
   refine aX h1 (aX (wO e h2 (by omega)) ?_)
   rw [h4]
  ·rintro ⟨i, o⟩ h
   have h : aVC (hv a) n.toNat (n.toNat / 16) a.length i o := h
   have i0 := h.i0
   have i1 := h.i1
   have hl := h.len
   have hx := gK la i.toNat
   have hy := gK la (i.toNat + 1)
   show (∃ d', kN a n i o = _ ∧ _) ∨ ∃ e, kN a n i o = _ ∧ _
   unfold kN
   by_cases hi : i < a.length
   ·left
    have e1 : (i + 1).toNat = i.toNat + 1 := by omega
    have e2 : ((((n.toNat % 16 : Nat) : Int)) % (18446744073709551616 : Int)).toNat = n.toNat % 16 := by omega
    have hd := aRI (X := hv a) (i := i.toNat) hr hdm.symm (by omega)
    rw [← aDZ la, ← aDZ la] at hd
    refine ⟨(i + 1, o ++ [hv a / 2 ^ n.toNat / 65536 ^ (i.toNat - n.toNat / 16) % 65536]), ?_, ⟨by simp only; omega, by simp only; omega, by simp only; rw [List.length_append, hl, e1]; simp; omega, aED h.lm (by intro x hx; simp at hx; subst hx; exact Nat.mod_lt _ (by decide)), ?_⟩, by simp only; omega⟩
    ·unfold mS
     rw [if_pos hi, e1, d2]
     refine aA ⟨by omega, hi⟩ (aA (by constructor <;> omega) ?_)
     by_cases h2 : i + 1 < a.length
     ·rw [if_pos h2, Nat.mod_eq_of_lt (show a.getD (i.toNat + 1) 0 * 65536 < 4294967296 by omega), e2, aFS]
      have hor := aMA (a.getD i.toNat 0) (a.getD (i.toNat + 1) 0) 16 hx
      rw [show (2 : Nat) ^ 16 = 65536 from rfl] at hor
      rw [hor, hd]
      exact aA (by constructor <;> omega) (aA (by constructor <;> omega) (aA (by omega) (aA (by constructor <;> omega) rfl)))
     ·have hz2 : a.getD (i.toNat + 1) 0 = 0 := by rw [List.getD_eq_getElem?_getD, List.getElem?_eq_none (by omega)]; rfl
      rw [hz2, Nat.zero_mul, Nat.add_zero] at hd
      rw [if_neg h2, e2, aFS, hd]
      exact aA (by omega) (aA (by constructor <;> omega) rfl)
    ·simp only
     rw [aJk, hl, h.sum, e1, show i.toNat + 1 - n.toNat / 16 = i.toNat - n.toNat / 16 + 1 from by omega, Nat.pow_succ, Nat.mod_mul]
   ·right
    have e : i.toNat = a.length := by omega
    have hs := h.sum
    rw [e] at hs hl
    refine ⟨o, by rw [if_neg hi], h.lm, by omega, ?_⟩
    rw [hs]
    refine Nat.mod_eq_of_lt ((Nat.div_lt_iff_lt_mul (Nat.two_pow_pos _)).2 (Nat.lt_of_lt_of_le hlt ?_))
    have : 65536 ^ a.length = 65536 ^ (a.length - n.toNat / 16) * 65536 ^ (n.toNat / 16) := by rw [← Nat.pow_add]; congr 1; omega
    rw [this, hP]
    exact Nat.mul_le_mul_left _ (Nat.le_mul_of_pos_right _ (Nat.two_pow_pos _))
theorem aVk (x : Nat) (n : Int) (h0 : 0 ≤ n) (hn : n ≤ 1000000000) (hx : (hb x).length ≤ 1000000000) : pM (hb x) n = some (hb (x / 2 ^ n.toNat)) := by
 rw [aVj _ n (tX x) h0 hn hx, oW]
end Nu
end Go.Proofs
namespace Go.Proofs
open Go.Vc
set_option maxRecDepth 20000
namespace Nu
theorem aQO {x y : Nat} : 0 ≤ aCE x y ↔ y ≤ x := by
 unfold aCE
 split
 ·constructor <;> intro h <;> omega
 ·split <;> constructor <;> intro h <;> omega
theorem aTM {q : List Nat} {i Q : Nat} (lm : Hm q) (hi : i / 16 < q.length) (hq : hv q = Q * 2 ^ (i + 1)) :
  q.getD (i / 16) 0 ||| 2 ^ (i % 16) < 65536 ∧ hv (q.set (i / 16) (q.getD (i / 16) 0 ||| 2 ^ (i % 16))) = (2 * Q + 1) * 2 ^ i := by
 have hdm := Nat.div_add_mod i 16
 have hr := Nat.mod_lt i (show 0 < 16 by decide)
 have hP : (2 : Nat) ^ i = 65536 ^ (i / 16) * 2 ^ (i % 16) := by
  conv => lhs; rw [← hdm]
  rw [Nat.pow_add, sQ]
 have hL : q.getD (i / 16) 0 = Q % 2 ^ (15 - i % 16) * 2 ^ (i % 16 + 1) := by
  rw [aDZ lm, hq, Nat.pow_succ, hP, Nat.mul_assoc, Nat.mul_left_comm, Nat.mul_div_cancel_left _ (Nat.pow_pos (by decide)), ← Nat.pow_succ]
  rw [show (65536 : Nat) = 2 ^ (15 - i % 16) * 2 ^ (i % 16 + 1) from by rw [← Nat.pow_add, show 15 - i % 16 + (i % 16 + 1) = 16 from by omega]]
  exact Nat.mul_mod_mul_right _ _ _
 have hor : q.getD (i / 16) 0 ||| 2 ^ (i % 16) = q.getD (i / 16) 0 + 2 ^ (i % 16) := by
  rw [hL, Nat.or_comm, aMA _ _ _ (Nat.pow_lt_pow_right (by decide) (by omega)), Nat.add_comm]
 have hA := Nat.mod_lt Q (Nat.two_pow_pos (15 - i % 16))
 have hb1 : q.getD (i / 16) 0 + 2 ^ (i % 16) < 65536 := by
  rw [hL]
  have h1 := Nat.mul_le_mul_right (2 ^ (i % 16 + 1)) (show Q % 2 ^ (15 - i % 16) + 1 ≤ 2 ^ (15 - i % 16) from hA)
  rw [← Nat.pow_add, show 15 - i % 16 + (i % 16 + 1) = 16 from by omega, Nat.add_mul, Nat.one_mul] at h1
  have h2 : 2 ^ (i % 16 + 1) = 2 ^ (i % 16) * 2 := Nat.pow_succ ..
  have h3 := Nat.two_pow_pos (i % 16)
  have h4 : (2 : Nat) ^ 16 = 65536 := rfl
  omega
 rw [hor]
 refine ⟨hb1, ?_⟩
 have hs := aPy (a := q) (k := i / 16) (v := q.getD (i / 16) 0 + 2 ^ (i % 16)) hi
 rw [Nat.mul_add, ← hP, hq, Nat.pow_succ] at hs
 rw [Nat.add_mul, Nat.one_mul]
 have : Q * (2 ^ i * 2) = 2 * Q * 2 ^ i := by rw [Nat.mul_comm (2 ^ i), ← Nat.mul_assoc, Nat.mul_comm Q]
 omega
theorem aQP {X Y l : Nat} {i : Int} {q : List Nat} {R Q : Nat} (hY : 0 < Y) (i0 : 0 ≤ i) (hi : i < 16 * (l : Int)) (hl : l ≤ 1000000) (hlen : q.length = l) (lm : Hm q) (hq : hv q = Q * 2 ^ (i.toNat + 1)) (hX : X = R + Y * (2 * Q)) (hR : R < 2 * Y) (hRl : (hb R).length ≤ 1000000) :
  ∃ q', kL (hb Y) i q (hb R) = some (.inl (hb (X % Y), i - 1, q')) ∧ q'.length = l ∧ Hm q' ∧ hv q' = X / Y * 2 ^ i.toNat := by
 obtain ⟨d1, d2⟩ := aMz i0
 have hr := Nat.mod_lt i.toNat (show 0 < 16 by decide)
 unfold kL
 by_cases hge : Y ≤ R
 ·have e : X = (R - Y) + Y * (2 * Q + 1) := by rw [hX, Nat.mul_add]; omega
  have hm : X % Y = R - Y := by rw [e, Nat.add_mul_mod_self_left, Nat.mod_eq_of_lt (by omega)]
  have hd : X / Y = 2 * Q + 1 := by rw [e, Nat.add_mul_div_left _ _ hY, Nat.div_eq_of_lt (by omega), Nat.zero_add]
  obtain ⟨s1, s2⟩ := aTM (i := i.toNat) lm (by omega) hq
  refine ⟨q.set (i.toNat / 16) (q.getD (i.toNat / 16) 0 ||| 2 ^ (i.toNat % 16)), aX (aMB R Y (by omega)) ?_, by rw [List.length_set]; exact hlen, aPz lm _ s1, by rw [s2, hd]⟩
  rw [if_pos (aQO.2 hge)]
  refine aX (aVe R Y (by omega) hge) ?_
  have e2 : ((((i.toNat % 16 : Nat) : Int)) % (18446744073709551616 : Int)).toNat = i.toNat % 16 := by omega
  have e3 : 1 * 2 ^ (i.toNat % 16) % 4294967296 = 2 ^ (i.toNat % 16) := by
   rw [Nat.one_mul]
   refine Nat.mod_eq_of_lt (Nat.lt_of_le_of_lt (p2m _ 15 (by omega)) (by decide))
  rw [d1, d2, e2, e3, Int.toNat_natCast, hm]
  exact aA (by constructor <;> omega) (aA (by constructor <;> omega) (aA (by constructor <;> omega) (aA (by constructor <;> omega) (aA (by constructor <;> omega) rfl))))
 ·have hm : X % Y = R := by rw [hX, Nat.add_mul_mod_self_left, Nat.mod_eq_of_lt (by omega)]
  have hd : X / Y = 2 * Q := by rw [hX, Nat.add_mul_div_left _ _ hY, Nat.div_eq_of_lt (by omega), Nat.zero_add]
  refine ⟨q, aX (aMB R Y (by omega)) ?_, hlen, lm, ?_⟩
  ·rw [if_neg (fun h => hge (aQO.1 h)), hm]
   exact aA (by constructor <;> omega) rfl
  ·rw [hq, hd, Nat.pow_succ, Nat.mul_comm (2 ^ i.toNat), ← Nat.mul_assoc, Nat.mul_comm Q]
structure aVD (X Y l : Nat) (r : List Nat) (i : Int) (q : List Nat) : Prop where
 i0 : -1 ≤ i
 i1 : i < bl X
 r0 : r = hb (X / 2 ^ (i + 1).toNat % Y)
 len : q.length = l
 lm : Hm q
 sum : hv q = X / 2 ^ (i + 1).toNat / Y * 2 ^ (i + 1).toNat
theorem aMD {x y : Nat} (h : x < 2 * y) (k : Nat) (hy : (hb y).length ≤ k) : (hb x).length ≤ k + 1 := by
 have h1 := tN (tX y)
 rw [oW] at h1
 have h2 : 65536 ^ (hb y).length ≤ 65536 ^ k := Nat.pow_le_pow_right (by decide) hy
 refine aJi.2 ?_
 rw [Nat.pow_succ]
 omega
theorem aVl (X Y : Nat) (hY : Y ≠ 0) (hx : (hb X).length ≤ 100000) (hy : (hb Y).length ≤ 100000) : sH (hb X) (hb Y) = some (hb (X / Y), hb (X % Y), ()) := by
 have hbX : bl X ≤ 16 * (hb X).length := sX (by rw [← sQ]; have := tN (tX X); rwa [oW] at this)
 unfold sH
 refine aX (aTH X (by omega)) (aA (by omega) (aA (by omega) (aA (by constructor <;> omega) ?_)))
 have key := cR (step := fun d : List Nat × Int × List Nat => kM (hb X) (hb Y) d.1 d.2.1 d.2.2) (I := fun d => aVD X Y (hb X).length d.1 d.2.1 d.2.2) (fun d => (d.2.1 + 1).toNat) (fun e => e.1 = hb (X % Y) ∧ Hm e.2 ∧ e.2.length = (hb X).length ∧ hv e.2 = X / Y) ?_ ([], (bl X : Int) - 1, List.replicate (hb X).length 0) ⟨by simp only; omega, by simp only; omega, ?_, by simp, aPA _, ?_⟩
 ·obtain ⟨⟨r, q⟩, h1, h2, h3, h4, h5⟩ := key
  have h2 : r = hb (X % Y) := h2
  have h4 : q.length = (hb X).length := h4
  refine aX h1 (aX (wO q h3 (by omega)) ?_)
  rw [h2]
  have h5 : hv q = X / Y := h5
  rw [h5]
 ·rintro ⟨r, i, q⟩ h
  have h : aVD X Y (hb X).length r i q := h
  have i0 := h.i0
  have i1 := h.i1
  show (∃ d', kM (hb X) (hb Y) r i q = _ ∧ _) ∨ ∃ e, kM (hb X) (hb Y) r i q = _ ∧ _
  unfold kM
  by_cases hi : 0 ≤ i
  ·left
   have e1 : (i + 1).toNat = i.toNat + 1 := by omega
   have e2 : (i - 1 + 1).toNat = i.toNat := by omega
   have hsum := h.sum
   have hr0 := h.r0
   rw [e1] at hsum hr0
   have hX' : X / 2 ^ i.toNat = 2 * (X / 2 ^ (i.toNat + 1)) + X / 2 ^ i.toNat % 2 := by
    rw [Nat.pow_succ, ← Nat.div_div_eq_div_mul]; omega
   have hdm := Nat.div_add_mod (X / 2 ^ (i.toNat + 1)) Y
   have hRlt := Nat.mod_lt (X / 2 ^ (i.toNat + 1)) (show 0 < Y by omega)
   have hbt := Nat.mod_lt (X / 2 ^ i.toNat) (show 0 < 2 by decide)
   generalize hA : X / 2 ^ (i.toNat + 1) = A at *
   generalize hB : X / 2 ^ i.toNat % 2 = β at *
   have hl0 : (hb (A % Y)).length ≤ 100001 := aMD (y := Y) (by omega) 100000 hy
   have hl1 : (hb (A % Y * 2)).length ≤ 100002 := aMD (y := Y) (by omega) 100001 (by omega)
   have hl2 : (hb (A % Y * 2 + 1)).length ≤ 100002 := aMD (y := Y) (by omega) 100001 (by omega)
   have hX2 : ∀ b, b = β → X / 2 ^ i.toNat = (A % Y * 2 + b) + Y * (2 * (A / Y)) := fun b hb' => by
    rw [hX', hb']
    have : Y * (2 * (A / Y)) = 2 * (Y * (A / Y)) := Nat.mul_left_comm _ _ _
    omega
   have hS := aMC (A % Y) 1 (by decide) (by decide) (by omega)
   rw [show (2 : Nat) ^ (1 : Int).toNat = 2 from rfl, ← hr0] at hS
   have hbit := aU9 X i hi (by omega) (by omega)
   rw [hB] at hbit
   by_cases h1 : β = 1
   ·obtain ⟨q', p1, p2, p3, p4⟩ := aQP (X := X / 2 ^ i.toNat) (Y := Y) (l := (hb X).length) (q := q) (R := A % Y * 2 + 1) (Q := A / Y) (by omega) hi (by omega) (by omega) h.len h.lm hsum (hX2 1 h1.symm) (by omega) (by omega)
    have hA1 := aQM (A % Y * 2) 1 (by omega) (by rw [aJl]; decide)
    rw [aJl] at hA1
    refine ⟨(hb (X / 2 ^ i.toNat % Y), i - 1, q'), ?_, ⟨by simp only; omega, by simp only; omega, by simp only; rw [e2], p2, p3, by simp only; rw [e2]; exact p4⟩, by simp only; omega⟩
    rw [if_pos hi]
    refine aX hS (aX hbit ?_)
    rw [if_pos h1]
    exact aX hA1 p1
   ·obtain ⟨q', p1, p2, p3, p4⟩ := aQP (X := X / 2 ^ i.toNat) (Y := Y) (l := (hb X).length) (q := q) (R := A % Y * 2) (Q := A / Y) (by omega) hi (by omega) (by omega) h.len h.lm hsum (by have := hX2 0 (by omega); rw [Nat.add_zero] at this; exact this) (by omega) (by omega)
    refine ⟨(hb (X / 2 ^ i.toNat % Y), i - 1, q'), ?_, ⟨by simp only; omega, by simp only; omega, by simp only; rw [e2], p2, p3, by simp only; rw [e2]; exact p4⟩, by simp only; omega⟩
    rw [if_pos hi]
    refine aX hS (aX hbit ?_)
    rw [if_neg h1]
    exact p1
  ·right
   have e : i = -1 := by omega
   have hsum := h.sum
   have hr0 := h.r0
   rw [e, show ((-1 : Int) + 1).toNat = 0 from rfl, Nat.pow_zero, Nat.div_one] at hsum hr0
   rw [Nat.mul_one] at hsum
   exact ⟨(r, q), by rw [if_neg hi], hr0, h.lm, h.len, hsum⟩
 ·simp only
  rw [show ((bl X : Int) - 1 + 1).toNat = bl X from by omega, Nat.div_eq_of_lt (aCf X), Nat.zero_mod, kX]
 ·simp only
  rw [aPx, show ((bl X : Int) - 1 + 1).toNat = bl X from by omega, Nat.div_eq_of_lt (aCf X), Nat.zero_div, Nat.zero_mul]
theorem aME {M : Nat} : (hb M).length = 0 ↔ M = 0 := ⟨fun h => aPw.1 (List.eq_nil_of_length_eq_zero h), fun h => by rw [h, kX]; rfl⟩
end Nu
end Go.Proofs
namespace Go.Proofs
open Go.Vc
set_option maxRecDepth 20000
namespace Nu
theorem aVm (a : List Nat) (hl : a.length ≤ 4611686018427387904) : sJ a = some (decide (a.length ≤ 64 ∧ Nrm a)) := by
 unfold sJ
 refine aA (fun _ _ => by constructor <;> omega) (aA (fun _ _ => by constructor <;> omega) ?_)
 congr 1
 have e1 : ((a.length : Int) - 1).toNat = a.length - 1 := by omega
 rw [e1]
 by_cases h0 : a.length = 0
 ·have e : a = [] := List.eq_nil_of_length_eq_zero h0
  subst e; decide
 ·have hn := aBZ (a := a) (by omega)
  by_cases hz : a.getD (a.length - 1) 0 = 0
  ·have : ¬ Nrm a := fun h => hn.1 h hz
   have h2 : ¬ (a.length ≤ 64 ∧ Nrm a) := fun h => this h.2
   rw [decide_eq_true hz, decide_eq_false (show ¬ (a.length : Int) = 0 by omega), decide_eq_false h2]
   simp
  ·have : Nrm a := hn.2 hz
   rw [decide_eq_false hz]
   by_cases h64 : a.length ≤ 64
   ·have h2 : a.length ≤ 64 ∧ Nrm a := ⟨h64, this⟩
    rw [decide_eq_true h2, decide_eq_true (show (a.length : Int) ≤ 64 by omega)]; simp
   ·have h2 : ¬ (a.length ≤ 64 ∧ Nrm a) := fun h => h64 h.1
    rw [decide_eq_false h2, decide_eq_false (show ¬ (a.length : Int) ≤ 64 by omega)]; simp
theorem aTN (d : Dy) (hl : d.2.1.length ≤ 4611686018427387904) : lH d = some (kR d) := by
 unfold lH kR
 refine aX (aVm d.2.1 hl) ?_
 by_cases h0 : d.2.1.length = 0
 ·rw [if_pos h0]
  have e : d.2.1 = [] := List.eq_nil_of_length_eq_zero h0
  have ht : decide (d.2.1.length ≤ 64 ∧ Nrm d.2.1) = true := by rw [e]; decide
  rw [ht]
  by_cases hE : d.2.2.1 < -1048576 ∨ 1048576 < d.2.2.1
  ·rw [if_pos (by rcases hE with h | h; exact .inl (.inr h); exact .inr h), decide_eq_false (show ¬ d.2.2.1 = 0 by omega), Bool.and_false]
  ·rw [if_neg (by rintro ((h | h) | h); exact h rfl; omega; omega), if_pos (by omega)]
 ·rw [if_neg h0]
  by_cases h1 : d.2.1.length ≤ 64 ∧ Nrm d.2.1
  ·rw [decide_eq_true h1]
   by_cases hE : d.2.2.1 < -1048576 ∨ 1048576 < d.2.2.1
   ·rw [if_pos (by rcases hE with h | h; exact .inl (.inr h); exact .inr h)]
    rcases hE with h | h
    ·rw [decide_eq_false (show ¬ -1048576 ≤ d.2.2.1 by omega)]; simp
    ·rw [decide_eq_false (show ¬ d.2.2.1 ≤ 1048576 by omega)]; simp
   ·rw [if_neg (by rintro ((h | h) | h); exact h rfl; omega; omega), if_neg (by omega)]
    refine aA (by omega) ?_
    rw [aMl, decide_eq_true (show -1048576 ≤ d.2.2.1 by omega), decide_eq_true (show d.2.2.1 ≤ 1048576 by omega)]
    simp
  ·rw [decide_eq_false h1, if_pos (.inl (.inl (by decide)))]
   simp
theorem aK9 {x y : Nat} : aCE x y = 0 ↔ x = y := by
 unfold aCE
 split
 ·constructor <;> intro h <;> omega
 ·split <;> constructor <;> intro h <;> omega
theorem aTO (M n : Nat) : M / 2 ^ n * 2 ^ n = M ↔ M % 2 ^ n = 0 := by
 have e := Nat.div_add_mod M (2 ^ n)
 rw [Nat.mul_comm] at e
 omega
theorem aVn (M n : Nat) : M / 2 ^ n * 2 ^ n ≤ M := Nat.div_mul_le_self _ _
end Nu
end Go.Proofs
namespace Go.Proofs
open Go.Vc
set_option maxRecDepth 20000
namespace Nu
theorem aTP {M : Nat} (h : M ≠ 0) : txt M = txt (M / 10) ++ [48 + M % 10] := by
 have h10 : dgs 1 (M % 10) = [48 + M % 10] := by simp [dgs]
 unfold txt
 rw [if_neg h]
 by_cases h1 : M < 10
 ·rw [if_pos (show M / 10 = 0 by omega), aTy h1, Nat.mod_eq_of_lt h1]; rfl
 ·rw [if_neg (show ¬ M / 10 = 0 by omega), ← h10, aOi (M := M / 10) (b := 1) (y := M % 10) (by omega) (by have := Nat.mod_lt M (show 0 < 10 by decide); omega)]
  congr 1; omega
theorem aVo : ∀ n : Fin 10, List.drop n.val (List.take (n.val + 1) (aO ⟨#[48, 49, 50, 51, 52, 53, 54, 55, 56, 57]⟩)) = [48 + n.val] := by decide +kernel
theorem aQQ {n : Nat} (k m : Nat) (hm : m = 4 * k) (h : n < 18446744073709551616 ^ k) : (hb n).length ≤ m := by
 subst hm
 refine aJi.2 ?_
 rw [aMy]; exact h
theorem aTQ : hb 10 = [10] := aJm (by decide) (by decide)
theorem aQR (s : List Nat) (v : List Nat × List Nat × Unit) (n : Nat) (hn : n < 10) (hs : s.length ≤ 100000000) : fH s v n = some (.inl (v.1, [48 + n] ++ s)) := by
 have hc := aVo ⟨n, hn⟩
 simp only at hc
 unfold fH
 rw [Nat.mod_eq_of_lt (show n + 1 < 4294967296 by omega), hc]
 have hl : (aO ⟨#[48, 49, 50, 51, 52, 53, 54, 55, 56, 57]⟩).length = 10 := rfl
 rw [hl]
 exact aA (by omega) (aA (by simp; omega) rfl)
theorem aOl (n : Nat) (hn : n < 18446744073709551616 ^ 10000) : lI (hb n) = some (txt n) := by
 have hL : (txt n).length ≤ 1000000 := aMu (Nat.le_trans (aPv 10000 hn) (by decide))
 have hl0 : (hb n).length ≤ 40000 := aQQ 10000 40000 (by decide) hn
 unfold lI
 refine aX (fN (step := fun d : List Nat × List Nat => fI d.1 d.2) (I := fun d => ∃ M, d.1 = hb M ∧ txt n = txt M ++ d.2 ∧ M ≤ n) (fun d => hv d.1) (fun _ => txt n) ?_ (hb n, aO ⟨#[]⟩) ⟨n, rfl, by simp [aO], Nat.le_refl _⟩) rfl
 rintro ⟨a, s⟩ ⟨M, i0, i1, i2⟩
 have i0 : a = hb M := i0
 have i1 : txt n = txt M ++ s := i1
 show (∃ d', fI a s = _ ∧ _) ∨ fI a s = _
 have hs : s.length ≤ 1000000 := by rw [i1, List.length_append] at hL; omega
 unfold fI
 by_cases h0 : M = 0
 ·right
  rw [if_neg (by rw [i0, h0, kX]; simp), i1, h0]; rfl
 ·left
  have hne : (hb M).length ≠ 0 := fun h => h0 (aME.1 h)
  have hlM := xV i2
  have hD := aVl M 10 (by decide) (by omega) (by rw [aTQ]; decide)
  rw [aTQ, ← i0] at hD
  have hmod := Nat.mod_lt M (show 0 < 10 by decide)
  refine ⟨(hb (M / 10), [48 + M % 10] ++ s), ?_, ⟨M / 10, rfl, by rw [i1, aTP h0, List.append_assoc], by omega⟩, ?_, rfl⟩
  ·rw [if_pos (by rw [i0]; omega)]
   refine aX hD ?_
   by_cases hr : M % 10 = 0
   ·rw [if_neg (by simp only [hr, kX]; simp), hr]
    exact aQR s _ 0 (by decide) (by omega)
   ·have e : hb (M % 10) = [M % 10] := aJm hr (by omega)
    simp only [e]
    rw [if_pos (by simp)]
    exact aA (by simp) (aQR s _ (M % 10) hmod (by omega))
  ·simp only
   rw [i0, oW, oW]
   exact Nat.div_lt_self (by omega) (by decide)
theorem aRJ {k : Nat} {s : List Nat} (h : s.length < k + 1) : vA k (48 :: s) = vA k s := by
 unfold vA
 rw [List.length_cons, show k + 1 - s.length = k + 1 - (s.length + 1) + 1 from by omega, List.replicate_succ', List.append_assoc]; rfl
theorem aVp (k : Nat) (s : List Nat) (hk : k ≤ 60) (hs : s.length ≤ 1000000) : cE (fun d : List Nat => fL (k : Int) d) s = some (vA k s) := by
 refine fN (step := fun d : List Nat => fL (k : Int) d) (I := fun d => d.length ≤ 1000000) (fun d => k + 1 - d.length) (fun d => vA k d) ?_ s hs
 intro d hd
 show (∃ d', fL (k : Int) d = _ ∧ _) ∨ fL (k : Int) d = _
 have h48 : aO ⟨#[48]⟩ = [48] := rfl
 unfold fL
 rw [h48]
 by_cases h : d.length < k + 1
 ·left
  refine ⟨48 :: d, aA (by constructor <;> omega) ?_, by simp; omega, by simp; omega, aRJ h⟩
  rw [if_pos (by omega)]
  exact aA (by simp; omega) rfl
 ·right
  refine aA (by constructor <;> omega) ?_
  rw [if_neg (by omega)]
  unfold vA
  rw [show k + 1 - d.length = 0 from by omega]; rfl
theorem aRK (k : Nat) (s : List Nat) : (vA k s).length ≤ k + 1 + s.length := by unfold vA; rw [List.length_append, List.length_replicate]; omega
theorem aJn (k : Nat) (d : Dy) (q : Nat) (hk : k ≤ 60) (hq : q < 18446744073709551616 ^ 10000) : gJ (k : Int) d (hb q) = some (sgS d.1 q (ptS k (vA k (txt q))), 0, ()) := by
 have hL : (txt q).length ≤ 1000000 := aMu (Nat.le_trans (aPv 10000 hq) (by decide))
 have hp := aRK k (txt q)
 have hp2 : k + 1 ≤ (vA k (txt q)).length := by unfold vA; rw [List.length_append, List.length_replicate]; omega
 have hj3 : ∀ s : List Nat, s.length ≤ 10000000 → jE d (hb q) s = some (sgS d.1 q s, 0, ()) := by
  intro s hs
  have h45 : aO ⟨#[45]⟩ = [45] := rfl
  unfold jE sgS
  have hh : (0 : Int) < ((hb q).length : Int) ↔ q ≠ 0 := ⟨fun h e => by rw [aME.2 e] at h; simp at h, fun h => by have : (hb q).length ≠ 0 := fun e => h (aME.1 e); omega⟩
  by_cases h : d.1 = true ∧ q ≠ 0
  ·rw [if_pos ⟨h.1, hh.2 h.2⟩, if_pos h, h45]
   exact aA (by simp; omega) rfl
  ·rw [if_neg (fun x => h ⟨x.1, hh.1 x.2⟩), if_neg h]
 unfold gJ
 refine aX (aOl q hq) (aX (aVp k _ hk hL) ?_)
 generalize vA k (txt q) = s at *
 have h46 : aO ⟨#[46]⟩ = [46] := rfl
 unfold nW ptS
 by_cases h : 0 < k
 ·have en : ((s.length : Int) - (k : Int)).toNat = s.length - k := by omega
  rw [if_pos (by omega), if_pos h, h46, en]
  have l1 : (s.take (s.length - k)).length = s.length - k := by rw [List.length_take]; omega
  have l2 : (s.drop (s.length - k)).length = k := by rw [List.length_drop]; omega
  exact aA (by constructor <;> omega) (aA (by constructor <;> omega) (aA (by rw [l1]; simp; omega) (aA (by constructor <;> omega) (aA (by constructor <;> omega) (aA (by rw [List.length_append, l1, l2]; simp; omega) (hj3 _ (by rw [List.length_append, List.length_append, l1, l2]; simp; omega)))))))
 ·rw [if_neg (by omega), if_neg h]
  exact hj3 s (by omega)
theorem aTR (d : Dy) (k : Int) (up : Bool) (lm : Lm d.2.1) (hl : d.2.1.length ≤ 4611686018427387904) : qC d k up = some (aJf d k up) := by
 unfold qC aJf
 refine aX (aTN d hl) ?_
 by_cases h1 : kR d = false ∨ k < 0 ∨ 60 < k
 ·rw [if_pos (by rcases h1 with h | h | h; exact .inl (.inl (by rw [h]; decide)); exact .inl (.inr h); exact .inr h), if_pos h1]; rfl
 ·have hm : kR d = true := by
   cases hh : kR d with
   | true => rfl
   | false => exact absurd (.inl hh) h1
  rw [if_neg (by rintro ((h | h) | h); exact h hm; omega; omega), if_neg h1]
  by_cases h2 : 2000 < d.2.2.1 ∨ d.2.2.1 < -2000
  ·rw [if_pos h2, if_pos h2]; rfl
  ·rw [if_neg h2, if_neg h2]
   obtain ⟨a1, a2, a3, a4⟩ := vH hm
   obtain ⟨j, rfl⟩ : ∃ j : Nat, k = (j : Int) := ⟨k.toNat, by omega⟩
   have hj : j ≤ 60 := by omega
   rw [Int.toNat_natCast]
   have hM := aTC (k := j) lm a1 (by omega) hj
   have hF := aU5 d.2.1 lm (by omega)
   have hT := aVh (j : Int) (by omega) (by omega)
   rw [Int.toNat_natCast] at hT
   have hnv := gN lm
   have lN : (hb (nv d.2.1)).length ≤ 256 := by
    refine aJi.2 (Nat.lt_of_lt_of_le hnv ?_)
    rw [show (256 : Nat) = 4 * 64 from rfl, aMy]
    exact Nat.pow_le_pow_right (by decide) a1
   have lT := aEE 16 (aBP (4 * j + 1) (oU j) (by omega)) (by omega)
   have hMul := aQN (nv d.2.1) (10 ^ j) (by omega) (by omega)
   have lM : (hb (nv d.2.1 * 10 ^ j)).length ≤ 1000 := by
    refine aQQ 250 1000 (by decide) (Nat.lt_of_le_of_lt ?_ (Nat.lt_trans hM (aTm 200 250 (by decide))))
    unfold txM
    rw [Nat.mul_right_comm]
    exact Nat.le_mul_of_pos_right _ (Nat.two_pow_pos _)
   have hbig : ∀ x, x < 18446744073709551616 ^ 200 → x + 1 < 18446744073709551616 ^ 10000 := fun x hx => by
    have : 18446744073709551616 ^ 200 < 18446744073709551616 ^ 10000 := aTm 200 10000 (by decide)
    exact Nat.lt_of_le_of_lt hx this
   refine aX hF (aX hT (aX hMul ?_))
   by_cases hE : 0 ≤ d.2.2.1
   ·rw [if_pos hE]
    have hS := aMC (nv d.2.1 * 10 ^ j) d.2.2.1 hE (by omega) (by omega)
    have eM : nv d.2.1 * 10 ^ j * 2 ^ d.2.2.1.toNat = txM d j := by
     unfold txM
     rw [Nat.mul_right_comm, show (max d.2.2.1 0).toNat = d.2.2.1.toNat from by omega]
    rw [eM] at hS
    have eQ : txQ d j up = txM d j := by
     unfold txQ
     simp only
     rw [show (max (-d.2.2.1) 0).toNat = 0 from by omega, Nat.pow_zero, Nat.mod_one, Nat.div_one, if_neg (fun h => h.1 rfl)]
    rw [eQ]
    exact aX hS (aJn j d _ hj (Nat.lt_of_succ_lt (hbig _ hM)))
   ·rw [if_neg hE]
    have en : (0 - d.2.2.1).toNat = (max (-d.2.2.1) 0).toNat := by omega
    have eM : nv d.2.1 * 10 ^ j = txM d j := by
     unfold txM
     rw [show (max d.2.2.1 0).toNat = 0 from by omega, Nat.pow_zero, Nat.mul_one]
    rw [eM] at lM ⊢
    have hS := aVk (txM d j) (0 - d.2.2.1) (by omega) (by omega) (by omega)
    rw [en] at hS
    have hlq := xV (Nat.div_le_self (txM d j) (2 ^ (max (-d.2.2.1) 0).toNat))
    have hS2 := aMC (txM d j / 2 ^ (max (-d.2.2.1) 0).toNat) (0 - d.2.2.1) (by omega) (by omega) (by omega)
    rw [en] at hS2
    have hC := aMB (txM d j / 2 ^ (max (-d.2.2.1) 0).toNat * 2 ^ (max (-d.2.2.1) 0).toNat) (txM d j) (by have := xV (aVn (txM d j) (max (-d.2.2.1) 0).toNat); omega)
    have hA := aQM (txM d j / 2 ^ (max (-d.2.2.1) 0).toNat) 1 (by omega) (by rw [aJl]; decide)
    rw [aJl] at hA
    have hqlt : txM d j / 2 ^ (max (-d.2.2.1) 0).toNat < 18446744073709551616 ^ 200 := Nat.lt_of_le_of_lt (Nat.div_le_self _ _) hM
    refine aA (by constructor <;> omega) (aX hS ?_)
    simp only [hS2, Option.getD_some, hC, Option.isSome_some]
    refine aA (fun _ => by constructor <;> omega) (aA (fun _ => trivial) (aA (fun _ => trivial) ?_))
    unfold txQ
    simp only
    by_cases h3 : txM d j % 2 ^ (max (-d.2.2.1) 0).toNat ≠ 0 ∧ (up != d.1) = true
    ·rw [if_pos ⟨h3.2, fun h => h3.1 ((aTO _ _).1 (aK9.1 h))⟩, if_pos h3]
     exact aX hA (aJn j d _ hj (hbig _ hqlt))
    ·rw [if_neg (fun h => h3 ⟨fun h2 => h.2 (aK9.2 ((aTO _ _).2 h2)), h.1⟩), if_neg h3]
     exact aJn j d _ hj (Nat.lt_of_succ_lt (hbig _ hqlt))
end Nu
end Go.Proofs
namespace Go.Proofs
open Go.Vc
set_option maxRecDepth 20000
namespace Nu
end Nu
end Go.Proofs
namespace Go.Proofs
open Go.Vc
set_option maxRecDepth 20000
namespace Nu
abbrev VS : Type := Nat × Int × Nat × Bool × Bool × Bool
def v0 : VS := (0, 0, 0, false, false, false)
end Nu
end Go.Proofs
namespace Go.Proofs
open Go.Vc
set_option maxRecDepth 20000
namespace Nu
noncomputable def mL (d_0 : (Bool × ((List Nat) × (Int × Unit)))) (n_1 : Int) (up_2 : Bool) : Option Bool :=
 if (20 : Int) < (((((d_0.2).1).length) : Nat) : Int) then (nX).bind (fun v_9 => some v_9) else (aN d_0 n_1 up_2).bind (fun v_13 => (qC d_0 n_1 up_2).bind (fun v_17 => (nX).bind (fun v_21 => some ((v_21 && (decide ((v_13.1) = (v_17.1)))) && (decide (((v_13.2).1) = ((v_17.2).1)))))))
def zI : PlR := ⟨[(0, .B [1, 2, 3]), (1, .A [1, 2, 3, 14]), (2, .A [6]), (3, .A [1, 2, 3, 7, 8]), (4, .A [7, 8, 9, 10]), (5, .A [6])], []⟩
def pD : Ty := .pair (.pair .bool (.pair (.sl (.u .u64)) (.pair (.i .i64) .unit))) (.pair (.i .i64) (.pair .bool .unit))
noncomputable def zJ : aK := mSpec pD (.one .bool) (fun x => mL x.1 x.2.1 x.2.2.1)
noncomputable def pE : List (FuncId × aK) := [(18, uZ), (27, qD), (28, uX)]
theorem aGr : bN Tryz.prog GL pE := .cons aMk (by kernel_rfl) (.cons aFM (by kernel_rfl) (.cons aMi (by kernel_rfl) (.nil)))
theorem aCU : gam pE 18 = some uZ := rfl
theorem aCV : gam pE 27 = some qD := rfl
theorem aCW : gam pE 28 = some uX := rfl
attribute [go_sem] pD zI aCU aCV aCW
set_option maxHeartbeats 4000000 in
theorem aEF : FOK Tryz.prog GL 5 zJ := by
 refine bR (bC aGr) mix Tryz.func5 rfl (by kernel_rfl) (by decide) zI fun w0 S x Θ hw h hF => ?_
 obtain ⟨(d_0 : (Bool × ((List Nat) × (Int × Unit)))), (n_1 : Int), (up_2 : Bool), u⟩ := x
 simp only [bV, go_sem]
 replace h : sat (mL d_0 n_1 up_2) _ := h
 unfold mL at h
 refine dA h (fun hc h => ?_) fun hc h => ?_
 ·obtain ⟨v_9, hv, h⟩ := cT h
  try simp only [hv, go_sem]
  exact aL hF [.tmp 6] rfl rfl rfl (aC h) (by simp only [aZ, go_sem])
 ·obtain ⟨v_13, hv, h⟩ := cT h
  try simp only [hv, go_sem]
  obtain ⟨v_17, hv, h⟩ := cT h
  try simp only [hv, go_sem]
  obtain ⟨v_21, hv, h⟩ := cT h
  try simp only [hv, go_sem]
  exact aL hF [.tmp 6] rfl rfl rfl (aC h) (by simp only [aZ, go_sem])
attribute [go_sem] zJ
end Nu
end Go.Proofs
namespace Go.Proofs
open Go.Vc
set_option maxRecDepth 20000
namespace Nu
theorem aKr (d : Dy) (n : Int) (up : Bool) (lm : Lm d.2.1) : mL d n up = some true := by
 unfold mL
 by_cases h : (20 : Int) < (d.2.1.length : Int)
 ·rw [if_pos h]; exact aX aQI rfl
 ·rw [if_neg h]
  refine aX (aGG d n up lm) (aX (aTR d n up lm (by omega)) (aX aQI ?_))
  simp
end Nu
end Go.Proofs
