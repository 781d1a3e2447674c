import Derived.Test.YtabdejmolnikaaaDoorZS4
set_option linter.unusedVariables false
set_option linter.unusedSimpArgs false
namespace Go.Proofs
open Go.Vc
set_option maxRecDepth 20000
namespace Nu
theorem rep_p1 : m_strings_HasPrefix (strL cs_ff7ab6x) [48] = some false := by decide +kernel
theorem rep_p2 : m_strings_HasPrefix (strL cs_464a37x) [48] = some false := by decide +kernel
theorem rep_p3 : m_strings_HasPrefix (strL cs_10eab6x) [48] = some true := by decide +kernel
theorem rep_z : strL cs_10eab6x = List.replicate 64 48 := by decide +kernel
theorem Repeat_eq (c : Nat) (h : c ≤ 64) : m_strings_Repeat [48] (c : Int) = some (List.replicate c 48) := by
  have hw : IntKind.i64.wrap ((c : Nat) : Int) = (c : Int) := by
    simp only [IntKind.wrap, IntKind.signed, IntKind.bits]; simp; omega
  have hm : m_bits_Mul (((([48] : List Nat).length : Nat) : Int) % (18446744073709551616 : Int)).toNat ((c : Int) % (18446744073709551616 : Int)).toNat = some (0, c, ()) := by
    have e1 : (((([48] : List Nat).length : Nat) : Int) % (18446744073709551616 : Int)).toNat = 1 := by decide
    have e2 : ((c : Int) % (18446744073709551616 : Int)).toNat = c := by omega
    rw [e1, e2]
    unfold m_bits_Mul f_bits_Mul64
    simp only
    rw [Nat.one_mul, Nat.div_eq_of_lt (by omega), Nat.mod_eq_of_lt (by omega)]
  unfold m_strings_Repeat
  by_cases h0 : c = 0
  · subst h0; rfl
  by_cases h1 : c = 1
  · subst h1; rfl
  rw [if_neg (by omega), if_neg (by omega), if_neg (by omega)]
  simp only [hm, Option.getD_some]
  refine ck_to rfl ?_
  rw [if_neg (by omega), if_neg (by decide)]
  refine ck_to (by decide) ?_
  rw [if_neg (by decide), if_neg (by decide), if_pos (by decide)]
  have hd : decide ((([48] : List Nat).getD 0 0) = 48) = true := by decide
  rw [hd]
  unfold m_strings_Repeat_j3
  rw [if_pos rfl]
  simp only [hm, Option.getD_some, hw, rep_p1, rep_p2, rep_p3]
  refine ck_to (fun _ => rfl) ?_
  rw [if_neg (fun hh => by cases hh.2)]
  refine ck_to (fun _ => rfl) ?_
  rw [if_neg (fun hh => by cases hh.2)]
  refine ck_to (fun _ => rfl) ?_
  rw [if_pos ⟨by omega, trivial⟩, rep_z]
  refine ck_to (by constructor; omega; rw [List.length_replicate]; omega) ?_
  rw [Int.toNat_natCast, List.take_replicate, Nat.min_eq_left h]
theorem dgs_app (a b x y : Nat) (hy : y < 10 ^ b) : dgs a x ++ dgs b y = dgs (a + b) (x * 10 ^ b + y) := by
  apply List.ext_getElem
  · simp [dgs]
  · intro i h1 h2
    have hi : i < a + b := by simpa [dgs] using h2
    by_cases hlt : i < a
    · rw [List.getElem_append_left (by simpa [dgs] using hlt)]
      simp only [dgs, List.getElem_map, List.getElem_range]
      rw [show a + b - 1 - i = b + (a - 1 - i) from by omega, Nat.pow_add, ← Nat.div_div_eq_div_mul, Nat.mul_comm x, Nat.mul_add_div (Nat.pow_pos (by decide)), Nat.div_eq_of_lt hy, Nat.add_zero]
    · rw [List.getElem_append_right (by simp [dgs]; omega)]
      simp only [dgs, List.length_map, List.length_range, List.getElem_map, List.getElem_range]
      have e1 : a + b - 1 - i = b - 1 - (i - a) := by omega
      rw [e1]
      congr 1
      have hk : b = (b - 1 - (i - a)) + (i - a + 1) := by omega
      have e2 : x * 10 ^ b = 10 ^ (b - 1 - (i - a)) * (x * 10 ^ (i - a) * 10) := by
        conv => lhs; rw [hk]
        rw [Nat.pow_add, Nat.pow_succ, Nat.mul_left_comm, Nat.mul_assoc x]
      rw [e2, Nat.mul_add_div (Nat.pow_pos (by decide)), Nat.add_comm, Nat.add_mul_mod_self_right]
theorem dgs_zero (n : Nat) : dgs n 0 = List.replicate n 48 := by
  apply List.ext_getElem
  · simp [dgs]
  · intro i h1 h2; simp [dgs]
theorem dgs_pad {k n r : Nat} (hk : k ≤ n) (hr : r < 10 ^ k) : List.replicate (n - k) 48 ++ dgs k r = dgs n r := by
  rw [← dgs_zero, dgs_app _ _ _ _ hr, Nat.zero_mul, Nat.zero_add]
  congr 1; omega
theorem nDigits_low (u : Nat) (h0 : u ≠ 0) : 10 ^ (Lib.nDigits u - 1) ≤ u := by
  induction u using Nat.strongRecOn with
  | _ u ih =>
    by_cases h : u < 10
    · rw [Lib.nDigits_small h]; simp; omega
    · have := ih (u / 10) (by omega) (by omega)
      have hp := Lib.nDigits_pos (u / 10)
      rw [Lib.nDigits_big h, Nat.add_sub_cancel, show Lib.nDigits (u / 10) = Lib.nDigits (u / 10) - 1 + 1 from by omega, Nat.pow_succ]
      omega
theorem nDigits_more {M b y : Nat} (hM : M ≠ 0) (hy : y < 10 ^ b) : Lib.nDigits (M * 10 ^ b + y) = Lib.nDigits M + b := by
  have h1 := Lib.lt_pow_nDigits M
  have h2 := Lib.nDigits_pos M
  have h3 := nDigits_low M hM
  have h4 := Nat.mul_le_mul_right (10 ^ b) h3
  have h5 := Nat.mul_le_mul_right (10 ^ b) (show M + 1 ≤ 10 ^ Lib.nDigits M from h1)
  rw [← Nat.pow_add] at h4 h5
  rw [Nat.add_mul, Nat.one_mul] at h5
  have := Lib.nDigits_unique (Lib.nDigits M - 1 + b) (M * 10 ^ b + y) (by omega) (by rw [show Lib.nDigits M - 1 + b + 1 = Lib.nDigits M + b from by omega]; omega)
  omega
theorem decS_app {M b y : Nat} (hM : M ≠ 0) (hy : y < 10 ^ b) : decS M ++ dgs b y = decS (M * 10 ^ b + y) := by
  unfold decS
  rw [nDigits_more hM hy, dgs_app _ _ _ _ hy]
end Nu
end Go.Proofs
namespace Go.Proofs
open Go.Vc
set_option maxRecDepth 20000
namespace Nu
def cat (l : List (List Nat)) : List Nat := l.reverse.flatten
theorem cat_snoc (l : List (List Nat)) (s : List Nat) : cat (l ++ [s]) = s ++ cat l := by simp [cat]
theorem cat_split (l : List (List Nat)) (k : Nat) : cat l = cat (l.drop k) ++ cat (l.take k) := by
  unfold cat
  rw [← List.flatten_append, ← List.reverse_append, List.take_append_drop]
theorem cat_take_len (l : List (List Nat)) (k : Nat) : (cat (l.take k)).length ≤ (cat l).length := by
  rw [cat_split l k, List.length_append]; omega
theorem text_j1 (l : List (List Nat)) (h1 : l.length ≤ 1000000000) (h2 : (cat l).length ≤ 1000000000) : m_dec_text_j1 l = some (cat l) := by
  unfold m_dec_text_j1
  refine bind_to (loopO_of (step := fun d : (List Nat) × Int => m_dec_text_l12 l d.1 d.2) (I := fun d => 0 ≤ d.2 ∧ d.2 ≤ l.length ∧ d.1 = cat (l.take d.2.toNat)) (fun d => ((l.length : Int) - d.2).toNat) (fun _ => cat l) ?_ (strL ⟨#[]⟩, 0) ⟨by simp, by simp, rfl⟩) rfl
  rintro ⟨out, i⟩ ⟨i0, i1, i2⟩
  have i0 : 0 ≤ i := i0
  have i1 : i ≤ l.length := i1
  have i2 : out = cat (l.take i.toNat) := i2
  show (∃ d', m_dec_text_l12 l out i = _ ∧ _) ∨ m_dec_text_l12 l out i = _
  unfold m_dec_text_l12
  by_cases hi : i < l.length
  · left
    have hk : i.toNat < l.length := by omega
    have ht : cat (l.take (i + 1).toNat) = l.getD i.toNat [] ++ out := by
      rw [show (i + 1).toNat = i.toNat + 1 from by omega, List.take_succ_eq_append_getElem hk, cat_snoc, i2, List.getD_eq_getElem?_getD, List.getElem?_eq_getElem hk]; rfl
    have hlen := cat_take_len l (i + 1).toNat
    rw [ht, List.length_append] at hlen
    refine ⟨(cat (l.take (i + 1).toNat), i + 1), ?_, ⟨by simp only; omega, by simp only; omega, rfl⟩, by simp only; omega, rfl⟩
    rw [if_pos hi]
    refine ck_to (by constructor <;> omega) (ck_to (by omega) (ck_to (by constructor <;> omega) ?_))
    rw [ht]
  · right
    rw [if_neg hi, i2, List.take_of_length_le (by omega)]
def txt (n : Nat) : List Nat := if n = 0 then [] else decS n
structure TxI (n : Nat) (m : List Nat) (l : List (List Nat)) (M rest : Nat) : Prop where
  m0 : m = lb M
  sum : n = M * 10 ^ (18 * l.length) + rest
  lt : rest < 10 ^ (18 * l.length)
  str : cat l = dgs (18 * l.length) rest
  pos : M ≠ 0 ∨ l.length = 0
theorem TxI_len {n M rest : Nat} {m : List Nat} {l : List (List Nat)} (h : TxI n m l M rest) : 18 * l.length ≤ bl n := by
  rcases h.pos with hp | hp
  · rcases Nat.eq_zero_or_pos l.length with h0 | h0
    · omega
    · have h1 : 2 ^ (18 * l.length) ≤ 10 ^ (18 * l.length) := Nat.pow_le_pow_left (by decide) _
      have h2 : 10 ^ (18 * l.length) ≤ M * 10 ^ (18 * l.length) := Nat.le_mul_of_pos_left _ (by omega)
      have h3 : 2 ^ (18 * l.length) ≤ n := by rw [h.sum]; omega
      have := bl_ge h3
      omega
  · omega
theorem q18 (M : Nat) : f_nat_QuoRem (lb M) [1000000000000000000] = (lb (M / 1000000000000000000), lb (M % 1000000000000000000), ()) := by
  unfold f_nat_QuoRem
  rw [nv_lb]
  rfl
theorem part_sum {n M P T rest : Nat} (h : n = M * T + rest) : n = M / P * (P * T) + (M % P * T + rest) := by
  have e := Nat.div_add_mod M P
  rw [h, ← Nat.add_assoc]
  congr 1
  conv => lhs; rw [← e]
  rw [Nat.add_mul, Nat.mul_comm P, Nat.mul_assoc]
theorem part_lt {r P T rest : Nat} (h : r < P) (h2 : rest < T) : r * T + rest < P * T := by
  have h1 := Nat.mul_le_mul_right T (show r + 1 ≤ P from h)
  rw [Nat.add_mul, Nat.one_mul] at h1
  omega
theorem p18 : (10 : Nat) ^ 18 = 1000000000000000000 := by decide
theorem text_j2 {n M rest : Nat} {m : List Nat} {l : List (List Nat)} (hn : bl n ≤ 1000000) (h : TxI n m l M rest) :
    (∃ m' l' M' rest', m_dec_text_j2 l m (txt (M % 1000000000000000000)) = some (.inl (m', l')) ∧ TxI n m' l' M' rest' ∧ M' < M) ∨
      ∃ l', m_dec_text_j2 l m (txt (M % 1000000000000000000)) = some (.inr l') ∧ cat l' = txt n ∧ l'.length ≤ 1000000 := by
  have hl := TxI_len h
  have hr : M % 1000000000000000000 < 10 ^ 18 := Nat.mod_lt _ (by decide)
  have e := Nat.div_add_mod M 1000000000000000000
  have hsl : (txt (M % 1000000000000000000)).length ≤ 18 := by
    unfold txt
    split
    · simp
    · rename_i h0
      unfold decS
      rw [dgs_len]
      have h1 := nDigits_low _ h0
      rcases Nat.lt_or_ge (Lib.nDigits (M % 1000000000000000000)) 19 with hh | hh
      · omega
      · have h2 : 10 ^ 18 ≤ 10 ^ (Lib.nDigits (M % 1000000000000000000) - 1) := Nat.pow_le_pow_right (by decide) (by omega)
        omega
  unfold m_dec_text_j2
  rw [h.m0, q18]
  by_cases hq : M / 1000000000000000000 = 0
  · right
    refine ⟨l ++ [txt (M % 1000000000000000000)], ?_, ?_, by rw [List.length_append]; simp; omega⟩
    · refine ck_to (by omega) ?_
      rw [if_pos (by simp only; rw [hq, lb_zero]; rfl)]
    · have hM : M % 1000000000000000000 = M := by omega
      rw [cat_snoc, hM, h.str]
      rcases Nat.eq_zero_or_pos M with h0 | h0
      · subst h0
        rcases h.pos with hp | hp
        · exact absurd rfl hp
        · have hs := h.sum
          have hlt := h.lt
          rw [hp] at hlt hs ⊢
          have : rest = 0 := by simpa using hlt
          subst this
          simp only [Nat.zero_mul, Nat.add_zero] at hs
          subst hs
          rfl
      · have hn0 : n ≠ 0 := by
          rw [h.sum]
          have := Nat.mul_pos h0 (Nat.pow_pos (n := 18 * l.length) (show 0 < 10 by decide))
          omega
        unfold txt
        rw [if_neg (by omega), if_neg hn0, decS_app (by omega) h.lt, ← h.sum]
  · left
    have hpad : List.replicate (18 - (txt (M % 1000000000000000000)).length) 48 ++ txt (M % 1000000000000000000) = dgs 18 (M % 1000000000000000000) := by
      unfold txt at hsl ⊢
      split
      · rename_i h0; rw [h0, dgs_zero]; simp
      · rename_i h0
        rw [if_neg h0] at hsl
        unfold decS at hsl ⊢
        rw [dgs_len] at hsl ⊢
        exact dgs_pad hsl (Lib.lt_pow_nDigits _)
    have hrep : m_strings_Repeat (strL ⟨#[48]⟩) (18 - ((txt (M % 1000000000000000000)).length : Int)) = some (List.replicate (18 - (txt (M % 1000000000000000000)).length) 48) := by
      have := Repeat_eq (18 - (txt (M % 1000000000000000000)).length) (by omega)
      rw [show ((18 - (txt (M % 1000000000000000000)).length : Nat) : Int) = 18 - ((txt (M % 1000000000000000000)).length : Int) from by omega] at this
      exact this
    have hset : (l ++ [txt (M % 1000000000000000000)]).set (((l ++ [txt (M % 1000000000000000000)]).length : Int) - 1).toNat (List.replicate (18 - (txt (M % 1000000000000000000)).length) 48 ++ txt (M % 1000000000000000000)) = l ++ [dgs 18 (M % 1000000000000000000)] := by
      rw [hpad, List.length_append, List.length_singleton, show (((l.length + 1 : Nat) : Int) - 1).toNat = l.length from by omega]
      simp
    refine ⟨lb (M / 1000000000000000000), l ++ [dgs 18 (M % 1000000000000000000)], M / 1000000000000000000, M % 1000000000000000000 * 10 ^ (18 * l.length) + rest, ?_, ?_, Nat.div_lt_self (by omega) (by decide)⟩
    · have hne := List.length_pos_iff.2 (fun e => hq (lb_nil.1 e))
      have hll : (l ++ [txt (M % 1000000000000000000)]).length = l.length + 1 := by simp
      refine ck_to (by omega) ?_
      rw [if_neg (by simp only; omega)]
      simp only [hrep, Option.getD_some]
      refine ck_to (by constructor <;> omega) (ck_to (by constructor <;> omega) (ck_to rfl (ck_to (by rw [List.length_replicate]; omega) (ck_to (by constructor <;> omega) ?_))))
      rw [hset]
    · have hl1 : (l ++ [dgs 18 (M % 1000000000000000000)]).length = l.length + 1 := by simp
      have hp : 10 ^ (18 * (l.length + 1)) = 1000000000000000000 * 10 ^ (18 * l.length) := by rw [← p18, ← Nat.pow_add]; congr 1; omega
      refine ⟨rfl, ?_, ?_, ?_, .inl hq⟩
      · rw [hl1, hp]
        have := part_sum (P := 1000000000000000000) (T := 10 ^ (18 * l.length)) h.sum
        exact this
      · rw [hl1, hp]; exact part_lt (Nat.mod_lt _ (by decide)) h.lt
      · have := dgs_app 18 (18 * l.length) (M % 1000000000000000000) rest h.lt
        rw [hl1, cat_snoc, h.str, this, show 18 + 18 * l.length = 18 * (l.length + 1) from by omega]
end Nu
end Go.Proofs
namespace Go.Proofs
open Go.Vc
set_option maxRecDepth 20000
namespace Nu
theorem lb_first {x : Nat} (h : x < 18446744073709551616) : (lb x).getD 0 0 = x := by
  rw [getD_nv (Lm_lb x), nv_lb, Nat.pow_zero, Nat.div_one, Nat.mod_eq_of_lt h]
theorem P18_nrm : Nrm [1000000000000000000] ∧ nv [1000000000000000000] ≠ 0 := by decide
theorem text_l2 {n M rest : Nat} {m : List Nat} {l : List (List Nat)} (hm : m.length ≤ 100000) (h : TxI n m l M rest) : m_dec_text_l2 m l = m_dec_text_j2 l m (txt (M % 1000000000000000000)) := by
  have hr : M % 1000000000000000000 < 1000000000000000000 := Nat.mod_lt _ (by decide)
  have hp : p_nat_QuoRem m [1000000000000000000] := ⟨by rw [h.m0]; exact Nrm_lb _, P18_nrm.1, P18_nrm.2, by omega⟩
  unfold m_dec_text_l2
  refine ck_to hp ?_
  have hq : (f_nat_QuoRem m [1000000000000000000]).2.1 = lb (M % 1000000000000000000) := by rw [h.m0, q18]
  rw [hq]
  by_cases h0 : M % 1000000000000000000 = 0
  · have ht : txt (M % 1000000000000000000) = strL ⟨#[]⟩ := by unfold txt; rw [if_pos h0]; rfl
    rw [if_neg (by rw [h0, lb_zero]; simp), ht]
  · have ht : txt (M % 1000000000000000000) = decS (M % 1000000000000000000) := by unfold txt; rw [if_neg h0]
    have hl := List.length_pos_iff.2 (fun e => h0 (lb_nil.1 e))
    have hf := FormatUint_eq (M % 1000000000000000000) (by omega)
    rw [if_pos (by omega), lb_first (by omega), ht]
    simp only [hf, Option.getD_some]
    exact ck_to (by omega) (ck_to rfl rfl)
theorem bl_BBk (k : Nat) {n : Nat} (h : n < 18446744073709551616 ^ k) : bl n ≤ 64 * k := bl_le (by rw [← BB_pow]; exact h)
theorem text_eq (n : Nat) (hn : n < 18446744073709551616 ^ 10000) : m_dec_text (lb n) = some (txt n) := by
  have hb := bl_BBk 10000 hn
  have key := loopO_post (step := fun d : (List Nat) × (List (List Nat)) => m_dec_text_l2 d.1 d.2) (I := fun d => ∃ M rest, TxI n d.1 d.2 M rest) (fun d => nv d.1) (fun e => cat e = txt n ∧ e.length ≤ 1000000) ?_ (lb n, []) ⟨n, 0, ⟨rfl, by simp, by simp, rfl, .inr rfl⟩⟩
  · obtain ⟨e, h1, h2, h3⟩ := key
    unfold m_dec_text
    refine bind_to h1 ?_
    have hlen : (txt n).length ≤ 1000000 := by
      unfold txt
      split
      · simp
      · rename_i h0
        unfold decS
        rw [dgs_len]
        have a := nDigits_low n h0
        have b : 2 ^ (Lib.nDigits n - 1) ≤ 10 ^ (Lib.nDigits n - 1) := Nat.pow_le_pow_left (by decide) _
        have := bl_ge (Nat.le_trans b a)
        omega
    rw [text_j1 e (by omega) (by rw [h2]; omega), h2]
  · rintro ⟨m, l⟩ ⟨M, rest, h⟩
    have h : TxI n m l M rest := h
    have hMn : M ≤ n := by
      rw [h.sum]
      have := Nat.le_mul_of_pos_right M (Nat.pow_pos (n := 18 * l.length) (show 0 < 10 by decide))
      omega
    have hm : m.length ≤ 100000 := by
      rw [h.m0]
      exact Nat.le_trans (lb_len.2 (Nat.lt_of_le_of_lt hMn hn)) (by decide)
    show (∃ d', m_dec_text_l2 m l = _ ∧ _) ∨ ∃ e, m_dec_text_l2 m l = _ ∧ _
    rw [text_l2 hm h]
    rcases text_j2 (by omega) h with ⟨m', l', M', rest', k1, k2, k3⟩ | ⟨l', k1, k2, k3⟩
    · left
      refine ⟨(m', l'), k1, ⟨M', rest', k2⟩, ?_⟩
      show nv m' < nv m
      rw [k2.m0, h.m0, nv_lb, nv_lb]
      exact k3
    · right
      exact ⟨l', k1, k2, k3⟩
end Nu
end Go.Proofs
namespace Go.Proofs
open Go.Vc
set_option maxRecDepth 20000
namespace Nu
def padS (k : Nat) (s : List Nat) : List Nat := List.replicate (k + 1 - s.length) 48 ++ s
def ptS (k : Nat) (s : List Nat) : List Nat := if 0 < k then s.take (s.length - k) ++ [46] ++ s.drop (s.length - k) else s
def sgS (neg : Bool) (q : Nat) (s : List Nat) : List Nat := if neg = true ∧ q ≠ 0 then 45 :: s else s
theorem txt_len {n : Nat} (h : bl n ≤ 640000) : (txt n).length ≤ 1000000 := by
  unfold txt
  split
  · simp
  · rename_i h0
    unfold decS
    rw [dgs_len]
    have a := nDigits_low n h0
    have b : 2 ^ (Lib.nDigits n - 1) ≤ 10 ^ (Lib.nDigits n - 1) := Nat.pow_le_pow_left (by decide) _
    have := bl_ge (Nat.le_trans b a)
    omega
theorem bl_BB {n k : Nat} (h : n < 18446744073709551616 ^ k) : bl n ≤ 64 * k := bl_le (by rw [← BB_pow]; exact h)
theorem Text_j2 (d : Dy) (q : Nat) (s : List Nat) (hs : s.length ≤ 10000000) : m_dec_Text_j2 d (lb q) s = some (sgS d.1 q s, 0, ()) := by
  unfold m_dec_Text_j2 sgS
  have hq : (0 : Int) < ((lb q).length : Int) ↔ q ≠ 0 := by
    constructor
    · intro h e; rw [e, lb_zero] at h; simp at h
    · intro h
      have := List.length_pos_iff.2 (fun e => h (lb_nil.1 e))
      omega
  by_cases h : d.1 = true ∧ q ≠ 0
  · rw [if_pos ⟨h.1, hq.2 h.2⟩, if_pos h]
    refine ck_to ?_ rfl
    have : (strL ⟨#[45]⟩).length = 1 := rfl
    omega
  · rw [if_neg (fun hh => h ⟨hh.1, hq.1 hh.2⟩), if_neg h]
theorem Text_j1 (k : Nat) (d : Dy) (q : Nat) (hk : k ≤ 60) (hq : q < 18446744073709551616 ^ 10000) : m_dec_Text_j1 (k : Int) d (lb q) = some (sgS d.1 q (ptS k (padS k (txt q))), 0, ()) := by
  have hl := txt_len (Nat.le_trans (bl_BB hq) (by decide))
  have ht := text_eq q hq
  have hr : m_strings_Repeat (strL ⟨#[48]⟩) (max ((k : Int) + 1 - ((txt q).length : Int)) 0) = some (List.replicate (k + 1 - (txt q).length) 48) := by
    have := Repeat_eq (k + 1 - (txt q).length) (by omega)
    rw [show ((k + 1 - (txt q).length : Nat) : Int) = max ((k : Int) + 1 - ((txt q).length : Int)) 0 from by omega] at this
    exact this
  have hp : (padS k (txt q)).length = k + 1 - (txt q).length + (txt q).length := by unfold padS; rw [List.length_append, List.length_replicate]
  have e : List.replicate (k + 1 - (txt q).length) 48 ++ txt q = padS k (txt q) := rfl
  unfold m_dec_Text_j1
  simp only [ht, Option.getD_some, hr, e]
  refine ck_to rfl (ck_to (by constructor <;> omega) (ck_to (by constructor <;> omega) (ck_to rfl (ck_to (by rw [List.length_replicate]; omega) ?_))))
  have h1 : (strL ⟨#[46]⟩) = [46] := rfl
  unfold ptS
  by_cases h : 0 < k
  · have en : (((padS k (txt q)).length : Int) - (k : Int)).toNat = (padS k (txt q)).length - k := by omega
    rw [if_pos (by omega), if_pos h, h1, en]
    have l1 : ((padS k (txt q)).take ((padS k (txt q)).length - k)).length = (padS k (txt q)).length - k := by rw [List.length_take]; omega
    have l2 : ((padS k (txt q)).drop ((padS k (txt q)).length - k)).length = k := by rw [List.length_drop]; omega
    refine ck_to (by constructor <;> omega) (ck_to (by constructor <;> omega) (ck_to (by rw [l1]; simp; omega) (ck_to (by constructor <;> omega) (ck_to (by constructor <;> omega) (ck_to (by rw [List.length_append, l1, l2]; simp; omega) ?_)))))
    exact Text_j2 d q _ (by rw [List.length_append, List.length_append, l1, l2]; simp; omega)
  · rw [if_neg (by omega), if_neg h]
    exact Text_j2 d q _ (by omega)
def txM (d : Dy) (k : Nat) : Nat := nv d.2.1 * 2 ^ (max d.2.2.1 0).toNat * 10 ^ k
def txQ (d : Dy) (k : Nat) (up : Bool) : Nat :=
  let m := txM d k
  let n := (max (-d.2.2.1) 0).toNat
  if m % 2 ^ n ≠ 0 ∧ (up != d.1) = true then m / 2 ^ n + 1 else m / 2 ^ n
def textD (d : Dy) (k : Int) (up : Bool) : List Nat × Int × Unit :=
  if mayD d = false ∨ k < 0 ∨ 60 < k then ([], 1, ())
  else if 2000 < d.2.2.1 ∨ d.2.2.1 < -2000 then ([], 2, ())
  else (sgS d.1 (txQ d k.toNat up) (ptS k.toNat (padS k.toNat (txt (txQ d k.toNat up)))), 0, ())
theorem txM_lt {d : Dy} {k : Nat} (lm : Lm d.2.1) (hl : d.2.1.length ≤ 64) (he : d.2.2.1 ≤ 2000) (hk : k ≤ 60) : txM d k < 18446744073709551616 ^ 200 := by
  have h1 := nv_lt lm
  rw [BB_pow] at h1
  have h2 := pow_bits k
  unfold txM
  have h3 : nv d.2.1 * 2 ^ (max d.2.2.1 0).toNat < 2 ^ (64 * d.2.1.length) * 2 ^ (max d.2.2.1 0).toNat := Nat.mul_lt_mul_of_pos_right h1 (Nat.two_pow_pos _)
  rw [← Nat.pow_add] at h3
  have h4 := Nat.mul_lt_mul_of_lt_of_le h3 h2 (Nat.pow_pos (by decide))
  rw [← Nat.pow_add] at h4
  exact lt_BB 200 h4 (by omega)
theorem Text_eq (d : Dy) (k : Int) (up : Bool) (lm : Lm d.2.1) : m_dec_Text d k up = some (textD d k up) := by
  unfold m_dec_Text textD
  simp only [may_eq, Option.getD_some]
  refine ck_to rfl ?_
  by_cases h1 : mayD d = false ∨ k < 0 ∨ 60 < k
  · rw [if_pos (by rcases h1 with h | h | h; exact .inl (.inl (by rw [h]; decide)); exact .inl (.inr h); exact .inr h), if_pos h1]; rfl
  · have hm : mayD d = true := by
      cases hh : mayD d with
      | true => rfl
      | false => exact absurd (.inl hh) h1
    have hk : 0 ≤ k ∧ k ≤ 60 := by omega
    rw [if_neg (by rintro ((h | h) | h); exact h hm; omega; omega), if_neg h1]
    by_cases h2 : 2000 < d.2.2.1 ∨ d.2.2.1 < -2000
    · rw [if_pos h2, if_pos h2]; rfl
    · rw [if_neg h2, if_neg h2]
      obtain ⟨a1, a2, a3, a4⟩ := may_parts hm
      obtain ⟨j, rfl⟩ : ∃ j : Nat, k = (j : Int) := ⟨k.toNat, by omega⟩
      rw [Int.toNat_natCast]
      have hM := txM_lt (k := j) lm a1 (by omega) (by omega)
      have hpw := power_eq 10 j (by decide) (by omega)
      have hL : f_nat_Left d.2.1 (max d.2.2.1 0) = lb (nv d.2.1 * 2 ^ (max d.2.2.1 0).toNat) := rfl
      have hT : f_nat_Times (lb (nv d.2.1 * 2 ^ (max d.2.2.1 0).toNat)) (lb (10 ^ j)) = lb (txM d j) := by
        unfold f_nat_Times txM; rw [nv_lb, nv_lb]
      have hLl : (lb (nv d.2.1 * 2 ^ (max d.2.2.1 0).toNat)).length ≤ 200 := by
        refine lb_len.2 (Nat.lt_of_le_of_lt ?_ hM)
        unfold txM
        exact Nat.le_mul_of_pos_right _ (Nat.pow_pos (by decide))
      have hPl := lb_pow (b := 10) (i := j) (by decide)
      have hTl := lb_len.2 hM
      have hn : max (0 - d.2.2.1) 0 = ((max (-d.2.2.1) 0).toNat : Int) := by omega
      simp only [hpw, Option.getD_some, hL, hT, hn]
      have hR : f_nat_Right (lb (txM d j)) ((max (-d.2.2.1) 0).toNat : Int) = lb (txM d j / 2 ^ (max (-d.2.2.1) 0).toNat) := by
        unfold f_nat_Right; rw [nv_lb, Int.toNat_natCast]
      rw [hR]
      have hqlt : txM d j / 2 ^ (max (-d.2.2.1) 0).toNat < 18446744073709551616 ^ 200 := Nat.lt_of_le_of_lt (Nat.div_le_self _ _) hM
      have hP : f_nat_Plus (lb (txM d j / 2 ^ (max (-d.2.2.1) 0).toNat)) [1] = lb (txM d j / 2 ^ (max (-d.2.2.1) 0).toNat + 1) := by
        unfold f_nat_Plus; rw [nv_lb]; rfl
      have hbig : ∀ x, x < 18446744073709551616 ^ 200 → x + 1 < 18446744073709551616 ^ 10000 := fun x hx => by
        have : 18446744073709551616 ^ 200 < 18446744073709551616 ^ 10000 := BB_lt 200 10000 (by decide)
        exact Nat.lt_of_le_of_lt hx this
      refine ck_to ⟨by show d.2.1.length ≤ _; omega, by omega, by omega⟩ (ck_to rfl (ck_to ⟨by show (lb (nv d.2.1 * 2 ^ (max d.2.2.1 0).toNat)).length ≤ _; omega, by show (lb (10 ^ j)).length ≤ _; omega⟩ (ck_to (by constructor <;> omega) (ck_to ⟨by show (lb (txM d j)).length ≤ _; omega, by omega⟩ (ck_to (fun _ => by show (lb (txM d j)).length ≤ _; omega) ?_)))))
      have hc : ((0 : Int) < ((lb (txM d j)).length : Int) ∧ f_nat_Zeros (lb (txM d j)) < ((max (-d.2.2.1) 0).toNat : Int)) ↔ txM d j % 2 ^ (max (-d.2.2.1) 0).toNat ≠ 0 := by
        by_cases h0 : txM d j = 0
        · rw [h0, lb_zero, Nat.zero_mod]; simp
        · have hl := List.length_pos_iff.2 (fun e => h0 (lb_nil.1 e))
          have hz : f_nat_Zeros (lb (txM d j)) = (tzn (txM d j) : Int) := by unfold f_nat_Zeros; rw [nv_lb, if_neg h0]
          rw [hz, ← tzn_mod h0]
          constructor
          · intro h; omega
          · intro h; exact ⟨by omega, by omega⟩
      unfold txQ
      simp only
      by_cases h3 : txM d j % 2 ^ (max (-d.2.2.1) 0).toNat ≠ 0 ∧ (up != d.1) = true
      · rw [if_pos ⟨hc.2 h3.1, h3.2⟩, if_pos h3, hP]
        have hl3 := lb_len.2 hqlt
        refine ck_to ⟨by show (lb (txM d j / 2 ^ (max (-d.2.2.1) 0).toNat)).length ≤ _; omega, by show (1 : Nat) ≤ _; decide⟩ ?_
        exact Text_j1 j d _ (by omega) (hbig _ hqlt)
      · rw [if_neg (fun h => h3 ⟨hc.1 h.1, h.2⟩), if_neg h3]
        exact Text_j1 j d _ (by omega) (Nat.lt_of_succ_lt (hbig _ hqlt))
end Nu
end Go.Proofs
namespace Go.Proofs
open Go.Vc
set_option maxRecDepth 20000
namespace Nu
def negD (d : Dy) : Dy := if mayD d = true ∧ 0 < d.2.1.length then (!d.1, d.2.1, d.2.2.1, ()) else d
theorem Neg_eq (d : Dy) (h : d.2.1.length ≤ 1000000) : m_dyad_Neg d = some (negD d) := by
  have hc : m_dyad_copied d = some d := by
    unfold m_dyad_copied
    exact ck_to (by show d.2.1.length * 8 ≤ _; omega) rfl
  unfold m_dyad_Neg negD
  simp only [hc, may_eq, Option.getD_some]
  refine ck_to rfl (ck_to rfl ?_)
  by_cases hh : mayD d = true ∧ 0 < d.2.1.length
  · rw [if_pos ⟨hh.1, by omega⟩, if_pos hh]
  · rw [if_neg (fun h => hh ⟨h.1, by omega⟩), if_neg hh]
theorem Equal_eq (a b : List Nat) (ha : a.length ≤ 9223372036854775807) : m_slices_Equal_uint64 a b = some (decide (a = b)) := by
  unfold m_slices_Equal_uint64
  by_cases hl : a.length = b.length
  · rw [if_neg (by omega)]
    have key := loopO_of (step := fun d : Int => m_slices_Equal_uint64_l4 a b d) (I := fun i => 0 ≤ i ∧ i ≤ a.length) (fun i => (a.length - i).toNat) (fun i => if a.drop i.toNat = b.drop i.toNat then (.inl () : Unit ⊕ Bool) else .inr false) ?_ 0 ⟨by omega, by omega⟩
    · have e1 : a.drop ((0 : Int).toNat) = a := rfl
      have e2 : b.drop ((0 : Int).toNat) = b := rfl
      rw [e1, e2] at key
      refine bind_to key ?_
      by_cases h : a = b
      · rw [if_pos h, decide_eq_true h]
      · rw [if_neg h, decide_eq_false h]
    · rintro i ⟨i0, i1⟩
      show (∃ d', m_slices_Equal_uint64_l4 a b i = _ ∧ _) ∨ m_slices_Equal_uint64_l4 a b i = _
      unfold m_slices_Equal_uint64_l4
      by_cases hi : i < a.length
      · have hk : i.toNat < a.length := by omega
        have hk2 : i.toNat < b.length := by omega
        have ea : a.drop i.toNat = a.getD i.toNat 0 :: a.drop (i.toNat + 1) := by
          rw [List.drop_eq_getElem_cons hk, List.getD_eq_getElem?_getD, List.getElem?_eq_getElem hk]; rfl
        have eb : b.drop i.toNat = b.getD i.toNat 0 :: b.drop (i.toNat + 1) := by
          rw [List.drop_eq_getElem_cons hk2, List.getD_eq_getElem?_getD, List.getElem?_eq_getElem hk2]; rfl
        by_cases hx : a.getD i.toNat 0 = b.getD i.toNat 0
        · left
          refine ⟨i + 1, ?_, ⟨by omega, by omega⟩, by omega, ?_⟩
          · rw [if_pos hi]
            refine ck_to (by constructor <;> omega) (ck_to (by constructor <;> omega) ?_)
            rw [if_neg (fun h => h hx)]
            exact ck_to (by constructor <;> omega) rfl
          · rw [ea, eb, hx, show (i + 1).toNat = i.toNat + 1 from by omega]
            simp
        · right
          rw [if_pos hi]
          refine ck_to (by constructor <;> omega) (ck_to (by constructor <;> omega) ?_)
          rw [if_pos hx, if_neg (by rw [ea, eb]; intro h; exact hx (List.cons.inj h).1)]
      · right
        rw [if_neg hi, List.drop_eq_nil_of_le (by omega), List.drop_eq_nil_of_le (by omega), if_pos rfl]
  · rw [if_pos (by omega), decide_eq_false (fun h => hl (by rw [h]))]
theorem Same_eq (a b : Dy) (ha : a.2.1.length ≤ 9223372036854775807) : m_dyad_Same a b = some ((a.1 == b.1) && decide (a.2.2.1 = b.2.2.1) && decide (a.2.1 = b.2.1)) := by
  unfold m_dyad_Same
  simp only [Equal_eq a.2.1 b.2.1 ha, Option.getD_some]
  exact ck_to (fun _ => rfl) rfl
end Nu
end Go.Proofs
namespace Go.Proofs
open Go.Vc
set_option maxRecDepth 20000
namespace Nu
def signD (d : Dy) : Int := if mayD d = false ∨ d.2.1.length = 0 then 0 else if d.1 = true then -1 else 1
theorem Sign_eq (d : Dy) : m_dyad_Sign d = some (signD d) := by
  unfold m_dyad_Sign signD
  simp only [may_eq, Option.getD_some]
  refine ck_to rfl ?_
  by_cases h : mayD d = false ∨ d.2.1.length = 0
  · rw [if_pos (by rcases h with h | h; exact .inl (by rw [h]; decide); exact .inr (by omega)), if_pos h]
  · have hm : mayD d = true := by
      cases hh : mayD d with
      | true => rfl
      | false => exact absurd (.inl hh) h
    rw [if_neg (by rintro (hh | hh); exact hh hm; exact h (.inr (by omega))), if_neg h]
    by_cases hn : d.1 = true
    · rw [if_pos hn, if_pos hn]
    · rw [if_neg hn, if_neg hn]
def sizeD (a b : Dy) : Int :=
  let x := (bl (nv a.2.1) : Int) + a.2.2.1
  let y := (bl (nv b.2.1) : Int) + b.2.2.1
  let low := min a.2.2.1 b.2.2.1
  if x < y then -1 else if y < x then 1 else ordN (nv a.2.1 * 2 ^ (a.2.2.1 - low).toNat) (nv b.2.1 * 2 ^ (b.2.2.1 - low).toNat)
theorem size_eq (a b : Dy) (la : Lm a.2.1) (lb' : Lm b.2.1) (ha : mayD a = true) (hb : mayD b = true) : m_dyad_size a b = some (sizeD a b) := by
  obtain ⟨a1, a2, a3, a4⟩ := may_parts ha
  obtain ⟨b1, b2, b3, b4⟩ := may_parts hb
  have hba : bl (nv a.2.1) ≤ 64 * a.2.1.length := bl_le (by rw [← BB_pow]; exact nv_lt la)
  have hbb : bl (nv b.2.1) ≤ 64 * b.2.1.length := bl_le (by rw [← BB_pow]; exact nv_lt lb')
  have e1 : f_nat_Size a.2.1 = (bl (nv a.2.1) : Int) := rfl
  have e2 : f_nat_Size b.2.1 = (bl (nv b.2.1) : Int) := rfl
  unfold m_dyad_size sizeD
  rw [e1, e2]
  refine ck_to ⟨a2, by show a.2.1.length ≤ _; omega⟩ (ck_to (by constructor <;> omega) (ck_to ⟨b2, by show b.2.1.length ≤ _; omega⟩ (ck_to (by constructor <;> omega) ?_)))
  simp only
  by_cases h1 : (bl (nv a.2.1) : Int) + a.2.2.1 < (bl (nv b.2.1) : Int) + b.2.2.1
  · rw [if_pos h1, if_pos h1]
  · rw [if_neg h1, if_neg h1]
    by_cases h2 : (bl (nv b.2.1) : Int) + b.2.2.1 < (bl (nv a.2.1) : Int) + a.2.2.1
    · rw [if_pos h2, if_pos h2]
    · rw [if_neg h2, if_neg h2]
      refine ck_to (by constructor <;> omega) (ck_to ⟨by show a.2.1.length ≤ _; omega, by omega, by omega⟩ (ck_to (by constructor <;> omega) (ck_to ⟨by show b.2.1.length ≤ _; omega, by omega, by omega⟩ (ck_to ⟨Nrm_lb _, Nrm_lb _⟩ ?_))))
      unfold f_nat_Order f_nat_Left
      rw [nv_lb, nv_lb]
def cmpD (a b : Dy) : Int :=
  if mayD a = false ∨ mayD b = false then 0
  else if signD a < signD b then -1
  else if signD b < signD a then 1
  else if signD a = 0 then 0
  else signD a * sizeD a b
theorem sizeD_range (a b : Dy) : -1 ≤ sizeD a b ∧ sizeD a b ≤ 1 := by
  unfold sizeD
  simp only
  split
  · decide
  · split
    · decide
    · unfold ordN
      split
      · decide
      · split <;> decide
theorem signD_range (d : Dy) : signD d = 0 ∨ signD d = 1 ∨ signD d = -1 := by
  unfold signD
  split
  · exact .inl rfl
  · split
    · exact .inr (.inr rfl)
    · exact .inr (.inl rfl)
theorem Cmp_eq (a b : Dy) (la : Lm a.2.1) (lb' : Lm b.2.1) : m_dyad_Cmp a b = some (cmpD a b) := by
  have ra := signD_range a
  have rb := signD_range b
  have rs := sizeD_range a b
  unfold m_dyad_Cmp cmpD
  simp only [Sign_eq, may_eq, Option.getD_some]
  refine ck_to rfl (ck_to rfl (ck_to rfl (ck_to (fun _ => rfl) ?_)))
  by_cases h : mayD a = false ∨ mayD b = false
  · rw [if_pos (by rcases h with h | h; exact .inl (by rw [h]; decide); exact .inr (by rw [h]; decide)), if_pos h]
  · have ha : mayD a = true := by
      cases hh : mayD a with
      | true => rfl
      | false => exact absurd (.inl hh) h
    have hb : mayD b = true := by
      cases hh : mayD b with
      | true => rfl
      | false => exact absurd (.inr hh) h
    rw [if_neg (by rintro (hh | hh); exact hh ha; exact hh hb), if_neg h]
    by_cases h1 : signD a < signD b
    · rw [if_pos ⟨by omega, h1⟩, if_pos h1]
    · rw [if_neg (fun hh => h1 hh.2), if_neg h1]
      by_cases h2 : signD b < signD a
      · rw [if_pos (by omega), if_pos h2]
      · rw [if_neg (by omega), if_neg h2]
        by_cases h3 : signD a = 0
        · rw [if_pos h3, if_pos h3]
        · rw [if_neg h3, if_neg h3]
          simp only [size_eq a b la lb' ha hb, Option.getD_some]
          refine ck_to rfl (ck_to ?_ rfl)
          rcases ra with r | r | r <;> rw [r] <;> constructor <;> omega
end Nu
end Go.Proofs
namespace Go.Proofs
open Go.Vc
set_option maxRecDepth 20000
namespace Nu
def eighth : Dy := (false, [1], -3, ())
def eighthN : Dy := (true, [1], -3, ())
theorem txt_12 : txt 12 = [49, 50] := by
  unfold txt; rw [if_neg (by decide), decS_2 (by decide) (by decide)]
theorem txt_13 : txt 13 = [49, 51] := by
  unfold txt; rw [if_neg (by decide), decS_2 (by decide) (by decide)]
theorem Lm_1 : Lm [1] := by intro x hx; simp at hx; subst hx; decide
theorem may_8 : mayD eighth = true ∧ mayD eighthN = true := by decide +kernel
theorem q_8a : txQ eighth 2 false = 12 := by decide +kernel
theorem q_8b : txQ eighth 2 true = 13 := by decide +kernel
theorem q_8c : txQ eighthN 2 false = 13 := by decide +kernel
theorem told_a : m_dec_Text eighth 2 false = some ([48, 46, 49, 50], 0, ()) := by
  rw [Text_eq eighth 2 false Lm_1]
  unfold textD
  rw [if_neg (by rw [may_8.1]; decide), if_neg (by decide), show ((2 : Int).toNat) = 2 from rfl, q_8a, txt_12]
  rfl
theorem told_b : m_dec_Text eighth 2 true = some ([48, 46, 49, 51], 0, ()) := by
  rw [Text_eq eighth 2 true Lm_1]
  unfold textD
  rw [if_neg (by rw [may_8.1]; decide), if_neg (by decide), show ((2 : Int).toNat) = 2 from rfl, q_8b, txt_13]
  rfl
theorem told_c : m_dec_Text eighthN 2 false = some ([45, 48, 46, 49, 51], 0, ()) := by
  rw [Text_eq eighthN 2 false Lm_1]
  unfold textD
  rw [if_neg (by rw [may_8.2]; decide), if_neg (by decide), show ((2 : Int).toNat) = 2 from rfl, q_8c, txt_13]
  rfl
theorem told_n : m_dyad_Neg eighth = some eighthN := by
  rw [Neg_eq eighth (by decide)]
  unfold negD
  rw [if_pos ⟨may_8.1, by decide⟩]
  rfl
theorem lit_125 : litF [48, 46, 49, 50, 53] = ([48, 49, 50, 53], -3, true, ()) := by decide +kernel
theorem lit_01 : litF [48, 46, 49] = ([48, 49], -1, true, ()) := by decide +kernel
theorem lb_1 : lb 1 = [1] := by rw [lb_pos (by decide), show 1 / 18446744073709551616 = 0 from by decide, lb_zero]
theorem told_d : m_dec_Exact [48, 46, 49, 50, 53] = some (eighth, 0, ()) := by
  rw [Exact_eq _ (by decide)]
  have hN : exN [48, 46, 49, 50, 53] = 125 := by unfold exN; rw [lit_125]; decide
  have hD : exD [48, 46, 49, 50, 53] = 125 := by unfold exD; rw [lit_125]; decide
  unfold exactD
  rw [hN, hD, lit_125, if_neg (by decide), if_neg (by decide), show 125 / 125 = 1 from rfl]
  have ht : tzn 1 = 0 := tzn_eq (m := 0) rfl
  unfold normD
  rw [if_neg (by decide), ht, show 1 / 2 ^ 0 = 1 from rfl, lb_1]
  rfl
theorem told_e : m_dec_Exact [48, 46, 49] = some (d0, 6, ()) := by
  rw [Exact_eq _ (by decide)]
  have hN : exN [48, 46, 49] = 1 := by unfold exN; rw [lit_01]; decide
  have hD : exD [48, 46, 49] = 5 := by unfold exD; rw [lit_01]; decide
  unfold exactD
  rw [hN, hD, lit_01, if_neg (by decide), if_pos (by decide)]
theorem form_1 : (litF [49, 46, 53, 101, 45, 51]).2.2.1 = true ∧ (litF [49, 46]).2.2.1 = false ∧ (litF [46, 53]).2.2.1 = false ∧ (litF [49, 101, 49, 48, 49]).2.2.1 = false ∧ (litF []).2.2.1 = false := by decide +kernel
end Nu
end Go.Proofs
namespace Go.Proofs
open Go.Vc
set_option maxRecDepth 20000
namespace Nu
theorem lb_small {x : Nat} (h0 : x ≠ 0) (h : x < 18446744073709551616) : lb x = [x] := by
  rw [lb_pos h0, Nat.mod_eq_of_lt h, Nat.div_eq_of_lt h, lb_zero]
def lo01 : Dy := (false, [209715], -21, ())
def hi01 : Dy := (false, [838861], -23, ())
theorem bl_10 : bl 10 = 4 := bl_eq (k := 3) (by decide) (by decide)
theorem bl_q : bl 3355443 = 22 := bl_eq (k := 21) (by decide) (by decide)
theorem rat_01 : rn 1 10 20 25 = 2 ∧ rM 1 10 20 25 = 838860 ∧ rE 1 10 20 25 = -23 ∧ rS 1 10 20 25 = true := by
  have hq : rq 1 10 25 = 3355443 := by decide
  have hn : rn 1 10 20 25 = 2 := by unfold rn; rw [hq, bl_q]
  refine ⟨hn, ?_, ?_, ?_⟩
  · unfold rM; rw [hn, hq]
  · unfold rE; rw [hn]; rfl
  · unfold rS; rw [hn]; decide
theorem lo_01 : ratD 1 10 20 25 false = lo01 := by
  obtain ⟨h1, h2, h3, h4⟩ := rat_01
  have hm : rm2 1 10 20 25 false = 838860 := by unfold rm2; rw [h2, if_neg (by rintro ⟨_, h⟩; cases h)]
  have ht : tzn 838860 = 2 := tzn_eq (m := 104857) (by decide)
  unfold ratD normD
  rw [hm, h3, if_neg (by decide), ht, show 838860 / 2 ^ 2 = 209715 from by decide, lb_small (by decide) (by decide)]
  rfl
theorem hi_01 : ratD 1 10 20 25 true = hi01 := by
  obtain ⟨h1, h2, h3, h4⟩ := rat_01
  have hm : rm2 1 10 20 25 true = 838861 := by unfold rm2; rw [h2, h4, if_pos ⟨rfl, rfl⟩]
  have ht : tzn 838861 = 0 := tzn_eq (m := 419430) (by decide)
  unfold ratD normD
  rw [hm, h3, if_neg (by decide), ht, show 838861 / 2 ^ 0 = 838861 from by decide, lb_small (by decide) (by decide)]
  rfl
theorem told_f : m_dec_Lit [48, 46, 49] 20 = some ((lo01, hi01, ()), 0, ()) := by
  rw [Lit_eq _ _ (by decide)]
  have hA : litA [48, 46, 49] = 1 := by unfold litA; rw [lit_01]; decide
  have hB : litB [48, 46, 49] = 10 := by unfold litB; rw [lit_01]; decide
  have e1 : litEnd [48, 46, 49] 20 false = lo01 := by
    unfold litEnd; rw [hA, hB, if_neg (by decide), bl_10]; exact lo_01
  have e2 : litEnd [48, 46, 49] 20 true = hi01 := by
    unfold litEnd; rw [hA, hB, if_neg (by decide), bl_10]; exact hi_01
  unfold litD
  rw [lit_01, if_neg (by decide), if_neg (by decide), show ((20 : Int).toNat) = 20 from rfl, e1, e2]
theorem Lm_x {x : Nat} (h : x < 18446744073709551616) : Lm [x] := by intro y hy; simp at hy; subst hy; exact h
theorem told_g : m_dyad_Cmp lo01 hi01 = some (-1) := by
  rw [Cmp_eq lo01 hi01 (Lm_x (by decide)) (Lm_x (by decide))]
  have b1 : bl (nv [209715]) = 18 := bl_eq (k := 17) (by decide) (by decide)
  have b2 : bl (nv [838861]) = 20 := bl_eq (k := 19) (by decide) (by decide)
  have m1 : mayD lo01 = true ∧ mayD hi01 = true := by decide +kernel
  have s1 : signD lo01 = 1 := by unfold signD; rw [m1.1]; decide
  have s2 : signD hi01 = 1 := by unfold signD; rw [m1.2]; decide
  have sz : sizeD lo01 hi01 = -1 := by
    unfold sizeD lo01 hi01
    simp only [b1, b2]
    decide +kernel
  unfold cmpD
  rw [m1.1, m1.2, s1, s2, sz, if_neg (by decide), if_neg (by decide), if_neg (by decide), if_neg (by decide)]
  rfl
theorem told_h : m_dyad_Same eighth eighth = some true := by
  rw [Same_eq eighth eighth (by decide)]; decide
theorem told_eq : m_law4_told = some true := by
  have a := told_a
  have b := told_b
  have n := told_n
  have c := told_c
  have d := told_d
  have e := told_e
  have f := told_f
  have g := told_g
  have h := told_h
  unfold eighth at a b n d h
  unfold eighthN at n c
  unfold lo01 hi01 at f g
  obtain ⟨f1, f2, f3, f4, f5⟩ := form_1
  have s1 : strL ⟨#[48, 46, 49, 50, 53]⟩ = [48, 46, 49, 50, 53] := rfl
  have s2 : strL ⟨#[48, 46, 49]⟩ = [48, 46, 49] := rfl
  have s3 : strL ⟨#[48, 46, 49, 50]⟩ = [48, 46, 49, 50] := rfl
  have s4 : strL ⟨#[48, 46, 49, 51]⟩ = [48, 46, 49, 51] := rfl
  have s5 : strL ⟨#[45, 48, 46, 49, 51]⟩ = [45, 48, 46, 49, 51] := rfl
  have w1 : m_dec_Form (strL ⟨#[49, 46, 53, 101, 45, 51]⟩) = some true := by rw [show strL ⟨#[49, 46, 53, 101, 45, 51]⟩ = [49, 46, 53, 101, 45, 51] from rfl, form_eq _ (by decide), f1]
  have w2 : m_dec_Form (strL ⟨#[49, 46]⟩) = some false := by rw [show strL ⟨#[49, 46]⟩ = [49, 46] from rfl, form_eq _ (by decide), f2]
  have w3 : m_dec_Form (strL ⟨#[46, 53]⟩) = some false := by rw [show strL ⟨#[46, 53]⟩ = [46, 53] from rfl, form_eq _ (by decide), f3]
  have w4 : m_dec_Form (strL ⟨#[49, 101, 49, 48, 49]⟩) = some false := by rw [show strL ⟨#[49, 101, 49, 48, 49]⟩ = [49, 101, 49, 48, 49] from rfl, form_eq _ (by decide), f4]
  have w5 : m_dec_Form (strL ⟨#[]⟩) = some false := by rw [show strL ⟨#[]⟩ = [] from rfl, form_eq _ (by decide), f5]
  unfold m_law4_told
  simp only [s1, s2, s3, s4, s5, a, b, n, c, d, e, f, g, h, w1, w2, w3, w4, w5, Option.getD_some]
  simp [ck]
  exact ⟨by decide, by decide⟩
end Nu
end Go.Proofs
namespace Go.Proofs
open Go.Vc
set_option maxRecDepth 20000
namespace Nu
theorem wrap_mod (x : Int) (k : Nat) (h : k ≤ 1000) (h0 : 0 < k) : ∃ n : Nat, n < k ∧ IntKind.i64.wrap ((((x % (18446744073709551616 : Int)).toNat % k : Nat) : Int)) = (n : Int) := by
  have key : ∀ r : Nat, r < 1000 → IntKind.i64.wrap (r : Int) = (r : Int) := fun r hr => by
    simp only [IntKind.wrap, IntKind.signed, IntKind.bits]; simp; omega
  have := Nat.mod_lt (x % (18446744073709551616 : Int)).toNat h0
  exact ⟨(x % (18446744073709551616 : Int)).toNat % k, this, key _ (by omega)⟩
def formsS (n m k : Nat) (pt e : Bool) (sg : Nat) : List Nat :=
  let s0 := List.take n [49, 50, 51, 52, 53, 54]
  let s1 := if pt = true then s0 ++ [46] ++ List.take m [57, 56, 55, 54, 53, 52] else s0
  if e = true then s1 ++ [101] ++ ([[], [43], [45]] : List (List Nat)).getD sg [] ++ List.take k [48, 48, 49, 50] else s1
def formsB (n m k : Nat) (pt e : Bool) : Bool :=
  let b0 := decide (0 < n)
  let b1 := if pt = true then b0 && decide (0 < m) else b0
  if e = true then b1 && decide (0 < k) && decide (k < 4) else b1
theorem forms_tab : ∀ (n m : Fin 7) (k : Fin 5) (pt e : Bool) (sg : Fin 3), (litF (formsS n.val m.val k.val pt e sg.val)).2.2.1 = formsB n.val m.val k.val pt e := by decide +kernel
theorem forms_len : ∀ (n m : Fin 7) (k : Fin 5) (pt e : Bool) (sg : Fin 3), (formsS n.val m.val k.val pt e sg.val).length ≤ 60 := by decide +kernel
theorem forms_j2 (s : List Nat) (b : Bool) (hs : s.length ≤ 60) (hb : (litF s).2.2.1 = b) : m_law4_DecForms_j2 s b = some true := by
  unfold m_law4_DecForms_j2
  simp only [told_eq, Option.getD_some, Lit_eq s 50 (by omega), form_eq s (by omega), hb]
  refine ck_to rfl (ck_to rfl (ck_to (fun _ => rfl) ?_))
  unfold litD
  cases b with
  | true => rw [if_neg (fun h => h hb), if_neg (by decide)]; rfl
  | false => rw [if_pos (by rw [hb]; decide)]; rfl
theorem len_take (n : Nat) (l : List Nat) : (l.take n).length ≤ l.length := by rw [List.length_take]; omega
theorem DecForms_true (a b c : Int) (pt e : Bool) (sg : Int) : m_law4_DecForms a b c pt e sg = some true := by
  obtain ⟨n, hn, en⟩ := wrap_mod a 7 (by decide) (by decide)
  obtain ⟨m, hm, em⟩ := wrap_mod b 7 (by decide) (by decide)
  obtain ⟨k, hk, ek⟩ := wrap_mod c 5 (by decide) (by decide)
  obtain ⟨g, hg, eg⟩ := wrap_mod sg 3 (by decide) (by decide)
  have T := forms_tab ⟨n, hn⟩ ⟨m, hm⟩ ⟨k, hk⟩ pt e ⟨g, hg⟩
  have L := forms_len ⟨n, hn⟩ ⟨m, hm⟩ ⟨k, hk⟩ pt e ⟨g, hg⟩
  simp only at T L
  have s1 : strL ⟨#[49, 50, 51, 52, 53, 54]⟩ = [49, 50, 51, 52, 53, 54] := rfl
  have s2 : strL ⟨#[57, 56, 55, 54, 53, 52]⟩ = [57, 56, 55, 54, 53, 52] := rfl
  have s3 : strL ⟨#[46]⟩ = [46] := rfl
  have s4 : strL ⟨#[101]⟩ = [101] := rfl
  have s5 : strL ⟨#[48, 48, 49, 50]⟩ = [48, 48, 49, 50] := rfl
  have s6 : strL ⟨#[]⟩ = [] := rfl
  have s7 : strL ⟨#[43]⟩ = [43] := rfl
  have s8 : strL ⟨#[45]⟩ = [45] := rfl
  have dn : decide ((0 : Int) < (n : Int)) = decide (0 < n) := decide_eq_decide.2 (by omega)
  have dm : decide ((0 : Int) < (m : Int)) = decide (0 < m) := decide_eq_decide.2 (by omega)
  have dk : decide ((0 : Int) < (k : Int)) = decide (0 < k) := decide_eq_decide.2 (by omega)
  have dk4 : decide ((k : Int) < 4) = decide (k < 4) := decide_eq_decide.2 (by omega)
  have key : ∀ (s : List Nat) (may : Bool), s.length ≤ 20 → (litF (if e = true then s ++ [101] ++ ([[], [43], [45]] : List (List Nat)).getD g [] ++ List.take k [48, 48, 49, 50] else s)).2.2.1 = (if e = true then may && decide (0 < k) && decide (k < 4) else may) → m_law4_DecForms_j1 e sg c s may = some true := by
    intro s may hs h
    have hl : (([[], [43], [45]] : List (List Nat)).getD g []).length ≤ 1 := by
      rcases g with _ | _ | _ | g
      · decide
      · decide
      · decide
      · omega
    have ht := len_take k [48, 48, 49, 50]
    simp only [List.length_cons, List.length_nil] at ht
    unfold m_law4_DecForms_j1
    simp only [ek, eg, s4, s5, s6, s7, s8, Int.toNat_natCast, dk, dk4]
    by_cases he : e = true
    · simp only [he, if_true] at h ⊢
      have l1 : (s ++ [101]).length ≤ 21 := by rw [List.length_append]; simp; omega
      have l2 : (s ++ [101] ++ ([[], [43], [45]] : List (List Nat)).getD g []).length ≤ 22 := by rw [List.length_append]; omega
      refine ck_to (by simp; omega) (ck_to (by constructor <;> omega) (ck_to (by omega) (ck_to (by simp; omega) (ck_to (by omega) ?_))))
      exact forms_j2 _ _ (by rw [List.length_append]; omega) h
    · rw [if_neg he] at h ⊢
      rw [if_neg he] at h
      exact forms_j2 _ _ (by omega) h
  unfold formsS formsB at T
  unfold m_law4_DecForms
  simp only [en, em, s1, s2, s3, Int.toNat_natCast, dn, dm]
  have t1 := len_take n [49, 50, 51, 52, 53, 54]
  have t2 := len_take m [57, 56, 55, 54, 53, 52]
  simp only [List.length_cons, List.length_nil] at t1 t2
  refine ck_to (by simp; omega) ?_
  by_cases hp : pt = true
  · simp only [hp, if_true] at T ⊢
    have l1 : (List.take n [49, 50, 51, 52, 53, 54] ++ [46]).length ≤ 7 := by rw [List.length_append]; simp only [List.length_cons, List.length_nil]; omega
    refine ck_to (by simp only [List.length_cons, List.length_nil]; omega) (ck_to (by simp; omega) (ck_to (by omega) ?_))
    exact key _ _ (by rw [List.length_append]; omega) T
  · simp only [hp, if_false, Bool.false_eq_true] at T ⊢
    exact key _ _ (by omega) T
end Nu
end Go.Proofs
namespace Go.Proofs
open Go.Vc
set_option maxRecDepth 20000
namespace Nu
end Nu
end Go.Proofs
