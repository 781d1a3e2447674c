import Derived.Test.YtabdejmolnikaaaGreatDoorZS3
set_option linter.unusedVariables false
set_option linter.unusedSimpArgs false
namespace Go.Proofs
open Go.Vc
set_option maxRecDepth 20000
namespace Nu
def iS : ByteArray := ⟨⟨48 :: 48 :: 48 :: 48 :: 48 :: 48 :: 48 :: 48 :: 48 :: 48 :: 48 :: 48 :: 48 :: 48 :: 48 :: 48 :: 48 :: 48 :: 48 :: 48 :: []⟩⟩
theorem aH9 : (⟨⟨48 :: 48 :: 48 :: 48 :: 48 :: 48 :: 48 :: 48 :: 48 :: 48 :: 48 :: 48 :: 48 :: 48 :: 48 :: 48 :: 48 :: 48 :: 48 :: 48 :: []⟩⟩ : ByteArray) = iS := rfl
attribute [go_sem] aH9
noncomputable def gF (zeros_1 : Int) (p_2 : Int) (s_10 : (List Nat)) : Option (Bool) :=
 ck (0 ≤ (IntKind.i64.wrap (((((zeros_1 % (18446744073709551616 : Int)).toNat) % (21 : Nat)) : Nat) : Int)) ∧ (IntKind.i64.wrap (((((zeros_1 % (18446744073709551616 : Int)).toNat) % (21 : Nat)) : Nat) : Int)) ≤ ((((aK iS).length) : Nat) : Int)) (ck (I64 (Int.tdiv (IntKind.i64.wrap (((((zeros_1 % (18446744073709551616 : Int)).toNat) % (21 : Nat)) : Nat) : Int)) (10 : Int))) (ck (I64 (Int.tdiv (IntKind.i64.wrap (((((zeros_1 % (18446744073709551616 : Int)).toNat) % (21 : Nat)) : Nat) : Int)) (10 : Int))) (ck (I64 ((Int.tdiv (IntKind.i64.wrap (((((zeros_1 % (18446744073709551616 : Int)).toNat) % (21 : Nat)) : Nat) : Int)) (10 : Int)) + (1 : Int))) (ck (0 ≤ (Int.tdiv (IntKind.i64.wrap (((((zeros_1 % (18446744073709551616 : Int)).toNat) % (21 : Nat)) : Nat) : Int)) (10 : Int)) ∧ (Int.tdiv (IntKind.i64.wrap (((((zeros_1 % (18446744073709551616 : Int)).toNat) % (21 : Nat)) : Nat) : Int)) (10 : Int)) ≤ ((Int.tdiv (IntKind.i64.wrap (((((zeros_1 % (18446744073709551616 : Int)).toNat) % (21 : Nat)) : Nat) : Int)) (10 : Int)) + (1 : Int)) ∧ ((Int.tdiv (IntKind.i64.wrap (((((zeros_1 % (18446744073709551616 : Int)).toNat) % (21 : Nat)) : Nat) : Int)) (10 : Int)) + (1 : Int)) ≤ ((((aK ⟨#[48, 49, 50, 51, 52, 53, 54, 55, 56, 57]⟩).length) : Nat) : Int)) (ck (I64 ((Int.tmod (IntKind.i64.wrap (((((zeros_1 % (18446744073709551616 : Int)).toNat) % (21 : Nat)) : Nat) : Int)) (10 : Int)) + (1 : Int))) (ck (0 ≤ (Int.tmod (IntKind.i64.wrap (((((zeros_1 % (18446744073709551616 : Int)).toNat) % (21 : Nat)) : Nat) : Int)) (10 : Int)) ∧ (Int.tmod (IntKind.i64.wrap (((((zeros_1 % (18446744073709551616 : Int)).toNat) % (21 : Nat)) : Nat) : Int)) (10 : Int)) ≤ ((Int.tmod (IntKind.i64.wrap (((((zeros_1 % (18446744073709551616 : Int)).toNat) % (21 : Nat)) : Nat) : Int)) (10 : Int)) + (1 : Int)) ∧ ((Int.tmod (IntKind.i64.wrap (((((zeros_1 % (18446744073709551616 : Int)).toNat) % (21 : Nat)) : Nat) : Int)) (10 : Int)) + (1 : Int)) ≤ ((((aK ⟨#[48, 49, 50, 51, 52, 53, 54, 55, 56, 57]⟩).length) : Nat) : Int)) (ck (((List.drop ((Int.tdiv (IntKind.i64.wrap (((((zeros_1 % (18446744073709551616 : Int)).toNat) % (21 : Nat)) : Nat) : Int)) (10 : Int)).toNat) (List.take (((Int.tdiv (IntKind.i64.wrap (((((zeros_1 % (18446744073709551616 : Int)).toNat) % (21 : Nat)) : Nat) : Int)) (10 : Int)) + (1 : Int)).toNat) (aK ⟨#[48, 49, 50, 51, 52, 53, 54, 55, 56, 57]⟩))).length) + ((List.drop ((Int.tmod (IntKind.i64.wrap (((((zeros_1 % (18446744073709551616 : Int)).toNat) % (21 : Nat)) : Nat) : Int)) (10 : Int)).toNat) (List.take (((Int.tmod (IntKind.i64.wrap (((((zeros_1 % (18446744073709551616 : Int)).toNat) % (21 : Nat)) : Nat) : Int)) (10 : Int)) + (1 : Int)).toNat) (aK ⟨#[48, 49, 50, 51, 52, 53, 54, 55, 56, 57]⟩))).length) ≤ 9223372036854775807) ((bN s_10 ((1 : Int) + (IntKind.i64.wrap (((((p_2 % (18446744073709551616 : Int)).toNat) % (100 : Nat)) : Nat) : Int)))).bind (fun v_12 => ck ((s_10.length) + ((aK ⟨#[46]⟩).length) ≤ 9223372036854775807) (ck (((s_10 ++ (aK ⟨#[46]⟩)).length) + ((List.take ((IntKind.i64.wrap (((((zeros_1 % (18446744073709551616 : Int)).toNat) % (21 : Nat)) : Nat) : Int)).toNat) (aK iS)).length) ≤ 9223372036854775807) (ck ((((s_10 ++ (aK ⟨#[46]⟩)) ++ (List.take ((IntKind.i64.wrap (((((zeros_1 % (18446744073709551616 : Int)).toNat) % (21 : Nat)) : Nat) : Int)).toNat) (aK iS))).length) + ((aK ⟨#[48]⟩).length) ≤ 9223372036854775807) ((bN (((s_10 ++ (aK ⟨#[46]⟩)) ++ (List.take ((IntKind.i64.wrap (((((zeros_1 % (18446744073709551616 : Int)).toNat) % (21 : Nat)) : Nat) : Int)).toNat) (aK iS))) ++ (aK ⟨#[48]⟩)) ((1 : Int) + (IntKind.i64.wrap (((((p_2 % (18446744073709551616 : Int)).toNat) % (100 : Nat)) : Nat) : Int)))).bind (fun v_14 => ck ((s_10.length) + ((List.take ((IntKind.i64.wrap (((((zeros_1 % (18446744073709551616 : Int)).toNat) % (21 : Nat)) : Nat) : Int)).toNat) (aK iS)).length) ≤ 9223372036854775807) (ck (((s_10 ++ (List.take ((IntKind.i64.wrap (((((zeros_1 % (18446744073709551616 : Int)).toNat) % (21 : Nat)) : Nat) : Int)).toNat) (aK iS))).length) + ((aK ⟨#[101, 45]⟩).length) ≤ 9223372036854775807) (ck ((((s_10 ++ (List.take ((IntKind.i64.wrap (((((zeros_1 % (18446744073709551616 : Int)).toNat) % (21 : Nat)) : Nat) : Int)).toNat) (aK iS))) ++ (aK ⟨#[101, 45]⟩)).length) + (((List.drop ((Int.tdiv (IntKind.i64.wrap (((((zeros_1 % (18446744073709551616 : Int)).toNat) % (21 : Nat)) : Nat) : Int)) (10 : Int)).toNat) (List.take (((Int.tdiv (IntKind.i64.wrap (((((zeros_1 % (18446744073709551616 : Int)).toNat) % (21 : Nat)) : Nat) : Int)) (10 : Int)) + (1 : Int)).toNat) (aK ⟨#[48, 49, 50, 51, 52, 53, 54, 55, 56, 57]⟩))) ++ (List.drop ((Int.tmod (IntKind.i64.wrap (((((zeros_1 % (18446744073709551616 : Int)).toNat) % (21 : Nat)) : Nat) : Int)) (10 : Int)).toNat) (List.take (((Int.tmod (IntKind.i64.wrap (((((zeros_1 % (18446744073709551616 : Int)).toNat) % (21 : Nat)) : Nat) : Int)) (10 : Int)) + (1 : Int)).toNat) (aK ⟨#[48, 49, 50, 51, 52, 53, 54, 55, 56, 57]⟩)))).length) ≤ 9223372036854775807) ((bN (((s_10 ++ (List.take ((IntKind.i64.wrap (((((zeros_1 % (18446744073709551616 : Int)).toNat) % (21 : Nat)) : Nat) : Int)).toNat) (aK iS))) ++ (aK ⟨#[101, 45]⟩)) ++ ((List.drop ((Int.tdiv (IntKind.i64.wrap (((((zeros_1 % (18446744073709551616 : Int)).toNat) % (21 : Nat)) : Nat) : Int)) (10 : Int)).toNat) (List.take (((Int.tdiv (IntKind.i64.wrap (((((zeros_1 % (18446744073709551616 : Int)).toNat) % (21 : Nat)) : Nat) : Int)) (10 : Int)) + (1 : Int)).toNat) (aK ⟨#[48, 49, 50, 51, 52, 53, 54, 55, 56, 57]⟩))) ++ (List.drop ((Int.tmod (IntKind.i64.wrap (((((zeros_1 % (18446744073709551616 : Int)).toNat) % (21 : Nat)) : Nat) : Int)) (10 : Int)).toNat) (List.take (((Int.tmod (IntKind.i64.wrap (((((zeros_1 % (18446744073709551616 : Int)).toNat) % (21 : Nat)) : Nat) : Int)) (10 : Int)) + (1 : Int)).toNat) (aK ⟨#[48, 49, 50, 51, 52, 53, 54, 55, 56, 57]⟩))))) ((1 : Int) + (IntKind.i64.wrap (((((p_2 % (18446744073709551616 : Int)).toNat) % (100 : Nat)) : Nat) : Int)))).bind (fun v_16 => ck (((aK ⟨#[48]⟩).length) + (s_10.length) ≤ 9223372036854775807) ((bN ((aK ⟨#[48]⟩) ++ s_10) ((1 : Int) + (IntKind.i64.wrap (((((p_2 % (18446744073709551616 : Int)).toNat) % (100 : Nat)) : Nat) : Int)))).bind (fun v_18 => (nY).bind (fun v_22 => ck (((v_22 = true) → (I64 (((v_12.2).1) + ((v_14.2).1))))) (ck (((v_22 = true) → (I64 ((((v_12.2).1) + ((v_14.2).1)) + ((v_16.2).1))))) (ck (((v_22 = true) → (I64 (((((v_12.2).1) + ((v_14.2).1)) + ((v_16.2).1)) + ((v_18.2).1))))) (ck ((((v_22 = true) ∧ ((((((v_12.2).1) + ((v_14.2).1)) + ((v_16.2).1)) + ((v_18.2).1)) = (0 : Int))) → (((dW (v_12.1) (v_14.1)).isSome = true)))) (ck (((((v_22 = true) ∧ ((((((v_12.2).1) + ((v_14.2).1)) + ((v_16.2).1)) + ((v_18.2).1)) = (0 : Int))) ∧ (((dW (v_12.1) (v_14.1)).getD false) = true)) → (((dW (v_12.1) (v_16.1)).isSome = true)))) (ck ((((((v_22 = true) ∧ ((((((v_12.2).1) + ((v_14.2).1)) + ((v_16.2).1)) + ((v_18.2).1)) = (0 : Int))) ∧ (((dW (v_12.1) (v_14.1)).getD false) = true)) ∧ (((dW (v_12.1) (v_16.1)).getD false) = true)) → (((dW (v_12.1) (v_18.1)).isSome = true)))) (some ((((v_22 && (decide ((((((v_12.2).1) + ((v_14.2).1)) + ((v_16.2).1)) + ((v_18.2).1)) = (0 : Int)))) && ((dW (v_12.1) (v_14.1)).getD false)) && ((dW (v_12.1) (v_16.1)).getD false)) && ((dW (v_12.1) (v_18.1)).getD false))))))))))))))))))))))))))))
noncomputable def dE (u_23 : Nat) (s_24 : (List Nat)) (i_25 : Int) : Option ((Nat × (List Nat) × Int) ⊕ (((List Nat)))) :=
 if i_25 < (9 : Int) then ck (0 ≤ (((u_23 % (10 : Nat)) : Nat) : Int) ∧ (((u_23 % (10 : Nat)) : Nat) : Int) ≤ (((((u_23 % (10 : Nat)) + (1 : Nat)) % 18446744073709551616) : Nat) : Int) ∧ (((((u_23 % (10 : Nat)) + (1 : Nat)) % 18446744073709551616) : Nat) : Int) ≤ ((((aK ⟨#[48, 49, 50, 51, 52, 53, 54, 55, 56, 57]⟩).length) : Nat) : Int)) (ck (((List.drop (u_23 % (10 : Nat)) (List.take (((u_23 % (10 : Nat)) + (1 : Nat)) % 18446744073709551616) (aK ⟨#[48, 49, 50, 51, 52, 53, 54, 55, 56, 57]⟩))).length) + (s_24.length) ≤ 9223372036854775807) (ck (I64 (i_25 + (1 : Int))) (some (.inl ((u_23 / (10 : Nat)), ((List.drop (u_23 % (10 : Nat)) (List.take (((u_23 % (10 : Nat)) + (1 : Nat)) % 18446744073709551616) (aK ⟨#[48, 49, 50, 51, 52, 53, 54, 55, 56, 57]⟩))) ++ s_24), (i_25 + (1 : Int))))))) else some (.inr s_24)
noncomputable def mJ (n_0 : Int) (zeros_1 : Int) (p_2 : Int) : Option Bool :=
 ck (I64 ((1 : Int) + (IntKind.i64.wrap (((((p_2 % (18446744073709551616 : Int)).toNat) % (100 : Nat)) : Nat) : Int)))) ((dG (fun d : Nat × (List Nat) × Int => dE d.1 d.2.1 d.2.2) ((((n_0 % (18446744073709551616 : Int)).toNat) % (1000000000 : Nat)), (aK ⟨#[]⟩), (0 : Int))).bind (fun e => gF zeros_1 p_2 e))
def yP : PlR := ⟨[(0, .A [0, 1, 2]), (1, .A [7, 8, 9]), (2, .A [7, 8, 9, 10]), (3, .A [7, 8, 9, 10, 11]), (4, .A [7, 8, 9, 10, 11, 35]), (5, .A [7, 8, 9, 10, 11]), (6, .A [7, 8, 9, 10, 11]), (7, .A [7, 8, 9, 10, 11]), (8, .A [8, 9, 10, 12]), (9, .A [9, 10, 12, 13]), (10, .B [9, 10, 12, 13, 14, 15]), (11, .B [9, 10, 12, 13, 14, 15, 16, 17]), (12, .B [9, 10, 14, 15, 16, 17, 18, 19]), (13, .B [14, 15, 16, 17, 18, 19, 20, 21]), (14, .A [6])], [(6, 11)]⟩
def pA : Ty := .pair (.i .i64) (.pair (.i .i64) (.pair (.i .i64) .unit))
noncomputable def yQ : aM := mSpec pA (.one .bool) (fun x => mJ x.1 x.2.1 x.2.2.1)
noncomputable def pB : List (FuncId × aM) := [(18, sK), (19, pX), (25, sH)]
theorem aHa : bU Tryz.prog GL pB := .cons aJS (by kernel_rfl) (.cons aGC (by kernel_rfl) (.cons aJQ (by kernel_rfl) (.nil)))
theorem aCB : gam pB 18 = some sK := rfl
theorem aCC : gam pB 19 = some pX := rfl
theorem aCD : gam pB 25 = some sH := rfl
attribute [go_sem] pA yP aCB aCC aCD
set_option maxHeartbeats 4000000 in
theorem aEO : FOK Tryz.prog GL 7 yQ := by
 refine cB (bL aHa) mix Tryz.func7 rfl (by kernel_rfl) (by decide) yP fun w0 S x Θ hw h hF => ?_
 obtain ⟨(n_0 : Int), (zeros_1 : Int), (p_2 : Int), u⟩ := x
 simp only [cA, go_sem]
 replace h : sat (mJ n_0 zeros_1 p_2) _ := h
 unfold mJ at h
 refine aH h fun g0 h => ?_
 refine cW hF (D := (List Nat)) (fun d => sat (gF zeros_1 p_2 d) Θ) [8, 9] (fun d => [(10, .val .str d)]) (fun d => []) ?_ ?_
 ·simp only [go_sem]
  refine dI hF (D := Nat × (List Nat) × Int) [8, 9] (fun d => [(7, .val (.u .u64) d.1), (10, .val .str d.2.1), (11, .val (.i .i64) d.2.2)]) (fun d => []) h rfl (by simp only [go_sem]) ?_
  rintro ⟨u_23, s_24, i_25⟩ A4 T4 hA4 hE4 h
  simp only [go_sem]
  replace h : sat (dE u_23 s_24 i_25) _ := h
  unfold dE at h
  refine jB h (fun hc h => ?_) fun hc h => ?_
  ·refine aH h fun g0 h => aH h fun g1 h => ?_
   refine aH h fun g0 h => ?_
   replace h := hA4 _ (aD h)
   exact aX _ h rfl (by simp only [go_sem])
  ·replace h := hE4 _ (aD h)
   try dsimp only at h
   exact aX (s_24) h rfl (by simp only [go_sem])
 ·rintro s_10 h
  simp only [go_sem]
  replace h : sat (gF zeros_1 p_2 s_10) _ := h
  unfold gF at h
  refine aH h fun g0 h => ?_
  refine aH h fun g0 h => aH h fun g1 h => aH h fun g2 h => aH h fun g3 h => aH h fun g4 h => aH h fun g5 h => aH h fun g6 h => ?_
  obtain ⟨v_12, hv, h⟩ := wC h
  try simp only [hv, go_sem]
  refine aH h fun g0 h => ?_
  refine aH h fun g0 h => ?_
  refine aH h fun g0 h => ?_
  obtain ⟨v_14, hv, h⟩ := wC h
  try simp only [hv, go_sem]
  refine aH h fun g0 h => ?_
  refine aH h fun g0 h => ?_
  refine aH h fun g0 h => ?_
  obtain ⟨v_16, hv, h⟩ := wC h
  try simp only [hv, go_sem]
  refine aH h fun g0 h => ?_
  obtain ⟨v_18, hv, h⟩ := wC h
  try simp only [hv, go_sem]
  obtain ⟨v_22, hv, h⟩ := wC h
  try simp only [hv, go_sem]
  refine aH h fun g0 h => aH h fun g1 h => aH h fun g2 h => aH h fun g3 h => aH h fun g4 h => aH h fun g5 h => ?_
  exact aS hF [.tmp 6] rfl rfl rfl (aD h) (by simp only [bA, go_sem])
attribute [go_sem] yQ
end Nu
end Go.Proofs
namespace Go.Proofs
open Go.Vc
set_option maxRecDepth 20000
namespace Nu
theorem aNP (x : Int) (k : Nat) (h : k ≤ 1000) (h0 : 0 < k) : ∃ n : Nat, n < k ∧ IntKind.i64.wrap ((((x % (18446744073709551616 : Int)).toNat % k : Nat) : Int)) = (n : Int) := by
 have key : ∀ r : Nat, r < 1000 → IntKind.i64.wrap (r : Int) = (r : Int) := fun r hr => by
  simp only [IntKind.wrap, IntKind.signed, IntKind.bits]; simp; omega
 have := Nat.mod_lt (x % (18446744073709551616 : Int)).toNat h0
 exact ⟨(x % (18446744073709551616 : Int)).toNat % k, this, key _ (by omega)⟩
theorem aQB {M K : Nat} {e : Int} (h : M < 2 ^ K) : (gE M e).2.1.length ≤ K := by
 rw [aDi]
 refine jN.2 (Nat.lt_of_le_of_lt (Nat.div_le_self _ _) (Nat.lt_of_lt_of_le h ?_))
 rw [lK]
 exact p2m _ _ (by omega)
theorem aIL (s : List Nat) (p : Nat) (up : Bool) (hp : p ≤ 2000) : (rH s p up).2.1.length ≤ 4611686018427387904 := by
 unfold rH
 split
 ·exact Nat.zero_le _
 ·unfold aLu
  exact Nat.le_trans (aQB aQg) (by omega)
theorem aRP (s : List Nat) (p : Int) : (wR s p).1.1.2.1.length ≤ 4611686018427387904 ∧ (wR s p).1.2.1.2.1.length ≤ 4611686018427387904 := by
 unfold wR
 split
 ·exact ⟨Nat.zero_le _, Nat.zero_le _⟩
 ·split
  ·exact ⟨Nat.zero_le _, Nat.zero_le _⟩
  ·exact ⟨aIL s _ _ (by omega), aIL s _ _ (by omega)⟩
theorem aMD : ∀ n : Fin 10, List.drop n.val (List.take (n.val + 1) (aK ⟨#[48, 49, 50, 51, 52, 53, 54, 55, 56, 57]⟩)) = [48 + n.val] := by decide +kernel
theorem aME : ∀ n : Fin 21, List.take n.val (aK iS) = List.replicate n.val 48 := by decide +kernel
theorem aMF : (aK iS).length = 20 := by decide +kernel
theorem aJ5 {n : Nat} (h : n < 10) : ∀ c ∈ [48 + n], eQ c = true := by
 intro c hc
 rw [List.mem_singleton.1 hc]
 simp only [eQ, decide_eq_true_iff]; omega
theorem aRQ (u : Nat) (s : List Nat) (i : Int) (hi : 0 ≤ i ∧ i < 9) (hs : s.length ≤ 100) : dE u s i = some (.inl (u / 10, [48 + u % 10] ++ s, i + 1)) := by
 have hm := Nat.mod_lt u (show 0 < 10 by decide)
 have hc := aMD ⟨u % 10, hm⟩
 simp only at hc
 have hl : (aK ⟨#[48, 49, 50, 51, 52, 53, 54, 55, 56, 57]⟩).length = 10 := rfl
 unfold dE
 rw [Nat.mod_eq_of_lt (show u % 10 + 1 < 18446744073709551616 by omega), hc, hl, if_pos hi.2]
 exact aB (by omega) (aB (by simp; omega) (aB (by constructor <;> omega) rfl))
theorem aRR (z p : Int) (k b : Nat) (a : List Nat) (ek : IntKind.i64.wrap ((((z % (18446744073709551616 : Int)).toNat % 21 : Nat) : Int)) = (k : Int)) (hk : k < 21) (eb : IntKind.i64.wrap ((((p % (18446744073709551616 : Int)).toNat % 100 : Nat) : Int)) = (b : Int)) (hb : b < 100) (ha : ∀ c ∈ a, eQ c = true) (hl : a.length = 9) : gF z p a = some true := by
 have t1 : Int.tdiv (k : Int) 10 = ((k / 10 : Nat) : Int) := rfl
 have t2 : Int.tmod (k : Int) 10 = ((k % 10 : Nat) : Int) := rfl
 have t3 : (((k / 10 : Nat) : Int) + 1).toNat = k / 10 + 1 := by omega
 have t4 : (((k % 10 : Nat) : Int) + 1).toNat = k % 10 + 1 := by omega
 have d1 := aMD ⟨k / 10, by omega⟩
 have d2 := aMD ⟨k % 10, by omega⟩
 have z0 := aME ⟨k, hk⟩
 simp only at d1 d2 z0
 have s46 : aK ⟨#[46]⟩ = [46] := rfl
 have s48 : aK ⟨#[48]⟩ = [48] := rfl
 have se : aK ⟨#[101, 45]⟩ = [101, 45] := rfl
 have hg : (aK ⟨#[48, 49, 50, 51, 52, 53, 54, 55, 56, 57]⟩).length = 10 := rfl
 have e1 : a ++ [46] ++ List.replicate k 48 ++ [48] = a ++ 46 :: List.replicate (k + 1) 48 := by rw [List.replicate_succ']; simp
 have e2 : a ++ List.replicate k 48 ++ [101, 45] ++ ([48 + k / 10] ++ [48 + k % 10]) = a ++ List.replicate k 48 ++ 101 :: 45 :: ([48 + k / 10] ++ [48 + k % 10]) := by simp
 have hc2 : ∀ x ∈ [48 + k / 10] ++ [48 + k % 10], eQ x = true := aE3 (aJ5 (by omega)) (aJ5 (by omega))
 have hn2 : iR ([48 + k / 10] ++ [48 + k % 10]) = k := by simp [iR]; omega
 have q0 := aG4 a (1 + (b : Int)) (by omega)
 have q1 : bN (a ++ [46] ++ List.replicate k 48 ++ [48]) (1 + (b : Int)) = some (wR a (1 + (b : Int))) := by
  rw [aG4 _ _ (by simp; omega), e1, aRO ha (by omega) (by omega) (by omega) (by omega) (by omega) (by omega)]
 have q2 : bN (a ++ List.replicate k 48 ++ [101, 45] ++ ([48 + k / 10] ++ [48 + k % 10])) (1 + (b : Int)) = some (wR a (1 + (b : Int))) := by
  rw [aG4 _ _ (by simp; omega), e2, aS7 ha (by omega) (by omega) (by omega) hc2 rfl hn2 (by omega) (by omega)]
 obtain ⟨f0, f1⟩ := aS8 (p := 1 + (b : Int)) ha (by omega) (by omega) (by omega) (by omega)
 have q3 : bN ([48] ++ a) (1 + (b : Int)) = some (wR a (1 + (b : Int))) := by
  rw [aG4 _ _ (by simp; omega), f0]
 obtain ⟨l1, l2⟩ := aRP a (1 + (b : Int))
 have h5 := aLC _ l1 l2
 unfold gF
 simp only [ek, eb, t1, t2, t3, t4, Int.toNat_natCast, d1, d2, z0, s46, s48, se, hg, aMF]
 refine aB (by omega) (aB (by constructor <;> omega) (aB (by constructor <;> omega) (aB (by constructor <;> omega) (aB (by omega) (aB (by constructor <;> omega) (aB (by omega) (aB (by simp) (bZ q0 ?_))))))))
 refine aB (by simp; omega) (aB (by simp; omega) (aB (by simp; omega) (bZ q1 ?_)))
 refine aB (by simp; omega) (aB (by simp; omega) (aB (by simp; omega) (bZ q2 ?_)))
 refine aB (by simp; omega) (bZ q3 (bZ aRM ?_))
 simp only [f1, h5, Option.getD_some, Option.isSome_some]
 exact aB (fun _ => by decide) (aB (fun _ => by decide) (aB (fun _ => by decide) (aB (fun _ => trivial) (aB (fun _ => trivial) (aB (fun _ => trivial) rfl)))))
theorem aJ6 (n z p : Int) : mJ n z p = some true := by
 obtain ⟨k, hk, ek⟩ := aNP z 21 (by decide) (by decide)
 obtain ⟨b, hb, eb⟩ := aNP p 100 (by decide) (by decide)
 have key := gI (step := fun d : Nat × (List Nat) × Int => dE d.1 d.2.1 d.2.2) (I := fun d => 0 ≤ d.2.2 ∧ d.2.2 ≤ 9 ∧ (d.2.1.length : Int) = d.2.2 ∧ ∀ c ∈ d.2.1, eQ c = true) (fun d => (9 - d.2.2).toNat) (fun e => e.length = 9 ∧ ∀ c ∈ e, eQ c = true) ?_ (((n % (18446744073709551616 : Int)).toNat % 1000000000), aK ⟨#[]⟩, 0) ⟨by simp, by simp, by simp [aK], by simp [aK]⟩
 ·obtain ⟨e, h1, h2, h3⟩ := key
  unfold mJ
  rw [eb]
  exact aB (by constructor <;> omega) (bZ h1 (aRR z p k b e ek hk eb hb h3 h2))
 ·rintro ⟨u, s, i⟩ ⟨i0, i1, i2, i3⟩
  have i0 : 0 ≤ i := i0
  have i1 : i ≤ 9 := i1
  have i2 : (s.length : Int) = i := i2
  show (∃ d', dE u s i = _ ∧ _) ∨ ∃ e, dE u s i = _ ∧ _
  by_cases hi : i < 9
  ·left
   refine ⟨_, aRQ u s i ⟨i0, hi⟩ (by omega), ⟨by simp only; omega, by simp only; omega, by simp; omega, aE3 (aJ5 (Nat.mod_lt _ (by decide))) i3⟩, by simp only; omega⟩
  ·right
   refine ⟨s, ?_, by omega, i3⟩
   unfold dE
   rw [if_neg hi]
end Nu
end Go.Proofs
