import Derived.Test.YtabdejmolnikaaaGreatDoorZS3
set_option linter.unusedVariables false
set_option linter.unusedSimpArgs false
namespace Go.Proofs
open Go.Vc
set_option maxRecDepth 20000
namespace Nu
noncomputable def nY (n_0 : Int) (e_1 : Int) (m_3 : Nat) : Option (((Bool × ((List Nat) × (Int × Unit))) × (Int × Unit))) :=
 ck ((pSz ([m_3] : List Nat))) ((bJ (decide (n_0 < (0 : Int))) (lQ ([m_3] : List Nat)) e_1).bind (fun v_5 => some ((v_5.1), ((v_5.2).1), ())))
noncomputable def rL (n_0 : Int) (e_1 : Int) : Option ((Bool × ((List Nat) × (Int × Unit))) × (Int × Unit)) :=
 if n_0 < (0 : Int) then nY n_0 e_1 (aHW .u64 ((n_0 % (18446744073709551616 : Int)).toNat)) else nY n_0 e_1 ((n_0 % (18446744073709551616 : Int)).toNat)
def aHT : PlR := ⟨[(0, .B [0, 1, 4]), (1, .A [0, 1, 4, 6]), (2, .A [0, 1, 4, 6, 10]), (3, .A [0, 1, 4, 6]), (4, .B [4, 5])], [(5, 7)]⟩
def aJz : Ty := .pair (.i .i64) (.pair (.i .i64) .unit)
noncomputable def aAd : aL := mSpec aJz (.tup (.pair (.pair .bool (.pair (.sl (.u .u64)) (.pair (.i .i64) .unit))) (.pair (.i .i64) .unit))) (fun x => rL x.1 x.2.1)
noncomputable def aD5 : List (FuncId × aL) := [(54, iY), (85, pB)]
theorem aPn : bW Tryz.prog GL aD5 := .cons wA (by kernel_rfl) (.cons aEx (by kernel_rfl) (.nil))
theorem aKR : gam aD5 54 = some iY := rfl
theorem aKS : gam aD5 85 = some pB := rfl
attribute [go_sem] aJz aHT aKR aKS
set_option maxHeartbeats 4000000 in
theorem aNk : FOK Tryz.prog GL 33 aAd := by
 refine cG (bI aPn) mix Tryz.func33 rfl (by kernel_rfl) (by decide) aHT fun w0 S x Θ hw h hF => ?_
 obtain ⟨(n_0 : Int), (e_1 : Int), u⟩ := x
 simp only [cF, go_sem]
 replace h : sat (rL n_0 e_1) _ := h
 unfold rL at h
 refine cP hF (D := Nat) (fun d => sat (nY n_0 e_1 d) Θ) [0, 1] (fun d => [(4, .ptr 0 []), (6, .val (.u .u64) d)]) (fun d => [.inr (.box 3 (.val (.pair .bool (.pair (.sl (.u .u64)) (.pair (.i .i64) .unit))) (false, ([] : List Nat), (0 : Int), ())))]) ?_ ?_
 ·simp only [go_sem]
  refine gV h (fun hc h => ?_) fun hc h => ?_
  ·exact aY ((aHW .u64 ((n_0 % (18446744073709551616 : Int)).toNat))) h rfl (by simp only [go_sem])
  ·exact aY (((n_0 % (18446744073709551616 : Int)).toNat)) h rfl (by simp only [go_sem])
 ·rintro m_3 h
  simp only [go_sem]
  replace h : sat (nY n_0 e_1 m_3) _ := h
  unfold nY at h
  obtain ⟨g0, h⟩ := aI h
  repeat (refine ⟨by omega, ?_⟩)
  obtain ⟨v_5, hv, h⟩ := sB h
  try simp only [hv, go_sem]
  exact aS hF [.cell 4 25, .tmp 5] rfl rfl rfl (aC h) (by simp only [bA, go_sem])
attribute [go_sem] aAd
noncomputable def lU (a_0 : (Bool × ((List Nat) × (Int × Unit)))) (b_1 : (Bool × ((List Nat) × (Int × Unit)))) : Option ((Bool × ((List Nat) × (Int × Unit))) ⊕ (Int × Unit)) :=
 ck ((aCO ((a_0.2).1) ((b_1.2).1))) (ck (I64 ((((a_0.2).2).1) + (((b_1.2).2).1))) (((oU ((a_0.1) != (b_1.1)) (aZ ((a_0.2).1) ((b_1.2).1)) ((((a_0.2).2).1) + (((b_1.2).2).1)))).bind (fun e => match e with | .inl r_7 => some (.inl r_7) | .inr p_8 => some (.inr p_8))))
noncomputable def kQ : lG where
 D := (Bool × ((List Nat) × (Int × Unit))) × (Bool × ((List Nat) × (Int × Unit))) × ((Bool × ((List Nat) × (Int × Unit))) ⊕ (Int × Unit))
 av := fun d => [.val (.pair .bool (.pair (.sl (.u .u64)) (.pair (.i .i64) .unit))) d.1, .val (.pair .bool (.pair (.sl (.u .u64)) (.pair (.i .i64) .unit))) d.2.1]
 hp := fun d => []
 m := 0
 pre := fun d => lU d.1 d.2.1 = some d.2.2
 out := fun d => match d.2.2 with | .inl r => .ret (.val (.pair .bool (.pair (.sl (.u .u64)) (.pair (.i .i64) .unit))) r) [] | .inr p => .pan ⟨162, (.pair (.i .i64) .unit), p⟩ []
noncomputable def aAe : List (FuncId × aL) := [(63, dS)]
theorem aDr : bW Tryz.prog GL aAe := .cons nQ (by kernel_rfl) (.nil)
theorem aFA : gam aAe 63 = some dS := rfl
attribute [go_sem] aFA
set_option maxHeartbeats 4000000 in
theorem rU : GOK Tryz.prog GL 87 kQ := by
 refine oF (bI aDr) Tryz.func87 rfl (by kernel_rfl) (fun _ => Nat.le_of_ble_eq_true rfl) fun c0 w0 d hw1 hw2 h hn => ?_
 have hF : jB ⟨Tryz.prog, EM aAe, GM kQ c0 d, w0, Tryz.f87.ntmps, []⟩ := ⟨bI aDr, mix⟩
 obtain ⟨(a_0 : (Bool × ((List Nat) × (Int × Unit)))), (b_1 : (Bool × ((List Nat) × (Int × Unit)))), r⟩ := d
 replace h : lU a_0 b_1 = some r := h
 have hw1 : AV.wfL [.val (.pair .bool (.pair (.sl (.u .u64)) (.pair (.i .i64) .unit))) a_0, .val (.pair .bool (.pair (.sl (.u .u64)) (.pair (.i .i64) .unit))) b_1] := hw1
 simp only [AV.wfL, AV.wfV, Ty.wf, mJ] at hw1
 show Tri _ _ _ [(0, .val (.pair .bool (.pair (.sl (.u .u64)) (.pair (.i .i64) .unit))) a_0), (1, .val (.pair .bool (.pair (.sl (.u .u64)) (.pair (.i .i64) .unit))) b_1)] []
 unfold lU at h
 refine aD (bO hF [2, 3, 4] ?_)
 simp only [go_sem]
 obtain ⟨g0, h⟩ := aH h
 obtain ⟨g1, h⟩ := aH h
 try simp only [I64, I32] at g1
 obtain ⟨e, he1, h⟩ := bind_some h
 rcases e with r_7 | p_8
 ·try dsimp only at h
  refine aF (aD (aCI hF (bY (l := [(88, ⟨nA, [], (((a_0.1) != (b_1.1)), (aZ ((a_0.2).1) ((b_1.2).1)), ((((a_0.2).2).1) + (((b_1.2).2).1)), .inl r_7)⟩)]) (.cons vZ (by kernel_rfl) (.nil))) 15 (by decide) [4] [] ?_))
  simp only [go_sem]
  repeat (refine ⟨by first | with_reducible assumption | omega | (intros; first | assumption | omega) | (simp only [go_sem] at *; first | assumption | omega) | decide, ?_⟩)
  simp only [aQc, go_sem]
  repeat (refine ⟨by first | with_reducible assumption | omega | (intros; first | assumption | omega) | (simp only [go_sem] at *; first | assumption | omega) | decide, ?_⟩)
  obtain rfl := Option.some.inj h
  refine aF (cW (sA hF [.cell 4 25] [] rfl rfl rfl rfl rfl rfl rfl rfl rfl ?_))
  (try simp only [bA, xQ, wO, fO, lN, AV.isAgg, go_sem]) <;> first | trivial | rfl | (simp; done)
 ·try dsimp only at h
  refine aF (aD (aCI hF (bY (l := [(88, ⟨nA, [], (((a_0.1) != (b_1.1)), (aZ ((a_0.2).1) ((b_1.2).1)), ((((a_0.2).2).1) + (((b_1.2).2).1)), .inr p_8)⟩)]) (.cons vZ (by kernel_rfl) (.nil))) 15 (by decide) [4] [] ?_))
  simp only [go_sem]
  repeat (refine ⟨by first | with_reducible assumption | omega | (intros; first | assumption | omega) | (simp only [go_sem] at *; first | assumption | omega) | decide, ?_⟩)
  simp only [aQc, go_sem]
  repeat (refine ⟨by first | with_reducible assumption | omega | (intros; first | assumption | omega) | (simp only [go_sem] at *; first | assumption | omega) | decide, ?_⟩)
  obtain rfl := Option.some.inj h
  refine eK (lO [] rfl rfl ?_)
  simp only [ren, gN, nM, posOf, fG, go_sem]
  refine iK rfl rfl rfl rfl
attribute [go_sem] kQ
noncomputable def dX (a0_0 : (Bool × ((List Nat) × (Int × Unit)))) (a1_1 : (Bool × ((List Nat) × (Int × Unit)))) (a2_2 : Unit) : Option ((Bool × ((List Nat) × (Int × Unit))) ⊕ (Int × Unit)) :=
 ck (((bQ a0_0).isSome = true)) (if ((bQ a0_0).getD false) = true then ck (((bQ a1_1).isSome = true)) (((fD (((bQ a0_0).getD false) && ((bQ a1_1).getD false)) (1 : Int))).bind (fun e => match e with | .inl r_12 => ((lU a0_0 a1_1)).bind (fun e => match e with | .inl r_20 => some (.inl r_20) | .inr p_21 => some (.inr p_21)) | .inr p_13 => some (.inr p_13))) else ((fD false (1 : Int))).bind (fun e => match e with | .inl r_14 => ((lU a0_0 a1_1)).bind (fun e => match e with | .inl r_26 => some (.inl r_26) | .inr p_27 => some (.inr p_27)) | .inr p_15 => some (.inr p_15)))
noncomputable def eO : lG where
 D := (Bool × ((List Nat) × (Int × Unit))) × (Bool × ((List Nat) × (Int × Unit))) × Unit × ((Bool × ((List Nat) × (Int × Unit))) ⊕ (Int × Unit))
 av := fun d => [.val (.rp (.pair .bool (.pair (.sl (.u .u64)) (.pair (.i .i64) .unit)))) d.1, .val (.rp (.pair .bool (.pair (.sl (.u .u64)) (.pair (.i .i64) .unit)))) d.2.1, .val (.rp (.clo 87 .unit)) d.2.2.1]
 hp := fun d => []
 m := 0
 pre := fun d => dX d.1 d.2.1 d.2.2.1 = some d.2.2.2
 out := fun d => match d.2.2.2 with | .inl r => .ret (.val (.pair .bool (.pair (.sl (.u .u64)) (.pair (.i .i64) .unit))) r) [] | .inr p => .pan ⟨162, (.pair (.i .i64) .unit), p⟩ []
noncomputable def lD : List (FuncId × aL) := [(29, dK)]
theorem pK : bW Tryz.prog GL lD := .cons nC (by kernel_rfl) (.nil)
theorem vH : gam lD 29 = some dK := rfl
attribute [go_sem] vH
set_option maxHeartbeats 4000000 in
theorem oL : GOK Tryz.prog GL 137 eO := by
 refine oF (bI pK) Tryz.func137 rfl (by kernel_rfl) (fun _ => Nat.le_of_ble_eq_true rfl) fun c0 w0 d hw1 hw2 h hn => ?_
 have hF : jB ⟨Tryz.prog, EM lD, GM eO c0 d, w0, Tryz.f137.ntmps, []⟩ := ⟨bI pK, mix⟩
 obtain ⟨(a0_0 : (Bool × ((List Nat) × (Int × Unit)))), (a1_1 : (Bool × ((List Nat) × (Int × Unit)))), (a2_2 : Unit), r⟩ := d
 replace h : dX a0_0 a1_1 a2_2 = some r := h
 have hw1 : AV.wfL [.val (.rp (.pair .bool (.pair (.sl (.u .u64)) (.pair (.i .i64) .unit)))) a0_0, .val (.rp (.pair .bool (.pair (.sl (.u .u64)) (.pair (.i .i64) .unit)))) a1_1, .val (.rp (.clo 87 .unit)) a2_2] := hw1
 simp only [AV.wfL, AV.wfV, Ty.wf, mJ] at hw1
 show Tri _ _ _ [(0, .roa (.pair .bool (.pair (.sl (.u .u64)) (.pair (.i .i64) .unit))) a0_0), (1, .roa (.pair .bool (.pair (.sl (.u .u64)) (.pair (.i .i64) .unit))) a1_1), (2, .roa (.clo 87 .unit) a2_2)] []
 unfold dX at h
 refine aD (bO hF [0, 1, 2, 3] ?_)
 simp only [go_sem]
 obtain ⟨g0, h⟩ := aH h
 by_cases hq : ((bQ a0_0).getD false) = true
 ·have h := fR hq h
  obtain ⟨g1, h⟩ := aH h
  obtain ⟨e, he1, h⟩ := bind_some h
  rcases e with r_12 | p_13
  ·try dsimp only at h
   refine aF (aD (aW hF (bY (l := [(138, ⟨cZ, [], ((((bQ a0_0).getD false) && ((bQ a1_1).getD false)), (1 : Int), .inl r_12)⟩)]) (.cons eR (by kernel_rfl) (.nil))) [0, 1, 2, 3] [] ?_))
   simp only [go_sem]
   repeat (refine ⟨by first | with_reducible assumption | omega | (intros; first | assumption | omega) | (simp only [go_sem] at *; first | assumption | omega) | decide, ?_⟩)
   refine ⟨fun _ => ?_, fun hx => by first | (exfalso; omega) | (exfalso; simp_all; done)⟩
   repeat (refine ⟨by first | with_reducible assumption | omega | (intros; first | assumption | omega) | (simp only [go_sem] at *; first | assumption | omega) | decide, ?_⟩)
   refine ⟨fun _ => ?_, fun hx => by first | (exfalso; omega) | (exfalso; simp_all; done)⟩
   repeat (refine ⟨by first | with_reducible assumption | omega | (intros; first | assumption | omega) | (simp only [go_sem] at *; first | assumption | omega) | decide, ?_⟩)
   obtain ⟨e, he2, h⟩ := bind_some h
   rcases e with r_20 | p_21
   ·try dsimp only at h
    refine aF (aD (aW hF (bY (l := [(87, ⟨kQ, [], (a0_0, a1_1, .inl r_20)⟩)]) (.cons rU (by kernel_rfl) (.nil))) [3] [] ?_))
    simp only [go_sem]
    repeat (refine ⟨by first | with_reducible assumption | omega | (intros; first | assumption | omega) | (simp only [go_sem] at *; first | assumption | omega) | decide, ?_⟩)
    obtain rfl := Option.some.inj h
    refine aF (cW (sA hF [.cell 3 25] [] rfl rfl rfl rfl rfl rfl rfl rfl rfl ?_))
    (try simp only [bA, xQ, wO, fO, lN, AV.isAgg, go_sem]) <;> first | trivial | rfl | (simp; done)
   ·try dsimp only at h
    refine aF (aD (aW hF (bY (l := [(87, ⟨kQ, [], (a0_0, a1_1, .inr p_21)⟩)]) (.cons rU (by kernel_rfl) (.nil))) [3] [] ?_))
    simp only [go_sem]
    repeat (refine ⟨by first | with_reducible assumption | omega | (intros; first | assumption | omega) | (simp only [go_sem] at *; first | assumption | omega) | decide, ?_⟩)
    obtain rfl := Option.some.inj h
    refine eK (lO [] rfl rfl ?_)
    simp only [ren, gN, nM, posOf, fG, go_sem]
    refine iK rfl rfl rfl rfl
  ·try dsimp only at h
   refine aF (aD (aW hF (bY (l := [(138, ⟨cZ, [], ((((bQ a0_0).getD false) && ((bQ a1_1).getD false)), (1 : Int), .inr p_13)⟩)]) (.cons eR (by kernel_rfl) (.nil))) [0, 1, 2, 3] [] ?_))
   simp only [go_sem]
   repeat (refine ⟨by first | with_reducible assumption | omega | (intros; first | assumption | omega) | (simp only [go_sem] at *; first | assumption | omega) | decide, ?_⟩)
   refine ⟨fun _ => ?_, fun hx => by first | (exfalso; omega) | (exfalso; simp_all; done)⟩
   repeat (refine ⟨by first | with_reducible assumption | omega | (intros; first | assumption | omega) | (simp only [go_sem] at *; first | assumption | omega) | decide, ?_⟩)
   refine ⟨fun _ => ?_, fun hx => by first | (exfalso; omega) | (exfalso; simp_all; done)⟩
   repeat (refine ⟨by first | with_reducible assumption | omega | (intros; first | assumption | omega) | (simp only [go_sem] at *; first | assumption | omega) | decide, ?_⟩)
   obtain rfl := Option.some.inj h
   refine eK (lO [] rfl rfl ?_)
   simp only [ren, gN, nM, posOf, fG, go_sem]
   refine iK rfl rfl rfl rfl
 ·have h := fS hq h
  obtain ⟨e, he3, h⟩ := bind_some h
  rcases e with r_14 | p_15
  ·try dsimp only at h
   refine aF (aD (aW hF (bY (l := [(138, ⟨cZ, [], (false, (1 : Int), .inl r_14)⟩)]) (.cons eR (by kernel_rfl) (.nil))) [0, 1, 2, 3] [] ?_))
   simp only [go_sem]
   repeat (refine ⟨by first | with_reducible assumption | omega | (intros; first | assumption | omega) | (simp only [go_sem] at *; first | assumption | omega) | decide, ?_⟩)
   first | (refine ⟨fun hx => by first | (exfalso; omega) | (exfalso; simp_all; done), fun _ => ?_⟩) | intro _
   repeat (refine ⟨by first | with_reducible assumption | omega | (intros; first | assumption | omega) | (simp only [go_sem] at *; first | assumption | omega) | decide, ?_⟩)
   first | (refine ⟨fun hx => by first | (exfalso; omega) | (exfalso; simp_all; done), fun _ => ?_⟩) | intro _
   repeat (refine ⟨by first | with_reducible assumption | omega | (intros; first | assumption | omega) | (simp only [go_sem] at *; first | assumption | omega) | decide, ?_⟩)
   obtain ⟨e, he4, h⟩ := bind_some h
   rcases e with r_26 | p_27
   ·try dsimp only at h
    refine aF (aD (aW hF (bY (l := [(87, ⟨kQ, [], (a0_0, a1_1, .inl r_26)⟩)]) (.cons rU (by kernel_rfl) (.nil))) [3] [] ?_))
    simp only [go_sem]
    repeat (refine ⟨by first | with_reducible assumption | omega | (intros; first | assumption | omega) | (simp only [go_sem] at *; first | assumption | omega) | decide, ?_⟩)
    obtain rfl := Option.some.inj h
    refine aF (cW (sA hF [.cell 3 25] [] rfl rfl rfl rfl rfl rfl rfl rfl rfl ?_))
    (try simp only [bA, xQ, wO, fO, lN, AV.isAgg, go_sem]) <;> first | trivial | rfl | (simp; done)
   ·try dsimp only at h
    refine aF (aD (aW hF (bY (l := [(87, ⟨kQ, [], (a0_0, a1_1, .inr p_27)⟩)]) (.cons rU (by kernel_rfl) (.nil))) [3] [] ?_))
    simp only [go_sem]
    repeat (refine ⟨by first | with_reducible assumption | omega | (intros; first | assumption | omega) | (simp only [go_sem] at *; first | assumption | omega) | decide, ?_⟩)
    obtain rfl := Option.some.inj h
    refine eK (lO [] rfl rfl ?_)
    simp only [ren, gN, nM, posOf, fG, go_sem]
    refine iK rfl rfl rfl rfl
  ·try dsimp only at h
   refine aF (aD (aW hF (bY (l := [(138, ⟨cZ, [], (false, (1 : Int), .inr p_15)⟩)]) (.cons eR (by kernel_rfl) (.nil))) [0, 1, 2, 3] [] ?_))
   simp only [go_sem]
   repeat (refine ⟨by first | with_reducible assumption | omega | (intros; first | assumption | omega) | (simp only [go_sem] at *; first | assumption | omega) | decide, ?_⟩)
   first | (refine ⟨fun hx => by first | (exfalso; omega) | (exfalso; simp_all; done), fun _ => ?_⟩) | intro _
   repeat (refine ⟨by first | with_reducible assumption | omega | (intros; first | assumption | omega) | (simp only [go_sem] at *; first | assumption | omega) | decide, ?_⟩)
   first | (refine ⟨fun hx => by first | (exfalso; omega) | (exfalso; simp_all; done), fun _ => ?_⟩) | intro _
   repeat (refine ⟨by first | with_reducible assumption | omega | (intros; first | assumption | omega) | (simp only [go_sem] at *; first | assumption | omega) | decide, ?_⟩)
   obtain rfl := Option.some.inj h
   refine eK (lO [] rfl rfl ?_)
   simp only [ren, gN, nM, posOf, fG, go_sem]
   refine iK rfl rfl rfl rfl
attribute [go_sem] eO
noncomputable def bM (c0 : (Bool × ((List Nat) × (Int × Unit)))) (c1 : (Bool × ((List Nat) × (Int × Unit)))) (c2 : Unit) : Option ((Bool × ((List Nat) × (Int × Unit))) × Int × Unit) :=
 (dX c0 c1 c2).bind fun q => some (match q with | .inl r => (r, 0, ()) | .inr p => ((false, ([] : List Nat), (0 : Int), ()), p.1, ()))
def jN : Ty := .pair (.clo 137 (.pair (.rp (.pair .bool (.pair (.sl (.u .u64)) (.pair (.i .i64) .unit)))) (.pair (.rp (.pair .bool (.pair (.sl (.u .u64)) (.pair (.i .i64) .unit)))) (.pair (.rp (.clo 87 .unit)) .unit)))) .unit
noncomputable def cX : aL := mSpec jN (.tup (.pair (.pair .bool (.pair (.sl (.u .u64)) (.pair (.i .i64) .unit))) (.pair (.i .i64) .unit))) (fun x => bM x.1.1 x.1.2.1 x.1.2.2.1)
set_option maxHeartbeats 4000000 in
theorem oM : FOK Tryz.prog GL 104 cX := by
 refine aB5 (bI sH) Tryz.func104 rfl (by kernel_rfl) (by decide) fun w0 S x r hw h => ?_
 have hF : jB (fr Tryz.prog (EM []) S w0 Tryz.f104.ntmps) := ⟨bI sH, mix⟩
 obtain ⟨⟨(c0 : (Bool × ((List Nat) × (Int × Unit)))), (c1 : (Bool × ((List Nat) × (Int × Unit)))), (c2 : Unit), u1⟩, u⟩ := x
 replace h : bM c0 c1 c2 = some r := h
 show Tri _ _ _ [(0, .val (.clo 137 (.pair (.rp (.pair .bool (.pair (.sl (.u .u64)) (.pair (.i .i64) .unit)))) (.pair (.rp (.pair .bool (.pair (.sl (.u .u64)) (.pair (.i .i64) .unit)))) (.pair (.rp (.clo 87 .unit)) .unit)))) (c0, c1, c2, u1))] []
 unfold bM at h
 obtain ⟨q, hq, h⟩ := bind_some h
 obtain rfl := Option.some.inj h
 refine aD (bO hF [0, 2, 3] ?_)
 simp only [go_sem]
 refine aF (wP 2 [0, 1] rfl rfl (Nat.zero_le _) (by decide) fun roots hroots => ?_)
 have hF' : jB { fr Tryz.prog (EM []) S w0 Tryz.f104.ntmps with M := ⟨nothing, S, 2, roots⟩, ds := [⟨.fn (.func 150) ([0, 1].map roots).toArray, #[]⟩] } := ⟨bI sH, mix⟩
 rcases q with q | q
 ·refine aD (aW hF' (bY (l := [(137, ⟨eO, [], (c0, c1, c2, .inl q)⟩)]) (.cons oL (by kernel_rfl) .nil)) [2, 3] [] ?_)
  simp only [go_sem]
  refine ⟨hq, ?_⟩
  refine aF (cW ?_)
  refine aJW (fn := Tryz.f104) (k := 2) (l2 := [0, 1]) hF' rfl rfl (by decide) rfl (zA (by kernel_rfl)) ⟨iW, [0, 1], (q, 0)⟩ aA3 rfl [.cell 2 25, .cell 3 3] rfl ?_ ?_
  ·(simp only [iW, go_sem]) <;> first | decide | trivial
  ·(simp only [iW, bA, jD, go_sem]) <;> first | decide | trivial
 ·refine aD (aW hF' (bY (l := [(137, ⟨eO, [], (c0, c1, c2, .inr q)⟩)]) (.cons oL (by kernel_rfl) .nil)) [2, 3] [] ?_)
  simp only [go_sem]
  refine ⟨hq, ?_⟩
  refine eK ?_
  refine aJX (fn := Tryz.f104) (k := 2) (l2 := [0, 1]) hF' rfl rfl (by decide) rfl (zA (by kernel_rfl)) ⟨iX q, [0, 1], ((false, ([] : List Nat), (0 : Int), ()), 0)⟩ (aA4 q) rfl [.cell 2 25, .cell 3 3] rfl ?_ ?_
  ·(simp only [iX, go_sem]) <;> first | decide | trivial
  ·(simp only [iX, bA, jD, go_sem]) <;> first | decide | trivial
attribute [go_sem] cX jN
noncomputable def fU (a_0 : (Bool × ((List Nat) × (Int × Unit)))) (b_1 : (Bool × ((List Nat) × (Int × Unit)))) (do_2 : Unit) : Option ((Bool × ((List Nat) × (Int × Unit))) × (Int × Unit)) :=
 ck (((bM a_0 b_1 do_2).isSome = true)) (some ((((bM a_0 b_1 do_2).getD ((false, ([] : List Nat), (0 : Int), ()), (0 : Int), ())).1), ((((bM a_0 b_1 do_2).getD ((false, ([] : List Nat), (0 : Int), ()), (0 : Int), ())).2).1), ()))
def jV : Ty := .pair (.pair .bool (.pair (.sl (.u .u64)) (.pair (.i .i64) .unit))) (.pair (.pair .bool (.pair (.sl (.u .u64)) (.pair (.i .i64) .unit))) (.pair (.clo 87 .unit) .unit))
attribute [go_sem] jV
noncomputable def iQ : aL := mSpec jV (.tup (.pair (.pair .bool (.pair (.sl (.u .u64)) (.pair (.i .i64) .unit))) (.pair (.i .i64) .unit))) (fun x => fU x.1 x.2.1 x.2.2.1)
noncomputable def mP : List (FuncId × aL) := [(104, cX)]
theorem qV : bW Tryz.prog GL mP := .cons oM (by kernel_rfl) (.nil)
theorem vM : gam mP 104 = some cX := rfl
attribute [go_sem] vM
set_option maxHeartbeats 4000000 in
theorem aAf : FOK Tryz.prog GL 86 iQ := by
 refine rF (bI qV) Tryz.func86 rfl (by kernel_rfl) (by decide) fun w0 S x r hw h => ?_
 have hF : jB (fr Tryz.prog (EM mP) S w0 Tryz.f86.ntmps) := ⟨bI qV, mix⟩
 obtain ⟨(a_0 : (Bool × ((List Nat) × (Int × Unit)))), (b_1 : (Bool × ((List Nat) × (Int × Unit)))), (do_2 : Unit), u⟩ := x
 simp only [jV, Ty.wf, mJ] at hw
 simp only [cF, jV]
 try dsimp only at h
 unfold fU at h
 refine aD (bO hF [3, 4, 5, 6] ?_)
 simp only [go_sem]
 refine aF (aD (oE 0 rfl ?_))
 simp only [go_sem]
 refine oE 1 rfl ?_
 simp only [go_sem]
 refine oE 2 rfl ?_
 simp only [go_sem]
 refine bO hF [6, 7] ?_
 simp only [go_sem]
 obtain ⟨g0, h⟩ := aH h
 repeat (refine ⟨by first | with_reducible assumption | omega | (intros; first | assumption | omega) | (simp only [go_sem] at *; first | assumption | omega) | decide, ?_⟩)
 obtain rfl := Option.some.inj h
 refine aF (cW (iL hF [.cell 6 25, .tmp 7] rfl rfl rfl ?_))
 (try simp only [jD, bA, go_sem]) <;> first | rfl | (simp; done)
attribute [go_sem] iQ
noncomputable def nK (a_0 : (Bool × ((List Nat) × (Int × Unit)))) (b_1 : (Bool × ((List Nat) × (Int × Unit)))) : Option ((Bool × ((List Nat) × (Int × Unit))) × (Int × Unit)) :=
 (fU a_0 b_1 ()).bind (fun v_4 => some ((v_4.1), ((v_4.2).1), ()))
def aE0 : PlR := ⟨[(0, .B [2, 3, 4]), (1, .B [4, 5])], []⟩
def aHU : Ty := .pair (.pair .bool (.pair (.sl (.u .u64)) (.pair (.i .i64) .unit))) (.pair (.pair .bool (.pair (.sl (.u .u64)) (.pair (.i .i64) .unit))) .unit)
noncomputable def wM : aL := mSpec aHU (.tup (.pair (.pair .bool (.pair (.sl (.u .u64)) (.pair (.i .i64) .unit))) (.pair (.i .i64) .unit))) (fun x => nK x.1 x.2.1)
noncomputable def aHV : List (FuncId × aL) := [(86, iQ)]
theorem aNl : bW Tryz.prog GL aHV := .cons aAf (by kernel_rfl) (.nil)
theorem aIW : gam aHV 86 = some iQ := rfl
attribute [go_sem] aHU aE0 aIW
set_option maxHeartbeats 4000000 in
theorem aMl : FOK Tryz.prog GL 34 wM := by
 refine cG (bI aNl) mix Tryz.func34 rfl (by kernel_rfl) (by decide) aE0 fun w0 S x Θ hw h hF => ?_
 obtain ⟨(a_0 : (Bool × ((List Nat) × (Int × Unit)))), (b_1 : (Bool × ((List Nat) × (Int × Unit)))), u⟩ := x
 simp only [cF, go_sem]
 replace h : sat (nK a_0 b_1) _ := h
 unfold nK at h
 obtain ⟨v_4, hv, h⟩ := sB h
 try simp only [hv, go_sem]
 exact aS hF [.cell 4 25, .tmp 5] rfl rfl rfl (aC h) (by simp only [bA, go_sem])
attribute [go_sem] wM
noncomputable def gB (m_18 : Int) (v_13 : (((Bool × ((List Nat) × (Int × Unit))) × ((Bool × ((List Nat) × (Int × Unit))) × Unit)) × (Int × Unit))) (p_2 : Int) (ten_23 : Int) : Option (Bool) :=
 (rL m_18 (0 : Int)).bind (fun v_25 => (rL ten_23 (0 : Int)).bind (fun v_27 => (nK ((v_13.1).1) (v_27.1)).bind (fun v_29 => (nK (((v_13.1).2).1) (v_27.1)).bind (fun v_31 => ck (I64 (((v_25.2).1) + ((v_27.2).1))) (ck (I64 ((((v_25.2).1) + ((v_27.2).1)) + ((v_29.2).1))) (ck (I64 (((((v_25.2).1) + ((v_27.2).1)) + ((v_29.2).1)) + ((v_31.2).1))) (ck ((¬ (¬ ((((((v_25.2).1) + ((v_27.2).1)) + ((v_29.2).1)) + ((v_31.2).1)) = (0 : Int))) → (((cA (v_29.1) (v_25.1)).isSome = true)))) (ck ((¬ ((¬ ((((((v_25.2).1) + ((v_27.2).1)) + ((v_29.2).1)) + ((v_31.2).1)) = (0 : Int))) ∨ ((0 : Int) < ((cA (v_29.1) (v_25.1)).getD (0 : Int)))) → (((cA (v_25.1) (v_31.1)).isSome = true)))) (ck ((¬ (((¬ ((((((v_25.2).1) + ((v_27.2).1)) + ((v_29.2).1)) + ((v_31.2).1)) = (0 : Int))) ∨ ((0 : Int) < ((cA (v_29.1) (v_25.1)).getD (0 : Int)))) ∨ ((0 : Int) < ((cA (v_25.1) (v_31.1)).getD (0 : Int)))) → (((gK ((v_13.1).1)).isSome = true)))) (ck ((¬ ((((¬ ((((((v_25.2).1) + ((v_27.2).1)) + ((v_29.2).1)) + ((v_31.2).1)) = (0 : Int))) ∨ ((0 : Int) < ((cA (v_29.1) (v_25.1)).getD (0 : Int)))) ∨ ((0 : Int) < ((cA (v_25.1) (v_31.1)).getD (0 : Int)))) ∨ (((1 : Int) + (IntKind.i64.wrap (((((p_2 % (18446744073709551616 : Int)).toNat) % (100 : Nat)) : Nat) : Int))) < ((gK ((v_13.1).1)).getD (0 : Int)))) → (((gK (((v_13.1).2).1)).isSome = true)))) (if ((((¬ ((((((v_25.2).1) + ((v_27.2).1)) + ((v_29.2).1)) + ((v_31.2).1)) = (0 : Int))) ∨ ((0 : Int) < ((cA (v_29.1) (v_25.1)).getD (0 : Int)))) ∨ ((0 : Int) < ((cA (v_25.1) (v_31.1)).getD (0 : Int)))) ∨ (((1 : Int) + (IntKind.i64.wrap (((((p_2 % (18446744073709551616 : Int)).toNat) % (100 : Nat)) : Nat) : Int))) < ((gK ((v_13.1).1)).getD (0 : Int)))) ∨ (((1 : Int) + (IntKind.i64.wrap (((((p_2 % (18446744073709551616 : Int)).toNat) % (100 : Nat)) : Nat) : Int))) < ((gK (((v_13.1).2).1)).getD (0 : Int))) then some false else (pI).bind (fun v_37 => ck (((v_37 = true) → (((dN ((v_13.1).1) (((v_13.1).2).1)).isSome = true)))) (ck (((v_37 = true) → (((cA (v_29.1) (v_25.1)).isSome = true)))) (ck (((v_37 = true) → (((cA (v_29.1) (v_25.1)).getD (0 : Int)) = (0 : Int)) → (((cA (v_25.1) (v_31.1)).isSome = true)))) (some (v_37 && (((dN ((v_13.1).1) (((v_13.1).2).1)).getD false) == ((decide (((cA (v_29.1) (v_25.1)).getD (0 : Int)) = (0 : Int))) && (decide (((cA (v_25.1) (v_31.1)).getD (0 : Int)) = (0 : Int)))))))))))))))))))))
noncomputable def dO (point_1 : Int) (ten_38 : Int) (i_39 : Int) : Option ((Int × Int) ⊕ ((Int))) :=
 if i_39 < (IntKind.i64.wrap (((((point_1 % (18446744073709551616 : Int)).toNat) % (18 : Nat)) : Nat) : Int)) then ck (I64 (ten_38 * (10 : Int))) (ck (I64 (i_39 + (1 : Int))) (some (.inl ((ten_38 * (10 : Int)), (i_39 + (1 : Int)))))) else some (.inr ten_38)
noncomputable def jO (point_1 : Int) (v_13 : (((Bool × ((List Nat) × (Int × Unit))) × ((Bool × ((List Nat) × (Int × Unit))) × Unit)) × (Int × Unit))) (p_2 : Int) (m_18 : Int) : Option (Bool) :=
 (dC (fun d : Int × Int => dO point_1 d.1 d.2) ((1 : Int), (0 : Int))).bind (fun e => gB m_18 v_13 p_2 e)
noncomputable def dP (s_10 : (List Nat)) (m_43 : Int) (i_44 : Int) : Option ((Int × Int) ⊕ ((Int))) :=
 if i_44 < (18 : Int) then ck (I64 (m_43 * (10 : Int))) (ck (0 ≤ i_44 ∧ i_44 < (((s_10.length) : Nat) : Int)) (ck (I64 ((m_43 * (10 : Int)) + (((iD .u8 (s_10.getD (i_44.toNat) (0 : Nat)) (48 : Nat)) : Nat) : Int))) (ck (I64 (i_44 + (1 : Int))) (some (.inl (((m_43 * (10 : Int)) + (((iD .u8 (s_10.getD (i_44.toNat) (0 : Nat)) (48 : Nat)) : Nat) : Int)), (i_44 + (1 : Int)))))))) else some (.inr m_43)
noncomputable def eX (p_2 : Int) (s_10 : (List Nat)) (point_1 : Int) (t_11 : (List Nat)) : Option (Bool) :=
 (cC t_11 ((1 : Int) + (IntKind.i64.wrap (((((p_2 % (18446744073709551616 : Int)).toNat) % (100 : Nat)) : Nat) : Int)))).bind (fun v_13 => if ¬ (((v_13.2).1) = (0 : Int)) then some false else (dC (fun d : Int × Int => dP s_10 d.1 d.2) ((0 : Int), (0 : Int))).bind (fun e => jO point_1 v_13 p_2 e))
noncomputable def gC (point_1 : Int) (p_2 : Int) (s_10 : (List Nat)) : Option (Bool) :=
 ck (I64 ((18 : Int) - (IntKind.i64.wrap (((((point_1 % (18446744073709551616 : Int)).toNat) % (18 : Nat)) : Nat) : Int)))) (ck (0 ≤ ((18 : Int) - (IntKind.i64.wrap (((((point_1 % (18446744073709551616 : Int)).toNat) % (18 : Nat)) : Nat) : Int))) ∧ ((18 : Int) - (IntKind.i64.wrap (((((point_1 % (18446744073709551616 : Int)).toNat) % (18 : Nat)) : Nat) : Int))) ≤ (((s_10.length) : Nat) : Int)) (if (0 : Int) < (IntKind.i64.wrap (((((point_1 % (18446744073709551616 : Int)).toNat) % (18 : Nat)) : Nat) : Int)) then ck (((List.take (((18 : Int) - (IntKind.i64.wrap (((((point_1 % (18446744073709551616 : Int)).toNat) % (18 : Nat)) : Nat) : Int))).toNat) s_10).length) + ((aN ⟨#[46]⟩).length) ≤ 9223372036854775807) (ck (I64 ((18 : Int) - (IntKind.i64.wrap (((((point_1 % (18446744073709551616 : Int)).toNat) % (18 : Nat)) : Nat) : Int)))) (ck (0 ≤ ((18 : Int) - (IntKind.i64.wrap (((((point_1 % (18446744073709551616 : Int)).toNat) % (18 : Nat)) : Nat) : Int))) ∧ ((18 : Int) - (IntKind.i64.wrap (((((point_1 % (18446744073709551616 : Int)).toNat) % (18 : Nat)) : Nat) : Int))) ≤ (((s_10.length) : Nat) : Int)) (ck ((((List.take (((18 : Int) - (IntKind.i64.wrap (((((point_1 % (18446744073709551616 : Int)).toNat) % (18 : Nat)) : Nat) : Int))).toNat) s_10) ++ (aN ⟨#[46]⟩)).length) + ((List.drop (((18 : Int) - (IntKind.i64.wrap (((((point_1 % (18446744073709551616 : Int)).toNat) % (18 : Nat)) : Nat) : Int))).toNat) s_10).length) ≤ 9223372036854775807) (eX p_2 s_10 point_1 (((List.take (((18 : Int) - (IntKind.i64.wrap (((((point_1 % (18446744073709551616 : Int)).toNat) % (18 : Nat)) : Nat) : Int))).toNat) s_10) ++ (aN ⟨#[46]⟩)) ++ (List.drop (((18 : Int) - (IntKind.i64.wrap (((((point_1 % (18446744073709551616 : Int)).toNat) % (18 : Nat)) : Nat) : Int))).toNat) s_10)))))) else eX p_2 s_10 point_1 (List.take (((18 : Int) - (IntKind.i64.wrap (((((point_1 % (18446744073709551616 : Int)).toNat) % (18 : Nat)) : Nat) : Int))).toNat) s_10)))
noncomputable def dB (u_48 : Nat) (s_49 : (List Nat)) (i_50 : Int) : Option ((Nat × (List Nat) × Int) ⊕ (((List Nat)))) :=
 if i_50 < (18 : Int) then ck (0 ≤ (((u_48 % (10 : Nat)) : Nat) : Int) ∧ (((u_48 % (10 : Nat)) : Nat) : Int) ≤ (((((u_48 % (10 : Nat)) + (1 : Nat)) % 18446744073709551616) : Nat) : Int) ∧ (((((u_48 % (10 : Nat)) + (1 : Nat)) % 18446744073709551616) : Nat) : Int) ≤ ((((aN ⟨#[48, 49, 50, 51, 52, 53, 54, 55, 56, 57]⟩).length) : Nat) : Int)) (ck (((List.drop (u_48 % (10 : Nat)) (List.take (((u_48 % (10 : Nat)) + (1 : Nat)) % 18446744073709551616) (aN ⟨#[48, 49, 50, 51, 52, 53, 54, 55, 56, 57]⟩))).length) + (s_49.length) ≤ 9223372036854775807) (ck (I64 (i_50 + (1 : Int))) (some (.inl ((u_48 / (10 : Nat)), ((List.drop (u_48 % (10 : Nat)) (List.take (((u_48 % (10 : Nat)) + (1 : Nat)) % 18446744073709551616) (aN ⟨#[48, 49, 50, 51, 52, 53, 54, 55, 56, 57]⟩))) ++ s_49), (i_50 + (1 : Int))))))) else some (.inr s_49)
noncomputable def mC (n_0 : Int) (point_1 : Int) (p_2 : Int) : Option Bool :=
 ck (I64 ((1 : Int) + (IntKind.i64.wrap (((((p_2 % (18446744073709551616 : Int)).toNat) % (100 : Nat)) : Nat) : Int)))) ((dC (fun d : Nat × (List Nat) × Int => dB d.1 d.2.1 d.2.2) ((((n_0 % (18446744073709551616 : Int)).toNat) / (16 : Nat)), (aN ⟨#[]⟩), (0 : Int))).bind (fun e => gC point_1 p_2 e))
def yG : PlR := ⟨[(0, .A [0, 1, 2]), (1, .A [1, 2, 7]), (2, .A [7, 8, 9]), (3, .A [7, 8, 9, 10]), (4, .A [7, 8, 9, 10, 11]), (5, .A [7, 8, 9, 10, 11, 40]), (6, .A [7, 8, 9, 10, 11]), (7, .A [7, 8, 9, 10, 11]), (8, .A [7, 8, 9, 10, 11]), (9, .A [8, 9, 10, 12]), (10, .A [8, 9, 10, 12, 58]), (11, .A [8, 9, 10, 12]), (12, .B [8, 9, 10, 13, 14]), (13, .A [8, 9, 10, 13, 73]), (14, .A [6]), (15, .A [8, 9, 10, 13, 15, 16]), (16, .A [8, 9, 10, 13, 15, 16, 17]), (17, .A [8, 9, 10, 13, 15, 16, 17, 75]), (18, .A [8, 9, 10, 13, 15, 16, 17]), (19, .A [8, 9, 10, 13, 15, 16, 17]), (20, .A [8, 9, 13, 15, 16, 18]), (21, .A [8, 9, 13, 15, 16, 18, 88]), (22, .A [8, 9, 13, 15, 16, 18]), (23, .A [8, 9, 13, 15, 16, 18]), (24, .B [9, 13, 16, 19, 20]), (25, .B [9, 13, 19, 20, 21, 22]), (26, .B [9, 13, 19, 20, 21, 22, 23, 24]), (27, .B [9, 13, 19, 20, 22, 23, 24, 25, 26]), (28, .A [13, 19, 23, 25, 150]), (29, .A [6]), (30, .A [6])], [(7, 12), (13, 15), (19, 23), (23, 27)]⟩
def oQ : Ty := .pair (.i .i64) (.pair (.i .i64) (.pair (.i .i64) .unit))
noncomputable def yH : aL := mSpec oQ (.one .bool) (fun x => mC x.1 x.2.1 x.2.2.1)
noncomputable def fN : List (FuncId × aL) := [(18, tR), (19, rI), (31, pF), (32, nX), (33, aAd), (34, wM), (35, rR)]
theorem aFB : bW Tryz.prog GL fN := .cons aKL (by kernel_rfl) (.cons aHt (by kernel_rfl) (.cons aEI (by kernel_rfl) (.cons aDo (by kernel_rfl) (.cons aNk (by kernel_rfl) (.cons aMl (by kernel_rfl) (.cons aIu (by kernel_rfl) (.nil)))))))
theorem aCh : gam fN 18 = some tR := rfl
theorem aCi : gam fN 19 = some rI := rfl
theorem aCj : gam fN 31 = some pF := rfl
theorem aCk : gam fN 32 = some nX := rfl
theorem aCl : gam fN 33 = some aAd := rfl
theorem aCm : gam fN 34 = some wM := rfl
theorem aCn : gam fN 35 = some rR := rfl
attribute [go_sem] oQ yG aCh aCi aCj aCk aCl aCm aCn
set_option maxHeartbeats 4000000 in
theorem aD6 : FOK Tryz.prog GL 8 yH := by
 refine cG (bI aFB) mix Tryz.func8 rfl (by kernel_rfl) (by decide) yG fun w0 S x Θ hw h hF => ?_
 obtain ⟨(n_0 : Int), (point_1 : Int), (p_2 : Int), u⟩ := x
 simp only [cF, go_sem]
 replace h : sat (mC n_0 point_1 p_2) _ := h
 unfold mC at h
 obtain ⟨g0, h⟩ := aI h
 try simp only [I64, I32] at g0
 repeat (refine ⟨by first | with_reducible assumption | omega | (intros; first | assumption | omega) | (simp only [go_sem] at *; first | assumption | omega) | decide, ?_⟩)
 refine cP hF (D := (List Nat)) (fun d => sat (gC point_1 p_2 d) Θ) [8, 9] (fun d => [(10, .val .str d)]) (fun d => []) ?_ ?_
 ·simp only [go_sem]
  refine dF hF (D := Nat × (List Nat) × Int) [8, 9] (fun d => [(7, .val (.u .u64) d.1), (10, .val .str d.2.1), (11, .val (.i .i64) d.2.2)]) (fun d => []) h rfl (by simp only [go_sem]) ?_
  rintro ⟨u_48, s_49, i_50⟩ A5 T5 hA5 hE5 h
  simp only [go_sem]
  replace h : sat (dB u_48 s_49 i_50) _ := h
  unfold dB at h
  refine gV h (fun hc h => ?_) fun hc h => ?_
  ·obtain ⟨g0, h⟩ := aI h
   obtain ⟨g1, h⟩ := aI h
   repeat (refine ⟨by first | with_reducible assumption | omega | (intros; first | assumption | omega) | (simp only [go_sem] at *; first | assumption | omega) | decide, ?_⟩)
   obtain ⟨g0, h⟩ := aI h
   try simp only [I64, I32] at g0
   repeat (refine ⟨by first | with_reducible assumption | omega | (intros; first | assumption | omega) | (simp only [go_sem] at *; first | assumption | omega) | decide, ?_⟩)
   replace h := hA5 _ (aC h)
   exact aY _ h rfl (by simp only [go_sem])
  ·replace h := hE5 _ (aC h)
   try dsimp only at h
   exact aY (s_49) h rfl (by simp only [go_sem])
 ·rintro s_10 h
  simp only [go_sem]
  replace h : sat (gC point_1 p_2 s_10) _ := h
  unfold gC at h
  obtain ⟨g0, h⟩ := aI h
  obtain ⟨g1, h⟩ := aI h
  try simp only [I64, I32] at g0
  repeat (refine ⟨by first | with_reducible assumption | omega | (intros; first | assumption | omega) | (simp only [go_sem] at *; first | assumption | omega) | decide, ?_⟩)
  refine cP hF (D := (List Nat)) (fun d => sat (eX p_2 s_10 point_1 d) Θ) [8, 9, 10] (fun d => [(12, .val .str d)]) (fun d => []) ?_ ?_
  ·simp only [go_sem]
   refine gV h (fun hc h => ?_) fun hc h => ?_
   ·obtain ⟨g0, h⟩ := aI h
    obtain ⟨g1, h⟩ := aI h
    obtain ⟨g2, h⟩ := aI h
    obtain ⟨g3, h⟩ := aI h
    try simp only [I64, I32] at g1
    repeat (refine ⟨by first | with_reducible assumption | omega | (intros; first | assumption | omega) | (simp only [go_sem] at *; first | assumption | omega) | decide, ?_⟩)
    exact aY ((((List.take (((18 : Int) - (IntKind.i64.wrap (((((point_1 % (18446744073709551616 : Int)).toNat) % (18 : Nat)) : Nat) : Int))).toNat) s_10) ++ (aN ⟨#[46]⟩)) ++ (List.drop (((18 : Int) - (IntKind.i64.wrap (((((point_1 % (18446744073709551616 : Int)).toNat) % (18 : Nat)) : Nat) : Int))).toNat) s_10))) h rfl (by simp only [go_sem])
   ·exact aY ((List.take (((18 : Int) - (IntKind.i64.wrap (((((point_1 % (18446744073709551616 : Int)).toNat) % (18 : Nat)) : Nat) : Int))).toNat) s_10)) h rfl (by simp only [go_sem])
  ·rintro t_11 h
   simp only [go_sem]
   replace h : sat (eX p_2 s_10 point_1 t_11) _ := h
   unfold eX at h
   obtain ⟨v_13, hv, h⟩ := sB h
   try simp only [hv, go_sem]
   refine fP h (fun hc h => ?_) fun hc h => ?_
   ·exact aS hF [.tmp 6] rfl rfl rfl (aC h) (by simp only [bA, go_sem])
   ·refine cP hF (D := Int) (fun d => sat (jO point_1 v_13 p_2 d) Θ) [8, 9, 16] (fun d => [(13, .ptr 0 []), (15, .val (.i .i64) d)]) (fun d => [.inr (.box 6 (.val (.pair (.pair .bool (.pair (.sl (.u .u64)) (.pair (.i .i64) .unit))) (.pair (.pair .bool (.pair (.sl (.u .u64)) (.pair (.i .i64) .unit))) .unit)) (v_13.1)))]) ?_ ?_
    ·simp only [go_sem]
     refine dF hF (D := Int × Int) [8, 9, 10, 16] (fun d => [(13, .ptr 0 []), (15, .val (.i .i64) d.1), (17, .val (.i .i64) d.2)]) (fun d => [.inr (.box 6 (.val (.pair (.pair .bool (.pair (.sl (.u .u64)) (.pair (.i .i64) .unit))) (.pair (.pair .bool (.pair (.sl (.u .u64)) (.pair (.i .i64) .unit))) .unit)) (v_13.1)))]) h rfl (by simp only [go_sem]) ?_
     rintro ⟨m_43, i_44⟩ A17 T17 hA17 hE17 h
     simp only [go_sem]
     replace h : sat (dP s_10 m_43 i_44) _ := h
     unfold dP at h
     refine gV h (fun hc h => ?_) fun hc h => ?_
     ·obtain ⟨g0, h⟩ := aI h
      obtain ⟨g1, h⟩ := aI h
      obtain ⟨g2, h⟩ := aI h
      try simp only [I64, I32] at g0
      try simp only [I64, I32] at g2
      repeat (refine ⟨by first | with_reducible assumption | omega | (intros; first | assumption | omega) | (simp only [go_sem] at *; first | assumption | omega) | decide, ?_⟩)
      obtain ⟨g0, h⟩ := aI h
      try simp only [I64, I32] at g0
      repeat (refine ⟨by first | with_reducible assumption | omega | (intros; first | assumption | omega) | (simp only [go_sem] at *; first | assumption | omega) | decide, ?_⟩)
      replace h := hA17 _ (aC h)
      exact aY _ h rfl (by simp only [go_sem])
     ·replace h := hE17 _ (aC h)
      try dsimp only at h
      exact aY (m_43) h rfl (by simp only [go_sem])
    ·rintro m_18 h
     simp only [go_sem]
     replace h : sat (jO point_1 v_13 p_2 m_18) _ := h
     unfold jO at h
     refine cP hF (D := Int) (fun d => sat (gB m_18 v_13 p_2 d) Θ) [9, 15] (fun d => [(13, .ptr 0 []), (16, .val (.i .i64) d)]) (fun d => [.inr (.box 6 (.val (.pair (.pair .bool (.pair (.sl (.u .u64)) (.pair (.i .i64) .unit))) (.pair (.pair .bool (.pair (.sl (.u .u64)) (.pair (.i .i64) .unit))) .unit)) (v_13.1)))]) ?_ ?_
     ·simp only [go_sem]
      refine dF hF (D := Int × Int) [8, 9, 15] (fun d => [(13, .ptr 0 []), (16, .val (.i .i64) d.1), (18, .val (.i .i64) d.2)]) (fun d => [.inr (.box 6 (.val (.pair (.pair .bool (.pair (.sl (.u .u64)) (.pair (.i .i64) .unit))) (.pair (.pair .bool (.pair (.sl (.u .u64)) (.pair (.i .i64) .unit))) .unit)) (v_13.1)))]) h rfl (by simp only [go_sem]) ?_
      rintro ⟨ten_38, i_39⟩ A21 T21 hA21 hE21 h
      simp only [go_sem]
      replace h : sat (dO point_1 ten_38 i_39) _ := h
      unfold dO at h
      refine gV h (fun hc h => ?_) fun hc h => ?_
      ·obtain ⟨g0, h⟩ := aI h
       try simp only [I64, I32] at g0
       repeat (refine ⟨by first | with_reducible assumption | omega | (intros; first | assumption | omega) | (simp only [go_sem] at *; first | assumption | omega) | decide, ?_⟩)
       obtain ⟨g0, h⟩ := aI h
       try simp only [I64, I32] at g0
       repeat (refine ⟨by first | with_reducible assumption | omega | (intros; first | assumption | omega) | (simp only [go_sem] at *; first | assumption | omega) | decide, ?_⟩)
       replace h := hA21 _ (aC h)
       exact aY _ h rfl (by simp only [go_sem])
      ·replace h := hE21 _ (aC h)
       try dsimp only at h
       exact aY (ten_38) h rfl (by simp only [go_sem])
     ·rintro ten_23 h
      simp only [go_sem]
      replace h : sat (gB m_18 v_13 p_2 ten_23) _ := h
      unfold gB at h
      obtain ⟨v_25, hv, h⟩ := sB h
      try simp only [hv, go_sem]
      obtain ⟨v_27, hv, h⟩ := sB h
      try simp only [hv, go_sem]
      obtain ⟨v_29, hv, h⟩ := sB h
      try simp only [hv, go_sem]
      obtain ⟨v_31, hv, h⟩ := sB h
      try simp only [hv, go_sem]
      obtain ⟨g0, h⟩ := aI h
      obtain ⟨g1, h⟩ := aI h
      obtain ⟨g2, h⟩ := aI h
      obtain ⟨g3, h⟩ := aI h
      obtain ⟨g4, h⟩ := aI h
      obtain ⟨g5, h⟩ := aI h
      obtain ⟨g6, h⟩ := aI h
      try simp only [I64, I32] at g0
      try simp only [I64, I32] at g1
      try simp only [I64, I32] at g2
      repeat (refine ⟨by first | with_reducible assumption | omega | (intros; first | assumption | omega) | (simp only [go_sem] at *; first | assumption | omega) | (intro q0; (try have e3 := g3 (by first | exact q0 | omega | (simpa using q0))); (try have e4 := g4 (by first | exact q0 | omega | (simpa using q0))); (try have e5 := g5 (by first | exact q0 | omega | (simpa using q0))); (try have e6 := g6 (by first | exact q0 | omega | (simpa using q0))); first | assumption | omega) | decide, ?_⟩)
      refine ⟨fun hc => ?_, fun hc => ?_⟩
      ·replace h := iE (by first | exact hc | omega | (simpa using hc) | (simp at hc ⊢; omega)) h
       exact aS hF [.tmp 6] rfl rfl rfl (aC h) (by simp only [bA, go_sem])
      ·replace h := iF (by first | exact hc | omega | (simpa using hc) | (simp at hc ⊢; omega)) h
       obtain ⟨v_37, hv, h⟩ := sB h
       try simp only [hv, go_sem]
       obtain ⟨g0, h⟩ := aI h
       obtain ⟨g1, h⟩ := aI h
       obtain ⟨g2, h⟩ := aI h
       repeat (refine ⟨by first | with_reducible assumption | omega | (intros; first | assumption | omega) | (simp only [go_sem] at *; first | assumption | omega) | (intro q0; (try have e0 := g0 (by first | exact q0 | omega | (simpa using q0))); (try have e1 := g1 (by first | exact q0 | omega | (simpa using q0))); first | assumption | omega) | (intro q0 q1; (try have e2 := g2 (by first | exact q0 | omega | (simpa using q0)) (by first | exact q1 | omega | (simpa using q1))); first | assumption | omega) | (rintro ⟨q0, q1⟩; (try have e2 := g2 (by first | exact q0 | omega | (simpa using q0)) (by first | exact q1 | omega | (simpa using q1))); first | assumption | omega) | decide, ?_⟩)
       exact aS hF [.tmp 6] rfl rfl rfl (aC h) (by simp only [bA, go_sem])
attribute [go_sem] yH
end Nu
end Go.Proofs
namespace Go.Proofs
open Go.Vc
set_option maxRecDepth 20000
namespace Nu
theorem aSX (n : Nat) (hn : n < 2 ^ 63) : rL (n : Int) 0 = some (bB n 0, 0, ()) := by
 have e : ((n : Int) % (18446744073709551616 : Int)).toNat = n := by omega
 have lm : Lm [n] := by intro x hx; rw [List.mem_singleton.1 hx]; omega
 have hnv : nv [n] = n := by simp [nv]
 have hN : lQ [n] = lb n := by unfold lQ; rw [hnv]
 have hl : (lb n).length ≤ 1 := iM.2 (by omega)
 have hF : bJ false (lb n) 0 = some (bB n 0, 0, ()) := by
  rw [aKA false (lb n) 0 (uQ n) (pW n) (by omega), dV, aFQ (K := 63) hn (by decide) (by decide)]
 unfold rL nY
 rw [if_neg (by omega), e, hN, decide_eq_false (show ¬ (n : Int) < 0 by omega)]
 exact aB (by simp [pSz]) (cE hF rfl)
theorem aT2 (a b : Dy) {K : Nat} (la : Lm a.2.1) (lb' : Lm b.2.1) (ha : kB a = true) (hb : kB b = true) (na : a.1 = false) (nb : b.1 = false) (hM : nv a.2.1 * nv b.2.1 < 2 ^ K) (hK : K ≤ 4096) (he : -1000000 ≤ a.2.2.1 + b.2.2.1 ∧ a.2.2.1 + b.2.2.1 ≤ 1000000) : nK a b = some (xG a b, 0, ()) := by
 obtain ⟨a1, a2, a3, a4⟩ := mG ha
 obtain ⟨b1, b2, b3, b4⟩ := mG hb
 have hl : (lb (nv a.2.1 * nv b.2.1)).length ≤ 64 := iM.2 (aHg 64 hM (by omega))
 have h1 : lU a b = some (.inl (xG a b)) := by
  unfold lU aZ
  rw [na, nb, aQ0 _ _ _ (uQ _) (pW _) (by omega), dV, show (false != false) = false from rfl, aSG hM hK he]
  exact aB (by unfold aCO; omega) (aB (by constructor <;> omega) rfl)
 have h2 : dX a b () = some (.inl (xG a b)) := by
  unfold dX
  simp only [wX, ha, hb, Option.getD_some, Option.isSome_some]
  refine aB trivial ?_
  rw [if_pos trivial]
  refine aB trivial ?_
  rw [show (true && true) = true from rfl, aPe]
  simp only [Option.bind_some]
  rw [h1]; rfl
 have h3 : bM a b () = some (xG a b, 0, ()) := by
  unfold bM
  rw [h2]; rfl
 have h4 : fU a b () = some (xG a b, 0, ()) := by
  unfold fU
  rw [h3]; exact aB rfl rfl
 unfold nK
 rw [h4]; rfl
theorem aOz (d : Dy) (h : kB d = true) : gK d = some ((bl (nv d.2.1) : Nat) : Int) := by
 obtain ⟨a1, a2, a3, a4⟩ := mG h
 unfold gK
 simp only [wX, h, Option.getD_some, Option.isSome_some]
 refine aB trivial ?_
 rw [if_neg (by simp)]
 exact aB ⟨a2, by omega⟩ rfl
theorem aRp {q B p : Nat} (hq : q < 2 ^ 60) (hB : B < 2 ^ 60) (hp2 : p ≤ 100) (up : Bool) : ∃ R r k : Nat, (if q = 0 then d0 else aIz q B p (p + 1 + bl B) up) = bB R ((r : Int) - (k : Int)) ∧ R < 2 ^ 101 ∧ r ≤ 1000 ∧ k ≤ 1000 := by
 by_cases h0 : q = 0
 ·exact ⟨0, 0, 0, by rw [if_pos h0]; rfl, by decide, by decide, by decide⟩
 ·have hbB : bl B ≤ 60 := oG hB
  have hbq : bl q ≤ 60 := oG hq
  have hr := (aHj (A := q) (B := B) (p := p) (k := p + 1 + bl B) h0).2
  unfold rE at hr
  refine ⟨rm2 q B p (p + 1 + bl B) up, rn q B p (p + 1 + bl B), p + 1 + bl B, by rw [if_neg h0]; rfl, Nat.lt_of_lt_of_le aNa (p2m _ _ (by omega)), by omega, by omega⟩
theorem aSY {R r k B : Nat} (hR : R < 2 ^ 101) (hr : r ≤ 1000) (hk : k ≤ 1000) (hB : B < 2 ^ 60) : nK (bB R ((r : Int) - (k : Int))) (bB B 0) = some (xG (bB R ((r : Int) - (k : Int))) (bB B 0), 0, ()) := by
 have hmR := oJ (e := (r : Int) - (k : Int)) hR (by decide) (by constructor <;> omega)
 have hmB := oJ (e := 0) hB (by decide) (by decide)
 have hle : nv (bB R ((r : Int) - (k : Int))).2.1 * nv (bB B 0).2.1 < 2 ^ 161 := by
  rw [nU, nU, dV, dV, show (161 : Nat) = 101 + 60 from rfl, Nat.pow_add]
  exact Nat.mul_lt_mul'' (Nat.lt_of_le_of_lt aHS hR) (Nat.lt_of_le_of_lt aHS hB)
 have zR : -1000 ≤ (bB R ((r : Int) - (k : Int))).2.2.1 ∧ (bB R ((r : Int) - (k : Int))).2.2.1 ≤ 2000 := by
  unfold bB
  split
  ·decide
  ·rename_i h0
   have := zV h0 hR
   simp only; omega
 have zB : 0 ≤ (bB B 0).2.2.1 ∧ (bB B 0).2.2.1 ≤ 100 := by
  unfold bB
  split
  ·decide
  ·rename_i h0
   have := zV h0 hB
   simp only; omega
 exact aT2 _ _ (yF _ _) (yF _ _) hmR hmB (pJ _ _) (pJ _ _) hle (by decide) (by omega)
theorem aRq (p : Int) (q k b : Nat) (eb : IntKind.i64.wrap ((((p % (18446744073709551616 : Int)).toNat % 100 : Nat) : Int)) = (b : Int)) (hb : b < 100) (hq : q < 10 ^ 18) (hk : k < 18) (F : Bool → Dy) (hF : ∀ up, F up = if q = 0 then d0 else aIz q (10 ^ k) (1 + b) (1 + b + 1 + bl (10 ^ k)) up) :
  gB (q : Int) ((F false, F true, ()), 0, ()) p ((10 ^ k : Nat) : Int) = some true := by
 have hT : 10 ^ k ≤ 10 ^ 17 := Nat.pow_le_pow_right (by decide) (by omega)
 have hT0 : 0 < 10 ^ k := Nat.pow_pos (by decide)
 have hq2 : q < 2 ^ 60 := by omega
 have hB2 : 10 ^ k < 2 ^ 60 := by omega
 have H := held hq2 (by omega) hB2 (show 1 ≤ 1 + b by omega) (by omega) F hF
 obtain ⟨R1, r1, k1, f1, g1, g2, g3⟩ := aRp hq2 hB2 (show 1 + b ≤ 100 by omega) false
 obtain ⟨R2, r2, k2, f2, i1, i2, i3⟩ := aRp hq2 hB2 (show 1 + b ≤ 100 by omega) true
 rw [← hF] at f1 f2
 have o1 := aSX q (by omega)
 have o2 := aSX (10 ^ k) (by omega)
 have m1 := aSY (R := R1) (r := r1) (k := k1) g1 g2 g3 hB2
 have m2 := aSY (R := R2) (r := r2) (k := k2) i1 i2 i3 hB2
 rw [← f1] at m1
 rw [← f2] at m2
 have q1 := aOz (F false) (by rw [f1]; exact oJ g1 (by decide) (by constructor <;> omega))
 have q2 := aOz (F true) (by rw [f2]; exact oJ i1 (by decide) (by constructor <;> omega))
 have n1 : (F false).1 = false := by rw [f1]; exact pJ _ _
 have n2 : (F true).1 = false := by rw [f2]; exact pJ _ _
 have l1 : (F false).2.1.length ≤ 9223372036854775807 := by rw [f1]; exact Nat.le_trans (aRo g1) (by decide)
 have c1 := aNj (xG (F false) (bB (10 ^ k) 0)) (bB q 0) (yF _ _) (yF _ _)
 have c2 := aNj (bB q 0) (xG (F true) (bB (10 ^ k) 0)) (yF _ _) (yF _ _)
 have s1 := aOq (F false) (F true) l1
 obtain ⟨h1, h2, h3, h4, h5⟩ := H
 unfold gB
 refine cE o1 (cE o2 (cE m1 (cE m2 ?_)))
 simp only [eb, c1, c2, q1, q2, s1, Option.getD_some, Option.isSome_some]
 refine aB (by decide) (aB (by decide) (aB (by decide) (aB (fun _ => trivial) (aB (fun _ => trivial) (aB (fun _ => trivial) (aB (fun _ => trivial) ?_))))))
 rw [if_neg (by rintro ((((h | h) | h) | h) | h); exact h rfl; omega; omega; omega; omega)]
 refine cE aSH (aB (fun _ => trivial) (aB (fun _ => trivial) (aB (fun _ _ => trivial) ?_)))
 congr 1
 rw [Bool.true_and, n1, n2]
 generalize aFz (xG (F false) (bB (10 ^ k) 0)) (bB q 0) = x at *
 generalize aFz (bB q 0) (xG (F true) (bB (10 ^ k) 0)) = y at *
 generalize F false = c at *
 generalize F true = d at *
 obtain ⟨vb1, vb2, vb3, u''⟩ := d
 obtain ⟨va1, va2, va3, u'⟩ := c
 have n1 : va1 = false := n1
 have n2 : vb1 = false := n2
 by_cases hab : va2 = vb2 ∧ va3 = vb3
 ·obtain ⟨z1, z2⟩ := h5.1 (by rw [n1, n2, hab.1, hab.2])
  simp [hab.1, hab.2, z1, z2]
 ·have hne : ¬ (x = 0 ∧ y = 0) := fun hh => by
   have := h5.2 hh
   injection this with y1 y2; injection y2 with y2 y3; injection y3 with y3 y4
   exact hab ⟨y2, y3⟩
  have e1 : ((false == false) && decide (va3 = vb3) && decide (va2 = vb2)) = false := by
   by_cases y1 : va3 = vb3
   ·rw [decide_eq_false (show ¬ va2 = vb2 from fun y2 => hab ⟨y2, y1⟩), Bool.and_false]
   ·rw [decide_eq_false y1]; rfl
  have e2 : (decide (x = 0) && decide (y = 0)) = false := by
   by_cases y1 : x = 0
   ·rw [decide_eq_false (show ¬ y = 0 from fun y2 => hne ⟨y1, y2⟩), Bool.and_false]
   ·rw [decide_eq_false y1]; rfl
  show (((false == false) && decide (va3 = vb3) && decide (va2 = vb2)) == (decide (x = 0) && decide (y = 0))) = true
  rw [e1, e2]; rfl
theorem aSJ (s : List Nat) (hs : ∀ c ∈ s, gR c = true) (hl : s.length = 18) : dC (fun d : Int × Int => dP s d.1 d.2) (0, 0) = some ((iH s : Nat) : Int) := by
 refine jZ (step := fun d : Int × Int => dP s d.1 d.2) (I := fun d => ∃ i : Nat, i ≤ 18 ∧ d = ((iH (s.take i) : Int), (i : Int))) (fun d => (18 - d.2).toNat) (fun _ => ((iH s : Nat) : Int)) ?_ (0, 0) ⟨0, by decide, rfl⟩
 rintro d ⟨i, hi, rfl⟩
 show (∃ d', dP s (iH (s.take i) : Int) (i : Int) = _ ∧ _) ∨ dP s (iH (s.take i) : Int) (i : Int) = _
 unfold dP
 by_cases h : i < 18
 ·left
  have hc : s.getD i 0 ∈ s := by
   rw [List.getD_eq_getElem?_getD, List.getElem?_eq_getElem (show i < s.length by omega)]; exact List.getElem_mem _
  have hd := hs _ hc
  simp only [gR, decide_eq_true_iff] at hd
  have hsub : iD .u8 (s.getD i 0) 48 = s.getD i 0 - 48 := aTE (by omega) hd.1
  have hn : iH (s.take (i + 1)) = iH (s.take i) * 10 + (s.getD i 0 - 48) := by rw [take_succ (by omega), aDZ]
  have hlt : iH (s.take (i + 1)) < 10 ^ (s.take (i + 1)).length := wE (fun c hc => hs c (List.mem_of_mem_take hc))
  have hp : 10 ^ (s.take (i + 1)).length ≤ 10 ^ 18 := Nat.pow_le_pow_right (by decide) (by rw [List.length_take]; omega)
  refine ⟨((iH (s.take (i + 1)) : Int), ((i + 1 : Nat) : Int)), ?_, ⟨i + 1, by omega, rfl⟩, by simp only; omega, rfl⟩
  rw [if_pos (by omega), Int.toNat_natCast, hsub]
  refine aB (by constructor <;> omega) (aB (by constructor <;> omega) (aB (by constructor <;> omega) (aB (by constructor <;> omega) ?_)))
  rw [hn]
  congr 3
 ·right
  rw [if_neg (by omega), List.take_of_length_le (by omega)]
theorem aSK (g : Int) (k : Nat) (ek : IntKind.i64.wrap ((((g % (18446744073709551616 : Int)).toNat % 18 : Nat) : Int)) = (k : Int)) (hk : k < 18) : dC (fun d : Int × Int => dO g d.1 d.2) (1, 0) = some ((10 ^ k : Nat) : Int) := by
 refine jZ (step := fun d : Int × Int => dO g d.1 d.2) (I := fun d => ∃ i : Nat, i ≤ k ∧ d = (((10 ^ i : Nat) : Int), (i : Int))) (fun d => (k - d.2).toNat) (fun _ => ((10 ^ k : Nat) : Int)) ?_ (1, 0) ⟨0, Nat.zero_le _, rfl⟩
 rintro d ⟨i, hi, rfl⟩
 show (∃ d', dO g ((10 ^ i : Nat) : Int) (i : Int) = _ ∧ _) ∨ dO g ((10 ^ i : Nat) : Int) (i : Int) = _
 unfold dO
 rw [ek]
 by_cases h : i < k
 ·left
  have hp : 10 ^ (i + 1) ≤ 10 ^ 17 := Nat.pow_le_pow_right (by decide) (by omega)
  have hn : 10 ^ (i + 1) = 10 ^ i * 10 := Nat.pow_succ ..
  refine ⟨(((10 ^ (i + 1) : Nat) : Int), ((i + 1 : Nat) : Int)), ?_, ⟨i + 1, by omega, rfl⟩, by simp only; omega, rfl⟩
  rw [if_pos (by omega), hn]
  exact aB (by constructor <;> omega) (aB (by constructor <;> omega) rfl)
 ·right
  rw [if_neg (by omega), show i = k from by omega]
theorem aMm (p g : Int) (s t : List Nat) (k b : Nat) (ek : IntKind.i64.wrap ((((g % (18446744073709551616 : Int)).toNat % 18 : Nat) : Int)) = (k : Int)) (hk : k < 18) (eb : IntKind.i64.wrap ((((p % (18446744073709551616 : Int)).toNat % 100 : Nat) : Int)) = (b : Int)) (hb : b < 100) (hs : ∀ c ∈ s, gR c = true) (hl : s.length = 18) (ht : t.length ≤ 60) (hf : eF t = (s, -(k : Int), true, ())) : eX p s g t = some true := by
 have hA : aFx t = iH s := by unfold aFx; rw [hf]; simp only; rw [show (max (-(k : Int)) 0).toNat = 0 from by omega, Nat.pow_zero, Nat.mul_one]
 have hB : aD0 t = 10 ^ k := by unfold aD0; rw [hf]; simp only; rw [show (max (-(-(k : Int))) 0).toNat = k from by omega]
 have hq : iH s < 10 ^ 18 := by have := wE hs; rw [hl] at this; exact this
 have hD : aRa t (1 + (b : Int)) = ((vC t (1 + b) false, vC t (1 + b) true, ()), 0, ()) := by
  unfold aRa
  rw [if_neg (by rw [hf]; simp), if_neg (by omega), show (1 + (b : Int)).toNat = 1 + b from by omega]
 have hL := aRc t (1 + (b : Int)) (by omega)
 rw [hD] at hL
 have hj := aRq p (iH s) k b eb hb hq hk (fun up => vC t (1 + b) up) (fun up => by simp only [vC, hA, hB])
 unfold eX
 rw [eb]
 refine cE hL ?_
 simp only
 rw [if_neg (by simp)]
 refine cE (aSJ s hs hl) ?_
 unfold jO
 exact cE (aSK g k ek hk) hj
theorem aRr (g p : Int) (s : List Nat) (k b : Nat) (ek : IntKind.i64.wrap ((((g % (18446744073709551616 : Int)).toNat % 18 : Nat) : Int)) = (k : Int)) (hk : k < 18) (eb : IntKind.i64.wrap ((((p % (18446744073709551616 : Int)).toNat % 100 : Nat) : Int)) = (b : Int)) (hb : b < 100) (hs : ∀ c ∈ s, gR c = true) (hl : s.length = 18) : gC g p s = some true := by
 have en : ((18 : Int) - (k : Int)).toNat = 18 - k := by omega
 have h46 : aN ⟨#[46]⟩ = [46] := rfl
 have l1 : (s.take (18 - k)).length = 18 - k := by rw [List.length_take]; omega
 have l2 : (s.drop (18 - k)).length = k := by rw [List.length_drop]; omega
 unfold gC
 rw [ek, en, h46]
 refine aB (by constructor <;> omega) (aB (by omega) ?_)
 by_cases h0 : k = 0
 ·rw [if_neg (by omega)]
  subst h0
  have e : s.take (18 - 0) = s := List.take_of_length_le (by omega)
  rw [e]
  exact aMm p g s s 0 b ek hk eb hb hs hl (by omega) (aRd hs (by omega) (by omega))
 ·rw [if_pos (by omega)]
  have hf := aSs (a := s.take (18 - k)) (b := s.drop (18 - k)) (fun c hc => hs c (List.mem_of_mem_take hc)) (fun c hc => hs c (List.mem_of_mem_drop hc)) (by omega) (by omega) (by omega)
  rw [l2, List.take_append_drop] at hf
  refine aB (by rw [l1]; simp; omega) (aB (by constructor <;> omega) (aB (by omega) (aB (by rw [List.length_append, l1, l2]; simp; omega) ?_)))
  refine aMm p g s _ k b ek hk eb hb hs hl (by rw [List.length_append, List.length_append, l1, l2]; simp; omega) ?_
  rw [← hf, List.append_assoc]; rfl
theorem aRs (u : Nat) (s : List Nat) (i : Int) (hi : 0 ≤ i ∧ i < 18) (hs : s.length ≤ 100) : dB u s i = some (.inl (u / 10, [48 + u % 10] ++ s, i + 1)) := by
 have hm := Nat.mod_lt u (show 0 < 10 by decide)
 have hc := aT1 ⟨u % 10, hm⟩
 simp only at hc
 have hl : (aN ⟨#[48, 49, 50, 51, 52, 53, 54, 55, 56, 57]⟩).length = 10 := rfl
 unfold dB
 rw [Nat.mod_eq_of_lt (show u % 10 + 1 < 18446744073709551616 by omega), hc, hl, if_pos hi.2]
 exact aB (by omega) (aB (by simp; omega) (aB (by constructor <;> omega) rfl))
theorem aIX (n g p : Int) : mC n g p = some true := by
 obtain ⟨k, hk, ek⟩ := aOy g 18 (by decide) (by decide)
 obtain ⟨b, hb, eb⟩ := aOy p 100 (by decide) (by decide)
 have key := gU (step := fun d : Nat × (List Nat) × Int => dB d.1 d.2.1 d.2.2) (I := fun d => 0 ≤ d.2.2 ∧ d.2.2 ≤ 18 ∧ (d.2.1.length : Int) = d.2.2 ∧ ∀ c ∈ d.2.1, gR c = true) (fun d => (18 - d.2.2).toNat) (fun e => e.length = 18 ∧ ∀ c ∈ e, gR c = true) ?_ (((n % (18446744073709551616 : Int)).toNat / 16), aN ⟨#[]⟩, 0) ⟨by simp, by simp, by simp [aN], by simp [aN]⟩
 ·obtain ⟨e, h1, h2, h3⟩ := key
  unfold mC
  rw [eb]
  exact aB (by constructor <;> omega) (cE h1 (aRr g p e k b ek hk eb hb h3 h2))
 ·rintro ⟨u, s, i⟩ ⟨i0, i1, i2, i3⟩
  have i0 : 0 ≤ i := i0
  have i1 : i ≤ 18 := i1
  have i2 : (s.length : Int) = i := i2
  show (∃ d', dB u s i = _ ∧ _) ∨ ∃ e, dB u s i = _ ∧ _
  by_cases hi : i < 18
  ·left
   refine ⟨_, aRs u s i ⟨i0, hi⟩ (by omega), ⟨by simp only; omega, by simp only; omega, by simp; omega, aSt (aSI (Nat.mod_lt _ (by decide))) i3⟩, by simp only; omega⟩
  ·right
   refine ⟨s, ?_, by omega, i3⟩
   unfold dB
   rw [if_neg hi]
end Nu
end Go.Proofs
