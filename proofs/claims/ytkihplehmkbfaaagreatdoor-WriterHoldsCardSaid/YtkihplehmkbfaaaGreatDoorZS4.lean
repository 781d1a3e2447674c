import Derived.Test.YtkihplehmkbfaaaGreatDoorZS3
import Derived.Test.YtkihplehmkbfaaaGreatDoorZS2
set_option linter.unusedVariables false
set_option linter.unusedSimpArgs false
namespace Go.Proofs
open Go.Vc
set_option maxRecDepth 20000
namespace Nu
noncomputable def gV (i_0 : Int) (u_5 : Nat) : Option ((List Nat)) :=
 ck (((aL u_5).isSome = true)) (ck (I64 ((1 : Int) + ((aL u_5).getD (0 : Int)))) (ck ((1 : Int) < ((1 : Int) + ((aL u_5).getD (0 : Int))) ∧ ((1 : Int) + ((aL u_5).getD (0 : Int))) ≤ 24) (((cW (1 : Nat) ((((1 : Int) + ((aL u_5).getD (0 : Int))) - (1 : Int)).toNat) u_5 (List.replicate 24 (0 : Nat)))).bind (fun r_7 => if i_0 < (0 : Int) then ck (I64 ((1 : Int) + ((aL u_5).getD (0 : Int)))) (ck ((0 : Int) < ((1 : Int) + ((aL u_5).getD (0 : Int))) ∧ ((1 : Int) + ((aL u_5).getD (0 : Int))) ≤ 24) (ck ((0 : Nat) + ((((1 : Int) + ((aL u_5).getD (0 : Int))) - (0 : Int)).toNat) ≤ 24) (some (List.take ((((1 : Int) + ((aL u_5).getD (0 : Int))) - (0 : Int)).toNat) (List.drop (0 : Nat) (r_7.set (0 : Nat) (45 : Nat))))))) else ck (I64 ((1 : Int) + ((aL u_5).getD (0 : Int)))) (ck ((1 : Int) < ((1 : Int) + ((aL u_5).getD (0 : Int))) ∧ ((1 : Int) + ((aL u_5).getD (0 : Int))) ≤ 24) (ck ((1 : Nat) + ((((1 : Int) + ((aL u_5).getD (0 : Int))) - (1 : Int)).toNat) ≤ 24) (some (List.take ((((1 : Int) + ((aL u_5).getD (0 : Int))) - (1 : Int)).toNat) (List.drop (1 : Nat) r_7)))))))))
noncomputable def jN (i_0 : Int) (base_1 : Int) : Option (List Nat) :=
 if base_1 = (10 : Int) then if ((0 : Int) ≤ i_0) ∧ (i_0 < (100 : Int)) then ck (((fU i_0).isSome = true)) (some ((fU i_0).getD ([] : List Nat))) else if i_0 < (0 : Int) then gV i_0 (aKZ .u64 ((i_0 % (18446744073709551616 : Int)).toNat)) else gV i_0 ((i_0 % (18446744073709551616 : Int)).toNat) else none
def nM : Ty := .pair (.i .i64) (.pair (.i .i64) .unit)
attribute [go_sem] nM
noncomputable def mU : aJ := mSpec nM (.one .str) (fun x => jN x.1 x.2.1)
noncomputable def nN : List (FuncId × aJ) := [(215, jU), (216, gE)]
theorem xC : bL Tryz.prog GL nN := .cons aAu (by kernel_rfl) (.cons vB (by kernel_rfl) (.nil))
theorem aAU : gam nN 215 = some jU := rfl
attribute [go_sem] aAU
theorem aAV : gam nN 216 = some gE := rfl
attribute [go_sem] aAV
set_option maxHeartbeats 4000000 in
theorem aCs : FOK Tryz.prog GL 160 mU := by
 refine pS (bF xC) Tryz.func160 rfl (by kernel_rfl) (by decide) fun w0 S x r hw h => ?_
 have hF : iZ (fr Tryz.prog (EM nN) S w0 Tryz.f160.ntmps) := ⟨bF xC, mix⟩
 obtain ⟨(i_0 : Int), (base_1 : Int), u⟩ := x
 simp only [nM, Ty.wf, lT] at hw
 simp only [cC, nM]
 try dsimp only at h
 unfold jN at h
 refine aC (aE hF [0, 1] ?_)
 simp only [go_sem]
 refine aD (aC (aC (aE hF [0, 1, 11] ?_)))
 simp only [go_sem]
 refine aD (bG rfl (fun hc => ?_) (fun hc => ?_))
 ·try simp only [go_sem] at hc
  have h := eF (by first | exact hc | omega | (simpa using hc) | (simp at hc ⊢; omega)) h
  refine aC (aC (aE hF [0, 17] ?_))
  simp only [go_sem]
  refine aD (bG rfl (fun hc => ?_) (fun hc => ?_))
  ·try simp only [go_sem] at hc
   have h := eF (by first | exact hc | omega | (simpa using hc) | (simp at hc ⊢; omega)) h
   refine aC (aE hF [4] ?_)
   simp only [go_sem]
   obtain ⟨g0, h⟩ := aH h
   repeat (refine ⟨by first | with_reducible assumption | omega | (intros; first | assumption | omega) | (simp only [go_sem] at *; first | assumption | omega) | decide, ?_⟩)
   obtain rfl := Option.some.inj h
   refine aD (dD (bW (bW (fD hF [.tmp 4] rfl rfl rfl ?_))))
   (try simp only [iH, bA, go_sem]) <;> first | rfl | (simp; done)
  ·try simp only [go_sem] at hc
   have h := eG (by first | exact hc | omega | (simpa using hc) | (simp at hc ⊢; omega)) h
   refine bR (aD (aC (bC hF [0, 5] ?_)))
   simp only [go_sem]
   refine aD (aC (aE hF [0, 5, 6] ?_))
   simp only [go_sem]
   refine aD (jR (D := Nat) (fun d => gV i_0 d = some r) [0] (fun d => [(5, .ptr 0 []), (6, .val (.u .u64) d)]) (fun d => [.inr (.box 24 (.val (.arr 24 (.u .u8)) (List.replicate 24 (0 : Nat))))]) ?_ ?_)
   ·refine aC (aE hF [0, 5, 6, 23] ?_)
    simp only [go_sem]
    refine aD (bG rfl (fun hc => ?_) (fun hc => ?_))
    ·try simp only [go_sem] at hc
     have h := eF (by first | exact hc | omega | (simpa using hc) | (simp at hc ⊢; omega)) h
     refine aE hF [0, 5, 6] ?_
     simp only [go_sem]
     refine bB (aX ((aKZ .u64 ((i_0 % (18446744073709551616 : Int)).toNat))) h rfl ?_)
     ·(try simp only [jA, fL, true_or, and_self, go_sem]) <;> (repeat' apply And.intro) <;> first | rfl | (left; rfl) | (right; rfl) | (left; simp only [go_sem]; done) | (right; simp only [go_sem]; done) | (simp; done) | (simp only [*]; done) | omega
    ·try simp only [go_sem] at hc
     have h := eG (by first | exact hc | omega | (simpa using hc) | (simp at hc ⊢; omega)) h
     refine bR (bB (aX (((i_0 % (18446744073709551616 : Int)).toNat)) h rfl ?_))
     ·(try simp only [jA, fL, true_or, and_self, go_sem]) <;> (repeat' apply And.intro) <;> first | rfl | (left; rfl) | (right; rfl) | (left; simp only [go_sem]; done) | (right; simp only [go_sem]; done) | (simp; done) | (simp only [*]; done) | omega
   ·rintro u_5 h
    try dsimp only at h
    simp only [go_sem]
    unfold gV at h
    refine aC (aE hF [0, 5, 6, 7] ?_)
    simp only [go_sem]
    obtain ⟨g0, h⟩ := aH h
    repeat (refine ⟨by first | with_reducible assumption | omega | (intros; first | assumption | omega) | (simp only [go_sem] at *; first | assumption | omega) | decide, ?_⟩)
    obtain ⟨g0, h⟩ := aH h
    try simp only [I64, I32] at g0
    obtain ⟨g1, h⟩ := aH h
    obtain ⟨r_7, he1, h⟩ := bind_some h
    try dsimp only at h
    refine aD (aC (aT hF (cH (l := [(217, ⟨jG, [0], ((1 : Nat), ((((1 : Int) + ((aL u_5).getD (0 : Int))) - (1 : Int)).toNat), u_5, (List.replicate 24 (0 : Nat)), r_7)⟩)]) (.cons rX (by kernel_rfl) (.nil))) [0, 5, 7] [30] ?_))
    simp only [go_sem]
    repeat (refine ⟨by first | with_reducible assumption | omega | (intros; first | assumption | omega) | (simp only [go_sem] at *; first | assumption | omega) | decide, ?_⟩)
    refine aD (aC (aC (aE hF [5, 7, 34] ?_)))
    simp only [go_sem]
    refine aD (bG rfl (fun hc => ?_) (fun hc => ?_))
    ·try simp only [go_sem] at hc
     have h := eF (by first | exact hc | omega | (simpa using hc) | (simp at hc ⊢; omega)) h
     refine aC (bC hF [5, 7] ?_)
     simp only [go_sem]
     obtain ⟨g0, h⟩ := aH h
     try simp only [I64, I32] at g0
     obtain ⟨g1, h⟩ := aH h
     obtain ⟨g2, h⟩ := aH h
     refine aD (aC (aT hF (cH (l := []) (.nil)) [4] [38] ?_))
     simp only [go_sem]
     repeat (refine ⟨by first | with_reducible assumption | omega | (intros; first | assumption | omega) | (simp only [go_sem] at *; first | assumption | omega) | decide, ?_⟩)
     obtain rfl := Option.some.inj h
     refine aD (dD (bW (bW (fD hF [.tmp 4] rfl rfl rfl ?_))))
     (try simp only [iH, bA, go_sem]) <;> first | rfl | (simp; done)
    ·try simp only [go_sem] at hc
     have h := eG (by first | exact hc | omega | (simpa using hc) | (simp at hc ⊢; omega)) h
     obtain ⟨g0, h⟩ := aH h
     try simp only [I64, I32] at g0
     obtain ⟨g1, h⟩ := aH h
     obtain ⟨g2, h⟩ := aH h
     refine bR (aD (aC (aT hF (cH (l := []) (.nil)) [4] [42] ?_)))
     simp only [go_sem]
     repeat (refine ⟨by first | with_reducible assumption | omega | (intros; first | assumption | omega) | (simp only [go_sem] at *; first | assumption | omega) | decide, ?_⟩)
     obtain rfl := Option.some.inj h
     refine aD (dD (bW (fD hF [.tmp 4] rfl rfl rfl ?_)))
     (try simp only [iH, bA, go_sem]) <;> first | rfl | (simp; done)
 ·try simp only [go_sem] at hc
  have h := eG (by first | exact hc | omega | (simpa using hc) | (simp at hc ⊢; omega)) h
  cases h
attribute [go_sem] mU
noncomputable def pR (i_0 : Int) : Option (List Nat) :=
 (jN i_0 (10 : Int)).bind (fun v_5 => some v_5)
def aBk : PlR := ⟨[(0, .A [0]), (1, .A [2])], []⟩
def aCe : Ty := .pair (.i .i64) .unit
noncomputable def rJ : aJ := mSpec aCe (.one .str) (fun x => pR x.1)
noncomputable def aCf : List (FuncId × aJ) := [(160, mU)]
theorem aIs : bL Tryz.prog GL aCf := .cons aCs (by kernel_rfl) (.nil)
theorem aDO : gam aCf 160 = some mU := rfl
attribute [go_sem] aCe aBk aDO
set_option maxHeartbeats 4000000 in
theorem aGL : FOK Tryz.prog GL 93 rJ := by
 refine bZ (bF aIs) mix Tryz.func93 rfl (by kernel_rfl) (by decide) aBk fun w0 S x Θ hw h hF => ?_
 obtain ⟨(i_0 : Int), u⟩ := x
 simp only [cC, go_sem]
 replace h : sat (pR i_0) _ := h
 unfold pR at h
 obtain ⟨v_5, hv, h⟩ := cY h
 try simp only [hv, go_sem]
 exact aK hF [.tmp 2] rfl rfl rfl (aF h) (by simp only [bA, go_sem])
attribute [go_sem] rJ
noncomputable def jO (i_0 : Int) : Option (List Nat) :=
 (pR i_0).bind (fun v_5 => some v_5)
def aCg : PlR := ⟨[(0, .A [0]), (1, .A [2])], []⟩
def aDs : Ty := .pair (.i .i64) .unit
noncomputable def sH : aJ := mSpec aDs (.one .str) (fun x => jO x.1)
noncomputable def aDt : List (FuncId × aJ) := [(93, rJ)]
theorem aKR : bL Tryz.prog GL aDt := .cons aGL (by kernel_rfl) (.nil)
theorem aFX : gam aDt 93 = some rJ := rfl
attribute [go_sem] aDs aCg aFX
set_option maxHeartbeats 4000000 in
theorem aIt : FOK Tryz.prog GL 43 sH := by
 refine bZ (bF aKR) mix Tryz.func43 rfl (by kernel_rfl) (by decide) aCg fun w0 S x Θ hw h hF => ?_
 obtain ⟨(i_0 : Int), u⟩ := x
 simp only [cC, go_sem]
 replace h : sat (jO i_0) _ := h
 unfold jO at h
 obtain ⟨v_5, hv, h⟩ := cY h
 try simp only [hv, go_sem]
 exact aK hF [.tmp 2] rfl rfl rfl (aF h) (by simp only [bA, go_sem])
attribute [go_sem] sH
noncomputable def gL (s_0 : (List Nat)) (e_1 : Int) (o0_4 : Int) (o1_5 : (List (List Nat))) : Option ((Int × (List (List Nat)))) :=
 if o0_4 = (0 : Int) then ck (((o1_5.length) + (1 : Nat)) * 16 ≤ 140737488355328) (some (e_1, (o1_5 ++ ([s_0] : List (List Nat))))) else ck (((o1_5.length) + (1 : Nat)) * 16 ≤ 140737488355328) (some (o0_4, (o1_5 ++ ([s_0] : List (List Nat)))))
noncomputable def iW : mY where
 D := (List Nat) × Int × Int × (List (List Nat)) × ((Int × (List (List Nat))))
 av := fun d => [.val .str d.1, .val (.i .i64) d.2.1, .ptr 0 [], .ptr 1 []]
 hp := fun d => [.box 1 (.val (.i .i64) d.2.2.1), .box 1 (.own 2), .row 9 .str d.2.2.2.1]
 m := 2
 pre := fun d => gL d.1 d.2.1 d.2.2.1 d.2.2.2.1 = some d.2.2.2.2
 out := fun d => (fun r : (Int × (List (List Nat))) => .ret (.tup []) [.box 1 (.val (.i .i64) (r.1)), .box 1 (.own 2), .row 9 .str (r.2)]) d.2.2.2.2
noncomputable def aCh : List (FuncId × aJ) := []
theorem aCi : bL Tryz.prog GL aCh := .nil
set_option maxHeartbeats 4000000 in
theorem rK : GOK Tryz.prog GL 41 iW := by
 refine pN (bF aCi) Tryz.func41 rfl (by kernel_rfl) (fun _ => Nat.le_of_ble_eq_true rfl) fun c0 w0 d hw1 hw2 h hn => ?_
 have hF : iZ ⟨Tryz.prog, EM aCh, GM iW c0 d, w0, Tryz.f41.ntmps, []⟩ := ⟨bF aCi, mix⟩
 obtain ⟨(s_0 : (List Nat)), (e_1 : Int), (o0_4 : Int), (o1_5 : (List (List Nat))), r⟩ := d
 replace h : gL s_0 e_1 o0_4 o1_5 = some r := h
 have hw1 : AV.wfL [.val .str s_0, .val (.i .i64) e_1, .ptr 0 [], .ptr 1 []] := hw1
 simp only [AV.wfL, AV.wfV, Ty.wf, lT] at hw1
 show Tri _ _ _ [(0, .val .str s_0), (1, .val (.i .i64) e_1), (2, .ptr 0 []), (3, .ptr 1 [])] [.box 1 (.val (.i .i64) o0_4), .box 1 (.own 2), .row 9 .str o1_5]
 unfold gL at h
 refine aC (aC (aE hF [0, 1, 2, 3, 7] ?_))
 simp only [go_sem]
 refine aD (bG rfl (fun hc => ?_) (fun hc => ?_))
 ·try simp only [go_sem] at hc
  have h := eF (by first | exact hc | omega | (simpa using hc) | (simp at hc ⊢; omega)) h
  refine bC hF [0, 3] ?_
  simp only [go_sem]
  refine aD (bC hF [] ?_)
  simp only [go_sem]
  obtain ⟨g0, h⟩ := aH h
  repeat (refine ⟨by first | with_reducible assumption | omega | (intros; first | assumption | omega) | (simp only [go_sem] at *; first | assumption | omega) | decide, ?_⟩)
  obtain rfl := Option.some.inj h
  refine tX (oN [0, 1, 3] rfl rfl ?_)
  simp only [ren, gN, oE, posOf, eX, go_sem]
  refine qC hF [] rfl rfl rfl rfl rfl rfl ?_
  (try simp only [bA, zU, zC, fL, nU, AV.isAgg, go_sem]) <;> first | trivial | rfl | (simp; done)
 ·try simp only [go_sem] at hc
  have h := eG (by first | exact hc | omega | (simpa using hc) | (simp at hc ⊢; omega)) h
  refine bR (aD (bC hF [] ?_))
  simp only [go_sem]
  obtain ⟨g0, h⟩ := aH h
  repeat (refine ⟨by first | with_reducible assumption | omega | (intros; first | assumption | omega) | (simp only [go_sem] at *; first | assumption | omega) | decide, ?_⟩)
  obtain rfl := Option.some.inj h
  refine tX (oN [0, 1, 3] rfl rfl ?_)
  simp only [ren, gN, oE, posOf, eX, go_sem]
  refine qC hF [] rfl rfl rfl rfl rfl rfl ?_
  (try simp only [bA, zU, zC, fL, nU, AV.isAgg, go_sem]) <;> first | trivial | rfl | (simp; done)
attribute [go_sem] iW
noncomputable def iJ (n_0 : Int) (o1_3 : Int) (o2_4 : (List (List Nat))) : Option ((Int × (List (List Nat)))) :=
 ck (((jO n_0).isSome = true)) (((gL ((jO n_0).getD ([] : List Nat)) (0 : Int) o1_3 o2_4)).bind (fun r_7 => some ((r_7.1), (r_7.2))))
noncomputable def lP : mY where
 D := Int × Int × (List (List Nat)) × ((Int × (List (List Nat))))
 av := fun d => [.val (.i .i64) d.1, .ptr 0 []]
 hp := fun d => [.box 1 (.fn 41 [] [1, 2]), .box 1 (.val (.i .i64) d.2.1), .box 1 (.own 3), .row 9 .str d.2.2.1]
 m := 3
 pre := fun d => iJ d.1 d.2.1 d.2.2.1 = some d.2.2.2
 out := fun d => (fun r : (Int × (List (List Nat))) => .ret (.tup []) [.box 1 (.fn 41 [] [1, 2]), .box 1 (.val (.i .i64) (r.1)), .box 1 (.own 3), .row 9 .str (r.2)]) d.2.2.2
noncomputable def xK : List (FuncId × aJ) := [(43, sH)]
theorem aCj : bL Tryz.prog GL xK := .cons aIt (by kernel_rfl) (.nil)
theorem aES : gam xK 43 = some sH := rfl
attribute [go_sem] aES
set_option maxHeartbeats 4000000 in
theorem vT : GOK Tryz.prog GL 42 lP := by
 refine pN (bF aCj) Tryz.func42 rfl (by kernel_rfl) (fun _ => Nat.le_of_ble_eq_true rfl) fun c0 w0 d hw1 hw2 h hn => ?_
 have hF : iZ ⟨Tryz.prog, EM xK, GM lP c0 d, w0, Tryz.f42.ntmps, []⟩ := ⟨bF aCj, mix⟩
 obtain ⟨(n_0 : Int), (o1_3 : Int), (o2_4 : (List (List Nat))), r⟩ := d
 replace h : iJ n_0 o1_3 o2_4 = some r := h
 have hw1 : AV.wfL [.val (.i .i64) n_0, .ptr 0 []] := hw1
 simp only [AV.wfL, AV.wfV, Ty.wf, lT] at hw1
 show Tri _ _ _ [(0, .val (.i .i64) n_0), (1, .ptr 0 [])] [.box 1 (.fn 41 [] [1, 2]), .box 1 (.val (.i .i64) o1_3), .box 1 (.own 3), .row 9 .str o2_4]
 unfold iJ at h
 obtain ⟨g0, h⟩ := aH h
 obtain ⟨r_7, he1, h⟩ := bind_some h
 try dsimp only at h
 refine aBC hF (cH (l := [(41, ⟨iW, [1, 2, 3], (((jO n_0).getD ([] : List Nat)), (0 : Int), o1_3, o2_4, r_7)⟩)]) (.cons rK (by kernel_rfl) (.nil))) 3 (by decide) [] [] ?_
 simp only [go_sem]
 repeat (refine ⟨by first | with_reducible assumption | omega | (intros; first | assumption | omega) | (simp only [go_sem] at *; first | assumption | omega) | decide | ((repeat' apply And.intro) <;> first | assumption | rfl | omega) | fail, ?_⟩)
 simp only [aRE, go_sem]
 repeat (refine ⟨by first | with_reducible assumption | omega | (intros; first | assumption | omega) | (simp only [go_sem] at *; first | assumption | omega) | decide | ((repeat' apply And.intro) <;> first | assumption | rfl | omega) | fail, ?_⟩)
 obtain rfl := Option.some.inj h
 refine tX (oN [0, 1, 2, 4] rfl rfl ?_)
 simp only [ren, gN, oE, posOf, eX, go_sem]
 refine qC hF [] rfl rfl rfl rfl rfl rfl ?_
 (try simp only [bA, zU, zC, fL, nU, AV.isAgg, go_sem]) <;> first | trivial | rfl | (simp; done)
attribute [go_sem] lP
noncomputable def iK (d_0 : qD0) (o1_4 : Int) (o2_5 : Int) (o3_6 : (List (List Nat))) : Option ((Int × (Int × (List (List Nat))))) :=
 ck (((kI d_0 o1_4 false).isSome = true)) (((gL (((kI d_0 o1_4 false).getD (([] : List Nat), (0 : Int), ())).1) ((((kI d_0 o1_4 false).getD (([] : List Nat), (0 : Int), ())).2).1) o2_5 o3_6)).bind (fun r_9 => some (o1_4, (r_9.1), (r_9.2))))
noncomputable def lQ : mY where
 D := qD0 × Int × Int × (List (List Nat)) × ((Int × (Int × (List (List Nat)))))
 av := fun d => [.val (.pair .bool (.pair (.sl (.u .u64)) (.pair (.i .i64) .unit))) d.1, .ptr 0 [], .ptr 1 []]
 hp := fun d => [.box 1 (.fn 41 [] [2, 3]), .box 1 (.val (.i .i64) d.2.1), .box 1 (.val (.i .i64) d.2.2.1), .box 1 (.own 4), .row 9 .str d.2.2.2.1]
 m := 4
 pre := fun d => iK d.1 d.2.1 d.2.2.1 d.2.2.2.1 = some d.2.2.2.2
 out := fun d => (fun r : (Int × (Int × (List (List Nat)))) => .ret (.tup []) [.box 1 (.fn 41 [] [2, 3]), .box 1 (.val (.i .i64) (r.1)), .box 1 (.val (.i .i64) (r.2.1)), .box 1 (.own 4), .row 9 .str (r.2.2)]) d.2.2.2.2
noncomputable def xL : List (FuncId × aJ) := [(45, tF)]
theorem aCk : bL Tryz.prog GL xL := .cons aHG (by kernel_rfl) (.nil)
theorem aET : gam xL 45 = some tF := rfl
attribute [go_sem] aET
set_option maxHeartbeats 4000000 in
theorem vU : GOK Tryz.prog GL 44 lQ := by
 refine pN (bF aCk) Tryz.func44 rfl (by kernel_rfl) (fun _ => Nat.le_of_ble_eq_true rfl) fun c0 w0 d hw1 hw2 h hn => ?_
 have hF : iZ ⟨Tryz.prog, EM xL, GM lQ c0 d, w0, Tryz.f44.ntmps, []⟩ := ⟨bF aCk, mix⟩
 obtain ⟨(d_0 : qD0), (o1_4 : Int), (o2_5 : Int), (o3_6 : (List (List Nat))), r⟩ := d
 replace h : iK d_0 o1_4 o2_5 o3_6 = some r := h
 have hw1 : AV.wfL [.val (.pair .bool (.pair (.sl (.u .u64)) (.pair (.i .i64) .unit))) d_0, .ptr 0 [], .ptr 1 []] := hw1
 simp only [AV.wfL, AV.wfV, Ty.wf, lT] at hw1
 show Tri _ _ _ [(0, .val (.pair .bool (.pair (.sl (.u .u64)) (.pair (.i .i64) .unit))) d_0), (1, .ptr 0 []), (2, .ptr 1 [])] [.box 1 (.fn 41 [] [2, 3]), .box 1 (.val (.i .i64) o1_4), .box 1 (.val (.i .i64) o2_5), .box 1 (.own 4), .row 9 .str o3_6]
 unfold iK at h
 refine aC (bC hF [1, 2, 3] ?_)
 simp only [go_sem]
 obtain ⟨g0, h⟩ := aH h
 obtain ⟨r_9, he1, h⟩ := bind_some h
 try dsimp only at h
 refine aD (aBC hF (cH (l := [(41, ⟨iW, [2, 3, 4], ((((kI d_0 o1_4 false).getD (([] : List Nat), (0 : Int), ())).1), ((((kI d_0 o1_4 false).getD (([] : List Nat), (0 : Int), ())).2).1), o2_5, o3_6, r_9)⟩)]) (.cons rK (by kernel_rfl) (.nil))) 6 (by decide) [] [] ?_)
 simp only [go_sem]
 repeat (refine ⟨by first | with_reducible assumption | omega | (intros; first | assumption | omega) | (simp only [go_sem] at *; first | assumption | omega) | decide | ((repeat' apply And.intro) <;> first | assumption | rfl | omega) | fail, ?_⟩)
 simp only [aRE, go_sem]
 repeat (refine ⟨by first | with_reducible assumption | omega | (intros; first | assumption | omega) | (simp only [go_sem] at *; first | assumption | omega) | decide | ((repeat' apply And.intro) <;> first | assumption | rfl | omega) | fail, ?_⟩)
 obtain rfl := Option.some.inj h
 refine tX (oN [0, 1, 2, 3, 6] rfl rfl ?_)
 simp only [ren, gN, oE, posOf, eX, go_sem]
 refine qC hF [] rfl rfl rfl rfl rfl rfl ?_
 (try simp only [bA, zU, zC, fL, nU, AV.isAgg, go_sem]) <;> first | trivial | rfl | (simp; done)
attribute [go_sem] lQ
noncomputable def dH (s_1 : (List Nat)) (o0_2 : (Bool × (List Nat))) : Option (((Int × (Unit × Unit)) × (Bool × (List Nat)))) :=
 ((lF ((o0_2.1), (o0_2.2)))).bind (fun r_6 => ck ((((r_6.2).length) + (s_1.length)) * 1 ≤ 140737488355328) (some (((s_1.length : Int), (), ()), (r_6.1), ((r_6.2) ++ s_1))))
noncomputable def fV : mY where
 D := (List Nat) × (Bool × (List Nat)) × (((Int × (Unit × Unit)) × (Bool × (List Nat))))
 av := fun d => [.ptr 0 [], .val .str d.1]
 hp := fun d => [.box 4294967397 (.agg [pk (d.2.1.1) 0, .own 1]), .row 5 (.u .u8) (d.2.1.2)]
 m := 1
 pre := fun d => dH d.1 d.2.1 = some d.2.2
 out := fun d => (fun r : ((Int × (Unit × Unit)) × (Bool × (List Nat))) => .ret (.tup [.val (.i .i64) r.1.1, .val .nili r.1.2.1]) [.box 4294967397 (.agg [pk ((r.2).1) 0, .own 1]), .row 5 (.u .u8) ((r.2).2)]) d.2.2
noncomputable def pD : List (FuncId × aJ) := []
theorem pE : bL Tryz.prog GL pD := .nil
set_option maxHeartbeats 4000000 in
theorem vV : GOK Tryz.prog GL 50 fV := by
 refine pN (bF pE) Tryz.func50 rfl (by kernel_rfl) (fun _ => Nat.le_of_ble_eq_true rfl) fun c0 w0 d hw1 hw2 h hn => ?_
 have hF : iZ ⟨Tryz.prog, EM pD, GM fV c0 d, w0, Tryz.f50.ntmps, []⟩ := ⟨bF pE, mix⟩
 obtain ⟨(s_1 : (List Nat)), (o0_2 : (Bool × (List Nat))), r⟩ := d
 replace h : dH s_1 o0_2 = some r := h
 have hw1 : AV.wfL [.ptr 0 [], .val .str s_1] := hw1
 simp only [AV.wfL, AV.wfV, Ty.wf, lT] at hw1
 show Tri _ _ _ [(0, .ptr 0 []), (1, .val .str s_1)] [.box 4294967397 (.agg [pk (o0_2.1) 0, .own 1]), .row 5 (.u .u8) (o0_2.2)]
 unfold dH at h
 refine aC (aE hF [0, 1] ?_)
 simp only [go_sem]
 obtain ⟨r_6, he1, h⟩ := bind_some h
 try dsimp only at h
 refine aD (aC (aT hF (cH (l := [(114, ⟨kM, [0, 1], (((o0_2.1), (o0_2.2)), r_6)⟩)]) (.cons xJ (by kernel_rfl) (.nil))) [0, 1] [] ?_))
 simp only [go_sem]
 repeat (refine ⟨by first | with_reducible assumption | omega | (intros; first | assumption | omega) | (simp only [go_sem] at *; first | assumption | omega) | decide | ((repeat' apply And.intro) <;> first | assumption | rfl | omega) | fail, ?_⟩)
 refine aD (aC (bC hF [1] ?_))
 simp only [go_sem]
 obtain ⟨g0, h⟩ := aH h
 repeat (refine ⟨by first | with_reducible assumption | omega | (intros; first | assumption | omega) | (simp only [go_sem] at *; first | assumption | omega) | decide, ?_⟩)
 refine aD (aC (aE hF [4, 5] ?_))
 simp only [go_sem]
 obtain rfl := Option.some.inj h
 refine aD (dD (oN [0, 3] rfl rfl ?_))
 simp only [ren, gN, oE, posOf, eX, go_sem]
 refine qC hF [.tmp 4, .tmp 5] rfl rfl rfl rfl rfl rfl ?_
 (try simp only [bA, zU, zC, fL, nU, AV.isAgg, go_sem]) <;> first | trivial | rfl | (simp; done)
attribute [go_sem] fV
noncomputable def gW (x_42 : (List (List Nat))) (first_43 : Int) : Option (((List Nat) × (Int × Unit))) :=
 if ¬ (first_43 = (0 : Int)) then some ((bE ⟨#[]⟩), first_43, ()) else ck ((aSh x_42 (bE ⟨#[32]⟩))) (ck (((xB x_42 (bE ⟨#[32]⟩)).length) + ((bE ⟨#[10]⟩).length) ≤ 9223372036854775807) (some (((xB x_42 (bE ⟨#[32]⟩)) ++ (bE ⟨#[10]⟩)), (0 : Int), ())))
noncomputable def nO (r_0 : qR0) (x49_142 : Int) (r_131 : (Int × (Int × (List (List Nat))))) (x55_169 : Int) (x_170 : (List (List Nat))) (first_171 : Int) : Option ((Int × (List (List Nat)) × Int) ⊕ (((List (List Nat)) × Int))) :=
 if x55_169 < ((((((((((r_0.2).2).2).2).2).1).getD (x49_142.toNat) ([] : List qI0)).length) : Nat) : Int) then ck (0 ≤ x55_169 ∧ x55_169 < ((((((((((r_0.2).2).2).2).2).1).getD (x49_142.toNat) ([] : List qI0)).length) : Nat) : Int)) (ck (((fK ((((((((r_0.2).2).2).2).2).1).getD (x49_142.toNat) ([] : List qI0)).getD (x55_169.toNat) ((false, ([] : List Nat), (0 : Int), ()), (false, ([] : List Nat), (0 : Int), ()), ())) (r_131.1)).isSome = true)) (((gL (((fK ((((((((r_0.2).2).2).2).2).1).getD (x49_142.toNat) ([] : List qI0)).getD (x55_169.toNat) ((false, ([] : List Nat), (0 : Int), ()), (false, ([] : List Nat), (0 : Int), ()), ())) (r_131.1)).getD (([] : List Nat), (0 : Int), ())).1) ((((fK ((((((((r_0.2).2).2).2).2).1).getD (x49_142.toNat) ([] : List qI0)).getD (x55_169.toNat) ((false, ([] : List Nat), (0 : Int), ()), (false, ([] : List Nat), (0 : Int), ()), ())) (r_131.1)).getD (([] : List Nat), (0 : Int), ())).2).1) first_171 x_170)).bind (fun r_179 => ck (I64 (x55_169 + (1 : Int))) (some (.inl ((x55_169 + (1 : Int)), (r_179.2), (r_179.1))))))) else some (.inr (x_170, first_171))
noncomputable def nP (r_0 : qR0) (r_131 : (Int × (Int × (List (List Nat))))) (x49_142 : Int) (x_143 : (List (List Nat))) (first_144 : Int) : Option ((Int × (List (List Nat)) × Int) ⊕ (((List (List Nat)) × Int))) :=
 if x49_142 < (((((((r_0.2).2).2).2).2).1).length : Int) then ck (0 ≤ x49_142 ∧ x49_142 < (((((((r_0.2).2).2).2).2).1).length : Int)) ((eQ (fun d : Int × (List (List Nat)) × Int => nO r_0 x49_142 r_131 d.1 d.2.1 d.2.2) ((0 : Int), x_143, first_144)).bind (fun e => ck (I64 (x49_142 + (1 : Int))) (some (.inl ((x49_142 + (1 : Int)), e.1, e.2))))) else some (.inr (x_143, first_144))
noncomputable def gI (r_0 : qR0) (digits_1 : Int) : Option ((List Nat) × (Int × Unit)) :=
 ck (((pL r_0).isSome = true)) (if ¬ (((pL r_0).getD false) = true) then some ((bE ⟨#[]⟩), (1 : Int), ()) else ((gL ((aBs (.i .i64) (aEn (.i .i64) (aEn (.i .i64) (aEn (.i .i64) ([] : List (Int × (List Nat))) (1 : Int) (bE ⟨#[99, 111, 109, 109, 105, 116]⟩)) (2 : Int) (bE ⟨#[114, 101, 106, 101, 99, 116]⟩)) (3 : Int) (bE ⟨#[101, 110, 100]⟩)) (r_0.1)).getD ([] : List Nat)) (0 : Int) (0 : Int) ([] : List (List Nat)))).bind (fun r_4 => ((iJ ((r_0.2).1) (r_4.1) (r_4.2))).bind (fun r_6 => ((iK ((((r_0.2).2).2).1) digits_1 (r_6.1) (r_6.2))).bind (fun r_8 => if (r_0.1) = (1 : Int) then ((iK (((((r_0.2).2).2).2).1) (r_8.1) ((r_8.2).1) ((r_8.2).2))).bind (fun r_131 => (eQ (fun d : Int × (List (List Nat)) × Int => nP r_0 r_131 d.1 d.2.1 d.2.2) ((0 : Int), ((r_131.2).2), ((r_131.2).1))).bind (fun e => gW e.1 e.2)) else if (r_0.1) = (2 : Int) then ((iK (((((r_0.2).2).2).2).1) (r_8.1) ((r_8.2).1) ((r_8.2).2))).bind (fun r_180 => ((iJ (((r_0.2).2).1) ((r_180.2).1) ((r_180.2).2))).bind (fun r_182 => gW (r_182.2) (r_182.1))) else ((iJ (((r_0.2).2).1) ((r_8.2).1) ((r_8.2).2))).bind (fun r_184 => gW (r_184.2) (r_184.1))))))
def wG : Ty := .pair (.pair (.i .i64) (.pair (.i .i64) (.pair (.i .i64) (.pair (.pair .bool (.pair (.sl (.u .u64)) (.pair (.i .i64) .unit))) (.pair (.pair .bool (.pair (.sl (.u .u64)) (.pair (.i .i64) .unit))) (.pair (.sl (.sl (.pair (.pair .bool (.pair (.sl (.u .u64)) (.pair (.i .i64) .unit))) (.pair (.pair .bool (.pair (.sl (.u .u64)) (.pair (.i .i64) .unit))) .unit)))) (.pair (.sl (.sl (.pair (.sl (.pair .bool (.pair (.sl (.u .u64)) (.pair (.i .i64) .unit)))) (.pair (.sl (.pair (.pair .bool (.pair (.sl (.u .u64)) (.pair (.i .i64) .unit))) (.pair (.pair .bool (.pair (.sl (.u .u64)) (.pair (.i .i64) .unit))) .unit))) .unit)))) .unit))))))) (.pair (.i .i64) .unit)
attribute [go_sem] wG
noncomputable def oT : aJ := mSpec wG (.tup (.pair .str (.pair (.i .i64) .unit))) (fun x => gI x.1 x.2.1)
noncomputable def rZ : List (FuncId × aJ) := [(18, jK), (40, wF), (46, sG)]
theorem aEh : bL Tryz.prog GL rZ := .cons zS (by kernel_rfl) (.cons aL0 (by kernel_rfl) (.cons aIr (by kernel_rfl) (.nil)))
theorem aGM : gam rZ 18 = some jK := rfl
attribute [go_sem] aGM
theorem aGN : gam rZ 40 = some wF := rfl
attribute [go_sem] aGN
theorem aGO : gam rZ 46 = some sG := rfl
attribute [go_sem] aGO
set_option maxHeartbeats 4000000 in
theorem aDu : FOK Tryz.prog GL 14 oT := by
 refine pS (bF aEh) Tryz.func14 rfl (by kernel_rfl) (by decide) fun w0 S x r hw h => ?_
 have hF : iZ (fr Tryz.prog (EM rZ) S w0 Tryz.f14.ntmps) := ⟨bF aEh, mix⟩
 obtain ⟨(r_0 : qR0), (digits_1 : Int), u⟩ := x
 simp only [wG, Ty.wf, lT] at hw
 simp only [cC, wG]
 try dsimp only at h
 unfold gI at h
 refine aC (bC hF [2, 3] ?_)
 simp only [go_sem]
 refine aD (aC (aC (aE hF [2, 3, 17] ?_)))
 simp only [go_sem]
 obtain ⟨g0, h⟩ := aH h
 repeat (refine ⟨by first | with_reducible assumption | omega | (intros; first | assumption | omega) | (simp only [go_sem] at *; first | assumption | omega) | decide, ?_⟩)
 refine aD (bG rfl (fun hc => ?_) (fun hc => ?_))
 ·try simp only [go_sem] at hc
  have h := eF (by first | exact hc | omega | (simpa using hc) | (simp at hc ⊢; omega)) h
  refine aC (aE hF [4, 5] ?_)
  simp only [go_sem]
  obtain rfl := Option.some.inj h
  refine aD (dD (bW (fD hF [.tmp 4, .tmp 5] rfl rfl rfl ?_)))
  (try simp only [iH, bA, go_sem]) <;> first | rfl | (simp; done)
 ·try simp only [go_sem] at hc
  have h := eG (by first | exact hc | omega | (simpa using hc) | (simp at hc ⊢; omega)) h
  refine bR (aD (aC (bC hF [2, 3, 6] ?_)))
  simp only [go_sem]
  refine aWw 2 1 9 .str rfl ?_
  simp only [go_sem]
  refine aD (aC (bC hF [2, 3, 6, 7] ?_))
  simp only [go_sem]
  refine aD (aC (bC hF [2, 3, 6, 7, 8] ?_))
  simp only [go_sem]
  refine aD (aC (aE hF [2, 3, 6, 7, 8, 9] ?_))
  simp only [go_sem]
  refine aD (aC (aE hF [2, 3, 6, 7, 8, 9, 10] ?_))
  simp only [go_sem]
  obtain ⟨r_4, he1, h⟩ := bind_some h
  try dsimp only at h
  refine aD (aC (aT hF (cH (l := [(41, ⟨iW, [4, 2, 3], (((aBs (.i .i64) (aEn (.i .i64) (aEn (.i .i64) (aEn (.i .i64) ([] : List (Int × (List Nat))) (1 : Int) (bE ⟨#[99, 111, 109, 109, 105, 116]⟩)) (2 : Int) (bE ⟨#[114, 101, 106, 101, 99, 116]⟩)) (3 : Int) (bE ⟨#[101, 110, 100]⟩)) (r_0.1)).getD ([] : List Nat)), (0 : Int), (0 : Int), ([] : List (List Nat)), r_4)⟩)]) (.cons rK (by kernel_rfl) (.nil))) [2, 3, 6, 7, 8, 9, 10] [] ?_))
  simp only [go_sem]
  repeat (refine ⟨by first | with_reducible assumption | omega | (intros; first | assumption | omega) | (simp only [go_sem] at *; first | assumption | omega) | decide | ((repeat' apply And.intro) <;> first | assumption | rfl | omega) | fail, ?_⟩)
  obtain ⟨r_6, he2, h⟩ := bind_some h
  try dsimp only at h
  refine aD (aC (aT hF (cH (l := [(42, ⟨lP, [5, 4, 2, 7], (((r_0.2).1), (r_4.1), (r_4.2), r_6)⟩)]) (.cons vT (by kernel_rfl) (.nil))) [2, 3, 6, 7, 8, 9, 10] [] ?_))
  simp only [go_sem]
  repeat (refine ⟨by first | with_reducible assumption | omega | (intros; first | assumption | omega) | (simp only [go_sem] at *; first | assumption | omega) | decide | ((repeat' apply And.intro) <;> first | assumption | rfl | omega) | fail, ?_⟩)
  obtain ⟨r_8, he3, h⟩ := bind_some h
  try dsimp only at h
  refine aD (aC (aT hF (cH (l := [(44, ⟨lQ, [5, 1, 4, 2, 8], (((((r_0.2).2).2).1), digits_1, (r_6.1), (r_6.2), r_8)⟩)]) (.cons vU (by kernel_rfl) (.nil))) [2, 3, 6, 7, 8, 9, 10] [] ?_))
  simp only [go_sem]
  repeat (refine ⟨by first | with_reducible assumption | omega | (intros; first | assumption | omega) | (simp only [go_sem] at *; first | assumption | omega) | decide | ((repeat' apply And.intro) <;> first | assumption | rfl | omega) | fail, ?_⟩)
  refine aD (jR (D := (List (List Nat)) × Int) (fun d => gW d.1 d.2 = some r) [] (fun d => [(6, .ptr 0 []), (7, .ptr 2 [])]) (fun d => [.inr (.box 1 (.own 1)), .inr (.row 9 .str d.1), .inr (.box 1 (.val (.i .i64) d.2))]) ?_ ?_)
  ·refine aC (aE hF [2, 3, 6, 7, 8, 9, 10, 37] ?_)
   simp only [go_sem]
   refine aD (dO (aC (dO (aC (dO (aC (dO (aC (aC (aC (aE hF [2, 3, 6, 7, 8, 9, 10, 37, 38] ?_)))))))))))
   simp only [go_sem]
   refine aD (bG rfl (fun hc => ?_) (fun hc => ?_))
   ·try simp only [go_sem] at hc
    have h := eF (by first | exact hc | omega | (simpa using hc) | (simp at hc ⊢; omega)) h
    obtain ⟨r_131, he4, h⟩ := bind_some h
    try dsimp only at h
    refine kN (bS (bS (dA (aD (aC (aC (aT hF (cH (l := [(44, ⟨lQ, [5, 1, 4, 2, 9], ((((((r_0.2).2).2).2).1), (r_8.1), ((r_8.2).1), ((r_8.2).2), r_131)⟩)]) (.cons vU (by kernel_rfl) (.nil))) [2, 3, 6, 7, 8] [] ?_)))))))
    simp only [go_sem]
    repeat (refine ⟨by first | with_reducible assumption | omega | (intros; first | assumption | omega) | (simp only [go_sem] at *; first | assumption | omega) | decide | ((repeat' apply And.intro) <;> first | assumption | rfl | omega) | fail, ?_⟩)
    refine aD (aC (aE hF [3, 6, 7, 8, 47, 48, 49] ?_))
    simp only [go_sem]
    refine aD (dO (aM8 [1, 2, 10, 4, 5] rfl rfl ?_))
    simp only [ren, gN, oE, posOf, eX, go_sem]
    refine sV (D := Int × (List (List Nat)) × Int) [47, 48] (fun d => [(3, .ptr 0 []), (6, .ptr 1 []), (7, .ptr 3 []), (8, .ptr 4 []), (49, .val (.i .i64) d.1)]) (fun d => [.inr (.box 1 (.val (.i .i64) (r_131.1))), .inr (.box 1 (.own 2)), .inr (.row 9 .str d.2.1), .inr (.box 1 (.val (.i .i64) d.2.2)), .inr (.box 1 (.fn 41 [] [3, 1]))]) h ?_ ?_ ?_
    ·first | rfl | (simp only [go_sem]; done)
    ·(try simp only [jA, fL, true_or, and_self, go_sem]) <;> (repeat' apply And.intro) <;> first | rfl | (left; rfl) | (right; rfl) | (left; simp only [go_sem]; done) | (right; simp only [go_sem]; done) | (simp; done) | (simp only [*]; done) | omega
    rintro ⟨x49_142, x_143, first_144⟩ s16 h hs16
    simp only [go_sem]
    try dsimp only at h
    unfold nP at h
    refine aC (aE hF [3, 6, 7, 8, 47, 48, 49, 50] ?_)
    simp only [go_sem]
    refine aD (aC (bG rfl (fun hc => ?_) (fun hc => ?_)))
    ·try simp only [go_sem] at hc
     have h := eF (by first | exact hc | omega | (simpa using hc) | (simp at hc ⊢; omega)) h
     refine bR (aD (aC (dO (aC (aE hF [3, 6, 7, 8, 12, 47, 48, 49] ?_)))))
     simp only [go_sem]
     obtain ⟨g0, h⟩ := aH h
     repeat (refine ⟨by first | with_reducible assumption | omega | (intros; first | assumption | omega) | (simp only [go_sem] at *; first | assumption | omega) | decide, ?_⟩)
     refine aD (aC (aE hF [3, 6, 7, 8, 47, 48, 49, 53, 54, 55] ?_))
     simp only [go_sem]
     refine aD (dO (sV (D := Int × (List (List Nat)) × Int) [47, 48, 49, 53, 54] (fun d => [(3, .ptr 0 []), (6, .ptr 1 []), (7, .ptr 3 []), (8, .ptr 4 []), (55, .val (.i .i64) d.1)]) (fun d => [.inr (.box 1 (.val (.i .i64) (r_131.1))), .inr (.box 1 (.own 2)), .inr (.row 9 .str d.2.1), .inr (.box 1 (.val (.i .i64) d.2.2)), .inr (.box 1 (.fn 41 [] [3, 1]))]) h ?_ ?_ ?_))
     ·first | rfl | (simp only [go_sem]; done)
     ·(try simp only [jA, fL, true_or, and_self, go_sem]) <;> (repeat' apply And.intro) <;> first | rfl | (left; rfl) | (right; rfl) | (left; simp only [go_sem]; done) | (right; simp only [go_sem]; done) | (simp; done) | (simp only [*]; done) | omega
     rintro ⟨x55_169, x_170, first_171⟩ s19 h hs19
     simp only [go_sem]
     try dsimp only at h
     unfold nO at h
     refine aC (aE hF [3, 6, 7, 8, 47, 48, 49, 53, 54, 55, 56] ?_)
     simp only [go_sem]
     refine aD (aC (bG rfl (fun hc => ?_) (fun hc => ?_)))
     ·try simp only [go_sem] at hc
      have h := eF (by first | exact hc | omega | (simpa using hc) | (simp at hc ⊢; omega)) h
      refine bR (aD (aC (dO (aC (bC hF [3, 6, 7, 8, 14, 47, 48, 49, 53, 54, 55] ?_)))))
      simp only [go_sem]
      obtain ⟨g0, h⟩ := aH h
      repeat (refine ⟨by first | with_reducible assumption | omega | (intros; first | assumption | omega) | (simp only [go_sem] at *; first | assumption | omega) | decide, ?_⟩)
      obtain ⟨g0, h⟩ := aH h
      obtain ⟨r_179, he5, h⟩ := bind_some h
      try dsimp only at h
      refine aD (aBC hF (cH (l := [(41, ⟨iW, [3, 1, 2], ((((fK ((((((((r_0.2).2).2).2).2).1).getD (x49_142.toNat) ([] : List qI0)).getD (x55_169.toNat) ((false, ([] : List Nat), (0 : Int), ()), (false, ([] : List Nat), (0 : Int), ()), ())) (r_131.1)).getD (([] : List Nat), (0 : Int), ())).1), ((((fK ((((((((r_0.2).2).2).2).2).1).getD (x49_142.toNat) ([] : List qI0)).getD (x55_169.toNat) ((false, ([] : List Nat), (0 : Int), ()), (false, ([] : List Nat), (0 : Int), ()), ())) (r_131.1)).getD (([] : List Nat), (0 : Int), ())).2).1), first_171, x_170, r_179)⟩)]) (.cons rK (by kernel_rfl) (.nil))) 6 (by decide) [3, 6, 7, 8, 47, 48, 49, 53, 54, 55] [] ?_)
      simp only [go_sem]
      repeat (refine ⟨by first | with_reducible assumption | omega | (intros; first | assumption | omega) | (simp only [go_sem] at *; first | assumption | omega) | decide | ((repeat' apply And.intro) <;> first | assumption | rfl | omega) | fail, ?_⟩)
      simp only [aRE, go_sem]
      repeat (refine ⟨by first | with_reducible assumption | omega | (intros; first | assumption | omega) | (simp only [go_sem] at *; first | assumption | omega) | decide | ((repeat' apply And.intro) <;> first | assumption | rfl | omega) | fail, ?_⟩)
      refine eB (aD (aE hF [3, 6, 7, 8, 47, 48, 49, 53, 54, 55] ?_))
      simp only [go_sem]
      obtain ⟨g0, h⟩ := aH h
      try simp only [I64, I32] at g0
      repeat (refine ⟨by first | with_reducible assumption | omega | (intros; first | assumption | omega) | (simp only [go_sem] at *; first | assumption | omega) | decide, ?_⟩)
      obtain rfl := Option.some.inj h
      dsimp only [rN] at hs19
      refine bB (oN [0, 1, 6, 3, 4] rfl rfl ?_)
      simp only [ren, gN, oE, posOf, eX, go_sem]
      refine aX (((x55_169 + (1 : Int)), (r_179.2), (r_179.1))) hs19 rfl ?_
      ·(try simp only [jA, fL, true_or, and_self, go_sem]) <;> (repeat' apply And.intro) <;> first | rfl | (left; rfl) | (right; rfl) | (left; simp only [go_sem]; done) | (right; simp only [go_sem]; done) | (simp; done) | (simp only [*]; done) | omega
     ·try simp only [go_sem] at hc
      have h := eG (by first | exact hc | omega | (simpa using hc) | (simp at hc ⊢; omega)) h
      obtain rfl := Option.some.inj h
      dsimp only [rN] at hs19
      have h := hs19
      try dsimp only at h
      refine kN (bS (bS (dA (eB (aD (aE hF [3, 6, 7, 8, 47, 48, 49] ?_))))))
      simp only [go_sem]
      obtain ⟨g0, h⟩ := aH h
      try simp only [I64, I32] at g0
      repeat (refine ⟨by first | with_reducible assumption | omega | (intros; first | assumption | omega) | (simp only [go_sem] at *; first | assumption | omega) | decide, ?_⟩)
      obtain rfl := Option.some.inj h
      dsimp only [rN] at hs16
      refine bB (aX (((x49_142 + (1 : Int)), x_170, first_171)) hs16 rfl ?_)
      ·(try simp only [jA, fL, true_or, and_self, go_sem]) <;> (repeat' apply And.intro) <;> first | rfl | (left; rfl) | (right; rfl) | (left; simp only [go_sem]; done) | (right; simp only [go_sem]; done) | (simp; done) | (simp only [*]; done) | omega
    ·try simp only [go_sem] at hc
     have h := eG (by first | exact hc | omega | (simpa using hc) | (simp at hc ⊢; omega)) h
     obtain rfl := Option.some.inj h
     dsimp only [rN] at hs16
     have h := hs16
     try dsimp only at h
     refine kN (bS (bS (dA (aD (kN (jJ (by decide) (bS (jJ (by decide) (bS (dA (bB (oN [1, 2, 3] rfl rfl ?_))))))))))))
     simp only [ren, gN, oE, posOf, eX, go_sem]
     refine aX ((x_143, first_144)) h rfl ?_
     ·(try simp only [jA, fL, true_or, and_self, go_sem]) <;> (repeat' apply And.intro) <;> first | rfl | (left; rfl) | (right; rfl) | (left; simp only [go_sem]; done) | (right; simp only [go_sem]; done) | (simp; done) | (simp only [*]; done) | omega
   ·try simp only [go_sem] at hc
    have h := eG (by first | exact hc | omega | (simpa using hc) | (simp at hc ⊢; omega)) h
    refine bR (aD (aC (aE hF [2, 6, 7, 9, 10, 40] ?_)))
    simp only [go_sem]
    refine aD (bG rfl (fun hc => ?_) (fun hc => ?_))
    ·try simp only [go_sem] at hc
     have h := eF (by first | exact hc | omega | (simpa using hc) | (simp at hc ⊢; omega)) h
     obtain ⟨r_180, he6, h⟩ := bind_some h
     try dsimp only at h
     refine kN (bS (jJ (by decide) (bS (dA (aD (aT hF (cH (l := [(44, ⟨lQ, [5, 1, 4, 2, 9], ((((((r_0.2).2).2).2).1), (r_8.1), ((r_8.2).1), ((r_8.2).2), r_180)⟩)]) (.cons vU (by kernel_rfl) (.nil))) [2, 6, 7, 9] [] ?_))))))
     simp only [go_sem]
     repeat (refine ⟨by first | with_reducible assumption | omega | (intros; first | assumption | omega) | (simp only [go_sem] at *; first | assumption | omega) | decide | ((repeat' apply And.intro) <;> first | assumption | rfl | omega) | fail, ?_⟩)
     obtain ⟨r_182, he7, h⟩ := bind_some h
     try dsimp only at h
     refine eB (aD (aC (aT hF (cH (l := [(42, ⟨lP, [5, 4, 2, 10], ((((r_0.2).2).1), ((r_180.2).1), ((r_180.2).2), r_182)⟩)]) (.cons vT (by kernel_rfl) (.nil))) [6, 7] [] ?_)))
     simp only [go_sem]
     repeat (refine ⟨by first | with_reducible assumption | omega | (intros; first | assumption | omega) | (simp only [go_sem] at *; first | assumption | omega) | decide | ((repeat' apply And.intro) <;> first | assumption | rfl | omega) | fail, ?_⟩)
     refine aD (kN (dA (bB (oN [2, 11, 4] rfl rfl ?_))))
     simp only [ren, gN, oE, posOf, eX, go_sem]
     refine aX (((r_182.2), (r_182.1))) h rfl ?_
     ·(try simp only [jA, fL, true_or, and_self, go_sem]) <;> (repeat' apply And.intro) <;> first | rfl | (left; rfl) | (right; rfl) | (left; simp only [go_sem]; done) | (right; simp only [go_sem]; done) | (simp; done) | (simp only [*]; done) | omega
    ·try simp only [go_sem] at hc
     have h := eG (by first | exact hc | omega | (simpa using hc) | (simp at hc ⊢; omega)) h
     obtain ⟨r_184, he8, h⟩ := bind_some h
     try dsimp only at h
     refine bR (aD (kN (jJ (by decide) (bS (jJ (by decide) (bS (dA (aD (aC (aT hF (cH (l := [(42, ⟨lP, [5, 4, 2, 9], ((((r_0.2).2).1), ((r_8.2).1), ((r_8.2).2), r_184)⟩)]) (.cons vT (by kernel_rfl) (.nil))) [6, 7] [] ?_))))))))))
     simp only [go_sem]
     repeat (refine ⟨by first | with_reducible assumption | omega | (intros; first | assumption | omega) | (simp only [go_sem] at *; first | assumption | omega) | decide | ((repeat' apply And.intro) <;> first | assumption | rfl | omega) | fail, ?_⟩)
     refine aD (kN (dA (bB (oN [2, 10, 4] rfl rfl ?_))))
     simp only [ren, gN, oE, posOf, eX, go_sem]
     refine aX (((r_184.2), (r_184.1))) h rfl ?_
     ·(try simp only [jA, fL, true_or, and_self, go_sem]) <;> (repeat' apply And.intro) <;> first | rfl | (left; rfl) | (right; rfl) | (left; simp only [go_sem]; done) | (right; simp only [go_sem]; done) | (simp; done) | (simp only [*]; done) | omega
  ·rintro ⟨x_42, first_43⟩ h
   try dsimp only at h
   simp only [go_sem]
   unfold gW at h
   refine aC (aC (aE hF [6, 7, 77] ?_))
   simp only [go_sem]
   refine aD (bG rfl (fun hc => ?_) (fun hc => ?_))
   ·try simp only [go_sem] at hc
    have h := eF (by first | exact hc | omega | (simpa using hc) | (simp at hc ⊢; omega)) h
    refine aC (aE hF [4, 5] ?_)
    simp only [go_sem]
    obtain rfl := Option.some.inj h
    refine aD (dD (bW (fD hF [.tmp 4, .tmp 5] rfl rfl rfl ?_)))
    (try simp only [iH, bA, go_sem]) <;> first | rfl | (simp; done)
   ·try simp only [go_sem] at hc
    have h := eG (by first | exact hc | omega | (simpa using hc) | (simp at hc ⊢; omega)) h
    refine bR (aD (aC (aE hF [4, 5] ?_)))
    simp only [go_sem]
    obtain ⟨g0, h⟩ := aH h
    obtain ⟨g1, h⟩ := aH h
    repeat (refine ⟨by first | with_reducible assumption | omega | (intros; first | assumption | omega) | (simp only [go_sem] at *; first | assumption | omega) | decide, ?_⟩)
    obtain rfl := Option.some.inj h
    refine aD (dD (fD hF [.tmp 4, .tmp 5] rfl rfl rfl ?_))
    (try simp only [iH, bA, go_sem]) <;> first | rfl | (simp; done)
attribute [go_sem] oT
noncomputable def rL (l_0 : (List qR0)) (digits_1 : Int) (x13_12 : Int) (b_13 : Bool) (x_14 : (List Nat)) : Option ((Int × Bool × (List Nat)) ⊕ ((Bool × (List Nat)) ⊕ ((List Nat) × (Int × Unit)))) :=
 if x13_12 < (l_0.length : Int) then ck (0 ≤ x13_12 ∧ x13_12 < (l_0.length : Int)) (ck (((gI (l_0.getD (x13_12.toNat) ((0 : Int), (0 : Int), (0 : Int), (false, ([] : List Nat), (0 : Int), ()), (false, ([] : List Nat), (0 : Int), ()), ([] : List (List qI0)), ([] : List (List qT0)), ())) digits_1).isSome = true)) (if ¬ (((((gI (l_0.getD (x13_12.toNat) ((0 : Int), (0 : Int), (0 : Int), (false, ([] : List Nat), (0 : Int), ()), (false, ([] : List Nat), (0 : Int), ()), ([] : List (List qI0)), ([] : List (List qT0)), ())) digits_1).getD (([] : List Nat), (0 : Int), ())).2).1) = (0 : Int)) then some (.inr (.inr ((bE ⟨#[]⟩), ((((gI (l_0.getD (x13_12.toNat) ((0 : Int), (0 : Int), (0 : Int), (false, ([] : List Nat), (0 : Int), ()), (false, ([] : List Nat), (0 : Int), ()), ([] : List (List qI0)), ([] : List (List qT0)), ())) digits_1).getD (([] : List Nat), (0 : Int), ())).2).1), ()))) else ((dH (((gI (l_0.getD (x13_12.toNat) ((0 : Int), (0 : Int), (0 : Int), (false, ([] : List Nat), (0 : Int), ()), (false, ([] : List Nat), (0 : Int), ()), ([] : List (List qI0)), ([] : List (List qT0)), ())) digits_1).getD (([] : List Nat), (0 : Int), ())).1) (b_13, x_14))).bind (fun r_22 => ck (I64 (x13_12 + (1 : Int))) (some (.inl ((x13_12 + (1 : Int)), ((r_22.2).1), ((r_22.2).2))))))) else some (.inr (.inl (b_13, x_14)))
noncomputable def sA (l_0 : (List qR0)) (digits_1 : Int) : Option ((List Nat) × (Int × Unit)) :=
 (eQ (fun d : Int × Bool × (List Nat) => rL l_0 digits_1 d.1 d.2.1 d.2.2) ((0 : Int), true, ([] : List Nat))).bind (fun e => match e with | (.inl e) => ((jI (e.1, e.2))).bind (fun r_26 => some (r_26, (0 : Int), ())) | (.inr e) => some e)
def wH : Ty := .pair (.sl (.pair (.i .i64) (.pair (.i .i64) (.pair (.i .i64) (.pair (.pair .bool (.pair (.sl (.u .u64)) (.pair (.i .i64) .unit))) (.pair (.pair .bool (.pair (.sl (.u .u64)) (.pair (.i .i64) .unit))) (.pair (.sl (.sl (.pair (.pair .bool (.pair (.sl (.u .u64)) (.pair (.i .i64) .unit))) (.pair (.pair .bool (.pair (.sl (.u .u64)) (.pair (.i .i64) .unit))) .unit)))) (.pair (.sl (.sl (.pair (.sl (.pair .bool (.pair (.sl (.u .u64)) (.pair (.i .i64) .unit)))) (.pair (.sl (.pair (.pair .bool (.pair (.sl (.u .u64)) (.pair (.i .i64) .unit))) (.pair (.pair .bool (.pair (.sl (.u .u64)) (.pair (.i .i64) .unit))) .unit))) .unit)))) .unit)))))))) (.pair (.i .i64) .unit)
attribute [go_sem] wH
noncomputable def uQ : aJ := mSpec wH (.tup (.pair .str (.pair (.i .i64) .unit))) (fun x => sA x.1 x.2.1)
noncomputable def aAW : List (FuncId × aJ) := [(14, oT)]
theorem aEi : bL Tryz.prog GL aAW := .cons aDu (by kernel_rfl) (.nil)
theorem aGP : gam aAW 14 = some oT := rfl
attribute [go_sem] aGP
set_option maxHeartbeats 4000000 in
theorem aKS : FOK Tryz.prog GL 16 uQ := by
 refine pS (bF aEi) Tryz.func16 rfl (by kernel_rfl) (by decide) fun w0 S x r hw h => ?_
 have hF : iZ (fr Tryz.prog (EM aAW) S w0 Tryz.f16.ntmps) := ⟨bF aEi, mix⟩
 obtain ⟨(l_0 : (List qR0)), (digits_1 : Int), u⟩ := x
 simp only [wH, Ty.wf, lT] at hw
 simp only [cC, wH]
 try dsimp only at h
 unfold sA at h
 refine aC (aE hF [0, 1] ?_)
 simp only [go_sem]
 refine aD (aC (bC hF [0, 1, 6] ?_))
 simp only [go_sem]
 refine aUu 0 4294967397 5 rfl ?_
 simp only [go_sem]
 refine aD (aC (aC (aE hF [1, 6, 11, 12, 13] ?_)))
 simp only [go_sem]
 refine aD (dO (sV (D := Int × Bool × (List Nat)) [1, 11, 12] (fun d => [(6, .ptr 0 []), (13, .val (.i .i64) d.1)]) (fun d => [.inr (.box 4294967397 (.agg [pk d.2.1 0, .own 1])), .inr (.row 5 (.u .u8) d.2.2)]) h ?_ ?_ ?_))
 ·first | rfl | (simp only [go_sem]; done)
 ·(try simp only [jA, fL, true_or, and_self, go_sem]) <;> (repeat' apply And.intro) <;> first | rfl | (left; rfl) | (right; rfl) | (left; simp only [go_sem]; done) | (right; simp only [go_sem]; done) | (simp; done) | (simp only [*]; done) | omega
 rintro ⟨x13_12, b_13, x_14⟩ s3 h hs3
 simp only [go_sem]
 try dsimp only at h
 unfold rL at h
 refine aC (aE hF [1, 6, 11, 12, 13, 14] ?_)
 simp only [go_sem]
 refine aD (aC (bG rfl (fun hc => ?_) (fun hc => ?_)))
 ·try simp only [go_sem] at hc
  have h := eF (by first | exact hc | omega | (simpa using hc) | (simp at hc ⊢; omega)) h
  refine bR (aD (aC (dO (aC (bC hF [1, 6, 8, 11, 12, 13] ?_)))))
  simp only [go_sem]
  obtain ⟨g0, h⟩ := aH h
  repeat (refine ⟨by first | with_reducible assumption | omega | (intros; first | assumption | omega) | (simp only [go_sem] at *; first | assumption | omega) | decide, ?_⟩)
  refine aD (aC (aE hF [1, 6, 9, 10, 11, 12, 13] ?_))
  simp only [go_sem]
  obtain ⟨g0, h⟩ := aH h
  repeat (refine ⟨by first | with_reducible assumption | omega | (intros; first | assumption | omega) | (simp only [go_sem] at *; first | assumption | omega) | decide, ?_⟩)
  refine aD (aC (aC (aE hF [1, 6, 9, 10, 11, 12, 13, 24] ?_)))
  simp only [go_sem]
  refine aD (bG rfl (fun hc => ?_) (fun hc => ?_))
  ·try simp only [go_sem] at hc
   have h := eF (by first | exact hc | omega | (simpa using hc) | (simp at hc ⊢; omega)) h
   refine aC (aE hF [4, 5] ?_)
   simp only [go_sem]
   obtain rfl := Option.some.inj h
   dsimp only [rN] at hs3
   have h := hs3
   try dsimp only at h
   obtain rfl := Option.some.inj h
   refine aD (dD (bW (eO (bW (bW (eO (bW (fD hF [.tmp 4, .tmp 5] rfl rfl rfl ?_))))))))
   (try simp only [iH, bA, go_sem]) <;> first | rfl | (simp; done)
  ·try simp only [go_sem] at hc
   have h := eG (by first | exact hc | omega | (simpa using hc) | (simp at hc ⊢; omega)) h
   obtain ⟨r_22, he1, h⟩ := bind_some h
   try dsimp only at h
   refine bR (aD (aT hF (cH (l := [(50, ⟨fV, [0, 1], ((((gI (l_0.getD (x13_12.toNat) ((0 : Int), (0 : Int), (0 : Int), (false, ([] : List Nat), (0 : Int), ()), (false, ([] : List Nat), (0 : Int), ()), ([] : List (List qI0)), ([] : List (List qT0)), ())) digits_1).getD (([] : List Nat), (0 : Int), ())).1), (b_13, x_14), r_22)⟩)]) (.cons vV (by kernel_rfl) (.nil))) [1, 6, 11, 12, 13] [] ?_))
   simp only [go_sem]
   repeat (refine ⟨by first | with_reducible assumption | omega | (intros; first | assumption | omega) | (simp only [go_sem] at *; first | assumption | omega) | decide | ((repeat' apply And.intro) <;> first | assumption | rfl | omega) | fail, ?_⟩)
   refine eB (aD (aE hF [1, 6, 11, 12, 13] ?_))
   simp only [go_sem]
   obtain ⟨g0, h⟩ := aH h
   try simp only [I64, I32] at g0
   repeat (refine ⟨by first | with_reducible assumption | omega | (intros; first | assumption | omega) | (simp only [go_sem] at *; first | assumption | omega) | decide, ?_⟩)
   obtain rfl := Option.some.inj h
   dsimp only [rN] at hs3
   refine bB (oN [0, 3] rfl rfl ?_)
   simp only [ren, gN, oE, posOf, eX, go_sem]
   refine aX (((x13_12 + (1 : Int)), ((r_22.2).1), ((r_22.2).2))) hs3 rfl ?_
   ·(try simp only [jA, fL, true_or, and_self, go_sem]) <;> (repeat' apply And.intro) <;> first | rfl | (left; rfl) | (right; rfl) | (left; simp only [go_sem]; done) | (right; simp only [go_sem]; done) | (simp; done) | (simp only [*]; done) | omega
 ·try simp only [go_sem] at hc
  have h := eG (by first | exact hc | omega | (simpa using hc) | (simp at hc ⊢; omega)) h
  obtain rfl := Option.some.inj h
  dsimp only [rN] at hs3
  have h := hs3
  try dsimp only at h
  obtain ⟨r_24, he2, h⟩ := bind_some h
  try dsimp only at h
  refine kN (bS (bS (dA (aD (aC (aT hF (cH (l := [(51, ⟨iN, [0, 1], ((b_13, x_14), r_24)⟩)]) (.cons aAa (by kernel_rfl) (.nil))) [4, 5] [] ?_))))))
  simp only [go_sem]
  repeat (refine ⟨by first | with_reducible assumption | omega | (intros; first | assumption | omega) | (simp only [go_sem] at *; first | assumption | omega) | decide | ((repeat' apply And.intro) <;> first | assumption | rfl | omega) | fail, ?_⟩)
  obtain rfl := Option.some.inj h
  refine aD (dD (fD hF [.tmp 4, .tmp 5] rfl rfl rfl ?_))
  (try simp only [iH, bA, go_sem]) <;> first | rfl | (simp; done)
attribute [go_sem] uQ
end Nu
end Go.Proofs
namespace Go.Proofs
open Go.Vc
set_option maxRecDepth 20000
namespace Nu
theorem aXb (u : Nat) (h : u < 4294967296) : jO (u : Int) = some (oU u) := by
 have key : jN (u : Int) 10 = some (oU u) := by
  unfold jN
  rw [if_pos rfl]
  by_cases h1 : u < 100
  ·rw [if_pos (by omega)]
   simp only [aPs u h1, Option.getD_some]
   exact aB rfl rfl
  ·have hB : u < 18446744073709551616 := by show u < 18446744073709551616; omega
   rw [if_neg (by omega), if_neg (by omega)]
   have hn := aEd u (by omega) hB
   obtain ⟨k1, k2⟩ := Lib.numDigits_eq u (by omega) hB
   have hle : Lib.nDigits u ≤ 20 := by split at k1 <;> omega
   have hpos := Lib.nDigits_pos u
   have hlt := Lib.lt_pow_nDigits u
   have eu : ((u : Int) % 18446744073709551616).toNat = u := by omega
   unfold gV
   simp only [eu, hn, Option.getD_some]
   have e : ((1 : Int) + (Lib.nDigits u : Int) - 1).toNat = Lib.nDigits u := by omega
   rw [e]
   have hf : cW 1 (Lib.nDigits u) u (List.replicate 24 0) = some ([0] ++ oU u ++ (List.replicate 24 0).drop (1 + Lib.nDigits u)) := by
    unfold cW
    refine aB (by omega) (aB hlt ?_)
    rfl
   refine aB rfl (aB (by constructor <;> omega) (aB (by constructor <;> omega) (bH hf ?_)))
   rw [if_neg (by omega)]
   refine aB (by constructor <;> omega) (aB (by constructor <;> omega) (aB (by omega) ?_))
   rw [List.append_assoc, List.drop_append_of_le_length (by simp), List.drop_of_length_le (by simp), List.nil_append, List.take_append_of_le_length (by unfold oU; rw [pJ]; exact Nat.le_refl _), List.take_of_length_le (by unfold oU; rw [pJ]; exact Nat.le_refl _)]
 unfold jO pR
 rw [key]; rfl
theorem aPE {u : Nat} (h : u < 4294967296) : (oU u).length ≤ 20 := by
 unfold oU
 rw [pJ]
 by_cases h0 : u < 10
 ·rw [Lib.nDigits_small h0]; decide
 ·have hB : u < 18446744073709551616 := by show u < 18446744073709551616; omega
  obtain ⟨k1, k2⟩ := Lib.numDigits_eq u (by omega) hB
  split at k1 <;> omega
theorem yP (d : Dy) (k : Int) (up : Bool) (lm : Lm d.2.1) : (jW d k up).1.length ≤ 3000000 := by
 unfold jW
 split
 ·exact Nat.zero_le _
 ·rename_i h1
  split
  ·exact Nat.zero_le _
  ·rename_i h2
   have hm : dV d = true := by
    cases hh : dV d with
    | true => rfl
    | false => exact absurd (.inl hh) h1
   obtain ⟨a1, a2, a3, a4⟩ := jT hm
   have hM := aQL (k := k.toNat) lm a1 (by omega) (by omega)
   have hq : txQ d k.toNat up < 18446744073709551616 ^ 10000 := by
    have hb : 18446744073709551616 ^ 200 < 18446744073709551616 ^ 10000 := aR0 200 10000 (by decide)
    have hx := Nat.div_le_self (txM d k.toNat) (2 ^ (max (-d.2.2.1) 0).toNat)
    unfold txQ
    simp only
    split <;> omega
   have hl := aNW (Nat.le_trans (aVm hq) (by decide))
   have hp : (rI k.toNat (txt (txQ d k.toNat up))).length ≤ 2000000 := by
    unfold rI
    rw [List.length_append, List.length_replicate]
    omega
   have hpt : (ptS k.toNat (rI k.toNat (txt (txQ d k.toNat up)))).length ≤ 2000001 := by
    unfold ptS
    split
    ·simp only [List.length_append, List.length_take, List.length_drop, List.length_cons, List.length_nil]
     omega
    ·omega
   show (sgS _ _ _).length ≤ _
   unfold sgS
   split
   ·simp only [List.length_cons]; omega
   ·omega
def sB (a : Iv) (n : Int) : List Nat × Int × Unit :=
 if aDp a = false then ([], 1, ())
 else if (jW a.1 n false).2.1 ≠ 0 then ([], (jW a.1 n false).2.1, ())
 else if (jW a.2.1 n true).2.1 ≠ 0 then ([], (jW a.2.1 n true).2.1, ())
 else ([91] ++ (jW a.1 n false).1 ++ [44, 32] ++ (jW a.2.1 n true).1 ++ [93], 0, ())
theorem aMN (a : Iv) (n : Int) (lm : LmI a) : (sB a n).1.length ≤ 6000010 := by
 have h1 := yP a.1 n false lm.1
 have h2 := yP a.2.1 n true lm.2
 unfold sB
 split
 ·exact Nat.zero_le _
 ·split
  ·exact Nat.zero_le _
  ·split
   ·exact Nat.zero_le _
   ·simp only [List.length_append, List.length_cons, List.length_nil]
    omega
theorem aZg : bE ⟨#[91]⟩ = [91] := rfl
theorem aZh : bE ⟨#[93]⟩ = [93] := rfl
theorem aZi : bE ⟨#[44, 32]⟩ = [44, 32] := rfl
theorem aZj : bE ⟨#[32]⟩ = [32] := rfl
theorem aZk : bE ⟨#[10]⟩ = [10] := rfl
theorem aKT (a : Iv) (n : Int) (lm : LmI a) : fK a n = some (sB a n) := by
 have l1 := yP a.1 n false lm.1
 have l2 := yP a.2.1 n true lm.2
 unfold fK sB
 refine bH (aDq a lm) ?_
 cases aDp a with
 | false => rw [if_pos (by decide), if_pos rfl]; rfl
 | true =>
  rw [if_neg (by decide), if_neg (by decide)]
  refine bH (aNX a.1 n false lm.1) ?_
  by_cases h1 : (jW a.1 n false).2.1 ≠ 0
  ·rw [if_pos h1, if_pos h1]; rfl
  ·rw [if_neg h1, if_neg h1]
   refine bH (aNX a.2.1 n true lm.2) ?_
   by_cases h2 : (jW a.2.1 n true).2.1 ≠ 0
   ·rw [if_pos h2, if_pos h2]; rfl
   ·rw [if_neg h2, if_neg h2, aZg, aZh, aZi]
    refine aB ?_ (aB ?_ (aB ?_ (aB ?_ rfl))) <;> simp only [List.length_append, List.length_cons, List.length_nil] <;> omega
abbrev Tx := List Nat × Int × Unit
def nQ (st : Int × List (List Nat)) (x : Tx) : Int × List (List Nat) := (if st.1 = 0 then x.2.1 else st.1, st.2 ++ [x.1])
def aDv (k : Int) : List Nat := if k = 1 then [99, 111, 109, 109, 105, 116] else if k = 2 then [114, 101, 106, 101, 99, 116] else if k = 3 then [101, 110, 100] else []
def aMO (r : Rec) (n : Int) : List Tx :=
 if r.1 = 1 then jW r.2.2.2.2.1 n false :: (r.2.2.2.2.2.1.flatten.map (sB · n))
 else if r.1 = 2 then [jW r.2.2.2.2.1 n false, (oU r.2.2.1.toNat, 0, ())]
 else [(oU r.2.2.1.toNat, 0, ())]
def qX (r : Rec) (n : Int) : List Tx := [(aDv r.1, 0, ()), (oU r.2.1.toNat, 0, ()), jW r.2.2.2.1 n false] ++ aMO r n
def aXc (l : List Tx) : Int := (l.foldl nQ (0, [])).1
def tH (r : Rec) (n : Int) : Tx :=
 if xI r = false then ([], 1, ())
 else if aXc (qX r n) ≠ 0 then ([], aXc (qX r n), ())
 else (xB ((qX r n).map (·.1)) [32] ++ [10], 0, ())
theorem aGQ : ∀ (l : List Tx) (st : Int × List (List Nat)), (l.foldl nQ st).2 = st.2 ++ l.map (·.1)
 | [], st => by simp
 | x :: r, st => by
  rw [List.foldl_cons, aGQ r, List.map_cons]
  show (st.2 ++ [x.1]) ++ _ = _
  simp
theorem put_eq (x : Tx) (st : Int × List (List Nat)) (h : st.2.length ≤ 100000) : gL x.1 x.2.1 st.1 st.2 = some (nQ st x) := by
 unfold gL nQ
 by_cases h0 : st.1 = 0
 ·rw [if_pos h0, if_pos h0]; exact aB (by omega) rfl
 ·rw [if_neg h0, if_neg h0]; exact aB (by omega) rfl
theorem aQR (n : Int) (st : Int × List (List Nat)) (h0 : 0 ≤ n) (h1 : n ≤ 4294967295) (h : st.2.length ≤ 100000) : iJ n st.1 st.2 = some (nQ st (oU n.toNat, 0, ())) := by
 have hi := aXb n.toNat (by omega)
 rw [Int.toNat_of_nonneg h0] at hi
 have hp := put_eq (oU n.toNat, 0, ()) st h
 unfold iJ
 rw [hi]
 exact aB rfl (bH hp rfl)
theorem aVH (d : Dy) (n : Int) (st : Int × List (List Nat)) (lm : Lm d.2.1) (h : st.2.length ≤ 100000) : iK d n st.1 st.2 = some (n, nQ st (jW d n false)) := by
 have hp := put_eq (jW d n false) st h
 unfold iK
 rw [aNX d n false lm]
 exact aB rfl (bH hp rfl)
theorem aXd (l : List Tx) (st : Int × List (List Nat)) : (l.foldl nQ st).2.length = st.2.length + l.length := by
 rw [aGQ]; simp
theorem aVI (r : Rec) (q : Int × Int × List (List Nat)) (x : Nat) (b : List Iv) (hb : r.2.2.2.2.2.1.getD x [] = b) (lm : ∀ a ∈ b, LmI a) (st : Int × List (List Nat)) (hb2 : b.length ≤ 100) (hl : st.2.length ≤ 10000) :
  eQ (fun d : Int × List (List Nat) × Int => nO r (x : Int) q d.1 d.2.1 d.2.2) (0, st.2, st.1) = some (((b.map (sB · q.1)).foldl nQ st).2, ((b.map (sB · q.1)).foldl nQ st).1) := by
 have key := kO (step := fun d : Int × List (List Nat) × Int => nO r (x : Int) q d.1 d.2.1 d.2.2)
  (I := fun d => ∃ i : Nat, d.1 = i ∧ i ≤ b.length ∧ d.2.1.length = st.2.length + i)
  (fun d => (b.length - d.1).toNat) (fun d => ((((b.drop d.1.toNat).map (sB · q.1)).foldl nQ (d.2.2, d.2.1)).2, (((b.drop d.1.toNat).map (sB · q.1)).foldl nQ (d.2.2, d.2.1)).1)) (fun d hd => by
   obtain ⟨d1, d2, d3⟩ := d
   obtain ⟨i, rfl, hi, hlen⟩ := hd
   simp only at hlen ⊢
   unfold nO
   rw [Int.toNat_natCast, Int.toNat_natCast, hb]
   rcases Nat.lt_or_ge i b.length with hlt | hge
   ·left
    have hm := zT (z := (((false, [], 0, ()), (false, [], 0, ()), ()) : Iv)) hlt
    have hw := aKT _ q.1 (lm _ hm)
    have hp := put_eq (sB (b.getD i ((false, [], 0, ()), (false, [], 0, ()), ())) q.1) (d3, d2) (by simp only; omega)
    refine ⟨((i : Int) + 1, (nQ (d3, d2) (sB (b.getD i ((false, [], 0, ()), (false, [], 0, ()), ())) q.1)).2, (nQ (d3, d2) (sB (b.getD i ((false, [], 0, ()), (false, [], 0, ()), ())) q.1)).1), ?_, ⟨i + 1, by simp, hlt, by simp [nQ, hlen]; omega⟩, by simp only; omega, ?_⟩
    ·rw [if_pos (by omega), hw]
     refine aB (by constructor <;> omega) (aB rfl (bH hp (aB (by constructor <;> omega) rfl)))
    ·have e : b.drop i = b.getD i ((false, [], 0, ()), (false, [], 0, ()), ()) :: b.drop (i + 1) := by
      rw [List.drop_eq_getElem_cons hlt]; simp [List.getD, hlt]
     have e1 : ((i : Int) + 1).toNat = i + 1 := by omega
     simp only [e1]
     rw [e, List.map_cons, List.foldl_cons]
   ·right
    obtain rfl : i = b.length := by omega
    rw [if_neg (by omega), List.drop_length]; rfl) (0, st.2, st.1) ⟨0, rfl, Nat.zero_le _, rfl⟩
 exact key
theorem aVJ (r : Rec) (q : Int × Int × List (List Nat)) (lm : ∀ b ∈ r.2.2.2.2.2.1, ∀ a ∈ b, LmI a) (hb : ∀ b ∈ r.2.2.2.2.2.1, b.length ≤ 64) (hn : r.2.2.2.2.2.1.length ≤ 16) (st : Int × List (List Nat)) (hl : st.2.length ≤ 100) :
  eQ (fun d : Int × List (List Nat) × Int => nP r q d.1 d.2.1 d.2.2) (0, st.2, st.1) = some (((r.2.2.2.2.2.1.flatten.map (sB · q.1)).foldl nQ st).2, ((r.2.2.2.2.2.1.flatten.map (sB · q.1)).foldl nQ st).1) := by
 have key := kO (step := fun d : Int × List (List Nat) × Int => nP r q d.1 d.2.1 d.2.2)
  (I := fun d => ∃ i : Nat, d.1 = i ∧ i ≤ r.2.2.2.2.2.1.length ∧ d.2.1.length ≤ 100 + 64 * i)
  (fun d => (r.2.2.2.2.2.1.length - d.1).toNat) (fun d => ((((r.2.2.2.2.2.1.drop d.1.toNat).flatten.map (sB · q.1)).foldl nQ (d.2.2, d.2.1)).2, (((r.2.2.2.2.2.1.drop d.1.toNat).flatten.map (sB · q.1)).foldl nQ (d.2.2, d.2.1)).1)) (fun d hd => by
   obtain ⟨d1, d2, d3⟩ := d
   obtain ⟨i, rfl, hi, hlen⟩ := hd
   simp only at hlen ⊢
   unfold nP
   rw [Int.toNat_natCast]
   rcases Nat.lt_or_ge i r.2.2.2.2.2.1.length with hlt | hge
   ·left
    have hm := zT (z := ([] : List Iv)) hlt
    have h19 := aVI r q i _ rfl (lm _ hm) (d3, d2) (by have := hb _ hm; omega) (by simp only; omega)
    have hbl := hb _ hm
    refine ⟨((i : Int) + 1, (((r.2.2.2.2.2.1.getD i []).map (sB · q.1)).foldl nQ (d3, d2)).2, (((r.2.2.2.2.2.1.getD i []).map (sB · q.1)).foldl nQ (d3, d2)).1), ?_, ⟨i + 1, by simp, hlt, ?_⟩, by simp only; omega, ?_⟩
    ·rw [if_pos (by omega)]
     exact aB (by constructor <;> omega) (bH h19 (aB (by constructor <;> omega) rfl))
    ·simp only [aXd, List.length_map]; omega
    ·have e : r.2.2.2.2.2.1.drop i = r.2.2.2.2.2.1.getD i [] :: r.2.2.2.2.2.1.drop (i + 1) := by
      rw [List.drop_eq_getElem_cons hlt]; simp [List.getD, hlt]
     have e1 : ((i : Int) + 1).toNat = i + 1 := by omega
     simp only [e1]
     rw [e, List.flatten_cons, List.map_append, List.foldl_append]
   ·right
    obtain rfl : i = r.2.2.2.2.2.1.length := by omega
    rw [if_neg (by omega), List.drop_length]; rfl) (0, st.2, st.1) ⟨0, rfl, Nat.zero_le _, by simp only; omega⟩
 exact key
theorem aGR (xs : List (List Nat)) (sep : List Nat) (m : Nat) (h : ∀ x ∈ xs, x.length ≤ m) : (xB xs sep).length ≤ xs.length * (m + sep.length) := by
 unfold xB
 match xs with
 | [] => exact Nat.zero_le _
 | [x] =>
  have := h x (by simp)
  simp [List.intercalate]; omega
 | x :: y :: r =>
  have ih := aGR (y :: r) sep m (fun z hz => h z (by simp at hz ⊢; exact .inr hz))
  have hx := h x (by simp)
  unfold xB at ih
  simp only [List.intercalate, List.intersperse, List.flatten_cons, List.length_append, List.length_cons] at ih ⊢
  rw [Nat.add_mul _ 1]
  omega
theorem aKU (r : Rec) (n : Int) (lm : LmR r) (hm : xI r = true) : (qX r n).length ≤ 2000 ∧ ∀ x ∈ (qX r n).map (·.1), x.length ≤ 6000010 := by
 unfold xI aMK at hm
 simp only [Bool.and_eq_true, decide_eq_true_eq, List.all_eq_true] at hm
 obtain ⟨⟨⟨⟨⟨q1, q2⟩, q3⟩, q4⟩, q5⟩, q6⟩ := hm
 have hfl : r.2.2.2.2.2.1.flatten.length ≤ 1024 := by
  have : ∀ l : List (List Iv), (∀ b ∈ l, aQQ b = true) → l.flatten.length ≤ 64 * l.length := fun l => by
   induction l with
   | nil => intro _; simp
   | cons x t ih =>
    intro hx
    have h1 := hx x (by simp)
    unfold aQQ at h1
    simp only [Bool.and_eq_true, decide_eq_true_eq] at h1
    have := ih (fun b hb => hx b (by simp [hb]))
    simp only [List.flatten_cons, List.length_append, List.length_cons]
    omega
  have := this _ q5
  omega
 have l1 := yP r.2.2.2.1 n false lm.1
 have l2 := yP r.2.2.2.2.1 n false lm.2.1
 have l3 := aPE (u := r.2.1.toNat) (by omega)
 have l4 := aPE (u := r.2.2.1.toNat) (by omega)
 have l5 : (aDv r.1).length ≤ 20 := by
  unfold aDv
  split
  ·decide
  ·split
   ·decide
   ·split <;> decide
 have ht : (aMO r n).length ≤ 1025 ∧ ∀ x ∈ (aMO r n).map (·.1), x.length ≤ 6000010 := by
  unfold aMO
  split
  ·refine ⟨by rw [List.length_cons, List.length_map]; omega, fun x hx => ?_⟩
   simp only [List.map_cons, List.map_map, List.mem_cons, List.mem_map] at hx
   rcases hx with rfl | ⟨a, ha, rfl⟩
   ·omega
   ·obtain ⟨b, hb, ha⟩ := List.mem_flatten.1 ha
    exact aMN a n (lm.2.2.1 b hb a ha)
  ·split
   ·refine ⟨by simp, fun x hx => ?_⟩
    simp only [List.map_cons, List.map_nil, List.mem_cons, List.not_mem_nil, or_false] at hx
    rcases hx with rfl | rfl <;> omega
   ·refine ⟨by simp, fun x hx => ?_⟩
    simp only [List.map_cons, List.map_nil, List.mem_cons, List.not_mem_nil, or_false] at hx
    subst hx; omega
 unfold qX
 refine ⟨by simp; omega, fun x hx => ?_⟩
 simp only [List.map_append, List.map_cons, List.map_nil, List.mem_append, List.mem_cons, List.not_mem_nil, or_false] at hx
 rcases hx with (rfl | rfl | rfl) | hx
 ·omega
 ·omega
 ·omega
 ·exact ht.2 x hx
theorem aXe (r : Rec) (n : Int) (lm : LmR r) (hm : xI r = true) : gW ((qX r n).foldl nQ (0, [])).2 ((qX r n).foldl nQ (0, [])).1 = some (tH r n) := by
 obtain ⟨w1, w2⟩ := aKU r n lm hm
 have hj := aGR ((qX r n).map (·.1)) [32] 6000010 w2
 rw [List.length_map] at hj
 have hj2 : (xB ((qX r n).map (·.1)) [32]).length ≤ 2000 * (6000010 + 1) := Nat.le_trans hj (Nat.mul_le_mul_right _ w1)
 rw [aGQ, List.nil_append]
 show gW _ (aXc (qX r n)) = _
 unfold gW tH
 rw [hm, if_neg (by decide : ¬ true = false)]
 by_cases h : aXc (qX r n) ≠ 0
 ·rw [if_pos h, if_pos h]; rfl
 ·rw [if_neg h, if_neg h, aZj, aZk]
  refine aB ⟨by rw [List.length_map]; omega, by omega⟩ (aB ?_ rfl)
  simp only [List.length_cons, List.length_nil]; omega
theorem aN2 (r : Rec) (n : Int) (lm : LmR r) : gI r n = some (tH r n) := by
 unfold gI
 rw [aL2 r lm, Option.getD_some]
 refine aB rfl ?_
 cases hm : xI r with
 | false => rw [if_pos (by decide)]; unfold tH; rw [hm]; rfl
 | true =>
  have hj := aXe r n lm hm
  have hm' := hm
  unfold xI aMK at hm'
  simp only [Bool.and_eq_true, decide_eq_true_eq, List.all_eq_true] at hm'
  obtain ⟨⟨⟨⟨⟨q1, q2⟩, q3⟩, q4⟩, q5⟩, q6⟩ := hm'
  have hk : (aBs (.i .i64) (aEn (.i .i64) (aEn (.i .i64) (aEn (.i .i64) ([] : List (Int × List Nat)) (1 : Int) (bE ⟨#[99, 111, 109, 109, 105, 116]⟩)) (2 : Int) (bE ⟨#[114, 101, 106, 101, 99, 116]⟩)) (3 : Int) (bE ⟨#[101, 110, 100]⟩)) r.1).getD [] = aDv r.1 := by
   have : r.1 = 1 ∨ r.1 = 2 ∨ r.1 = 3 := by omega
   rcases this with h | h | h <;> rw [h] <;> rfl
  rw [if_neg (by decide), hk]
  have a0 := put_eq (aDv r.1, 0, ()) (0, []) (by simp)
  refine bH a0 ?_
  refine bH (aQR r.2.1 (nQ (0, []) (aDv r.1, 0, ())) (by omega) (by omega) (by simp [nQ])) ?_
  refine bH (aVH r.2.2.2.1 n (nQ (nQ (0, []) (aDv r.1, 0, ())) (oU r.2.1.toNat, 0, ())) lm.1 (by simp [nQ])) ?_
  unfold qX aMO at hj
  have hf : ∀ l : List Tx, ([(aDv r.1, 0, ()), (oU r.2.1.toNat, 0, ()), jW r.2.2.2.1 n false] ++ l).foldl nQ (0, []) = l.foldl nQ (nQ (nQ (nQ (0, []) (aDv r.1, 0, ())) (oU r.2.1.toNat, 0, ())) (jW r.2.2.2.1 n false)) := fun l => rfl
  rw [hf] at hj
  have hl3 : (nQ (nQ (nQ (0, []) (aDv r.1, 0, ())) (oU r.2.1.toNat, 0, ())) (jW r.2.2.2.1 n false)).2.length = 3 := by simp [nQ]
  generalize nQ (nQ (nQ (0, []) (aDv r.1, 0, ())) (oU r.2.1.toNat, 0, ())) (jW r.2.2.2.1 n false) = st at hj hl3 ⊢
  by_cases h1 : r.1 = 1
  ·rw [if_pos h1]
   rw [if_pos h1, List.foldl_cons] at hj
   refine bH (aVH r.2.2.2.2.1 n st lm.2.1 (by omega)) ?_
   have hb : ∀ b ∈ r.2.2.2.2.2.1, b.length ≤ 64 := fun b hb => by
    have := q5 b hb
    unfold aQQ at this
    simp only [Bool.and_eq_true, decide_eq_true_eq] at this
    exact this.1
   refine bH (aVJ r (n, nQ st (jW r.2.2.2.2.1 n false)) lm.2.2.1 hb (by omega) (nQ st (jW r.2.2.2.2.1 n false)) (by simp [nQ]; omega)) ?_
   exact hj
  ·rw [if_neg h1]
   rw [if_neg h1] at hj
   by_cases h2 : r.1 = 2
   ·rw [if_pos h2]
    rw [if_pos h2] at hj
    refine bH (aVH r.2.2.2.2.1 n st lm.2.1 (by omega)) ?_
    refine bH (aQR r.2.2.1 (nQ st (jW r.2.2.2.2.1 n false)) (by omega) (by omega) (by simp [nQ]; omega)) ?_
    exact hj
   ·rw [if_neg h2]
    rw [if_neg h2] at hj
    refine bH (aQR r.2.2.1 st (by omega) (by omega) (by omega)) ?_
    exact hj
def mM : List Rec → Int → Tx
 | [], _ => ([], 0, ())
 | r :: l, n => if (tH r n).2.1 ≠ 0 then ([], (tH r n).2.1, ()) else if (mM l n).2.1 ≠ 0 then ([], (mM l n).2.1, ()) else ((tH r n).1 ++ (mM l n).1, 0, ())
theorem aTe (r : Rec) (n : Int) (lm : LmR r) : (tH r n).1.length ≤ 20000000000 := by
 unfold tH
 cases hm : xI r with
 | false => exact Nat.zero_le _
 | true =>
  obtain ⟨w1, w2⟩ := aKU r n lm hm
  have hj := aGR ((qX r n).map (·.1)) [32] 6000010 w2
  rw [List.length_map] at hj
  have hj2 : (xB ((qX r n).map (·.1)) [32]).length ≤ 2000 * (6000010 + 1) := Nat.le_trans hj (Nat.mul_le_mul_right _ w1)
  rw [if_neg (by decide)]
  split
  ·exact Nat.zero_le _
  ·simp only [List.length_append, List.length_cons, List.length_nil]; omega
end Nu
end Go.Proofs
namespace Go.Proofs
open Go.Vc
set_option maxRecDepth 20000
namespace Nu
abbrev rz : Rec := (0, 0, 0, (false, [], 0, ()), (false, [], 0, ()), [], [], ())
theorem aVK (l : List Rec) (n : Int) (lm : ∀ r ∈ l, LmR r) (hl : l.length ≤ 1000) : sA l n = some (mM l n) := by
 have key := kO (step := fun d : Int × Bool × List Nat => rL l n d.1 d.2.1 d.2.2)
  (I := fun d => ∃ i : Nat, d.1 = i ∧ i ≤ l.length ∧ d.2.2.length ≤ 20000000000 * i)
  (fun d => (l.length - d.1).toNat)
  (fun d => (if (mM (l.drop d.1.toNat) n).2.1 ≠ 0 then .inr ([], (mM (l.drop d.1.toNat) n).2.1, ()) else .inl ((l.drop d.1.toNat).isEmpty && d.2.1, d.2.2 ++ (mM (l.drop d.1.toNat) n).1) : (Bool × List Nat) ⊕ Tx)) (fun d hd => by
   obtain ⟨d1, d2, d3⟩ := d
   obtain ⟨i, rfl, hi, hlen⟩ := hd
   simp only at hlen ⊢
   unfold rL
   rw [Int.toNat_natCast]
   rcases Nat.lt_or_ge i l.length with hlt | hge
   ·have hm := zT (z := rz) hlt
    have hw := aN2 _ n (lm _ hm)
    have hwl := aTe _ n (lm _ hm)
    have e : l.drop i = l.getD i rz :: l.drop (i + 1) := by
     rw [List.drop_eq_getElem_cons hlt]; simp [List.getD, hlt]
    rw [if_pos (by omega), hw, e]
    generalize l.getD i rz = r at hwl ⊢
    simp only [Option.getD_some]
    by_cases h1 : (tH r n).2.1 ≠ 0
    ·right
     refine aB (by constructor <;> omega) (aB rfl ?_)
     have et : mM (r :: l.drop (i + 1)) n = ([], (tH r n).2.1, ()) := by rw [mM, if_pos h1]
     rw [if_pos h1, et, if_pos h1]; rfl
    ·left
     refine ⟨((i : Int) + 1, false, d3 ++ (tH r n).1), ?_, ⟨i + 1, by simp, hlt, by simp; omega⟩, by simp only; omega, ?_⟩
     ·refine aB (by constructor <;> omega) (aB rfl ?_)
      rw [if_neg h1]
      have hws : dH (tH r n).1 (d2, d3) = some (((((tH r n).1.length : Nat) : Int), (), ()), false, d3 ++ (tH r n).1) := by
       unfold dH lF
       exact bH rfl (aB (by simp only; omega) rfl)
      refine bH hws ?_
      exact aB (by constructor <;> omega) rfl
     ·have e1 : ((i : Int) + 1).toNat = i + 1 := by omega
      simp only [e1]
      have et : mM (r :: l.drop (i + 1)) n = if (mM (l.drop (i + 1)) n).2.1 ≠ 0 then ([], (mM (l.drop (i + 1)) n).2.1, ()) else ((tH r n).1 ++ (mM (l.drop (i + 1)) n).1, 0, ()) := by rw [mM, if_neg h1]
      rw [et]
      by_cases h2 : (mM (l.drop (i + 1)) n).2.1 ≠ 0
      ·rw [if_pos h2, if_pos h2, if_pos h2]
      ·rw [if_neg h2, if_neg h2, if_neg (by simp)]
       simp
   ·right
    obtain rfl : i = l.length := by omega
    rw [if_neg (by omega), List.drop_length]
    simp [mM]) (0, true, []) ⟨0, rfl, Nat.zero_le _, Nat.zero_le _⟩
 unfold sA
 refine bH key ?_
 simp only [Int.toNat_zero, List.drop_zero, List.nil_append]
 by_cases h : (mM l n).2.1 ≠ 0
 ·rw [if_pos h]
  have : mM l n = ([], (mM l n).2.1, ()) := by
   cases l with
   | nil => exact absurd rfl h
   | cons r l =>
    rw [mM] at h ⊢
    split at h
    ·rename_i h1; rw [if_pos h1]
    ·rename_i h1
     rw [if_neg h1]
     split at h
     ·rename_i h2; rw [if_pos h2]
     ·exact absurd rfl h
  rw [← this]
 ·rw [if_neg h]
  have hx : (mM l n).2.1 = 0 := by simpa using h
  show (jI _).bind _ = _
  unfold jI
  show some ((mM l n).1, (0 : Int), ()) = some (mM l n)
  rw [← hx]
end Nu
end Go.Proofs
namespace Go.Proofs
open Go.Vc
set_option maxRecDepth 20000
namespace Nu
noncomputable def lG : Option Bool :=
 (fK ((false, ([] : List Nat), (0 : Int), ()), (false, ([1] : List Nat), (-3 : Int), ()), ()) (1 : Int)).bind (fun v_5 => (gI ((3 : Int), (3 : Int), (100 : Int), (false, ([1] : List Nat), (0 : Int), ()), (false, ([] : List Nat), (0 : Int), ()), ([] : List (List qI0)), ([] : List (List qT0)), ()) (1 : Int)).bind (fun v_9 => (gI ((0 : Int), (0 : Int), (0 : Int), (false, ([] : List Nat), (0 : Int), ()), (false, ([] : List Nat), (0 : Int), ()), ([] : List (List qI0)), ([] : List (List qT0)), ()) (1 : Int)).bind (fun v_13 => (sA ([] : List qR0) (1 : Int)).bind (fun v_17 => some (((((((decide (((v_5.2).1) = (0 : Int))) && (decide ((v_5.1) = (bE ⟨#[91, 48, 46, 48, 44, 32, 48, 46, 50, 93]⟩)))) && (decide (((v_9.2).1) = (0 : Int)))) && (decide ((v_9.1) = (bE ⟨#[101, 110, 100, 32, 51, 32, 49, 46, 48, 32, 49, 48, 48, 10]⟩)))) && (decide (((v_13.2).1) = (1 : Int)))) && (decide (((v_17.2).1) = (0 : Int)))) && (decide ((v_17.1) = (bE ⟨#[]⟩))))))))
def aEj : PlR := ⟨[(0, .A []), (1, .B [1]), (2, .A [2, 3]), (3, .A [2, 3, 4, 5]), (4, .A [2, 3, 4, 5, 7]), (5, .A [2, 3, 4, 5, 7, 8, 9]), (6, .A [0])], []⟩
def aFY : Ty := .unit
noncomputable def wI : aJ := mSpec aFY (.one .bool) (fun x => lG )
noncomputable def yJ : List (FuncId × aJ) := [(14, oT), (16, uQ), (18, jK)]
theorem aN3 : bL Tryz.prog GL yJ := .cons aDu (by kernel_rfl) (.cons aKS (by kernel_rfl) (.cons zS (by kernel_rfl) (.nil)))
theorem aIu : gam yJ 14 = some oT := rfl
theorem aIv : gam yJ 16 = some uQ := rfl
theorem aIw : gam yJ 18 = some jK := rfl
attribute [go_sem] aFY aEj aIu aIv aIw
set_option maxHeartbeats 4000000 in
theorem aL3 : FOK Tryz.prog GL 12 wI := by
 refine bZ (bF aN3) mix Tryz.func12 rfl (by kernel_rfl) (by decide) aEj fun w0 S x Θ hw h hF => ?_
 simp only [cC, go_sem]
 replace h : sat (lG) _ := h
 unfold lG at h
 obtain ⟨v_5, hv, h⟩ := cY h
 try simp only [hv, go_sem]
 obtain ⟨v_9, hv, h⟩ := cY h
 try simp only [hv, go_sem]
 obtain ⟨v_13, hv, h⟩ := cY h
 try simp only [hv, go_sem]
 obtain ⟨v_17, hv, h⟩ := cY h
 try simp only [hv, go_sem]
 exact aK hF [.tmp 0] rfl rfl rfl (aF h) (by simp only [bA, go_sem])
attribute [go_sem] wI
end Nu
end Go.Proofs
namespace Go.Proofs
open Go.Vc
set_option maxRecDepth 20000
namespace Nu
theorem aYi : txt 0 = [] := by unfold txt; rw [if_pos rfl]
theorem aYj : txt 2 = [50] := by unfold txt; rw [if_neg (by decide), aQK (by decide)]
theorem aXf : txt 10 = [49, 48] := by unfold txt; rw [if_neg (by decide), aVh (by decide) (by decide)]
abbrev w8 : Dy := (false, [1], -3, ())
abbrev w1 : Dy := (false, [1], 0, ())
theorem aVL : dV d0 = true ∧ dV w8 = true ∧ dV w1 = true := by decide +kernel
theorem aZl : txQ d0 1 false = 0 := by decide +kernel
theorem aZm : txQ w8 1 true = 2 := by decide +kernel
theorem aZn : txQ w1 1 false = 10 := by decide +kernel
theorem aZo : jW d0 1 false = ([48, 46, 48], 0, ()) := by
 unfold jW
 rw [if_neg (by rw [aVL.1]; decide), if_neg (by decide), show ((1 : Int).toNat) = 1 from rfl, aZl, aYi]
 rfl
theorem aZp : jW w8 1 true = ([48, 46, 50], 0, ()) := by
 unfold jW
 rw [if_neg (by rw [aVL.2.1]; decide), if_neg (by decide), show ((1 : Int).toNat) = 1 from rfl, aZm, aYj]
 rfl
theorem aZq : jW w1 1 false = ([49, 46, 48], 0, ()) := by
 unfold jW
 rw [if_neg (by rw [aVL.2.2]; decide), if_neg (by decide), show ((1 : Int).toNat) = 1 from rfl, aZn, aXf]
 rfl
theorem aZr : sB (d0, w8, ()) 1 = ([91, 48, 46, 48, 44, 32, 48, 46, 50, 93], 0, ()) := by
 unfold sB
 have hm : aDp (d0, w8, ()) = true := by decide +kernel
 rw [if_neg (by rw [hm]; decide)]
 simp only
 rw [aZo, aZp]
 rfl
theorem aYG : xI (3, 3, 100, w1, d0, [], [], ()) = true := by decide +kernel
theorem aZs : xI rz = false := by decide +kernel
theorem aVM : oU 100 = [49, 48, 48] := by
 unfold oU
 rw [Lib.nDigits_big (by decide), Lib.nDigits_big (by decide), Lib.nDigits_small (by decide)]
 rfl
theorem aYk : tH (3, 3, 100, w1, d0, [], [], ()) 1 = ([101, 110, 100, 32, 51, 32, 49, 46, 48, 32, 49, 48, 48, 10], 0, ()) := by
 have hw : qX (3, 3, 100, w1, d0, [], [], ()) 1 = [([101, 110, 100], 0, ()), ([51], 0, ()), ([49, 46, 48], 0, ()), ([49, 48, 48], 0, ())] := by
  unfold qX aMO
  rw [if_neg (by decide), if_neg (by decide)]
  simp only
  rw [aZq, show ((3 : Int).toNat) = 3 from rfl, show ((100 : Int).toNat) = 100 from rfl, aVM, aQK (by decide)]
  rfl
 unfold tH
 rw [if_neg (by rw [aYG]; decide), hw]
 rfl
theorem aVN : Lm [1] := by intro x hx; simp at hx; subst hx; decide
theorem aN4 : Lm [] := fun x hx => by cases hx
theorem aDJ : lG = some true := by
 have lr : LmR (3, 3, 100, w1, d0, [], [], ()) := ⟨aVN, aN4, fun b hb => by (first | cases hb | simp at hb), fun b hb => by (first | cases hb | simp at hb)⟩
 have lz : LmR rz := ⟨aN4, aN4, fun b hb => by (first | cases hb | simp at hb), fun b hb => by (first | cases hb | simp at hb)⟩
 have h1 := aKT (d0, w8, ()) 1 ⟨aN4, aVN⟩
 have h2 := aN2 (3, 3, 100, w1, d0, [], [], ()) 1 lr
 have h3 := aN2 rz 1 lz
 have h4 := aVK [] 1 (fun r hr => by (first | cases hr | simp at hr)) (by simp)
 rw [aZr] at h1
 rw [aYk] at h2
 have e3 : tH rz 1 = ([], 1, ()) := by unfold tH; rw [if_pos aZs]
 rw [e3] at h3
 unfold lG
 refine bH h1 (bH h2 (bH h3 (bH h4 ?_)))
 decide +kernel
abbrev tyD : Ty := .pair .bool (.pair (.sl (.u .u64)) (.pair (.i .i64) .unit))
abbrev tyI : Ty := .pair tyD (.pair tyD .unit)
theorem aYH {d : Dy} (h : tyD.wf d) : Lm d.2.1 := tZ h.2.1
theorem aZt {a : Iv} (h : tyI.wf a) : LmI a := ⟨aYH h.1, aYH h.2.1⟩
end Nu
end Go.Proofs
namespace Go.Proofs
open Go.Vc
set_option maxRecDepth 20000
namespace Nu
noncomputable def sP (d_0 : qD0) : Option Bool :=
 some (decide ((((((d_0.2).1).length) : Nat) : Int) ≤ (70 : Int)))
def aHK : PlR := ⟨[(0, .B [1]), (1, .A [2])], []⟩
def aKV : Ty := .pair (.pair .bool (.pair (.sl (.u .u64)) (.pair (.i .i64) .unit))) .unit
noncomputable def aAB : aJ := mSpec aKV (.one .bool) (fun x => sP x.1)
noncomputable def aQS : List (FuncId × aJ) := []
theorem aQT : bL Tryz.prog GL aQS := .nil
attribute [go_sem] aKV aHK
set_option maxHeartbeats 4000000 in
theorem aPF : FOK Tryz.prog GL 54 aAB := by
 refine bZ (bF aQT) mix Tryz.func54 rfl (by kernel_rfl) (by decide) aHK fun w0 S x Θ hw h hF => ?_
 obtain ⟨(d_0 : qD0), u⟩ := x
 simp only [cC, go_sem]
 replace h : sat (sP d_0) _ := h
 unfold sP at h
 exact aK hF [.tmp 2] rfl rfl rfl (aF h) (by simp only [bA, go_sem])
attribute [go_sem] aAB
noncomputable def vW (a_0 : qI0) : Option Bool :=
 (sP (a_0.1)).bind (fun v_5 => ck (((v_5 = true) → (((sP ((a_0.2).1)).isSome = true)))) (some (v_5 && ((sP ((a_0.2).1)).getD false))))
def aHL : PlR := ⟨[(0, .B [1]), (1, .A [2])], []⟩
def aKW : Ty := .pair (.pair (.pair .bool (.pair (.sl (.u .u64)) (.pair (.i .i64) .unit))) (.pair (.pair .bool (.pair (.sl (.u .u64)) (.pair (.i .i64) .unit))) .unit)) .unit
noncomputable def aAC : aJ := mSpec aKW (.one .bool) (fun x => vW x.1)
noncomputable def aKX : List (FuncId × aJ) := [(54, aAB)]
theorem aQU : bL Tryz.prog GL aKX := .cons aPF (by kernel_rfl) (.nil)
theorem aL4 : gam aKX 54 = some aAB := rfl
attribute [go_sem] aKW aHL aL4
set_option maxHeartbeats 4000000 in
theorem aPG : FOK Tryz.prog GL 20 aAC := by
 refine bZ (bF aQU) mix Tryz.func20 rfl (by kernel_rfl) (by decide) aHL fun w0 S x Θ hw h hF => ?_
 obtain ⟨(a_0 : qI0), u⟩ := x
 simp only [cC, go_sem]
 replace h : sat (vW a_0) _ := h
 unfold vW at h
 obtain ⟨v_5, hv, h⟩ := cY h
 try simp only [hv, go_sem]
 refine aN h fun g0 h => ?_
 exact aK hF [.tmp 2] rfl rfl rfl (aF h) (by simp only [bA, go_sem])
attribute [go_sem] aAC
noncomputable def gJ (s_0 : (List Nat)) : Option (qI0 × (Int × Unit)) :=
 ck ((((0 : Int) < (s_0.length : Int)) → ((0 : Int) < (s_0.length : Int)))) (if ((0 : Int) < (s_0.length : Int)) ∧ ((s_0.getD (0 : Nat) (0 : Nat)) = (45 : Nat)) then ck ((1 : Int) ≤ (s_0.length : Int)) (ck (((dQ (List.drop (1 : Nat) s_0) (1000 : Int)).isSome = true)) (ck (((gP (((((dQ (List.drop (1 : Nat) s_0) (1000 : Int)).getD (((false, ([] : List Nat), (0 : Int), ()), (false, ([] : List Nat), (0 : Int), ()), ()), (0 : Int), ())).1).2).1)).isSome = true)) (ck (((gP ((((dQ (List.drop (1 : Nat) s_0) (1000 : Int)).getD (((false, ([] : List Nat), (0 : Int), ()), (false, ([] : List Nat), (0 : Int), ()), ()), (0 : Int), ())).1).1)).isSome = true)) (some ((((gP (((((dQ (List.drop (1 : Nat) s_0) (1000 : Int)).getD (((false, ([] : List Nat), (0 : Int), ()), (false, ([] : List Nat), (0 : Int), ()), ()), (0 : Int), ())).1).2).1)).getD (false, ([] : List Nat), (0 : Int), ())), ((gP ((((dQ (List.drop (1 : Nat) s_0) (1000 : Int)).getD (((false, ([] : List Nat), (0 : Int), ()), (false, ([] : List Nat), (0 : Int), ()), ()), (0 : Int), ())).1).1)).getD (false, ([] : List Nat), (0 : Int), ())), ()), ((((dQ (List.drop (1 : Nat) s_0) (1000 : Int)).getD (((false, ([] : List Nat), (0 : Int), ()), (false, ([] : List Nat), (0 : Int), ()), ()), (0 : Int), ())).2).1), ()))))) else ck (((dQ s_0 (1000 : Int)).isSome = true)) (some ((((dQ s_0 (1000 : Int)).getD (((false, ([] : List Nat), (0 : Int), ()), (false, ([] : List Nat), (0 : Int), ()), ()), (0 : Int), ())).1), ((((dQ s_0 (1000 : Int)).getD (((false, ([] : List Nat), (0 : Int), ()), (false, ([] : List Nat), (0 : Int), ()), ()), (0 : Int), ())).2).1), ())))
def uR : Ty := .pair .str .unit
attribute [go_sem] uR
noncomputable def sJ : aJ := mSpec uR (.tup (.pair (.pair (.pair .bool (.pair (.sl (.u .u64)) (.pair (.i .i64) .unit))) (.pair (.pair .bool (.pair (.sl (.u .u64)) (.pair (.i .i64) .unit))) .unit)) (.pair (.i .i64) .unit))) (fun x => gJ x.1)
noncomputable def uS : List (FuncId × aJ) := [(55, aBU), (56, aAr)]
theorem aDw : bL Tryz.prog GL uS := .cons aQE (by kernel_rfl) (.cons aPh (by kernel_rfl) (.nil))
theorem aFZ : gam uS 55 = some aBU := rfl
attribute [go_sem] aFZ
theorem aF0 : gam uS 56 = some aAr := rfl
attribute [go_sem] aF0
set_option maxHeartbeats 4000000 in
theorem aIx : FOK Tryz.prog GL 21 sJ := by
 refine pS (bF aDw) Tryz.func21 rfl (by kernel_rfl) (by decide) fun w0 S x r hw h => ?_
 have hF : iZ (fr Tryz.prog (EM uS) S w0 Tryz.f21.ntmps) := ⟨bF aDw, mix⟩
 obtain ⟨(s_0 : (List Nat)), u⟩ := x
 simp only [uR, Ty.wf, lT] at hw
 simp only [cC, uR]
 try dsimp only at h
 unfold gJ at h
 refine aC (bC hF [0, 2] ?_)
 simp only [go_sem]
 refine aD (aC (aC (aE hF [0, 2, 13] ?_)))
 simp only [go_sem]
 obtain ⟨g0, h⟩ := aH h
 repeat (refine ⟨by first | with_reducible assumption | omega | (intros; first | assumption | omega) | (simp only [go_sem] at *; first | assumption | omega) | (intro q0; (try have e0 := g0 (by first | exact q0 | omega | (simpa using q0))); first | assumption | omega) | decide, ?_⟩)
 refine aD (bG rfl (fun hc => ?_) (fun hc => ?_))
 ·try simp only [go_sem] at hc
  have h := eF (by first | exact hc | omega | (simpa using hc) | (simp at hc ⊢; omega)) h
  refine aC (bC hF [2, 4, 5] ?_)
  simp only [go_sem]
  obtain ⟨g0, h⟩ := aH h
  repeat (refine ⟨by first | with_reducible assumption | omega | (intros; first | assumption | omega) | (simp only [go_sem] at *; first | assumption | omega) | decide, ?_⟩)
  obtain ⟨g0, h⟩ := aH h
  repeat (refine ⟨by first | with_reducible assumption | omega | (intros; first | assumption | omega) | (simp only [go_sem] at *; first | assumption | omega) | decide, ?_⟩)
  obtain ⟨g0, h⟩ := aH h
  obtain ⟨g1, h⟩ := aH h
  refine aD (aC (aOG hF [2, 4, 5] [2, 3] [.v 20 (.ptr 1 [.fld 3 1]), .v 21 (.val (.pair .bool (.pair (.sl (.u .u64)) (.pair (.i .i64) .unit))) (((((dQ (List.drop (1 : Nat) s_0) (1000 : Int)).getD (((false, ([] : List Nat), (0 : Int), ()), (false, ([] : List Nat), (0 : Int), ()), ()), (0 : Int), ())).1).2).1)), .v 22 (.val (.pair .bool (.pair (.sl (.u .u64)) (.pair (.i .i64) .unit))) ((gP (((((dQ (List.drop (1 : Nat) s_0) (1000 : Int)).getD (((false, ([] : List Nat), (0 : Int), ()), (false, ([] : List Nat), (0 : Int), ()), ()), (0 : Int), ())).1).2).1)).getD (false, ([] : List Nat), (0 : Int), ()))), .v 23 (.ptr 1 [.fld 0 0]), .v 24 (.val (.pair .bool (.pair (.sl (.u .u64)) (.pair (.i .i64) .unit))) ((((dQ (List.drop (1 : Nat) s_0) (1000 : Int)).getD (((false, ([] : List Nat), (0 : Int), ()), (false, ([] : List Nat), (0 : Int), ()), ()), (0 : Int), ())).1).1)), .v 25 (.val (.pair .bool (.pair (.sl (.u .u64)) (.pair (.i .i64) .unit))) ((gP ((((dQ (List.drop (1 : Nat) s_0) (1000 : Int)).getD (((false, ([] : List Nat), (0 : Int), ()), (false, ([] : List Nat), (0 : Int), ()), ()), (0 : Int), ())).1).1)).getD (false, ([] : List Nat), (0 : Int), ()))), .v 26 (.val (.pair (.pair .bool (.pair (.sl (.u .u64)) (.pair (.i .i64) .unit))) (.pair (.pair .bool (.pair (.sl (.u .u64)) (.pair (.i .i64) .unit))) .unit)) (((gP (((((dQ (List.drop (1 : Nat) s_0) (1000 : Int)).getD (((false, ([] : List Nat), (0 : Int), ()), (false, ([] : List Nat), (0 : Int), ()), ()), (0 : Int), ())).1).2).1)).getD (false, ([] : List Nat), (0 : Int), ())), ((gP ((((dQ (List.drop (1 : Nat) s_0) (1000 : Int)).getD (((false, ([] : List Nat), (0 : Int), ()), (false, ([] : List Nat), (0 : Int), ()), ()), (0 : Int), ())).1).1)).getD (false, ([] : List Nat), (0 : Int), ())), ())), .v 27 (.val (.i .i64) ((((dQ (List.drop (1 : Nat) s_0) (1000 : Int)).getD (((false, ([] : List Nat), (0 : Int), ()), (false, ([] : List Nat), (0 : Int), ()), ()), (0 : Int), ())).2).1)), .st 0 (.box 6 (.val (.pair (.pair .bool (.pair (.sl (.u .u64)) (.pair (.i .i64) .unit))) (.pair (.pair .bool (.pair (.sl (.u .u64)) (.pair (.i .i64) .unit))) .unit)) (((gP (((((dQ (List.drop (1 : Nat) s_0) (1000 : Int)).getD (((false, ([] : List Nat), (0 : Int), ()), (false, ([] : List Nat), (0 : Int), ()), ()), (0 : Int), ())).1).2).1)).getD (false, ([] : List Nat), (0 : Int), ())), ((gP ((((dQ (List.drop (1 : Nat) s_0) (1000 : Int)).getD (((false, ([] : List Nat), (0 : Int), ()), (false, ([] : List Nat), (0 : Int), ()), ()), (0 : Int), ())).1).1)).getD (false, ([] : List Nat), (0 : Int), ())), ()))), .v 3 (.val (.i .i64) ((((dQ (List.drop (1 : Nat) s_0) (1000 : Int)).getD (((false, ([] : List Nat), (0 : Int), ()), (false, ([] : List Nat), (0 : Int), ()), ()), (0 : Int), ())).2).1))] [([false, false, false, false, false, false, false, false, false, false], [0, 3, 7]), ([true, false, false, false, false, false, false, false, false, false], [1, 3, 7]), ([false, false, false, true, false, false, false, false, false, false], [0, 4, 7]), ([false, false, false, false, false, false, false, true, false, false], [0, 3]), ([true, true, false, false, false, false, false, false, false, false], [2, 3, 7]), ([true, false, false, true, false, false, false, false, false, false], [1, 4, 7]), ([true, false, false, false, false, false, false, true, false, false], [1, 3]), ([false, false, false, true, true, false, false, false, false, false], [0, 7]), ([false, false, false, true, false, false, false, true, false, false], [0, 4]), ([true, true, true, false, false, false, false, false, false, false], [3, 7]), ([true, true, false, true, false, false, false, false, false, false], [2, 4, 7]), ([true, true, false, false, false, false, false, true, false, false], [2, 3]), ([true, false, false, true, true, false, false, false, false, false], [1, 7]), ([true, false, false, true, false, false, false, true, false, false], [1, 4]), ([false, false, false, true, true, false, false, true, false, false], [0]), ([true, true, true, true, false, false, false, false, false, false], [4, 7]), ([true, true, true, false, false, false, false, true, false, false], [3]), ([true, true, false, true, true, false, false, false, false, false], [2, 7]), ([true, true, false, true, false, false, false, true, false, false], [2, 4]), ([true, false, false, true, true, false, false, true, false, false], [1]), ([true, true, true, true, true, false, false, false, false, false], [5, 7]), ([true, true, true, true, false, false, false, true, false, false], [4]), ([true, true, false, true, true, false, false, true, false, false], [2]), ([true, true, true, true, true, true, false, false, false, false], [6, 7]), ([true, true, true, true, true, false, false, true, false, false], [5]), ([true, true, true, true, true, true, true, false, false, false], [7, 8]), ([true, true, true, true, true, true, false, true, false, false], [6]), ([true, true, true, true, true, true, true, true, false, false], [8]), ([true, true, true, true, true, true, true, false, true, false], [7]), ([true, true, true, true, true, true, true, true, true, false], [9]), ([true, true, true, true, true, true, true, true, true, true], [])] [true, true, true, true, true, true, true, true, true, true] (by decide) ?_ ?_))
  ·refine ⟨⟨?_, ?_, ?_, trivial⟩, ⟨?_, ?_, ?_, trivial⟩, ⟨?_, ?_, ?_, trivial⟩, ⟨?_, ?_, trivial⟩, ⟨?_, ?_, ?_, trivial⟩, ⟨?_, ?_, ?_, trivial⟩, ⟨?_, ?_, trivial⟩, ⟨?_, ?_, trivial⟩, ⟨?_, ?_, trivial⟩, ⟨?_, ?_, trivial⟩, ⟨?_, ?_, ?_, trivial⟩, ⟨?_, ?_, trivial⟩, ⟨?_, ?_, trivial⟩, ⟨?_, ?_, trivial⟩, ⟨?_, trivial⟩, ⟨?_, ?_, trivial⟩, ⟨?_, trivial⟩, ⟨?_, ?_, trivial⟩, ⟨?_, ?_, trivial⟩, ⟨?_, trivial⟩, ⟨?_, ?_, trivial⟩, ⟨?_, trivial⟩, ⟨?_, trivial⟩, ⟨?_, ?_, trivial⟩, ⟨?_, trivial⟩, ⟨?_, ?_, trivial⟩, ⟨?_, trivial⟩, ⟨?_, trivial⟩, ⟨?_, trivial⟩, ⟨?_, trivial⟩, trivial, trivial⟩
   all_goals (simp only [go_sem]) <;> ((repeat (refine And.intro (by first | omega | decide | trivial | (simp; done)) ?_)); first | (refine ⟨[0, 1], ?_⟩; (repeat' apply And.intro) <;> rfl))
  simp only [go_sem]
  obtain rfl := Option.some.inj h
  refine aD (dD (bW (fD hF [.cell 2 27, .tmp 3] rfl rfl rfl ?_)))
  (try simp only [iH, bA, go_sem]) <;> first | rfl | (simp; done)
 ·try simp only [go_sem] at hc
  have h := eG (by first | exact hc | omega | (simpa using hc) | (simp at hc ⊢; omega)) h
  refine bR (aD (aC (bC hF [2, 3] ?_)))
  simp only [go_sem]
  obtain ⟨g0, h⟩ := aH h
  repeat (refine ⟨by first | with_reducible assumption | omega | (intros; first | assumption | omega) | (simp only [go_sem] at *; first | assumption | omega) | decide, ?_⟩)
  obtain rfl := Option.some.inj h
  refine aD (dD (fD hF [.cell 2 27, .tmp 3] rfl rfl rfl ?_))
  (try simp only [iH, bA, go_sem]) <;> first | rfl | (simp; done)
attribute [go_sem] sJ
noncomputable def fW (v_18 : ((List Nat) × (Int × Unit))) (a_0 : qI0) (at_27 : Int) : Option (Bool) :=
 ck ((¬ (((((v_18.1).length) : Nat) : Int) < (5 : Int)) → ((0 : Int) < ((v_18.1).length : Int)))) (ck ((¬ ((((((v_18.1).length) : Nat) : Int) < (5 : Int)) ∨ (¬ (((v_18.1).getD (0 : Nat) (0 : Nat)) = (91 : Nat)))) → (I64 (((((v_18.1).length) : Nat) : Int) - (1 : Int))))) (ck ((¬ ((((((v_18.1).length) : Nat) : Int) < (5 : Int)) ∨ (¬ (((v_18.1).getD (0 : Nat) (0 : Nat)) = (91 : Nat)))) → (0 ≤ (((((v_18.1).length) : Nat) : Int) - (1 : Int)) ∧ (((((v_18.1).length) : Nat) : Int) - (1 : Int)) < ((v_18.1).length : Int)))) (ck ((¬ (((((((v_18.1).length) : Nat) : Int) < (5 : Int)) ∨ (¬ (((v_18.1).getD (0 : Nat) (0 : Nat)) = (91 : Nat)))) ∨ (¬ (((v_18.1).getD ((((((v_18.1).length) : Nat) : Int) - (1 : Int)).toNat) (0 : Nat)) = (93 : Nat)))) → (I64 (at_27 + (2 : Int))))) (ck ((¬ ((((((((v_18.1).length) : Nat) : Int) < (5 : Int)) ∨ (¬ (((v_18.1).getD (0 : Nat) (0 : Nat)) = (91 : Nat)))) ∨ (¬ (((v_18.1).getD ((((((v_18.1).length) : Nat) : Int) - (1 : Int)).toNat) (0 : Nat)) = (93 : Nat)))) ∨ (((((v_18.1).length) : Nat) : Int) ≤ (at_27 + (2 : Int)))) → (I64 (at_27 + (1 : Int))))) (ck ((¬ ((((((((v_18.1).length) : Nat) : Int) < (5 : Int)) ∨ (¬ (((v_18.1).getD (0 : Nat) (0 : Nat)) = (91 : Nat)))) ∨ (¬ (((v_18.1).getD ((((((v_18.1).length) : Nat) : Int) - (1 : Int)).toNat) (0 : Nat)) = (93 : Nat)))) ∨ (((((v_18.1).length) : Nat) : Int) ≤ (at_27 + (2 : Int)))) → (0 ≤ (at_27 + (1 : Int)) ∧ (at_27 + (1 : Int)) < ((v_18.1).length : Int)))) (if ((((((((v_18.1).length) : Nat) : Int) < (5 : Int)) ∨ (¬ (((v_18.1).getD (0 : Nat) (0 : Nat)) = (91 : Nat)))) ∨ (¬ (((v_18.1).getD ((((((v_18.1).length) : Nat) : Int) - (1 : Int)).toNat) (0 : Nat)) = (93 : Nat)))) ∨ (((((v_18.1).length) : Nat) : Int) ≤ (at_27 + (2 : Int)))) ∨ (¬ (((v_18.1).getD ((at_27 + (1 : Int)).toNat) (0 : Nat)) = (32 : Nat))) then some false else ck ((1 : Int) ≤ at_27 ∧ at_27 ≤ ((v_18.1).length : Int)) ((gJ (List.drop (1 : Nat) (List.take (at_27.toNat) (v_18.1)))).bind (fun v_29 => ck (I64 (at_27 + (2 : Int))) (ck (I64 (((((v_18.1).length) : Nat) : Int) - (1 : Int))) (ck (0 ≤ (at_27 + (2 : Int)) ∧ (at_27 + (2 : Int)) ≤ (((((v_18.1).length) : Nat) : Int) - (1 : Int)) ∧ (((((v_18.1).length) : Nat) : Int) - (1 : Int)) ≤ ((v_18.1).length : Int)) ((gJ (List.drop ((at_27 + (2 : Int)).toNat) (List.take ((((((v_18.1).length) : Nat) : Int) - (1 : Int)).toNat) (v_18.1)))).bind (fun v_31 => if (¬ (((v_29.2).1) = (0 : Int))) ∨ (¬ (((v_31.2).1) = (0 : Int))) then (lG).bind (fun v_37 => ck (((v_37 = true) → ¬ ((60 : Int) < at_27) → (I64 (((((v_18.1).length) : Nat) : Int) - at_27)))) (some (v_37 && ((decide ((60 : Int) < at_27)) || (decide ((62 : Int) < (((((v_18.1).length) : Nat) : Int) - at_27))))))) else (lG).bind (fun v_41 => ck (((v_41 = true) → (((iF ((v_29.1).1) (a_0.1)).isSome = true)))) (ck ((((v_41 = true) ∧ (((iF ((v_29.1).1) (a_0.1)).getD (0 : Int)) ≤ (0 : Int))) → (((iF ((a_0.2).1) (((v_31.1).2).1)).isSome = true)))) (some ((v_41 && (decide (((iF ((v_29.1).1) (a_0.1)).getD (0 : Int)) ≤ (0 : Int)))) && (decide (((iF ((a_0.2).1) (((v_31.1).2).1)).getD (0 : Int)) ≤ (0 : Int)))))))))))))))))))
noncomputable def fX (v_18 : ((List Nat) × (Int × Unit))) (at_42 : Int) : Option ((Int) ⊕ ((Int))) :=
 ck (((at_42 < ((v_18.1).length : Int)) → (0 ≤ at_42 ∧ at_42 < ((v_18.1).length : Int)))) (if (at_42 < ((v_18.1).length : Int)) ∧ (¬ (((v_18.1).getD (at_42.toNat) (0 : Nat)) = (44 : Nat))) then ck (I64 (at_42 + (1 : Int))) (some (.inl (at_42 + (1 : Int)))) else some (.inr at_42))
noncomputable def kV (a_0 : qI0) (digits_1 : Int) : Option Bool :=
 (vW a_0).bind (fun v_10 => if ((((((¬ (v_10 = true)) ∨ ((4 : Int) < ((((a_0.1).2).1).length : Int))) ∨ ((4 : Int) < (((((a_0.2).1).2).1).length : Int))) ∨ (((((a_0.1).2).2).1) < (-60 : Int))) ∨ ((60 : Int) < ((((a_0.1).2).2).1))) ∨ ((((((a_0.2).1).2).2).1) < (-60 : Int))) ∨ ((60 : Int) < (((((a_0.2).1).2).2).1)) then (lG).bind (fun v_14 => some v_14) else (fK a_0 (IntKind.i64.wrap (((((digits_1 % (18446744073709551616 : Int)).toNat) % (31 : Nat)) : Nat) : Int))).bind (fun v_18 => if ¬ (((v_18.2).1) = (0 : Int)) then (lG).bind (fun v_24 => some ((v_24 && (decide (((v_18.2).1) = (1 : Int)))) && (decide ((v_18.1) = (bE ⟨#[]⟩))))) else (eQ (fun d : Int => fX v_18 d) (0 : Int)).bind (fun e => fW v_18 a_0 e)))
def xD : PlR := ⟨[(0, .B [1, 2]), (1, .A [2, 5]), (2, .A [2, 5, 57]), (3, .A [4]), (4, .A [2, 6, 7]), (5, .A [2, 6, 7, 66]), (6, .A [4]), (7, .A [2, 6, 8]), (8, .A [2, 6, 8, 85]), (9, .A [2, 6, 8]), (10, .A [2, 6, 8, 117]), (11, .A [4]), (12, .B [2, 6, 8, 9, 10]), (13, .B [2, 6, 8, 9, 10, 11, 12]), (14, .A [2, 6, 8, 9, 11, 141]), (15, .A [4]), (16, .A [4])], [(11, 13)]⟩
def oJ : Ty := .pair (.pair (.pair .bool (.pair (.sl (.u .u64)) (.pair (.i .i64) .unit))) (.pair (.pair .bool (.pair (.sl (.u .u64)) (.pair (.i .i64) .unit))) .unit)) (.pair (.i .i64) .unit)
noncomputable def xE : aJ := mSpec oJ (.one .bool) (fun x => kV x.1 x.2.1)
noncomputable def iG : List (FuncId × aJ) := [(12, wI), (18, jK), (20, aAC), (21, sJ), (22, pB)]
theorem aDP : bL Tryz.prog GL iG := .cons aL3 (by kernel_rfl) (.cons zS (by kernel_rfl) (.cons aPG (by kernel_rfl) (.cons aIx (by kernel_rfl) (.cons aC2 (by kernel_rfl) (.nil)))))
theorem aBZ : gam iG 12 = some wI := rfl
theorem aB0 : gam iG 18 = some jK := rfl
theorem aB1 : gam iG 20 = some aAC := rfl
theorem aB2 : gam iG 21 = some sJ := rfl
theorem aB3 : gam iG 22 = some pB := rfl
attribute [go_sem] oJ xD aBZ aB0 aB1 aB2 aB3
set_option maxHeartbeats 4000000 in
theorem aDx : FOK Tryz.prog GL 4 xE := by
 refine bZ (bF aDP) mix Tryz.func4 rfl (by kernel_rfl) (by decide) xD fun w0 S x Θ hw h hF => ?_
 obtain ⟨(a_0 : qI0), (digits_1 : Int), u⟩ := x
 simp only [cC, go_sem]
 replace h : sat (kV a_0 digits_1) _ := h
 unfold kV at h
 obtain ⟨v_10, hv, h⟩ := cY h
 try simp only [hv, go_sem]
 refine ⟨fun hc => ?_, fun hc => ?_⟩
 ·replace h := hZ (by first | exact hc | omega | (simpa using hc) | (simp at hc ⊢; omega)) h
  obtain ⟨v_14, hv, h⟩ := cY h
  try simp only [hv, go_sem]
  exact aK hF [.tmp 4] rfl rfl rfl (aF h) (by simp only [bA, go_sem])
 ·replace h := iA (by first | exact hc | omega | (simpa using hc) | (simp at hc ⊢; omega)) h
  obtain ⟨v_18, hv, h⟩ := cY h
  try simp only [hv, go_sem]
  refine iL h (fun hc h => ?_) fun hc h => ?_
  ·obtain ⟨v_24, hv, h⟩ := cY h
   try simp only [hv, go_sem]
   exact aK hF [.tmp 4] rfl rfl rfl (aF h) (by simp only [bA, go_sem])
  ·refine eC hF (D := Int) (fun d => sat (fW v_18 a_0 d) Θ) [6] (fun d => [(2, .ptr 0 []), (8, .val (.i .i64) d)]) (fun d => [.inr (.box 6 (.val (.pair (.pair .bool (.pair (.sl (.u .u64)) (.pair (.i .i64) .unit))) (.pair (.pair .bool (.pair (.sl (.u .u64)) (.pair (.i .i64) .unit))) .unit)) a_0))]) ?_ ?_
   ·simp only [go_sem]
    refine dP hF (D := Int) [6] (fun d => [(2, .ptr 0 []), (8, .val (.i .i64) d)]) (fun d => [.inr (.box 6 (.val (.pair (.pair .bool (.pair (.sl (.u .u64)) (.pair (.i .i64) .unit))) (.pair (.pair .bool (.pair (.sl (.u .u64)) (.pair (.i .i64) .unit))) .unit)) a_0))]) h rfl (by simp only [go_sem]) ?_
    rintro at_42 A8 T8 hA8 hE8 h
    simp only [go_sem]
    replace h : sat (fX v_18 at_42) _ := h
    unfold fX at h
    obtain ⟨g0, h⟩ := aM h
    repeat (refine ⟨by omega, ?_⟩)
    refine ⟨fun hc => ?_, fun hc => ?_⟩
    ·replace h := hZ hc h
     obtain ⟨g0, h⟩ := aM h
     repeat (refine ⟨by omega, ?_⟩)
     replace h := hA8 _ (aF h)
     exact aX _ h rfl (by simp only [go_sem])
    ·replace h := iA hc h
     replace h := hE8 _ (aF h)
     try dsimp only at h
     exact aX (at_42) h rfl (by simp only [go_sem])
   ·rintro at_27 h
    simp only [go_sem]
    replace h : sat (fW v_18 a_0 at_27) _ := h
    unfold fW at h
    obtain ⟨g0, h⟩ := aM h
    obtain ⟨g1, h⟩ := aM h
    obtain ⟨g2, h⟩ := aM h
    obtain ⟨g3, h⟩ := aM h
    obtain ⟨g4, h⟩ := aM h
    obtain ⟨g5, h⟩ := aM h
    repeat (refine ⟨by omega, ?_⟩)
    refine ⟨fun hc => ?_, fun hc => ?_⟩
    ·replace h := hZ hc h
     exact aK hF [.tmp 4] rfl rfl rfl (aF h) (by simp only [bA, go_sem])
    ·replace h := iA hc h
     obtain ⟨g0, h⟩ := aM h
     repeat (refine ⟨by omega, ?_⟩)
     obtain ⟨v_29, hv, h⟩ := cY h
     try simp only [hv, go_sem]
     obtain ⟨g0, h⟩ := aM h
     repeat (refine ⟨by omega, ?_⟩)
     obtain ⟨g0, h⟩ := aM h
     repeat (refine ⟨by omega, ?_⟩)
     obtain ⟨g0, h⟩ := aM h
     repeat (refine ⟨by omega, ?_⟩)
     obtain ⟨v_31, hv, h⟩ := cY h
     try simp only [hv, go_sem]
     refine ⟨fun hc => ?_, fun hc => ?_⟩
     ·replace h := hZ hc h
      obtain ⟨v_37, hv, h⟩ := cY h
      try simp only [hv, go_sem]
      obtain ⟨g0, h⟩ := aM h
      repeat (refine ⟨by omega, ?_⟩)
      exact aK hF [.tmp 4] rfl rfl rfl (aF h) (by simp only [bA, go_sem])
     ·replace h := iA hc h
      obtain ⟨v_41, hv, h⟩ := cY h
      try simp only [hv, go_sem]
      obtain ⟨g0, h⟩ := aM h
      obtain ⟨g1, h⟩ := aM h
      repeat (refine ⟨by omega, ?_⟩)
      exact aK hF [.tmp 4] rfl rfl rfl (aF h) (by simp only [bA, go_sem])
attribute [go_sem] xE
end Nu
end Go.Proofs
namespace Go.Proofs
open Go.Vc
set_option maxRecDepth 20000
namespace Nu
def aIy (d : Dy) : Dy := (false, d.2.1, d.2.2.1, ())
theorem aIS {d e : Dy} (h1 : d.2.1 = e.2.1) (h2 : d.2.2.1 = e.2.2.1) (h3 : d.2.1.length ≠ 0) : dV d = dV e := by
 unfold dV
 rw [h1, h2, if_neg (by rw [← h1]; exact h3), if_neg (by rw [← h1]; exact h3)]
theorem aIT {d : Dy} (hd : dV d = true) (h : d.1 = true) : d.2.1.length ≠ 0 := fun h0 => by
 unfold dV at hd
 rw [if_pos h0, h] at hd
 simp at hd
theorem aN5 {d : Dy} (hd : dV d = true) (h : d.1 = true) : dV (aIy d) = true := by rw [aIS (d := aIy d) (e := d) rfl rfl (show d.2.1.length ≠ 0 from aIT (d := d) hd h)]; exact hd
theorem abs_neg {d : Dy} (hd : dV d = true) (h : d.1 = true) : aFP (aIy d) = d := by
 have hl := aIT hd h
 unfold aFP
 rw [if_pos ⟨aN5 hd h, Nat.pos_of_ne_zero hl⟩]
 obtain ⟨a, b, c, u⟩ := d
 have h : a = true := h
 subst h; rfl
theorem aQV {x : Dy} (hx : dV x = true) (h0 : x.2.1.length ≠ 0) : aFP x = (!x.1, x.2.1, x.2.2.1, ()) := by
 unfold aFP
 rw [if_pos ⟨hx, Nat.pos_of_ne_zero h0⟩]
theorem neg_nil {x : Dy} (h0 : x.2.1.length = 0) : aFP x = x := by
 unfold aFP
 rw [if_neg (fun h => by omega)]
theorem aPH {x : Dy} (hx : dV x = true) (nx : x.1 = false) (h0 : x.2.1.length ≠ 0) : kS x = 1 := by
 unfold kS
 rw [if_neg (by rw [hx]; rintro (h | h); cases h; exact h0 h), if_neg (by rw [nx]; decide)]
theorem sign_neg {x : Dy} (hx : dV x = true) (nx : x.1 = true) (h0 : x.2.1.length ≠ 0) : kS x = -1 := by
 unfold kS
 rw [if_neg (by rw [hx]; rintro (h | h); cases h; exact h0 h), if_pos nx]
theorem aPI {x : Dy} (h0 : x.2.1.length = 0) : kS x = 0 := by
 unfold kS
 rw [if_pos (.inr h0)]
theorem aXg {x y : Dy} (hx : dV x = true) (hy : dV y = true) (sx : kS x = 1) (sy : kS y = 1) : uT x y = aDi x y := by
 unfold uT
 rw [if_neg (by rw [hx, hy]; rintro (h | h) <;> cases h), sx, sy, if_neg (by decide), if_neg (by decide), if_neg (by decide), Int.one_mul]
theorem aSi {x y : Dy} (hx : dV x = true) (hy : dV y = true) (nx : x.1 = false) (ny : y.1 = false) (h : uT y x ≤ 0) : uT (aFP x) (aFP y) ≤ 0 := by
 have o1 := aIP hy hx ny nx (min x.2.2.1 y.2.2.1) (by omega) (by omega)
 have o2 := aIP hx hy nx ny (min x.2.2.1 y.2.2.1) (by omega) (by omega)
 rw [o1, aNZ] at h
 have px := Nat.two_pow_pos (x.2.2.1 - min x.2.2.1 y.2.2.1).toNat
 have py := Nat.two_pow_pos (y.2.2.1 - min x.2.2.1 y.2.2.1).toNat
 obtain ⟨_, mx, _, _⟩ := jT hx
 obtain ⟨_, my, _, _⟩ := jT hy
 by_cases x0 : x.2.1.length = 0
 ·have zx := (qV mx).2 x0
  rw [zx, Nat.zero_mul] at h
  have zy : nv y.2.1 = 0 := by
   rcases Nat.mul_eq_zero.1 (Nat.le_zero.1 h) with hh | hh
   ·exact hh
   ·omega
  rw [neg_nil x0, neg_nil ((qV my).1 zy), o2, zx, zy, Nat.zero_mul, Nat.zero_mul]
  decide
 ·by_cases y0 : y.2.1.length = 0
  ·rw [neg_nil y0, aQV hx x0]
   have hm : dV (!x.1, x.2.1, x.2.2.1, ()) = true := by rw [aIS (d := (!x.1, x.2.1, x.2.2.1, ())) (e := x) rfl rfl x0]; exact hx
   unfold uT
   rw [if_neg (by rw [hm, hy]; rintro (h | h) <;> cases h), sign_neg hm (by rw [nx]; rfl) x0, aPI y0, if_pos (by decide)]
   decide
  ·rw [aQV hx x0, aQV hy y0]
   have hm : dV (!x.1, x.2.1, x.2.2.1, ()) = true := by rw [aIS (d := (!x.1, x.2.1, x.2.2.1, ())) (e := x) rfl rfl x0]; exact hx
   have hn : dV (!y.1, y.2.1, y.2.2.1, ()) = true := by rw [aIS (d := (!y.1, y.2.1, y.2.2.1, ())) (e := y) rfl rfl y0]; exact hy
   have e : aDi (!x.1, x.2.1, x.2.2.1, ()) (!y.1, y.2.1, y.2.2.1, ()) = aDi x y := rfl
   have o3 := aXg hx hy (aPH hx nx x0) (aPH hy ny y0)
   rw [o2] at o3
   unfold uT
   rw [if_neg (by rw [hm, hn]; rintro (h | h) <;> cases h), sign_neg hm (by rw [nx]; rfl) x0, sign_neg hn (by rw [ny]; rfl) y0, if_neg (by decide), if_neg (by decide), if_neg (by decide), e, ← o3]
   unfold zV
   split
   ·omega
   ·split <;> decide
structure aXu (x : Dy) : Prop where
 may : dV x = true
 neg : x.1 = false
 len : x.2.1.length ≤ 1000
 lm : Lm x.2.1
theorem aXv : aXu d0 := ⟨by decide, rfl, Nat.zero_le _, fun x hx => by cases hx⟩
theorem yQ {q n : Nat} {s : List Nat} (hq : q < 18446744073709551616 ^ 201) (hn : n ≤ 40) (hA : aFN s = q) (hB : aEP s = 10 ^ n) (up : Bool) : aXu (sN s 1000 up) := by
 obtain ⟨r1, r2⟩ := aEQ hq hn
 unfold sN
 rw [hA, hB]
 by_cases h0 : q = 0
 ·rw [if_pos h0]; exact aXv
 ·rw [if_neg h0]
  unfold aQG rE
  have hlt := aNO (A := q) (B := 10 ^ n) (p := 1000) (k := 1000 + 1 + bl (10 ^ n)) (up := up)
  refine ⟨uN hlt (by decide) (by constructor <;> omega), vR _ _, ?_, aVs _ _⟩
  rw [vO]
  exact Nat.le_trans (nV.2 (aMG 16 (Nat.lt_of_le_of_lt odd_le' hlt) (by decide))) (by decide)
where odd_le' {M : Nat} : M / 2 ^ tzn M ≤ M := Nat.div_le_self _ _
def mX (n q : Nat) : List Nat := ptS n (rI n (txt q))
theorem aIU (n q : Nat) : ∀ c ∈ mX n q, c ≠ 44 ∧ c ≠ 45 := by
 have hd := aSa n (aR9 q)
 unfold mX
 generalize rI n (txt q) = s at hd
 have h1 : ∀ c ∈ s, c ≠ 44 ∧ c ≠ 45 := fun c hc => by
  have := hd c hc
  simp only [kQ, decide_eq_true_iff] at this
  omega
 unfold ptS
 split
 ·intro c hc
  simp only [List.mem_append, List.mem_cons, List.not_mem_nil, or_false] at hc
  rcases hc with (hc | hc) | hc
  ·exact h1 c (List.mem_of_mem_take hc)
  ·subst hc; decide
  ·exact h1 c (List.mem_of_mem_drop hc)
 ·exact h1
theorem aKY (n q : Nat) : 1 ≤ (mX n q).length := by
 have hl := aVq n (txt q)
 unfold mX
 generalize rI n (txt q) = s at hl
 unfold ptS
 split
 ·simp only [List.length_append, List.length_cons, List.length_nil]; omega
 ·omega
theorem aB4 (s : List Nat) (hs : s.length ≤ 100000000) (h : s.getD 0 0 ≠ 45) : gJ s = some ((aFO s 1000).1, (aFO s 1000).2.1, ()) := by
 unfold gJ
 refine aB (fun h => h) ?_
 rw [if_neg (fun hh => h hh.2), aVf s 1000 (by omega)]
 exact aB rfl rfl
theorem aEk (s : List Nat) (hs : s.length ≤ 100000000) (h1 : (aFO s 1000).1.1.2.1.length ≤ 1000000) (h2 : (aFO s 1000).1.2.1.2.1.length ≤ 1000000) : gJ (45 :: s) = some ((aFP (aFO s 1000).1.2.1, aFP (aFO s 1000).1.1, ()), (aFO s 1000).2.1, ()) := by
 have e : List.drop 1 (45 :: s) = s := rfl
 unfold gJ
 refine aB (fun h => h) ?_
 rw [if_pos ⟨by simp only [List.length_cons]; omega, rfl⟩, e, aVf s 1000 (by omega), Option.getD_some, aVn _ h1, aVn _ h2]
 exact aB (by simp; omega) (aB rfl (aB rfl (aB rfl rfl)))
theorem aVO {s : List Nat} (h : (oS s).2.2.1 = true) : aFO s 1000 = ((sN s 1000 false, sN s 1000 true, ()), 0, ()) := by
 unfold aFO
 rw [if_neg (fun hh => hh h), if_neg (by decide)]
 rfl
theorem aTf {s : List Nat} (h : 60 < s.length) : aFO s 1000 = ((d0, d0, ()), 6, ()) := by
 unfold aFO
 have : oS s = litNo := by unfold oS; rw [if_pos (.inl h)]
 rw [if_pos (by rw [this]; decide)]
structure aZu (n q : Nat) (r : (Dy × Dy × Unit) × Int × Unit) : Prop where
 e : r.2.1 = 0 ∨ (r.2.1 ≠ 0 ∧ 60 < (mX n q).length)
 ends : r.2.1 = 0 → (mX n q).length ≤ 60 ∧ r.1 = (sN (mX n q) 1000 false, sN (mX n q) 1000 true, ()) ∧ aFN (mX n q) = q ∧ aEP (mX n q) = 10 ^ n
 l1 : r.1.1.2.1.length ≤ 1000000
 l2 : r.1.2.1.2.1.length ≤ 1000000
theorem aSj {n q : Nat} (hn : n ≤ 40) (hq : q < 18446744073709551616 ^ 201) : aZu n q (aFO (mX n q) 1000) := by
 by_cases h : (mX n q).length ≤ 60
 ·obtain ⟨hA, hB, _, _⟩ := aXa n q h
  have hf : (oS (mX n q)).2.2.1 = true := by
   have := aPw n q h
   unfold mX
   rw [this]
  have e := aVO hf
  have o1 := yQ hq hn (s := mX n q) hA hB false
  have o2 := yQ hq hn (s := mX n q) hA hB true
  refine ⟨.inl (by rw [e]), fun _ => ⟨h, by rw [e], hA, hB⟩, ?_, ?_⟩
  ·rw [e]; exact Nat.le_trans o1.len (by decide)
  ·rw [e]; exact Nat.le_trans o2.len (by decide)
 ·have e := aTf (s := mX n q) (by omega)
  refine ⟨.inr (by rw [e]; exact ⟨by decide, by omega⟩), (fun h => by rw [e] at h; cases h), ?_, ?_⟩ <;> rw [e] <;> exact Nat.zero_le _
theorem aSk {d : Dy} (h : d.1 = true) (n : Nat) (up : Bool) : txQ d n up = txQ (aIy d) n (!up) := by
 unfold txQ
 rw [h]
 show (let m := txM d n; let k := (max (-d.2.2.1) 0).toNat; if m % 2 ^ k ≠ 0 ∧ (up != true) = true then m / 2 ^ k + 1 else m / 2 ^ k) = (let m := txM d n; let k := (max (-d.2.2.1) 0).toNat; if m % 2 ^ k ≠ 0 ∧ ((!up) != false) = true then m / 2 ^ k + 1 else m / 2 ^ k)
 cases up <;> rfl
theorem aVP {d : Dy} {n : Nat} (lm : Lm d.2.1) (hd : dV d = true) (he : d.2.2.1 ≤ 2000) (hn : n ≤ 60) (up : Bool) : txQ d n up < 18446744073709551616 ^ 201 := by
 obtain ⟨a1, _, _, _⟩ := jT hd
 have hM := aQL (k := n) lm a1 he hn
 have hb : 18446744073709551616 ^ 200 < 18446744073709551616 ^ 201 := aR0 200 201 (by decide)
 have hx := Nat.div_le_self (txM d n) (2 ^ (max (-d.2.2.1) 0).toNat)
 unfold txQ
 simp only
 split <;> omega
theorem lower {d : Dy} {n : Nat} (lm : Lm d.2.1) (hd : dV d = true) (he : -2000 ≤ d.2.2.1 ∧ d.2.2.1 ≤ 2000) (hn : n ≤ 40) :
  ∃ r e, gJ (sgS d.1 (txQ d n false) (mX n (txQ d n false))) = some (r, e, ()) ∧ (e = 0 → uT r.1 d ≤ 0 ∧ Lm r.1.2.1) ∧ (e ≠ 0 → 61 ≤ (sgS d.1 (txQ d n false) (mX n (txQ d n false))).length) := by
 have hq := aVP (n := n) lm hd he.2 (by omega) false
 have hN := aSj hn hq
 have hlen : (mX n (txQ d n false)).length ≤ 100000000 := num_len hq hn
 cases hs : d.1 with
 | false =>
  have e1 : sgS false (txQ d n false) (mX n (txQ d n false)) = mX n (txQ d n false) := by unfold sgS; rw [if_neg (by rintro ⟨h, _⟩; cases h)]
  rw [e1]
  have hc : (mX n (txQ d n false)).getD 0 0 ≠ 45 := (aIU n _ _ (zT (z := 0) (aKY n _))).2
  refine ⟨_, _, aB4 _ hlen hc, fun h0 => ?_, fun h0 => ?_⟩
  ·obtain ⟨h1, h2, hA, hB⟩ := hN.ends h0
   rw [h2]
   exact ⟨aVv hd hs hn hq hA hB, (yQ hq hn hA hB false).lm⟩
  ·rcases hN.e with h | h
   ·exact absurd h h0
   ·omega
 | true =>
  have hab := aN5 hd hs
  have hqa := aSk hs n false
  have hM : txM (aIy d) n ≠ 0 := by
   have := (qV (jT hd).2.1)
   have h0 : nv d.2.1 ≠ 0 := fun h => aIT hd hs (this.1 h)
   unfold txM aIy
   exact Nat.mul_ne_zero (Nat.mul_ne_zero h0 (Nat.ne_of_gt (Nat.two_pow_pos _))) (Nat.ne_of_gt (Nat.pow_pos (by decide)))
  have hup := (aVt (d := aIy d) (n := n) rfl).1
  have hq0 : txQ d n false ≠ 0 := fun h => by
   rw [hqa] at h
   have h : txQ (aIy d) n true = 0 := h
   rw [h, Nat.zero_mul] at hup
   omega
  have e1 : sgS true (txQ d n false) (mX n (txQ d n false)) = 45 :: mX n (txQ d n false) := by unfold sgS; rw [if_pos ⟨rfl, hq0⟩]
  rw [e1]
  refine ⟨_, _, aEk _ hlen hN.l1 hN.l2, fun h0 => ?_, fun h0 => ?_⟩
  ·obtain ⟨h1, h2, hA, hB⟩ := hN.ends h0
   have ok := yQ hq hn hA hB true
   rw [h2]
   have hb := aVw (d := aIy d) (n := n) (s := mX n (txQ d n false)) hab rfl hn (by rw [show txQ (aIy d) n true = txQ d n false from hqa.symm]; exact hq) (by rw [hA]; exact hqa) hB
   have := aSi ok.may hab ok.neg rfl hb
   rw [abs_neg hd hs] at this
   exact ⟨this, neg_lm ok.lm⟩
  ·rcases hN.e with h | h
   ·exact absurd h h0
   ·simp only [List.length_cons]; omega
where
 neg_lm {x : Dy} (h : Lm x.2.1) : Lm (aFP x).2.1 := by
  unfold aFP
  split <;> exact h
 num_len {q n : Nat} (hq : q < 18446744073709551616 ^ 201) (hn : n ≤ 40) : (mX n q).length ≤ 100000000 := by
  have hb : 18446744073709551616 ^ 201 < 18446744073709551616 ^ 10000 := aR0 201 10000 (by decide)
  have hl := aNW (n := q) (Nat.le_trans (aVm (Nat.lt_trans hq hb)) (by decide))
  unfold mX
  have hp : (rI n (txt q)).length ≤ 2000000 := by
   unfold rI
   rw [List.length_append, List.length_replicate]
   omega
  unfold ptS
  split
  ·simp only [List.length_append, List.length_take, List.length_drop, List.length_cons, List.length_nil]
   omega
  ·omega
theorem upper {d : Dy} {n : Nat} (lm : Lm d.2.1) (hd : dV d = true) (he : -2000 ≤ d.2.2.1 ∧ d.2.2.1 ≤ 2000) (hn : n ≤ 40) :
  ∃ r e, gJ (sgS d.1 (txQ d n true) (mX n (txQ d n true))) = some (r, e, ()) ∧ (e = 0 → uT d r.2.1 ≤ 0 ∧ Lm r.2.1.2.1) ∧ (e ≠ 0 → 61 ≤ (sgS d.1 (txQ d n true) (mX n (txQ d n true))).length) := by
 have hq := aVP (n := n) lm hd he.2 (by omega) true
 have hN := aSj hn hq
 have hlen : (mX n (txQ d n true)).length ≤ 100000000 := lower.num_len (d := d) (n := n) hq hn
 have hc : (mX n (txQ d n true)).getD 0 0 ≠ 45 := (aIU n _ _ (zT (z := 0) (aKY n _))).2
 cases hs : d.1 with
 | false =>
  have e1 : sgS false (txQ d n true) (mX n (txQ d n true)) = mX n (txQ d n true) := by unfold sgS; rw [if_neg (by rintro ⟨h, _⟩; cases h)]
  rw [e1]
  refine ⟨_, _, aB4 _ hlen hc, fun h0 => ?_, fun h0 => ?_⟩
  ·obtain ⟨h1, h2, hA, hB⟩ := hN.ends h0
   rw [h2]
   exact ⟨aVw hd hs hn hq hA hB, (yQ hq hn hA hB true).lm⟩
  ·rcases hN.e with h | h
   ·exact absurd h h0
   ·omega
 | true =>
  have hab := aN5 hd hs
  have hqa := aSk hs n true
  by_cases hq0 : txQ d n true = 0
  ·have e1 : sgS true (txQ d n true) (mX n (txQ d n true)) = mX n (txQ d n true) := by unfold sgS; rw [if_neg (fun h => h.2 hq0)]
   rw [e1]
   refine ⟨_, _, aB4 _ hlen hc, fun h0 => ?_, fun h0 => ?_⟩
   ·obtain ⟨h1, h2, hA, hB⟩ := hN.ends h0
    have e2 : sN (mX n (txQ d n true)) 1000 true = d0 := by unfold sN; rw [hA, if_pos hq0]
    rw [h2, e2]
    refine ⟨?_, fun x hx => by cases hx⟩
    show uT d d0 ≤ 0
    unfold uT
    rw [if_neg (by rw [hd, aXv.may]; rintro (h | h) <;> cases h), sign_neg hd hs (aIT hd hs), aPI (x := d0) rfl, if_pos (by decide)]
    decide
   ·rcases hN.e with h | h
    ·exact absurd h h0
    ·omega
  ·have e1 : sgS true (txQ d n true) (mX n (txQ d n true)) = 45 :: mX n (txQ d n true) := by unfold sgS; rw [if_pos ⟨rfl, hq0⟩]
   rw [e1]
   refine ⟨_, _, aEk _ hlen hN.l1 hN.l2, fun h0 => ?_, fun h0 => ?_⟩
   ·obtain ⟨h1, h2, hA, hB⟩ := hN.ends h0
    have ok := yQ hq hn hA hB false
    rw [h2]
    have hb := aVv (d := aIy d) (n := n) (s := mX n (txQ d n true)) hab rfl hn (by rw [show txQ (aIy d) n false = txQ d n true from hqa.symm]; exact hq) (by rw [hA]; exact hqa) hB
    have := aSi hab ok.may rfl ok.neg hb
    rw [abs_neg hd hs] at this
    exact ⟨this, lower.neg_lm ok.lm⟩
   ·rcases hN.e with h | h
    ·exact absurd h h0
    ·simp only [List.length_cons]; omega
end Nu
end Go.Proofs
namespace Go.Proofs
open Go.Vc
set_option maxRecDepth 20000
namespace Nu
theorem aXh (a : Iv) : ∃ b, vW a = some b := by
 unfold vW sP
 exact ⟨_, bH rfl (aB (fun _ => rfl) rfl)⟩
theorem aYl (x : Int) : ∃ n : Nat, n ≤ 30 ∧ IntKind.i64.wrap ((((x % (18446744073709551616 : Int)).toNat % 31 : Nat)) : Int) = (n : Int) := by
 have := Nat.mod_lt (x % (18446744073709551616 : Int)).toNat (show 0 < 31 by decide)
 refine ⟨(x % (18446744073709551616 : Int)).toNat % 31, by omega, ?_⟩
 generalize (x % (18446744073709551616 : Int)).toNat % 31 = r at this
 simp only [IntKind.wrap, IntKind.signed, IntKind.bits]; simp; omega
theorem aYI (b : Bool) (n q : Nat) : ∀ c ∈ sgS b q (mX n q), c ≠ 44 := by
 unfold sgS
 split
 ·intro c hc
  rcases List.mem_cons.1 hc with rfl | hc
  ·decide
  ·exact (aIU n q c hc).1
 ·intro c hc; exact (aIU n q c hc).1
theorem aYm (b : Bool) (n q : Nat) : 1 ≤ (sgS b q (mX n q)).length := by
 have := aKY n q
 unfold sgS
 split
 ·simp
 ·exact this
def frame (A B : List Nat) : List Nat := [91] ++ A ++ [44, 32] ++ B ++ [93]
theorem aMP (A B : List Nat) : (frame A B).length = A.length + B.length + 4 := by unfold frame; simp; omega
theorem aPJ (A B : List Nat) : (frame A B).getD 0 0 = 91 ∧ (frame A B).getD (A.length + 1) 0 = 44 ∧ (frame A B).getD (A.length + 2) 0 = 32 ∧ (frame A B).getD (A.length + B.length + 3) 0 = 93 := by
 have e : frame A B = 91 :: (A ++ (44 :: 32 :: (B ++ [93]))) := by unfold frame; simp
 rw [e]
 refine ⟨rfl, ?_, ?_, ?_⟩
 ·rw [List.getD_cons_succ, List.getD_eq_getElem?_getD, List.getElem?_append_right (Nat.le_refl _), Nat.sub_self]; rfl
 ·rw [show A.length + 2 = A.length + 1 + 1 from rfl, List.getD_cons_succ, List.getD_eq_getElem?_getD, List.getElem?_append_right (by omega), Nat.add_sub_cancel_left]; rfl
 ·rw [show A.length + B.length + 3 = A.length + (B.length + 2) + 1 from by omega, List.getD_cons_succ, List.getD_eq_getElem?_getD, List.getElem?_append_right (by omega), Nat.add_sub_cancel_left,
   show B.length + 2 = B.length + 1 + 1 from rfl, List.getElem?_cons_succ, List.getElem?_cons_succ, List.getElem?_append_right (Nat.le_refl _), Nat.sub_self]; rfl
theorem aXi (A B : List Nat) : List.drop 1 (List.take (A.length + 1) (frame A B)) = A := by
 have e : frame A B = ([91] ++ A) ++ ([44, 32] ++ B ++ [93]) := by unfold frame; simp
 rw [e, List.take_append_of_le_length (by simp), List.take_of_length_le (by simp)]
 rfl
theorem aXj (A B : List Nat) : List.drop (A.length + 3) (List.take (A.length + B.length + 3) (frame A B)) = B := by
 have e : frame A B = (([91] ++ A ++ [44, 32]) ++ B) ++ [93] := by unfold frame; simp
 have l1 : ([91] ++ A ++ [44, 32]).length = A.length + 3 := by simp only [List.length_append, List.length_cons, List.length_nil]; omega
 rw [e, List.take_append_of_le_length (by rw [List.length_append, l1]; omega), List.take_of_length_le (by rw [List.length_append, l1]; omega), ← l1, List.drop_left]
theorem aVQ (A B : List Nat) (h : ∀ c ∈ A, c ≠ 44) (i : Nat) (hi : i < A.length + 1) : (frame A B).getD i 0 ≠ 44 := by
 have e : frame A B = ([91] ++ A) ++ ([44, 32] ++ B ++ [93]) := by unfold frame; simp
 have hl : i < ([91] ++ A).length := by simp; omega
 rw [e, List.getD_eq_getElem?_getD, List.getElem?_append_left hl, List.getElem?_eq_getElem hl]
 show ([91] ++ A)[i] ≠ 44
 have hm := List.getElem_mem hl
 rcases List.mem_append.1 hm with hm | hm
 ·simp only [List.mem_cons, List.not_mem_nil, or_false] at hm
  rw [hm]; decide
 ·exact h _ hm
theorem aQW (v : Tx) (A B : List Nat) (hv : v.1 = frame A B) (hA : ∀ c ∈ A, c ≠ 44) (hl : A.length + B.length ≤ 100000000) : eQ (fun d : Int => fX v d) 0 = some ((A.length + 1 : Nat) : Int) := by
 have hlen := aMP A B
 have h := kO (step := fun d : Int => fX v d) (I := fun d => ∃ i : Nat, d = i ∧ i ≤ A.length + 1) (fun d => (A.length + 1 - d).toNat) (fun _ => ((A.length + 1 : Nat) : Int)) (fun d hd => by
  obtain ⟨i, rfl, hi⟩ := hd
  simp only
  unfold fX
  rw [hv, Int.toNat_natCast]
  rcases Nat.lt_or_ge i (A.length + 1) with h1 | h1
  ·left
   refine ⟨((i + 1 : Nat) : Int), aB (fun _ => by constructor <;> omega) ?_, ⟨i + 1, rfl, h1⟩, by omega, trivial⟩
   rw [if_pos ⟨by omega, aVQ A B hA i h1⟩]
   exact aB (by constructor <;> omega) rfl
  ·right
   obtain rfl : i = A.length + 1 := by omega
   refine aB (fun _ => by constructor <;> omega) ?_
   rw [if_neg (fun hh => hh.2 (aPJ A B).2.1)])
 exact h 0 ⟨0, rfl, Nat.zero_le _⟩
theorem aGS (a : Iv) (n0 : Int) (lm : LmI a) : kV a n0 = some true := by
  obtain ⟨n, hn, en⟩ := aYl n0
  obtain ⟨f, hf⟩ := aXh a
  unfold kV
  rw [en]
  refine bH hf ?_
  split
  · exact bH aDJ rfl
  · rename_i hc
    have hlo : -60 ≤ a.1.2.2.1 ∧ a.1.2.2.1 ≤ 60 := by constructor <;> (refine Decidable.byContradiction fun h => hc ?_) <;> (have := h; simp only [Int.not_le] at this; simp [this])
    have hhi : -60 ≤ a.2.1.2.2.1 ∧ a.2.1.2.2.1 ≤ 60 := by constructor <;> (refine Decidable.byContradiction fun h => hc ?_) <;> (have := h; simp only [Int.not_le] at this; simp [this])
    refine bH (aKT a n lm) ?_
    have hlen := aMN a n lm
    unfold sB at hlen ⊢
    by_cases hm : aDp a = false
    · rw [if_pos hm, if_pos (by decide)]
      exact bH aDJ rfl
    · have hm' : aDp a = true := by simpa using hm
      have hmd : dV a.1 = true ∧ dV a.2.1 = true := by
        unfold aDp at hm'
        simp only [Bool.and_eq_true] at hm'
        exact hm'.1
      have t1 : jW a.1 n false = (sgS a.1.1 (txQ a.1 n false) (mX n (txQ a.1 n false)), 0, ()) := by
        unfold jW
        rw [if_neg (by rw [hmd.1]; rintro (h | h | h); · cases h
                       · omega
                       · omega), if_neg (by omega), Int.toNat_natCast]; rfl
      have t2 : jW a.2.1 n true = (sgS a.2.1.1 (txQ a.2.1 n true) (mX n (txQ a.2.1 n true)), 0, ()) := by
        unfold jW
        rw [if_neg (by rw [hmd.2]; rintro (h | h | h); · cases h
                       · omega
                       · omega), if_neg (by omega), Int.toNat_natCast]; rfl
      rw [if_neg hm, t1, t2] at hlen ⊢
      simp only [ne_eq, not_true_eq_false, if_false] at hlen ⊢
      obtain ⟨r1, e1, n1, c1, d1⟩ := lower (n := n) lm.1 hmd.1 (by omega) (by omega)
      obtain ⟨r2, e2, n2, c2, d2⟩ := upper (n := n) lm.2 hmd.2 (by omega) (by omega)
      have hA := aYI a.1.1 n (txQ a.1 n false)
      have hA1 := aYm a.1.1 n (txQ a.1 n false)
      generalize sgS a.1.1 (txQ a.1 n false) (mX n (txQ a.1 n false)) = A at *
      generalize sgS a.2.1.1 (txQ a.2.1 n true) (mX n (txQ a.2.1 n true)) = B at *
      have hL : (frame A B).length = A.length + B.length + 4 := aMP A B
      have hl : A.length + B.length + 4 ≤ 6000010 := by rw [← hL]; exact hlen
      refine bH (aQW (frame A B, 0, ()) A B rfl hA (by omega)) ?_
      show fW (frame A B, 0, ()) a ((A.length + 1 : Nat) : Int) = some true
      obtain ⟨q1, q2, q3, q4⟩ := aPJ A B
      have i1 : (((frame A B).length : Int) - 1).toNat = A.length + B.length + 3 := by omega
      have i2 : (((A.length + 1 : Nat) : Int) + 1).toNat = A.length + 2 := by omega
      have i3 : (((A.length + 1 : Nat) : Int) + 2).toNat = A.length + 3 := by omega
      unfold fW
      simp only [i1, i2, i3, q1, q3, q4, Int.toNat_natCast, aXi, aXj]
      refine aB (fun _ => by omega) (aB (fun _ => by constructor <;> omega) (aB (fun _ => by constructor <;> omega) (aB (fun _ => by constructor <;> omega) (aB (fun _ => by constructor <;> omega) (aB (fun _ => by constructor <;> omega) ?_)))))
      rw [if_neg (by
        rintro ((((h | h) | h) | h) | h)
        · omega
        · exact h trivial
        · exact h trivial
        · omega
        · exact h trivial)]
      refine aB (by constructor <;> omega) (bH n1 (aB (by constructor <;> omega) (aB (by constructor <;> omega) (aB (by refine ⟨?_, ?_, ?_⟩ <;> omega) (bH n2 ?_)))))
      simp only
      by_cases h0 : e1 = 0 ∧ e2 = 0
      · obtain ⟨h1, h2⟩ := h0
        rw [if_neg (by rintro (h | h); exact h h1; exact h h2)]
        have k1 := aNY r1.1 a.1 (c1 h1).2 lm.1
        have k2 := aNY a.2.1 r2.2.1 lm.2 (c2 h2).2
        refine bH aDJ ?_
        rw [k1, k2]
        refine aB (fun _ => rfl) (aB (fun _ => rfl) ?_)
        simp only [Option.getD_some, decide_eq_true (c1 h1).1, decide_eq_true (c2 h2).1, Bool.and_self]
      · have hor : e1 ≠ 0 ∨ e2 ≠ 0 := by
          by_cases h1 : e1 = 0
          · exact .inr fun h2 => h0 ⟨h1, h2⟩
          · exact .inl h1
        rw [if_pos hor]
        refine bH aDJ (aB (fun _ _ => by constructor <;> omega) ?_)
        have : (decide ((60 : Int) < ((A.length + 1 : Nat) : Int)) || decide ((62 : Int) < ((frame A B).length : Int) - ((A.length + 1 : Nat) : Int))) = true := by
          rcases hor with h | h
          · have := d1 h
            rw [decide_eq_true (by omega)]; rfl
          · have := d2 h
            rw [decide_eq_true (p := (62 : Int) < ((frame A B).length : Int) - ((A.length + 1 : Nat) : Int)) (by omega), Bool.or_true]
        rw [this]; rfl
end Nu
end Go.Proofs
