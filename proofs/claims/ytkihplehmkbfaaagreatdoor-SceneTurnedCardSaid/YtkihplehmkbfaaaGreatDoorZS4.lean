import Derived.Test.YtkihplehmkbfaaaGreatDoorZS3
set_option linter.unusedVariables false
set_option linter.unusedSimpArgs false
namespace Go.Proofs
open Go.Vc
set_option maxRecDepth 20000
namespace Nu
attribute [-go_sem] Ex.kind Ex.text Ex.l
noncomputable def bC (F : Md) (r_3 : (Int × (Int × (Int × (Int × ((List Nat) × ((List Nat) × ((List Nat) × ((List Nat) × ((List ((List Nat) × ((List ((List Nat) × (((List Nat) × ((List Nat) × Unit)) × (Ex × Unit)))) × ((List ((List Nat) × (((List Nat) × ((List Nat) × Unit)) × Unit))) × ((List (List Nat)) × ((List ((List Nat) × (Ex × Unit))) × Unit)))))) × ((List ((List Nat) × ((List Nat) × ((List Nat) × ((List Nat) × Unit))))) × Unit))))))))))) (may_4 : Bool) (s_5 : Int) (s_6 : Int) (s_7 : Int) (s_8 : Int) (s_9 : (List Nat)) (s_10 : (List Nat)) (s_11 : (List Nat)) (x_12 : (List ((List Nat) × ((List ((List Nat) × (((List Nat) × ((List Nat) × Unit)) × (Ex × Unit)))) × ((List ((List Nat) × (((List Nat) × ((List Nat) × Unit)) × Unit))) × ((List (List Nat)) × ((List ((List Nat) × (Ex × Unit))) × Unit))))))) : Option (Bool) :=
 ck (((pY F).isSome = true)) (ck (((((pY F).getD false) = true) → (((bV F (s_5, s_6, s_7, s_8, s_9, ((((((r_3.2).2).2).2).2).1), s_10, s_11, x_12, ((((((((((r_3.2).2).2).2).2).2).2).2).2).1), ())).isSome = true)))) (some (((pY F).getD false) && (((bV F (s_5, s_6, s_7, s_8, s_9, ((((((r_3.2).2).2).2).2).1), s_10, s_11, x_12, ((((((((((r_3.2).2).2).2).2).2).2).2).2).1), ())).getD false) == may_4))))
noncomputable def jZ (F : Md) (what_0 : Int) : Option Bool :=
 (iK F).bind (fun r_3 => if (IntKind.i64.wrap (((((what_0 % (18446744073709551616 : Int)).toNat) % (16 : Nat)) : Nat) : Int)) = (0 : Int) then bC F r_3 false (7 : Int) ((r_3.2).1) (((r_3.2).2).1) ((((r_3.2).2).2).1) (((((r_3.2).2).2).2).1) (((((((r_3.2).2).2).2).2).2).1) ((((((((r_3.2).2).2).2).2).2).2).1) (((((((((r_3.2).2).2).2).2).2).2).2).1) else if (IntKind.i64.wrap (((((what_0 % (18446744073709551616 : Int)).toNat) % (16 : Nat)) : Nat) : Int)) = (1 : Int) then bC F r_3 true (200 : Int) ((r_3.2).1) (((r_3.2).2).1) ((((r_3.2).2).2).1) (((((r_3.2).2).2).2).1) (((((((r_3.2).2).2).2).2).2).1) ((((((((r_3.2).2).2).2).2).2).2).1) (((((((((r_3.2).2).2).2).2).2).2).2).1) else if (IntKind.i64.wrap (((((what_0 % (18446744073709551616 : Int)).toNat) % (16 : Nat)) : Nat) : Int)) = (2 : Int) then bC F r_3 false (r_3.1) (21 : Int) (((r_3.2).2).1) ((((r_3.2).2).2).1) (((((r_3.2).2).2).2).1) (((((((r_3.2).2).2).2).2).2).1) ((((((((r_3.2).2).2).2).2).2).2).1) (((((((((r_3.2).2).2).2).2).2).2).2).1) else if (IntKind.i64.wrap (((((what_0 % (18446744073709551616 : Int)).toNat) % (16 : Nat)) : Nat) : Int)) = (3 : Int) then bC F r_3 false (r_3.1) ((r_3.2).1) (4 : Int) ((((r_3.2).2).2).1) (((((r_3.2).2).2).2).1) (((((((r_3.2).2).2).2).2).2).1) ((((((((r_3.2).2).2).2).2).2).2).1) (((((((((r_3.2).2).2).2).2).2).2).2).1) else if (IntKind.i64.wrap (((((what_0 % (18446744073709551616 : Int)).toNat) % (16 : Nat)) : Nat) : Int)) = (4 : Int) then bC F r_3 false (r_3.1) ((r_3.2).1) (((r_3.2).2).1) (3 : Int) (((((r_3.2).2).2).2).1) (((((((r_3.2).2).2).2).2).2).1) ((((((((r_3.2).2).2).2).2).2).2).1) (((((((((r_3.2).2).2).2).2).2).2).2).1) else if (IntKind.i64.wrap (((((what_0 % (18446744073709551616 : Int)).toNat) % (16 : Nat)) : Nat) : Int)) = (5 : Int) then bC F r_3 false (r_3.1) ((r_3.2).1) (((r_3.2).2).1) ((((r_3.2).2).2).1) (aY ⟨#[48]⟩) (((((((r_3.2).2).2).2).2).2).1) ((((((((r_3.2).2).2).2).2).2).2).1) (((((((((r_3.2).2).2).2).2).2).2).2).1) else if (IntKind.i64.wrap (((((what_0 % (18446744073709551616 : Int)).toNat) % (16 : Nat)) : Nat) : Int)) = (6 : Int) then bC F r_3 true (r_3.1) ((r_3.2).1) (((r_3.2).2).1) ((((r_3.2).2).2).1) (aY ⟨#[49, 50, 56]⟩) (((((((r_3.2).2).2).2).2).2).1) ((((((((r_3.2).2).2).2).2).2).2).1) (((((((((r_3.2).2).2).2).2).2).2).2).1) else if (IntKind.i64.wrap (((((what_0 % (18446744073709551616 : Int)).toNat) % (16 : Nat)) : Nat) : Int)) = (7 : Int) then bC F r_3 false (r_3.1) ((r_3.2).1) (((r_3.2).2).1) ((((r_3.2).2).2).1) (aY ⟨#[49, 50, 56, 46, 53]⟩) (((((((r_3.2).2).2).2).2).2).1) ((((((((r_3.2).2).2).2).2).2).2).1) (((((((((r_3.2).2).2).2).2).2).2).2).1) else if (IntKind.i64.wrap (((((what_0 % (18446744073709551616 : Int)).toNat) % (16 : Nat)) : Nat) : Int)) = (8 : Int) then bC F r_3 false (r_3.1) ((r_3.2).1) (((r_3.2).2).1) ((((r_3.2).2).2).1) (((((r_3.2).2).2).2).1) (aY ⟨#[48, 46, 55, 53]⟩) ((((((((r_3.2).2).2).2).2).2).2).1) (((((((((r_3.2).2).2).2).2).2).2).2).1) else if (IntKind.i64.wrap (((((what_0 % (18446744073709551616 : Int)).toNat) % (16 : Nat)) : Nat) : Int)) = (9 : Int) then bC F r_3 true (r_3.1) ((r_3.2).1) (((r_3.2).2).1) ((((r_3.2).2).2).1) (((((r_3.2).2).2).2).1) (aY ⟨#[48, 46, 48, 48, 48, 49, 50, 50, 48, 55, 48, 51, 49, 50, 53]⟩) ((((((((r_3.2).2).2).2).2).2).2).1) (((((((((r_3.2).2).2).2).2).2).2).2).1) else if (IntKind.i64.wrap (((((what_0 % (18446744073709551616 : Int)).toNat) % (16 : Nat)) : Nat) : Int)) = (10 : Int) then bC F r_3 false (r_3.1) ((r_3.2).1) (((r_3.2).2).1) ((((r_3.2).2).2).1) (((((r_3.2).2).2).2).1) (aY ⟨#[48, 46, 48, 48, 48, 49]⟩) ((((((((r_3.2).2).2).2).2).2).2).1) (((((((((r_3.2).2).2).2).2).2).2).2).1) else if (IntKind.i64.wrap (((((what_0 % (18446744073709551616 : Int)).toNat) % (16 : Nat)) : Nat) : Int)) = (11 : Int) then bC F r_3 false (r_3.1) ((r_3.2).1) (((r_3.2).2).1) ((((r_3.2).2).2).1) (((((r_3.2).2).2).2).1) (((((((r_3.2).2).2).2).2).2).1) (aY ⟨#[48, 46, 51]⟩) (((((((((r_3.2).2).2).2).2).2).2).2).1) else if (IntKind.i64.wrap (((((what_0 % (18446744073709551616 : Int)).toNat) % (16 : Nat)) : Nat) : Int)) = (12 : Int) then ck ((0 : Int) < ((((((((((((r_3.2).2).2).2).2).2).2).2).1).length) : Nat) : Int)) (ck ((((((((((((r_3.2).2).2).2).2).2).2).2).1).length) + (1 : Nat)) * 121 ≤ 140737488355328) (bC F r_3 false (r_3.1) ((r_3.2).1) (((r_3.2).2).1) ((((r_3.2).2).2).1) (((((r_3.2).2).2).2).1) (((((((r_3.2).2).2).2).2).2).1) ((((((((r_3.2).2).2).2).2).2).2).1) ((((((((((r_3.2).2).2).2).2).2).2).2).1) ++ ([((((((((((r_3.2).2).2).2).2).2).2).2).1).getD (0 : Nat) (([] : List Nat), ([] : List ((List Nat) × (((List Nat) × ((List Nat) × Unit)) × (Ex × Unit)))), ([] : List ((List Nat) × (((List Nat) × ((List Nat) × Unit)) × Unit))), ([] : List (List Nat)), ([] : List ((List Nat) × (Ex × Unit))), ()))] : List ((List Nat) × ((List ((List Nat) × (((List Nat) × ((List Nat) × Unit)) × (Ex × Unit)))) × ((List ((List Nat) × (((List Nat) × ((List Nat) × Unit)) × Unit))) × ((List (List Nat)) × ((List ((List Nat) × (Ex × Unit))) × Unit))))))))) else if (IntKind.i64.wrap (((((what_0 % (18446744073709551616 : Int)).toNat) % (16 : Nat)) : Nat) : Int)) = (13 : Int) then ck ((0 : Nat) < ((((((((((r_3.2).2).2).2).2).2).2).2).1).length)) (ck ((0 : Int) < ((((((((((((r_3.2).2).2).2).2).2).2).2).1).length) : Nat) : Int)) (ck ((0 : Int) < (((((((((((((((r_3.2).2).2).2).2).2).2).2).1).getD (0 : Nat) (([] : List Nat), ([] : List ((List Nat) × (((List Nat) × ((List Nat) × Unit)) × (Ex × Unit)))), ([] : List ((List Nat) × (((List Nat) × ((List Nat) × Unit)) × Unit))), ([] : List (List Nat)), ([] : List ((List Nat) × (Ex × Unit))), ())).2).1).length) : Nat) : Int)) (bC F r_3 true (r_3.1) ((r_3.2).1) (((r_3.2).2).1) ((((r_3.2).2).2).1) (((((r_3.2).2).2).2).1) (((((((r_3.2).2).2).2).2).2).1) ((((((((r_3.2).2).2).2).2).2).2).1) ((((((((((r_3.2).2).2).2).2).2).2).2).1).set (0 : Nat) ((((((((((((r_3.2).2).2).2).2).2).2).2).1).getD (0 : Nat) (([] : List Nat), ([] : List ((List Nat) × (((List Nat) × ((List Nat) × Unit)) × (Ex × Unit)))), ([] : List ((List Nat) × (((List Nat) × ((List Nat) × Unit)) × Unit))), ([] : List (List Nat)), ([] : List ((List Nat) × (Ex × Unit))), ())).1), (((((((((((((r_3.2).2).2).2).2).2).2).2).1).getD (0 : Nat) (([] : List Nat), ([] : List ((List Nat) × (((List Nat) × ((List Nat) × Unit)) × (Ex × Unit)))), ([] : List ((List Nat) × (((List Nat) × ((List Nat) × Unit)) × Unit))), ([] : List (List Nat)), ([] : List ((List Nat) × (Ex × Unit))), ())).2).1).set (0 : Nat) (((((((((((((((r_3.2).2).2).2).2).2).2).2).1).getD (0 : Nat) (([] : List Nat), ([] : List ((List Nat) × (((List Nat) × ((List Nat) × Unit)) × (Ex × Unit)))), ([] : List ((List Nat) × (((List Nat) × ((List Nat) × Unit)) × Unit))), ([] : List (List Nat)), ([] : List ((List Nat) × (Ex × Unit))), ())).2).1).getD (0 : Nat) (([] : List Nat), (([] : List Nat), ([] : List Nat), ()), (Ex.mk 0 [] []), ())).1), ((aY ⟨#[45, 49]⟩), (aY ⟨#[45, 48, 46, 53, 101, 48]⟩), ()), ((((((((((((((((r_3.2).2).2).2).2).2).2).2).1).getD (0 : Nat) (([] : List Nat), ([] : List ((List Nat) × (((List Nat) × ((List Nat) × Unit)) × (Ex × Unit)))), ([] : List ((List Nat) × (((List Nat) × ((List Nat) × Unit)) × Unit))), ([] : List (List Nat)), ([] : List ((List Nat) × (Ex × Unit))), ())).2).1).getD (0 : Nat) (([] : List Nat), (([] : List Nat), ([] : List Nat), ()), (Ex.mk 0 [] []), ())).2).2).1), ())), (((((((((((((r_3.2).2).2).2).2).2).2).2).1).getD (0 : Nat) (([] : List Nat), ([] : List ((List Nat) × (((List Nat) × ((List Nat) × Unit)) × (Ex × Unit)))), ([] : List ((List Nat) × (((List Nat) × ((List Nat) × Unit)) × Unit))), ([] : List (List Nat)), ([] : List ((List Nat) × (Ex × Unit))), ())).2).2).1), ((((((((((((((r_3.2).2).2).2).2).2).2).2).1).getD (0 : Nat) (([] : List Nat), ([] : List ((List Nat) × (((List Nat) × ((List Nat) × Unit)) × (Ex × Unit)))), ([] : List ((List Nat) × (((List Nat) × ((List Nat) × Unit)) × Unit))), ([] : List (List Nat)), ([] : List ((List Nat) × (Ex × Unit))), ())).2).2).2).1), (((((((((((((((r_3.2).2).2).2).2).2).2).2).1).getD (0 : Nat) (([] : List Nat), ([] : List ((List Nat) × (((List Nat) × ((List Nat) × Unit)) × (Ex × Unit)))), ([] : List ((List Nat) × (((List Nat) × ((List Nat) × Unit)) × Unit))), ([] : List (List Nat)), ([] : List ((List Nat) × (Ex × Unit))), ())).2).2).2).2).1), ()))))) else if (IntKind.i64.wrap (((((what_0 % (18446744073709551616 : Int)).toNat) % (16 : Nat)) : Nat) : Int)) = (14 : Int) then ck ((0 : Nat) < ((((((((((r_3.2).2).2).2).2).2).2).2).1).length)) (ck ((0 : Int) < ((((((((((((r_3.2).2).2).2).2).2).2).2).1).length) : Nat) : Int)) (ck ((0 : Int) < (((((((((((((((r_3.2).2).2).2).2).2).2).2).1).getD (0 : Nat) (([] : List Nat), ([] : List ((List Nat) × (((List Nat) × ((List Nat) × Unit)) × (Ex × Unit)))), ([] : List ((List Nat) × (((List Nat) × ((List Nat) × Unit)) × Unit))), ([] : List (List Nat)), ([] : List ((List Nat) × (Ex × Unit))), ())).2).1).length) : Nat) : Int)) (bC F r_3 false (r_3.1) ((r_3.2).1) (((r_3.2).2).1) ((((r_3.2).2).2).1) (((((r_3.2).2).2).2).1) (((((((r_3.2).2).2).2).2).2).1) ((((((((r_3.2).2).2).2).2).2).2).1) ((((((((((r_3.2).2).2).2).2).2).2).2).1).set (0 : Nat) ((((((((((((r_3.2).2).2).2).2).2).2).2).1).getD (0 : Nat) (([] : List Nat), ([] : List ((List Nat) × (((List Nat) × ((List Nat) × Unit)) × (Ex × Unit)))), ([] : List ((List Nat) × (((List Nat) × ((List Nat) × Unit)) × Unit))), ([] : List (List Nat)), ([] : List ((List Nat) × (Ex × Unit))), ())).1), (((((((((((((r_3.2).2).2).2).2).2).2).2).1).getD (0 : Nat) (([] : List Nat), ([] : List ((List Nat) × (((List Nat) × ((List Nat) × Unit)) × (Ex × Unit)))), ([] : List ((List Nat) × (((List Nat) × ((List Nat) × Unit)) × Unit))), ([] : List (List Nat)), ([] : List ((List Nat) × (Ex × Unit))), ())).2).1).set (0 : Nat) (((((((((((((((r_3.2).2).2).2).2).2).2).2).1).getD (0 : Nat) (([] : List Nat), ([] : List ((List Nat) × (((List Nat) × ((List Nat) × Unit)) × (Ex × Unit)))), ([] : List ((List Nat) × (((List Nat) × ((List Nat) × Unit)) × Unit))), ([] : List (List Nat)), ([] : List ((List Nat) × (Ex × Unit))), ())).2).1).getD (0 : Nat) (([] : List Nat), (([] : List Nat), ([] : List Nat), ()), (Ex.mk 0 [] []), ())).1), ((aY ⟨#[49]⟩), (aY ⟨#[48, 46, 53]⟩), ()), ((((((((((((((((r_3.2).2).2).2).2).2).2).2).1).getD (0 : Nat) (([] : List Nat), ([] : List ((List Nat) × (((List Nat) × ((List Nat) × Unit)) × (Ex × Unit)))), ([] : List ((List Nat) × (((List Nat) × ((List Nat) × Unit)) × Unit))), ([] : List (List Nat)), ([] : List ((List Nat) × (Ex × Unit))), ())).2).1).getD (0 : Nat) (([] : List Nat), (([] : List Nat), ([] : List Nat), ()), (Ex.mk 0 [] []), ())).2).2).1), ())), (((((((((((((r_3.2).2).2).2).2).2).2).2).1).getD (0 : Nat) (([] : List Nat), ([] : List ((List Nat) × (((List Nat) × ((List Nat) × Unit)) × (Ex × Unit)))), ([] : List ((List Nat) × (((List Nat) × ((List Nat) × Unit)) × Unit))), ([] : List (List Nat)), ([] : List ((List Nat) × (Ex × Unit))), ())).2).2).1), ((((((((((((((r_3.2).2).2).2).2).2).2).2).1).getD (0 : Nat) (([] : List Nat), ([] : List ((List Nat) × (((List Nat) × ((List Nat) × Unit)) × (Ex × Unit)))), ([] : List ((List Nat) × (((List Nat) × ((List Nat) × Unit)) × Unit))), ([] : List (List Nat)), ([] : List ((List Nat) × (Ex × Unit))), ())).2).2).2).1), (((((((((((((((r_3.2).2).2).2).2).2).2).2).1).getD (0 : Nat) (([] : List Nat), ([] : List ((List Nat) × (((List Nat) × ((List Nat) × Unit)) × (Ex × Unit)))), ([] : List ((List Nat) × (((List Nat) × ((List Nat) × Unit)) × Unit))), ([] : List (List Nat)), ([] : List ((List Nat) × (Ex × Unit))), ())).2).2).2).2).1), ()))))) else ck ((0 : Nat) < ((((((((((r_3.2).2).2).2).2).2).2).2).1).length)) (ck ((0 : Int) < ((((((((((((r_3.2).2).2).2).2).2).2).2).1).length) : Nat) : Int)) (bC F r_3 false (r_3.1) ((r_3.2).1) (((r_3.2).2).1) ((((r_3.2).2).2).1) (((((r_3.2).2).2).2).1) (((((((r_3.2).2).2).2).2).2).1) ((((((((r_3.2).2).2).2).2).2).2).1) ((((((((((r_3.2).2).2).2).2).2).2).2).1).set (0 : Nat) ((((((((((((r_3.2).2).2).2).2).2).2).2).1).getD (0 : Nat) (([] : List Nat), ([] : List ((List Nat) × (((List Nat) × ((List Nat) × Unit)) × (Ex × Unit)))), ([] : List ((List Nat) × (((List Nat) × ((List Nat) × Unit)) × Unit))), ([] : List (List Nat)), ([] : List ((List Nat) × (Ex × Unit))), ())).1), ((((((((((((r_3.2).2).2).2).2).2).2).2).1).getD (0 : Nat) (([] : List Nat), ([] : List ((List Nat) × (((List Nat) × ((List Nat) × Unit)) × (Ex × Unit)))), ([] : List ((List Nat) × (((List Nat) × ((List Nat) × Unit)) × Unit))), ([] : List (List Nat)), ([] : List ((List Nat) × (Ex × Unit))), ())).2).1), (((((((((((((r_3.2).2).2).2).2).2).2).2).1).getD (0 : Nat) (([] : List Nat), ([] : List ((List Nat) × (((List Nat) × ((List Nat) × Unit)) × (Ex × Unit)))), ([] : List ((List Nat) × (((List Nat) × ((List Nat) × Unit)) × Unit))), ([] : List (List Nat)), ([] : List ((List Nat) × (Ex × Unit))), ())).2).2).1), ([(aY ⟨#[117]⟩)] : List (List Nat)), (((((((((((((((r_3.2).2).2).2).2).2).2).2).1).getD (0 : Nat) (([] : List Nat), ([] : List ((List Nat) × (((List Nat) × ((List Nat) × Unit)) × (Ex × Unit)))), ([] : List ((List Nat) × (((List Nat) × ((List Nat) × Unit)) × Unit))), ([] : List (List Nat)), ([] : List ((List Nat) × (Ex × Unit))), ())).2).2).2).2).1), ())))))
def hZ : Ty := .pair (.i .i64) .unit
attribute [go_sem] hZ
noncomputable def wG (F : Md) : aG := mSpec hZ (.one .bool) (fun x => jZ F x.1)
noncomputable def mK (F : Md) : List (FuncId × aG) := [(24, (vR F)), (28, (pV F))]
theorem wY (F : Md) : bI Tryz.prog GL (mK F) := .cons (aK6 F) (by kernel_rfl) (.cons (aGi F) (by kernel_rfl) (.nil))
theorem aB7 (F : Md) : gam (mK F) 24 = some (vR F) := rfl
attribute [go_sem] aB7
theorem aB8 (F : Md) : gam (mK F) 28 = some (pV F) := rfl
attribute [go_sem] aB8
set_option maxHeartbeats 4000000 in
theorem aDr (F : Md) : FOK Tryz.prog GL 6 (wG F) := by
 refine lS (aLx (wY F)) Tryz.func6 rfl (by kernel_rfl) (by decide) fun w0 S x r hw h => ?_
 have hF : kB (fr Tryz.prog (EX (mK F)) S w0 Tryz.f6.ntmps) := ⟨aLx (wY F), mix⟩
 obtain ⟨(what_0 : Int), u⟩ := x
 simp only [hZ, Ty.wf, mP] at hw
 simp only [bP, hZ]
 try dsimp only at h
 replace h : jZ F what_0 = some r := h
 unfold jZ at h
 refine aB (aD hF [0] ?_)
 simp only [go_sem]
 repeat (refine ⟨by first | with_reducible assumption | omega | (intros; first | assumption | omega) | (simp only [go_sem] at *; first | assumption | omega) | (intro _; refine (?_ : _ = bB _); rfl) | exact ⟨rfl, rfl⟩ | decide, ?_⟩)
 obtain ⟨r_3, he1, h⟩ := bind_some h
 try dsimp only at h
 refine aC (aB (bY hF (eA (l := [(27, ⟨hU F, [], r_3⟩)]) (.cons (qI F) (by kernel_rfl) (.nil))) [0, 3] [] ?_))
 simp only [go_sem]
 repeat (refine ⟨by first | with_reducible assumption | omega | (intros; first | assumption | omega) | (simp only [go_sem] at *; first | assumption | omega) | (intro _; refine (?_ : _ = bB _); rfl) | exact ⟨rfl, rfl⟩ | decide, ?_⟩)
 refine aC (aB (aD hF [0, 3, 4] ?_))
 simp only [go_sem]
 repeat (refine ⟨by first | with_reducible assumption | omega | (intros; first | assumption | omega) | (simp only [go_sem] at *; first | assumption | omega) | (intro _; refine (?_ : _ = bB _); rfl) | exact ⟨rfl, rfl⟩ | decide, ?_⟩)
 refine aC (kV (D := Bool × Int × Int × Int × Int × (List Nat) × (List Nat) × (List Nat) × (List ((List Nat) × ((List ((List Nat) × (((List Nat) × ((List Nat) × Unit)) × (Ex × Unit)))) × ((List ((List Nat) × (((List Nat) × ((List Nat) × Unit)) × Unit))) × ((List (List Nat)) × ((List ((List Nat) × (Ex × Unit))) × Unit))))))) (fun d => bC F r_3 d.1 d.2.1 d.2.2.1 d.2.2.2.1 d.2.2.2.2.1 d.2.2.2.2.2.1 d.2.2.2.2.2.2.1 d.2.2.2.2.2.2.2.1 d.2.2.2.2.2.2.2.2 = some r) [] (fun d => [(3, .ptr 0 []), (4, .val .bool d.1)]) (fun d => [.inr (.box 10 (.agg [.val (.i .i64) d.2.1, .val (.i .i64) d.2.2.1, .val (.i .i64) d.2.2.2.1, .val (.i .i64) d.2.2.2.2.1, .val .str d.2.2.2.2.2.1, .val .str ((((((r_3.2).2).2).2).2).1), .val .str d.2.2.2.2.2.2.1, .val .str d.2.2.2.2.2.2.2.1, .own 1, .own 2])), .inr (.row 60 (.pair .str (.pair (.sl (.pair .str (.pair (.pair .str (.pair .str .unit)) (.pair .expr .unit)))) (.pair (.sl (.pair .str (.pair (.pair .str (.pair .str .unit)) .unit))) (.pair (.sl .str) (.pair (.sl (.pair .str (.pair .expr .unit))) .unit))))) d.2.2.2.2.2.2.2.2), .inr (.row 68 (.pair .str (.pair .str (.pair .str (.pair .str .unit)))) ((((((((((r_3.2).2).2).2).2).2).2).2).2).1))]) ?_ ?_)
 ·refine aB (aD hF [3, 4, 9] ?_)
  simp only [go_sem]
  repeat (refine ⟨by first | with_reducible assumption | omega | (intros; first | assumption | omega) | (simp only [go_sem] at *; first | assumption | omega) | (intro _; refine (?_ : _ = bB _); rfl) | exact ⟨rfl, rfl⟩ | decide, ?_⟩)
  refine aC (dT (aB (aD hF [3, 4, 9, 15] ?_)))
  simp only [go_sem]
  repeat (refine ⟨by first | with_reducible assumption | omega | (intros; first | assumption | omega) | (simp only [go_sem] at *; first | assumption | omega) | (intro _; refine (?_ : _ = bB _); rfl) | exact ⟨rfl, rfl⟩ | decide, ?_⟩)
  refine aC (bG rfl (fun hc => ?_) (fun hc => ?_))
  ·try simp only [go_sem] at hc
   have h := eC (by first | exact hc | omega | (simpa using hc) | (simp at hc ⊢; omega)) h
   refine aN hF [3, 4] ?_
   simp only [go_sem]
   repeat (refine ⟨by first | with_reducible assumption | omega | (intros; first | assumption | omega) | (simp only [go_sem] at *; first | assumption | omega) | (intro _; refine (?_ : _ = bB _); rfl) | exact ⟨rfl, rfl⟩ | decide, ?_⟩)
   refine bN (aS (mH 0 rfl ?_))
   simp only [go_sem]
   refine fH [2, 0, 1] rfl rfl ?_
   simp only [ren, fY, jC, posOf, dL, go_sem]
   refine aQ ((false, (7 : Int), ((r_3.2).1), (((r_3.2).2).1), ((((r_3.2).2).2).1), (((((r_3.2).2).2).2).1), (((((((r_3.2).2).2).2).2).2).1), ((((((((r_3.2).2).2).2).2).2).2).1), (((((((((r_3.2).2).2).2).2).2).2).2).1))) h rfl ?_
   ·(try simp only [fZ, eG, true_or, and_self, go_sem]) <;> (repeat' apply And.intro) <;> first | rfl | (left; rfl) | (right; rfl) | (left; simp only [go_sem]; done) | (right; simp only [go_sem]; done) | (simp; done) | (simp only [*]; done) | omega
  ·try simp only [go_sem] at hc
   have h := eD (by first | exact hc | omega | (simpa using hc) | (simp at hc ⊢; omega)) h
   refine aB (aD hF [3, 4, 9, 18] ?_)
   simp only [go_sem]
   repeat (refine ⟨by first | with_reducible assumption | omega | (intros; first | assumption | omega) | (simp only [go_sem] at *; first | assumption | omega) | (intro _; refine (?_ : _ = bB _); rfl) | exact ⟨rfl, rfl⟩ | decide, ?_⟩)
   refine aC (bG rfl (fun hc => ?_) (fun hc => ?_))
   ·try simp only [go_sem] at hc
    have h := eC (by first | exact hc | omega | (simpa using hc) | (simp at hc ⊢; omega)) h
    refine aN hF [3, 4] ?_
    simp only [go_sem]
    repeat (refine ⟨by first | with_reducible assumption | omega | (intros; first | assumption | omega) | (simp only [go_sem] at *; first | assumption | omega) | (intro _; refine (?_ : _ = bB _); rfl) | exact ⟨rfl, rfl⟩ | decide, ?_⟩)
    refine bN (aS (mH 0 rfl ?_))
    simp only [go_sem]
    refine fH [2, 0, 1] rfl rfl ?_
    simp only [ren, fY, jC, posOf, dL, go_sem]
    refine aQ ((true, (200 : Int), ((r_3.2).1), (((r_3.2).2).1), ((((r_3.2).2).2).1), (((((r_3.2).2).2).2).1), (((((((r_3.2).2).2).2).2).2).1), ((((((((r_3.2).2).2).2).2).2).2).1), (((((((((r_3.2).2).2).2).2).2).2).2).1))) h rfl ?_
    ·(try simp only [fZ, eG, true_or, and_self, go_sem]) <;> (repeat' apply And.intro) <;> first | rfl | (left; rfl) | (right; rfl) | (left; simp only [go_sem]; done) | (right; simp only [go_sem]; done) | (simp; done) | (simp only [*]; done) | omega
   ·try simp only [go_sem] at hc
    have h := eD (by first | exact hc | omega | (simpa using hc) | (simp at hc ⊢; omega)) h
    refine aB (aD hF [3, 4, 9, 21] ?_)
    simp only [go_sem]
    repeat (refine ⟨by first | with_reducible assumption | omega | (intros; first | assumption | omega) | (simp only [go_sem] at *; first | assumption | omega) | (intro _; refine (?_ : _ = bB _); rfl) | exact ⟨rfl, rfl⟩ | decide, ?_⟩)
    refine aC (bG rfl (fun hc => ?_) (fun hc => ?_))
    ·try simp only [go_sem] at hc
     have h := eC (by first | exact hc | omega | (simpa using hc) | (simp at hc ⊢; omega)) h
     refine aN hF [3, 4] ?_
     simp only [go_sem]
     repeat (refine ⟨by first | with_reducible assumption | omega | (intros; first | assumption | omega) | (simp only [go_sem] at *; first | assumption | omega) | (intro _; refine (?_ : _ = bB _); rfl) | exact ⟨rfl, rfl⟩ | decide, ?_⟩)
     refine bN (aS (mH 0 rfl ?_))
     simp only [go_sem]
     refine fH [2, 0, 1] rfl rfl ?_
     simp only [ren, fY, jC, posOf, dL, go_sem]
     refine aQ ((false, (r_3.1), (21 : Int), (((r_3.2).2).1), ((((r_3.2).2).2).1), (((((r_3.2).2).2).2).1), (((((((r_3.2).2).2).2).2).2).1), ((((((((r_3.2).2).2).2).2).2).2).1), (((((((((r_3.2).2).2).2).2).2).2).2).1))) h rfl ?_
     ·(try simp only [fZ, eG, true_or, and_self, go_sem]) <;> (repeat' apply And.intro) <;> first | rfl | (left; rfl) | (right; rfl) | (left; simp only [go_sem]; done) | (right; simp only [go_sem]; done) | (simp; done) | (simp only [*]; done) | omega
    ·try simp only [go_sem] at hc
     have h := eD (by first | exact hc | omega | (simpa using hc) | (simp at hc ⊢; omega)) h
     refine aB (aD hF [3, 4, 9, 24] ?_)
     simp only [go_sem]
     repeat (refine ⟨by first | with_reducible assumption | omega | (intros; first | assumption | omega) | (simp only [go_sem] at *; first | assumption | omega) | (intro _; refine (?_ : _ = bB _); rfl) | exact ⟨rfl, rfl⟩ | decide, ?_⟩)
     refine aC (bG rfl (fun hc => ?_) (fun hc => ?_))
     ·try simp only [go_sem] at hc
      have h := eC (by first | exact hc | omega | (simpa using hc) | (simp at hc ⊢; omega)) h
      refine aN hF [3, 4] ?_
      simp only [go_sem]
      repeat (refine ⟨by first | with_reducible assumption | omega | (intros; first | assumption | omega) | (simp only [go_sem] at *; first | assumption | omega) | (intro _; refine (?_ : _ = bB _); rfl) | exact ⟨rfl, rfl⟩ | decide, ?_⟩)
      refine bN (aS (mH 0 rfl ?_))
      simp only [go_sem]
      refine fH [2, 0, 1] rfl rfl ?_
      simp only [ren, fY, jC, posOf, dL, go_sem]
      refine aQ ((false, (r_3.1), ((r_3.2).1), (4 : Int), ((((r_3.2).2).2).1), (((((r_3.2).2).2).2).1), (((((((r_3.2).2).2).2).2).2).1), ((((((((r_3.2).2).2).2).2).2).2).1), (((((((((r_3.2).2).2).2).2).2).2).2).1))) h rfl ?_
      ·(try simp only [fZ, eG, true_or, and_self, go_sem]) <;> (repeat' apply And.intro) <;> first | rfl | (left; rfl) | (right; rfl) | (left; simp only [go_sem]; done) | (right; simp only [go_sem]; done) | (simp; done) | (simp only [*]; done) | omega
     ·try simp only [go_sem] at hc
      have h := eD (by first | exact hc | omega | (simpa using hc) | (simp at hc ⊢; omega)) h
      refine aB (aD hF [3, 4, 9, 27] ?_)
      simp only [go_sem]
      repeat (refine ⟨by first | with_reducible assumption | omega | (intros; first | assumption | omega) | (simp only [go_sem] at *; first | assumption | omega) | (intro _; refine (?_ : _ = bB _); rfl) | exact ⟨rfl, rfl⟩ | decide, ?_⟩)
      refine aC (bG rfl (fun hc => ?_) (fun hc => ?_))
      ·try simp only [go_sem] at hc
       have h := eC (by first | exact hc | omega | (simpa using hc) | (simp at hc ⊢; omega)) h
       refine aN hF [3, 4] ?_
       simp only [go_sem]
       repeat (refine ⟨by first | with_reducible assumption | omega | (intros; first | assumption | omega) | (simp only [go_sem] at *; first | assumption | omega) | (intro _; refine (?_ : _ = bB _); rfl) | exact ⟨rfl, rfl⟩ | decide, ?_⟩)
       refine bN (aS (mH 0 rfl ?_))
       simp only [go_sem]
       refine fH [2, 0, 1] rfl rfl ?_
       simp only [ren, fY, jC, posOf, dL, go_sem]
       refine aQ ((false, (r_3.1), ((r_3.2).1), (((r_3.2).2).1), (3 : Int), (((((r_3.2).2).2).2).1), (((((((r_3.2).2).2).2).2).2).1), ((((((((r_3.2).2).2).2).2).2).2).1), (((((((((r_3.2).2).2).2).2).2).2).2).1))) h rfl ?_
       ·(try simp only [fZ, eG, true_or, and_self, go_sem]) <;> (repeat' apply And.intro) <;> first | rfl | (left; rfl) | (right; rfl) | (left; simp only [go_sem]; done) | (right; simp only [go_sem]; done) | (simp; done) | (simp only [*]; done) | omega
      ·try simp only [go_sem] at hc
       have h := eD (by first | exact hc | omega | (simpa using hc) | (simp at hc ⊢; omega)) h
       refine aB (aD hF [3, 4, 9, 30] ?_)
       simp only [go_sem]
       repeat (refine ⟨by first | with_reducible assumption | omega | (intros; first | assumption | omega) | (simp only [go_sem] at *; first | assumption | omega) | (intro _; refine (?_ : _ = bB _); rfl) | exact ⟨rfl, rfl⟩ | decide, ?_⟩)
       refine aC (bG rfl (fun hc => ?_) (fun hc => ?_))
       ·try simp only [go_sem] at hc
        have h := eC (by first | exact hc | omega | (simpa using hc) | (simp at hc ⊢; omega)) h
        refine aN hF [3, 4] ?_
        simp only [go_sem]
        repeat (refine ⟨by first | with_reducible assumption | omega | (intros; first | assumption | omega) | (simp only [go_sem] at *; first | assumption | omega) | (intro _; refine (?_ : _ = bB _); rfl) | exact ⟨rfl, rfl⟩ | decide, ?_⟩)
        refine bN (aS (mH 0 rfl ?_))
        simp only [go_sem]
        refine fH [2, 0, 1] rfl rfl ?_
        simp only [ren, fY, jC, posOf, dL, go_sem]
        refine aQ ((false, (r_3.1), ((r_3.2).1), (((r_3.2).2).1), ((((r_3.2).2).2).1), (aY ⟨#[48]⟩), (((((((r_3.2).2).2).2).2).2).1), ((((((((r_3.2).2).2).2).2).2).2).1), (((((((((r_3.2).2).2).2).2).2).2).2).1))) h rfl ?_
        ·(try simp only [fZ, eG, true_or, and_self, go_sem]) <;> (repeat' apply And.intro) <;> first | rfl | (left; rfl) | (right; rfl) | (left; simp only [go_sem]; done) | (right; simp only [go_sem]; done) | (simp; done) | (simp only [*]; done) | omega
       ·try simp only [go_sem] at hc
        have h := eD (by first | exact hc | omega | (simpa using hc) | (simp at hc ⊢; omega)) h
        refine aB (aD hF [3, 4, 9, 33] ?_)
        simp only [go_sem]
        repeat (refine ⟨by first | with_reducible assumption | omega | (intros; first | assumption | omega) | (simp only [go_sem] at *; first | assumption | omega) | (intro _; refine (?_ : _ = bB _); rfl) | exact ⟨rfl, rfl⟩ | decide, ?_⟩)
        refine aC (bG rfl (fun hc => ?_) (fun hc => ?_))
        ·try simp only [go_sem] at hc
         have h := eC (by first | exact hc | omega | (simpa using hc) | (simp at hc ⊢; omega)) h
         refine aN hF [3, 4] ?_
         simp only [go_sem]
         repeat (refine ⟨by first | with_reducible assumption | omega | (intros; first | assumption | omega) | (simp only [go_sem] at *; first | assumption | omega) | (intro _; refine (?_ : _ = bB _); rfl) | exact ⟨rfl, rfl⟩ | decide, ?_⟩)
         refine bN (aS (mH 0 rfl ?_))
         simp only [go_sem]
         refine fH [2, 0, 1] rfl rfl ?_
         simp only [ren, fY, jC, posOf, dL, go_sem]
         refine aQ ((true, (r_3.1), ((r_3.2).1), (((r_3.2).2).1), ((((r_3.2).2).2).1), (aY ⟨#[49, 50, 56]⟩), (((((((r_3.2).2).2).2).2).2).1), ((((((((r_3.2).2).2).2).2).2).2).1), (((((((((r_3.2).2).2).2).2).2).2).2).1))) h rfl ?_
         ·(try simp only [fZ, eG, true_or, and_self, go_sem]) <;> (repeat' apply And.intro) <;> first | rfl | (left; rfl) | (right; rfl) | (left; simp only [go_sem]; done) | (right; simp only [go_sem]; done) | (simp; done) | (simp only [*]; done) | omega
        ·try simp only [go_sem] at hc
         have h := eD (by first | exact hc | omega | (simpa using hc) | (simp at hc ⊢; omega)) h
         refine aB (aD hF [3, 4, 9, 36] ?_)
         simp only [go_sem]
         repeat (refine ⟨by first | with_reducible assumption | omega | (intros; first | assumption | omega) | (simp only [go_sem] at *; first | assumption | omega) | (intro _; refine (?_ : _ = bB _); rfl) | exact ⟨rfl, rfl⟩ | decide, ?_⟩)
         refine aC (bG rfl (fun hc => ?_) (fun hc => ?_))
         ·try simp only [go_sem] at hc
          have h := eC (by first | exact hc | omega | (simpa using hc) | (simp at hc ⊢; omega)) h
          refine aN hF [3, 4] ?_
          simp only [go_sem]
          repeat (refine ⟨by first | with_reducible assumption | omega | (intros; first | assumption | omega) | (simp only [go_sem] at *; first | assumption | omega) | (intro _; refine (?_ : _ = bB _); rfl) | exact ⟨rfl, rfl⟩ | decide, ?_⟩)
          refine bN (aS (mH 0 rfl ?_))
          simp only [go_sem]
          refine fH [2, 0, 1] rfl rfl ?_
          simp only [ren, fY, jC, posOf, dL, go_sem]
          refine aQ ((false, (r_3.1), ((r_3.2).1), (((r_3.2).2).1), ((((r_3.2).2).2).1), (aY ⟨#[49, 50, 56, 46, 53]⟩), (((((((r_3.2).2).2).2).2).2).1), ((((((((r_3.2).2).2).2).2).2).2).1), (((((((((r_3.2).2).2).2).2).2).2).2).1))) h rfl ?_
          ·(try simp only [fZ, eG, true_or, and_self, go_sem]) <;> (repeat' apply And.intro) <;> first | rfl | (left; rfl) | (right; rfl) | (left; simp only [go_sem]; done) | (right; simp only [go_sem]; done) | (simp; done) | (simp only [*]; done) | omega
         ·try simp only [go_sem] at hc
          have h := eD (by first | exact hc | omega | (simpa using hc) | (simp at hc ⊢; omega)) h
          refine aB (aD hF [3, 4, 9, 39] ?_)
          simp only [go_sem]
          repeat (refine ⟨by first | with_reducible assumption | omega | (intros; first | assumption | omega) | (simp only [go_sem] at *; first | assumption | omega) | (intro _; refine (?_ : _ = bB _); rfl) | exact ⟨rfl, rfl⟩ | decide, ?_⟩)
          refine aC (bG rfl (fun hc => ?_) (fun hc => ?_))
          ·try simp only [go_sem] at hc
           have h := eC (by first | exact hc | omega | (simpa using hc) | (simp at hc ⊢; omega)) h
           refine aN hF [3, 4] ?_
           simp only [go_sem]
           repeat (refine ⟨by first | with_reducible assumption | omega | (intros; first | assumption | omega) | (simp only [go_sem] at *; first | assumption | omega) | (intro _; refine (?_ : _ = bB _); rfl) | exact ⟨rfl, rfl⟩ | decide, ?_⟩)
           refine bN (aS (mH 0 rfl ?_))
           simp only [go_sem]
           refine fH [2, 0, 1] rfl rfl ?_
           simp only [ren, fY, jC, posOf, dL, go_sem]
           refine aQ ((false, (r_3.1), ((r_3.2).1), (((r_3.2).2).1), ((((r_3.2).2).2).1), (((((r_3.2).2).2).2).1), (aY ⟨#[48, 46, 55, 53]⟩), ((((((((r_3.2).2).2).2).2).2).2).1), (((((((((r_3.2).2).2).2).2).2).2).2).1))) h rfl ?_
           ·(try simp only [fZ, eG, true_or, and_self, go_sem]) <;> (repeat' apply And.intro) <;> first | rfl | (left; rfl) | (right; rfl) | (left; simp only [go_sem]; done) | (right; simp only [go_sem]; done) | (simp; done) | (simp only [*]; done) | omega
          ·try simp only [go_sem] at hc
           have h := eD (by first | exact hc | omega | (simpa using hc) | (simp at hc ⊢; omega)) h
           refine aB (aD hF [3, 4, 9, 42] ?_)
           simp only [go_sem]
           repeat (refine ⟨by first | with_reducible assumption | omega | (intros; first | assumption | omega) | (simp only [go_sem] at *; first | assumption | omega) | (intro _; refine (?_ : _ = bB _); rfl) | exact ⟨rfl, rfl⟩ | decide, ?_⟩)
           refine aC (bG rfl (fun hc => ?_) (fun hc => ?_))
           ·try simp only [go_sem] at hc
            have h := eC (by first | exact hc | omega | (simpa using hc) | (simp at hc ⊢; omega)) h
            refine aN hF [3, 4] ?_
            simp only [go_sem]
            repeat (refine ⟨by first | with_reducible assumption | omega | (intros; first | assumption | omega) | (simp only [go_sem] at *; first | assumption | omega) | (intro _; refine (?_ : _ = bB _); rfl) | exact ⟨rfl, rfl⟩ | decide, ?_⟩)
            refine bN (aS (mH 0 rfl ?_))
            simp only [go_sem]
            refine fH [2, 0, 1] rfl rfl ?_
            simp only [ren, fY, jC, posOf, dL, go_sem]
            refine aQ ((true, (r_3.1), ((r_3.2).1), (((r_3.2).2).1), ((((r_3.2).2).2).1), (((((r_3.2).2).2).2).1), (aY ⟨#[48, 46, 48, 48, 48, 49, 50, 50, 48, 55, 48, 51, 49, 50, 53]⟩), ((((((((r_3.2).2).2).2).2).2).2).1), (((((((((r_3.2).2).2).2).2).2).2).2).1))) h rfl ?_
            ·(try simp only [fZ, eG, true_or, and_self, go_sem]) <;> (repeat' apply And.intro) <;> first | rfl | (left; rfl) | (right; rfl) | (left; simp only [go_sem]; done) | (right; simp only [go_sem]; done) | (simp; done) | (simp only [*]; done) | omega
           ·try simp only [go_sem] at hc
            have h := eD (by first | exact hc | omega | (simpa using hc) | (simp at hc ⊢; omega)) h
            refine aB (aD hF [3, 4, 9, 45] ?_)
            simp only [go_sem]
            repeat (refine ⟨by first | with_reducible assumption | omega | (intros; first | assumption | omega) | (simp only [go_sem] at *; first | assumption | omega) | (intro _; refine (?_ : _ = bB _); rfl) | exact ⟨rfl, rfl⟩ | decide, ?_⟩)
            refine aC (bG rfl (fun hc => ?_) (fun hc => ?_))
            ·try simp only [go_sem] at hc
             have h := eC (by first | exact hc | omega | (simpa using hc) | (simp at hc ⊢; omega)) h
             refine aN hF [3, 4] ?_
             simp only [go_sem]
             repeat (refine ⟨by first | with_reducible assumption | omega | (intros; first | assumption | omega) | (simp only [go_sem] at *; first | assumption | omega) | (intro _; refine (?_ : _ = bB _); rfl) | exact ⟨rfl, rfl⟩ | decide, ?_⟩)
             refine bN (aS (mH 0 rfl ?_))
             simp only [go_sem]
             refine fH [2, 0, 1] rfl rfl ?_
             simp only [ren, fY, jC, posOf, dL, go_sem]
             refine aQ ((false, (r_3.1), ((r_3.2).1), (((r_3.2).2).1), ((((r_3.2).2).2).1), (((((r_3.2).2).2).2).1), (aY ⟨#[48, 46, 48, 48, 48, 49]⟩), ((((((((r_3.2).2).2).2).2).2).2).1), (((((((((r_3.2).2).2).2).2).2).2).2).1))) h rfl ?_
             ·(try simp only [fZ, eG, true_or, and_self, go_sem]) <;> (repeat' apply And.intro) <;> first | rfl | (left; rfl) | (right; rfl) | (left; simp only [go_sem]; done) | (right; simp only [go_sem]; done) | (simp; done) | (simp only [*]; done) | omega
            ·try simp only [go_sem] at hc
             have h := eD (by first | exact hc | omega | (simpa using hc) | (simp at hc ⊢; omega)) h
             refine aB (aD hF [3, 4, 9, 48] ?_)
             simp only [go_sem]
             repeat (refine ⟨by first | with_reducible assumption | omega | (intros; first | assumption | omega) | (simp only [go_sem] at *; first | assumption | omega) | (intro _; refine (?_ : _ = bB _); rfl) | exact ⟨rfl, rfl⟩ | decide, ?_⟩)
             refine aC (bG rfl (fun hc => ?_) (fun hc => ?_))
             ·try simp only [go_sem] at hc
              have h := eC (by first | exact hc | omega | (simpa using hc) | (simp at hc ⊢; omega)) h
              refine aN hF [3, 4] ?_
              simp only [go_sem]
              repeat (refine ⟨by first | with_reducible assumption | omega | (intros; first | assumption | omega) | (simp only [go_sem] at *; first | assumption | omega) | (intro _; refine (?_ : _ = bB _); rfl) | exact ⟨rfl, rfl⟩ | decide, ?_⟩)
              refine bN (aS (mH 0 rfl ?_))
              simp only [go_sem]
              refine fH [2, 0, 1] rfl rfl ?_
              simp only [ren, fY, jC, posOf, dL, go_sem]
              refine aQ ((false, (r_3.1), ((r_3.2).1), (((r_3.2).2).1), ((((r_3.2).2).2).1), (((((r_3.2).2).2).2).1), (((((((r_3.2).2).2).2).2).2).1), (aY ⟨#[48, 46, 51]⟩), (((((((((r_3.2).2).2).2).2).2).2).2).1))) h rfl ?_
              ·(try simp only [fZ, eG, true_or, and_self, go_sem]) <;> (repeat' apply And.intro) <;> first | rfl | (left; rfl) | (right; rfl) | (left; simp only [go_sem]; done) | (right; simp only [go_sem]; done) | (simp; done) | (simp only [*]; done) | omega
             ·try simp only [go_sem] at hc
              have h := eD (by first | exact hc | omega | (simpa using hc) | (simp at hc ⊢; omega)) h
              refine aB (aD hF [3, 4, 9, 51] ?_)
              simp only [go_sem]
              repeat (refine ⟨by first | with_reducible assumption | omega | (intros; first | assumption | omega) | (simp only [go_sem] at *; first | assumption | omega) | (intro _; refine (?_ : _ = bB _); rfl) | exact ⟨rfl, rfl⟩ | decide, ?_⟩)
              refine aC (bG rfl (fun hc => ?_) (fun hc => ?_))
              ·try simp only [go_sem] at hc
               have h := eC (by first | exact hc | omega | (simpa using hc) | (simp at hc ⊢; omega)) h
               refine aP8 0 rfl ?_
               simp only [go_sem]
               obtain ⟨g0, h⟩ := aF h
               obtain ⟨g1, h⟩ := aF h
               refine aC1 hF [3, 4] [(3, .ptr 2 []), (4, .val .bool false)] [.dead, .row 68 (.pair .str (.pair .str (.pair .str (.pair .str .unit)))) ((((((((((r_3.2).2).2).2).2).2).2).2).2).1), .box 10 (.agg [.val (.i .i64) (r_3.1), .val (.i .i64) ((r_3.2).1), .val (.i .i64) (((r_3.2).2).1), .val (.i .i64) ((((r_3.2).2).2).1), .val .str (((((r_3.2).2).2).2).1), .val .str ((((((r_3.2).2).2).2).2).1), .val .str (((((((r_3.2).2).2).2).2).2).1), .val .str ((((((((r_3.2).2).2).2).2).2).2).1), .own 3, .own 1]), .row 60 (.pair .str (.pair (.sl (.pair .str (.pair (.pair .str (.pair .str .unit)) (.pair .expr .unit)))) (.pair (.sl (.pair .str (.pair (.pair .str (.pair .str .unit)) .unit))) (.pair (.sl .str) (.pair (.sl (.pair .str (.pair .expr .unit))) .unit))))) ((((((((((r_3.2).2).2).2).2).2).2).2).1) ++ ([((((((((((r_3.2).2).2).2).2).2).2).2).1).getD (0 : Nat) (([] : List Nat), ([] : List ((List Nat) × (((List Nat) × ((List Nat) × Unit)) × (Ex × Unit)))), ([] : List ((List Nat) × (((List Nat) × ((List Nat) × Unit)) × Unit))), ([] : List (List Nat)), ([] : List ((List Nat) × (Ex × Unit))), ()))] : List ((List Nat) × ((List ((List Nat) × (((List Nat) × ((List Nat) × Unit)) × (Ex × Unit)))) × ((List ((List Nat) × (((List Nat) × ((List Nat) × Unit)) × Unit))) × ((List (List Nat)) × ((List ((List Nat) × (Ex × Unit))) × Unit)))))))] (by decide) ?_ ?_
               ·simp only [go_sem]
                unfold anyS
                intro i hi
                have hi : i = 0 ∨ i = 2 := by revert hi; revert i; decide
                rcases hi with rfl | rfl
                ·simp only [go_sem]
                 repeat (refine ⟨by first | with_reducible assumption | omega | (intros; first | assumption | omega) | (simp only [go_sem] at *; first | assumption | omega) | (intro _; refine (?_ : _ = bB _); rfl) | exact ⟨rfl, rfl⟩ | decide, ?_⟩)
                 unfold anyS
                 intro i hi
                 have hi : i = 1 ∨ i = 2 := by revert hi; revert i; decide
                 rcases hi with rfl | rfl
                 ·simp only [go_sem]
                  repeat (refine ⟨by first | with_reducible assumption | omega | (intros; first | assumption | omega) | (simp only [go_sem] at *; first | assumption | omega) | (intro _; refine (?_ : _ = bB _); rfl) | exact ⟨rfl, rfl⟩ | decide, ?_⟩)
                  unfold anyS
                  intro i hi
                  have hi : i = 2 := by revert hi; revert i; decide
                  subst hi
                  simp only [go_sem]
                  repeat (refine ⟨by first | with_reducible assumption | omega | (intros; first | assumption | omega) | (simp only [go_sem] at *; first | assumption | omega) | (intro _; refine (?_ : _ = bB _); rfl) | exact ⟨rfl, rfl⟩ | decide, ?_⟩)
                  unfold anyS
                  intro i hi
                  have hi : i = 3 := by revert hi; revert i; decide
                  subst hi
                  simp only [go_sem]
                  repeat (refine ⟨by first | with_reducible assumption | omega | (intros; first | assumption | omega) | (simp only [go_sem] at *; first | assumption | omega) | (intro _; refine (?_ : _ = bB _); rfl) | exact ⟨rfl, rfl⟩ | decide, ?_⟩)
                  unfold anyS
                  intro i hi
                  have hi : i = 4 := by revert hi; revert i; decide
                  subst hi
                  simp only [go_sem]
                  repeat (refine ⟨by first | with_reducible assumption | omega | (intros; first | assumption | omega) | (simp only [go_sem] at *; first | assumption | omega) | (intro _; refine (?_ : _ = bB _); rfl) | exact ⟨rfl, rfl⟩ | decide, ?_⟩)
                  unfold anyS
                  intro i hi
                  have hi : i = 5 := by revert hi; revert i; decide
                  subst hi
                  simp only [go_sem]
                  repeat (refine ⟨by first | with_reducible assumption | omega | (intros; first | assumption | omega) | (simp only [go_sem] at *; first | assumption | omega) | (intro _; refine (?_ : _ = bB _); rfl) | exact ⟨rfl, rfl⟩ | decide, ?_⟩)
                  unfold anyS
                  intro i hi
                  have hi : i = 6 := by revert hi; revert i; decide
                  subst hi
                  simp only [go_sem]
                  repeat (refine ⟨by first | with_reducible assumption | omega | (intros; first | assumption | omega) | (simp only [go_sem] at *; first | assumption | omega) | (intro _; refine (?_ : _ = bB _); rfl) | exact ⟨rfl, rfl⟩ | decide, ?_⟩)
                  unfold anyS
                  intro i hi
                  have hi : i = 7 := by revert hi; revert i; decide
                  subst hi
                  simp only [go_sem]
                  repeat (refine ⟨by first | with_reducible assumption | omega | (intros; first | assumption | omega) | (simp only [go_sem] at *; first | assumption | omega) | (intro _; refine (?_ : _ = bB _); rfl) | exact ⟨rfl, rfl⟩ | decide, ?_⟩)
                  unfold anyS
                  intro i hi
                  have hi : i = 8 := by revert hi; revert i; decide
                  subst hi
                  simp only [go_sem]
                  repeat (refine ⟨by first | with_reducible assumption | omega | (intros; first | assumption | omega) | (simp only [go_sem] at *; first | assumption | omega) | (intro _; refine (?_ : _ = bB _); rfl) | exact ⟨rfl, rfl⟩ | decide, ?_⟩)
                  unfold anyS
                  intro i hi
                  have hi : i = 9 := by revert hi; revert i; decide
                  subst hi
                  simp only [go_sem]
                  repeat (refine ⟨by first | with_reducible assumption | omega | (intros; first | assumption | omega) | (simp only [go_sem] at *; first | assumption | omega) | (intro _; refine (?_ : _ = bB _); rfl) | exact ⟨rfl, rfl⟩ | decide, ?_⟩)
                  (simp only [anyS, go_sem]) <;> first | exact ⟨rfl, rfl⟩ | trivial
                 ·simp only [go_sem]
                  repeat (refine ⟨by first | with_reducible assumption | omega | (intros; first | assumption | omega) | (simp only [go_sem] at *; first | assumption | omega) | (intro _; refine (?_ : _ = bB _); rfl) | exact ⟨rfl, rfl⟩ | decide, ?_⟩)
                  unfold anyS
                  intro i hi
                  have hi : i = 1 ∨ i = 3 := by revert hi; revert i; decide
                  rcases hi with rfl | rfl
                  ·simp only [go_sem]
                   repeat (refine ⟨by first | with_reducible assumption | omega | (intros; first | assumption | omega) | (simp only [go_sem] at *; first | assumption | omega) | (intro _; refine (?_ : _ = bB _); rfl) | exact ⟨rfl, rfl⟩ | decide, ?_⟩)
                   unfold anyS
                   intro i hi
                   have hi : i = 3 := by revert hi; revert i; decide
                   subst hi
                   simp only [go_sem]
                   repeat (refine ⟨by first | with_reducible assumption | omega | (intros; first | assumption | omega) | (simp only [go_sem] at *; first | assumption | omega) | (intro _; refine (?_ : _ = bB _); rfl) | exact ⟨rfl, rfl⟩ | decide, ?_⟩)
                   unfold anyS
                   intro i hi
                   have hi : i = 4 := by revert hi; revert i; decide
                   subst hi
                   simp only [go_sem]
                   repeat (refine ⟨by first | with_reducible assumption | omega | (intros; first | assumption | omega) | (simp only [go_sem] at *; first | assumption | omega) | (intro _; refine (?_ : _ = bB _); rfl) | exact ⟨rfl, rfl⟩ | decide, ?_⟩)
                   unfold anyS
                   intro i hi
                   have hi : i = 5 := by revert hi; revert i; decide
                   subst hi
                   simp only [go_sem]
                   repeat (refine ⟨by first | with_reducible assumption | omega | (intros; first | assumption | omega) | (simp only [go_sem] at *; first | assumption | omega) | (intro _; refine (?_ : _ = bB _); rfl) | exact ⟨rfl, rfl⟩ | decide, ?_⟩)
                   unfold anyS
                   intro i hi
                   have hi : i = 6 := by revert hi; revert i; decide
                   subst hi
                   simp only [go_sem]
                   repeat (refine ⟨by first | with_reducible assumption | omega | (intros; first | assumption | omega) | (simp only [go_sem] at *; first | assumption | omega) | (intro _; refine (?_ : _ = bB _); rfl) | exact ⟨rfl, rfl⟩ | decide, ?_⟩)
                   unfold anyS
                   intro i hi
                   have hi : i = 7 := by revert hi; revert i; decide
                   subst hi
                   simp only [go_sem]
                   repeat (refine ⟨by first | with_reducible assumption | omega | (intros; first | assumption | omega) | (simp only [go_sem] at *; first | assumption | omega) | (intro _; refine (?_ : _ = bB _); rfl) | exact ⟨rfl, rfl⟩ | decide, ?_⟩)
                   unfold anyS
                   intro i hi
                   have hi : i = 8 := by revert hi; revert i; decide
                   subst hi
                   simp only [go_sem]
                   repeat (refine ⟨by first | with_reducible assumption | omega | (intros; first | assumption | omega) | (simp only [go_sem] at *; first | assumption | omega) | (intro _; refine (?_ : _ = bB _); rfl) | exact ⟨rfl, rfl⟩ | decide, ?_⟩)
                   unfold anyS
                   intro i hi
                   have hi : i = 9 := by revert hi; revert i; decide
                   subst hi
                   simp only [go_sem]
                   repeat (refine ⟨by first | with_reducible assumption | omega | (intros; first | assumption | omega) | (simp only [go_sem] at *; first | assumption | omega) | (intro _; refine (?_ : _ = bB _); rfl) | exact ⟨rfl, rfl⟩ | decide, ?_⟩)
                   (simp only [anyS, go_sem]) <;> first | exact ⟨rfl, rfl⟩ | trivial
                  ·simp only [go_sem]
                   repeat (refine ⟨by first | with_reducible assumption | omega | (intros; first | assumption | omega) | (simp only [go_sem] at *; first | assumption | omega) | (intro _; refine (?_ : _ = bB _); rfl) | exact ⟨rfl, rfl⟩ | decide, ?_⟩)
                   unfold anyS
                   intro i hi
                   have hi : i = 1 ∨ i = 4 := by revert hi; revert i; decide
                   rcases hi with rfl | rfl
                   ·simp only [go_sem]
                    repeat (refine ⟨by first | with_reducible assumption | omega | (intros; first | assumption | omega) | (simp only [go_sem] at *; first | assumption | omega) | (intro _; refine (?_ : _ = bB _); rfl) | exact ⟨rfl, rfl⟩ | decide, ?_⟩)
                    unfold anyS
                    intro i hi
                    have hi : i = 4 := by revert hi; revert i; decide
                    subst hi
                    simp only [go_sem]
                    repeat (refine ⟨by first | with_reducible assumption | omega | (intros; first | assumption | omega) | (simp only [go_sem] at *; first | assumption | omega) | (intro _; refine (?_ : _ = bB _); rfl) | exact ⟨rfl, rfl⟩ | decide, ?_⟩)
                    unfold anyS
                    intro i hi
                    have hi : i = 5 := by revert hi; revert i; decide
                    subst hi
                    simp only [go_sem]
                    repeat (refine ⟨by first | with_reducible assumption | omega | (intros; first | assumption | omega) | (simp only [go_sem] at *; first | assumption | omega) | (intro _; refine (?_ : _ = bB _); rfl) | exact ⟨rfl, rfl⟩ | decide, ?_⟩)
                    unfold anyS
                    intro i hi
                    have hi : i = 6 := by revert hi; revert i; decide
                    subst hi
                    simp only [go_sem]
                    repeat (refine ⟨by first | with_reducible assumption | omega | (intros; first | assumption | omega) | (simp only [go_sem] at *; first | assumption | omega) | (intro _; refine (?_ : _ = bB _); rfl) | exact ⟨rfl, rfl⟩ | decide, ?_⟩)
                    unfold anyS
                    intro i hi
                    have hi : i = 7 := by revert hi; revert i; decide
                    subst hi
                    simp only [go_sem]
                    repeat (refine ⟨by first | with_reducible assumption | omega | (intros; first | assumption | omega) | (simp only [go_sem] at *; first | assumption | omega) | (intro _; refine (?_ : _ = bB _); rfl) | exact ⟨rfl, rfl⟩ | decide, ?_⟩)
                    unfold anyS
                    intro i hi
                    have hi : i = 8 := by revert hi; revert i; decide
                    subst hi
                    simp only [go_sem]
                    repeat (refine ⟨by first | with_reducible assumption | omega | (intros; first | assumption | omega) | (simp only [go_sem] at *; first | assumption | omega) | (intro _; refine (?_ : _ = bB _); rfl) | exact ⟨rfl, rfl⟩ | decide, ?_⟩)
                    unfold anyS
                    intro i hi
                    have hi : i = 9 := by revert hi; revert i; decide
                    subst hi
                    simp only [go_sem]
                    repeat (refine ⟨by first | with_reducible assumption | omega | (intros; first | assumption | omega) | (simp only [go_sem] at *; first | assumption | omega) | (intro _; refine (?_ : _ = bB _); rfl) | exact ⟨rfl, rfl⟩ | decide, ?_⟩)
                    (simp only [anyS, go_sem]) <;> first | exact ⟨rfl, rfl⟩ | trivial
                   ·simp only [go_sem]
                    repeat (refine ⟨by first | with_reducible assumption | omega | (intros; first | assumption | omega) | (simp only [go_sem] at *; first | assumption | omega) | (intro _; refine (?_ : _ = bB _); rfl) | exact ⟨rfl, rfl⟩ | decide, ?_⟩)
                    unfold anyS
                    intro i hi
                    have hi : i = 1 ∨ i = 5 := by revert hi; revert i; decide
                    rcases hi with rfl | rfl
                    ·simp only [go_sem]
                     repeat (refine ⟨by first | with_reducible assumption | omega | (intros; first | assumption | omega) | (simp only [go_sem] at *; first | assumption | omega) | (intro _; refine (?_ : _ = bB _); rfl) | exact ⟨rfl, rfl⟩ | decide, ?_⟩)
                     unfold anyS
                     intro i hi
                     have hi : i = 5 := by revert hi; revert i; decide
                     subst hi
                     simp only [go_sem]
                     repeat (refine ⟨by first | with_reducible assumption | omega | (intros; first | assumption | omega) | (simp only [go_sem] at *; first | assumption | omega) | (intro _; refine (?_ : _ = bB _); rfl) | exact ⟨rfl, rfl⟩ | decide, ?_⟩)
                     unfold anyS
                     intro i hi
                     have hi : i = 6 := by revert hi; revert i; decide
                     subst hi
                     simp only [go_sem]
                     repeat (refine ⟨by first | with_reducible assumption | omega | (intros; first | assumption | omega) | (simp only [go_sem] at *; first | assumption | omega) | (intro _; refine (?_ : _ = bB _); rfl) | exact ⟨rfl, rfl⟩ | decide, ?_⟩)
                     unfold anyS
                     intro i hi
                     have hi : i = 7 := by revert hi; revert i; decide
                     subst hi
                     simp only [go_sem]
                     repeat (refine ⟨by first | with_reducible assumption | omega | (intros; first | assumption | omega) | (simp only [go_sem] at *; first | assumption | omega) | (intro _; refine (?_ : _ = bB _); rfl) | exact ⟨rfl, rfl⟩ | decide, ?_⟩)
                     unfold anyS
                     intro i hi
                     have hi : i = 8 := by revert hi; revert i; decide
                     subst hi
                     simp only [go_sem]
                     repeat (refine ⟨by first | with_reducible assumption | omega | (intros; first | assumption | omega) | (simp only [go_sem] at *; first | assumption | omega) | (intro _; refine (?_ : _ = bB _); rfl) | exact ⟨rfl, rfl⟩ | decide, ?_⟩)
                     unfold anyS
                     intro i hi
                     have hi : i = 9 := by revert hi; revert i; decide
                     subst hi
                     simp only [go_sem]
                     repeat (refine ⟨by first | with_reducible assumption | omega | (intros; first | assumption | omega) | (simp only [go_sem] at *; first | assumption | omega) | (intro _; refine (?_ : _ = bB _); rfl) | exact ⟨rfl, rfl⟩ | decide, ?_⟩)
                     (simp only [anyS, go_sem]) <;> first | exact ⟨rfl, rfl⟩ | trivial
                    ·simp only [go_sem]
                     repeat (refine ⟨by first | with_reducible assumption | omega | (intros; first | assumption | omega) | (simp only [go_sem] at *; first | assumption | omega) | (intro _; refine (?_ : _ = bB _); rfl) | exact ⟨rfl, rfl⟩ | decide, ?_⟩)
                     unfold anyS
                     intro i hi
                     have hi : i = 1 ∨ i = 6 := by revert hi; revert i; decide
                     rcases hi with rfl | rfl
                     ·simp only [go_sem]
                      repeat (refine ⟨by first | with_reducible assumption | omega | (intros; first | assumption | omega) | (simp only [go_sem] at *; first | assumption | omega) | (intro _; refine (?_ : _ = bB _); rfl) | exact ⟨rfl, rfl⟩ | decide, ?_⟩)
                      unfold anyS
                      intro i hi
                      have hi : i = 6 := by revert hi; revert i; decide
                      subst hi
                      simp only [go_sem]
                      repeat (refine ⟨by first | with_reducible assumption | omega | (intros; first | assumption | omega) | (simp only [go_sem] at *; first | assumption | omega) | (intro _; refine (?_ : _ = bB _); rfl) | exact ⟨rfl, rfl⟩ | decide, ?_⟩)
                      unfold anyS
                      intro i hi
                      have hi : i = 7 := by revert hi; revert i; decide
                      subst hi
                      simp only [go_sem]
                      repeat (refine ⟨by first | with_reducible assumption | omega | (intros; first | assumption | omega) | (simp only [go_sem] at *; first | assumption | omega) | (intro _; refine (?_ : _ = bB _); rfl) | exact ⟨rfl, rfl⟩ | decide, ?_⟩)
                      unfold anyS
                      intro i hi
                      have hi : i = 8 := by revert hi; revert i; decide
                      subst hi
                      simp only [go_sem]
                      repeat (refine ⟨by first | with_reducible assumption | omega | (intros; first | assumption | omega) | (simp only [go_sem] at *; first | assumption | omega) | (intro _; refine (?_ : _ = bB _); rfl) | exact ⟨rfl, rfl⟩ | decide, ?_⟩)
                      unfold anyS
                      intro i hi
                      have hi : i = 9 := by revert hi; revert i; decide
                      subst hi
                      simp only [go_sem]
                      repeat (refine ⟨by first | with_reducible assumption | omega | (intros; first | assumption | omega) | (simp only [go_sem] at *; first | assumption | omega) | (intro _; refine (?_ : _ = bB _); rfl) | exact ⟨rfl, rfl⟩ | decide, ?_⟩)
                      (simp only [anyS, go_sem]) <;> first | exact ⟨rfl, rfl⟩ | trivial
                     ·simp only [go_sem]
                      repeat (refine ⟨by first | with_reducible assumption | omega | (intros; first | assumption | omega) | (simp only [go_sem] at *; first | assumption | omega) | (intro _; refine (?_ : _ = bB _); rfl) | exact ⟨rfl, rfl⟩ | decide, ?_⟩)
                      unfold anyS
                      intro i hi
                      have hi : i = 1 := by revert hi; revert i; decide
                      subst hi
                      simp only [go_sem]
                      repeat (refine ⟨by first | with_reducible assumption | omega | (intros; first | assumption | omega) | (simp only [go_sem] at *; first | assumption | omega) | (intro _; refine (?_ : _ = bB _); rfl) | exact ⟨rfl, rfl⟩ | decide, ?_⟩)
                      unfold anyS
                      intro i hi
                      have hi : i = 7 := by revert hi; revert i; decide
                      subst hi
                      simp only [go_sem]
                      repeat (refine ⟨by first | with_reducible assumption | omega | (intros; first | assumption | omega) | (simp only [go_sem] at *; first | assumption | omega) | (intro _; refine (?_ : _ = bB _); rfl) | exact ⟨rfl, rfl⟩ | decide, ?_⟩)
                      unfold anyS
                      intro i hi
                      have hi : i = 8 := by revert hi; revert i; decide
                      subst hi
                      simp only [go_sem]
                      repeat (refine ⟨by first | with_reducible assumption | omega | (intros; first | assumption | omega) | (simp only [go_sem] at *; first | assumption | omega) | (intro _; refine (?_ : _ = bB _); rfl) | exact ⟨rfl, rfl⟩ | decide, ?_⟩)
                      unfold anyS
                      intro i hi
                      have hi : i = 9 := by revert hi; revert i; decide
                      subst hi
                      simp only [go_sem]
                      repeat (refine ⟨by first | with_reducible assumption | omega | (intros; first | assumption | omega) | (simp only [go_sem] at *; first | assumption | omega) | (intro _; refine (?_ : _ = bB _); rfl) | exact ⟨rfl, rfl⟩ | decide, ?_⟩)
                      (simp only [anyS, go_sem]) <;> first | exact ⟨rfl, rfl⟩ | trivial
                ·simp only [go_sem]
                 repeat (refine ⟨by first | with_reducible assumption | omega | (intros; first | assumption | omega) | (simp only [go_sem] at *; first | assumption | omega) | (intro _; refine (?_ : _ = bB _); rfl) | exact ⟨rfl, rfl⟩ | decide, ?_⟩)
                 unfold anyS
                 intro i hi
                 have hi : i = 0 ∨ i = 3 := by revert hi; revert i; decide
                 rcases hi with rfl | rfl
                 ·simp only [go_sem]
                  repeat (refine ⟨by first | with_reducible assumption | omega | (intros; first | assumption | omega) | (simp only [go_sem] at *; first | assumption | omega) | (intro _; refine (?_ : _ = bB _); rfl) | exact ⟨rfl, rfl⟩ | decide, ?_⟩)
                  unfold anyS
                  intro i hi
                  have hi : i = 1 ∨ i = 3 := by revert hi; revert i; decide
                  rcases hi with rfl | rfl
                  ·simp only [go_sem]
                   repeat (refine ⟨by first | with_reducible assumption | omega | (intros; first | assumption | omega) | (simp only [go_sem] at *; first | assumption | omega) | (intro _; refine (?_ : _ = bB _); rfl) | exact ⟨rfl, rfl⟩ | decide, ?_⟩)
                   unfold anyS
                   intro i hi
                   have hi : i = 3 := by revert hi; revert i; decide
                   subst hi
                   simp only [go_sem]
                   repeat (refine ⟨by first | with_reducible assumption | omega | (intros; first | assumption | omega) | (simp only [go_sem] at *; first | assumption | omega) | (intro _; refine (?_ : _ = bB _); rfl) | exact ⟨rfl, rfl⟩ | decide, ?_⟩)
                   unfold anyS
                   intro i hi
                   have hi : i = 4 := by revert hi; revert i; decide
                   subst hi
                   simp only [go_sem]
                   repeat (refine ⟨by first | with_reducible assumption | omega | (intros; first | assumption | omega) | (simp only [go_sem] at *; first | assumption | omega) | (intro _; refine (?_ : _ = bB _); rfl) | exact ⟨rfl, rfl⟩ | decide, ?_⟩)
                   unfold anyS
                   intro i hi
                   have hi : i = 5 := by revert hi; revert i; decide
                   subst hi
                   simp only [go_sem]
                   repeat (refine ⟨by first | with_reducible assumption | omega | (intros; first | assumption | omega) | (simp only [go_sem] at *; first | assumption | omega) | (intro _; refine (?_ : _ = bB _); rfl) | exact ⟨rfl, rfl⟩ | decide, ?_⟩)
                   unfold anyS
                   intro i hi
                   have hi : i = 6 := by revert hi; revert i; decide
                   subst hi
                   simp only [go_sem]
                   repeat (refine ⟨by first | with_reducible assumption | omega | (intros; first | assumption | omega) | (simp only [go_sem] at *; first | assumption | omega) | (intro _; refine (?_ : _ = bB _); rfl) | exact ⟨rfl, rfl⟩ | decide, ?_⟩)
                   unfold anyS
                   intro i hi
                   have hi : i = 7 := by revert hi; revert i; decide
                   subst hi
                   simp only [go_sem]
                   repeat (refine ⟨by first | with_reducible assumption | omega | (intros; first | assumption | omega) | (simp only [go_sem] at *; first | assumption | omega) | (intro _; refine (?_ : _ = bB _); rfl) | exact ⟨rfl, rfl⟩ | decide, ?_⟩)
                   unfold anyS
                   intro i hi
                   have hi : i = 8 := by revert hi; revert i; decide
                   subst hi
                   simp only [go_sem]
                   repeat (refine ⟨by first | with_reducible assumption | omega | (intros; first | assumption | omega) | (simp only [go_sem] at *; first | assumption | omega) | (intro _; refine (?_ : _ = bB _); rfl) | exact ⟨rfl, rfl⟩ | decide, ?_⟩)
                   unfold anyS
                   intro i hi
                   have hi : i = 9 := by revert hi; revert i; decide
                   subst hi
                   simp only [go_sem]
                   repeat (refine ⟨by first | with_reducible assumption | omega | (intros; first | assumption | omega) | (simp only [go_sem] at *; first | assumption | omega) | (intro _; refine (?_ : _ = bB _); rfl) | exact ⟨rfl, rfl⟩ | decide, ?_⟩)
                   (simp only [anyS, go_sem]) <;> first | exact ⟨rfl, rfl⟩ | trivial
                  ·simp only [go_sem]
                   repeat (refine ⟨by first | with_reducible assumption | omega | (intros; first | assumption | omega) | (simp only [go_sem] at *; first | assumption | omega) | (intro _; refine (?_ : _ = bB _); rfl) | exact ⟨rfl, rfl⟩ | decide, ?_⟩)
                   unfold anyS
                   intro i hi
                   have hi : i = 1 ∨ i = 4 := by revert hi; revert i; decide
                   rcases hi with rfl | rfl
                   ·simp only [go_sem]
                    repeat (refine ⟨by first | with_reducible assumption | omega | (intros; first | assumption | omega) | (simp only [go_sem] at *; first | assumption | omega) | (intro _; refine (?_ : _ = bB _); rfl) | exact ⟨rfl, rfl⟩ | decide, ?_⟩)
                    unfold anyS
                    intro i hi
                    have hi : i = 4 := by revert hi; revert i; decide
                    subst hi
                    simp only [go_sem]
                    repeat (refine ⟨by first | with_reducible assumption | omega | (intros; first | assumption | omega) | (simp only [go_sem] at *; first | assumption | omega) | (intro _; refine (?_ : _ = bB _); rfl) | exact ⟨rfl, rfl⟩ | decide, ?_⟩)
                    unfold anyS
                    intro i hi
                    have hi : i = 5 := by revert hi; revert i; decide
                    subst hi
                    simp only [go_sem]
                    repeat (refine ⟨by first | with_reducible assumption | omega | (intros; first | assumption | omega) | (simp only [go_sem] at *; first | assumption | omega) | (intro _; refine (?_ : _ = bB _); rfl) | exact ⟨rfl, rfl⟩ | decide, ?_⟩)
                    unfold anyS
                    intro i hi
                    have hi : i = 6 := by revert hi; revert i; decide
                    subst hi
                    simp only [go_sem]
                    repeat (refine ⟨by first | with_reducible assumption | omega | (intros; first | assumption | omega) | (simp only [go_sem] at *; first | assumption | omega) | (intro _; refine (?_ : _ = bB _); rfl) | exact ⟨rfl, rfl⟩ | decide, ?_⟩)
                    unfold anyS
                    intro i hi
                    have hi : i = 7 := by revert hi; revert i; decide
                    subst hi
                    simp only [go_sem]
                    repeat (refine ⟨by first | with_reducible assumption | omega | (intros; first | assumption | omega) | (simp only [go_sem] at *; first | assumption | omega) | (intro _; refine (?_ : _ = bB _); rfl) | exact ⟨rfl, rfl⟩ | decide, ?_⟩)
                    unfold anyS
                    intro i hi
                    have hi : i = 8 := by revert hi; revert i; decide
                    subst hi
                    simp only [go_sem]
                    repeat (refine ⟨by first | with_reducible assumption | omega | (intros; first | assumption | omega) | (simp only [go_sem] at *; first | assumption | omega) | (intro _; refine (?_ : _ = bB _); rfl) | exact ⟨rfl, rfl⟩ | decide, ?_⟩)
                    unfold anyS
                    intro i hi
                    have hi : i = 9 := by revert hi; revert i; decide
                    subst hi
                    simp only [go_sem]
                    repeat (refine ⟨by first | with_reducible assumption | omega | (intros; first | assumption | omega) | (simp only [go_sem] at *; first | assumption | omega) | (intro _; refine (?_ : _ = bB _); rfl) | exact ⟨rfl, rfl⟩ | decide, ?_⟩)
                    (simp only [anyS, go_sem]) <;> first | exact ⟨rfl, rfl⟩ | trivial
                   ·simp only [go_sem]
                    repeat (refine ⟨by first | with_reducible assumption | omega | (intros; first | assumption | omega) | (simp only [go_sem] at *; first | assumption | omega) | (intro _; refine (?_ : _ = bB _); rfl) | exact ⟨rfl, rfl⟩ | decide, ?_⟩)
                    unfold anyS
                    intro i hi
                    have hi : i = 1 ∨ i = 5 := by revert hi; revert i; decide
                    rcases hi with rfl | rfl
                    ·simp only [go_sem]
                     repeat (refine ⟨by first | with_reducible assumption | omega | (intros; first | assumption | omega) | (simp only [go_sem] at *; first | assumption | omega) | (intro _; refine (?_ : _ = bB _); rfl) | exact ⟨rfl, rfl⟩ | decide, ?_⟩)
                     unfold anyS
                     intro i hi
                     have hi : i = 5 := by revert hi; revert i; decide
                     subst hi
                     simp only [go_sem]
                     repeat (refine ⟨by first | with_reducible assumption | omega | (intros; first | assumption | omega) | (simp only [go_sem] at *; first | assumption | omega) | (intro _; refine (?_ : _ = bB _); rfl) | exact ⟨rfl, rfl⟩ | decide, ?_⟩)
                     unfold anyS
                     intro i hi
                     have hi : i = 6 := by revert hi; revert i; decide
                     subst hi
                     simp only [go_sem]
                     repeat (refine ⟨by first | with_reducible assumption | omega | (intros; first | assumption | omega) | (simp only [go_sem] at *; first | assumption | omega) | (intro _; refine (?_ : _ = bB _); rfl) | exact ⟨rfl, rfl⟩ | decide, ?_⟩)
                     unfold anyS
                     intro i hi
                     have hi : i = 7 := by revert hi; revert i; decide
                     subst hi
                     simp only [go_sem]
                     repeat (refine ⟨by first | with_reducible assumption | omega | (intros; first | assumption | omega) | (simp only [go_sem] at *; first | assumption | omega) | (intro _; refine (?_ : _ = bB _); rfl) | exact ⟨rfl, rfl⟩ | decide, ?_⟩)
                     unfold anyS
                     intro i hi
                     have hi : i = 8 := by revert hi; revert i; decide
                     subst hi
                     simp only [go_sem]
                     repeat (refine ⟨by first | with_reducible assumption | omega | (intros; first | assumption | omega) | (simp only [go_sem] at *; first | assumption | omega) | (intro _; refine (?_ : _ = bB _); rfl) | exact ⟨rfl, rfl⟩ | decide, ?_⟩)
                     unfold anyS
                     intro i hi
                     have hi : i = 9 := by revert hi; revert i; decide
                     subst hi
                     simp only [go_sem]
                     repeat (refine ⟨by first | with_reducible assumption | omega | (intros; first | assumption | omega) | (simp only [go_sem] at *; first | assumption | omega) | (intro _; refine (?_ : _ = bB _); rfl) | exact ⟨rfl, rfl⟩ | decide, ?_⟩)
                     (simp only [anyS, go_sem]) <;> first | exact ⟨rfl, rfl⟩ | trivial
                    ·simp only [go_sem]
                     repeat (refine ⟨by first | with_reducible assumption | omega | (intros; first | assumption | omega) | (simp only [go_sem] at *; first | assumption | omega) | (intro _; refine (?_ : _ = bB _); rfl) | exact ⟨rfl, rfl⟩ | decide, ?_⟩)
                     unfold anyS
                     intro i hi
                     have hi : i = 1 ∨ i = 6 := by revert hi; revert i; decide
                     rcases hi with rfl | rfl
                     ·simp only [go_sem]
                      repeat (refine ⟨by first | with_reducible assumption | omega | (intros; first | assumption | omega) | (simp only [go_sem] at *; first | assumption | omega) | (intro _; refine (?_ : _ = bB _); rfl) | exact ⟨rfl, rfl⟩ | decide, ?_⟩)
                      unfold anyS
                      intro i hi
                      have hi : i = 6 := by revert hi; revert i; decide
                      subst hi
                      simp only [go_sem]
                      repeat (refine ⟨by first | with_reducible assumption | omega | (intros; first | assumption | omega) | (simp only [go_sem] at *; first | assumption | omega) | (intro _; refine (?_ : _ = bB _); rfl) | exact ⟨rfl, rfl⟩ | decide, ?_⟩)
                      unfold anyS
                      intro i hi
                      have hi : i = 7 := by revert hi; revert i; decide
                      subst hi
                      simp only [go_sem]
                      repeat (refine ⟨by first | with_reducible assumption | omega | (intros; first | assumption | omega) | (simp only [go_sem] at *; first | assumption | omega) | (intro _; refine (?_ : _ = bB _); rfl) | exact ⟨rfl, rfl⟩ | decide, ?_⟩)
                      unfold anyS
                      intro i hi
                      have hi : i = 8 := by revert hi; revert i; decide
                      subst hi
                      simp only [go_sem]
                      repeat (refine ⟨by first | with_reducible assumption | omega | (intros; first | assumption | omega) | (simp only [go_sem] at *; first | assumption | omega) | (intro _; refine (?_ : _ = bB _); rfl) | exact ⟨rfl, rfl⟩ | decide, ?_⟩)
                      unfold anyS
                      intro i hi
                      have hi : i = 9 := by revert hi; revert i; decide
                      subst hi
                      simp only [go_sem]
                      repeat (refine ⟨by first | with_reducible assumption | omega | (intros; first | assumption | omega) | (simp only [go_sem] at *; first | assumption | omega) | (intro _; refine (?_ : _ = bB _); rfl) | exact ⟨rfl, rfl⟩ | decide, ?_⟩)
                      (simp only [anyS, go_sem]) <;> first | exact ⟨rfl, rfl⟩ | trivial
                     ·simp only [go_sem]
                      repeat (refine ⟨by first | with_reducible assumption | omega | (intros; first | assumption | omega) | (simp only [go_sem] at *; first | assumption | omega) | (intro _; refine (?_ : _ = bB _); rfl) | exact ⟨rfl, rfl⟩ | decide, ?_⟩)
                      unfold anyS
                      intro i hi
                      have hi : i = 1 := by revert hi; revert i; decide
                      subst hi
                      simp only [go_sem]
                      repeat (refine ⟨by first | with_reducible assumption | omega | (intros; first | assumption | omega) | (simp only [go_sem] at *; first | assumption | omega) | (intro _; refine (?_ : _ = bB _); rfl) | exact ⟨rfl, rfl⟩ | decide, ?_⟩)
                      unfold anyS
                      intro i hi
                      have hi : i = 7 := by revert hi; revert i; decide
                      subst hi
                      simp only [go_sem]
                      repeat (refine ⟨by first | with_reducible assumption | omega | (intros; first | assumption | omega) | (simp only [go_sem] at *; first | assumption | omega) | (intro _; refine (?_ : _ = bB _); rfl) | exact ⟨rfl, rfl⟩ | decide, ?_⟩)
                      unfold anyS
                      intro i hi
                      have hi : i = 8 := by revert hi; revert i; decide
                      subst hi
                      simp only [go_sem]
                      repeat (refine ⟨by first | with_reducible assumption | omega | (intros; first | assumption | omega) | (simp only [go_sem] at *; first | assumption | omega) | (intro _; refine (?_ : _ = bB _); rfl) | exact ⟨rfl, rfl⟩ | decide, ?_⟩)
                      unfold anyS
                      intro i hi
                      have hi : i = 9 := by revert hi; revert i; decide
                      subst hi
                      simp only [go_sem]
                      repeat (refine ⟨by first | with_reducible assumption | omega | (intros; first | assumption | omega) | (simp only [go_sem] at *; first | assumption | omega) | (intro _; refine (?_ : _ = bB _); rfl) | exact ⟨rfl, rfl⟩ | decide, ?_⟩)
                      (simp only [anyS, go_sem]) <;> first | exact ⟨rfl, rfl⟩ | trivial
                 ·simp only [go_sem]
                  repeat (refine ⟨by first | with_reducible assumption | omega | (intros; first | assumption | omega) | (simp only [go_sem] at *; first | assumption | omega) | (intro _; refine (?_ : _ = bB _); rfl) | exact ⟨rfl, rfl⟩ | decide, ?_⟩)
                  unfold anyS
                  intro i hi
                  have hi : i = 0 ∨ i = 4 := by revert hi; revert i; decide
                  rcases hi with rfl | rfl
                  ·simp only [go_sem]
                   repeat (refine ⟨by first | with_reducible assumption | omega | (intros; first | assumption | omega) | (simp only [go_sem] at *; first | assumption | omega) | (intro _; refine (?_ : _ = bB _); rfl) | exact ⟨rfl, rfl⟩ | decide, ?_⟩)
                   unfold anyS
                   intro i hi
                   have hi : i = 1 ∨ i = 4 := by revert hi; revert i; decide
                   rcases hi with rfl | rfl
                   ·simp only [go_sem]
                    repeat (refine ⟨by first | with_reducible assumption | omega | (intros; first | assumption | omega) | (simp only [go_sem] at *; first | assumption | omega) | (intro _; refine (?_ : _ = bB _); rfl) | exact ⟨rfl, rfl⟩ | decide, ?_⟩)
                    unfold anyS
                    intro i hi
                    have hi : i = 4 := by revert hi; revert i; decide
                    subst hi
                    simp only [go_sem]
                    repeat (refine ⟨by first | with_reducible assumption | omega | (intros; first | assumption | omega) | (simp only [go_sem] at *; first | assumption | omega) | (intro _; refine (?_ : _ = bB _); rfl) | exact ⟨rfl, rfl⟩ | decide, ?_⟩)
                    unfold anyS
                    intro i hi
                    have hi : i = 5 := by revert hi; revert i; decide
                    subst hi
                    simp only [go_sem]
                    repeat (refine ⟨by first | with_reducible assumption | omega | (intros; first | assumption | omega) | (simp only [go_sem] at *; first | assumption | omega) | (intro _; refine (?_ : _ = bB _); rfl) | exact ⟨rfl, rfl⟩ | decide, ?_⟩)
                    unfold anyS
                    intro i hi
                    have hi : i = 6 := by revert hi; revert i; decide
                    subst hi
                    simp only [go_sem]
                    repeat (refine ⟨by first | with_reducible assumption | omega | (intros; first | assumption | omega) | (simp only [go_sem] at *; first | assumption | omega) | (intro _; refine (?_ : _ = bB _); rfl) | exact ⟨rfl, rfl⟩ | decide, ?_⟩)
                    unfold anyS
                    intro i hi
                    have hi : i = 7 := by revert hi; revert i; decide
                    subst hi
                    simp only [go_sem]
                    repeat (refine ⟨by first | with_reducible assumption | omega | (intros; first | assumption | omega) | (simp only [go_sem] at *; first | assumption | omega) | (intro _; refine (?_ : _ = bB _); rfl) | exact ⟨rfl, rfl⟩ | decide, ?_⟩)
                    unfold anyS
                    intro i hi
                    have hi : i = 8 := by revert hi; revert i; decide
                    subst hi
                    simp only [go_sem]
                    repeat (refine ⟨by first | with_reducible assumption | omega | (intros; first | assumption | omega) | (simp only [go_sem] at *; first | assumption | omega) | (intro _; refine (?_ : _ = bB _); rfl) | exact ⟨rfl, rfl⟩ | decide, ?_⟩)
                    unfold anyS
                    intro i hi
                    have hi : i = 9 := by revert hi; revert i; decide
                    subst hi
                    simp only [go_sem]
                    repeat (refine ⟨by first | with_reducible assumption | omega | (intros; first | assumption | omega) | (simp only [go_sem] at *; first | assumption | omega) | (intro _; refine (?_ : _ = bB _); rfl) | exact ⟨rfl, rfl⟩ | decide, ?_⟩)
                    (simp only [anyS, go_sem]) <;> first | exact ⟨rfl, rfl⟩ | trivial
                   ·simp only [go_sem]
                    repeat (refine ⟨by first | with_reducible assumption | omega | (intros; first | assumption | omega) | (simp only [go_sem] at *; first | assumption | omega) | (intro _; refine (?_ : _ = bB _); rfl) | exact ⟨rfl, rfl⟩ | decide, ?_⟩)
                    unfold anyS
                    intro i hi
                    have hi : i = 1 ∨ i = 5 := by revert hi; revert i; decide
                    rcases hi with rfl | rfl
                    ·simp only [go_sem]
                     repeat (refine ⟨by first | with_reducible assumption | omega | (intros; first | assumption | omega) | (simp only [go_sem] at *; first | assumption | omega) | (intro _; refine (?_ : _ = bB _); rfl) | exact ⟨rfl, rfl⟩ | decide, ?_⟩)
                     unfold anyS
                     intro i hi
                     have hi : i = 5 := by revert hi; revert i; decide
                     subst hi
                     simp only [go_sem]
                     repeat (refine ⟨by first | with_reducible assumption | omega | (intros; first | assumption | omega) | (simp only [go_sem] at *; first | assumption | omega) | (intro _; refine (?_ : _ = bB _); rfl) | exact ⟨rfl, rfl⟩ | decide, ?_⟩)
                     unfold anyS
                     intro i hi
                     have hi : i = 6 := by revert hi; revert i; decide
                     subst hi
                     simp only [go_sem]
                     repeat (refine ⟨by first | with_reducible assumption | omega | (intros; first | assumption | omega) | (simp only [go_sem] at *; first | assumption | omega) | (intro _; refine (?_ : _ = bB _); rfl) | exact ⟨rfl, rfl⟩ | decide, ?_⟩)
                     unfold anyS
                     intro i hi
                     have hi : i = 7 := by revert hi; revert i; decide
                     subst hi
                     simp only [go_sem]
                     repeat (refine ⟨by first | with_reducible assumption | omega | (intros; first | assumption | omega) | (simp only [go_sem] at *; first | assumption | omega) | (intro _; refine (?_ : _ = bB _); rfl) | exact ⟨rfl, rfl⟩ | decide, ?_⟩)
                     unfold anyS
                     intro i hi
                     have hi : i = 8 := by revert hi; revert i; decide
                     subst hi
                     simp only [go_sem]
                     repeat (refine ⟨by first | with_reducible assumption | omega | (intros; first | assumption | omega) | (simp only [go_sem] at *; first | assumption | omega) | (intro _; refine (?_ : _ = bB _); rfl) | exact ⟨rfl, rfl⟩ | decide, ?_⟩)
                     unfold anyS
                     intro i hi
                     have hi : i = 9 := by revert hi; revert i; decide
                     subst hi
                     simp only [go_sem]
                     repeat (refine ⟨by first | with_reducible assumption | omega | (intros; first | assumption | omega) | (simp only [go_sem] at *; first | assumption | omega) | (intro _; refine (?_ : _ = bB _); rfl) | exact ⟨rfl, rfl⟩ | decide, ?_⟩)
                     (simp only [anyS, go_sem]) <;> first | exact ⟨rfl, rfl⟩ | trivial
                    ·simp only [go_sem]
                     repeat (refine ⟨by first | with_reducible assumption | omega | (intros; first | assumption | omega) | (simp only [go_sem] at *; first | assumption | omega) | (intro _; refine (?_ : _ = bB _); rfl) | exact ⟨rfl, rfl⟩ | decide, ?_⟩)
                     unfold anyS
                     intro i hi
                     have hi : i = 1 ∨ i = 6 := by revert hi; revert i; decide
                     rcases hi with rfl | rfl
                     ·simp only [go_sem]
                      repeat (refine ⟨by first | with_reducible assumption | omega | (intros; first | assumption | omega) | (simp only [go_sem] at *; first | assumption | omega) | (intro _; refine (?_ : _ = bB _); rfl) | exact ⟨rfl, rfl⟩ | decide, ?_⟩)
                      unfold anyS
                      intro i hi
                      have hi : i = 6 := by revert hi; revert i; decide
                      subst hi
                      simp only [go_sem]
                      repeat (refine ⟨by first | with_reducible assumption | omega | (intros; first | assumption | omega) | (simp only [go_sem] at *; first | assumption | omega) | (intro _; refine (?_ : _ = bB _); rfl) | exact ⟨rfl, rfl⟩ | decide, ?_⟩)
                      unfold anyS
                      intro i hi
                      have hi : i = 7 := by revert hi; revert i; decide
                      subst hi
                      simp only [go_sem]
                      repeat (refine ⟨by first | with_reducible assumption | omega | (intros; first | assumption | omega) | (simp only [go_sem] at *; first | assumption | omega) | (intro _; refine (?_ : _ = bB _); rfl) | exact ⟨rfl, rfl⟩ | decide, ?_⟩)
                      unfold anyS
                      intro i hi
                      have hi : i = 8 := by revert hi; revert i; decide
                      subst hi
                      simp only [go_sem]
                      repeat (refine ⟨by first | with_reducible assumption | omega | (intros; first | assumption | omega) | (simp only [go_sem] at *; first | assumption | omega) | (intro _; refine (?_ : _ = bB _); rfl) | exact ⟨rfl, rfl⟩ | decide, ?_⟩)
                      unfold anyS
                      intro i hi
                      have hi : i = 9 := by revert hi; revert i; decide
                      subst hi
                      simp only [go_sem]
                      repeat (refine ⟨by first | with_reducible assumption | omega | (intros; first | assumption | omega) | (simp only [go_sem] at *; first | assumption | omega) | (intro _; refine (?_ : _ = bB _); rfl) | exact ⟨rfl, rfl⟩ | decide, ?_⟩)
                      (simp only [anyS, go_sem]) <;> first | exact ⟨rfl, rfl⟩ | trivial
                     ·simp only [go_sem]
                      repeat (refine ⟨by first | with_reducible assumption | omega | (intros; first | assumption | omega) | (simp only [go_sem] at *; first | assumption | omega) | (intro _; refine (?_ : _ = bB _); rfl) | exact ⟨rfl, rfl⟩ | decide, ?_⟩)
                      unfold anyS
                      intro i hi
                      have hi : i = 1 := by revert hi; revert i; decide
                      subst hi
                      simp only [go_sem]
                      repeat (refine ⟨by first | with_reducible assumption | omega | (intros; first | assumption | omega) | (simp only [go_sem] at *; first | assumption | omega) | (intro _; refine (?_ : _ = bB _); rfl) | exact ⟨rfl, rfl⟩ | decide, ?_⟩)
                      unfold anyS
                      intro i hi
                      have hi : i = 7 := by revert hi; revert i; decide
                      subst hi
                      simp only [go_sem]
                      repeat (refine ⟨by first | with_reducible assumption | omega | (intros; first | assumption | omega) | (simp only [go_sem] at *; first | assumption | omega) | (intro _; refine (?_ : _ = bB _); rfl) | exact ⟨rfl, rfl⟩ | decide, ?_⟩)
                      unfold anyS
                      intro i hi
                      have hi : i = 8 := by revert hi; revert i; decide
                      subst hi
                      simp only [go_sem]
                      repeat (refine ⟨by first | with_reducible assumption | omega | (intros; first | assumption | omega) | (simp only [go_sem] at *; first | assumption | omega) | (intro _; refine (?_ : _ = bB _); rfl) | exact ⟨rfl, rfl⟩ | decide, ?_⟩)
                      unfold anyS
                      intro i hi
                      have hi : i = 9 := by revert hi; revert i; decide
                      subst hi
                      simp only [go_sem]
                      repeat (refine ⟨by first | with_reducible assumption | omega | (intros; first | assumption | omega) | (simp only [go_sem] at *; first | assumption | omega) | (intro _; refine (?_ : _ = bB _); rfl) | exact ⟨rfl, rfl⟩ | decide, ?_⟩)
                      (simp only [anyS, go_sem]) <;> first | exact ⟨rfl, rfl⟩ | trivial
                  ·simp only [go_sem]
                   repeat (refine ⟨by first | with_reducible assumption | omega | (intros; first | assumption | omega) | (simp only [go_sem] at *; first | assumption | omega) | (intro _; refine (?_ : _ = bB _); rfl) | exact ⟨rfl, rfl⟩ | decide, ?_⟩)
                   unfold anyS
                   intro i hi
                   have hi : i = 0 ∨ i = 5 := by revert hi; revert i; decide
                   rcases hi with rfl | rfl
                   ·simp only [go_sem]
                    repeat (refine ⟨by first | with_reducible assumption | omega | (intros; first | assumption | omega) | (simp only [go_sem] at *; first | assumption | omega) | (intro _; refine (?_ : _ = bB _); rfl) | exact ⟨rfl, rfl⟩ | decide, ?_⟩)
                    unfold anyS
                    intro i hi
                    have hi : i = 1 ∨ i = 5 := by revert hi; revert i; decide
                    rcases hi with rfl | rfl
                    ·simp only [go_sem]
                     repeat (refine ⟨by first | with_reducible assumption | omega | (intros; first | assumption | omega) | (simp only [go_sem] at *; first | assumption | omega) | (intro _; refine (?_ : _ = bB _); rfl) | exact ⟨rfl, rfl⟩ | decide, ?_⟩)
                     unfold anyS
                     intro i hi
                     have hi : i = 5 := by revert hi; revert i; decide
                     subst hi
                     simp only [go_sem]
                     repeat (refine ⟨by first | with_reducible assumption | omega | (intros; first | assumption | omega) | (simp only [go_sem] at *; first | assumption | omega) | (intro _; refine (?_ : _ = bB _); rfl) | exact ⟨rfl, rfl⟩ | decide, ?_⟩)
                     unfold anyS
                     intro i hi
                     have hi : i = 6 := by revert hi; revert i; decide
                     subst hi
                     simp only [go_sem]
                     repeat (refine ⟨by first | with_reducible assumption | omega | (intros; first | assumption | omega) | (simp only [go_sem] at *; first | assumption | omega) | (intro _; refine (?_ : _ = bB _); rfl) | exact ⟨rfl, rfl⟩ | decide, ?_⟩)
                     unfold anyS
                     intro i hi
                     have hi : i = 7 := by revert hi; revert i; decide
                     subst hi
                     simp only [go_sem]
                     repeat (refine ⟨by first | with_reducible assumption | omega | (intros; first | assumption | omega) | (simp only [go_sem] at *; first | assumption | omega) | (intro _; refine (?_ : _ = bB _); rfl) | exact ⟨rfl, rfl⟩ | decide, ?_⟩)
                     unfold anyS
                     intro i hi
                     have hi : i = 8 := by revert hi; revert i; decide
                     subst hi
                     simp only [go_sem]
                     repeat (refine ⟨by first | with_reducible assumption | omega | (intros; first | assumption | omega) | (simp only [go_sem] at *; first | assumption | omega) | (intro _; refine (?_ : _ = bB _); rfl) | exact ⟨rfl, rfl⟩ | decide, ?_⟩)
                     unfold anyS
                     intro i hi
                     have hi : i = 9 := by revert hi; revert i; decide
                     subst hi
                     simp only [go_sem]
                     repeat (refine ⟨by first | with_reducible assumption | omega | (intros; first | assumption | omega) | (simp only [go_sem] at *; first | assumption | omega) | (intro _; refine (?_ : _ = bB _); rfl) | exact ⟨rfl, rfl⟩ | decide, ?_⟩)
                     (simp only [anyS, go_sem]) <;> first | exact ⟨rfl, rfl⟩ | trivial
                    ·simp only [go_sem]
                     repeat (refine ⟨by first | with_reducible assumption | omega | (intros; first | assumption | omega) | (simp only [go_sem] at *; first | assumption | omega) | (intro _; refine (?_ : _ = bB _); rfl) | exact ⟨rfl, rfl⟩ | decide, ?_⟩)
                     unfold anyS
                     intro i hi
                     have hi : i = 1 ∨ i = 6 := by revert hi; revert i; decide
                     rcases hi with rfl | rfl
                     ·simp only [go_sem]
                      repeat (refine ⟨by first | with_reducible assumption | omega | (intros; first | assumption | omega) | (simp only [go_sem] at *; first | assumption | omega) | (intro _; refine (?_ : _ = bB _); rfl) | exact ⟨rfl, rfl⟩ | decide, ?_⟩)
                      unfold anyS
                      intro i hi
                      have hi : i = 6 := by revert hi; revert i; decide
                      subst hi
                      simp only [go_sem]
                      repeat (refine ⟨by first | with_reducible assumption | omega | (intros; first | assumption | omega) | (simp only [go_sem] at *; first | assumption | omega) | (intro _; refine (?_ : _ = bB _); rfl) | exact ⟨rfl, rfl⟩ | decide, ?_⟩)
                      unfold anyS
                      intro i hi
                      have hi : i = 7 := by revert hi; revert i; decide
                      subst hi
                      simp only [go_sem]
                      repeat (refine ⟨by first | with_reducible assumption | omega | (intros; first | assumption | omega) | (simp only [go_sem] at *; first | assumption | omega) | (intro _; refine (?_ : _ = bB _); rfl) | exact ⟨rfl, rfl⟩ | decide, ?_⟩)
                      unfold anyS
                      intro i hi
                      have hi : i = 8 := by revert hi; revert i; decide
                      subst hi
                      simp only [go_sem]
                      repeat (refine ⟨by first | with_reducible assumption | omega | (intros; first | assumption | omega) | (simp only [go_sem] at *; first | assumption | omega) | (intro _; refine (?_ : _ = bB _); rfl) | exact ⟨rfl, rfl⟩ | decide, ?_⟩)
                      unfold anyS
                      intro i hi
                      have hi : i = 9 := by revert hi; revert i; decide
                      subst hi
                      simp only [go_sem]
                      repeat (refine ⟨by first | with_reducible assumption | omega | (intros; first | assumption | omega) | (simp only [go_sem] at *; first | assumption | omega) | (intro _; refine (?_ : _ = bB _); rfl) | exact ⟨rfl, rfl⟩ | decide, ?_⟩)
                      (simp only [anyS, go_sem]) <;> first | exact ⟨rfl, rfl⟩ | trivial
                     ·simp only [go_sem]
                      repeat (refine ⟨by first | with_reducible assumption | omega | (intros; first | assumption | omega) | (simp only [go_sem] at *; first | assumption | omega) | (intro _; refine (?_ : _ = bB _); rfl) | exact ⟨rfl, rfl⟩ | decide, ?_⟩)
                      unfold anyS
                      intro i hi
                      have hi : i = 1 := by revert hi; revert i; decide
                      subst hi
                      simp only [go_sem]
                      repeat (refine ⟨by first | with_reducible assumption | omega | (intros; first | assumption | omega) | (simp only [go_sem] at *; first | assumption | omega) | (intro _; refine (?_ : _ = bB _); rfl) | exact ⟨rfl, rfl⟩ | decide, ?_⟩)
                      unfold anyS
                      intro i hi
                      have hi : i = 7 := by revert hi; revert i; decide
                      subst hi
                      simp only [go_sem]
                      repeat (refine ⟨by first | with_reducible assumption | omega | (intros; first | assumption | omega) | (simp only [go_sem] at *; first | assumption | omega) | (intro _; refine (?_ : _ = bB _); rfl) | exact ⟨rfl, rfl⟩ | decide, ?_⟩)
                      unfold anyS
                      intro i hi
                      have hi : i = 8 := by revert hi; revert i; decide
                      subst hi
                      simp only [go_sem]
                      repeat (refine ⟨by first | with_reducible assumption | omega | (intros; first | assumption | omega) | (simp only [go_sem] at *; first | assumption | omega) | (intro _; refine (?_ : _ = bB _); rfl) | exact ⟨rfl, rfl⟩ | decide, ?_⟩)
                      unfold anyS
                      intro i hi
                      have hi : i = 9 := by revert hi; revert i; decide
                      subst hi
                      simp only [go_sem]
                      repeat (refine ⟨by first | with_reducible assumption | omega | (intros; first | assumption | omega) | (simp only [go_sem] at *; first | assumption | omega) | (intro _; refine (?_ : _ = bB _); rfl) | exact ⟨rfl, rfl⟩ | decide, ?_⟩)
                      (simp only [anyS, go_sem]) <;> first | exact ⟨rfl, rfl⟩ | trivial
                   ·simp only [go_sem]
                    repeat (refine ⟨by first | with_reducible assumption | omega | (intros; first | assumption | omega) | (simp only [go_sem] at *; first | assumption | omega) | (intro _; refine (?_ : _ = bB _); rfl) | exact ⟨rfl, rfl⟩ | decide, ?_⟩)
                    unfold anyS
                    intro i hi
                    have hi : i = 0 ∨ i = 6 := by revert hi; revert i; decide
                    rcases hi with rfl | rfl
                    ·simp only [go_sem]
                     repeat (refine ⟨by first | with_reducible assumption | omega | (intros; first | assumption | omega) | (simp only [go_sem] at *; first | assumption | omega) | (intro _; refine (?_ : _ = bB _); rfl) | exact ⟨rfl, rfl⟩ | decide, ?_⟩)
                     unfold anyS
                     intro i hi
                     have hi : i = 1 ∨ i = 6 := by revert hi; revert i; decide
                     rcases hi with rfl | rfl
                     ·simp only [go_sem]
                      repeat (refine ⟨by first | with_reducible assumption | omega | (intros; first | assumption | omega) | (simp only [go_sem] at *; first | assumption | omega) | (intro _; refine (?_ : _ = bB _); rfl) | exact ⟨rfl, rfl⟩ | decide, ?_⟩)
                      unfold anyS
                      intro i hi
                      have hi : i = 6 := by revert hi; revert i; decide
                      subst hi
                      simp only [go_sem]
                      repeat (refine ⟨by first | with_reducible assumption | omega | (intros; first | assumption | omega) | (simp only [go_sem] at *; first | assumption | omega) | (intro _; refine (?_ : _ = bB _); rfl) | exact ⟨rfl, rfl⟩ | decide, ?_⟩)
                      unfold anyS
                      intro i hi
                      have hi : i = 7 := by revert hi; revert i; decide
                      subst hi
                      simp only [go_sem]
                      repeat (refine ⟨by first | with_reducible assumption | omega | (intros; first | assumption | omega) | (simp only [go_sem] at *; first | assumption | omega) | (intro _; refine (?_ : _ = bB _); rfl) | exact ⟨rfl, rfl⟩ | decide, ?_⟩)
                      unfold anyS
                      intro i hi
                      have hi : i = 8 := by revert hi; revert i; decide
                      subst hi
                      simp only [go_sem]
                      repeat (refine ⟨by first | with_reducible assumption | omega | (intros; first | assumption | omega) | (simp only [go_sem] at *; first | assumption | omega) | (intro _; refine (?_ : _ = bB _); rfl) | exact ⟨rfl, rfl⟩ | decide, ?_⟩)
                      unfold anyS
                      intro i hi
                      have hi : i = 9 := by revert hi; revert i; decide
                      subst hi
                      simp only [go_sem]
                      repeat (refine ⟨by first | with_reducible assumption | omega | (intros; first | assumption | omega) | (simp only [go_sem] at *; first | assumption | omega) | (intro _; refine (?_ : _ = bB _); rfl) | exact ⟨rfl, rfl⟩ | decide, ?_⟩)
                      (simp only [anyS, go_sem]) <;> first | exact ⟨rfl, rfl⟩ | trivial
                     ·simp only [go_sem]
                      repeat (refine ⟨by first | with_reducible assumption | omega | (intros; first | assumption | omega) | (simp only [go_sem] at *; first | assumption | omega) | (intro _; refine (?_ : _ = bB _); rfl) | exact ⟨rfl, rfl⟩ | decide, ?_⟩)
                      unfold anyS
                      intro i hi
                      have hi : i = 1 := by revert hi; revert i; decide
                      subst hi
                      simp only [go_sem]
                      repeat (refine ⟨by first | with_reducible assumption | omega | (intros; first | assumption | omega) | (simp only [go_sem] at *; first | assumption | omega) | (intro _; refine (?_ : _ = bB _); rfl) | exact ⟨rfl, rfl⟩ | decide, ?_⟩)
                      unfold anyS
                      intro i hi
                      have hi : i = 7 := by revert hi; revert i; decide
                      subst hi
                      simp only [go_sem]
                      repeat (refine ⟨by first | with_reducible assumption | omega | (intros; first | assumption | omega) | (simp only [go_sem] at *; first | assumption | omega) | (intro _; refine (?_ : _ = bB _); rfl) | exact ⟨rfl, rfl⟩ | decide, ?_⟩)
                      unfold anyS
                      intro i hi
                      have hi : i = 8 := by revert hi; revert i; decide
                      subst hi
                      simp only [go_sem]
                      repeat (refine ⟨by first | with_reducible assumption | omega | (intros; first | assumption | omega) | (simp only [go_sem] at *; first | assumption | omega) | (intro _; refine (?_ : _ = bB _); rfl) | exact ⟨rfl, rfl⟩ | decide, ?_⟩)
                      unfold anyS
                      intro i hi
                      have hi : i = 9 := by revert hi; revert i; decide
                      subst hi
                      simp only [go_sem]
                      repeat (refine ⟨by first | with_reducible assumption | omega | (intros; first | assumption | omega) | (simp only [go_sem] at *; first | assumption | omega) | (intro _; refine (?_ : _ = bB _); rfl) | exact ⟨rfl, rfl⟩ | decide, ?_⟩)
                      (simp only [anyS, go_sem]) <;> first | exact ⟨rfl, rfl⟩ | trivial
                    ·simp only [go_sem]
                     repeat (refine ⟨by first | with_reducible assumption | omega | (intros; first | assumption | omega) | (simp only [go_sem] at *; first | assumption | omega) | (intro _; refine (?_ : _ = bB _); rfl) | exact ⟨rfl, rfl⟩ | decide, ?_⟩)
                     unfold anyS
                     intro i hi
                     have hi : i = 0 := by revert hi; revert i; decide
                     subst hi
                     simp only [go_sem]
                     repeat (refine ⟨by first | with_reducible assumption | omega | (intros; first | assumption | omega) | (simp only [go_sem] at *; first | assumption | omega) | (intro _; refine (?_ : _ = bB _); rfl) | exact ⟨rfl, rfl⟩ | decide, ?_⟩)
                     unfold anyS
                     intro i hi
                     have hi : i = 1 := by revert hi; revert i; decide
                     subst hi
                     simp only [go_sem]
                     repeat (refine ⟨by first | with_reducible assumption | omega | (intros; first | assumption | omega) | (simp only [go_sem] at *; first | assumption | omega) | (intro _; refine (?_ : _ = bB _); rfl) | exact ⟨rfl, rfl⟩ | decide, ?_⟩)
                     unfold anyS
                     intro i hi
                     have hi : i = 7 := by revert hi; revert i; decide
                     subst hi
                     simp only [go_sem]
                     repeat (refine ⟨by first | with_reducible assumption | omega | (intros; first | assumption | omega) | (simp only [go_sem] at *; first | assumption | omega) | (intro _; refine (?_ : _ = bB _); rfl) | exact ⟨rfl, rfl⟩ | decide, ?_⟩)
                     unfold anyS
                     intro i hi
                     have hi : i = 8 := by revert hi; revert i; decide
                     subst hi
                     simp only [go_sem]
                     repeat (refine ⟨by first | with_reducible assumption | omega | (intros; first | assumption | omega) | (simp only [go_sem] at *; first | assumption | omega) | (intro _; refine (?_ : _ = bB _); rfl) | exact ⟨rfl, rfl⟩ | decide, ?_⟩)
                     unfold anyS
                     intro i hi
                     have hi : i = 9 := by revert hi; revert i; decide
                     subst hi
                     simp only [go_sem]
                     repeat (refine ⟨by first | with_reducible assumption | omega | (intros; first | assumption | omega) | (simp only [go_sem] at *; first | assumption | omega) | (intro _; refine (?_ : _ = bB _); rfl) | exact ⟨rfl, rfl⟩ | decide, ?_⟩)
                     (simp only [anyS, go_sem]) <;> first | exact ⟨rfl, rfl⟩ | trivial
               refine bN (aS (fH [2, 3, 1] rfl rfl ?_))
               simp only [ren, fY, jC, posOf, dL, go_sem]
               refine aQ ((false, (r_3.1), ((r_3.2).1), (((r_3.2).2).1), ((((r_3.2).2).2).1), (((((r_3.2).2).2).2).1), (((((((r_3.2).2).2).2).2).2).1), ((((((((r_3.2).2).2).2).2).2).2).1), ((((((((((r_3.2).2).2).2).2).2).2).2).1) ++ ([((((((((((r_3.2).2).2).2).2).2).2).2).1).getD (0 : Nat) (([] : List Nat), ([] : List ((List Nat) × (((List Nat) × ((List Nat) × Unit)) × (Ex × Unit)))), ([] : List ((List Nat) × (((List Nat) × ((List Nat) × Unit)) × Unit))), ([] : List (List Nat)), ([] : List ((List Nat) × (Ex × Unit))), ()))] : List ((List Nat) × ((List ((List Nat) × (((List Nat) × ((List Nat) × Unit)) × (Ex × Unit)))) × ((List ((List Nat) × (((List Nat) × ((List Nat) × Unit)) × Unit))) × ((List (List Nat)) × ((List ((List Nat) × (Ex × Unit))) × Unit))))))))) h rfl ?_
               ·(try simp only [fZ, eG, true_or, and_self, go_sem]) <;> (repeat' apply And.intro) <;> first | rfl | (left; rfl) | (right; rfl) | (left; simp only [go_sem]; done) | (right; simp only [go_sem]; done) | (simp; done) | (simp only [*]; done) | omega
              ·try simp only [go_sem] at hc
               have h := eD (by first | exact hc | omega | (simpa using hc) | (simp at hc ⊢; omega)) h
               refine aB (aD hF [3, 4, 9, 62] ?_)
               simp only [go_sem]
               repeat (refine ⟨by first | with_reducible assumption | omega | (intros; first | assumption | omega) | (simp only [go_sem] at *; first | assumption | omega) | (intro _; refine (?_ : _ = bB _); rfl) | exact ⟨rfl, rfl⟩ | decide, ?_⟩)
               refine aC (bG rfl (fun hc => ?_) (fun hc => ?_))
               ·try simp only [go_sem] at hc
                have h := eC (by first | exact hc | omega | (simpa using hc) | (simp at hc ⊢; omega)) h
                obtain ⟨go, h⟩ := aF h
                refine aFq 0 (0 : Nat) rfl go rfl ?_
                simp only [go_sem]
                refine aN hF [3, 4] ?_
                simp only [go_sem]
                obtain ⟨g0, h⟩ := aF h
                repeat (refine ⟨by first | with_reducible assumption | omega | (intros; first | assumption | omega) | (simp only [go_sem] at *; first | assumption | omega) | (intro _; refine (?_ : _ = bB _); rfl) | exact ⟨rfl, rfl⟩ | decide, ?_⟩)
                obtain ⟨g0, h⟩ := aF h
                repeat (refine ⟨by first | with_reducible assumption | omega | (intros; first | assumption | omega) | (simp only [go_sem] at *; first | assumption | omega) | (intro _; refine (?_ : _ = bB _); rfl) | exact ⟨rfl, rfl⟩ | decide, ?_⟩)
                refine aFp 0 ((((((((((((r_3.2).2).2).2).2).2).2).2).1).getD (0 : Nat) (([] : List Nat), ([] : List ((List Nat) × (((List Nat) × ((List Nat) × Unit)) × (Ex × Unit)))), ([] : List ((List Nat) × (((List Nat) × ((List Nat) × Unit)) × Unit))), ([] : List (List Nat)), ([] : List ((List Nat) × (Ex × Unit))), ())).1), (((((((((((((r_3.2).2).2).2).2).2).2).2).1).getD (0 : Nat) (([] : List Nat), ([] : List ((List Nat) × (((List Nat) × ((List Nat) × Unit)) × (Ex × Unit)))), ([] : List ((List Nat) × (((List Nat) × ((List Nat) × Unit)) × Unit))), ([] : List (List Nat)), ([] : List ((List Nat) × (Ex × Unit))), ())).2).1).set (0 : Nat) (((((((((((((((r_3.2).2).2).2).2).2).2).2).1).getD (0 : Nat) (([] : List Nat), ([] : List ((List Nat) × (((List Nat) × ((List Nat) × Unit)) × (Ex × Unit)))), ([] : List ((List Nat) × (((List Nat) × ((List Nat) × Unit)) × Unit))), ([] : List (List Nat)), ([] : List ((List Nat) × (Ex × Unit))), ())).2).1).getD (0 : Nat) (([] : List Nat), (([] : List Nat), ([] : List Nat), ()), (Ex.mk 0 [] []), ())).1), ((aY ⟨#[45, 49]⟩), (aY ⟨#[45, 48, 46, 53, 101, 48]⟩), ()), ((((((((((((((((r_3.2).2).2).2).2).2).2).2).1).getD (0 : Nat) (([] : List Nat), ([] : List ((List Nat) × (((List Nat) × ((List Nat) × Unit)) × (Ex × Unit)))), ([] : List ((List Nat) × (((List Nat) × ((List Nat) × Unit)) × Unit))), ([] : List (List Nat)), ([] : List ((List Nat) × (Ex × Unit))), ())).2).1).getD (0 : Nat) (([] : List Nat), (([] : List Nat), ([] : List Nat), ()), (Ex.mk 0 [] []), ())).2).2).1), ())), (((((((((((((r_3.2).2).2).2).2).2).2).2).1).getD (0 : Nat) (([] : List Nat), ([] : List ((List Nat) × (((List Nat) × ((List Nat) × Unit)) × (Ex × Unit)))), ([] : List ((List Nat) × (((List Nat) × ((List Nat) × Unit)) × Unit))), ([] : List (List Nat)), ([] : List ((List Nat) × (Ex × Unit))), ())).2).2).1), ((((((((((((((r_3.2).2).2).2).2).2).2).2).1).getD (0 : Nat) (([] : List Nat), ([] : List ((List Nat) × (((List Nat) × ((List Nat) × Unit)) × (Ex × Unit)))), ([] : List ((List Nat) × (((List Nat) × ((List Nat) × Unit)) × Unit))), ([] : List (List Nat)), ([] : List ((List Nat) × (Ex × Unit))), ())).2).2).2).1), (((((((((((((((r_3.2).2).2).2).2).2).2).2).1).getD (0 : Nat) (([] : List Nat), ([] : List ((List Nat) × (((List Nat) × ((List Nat) × Unit)) × (Ex × Unit)))), ([] : List ((List Nat) × (((List Nat) × ((List Nat) × Unit)) × Unit))), ([] : List (List Nat)), ([] : List ((List Nat) × (Ex × Unit))), ())).2).2).2).2).1), ()) [3, 4, 5, 6] rfl (by first | rfl | (simp only [go_sem]; done)) rfl rfl ?_
                simp only [go_sem]
                refine bN (aS (mH 0 rfl ?_))
                simp only [go_sem]
                refine fH [2, 0, 1] rfl rfl ?_
                simp only [ren, fY, jC, posOf, dL, go_sem]
                refine aQ ((true, (r_3.1), ((r_3.2).1), (((r_3.2).2).1), ((((r_3.2).2).2).1), (((((r_3.2).2).2).2).1), (((((((r_3.2).2).2).2).2).2).1), ((((((((r_3.2).2).2).2).2).2).2).1), ((((((((((r_3.2).2).2).2).2).2).2).2).1).set (0 : Nat) ((((((((((((r_3.2).2).2).2).2).2).2).2).1).getD (0 : Nat) (([] : List Nat), ([] : List ((List Nat) × (((List Nat) × ((List Nat) × Unit)) × (Ex × Unit)))), ([] : List ((List Nat) × (((List Nat) × ((List Nat) × Unit)) × Unit))), ([] : List (List Nat)), ([] : List ((List Nat) × (Ex × Unit))), ())).1), (((((((((((((r_3.2).2).2).2).2).2).2).2).1).getD (0 : Nat) (([] : List Nat), ([] : List ((List Nat) × (((List Nat) × ((List Nat) × Unit)) × (Ex × Unit)))), ([] : List ((List Nat) × (((List Nat) × ((List Nat) × Unit)) × Unit))), ([] : List (List Nat)), ([] : List ((List Nat) × (Ex × Unit))), ())).2).1).set (0 : Nat) (((((((((((((((r_3.2).2).2).2).2).2).2).2).1).getD (0 : Nat) (([] : List Nat), ([] : List ((List Nat) × (((List Nat) × ((List Nat) × Unit)) × (Ex × Unit)))), ([] : List ((List Nat) × (((List Nat) × ((List Nat) × Unit)) × Unit))), ([] : List (List Nat)), ([] : List ((List Nat) × (Ex × Unit))), ())).2).1).getD (0 : Nat) (([] : List Nat), (([] : List Nat), ([] : List Nat), ()), (Ex.mk 0 [] []), ())).1), ((aY ⟨#[45, 49]⟩), (aY ⟨#[45, 48, 46, 53, 101, 48]⟩), ()), ((((((((((((((((r_3.2).2).2).2).2).2).2).2).1).getD (0 : Nat) (([] : List Nat), ([] : List ((List Nat) × (((List Nat) × ((List Nat) × Unit)) × (Ex × Unit)))), ([] : List ((List Nat) × (((List Nat) × ((List Nat) × Unit)) × Unit))), ([] : List (List Nat)), ([] : List ((List Nat) × (Ex × Unit))), ())).2).1).getD (0 : Nat) (([] : List Nat), (([] : List Nat), ([] : List Nat), ()), (Ex.mk 0 [] []), ())).2).2).1), ())), (((((((((((((r_3.2).2).2).2).2).2).2).2).1).getD (0 : Nat) (([] : List Nat), ([] : List ((List Nat) × (((List Nat) × ((List Nat) × Unit)) × (Ex × Unit)))), ([] : List ((List Nat) × (((List Nat) × ((List Nat) × Unit)) × Unit))), ([] : List (List Nat)), ([] : List ((List Nat) × (Ex × Unit))), ())).2).2).1), ((((((((((((((r_3.2).2).2).2).2).2).2).2).1).getD (0 : Nat) (([] : List Nat), ([] : List ((List Nat) × (((List Nat) × ((List Nat) × Unit)) × (Ex × Unit)))), ([] : List ((List Nat) × (((List Nat) × ((List Nat) × Unit)) × Unit))), ([] : List (List Nat)), ([] : List ((List Nat) × (Ex × Unit))), ())).2).2).2).1), (((((((((((((((r_3.2).2).2).2).2).2).2).2).1).getD (0 : Nat) (([] : List Nat), ([] : List ((List Nat) × (((List Nat) × ((List Nat) × Unit)) × (Ex × Unit)))), ([] : List ((List Nat) × (((List Nat) × ((List Nat) × Unit)) × Unit))), ([] : List (List Nat)), ([] : List ((List Nat) × (Ex × Unit))), ())).2).2).2).2).1), ())))) h rfl ?_
                ·(try simp only [fZ, eG, true_or, and_self, go_sem]) <;> (repeat' apply And.intro) <;> first | rfl | (left; rfl) | (right; rfl) | (left; simp only [go_sem]; done) | (right; simp only [go_sem]; done) | (simp; done) | (simp only [*]; done) | omega
               ·try simp only [go_sem] at hc
                have h := eD (by first | exact hc | omega | (simpa using hc) | (simp at hc ⊢; omega)) h
                refine aB (aD hF [3, 4, 72] ?_)
                simp only [go_sem]
                repeat (refine ⟨by first | with_reducible assumption | omega | (intros; first | assumption | omega) | (simp only [go_sem] at *; first | assumption | omega) | (intro _; refine (?_ : _ = bB _); rfl) | exact ⟨rfl, rfl⟩ | decide, ?_⟩)
                refine aC (bG rfl (fun hc => ?_) (fun hc => ?_))
                ·try simp only [go_sem] at hc
                 have h := eC (by first | exact hc | omega | (simpa using hc) | (simp at hc ⊢; omega)) h
                 obtain ⟨go, h⟩ := aF h
                 refine aFq 0 (0 : Nat) rfl go rfl ?_
                 simp only [go_sem]
                 refine aN hF [3, 4] ?_
                 simp only [go_sem]
                 obtain ⟨g0, h⟩ := aF h
                 repeat (refine ⟨by first | with_reducible assumption | omega | (intros; first | assumption | omega) | (simp only [go_sem] at *; first | assumption | omega) | (intro _; refine (?_ : _ = bB _); rfl) | exact ⟨rfl, rfl⟩ | decide, ?_⟩)
                 obtain ⟨g0, h⟩ := aF h
                 repeat (refine ⟨by first | with_reducible assumption | omega | (intros; first | assumption | omega) | (simp only [go_sem] at *; first | assumption | omega) | (intro _; refine (?_ : _ = bB _); rfl) | exact ⟨rfl, rfl⟩ | decide, ?_⟩)
                 refine aFp 0 ((((((((((((r_3.2).2).2).2).2).2).2).2).1).getD (0 : Nat) (([] : List Nat), ([] : List ((List Nat) × (((List Nat) × ((List Nat) × Unit)) × (Ex × Unit)))), ([] : List ((List Nat) × (((List Nat) × ((List Nat) × Unit)) × Unit))), ([] : List (List Nat)), ([] : List ((List Nat) × (Ex × Unit))), ())).1), (((((((((((((r_3.2).2).2).2).2).2).2).2).1).getD (0 : Nat) (([] : List Nat), ([] : List ((List Nat) × (((List Nat) × ((List Nat) × Unit)) × (Ex × Unit)))), ([] : List ((List Nat) × (((List Nat) × ((List Nat) × Unit)) × Unit))), ([] : List (List Nat)), ([] : List ((List Nat) × (Ex × Unit))), ())).2).1).set (0 : Nat) (((((((((((((((r_3.2).2).2).2).2).2).2).2).1).getD (0 : Nat) (([] : List Nat), ([] : List ((List Nat) × (((List Nat) × ((List Nat) × Unit)) × (Ex × Unit)))), ([] : List ((List Nat) × (((List Nat) × ((List Nat) × Unit)) × Unit))), ([] : List (List Nat)), ([] : List ((List Nat) × (Ex × Unit))), ())).2).1).getD (0 : Nat) (([] : List Nat), (([] : List Nat), ([] : List Nat), ()), (Ex.mk 0 [] []), ())).1), ((aY ⟨#[49]⟩), (aY ⟨#[48, 46, 53]⟩), ()), ((((((((((((((((r_3.2).2).2).2).2).2).2).2).1).getD (0 : Nat) (([] : List Nat), ([] : List ((List Nat) × (((List Nat) × ((List Nat) × Unit)) × (Ex × Unit)))), ([] : List ((List Nat) × (((List Nat) × ((List Nat) × Unit)) × Unit))), ([] : List (List Nat)), ([] : List ((List Nat) × (Ex × Unit))), ())).2).1).getD (0 : Nat) (([] : List Nat), (([] : List Nat), ([] : List Nat), ()), (Ex.mk 0 [] []), ())).2).2).1), ())), (((((((((((((r_3.2).2).2).2).2).2).2).2).1).getD (0 : Nat) (([] : List Nat), ([] : List ((List Nat) × (((List Nat) × ((List Nat) × Unit)) × (Ex × Unit)))), ([] : List ((List Nat) × (((List Nat) × ((List Nat) × Unit)) × Unit))), ([] : List (List Nat)), ([] : List ((List Nat) × (Ex × Unit))), ())).2).2).1), ((((((((((((((r_3.2).2).2).2).2).2).2).2).1).getD (0 : Nat) (([] : List Nat), ([] : List ((List Nat) × (((List Nat) × ((List Nat) × Unit)) × (Ex × Unit)))), ([] : List ((List Nat) × (((List Nat) × ((List Nat) × Unit)) × Unit))), ([] : List (List Nat)), ([] : List ((List Nat) × (Ex × Unit))), ())).2).2).2).1), (((((((((((((((r_3.2).2).2).2).2).2).2).2).1).getD (0 : Nat) (([] : List Nat), ([] : List ((List Nat) × (((List Nat) × ((List Nat) × Unit)) × (Ex × Unit)))), ([] : List ((List Nat) × (((List Nat) × ((List Nat) × Unit)) × Unit))), ([] : List (List Nat)), ([] : List ((List Nat) × (Ex × Unit))), ())).2).2).2).2).1), ()) [3, 4, 5, 6] rfl (by first | rfl | (simp only [go_sem]; done)) rfl rfl ?_
                 simp only [go_sem]
                 refine bN (aS (mH 0 rfl ?_))
                 simp only [go_sem]
                 refine fH [2, 0, 1] rfl rfl ?_
                 simp only [ren, fY, jC, posOf, dL, go_sem]
                 refine aQ ((false, (r_3.1), ((r_3.2).1), (((r_3.2).2).1), ((((r_3.2).2).2).1), (((((r_3.2).2).2).2).1), (((((((r_3.2).2).2).2).2).2).1), ((((((((r_3.2).2).2).2).2).2).2).1), ((((((((((r_3.2).2).2).2).2).2).2).2).1).set (0 : Nat) ((((((((((((r_3.2).2).2).2).2).2).2).2).1).getD (0 : Nat) (([] : List Nat), ([] : List ((List Nat) × (((List Nat) × ((List Nat) × Unit)) × (Ex × Unit)))), ([] : List ((List Nat) × (((List Nat) × ((List Nat) × Unit)) × Unit))), ([] : List (List Nat)), ([] : List ((List Nat) × (Ex × Unit))), ())).1), (((((((((((((r_3.2).2).2).2).2).2).2).2).1).getD (0 : Nat) (([] : List Nat), ([] : List ((List Nat) × (((List Nat) × ((List Nat) × Unit)) × (Ex × Unit)))), ([] : List ((List Nat) × (((List Nat) × ((List Nat) × Unit)) × Unit))), ([] : List (List Nat)), ([] : List ((List Nat) × (Ex × Unit))), ())).2).1).set (0 : Nat) (((((((((((((((r_3.2).2).2).2).2).2).2).2).1).getD (0 : Nat) (([] : List Nat), ([] : List ((List Nat) × (((List Nat) × ((List Nat) × Unit)) × (Ex × Unit)))), ([] : List ((List Nat) × (((List Nat) × ((List Nat) × Unit)) × Unit))), ([] : List (List Nat)), ([] : List ((List Nat) × (Ex × Unit))), ())).2).1).getD (0 : Nat) (([] : List Nat), (([] : List Nat), ([] : List Nat), ()), (Ex.mk 0 [] []), ())).1), ((aY ⟨#[49]⟩), (aY ⟨#[48, 46, 53]⟩), ()), ((((((((((((((((r_3.2).2).2).2).2).2).2).2).1).getD (0 : Nat) (([] : List Nat), ([] : List ((List Nat) × (((List Nat) × ((List Nat) × Unit)) × (Ex × Unit)))), ([] : List ((List Nat) × (((List Nat) × ((List Nat) × Unit)) × Unit))), ([] : List (List Nat)), ([] : List ((List Nat) × (Ex × Unit))), ())).2).1).getD (0 : Nat) (([] : List Nat), (([] : List Nat), ([] : List Nat), ()), (Ex.mk 0 [] []), ())).2).2).1), ())), (((((((((((((r_3.2).2).2).2).2).2).2).2).1).getD (0 : Nat) (([] : List Nat), ([] : List ((List Nat) × (((List Nat) × ((List Nat) × Unit)) × (Ex × Unit)))), ([] : List ((List Nat) × (((List Nat) × ((List Nat) × Unit)) × Unit))), ([] : List (List Nat)), ([] : List ((List Nat) × (Ex × Unit))), ())).2).2).1), ((((((((((((((r_3.2).2).2).2).2).2).2).2).1).getD (0 : Nat) (([] : List Nat), ([] : List ((List Nat) × (((List Nat) × ((List Nat) × Unit)) × (Ex × Unit)))), ([] : List ((List Nat) × (((List Nat) × ((List Nat) × Unit)) × Unit))), ([] : List (List Nat)), ([] : List ((List Nat) × (Ex × Unit))), ())).2).2).2).1), (((((((((((((((r_3.2).2).2).2).2).2).2).2).1).getD (0 : Nat) (([] : List Nat), ([] : List ((List Nat) × (((List Nat) × ((List Nat) × Unit)) × (Ex × Unit)))), ([] : List ((List Nat) × (((List Nat) × ((List Nat) × Unit)) × Unit))), ([] : List (List Nat)), ([] : List ((List Nat) × (Ex × Unit))), ())).2).2).2).2).1), ())))) h rfl ?_
                 ·(try simp only [fZ, eG, true_or, and_self, go_sem]) <;> (repeat' apply And.intro) <;> first | rfl | (left; rfl) | (right; rfl) | (left; simp only [go_sem]; done) | (right; simp only [go_sem]; done) | (simp; done) | (simp only [*]; done) | omega
                ·try simp only [go_sem] at hc
                 have h := eD (by first | exact hc | omega | (simpa using hc) | (simp at hc ⊢; omega)) h
                 obtain ⟨go, h⟩ := aF h
                 refine aFq 0 (0 : Nat) rfl go rfl ?_
                 simp only [go_sem]
                 refine aN hF [3, 4] ?_
                 simp only [go_sem]
                 obtain ⟨g0, h⟩ := aF h
                 repeat (refine ⟨by first | with_reducible assumption | omega | (intros; first | assumption | omega) | (simp only [go_sem] at *; first | assumption | omega) | (intro _; refine (?_ : _ = bB _); rfl) | exact ⟨rfl, rfl⟩ | decide, ?_⟩)
                 refine aFp 0 ((((((((((((r_3.2).2).2).2).2).2).2).2).1).getD (0 : Nat) (([] : List Nat), ([] : List ((List Nat) × (((List Nat) × ((List Nat) × Unit)) × (Ex × Unit)))), ([] : List ((List Nat) × (((List Nat) × ((List Nat) × Unit)) × Unit))), ([] : List (List Nat)), ([] : List ((List Nat) × (Ex × Unit))), ())).1), ((((((((((((r_3.2).2).2).2).2).2).2).2).1).getD (0 : Nat) (([] : List Nat), ([] : List ((List Nat) × (((List Nat) × ((List Nat) × Unit)) × (Ex × Unit)))), ([] : List ((List Nat) × (((List Nat) × ((List Nat) × Unit)) × Unit))), ([] : List (List Nat)), ([] : List ((List Nat) × (Ex × Unit))), ())).2).1), (((((((((((((r_3.2).2).2).2).2).2).2).2).1).getD (0 : Nat) (([] : List Nat), ([] : List ((List Nat) × (((List Nat) × ((List Nat) × Unit)) × (Ex × Unit)))), ([] : List ((List Nat) × (((List Nat) × ((List Nat) × Unit)) × Unit))), ([] : List (List Nat)), ([] : List ((List Nat) × (Ex × Unit))), ())).2).2).1), ([(aY ⟨#[117]⟩)] : List (List Nat)), (((((((((((((((r_3.2).2).2).2).2).2).2).2).1).getD (0 : Nat) (([] : List Nat), ([] : List ((List Nat) × (((List Nat) × ((List Nat) × Unit)) × (Ex × Unit)))), ([] : List ((List Nat) × (((List Nat) × ((List Nat) × Unit)) × Unit))), ([] : List (List Nat)), ([] : List ((List Nat) × (Ex × Unit))), ())).2).2).2).2).1), ()) [3, 4, 7, 6] rfl (by first | rfl | (simp only [go_sem]; done)) rfl rfl ?_
                 simp only [go_sem]
                 refine bN (aS (mH 0 rfl ?_))
                 simp only [go_sem]
                 refine fH [2, 0, 1] rfl rfl ?_
                 simp only [ren, fY, jC, posOf, dL, go_sem]
                 refine aQ ((false, (r_3.1), ((r_3.2).1), (((r_3.2).2).1), ((((r_3.2).2).2).1), (((((r_3.2).2).2).2).1), (((((((r_3.2).2).2).2).2).2).1), ((((((((r_3.2).2).2).2).2).2).2).1), ((((((((((r_3.2).2).2).2).2).2).2).2).1).set (0 : Nat) ((((((((((((r_3.2).2).2).2).2).2).2).2).1).getD (0 : Nat) (([] : List Nat), ([] : List ((List Nat) × (((List Nat) × ((List Nat) × Unit)) × (Ex × Unit)))), ([] : List ((List Nat) × (((List Nat) × ((List Nat) × Unit)) × Unit))), ([] : List (List Nat)), ([] : List ((List Nat) × (Ex × Unit))), ())).1), ((((((((((((r_3.2).2).2).2).2).2).2).2).1).getD (0 : Nat) (([] : List Nat), ([] : List ((List Nat) × (((List Nat) × ((List Nat) × Unit)) × (Ex × Unit)))), ([] : List ((List Nat) × (((List Nat) × ((List Nat) × Unit)) × Unit))), ([] : List (List Nat)), ([] : List ((List Nat) × (Ex × Unit))), ())).2).1), (((((((((((((r_3.2).2).2).2).2).2).2).2).1).getD (0 : Nat) (([] : List Nat), ([] : List ((List Nat) × (((List Nat) × ((List Nat) × Unit)) × (Ex × Unit)))), ([] : List ((List Nat) × (((List Nat) × ((List Nat) × Unit)) × Unit))), ([] : List (List Nat)), ([] : List ((List Nat) × (Ex × Unit))), ())).2).2).1), ([(aY ⟨#[117]⟩)] : List (List Nat)), (((((((((((((((r_3.2).2).2).2).2).2).2).2).1).getD (0 : Nat) (([] : List Nat), ([] : List ((List Nat) × (((List Nat) × ((List Nat) × Unit)) × (Ex × Unit)))), ([] : List ((List Nat) × (((List Nat) × ((List Nat) × Unit)) × Unit))), ([] : List (List Nat)), ([] : List ((List Nat) × (Ex × Unit))), ())).2).2).2).2).1), ())))) h rfl ?_
                 ·(try simp only [fZ, eG, true_or, and_self, go_sem]) <;> (repeat' apply And.intro) <;> first | rfl | (left; rfl) | (right; rfl) | (left; simp only [go_sem]; done) | (right; simp only [go_sem]; done) | (simp; done) | (simp only [*]; done) | omega
 ·rintro ⟨may_4, s_5, s_6, s_7, s_8, s_9, s_10, s_11, x_12⟩ h
  try dsimp only at h
  simp only [go_sem]
  unfold bC at h
  refine aB (aD hF [2] ?_)
  simp only [go_sem]
  obtain ⟨g0, h⟩ := aF h
  obtain ⟨g1, h⟩ := aF h
  repeat (refine ⟨by first | with_reducible assumption | omega | (intros; first | assumption | omega) | (simp only [go_sem] at *; first | assumption | omega) | (intro _; refine (?_ : _ = bB _); rfl) | exact ⟨rfl, rfl⟩ | (intro q0; (try have e1 := g1 (by first | exact q0 | omega | (simpa using q0))); first | assumption | omega) | decide, ?_⟩)
  obtain rfl := Option.some.inj h
  refine aC (cY (fG hF [.tmp 2] rfl rfl rfl ?_))
  (try simp only [iB, aV, go_sem]) <;> first | rfl | (simp; done)
attribute [go_sem] wG
end Nu
end Go.Proofs
namespace Go.Proofs
open Go.Vc
set_option maxRecDepth 100000
namespace Nu
theorem aMo {f : Nat → Option Bool} (n : Nat) (h : (List.range n).all (fun k => f k == some true) = true) : ∀ k, k < n → f k = some true := fun k hk => by
 have := List.all_eq_true.1 h k (List.mem_range.2 hk)
 simpa using this
theorem aHd (what : Int) : jZ (some 1000) what = some true := by
 unfold jZ
 have hk : (what % 18446744073709551616).toNat % 16 < 16 := Nat.mod_lt _ (by decide)
 generalize (what % 18446744073709551616).toNat % 16 = k at *
 revert k
 refine aMo 16 ?_
 kernel_rfl
end Nu
end Go.Proofs
