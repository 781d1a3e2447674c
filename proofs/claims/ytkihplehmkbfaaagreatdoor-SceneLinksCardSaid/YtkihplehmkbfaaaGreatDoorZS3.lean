import Derived.Test.YtkihplehmkbfaaaGreatDoorZS2
import Derived.Test.YtkihplehmkbfaaaGreatDoorZL6
set_option linter.unusedVariables false
set_option linter.unusedSimpArgs false
namespace Go.Proofs
open Go.Vc
set_option maxRecDepth 20000
namespace Nu
attribute [-go_sem] Ex.kind Ex.text Ex.l
noncomputable def cU (F : Md) (r_3 : (Int × (Int × (Int × (Int × ((List Nat) × ((List Nat) × ((List Nat) × ((List Nat) × ((List ((List Nat) × ((List ((List Nat) × (((List Nat) × ((List Nat) × Unit)) × (Ex × Unit)))) × ((List ((List Nat) × (((List Nat) × ((List Nat) × Unit)) × Unit))) × ((List (List Nat)) × ((List ((List Nat) × (Ex × Unit))) × Unit)))))) × ((List ((List Nat) × ((List Nat) × ((List Nat) × ((List Nat) × Unit))))) × Unit))))))))))) (x_6 : (List ((List Nat) × ((List ((List Nat) × (((List Nat) × ((List Nat) × Unit)) × (Ex × Unit)))) × ((List ((List Nat) × (((List Nat) × ((List Nat) × Unit)) × Unit))) × ((List (List Nat)) × ((List ((List Nat) × (Ex × Unit))) × Unit))))))) (may_7 : Bool) (x_8 : (List ((List Nat) × ((List Nat) × ((List Nat) × ((List Nat) × Unit)))))) : Option (Bool) :=
 ck ((pT F).isSome = true) (ck ((((pT F).getD false) = true) → ((bQ F (r_3.1, r_3.2.1, r_3.2.2.1, r_3.2.2.2.1, r_3.2.2.2.2.1, r_3.2.2.2.2.2.1, r_3.2.2.2.2.2.2.1, r_3.2.2.2.2.2.2.2.1, x_6, x_8, ())).isSome = true)) (some (((pT F).getD false) && (((bQ F (r_3.1, r_3.2.1, r_3.2.2.1, r_3.2.2.2.1, r_3.2.2.2.2.1, r_3.2.2.2.2.2.1, r_3.2.2.2.2.2.2.1, r_3.2.2.2.2.2.2.2.1, x_6, x_8, ())).getD false) == may_7))))
noncomputable def lI (F : Md) (what_0 : Int) (r_3 : (Int × (Int × (Int × (Int × ((List Nat) × ((List Nat) × ((List Nat) × ((List Nat) × ((List ((List Nat) × ((List ((List Nat) × (((List Nat) × ((List Nat) × Unit)) × (Ex × Unit)))) × ((List ((List Nat) × (((List Nat) × ((List Nat) × Unit)) × Unit))) × ((List (List Nat)) × ((List ((List Nat) × (Ex × Unit))) × Unit)))))) × ((List ((List Nat) × ((List Nat) × ((List Nat) × ((List Nat) × Unit))))) × Unit))))))))))) (x_6 : (List ((List Nat) × ((List ((List Nat) × (((List Nat) × ((List Nat) × Unit)) × (Ex × Unit)))) × ((List ((List Nat) × (((List Nat) × ((List Nat) × Unit)) × Unit))) × ((List (List Nat)) × ((List ((List Nat) × (Ex × Unit))) × Unit))))))) : Option (Bool) :=
 if (IntKind.i64.wrap ((((what_0 % (18446744073709551616 : Int)).toNat % (7 : Nat)) : Nat) : Int)) = (0 : Int) then cU F r_3 x_6 true ([((aH ⟨#[97]⟩), (aH ⟨#[117]⟩), (aH ⟨#[98]⟩), (aH ⟨#[121]⟩), ()), ((aH ⟨#[98]⟩), (aH ⟨#[117]⟩), (aH ⟨#[97]⟩), (aH ⟨#[121]⟩), ())] : List ((List Nat) × ((List Nat) × ((List Nat) × ((List Nat) × Unit))))) else if (IntKind.i64.wrap ((((what_0 % (18446744073709551616 : Int)).toNat % (7 : Nat)) : Nat) : Int)) = (1 : Int) then cU F r_3 x_6 false ([((aH ⟨#[98]⟩), (aH ⟨#[117]⟩), (aH ⟨#[97]⟩), (aH ⟨#[121]⟩), ()), ((aH ⟨#[97]⟩), (aH ⟨#[117]⟩), (aH ⟨#[98]⟩), (aH ⟨#[121]⟩), ())] : List ((List Nat) × ((List Nat) × ((List Nat) × ((List Nat) × Unit))))) else if (IntKind.i64.wrap ((((what_0 % (18446744073709551616 : Int)).toNat % (7 : Nat)) : Nat) : Int)) = (2 : Int) then cU F r_3 x_6 false ([((aH ⟨#[97]⟩), (aH ⟨#[117]⟩), (aH ⟨#[98]⟩), (aH ⟨#[121]⟩), ())] : List ((List Nat) × ((List Nat) × ((List Nat) × ((List Nat) × Unit))))) else if (IntKind.i64.wrap ((((what_0 % (18446744073709551616 : Int)).toNat % (7 : Nat)) : Nat) : Int)) = (3 : Int) then cU F r_3 x_6 false ([((aH ⟨#[97]⟩), (aH ⟨#[117]⟩), (aH ⟨#[98]⟩), (aH ⟨#[121]⟩), ()), ((aH ⟨#[98]⟩), (aH ⟨#[117]⟩), (aH ⟨#[97]⟩), (aH ⟨#[121]⟩), ()), ((aH ⟨#[98]⟩), (aH ⟨#[117]⟩), (aH ⟨#[97]⟩), (aH ⟨#[121]⟩), ())] : List ((List Nat) × ((List Nat) × ((List Nat) × ((List Nat) × Unit))))) else if (IntKind.i64.wrap ((((what_0 % (18446744073709551616 : Int)).toNat % (7 : Nat)) : Nat) : Int)) = (4 : Int) then cU F r_3 x_6 false ([((aH ⟨#[97]⟩), (aH ⟨#[117]⟩), (aH ⟨#[98]⟩), (aH ⟨#[121]⟩), ()), ((aH ⟨#[98]⟩), (aH ⟨#[117]⟩), (aH ⟨#[97]⟩), (aH ⟨#[120]⟩), ())] : List ((List Nat) × ((List Nat) × ((List Nat) × ((List Nat) × Unit))))) else if (IntKind.i64.wrap ((((what_0 % (18446744073709551616 : Int)).toNat % (7 : Nat)) : Nat) : Int)) = (5 : Int) then cU F r_3 x_6 false ([((aH ⟨#[97]⟩), (aH ⟨#[117]⟩), (aH ⟨#[98]⟩), (aH ⟨#[121]⟩), ()), ((aH ⟨#[98]⟩), (aH ⟨#[117]⟩), (aH ⟨#[99]⟩), (aH ⟨#[121]⟩), ())] : List ((List Nat) × ((List Nat) × ((List Nat) × ((List Nat) × Unit))))) else cU F r_3 x_6 true ([((aH ⟨#[97]⟩), (aH ⟨#[117]⟩), (aH ⟨#[98]⟩), (aH ⟨#[121]⟩), ()), ((aH ⟨#[98]⟩), (aH ⟨#[117]⟩), (aH ⟨#[98]⟩), (aH ⟨#[121]⟩), ())] : List ((List Nat) × ((List Nat) × ((List Nat) × ((List Nat) × Unit)))))
noncomputable def lJ (F : Md) (what_0 : Int) (r_3 : (Int × (Int × (Int × (Int × ((List Nat) × ((List Nat) × ((List Nat) × ((List Nat) × ((List ((List Nat) × ((List ((List Nat) × (((List Nat) × ((List Nat) × Unit)) × (Ex × Unit)))) × ((List ((List Nat) × (((List Nat) × ((List Nat) × Unit)) × Unit))) × ((List (List Nat)) × ((List ((List Nat) × (Ex × Unit))) × Unit)))))) × ((List ((List Nat) × ((List Nat) × ((List Nat) × ((List Nat) × Unit))))) × Unit))))))))))) (x_5 : (List ((List Nat) × ((List ((List Nat) × (((List Nat) × ((List Nat) × Unit)) × (Ex × Unit)))) × ((List ((List Nat) × (((List Nat) × ((List Nat) × Unit)) × Unit))) × ((List (List Nat)) × ((List ((List Nat) × (Ex × Unit))) × Unit))))))) : Option (Bool) :=
 ck ((0 : Int) < (((x_5.length) : Nat) : Int)) (ck ((1 : Int) < (((x_5.set (0 : Nat) ((x_5.getD (0 : Nat) ([], [], [], [], [], ())).1, (x_5.getD (0 : Nat) ([], [], [], [], [], ())).2.1, (x_5.getD (0 : Nat) ([], [], [], [], [], ())).2.2.1, ([(aH ⟨#[117]⟩)] : List (List Nat)), (x_5.getD (0 : Nat) ([], [], [], [], [], ())).2.2.2.2.1, ())).length : Nat) : Int)) (lI F what_0 r_3 ((x_5.set (0 : Nat) ((x_5.getD (0 : Nat) ([], [], [], [], [], ())).1, (x_5.getD (0 : Nat) ([], [], [], [], [], ())).2.1, (x_5.getD (0 : Nat) ([], [], [], [], [], ())).2.2.1, ([(aH ⟨#[117]⟩)] : List (List Nat)), (x_5.getD (0 : Nat) ([], [], [], [], [], ())).2.2.2.2.1, ())).set (1 : Nat) (((x_5.set (0 : Nat) ((x_5.getD (0 : Nat) ([], [], [], [], [], ())).1, (x_5.getD (0 : Nat) ([], [], [], [], [], ())).2.1, (x_5.getD (0 : Nat) ([], [], [], [], [], ())).2.2.1, ([(aH ⟨#[117]⟩)] : List (List Nat)), (x_5.getD (0 : Nat) ([], [], [], [], [], ())).2.2.2.2.1, ())).getD (1 : Nat) ([], [], [], [], [], ())).1, ((x_5.set (0 : Nat) ((x_5.getD (0 : Nat) ([], [], [], [], [], ())).1, (x_5.getD (0 : Nat) ([], [], [], [], [], ())).2.1, (x_5.getD (0 : Nat) ([], [], [], [], [], ())).2.2.1, ([(aH ⟨#[117]⟩)] : List (List Nat)), (x_5.getD (0 : Nat) ([], [], [], [], [], ())).2.2.2.2.1, ())).getD (1 : Nat) ([], [], [], [], [], ())).2.1, ((x_5.set (0 : Nat) ((x_5.getD (0 : Nat) ([], [], [], [], [], ())).1, (x_5.getD (0 : Nat) ([], [], [], [], [], ())).2.1, (x_5.getD (0 : Nat) ([], [], [], [], [], ())).2.2.1, ([(aH ⟨#[117]⟩)] : List (List Nat)), (x_5.getD (0 : Nat) ([], [], [], [], [], ())).2.2.2.2.1, ())).getD (1 : Nat) ([], [], [], [], [], ())).2.2.1, ([(aH ⟨#[117]⟩)] : List (List Nat)), ((x_5.set (0 : Nat) ((x_5.getD (0 : Nat) ([], [], [], [], [], ())).1, (x_5.getD (0 : Nat) ([], [], [], [], [], ())).2.1, (x_5.getD (0 : Nat) ([], [], [], [], [], ())).2.2.1, ([(aH ⟨#[117]⟩)] : List (List Nat)), (x_5.getD (0 : Nat) ([], [], [], [], [], ())).2.2.2.2.1, ())).getD (1 : Nat) ([], [], [], [], [], ())).2.2.2.2.1, ()))))
noncomputable def lK (F : Md) (r_3 : (Int × (Int × (Int × (Int × ((List Nat) × ((List Nat) × ((List Nat) × ((List Nat) × ((List ((List Nat) × ((List ((List Nat) × (((List Nat) × ((List Nat) × Unit)) × (Ex × Unit)))) × ((List ((List Nat) × (((List Nat) × ((List Nat) × Unit)) × Unit))) × ((List (List Nat)) × ((List ((List Nat) × (Ex × Unit))) × Unit)))))) × ((List ((List Nat) × ((List Nat) × ((List Nat) × ((List Nat) × Unit))))) × Unit))))))))))) (what_0 : Int) (t_4 : ((List Nat) × ((List ((List Nat) × (((List Nat) × ((List Nat) × Unit)) × (Ex × Unit)))) × ((List ((List Nat) × (((List Nat) × ((List Nat) × Unit)) × Unit))) × ((List (List Nat)) × ((List ((List Nat) × (Ex × Unit))) × Unit)))))) : Option (Bool) :=
 ck (((r_3.2.2.2.2.2.2.2.2.1.length) + (1 : Nat)) * 121 ≤ 140737488355328) (lJ F what_0 r_3 (r_3.2.2.2.2.2.2.2.2.1 ++ ([((aH ⟨#[98]⟩), t_4.2.1, t_4.2.2.1, t_4.2.2.2.1, t_4.2.2.2.2.1, ())] : List ((List Nat) × ((List ((List Nat) × (((List Nat) × ((List Nat) × Unit)) × (Ex × Unit)))) × ((List ((List Nat) × (((List Nat) × ((List Nat) × Unit)) × Unit))) × ((List (List Nat)) × ((List ((List Nat) × (Ex × Unit))) × Unit))))))))
noncomputable def lD (F : Md) (what_0 : Int) : Option Bool :=
 (iH F).bind (fun r_3 => ck ((dY F).isSome = true) (ck ((0 : Int) < ((((dY F).getD ((0 : Int), (0 : Int), (0 : Int), (0 : Int), ([] : List Nat), ([] : List Nat), ([] : List Nat), ([] : List Nat), ([] : List ((List Nat) × ((List ((List Nat) × (((List Nat) × ((List Nat) × Unit)) × (Ex × Unit)))) × ((List ((List Nat) × (((List Nat) × ((List Nat) × Unit)) × Unit))) × ((List (List Nat)) × ((List ((List Nat) × (Ex × Unit))) × Unit)))))), ([] : List ((List Nat) × ((List Nat) × ((List Nat) × ((List Nat) × Unit))))), ())).2.2.2.2.2.2.2.2.1.length : Nat) : Int)) (lK F r_3 what_0 (((dY F).getD ((0 : Int), (0 : Int), (0 : Int), (0 : Int), ([] : List Nat), ([] : List Nat), ([] : List Nat), ([] : List Nat), ([] : List ((List Nat) × ((List ((List Nat) × (((List Nat) × ((List Nat) × Unit)) × (Ex × Unit)))) × ((List ((List Nat) × (((List Nat) × ((List Nat) × Unit)) × Unit))) × ((List (List Nat)) × ((List ((List Nat) × (Ex × Unit))) × Unit)))))), ([] : List ((List Nat) × ((List Nat) × ((List Nat) × ((List Nat) × Unit))))), ())).2.2.2.2.2.2.2.2.1.getD (0 : Nat) ([], [], [], [], [], ())))))
def iI : Ty := .pair (.i .i64) .unit
attribute [go_sem] iI
noncomputable def wV (F : Md) : aG := mSpec iI (.one .bool) (fun x => lD F x.1)
noncomputable def lE (F : Md) : List (FuncId × aG) := [(24, (vP F)), (27, (mV F)), (28, (pQ F))]
theorem zM (F : Md) : bD Tryz.prog GL (lE F) := .cons (aKP F) (by kernel_rfl) (.cons (aDh F) (by kernel_rfl) (.cons (aF7 F) (by kernel_rfl) (.nil)))
theorem aCs (F : Md) : gam (lE F) 24 = some (vP F) := rfl
attribute [go_sem] aCs
theorem aCt (F : Md) : gam (lE F) 27 = some (mV F) := rfl
attribute [go_sem] aCt
theorem aCu (F : Md) : gam (lE F) 28 = some (pQ F) := rfl
attribute [go_sem] aCu
set_option maxHeartbeats 4000000 in
theorem aDF (F : Md) : FOK Tryz.prog GL 7 (wV F) := by
 refine lU (aLl (zM F)) Tryz.func7 rfl (by kernel_rfl) (by decide) fun w0 S x r hw h => ?_
 have hF : jP (fr Tryz.prog (EX (lE F)) S w0 Tryz.f7.ntmps) := ⟨aLl (zM F), mix⟩
 obtain ⟨(what_0 : Int), u⟩ := x
 simp only [iI, Ty.wf, nA] at hw
 simp only [bL, iI]
 try dsimp only at h
 replace h : lD F what_0 = some r := h
 unfold lD at h
 refine aB (aD hF [0] ?_)
 simp only [go_sem]
 repeat (refine ⟨zAA, ?_⟩)
 obtain ⟨r_3, he1, h⟩ := bind_some h
 try dsimp only at h
 refine aC (aB (bT hF (eC (l := [(27, ⟨gZ F, [], r_3⟩)]) (.cons (qD F) (by kernel_rfl) (.nil))) [0, 3] [] ?_))
 simp only [go_sem]
 repeat (refine ⟨zAA, ?_⟩)
 refine aC (lT (D := ((List Nat) × ((List ((List Nat) × (((List Nat) × ((List Nat) × Unit)) × (Ex × Unit)))) × ((List ((List Nat) × (((List Nat) × ((List Nat) × Unit)) × Unit))) × ((List (List Nat)) × ((List ((List Nat) × (Ex × Unit))) × Unit)))))) (fun d => lK F r_3 what_0 d = some r) [0] (fun d => [(3, .ptr 0 []), (4, .ptr 3 [])]) (fun d => [.inr (.box 10 (.agg [.val (.i .i64) r_3.1, .val (.i .i64) r_3.2.1, .val (.i .i64) r_3.2.2.1, .val (.i .i64) r_3.2.2.2.1, .val .str r_3.2.2.2.2.1, .val .str r_3.2.2.2.2.2.1, .val .str r_3.2.2.2.2.2.2.1, .val .str r_3.2.2.2.2.2.2.2.1, .own 1, .own 2])), .inr (.tre 60 (.pair .no (.pair (.sl 64 .no) (.pair (.sl 71 .no) (.pair (.sl 9 .no) (.pair (.sl 73 .no) .no))))) (.pair .str (.pair (.sl (.pair .str (.pair (.pair .str (.pair .str .unit)) (.pair .expr .unit)))) (.pair (.sl (.pair .str (.pair (.pair .str (.pair .str .unit)) .unit))) (.pair (.sl .str) (.pair (.sl (.pair .str (.pair .expr .unit))) .unit))))) r_3.2.2.2.2.2.2.2.2.1), .inr (.row 68 (.pair .str (.pair .str (.pair .str (.pair .str .unit)))) r_3.2.2.2.2.2.2.2.2.2.1), .inr (.box 5 (.val (.pair .str (.pair (.sl (.pair .str (.pair (.pair .str (.pair .str .unit)) (.pair .expr .unit)))) (.pair (.sl (.pair .str (.pair (.pair .str (.pair .str .unit)) .unit))) (.pair (.sl .str) (.pair (.sl (.pair .str (.pair .expr .unit))) .unit))))) d))]) ?_ ?_)
 ·refine aO hF [0, 3, 4] ?_
  simp only [go_sem]
  obtain ⟨g0, h⟩ := aT h
  repeat (refine ⟨zAA, ?_⟩)
  obtain ⟨g0, h⟩ := aT h
  repeat (refine ⟨zAA, ?_⟩)
  refine bE (gQ [2, 0, 1, 3] rfl rfl ?_)
  simp only [ren, gP, kA, posOf, eB, go_sem]
  refine aS (((dY F).getD ((0 : Int), (0 : Int), (0 : Int), (0 : Int), ([] : List Nat), ([] : List Nat), ([] : List Nat), ([] : List Nat), ([] : List ((List Nat) × ((List ((List Nat) × (((List Nat) × ((List Nat) × Unit)) × (Ex × Unit)))) × ((List ((List Nat) × (((List Nat) × ((List Nat) × Unit)) × Unit))) × ((List (List Nat)) × ((List ((List Nat) × (Ex × Unit))) × Unit)))))), ([] : List ((List Nat) × ((List Nat) × ((List Nat) × ((List Nat) × Unit))))), ())).2.2.2.2.2.2.2.2.1.getD (0 : Nat) ([], [], [], [], [], ())) h rfl ?_
  ·exact zAF
 ·rintro t_4 h
  try dsimp only at h
  simp only [go_sem]
  unfold lK at h
  refine aB (aO hF [0, 3, 4] ?_)
  simp only [go_sem]
  repeat (refine ⟨zAA, ?_⟩)
  refine aC (lT (D := (List ((List Nat) × ((List ((List Nat) × (((List Nat) × ((List Nat) × Unit)) × (Ex × Unit)))) × ((List ((List Nat) × (((List Nat) × ((List Nat) × Unit)) × Unit))) × ((List (List Nat)) × ((List ((List Nat) × (Ex × Unit))) × Unit))))))) (fun d => lJ F what_0 r_3 d = some r) [0] (fun d => [(3, .ptr 0 [])]) (fun d => [.inr (.box 10 (.agg [.val (.i .i64) r_3.1, .val (.i .i64) r_3.2.1, .val (.i .i64) r_3.2.2.1, .val (.i .i64) r_3.2.2.2.1, .val .str r_3.2.2.2.2.1, .val .str r_3.2.2.2.2.2.1, .val .str r_3.2.2.2.2.2.2.1, .val .str r_3.2.2.2.2.2.2.2.1, .own 1, .own 2])), .inr (.row 60 (.pair .str (.pair (.sl (.pair .str (.pair (.pair .str (.pair .str .unit)) (.pair .expr .unit)))) (.pair (.sl (.pair .str (.pair (.pair .str (.pair .str .unit)) .unit))) (.pair (.sl .str) (.pair (.sl (.pair .str (.pair .expr .unit))) .unit))))) d), .inr (.row 68 (.pair .str (.pair .str (.pair .str (.pair .str .unit)))) r_3.2.2.2.2.2.2.2.2.2.1)]) ?_ ?_)
  ·refine aQa 1 rfl ?_
   simp only [go_sem]
   refine aO hF [0, 3] ?_
   simp only [go_sem]
   obtain ⟨g0, h⟩ := aT h
   repeat (refine ⟨zAA, ?_⟩)
   refine bE (gQ [0, 4, 2] rfl rfl ?_)
   simp only [ren, gP, kA, posOf, eB, go_sem]
   refine aS (r_3.2.2.2.2.2.2.2.2.1 ++ ([((aH ⟨#[98]⟩), t_4.2.1, t_4.2.2.1, t_4.2.2.2.1, t_4.2.2.2.2.1, ())] : List ((List Nat) × ((List ((List Nat) × (((List Nat) × ((List Nat) × Unit)) × (Ex × Unit)))) × ((List ((List Nat) × (((List Nat) × ((List Nat) × Unit)) × Unit))) × ((List (List Nat)) × ((List ((List Nat) × (Ex × Unit))) × Unit))))))) h rfl ?_
   ·exact zAF
  ·rintro x_5 h
   try dsimp only at h
   simp only [go_sem]
   unfold lJ at h
   refine lT (D := (List ((List Nat) × ((List ((List Nat) × (((List Nat) × ((List Nat) × Unit)) × (Ex × Unit)))) × ((List ((List Nat) × (((List Nat) × ((List Nat) × Unit)) × Unit))) × ((List (List Nat)) × ((List ((List Nat) × (Ex × Unit))) × Unit))))))) (fun d => lI F what_0 r_3 d = some r) [0] (fun d => [(3, .ptr 0 [])]) (fun d => [.inr (.box 10 (.agg [.val (.i .i64) r_3.1, .val (.i .i64) r_3.2.1, .val (.i .i64) r_3.2.2.1, .val (.i .i64) r_3.2.2.2.1, .val .str r_3.2.2.2.2.1, .val .str r_3.2.2.2.2.2.1, .val .str r_3.2.2.2.2.2.2.1, .val .str r_3.2.2.2.2.2.2.2.1, .own 1, .own 2])), .inr (.row 60 (.pair .str (.pair (.sl (.pair .str (.pair (.pair .str (.pair .str .unit)) (.pair .expr .unit)))) (.pair (.sl (.pair .str (.pair (.pair .str (.pair .str .unit)) .unit))) (.pair (.sl .str) (.pair (.sl (.pair .str (.pair .expr .unit))) .unit))))) d), .inr (.row 68 (.pair .str (.pair .str (.pair .str (.pair .str .unit)))) r_3.2.2.2.2.2.2.2.2.2.1)]) ?_ ?_
   ·obtain ⟨g0, h⟩ := aT h
    obtain ⟨g1, h⟩ := aT h
    refine aMR hF [0, 3] [0, 3] [.v 20 (.ptr 0 [.fld 8 8]), .v 21 (.own 1), .v 22 (.ptr 0 [.fld 8 8]), .v 23 (.own 1), .mk 24 (.row 9 .str ([(aH ⟨#[117]⟩)] : List (List Nat))), .mk 25 (.row 9 .str ([(aH ⟨#[117]⟩)] : List (List Nat))), .v 26 (.ptr 1 [.idx 5 (0 : Nat)]), .v 27 (.ptr 1 [.idx 5 (0 : Nat), .fld 3 3]), .st 1 (.row 60 (.pair .str (.pair (.sl (.pair .str (.pair (.pair .str (.pair .str .unit)) (.pair .expr .unit)))) (.pair (.sl (.pair .str (.pair (.pair .str (.pair .str .unit)) .unit))) (.pair (.sl .str) (.pair (.sl (.pair .str (.pair .expr .unit))) .unit))))) (x_5.set (0 : Nat) ((x_5.getD (0 : Nat) ([], [], [], [], [], ())).1, (x_5.getD (0 : Nat) ([], [], [], [], [], ())).2.1, (x_5.getD (0 : Nat) ([], [], [], [], [], ())).2.2.1, ([(aH ⟨#[117]⟩)] : List (List Nat)), (x_5.getD (0 : Nat) ([], [], [], [], [], ())).2.2.2.2.1, ()))), .v 28 (.ptr 1 [.idx 5 (1 : Nat)]), .v 29 (.ptr 1 [.idx 5 (1 : Nat), .fld 3 3]), .st 1 (.row 60 (.pair .str (.pair (.sl (.pair .str (.pair (.pair .str (.pair .str .unit)) (.pair .expr .unit)))) (.pair (.sl (.pair .str (.pair (.pair .str (.pair .str .unit)) .unit))) (.pair (.sl .str) (.pair (.sl (.pair .str (.pair .expr .unit))) .unit))))) ((x_5.set (0 : Nat) ((x_5.getD (0 : Nat) ([], [], [], [], [], ())).1, (x_5.getD (0 : Nat) ([], [], [], [], [], ())).2.1, (x_5.getD (0 : Nat) ([], [], [], [], [], ())).2.2.1, ([(aH ⟨#[117]⟩)] : List (List Nat)), (x_5.getD (0 : Nat) ([], [], [], [], [], ())).2.2.2.2.1, ())).set (1 : Nat) (((x_5.set (0 : Nat) ((x_5.getD (0 : Nat) ([], [], [], [], [], ())).1, (x_5.getD (0 : Nat) ([], [], [], [], [], ())).2.1, (x_5.getD (0 : Nat) ([], [], [], [], [], ())).2.2.1, ([(aH ⟨#[117]⟩)] : List (List Nat)), (x_5.getD (0 : Nat) ([], [], [], [], [], ())).2.2.2.2.1, ())).getD (1 : Nat) ([], [], [], [], [], ())).1, ((x_5.set (0 : Nat) ((x_5.getD (0 : Nat) ([], [], [], [], [], ())).1, (x_5.getD (0 : Nat) ([], [], [], [], [], ())).2.1, (x_5.getD (0 : Nat) ([], [], [], [], [], ())).2.2.1, ([(aH ⟨#[117]⟩)] : List (List Nat)), (x_5.getD (0 : Nat) ([], [], [], [], [], ())).2.2.2.2.1, ())).getD (1 : Nat) ([], [], [], [], [], ())).2.1, ((x_5.set (0 : Nat) ((x_5.getD (0 : Nat) ([], [], [], [], [], ())).1, (x_5.getD (0 : Nat) ([], [], [], [], [], ())).2.1, (x_5.getD (0 : Nat) ([], [], [], [], [], ())).2.2.1, ([(aH ⟨#[117]⟩)] : List (List Nat)), (x_5.getD (0 : Nat) ([], [], [], [], [], ())).2.2.2.2.1, ())).getD (1 : Nat) ([], [], [], [], [], ())).2.2.1, ([(aH ⟨#[117]⟩)] : List (List Nat)), ((x_5.set (0 : Nat) ((x_5.getD (0 : Nat) ([], [], [], [], [], ())).1, (x_5.getD (0 : Nat) ([], [], [], [], [], ())).2.1, (x_5.getD (0 : Nat) ([], [], [], [], [], ())).2.2.1, ([(aH ⟨#[117]⟩)] : List (List Nat)), (x_5.getD (0 : Nat) ([], [], [], [], [], ())).2.2.2.2.1, ())).getD (1 : Nat) ([], [], [], [], [], ())).2.2.2.2.1, ())))] [(8, 4, .frz .str ([(aH ⟨#[117]⟩)] : List (List Nat))), (11, 5, .frz .str ([(aH ⟨#[117]⟩)] : List (List Nat)))] [([false, false, false, false, false, false, false, false, false, false, false, false], [0, 2, 4, 5]), ([true, false, false, false, false, false, false, false, false, false, false, false], [1, 2, 4, 5]), ([false, false, true, false, false, false, false, false, false, false, false, false], [0, 3, 4, 5]), ([false, false, false, false, true, false, false, false, false, false, false, false], [0, 2, 5]), ([false, false, false, false, false, true, false, false, false, false, false, false], [0, 2, 4]), ([true, true, false, false, false, false, false, false, false, false, false, false], [2, 4, 5]), ([true, false, true, false, false, false, false, false, false, false, false, false], [1, 3, 4, 5]), ([true, false, false, false, true, false, false, false, false, false, false, false], [1, 2, 5]), ([true, false, false, false, false, true, false, false, false, false, false, false], [1, 2, 4]), ([false, false, true, true, false, false, false, false, false, false, false, false], [0, 4, 5]), ([false, false, true, false, true, false, false, false, false, false, false, false], [0, 3, 5]), ([false, false, true, false, false, true, false, false, false, false, false, false], [0, 3, 4]), ([false, false, false, false, true, true, false, false, false, false, false, false], [0, 2]), ([true, true, true, false, false, false, false, false, false, false, false, false], [3, 4, 5]), ([true, true, false, false, true, false, false, false, false, false, false, false], [2, 5, 6]), ([true, true, false, false, false, true, false, false, false, false, false, false], [2, 4]), ([true, false, true, true, false, false, false, false, false, false, false, false], [1, 4, 5]), ([true, false, true, false, true, false, false, false, false, false, false, false], [1, 3, 5]), ([true, false, true, false, false, true, false, false, false, false, false, false], [1, 3, 4]), ([true, false, false, false, true, true, false, false, false, false, false, false], [1, 2]), ([false, false, true, true, true, false, false, false, false, false, false, false], [0, 5]), ([false, false, true, true, false, true, false, false, false, false, false, false], [0, 4]), ([false, false, true, false, true, true, false, false, false, false, false, false], [0, 3]), ([true, true, true, true, false, false, false, false, false, false, false, false], [4, 5]), ([true, true, true, false, true, false, false, false, false, false, false, false], [3, 5, 6]), ([true, true, true, false, false, true, false, false, false, false, false, false], [3, 4]), ([true, true, false, false, true, true, false, false, false, false, false, false], [2, 6]), ([true, true, false, false, true, false, true, false, false, false, false, false], [2, 5, 7]), ([true, false, true, true, true, false, false, false, false, false, false, false], [1, 5]), ([true, false, true, true, false, true, false, false, false, false, false, false], [1, 4]), ([true, false, true, false, true, true, false, false, false, false, false, false], [1, 3]), ([false, false, true, true, true, true, false, false, false, false, false, false], [0]), ([true, true, true, true, true, false, false, false, false, false, false, false], [5, 6]), ([true, true, true, true, false, true, false, false, false, false, false, false], [4]), ([true, true, true, false, true, true, false, false, false, false, false, false], [3, 6]), ([true, true, true, false, true, false, true, false, false, false, false, false], [3, 5, 7]), ([true, true, false, false, true, true, true, false, false, false, false, false], [2, 7]), ([true, true, false, false, true, false, true, true, false, false, false, false], [2, 5, 8]), ([true, false, true, true, true, true, false, false, false, false, false, false], [1]), ([true, true, true, true, true, true, false, false, false, false, false, false], [6]), ([true, true, true, true, true, false, true, false, false, false, false, false], [5, 7]), ([true, true, true, false, true, true, true, false, false, false, false, false], [3, 7]), ([true, true, true, false, true, false, true, true, false, false, false, false], [3, 5, 8]), ([true, true, false, false, true, true, true, true, false, false, false, false], [2, 8]), ([true, true, false, false, true, false, true, true, true, false, false, false], [2, 5]), ([true, true, true, true, true, true, true, false, false, false, false, false], [7]), ([true, true, true, true, true, false, true, true, false, false, false, false], [5, 8]), ([true, true, true, false, true, true, true, true, false, false, false, false], [3, 8]), ([true, true, true, false, true, false, true, true, true, false, false, false], [3, 5]), ([true, true, false, false, true, true, true, true, true, false, false, false], [2]), ([true, true, true, true, true, true, true, true, false, false, false, false], [8]), ([true, true, true, true, true, false, true, true, true, false, false, false], [5]), ([true, true, true, false, true, true, true, true, true, false, false, false], [3]), ([true, true, true, true, true, true, true, true, true, false, false, false], [9]), ([true, true, true, true, true, true, true, true, true, true, false, false], [10]), ([true, true, true, true, true, true, true, true, true, true, true, false], [11]), ([true, true, true, true, true, true, true, true, true, true, true, true], [])] [true, true, true, true, true, true, true, true, true, true, true, true] (by decide) ?_ ?_
    ·refine ⟨⟨bA ?_, bA ?_, bA ?_, bA ?_, trivial⟩, ⟨bA ?_, bA ?_, bA ?_, bA ?_, trivial⟩, ⟨bA ?_, bA ?_, bA ?_, bA ?_, trivial⟩, ⟨bA ?_, bA ?_, bA ?_, trivial⟩, ⟨bA ?_, bA ?_, bA ?_, trivial⟩, ⟨bA ?_, bA ?_, bA ?_, trivial⟩, ⟨bA ?_, bA ?_, bA ?_, bA ?_, trivial⟩, ⟨bA ?_, bA ?_, bA ?_, trivial⟩, ⟨bA ?_, bA ?_, bA ?_, trivial⟩, ⟨bA ?_, bA ?_, bA ?_, trivial⟩, ⟨bA ?_, bA ?_, bA ?_, trivial⟩, ⟨bA ?_, bA ?_, bA ?_, trivial⟩, ⟨bA ?_, bA ?_, trivial⟩, ⟨bA ?_, bA ?_, bA ?_, trivial⟩, ⟨bA ?_, bA ?_, bA ?_, trivial⟩, ⟨bA ?_, bA ?_, trivial⟩, ⟨bA ?_, bA ?_, bA ?_, trivial⟩, ⟨bA ?_, bA ?_, bA ?_, trivial⟩, ⟨bA ?_, bA ?_, bA ?_, trivial⟩, ⟨bA ?_, bA ?_, trivial⟩, ⟨bA ?_, bA ?_, trivial⟩, ⟨bA ?_, bA ?_, trivial⟩, ⟨bA ?_, bA ?_, trivial⟩, ⟨bA ?_, bA ?_, trivial⟩, ⟨bA ?_, bA ?_, bA ?_, trivial⟩, ⟨bA ?_, bA ?_, trivial⟩, ⟨bA ?_, bA ?_, trivial⟩, ⟨bA ?_, bA ?_, bA ?_, trivial⟩, ⟨bA ?_, bA ?_, trivial⟩, ⟨bA ?_, bA ?_, trivial⟩, ⟨bA ?_, bA ?_, trivial⟩, ⟨bA ?_, trivial⟩, ⟨bA ?_, bA ?_, trivial⟩, ⟨bA ?_, trivial⟩, ⟨bA ?_, bA ?_, trivial⟩, ⟨bA ?_, bA ?_, bA ?_, trivial⟩, ⟨bA ?_, bA ?_, trivial⟩, ⟨bA ?_, bA ?_, (by (refine aJv rfl rfl (rT [3]) ?_); simp only [go_sem]; (repeat (refine And.intro (by first | omega | decide | trivial | (simp; done) | (simp only [List.length_set] at *; omega)) ?_)); (refine ⟨_, sW, ?_⟩); (refine ⟨[0, 1, 2, 3], ?_⟩); (repeat' apply And.intro) <;> rfl), trivial⟩, ⟨bA ?_, trivial⟩, ⟨bA ?_, trivial⟩, ⟨bA ?_, bA ?_, trivial⟩, ⟨bA ?_, bA ?_, trivial⟩, ⟨bA ?_, bA ?_, (by (refine aJv rfl rfl (rT [3]) ?_); simp only [go_sem]; (repeat (refine And.intro (by first | omega | decide | trivial | (simp; done) | (simp only [List.length_set] at *; omega)) ?_)); (refine ⟨_, sW, ?_⟩); (refine ⟨[0, 1, 2, 3], ?_⟩); (repeat' apply And.intro) <;> rfl), trivial⟩, ⟨bA ?_, (by (refine aJv rfl rfl (rT [3]) ?_); simp only [go_sem]; (repeat (refine And.intro (by first | omega | decide | trivial | (simp; done) | (simp only [List.length_set] at *; omega)) ?_)); (refine ⟨_, sW, ?_⟩); (refine ⟨[0, 1, 2, 3, 4], ?_⟩); (repeat' apply And.intro) <;> rfl), trivial⟩, ⟨bA ?_, bA ?_, trivial⟩, ⟨bA ?_, trivial⟩, ⟨bA ?_, (by (refine aJv rfl rfl (rT [3]) ?_); simp only [go_sem]; (repeat (refine And.intro (by first | omega | decide | trivial | (simp; done) | (simp only [List.length_set] at *; omega)) ?_)); (refine ⟨_, sW, ?_⟩); (refine ⟨[0, 1, 2, 3], ?_⟩); (repeat' apply And.intro) <;> rfl), trivial⟩, ⟨bA ?_, (by (refine aJv rfl rfl (rT [3]) ?_); simp only [go_sem]; (repeat (refine And.intro (by first | omega | decide | trivial | (simp; done) | (simp only [List.length_set] at *; omega)) ?_)); (refine ⟨_, sW, ?_⟩); (refine ⟨[0, 1, 2, 3, 4], ?_⟩); (repeat' apply And.intro) <;> rfl), trivial⟩, ⟨bA ?_, bA ?_, trivial⟩, ⟨bA ?_, trivial⟩, ⟨(by (refine aJv rfl rfl (rT [3]) ?_); simp only [go_sem]; (repeat (refine And.intro (by first | omega | decide | trivial | (simp; done) | (simp only [List.length_set] at *; omega)) ?_)); (refine ⟨_, sW, ?_⟩); (refine ⟨[0, 1, 2, 3, 4], ?_⟩); (repeat' apply And.intro) <;> rfl), trivial⟩, ⟨bA ?_, trivial⟩, ⟨bA ?_, trivial⟩, ⟨bA ?_, trivial⟩, ⟨bA ?_, trivial⟩, ⟨(by (refine aJv rfl rfl (rT [4]) ?_); simp only [go_sem]; (repeat (refine And.intro (by first | omega | decide | trivial | (simp; done) | (simp only [List.length_set] at *; omega)) ?_)); (refine ⟨_, sW, ?_⟩); (refine ⟨[0, 1, 2, 3, 4], ?_⟩); (repeat' apply And.intro) <;> rfl), trivial⟩, trivial, trivial⟩
     all_goals (simp only [go_sem]) <;> ((repeat (refine And.intro (by first | omega | decide | trivial | (simp; done) | (simp only [List.length_set] at *; omega)) ?_)); first | (refine ⟨[0, 1, 2], ?_⟩; (repeat' apply And.intro) <;> rfl) | (refine ⟨[0, 1, 2, 3], ?_⟩; (repeat' apply And.intro) <;> rfl) | (refine ⟨[0, 1, 2, 4, 3], ?_⟩; (repeat' apply And.intro) <;> rfl) | (refine ⟨[0, 1, 2, 3, 4], ?_⟩; (repeat' apply And.intro) <;> rfl))
    simp only [go_sem]
    refine bE (gQ [0, 1, 2] rfl rfl ?_)
    simp only [ren, gP, kA, posOf, eB, go_sem]
    refine aS ((x_5.set (0 : Nat) ((x_5.getD (0 : Nat) ([], [], [], [], [], ())).1, (x_5.getD (0 : Nat) ([], [], [], [], [], ())).2.1, (x_5.getD (0 : Nat) ([], [], [], [], [], ())).2.2.1, ([(aH ⟨#[117]⟩)] : List (List Nat)), (x_5.getD (0 : Nat) ([], [], [], [], [], ())).2.2.2.2.1, ())).set (1 : Nat) (((x_5.set (0 : Nat) ((x_5.getD (0 : Nat) ([], [], [], [], [], ())).1, (x_5.getD (0 : Nat) ([], [], [], [], [], ())).2.1, (x_5.getD (0 : Nat) ([], [], [], [], [], ())).2.2.1, ([(aH ⟨#[117]⟩)] : List (List Nat)), (x_5.getD (0 : Nat) ([], [], [], [], [], ())).2.2.2.2.1, ())).getD (1 : Nat) ([], [], [], [], [], ())).1, ((x_5.set (0 : Nat) ((x_5.getD (0 : Nat) ([], [], [], [], [], ())).1, (x_5.getD (0 : Nat) ([], [], [], [], [], ())).2.1, (x_5.getD (0 : Nat) ([], [], [], [], [], ())).2.2.1, ([(aH ⟨#[117]⟩)] : List (List Nat)), (x_5.getD (0 : Nat) ([], [], [], [], [], ())).2.2.2.2.1, ())).getD (1 : Nat) ([], [], [], [], [], ())).2.1, ((x_5.set (0 : Nat) ((x_5.getD (0 : Nat) ([], [], [], [], [], ())).1, (x_5.getD (0 : Nat) ([], [], [], [], [], ())).2.1, (x_5.getD (0 : Nat) ([], [], [], [], [], ())).2.2.1, ([(aH ⟨#[117]⟩)] : List (List Nat)), (x_5.getD (0 : Nat) ([], [], [], [], [], ())).2.2.2.2.1, ())).getD (1 : Nat) ([], [], [], [], [], ())).2.2.1, ([(aH ⟨#[117]⟩)] : List (List Nat)), ((x_5.set (0 : Nat) ((x_5.getD (0 : Nat) ([], [], [], [], [], ())).1, (x_5.getD (0 : Nat) ([], [], [], [], [], ())).2.1, (x_5.getD (0 : Nat) ([], [], [], [], [], ())).2.2.1, ([(aH ⟨#[117]⟩)] : List (List Nat)), (x_5.getD (0 : Nat) ([], [], [], [], [], ())).2.2.2.2.1, ())).getD (1 : Nat) ([], [], [], [], [], ())).2.2.2.2.1, ())) h rfl ?_
    ·exact zAF
   ·rintro x_6 h
    try dsimp only at h
    simp only [go_sem]
    unfold lI at h
    refine aB (aO hF [0, 3, 5, 6] ?_)
    simp only [go_sem]
    repeat (refine ⟨zAA, ?_⟩)
    refine aC (aB (aD hF [0, 3, 5, 6, 7] ?_))
    simp only [go_sem]
    repeat (refine ⟨zAA, ?_⟩)
    refine aC (lT (D := Bool × (List ((List Nat) × ((List Nat) × ((List Nat) × ((List Nat) × Unit)))))) (fun d => cU F r_3 x_6 d.1 d.2 = some r) [] (fun d => [(3, .ptr 0 []), (7, .val .bool d.1)]) (fun d => [.inr (.box 10 (.agg [.val (.i .i64) r_3.1, .val (.i .i64) r_3.2.1, .val (.i .i64) r_3.2.2.1, .val (.i .i64) r_3.2.2.2.1, .val .str r_3.2.2.2.2.1, .val .str r_3.2.2.2.2.2.1, .val .str r_3.2.2.2.2.2.2.1, .val .str r_3.2.2.2.2.2.2.2.1, .own 1, .own 2])), .inr (.row 60 (.pair .str (.pair (.sl (.pair .str (.pair (.pair .str (.pair .str .unit)) (.pair .expr .unit)))) (.pair (.sl (.pair .str (.pair (.pair .str (.pair .str .unit)) .unit))) (.pair (.sl .str) (.pair (.sl (.pair .str (.pair .expr .unit))) .unit))))) x_6), .inr (.row 68 (.pair .str (.pair .str (.pair .str (.pair .str .unit)))) d.2)]) ?_ ?_)
    ·refine aB (aD hF [3, 5, 6, 7, 35] ?_)
     simp only [go_sem]
     repeat (refine ⟨zAA, ?_⟩)
     refine aC (gJ (aB (aD hF [3, 5, 6, 7, 35, 41] ?_)))
     simp only [go_sem]
     repeat (refine ⟨zAA, ?_⟩)
     refine aC (cA rfl (fun hc => ?_) (fun hc => ?_))
     ·try simp only [go_sem] at hc
      have h := hP zAB h
      refine aO hF [3, 7] ?_
      simp only [go_sem]
      repeat (refine ⟨zAA, ?_⟩)
      refine dP (bE (gQ [0, 1, 5] rfl rfl ?_))
      simp only [ren, gP, kA, posOf, eB, go_sem]
      refine aS (true, ([((aH ⟨#[97]⟩), (aH ⟨#[117]⟩), (aH ⟨#[98]⟩), (aH ⟨#[121]⟩), ()), ((aH ⟨#[98]⟩), (aH ⟨#[117]⟩), (aH ⟨#[97]⟩), (aH ⟨#[121]⟩), ())] : List ((List Nat) × ((List Nat) × ((List Nat) × ((List Nat) × Unit)))))) h rfl ?_
      ·exact zAF
     ·try simp only [go_sem] at hc
      have h := hU zAB h
      refine aB (aD hF [3, 5, 6, 7, 35, 47] ?_)
      simp only [go_sem]
      repeat (refine ⟨zAA, ?_⟩)
      refine aC (cA rfl (fun hc => ?_) (fun hc => ?_))
      ·try simp only [go_sem] at hc
       have h := hP zAB h
       refine aO hF [3, 7] ?_
       simp only [go_sem]
       repeat (refine ⟨zAA, ?_⟩)
       refine dP (bE (gQ [0, 1, 5] rfl rfl ?_))
       simp only [ren, gP, kA, posOf, eB, go_sem]
       refine aS (false, ([((aH ⟨#[98]⟩), (aH ⟨#[117]⟩), (aH ⟨#[97]⟩), (aH ⟨#[121]⟩), ()), ((aH ⟨#[97]⟩), (aH ⟨#[117]⟩), (aH ⟨#[98]⟩), (aH ⟨#[121]⟩), ())] : List ((List Nat) × ((List Nat) × ((List Nat) × ((List Nat) × Unit)))))) h rfl ?_
       ·exact zAF
      ·try simp only [go_sem] at hc
       have h := hU zAB h
       refine aB (aD hF [3, 5, 6, 7, 35, 53] ?_)
       simp only [go_sem]
       repeat (refine ⟨zAA, ?_⟩)
       refine aC (cA rfl (fun hc => ?_) (fun hc => ?_))
       ·try simp only [go_sem] at hc
        have h := hP zAB h
        refine aO hF [3, 7] ?_
        simp only [go_sem]
        repeat (refine ⟨zAA, ?_⟩)
        refine dP (bE (gQ [0, 1, 5] rfl rfl ?_))
        simp only [ren, gP, kA, posOf, eB, go_sem]
        refine aS (false, ([((aH ⟨#[97]⟩), (aH ⟨#[117]⟩), (aH ⟨#[98]⟩), (aH ⟨#[121]⟩), ())] : List ((List Nat) × ((List Nat) × ((List Nat) × ((List Nat) × Unit)))))) h rfl ?_
        ·exact zAF
       ·try simp only [go_sem] at hc
        have h := hU zAB h
        refine aB (aD hF [3, 5, 6, 7, 35, 58] ?_)
        simp only [go_sem]
        repeat (refine ⟨zAA, ?_⟩)
        refine aC (cA rfl (fun hc => ?_) (fun hc => ?_))
        ·try simp only [go_sem] at hc
         have h := hP zAB h
         refine aO hF [3, 7] ?_
         simp only [go_sem]
         repeat (refine ⟨zAA, ?_⟩)
         refine dP (bE (gQ [0, 1, 5] rfl rfl ?_))
         simp only [ren, gP, kA, posOf, eB, go_sem]
         refine aS (false, ([((aH ⟨#[97]⟩), (aH ⟨#[117]⟩), (aH ⟨#[98]⟩), (aH ⟨#[121]⟩), ()), ((aH ⟨#[98]⟩), (aH ⟨#[117]⟩), (aH ⟨#[97]⟩), (aH ⟨#[121]⟩), ()), ((aH ⟨#[98]⟩), (aH ⟨#[117]⟩), (aH ⟨#[97]⟩), (aH ⟨#[121]⟩), ())] : List ((List Nat) × ((List Nat) × ((List Nat) × ((List Nat) × Unit)))))) h rfl ?_
         ·exact zAF
        ·try simp only [go_sem] at hc
         have h := hU zAB h
         refine aB (aD hF [3, 5, 6, 7, 35, 65] ?_)
         simp only [go_sem]
         repeat (refine ⟨zAA, ?_⟩)
         refine aC (cA rfl (fun hc => ?_) (fun hc => ?_))
         ·try simp only [go_sem] at hc
          have h := hP zAB h
          refine aB (aO hF [3, 5, 6, 7] ?_)
          simp only [go_sem]
          repeat (refine ⟨zAA, ?_⟩)
          refine aC (aO hF [3, 7] ?_)
          simp only [go_sem]
          repeat (refine ⟨zAA, ?_⟩)
          refine dP (bE (gQ [0, 1, 5] rfl rfl ?_))
          simp only [ren, gP, kA, posOf, eB, go_sem]
          refine aS (false, ([((aH ⟨#[97]⟩), (aH ⟨#[117]⟩), (aH ⟨#[98]⟩), (aH ⟨#[121]⟩), ()), ((aH ⟨#[98]⟩), (aH ⟨#[117]⟩), (aH ⟨#[97]⟩), (aH ⟨#[120]⟩), ())] : List ((List Nat) × ((List Nat) × ((List Nat) × ((List Nat) × Unit)))))) h rfl ?_
          ·exact zAF
         ·try simp only [go_sem] at hc
          have h := hU zAB h
          refine aB (aD hF [3, 5, 6, 7, 72] ?_)
          simp only [go_sem]
          repeat (refine ⟨zAA, ?_⟩)
          refine aC (cA rfl (fun hc => ?_) (fun hc => ?_))
          ·try simp only [go_sem] at hc
           have h := hP zAB h
           refine aB (aO hF [3, 5, 6, 7] ?_)
           simp only [go_sem]
           repeat (refine ⟨zAA, ?_⟩)
           refine aC (aO hF [3, 7] ?_)
           simp only [go_sem]
           repeat (refine ⟨zAA, ?_⟩)
           refine dP (bE (gQ [0, 1, 5] rfl rfl ?_))
           simp only [ren, gP, kA, posOf, eB, go_sem]
           refine aS (false, ([((aH ⟨#[97]⟩), (aH ⟨#[117]⟩), (aH ⟨#[98]⟩), (aH ⟨#[121]⟩), ()), ((aH ⟨#[98]⟩), (aH ⟨#[117]⟩), (aH ⟨#[99]⟩), (aH ⟨#[121]⟩), ())] : List ((List Nat) × ((List Nat) × ((List Nat) × ((List Nat) × Unit)))))) h rfl ?_
           ·exact zAF
          ·try simp only [go_sem] at hc
           have h := hU zAB h
           refine aB (aO hF [3, 5, 6] ?_)
           simp only [go_sem]
           repeat (refine ⟨zAA, ?_⟩)
           refine aC (aO hF [3, 7] ?_)
           simp only [go_sem]
           repeat (refine ⟨zAA, ?_⟩)
           refine dP (bE (gQ [0, 1, 5] rfl rfl ?_))
           simp only [ren, gP, kA, posOf, eB, go_sem]
           refine aS (true, ([((aH ⟨#[97]⟩), (aH ⟨#[117]⟩), (aH ⟨#[98]⟩), (aH ⟨#[121]⟩), ()), ((aH ⟨#[98]⟩), (aH ⟨#[117]⟩), (aH ⟨#[98]⟩), (aH ⟨#[121]⟩), ())] : List ((List Nat) × ((List Nat) × ((List Nat) × ((List Nat) × Unit)))))) h rfl ?_
           ·exact zAF
    ·rintro ⟨may_7, x_8⟩ h
     try dsimp only at h
     simp only [go_sem]
     unfold cU at h
     refine aB (aD hF [2] ?_)
     simp only [go_sem]
     obtain ⟨g0, h⟩ := aT h
     obtain ⟨g1, h⟩ := aT h
     repeat (refine ⟨by first | with_reducible assumption | omega | (intros; first | with_reducible assumption | omega) | (simp only [go_sem] at *; first | with_reducible assumption | omega) | (intro _; exact ⟨rfl, by decide⟩) | (intro _; refine (?_ : _ = aX _); rfl) | exact ⟨rfl, rfl⟩ | (intro q0; (try have e1 := g1 zAC); first | assumption | omega) | decide, ?_⟩)
     obtain rfl := Option.some.inj h
     refine aC (dB (fC hF [.tmp 2] rfl rfl rfl ?_))
     exact zAG
attribute [go_sem] wV
end Nu
end Go.Proofs
namespace Go.Proofs
open Go.Vc
set_option maxRecDepth 100000
namespace Nu
theorem aMc {f : Nat → Option Bool} (n : Nat) (h : (List.range n).all (fun k => f k == some true) = true) : ∀ k, k < n → f k = some true := fun k hk => by
 have := List.all_eq_true.1 h k (List.mem_range.2 hk)
 simpa using this
theorem aIB (what : Int) : lD (some 1000) what = some true := by
 unfold lD lK lJ lI cU
 have hk : (what % 18446744073709551616).toNat % 7 < 7 := Nat.mod_lt _ (by decide)
 generalize (what % 18446744073709551616).toNat % 7 = k at *
 revert k
 refine aMc 7 ?_
 kernel_rfl
end Nu
end Go.Proofs
