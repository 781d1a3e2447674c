import Derived.Test.YtkihplehmkbfaaaGreatDoorZS2
set_option linter.unusedVariables false
set_option linter.unusedSimpArgs false
namespace Go.Proofs
open Go.Vc
set_option maxRecDepth 20000
namespace Nu
attribute [-go_sem] Ex.kind Ex.text Ex.l
noncomputable def eX (F : Md) (s_1 : (List Nat)) (o0_2 : (Bool × (List Nat))) : Option ((Int × (Unit × Unit)) × (Bool × (List Nat))) :=
 (nH F (o0_2.1, o0_2.2)).bind (fun r_6 => ck (((r_6.2.length) + (s_1.length)) * 1 ≤ 140737488355328) (some (((((s_1.length) : Nat) : Int), (), ()), r_6.1, (r_6.2 ++ s_1))))
noncomputable def eW (F : Md) : lP where
 D := (List Nat) × (Bool × (List Nat)) × ((Int × (Unit × Unit)) × (Bool × (List Nat)))
 av := fun d => [.ptr 0 [], .val .str d.1]
 hp := fun d => [.box 4294967397 (.agg [pk d.2.1.1 0, .own 1]), .row 5 (.u .u8) d.2.1.2]
 m := 1
 pre := fun d => eX F d.1 d.2.1 = some d.2.2
 out := fun d => (fun r : ((Int × (Unit × Unit)) × (Bool × (List Nat))) => .ret (.tup [.val (.i .i64) r.1.1, .val .nili r.1.2.1]) [.box 4294967397 (.agg [pk r.2.1 0, .own 1]), .row 5 (.u .u8) r.2.2]) d.2.2
noncomputable def mB (F : Md) : List (FuncId × aG) := []
theorem mC (F : Md) : bC Tryz.prog GL (mB F) := .nil
set_option maxHeartbeats 4000000 in
theorem tS (F : Md) : GOK Tryz.prog GL 50 (eW F) := by
 refine vD (aW (mC F)) Tryz.func50 rfl (by kernel_rfl) (fun _ => Nat.le_of_ble_eq_true rfl) fun c0 w0 d hw1 hw2 h hn => ?_
 have hF : iQ ⟨Tryz.prog, EM (mB F), GM (eW F) c0 d, w0, Tryz.f50.ntmps, []⟩ := ⟨aW (mC F), mix⟩
 obtain ⟨(s_1 : (List Nat)), (o0_2 : (Bool × (List Nat))), r⟩ := d
 replace h : eX F s_1 o0_2 = some r := h
 have hw1 : AV.wfL [.ptr 0 [], .val .str s_1] := hw1
 simp only [AV.wfL, AV.wfV, Ty.wf, lO] at hw1
 show Tri _ _ _ [(0, .ptr 0 []), (1, .val .str s_1)] [.box 4294967397 (.agg [pk o0_2.1 0, .own 1]), .row 5 (.u .u8) o0_2.2]
 unfold eX at h
 refine aB (aD hF [0, 1] ?_)
 simp only [go_sem]
 obtain ⟨r_6, he1, h⟩ := bind_some h
 try dsimp only at h
 refine aC (aB (aX hF (bS (l := [(114, ⟨iJ F, [0, 1], ((o0_2.1, o0_2.2), r_6)⟩)]) (.cons (vX F) (by kernel_rfl) (.nil))) [0, 1] [] ?_))
 simp only [go_sem]
 repeat (refine ⟨zAC, ?_⟩)
 refine aC (aB (aU hF [1] ?_))
 simp only [go_sem]
 obtain ⟨g0, h⟩ := aJ h
 repeat (refine ⟨zAA, ?_⟩)
 refine aC (aB (aD hF [4, 5] ?_))
 simp only [go_sem]
 obtain rfl := Option.some.inj h
 refine aC (cH (fZ [0, 3] rfl rfl ?_))
 simp only [ren, eF, gZ, posOf, cQ, go_sem]
 refine aBk hF [.tmp 4, .tmp 5] rfl rfl rfl rfl rfl rfl ?_
 (try simp only [aT, aDo, aCC, dL, nL, AV.isAgg, go_sem]) <;> first | trivial | rfl | (simp; done)
attribute [go_sem] eW
noncomputable def cE (F : Md) (words_0 : (List (List Nat))) (o0_2 : (Bool × (List Nat))) : Option (Bool × (List Nat)) :=
 ck (aOS words_0 (aI ⟨#[32]⟩)) (ck ((aBZ words_0 (aI ⟨#[32]⟩)).length + (aI ⟨#[10]⟩).length ≤ 9223372036854775807) ((eX F ((aBZ words_0 (aI ⟨#[32]⟩)) ++ (aI ⟨#[10]⟩)) (o0_2.1, o0_2.2)).bind (fun r_5 => some (r_5.2.1, r_5.2.2))))
noncomputable def bX (F : Md) : lP where
 D := (List (List Nat)) × (Bool × (List Nat)) × (Bool × (List Nat))
 av := fun d => [.val (.sl .str) d.1, .ptr 0 []]
 hp := fun d => [.box 4294967397 (.agg [pk d.2.1.1 0, .own 1]), .row 5 (.u .u8) d.2.1.2]
 m := 1
 pre := fun d => cE F d.1 d.2.1 = some d.2.2
 out := fun d => (fun r : (Bool × (List Nat)) => .ret (.tup []) [.box 4294967397 (.agg [pk (r).1 0, .own 1]), .row 5 (.u .u8) (r).2]) d.2.2
noncomputable def vY (F : Md) : List (FuncId × aG) := [(46, qF)]
theorem aB0 (F : Md) : bC Tryz.prog GL (vY F) := .cons aIr (by kernel_rfl) (.nil)
theorem aEB (F : Md) : gam (vY F) 46 = some qF := rfl
attribute [go_sem] aEB
set_option maxHeartbeats 4000000 in
theorem cP (F : Md) : GOK Tryz.prog GL 76 (bX F) := by
 refine vD (aW (aB0 F)) Tryz.func76 rfl (by kernel_rfl) (fun _ => Nat.le_of_ble_eq_true rfl) fun c0 w0 d hw1 hw2 h hn => ?_
 have hF : iQ ⟨Tryz.prog, EM (vY F), GM (bX F) c0 d, w0, Tryz.f76.ntmps, []⟩ := ⟨aW (aB0 F), mix⟩
 obtain ⟨(words_0 : (List (List Nat))), (o0_2 : (Bool × (List Nat))), r⟩ := d
 replace h : cE F words_0 o0_2 = some r := h
 have hw1 : AV.wfL [.val (.sl .str) words_0, .ptr 0 []] := hw1
 simp only [AV.wfL, AV.wfV, Ty.wf, lO] at hw1
 show Tri _ _ _ [(0, .val (.sl .str) words_0), (1, .ptr 0 [])] [.box 4294967397 (.agg [pk o0_2.1 0, .own 1]), .row 5 (.u .u8) o0_2.2]
 unfold cE at h
 obtain ⟨g0, h⟩ := aJ h
 obtain ⟨g1, h⟩ := aJ h
 obtain ⟨r_5, he1, h⟩ := bind_some h
 try dsimp only at h
 refine aX hF (bS (l := [(50, ⟨eW F, [0, 1], (((aBZ words_0 (aI ⟨#[32]⟩)) ++ (aI ⟨#[10]⟩)), (o0_2.1, o0_2.2), r_5)⟩)]) (.cons (tS F) (by kernel_rfl) (.nil))) [] [] ?_
 simp only [go_sem]
 repeat (refine ⟨zAC, ?_⟩)
 obtain rfl := Option.some.inj h
 refine aE7 (fZ [0, 2] rfl rfl ?_)
 simp only [ren, eF, gZ, posOf, cQ, go_sem]
 refine aBk hF [] rfl rfl rfl rfl rfl rfl ?_
 (try simp only [aT, aDo, aCC, dL, nL, AV.isAgg, go_sem]) <;> first | trivial | rfl | (simp; done)
attribute [go_sem] bX
noncomputable def zW (F : Md) (s_0 : (Int × (Int × (Int × (Int × ((List Nat) × ((List Nat) × ((List Nat) × ((List Nat) × ((List ((List Nat) × ((List ((List Nat) × (((List Nat) × ((List Nat) × Unit)) × (Ex × Unit)))) × ((List ((List Nat) × (((List Nat) × ((List Nat) × Unit)) × Unit))) × ((List (List Nat)) × ((List ((List Nat) × (Ex × Unit))) × Unit)))))) × ((List ((List Nat) × ((List Nat) × ((List Nat) × ((List Nat) × Unit))))) × Unit))))))))))) (x144_116 : Int) (b_117 : Bool) (x_118 : (List Nat)) : Option ((Int × Bool × (List Nat)) ⊕ (Bool × (List Nat))) :=
 if x144_116 < (((s_0.2.2.2.2.2.2.2.2.2.1.length) : Nat) : Int) then ck (0 ≤ x144_116 ∧ x144_116 < (((s_0.2.2.2.2.2.2.2.2.2.1.length) : Nat) : Int)) (ck ((s_0.2.2.2.2.2.2.2.2.2.1.getD (x144_116.toNat) ([], [], [], [], ())).1.length + (aI ⟨#[46]⟩).length ≤ 9223372036854775807) (ck (((s_0.2.2.2.2.2.2.2.2.2.1.getD (x144_116.toNat) ([], [], [], [], ())).1 ++ (aI ⟨#[46]⟩)).length + (s_0.2.2.2.2.2.2.2.2.2.1.getD (x144_116.toNat) ([], [], [], [], ())).2.1.length ≤ 9223372036854775807) (ck ((s_0.2.2.2.2.2.2.2.2.2.1.getD (x144_116.toNat) ([], [], [], [], ())).2.2.1.length + (aI ⟨#[46]⟩).length ≤ 9223372036854775807) (ck (((s_0.2.2.2.2.2.2.2.2.2.1.getD (x144_116.toNat) ([], [], [], [], ())).2.2.1 ++ (aI ⟨#[46]⟩)).length + (s_0.2.2.2.2.2.2.2.2.2.1.getD (x144_116.toNat) ([], [], [], [], ())).2.2.2.1.length ≤ 9223372036854775807) ((cE F ([(aI ⟨#[108, 105, 110, 107]⟩), (((s_0.2.2.2.2.2.2.2.2.2.1.getD (x144_116.toNat) ([], [], [], [], ())).1 ++ (aI ⟨#[46]⟩)) ++ (s_0.2.2.2.2.2.2.2.2.2.1.getD (x144_116.toNat) ([], [], [], [], ())).2.1), (aI ⟨#[61]⟩), (((s_0.2.2.2.2.2.2.2.2.2.1.getD (x144_116.toNat) ([], [], [], [], ())).2.2.1 ++ (aI ⟨#[46]⟩)) ++ (s_0.2.2.2.2.2.2.2.2.2.1.getD (x144_116.toNat) ([], [], [], [], ())).2.2.2.1)] : List (List Nat)) (b_117, x_118)).bind (fun r_126 => ck (I64 (x144_116 + (1 : Int))) (some (.inl ((x144_116 + (1 : Int)), r_126.1, r_126.2))))))))) else some (.inr (b_117, x_118))
noncomputable def tT (F : Md) (s_0 : (Int × (Int × (Int × (Int × ((List Nat) × ((List Nat) × ((List Nat) × ((List Nat) × ((List ((List Nat) × ((List ((List Nat) × (((List Nat) × ((List Nat) × Unit)) × (Ex × Unit)))) × ((List ((List Nat) × (((List Nat) × ((List Nat) × Unit)) × Unit))) × ((List (List Nat)) × ((List ((List Nat) × (Ex × Unit))) × Unit)))))) × ((List ((List Nat) × ((List Nat) × ((List Nat) × ((List Nat) × Unit))))) × Unit))))))))))) (b_105 : Bool) (x_106 : (List Nat)) : Option ((List Nat) × (Int × Unit)) :=
 (cW F (fun d : Int × Bool × (List Nat) => zW F s_0 d.1 d.2.1 d.2.2) ((0 : Int), b_105, x_106)).bind (fun e => (pO F (e.1, e.2)).bind (fun r_130 => some (r_130, (0 : Int), ())))
noncomputable def zX (F : Md) (s_0 : (Int × (Int × (Int × (Int × ((List Nat) × ((List Nat) × ((List Nat) × ((List Nat) × ((List ((List Nat) × ((List ((List Nat) × (((List Nat) × ((List Nat) × Unit)) × (Ex × Unit)))) × ((List ((List Nat) × (((List Nat) × ((List Nat) × Unit)) × Unit))) × ((List (List Nat)) × ((List ((List Nat) × (Ex × Unit))) × Unit)))))) × ((List ((List Nat) × ((List Nat) × ((List Nat) × ((List Nat) × Unit))))) × Unit))))))))))) (x68_172 : Int) (x127_293 : Int) (b_294 : Bool) (x_295 : (List Nat)) : Option ((Int × Bool × (List Nat)) ⊕ (Bool × (List Nat))) :=
 if x127_293 < (((s_0.2.2.2.2.2.2.2.2.1.getD (x68_172.toNat) ([], [], [], [], [], ())).2.2.2.2.1.length : Nat) : Int) then ck (0 ≤ x127_293 ∧ x127_293 < (((s_0.2.2.2.2.2.2.2.2.1.getD (x68_172.toNat) ([], [], [], [], [], ())).2.2.2.2.1.length : Nat) : Int)) (ck ((dK F 64 ((s_0.2.2.2.2.2.2.2.2.1.getD (x68_172.toNat) ([], [], [], [], [], ())).2.2.2.2.1.getD (x127_293.toNat) ([], (Ex.mk 0 [] []), ())).2.1).isSome = true) ((cE F ([(aI ⟨#[111, 117, 116]⟩), ((s_0.2.2.2.2.2.2.2.2.1.getD (x68_172.toNat) ([], [], [], [], [], ())).2.2.2.2.1.getD (x127_293.toNat) ([], (Ex.mk 0 [] []), ())).1, (aI ⟨#[61]⟩), ((dK F 64 ((s_0.2.2.2.2.2.2.2.2.1.getD (x68_172.toNat) ([], [], [], [], [], ())).2.2.2.2.1.getD (x127_293.toNat) ([], (Ex.mk 0 [] []), ())).2.1).getD ([] : List Nat))] : List (List Nat)) (b_294, x_295)).bind (fun r_303 => ck (I64 (x127_293 + (1 : Int))) (some (.inl ((x127_293 + (1 : Int)), r_303.1, r_303.2)))))) else some (.inr (b_294, x_295))
noncomputable def tU (F : Md) (s_0 : (Int × (Int × (Int × (Int × ((List Nat) × ((List Nat) × ((List Nat) × ((List Nat) × ((List ((List Nat) × ((List ((List Nat) × (((List Nat) × ((List Nat) × Unit)) × (Ex × Unit)))) × ((List ((List Nat) × (((List Nat) × ((List Nat) × Unit)) × Unit))) × ((List (List Nat)) × ((List ((List Nat) × (Ex × Unit))) × Unit)))))) × ((List ((List Nat) × ((List Nat) × ((List Nat) × ((List Nat) × Unit))))) × Unit))))))))))) (x68_172 : Int) (b_290 : Bool) (x_291 : (List Nat)) : Option ((Int × Bool × (List Nat)) ⊕ (Bool × (List Nat))) :=
 (cW F (fun d : Int × Bool × (List Nat) => zX F s_0 x68_172 d.1 d.2.1 d.2.2) ((0 : Int), b_290, x_291)).bind (fun e => ck (I64 (x68_172 + (1 : Int))) (some (.inl ((x68_172 + (1 : Int)), e.1, e.2))))
noncomputable def zY (F : Md) (s_0 : (Int × (Int × (Int × (Int × ((List Nat) × ((List Nat) × ((List Nat) × ((List Nat) × ((List ((List Nat) × ((List ((List Nat) × (((List Nat) × ((List Nat) × Unit)) × (Ex × Unit)))) × ((List ((List Nat) × (((List Nat) × ((List Nat) × Unit)) × Unit))) × ((List (List Nat)) × ((List ((List Nat) × (Ex × Unit))) × Unit)))))) × ((List ((List Nat) × ((List Nat) × ((List Nat) × ((List Nat) × Unit))))) × Unit))))))))))) (x68_172 : Int) (x115_305 : Int) (b_306 : Bool) (x_307 : (List Nat)) : Option ((Int × Bool × (List Nat)) ⊕ (Bool × (List Nat))) :=
 if x115_305 < (((s_0.2.2.2.2.2.2.2.2.1.getD (x68_172.toNat) ([], [], [], [], [], ())).2.2.2.1.length : Nat) : Int) then ck (0 ≤ x115_305 ∧ x115_305 < (((s_0.2.2.2.2.2.2.2.2.1.getD (x68_172.toNat) ([], [], [], [], [], ())).2.2.2.1.length : Nat) : Int)) ((cE F ([(aI ⟨#[105, 110]⟩), ((s_0.2.2.2.2.2.2.2.2.1.getD (x68_172.toNat) ([], [], [], [], [], ())).2.2.2.1.getD (x115_305.toNat) ([] : List Nat))] : List (List Nat)) (b_306, x_307)).bind (fun r_315 => ck (I64 (x115_305 + (1 : Int))) (some (.inl ((x115_305 + (1 : Int)), r_315.1, r_315.2))))) else some (.inr (b_306, x_307))
noncomputable def tV (F : Md) (s_0 : (Int × (Int × (Int × (Int × ((List Nat) × ((List Nat) × ((List Nat) × ((List Nat) × ((List ((List Nat) × ((List ((List Nat) × (((List Nat) × ((List Nat) × Unit)) × (Ex × Unit)))) × ((List ((List Nat) × (((List Nat) × ((List Nat) × Unit)) × Unit))) × ((List (List Nat)) × ((List ((List Nat) × (Ex × Unit))) × Unit)))))) × ((List ((List Nat) × ((List Nat) × ((List Nat) × ((List Nat) × Unit))))) × Unit))))))))))) (x68_172 : Int) (b_280 : Bool) (x_281 : (List Nat)) : Option ((Int × Bool × (List Nat)) ⊕ (Bool × (List Nat))) :=
 (cW F (fun d : Int × Bool × (List Nat) => zY F s_0 x68_172 d.1 d.2.1 d.2.2) ((0 : Int), b_280, x_281)).bind (fun e => tU F s_0 x68_172 e.1 e.2)
noncomputable def zZ (F : Md) (s_0 : (Int × (Int × (Int × (Int × ((List Nat) × ((List Nat) × ((List Nat) × ((List Nat) × ((List ((List Nat) × ((List ((List Nat) × (((List Nat) × ((List Nat) × Unit)) × (Ex × Unit)))) × ((List ((List Nat) × (((List Nat) × ((List Nat) × Unit)) × Unit))) × ((List (List Nat)) × ((List ((List Nat) × (Ex × Unit))) × Unit)))))) × ((List ((List Nat) × ((List Nat) × ((List Nat) × ((List Nat) × Unit))))) × Unit))))))))))) (x68_172 : Int) (x99_317 : Int) (b_318 : Bool) (x_319 : (List Nat)) : Option ((Int × Bool × (List Nat)) ⊕ (Bool × (List Nat))) :=
 if x99_317 < (((s_0.2.2.2.2.2.2.2.2.1.getD (x68_172.toNat) ([], [], [], [], [], ())).2.2.1.length : Nat) : Int) then ck (0 ≤ x99_317 ∧ x99_317 < (((s_0.2.2.2.2.2.2.2.2.1.getD (x68_172.toNat) ([], [], [], [], [], ())).2.2.1.length : Nat) : Int)) (ck ((jG F ((s_0.2.2.2.2.2.2.2.2.1.getD (x68_172.toNat) ([], [], [], [], [], ())).2.2.1.getD (x99_317.toNat) ([], ([], [], ()), ())).2.1).isSome = true) ((cE F ([(aI ⟨#[112, 97, 114]⟩), ((s_0.2.2.2.2.2.2.2.2.1.getD (x68_172.toNat) ([], [], [], [], [], ())).2.2.1.getD (x99_317.toNat) ([], ([], [], ()), ())).1, (aI ⟨#[61]⟩), ((jG F ((s_0.2.2.2.2.2.2.2.2.1.getD (x68_172.toNat) ([], [], [], [], [], ())).2.2.1.getD (x99_317.toNat) ([], ([], [], ()), ())).2.1).getD ([] : List Nat))] : List (List Nat)) (b_318, x_319)).bind (fun r_327 => ck (I64 (x99_317 + (1 : Int))) (some (.inl ((x99_317 + (1 : Int)), r_327.1, r_327.2)))))) else some (.inr (b_318, x_319))
noncomputable def tW (F : Md) (s_0 : (Int × (Int × (Int × (Int × ((List Nat) × ((List Nat) × ((List Nat) × ((List Nat) × ((List ((List Nat) × ((List ((List Nat) × (((List Nat) × ((List Nat) × Unit)) × (Ex × Unit)))) × ((List ((List Nat) × (((List Nat) × ((List Nat) × Unit)) × Unit))) × ((List (List Nat)) × ((List ((List Nat) × (Ex × Unit))) × Unit)))))) × ((List ((List Nat) × ((List Nat) × ((List Nat) × ((List Nat) × Unit))))) × Unit))))))))))) (x68_172 : Int) (b_270 : Bool) (x_271 : (List Nat)) : Option ((Int × Bool × (List Nat)) ⊕ (Bool × (List Nat))) :=
 (cW F (fun d : Int × Bool × (List Nat) => zZ F s_0 x68_172 d.1 d.2.1 d.2.2) ((0 : Int), b_270, x_271)).bind (fun e => tV F s_0 x68_172 e.1 e.2)
noncomputable def aAa (F : Md) (s_0 : (Int × (Int × (Int × (Int × ((List Nat) × ((List Nat) × ((List Nat) × ((List Nat) × ((List ((List Nat) × ((List ((List Nat) × (((List Nat) × ((List Nat) × Unit)) × (Ex × Unit)))) × ((List ((List Nat) × (((List Nat) × ((List Nat) × Unit)) × Unit))) × ((List (List Nat)) × ((List ((List Nat) × (Ex × Unit))) × Unit)))))) × ((List ((List Nat) × ((List Nat) × ((List Nat) × ((List Nat) × Unit))))) × Unit))))))))))) (x68_172 : Int) (x80_329 : Int) (b_330 : Bool) (x_331 : (List Nat)) : Option ((Int × Bool × (List Nat)) ⊕ (Bool × (List Nat))) :=
 if x80_329 < (((s_0.2.2.2.2.2.2.2.2.1.getD (x68_172.toNat) ([], [], [], [], [], ())).2.1.length : Nat) : Int) then ck (0 ≤ x80_329 ∧ x80_329 < (((s_0.2.2.2.2.2.2.2.2.1.getD (x68_172.toNat) ([], [], [], [], [], ())).2.1.length : Nat) : Int)) (ck ((jG F ((s_0.2.2.2.2.2.2.2.2.1.getD (x68_172.toNat) ([], [], [], [], [], ())).2.1.getD (x80_329.toNat) ([], ([], [], ()), (Ex.mk 0 [] []), ())).2.1).isSome = true) (ck ((dK F 64 ((s_0.2.2.2.2.2.2.2.2.1.getD (x68_172.toNat) ([], [], [], [], [], ())).2.1.getD (x80_329.toNat) ([], ([], [], ()), (Ex.mk 0 [] []), ())).2.2.1).isSome = true) ((cE F ([(aI ⟨#[115, 116, 97, 116, 101]⟩), ((s_0.2.2.2.2.2.2.2.2.1.getD (x68_172.toNat) ([], [], [], [], [], ())).2.1.getD (x80_329.toNat) ([], ([], [], ()), (Ex.mk 0 [] []), ())).1, (aI ⟨#[61]⟩), ((jG F ((s_0.2.2.2.2.2.2.2.2.1.getD (x68_172.toNat) ([], [], [], [], [], ())).2.1.getD (x80_329.toNat) ([], ([], [], ()), (Ex.mk 0 [] []), ())).2.1).getD ([] : List Nat)), (aI ⟨#[100, 101, 114]⟩), ((dK F 64 ((s_0.2.2.2.2.2.2.2.2.1.getD (x68_172.toNat) ([], [], [], [], [], ())).2.1.getD (x80_329.toNat) ([], ([], [], ()), (Ex.mk 0 [] []), ())).2.2.1).getD ([] : List Nat))] : List (List Nat)) (b_330, x_331)).bind (fun r_339 => ck (I64 (x80_329 + (1 : Int))) (some (.inl ((x80_329 + (1 : Int)), r_339.1, r_339.2))))))) else some (.inr (b_330, x_331))
noncomputable def aAb (F : Md) (s_0 : (Int × (Int × (Int × (Int × ((List Nat) × ((List Nat) × ((List Nat) × ((List Nat) × ((List ((List Nat) × ((List ((List Nat) × (((List Nat) × ((List Nat) × Unit)) × (Ex × Unit)))) × ((List ((List Nat) × (((List Nat) × ((List Nat) × Unit)) × Unit))) × ((List (List Nat)) × ((List ((List Nat) × (Ex × Unit))) × Unit)))))) × ((List ((List Nat) × ((List Nat) × ((List Nat) × ((List Nat) × Unit))))) × Unit))))))))))) (x68_172 : Int) (b_173 : Bool) (x_174 : (List Nat)) : Option ((Int × Bool × (List Nat)) ⊕ (Bool × (List Nat))) :=
 if x68_172 < (((s_0.2.2.2.2.2.2.2.2.1.length) : Nat) : Int) then ck (0 ≤ x68_172 ∧ x68_172 < (((s_0.2.2.2.2.2.2.2.2.1.length) : Nat) : Int)) ((cE F ([(aI ⟨#[115, 117, 98]⟩), (s_0.2.2.2.2.2.2.2.2.1.getD (x68_172.toNat) ([], [], [], [], [], ())).1] : List (List Nat)) (b_173, x_174)).bind (fun r_261 => (cW F (fun d : Int × Bool × (List Nat) => aAa F s_0 x68_172 d.1 d.2.1 d.2.2) ((0 : Int), r_261.1, r_261.2)).bind (fun e => tW F s_0 x68_172 e.1 e.2))) else some (.inr (b_173, x_174))
noncomputable def oN (F : Md) (s_0 : (Int × (Int × (Int × (Int × ((List Nat) × ((List Nat) × ((List Nat) × ((List Nat) × ((List ((List Nat) × ((List ((List Nat) × (((List Nat) × ((List Nat) × Unit)) × (Ex × Unit)))) × ((List ((List Nat) × (((List Nat) × ((List Nat) × Unit)) × Unit))) × ((List (List Nat)) × ((List ((List Nat) × (Ex × Unit))) × Unit)))))) × ((List ((List Nat) × ((List Nat) × ((List Nat) × ((List Nat) × Unit))))) × Unit))))))))))) (mode_2 : (List Nat)) : Option ((List Nat) × (Int × Unit)) :=
 ck ((dM F s_0.1).isSome = true) ((cE F ([(aI ⟨#[112, 114, 101, 99]⟩), ((dM F s_0.1).getD ([] : List Nat))] : List (List Nat)) (true, ([] : List Nat))).bind (fun r_4 => (cE F ([(aI ⟨#[101, 110, 100]⟩), s_0.2.2.2.2.1] : List (List Nat)) (r_4.1, r_4.2)).bind (fun r_6 => (cE F ([(aI ⟨#[115, 116, 101, 112]⟩), s_0.2.2.2.2.2.1, s_0.2.2.2.2.2.2.1] : List (List Nat)) (r_6.1, r_6.2)).bind (fun r_8 => (cE F ([(aI ⟨#[116, 111, 108]⟩), s_0.2.2.2.2.2.2.2.1] : List (List Nat)) (r_8.1, r_8.2)).bind (fun r_10 => ck ((dM F s_0.2.1).isSome = true) ((cE F ([(aI ⟨#[116, 114, 105, 101, 115]⟩), ((dM F s_0.2.1).getD ([] : List Nat))] : List (List Nat)) (r_10.1, r_10.2)).bind (fun r_12 => ck ((dM F s_0.2.2.1).isSome = true) ((cE F ([(aI ⟨#[111, 114, 100, 101, 114]⟩), ((dM F s_0.2.2.1).getD ([] : List Nat))] : List (List Nat)) (r_12.1, r_12.2)).bind (fun r_14 => (cE F ([mode_2] : List (List Nat)) (r_14.1, r_14.2)).bind (fun r_16 => (cW F (fun d : Int × Bool × (List Nat) => aAb F s_0 d.1 d.2.1 d.2.2) ((0 : Int), r_16.1, r_16.2)).bind (fun e => tT F s_0 e.1 e.2)))))))))))
noncomputable def pP (F : Md) (s_0 : (Int × (Int × (Int × (Int × ((List Nat) × ((List Nat) × ((List Nat) × ((List Nat) × ((List ((List Nat) × ((List ((List Nat) × (((List Nat) × ((List Nat) × Unit)) × (Ex × Unit)))) × ((List ((List Nat) × (((List Nat) × ((List Nat) × Unit)) × Unit))) × ((List (List Nat)) × ((List ((List Nat) × (Ex × Unit))) × Unit)))))) × ((List ((List Nat) × ((List Nat) × ((List Nat) × ((List Nat) × Unit))))) × Unit))))))))))) : Option ((List Nat) × (Int × Unit)) :=
 ck ((vG F s_0).isSome = true) (if ¬ (((vG F s_0).getD false) = true) then some ((aI ⟨#[]⟩), (1 : Int), ()) else if s_0.2.2.2.1 = (2 : Int) then oN F s_0 (aI ⟨#[115, 101, 105, 100, 101, 108]⟩) else oN F s_0 (aI ⟨#[106, 97, 99, 111, 98, 105]⟩))
def uR : Ty := .pair (.pair (.i .i64) (.pair (.i .i64) (.pair (.i .i64) (.pair (.i .i64) (.pair .str (.pair .str (.pair .str (.pair .str (.pair (.sl (.pair .str (.pair (.sl (.pair .str (.pair (.pair .str (.pair .str .unit)) (.pair .expr .unit)))) (.pair (.sl (.pair .str (.pair (.pair .str (.pair .str .unit)) .unit))) (.pair (.sl .str) (.pair (.sl (.pair .str (.pair .expr .unit))) .unit)))))) (.pair (.sl (.pair .str (.pair .str (.pair .str (.pair .str .unit))))) .unit)))))))))) .unit
attribute [go_sem] uR
noncomputable def sR (F : Md) : aG := mSpec uR (.tup (.pair .str (.pair (.i .i64) .unit))) (fun x => pP F x.1)
noncomputable def mY (F : Md) : List (FuncId × aG) := [(28, (xJ F)), (33, (jK F 64)), (43, (qE F)), (77, (uQ F))]
theorem aDX (F : Md) : bC Tryz.prog GL (mY F) := .cons (aMf F) (by kernel_rfl) (.cons (uP F 64) (by kernel_rfl) (.cons (aIp F) (by kernel_rfl) (.cons (aKT F) (by kernel_rfl) (.nil))))
theorem aGP (F : Md) : gam (mY F) 28 = some (xJ F) := rfl
attribute [go_sem] aGP
theorem aGQ (F : Md) : gam (mY F) 33 = some (jK F 64) := rfl
attribute [go_sem] aGQ
theorem aGR (F : Md) : gam (mY F) 43 = some (qE F) := rfl
attribute [go_sem] aGR
theorem aGS (F : Md) : gam (mY F) 77 = some (uQ F) := rfl
attribute [go_sem] aGS
set_option maxHeartbeats 4000000 in
theorem aKi (F : Md) : FOK Tryz.prog GL 35 (sR F) := by
 refine kN (aW (aDX F)) Tryz.func35 rfl (by kernel_rfl) (by decide) fun w0 S x r hw h => ?_
 have hF : iQ (fr Tryz.prog (EM (mY F)) S w0 Tryz.f35.ntmps) := ⟨aW (aDX F), mix⟩
 obtain ⟨(s_0 : (Int × (Int × (Int × (Int × ((List Nat) × ((List Nat) × ((List Nat) × ((List Nat) × ((List ((List Nat) × ((List ((List Nat) × (((List Nat) × ((List Nat) × Unit)) × (Ex × Unit)))) × ((List ((List Nat) × (((List Nat) × ((List Nat) × Unit)) × Unit))) × ((List (List Nat)) × ((List ((List Nat) × (Ex × Unit))) × Unit)))))) × ((List ((List Nat) × ((List Nat) × ((List Nat) × ((List Nat) × Unit))))) × Unit))))))))))), u⟩ := x
 simp only [uR, Ty.wf, lO] at hw
 simp only [bH, uR]
 try dsimp only at h
 replace h : pP F s_0 = some r := h
 unfold pP at h
 refine aB (aU hF [1] ?_)
 simp only [go_sem]
 refine aC (aB (aB (aD hF [1, 21] ?_)))
 simp only [go_sem]
 obtain ⟨g0, h⟩ := aJ h
 repeat (refine ⟨zAA, ?_⟩)
 refine aC (bD rfl (fun hc => ?_) (fun hc => ?_))
 ·try simp only [go_sem] at hc
  have h := dP zAB h
  refine aB (aD hF [2, 3] ?_)
  simp only [go_sem]
  obtain rfl := Option.some.inj h
  refine aC (cH (bN (dC hF [.tmp 2, .tmp 3] rfl rfl rfl ?_)))
  exact zAH
 ·try simp only [go_sem] at hc
  have h := dQ zAB h
  refine bL (aC (aB (aU hF [1, 4] ?_)))
  simp only [go_sem]
  refine aSq 1 4294967397 5 rfl ?_
  simp only [go_sem]
  refine aC (aB (aD hF [1, 4, 5] ?_))
  simp only [go_sem]
  refine aC (aB (aD hF [1, 4, 5, 6] ?_))
  simp only [go_sem]
  refine aC (eZ (D := (List Nat)) (fun d => oN F s_0 d = some r) [] (fun d => [(1, .ptr 0 []), (4, .ptr 1 []), (5, .fn 76 [] [1]), (6, .val .str d)]) (fun d => [.inr (.box 10 (.val (.pair (.i .i64) (.pair (.i .i64) (.pair (.i .i64) (.pair (.i .i64) (.pair .str (.pair .str (.pair .str (.pair .str (.pair (.sl (.pair .str (.pair (.sl (.pair .str (.pair (.pair .str (.pair .str .unit)) (.pair .expr .unit)))) (.pair (.sl (.pair .str (.pair (.pair .str (.pair .str .unit)) .unit))) (.pair (.sl .str) (.pair (.sl (.pair .str (.pair .expr .unit))) .unit)))))) (.pair (.sl (.pair .str (.pair .str (.pair .str (.pair .str .unit))))) .unit)))))))))) s_0)), .inr (.box 4294967397 (.agg [pk true 1, .own 2])), .inr (.row 5 (.u .u8) ([] : List Nat))]) ?_ ?_)
  ·refine aB (aD hF [1, 4, 5, 6, 25] ?_)
   simp only [go_sem]
   refine aC (bD rfl (fun hc => ?_) (fun hc => ?_))
   ·try simp only [go_sem] at hc
    have h := dP zAB h
    refine aD hF [1, 4, 5, 6] ?_
    simp only [go_sem]
    refine aS (aQ (aI ⟨#[115, 101, 105, 100, 101, 108]⟩) h rfl ?_)
    ·exact zAG
   ·try simp only [go_sem] at hc
    have h := dQ zAB h
    refine bL (aS (aQ (aI ⟨#[106, 97, 99, 111, 98, 105]⟩) h rfl ?_))
    ·exact zAG
  ·rintro mode_2 h
   try dsimp only at h
   simp only [go_sem]
   unfold oN at h
   obtain ⟨g0, h⟩ := aJ h
   obtain ⟨r_4, he1, h⟩ := bind_some h
   try dsimp only at h
   refine aB (aX hF (bS (l := [(76, ⟨bX F, [1, 2], (([(aI ⟨#[112, 114, 101, 99]⟩), ((dM F s_0.1).getD ([] : List Nat))] : List (List Nat)), (true, ([] : List Nat)), r_4)⟩)]) (.cons (cP F) (by kernel_rfl) (.nil))) [1, 4, 5, 6] [] ?_)
   simp only [go_sem]
   repeat (refine ⟨zAC, ?_⟩)
   obtain ⟨r_6, he2, h⟩ := bind_some h
   try dsimp only at h
   refine aC (aB (aX hF (bS (l := [(76, ⟨bX F, [1, 3], (([(aI ⟨#[101, 110, 100]⟩), s_0.2.2.2.2.1] : List (List Nat)), (r_4.1, r_4.2), r_6)⟩)]) (.cons (cP F) (by kernel_rfl) (.nil))) [1, 4, 5, 6] [] ?_))
   simp only [go_sem]
   repeat (refine ⟨zAC, ?_⟩)
   obtain ⟨r_8, he3, h⟩ := bind_some h
   try dsimp only at h
   refine aC (aB (aX hF (bS (l := [(76, ⟨bX F, [1, 4], (([(aI ⟨#[115, 116, 101, 112]⟩), s_0.2.2.2.2.2.1, s_0.2.2.2.2.2.2.1] : List (List Nat)), (r_6.1, r_6.2), r_8)⟩)]) (.cons (cP F) (by kernel_rfl) (.nil))) [1, 4, 5, 6] [] ?_))
   simp only [go_sem]
   repeat (refine ⟨zAC, ?_⟩)
   obtain ⟨r_10, he4, h⟩ := bind_some h
   try dsimp only at h
   refine aC (aB (aX hF (bS (l := [(76, ⟨bX F, [1, 5], (([(aI ⟨#[116, 111, 108]⟩), s_0.2.2.2.2.2.2.2.1] : List (List Nat)), (r_8.1, r_8.2), r_10)⟩)]) (.cons (cP F) (by kernel_rfl) (.nil))) [1, 4, 5, 6] [] ?_))
   simp only [go_sem]
   repeat (refine ⟨zAC, ?_⟩)
   obtain ⟨g0, h⟩ := aJ h
   obtain ⟨r_12, he5, h⟩ := bind_some h
   try dsimp only at h
   refine aC (aB (aX hF (bS (l := [(76, ⟨bX F, [1, 6], (([(aI ⟨#[116, 114, 105, 101, 115]⟩), ((dM F s_0.2.1).getD ([] : List Nat))] : List (List Nat)), (r_10.1, r_10.2), r_12)⟩)]) (.cons (cP F) (by kernel_rfl) (.nil))) [1, 4, 5, 6] [] ?_))
   simp only [go_sem]
   repeat (refine ⟨zAC, ?_⟩)
   obtain ⟨g0, h⟩ := aJ h
   obtain ⟨r_14, he6, h⟩ := bind_some h
   try dsimp only at h
   refine aC (aB (aX hF (bS (l := [(76, ⟨bX F, [1, 7], (([(aI ⟨#[111, 114, 100, 101, 114]⟩), ((dM F s_0.2.2.1).getD ([] : List Nat))] : List (List Nat)), (r_12.1, r_12.2), r_14)⟩)]) (.cons (cP F) (by kernel_rfl) (.nil))) [1, 4, 5, 6] [] ?_))
   simp only [go_sem]
   repeat (refine ⟨zAC, ?_⟩)
   obtain ⟨r_16, he7, h⟩ := bind_some h
   try dsimp only at h
   refine aC (aB (aX hF (bS (l := [(76, ⟨bX F, [1, 8], (([mode_2] : List (List Nat)), (r_14.1, r_14.2), r_16)⟩)]) (.cons (cP F) (by kernel_rfl) (.nil))) [1, 4, 5] [] ?_))
   simp only [go_sem]
   repeat (refine ⟨zAC, ?_⟩)
   refine aC (eZ (D := Bool × (List Nat)) (fun d => tT F s_0 d.1 d.2 = some r) [] (fun d => [(1, .ptr 0 []), (4, .ptr 1 []), (5, .fn 76 [] [1])]) (fun d => [.inr (.box 10 (.val (.pair (.i .i64) (.pair (.i .i64) (.pair (.i .i64) (.pair (.i .i64) (.pair .str (.pair .str (.pair .str (.pair .str (.pair (.sl (.pair .str (.pair (.sl (.pair .str (.pair (.pair .str (.pair .str .unit)) (.pair .expr .unit)))) (.pair (.sl (.pair .str (.pair (.pair .str (.pair .str .unit)) .unit))) (.pair (.sl .str) (.pair (.sl (.pair .str (.pair .expr .unit))) .unit)))))) (.pair (.sl (.pair .str (.pair .str (.pair .str (.pair .str .unit))))) .unit)))))))))) s_0)), .inr (.box 4294967397 (.agg [pk d.1 1, .own 2])), .inr (.row 5 (.u .u8) d.2)]) ?_ ?_)
   ·refine aB (aD hF [1, 4, 5, 66, 67, 68] ?_)
    simp only [go_sem]
    refine aC (cJ (wL [0, 1, 9] rfl rfl ?_))
    simp only [ren, eF, gZ, posOf, cQ, go_sem]
    refine jL (D := Int × Bool × (List Nat)) [66, 67] (fun d => [(1, .ptr 0 []), (4, .ptr 1 []), (5, .fn 76 [] [1]), (68, .val (.i .i64) d.1)]) (fun d => [.inr (.box 10 (.val (.pair (.i .i64) (.pair (.i .i64) (.pair (.i .i64) (.pair (.i .i64) (.pair .str (.pair .str (.pair .str (.pair .str (.pair (.sl (.pair .str (.pair (.sl (.pair .str (.pair (.pair .str (.pair .str .unit)) (.pair .expr .unit)))) (.pair (.sl (.pair .str (.pair (.pair .str (.pair .str .unit)) .unit))) (.pair (.sl .str) (.pair (.sl (.pair .str (.pair .expr .unit))) .unit)))))) (.pair (.sl (.pair .str (.pair .str (.pair .str (.pair .str .unit))))) .unit)))))))))) s_0)), .inr (.box 4294967397 (.agg [pk d.2.1 1, .own 2])), .inr (.row 5 (.u .u8) d.2.2)]) h ?_ ?_ ?_
    ·first | rfl | (simp only [go_sem]; done)
    ·exact zAG
    rintro ⟨x68_172, b_173, x_174⟩ s16 h hs16
    simp only [go_sem]
    try dsimp only at h
    unfold aAb at h
    refine aB (aD hF [1, 4, 5, 66, 67, 68, 69] ?_)
    simp only [go_sem]
    refine aC (aB (bD rfl (fun hc => ?_) (fun hc => ?_)))
    ·try simp only [go_sem] at hc
     have h := dP zAB h
     refine bL (aC (aB (cJ (aB (aU hF [1, 4, 5, 8, 66, 67, 68] ?_)))))
     simp only [go_sem]
     obtain ⟨g0, h⟩ := aJ h
     repeat (refine ⟨zAA, ?_⟩)
     obtain ⟨r_261, he11, h⟩ := bind_some h
     try dsimp only at h
     refine aC (aB (aX hF (bS (l := [(76, ⟨bX F, [1, 2], (([(aI ⟨#[115, 117, 98]⟩), (s_0.2.2.2.2.2.2.2.2.1.getD (x68_172.toNat) ([], [], [], [], [], ())).1] : List (List Nat)), (b_173, x_174), r_261)⟩)]) (.cons (cP F) (by kernel_rfl) (.nil))) [1, 4, 5, 8, 66, 67, 68] [] ?_))
     simp only [go_sem]
     repeat (refine ⟨zAC, ?_⟩)
     refine aC (eZ (D := Bool × (List Nat)) (fun d => tW F s_0 x68_172 d.1 d.2 = some s16) [66, 67, 68] (fun d => [(1, .ptr 0 []), (4, .ptr 1 []), (5, .fn 76 [] [1]), (8, .ptr 3 [])]) (fun d => [.inr (.box 10 (.val (.pair (.i .i64) (.pair (.i .i64) (.pair (.i .i64) (.pair (.i .i64) (.pair .str (.pair .str (.pair .str (.pair .str (.pair (.sl (.pair .str (.pair (.sl (.pair .str (.pair (.pair .str (.pair .str .unit)) (.pair .expr .unit)))) (.pair (.sl (.pair .str (.pair (.pair .str (.pair .str .unit)) .unit))) (.pair (.sl .str) (.pair (.sl (.pair .str (.pair .expr .unit))) .unit)))))) (.pair (.sl (.pair .str (.pair .str (.pair .str (.pair .str .unit))))) .unit)))))))))) s_0)), .inr (.box 4294967397 (.agg [pk d.1 1, .own 2])), .inr (.row 5 (.u .u8) d.2), .inr (.box 5 (.val (.pair .str (.pair (.sl (.pair .str (.pair (.pair .str (.pair .str .unit)) (.pair .expr .unit)))) (.pair (.sl (.pair .str (.pair (.pair .str (.pair .str .unit)) .unit))) (.pair (.sl .str) (.pair (.sl (.pair .str (.pair .expr .unit))) .unit))))) (s_0.2.2.2.2.2.2.2.2.1.getD (x68_172.toNat) ([], [], [], [], [], ()))))]) ?_ ?_)
     ·refine aB (aD hF [1, 4, 5, 8, 66, 67, 68, 78, 79, 80] ?_)
      simp only [go_sem]
      refine aC (cJ (wL [0, 1, 4, 3] rfl rfl ?_))
      simp only [ren, eF, gZ, posOf, cQ, go_sem]
      refine jL (D := Int × Bool × (List Nat)) [66, 67, 68, 78, 79] (fun d => [(1, .ptr 0 []), (4, .ptr 1 []), (5, .fn 76 [] [1]), (8, .ptr 3 []), (80, .val (.i .i64) d.1)]) (fun d => [.inr (.box 10 (.val (.pair (.i .i64) (.pair (.i .i64) (.pair (.i .i64) (.pair (.i .i64) (.pair .str (.pair .str (.pair .str (.pair .str (.pair (.sl (.pair .str (.pair (.sl (.pair .str (.pair (.pair .str (.pair .str .unit)) (.pair .expr .unit)))) (.pair (.sl (.pair .str (.pair (.pair .str (.pair .str .unit)) .unit))) (.pair (.sl .str) (.pair (.sl (.pair .str (.pair .expr .unit))) .unit)))))) (.pair (.sl (.pair .str (.pair .str (.pair .str (.pair .str .unit))))) .unit)))))))))) s_0)), .inr (.box 4294967397 (.agg [pk d.2.1 1, .own 2])), .inr (.row 5 (.u .u8) d.2.2), .inr (.box 5 (.val (.pair .str (.pair (.sl (.pair .str (.pair (.pair .str (.pair .str .unit)) (.pair .expr .unit)))) (.pair (.sl (.pair .str (.pair (.pair .str (.pair .str .unit)) .unit))) (.pair (.sl .str) (.pair (.sl (.pair .str (.pair .expr .unit))) .unit))))) (s_0.2.2.2.2.2.2.2.2.1.getD (x68_172.toNat) ([], [], [], [], [], ()))))]) h ?_ ?_ ?_
      ·first | rfl | (simp only [go_sem]; done)
      ·exact zAG
      rintro ⟨x80_329, b_330, x_331⟩ s20 h hs20
      simp only [go_sem]
      try dsimp only at h
      unfold aAa at h
      refine aB (aD hF [1, 4, 5, 8, 66, 67, 68, 78, 79, 80, 81] ?_)
      simp only [go_sem]
      refine aC (aB (bD rfl (fun hc => ?_) (fun hc => ?_)))
      ·try simp only [go_sem] at hc
       have h := dP zAB h
       refine bL (aC (aB (cJ (aB (aU hF [1, 4, 5, 8, 10, 66, 67, 68, 78, 79, 80] ?_)))))
       simp only [go_sem]
       obtain ⟨g0, h⟩ := aJ h
       repeat (refine ⟨zAA, ?_⟩)
       obtain ⟨g0, h⟩ := aJ h
       obtain ⟨g1, h⟩ := aJ h
       obtain ⟨r_339, he15, h⟩ := bind_some h
       try dsimp only at h
       refine aC (rM hF (bS (l := [(76, ⟨bX F, [1, 2], (([(aI ⟨#[115, 116, 97, 116, 101]⟩), ((s_0.2.2.2.2.2.2.2.2.1.getD (x68_172.toNat) ([], [], [], [], [], ())).2.1.getD (x80_329.toNat) ([], ([], [], ()), (Ex.mk 0 [] []), ())).1, (aI ⟨#[61]⟩), ((jG F ((s_0.2.2.2.2.2.2.2.2.1.getD (x68_172.toNat) ([], [], [], [], [], ())).2.1.getD (x80_329.toNat) ([], ([], [], ()), (Ex.mk 0 [] []), ())).2.1).getD ([] : List Nat)), (aI ⟨#[100, 101, 114]⟩), ((dK F 64 ((s_0.2.2.2.2.2.2.2.2.1.getD (x68_172.toNat) ([], [], [], [], [], ())).2.1.getD (x80_329.toNat) ([], ([], [], ()), (Ex.mk 0 [] []), ())).2.2.1).getD ([] : List Nat))] : List (List Nat)), (b_330, x_331), r_339)⟩)]) (.cons (cP F) (by kernel_rfl) (.nil))) 10 (by decide) [1, 4, 5, 8, 66, 67, 68, 78, 79, 80] [] ?_)
       simp only [go_sem]
       repeat (refine ⟨zAC, ?_⟩)
       simp only [aLl, go_sem]
       repeat (refine ⟨zAC, ?_⟩)
       refine dE (aC (aD hF [1, 4, 5, 8, 66, 67, 68, 78, 79, 80] ?_))
       simp only [go_sem]
       obtain ⟨g0, h⟩ := aJ h
       try simp only [I64, I32] at g0
       repeat (refine ⟨zAA, ?_⟩)
       obtain rfl := Option.some.inj h
       dsimp only [kI] at hs20
       refine aS (fZ [0, 1, 5, 3] rfl rfl ?_)
       simp only [ren, eF, gZ, posOf, cQ, go_sem]
       refine aQ ((x80_329 + (1 : Int)), r_339.1, r_339.2) hs20 rfl ?_
       ·exact zAG
      ·try simp only [go_sem] at hc
       have h := dQ zAB h
       obtain rfl := Option.some.inj h
       dsimp only [kI] at hs20
       have h := hs20
       try dsimp only at h
       refine kT (bM (bM (cX (aS (aQ (b_330, x_331) h rfl ?_)))))
       ·exact zAG
     ·rintro ⟨b_270, x_271⟩ h
      try dsimp only at h
      simp only [go_sem]
      unfold tW at h
      refine eZ (D := Bool × (List Nat)) (fun d => tV F s_0 x68_172 d.1 d.2 = some s16) [66, 67, 68] (fun d => [(1, .ptr 0 []), (4, .ptr 1 []), (5, .fn 76 [] [1]), (8, .ptr 3 [])]) (fun d => [.inr (.box 10 (.val (.pair (.i .i64) (.pair (.i .i64) (.pair (.i .i64) (.pair (.i .i64) (.pair .str (.pair .str (.pair .str (.pair .str (.pair (.sl (.pair .str (.pair (.sl (.pair .str (.pair (.pair .str (.pair .str .unit)) (.pair .expr .unit)))) (.pair (.sl (.pair .str (.pair (.pair .str (.pair .str .unit)) .unit))) (.pair (.sl .str) (.pair (.sl (.pair .str (.pair .expr .unit))) .unit)))))) (.pair (.sl (.pair .str (.pair .str (.pair .str (.pair .str .unit))))) .unit)))))))))) s_0)), .inr (.box 4294967397 (.agg [pk d.1 1, .own 2])), .inr (.row 5 (.u .u8) d.2), .inr (.box 5 (.val (.pair .str (.pair (.sl (.pair .str (.pair (.pair .str (.pair .str .unit)) (.pair .expr .unit)))) (.pair (.sl (.pair .str (.pair (.pair .str (.pair .str .unit)) .unit))) (.pair (.sl .str) (.pair (.sl (.pair .str (.pair .expr .unit))) .unit))))) (s_0.2.2.2.2.2.2.2.2.1.getD (x68_172.toNat) ([], [], [], [], [], ()))))]) ?_ ?_
      ·refine aB (aD hF [1, 4, 5, 8, 66, 67, 68, 97, 98, 99] ?_)
       simp only [go_sem]
       refine aC (cJ (jL (D := Int × Bool × (List Nat)) [66, 67, 68, 97, 98] (fun d => [(1, .ptr 0 []), (4, .ptr 1 []), (5, .fn 76 [] [1]), (8, .ptr 3 []), (99, .val (.i .i64) d.1)]) (fun d => [.inr (.box 10 (.val (.pair (.i .i64) (.pair (.i .i64) (.pair (.i .i64) (.pair (.i .i64) (.pair .str (.pair .str (.pair .str (.pair .str (.pair (.sl (.pair .str (.pair (.sl (.pair .str (.pair (.pair .str (.pair .str .unit)) (.pair .expr .unit)))) (.pair (.sl (.pair .str (.pair (.pair .str (.pair .str .unit)) .unit))) (.pair (.sl .str) (.pair (.sl (.pair .str (.pair .expr .unit))) .unit)))))) (.pair (.sl (.pair .str (.pair .str (.pair .str (.pair .str .unit))))) .unit)))))))))) s_0)), .inr (.box 4294967397 (.agg [pk d.2.1 1, .own 2])), .inr (.row 5 (.u .u8) d.2.2), .inr (.box 5 (.val (.pair .str (.pair (.sl (.pair .str (.pair (.pair .str (.pair .str .unit)) (.pair .expr .unit)))) (.pair (.sl (.pair .str (.pair (.pair .str (.pair .str .unit)) .unit))) (.pair (.sl .str) (.pair (.sl (.pair .str (.pair .expr .unit))) .unit))))) (s_0.2.2.2.2.2.2.2.2.1.getD (x68_172.toNat) ([], [], [], [], [], ()))))]) h ?_ ?_ ?_))
       ·first | rfl | (simp only [go_sem]; done)
       ·exact zAG
       rintro ⟨x99_317, b_318, x_319⟩ s25 h hs25
       simp only [go_sem]
       try dsimp only at h
       unfold zZ at h
       refine aB (aD hF [1, 4, 5, 8, 66, 67, 68, 97, 98, 99, 100] ?_)
       simp only [go_sem]
       refine aC (aB (bD rfl (fun hc => ?_) (fun hc => ?_)))
       ·try simp only [go_sem] at hc
        have h := dP zAB h
        refine bL (aC (aB (cJ (aB (aU hF [1, 4, 5, 8, 12, 66, 67, 68, 97, 98, 99] ?_)))))
        simp only [go_sem]
        obtain ⟨g0, h⟩ := aJ h
        repeat (refine ⟨zAA, ?_⟩)
        obtain ⟨g0, h⟩ := aJ h
        obtain ⟨r_327, he14, h⟩ := bind_some h
        try dsimp only at h
        refine aC (rM hF (bS (l := [(76, ⟨bX F, [1, 2], (([(aI ⟨#[112, 97, 114]⟩), ((s_0.2.2.2.2.2.2.2.2.1.getD (x68_172.toNat) ([], [], [], [], [], ())).2.2.1.getD (x99_317.toNat) ([], ([], [], ()), ())).1, (aI ⟨#[61]⟩), ((jG F ((s_0.2.2.2.2.2.2.2.2.1.getD (x68_172.toNat) ([], [], [], [], [], ())).2.2.1.getD (x99_317.toNat) ([], ([], [], ()), ())).2.1).getD ([] : List Nat))] : List (List Nat)), (b_318, x_319), r_327)⟩)]) (.cons (cP F) (by kernel_rfl) (.nil))) 7 (by decide) [1, 4, 5, 8, 66, 67, 68, 97, 98, 99] [] ?_)
        simp only [go_sem]
        repeat (refine ⟨zAC, ?_⟩)
        simp only [aLl, go_sem]
        repeat (refine ⟨zAC, ?_⟩)
        refine dE (aC (aD hF [1, 4, 5, 8, 66, 67, 68, 97, 98, 99] ?_))
        simp only [go_sem]
        obtain ⟨g0, h⟩ := aJ h
        try simp only [I64, I32] at g0
        repeat (refine ⟨zAA, ?_⟩)
        obtain rfl := Option.some.inj h
        dsimp only [kI] at hs25
        refine aS (fZ [0, 1, 5, 3] rfl rfl ?_)
        simp only [ren, eF, gZ, posOf, cQ, go_sem]
        refine aQ ((x99_317 + (1 : Int)), r_327.1, r_327.2) hs25 rfl ?_
        ·exact zAG
       ·try simp only [go_sem] at hc
        have h := dQ zAB h
        obtain rfl := Option.some.inj h
        dsimp only [kI] at hs25
        have h := hs25
        try dsimp only at h
        refine kT (bM (bM (cX (aS (aQ (b_318, x_319) h rfl ?_)))))
        ·exact zAG
      ·rintro ⟨b_280, x_281⟩ h
       try dsimp only at h
       simp only [go_sem]
       unfold tV at h
       refine eZ (D := Bool × (List Nat)) (fun d => tU F s_0 x68_172 d.1 d.2 = some s16) [66, 67, 68] (fun d => [(1, .ptr 0 []), (4, .ptr 1 []), (5, .fn 76 [] [1]), (8, .ptr 3 [])]) (fun d => [.inr (.box 10 (.val (.pair (.i .i64) (.pair (.i .i64) (.pair (.i .i64) (.pair (.i .i64) (.pair .str (.pair .str (.pair .str (.pair .str (.pair (.sl (.pair .str (.pair (.sl (.pair .str (.pair (.pair .str (.pair .str .unit)) (.pair .expr .unit)))) (.pair (.sl (.pair .str (.pair (.pair .str (.pair .str .unit)) .unit))) (.pair (.sl .str) (.pair (.sl (.pair .str (.pair .expr .unit))) .unit)))))) (.pair (.sl (.pair .str (.pair .str (.pair .str (.pair .str .unit))))) .unit)))))))))) s_0)), .inr (.box 4294967397 (.agg [pk d.1 1, .own 2])), .inr (.row 5 (.u .u8) d.2), .inr (.box 5 (.val (.pair .str (.pair (.sl (.pair .str (.pair (.pair .str (.pair .str .unit)) (.pair .expr .unit)))) (.pair (.sl (.pair .str (.pair (.pair .str (.pair .str .unit)) .unit))) (.pair (.sl .str) (.pair (.sl (.pair .str (.pair .expr .unit))) .unit))))) (s_0.2.2.2.2.2.2.2.2.1.getD (x68_172.toNat) ([], [], [], [], [], ()))))]) ?_ ?_
       ·refine aB (aD hF [1, 4, 5, 8, 66, 67, 68, 113, 114, 115] ?_)
        simp only [go_sem]
        refine aC (cJ (jL (D := Int × Bool × (List Nat)) [66, 67, 68, 113, 114] (fun d => [(1, .ptr 0 []), (4, .ptr 1 []), (5, .fn 76 [] [1]), (8, .ptr 3 []), (115, .val (.i .i64) d.1)]) (fun d => [.inr (.box 10 (.val (.pair (.i .i64) (.pair (.i .i64) (.pair (.i .i64) (.pair (.i .i64) (.pair .str (.pair .str (.pair .str (.pair .str (.pair (.sl (.pair .str (.pair (.sl (.pair .str (.pair (.pair .str (.pair .str .unit)) (.pair .expr .unit)))) (.pair (.sl (.pair .str (.pair (.pair .str (.pair .str .unit)) .unit))) (.pair (.sl .str) (.pair (.sl (.pair .str (.pair .expr .unit))) .unit)))))) (.pair (.sl (.pair .str (.pair .str (.pair .str (.pair .str .unit))))) .unit)))))))))) s_0)), .inr (.box 4294967397 (.agg [pk d.2.1 1, .own 2])), .inr (.row 5 (.u .u8) d.2.2), .inr (.box 5 (.val (.pair .str (.pair (.sl (.pair .str (.pair (.pair .str (.pair .str .unit)) (.pair .expr .unit)))) (.pair (.sl (.pair .str (.pair (.pair .str (.pair .str .unit)) .unit))) (.pair (.sl .str) (.pair (.sl (.pair .str (.pair .expr .unit))) .unit))))) (s_0.2.2.2.2.2.2.2.2.1.getD (x68_172.toNat) ([], [], [], [], [], ()))))]) h ?_ ?_ ?_))
        ·first | rfl | (simp only [go_sem]; done)
        ·exact zAG
        rintro ⟨x115_305, b_306, x_307⟩ s30 h hs30
        simp only [go_sem]
        try dsimp only at h
        unfold zY at h
        refine aB (aD hF [1, 4, 5, 8, 66, 67, 68, 113, 114, 115, 116] ?_)
        simp only [go_sem]
        refine aC (aB (bD rfl (fun hc => ?_) (fun hc => ?_)))
        ·try simp only [go_sem] at hc
         have h := dP zAB h
         refine bL (aC (aB (cJ (aB (aD hF [1, 4, 5, 8, 14, 66, 67, 68, 113, 114, 115] ?_)))))
         simp only [go_sem]
         obtain ⟨g0, h⟩ := aJ h
         repeat (refine ⟨zAA, ?_⟩)
         obtain ⟨r_315, he13, h⟩ := bind_some h
         try dsimp only at h
         refine aC (aX hF (bS (l := [(76, ⟨bX F, [1, 2], (([(aI ⟨#[105, 110]⟩), ((s_0.2.2.2.2.2.2.2.2.1.getD (x68_172.toNat) ([], [], [], [], [], ())).2.2.2.1.getD (x115_305.toNat) ([] : List Nat))] : List (List Nat)), (b_306, x_307), r_315)⟩)]) (.cons (cP F) (by kernel_rfl) (.nil))) [1, 4, 5, 8, 66, 67, 68, 113, 114, 115] [] ?_)
         simp only [go_sem]
         repeat (refine ⟨zAC, ?_⟩)
         refine dE (aC (aD hF [1, 4, 5, 8, 66, 67, 68, 113, 114, 115] ?_))
         simp only [go_sem]
         obtain ⟨g0, h⟩ := aJ h
         try simp only [I64, I32] at g0
         repeat (refine ⟨zAA, ?_⟩)
         obtain rfl := Option.some.inj h
         dsimp only [kI] at hs30
         refine aS (fZ [0, 1, 4, 3] rfl rfl ?_)
         simp only [ren, eF, gZ, posOf, cQ, go_sem]
         refine aQ ((x115_305 + (1 : Int)), r_315.1, r_315.2) hs30 rfl ?_
         ·exact zAG
        ·try simp only [go_sem] at hc
         have h := dQ zAB h
         obtain rfl := Option.some.inj h
         dsimp only [kI] at hs30
         have h := hs30
         try dsimp only at h
         refine kT (bM (bM (cX (aS (aQ (b_306, x_307) h rfl ?_)))))
         ·exact zAG
       ·rintro ⟨b_290, x_291⟩ h
        try dsimp only at h
        simp only [go_sem]
        unfold tU at h
        refine aB (aD hF [1, 4, 5, 66, 67, 68, 125, 126, 127] ?_)
        simp only [go_sem]
        refine aC (cJ (wL [0, 1, 2] rfl rfl ?_))
        simp only [ren, eF, gZ, posOf, cQ, go_sem]
        refine jL (D := Int × Bool × (List Nat)) [66, 67, 68, 125, 126] (fun d => [(1, .ptr 0 []), (4, .ptr 1 []), (5, .fn 76 [] [1]), (127, .val (.i .i64) d.1)]) (fun d => [.inr (.box 10 (.val (.pair (.i .i64) (.pair (.i .i64) (.pair (.i .i64) (.pair (.i .i64) (.pair .str (.pair .str (.pair .str (.pair .str (.pair (.sl (.pair .str (.pair (.sl (.pair .str (.pair (.pair .str (.pair .str .unit)) (.pair .expr .unit)))) (.pair (.sl (.pair .str (.pair (.pair .str (.pair .str .unit)) .unit))) (.pair (.sl .str) (.pair (.sl (.pair .str (.pair .expr .unit))) .unit)))))) (.pair (.sl (.pair .str (.pair .str (.pair .str (.pair .str .unit))))) .unit)))))))))) s_0)), .inr (.box 4294967397 (.agg [pk d.2.1 1, .own 2])), .inr (.row 5 (.u .u8) d.2.2)]) h ?_ ?_ ?_
        ·first | rfl | (simp only [go_sem]; done)
        ·exact zAG
        rintro ⟨x127_293, b_294, x_295⟩ s35 h hs35
        simp only [go_sem]
        try dsimp only at h
        unfold zX at h
        refine aB (aD hF [1, 4, 5, 66, 67, 68, 125, 126, 127, 128] ?_)
        simp only [go_sem]
        refine aC (aB (bD rfl (fun hc => ?_) (fun hc => ?_)))
        ·try simp only [go_sem] at hc
         have h := dP zAB h
         refine bL (aC (aB (cJ (aB (aU hF [1, 4, 5, 16, 66, 67, 68, 125, 126, 127] ?_)))))
         simp only [go_sem]
         obtain ⟨g0, h⟩ := aJ h
         repeat (refine ⟨zAA, ?_⟩)
         obtain ⟨g0, h⟩ := aJ h
         obtain ⟨r_303, he12, h⟩ := bind_some h
         try dsimp only at h
         refine aC (rM hF (bS (l := [(76, ⟨bX F, [1, 2], (([(aI ⟨#[111, 117, 116]⟩), ((s_0.2.2.2.2.2.2.2.2.1.getD (x68_172.toNat) ([], [], [], [], [], ())).2.2.2.2.1.getD (x127_293.toNat) ([], (Ex.mk 0 [] []), ())).1, (aI ⟨#[61]⟩), ((dK F 64 ((s_0.2.2.2.2.2.2.2.2.1.getD (x68_172.toNat) ([], [], [], [], [], ())).2.2.2.2.1.getD (x127_293.toNat) ([], (Ex.mk 0 [] []), ())).2.1).getD ([] : List Nat))] : List (List Nat)), (b_294, x_295), r_303)⟩)]) (.cons (cP F) (by kernel_rfl) (.nil))) 7 (by decide) [1, 4, 5, 66, 67, 68, 125, 126, 127] [] ?_)
         simp only [go_sem]
         repeat (refine ⟨zAC, ?_⟩)
         simp only [aLl, go_sem]
         repeat (refine ⟨zAC, ?_⟩)
         refine dE (aC (aD hF [1, 4, 5, 66, 67, 68, 125, 126, 127] ?_))
         simp only [go_sem]
         obtain ⟨g0, h⟩ := aJ h
         try simp only [I64, I32] at g0
         repeat (refine ⟨zAA, ?_⟩)
         obtain rfl := Option.some.inj h
         dsimp only [kI] at hs35
         refine aS (fZ [0, 1, 4] rfl rfl ?_)
         simp only [ren, eF, gZ, posOf, cQ, go_sem]
         refine aQ ((x127_293 + (1 : Int)), r_303.1, r_303.2) hs35 rfl ?_
         ·exact zAG
        ·try simp only [go_sem] at hc
         have h := dQ zAB h
         obtain rfl := Option.some.inj h
         dsimp only [kI] at hs35
         have h := hs35
         try dsimp only at h
         refine kT (bM (bM (cX (dE (aC (aD hF [1, 4, 5, 66, 67, 68] ?_))))))
         simp only [go_sem]
         obtain ⟨g0, h⟩ := aJ h
         try simp only [I64, I32] at g0
         repeat (refine ⟨zAA, ?_⟩)
         obtain rfl := Option.some.inj h
         dsimp only [kI] at hs16
         refine aS (aQ ((x68_172 + (1 : Int)), b_294, x_295) hs16 rfl ?_)
         ·exact zAG
    ·try simp only [go_sem] at hc
     have h := dQ zAB h
     obtain rfl := Option.some.inj h
     dsimp only [kI] at hs16
     have h := hs16
     try dsimp only at h
     refine kT (bM (bM (cX (aS (aQ (b_173, x_174) h rfl ?_)))))
     ·exact zAG
   ·rintro ⟨b_105, x_106⟩ h
    try dsimp only at h
    simp only [go_sem]
    unfold tT at h
    refine aB (aB (aD hF [4, 5, 142, 143, 144] ?_))
    simp only [go_sem]
    refine aC (cJ (wL [1, 2] rfl rfl ?_))
    simp only [ren, eF, gZ, posOf, cQ, go_sem]
    refine jL (D := Int × Bool × (List Nat)) [142, 143] (fun d => [(4, .ptr 0 []), (5, .fn 76 [] [0]), (144, .val (.i .i64) d.1)]) (fun d => [.inr (.box 4294967397 (.agg [pk d.2.1 0, .own 1])), .inr (.row 5 (.u .u8) d.2.2)]) h ?_ ?_ ?_
    ·first | rfl | (simp only [go_sem]; done)
    ·exact zAG
    rintro ⟨x144_116, b_117, x_118⟩ s41 h hs41
    simp only [go_sem]
    try dsimp only at h
    unfold zW at h
    refine aB (aD hF [4, 5, 142, 143, 144, 145] ?_)
    simp only [go_sem]
    refine aC (aB (bD rfl (fun hc => ?_) (fun hc => ?_)))
    ·try simp only [go_sem] at hc
     have h := dP zAB h
     refine bL (aC (aB (cJ (aB (aU hF [4, 5, 18, 142, 143, 144] ?_)))))
     simp only [go_sem]
     obtain ⟨g0, h⟩ := aJ h
     repeat (refine ⟨zAA, ?_⟩)
     obtain ⟨g0, h⟩ := aJ h
     obtain ⟨g1, h⟩ := aJ h
     obtain ⟨g2, h⟩ := aJ h
     obtain ⟨g3, h⟩ := aJ h
     obtain ⟨r_126, he8, h⟩ := bind_some h
     try dsimp only at h
     refine aC (aX hF (bS (l := [(76, ⟨bX F, [0, 1], (([(aI ⟨#[108, 105, 110, 107]⟩), (((s_0.2.2.2.2.2.2.2.2.2.1.getD (x144_116.toNat) ([], [], [], [], ())).1 ++ (aI ⟨#[46]⟩)) ++ (s_0.2.2.2.2.2.2.2.2.2.1.getD (x144_116.toNat) ([], [], [], [], ())).2.1), (aI ⟨#[61]⟩), (((s_0.2.2.2.2.2.2.2.2.2.1.getD (x144_116.toNat) ([], [], [], [], ())).2.2.1 ++ (aI ⟨#[46]⟩)) ++ (s_0.2.2.2.2.2.2.2.2.2.1.getD (x144_116.toNat) ([], [], [], [], ())).2.2.2.1)] : List (List Nat)), (b_117, x_118), r_126)⟩)]) (.cons (cP F) (by kernel_rfl) (.nil))) [4, 5, 142, 143, 144] [] ?_)
     simp only [go_sem]
     repeat (refine ⟨zAC, ?_⟩)
     refine dE (aC (aD hF [4, 5, 142, 143, 144] ?_))
     simp only [go_sem]
     obtain ⟨g0, h⟩ := aJ h
     try simp only [I64, I32] at g0
     repeat (refine ⟨zAA, ?_⟩)
     obtain rfl := Option.some.inj h
     dsimp only [kI] at hs41
     refine aS (fZ [0, 3] rfl rfl ?_)
     simp only [ren, eF, gZ, posOf, cQ, go_sem]
     refine aQ ((x144_116 + (1 : Int)), r_126.1, r_126.2) hs41 rfl ?_
     ·exact zAG
    ·try simp only [go_sem] at hc
     have h := dQ zAB h
     obtain rfl := Option.some.inj h
     dsimp only [kI] at hs41
     have h := hs41
     try dsimp only at h
     obtain ⟨r_128, he9, h⟩ := bind_some h
     try dsimp only at h
     refine kT (bM (bM (cX (aC (aB (aX hF (bS (l := [(51, ⟨gD F, [0, 1], ((b_117, x_118), r_128)⟩)]) (.cons (yZ F) (by kernel_rfl) (.nil))) [2, 3] [] ?_))))))
     simp only [go_sem]
     repeat (refine ⟨zAC, ?_⟩)
     obtain rfl := Option.some.inj h
     refine aC (cH (dC hF [.tmp 2, .tmp 3] rfl rfl rfl ?_))
     exact zAH
attribute [go_sem] sR
end Nu
end Go.Proofs
namespace Go.Proofs
open Go.Vc
set_option maxRecDepth 20000
namespace Nu
attribute [-go_sem] Ex.kind Ex.text Ex.l
def aKj : ByteArray := ⟨⟨112 :: 114 :: 101 :: 99 :: 32 :: 52 :: 48 :: 10 :: 101 :: 110 :: 100 :: 32 :: 49 :: 10 :: 115 :: 116 :: 101 :: 112 :: 32 :: 48 :: 46 :: 53 :: 32 :: 48 :: 46 :: 49 :: 50 :: 53 :: 10 :: 116 :: 111 :: 108 :: 32 :: 49 :: 10 :: 116 :: 114 :: 105 :: 101 :: 115 :: 32 :: 52 :: 10 :: 111 :: 114 :: 100 :: 101 :: 114 :: 32 :: 48 :: 10 :: 106 :: 97 :: 99 :: 111 :: 98 :: 105 :: 10 :: 115 :: 117 :: 98 :: 32 :: 97 :: 10 :: 115 :: 116 :: 97 :: 116 :: 101 :: 32 :: 120 :: 32 :: 61 :: 32 :: 49 :: 32 :: 100 :: 101 :: 114 :: 32 :: 120 :: 10 :: 111 :: 117 :: 116 :: 32 :: 121 :: 32 :: 61 :: 32 :: 120 :: 10 :: []⟩⟩
theorem aKU : (⟨⟨112 :: 114 :: 101 :: 99 :: 32 :: 52 :: 48 :: 10 :: 101 :: 110 :: 100 :: 32 :: 49 :: 10 :: 115 :: 116 :: 101 :: 112 :: 32 :: 48 :: 46 :: 53 :: 32 :: 48 :: 46 :: 49 :: 50 :: 53 :: 10 :: 116 :: 111 :: 108 :: 32 :: 49 :: 10 :: 116 :: 114 :: 105 :: 101 :: 115 :: 32 :: 52 :: 10 :: 111 :: 114 :: 100 :: 101 :: 114 :: 32 :: 48 :: 10 :: 106 :: 97 :: 99 :: 111 :: 98 :: 105 :: 10 :: 115 :: 117 :: 98 :: 32 :: 97 :: 10 :: 115 :: 116 :: 97 :: 116 :: 101 :: 32 :: 120 :: 32 :: 61 :: 32 :: 49 :: 32 :: 100 :: 101 :: 114 :: 32 :: 120 :: 10 :: 111 :: 117 :: 116 :: 32 :: 121 :: 32 :: 61 :: 32 :: 120 :: 10 :: []⟩⟩ : ByteArray) = aKj := rfl
attribute [go_sem] aKU
noncomputable def cO (F : Md) : Option Bool :=
 (dK F 64 (Ex.mk (10 : Int) ([] : List Nat) ([(Ex.mk (6 : Int) ([] : List Nat) ([(Ex.mk (2 : Int) (aI ⟨#[97]⟩) ([] : List Ex)), (Ex.mk (2 : Int) (aI ⟨#[97]⟩) ([] : List Ex))] : List Ex))] : List Ex))).bind (fun v_5 => (uN F).bind (fun v_12 => (pP F v_12).bind (fun v_13 => (pP F ((0 : Int), (0 : Int), (0 : Int), (0 : Int), ([] : List Nat), ([] : List Nat), ([] : List Nat), ([] : List Nat), ([] : List ((List Nat) × ((List ((List Nat) × (((List Nat) × ((List Nat) × Unit)) × (Ex × Unit)))) × ((List ((List Nat) × (((List Nat) × ((List Nat) × Unit)) × Unit))) × ((List (List Nat)) × ((List ((List Nat) × (Ex × Unit))) × Unit)))))), ([] : List ((List Nat) × ((List Nat) × ((List Nat) × ((List Nat) × Unit))))), ())).bind (fun v_17 => some ((((decide (v_5 = (aI ⟨#[45, 40, 97, 32, 43, 32, 97, 41]⟩))) && (decide (v_13.2.1 = (0 : Int)))) && (decide (v_13.1 = (aI aKj)))) && (decide (v_17.2.1 = (1 : Int))))))))
def aDY : PlR := ⟨[(0, .A []), (1, .B [1]), (2, .A [2]), (3, .A [2, 3, 4]), (4, .A [2, 3, 4, 6]), (5, .A [0])], []⟩
def aFZ : Ty := .unit
noncomputable def uS (F : Md) : aG := mSpec aFZ (.one .bool) (fun x => cO F )
noncomputable def xL (F : Md) : List (FuncId × aG) := [(27, (sP F)), (33, (jK F 64)), (35, (sR F))]
theorem aMj (F : Md) : bC Tryz.prog GL (xL F) := .cons (aKd F) (by kernel_rfl) (.cons (uP F 64) (by kernel_rfl) (.cons (aKi F) (by kernel_rfl) (.nil)))
theorem aIs (F : Md) : gam (xL F) 27 = some (sP F) := rfl
theorem aIt (F : Md) : gam (xL F) 33 = some (jK F 64) := rfl
theorem aIu (F : Md) : gam (xL F) 35 = some (sR F) := rfl
attribute [go_sem] aFZ aDY aIs aIt aIu
set_option maxHeartbeats 4000000 in
theorem aKV (F : Md) : FOK Tryz.prog GL 31 (uS F) := by
 refine bG (aW (aMj F)) mix Tryz.func31 rfl (by kernel_rfl) (by decide) aDY fun w0 S x Θ hw h hF => ?_
 simp only [bH, go_sem]
 replace h : sat (cO F) _ := h
 unfold cO at h
 obtain ⟨v_5, hv, h⟩ := aH h
 try simp only [hv, go_sem]
 obtain ⟨v_12, hv, h⟩ := aH h
 try simp only [hv, go_sem]
 obtain ⟨v_13, hv, h⟩ := aH h
 try simp only [hv, go_sem]
 obtain ⟨v_17, hv, h⟩ := aH h
 try simp only [hv, go_sem]
 exact aF hF [.tmp 0] rfl rfl rfl (aA h) (by simp only [aT, go_sem])
attribute [go_sem] uS
noncomputable def fI (F : Md) (a_0 : Int) (in_5 : Ex) (s_7 : (List Nat)) : Option (Bool) :=
 ck ((cO F).isSome = true) (ck ((((cO F).getD false) = true) → ((dK F 64 (Ex.mk (Ex.mk (([6, 7, 8, 9, 10] : List Int).getD (IntKind.i64.wrap ((((a_0 % (18446744073709551616 : Int)).toNat % (5 : Nat)) : Nat) : Int)).toNat (0 : Int)) ([] : List Nat) ([in_5, (Ex.mk (2 : Int) (aI ⟨#[120]⟩) ([] : List Ex))] : List Ex)).kind (Ex.mk (([6, 7, 8, 9, 10] : List Int).getD (IntKind.i64.wrap ((((a_0 % (18446744073709551616 : Int)).toNat % (5 : Nat)) : Nat) : Int)).toNat (0 : Int)) ([] : List Nat) ([in_5, (Ex.mk (2 : Int) (aI ⟨#[120]⟩) ([] : List Ex))] : List Ex)).text (List.take (1 : Nat) (Ex.mk (([6, 7, 8, 9, 10] : List Int).getD (IntKind.i64.wrap ((((a_0 % (18446744073709551616 : Int)).toNat % (5 : Nat)) : Nat) : Int)).toNat (0 : Int)) ([] : List Nat) ([in_5, (Ex.mk (2 : Int) (aI ⟨#[120]⟩) ([] : List Ex))] : List Ex)).l))).isSome = true)) (ck ((((cO F).getD false) = true) → ((aI ⟨#[45]⟩).length + (s_7.length) ≤ 9223372036854775807)) (some (((cO F).getD false) && (decide (((dK F 64 (Ex.mk (Ex.mk (([6, 7, 8, 9, 10] : List Int).getD (IntKind.i64.wrap ((((a_0 % (18446744073709551616 : Int)).toNat % (5 : Nat)) : Nat) : Int)).toNat (0 : Int)) ([] : List Nat) ([in_5, (Ex.mk (2 : Int) (aI ⟨#[120]⟩) ([] : List Ex))] : List Ex)).kind (Ex.mk (([6, 7, 8, 9, 10] : List Int).getD (IntKind.i64.wrap ((((a_0 % (18446744073709551616 : Int)).toNat % (5 : Nat)) : Nat) : Int)).toNat (0 : Int)) ([] : List Nat) ([in_5, (Ex.mk (2 : Int) (aI ⟨#[120]⟩) ([] : List Ex))] : List Ex)).text (List.take (1 : Nat) (Ex.mk (([6, 7, 8, 9, 10] : List Int).getD (IntKind.i64.wrap ((((a_0 % (18446744073709551616 : Int)).toNat % (5 : Nat)) : Nat) : Int)).toNat (0 : Int)) ([] : List Nat) ([in_5, (Ex.mk (2 : Int) (aI ⟨#[120]⟩) ([] : List Ex))] : List Ex)).l))).getD ([] : List Nat)) = ((aI ⟨#[45]⟩) ++ s_7)))))))
noncomputable def fJ (F : Md) (a_0 : Int) (in_5 : Ex) (s_9 : (List Nat)) : Option (Bool) :=
 ck ((cO F).isSome = true) (ck ((((cO F).getD false) = true) → ((dK F 64 (Ex.mk (Ex.mk (([6, 7, 8, 9, 10] : List Int).getD (IntKind.i64.wrap ((((a_0 % (18446744073709551616 : Int)).toNat % (5 : Nat)) : Nat) : Int)).toNat (0 : Int)) ([] : List Nat) ([in_5, (Ex.mk (2 : Int) (aI ⟨#[120]⟩) ([] : List Ex))] : List Ex)).kind (Ex.mk (([6, 7, 8, 9, 10] : List Int).getD (IntKind.i64.wrap ((((a_0 % (18446744073709551616 : Int)).toNat % (5 : Nat)) : Nat) : Int)).toNat (0 : Int)) ([] : List Nat) ([in_5, (Ex.mk (2 : Int) (aI ⟨#[120]⟩) ([] : List Ex))] : List Ex)).text ([(Ex.mk (2 : Int) (aI ⟨#[120]⟩) ([] : List Ex)), in_5] : List Ex))).isSome = true)) (ck ((((cO F).getD false) = true) → (0 ≤ (IntKind.i64.wrap ((((a_0 % (18446744073709551616 : Int)).toNat % (5 : Nat)) : Nat) : Int)) ∧ (IntKind.i64.wrap ((((a_0 % (18446744073709551616 : Int)).toNat % (5 : Nat)) : Nat) : Int)) < (4 : Int))) (ck ((((cO F).getD false) = true) → ((aI ⟨#[120]⟩).length + (([(aI ⟨#[32, 43, 32]⟩), (aI ⟨#[32, 45, 32]⟩), (aI ⟨#[32, 42, 32]⟩), (aI ⟨#[32, 47, 32]⟩)] : List (List Nat)).getD (IntKind.i64.wrap ((((a_0 % (18446744073709551616 : Int)).toNat % (5 : Nat)) : Nat) : Int)).toNat ([] : List Nat)).length ≤ 9223372036854775807)) (ck ((((cO F).getD false) = true) → (((aI ⟨#[120]⟩) ++ (([(aI ⟨#[32, 43, 32]⟩), (aI ⟨#[32, 45, 32]⟩), (aI ⟨#[32, 42, 32]⟩), (aI ⟨#[32, 47, 32]⟩)] : List (List Nat)).getD (IntKind.i64.wrap ((((a_0 % (18446744073709551616 : Int)).toNat % (5 : Nat)) : Nat) : Int)).toNat ([] : List Nat))).length + (s_9.length) ≤ 9223372036854775807)) (some (((cO F).getD false) && (decide (((dK F 64 (Ex.mk (Ex.mk (([6, 7, 8, 9, 10] : List Int).getD (IntKind.i64.wrap ((((a_0 % (18446744073709551616 : Int)).toNat % (5 : Nat)) : Nat) : Int)).toNat (0 : Int)) ([] : List Nat) ([in_5, (Ex.mk (2 : Int) (aI ⟨#[120]⟩) ([] : List Ex))] : List Ex)).kind (Ex.mk (([6, 7, 8, 9, 10] : List Int).getD (IntKind.i64.wrap ((((a_0 % (18446744073709551616 : Int)).toNat % (5 : Nat)) : Nat) : Int)).toNat (0 : Int)) ([] : List Nat) ([in_5, (Ex.mk (2 : Int) (aI ⟨#[120]⟩) ([] : List Ex))] : List Ex)).text ([(Ex.mk (2 : Int) (aI ⟨#[120]⟩) ([] : List Ex)), in_5] : List Ex))).getD ([] : List Nat)) = (((aI ⟨#[120]⟩) ++ (([(aI ⟨#[32, 43, 32]⟩), (aI ⟨#[32, 45, 32]⟩), (aI ⟨#[32, 42, 32]⟩), (aI ⟨#[32, 47, 32]⟩)] : List (List Nat)).getD (IntKind.i64.wrap ((((a_0 % (18446744073709551616 : Int)).toNat % (5 : Nat)) : Nat) : Int)).toNat ([] : List Nat))) ++ s_9)))))))))
noncomputable def fK (F : Md) (a_0 : Int) (in_5 : Ex) (s_10 : (List Nat)) : Option (Bool) :=
 ck ((cO F).isSome = true) (ck ((((cO F).getD false) = true) → ((dK F 64 (Ex.mk (([6, 7, 8, 9, 10] : List Int).getD (IntKind.i64.wrap ((((a_0 % (18446744073709551616 : Int)).toNat % (5 : Nat)) : Nat) : Int)).toNat (0 : Int)) ([] : List Nat) ([in_5, (Ex.mk (2 : Int) (aI ⟨#[120]⟩) ([] : List Ex))] : List Ex))).isSome = true)) (ck ((((cO F).getD false) = true) → (0 ≤ (IntKind.i64.wrap ((((a_0 % (18446744073709551616 : Int)).toNat % (5 : Nat)) : Nat) : Int)) ∧ (IntKind.i64.wrap ((((a_0 % (18446744073709551616 : Int)).toNat % (5 : Nat)) : Nat) : Int)) < (4 : Int))) (ck ((((cO F).getD false) = true) → ((s_10.length) + (([(aI ⟨#[32, 43, 32]⟩), (aI ⟨#[32, 45, 32]⟩), (aI ⟨#[32, 42, 32]⟩), (aI ⟨#[32, 47, 32]⟩)] : List (List Nat)).getD (IntKind.i64.wrap ((((a_0 % (18446744073709551616 : Int)).toNat % (5 : Nat)) : Nat) : Int)).toNat ([] : List Nat)).length ≤ 9223372036854775807)) (ck ((((cO F).getD false) = true) → ((s_10 ++ (([(aI ⟨#[32, 43, 32]⟩), (aI ⟨#[32, 45, 32]⟩), (aI ⟨#[32, 42, 32]⟩), (aI ⟨#[32, 47, 32]⟩)] : List (List Nat)).getD (IntKind.i64.wrap ((((a_0 % (18446744073709551616 : Int)).toNat % (5 : Nat)) : Nat) : Int)).toNat ([] : List Nat))).length + (aI ⟨#[120]⟩).length ≤ 9223372036854775807)) (some (((cO F).getD false) && (decide (((dK F 64 (Ex.mk (([6, 7, 8, 9, 10] : List Int).getD (IntKind.i64.wrap ((((a_0 % (18446744073709551616 : Int)).toNat % (5 : Nat)) : Nat) : Int)).toNat (0 : Int)) ([] : List Nat) ([in_5, (Ex.mk (2 : Int) (aI ⟨#[120]⟩) ([] : List Ex))] : List Ex))).getD ([] : List Nat)) = ((s_10 ++ (([(aI ⟨#[32, 43, 32]⟩), (aI ⟨#[32, 45, 32]⟩), (aI ⟨#[32, 42, 32]⟩), (aI ⟨#[32, 47, 32]⟩)] : List (List Nat)).getD (IntKind.i64.wrap ((((a_0 % (18446744073709551616 : Int)).toNat % (5 : Nat)) : Nat) : Int)).toNat ([] : List Nat))) ++ (aI ⟨#[120]⟩))))))))))
noncomputable def fL (F : Md) (a_0 : Int) (b_1 : Int) (right_2 : Bool) (s_4 : (List Nat)) (in_5 : Ex) : Option (Bool) :=
 ck (0 ≤ (IntKind.i64.wrap ((((a_0 % (18446744073709551616 : Int)).toNat % (5 : Nat)) : Nat) : Int)) ∧ (IntKind.i64.wrap ((((a_0 % (18446744073709551616 : Int)).toNat % (5 : Nat)) : Nat) : Int)) < (5 : Int)) (if (IntKind.i64.wrap ((((a_0 % (18446744073709551616 : Int)).toNat % (5 : Nat)) : Nat) : Int)) = (4 : Int) then ck ((1 : Int) ≤ (((Ex.mk (([6, 7, 8, 9, 10] : List Int).getD (IntKind.i64.wrap ((((a_0 % (18446744073709551616 : Int)).toNat % (5 : Nat)) : Nat) : Int)).toNat (0 : Int)) ([] : List Nat) ([in_5, (Ex.mk (2 : Int) (aI ⟨#[120]⟩) ([] : List Ex))] : List Ex)).l.length : Nat) : Int)) (if (IntKind.i64.wrap ((((b_1 % (18446744073709551616 : Int)).toNat % (5 : Nat)) : Nat) : Int)) < (4 : Int) then ck ((aI ⟨#[40]⟩).length + (s_4.length) ≤ 9223372036854775807) (ck (((aI ⟨#[40]⟩) ++ s_4).length + (aI ⟨#[41]⟩).length ≤ 9223372036854775807) (fI F a_0 in_5 (((aI ⟨#[40]⟩) ++ s_4) ++ (aI ⟨#[41]⟩)))) else fI F a_0 in_5 s_4) else if right_2 = true then if ((IntKind.i64.wrap ((((b_1 % (18446744073709551616 : Int)).toNat % (5 : Nat)) : Nat) : Int)) < (2 : Int)) ∨ (((IntKind.i64.wrap ((((b_1 % (18446744073709551616 : Int)).toNat % (5 : Nat)) : Nat) : Int)) < (4 : Int)) ∧ ((2 : Int) ≤ (IntKind.i64.wrap ((((a_0 % (18446744073709551616 : Int)).toNat % (5 : Nat)) : Nat) : Int)))) then ck ((aI ⟨#[40]⟩).length + (s_4.length) ≤ 9223372036854775807) (ck (((aI ⟨#[40]⟩) ++ s_4).length + (aI ⟨#[41]⟩).length ≤ 9223372036854775807) (fJ F a_0 in_5 (((aI ⟨#[40]⟩) ++ s_4) ++ (aI ⟨#[41]⟩)))) else fJ F a_0 in_5 s_4 else if ((2 : Int) ≤ (IntKind.i64.wrap ((((a_0 % (18446744073709551616 : Int)).toNat % (5 : Nat)) : Nat) : Int))) ∧ ((IntKind.i64.wrap ((((b_1 % (18446744073709551616 : Int)).toNat % (5 : Nat)) : Nat) : Int)) < (2 : Int)) then ck ((aI ⟨#[40]⟩).length + (s_4.length) ≤ 9223372036854775807) (ck (((aI ⟨#[40]⟩) ++ s_4).length + (aI ⟨#[41]⟩).length ≤ 9223372036854775807) (fK F a_0 in_5 (((aI ⟨#[40]⟩) ++ s_4) ++ (aI ⟨#[41]⟩)))) else fK F a_0 in_5 s_4)
noncomputable def gF (F : Md) (a_0 : Int) (b_1 : Int) (right_2 : Bool) : Option Bool :=
 ck (0 ≤ (IntKind.i64.wrap ((((b_1 % (18446744073709551616 : Int)).toNat % (5 : Nat)) : Nat) : Int)) ∧ (IntKind.i64.wrap ((((b_1 % (18446744073709551616 : Int)).toNat % (5 : Nat)) : Nat) : Int)) < (5 : Int)) (ck (0 ≤ (Int.tmod (IntKind.i64.wrap ((((b_1 % (18446744073709551616 : Int)).toNat % (5 : Nat)) : Nat) : Int)) (4 : Int)) ∧ (Int.tmod (IntKind.i64.wrap ((((b_1 % (18446744073709551616 : Int)).toNat % (5 : Nat)) : Nat) : Int)) (4 : Int)) < (4 : Int)) (ck ((aI ⟨#[120]⟩).length + (([(aI ⟨#[32, 43, 32]⟩), (aI ⟨#[32, 45, 32]⟩), (aI ⟨#[32, 42, 32]⟩), (aI ⟨#[32, 47, 32]⟩)] : List (List Nat)).getD (Int.tmod (IntKind.i64.wrap ((((b_1 % (18446744073709551616 : Int)).toNat % (5 : Nat)) : Nat) : Int)) (4 : Int)).toNat ([] : List Nat)).length ≤ 9223372036854775807) (ck (((aI ⟨#[120]⟩) ++ (([(aI ⟨#[32, 43, 32]⟩), (aI ⟨#[32, 45, 32]⟩), (aI ⟨#[32, 42, 32]⟩), (aI ⟨#[32, 47, 32]⟩)] : List (List Nat)).getD (Int.tmod (IntKind.i64.wrap ((((b_1 % (18446744073709551616 : Int)).toNat % (5 : Nat)) : Nat) : Int)) (4 : Int)).toNat ([] : List Nat))).length + (aI ⟨#[120]⟩).length ≤ 9223372036854775807) (if (IntKind.i64.wrap ((((b_1 % (18446744073709551616 : Int)).toNat % (5 : Nat)) : Nat) : Int)) = (4 : Int) then ck ((1 : Int) ≤ (((Ex.mk (([6, 7, 8, 9, 10] : List Int).getD (IntKind.i64.wrap ((((b_1 % (18446744073709551616 : Int)).toNat % (5 : Nat)) : Nat) : Int)).toNat (0 : Int)) ([] : List Nat) ([(Ex.mk (2 : Int) (aI ⟨#[120]⟩) ([] : List Ex)), (Ex.mk (2 : Int) (aI ⟨#[120]⟩) ([] : List Ex))] : List Ex)).l.length : Nat) : Int)) (fL F a_0 b_1 right_2 (aI ⟨#[45, 120]⟩) (Ex.mk (Ex.mk (([6, 7, 8, 9, 10] : List Int).getD (IntKind.i64.wrap ((((b_1 % (18446744073709551616 : Int)).toNat % (5 : Nat)) : Nat) : Int)).toNat (0 : Int)) ([] : List Nat) ([(Ex.mk (2 : Int) (aI ⟨#[120]⟩) ([] : List Ex)), (Ex.mk (2 : Int) (aI ⟨#[120]⟩) ([] : List Ex))] : List Ex)).kind (Ex.mk (([6, 7, 8, 9, 10] : List Int).getD (IntKind.i64.wrap ((((b_1 % (18446744073709551616 : Int)).toNat % (5 : Nat)) : Nat) : Int)).toNat (0 : Int)) ([] : List Nat) ([(Ex.mk (2 : Int) (aI ⟨#[120]⟩) ([] : List Ex)), (Ex.mk (2 : Int) (aI ⟨#[120]⟩) ([] : List Ex))] : List Ex)).text (List.take (1 : Nat) (Ex.mk (([6, 7, 8, 9, 10] : List Int).getD (IntKind.i64.wrap ((((b_1 % (18446744073709551616 : Int)).toNat % (5 : Nat)) : Nat) : Int)).toNat (0 : Int)) ([] : List Nat) ([(Ex.mk (2 : Int) (aI ⟨#[120]⟩) ([] : List Ex)), (Ex.mk (2 : Int) (aI ⟨#[120]⟩) ([] : List Ex))] : List Ex)).l))) else fL F a_0 b_1 right_2 (((aI ⟨#[120]⟩) ++ (([(aI ⟨#[32, 43, 32]⟩), (aI ⟨#[32, 45, 32]⟩), (aI ⟨#[32, 42, 32]⟩), (aI ⟨#[32, 47, 32]⟩)] : List (List Nat)).getD (Int.tmod (IntKind.i64.wrap ((((b_1 % (18446744073709551616 : Int)).toNat % (5 : Nat)) : Nat) : Int)) (4 : Int)).toNat ([] : List Nat))) ++ (aI ⟨#[120]⟩)) (Ex.mk (([6, 7, 8, 9, 10] : List Int).getD (IntKind.i64.wrap ((((b_1 % (18446744073709551616 : Int)).toNat % (5 : Nat)) : Nat) : Int)).toNat (0 : Int)) ([] : List Nat) ([(Ex.mk (2 : Int) (aI ⟨#[120]⟩) ([] : List Ex)), (Ex.mk (2 : Int) (aI ⟨#[120]⟩) ([] : List Ex))] : List Ex))))))
def fB : Ty := .pair (.i .i64) (.pair (.i .i64) (.pair .bool .unit))
attribute [go_sem] fB
noncomputable def sS (F : Md) : aG := mSpec fB (.one .bool) (fun x => gF F x.1 x.2.1 x.2.2.1)
noncomputable def kE (F : Md) : List (FuncId × aG) := [(31, (uS F)), (33, (jK F 64))]
theorem tG (F : Md) : bC Tryz.prog GL (kE F) := .cons (aKV F) (by kernel_rfl) (.cons (uP F 64) (by kernel_rfl) (.nil))
theorem aAw (F : Md) : gam (kE F) 31 = some (uS F) := rfl
attribute [go_sem] aAw
theorem aAx (F : Md) : gam (kE F) 33 = some (jK F 64) := rfl
attribute [go_sem] aAx
set_option maxHeartbeats 4000000 in
theorem aBI (F : Md) : FOK Tryz.prog GL 11 (sS F) := by
 refine kN (aW (tG F)) Tryz.func11 rfl (by kernel_rfl) (by decide) fun w0 S x r hw h => ?_
 have hF : iQ (fr Tryz.prog (EM (kE F)) S w0 Tryz.f11.ntmps) := ⟨aW (tG F), mix⟩
 obtain ⟨(a_0 : Int), (b_1 : Int), (right_2 : Bool), u⟩ := x
 simp only [fB, Ty.wf, lO] at hw
 simp only [bH, fB]
 try dsimp only at h
 replace h : gF F a_0 b_1 right_2 = some r := h
 unfold gF at h
 refine aB (aD hF [0, 1, 2] ?_)
 simp only [go_sem]
 refine aC (aB (aD hF [2, 7, 8] ?_))
 simp only [go_sem]
 refine aC (aB (aU hF [2, 7, 8, 9] ?_))
 simp only [go_sem]
 refine aC (aB (aD hF [2, 7, 8, 9, 10] ?_))
 simp only [go_sem]
 refine aC (aB (aD hF [2, 7, 8, 9, 10, 11] ?_))
 simp only [go_sem]
 refine aC (aB (aG6 hF 9 (by decide) [2, 7, 8, 9, 10, 11, 12] ?_))
 simp only [go_sem]
 obtain ⟨g0, h⟩ := aJ h
 repeat (refine ⟨zAA, ?_⟩)
 simp only [aQf, go_sem]
 try simp only [Int.reduceMod, Int.reduceToNat]
 repeat (refine ⟨zAA, ?_⟩)
 refine aC (aB (aD hF [2, 7, 8, 9, 10, 11, 12, 13] ?_))
 simp only [go_sem]
 obtain ⟨g0, h⟩ := aJ h
 obtain ⟨g1, h⟩ := aJ h
 obtain ⟨g2, h⟩ := aJ h
 repeat (refine ⟨by first | with_reducible assumption | omega | exact g0 | exact g1 | exact g2 | decide, ?_⟩)
 refine aC (eZ (D := (List Nat) × Ex) (fun d => fL F a_0 b_1 right_2 d.1 d.2 = some r) [2, 7, 8] (fun d => [(9, .ptr 0 []), (10, .val (.sl (.i .i64)) ([6, 7, 8, 9, 10] : List Int)), (11, .val (.sl .str) ([(aI ⟨#[32, 43, 32]⟩), (aI ⟨#[32, 45, 32]⟩), (aI ⟨#[32, 42, 32]⟩), (aI ⟨#[32, 47, 32]⟩)] : List (List Nat))), (12, .ptr 1 []), (13, .val .str d.1)]) (fun d => [.inr (.box 3 (.val .expr (Ex.mk (2 : Int) (aI ⟨#[120]⟩) ([] : List Ex)))), .inr (.box 3 (.val .expr d.2))]) ?_ ?_)
 ·refine aB (aD hF [2, 7, 8, 9, 10, 11, 12, 13, 42] ?_)
  simp only [go_sem]
  refine aC (bD rfl (fun hc => ?_) (fun hc => ?_))
  ·try simp only [go_sem] at hc
   have h := dP zAB h
   refine aB (aU hF [2, 7, 8, 9, 10, 11, 12] ?_)
   simp only [go_sem]
   obtain ⟨g0, h⟩ := aJ h
   repeat (refine ⟨zAA, ?_⟩)
   refine aC (aD hF [2, 7, 8, 9, 10, 11, 12, 13] ?_)
   simp only [go_sem]
   refine aS (aQ ((aI ⟨#[45, 120]⟩), (Ex.mk (Ex.mk (([6, 7, 8, 9, 10] : List Int).getD (IntKind.i64.wrap ((((b_1 % (18446744073709551616 : Int)).toNat % (5 : Nat)) : Nat) : Int)).toNat (0 : Int)) ([] : List Nat) ([(Ex.mk (2 : Int) (aI ⟨#[120]⟩) ([] : List Ex)), (Ex.mk (2 : Int) (aI ⟨#[120]⟩) ([] : List Ex))] : List Ex)).kind (Ex.mk (([6, 7, 8, 9, 10] : List Int).getD (IntKind.i64.wrap ((((b_1 % (18446744073709551616 : Int)).toNat % (5 : Nat)) : Nat) : Int)).toNat (0 : Int)) ([] : List Nat) ([(Ex.mk (2 : Int) (aI ⟨#[120]⟩) ([] : List Ex)), (Ex.mk (2 : Int) (aI ⟨#[120]⟩) ([] : List Ex))] : List Ex)).text (List.take (1 : Nat) (Ex.mk (([6, 7, 8, 9, 10] : List Int).getD (IntKind.i64.wrap ((((b_1 % (18446744073709551616 : Int)).toNat % (5 : Nat)) : Nat) : Int)).toNat (0 : Int)) ([] : List Nat) ([(Ex.mk (2 : Int) (aI ⟨#[120]⟩) ([] : List Ex)), (Ex.mk (2 : Int) (aI ⟨#[120]⟩) ([] : List Ex))] : List Ex)).l))) h rfl ?_)
   ·exact zAG
  ·try simp only [go_sem] at hc
   have h := dQ zAB h
   refine bL (aS (aQ ((((aI ⟨#[120]⟩) ++ (([(aI ⟨#[32, 43, 32]⟩), (aI ⟨#[32, 45, 32]⟩), (aI ⟨#[32, 42, 32]⟩), (aI ⟨#[32, 47, 32]⟩)] : List (List Nat)).getD (Int.tmod (IntKind.i64.wrap ((((b_1 % (18446744073709551616 : Int)).toNat % (5 : Nat)) : Nat) : Int)) (4 : Int)).toNat ([] : List Nat))) ++ (aI ⟨#[120]⟩)), (Ex.mk (([6, 7, 8, 9, 10] : List Int).getD (IntKind.i64.wrap ((((b_1 % (18446744073709551616 : Int)).toNat % (5 : Nat)) : Nat) : Int)).toNat (0 : Int)) ([] : List Nat) ([(Ex.mk (2 : Int) (aI ⟨#[120]⟩) ([] : List Ex)), (Ex.mk (2 : Int) (aI ⟨#[120]⟩) ([] : List Ex))] : List Ex))) h rfl ?_))
   ·exact zAG
 ·rintro ⟨s_4, in_5⟩ h
  try dsimp only at h
  simp only [go_sem]
  unfold fL at h
  refine aB (aG6 hF 9 (by decide) [2, 7, 8, 9, 11, 12, 13, 14] ?_)
  simp only [go_sem]
  obtain ⟨g0, h⟩ := aJ h
  repeat (refine ⟨zAA, ?_⟩)
  simp only [aQf, go_sem]
  try simp only [Int.reduceMod, Int.reduceToNat]
  repeat (refine ⟨zAA, ?_⟩)
  refine aC (aB (aB (aD hF [2, 7, 8, 9, 11, 12, 13, 14, 56] ?_)))
  simp only [go_sem]
  refine aC (bD rfl (fun hc => ?_) (fun hc => ?_))
  ·try simp only [go_sem] at hc
   have h := dP zAB h
   refine aB (aU hF [8, 13, 14] ?_)
   simp only [go_sem]
   obtain ⟨g0, h⟩ := aJ h
   repeat (refine ⟨zAA, ?_⟩)
   refine aC (eZ (D := (List Nat)) (fun d => fI F a_0 in_5 d = some r) [] (fun d => [(13, .val .str d), (14, .ptr 0 [])]) (fun d => [.inr (.box 3 (.val .expr (Ex.mk (Ex.mk (([6, 7, 8, 9, 10] : List Int).getD (IntKind.i64.wrap ((((a_0 % (18446744073709551616 : Int)).toNat % (5 : Nat)) : Nat) : Int)).toNat (0 : Int)) ([] : List Nat) ([in_5, (Ex.mk (2 : Int) (aI ⟨#[120]⟩) ([] : List Ex))] : List Ex)).kind (Ex.mk (([6, 7, 8, 9, 10] : List Int).getD (IntKind.i64.wrap ((((a_0 % (18446744073709551616 : Int)).toNat % (5 : Nat)) : Nat) : Int)).toNat (0 : Int)) ([] : List Nat) ([in_5, (Ex.mk (2 : Int) (aI ⟨#[120]⟩) ([] : List Ex))] : List Ex)).text (List.take (1 : Nat) (Ex.mk (([6, 7, 8, 9, 10] : List Int).getD (IntKind.i64.wrap ((((a_0 % (18446744073709551616 : Int)).toNat % (5 : Nat)) : Nat) : Int)).toNat (0 : Int)) ([] : List Nat) ([in_5, (Ex.mk (2 : Int) (aI ⟨#[120]⟩) ([] : List Ex))] : List Ex)).l))))]) ?_ ?_)
   ·refine aB (aD hF [13, 14, 62] ?_)
    simp only [go_sem]
    refine aC (bD rfl (fun hc => ?_) (fun hc => ?_))
    ·try simp only [go_sem] at hc
     have h := dP zAB h
     refine aD hF [13, 14] ?_
     simp only [go_sem]
     obtain ⟨g0, h⟩ := aJ h
     obtain ⟨g1, h⟩ := aJ h
     repeat (refine ⟨zAA, ?_⟩)
     refine aS (fZ [2] rfl rfl ?_)
     simp only [ren, eF, gZ, posOf, cQ, go_sem]
     refine aQ (((aI ⟨#[40]⟩) ++ s_4) ++ (aI ⟨#[41]⟩)) h rfl ?_
     ·exact zAG
    ·try simp only [go_sem] at hc
     have h := dQ zAB h
     refine bL (aS (fZ [2] rfl rfl ?_))
     simp only [ren, eF, gZ, posOf, cQ, go_sem]
     refine aQ (s_4) h rfl ?_
     ·exact zAG
   ·rintro s_7 h
    try dsimp only at h
    simp only [go_sem]
    unfold fI at h
    refine aB (aD hF [6] ?_)
    simp only [go_sem]
    obtain ⟨g0, h⟩ := aJ h
    obtain ⟨g1, h⟩ := aJ h
    obtain ⟨g2, h⟩ := aJ h
    repeat (refine ⟨by first | with_reducible assumption | omega | (intros; first | with_reducible assumption | omega) | (simp only [go_sem] at *; first | with_reducible assumption | omega) | (intro _; exact ⟨rfl, by decide⟩) | (intro _; refine (?_ : _ = aV _); rfl) | exact ⟨rfl, rfl⟩ | (intro q0; (try have e1 := g1 zAD); (try have e2 := g2 zAD); first | assumption | omega) | decide, ?_⟩)
    obtain rfl := Option.some.inj h
    refine aC (cH (bN (dC hF [.tmp 6] rfl rfl rfl ?_)))
    exact zAH
  ·try simp only [go_sem] at hc
   have h := dQ zAB h
   refine bL (aC (aB (aB (aD hF [7, 8, 9, 11, 12, 13, 14, 74] ?_))))
   simp only [go_sem]
   refine aC (bD rfl (fun hc => ?_) (fun hc => ?_))
   ·try simp only [go_sem] at hc
    have h := dP zAB h
    refine aB (aU hF [7, 8, 11, 13, 14] ?_)
    simp only [go_sem]
    refine aC (eZ (D := (List Nat)) (fun d => fJ F a_0 in_5 d = some r) [7, 11] (fun d => [(13, .val .str d), (14, .ptr 0 [])]) (fun d => [.inr (.box 3 (.val .expr (Ex.mk (Ex.mk (([6, 7, 8, 9, 10] : List Int).getD (IntKind.i64.wrap ((((a_0 % (18446744073709551616 : Int)).toNat % (5 : Nat)) : Nat) : Int)).toNat (0 : Int)) ([] : List Nat) ([in_5, (Ex.mk (2 : Int) (aI ⟨#[120]⟩) ([] : List Ex))] : List Ex)).kind (Ex.mk (([6, 7, 8, 9, 10] : List Int).getD (IntKind.i64.wrap ((((a_0 % (18446744073709551616 : Int)).toNat % (5 : Nat)) : Nat) : Int)).toNat (0 : Int)) ([] : List Nat) ([in_5, (Ex.mk (2 : Int) (aI ⟨#[120]⟩) ([] : List Ex))] : List Ex)).text ([(Ex.mk (2 : Int) (aI ⟨#[120]⟩) ([] : List Ex)), in_5] : List Ex))))]) ?_ ?_)
    ·refine aB (aD hF [7, 11, 13, 14, 88] ?_)
     simp only [go_sem]
     refine aC (bD rfl (fun hc => ?_) (fun hc => ?_))
     ·try simp only [go_sem] at hc
      have h := dP zAB h
      refine aD hF [7, 11, 13, 14] ?_
      simp only [go_sem]
      obtain ⟨g0, h⟩ := aJ h
      obtain ⟨g1, h⟩ := aJ h
      repeat (refine ⟨zAA, ?_⟩)
      refine aS (fZ [2] rfl rfl ?_)
      simp only [ren, eF, gZ, posOf, cQ, go_sem]
      refine aQ (((aI ⟨#[40]⟩) ++ s_4) ++ (aI ⟨#[41]⟩)) h rfl ?_
      ·exact zAG
     ·try simp only [go_sem] at hc
      have h := dQ zAB h
      refine bL (aS (fZ [2] rfl rfl ?_))
      simp only [ren, eF, gZ, posOf, cQ, go_sem]
      refine aQ (s_4) h rfl ?_
      ·exact zAG
    ·rintro s_9 h
     try dsimp only at h
     simp only [go_sem]
     unfold fJ at h
     refine aB (aD hF [6] ?_)
     simp only [go_sem]
     obtain ⟨g0, h⟩ := aJ h
     obtain ⟨g1, h⟩ := aJ h
     obtain ⟨g2, h⟩ := aJ h
     obtain ⟨g3, h⟩ := aJ h
     obtain ⟨g4, h⟩ := aJ h
     repeat (refine ⟨by first | with_reducible assumption | omega | (intros; first | with_reducible assumption | omega) | (simp only [go_sem] at *; first | with_reducible assumption | omega) | (intro _; exact ⟨rfl, by decide⟩) | (intro _; refine (?_ : _ = aV _); rfl) | exact ⟨rfl, rfl⟩ | (intro q0; (try have e1 := g1 zAD); (try have e2 := g2 zAD); (try have e3 := g3 zAD); (try have e4 := g4 zAD); first | assumption | omega) | decide, ?_⟩)
     obtain rfl := Option.some.inj h
     refine aC (cH (bN (dC hF [.tmp 6] rfl rfl rfl ?_)))
     exact zAH
   ·try simp only [go_sem] at hc
    have h := dQ zAB h
    refine bL (aC (eZ (D := (List Nat)) (fun d => fK F a_0 in_5 d = some r) [7, 11] (fun d => [(13, .val .str d), (14, .ptr 0 [])]) (fun d => [.inr (.box 3 (.val .expr (Ex.mk (([6, 7, 8, 9, 10] : List Int).getD (IntKind.i64.wrap ((((a_0 % (18446744073709551616 : Int)).toNat % (5 : Nat)) : Nat) : Int)).toNat (0 : Int)) ([] : List Nat) ([in_5, (Ex.mk (2 : Int) (aI ⟨#[120]⟩) ([] : List Ex))] : List Ex))))]) ?_ ?_))
    ·refine aB (aD hF [7, 11, 13, 14, 110] ?_)
     simp only [go_sem]
     refine aC (bD rfl (fun hc => ?_) (fun hc => ?_))
     ·try simp only [go_sem] at hc
      have h := dP zAB h
      refine aD hF [7, 11, 13, 14] ?_
      simp only [go_sem]
      obtain ⟨g0, h⟩ := aJ h
      obtain ⟨g1, h⟩ := aJ h
      repeat (refine ⟨zAA, ?_⟩)
      refine aS (fZ [2] rfl rfl ?_)
      simp only [ren, eF, gZ, posOf, cQ, go_sem]
      refine aQ (((aI ⟨#[40]⟩) ++ s_4) ++ (aI ⟨#[41]⟩)) h rfl ?_
      ·exact zAG
     ·try simp only [go_sem] at hc
      have h := dQ zAB h
      refine bL (aS (fZ [2] rfl rfl ?_))
      simp only [ren, eF, gZ, posOf, cQ, go_sem]
      refine aQ (s_4) h rfl ?_
      ·exact zAG
    ·rintro s_10 h
     try dsimp only at h
     simp only [go_sem]
     unfold fK at h
     refine aB (aD hF [6] ?_)
     simp only [go_sem]
     obtain ⟨g0, h⟩ := aJ h
     obtain ⟨g1, h⟩ := aJ h
     obtain ⟨g2, h⟩ := aJ h
     obtain ⟨g3, h⟩ := aJ h
     obtain ⟨g4, h⟩ := aJ h
     repeat (refine ⟨by first | with_reducible assumption | omega | (intros; first | with_reducible assumption | omega) | (simp only [go_sem] at *; first | with_reducible assumption | omega) | (intro _; exact ⟨rfl, by decide⟩) | (intro _; refine (?_ : _ = aV _); rfl) | exact ⟨rfl, rfl⟩ | (intro q0; (try have e1 := g1 zAD); (try have e2 := g2 zAD); (try have e3 := g3 zAD); (try have e4 := g4 zAD); first | assumption | omega) | decide, ?_⟩)
     obtain rfl := Option.some.inj h
     refine aC (cH (dC hF [.tmp 6] rfl rfl rfl ?_))
     exact zAH
attribute [go_sem] sS
end Nu
end Go.Proofs
namespace Go.Proofs
open Go.Vc
set_option maxRecDepth 100000
namespace Nu
theorem aKW {f : Nat → Nat → Option Bool} (n : Nat) (h : (List.range n).all (fun i => (List.range n).all fun k => f i k == some true) = true) : ∀ i k, i < n → k < n → f i k = some true := fun i k hi hk => by
 have := List.all_eq_true.1 (List.all_eq_true.1 h i (List.mem_range.2 hi)) k (List.mem_range.2 hk)
 simpa using this
theorem aEC (a b : Int) (right : Bool) : gF (some 1000) a b right = some true := by
 unfold gF fL fI fJ fK
 have hi : (a % 18446744073709551616).toNat % 5 < 5 := Nat.mod_lt _ (by decide)
 have hk : (b % 18446744073709551616).toNat % 5 < 5 := Nat.mod_lt _ (by decide)
 generalize (a % 18446744073709551616).toNat % 5 = i at *
 generalize (b % 18446744073709551616).toNat % 5 = k at *
 revert hk
 revert hi
 revert k
 revert i
 refine aKW 5 ?_
 cases right <;> kernel_rfl
end Nu
end Go.Proofs
