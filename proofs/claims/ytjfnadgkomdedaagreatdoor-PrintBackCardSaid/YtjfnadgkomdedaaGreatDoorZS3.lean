import Derived.Test.YtjfnadgkomdedaaGreatDoorZS2
import Derived.Test.YtjfnadgkomdedaaGreatDoorZS1
import Derived.Test.YtjfnadgkomdedaaGreatDoorZL6
import Derived.Laws.Externs
import Derived.Lib.Bytealg
set_option linter.unusedVariables false
set_option linter.unusedSimpArgs false
namespace Go.Proofs
open Go.Vc
set_option maxRecDepth 20000
namespace Nu
noncomputable section
set_option maxHeartbeats 4000000
attribute [-go_sem] Ex.kind Ex.text Ex.l
def hD (F : Md) (s_1 : qI) (o0_2 : qw) : Option (q9 × qw) :=
 (rE F (o0_2.1, o0_2.2)).bind (fun r_6 => ck (((r_6.2.length) + (s_1.length)) * 1 ≤ 140737488355328) (some (((s_1.length : Int), (), ()), r_6.1, (r_6.2 ++ s_1))))
def gV (F : Md) : iE where
 D := qI × qw × (q9 × qw)
 av := fun d => [.ptr 0 [], .val .str d.1]
 hp := fun d => [.box 4294967357 (.agg [pk d.2.1.1 0, .own 1]), .row 5 qr d.2.1.2]
 m := 1
 pre := fun d => hD F d.1 d.2.1 = some d.2.2
 out := fun d => (fun r : (q9 × qw) => .ret (.tup [.val qj r.1.1, .val .nili r.1.2.1]) [.box 4294967357 (.agg [pk r.2.1 0, .own 1]), .row 5 qr r.2.2]) d.2.2
abbrev pM (F : Md) : List (FuncId × aF) := []
theorem pN (F : Md) : bG Tryz.prog GL (pM F) := .nil
theorem yO (F : Md) : GOK Tryz.prog GL 30 (gV F) := by
 refine iT (aS (pN F)) Tryz.func30 rfl xAa (fun _ => Nat.le_of_ble_eq_true rfl) fun c0 w0 d hw1 hw2 h hn => ?_
 have hF : hU ⟨Tryz.prog, EM (pM F), GM (gV F) c0 d, w0, Tryz.f30.ntmps, []⟩ := ⟨aS (pN F), mix⟩
 obtain ⟨(s_1 : qI), (o0_2 : qw), r⟩ := d
 replace h : hD F s_1 o0_2 = some r := h
 have hw1 : AV.wfL [.ptr 0 [], .val .str s_1] := hw1
 simp only [AV.wfL, AV.wfV, Ty.wf, gW] at hw1
 show Tri _ _ _ [(0, .ptr 0 []), (1, .val .str s_1)] [.box 4294967357 (.agg [pk o0_2.1 0, .own 1]), .row 5 qr o0_2.2]
 unfold hD at h
 refine aA (aD hF [0, 1] (yaA ?_))
 obtain ⟨r_6, he1, h⟩ := bind_some h
 try dsimp only at h
 refine aB (aA (aK hF (aY (l := [(52, ⟨lW F, [0, 1], ((o0_2.1, o0_2.2), r_6)⟩)]) (.cons (aAr F) xAa (.nil))) [0, 1] [] (yaD ?_)))
 refine aB (aA (aM hF [1] (yaA ?_)))
 obtain ⟨g0, h⟩ := aI h
 repeat (refine ⟨zAA, ?_⟩)
 refine aB (aA (aD hF [4, 5] (yaA ?_)))
 obtain rfl := Option.some.inj h
 refine aB (bX (mD [0, 3] rfl rfl (yaC ?_)))
 refine qY hF [.tmp 4, .tmp 5] rfl rfl rfl rfl rfl rfl ?_
 exact zaD
attribute [go_sem] gV
def cZ (F : Md) (words_0 : qm) (o0_2 : qw) : Option qw :=
 ck (aS5 words_0 (aP ⟨#[32]⟩)) (ck ((aEF words_0 (aP ⟨#[32]⟩)).length + (aP ⟨#[10]⟩).length ≤ 9223372036854775807) ((hD F ((aEF words_0 (aP ⟨#[32]⟩)) ++ (aP ⟨#[10]⟩)) (o0_2.1, o0_2.2)).bind (fun r_5 => some (r_5.2.1, r_5.2.2))))
def cO (F : Md) : iE where
 D := qm × qw × qw
 av := fun d => [.val qu d.1, .ptr 0 []]
 hp := fun d => [.box 4294967357 (.agg [pk d.2.1.1 0, .own 1]), .row 5 qr d.2.1.2]
 m := 1
 pre := fun d => cZ F d.1 d.2.1 = some d.2.2
 out := fun d => (fun r : qw => .ret (.tup []) [.box 4294967357 (.agg [pk (r).1 0, .own 1]), .row 5 qr (r).2]) d.2.2
abbrev aAs (F : Md) : List (FuncId × aF) := [(31, uR)]
theorem aEG (F : Md) : bG Tryz.prog GL (aAs F) := .cons aLD xAa (.nil)
theorem dN (F : Md) : GOK Tryz.prog GL 29 (cO F) := by
 refine iT (aS (aEG F)) Tryz.func29 rfl xAa (fun _ => Nat.le_of_ble_eq_true rfl) fun c0 w0 d hw1 hw2 h hn => ?_
 have hF : hU ⟨Tryz.prog, EM (aAs F), GM (cO F) c0 d, w0, Tryz.f29.ntmps, []⟩ := ⟨aS (aEG F), mix⟩
 obtain ⟨(words_0 : qm), (o0_2 : qw), r⟩ := d
 replace h : cZ F words_0 o0_2 = some r := h
 have hw1 : AV.wfL [.val qu words_0, .ptr 0 []] := hw1
 simp only [AV.wfL, AV.wfV, Ty.wf, gW] at hw1
 show Tri _ _ _ [(0, .val qu words_0), (1, .ptr 0 [])] [.box 4294967357 (.agg [pk o0_2.1 0, .own 1]), .row 5 qr o0_2.2]
 unfold cZ at h
 obtain ⟨g0, h⟩ := aI h
 obtain ⟨g1, h⟩ := aI h
 obtain ⟨r_5, he1, h⟩ := bind_some h
 try dsimp only at h
 refine aK hF (aY (l := [(30, ⟨gV F, [0, 1], (((aEF words_0 (aP ⟨#[32]⟩)) ++ (aP ⟨#[10]⟩)), (o0_2.1, o0_2.2), r_5)⟩)]) (.cons (yO F) xAa (.nil))) [] [] (yaD ?_)
 obtain rfl := Option.some.inj h
 refine aAQ (mD [0, 2] rfl rfl (yaC ?_))
 refine qY hF [] rfl rfl rfl rfl rfl rfl ?_
 exact zaD
attribute [go_sem] cO
def aCw (F : Md) (s_0 : qc) (x144_116 : Int) (b_117 : Bool) (x_118 : qI) : Option (wc ⊕ qw) :=
 if x144_116 < (s_0.2.2.2.2.2.2.2.2.2.1.length : Int) then ck (0 ≤ x144_116 ∧ x144_116 < (s_0.2.2.2.2.2.2.2.2.2.1.length : Int)) (ck ((s_0.2.2.2.2.2.2.2.2.2.1.getD (x144_116.toNat) ([], [], [], [], ())).1.length + (aP ⟨#[46]⟩).length ≤ 9223372036854775807) (ck (((s_0.2.2.2.2.2.2.2.2.2.1.getD (x144_116.toNat) ([], [], [], [], ())).1 ++ (aP ⟨#[46]⟩)).length + (s_0.2.2.2.2.2.2.2.2.2.1.getD (x144_116.toNat) ([], [], [], [], ())).2.1.length ≤ 9223372036854775807) (ck ((s_0.2.2.2.2.2.2.2.2.2.1.getD (x144_116.toNat) ([], [], [], [], ())).2.2.1.length + (aP ⟨#[46]⟩).length ≤ 9223372036854775807) (ck (((s_0.2.2.2.2.2.2.2.2.2.1.getD (x144_116.toNat) ([], [], [], [], ())).2.2.1 ++ (aP ⟨#[46]⟩)).length + (s_0.2.2.2.2.2.2.2.2.2.1.getD (x144_116.toNat) ([], [], [], [], ())).2.2.2.1.length ≤ 9223372036854775807) ((cZ F ([(aP ⟨#[108, 105, 110, 107]⟩), (((s_0.2.2.2.2.2.2.2.2.2.1.getD (x144_116.toNat) ([], [], [], [], ())).1 ++ (aP ⟨#[46]⟩)) ++ (s_0.2.2.2.2.2.2.2.2.2.1.getD (x144_116.toNat) ([], [], [], [], ())).2.1), (aP ⟨#[61]⟩), (((s_0.2.2.2.2.2.2.2.2.2.1.getD (x144_116.toNat) ([], [], [], [], ())).2.2.1 ++ (aP ⟨#[46]⟩)) ++ (s_0.2.2.2.2.2.2.2.2.2.1.getD (x144_116.toNat) ([], [], [], [], ())).2.2.2.1)] : List qI) (b_117, x_118)).bind (fun r_126 => ck (I64 (x144_116 + (1 : Int))) (some (.inl ((x144_116 + (1 : Int)), r_126.1, r_126.2))))))))) else some (.inr (b_117, x_118))
def yP (F : Md) (s_0 : qc) (b_105 : Bool) (x_106 : qI) : Option (qI × ql) :=
 (dI F (fun d : Int × Bool × qI => aCw F s_0 d.1 d.2.1 d.2.2) ((0 : Int), b_105, x_106)).bind (fun e => (tX F (e.1, e.2)).bind (fun r_130 => some (r_130, (0 : Int), ())))
def aCx (F : Md) (s_0 : qc) (x68_172 : Int) (x127_293 : Int) (b_294 : Bool) (x_295 : qI) : Option (wc ⊕ qw) :=
 if x127_293 < (((s_0.2.2.2.2.2.2.2.2.1.getD (x68_172.toNat) ([], [], [], [], [], ())).2.2.2.2.1.length : Nat) : Int) then ck (0 ≤ x127_293 ∧ x127_293 < (((s_0.2.2.2.2.2.2.2.2.1.getD (x68_172.toNat) ([], [], [], [], [], ())).2.2.2.2.1.length : Nat) : Int)) (ck ((cH F 64 ((s_0.2.2.2.2.2.2.2.2.1.getD (x68_172.toNat) ([], [], [], [], [], ())).2.2.2.2.1.getD (x127_293.toNat) ([], (Ex.mk 0 [] []), ())).2.1).isSome = true) ((cZ F ([(aP ⟨#[111, 117, 116]⟩), ((s_0.2.2.2.2.2.2.2.2.1.getD (x68_172.toNat) ([], [], [], [], [], ())).2.2.2.2.1.getD (x127_293.toNat) ([], (Ex.mk 0 [] []), ())).1, (aP ⟨#[61]⟩), ((cH F 64 ((s_0.2.2.2.2.2.2.2.2.1.getD (x68_172.toNat) ([], [], [], [], [], ())).2.2.2.2.1.getD (x127_293.toNat) ([], (Ex.mk 0 [] []), ())).2.1).getD ([] : List Nat))] : List qI) (b_294, x_295)).bind (fun r_303 => ck (I64 (x127_293 + (1 : Int))) (some (.inl ((x127_293 + (1 : Int)), r_303.1, r_303.2)))))) else some (.inr (b_294, x_295))
def yQ (F : Md) (s_0 : qc) (x68_172 : Int) (b_290 : Bool) (x_291 : qI) : Option (wc ⊕ qw) :=
 (dI F (fun d : Int × Bool × qI => aCx F s_0 x68_172 d.1 d.2.1 d.2.2) ((0 : Int), b_290, x_291)).bind (fun e => ck (I64 (x68_172 + (1 : Int))) (some (.inl ((x68_172 + (1 : Int)), e.1, e.2))))
def aCy (F : Md) (s_0 : qc) (x68_172 : Int) (x115_305 : Int) (b_306 : Bool) (x_307 : qI) : Option (wc ⊕ qw) :=
 if x115_305 < (((s_0.2.2.2.2.2.2.2.2.1.getD (x68_172.toNat) ([], [], [], [], [], ())).2.2.2.1.length : Nat) : Int) then ck (0 ≤ x115_305 ∧ x115_305 < (((s_0.2.2.2.2.2.2.2.2.1.getD (x68_172.toNat) ([], [], [], [], [], ())).2.2.2.1.length : Nat) : Int)) ((cZ F ([(aP ⟨#[105, 110]⟩), ((s_0.2.2.2.2.2.2.2.2.1.getD (x68_172.toNat) ([], [], [], [], [], ())).2.2.2.1.getD (x115_305.toNat) ([] : List Nat))] : List qI) (b_306, x_307)).bind (fun r_315 => ck (I64 (x115_305 + (1 : Int))) (some (.inl ((x115_305 + (1 : Int)), r_315.1, r_315.2))))) else some (.inr (b_306, x_307))
def yR (F : Md) (s_0 : qc) (x68_172 : Int) (b_280 : Bool) (x_281 : qI) : Option (wc ⊕ qw) :=
 (dI F (fun d : Int × Bool × qI => aCy F s_0 x68_172 d.1 d.2.1 d.2.2) ((0 : Int), b_280, x_281)).bind (fun e => yQ F s_0 x68_172 e.1 e.2)
def aCz (F : Md) (s_0 : qc) (x68_172 : Int) (x99_317 : Int) (b_318 : Bool) (x_319 : qI) : Option (wc ⊕ qw) :=
 if x99_317 < (((s_0.2.2.2.2.2.2.2.2.1.getD (x68_172.toNat) ([], [], [], [], [], ())).2.2.1.length : Nat) : Int) then ck (0 ≤ x99_317 ∧ x99_317 < (((s_0.2.2.2.2.2.2.2.2.1.getD (x68_172.toNat) ([], [], [], [], [], ())).2.2.1.length : Nat) : Int)) (ck ((mS F ((s_0.2.2.2.2.2.2.2.2.1.getD (x68_172.toNat) ([], [], [], [], [], ())).2.2.1.getD (x99_317.toNat) ([], ([], [], ()), ())).2.1).isSome = true) ((cZ F ([(aP ⟨#[112, 97, 114]⟩), ((s_0.2.2.2.2.2.2.2.2.1.getD (x68_172.toNat) ([], [], [], [], [], ())).2.2.1.getD (x99_317.toNat) ([], ([], [], ()), ())).1, (aP ⟨#[61]⟩), ((mS F ((s_0.2.2.2.2.2.2.2.2.1.getD (x68_172.toNat) ([], [], [], [], [], ())).2.2.1.getD (x99_317.toNat) ([], ([], [], ()), ())).2.1).getD ([] : List Nat))] : List qI) (b_318, x_319)).bind (fun r_327 => ck (I64 (x99_317 + (1 : Int))) (some (.inl ((x99_317 + (1 : Int)), r_327.1, r_327.2)))))) else some (.inr (b_318, x_319))
def yS (F : Md) (s_0 : qc) (x68_172 : Int) (b_270 : Bool) (x_271 : qI) : Option (wc ⊕ qw) :=
 (dI F (fun d : Int × Bool × qI => aCz F s_0 x68_172 d.1 d.2.1 d.2.2) ((0 : Int), b_270, x_271)).bind (fun e => yR F s_0 x68_172 e.1 e.2)
def aCA (F : Md) (s_0 : qc) (x68_172 : Int) (x80_329 : Int) (b_330 : Bool) (x_331 : qI) : Option (wc ⊕ qw) :=
 if x80_329 < (((s_0.2.2.2.2.2.2.2.2.1.getD (x68_172.toNat) ([], [], [], [], [], ())).2.1.length : Nat) : Int) then ck (0 ≤ x80_329 ∧ x80_329 < (((s_0.2.2.2.2.2.2.2.2.1.getD (x68_172.toNat) ([], [], [], [], [], ())).2.1.length : Nat) : Int)) (ck ((mS F ((s_0.2.2.2.2.2.2.2.2.1.getD (x68_172.toNat) ([], [], [], [], [], ())).2.1.getD (x80_329.toNat) ([], ([], [], ()), (Ex.mk 0 [] []), ())).2.1).isSome = true) (ck ((cH F 64 ((s_0.2.2.2.2.2.2.2.2.1.getD (x68_172.toNat) ([], [], [], [], [], ())).2.1.getD (x80_329.toNat) ([], ([], [], ()), (Ex.mk 0 [] []), ())).2.2.1).isSome = true) ((cZ F ([(aP ⟨#[115, 116, 97, 116, 101]⟩), ((s_0.2.2.2.2.2.2.2.2.1.getD (x68_172.toNat) ([], [], [], [], [], ())).2.1.getD (x80_329.toNat) ([], ([], [], ()), (Ex.mk 0 [] []), ())).1, (aP ⟨#[61]⟩), ((mS F ((s_0.2.2.2.2.2.2.2.2.1.getD (x68_172.toNat) ([], [], [], [], [], ())).2.1.getD (x80_329.toNat) ([], ([], [], ()), (Ex.mk 0 [] []), ())).2.1).getD ([] : List Nat)), (aP ⟨#[100, 101, 114]⟩), ((cH F 64 ((s_0.2.2.2.2.2.2.2.2.1.getD (x68_172.toNat) ([], [], [], [], [], ())).2.1.getD (x80_329.toNat) ([], ([], [], ()), (Ex.mk 0 [] []), ())).2.2.1).getD ([] : List Nat))] : List qI) (b_330, x_331)).bind (fun r_339 => ck (I64 (x80_329 + (1 : Int))) (some (.inl ((x80_329 + (1 : Int)), r_339.1, r_339.2))))))) else some (.inr (b_330, x_331))
def aCB (F : Md) (s_0 : qc) (x68_172 : Int) (b_173 : Bool) (x_174 : qI) : Option (wc ⊕ qw) :=
 if x68_172 < (s_0.2.2.2.2.2.2.2.2.1.length : Int) then ck (0 ≤ x68_172 ∧ x68_172 < (s_0.2.2.2.2.2.2.2.2.1.length : Int)) ((cZ F ([(aP ⟨#[115, 117, 98]⟩), (s_0.2.2.2.2.2.2.2.2.1.getD (x68_172.toNat) ([], [], [], [], [], ())).1] : List qI) (b_173, x_174)).bind (fun r_261 => (dI F (fun d : Int × Bool × qI => aCA F s_0 x68_172 d.1 d.2.1 d.2.2) ((0 : Int), r_261.1, r_261.2)).bind (fun e => yS F s_0 x68_172 e.1 e.2))) else some (.inr (b_173, x_174))
def sR (F : Md) (s_0 : qc) (mode_2 : qI) : Option (qI × ql) :=
 ck ((eY F s_0.1).isSome = true) ((cZ F ([(aP ⟨#[112, 114, 101, 99]⟩), ((eY F s_0.1).getD ([] : List Nat))] : List qI) (true, ([] : List Nat))).bind (fun r_4 => (cZ F ([(aP ⟨#[101, 110, 100]⟩), s_0.2.2.2.2.1] : List qI) (r_4.1, r_4.2)).bind (fun r_6 => (cZ F ([(aP ⟨#[115, 116, 101, 112]⟩), s_0.2.2.2.2.2.1, s_0.2.2.2.2.2.2.1] : List qI) (r_6.1, r_6.2)).bind (fun r_8 => (cZ F ([(aP ⟨#[116, 111, 108]⟩), s_0.2.2.2.2.2.2.2.1] : List qI) (r_8.1, r_8.2)).bind (fun r_10 => ck ((eY F s_0.2.1).isSome = true) ((cZ F ([(aP ⟨#[116, 114, 105, 101, 115]⟩), ((eY F s_0.2.1).getD ([] : List Nat))] : List qI) (r_10.1, r_10.2)).bind (fun r_12 => ck ((eY F s_0.2.2.1).isSome = true) ((cZ F ([(aP ⟨#[111, 114, 100, 101, 114]⟩), ((eY F s_0.2.2.1).getD ([] : List Nat))] : List qI) (r_12.1, r_12.2)).bind (fun r_14 => (cZ F ([mode_2] : List qI) (r_14.1, r_14.2)).bind (fun r_16 => (dI F (fun d : Int × Bool × qI => aCB F s_0 d.1 d.2.1 d.2.2) ((0 : Int), r_16.1, r_16.2)).bind (fun e => yP F s_0 e.1 e.2)))))))))))
def tY (F : Md) (s_0 : qc) : Option (qI × ql) :=
 ck ((aAa F s_0).isSome = true) (if ¬ (((aAa F s_0).getD false) = true) then some ((aP ⟨#[]⟩), (1 : Int), ()) else if s_0.2.2.2.1 = (2 : Int) then sR F s_0 (aP ⟨#[115, 101, 105, 100, 101, 108]⟩) else sR F s_0 (aP ⟨#[106, 97, 99, 111, 98, 105]⟩))
@[go_sem]def zK : Ty := .pair qe .unit
def xD (F : Md) : aF := mSpec zK (.tup (.pair .str qf)) (fun x => tY F x.1)
abbrev qR (F : Md) : List (FuncId × aF) := [(28, (aBc F)), (32, (uQ F)), (33, (zJ F)), (8, (nA F 64))]
theorem aGS (F : Md) : bG Tryz.prog GL (qR F) := .cons (aP4 F) xAa (.cons (aLB F) xAa (.cons (aOy F) xAa (.cons (zI F 64) xAa (.nil))))
theorem aNQ (F : Md) : FOK Tryz.prog GL 14 (xD F) := by
 refine nY (aS (aGS F)) Tryz.func14 rfl xAa xAb fun w0 S x r hw h => ?_
 have hF : hU (fr Tryz.prog (EM (qR F)) S w0 Tryz.f14.ntmps) := ⟨aS (aGS F), mix⟩
 obtain ⟨(s_0 : qc), u⟩ := x
 simp only [zK, Ty.wf, gW] at hw
 simp only [bQ, zK]
 try dsimp only at h
 replace h : tY F s_0 = some r := h
 unfold tY at h
 refine aA (aM hF [1] (yaA ?_))
 refine aB (aA (aA (aD hF [1, 21] (yaA ?_))))
 obtain ⟨g0, h⟩ := aI h
 repeat (refine ⟨zAA, ?_⟩)
 refine aB (bF rfl (fun hc => ?_) (fun hc => ?_))
 ·try simp only [go_sem] at hc
  have h := dT zAB h
  refine aA (aD hF [2, 3] (yaA ?_))
  obtain rfl := Option.some.inj h
  refine aB (bX (bO (eM hF [.tmp 2, .tmp 3] rfl rfl rfl ?_)))
  exact zAG
 ·try simp only [go_sem] at hc
  have h := dP zAB h
  refine bM (aB (aA (aM hF [1, 4] (yaA ?_))))
  refine aXV 1 4294967357 5 rfl (yaA ?_)
  refine aB (aA (aD hF [1, 4, 5] (yaA ?_)))
  refine aB (aA (aD hF [1, 4, 5, 6] (yaA ?_)))
  refine aB (jZ (D := qI) (fun d => sR F s_0 d = some r) [] (fun d => [(1, .ptr 0 []), (4, .ptr 1 []), (5, .fn 29 [] [1]), (6, .val .str d)]) (fun d => [.inr (.box 10 (.val qe s_0)), .inr (.box 4294967357 (.agg [pk true 1, .own 2])), .inr (.row 5 qr ([] : List Nat))]) ?_ ?_)
  ·refine aA (aD hF [1, 4, 5, 6, 25] (yaA ?_))
   refine aB (bF rfl (fun hc => ?_) (fun hc => ?_))
   ·try simp only [go_sem] at hc
    have h := dT zAB h
    refine aD hF [1, 4, 5, 6] (yaA ?_)
    refine bB (aW (aP ⟨#[115, 101, 105, 100, 101, 108]⟩) h rfl ?_)
    ·exact zAF
   ·try simp only [go_sem] at hc
    have h := dP zAB h
    refine bM (bB (aW (aP ⟨#[106, 97, 99, 111, 98, 105]⟩) h rfl ?_))
    ·exact zAF
  ·rintro mode_2 h
   try dsimp only at h
   simp only [go_sem]
   unfold sR at h
   obtain ⟨g0, h⟩ := aI h
   obtain ⟨r_4, he1, h⟩ := bind_some h
   try dsimp only at h
   refine aA (aK hF (aY (l := [(29, ⟨cO F, [1, 2], (([(aP ⟨#[112, 114, 101, 99]⟩), ((eY F s_0.1).getD ([] : List Nat))] : List qI), (true, ([] : List Nat)), r_4)⟩)]) (.cons (dN F) xAa (.nil))) [1, 4, 5, 6] [] (yaD ?_))
   obtain ⟨r_6, he2, h⟩ := bind_some h
   try dsimp only at h
   refine aB (aA (aK hF (aY (l := [(29, ⟨cO F, [1, 3], (([(aP ⟨#[101, 110, 100]⟩), s_0.2.2.2.2.1] : List qI), (r_4.1, r_4.2), r_6)⟩)]) (.cons (dN F) xAa (.nil))) [1, 4, 5, 6] [] (yaD ?_)))
   obtain ⟨r_8, he3, h⟩ := bind_some h
   try dsimp only at h
   refine aB (aA (aK hF (aY (l := [(29, ⟨cO F, [1, 4], (([(aP ⟨#[115, 116, 101, 112]⟩), s_0.2.2.2.2.2.1, s_0.2.2.2.2.2.2.1] : List qI), (r_6.1, r_6.2), r_8)⟩)]) (.cons (dN F) xAa (.nil))) [1, 4, 5, 6] [] (yaD ?_)))
   obtain ⟨r_10, he4, h⟩ := bind_some h
   try dsimp only at h
   refine aB (aA (aK hF (aY (l := [(29, ⟨cO F, [1, 5], (([(aP ⟨#[116, 111, 108]⟩), s_0.2.2.2.2.2.2.2.1] : List qI), (r_8.1, r_8.2), r_10)⟩)]) (.cons (dN F) xAa (.nil))) [1, 4, 5, 6] [] (yaD ?_)))
   obtain ⟨g0, h⟩ := aI h
   obtain ⟨r_12, he5, h⟩ := bind_some h
   try dsimp only at h
   refine aB (aA (aK hF (aY (l := [(29, ⟨cO F, [1, 6], (([(aP ⟨#[116, 114, 105, 101, 115]⟩), ((eY F s_0.2.1).getD ([] : List Nat))] : List qI), (r_10.1, r_10.2), r_12)⟩)]) (.cons (dN F) xAa (.nil))) [1, 4, 5, 6] [] (yaD ?_)))
   obtain ⟨g0, h⟩ := aI h
   obtain ⟨r_14, he6, h⟩ := bind_some h
   try dsimp only at h
   refine aB (aA (aK hF (aY (l := [(29, ⟨cO F, [1, 7], (([(aP ⟨#[111, 114, 100, 101, 114]⟩), ((eY F s_0.2.2.1).getD ([] : List Nat))] : List qI), (r_12.1, r_12.2), r_14)⟩)]) (.cons (dN F) xAa (.nil))) [1, 4, 5, 6] [] (yaD ?_)))
   obtain ⟨r_16, he7, h⟩ := bind_some h
   try dsimp only at h
   refine aB (aA (aK hF (aY (l := [(29, ⟨cO F, [1, 8], (([mode_2] : List qI), (r_14.1, r_14.2), r_16)⟩)]) (.cons (dN F) xAa (.nil))) [1, 4, 5] [] (yaD ?_)))
   refine aB (jZ (D := Bool × qI) (fun d => yP F s_0 d.1 d.2 = some r) [] (fun d => [(1, .ptr 0 []), (4, .ptr 1 []), (5, .fn 29 [] [1])]) (fun d => [.inr (.box 10 (.val qe s_0)), .inr (.box 4294967357 (.agg [pk d.1 1, .own 2])), .inr (.row 5 qr d.2)]) ?_ ?_)
   ·refine aA (aD hF [1, 4, 5, 66, 67, 68] (yaA ?_))
    refine aB (cB (aAO [0, 1, 9] rfl rfl (yaC ?_)))
    refine hZ (D := Int × Bool × qI) [66, 67] (fun d => [(1, .ptr 0 []), (4, .ptr 1 []), (5, .fn 29 [] [1]), (68, .val qj d.1)]) (fun d => [.inr (.box 10 (.val qe s_0)), .inr (.box 4294967357 (.agg [pk d.2.1 1, .own 2])), .inr (.row 5 qr d.2.2)]) h ?_ ?_ ?_
    ·first | rfl | (simp only [go_sem]; done)
    ·exact zAF
    rintro ⟨x68_172, b_173, x_174⟩ s16 h hs16
    simp only [go_sem]
    try dsimp only at h
    unfold aCB at h
    refine aA (aD hF [1, 4, 5, 66, 67, 68, 69] (yaA ?_))
    refine aB (aA (bF rfl (fun hc => ?_) (fun hc => ?_)))
    ·try simp only [go_sem] at hc
     have h := dT zAB h
     refine bM (aB (aA (cB (aA (aM hF [1, 4, 5, 8, 66, 67, 68] (yaA ?_))))))
     obtain ⟨g0, h⟩ := aI h
     repeat (refine ⟨zAA, ?_⟩)
     obtain ⟨r_261, he11, h⟩ := bind_some h
     try dsimp only at h
     refine aB (aA (aK hF (aY (l := [(29, ⟨cO F, [1, 2], (([(aP ⟨#[115, 117, 98]⟩), (s_0.2.2.2.2.2.2.2.2.1.getD (x68_172.toNat) ([], [], [], [], [], ())).1] : List qI), (b_173, x_174), r_261)⟩)]) (.cons (dN F) xAa (.nil))) [1, 4, 5, 8, 66, 67, 68] [] (yaD ?_)))
     refine aB (jZ (D := Bool × qI) (fun d => yS F s_0 x68_172 d.1 d.2 = some s16) [66, 67, 68] (fun d => [(1, .ptr 0 []), (4, .ptr 1 []), (5, .fn 29 [] [1]), (8, .ptr 3 [])]) (fun d => [.inr (.box 10 (.val qe s_0)), .inr (.box 4294967357 (.agg [pk d.1 1, .own 2])), .inr (.row 5 qr d.2), .inr (.box 5 (.val qa (s_0.2.2.2.2.2.2.2.2.1.getD (x68_172.toNat) ([], [], [], [], [], ()))))]) ?_ ?_)
     ·refine aA (aD hF [1, 4, 5, 8, 66, 67, 68, 78, 79, 80] (yaA ?_))
      refine aB (cB (aAO [0, 1, 4, 3] rfl rfl (yaC ?_)))
      refine hZ (D := Int × Bool × qI) [66, 67, 68, 78, 79] (fun d => [(1, .ptr 0 []), (4, .ptr 1 []), (5, .fn 29 [] [1]), (8, .ptr 3 []), (80, .val qj d.1)]) (fun d => [.inr (.box 10 (.val qe s_0)), .inr (.box 4294967357 (.agg [pk d.2.1 1, .own 2])), .inr (.row 5 qr d.2.2), .inr (.box 5 (.val qa (s_0.2.2.2.2.2.2.2.2.1.getD (x68_172.toNat) ([], [], [], [], [], ()))))]) h ?_ ?_ ?_
      ·first | rfl | (simp only [go_sem]; done)
      ·exact zAF
      rintro ⟨x80_329, b_330, x_331⟩ s20 h hs20
      simp only [go_sem]
      try dsimp only at h
      unfold aCA at h
      refine aA (aD hF [1, 4, 5, 8, 66, 67, 68, 78, 79, 80, 81] (yaA ?_))
      refine aB (aA (bF rfl (fun hc => ?_) (fun hc => ?_)))
      ·try simp only [go_sem] at hc
       have h := dT zAB h
       refine bM (aB (aA (cB (aA (aM hF [1, 4, 5, 8, 10, 66, 67, 68, 78, 79, 80] (yaA ?_))))))
       obtain ⟨g0, h⟩ := aI h
       repeat (refine ⟨zAA, ?_⟩)
       obtain ⟨g0, h⟩ := aI h
       obtain ⟨g1, h⟩ := aI h
       obtain ⟨r_339, he15, h⟩ := bind_some h
       try dsimp only at h
       refine aB (sB hF (aY (l := [(29, ⟨cO F, [1, 2], (([(aP ⟨#[115, 116, 97, 116, 101]⟩), ((s_0.2.2.2.2.2.2.2.2.1.getD (x68_172.toNat) ([], [], [], [], [], ())).2.1.getD (x80_329.toNat) ([], ([], [], ()), (Ex.mk 0 [] []), ())).1, (aP ⟨#[61]⟩), ((mS F ((s_0.2.2.2.2.2.2.2.2.1.getD (x68_172.toNat) ([], [], [], [], [], ())).2.1.getD (x80_329.toNat) ([], ([], [], ()), (Ex.mk 0 [] []), ())).2.1).getD ([] : List Nat)), (aP ⟨#[100, 101, 114]⟩), ((cH F 64 ((s_0.2.2.2.2.2.2.2.2.1.getD (x68_172.toNat) ([], [], [], [], [], ())).2.1.getD (x80_329.toNat) ([], ([], [], ()), (Ex.mk 0 [] []), ())).2.2.1).getD ([] : List Nat))] : List qI), (b_330, x_331), r_339)⟩)]) (.cons (dN F) xAa (.nil))) 10 xAb [1, 4, 5, 8, 66, 67, 68, 78, 79, 80] [] (yaD ?_))
       simp only [aML, go_sem]
       repeat (refine ⟨zAC, ?_⟩)
       refine cU (aB (aD hF [1, 4, 5, 8, 66, 67, 68, 78, 79, 80] (yaA ?_)))
       obtain ⟨g0, h⟩ := aI h
       try simp only [I64, I32] at g0
       repeat (refine ⟨zAA, ?_⟩)
       obtain rfl := Option.some.inj h
       dsimp only [iM] at hs20
       refine bB (mD [0, 1, 5, 3] rfl rfl (yaC ?_))
       refine aW ((x80_329 + (1 : Int)), r_339.1, r_339.2) hs20 rfl ?_
       ·exact zAF
      ·try simp only [go_sem] at hc
       have h := dP zAB h
       obtain rfl := Option.some.inj h
       dsimp only [iM] at hs20
       have h := yaF (hs20)
       refine kT (bP (bP (dG (bB (aW (b_330, x_331) h rfl ?_)))))
       ·exact zAF
     ·rintro ⟨b_270, x_271⟩ h
      try dsimp only at h
      simp only [go_sem]
      unfold yS at h
      refine jZ (D := Bool × qI) (fun d => yR F s_0 x68_172 d.1 d.2 = some s16) [66, 67, 68] (fun d => [(1, .ptr 0 []), (4, .ptr 1 []), (5, .fn 29 [] [1]), (8, .ptr 3 [])]) (fun d => [.inr (.box 10 (.val qe s_0)), .inr (.box 4294967357 (.agg [pk d.1 1, .own 2])), .inr (.row 5 qr d.2), .inr (.box 5 (.val qa (s_0.2.2.2.2.2.2.2.2.1.getD (x68_172.toNat) ([], [], [], [], [], ()))))]) ?_ ?_
      ·refine aA (aD hF [1, 4, 5, 8, 66, 67, 68, 97, 98, 99] (yaA ?_))
       refine aB (cB (hZ (D := Int × Bool × qI) [66, 67, 68, 97, 98] (fun d => [(1, .ptr 0 []), (4, .ptr 1 []), (5, .fn 29 [] [1]), (8, .ptr 3 []), (99, .val qj d.1)]) (fun d => [.inr (.box 10 (.val qe s_0)), .inr (.box 4294967357 (.agg [pk d.2.1 1, .own 2])), .inr (.row 5 qr d.2.2), .inr (.box 5 (.val qa (s_0.2.2.2.2.2.2.2.2.1.getD (x68_172.toNat) ([], [], [], [], [], ()))))]) h ?_ ?_ ?_))
       ·first | rfl | (simp only [go_sem]; done)
       ·exact zAF
       rintro ⟨x99_317, b_318, x_319⟩ s25 h hs25
       simp only [go_sem]
       try dsimp only at h
       unfold aCz at h
       refine aA (aD hF [1, 4, 5, 8, 66, 67, 68, 97, 98, 99, 100] (yaA ?_))
       refine aB (aA (bF rfl (fun hc => ?_) (fun hc => ?_)))
       ·try simp only [go_sem] at hc
        have h := dT zAB h
        refine bM (aB (aA (cB (aA (aM hF [1, 4, 5, 8, 12, 66, 67, 68, 97, 98, 99] (yaA ?_))))))
        obtain ⟨g0, h⟩ := aI h
        repeat (refine ⟨zAA, ?_⟩)
        obtain ⟨g0, h⟩ := aI h
        obtain ⟨r_327, he14, h⟩ := bind_some h
        try dsimp only at h
        refine aB (sB hF (aY (l := [(29, ⟨cO F, [1, 2], (([(aP ⟨#[112, 97, 114]⟩), ((s_0.2.2.2.2.2.2.2.2.1.getD (x68_172.toNat) ([], [], [], [], [], ())).2.2.1.getD (x99_317.toNat) ([], ([], [], ()), ())).1, (aP ⟨#[61]⟩), ((mS F ((s_0.2.2.2.2.2.2.2.2.1.getD (x68_172.toNat) ([], [], [], [], [], ())).2.2.1.getD (x99_317.toNat) ([], ([], [], ()), ())).2.1).getD ([] : List Nat))] : List qI), (b_318, x_319), r_327)⟩)]) (.cons (dN F) xAa (.nil))) 7 xAb [1, 4, 5, 8, 66, 67, 68, 97, 98, 99] [] (yaD ?_))
        simp only [aML, go_sem]
        repeat (refine ⟨zAC, ?_⟩)
        refine cU (aB (aD hF [1, 4, 5, 8, 66, 67, 68, 97, 98, 99] (yaA ?_)))
        obtain ⟨g0, h⟩ := aI h
        try simp only [I64, I32] at g0
        repeat (refine ⟨zAA, ?_⟩)
        obtain rfl := Option.some.inj h
        dsimp only [iM] at hs25
        refine bB (mD [0, 1, 5, 3] rfl rfl (yaC ?_))
        refine aW ((x99_317 + (1 : Int)), r_327.1, r_327.2) hs25 rfl ?_
        ·exact zAF
       ·try simp only [go_sem] at hc
        have h := dP zAB h
        obtain rfl := Option.some.inj h
        dsimp only [iM] at hs25
        have h := yaF (hs25)
        refine kT (bP (bP (dG (bB (aW (b_318, x_319) h rfl ?_)))))
        ·exact zAF
      ·rintro ⟨b_280, x_281⟩ h
       try dsimp only at h
       simp only [go_sem]
       unfold yR at h
       refine jZ (D := Bool × qI) (fun d => yQ F s_0 x68_172 d.1 d.2 = some s16) [66, 67, 68] (fun d => [(1, .ptr 0 []), (4, .ptr 1 []), (5, .fn 29 [] [1]), (8, .ptr 3 [])]) (fun d => [.inr (.box 10 (.val qe s_0)), .inr (.box 4294967357 (.agg [pk d.1 1, .own 2])), .inr (.row 5 qr d.2), .inr (.box 5 (.val qa (s_0.2.2.2.2.2.2.2.2.1.getD (x68_172.toNat) ([], [], [], [], [], ()))))]) ?_ ?_
       ·refine aA (aD hF [1, 4, 5, 8, 66, 67, 68, 113, 114, 115] (yaA ?_))
        refine aB (cB (hZ (D := Int × Bool × qI) [66, 67, 68, 113, 114] (fun d => [(1, .ptr 0 []), (4, .ptr 1 []), (5, .fn 29 [] [1]), (8, .ptr 3 []), (115, .val qj d.1)]) (fun d => [.inr (.box 10 (.val qe s_0)), .inr (.box 4294967357 (.agg [pk d.2.1 1, .own 2])), .inr (.row 5 qr d.2.2), .inr (.box 5 (.val qa (s_0.2.2.2.2.2.2.2.2.1.getD (x68_172.toNat) ([], [], [], [], [], ()))))]) h ?_ ?_ ?_))
        ·first | rfl | (simp only [go_sem]; done)
        ·exact zAF
        rintro ⟨x115_305, b_306, x_307⟩ s30 h hs30
        simp only [go_sem]
        try dsimp only at h
        unfold aCy at h
        refine aA (aD hF [1, 4, 5, 8, 66, 67, 68, 113, 114, 115, 116] (yaA ?_))
        refine aB (aA (bF rfl (fun hc => ?_) (fun hc => ?_)))
        ·try simp only [go_sem] at hc
         have h := dT zAB h
         refine bM (aB (aA (cB (aA (aD hF [1, 4, 5, 8, 14, 66, 67, 68, 113, 114, 115] (yaA ?_))))))
         obtain ⟨g0, h⟩ := aI h
         repeat (refine ⟨zAA, ?_⟩)
         obtain ⟨r_315, he13, h⟩ := bind_some h
         try dsimp only at h
         refine aB (aK hF (aY (l := [(29, ⟨cO F, [1, 2], (([(aP ⟨#[105, 110]⟩), ((s_0.2.2.2.2.2.2.2.2.1.getD (x68_172.toNat) ([], [], [], [], [], ())).2.2.2.1.getD (x115_305.toNat) ([] : List Nat))] : List qI), (b_306, x_307), r_315)⟩)]) (.cons (dN F) xAa (.nil))) [1, 4, 5, 8, 66, 67, 68, 113, 114, 115] [] (yaD ?_))
         refine cU (aB (aD hF [1, 4, 5, 8, 66, 67, 68, 113, 114, 115] (yaA ?_)))
         obtain ⟨g0, h⟩ := aI h
         try simp only [I64, I32] at g0
         repeat (refine ⟨zAA, ?_⟩)
         obtain rfl := Option.some.inj h
         dsimp only [iM] at hs30
         refine bB (mD [0, 1, 4, 3] rfl rfl (yaC ?_))
         refine aW ((x115_305 + (1 : Int)), r_315.1, r_315.2) hs30 rfl ?_
         ·exact zAF
        ·try simp only [go_sem] at hc
         have h := dP zAB h
         obtain rfl := Option.some.inj h
         dsimp only [iM] at hs30
         have h := yaF (hs30)
         refine kT (bP (bP (dG (bB (aW (b_306, x_307) h rfl ?_)))))
         ·exact zAF
       ·rintro ⟨b_290, x_291⟩ h
        try dsimp only at h
        simp only [go_sem]
        unfold yQ at h
        refine aA (aD hF [1, 4, 5, 66, 67, 68, 125, 126, 127] (yaA ?_))
        refine aB (cB (aAO [0, 1, 2] rfl rfl (yaC ?_)))
        refine hZ (D := Int × Bool × qI) [66, 67, 68, 125, 126] (fun d => [(1, .ptr 0 []), (4, .ptr 1 []), (5, .fn 29 [] [1]), (127, .val qj d.1)]) (fun d => [.inr (.box 10 (.val qe s_0)), .inr (.box 4294967357 (.agg [pk d.2.1 1, .own 2])), .inr (.row 5 qr d.2.2)]) h ?_ ?_ ?_
        ·first | rfl | (simp only [go_sem]; done)
        ·exact zAF
        rintro ⟨x127_293, b_294, x_295⟩ s35 h hs35
        simp only [go_sem]
        try dsimp only at h
        unfold aCx at h
        refine aA (aD hF [1, 4, 5, 66, 67, 68, 125, 126, 127, 128] (yaA ?_))
        refine aB (aA (bF rfl (fun hc => ?_) (fun hc => ?_)))
        ·try simp only [go_sem] at hc
         have h := dT zAB h
         refine bM (aB (aA (cB (aA (aM hF [1, 4, 5, 16, 66, 67, 68, 125, 126, 127] (yaA ?_))))))
         obtain ⟨g0, h⟩ := aI h
         repeat (refine ⟨zAA, ?_⟩)
         obtain ⟨g0, h⟩ := aI h
         obtain ⟨r_303, he12, h⟩ := bind_some h
         try dsimp only at h
         refine aB (sB hF (aY (l := [(29, ⟨cO F, [1, 2], (([(aP ⟨#[111, 117, 116]⟩), ((s_0.2.2.2.2.2.2.2.2.1.getD (x68_172.toNat) ([], [], [], [], [], ())).2.2.2.2.1.getD (x127_293.toNat) ([], (Ex.mk 0 [] []), ())).1, (aP ⟨#[61]⟩), ((cH F 64 ((s_0.2.2.2.2.2.2.2.2.1.getD (x68_172.toNat) ([], [], [], [], [], ())).2.2.2.2.1.getD (x127_293.toNat) ([], (Ex.mk 0 [] []), ())).2.1).getD ([] : List Nat))] : List qI), (b_294, x_295), r_303)⟩)]) (.cons (dN F) xAa (.nil))) 7 xAb [1, 4, 5, 66, 67, 68, 125, 126, 127] [] (yaD ?_))
         simp only [aML, go_sem]
         repeat (refine ⟨zAC, ?_⟩)
         refine cU (aB (aD hF [1, 4, 5, 66, 67, 68, 125, 126, 127] (yaA ?_)))
         obtain ⟨g0, h⟩ := aI h
         try simp only [I64, I32] at g0
         repeat (refine ⟨zAA, ?_⟩)
         obtain rfl := Option.some.inj h
         dsimp only [iM] at hs35
         refine bB (mD [0, 1, 4] rfl rfl (yaC ?_))
         refine aW ((x127_293 + (1 : Int)), r_303.1, r_303.2) hs35 rfl ?_
         ·exact zAF
        ·try simp only [go_sem] at hc
         have h := dP zAB h
         obtain rfl := Option.some.inj h
         dsimp only [iM] at hs35
         have h := yaF (hs35)
         refine kT (bP (bP (dG (cU (aB (aD hF [1, 4, 5, 66, 67, 68] (yaA ?_)))))))
         obtain ⟨g0, h⟩ := aI h
         try simp only [I64, I32] at g0
         repeat (refine ⟨zAA, ?_⟩)
         obtain rfl := Option.some.inj h
         dsimp only [iM] at hs16
         refine bB (aW ((x68_172 + (1 : Int)), b_294, x_295) hs16 rfl ?_)
         ·exact zAF
    ·try simp only [go_sem] at hc
     have h := dP zAB h
     obtain rfl := Option.some.inj h
     dsimp only [iM] at hs16
     have h := yaF (hs16)
     refine kT (bP (bP (dG (bB (aW (b_173, x_174) h rfl ?_)))))
     ·exact zAF
   ·rintro ⟨b_105, x_106⟩ h
    try dsimp only at h
    simp only [go_sem]
    unfold yP at h
    refine aA (aA (aD hF [4, 5, 142, 143, 144] (yaA ?_)))
    refine aB (cB (aAO [1, 2] rfl rfl (yaC ?_)))
    refine hZ (D := Int × Bool × qI) [142, 143] (fun d => [(4, .ptr 0 []), (5, .fn 29 [] [0]), (144, .val qj d.1)]) (fun d => [.inr (.box 4294967357 (.agg [pk d.2.1 0, .own 1])), .inr (.row 5 qr d.2.2)]) h ?_ ?_ ?_
    ·first | rfl | (simp only [go_sem]; done)
    ·exact zAF
    rintro ⟨x144_116, b_117, x_118⟩ s41 h hs41
    simp only [go_sem]
    try dsimp only at h
    unfold aCw at h
    refine aA (aD hF [4, 5, 142, 143, 144, 145] (yaA ?_))
    refine aB (aA (bF rfl (fun hc => ?_) (fun hc => ?_)))
    ·try simp only [go_sem] at hc
     have h := dT zAB h
     refine bM (aB (aA (cB (aA (aM hF [4, 5, 18, 142, 143, 144] (yaA ?_))))))
     obtain ⟨g0, h⟩ := aI h
     repeat (refine ⟨zAA, ?_⟩)
     obtain ⟨g0, h⟩ := aI h
     obtain ⟨g1, h⟩ := aI h
     obtain ⟨g2, h⟩ := aI h
     obtain ⟨g3, h⟩ := aI h
     obtain ⟨r_126, he8, h⟩ := bind_some h
     try dsimp only at h
     refine aB (aK hF (aY (l := [(29, ⟨cO F, [0, 1], (([(aP ⟨#[108, 105, 110, 107]⟩), (((s_0.2.2.2.2.2.2.2.2.2.1.getD (x144_116.toNat) ([], [], [], [], ())).1 ++ (aP ⟨#[46]⟩)) ++ (s_0.2.2.2.2.2.2.2.2.2.1.getD (x144_116.toNat) ([], [], [], [], ())).2.1), (aP ⟨#[61]⟩), (((s_0.2.2.2.2.2.2.2.2.2.1.getD (x144_116.toNat) ([], [], [], [], ())).2.2.1 ++ (aP ⟨#[46]⟩)) ++ (s_0.2.2.2.2.2.2.2.2.2.1.getD (x144_116.toNat) ([], [], [], [], ())).2.2.2.1)] : List qI), (b_117, x_118), r_126)⟩)]) (.cons (dN F) xAa (.nil))) [4, 5, 142, 143, 144] [] (yaD ?_))
     refine cU (aB (aD hF [4, 5, 142, 143, 144] (yaA ?_)))
     obtain ⟨g0, h⟩ := aI h
     try simp only [I64, I32] at g0
     repeat (refine ⟨zAA, ?_⟩)
     obtain rfl := Option.some.inj h
     dsimp only [iM] at hs41
     refine bB (mD [0, 3] rfl rfl (yaC ?_))
     refine aW ((x144_116 + (1 : Int)), r_126.1, r_126.2) hs41 rfl ?_
     ·exact zAF
    ·try simp only [go_sem] at hc
     have h := dP zAB h
     obtain rfl := Option.some.inj h
     dsimp only [iM] at hs41
     have h := yaF (hs41)
     obtain ⟨r_128, he9, h⟩ := bind_some h
     try dsimp only at h
     refine kT (bP (bP (dG (aB (aA (aK hF (aY (l := [(34, ⟨jS F, [0, 1], ((b_117, x_118), r_128)⟩)]) (.cons (aB4 F) xAa (.nil))) [2, 3] [] (yaD ?_)))))))
     obtain rfl := Option.some.inj h
     refine aB (bX (eM hF [.tmp 2, .tmp 3] rfl rfl rfl ?_))
     exact zAG
attribute [go_sem] xD
end
end Nu
end Go.Proofs
namespace Go.Proofs
open Go.Vc
set_option maxRecDepth 20000
namespace Nu
noncomputable section
def aP9 : List Nat → Nat → Nat → Int
 | [], _, _ => -1
 | b :: l, c, k => if b = c then (k : Int) else aP9 l c (k + 1)
def aEU (l : List Nat) (c : Nat) : Int := aP9 l c 0
theorem aEj : ∀ (l : List UInt8) (c : UInt8), Lib.indexByte l c = -1 ∨ 0 ≤ Lib.indexByte l c
 | [], c => .inl rfl
 | b :: l, c => by
  unfold Lib.indexByte
  split
  ·exact .inr xAb
  ·split
   ·exact .inl rfl
   ·rename_i h
    rcases aEj l c with h1 | h1
    ·rw [h1] at h; exact absurd rfl h
    ·right; omega
theorem aPa : ∀ (l : List UInt8) (c : UInt8) (k : Nat), aP9 (l.map (·.toNat)) c.toNat k = if Lib.indexByte l c = -1 then -1 else Lib.indexByte l c + k
 | [], c, k => rfl
 | b :: l, c, k => by
  have ih := aPa l c (k + 1)
  have ho := aEj l c
  rw [List.map_cons, aP9]
  unfold Lib.indexByte
  by_cases hb : b = c
  ·subst hb
   simp
  ·have hn : ¬ b.toNat = c.toNat := fun h => hb (UInt8.toNat_inj.1 h)
   have hbe : (b == c) = false := by simpa using hb
   rw [if_neg hn, ih, hbe]
   by_cases h1 : Lib.indexByte l c = -1
   ·rw [if_pos h1, h1]; rfl
   ·have h2 : (Lib.indexByte l c == -1) = false := by simpa using h1
    rw [if_neg h1, h2]
    simp only [Bool.false_eq_true, if_false]
    rw [if_neg (by omega)]
    omega
def rX : Ty := .pair .str wh
def iY : aF := ⟨rX, .one qj, fun _ => True, fun x => aEU x.1 x.2.1⟩
attribute [go_sem] iY rX
theorem aBe : NOK Tryz.prog GL 110 iY := by
 refine ⟨(fun e t h => by cases h), fun w vs S x hS hG ha hp => ?_⟩
 obtain ⟨(a : List Nat), (c : Nat), u⟩ := x
 obtain ⟨v1, r1, e1, h1, v2, r2, e2, h2, h3⟩ := ha
 have h3 : r2 = [] := h3
 subst h3
 have h1 : aT w S .str a [v1] := h1
 obtain ⟨s, es, hs, hsz⟩ := h1
 obtain rfl := (List.cons.inj es).1
 have hw := h2
 unfold cR at h2
 rw [if_neg (by simp [Ty.isAgg])] at h2
 simp only [aT, List.cons.injEq, and_true] at h2
 have hc : c < 256 := by
  have := h2.2.2
  have hm : IntKind.u8.max = 255 := by decide
  omega
 obtain rfl := h2.1
 have hvs : vs = #[.string s, .int .u8 (c : Int)] := by rw [← Array.toList_inj, e1, e2]
 rw [hvs]
 refine ⟨.int .i64 (Lib.indexByte s.data.toList ((c : Int).toNat.toUInt8)), w, ?_, _, rfl, .refl _ _, ?_⟩
 ·rw [run_callFunc_extern Tryz.func110 xAa xAa xAa (e := Extern.BytealgIndexByte.indexByte) xAa, Lib.run_indexByteString]
  rfl
 ·show cR w _ qj (aEU a c) _
  have hx : aEU a c = Lib.indexByte s.data.toList ((c : Int).toNat.toUInt8) := by
   have hcc : ((c : Int).toNat.toUInt8).toNat = c := by
    rw [Int.toNat_natCast]
    exact Nat.mod_eq_of_lt hc
   have := aPa s.data.toList ((c : Int).toNat.toUInt8) 0
   rw [hcc] at this
   have hs : a = s.data.toList.map (·.toNat) := hs.symm
   unfold aEU
   rw [hs, this]
   split
   ·rename_i h; exact h.symm
   ·omega
  rw [hx]
  unfold cR
  rw [if_neg (by simp [Ty.isAgg])]
  have ho := aEj s.data.toList ((c : Int).toNat.toUInt8)
  have hl : ∀ (l : List UInt8) (c : UInt8), Lib.indexByte l c ≤ l.length := fun l c => by
   induction l with
   | nil => exact (by decide : (-1 : Int) ≤ 0)
   | cons b l ih =>
    unfold Lib.indexByte
    split
    ·simp; omega
    ·split
     ·simp; omega
     ·simp; omega
  have hl := hl s.data.toList ((c : Int).toNat.toUInt8)
  have hsz' : s.data.toList.length ≤ maxLen := hsz
  unfold maxLen at hsz'
  generalize Lib.indexByte s.data.toList ((c : Int).toNat.toUInt8) = z at ho hl ⊢
  refine ⟨rfl, rfl, ?_, ?_⟩
  ·have hm : IntKind.i64.min = -9223372036854775808 := by decide
   show (IntKind.i64.min : Int) ≤ z
   rw [hm]
   omega
  ·have hm : IntKind.i64.max = 9223372036854775807 := by decide
   show (z : Int) ≤ IntKind.i64.max
   rw [hm]
   omega
end
end Nu
end Go.Proofs
namespace Go.Proofs
open Go.Vc
set_option maxRecDepth 20000
namespace Nu
noncomputable section
set_option maxHeartbeats 4000000
attribute [-go_sem] Ex.kind Ex.text Ex.l
def kQ (F : Md) (s_0 : qI) (c_1 : Nat) : Option Int :=
 some (aEU s_0 c_1)
def tC : PlR := ⟨[(0, .A [0, 1]), (1, .A [4])], []⟩
def tZ : Ty := .pair .str wh
def jT (F : Md) : aF := mSpec tZ (.one qj) (fun x => kQ F x.1 x.2.1)
abbrev uA (F : Md) : List (FuncId × aF) := [(110, iY)]
theorem aC2 (F : Md) : bG Tryz.prog GL (uA F) := .nat aBe (.nil)
attribute [go_sem] tZ tC
theorem aB5 (F : Md) : FOK Tryz.prog GL 83 (jT F) := by
 refine bN (aS (aC2 F)) mix Tryz.func83 rfl xAa xAb tC fun w0 S x Θ hw h hF => ?_
 obtain ⟨(s_0 : qI), (c_1 : Nat), u⟩ := x
 simp only [bQ, go_sem]
 replace h : sat (kQ F s_0 c_1) _ := h
 unfold kQ at h
 exact zaA
attribute [go_sem] jT
def aO (F : Md) (s_0 : qI) (c_1 : Nat) : Option Int :=
 (kQ F s_0 c_1).bind (fun v_6 => some v_6)
def aAg : PlR := ⟨[(0, .A [0, 1]), (1, .A [4])], []⟩
def aAz : Ty := .pair .str wh
def cS (F : Md) : aF := mSpec aAz (.one qj) (fun x => aO F x.1 x.2.1)
abbrev aAA (F : Md) : List (FuncId × aF) := [(83, (jT F))]
theorem aGg (F : Md) : bG Tryz.prog GL (aAA F) := .cons (aB5 F) xAa (.nil)
attribute [go_sem] aAz aAg
theorem lB (F : Md) : FOK Tryz.prog GL 60 (cS F) := by
 refine bN (aS (aGg F)) mix Tryz.func60 rfl xAa xAb aAg fun w0 S x Θ hw h hF => ?_
 obtain ⟨(s_0 : qI), (c_1 : Nat), u⟩ := x
 simp only [bQ, go_sem]
 replace h : sat (aO F s_0 c_1) _ := h
 unfold aO at h
 obtain ⟨v_6, hv, h⟩ := aJ h
 exact zaP
attribute [go_sem] cS
def dL (F : Md) (r_3 : qd) : Option (qd ⊕ qd) :=
 ck ((r_3.2.1 < (r_3.1.length : Int)) → (0 ≤ r_3.2.1 ∧ r_3.2.1 < (r_3.1.length : Int))) (if (r_3.2.1 < (r_3.1.length : Int)) ∧ ((r_3.1.getD (r_3.2.1.toNat) (0 : Nat)) = (32 : Nat)) then ck (I64 (r_3.2.1 + (1 : Int))) (some (.inl (r_3.1, (r_3.2.1 + (1 : Int)), r_3.2.2.1, ()))) else some (.inr r_3))
def gY (F : Md) (o0_1 : qd) : Option qd :=
 (dI F (fun d : qd => dL F d) o0_1).bind (fun e => some e)
def lC (F : Md) : iE where
 D := qd × qd
 av := fun d => [.ptr 0 []]
 hp := fun d => [.box 3 (.val qk d.1)]
 m := 1
 pre := fun d => gY F d.1 = some d.2
 out := fun d => (fun r : qd => .ret (.tup []) [.box 3 (.val qk (r))]) d.2
abbrev aAB (F : Md) : List (FuncId × aF) := []
theorem aAC (F : Md) : bG Tryz.prog GL (aAB F) := .nil
theorem aAh (F : Md) : GOK Tryz.prog GL 22 (lC F) := by
 refine iT (aS (aAC F)) Tryz.func22 rfl xAa (fun _ => Nat.le_of_ble_eq_true rfl) fun c0 w0 d hw1 hw2 h hn => ?_
 have hF : hU ⟨Tryz.prog, EM (aAB F), GM (lC F) c0 d, w0, Tryz.f22.ntmps, []⟩ := ⟨aS (aAC F), mix⟩
 obtain ⟨(o0_1 : qd), r⟩ := d
 replace h : gY F o0_1 = some r := h
 have hw1 : AV.wfL [.ptr 0 []] := hw1
 simp only [AV.wfL, AV.wfV, Ty.wf, gW] at hw1
 show Tri _ _ _ [(0, .ptr 0 [])] [.box 3 (.val qk o0_1)]
 unfold gY at h
 refine cB (hZ (D := qd) [] (fun d => [(0, .ptr 0 [])]) (fun d => [.inr (.box 3 (.val qk d))]) h ?_ ?_ ?_)
 ·first | rfl | (simp only [go_sem]; done)
 ·exact zAF
 rintro r_3 s0 h hs0
 simp only [go_sem]
 try dsimp only at h
 unfold dL at h
 refine aA (aA (aD hF [0, 23] (yaA ?_)))
 obtain ⟨g0, h⟩ := aI h
 repeat (refine ⟨zAE, ?_⟩)
 refine aB (bF rfl (fun hc => ?_) (fun hc => ?_))
 ·try simp only [go_sem] at hc
  have h := dT zAB h
  refine bM (aB (cB (aM hF [0] (yaA ?_))))
  obtain ⟨g0, h⟩ := aI h
  try simp only [I64, I32] at g0
  repeat (refine ⟨zAA, ?_⟩)
  obtain rfl := Option.some.inj h
  dsimp only [iM] at hs0
  refine cU (bB (aW (r_3.1, (r_3.2.1 + (1 : Int)), r_3.2.2.1, ()) hs0 rfl ?_))
  ·exact zAF
 ·try simp only [go_sem] at hc
  have h := dP zAB h
  obtain rfl := Option.some.inj h
  dsimp only [iM] at hs0
  have h := yaF (hs0)
  obtain rfl := Option.some.inj h
  refine kT (bP (bP (dG (aAQ (qY hF [] rfl rfl rfl rfl rfl rfl ?_)))))
  exact zaD
attribute [go_sem] lC
def dZ (F : Md) (signs_1 : qI) (o0_2 : qd) : Option ((Nat × wa) × qd) :=
 (gY F o0_2).bind (fun r_5 => ck (¬ (r_5.2.1 = (r_5.1.length : Int)) → (0 ≤ r_5.2.1 ∧ r_5.2.1 < (r_5.1.length : Int))) (ck (¬ (r_5.2.1 = (r_5.1.length : Int)) → ((aO F signs_1 (r_5.1.getD (r_5.2.1.toNat) (0 : Nat))).isSome = true)) (if (r_5.2.1 = (r_5.1.length : Int)) ∨ (((aO F signs_1 (r_5.1.getD (r_5.2.1.toNat) (0 : Nat))).getD (0 : Int)) < (0 : Int)) then some (((0 : Nat), false, ()), r_5) else ck (I64 (r_5.2.1 + (1 : Int))) (ck (I64 ((r_5.2.1 + (1 : Int)) - (1 : Int))) (ck (0 ≤ ((r_5.2.1 + (1 : Int)) - (1 : Int)) ∧ ((r_5.2.1 + (1 : Int)) - (1 : Int)) < (r_5.1.length : Int)) (some (((r_5.1.getD ((r_5.2.1 + (1 : Int)) - (1 : Int)).toNat (0 : Nat)), true, ()), r_5.1, (r_5.2.1 + (1 : Int)), r_5.2.2.1, ())))))))
def iQ (F : Md) : iE where
 D := qI × qd × ((Nat × wa) × qd)
 av := fun d => [.ptr 0 [], .val .str d.1]
 hp := fun d => [.box 3 (.val qk d.2.1)]
 m := 1
 pre := fun d => dZ F d.1 d.2.1 = some d.2.2
 out := fun d => (fun r : ((Nat × wa) × qd) => .ret (.tup [.val qr r.1.1, .val .bool r.1.2.1]) [.box 3 (.val qk r.2)]) d.2.2
abbrev xE (F : Md) : List (FuncId × aF) := [(60, (cS F))]
theorem aCC (F : Md) : bG Tryz.prog GL (xE F) := .cons (lB F) xAa (.nil)
theorem pV (F : Md) : GOK Tryz.prog GL 59 (iQ F) := by
 refine iT (aS (aCC F)) Tryz.func59 rfl xAa (fun _ => Nat.le_of_ble_eq_true rfl) fun c0 w0 d hw1 hw2 h hn => ?_
 have hF : hU ⟨Tryz.prog, EM (xE F), GM (iQ F) c0 d, w0, Tryz.f59.ntmps, []⟩ := ⟨aS (aCC F), mix⟩
 obtain ⟨(signs_1 : qI), (o0_2 : qd), r⟩ := d
 replace h : dZ F signs_1 o0_2 = some r := h
 have hw1 : AV.wfL [.ptr 0 [], .val .str signs_1] := hw1
 simp only [AV.wfL, AV.wfV, Ty.wf, gW] at hw1
 show Tri _ _ _ [(0, .ptr 0 []), (1, .val .str signs_1)] [.box 3 (.val qk o0_2)]
 unfold dZ at h
 refine aA (aD hF [0, 1] (yaA ?_))
 obtain ⟨r_5, he1, h⟩ := bind_some h
 try dsimp only at h
 refine aB (aA (aK hF (aY (l := [(22, ⟨lC F, [0], (o0_2, r_5)⟩)]) (.cons (aAh F) xAa (.nil))) [0, 1] [] (yaB ?_)))
 refine aB (aA (aA (aD hF [0, 31] (yaA ?_))))
 obtain ⟨g0, h⟩ := aI h
 obtain ⟨g1, h⟩ := aI h
 repeat (refine ⟨zAD, ?_⟩)
 refine aB (bF rfl (fun hc => ?_) (fun hc => ?_))
 ·try simp only [go_sem] at hc
  have h := dT zAB h
  refine aA (aD hF [4, 5] (yaA ?_))
  obtain rfl := Option.some.inj h
  refine aB (bX (bO (qY hF [.tmp 4, .tmp 5] rfl rfl rfl rfl rfl rfl ?_)))
  exact zaD
 ·try simp only [go_sem] at hc
  have h := dP zAB h
  refine bM (aB (aA (aM hF [0] (yaA ?_))))
  obtain ⟨g0, h⟩ := aI h
  try simp only [I64, I32] at g0
  repeat (refine ⟨zAA, ?_⟩)
  refine aB (aA (aD hF [4, 5] (yaA ?_)))
  obtain ⟨g0, h⟩ := aI h
  obtain ⟨g1, h⟩ := aI h
  try simp only [I64, I32] at g0
  repeat (refine ⟨zAA, ?_⟩)
  obtain rfl := Option.some.inj h
  refine aB (bX (qY hF [.tmp 4, .tmp 5] rfl rfl rfl rfl rfl rfl ?_))
  exact zaD
attribute [go_sem] iQ
def dQ (F : Md) (sign_1 : qI) (o0_2 : qd) : Option (qd ⊕ ql) :=
 (dZ F sign_1 o0_2).bind (fun r_5 => if ¬ (r_5.1.2.1 = true) then some (.inr (r_5.2.2.1, ())) else some (.inl r_5.2))
def gE (F : Md) : iE where
 D := qI × qd × (qd ⊕ ql)
 av := fun d => [.ptr 0 [], .val .str d.1]
 hp := fun d => [.box 3 (.val qk d.2.1)]
 m := 1
 pre := fun d => dQ F d.1 d.2.1 = some d.2.2
 out := fun d => match d.2.2 with | .inl r => .ret (.tup []) [.box 3 (.val qk (r))] | .inr p => .pan ⟨47, qf, p⟩ [.box 3 (.junk)]
abbrev aAD (F : Md) : List (FuncId × aF) := []
theorem aAE (F : Md) : bG Tryz.prog GL (aAD F) := .nil
theorem oO (F : Md) : GOK Tryz.prog GL 111 (gE F) := by
 refine iT (aS (aAE F)) Tryz.func111 rfl xAa (fun _ => Nat.le_of_ble_eq_true rfl) fun c0 w0 d hw1 hw2 h hn => ?_
 have hF : hU ⟨Tryz.prog, EM (aAD F), GM (gE F) c0 d, w0, Tryz.f111.ntmps, []⟩ := ⟨aS (aAE F), mix⟩
 obtain ⟨(sign_1 : qI), (o0_2 : qd), r⟩ := d
 replace h : dQ F sign_1 o0_2 = some r := h
 have hw1 : AV.wfL [.ptr 0 [], .val .str sign_1] := hw1
 simp only [AV.wfL, AV.wfV, Ty.wf, gW] at hw1
 show Tri _ _ _ [(0, .ptr 0 []), (1, .val .str sign_1)] [.box 3 (.val qk o0_2)]
 unfold dQ at h
 obtain ⟨r_5, he1, h⟩ := bind_some h
 try dsimp only at h
 refine aA (aK hF (aY (l := [(59, ⟨iQ F, [0], (sign_1, o0_2, r_5)⟩)]) (.cons (pV F) xAa (.nil))) [0, 5] [] (yaB ?_))
 refine aB (aA (aD hF [0, 13] (yaA ?_)))
 refine aB (bF rfl (fun hc => ?_) (fun hc => ?_))
 ·try simp only [go_sem] at hc
  have h := dT zAB h
  refine aK hF (aY (l := []) (.nil)) [] [] (yaB ?_)
  obtain rfl := Option.some.inj h
  exact zac
 ·try simp only [go_sem] at hc
  have h := dP zAB h
  obtain rfl := Option.some.inj h
  refine bM (aAQ (qY hF [] rfl rfl rfl rfl rfl rfl ?_))
  exact zaD
attribute [go_sem] gE
def dA (F : Md) (kind_1 : Int) (text_2 : qI) (l_3 : (List Ex)) (o0_4 : qd) : Option qq :=
 ck (I64 (o0_4.2.2.1 + (1 : Int))) (some ((Ex.mk kind_1 text_2 l_3), o0_4.1, o0_4.2.1, (o0_4.2.2.1 + (1 : Int)), ()))
def eA (F : Md) : iE where
 D := Int × qI × (List Ex) × qd × qq
 av := fun d => [.ptr 0 [], .val qj d.1, .val .str d.2.1, .val (.sl .expr) d.2.2.1]
 hp := fun d => [.box 3 (.val qk d.2.2.2.1)]
 m := 1
 pre := fun d => dA F d.1 d.2.1 d.2.2.1 d.2.2.2.1 = some d.2.2.2.2
 out := fun d => (fun r : qq => .ret (.val .expr r.1) [.box 3 (.val qk r.2)]) d.2.2.2.2
abbrev aAF (F : Md) : List (FuncId × aF) := []
theorem aAG (F : Md) : bG Tryz.prog GL (aAF F) := .nil
theorem iW (F : Md) : GOK Tryz.prog GL 61 (eA F) := by
 refine iT (aS (aAG F)) Tryz.func61 rfl xAa (fun _ => Nat.le_of_ble_eq_true rfl) fun c0 w0 d hw1 hw2 h hn => ?_
 have hF : hU ⟨Tryz.prog, EM (aAF F), GM (eA F) c0 d, w0, Tryz.f61.ntmps, []⟩ := ⟨aS (aAG F), mix⟩
 obtain ⟨(kind_1 : Int), (text_2 : qI), (l_3 : (List Ex)), (o0_4 : qd), r⟩ := d
 replace h : dA F kind_1 text_2 l_3 o0_4 = some r := h
 have hw1 : AV.wfL [.ptr 0 [], .val qj kind_1, .val .str text_2, .val (.sl .expr) l_3] := hw1
 simp only [AV.wfL, AV.wfV, Ty.wf, gW] at hw1
 show Tri _ _ _ [(0, .ptr 0 []), (1, .val qj kind_1), (2, .val .str text_2), (3, .val (.sl .expr) l_3)] [.box 3 (.val qk o0_4)]
 unfold dA at h
 refine aA (aM hF [0, 1, 2, 3, 8] (yaA ?_))
 refine aB (aA (aM hF [1, 2, 3, 8] (yaA ?_)))
 obtain ⟨g0, h⟩ := aI h
 try simp only [I64, I32] at g0
 repeat (refine ⟨zAA, ?_⟩)
 refine aB (aA (aM hF [8] (yaA ?_)))
 obtain rfl := Option.some.inj h
 refine aB (bX (jV hF [.cell 8 24] [0] rfl rfl rfl rfl rfl rfl rfl rfl rfl ?_))
 exact zaD
attribute [go_sem] eA
def oV (F : Md) (s_0 : qI) (at_1 : Int) (n_9 : Int) (k_15 : Int) : Option (Int) :=
 (jF F s_0 k_15).bind (fun v_19 => ck (I64 (k_15 + (min v_19 (4 : Int)))) (ck (0 ≤ k_15 ∧ k_15 ≤ (k_15 + (min v_19 (4 : Int))) ∧ (k_15 + (min v_19 (4 : Int))) ≤ (s_0.length : Int)) (ck ((aP ⟨#[48]⟩).length + (List.drop (k_15.toNat) (List.take (k_15 + (min v_19 (4 : Int))).toNat s_0)).length ≤ 9223372036854775807) ((nG F ((aP ⟨#[48]⟩) ++ (List.drop (k_15.toNat) (List.take (k_15 + (min v_19 (4 : Int))).toNat s_0)))).bind (fun v_23 => if (((1 : Int) ≤ v_19) ∧ (v_19 ≤ (3 : Int))) ∧ (v_23.1 ≤ (100 : Int)) then ck (I64 (k_15 + v_19)) (ck (I64 ((k_15 + v_19) - at_1)) (some ((k_15 + v_19) - at_1))) else ck (I64 (n_9 - at_1)) (some (n_9 - at_1)))))))
def kR (F : Md) (s_0 : qI) (at_1 : Int) (n_9 : Int) : Option (Int) :=
 ck ((n_9 < (s_0.length : Int)) → (0 ≤ n_9 ∧ n_9 < (s_0.length : Int))) (if (n_9 < (s_0.length : Int)) ∧ ((s_0.getD (n_9.toNat) (0 : Nat)) = (101 : Nat)) then ck (I64 (n_9 + (1 : Int))) (ck (((n_9 + (1 : Int)) < (s_0.length : Int)) → (0 ≤ (n_9 + (1 : Int)) ∧ (n_9 + (1 : Int)) < (s_0.length : Int))) (ck (((n_9 + (1 : Int)) < (s_0.length : Int)) → ¬ ((s_0.getD (n_9 + (1 : Int)).toNat (0 : Nat)) = (43 : Nat)) → (0 ≤ (n_9 + (1 : Int)) ∧ (n_9 + (1 : Int)) < (s_0.length : Int))) (if ((n_9 + (1 : Int)) < (s_0.length : Int)) ∧ (((s_0.getD (n_9 + (1 : Int)).toNat (0 : Nat)) = (43 : Nat)) ∨ ((s_0.getD (n_9 + (1 : Int)).toNat (0 : Nat)) = (45 : Nat))) then ck (I64 ((n_9 + (1 : Int)) + (1 : Int))) (oV F s_0 at_1 n_9 ((n_9 + (1 : Int)) + (1 : Int))) else oV F s_0 at_1 n_9 (n_9 + (1 : Int))))) else ck (I64 (n_9 - at_1)) (some (n_9 - at_1)))
def dH (F : Md) (s_0 : qI) (at_1 : Int) : Option Int :=
 (jF F s_0 at_1).bind (fun v_6 => ck (I64 (at_1 + v_6)) (if (at_1 + v_6) = at_1 then some (0 : Int) else ck (((at_1 + v_6) < (s_0.length : Int)) → (0 ≤ (at_1 + v_6) ∧ (at_1 + v_6) < (s_0.length : Int))) (if ((at_1 + v_6) < (s_0.length : Int)) ∧ ((s_0.getD (at_1 + v_6).toNat (0 : Nat)) = (46 : Nat)) then ck (I64 ((at_1 + v_6) + (1 : Int))) ((jF F s_0 ((at_1 + v_6) + (1 : Int))).bind (fun v_27 => if (0 : Int) < v_27 then ck (I64 ((at_1 + v_6) + (1 : Int))) (ck (I64 (((at_1 + v_6) + (1 : Int)) + v_27)) (kR F s_0 at_1 (((at_1 + v_6) + (1 : Int)) + v_27))) else kR F s_0 at_1 (at_1 + v_6))) else kR F s_0 at_1 (at_1 + v_6))))
def aKW : PlR := ⟨[(0, .A [0, 1]), (1, .A [0, 1, 5]), (2, .A [0, 1, 5, 18]), (3, .A [4]), (4, .A [0, 1, 5, 28]), (5, .A [0, 1, 5, 6]), (6, .A [0, 1, 5, 6, 34]), (7, .A [0, 1, 5]), (8, .A [0, 1, 5, 48]), (9, .A [0, 1, 5, 7]), (10, .A [0, 1, 5, 7, 66]), (11, .A [0, 1, 5, 7]), (12, .A [0, 1, 5, 7, 8]), (13, .A [1, 5, 7, 8, 9]), (14, .A [1, 5, 7, 8, 93]), (15, .A [1, 5]), (16, .A [4])], [(7, 11), (13, 15)]⟩
def aNR : Ty := .pair .str qf
def aCD (F : Md) : aF := mSpec aNR (.one qj) (fun x => dH F x.1 x.2.1)
abbrev aHt (F : Md) : List (FuncId × aF) := [(63, (qO F)), (64, (oA F))]
theorem aSc (F : Md) : bG Tryz.prog GL (aHt F) := .cons (aGE F) xAa (.cons (aEv F) xAa (.nil))
attribute [go_sem] aNR aKW
theorem aRh (F : Md) : FOK Tryz.prog GL 112 (aCD F) := by
 refine bN (aS (aSc F)) mix Tryz.func112 rfl xAa xAb aKW fun w0 S x Θ hw h hF => ?_
 obtain ⟨(s_0 : qI), (at_1 : Int), u⟩ := x
 simp only [bQ, go_sem]
 replace h : sat (dH F s_0 at_1) _ := h
 unfold dH at h
 obtain ⟨v_6, hv, h⟩ := aJ h
 try simp only [hv, go_sem]
 obtain ⟨g0, h⟩ := aL h
 repeat (refine ⟨by omega, ?_⟩)
 refine dR h (fun hc h => ?_) fun hc h => ?_
 ·exact aG hF [.tmp 4] rfl rfl rfl (aC h) xAd
 ·refine dU hF (D := Int) (fun d => sat (kR F s_0 at_1 d) Θ) [0, 1] (fun d => [(5, .val qj d)]) (fun d => []) ?_ ?_
  ·simp only [go_sem]
   obtain ⟨g0, h⟩ := aL h
   repeat (refine ⟨by omega, ?_⟩)
   refine ⟨fun hc => ?_, fun hc => ?_⟩
   ·replace h := jA hc h
    obtain ⟨g0, h⟩ := aL h
    repeat (refine ⟨by omega, ?_⟩)
    obtain ⟨v_27, hv, h⟩ := aJ h
    try simp only [hv, go_sem]
    refine fZ h (fun hc h => ?_) fun hc h => ?_
    ·obtain ⟨g0, h⟩ := aL h
     obtain ⟨g1, h⟩ := aL h
     repeat (refine ⟨by omega, ?_⟩)
     exact aW (((at_1 + v_6) + (1 : Int)) + v_27) h rfl xAc
    ·exact aW (at_1 + v_6) h rfl xAc
   ·replace h := jB hc h
    exact aW (at_1 + v_6) h rfl xAc
  ·rintro n_9 h
   simp only [go_sem]
   replace h : sat (kR F s_0 at_1 n_9) _ := h
   unfold kR at h
   obtain ⟨g0, h⟩ := aL h
   repeat (refine ⟨by omega, ?_⟩)
   refine ⟨fun hc => ?_, fun hc => ?_⟩
   ·replace h := jA hc h
    obtain ⟨g0, h⟩ := aL h
    repeat (refine ⟨by omega, ?_⟩)
    refine dU hF (D := Int) (fun d => sat (oV F s_0 at_1 n_9 d) Θ) [0, 1, 5] (fun d => [(7, .val qj d)]) (fun d => []) ?_ ?_
    ·simp only [go_sem]
     obtain ⟨g0, h⟩ := aL h
     obtain ⟨g1, h⟩ := aL h
     repeat (refine ⟨by omega, ?_⟩)
     refine ⟨fun hc => ?_, fun hc => ?_⟩
     ·replace h := jA hc h
      obtain ⟨g0, h⟩ := aL h
      repeat (refine ⟨by omega, ?_⟩)
      exact aW ((n_9 + (1 : Int)) + (1 : Int)) h rfl xAc
     ·replace h := jB hc h
      exact aW (n_9 + (1 : Int)) h rfl xAc
    ·rintro k_15 h
     simp only [go_sem]
     replace h : sat (oV F s_0 at_1 n_9 k_15) _ := h
     unfold oV at h
     obtain ⟨v_19, hv, h⟩ := aJ h
     try simp only [hv, go_sem]
     obtain ⟨g0, h⟩ := aL h
     obtain ⟨g1, h⟩ := aL h
     obtain ⟨g2, h⟩ := aL h
     repeat (refine ⟨by omega, ?_⟩)
     obtain ⟨v_23, hv, h⟩ := aJ h
     try simp only [hv, go_sem]
     refine ⟨fun hc => ?_, fun hc => ?_⟩
     ·replace h := jA hc h
      obtain ⟨g0, h⟩ := aL h
      repeat (refine ⟨by omega, ?_⟩)
      obtain ⟨g0, h⟩ := aL h
      repeat (refine ⟨by omega, ?_⟩)
      exact zaA
     ·replace h := jB hc h
      obtain ⟨g0, h⟩ := aL h
      repeat (refine ⟨by omega, ?_⟩)
      exact zaA
   ·replace h := jB hc h
    obtain ⟨g0, h⟩ := aL h
    repeat (refine ⟨by omega, ?_⟩)
    exact zaA
attribute [go_sem] aCD
def iC (F : Md) (o0_1 : qd) : Option (qq ⊕ ql) :=
 ck ((dH F o0_1.1 o0_1.2.1).isSome = true) (if (((dH F o0_1.1 o0_1.2.1).getD (0 : Int)) = (0 : Int)) ∨ ((60 : Int) < ((dH F o0_1.1 o0_1.2.1).getD (0 : Int))) then some (.inr (o0_1.2.1, ())) else ck (I64 (o0_1.2.1 + ((dH F o0_1.1 o0_1.2.1).getD (0 : Int)))) (ck (I64 ((o0_1.2.1 + ((dH F o0_1.1 o0_1.2.1).getD (0 : Int))) - ((dH F o0_1.1 o0_1.2.1).getD (0 : Int)))) (ck (0 ≤ ((o0_1.2.1 + ((dH F o0_1.1 o0_1.2.1).getD (0 : Int))) - ((dH F o0_1.1 o0_1.2.1).getD (0 : Int))) ∧ ((o0_1.2.1 + ((dH F o0_1.1 o0_1.2.1).getD (0 : Int))) - ((dH F o0_1.1 o0_1.2.1).getD (0 : Int))) ≤ (o0_1.2.1 + ((dH F o0_1.1 o0_1.2.1).getD (0 : Int))) ∧ (o0_1.2.1 + ((dH F o0_1.1 o0_1.2.1).getD (0 : Int))) ≤ (o0_1.1.length : Int)) ((dA F (1 : Int) (List.drop ((o0_1.2.1 + ((dH F o0_1.1 o0_1.2.1).getD (0 : Int))) - ((dH F o0_1.1 o0_1.2.1).getD (0 : Int))).toNat (List.take (o0_1.2.1 + ((dH F o0_1.1 o0_1.2.1).getD (0 : Int))).toNat o0_1.1)) ([] : List Ex) (o0_1.1, (o0_1.2.1 + ((dH F o0_1.1 o0_1.2.1).getD (0 : Int))), o0_1.2.2.1, ())).bind (fun r_4 => some (.inl (r_4.1, r_4.2)))))))
def jI (F : Md) : iE where
 D := qd × (qq ⊕ ql)
 av := fun d => [.ptr 0 []]
 hp := fun d => [.box 3 (.val qk d.1)]
 m := 1
 pre := fun d => iC F d.1 = some d.2
 out := fun d => match d.2 with | .inl r => .ret (.val .expr r.1) [.box 3 (.val qk r.2)] | .inr p => .pan ⟨47, qf, p⟩ [.box 3 (.junk)]
abbrev qW (F : Md) : List (FuncId × aF) := [(112, (aCD F))]
theorem xX (F : Md) : bG Tryz.prog GL (qW F) := .cons (aRh F) xAa (.nil)
theorem xF (F : Md) : GOK Tryz.prog GL 85 (jI F) := by
 refine iT (aS (xX F)) Tryz.func85 rfl xAa (fun _ => Nat.le_of_ble_eq_true rfl) fun c0 w0 d hw1 hw2 h hn => ?_
 have hF : hU ⟨Tryz.prog, EM (qW F), GM (jI F) c0 d, w0, Tryz.f85.ntmps, []⟩ := ⟨aS (xX F), mix⟩
 obtain ⟨(o0_1 : qd), r⟩ := d
 replace h : iC F o0_1 = some r := h
 have hw1 : AV.wfL [.ptr 0 []] := hw1
 simp only [AV.wfL, AV.wfV, Ty.wf, gW] at hw1
 show Tri _ _ _ [(0, .ptr 0 [])] [.box 3 (.val qk o0_1)]
 unfold iC at h
 refine aA (aM hF [0, 2] (yaA ?_))
 refine aB (aA (aD hF [0, 2, 3] (yaA ?_)))
 obtain ⟨g0, h⟩ := aI h
 repeat (refine ⟨zAA, ?_⟩)
 refine aB (aA (aA (aD hF [0, 2, 3, 18] (yaA ?_))))
 refine aB (bF rfl (fun hc => ?_) (fun hc => ?_))
 ·try simp only [go_sem] at hc
  have h := dT zAB h
  refine aK hF (aY (l := []) (.nil)) [0, 2, 3] [] (yaB ?_)
  exact zaG
 ·try simp only [go_sem] at hc
  have h := dP zAB h
  refine bM (aB (aA (aM hF [0, 2, 3] (yaA ?_))))
  obtain ⟨g0, h⟩ := aI h
  try simp only [I64, I32] at g0
  repeat (refine ⟨zAA, ?_⟩)
  obtain ⟨g0, h⟩ := aI h
  obtain ⟨g1, h⟩ := aI h
  try simp only [I64, I32] at g0
  obtain ⟨r_4, he1, h⟩ := bind_some h
  try dsimp only at h
  refine aB (aA (sB hF (aY (l := [(61, ⟨eA F, [0], ((1 : Int), (List.drop ((o0_1.2.1 + ((dH F o0_1.1 o0_1.2.1).getD (0 : Int))) - ((dH F o0_1.1 o0_1.2.1).getD (0 : Int))).toNat (List.take (o0_1.2.1 + ((dH F o0_1.1 o0_1.2.1).getD (0 : Int))).toNat o0_1.1)), ([] : List Ex), (o0_1.1, (o0_1.2.1 + ((dH F o0_1.1 o0_1.2.1).getD (0 : Int))), o0_1.2.2.1, ()), r_4)⟩)]) (.cons (iW F) xAa (.nil))) 16 xAb [2] [] (yaB ?_)))
  simp only [aML, go_sem]
  repeat (refine ⟨zAA, ?_⟩)
  exact zaO
attribute [go_sem] jI
def mT (F : Md) (o0_1 : qd) (r_5 : qd) : Option (qI × qd) :=
 ck (0 ≤ o0_1.2.1 ∧ o0_1.2.1 ≤ r_5.2.1 ∧ r_5.2.1 ≤ (r_5.1.length : Int)) (some ((List.drop (o0_1.2.1.toNat) (List.take (r_5.2.1.toNat) r_5.1)), r_5))
def eB (F : Md) (r_6 : qd) : Option (qd ⊕ qd) :=
 ck ((r_6.2.1 < (r_6.1.length : Int)) → (0 ≤ r_6.2.1 ∧ r_6.2.1 < (r_6.1.length : Int))) (ck ((r_6.2.1 < (r_6.1.length : Int)) → ((aO F (aP kB) (r_6.1.getD (r_6.2.1.toNat) (0 : Nat))).isSome = true)) (if (r_6.2.1 < (r_6.1.length : Int)) ∧ ((0 : Int) ≤ ((aO F (aP kB) (r_6.1.getD (r_6.2.1.toNat) (0 : Nat))).getD (0 : Int))) then ck (I64 (r_6.2.1 + (1 : Int))) (some (.inl (r_6.1, (r_6.2.1 + (1 : Int)), r_6.2.2.1, ()))) else some (.inr r_6)))
def jM (F : Md) (o0_1 : qd) : Option (qI × qd) :=
 (dI F (fun d : qd => eB F d) o0_1).bind (fun e => mT F o0_1 e)
def oP (F : Md) : iE where
 D := qd × (qI × qd)
 av := fun d => [.ptr 0 []]
 hp := fun d => [.box 3 (.val qk d.1)]
 m := 1
 pre := fun d => jM F d.1 = some d.2
 out := fun d => (fun r : (qI × qd) => .ret (.val .str r.1) [.box 3 (.val qk r.2)]) d.2
abbrev tE (F : Md) : List (FuncId × aF) := [(60, (cS F))]
theorem aAH (F : Md) : bG Tryz.prog GL (tE F) := .cons (lB F) xAa (.nil)
theorem aFP (F : Md) : GOK Tryz.prog GL 86 (oP F) := by
 refine iT (aS (aAH F)) Tryz.func86 rfl xAa (fun _ => Nat.le_of_ble_eq_true rfl) fun c0 w0 d hw1 hw2 h hn => ?_
 have hF : hU ⟨Tryz.prog, EM (tE F), GM (oP F) c0 d, w0, Tryz.f86.ntmps, []⟩ := ⟨aS (aAH F), mix⟩
 obtain ⟨(o0_1 : qd), r⟩ := d
 replace h : jM F o0_1 = some r := h
 have hw1 : AV.wfL [.ptr 0 []] := hw1
 simp only [AV.wfL, AV.wfV, Ty.wf, gW] at hw1
 show Tri _ _ _ [(0, .ptr 0 [])] [.box 3 (.val qk o0_1)]
 unfold jM at h
 refine aA (aD hF [0] (yaA ?_))
 refine aB (aA (aD hF [0, 3] (yaA ?_)))
 refine aB (jZ (D := qd) (fun d => mT F o0_1 d = some r) [3] (fun d => [(0, .ptr 0 [])]) (fun d => [.inr (.box 3 (.val qk d))]) ?_ ?_)
 ·refine cB (hZ (D := qd) [3] (fun d => [(0, .ptr 0 [])]) (fun d => [.inr (.box 3 (.val qk d))]) h ?_ ?_ ?_)
  ·first | rfl | (simp only [go_sem]; done)
  ·exact zAF
  rintro r_6 s2 h hs2
  simp only [go_sem]
  try dsimp only at h
  unfold eB at h
  refine aA (aA (aD hF [0, 3, 30] (yaA ?_)))
  obtain ⟨g0, h⟩ := aI h
  obtain ⟨g1, h⟩ := aI h
  repeat (refine ⟨zAD, ?_⟩)
  refine aB (bF rfl (fun hc => ?_) (fun hc => ?_))
  ·try simp only [go_sem] at hc
   have h := dT zAB h
   refine bM (aB (cB (aM hF [0, 3] (yaA ?_))))
   obtain ⟨g0, h⟩ := aI h
   try simp only [I64, I32] at g0
   repeat (refine ⟨zAA, ?_⟩)
   obtain rfl := Option.some.inj h
   dsimp only [iM] at hs2
   refine cU (bB (aW (r_6.1, (r_6.2.1 + (1 : Int)), r_6.2.2.1, ()) hs2 rfl ?_))
   ·exact zAF
  ·try simp only [go_sem] at hc
   have h := dP zAB h
   obtain rfl := Option.some.inj h
   dsimp only [iM] at hs2
   have h := yaF (hs2)
   refine kT (bP (bP (dG (bB (aW (r_6) h rfl ?_)))))
   ·exact zAF
 ·rintro r_5 h
  try dsimp only at h
  simp only [go_sem]
  unfold mT at h
  refine aA (aD hF [2] (yaA ?_))
  obtain ⟨g0, h⟩ := aI h
  repeat (refine ⟨zAA, ?_⟩)
  obtain rfl := Option.some.inj h
  refine aB (bX (qY hF [.tmp 2] rfl rfl rfl rfl rfl rfl ?_))
  exact zaD
attribute [go_sem] oP
end
end Nu
end Go.Proofs
namespace Go.Proofs
open Go.Vc
set_option maxRecDepth 20000
namespace Nu
noncomputable section
set_option maxHeartbeats 4000000
attribute [-go_sem] Ex.kind Ex.text Ex.l
def vA : ByteArray := ⟨⟨97 :: 98 :: 99 :: 100 :: 101 :: 102 :: 103 :: 104 :: 105 :: 106 :: 107 :: 108 :: 109 :: 110 :: 111 :: 112 :: 113 :: 114 :: 115 :: 116 :: 117 :: 118 :: 119 :: 120 :: 121 :: 122 :: []⟩⟩
@[go_sem]theorem aOB : (⟨⟨97 :: 98 :: 99 :: 100 :: 101 :: 102 :: 103 :: 104 :: 105 :: 106 :: 107 :: 108 :: 109 :: 110 :: 111 :: 112 :: 113 :: 114 :: 115 :: 116 :: 117 :: 118 :: 119 :: 120 :: 121 :: 122 :: []⟩⟩ : ByteArray) = vA := rfl
def bC (g : qd → Option (qq ⊕ ql)) : iE where
 D := qd × (qq ⊕ ql)
 av := fun d => [.ptr 0 []]
 hp := fun d => [.box 3 (.val qk d.1)]
 m := 1
 pre := fun d => g d.1 = some d.2
 out := fun d => match d.2 with | .inl r => .ret (.val .expr r.1) [.box 3 (.val qk r.2)] | .inr p => .pan ⟨47, qf, p⟩ [.box 3 (.junk)]
attribute [go_sem] bC
def bT (F : Md) (g : qd → Option (qq ⊕ ql)) (signs_2 : qI) (kinds_3 : (List Int)) (r_16 : qd) (e_17 : Ex) : Option ((qd × Ex) ⊕ (qq ⊕ ql)) :=
 (dZ F signs_2 r_16).bind (fun r_25 => if ¬ (r_25.1.2.1 = true) then some (.inr (.inl (e_17, r_25.2))) else ck ((aO F signs_2 r_25.1.1).isSome = true) (ck (0 ≤ ((aO F signs_2 r_25.1.1).getD (0 : Int)) ∧ ((aO F signs_2 r_25.1.1).getD (0 : Int)) < (2 : Int)) ((g r_25.2).bind (fun e => match e with | .inl r_26 => (dA F (kinds_3.getD ((aO F signs_2 r_25.1.1).getD (0 : Int)).toNat (0 : Int)) (aP ⟨#[]⟩) ([e_17, r_26.1] : List Ex) r_26.2).bind (fun r_27 => some (.inl (r_27.2, r_27.1))) | .inr p_28 => some (.inr (.inr p_28))))))
def bZ (F : Md) (g : qd → Option (qq ⊕ ql)) (signs_2 : qI) (kinds_3 : (List Int)) (o0_4 : qd) : Option (qq ⊕ ql) :=
 (g o0_4).bind (fun e => match e with | .inl r_10 => (dI F (fun d : qd × Ex => bT F g signs_2 kinds_3 d.1 d.2) (r_10.2, r_10.1)).bind (fun e => match e with | (.inl e) => some (.inl e) | (.inr e) => some (.inr e)) | .inr p_11 => some (.inr p_11))
def cY (F : Md) (g : qd → Option (qq ⊕ ql)) : iE where
 D := qI × (List Int) × qd × (qq ⊕ ql)
 av := fun d => [.ptr 0 [], .fn 62 [0] [], .val .str d.1, .val q8 d.2.1]
 hp := fun d => [.box 3 (.val qk d.2.2.1)]
 m := 1
 pre := fun d => bZ F g d.1 d.2.1 d.2.2.1 = some d.2.2.2
 out := fun d => match d.2.2.2 with | .inl r => .ret (.val .expr r.1) [.box 3 (.val qk r.2)] | .inr p => .pan ⟨47, qf, p⟩ [.box 3 (.junk)]
abbrev gF (F : Md) (g : qd → Option (qq ⊕ ql)) : List (FuncId × aF) := [(60, (cS F))]
theorem lD (F : Md) (g : qd → Option (qq ⊕ ql)) (hg : GOK Tryz.prog GL 62 (bC g)) : bG Tryz.prog GL (gF F g) := .cons (lB F) xAa (.nil)
theorem kH (F : Md) (g : qd → Option (qq ⊕ ql)) (hg : GOK Tryz.prog GL 62 (bC g)) : GOK Tryz.prog GL 43 (cY F g) := by
 refine iT (aS (lD F g hg)) Tryz.func43 rfl xAa (fun _ => Nat.le_of_ble_eq_true rfl) fun c0 w0 d hw1 hw2 h hn => ?_
 have hF : hU ⟨Tryz.prog, EM (gF F g), GM (cY F g) c0 d, w0, Tryz.f43.ntmps, []⟩ := ⟨aS (lD F g hg), mix⟩
 obtain ⟨(signs_2 : qI), (kinds_3 : (List Int)), (o0_4 : qd), r⟩ := d
 replace h : bZ F g signs_2 kinds_3 o0_4 = some r := h
 have hw1 : AV.wfL [.ptr 0 [], .fn 62 [0] [], .val .str signs_2, .val q8 kinds_3] := hw1
 simp only [AV.wfL, AV.wfV, Ty.wf, gW] at hw1
 show Tri _ _ _ [(0, .ptr 0 []), (1, .fn 62 [0] []), (2, .val .str signs_2), (3, .val q8 kinds_3)] [.box 3 (.val qk o0_4)]
 unfold bZ at h
 refine aA (aM hF [0, 1, 2, 7, 8] (yaA ?_))
 obtain ⟨e, he1, h⟩ := bind_some h
 rcases e with r_10 | p_11
 ·try dsimp only at h
  refine aB (aA (aK hF (aY (l := [(62, ⟨(bC g), [0], (o0_4, .inl r_10)⟩)]) (.cons hg xAa (.nil))) [0, 1, 2, 7, 8, 9] [] (yaB ?_)))
  refine aB (cB (hZ (D := qd × Ex) [2] (fun d => [(0, .ptr 0 []), (1, .fn 62 [0] []), (7, .ptr 1 []), (8, .ptr 2 []), (9, .ptr 3 [])]) (fun d => [.inr (.box 3 (.val qk d.1)), .inr (.box 2 (.val q8 kinds_3)), .inr (.box 3 (.val .expr (Ex.mk 0 [] []))), .inr (.box 3 (.val .expr d.2))]) h ?_ ?_ ?_))
  ·first | rfl | (simp only [go_sem]; done)
  ·exact zAF
  rintro ⟨r_16, e_17⟩ s2 h hs2
  simp only [go_sem]
  try dsimp only at h
  unfold bT at h
  obtain ⟨r_25, he2, h⟩ := bind_some h
  try dsimp only at h
  refine cB (aA (aK hF (aY (l := [(59, ⟨iQ F, [0], (signs_2, r_16, r_25)⟩)]) (.cons (pV F) xAa (.nil))) [0, 1, 2, 7, 8, 9, 10, 11] [] (yaB ?_)))
  refine aB (aA (aA (aD hF [0, 1, 2, 7, 8, 9, 10, 22] (yaA ?_))))
  refine aB (bF rfl (fun hc => ?_) (fun hc => ?_))
  ·try simp only [go_sem] at hc
   exact zaZ
  ·try simp only [go_sem] at hc
   have h := dP zAB h
   refine bM (aB (aA (aD hF [0, 1, 2, 7, 8, 9, 12] (yaA ?_))))
   obtain ⟨g0, h⟩ := aI h
   obtain ⟨g1, h⟩ := aI h
   repeat (refine ⟨zAA, ?_⟩)
   obtain ⟨e, he3, h⟩ := bind_some h
   rcases e with r_26 | p_28
   ·try dsimp only at h
    obtain ⟨r_27, he4, h⟩ := bind_some h
    try dsimp only at h
    refine aB (aAR hF (aY (l := [(62, ⟨(bC g), [0], (r_25.2, .inl r_26)⟩), (61, ⟨eA F, [0], ((kinds_3.getD ((aO F signs_2 r_25.1.1).getD (0 : Int)).toNat (0 : Int)), (aP ⟨#[]⟩), ([e_17, r_26.1] : List Ex), r_26.2, r_27)⟩)]) (.cons hg xAa (.cons (iW F) xAa (.nil)))) [] [0, 1, 2, 7, 8, 9] [4, 6, 7] [[0], [12], [9], [1], [32], [31, 33], [29, 30, 34], [9, 35]] [(0, 0), (0, 1), (1, 0), (1, 1), (2, 0), (2, 1), (2, 2), (3, 0), (4, 0), (5, 1), (6, 1), (7, 2)] [.ptr 0 [], .val qj (kinds_3.getD ((aO F signs_2 r_25.1.1).getD (0 : Int)).toNat (0 : Int)), .val .expr e_17, .fn 62 [0] [], .val .expr r_26.1, .full .expr ([e_17, r_26.1] : List Ex), .val .expr r_27.1, .junk] [[.box 3 (.val qk r_25.2), .box 2 (.val q8 kinds_3), .box 3 (.val .expr (Ex.mk 0 [] [])), .box 3 (.val .expr e_17)], [.box 3 (.val qk r_26.2), .box 2 (.val q8 kinds_3), .box 3 (.val .expr (Ex.mk 0 [] [])), .box 3 (.val .expr e_17)], [.box 3 (.val qk r_27.2), .box 2 (.val q8 kinds_3), .box 3 (.val .expr (Ex.mk 0 [] [])), .box 3 (.val .expr e_17)], [.box 3 (.val qk r_27.2), .box 2 (.val q8 kinds_3), .box 3 (.val .expr (Ex.mk 0 [] [])), .box 3 (.val .expr r_27.1)]] [[(0, .ptr 0 [])], [(12, .val qj (kinds_3.getD ((aO F signs_2 r_25.1.1).getD (0 : Int)).toNat (0 : Int)))], [(9, .ptr 3 [])], [(1, .fn 62 [0] [])], [(32, .fn 62 [0] [])], [(31, .val .expr e_17), (33, .val .expr r_26.1)], [(29, .ptr 0 []), (30, .val qj (kinds_3.getD ((aO F signs_2 r_25.1.1).getD (0 : Int)).toNat (0 : Int))), (34, .full .expr ([e_17, r_26.1] : List Ex))], [(9, .ptr 3 []), (35, .val .expr r_27.1)]] false xAb rfl rfl ?_ ?_)
    ·simp only [go_sem]
     (repeat' apply And.intro) <;> first | trivial | rfl | with_reducible assumption | omega | (intros; first | with_reducible assumption | omega) | (simp; done) | (simp at *; omega)
    intro _
    show At _ _ [(0, .ptr 0 []), (1, .fn 62 [0] []), (2, .val .str signs_2), (7, .ptr 1 []), (8, .ptr 2 []), (9, .ptr 3 [])] [.box 3 (.val qk r_27.2), .box 2 (.val q8 kinds_3), .box 3 (.val .expr (Ex.mk 0 [] [])), .box 3 (.val .expr r_27.1)]
    obtain rfl := Option.some.inj h
    dsimp only [iM] at hs2
    refine cU (bB (aW (r_27.2, r_27.1) hs2 rfl ?_))
    ·exact zAF
   ·try dsimp only at h
    refine aB (aAR hF (aY (l := [(62, ⟨(bC g), [0], (r_25.2, .inr p_28)⟩)]) (.cons hg xAa (.nil))) [] [0, 1, 2, 7, 8, 9] [4] [[0], [12], [9], [1], [32], [31, 33], [29, 30, 34], [9, 35]] [(0, 0), (1, 0), (2, 0), (3, 0), (4, 0)] [.ptr 0 [], .val qj (kinds_3.getD ((aO F signs_2 r_25.1.1).getD (0 : Int)).toNat (0 : Int)), .val .expr e_17, .fn 62 [0] [], .junk, .junk, .junk, .junk] [[.box 3 (.val qk r_25.2), .box 2 (.val q8 kinds_3), .box 3 (.val .expr (Ex.mk 0 [] [])), .box 3 (.val .expr e_17)]] [[(0, .ptr 0 [])], [(12, .val qj (kinds_3.getD ((aO F signs_2 r_25.1.1).getD (0 : Int)).toNat (0 : Int)))], [(9, .ptr 3 [])], [(1, .fn 62 [0] [])], [(32, .fn 62 [0] [])], [(31, .val .expr e_17), (33, .junk)], [(29, .ptr 0 []), (30, .val qj (kinds_3.getD ((aO F signs_2 r_25.1.1).getD (0 : Int)).toNat (0 : Int))), (34, .junk)], [(9, .ptr 3 []), (35, .junk)]] true xAb rfl rfl ?_ ?_)
    rotate_left
    exact fun h => absurd h xAb
    exact zaQ
 ·try dsimp only at h
  refine aB (aA (aK hF (aY (l := [(62, ⟨(bC g), [0], (o0_4, .inr p_11)⟩)]) (.cons hg xAa (.nil))) [0, 1, 2, 7, 8, 9] [] (yaB ?_)))
  exact zaG
attribute [go_sem] cY
def eT (F : Md) (g : qd → Option (qq ⊕ ql)) (o0_1 : qd) : Option (qq ⊕ ql) :=
 (bZ F g (aP ⟨#[42, 47]⟩) ([8, 9] : List Int) o0_1).bind (fun e => match e with | .inl r_7 => some (.inl (r_7.1, r_7.2)) | .inr p_8 => some (.inr p_8))
def eL (F : Md) (g : qd → Option (qq ⊕ ql)) : iE where
 D := qd × (qq ⊕ ql)
 av := fun d => [.ptr 0 []]
 hp := fun d => [.box 3 (.val qk d.1)]
 m := 1
 pre := fun d => eT F g d.1 = some d.2
 out := fun d => match d.2 with | .inl r => .ret (.val .expr r.1) [.box 3 (.val qk r.2)] | .inr p => .pan ⟨47, qf, p⟩ [.box 3 (.junk)]
abbrev xG (F : Md) (g : qd → Option (qq ⊕ ql)) : List (FuncId × aF) := []
theorem xH (F : Md) (g : qd → Option (qq ⊕ ql)) (hg : GOK Tryz.prog GL 62 (bC g)) : bG Tryz.prog GL (xG F g) := .nil
theorem lQ (F : Md) (g : qd → Option (qq ⊕ ql)) (hg : GOK Tryz.prog GL 62 (bC g)) : GOK Tryz.prog GL 44 (eL F g) := by
 refine iT (aS (xH F g hg)) Tryz.func44 rfl xAa (fun _ => Nat.le_of_ble_eq_true rfl) fun c0 w0 d hw1 hw2 h hn => ?_
 have hF : hU ⟨Tryz.prog, EM (xG F g), GM (eL F g) c0 d, w0, Tryz.f44.ntmps, []⟩ := ⟨aS (xH F g hg), mix⟩
 obtain ⟨(o0_1 : qd), r⟩ := d
 replace h : eT F g o0_1 = some r := h
 have hw1 : AV.wfL [.ptr 0 []] := hw1
 simp only [AV.wfL, AV.wfV, Ty.wf, gW] at hw1
 show Tri _ _ _ [(0, .ptr 0 [])] [.box 3 (.val qk o0_1)]
 unfold eT at h
 refine aA (aM hF [0, 2] (yaA ?_))
 obtain ⟨e, he1, h⟩ := bind_some h
 rcases e with r_7 | p_8
 ·try dsimp only at h
  refine aB (aA (aK hF (aY (l := [(43, ⟨(cY F g), [0], ((aP ⟨#[42, 47]⟩), ([8, 9] : List Int), o0_1, .inl r_7)⟩)]) (.cons (kH F g hg) xAa (.nil))) [2] [] (yaB ?_)))
  exact zaO
 ·try dsimp only at h
  refine aB (aA (aK hF (aY (l := [(43, ⟨(cY F g), [0], ((aP ⟨#[42, 47]⟩), ([8, 9] : List Int), o0_1, .inr p_8)⟩)]) (.cons (kH F g hg) xAa (.nil))) [2] [] (yaB ?_)))
  exact zaG
attribute [go_sem] eL
def jJ (F : Md) (g : qd → Option (qq ⊕ ql)) (signs_2 : qI) (kinds_3 : (List Int)) (r_16 : qd) (e_17 : Ex) : Option ((qd × Ex) ⊕ (qq ⊕ ql)) :=
 (dZ F signs_2 r_16).bind (fun r_25 => if ¬ (r_25.1.2.1 = true) then some (.inr (.inl (e_17, r_25.2))) else ck ((aO F signs_2 r_25.1.1).isSome = true) (ck (0 ≤ ((aO F signs_2 r_25.1.1).getD (0 : Int)) ∧ ((aO F signs_2 r_25.1.1).getD (0 : Int)) < (2 : Int)) ((eT F g r_25.2).bind (fun e => match e with | .inl r_26 => (dA F (kinds_3.getD ((aO F signs_2 r_25.1.1).getD (0 : Int)).toNat (0 : Int)) (aP ⟨#[]⟩) ([e_17, r_26.1] : List Ex) r_26.2).bind (fun r_27 => some (.inl (r_27.2, r_27.1))) | .inr p_28 => some (.inr (.inr p_28))))))
def dS (F : Md) (g : qd → Option (qq ⊕ ql)) (signs_2 : qI) (kinds_3 : (List Int)) (o0_4 : qd) : Option (qq ⊕ ql) :=
 (eT F g o0_4).bind (fun e => match e with | .inl r_10 => (dI F (fun d : qd × Ex => jJ F g signs_2 kinds_3 d.1 d.2) (r_10.2, r_10.1)).bind (fun e => match e with | (.inl e) => some (.inl e) | (.inr e) => some (.inr e)) | .inr p_11 => some (.inr p_11))
def cV (F : Md) (g : qd → Option (qq ⊕ ql)) : iE where
 D := qI × (List Int) × qd × (qq ⊕ ql)
 av := fun d => [.ptr 0 [], .fn 44 [0] [], .val .str d.1, .val q8 d.2.1]
 hp := fun d => [.box 3 (.val qk d.2.2.1)]
 m := 1
 pre := fun d => dS F g d.1 d.2.1 d.2.2.1 = some d.2.2.2
 out := fun d => match d.2.2.2 with | .inl r => .ret (.val .expr r.1) [.box 3 (.val qk r.2)] | .inr p => .pan ⟨47, qf, p⟩ [.box 3 (.junk)]
abbrev fS (F : Md) (g : qd → Option (qq ⊕ ql)) : List (FuncId × aF) := [(60, (cS F))]
theorem kI (F : Md) (g : qd → Option (qq ⊕ ql)) (hg : GOK Tryz.prog GL 62 (bC g)) : bG Tryz.prog GL (fS F g) := .cons (lB F) xAa (.nil)
theorem jW (F : Md) (g : qd → Option (qq ⊕ ql)) (hg : GOK Tryz.prog GL 62 (bC g)) : GOK Tryz.prog GL 43 (cV F g) := by
 refine iT (aS (kI F g hg)) Tryz.func43 rfl xAa (fun _ => Nat.le_of_ble_eq_true rfl) fun c0 w0 d hw1 hw2 h hn => ?_
 have hF : hU ⟨Tryz.prog, EM (fS F g), GM (cV F g) c0 d, w0, Tryz.f43.ntmps, []⟩ := ⟨aS (kI F g hg), mix⟩
 obtain ⟨(signs_2 : qI), (kinds_3 : (List Int)), (o0_4 : qd), r⟩ := d
 replace h : dS F g signs_2 kinds_3 o0_4 = some r := h
 have hw1 : AV.wfL [.ptr 0 [], .fn 44 [0] [], .val .str signs_2, .val q8 kinds_3] := hw1
 simp only [AV.wfL, AV.wfV, Ty.wf, gW] at hw1
 show Tri _ _ _ [(0, .ptr 0 []), (1, .fn 44 [0] []), (2, .val .str signs_2), (3, .val q8 kinds_3)] [.box 3 (.val qk o0_4)]
 unfold dS at h
 refine aA (aM hF [0, 1, 2, 7, 8] (yaA ?_))
 obtain ⟨e, he1, h⟩ := bind_some h
 rcases e with r_10 | p_11
 ·try dsimp only at h
  refine aB (aA (aK hF (aY (l := [(44, ⟨(eL F g), [0], (o0_4, .inl r_10)⟩)]) (.cons (lQ F g hg) xAa (.nil))) [0, 1, 2, 7, 8, 9] [] (yaB ?_)))
  refine aB (cB (hZ (D := qd × Ex) [2] (fun d => [(0, .ptr 0 []), (1, .fn 44 [0] []), (7, .ptr 1 []), (8, .ptr 2 []), (9, .ptr 3 [])]) (fun d => [.inr (.box 3 (.val qk d.1)), .inr (.box 2 (.val q8 kinds_3)), .inr (.box 3 (.val .expr (Ex.mk 0 [] []))), .inr (.box 3 (.val .expr d.2))]) h ?_ ?_ ?_))
  ·first | rfl | (simp only [go_sem]; done)
  ·exact zAF
  rintro ⟨r_16, e_17⟩ s2 h hs2
  simp only [go_sem]
  try dsimp only at h
  unfold jJ at h
  obtain ⟨r_25, he2, h⟩ := bind_some h
  try dsimp only at h
  refine cB (aA (aK hF (aY (l := [(59, ⟨iQ F, [0], (signs_2, r_16, r_25)⟩)]) (.cons (pV F) xAa (.nil))) [0, 1, 2, 7, 8, 9, 10, 11] [] (yaB ?_)))
  refine aB (aA (aA (aD hF [0, 1, 2, 7, 8, 9, 10, 22] (yaA ?_))))
  refine aB (bF rfl (fun hc => ?_) (fun hc => ?_))
  ·try simp only [go_sem] at hc
   exact zaZ
  ·try simp only [go_sem] at hc
   have h := dP zAB h
   refine bM (aB (aA (aD hF [0, 1, 2, 7, 8, 9, 12] (yaA ?_))))
   obtain ⟨g0, h⟩ := aI h
   obtain ⟨g1, h⟩ := aI h
   repeat (refine ⟨zAA, ?_⟩)
   obtain ⟨e, he3, h⟩ := bind_some h
   rcases e with r_26 | p_28
   ·try dsimp only at h
    obtain ⟨r_27, he4, h⟩ := bind_some h
    try dsimp only at h
    refine aB (aAR hF (aY (l := [(44, ⟨(eL F g), [0], (r_25.2, .inl r_26)⟩), (61, ⟨eA F, [0], ((kinds_3.getD ((aO F signs_2 r_25.1.1).getD (0 : Int)).toNat (0 : Int)), (aP ⟨#[]⟩), ([e_17, r_26.1] : List Ex), r_26.2, r_27)⟩)]) (.cons (lQ F g hg) xAa (.cons (iW F) xAa (.nil)))) [] [0, 1, 2, 7, 8, 9] [4, 6, 7] [[0], [12], [9], [1], [32], [31, 33], [29, 30, 34], [9, 35]] [(0, 0), (0, 1), (1, 0), (1, 1), (2, 0), (2, 1), (2, 2), (3, 0), (4, 0), (5, 1), (6, 1), (7, 2)] [.ptr 0 [], .val qj (kinds_3.getD ((aO F signs_2 r_25.1.1).getD (0 : Int)).toNat (0 : Int)), .val .expr e_17, .fn 44 [0] [], .val .expr r_26.1, .full .expr ([e_17, r_26.1] : List Ex), .val .expr r_27.1, .junk] [[.box 3 (.val qk r_25.2), .box 2 (.val q8 kinds_3), .box 3 (.val .expr (Ex.mk 0 [] [])), .box 3 (.val .expr e_17)], [.box 3 (.val qk r_26.2), .box 2 (.val q8 kinds_3), .box 3 (.val .expr (Ex.mk 0 [] [])), .box 3 (.val .expr e_17)], [.box 3 (.val qk r_27.2), .box 2 (.val q8 kinds_3), .box 3 (.val .expr (Ex.mk 0 [] [])), .box 3 (.val .expr e_17)], [.box 3 (.val qk r_27.2), .box 2 (.val q8 kinds_3), .box 3 (.val .expr (Ex.mk 0 [] [])), .box 3 (.val .expr r_27.1)]] [[(0, .ptr 0 [])], [(12, .val qj (kinds_3.getD ((aO F signs_2 r_25.1.1).getD (0 : Int)).toNat (0 : Int)))], [(9, .ptr 3 [])], [(1, .fn 44 [0] [])], [(32, .fn 44 [0] [])], [(31, .val .expr e_17), (33, .val .expr r_26.1)], [(29, .ptr 0 []), (30, .val qj (kinds_3.getD ((aO F signs_2 r_25.1.1).getD (0 : Int)).toNat (0 : Int))), (34, .full .expr ([e_17, r_26.1] : List Ex))], [(9, .ptr 3 []), (35, .val .expr r_27.1)]] false xAb rfl rfl ?_ ?_)
    ·simp only [go_sem]
     (repeat' apply And.intro) <;> first | trivial | rfl | with_reducible assumption | omega | (intros; first | with_reducible assumption | omega) | (simp; done) | (simp at *; omega)
    intro _
    show At _ _ [(0, .ptr 0 []), (1, .fn 44 [0] []), (2, .val .str signs_2), (7, .ptr 1 []), (8, .ptr 2 []), (9, .ptr 3 [])] [.box 3 (.val qk r_27.2), .box 2 (.val q8 kinds_3), .box 3 (.val .expr (Ex.mk 0 [] [])), .box 3 (.val .expr r_27.1)]
    obtain rfl := Option.some.inj h
    dsimp only [iM] at hs2
    refine cU (bB (aW (r_27.2, r_27.1) hs2 rfl ?_))
    ·exact zAF
   ·try dsimp only at h
    refine aB (aAR hF (aY (l := [(44, ⟨(eL F g), [0], (r_25.2, .inr p_28)⟩)]) (.cons (lQ F g hg) xAa (.nil))) [] [0, 1, 2, 7, 8, 9] [4] [[0], [12], [9], [1], [32], [31, 33], [29, 30, 34], [9, 35]] [(0, 0), (1, 0), (2, 0), (3, 0), (4, 0)] [.ptr 0 [], .val qj (kinds_3.getD ((aO F signs_2 r_25.1.1).getD (0 : Int)).toNat (0 : Int)), .val .expr e_17, .fn 44 [0] [], .junk, .junk, .junk, .junk] [[.box 3 (.val qk r_25.2), .box 2 (.val q8 kinds_3), .box 3 (.val .expr (Ex.mk 0 [] [])), .box 3 (.val .expr e_17)]] [[(0, .ptr 0 [])], [(12, .val qj (kinds_3.getD ((aO F signs_2 r_25.1.1).getD (0 : Int)).toNat (0 : Int)))], [(9, .ptr 3 [])], [(1, .fn 44 [0] [])], [(32, .fn 44 [0] [])], [(31, .val .expr e_17), (33, .junk)], [(29, .ptr 0 []), (30, .val qj (kinds_3.getD ((aO F signs_2 r_25.1.1).getD (0 : Int)).toNat (0 : Int))), (34, .junk)], [(9, .ptr 3 []), (35, .junk)]] true xAb rfl rfl ?_ ?_)
    rotate_left
    exact fun h => absurd h xAb
    exact zaQ
 ·try dsimp only at h
  refine aB (aA (aK hF (aY (l := [(44, ⟨(eL F g), [0], (o0_4, .inr p_11)⟩)]) (.cons (lQ F g hg) xAa (.nil))) [0, 1, 2, 7, 8, 9] [] (yaB ?_)))
  exact zaG
attribute [go_sem] cV
def iR (F : Md) (g : qd → Option (qq ⊕ ql)) (o0_1 : qd) : Option (qq ⊕ ql) :=
 (dS F g (aP ⟨#[43, 45]⟩) ([6, 7] : List Int) o0_1).bind (fun e => match e with | .inl r_7 => some (.inl (r_7.1, r_7.2)) | .inr p_8 => some (.inr p_8))
def gZ (F : Md) (g : qd → Option (qq ⊕ ql)) : iE where
 D := qd × (qq ⊕ ql)
 av := fun d => [.ptr 0 []]
 hp := fun d => [.box 3 (.val qk d.1)]
 m := 1
 pre := fun d => iR F g d.1 = some d.2
 out := fun d => match d.2 with | .inl r => .ret (.val .expr r.1) [.box 3 (.val qk r.2)] | .inr p => .pan ⟨47, qf, p⟩ [.box 3 (.junk)]
abbrev aBR (F : Md) (g : qd → Option (qq ⊕ ql)) : List (FuncId × aF) := []
theorem aBS (F : Md) (g : qd → Option (qq ⊕ ql)) (hg : GOK Tryz.prog GL 62 (bC g)) : bG Tryz.prog GL (aBR F g) := .nil
theorem oZ (F : Md) (g : qd → Option (qq ⊕ ql)) (hg : GOK Tryz.prog GL 62 (bC g)) : GOK Tryz.prog GL 21 (gZ F g) := by
 refine iT (aS (aBS F g hg)) Tryz.func21 rfl xAa (fun _ => Nat.le_of_ble_eq_true rfl) fun c0 w0 d hw1 hw2 h hn => ?_
 have hF : hU ⟨Tryz.prog, EM (aBR F g), GM (gZ F g) c0 d, w0, Tryz.f21.ntmps, []⟩ := ⟨aS (aBS F g hg), mix⟩
 obtain ⟨(o0_1 : qd), r⟩ := d
 replace h : iR F g o0_1 = some r := h
 have hw1 : AV.wfL [.ptr 0 []] := hw1
 simp only [AV.wfL, AV.wfV, Ty.wf, gW] at hw1
 show Tri _ _ _ [(0, .ptr 0 [])] [.box 3 (.val qk o0_1)]
 unfold iR at h
 refine aA (aM hF [0, 2] (yaA ?_))
 obtain ⟨e, he1, h⟩ := bind_some h
 rcases e with r_7 | p_8
 ·try dsimp only at h
  refine aB (aA (aK hF (aY (l := [(43, ⟨(cV F g), [0], ((aP ⟨#[43, 45]⟩), ([6, 7] : List Int), o0_1, .inl r_7)⟩)]) (.cons (jW F g hg) xAa (.nil))) [2] [] (yaB ?_)))
  exact zaO
 ·try dsimp only at h
  refine aB (aA (aK hF (aY (l := [(43, ⟨(cV F g), [0], ((aP ⟨#[43, 45]⟩), ([6, 7] : List Int), o0_1, .inr p_8)⟩)]) (.cons (jW F g hg) xAa (.nil))) [2] [] (yaB ?_)))
  exact zaG
attribute [go_sem] gZ
def fH (F : Md) (g : qd → Option (qq ⊕ ql)) (o0_1 : qd) : Option (qq ⊕ ql) :=
 (dQ F (aP ⟨#[40]⟩) o0_1).bind (fun e => match e with | .inl r_7 => (iR F g r_7).bind (fun e => match e with | .inl r_13 => (dQ F (aP ⟨#[41]⟩) r_13.2).bind (fun e => match e with | .inl r_19 => some (.inl (r_13.1, r_19)) | .inr p_20 => some (.inr p_20)) | .inr p_14 => some (.inr p_14)) | .inr p_8 => some (.inr p_8))
def eU (F : Md) (g : qd → Option (qq ⊕ ql)) : iE where
 D := qd × (qq ⊕ ql)
 av := fun d => [.ptr 0 []]
 hp := fun d => [.box 3 (.val qk d.1)]
 m := 1
 pre := fun d => fH F g d.1 = some d.2
 out := fun d => match d.2 with | .inl r => .ret (.val .expr r.1) [.box 3 (.val qk r.2)] | .inr p => .pan ⟨47, qf, p⟩ [.box 3 (.junk)]
abbrev xY (F : Md) (g : qd → Option (qq ⊕ ql)) : List (FuncId × aF) := []
theorem xZ (F : Md) (g : qd → Option (qq ⊕ ql)) (hg : GOK Tryz.prog GL 62 (bC g)) : bG Tryz.prog GL (xY F g) := .nil
theorem mU (F : Md) (g : qd → Option (qq ⊕ ql)) (hg : GOK Tryz.prog GL 62 (bC g)) : GOK Tryz.prog GL 84 (eU F g) := by
 refine iT (aS (xZ F g hg)) Tryz.func84 rfl xAa (fun _ => Nat.le_of_ble_eq_true rfl) fun c0 w0 d hw1 hw2 h hn => ?_
 have hF : hU ⟨Tryz.prog, EM (xY F g), GM (eU F g) c0 d, w0, Tryz.f84.ntmps, []⟩ := ⟨aS (xZ F g hg), mix⟩
 obtain ⟨(o0_1 : qd), r⟩ := d
 replace h : fH F g o0_1 = some r := h
 have hw1 : AV.wfL [.ptr 0 []] := hw1
 simp only [AV.wfL, AV.wfV, Ty.wf, gW] at hw1
 show Tri _ _ _ [(0, .ptr 0 [])] [.box 3 (.val qk o0_1)]
 unfold fH at h
 refine aA (aM hF [0, 2] (yaA ?_))
 obtain ⟨e, he1, h⟩ := bind_some h
 rcases e with r_7 | p_8
 ·try dsimp only at h
  refine aB (aA (aK hF (aY (l := [(111, ⟨gE F, [0], ((aP ⟨#[40]⟩), o0_1, .inl r_7)⟩)]) (.cons (oO F) xAa (.nil))) [0, 2] [] (yaB ?_)))
  obtain ⟨e, he2, h⟩ := bind_some h
  rcases e with r_13 | p_14
  ·try dsimp only at h
   refine aB (aA (aK hF (aY (l := [(21, ⟨(gZ F g), [0], (r_7, .inl r_13)⟩)]) (.cons (oZ F g hg) xAa (.nil))) [0, 2, 3] [] (yaB ?_)))
   obtain ⟨e, he3, h⟩ := bind_some h
   rcases e with r_19 | p_20
   ·try dsimp only at h
    refine aB (aA (aK hF (aY (l := [(111, ⟨gE F, [0], ((aP ⟨#[41]⟩), r_13.2, .inl r_19)⟩)]) (.cons (oO F) xAa (.nil))) [2, 3] [] (yaB ?_)))
    refine aB (aA (aM hF [2] (yaA ?_)))
    exact zaO
   ·try dsimp only at h
    refine aB (aA (aK hF (aY (l := [(111, ⟨gE F, [0], ((aP ⟨#[41]⟩), r_13.2, .inr p_20)⟩)]) (.cons (oO F) xAa (.nil))) [2, 3] [] (yaB ?_)))
    exact zaG
  ·try dsimp only at h
   refine aB (aA (aK hF (aY (l := [(21, ⟨(gZ F g), [0], (r_7, .inr p_14)⟩)]) (.cons (oZ F g hg) xAa (.nil))) [0, 2, 3] [] (yaB ?_)))
   exact zaG
 ·try dsimp only at h
  refine aB (aA (aK hF (aY (l := [(111, ⟨gE F, [0], ((aP ⟨#[40]⟩), o0_1, .inr p_8)⟩)]) (.cons (oO F) xAa (.nil))) [0, 2] [] (yaB ?_)))
  exact zaG
attribute [go_sem] eU
def fW (F : Md) (g : qd → Option (qq ⊕ ql)) (o0_1 : qd) : Option (qq ⊕ ql) :=
 (dZ F (aP ⟨#[45]⟩) o0_1).bind (fun r_8 => if r_8.1.2.1 = true then (g r_8.2).bind (fun e => match e with | .inl r_15 => (dA F (10 : Int) (aP ⟨#[]⟩) ([r_15.1] : List Ex) r_15.2).bind (fun r_16 => some (.inl (r_16.1, r_16.2))) | .inr p_17 => some (.inr p_17)) else if r_8.2.2.1 = (r_8.2.1.length : Int) then some (.inr (r_8.2.2.1, ())) else ck (0 ≤ r_8.2.2.1 ∧ r_8.2.2.1 < (r_8.2.1.length : Int)) (if (r_8.2.1.getD (r_8.2.2.1.toNat) (0 : Nat)) = (40 : Nat) then (fH F g r_8.2).bind (fun e => match e with | .inl r_26 => some (.inl (r_26.1, r_26.2)) | .inr p_27 => some (.inr p_27)) else ck (0 ≤ r_8.2.2.1 ∧ r_8.2.2.1 < (r_8.2.1.length : Int)) (ck ((aO F (aP vA) (r_8.2.1.getD (r_8.2.2.1.toNat) (0 : Nat))).isSome = true) (if ((aO F (aP vA) (r_8.2.1.getD (r_8.2.2.1.toNat) (0 : Nat))).getD (0 : Int)) < (0 : Int) then (iC F r_8.2).bind (fun e => match e with | .inl r_32 => some (.inl (r_32.1, r_32.2)) | .inr p_33 => some (.inr p_33)) else (jM F r_8.2).bind (fun r_35 => if (aBW .str (aBX .str (aBX .str (aBX .str ([] : List (qI × Int)) (aP ⟨#[115, 113, 114]⟩) (11 : Int)) (aP ⟨#[115, 113, 114, 116]⟩) (12 : Int)) (aP ⟨#[101, 120, 112]⟩) (13 : Int)) r_35.1).isSome = true then (fH F g r_35.2).bind (fun e => match e with | .inl r_45 => (dA F ((aBW .str (aBX .str (aBX .str (aBX .str ([] : List (qI × Int)) (aP ⟨#[115, 113, 114]⟩) (11 : Int)) (aP ⟨#[115, 113, 114, 116]⟩) (12 : Int)) (aP ⟨#[101, 120, 112]⟩) (13 : Int)) r_35.1).getD (0 : Int)) (aP ⟨#[]⟩) ([r_45.1] : List Ex) r_45.2).bind (fun r_46 => some (.inl (r_46.1, r_46.2))) | .inr p_47 => some (.inr p_47)) else (dA F (2 : Int) r_35.1 ([] : List Ex) r_35.2).bind (fun r_49 => some (.inl (r_49.1, r_49.2))))))))
def vR (F : Md) (g : qd → Option (qq ⊕ ql)) : iE where
 D := qd × (qq ⊕ ql)
 av := fun d => [.ptr 0 []]
 hp := fun d => [.box 3 (.val qk d.1)]
 m := 1
 pre := fun d => fW F g d.1 = some d.2
 out := fun d => match d.2 with | .inl r => .ret (.val .expr r.1) [.box 3 (.val qk r.2)] | .inr p => .pan ⟨47, qf, p⟩ [.box 3 (.junk)]
abbrev qX (F : Md) (g : qd → Option (qq ⊕ ql)) : List (FuncId × aF) := [(60, (cS F))]
theorem yA (F : Md) (g : qd → Option (qq ⊕ ql)) (hg : GOK Tryz.prog GL 62 (bC g)) : bG Tryz.prog GL (qX F g) := .cons (lB F) xAa (.nil)
theorem aDx (F : Md) (g : qd → Option (qq ⊕ ql)) (hg : GOK Tryz.prog GL 62 (bC g)) : GOK Tryz.prog GL 62 (vR F g) := by
 refine iT (aS (yA F g hg)) Tryz.func62 rfl xAa (fun _ => Nat.le_of_ble_eq_true rfl) fun c0 w0 d hw1 hw2 h hn => ?_
 have hF : hU ⟨Tryz.prog, EM (qX F g), GM (vR F g) c0 d, w0, Tryz.f62.ntmps, []⟩ := ⟨aS (yA F g hg), mix⟩
 obtain ⟨(o0_1 : qd), r⟩ := d
 replace h : fW F g o0_1 = some r := h
 have hw1 : AV.wfL [.ptr 0 []] := hw1
 simp only [AV.wfL, AV.wfV, Ty.wf, gW] at hw1
 show Tri _ _ _ [(0, .ptr 0 [])] [.box 3 (.val qk o0_1)]
 unfold fW at h
 refine aA (aM hF [0, 2] (yaA ?_))
 obtain ⟨r_8, he1, h⟩ := bind_some h
 try dsimp only at h
 refine aB (aA (aA (aK hF (aY (l := [(59, ⟨iQ F, [0], ((aP ⟨#[45]⟩), o0_1, r_8)⟩)]) (.cons (pV F) xAa (.nil))) [0, 2, 4] [] (yaB ?_))))
 refine aB (aA (aD hF [0, 2, 13] (yaA ?_)))
 refine aB (bF rfl (fun hc => ?_) (fun hc => ?_))
 ·try simp only [go_sem] at hc
  have h := dT zAB h
  obtain ⟨e, he2, h⟩ := bind_some h
  rcases e with r_15 | p_17
  ·try dsimp only at h
   obtain ⟨r_16, he3, h⟩ := bind_some h
   try dsimp only at h
   refine aA (aK hF (aY (l := [(62, ⟨(bC g), [0], (r_8.2, .inl r_15)⟩), (61, ⟨eA F, [0], ((10 : Int), (aP ⟨#[]⟩), ([r_15.1] : List Ex), r_15.2, r_16)⟩)]) (.cons hg xAa (.cons (iW F) xAa (.nil)))) [2] [] (yaB ?_))
   obtain rfl := Option.some.inj h
   refine aB (bX (bO (jV hF [.cell 2 24] [0] rfl rfl rfl rfl rfl rfl rfl rfl rfl ?_)))
   exact zaD
  ·try dsimp only at h
   refine aA (aK hF (aY (l := [(62, ⟨(bC g), [0], (r_8.2, .inr p_17)⟩)]) (.cons hg xAa (.nil))) [2] [] (yaB ?_))
   obtain rfl := Option.some.inj h
   refine dF (dF (iJ [0] rfl rfl (yaC ?_)))
   exact zac
 ·try simp only [go_sem] at hc
  have h := dP zAB h
  refine bM (aB (aA (cB (aA (aD hF [0, 2, 19] (yaA ?_))))))
  refine aB (bF rfl (fun hc => ?_) (fun hc => ?_))
  ·try simp only [go_sem] at hc
   have h := dT zAB h
   refine aK hF (aY (l := []) (.nil)) [0, 2] [] (yaB ?_)
   obtain rfl := Option.some.inj h
   refine yE (dF (iJ [0] rfl rfl (yaC ?_)))
   exact zac
  ·try simp only [go_sem] at hc
   have h := dP zAB h
   refine aA (aD hF [0, 2, 36] (yaA ?_))
   obtain ⟨g0, h⟩ := aI h
   repeat (refine ⟨zAA, ?_⟩)
   refine aB (bF rfl (fun hc => ?_) (fun hc => ?_))
   ·try simp only [go_sem] at hc
    have h := dT zAB h
    obtain ⟨e, he4, h⟩ := bind_some h
    rcases e with r_26 | p_27
    ·try dsimp only at h
     refine aA (aK hF (aY (l := [(84, ⟨(eU F g), [0], (r_8.2, .inl r_26)⟩)]) (.cons (mU F g hg) xAa (.nil))) [2] [] (yaB ?_))
     obtain rfl := Option.some.inj h
     refine aB (bX (eR (bO (jV hF [.cell 2 24] [0] rfl rfl rfl rfl rfl rfl rfl rfl rfl ?_))))
     exact zaD
    ·try dsimp only at h
     refine aA (aK hF (aY (l := [(84, ⟨(eU F g), [0], (r_8.2, .inr p_27)⟩)]) (.cons (mU F g hg) xAa (.nil))) [2] [] (yaB ?_))
     obtain rfl := Option.some.inj h
     refine dF (yE (dF (iJ [0] rfl rfl (yaC ?_))))
     exact zac
   ·try simp only [go_sem] at hc
    have h := dP zAB h
    refine aA (aD hF [0, 2, 49] (yaA ?_))
    obtain ⟨g0, h⟩ := aI h
    obtain ⟨g1, h⟩ := aI h
    repeat (refine ⟨zAA, ?_⟩)
    refine aB (bF rfl (fun hc => ?_) (fun hc => ?_))
    ·try simp only [go_sem] at hc
     have h := dT zAB h
     obtain ⟨e, he5, h⟩ := bind_some h
     rcases e with r_32 | p_33
     ·try dsimp only at h
      refine aA (aK hF (aY (l := [(85, ⟨jI F, [0], (r_8.2, .inl r_32)⟩)]) (.cons (xF F) xAa (.nil))) [2] [] (yaB ?_))
      obtain rfl := Option.some.inj h
      refine aB (bX (eR (bO (jV hF [.cell 2 24] [0] rfl rfl rfl rfl rfl rfl rfl rfl rfl ?_))))
      exact zaD
     ·try dsimp only at h
      refine aA (aK hF (aY (l := [(85, ⟨jI F, [0], (r_8.2, .inr p_33)⟩)]) (.cons (xF F) xAa (.nil))) [2] [] (yaB ?_))
      obtain rfl := Option.some.inj h
      refine dF (yE (dF (iJ [0] rfl rfl (yaC ?_))))
      exact zac
    ·try simp only [go_sem] at hc
     have h := dP zAB h
     obtain ⟨r_35, he6, h⟩ := bind_some h
     try dsimp only at h
     refine bM (cU (aB (aA (aK hF (aY (l := [(86, ⟨oP F, [0], (r_8.2, r_35)⟩)]) (.cons (aFP F) xAa (.nil))) [0, 2, 5] [] (yaB ?_)))))
     refine aB (aA (aA (aM hF [0, 2, 5, 6, 7] (yaA ?_))))
     refine aB (aA (aD hF [0, 2, 5, 6, 72] (yaA ?_)))
     refine aB (bF rfl (fun hc => ?_) (fun hc => ?_))
     ·try simp only [go_sem] at hc
      have h := dT zAB h
      obtain ⟨e, he7, h⟩ := bind_some h
      rcases e with r_45 | p_47
      ·try dsimp only at h
       obtain ⟨r_46, he8, h⟩ := bind_some h
       try dsimp only at h
       refine aA (aK hF (aY (l := [(84, ⟨(eU F g), [0], (r_35.2, .inl r_45)⟩), (61, ⟨eA F, [0], (((aBW .str (aBX .str (aBX .str (aBX .str ([] : List (qI × Int)) (aP ⟨#[115, 113, 114]⟩) (11 : Int)) (aP ⟨#[115, 113, 114, 116]⟩) (12 : Int)) (aP ⟨#[101, 120, 112]⟩) (13 : Int)) r_35.1).getD (0 : Int)), (aP ⟨#[]⟩), ([r_45.1] : List Ex), r_45.2, r_46)⟩)]) (.cons (mU F g hg) xAa (.cons (iW F) xAa (.nil)))) [2] [] (yaB ?_))
       obtain rfl := Option.some.inj h
       refine aB (bX (bO (jV hF [.cell 2 24] [0] rfl rfl rfl rfl rfl rfl rfl rfl rfl ?_)))
       exact zaD
      ·try dsimp only at h
       refine aA (aK hF (aY (l := [(84, ⟨(eU F g), [0], (r_35.2, .inr p_47)⟩)]) (.cons (mU F g hg) xAa (.nil))) [2] [] (yaB ?_))
       obtain rfl := Option.some.inj h
       refine dF (dF (iJ [0] rfl rfl (yaC ?_)))
       exact zac
     ·try simp only [go_sem] at hc
      have h := dP zAB h
      obtain ⟨r_49, he9, h⟩ := bind_some h
      try dsimp only at h
      refine bM (aB (aA (aK hF (aY (l := [(61, ⟨eA F, [0], ((2 : Int), r_35.1, ([] : List Ex), r_35.2, r_49)⟩)]) (.cons (iW F) xAa (.nil))) [2] [] (yaB ?_))))
      exact zaO
def eF (F : Md) : Nat → qd → Option (qq ⊕ ql)
 | 0 => fun _ => none
 | n + 1 => fW F (eF F n)
def xI (F : Md) (n : Nat) : iE where
 D := qd × (qq ⊕ ql)
 av := fun d => [.ptr 0 []]
 hp := fun d => [.box 3 (.val qk d.1)]
 m := 1
 pre := fun d => eF F n d.1 = some d.2
 out := fun d => match d.2 with | .inl r => .ret (.val .expr r.1) [.box 3 (.val qk r.2)] | .inr p => .pan ⟨47, qf, p⟩ [.box 3 (.junk)]
theorem pX (F : Md) : ∀ n, GOK Tryz.prog GL 62 (xI F n)
 | 0 => fun _ _ _ _ hp _ => absurd (show none = some _ from hp) (by simp)
 | n + 1 => aDx F _ (pX F n)
attribute [go_sem] xI
end
end Nu
end Go.Proofs
namespace Go.Proofs
open Go.Vc
set_option maxRecDepth 20000
namespace Nu
noncomputable section
set_option maxHeartbeats 4000000
attribute [-go_sem] Ex.kind Ex.text Ex.l
def rY : iE where
 D := Ex × Int × Int × Unit
 av := fun _ => [.ptr 0 [], .ptr 1 [], .ptr 2 []]
 hp := fun d => [.box 3 (.val .expr d.1), .box 1 (.val qj d.2.1), .box 1 (.val qj d.2.2.1)]
 m := 3
 pre := fun _ => True
 out := fun d => .ret (.tup []) [.box 3 (.val .expr d.1), .box 1 (.val qj d.2.1), .box 1 (.val qj d.2.2.1)]
def gG (x : ql) : iE where
 D := Unit
 av := fun _ => [.ptr 0 [], .ptr 1 [], .ptr 2 []]
 hp := fun _ => [.box 3 .junk, .box 1 .junk, .box 1 .junk]
 m := 3
 pre := fun _ => True
 out := fun _ => .ret (.tup []) [.box 3 (.val .expr (Ex.mk 0 [] [])), .box 1 (.val qj (x).1), .box 1 (.val qj (6 : Int))]
theorem aLF : DOK Tryz.prog GL 20 none rY := by
 refine aPD (aS aCi) Tryz.func20 rfl xAa (fun _ => Nat.le_of_ble_eq_true rfl) rfl fun c w d hw1 hw2 hp hn => ?_
 have hF : hU ⟨Tryz.prog, EM [], GM rY c d, w, Tryz.f20.ntmps, []⟩ := ⟨aS aCi, mix⟩
 obtain ⟨d0, d1, d2, du⟩ := d
 show qS _ _ _ [(6, .val .nili ()), (0, .ptr 0 []), (1, .ptr 1 []), (2, .ptr 2 [])] [.box 3 (.val .expr d0), .box 1 (.val qj d1), .box 1 (.val qj d2)] _
 simp only [go_sem]
 refine aA (aD hF [0, 1, 2, 3, 10] (yaA ?_))
 refine aB (bF rfl (fun hc => absurd hc xAb) (fun hc => ?_))
 refine bM ?_
 refine mD [0, 1, 2] rfl rfl (yaC ?_)
 exact zaa
theorem aAu (x : ql) : DOK Tryz.prog GL 20 (some ⟨47, qf, x⟩) (gG x) := by
 refine aPD (aS aCi) Tryz.func20 rfl xAa (fun _ => Nat.le_of_ble_eq_true rfl) rfl fun c w d hw1 hw2 hp hn => ?_
 have hF : hU ⟨Tryz.prog, EM [], GM (gG x) c d, w, Tryz.f20.ntmps, []⟩ := ⟨aS aCi, mix⟩
 show qS _ _ _ [(6, .val (.ifc 47 qf) x), (0, .ptr 0 []), (1, .ptr 1 []), (2, .ptr 2 [])] [.box 3 .junk, .box 1 .junk, .box 1 .junk] _
 simp only [go_sem]
 refine aA (aD hF [0, 1, 2, 3, 10] (yaA ?_))
 refine aB (bF rfl (fun hc => ?_) (fun hc => absurd hc xAb))
 refine aFi hF [] [] [.box 3 (.val .expr (Ex.mk 0 [] [])), .box 1 (.val qj (x).1), .box 1 (.val qj (6 : Int)), .box 1 (.val qf x)] xAb ?_ ?_
 ·simp only [go_sem]
  unfold anyS
  intro i hi
  have hi : i = 0 ∨ i = 1 := by revert hi; revert i; decide
  rcases hi with rfl | rfl
  ·simp only [go_sem]
   try (refine ⟨by decide, ?_⟩)
   unfold anyS
   intro i hi
   have hi : i = 1 ∨ i = 3 := by revert hi; revert i; decide
   rcases hi with rfl | rfl
   ·simp only [go_sem]
    exact zaN
   ·simp only [go_sem]
    try (refine ⟨by decide, ?_⟩)
    unfold anyS
    intro i hi
    have hi : i = 1 := by revert hi; revert i; decide
    subst hi
    simp only [go_sem]
    try (refine ⟨by decide, ?_⟩)
    unfold anyS
    intro i hi
    have hi : i = 2 := by revert hi; revert i; decide
    exact zaC
  ·simp only [go_sem]
   try (refine ⟨by decide, ?_⟩)
   unfold anyS
   intro i hi
   have hi : i = 0 ∨ i = 2 := by revert hi; revert i; decide
   rcases hi with rfl | rfl
   ·simp only [go_sem]
    exact zaN
   ·simp only [go_sem]
    try (refine ⟨by decide, ?_⟩)
    unfold anyS
    intro i hi
    have hi : i = 0 := by revert hi; revert i; decide
    subst hi
    simp only [go_sem]
    try (refine ⟨by decide, ?_⟩)
    unfold anyS
    intro i hi
    have hi : i = 3 := by revert hi; revert i; decide
    exact zaC
 refine mD [0, 1, 2] rfl rfl (yaC ?_)
 exact zaa
def pY (F : Md) (s_0 : qI) : Option (Ex × (Int × ql)) :=
 (iR F (eF F 64) (s_0, (0 : Int), (0 : Int), ())).bind (fun e => match e with | .inl r_6 => (gY F r_6.2).bind (fun r_10 => if r_10.2.1 < (s_0.length : Int) then some ((Ex.mk 0 [] []), (r_10.2.1, ()).1, (6 : Int), ()) else ck ((oH F r_6.1).isSome = true) (if ¬ (((oH F r_6.1).getD false) = true) then some ((Ex.mk 0 [] []), ((0 : Int), ()).1, (6 : Int), ()) else some (r_6.1, (0 : Int), (0 : Int), ()))) | .inr p_7 => some ((Ex.mk 0 [] []), (p_7).1, (6 : Int), ()))
@[go_sem]def aBf : Ty := .pair .str .unit
def zL (F : Md) : aF := mSpec aBf (.tup (.pair .expr (.pair qj qf))) (fun x => pY F x.1)
abbrev aBg (F : Md) : List (FuncId × aF) := [(12, (sL F))]
theorem aI2 (F : Md) : bG Tryz.prog GL (aBg F) := .cons (aIH F) xAa (.nil)
theorem aOC (F : Md) : FOK Tryz.prog GL 9 (zL F) := by
 refine aHd (aS (aI2 F)) Tryz.func9 rfl xAa xAb fun w0 S x r hw h => ?_
 have hF : hU (fr Tryz.prog (EM (aBg F)) S w0 Tryz.f9.ntmps) := ⟨aS (aI2 F), mix⟩
 obtain ⟨(s_0 : qI), u⟩ := x
 simp only [aBf, Ty.wf, gW] at hw
 simp only [bQ, aBf]
 try dsimp only at h
 replace h : pY F s_0 = some r := h
 unfold pY at h
 refine aA (aM hF [0, 2, 3, 4] (yaA ?_))
 refine aB (aCI 3 [0, 1, 2] rfl rfl (Nat.zero_le _) xAb fun roots hroots => (yaA ?_))
 have hF : hU { fr Tryz.prog (EM (aBg F)) S w0 Tryz.f9.ntmps with M := ⟨nothing, S, 3, roots⟩, ds := [⟨.fn (.func 20) ([0, 1, 2].map roots).toArray, #[]⟩] } := ⟨hF.env, mix⟩
 refine aA (aM hF [0, 2, 3, 4, 5] (yaA ?_))
 obtain ⟨e, he1, h⟩ := bind_some h
 rcases e with r_6 | p_7
 ·try dsimp only at h
  refine aB (aA (aK hF (aY (l := [(21, ⟨(gZ F (eF F 64)), [3], ((s_0, (0 : Int), (0 : Int), ()), .inl r_6)⟩)]) (.cons (oZ F _ (pX F 64)) xAa (.nil))) [0, 2, 3, 4, 5] [] (yaB ?_)))
  obtain ⟨r_10, he2, h⟩ := bind_some h
  try dsimp only at h
  refine aB (aA (aA (aK hF (aY (l := [(22, ⟨lC F, [3], (r_6.2, r_10)⟩)]) (.cons (aAh F) xAa (.nil))) [0, 2, 3, 4, 5] [] (yaB ?_))))
  refine aB (aA (aD hF [2, 3, 4, 5, 20] (yaA ?_)))
  refine aB (bF rfl (fun hc => ?_) (fun hc => ?_))
  ·try simp only [go_sem] at hc
   have h := dT zAB h
   refine aK hF (aY (l := []) (.nil)) [2, 3, 4] [] (yaB ?_)
   obtain rfl := Option.some.inj h
   refine dF (iK (eX 0 rfl eW) ?_)
   refine iK (eX 1 rfl eW) ?_
   refine iK (eX 2 rfl eW) (yaA ?_)
   refine aHY (fn := Tryz.f9) (k := 3) (l2 := [0, 1, 2]) hF rfl rfl xAb rfl (aAP xAa) ⟨gG (r_10.2.1, ()), [0, 1, 2], ()⟩ (aAu (r_10.2.1, ())) rfl [.cell 2 24, .cell 3 3, .cell 4 3] rfl ?_ ?_
   ·(simp only [gG, go_sem]) <;> first | decide | trivial
   ·(simp only [gG, aR, gK, go_sem]) <;> first | decide | trivial | rfl | (simp; done)
  ·try simp only [go_sem] at hc
   have h := dP zAB h
   refine bM (aB (aA (aA (aD hF [2, 3, 4, 29] (yaA ?_)))))
   obtain ⟨g0, h⟩ := aI h
   repeat (refine ⟨zAA, ?_⟩)
   refine aB (bF rfl (fun hc => ?_) (fun hc => ?_))
   ·try simp only [go_sem] at hc
    have h := dT zAB h
    refine aK hF (aY (l := []) (.nil)) [2, 3, 4] [] (yaB ?_)
    obtain rfl := Option.some.inj h
    refine dF (iK (eX 0 rfl eW) ?_)
    refine iK (eX 1 rfl eW) ?_
    refine iK (eX 2 rfl eW) (yaA ?_)
    refine aHY (fn := Tryz.f9) (k := 3) (l2 := [0, 1, 2]) hF rfl rfl xAb rfl (aAP xAa) ⟨gG ((0 : Int), ()), [0, 1, 2], ()⟩ (aAu ((0 : Int), ())) rfl [.cell 2 24, .cell 3 3, .cell 4 3] rfl ?_ ?_
    ·(simp only [gG, go_sem]) <;> first | decide | trivial
    ·(simp only [gG, aR, gK, go_sem]) <;> first | decide | trivial | rfl | (simp; done)
   ·try simp only [go_sem] at hc
    have h := dP zAB h
    refine bM (aB (aA (aM hF [2, 3, 4] (yaA ?_))))
    obtain rfl := Option.some.inj h
    refine aB (bX (aPC (fn := Tryz.f9) (k := 3) (l2 := [0, 1, 2]) hF rfl rfl xAb rfl (aAP xAa) ⟨rY, [0, 1, 2], (r_6.1, (0 : Int), (0 : Int), ())⟩ aLF rfl [.cell 2 24, .cell 3 3, .cell 4 3] rfl ?_ ?_))
    ·(simp only [rY, go_sem]) <;> first | decide | trivial
    ·(simp only [rY, aR, gK, go_sem]) <;> first | decide | trivial | rfl | (simp; done)
 ·try dsimp only at h
  refine aB (aA (aK hF (aY (l := [(21, ⟨(gZ F (eF F 64)), [3], ((s_0, (0 : Int), (0 : Int), ()), .inr p_7)⟩)]) (.cons (oZ F _ (pX F 64)) xAa (.nil))) [0, 2, 3, 4, 5] [] (yaB ?_)))
  obtain rfl := Option.some.inj h
  refine dF (iK (eX 0 rfl eW) ?_)
  refine iK (eX 1 rfl eW) ?_
  refine iK (eX 2 rfl eW) (yaA ?_)
  refine aHY (fn := Tryz.f9) (k := 3) (l2 := [0, 1, 2]) hF rfl rfl xAb rfl (aAP xAa) ⟨gG (p_7), [0, 1, 2], ()⟩ (aAu (p_7)) rfl [.cell 2 24, .cell 3 3, .cell 4 3] rfl ?_ ?_
  ·(simp only [gG, go_sem]) <;> first | decide | trivial
  ·(simp only [gG, aR, gK, go_sem]) <;> first | decide | trivial | rfl | (simp; done)
attribute [go_sem] zL
end
end Nu
end Go.Proofs
namespace Go.Proofs
open Go.Vc
set_option maxRecDepth 20000
namespace Nu
noncomputable section
set_option maxHeartbeats 4000000
attribute [-go_sem] Ex.kind Ex.text Ex.l
@[go_sem]def sS : Ty := .pair .expr qt
def oQ (g : Ex → Ex → Option (Bool)) : aF := mSpec sS (.one .bool) (fun x => g x.1 x.2.1)
attribute [go_sem] oQ
def fI (F : Md) (g : Ex → Ex → Option (Bool)) (a_0 : Ex) (b_1 : Ex) (i_14 : Int) : Option ((Int) ⊕ ((Unit) ⊕ Bool)) :=
 if i_14 < (((a_0.l).length : Nat) : Int) then ck (0 ≤ i_14 ∧ i_14 < (((a_0.l).length : Nat) : Int)) (ck (0 ≤ i_14 ∧ i_14 < (((b_1.l).length : Nat) : Int)) ((g ((a_0.l).getD (i_14.toNat) (Ex.mk 0 [] [])) ((b_1.l).getD (i_14.toNat) (Ex.mk 0 [] []))).bind (fun v_27 => if ¬ (v_27 = true) then some (.inr (.inr false)) else ck (I64 (i_14 + (1 : Int))) (some (.inl (i_14 + (1 : Int))))))) else some (.inr (.inl ()))
def kG (F : Md) (g : Ex → Ex → Option (Bool)) (a_0 : Ex) (b_1 : Ex) : Option Bool :=
 if ((¬ ((a_0.kind) = (b_1.kind))) ∨ (¬ ((a_0.text) = (b_1.text)))) ∨ (¬ ((((a_0.l).length : Nat) : Int) = (((b_1.l).length : Nat) : Int))) then some false else (dI F (fun d : Int => fI F g a_0 b_1 d) (0 : Int)).bind (fun e => match e with | (.inl e) => some true | (.inr e) => some e)
def aCE : PlR := ⟨[(0, .B [2, 3]), (1, .A [2, 3, 26]), (2, .A [4]), (3, .A [2, 3, 5]), (4, .A [2, 3, 5, 31]), (5, .A [2, 3, 5]), (6, .A [2, 3, 5, 45]), (7, .A [4]), (8, .A [4])], []⟩
abbrev aDy (F : Md) (g : Ex → Ex → Option (Bool)) : List (FuncId × aF) := [(10, (oQ g))]
theorem aJ4 (F : Md) (g : Ex → Ex → Option (Bool)) (hg : FOK Tryz.prog GL 10 (oQ g)) : bG Tryz.prog GL (aDy F g) := .cons hg xAa (.nil)
attribute [go_sem] aCE
theorem aHu (F : Md) (g : Ex → Ex → Option (Bool)) (hg : FOK Tryz.prog GL 10 (oQ g)) : FOK Tryz.prog GL 10 (mSpec sS (.one .bool) (fun x => kG F g x.1 x.2.1)) := by
 refine bN (aS (aJ4 F g hg)) mix Tryz.func10 rfl xAa xAb aCE fun w0 S x Θ hw h hF => ?_
 obtain ⟨(a_0 : Ex), (b_1 : Ex), u⟩ := x
 simp only [bQ, go_sem]
 replace h : sat (kG F g a_0 b_1) _ := h
 unfold kG at h
 refine ⟨fun hc => ?_, fun hc => ?_⟩
 ·replace h := jA hc h
  exact zaA
 ·replace h := jB hc h
  refine cI hF (D := Int) [] (fun d => [(2, .ptr 0 []), (3, .ptr 1 []), (5, .val qj d)]) (fun d => [.inr (.box 3 (.val .expr a_0)), .inr (.box 3 (.val .expr b_1))]) h rfl xAc ?_
  rintro i_14 A4 T4 hA4 hE4 h
  simp only [go_sem]
  replace h : sat (fI F g a_0 b_1 i_14) _ := h
  unfold fI at h
  refine fZ h (fun hc h => ?_) fun hc h => ?_
  ·refine aU h fun g0 h => aU h fun g1 h => ?_
   obtain ⟨v_27, hv, h⟩ := aJ h
   try simp only [hv, go_sem]
   refine aFj h (fun hc h => ?_) fun hc h => ?_
   ·replace h := yaF (hE4 _ (aC h))
    exact zaA
   ·refine aU h fun g0 h => ?_
    replace h := hA4 _ (aC h)
    exact zaF
  ·replace h := yaF (hE4 _ (aC h))
   exact zaA
def fB (F : Md) : Nat → Ex → Ex → Option (Bool)
 | 0 => fun _ _ => none
 | n + 1 => kG F (fB F n)
def rF (F : Md) (n : Nat) : aF := mSpec sS (.one .bool) (fun x => fB F n x.1 x.2.1)
theorem aCF (F : Md) : ∀ n, FOK Tryz.prog GL 10 (rF F n)
 | 0 => fun _ _ _ _ _ _ _ hp => Bool.noConfusion (show false = true from hp)
 | n + 1 => aHu F _ (aCF F n)
attribute [go_sem] rF
@[go_sem]def sT : Ty := .pair .expr qf
def uB (g : Ex → Int → Option (Int)) : aF := mSpec sT (.one qj) (fun x => g x.1 x.2.1)
attribute [go_sem] uB
def lR (F : Md) (g : Ex → Int → Option (Int)) (e_0 : Ex) (deep_1 : Int) (n_7 : Int) (i_8 : Int) : Option (qz ⊕ (Int)) :=
 if (i_8 < (((e_0.l).length : Nat) : Int)) ∧ (n_7 ≤ (200 : Int)) then ck (0 ≤ i_8 ∧ i_8 < (((e_0.l).length : Nat) : Int)) (ck (I64 (deep_1 + (1 : Int))) (ck ((g ((e_0.l).getD (i_8.toNat) (Ex.mk 0 [] [])) (deep_1 + (1 : Int))).isSome = true) (ck (I64 (n_7 + ((g ((e_0.l).getD (i_8.toNat) (Ex.mk 0 [] [])) (deep_1 + (1 : Int))).getD (0 : Int)))) (ck (I64 (i_8 + (1 : Int))) (some (.inl ((n_7 + ((g ((e_0.l).getD (i_8.toNat) (Ex.mk 0 [] [])) (deep_1 + (1 : Int))).getD (0 : Int))), (i_8 + (1 : Int))))))))) else some (.inr n_7)
def lE (F : Md) (g : Ex → Int → Option (Int)) (e_0 : Ex) (deep_1 : Int) : Option Int :=
 if ((40 : Int) < deep_1) ∨ ((100 : Int) < (((e_0.text).length : Nat) : Int)) then some (201 : Int) else (dI F (fun d : Int × Int => lR F g e_0 deep_1 d.1 d.2) ((1 : Int), (0 : Int))).bind (fun e => some (min e (201 : Int)))
abbrev aEm (F : Md) (g : Ex → Int → Option (Int)) : List (FuncId × aF) := [(11, (uB g))]
theorem aI3 (F : Md) (g : Ex → Int → Option (Int)) (hg : FOK Tryz.prog GL 11 (uB g)) : bG Tryz.prog GL (aEm F g) := .cons hg xAa (.nil)
theorem aNS (F : Md) (g : Ex → Int → Option (Int)) (hg : FOK Tryz.prog GL 11 (uB g)) : FOK Tryz.prog GL 11 (mSpec sT (.one qj) (fun x => lE F g x.1 x.2.1)) := by
 refine nY (aS (aI3 F g hg)) Tryz.func11 rfl xAa xAb fun w0 S x r hw h => ?_
 have hF : hU (fr Tryz.prog (EM (aEm F g)) S w0 Tryz.f11.ntmps) := ⟨aS (aI3 F g hg), mix⟩
 obtain ⟨(e_0 : Ex), (deep_1 : Int), u⟩ := x
 simp only [sT, Ty.wf, gW] at hw
 simp only [bQ, sT]
 try dsimp only at h
 replace h : lE F g e_0 deep_1 = some r := h
 unfold lE at h
 refine aA (aM hF [1, 2] (yaA ?_))
 refine aB (aA (aD hF [1, 2, 5] (yaA ?_)))
 refine aB (aA (aA (aD hF [1, 2, 5, 14] (yaA ?_))))
 refine aB (bF rfl (fun hc => ?_) (fun hc => ?_))
 ·try simp only [go_sem] at hc
  have h := dT zAB h
  refine aA (aD hF [4] (yaA ?_))
  obtain rfl := Option.some.inj h
  refine aB (bX (bO (eM hF [.tmp 4] rfl rfl rfl ?_)))
  exact zAG
 ·try simp only [go_sem] at hc
  have h := dP zAB h
  refine bM (aB (aA (aA (aD hF [1, 2, 5, 6] (yaA ?_)))))
  refine aB (cB (hZ (D := Int × Int) [1] (fun d => [(2, .ptr 0 []), (5, .val qj d.1), (6, .val qj d.2)]) (fun d => [.inr (.box 3 (.val .expr e_0))]) h ?_ ?_ ?_))
  ·first | rfl | (simp only [go_sem]; done)
  ·exact zAF
  rintro ⟨n_7, i_8⟩ s5 h hs5
  simp only [go_sem]
  try dsimp only at h
  unfold lR at h
  refine aA (aA (aD hF [1, 2, 5, 6, 23] (yaA ?_)))
  refine aB (bF rfl (fun hc => ?_) (fun hc => ?_))
  ·try simp only [go_sem] at hc
   have h := dT zAB h
   refine bM (aB (aA (cB (aD hF [1, 2, 5, 6] (yaA ?_)))))
   obtain ⟨g0, h⟩ := aI h
   obtain ⟨g1, h⟩ := aI h
   obtain ⟨g2, h⟩ := aI h
   obtain ⟨g3, h⟩ := aI h
   try simp only [I64, I32] at g1
   try simp only [I64, I32] at g3
   repeat (refine ⟨zAA, ?_⟩)
   refine cU (aB (aD hF [1, 2, 5, 6] (yaA ?_)))
   obtain ⟨g0, h⟩ := aI h
   try simp only [I64, I32] at g0
   repeat (refine ⟨zAA, ?_⟩)
   obtain rfl := Option.some.inj h
   dsimp only [iM] at hs5
   refine bB (aW ((n_7 + ((g ((e_0.l).getD (i_8.toNat) (Ex.mk 0 [] [])) (deep_1 + (1 : Int))).getD (0 : Int))), (i_8 + (1 : Int))) hs5 rfl ?_)
   ·exact zAF
  ·try simp only [go_sem] at hc
   have h := dP zAB h
   obtain rfl := Option.some.inj h
   dsimp only [iM] at hs5
   have h := yaF (hs5)
   refine kT (bP (bP (dG (aB (aA (aD hF [4] (yaA ?_)))))))
   obtain rfl := Option.some.inj h
   refine aB (bX (eM hF [.tmp 4] rfl rfl rfl ?_))
   exact zAG
def mV (F : Md) : Nat → Ex → Int → Option (Int)
 | 0 => fun _ _ => none
 | n + 1 => lE F (mV F n)
def zM (F : Md) (n : Nat) : aF := mSpec sT (.one qj) (fun x => mV F n x.1 x.2.1)
theorem aGT (F : Md) : ∀ n, FOK Tryz.prog GL 11 (zM F n)
 | 0 => fun _ _ _ _ _ _ _ hp => Bool.noConfusion (show false = true from hp)
 | n + 1 => aNS F _ (aGT F n)
attribute [go_sem] zM
def uC (F : Md) (e_0 : Ex) : Option Bool :=
 (mV F 64 e_0 (1 : Int)).bind (fun v_5 => some (decide (v_5 ≤ (200 : Int))))
def aFQ : PlR := ⟨[(0, .B [1]), (1, .A [2])], []⟩
def aGU : Ty := .pair .expr .unit
def xJ (F : Md) : aF := mSpec aGU (.one .bool) (fun x => uC F x.1)
abbrev aGV (F : Md) : List (FuncId × aF) := [(11, (zM F 64))]
theorem aOD (F : Md) : bG Tryz.prog GL (aGV F) := .cons (aGT F 64) xAa (.nil)
attribute [go_sem] aGU aFQ
theorem aNT (F : Md) : FOK Tryz.prog GL 4 (xJ F) := by
 refine bN (aS (aOD F)) mix Tryz.func4 rfl xAa xAb aFQ fun w0 S x Θ hw h hF => ?_
 obtain ⟨(e_0 : Ex), u⟩ := x
 simp only [bQ, go_sem]
 replace h : sat (uC F e_0) _ := h
 unfold uC at h
 exact zab
attribute [go_sem] xJ
def aNU : ByteArray := ⟨⟨112 :: 114 :: 101 :: 99 :: 32 :: 52 :: 48 :: 10 :: 101 :: 110 :: 100 :: 32 :: 49 :: 10 :: 115 :: 116 :: 101 :: 112 :: 32 :: 48 :: 46 :: 53 :: 32 :: 48 :: 46 :: 49 :: 50 :: 53 :: 10 :: 116 :: 111 :: 108 :: 32 :: 49 :: 10 :: 116 :: 114 :: 105 :: 101 :: 115 :: 32 :: 52 :: 10 :: 111 :: 114 :: 100 :: 101 :: 114 :: 32 :: 48 :: 10 :: 106 :: 97 :: 99 :: 111 :: 98 :: 105 :: 10 :: 115 :: 117 :: 98 :: 32 :: 97 :: 10 :: 115 :: 116 :: 97 :: 116 :: 101 :: 32 :: 120 :: 32 :: 61 :: 32 :: 49 :: 32 :: 100 :: 101 :: 114 :: 32 :: 120 :: 10 :: 111 :: 117 :: 116 :: 32 :: 121 :: 32 :: 61 :: 32 :: 120 :: 10 :: []⟩⟩
@[go_sem]theorem aOE : (⟨⟨112 :: 114 :: 101 :: 99 :: 32 :: 52 :: 48 :: 10 :: 101 :: 110 :: 100 :: 32 :: 49 :: 10 :: 115 :: 116 :: 101 :: 112 :: 32 :: 48 :: 46 :: 53 :: 32 :: 48 :: 46 :: 49 :: 50 :: 53 :: 10 :: 116 :: 111 :: 108 :: 32 :: 49 :: 10 :: 116 :: 114 :: 105 :: 101 :: 115 :: 32 :: 52 :: 10 :: 111 :: 114 :: 100 :: 101 :: 114 :: 32 :: 48 :: 10 :: 106 :: 97 :: 99 :: 111 :: 98 :: 105 :: 10 :: 115 :: 117 :: 98 :: 32 :: 97 :: 10 :: 115 :: 116 :: 97 :: 116 :: 101 :: 32 :: 120 :: 32 :: 61 :: 32 :: 49 :: 32 :: 100 :: 101 :: 114 :: 32 :: 120 :: 10 :: 111 :: 117 :: 116 :: 32 :: 121 :: 32 :: 61 :: 32 :: 120 :: 10 :: []⟩⟩ : ByteArray) = aNU := rfl
def aBh (F : Md) : Option Bool :=
 (cH F 64 (Ex.mk (10 : Int) ([] : List Nat) ([(Ex.mk (6 : Int) ([] : List Nat) ([(Ex.mk (2 : Int) (aP ⟨#[97]⟩) ([] : List Ex)), (Ex.mk (2 : Int) (aP ⟨#[97]⟩) ([] : List Ex))] : List Ex))] : List Ex))).bind (fun v_5 => (zH F).bind (fun v_12 => (tY F v_12).bind (fun v_13 => (tY F ((0 : Int), (0 : Int), (0 : Int), (0 : Int), ([] : List Nat), ([] : List Nat), ([] : List Nat), ([] : List Nat), ([] : List qg), ([] : List (qI × (qI × qx))), ())).bind (fun v_17 => some ((((decide (v_5 = (aP ⟨#[45, 40, 97, 32, 43, 32, 97, 41]⟩))) && (decide (v_13.2.1 = (0 : Int)))) && (decide (v_13.1 = (aP aNU)))) && (decide (v_17.2.1 = (1 : Int))))))))
def aGW : PlR := ⟨[(0, .A []), (1, .B [1]), (2, .A [2]), (3, .A [2, 3, 4]), (4, .A [2, 3, 4, 6]), (5, .A [0])], []⟩
def aEn : Ty := .unit
def aGX (F : Md) : aF := mSpec aEn (.one .bool) (fun x => aBh F )
abbrev aBi (F : Md) : List (FuncId × aF) := [(14, (xD F)), (15, (xC F)), (8, (nA F 64))]
theorem aQa (F : Md) : bG Tryz.prog GL (aBi F) := .cons (aNQ F) xAa (.cons (aNL F) xAa (.cons (zI F 64) xAa (.nil)))
attribute [go_sem] aEn aGW
theorem aOF (F : Md) : FOK Tryz.prog GL 6 (aGX F) := by
 refine bN (aS (aQa F)) mix Tryz.func6 rfl xAa xAb aGW fun w0 S x Θ hw h hF => ?_
 simp only [bQ, go_sem]
 replace h : sat (aBh F) _ := h
 unfold aBh at h
 obtain ⟨v_5, hv, h⟩ := aJ h
 try simp only [hv, go_sem]
 obtain ⟨v_12, hv, h⟩ := aJ h
 try simp only [hv, go_sem]
 obtain ⟨v_13, hv, h⟩ := aJ h
 try simp only [hv, go_sem]
 obtain ⟨v_17, hv, h⟩ := aJ h
 try simp only [hv, go_sem]
 exact aG hF [.tmp 0] rfl rfl rfl (aC h) xAd
attribute [go_sem] aGX
end
end Nu
end Go.Proofs
namespace Go.Proofs
open Go.Vc
set_option maxRecDepth 20000
namespace Nu
noncomputable section
set_option maxHeartbeats 4000000
attribute [-go_sem] Ex.kind Ex.text Ex.l
theorem aXZ : aBh (some 1000) = some true := by kernel_rfl
def aBT : Bool := true
def zN : aF := ⟨aEn, .one .bool, fun _ => True, fun _ => aBT⟩
attribute [go_sem] zN
theorem aOG : FOK Tryz.prog GL 6 zN := aTQ (aOF (some 1000)) (fun _ _ _ => aXZ)
def iX (F : Md) (e_0 : Ex) : Option (Bool) :=
 (cH F 64 e_0).bind (fun v_18 => (pY F v_18).bind (fun v_20 => ck (((aBT = true) ∧ (v_20.2.2.1 = (0 : Int))) → ((fB F 64 v_20.1 e_0).isSome = true)) (ck ((((aBT = true) ∧ (v_20.2.2.1 = (0 : Int))) ∧ (((fB F 64 v_20.1 e_0).getD false) = true)) → ((cH F 64 v_20.1).isSome = true)) (some (((aBT && (decide (v_20.2.2.1 = (0 : Int)))) && ((fB F 64 v_20.1 e_0).getD false)) && (decide (((cH F 64 v_20.1).getD ([] : List Nat)) = v_18)))))))
def gH (F : Md) (names_1 : qm) (i_23 : Int) : Option ((Int) ⊕ ((Unit) ⊕ Bool)) :=
 if i_23 < (names_1.length : Int) then ck (0 ≤ i_23 ∧ i_23 < (names_1.length : Int)) ((mK F (names_1.getD (i_23.toNat) ([] : List Nat))).bind (fun v_32 => if ¬ (v_32 = true) then some (.inr (.inr aBT)) else ck (I64 (i_23 + (1 : Int))) (some (.inl (i_23 + (1 : Int)))))) else some (.inr (.inl ()))
def oR (F : Md) (e_0 : Ex) (names_1 : qm) : Option Bool :=
 (uC F e_0).bind (fun v_8 => ck (¬ ((¬ (v_8 = true)) ∨ ((8 : Int) < (names_1.length : Int))) → ((gJ F e_0 names_1).isSome = true)) (if ((¬ (v_8 = true)) ∨ ((8 : Int) < (names_1.length : Int))) ∨ (¬ (((gJ F e_0 names_1).getD false) = true)) then some aBT else (dI F (fun d : Int => gH F names_1 d) (0 : Int)).bind (fun e => match e with | (.inl e) => iX F e_0 | (.inr e) => some e)))
def aBU : PlR := ⟨[(0, .B [1, 2]), (1, .A [1, 2, 23]), (2, .A [4]), (3, .A [1, 2, 5]), (4, .A [1, 2, 5, 28]), (5, .A [1, 2, 5]), (6, .A [1, 2, 5, 36]), (7, .A [4]), (8, .A [2, 6]), (9, .B [2, 6, 7, 9]), (10, .A [4])], [(6, 11)]⟩
def rG : Ty := .pair .expr (.pair qu .unit)
def aBV (F : Md) : aF := mSpec rG (.one .bool) (fun x => oR F x.1 x.2.1)
abbrev hN (F : Md) : List (FuncId × aF) := [(10, (rF F 64)), (4, (xJ F)), (5, (iV F)), (6, zN), (7, (qN F)), (8, (nA F 64)), (9, (zL F))]
theorem aI4 (F : Md) : bG Tryz.prog GL (hN F) := .cons (aCF F 64) xAa (.cons (aNT F) xAa (.cons (yN F) xAa (.cons aOG xAa (.cons (aGC F) xAa (.cons (zI F 64) xAa (.cons (aOC F) xAa (.nil)))))))
attribute [go_sem] rG aBU
theorem aHv (F : Md) : FOK Tryz.prog GL 3 (aBV F) := by
 refine bN (aS (aI4 F)) mix Tryz.func3 rfl xAa xAb aBU fun w0 S x Θ hw h hF => ?_
 obtain ⟨(e_0 : Ex), (names_1 : qm), u⟩ := x
 simp only [bQ, go_sem]
 replace h : sat (oR F e_0 names_1) _ := h
 unfold oR at h
 obtain ⟨v_8, hv, h⟩ := aJ h
 try simp only [hv, go_sem]
 obtain ⟨g0, h⟩ := aL h
 repeat (refine ⟨zAE, ?_⟩)
 refine ⟨fun hc => ?_, fun hc => ?_⟩
 ·replace h := jA zAB h
  exact zaA
 ·replace h := jB zAB h
  refine dU hF (D := Unit) (fun d => sat (iX F e_0) Θ) [] (fun d => [(2, .ptr 0 [])]) (fun d => [.inr (.box 3 (.val .expr e_0))]) ?_ ?_
  ·simp only [go_sem]
   refine cI hF (D := Int) [1] (fun d => [(2, .ptr 0 []), (5, .val qj d)]) (fun d => [.inr (.box 3 (.val .expr e_0))]) h rfl xAc ?_
   rintro i_23 A4 T4 hA4 hE4 h
   simp only [go_sem]
   replace h : sat (gH F names_1 i_23) _ := h
   unfold gH at h
   refine fZ h (fun hc h => ?_) fun hc h => ?_
   ·obtain ⟨g0, h⟩ := aL h
    repeat (refine ⟨zAA, ?_⟩)
    obtain ⟨v_32, hv, h⟩ := aJ h
    try simp only [hv, go_sem]
    refine aFj h (fun hc h => ?_) fun hc h => ?_
    ·replace h := yaF (hE4 _ (aC h))
     exact zaA
    ·obtain ⟨g0, h⟩ := aL h
     try simp only [I64, I32] at g0
     repeat (refine ⟨zAA, ?_⟩)
     replace h := hA4 _ (aC h)
     exact zaF
   ·replace h := yaF (hE4 _ (aC h))
    exact aW () h rfl xAc
  ·rintro u h
   simp only [go_sem]
   replace h : sat (iX F e_0) _ := h
   unfold iX at h
   obtain ⟨v_18, hv, h⟩ := aJ h
   try simp only [hv, go_sem]
   obtain ⟨v_20, hv, h⟩ := aJ h
   try simp only [hv, go_sem]
   obtain ⟨g0, h⟩ := aL h
   obtain ⟨g1, h⟩ := aL h
   repeat (refine ⟨zAD, ?_⟩)
   exact zaA
attribute [go_sem] aBV
end
end Nu
end Go.Proofs
namespace Go.Proofs
open Go.Vc
set_option maxRecDepth 20000
namespace Nu
theorem aZ {α : Type} {p : Prop} [Decidable p] {k : Option α} {r : Option α} (hp : p) (h : k = r) : ck p k = r := (aXR hp).trans h
theorem aYn {α : Type} {p : Prop} [Decidable p] {x y r : α} (h1 : p → x = r) (h2 : ¬ p → y = r) : (if p then x else y) = r := by
 split
 ·exact h1 ‹_›
 ·exact h2 ‹_›
theorem bA {α β : Type} {x : Option α} {a : α} {k : α → Option β} {r : Option β} (hx : x = some a) (h : k a = r) : x.bind k = r := by rw [hx]; exact h
theorem take_succ {s : List Nat} {k : Nat} (h : k < s.length) : s.take (k + 1) = s.take k ++ [s.getD k 0] := by
 rw [List.take_add_one, List.getElem?_eq_getElem h, List.getD_eq_getElem?_getD, List.getElem?_eq_getElem h]
 rfl
def rH (c : Nat) : Bool := decide (48 ≤ c ∧ c ≤ 57)
def bK (s : List Nat) (i : Nat) : Nat := ((s.drop i).takeWhile rH).length
theorem aXn {p : Nat → Bool} : ∀ (l : List Nat) (n : Nat), n ≤ (l.takeWhile p).length → (n < (l.takeWhile p).length ↔ n < l.length ∧ p (l.getD n 0) = true)
 | [], n, h => by simp
 | x :: r, n, h => by
  by_cases hp : p x = true
  ·rw [List.takeWhile_cons_of_pos hp] at h ⊢
   cases n with
   | zero => simp [hp]
   | succ n =>
    have := aXn (p := p) r n (by simpa using h)
    simpa using this
  ·rw [List.takeWhile_cons_of_neg hp] at h ⊢
   have : n = 0 := by simpa using h
   subst this
   simp [hp]
theorem sU (s : List Nat) (i : Nat) : bK s i ≤ s.length - i := by
 have := (List.takeWhile_prefix (p := rH) (l := s.drop i)).length_le
 rw [List.length_drop] at this
 exact this
theorem sV (s : List Nat) (i : Nat) (hs : s.length ≤ 4611686018427387904) (hi : i ≤ 4611686018427387904) : jF none s (i : Int) = some (bK s i : Int) := by
 have hd := sU s i
 unfold jF
 refine bA (aMI (step := fun d : Int => lT none (i : Int) s d) (I := fun n => 0 ≤ n ∧ n ≤ bK s i) (fun n => ((bK s i : Int) - n).toNat) (fun _ => (bK s i : Int)) ?_ 0 ⟨by omega, by omega⟩) rfl
 rintro n ⟨n0, n1⟩
 obtain ⟨k, rfl⟩ := Int.eq_ofNat_of_zero_le n0
 show (∃ d', lT none (i : Int) s k = _ ∧ _) ∨ lT none (i : Int) s k = _
 have e : ((i : Int) + (k : Int)).toNat = i + k := by omega
 have hx : s.getD (i + k) 0 = (s.drop i).getD k 0 := by simp [List.getD_eq_getElem?_getD, List.getElem?_drop]
 have ht := aXn (p := rH) (s.drop i) k (by show k ≤ bK s i; omega)
 have ht : k < bK s i ↔ i + k < s.length ∧ 48 ≤ s.getD (i + k) 0 ∧ s.getD (i + k) 0 ≤ 57 := by
  rw [hx]
  refine ht.trans ?_
  rw [List.length_drop, rH, decide_eq_true_iff]
  constructor
  ·rintro ⟨h1, h2⟩; exact ⟨by omega, h2⟩
  ·rintro ⟨h1, h2⟩; exact ⟨by omega, h2⟩
 unfold lT
 rw [e]
 by_cases hk : k < bK s i
 ·left
  obtain ⟨h1, h2, h3⟩ := ht.1 hk
  refine ⟨(k : Int) + 1, ?_, ⟨by omega, by omega⟩, by omega, rfl⟩
  refine aZ (by constructor <;> omega) (aZ (fun _ => by constructor <;> omega) (aZ (fun _ => by constructor <;> omega) (aZ (fun _ => by constructor <;> omega) (aZ (fun _ => by constructor <;> omega) ?_))))
  rw [if_pos ⟨⟨by omega, h2⟩, h3⟩]
  exact aZ (by constructor <;> omega) rfl
 ·right
  refine aZ (by constructor <;> omega) (aZ (fun _ => by constructor <;> omega) (aZ (fun _ => by constructor <;> omega) (aZ (fun _ => by constructor <;> omega) (aZ (fun _ => by constructor <;> omega) ?_))))
  rw [if_neg (fun h => hk (ht.2 ⟨by omega, h.1.2, h.2⟩)), show (k : Int) = (bK s i : Int) from by omega]
theorem aYX {a b : Nat} (ha : a < 256) (hb : b ≤ a) : xL none .u8 a b = a - b := by
 have hm : hO .u8 = 256 := by decide +kernel
 rw [aSY, aLK, hm, show a + (256 - b) = (a - b) + 256 from by omega, Nat.add_mod_right, Nat.mod_eq_of_lt (by omega)]
def vS (s : List Nat) : Nat := s.foldl (fun m c => m * 10 + (c - 48)) 0
theorem aT3 (s : List Nat) (c : Nat) : vS (s ++ [c]) = vS s * 10 + (c - 48) := by simp [vS]
theorem aPb : ∀ (s : List Nat) (m : Nat), (∀ c ∈ s, rH c = true) → s.foldl (fun m c => m * 10 + (c - 48)) m < (m + 1) * 10 ^ s.length
 | [], m, _ => by simp
 | x :: r, m, h => by
  have hx := h x (by simp)
  simp only [rH, decide_eq_true_iff] at hx
  have ih := aPb r (m * 10 + (x - 48)) (fun c hc => h c (by simp [hc]))
  rw [List.foldl_cons, List.length_cons, Nat.pow_succ, Nat.mul_comm (10 ^ r.length) 10, ← Nat.mul_assoc]
  exact Nat.lt_of_lt_of_le ih (Nat.mul_le_mul_right _ (by omega))
theorem aWX {s : List Nat} (h : ∀ c ∈ s, rH c = true) : vS s < 10 ^ s.length := by
 have := aPb s 0 h
 rw [Nat.zero_add, Nat.one_mul] at this
 exact this
theorem aVD {k : Nat} (h : k ≤ 18) : 10 ^ k ≤ 1000000000000000000 := Nat.pow_le_pow_right (n := 10) xAb h
theorem aS6 (s : List Nat) (hd : ∀ c ∈ s, rH c = true) (h0 : 0 < s.length) (h1 : s.length ≤ 18) : nG none s = some ((vS s : Int), (), ()) := by
 have hget : ∀ k, k < s.length → 48 ≤ s.getD k 0 ∧ s.getD k 0 ≤ 57 := fun k hk => by
  have hg : s.getD k 0 ∈ s := by rw [List.getD_eq_getElem?_getD, List.getElem?_eq_getElem hk]; exact List.getElem_mem hk
  have := hd _ hg
  simpa only [rH, decide_eq_true_iff] using this
 have hlt : ∀ k, vS (s.take k) < 1000000000000000000 ∨ k > s.length := fun k => by
  rcases Nat.lt_or_ge s.length k with h | h
  ·exact .inr h
  ·left
   have a := aWX (s := s.take k) (fun c hc => hd c (List.mem_of_mem_take hc))
   have b := aVD (k := (s.take k).length) (by rw [List.length_take]; omega)
   omega
 have key : iP none s s = some ((vS s : Int), (), ()) := by
  unfold iP
  refine bA (aMI (step := fun d : Int × Int => gX none s d.1 d.2) (I := fun d => 0 ≤ d.2 ∧ d.2 ≤ s.length ∧ d.1 = (vS (s.take d.2.toNat) : Int)) (fun d => ((s.length : Int) - d.2).toNat) (fun _ => .inl (vS s : Int)) ?_ (0, 0) ⟨by simp, by simp, by simp [vS]⟩) ?_
  ·rintro ⟨n, i⟩ ⟨i0, i1, i2⟩
   have i0 : 0 ≤ i := i0
   have i1 : i ≤ s.length := i1
   have i2 : n = (vS (s.take i.toNat) : Int) := i2
   show (∃ d', gX none s n i = _ ∧ _) ∨ gX none s n i = _
   unfold gX
   by_cases hi : i < s.length
   ·left
    have hk : i.toNat < s.length := by omega
    obtain ⟨c1, c2⟩ := hget _ hk
    have hsub : xL none .u8 (s.getD i.toNat 0) 48 = s.getD i.toNat 0 - 48 := aYX (by omega) c1
    have hb : vS (s.take (i.toNat + 1)) = vS (s.take i.toNat) * 10 + (s.getD i.toNat 0 - 48) := by rw [take_succ hk, aT3]
    have hl := hlt (i.toNat + 1)
    refine ⟨((vS (s.take (i + 1).toNat) : Int), i + 1), ?_, ⟨by simp only; omega, by simp only; omega, rfl⟩, by simp only; omega, rfl⟩
    rw [if_pos hi, hsub, show (i + 1).toNat = i.toNat + 1 from by omega, hb]
    refine aZ (by constructor <;> omega) ?_
    rw [if_neg (by omega), i2]
    refine aZ (by constructor <;> omega) (aZ (by constructor <;> omega) (aZ (by constructor <;> omega) ?_))
    congr 3
   ·right
    rw [if_neg hi, i2, List.take_of_length_le (by omega)]
  ·unfold nF
   obtain ⟨c1, c2⟩ := hget 0 h0
   refine aZ (by omega) ?_
   rw [if_neg (by omega)]
 have h2 : nZ none s = some ((vS s : Int), (), ()) := by
  unfold nZ
  obtain ⟨c1, c2⟩ := hget 0 h0
  rw [if_pos (.inr ⟨trivial, by omega, by omega⟩)]
  refine aZ (by omega) (aZ (fun _ => by omega) ?_)
  rw [if_neg (by omega)]
  exact key
 unfold nG
 exact bA h2 rfl
theorem aRi (s : List Nat) (i : Nat) : ∀ c ∈ (s.drop i).take (bK s i), rH c = true := by
 intro c hc
 have h : (s.drop i).take (bK s i) = (s.drop i).takeWhile rH := by
  have := List.prefix_iff_eq_take.1 (List.takeWhile_prefix (p := rH) (l := s.drop i))
  exact this.symm
 rw [h] at hc
 exact List.all_eq_true.1 List.all_takeWhile c hc
abbrev aWY : Type := List Nat × Int × Bool × Unit
def litNo : aWY := ([], 0, false, ())
def eO (s : List Nat) (i : Nat) (c : Nat) : Prop := i < s.length ∧ s.getD i 0 = c
instance (s : List Nat) (i c : Nat) : Decidable (eO s i c) := inferInstanceAs (Decidable (_ ∧ _))
def aNW (s : List Nat) (i : Nat) (all : List Nat) (pow : Int) (neg : Bool) : aWY :=
 if bK s i < 1 ∨ 3 < bK s i then litNo
 else if 100 < vS ((s.drop i).take (bK s i)) then litNo
 else (all, pow + (if neg then -(vS ((s.drop i).take (bK s i)) : Int) else vS ((s.drop i).take (bK s i))), decide (i + bK s i = s.length), ())
def aT4 (s : List Nat) (i : Nat) (all : List Nat) (pow : Int) : aWY :=
 if eO s i 101 then aNW s (if eO s (i + 1) 45 ∨ eO s (i + 1) 43 then i + 2 else i + 1) all pow (decide (eO s (i + 1) 45))
 else (all, pow, decide (i = s.length), ())
def aWZ (s : List Nat) : aWY :=
 if 60 < s.length ∨ bK s 0 = 0 then litNo
 else if eO s (bK s 0) 46 then
  if bK s (bK s 0 + 1) = 0 then litNo
  else aT4 s (bK s 0 + 1 + bK s (bK s 0 + 1)) (s.take (bK s 0) ++ (s.drop (bK s 0 + 1)).take (bK s (bK s 0 + 1))) (-(bK s (bK s 0 + 1) : Int))
 else aT4 s (bK s 0) (s.take (bK s 0)) 0
theorem aVE (s : List Nat) (i : Nat) : s.getD (i : Int).toNat 0 = s.getD i 0 := by rw [Int.toNat_natCast]
theorem aVF (s : List Nat) (k : Nat) (all : List Nat) (pow x : Int) (hs : s.length ≤ 60) (hk : k ≤ 100) (hp : -100 ≤ pow ∧ pow ≤ 100) (hx : -100 ≤ x ∧ x ≤ 100) : kD none pow (k : Int) (bK s k : Int) all s x = some (all, pow + x, decide (k + bK s k = s.length), ()) := by
 have hd := sU s k
 unfold kD
 refine aZ (by constructor <;> omega) (aZ (by constructor <;> omega) ?_)
 unfold kC
 have : decide ((k : Int) + (bK s k : Int) = (s.length : Int)) = decide (k + bK s k = s.length) := decide_eq_decide.2 (by omega)
 rw [this]
theorem aVG (s : List Nat) (i k : Nat) (all : List Nat) (pow : Int) (hs : s.length ≤ 60) (hi : i ≤ 60) (hk : k ≤ 100) (hp : -100 ≤ pow ∧ pow ≤ 100) : kE none s (i : Int) pow all (k : Int) = some (aNW s k all pow (decide (eO s (i + 1) 45))) := by
 have hd := sU s k
 unfold kE aNW
 refine bA (sV s k (by omega) (by omega)) ?_
 by_cases h1 : bK s k < 1 ∨ 3 < bK s k
 ·rw [if_pos (by omega), if_pos h1]; rfl
 ·rw [if_neg (by omega), if_neg h1]
  have ht : List.drop (k : Int).toNat (List.take ((k : Int) + (bK s k : Int)).toNat s) = (s.drop k).take (bK s k) := by
   rw [List.drop_take, Int.toNat_natCast]
   congr 1
   omega
  have hl : ((s.drop k).take (bK s k)).length = bK s k := by rw [List.length_take, List.length_drop]; omega
  have ha := aS6 _ (aRi s k) (by omega) (by omega)
  simp only [ht]
  refine aZ (by constructor <;> omega) (aZ (by constructor <;> omega) (bA ha ?_))
  by_cases h2 : 100 < vS ((s.drop k).take (bK s k))
  ·rw [if_pos (by omega), if_pos h2]; rfl
  ·rw [if_neg (by omega), if_neg h2]
   have e : ((i : Int) + 1).toNat = i + 1 := by omega
   rw [e]
   by_cases h3 : eO s (i + 1) 45
   ·have h3' : i + 1 < s.length ∧ s.getD (i + 1) 0 = 45 := h3
    rw [if_pos ⟨by omega, h3'.2⟩, decide_eq_true h3]
    refine aZ (by constructor <;> omega) ?_
    rw [show (0 : Int) - (vS ((s.drop k).take (bK s k)) : Int) = -(vS ((s.drop k).take (bK s k)) : Int) from by omega]
    rw [aVF s k all pow _ hs hk hp (by constructor <;> omega)]
    rfl
   ·have h3' : ¬ (i + 1 < s.length ∧ s.getD (i + 1) 0 = 45) := h3
    rw [if_neg (fun h => h3' ⟨by omega, h.2⟩), decide_eq_false h3]
    rw [aVF s k all pow _ hs hk hp (by constructor <;> omega)]
    rfl
theorem aVH (s : List Nat) (i : Nat) (all : List Nat) (pow : Int) (hs : s.length ≤ 60) (hi : i ≤ 60) (hp : -100 ≤ pow ∧ pow ≤ 100) : kF none s (i : Int) all pow = some (aT4 s i all pow) := by
 unfold kF aT4
 have e : ((i : Int) + 1).toNat = i + 1 := by omega
 rw [aVE, e]
 refine aZ (fun _ => by constructor <;> omega) ?_
 by_cases h : eO s i 101
 ·have h' : i < s.length ∧ s.getD i 0 = 101 := h
  rw [if_pos ⟨by omega, h'.2⟩, if_pos h]
  refine aZ (by constructor <;> omega) (aZ (fun _ => by constructor <;> omega) (aZ (fun _ _ => by constructor <;> omega) ?_))
  by_cases h2 : eO s (i + 1) 45 ∨ eO s (i + 1) 43
  ·have h2' : (i + 1 < s.length ∧ s.getD (i + 1) 0 = 45) ∨ (i + 1 < s.length ∧ s.getD (i + 1) 0 = 43) := h2
   rw [if_pos (by rcases h2' with h | h; exact .inl ⟨by omega, h.2⟩; exact .inr ⟨by omega, h.2⟩), if_pos h2]
   refine aZ (by constructor <;> omega) ?_
   have := aVG s i (i + 2) all pow hs hi (by omega) hp
   rw [show ((i + 2 : Nat) : Int) = (i : Int) + 1 + 1 from by omega] at this
   exact this
  ·have h2' : ¬ ((i + 1 < s.length ∧ s.getD (i + 1) 0 = 45) ∨ (i + 1 < s.length ∧ s.getD (i + 1) 0 = 43)) := h2
   rw [if_neg (fun h => h2' (by rcases h with h | h; exact .inl ⟨by omega, h.2⟩; exact .inr ⟨by omega, h.2⟩)), if_neg h2]
   have := aVG s i (i + 1) all pow hs hi (by omega) hp
   rw [show ((i + 1 : Nat) : Int) = (i : Int) + 1 from by omega] at this
   exact this
 ·have h' : ¬ (i < s.length ∧ s.getD i 0 = 101) := h
  rw [if_neg (fun h => h' ⟨by omega, h.2⟩), if_neg h]
  unfold kC
  have : decide ((i : Int) = (s.length : Int)) = decide (i = s.length) := decide_eq_decide.2 (by omega)
  rw [this]
theorem aX0 (s : List Nat) (hs : s.length ≤ 4611686018427387904) : mZ none s = some (aWZ s) := by
 have hd0 := sU s 0
 have hd1 := sU s (bK s 0 + 1)
 unfold mZ aWZ
 have e0 := sV s 0 hs (by omega)
 rw [show ((0 : Nat) : Int) = 0 from rfl] at e0
 refine bA e0 (aZ (by constructor <;> omega) ?_)
 by_cases h1 : 60 < s.length ∨ bK s 0 = 0
 ·rw [if_pos (by omega), if_pos h1]; rfl
 ·rw [if_neg (by omega), if_neg h1]
  rw [aVE]
  refine aZ (fun _ => by constructor <;> omega) ?_
  by_cases h2 : eO s (bK s 0) 46
  ·have h2' : bK s 0 < s.length ∧ s.getD (bK s 0) 0 = 46 := h2
   rw [if_pos ⟨by omega, h2'.2⟩, if_pos h2]
   have e1 := sV s (bK s 0 + 1) hs (by omega)
   rw [show ((bK s 0 + 1 : Nat) : Int) = (bK s 0 : Int) + 1 from by omega] at e1
   refine aZ (by constructor <;> omega) (bA e1 ?_)
   by_cases h3 : bK s (bK s 0 + 1) = 0
   ·rw [if_pos (by omega), if_pos h3]; rfl
   ·rw [if_neg (by omega), if_neg h3]
    have ht : List.drop ((bK s 0 : Int) + 1).toNat (List.take ((bK s 0 : Int) + 1 + (bK s (bK s 0 + 1) : Int)).toNat s) = (s.drop (bK s 0 + 1)).take (bK s (bK s 0 + 1)) := by
     rw [List.drop_take, show ((bK s 0 : Int) + 1).toNat = bK s 0 + 1 from by omega]
     congr 1
     omega
    simp only [ht, Int.toNat_natCast]
    have hl1 : (s.take (bK s 0)).length ≤ 60 := by rw [List.length_take]; omega
    have hl2 : ((s.drop (bK s 0 + 1)).take (bK s (bK s 0 + 1))).length ≤ 60 := by rw [List.length_take]; omega
    refine aZ (by constructor <;> omega) (aZ (by constructor <;> omega) (aZ (by constructor <;> omega) (aZ (by constructor <;> omega) (aZ (by omega) (aZ (by constructor <;> omega) (aZ (by constructor <;> omega) (aZ (by constructor <;> omega) ?_)))))))
    have := aVH s (bK s 0 + 1 + bK s (bK s 0 + 1)) (s.take (bK s 0) ++ (s.drop (bK s 0 + 1)).take (bK s (bK s 0 + 1))) (-(bK s (bK s 0 + 1) : Int)) (by omega) (by omega) (by constructor <;> omega)
    rw [show ((bK s 0 + 1 + bK s (bK s 0 + 1) : Nat) : Int) = (bK s 0 : Int) + 1 + (bK s (bK s 0 + 1) : Int) from by omega] at this
    rw [show (0 : Int) - (bK s (bK s 0 + 1) : Int) = -(bK s (bK s 0 + 1) : Int) from by omega]
    exact this
  ·have h2' : ¬ (bK s 0 < s.length ∧ s.getD (bK s 0) 0 = 46) := h2
   rw [if_neg (fun h => h2' ⟨by omega, h.2⟩), if_neg h2]
   rw [Int.toNat_natCast]
   exact aVH s (bK s 0) _ 0 (by omega) (by omega) xAb
end Nu
end Go.Proofs
namespace Go.Proofs
open Go.Vc
set_option maxRecDepth 20000
namespace Nu
def mx (l : List Nat) : Nat := l.foldr max 0
theorem aW0 (l : List Nat) (b : Nat) : mx (l ++ [b]) = max (mx l) b := by
 induction l with
 | nil => simp [mx]
 | cons a r ih =>
  simp only [mx, List.cons_append, List.foldr_cons] at ih ⊢
  rw [ih, Nat.max_assoc]
theorem aLR {l : List Ex} {k : Nat} (h : k < l.length) : l.take (k + 1) = l.take k ++ [l.getD k (Ex.mk 0 [] [])] := by
 rw [List.take_succ_eq_append_getElem h, List.getD_eq_getElem?_getD, List.getElem?_eq_getElem h]; rfl
theorem aI5 {l : List Ex} {k : Nat} (h : k < l.length) : l.getD k (Ex.mk 0 [] []) ∈ l := by
 rw [List.getD_eq_getElem?_getD, List.getElem?_eq_getElem h]; exact List.getElem_mem h
def aB7 (f : Ex → Nat) (l : List Ex) : Nat := (l.map f).sum
def mxN (f : Ex → Nat) (l : List Ex) : Nat := mx (l.map f)
theorem aJ6 (f : Ex → Nat) {l : List Ex} {k : Nat} (h : k < l.length) : aB7 f (l.take (k + 1)) = aB7 f (l.take k) + f (l.getD k (Ex.mk 0 [] [])) := by
 rw [aLR h]; simp [aB7]
theorem aVI (f : Ex → Nat) {l : List Ex} {k : Nat} (h : k < l.length) : mxN f (l.take (k + 1)) = max (mxN f (l.take k)) (f (l.getD k (Ex.mk 0 [] []))) := by
 rw [aLR h, mxN, List.map_append]; exact aW0 _ _
theorem aW1 (f : Ex → Nat) (l : List Ex) (k : Nat) : aB7 f (l.take k) ≤ aB7 f l := by
 have : aB7 f l = aB7 f (l.take k ++ l.drop k) := by rw [List.take_append_drop]
 rw [this, aB7, aB7, List.map_append, List.sum_append]
 exact Nat.le_add_right _ _
theorem aVJ (f : Ex → Nat) {l : List Ex} {k : Nat} (h : k < l.length) : aB7 f (l.take k) + f (l.getD k (Ex.mk 0 [] [])) ≤ aB7 f l := by
 rw [← aJ6 f h]; exact aW1 f l _
theorem aVK (f : Ex → Nat) (l : List Ex) : aB7 f (l.take 0) = 0 := by simp [aB7]
theorem aYo (f : Ex → Nat) (l : List Ex) : mxN f (l.take 0) = 0 := by simp [mxN, mx]
theorem aJ7 {l : List Ex} {k : Nat} (h : l.length ≤ k) : l.take k = l := List.take_of_length_le h
def fits : Nat → Ex → Prop
 | 0, _ => False
 | n + 1, e => e.text.length ≤ 100 ∧ e.l.length ≤ 1000 ∧ ∀ x ∈ e.l, fits n x
def nd : Nat → Ex → Nat
 | 0, _ => 0
 | n + 1, e => 1 + aB7 (nd n) e.l
def ht : Nat → Ex → Nat
 | 0, _ => 0
 | n + 1, e => 1 + mxN (ht n) e.l
theorem aSd {f : Ex → Nat} {b : Nat} (h : ∀ x, f x ≤ b) : ∀ l : List Ex, mxN f l ≤ b
 | [] => by simp [mxN, mx]
 | x :: r => by
  have h1 := h x
  have h2 := aSd h r
  have : mxN f (x :: r) = max (f x) (mxN f r) := rfl
  omega
theorem aXo : ∀ (n : Nat) (e : Ex), ht n e ≤ n
 | 0, e => Nat.le_refl 0
 | n + 1, e => by
  have := aSd (aXo n) e.l
  have h : ht (n + 1) e = 1 + mxN (ht n) e.l := rfl
  omega
theorem aX1 {n : Nat} {e : Ex} (h : fits n e) : 1 ≤ ht n e := by
 cases n with
 | zero => exact h.elim
 | succ n => have : ht (n + 1) e = 1 + mxN (ht n) e.l := rfl; omega
def prt (k : Int) : Int := if k = 1 ∨ k = 2 then 0 else if 6 ≤ k ∧ k ≤ 9 then 2 else if 10 ≤ k ∧ k ≤ 13 then 1 else -1
theorem aW2 (k : Int) : pT none k = some (prt k) := by
 by_cases h : 1 ≤ k ∧ k ≤ 13
 ·have : k = 1 ∨ k = 2 ∨ k = 3 ∨ k = 4 ∨ k = 5 ∨ k = 6 ∨ k = 7 ∨ k = 8 ∨ k = 9 ∨ k = 10 ∨ k = 11 ∨ k = 12 ∨ k = 13 := by omega
  rcases this with h | h | h | h | h | h | h | h | h | h | h | h | h <;> subst h <;> rfl
 ·unfold pT qH lV lU prt
  have e : ∀ j : Int, 1 ≤ j → j ≤ 13 → ¬ k = j := fun j h1 h2 h3 => h (by omega)
  rw [if_neg (e 1 xAb xAb), decide_eq_false (e 2 xAb xAb), if_neg xAb, if_neg (e 6 xAb xAb), if_neg (e 7 xAb xAb), if_neg (e 8 xAb xAb),
   decide_eq_false (e 9 xAb xAb), if_neg xAb, if_neg (e 10 xAb xAb), if_neg (e 11 xAb xAb), if_neg (e 12 xAb xAb), decide_eq_false (e 13 xAb xAb), if_neg xAb,
   if_neg (by omega), if_neg (by omega), if_neg (by omega)]
theorem aS7 : ∀ (n k : Nat) (e : Ex) (a n0 d0 : Nat), n ≤ k → fits n e → a + n ≤ 1000 → n0 + nd n e ≤ 100000 → d0 ≤ 100000 →
  ∃ n' d' : Nat, kY none k e (a : Int) (n0 : Int) (d0 : Int) = some ((n' : Int), (d' : Int)) ∧ n0 < n' ∧ n' ≤ n0 + nd n e ∧ d0 ≤ d' ∧ a ≤ d' ∧ d' ≤ max d0 (a + ht n e - 1) ∧ (n' ≤ 60 → d' ≤ 30 → n' = n0 + nd n e ∧ d' = max d0 (a + ht n e - 1))
 | 0, k, e, a, n0, d0, hk, hf, ha, hn, hd => hf.elim
 | n + 1, 0, e, a, n0, d0, hk, hf, ha, hn, hd => absurd hk (by omega)
 | n + 1, k + 1, e, a, n0, d0, hk, hf, ha, hn, hd => by
  obtain ⟨hf1, hf2, hf3⟩ := hf
  have hnd : nd (n + 1) e = 1 + aB7 (nd n) e.l := rfl
  have hht : ht (n + 1) e = 1 + mxN (ht n) e.l := rfl
  show ∃ n' d' : Nat, nB none (kY none k) e (a : Int) (n0 : Int) (d0 : Int) = _ ∧ _
  unfold nB
  by_cases hc : (60 : Int) < (n0 : Int) + 1 ∨ (30 : Int) < (a : Int)
  ·refine ⟨n0 + 1, max d0 a, ?_, by omega, by omega, by omega, by omega, by omega, fun _ _ => by omega⟩
   refine aZ (by constructor <;> omega) ?_
   rw [if_pos hc]
   congr 2
   omega
  ·obtain ⟨r, hr, x, y, rfl, q1, q2, q3, q4, q5⟩ := uX (step := fun d : Int × Int × Int => jL none (kY none k) e (a : Int) d.1 d.2.1 d.2.2)
    (I := fun d => ∃ i x y : Nat, d = ((i : Int), (x : Int), (y : Int)) ∧ i ≤ e.l.length ∧ n0 + 1 ≤ x ∧ x ≤ n0 + 1 + aB7 (nd n) (e.l.take i) ∧ max d0 a ≤ y ∧ y ≤ max (max d0 a) (a + mxN (ht n) (e.l.take i)) ∧ (x ≤ 60 → y ≤ 30 → x = n0 + 1 + aB7 (nd n) (e.l.take i) ∧ y = max (max d0 a) (a + mxN (ht n) (e.l.take i))))
    (fun d => ((e.l.length : Int) - d.1).toNat)
    (fun r => ∃ x y : Nat, r = ((x : Int), (y : Int)) ∧ n0 + 1 ≤ x ∧ x ≤ n0 + 1 + aB7 (nd n) e.l ∧ max d0 a ≤ y ∧ y ≤ max (max d0 a) (a + mxN (ht n) e.l) ∧ (x ≤ 60 → y ≤ 30 → x = n0 + 1 + aB7 (nd n) e.l ∧ y = max (max d0 a) (a + mxN (ht n) e.l)))
    (by
     rintro d ⟨i, x, y, rfl, h1, h2, h3, h4, h5, h6⟩
     show (∃ d', jL none (kY none k) e (a : Int) (i : Int) (x : Int) (y : Int) = _ ∧ _) ∨ ∃ r, jL none (kY none k) e (a : Int) (i : Int) (x : Int) (y : Int) = _ ∧ _
     unfold jL
     by_cases hi : i < e.l.length
     ·left
      have s1 := aVJ (nd n) hi
      have s2 := aJ6 (nd n) hi
      have s3 := aVI (ht n) hi
      have hmem := hf3 _ (aI5 hi)
      have hm := aSd (aXo n) (e.l.take i)
      have hy : y ≤ 100000 := by omega
      ·obtain ⟨x', y', p1, p2, p3, p4, p5, p6, p7⟩ := aS7 n k (e.l.getD i (Ex.mk 0 [] [])) (a + 1) x y (by omega) hmem (by omega) (by omega) hy
       rw [show ((a + 1 : Nat) : Int) = (a : Int) + 1 from by omega] at p1
       refine ⟨(((i + 1 : Nat) : Int), (x' : Int), (y' : Int)), ?_, ⟨i + 1, x', y', rfl, by omega, by omega, by omega, by omega, by omega, fun c1 c2 => ?_⟩, by simp only; omega⟩
       ·rw [if_pos (by omega), Int.toNat_natCast]
        refine aZ (by constructor <;> omega) (aZ (by constructor <;> omega) (bA p1 (aZ (by constructor <;> omega) ?_)))
        congr 3
       ·obtain ⟨u1, u2⟩ := p7 c1 c2
        obtain ⟨v1, v2⟩ := h6 (by omega) (by omega)
        omega
     ·right
      have e1 : e.l.take i = e.l := aJ7 (by omega)
      rw [e1] at h3 h5 h6
      refine ⟨((x : Int), (y : Int)), ?_, x, y, rfl, h2, h3, h4, h5, h6⟩
      rw [if_neg (by omega)])
    ((0 : Int), (n0 : Int) + 1, max (d0 : Int) (a : Int)) ⟨0, n0 + 1, max d0 a, by congr 2; omega, by omega, by omega, by omega, by omega, by omega, fun _ _ => by rw [aVK, aYo]; omega⟩
   refine ⟨x, y, ?_, by omega, by omega, by omega, by omega, by omega, fun c1 c2 => by have := q5 c1 c2; omega⟩
   refine aZ (by constructor <;> omega) ?_
   rw [if_neg hc]
   exact bA hr rfl
theorem aX2 {n : Nat} {e : Ex} (hf : fits n e) (hn : n ≤ 64) (hd : nd n e ≤ 1000) : oH none e = some (decide (nd n e ≤ 60 ∧ ht n e ≤ 30)) := by
 obtain ⟨x, y, h1, h2, h3, h4, h5, h6, h7⟩ := aS7 n 64 e 1 0 0 hn hf (by omega) (by omega) (by omega)
 have hp := aX1 hf
 unfold oH wU
 refine bA (bA h1 rfl) ?_
 congr 1
 rw [← Bool.decide_and]
 refine decide_eq_decide.2 ⟨fun ⟨a, b⟩ => ?_, fun ⟨a, b⟩ => ?_⟩
 ·have a : (x : Int) ≤ 60 := a
  have b : (y : Int) ≤ 30 := b
  have := h7 (by omega) (by omega)
  omega
 ·show (x : Int) ≤ 60 ∧ (y : Int) ≤ 30
  omega
end Nu
end Go.Proofs
namespace Go.Proofs
open Go.Vc
set_option maxRecDepth 20000
namespace Nu
theorem aLS {D E : Type} {step : D → Option (D ⊕ E)} {d d' : D} {r : E} (h : step d = some (.inl d')) (h2 : aFh step d' = some r) : aFh step d = some r := by
 obtain ⟨n, hn⟩ := aO2.1 h2
 exact aBw (n := n + 1) (by rw [iter, h]; exact hn)
theorem aDz {D E : Type} {step : D → Option (D ⊕ E)} {d : D} {r : E} (h : step d = some (.inr r)) : aFh step d = some r := aBw (n := 1) (by rw [iter, h])
theorem ify {α : Type} {p : Prop} {i : Decidable p} {x y r : α} (hp : p) (h : x = r) : @ite α p i x y = r := (if_pos hp).trans h
theorem ifn {α : Type} {p : Prop} {i : Decidable p} {x y r : α} (hp : ¬ p) (h : y = r) : @ite α p i x y = r := (if_neg hp).trans h
def aQb (c : Nat) : Bool := c == 32
def aEH (c : Nat) : Bool := decide (97 ≤ c ∧ c ≤ 122)
def eV (c : Nat) : Bool := aEH c || rH c || c == 95
def run (p : Nat → Bool) (s : List Nat) (i : Nat) : Nat := ((s.drop i).takeWhile p).length
theorem aQc (p : Nat → Bool) (s : List Nat) (i : Nat) : run p s i ≤ s.length - i := by
 have := (List.takeWhile_prefix (p := p) (l := s.drop i)).length_le
 rw [List.length_drop] at this
 exact this
theorem aNX {p : Nat → Bool} {s : List Nat} {i : Nat} (h : i < s.length) (hp : p (s.getD i 0) = true) : run p s i = run p s (i + 1) + 1 := by
 have e : s.getD i 0 = s[i] := by rw [List.getD_eq_getElem?_getD, List.getElem?_eq_getElem h]; rfl
 rw [e] at hp
 unfold run
 rw [List.drop_eq_getElem_cons h, List.takeWhile_cons_of_pos hp, List.length_cons]
theorem aLT {p : Nat → Bool} {s : List Nat} {i : Nat} (h : i < s.length → p (s.getD i 0) = false) : run p s i = 0 := by
 unfold run
 by_cases hi : i < s.length
 ·have e : s.getD i 0 = s[i] := by rw [List.getD_eq_getElem?_getD, List.getElem?_eq_getElem hi]; rfl
  have := h hi
  rw [e] at this
  rw [List.drop_eq_getElem_cons hi, List.takeWhile_cons_of_neg (by rw [this]; decide)]
  rfl
 ·rw [List.drop_eq_nil_of_le (by omega)]; rfl
def skp (s : List Nat) (i : Nat) : Nat := i + run aQb s i
theorem aHw (s : List Nat) (i : Nat) (h : i ≤ s.length) : i ≤ skp s i ∧ skp s i ≤ s.length := by
 have := aQc aQb s i
 unfold skp; omega
abbrev RD0 : Type := List Nat × (Int × ql)
abbrev st (s : List Nat) (p n : Nat) : RD0 := (s, (p : Int), (n : Int), ())
theorem aQd (s : List Nat) (hs : s.length ≤ 1099511627776) : ∀ (k p n : Nat), k = s.length - p → p ≤ s.length → gY none (st s p n) = some (st s (skp s p) n) := by
 have main : ∀ (k p n : Nat), k = s.length - p → p ≤ s.length → aFh (fun d : RD0 => dL none d) (st s p n) = some (st s (skp s p) n) := by
  intro k
  induction k with
  | zero =>
   intro p n hk hp
   have e : skp s p = p := by have := aHw s p hp; omega
   rw [e]
   refine aDz ?_
   show dL none (st s p n) = _
   unfold dL
   refine aZ (fun h => by have h : (p : Int) < (s.length : Int) := h; omega) ?_
   rw [if_neg (fun h => by have h : (p : Int) < (s.length : Int) := h.1; omega)]
  | succ k ih =>
   intro p n hk hp
   by_cases hb : aQb (s.getD p 0) = true
   ·have e : skp s p = skp s (p + 1) := by unfold skp; rw [aNX (by omega) hb]; omega
    rw [e]
    refine aLS (d' := st s (p + 1) n) ?_ (ih (p + 1) n (by omega) (by omega))
    show dL none (st s p n) = _
    unfold dL
    have hb : s.getD p 0 = 32 := by simpa [aQb] using hb
    refine aZ (fun _ => ⟨by show (0 : Int) ≤ (p : Int); omega, by show (p : Int) < (s.length : Int); omega⟩) ?_
    rw [if_pos ⟨by show (p : Int) < (s.length : Int); omega, by show s.getD (p : Int).toNat 0 = 32; rw [Int.toNat_natCast]; exact hb⟩]
    refine aZ (by constructor <;> (show _ ≤ _; simp only; omega)) rfl
   ·have e : skp s p = p := by
     unfold skp
     rw [aLT (fun _ => by simpa using hb)]; rfl
    rw [e]
    refine aDz ?_
    show dL none (st s p n) = _
    unfold dL
    refine aZ (fun _ => ⟨by show (0 : Int) ≤ (p : Int); omega, by show (p : Int) < (s.length : Int); omega⟩) ?_
    rw [if_neg]
    rintro ⟨_, h⟩
    have h : s.getD (p : Int).toNat 0 = 32 := h
    rw [Int.toNat_natCast] at h
    exact hb (by unfold aQb; rw [h]; rfl)
 intro k p n hk hp
 unfold gY
 exact bA (main k p n hk hp) rfl
theorem aVL (l : List Nat) (c : Nat) : ∀ k, aP9 l c k < 0 ↔ c ∉ l := by
 induction l with
 | nil => intro k; simp [aP9]
 | cons b r ih =>
  intro k
  rw [aP9]
  by_cases h : b = c
  ·rw [if_pos h]; subst h; simp
  ·rw [if_neg h, ih]
   simp [Ne.symm h]
theorem aGc (l : List Nat) (c : Nat) : aO none l c = some (aEU l c) := rfl
theorem aLU (l : List Nat) (c : Nat) : aEU l c < 0 ↔ c ∉ l := aVL l c 0
def aFS (s : List Nat) (l : List Nat) (q : Nat) : Prop := q < s.length ∧ s.getD q 0 ∈ l
instance (s l : List Nat) (q : Nat) : Decidable (aFS s l q) := inferInstanceAs (Decidable (_ ∧ _))
theorem aSe {s l : List Nat} (hs : s.length ≤ 1099511627776) {p n : Nat} (hp : p ≤ s.length) (h : aFS s l (skp s p)) :
  dZ none l (st s p n) = some ((s.getD (skp s p) 0, true, ()), st s (skp s p + 1) n) := by
 have hk := aHw s p hp
 have h1 := h.1
 have h2 : ¬ aEU l (s.getD (skp s p) 0) < 0 := fun e => (aLU _ _).1 e h.2
 unfold dZ
 refine bA (aQd s hs _ p n rfl hp) ?_
 simp only [aGc, Int.toNat_natCast, Option.isSome_some, Option.getD_some]
 refine aZ (fun h => ⟨by omega, by omega⟩) (aZ (fun _ => trivial) (ifn (by rintro (e | e) <;> omega) ?_))
 refine aZ (by constructor <;> omega) (aZ (by constructor <;> omega) (aZ (by constructor <;> omega) ?_))
 rw [show ((skp s p : Int) + 1 - 1).toNat = skp s p from by omega]
 rfl
theorem aVM {s l : List Nat} (hs : s.length ≤ 1099511627776) {p n : Nat} (hp : p ≤ s.length) (h : ¬ aFS s l (skp s p)) :
  dZ none l (st s p n) = some ((0, false, ()), st s (skp s p) n) := by
 have hk := aHw s p hp
 unfold dZ
 refine bA (aQd s hs _ p n rfl hp) ?_
 simp only [aGc, Int.toNat_natCast, Option.isSome_some, Option.getD_some]
 refine aZ (fun h => ⟨by omega, by omega⟩) (aZ (fun _ => trivial) (ify ?_ rfl))
 by_cases h1 : skp s p < s.length
 ·exact .inr ((aLU _ _).2 fun e => h ⟨h1, e⟩)
 ·exact .inl (by omega)
theorem aRj {s l : List Nat} (hs : s.length ≤ 1099511627776) {p n : Nat} (hp : p ≤ s.length) (h : aFS s l (skp s p)) :
  dQ none l (st s p n) = some (.inl (st s (skp s p + 1) n)) := by
 unfold dQ
 exact bA (aSe hs hp h) (ifn (by simp) rfl)
theorem aS8 {s l : List Nat} (hs : s.length ≤ 1099511627776) {p n : Nat} (hp : p ≤ s.length) (h : ¬ aFS s l (skp s p)) :
  dQ none l (st s p n) = some (.inr ((skp s p : Int), ())) := by
 unfold dQ
 exact bA (aVM hs hp h) (ify (by simp) rfl)
theorem aFT (k : Int) (t : List Nat) (l : List Ex) (s : List Nat) (p n : Nat) (hn : n ≤ 4611686018427387904) : dA none k t l (st s p n) = some (Ex.mk k t l, st s p (n + 1)) := by
 unfold dA
 exact aZ (by constructor <;> (simp only; omega)) rfl
def aDA (s : List Nat) (i : Nat) : Nat :=
 if eO s i 101 then
  let k := if eO s (i + 1) 43 ∨ eO s (i + 1) 45 then i + 2 else i + 1
  if 1 ≤ bK s k ∧ bK s k ≤ 3 ∧ vS ((s.drop k).take (bK s k)) ≤ 100 then k + bK s k else i
 else i
def xK (s : List Nat) (p : Nat) : Nat :=
 if bK s p = 0 then 0
 else aDA s (if eO s (p + bK s p) 46 ∧ 0 < bK s (p + bK s p + 1) then p + bK s p + 1 + bK s (p + bK s p + 1) else p + bK s p) - p
theorem aS9 (s : List Nat) (hs : s.length ≤ 1099511627776) (p i k : Nat) (hp : p ≤ i) (hi : i ≤ s.length) (hk : k ≤ s.length) (hpk : p ≤ k) :
  oV none s (p : Int) (i : Int) (k : Int) = some ((if 1 ≤ bK s k ∧ bK s k ≤ 3 ∧ vS ((s.drop k).take (bK s k)) ≤ 100 then k + bK s k else i : Nat) - (p : Int)) := by
 have hd := sU s k
 unfold oV
 refine bA (sV s k (by omega) (by omega)) ?_
 have hm : min (bK s k : Int) 4 = ((min (bK s k) 4 : Nat) : Int) := by omega
 rw [hm]
 have ht : List.drop (k : Int).toNat (List.take ((k : Int) + ((min (bK s k) 4 : Nat) : Int)).toNat s) = (s.drop k).take (min (bK s k) 4) := by
  rw [List.drop_take, Int.toNat_natCast]
  congr 1
  omega
 have hl : ((s.drop k).take (min (bK s k) 4)).length = min (bK s k) 4 := by rw [List.length_take, List.length_drop]; omega
 have h0 : aP ⟨#[48]⟩ = [48] := rfl
 have hall : ∀ c ∈ [48] ++ (s.drop k).take (min (bK s k) 4), rH c = true := by
  intro c hc
  rcases List.mem_append.1 hc with hc | hc
  ·simp at hc; subst hc; decide
  ·refine aRi s k c ?_
   have : (s.drop k).take (min (bK s k) 4) = ((s.drop k).take (bK s k)).take 4 := by rw [List.take_take, Nat.min_comm]
   rw [this] at hc
   exact List.mem_of_mem_take hc
 simp only [ht, h0]
 refine aZ (by constructor <;> omega) (aZ (by constructor <;> omega) (aZ (by simp only [List.length_cons, List.length_nil, hl]; omega) ?_))
 refine bA (aS6 _ hall (by simp) (by rw [List.length_append, hl]; simp only [List.length_cons, List.length_nil]; omega)) ?_
 have hn : vS ([48] ++ (s.drop k).take (min (bK s k) 4)) = vS ((s.drop k).take (min (bK s k) 4)) := by simp [vS]
 by_cases hc : 1 ≤ bK s k ∧ bK s k ≤ 3 ∧ vS ((s.drop k).take (bK s k)) ≤ 100
 ·have hm2 : min (bK s k) 4 = bK s k := by omega
  rw [hm2] at hn
  rw [if_pos ⟨by constructor <;> omega, by simp only [hm2, hn]; omega⟩, if_pos hc]
  refine aZ (by constructor <;> omega) (aZ (by constructor <;> omega) ?_)
  congr 1
 ·rw [if_neg, if_neg hc]
  ·refine aZ (by constructor <;> omega) rfl
  ·rintro ⟨⟨h1, h2⟩, h3⟩
   have hm2 : min (bK s k) 4 = bK s k := by omega
   simp only [hm2] at h3 hn
   rw [hn] at h3
   exact hc ⟨by omega, by omega, by omega⟩
theorem aW3 (s : List Nat) (hs : s.length ≤ 1099511627776) (p i : Nat) (hp : p ≤ i) (hi : i ≤ s.length) : kR none s (p : Int) (i : Int) = some ((aDA s i : Int) - (p : Int)) := by
 unfold kR aDA
 have e1 : ((i : Int) + 1).toNat = i + 1 := by omega
 simp only [Int.toNat_natCast, e1]
 refine aZ (fun h => ⟨by omega, by omega⟩) ?_
 by_cases h1 : eO s i 101
 ·have h1' : i < s.length ∧ s.getD i 0 = 101 := h1
  rw [if_pos ⟨by omega, h1'.2⟩, if_pos h1]
  refine aZ (by constructor <;> omega) (aZ (fun _ => by constructor <;> omega) (aZ (fun _ _ => by constructor <;> omega) ?_))
  by_cases h2 : eO s (i + 1) 43 ∨ eO s (i + 1) 45
  ·have h2' : (i + 1 < s.length ∧ s.getD (i + 1) 0 = 43) ∨ (i + 1 < s.length ∧ s.getD (i + 1) 0 = 45) := h2
   rw [if_pos ⟨by omega, by rcases h2' with h | h; exact .inl h.2; exact .inr h.2⟩, if_pos h2]
   refine aZ (by constructor <;> omega) ?_
   have := aS9 s hs p i (i + 2) hp hi (by omega) (by omega)
   rw [show ((i + 2 : Nat) : Int) = (i : Int) + 1 + 1 from by omega] at this
   exact this
  ·have h2' : ¬ ((i + 1 < s.length ∧ s.getD (i + 1) 0 = 43) ∨ (i + 1 < s.length ∧ s.getD (i + 1) 0 = 45)) := h2
   rw [if_neg (by rintro ⟨a, b | b⟩; exact h2' (.inl ⟨by omega, b⟩); exact h2' (.inr ⟨by omega, b⟩)), if_neg h2]
   have := aS9 s hs p i (i + 1) hp hi (by omega) (by omega)
   rw [show ((i + 1 : Nat) : Int) = (i : Int) + 1 from by omega] at this
   exact this
 ·have h1' : ¬ (i < s.length ∧ s.getD i 0 = 101) := h1
  rw [if_neg (fun h => h1' ⟨by omega, h.2⟩), if_neg h1]
  exact aZ (by constructor <;> omega) rfl
theorem aVN (s : List Nat) (i : Nat) : i ≤ aDA s i ∧ (i ≤ s.length → aDA s i ≤ s.length) := by
 unfold aDA
 split
 ·rename_i h
  have h : i < s.length ∧ s.getD i 0 = 101 := h
  split
  ·rename_i h2
   have a := sU s (i + 2)
   have h2 : (i + 1 < s.length ∧ s.getD (i + 1) 0 = 43) ∨ (i + 1 < s.length ∧ s.getD (i + 1) 0 = 45) := h2
   dsimp only
   split <;> constructor <;> intros <;> omega
  ·have a := sU s (i + 1)
   dsimp only
   split <;> constructor <;> intros <;> omega
 ·exact ⟨Nat.le_refl _, id⟩
theorem aW4 (s : List Nat) (hs : s.length ≤ 1099511627776) (p : Nat) (hp : p ≤ s.length) : dH none s (p : Int) = some (xK s p : Int) ∧ p + xK s p ≤ s.length := by
 have hd := sU s p
 have hd2 := sU s (p + bK s p + 1)
 unfold xK
 have key : ∀ i, p ≤ i → i ≤ s.length → kR none s (p : Int) (i : Int) = some ((aDA s i - p : Nat) : Int) ∧ p + (aDA s i - p) ≤ s.length := fun i h1 h2 => by
  have := aVN s i
  have h3 := this.2 h2
  refine ⟨?_, by omega⟩
  rw [aW3 s hs p i h1 h2]
  congr 1; omega
 unfold dH
 by_cases h0 : bK s p = 0
 ·rw [if_pos h0]
  refine ⟨bA (sV s p (by omega) (by omega)) (aZ (by constructor <;> omega) ?_), by omega⟩
  rw [if_pos (by omega)]; rfl
 ·rw [if_neg h0]
  have e1 : ((p : Int) + (bK s p : Int)).toNat = p + bK s p := by omega
  have e2 : ((p : Int) + (bK s p : Int)) = ((p + bK s p : Nat) : Int) := by omega
  by_cases h1 : eO s (p + bK s p) 46
  ·have h1' : p + bK s p < s.length ∧ s.getD (p + bK s p) 0 = 46 := h1
   have e3 := sV s (p + bK s p + 1) (by omega) (by omega)
   rw [show ((p + bK s p + 1 : Nat) : Int) = (p : Int) + (bK s p : Int) + 1 from by omega] at e3
   by_cases h2 : 0 < bK s (p + bK s p + 1)
   ·have kk := key (p + bK s p + 1 + bK s (p + bK s p + 1)) (by omega) (by omega)
    rw [if_pos ⟨h1, h2⟩]
    refine ⟨bA (sV s p (by omega) (by omega)) (aZ (by constructor <;> omega) ?_), kk.2⟩
    rw [if_neg (by omega)]
    refine aZ (fun h => by constructor <;> omega) ?_
    rw [if_pos ⟨by omega, by rw [e1]; exact h1'.2⟩]
    refine aZ (by constructor <;> omega) (bA e3 ?_)
    rw [if_pos (by omega)]
    refine aZ (by constructor <;> omega) (aZ (by constructor <;> omega) ?_)
    have := kk.1
    rw [show ((p + bK s p + 1 + bK s (p + bK s p + 1) : Nat) : Int) = (p : Int) + (bK s p : Int) + 1 + (bK s (p + bK s p + 1) : Int) from by omega] at this
    exact this
   ·have kk := key (p + bK s p) (by omega) (by omega)
    rw [if_neg (fun h => h2 h.2)]
    refine ⟨bA (sV s p (by omega) (by omega)) (aZ (by constructor <;> omega) ?_), kk.2⟩
    rw [if_neg (by omega)]
    refine aZ (fun h => by constructor <;> omega) ?_
    rw [if_pos ⟨by omega, by rw [e1]; exact h1'.2⟩]
    refine aZ (by constructor <;> omega) (bA e3 ?_)
    rw [if_neg (by omega), e2]
    exact kk.1
  ·have h1' : ¬ (p + bK s p < s.length ∧ s.getD (p + bK s p) 0 = 46) := h1
   have kk := key (p + bK s p) (by omega) (by omega)
   rw [if_neg (fun h => h1 h.1)]
   refine ⟨bA (sV s p (by omega) (by omega)) (aZ (by constructor <;> omega) ?_), kk.2⟩
   rw [if_neg (by omega)]
   refine aZ (fun h => by constructor <;> omega) ?_
   rw [if_neg (fun h => h1' ⟨by omega, by rw [e1] at h; exact h.2⟩), e2]
   exact kk.1
end Nu
end Go.Proofs
