import Derived.Test.YtlijgfkkmamanaaGreatDoorZS2
import Derived.Test.YtlijgfkkmamanaaGreatDoorZS1
import Derived.Test.YtlijgfkkmamanaaGreatDoorZL5
import Derived.Shelf.Strings.Search3
import Derived.Shelf.Strings.Cut
import Derived.Shelf.Strings.Split
import Derived.Lib.Builder
import Derived.Lib.AppendZeros
import Derived.Lib.SliceRun
import Derived.WalkKit
import Derived.Lib.Walk
import Derived.Shelf.RegionOpenPlain
set_option linter.unusedVariables false
set_option linter.unusedSimpArgs false
namespace Go.Proofs
open Go.Vc
set_option maxRecDepth 20000
namespace Nu
noncomputable section
set_option maxHeartbeats 4000000
attribute [-go_sem] Ex.kind Ex.text Ex.l
def aAH : ByteArray := ⟨⟨97 :: 98 :: 99 :: 100 :: 101 :: 102 :: 103 :: 104 :: 105 :: 106 :: 107 :: 108 :: 109 :: 110 :: 111 :: 112 :: 113 :: 114 :: 115 :: 116 :: 117 :: 118 :: 119 :: 120 :: 121 :: 122 :: []⟩⟩
@[go_sem]theorem aT1 : (⟨⟨97 :: 98 :: 99 :: 100 :: 101 :: 102 :: 103 :: 104 :: 105 :: 106 :: 107 :: 108 :: 109 :: 110 :: 111 :: 112 :: 113 :: 114 :: 115 :: 116 :: 117 :: 118 :: 119 :: 120 :: 121 :: 122 :: []⟩⟩ : ByteArray) = aAH := rfl
def bL (g : qd → Option (q9 ⊕ qn)) : fT where
 D := qd × (q9 ⊕ qn)
 av := fun d => [.ptr 0 []]
 hp := fun d => [.box 3 (.val qq d.1)]
 m := 1
 pre := fun d => g d.1 = some d.2
 out := fun d => match d.2 with | .inl r => .ret (.val .expr r.1) [.box 3 (.val qq r.2)] | .inr p => .pan ⟨93, qj, p⟩ [.box 3 (.junk)]
def aBb (g : qd → Option (q9 ⊕ qn)) (vs : List AV) (h : List Vc.Obj) : Hit := mkH (g (dU h (gX vs 0) qq)) (.inr ((0 : Int), ())) fun r => ⟨(bL g), [(gX vs 0)], ((dU h (gX vs 0) qq), r)⟩
attribute [go_sem] aBb
attribute [go_sem] bL
def bS (F : Md) (g : qd → Option (q9 ⊕ qn)) (signs_2 : qa) (kinds_3 : (List Int)) (r : qd) (q : Ex) : Option ((qd × Ex) ⊕ (q9 ⊕ qn)) :=
 (eX F signs_2 r).bind (fun b => if ¬ (b.1.2.1 = true) then some (.inr (.inl (q, b.2))) else ck ((aT F signs_2 b.1.1).isSome = true) (ck (0 ≤ ((aT F signs_2 b.1.1).getD (0 : Int)) ∧ ((aT F signs_2 b.1.1).getD (0 : Int)) < (2 : Int)) ((g b.2).bind (fun e => match e with | .inl f => (dL F (kinds_3.getD ((aT F signs_2 b.1.1).getD (0 : Int)).toNat (0 : Int)) (aV ⟨#[]⟩) ([q, f.1] : List Ex) f.2).bind (fun j => some (.inl (j.2, j.1))) | .inr s => some (.inr (.inr s))))))
def bX (F : Md) (g : qd → Option (q9 ⊕ qn)) (signs_2 : qa) (kinds_3 : (List Int)) (f : qd) : Option (q9 ⊕ qn) :=
 (g f).bind (fun e => match e with | .inl b => (dG F (fun d : qd × Ex => bS F g signs_2 kinds_3 d.1 d.2) (b.2, b.1)).bind (fun e => match e with | (.inl e) => some (.inl e) | (.inr e) => some (.inr e)) | .inr j => some (.inr j))
def iU (F : Md) (g : qd → Option (q9 ⊕ qn)) : fT where
 D := qa × (List Int) × qd × (q9 ⊕ qn)
 av := fun d => [.ptr 0 [], .fn 127 [0] [], .val .str d.1, .val ws d.2.1]
 hp := fun d => [.box 3 (.val qq d.2.2.1)]
 m := 1
 pre := fun d => bX F g d.1 d.2.1 d.2.2.1 = some d.2.2.2
 out := fun d => match d.2.2.2 with | .inl r => .ret (.val .expr r.1) [.box 3 (.val qq r.2)] | .inr p => .pan ⟨93, qj, p⟩ [.box 3 (.junk)]
def nV (F : Md) (g : qd → Option (q9 ⊕ qn)) (vs : List AV) (h : List Vc.Obj) : Hit := mkH (bX F g (rD h vs 2 .str) (rD h vs 3 ws) (dU h (gX vs 0) qq)) (.inr ((0 : Int), ())) fun r => ⟨(iU F g), [(gX vs 0)], ((rD h vs 2 .str), (rD h vs 3 ws), (dU h (gX vs 0) qq), r)⟩
attribute [go_sem] nV
def nW (F : Md) (g : qd → Option (q9 ⊕ qn)) : PlR := ⟨[(0, .B [0, 1, 2, 7, 8]), (1, .P [0, 1, 2, 7, 8, 9] []), (2, .P [0, 1, 2, 7, 8, 9, 10, 11] []), (3, .A [0, 1, 2, 7, 8, 9, 10, 22]), (4, .B [8]), (5, .A [0, 1, 2, 7, 8, 9, 12]), (6, .stop)], [], [(124, vC F), (127, (aBb g))]⟩
abbrev oL (F : Md) (g : qd → Option (q9 ⊕ qn)) : List (FuncId × aG) := [(125, (dM F))]
theorem xZ [Mx] (F : Md) (g : qd → Option (q9 ⊕ qn)) (b : GOK Tryz.prog GL 127 (bL g)) : bE Tryz.prog GL (oL F g) := .cons (oK F) xAa (.nil)
attribute [go_sem] nW iU
theorem xB [Mx] (F : Md) (g : qd → Option (q9 ⊕ qn)) (J : GOK Tryz.prog GL 127 (bL g)) : GOK Tryz.prog GL 85 (iU F g) := by
 refine kE (bC (xZ F g J)) mix Tryz.func85 rfl xAa (fun _ => Nat.le_of_ble_eq_true rfl) (nW F g) (fun Z w0 d hw U h hV => ?_) (.cons (fun _ _ => (vD F)) xAa (.cons (fun _ _ => J) xAa (.nil)))
 obtain ⟨(signs_2 : qa), (kinds_3 : (List Int)), (I : qd), r⟩ := d
 have hF := hV.fr
 replace h := kF (show bX F g signs_2 kinds_3 I = some r from h)
 simp only [tP, List.map_cons, List.map_nil, go_sem]
 unfold bX at h
 refine aC h fun e hv h => ?_
 rcases e with L | N
 ·try dsimp only at h
  simp only [hv, go_sem]
  refine bM hV (D := qd × Ex) [2] (fun d => [(0, .ptr 0 []), (1, .fn 127 [0] []), (7, .ptr 1 []), (8, .ptr 2 []), (9, .ptr 3 [])]) (fun d => [.inr (.box 3 (.val qq d.1)), .inr (.box 2 (.val ws kinds_3)), .inr (.box 3 (.val .expr (Ex.mk 0 [] []))), .inr (.box 3 (.val .expr d.2))]) h rfl xAc ?_
  rintro ⟨s, b⟩ Y T2 hA2 hE2 h
  simp only [go_sem]
  replace h : sat (bS F g signs_2 kinds_3 s b) _ := h
  unfold bS at h
  refine aC h fun f hv h => ?_
  simp only [hv, go_sem]
  refine aAF h (fun hc h => ?_) fun hc h => ?_
  ·replace h := yaG (hE2 _ (aA h))
   exact zau
  ·refine aD h fun g0 h => ?_
   refine aD h fun g1 h => (yaE ?_)
   obtain ⟨q0, h, hq⟩ := h
   obtain ⟨e, W, h⟩ := bind_some h
   rcases e with j | z
   ·try dsimp only at h
    obtain ⟨q, O, h⟩ := bind_some h
    try dsimp only at h
    refine sQ hF (eQ (l := [(127, ⟨(bL g), [0], (f.2, .inl j)⟩), (126, ⟨gN F, [0], ((kinds_3.getD ((aT F signs_2 f.1.1).getD (0 : Int)).toNat (0 : Int)), (aV ⟨#[]⟩), ([b, j.1] : List Ex), j.2, q)⟩)]) (.cons J xAa (.cons (lU F) xAa (.nil)))) [] [0, 1, 2, 7, 8, 9] [4, 6, 7] [[0], [12], [9], [1], [32], [31, 33], [29, 30, 34], [9, 35]] [(0, 0), (0, 1), (1, 0), (1, 1), (2, 0), (2, 1), (2, 2), (3, 0), (4, 0), (5, 1), (6, 1), (7, 2)] [.ptr 0 [], .val qc (kinds_3.getD ((aT F signs_2 f.1.1).getD (0 : Int)).toNat (0 : Int)), .val .expr b, .fn 127 [0] [], .val .expr j.1, .full .expr ([b, j.1] : List Ex), .val .expr q.1, .junk] [[.box 3 (.val qq f.2), .box 2 (.val ws kinds_3), .box 3 (.val .expr (Ex.mk 0 [] [])), .box 3 (.val .expr b)], [.box 3 (.val qq j.2), .box 2 (.val ws kinds_3), .box 3 (.val .expr (Ex.mk 0 [] [])), .box 3 (.val .expr b)], [.box 3 (.val qq q.2), .box 2 (.val ws kinds_3), .box 3 (.val .expr (Ex.mk 0 [] [])), .box 3 (.val .expr b)], [.box 3 (.val qq q.2), .box 2 (.val ws kinds_3), .box 3 (.val .expr (Ex.mk 0 [] [])), .box 3 (.val .expr q.1)]] [[(0, .ptr 0 [])], [(12, .val qc (kinds_3.getD ((aT F signs_2 f.1.1).getD (0 : Int)).toNat (0 : Int)))], [(9, .ptr 3 [])], [(1, .fn 127 [0] [])], [(32, .fn 127 [0] [])], [(31, .val .expr b), (33, .val .expr j.1)], [(29, .ptr 0 []), (30, .val qc (kinds_3.getD ((aT F signs_2 f.1.1).getD (0 : Int)).toNat (0 : Int))), (34, .full .expr ([b, j.1] : List Ex))], [(9, .ptr 3 []), (35, .val .expr q.1)]] false xAb rfl rfl ?_ ?_
    ·simp only [go_sem]
     exact zaM
    intro _
    show At _ _ [(0, .ptr 0 []), (1, .fn 127 [0] []), (2, .val .str signs_2), (7, .ptr 1 []), (8, .ptr 2 []), (9, .ptr 3 [])] [.box 3 (.val qq q.2), .box 2 (.val ws kinds_3), .box 3 (.val .expr (Ex.mk 0 [] [])), .box 3 (.val .expr q.1)]
    replace h := pD h hq
    refine aFV hV (yaA ?_)
    exact zas
   ·try dsimp only at h
    refine sQ hF (eQ (l := [(127, ⟨(bL g), [0], (f.2, .inr z)⟩)]) (.cons J xAa (.nil))) [] [0, 1, 2, 7, 8, 9] [4] [[0], [12], [9], [1], [32], [31, 33], [29, 30, 34], [9, 35]] [(0, 0), (1, 0), (2, 0), (3, 0), (4, 0)] [.ptr 0 [], .val qc (kinds_3.getD ((aT F signs_2 f.1.1).getD (0 : Int)).toNat (0 : Int)), .val .expr b, .fn 127 [0] [], .junk, .junk, .junk, .junk] [[.box 3 (.val qq f.2), .box 2 (.val ws kinds_3), .box 3 (.val .expr (Ex.mk 0 [] [])), .box 3 (.val .expr b)]] [[(0, .ptr 0 [])], [(12, .val qc (kinds_3.getD ((aT F signs_2 f.1.1).getD (0 : Int)).toNat (0 : Int)))], [(9, .ptr 3 [])], [(1, .fn 127 [0] [])], [(32, .fn 127 [0] [])], [(31, .val .expr b), (33, .junk)], [(29, .ptr 0 []), (30, .val qc (kinds_3.getD ((aT F signs_2 f.1.1).getD (0 : Int)).toNat (0 : Int))), (34, .junk)], [(9, .ptr 3 []), (35, .junk)]] true xAb rfl rfl ?_ ?_
    rotate_left
    exact fun h => absurd h xAb
    exact zac
 ·try dsimp only at h
  exact zaN
def fQ (F : Md) (g : qd → Option (q9 ⊕ qn)) (b : qd) : Option (q9 ⊕ qn) :=
 (bX F g (aV ⟨#[42, 47]⟩) ([8, 9] : List Int) b).bind (fun e => match e with | .inl r_7 => some (.inl (r_7.1, r_7.2)) | .inr p_8 => some (.inr p_8))
def lV (F : Md) (g : qd → Option (q9 ⊕ qn)) : fT where
 D := qd × (q9 ⊕ qn)
 av := fun d => [.ptr 0 []]
 hp := fun d => [.box 3 (.val qq d.1)]
 m := 1
 pre := fun d => fQ F g d.1 = some d.2
 out := fun d => match d.2 with | .inl r => .ret (.val .expr r.1) [.box 3 (.val qq r.2)] | .inr p => .pan ⟨93, qj, p⟩ [.box 3 (.junk)]
def aBc (F : Md) (g : qd → Option (q9 ⊕ qn)) (vs : List AV) (h : List Vc.Obj) : Hit := mkH (fQ F g (dU h (gX vs 0) qq)) (.inr ((0 : Int), ())) fun r => ⟨(lV F g), [(gX vs 0)], ((dU h (gX vs 0) qq), r)⟩
attribute [go_sem] aBc
def aBd (F : Md) (g : qd → Option (q9 ⊕ qn)) : PlR := ⟨[(0, .B [0, 2]), (1, .P [2] [])], [], [(85, (nV F g))]⟩
abbrev aHO (F : Md) (g : qd → Option (q9 ⊕ qn)) : List (FuncId × aG) := []
theorem aHP [Mx] (F : Md) (g : qd → Option (q9 ⊕ qn)) (b : GOK Tryz.prog GL 127 (bL g)) : bE Tryz.prog GL (aHO F g) := .nil
attribute [go_sem] aBd lV
theorem tU [Mx] (F : Md) (g : qd → Option (q9 ⊕ qn)) (f : GOK Tryz.prog GL 127 (bL g)) : GOK Tryz.prog GL 86 (lV F g) := by
 refine kE (bC (aHP F g f)) mix Tryz.func86 rfl xAa (fun _ => Nat.le_of_ble_eq_true rfl) (aBd F g) (fun q w0 d s j h hV => ?_) (.cons (fun _ _ => (xB F g f)) xAa (.nil))
 obtain ⟨(b : qd), r⟩ := d
 have hF := hV.fr
 replace h := kF (show fQ F g b = some r from h)
 simp only [tP, List.map_cons, List.map_nil, go_sem]
 unfold fQ at h
 refine aC h fun e hv h => ?_
 rcases e with r_7 | p_8
 ·try dsimp only at h
  exact zae
 ·try dsimp only at h
  exact zaN
def gT (F : Md) (g : qd → Option (q9 ⊕ qn)) (signs_2 : qa) (kinds_3 : (List Int)) (r : qd) (q : Ex) : Option ((qd × Ex) ⊕ (q9 ⊕ qn)) :=
 (eX F signs_2 r).bind (fun b => if ¬ (b.1.2.1 = true) then some (.inr (.inl (q, b.2))) else ck ((aT F signs_2 b.1.1).isSome = true) (ck (0 ≤ ((aT F signs_2 b.1.1).getD (0 : Int)) ∧ ((aT F signs_2 b.1.1).getD (0 : Int)) < (2 : Int)) ((fQ F g b.2).bind (fun e => match e with | .inl f => (dL F (kinds_3.getD ((aT F signs_2 b.1.1).getD (0 : Int)).toNat (0 : Int)) (aV ⟨#[]⟩) ([q, f.1] : List Ex) f.2).bind (fun j => some (.inl (j.2, j.1))) | .inr s => some (.inr (.inr s))))))
def dV (F : Md) (g : qd → Option (q9 ⊕ qn)) (signs_2 : qa) (kinds_3 : (List Int)) (f : qd) : Option (q9 ⊕ qn) :=
 (fQ F g f).bind (fun e => match e with | .inl b => (dG F (fun d : qd × Ex => gT F g signs_2 kinds_3 d.1 d.2) (b.2, b.1)).bind (fun e => match e with | (.inl e) => some (.inl e) | (.inr e) => some (.inr e)) | .inr j => some (.inr j))
def iJ (F : Md) (g : qd → Option (q9 ⊕ qn)) : fT where
 D := qa × (List Int) × qd × (q9 ⊕ qn)
 av := fun d => [.ptr 0 [], .fn 86 [0] [], .val .str d.1, .val ws d.2.1]
 hp := fun d => [.box 3 (.val qq d.2.2.1)]
 m := 1
 pre := fun d => dV F g d.1 d.2.1 d.2.2.1 = some d.2.2.2
 out := fun d => match d.2.2.2 with | .inl r => .ret (.val .expr r.1) [.box 3 (.val qq r.2)] | .inr p => .pan ⟨93, qj, p⟩ [.box 3 (.junk)]
def nK (F : Md) (g : qd → Option (q9 ⊕ qn)) (vs : List AV) (h : List Vc.Obj) : Hit := mkH (dV F g (rD h vs 2 .str) (rD h vs 3 ws) (dU h (gX vs 0) qq)) (.inr ((0 : Int), ())) fun r => ⟨(iJ F g), [(gX vs 0)], ((rD h vs 2 .str), (rD h vs 3 ws), (dU h (gX vs 0) qq), r)⟩
attribute [go_sem] nK
def nL (F : Md) (g : qd → Option (q9 ⊕ qn)) : PlR := ⟨[(0, .B [0, 1, 2, 7, 8]), (1, .P [0, 1, 2, 7, 8, 9] []), (2, .P [0, 1, 2, 7, 8, 9, 10, 11] []), (3, .A [0, 1, 2, 7, 8, 9, 10, 22]), (4, .B [8]), (5, .A [0, 1, 2, 7, 8, 9, 12]), (6, .stop)], [], [(86, (aBc F g)), (124, vC F)]⟩
abbrev nX (F : Md) (g : qd → Option (q9 ⊕ qn)) : List (FuncId × aG) := [(125, (dM F))]
theorem xC [Mx] (F : Md) (g : qd → Option (q9 ⊕ qn)) (b : GOK Tryz.prog GL 127 (bL g)) : bE Tryz.prog GL (nX F g) := .cons (oK F) xAa (.nil)
attribute [go_sem] nL iJ
theorem wM [Mx] (F : Md) (g : qd → Option (q9 ⊕ qn)) (J : GOK Tryz.prog GL 127 (bL g)) : GOK Tryz.prog GL 85 (iJ F g) := by
 refine kE (bC (xC F g J)) mix Tryz.func85 rfl xAa (fun _ => Nat.le_of_ble_eq_true rfl) (nL F g) (fun Z w0 d hw U h hV => ?_) (.cons (fun _ _ => (tU F g J)) xAa (.cons (fun _ _ => (vD F)) xAa (.nil)))
 obtain ⟨(signs_2 : qa), (kinds_3 : (List Int)), (I : qd), r⟩ := d
 have hF := hV.fr
 replace h := kF (show dV F g signs_2 kinds_3 I = some r from h)
 simp only [tP, List.map_cons, List.map_nil, go_sem]
 unfold dV at h
 refine aC h fun e hv h => ?_
 rcases e with L | N
 ·try dsimp only at h
  simp only [hv, go_sem]
  refine bM hV (D := qd × Ex) [2] (fun d => [(0, .ptr 0 []), (1, .fn 86 [0] []), (7, .ptr 1 []), (8, .ptr 2 []), (9, .ptr 3 [])]) (fun d => [.inr (.box 3 (.val qq d.1)), .inr (.box 2 (.val ws kinds_3)), .inr (.box 3 (.val .expr (Ex.mk 0 [] []))), .inr (.box 3 (.val .expr d.2))]) h rfl xAc ?_
  rintro ⟨s, b⟩ Y T2 hA2 hE2 h
  simp only [go_sem]
  replace h : sat (gT F g signs_2 kinds_3 s b) _ := h
  unfold gT at h
  refine aC h fun f hv h => ?_
  simp only [hv, go_sem]
  refine aAF h (fun hc h => ?_) fun hc h => ?_
  ·replace h := yaG (hE2 _ (aA h))
   exact zau
  ·refine aD h fun g0 h => ?_
   refine aD h fun g1 h => (yaE ?_)
   obtain ⟨q0, h, hq⟩ := h
   obtain ⟨e, W, h⟩ := bind_some h
   rcases e with j | z
   ·try dsimp only at h
    obtain ⟨q, O, h⟩ := bind_some h
    try dsimp only at h
    refine sQ hF (eQ (l := [(86, ⟨(lV F g), [0], (f.2, .inl j)⟩), (126, ⟨gN F, [0], ((kinds_3.getD ((aT F signs_2 f.1.1).getD (0 : Int)).toNat (0 : Int)), (aV ⟨#[]⟩), ([b, j.1] : List Ex), j.2, q)⟩)]) (.cons (tU F g J) xAa (.cons (lU F) xAa (.nil)))) [] [0, 1, 2, 7, 8, 9] [4, 6, 7] [[0], [12], [9], [1], [32], [31, 33], [29, 30, 34], [9, 35]] [(0, 0), (0, 1), (1, 0), (1, 1), (2, 0), (2, 1), (2, 2), (3, 0), (4, 0), (5, 1), (6, 1), (7, 2)] [.ptr 0 [], .val qc (kinds_3.getD ((aT F signs_2 f.1.1).getD (0 : Int)).toNat (0 : Int)), .val .expr b, .fn 86 [0] [], .val .expr j.1, .full .expr ([b, j.1] : List Ex), .val .expr q.1, .junk] [[.box 3 (.val qq f.2), .box 2 (.val ws kinds_3), .box 3 (.val .expr (Ex.mk 0 [] [])), .box 3 (.val .expr b)], [.box 3 (.val qq j.2), .box 2 (.val ws kinds_3), .box 3 (.val .expr (Ex.mk 0 [] [])), .box 3 (.val .expr b)], [.box 3 (.val qq q.2), .box 2 (.val ws kinds_3), .box 3 (.val .expr (Ex.mk 0 [] [])), .box 3 (.val .expr b)], [.box 3 (.val qq q.2), .box 2 (.val ws kinds_3), .box 3 (.val .expr (Ex.mk 0 [] [])), .box 3 (.val .expr q.1)]] [[(0, .ptr 0 [])], [(12, .val qc (kinds_3.getD ((aT F signs_2 f.1.1).getD (0 : Int)).toNat (0 : Int)))], [(9, .ptr 3 [])], [(1, .fn 86 [0] [])], [(32, .fn 86 [0] [])], [(31, .val .expr b), (33, .val .expr j.1)], [(29, .ptr 0 []), (30, .val qc (kinds_3.getD ((aT F signs_2 f.1.1).getD (0 : Int)).toNat (0 : Int))), (34, .full .expr ([b, j.1] : List Ex))], [(9, .ptr 3 []), (35, .val .expr q.1)]] false xAb rfl rfl ?_ ?_
    ·simp only [go_sem]
     exact zaM
    intro _
    show At _ _ [(0, .ptr 0 []), (1, .fn 86 [0] []), (2, .val .str signs_2), (7, .ptr 1 []), (8, .ptr 2 []), (9, .ptr 3 [])] [.box 3 (.val qq q.2), .box 2 (.val ws kinds_3), .box 3 (.val .expr (Ex.mk 0 [] [])), .box 3 (.val .expr q.1)]
    replace h := pD h hq
    refine aFV hV (yaA ?_)
    exact zas
   ·try dsimp only at h
    refine sQ hF (eQ (l := [(86, ⟨(lV F g), [0], (f.2, .inr z)⟩)]) (.cons (tU F g J) xAa (.nil))) [] [0, 1, 2, 7, 8, 9] [4] [[0], [12], [9], [1], [32], [31, 33], [29, 30, 34], [9, 35]] [(0, 0), (1, 0), (2, 0), (3, 0), (4, 0)] [.ptr 0 [], .val qc (kinds_3.getD ((aT F signs_2 f.1.1).getD (0 : Int)).toNat (0 : Int)), .val .expr b, .fn 86 [0] [], .junk, .junk, .junk, .junk] [[.box 3 (.val qq f.2), .box 2 (.val ws kinds_3), .box 3 (.val .expr (Ex.mk 0 [] [])), .box 3 (.val .expr b)]] [[(0, .ptr 0 [])], [(12, .val qc (kinds_3.getD ((aT F signs_2 f.1.1).getD (0 : Int)).toNat (0 : Int)))], [(9, .ptr 3 [])], [(1, .fn 86 [0] [])], [(32, .fn 86 [0] [])], [(31, .val .expr b), (33, .junk)], [(29, .ptr 0 []), (30, .val qc (kinds_3.getD ((aT F signs_2 f.1.1).getD (0 : Int)).toNat (0 : Int))), (34, .junk)], [(9, .ptr 3 []), (35, .junk)]] true xAb rfl rfl ?_ ?_
    rotate_left
    exact fun h => absurd h xAb
    exact zac
 ·try dsimp only at h
  exact zaN
def jG (F : Md) (g : qd → Option (q9 ⊕ qn)) (b : qd) : Option (q9 ⊕ qn) :=
 (dV F g (aV ⟨#[43, 45]⟩) ([6, 7] : List Int) b).bind (fun e => match e with | .inl r_7 => some (.inl (r_7.1, r_7.2)) | .inr p_8 => some (.inr p_8))
def pO (F : Md) (g : qd → Option (q9 ⊕ qn)) : fT where
 D := qd × (q9 ⊕ qn)
 av := fun d => [.ptr 0 []]
 hp := fun d => [.box 3 (.val qq d.1)]
 m := 1
 pre := fun d => jG F g d.1 = some d.2
 out := fun d => match d.2 with | .inl r => .ret (.val .expr r.1) [.box 3 (.val qq r.2)] | .inr p => .pan ⟨93, qj, p⟩ [.box 3 (.junk)]
def aDM (F : Md) (g : qd → Option (q9 ⊕ qn)) (vs : List AV) (h : List Vc.Obj) : Hit := mkH (jG F g (dU h (gX vs 0) qq)) (.inr ((0 : Int), ())) fun r => ⟨(pO F g), [(gX vs 0)], ((dU h (gX vs 0) qq), r)⟩
attribute [go_sem] aDM
def aDN (F : Md) (g : qd → Option (q9 ⊕ qn)) : PlR := ⟨[(0, .B [0, 2]), (1, .P [2] [])], [], [(85, (nK F g))]⟩
abbrev aLP (F : Md) (g : qd → Option (q9 ⊕ qn)) : List (FuncId × aG) := []
theorem aLQ [Mx] (F : Md) (g : qd → Option (q9 ⊕ qn)) (b : GOK Tryz.prog GL 127 (bL g)) : bE Tryz.prog GL (aLP F g) := .nil
attribute [go_sem] aDN pO
theorem zU [Mx] (F : Md) (g : qd → Option (q9 ⊕ qn)) (f : GOK Tryz.prog GL 127 (bL g)) : GOK Tryz.prog GL 39 (pO F g) := by
 refine kE (bC (aLQ F g f)) mix Tryz.func39 rfl xAa (fun _ => Nat.le_of_ble_eq_true rfl) (aDN F g) (fun q w0 d s j h hV => ?_) (.cons (fun _ _ => (wM F g f)) xAa (.nil))
 obtain ⟨(b : qd), r⟩ := d
 have hF := hV.fr
 replace h := kF (show jG F g b = some r from h)
 simp only [tP, List.map_cons, List.map_nil, go_sem]
 unfold jG at h
 refine aC h fun e hv h => ?_
 rcases e with r_7 | p_8
 ·try dsimp only at h
  exact zae
 ·try dsimp only at h
  exact zaN
def iK (F : Md) (g : qd → Option (q9 ⊕ qn)) (b : qd) : Option (q9 ⊕ qn) :=
 (eL F (aV ⟨#[40]⟩) b).bind (fun e => match e with | .inl r_7 => (jG F g r_7).bind (fun e => match e with | .inl r_13 => (eL F (aV ⟨#[41]⟩) r_13.2).bind (fun e => match e with | .inl f => some (.inl (r_13.1, f)) | .inr j => some (.inr j)) | .inr p_14 => some (.inr p_14)) | .inr p_8 => some (.inr p_8))
def jW (F : Md) (g : qd → Option (q9 ⊕ qn)) : fT where
 D := qd × (q9 ⊕ qn)
 av := fun d => [.ptr 0 []]
 hp := fun d => [.box 3 (.val qq d.1)]
 m := 1
 pre := fun d => iK F g d.1 = some d.2
 out := fun d => match d.2 with | .inl r => .ret (.val .expr r.1) [.box 3 (.val qq r.2)] | .inr p => .pan ⟨93, qj, p⟩ [.box 3 (.junk)]
def aBJ (F : Md) (g : qd → Option (q9 ⊕ qn)) : PlR := ⟨[(0, .B [0, 2]), (1, .P [0, 2] []), (2, .P [0, 2, 3] []), (3, .P [2, 3] []), (4, .B [2])], [], [(39, (aDM F g)), (199, aDd F)]⟩
abbrev aIE (F : Md) (g : qd → Option (q9 ⊕ qn)) : List (FuncId × aG) := []
theorem aIF [Mx] (F : Md) (g : qd → Option (q9 ⊕ qn)) (b : GOK Tryz.prog GL 127 (bL g)) : bE Tryz.prog GL (aIE F g) := .nil
attribute [go_sem] aBJ jW
theorem qA [Mx] (F : Md) (g : qd → Option (q9 ⊕ qn)) (f : GOK Tryz.prog GL 127 (bL g)) : GOK Tryz.prog GL 173 (jW F g) := by
 refine kE (bC (aIF F g f)) mix Tryz.func173 rfl xAa (fun _ => Nat.le_of_ble_eq_true rfl) (aBJ F g) (fun z w0 d I s h hV => ?_) (.cons (fun _ _ => (zU F g f)) xAa (.cons (fun _ _ => (aJA F)) xAa (.nil)))
 obtain ⟨(b : qd), r⟩ := d
 have hF := hV.fr
 replace h := kF (show iK F g b = some r from h)
 simp only [tP, List.map_cons, List.map_nil, go_sem]
 unfold iK at h
 refine aC h fun e hv h => ?_
 rcases e with r_7 | p_8
 ·try dsimp only at h
  simp only [hv, go_sem]
  refine aC h fun e hv h => ?_
  rcases e with r_13 | p_14
  ·try dsimp only at h
   simp only [hv, go_sem]
   refine aC h fun e hv h => ?_
   rcases e with q | j
   ·try dsimp only at h
    exact zae
   ·try dsimp only at h
    exact zaN
  ·try dsimp only at h
   exact zaN
 ·try dsimp only at h
  exact zaN
def iZ (F : Md) (g : qd → Option (q9 ⊕ qn)) (N : qd) : Option (q9 ⊕ qn) :=
 (eX F (aV ⟨#[45]⟩) N).bind (fun b => if b.1.2.1 = true then (g b.2).bind (fun e => match e with | .inl s => (dL F (10 : Int) (aV ⟨#[]⟩) ([s.1] : List Ex) s.2).bind (fun j => some (.inl (j.1, j.2))) | .inr W => some (.inr W)) else if b.2.2.1 = (b.2.1.length : Int) then some (.inr (b.2.2.1, ())) else ck (0 ≤ b.2.2.1 ∧ b.2.2.1 < (b.2.1.length : Int)) (if (b.2.1.getD (b.2.2.1.toNat) (0 : Nat)) = (40 : Nat) then (iK F g b.2).bind (fun e => match e with | .inl q => some (.inl (q.1, q.2)) | .inr U => some (.inr U)) else ck (0 ≤ b.2.2.1 ∧ b.2.2.1 < (b.2.1.length : Int)) (ck ((aT F (aV aAH) (b.2.1.getD (b.2.2.1.toNat) (0 : Nat))).isSome = true) (if ((aT F (aV aAH) (b.2.1.getD (b.2.2.1.toNat) (0 : Nat))).getD (0 : Int)) < (0 : Int) then (kS F b.2).bind (fun e => match e with | .inl z => some (.inl (z.1, z.2)) | .inr O => some (.inr O)) else (mV F b.2).bind (fun f => if (aDW .str (aCU .str (aCU .str (aCU .str ([] : List vE) (aV ⟨#[115, 113, 114]⟩) (11 : Int)) (aV ⟨#[115, 113, 114, 116]⟩) (12 : Int)) (aV ⟨#[101, 120, 112]⟩) (13 : Int)) f.1).isSome = true then (iK F g f.2).bind (fun e => match e with | .inl J => (dL F ((aDW .str (aCU .str (aCU .str (aCU .str ([] : List vE) (aV ⟨#[115, 113, 114]⟩) (11 : Int)) (aV ⟨#[115, 113, 114, 116]⟩) (12 : Int)) (aV ⟨#[101, 120, 112]⟩) (13 : Int)) f.1).getD (0 : Int)) (aV ⟨#[]⟩) ([J.1] : List Ex) J.2).bind (fun I => some (.inl (I.1, I.2))) | .inr L => some (.inr L)) else (dL F (2 : Int) f.1 ([] : List Ex) f.2).bind (fun r => some (.inl (r.1, r.2))))))))
def aBe (F : Md) (g : qd → Option (q9 ⊕ qn)) : fT where
 D := qd × (q9 ⊕ qn)
 av := fun d => [.ptr 0 []]
 hp := fun d => [.box 3 (.val qq d.1)]
 m := 1
 pre := fun d => iZ F g d.1 = some d.2
 out := fun d => match d.2 with | .inl r => .ret (.val .expr r.1) [.box 3 (.val qq r.2)] | .inr p => .pan ⟨93, qj, p⟩ [.box 3 (.junk)]
abbrev wN (F : Md) (g : qd → Option (q9 ⊕ qn)) : List (FuncId × aG) := [(125, (dM F))]
theorem aCd [Mx] (F : Md) (g : qd → Option (q9 ⊕ qn)) (b : GOK Tryz.prog GL 127 (bL g)) : bE Tryz.prog GL (wN F g) := .cons (oK F) xAa (.nil)
theorem aGI [Mx] (F : Md) (g : qd → Option (q9 ⊕ qn)) (z : GOK Tryz.prog GL 127 (bL g)) : GOK Tryz.prog GL 127 (aBe F g) := by
 refine aXj (bC (aCd F g z)) Tryz.func127 rfl xAa (fun _ => Nat.le_of_ble_eq_true rfl) fun c0 w0 d I hw2 h hn => ?_
 have hF : tI ⟨Tryz.prog, EM (wN F g), GM (aBe F g) c0 d, w0, Tryz.f127.ntmps, []⟩ := ⟨bC (aCd F g z), mix⟩
 obtain ⟨(j : qd), r⟩ := d
 replace h : iZ F g j = some r := h
 have I : AV.wfL [.ptr 0 []] := I
 simp only [AV.wfL, AV.wfV, Ty.wf, aHd] at I
 show Tri _ _ _ [(0, .ptr 0 [])] [.box 3 (.val qq j)]
 unfold iZ at h
 refine aO (dT hF [0, 2] (yaA ?_))
 obtain ⟨f, he1, h⟩ := bind_some h
 try dsimp only at h
 refine aQ (aO (aO (cK hF (eQ (l := [(124, ⟨vB F, [0], ((aV ⟨#[45]⟩), j, f)⟩)]) (.cons (vD F) xAa (.nil))) [0, 2, 4] [] (yaD ?_))))
 refine aQ (aO (aS hF [0, 2, 13] (yaA ?_)))
 refine aQ (dC rfl (fun hc => ?_) (fun hc => ?_))
 ·try simp only [go_sem] at hc
  have h := qL zAC h
  obtain ⟨e, he2, h⟩ := bind_some h
  rcases e with q | Y
  ·try dsimp only at h
   obtain ⟨W, he3, h⟩ := bind_some h
   try dsimp only at h
   refine aO (cK hF (eQ (l := [(127, ⟨(bL g), [0], (f.2, .inl q)⟩), (126, ⟨gN F, [0], ((10 : Int), (aV ⟨#[]⟩), ([q.1] : List Ex), q.2, W)⟩)]) (.cons z xAa (.cons (lU F) xAa (.nil)))) [2] [] (yaD ?_))
   obtain rfl := Option.some.inj h
   refine aQ (jS (fM (kV hF [.cell 2 40] [0] rfl rfl rfl rfl rfl rfl rfl rfl rfl ?_)))
   exact zaC
  ·try dsimp only at h
   refine aO (cK hF (eQ (l := [(127, ⟨(bL g), [0], (f.2, .inr Y)⟩)]) (.cons z xAa (.nil))) [2] [] (yaD ?_))
   obtain rfl := Option.some.inj h
   refine iL (iL (bF [0] rfl rfl (yaB ?_)))
   exact zaG
 ·try simp only [go_sem] at hc
  have h := qM zAC h
  refine eJ (aQ (aO (qW (aO (aS hF [0, 2, 19] (yaA ?_))))))
  refine aQ (dC rfl (fun hc => ?_) (fun hc => ?_))
  ·try simp only [go_sem] at hc
   have h := qL zAC h
   refine cK hF (eQ (l := []) (.nil)) [0, 2] [] (yaD ?_)
   obtain rfl := Option.some.inj h
   refine aCq (iL (bF [0] rfl rfl (yaB ?_)))
   exact zaG
  ·try simp only [go_sem] at hc
   have h := qM zAC h
   refine aO (aS hF [0, 2, 36] (yaA ?_))
   obtain ⟨g0, h⟩ := bV h
   repeat (refine ⟨zAA, ?_⟩)
   refine aQ (dC rfl (fun hc => ?_) (fun hc => ?_))
   ·try simp only [go_sem] at hc
    have h := qL zAC h
    obtain ⟨e, he4, h⟩ := bind_some h
    rcases e with N | L
    ·try dsimp only at h
     refine aO (cK hF (eQ (l := [(173, ⟨(jW F g), [0], (f.2, .inl N)⟩)]) (.cons (qA F g z) xAa (.nil))) [2] [] (yaD ?_))
     obtain rfl := Option.some.inj h
     refine aQ (jS (pS (fM (kV hF [.cell 2 40] [0] rfl rfl rfl rfl rfl rfl rfl rfl rfl ?_))))
     exact zaC
    ·try dsimp only at h
     refine aO (cK hF (eQ (l := [(173, ⟨(jW F g), [0], (f.2, .inr L)⟩)]) (.cons (qA F g z) xAa (.nil))) [2] [] (yaD ?_))
     obtain rfl := Option.some.inj h
     refine iL (aCq (iL (bF [0] rfl rfl (yaB ?_))))
     exact zaG
   ·try simp only [go_sem] at hc
    have h := qM zAC h
    refine aO (aS hF [0, 2, 49] (yaA ?_))
    obtain ⟨g0, h⟩ := bV h
    obtain ⟨g1, h⟩ := bV h
    repeat (refine ⟨zAA, ?_⟩)
    refine aQ (dC rfl (fun hc => ?_) (fun hc => ?_))
    ·try simp only [go_sem] at hc
     have h := qL zAC h
     obtain ⟨e, he5, h⟩ := bind_some h
     rcases e with r_32 | J
     ·try dsimp only at h
      refine aO (cK hF (eQ (l := [(174, ⟨pZ F, [0], (f.2, .inl r_32)⟩)]) (.cons (aBI F) xAa (.nil))) [2] [] (yaD ?_))
      obtain rfl := Option.some.inj h
      refine aQ (jS (pS (fM (kV hF [.cell 2 40] [0] rfl rfl rfl rfl rfl rfl rfl rfl rfl ?_))))
      exact zaC
     ·try dsimp only at h
      refine aO (cK hF (eQ (l := [(174, ⟨pZ F, [0], (f.2, .inr J)⟩)]) (.cons (aBI F) xAa (.nil))) [2] [] (yaD ?_))
      obtain rfl := Option.some.inj h
      refine iL (aCq (iL (bF [0] rfl rfl (yaB ?_))))
      exact zaG
    ·try simp only [go_sem] at hc
     have h := qM zAC h
     obtain ⟨b, he6, h⟩ := bind_some h
     try dsimp only at h
     refine eJ (qJ (aQ (aO (cK hF (eQ (l := [(175, ⟨xY F, [0], (f.2, b)⟩)]) (.cons (aJB F) xAa (.nil))) [0, 2, 5] [] (yaD ?_)))))
     refine aQ (aO (aO (dT hF [0, 2, 5, 6, 7] (yaA ?_))))
     refine aQ (aO (aS hF [0, 2, 5, 6, 72] (yaA ?_)))
     refine aQ (dC rfl (fun hc => ?_) (fun hc => ?_))
     ·try simp only [go_sem] at hc
      have h := qL zAC h
      obtain ⟨e, he7, h⟩ := bind_some h
      rcases e with s | Z
      ·try dsimp only at h
       obtain ⟨U, he8, h⟩ := bind_some h
       try dsimp only at h
       refine aO (cK hF (eQ (l := [(173, ⟨(jW F g), [0], (b.2, .inl s)⟩), (126, ⟨gN F, [0], (((aDW .str (aCU .str (aCU .str (aCU .str ([] : List vE) (aV ⟨#[115, 113, 114]⟩) (11 : Int)) (aV ⟨#[115, 113, 114, 116]⟩) (12 : Int)) (aV ⟨#[101, 120, 112]⟩) (13 : Int)) b.1).getD (0 : Int)), (aV ⟨#[]⟩), ([s.1] : List Ex), s.2, U)⟩)]) (.cons (qA F g z) xAa (.cons (lU F) xAa (.nil)))) [2] [] (yaD ?_))
       obtain rfl := Option.some.inj h
       refine aQ (jS (fM (kV hF [.cell 2 40] [0] rfl rfl rfl rfl rfl rfl rfl rfl rfl ?_)))
       exact zaC
      ·try dsimp only at h
       refine aO (cK hF (eQ (l := [(173, ⟨(jW F g), [0], (b.2, .inr Z)⟩)]) (.cons (qA F g z) xAa (.nil))) [2] [] (yaD ?_))
       obtain rfl := Option.some.inj h
       refine iL (iL (bF [0] rfl rfl (yaB ?_)))
       exact zaG
     ·try simp only [go_sem] at hc
      have h := qM zAC h
      obtain ⟨O, he9, h⟩ := bind_some h
      try dsimp only at h
      refine eJ (aQ (aO (cK hF (eQ (l := [(126, ⟨gN F, [0], ((2 : Int), b.1, ([] : List Ex), b.2, O)⟩)]) (.cons (lU F) xAa (.nil))) [2] [] (yaD ?_))))
      obtain rfl := Option.some.inj h
      refine aQ (jS (kV hF [.cell 2 40] [0] rfl rfl rfl rfl rfl rfl rfl rfl rfl ?_))
      exact zaC
def gD (F : Md) : Nat → qd → Option (q9 ⊕ qn)
 | 0 => fun _ => none
 | n + 1 => iZ F (gD F n)
def aBK (F : Md) (n : Nat) : fT where
 D := qd × (q9 ⊕ qn)
 av := fun d => [.ptr 0 []]
 hp := fun d => [.box 3 (.val qq d.1)]
 m := 1
 pre := fun d => gD F n d.1 = some d.2
 out := fun d => match d.2 with | .inl r => .ret (.val .expr r.1) [.box 3 (.val qq r.2)] | .inr p => .pan ⟨93, qj, p⟩ [.box 3 (.junk)]
theorem vF [Mx] (F : Md) : ∀ n, GOK Tryz.prog GL 127 (aBK F n)
 | 0 => fun _ _ _ _ hp _ => absurd (show none = some _ from hp) (by simp)
 | n + 1 => aGI F _ (vF F n)
attribute [go_sem] aBK
end
end Nu
end Go.Proofs
namespace Go.Proofs
open Go.Vc
set_option maxRecDepth 20000
namespace Nu
noncomputable section
set_option maxHeartbeats 4000000
attribute [-go_sem] Ex.kind Ex.text Ex.l
def yA : fT where
 D := Ex × Int × Int × Unit
 av := fun _ => [.ptr 0 [], .ptr 1 [], .ptr 2 []]
 hp := fun d => [.box 3 (.val .expr d.1), .box 1 (.val qc d.2.1), .box 1 (.val qc d.2.2.1)]
 m := 3
 pre := fun _ => True
 out := fun d => .ret (.tup []) [.box 3 (.val .expr d.1), .box 1 (.val qc d.2.1), .box 1 (.val qc d.2.2.1)]
def jH (x : qn) : fT where
 D := Unit
 av := fun _ => [.ptr 0 [], .ptr 1 [], .ptr 2 []]
 hp := fun _ => [.box 3 .junk, .box 1 .junk, .box 1 .junk]
 m := 3
 pre := fun _ => True
 out := fun _ => .ret (.tup []) [.box 3 (.val .expr (Ex.mk 0 [] [])), .box 1 (.val qc (x).1), .box 1 (.val qc (6 : Int))]
theorem aQR [Mx] : DOK Tryz.prog GL 38 none yA := by
 refine aOp (bC aB8) Tryz.func38 rfl xAa (fun _ => Nat.le_of_ble_eq_true rfl) rfl fun c w d b j hp q => ?_
 have hF : tI ⟨Tryz.prog, EM [], GM yA c d, w, Tryz.f38.ntmps, []⟩ := ⟨bC aB8, mix⟩
 obtain ⟨d0, f, g, r⟩ := d
 show vR _ _ _ [(6, .val .nili ()), (0, .ptr 0 []), (1, .ptr 1 []), (2, .ptr 2 [])] [.box 3 (.val .expr d0), .box 1 (.val qc f), .box 1 (.val qc g)] _
 exact zar
theorem aDB [Mx] (x : qn) : DOK Tryz.prog GL 38 (some ⟨93, qj, x⟩) (jH x) := by
 refine aOp (bC aB8) Tryz.func38 rfl xAa (fun _ => Nat.le_of_ble_eq_true rfl) rfl fun c w d b f hp g => ?_
 have hF : tI ⟨Tryz.prog, EM [], GM (jH x) c d, w, Tryz.f38.ntmps, []⟩ := ⟨bC aB8, mix⟩
 show vR _ _ _ [(6, .val (.ifc 93 qj) x), (0, .ptr 0 []), (1, .ptr 1 []), (2, .ptr 2 [])] [.box 3 .junk, .box 1 .junk, .box 1 .junk] _
 simp only [go_sem]
 refine aO (aS hF [0, 1, 2, 3, 10] (yaA ?_))
 refine aQ (dC rfl (fun hc => ?_) (fun hc => absurd hc xAb))
 refine aFt hF [] [] [.box 3 (.val .expr (Ex.mk 0 [] [])), .box 1 (.val qc (x).1), .box 1 (.val qc (6 : Int)), .box 1 (.val qj x)] xAb ?_ ?_
 ·simp only [go_sem]
  exact zaV
 refine iI [0, 1, 2] rfl rfl (yaB ?_)
 exact zaZ
def jX (F : Md) (g : qa) : Option (Ex × (Int × qn)) :=
 (jG F (gD F 1100) (g, (0 : Int), (0 : Int), ())).bind (fun e => match e with | .inl b => (iD F b.2).bind (fun f => if f.2.1 < (g.length : Int) then some ((Ex.mk 0 [] []), (f.2.1, ()).1, (6 : Int), ()) else ck ((oI F b.1).isSome = true) (if ¬ (((oI F b.1).getD false) = true) then some ((Ex.mk 0 [] []), ((0 : Int), ()).1, (6 : Int), ()) else some (b.1, (0 : Int), (0 : Int), ()))) | .inr j => some ((Ex.mk 0 [] []), (j).1, (6 : Int), ()))
@[go_sem]def aEh : Ty := .pair .str .unit
def wH (F : Md) : aG := mSpec aEh (.tup (.pair .expr wc)) (fun x => jX F x.1)
abbrev aEi (F : Md) : List (FuncId × aG) := [(41, (yP F))]
theorem aNr [Mx] (F : Md) : bE Tryz.prog GL (aEi F) := .cons (aNn F) xAa (.nil)
theorem aK5 [Mx] (F : Md) : FOK Tryz.prog GL 13 (wH F) := by
 refine aHm (bC (aNr F)) Tryz.func13 rfl xAa xAb fun w0 S x r s h => ?_
 have hF : tI (fr Tryz.prog (EM (aEi F)) S w0 Tryz.f13.ntmps) := ⟨bC (aNr F), mix⟩
 obtain ⟨(f : qa), u⟩ := x
 simp only [aEh, Ty.wf, aHd] at s
 simp only [bT, aEh]
 try dsimp only at h
 replace h : jX F f = some r := h
 unfold jX at h
 refine aO (dT hF [0, 2, 3, 4] (yaA ?_))
 refine aQ (aCA 3 [0, 1, 2] rfl rfl (Nat.zero_le _) xAb fun roots hroots => (yaA ?_))
 have hF : tI { fr Tryz.prog (EM (aEi F)) S w0 Tryz.f13.ntmps with M := ⟨nothing, S, 3, roots⟩, ds := [⟨.fn (.func 38) ([0, 1, 2].map roots).toArray, #[]⟩] } := ⟨hF.env, mix⟩
 refine aO (dT hF [0, 2, 3, 4, 5] (yaA ?_))
 obtain ⟨e, z, h⟩ := bind_some h
 rcases e with j | g
 ·try dsimp only at h
  refine aQ (aO (cK hF (eQ (l := [(39, ⟨(pO F (gD F 1100)), [3], ((f, (0 : Int), (0 : Int), ()), .inl j)⟩)]) (.cons (zU F _ (vF F 1100)) xAa (.nil))) [0, 2, 3, 4, 5] [] (yaD ?_)))
  obtain ⟨b, q, h⟩ := bind_some h
  try dsimp only at h
  refine aQ (aO (aO (cK hF (eQ (l := [(40, ⟨sV F, [3], (j.2, b)⟩)]) (.cons (aDc F) xAa (.nil))) [0, 2, 3, 4, 5] [] (yaD ?_))))
  refine aQ (aO (aS hF [2, 3, 4, 5, 20] (yaA ?_)))
  refine aQ (dC rfl (fun hc => ?_) (fun hc => ?_))
  ·try simp only [go_sem] at hc
   have h := qL zAC h
   refine cK hF (eQ (l := []) (.nil)) [2, 3, 4] [] (yaD ?_)
   obtain rfl := Option.some.inj h
   refine iL (aJ (aI 0 rfl aE) ?_)
   refine aJ (aI 1 rfl aE) ?_
   refine aJ (aI 2 rfl aE) (yaA ?_)
   refine aDZ (fn := Tryz.f13) (k := 3) (l2 := [0, 1, 2]) hF rfl rfl xAb rfl (uR xAa) ⟨jH (b.2.1, ()), [0, 1, 2], ()⟩ (aDB (b.2.1, ())) rfl [.cell 2 40, .cell 3 3, .cell 4 3] rfl ?_ ?_
   ·(simp only [jH, go_sem]) <;> first | decide | trivial
   ·(simp only [jH, aR, nH, go_sem]) <;> first | decide | trivial | rfl | (simp; done)
  ·try simp only [go_sem] at hc
   have h := qM zAC h
   refine eJ (aQ (aO (aO (aS hF [2, 3, 4, 29] (yaA ?_)))))
   obtain ⟨g0, h⟩ := bV h
   repeat (refine ⟨zAA, ?_⟩)
   refine aQ (dC rfl (fun hc => ?_) (fun hc => ?_))
   ·try simp only [go_sem] at hc
    have h := qL zAC h
    refine cK hF (eQ (l := []) (.nil)) [2, 3, 4] [] (yaD ?_)
    obtain rfl := Option.some.inj h
    refine iL (aJ (aI 0 rfl aE) ?_)
    refine aJ (aI 1 rfl aE) ?_
    refine aJ (aI 2 rfl aE) (yaA ?_)
    refine aDZ (fn := Tryz.f13) (k := 3) (l2 := [0, 1, 2]) hF rfl rfl xAb rfl (uR xAa) ⟨jH ((0 : Int), ()), [0, 1, 2], ()⟩ (aDB ((0 : Int), ())) rfl [.cell 2 40, .cell 3 3, .cell 4 3] rfl ?_ ?_
    ·(simp only [jH, go_sem]) <;> first | decide | trivial
    ·(simp only [jH, aR, nH, go_sem]) <;> first | decide | trivial | rfl | (simp; done)
   ·try simp only [go_sem] at hc
    have h := qM zAC h
    refine eJ (aQ (aO (dT hF [2, 3, 4] (yaA ?_))))
    obtain rfl := Option.some.inj h
    refine aQ (jS (aRh (fn := Tryz.f13) (k := 3) (l2 := [0, 1, 2]) hF rfl rfl xAb rfl (uR xAa) ⟨yA, [0, 1, 2], (j.1, (0 : Int), (0 : Int), ())⟩ aQR rfl [.cell 2 40, .cell 3 3, .cell 4 3] rfl ?_ ?_))
    ·(simp only [yA, go_sem]) <;> first | decide | trivial
    ·(simp only [yA, aR, nH, go_sem]) <;> first | decide | trivial | rfl | (simp; done)
 ·try dsimp only at h
  refine aQ (aO (cK hF (eQ (l := [(39, ⟨(pO F (gD F 1100)), [3], ((f, (0 : Int), (0 : Int), ()), .inr g)⟩)]) (.cons (zU F _ (vF F 1100)) xAa (.nil))) [0, 2, 3, 4, 5] [] (yaD ?_)))
  obtain rfl := Option.some.inj h
  refine iL (aJ (aI 0 rfl aE) ?_)
  refine aJ (aI 1 rfl aE) ?_
  refine aJ (aI 2 rfl aE) (yaA ?_)
  refine aDZ (fn := Tryz.f13) (k := 3) (l2 := [0, 1, 2]) hF rfl rfl xAb rfl (uR xAa) ⟨jH (g), [0, 1, 2], ()⟩ (aDB (g)) rfl [.cell 2 40, .cell 3 3, .cell 4 3] rfl ?_ ?_
  ·(simp only [jH, go_sem]) <;> first | decide | trivial
  ·(simp only [jH, aR, nH, go_sem]) <;> first | decide | trivial | rfl | (simp; done)
attribute [go_sem] wH
end
end Nu
end Go.Proofs
namespace Go.Proofs
open Go.Shelf
def Tryz.lays143_ren : Go.Shelf.Ren := ⟨fun | 143 => 90 | 219 => 91 | 217 => 132 | 225 => 133 | 224 => 134 | 267 => 135 | 266 => 177 | 314 => 178 | n => n, fun | 9 => 9 | 3 => 3 | 4 => 4 | 5 => 5 | 46 => 179 | 146 => 221 | 51 => 220 | n => n, fun | 1 => 0 | n => n⟩
theorem Tryz.lays143 : Go.Proofs.Lays.n143 Tryz.prog Tryz.lays143_ren := {
 mixed := by kernel_rfl
 f143 := Tryz.func90.trans (congrArg some (by kernel_rfl))
 f217 := Tryz.func132.trans (congrArg some (by kernel_rfl))
 f219 := Tryz.func91.trans (congrArg some (by kernel_rfl))
 f224 := Tryz.func134.trans (congrArg some (by kernel_rfl))
 f225 := Tryz.func133.trans (congrArg some (by kernel_rfl))
 f266 := Tryz.func177.trans (congrArg some (by kernel_rfl))
 f267 := Tryz.func135.trans (congrArg some (by kernel_rfl))
 f314 := Tryz.func178.trans (congrArg some (by kernel_rfl))
 t3 := Tryz.underlying3
 a3 := Tryz.isAgg3
 z3 := Tryz.sizeOf3
 v3 := Tryz.zeroValue3
 t4 := Tryz.underlying4
 a4 := Tryz.isAgg4
 z4 := Tryz.sizeOf4
 v4 := Tryz.zeroValue4
 t5 := Tryz.underlying5
 a5 := Tryz.isAgg5
 z5 := Tryz.sizeOf5
 v5 := Tryz.zeroValue5
 t9 := Tryz.underlying9
 a9 := Tryz.isAgg9
 z9 := Tryz.sizeOf9
 v9 := Tryz.zeroValue9
 t46 := Tryz.underlying179
 a46 := Tryz.isAgg179
 z46 := Tryz.sizeOf179
 v46 := Tryz.zeroValue179
 t51 := Tryz.underlying220
 a51 := Tryz.isAgg220
 z51 := Tryz.sizeOf220
 v51 := Tryz.zeroValue220
 t146 := Tryz.underlying221
 a146 := Tryz.isAgg221
 z146 := Tryz.sizeOf221
 v146 := Tryz.zeroValue221
 g1 := by kernel_rfl }
def Tryz.lays145_ren : Go.Shelf.Ren := ⟨fun | 145 => 17 | 220 => 43 | 219 => 91 | 217 => 132 | 225 => 133 | 224 => 134 | 267 => 135 | 266 => 177 | 314 => 178 | n => n, fun | 9 => 9 | 4 => 4 | 59 => 48 | 3 => 3 | 5 => 5 | 46 => 179 | 146 => 221 | 51 => 220 | n => n, fun | 1 => 0 | n => n⟩
theorem Tryz.lays145 : Go.Proofs.Lays.n145 Tryz.prog Tryz.lays145_ren := {
 mixed := by kernel_rfl
 f145 := Tryz.func17.trans (congrArg some (by kernel_rfl))
 f217 := Tryz.func132.trans (congrArg some (by kernel_rfl))
 f219 := Tryz.func91.trans (congrArg some (by kernel_rfl))
 f220 := Tryz.func43.trans (congrArg some (by kernel_rfl))
 f224 := Tryz.func134.trans (congrArg some (by kernel_rfl))
 f225 := Tryz.func133.trans (congrArg some (by kernel_rfl))
 f266 := Tryz.func177.trans (congrArg some (by kernel_rfl))
 f267 := Tryz.func135.trans (congrArg some (by kernel_rfl))
 f314 := Tryz.func178.trans (congrArg some (by kernel_rfl))
 t3 := Tryz.underlying3
 a3 := Tryz.isAgg3
 z3 := Tryz.sizeOf3
 v3 := Tryz.zeroValue3
 t4 := Tryz.underlying4
 a4 := Tryz.isAgg4
 z4 := Tryz.sizeOf4
 v4 := Tryz.zeroValue4
 t5 := Tryz.underlying5
 a5 := Tryz.isAgg5
 z5 := Tryz.sizeOf5
 v5 := Tryz.zeroValue5
 t9 := Tryz.underlying9
 a9 := Tryz.isAgg9
 z9 := Tryz.sizeOf9
 v9 := Tryz.zeroValue9
 t46 := Tryz.underlying179
 a46 := Tryz.isAgg179
 z46 := Tryz.sizeOf179
 v46 := Tryz.zeroValue179
 t51 := Tryz.underlying220
 a51 := Tryz.isAgg220
 z51 := Tryz.sizeOf220
 v51 := Tryz.zeroValue220
 t59 := Tryz.underlying48
 a59 := Tryz.isAgg48
 z59 := Tryz.sizeOf48
 v59 := Tryz.zeroValue48
 t146 := Tryz.underlying221
 a146 := Tryz.isAgg221
 z146 := Tryz.sizeOf221
 v146 := Tryz.zeroValue221
 g1 := by kernel_rfl }
def Tryz.lays146_ren : Go.Shelf.Ren := ⟨fun | 146 => 16 | 221 => 42 | 268 => 88 | 138 => 89 | 143 => 90 | 195 => 129 | 197 => 130 | 218 => 131 | 219 => 91 | 260 => 176 | 217 => 132 | 225 => 133 | 224 => 134 | 267 => 135 | 266 => 177 | 314 => 178 | n => n, fun | 9 => 9 | 31 => 22 | 3 => 3 | 4 => 4 | 0 => 0 | 105 => 154 | 21 => 21 | 5 => 5 | 46 => 179 | 119 => 239 | 139 => 242 | 138 => 241 | 146 => 221 | 51 => 220 | n => n, fun | 1 => 0 | 3 => 2 | 4 => 3 | n => n⟩
theorem Tryz.lays146 : Go.Proofs.Lays.n146 Tryz.prog Tryz.lays146_ren := {
 mixed := by kernel_rfl
 f138 := Tryz.func89.trans (congrArg some (by kernel_rfl))
 f143 := Tryz.func90.trans (congrArg some (by kernel_rfl))
 f146 := Tryz.func16.trans (congrArg some (by kernel_rfl))
 f195 := Tryz.func129.trans (congrArg some (by kernel_rfl))
 f197 := Tryz.func130.trans (congrArg some (by kernel_rfl))
 f217 := Tryz.func132.trans (congrArg some (by kernel_rfl))
 f218 := Tryz.func131.trans (congrArg some (by kernel_rfl))
 f219 := Tryz.func91.trans (congrArg some (by kernel_rfl))
 f221 := Tryz.func42.trans (congrArg some (by kernel_rfl))
 f224 := Tryz.func134.trans (congrArg some (by kernel_rfl))
 f225 := Tryz.func133.trans (congrArg some (by kernel_rfl))
 f260 := Tryz.func176.trans (congrArg some (by kernel_rfl))
 f266 := Tryz.func177.trans (congrArg some (by kernel_rfl))
 f267 := Tryz.func135.trans (congrArg some (by kernel_rfl))
 f268 := Tryz.func88.trans (congrArg some (by kernel_rfl))
 f314 := Tryz.func178.trans (congrArg some (by kernel_rfl))
 t0 := Tryz.underlying0
 a0 := Tryz.isAgg0
 z0 := Tryz.sizeOf0
 v0 := Tryz.zeroValue0
 t3 := Tryz.underlying3
 a3 := Tryz.isAgg3
 z3 := Tryz.sizeOf3
 v3 := Tryz.zeroValue3
 t4 := Tryz.underlying4
 a4 := Tryz.isAgg4
 z4 := Tryz.sizeOf4
 v4 := Tryz.zeroValue4
 t5 := Tryz.underlying5
 a5 := Tryz.isAgg5
 z5 := Tryz.sizeOf5
 v5 := Tryz.zeroValue5
 t9 := Tryz.underlying9
 a9 := Tryz.isAgg9
 z9 := Tryz.sizeOf9
 v9 := Tryz.zeroValue9
 t21 := Tryz.underlying21
 a21 := Tryz.isAgg21
 z21 := Tryz.sizeOf21
 v21 := Tryz.zeroValue21
 t31 := Tryz.underlying22
 a31 := Tryz.isAgg22
 z31 := Tryz.sizeOf22
 v31 := Tryz.zeroValue22
 t46 := Tryz.underlying179
 a46 := Tryz.isAgg179
 z46 := Tryz.sizeOf179
 v46 := Tryz.zeroValue179
 t51 := Tryz.underlying220
 a51 := Tryz.isAgg220
 z51 := Tryz.sizeOf220
 v51 := Tryz.zeroValue220
 t105 := Tryz.underlying154
 a105 := Tryz.isAgg154
 z105 := Tryz.sizeOf154
 v105 := Tryz.zeroValue154
 t119 := Tryz.underlying239
 a119 := Tryz.isAgg239
 z119 := Tryz.sizeOf239
 t138 := Tryz.underlying241
 a138 := Tryz.isAgg241
 z138 := Tryz.sizeOf241
 v138 := Tryz.zeroValue241
 t139 := Tryz.underlying242
 a139 := Tryz.isAgg242
 z139 := Tryz.sizeOf242
 v139 := Tryz.zeroValue242
 t146 := Tryz.underlying221
 a146 := Tryz.isAgg221
 z146 := Tryz.sizeOf221
 v146 := Tryz.zeroValue221
 g1 := by kernel_rfl
 g3 := by kernel_rfl
 g4 := by kernel_rfl }
open Go.Vc
set_option maxRecDepth 20000
namespace Nu
noncomputable section
def aNs (sub : List Nat) : List Nat → Option Nat
 | [] => if sub.isEmpty then some 0 else none
 | b :: l => if sub.isPrefixOf (b :: l) then some 0 else match aNs sub l with
  | none => none
  | some i => some (i + 1)
def aWj (sep : List Nat) : Nat → List Nat → List qa
 | 0, s => [s]
 | k + 1, s => match aNs sep s with
  | none => [s]
  | some i => s.take i :: aWj sep k (s.drop (i + sep.length))
def aJC (s sub : List Nat) : Int := match aNs sub s with
 | none => -1
 | some i => (i : Int)
def aAI (s sep : List Nat) : List Nat × List Nat × Bool × Unit := match aNs sep s with
 | none => (s, [], false, ())
 | some i => (s.take i, s.drop (i + sep.length), true, ())
def aAJ (s sep : List Nat) : List qa := aWj sep s.length s
abbrev nts (l : List UInt8) : List Nat := l.map (·.toNat)
theorem aSZ : ∀ (t s : List UInt8), (nts t).isPrefixOf (nts s) = t.isPrefixOf s
 | [], s => by cases s <;> rfl
 | a :: t, [] => rfl
 | a :: t, b :: s => by
  have f := aSZ t s
  simp only [nts, List.map_cons, List.isPrefixOf] at f ⊢
  rw [f]
  congr 1
  by_cases h : a = b
  ·subst h; simp
  ·have : a.toNat ≠ b.toNat := fun e => h (UInt8.toNat_inj.1 e)
   rw [beq_false_of_ne h, beq_false_of_ne this]
theorem aKo (t : List UInt8) : ∀ s : List UInt8, Lib.index s t = match aNs (nts t) (nts s) with
  | none => -1
  | some i => (i : Int)
 | [] => by
  cases t <;> rfl
 | b :: s => by
  have f := aKo t s
  have e := aSZ t (b :: s)
  simp only [nts, List.map_cons] at e f ⊢
  rw [Lib.index, aNs, e]
  by_cases hp : t.isPrefixOf (b :: s) = true
  ·simp [hp]
  ·rw [if_neg hp, if_neg hp, f]
   cases aNs (t.map (·.toNat)) (s.map (·.toNat)) with
   | none => rfl
   | some i =>
    have : ((i : Int) == -1) = false := by
     rw [beq_eq_false_iff_ne]; omega
    simp only [this]
    simp
theorem aS0 (t : List UInt8) (ht : t ≠ []) : ∀ (k : Nat) (s : List UInt8), Lib.count s t ≤ k → (Lib.splitK t 0 (Lib.count s t) s).map nts = aWj (nts t) k (nts s)
 | k, s, g => by
  have hi := aKo t s
  cases b : aNs (nts t) (nts s) with
  | none =>
   rw [b] at hi
   rw [Lib.count_miss hi]
   cases k with
   | zero => rfl
   | succ k => rw [aWj, b]; rfl
  | some i =>
   rw [b] at hi
   have hc := Lib.count_hit ht hi
   cases k with
   | zero => omega
   | succ k =>
    have f := aS0 t ht k (s.drop (i + t.length)) (by omega)
    rw [aWj, b, hc, Nat.add_comm 1, Lib.splitK]
    have hi : Lib.index s t = (i : Int) := hi
    have : (Lib.index s t == -1) = false := by rw [hi, beq_eq_false_iff_ne]; omega
    rw [this, hi]
    simp only [Bool.false_eq_true, if_false, List.map_cons, Int.toNat_natCast, Nat.add_zero]
    rw [f]
    simp [nts, List.map_take, List.map_drop]
def aT2 (s sep : List Nat) : Prop := s.length < 4294967281 ∧ 1 ≤ sep.length
instance (s sep : List Nat) : Decidable (aT2 s sep) := by unfold aT2; infer_instance
theorem aO3 [Mx] {S : Nat → Prop} {w : World} [Mx] (q : sG GL S w) : w.cell? ⟨0, 0, none⟩ = some (.int .i64 Mx.v) := by
 have h := (q 0).1
 rw [GLm] at h
 simp only [aM] at h
 obtain ⟨b, off, ds, g, r, f, j⟩ := h
 simp only [Value.cells, List.cons.injEq, and_true] at g
 cases g
 simp only [bB] at f
 exact j 0 (.int .i64 Mx.v) (by rw [f.1]; rfl)
theorem aO4 {w : World} {S : Nat → Prop} {vs : Array Value} {a b : List Nat} (h : qI w S qf (a, b, ()) vs.toList) : ∃ s t : ByteArray, vs = #[.string s, .string t] ∧ aV s = a ∧ aV t = b := by
 obtain ⟨v1, r1, e1, j, I, r, q, g, f⟩ := h
 have f : r = [] := f
 have j : bB w S .str a [v1] := j
 have g : bB w S .str b [I] := g
 obtain ⟨s, z, hs, _⟩ := j
 obtain ⟨t, J, ht, _⟩ := g
 refine ⟨s, t, ?_, hs, ht⟩
 rw [← Array.toList_inj, e1, q, f, (List.cons.inj z).1, (List.cons.inj J).1]
theorem bAz {w : World} {S : Nat → Prop} {l : List UInt8} (b : l.length ≤ maxLen) : dE w S .str (l.map (·.toNat)) (.string ⟨l.toArray⟩) := by
 unfold dE
 rw [if_neg (by simp [Ty.isAgg])]
 exact ⟨_, rfl, by simp [aV], b⟩
def aIh : Ty := .pair .str wj
def yR : aG := ⟨aIh, .one qc, fun x => aT2 x.1 x.2.1, fun x => aJC x.1 x.2.1⟩
attribute [go_sem] yR aIh
theorem aO5 [Mx] : FOK Tryz.prog GL 90 yR := by
 rintro w S L ⟨(a : List Nat), (b : List Nat), u⟩ O I z ⟨j, N⟩
 have j : a.length < 4294967281 := j
 obtain ⟨s, t, rfl, hs, ht⟩ := aO4 z
 have g : s.size < 4294967281 := by
  have : s.size = a.length := by rw [← hs]; simp [aV]
  omega
 refine Calls.mono (f := 90) (Any.strings_Index Tryz.lays143 s t Mx.v w g (aO3 I)) ?_
 rintro e w' ⟨rfl, rfl⟩
 refine ⟨_, rfl, .refl _ _, ?_⟩
 show dE w' _ qc (aJC a b) _
 unfold dE
 rw [if_neg (by simp [Ty.isAgg])]
 have q : aJC a b = Lib.index s.data.toList t.data.toList := by
  subst hs ht
  exact (aKo t.data.toList s.data.toList).symm
 rw [q]
 refine ⟨rfl, rfl, ?_, ?_⟩
 ·have hm : IntKind.i64.min = -9223372036854775808 := by decide
  have := Lib.index_ge s.data.toList t.data.toList
  show (IntKind.i64.min : Int) ≤ Lib.index s.data.toList t.data.toList
  rw [hm]; omega
 ·have hm : IntKind.i64.max = 9223372036854775807 := by decide
  have r : ∀ (l m : List UInt8), Lib.index l m ≤ l.length := fun l m => by
   induction l with
   | nil => unfold Lib.index; split <;> decide
   | cons b l J =>
    unfold Lib.index
    split
    ·simp; omega
    ·split
     ·simp; omega
     ·simp; omega
  have := r s.data.toList t.data.toList
  have e : s.data.toList.length = s.size := rfl
  show (Lib.index s.data.toList t.data.toList : Int) ≤ IntKind.i64.max
  rw [hm]; omega
def aK6 : Ty := .pair .str wj
def oM : aG := ⟨aK6, .tup (.pair .str (.pair .str ww)), fun x => aT2 x.1 x.2.1, fun x => aAI x.1 x.2.1⟩
attribute [go_sem] oM aK6
theorem aEU [Mx] : FOK Tryz.prog GL 17 oM := by
 rintro w S J ⟨(a : List Nat), (b : List Nat), u⟩ N I z ⟨r, L⟩
 have r : a.length < 4294967281 := r
 obtain ⟨s, t, rfl, hs, ht⟩ := aO4 z
 have q : s.size < 4294967281 := by
  have : s.size = a.length := by rw [← hs]; simp [aV]
  omega
 refine Calls.mono (f := 17) (Any.strings_Cut Tryz.lays145 s t Mx.v w q (aO3 I)) ?_
 rintro e w' ⟨rfl, n, rfl⟩
 have g : (Lib.cut s.data.toList t.data.toList).1.length ≤ s.size ∧ (Lib.cut s.data.toList t.data.toList).2.1.length ≤ s.size := by
  have e : s.data.toList.length = s.size := rfl
  unfold Lib.cut
  split
  ·simp only [List.length_take, List.length_drop, e]; omega
  ·simp only [List.length_nil, e]; omega
 have hm : s.size ≤ maxLen := by unfold maxLen; omega
 refine ⟨_, rfl, ⟨rfl, rfl, rfl, Nat.le_refl _, fun _ _ _ => rfl⟩, [_, _, _], rfl, ?_⟩
 show qI _ _ (.pair .str (.pair .str ww)) (aAI a b) _
 have j : aAI a b = (nts (Lib.cut s.data.toList t.data.toList).1, nts (Lib.cut s.data.toList t.data.toList).2.1, (Lib.cut s.data.toList t.data.toList).2.2, ()) := by
  subst hs ht
  have hi := aKo t.data.toList s.data.toList
  show aAI (nts s.data.toList) (nts t.data.toList) = _
  unfold aAI Lib.cut
  cases j : aNs (nts t.data.toList) (nts s.data.toList) with
  | none => rw [j] at hi; replace hi : Lib.index s.data.toList t.data.toList = -1 := hi; rw [if_neg (by omega)]; rfl
  | some i => rw [j] at hi; replace hi : Lib.index s.data.toList t.data.toList = (i : Int) := hi; rw [if_pos (by omega)]; simp [hi, nts, List.map_take, List.map_drop]
 rw [j]
 exact ⟨_, _, rfl, bAz (Nat.le_trans g.1 hm), _, _, rfl, bAz (Nat.le_trans g.2 hm), _, _, rfl, by unfold dE; rw [if_neg (by simp [Ty.isAgg])]; rfl, rfl⟩
theorem aQd (sep : ByteArray) : ∀ (k : Nat) (s x : ByteArray), x ∈ Lib.splitB sep 0 k s → x.size ≤ s.size
 | 0, s, x, h => by
  rw [Lib.splitB] at h
  rw [List.mem_singleton.1 h]
  exact Nat.le_refl _
 | k + 1, s, x, h => by
  rw [Lib.splitB] at h
  split at h
  ·rw [List.mem_singleton.1 h]; exact Nat.le_refl _
  ·rcases List.mem_cons.1 h with rfl | h
   ·rw [ByteArray.size_extract]; omega
   ·refine Nat.le_trans (aQd sep k _ x h) ?_
    rw [ByteArray.size_extract]; omega
def aIi : Ty := .pair .str wj
def yS : aG := ⟨aIi, .one wi, fun x => aT2 x.1 x.2.1, fun x => aAJ x.1 x.2.1⟩
attribute [go_sem] yS aIi
theorem aO6 [Mx] : FOK Tryz.prog GL 16 yS := by
 rintro w S vs ⟨(a : List Nat), (b : List Nat), u⟩ hS hG ha ⟨O, U⟩
 have O : a.length < 4294967281 := O
 have U : 1 ≤ b.length := U
 obtain ⟨s, t, rfl, hs, ht⟩ := aO4 ha
 have hsz : s.size = a.length := by rw [← hs]; simp [aV]
 have Z : t.size = b.length := by rw [← ht]; simp [aV]
 have g := Lib.splitB_all t (by omega) 0 _ s rfl
 have J : Lib.countB s t ≤ s.size := Lib.countB_le t (by omega) s.size s (Nat.le_refl _)
 refine Calls.mono (f := 16) (Any.strings_Split Tryz.lays146 (by rfl) s t Mx.v w (by omega) (aO3 hG) (by omega)) ?_
 rintro e w' ⟨rfl, rfl⟩
 refine ⟨_, rfl, jC.alloc nothing w _, ?_⟩
 show dE _ _ wi (aAJ a b) _
 unfold dE
 rw [if_neg (by simp [Ty.isAgg])]
 have W : aAJ a b = (Lib.splitB t 0 (Lib.countB s t) s).map aV := by
  have Y : 1 ≤ t.size := by omega
  have I : t.data.toList ≠ [] := fun e => by
   have e2 : t.data.toList.length = t.size := rfl
   rw [e, List.length_nil] at e2
   omega
  have h1 := Lib.splitB_data t 0 (Lib.countB s t) s
  have h2 := aS0 t.data.toList I s.size s.data.toList J
  subst hs ht
  have e : (aV s).length = s.size := by simp [aV]
  unfold aAJ
  rw [e]
  show aWj (nts t.data.toList) s.size (nts s.data.toList) = _
  rw [← h2]
  show (Lib.splitK t.data.toList 0 (Lib.countB s t) s.data.toList).map nts = _
  rw [← h1, List.map_map]
  rfl
 rw [W]
 have z : ∀ o : Go.Obj, w.heap.size < (w.alloc o).heap.size := fun o => by show w.heap.size < (w.heap.push o).size; rw [Array.size_push]; omega
 have q : ∀ o : Go.Obj, (w.alloc o).heap[w.heap.size]? = some o := fun o => by show (w.heap.push o)[w.heap.size]? = some o; rw [Array.getElem?_push, if_pos rfl]
 refine ⟨_, _, _, rfl, by rw [List.length_map, g], Nat.le_refl _, by unfold maxLen; omega, .inr ⟨w.heap.size, 0, rfl, .inr ⟨Nat.le_refl _, z _⟩, fun i hi => ?_⟩⟩
 have r : i < (Lib.splitB t 0 (Lib.countB s t) s).length := by simpa using hi
 refine ⟨[.string (Lib.splitB t 0 (Lib.countB s t) s)[i]], ⟨_, rfl, by simp, ?_⟩, fun j v L => ?_⟩
 ·have := aQd t _ s _ (List.getElem_mem r)
  unfold maxLen; omega
 ·have N : j = 0 := by
   rcases Nat.lt_or_ge j 1 with h | h
   ·omega
   ·rw [List.getElem?_eq_none (by simpa using h)] at L; cases L
  subst N
  have hv : v = .string (Lib.splitB t 0 (Lib.countB s t) s)[i] := by simpa using L.symm
  subst hv
  have hc : ((Lib.splitB t 0 (Lib.countB s t) s).map Value.string).toArray[i]? = some (.string (Lib.splitB t 0 (Lib.countB s t) s)[i]) := by
   simp [r]
  rw [Lib.cell_of_heap (q _), show 0 + i * Ty.str.cells + 0 = i from by simp [Ty.cells]]
  exact hc
end
end Nu
end Go.Proofs
namespace Go.Proofs
open Go.Vc
set_option maxRecDepth 100000
namespace Nu
noncomputable section
set_option maxHeartbeats 4000000
section
open Go.Shelf Go.RowKit Go.Lib
theorem bDD (n : Nat) (w : World) (j : n ≤ 1073741824) :
  Calls Tryz.prog 113 #[.slice none 0 0, .int .i64 n] w fun e w' => (n = 0 ∧ e = .returned (.slice none 0 0) ∧ w' = w) ∨
   (0 < n ∧ e = .returned (.slice (some ⟨w.heap.size, 0, none⟩) 0 (grownCap w n 0 9)) ∧ w' = w.drew.alloc (.cells (Builtin.zeroCells #[Value.string ⟨#[]⟩] n ++ Builtin.zeroCells #[Value.string ⟨#[]⟩] (grownCap w n 0 9 - n)) 9)) := by
 have z : ¬ ((n : Int) < 0) := by omega
 have q : wrap64 ((n : Int) - wrap64 (0 - 0)) = (n : Int) := by unfold wrap64; omega
 have s : wrap64 (n : Int) = (n : Int) := by unfold wrap64; omega
 obtain ⟨i, hi, g, hs, hb⟩ : ∃ i, Tryz.prog.info? 9 = some i ∧ i.zero = some (.string ⟨#[]⟩) ∧ i.size = 1 ∧ i.bytes = 16 := ⟨_, rfl, rfl, rfl, rfl⟩
 go_enter Tryz.func113, Tryz.ntmps113
 rcases Nat.eq_zero_or_pos n with rfl | hp
 ·go_wp2
  go_ret
  exact ⟨rfl, rfl⟩
 ·have r : (n : Int) > 0 := by omega
  have f : ∀ ty, (Builtin.append_ #[22, 3] ty #[.slice none 0 0, .int .i64 (n : Int)]).run Tryz.prog w = .ok (.slice (some ⟨w.heap.size, 0, none⟩) n (grownCap w n 0 9)) (w.drew.alloc (.cells (Builtin.zeroCells #[Value.string ⟨#[]⟩] n ++ Builtin.zeroCells #[Value.string ⟨#[]⟩] (grownCap w n 0 9 - n)) 9)) :=
   fun ty => Lib.run_append_nil_zeros w 22 3 ty 9 i (.string ⟨#[]⟩) .i64 .i64 rfl rfl hi g n hp (by omega) (by omega) (by rw [hb]; omega)
  have I := grownCap_ge w n 0 9
  have b := grownCap_le_maxLen w n 0 9 (by unfold maxLen; omega)
  unfold maxLen at b
  generalize grownCap w n 0 9 = G at *
  go_wp2_with (at_builtin; refine Lib.wpList_append_run _ rfl _ _ _ _ rfl _ _ rfl rfl _ _ (f _) ?_)
  go_ret
  exact .inr ⟨rfl, rfl⟩
end
def lW (F : Md) (n : Int) : Option qx := ck (0 ≤ n ∧ n ≤ 1073741824) (some [])
def kT (F : Md) : fT where
 D := Int × qx
 av := fun d => [.nilS, .val qc d.1]
 hp := fun d => []
 m := 0
 pre := fun d => lW F d.1 = some d.2
 out := fun d => (fun r : qx => .ret (.own 0) [.row 9 .str (r)]) d.2
def aCe (F : Md) (vs : List AV) (h : List Vc.Obj) : Hit := mkH (lW F (rD h vs 1 qc)) ([] : List qa) fun r => ⟨(kT F), [], ((rD h vs 1 qc), r)⟩
attribute [go_sem] aCe
attribute [go_sem] kT
theorem aYc {F : Md} {c : Ctx} {w w' : World} {d : (kT F).D} (hd : d.2 = []) (good : Go.Vc.Good (GM (kT F) c d) w c [] w) (f : jC nothing w w') (v : Value) (hv : ∃ a n m, v = .slice a n m) (g : w'.ownsRow 0 9 1 v 0 []) (hb : ∀ b, aX v = some b → w.heap.size ≤ b ∧ b < w'.heap.size) :
  aMH (kT F) c w d (.returned v) w' := by
 have e1 : (c.push v).hd c.n = v := by simp [Ctx.push]
 have h0 : c.n = 0 := good.n
 have := good.push f (o := .row 9 .str []) (hv := v) (by
  show aDt _ _ _ _ _ _
  rw [e1]
  exact ⟨[], g, ⟨rfl, [], rfl, rfl, fun i h => by simp at h⟩⟩) (fun b h => hb b (by simpa [fI, e1] using h))
 refine ⟨c.push v, ?_⟩
 show ∃ u, _ ∧ Go.Vc.Good _ _ _ [.row 9 .str d.2] _ ∧ aW _ _ (.own 0) u
 rw [hd]
 refine ⟨v, rfl, this.1, ?_⟩
 have := aEA (c := c) (v' := v) hv (w' := w') (S' := c.S)
 rw [h0] at this
 exact this
theorem aIG [Mx] (F : Md) : GOK Tryz.prog GL 113 (kT F) := by
 rintro c w ⟨n, r⟩ z g ⟨good, glob, len, val⟩
 have g : lW F n = some r := g
 unfold lW at g
 obtain ⟨⟨W, h2⟩, g⟩ := bV g
 have O : [] = r := Option.some.inj g
 have J := val 0 (by show 0 < 2; decide) (by rw [len]; show 0 < 2; decide)
 have L := val 1 (by show 1 < 2; decide) (by rw [len]; show 1 < 2; decide)
 have e0 : z.toList[0]'(by rw [len]; show 0 < 2; decide) = .slice none 0 0 := by
  obtain ⟨j, _, s⟩ := J
  have s := s rfl
  revert j s
  generalize z.toList[0]'(by rw [len]; show 0 < 2; decide) = U
  intro j s
  have j : U.cells.toList = [.slice none 0 0] := j
  cases U <;> simp [Value.cells] at j s <;> simp [j]
 obtain ⟨e1, _, _⟩ := aIR (k := .i64) (n := n) L
 have N : z = #[.slice none 0 0, .int .i64 (n.toNat : Int)] := by
  have q : z.toList.length = 2 := len
  rw [← Array.toList_inj]
  apply List.ext_getElem
  ·exact q
  ·intro i a1 Z
   match i, Z with
   | 0, _ => exact e0
   | 1, _ => show _ = Value.int .i64 (n.toNat : Int); rw [Int.toNat_of_nonneg W]; exact e1
 rw [N]
 refine Calls.mono (f := 113) (bDD n.toNat w (by omega)) ?_
 rintro e w' (⟨_, rfl, rfl⟩ | ⟨hp, rfl, rfl⟩)
 ·exact aYc (d := (n, r)) O.symm good (.refl nothing _) _ ⟨_, _, _, rfl⟩ ⟨rfl, .inl ⟨rfl, rfl⟩⟩ (fun b h => by simp [aX] at h)
 ·have hG := grownCap_ge w n.toNat 0 9
  have I := grownCap_le_maxLen w n.toNat 0 9 (by unfold maxLen; omega)
  have Y : ∀ o, jC nothing w (w.drew.alloc o) := fun o => have k := jC.alloc nothing w.drew o; ⟨rfl, rfl, rfl, k.size, k.block⟩
  refine aYc (d := (n, r)) O.symm good (Y _) _ ⟨_, _, _, rfl⟩ ⟨rfl, .inr ⟨w.heap.size, _, Builtin.zeroCells #[Value.string ⟨#[]⟩] n.toNat ++ Builtin.zeroCells #[Value.string ⟨#[]⟩] (grownCap w n.toNat 0 9 - n.toNat), rfl, Nat.zero_le _, ?_, Nat.zero_le _, I, ?_, rfl⟩⟩ ?_
  ·show (w.heap.push _)[w.heap.size]? = _
   simp
  ·simp [Builtin.zeroCells]
   omega
  ·intro b h
   simp only [aX, Option.some.injEq] at h
   subst h
   refine ⟨Nat.le_refl _, ?_⟩
   show w.heap.size < (w.heap.push _).size
   simp
end
end Nu
end Go.Proofs
namespace Go.Proofs
open Go.Vc
set_option maxRecDepth 20000
namespace Nu
noncomputable section
set_option maxHeartbeats 4000000
def nU (F : Md) (b : (List qu)) : Option (Bool) :=
 ck ((2 : Int) < (b.length : Int)) (ck ((1 : Int) < (b.length : Int)) ((xS F (b.getD (2 : Nat) (false, [], 0, ())) (b.getD (1 : Nat) (false, [], 0, ()))).bind (fun f => ck ((f ≤ (0 : Int)) → ((0 : Int) < (b.length : Int))) (ck ((f ≤ (0 : Int)) → ((1 : Int) < (b.length : Int))) (ck ((f ≤ (0 : Int)) → ((lE F (b.getD (0 : Nat) (false, [], 0, ())) (b.getD (1 : Nat) (false, [], 0, ())) (256 : Int)).isSome = true)) (ck (((f ≤ (0 : Int)) ∧ (((lE F (b.getD (0 : Nat) (false, [], 0, ())) (b.getD (1 : Nat) (false, [], 0, ())) (256 : Int)).getD false) = true)) → ((1 : Int) < (b.length : Int))) (ck (((f ≤ (0 : Int)) ∧ (((lE F (b.getD (0 : Nat) (false, [], 0, ())) (b.getD (1 : Nat) (false, [], 0, ())) (256 : Int)).getD false) = true)) → ((2 : Int) < (b.length : Int))) (ck (((f ≤ (0 : Int)) ∧ (((lE F (b.getD (0 : Nat) (false, [], 0, ())) (b.getD (1 : Nat) (false, [], 0, ())) (256 : Int)).getD false) = true)) → ((lE F (b.getD (1 : Nat) (false, [], 0, ())) (b.getD (2 : Nat) (false, [], 0, ())) (4096 : Int)).isSome = true)) (some (((decide (f ≤ (0 : Int))) && ((lE F (b.getD (0 : Nat) (false, [], 0, ())) (b.getD (1 : Nat) (false, [], 0, ())) (256 : Int)).getD false)) && ((lE F (b.getD (1 : Nat) (false, [], 0, ())) (b.getD (2 : Nat) (false, [], 0, ())) (4096 : Int)).getD false)))))))))))
def rP (F : Md) (j : qe) (b : Int) (g : (List qu)) : Option ((Int × (List qu)) ⊕ ((List qu) ⊕ Bool)) :=
 if b < (4 : Int) then ck (0 ≤ b ∧ b < (4 : Int)) ((xT F (([j.2.2.2.2.1, j.2.2.2.2.2.1, j.2.2.2.2.2.2.1, j.2.2.2.2.2.2.2.1] : List qa).getD (b.toNat) ([] : List Nat))).bind (fun f => ck (¬ (¬ (f.2.1 = (0 : Int))) → ((sS F f.1).isSome = true)) (if (¬ (f.2.1 = (0 : Int))) ∨ (((sS F f.1).getD (0 : Int)) ≤ (0 : Int)) then some (.inr (.inr false)) else ck (((g.length) + (1 : Nat)) * 73 ≤ 140737488355328) (ck (I64 (b + (1 : Int))) (some (.inl ((b + (1 : Int)), (g ++ ([f.1] : List qu))))))))) else some (.inr (.inl g))
def sO (F : Md) (b : qe) : Option Bool :=
 if ((((((b.1 < (8 : Int)) ∨ ((200 : Int) < b.1)) ∨ (b.2.1 < (1 : Int))) ∨ ((20 : Int) < b.2.1)) ∨ (b.2.2.1 < (0 : Int))) ∨ ((3 : Int) < b.2.2.1)) ∨ ((¬ (b.2.2.2.1 = (1 : Int))) ∧ (¬ (b.2.2.2.1 = (2 : Int)))) then some false else (dG F (fun d : Int × (List qu) => rP F b d.1 d.2) ((0 : Int), ([] : List qu))).bind (fun e => match e with | (.inl e) => nU F e | (.inr e) => some e)
def aGJ : PlR := ⟨[(0, .B [1]), (1, .A [1, 45]), (2, .A [2]), (3, .A [1, 3]), (4, .A [3, 54, 55, 56]), (5, .A [3, 54, 55, 56, 57]), (6, .A [3, 5, 54, 55, 56]), (7, .B [3, 6, 7, 54, 55, 56]), (8, .A [3, 6, 54, 55, 56, 71]), (9, .A [2]), (10, .B [3, 54, 55, 56]), (11, .A [3, 54, 55, 56]), (12, .A [2])], [(7, 15)], []⟩
def aIj : Ty := .pair qh .unit
def yT (F : Md) : aG := mSpec aIj (.one .bool) (fun x => sO F x.1)
abbrev vX (F : Md) : List (FuncId × aG) := [(59, (aEc F)), (60, (yJ F)), (61, (aA2 F)), (62, (aCI F))]
theorem aQT [Mx] (F : Md) : bE Tryz.prog GL (vX F) := .cons (aWd F) xAa (.cons (aM3 F) xAa (.cons (aP3 F) xAa (.cons (aTX F) xAa (.nil))))
attribute [go_sem] aIj aGJ
theorem aO7 [Mx] (F : Md) : FOK Tryz.prog GL 23 (yT F) := by
 refine bN (bC (aQT F)) mix Tryz.func23 rfl xAa xAb aGJ (fun w0 S x Θ Z h hV => ?_)
 obtain ⟨(b : qe), u⟩ := x
 simp only [bT, go_sem]
 replace h : sat (sO F b) _ := h
 unfold sO at h
 refine ⟨fun hc => ?_, fun hc => ?_⟩
 ·replace h := gB hc h
  exact zaH
 ·replace h := gC hc h
  refine cX hV (D := (List qu)) (fun d => sat (nU F d) Θ) [] (fun d => [(3, .own 0)]) (fun d => [.inr (.row 119 qo d)]) ?_ ?_
  ·simp only [go_sem]
   refine aED 3 119 qo rfl (yaA ?_)
   refine aKm [1] rfl rfl (yaA ?_)
   refine bM hV (D := Int × (List qu)) [55] (fun d => [(3, .own 0), (54, .val wi ([b.2.2.2.2.1, b.2.2.2.2.2.1, b.2.2.2.2.2.2.1, b.2.2.2.2.2.2.2.1] : List qa)), (56, .val qc d.1)]) (fun d => [.inr (.row 119 qo d.2)]) h rfl (by (try simp only [xA, eV, true_or, and_self, go_sem]) <;> (repeat' apply And.intro) <;> first | rfl | (left; rfl) | (right; rfl) | (left; simp only [go_sem]; done) | (right; simp only [go_sem]; done) | (simp; done) | (simp only [*]; done) | omega) ?_
   rintro ⟨f, g⟩ W T5 q j h
   simp only [go_sem]
   replace h : sat (rP F b f g) _ := h
   unfold rP at h
   refine dY h (fun hc h => ?_) fun hc h => ?_
   ·refine aD h fun g0 h => (yaE ?_)
    refine aC h fun z hv h => ?_
    try simp only [hv, go_sem]
    refine aD h fun g0 h => ?_
    repeat (refine ⟨zAF, ?_⟩)
    refine ⟨fun hc => ?_, fun hc => ?_⟩
    ·replace h := gB zAC h
     replace h := yaG (j _ (aA h))
     exact zaH
    ·replace h := gC zAC h
     refine aD h fun g0 h => (yaE ?_)
     refine aD h fun g0 h => ?_
     try simp only [I64, I32] at g0
     repeat (refine ⟨zAB, ?_⟩)
     replace h := q _ (aA h)
     refine iI [2] rfl rfl (yaA ?_)
     exact zaJ
   ·replace h := yaG (j _ (aA h))
    exact aU (g) h rfl xAc
  ·rintro r h
   simp only [go_sem]
   replace h : sat (nU F r) _ := h
   unfold nU at h
   refine aD h fun g0 h => ?_
   refine aD h fun g1 h => (yaE ?_)
   refine aC h fun s hv h => ?_
   try simp only [hv, go_sem]
   refine aD h fun g0 h => ?_
   refine aD h fun g1 h => ?_
   refine aD h fun N h => ?_
   refine aD h fun J h => ?_
   refine aD h fun L h => ?_
   refine aD h fun I h => ?_
   repeat (refine ⟨by first | with_reducible assumption | omega | (intros; first | with_reducible assumption | omega) | (intro _; exact ⟨rfl, by decide⟩) | (intro _; refine (?_ : _ = aK _); rfl) | (refine (?_ : _ = aK _); rfl) | exact ⟨rfl, rfl⟩ | (intro q0; (try have e0 := g0 zAG); (try have e1 := g1 zAG); (try have O := N zAG); (try have Y := J zAG); (try have U := L zAG); (try have e5 := I zAG); first | assumption | omega) | decide, ?_⟩)
   exact zaH
attribute [go_sem] yT
def tV (F : Md) (f : qx) (g : qB) (b : qx) : Option (qx × (qx × wz)) :=
 some (f, b, g.2.2.2.1, ())
def qX (F : Md) (g : qB) (b : Int) (f : qx) : Option ((Int × qx) ⊕ qx) :=
 if b < (g.2.2.1.length : Int) then ck (0 ≤ b ∧ b < (g.2.2.1.length : Int)) (ck (((f.length) + (1 : Nat)) * 16 ≤ 140737488355328) (ck (I64 (b + (1 : Int))) (some (.inl ((b + (1 : Int)), (f ++ ([(g.2.2.1.getD (b.toNat) ([], ([], [], ()), ())).1] : List qa))))))) else some (.inr f)
def tW (F : Md) (b : qB) (f : qx) : Option (qx × (qx × wz)) :=
 (dG F (fun d : Int × qx => qX F b d.1 d.2) ((0 : Int), ([] : List qa))).bind (fun e => tV F f b e)
def qY (F : Md) (g : qB) (b : Int) (f : qx) : Option ((Int × qx) ⊕ qx) :=
 if b < (g.2.1.length : Int) then ck (0 ≤ b ∧ b < (g.2.1.length : Int)) (ck (((f.length) + (1 : Nat)) * 16 ≤ 140737488355328) (ck (I64 (b + (1 : Int))) (some (.inl ((b + (1 : Int)), (f ++ ([(g.2.1.getD (b.toNat) ([], ([], [], ()), (Ex.mk 0 [] []), ())).1] : List qa))))))) else some (.inr f)
def aY (F : Md) (b : qB) : Option (qx × (qx × wz)) :=
 (dG F (fun d : Int × qx => qY F b d.1 d.2) ((0 : Int), ([] : List qa))).bind (fun e => tW F b e)
def aJD : PlR := ⟨[(0, .B [1, 2, 3]), (1, .A [1, 2, 3, 10, 11, 12]), (2, .A [1, 2, 3, 10, 11, 12, 13]), (3, .B [1, 2, 3, 6, 10, 11, 12]), (4, .B [1, 2, 3, 10, 11, 12]), (5, .A [1, 2, 3, 10, 11, 12]), (6, .A [1, 2, 3, 23, 24, 25]), (7, .A [1, 2, 3, 23, 24, 25, 26]), (8, .B [1, 2, 3, 8, 23, 24, 25]), (9, .B [1, 2, 3, 23, 24, 25]), (10, .A [1, 2, 3, 23, 24, 25]), (11, .A [2, 3, 4])], [(4, 9), (9, 14)], []⟩
def aK7 : Ty := .pair qD .unit
def aBL (F : Md) : aG := mSpec aK7 (.tup (.pair wi (.pair wi (.pair wi .unit)))) (fun x => aY F x.1)
abbrev aT3 (F : Md) : List (FuncId × aG) := []
theorem aT4 [Mx] (F : Md) : bE Tryz.prog GL (aT3 F) := .nil
attribute [go_sem] aK7 aJD
theorem aS1 [Mx] (F : Md) : FOK Tryz.prog GL 63 (aBL F) := by
 refine bN (bC (aT4 F)) mix Tryz.func63 rfl xAa xAb aJD (fun w0 S x Θ O h hV => ?_)
 obtain ⟨(b : qB), u⟩ := x
 simp only [bT, go_sem]
 replace h : sat (aY F b) _ := h
 unfold aY at h
 refine cX hV (D := qx) (fun d => sat (tW F b d) Θ) [3] (fun d => [(1, .ptr 0 []), (2, .own 1)]) (fun d => [.inr (.box 5 (.val qD b)), .inr (.row 9 .str d)]) ?_ ?_
 ·simp only [go_sem]
  refine aED 2 9 .str rfl (yaA ?_)
  refine bM hV (D := Int × qx) [3, 10, 11] (fun d => [(1, .ptr 0 []), (2, .own 1), (12, .val qc d.1)]) (fun d => [.inr (.box 5 (.val qD b)), .inr (.row 9 .str d.2)]) h rfl xAc ?_
  rintro ⟨g, q⟩ L T2 hA2 hE2 h
  simp only [go_sem]
  replace h : sat (qY F b g q) _ := h
  unfold qY at h
  refine dY h (fun hc h => ?_) fun hc h => ?_
  ·refine aD h fun g0 h => (yaC ?_)
   refine aD h fun g0 h => (yaC ?_)
   refine aN h fun g0 h => ?_
   replace h := hA2 _ (aA h)
   refine iI [0, 3] rfl rfl (yaA ?_)
   exact zaJ
  ·replace h := yaG (hE2 _ (aA h))
   exact aU (q) h rfl xAc
 ·rintro f h
  simp only [go_sem]
  replace h : sat (tW F b f) _ := h
  unfold tW at h
  refine cX hV (D := qx) (fun d => sat (tV F f b d) Θ) [] (fun d => [(1, .ptr 0 []), (2, .own 1), (3, .own 2)]) (fun d => [.inr (.box 5 (.val qD b)), .inr (.row 9 .str f), .inr (.row 9 .str d)]) ?_ ?_
  ·simp only [go_sem]
   refine aED 3 9 .str rfl (yaA ?_)
   refine bM hV (D := Int × qx) [23, 24] (fun d => [(1, .ptr 0 []), (2, .own 1), (3, .own 2), (25, .val qc d.1)]) (fun d => [.inr (.box 5 (.val qD b)), .inr (.row 9 .str f), .inr (.row 9 .str d.2)]) h rfl xAc ?_
   rintro ⟨j, r⟩ J N z I h
   simp only [go_sem]
   replace h : sat (qX F b j r) _ := h
   unfold qX at h
   refine dY h (fun hc h => ?_) fun hc h => ?_
   ·refine aD h fun g0 h => (yaC ?_)
    refine aD h fun g0 h => (yaC ?_)
    refine aN h fun g0 h => ?_
    replace h := z _ (aA h)
    refine iI [0, 1, 4] rfl rfl (yaA ?_)
    exact zaJ
   ·replace h := yaG (I _ (aA h))
    exact aU (r) h rfl xAc
  ·rintro s h
   simp only [go_sem]
   replace h : sat (tV F f b s) _ := h
   unfold tV at h
   exact zal
attribute [go_sem] aBL
def gJ (F : Md) (slices_0 : (List qx)) (b : Int) (newslice_14 : qx) : Option ((Int × qx) ⊕ qx) :=
 if b < (slices_0.length : Int) then ck (0 ≤ b ∧ b < (slices_0.length : Int)) (ck (((newslice_14.length) + (slices_0.getD (b.toNat) ([] : List qa)).length) * 16 ≤ 140737488355328) (ck (I64 (b + (1 : Int))) (some (.inl ((b + (1 : Int)), (newslice_14 ++ (slices_0.getD (b.toNat) ([] : List qa)))))))) else some (.inr newslice_14)
def kB (F : Md) (slices_0 : (List qx)) (b : Int) : Option qx :=
 (lW F b).bind (fun f => (dG F (fun d : Int × qx => gJ F slices_0 d.1 d.2) ((0 : Int), f)).bind (fun e => some e))
def kC (F : Md) (slices_0 : (List qx)) (f : Int) (b : Int) : Option (wo ⊕ (Int)) :=
 if b < (slices_0.length : Int) then ck (0 ≤ b ∧ b < (slices_0.length : Int)) (ck (I64 (f + (((slices_0.getD (b.toNat) ([] : List qa)).length : Nat) : Int))) (if (f + (((slices_0.getD (b.toNat) ([] : List qa)).length : Nat) : Int)) < (0 : Int) then none else ck (I64 (b + (1 : Int))) (some (.inl ((f + (((slices_0.getD (b.toNat) ([] : List qa)).length : Nat) : Int)), (b + (1 : Int))))))) else some (.inr f)
def bO (F : Md) (slices_0 : (List qx)) : Option qx :=
 (dG F (fun d : Int × Int => kC F slices_0 d.1 d.2) ((0 : Int), (0 : Int))).bind (fun e => kB F slices_0 e)
def aBf (F : Md) : PlR := ⟨[(0, .A [0]), (1, .A [0, 3]), (2, .A [0, 3, 9, 10, 11]), (3, .A [0, 3, 9, 10, 11, 12]), (4, .A [0, 3, 5, 9, 10, 11]), (5, .A [0, 3, 9, 10, 11]), (6, .A [0, 3, 9, 10, 11, 20]), (7, .P [0, 3, 9, 10, 11] []), (8, .A [0, 3, 9, 10, 11]), (9, .P [0, 6] []), (10, .A [6, 25, 26, 27]), (11, .A [6, 25, 26, 27, 28]), (12, .A [6, 8, 25, 26, 27]), (13, .B [6, 25, 26, 27]), (14, .A [6, 25, 26, 27]), (15, .A [2])], [(5, 12)], [(113, aCe F)]⟩
def aBM : Ty := .pair (.sl wi) .unit
def oV (F : Md) : aG := mSpec aBM (.one wi) (fun x => bO F x.1)
abbrev aHQ (F : Md) : List (FuncId × aG) := []
theorem aHR [Mx] (F : Md) : bE Tryz.prog GL (aHQ F) := .nil
attribute [go_sem] aBM aBf
theorem aGK [Mx] (F : Md) : FOK Tryz.prog GL 64 (oV F) := by
 refine bN (bC (aHR F)) mix Tryz.func64 rfl xAa xAb (aBf F) (fun w0 S x Θ O h hV => ?_) (.cons (fun _ _ => (aIG F)) xAa (.nil))
 obtain ⟨(slices_0 : (List qx)), u⟩ := x
 simp only [bT, go_sem]
 replace h : sat (bO F slices_0) _ := h
 unfold bO at h
 refine cX hV (D := Int) (fun d => sat (kB F slices_0 d) Θ) [0] (fun d => [(3, .val qc d)]) (fun d => []) ?_ ?_
 ·simp only [go_sem]
  refine bM hV (D := Int × Int) [0, 9, 10] (fun d => [(3, .val qc d.1), (11, .val qc d.2)]) (fun d => []) h rfl xAc ?_
  rintro ⟨b, j⟩ N T3 z s h
  simp only [go_sem]
  replace h : sat (kC F slices_0 b j) _ := h
  unfold kC at h
  refine dY h (fun hc h => ?_) fun hc h => ?_
  ·refine aN h fun g0 h => ?_
   refine aN h fun g0 h => ?_
   refine dY h (fun hc h => ?_) fun hc h => ?_
   ·exact aBr h
   ·refine aN h fun g0 h => ?_
    replace h := z _ (aA h)
    exact zaJ
  ·replace h := yaG (s _ (aA h))
   exact aU (b) h rfl xAc
 ·rintro f h
  simp only [go_sem]
  replace h : sat (kB F slices_0 f) _ := h
  unfold kB at h
  refine aC h fun J hv h => ?_
  simp only [hv, go_sem]
  refine bM hV (D := Int × qx) [25, 26] (fun d => [(6, .own 0), (27, .val qc d.1)]) (fun d => [.inr (.row 9 .str d.2)]) h rfl xAc ?_
  rintro ⟨g, newslice_14⟩ L I q r h
  simp only [go_sem]
  replace h : sat (gJ F slices_0 g newslice_14) _ := h
  unfold gJ at h
  refine dY h (fun hc h => ?_) fun hc h => ?_
  ·refine aD h fun g0 h => (yaC ?_)
   refine aD h fun g0 h => (yaC ?_)
   refine aN h fun g0 h => ?_
   replace h := q _ (aA h)
   refine iI [1] rfl rfl (yaA ?_)
   exact zaJ
  ·replace h := yaG (r _ (aA h))
   exact zaH
attribute [go_sem] oV
def tX (F : Md) (g : qx) (b : Int) (f : (List (qa × Bool))) : Option ((Int × (List (qa × Bool))) ⊕ ((Unit) ⊕ Bool)) :=
 if b < (g.length : Int) then ck (0 ≤ b ∧ b < (g.length : Int)) ((jV F (g.getD (b.toNat) ([] : List Nat))).bind (fun j => if (¬ (j = true)) ∨ (((aDW .str f (g.getD (b.toNat) ([] : List Nat))).getD false) = true) then some (.inr (.inr false)) else ck (I64 (b + (1 : Int))) (some (.inl ((b + (1 : Int)), (aCU .str f (g.getD (b.toNat) ([] : List Nat)) true)))))) else some (.inr (.inl ()))
def qT (F : Md) (b : qx) : Option Bool :=
 (dG F (fun d : Int × (List (qa × Bool)) => tX F b d.1 d.2) ((0 : Int), ([] : List (qa × Bool)))).bind (fun e => match e with | (.inl e) => some true | (.inr e) => some e)
def aJE : PlR := ⟨[(0, .A [0]), (1, .B [0, 3]), (2, .A [3, 7, 8, 9]), (3, .A [3, 7, 8, 9, 10]), (4, .A [3, 5, 7, 8, 9]), (5, .A [3, 5, 7, 8, 9, 20]), (6, .A [2]), (7, .B [3, 7, 8, 9]), (8, .A [3, 7, 8, 9]), (9, .A [2])], [], []⟩
def aK8 : Ty := .pair wi .unit
def tY (F : Md) : aG := mSpec aK8 (.one .bool) (fun x => qT F x.1)
abbrev aK9 (F : Md) : List (FuncId × aG) := [(70, (qR F))]
theorem aT5 [Mx] (F : Md) : bE Tryz.prog GL (aK9 F) := .cons (aF4 F) xAa (.nil)
attribute [go_sem] aK8 aJE
theorem aJF [Mx] (F : Md) : FOK Tryz.prog GL 25 (tY F) := by
 refine bN (bC (aT5 F)) mix Tryz.func25 rfl xAa xAb aJE (fun w0 S x Θ z h hV => ?_)
 obtain ⟨(j : qx), u⟩ := x
 simp only [bT, go_sem]
 replace h : sat (qT F j) _ := h
 unfold qT at h
 refine bM hV (D := Int × (List (qa × Bool))) [7, 8] (fun d => [(3, .mp 0), (9, .val qc d.1)]) (fun d => [.inr (.map .str .bool d.2)]) h rfl xAc ?_
 rintro ⟨f, b⟩ s T3 q g h
 simp only [go_sem]
 replace h : sat (tX F j f b) _ := h
 unfold tX at h
 refine dY h (fun hc h => ?_) fun hc h => ?_
 ·refine aN h fun g0 h => ?_
  refine aC h fun r hv h => ?_
  try simp only [hv, go_sem]
  refine ⟨fun hc => ?_, fun hc => ?_⟩
  ·replace h := gB zAC h
   replace h := yaG (g _ (aA h))
   exact zaH
  ·replace h := gC zAC h
   refine aN h fun g0 h => ?_
   replace h := q _ (aA h)
   exact zaJ
 ·replace h := yaG (g _ (aA h))
  exact zaH
attribute [go_sem] tY
def fW (F : Md) (b : qa) (prefix_1 : qa) : Option Bool :=
 ck (((prefix_1.length : Int) ≤ (b.length : Int)) → (0 ≤ (prefix_1.length : Int) ∧ (prefix_1.length : Int) ≤ (b.length : Int))) (some ((decide ((prefix_1.length : Int) ≤ (b.length : Int))) && (decide ((List.take (prefix_1.length) b) = prefix_1))))
def zN : PlR := ⟨[(0, .A [0, 1]), (1, .A [4])], [], []⟩
def aAl : Ty := .pair .str wj
def gQ (F : Md) : aG := mSpec aAl (.one .bool) (fun x => fW F x.1 x.2.1)
abbrev aF7 (F : Md) : List (FuncId × aG) := []
theorem aF8 [Mx] (F : Md) : bE Tryz.prog GL (aF7 F) := .nil
attribute [go_sem] aAl zN
theorem zO [Mx] (F : Md) : FOK Tryz.prog GL 206 (gQ F) := by
 refine bN (bC (aF8 F)) mix Tryz.func206 rfl xAa xAb zN (fun w0 S x Θ f h hV => ?_)
 obtain ⟨(b : qa), (prefix_1 : qa), u⟩ := x
 simp only [bT, go_sem]
 replace h : sat (fW F b prefix_1) _ := h
 unfold fW at h
 refine aN h fun g0 h => ?_
 exact zaD
attribute [go_sem] gQ
def kZ (F : Md) (b : qa) (prefix_1 : qa) : Option (qa × wt) :=
 (fW F b prefix_1).bind (fun v_8 => if ¬ (v_8 = true) then some (b, false, ()) else ck (0 ≤ (prefix_1.length : Int) ∧ (prefix_1.length : Int) ≤ (b.length : Int)) (some ((List.drop (prefix_1.length) b), true, ())))
def zP : PlR := ⟨[(0, .A [0, 1]), (1, .A [0, 1, 9]), (2, .A [4, 5]), (3, .A [4, 5])], [], []⟩
def aAm : Ty := .pair .str wj
def nG (F : Md) : aG := mSpec aAm (.tup (.pair .str ww)) (fun x => kZ F x.1 x.2.1)
abbrev aAn (F : Md) : List (FuncId × aG) := [(206, (gQ F))]
theorem aF9 [Mx] (F : Md) : bE Tryz.prog GL (aAn F) := .cons (zO F) xAa (.nil)
attribute [go_sem] aAm zP
theorem aFk [Mx] (F : Md) : FOK Tryz.prog GL 193 (nG F) := by
 refine bN (bC (aF9 F)) mix Tryz.func193 rfl xAa xAb zP (fun w0 S x Θ f h hV => ?_)
 obtain ⟨(b : qa), (prefix_1 : qa), u⟩ := x
 simp only [bT, go_sem]
 replace h : sat (kZ F b prefix_1) _ := h
 unfold kZ at h
 refine aC h fun v_8 hv h => ?_
 try simp only [hv, go_sem]
 refine aAF h (fun hc h => ?_) fun hc h => ?_
 ·exact aH hV [.tmp 4, .tmp 5] rfl rfl rfl (aA h) xAd
 ·refine aN h fun g0 h => ?_
  exact aH hV [.tmp 4, .tmp 5] rfl rfl rfl (aA h) xAd
attribute [go_sem] nG
def mW (F : Md) (f : qa) (prefix_1 : qa) : Option (qa × wt) :=
 (kZ F f prefix_1).bind (fun b => some (b.1, b.2.1, ()))
def aDi : PlR := ⟨[(0, .A [0, 1]), (1, .A [4, 5])], [], []⟩
def aDO : Ty := .pair .str wj
def sW (F : Md) : aG := mSpec aDO (.tup (.pair .str ww)) (fun x => mW F x.1 x.2.1)
abbrev aDP (F : Md) : List (FuncId × aG) := [(193, (nG F))]
theorem aKB [Mx] (F : Md) : bE Tryz.prog GL (aDP F) := .cons (aFk F) xAa (.nil)
attribute [go_sem] aDO aDi
theorem aJG [Mx] (F : Md) : FOK Tryz.prog GL 161 (sW F) := by
 refine bN (bC (aKB F)) mix Tryz.func161 rfl xAa xAb aDi (fun w0 S x Θ g h hV => ?_)
 obtain ⟨(b : qa), (prefix_1 : qa), u⟩ := x
 simp only [bT, go_sem]
 replace h : sat (mW F b prefix_1) _ := h
 unfold mW at h
 refine aC h fun f hv h => ?_
 try simp only [hv, go_sem]
 exact aH hV [.tmp 4, .tmp 5] rfl rfl rfl (aA h) xAd
attribute [go_sem] sW
def tG (F : Md) (g : qa) : Option (Bool × (qa × (qa × wt))) :=
 (mW F g (aV ⟨#[45]⟩)).bind (fun f => (aBa F f.1).bind (fun b => some ((f.2.1 && (decide ((0 : Int) < (b.1.length : Int)))), b.1, b.2.1, b.2.2.1, ())))
def aJH : PlR := ⟨[(0, .A [0]), (1, .A [6, 7]), (2, .A [7, 8, 9, 10]), (3, .A [2, 3, 4, 5])], [], []⟩
def aLa : Ty := .pair .str .unit
def aBN (F : Md) : aG := mSpec aLa (.tup (.pair .bool (.pair we (.pair we ww)))) (fun x => tG F x.1)
abbrev aGa (F : Md) : List (FuncId × aG) := [(161, (sW F)), (162, (aEb F))]
theorem aT6 [Mx] (F : Md) : bE Tryz.prog GL (aGa F) := .cons (aJG F) xAa (.cons (aWc F) xAa (.nil))
attribute [go_sem] aLa aJH
theorem aS2 [Mx] (F : Md) : FOK Tryz.prog GL 114 (aBN F) := by
 refine bN (bC (aT6 F)) mix Tryz.func114 rfl xAa xAb aJH (fun w0 S x Θ j h hV => ?_)
 obtain ⟨(b : qa), u⟩ := x
 simp only [bT, go_sem]
 replace h : sat (tG F b) _ := h
 unfold tG at h
 refine aC h fun f hv h => ?_
 try simp only [hv, go_sem]
 refine aC h fun g hv h => ?_
 try simp only [hv, go_sem]
 exact aH hV [.tmp 2, .tmp 3, .tmp 4, .tmp 5] rfl rfl rfl (aA h) xAd
attribute [go_sem] aBN
def mL (F : Md) (j : qw) (g : qa) : Option (Bool) :=
 (tG F j.1).bind (fun f => (tG F g).bind (fun b => ck (aQk f.2.1 b.2.2.1) (ck (aQk b.2.1 f.2.2.1) (ck (aXz (cR f.2.1 b.2.2.1) (cR b.2.1 f.2.2.1)) (if (¬ (f.2.2.2.1 = true)) ∨ (¬ (b.2.2.2.1 = true)) then some false else if (f.1 != b.1) = true then some f.1 else if f.1 = true then some (decide ((0 : Int) ≤ (qO (cR f.2.1 b.2.2.1) (cR b.2.1 f.2.2.1)))) else some (decide ((qO (cR f.2.1 b.2.2.1) (cR b.2.1 f.2.2.1)) ≤ (0 : Int))))))))
def lB (F : Md) (b : qw) : Option Bool :=
 if b.2.1 = (aV ⟨#[]⟩) then mL F b b.1 else mL F b b.2.1
def aIk : PlR := ⟨[(0, .B [1]), (1, .A [1, 3]), (2, .A [1, 3, 16]), (3, .A [1, 3]), (4, .A [3, 4, 5, 6, 7]), (5, .A [4, 5, 6, 7, 8, 9, 10, 11]), (6, .A [4, 7, 8, 11, 12]), (7, .A [2]), (8, .A [4, 8, 12, 43]), (9, .A [2]), (10, .A [4, 12, 50]), (11, .A [2]), (12, .A [12, 55]), (13, .A [2])], [(5, 7)], []⟩
def aJI : Ty := .pair qf .unit
def aAv (F : Md) : aG := mSpec aJI (.one .bool) (fun x => lB F x.1)
abbrev aBO (F : Md) : List (FuncId × aG) := [(105, iM), (114, (aBN F)), (115, sR)]
theorem aS3 [Mx] (F : Md) : bE Tryz.prog GL (aBO F) := .cons yG xAa (.cons (aS2 F) xAa (.cons aHy xAa (.nil)))
attribute [go_sem] aJI aIk
theorem aQU [Mx] (F : Md) : FOK Tryz.prog GL 66 (aAv F) := by
 refine bN (bC (aS3 F)) mix Tryz.func66 rfl xAa xAb aIk (fun w0 S x Θ q h hV => ?_)
 obtain ⟨(b : qw), u⟩ := x
 simp only [bT, go_sem]
 replace h : sat (lB F b) _ := h
 unfold lB at h
 refine cX hV (D := qa) (fun d => sat (mL F b d) Θ) [] (fun d => [(1, .ptr 0 []), (3, .val .str d)]) (fun d => [.inr (.box 2 (.val qf b))]) ?_ ?_
 ·simp only [go_sem]
  refine cI h (fun hc h => ?_) fun hc h => ?_
  ·exact aU b.1 h rfl xAc
  ·exact aU b.2.1 h rfl xAc
 ·rintro f h
  simp only [go_sem]
  replace h : sat (mL F b f) _ := h
  unfold mL at h
  refine aC h fun j hv h => ?_
  try simp only [hv, go_sem]
  refine aC h fun g hv h => ?_
  try simp only [hv, go_sem]
  refine aN h fun g0 h => aN h fun g1 h => aN h fun r h => ?_
  refine ⟨fun hc => ?_, fun hc => ?_⟩
  ·replace h := gB zAC h
   exact zaH
  ·replace h := gC zAC h
   refine aGq h (fun hc h => ?_) fun hc h => ?_
   ·exact aH hV [.tmp 2] rfl rfl rfl (aA h) xAd
   ·refine aGq h (fun hc h => ?_) fun hc h => ?_
    ·exact aH hV [.tmp 2] rfl rfl rfl (aA h) xAd
    ·exact aH hV [.tmp 2] rfl rfl rfl (aA h) xAd
attribute [go_sem] aAv
end
end Nu
end Go.Proofs
namespace Go.Proofs
open Go.Vc
set_option maxRecDepth 20000
namespace Nu
noncomputable section
set_option maxHeartbeats 4000000
attribute [-go_sem] Ex.kind Ex.text Ex.l
def bY (F : Md) (b : qa) (cutset_1 : qa) : Option qa :=
 if (b = (aV ⟨#[]⟩)) ∨ (cutset_1 = (aV ⟨#[]⟩)) then some b else ck (((cutset_1.length : Int) = (1 : Int)) → ((0 : Int) < (cutset_1.length : Int))) (if ((cutset_1.length : Int) = (1 : Int)) ∧ ((cutset_1.getD (0 : Nat) (0 : Nat)) < (128 : Nat)) then ck ((0 : Int) < (cutset_1.length : Int)) ((gS F b (cutset_1.getD (0 : Nat) (0 : Nat))).bind (fun v_8 => some v_8)) else (dZ F cutset_1).bind (fun v_13 => if v_13.2.1 = true then (eH F b v_13.1).bind (fun v_17 => some v_17) else none))
def aDQ : PlR := ⟨[(0, .A [0, 1]), (1, .A [0, 1, 12]), (2, .A [4]), (3, .A [0, 1, 21]), (4, .A [4]), (5, .B [0, 1, 5, 6]), (6, .A [0, 1, 5, 31]), (7, .A [4]), (8, .stop)], [], []⟩
def aEV : Ty := .pair .str wj
def mX (F : Md) : aG := mSpec aEV (.one .str) (fun x => bY F x.1 x.2.1)
abbrev vG (F : Md) : List (FuncId × aG) := [(45, (fE F)), (95, (iY F)), (96, (hZ F))]
theorem aLY [Mx] (F : Md) : bE Tryz.prog GL (vG F) := .cons (tR F) xAa (.cons (aA6 F) xAa (.cons (aAg F) xAa (.nil)))
attribute [go_sem] aEV aDQ
theorem aDR [Mx] (F : Md) : FOK Tryz.prog GL 48 (mX F) := by
 refine bN (bC (aLY F)) mix Tryz.func48 rfl xAa xAb aDQ (fun w0 S x Θ f h hV => ?_)
 obtain ⟨(b : qa), (cutset_1 : qa), u⟩ := x
 simp only [bT, go_sem]
 replace h : sat (bY F b cutset_1) _ := h
 unfold bY at h
 exact zaR
attribute [go_sem] mX
def iE (F : Md) (b : qa) (cutset_1 : qa) : Option qa :=
 if (b = (aV ⟨#[]⟩)) ∨ (cutset_1 = (aV ⟨#[]⟩)) then some b else ck (((cutset_1.length : Int) = (1 : Int)) → ((0 : Int) < (cutset_1.length : Int))) (if ((cutset_1.length : Int) = (1 : Int)) ∧ ((cutset_1.getD (0 : Nat) (0 : Nat)) < (128 : Nat)) then ck ((0 : Int) < (cutset_1.length : Int)) ((gI F b (cutset_1.getD (0 : Nat) (0 : Nat))).bind (fun v_8 => some v_8)) else (dZ F cutset_1).bind (fun v_13 => if v_13.2.1 = true then (eB F b v_13.1).bind (fun v_17 => some v_17) else none))
def aDj : PlR := ⟨[(0, .A [0, 1]), (1, .A [0, 1, 12]), (2, .A [4]), (3, .A [0, 1, 21]), (4, .A [4]), (5, .B [0, 1, 5, 6]), (6, .A [0, 1, 5, 31]), (7, .A [4]), (8, .stop)], [], []⟩
def aDS : Ty := .pair .str wj
def sX (F : Md) : aG := mSpec aDS (.one .str) (fun x => iE F x.1 x.2.1)
abbrev tK (F : Md) : List (FuncId × aG) := [(44, (hO F)), (45, (fE F)), (46, (gO F))]
theorem aKC [Mx] (F : Md) : bE Tryz.prog GL (tK F) := .cons (aAc F) xAa (.cons (tR F) xAa (.cons (zJ F) xAa (.nil)))
attribute [go_sem] aDS aDj
theorem aJJ [Mx] (F : Md) : FOK Tryz.prog GL 18 (sX F) := by
 refine bN (bC (aKC F)) mix Tryz.func18 rfl xAa xAb aDj (fun w0 S x Θ f h hV => ?_)
 obtain ⟨(b : qa), (cutset_1 : qa), u⟩ := x
 simp only [bT, go_sem]
 replace h : sat (iE F b cutset_1) _ := h
 unfold iE at h
 exact zaR
attribute [go_sem] sX
def kD (F : Md) (b : qa) (prefix_1 : qa) : Option qa :=
 (fW F b prefix_1).bind (fun v_8 => if v_8 = true then ck (0 ≤ (prefix_1.length : Int) ∧ (prefix_1.length : Int) ≤ (b.length : Int)) (some (List.drop (prefix_1.length) b)) else some b)
def yB : PlR := ⟨[(0, .A [0, 1]), (1, .A [0, 1, 7]), (2, .A [4]), (3, .A [4])], [], []⟩
def zQ : Ty := .pair .str wj
def mM (F : Md) : aG := mSpec zQ (.one .str) (fun x => kD F x.1 x.2.1)
abbrev zR (F : Md) : List (FuncId × aG) := [(206, (gQ F))]
theorem aFl [Mx] (F : Md) : bE Tryz.prog GL (zR F) := .cons (zO F) xAa (.nil)
attribute [go_sem] zQ yB
theorem aEW [Mx] (F : Md) : FOK Tryz.prog GL 204 (mM F) := by
 refine bN (bC (aFl F)) mix Tryz.func204 rfl xAa xAb yB (fun w0 S x Θ f h hV => ?_)
 obtain ⟨(b : qa), (prefix_1 : qa), u⟩ := x
 simp only [bT, go_sem]
 replace h : sat (kD F b prefix_1) _ := h
 unfold kD at h
 refine aC h fun v_8 hv h => ?_
 try simp only [hv, go_sem]
 refine aGq h (fun hc h => ?_) fun hc h => ?_
 ·refine aN h fun g0 h => ?_
  exact zaD
 ·exact aH hV [.tmp 4] rfl rfl rfl (aA h) xAd
attribute [go_sem] mM
def oN (F : Md) (f : qa) (prefix_1 : qa) : Option qa :=
 (kD F f prefix_1).bind (fun b => some b)
def aCf : PlR := ⟨[(0, .A [0, 1]), (1, .A [4])], [], []⟩
def aDl : Ty := .pair .str wj
def sB (F : Md) : aG := mSpec aDl (.one .str) (fun x => oN F x.1 x.2.1)
abbrev aDm (F : Md) : List (FuncId × aG) := [(204, (mM F))]
theorem aJK [Mx] (F : Md) : bE Tryz.prog GL (aDm F) := .cons (aEW F) xAa (.nil)
attribute [go_sem] aDl aCf
theorem aIK [Mx] (F : Md) : FOK Tryz.prog GL 185 (sB F) := by
 refine bN (bC (aJK F)) mix Tryz.func185 rfl xAa xAb aCf (fun w0 S x Θ g h hV => ?_)
 obtain ⟨(b : qa), (prefix_1 : qa), u⟩ := x
 simp only [bT, go_sem]
 replace h : sat (oN F b prefix_1) _ := h
 unfold oN at h
 refine aC h fun f hv h => ?_
 exact zam
attribute [go_sem] sB
def mO (F : Md) (f : qa) : Option Bool :=
 (oN F f (aV ⟨#[45]⟩)).bind (fun v_8 => (tE F v_8).bind (fun b => some b))
def aIl : PlR := ⟨[(0, .A [0]), (1, .A [2])], [], []⟩
def aJL : Ty := .pair .str .unit
def aAw (F : Md) : aG := mSpec aJL (.one .bool) (fun x => mO F x.1)
abbrev aEX (F : Md) : List (FuncId × aG) := [(100, (uN F)), (185, (sB F))]
theorem aS4 [Mx] (F : Md) : bE Tryz.prog GL (aEX F) := .cons (aJx F) xAa (.cons (aIK F) xAa (.nil))
attribute [go_sem] aJL aIl
theorem aQV [Mx] (F : Md) : FOK Tryz.prog GL 140 (aAw F) := by
 refine bN (bC (aS4 F)) mix Tryz.func140 rfl xAa xAb aIl (fun w0 S x Θ g h hV => ?_)
 obtain ⟨(b : qa), u⟩ := x
 simp only [bT, go_sem]
 replace h : sat (mO F b) _ := h
 unfold mO at h
 refine aC h fun v_8 hv h => ?_
 try simp only [hv, go_sem]
 refine aC h fun f hv h => ?_
 try simp only [hv, go_sem]
 exact zaH
attribute [go_sem] aAw
def gM (F : Md) (b : qm) : Option (qm ⊕ qz) :=
 some (.inr ((b.1, (1 : Int), ()), ()))
def aAK (F : Md) : fT where
 D := qm × (qm ⊕ qz)
 av := fun d => [.ptr 0 []]
 hp := fun d => [.box 3 (.val qi d.1)]
 m := 1
 pre := fun d => gM F d.1 = some d.2
 out := fun d => match d.2 with | .inl r => .ret (.tup []) [.box 3 (.val qi (r))] | .inr p => .pan ⟨45, wm, p⟩ [.box 3 (.junk)]
def vH (F : Md) (vs : List AV) (h : List Vc.Obj) : Hit := mkH (gM F (dU h (gX vs 0) qi)) (.inr (((0 : Int), (0 : Int), ()), ())) fun r => ⟨(aAK F), [(gX vs 0)], ((dU h (gX vs 0) qi), r)⟩
attribute [go_sem] vH
def aEY : PlR := ⟨[(0, .P [] [])], [], []⟩
abbrev aNv (F : Md) : List (FuncId × aG) := []
theorem aNw [Mx] (F : Md) : bE Tryz.prog GL (aNv F) := .nil
attribute [go_sem] aEY aAK
theorem aAL [Mx] (F : Md) : GOK Tryz.prog GL 56 (aAK F) := by
 refine kE (bC (aNw F)) mix Tryz.func56 rfl xAa (fun _ => Nat.le_of_ble_eq_true rfl) aEY (fun g w0 d j f h hV => ?_)
 obtain ⟨(b : qm), r⟩ := d
 have hF := hV.fr
 replace h := kF (show gM F b = some r from h)
 simp only [tP, List.map_cons, List.map_nil, go_sem]
 unfold gM at h
 obtain rfl := aL h
 exact zaG
def cE (F : Md) (f : Bool) (b : qm) : Option (qm ⊕ qz) :=
 if ¬ (f = true) then (gM F b).bind (fun e => match e with | .inl j => some (.inl j) | .inr g => some (.inr g)) else some (.inl b)
def aAM (F : Md) : fT where
 D := Bool × qm × (qm ⊕ qz)
 av := fun d => [.ptr 0 [], .val .bool d.1]
 hp := fun d => [.box 3 (.val qi d.2.1)]
 m := 1
 pre := fun d => cE F d.1 d.2.1 = some d.2.2
 out := fun d => match d.2.2 with | .inl r => .ret (.tup []) [.box 3 (.val qi (r))] | .inr p => .pan ⟨45, wm, p⟩ [.box 3 (.junk)]
def fX (F : Md) (vs : List AV) (h : List Vc.Obj) : Hit := mkH (cE F (rD h vs 1 .bool) (dU h (gX vs 0) qi)) (.inr (((0 : Int), (0 : Int), ()), ())) fun r => ⟨(aAM F), [(gX vs 0)], ((rD h vs 1 .bool), (dU h (gX vs 0) qi), r)⟩
attribute [go_sem] fX
def aEZ (F : Md) : PlR := ⟨[(0, .A [0, 5]), (1, .P [] [])], [], [(56, vH F)]⟩
abbrev aNx (F : Md) : List (FuncId × aG) := []
theorem aNy [Mx] (F : Md) : bE Tryz.prog GL (aNx F) := .nil
attribute [go_sem] aEZ aAM
theorem gU [Mx] (F : Md) : GOK Tryz.prog GL 53 (aAM F) := by
 refine kE (bC (aNy F)) mix Tryz.func53 rfl xAa (fun _ => Nat.le_of_ble_eq_true rfl) (aEZ F) (fun s w0 d z g h hV => ?_) (.cons (fun _ _ => (aAL F)) xAa (.nil))
 obtain ⟨(b : Bool), (f : qm), r⟩ := d
 have hF := hV.fr
 replace h := kF (show cE F b f = some r from h)
 simp only [tP, List.map_cons, List.map_nil, go_sem]
 unfold cE at h
 refine aAF h (fun hc h => ?_) fun hc h => ?_
 ·refine aC h fun e hv h => ?_
  rcases e with q | j
  ·try dsimp only at h
   exact zaL
  ·try dsimp only at h
   exact zan
 ·obtain rfl := aL h
  exact zaq
def fR (F : Md) (b : qm) : Option (qa × qm) :=
 ck (0 ≤ b.2.1 ∧ b.2.1 ≤ (b.2.2.1.length : Int)) (ck ((bY F (List.drop (b.2.1.toNat) b.2.2.1) (aV ⟨#[32]⟩)).isSome = true) (ck (aT2 ((bY F (List.drop (b.2.1.toNat) b.2.2.1) (aV ⟨#[32]⟩)).getD ([] : List Nat)) (aV ⟨#[32]⟩)) (some ((aAI ((bY F (List.drop (b.2.1.toNat) b.2.2.1) (aV ⟨#[32]⟩)).getD ([] : List Nat)) (aV ⟨#[32]⟩)).1, b))))
def vI (F : Md) : fT where
 D := qm × (qa × qm)
 av := fun d => [.ptr 0 []]
 hp := fun d => [.box 3 (.val qi d.1)]
 m := 1
 pre := fun d => fR F d.1 = some d.2
 out := fun d => (fun r : (qa × qm) => .ret (.val .str r.1) [.box 3 (.val qi r.2)]) d.2
def rQ (F : Md) (vs : List AV) (h : List Vc.Obj) : Hit := mkH (fR F (dU h (gX vs 0) qi)) (([] : List Nat), (0 : Int), (0 : Int), ([] : List Nat), ()) fun r => ⟨(vI F), [(gX vs 0)], ((dU h (gX vs 0) qi), r)⟩
attribute [go_sem] rQ
def aE0 : PlR := ⟨[(0, .A [0]), (1, .A [3]), (2, .A [4]), (3, .A [2])], [], []⟩
abbrev aBP (F : Md) : List (FuncId × aG) := [(17, oM), (48, (mX F))]
theorem aNz [Mx] (F : Md) : bE Tryz.prog GL (aBP F) := .cons aEU xAa (.cons (aDR F) xAa (.nil))
attribute [go_sem] aE0 vI
theorem rR [Mx] (F : Md) : GOK Tryz.prog GL 19 (vI F) := by
 refine kE (bC (aNz F)) mix Tryz.func19 rfl xAa (fun _ => Nat.le_of_ble_eq_true rfl) aE0 (fun g w0 d j f h hV => ?_)
 obtain ⟨(b : qm), r⟩ := d
 have hF := hV.fr
 replace h := kF (show fR F b = some r from h)
 simp only [tP, List.map_cons, List.map_nil, go_sem]
 unfold fR at h
 refine aN h fun g0 h => aN h fun g1 h => ?_
 refine aN h fun g0 h => ?_
 exact zap
def cL (F : Md) (j : qm) : Option ((qa × qm) ⊕ qz) :=
 (fR F j).bind (fun f => (cE F (!(decide (f.1 = (aV ⟨#[]⟩)))) f.2).bind (fun e => match e with | .inl b => ck (0 ≤ b.2.1 ∧ b.2.1 ≤ (b.2.2.1.length : Int)) (ck (aT2 (List.drop (b.2.1.toNat) b.2.2.1) f.1) (ck (I64 (b.2.1 + (aJC (List.drop (b.2.1.toNat) b.2.2.1) f.1))) (ck (I64 ((b.2.1 + (aJC (List.drop (b.2.1.toNat) b.2.2.1) f.1)) + (f.1.length : Int))) (some (.inl (f.1, b.1, ((b.2.1 + (aJC (List.drop (b.2.1.toNat) b.2.2.1) f.1)) + (f.1.length : Int)), b.2.2.1, ())))))) | .inr g => some (.inr g)))
def aAN (F : Md) : fT where
 D := qm × ((qa × qm) ⊕ qz)
 av := fun d => [.ptr 0 []]
 hp := fun d => [.box 3 (.val qi d.1)]
 m := 1
 pre := fun d => cL F d.1 = some d.2
 out := fun d => match d.2 with | .inl r => .ret (.val .str r.1) [.box 3 (.val qi r.2)] | .inr p => .pan ⟨45, wm, p⟩ [.box 3 (.junk)]
def fY (F : Md) (vs : List AV) (h : List Vc.Obj) : Hit := mkH (cL F (dU h (gX vs 0) qi)) (.inr (((0 : Int), (0 : Int), ()), ())) fun r => ⟨(aAN F), [(gX vs 0)], ((dU h (gX vs 0) qi), r)⟩
attribute [go_sem] fY
def aE1 (F : Md) : PlR := ⟨[(0, .A [0]), (1, .P [0, 3] []), (2, .P [0, 3] []), (3, .C 22 [3]), (4, .A [2])], [], [(19, rQ F), (53, fX F)]⟩
abbrev aFF (F : Md) : List (FuncId × aG) := [(90, yR)]
theorem aNA [Mx] (F : Md) : bE Tryz.prog GL (aFF F) := .cons aO5 xAa (.nil)
attribute [go_sem] aE1 aAN
theorem gV [Mx] (F : Md) : GOK Tryz.prog GL 52 (aAN F) := by
 refine kE (bC (aNA F)) mix Tryz.func52 rfl xAa (fun _ => Nat.le_of_ble_eq_true rfl) (aE1 F) (fun s w0 d I j h hV => ?_) (.cons (fun _ _ => (rR F)) xAa (.cons (fun _ _ => (gU F)) xAa (.nil)))
 obtain ⟨(b : qm), r⟩ := d
 have hF := hV.fr
 replace h := kF (show cL F b = some r from h)
 simp only [tP, List.map_cons, List.map_nil, go_sem]
 unfold cL at h
 refine aC h fun q hv h => ?_
 simp only [hv, go_sem]
 refine aC h fun e hv h => ?_
 rcases e with g | f
 ·try dsimp only at h
  simp only [hv, go_sem]
  refine ⟨by kernel_rfl, ?_⟩
  refine aN h fun g0 h => aN h fun g1 h => aN h fun J h => aN h fun z h => ?_
  exact zap
 ·try dsimp only at h
  exact zan
def dN (F : Md) (q : qa) (f : qm) : Option (qm ⊕ qz) :=
 (cL F f).bind (fun e => match e with | .inl b => (cE F (decide (b.1 = q)) b.2).bind (fun e => match e with | .inl j => some (.inl j) | .inr g => some (.inr g)) | .inr r => some (.inr r))
def aCw (F : Md) : fT where
 D := qa × qm × (qm ⊕ qz)
 av := fun d => [.ptr 0 [], .val .str d.1]
 hp := fun d => [.box 3 (.val qi d.2.1)]
 m := 1
 pre := fun d => dN F d.1 d.2.1 = some d.2.2
 out := fun d => match d.2.2 with | .inl r => .ret (.tup []) [.box 3 (.val qi (r))] | .inr p => .pan ⟨45, wm, p⟩ [.box 3 (.junk)]
def yU (F : Md) (vs : List AV) (h : List Vc.Obj) : Hit := mkH (dN F (rD h vs 1 .str) (dU h (gX vs 0) qi)) (.inr (((0 : Int), (0 : Int), ()), ())) fun r => ⟨(aCw F), [(gX vs 0)], ((rD h vs 1 .str), (dU h (gX vs 0) qi), r)⟩
attribute [go_sem] yU
def aGM (F : Md) : PlR := ⟨[(0, .P [] [])], [], [(52, fY F), (53, fX F)]⟩
abbrev aQW (F : Md) : List (FuncId × aG) := []
theorem aQX [Mx] (F : Md) : bE Tryz.prog GL (aQW F) := .nil
attribute [go_sem] aGM aCw
theorem aCx [Mx] (F : Md) : GOK Tryz.prog GL 49 (aCw F) := by
 refine kE (bC (aQX F)) mix Tryz.func49 rfl xAa (fun _ => Nat.le_of_ble_eq_true rfl) (aGM F) (fun I w0 d J q h hV => ?_) (.cons (fun _ _ => (gV F)) xAa (.cons (fun _ _ => (gU F)) xAa (.nil)))
 obtain ⟨(f : qa), (b : qm), r⟩ := d
 have hF := hV.fr
 replace h := kF (show dN F f b = some r from h)
 simp only [tP, List.map_cons, List.map_nil, go_sem]
 unfold dN at h
 refine aC h fun e hv h => ?_
 rcases e with z | s
 ·try dsimp only at h
  simp only [hv, go_sem]
  refine aC h fun e hv h => ?_
  rcases e with j | g
  ·try dsimp only at h
   exact zaL
  ·try dsimp only at h
   exact zan
 ·try dsimp only at h
  exact zan
def cJ (F : Md) (b : qm) : Option (qm ⊕ qz) :=
 (fR F b).bind (fun f => (cE F (decide (f.1 = (aV ⟨#[]⟩))) f.2).bind (fun e => match e with | .inl j => some (.inl j) | .inr g => some (.inr g)))
def aBQ (F : Md) : fT where
 D := qm × (qm ⊕ qz)
 av := fun d => [.ptr 0 []]
 hp := fun d => [.box 3 (.val qi d.1)]
 m := 1
 pre := fun d => cJ F d.1 = some d.2
 out := fun d => match d.2 with | .inl r => .ret (.tup []) [.box 3 (.val qi (r))] | .inr p => .pan ⟨45, wm, p⟩ [.box 3 (.junk)]
def wS (F : Md) (vs : List AV) (h : List Vc.Obj) : Hit := mkH (cJ F (dU h (gX vs 0) qi)) (.inr (((0 : Int), (0 : Int), ()), ())) fun r => ⟨(aBQ F), [(gX vs 0)], ((dU h (gX vs 0) qi), r)⟩
attribute [go_sem] wS
def aFG (F : Md) : PlR := ⟨[(0, .P [] [])], [], [(19, rQ F), (53, fX F)]⟩
abbrev aO9 (F : Md) : List (FuncId × aG) := []
theorem aPa [Mx] (F : Md) : bE Tryz.prog GL (aO9 F) := .nil
attribute [go_sem] aFG aBQ
theorem aBR [Mx] (F : Md) : GOK Tryz.prog GL 54 (aBQ F) := by
 refine kE (bC (aPa F)) mix Tryz.func54 rfl xAa (fun _ => Nat.le_of_ble_eq_true rfl) (aFG F) (fun s w0 d z g h hV => ?_) (.cons (fun _ _ => (rR F)) xAa (.cons (fun _ _ => (gU F)) xAa (.nil)))
 obtain ⟨(b : qm), r⟩ := d
 have hF := hV.fr
 replace h := kF (show cJ F b = some r from h)
 simp only [tP, List.map_cons, List.map_nil, go_sem]
 unfold cJ at h
 refine aC h fun f hv h => ?_
 simp only [hv, go_sem]
 refine aC h fun e hv h => ?_
 rcases e with q | j
 ·try dsimp only at h
  exact zaL
 ·try dsimp only at h
  exact zan
def gW (F : Md) (r_7 : (qa × qm)) (b : qm) : Option ((Int × qm) ⊕ qz) :=
 ck ((kX F r_7.1).isSome = true) (some (.inl (((kX F r_7.1).getD ((0 : Int), (), ())).1, b)))
def gE (F : Md) (b : qm) : Option ((Int × qm) ⊕ qz) :=
 (cL F b).bind (fun e => match e with | .inl r_7 => if (r_7.1.length : Int) ≤ (4 : Int) then ck ((kW F r_7.1 (aV ⟨#[48, 49, 50, 51, 52, 53, 54, 55, 56, 57]⟩)).isSome = true) ((cE F ((decide ((r_7.1.length : Int) ≤ (4 : Int))) && (decide (((kW F r_7.1 (aV ⟨#[48, 49, 50, 51, 52, 53, 54, 55, 56, 57]⟩)).getD ([] : List Nat)) = (aV ⟨#[]⟩)))) r_7.2).bind (fun e => match e with | .inl q => gW F r_7 q | .inr g => some (.inr g))) else (cE F false r_7.2).bind (fun e => match e with | .inl f => gW F r_7 f | .inr j => some (.inr j)) | .inr p_8 => some (.inr p_8))
def yC (F : Md) : fT where
 D := qm × ((Int × qm) ⊕ qz)
 av := fun d => [.ptr 0 []]
 hp := fun d => [.box 3 (.val qi d.1)]
 m := 1
 pre := fun d => gE F d.1 = some d.2
 out := fun d => match d.2 with | .inl r => .ret (.val qc r.1) [.box 3 (.val qi r.2)] | .inr p => .pan ⟨45, wm, p⟩ [.box 3 (.junk)]
def aDn (F : Md) (vs : List AV) (h : List Vc.Obj) : Hit := mkH (gE F (dU h (gX vs 0) qi)) (.inr (((0 : Int), (0 : Int), ()), ())) fun r => ⟨(yC F), [(gX vs 0)], ((dU h (gX vs 0) qi), r)⟩
attribute [go_sem] aDn
def aDo (F : Md) : PlR := ⟨[(0, .A [0]), (1, .P [0, 3] []), (2, .P [3] []), (3, .A [4]), (4, .A [2])], [(5, 6)], [(52, fY F), (53, fX F)]⟩
abbrev zV (F : Md) : List (FuncId × aG) := [(98, (sM F)), (99, (nB F))]
theorem aKD [Mx] (F : Md) : bE Tryz.prog GL (zV F) := .cons (aIa F) xAa (.cons (aDy F) xAa (.nil))
attribute [go_sem] aDo yC
theorem aJP [Mx] (F : Md) : GOK Tryz.prog GL 50 (yC F) := by
 refine kE (bC (aKD F)) mix Tryz.func50 rfl xAa (fun _ => Nat.le_of_ble_eq_true rfl) (aDo F) (fun L w0 d N J h hV => ?_) (.cons (fun _ _ => (gV F)) xAa (.cons (fun _ _ => (gU F)) xAa (.nil)))
 obtain ⟨(b : qm), r⟩ := d
 have hF := hV.fr
 replace h := kF (show gE F b = some r from h)
 simp only [tP, List.map_cons, List.map_nil, go_sem]
 unfold gE at h
 refine aC h fun e hv h => ?_
 rcases e with r_7 | p_8
 ·try dsimp only at h
  simp only [hv, go_sem]
  refine cX hV (D := qm) (fun d => sat (gW F r_7 d) (fun z => z = r)) [3] (fun d => []) (fun d => [.inr (.box 3 (.val qi d))]) ?_ ?_
  ·simp only [go_sem]
   refine ⟨fun hc => ?_, fun hc => ?_⟩
   ·replace h := gB zAC h
    refine ⟨fun _ => ?_, fun q => by first | (exfalso; omega) | (exfalso; simp_all; done)⟩
    refine aN h fun g0 h => ?_
    refine ⟨fun _ => ?_, fun q => by first | (exfalso; omega) | (exfalso; simp_all; done)⟩
    refine aC h fun e hv h => ?_
    rcases e with j | s
    ·try dsimp only at h
     simp only [hv, go_sem]
     repeat (refine ⟨zAB, ?_⟩)
     exact aU (j) h rfl xAc
    ·try dsimp only at h
     exact zaa
   ·replace h := gC zAC h
    first | (refine ⟨fun q => by first | (exfalso; omega) | (exfalso; simp_all; done), fun _ => ?_⟩) | (with_reducible intro _) | skip
    first | (refine ⟨fun q => by first | (exfalso; omega) | (exfalso; simp_all; done), fun _ => ?_⟩) | (with_reducible intro _) | skip
    refine aC h fun e hv h => ?_
    rcases e with f | I
    ·try dsimp only at h
     simp only [hv, go_sem]
     repeat (refine ⟨zAB, ?_⟩)
     exact aU (f) h rfl xAc
    ·try dsimp only at h
     exact zaa
  ·rintro g h
   simp only [go_sem]
   replace h : sat (gW F r_7 g) _ := h
   unfold gW at h
   refine aN h fun g0 h => ?_
   exact zap
 ·try dsimp only at h
  exact zan
def eU (F : Md) (b : qm) : Option ((qa × qm) ⊕ qz) :=
 (cL F b).bind (fun e => match e with | .inl r_7 => ck ((tE F r_7.1).isSome = true) ((cE F ((tE F r_7.1).getD false) r_7.2).bind (fun e => match e with | .inl r_13 => some (.inl (r_7.1, r_13)) | .inr p_14 => some (.inr p_14))) | .inr p_8 => some (.inr p_8))
def wO (F : Md) : fT where
 D := qm × ((qa × qm) ⊕ qz)
 av := fun d => [.ptr 0 []]
 hp := fun d => [.box 3 (.val qi d.1)]
 m := 1
 pre := fun d => eU F d.1 = some d.2
 out := fun d => match d.2 with | .inl r => .ret (.val .str r.1) [.box 3 (.val qi r.2)] | .inr p => .pan ⟨45, wm, p⟩ [.box 3 (.junk)]
def aCg (F : Md) (vs : List AV) (h : List Vc.Obj) : Hit := mkH (eU F (dU h (gX vs 0) qi)) (.inr (((0 : Int), (0 : Int), ()), ())) fun r => ⟨(wO F), [(gX vs 0)], ((dU h (gX vs 0) qi), r)⟩
attribute [go_sem] aCg
def aCh (F : Md) : PlR := ⟨[(0, .A [0]), (1, .P [0, 3] []), (2, .P [3] []), (3, .A [2])], [], [(52, fY F), (53, fX F)]⟩
abbrev aDp (F : Md) : List (FuncId × aG) := [(100, (uN F))]
theorem aJQ [Mx] (F : Md) : bE Tryz.prog GL (aDp F) := .cons (aJx F) xAa (.nil)
attribute [go_sem] aCh wO
theorem aIL [Mx] (F : Md) : GOK Tryz.prog GL 51 (wO F) := by
 refine kE (bC (aJQ F)) mix Tryz.func51 rfl xAa (fun _ => Nat.le_of_ble_eq_true rfl) (aCh F) (fun g w0 d j f h hV => ?_) (.cons (fun _ _ => (gV F)) xAa (.cons (fun _ _ => (gU F)) xAa (.nil)))
 obtain ⟨(b : qm), r⟩ := d
 have hF := hV.fr
 replace h := kF (show eU F b = some r from h)
 simp only [tP, List.map_cons, List.map_nil, go_sem]
 unfold eU at h
 exact zaT
def fS (F : Md) (b : qm) : Option ((qa × qm) ⊕ qz) :=
 (cL F b).bind (fun e => match e with | .inl r_7 => ck ((jV F r_7.1).isSome = true) ((cE F ((jV F r_7.1).getD false) r_7.2).bind (fun e => match e with | .inl r_13 => some (.inl (r_7.1, r_13)) | .inr p_14 => some (.inr p_14))) | .inr p_8 => some (.inr p_8))
def lK (F : Md) : fT where
 D := qm × ((qa × qm) ⊕ qz)
 av := fun d => [.ptr 0 []]
 hp := fun d => [.box 3 (.val qi d.1)]
 m := 1
 pre := fun d => fS F d.1 = some d.2
 out := fun d => match d.2 with | .inl r => .ret (.val .str r.1) [.box 3 (.val qi r.2)] | .inr p => .pan ⟨45, wm, p⟩ [.box 3 (.junk)]
def aE2 (F : Md) (vs : List AV) (h : List Vc.Obj) : Hit := mkH (fS F (dU h (gX vs 0) qi)) (.inr (((0 : Int), (0 : Int), ()), ())) fun r => ⟨(lK F), [(gX vs 0)], ((dU h (gX vs 0) qi), r)⟩
attribute [go_sem] aE2
def aE3 (F : Md) : PlR := ⟨[(0, .A [0]), (1, .P [0, 3] []), (2, .P [3] []), (3, .A [2])], [], [(52, fY F), (53, fX F)]⟩
abbrev aFH (F : Md) : List (FuncId × aG) := [(70, (qR F))]
theorem aNB [Mx] (F : Md) : bE Tryz.prog GL (aFH F) := .cons (aF4 F) xAa (.nil)
attribute [go_sem] aE3 lK
theorem rS [Mx] (F : Md) : GOK Tryz.prog GL 57 (lK F) := by
 refine kE (bC (aNB F)) mix Tryz.func57 rfl xAa (fun _ => Nat.le_of_ble_eq_true rfl) (aE3 F) (fun g w0 d j f h hV => ?_) (.cons (fun _ _ => (gV F)) xAa (.cons (fun _ _ => (gU F)) xAa (.nil)))
 obtain ⟨(b : qm), r⟩ := d
 have hF := hV.fr
 replace h := kF (show fS F b = some r from h)
 simp only [tP, List.map_cons, List.map_nil, go_sem]
 unfold fS at h
 exact zaT
def kM (F : Md) (g : qm) : Option ((qw × qm) ⊕ qz) :=
 (cL F g).bind (fun e => match e with | .inl r_7 => ck ((mO F r_7.1).isSome = true) ((cE F ((mO F r_7.1).getD false) r_7.2).bind (fun e => match e with | .inl r_13 => (fR F r_13).bind (fun b => ck ((mO F b.1).isSome = true) (if ((mO F b.1).getD false) = true then (cL F b.2).bind (fun e => match e with | .inl f => some (.inl ((r_7.1, f.1, ()), f.2)) | .inr j => some (.inr j)) else some (.inl ((r_7.1, ([] : List Nat), ()), b.2)))) | .inr p_14 => some (.inr p_14))) | .inr p_8 => some (.inr p_8))
def aAO (F : Md) : fT where
 D := qm × ((qw × qm) ⊕ qz)
 av := fun d => [.ptr 0 []]
 hp := fun d => [.box 3 (.val qi d.1)]
 m := 1
 pre := fun d => kM F d.1 = some d.2
 out := fun d => match d.2 with | .inl r => .ret (.val qf r.1) [.box 3 (.val qi r.2)] | .inr p => .pan ⟨45, wm, p⟩ [.box 3 (.junk)]
def aE4 (F : Md) (vs : List AV) (h : List Vc.Obj) : Hit := mkH (kM F (dU h (gX vs 0) qi)) (.inr (((0 : Int), (0 : Int), ()), ())) fun r => ⟨(aAO F), [(gX vs 0)], ((dU h (gX vs 0) qi), r)⟩
attribute [go_sem] aE4
def aE5 (F : Md) : PlR := ⟨[(0, .B [0, 2]), (1, .B [0, 2, 3]), (2, .P [0, 2, 3] []), (3, .P [0, 2, 3] []), (4, .P [0, 2, 3, 4] []), (5, .A [0, 2, 3, 16]), (6, .P [2, 3] []), (7, .B [2])], [], [(19, rQ F), (52, fY F), (53, fX F)]⟩
abbrev aFI (F : Md) : List (FuncId × aG) := [(140, (aAw F))]
theorem aNC [Mx] (F : Md) : bE Tryz.prog GL (aFI F) := .cons (aQV F) xAa (.nil)
attribute [go_sem] aE5 aAO
theorem aL1 [Mx] (F : Md) : GOK Tryz.prog GL 101 (aAO F) := by
 refine kE (bC (aNC F)) mix Tryz.func101 rfl xAa (fun _ => Nat.le_of_ble_eq_true rfl) (aE5 F) (fun s w0 d z q h hV => ?_) (.cons (fun _ _ => (rR F)) xAa (.cons (fun _ _ => (gV F)) xAa (.cons (fun _ _ => (gU F)) xAa (.nil))))
 obtain ⟨(b : qm), r⟩ := d
 have hF := hV.fr
 replace h := kF (show kM F b = some r from h)
 simp only [tP, List.map_cons, List.map_nil, go_sem]
 unfold kM at h
 refine aC h fun e hv h => ?_
 rcases e with r_7 | p_8
 ·try dsimp only at h
  simp only [hv, go_sem]
  refine aN h fun g0 h => ?_
  refine aC h fun e hv h => ?_
  rcases e with r_13 | p_14
  ·try dsimp only at h
   simp only [hv, go_sem]
   refine aC h fun j hv h => ?_
   simp only [hv, go_sem]
   refine aN h fun g0 h => ?_
   refine aGq h (fun hc h => ?_) fun hc h => ?_
   ·refine aC h fun e hv h => ?_
    rcases e with f | g
    ·try dsimp only at h
     simp only [hv, go_sem]
     obtain rfl := aL h
     refine kV hF [.cell 2 72] [0] rfl rfl rfl rfl rfl rfl rfl rfl rfl ?_
     exact zaC
    ·try dsimp only at h
     exact zaN
   ·obtain rfl := aL h
    refine kV hF [.cell 2 72] [0] rfl rfl rfl rfl rfl rfl rfl rfl rfl ?_
    exact zaC
  ·try dsimp only at h
   exact zaN
 ·try dsimp only at h
  exact zaN
def kN (F : Md) (b : qm) : Option ((Ex × qm) ⊕ qz) :=
 ck (0 ≤ b.2.1 ∧ b.2.1 ≤ (b.2.2.1.length : Int)) (ck ((bY F (List.drop (b.2.1.toNat) b.2.2.1) (aV ⟨#[32]⟩)).isSome = true) (ck (I64 ((b.2.2.1.length : Int) - ((((bY F (List.drop (b.2.1.toNat) b.2.2.1) (aV ⟨#[32]⟩)).getD ([] : List Nat)).length : Nat) : Int))) (ck ((jX F ((bY F (List.drop (b.2.1.toNat) b.2.2.1) (aV ⟨#[32]⟩)).getD ([] : List Nat))).isSome = true) (if ¬ (((jX F ((bY F (List.drop (b.2.1.toNat) b.2.2.1) (aV ⟨#[32]⟩)).getD ([] : List Nat))).getD ((Ex.mk 0 [] []), (0 : Int), (0 : Int), ())).2.2.1 = (0 : Int)) then ck (I64 (((b.2.2.1.length : Int) - ((((bY F (List.drop (b.2.1.toNat) b.2.2.1) (aV ⟨#[32]⟩)).getD ([] : List Nat)).length : Nat) : Int)) + ((jX F ((bY F (List.drop (b.2.1.toNat) b.2.2.1) (aV ⟨#[32]⟩)).getD ([] : List Nat))).getD ((Ex.mk 0 [] []), (0 : Int), (0 : Int), ())).2.1)) (ck (I64 ((((b.2.2.1.length : Int) - ((((bY F (List.drop (b.2.1.toNat) b.2.2.1) (aV ⟨#[32]⟩)).getD ([] : List Nat)).length : Nat) : Int)) + ((jX F ((bY F (List.drop (b.2.1.toNat) b.2.2.1) (aV ⟨#[32]⟩)).getD ([] : List Nat))).getD ((Ex.mk 0 [] []), (0 : Int), (0 : Int), ())).2.1) + (1 : Int))) (some (.inr ((b.1, ((((b.2.2.1.length : Int) - ((((bY F (List.drop (b.2.1.toNat) b.2.2.1) (aV ⟨#[32]⟩)).getD ([] : List Nat)).length : Nat) : Int)) + ((jX F ((bY F (List.drop (b.2.1.toNat) b.2.2.1) (aV ⟨#[32]⟩)).getD ([] : List Nat))).getD ((Ex.mk 0 [] []), (0 : Int), (0 : Int), ())).2.1) + (1 : Int)), ()), ())))) else some (.inl (((jX F ((bY F (List.drop (b.2.1.toNat) b.2.2.1) (aV ⟨#[32]⟩)).getD ([] : List Nat))).getD ((Ex.mk 0 [] []), (0 : Int), (0 : Int), ())).1, b.1, (b.2.2.1.length : Int), b.2.2.1, ()))))))
def aAP (F : Md) : fT where
 D := qm × ((Ex × qm) ⊕ qz)
 av := fun d => [.ptr 0 []]
 hp := fun d => [.box 3 (.val qi d.1)]
 m := 1
 pre := fun d => kN F d.1 = some d.2
 out := fun d => match d.2 with | .inl r => .ret (.val .expr r.1) [.box 3 (.val qi r.2)] | .inr p => .pan ⟨45, wm, p⟩ [.box 3 (.junk)]
def aE6 (F : Md) (vs : List AV) (h : List Vc.Obj) : Hit := mkH (kN F (dU h (gX vs 0) qi)) (.inr (((0 : Int), (0 : Int), ()), ())) fun r => ⟨(aAP F), [(gX vs 0)], ((dU h (gX vs 0) qi), r)⟩
attribute [go_sem] aE6
def aE7 : PlR := ⟨[(0, .B [0, 2]), (1, .A [0, 2, 3]), (2, .A [0, 2, 3, 4]), (3, .B [0, 2, 4, 5, 6, 7]), (4, .A [0, 2, 4, 5, 6, 33]), (5, .P [0, 2, 5] []), (6, .B [2, 5]), (7, .B [2])], [], []⟩
abbrev aBS (F : Md) : List (FuncId × aG) := [(13, (wH F)), (48, (mX F))]
theorem aND [Mx] (F : Md) : bE Tryz.prog GL (aBS F) := .cons (aK5 F) xAa (.cons (aDR F) xAa (.nil))
attribute [go_sem] aE7 aAP
theorem aL2 [Mx] (F : Md) : GOK Tryz.prog GL 102 (aAP F) := by
 refine kE (bC (aND F)) mix Tryz.func102 rfl xAa (fun _ => Nat.le_of_ble_eq_true rfl) aE7 (fun g w0 d j f h hV => ?_)
 obtain ⟨(b : qm), r⟩ := d
 have hF := hV.fr
 replace h := kF (show kN F b = some r from h)
 simp only [tP, List.map_cons, List.map_nil, go_sem]
 unfold kN at h
 refine aN h fun g0 h => aN h fun g1 h => ?_
 refine aN h fun g0 h => ?_
 refine aN h fun g0 h => ?_
 refine cI h (fun hc h => ?_) fun hc h => ?_
 ·refine aN h fun g0 h => ?_
  refine aN h fun g0 h => ?_
  obtain rfl := aL h
  refine bF [0] rfl rfl (yaB ?_)
  exact zaG
 ·obtain rfl := aL h
  refine kV hF [.cell 2 40] [0] rfl rfl rfl rfl rfl rfl rfl rfl rfl ?_
  exact zaC
def kO (F : Md) (b : qm) : Option ((qw × qm) ⊕ qz) :=
 (cL F b).bind (fun e => match e with | .inl r_7 => ck (aT2 r_7.1 (aV ⟨#[46]⟩)) (if (aAI r_7.1 (aV ⟨#[46]⟩)).2.2.1 = true then ck ((jV F (aAI r_7.1 (aV ⟨#[46]⟩)).1).isSome = true) (if ((aAI r_7.1 (aV ⟨#[46]⟩)).2.2.1 = true) ∧ (((jV F (aAI r_7.1 (aV ⟨#[46]⟩)).1).getD false) = true) then ck ((jV F (aAI r_7.1 (aV ⟨#[46]⟩)).2.1).isSome = true) ((cE F (((aAI r_7.1 (aV ⟨#[46]⟩)).2.2.1 && ((jV F (aAI r_7.1 (aV ⟨#[46]⟩)).1).getD false)) && ((jV F (aAI r_7.1 (aV ⟨#[46]⟩)).2.1).getD false)) r_7.2).bind (fun e => match e with | .inl s => some (.inl (((aAI r_7.1 (aV ⟨#[46]⟩)).1, (aAI r_7.1 (aV ⟨#[46]⟩)).2.1, ()), s)) | .inr f => some (.inr f))) else (cE F false r_7.2).bind (fun e => match e with | .inl r => some (.inl (((aAI r_7.1 (aV ⟨#[46]⟩)).1, (aAI r_7.1 (aV ⟨#[46]⟩)).2.1, ()), r)) | .inr g => some (.inr g))) else (cE F false r_7.2).bind (fun e => match e with | .inl j => some (.inl (((aAI r_7.1 (aV ⟨#[46]⟩)).1, (aAI r_7.1 (aV ⟨#[46]⟩)).2.1, ()), j)) | .inr q => some (.inr q))) | .inr p_8 => some (.inr p_8))
def aAQ (F : Md) : fT where
 D := qm × ((qw × qm) ⊕ qz)
 av := fun d => [.ptr 0 []]
 hp := fun d => [.box 3 (.val qi d.1)]
 m := 1
 pre := fun d => kO F d.1 = some d.2
 out := fun d => match d.2 with | .inl r => .ret (.tup [.val .str r.1.1, .val .str r.1.2.1]) [.box 3 (.val qi r.2)] | .inr p => .pan ⟨45, wm, p⟩ [.box 3 (.junk)]
def aE8 (F : Md) (vs : List AV) (h : List Vc.Obj) : Hit := mkH (kO F (dU h (gX vs 0) qi)) (.inr (((0 : Int), (0 : Int), ()), ())) fun r => ⟨(aAQ F), [(gX vs 0)], ((dU h (gX vs 0) qi), r)⟩
attribute [go_sem] aE8
def aE9 (F : Md) : PlR := ⟨[(0, .A [0]), (1, .P [0, 4, 5, 6] []), (2, .P [4, 5] []), (3, .A [2, 3])], [], [(52, fY F), (53, fX F)]⟩
abbrev aBT (F : Md) : List (FuncId × aG) := [(17, oM), (70, (qR F))]
theorem aNE [Mx] (F : Md) : bE Tryz.prog GL (aBT F) := .cons aEU xAa (.cons (aF4 F) xAa (.nil))
attribute [go_sem] aE9 aAQ
theorem aL3 [Mx] (F : Md) : GOK Tryz.prog GL 55 (aAQ F) := by
 refine kE (bC (aNE F)) mix Tryz.func55 rfl xAa (fun _ => Nat.le_of_ble_eq_true rfl) (aE9 F) (fun L w0 d N J h hV => ?_) (.cons (fun _ _ => (gV F)) xAa (.cons (fun _ _ => (gU F)) xAa (.nil)))
 obtain ⟨(b : qm), r⟩ := d
 have hF := hV.fr
 replace h := kF (show kO F b = some r from h)
 simp only [tP, List.map_cons, List.map_nil, go_sem]
 unfold kO at h
 refine aC h fun e hv h => ?_
 rcases e with r_7 | p_8
 ·try dsimp only at h
  simp only [hv, go_sem]
  repeat (refine ⟨zAB, ?_⟩)
  refine aN h fun g0 h => ?_
  refine ⟨fun hc => ?_, fun hc => ?_⟩
  ·replace h := gB zAC h
   refine ⟨fun _ => ?_, fun f => by first | (exfalso; omega) | (exfalso; simp_all; done)⟩
   refine aN h fun g0 h => ?_
   refine ⟨fun hc => ?_, fun hc => ?_⟩
   ·replace h := gB zAC h
    refine ⟨fun _ => ?_, fun f => by first | (exfalso; omega) | (exfalso; simp_all; done)⟩
    refine aN h fun g0 h => ?_
    refine aC h fun e hv h => ?_
    rcases e with I | g
    ·try dsimp only at h
     exact zak
    ·try dsimp only at h
     exact zaa
   ·replace h := gC zAC h
    first | (refine ⟨fun f => by first | (exfalso; omega) | (exfalso; simp_all; done), fun _ => ?_⟩) | (with_reducible intro _) | skip
    refine aC h fun e hv h => ?_
    rcases e with z | j
    ·try dsimp only at h
     exact zak
    ·try dsimp only at h
     exact zaa
  ·replace h := gC zAC h
   first | (refine ⟨fun f => by first | (exfalso; omega) | (exfalso; simp_all; done), fun _ => ?_⟩) | (with_reducible intro _) | skip
   first | (refine ⟨fun f => by first | (exfalso; omega) | (exfalso; simp_all; done), fun _ => ?_⟩) | (with_reducible intro _) | skip
   first | (refine ⟨fun f => by first | (exfalso; omega) | (exfalso; simp_all; done), fun _ => ?_⟩) | (with_reducible intro _) | skip
   refine aC h fun e hv h => ?_
   rcases e with q | s
   ·try dsimp only at h
    exact zak
   ·try dsimp only at h
    exact zaa
 ·try dsimp only at h
  exact zaa
end
end Nu
end Go.Proofs

