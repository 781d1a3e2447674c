import Derived.Test.YtlijgfkkmamanaaGreatDoorZS3
import Derived.Test.YtlijgfkkmamanaaGreatDoorZS2
set_option linter.unusedVariables false
set_option linter.unusedSimpArgs false
namespace Go.Proofs
open Go.Vc
set_option maxRecDepth 20000
namespace Nu
noncomputable section
set_option maxHeartbeats 4000000
attribute [-go_sem] Ex.kind Ex.text Ex.l
def yV (F : Md) (j : Int) (b : qe) (f : qm) : Option ((qe × qm) ⊕ qz) :=
 if j = (0 : Int) then (dN F (aV ⟨#[112, 114, 101, 99]⟩) f).bind (fun e => match e with | .inl r_42 => (gE F r_42).bind (fun e => match e with | .inl J => (cJ F J.2).bind (fun e => match e with | .inl r_46 => some (.inl ((J.1, b.2.1, b.2.2.1, b.2.2.2.1, b.2.2.2.2.1, b.2.2.2.2.2.1, b.2.2.2.2.2.2.1, b.2.2.2.2.2.2.2.1, b.2.2.2.2.2.2.2.2.1, b.2.2.2.2.2.2.2.2.2.1, ()), r_46)) | .inr p_47 => some (.inr p_47)) | .inr p_45 => some (.inr p_45)) | .inr p_43 => some (.inr p_43)) else if j = (1 : Int) then (dN F (aV ⟨#[101, 110, 100]⟩) f).bind (fun e => match e with | .inl r_52 => (eU F r_52).bind (fun e => match e with | .inl L => (cJ F L.2).bind (fun e => match e with | .inl r_56 => some (.inl ((b.1, b.2.1, b.2.2.1, b.2.2.2.1, L.1, b.2.2.2.2.2.1, b.2.2.2.2.2.2.1, b.2.2.2.2.2.2.2.1, b.2.2.2.2.2.2.2.2.1, b.2.2.2.2.2.2.2.2.2.1, ()), r_56)) | .inr p_57 => some (.inr p_57)) | .inr p_55 => some (.inr p_55)) | .inr p_53 => some (.inr p_53)) else if j = (2 : Int) then (dN F (aV ⟨#[115, 116, 101, 112]⟩) f).bind (fun e => match e with | .inl r_62 => (eU F r_62).bind (fun e => match e with | .inl s => (eU F s.2).bind (fun e => match e with | .inl z => (cJ F z.2).bind (fun e => match e with | .inl r_68 => some (.inl ((b.1, b.2.1, b.2.2.1, b.2.2.2.1, b.2.2.2.2.1, s.1, z.1, b.2.2.2.2.2.2.2.1, b.2.2.2.2.2.2.2.2.1, b.2.2.2.2.2.2.2.2.2.1, ()), r_68)) | .inr p_69 => some (.inr p_69)) | .inr p_66 => some (.inr p_66)) | .inr Z => some (.inr Z)) | .inr p_63 => some (.inr p_63)) else if j = (3 : Int) then (dN F (aV ⟨#[116, 111, 108]⟩) f).bind (fun e => match e with | .inl r_74 => (eU F r_74).bind (fun e => match e with | .inl q => (cJ F q.2).bind (fun e => match e with | .inl r_78 => some (.inl ((b.1, b.2.1, b.2.2.1, b.2.2.2.1, b.2.2.2.2.1, b.2.2.2.2.2.1, b.2.2.2.2.2.2.1, q.1, b.2.2.2.2.2.2.2.2.1, b.2.2.2.2.2.2.2.2.2.1, ()), r_78)) | .inr p_79 => some (.inr p_79)) | .inr p_77 => some (.inr p_77)) | .inr p_75 => some (.inr p_75)) else if j = (4 : Int) then (dN F (aV ⟨#[116, 114, 105, 101, 115]⟩) f).bind (fun e => match e with | .inl r_84 => (gE F r_84).bind (fun e => match e with | .inl I => (cJ F I.2).bind (fun e => match e with | .inl r_88 => some (.inl ((b.1, I.1, b.2.2.1, b.2.2.2.1, b.2.2.2.2.1, b.2.2.2.2.2.1, b.2.2.2.2.2.2.1, b.2.2.2.2.2.2.2.1, b.2.2.2.2.2.2.2.2.1, b.2.2.2.2.2.2.2.2.2.1, ()), r_88)) | .inr p_89 => some (.inr p_89)) | .inr p_87 => some (.inr p_87)) | .inr p_85 => some (.inr p_85)) else if j = (5 : Int) then (dN F (aV ⟨#[111, 114, 100, 101, 114]⟩) f).bind (fun e => match e with | .inl r_94 => (gE F r_94).bind (fun e => match e with | .inl r => (cJ F r.2).bind (fun e => match e with | .inl r_98 => some (.inl ((b.1, b.2.1, r.1, b.2.2.2.1, b.2.2.2.2.1, b.2.2.2.2.2.1, b.2.2.2.2.2.2.1, b.2.2.2.2.2.2.2.1, b.2.2.2.2.2.2.2.2.1, b.2.2.2.2.2.2.2.2.2.1, ()), r_98)) | .inr p_99 => some (.inr p_99)) | .inr p_97 => some (.inr p_97)) | .inr p_95 => some (.inr p_95)) else (cL F f).bind (fun e => match e with | .inl g => (cE F (aDW .str (aCU .str (aCU .str ([] : List vE) (aV ⟨#[106, 97, 99, 111, 98, 105]⟩) (1 : Int)) (aV ⟨#[115, 101, 105, 100, 101, 108]⟩) (2 : Int)) g.1).isSome g.2).bind (fun e => match e with | .inl N => (cJ F N).bind (fun e => match e with | .inl U => some (.inl ((b.1, b.2.1, b.2.2.1, ((aDW .str (aCU .str (aCU .str ([] : List vE) (aV ⟨#[106, 97, 99, 111, 98, 105]⟩) (1 : Int)) (aV ⟨#[115, 101, 105, 100, 101, 108]⟩) (2 : Int)) g.1).getD (0 : Int)), b.2.2.2.2.1, b.2.2.2.2.2.1, b.2.2.2.2.2.2.1, b.2.2.2.2.2.2.2.1, b.2.2.2.2.2.2.2.2.1, b.2.2.2.2.2.2.2.2.2.1, ()), U)) | .inr Y => some (.inr Y)) | .inr O => some (.inr O)) | .inr W => some (.inr W))
def aCM (F : Md) : fT where
 D := Int × qe × qm × ((qe × qm) ⊕ qz)
 av := fun d => [.ptr 0 [], .val qc d.1, .ptr 1 []]
 hp := fun d => [.box 10 (.agg [.val qc d.2.1.1, .val qc d.2.1.2.1, .val qc d.2.1.2.2.1, .val qc d.2.1.2.2.2.1, .val .str d.2.1.2.2.2.2.1, .val .str d.2.1.2.2.2.2.2.1, .val .str d.2.1.2.2.2.2.2.2.1, .val .str d.2.1.2.2.2.2.2.2.2.1, .own 2, .own 3]), .box 3 (.val qi d.2.2.1), .tre 63 qg qD d.2.1.2.2.2.2.2.2.2.2.1, .row 69 qs d.2.1.2.2.2.2.2.2.2.2.2.1]
 m := 2
 pre := fun d => yV F d.1 d.2.1 d.2.2.1 = some d.2.2.2
 out := fun d => match d.2.2.2 with | .inl r => .ret (.tup []) [.box 10 (.agg [.val qc r.1.1, .val qc r.1.2.1, .val qc r.1.2.2.1, .val qc r.1.2.2.2.1, .val .str r.1.2.2.2.2.1, .val .str r.1.2.2.2.2.2.1, .val .str r.1.2.2.2.2.2.2.1, .val .str r.1.2.2.2.2.2.2.2.1, .own 2, .own 3]), .box 3 (.val qi r.2), .tre 63 qg qD r.1.2.2.2.2.2.2.2.2.1, .row 69 qs r.1.2.2.2.2.2.2.2.2.2.1] | .inr p => .pan ⟨45, wm, p⟩ [.box 10 (.junk), .box 3 (.junk)]
def aLb (F : Md) : PlR := ⟨[(0, .A [0, 2, 8]), (1, .P [0, 2, 6, 7] []), (2, .P [0, 2, 6] []), (3, .B [2]), (4, .A [0, 2, 8, 24]), (5, .P [0, 2] []), (6, .P [2] []), (7, .A [0, 2, 8, 33]), (8, .P [0, 2] []), (9, .P [2] []), (10, .A [0, 2, 8, 42]), (11, .P [0, 2] []), (12, .P [2] []), (13, .A [0, 2, 8, 56]), (14, .P [0, 2] []), (15, .P [2] []), (16, .A [0, 2, 8, 65]), (17, .P [0, 2] []), (18, .P [2] []), (19, .A [0, 2, 74]), (20, .P [0, 2] []), (21, .P [2] []), (22, .P [] [])], [], [(49, yU F), (50, aDn F), (51, aCg F), (52, fY F), (53, fX F), (54, wS F)]⟩
abbrev aWk (F : Md) : List (FuncId × aG) := []
theorem aWl [Mx] (F : Md) : bE Tryz.prog GL (aWk F) := .nil
attribute [go_sem] aLb aCM
theorem aLc [Mx] (F : Md) : GOK Tryz.prog GL 20 (aCM F) := by
 refine kE (aXt (aWl F)) mix Tryz.func20 rfl xAa (fun _ => Nat.le_of_ble_eq_true rfl) (aLb F) (fun c0 w0 d hw hw2 h hV => ?_) (.cons (fun _ _ => (aCx F)) xAa (.cons (fun _ _ => (aJP F)) xAa (.cons (fun _ _ => (aIL F)) xAa (.cons (fun _ _ => (gV F)) xAa (.cons (fun _ _ => (gU F)) xAa (.cons (fun _ _ => (aBR F)) xAa (.nil)))))))
 obtain ⟨(g : Int), (f : qe), (b : qm), r⟩ := d
 have hF := hV.fr
 replace h := kF (show yV F g f b = some r from h)
 simp only [tP, List.map_cons, List.map_nil, go_sem]
 unfold yV at h
 refine cI h (fun hc h => ?_) fun hc h => ?_
 ·refine aC h fun e hv h => ?_
  rcases e with r_42 | p_43
  ·try dsimp only at h
   simp only [hv, go_sem]
   refine aC h fun e hv h => ?_
   rcases e with r_44 | p_45
   ·try dsimp only at h
    simp only [hv, go_sem]
    refine aC h fun e hv h => ?_
    rcases e with r_46 | p_47
    ·try dsimp only at h
     exact zaL
    ·try dsimp only at h
     exact zaA
   ·try dsimp only at h
    exact zaA
  ·try dsimp only at h
   exact zaA
 ·refine cI h (fun hc h => ?_) fun hc h => ?_
  ·refine aC h fun e hv h => ?_
   rcases e with r_52 | p_53
   ·try dsimp only at h
    simp only [hv, go_sem]
    refine aC h fun e hv h => ?_
    rcases e with r_54 | p_55
    ·try dsimp only at h
     simp only [hv, go_sem]
     refine aC h fun e hv h => ?_
     rcases e with r_56 | p_57
     ·try dsimp only at h
      exact zaL
     ·try dsimp only at h
      exact zaA
    ·try dsimp only at h
     exact zaA
   ·try dsimp only at h
    exact zaA
  ·refine cI h (fun hc h => ?_) fun hc h => ?_
   ·refine aC h fun e hv h => ?_
    rcases e with r_62 | p_63
    ·try dsimp only at h
     simp only [hv, go_sem]
     refine aC h fun e hv h => ?_
     rcases e with r_64 | L
     ·try dsimp only at h
      simp only [hv, go_sem]
      refine aC h fun e hv h => ?_
      rcases e with r_65 | p_66
      ·try dsimp only at h
       simp only [hv, go_sem]
       refine aC h fun e hv h => ?_
       rcases e with r_68 | p_69
       ·try dsimp only at h
        exact zaL
       ·try dsimp only at h
        exact zaA
      ·try dsimp only at h
       exact zaA
     ·try dsimp only at h
      exact zaA
    ·try dsimp only at h
     exact zaA
   ·refine cI h (fun hc h => ?_) fun hc h => ?_
    ·refine aC h fun e hv h => ?_
     rcases e with O | N
     ·try dsimp only at h
      simp only [hv, go_sem]
      refine aC h fun e hv h => ?_
      rcases e with Z | p_77
      ·try dsimp only at h
       simp only [hv, go_sem]
       refine aC h fun e hv h => ?_
       rcases e with r_78 | p_79
       ·try dsimp only at h
        exact zaL
       ·try dsimp only at h
        exact zaA
      ·try dsimp only at h
       exact zaA
     ·try dsimp only at h
      exact zaA
    ·refine cI h (fun hc h => ?_) fun hc h => ?_
     ·refine aC h fun e hv h => ?_
      rcases e with U | p_85
      ·try dsimp only at h
       simp only [hv, go_sem]
       refine aC h fun e hv h => ?_
       rcases e with r_86 | p_87
       ·try dsimp only at h
        simp only [hv, go_sem]
        refine aC h fun e hv h => ?_
        rcases e with r_88 | p_89
        ·try dsimp only at h
         exact zaL
        ·try dsimp only at h
         exact zaA
       ·try dsimp only at h
        exact zaA
      ·try dsimp only at h
       exact zaA
     ·refine cI h (fun hc h => ?_) fun hc h => ?_
      ·refine aC h fun e hv h => ?_
       rcases e with r_94 | p_95
       ·try dsimp only at h
        simp only [hv, go_sem]
        refine aC h fun e hv h => ?_
        rcases e with r_96 | p_97
        ·try dsimp only at h
         simp only [hv, go_sem]
         refine aC h fun e hv h => ?_
         rcases e with W | Y
         ·try dsimp only at h
          exact zaL
         ·try dsimp only at h
          exact zaA
        ·try dsimp only at h
         exact zaA
       ·try dsimp only at h
        exact zaA
      ·refine aC h fun e hv h => ?_
       rcases e with j | I
       ·try dsimp only at h
        simp only [hv, go_sem]
        refine aC h fun e hv h => ?_
        rcases e with q | s
        ·try dsimp only at h
         simp only [hv, go_sem]
         refine aC h fun e hv h => ?_
         rcases e with z | J
         ·try dsimp only at h
          simp only [hv, go_sem]
          obtain rfl := aL h
          refine gR (iI [0, 1, 2, 3] rfl rfl (yaB ?_))
          exact zad
         ·try dsimp only at h
          exact zaA
        ·try dsimp only at h
         exact zaA
       ·try dsimp only at h
        exact zaA
def yW (F : Md) (ox0_2 : w7) (ok0_2 : Nat) (b : qB) (o1_3 : qm) : Option ((qB × qm) ⊕ qz) :=
 (cL F o1_3).bind (fun e => match e with | .inl f => if f.1 = (aV ⟨#[115, 116, 97, 116, 101]⟩) then (fS F f.2).bind (fun e => match e with | .inl r => (dN F (aV ⟨#[61]⟩) r.2).bind (fun e => match e with | .inl r_53 => (kM F r_53).bind (fun e => match e with | .inl I => (dN F (aV ⟨#[100, 101, 114]⟩) I.2).bind (fun e => match e with | .inl r_65 => (kN F r_65).bind (fun e => match e with | .inl q => ck (((b.2.1.length) + (1 : Nat)) * 145 ≤ 140737488355328) ((cJ F q.2).bind (fun e => match e with | .inl r_73 => some (.inl ((b.1, (b.2.1 ++ ([(r.1, I.1, q.1, ())] : List q8)), b.2.2.1, b.2.2.2.1, b.2.2.2.2.1, ()), r_73)) | .inr p_74 => some (.inr p_74))) | .inr p_72 => some (.inr p_72)) | .inr p_66 => some (.inr p_66)) | .inr p_60 => some (.inr p_60)) | .inr p_54 => some (.inr p_54)) | .inr p_48 => some (.inr p_48)) else if f.1 = (aV ⟨#[112, 97, 114]⟩) then (fS F f.2).bind (fun e => match e with | .inl z => (dN F (aV ⟨#[61]⟩) z.2).bind (fun e => match e with | .inl r_85 => (kM F r_85).bind (fun e => match e with | .inl s => ck (((b.2.2.1.length) + (1 : Nat)) * 73 ≤ 140737488355328) ((cJ F s.2).bind (fun e => match e with | .inl r_93 => some (.inl ((b.1, b.2.1, (b.2.2.1 ++ ([(z.1, s.1, ())] : List wd)), b.2.2.2.1, b.2.2.2.2.1, ()), r_93)) | .inr p_94 => some (.inr p_94))) | .inr p_92 => some (.inr p_92)) | .inr p_86 => some (.inr p_86)) | .inr p_80 => some (.inr p_80)) else if f.1 = (aV ⟨#[105, 110]⟩) then (fS F f.2).bind (fun e => match e with | .inl J => ck (((b.2.2.2.1.length) + (1 : Nat)) * 16 ≤ 140737488355328) ((cJ F J.2).bind (fun e => match e with | .inl r_97 => some (.inl ((b.1, b.2.1, b.2.2.1, (b.2.2.2.1 ++ ([J.1] : List qa)), b.2.2.2.2.1, ()), r_97)) | .inr p_98 => some (.inr p_98))) | .inr p_96 => some (.inr p_96)) else if f.1 = (aV ⟨#[111, 117, 116]⟩) then (fS F f.2).bind (fun e => match e with | .inl g => (dN F (aV ⟨#[61]⟩) g.2).bind (fun e => match e with | .inl W => (kN F W).bind (fun e => match e with | .inl j => ck (((b.2.2.2.2.1.length) + (1 : Nat)) * 97 ≤ 140737488355328) ((cJ F j.2).bind (fun e => match e with | .inl r_117 => some (.inl ((b.1, b.2.1, b.2.2.1, b.2.2.2.1, (b.2.2.2.2.1 ++ ([(g.1, j.1, ())] : List qy)), ()), r_117)) | .inr U => some (.inr U))) | .inr Z => some (.inr Z)) | .inr p_110 => some (.inr p_110)) | .inr O => some (.inr O)) else (gM F f.2).bind (fun e => match e with | .inl N => (cJ F N).bind (fun e => match e with | .inl r_121 => some (.inl ((b.1, b.2.1, b.2.2.1, b.2.2.2.1, b.2.2.2.2.1, ()), r_121)) | .inr Y => some (.inr Y)) | .inr L => some (.inr L)) | .inr p_42 => some (.inr p_42))
def aCN (F : Md) : fT where
 D := w7 × Nat × qB × qm × ((qB × qm) ⊕ qz)
 av := fun d => [.ptr 0 [.idx 5 d.2.1], .ptr 1 []]
 hp := fun d => [.trh 63 qg qD d.1 d.2.1 (.agg [.val .str d.2.2.1.1, .own 2, .own 3, .own 4, .own 5]), .box 3 (.val qi d.2.2.2.1), .row 74 qp d.2.2.1.2.1, .row 91 qv d.2.2.1.2.2.1, .row 9 .str d.2.2.1.2.2.2.1, .row 76 qr d.2.2.1.2.2.2.2.1]
 m := 2
 pre := fun d => yW F d.1 d.2.1 d.2.2.1 d.2.2.2.1 = some d.2.2.2.2
 out := fun d => match d.2.2.2.2 with | .inl r => .ret (.tup []) [.trh 63 qg qD d.1 d.2.1 (.agg [.val .str r.1.1, .own 2, .own 3, .own 4, .own 5]), .box 3 (.val qi r.2), .row 74 qp r.1.2.1, .row 91 qv r.1.2.2.1, .row 9 .str r.1.2.2.2.1, .row 76 qr r.1.2.2.2.2.1] | .inr p => .pan ⟨45, wm, p⟩ [.dead, .box 3 (.junk)]
def aLd (F : Md) : PlR := ⟨[(0, .P [0, 1, 8] []), (1, .P [1] []), (2, .A [0, 1, 8, 11]), (3, .P [0, 1, 4] []), (4, .P [0, 1, 4] []), (5, .P [0, 1, 4] []), (6, .P [0, 1, 4] []), (7, .P [0, 1, 4] []), (8, .stop), (9, .A [0, 1, 8, 36]), (10, .P [0, 1, 5] []), (11, .P [0, 1, 5] []), (12, .P [0, 1, 5] []), (13, .stop), (14, .A [0, 1, 8, 56]), (15, .stop), (16, .A [0, 1, 69]), (17, .P [0, 1, 6] []), (18, .P [0, 1, 6] []), (19, .P [0, 1, 6] []), (20, .stop), (21, .P [] [])], [], [(49, yU F), (52, fY F), (54, wS F), (56, vH F), (57, aE2 F), (101, aE4 F), (102, aE6 F)]⟩
abbrev aWm (F : Md) : List (FuncId × aG) := []
theorem aWn [Mx] (F : Md) : bE Tryz.prog GL (aWm F) := .nil
attribute [go_sem] aLd aCN
theorem aLe [Mx] (F : Md) : GOK Tryz.prog GL 58 (aCN F) := by
 refine kE (aXt (aWn F)) mix Tryz.func58 rfl xAa (fun _ => Nat.le_of_ble_eq_true rfl) (aLd F) (fun c0 w0 d hw hw2 h hV => ?_) (.cons (fun _ _ => (aCx F)) xAa (.cons (fun _ _ => (gV F)) xAa (.cons (fun _ _ => (aBR F)) xAa (.cons (fun _ _ => (aAL F)) xAa (.cons (fun _ _ => (rS F)) xAa (.cons (fun _ _ => (aL1 F)) xAa (.cons (fun _ _ => (aL2 F)) xAa (.nil))))))))
 obtain ⟨(g : w7), (b : Nat), (f : qB), (W : qm), r⟩ := d
 have hF := hV.fr
 replace h := kF (show yW F g b f W = some r from h)
 simp only [tP, List.map_cons, List.map_nil, go_sem]
 unfold yW at h
 refine aC h fun e hv h => ?_
 rcases e with O | p_42
 ·try dsimp only at h
  simp only [hv, go_sem]
  refine cI h (fun hc h => ?_) fun hc h => ?_
  ·refine aC h fun e hv h => ?_
   rcases e with L | p_48
   ·try dsimp only at h
    simp only [hv, go_sem]
    refine aC h fun e hv h => ?_
    rcases e with r_53 | p_54
    ·try dsimp only at h
     simp only [hv, go_sem]
     refine aC h fun e hv h => ?_
     rcases e with N | p_60
     ·try dsimp only at h
      simp only [hv, go_sem]
      refine aC h fun e hv h => ?_
      rcases e with r_65 | p_66
      ·try dsimp only at h
       simp only [hv, go_sem]
       refine aC h fun e hv h => ?_
       rcases e with s | p_72
       ·try dsimp only at h
        simp only [hv, go_sem]
        repeat (refine ⟨zAB, ?_⟩)
        obtain ⟨q0, h, hq⟩ := h
        obtain ⟨g0, h⟩ := bV h
        refine aFu hF [1] [6, 7, 10] [[0], [0], [27], [28], [29], [4], [31], [30, 32], [26], [34], [33, 35]] [(0, 0), (0, 1), (0, 2), (1, 0), (1, 1), (1, 2), (2, 0), (2, 1), (2, 2), (3, 0), (3, 1), (3, 2), (4, 0), (4, 1), (5, 0), (6, 0), (7, 1), (8, 2), (8, 3), (9, 2), (10, 2)] [.ptr 0 [.idx 5 b], .ptr 0 [.idx 5 b], .ptr 0 [.idx 5 b], .ptr 0 [.idx 5 b, .fld 1 1], .own 2, .val qp (L.1, N.1, s.1, ()), .own 7, .own 8, .ptr 0 [.idx 5 b], .ptr 0 [.idx 5 b, .fld 1 1], .junk] [[.trh 63 qg qD g b (.agg [.val .str f.1, .own 2, .own 3, .own 4, .own 5]), .box 3 (.val qi s.2), .row 74 qp f.2.1, .row 91 qv f.2.2.1, .row 9 .str f.2.2.2.1, .row 76 qr f.2.2.2.2.1, .box 6 (.val qp (L.1, N.1, s.1, ()))], [.trh 63 qg qD g b (.agg [.val .str f.1, .own 2, .own 3, .own 4, .own 5]), .box 3 (.val qi s.2), .row 74 qp f.2.1, .row 91 qv f.2.2.1, .row 9 .str f.2.2.2.1, .row 76 qr f.2.2.2.2.1, .box 6 (.val qp (L.1, N.1, s.1, ())), .row 74 qp ([(L.1, N.1, s.1, ())] : List q8)], [.trh 63 qg qD g b (.agg [.val .str f.1, .own 2, .own 3, .own 4, .own 5]), .box 3 (.val qi s.2), .dead, .row 91 qv f.2.2.1, .row 9 .str f.2.2.2.1, .row 76 qr f.2.2.2.2.1, .box 6 (.val qp (L.1, N.1, s.1, ())), .dead, .row 74 qp (f.2.1 ++ ([(L.1, N.1, s.1, ())] : List q8))], [.trh 63 qg qD g b (.agg [.val .str f.1, .own 8, .own 3, .own 4, .own 5]), .box 3 (.val qi s.2), .dead, .row 91 qv f.2.2.1, .row 9 .str f.2.2.2.1, .row 76 qr f.2.2.2.2.1, .box 6 (.val qp (L.1, N.1, s.1, ())), .dead, .row 74 qp (f.2.1 ++ ([(L.1, N.1, s.1, ())] : List q8))]] [[(0, .ptr 0 [.idx 5 b])], [(0, .ptr 0 [.idx 5 b])], [(27, .ptr 0 [.idx 5 b])], [(28, .ptr 0 [.idx 5 b])], [(29, .ptr 0 [.idx 5 b, .fld 1 1])], [(4, .ptr 6 [])], [(31, .val qp (L.1, N.1, s.1, ()))], [(30, .own 2), (32, .own 7)], [(26, .ptr 0 [.idx 5 b])], [(34, .ptr 0 [.idx 5 b])], [(33, .own 8), (35, .ptr 0 [.idx 5 b, .fld 1 1])]] xAb rfl rfl ?_ ?_
        ·simp only [go_sem]
         exact zaM
        show At _ _ [(1, .ptr 1 [])] [.trh 63 qg qD g b (.agg [.val .str f.1, .own 8, .own 3, .own 4, .own 5]), .box 3 (.val qi s.2), .dead, .row 91 qv f.2.2.1, .row 9 .str f.2.2.2.1, .row 76 qr f.2.2.2.2.1, .box 6 (.val qp (L.1, N.1, s.1, ())), .dead, .row 74 qp (f.2.1 ++ ([(L.1, N.1, s.1, ())] : List q8))]
        first | replace h := pD h hq | replace h := pD (Θ := (· = r)) h hq
        refine aFV hV (yaA ?_)
        refine aC h fun e hv h => ?_
        rcases e with r_73 | p_74
        ·try dsimp only at h
         simp only [hv, go_sem]
         obtain rfl := aL h
         refine gR (iI [0, 1, 8, 3, 4, 5] rfl rfl (yaB ?_))
         exact zad
        ·try dsimp only at h
         exact zaE
       ·try dsimp only at h
        exact zaE
      ·try dsimp only at h
       exact zaE
     ·try dsimp only at h
      exact zaE
    ·try dsimp only at h
     exact zaE
   ·try dsimp only at h
    exact zaE
  ·refine cI h (fun hc h => ?_) fun hc h => ?_
   ·refine aC h fun e hv h => ?_
    rcases e with J | p_80
    ·try dsimp only at h
     simp only [hv, go_sem]
     refine aC h fun e hv h => ?_
     rcases e with r_85 | p_86
     ·try dsimp only at h
      simp only [hv, go_sem]
      refine aC h fun e hv h => ?_
      rcases e with q | p_92
      ·try dsimp only at h
       simp only [hv, go_sem]
       repeat (refine ⟨zAB, ?_⟩)
       obtain ⟨q0, h, hq⟩ := h
       obtain ⟨g0, h⟩ := bV h
       refine aFu hF [1] [6, 7, 10] [[0], [0], [47], [48], [49], [5], [51], [50, 52], [46], [54], [53, 55]] [(0, 0), (0, 1), (0, 2), (1, 0), (1, 1), (1, 2), (2, 0), (2, 1), (2, 2), (3, 0), (3, 1), (3, 2), (4, 0), (4, 1), (5, 0), (6, 0), (7, 1), (8, 2), (8, 3), (9, 2), (10, 2)] [.ptr 0 [.idx 5 b], .ptr 0 [.idx 5 b], .ptr 0 [.idx 5 b], .ptr 0 [.idx 5 b, .fld 2 2], .own 3, .val qv (J.1, q.1, ()), .own 7, .own 8, .ptr 0 [.idx 5 b], .ptr 0 [.idx 5 b, .fld 2 2], .junk] [[.trh 63 qg qD g b (.agg [.val .str f.1, .own 2, .own 3, .own 4, .own 5]), .box 3 (.val qi q.2), .row 74 qp f.2.1, .row 91 qv f.2.2.1, .row 9 .str f.2.2.2.1, .row 76 qr f.2.2.2.2.1, .box 3 (.val qv (J.1, q.1, ()))], [.trh 63 qg qD g b (.agg [.val .str f.1, .own 2, .own 3, .own 4, .own 5]), .box 3 (.val qi q.2), .row 74 qp f.2.1, .row 91 qv f.2.2.1, .row 9 .str f.2.2.2.1, .row 76 qr f.2.2.2.2.1, .box 3 (.val qv (J.1, q.1, ())), .row 91 qv ([(J.1, q.1, ())] : List wd)], [.trh 63 qg qD g b (.agg [.val .str f.1, .own 2, .own 3, .own 4, .own 5]), .box 3 (.val qi q.2), .row 74 qp f.2.1, .dead, .row 9 .str f.2.2.2.1, .row 76 qr f.2.2.2.2.1, .box 3 (.val qv (J.1, q.1, ())), .row 91 qv ([(J.1, q.1, ())] : List wd), .row 91 qv (f.2.2.1 ++ ([(J.1, q.1, ())] : List wd))], [.trh 63 qg qD g b (.agg [.val .str f.1, .own 2, .own 8, .own 4, .own 5]), .box 3 (.val qi q.2), .row 74 qp f.2.1, .dead, .row 9 .str f.2.2.2.1, .row 76 qr f.2.2.2.2.1, .box 3 (.val qv (J.1, q.1, ())), .row 91 qv ([(J.1, q.1, ())] : List wd), .row 91 qv (f.2.2.1 ++ ([(J.1, q.1, ())] : List wd))]] [[(0, .ptr 0 [.idx 5 b])], [(0, .ptr 0 [.idx 5 b])], [(47, .ptr 0 [.idx 5 b])], [(48, .ptr 0 [.idx 5 b])], [(49, .ptr 0 [.idx 5 b, .fld 2 2])], [(5, .ptr 6 [])], [(51, .val qv (J.1, q.1, ()))], [(50, .own 3), (52, .own 7)], [(46, .ptr 0 [.idx 5 b])], [(54, .ptr 0 [.idx 5 b])], [(53, .own 8), (55, .ptr 0 [.idx 5 b, .fld 2 2])]] xAb rfl rfl ?_ ?_
       ·simp only [go_sem]
        exact zaM
       show At _ _ [(1, .ptr 1 [])] [.trh 63 qg qD g b (.agg [.val .str f.1, .own 2, .own 8, .own 4, .own 5]), .box 3 (.val qi q.2), .row 74 qp f.2.1, .dead, .row 9 .str f.2.2.2.1, .row 76 qr f.2.2.2.2.1, .box 3 (.val qv (J.1, q.1, ())), .row 91 qv ([(J.1, q.1, ())] : List wd), .row 91 qv (f.2.2.1 ++ ([(J.1, q.1, ())] : List wd))]
       first | replace h := pD h hq | replace h := pD (Θ := (· = r)) h hq
       refine aFV hV (yaA ?_)
       refine aC h fun e hv h => ?_
       rcases e with r_93 | p_94
       ·try dsimp only at h
        simp only [hv, go_sem]
        obtain rfl := aL h
        refine gR (iI [0, 1, 2, 8, 4, 5] rfl rfl (yaB ?_))
        exact zad
       ·try dsimp only at h
        exact zaE
      ·try dsimp only at h
       exact zaE
     ·try dsimp only at h
      exact zaE
    ·try dsimp only at h
     simp only [hv, go_sem]
     repeat (refine ⟨zAB, ?_⟩)
     obtain rfl := aL h
     refine aJ (mG 0 rfl aE) ?_
     exact zaf
   ·refine cI h (fun hc h => ?_) fun hc h => ?_
    ·obtain ⟨q0, h, hq⟩ := h
     obtain ⟨e, he1, h⟩ := bind_some h
     rcases e with I | U
     ·try dsimp only at h
      obtain ⟨g0, h⟩ := bV h
      refine sQ hF (eQ (l := [(57, ⟨lK F, [1], (O.2, .inl I)⟩)]) (.cons (rS F) xAa (.nil))) [] [1] [6, 7, 8, 11] [[0], [0], [59], [60], [61], [1], [63], [64], [62, 65], [58], [67], [66, 68]] [(0, 0), (0, 1), (0, 2), (0, 3), (1, 0), (1, 1), (1, 2), (1, 3), (2, 0), (2, 1), (2, 2), (2, 3), (3, 0), (3, 1), (3, 2), (3, 3), (4, 0), (4, 1), (4, 2), (5, 0), (6, 0), (7, 1), (8, 2), (9, 3), (9, 4), (10, 3), (11, 3)] [.ptr 0 [.idx 5 b], .ptr 0 [.idx 5 b], .ptr 0 [.idx 5 b], .ptr 0 [.idx 5 b, .fld 3 3], .own 4, .ptr 1 [], .val .str I.1, .own 6, .own 7, .ptr 0 [.idx 5 b], .ptr 0 [.idx 5 b, .fld 3 3], .junk] [[.trh 63 qg qD g b (.agg [.val .str f.1, .own 2, .own 3, .own 4, .own 5]), .box 3 (.val qi O.2), .row 74 qp f.2.1, .row 91 qv f.2.2.1, .row 9 .str f.2.2.2.1, .row 76 qr f.2.2.2.2.1], [.trh 63 qg qD g b (.agg [.val .str f.1, .own 2, .own 3, .own 4, .own 5]), .box 3 (.val qi I.2), .row 74 qp f.2.1, .row 91 qv f.2.2.1, .row 9 .str f.2.2.2.1, .row 76 qr f.2.2.2.2.1], [.trh 63 qg qD g b (.agg [.val .str f.1, .own 2, .own 3, .own 4, .own 5]), .box 3 (.val qi I.2), .row 74 qp f.2.1, .row 91 qv f.2.2.1, .row 9 .str f.2.2.2.1, .row 76 qr f.2.2.2.2.1, .row 9 .str ([I.1] : List qa)], [.trh 63 qg qD g b (.agg [.val .str f.1, .own 2, .own 3, .own 4, .own 5]), .box 3 (.val qi I.2), .row 74 qp f.2.1, .row 91 qv f.2.2.1, .dead, .row 76 qr f.2.2.2.2.1, .row 9 .str ([I.1] : List qa), .row 9 .str (f.2.2.2.1 ++ ([I.1] : List qa))], [.trh 63 qg qD g b (.agg [.val .str f.1, .own 2, .own 3, .own 7, .own 5]), .box 3 (.val qi I.2), .row 74 qp f.2.1, .row 91 qv f.2.2.1, .dead, .row 76 qr f.2.2.2.2.1, .row 9 .str ([I.1] : List qa), .row 9 .str (f.2.2.2.1 ++ ([I.1] : List qa))]] [[(0, .ptr 0 [.idx 5 b])], [(0, .ptr 0 [.idx 5 b])], [(59, .ptr 0 [.idx 5 b])], [(60, .ptr 0 [.idx 5 b])], [(61, .ptr 0 [.idx 5 b, .fld 3 3])], [(1, .ptr 1 [])], [(63, .ptr 1 [])], [(64, .val .str I.1)], [(62, .own 4), (65, .own 6)], [(58, .ptr 0 [.idx 5 b])], [(67, .ptr 0 [.idx 5 b])], [(66, .own 7), (68, .ptr 0 [.idx 5 b, .fld 3 3])]] false xAb rfl rfl ?_ ?_
      ·simp only [go_sem]
       exact zaM
      intro _
      show At _ _ [(1, .ptr 1 [])] [.trh 63 qg qD g b (.agg [.val .str f.1, .own 2, .own 3, .own 7, .own 5]), .box 3 (.val qi I.2), .row 74 qp f.2.1, .row 91 qv f.2.2.1, .dead, .row 76 qr f.2.2.2.2.1, .row 9 .str ([I.1] : List qa), .row 9 .str (f.2.2.2.1 ++ ([I.1] : List qa))]
      first | replace h := pD h hq | replace h := pD (Θ := (· = r)) h hq
      refine aFV hV (yaA ?_)
      refine aC h fun e hv h => ?_
      rcases e with r_97 | p_98
      ·try dsimp only at h
       simp only [hv, go_sem]
       obtain rfl := aL h
       refine gR (iI [0, 1, 2, 3, 7, 5] rfl rfl (yaB ?_))
       exact zad
      ·try dsimp only at h
       simp only [hv, go_sem]
       repeat (refine ⟨zAB, ?_⟩)
       obtain rfl := aL h
       refine aJ (mG 0 rfl aE) ?_
       exact zaf
     ·try dsimp only at h
      refine sQ hF (eQ (l := [(57, ⟨lK F, [1], (O.2, .inr U)⟩)]) (.cons (rS F) xAa (.nil))) [] [1] [6] [[0], [0], [59], [60], [61], [1], [63], [64], [62, 65], [58], [67], [66, 68]] [(0, 0), (1, 0), (2, 0), (3, 0), (4, 0), (5, 0), (6, 0)] [.ptr 0 [.idx 5 b], .ptr 0 [.idx 5 b], .ptr 0 [.idx 5 b], .ptr 0 [.idx 5 b, .fld 3 3], .own 4, .ptr 1 [], .junk, .junk, .junk, .junk, .junk, .junk] [[.trh 63 qg qD g b (.agg [.val .str f.1, .own 2, .own 3, .own 4, .own 5]), .box 3 (.val qi O.2), .row 74 qp f.2.1, .row 91 qv f.2.2.1, .row 9 .str f.2.2.2.1, .row 76 qr f.2.2.2.2.1]] [[(0, .ptr 0 [.idx 5 b])], [(0, .ptr 0 [.idx 5 b])], [(59, .ptr 0 [.idx 5 b])], [(60, .ptr 0 [.idx 5 b])], [(61, .ptr 0 [.idx 5 b, .fld 3 3])], [(1, .ptr 1 [])], [(63, .ptr 1 [])], [(64, .junk)], [(62, .own 4), (65, .junk)], [(58, .ptr 0 [.idx 5 b])], [(67, .junk)], [(66, .junk), (68, .junk)]] true xAb rfl rfl ?_ ?_
      rotate_left
      exact fun h => absurd h xAb
      simp only [go_sem]
      (repeat' apply And.intro) <;> try (first | trivial | rfl | with_reducible assumption | omega | (intros; first | with_reducible assumption | omega) | (simp; done) | (simp at *; omega))
      first | replace h := pD h hq | replace h := pD (Θ := (· = r)) h hq
      try simp only [go_sem]
      obtain rfl := aL h
      refine aJ (mG 0 rfl aE) ?_
      refine aJ (aI 1 rfl aE) (yaA ?_)
      refine bF [0, 1] rfl rfl (yaB ?_)
      refine aZ rfl rfl rfl rfl
    ·refine cI h (fun hc h => ?_) fun hc h => ?_
     ·refine aC h fun e hv h => ?_
      rcases e with z | p_104
      ·try dsimp only at h
       simp only [hv, go_sem]
       refine aC h fun e hv h => ?_
       rcases e with r_109 | p_110
       ·try dsimp only at h
        simp only [hv, go_sem]
        refine aC h fun e hv h => ?_
        rcases e with j | p_116
        ·try dsimp only at h
         simp only [hv, go_sem]
         repeat (refine ⟨zAB, ?_⟩)
         obtain ⟨q0, h, hq⟩ := h
         obtain ⟨g0, h⟩ := bV h
         refine aFu hF [1] [6, 7, 10] [[0], [0], [80], [81], [82], [6], [84], [83, 85], [79], [87], [86, 88]] [(0, 0), (0, 1), (0, 2), (1, 0), (1, 1), (1, 2), (2, 0), (2, 1), (2, 2), (3, 0), (3, 1), (3, 2), (4, 0), (4, 1), (5, 0), (6, 0), (7, 1), (8, 2), (8, 3), (9, 2), (10, 2)] [.ptr 0 [.idx 5 b], .ptr 0 [.idx 5 b], .ptr 0 [.idx 5 b], .ptr 0 [.idx 5 b, .fld 4 4], .own 5, .val qr (z.1, j.1, ()), .own 7, .own 8, .ptr 0 [.idx 5 b], .ptr 0 [.idx 5 b, .fld 4 4], .junk] [[.trh 63 qg qD g b (.agg [.val .str f.1, .own 2, .own 3, .own 4, .own 5]), .box 3 (.val qi j.2), .row 74 qp f.2.1, .row 91 qv f.2.2.1, .row 9 .str f.2.2.2.1, .row 76 qr f.2.2.2.2.1, .box 4 (.val qr (z.1, j.1, ()))], [.trh 63 qg qD g b (.agg [.val .str f.1, .own 2, .own 3, .own 4, .own 5]), .box 3 (.val qi j.2), .row 74 qp f.2.1, .row 91 qv f.2.2.1, .row 9 .str f.2.2.2.1, .row 76 qr f.2.2.2.2.1, .box 4 (.val qr (z.1, j.1, ())), .row 76 qr ([(z.1, j.1, ())] : List qy)], [.trh 63 qg qD g b (.agg [.val .str f.1, .own 2, .own 3, .own 4, .own 5]), .box 3 (.val qi j.2), .row 74 qp f.2.1, .row 91 qv f.2.2.1, .row 9 .str f.2.2.2.1, .dead, .box 4 (.val qr (z.1, j.1, ())), .dead, .row 76 qr (f.2.2.2.2.1 ++ ([(z.1, j.1, ())] : List qy))], [.trh 63 qg qD g b (.agg [.val .str f.1, .own 2, .own 3, .own 4, .own 8]), .box 3 (.val qi j.2), .row 74 qp f.2.1, .row 91 qv f.2.2.1, .row 9 .str f.2.2.2.1, .dead, .box 4 (.val qr (z.1, j.1, ())), .dead, .row 76 qr (f.2.2.2.2.1 ++ ([(z.1, j.1, ())] : List qy))]] [[(0, .ptr 0 [.idx 5 b])], [(0, .ptr 0 [.idx 5 b])], [(80, .ptr 0 [.idx 5 b])], [(81, .ptr 0 [.idx 5 b])], [(82, .ptr 0 [.idx 5 b, .fld 4 4])], [(6, .ptr 6 [])], [(84, .val qr (z.1, j.1, ()))], [(83, .own 5), (85, .own 7)], [(79, .ptr 0 [.idx 5 b])], [(87, .ptr 0 [.idx 5 b])], [(86, .own 8), (88, .ptr 0 [.idx 5 b, .fld 4 4])]] xAb rfl rfl ?_ ?_
         ·simp only [go_sem]
          exact zaM
         show At _ _ [(1, .ptr 1 [])] [.trh 63 qg qD g b (.agg [.val .str f.1, .own 2, .own 3, .own 4, .own 8]), .box 3 (.val qi j.2), .row 74 qp f.2.1, .row 91 qv f.2.2.1, .row 9 .str f.2.2.2.1, .dead, .box 4 (.val qr (z.1, j.1, ())), .dead, .row 76 qr (f.2.2.2.2.1 ++ ([(z.1, j.1, ())] : List qy))]
         first | replace h := pD h hq | replace h := pD (Θ := (· = r)) h hq
         refine aFV hV (yaA ?_)
         refine aC h fun e hv h => ?_
         rcases e with r_117 | p_118
         ·try dsimp only at h
          simp only [hv, go_sem]
          obtain rfl := aL h
          refine gR (iI [0, 1, 2, 3, 4, 8] rfl rfl (yaB ?_))
          exact zad
         ·try dsimp only at h
          exact zaE
        ·try dsimp only at h
         exact zaE
       ·try dsimp only at h
        exact zaE
      ·try dsimp only at h
       exact zaE
     ·refine aC h fun e hv h => ?_
      rcases e with Z | Y
      ·try dsimp only at h
       simp only [hv, go_sem]
       refine aC h fun e hv h => ?_
       rcases e with r_121 | p_122
       ·try dsimp only at h
        exact zaL
       ·try dsimp only at h
        exact zaE
      ·try dsimp only at h
       exact zaE
 ·try dsimp only at h
  exact zaE
def tZ (F : Md) (b : qe) (W : qm) : Option ((qe × qm) ⊕ qz) :=
 (fR F W).bind (fun g => if g.1 = (aV ⟨#[108, 105, 110, 107]⟩) then (cL F g.2).bind (fun e => match e with | .inl r_13 => (kO F r_13.2).bind (fun e => match e with | .inl j => (dN F (aV ⟨#[61]⟩) j.2).bind (fun e => match e with | .inl r_25 => (kO F r_25).bind (fun e => match e with | .inl q => (cJ F q.2).bind (fun e => match e with | .inl Y => ck (((b.2.2.2.2.2.2.2.2.2.1.length) + (1 : Nat)) * 97 ≤ 140737488355328) (some (.inl ((b.1, b.2.1, b.2.2.1, b.2.2.2.1, b.2.2.2.2.1, b.2.2.2.2.2.1, b.2.2.2.2.2.2.1, b.2.2.2.2.2.2.2.1, b.2.2.2.2.2.2.2.2.1, (b.2.2.2.2.2.2.2.2.2.1 ++ ([(j.1.1, j.1.2.1, q.1.1, q.1.2.1, ())] : List qk)), ()), Y))) | .inr I => some (.inr I)) | .inr Z => some (.inr Z)) | .inr p_26 => some (.inr p_26)) | .inr J => some (.inr J)) | .inr p_14 => some (.inr p_14)) else if (0 : Int) < (b.2.2.2.2.2.2.2.2.2.1.length : Int) then (gM F g.2).bind (fun e => match e with | .inl U => some (.inl ((b.1, b.2.1, b.2.2.1, b.2.2.2.1, b.2.2.2.2.1, b.2.2.2.2.2.1, b.2.2.2.2.2.2.1, b.2.2.2.2.2.2.2.1, b.2.2.2.2.2.2.2.2.1, b.2.2.2.2.2.2.2.2.2.1, ()), U)) | .inr L => some (.inr L)) else if g.1 = (aV ⟨#[115, 117, 98]⟩) then (cL F g.2).bind (fun e => match e with | .inl O => (fS F O.2).bind (fun e => match e with | .inl r => ck (((b.2.2.2.2.2.2.2.2.1.length) + (1 : Nat)) * 121 ≤ 140737488355328) ((cJ F r.2).bind (fun e => match e with | .inl r_53 => some (.inl ((b.1, b.2.1, b.2.2.1, b.2.2.2.1, b.2.2.2.2.1, b.2.2.2.2.2.1, b.2.2.2.2.2.2.1, b.2.2.2.2.2.2.2.1, (b.2.2.2.2.2.2.2.2.1 ++ ([(r.1, ([] : List q8), ([] : List wd), ([] : List qa), ([] : List qy), ())] : List qB)), b.2.2.2.2.2.2.2.2.2.1, ()), r_53)) | .inr N => some (.inr N))) | .inr p_52 => some (.inr p_52)) | .inr p_46 => some (.inr p_46)) else if (0 : Int) < (b.2.2.2.2.2.2.2.2.1.length : Int) then ck (((b.2.2.2.2.2.2.2.2.1.length : Int) - (1 : Int)).toNat < (b.2.2.2.2.2.2.2.2.1.length)) (ck (I64 ((b.2.2.2.2.2.2.2.2.1.length : Int) - (1 : Int))) (ck (0 ≤ ((b.2.2.2.2.2.2.2.2.1.length : Int) - (1 : Int)) ∧ ((b.2.2.2.2.2.2.2.2.1.length : Int) - (1 : Int)) < (b.2.2.2.2.2.2.2.2.1.length : Int)) ((yW F b.2.2.2.2.2.2.2.2.1 ((b.2.2.2.2.2.2.2.2.1.length : Int) - (1 : Int)).toNat ((b.2.2.2.2.2.2.2.2.1.getD ((b.2.2.2.2.2.2.2.2.1.length : Int) - (1 : Int)).toNat ([], [], [], [], [], ())).1, (b.2.2.2.2.2.2.2.2.1.getD ((b.2.2.2.2.2.2.2.2.1.length : Int) - (1 : Int)).toNat ([], [], [], [], [], ())).2.1, (b.2.2.2.2.2.2.2.2.1.getD ((b.2.2.2.2.2.2.2.2.1.length : Int) - (1 : Int)).toNat ([], [], [], [], [], ())).2.2.1, (b.2.2.2.2.2.2.2.2.1.getD ((b.2.2.2.2.2.2.2.2.1.length : Int) - (1 : Int)).toNat ([], [], [], [], [], ())).2.2.2.1, (b.2.2.2.2.2.2.2.2.1.getD ((b.2.2.2.2.2.2.2.2.1.length : Int) - (1 : Int)).toNat ([], [], [], [], [], ())).2.2.2.2.1, ()) g.2).bind (fun e => match e with | .inl f => some (.inl ((b.1, b.2.1, b.2.2.1, b.2.2.2.1, b.2.2.2.2.1, b.2.2.2.2.2.1, b.2.2.2.2.2.2.1, b.2.2.2.2.2.2.2.1, (b.2.2.2.2.2.2.2.2.1.set ((b.2.2.2.2.2.2.2.2.1.length : Int) - (1 : Int)).toNat (f.1.1, f.1.2.1, f.1.2.2.1, f.1.2.2.2.1, f.1.2.2.2.2.1, ())), b.2.2.2.2.2.2.2.2.2.1, ()), f.2)) | .inr z => some (.inr z))))) else (gM F g.2).bind (fun e => match e with | .inl s => some (.inl ((b.1, b.2.1, b.2.2.1, b.2.2.2.1, b.2.2.2.2.1, b.2.2.2.2.2.1, b.2.2.2.2.2.2.1, b.2.2.2.2.2.2.2.1, b.2.2.2.2.2.2.2.2.1, b.2.2.2.2.2.2.2.2.2.1, ()), s)) | .inr p_58 => some (.inr p_58)))
def aAx (F : Md) : fT where
 D := qe × qm × ((qe × qm) ⊕ qz)
 av := fun d => [.ptr 0 [], .ptr 1 []]
 hp := fun d => [.box 10 (.agg [.val qc d.1.1, .val qc d.1.2.1, .val qc d.1.2.2.1, .val qc d.1.2.2.2.1, .val .str d.1.2.2.2.2.1, .val .str d.1.2.2.2.2.2.1, .val .str d.1.2.2.2.2.2.2.1, .val .str d.1.2.2.2.2.2.2.2.1, .own 2, .own 3]), .box 3 (.val qi d.2.1), .tre 63 qg qD d.1.2.2.2.2.2.2.2.2.1, .row 69 qs d.1.2.2.2.2.2.2.2.2.2.1]
 m := 2
 pre := fun d => tZ F d.1 d.2.1 = some d.2.2
 out := fun d => match d.2.2 with | .inl r => .ret (.tup []) [.box 10 (.agg [.val qc r.1.1, .val qc r.1.2.1, .val qc r.1.2.2.1, .val qc r.1.2.2.2.1, .val .str r.1.2.2.2.2.1, .val .str r.1.2.2.2.2.2.1, .val .str r.1.2.2.2.2.2.2.1, .val .str r.1.2.2.2.2.2.2.2.1, .own 2, .own 3]), .box 3 (.val qi r.2), .tre 63 qg qD r.1.2.2.2.2.2.2.2.2.1, .row 69 qs r.1.2.2.2.2.2.2.2.2.2.1] | .inr p => .pan ⟨45, wm, p⟩ [.box 10 (.junk), .box 3 (.junk)]
def aIm (F : Md) : PlR := ⟨[(0, .A [0, 1, 4]), (1, .P [0, 1, 4, 5] []), (2, .P [] []), (3, .A [0, 1, 4, 5, 16]), (4, .P [0, 1] []), (5, .B [0, 1, 6]), (6, .P [0, 1, 6] []), (7, .P [0, 1, 6] []), (8, .P [0, 1, 6] []), (9, .P [0, 6] []), (10, .stop), (11, .A [0, 1, 4, 5, 49]), (12, .P [] []), (13, .A [0, 1, 4, 58]), (14, .P [0, 1] []), (15, .stop), (16, .P [] []), (17, .A [0, 1, 4, 77]), (18, .stop)], [], [(19, rQ F), (49, yU F), (52, fY F), (54, wS F), (55, aE8 F), (56, vH F)]⟩
abbrev aS5 (F : Md) : List (FuncId × aG) := []
theorem aS6 [Mx] (F : Md) : bE Tryz.prog GL (aS5 F) := .nil
attribute [go_sem] aIm aAx
theorem aIn [Mx] (F : Md) : GOK Tryz.prog GL 21 (aAx F) := by
 refine kE (aXt (aS6 F)) mix Tryz.func21 rfl xAa (fun _ => Nat.le_of_ble_eq_true rfl) (aIm F) (fun c0 w0 d hw hw2 h hV => ?_) (.cons (fun _ _ => (rR F)) xAa (.cons (fun _ _ => (aCx F)) xAa (.cons (fun _ _ => (gV F)) xAa (.cons (fun _ _ => (aBR F)) xAa (.cons (fun _ _ => (aL3 F)) xAa (.cons (fun _ _ => (aAL F)) xAa (.nil)))))))
 obtain ⟨(b : qe), (L : qm), r⟩ := d
 have hF := hV.fr
 replace h := kF (show tZ F b L = some r from h)
 simp only [tP, List.map_cons, List.map_nil, go_sem]
 unfold tZ at h
 refine aC h fun J hv h => ?_
 simp only [hv, go_sem]
 refine cI h (fun hc h => ?_) fun hc h => ?_
 ·refine aC h fun e hv h => ?_
  rcases e with r_13 | p_14
  ·try dsimp only at h
   simp only [hv, go_sem]
   refine aC h fun e hv h => ?_
   rcases e with f | W
   ·try dsimp only at h
    simp only [hv, go_sem]
    refine aC h fun e hv h => ?_
    rcases e with r_25 | p_26
    ·try dsimp only at h
     simp only [hv, go_sem]
     refine aC h fun e hv h => ?_
     rcases e with g | p_32
     ·try dsimp only at h
      simp only [hv, go_sem]
      refine aC h fun e hv h => ?_
      rcases e with s | U
      ·try dsimp only at h
       simp only [hv, go_sem]
       repeat (refine ⟨zAB, ?_⟩)
       obtain ⟨q0, h, hq⟩ := h
       obtain ⟨g0, h⟩ := bV h
       refine aFu hF [] [6, 7, 10] [[0], [0], [40], [41], [42], [6], [44], [43, 45], [39], [47], [46, 48]] [(0, 0), (0, 1), (0, 2), (1, 0), (1, 1), (1, 2), (2, 0), (2, 1), (2, 2), (3, 0), (3, 1), (3, 2), (4, 0), (4, 1), (5, 0), (6, 0), (7, 1), (8, 2), (8, 3), (9, 2), (10, 2)] [.ptr 0 [], .ptr 0 [], .ptr 0 [], .ptr 0 [.fld 9 9], .own 3, .val qs (f.1.1, f.1.2.1, g.1.1, g.1.2.1, ()), .own 5, .own 6, .ptr 0 [], .ptr 0 [.fld 9 9], .junk] [[.box 10 (.agg [.val qc b.1, .val qc b.2.1, .val qc b.2.2.1, .val qc b.2.2.2.1, .val .str b.2.2.2.2.1, .val .str b.2.2.2.2.2.1, .val .str b.2.2.2.2.2.2.1, .val .str b.2.2.2.2.2.2.2.1, .own 2, .own 3]), .box 3 (.val qi s), .tre 63 qg qD b.2.2.2.2.2.2.2.2.1, .row 69 qs b.2.2.2.2.2.2.2.2.2.1, .box 4 (.val qs (f.1.1, f.1.2.1, g.1.1, g.1.2.1, ()))], [.box 10 (.agg [.val qc b.1, .val qc b.2.1, .val qc b.2.2.1, .val qc b.2.2.2.1, .val .str b.2.2.2.2.1, .val .str b.2.2.2.2.2.1, .val .str b.2.2.2.2.2.2.1, .val .str b.2.2.2.2.2.2.2.1, .own 2, .own 3]), .box 3 (.val qi s), .tre 63 qg qD b.2.2.2.2.2.2.2.2.1, .row 69 qs b.2.2.2.2.2.2.2.2.2.1, .box 4 (.val qs (f.1.1, f.1.2.1, g.1.1, g.1.2.1, ())), .row 69 qs ([(f.1.1, f.1.2.1, g.1.1, g.1.2.1, ())] : List qk)], [.box 10 (.agg [.val qc b.1, .val qc b.2.1, .val qc b.2.2.1, .val qc b.2.2.2.1, .val .str b.2.2.2.2.1, .val .str b.2.2.2.2.2.1, .val .str b.2.2.2.2.2.2.1, .val .str b.2.2.2.2.2.2.2.1, .own 2, .own 3]), .box 3 (.val qi s), .tre 63 qg qD b.2.2.2.2.2.2.2.2.1, .dead, .box 4 (.val qs (f.1.1, f.1.2.1, g.1.1, g.1.2.1, ())), .row 69 qs ([(f.1.1, f.1.2.1, g.1.1, g.1.2.1, ())] : List qk), .row 69 qs (b.2.2.2.2.2.2.2.2.2.1 ++ ([(f.1.1, f.1.2.1, g.1.1, g.1.2.1, ())] : List qk))], [.box 10 (.agg [.val qc b.1, .val qc b.2.1, .val qc b.2.2.1, .val qc b.2.2.2.1, .val .str b.2.2.2.2.1, .val .str b.2.2.2.2.2.1, .val .str b.2.2.2.2.2.2.1, .val .str b.2.2.2.2.2.2.2.1, .own 2, .own 6]), .box 3 (.val qi s), .tre 63 qg qD b.2.2.2.2.2.2.2.2.1, .dead, .box 4 (.val qs (f.1.1, f.1.2.1, g.1.1, g.1.2.1, ())), .row 69 qs ([(f.1.1, f.1.2.1, g.1.1, g.1.2.1, ())] : List qk), .row 69 qs (b.2.2.2.2.2.2.2.2.2.1 ++ ([(f.1.1, f.1.2.1, g.1.1, g.1.2.1, ())] : List qk))]] [[(0, .ptr 0 [])], [(0, .ptr 0 [])], [(40, .ptr 0 [])], [(41, .ptr 0 [])], [(42, .ptr 0 [.fld 9 9])], [(6, .ptr 4 [])], [(44, .val qs (f.1.1, f.1.2.1, g.1.1, g.1.2.1, ()))], [(43, .own 3), (45, .own 5)], [(39, .ptr 0 [])], [(47, .ptr 0 [])], [(46, .own 6), (48, .ptr 0 [.fld 9 9])]] xAb rfl rfl ?_ ?_
       ·simp only [go_sem]
        exact zaM
       show At _ _ [] [.box 10 (.agg [.val qc b.1, .val qc b.2.1, .val qc b.2.2.1, .val qc b.2.2.2.1, .val .str b.2.2.2.2.1, .val .str b.2.2.2.2.2.1, .val .str b.2.2.2.2.2.2.1, .val .str b.2.2.2.2.2.2.2.1, .own 2, .own 6]), .box 3 (.val qi s), .tre 63 qg qD b.2.2.2.2.2.2.2.2.1, .dead, .box 4 (.val qs (f.1.1, f.1.2.1, g.1.1, g.1.2.1, ())), .row 69 qs ([(f.1.1, f.1.2.1, g.1.1, g.1.2.1, ())] : List qk), .row 69 qs (b.2.2.2.2.2.2.2.2.2.1 ++ ([(f.1.1, f.1.2.1, g.1.1, g.1.2.1, ())] : List qk))]
       first | replace h := pD h hq | replace h := pD (Θ := (· = r)) h hq
       refine aFV hV (yaA ?_)
       obtain rfl := aL h
       refine gR (iI [0, 1, 2, 6] rfl rfl (yaB ?_))
       exact zad
      ·try dsimp only at h
       exact zaA
     ·try dsimp only at h
      exact zaA
    ·try dsimp only at h
     exact zaA
   ·try dsimp only at h
    exact zaA
  ·try dsimp only at h
   exact zaA
 ·refine dY h (fun hc h => ?_) fun hc h => ?_
  ·refine aC h fun e hv h => ?_
   rcases e with r_39 | Y
   ·try dsimp only at h
    exact zaL
   ·try dsimp only at h
    exact zaA
  ·refine cI h (fun hc h => ?_) fun hc h => ?_
   ·refine aC h fun e hv h => ?_
    rcases e with z | p_46
    ·try dsimp only at h
     simp only [hv, go_sem]
     repeat (refine ⟨zAB, ?_⟩)
     obtain ⟨q0, h, hq⟩ := h
     obtain ⟨e, he1, h⟩ := bind_some h
     rcases e with j | N
     ·try dsimp only at h
      obtain ⟨g0, h⟩ := bV h
      refine sQ hF (eQ (l := [(57, ⟨lK F, [1], (z.2, .inl j)⟩)]) (.cons (rS F) xAa (.nil))) [] [1] [6, 7, 8, 9, 12] [[0], [0], [64], [65], [66], [1], [68], [69], [70], [67, 71], [63], [73], [72, 74]] [(0, 0), (0, 1), (0, 2), (0, 3), (0, 4), (1, 0), (1, 1), (1, 2), (1, 3), (1, 4), (2, 0), (2, 1), (2, 2), (2, 3), (2, 4), (3, 0), (3, 1), (3, 2), (3, 3), (3, 4), (4, 0), (4, 1), (4, 2), (4, 3), (5, 0), (6, 0), (7, 1), (8, 2), (9, 3), (10, 4), (10, 5), (11, 4), (12, 4)] [.ptr 0 [], .ptr 0 [], .ptr 0 [], .ptr 0 [.fld 8 8], .own 2, .ptr 1 [], .val .str j.1, .agg [.val .str j.1, .nilS, .nilS, .nilS, .nilS], .own 4, .own 5, .ptr 0 [], .ptr 0 [.fld 8 8], .junk] [[.box 10 (.agg [.val qc b.1, .val qc b.2.1, .val qc b.2.2.1, .val qc b.2.2.2.1, .val .str b.2.2.2.2.1, .val .str b.2.2.2.2.2.1, .val .str b.2.2.2.2.2.2.1, .val .str b.2.2.2.2.2.2.2.1, .own 2, .own 3]), .box 3 (.val qi z.2), .tre 63 qg qD b.2.2.2.2.2.2.2.2.1, .row 69 qs b.2.2.2.2.2.2.2.2.2.1], [.box 10 (.agg [.val qc b.1, .val qc b.2.1, .val qc b.2.2.1, .val qc b.2.2.2.1, .val .str b.2.2.2.2.1, .val .str b.2.2.2.2.2.1, .val .str b.2.2.2.2.2.2.1, .val .str b.2.2.2.2.2.2.2.1, .own 2, .own 3]), .box 3 (.val qi j.2), .tre 63 qg qD b.2.2.2.2.2.2.2.2.1, .row 69 qs b.2.2.2.2.2.2.2.2.2.1], [.box 10 (.agg [.val qc b.1, .val qc b.2.1, .val qc b.2.2.1, .val qc b.2.2.2.1, .val .str b.2.2.2.2.1, .val .str b.2.2.2.2.2.1, .val .str b.2.2.2.2.2.2.1, .val .str b.2.2.2.2.2.2.2.1, .own 2, .own 3]), .box 3 (.val qi j.2), .tre 63 qg qD b.2.2.2.2.2.2.2.2.1, .row 69 qs b.2.2.2.2.2.2.2.2.2.1], [.box 10 (.agg [.val qc b.1, .val qc b.2.1, .val qc b.2.2.1, .val qc b.2.2.2.1, .val .str b.2.2.2.2.1, .val .str b.2.2.2.2.2.1, .val .str b.2.2.2.2.2.2.1, .val .str b.2.2.2.2.2.2.2.1, .own 2, .own 3]), .box 3 (.val qi j.2), .tre 63 qg qD b.2.2.2.2.2.2.2.2.1, .row 69 qs b.2.2.2.2.2.2.2.2.2.1, .tre 63 qg qD ([(j.1, ([] : List q8), ([] : List wd), ([] : List qa), ([] : List qy), ())] : List qB)], [.box 10 (.agg [.val qc b.1, .val qc b.2.1, .val qc b.2.2.1, .val qc b.2.2.2.1, .val .str b.2.2.2.2.1, .val .str b.2.2.2.2.2.1, .val .str b.2.2.2.2.2.2.1, .val .str b.2.2.2.2.2.2.2.1, .own 2, .own 3]), .box 3 (.val qi j.2), .dead, .row 69 qs b.2.2.2.2.2.2.2.2.2.1, .dead, .tre 63 qg qD (b.2.2.2.2.2.2.2.2.1 ++ ([(j.1, ([] : List q8), ([] : List wd), ([] : List qa), ([] : List qy), ())] : List qB))], [.box 10 (.agg [.val qc b.1, .val qc b.2.1, .val qc b.2.2.1, .val qc b.2.2.2.1, .val .str b.2.2.2.2.1, .val .str b.2.2.2.2.2.1, .val .str b.2.2.2.2.2.2.1, .val .str b.2.2.2.2.2.2.2.1, .own 5, .own 3]), .box 3 (.val qi j.2), .dead, .row 69 qs b.2.2.2.2.2.2.2.2.2.1, .dead, .tre 63 qg qD (b.2.2.2.2.2.2.2.2.1 ++ ([(j.1, ([] : List q8), ([] : List wd), ([] : List qa), ([] : List qy), ())] : List qB))]] [[(0, .ptr 0 [])], [(0, .ptr 0 [])], [(64, .ptr 0 [])], [(65, .ptr 0 [])], [(66, .ptr 0 [.fld 8 8])], [(1, .ptr 1 [])], [(68, .ptr 1 [])], [(69, .val .str j.1)], [(70, .agg [.val .str j.1, .nilS, .nilS, .nilS, .nilS])], [(67, .own 2), (71, .own 4)], [(63, .ptr 0 [])], [(73, .ptr 0 [])], [(72, .own 5), (74, .ptr 0 [.fld 8 8])]] false xAb rfl rfl ?_ ?_
      ·simp only [go_sem]
       exact zaM
      intro _
      show At _ _ [(1, .ptr 1 [])] [.box 10 (.agg [.val qc b.1, .val qc b.2.1, .val qc b.2.2.1, .val qc b.2.2.2.1, .val .str b.2.2.2.2.1, .val .str b.2.2.2.2.2.1, .val .str b.2.2.2.2.2.2.1, .val .str b.2.2.2.2.2.2.2.1, .own 5, .own 3]), .box 3 (.val qi j.2), .dead, .row 69 qs b.2.2.2.2.2.2.2.2.2.1, .dead, .tre 63 qg qD (b.2.2.2.2.2.2.2.2.1 ++ ([(j.1, ([] : List q8), ([] : List wd), ([] : List qa), ([] : List qy), ())] : List qB))]
      first | replace h := pD h hq | replace h := pD (Θ := (· = r)) h hq
      refine aFV hV (yaA ?_)
      refine aC h fun e hv h => ?_
      rcases e with r_53 | Z
      ·try dsimp only at h
       simp only [hv, go_sem]
       obtain rfl := aL h
       refine gR (iI [0, 1, 5, 3] rfl rfl (yaB ?_))
       exact zad
      ·try dsimp only at h
       simp only [hv, go_sem]
       repeat (refine ⟨zAB, ?_⟩)
       obtain rfl := aL h
       refine aJ (aI 0 rfl aE) ?_
       exact zaf
     ·try dsimp only at h
      refine sQ hF (eQ (l := [(57, ⟨lK F, [1], (z.2, .inr N)⟩)]) (.cons (rS F) xAa (.nil))) [] [1] [6] [[0], [0], [64], [65], [66], [1], [68], [69], [70], [67, 71], [63], [73], [72, 74]] [(0, 0), (1, 0), (2, 0), (3, 0), (4, 0), (5, 0), (6, 0)] [.ptr 0 [], .ptr 0 [], .ptr 0 [], .ptr 0 [.fld 8 8], .own 2, .ptr 1 [], .junk, .junk, .junk, .junk, .junk, .junk, .junk] [[.box 10 (.agg [.val qc b.1, .val qc b.2.1, .val qc b.2.2.1, .val qc b.2.2.2.1, .val .str b.2.2.2.2.1, .val .str b.2.2.2.2.2.1, .val .str b.2.2.2.2.2.2.1, .val .str b.2.2.2.2.2.2.2.1, .own 2, .own 3]), .box 3 (.val qi z.2), .tre 63 qg qD b.2.2.2.2.2.2.2.2.1, .row 69 qs b.2.2.2.2.2.2.2.2.2.1]] [[(0, .ptr 0 [])], [(0, .ptr 0 [])], [(64, .ptr 0 [])], [(65, .ptr 0 [])], [(66, .ptr 0 [.fld 8 8])], [(1, .ptr 1 [])], [(68, .ptr 1 [])], [(69, .junk)], [(70, .junk)], [(67, .own 2), (71, .junk)], [(63, .ptr 0 [])], [(73, .junk)], [(72, .junk), (74, .junk)]] true xAb rfl rfl ?_ ?_
      rotate_left
      exact fun h => absurd h xAb
      simp only [go_sem]
      (repeat' apply And.intro) <;> try (first | trivial | rfl | with_reducible assumption | omega | (intros; first | with_reducible assumption | omega) | (simp; done) | (simp at *; omega))
      first | replace h := pD h hq | replace h := pD (Θ := (· = r)) h hq
      try simp only [go_sem]
      obtain rfl := aL h
      refine aJ (aI 0 rfl aE) ?_
      refine aJ (aI 1 rfl aE) (yaA ?_)
      refine bF [0, 1] rfl rfl (yaB ?_)
      refine aZ rfl rfl rfl rfl
    ·try dsimp only at h
     simp only [hv, go_sem]
     repeat (refine ⟨zAB, ?_⟩)
     obtain rfl := aL h
     refine aJ (aI 0 rfl aE) ?_
     exact zaf
   ·refine dY h (fun hc h => ?_) fun hc h => ?_
    ·refine aD h fun go h => ?_
     refine bCo 2 ((b.2.2.2.2.2.2.2.2.1.length : Int) - (1 : Int)).toNat rfl go rfl (yaA ?_)
     obtain ⟨q0, h, hq⟩ := h
     obtain ⟨g0, h⟩ := bV h
     try simp only [I64, I32] at g0
     obtain ⟨g1, h⟩ := bV h
     obtain ⟨e, he2, h⟩ := bind_some h
     rcases e with q | I
     ·try dsimp only at h
      refine cK hF (eQ (l := [(58, ⟨aCN F, [2, 1, 4, 5, 6, 7], (b.2.2.2.2.2.2.2.2.1, ((b.2.2.2.2.2.2.2.2.1.length : Int) - (1 : Int)).toNat, ((b.2.2.2.2.2.2.2.2.1.getD ((b.2.2.2.2.2.2.2.2.1.length : Int) - (1 : Int)).toNat ([], [], [], [], [], ())).1, (b.2.2.2.2.2.2.2.2.1.getD ((b.2.2.2.2.2.2.2.2.1.length : Int) - (1 : Int)).toNat ([], [], [], [], [], ())).2.1, (b.2.2.2.2.2.2.2.2.1.getD ((b.2.2.2.2.2.2.2.2.1.length : Int) - (1 : Int)).toNat ([], [], [], [], [], ())).2.2.1, (b.2.2.2.2.2.2.2.2.1.getD ((b.2.2.2.2.2.2.2.2.1.length : Int) - (1 : Int)).toNat ([], [], [], [], [], ())).2.2.2.1, (b.2.2.2.2.2.2.2.2.1.getD ((b.2.2.2.2.2.2.2.2.1.length : Int) - (1 : Int)).toNat ([], [], [], [], [], ())).2.2.2.2.1, ()), J.2, .inl q)⟩)]) (.cons (aLe F) xAa (.nil))) [] [] (yaF ?_)
      refine bCn 2 (q.1.1, q.1.2.1, q.1.2.2.1, q.1.2.2.2.1, q.1.2.2.2.2.1, ()) [8, 9, 10, 11] rfl (by first | rfl | (simp only [go_sem]; done)) rfl rfl (yaA ?_)
      first | replace h := pD h hq | replace h := pD (Θ := (· = r)) h hq
      refine aFV hV (yaA ?_)
      obtain rfl := aL h
      refine gR (iI [0, 1, 2, 3] rfl rfl (yaB ?_))
      exact zad
     ·try dsimp only at h
      refine cK hF (eQ (l := [(58, ⟨aCN F, [2, 1, 4, 5, 6, 7], (b.2.2.2.2.2.2.2.2.1, ((b.2.2.2.2.2.2.2.2.1.length : Int) - (1 : Int)).toNat, ((b.2.2.2.2.2.2.2.2.1.getD ((b.2.2.2.2.2.2.2.2.1.length : Int) - (1 : Int)).toNat ([], [], [], [], [], ())).1, (b.2.2.2.2.2.2.2.2.1.getD ((b.2.2.2.2.2.2.2.2.1.length : Int) - (1 : Int)).toNat ([], [], [], [], [], ())).2.1, (b.2.2.2.2.2.2.2.2.1.getD ((b.2.2.2.2.2.2.2.2.1.length : Int) - (1 : Int)).toNat ([], [], [], [], [], ())).2.2.1, (b.2.2.2.2.2.2.2.2.1.getD ((b.2.2.2.2.2.2.2.2.1.length : Int) - (1 : Int)).toNat ([], [], [], [], [], ())).2.2.2.1, (b.2.2.2.2.2.2.2.2.1.getD ((b.2.2.2.2.2.2.2.2.1.length : Int) - (1 : Int)).toNat ([], [], [], [], [], ())).2.2.2.2.1, ()), J.2, .inr I)⟩)]) (.cons (aLe F) xAa (.nil))) [] [] (yaF ?_)
      first | replace h := pD h hq | replace h := pD (Θ := (· = r)) h hq
      try simp only [go_sem]
      obtain rfl := aL h
      refine aJ (aI 0 rfl aE) ?_
      exact zaf
    ·refine aC h fun e hv h => ?_
     rcases e with O | p_58
     ·try dsimp only at h
      exact zaL
     ·try dsimp only at h
      exact zaA
def rT (F : Md) (f : qe) (b : wg) : Option wg :=
 if ¬ ((b.length : Int) = (f.2.2.2.2.2.2.2.2.2.1.length : Int)) then some f.2.2.2.2.2.2.2.2.2.1 else some b
def lL (F : Md) (g : qe) (j : Int) (q : Int) (b : Int) (f : wg) : Option ((Int × wg) ⊕ wg) :=
 if b < (g.2.2.2.2.2.2.2.2.2.1.length : Int) then ck (0 ≤ b ∧ b < (g.2.2.2.2.2.2.2.2.2.1.length : Int)) (if (¬ ((g.2.2.2.2.2.2.2.2.2.1.getD (b.toNat) ([], [], [], [], ())).1 = (g.2.2.2.2.2.2.2.2.1.getD (j.toNat) ([], [], [], [], [], ())).1)) ∨ (¬ ((g.2.2.2.2.2.2.2.2.2.1.getD (b.toNat) ([], [], [], [], ())).2.1 = ((g.2.2.2.2.2.2.2.2.1.getD (j.toNat) ([], [], [], [], [], ())).2.2.2.1.getD (q.toNat) ([] : List Nat)))) then ck (I64 (b + (1 : Int))) (some (.inl ((b + (1 : Int)), f))) else ck (((f.length) + (1 : Nat)) * 97 ≤ 140737488355328) (ck (I64 (b + (1 : Int))) (some (.inl ((b + (1 : Int)), (f ++ ([(g.2.2.2.2.2.2.2.2.2.1.getD (b.toNat) ([], [], [], [], ()))] : List qk))))))) else some (.inr f)
def lM (F : Md) (j : qe) (f : Int) (b : Int) (g : wg) : Option ((Int × wg) ⊕ wg) :=
 if b < (((j.2.2.2.2.2.2.2.2.1.getD (f.toNat) ([], [], [], [], [], ())).2.2.2.1.length : Nat) : Int) then ck (0 ≤ b ∧ b < (((j.2.2.2.2.2.2.2.2.1.getD (f.toNat) ([], [], [], [], [], ())).2.2.2.1.length : Nat) : Int)) ((dG F (fun d : Int × wg => lL F j f b d.1 d.2) ((0 : Int), g)).bind (fun e => ck (I64 (b + (1 : Int))) (some (.inl ((b + (1 : Int)), e))))) else some (.inr g)
def lN (F : Md) (g : qe) (b : Int) (f : wg) : Option ((Int × wg) ⊕ wg) :=
 if b < (g.2.2.2.2.2.2.2.2.1.length : Int) then ck (0 ≤ b ∧ b < (g.2.2.2.2.2.2.2.2.1.length : Int)) ((dG F (fun d : Int × wg => lM F g b d.1 d.2) ((0 : Int), f)).bind (fun e => ck (I64 (b + (1 : Int))) (some (.inl ((b + (1 : Int)), e))))) else some (.inr f)
def gF (F : Md) (b : qe) : Option wg :=
 (dG F (fun d : Int × wg => lN F b d.1 d.2) ((0 : Int), ([] : List qk))).bind (fun e => rT F b e)
def aGN : PlR := ⟨[(0, .B [1]), (1, .A [1, 3]), (2, .A [1, 3, 11, 12, 13]), (3, .A [1, 3, 11, 12, 13, 14]), (4, .B [1, 3, 5, 11, 12, 13]), (5, .A [1, 3, 5, 11, 12, 13, 18, 19, 20]), (6, .A [1, 3, 5, 11, 12, 13, 18, 19, 20, 21]), (7, .A [1, 3, 5, 7, 11, 12, 13, 18, 19, 20]), (8, .A [1, 3, 5, 7, 11, 12, 13, 18, 19, 20, 25, 26, 27]), (9, .A [1, 3, 5, 7, 11, 12, 13, 18, 19, 20, 25, 26, 27, 28]), (10, .B [1, 3, 5, 7, 9, 11, 12, 13, 18, 19, 20, 25, 26, 27]), (11, .A [1, 3, 5, 7, 9, 11, 12, 13, 18, 19, 20, 25, 26, 27, 41]), (12, .B [1, 3, 5, 7, 11, 12, 13, 18, 19, 20, 25, 26, 27]), (13, .A [1, 3, 5, 7, 11, 12, 13, 18, 19, 20, 25, 26, 27]), (14, .A [1, 3, 5, 11, 12, 13, 18, 19, 20]), (15, .A [1, 3, 11, 12, 13]), (16, .A [1, 3, 54]), (17, .A [2]), (18, .A [2])], [(5, 19)], []⟩
def aIo : Ty := .pair qh .unit
def yX (F : Md) : aG := mSpec aIo (.one (.sl qs)) (fun x => gF F x.1)
abbrev aQY (F : Md) : List (FuncId × aG) := []
theorem aQZ [Mx] (F : Md) : bE Tryz.prog GL (aQY F) := .nil
attribute [go_sem] aIo aGN
theorem aPb [Mx] (F : Md) : FOK Tryz.prog GL 22 (yX F) := by
 refine bN (bC (aQZ F)) mix Tryz.func22 rfl xAa xAb aGN (fun w0 S x Θ Y h hV => ?_)
 obtain ⟨(f : qe), u⟩ := x
 simp only [bT, go_sem]
 replace h : sat (gF F f) _ := h
 unfold gF at h
 refine cX hV (D := wg) (fun d => sat (rT F f d) Θ) [] (fun d => [(1, .ptr 0 []), (3, .own 1)]) (fun d => [.inr (.box 10 (.val qh f)), .inr (.row 69 qs d)]) ?_ ?_
 ·simp only [go_sem]
  refine aED 3 69 qs rfl (yaA ?_)
  refine bM hV (D := Int × wg) [11, 12] (fun d => [(1, .ptr 0 []), (3, .own 1), (13, .val qc d.1)]) (fun d => [.inr (.box 10 (.val qh f)), .inr (.row 69 qs d.2)]) h rfl xAc ?_
  rintro ⟨b, j⟩ A3 T3 O L h
  simp only [go_sem]
  replace h : sat (lN F f b j) _ := h
  unfold lN at h
  refine dY h (fun hc h => ?_) fun hc h => ?_
  ·refine aD h fun g0 h => (yaC ?_)
   refine bM hV (D := Int × wg) [11, 12, 13, 18, 19] (fun d => [(1, .ptr 0 []), (3, .own 1), (5, .ptr 2 []), (20, .val qc d.1)]) (fun d => [.inr (.box 10 (.val qh f)), .inr (.row 69 qs d.2), .inr (.box 5 (.val qD (f.2.2.2.2.2.2.2.2.1.getD (b.toNat) ([], [], [], [], [], ()))))]) h rfl xAc ?_
   rintro ⟨g, s⟩ A6 W U J h
   simp only [go_sem]
   replace h : sat (lM F f b g s) _ := h
   unfold lM at h
   refine dY h (fun hc h => ?_) fun hc h => ?_
   ·refine aD h fun g0 h => (yaC ?_)
    refine bM hV (D := Int × wg) [7, 11, 12, 13, 18, 19, 20, 25, 26] (fun d => [(1, .ptr 0 []), (3, .own 1), (5, .ptr 2 []), (27, .val qc d.1)]) (fun d => [.inr (.box 10 (.val qh f)), .inr (.row 69 qs d.2), .inr (.box 5 (.val qD (f.2.2.2.2.2.2.2.2.1.getD (b.toNat) ([], [], [], [], [], ()))))]) h rfl xAc ?_
    rintro ⟨r, q⟩ Z T9 I N h
    simp only [go_sem]
    replace h : sat (lL F f b g r q) _ := h
    unfold lL at h
    refine dY h (fun hc h => ?_) fun hc h => ?_
    ·refine aD h fun g0 h => (yaC ?_)
     refine ⟨fun hc => ?_, fun hc => ?_⟩
     ·replace h := gB hc h
      refine aN h fun g0 h => ?_
      replace h := I _ (aA h)
      refine iI [0, 1, 2] rfl rfl (yaA ?_)
      exact zaJ
     ·replace h := gC hc h
      refine aD h fun g0 h => (yaC ?_)
      refine aN h fun g0 h => ?_
      replace h := I _ (aA h)
      refine iI [0, 4, 2] rfl rfl (yaA ?_)
      exact zaJ
    ·replace h := yaG (N _ (aA h))
     refine aN h fun g0 h => ?_
     replace h := U _ (aA h)
     exact zaJ
   ·replace h := yaG (J _ (aA h))
    refine aN h fun g0 h => ?_
    replace h := O _ (aA h)
    refine iI [0, 1] rfl rfl (yaA ?_)
    exact zaJ
  ·replace h := yaG (L _ (aA h))
   exact aU (j) h rfl xAc
 ·rintro z h
  simp only [go_sem]
  replace h : sat (rT F f z) _ := h
  unfold rT at h
  refine cI h (fun hc h => ?_) fun hc h => ?_
  ·exact aH hV [.tmp 2] rfl rfl rfl (aA h) xAd
  ·exact aH hV [.tmp 2] rfl rfl rfl (aA h) xAd
attribute [go_sem] yX
end
end Nu
end Go.Proofs
namespace Go.Proofs
open Go.Vc
set_option maxRecDepth 20000
namespace Nu
noncomputable section
set_option maxHeartbeats 4000000
attribute [-go_sem] Ex.kind Ex.text Ex.l
@[reducible] def bGf (xs : List qa) : Prop := xs.length * 16 ≤ 140737488355328
def wP : Ty := .pair wi .unit
def mP : aG := ⟨wP, .own 9 .str, fun x => bGf x.1, fun x => id x.1⟩
attribute [go_sem] mP wP
abbrev aCi (F : Md) : List (FuncId × aG) := []
theorem aCj [Mx] (F : Md) : bE Tryz.prog GL (aCi F) := .nil
theorem aHX [Mx] : FOK Tryz.prog GL 65 mP := by
 refine aYO (bC (aCj none)) Tryz.func65 rfl xAa xAb fun w0 S x b hp => ?_
 have hF : tI (fr Tryz.prog (EM (aCi none)) S w0 Tryz.f65.ntmps) := ⟨bC (aCj none), mix⟩
 obtain ⟨(s : qx), u⟩ := x
 have hp : s.length * 16 ≤ 140737488355328 := hp
 simp only [bT, wP, mP]
 exact zaX
def nC (F : Md) (b : Ex) (names_1 : qx) : Option Bool :=
 (oI F b).bind (fun f => ck ((f = true) → ((vA F 64 b names_1).isSome = true)) (some (f && ((vA F 64 b names_1).getD false))))
def aGO : PlR := ⟨[(0, .B [1, 2]), (1, .A [4])], [], []⟩
def aIp : Ty := .pair .expr (.pair wi .unit)
def qZ (F : Md) : aG := mSpec aIp (.one .bool) (fun x => nC F x.1 x.2.1)
abbrev aDD (F : Md) : List (FuncId × aG) := [(116, (aCL F 64)), (41, (yP F))]
theorem aQ0 [Mx] (F : Md) : bE Tryz.prog GL (aDD F) := .cons (aK4 F 64) xAa (.cons (aNn F) xAa (.nil))
attribute [go_sem] aIp aGO
theorem aGP [Mx] (F : Md) : FOK Tryz.prog GL 67 (qZ F) := by
 refine bN (bC (aQ0 F)) mix Tryz.func67 rfl xAa xAb aGO (fun w0 S x Θ g h hV => ?_)
 obtain ⟨(b : Ex), (names_1 : qx), u⟩ := x
 simp only [bT, go_sem]
 replace h : sat (nC F b names_1) _ := h
 unfold nC at h
 refine aC h fun f hv h => ?_
 try simp only [hv, go_sem]
 refine aN h fun g0 h => ?_
 exact zaD
attribute [go_sem] qZ
def uA (F : Md) (f : qy) (b : qx) : Option Bool :=
 (nC F f.2.1 b).bind (fun g => some (!g))
def aFJ : PlR := ⟨[(0, .B [1, 2]), (1, .A [3])], [], []⟩
def aGQ : Ty := .pair qr vd
def wT (F : Md) : aG := mSpec aGQ (.one .bool) (fun x => uA F x.1 x.2.1)
abbrev aGR (F : Md) : List (FuncId × aG) := [(67, (qZ F))]
theorem aPc [Mx] (F : Md) : bE Tryz.prog GL (aGR F) := .cons (aGP F) xAa (.nil)
attribute [go_sem] aGQ aFJ
theorem aNF [Mx] (F : Md) : FOK Tryz.prog GL 69 (wT F) := by
 refine bN (bC (aPc F)) mix Tryz.func69 rfl xAa xAb aFJ (fun w0 S x Θ j h hV => ?_)
 obtain ⟨(f : qy), (b : qx), u⟩ := x
 simp only [bT, go_sem]
 replace h : sat (uA F f b) _ := h
 unfold uA at h
 refine aC h fun g hv h => ?_
 try simp only [hv, go_sem]
 exact aH hV [.tmp 3] rfl rfl rfl (aA h) xAd
attribute [go_sem] wT
def cF (F : Md) (f : w6) (g : wz) (b : Int) : Option ((Int) ⊕ ((Unit) ⊕ Int)) :=
 if b < (f.length : Int) then ck (0 ≤ b ∧ b < (f.length : Int)) ((uA F (f.getD (b.toNat) ([], (Ex.mk 0 [] []), ())) g.1).bind (fun v_27 => if v_27 = true then some (.inr (.inr b)) else ck (I64 (b + (1 : Int))) (some (.inl (b + (1 : Int)))))) else some (.inr (.inl ()))
def cO (F : Md) (b : w6) (f : wz) : Option Int :=
 (dG F (fun d : Int => cF F b f d) (0 : Int)).bind (fun e => match e with | (.inl e) => some (-1 : Int) | (.inr e) => some e)
def jI : PlR := ⟨[(0, .A [0, 1]), (1, .A [0, 1, 7, 8]), (2, .A [0, 1, 7, 8, 9]), (3, .A [0, 1, 5, 7, 8]), (4, .A [0, 1, 5, 7, 8, 16]), (5, .A [4]), (6, .A [0, 1, 7, 8]), (7, .A [4])], [], []⟩
def jO : Ty := .pair (.sl qr) (.pair (.clo 69 vd) .unit)
def dJ (F : Md) : aG := mSpec jO (.one qc) (fun x => cO F x.1 x.2.1)
abbrev jP (F : Md) : List (FuncId × aG) := [(69, (wT F))]
theorem sE [Mx] (F : Md) : bE Tryz.prog GL (jP F) := .cons (aNF F) xAa (.nil)
attribute [go_sem] jO jI
theorem rU [Mx] (F : Md) : FOK Tryz.prog GL 117 (dJ F) := by
 refine bN (bC (sE F)) mix Tryz.func117 rfl xAa xAb jI (fun w0 S x Θ q h hV => ?_)
 obtain ⟨(f : w6), (g : wz), u⟩ := x
 simp only [bT, go_sem]
 replace h : sat (cO F f g) _ := h
 unfold cO at h
 refine bM hV (D := Int) [0, 1, 7] (fun d => [(8, .val qc d)]) (fun d => []) h rfl xAc ?_
 rintro b j T2 hA2 hE2 h
 simp only [go_sem]
 replace h : sat (cF F f g b) _ := h
 unfold cF at h
 exact zaO
attribute [go_sem] dJ
def bJ (F : Md) (b : w6) (f : wz) : Option Bool :=
 (cO F b f).bind (fun v_8 => some (decide ((0 : Int) ≤ v_8)))
def iF : PlR := ⟨[(0, .A [0, 1]), (1, .A [4])], [], []⟩
def iP : Ty := .pair (.sl qr) (.pair (.clo 69 vd) .unit)
def dA (F : Md) : aG := mSpec iP (.one .bool) (fun x => bJ F x.1 x.2.1)
abbrev iQ (F : Md) : List (FuncId × aG) := [(117, (dJ F))]
theorem qC [Mx] (F : Md) : bE Tryz.prog GL (iQ F) := .cons (rU F) xAa (.nil)
attribute [go_sem] iP iF
theorem pP [Mx] (F : Md) : FOK Tryz.prog GL 68 (dA F) := by
 refine bN (bC (qC F)) mix Tryz.func68 rfl xAa xAb iF (fun w0 S x Θ g h hV => ?_)
 obtain ⟨(b : w6), (f : wz), u⟩ := x
 simp only [bT, go_sem]
 replace h : sat (bJ F b f) _ := h
 unfold bJ at h
 refine aC h fun v_8 hv h => ?_
 exact zam
attribute [go_sem] dA
def vJ (F : Md) (f : qB) (b : Int) : Option ((Int) ⊕ ((Unit) ⊕ Bool)) :=
 if b < (f.2.2.1.length : Int) then ck (0 ≤ b ∧ b < (f.2.2.1.length : Int)) (ck ((lB F (f.2.2.1.getD (b.toNat) ([], ([], [], ()), ())).2.1).isSome = true) (if ¬ (((lB F (f.2.2.1.getD (b.toNat) ([], ([], [], ()), ())).2.1).getD false) = true) then some (.inr (.inr false)) else ck (I64 (b + (1 : Int))) (some (.inl (b + (1 : Int)))))) else some (.inr (.inl ()))
def sY (F : Md) (b : qB) : Option (Bool) :=
 (dG F (fun d : Int => vJ F b d) (0 : Int)).bind (fun e => match e with | (.inl e) => ck ((bJ F b.2.2.2.2.1 (((bO F ([((aY F b).getD (([] : List qa), ([] : List qa), ([] : List qa), ())).1, ((aY F b).getD (([] : List qa), ([] : List qa), ([] : List qa), ())).2.1, ((aY F b).getD (([] : List qa), ([] : List qa), ([] : List qa), ())).2.2.1] : List qx)).getD ([] : List qa)), ())).isSome = true) (some (!((bJ F b.2.2.2.2.1 (((bO F ([((aY F b).getD (([] : List qa), ([] : List qa), ([] : List qa), ())).1, ((aY F b).getD (([] : List qa), ([] : List qa), ([] : List qa), ())).2.1, ((aY F b).getD (([] : List qa), ([] : List qa), ([] : List qa), ())).2.2.1] : List qx)).getD ([] : List qa)), ())).getD false))) | (.inr e) => some e)
def vK (F : Md) (f : qB) (b : Int) : Option ((Int) ⊕ ((Unit) ⊕ Bool)) :=
 if b < (f.2.1.length : Int) then ck (0 ≤ b ∧ b < (f.2.1.length : Int)) (ck ((lB F (f.2.1.getD (b.toNat) ([], ([], [], ()), (Ex.mk 0 [] []), ())).2.1).isSome = true) (ck (¬ (¬ (((lB F (f.2.1.getD (b.toNat) ([], ([], [], ()), (Ex.mk 0 [] []), ())).2.1).getD false) = true)) → ((nC F (f.2.1.getD (b.toNat) ([], ([], [], ()), (Ex.mk 0 [] []), ())).2.2.1 ((bO F ([((aY F f).getD (([] : List qa), ([] : List qa), ([] : List qa), ())).1, ((aY F f).getD (([] : List qa), ([] : List qa), ([] : List qa), ())).2.1, ((aY F f).getD (([] : List qa), ([] : List qa), ([] : List qa), ())).2.2.1] : List qx)).getD ([] : List qa))).isSome = true)) (if (¬ (((lB F (f.2.1.getD (b.toNat) ([], ([], [], ()), (Ex.mk 0 [] []), ())).2.1).getD false) = true)) ∨ (¬ (((nC F (f.2.1.getD (b.toNat) ([], ([], [], ()), (Ex.mk 0 [] []), ())).2.2.1 ((bO F ([((aY F f).getD (([] : List qa), ([] : List qa), ([] : List qa), ())).1, ((aY F f).getD (([] : List qa), ([] : List qa), ([] : List qa), ())).2.1, ((aY F f).getD (([] : List qa), ([] : List qa), ([] : List qa), ())).2.2.1] : List qx)).getD ([] : List qa))).getD false) = true)) then some (.inr (.inr false)) else ck (I64 (b + (1 : Int))) (some (.inl (b + (1 : Int))))))) else some (.inr (.inl ()))
def wU (F : Md) (f : qB) (b : qx) : Option (Bool) :=
 ck ((qT F b).isSome = true) (if ¬ (((qT F b).getD false) = true) then some false else (dG F (fun d : Int => vK F f d) (0 : Int)).bind (fun e => match e with | (.inl e) => sY F f | (.inr e) => some e))
def oW (F : Md) (g : qB) (b : Int) (f : qx) : Option ((Int × qx) ⊕ qx) :=
 if b < (g.2.2.2.2.1.length : Int) then ck (0 ≤ b ∧ b < (g.2.2.2.2.1.length : Int)) (ck (((f.length) + (1 : Nat)) * 16 ≤ 140737488355328) (ck (I64 (b + (1 : Int))) (some (.inl ((b + (1 : Int)), (f ++ ([(g.2.2.2.2.1.getD (b.toNat) ([], (Ex.mk 0 [] []), ())).1] : List qa))))))) else some (.inr f)
def uB (F : Md) (b : qB) : Option Bool :=
 if (((((b.2.1.length : Int) < (1 : Int)) ∨ ((6 : Int) < (b.2.1.length : Int))) ∨ ((6 : Int) < (b.2.2.1.length : Int))) ∨ ((4 : Int) < (b.2.2.2.1.length : Int))) ∨ ((4 : Int) < (b.2.2.2.2.1.length : Int)) then some false else ck ((aY F b).isSome = true) (ck ((bO F ([((aY F b).getD (([] : List qa), ([] : List qa), ([] : List qa), ())).1, ((aY F b).getD (([] : List qa), ([] : List qa), ([] : List qa), ())).2.1, ((aY F b).getD (([] : List qa), ([] : List qa), ([] : List qa), ())).2.2.1] : List qx)).isSome = true) (ck (bGf ((bO F ([((aY F b).getD (([] : List qa), ([] : List qa), ([] : List qa), ())).1, ((aY F b).getD (([] : List qa), ([] : List qa), ([] : List qa), ())).2.1, ((aY F b).getD (([] : List qa), ([] : List qa), ([] : List qa), ())).2.2.1] : List qx)).getD ([] : List qa))) ((dG F (fun d : Int × qx => oW F b d.1 d.2) ((0 : Int), (id ((bO F ([((aY F b).getD (([] : List qa), ([] : List qa), ([] : List qa), ())).1, ((aY F b).getD (([] : List qa), ([] : List qa), ([] : List qa), ())).2.1, ((aY F b).getD (([] : List qa), ([] : List qa), ([] : List qa), ())).2.2.1] : List qx)).getD ([] : List qa))))).bind (fun e => wU F b e))))
@[go_sem]def aBU : Ty := .pair qD .unit
def aAy (F : Md) : aG := mSpec aBU (.one .bool) (fun x => uB F x.1)
abbrev mQ (F : Md) : List (FuncId × aG) := [(68, (dA F)), (25, (tY F)), (63, (aBL F)), (64, (oV F)), (65, mP), (66, (aAv F)), (67, (qZ F))]
theorem aJW [Mx] (F : Md) : bE Tryz.prog GL (mQ F) := .cons (pP F) xAa (.cons (aJF F) xAa (.cons (aS1 F) xAa (.cons (aGK F) xAa (.cons aHX xAa (.cons (aQU F) xAa (.cons (aGP F) xAa (.nil)))))))
theorem aQ1 [Mx] (F : Md) : FOK Tryz.prog GL 24 (aAy F) := by
 refine aGp (bC (aJW F)) Tryz.func24 rfl xAa xAb fun w0 S x r O h => ?_
 have hF : tI (fr Tryz.prog (EM (mQ F)) S w0 Tryz.f24.ntmps) := ⟨bC (aJW F), mix⟩
 obtain ⟨(b : qB), u⟩ := x
 simp only [aBU, Ty.wf, aHd] at O
 simp only [bT, aBU]
 try dsimp only at h
 replace h : uB F b = some r := h
 unfold uB at h
 refine aO (dT hF [1] (yaA ?_))
 refine aQ (aO (aO (aS hF [1, 41] (yaA ?_))))
 refine aQ (dC rfl (fun hc => ?_) (fun hc => ?_))
 ·try simp only [go_sem] at hc
  have h := qL zAC h
  refine aO (aS hF [2] (yaA ?_))
  obtain rfl := Option.some.inj h
  refine aQ (jS (fM (sA hF [.tmp 2] rfl rfl rfl ?_)))
  exact zaQ
 ·try simp only [go_sem] at hc
  have h := qM zAC h
  refine eJ (aQ (aO (aS hF [1, 3, 4, 5] (yaA ?_))))
  obtain ⟨g0, h⟩ := bV h
  repeat (refine ⟨zAA, ?_⟩)
  refine aQ (aO (dT hF [1, 6] (yaA ?_)))
  obtain ⟨g0, h⟩ := bV h
  repeat (refine ⟨zAA, ?_⟩)
  refine aQ (aO (dT hF [1, 6, 7] (yaA ?_)))
  obtain ⟨g0, h⟩ := bV h
  repeat (refine ⟨zAA, ?_⟩)
  refine aQ (aCr (D := qx) (fun d => wU F b d = some r) [] (fun d => [(1, .ptr 0 []), (6, .ptr 1 []), (7, .own 2)]) (fun d => [.inr (.box 5 (.val qD b)), .inr (.box 1 (.val wi ((bO F ([((aY F b).getD (([] : List qa), ([] : List qa), ([] : List qa), ())).1, ((aY F b).getD (([] : List qa), ([] : List qa), ([] : List qa), ())).2.1, ((aY F b).getD (([] : List qa), ([] : List qa), ([] : List qa), ())).2.2.1] : List qx)).getD ([] : List qa)))), .inr (.row 9 .str d)]) ?_ ?_)
  ·refine aO (aS hF [1, 6, 7, 56, 57, 58] (yaA ?_))
   refine aQ (qW (aGo (D := Int × qx) [56, 57] (fun d => [(1, .ptr 0 []), (6, .ptr 1 []), (7, .own 2), (58, .val qc d.1)]) (fun d => [.inr (.box 5 (.val qD b)), .inr (.box 1 (.val wi ((bO F ([((aY F b).getD (([] : List qa), ([] : List qa), ([] : List qa), ())).1, ((aY F b).getD (([] : List qa), ([] : List qa), ([] : List qa), ())).2.1, ((aY F b).getD (([] : List qa), ([] : List qa), ([] : List qa), ())).2.2.1] : List qx)).getD ([] : List qa)))), .inr (.row 9 .str d.2)]) h ?_ ?_ ?_))
   ·first | rfl | (simp only [go_sem]; done)
   ·exact zAI
   rintro ⟨q, j⟩ U h z
   simp only [go_sem]
   try dsimp only at h
   unfold oW at h
   refine aO (aS hF [1, 6, 7, 56, 57, 58, 59] (yaA ?_))
   refine aQ (aO (dC rfl (fun hc => ?_) (fun hc => ?_)))
   ·try simp only [go_sem] at hc
    have h := qL zAC h
    refine eJ (aQ (aO (qW (aO (dT hF [1, 6, 7, 9, 56, 57, 58] (yaA ?_))))))
    obtain ⟨g0, h⟩ := bV h
    repeat (refine ⟨zAA, ?_⟩)
    refine aQ (dT hF [1, 6, 7, 56, 57, 58] (yaA ?_))
    obtain ⟨g0, h⟩ := bV h
    repeat (refine ⟨zAA, ?_⟩)
    refine qJ (aQ (aS hF [1, 6, 7, 56, 57, 58] (yaA ?_)))
    obtain ⟨g0, h⟩ := bV h
    try simp only [I64, I32] at g0
    repeat (refine ⟨zAA, ?_⟩)
    obtain rfl := Option.some.inj h
    dsimp only [aBp] at z
    refine dX (iI [0, 1, 4] rfl rfl (yaB ?_))
    refine aU ((q + (1 : Int)), (j ++ ([(b.2.2.2.2.1.getD (q.toNat) ([], (Ex.mk 0 [] []), ())).1] : List qa))) z rfl ?_
    ·exact zAI
   ·try simp only [go_sem] at hc
    have h := qM zAC h
    obtain rfl := Option.some.inj h
    dsimp only [aBp] at z
    have h := yaG (z)
    refine aEB (mF (mF (qK (dX (aU (j) h rfl ?_)))))
    ·exact zAI
  ·rintro J h
   try dsimp only at h
   simp only [go_sem]
   unfold wU at h
   refine aO (aO (aS hF [1, 6, 70] (yaA ?_)))
   obtain ⟨g0, h⟩ := bV h
   repeat (refine ⟨zAA, ?_⟩)
   refine aQ (dC rfl (fun hc => ?_) (fun hc => ?_))
   ·try simp only [go_sem] at hc
    have h := qL zAC h
    refine aO (aS hF [2] (yaA ?_))
    obtain rfl := Option.some.inj h
    refine aQ (jS (fM (sA hF [.tmp 2] rfl rfl rfl ?_)))
    exact zaQ
   ·try simp only [go_sem] at hc
    have h := qM zAC h
    refine eJ (aQ (aCr (D := Unit) (fun d => sY F b = some r) [] (fun d => [(1, .ptr 0 []), (6, .ptr 1 [])]) (fun d => [.inr (.box 5 (.val qD b)), .inr (.box 1 (.val wi ((bO F ([((aY F b).getD (([] : List qa), ([] : List qa), ([] : List qa), ())).1, ((aY F b).getD (([] : List qa), ([] : List qa), ([] : List qa), ())).2.1, ((aY F b).getD (([] : List qa), ([] : List qa), ([] : List qa), ())).2.2.1] : List qx)).getD ([] : List qa))))]) ?_ ?_))
    ·refine aO (aS hF [1, 6, 72, 73, 74] (yaA ?_))
     refine aQ (qW (aKm [0, 1] rfl rfl (yaB ?_)))
     refine aGo (D := Int) [72, 73] (fun d => [(1, .ptr 0 []), (6, .ptr 1 []), (74, .val qc d)]) (fun d => [.inr (.box 5 (.val qD b)), .inr (.box 1 (.val wi ((bO F ([((aY F b).getD (([] : List qa), ([] : List qa), ([] : List qa), ())).1, ((aY F b).getD (([] : List qa), ([] : List qa), ([] : List qa), ())).2.1, ((aY F b).getD (([] : List qa), ([] : List qa), ([] : List qa), ())).2.2.1] : List qx)).getD ([] : List qa))))]) h ?_ ?_ ?_
     ·first | rfl | (simp only [go_sem]; done)
     ·exact zAI
     rintro s N h g
     simp only [go_sem]
     try dsimp only at h
     unfold vK at h
     refine aO (aS hF [1, 6, 72, 73, 74, 75] (yaA ?_))
     refine aQ (aO (dC rfl (fun hc => ?_) (fun hc => ?_)))
     ·try simp only [go_sem] at hc
      have h := qL zAC h
      refine eJ (aQ (aO (qW (aO (dT hF [1, 6, 11, 72, 73, 74] (yaA ?_))))))
      obtain ⟨g0, h⟩ := bV h
      repeat (refine ⟨zAA, ?_⟩)
      refine aQ (aO (aS hF [1, 6, 72, 73, 74, 88] (yaA ?_)))
      obtain ⟨g0, h⟩ := bV h
      obtain ⟨g1, h⟩ := bV h
      repeat (refine ⟨by first | with_reducible assumption | omega | (intros; first | with_reducible assumption | omega) | (simp only [go_sem] at *; first | with_reducible assumption | omega) | (intro _; exact ⟨rfl, by decide⟩) | (intro _; refine (?_ : _ = aK _); rfl) | (refine (?_ : _ = aK _); rfl) | exact ⟨rfl, rfl⟩ | (intro q0; (try have e1 := g1 zAG); first | assumption | omega) | decide, ?_⟩)
      refine aQ (dC rfl (fun hc => ?_) (fun hc => ?_))
      ·try simp only [go_sem] at hc
       have h := qL zAC h
       refine aO (aS hF [2] (yaA ?_))
       obtain rfl := Option.some.inj h
       dsimp only [aBp] at g
       have h := yaG (g)
       obtain rfl := Option.some.inj h
       refine aQ (jS (pS (fM (fM (pS (fM (sA hF [.tmp 2] rfl rfl rfl ?_)))))))
       exact zaQ
      ·try simp only [go_sem] at hc
       have h := qM zAC h
       refine eJ (qJ (aQ (aS hF [1, 6, 72, 73, 74] (yaA ?_))))
       obtain ⟨g0, h⟩ := bV h
       try simp only [I64, I32] at g0
       repeat (refine ⟨zAA, ?_⟩)
       obtain rfl := Option.some.inj h
       dsimp only [aBp] at g
       refine dX (iI [0, 1] rfl rfl (yaB ?_))
       refine aU (s + (1 : Int)) g rfl ?_
       ·exact zAI
     ·try simp only [go_sem] at hc
      have h := qM zAC h
      obtain rfl := Option.some.inj h
      dsimp only [aBp] at g
      have h := yaG (g)
      refine aEB (mF (mF (qK (dX (aU () h rfl ?_)))))
      ·exact zAI
    ·rintro u h
     try dsimp only at h
     simp only [go_sem]
     unfold sY at h
     refine aO (aO (aS hF [1, 6, 91, 92, 93] (yaA ?_)))
     refine aQ (qW (aGo (D := Int) [91, 92] (fun d => [(1, .ptr 0 []), (6, .ptr 1 []), (93, .val qc d)]) (fun d => [.inr (.box 5 (.val qD b)), .inr (.box 1 (.val wi ((bO F ([((aY F b).getD (([] : List qa), ([] : List qa), ([] : List qa), ())).1, ((aY F b).getD (([] : List qa), ([] : List qa), ([] : List qa), ())).2.1, ((aY F b).getD (([] : List qa), ([] : List qa), ([] : List qa), ())).2.2.1] : List qx)).getD ([] : List qa))))]) h ?_ ?_ ?_))
     ·first | rfl | (simp only [go_sem]; done)
     ·exact zAI
     rintro I L h f
     simp only [go_sem]
     try dsimp only at h
     unfold vJ at h
     refine aO (aS hF [1, 6, 91, 92, 93, 94] (yaA ?_))
     refine aQ (aO (dC rfl (fun hc => ?_) (fun hc => ?_)))
     ·try simp only [go_sem] at hc
      have h := qL zAC h
      refine eJ (aQ (aO (qW (aO (dT hF [1, 6, 13, 91, 92, 93] (yaA ?_))))))
      obtain ⟨g0, h⟩ := bV h
      repeat (refine ⟨zAA, ?_⟩)
      refine aQ (aO (aS hF [1, 6, 91, 92, 93, 100] (yaA ?_)))
      obtain ⟨g0, h⟩ := bV h
      repeat (refine ⟨zAA, ?_⟩)
      refine aQ (dC rfl (fun hc => ?_) (fun hc => ?_))
      ·try simp only [go_sem] at hc
       have h := qL zAC h
       refine aO (aS hF [2] (yaA ?_))
       obtain rfl := Option.some.inj h
       dsimp only [aBp] at f
       have h := yaG (f)
       obtain rfl := Option.some.inj h
       refine aQ (jS (pS (fM (fM (pS (fM (sA hF [.tmp 2] rfl rfl rfl ?_)))))))
       exact zaQ
      ·try simp only [go_sem] at hc
       have h := qM zAC h
       refine eJ (qJ (aQ (aS hF [1, 6, 91, 92, 93] (yaA ?_))))
       obtain ⟨g0, h⟩ := bV h
       try simp only [I64, I32] at g0
       repeat (refine ⟨zAA, ?_⟩)
       obtain rfl := Option.some.inj h
       dsimp only [aBp] at f
       refine dX (iI [0, 1] rfl rfl (yaB ?_))
       refine aU (I + (1 : Int)) f rfl ?_
       ·exact zAI
     ·try simp only [go_sem] at hc
      have h := qM zAC h
      obtain rfl := Option.some.inj h
      dsimp only [aBp] at f
      have h := yaG (f)
      refine aEB (mF (mF (qK (aQ (aO (aC0 1 rfl (yaA ?_)))))))
      refine aS hF [2] (yaA ?_)
      obtain ⟨g0, h⟩ := bV h
      repeat (refine ⟨zAA, ?_⟩)
      obtain rfl := Option.some.inj h
      refine aQ (jS (sA hF [.tmp 2] rfl rfl rfl ?_))
      exact zaQ
attribute [go_sem] aAy
def vY (F : Md) (g : qe) (f : qa) (b : Int) : Option ((Int) ⊕ ((Unit) ⊕ Int)) :=
 if b < (g.2.2.2.2.2.2.2.2.1.length : Int) then ck (0 ≤ b ∧ b < (g.2.2.2.2.2.2.2.2.1.length : Int)) (if (g.2.2.2.2.2.2.2.2.1.getD (b.toNat) ([], [], [], [], [], ())).1 = f then some (.inr (.inr b)) else ck (I64 (b + (1 : Int))) (some (.inl (b + (1 : Int))))) else some (.inr (.inl ()))
def yY (F : Md) (f : qe) (b : qa) : Option Int :=
 (dG F (fun d : Int => vY F f b d) (0 : Int)).bind (fun e => match e with | (.inl e) => some (-1 : Int) | (.inr e) => some e)
def aLf : PlR := ⟨[(0, .B [1, 2]), (1, .A [1, 8, 9, 10]), (2, .A [1, 8, 9, 10, 11]), (3, .B [1, 5, 6, 8, 9, 10]), (4, .A [1, 5, 8, 9, 10, 18]), (5, .A [4]), (6, .A [1, 8, 9, 10]), (7, .A [4])], [], []⟩
def aNN : Ty := .pair qh wj
def aCO (F : Md) : aG := mSpec aNN (.one qc) (fun x => yY F x.1 x.2.1)
abbrev aWo (F : Md) : List (FuncId × aG) := []
theorem aWp [Mx] (F : Md) : bE Tryz.prog GL (aWo F) := .nil
attribute [go_sem] aNN aLf
theorem aT7 [Mx] (F : Md) : FOK Tryz.prog GL 71 (aCO F) := by
 refine bN (bC (aWp F)) mix Tryz.func71 rfl xAa xAb aLf (fun w0 S x Θ q h hV => ?_)
 obtain ⟨(g : qe), (b : qa), u⟩ := x
 simp only [bT, go_sem]
 replace h : sat (yY F g b) _ := h
 unfold yY at h
 refine aKm [] rfl rfl (yaA ?_)
 refine bM hV (D := Int) [1, 8, 9] (fun d => [(10, .val qc d)]) (fun d => []) h rfl xAc ?_
 rintro f j T2 hA2 hE2 h
 simp only [go_sem]
 replace h : sat (vY F g b f) _ := h
 unfold vY at h
 refine dY h (fun hc h => ?_) fun hc h => ?_
 ·refine aN h fun g0 h => ?_
  refine cI h (fun hc h => ?_) fun hc h => ?_
  ·replace h := yaG (hE2 _ (aA h))
   exact zaD
  ·refine aN h fun g0 h => ?_
   replace h := hA2 _ (aA h)
   refine iI [] rfl rfl (yaA ?_)
   exact zaJ
 ·replace h := yaG (hE2 _ (aA h))
  exact zaD
attribute [go_sem] aCO
def uC (F : Md) (f : qy) (b : wg) : Option Bool :=
 ck ((0 : Int) < (b.length : Int)) (some (decide (f.1 = (b.getD (0 : Nat) ([], [], [], [], ())).2.2.2.1)))
def aFK : PlR := ⟨[(0, .B [1, 2]), (1, .A [3])], [], []⟩
def aGS : Ty := .pair qr (.pair (.rp (.sl qs)) .unit)
def wV (F : Md) : aG := mSpec aGS (.one .bool) (fun x => uC F x.1 x.2.1)
abbrev aPd (F : Md) : List (FuncId × aG) := []
theorem aPe [Mx] (F : Md) : bE Tryz.prog GL (aPd F) := .nil
attribute [go_sem] aGS aFK
theorem aNO [Mx] (F : Md) : FOK Tryz.prog GL 72 (wV F) := by
 refine bN (bC (aPe F)) mix Tryz.func72 rfl xAa xAb aFK (fun w0 S x Θ g h hV => ?_)
 obtain ⟨(f : qy), (b : wg), u⟩ := x
 simp only [bT, go_sem]
 replace h : sat (uC F f b) _ := h
 unfold uC at h
 refine aN h fun g0 h => ?_
 exact aH hV [.tmp 3] rfl rfl rfl (aA h) xAd
attribute [go_sem] wV
def cG (F : Md) (f : w6) (g : (wg × Unit)) (b : Int) : Option ((Int) ⊕ ((Unit) ⊕ Int)) :=
 if b < (f.length : Int) then ck (0 ≤ b ∧ b < (f.length : Int)) ((uC F (f.getD (b.toNat) ([], (Ex.mk 0 [] []), ())) g.1).bind (fun v_27 => if v_27 = true then some (.inr (.inr b)) else ck (I64 (b + (1 : Int))) (some (.inl (b + (1 : Int)))))) else some (.inr (.inl ()))
def cP (F : Md) (b : w6) (f : (wg × Unit)) : Option Int :=
 (dG F (fun d : Int => cG F b f d) (0 : Int)).bind (fun e => match e with | (.inl e) => some (-1 : Int) | (.inr e) => some e)
def jJ : PlR := ⟨[(0, .A [0, 1]), (1, .A [0, 1, 7, 8]), (2, .A [0, 1, 7, 8, 9]), (3, .A [0, 1, 5, 7, 8]), (4, .A [0, 1, 5, 7, 8, 16]), (5, .A [4]), (6, .A [0, 1, 7, 8]), (7, .A [4])], [], []⟩
def jQ : Ty := .pair (.sl qr) (.pair (.clo 72 (.pair (.rp (.sl qs)) .unit)) .unit)
def dK (F : Md) : aG := mSpec jQ (.one qc) (fun x => cP F x.1 x.2.1)
abbrev jR (F : Md) : List (FuncId × aG) := [(72, (wV F))]
theorem sF [Mx] (F : Md) : bE Tryz.prog GL (jR F) := .cons (aNO F) xAa (.nil)
attribute [go_sem] jQ jJ
theorem rV [Mx] (F : Md) : FOK Tryz.prog GL 117 (dK F) := by
 refine bN (bC (sF F)) mix Tryz.func117 rfl xAa xAb jJ (fun w0 S x Θ q h hV => ?_)
 obtain ⟨(f : w6), (g : (wg × Unit)), u⟩ := x
 simp only [bT, go_sem]
 replace h : sat (cP F f g) _ := h
 unfold cP at h
 refine bM hV (D := Int) [0, 1, 7] (fun d => [(8, .val qc d)]) (fun d => []) h rfl xAc ?_
 rintro b j T2 hA2 hE2 h
 simp only [go_sem]
 replace h : sat (cG F f g b) _ := h
 unfold cG at h
 exact zaO
attribute [go_sem] dK
def bK (F : Md) (b : w6) (f : (wg × Unit)) : Option Bool :=
 (cP F b f).bind (fun v_8 => some (decide ((0 : Int) ≤ v_8)))
def iG : PlR := ⟨[(0, .A [0, 1]), (1, .A [4])], [], []⟩
def iR : Ty := .pair (.sl qr) (.pair (.clo 72 (.pair (.rp (.sl qs)) .unit)) .unit)
def dB (F : Md) : aG := mSpec iR (.one .bool) (fun x => bK F x.1 x.2.1)
abbrev iS (F : Md) : List (FuncId × aG) := [(117, (dK F))]
theorem qE [Mx] (F : Md) : bE Tryz.prog GL (iS F) := .cons (rV F) xAa (.nil)
attribute [go_sem] iR iG
theorem pQ [Mx] (F : Md) : FOK Tryz.prog GL 68 (dB F) := by
 refine bN (bC (qE F)) mix Tryz.func68 rfl xAa xAb iG (fun w0 S x Θ g h hV => ?_)
 obtain ⟨(b : w6), (f : (wg × Unit)), u⟩ := x
 simp only [bT, go_sem]
 replace h : sat (bK F b f) _ := h
 unfold bK at h
 refine aC h fun v_8 hv h => ?_
 exact zam
attribute [go_sem] dB
def mR (F : Md) (q : qe) (g : Int) (f : Int) (b : wg) : Option ((Int × wg) ⊕ (wg ⊕ Bool)) :=
 if f < (((q.2.2.2.2.2.2.2.2.1.getD (g.toNat) ([], [], [], [], [], ())).2.2.2.1.length : Nat) : Int) then ck (0 ≤ f ∧ f < (((q.2.2.2.2.2.2.2.2.1.getD (g.toNat) ([], [], [], [], [], ())).2.2.2.1.length : Nat) : Int)) (ck (¬ ((b.length : Int) = (0 : Int)) → ((0 : Int) < (b.length : Int))) (ck (¬ (((b.length : Int) = (0 : Int)) ∨ (¬ ((b.getD (0 : Nat) ([], [], [], [], ())).1 = (q.2.2.2.2.2.2.2.2.1.getD (g.toNat) ([], [], [], [], [], ())).1))) → ((0 : Int) < (b.length : Int))) (if (((b.length : Int) = (0 : Int)) ∨ (¬ ((b.getD (0 : Nat) ([], [], [], [], ())).1 = (q.2.2.2.2.2.2.2.2.1.getD (g.toNat) ([], [], [], [], [], ())).1))) ∨ (¬ ((b.getD (0 : Nat) ([], [], [], [], ())).2.1 = ((q.2.2.2.2.2.2.2.2.1.getD (g.toNat) ([], [], [], [], [], ())).2.2.2.1.getD (f.toNat) ([] : List Nat)))) then some (.inr (.inr false)) else ck ((0 : Int) < (b.length : Int)) ((yY F q (b.getD (0 : Nat) ([], [], [], [], ())).2.2.1).bind (fun j => ck (¬ (j < (0 : Int)) → (0 ≤ j ∧ j < (q.2.2.2.2.2.2.2.2.1.length : Int))) (ck (¬ (j < (0 : Int)) → ((bK F (q.2.2.2.2.2.2.2.2.1.getD (j.toNat) ([], [], [], [], [], ())).2.2.2.2.1 (b, ())).isSome = true)) (if (j < (0 : Int)) ∨ (¬ (((bK F (q.2.2.2.2.2.2.2.2.1.getD (j.toNat) ([], [], [], [], [], ())).2.2.2.2.1 (b, ())).getD false) = true)) then some (.inr (.inr false)) else ck ((1 : Int) ≤ (b.length : Int)) (ck (I64 (f + (1 : Int))) (some (.inl ((f + (1 : Int)), (List.drop (1 : Nat) b)))))))))))) else some (.inr (.inl b))
def mS (F : Md) (g : qe) (b : Int) (f : wg) : Option ((Int × wg) ⊕ (wg ⊕ Bool)) :=
 if b < (g.2.2.2.2.2.2.2.2.1.length : Int) then ck (0 ≤ b ∧ b < (g.2.2.2.2.2.2.2.2.1.length : Int)) ((dG F (fun d : Int × wg => mR F g b d.1 d.2) ((0 : Int), f)).bind (fun e => match e with | (.inl e) => ck (I64 (b + (1 : Int))) (some (.inl ((b + (1 : Int)), e))) | (.inr e) => some (.inr (.inr e)))) else some (.inr (.inl f))
def rW (F : Md) (b : qe) : Option Bool :=
 (dG F (fun d : Int × wg => mS F b d.1 d.2) ((0 : Int), b.2.2.2.2.2.2.2.2.2.1)).bind (fun e => match e with | (.inl e) => some (decide ((e.length : Int) = (0 : Int))) | (.inr e) => some e)
def aIq : PlR := ⟨[(0, .B [1]), (1, .B [1, 3]), (2, .A [1, 3, 12, 13, 14]), (3, .A [1, 3, 12, 13, 14, 15]), (4, .B [1, 3, 5, 12, 13, 14]), (5, .A [1, 3, 5, 12, 13, 14, 19, 20, 21]), (6, .A [1, 3, 5, 12, 13, 14, 19, 20, 21, 22]), (7, .A [1, 3, 5, 7, 12, 13, 14, 19, 20, 21]), (8, .A [1, 3, 5, 12, 13, 14, 19, 20, 21, 44]), (9, .A [2]), (10, .A [1, 3, 5, 8, 12, 13, 14, 19, 20, 21]), (11, .A [1, 3, 5, 12, 13, 14, 19, 20, 21, 63]), (12, .A [2]), (13, .B [1, 3, 5, 12, 13, 14, 19, 20, 21]), (14, .A [1, 3, 5, 12, 13, 14, 19, 20, 21]), (15, .A [1, 3, 12, 13, 14]), (16, .A [2])], [], []⟩
def aJX : Ty := .pair qh .unit
def aAz (F : Md) : aG := mSpec aJX (.one .bool) (fun x => rW F x.1)
abbrev aFa (F : Md) : List (FuncId × aG) := [(68, (dB F)), (71, (aCO F))]
theorem aS7 [Mx] (F : Md) : bE Tryz.prog GL (aFa F) := .cons (pQ F) xAa (.cons (aT7 F) xAa (.nil))
attribute [go_sem] aJX aIq
theorem aQ2 [Mx] (F : Md) : FOK Tryz.prog GL 26 (aAz F) := by
 refine bN (bC (aS7 F)) mix Tryz.func26 rfl xAa xAb aIq (fun w0 S x Θ O h hV => ?_)
 obtain ⟨(f : qe), u⟩ := x
 simp only [bT, go_sem]
 replace h : sat (rW F f) _ := h
 unfold rW at h
 refine bM hV (D := Int × wg) [12, 13] (fun d => [(1, .ptr 0 []), (3, .ptr 1 []), (14, .val qc d.1)]) (fun d => [.inr (.box 10 (.val qh f)), .inr (.box 1 (.val (.sl qs) d.2))]) h rfl xAc ?_
 rintro ⟨b, s⟩ L T3 I q h
 simp only [go_sem]
 replace h : sat (mS F f b s) _ := h
 unfold mS at h
 refine dY h (fun hc h => ?_) fun hc h => ?_
 ·refine aD h fun g0 h => (yaE ?_)
  refine bM hV (D := Int × wg) [12, 13, 14, 19, 20] (fun d => [(1, .ptr 0 []), (3, .ptr 1 []), (5, .ptr 2 []), (21, .val qc d.1)]) (fun d => [.inr (.box 10 (.val qh f)), .inr (.box 1 (.val (.sl qs) d.2)), .inr (.box 5 (.val qD (f.2.2.2.2.2.2.2.2.1.getD (b.toNat) ([], [], [], [], [], ()))))]) h rfl xAc ?_
  rintro ⟨g, r⟩ U N z j h
  simp only [go_sem]
  replace h : sat (mR F f b g r) _ := h
  unfold mR at h
  refine dY h (fun hc h => ?_) fun hc h => ?_
  ·refine aD h fun g0 h => (yaE ?_)
   refine aD h fun g0 h => ?_
   refine aD h fun g1 h => ?_
   repeat (refine ⟨zAH, ?_⟩)
   refine ⟨fun hc => ?_, fun hc => ?_⟩
   ·replace h := gB hc h
    replace h := yaG (j _ (aA h))
    replace h := yaG (q _ (aA h))
    exact zaH
   ·replace h := gC hc h
    refine aD h fun g0 h => (yaE ?_)
    refine aC h fun J hv h => ?_
    try simp only [hv, go_sem]
    refine aD h fun g0 h => ?_
    refine aD h fun g1 h => ?_
    repeat (refine ⟨zAH, ?_⟩)
    refine ⟨fun hc => ?_, fun hc => ?_⟩
    ·replace h := gB zAC h
     replace h := yaG (j _ (aA h))
     replace h := yaG (q _ (aA h))
     exact zaH
    ·replace h := gC zAC h
     refine aD h fun g0 h => (yaE ?_)
     refine aD h fun g0 h => ?_
     try simp only [I64, I32] at g0
     repeat (refine ⟨zAB, ?_⟩)
     replace h := z _ (aA h)
     exact zaJ
  ·replace h := yaG (j _ (aA h))
   refine aD h fun g0 h => ?_
   try simp only [I64, I32] at g0
   repeat (refine ⟨zAB, ?_⟩)
   replace h := I _ (aA h)
   refine iI [0, 1] rfl rfl (yaA ?_)
   exact zaJ
 ·replace h := yaG (q _ (aA h))
  exact zaH
attribute [go_sem] aAz
def uD (F : Md) (f : qe) (names_16 : qx) : Option (Bool) :=
 (qT F names_16).bind (fun b => ck ((b = true) → ((rW F f).isSome = true)) (some (b && ((rW F f).getD false))))
def rX (F : Md) (f : qe) (b : Int) (names_24 : qx) : Option ((Int × qx) ⊕ (qx ⊕ Bool)) :=
 if b < (f.2.2.2.2.2.2.2.2.1.length : Int) then ck (0 ≤ b ∧ b < (f.2.2.2.2.2.2.2.2.1.length : Int)) ((uB F (f.2.2.2.2.2.2.2.2.1.getD (b.toNat) ([], [], [], [], [], ()))).bind (fun g => if ¬ (g = true) then some (.inr (.inr false)) else ck (((names_24.length) + (1 : Nat)) * 16 ≤ 140737488355328) (ck (I64 (b + (1 : Int))) (some (.inl ((b + (1 : Int)), (names_24 ++ ([(f.2.2.2.2.2.2.2.2.1.getD (b.toNat) ([], [], [], [], [], ())).1] : List qa)))))))) else some (.inr (.inl names_24))
def nD (F : Md) (b : qe) : Option Bool :=
 (sO F b).bind (fun f => if ((¬ (f = true)) ∨ ((b.2.2.2.2.2.2.2.2.1.length : Int) < (1 : Int))) ∨ ((4 : Int) < (b.2.2.2.2.2.2.2.2.1.length : Int)) then some false else (dG F (fun d : Int × qx => rX F b d.1 d.2) ((0 : Int), ([] : List qa))).bind (fun e => match e with | (.inl e) => uD F b e | (.inr e) => some e))
def aNR : PlR := ⟨[(0, .B [1]), (1, .A [1, 20]), (2, .A [2]), (3, .A [1, 3]), (4, .A [1, 3, 22, 23, 24]), (5, .A [1, 3, 22, 23, 24, 25]), (6, .B [1, 3, 5, 22, 23, 24]), (7, .A [1, 3, 5, 22, 23, 24, 30]), (8, .A [2]), (9, .B [1, 3, 22, 23, 24]), (10, .A [1, 3, 22, 23, 24]), (11, .A [2])], [(7, 14)], []⟩
def aQe : Ty := .pair qh .unit
def yZ (F : Md) : aG := mSpec aQe (.one .bool) (fun x => nD F x.1)
abbrev aDq (F : Md) : List (FuncId × aG) := [(23, (yT F)), (24, (aAy F)), (25, (tY F)), (26, (aAz F))]
theorem aYd [Mx] (F : Md) : bE Tryz.prog GL (aDq F) := .cons (aO7 F) xAa (.cons (aQ1 F) xAa (.cons (aJF F) xAa (.cons (aQ2 F) xAa (.nil))))
attribute [go_sem] aQe aNR
theorem aNS [Mx] (F : Md) : FOK Tryz.prog GL 8 (yZ F) := by
 refine bN (bC (aYd F)) mix Tryz.func8 rfl xAa xAb aNR (fun w0 S x Θ I h hV => ?_)
 obtain ⟨(b : qe), u⟩ := x
 simp only [bT, go_sem]
 replace h : sat (nD F b) _ := h
 unfold nD at h
 refine aC h fun s hv h => ?_
 try simp only [hv, go_sem]
 refine ⟨fun hc => ?_, fun hc => ?_⟩
 ·replace h := gB zAC h
  exact zaH
 ·replace h := gC zAC h
  refine cX hV (D := qx) (fun d => sat (uD F b d) Θ) [] (fun d => [(1, .ptr 0 []), (3, .own 1)]) (fun d => [.inr (.box 10 (.val qh b)), .inr (.row 9 .str d)]) ?_ ?_
  ·simp only [go_sem]
   refine aED 3 9 .str rfl (yaA ?_)
   refine bM hV (D := Int × qx) [22, 23] (fun d => [(1, .ptr 0 []), (3, .own 1), (24, .val qc d.1)]) (fun d => [.inr (.box 10 (.val qh b)), .inr (.row 9 .str d.2)]) h rfl xAc ?_
   rintro ⟨f, names_24⟩ z T5 j g h
   simp only [go_sem]
   replace h : sat (rX F b f names_24) _ := h
   unfold rX at h
   refine dY h (fun hc h => ?_) fun hc h => ?_
   ·refine aD h fun g0 h => (yaC ?_)
    refine aC h fun r hv h => ?_
    try simp only [hv, go_sem]
    refine aAF h (fun hc h => ?_) fun hc h => ?_
    ·replace h := yaG (g _ (aA h))
     exact zaH
    ·refine aD h fun g0 h => (yaC ?_)
     refine aD h fun g0 h => (yaC ?_)
     replace h := j _ (aA h)
     refine iI [0, 3] rfl rfl (yaA ?_)
     exact zaJ
   ·replace h := yaG (g _ (aA h))
    exact aU (names_24) h rfl xAc
  ·rintro names_16 h
   simp only [go_sem]
   replace h : sat (uD F b names_16) _ := h
   unfold uD at h
   refine aC h fun q hv h => ?_
   try simp only [hv, go_sem]
   refine aD h fun g0 h => (yaC ?_)
   exact zaH
attribute [go_sem] yZ
end
end Nu
end Go.Proofs

