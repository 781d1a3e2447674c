import Derived.Test.YtcpnniahnmjnpaaGreatDoorZS1
import Derived.Test.YtcpnniahnmjnpaaGreatDoorZL6
import Derived.Laws.Externs
import Derived.Lib.Bytealg
import Derived.Shelf.Strings.Search3
import Derived.Shelf.Strings.Cut
import Derived.Shelf.Strings.Split
import Derived.Lib.Builder
import Derived.Lib.AppendZeros
import Derived.Lib.SliceRun
import Derived.WalkKit
import Derived.Lib.Walk
import Derived.Shelf.RegionOpenPlain
set_option linter.unusedVariables false
set_option linter.unusedSimpArgs false
namespace Go.Proofs
open Go.Vc
set_option maxRecDepth 20000
namespace Nu
noncomputable section
set_option maxHeartbeats 4000000
attribute [-go_sem] Ex.kind Ex.text Ex.l
@[go_sem] theorem aYO (k : Int) (t : List Nat) (l : List Ex) : Ex.l (.mk k t l) = l := rfl
@[go_sem] theorem aYP (k : Int) (t : List Nat) (l : List Ex) : Ex.kind (.mk k t l) = k := rfl
@[go_sem] theorem aYQ (k : Int) (t : List Nat) (l : List Ex) : Ex.text (.mk k t l) = t := rfl
def aBN (F : Md) (g : Ex → Int → Int → Int → Option wj) (e_0 : Ex) (at_1 : Int) (x23_10 : Int) (x_11 : Int) (x_12 : Int) : Option ((Int × Int × Int) ⊕ wj) :=
 if x23_10 < (((e_0.l).length : Nat) : Int) then ck (0 ≤ x23_10 ∧ x23_10 < (((e_0.l).length : Nat) : Int)) (ck (I64 (at_1 + (1 : Int))) ((g ((e_0.l).getD (x23_10.toNat) (Ex.mk 0 [] [])) (at_1 + (1 : Int)) x_11 x_12).bind (fun r_20 => ck (I64 (x23_10 + (1 : Int))) (some (.inl ((x23_10 + (1 : Int)), r_20.1, r_20.2)))))) else some (.inr (x_11, x_12))
def uR (F : Md) (g : Ex → Int → Int → Int → Option wj) (e_0 : Ex) (at_1 : Int) (o0_5 : Int) (o1_6 : Int) : Option wj :=
 ck (I64 (o0_5 + (1 : Int))) (if ((60 : Int) < (o0_5 + (1 : Int))) ∨ ((30 : Int) < at_1) then some ((o0_5 + (1 : Int)), (max o1_6 at_1)) else (eG F (fun d : Int × Int × Int => aBN F g e_0 at_1 d.1 d.2.1 d.2.2) ((0 : Int), (o0_5 + (1 : Int)), (max o1_6 at_1))).bind (fun e => some (e.1, e.2)))
def uS (g : Ex → Int → Int → Int → Option wj) : fW where
 D := Ex × Int × Int × Int × wj
 av := fun d => [.val .expr d.1, .val qe d.2.1, .ptr 0 [], .ptr 1 [], .ptr 2 []]
 hp := fun d => [.box 1 (.val qe d.2.2.1), .box 1 (.val qe d.2.2.2.1), .box 1 (.fn 85 [] [0, 1, 2])]
 m := 3
 pre := fun d => g d.1 d.2.1 d.2.2.1 d.2.2.2.1 = some d.2.2.2.2
 out := fun d => (fun r : wj => .ret (.tup []) [.box 1 (.val qe r.1), .box 1 (.val qe r.2), .box 1 (.fn 85 [] [0, 1, 2])]) d.2.2.2.2
attribute [go_sem] uS
def aEM (F : Md) (g : Ex → Int → Int → Int → Option wj) : fW where
 D := Ex × Int × Int × Int × wj
 av := fun d => [.val .expr d.1, .val qe d.2.1, .ptr 0 [], .ptr 1 [], .ptr 2 []]
 hp := fun d => [.box 1 (.val qe d.2.2.1), .box 1 (.val qe d.2.2.2.1), .box 1 (.fn 85 [] [0, 1, 2])]
 m := 3
 pre := fun d => uR F g d.1 d.2.1 d.2.2.1 d.2.2.2.1 = some d.2.2.2.2
 out := fun d => (fun r : wj => .ret (.tup []) [.box 1 (.val qe r.1), .box 1 (.val qe r.2), .box 1 (.fn 85 [] [0, 1, 2])]) d.2.2.2.2
abbrev aHe (F : Md) (g : Ex → Int → Int → Int → Option wj) : List (FuncId × aI) := []
theorem aHf [Mx] (F : Md) (g : Ex → Int → Int → Int → Option wj) (hg : GOK Tryz.prog GL 85 (uS g)) : bJ Tryz.prog GL (aHe F g) := .nil
theorem aLD [Mx] (F : Md) (g : Ex → Int → Int → Int → Option wj) (hg : GOK Tryz.prog GL 85 (uS g)) : GOK Tryz.prog GL 85 (aEM F g) := by
 refine eI (aT (aHf F g hg)) Tryz.func85 rfl xAa (fun _ => Nat.le_of_ble_eq_true rfl) fun c0 w0 d hw1 hw2 h hn => ?_
 have hF : fT ⟨Tryz.prog, EM (aHe F g), GM (aEM F g) c0 d, w0, Tryz.f85.ntmps, []⟩ := ⟨aT (aHf F g hg), mix⟩
 obtain ⟨(e_0 : Ex), (at_1 : Int), (o0_5 : Int), (o1_6 : Int), r⟩ := d
 replace h : uR F g e_0 at_1 o0_5 o1_6 = some r := h
 have hw1 : AV.wfL [.val .expr e_0, .val qe at_1, .ptr 0 [], .ptr 1 [], .ptr 2 []] := hw1
 simp only [AV.wfL, AV.wfV, Ty.wf, fF] at hw1
 show Tri _ _ _ [(0, .val .expr e_0), (1, .val qe at_1), (2, .ptr 0 []), (3, .ptr 1 []), (4, .ptr 2 [])] [.box 1 (.val qe o0_5), .box 1 (.val qe o1_6), .box 1 (.fn 85 [] [0, 1, 2])]
 unfold uR at h
 refine aB (aR hF [1, 2, 3, 4, 5] (yaA ?_))
 refine aA (aB (aR hF [1, 2, 3, 4, 5] (yaA ?_)))
 obtain ⟨g0, h⟩ := aQ h
 try simp only [I64, I32] at g0
 repeat (refine ⟨zAA, ?_⟩)
 refine aA (aB (aR hF [1, 2, 4, 5] (yaA ?_)))
 refine aA (aB (aB (aF hF [1, 4, 5, 19] (yaA ?_))))
 refine aA (bG rfl (fun hc => ?_) (fun hc => ?_))
 ·try simp only [go_sem] at hc
  have h := eC zAB h
  obtain rfl := Option.some.inj h
  refine cD (cS (gT [0, 1, 2] rfl rfl (yaC ?_)))
  exact zak
 ·try simp only [go_sem] at hc
  have h := eD zAB h
  refine cI (aA (aB (aF hF [1, 4, 21, 22, 23] (yaA ?_))))
  refine aA (eB (aJG [0, 1, 2] rfl rfl (yaC ?_)))
  refine pP (D := Int × Int × Int) [1, 21, 22] (fun d => [(4, .ptr 2 []), (23, .val qe d.1)]) (fun d => [.inr (.box 1 (.val qe d.2.1)), .inr (.box 1 (.val qe d.2.2)), .inr (.box 1 (.fn 85 [] [0, 1, 2]))]) h ?_ ?_ ?_
  ·first | rfl | (simp only [go_sem]; done)
  ·exact zAG
  rintro ⟨x23_10, x_11, x_12⟩ s5 h hs5
  simp only [go_sem]
  try dsimp only at h
  unfold aBN at h
  refine aB (aF hF [1, 4, 21, 22, 23, 24] (yaA ?_))
  refine aA (aB (bG rfl (fun hc => ?_) (fun hc => ?_)))
  ·try simp only [go_sem] at hc
   have h := eC zAB h
   refine cI (aA (aB (eB (aB (aR hF [1, 4, 8, 21, 22, 23] (yaA ?_))))))
   obtain ⟨g0, h⟩ := aQ h
   repeat (refine ⟨zAA, ?_⟩)
   obtain ⟨g0, h⟩ := aQ h
   try simp only [I64, I32] at g0
   obtain ⟨r_20, he1, h⟩ := bind_some h
   try dsimp only at h
   refine aA (aC hF (aG (l := [(85, ⟨(uS g), [0, 1, 2], (((e_0.l).getD (x23_10.toNat) (Ex.mk 0 [] [])), (at_1 + (1 : Int)), x_11, x_12, r_20)⟩)]) (.cons hg xAa (.nil))) [1, 4, 21, 22, 23] [] (yaE ?_))
   refine bB (aA (aF hF [1, 4, 21, 22, 23] (yaA ?_)))
   obtain ⟨g0, h⟩ := aQ h
   try simp only [I64, I32] at g0
   repeat (refine ⟨zAA, ?_⟩)
   obtain rfl := Option.some.inj h
   dsimp only [mY] at hs5
   refine bY (gT [0, 1, 2] rfl rfl (yaC ?_))
   refine aZ ((x23_10 + (1 : Int)), r_20.1, r_20.2) hs5 rfl ?_
   ·exact zAG
  ·try simp only [go_sem] at hc
   have h := eD zAB h
   obtain rfl := Option.some.inj h
   dsimp only [mY] at hs5
   have h := yaF (hs5)
   obtain rfl := Option.some.inj h
   refine sG (dY (dY (gL (gF (dZ hF [] rfl rfl rfl rfl rfl rfl ?_)))))
   exact zaB
def aDc (F : Md) : Nat → Ex → Int → Int → Int → Option wj
 | 0 => fun _ _ _ _ => none
 | n + 1 => uR F (aDc F n)
def aBE (F : Md) (n : Nat) : fW where
 D := Ex × Int × Int × Int × wj
 av := fun d => [.val .expr d.1, .val qe d.2.1, .ptr 0 [], .ptr 1 [], .ptr 2 []]
 hp := fun d => [.box 1 (.val qe d.2.2.1), .box 1 (.val qe d.2.2.2.1), .box 1 (.fn 85 [] [0, 1, 2])]
 m := 3
 pre := fun d => aDc F n d.1 d.2.1 d.2.2.1 d.2.2.2.1 = some d.2.2.2.2
 out := fun d => (fun r : wj => .ret (.tup []) [.box 1 (.val qe r.1), .box 1 (.val qe r.2), .box 1 (.fn 85 [] [0, 1, 2])]) d.2.2.2.2
theorem aGc [Mx] (F : Md) : ∀ n, GOK Tryz.prog GL 85 (aBE F n)
 | 0 => fun _ _ _ _ hp _ => absurd (show none = some _ from hp) (by simp)
 | n + 1 => aLD F _ (aGc F n)
attribute [go_sem] aBE
def aCv (F : Md) (e_0 : Ex) : Option (Int × qp) :=
 (aDc F 64 e_0 (1 : Int) (0 : Int) (0 : Int)).bind (fun r_3 => some (r_3.1, r_3.2, ()))
@[go_sem]def aCw : Ty := .pair .expr .unit
def aA2 (F : Md) : aI := mSpec aCw (.tup qn) (fun x => aCv F x.1)
abbrev aKh (F : Md) : List (FuncId × aI) := []
theorem aKi [Mx] (F : Md) : bJ Tryz.prog GL (aKh F) := .nil
theorem aPN [Mx] (F : Md) : FOK Tryz.prog GL 42 (aA2 F) := by
 refine sS (aT (aKi F)) Tryz.func42 rfl xAa xAc fun w0 S x r hw h => ?_
 have hF : fT (fr Tryz.prog (EM (aKh F)) S w0 Tryz.f42.ntmps) := ⟨aT (aKi F), mix⟩
 obtain ⟨(e_0 : Ex), u⟩ := x
 simp only [aCw, Ty.wf, fF] at hw
 simp only [bX, aCw]
 try dsimp only at h
 replace h : aCv F e_0 = some r := h
 unfold aCv at h
 refine aB (aR hF [1, 2, 3] (yaA ?_))
 refine aA (aB (aR hF [1, 2, 3, 4] (yaA ?_)))
 refine aA (aB (aR hF [1, 2, 3, 4] (yaA ?_)))
 obtain ⟨r_3, he1, h⟩ := bind_some h
 try dsimp only at h
 refine aA (aB (aC hF (aG (l := [(85, ⟨(aBE F 64), [1, 2, 3], (e_0, (1 : Int), (0 : Int), (0 : Int), r_3)⟩)]) (.cons (aGc F 64) xAa (.nil))) [2, 3] [] (yaE ?_)))
 refine aA (aB (aDC hF [2, 3] [(2, .ptr 1 []), (3, .ptr 2 [])] [.box 3 (.val .expr e_0), .box 1 (.val qe r_3.1), .box 1 (.val qe r_3.2), .box 1 (.fn 85 [] [1, 2, 3])] xAc ?_ ?_))
 ·simp only [go_sem]
  unfold anyS
  intro i hi
  have hi : i = 0 ∨ i = 1 := by revert hi; revert i; decide
  rcases hi with rfl | rfl
  ·simp only [go_sem]
   repeat (refine ⟨zAA, ?_⟩)
   unfold anyS
   intro i hi
   have hi : i = 1 ∨ i = 2 := by revert hi; revert i; decide
   rcases hi with rfl | rfl
   ·simp only [go_sem]
    repeat (refine ⟨zAA, ?_⟩)
    unfold anyS
    intro i hi
    have hi : i = 2 := by revert hi; revert i; decide
    exact zaU
   ·simp only [go_sem]
    repeat (refine ⟨zAA, ?_⟩)
    unfold anyS
    intro i hi
    have hi : i = 1 := by revert hi; revert i; decide
    exact zaU
  ·simp only [go_sem]
   repeat (refine ⟨zAA, ?_⟩)
   unfold anyS
   intro i hi
   have hi : i = 0 := by revert hi; revert i; decide
   subst hi
   simp only [go_sem]
   repeat (refine ⟨zAA, ?_⟩)
   unfold anyS
   intro i hi
   have hi : i = 2 := by revert hi; revert i; decide
   exact zaU
 obtain rfl := Option.some.inj h
 refine aA (cD (jG hF [.cell 2 3, .cell 3 3] rfl rfl rfl ?_))
 exact zAH
attribute [go_sem] aA2
def yM (F : Md) (e_0 : Ex) : Option Bool :=
 (aCv F e_0).bind (fun v_5 => some ((decide (v_5.1 ≤ (60 : Int))) && (decide (v_5.2.1 ≤ (30 : Int)))))
def aKj : PlR := ⟨[(0, .B [1]), (1, .A [3, 4]), (2, .A [2])], []⟩
def aMK : Ty := .pair .expr .unit
def uT (F : Md) : aI := mSpec aMK (.one .bool) (fun x => yM F x.1)
abbrev aML (F : Md) : List (FuncId × aI) := [(42, (aA2 F))]
theorem aSy [Mx] (F : Md) : bJ Tryz.prog GL (aML F) := .cons (aPN F) xAa (.nil)
attribute [go_sem] aMK aKj
theorem aKk [Mx] (F : Md) : FOK Tryz.prog GL 21 (uT F) := by
 refine bT (aT (aSy F)) mix Tryz.func21 rfl xAa xAc aKj fun w0 S x Θ hw h hF => ?_
 obtain ⟨(e_0 : Ex), u⟩ := x
 simp only [bX, go_sem]
 replace h : sat (yM F e_0) _ := h
 unfold yM at h
 obtain ⟨v_5, hv, h⟩ := aN h
 try simp only [hv, go_sem]
 exact zaF
attribute [go_sem] uT
def pR (F : Md) (x12_7 : Bool) : Option (Int) :=
 if x12_7 = true then some (1 : Int) else some (-1 : Int)
def pS (F : Md) (kind_0 : Int) (x7_6 : Bool) : Option (Int) :=
 if x7_6 = true then some (2 : Int) else if kind_0 = (10 : Int) then pR F (decide (kind_0 = (10 : Int))) else if kind_0 = (11 : Int) then pR F (decide (kind_0 = (11 : Int))) else if kind_0 = (12 : Int) then pR F (decide (kind_0 = (12 : Int))) else pR F (decide (kind_0 = (13 : Int)))
def xE (F : Md) (kind_0 : Int) (x4_5 : Bool) : Option (Int) :=
 if x4_5 = true then some (0 : Int) else if kind_0 = (6 : Int) then pS F kind_0 (decide (kind_0 = (6 : Int))) else if kind_0 = (7 : Int) then pS F kind_0 (decide (kind_0 = (7 : Int))) else if kind_0 = (8 : Int) then pS F kind_0 (decide (kind_0 = (8 : Int))) else pS F kind_0 (decide (kind_0 = (9 : Int)))
def zJ (F : Md) (kind_0 : Int) : Option Int :=
 if kind_0 = (1 : Int) then xE F kind_0 (decide (kind_0 = (1 : Int))) else xE F kind_0 (decide (kind_0 = (2 : Int)))
@[go_sem]def aCx : Ty := .pair qe .unit
def aA3 (F : Md) : aI := mSpec aCx (.one qe) (fun x => zJ F x.1)
abbrev aKl (F : Md) : List (FuncId × aI) := []
theorem aKm [Mx] (F : Md) : bJ Tryz.prog GL (aKl F) := .nil
theorem aPO [Mx] (F : Md) : FOK Tryz.prog GL 157 (aA3 F) := by
 refine sS (aT (aKm F)) Tryz.func157 rfl xAa xAc fun w0 S x r hw h => ?_
 have hF : fT (fr Tryz.prog (EM (aKl F)) S w0 Tryz.f157.ntmps) := ⟨aT (aKm F), mix⟩
 obtain ⟨(kind_0 : Int), u⟩ := x
 simp only [aCx, Ty.wf, fF] at hw
 simp only [bX, aCx]
 try dsimp only at h
 replace h : zJ F kind_0 = some r := h
 unfold zJ at h
 refine aB (aF hF [0] (yaA ?_))
 refine aA (aB (aB (aF hF [3] (yaA ?_))))
 refine aA (eB (qW (D := Bool) (fun d => xE F kind_0 d = some r) [3] (fun d => [(4, .val .bool d)]) (fun d => []) ?_ ?_))
 ·refine aB (aF hF [3, 4] (yaA ?_))
  refine aA (bG rfl (fun hc => ?_) (fun hc => ?_))
  ·try simp only [go_sem] at hc
   have h := eC zAB h
   refine cI (bY (aZ (decide (kind_0 = (1 : Int))) h rfl ?_))
   ·exact zAG
  ·try simp only [go_sem] at hc
   have h := eD zAB h
   refine aF hF [3, 4] (yaA ?_)
   refine bY (aZ (decide (kind_0 = (2 : Int))) h rfl ?_)
   ·exact zAG
 ·rintro x4_5 h
  try dsimp only at h
  simp only [go_sem]
  unfold xE at h
  refine bG rfl (fun hc => ?_) (fun hc => ?_)
  ·try simp only [go_sem] at hc
   exact zao
  ·try simp only [go_sem] at hc
   have h := eD zAB h
   refine qW (D := Bool) (fun d => pS F kind_0 d = some r) [3] (fun d => [(7, .val .bool d)]) (fun d => []) ?_ ?_
   ·refine aB (aF hF [3, 7] (yaA ?_))
    refine aA (bG rfl (fun hc => ?_) (fun hc => ?_))
    ·try simp only [go_sem] at hc
     have h := eC zAB h
     refine cI (bY (aZ (decide (kind_0 = (6 : Int))) h rfl ?_))
     ·exact zAG
    ·try simp only [go_sem] at hc
     have h := eD zAB h
     refine aB (aF hF [3, 7] (yaA ?_))
     refine aA (bG rfl (fun hc => ?_) (fun hc => ?_))
     ·try simp only [go_sem] at hc
      have h := eC zAB h
      refine cI (bY (aZ (decide (kind_0 = (7 : Int))) h rfl ?_))
      ·exact zAG
     ·try simp only [go_sem] at hc
      have h := eD zAB h
      refine aB (aF hF [3, 7] (yaA ?_))
      refine aA (bG rfl (fun hc => ?_) (fun hc => ?_))
      ·try simp only [go_sem] at hc
       have h := eC zAB h
       refine cI (bY (aZ (decide (kind_0 = (8 : Int))) h rfl ?_))
       ·exact zAG
      ·try simp only [go_sem] at hc
       have h := eD zAB h
       refine aF hF [3, 7] (yaA ?_)
       refine bY (aZ (decide (kind_0 = (9 : Int))) h rfl ?_)
       ·exact zAG
   ·rintro x7_6 h
    try dsimp only at h
    simp only [go_sem]
    unfold pS at h
    refine bG rfl (fun hc => ?_) (fun hc => ?_)
    ·try simp only [go_sem] at hc
     exact zao
    ·try simp only [go_sem] at hc
     have h := eD zAB h
     refine qW (D := Bool) (fun d => pR F d = some r) [] (fun d => [(12, .val .bool d)]) (fun d => []) ?_ ?_
     ·refine aB (aF hF [3, 12] (yaA ?_))
      refine aA (bG rfl (fun hc => ?_) (fun hc => ?_))
      ·try simp only [go_sem] at hc
       have h := eC zAB h
       refine cI (bY (aZ (decide (kind_0 = (10 : Int))) h rfl ?_))
       ·exact zAG
      ·try simp only [go_sem] at hc
       have h := eD zAB h
       refine aB (aF hF [3, 12] (yaA ?_))
       refine aA (bG rfl (fun hc => ?_) (fun hc => ?_))
       ·try simp only [go_sem] at hc
        have h := eC zAB h
        refine cI (bY (aZ (decide (kind_0 = (11 : Int))) h rfl ?_))
        ·exact zAG
       ·try simp only [go_sem] at hc
        have h := eD zAB h
        refine aB (aF hF [3, 12] (yaA ?_))
        refine aA (bG rfl (fun hc => ?_) (fun hc => ?_))
        ·try simp only [go_sem] at hc
         have h := eC zAB h
         refine cI (bY (aZ (decide (kind_0 = (12 : Int))) h rfl ?_))
         ·exact zAG
        ·try simp only [go_sem] at hc
         have h := eD zAB h
         refine aF hF [12] (yaA ?_)
         refine bY (aZ (decide (kind_0 = (13 : Int))) h rfl ?_)
         ·exact zAG
     ·rintro x12_7 h
      try dsimp only at h
      simp only [go_sem]
      unfold pR at h
      refine bG rfl (fun hc => ?_) (fun hc => ?_)
      ·try simp only [go_sem] at hc
       exact zao
      ·try simp only [go_sem] at hc
       have h := eD zAB h
       refine cI (bB (aA (aB (aF hF [2] (yaA ?_)))))
       exact za3
attribute [go_sem] aA3
@[go_sem]def uU : Ty := .pair .expr (.pair wh .unit)
def jS (g : Ex → qw → Option (Bool)) : aI := mSpec uU (.one .bool) (fun x => g x.1 x.2.1)
attribute [go_sem] jS
def zK (F : Md) (g : Ex → qw → Option (Bool)) (x_0 : Ex) (a1_1 : qw) : Option Bool :=
 (g x_0 a1_1).bind (fun v_6 => some (!v_6))
def aGd : PlR := ⟨[(0, .B [1, 2]), (1, .A [3])], []⟩
def aHg : Ty := .pair .expr wy
def xF (F : Md) (g : Ex → qw → Option (Bool)) : aI := mSpec aHg (.one .bool) (fun x => zK F g x.1 x.2.1)
abbrev aHh (F : Md) (g : Ex → qw → Option (Bool)) : List (FuncId × aI) := [(115, (jS g))]
theorem aPa [Mx] (F : Md) (g : Ex → qw → Option (Bool)) (hg : FOK Tryz.prog GL 115 (jS g)) : bJ Tryz.prog GL (aHh F g) := .cons hg xAa (.nil)
attribute [go_sem] aHg aGd
theorem aNl [Mx] (F : Md) (g : Ex → qw → Option (Bool)) (hg : FOK Tryz.prog GL 115 (jS g)) : FOK Tryz.prog GL 159 (xF F g) := by
 refine bT (aT (aPa F g hg)) mix Tryz.func159 rfl xAa xAc aGd fun w0 S x Θ hw h hF => ?_
 obtain ⟨(x_0 : Ex), (a1_1 : qw), u⟩ := x
 simp only [bX, go_sem]
 replace h : sat (zK F g x_0 a1_1) _ := h
 unfold zK at h
 obtain ⟨v_6, hv, h⟩ := aN h
 try simp only [hv, go_sem]
 exact aK hF [.tmp 3] rfl rfl rfl (aE h) xAd
attribute [go_sem] xF
def eM (F : Md) (g : Ex → qw → Option (Bool)) (s_0 : wx) (f_1 : wq) (x8_14 : Int) : Option ((Int) ⊕ ((Unit) ⊕ Int)) :=
 if x8_14 < (s_0.length : Int) then ck (0 ≤ x8_14 ∧ x8_14 < (s_0.length : Int)) ((zK F g (s_0.getD (x8_14.toNat) (Ex.mk 0 [] [])) f_1.1).bind (fun v_27 => if v_27 = true then some (.inr (.inr x8_14)) else ck (I64 (x8_14 + (1 : Int))) (some (.inl (x8_14 + (1 : Int)))))) else some (.inr (.inl ()))
def dL (F : Md) (g : Ex → qw → Option (Bool)) (s_0 : wx) (f_1 : wq) : Option Int :=
 (eG F (fun d : Int => eM F g s_0 f_1 d) (0 : Int)).bind (fun e => match e with | (.inl e) => some (-1 : Int) | (.inr e) => some e)
def iI : PlR := ⟨[(0, .A [0, 1]), (1, .A [0, 1, 7, 8]), (2, .A [0, 1, 7, 8, 9]), (3, .A [0, 1, 5, 7, 8]), (4, .A [0, 1, 5, 7, 8, 16]), (5, .A [4]), (6, .A [0, 1, 7, 8]), (7, .A [4])], []⟩
def iR : Ty := .pair (.sl .expr) (.pair (.clo 159 wy) .unit)
def dE (F : Md) (g : Ex → qw → Option (Bool)) : aI := mSpec iR (.one qe) (fun x => dL F g x.1 x.2.1)
abbrev iS (F : Md) (g : Ex → qw → Option (Bool)) : List (FuncId × aI) := [(159, (xF F g))]
theorem pG [Mx] (F : Md) (g : Ex → qw → Option (Bool)) (hg : FOK Tryz.prog GL 115 (jS g)) : bJ Tryz.prog GL (iS F g) := .cons (aNl F g hg) xAa (.nil)
attribute [go_sem] iR iI
theorem oV [Mx] (F : Md) (g : Ex → qw → Option (Bool)) (hg : FOK Tryz.prog GL 115 (jS g)) : FOK Tryz.prog GL 181 (dE F g) := by
 refine bT (aT (pG F g hg)) mix Tryz.func181 rfl xAa xAc iI fun w0 S x Θ hw h hF => ?_
 obtain ⟨(s_0 : wx), (f_1 : wq), u⟩ := x
 simp only [bX, go_sem]
 replace h : sat (dL F g s_0 f_1) _ := h
 unfold dL at h
 refine cG hF (D := Int) [0, 1, 7] (fun d => [(8, .val qe d)]) (fun d => []) h rfl xAb ?_
 rintro x8_14 A2 T2 hA2 hE2 h
 simp only [go_sem]
 replace h : sat (eM F g s_0 f_1 x8_14) _ := h
 unfold eM at h
 exact zaP
attribute [go_sem] dE
def cJ (F : Md) (g : Ex → qw → Option (Bool)) (s_0 : wx) (f_1 : wq) : Option Bool :=
 (dL F g s_0 f_1).bind (fun v_8 => some (decide ((0 : Int) ≤ v_8)))
def gP : PlR := ⟨[(0, .A [0, 1]), (1, .A [4])], []⟩
def gY : Ty := .pair (.sl .expr) (.pair (.clo 159 wy) .unit)
def cX (F : Md) (g : Ex → qw → Option (Bool)) : aI := mSpec gY (.one .bool) (fun x => cJ F g x.1 x.2.1)
abbrev gZ (F : Md) (g : Ex → qw → Option (Bool)) : List (FuncId × aI) := [(181, (dE F g))]
theorem nW [Mx] (F : Md) (g : Ex → qw → Option (Bool)) (hg : FOK Tryz.prog GL 115 (jS g)) : bJ Tryz.prog GL (gZ F g) := .cons (oV F g hg) xAa (.nil)
attribute [go_sem] gY gP
theorem nJ [Mx] (F : Md) (g : Ex → qw → Option (Bool)) (hg : FOK Tryz.prog GL 115 (jS g)) : FOK Tryz.prog GL 158 (cX F g) := by
 refine bT (aT (nW F g hg)) mix Tryz.func158 rfl xAa xAc gP fun w0 S x Θ hw h hF => ?_
 obtain ⟨(s_0 : wx), (f_1 : wq), u⟩ := x
 simp only [bX, go_sem]
 replace h : sat (cJ F g s_0 f_1) _ := h
 unfold cJ at h
 obtain ⟨v_8, hv, h⟩ := aN h
 exact zaR
attribute [go_sem] cX
def zL (F : Md) (g : Ex → qw → Option (Bool)) (e_0 : Ex) (names_1 : qw) : Option Bool :=
 ck ((zJ F (e_0.kind)).isSome = true) (if ¬ (((zJ F (e_0.kind)).getD (0 : Int)) = (((e_0.l).length : Nat) : Int)) then some false else if (e_0.kind) = (1 : Int) then ck ((qM F (e_0.text)).isSome = true) (some ((qM F (e_0.text)).getD false)) else if (e_0.kind) = (2 : Int) then ck (¬ ((e_0.text) = (aU ⟨#[116]⟩)) → ((fP F names_1 (e_0.text)).isSome = true)) (some ((decide ((e_0.text) = (aU ⟨#[116]⟩))) || ((fP F names_1 (e_0.text)).getD false))) else ck (((e_0.text) = (aU ⟨#[]⟩)) → ((cJ F g (e_0.l) (names_1, ())).isSome = true)) (some ((decide ((e_0.text) = (aU ⟨#[]⟩))) && (!((cJ F g (e_0.l) (names_1, ())).getD false)))))
abbrev uV (F : Md) (g : Ex → qw → Option (Bool)) : List (FuncId × aI) := [(158, (cX F g)), (117, (gC F)), (157, (aA3 F)), (98, (rJ F))]
theorem aKn [Mx] (F : Md) (g : Ex → qw → Option (Bool)) (hg : FOK Tryz.prog GL 115 (jS g)) : bJ Tryz.prog GL (uV F g) := .cons (nJ F g hg) xAa (.cons (vL F) xAa (.cons (aPO F) xAa (.cons (aHd F) xAa (.nil))))
theorem aPb [Mx] (F : Md) (g : Ex → qw → Option (Bool)) (hg : FOK Tryz.prog GL 115 (jS g)) : FOK Tryz.prog GL 115 (mSpec uU (.one .bool) (fun x => zL F g x.1 x.2.1)) := by
 refine sS (aT (aKn F g hg)) Tryz.func115 rfl xAa xAc fun w0 S x r hw h => ?_
 have hF : fT (fr Tryz.prog (EM (uV F g)) S w0 Tryz.f115.ntmps) := ⟨aT (aKn F g hg), mix⟩
 obtain ⟨(e_0 : Ex), (names_1 : qw), u⟩ := x
 simp only [uU, Ty.wf, fF] at hw
 simp only [bX, uU]
 try dsimp only at h
 replace h : zL F g e_0 names_1 = some r := h
 unfold zL at h
 refine aB (aR hF [2, 3] (yaA ?_))
 refine aA (aB (aB (aF hF [2, 3, 11] (yaA ?_))))
 obtain ⟨g0, h⟩ := aQ h
 repeat (refine ⟨zAA, ?_⟩)
 refine aA (bG rfl (fun hc => ?_) (fun hc => ?_))
 ·try simp only [go_sem] at hc
  have h := eC zAB h
  refine aB (aF hF [4] (yaA ?_))
  obtain rfl := Option.some.inj h
  refine aA (cD (cS (jG hF [.tmp 4] rfl rfl rfl ?_)))
  exact zAH
 ·try simp only [go_sem] at hc
  have h := eD zAB h
  refine cI (aA (aB (aB (aF hF [2, 3, 13] (yaA ?_)))))
  refine aA (eB (aB (aF hF [2, 3, 13, 14] (yaA ?_))))
  refine aA (bG rfl (fun hc => ?_) (fun hc => ?_))
  ·try simp only [go_sem] at hc
   have h := eC zAB h
   refine aB (aF hF [4] (yaA ?_))
   obtain ⟨g0, h⟩ := aQ h
   repeat (refine ⟨zAA, ?_⟩)
   obtain rfl := Option.some.inj h
   refine aA (cD (gE (cS (jG hF [.tmp 4] rfl rfl rfl ?_))))
   exact zAH
  ·try simp only [go_sem] at hc
   have h := eD zAB h
   refine aB (aF hF [2, 3, 19] (yaA ?_))
   refine aA (bG rfl (fun hc => ?_) (fun hc => ?_))
   ·try simp only [go_sem] at hc
    have h := eC zAB h
    refine aB (aF hF [4] (yaA ?_))
    obtain ⟨g0, h⟩ := aQ h
    repeat (refine ⟨zAD, ?_⟩)
    obtain rfl := Option.some.inj h
    refine aA (cD (gE (cS (jG hF [.tmp 4] rfl rfl rfl ?_))))
    exact zAH
   ·try simp only [go_sem] at hc
    have h := eD zAB h
    refine cI (bB (aA (aB (aBi 1 rfl (yaA ?_)))))
    refine aF hF [4] (yaA ?_)
    obtain ⟨g0, h⟩ := aQ h
    repeat (refine ⟨zAD, ?_⟩)
    obtain rfl := Option.some.inj h
    refine aA (cD (jG hF [.tmp 4] rfl rfl rfl ?_))
    exact zAH
def aCy (F : Md) : Nat → Ex → qw → Option (Bool)
 | 0 => fun _ _ => none
 | n + 1 => zL F (aCy F n)
def aA4 (F : Md) (n : Nat) : aI := mSpec uU (.one .bool) (fun x => aCy F n x.1 x.2.1)
theorem aIq [Mx] (F : Md) : ∀ n, FOK Tryz.prog GL 115 (aA4 F n)
 | 0 => fun _ _ _ _ _ _ _ hp => Bool.noConfusion (show false = true from hp)
 | n + 1 => aPb F _ (aIq F n)
attribute [go_sem] aA4
end
end Nu
end Go.Proofs
namespace Go.Proofs
open Go.Vc
set_option maxRecDepth 20000
namespace Nu
noncomputable section
def aXc : List Nat → Nat → Nat → Int
 | [], _, _ => -1
 | b :: l, c, k => if b = c then (k : Int) else aXc l c (k + 1)
def aWh (l : List Nat) (c : Nat) : Int := aXc l c 0
theorem aFQ : ∀ (l : List UInt8) (c : UInt8), Lib.indexByte l c = -1 ∨ 0 ≤ Lib.indexByte l c
 | [], c => .inl rfl
 | b :: l, c => by
  unfold Lib.indexByte
  split
  ·exact .inr xAc
  ·split
   ·exact .inl rfl
   ·rename_i h
    rcases aFQ l c with h1 | h1
    ·rw [h1] at h; exact absurd rfl h
    ·right; omega
theorem aQA : ∀ (l : List UInt8) (c : UInt8) (k : Nat), aXc (l.map (·.toNat)) c.toNat k = if Lib.indexByte l c = -1 then -1 else Lib.indexByte l c + k
 | [], c, k => rfl
 | b :: l, c, k => by
  have ih := aQA l c (k + 1)
  have ho := aFQ l c
  rw [List.map_cons, aXc]
  unfold Lib.indexByte
  by_cases hb : b = c
  ·subst hb
   simp
  ·have hn : ¬ b.toNat = c.toNat := fun h => hb (UInt8.toNat_inj.1 h)
   have hbe : (b == c) = false := by simpa using hb
   rw [if_neg hn, ih, hbe]
   by_cases h1 : Lib.indexByte l c = -1
   ·rw [if_pos h1, h1]; rfl
   ·have h2 : (Lib.indexByte l c == -1) = false := by simpa using h1
    rw [if_neg h1, h2]
    simp only [Bool.false_eq_true, if_false]
    rw [if_neg (by omega)]
    omega
def uB : Ty := .pair .str wk
def kP : aI := ⟨uB, .one qe, fun _ => True, fun x => aWh x.1 x.2.1⟩
attribute [go_sem] kP uB
theorem aCz [Mx] : NOK Tryz.prog GL 161 kP := by
 refine ⟨(fun e t h => by cases h), fun w vs S x hS hG ha hp => ?_⟩
 obtain ⟨(a : List Nat), (c : Nat), u⟩ := x
 obtain ⟨v1, r1, e1, h1, v2, r2, e2, h2, h3⟩ := ha
 have h3 : r2 = [] := h3
 subst h3
 have h1 : bC w S .str a [v1] := h1
 obtain ⟨s, es, hs, hsz⟩ := h1
 obtain rfl := (List.cons.inj es).1
 have hw := h2
 unfold dB at h2
 rw [if_neg (by simp [Ty.isAgg])] at h2
 simp only [bC, List.cons.injEq, and_true] at h2
 have hc : c < 256 := by
  have := h2.2.2
  have hm : IntKind.u8.max = 255 := by decide
  omega
 obtain rfl := h2.1
 have hvs : vs = #[.string s, .int .u8 (c : Int)] := by rw [← Array.toList_inj, e1, e2]
 rw [hvs]
 refine ⟨.int .i64 (Lib.indexByte s.data.toList ((c : Int).toNat.toUInt8)), w, ?_, _, rfl, .refl _ _, ?_⟩
 ·rw [run_callFunc_extern Tryz.func161 xAa xAa xAa (e := Extern.BytealgIndexByte.indexByte) xAa, Lib.run_indexByteString]
  rfl
 ·show dB w _ qe (aWh a c) _
  have hx : aWh a c = Lib.indexByte s.data.toList ((c : Int).toNat.toUInt8) := by
   have hcc : ((c : Int).toNat.toUInt8).toNat = c := by
    rw [Int.toNat_natCast]
    exact Nat.mod_eq_of_lt hc
   have := aQA s.data.toList ((c : Int).toNat.toUInt8) 0
   rw [hcc] at this
   have hs : a = s.data.toList.map (·.toNat) := hs.symm
   unfold aWh
   rw [hs, this]
   split
   ·rename_i h; exact h.symm
   ·omega
  rw [hx]
  unfold dB
  rw [if_neg (by simp [Ty.isAgg])]
  have ho := aFQ s.data.toList ((c : Int).toNat.toUInt8)
  have hl : ∀ (l : List UInt8) (c : UInt8), Lib.indexByte l c ≤ l.length := fun l c => by
   induction l with
   | nil => exact (by decide : (-1 : Int) ≤ 0)
   | cons b l ih =>
    unfold Lib.indexByte
    split
    ·simp; omega
    ·split
     ·simp; omega
     ·simp; omega
  have hl := hl s.data.toList ((c : Int).toNat.toUInt8)
  have hsz' : s.data.toList.length ≤ maxLen := hsz
  unfold maxLen at hsz'
  generalize Lib.indexByte s.data.toList ((c : Int).toNat.toUInt8) = z at ho hl ⊢
  refine ⟨rfl, rfl, ?_, ?_⟩
  ·have hm : IntKind.i64.min = -9223372036854775808 := by decide
   show (IntKind.i64.min : Int) ≤ z
   rw [hm]
   omega
  ·have hm : IntKind.i64.max = 9223372036854775807 := by decide
   show (z : Int) ≤ IntKind.i64.max
   rw [hm]
   omega
end
end Nu
end Go.Proofs
namespace Go.Proofs
open Go.Vc
set_option maxRecDepth 20000
namespace Nu
noncomputable section
set_option maxHeartbeats 4000000
attribute [-go_sem] Ex.kind Ex.text Ex.l
def mD (F : Md) (s_0 : qd) (c_1 : Nat) : Option Int :=
 some (aWh s_0 c_1)
def vM : PlR := ⟨[(0, .A [0, 1]), (1, .A [4])], []⟩
def wM : Ty := .pair .str wk
def lN (F : Md) : aI := mSpec wM (.one qe) (fun x => mD F x.1 x.2.1)
abbrev wN (F : Md) : List (FuncId × aI) := [(161, kP)]
theorem aEl [Mx] (F : Md) : bJ Tryz.prog GL (wN F) := .nat aCz (.nil)
attribute [go_sem] wM vM
theorem aDs [Mx] (F : Md) : FOK Tryz.prog GL 119 (lN F) := by
 refine bT (aT (aEl F)) mix Tryz.func119 rfl xAa xAc vM fun w0 S x Θ hw h hF => ?_
 obtain ⟨(s_0 : qd), (c_1 : Nat), u⟩ := x
 simp only [bX, go_sem]
 replace h : sat (mD F s_0 c_1) _ := h
 unfold mD at h
 exact zaD
attribute [go_sem] lN
def aV (F : Md) (s_0 : qd) (c_1 : Nat) : Option Int :=
 (mD F s_0 c_1).bind (fun v_6 => some v_6)
def aBm : PlR := ⟨[(0, .A [0, 1]), (1, .A [4])], []⟩
def aBO : Ty := .pair .str wk
def dO (F : Md) : aI := mSpec aBO (.one qe) (fun x => aV F x.1 x.2.1)
abbrev aBP (F : Md) : List (FuncId × aI) := [(119, (lN F))]
theorem aHZ [Mx] (F : Md) : bJ Tryz.prog GL (aBP F) := .cons (aDs F) xAa (.nil)
attribute [go_sem] aBO aBm
theorem mM [Mx] (F : Md) : FOK Tryz.prog GL 82 (dO F) := by
 refine bT (aT (aHZ F)) mix Tryz.func82 rfl xAa xAc aBm fun w0 S x Θ hw h hF => ?_
 obtain ⟨(s_0 : qd), (c_1 : Nat), u⟩ := x
 simp only [bX, go_sem]
 replace h : sat (aV F s_0 c_1) _ := h
 unfold aV at h
 obtain ⟨v_6, hv, h⟩ := aN h
 exact zaR
attribute [go_sem] dO
def zM (F : Md) (r_3 : qi) : Option (qi ⊕ qi) :=
 ck ((r_3.2.1 < (r_3.1.length : Int)) → (0 ≤ r_3.2.1 ∧ r_3.2.1 < (r_3.1.length : Int))) (if (r_3.2.1 < (r_3.1.length : Int)) ∧ ((r_3.1.getD (r_3.2.1.toNat) (0 : Nat)) = (32 : Nat)) then ck (I64 (r_3.2.1 + (1 : Int))) (some (.inl (r_3.1, (r_3.2.1 + (1 : Int)), r_3.2.2.1, ()))) else some (.inr r_3))
def nK (F : Md) (o0_1 : qi) : Option qi :=
 (eG F (fun d : qi => zM F d) o0_1).bind (fun e => some e)
def mN (F : Md) : fW where
 D := qi × qi
 av := fun d => [.ptr 0 []]
 hp := fun d => [.box 3 (.val qy d.1)]
 m := 1
 pre := fun d => nK F d.1 = some d.2
 out := fun d => (fun r : qi => .ret (.tup []) [.box 3 (.val qy (r))]) d.2
abbrev aBQ (F : Md) : List (FuncId × aI) := []
theorem aBR [Mx] (F : Md) : bJ Tryz.prog GL (aBQ F) := .nil
theorem aBn [Mx] (F : Md) : GOK Tryz.prog GL 20 (mN F) := by
 refine eI (aT (aBR F)) Tryz.func20 rfl xAa (fun _ => Nat.le_of_ble_eq_true rfl) fun c0 w0 d hw1 hw2 h hn => ?_
 have hF : fT ⟨Tryz.prog, EM (aBQ F), GM (mN F) c0 d, w0, Tryz.f20.ntmps, []⟩ := ⟨aT (aBR F), mix⟩
 obtain ⟨(o0_1 : qi), r⟩ := d
 replace h : nK F o0_1 = some r := h
 have hw1 : AV.wfL [.ptr 0 []] := hw1
 simp only [AV.wfL, AV.wfV, Ty.wf, fF] at hw1
 show Tri _ _ _ [(0, .ptr 0 [])] [.box 3 (.val qy o0_1)]
 unfold nK at h
 refine eB (pP (D := qi) [] (fun d => [(0, .ptr 0 [])]) (fun d => [.inr (.box 3 (.val qy d))]) h ?_ ?_ ?_)
 ·first | rfl | (simp only [go_sem]; done)
 ·exact zAG
 rintro r_3 s0 h hs0
 simp only [go_sem]
 try dsimp only at h
 unfold zM at h
 refine aB (aB (aF hF [0, 23] (yaA ?_)))
 obtain ⟨g0, h⟩ := aQ h
 repeat (refine ⟨zAD, ?_⟩)
 refine aA (bG rfl (fun hc => ?_) (fun hc => ?_))
 ·try simp only [go_sem] at hc
  have h := eC zAB h
  refine cI (aA (eB (aR hF [0] (yaA ?_))))
  obtain ⟨g0, h⟩ := aQ h
  try simp only [I64, I32] at g0
  repeat (refine ⟨zAA, ?_⟩)
  obtain rfl := Option.some.inj h
  dsimp only [mY] at hs0
  refine bB (bY (aZ (r_3.1, (r_3.2.1 + (1 : Int)), r_3.2.2.1, ()) hs0 rfl ?_))
  ·exact zAG
 ·try simp only [go_sem] at hc
  have h := eD zAB h
  obtain rfl := Option.some.inj h
  dsimp only [mY] at hs0
  have h := yaF (hs0)
  obtain rfl := Option.some.inj h
  refine sG (dY (dY (gL (gF (dZ hF [] rfl rfl rfl rfl rfl rfl ?_)))))
  exact zaB
attribute [go_sem] mN
def kW (F : Md) (signs_1 : qd) (o0_2 : qi) : Option ((Nat × wm) × qi) :=
 (nK F o0_2).bind (fun r_5 => ck (¬ (r_5.2.1 = (r_5.1.length : Int)) → (0 ≤ r_5.2.1 ∧ r_5.2.1 < (r_5.1.length : Int))) (ck (¬ (r_5.2.1 = (r_5.1.length : Int)) → ((aV F signs_1 (r_5.1.getD (r_5.2.1.toNat) (0 : Nat))).isSome = true)) (if (r_5.2.1 = (r_5.1.length : Int)) ∨ (((aV F signs_1 (r_5.1.getD (r_5.2.1.toNat) (0 : Nat))).getD (0 : Int)) < (0 : Int)) then some (((0 : Nat), false, ()), r_5) else ck (I64 (r_5.2.1 + (1 : Int))) (ck (I64 ((r_5.2.1 + (1 : Int)) - (1 : Int))) (ck (0 ≤ ((r_5.2.1 + (1 : Int)) - (1 : Int)) ∧ ((r_5.2.1 + (1 : Int)) - (1 : Int)) < (r_5.1.length : Int)) (some (((r_5.1.getD ((r_5.2.1 + (1 : Int)) - (1 : Int)).toNat (0 : Nat)), true, ()), r_5.1, (r_5.2.1 + (1 : Int)), r_5.2.2.1, ())))))))
def kB (F : Md) : fW where
 D := qd × qi × ((Nat × wm) × qi)
 av := fun d => [.ptr 0 [], .val .str d.1]
 hp := fun d => [.box 3 (.val qy d.2.1)]
 m := 1
 pre := fun d => kW F d.1 d.2.1 = some d.2.2
 out := fun d => (fun r : ((Nat × wm) × qi) => .ret (.tup [.val ww r.1.1, .val .bool r.1.2.1]) [.box 3 (.val qy r.2)]) d.2.2
abbrev zN (F : Md) : List (FuncId × aI) := [(82, (dO F))]
theorem aDP [Mx] (F : Md) : bJ Tryz.prog GL (zN F) := .cons (mM F) xAa (.nil)
theorem rR [Mx] (F : Md) : GOK Tryz.prog GL 81 (kB F) := by
 refine eI (aT (aDP F)) Tryz.func81 rfl xAa (fun _ => Nat.le_of_ble_eq_true rfl) fun c0 w0 d hw1 hw2 h hn => ?_
 have hF : fT ⟨Tryz.prog, EM (zN F), GM (kB F) c0 d, w0, Tryz.f81.ntmps, []⟩ := ⟨aT (aDP F), mix⟩
 obtain ⟨(signs_1 : qd), (o0_2 : qi), r⟩ := d
 replace h : kW F signs_1 o0_2 = some r := h
 have hw1 : AV.wfL [.ptr 0 [], .val .str signs_1] := hw1
 simp only [AV.wfL, AV.wfV, Ty.wf, fF] at hw1
 show Tri _ _ _ [(0, .ptr 0 []), (1, .val .str signs_1)] [.box 3 (.val qy o0_2)]
 unfold kW at h
 refine aB (aF hF [0, 1] (yaA ?_))
 obtain ⟨r_5, he1, h⟩ := bind_some h
 try dsimp only at h
 refine aA (aB (aC hF (aG (l := [(20, ⟨mN F, [0], (o0_2, r_5)⟩)]) (.cons (aBn F) xAa (.nil))) [0, 1] [] (yaB ?_)))
 refine aA (aB (aB (aF hF [0, 31] (yaA ?_))))
 obtain ⟨g0, h⟩ := aQ h
 obtain ⟨g1, h⟩ := aQ h
 repeat (refine ⟨zAE, ?_⟩)
 refine aA (bG rfl (fun hc => ?_) (fun hc => ?_))
 ·try simp only [go_sem] at hc
  have h := eC zAB h
  refine aB (aF hF [4, 5] (yaA ?_))
  obtain rfl := Option.some.inj h
  refine aA (cD (cS (dZ hF [.tmp 4, .tmp 5] rfl rfl rfl rfl rfl rfl ?_)))
  exact zaB
 ·try simp only [go_sem] at hc
  have h := eD zAB h
  refine cI (aA (aB (aR hF [0] (yaA ?_))))
  obtain ⟨g0, h⟩ := aQ h
  try simp only [I64, I32] at g0
  repeat (refine ⟨zAA, ?_⟩)
  refine aA (aB (aF hF [4, 5] (yaA ?_)))
  obtain ⟨g0, h⟩ := aQ h
  obtain ⟨g1, h⟩ := aQ h
  try simp only [I64, I32] at g0
  repeat (refine ⟨zAA, ?_⟩)
  obtain rfl := Option.some.inj h
  refine aA (cD (dZ hF [.tmp 4, .tmp 5] rfl rfl rfl rfl rfl rfl ?_))
  exact zaB
attribute [go_sem] kB
def nL (F : Md) (sign_1 : qd) (o0_2 : qi) : Option (qi ⊕ qp) :=
 (kW F sign_1 o0_2).bind (fun r_5 => if ¬ (r_5.1.2.1 = true) then some (.inr (r_5.2.2.1, ())) else some (.inl r_5.2))
def iJ (F : Md) : fW where
 D := qd × qi × (qi ⊕ qp)
 av := fun d => [.ptr 0 [], .val .str d.1]
 hp := fun d => [.box 3 (.val qy d.2.1)]
 m := 1
 pre := fun d => nL F d.1 d.2.1 = some d.2.2
 out := fun d => match d.2.2 with | .inl r => .ret (.tup []) [.box 3 (.val qy (r))] | .inr p => .pan ⟨56, q9, p⟩ [.box 3 (.junk)]
abbrev aBS (F : Md) : List (FuncId × aI) := []
theorem aBT [Mx] (F : Md) : bJ Tryz.prog GL (aBS F) := .nil
theorem pY [Mx] (F : Md) : GOK Tryz.prog GL 162 (iJ F) := by
 refine eI (aT (aBT F)) Tryz.func162 rfl xAa (fun _ => Nat.le_of_ble_eq_true rfl) fun c0 w0 d hw1 hw2 h hn => ?_
 have hF : fT ⟨Tryz.prog, EM (aBS F), GM (iJ F) c0 d, w0, Tryz.f162.ntmps, []⟩ := ⟨aT (aBT F), mix⟩
 obtain ⟨(sign_1 : qd), (o0_2 : qi), r⟩ := d
 replace h : nL F sign_1 o0_2 = some r := h
 have hw1 : AV.wfL [.ptr 0 [], .val .str sign_1] := hw1
 simp only [AV.wfL, AV.wfV, Ty.wf, fF] at hw1
 show Tri _ _ _ [(0, .ptr 0 []), (1, .val .str sign_1)] [.box 3 (.val qy o0_2)]
 unfold nL at h
 obtain ⟨r_5, he1, h⟩ := bind_some h
 try dsimp only at h
 refine aB (aC hF (aG (l := [(81, ⟨kB F, [0], (sign_1, o0_2, r_5)⟩)]) (.cons (rR F) xAa (.nil))) [0, 5] [] (yaB ?_))
 refine aA (aB (aF hF [0, 13] (yaA ?_)))
 refine aA (bG rfl (fun hc => ?_) (fun hc => ?_))
 ·try simp only [go_sem] at hc
  have h := eC zAB h
  refine aC hF (aG (l := []) (.nil)) [] [] (yaB ?_)
  exact za1
 ·try simp only [go_sem] at hc
  exact zaw
attribute [go_sem] iJ
def fU (F : Md) (kind_1 : Int) (text_2 : qd) (l_3 : wx) (o0_4 : qi) : Option wb :=
 ck (I64 (o0_4.2.2.1 + (1 : Int))) (some ((Ex.mk kind_1 text_2 l_3), o0_4.1, o0_4.2.1, (o0_4.2.2.1 + (1 : Int)), ()))
def fL (F : Md) : fW where
 D := Int × qd × wx × qi × wb
 av := fun d => [.ptr 0 [], .val qe d.1, .val .str d.2.1, .val (.sl .expr) d.2.2.1]
 hp := fun d => [.box 3 (.val qy d.2.2.2.1)]
 m := 1
 pre := fun d => fU F d.1 d.2.1 d.2.2.1 d.2.2.2.1 = some d.2.2.2.2
 out := fun d => (fun r : wb => .ret (.val .expr r.1) [.box 3 (.val qy r.2)]) d.2.2.2.2
abbrev aBU (F : Md) : List (FuncId × aI) := []
theorem aBV [Mx] (F : Md) : bJ Tryz.prog GL (aBU F) := .nil
theorem kK [Mx] (F : Md) : GOK Tryz.prog GL 83 (fL F) := by
 refine eI (aT (aBV F)) Tryz.func83 rfl xAa (fun _ => Nat.le_of_ble_eq_true rfl) fun c0 w0 d hw1 hw2 h hn => ?_
 have hF : fT ⟨Tryz.prog, EM (aBU F), GM (fL F) c0 d, w0, Tryz.f83.ntmps, []⟩ := ⟨aT (aBV F), mix⟩
 obtain ⟨(kind_1 : Int), (text_2 : qd), (l_3 : wx), (o0_4 : qi), r⟩ := d
 replace h : fU F kind_1 text_2 l_3 o0_4 = some r := h
 have hw1 : AV.wfL [.ptr 0 [], .val qe kind_1, .val .str text_2, .val (.sl .expr) l_3] := hw1
 simp only [AV.wfL, AV.wfV, Ty.wf, fF] at hw1
 show Tri _ _ _ [(0, .ptr 0 []), (1, .val qe kind_1), (2, .val .str text_2), (3, .val (.sl .expr) l_3)] [.box 3 (.val qy o0_4)]
 unfold fU at h
 refine aB (aR hF [0, 1, 2, 3, 8] (yaA ?_))
 refine aA (aB (aR hF [1, 2, 3, 8] (yaA ?_)))
 obtain ⟨g0, h⟩ := aQ h
 try simp only [I64, I32] at g0
 repeat (refine ⟨zAA, ?_⟩)
 refine aA (aB (aR hF [8] (yaA ?_)))
 obtain rfl := Option.some.inj h
 refine aA (cD (jP hF [.cell 8 27] [0] rfl rfl rfl rfl rfl rfl rfl rfl rfl ?_))
 exact zaB
attribute [go_sem] fL
def wO (F : Md) (s_0 : qd) (at_1 : Int) (n_9 : Int) (k_15 : Int) : Option (Int) :=
 (nV F s_0 k_15).bind (fun v_19 => ck (I64 (k_15 + (min v_19 (4 : Int)))) (ck (0 ≤ k_15 ∧ k_15 ≤ (k_15 + (min v_19 (4 : Int))) ∧ (k_15 + (min v_19 (4 : Int))) ≤ (s_0.length : Int)) (ck ((aU ⟨#[48]⟩).length + (List.drop (k_15.toNat) (List.take (k_15 + (min v_19 (4 : Int))).toNat s_0)).length ≤ 9223372036854775807) ((oU F ((aU ⟨#[48]⟩) ++ (List.drop (k_15.toNat) (List.take (k_15 + (min v_19 (4 : Int))).toNat s_0)))).bind (fun v_23 => if (((1 : Int) ≤ v_19) ∧ (v_19 ≤ (3 : Int))) ∧ (v_23.1 ≤ (100 : Int)) then ck (I64 (k_15 + v_19)) (ck (I64 ((k_15 + v_19) - at_1)) (some ((k_15 + v_19) - at_1))) else ck (I64 (n_9 - at_1)) (some (n_9 - at_1)))))))
def sX (F : Md) (s_0 : qd) (at_1 : Int) (n_9 : Int) : Option (Int) :=
 ck ((n_9 < (s_0.length : Int)) → (0 ≤ n_9 ∧ n_9 < (s_0.length : Int))) (if (n_9 < (s_0.length : Int)) ∧ ((s_0.getD (n_9.toNat) (0 : Nat)) = (101 : Nat)) then ck (I64 (n_9 + (1 : Int))) (ck (((n_9 + (1 : Int)) < (s_0.length : Int)) → (0 ≤ (n_9 + (1 : Int)) ∧ (n_9 + (1 : Int)) < (s_0.length : Int))) (ck (((n_9 + (1 : Int)) < (s_0.length : Int)) → ¬ ((s_0.getD (n_9 + (1 : Int)).toNat (0 : Nat)) = (43 : Nat)) → (0 ≤ (n_9 + (1 : Int)) ∧ (n_9 + (1 : Int)) < (s_0.length : Int))) (if ((n_9 + (1 : Int)) < (s_0.length : Int)) ∧ (((s_0.getD (n_9 + (1 : Int)).toNat (0 : Nat)) = (43 : Nat)) ∨ ((s_0.getD (n_9 + (1 : Int)).toNat (0 : Nat)) = (45 : Nat))) then ck (I64 ((n_9 + (1 : Int)) + (1 : Int))) (wO F s_0 at_1 n_9 ((n_9 + (1 : Int)) + (1 : Int))) else wO F s_0 at_1 n_9 (n_9 + (1 : Int))))) else ck (I64 (n_9 - at_1)) (some (n_9 - at_1)))
def eT (F : Md) (s_0 : qd) (at_1 : Int) : Option Int :=
 (nV F s_0 at_1).bind (fun v_6 => ck (I64 (at_1 + v_6)) (if (at_1 + v_6) = at_1 then some (0 : Int) else ck (((at_1 + v_6) < (s_0.length : Int)) → (0 ≤ (at_1 + v_6) ∧ (at_1 + v_6) < (s_0.length : Int))) (if ((at_1 + v_6) < (s_0.length : Int)) ∧ ((s_0.getD (at_1 + v_6).toNat (0 : Nat)) = (46 : Nat)) then ck (I64 ((at_1 + v_6) + (1 : Int))) ((nV F s_0 ((at_1 + v_6) + (1 : Int))).bind (fun v_27 => if (0 : Int) < v_27 then ck (I64 ((at_1 + v_6) + (1 : Int))) (ck (I64 (((at_1 + v_6) + (1 : Int)) + v_27)) (sX F s_0 at_1 (((at_1 + v_6) + (1 : Int)) + v_27))) else sX F s_0 at_1 (at_1 + v_6))) else sX F s_0 at_1 (at_1 + v_6))))
def aMM : PlR := ⟨[(0, .A [0, 1]), (1, .A [0, 1, 5]), (2, .A [0, 1, 5, 18]), (3, .A [4]), (4, .A [0, 1, 5, 28]), (5, .A [0, 1, 5, 6]), (6, .A [0, 1, 5, 6, 34]), (7, .A [0, 1, 5]), (8, .A [0, 1, 5, 48]), (9, .A [0, 1, 5, 7]), (10, .A [0, 1, 5, 7, 66]), (11, .A [0, 1, 5, 7]), (12, .A [0, 1, 5, 7, 8]), (13, .A [1, 5, 7, 8, 9]), (14, .A [1, 5, 7, 8, 93]), (15, .A [1, 5]), (16, .A [4])], [(7, 11), (13, 15)]⟩
def aPc : Ty := .pair .str q9
def aDQ (F : Md) : aI := mSpec aPc (.one qe) (fun x => eT F x.1 x.2.1)
abbrev aIX (F : Md) : List (FuncId × aI) := [(134, (sU F)), (97, (lK F))]
theorem aTp [Mx] (F : Md) : bJ Tryz.prog GL (aIX F) := .cons (aIl F) xAa (.cons (aBB F) xAa (.nil))
attribute [go_sem] aPc aMM
theorem aSz [Mx] (F : Md) : FOK Tryz.prog GL 163 (aDQ F) := by
 refine bT (aT (aTp F)) mix Tryz.func163 rfl xAa xAc aMM fun w0 S x Θ hw h hF => ?_
 obtain ⟨(s_0 : qd), (at_1 : Int), u⟩ := x
 simp only [bX, go_sem]
 replace h : sat (eT F s_0 at_1) _ := h
 unfold eT at h
 obtain ⟨v_6, hv, h⟩ := aN h
 try simp only [hv, go_sem]
 obtain ⟨g0, h⟩ := aP h
 repeat (refine ⟨by omega, ?_⟩)
 refine fC h (fun hc h => ?_) fun hc h => ?_
 ·exact aK hF [.tmp 4] rfl rfl rfl (aE h) xAd
 ·refine eP hF (D := Int) (fun d => sat (sX F s_0 at_1 d) Θ) [0, 1] (fun d => [(5, .val qe d)]) (fun d => []) ?_ ?_
  ·simp only [go_sem]
   obtain ⟨g0, h⟩ := aP h
   repeat (refine ⟨by omega, ?_⟩)
   refine ⟨fun hc => ?_, fun hc => ?_⟩
   ·replace h := jH hc h
    obtain ⟨g0, h⟩ := aP h
    repeat (refine ⟨by omega, ?_⟩)
    obtain ⟨v_27, hv, h⟩ := aN h
    try simp only [hv, go_sem]
    refine fI h (fun hc h => ?_) fun hc h => ?_
    ·obtain ⟨g0, h⟩ := aP h
     obtain ⟨g1, h⟩ := aP h
     repeat (refine ⟨by omega, ?_⟩)
     exact aZ (((at_1 + v_6) + (1 : Int)) + v_27) h rfl xAb
    ·exact aZ (at_1 + v_6) h rfl xAb
   ·replace h := jI hc h
    exact aZ (at_1 + v_6) h rfl xAb
  ·rintro n_9 h
   simp only [go_sem]
   replace h : sat (sX F s_0 at_1 n_9) _ := h
   unfold sX at h
   obtain ⟨g0, h⟩ := aP h
   repeat (refine ⟨by omega, ?_⟩)
   refine ⟨fun hc => ?_, fun hc => ?_⟩
   ·replace h := jH hc h
    obtain ⟨g0, h⟩ := aP h
    repeat (refine ⟨by omega, ?_⟩)
    refine eP hF (D := Int) (fun d => sat (wO F s_0 at_1 n_9 d) Θ) [0, 1, 5] (fun d => [(7, .val qe d)]) (fun d => []) ?_ ?_
    ·simp only [go_sem]
     obtain ⟨g0, h⟩ := aP h
     obtain ⟨g1, h⟩ := aP h
     repeat (refine ⟨by omega, ?_⟩)
     refine ⟨fun hc => ?_, fun hc => ?_⟩
     ·replace h := jH hc h
      obtain ⟨g0, h⟩ := aP h
      repeat (refine ⟨by omega, ?_⟩)
      exact aZ ((n_9 + (1 : Int)) + (1 : Int)) h rfl xAb
     ·replace h := jI hc h
      exact aZ (n_9 + (1 : Int)) h rfl xAb
    ·rintro k_15 h
     simp only [go_sem]
     replace h : sat (wO F s_0 at_1 n_9 k_15) _ := h
     unfold wO at h
     obtain ⟨v_19, hv, h⟩ := aN h
     try simp only [hv, go_sem]
     obtain ⟨g0, h⟩ := aP h
     obtain ⟨g1, h⟩ := aP h
     obtain ⟨g2, h⟩ := aP h
     repeat (refine ⟨by omega, ?_⟩)
     obtain ⟨v_23, hv, h⟩ := aN h
     try simp only [hv, go_sem]
     refine ⟨fun hc => ?_, fun hc => ?_⟩
     ·replace h := jH hc h
      obtain ⟨g0, h⟩ := aP h
      repeat (refine ⟨by omega, ?_⟩)
      obtain ⟨g0, h⟩ := aP h
      repeat (refine ⟨by omega, ?_⟩)
      exact zaD
     ·replace h := jI hc h
      obtain ⟨g0, h⟩ := aP h
      repeat (refine ⟨by omega, ?_⟩)
      exact zaD
   ·replace h := jI hc h
    obtain ⟨g0, h⟩ := aP h
    repeat (refine ⟨by omega, ?_⟩)
    exact zaD
attribute [go_sem] aDQ
def pE (F : Md) (o0_1 : qi) : Option (wb ⊕ qp) :=
 ck ((eT F o0_1.1 o0_1.2.1).isSome = true) (if (((eT F o0_1.1 o0_1.2.1).getD (0 : Int)) = (0 : Int)) ∨ ((60 : Int) < ((eT F o0_1.1 o0_1.2.1).getD (0 : Int))) then some (.inr (o0_1.2.1, ())) else ck (I64 (o0_1.2.1 + ((eT F o0_1.1 o0_1.2.1).getD (0 : Int)))) (ck (I64 ((o0_1.2.1 + ((eT F o0_1.1 o0_1.2.1).getD (0 : Int))) - ((eT F o0_1.1 o0_1.2.1).getD (0 : Int)))) (ck (0 ≤ ((o0_1.2.1 + ((eT F o0_1.1 o0_1.2.1).getD (0 : Int))) - ((eT F o0_1.1 o0_1.2.1).getD (0 : Int))) ∧ ((o0_1.2.1 + ((eT F o0_1.1 o0_1.2.1).getD (0 : Int))) - ((eT F o0_1.1 o0_1.2.1).getD (0 : Int))) ≤ (o0_1.2.1 + ((eT F o0_1.1 o0_1.2.1).getD (0 : Int))) ∧ (o0_1.2.1 + ((eT F o0_1.1 o0_1.2.1).getD (0 : Int))) ≤ (o0_1.1.length : Int)) ((fU F (1 : Int) (List.drop ((o0_1.2.1 + ((eT F o0_1.1 o0_1.2.1).getD (0 : Int))) - ((eT F o0_1.1 o0_1.2.1).getD (0 : Int))).toNat (List.take (o0_1.2.1 + ((eT F o0_1.1 o0_1.2.1).getD (0 : Int))).toNat o0_1.1)) ([] : List Ex) (o0_1.1, (o0_1.2.1 + ((eT F o0_1.1 o0_1.2.1).getD (0 : Int))), o0_1.2.2.1, ())).bind (fun r_4 => some (.inl (r_4.1, r_4.2)))))))
def kX (F : Md) : fW where
 D := qi × (wb ⊕ qp)
 av := fun d => [.ptr 0 []]
 hp := fun d => [.box 3 (.val qy d.1)]
 m := 1
 pre := fun d => pE F d.1 = some d.2
 out := fun d => match d.2 with | .inl r => .ret (.val .expr r.1) [.box 3 (.val qy r.2)] | .inr p => .pan ⟨56, q9, p⟩ [.box 3 (.junk)]
abbrev tC (F : Md) : List (FuncId × aI) := [(163, (aDQ F))]
theorem aAz [Mx] (F : Md) : bJ Tryz.prog GL (tC F) := .cons (aSz F) xAa (.nil)
theorem zO [Mx] (F : Md) : GOK Tryz.prog GL 121 (kX F) := by
 refine eI (aT (aAz F)) Tryz.func121 rfl xAa (fun _ => Nat.le_of_ble_eq_true rfl) fun c0 w0 d hw1 hw2 h hn => ?_
 have hF : fT ⟨Tryz.prog, EM (tC F), GM (kX F) c0 d, w0, Tryz.f121.ntmps, []⟩ := ⟨aT (aAz F), mix⟩
 obtain ⟨(o0_1 : qi), r⟩ := d
 replace h : pE F o0_1 = some r := h
 have hw1 : AV.wfL [.ptr 0 []] := hw1
 simp only [AV.wfL, AV.wfV, Ty.wf, fF] at hw1
 show Tri _ _ _ [(0, .ptr 0 [])] [.box 3 (.val qy o0_1)]
 unfold pE at h
 refine aB (aR hF [0, 2] (yaA ?_))
 refine aA (aB (aF hF [0, 2, 3] (yaA ?_)))
 obtain ⟨g0, h⟩ := aQ h
 repeat (refine ⟨zAA, ?_⟩)
 refine aA (aB (aB (aF hF [0, 2, 3, 18] (yaA ?_))))
 refine aA (bG rfl (fun hc => ?_) (fun hc => ?_))
 ·try simp only [go_sem] at hc
  have h := eC zAB h
  refine aC hF (aG (l := []) (.nil)) [0, 2, 3] [] (yaB ?_)
  exact zaH
 ·try simp only [go_sem] at hc
  have h := eD zAB h
  refine cI (aA (aB (aR hF [0, 2, 3] (yaA ?_))))
  obtain ⟨g0, h⟩ := aQ h
  try simp only [I64, I32] at g0
  repeat (refine ⟨zAA, ?_⟩)
  obtain ⟨g0, h⟩ := aQ h
  obtain ⟨g1, h⟩ := aQ h
  try simp only [I64, I32] at g0
  obtain ⟨r_4, he1, h⟩ := bind_some h
  try dsimp only at h
  refine aA (aB (aFs hF (aG (l := [(83, ⟨fL F, [0], ((1 : Int), (List.drop ((o0_1.2.1 + ((eT F o0_1.1 o0_1.2.1).getD (0 : Int))) - ((eT F o0_1.1 o0_1.2.1).getD (0 : Int))).toNat (List.take (o0_1.2.1 + ((eT F o0_1.1 o0_1.2.1).getD (0 : Int))).toNat o0_1.1)), ([] : List Ex), (o0_1.1, (o0_1.2.1 + ((eT F o0_1.1 o0_1.2.1).getD (0 : Int))), o0_1.2.2.1, ()), r_4)⟩)]) (.cons (kK F) xAa (.nil))) 16 xAc [2] [] (yaB ?_)))
  simp only [aT6, go_sem]
  repeat (refine ⟨zAA, ?_⟩)
  exact zaS
attribute [go_sem] kX
def rS (F : Md) (o0_1 : qi) (r_5 : qi) : Option (qd × qi) :=
 ck (0 ≤ o0_1.2.1 ∧ o0_1.2.1 ≤ r_5.2.1 ∧ r_5.2.1 ≤ (r_5.1.length : Int)) (some ((List.drop (o0_1.2.1.toNat) (List.take (r_5.2.1.toNat) r_5.1)), r_5))
def zP (F : Md) (r_6 : qi) : Option (qi ⊕ qi) :=
 ck ((r_6.2.1 < (r_6.1.length : Int)) → (0 ≤ r_6.2.1 ∧ r_6.2.1 < (r_6.1.length : Int))) (ck ((r_6.2.1 < (r_6.1.length : Int)) → ((aV F (aU aFK) (r_6.1.getD (r_6.2.1.toNat) (0 : Nat))).isSome = true)) (if (r_6.2.1 < (r_6.1.length : Int)) ∧ ((0 : Int) ≤ ((aV F (aU aFK) (r_6.1.getD (r_6.2.1.toNat) (0 : Nat))).getD (0 : Int))) then ck (I64 (r_6.2.1 + (1 : Int))) (some (.inl (r_6.1, (r_6.2.1 + (1 : Int)), r_6.2.2.1, ()))) else some (.inr r_6)))
def qO (F : Md) (o0_1 : qi) : Option (qd × qi) :=
 (eG F (fun d : qi => zP F d) o0_1).bind (fun e => rS F o0_1 e)
def pZ (F : Md) : fW where
 D := qi × (qd × qi)
 av := fun d => [.ptr 0 []]
 hp := fun d => [.box 3 (.val qy d.1)]
 m := 1
 pre := fun d => qO F d.1 = some d.2
 out := fun d => (fun r : (qd × qi) => .ret (.val .str r.1) [.box 3 (.val qy r.2)]) d.2
abbrev vV (F : Md) : List (FuncId × aI) := [(82, (dO F))]
theorem aBW [Mx] (F : Md) : bJ Tryz.prog GL (vV F) := .cons (mM F) xAa (.nil)
theorem aHj [Mx] (F : Md) : GOK Tryz.prog GL 122 (pZ F) := by
 refine eI (aT (aBW F)) Tryz.func122 rfl xAa (fun _ => Nat.le_of_ble_eq_true rfl) fun c0 w0 d hw1 hw2 h hn => ?_
 have hF : fT ⟨Tryz.prog, EM (vV F), GM (pZ F) c0 d, w0, Tryz.f122.ntmps, []⟩ := ⟨aT (aBW F), mix⟩
 obtain ⟨(o0_1 : qi), r⟩ := d
 replace h : qO F o0_1 = some r := h
 have hw1 : AV.wfL [.ptr 0 []] := hw1
 simp only [AV.wfL, AV.wfV, Ty.wf, fF] at hw1
 show Tri _ _ _ [(0, .ptr 0 [])] [.box 3 (.val qy o0_1)]
 unfold qO at h
 refine aB (aF hF [0] (yaA ?_))
 refine aA (aB (aF hF [0, 3] (yaA ?_)))
 refine aA (qW (D := qi) (fun d => rS F o0_1 d = some r) [3] (fun d => [(0, .ptr 0 [])]) (fun d => [.inr (.box 3 (.val qy d))]) ?_ ?_)
 ·refine eB (pP (D := qi) [3] (fun d => [(0, .ptr 0 [])]) (fun d => [.inr (.box 3 (.val qy d))]) h ?_ ?_ ?_)
  ·first | rfl | (simp only [go_sem]; done)
  ·exact zAG
  rintro r_6 s2 h hs2
  simp only [go_sem]
  try dsimp only at h
  unfold zP at h
  refine aB (aB (aF hF [0, 3, 30] (yaA ?_)))
  obtain ⟨g0, h⟩ := aQ h
  obtain ⟨g1, h⟩ := aQ h
  repeat (refine ⟨zAE, ?_⟩)
  refine aA (bG rfl (fun hc => ?_) (fun hc => ?_))
  ·try simp only [go_sem] at hc
   have h := eC zAB h
   refine cI (aA (eB (aR hF [0, 3] (yaA ?_))))
   obtain ⟨g0, h⟩ := aQ h
   try simp only [I64, I32] at g0
   repeat (refine ⟨zAA, ?_⟩)
   obtain rfl := Option.some.inj h
   dsimp only [mY] at hs2
   refine bB (bY (aZ (r_6.1, (r_6.2.1 + (1 : Int)), r_6.2.2.1, ()) hs2 rfl ?_))
   ·exact zAG
  ·try simp only [go_sem] at hc
   have h := eD zAB h
   obtain rfl := Option.some.inj h
   dsimp only [mY] at hs2
   have h := yaF (hs2)
   refine sG (dY (dY (gL (bY (aZ (r_6) h rfl ?_)))))
   ·exact zAG
 ·rintro r_5 h
  try dsimp only at h
  simp only [go_sem]
  unfold rS at h
  refine aB (aF hF [2] (yaA ?_))
  obtain ⟨g0, h⟩ := aQ h
  repeat (refine ⟨zAA, ?_⟩)
  obtain rfl := Option.some.inj h
  refine aA (cD (dZ hF [.tmp 2] rfl rfl rfl rfl rfl rfl ?_))
  exact zaB
attribute [go_sem] pZ
end
end Nu
end Go.Proofs
namespace Go.Proofs
open Go.Vc
set_option maxRecDepth 20000
namespace Nu
noncomputable section
set_option maxHeartbeats 4000000
attribute [-go_sem] Ex.kind Ex.text Ex.l
def aIY : ByteArray := ⟨⟨97 :: 98 :: 99 :: 100 :: 101 :: 102 :: 103 :: 104 :: 105 :: 106 :: 107 :: 108 :: 109 :: 110 :: 111 :: 112 :: 113 :: 114 :: 115 :: 116 :: 117 :: 118 :: 119 :: 120 :: 121 :: 122 :: []⟩⟩
@[go_sem]theorem aPQ : (⟨⟨97 :: 98 :: 99 :: 100 :: 101 :: 102 :: 103 :: 104 :: 105 :: 106 :: 107 :: 108 :: 109 :: 110 :: 111 :: 112 :: 113 :: 114 :: 115 :: 116 :: 117 :: 118 :: 119 :: 120 :: 121 :: 122 :: []⟩⟩ : ByteArray) = aIY := rfl
def bN (g : qi → Option (wb ⊕ qp)) : fW where
 D := qi × (wb ⊕ qp)
 av := fun d => [.ptr 0 []]
 hp := fun d => [.box 3 (.val qy d.1)]
 m := 1
 pre := fun d => g d.1 = some d.2
 out := fun d => match d.2 with | .inl r => .ret (.val .expr r.1) [.box 3 (.val qy r.2)] | .inr p => .pan ⟨56, q9, p⟩ [.box 3 (.junk)]
attribute [go_sem] bN
def lL (F : Md) (g : qi → Option (wb ⊕ qp)) (signs_2 : qd) (kinds_3 : (List Int)) (r_16 : qi) (e_17 : Ex) : Option ((qi × Ex) ⊕ (wb ⊕ qp)) :=
 (kW F signs_2 r_16).bind (fun r_25 => if ¬ (r_25.1.2.1 = true) then some (.inr (.inl (e_17, r_25.2))) else ck ((aV F signs_2 r_25.1.1).isSome = true) (ck (0 ≤ ((aV F signs_2 r_25.1.1).getD (0 : Int)) ∧ ((aV F signs_2 r_25.1.1).getD (0 : Int)) < (2 : Int)) ((g r_25.2).bind (fun e => match e with | .inl r_26 => (fU F (kinds_3.getD ((aV F signs_2 r_25.1.1).getD (0 : Int)).toNat (0 : Int)) (aU ⟨#[]⟩) ([e_17, r_26.1] : List Ex) r_26.2).bind (fun r_27 => some (.inl (r_27.2, r_27.1))) | .inr p_28 => some (.inr (.inr p_28))))))
def fM (F : Md) (g : qi → Option (wb ⊕ qp)) (signs_2 : qd) (kinds_3 : (List Int)) (o0_4 : qi) : Option (wb ⊕ qp) :=
 (g o0_4).bind (fun e => match e with | .inl r_10 => (eG F (fun d : qi × Ex => lL F g signs_2 kinds_3 d.1 d.2) (r_10.2, r_10.1)).bind (fun e => match e with | (.inl e) => some (.inl e) | (.inr e) => some (.inr e)) | .inr p_11 => some (.inr p_11))
def dW (F : Md) (g : qi → Option (wb ⊕ qp)) : fW where
 D := qd × (List Int) × qi × (wb ⊕ qp)
 av := fun d => [.ptr 0 [], .fn 84 [0] [], .val .str d.1, .val wl d.2.1]
 hp := fun d => [.box 3 (.val qy d.2.2.1)]
 m := 1
 pre := fun d => fM F g d.1 d.2.1 d.2.2.1 = some d.2.2.2
 out := fun d => match d.2.2.2 with | .inl r => .ret (.val .expr r.1) [.box 3 (.val qy r.2)] | .inr p => .pan ⟨56, q9, p⟩ [.box 3 (.junk)]
abbrev iK (F : Md) (g : qi → Option (wb ⊕ qp)) : List (FuncId × aI) := [(82, (dO F))]
theorem mO [Mx] (F : Md) (g : qi → Option (wb ⊕ qp)) (hg : GOK Tryz.prog GL 84 (bN g)) : bJ Tryz.prog GL (iK F g) := .cons (mM F) xAa (.nil)
theorem lX [Mx] (F : Md) (g : qi → Option (wb ⊕ qp)) (hg : GOK Tryz.prog GL 84 (bN g)) : GOK Tryz.prog GL 40 (dW F g) := by
 refine eI (aT (mO F g hg)) Tryz.func40 rfl xAa (fun _ => Nat.le_of_ble_eq_true rfl) fun c0 w0 d hw1 hw2 h hn => ?_
 have hF : fT ⟨Tryz.prog, EM (iK F g), GM (dW F g) c0 d, w0, Tryz.f40.ntmps, []⟩ := ⟨aT (mO F g hg), mix⟩
 obtain ⟨(signs_2 : qd), (kinds_3 : (List Int)), (o0_4 : qi), r⟩ := d
 replace h : fM F g signs_2 kinds_3 o0_4 = some r := h
 have hw1 : AV.wfL [.ptr 0 [], .fn 84 [0] [], .val .str signs_2, .val wl kinds_3] := hw1
 simp only [AV.wfL, AV.wfV, Ty.wf, fF] at hw1
 show Tri _ _ _ [(0, .ptr 0 []), (1, .fn 84 [0] []), (2, .val .str signs_2), (3, .val wl kinds_3)] [.box 3 (.val qy o0_4)]
 unfold fM at h
 refine aB (aR hF [0, 1, 2, 7, 8] (yaA ?_))
 obtain ⟨e, he1, h⟩ := bind_some h
 rcases e with r_10 | p_11
 ·try dsimp only at h
  refine aA (aB (aC hF (aG (l := [(84, ⟨(bN g), [0], (o0_4, .inl r_10)⟩)]) (.cons hg xAa (.nil))) [0, 1, 2, 7, 8, 9] [] (yaB ?_)))
  refine aA (eB (pP (D := qi × Ex) [2] (fun d => [(0, .ptr 0 []), (1, .fn 84 [0] []), (7, .ptr 1 []), (8, .ptr 2 []), (9, .ptr 3 [])]) (fun d => [.inr (.box 3 (.val qy d.1)), .inr (.box 2 (.val wl kinds_3)), .inr (.box 3 (.val .expr (Ex.mk 0 [] []))), .inr (.box 3 (.val .expr d.2))]) h ?_ ?_ ?_))
  ·first | rfl | (simp only [go_sem]; done)
  ·exact zAG
  rintro ⟨r_16, e_17⟩ s2 h hs2
  simp only [go_sem]
  try dsimp only at h
  unfold lL at h
  obtain ⟨r_25, he2, h⟩ := bind_some h
  try dsimp only at h
  refine eB (aB (aC hF (aG (l := [(81, ⟨kB F, [0], (signs_2, r_16, r_25)⟩)]) (.cons (rR F) xAa (.nil))) [0, 1, 2, 7, 8, 9, 10, 11] [] (yaB ?_)))
  refine aA (aB (aB (aF hF [0, 1, 2, 7, 8, 9, 10, 22] (yaA ?_))))
  refine aA (bG rfl (fun hc => ?_) (fun hc => ?_))
  ·try simp only [go_sem] at hc
   exact zar
  ·try simp only [go_sem] at hc
   have h := eD zAB h
   refine cI (aA (aB (aF hF [0, 1, 2, 7, 8, 9, 12] (yaA ?_))))
   obtain ⟨g0, h⟩ := aQ h
   obtain ⟨g1, h⟩ := aQ h
   repeat (refine ⟨zAA, ?_⟩)
   obtain ⟨e, he3, h⟩ := bind_some h
   rcases e with r_26 | p_28
   ·try dsimp only at h
    obtain ⟨r_27, he4, h⟩ := bind_some h
    try dsimp only at h
    refine aA (pV hF (aG (l := [(84, ⟨(bN g), [0], (r_25.2, .inl r_26)⟩), (83, ⟨fL F, [0], ((kinds_3.getD ((aV F signs_2 r_25.1.1).getD (0 : Int)).toNat (0 : Int)), (aU ⟨#[]⟩), ([e_17, r_26.1] : List Ex), r_26.2, r_27)⟩)]) (.cons hg xAa (.cons (kK F) xAa (.nil)))) [] [0, 1, 2, 7, 8, 9] [4, 6, 7] [[0], [12], [9], [1], [32], [31, 33], [29, 30, 34], [9, 35]] [(0, 0), (0, 1), (1, 0), (1, 1), (2, 0), (2, 1), (2, 2), (3, 0), (4, 0), (5, 1), (6, 1), (7, 2)] [.ptr 0 [], .val qe (kinds_3.getD ((aV F signs_2 r_25.1.1).getD (0 : Int)).toNat (0 : Int)), .val .expr e_17, .fn 84 [0] [], .val .expr r_26.1, .full .expr ([e_17, r_26.1] : List Ex), .val .expr r_27.1, .junk] [[.box 3 (.val qy r_25.2), .box 2 (.val wl kinds_3), .box 3 (.val .expr (Ex.mk 0 [] [])), .box 3 (.val .expr e_17)], [.box 3 (.val qy r_26.2), .box 2 (.val wl kinds_3), .box 3 (.val .expr (Ex.mk 0 [] [])), .box 3 (.val .expr e_17)], [.box 3 (.val qy r_27.2), .box 2 (.val wl kinds_3), .box 3 (.val .expr (Ex.mk 0 [] [])), .box 3 (.val .expr e_17)], [.box 3 (.val qy r_27.2), .box 2 (.val wl kinds_3), .box 3 (.val .expr (Ex.mk 0 [] [])), .box 3 (.val .expr r_27.1)]] [[(0, .ptr 0 [])], [(12, .val qe (kinds_3.getD ((aV F signs_2 r_25.1.1).getD (0 : Int)).toNat (0 : Int)))], [(9, .ptr 3 [])], [(1, .fn 84 [0] [])], [(32, .fn 84 [0] [])], [(31, .val .expr e_17), (33, .val .expr r_26.1)], [(29, .ptr 0 []), (30, .val qe (kinds_3.getD ((aV F signs_2 r_25.1.1).getD (0 : Int)).toNat (0 : Int))), (34, .full .expr ([e_17, r_26.1] : List Ex))], [(9, .ptr 3 []), (35, .val .expr r_27.1)]] false xAc rfl rfl ?_ ?_)
    ·simp only [go_sem]
     exact zaJ
    intro _
    show At _ _ [(0, .ptr 0 []), (1, .fn 84 [0] []), (2, .val .str signs_2), (7, .ptr 1 []), (8, .ptr 2 []), (9, .ptr 3 [])] [.box 3 (.val qy r_27.2), .box 2 (.val wl kinds_3), .box 3 (.val .expr (Ex.mk 0 [] [])), .box 3 (.val .expr r_27.1)]
    obtain rfl := Option.some.inj h
    dsimp only [mY] at hs2
    refine bB (bY (aZ (r_27.2, r_27.1) hs2 rfl ?_))
    ·exact zAG
   ·try dsimp only at h
    refine aA (pV hF (aG (l := [(84, ⟨(bN g), [0], (r_25.2, .inr p_28)⟩)]) (.cons hg xAa (.nil))) [] [0, 1, 2, 7, 8, 9] [4] [[0], [12], [9], [1], [32], [31, 33], [29, 30, 34], [9, 35]] [(0, 0), (1, 0), (2, 0), (3, 0), (4, 0)] [.ptr 0 [], .val qe (kinds_3.getD ((aV F signs_2 r_25.1.1).getD (0 : Int)).toNat (0 : Int)), .val .expr e_17, .fn 84 [0] [], .junk, .junk, .junk, .junk] [[.box 3 (.val qy r_25.2), .box 2 (.val wl kinds_3), .box 3 (.val .expr (Ex.mk 0 [] [])), .box 3 (.val .expr e_17)]] [[(0, .ptr 0 [])], [(12, .val qe (kinds_3.getD ((aV F signs_2 r_25.1.1).getD (0 : Int)).toNat (0 : Int)))], [(9, .ptr 3 [])], [(1, .fn 84 [0] [])], [(32, .fn 84 [0] [])], [(31, .val .expr e_17), (33, .junk)], [(29, .ptr 0 []), (30, .val qe (kinds_3.getD ((aV F signs_2 r_25.1.1).getD (0 : Int)).toNat (0 : Int))), (34, .junk)], [(9, .ptr 3 []), (35, .junk)]] true xAc rfl rfl ?_ ?_)
    rotate_left
    exact fun h => absurd h xAc
    exact zag
 ·try dsimp only at h
  refine aA (aB (aC hF (aG (l := [(84, ⟨(bN g), [0], (o0_4, .inr p_11)⟩)]) (.cons hg xAa (.nil))) [0, 1, 2, 7, 8, 9] [] (yaB ?_)))
  exact zaH
attribute [go_sem] dW
def kY (F : Md) (g : qi → Option (wb ⊕ qp)) (o0_1 : qi) : Option (wb ⊕ qp) :=
 (fM F g (aU ⟨#[42, 47]⟩) ([8, 9] : List Int) o0_1).bind (fun e => match e with | .inl r_7 => some (.inl (r_7.1, r_7.2)) | .inr p_8 => some (.inr p_8))
def fX (F : Md) (g : qi → Option (wb ⊕ qp)) : fW where
 D := qi × (wb ⊕ qp)
 av := fun d => [.ptr 0 []]
 hp := fun d => [.box 3 (.val qy d.1)]
 m := 1
 pre := fun d => kY F g d.1 = some d.2
 out := fun d => match d.2 with | .inl r => .ret (.val .expr r.1) [.box 3 (.val qy r.2)] | .inr p => .pan ⟨56, q9, p⟩ [.box 3 (.junk)]
abbrev zQ (F : Md) (g : qi → Option (wb ⊕ qp)) : List (FuncId × aI) := []
theorem zR [Mx] (F : Md) (g : qi → Option (wb ⊕ qp)) (hg : GOK Tryz.prog GL 84 (bN g)) : bJ Tryz.prog GL (zQ F g) := .nil
theorem nB [Mx] (F : Md) (g : qi → Option (wb ⊕ qp)) (hg : GOK Tryz.prog GL 84 (bN g)) : GOK Tryz.prog GL 41 (fX F g) := by
 refine eI (aT (zR F g hg)) Tryz.func41 rfl xAa (fun _ => Nat.le_of_ble_eq_true rfl) fun c0 w0 d hw1 hw2 h hn => ?_
 have hF : fT ⟨Tryz.prog, EM (zQ F g), GM (fX F g) c0 d, w0, Tryz.f41.ntmps, []⟩ := ⟨aT (zR F g hg), mix⟩
 obtain ⟨(o0_1 : qi), r⟩ := d
 replace h : kY F g o0_1 = some r := h
 have hw1 : AV.wfL [.ptr 0 []] := hw1
 simp only [AV.wfL, AV.wfV, Ty.wf, fF] at hw1
 show Tri _ _ _ [(0, .ptr 0 [])] [.box 3 (.val qy o0_1)]
 unfold kY at h
 refine aB (aR hF [0, 2] (yaA ?_))
 obtain ⟨e, he1, h⟩ := bind_some h
 rcases e with r_7 | p_8
 ·try dsimp only at h
  refine aA (aB (aC hF (aG (l := [(40, ⟨(dW F g), [0], ((aU ⟨#[42, 47]⟩), ([8, 9] : List Int), o0_1, .inl r_7)⟩)]) (.cons (lX F g hg) xAa (.nil))) [2] [] (yaB ?_)))
  exact zaS
 ·try dsimp only at h
  refine aA (aB (aC hF (aG (l := [(40, ⟨(dW F g), [0], ((aU ⟨#[42, 47]⟩), ([8, 9] : List Int), o0_1, .inr p_8)⟩)]) (.cons (lX F g hg) xAa (.nil))) [2] [] (yaB ?_)))
  exact zaH
attribute [go_sem] fX
def kZ (F : Md) (g : qi → Option (wb ⊕ qp)) (signs_2 : qd) (kinds_3 : (List Int)) (r_16 : qi) (e_17 : Ex) : Option ((qi × Ex) ⊕ (wb ⊕ qp)) :=
 (kW F signs_2 r_16).bind (fun r_25 => if ¬ (r_25.1.2.1 = true) then some (.inr (.inl (e_17, r_25.2))) else ck ((aV F signs_2 r_25.1.1).isSome = true) (ck (0 ≤ ((aV F signs_2 r_25.1.1).getD (0 : Int)) ∧ ((aV F signs_2 r_25.1.1).getD (0 : Int)) < (2 : Int)) ((kY F g r_25.2).bind (fun e => match e with | .inl r_26 => (fU F (kinds_3.getD ((aV F signs_2 r_25.1.1).getD (0 : Int)).toNat (0 : Int)) (aU ⟨#[]⟩) ([e_17, r_26.1] : List Ex) r_26.2).bind (fun r_27 => some (.inl (r_27.2, r_27.1))) | .inr p_28 => some (.inr (.inr p_28))))))
def fD (F : Md) (g : qi → Option (wb ⊕ qp)) (signs_2 : qd) (kinds_3 : (List Int)) (o0_4 : qi) : Option (wb ⊕ qp) :=
 (kY F g o0_4).bind (fun e => match e with | .inl r_10 => (eG F (fun d : qi × Ex => kZ F g signs_2 kinds_3 d.1 d.2) (r_10.2, r_10.1)).bind (fun e => match e with | (.inl e) => some (.inl e) | (.inr e) => some (.inr e)) | .inr p_11 => some (.inr p_11))
def dS (F : Md) (g : qi → Option (wb ⊕ qp)) : fW where
 D := qd × (List Int) × qi × (wb ⊕ qp)
 av := fun d => [.ptr 0 [], .fn 41 [0] [], .val .str d.1, .val wl d.2.1]
 hp := fun d => [.box 3 (.val qy d.2.2.1)]
 m := 1
 pre := fun d => fD F g d.1 d.2.1 d.2.2.1 = some d.2.2.2
 out := fun d => match d.2.2.2 with | .inl r => .ret (.val .expr r.1) [.box 3 (.val qy r.2)] | .inr p => .pan ⟨56, q9, p⟩ [.box 3 (.junk)]
abbrev iA (F : Md) (g : qi → Option (wb ⊕ qp)) : List (FuncId × aI) := [(82, (dO F))]
theorem lY [Mx] (F : Md) (g : qi → Option (wb ⊕ qp)) (hg : GOK Tryz.prog GL 84 (bN g)) : bJ Tryz.prog GL (iA F g) := .cons (mM F) xAa (.nil)
theorem lQ [Mx] (F : Md) (g : qi → Option (wb ⊕ qp)) (hg : GOK Tryz.prog GL 84 (bN g)) : GOK Tryz.prog GL 40 (dS F g) := by
 refine eI (aT (lY F g hg)) Tryz.func40 rfl xAa (fun _ => Nat.le_of_ble_eq_true rfl) fun c0 w0 d hw1 hw2 h hn => ?_
 have hF : fT ⟨Tryz.prog, EM (iA F g), GM (dS F g) c0 d, w0, Tryz.f40.ntmps, []⟩ := ⟨aT (lY F g hg), mix⟩
 obtain ⟨(signs_2 : qd), (kinds_3 : (List Int)), (o0_4 : qi), r⟩ := d
 replace h : fD F g signs_2 kinds_3 o0_4 = some r := h
 have hw1 : AV.wfL [.ptr 0 [], .fn 41 [0] [], .val .str signs_2, .val wl kinds_3] := hw1
 simp only [AV.wfL, AV.wfV, Ty.wf, fF] at hw1
 show Tri _ _ _ [(0, .ptr 0 []), (1, .fn 41 [0] []), (2, .val .str signs_2), (3, .val wl kinds_3)] [.box 3 (.val qy o0_4)]
 unfold fD at h
 refine aB (aR hF [0, 1, 2, 7, 8] (yaA ?_))
 obtain ⟨e, he1, h⟩ := bind_some h
 rcases e with r_10 | p_11
 ·try dsimp only at h
  refine aA (aB (aC hF (aG (l := [(41, ⟨(fX F g), [0], (o0_4, .inl r_10)⟩)]) (.cons (nB F g hg) xAa (.nil))) [0, 1, 2, 7, 8, 9] [] (yaB ?_)))
  refine aA (eB (pP (D := qi × Ex) [2] (fun d => [(0, .ptr 0 []), (1, .fn 41 [0] []), (7, .ptr 1 []), (8, .ptr 2 []), (9, .ptr 3 [])]) (fun d => [.inr (.box 3 (.val qy d.1)), .inr (.box 2 (.val wl kinds_3)), .inr (.box 3 (.val .expr (Ex.mk 0 [] []))), .inr (.box 3 (.val .expr d.2))]) h ?_ ?_ ?_))
  ·first | rfl | (simp only [go_sem]; done)
  ·exact zAG
  rintro ⟨r_16, e_17⟩ s2 h hs2
  simp only [go_sem]
  try dsimp only at h
  unfold kZ at h
  obtain ⟨r_25, he2, h⟩ := bind_some h
  try dsimp only at h
  refine eB (aB (aC hF (aG (l := [(81, ⟨kB F, [0], (signs_2, r_16, r_25)⟩)]) (.cons (rR F) xAa (.nil))) [0, 1, 2, 7, 8, 9, 10, 11] [] (yaB ?_)))
  refine aA (aB (aB (aF hF [0, 1, 2, 7, 8, 9, 10, 22] (yaA ?_))))
  refine aA (bG rfl (fun hc => ?_) (fun hc => ?_))
  ·try simp only [go_sem] at hc
   exact zar
  ·try simp only [go_sem] at hc
   have h := eD zAB h
   refine cI (aA (aB (aF hF [0, 1, 2, 7, 8, 9, 12] (yaA ?_))))
   obtain ⟨g0, h⟩ := aQ h
   obtain ⟨g1, h⟩ := aQ h
   repeat (refine ⟨zAA, ?_⟩)
   obtain ⟨e, he3, h⟩ := bind_some h
   rcases e with r_26 | p_28
   ·try dsimp only at h
    obtain ⟨r_27, he4, h⟩ := bind_some h
    try dsimp only at h
    refine aA (pV hF (aG (l := [(41, ⟨(fX F g), [0], (r_25.2, .inl r_26)⟩), (83, ⟨fL F, [0], ((kinds_3.getD ((aV F signs_2 r_25.1.1).getD (0 : Int)).toNat (0 : Int)), (aU ⟨#[]⟩), ([e_17, r_26.1] : List Ex), r_26.2, r_27)⟩)]) (.cons (nB F g hg) xAa (.cons (kK F) xAa (.nil)))) [] [0, 1, 2, 7, 8, 9] [4, 6, 7] [[0], [12], [9], [1], [32], [31, 33], [29, 30, 34], [9, 35]] [(0, 0), (0, 1), (1, 0), (1, 1), (2, 0), (2, 1), (2, 2), (3, 0), (4, 0), (5, 1), (6, 1), (7, 2)] [.ptr 0 [], .val qe (kinds_3.getD ((aV F signs_2 r_25.1.1).getD (0 : Int)).toNat (0 : Int)), .val .expr e_17, .fn 41 [0] [], .val .expr r_26.1, .full .expr ([e_17, r_26.1] : List Ex), .val .expr r_27.1, .junk] [[.box 3 (.val qy r_25.2), .box 2 (.val wl kinds_3), .box 3 (.val .expr (Ex.mk 0 [] [])), .box 3 (.val .expr e_17)], [.box 3 (.val qy r_26.2), .box 2 (.val wl kinds_3), .box 3 (.val .expr (Ex.mk 0 [] [])), .box 3 (.val .expr e_17)], [.box 3 (.val qy r_27.2), .box 2 (.val wl kinds_3), .box 3 (.val .expr (Ex.mk 0 [] [])), .box 3 (.val .expr e_17)], [.box 3 (.val qy r_27.2), .box 2 (.val wl kinds_3), .box 3 (.val .expr (Ex.mk 0 [] [])), .box 3 (.val .expr r_27.1)]] [[(0, .ptr 0 [])], [(12, .val qe (kinds_3.getD ((aV F signs_2 r_25.1.1).getD (0 : Int)).toNat (0 : Int)))], [(9, .ptr 3 [])], [(1, .fn 41 [0] [])], [(32, .fn 41 [0] [])], [(31, .val .expr e_17), (33, .val .expr r_26.1)], [(29, .ptr 0 []), (30, .val qe (kinds_3.getD ((aV F signs_2 r_25.1.1).getD (0 : Int)).toNat (0 : Int))), (34, .full .expr ([e_17, r_26.1] : List Ex))], [(9, .ptr 3 []), (35, .val .expr r_27.1)]] false xAc rfl rfl ?_ ?_)
    ·simp only [go_sem]
     exact zaJ
    intro _
    show At _ _ [(0, .ptr 0 []), (1, .fn 41 [0] []), (2, .val .str signs_2), (7, .ptr 1 []), (8, .ptr 2 []), (9, .ptr 3 [])] [.box 3 (.val qy r_27.2), .box 2 (.val wl kinds_3), .box 3 (.val .expr (Ex.mk 0 [] [])), .box 3 (.val .expr r_27.1)]
    obtain rfl := Option.some.inj h
    dsimp only [mY] at hs2
    refine bB (bY (aZ (r_27.2, r_27.1) hs2 rfl ?_))
    ·exact zAG
   ·try dsimp only at h
    refine aA (pV hF (aG (l := [(41, ⟨(fX F g), [0], (r_25.2, .inr p_28)⟩)]) (.cons (nB F g hg) xAa (.nil))) [] [0, 1, 2, 7, 8, 9] [4] [[0], [12], [9], [1], [32], [31, 33], [29, 30, 34], [9, 35]] [(0, 0), (1, 0), (2, 0), (3, 0), (4, 0)] [.ptr 0 [], .val qe (kinds_3.getD ((aV F signs_2 r_25.1.1).getD (0 : Int)).toNat (0 : Int)), .val .expr e_17, .fn 41 [0] [], .junk, .junk, .junk, .junk] [[.box 3 (.val qy r_25.2), .box 2 (.val wl kinds_3), .box 3 (.val .expr (Ex.mk 0 [] [])), .box 3 (.val .expr e_17)]] [[(0, .ptr 0 [])], [(12, .val qe (kinds_3.getD ((aV F signs_2 r_25.1.1).getD (0 : Int)).toNat (0 : Int)))], [(9, .ptr 3 [])], [(1, .fn 41 [0] [])], [(32, .fn 41 [0] [])], [(31, .val .expr e_17), (33, .junk)], [(29, .ptr 0 []), (30, .val qe (kinds_3.getD ((aV F signs_2 r_25.1.1).getD (0 : Int)).toNat (0 : Int))), (34, .junk)], [(9, .ptr 3 []), (35, .junk)]] true xAc rfl rfl ?_ ?_)
    rotate_left
    exact fun h => absurd h xAc
    exact zag
 ·try dsimp only at h
  refine aA (aB (aC hF (aG (l := [(41, ⟨(fX F g), [0], (o0_4, .inr p_11)⟩)]) (.cons (nB F g hg) xAa (.nil))) [0, 1, 2, 7, 8, 9] [] (yaB ?_)))
  exact zaH
attribute [go_sem] dS
def oW (F : Md) (g : qi → Option (wb ⊕ qp)) (o0_1 : qi) : Option (wb ⊕ qp) :=
 (fD F g (aU ⟨#[43, 45]⟩) ([6, 7] : List Int) o0_1).bind (fun e => match e with | .inl r_7 => some (.inl (r_7.1, r_7.2)) | .inr p_8 => some (.inr p_8))
def jE (F : Md) (g : qi → Option (wb ⊕ qp)) : fW where
 D := qi × (wb ⊕ qp)
 av := fun d => [.ptr 0 []]
 hp := fun d => [.box 3 (.val qy d.1)]
 m := 1
 pre := fun d => oW F g d.1 = some d.2
 out := fun d => match d.2 with | .inl r => .ret (.val .expr r.1) [.box 3 (.val qy r.2)] | .inr p => .pan ⟨56, q9, p⟩ [.box 3 (.junk)]
abbrev aDd (F : Md) (g : qi → Option (wb ⊕ qp)) : List (FuncId × aI) := []
theorem aDe [Mx] (F : Md) (g : qi → Option (wb ⊕ qp)) (hg : GOK Tryz.prog GL 84 (bN g)) : bJ Tryz.prog GL (aDd F g) := .nil
theorem qP [Mx] (F : Md) (g : qi → Option (wb ⊕ qp)) (hg : GOK Tryz.prog GL 84 (bN g)) : GOK Tryz.prog GL 19 (jE F g) := by
 refine eI (aT (aDe F g hg)) Tryz.func19 rfl xAa (fun _ => Nat.le_of_ble_eq_true rfl) fun c0 w0 d hw1 hw2 h hn => ?_
 have hF : fT ⟨Tryz.prog, EM (aDd F g), GM (jE F g) c0 d, w0, Tryz.f19.ntmps, []⟩ := ⟨aT (aDe F g hg), mix⟩
 obtain ⟨(o0_1 : qi), r⟩ := d
 replace h : oW F g o0_1 = some r := h
 have hw1 : AV.wfL [.ptr 0 []] := hw1
 simp only [AV.wfL, AV.wfV, Ty.wf, fF] at hw1
 show Tri _ _ _ [(0, .ptr 0 [])] [.box 3 (.val qy o0_1)]
 unfold oW at h
 refine aB (aR hF [0, 2] (yaA ?_))
 obtain ⟨e, he1, h⟩ := bind_some h
 rcases e with r_7 | p_8
 ·try dsimp only at h
  refine aA (aB (aC hF (aG (l := [(40, ⟨(dS F g), [0], ((aU ⟨#[43, 45]⟩), ([6, 7] : List Int), o0_1, .inl r_7)⟩)]) (.cons (lQ F g hg) xAa (.nil))) [2] [] (yaB ?_)))
  exact zaS
 ·try dsimp only at h
  refine aA (aB (aC hF (aG (l := [(40, ⟨(dS F g), [0], ((aU ⟨#[43, 45]⟩), ([6, 7] : List Int), o0_1, .inr p_8)⟩)]) (.cons (lQ F g hg) xAa (.nil))) [2] [] (yaB ?_)))
  exact zaH
attribute [go_sem] jE
def lR (F : Md) (g : qi → Option (wb ⊕ qp)) (o0_1 : qi) : Option (wb ⊕ qp) :=
 (nL F (aU ⟨#[40]⟩) o0_1).bind (fun e => match e with | .inl r_7 => (oW F g r_7).bind (fun e => match e with | .inl r_13 => (nL F (aU ⟨#[41]⟩) r_13.2).bind (fun e => match e with | .inl r_19 => some (.inl (r_13.1, r_19)) | .inr p_20 => some (.inr p_20)) | .inr p_14 => some (.inr p_14)) | .inr p_8 => some (.inr p_8))
def gH (F : Md) (g : qi → Option (wb ⊕ qp)) : fW where
 D := qi × (wb ⊕ qp)
 av := fun d => [.ptr 0 []]
 hp := fun d => [.box 3 (.val qy d.1)]
 m := 1
 pre := fun d => lR F g d.1 = some d.2
 out := fun d => match d.2 with | .inl r => .ret (.val .expr r.1) [.box 3 (.val qy r.2)] | .inr p => .pan ⟨56, q9, p⟩ [.box 3 (.junk)]
abbrev aAA (F : Md) (g : qi → Option (wb ⊕ qp)) : List (FuncId × aI) := []
theorem aAB [Mx] (F : Md) (g : qi → Option (wb ⊕ qp)) (hg : GOK Tryz.prog GL 84 (bN g)) : bJ Tryz.prog GL (aAA F g) := .nil
theorem nX [Mx] (F : Md) (g : qi → Option (wb ⊕ qp)) (hg : GOK Tryz.prog GL 84 (bN g)) : GOK Tryz.prog GL 120 (gH F g) := by
 refine eI (aT (aAB F g hg)) Tryz.func120 rfl xAa (fun _ => Nat.le_of_ble_eq_true rfl) fun c0 w0 d hw1 hw2 h hn => ?_
 have hF : fT ⟨Tryz.prog, EM (aAA F g), GM (gH F g) c0 d, w0, Tryz.f120.ntmps, []⟩ := ⟨aT (aAB F g hg), mix⟩
 obtain ⟨(o0_1 : qi), r⟩ := d
 replace h : lR F g o0_1 = some r := h
 have hw1 : AV.wfL [.ptr 0 []] := hw1
 simp only [AV.wfL, AV.wfV, Ty.wf, fF] at hw1
 show Tri _ _ _ [(0, .ptr 0 [])] [.box 3 (.val qy o0_1)]
 unfold lR at h
 refine aB (aR hF [0, 2] (yaA ?_))
 obtain ⟨e, he1, h⟩ := bind_some h
 rcases e with r_7 | p_8
 ·try dsimp only at h
  refine aA (aB (aC hF (aG (l := [(162, ⟨iJ F, [0], ((aU ⟨#[40]⟩), o0_1, .inl r_7)⟩)]) (.cons (pY F) xAa (.nil))) [0, 2] [] (yaB ?_)))
  obtain ⟨e, he2, h⟩ := bind_some h
  rcases e with r_13 | p_14
  ·try dsimp only at h
   refine aA (aB (aC hF (aG (l := [(19, ⟨(jE F g), [0], (r_7, .inl r_13)⟩)]) (.cons (qP F g hg) xAa (.nil))) [0, 2, 3] [] (yaB ?_)))
   obtain ⟨e, he3, h⟩ := bind_some h
   rcases e with r_19 | p_20
   ·try dsimp only at h
    refine aA (aB (aC hF (aG (l := [(162, ⟨iJ F, [0], ((aU ⟨#[41]⟩), r_13.2, .inl r_19)⟩)]) (.cons (pY F) xAa (.nil))) [2, 3] [] (yaB ?_)))
    refine aA (aB (aR hF [2] (yaA ?_)))
    exact zaS
   ·try dsimp only at h
    refine aA (aB (aC hF (aG (l := [(162, ⟨iJ F, [0], ((aU ⟨#[41]⟩), r_13.2, .inr p_20)⟩)]) (.cons (pY F) xAa (.nil))) [2, 3] [] (yaB ?_)))
    exact zaH
  ·try dsimp only at h
   refine aA (aB (aC hF (aG (l := [(19, ⟨(jE F g), [0], (r_7, .inr p_14)⟩)]) (.cons (qP F g hg) xAa (.nil))) [0, 2, 3] [] (yaB ?_)))
   exact zaH
 ·try dsimp only at h
  refine aA (aB (aC hF (aG (l := [(162, ⟨iJ F, [0], ((aU ⟨#[40]⟩), o0_1, .inr p_8)⟩)]) (.cons (pY F) xAa (.nil))) [0, 2] [] (yaB ?_)))
  exact zaH
attribute [go_sem] gH
def nC (F : Md) (g : qi → Option (wb ⊕ qp)) (o0_1 : qi) : Option (wb ⊕ qp) :=
 (kW F (aU ⟨#[45]⟩) o0_1).bind (fun r_8 => if r_8.1.2.1 = true then (g r_8.2).bind (fun e => match e with | .inl r_15 => (fU F (10 : Int) (aU ⟨#[]⟩) ([r_15.1] : List Ex) r_15.2).bind (fun r_16 => some (.inl (r_16.1, r_16.2))) | .inr p_17 => some (.inr p_17)) else if r_8.2.2.1 = (r_8.2.1.length : Int) then some (.inr (r_8.2.2.1, ())) else ck (0 ≤ r_8.2.2.1 ∧ r_8.2.2.1 < (r_8.2.1.length : Int)) (if (r_8.2.1.getD (r_8.2.2.1.toNat) (0 : Nat)) = (40 : Nat) then (lR F g r_8.2).bind (fun e => match e with | .inl r_26 => some (.inl (r_26.1, r_26.2)) | .inr p_27 => some (.inr p_27)) else ck (0 ≤ r_8.2.2.1 ∧ r_8.2.2.1 < (r_8.2.1.length : Int)) (ck ((aV F (aU aIY) (r_8.2.1.getD (r_8.2.2.1.toNat) (0 : Nat))).isSome = true) (if ((aV F (aU aIY) (r_8.2.1.getD (r_8.2.2.1.toNat) (0 : Nat))).getD (0 : Int)) < (0 : Int) then (pE F r_8.2).bind (fun e => match e with | .inl r_32 => some (.inl (r_32.1, r_32.2)) | .inr p_33 => some (.inr p_33)) else (qO F r_8.2).bind (fun r_35 => if (aB7 .str (aB8 .str (aB8 .str (aB8 .str ([] : List wz) (aU ⟨#[115, 113, 114]⟩) (11 : Int)) (aU ⟨#[115, 113, 114, 116]⟩) (12 : Int)) (aU ⟨#[101, 120, 112]⟩) (13 : Int)) r_35.1).isSome = true then (lR F g r_35.2).bind (fun e => match e with | .inl r_45 => (fU F ((aB7 .str (aB8 .str (aB8 .str (aB8 .str ([] : List wz) (aU ⟨#[115, 113, 114]⟩) (11 : Int)) (aU ⟨#[115, 113, 114, 116]⟩) (12 : Int)) (aU ⟨#[101, 120, 112]⟩) (13 : Int)) r_35.1).getD (0 : Int)) (aU ⟨#[]⟩) ([r_45.1] : List Ex) r_45.2).bind (fun r_46 => some (.inl (r_46.1, r_46.2))) | .inr p_47 => some (.inr p_47)) else (fU F (2 : Int) r_35.1 ([] : List Ex) r_35.2).bind (fun r_49 => some (.inl (r_49.1, r_49.2))))))))
def yN (F : Md) (g : qi → Option (wb ⊕ qp)) : fW where
 D := qi × (wb ⊕ qp)
 av := fun d => [.ptr 0 []]
 hp := fun d => [.box 3 (.val qy d.1)]
 m := 1
 pre := fun d => nC F g d.1 = some d.2
 out := fun d => match d.2 with | .inl r => .ret (.val .expr r.1) [.box 3 (.val qy r.2)] | .inr p => .pan ⟨56, q9, p⟩ [.box 3 (.junk)]
abbrev tD (F : Md) (g : qi → Option (wb ⊕ qp)) : List (FuncId × aI) := [(82, (dO F))]
theorem aAC [Mx] (F : Md) (g : qi → Option (wb ⊕ qp)) (hg : GOK Tryz.prog GL 84 (bN g)) : bJ Tryz.prog GL (tD F g) := .cons (mM F) xAa (.nil)
theorem aEO [Mx] (F : Md) (g : qi → Option (wb ⊕ qp)) (hg : GOK Tryz.prog GL 84 (bN g)) : GOK Tryz.prog GL 84 (yN F g) := by
 refine eI (aT (aAC F g hg)) Tryz.func84 rfl xAa (fun _ => Nat.le_of_ble_eq_true rfl) fun c0 w0 d hw1 hw2 h hn => ?_
 have hF : fT ⟨Tryz.prog, EM (tD F g), GM (yN F g) c0 d, w0, Tryz.f84.ntmps, []⟩ := ⟨aT (aAC F g hg), mix⟩
 obtain ⟨(o0_1 : qi), r⟩ := d
 replace h : nC F g o0_1 = some r := h
 have hw1 : AV.wfL [.ptr 0 []] := hw1
 simp only [AV.wfL, AV.wfV, Ty.wf, fF] at hw1
 show Tri _ _ _ [(0, .ptr 0 [])] [.box 3 (.val qy o0_1)]
 unfold nC at h
 refine aB (aR hF [0, 2] (yaA ?_))
 obtain ⟨r_8, he1, h⟩ := bind_some h
 try dsimp only at h
 refine aA (aB (aB (aC hF (aG (l := [(81, ⟨kB F, [0], ((aU ⟨#[45]⟩), o0_1, r_8)⟩)]) (.cons (rR F) xAa (.nil))) [0, 2, 4] [] (yaB ?_))))
 refine aA (aB (aF hF [0, 2, 13] (yaA ?_)))
 refine aA (bG rfl (fun hc => ?_) (fun hc => ?_))
 ·try simp only [go_sem] at hc
  have h := eC zAB h
  obtain ⟨e, he2, h⟩ := bind_some h
  rcases e with r_15 | p_17
  ·try dsimp only at h
   obtain ⟨r_16, he3, h⟩ := bind_some h
   try dsimp only at h
   refine aB (aC hF (aG (l := [(84, ⟨(bN g), [0], (r_8.2, .inl r_15)⟩), (83, ⟨fL F, [0], ((10 : Int), (aU ⟨#[]⟩), ([r_15.1] : List Ex), r_15.2, r_16)⟩)]) (.cons hg xAa (.cons (kK F) xAa (.nil)))) [2] [] (yaB ?_))
   obtain rfl := Option.some.inj h
   refine aA (cD (cS (jP hF [.cell 2 27] [0] rfl rfl rfl rfl rfl rfl rfl rfl rfl ?_)))
   exact zaB
  ·try dsimp only at h
   refine aB (aC hF (aG (l := [(84, ⟨(bN g), [0], (r_8.2, .inr p_17)⟩)]) (.cons hg xAa (.nil))) [2] [] (yaB ?_))
   obtain rfl := Option.some.inj h
   refine aO (aO (bO [0] rfl rfl (yaC ?_)))
   exact zaa
 ·try simp only [go_sem] at hc
  have h := eD zAB h
  refine cI (aA (aB (eB (aB (aF hF [0, 2, 19] (yaA ?_))))))
  refine aA (bG rfl (fun hc => ?_) (fun hc => ?_))
  ·try simp only [go_sem] at hc
   have h := eC zAB h
   refine aC hF (aG (l := []) (.nil)) [0, 2] [] (yaB ?_)
   obtain rfl := Option.some.inj h
   refine bW (aO (bO [0] rfl rfl (yaC ?_)))
   exact zaa
  ·try simp only [go_sem] at hc
   have h := eD zAB h
   refine aB (aF hF [0, 2, 36] (yaA ?_))
   obtain ⟨g0, h⟩ := aQ h
   repeat (refine ⟨zAA, ?_⟩)
   refine aA (bG rfl (fun hc => ?_) (fun hc => ?_))
   ·try simp only [go_sem] at hc
    have h := eC zAB h
    obtain ⟨e, he4, h⟩ := bind_some h
    rcases e with r_26 | p_27
    ·try dsimp only at h
     refine aB (aC hF (aG (l := [(120, ⟨(gH F g), [0], (r_8.2, .inl r_26)⟩)]) (.cons (nX F g hg) xAa (.nil))) [2] [] (yaB ?_))
     obtain rfl := Option.some.inj h
     refine aA (cD (gE (cS (jP hF [.cell 2 27] [0] rfl rfl rfl rfl rfl rfl rfl rfl rfl ?_))))
     exact zaB
    ·try dsimp only at h
     refine aB (aC hF (aG (l := [(120, ⟨(gH F g), [0], (r_8.2, .inr p_27)⟩)]) (.cons (nX F g hg) xAa (.nil))) [2] [] (yaB ?_))
     obtain rfl := Option.some.inj h
     refine aO (bW (aO (bO [0] rfl rfl (yaC ?_))))
     exact zaa
   ·try simp only [go_sem] at hc
    have h := eD zAB h
    refine aB (aF hF [0, 2, 49] (yaA ?_))
    obtain ⟨g0, h⟩ := aQ h
    obtain ⟨g1, h⟩ := aQ h
    repeat (refine ⟨zAA, ?_⟩)
    refine aA (bG rfl (fun hc => ?_) (fun hc => ?_))
    ·try simp only [go_sem] at hc
     have h := eC zAB h
     obtain ⟨e, he5, h⟩ := bind_some h
     rcases e with r_32 | p_33
     ·try dsimp only at h
      refine aB (aC hF (aG (l := [(121, ⟨kX F, [0], (r_8.2, .inl r_32)⟩)]) (.cons (zO F) xAa (.nil))) [2] [] (yaB ?_))
      obtain rfl := Option.some.inj h
      refine aA (cD (gE (cS (jP hF [.cell 2 27] [0] rfl rfl rfl rfl rfl rfl rfl rfl rfl ?_))))
      exact zaB
     ·try dsimp only at h
      refine aB (aC hF (aG (l := [(121, ⟨kX F, [0], (r_8.2, .inr p_33)⟩)]) (.cons (zO F) xAa (.nil))) [2] [] (yaB ?_))
      obtain rfl := Option.some.inj h
      refine aO (bW (aO (bO [0] rfl rfl (yaC ?_))))
      exact zaa
    ·try simp only [go_sem] at hc
     have h := eD zAB h
     obtain ⟨r_35, he6, h⟩ := bind_some h
     try dsimp only at h
     refine cI (bB (aA (aB (aC hF (aG (l := [(122, ⟨pZ F, [0], (r_8.2, r_35)⟩)]) (.cons (aHj F) xAa (.nil))) [0, 2, 5] [] (yaB ?_)))))
     refine aA (aB (aB (aR hF [0, 2, 5, 6, 7] (yaA ?_))))
     refine aA (aB (aF hF [0, 2, 5, 6, 72] (yaA ?_)))
     refine aA (bG rfl (fun hc => ?_) (fun hc => ?_))
     ·try simp only [go_sem] at hc
      have h := eC zAB h
      obtain ⟨e, he7, h⟩ := bind_some h
      rcases e with r_45 | p_47
      ·try dsimp only at h
       obtain ⟨r_46, he8, h⟩ := bind_some h
       try dsimp only at h
       refine aB (aC hF (aG (l := [(120, ⟨(gH F g), [0], (r_35.2, .inl r_45)⟩), (83, ⟨fL F, [0], (((aB7 .str (aB8 .str (aB8 .str (aB8 .str ([] : List wz) (aU ⟨#[115, 113, 114]⟩) (11 : Int)) (aU ⟨#[115, 113, 114, 116]⟩) (12 : Int)) (aU ⟨#[101, 120, 112]⟩) (13 : Int)) r_35.1).getD (0 : Int)), (aU ⟨#[]⟩), ([r_45.1] : List Ex), r_45.2, r_46)⟩)]) (.cons (nX F g hg) xAa (.cons (kK F) xAa (.nil)))) [2] [] (yaB ?_))
       obtain rfl := Option.some.inj h
       refine aA (cD (cS (jP hF [.cell 2 27] [0] rfl rfl rfl rfl rfl rfl rfl rfl rfl ?_)))
       exact zaB
      ·try dsimp only at h
       refine aB (aC hF (aG (l := [(120, ⟨(gH F g), [0], (r_35.2, .inr p_47)⟩)]) (.cons (nX F g hg) xAa (.nil))) [2] [] (yaB ?_))
       obtain rfl := Option.some.inj h
       refine aO (aO (bO [0] rfl rfl (yaC ?_)))
       exact zaa
     ·try simp only [go_sem] at hc
      have h := eD zAB h
      obtain ⟨r_49, he9, h⟩ := bind_some h
      try dsimp only at h
      refine cI (aA (aB (aC hF (aG (l := [(83, ⟨fL F, [0], ((2 : Int), r_35.1, ([] : List Ex), r_35.2, r_49)⟩)]) (.cons (kK F) xAa (.nil))) [2] [] (yaB ?_))))
      exact zaS
def lS (F : Md) : Nat → qi → Option (wb ⊕ qp)
 | 0 => fun _ => none
 | n + 1 => nC F (lS F n)
def zS (F : Md) (n : Nat) : fW where
 D := qi × (wb ⊕ qp)
 av := fun d => [.ptr 0 []]
 hp := fun d => [.box 3 (.val qy d.1)]
 m := 1
 pre := fun d => lS F n d.1 = some d.2
 out := fun d => match d.2 with | .inl r => .ret (.val .expr r.1) [.box 3 (.val qy r.2)] | .inr p => .pan ⟨56, q9, p⟩ [.box 3 (.junk)]
theorem rU [Mx] (F : Md) : ∀ n, GOK Tryz.prog GL 84 (zS F n)
 | 0 => fun _ _ _ _ hp _ => absurd (show none = some _ from hp) (by simp)
 | n + 1 => aEO F _ (rU F n)
attribute [go_sem] zS
end
end Nu
end Go.Proofs
namespace Go.Proofs
open Go.Vc
set_option maxRecDepth 20000
namespace Nu
noncomputable section
set_option maxHeartbeats 4000000
attribute [-go_sem] Ex.kind Ex.text Ex.l
def uC : fW where
 D := Ex × Int × Int × Unit
 av := fun _ => [.ptr 0 [], .ptr 1 [], .ptr 2 []]
 hp := fun d => [.box 3 (.val .expr d.1), .box 1 (.val qe d.2.1), .box 1 (.val qe d.2.2.1)]
 m := 3
 pre := fun _ => True
 out := fun d => .ret (.tup []) [.box 3 (.val .expr d.1), .box 1 (.val qe d.2.1), .box 1 (.val qe d.2.2.1)]
def iL (x : qp) : fW where
 D := Unit
 av := fun _ => [.ptr 0 [], .ptr 1 [], .ptr 2 []]
 hp := fun _ => [.box 3 .junk, .box 1 .junk, .box 1 .junk]
 m := 3
 pre := fun _ => True
 out := fun _ => .ret (.tup []) [.box 3 (.val .expr (Ex.mk 0 [] [])), .box 1 (.val qe (x).1), .box 1 (.val qe (6 : Int))]
theorem aNn [Mx] : DOK Tryz.prog GL 18 none uC := by
 refine aLb (aT aAw) Tryz.func18 rfl xAa (fun _ => Nat.le_of_ble_eq_true rfl) rfl fun c w d hw1 hw2 hp hn => ?_
 have hF : fT ⟨Tryz.prog, EM [], GM uC c d, w, Tryz.f18.ntmps, []⟩ := ⟨aT aAw, mix⟩
 obtain ⟨d0, d1, d2, du⟩ := d
 show rM _ _ _ [(6, .val .nili ()), (0, .ptr 0 []), (1, .ptr 1 []), (2, .ptr 2 [])] [.box 3 (.val .expr d0), .box 1 (.val qe d1), .box 1 (.val qe d2)] _
 exact zaz
theorem aBG [Mx] (x : qp) : DOK Tryz.prog GL 18 (some ⟨56, q9, x⟩) (iL x) := by
 refine aLb (aT aAw) Tryz.func18 rfl xAa (fun _ => Nat.le_of_ble_eq_true rfl) rfl fun c w d hw1 hw2 hp hn => ?_
 have hF : fT ⟨Tryz.prog, EM [], GM (iL x) c d, w, Tryz.f18.ntmps, []⟩ := ⟨aT aAw, mix⟩
 show rM _ _ _ [(6, .val (.ifc 56 q9) x), (0, .ptr 0 []), (1, .ptr 1 []), (2, .ptr 2 [])] [.box 3 .junk, .box 1 .junk, .box 1 .junk] _
 simp only [go_sem]
 refine aB (aF hF [0, 1, 2, 3, 10] (yaA ?_))
 refine aA (bG rfl (fun hc => ?_) (fun hc => absurd hc xAc))
 refine aDC hF [] [] [.box 3 (.val .expr (Ex.mk 0 [] [])), .box 1 (.val qe (x).1), .box 1 (.val qe (6 : Int)), .box 1 (.val q9 x)] xAc ?_ ?_
 ·simp only [go_sem]
  exact zaX
 refine gT [0, 1, 2] rfl rfl (yaC ?_)
 exact zaf
def hD (F : Md) (s_0 : qd) : Option (Ex × (Int × qp)) :=
 (oW F (lS F 64) (s_0, (0 : Int), (0 : Int), ())).bind (fun e => match e with | .inl r_6 => (nK F r_6.2).bind (fun r_10 => if r_10.2.1 < (s_0.length : Int) then some ((Ex.mk 0 [] []), (r_10.2.1, ()).1, (6 : Int), ()) else ck ((yM F r_6.1).isSome = true) (if ¬ (((yM F r_6.1).getD false) = true) then some ((Ex.mk 0 [] []), ((0 : Int), ()).1, (6 : Int), ()) else some (r_6.1, (0 : Int), (0 : Int), ()))) | .inr p_7 => some ((Ex.mk 0 [] []), (p_7).1, (6 : Int), ()))
@[go_sem]def aCA : Ty := .pair .str .unit
def oJ (F : Md) : aI := mSpec aCA (.tup (.pair .expr qn)) (fun x => hD F x.1)
abbrev aCB (F : Md) : List (FuncId × aI) := [(21, (uT F))]
theorem aKo [Mx] (F : Md) : bJ Tryz.prog GL (aCB F) := .cons (aKk F) xAa (.nil)
theorem aEn [Mx] (F : Md) : FOK Tryz.prog GL 9 (oJ F) := by
 refine aFt (aT (aKo F)) Tryz.func9 rfl xAa xAc fun w0 S x r hw h => ?_
 have hF : fT (fr Tryz.prog (EM (aCB F)) S w0 Tryz.f9.ntmps) := ⟨aT (aKo F), mix⟩
 obtain ⟨(s_0 : qd), u⟩ := x
 simp only [aCA, Ty.wf, fF] at hw
 simp only [bX, aCA]
 try dsimp only at h
 replace h : hD F s_0 = some r := h
 unfold hD at h
 refine aB (aR hF [0, 2, 3, 4] (yaA ?_))
 refine aA (aAT 3 [0, 1, 2] rfl rfl (Nat.zero_le _) xAc fun roots hroots => (yaA ?_))
 have hF : fT { fr Tryz.prog (EM (aCB F)) S w0 Tryz.f9.ntmps with M := ⟨nothing, S, 3, roots⟩, ds := [⟨.fn (.func 18) ([0, 1, 2].map roots).toArray, #[]⟩] } := ⟨hF.env, mix⟩
 refine aB (aR hF [0, 2, 3, 4, 5] (yaA ?_))
 obtain ⟨e, he1, h⟩ := bind_some h
 rcases e with r_6 | p_7
 ·try dsimp only at h
  refine aA (aB (aC hF (aG (l := [(19, ⟨(jE F (lS F 64)), [3], ((s_0, (0 : Int), (0 : Int), ()), .inl r_6)⟩)]) (.cons (qP F _ (rU F 64)) xAa (.nil))) [0, 2, 3, 4, 5] [] (yaB ?_)))
  obtain ⟨r_10, he2, h⟩ := bind_some h
  try dsimp only at h
  refine aA (aB (aB (aC hF (aG (l := [(20, ⟨mN F, [3], (r_6.2, r_10)⟩)]) (.cons (aBn F) xAa (.nil))) [0, 2, 3, 4, 5] [] (yaB ?_))))
  refine aA (aB (aF hF [2, 3, 4, 5, 20] (yaA ?_)))
  refine aA (bG rfl (fun hc => ?_) (fun hc => ?_))
  ·try simp only [go_sem] at hc
   have h := eC zAB h
   refine aC hF (aG (l := []) (.nil)) [2, 3, 4] [] (yaB ?_)
   obtain rfl := Option.some.inj h
   refine aO (aL (aJ 0 rfl aH) ?_)
   refine aL (aJ 1 rfl aH) ?_
   refine aL (aJ 2 rfl aH) (yaA ?_)
   refine aCb (fn := Tryz.f9) (k := 3) (l2 := [0, 1, 2]) hF rfl rfl xAc rfl (rN xAa) ⟨iL (r_10.2.1, ()), [0, 1, 2], ()⟩ (aBG (r_10.2.1, ())) rfl [.cell 2 27, .cell 3 3, .cell 4 3] rfl ?_ ?_
   ·(simp only [iL, go_sem]) <;> first | decide | trivial
   ·(simp only [iL, aS, jB, go_sem]) <;> first | decide | trivial | rfl | (simp; done)
  ·try simp only [go_sem] at hc
   have h := eD zAB h
   refine cI (aA (aB (aB (aF hF [2, 3, 4, 29] (yaA ?_)))))
   obtain ⟨g0, h⟩ := aQ h
   repeat (refine ⟨zAA, ?_⟩)
   refine aA (bG rfl (fun hc => ?_) (fun hc => ?_))
   ·try simp only [go_sem] at hc
    have h := eC zAB h
    refine aC hF (aG (l := []) (.nil)) [2, 3, 4] [] (yaB ?_)
    obtain rfl := Option.some.inj h
    refine aO (aL (aJ 0 rfl aH) ?_)
    refine aL (aJ 1 rfl aH) ?_
    refine aL (aJ 2 rfl aH) (yaA ?_)
    refine aCb (fn := Tryz.f9) (k := 3) (l2 := [0, 1, 2]) hF rfl rfl xAc rfl (rN xAa) ⟨iL ((0 : Int), ()), [0, 1, 2], ()⟩ (aBG ((0 : Int), ())) rfl [.cell 2 27, .cell 3 3, .cell 4 3] rfl ?_ ?_
    ·(simp only [iL, go_sem]) <;> first | decide | trivial
    ·(simp only [iL, aS, jB, go_sem]) <;> first | decide | trivial | rfl | (simp; done)
   ·try simp only [go_sem] at hc
    have h := eD zAB h
    refine cI (aA (aB (aR hF [2, 3, 4] (yaA ?_))))
    obtain rfl := Option.some.inj h
    refine aA (cD (aNL (fn := Tryz.f9) (k := 3) (l2 := [0, 1, 2]) hF rfl rfl xAc rfl (rN xAa) ⟨uC, [0, 1, 2], (r_6.1, (0 : Int), (0 : Int), ())⟩ aNn rfl [.cell 2 27, .cell 3 3, .cell 4 3] rfl ?_ ?_))
    ·(simp only [uC, go_sem]) <;> first | decide | trivial
    ·(simp only [uC, aS, jB, go_sem]) <;> first | decide | trivial | rfl | (simp; done)
 ·try dsimp only at h
  refine aA (aB (aC hF (aG (l := [(19, ⟨(jE F (lS F 64)), [3], ((s_0, (0 : Int), (0 : Int), ()), .inr p_7)⟩)]) (.cons (qP F _ (rU F 64)) xAa (.nil))) [0, 2, 3, 4, 5] [] (yaB ?_)))
  obtain rfl := Option.some.inj h
  refine aO (aL (aJ 0 rfl aH) ?_)
  refine aL (aJ 1 rfl aH) ?_
  refine aL (aJ 2 rfl aH) (yaA ?_)
  refine aCb (fn := Tryz.f9) (k := 3) (l2 := [0, 1, 2]) hF rfl rfl xAc rfl (rN xAa) ⟨iL (p_7), [0, 1, 2], ()⟩ (aBG (p_7)) rfl [.cell 2 27, .cell 3 3, .cell 4 3] rfl ?_ ?_
  ·(simp only [iL, go_sem]) <;> first | decide | trivial
  ·(simp only [iL, aS, jB, go_sem]) <;> first | decide | trivial | rfl | (simp; done)
attribute [go_sem] oJ
end
end Nu
end Go.Proofs
namespace Go.Proofs
open Go.Shelf
def Tryz.lays143_ren : Go.Shelf.Ren := ⟨fun | 143 => 88 | 219 => 89 | 217 => 119 | 225 => 126 | 224 => 127 | 267 => 128 | 266 => 161 | 314 => 165 | n => n, fun | 9 => 9 | 3 => 3 | 4 => 4 | 5 => 5 | 46 => 24 | 146 => 209 | 51 => 208 | n => n, fun | 1 => 0 | n => n⟩
theorem Tryz.lays143 : Go.Proofs.Lays.n143 Tryz.prog Tryz.lays143_ren := {
 mixed := by kernel_rfl
 f143 := Tryz.func88.trans (congrArg some (by kernel_rfl))
 f217 := Tryz.func119.trans (congrArg some (by kernel_rfl))
 f219 := Tryz.func89.trans (congrArg some (by kernel_rfl))
 f224 := Tryz.func127.trans (congrArg some (by kernel_rfl))
 f225 := Tryz.func126.trans (congrArg some (by kernel_rfl))
 f266 := Tryz.func161.trans (congrArg some (by kernel_rfl))
 f267 := Tryz.func128.trans (congrArg some (by kernel_rfl))
 f314 := Tryz.func165.trans (congrArg some (by kernel_rfl))
 t3 := Tryz.underlying3
 a3 := Tryz.isAgg3
 z3 := Tryz.sizeOf3
 v3 := Tryz.zeroValue3
 t4 := Tryz.underlying4
 a4 := Tryz.isAgg4
 z4 := Tryz.sizeOf4
 v4 := Tryz.zeroValue4
 t5 := Tryz.underlying5
 a5 := Tryz.isAgg5
 z5 := Tryz.sizeOf5
 v5 := Tryz.zeroValue5
 t9 := Tryz.underlying9
 a9 := Tryz.isAgg9
 z9 := Tryz.sizeOf9
 v9 := Tryz.zeroValue9
 t46 := Tryz.underlying24
 a46 := Tryz.isAgg24
 z46 := Tryz.sizeOf24
 v46 := Tryz.zeroValue24
 t51 := Tryz.underlying208
 a51 := Tryz.isAgg208
 z51 := Tryz.sizeOf208
 v51 := Tryz.zeroValue208
 t146 := Tryz.underlying209
 a146 := Tryz.isAgg209
 z146 := Tryz.sizeOf209
 v146 := Tryz.zeroValue209
 g1 := by kernel_rfl }
def Tryz.lays145_ren : Go.Shelf.Ren := ⟨fun | 145 => 25 | 220 => 44 | 219 => 89 | 217 => 119 | 225 => 126 | 224 => 127 | 267 => 128 | 266 => 161 | 314 => 165 | n => n, fun | 9 => 9 | 4 => 4 | 59 => 68 | 3 => 3 | 5 => 5 | 46 => 24 | 146 => 209 | 51 => 208 | n => n, fun | 1 => 0 | n => n⟩
theorem Tryz.lays145 : Go.Proofs.Lays.n145 Tryz.prog Tryz.lays145_ren := {
 mixed := by kernel_rfl
 f145 := Tryz.func25.trans (congrArg some (by kernel_rfl))
 f217 := Tryz.func119.trans (congrArg some (by kernel_rfl))
 f219 := Tryz.func89.trans (congrArg some (by kernel_rfl))
 f220 := Tryz.func44.trans (congrArg some (by kernel_rfl))
 f224 := Tryz.func127.trans (congrArg some (by kernel_rfl))
 f225 := Tryz.func126.trans (congrArg some (by kernel_rfl))
 f266 := Tryz.func161.trans (congrArg some (by kernel_rfl))
 f267 := Tryz.func128.trans (congrArg some (by kernel_rfl))
 f314 := Tryz.func165.trans (congrArg some (by kernel_rfl))
 t3 := Tryz.underlying3
 a3 := Tryz.isAgg3
 z3 := Tryz.sizeOf3
 v3 := Tryz.zeroValue3
 t4 := Tryz.underlying4
 a4 := Tryz.isAgg4
 z4 := Tryz.sizeOf4
 v4 := Tryz.zeroValue4
 t5 := Tryz.underlying5
 a5 := Tryz.isAgg5
 z5 := Tryz.sizeOf5
 v5 := Tryz.zeroValue5
 t9 := Tryz.underlying9
 a9 := Tryz.isAgg9
 z9 := Tryz.sizeOf9
 v9 := Tryz.zeroValue9
 t46 := Tryz.underlying24
 a46 := Tryz.isAgg24
 z46 := Tryz.sizeOf24
 v46 := Tryz.zeroValue24
 t51 := Tryz.underlying208
 a51 := Tryz.isAgg208
 z51 := Tryz.sizeOf208
 v51 := Tryz.zeroValue208
 t59 := Tryz.underlying68
 a59 := Tryz.isAgg68
 z59 := Tryz.sizeOf68
 v59 := Tryz.zeroValue68
 t146 := Tryz.underlying209
 a146 := Tryz.isAgg209
 z146 := Tryz.sizeOf209
 v146 := Tryz.zeroValue209
 g1 := by kernel_rfl }
def Tryz.lays146_ren : Go.Shelf.Ren := ⟨fun | 146 => 24 | 221 => 43 | 268 => 86 | 138 => 87 | 143 => 88 | 195 => 123 | 197 => 124 | 218 => 125 | 219 => 89 | 260 => 164 | 217 => 119 | 225 => 126 | 224 => 127 | 267 => 128 | 266 => 161 | 314 => 165 | n => n, fun | 9 => 9 | 31 => 32 | 3 => 3 | 4 => 4 | 0 => 0 | 105 => 153 | 21 => 21 | 5 => 5 | 46 => 24 | 119 => 223 | 139 => 226 | 138 => 225 | 146 => 209 | 51 => 208 | n => n, fun | 1 => 0 | 3 => 1 | 4 => 2 | n => n⟩
theorem Tryz.lays146 : Go.Proofs.Lays.n146 Tryz.prog Tryz.lays146_ren := {
 mixed := by kernel_rfl
 f138 := Tryz.func87.trans (congrArg some (by kernel_rfl))
 f143 := Tryz.func88.trans (congrArg some (by kernel_rfl))
 f146 := Tryz.func24.trans (congrArg some (by kernel_rfl))
 f195 := Tryz.func123.trans (congrArg some (by kernel_rfl))
 f197 := Tryz.func124.trans (congrArg some (by kernel_rfl))
 f217 := Tryz.func119.trans (congrArg some (by kernel_rfl))
 f218 := Tryz.func125.trans (congrArg some (by kernel_rfl))
 f219 := Tryz.func89.trans (congrArg some (by kernel_rfl))
 f221 := Tryz.func43.trans (congrArg some (by kernel_rfl))
 f224 := Tryz.func127.trans (congrArg some (by kernel_rfl))
 f225 := Tryz.func126.trans (congrArg some (by kernel_rfl))
 f260 := Tryz.func164.trans (congrArg some (by kernel_rfl))
 f266 := Tryz.func161.trans (congrArg some (by kernel_rfl))
 f267 := Tryz.func128.trans (congrArg some (by kernel_rfl))
 f268 := Tryz.func86.trans (congrArg some (by kernel_rfl))
 f314 := Tryz.func165.trans (congrArg some (by kernel_rfl))
 t0 := Tryz.underlying0
 a0 := Tryz.isAgg0
 z0 := Tryz.sizeOf0
 v0 := Tryz.zeroValue0
 t3 := Tryz.underlying3
 a3 := Tryz.isAgg3
 z3 := Tryz.sizeOf3
 v3 := Tryz.zeroValue3
 t4 := Tryz.underlying4
 a4 := Tryz.isAgg4
 z4 := Tryz.sizeOf4
 v4 := Tryz.zeroValue4
 t5 := Tryz.underlying5
 a5 := Tryz.isAgg5
 z5 := Tryz.sizeOf5
 v5 := Tryz.zeroValue5
 t9 := Tryz.underlying9
 a9 := Tryz.isAgg9
 z9 := Tryz.sizeOf9
 v9 := Tryz.zeroValue9
 t21 := Tryz.underlying21
 a21 := Tryz.isAgg21
 z21 := Tryz.sizeOf21
 v21 := Tryz.zeroValue21
 t31 := Tryz.underlying32
 a31 := Tryz.isAgg32
 z31 := Tryz.sizeOf32
 v31 := Tryz.zeroValue32
 t46 := Tryz.underlying24
 a46 := Tryz.isAgg24
 z46 := Tryz.sizeOf24
 v46 := Tryz.zeroValue24
 t51 := Tryz.underlying208
 a51 := Tryz.isAgg208
 z51 := Tryz.sizeOf208
 v51 := Tryz.zeroValue208
 t105 := Tryz.underlying153
 a105 := Tryz.isAgg153
 z105 := Tryz.sizeOf153
 v105 := Tryz.zeroValue153
 t119 := Tryz.underlying223
 a119 := Tryz.isAgg223
 z119 := Tryz.sizeOf223
 t138 := Tryz.underlying225
 a138 := Tryz.isAgg225
 z138 := Tryz.sizeOf225
 v138 := Tryz.zeroValue225
 t139 := Tryz.underlying226
 a139 := Tryz.isAgg226
 z139 := Tryz.sizeOf226
 v139 := Tryz.zeroValue226
 t146 := Tryz.underlying209
 a146 := Tryz.isAgg209
 z146 := Tryz.sizeOf209
 v146 := Tryz.zeroValue209
 g1 := by kernel_rfl
 g3 := by kernel_rfl
 g4 := by kernel_rfl }
open Go.Vc
set_option maxRecDepth 20000
namespace Nu
noncomputable section
def aRm (sub : List Nat) : List Nat → Option Nat
 | [] => if sub.isEmpty then some 0 else none
 | b :: l => if sub.isPrefixOf (b :: l) then some 0 else match aRm sub l with
  | none => none
  | some i => some (i + 1)
def aUL (sep : List Nat) : Nat → List Nat → List qd
 | 0, s => [s]
 | k + 1, s => match aRm sep s with
  | none => [s]
  | some i => s.take i :: aUL sep k (s.drop (i + sep.length))
def aLH (s sub : List Nat) : Int := match aRm sub s with
 | none => -1
 | some i => (i : Int)
def wP (s sep : List Nat) : List Nat × List Nat × Bool × Unit := match aRm sep s with
 | none => (s, [], false, ())
 | some i => (s.take i, s.drop (i + sep.length), true, ())
def aEo (s sep : List Nat) : List qd := aUL sep s.length s
abbrev nts (l : List UInt8) : List Nat := l.map (·.toNat)
theorem aPe : ∀ (t s : List UInt8), (nts t).isPrefixOf (nts s) = t.isPrefixOf s
 | [], s => by cases s <;> rfl
 | a :: t, [] => rfl
 | a :: t, b :: s => by
  have ih := aPe t s
  simp only [nts, List.map_cons, List.isPrefixOf] at ih ⊢
  rw [ih]
  congr 1
  by_cases h : a = b
  ·subst h; simp
  ·have : a.toNat ≠ b.toNat := fun e => h (UInt8.toNat_inj.1 e)
   rw [beq_false_of_ne h, beq_false_of_ne this]
theorem aHY (t : List UInt8) : ∀ s : List UInt8, Lib.index s t = match aRm (nts t) (nts s) with
  | none => -1
  | some i => (i : Int)
 | [] => by
  cases t <;> rfl
 | b :: s => by
  have ih := aHY t s
  have e := aPe t (b :: s)
  simp only [nts, List.map_cons] at e ih ⊢
  rw [Lib.index, aRm, e]
  by_cases hp : t.isPrefixOf (b :: s) = true
  ·simp [hp]
  ·rw [if_neg hp, if_neg hp, ih]
   cases aRm (t.map (·.toNat)) (s.map (·.toNat)) with
   | none => rfl
   | some i =>
    have : ((i : Int) == -1) = false := by
     rw [beq_eq_false_iff_ne]; omega
    simp only [this]
    simp
theorem aPf (t : List UInt8) (ht : t ≠ []) : ∀ (k : Nat) (s : List UInt8), Lib.count s t ≤ k → (Lib.splitK t 0 (Lib.count s t) s).map nts = aUL (nts t) k (nts s)
 | k, s, hk => by
  have hi := aHY t s
  cases hx : aRm (nts t) (nts s) with
  | none =>
   rw [hx] at hi
   rw [Lib.count_miss hi]
   cases k with
   | zero => rfl
   | succ k => rw [aUL, hx]; rfl
  | some i =>
   rw [hx] at hi
   have hc := Lib.count_hit ht hi
   cases k with
   | zero => omega
   | succ k =>
    have ih := aPf t ht k (s.drop (i + t.length)) (by omega)
    rw [aUL, hx, hc, Nat.add_comm 1, Lib.splitK]
    have hi : Lib.index s t = (i : Int) := hi
    have : (Lib.index s t == -1) = false := by rw [hi, beq_eq_false_iff_ne]; omega
    rw [this, hi]
    simp only [Bool.false_eq_true, if_false, List.map_cons, Int.toNat_natCast, Nat.add_zero]
    rw [ih]
    simp [nts, List.map_take, List.map_drop]
def aPR (s sep : List Nat) : Prop := s.length < 4294967281 ∧ 1 ≤ sep.length
instance (s sep : List Nat) : Decidable (aPR s sep) := by unfold aPR; infer_instance
theorem aLI [Mx] {S : Nat → Prop} {w : World} [Mx] (hG : pJ GL S w) : w.cell? ⟨0, 0, none⟩ = some (.int .i64 Mx.v) := by
 have h := (hG 0).1
 rw [GLm] at h
 simp only [aM] at h
 obtain ⟨b, off, ds, h1, h2, h3, h4⟩ := h
 simp only [Value.cells, List.cons.injEq, and_true] at h1
 cases h1
 simp only [bC] at h3
 exact h4 0 (.int .i64 Mx.v) (by rw [h3.1]; rfl)
theorem aLJ {w : World} {S : Nat → Prop} {vs : Array Value} {a b : List Nat} (h : oP w S qg (a, b, ()) vs.toList) : ∃ s t : ByteArray, vs = #[.string s, .string t] ∧ aU s = a ∧ aU t = b := by
 obtain ⟨v1, r1, e1, h1, v2, r2, e2, h2, h3⟩ := h
 have h3 : r2 = [] := h3
 have h1 : bC w S .str a [v1] := h1
 have h2 : bC w S .str b [v2] := h2
 obtain ⟨s, es, hs, _⟩ := h1
 obtain ⟨t, et, ht, _⟩ := h2
 refine ⟨s, t, ?_, hs, ht⟩
 rw [← Array.toList_inj, e1, e2, h3, (List.cons.inj es).1, (List.cons.inj et).1]
theorem aUa {w : World} {S : Nat → Prop} {l : List UInt8} (hl : l.length ≤ maxLen) : dB w S .str (l.map (·.toNat)) (.string ⟨l.toArray⟩) := by
 unfold dB
 rw [if_neg (by simp [Ty.isAgg])]
 exact ⟨_, rfl, by simp [aU], hl⟩
def aGe : Ty := .pair .str wg
def uW : aI := ⟨aGe, .one qe, fun x => aPR x.1 x.2.1, fun x => aLH x.1 x.2.1⟩
attribute [go_sem] uW aGe
theorem aLK [Mx] : FOK Tryz.prog GL 88 uW := by
 rintro w S vs ⟨(a : List Nat), (b : List Nat), u⟩ hS hG ha ⟨p1, p2⟩
 have p1 : a.length < 4294967281 := p1
 obtain ⟨s, t, rfl, hs, ht⟩ := aLJ ha
 have hsz : s.size < 4294967281 := by
  have : s.size = a.length := by rw [← hs]; simp [aU]
  omega
 refine Calls.mono (f := 88) (Any.strings_Index Tryz.lays143 s t Mx.v w hsz (aLI hG)) ?_
 rintro e w' ⟨rfl, rfl⟩
 refine ⟨_, rfl, .refl _ _, ?_⟩
 show dB w' _ qe (aLH a b) _
 unfold dB
 rw [if_neg (by simp [Ty.isAgg])]
 have hx : aLH a b = Lib.index s.data.toList t.data.toList := by
  subst hs ht
  exact (aHY t.data.toList s.data.toList).symm
 rw [hx]
 refine ⟨rfl, rfl, ?_, ?_⟩
 ·have hm : IntKind.i64.min = -9223372036854775808 := by decide
  have := Lib.index_ge s.data.toList t.data.toList
  show (IntKind.i64.min : Int) ≤ Lib.index s.data.toList t.data.toList
  rw [hm]; omega
 ·have hm : IntKind.i64.max = 9223372036854775807 := by decide
  have hl : ∀ (l m : List UInt8), Lib.index l m ≤ l.length := fun l m => by
   induction l with
   | nil => unfold Lib.index; split <;> decide
   | cons b l ih =>
    unfold Lib.index
    split
    ·simp; omega
    ·split
     ·simp; omega
     ·simp; omega
  have := hl s.data.toList t.data.toList
  have e : s.data.toList.length = s.size := rfl
  show (Lib.index s.data.toList t.data.toList : Int) ≤ IntKind.i64.max
  rw [hm]; omega
def aIr : Ty := .pair .str wg
def mP : aI := ⟨aIr, .tup (.pair .str (.pair .str ws)), fun x => aPR x.1 x.2.1, fun x => wP x.1 x.2.1⟩
attribute [go_sem] mP aIr
theorem aDf [Mx] : FOK Tryz.prog GL 25 mP := by
 rintro w S vs ⟨(a : List Nat), (b : List Nat), u⟩ hS hG ha ⟨p1, p2⟩
 have p1 : a.length < 4294967281 := p1
 obtain ⟨s, t, rfl, hs, ht⟩ := aLJ ha
 have hsz : s.size < 4294967281 := by
  have : s.size = a.length := by rw [← hs]; simp [aU]
  omega
 refine Calls.mono (f := 25) (Any.strings_Cut Tryz.lays145 s t Mx.v w hsz (aLI hG)) ?_
 rintro e w' ⟨rfl, n, rfl⟩
 have hc1 : (Lib.cut s.data.toList t.data.toList).1.length ≤ s.size ∧ (Lib.cut s.data.toList t.data.toList).2.1.length ≤ s.size := by
  have e : s.data.toList.length = s.size := rfl
  unfold Lib.cut
  split
  ·simp only [List.length_take, List.length_drop, e]; omega
  ·simp only [List.length_nil, e]; omega
 have hm : s.size ≤ maxLen := by unfold maxLen; omega
 refine ⟨_, rfl, ⟨rfl, rfl, rfl, Nat.le_refl _, fun _ _ _ => rfl⟩, [_, _, _], rfl, ?_⟩
 show oP _ _ (.pair .str (.pair .str ws)) (wP a b) _
 have hx : wP a b = (nts (Lib.cut s.data.toList t.data.toList).1, nts (Lib.cut s.data.toList t.data.toList).2.1, (Lib.cut s.data.toList t.data.toList).2.2, ()) := by
  subst hs ht
  have hi := aHY t.data.toList s.data.toList
  show wP (nts s.data.toList) (nts t.data.toList) = _
  unfold wP Lib.cut
  cases hx : aRm (nts t.data.toList) (nts s.data.toList) with
  | none => rw [hx] at hi; replace hi : Lib.index s.data.toList t.data.toList = -1 := hi; rw [if_neg (by omega)]; rfl
  | some i => rw [hx] at hi; replace hi : Lib.index s.data.toList t.data.toList = (i : Int) := hi; rw [if_pos (by omega)]; simp [hi, nts, List.map_take, List.map_drop]
 rw [hx]
 exact ⟨_, _, rfl, aUa (Nat.le_trans hc1.1 hm), _, _, rfl, aUa (Nat.le_trans hc1.2 hm), _, _, rfl, by unfold dB; rw [if_neg (by simp [Ty.isAgg])]; rfl, rfl⟩
theorem aMN (sep : ByteArray) : ∀ (k : Nat) (s x : ByteArray), x ∈ Lib.splitB sep 0 k s → x.size ≤ s.size
 | 0, s, x, h => by
  rw [Lib.splitB] at h
  rw [List.mem_singleton.1 h]
  exact Nat.le_refl _
 | k + 1, s, x, h => by
  rw [Lib.splitB] at h
  split at h
  ·rw [List.mem_singleton.1 h]; exact Nat.le_refl _
  ·rcases List.mem_cons.1 h with rfl | h
   ·rw [ByteArray.size_extract]; omega
   ·refine Nat.le_trans (aMN sep k _ x h) ?_
    rw [ByteArray.size_extract]; omega
def aGf : Ty := .pair .str wg
def uX : aI := ⟨aGf, .one wh, fun x => aPR x.1 x.2.1, fun x => aEo x.1 x.2.1⟩
attribute [go_sem] uX aGf
theorem aLL [Mx] : FOK Tryz.prog GL 24 uX := by
 rintro w S vs ⟨(a : List Nat), (b : List Nat), u⟩ hS hG ha ⟨p1, p2⟩
 have p1 : a.length < 4294967281 := p1
 have p2 : 1 ≤ b.length := p2
 obtain ⟨s, t, rfl, hs, ht⟩ := aLJ ha
 have hsz : s.size = a.length := by rw [← hs]; simp [aU]
 have htz : t.size = b.length := by rw [← ht]; simp [aU]
 have hlen := Lib.splitB_all t (by omega) 0 _ s rfl
 have hcl : Lib.countB s t ≤ s.size := Lib.countB_le t (by omega) s.size s (Nat.le_refl _)
 refine Calls.mono (f := 24) (Any.strings_Split Tryz.lays146 (by rfl) s t Mx.v w (by omega) (aLI hG) (by omega)) ?_
 rintro e w' ⟨rfl, rfl⟩
 refine ⟨_, rfl, iG.alloc nothing w _, ?_⟩
 show dB _ _ wh (aEo a b) _
 unfold dB
 rw [if_neg (by simp [Ty.isAgg])]
 have hx : aEo a b = (Lib.splitB t 0 (Lib.countB s t) s).map aU := by
  have ht1 : 1 ≤ t.size := by omega
  have hne : t.data.toList ≠ [] := fun e => by
   have e2 : t.data.toList.length = t.size := rfl
   rw [e, List.length_nil] at e2
   omega
  have h1 := Lib.splitB_data t 0 (Lib.countB s t) s
  have h2 := aPf t.data.toList hne s.size s.data.toList hcl
  subst hs ht
  have e : (aU s).length = s.size := by simp [aU]
  unfold aEo
  rw [e]
  show aUL (nts t.data.toList) s.size (nts s.data.toList) = _
  rw [← h2]
  show (Lib.splitK t.data.toList 0 (Lib.countB s t) s.data.toList).map nts = _
  rw [← h1, List.map_map]
  rfl
 rw [hx]
 have hsz2 : ∀ o : Go.Obj, w.heap.size < (w.alloc o).heap.size := fun o => by show w.heap.size < (w.heap.push o).size; rw [Array.size_push]; omega
 have hnew : ∀ o : Go.Obj, (w.alloc o).heap[w.heap.size]? = some o := fun o => by show (w.heap.push o)[w.heap.size]? = some o; rw [Array.getElem?_push, if_pos rfl]
 refine ⟨_, _, _, rfl, by rw [List.length_map, hlen], Nat.le_refl _, by unfold maxLen; omega, .inr ⟨w.heap.size, 0, rfl, .inr ⟨Nat.le_refl _, hsz2 _⟩, fun i hi => ?_⟩⟩
 have hi' : i < (Lib.splitB t 0 (Lib.countB s t) s).length := by simpa using hi
 refine ⟨[.string (Lib.splitB t 0 (Lib.countB s t) s)[i]], ⟨_, rfl, by simp, ?_⟩, fun j v hj => ?_⟩
 ·have := aMN t _ s _ (List.getElem_mem hi')
  unfold maxLen; omega
 ·have hj0 : j = 0 := by
   rcases Nat.lt_or_ge j 1 with h | h
   ·omega
   ·rw [List.getElem?_eq_none (by simpa using h)] at hj; cases hj
  subst hj0
  have hv : v = .string (Lib.splitB t 0 (Lib.countB s t) s)[i] := by simpa using hj.symm
  subst hv
  have hc : ((Lib.splitB t 0 (Lib.countB s t) s).map Value.string).toArray[i]? = some (.string (Lib.splitB t 0 (Lib.countB s t) s)[i]) := by
   simp [hi']
  rw [Lib.cell_of_heap (hnew _), show 0 + i * Ty.str.cells + 0 = i from by simp [Ty.cells]]
  exact hc
end
end Nu
end Go.Proofs
namespace Go.Proofs
open Go.Vc
set_option maxRecDepth 100000
namespace Nu
noncomputable section
set_option maxHeartbeats 4000000
section
open Go.Shelf Go.RowKit Go.Lib
theorem aWi (n : Nat) (w : World) (hn : n ≤ 1073741824) :
  Calls Tryz.prog 112 #[.slice none 0 0, .int .i64 n] w fun e w' => (n = 0 ∧ e = .returned (.slice none 0 0) ∧ w' = w) ∨
   (0 < n ∧ e = .returned (.slice (some ⟨w.heap.size, 0, none⟩) 0 (grownCap w n 0 9)) ∧ w' = w.drew.alloc (.cells (Builtin.zeroCells #[Value.string ⟨#[]⟩] n ++ Builtin.zeroCells #[Value.string ⟨#[]⟩] (grownCap w n 0 9 - n)) 9)) := by
 have h1 : ¬ ((n : Int) < 0) := by omega
 have h3 : wrap64 ((n : Int) - wrap64 (0 - 0)) = (n : Int) := by unfold wrap64; omega
 have h5 : wrap64 (n : Int) = (n : Int) := by unfold wrap64; omega
 obtain ⟨i, hi, hz, hs, hb⟩ : ∃ i, Tryz.prog.info? 9 = some i ∧ i.zero = some (.string ⟨#[]⟩) ∧ i.size = 1 ∧ i.bytes = 16 := ⟨_, rfl, rfl, rfl, rfl⟩
 go_enter Tryz.func112, Tryz.ntmps112
 rcases Nat.eq_zero_or_pos n with rfl | hp
 ·go_wp2
  go_ret
  exact ⟨rfl, rfl⟩
 ·have h4 : (n : Int) > 0 := by omega
  have hrz : ∀ ty, (Builtin.append_ #[32, 3] ty #[.slice none 0 0, .int .i64 (n : Int)]).run Tryz.prog w = .ok (.slice (some ⟨w.heap.size, 0, none⟩) n (grownCap w n 0 9)) (w.drew.alloc (.cells (Builtin.zeroCells #[Value.string ⟨#[]⟩] n ++ Builtin.zeroCells #[Value.string ⟨#[]⟩] (grownCap w n 0 9 - n)) 9)) :=
   fun ty => Lib.run_append_nil_zeros w 32 3 ty 9 i (.string ⟨#[]⟩) .i64 .i64 rfl rfl hi hz n hp (by omega) (by omega) (by rw [hb]; omega)
  have hG := grownCap_ge w n 0 9
  have hG2 := grownCap_le_maxLen w n 0 9 (by unfold maxLen; omega)
  unfold maxLen at hG2
  generalize grownCap w n 0 9 = G at *
  go_wp2_with (at_builtin; refine Lib.wpList_append_run _ rfl _ _ _ _ rfl _ _ rfl rfl _ _ (hrz _) ?_)
  go_ret
  exact .inr ⟨rfl, rfl⟩
end
def qA (F : Md) (n : Int) : Option qw := ck (0 ≤ n ∧ n ≤ 1073741824) (some [])
def jN (F : Md) : fW where
 D := Int × qw
 av := fun d => [.nilS, .val qe d.1]
 hp := fun d => []
 m := 0
 pre := fun d => qA F d.1 = some d.2
 out := fun d => (fun r : qw => .ret (.own 0) [.row 9 .str (r)]) d.2
attribute [go_sem] jN
theorem aSA {F : Md} {c : Ctx} {w w' : World} {d : (jN F).D} (hd : d.2 = []) (good : Go.Vc.Good (GM (jN F) c d) w c [] w) (hk : iG nothing w w') (v : Value) (hv : ∃ a n m, v = .slice a n m) (hr : w'.ownsRow 0 9 1 v 0 []) (hb : ∀ b, aW v = some b → w.heap.size ≤ b ∧ b < w'.heap.size) :
  aK7 (jN F) c w d (.returned v) w' := by
 have e1 : (c.push v).hd c.n = v := by simp [Ctx.push]
 have h0 : c.n = 0 := good.n
 have := good.push hk (o := .row 9 .str []) (hv := v) (by
  show aBw _ _ _ _ _ _
  rw [e1]
  exact ⟨[], hr, ⟨rfl, [], rfl, rfl, fun i h => by simp at h⟩⟩) (fun b h => hb b (by simpa [fE, e1] using h))
 refine ⟨c.push v, ?_⟩
 show ∃ u, _ ∧ Go.Vc.Good _ _ _ [.row 9 .str d.2] _ ∧ aX _ _ (.own 0) u
 rw [hd]
 refine ⟨v, rfl, this.1, ?_⟩
 have := aCT (c := c) (v' := v) hv (w' := w') (S' := c.S)
 rw [h0] at this
 exact this
theorem aGx [Mx] (F : Md) : GOK Tryz.prog GL 112 (jN F) := by
 rintro c w ⟨n, r⟩ vs hpre ⟨good, glob, len, val⟩
 have hpre : qA F n = some r := hpre
 unfold qA at hpre
 obtain ⟨⟨h1, h2⟩, hpre⟩ := aQ hpre
 have hr : [] = r := Option.some.inj hpre
 have hv0 := val 0 (by show 0 < 2; decide) (by rw [len]; show 0 < 2; decide)
 have hv1 := val 1 (by show 1 < 2; decide) (by rw [len]; show 1 < 2; decide)
 have e0 : vs.toList[0]'(by rw [len]; show 0 < 2; decide) = .slice none 0 0 := by
  obtain ⟨q1, _, q3⟩ := hv0
  have q3 := q3 rfl
  revert q1 q3
  generalize vs.toList[0]'(by rw [len]; show 0 < 2; decide) = sv
  intro q1 q3
  have q1 : sv.cells.toList = [.slice none 0 0] := q1
  cases sv <;> simp [Value.cells] at q1 q3 <;> simp [q1]
 obtain ⟨e1, _, _⟩ := aGH (k := .i64) (n := n) hv1
 have hvs : vs = #[.slice none 0 0, .int .i64 (n.toNat : Int)] := by
  have hlen : vs.toList.length = 2 := len
  rw [← Array.toList_inj]
  apply List.ext_getElem
  ·exact hlen
  ·intro i a1 a2
   match i, a2 with
   | 0, _ => exact e0
   | 1, _ => show _ = Value.int .i64 (n.toNat : Int); rw [Int.toNat_of_nonneg h1]; exact e1
 rw [hvs]
 refine Calls.mono (f := 112) (aWi n.toNat w (by omega)) ?_
 rintro e w' (⟨_, rfl, rfl⟩ | ⟨hp, rfl, rfl⟩)
 ·exact aSA (d := (n, r)) hr.symm good (.refl nothing _) _ ⟨_, _, _, rfl⟩ ⟨rfl, .inl ⟨rfl, rfl⟩⟩ (fun b h => by simp [aW] at h)
 ·have hG := grownCap_ge w n.toNat 0 9
  have hG2 := grownCap_le_maxLen w n.toNat 0 9 (by unfold maxLen; omega)
  have hk : ∀ o, iG nothing w (w.drew.alloc o) := fun o => have k := iG.alloc nothing w.drew o; ⟨rfl, rfl, rfl, k.size, k.block⟩
  refine aSA (d := (n, r)) hr.symm good (hk _) _ ⟨_, _, _, rfl⟩ ⟨rfl, .inr ⟨w.heap.size, _, Builtin.zeroCells #[Value.string ⟨#[]⟩] n.toNat ++ Builtin.zeroCells #[Value.string ⟨#[]⟩] (grownCap w n.toNat 0 9 - n.toNat), rfl, Nat.zero_le _, ?_, Nat.zero_le _, hG2, ?_, rfl⟩⟩ ?_
  ·show (w.heap.push _)[w.heap.size]? = _
   simp
  ·simp [Builtin.zeroCells]
   omega
  ·intro b h
   simp only [aW, Option.some.injEq] at h
   subst h
   refine ⟨Nat.le_refl _, ?_⟩
   show w.heap.size < (w.heap.push _).size
   simp
end
end Nu
end Go.Proofs
namespace Go.Proofs
open Go.Vc
set_option maxRecDepth 20000
namespace Nu
noncomputable section
set_option maxHeartbeats 4000000
def rV (F : Md) (l_8 : (List qt)) : Option (Bool) :=
 ck ((2 : Int) < (l_8.length : Int)) (ck ((1 : Int) < (l_8.length : Int)) ((aAN F (l_8.getD (2 : Nat) (false, [], 0, ())) (l_8.getD (1 : Nat) (false, [], 0, ()))).bind (fun v_14 => ck ((v_14 ≤ (0 : Int)) → ((0 : Int) < (l_8.length : Int))) (ck ((v_14 ≤ (0 : Int)) → ((1 : Int) < (l_8.length : Int))) (ck ((v_14 ≤ (0 : Int)) → ((mC F (l_8.getD (0 : Nat) (false, [], 0, ())) (l_8.getD (1 : Nat) (false, [], 0, ())) (256 : Int)).isSome = true)) (ck (((v_14 ≤ (0 : Int)) ∧ (((mC F (l_8.getD (0 : Nat) (false, [], 0, ())) (l_8.getD (1 : Nat) (false, [], 0, ())) (256 : Int)).getD false) = true)) → ((1 : Int) < (l_8.length : Int))) (ck (((v_14 ≤ (0 : Int)) ∧ (((mC F (l_8.getD (0 : Nat) (false, [], 0, ())) (l_8.getD (1 : Nat) (false, [], 0, ())) (256 : Int)).getD false) = true)) → ((2 : Int) < (l_8.length : Int))) (ck (((v_14 ≤ (0 : Int)) ∧ (((mC F (l_8.getD (0 : Nat) (false, [], 0, ())) (l_8.getD (1 : Nat) (false, [], 0, ())) (256 : Int)).getD false) = true)) → ((mC F (l_8.getD (1 : Nat) (false, [], 0, ())) (l_8.getD (2 : Nat) (false, [], 0, ())) (4096 : Int)).isSome = true)) (some (((decide (v_14 ≤ (0 : Int))) && ((mC F (l_8.getD (0 : Nat) (false, [], 0, ())) (l_8.getD (1 : Nat) (false, [], 0, ())) (256 : Int)).getD false)) && ((mC F (l_8.getD (1 : Nat) (false, [], 0, ())) (l_8.getD (2 : Nat) (false, [], 0, ())) (4096 : Int)).getD false)))))))))))
def xS (F : Md) (s_0 : qf) (x56_16 : Int) (l_17 : (List qt)) : Option ((Int × (List qt)) ⊕ ((List qt) ⊕ Bool)) :=
 if x56_16 < (4 : Int) then ck (0 ≤ x56_16 ∧ x56_16 < (4 : Int)) ((aDO F (([s_0.2.2.2.2.1, s_0.2.2.2.2.2.1, s_0.2.2.2.2.2.2.1, s_0.2.2.2.2.2.2.2.1] : List qd).getD (x56_16.toNat) ([] : List Nat))).bind (fun v_24 => ck (¬ (¬ (v_24.2.1 = (0 : Int))) → ((tY F v_24.1).isSome = true)) (if (¬ (v_24.2.1 = (0 : Int))) ∨ (((tY F v_24.1).getD (0 : Int)) ≤ (0 : Int)) then some (.inr (.inr false)) else ck (((l_17.length) + (1 : Nat)) * 73 ≤ 140737488355328) (ck (I64 (x56_16 + (1 : Int))) (some (.inl ((x56_16 + (1 : Int)), (l_17 ++ ([v_24.1] : List qt))))))))) else some (.inr (.inl l_17))
def xG (F : Md) (s_0 : qf) : Option Bool :=
 if ((((((s_0.1 < (8 : Int)) ∨ ((200 : Int) < s_0.1)) ∨ (s_0.2.1 < (1 : Int))) ∨ ((20 : Int) < s_0.2.1)) ∨ (s_0.2.2.1 < (0 : Int))) ∨ ((3 : Int) < s_0.2.2.1)) ∨ ((¬ (s_0.2.2.2.1 = (1 : Int))) ∧ (¬ (s_0.2.2.2.1 = (2 : Int)))) then some false else (eG F (fun d : Int × (List qt) => xS F s_0 d.1 d.2) ((0 : Int), ([] : List qt))).bind (fun e => match e with | (.inl e) => rV F e | (.inr e) => some e)
def aEP : PlR := ⟨[(0, .B [1]), (1, .A [1, 45]), (2, .A [2]), (3, .A [1, 3]), (4, .A [3, 54, 55, 56]), (5, .A [3, 54, 55, 56, 57]), (6, .A [3, 5, 54, 55, 56]), (7, .B [3, 6, 7, 54, 55, 56]), (8, .A [3, 6, 54, 55, 56, 71]), (9, .A [2]), (10, .B [3, 54, 55, 56]), (11, .A [3, 54, 55, 56]), (12, .A [2])], [(7, 15)]⟩
def aGg : Ty := .pair qj .unit
def uY (F : Md) : aI := mSpec aGg (.one .bool) (fun x => xG F x.1)
abbrev sN (F : Md) : List (FuncId × aI) := [(67, (aCt F)), (68, (uN F)), (69, (yE F)), (70, (aA1 F))]
theorem aNp [Mx] (F : Md) : bJ Tryz.prog GL (sN F) := .cons (aRk F) xAa (.cons (aJZ F) xAa (.cons (aMD F) xAa (.cons (aPM F) xAa (.nil))))
attribute [go_sem] aGg aEP
theorem aLM [Mx] (F : Md) : FOK Tryz.prog GL 35 (uY F) := by
 refine bT (aT (aNp F)) mix Tryz.func35 rfl xAa xAc aEP fun w0 S x Θ hw h hF => ?_
 obtain ⟨(s_0 : qf), u⟩ := x
 simp only [bX, go_sem]
 replace h : sat (xG F s_0) _ := h
 unfold xG at h
 refine ⟨fun hc => ?_, fun hc => ?_⟩
 ·replace h := jH hc h
  exact zaF
 ·replace h := jI hc h
  refine eP hF (D := (List qt)) (fun d => sat (rV F d) Θ) [] (fun d => [(3, .own 0)]) (fun d => [.inr (.row 128 ql d)]) ?_ ?_
  ·simp only [go_sem]
   refine aCV 3 128 ql rfl (yaA ?_)
   refine aJG [1] rfl rfl (yaA ?_)
   refine cG hF (D := Int × (List qt)) [55] (fun d => [(3, .own 0), (54, .val wh ([s_0.2.2.2.2.1, s_0.2.2.2.2.2.1, s_0.2.2.2.2.2.2.1, s_0.2.2.2.2.2.2.2.1] : List qd)), (56, .val qe d.1)]) (fun d => [.inr (.row 128 ql d.2)]) h rfl (by (try simp only [lZ, dR, true_or, and_self, go_sem]) <;> (repeat' apply And.intro) <;> first | rfl | (left; rfl) | (right; rfl) | (left; simp only [go_sem]; done) | (right; simp only [go_sem]; done) | (simp; done) | (simp only [*]; done) | omega) ?_
   rintro ⟨x56_16, l_17⟩ A5 T5 hA5 hE5 h
   simp only [go_sem]
   replace h : sat (xS F s_0 x56_16 l_17) _ := h
   unfold xS at h
   refine fI h (fun hc h => ?_) fun hc h => ?_
   ·obtain ⟨g0, h⟩ := aP h
    repeat (refine ⟨zAA, ?_⟩)
    obtain ⟨v_24, hv, h⟩ := aN h
    try simp only [hv, go_sem]
    obtain ⟨g0, h⟩ := aP h
    repeat (refine ⟨zAD, ?_⟩)
    refine ⟨fun hc => ?_, fun hc => ?_⟩
    ·replace h := jH zAB h
     replace h := yaF (hE5 _ (aE h))
     exact zaF
    ·replace h := jI zAB h
     obtain ⟨g0, h⟩ := aP h
     repeat (refine ⟨zAA, ?_⟩)
     obtain ⟨g0, h⟩ := aP h
     try simp only [I64, I32] at g0
     repeat (refine ⟨zAA, ?_⟩)
     replace h := hA5 _ (aE h)
     refine gT [2] rfl rfl (yaA ?_)
     exact zaK
   ·replace h := yaF (hE5 _ (aE h))
    exact aZ (l_17) h rfl xAb
  ·rintro l_8 h
   simp only [go_sem]
   replace h : sat (rV F l_8) _ := h
   unfold rV at h
   obtain ⟨g0, h⟩ := aP h
   obtain ⟨g1, h⟩ := aP h
   repeat (refine ⟨zAA, ?_⟩)
   obtain ⟨v_14, hv, h⟩ := aN h
   try simp only [hv, go_sem]
   obtain ⟨g0, h⟩ := aP h
   obtain ⟨g1, h⟩ := aP h
   obtain ⟨g2, h⟩ := aP h
   obtain ⟨g3, h⟩ := aP h
   obtain ⟨g4, h⟩ := aP h
   obtain ⟨g5, h⟩ := aP h
   repeat (refine ⟨by first | with_reducible assumption | omega | (intros; first | with_reducible assumption | omega) | (simp only [go_sem] at *; first | with_reducible assumption | omega) | (intro _; exact ⟨rfl, by decide⟩) | (intro _; refine (?_ : _ = aD _); rfl) | (refine (?_ : _ = aD _); rfl) | exact ⟨rfl, rfl⟩ | (intro q0; (try have e0 := g0 zAF); (try have e1 := g1 zAF); (try have e2 := g2 zAF); (try have e3 := g3 zAF); (try have e4 := g4 zAF); (try have e5 := g5 zAF); first | assumption | omega) | decide, ?_⟩)
   exact zaF
attribute [go_sem] uY
def uZ (F : Md) (x_6 : qw) (s_0 : qc) (p_11 : qw) : Option (qw × (qw × wq)) :=
 some (x_6, p_11, s_0.2.2.2.1, ())
def aAO (F : Md) (s_0 : qc) (x25_12 : Int) (p_13 : qw) : Option ((Int × qw) ⊕ qw) :=
 if x25_12 < (s_0.2.2.1.length : Int) then ck (0 ≤ x25_12 ∧ x25_12 < (s_0.2.2.1.length : Int)) (ck (((p_13.length) + (1 : Nat)) * 16 ≤ 140737488355328) (ck (I64 (x25_12 + (1 : Int))) (some (.inl ((x25_12 + (1 : Int)), (p_13 ++ ([(s_0.2.2.1.getD (x25_12.toNat) ([], ([], [], ()), ())).1] : List qd))))))) else some (.inr p_13)
def vA (F : Md) (s_0 : qc) (x_6 : qw) : Option (qw × (qw × wq)) :=
 (eG F (fun d : Int × qw => aAO F s_0 d.1 d.2) ((0 : Int), ([] : List qd))).bind (fun e => uZ F x_6 s_0 e)
def aAP (F : Md) (s_0 : qc) (x12_17 : Int) (x_18 : qw) : Option ((Int × qw) ⊕ qw) :=
 if x12_17 < (s_0.2.1.length : Int) then ck (0 ≤ x12_17 ∧ x12_17 < (s_0.2.1.length : Int)) (ck (((x_18.length) + (1 : Nat)) * 16 ≤ 140737488355328) (ck (I64 (x12_17 + (1 : Int))) (some (.inl ((x12_17 + (1 : Int)), (x_18 ++ ([(s_0.2.1.getD (x12_17.toNat) ([], ([], [], ()), (Ex.mk 0 [] []), ())).1] : List qd))))))) else some (.inr x_18)
def bH (F : Md) (s_0 : qc) : Option (qw × (qw × wq)) :=
 (eG F (fun d : Int × qw => aAP F s_0 d.1 d.2) ((0 : Int), ([] : List qd))).bind (fun e => vA F s_0 e)
def aHk : PlR := ⟨[(0, .B [1, 2, 3]), (1, .A [1, 2, 3, 10, 11, 12]), (2, .A [1, 2, 3, 10, 11, 12, 13]), (3, .B [1, 2, 3, 6, 10, 11, 12]), (4, .B [1, 2, 3, 10, 11, 12]), (5, .A [1, 2, 3, 10, 11, 12]), (6, .A [1, 2, 3, 23, 24, 25]), (7, .A [1, 2, 3, 23, 24, 25, 26]), (8, .B [1, 2, 3, 8, 23, 24, 25]), (9, .B [1, 2, 3, 23, 24, 25]), (10, .A [1, 2, 3, 23, 24, 25]), (11, .A [2, 3, 4])], [(4, 9), (9, 14)]⟩
def aIs : Ty := .pair qa .unit
def zT (F : Md) : aI := mSpec aIs (.tup (.pair wh (.pair wh (.pair wh .unit)))) (fun x => bH F x.1)
abbrev aPS (F : Md) : List (FuncId × aI) := []
theorem aPT [Mx] (F : Md) : bJ Tryz.prog GL (aPS F) := .nil
attribute [go_sem] aIs aHk
theorem aPg [Mx] (F : Md) : FOK Tryz.prog GL 71 (zT F) := by
 refine bT (aT (aPT F)) mix Tryz.func71 rfl xAa xAc aHk fun w0 S x Θ hw h hF => ?_
 obtain ⟨(s_0 : qc), u⟩ := x
 simp only [bX, go_sem]
 replace h : sat (bH F s_0) _ := h
 unfold bH at h
 refine eP hF (D := qw) (fun d => sat (vA F s_0 d) Θ) [3] (fun d => [(1, .ptr 0 []), (2, .own 1)]) (fun d => [.inr (.box 5 (.val qa s_0)), .inr (.row 9 .str d)]) ?_ ?_
 ·simp only [go_sem]
  refine aCV 2 9 .str rfl (yaA ?_)
  refine cG hF (D := Int × qw) [3, 10, 11] (fun d => [(1, .ptr 0 []), (2, .own 1), (12, .val qe d.1)]) (fun d => [.inr (.box 5 (.val qa s_0)), .inr (.row 9 .str d.2)]) h rfl xAb ?_
  rintro ⟨x12_17, x_18⟩ A2 T2 hA2 hE2 h
  simp only [go_sem]
  replace h : sat (aAP F s_0 x12_17 x_18) _ := h
  unfold aAP at h
  refine fI h (fun hc h => ?_) fun hc h => ?_
  ·obtain ⟨g0, h⟩ := aP h
   repeat (refine ⟨by omega, ?_⟩)
   obtain ⟨g0, h⟩ := aP h
   repeat (refine ⟨by omega, ?_⟩)
   refine bD h fun g0 h => ?_
   replace h := hA2 _ (aE h)
   refine gT [0, 3] rfl rfl (yaA ?_)
   exact zaK
  ·replace h := yaF (hE2 _ (aE h))
   exact aZ (x_18) h rfl xAb
 ·rintro x_6 h
  simp only [go_sem]
  replace h : sat (vA F s_0 x_6) _ := h
  unfold vA at h
  refine eP hF (D := qw) (fun d => sat (uZ F x_6 s_0 d) Θ) [] (fun d => [(1, .ptr 0 []), (2, .own 1), (3, .own 2)]) (fun d => [.inr (.box 5 (.val qa s_0)), .inr (.row 9 .str x_6), .inr (.row 9 .str d)]) ?_ ?_
  ·simp only [go_sem]
   refine aCV 3 9 .str rfl (yaA ?_)
   refine cG hF (D := Int × qw) [23, 24] (fun d => [(1, .ptr 0 []), (2, .own 1), (3, .own 2), (25, .val qe d.1)]) (fun d => [.inr (.box 5 (.val qa s_0)), .inr (.row 9 .str x_6), .inr (.row 9 .str d.2)]) h rfl xAb ?_
   rintro ⟨x25_12, p_13⟩ A7 T7 hA7 hE7 h
   simp only [go_sem]
   replace h : sat (aAO F s_0 x25_12 p_13) _ := h
   unfold aAO at h
   refine fI h (fun hc h => ?_) fun hc h => ?_
   ·obtain ⟨g0, h⟩ := aP h
    repeat (refine ⟨by omega, ?_⟩)
    obtain ⟨g0, h⟩ := aP h
    repeat (refine ⟨by omega, ?_⟩)
    refine bD h fun g0 h => ?_
    replace h := hA7 _ (aE h)
    refine gT [0, 1, 4] rfl rfl (yaA ?_)
    exact zaK
   ·replace h := yaF (hE7 _ (aE h))
    exact aZ (p_13) h rfl xAb
  ·rintro p_11 h
   simp only [go_sem]
   replace h : sat (uZ F x_6 s_0 p_11) _ := h
   unfold uZ at h
   exact zaq
attribute [go_sem] zT
def uD (F : Md) (slices_0 : (List qw)) (x27_13 : Int) (newslice_14 : qw) : Option ((Int × qw) ⊕ qw) :=
 if x27_13 < (slices_0.length : Int) then ck (0 ≤ x27_13 ∧ x27_13 < (slices_0.length : Int)) (ck (((newslice_14.length) + (slices_0.getD (x27_13.toNat) ([] : List qd)).length) * 16 ≤ 140737488355328) (ck (I64 (x27_13 + (1 : Int))) (some (.inl ((x27_13 + (1 : Int)), (newslice_14 ++ (slices_0.getD (x27_13.toNat) ([] : List qd)))))))) else some (.inr newslice_14)
def pN (F : Md) (slices_0 : (List qw)) (size_6 : Int) : Option qw :=
 (qA F size_6).bind (fun r_8 => (eG F (fun d : Int × qw => uD F slices_0 d.1 d.2) ((0 : Int), r_8)).bind (fun e => some e))
def vN (F : Md) (slices_0 : (List qw)) (size_18 : Int) (x11_19 : Int) : Option (wj ⊕ (Int)) :=
 if x11_19 < (slices_0.length : Int) then ck (0 ≤ x11_19 ∧ x11_19 < (slices_0.length : Int)) (ck (I64 (size_18 + (((slices_0.getD (x11_19.toNat) ([] : List qd)).length : Nat) : Int))) (if (size_18 + (((slices_0.getD (x11_19.toNat) ([] : List qd)).length : Nat) : Int)) < (0 : Int) then none else ck (I64 (x11_19 + (1 : Int))) (some (.inl ((size_18 + (((slices_0.getD (x11_19.toNat) ([] : List qd)).length : Nat) : Int)), (x11_19 + (1 : Int))))))) else some (.inr size_18)
def cE (F : Md) (slices_0 : (List qw)) : Option qw :=
 (eG F (fun d : Int × Int => vN F slices_0 d.1 d.2) ((0 : Int), (0 : Int))).bind (fun e => pN F slices_0 e)
@[go_sem]def nY : Ty := .pair (.sl wh) .unit
def nD (F : Md) : aI := mSpec nY (.one wh) (fun x => cE F x.1)
abbrev zU (F : Md) : List (FuncId × aI) := []
theorem zV [Mx] (F : Md) : bJ Tryz.prog GL (zU F) := .nil
theorem aEQ [Mx] (F : Md) : FOK Tryz.prog GL 72 (nD F) := by
 refine sS (aT (zV F)) Tryz.func72 rfl xAa xAc fun w0 S x r hw h => ?_
 have hF : fT (fr Tryz.prog (EM (zU F)) S w0 Tryz.f72.ntmps) := ⟨aT (zV F), mix⟩
 obtain ⟨(slices_0 : (List qw)), u⟩ := x
 simp only [nY, Ty.wf, fF] at hw
 simp only [bX, nY]
 try dsimp only at h
 replace h : cE F slices_0 = some r := h
 unfold cE at h
 refine aB (aF hF [0] (yaA ?_))
 refine aA (aB (aF hF [0, 3] (yaA ?_)))
 refine aA (qW (D := Int) (fun d => pN F slices_0 d = some r) [0] (fun d => [(3, .val qe d)]) (fun d => []) ?_ ?_)
 ·refine aB (aF hF [0, 3, 9, 10, 11] (yaA ?_))
  refine aA (eB (pP (D := Int × Int) [0, 9, 10] (fun d => [(3, .val qe d.1), (11, .val qe d.2)]) (fun d => []) h ?_ ?_ ?_))
  ·first | rfl | (simp only [go_sem]; done)
  ·exact zAG
  rintro ⟨size_18, x11_19⟩ s3 h hs3
  simp only [go_sem]
  try dsimp only at h
  unfold vN at h
  refine aB (aF hF [0, 3, 9, 10, 11, 12] (yaA ?_))
  refine aA (aB (bG rfl (fun hc => ?_) (fun hc => ?_)))
  ·try simp only [go_sem] at hc
   have h := eC zAB h
   refine cI (aA (aB (eB (aB (aF hF [0, 3, 5, 9, 10, 11] (yaA ?_))))))
   obtain ⟨g0, h⟩ := aQ h
   repeat (refine ⟨zAA, ?_⟩)
   refine aA (aB (aF hF [0, 3, 9, 10, 11] (yaA ?_)))
   obtain ⟨g0, h⟩ := aQ h
   try simp only [I64, I32] at g0
   repeat (refine ⟨zAA, ?_⟩)
   refine aA (aB (aF hF [0, 3, 9, 10, 11, 20] (yaA ?_)))
   refine aA (bG rfl (fun hc => ?_) (fun hc => ?_))
   ·try simp only [go_sem] at hc
    have h := eC zAB h
    cases h
   ·try simp only [go_sem] at hc
    have h := eD zAB h
    refine cI (bB (aA (aF hF [0, 3, 9, 10, 11] (yaA ?_))))
    obtain ⟨g0, h⟩ := aQ h
    try simp only [I64, I32] at g0
    repeat (refine ⟨zAA, ?_⟩)
    obtain rfl := Option.some.inj h
    dsimp only [mY] at hs3
    refine bY (aZ ((size_18 + (((slices_0.getD (x11_19.toNat) ([] : List qd)).length : Nat) : Int)), (x11_19 + (1 : Int))) hs3 rfl ?_)
    ·exact zAG
  ·try simp only [go_sem] at hc
   have h := eD zAB h
   obtain rfl := Option.some.inj h
   dsimp only [mY] at hs3
   have h := yaF (hs3)
   refine sG (dY (dY (gL (bY (aZ (size_18) h rfl ?_)))))
   ·exact zAG
 ·rintro size_6 h
  try dsimp only at h
  simp only [go_sem]
  unfold pN at h
  obtain ⟨r_8, he1, h⟩ := bind_some h
  try dsimp only at h
  refine aB (aC hF (aG (l := [(112, ⟨jN F, [], (size_6, r_8)⟩)]) (.cons (aGx F) xAa (.nil))) [0, 6] [] (yaB ?_))
  refine aA (aB (aB (aF hF [6, 25, 26, 27] (yaA ?_))))
  refine aA (eB (pP (D := Int × qw) [25, 26] (fun d => [(6, .own 0), (27, .val qe d.1)]) (fun d => [.inr (.row 9 .str d.2)]) h ?_ ?_ ?_))
  ·first | rfl | (simp only [go_sem]; done)
  ·exact zAG
  rintro ⟨x27_13, newslice_14⟩ s11 h hs11
  simp only [go_sem]
  try dsimp only at h
  unfold uD at h
  refine aB (aF hF [6, 25, 26, 27, 28] (yaA ?_))
  refine aA (aB (bG rfl (fun hc => ?_) (fun hc => ?_)))
  ·try simp only [go_sem] at hc
   have h := eC zAB h
   refine cI (aA (aB (eB (aB (aF hF [6, 8, 25, 26, 27] (yaA ?_))))))
   obtain ⟨g0, h⟩ := aQ h
   repeat (refine ⟨zAA, ?_⟩)
   refine aA (aR hF [6, 25, 26, 27] (yaA ?_))
   obtain ⟨g0, h⟩ := aQ h
   repeat (refine ⟨zAA, ?_⟩)
   refine bB (aA (aF hF [6, 25, 26, 27] (yaA ?_)))
   obtain ⟨g0, h⟩ := aQ h
   try simp only [I64, I32] at g0
   repeat (refine ⟨zAA, ?_⟩)
   obtain rfl := Option.some.inj h
   dsimp only [mY] at hs11
   refine bY (gT [1] rfl rfl (yaC ?_))
   refine aZ ((x27_13 + (1 : Int)), (newslice_14 ++ (slices_0.getD (x27_13.toNat) ([] : List qd)))) hs11 rfl ?_
   ·exact zAG
  ·try simp only [go_sem] at hc
   have h := eD zAB h
   obtain rfl := Option.some.inj h
   dsimp only [mY] at hs11
   have h := yaF (hs11)
   refine sG (dY (dY (gL (aA (aB (aF hF [2] (yaA ?_)))))))
   exact za3
attribute [go_sem] nD
def aAQ (F : Md) (l_0 : qw) (x9_12 : Int) (seen_13 : (List (qd × Bool))) : Option ((Int × (List (qd × Bool))) ⊕ ((Unit) ⊕ Bool)) :=
 if x9_12 < (l_0.length : Int) then ck (0 ≤ x9_12 ∧ x9_12 < (l_0.length : Int)) ((eX F (l_0.getD (x9_12.toNat) ([] : List Nat))).bind (fun v_25 => if (¬ (v_25 = true)) ∨ (((aB7 .str seen_13 (l_0.getD (x9_12.toNat) ([] : List Nat))).getD false) = true) then some (.inr (.inr false)) else ck (I64 (x9_12 + (1 : Int))) (some (.inl ((x9_12 + (1 : Int)), (aB8 .str seen_13 (l_0.getD (x9_12.toNat) ([] : List Nat)) true)))))) else some (.inr (.inl ()))
def sY (F : Md) (l_0 : qw) : Option Bool :=
 (eG F (fun d : Int × (List (qd × Bool)) => aAQ F l_0 d.1 d.2) ((0 : Int), ([] : List (qd × Bool)))).bind (fun e => match e with | (.inl e) => some true | (.inr e) => some e)
def aHl : PlR := ⟨[(0, .A [0]), (1, .B [0, 3]), (2, .A [3, 7, 8, 9]), (3, .A [3, 7, 8, 9, 10]), (4, .A [3, 5, 7, 8, 9]), (5, .A [3, 5, 7, 8, 9, 20]), (6, .A [2]), (7, .B [3, 7, 8, 9]), (8, .A [3, 7, 8, 9]), (9, .A [2])], []⟩
def aIt : Ty := .pair wh .unit
def rE (F : Md) : aI := mSpec aIt (.one .bool) (fun x => sY F x.1)
abbrev aIu (F : Md) : List (FuncId × aI) := [(78, (oI F))]
theorem aPU [Mx] (F : Md) : bJ Tryz.prog GL (aIu F) := .cons (aEj F) xAa (.nil)
attribute [go_sem] aIt aHl
theorem aHm [Mx] (F : Md) : FOK Tryz.prog GL 37 (rE F) := by
 refine bT (aT (aPU F)) mix Tryz.func37 rfl xAa xAc aHl fun w0 S x Θ hw h hF => ?_
 obtain ⟨(l_0 : qw), u⟩ := x
 simp only [bX, go_sem]
 replace h : sat (sY F l_0) _ := h
 unfold sY at h
 refine cG hF (D := Int × (List (qd × Bool))) [7, 8] (fun d => [(3, .mp 0), (9, .val qe d.1)]) (fun d => [.inr (.map .str .bool d.2)]) h rfl xAb ?_
 rintro ⟨x9_12, seen_13⟩ A3 T3 hA3 hE3 h
 simp only [go_sem]
 replace h : sat (aAQ F l_0 x9_12 seen_13) _ := h
 unfold aAQ at h
 refine fI h (fun hc h => ?_) fun hc h => ?_
 ·refine bD h fun g0 h => ?_
  obtain ⟨v_25, hv, h⟩ := aN h
  try simp only [hv, go_sem]
  refine ⟨fun hc => ?_, fun hc => ?_⟩
  ·replace h := jH zAB h
   replace h := yaF (hE3 _ (aE h))
   exact zaF
  ·replace h := jI zAB h
   refine bD h fun g0 h => ?_
   replace h := hA3 _ (aE h)
   exact zaK
 ·replace h := yaF (hE3 _ (aE h))
  exact zaF
attribute [go_sem] rE
def jT (F : Md) (s_0 : qd) (prefix_1 : qd) : Option Bool :=
 ck (((prefix_1.length : Int) ≤ (s_0.length : Int)) → (0 ≤ (prefix_1.length : Int) ∧ (prefix_1.length : Int) ≤ (s_0.length : Int))) (some ((decide ((prefix_1.length : Int) ≤ (s_0.length : Int))) && (decide ((List.take (prefix_1.length) s_0) = prefix_1))))
def vO : PlR := ⟨[(0, .A [0, 1]), (1, .A [4])], []⟩
def wQ : Ty := .pair .str wg
def gD (F : Md) : aI := mSpec wQ (.one .bool) (fun x => jT F x.1 x.2.1)
abbrev aEp (F : Md) : List (FuncId × aI) := []
theorem aEq [Mx] (F : Md) : bJ Tryz.prog GL (aEp F) := .nil
attribute [go_sem] wQ vO
theorem vP [Mx] (F : Md) : FOK Tryz.prog GL 188 (gD F) := by
 refine bT (aT (aEq F)) mix Tryz.func188 rfl xAa xAc vO fun w0 S x Θ hw h hF => ?_
 obtain ⟨(s_0 : qd), (prefix_1 : qd), u⟩ := x
 simp only [bX, go_sem]
 replace h : sat (jT F s_0 prefix_1) _ := h
 unfold jT at h
 refine bD h fun g0 h => ?_
 exact zaD
attribute [go_sem] gD
def mE (F : Md) (s_0 : qd) (prefix_1 : qd) : Option (qd × wm) :=
 (jT F s_0 prefix_1).bind (fun v_8 => if ¬ (v_8 = true) then some (s_0, false, ()) else ck (0 ≤ (prefix_1.length : Int) ∧ (prefix_1.length : Int) ≤ (s_0.length : Int)) (some ((List.drop (prefix_1.length) s_0), true, ())))
def vQ : PlR := ⟨[(0, .A [0, 1]), (1, .A [0, 1, 9]), (2, .A [4, 5]), (3, .A [4, 5])], []⟩
def wR : Ty := .pair .str wg
def lO (F : Md) : aI := mSpec wR (.tup (.pair .str ws)) (fun x => mE F x.1 x.2.1)
abbrev wS (F : Md) : List (FuncId × aI) := [(188, (gD F))]
theorem aEr [Mx] (F : Md) : bJ Tryz.prog GL (wS F) := .cons (vP F) xAa (.nil)
attribute [go_sem] wR vQ
theorem aDu [Mx] (F : Md) : FOK Tryz.prog GL 180 (lO F) := by
 refine bT (aT (aEr F)) mix Tryz.func180 rfl xAa xAc vQ fun w0 S x Θ hw h hF => ?_
 obtain ⟨(s_0 : qd), (prefix_1 : qd), u⟩ := x
 simp only [bX, go_sem]
 replace h : sat (mE F s_0 prefix_1) _ := h
 unfold mE at h
 obtain ⟨v_8, hv, h⟩ := aN h
 try simp only [hv, go_sem]
 refine aEc h (fun hc h => ?_) fun hc h => ?_
 ·exact aK hF [.tmp 4, .tmp 5] rfl rfl rfl (aE h) xAd
 ·refine bD h fun g0 h => ?_
  exact aK hF [.tmp 4, .tmp 5] rfl rfl rfl (aE h) xAd
attribute [go_sem] lO
def qQ (F : Md) (s_0 : qd) (prefix_1 : qd) : Option (qd × wm) :=
 (mE F s_0 prefix_1).bind (fun v_6 => some (v_6.1, v_6.2.1, ()))
def aBo : PlR := ⟨[(0, .A [0, 1]), (1, .A [4, 5])], []⟩
def aBX : Ty := .pair .str wg
def qB (F : Md) : aI := mSpec aBX (.tup (.pair .str ws)) (fun x => qQ F x.1 x.2.1)
abbrev aBY (F : Md) : List (FuncId × aI) := [(180, (lO F))]
theorem aH0 [Mx] (F : Md) : bJ Tryz.prog GL (aBY F) := .cons (aDu F) xAa (.nil)
attribute [go_sem] aBX aBo
theorem aHn [Mx] (F : Md) : FOK Tryz.prog GL 154 (qB F) := by
 refine bT (aT (aH0 F)) mix Tryz.func154 rfl xAa xAc aBo fun w0 S x Θ hw h hF => ?_
 obtain ⟨(s_0 : qd), (prefix_1 : qd), u⟩ := x
 simp only [bX, go_sem]
 replace h : sat (qQ F s_0 prefix_1) _ := h
 unfold qQ at h
 obtain ⟨v_6, hv, h⟩ := aN h
 try simp only [hv, go_sem]
 exact aK hF [.tmp 4, .tmp 5] rfl rfl rfl (aE h) xAd
attribute [go_sem] qB
def wT (F : Md) (s_0 : qd) : Option (Bool × (qd × (qd × wm))) :=
 (qQ F s_0 (aU ⟨#[45]⟩)).bind (fun v_5 => (aDN F v_5.1).bind (fun v_9 => some ((v_5.2.1 && (decide ((0 : Int) < (v_9.1.length : Int)))), v_9.1, v_9.2.1, v_9.2.2.1, ())))
def aHo : PlR := ⟨[(0, .A [0]), (1, .A [6, 7]), (2, .A [7, 8, 9, 10]), (3, .A [2, 3, 4, 5])], []⟩
def aIv : Ty := .pair .str .unit
def zW (F : Md) : aI := mSpec aIv (.tup (.pair .bool (.pair we (.pair we ws)))) (fun x => wT F x.1)
abbrev aEs (F : Md) : List (FuncId × aI) := [(154, (qB F)), (155, (aCs F))]
theorem aPV [Mx] (F : Md) : bJ Tryz.prog GL (aEs F) := .cons (aHn F) xAa (.cons (aRj F) xAa (.nil))
attribute [go_sem] aIv aHo
theorem aPh [Mx] (F : Md) : FOK Tryz.prog GL 113 (zW F) := by
 refine bT (aT (aPV F)) mix Tryz.func113 rfl xAa xAc aHo fun w0 S x Θ hw h hF => ?_
 obtain ⟨(s_0 : qd), u⟩ := x
 simp only [bX, go_sem]
 replace h : sat (wT F s_0) _ := h
 unfold wT at h
 obtain ⟨v_5, hv, h⟩ := aN h
 try simp only [hv, go_sem]
 obtain ⟨v_9, hv, h⟩ := aN h
 try simp only [hv, go_sem]
 exact aK hF [.tmp 2, .tmp 3, .tmp 4, .tmp 5] rfl rfl rfl (aE h) xAd
attribute [go_sem] zW
def qC (F : Md) (r_0 : qv) (hi_2 : qd) : Option (Bool) :=
 (wT F r_0.1).bind (fun v_6 => (wT F hi_2).bind (fun v_10 => (kH F v_6.2.1 v_10.2.2.1).bind (fun v_20 => (kH F v_10.2.1 v_6.2.2.1).bind (fun v_21 => (tW F v_20 v_21).bind (fun v_22 => if (¬ (v_6.2.2.2.1 = true)) ∨ (¬ (v_10.2.2.2.1 = true)) then some false else if (v_6.1 != v_10.1) = true then some v_6.1 else if v_6.1 = true then some (decide ((0 : Int) ≤ v_22)) else some (decide (v_22 ≤ (0 : Int))))))))
def mQ (F : Md) (r_0 : qv) : Option Bool :=
 if r_0.2.1 = (aU ⟨#[]⟩) then qC F r_0 r_0.1 else qC F r_0 r_0.2.1
def aGh : PlR := ⟨[(0, .B [1]), (1, .A [1, 3]), (2, .A [1, 3, 16]), (3, .A [1, 3]), (4, .A [3, 4, 5, 6, 7]), (5, .A [4, 5, 6, 7, 8, 9, 10, 11]), (6, .A [4, 7, 8, 11, 12]), (7, .A [2]), (8, .A [4, 8, 12, 43]), (9, .A [2]), (10, .A [4, 12, 50]), (11, .A [2]), (12, .A [12, 55]), (13, .A [2])], [(5, 7)]⟩
def aHp : Ty := .pair qg .unit
def xH (F : Md) : aI := mSpec aHp (.one .bool) (fun x => mQ F x.1)
abbrev zX (F : Md) : List (FuncId × aI) := [(104, (gW F)), (113, (zW F)), (114, (pW F))]
theorem aPi [Mx] (F : Md) : bJ Tryz.prog GL (zX F) := .cons (uL F) xAa (.cons (aPh F) xAa (.cons (aFA F) xAa (.nil)))
attribute [go_sem] aHp aGh
theorem aNq [Mx] (F : Md) : FOK Tryz.prog GL 74 (xH F) := by
 refine bT (aT (aPi F)) mix Tryz.func74 rfl xAa xAc aGh fun w0 S x Θ hw h hF => ?_
 obtain ⟨(r_0 : qv), u⟩ := x
 simp only [bX, go_sem]
 replace h : sat (mQ F r_0) _ := h
 unfold mQ at h
 refine eP hF (D := qd) (fun d => sat (qC F r_0 d) Θ) [] (fun d => [(1, .ptr 0 []), (3, .val .str d)]) (fun d => [.inr (.box 2 (.val qg r_0))]) ?_ ?_
 ·simp only [go_sem]
  refine fC h (fun hc h => ?_) fun hc h => ?_
  ·exact aZ r_0.1 h rfl xAb
  ·exact aZ r_0.2.1 h rfl xAb
 ·rintro hi_2 h
  simp only [go_sem]
  replace h : sat (qC F r_0 hi_2) _ := h
  unfold qC at h
  obtain ⟨v_6, hv, h⟩ := aN h
  try simp only [hv, go_sem]
  obtain ⟨v_10, hv, h⟩ := aN h
  try simp only [hv, go_sem]
  obtain ⟨v_20, hv, h⟩ := aN h
  try simp only [hv, go_sem]
  obtain ⟨v_21, hv, h⟩ := aN h
  try simp only [hv, go_sem]
  obtain ⟨v_22, hv, h⟩ := aN h
  try simp only [hv, go_sem]
  refine ⟨fun hc => ?_, fun hc => ?_⟩
  ·replace h := jH zAB h
   exact zaF
  ·replace h := jI zAB h
   refine aG3 h (fun hc h => ?_) fun hc h => ?_
   ·exact aK hF [.tmp 2] rfl rfl rfl (aE h) xAd
   ·refine aG3 h (fun hc h => ?_) fun hc h => ?_
    ·exact aK hF [.tmp 2] rfl rfl rfl (aE h) xAd
    ·exact aK hF [.tmp 2] rfl rfl rfl (aE h) xAd
attribute [go_sem] xH
end
end Nu
end Go.Proofs
