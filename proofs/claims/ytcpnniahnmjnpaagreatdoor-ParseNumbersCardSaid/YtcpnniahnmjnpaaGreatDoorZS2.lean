import Derived.Test.YtcpnniahnmjnpaaGreatDoorZS1
import Derived.Test.YtcpnniahnmjnpaaGreatDoorZL6
import Derived.Laws.Externs
import Derived.Lib.Bytealg
import Derived.Shelf.Strings.Search3
import Derived.Shelf.Strings.Cut
import Derived.Shelf.Strings.Split
import Derived.Lib.Builder
import Derived.Lib.AppendZeros
import Derived.Lib.SliceRun
import Derived.WalkKit
import Derived.Lib.Walk
import Derived.Shelf.RegionOpenPlain
set_option linter.unusedVariables false
set_option linter.unusedSimpArgs false
namespace Go.Proofs
open Go.Vc
set_option maxRecDepth 20000
namespace Nu
noncomputable section
set_option maxHeartbeats 4000000
attribute [-go_sem] Ex.kind Ex.text Ex.l
@[go_sem] theorem bAR (k : Int) (t : List Nat) (l : List Ex) : Ex.l (.mk k t l) = l := rfl
@[go_sem] theorem bAS (k : Int) (t : List Nat) (l : List Ex) : Ex.kind (.mk k t l) = k := rfl
@[go_sem] theorem bAT (k : Int) (t : List Nat) (l : List Ex) : Ex.text (.mk k t l) = t := rfl
def mG (F : Md) (g : Ex → Int → Int → Int → Option wk) (e_0 : Ex) (at_1 : Int) (x23_10 : Int) (x_11 : Int) (x_12 : Int) : Option ((Int × Int × Int) ⊕ wk) :=
 if x23_10 < (((e_0.l).length : Nat) : Int) then ck (0 ≤ x23_10 ∧ x23_10 < (((e_0.l).length : Nat) : Int)) (ck (I64 (at_1 + (1 : Int))) ((g ((e_0.l).getD (x23_10.toNat) (Ex.mk 0 [] [])) (at_1 + (1 : Int)) x_11 x_12).bind (fun r_20 => ck (I64 (x23_10 + (1 : Int))) (some (.inl ((x23_10 + (1 : Int)), r_20.1, r_20.2)))))) else some (.inr (x_11, x_12))
def pQ (F : Md) (g : Ex → Int → Int → Int → Option wk) (e_0 : Ex) (at_1 : Int) (o0_5 : Int) (o1_6 : Int) : Option wk :=
 ck (I64 (o0_5 + (1 : Int))) (if ((60 : Int) < (o0_5 + (1 : Int))) ∨ ((30 : Int) < at_1) then some ((o0_5 + (1 : Int)), (max o1_6 at_1)) else (eJ F (fun d : Int × Int × Int => mG F g e_0 at_1 d.1 d.2.1 d.2.2) ((0 : Int), (o0_5 + (1 : Int)), (max o1_6 at_1))).bind (fun e => some (e.1, e.2)))
def vN (g : Ex → Int → Int → Int → Option wk) : gH where
 D := Ex × Int × Int × Int × wk
 av := fun d => [.val .expr d.1, .val qe d.2.1, .ptr 0 [], .ptr 1 [], .ptr 2 []]
 hp := fun d => [.box 1 (.val qe d.2.2.1), .box 1 (.val qe d.2.2.2.1), .box 1 (.fn 85 [] [0, 1, 2])]
 m := 3
 pre := fun d => g d.1 d.2.1 d.2.2.1 d.2.2.2.1 = some d.2.2.2.2
 out := fun d => (fun r : wk => .ret (.tup []) [.box 1 (.val qe r.1), .box 1 (.val qe r.2), .box 1 (.fn 85 [] [0, 1, 2])]) d.2.2.2.2
attribute [go_sem] vN
def aE8 (F : Md) (g : Ex → Int → Int → Int → Option wk) : gH where
 D := Ex × Int × Int × Int × wk
 av := fun d => [.val .expr d.1, .val qe d.2.1, .ptr 0 [], .ptr 1 [], .ptr 2 []]
 hp := fun d => [.box 1 (.val qe d.2.2.1), .box 1 (.val qe d.2.2.2.1), .box 1 (.fn 85 [] [0, 1, 2])]
 m := 3
 pre := fun d => pQ F g d.1 d.2.1 d.2.2.1 d.2.2.2.1 = some d.2.2.2.2
 out := fun d => (fun r : wk => .ret (.tup []) [.box 1 (.val qe r.1), .box 1 (.val qe r.2), .box 1 (.fn 85 [] [0, 1, 2])]) d.2.2.2.2
abbrev aHJ (F : Md) (g : Ex → Int → Int → Int → Option wk) : List (FuncId × aI) := []
theorem aHK [Mx] (F : Md) (g : Ex → Int → Int → Int → Option wk) (hg : GOK Tryz.prog GL 85 (vN g)) : bH Tryz.prog GL (aHJ F g) := .nil
theorem aMk [Mx] (F : Md) (g : Ex → Int → Int → Int → Option wk) (hg : GOK Tryz.prog GL 85 (vN g)) : GOK Tryz.prog GL 85 (aE8 F g) := by
 refine eO (aU (aHK F g hg)) Tryz.func85 rfl xAa (fun _ => Nat.le_of_ble_eq_true rfl) fun c0 w0 d hw1 hw2 h hn => ?_
 have hF : gD ⟨Tryz.prog, EM (aHJ F g), GM (aE8 F g) c0 d, w0, Tryz.f85.ntmps, []⟩ := ⟨aU (aHK F g hg), mix⟩
 obtain ⟨(e_0 : Ex), (at_1 : Int), (o0_5 : Int), (o1_6 : Int), r⟩ := d
 replace h : pQ F g e_0 at_1 o0_5 o1_6 = some r := h
 have hw1 : AV.wfL [.val .expr e_0, .val qe at_1, .ptr 0 [], .ptr 1 [], .ptr 2 []] := hw1
 simp only [AV.wfL, AV.wfV, Ty.wf, fG] at hw1
 show Tri _ _ _ [(0, .val .expr e_0), (1, .val qe at_1), (2, .ptr 0 []), (3, .ptr 1 []), (4, .ptr 2 [])] [.box 1 (.val qe o0_5), .box 1 (.val qe o1_6), .box 1 (.fn 85 [] [0, 1, 2])]
 unfold pQ at h
 refine aB (aR hF [1, 2, 3, 4, 5] (yaA ?_))
 refine aA (aB (aR hF [1, 2, 3, 4, 5] (yaA ?_)))
 obtain ⟨g0, h⟩ := aM h
 try simp only [I64, I32] at g0
 repeat (refine ⟨zAA, ?_⟩)
 refine aA (aB (aR hF [1, 2, 4, 5] (yaA ?_)))
 refine aA (aB (aB (aF hF [1, 4, 5, 19] (yaA ?_))))
 refine aA (bC rfl (fun hc => ?_) (fun hc => ?_))
 ·try simp only [go_sem] at hc
  have h := dP zAB h
  obtain rfl := Option.some.inj h
  refine cA (cE (iB [0, 1, 2] rfl rfl (yaC ?_)))
  exact zak
 ·try simp only [go_sem] at hc
  have h := dQ zAB h
  refine bY (aA (aB (aF hF [1, 4, 21, 22, 23] (yaA ?_))))
  refine aA (dH (aKj [0, 1, 2] rfl rfl (yaC ?_)))
  refine oC (D := Int × Int × Int) [1, 21, 22] (fun d => [(4, .ptr 2 []), (23, .val qe d.1)]) (fun d => [.inr (.box 1 (.val qe d.2.1)), .inr (.box 1 (.val qe d.2.2)), .inr (.box 1 (.fn 85 [] [0, 1, 2]))]) h ?_ ?_ ?_
  ·first | rfl | (simp only [go_sem]; done)
  ·exact zAG
  rintro ⟨x23_10, x_11, x_12⟩ s5 h hs5
  simp only [go_sem]
  try dsimp only at h
  unfold mG at h
  refine aB (aF hF [1, 4, 21, 22, 23, 24] (yaA ?_))
  refine aA (aB (bC rfl (fun hc => ?_) (fun hc => ?_)))
  ·try simp only [go_sem] at hc
   have h := dP zAB h
   refine bY (aA (aB (dH (aB (aR hF [1, 4, 8, 21, 22, 23] (yaA ?_))))))
   obtain ⟨g0, h⟩ := aM h
   repeat (refine ⟨zAA, ?_⟩)
   obtain ⟨g0, h⟩ := aM h
   try simp only [I64, I32] at g0
   obtain ⟨r_20, he1, h⟩ := bind_some h
   try dsimp only at h
   refine aA (aC hF (aG (l := [(85, ⟨(vN g), [0, 1, 2], (((e_0.l).getD (x23_10.toNat) (Ex.mk 0 [] [])), (at_1 + (1 : Int)), x_11, x_12, r_20)⟩)]) (.cons hg xAa (.nil))) [1, 4, 21, 22, 23] [] (yaE ?_))
   refine aZ (aA (aF hF [1, 4, 21, 22, 23] (yaA ?_)))
   obtain ⟨g0, h⟩ := aM h
   try simp only [I64, I32] at g0
   repeat (refine ⟨zAA, ?_⟩)
   obtain rfl := Option.some.inj h
   dsimp only [lR] at hs5
   refine bO (iB [0, 1, 2] rfl rfl (yaC ?_))
   refine aY ((x23_10 + (1 : Int)), r_20.1, r_20.2) hs5 rfl ?_
   ·exact zAG
  ·try simp only [go_sem] at hc
   have h := dQ zAB h
   obtain rfl := Option.some.inj h
   dsimp only [lR] at hs5
   have h := yaF (hs5)
   obtain rfl := Option.some.inj h
   refine pV (cV (cV (fH (gQ (eH hF [] rfl rfl rfl rfl rfl rfl ?_)))))
   exact zaB
def nN (F : Md) : Nat → Ex → Int → Int → Int → Option wk
 | 0 => fun _ _ _ _ => none
 | n + 1 => pQ F (nN F n)
def aB2 (F : Md) (n : Nat) : gH where
 D := Ex × Int × Int × Int × wk
 av := fun d => [.val .expr d.1, .val qe d.2.1, .ptr 0 [], .ptr 1 [], .ptr 2 []]
 hp := fun d => [.box 1 (.val qe d.2.2.1), .box 1 (.val qe d.2.2.2.1), .box 1 (.fn 85 [] [0, 1, 2])]
 m := 3
 pre := fun d => nN F n d.1 d.2.1 d.2.2.1 d.2.2.2.1 = some d.2.2.2.2
 out := fun d => (fun r : wk => .ret (.tup []) [.box 1 (.val qe r.1), .box 1 (.val qe r.2), .box 1 (.fn 85 [] [0, 1, 2])]) d.2.2.2.2
theorem aGD [Mx] (F : Md) : ∀ n, GOK Tryz.prog GL 85 (aB2 F n)
 | 0 => fun _ _ _ _ hp _ => absurd (show none = some _ from hp) (by simp)
 | n + 1 => aMk F _ (aGD F n)
attribute [go_sem] aB2
def aAc (F : Md) (e_0 : Ex) : Option (Int × qp) :=
 (nN F 64 e_0 (1 : Int) (0 : Int) (0 : Int)).bind (fun r_3 => some (r_3.1, r_3.2, ()))
@[go_sem]def aCP : Ty := .pair .expr .unit
def aBq (F : Md) : aI := mSpec aCP (.tup qn) (fun x => aAc F x.1)
abbrev aKU (F : Md) : List (FuncId × aI) := []
theorem aKV [Mx] (F : Md) : bH Tryz.prog GL (aKU F) := .nil
theorem aQG [Mx] (F : Md) : FOK Tryz.prog GL 42 (aBq F) := by
 refine rY (aU (aKV F)) Tryz.func42 rfl xAa xAc fun w0 S x r hw h => ?_
 have hF : gD (fr Tryz.prog (EM (aKU F)) S w0 Tryz.f42.ntmps) := ⟨aU (aKV F), mix⟩
 obtain ⟨(e_0 : Ex), u⟩ := x
 simp only [aCP, Ty.wf, fG] at hw
 simp only [bZ, aCP]
 try dsimp only at h
 replace h : aAc F e_0 = some r := h
 unfold aAc at h
 refine aB (aR hF [1, 2, 3] (yaA ?_))
 refine aA (aB (aR hF [1, 2, 3, 4] (yaA ?_)))
 refine aA (aB (aR hF [1, 2, 3, 4] (yaA ?_)))
 obtain ⟨r_3, he1, h⟩ := bind_some h
 try dsimp only at h
 refine aA (aB (aC hF (aG (l := [(85, ⟨(aB2 F 64), [1, 2, 3], (e_0, (1 : Int), (0 : Int), (0 : Int), r_3)⟩)]) (.cons (aGD F 64) xAa (.nil))) [2, 3] [] (yaE ?_)))
 refine aA (aB (aDU hF [2, 3] [(2, .ptr 1 []), (3, .ptr 2 [])] [.box 3 (.val .expr e_0), .box 1 (.val qe r_3.1), .box 1 (.val qe r_3.2), .box 1 (.fn 85 [] [1, 2, 3])] xAc ?_ ?_))
 ·simp only [go_sem]
  unfold anyS
  intro i hi
  have hi : i = 0 ∨ i = 1 := by revert hi; revert i; decide
  rcases hi with rfl | rfl
  ·simp only [go_sem]
   repeat (refine ⟨zAA, ?_⟩)
   unfold anyS
   intro i hi
   have hi : i = 1 ∨ i = 2 := by revert hi; revert i; decide
   rcases hi with rfl | rfl
   ·simp only [go_sem]
    repeat (refine ⟨zAA, ?_⟩)
    unfold anyS
    intro i hi
    have hi : i = 2 := by revert hi; revert i; decide
    exact zaU
   ·simp only [go_sem]
    repeat (refine ⟨zAA, ?_⟩)
    unfold anyS
    intro i hi
    have hi : i = 1 := by revert hi; revert i; decide
    exact zaU
  ·simp only [go_sem]
   repeat (refine ⟨zAA, ?_⟩)
   unfold anyS
   intro i hi
   have hi : i = 0 := by revert hi; revert i; decide
   subst hi
   simp only [go_sem]
   repeat (refine ⟨zAA, ?_⟩)
   unfold anyS
   intro i hi
   have hi : i = 2 := by revert hi; revert i; decide
   exact zaU
 obtain rfl := Option.some.inj h
 refine aA (cA (gX hF [.cell 2 3, .cell 3 3] rfl rfl rfl ?_))
 exact zAH
attribute [go_sem] aBq
def pM (F : Md) (e_0 : Ex) : Option Bool :=
 (aAc F e_0).bind (fun v_5 => some ((decide (v_5.1 ≤ (60 : Int))) && (decide (v_5.2.1 ≤ (30 : Int)))))
def aKW : PlR := ⟨[(0, .B [1]), (1, .A [3, 4]), (2, .A [2])], []⟩
def aNw : Ty := .pair .expr .unit
def vO (F : Md) : aI := mSpec aNw (.one .bool) (fun x => pM F x.1)
abbrev aNx (F : Md) : List (FuncId × aI) := [(42, (aBq F))]
theorem aTq [Mx] (F : Md) : bH Tryz.prog GL (aNx F) := .cons (aQG F) xAa (.nil)
attribute [go_sem] aNw aKW
theorem aKX [Mx] (F : Md) : FOK Tryz.prog GL 21 (vO F) := by
 refine bT (aU (aTq F)) mix Tryz.func21 rfl xAa xAc aKW fun w0 S x Θ hw h hF => ?_
 obtain ⟨(e_0 : Ex), u⟩ := x
 simp only [bZ, go_sem]
 replace h : sat (pM F e_0) _ := h
 unfold pM at h
 obtain ⟨v_5, hv, h⟩ := aP h
 try simp only [hv, go_sem]
 exact zaF
attribute [go_sem] vO
def qU (F : Md) (x12_7 : Bool) : Option (Int) :=
 if x12_7 = true then some (1 : Int) else some (-1 : Int)
def qV (F : Md) (kind_0 : Int) (x7_6 : Bool) : Option (Int) :=
 if x7_6 = true then some (2 : Int) else if kind_0 = (10 : Int) then qU F (decide (kind_0 = (10 : Int))) else if kind_0 = (11 : Int) then qU F (decide (kind_0 = (11 : Int))) else if kind_0 = (12 : Int) then qU F (decide (kind_0 = (12 : Int))) else qU F (decide (kind_0 = (13 : Int)))
def xX (F : Md) (kind_0 : Int) (x4_5 : Bool) : Option (Int) :=
 if x4_5 = true then some (0 : Int) else if kind_0 = (6 : Int) then qV F kind_0 (decide (kind_0 = (6 : Int))) else if kind_0 = (7 : Int) then qV F kind_0 (decide (kind_0 = (7 : Int))) else if kind_0 = (8 : Int) then qV F kind_0 (decide (kind_0 = (8 : Int))) else qV F kind_0 (decide (kind_0 = (9 : Int)))
def aAd (F : Md) (kind_0 : Int) : Option Int :=
 if kind_0 = (1 : Int) then xX F kind_0 (decide (kind_0 = (1 : Int))) else xX F kind_0 (decide (kind_0 = (2 : Int)))
@[go_sem]def aCQ : Ty := .pair qe .unit
def aBr (F : Md) : aI := mSpec aCQ (.one qe) (fun x => aAd F x.1)
abbrev aKY (F : Md) : List (FuncId × aI) := []
theorem aKZ [Mx] (F : Md) : bH Tryz.prog GL (aKY F) := .nil
theorem aQH [Mx] (F : Md) : FOK Tryz.prog GL 157 (aBr F) := by
 refine rY (aU (aKZ F)) Tryz.func157 rfl xAa xAc fun w0 S x r hw h => ?_
 have hF : gD (fr Tryz.prog (EM (aKY F)) S w0 Tryz.f157.ntmps) := ⟨aU (aKZ F), mix⟩
 obtain ⟨(kind_0 : Int), u⟩ := x
 simp only [aCQ, Ty.wf, fG] at hw
 simp only [bZ, aCQ]
 try dsimp only at h
 replace h : aAd F kind_0 = some r := h
 unfold aAd at h
 refine aB (aF hF [0] (yaA ?_))
 refine aA (aB (aB (aF hF [3] (yaA ?_))))
 refine aA (dH (oB (D := Bool) (fun d => xX F kind_0 d = some r) [3] (fun d => [(4, .val .bool d)]) (fun d => []) ?_ ?_))
 ·refine aB (aF hF [3, 4] (yaA ?_))
  refine aA (bC rfl (fun hc => ?_) (fun hc => ?_))
  ·try simp only [go_sem] at hc
   have h := dP zAB h
   refine bY (bO (aY (decide (kind_0 = (1 : Int))) h rfl ?_))
   ·exact zAG
  ·try simp only [go_sem] at hc
   have h := dQ zAB h
   refine aF hF [3, 4] (yaA ?_)
   refine bO (aY (decide (kind_0 = (2 : Int))) h rfl ?_)
   ·exact zAG
 ·rintro x4_5 h
  try dsimp only at h
  simp only [go_sem]
  unfold xX at h
  refine bC rfl (fun hc => ?_) (fun hc => ?_)
  ·try simp only [go_sem] at hc
   exact zao
  ·try simp only [go_sem] at hc
   have h := dQ zAB h
   refine oB (D := Bool) (fun d => qV F kind_0 d = some r) [3] (fun d => [(7, .val .bool d)]) (fun d => []) ?_ ?_
   ·refine aB (aF hF [3, 7] (yaA ?_))
    refine aA (bC rfl (fun hc => ?_) (fun hc => ?_))
    ·try simp only [go_sem] at hc
     have h := dP zAB h
     refine bY (bO (aY (decide (kind_0 = (6 : Int))) h rfl ?_))
     ·exact zAG
    ·try simp only [go_sem] at hc
     have h := dQ zAB h
     refine aB (aF hF [3, 7] (yaA ?_))
     refine aA (bC rfl (fun hc => ?_) (fun hc => ?_))
     ·try simp only [go_sem] at hc
      have h := dP zAB h
      refine bY (bO (aY (decide (kind_0 = (7 : Int))) h rfl ?_))
      ·exact zAG
     ·try simp only [go_sem] at hc
      have h := dQ zAB h
      refine aB (aF hF [3, 7] (yaA ?_))
      refine aA (bC rfl (fun hc => ?_) (fun hc => ?_))
      ·try simp only [go_sem] at hc
       have h := dP zAB h
       refine bY (bO (aY (decide (kind_0 = (8 : Int))) h rfl ?_))
       ·exact zAG
      ·try simp only [go_sem] at hc
       have h := dQ zAB h
       refine aF hF [3, 7] (yaA ?_)
       refine bO (aY (decide (kind_0 = (9 : Int))) h rfl ?_)
       ·exact zAG
   ·rintro x7_6 h
    try dsimp only at h
    simp only [go_sem]
    unfold qV at h
    refine bC rfl (fun hc => ?_) (fun hc => ?_)
    ·try simp only [go_sem] at hc
     exact zao
    ·try simp only [go_sem] at hc
     have h := dQ zAB h
     refine oB (D := Bool) (fun d => qU F d = some r) [] (fun d => [(12, .val .bool d)]) (fun d => []) ?_ ?_
     ·refine aB (aF hF [3, 12] (yaA ?_))
      refine aA (bC rfl (fun hc => ?_) (fun hc => ?_))
      ·try simp only [go_sem] at hc
       have h := dP zAB h
       refine bY (bO (aY (decide (kind_0 = (10 : Int))) h rfl ?_))
       ·exact zAG
      ·try simp only [go_sem] at hc
       have h := dQ zAB h
       refine aB (aF hF [3, 12] (yaA ?_))
       refine aA (bC rfl (fun hc => ?_) (fun hc => ?_))
       ·try simp only [go_sem] at hc
        have h := dP zAB h
        refine bY (bO (aY (decide (kind_0 = (11 : Int))) h rfl ?_))
        ·exact zAG
       ·try simp only [go_sem] at hc
        have h := dQ zAB h
        refine aB (aF hF [3, 12] (yaA ?_))
        refine aA (bC rfl (fun hc => ?_) (fun hc => ?_))
        ·try simp only [go_sem] at hc
         have h := dP zAB h
         refine bY (bO (aY (decide (kind_0 = (12 : Int))) h rfl ?_))
         ·exact zAG
        ·try simp only [go_sem] at hc
         have h := dQ zAB h
         refine aF hF [12] (yaA ?_)
         refine bO (aY (decide (kind_0 = (13 : Int))) h rfl ?_)
         ·exact zAG
     ·rintro x12_7 h
      try dsimp only at h
      simp only [go_sem]
      unfold qU at h
      refine bC rfl (fun hc => ?_) (fun hc => ?_)
      ·try simp only [go_sem] at hc
       exact zao
      ·try simp only [go_sem] at hc
       have h := dQ zAB h
       refine bY (aZ (aA (aB (aF hF [2] (yaA ?_)))))
       exact za5
attribute [go_sem] aBr
@[go_sem]def vP : Ty := .pair .expr (.pair wh .unit)
def kN (g : Ex → qw → Option (Bool)) : aI := mSpec vP (.one .bool) (fun x => g x.1 x.2.1)
attribute [go_sem] kN
def aAe (F : Md) (g : Ex → qw → Option (Bool)) (x_0 : Ex) (a1_1 : qw) : Option Bool :=
 (g x_0 a1_1).bind (fun v_6 => some (!v_6))
def aGE : PlR := ⟨[(0, .B [1, 2]), (1, .A [3])], []⟩
def aHL : Ty := .pair .expr w4
def xY (F : Md) (g : Ex → qw → Option (Bool)) : aI := mSpec aHL (.one .bool) (fun x => aAe F g x.1 x.2.1)
abbrev aHM (F : Md) (g : Ex → qw → Option (Bool)) : List (FuncId × aI) := [(115, (kN g))]
theorem aP0 [Mx] (F : Md) (g : Ex → qw → Option (Bool)) (hg : FOK Tryz.prog GL 115 (kN g)) : bH Tryz.prog GL (aHM F g) := .cons hg xAa (.nil)
attribute [go_sem] aHL aGE
theorem aN7 [Mx] (F : Md) (g : Ex → qw → Option (Bool)) (hg : FOK Tryz.prog GL 115 (kN g)) : FOK Tryz.prog GL 159 (xY F g) := by
 refine bT (aU (aP0 F g hg)) mix Tryz.func159 rfl xAa xAc aGE fun w0 S x Θ hw h hF => ?_
 obtain ⟨(x_0 : Ex), (a1_1 : qw), u⟩ := x
 simp only [bZ, go_sem]
 replace h : sat (aAe F g x_0 a1_1) _ := h
 unfold aAe at h
 obtain ⟨v_6, hv, h⟩ := aP h
 try simp only [hv, go_sem]
 exact aK hF [.tmp 3] rfl rfl rfl (aE h) xAd
attribute [go_sem] xY
def eS (F : Md) (g : Ex → qw → Option (Bool)) (s_0 : wz) (f_1 : ws) (x8_14 : Int) : Option ((Int) ⊕ ((Unit) ⊕ Int)) :=
 if x8_14 < (s_0.length : Int) then ck (0 ≤ x8_14 ∧ x8_14 < (s_0.length : Int)) ((aAe F g (s_0.getD (x8_14.toNat) (Ex.mk 0 [] [])) f_1.1).bind (fun v_27 => if v_27 = true then some (.inr (.inr x8_14)) else ck (I64 (x8_14 + (1 : Int))) (some (.inl (x8_14 + (1 : Int)))))) else some (.inr (.inl ()))
def dU (F : Md) (g : Ex → qw → Option (Bool)) (s_0 : wz) (f_1 : ws) : Option Int :=
 (eJ F (fun d : Int => eS F g s_0 f_1 d) (0 : Int)).bind (fun e => match e with | (.inl e) => some (-1 : Int) | (.inr e) => some e)
def jA : PlR := ⟨[(0, .A [0, 1]), (1, .A [0, 1, 7, 8]), (2, .A [0, 1, 7, 8, 9]), (3, .A [0, 1, 5, 7, 8]), (4, .A [0, 1, 5, 7, 8, 16]), (5, .A [4]), (6, .A [0, 1, 7, 8]), (7, .A [4])], []⟩
def jK : Ty := .pair (.sl .expr) (.pair (.clo 159 w4) .unit)
def dK (F : Md) (g : Ex → qw → Option (Bool)) : aI := mSpec jK (.one qe) (fun x => dU F g x.1 x.2.1)
abbrev jL (F : Md) (g : Ex → qw → Option (Bool)) : List (FuncId × aI) := [(159, (xY F g))]
theorem qJ [Mx] (F : Md) (g : Ex → qw → Option (Bool)) (hg : FOK Tryz.prog GL 115 (kN g)) : bH Tryz.prog GL (jL F g) := .cons (aN7 F g hg) xAa (.nil)
attribute [go_sem] jK jA
theorem qA [Mx] (F : Md) (g : Ex → qw → Option (Bool)) (hg : FOK Tryz.prog GL 115 (kN g)) : FOK Tryz.prog GL 181 (dK F g) := by
 refine bT (aU (qJ F g hg)) mix Tryz.func181 rfl xAa xAc jA fun w0 S x Θ hw h hF => ?_
 obtain ⟨(s_0 : wz), (f_1 : ws), u⟩ := x
 simp only [bZ, go_sem]
 replace h : sat (dU F g s_0 f_1) _ := h
 unfold dU at h
 refine cL hF (D := Int) [0, 1, 7] (fun d => [(8, .val qe d)]) (fun d => []) h rfl xAb ?_
 rintro x8_14 A2 T2 hA2 hE2 h
 simp only [go_sem]
 replace h : sat (eS F g s_0 f_1 x8_14) _ := h
 unfold eS at h
 exact zaP
attribute [go_sem] dK
def cM (F : Md) (g : Ex → qw → Option (Bool)) (s_0 : wz) (f_1 : ws) : Option Bool :=
 (dU F g s_0 f_1).bind (fun v_8 => some (decide ((0 : Int) ≤ v_8)))
def hP : PlR := ⟨[(0, .A [0, 1]), (1, .A [4])], []⟩
def iI : Ty := .pair (.sl .expr) (.pair (.clo 159 w4) .unit)
def dB (F : Md) (g : Ex → qw → Option (Bool)) : aI := mSpec iI (.one .bool) (fun x => cM F g x.1 x.2.1)
abbrev iJ (F : Md) (g : Ex → qw → Option (Bool)) : List (FuncId × aI) := [(181, (dK F g))]
theorem oY [Mx] (F : Md) (g : Ex → qw → Option (Bool)) (hg : FOK Tryz.prog GL 115 (kN g)) : bH Tryz.prog GL (iJ F g) := .cons (qA F g hg) xAa (.nil)
attribute [go_sem] iI hP
theorem oO [Mx] (F : Md) (g : Ex → qw → Option (Bool)) (hg : FOK Tryz.prog GL 115 (kN g)) : FOK Tryz.prog GL 158 (dB F g) := by
 refine bT (aU (oY F g hg)) mix Tryz.func158 rfl xAa xAc hP fun w0 S x Θ hw h hF => ?_
 obtain ⟨(s_0 : wz), (f_1 : ws), u⟩ := x
 simp only [bZ, go_sem]
 replace h : sat (cM F g s_0 f_1) _ := h
 unfold cM at h
 obtain ⟨v_8, hv, h⟩ := aP h
 exact zaR
attribute [go_sem] dB
def aAf (F : Md) (g : Ex → qw → Option (Bool)) (e_0 : Ex) (names_1 : qw) : Option Bool :=
 ck ((aAd F (e_0.kind)).isSome = true) (if ¬ (((aAd F (e_0.kind)).getD (0 : Int)) = (((e_0.l).length : Nat) : Int)) then some false else if (e_0.kind) = (1 : Int) then ck ((rN F (e_0.text)).isSome = true) (some ((rN F (e_0.text)).getD false)) else if (e_0.kind) = (2 : Int) then ck (¬ ((e_0.text) = (aS ⟨#[116]⟩)) → ((fZ F names_1 (e_0.text)).isSome = true)) (some ((decide ((e_0.text) = (aS ⟨#[116]⟩))) || ((fZ F names_1 (e_0.text)).getD false))) else ck (((e_0.text) = (aS ⟨#[]⟩)) → ((cM F g (e_0.l) (names_1, ())).isSome = true)) (some ((decide ((e_0.text) = (aS ⟨#[]⟩))) && (!((cM F g (e_0.l) (names_1, ())).getD false)))))
abbrev vQ (F : Md) (g : Ex → qw → Option (Bool)) : List (FuncId × aI) := [(158, (dB F g)), (117, (gO F)), (157, (aBr F)), (98, (sK F))]
theorem aK0 [Mx] (F : Md) (g : Ex → qw → Option (Bool)) (hg : FOK Tryz.prog GL 115 (kN g)) : bH Tryz.prog GL (vQ F g) := .cons (oO F g hg) xAa (.cons (wH F) xAa (.cons (aQH F) xAa (.cons (aHI F) xAa (.nil))))
theorem aP1 [Mx] (F : Md) (g : Ex → qw → Option (Bool)) (hg : FOK Tryz.prog GL 115 (kN g)) : FOK Tryz.prog GL 115 (mSpec vP (.one .bool) (fun x => aAf F g x.1 x.2.1)) := by
 refine rY (aU (aK0 F g hg)) Tryz.func115 rfl xAa xAc fun w0 S x r hw h => ?_
 have hF : gD (fr Tryz.prog (EM (vQ F g)) S w0 Tryz.f115.ntmps) := ⟨aU (aK0 F g hg), mix⟩
 obtain ⟨(e_0 : Ex), (names_1 : qw), u⟩ := x
 simp only [vP, Ty.wf, fG] at hw
 simp only [bZ, vP]
 try dsimp only at h
 replace h : aAf F g e_0 names_1 = some r := h
 unfold aAf at h
 refine aB (aR hF [2, 3] (yaA ?_))
 refine aA (aB (aB (aF hF [2, 3, 11] (yaA ?_))))
 obtain ⟨g0, h⟩ := aM h
 repeat (refine ⟨zAA, ?_⟩)
 refine aA (bC rfl (fun hc => ?_) (fun hc => ?_))
 ·try simp only [go_sem] at hc
  exact zaq
 ·try simp only [go_sem] at hc
  have h := dQ zAB h
  refine bY (aA (aB (aB (aF hF [2, 3, 13] (yaA ?_)))))
  refine aA (dH (aB (aF hF [2, 3, 13, 14] (yaA ?_))))
  refine aA (bC rfl (fun hc => ?_) (fun hc => ?_))
  ·try simp only [go_sem] at hc
   have h := dP zAB h
   refine aB (aF hF [4] (yaA ?_))
   obtain ⟨g0, h⟩ := aM h
   repeat (refine ⟨zAA, ?_⟩)
   obtain rfl := Option.some.inj h
   refine aA (cA (fQ (cE (gX hF [.tmp 4] rfl rfl rfl ?_))))
   exact zAH
  ·try simp only [go_sem] at hc
   have h := dQ zAB h
   refine aB (aF hF [2, 3, 19] (yaA ?_))
   refine aA (bC rfl (fun hc => ?_) (fun hc => ?_))
   ·try simp only [go_sem] at hc
    have h := dP zAB h
    refine aB (aF hF [4] (yaA ?_))
    obtain ⟨g0, h⟩ := aM h
    repeat (refine ⟨zAC, ?_⟩)
    obtain rfl := Option.some.inj h
    refine aA (cA (fQ (cE (gX hF [.tmp 4] rfl rfl rfl ?_))))
    exact zAH
   ·try simp only [go_sem] at hc
    have h := dQ zAB h
    refine bY (aZ (aA (aB (aBG 1 rfl (yaA ?_)))))
    refine aF hF [4] (yaA ?_)
    exact zar
def aCR (F : Md) : Nat → Ex → qw → Option (Bool)
 | 0 => fun _ _ => none
 | n + 1 => aAf F (aCR F n)
def aBs (F : Md) (n : Nat) : aI := mSpec vP (.one .bool) (fun x => aCR F n x.1 x.2.1)
theorem aI1 [Mx] (F : Md) : ∀ n, FOK Tryz.prog GL 115 (aBs F n)
 | 0 => fun _ _ _ _ _ _ _ hp => Bool.noConfusion (show false = true from hp)
 | n + 1 => aP1 F _ (aI1 F n)
attribute [go_sem] aBs
end
end Nu
end Go.Proofs
namespace Go.Proofs
open Go.Vc
set_option maxRecDepth 20000
namespace Nu
noncomputable section
def aSj : List Nat → Nat → Nat → Int
 | [], _, _ => -1
 | b :: l, c, k => if b = c then (k : Int) else aSj l c (k + 1)
def aG0 (l : List Nat) (c : Nat) : Int := aSj l c 0
theorem aGe : ∀ (l : List UInt8) (c : UInt8), Lib.indexByte l c = -1 ∨ 0 ≤ Lib.indexByte l c
 | [], c => .inl rfl
 | b :: l, c => by
  unfold Lib.indexByte
  split
  ·exact .inr xAc
  ·split
   ·exact .inl rfl
   ·rename_i h
    rcases aGe l c with h1 | h1
    ·rw [h1] at h; exact absurd rfl h
    ·right; omega
theorem aRv : ∀ (l : List UInt8) (c : UInt8) (k : Nat), aSj (l.map (·.toNat)) c.toNat k = if Lib.indexByte l c = -1 then -1 else Lib.indexByte l c + k
 | [], c, k => rfl
 | b :: l, c, k => by
  have ih := aRv l c (k + 1)
  have ho := aGe l c
  rw [List.map_cons, aSj]
  unfold Lib.indexByte
  by_cases hb : b = c
  ·subst hb
   simp
  ·have hn : ¬ b.toNat = c.toNat := fun h => hb (UInt8.toNat_inj.1 h)
   have hbe : (b == c) = false := by simpa using hb
   rw [if_neg hn, ih, hbe]
   by_cases h1 : Lib.indexByte l c = -1
   ·rw [if_pos h1, h1]; rfl
   ·have h2 : (Lib.indexByte l c == -1) = false := by simpa using h1
    rw [if_neg h1, h2]
    simp only [Bool.false_eq_true, if_false]
    rw [if_neg (by omega)]
    omega
def uZ : Ty := .pair .str wl
def lO : aI := ⟨uZ, .one qe, fun _ => True, fun x => aG0 x.1 x.2.1⟩
attribute [go_sem] lO uZ
theorem aCS [Mx] : NOK Tryz.prog GL 161 lO := by
 refine ⟨(fun e t h => by cases h), fun w vs S x hS hG ha hp => ?_⟩
 obtain ⟨(a : List Nat), (c : Nat), u⟩ := x
 obtain ⟨v1, r1, e1, h1, v2, r2, e2, h2, h3⟩ := ha
 have h3 : r2 = [] := h3
 subst h3
 have h1 : bE w S .str a [v1] := h1
 obtain ⟨s, es, hs, hsz⟩ := h1
 obtain rfl := (List.cons.inj es).1
 have hw := h2
 unfold dF at h2
 rw [if_neg (by simp [Ty.isAgg])] at h2
 simp only [bE, List.cons.injEq, and_true] at h2
 have hc : c < 256 := by
  have := h2.2.2
  have hm : IntKind.u8.max = 255 := by decide
  omega
 obtain rfl := h2.1
 have hvs : vs = #[.string s, .int .u8 (c : Int)] := by rw [← Array.toList_inj, e1, e2]
 rw [hvs]
 refine ⟨.int .i64 (Lib.indexByte s.data.toList ((c : Int).toNat.toUInt8)), w, ?_, _, rfl, .refl _ _, ?_⟩
 ·rw [run_callFunc_extern Tryz.func161 xAa xAa xAa (e := Extern.BytealgIndexByte.indexByte) xAa, Lib.run_indexByteString]
  rfl
 ·show dF w _ qe (aG0 a c) _
  have hx : aG0 a c = Lib.indexByte s.data.toList ((c : Int).toNat.toUInt8) := by
   have hcc : ((c : Int).toNat.toUInt8).toNat = c := by
    rw [Int.toNat_natCast]
    exact Nat.mod_eq_of_lt hc
   have := aRv s.data.toList ((c : Int).toNat.toUInt8) 0
   rw [hcc] at this
   have hs : a = s.data.toList.map (·.toNat) := hs.symm
   unfold aG0
   rw [hs, this]
   split
   ·rename_i h; exact h.symm
   ·omega
  rw [hx]
  unfold dF
  rw [if_neg (by simp [Ty.isAgg])]
  have ho := aGe s.data.toList ((c : Int).toNat.toUInt8)
  have hl : ∀ (l : List UInt8) (c : UInt8), Lib.indexByte l c ≤ l.length := fun l c => by
   induction l with
   | nil => exact (by decide : (-1 : Int) ≤ 0)
   | cons b l ih =>
    unfold Lib.indexByte
    split
    ·simp; omega
    ·split
     ·simp; omega
     ·simp; omega
  have hl := hl s.data.toList ((c : Int).toNat.toUInt8)
  have hsz' : s.data.toList.length ≤ maxLen := hsz
  unfold maxLen at hsz'
  generalize Lib.indexByte s.data.toList ((c : Int).toNat.toUInt8) = z at ho hl ⊢
  refine ⟨rfl, rfl, ?_, ?_⟩
  ·have hm : IntKind.i64.min = -9223372036854775808 := by decide
   show (IntKind.i64.min : Int) ≤ z
   rw [hm]
   omega
  ·have hm : IntKind.i64.max = 9223372036854775807 := by decide
   show (z : Int) ≤ IntKind.i64.max
   rw [hm]
   omega
end
end Nu
end Go.Proofs
namespace Go.Proofs
open Go.Vc
set_option maxRecDepth 20000
namespace Nu
noncomputable section
set_option maxHeartbeats 4000000
attribute [-go_sem] Ex.kind Ex.text Ex.l
def nC (F : Md) (s_0 : qd) (c_1 : Nat) : Option Int :=
 some (aG0 s_0 c_1)
def wI : PlR := ⟨[(0, .A [0, 1]), (1, .A [4])], []⟩
def xH : Ty := .pair .str wl
def mO (F : Md) : aI := mSpec xH (.one qe) (fun x => nC F x.1 x.2.1)
abbrev xI (F : Md) : List (FuncId × aI) := [(161, lO)]
theorem aEG [Mx] (F : Md) : bH Tryz.prog GL (xI F) := .nat aCS (.nil)
attribute [go_sem] xH wI
theorem aDK [Mx] (F : Md) : FOK Tryz.prog GL 119 (mO F) := by
 refine bT (aU (aEG F)) mix Tryz.func119 rfl xAa xAc wI fun w0 S x Θ hw h hF => ?_
 obtain ⟨(s_0 : qd), (c_1 : Nat), u⟩ := x
 simp only [bZ, go_sem]
 replace h : sat (nC F s_0 c_1) _ := h
 unfold nC at h
 exact zaD
attribute [go_sem] mO
def aV (F : Md) (s_0 : qd) (c_1 : Nat) : Option Int :=
 (nC F s_0 c_1).bind (fun v_6 => some v_6)
def aBK : PlR := ⟨[(0, .A [0, 1]), (1, .A [4])], []⟩
def aCa : Ty := .pair .str wl
def dX (F : Md) : aI := mSpec aCa (.one qe) (fun x => aV F x.1 x.2.1)
abbrev aCb (F : Md) : List (FuncId × aI) := [(119, (mO F))]
theorem aIC [Mx] (F : Md) : bH Tryz.prog GL (aCb F) := .cons (aDK F) xAa (.nil)
attribute [go_sem] aCa aBK
theorem nP [Mx] (F : Md) : FOK Tryz.prog GL 82 (dX F) := by
 refine bT (aU (aIC F)) mix Tryz.func82 rfl xAa xAc aBK fun w0 S x Θ hw h hF => ?_
 obtain ⟨(s_0 : qd), (c_1 : Nat), u⟩ := x
 simp only [bZ, go_sem]
 replace h : sat (aV F s_0 c_1) _ := h
 unfold aV at h
 obtain ⟨v_6, hv, h⟩ := aP h
 exact zaR
attribute [go_sem] dX
def eT (F : Md) (r_3 : qi) : Option (qi ⊕ qi) :=
 ck ((r_3.2.1 < (r_3.1.length : Int)) → (0 ≤ r_3.2.1 ∧ r_3.2.1 < (r_3.1.length : Int))) (if (r_3.2.1 < (r_3.1.length : Int)) ∧ ((r_3.1.getD (r_3.2.1.toNat) (0 : Nat)) = (32 : Nat)) then ck (I64 (r_3.2.1 + (1 : Int))) (some (.inl (r_3.1, (r_3.2.1 + (1 : Int)), r_3.2.2.1, ()))) else some (.inr r_3))
def jZ (F : Md) (o0_1 : qi) : Option qi :=
 (eJ F (fun d : qi => eT F d) o0_1).bind (fun e => some e)
def nQ (F : Md) : gH where
 D := qi × qi
 av := fun d => [.ptr 0 []]
 hp := fun d => [.box 3 (.val qy d.1)]
 m := 1
 pre := fun d => jZ F d.1 = some d.2
 out := fun d => (fun r : qi => .ret (.tup []) [.box 3 (.val qy (r))]) d.2
abbrev aCc (F : Md) : List (FuncId × aI) := []
theorem aCd [Mx] (F : Md) : bH Tryz.prog GL (aCc F) := .nil
theorem aBL [Mx] (F : Md) : GOK Tryz.prog GL 20 (nQ F) := by
 refine eO (aU (aCd F)) Tryz.func20 rfl xAa (fun _ => Nat.le_of_ble_eq_true rfl) fun c0 w0 d hw1 hw2 h hn => ?_
 have hF : gD ⟨Tryz.prog, EM (aCc F), GM (nQ F) c0 d, w0, Tryz.f20.ntmps, []⟩ := ⟨aU (aCd F), mix⟩
 obtain ⟨(o0_1 : qi), r⟩ := d
 replace h : jZ F o0_1 = some r := h
 have hw1 : AV.wfL [.ptr 0 []] := hw1
 simp only [AV.wfL, AV.wfV, Ty.wf, fG] at hw1
 show Tri _ _ _ [(0, .ptr 0 [])] [.box 3 (.val qy o0_1)]
 unfold jZ at h
 refine dH (oC (D := qi) [] (fun d => [(0, .ptr 0 [])]) (fun d => [.inr (.box 3 (.val qy d))]) h ?_ ?_ ?_)
 ·first | rfl | (simp only [go_sem]; done)
 ·exact zAG
 rintro r_3 s0 h hs0
 simp only [go_sem]
 try dsimp only at h
 unfold eT at h
 refine aB (aB (aF hF [0, 23] (yaA ?_)))
 obtain ⟨g0, h⟩ := aM h
 repeat (refine ⟨zAC, ?_⟩)
 refine aA (bC rfl (fun hc => ?_) (fun hc => ?_))
 ·try simp only [go_sem] at hc
  have h := dP zAB h
  refine bY (aA (dH (aR hF [0] (yaA ?_))))
  obtain ⟨g0, h⟩ := aM h
  try simp only [I64, I32] at g0
  repeat (refine ⟨zAA, ?_⟩)
  obtain rfl := Option.some.inj h
  dsimp only [lR] at hs0
  refine aZ (bO (aY (r_3.1, (r_3.2.1 + (1 : Int)), r_3.2.2.1, ()) hs0 rfl ?_))
  ·exact zAG
 ·try simp only [go_sem] at hc
  have h := dQ zAB h
  obtain rfl := Option.some.inj h
  dsimp only [lR] at hs0
  have h := yaF (hs0)
  obtain rfl := Option.some.inj h
  refine pV (cV (cV (fH (gQ (eH hF [] rfl rfl rfl rfl rfl rfl ?_)))))
  exact zaB
attribute [go_sem] nQ
def fT (F : Md) (signs_1 : qd) (o0_2 : qi) : Option ((Nat × wn) × qi) :=
 (jZ F o0_2).bind (fun r_5 => ck (¬ (r_5.2.1 = (r_5.1.length : Int)) → (0 ≤ r_5.2.1 ∧ r_5.2.1 < (r_5.1.length : Int))) (ck (¬ (r_5.2.1 = (r_5.1.length : Int)) → ((aV F signs_1 (r_5.1.getD (r_5.2.1.toNat) (0 : Nat))).isSome = true)) (if (r_5.2.1 = (r_5.1.length : Int)) ∨ (((aV F signs_1 (r_5.1.getD (r_5.2.1.toNat) (0 : Nat))).getD (0 : Int)) < (0 : Int)) then some (((0 : Nat), false, ()), r_5) else ck (I64 (r_5.2.1 + (1 : Int))) (ck (I64 ((r_5.2.1 + (1 : Int)) - (1 : Int))) (ck (0 ≤ ((r_5.2.1 + (1 : Int)) - (1 : Int)) ∧ ((r_5.2.1 + (1 : Int)) - (1 : Int)) < (r_5.1.length : Int)) (some (((r_5.1.getD ((r_5.2.1 + (1 : Int)) - (1 : Int)).toNat (0 : Nat)), true, ()), r_5.1, (r_5.2.1 + (1 : Int)), r_5.2.2.1, ())))))))
def kX (F : Md) : gH where
 D := qd × qi × ((Nat × wn) × qi)
 av := fun d => [.ptr 0 [], .val .str d.1]
 hp := fun d => [.box 3 (.val qy d.2.1)]
 m := 1
 pre := fun d => fT F d.1 d.2.1 = some d.2.2
 out := fun d => (fun r : ((Nat × wn) × qi) => .ret (.tup [.val wy r.1.1, .val .bool r.1.2.1]) [.box 3 (.val qy r.2)]) d.2.2
abbrev aAg (F : Md) : List (FuncId × aI) := [(82, (dX F))]
theorem aD7 [Mx] (F : Md) : bH Tryz.prog GL (aAg F) := .cons (nP F) xAa (.nil)
theorem sS [Mx] (F : Md) : GOK Tryz.prog GL 81 (kX F) := by
 refine eO (aU (aD7 F)) Tryz.func81 rfl xAa (fun _ => Nat.le_of_ble_eq_true rfl) fun c0 w0 d hw1 hw2 h hn => ?_
 have hF : gD ⟨Tryz.prog, EM (aAg F), GM (kX F) c0 d, w0, Tryz.f81.ntmps, []⟩ := ⟨aU (aD7 F), mix⟩
 obtain ⟨(signs_1 : qd), (o0_2 : qi), r⟩ := d
 replace h : fT F signs_1 o0_2 = some r := h
 have hw1 : AV.wfL [.ptr 0 [], .val .str signs_1] := hw1
 simp only [AV.wfL, AV.wfV, Ty.wf, fG] at hw1
 show Tri _ _ _ [(0, .ptr 0 []), (1, .val .str signs_1)] [.box 3 (.val qy o0_2)]
 unfold fT at h
 refine aB (aF hF [0, 1] (yaA ?_))
 obtain ⟨r_5, he1, h⟩ := bind_some h
 try dsimp only at h
 refine aA (aB (aC hF (aG (l := [(20, ⟨nQ F, [0], (o0_2, r_5)⟩)]) (.cons (aBL F) xAa (.nil))) [0, 1] [] (yaB ?_)))
 refine aA (aB (aB (aF hF [0, 31] (yaA ?_))))
 obtain ⟨g0, h⟩ := aM h
 obtain ⟨g1, h⟩ := aM h
 repeat (refine ⟨zAE, ?_⟩)
 refine aA (bC rfl (fun hc => ?_) (fun hc => ?_))
 ·try simp only [go_sem] at hc
  have h := dP zAB h
  refine aB (aF hF [4, 5] (yaA ?_))
  obtain rfl := Option.some.inj h
  refine aA (cA (cE (eH hF [.tmp 4, .tmp 5] rfl rfl rfl rfl rfl rfl ?_)))
  exact zaB
 ·try simp only [go_sem] at hc
  have h := dQ zAB h
  refine bY (aA (aB (aR hF [0] (yaA ?_))))
  obtain ⟨g0, h⟩ := aM h
  try simp only [I64, I32] at g0
  repeat (refine ⟨zAA, ?_⟩)
  refine aA (aB (aF hF [4, 5] (yaA ?_)))
  obtain ⟨g0, h⟩ := aM h
  obtain ⟨g1, h⟩ := aM h
  try simp only [I64, I32] at g0
  repeat (refine ⟨zAA, ?_⟩)
  obtain rfl := Option.some.inj h
  refine aA (cA (eH hF [.tmp 4, .tmp 5] rfl rfl rfl rfl rfl rfl ?_))
  exact zaB
attribute [go_sem] kX
def fI (F : Md) (sign_1 : qd) (o0_2 : qi) : Option (qi ⊕ qp) :=
 (fT F sign_1 o0_2).bind (fun r_5 => if ¬ (r_5.1.2.1 = true) then some (.inr (r_5.2.2.1, ())) else some (.inl r_5.2))
def jB (F : Md) : gH where
 D := qd × qi × (qi ⊕ qp)
 av := fun d => [.ptr 0 [], .val .str d.1]
 hp := fun d => [.box 3 (.val qy d.2.1)]
 m := 1
 pre := fun d => fI F d.1 d.2.1 = some d.2.2
 out := fun d => match d.2.2 with | .inl r => .ret (.tup []) [.box 3 (.val qy (r))] | .inr p => .pan ⟨56, q9, p⟩ [.box 3 (.junk)]
abbrev aCe (F : Md) : List (FuncId × aI) := []
theorem aCf [Mx] (F : Md) : bH Tryz.prog GL (aCe F) := .nil
theorem rB [Mx] (F : Md) : GOK Tryz.prog GL 162 (jB F) := by
 refine eO (aU (aCf F)) Tryz.func162 rfl xAa (fun _ => Nat.le_of_ble_eq_true rfl) fun c0 w0 d hw1 hw2 h hn => ?_
 have hF : gD ⟨Tryz.prog, EM (aCe F), GM (jB F) c0 d, w0, Tryz.f162.ntmps, []⟩ := ⟨aU (aCf F), mix⟩
 obtain ⟨(sign_1 : qd), (o0_2 : qi), r⟩ := d
 replace h : fI F sign_1 o0_2 = some r := h
 have hw1 : AV.wfL [.ptr 0 [], .val .str sign_1] := hw1
 simp only [AV.wfL, AV.wfV, Ty.wf, fG] at hw1
 show Tri _ _ _ [(0, .ptr 0 []), (1, .val .str sign_1)] [.box 3 (.val qy o0_2)]
 unfold fI at h
 obtain ⟨r_5, he1, h⟩ := bind_some h
 try dsimp only at h
 refine aB (aC hF (aG (l := [(81, ⟨kX F, [0], (sign_1, o0_2, r_5)⟩)]) (.cons (sS F) xAa (.nil))) [0, 5] [] (yaB ?_))
 refine aA (aB (aF hF [0, 13] (yaA ?_)))
 refine aA (bC rfl (fun hc => ?_) (fun hc => ?_))
 ·try simp only [go_sem] at hc
  have h := dP zAB h
  refine aC hF (aG (l := []) (.nil)) [] [] (yaB ?_)
  exact za3
 ·try simp only [go_sem] at hc
  exact zay
attribute [go_sem] jB
def eF (F : Md) (kind_1 : Int) (text_2 : qd) (l_3 : wz) (o0_4 : qi) : Option wb :=
 ck (I64 (o0_4.2.2.1 + (1 : Int))) (some ((Ex.mk kind_1 text_2 l_3), o0_4.1, o0_4.2.1, (o0_4.2.2.1 + (1 : Int)), ()))
def fU (F : Md) : gH where
 D := Int × qd × wz × qi × wb
 av := fun d => [.ptr 0 [], .val qe d.1, .val .str d.2.1, .val (.sl .expr) d.2.2.1]
 hp := fun d => [.box 3 (.val qy d.2.2.2.1)]
 m := 1
 pre := fun d => eF F d.1 d.2.1 d.2.2.1 d.2.2.2.1 = some d.2.2.2.2
 out := fun d => (fun r : wb => .ret (.val .expr r.1) [.box 3 (.val qy r.2)]) d.2.2.2.2
abbrev aCg (F : Md) : List (FuncId × aI) := []
theorem aCh [Mx] (F : Md) : bH Tryz.prog GL (aCg F) := .nil
theorem lH [Mx] (F : Md) : GOK Tryz.prog GL 83 (fU F) := by
 refine eO (aU (aCh F)) Tryz.func83 rfl xAa (fun _ => Nat.le_of_ble_eq_true rfl) fun c0 w0 d hw1 hw2 h hn => ?_
 have hF : gD ⟨Tryz.prog, EM (aCg F), GM (fU F) c0 d, w0, Tryz.f83.ntmps, []⟩ := ⟨aU (aCh F), mix⟩
 obtain ⟨(kind_1 : Int), (text_2 : qd), (l_3 : wz), (o0_4 : qi), r⟩ := d
 replace h : eF F kind_1 text_2 l_3 o0_4 = some r := h
 have hw1 : AV.wfL [.ptr 0 [], .val qe kind_1, .val .str text_2, .val (.sl .expr) l_3] := hw1
 simp only [AV.wfL, AV.wfV, Ty.wf, fG] at hw1
 show Tri _ _ _ [(0, .ptr 0 []), (1, .val qe kind_1), (2, .val .str text_2), (3, .val (.sl .expr) l_3)] [.box 3 (.val qy o0_4)]
 unfold eF at h
 refine aB (aR hF [0, 1, 2, 3, 8] (yaA ?_))
 refine aA (aB (aR hF [1, 2, 3, 8] (yaA ?_)))
 obtain ⟨g0, h⟩ := aM h
 try simp only [I64, I32] at g0
 repeat (refine ⟨zAA, ?_⟩)
 refine aA (aB (aR hF [8] (yaA ?_)))
 obtain rfl := Option.some.inj h
 refine aA (cA (kK hF [.cell 8 27] [0] rfl rfl rfl rfl rfl rfl rfl rfl rfl ?_))
 exact zaB
attribute [go_sem] fU
def rO (F : Md) (s_0 : qd) (at_1 : Int) (n_9 : Int) (k_15 : Int) : Option (Int) :=
 (lX F s_0 k_15).bind (fun v_19 => ck (I64 (k_15 + (min v_19 (4 : Int)))) (ck (0 ≤ k_15 ∧ k_15 ≤ (k_15 + (min v_19 (4 : Int))) ∧ (k_15 + (min v_19 (4 : Int))) ≤ (s_0.length : Int)) (ck ((aS ⟨#[48]⟩).length + (List.drop (k_15.toNat) (List.take (k_15 + (min v_19 (4 : Int))).toNat s_0)).length ≤ 9223372036854775807) ((lW F ((aS ⟨#[48]⟩) ++ (List.drop (k_15.toNat) (List.take (k_15 + (min v_19 (4 : Int))).toNat s_0)))).bind (fun v_23 => if (((1 : Int) ≤ v_19) ∧ (v_19 ≤ (3 : Int))) ∧ (v_23.1 ≤ (100 : Int)) then ck (I64 (k_15 + v_19)) (ck (I64 ((k_15 + v_19) - at_1)) (some ((k_15 + v_19) - at_1))) else ck (I64 (n_9 - at_1)) (some (n_9 - at_1)))))))
def nD (F : Md) (s_0 : qd) (at_1 : Int) (n_9 : Int) : Option (Int) :=
 ck ((n_9 < (s_0.length : Int)) → (0 ≤ n_9 ∧ n_9 < (s_0.length : Int))) (if (n_9 < (s_0.length : Int)) ∧ ((s_0.getD (n_9.toNat) (0 : Nat)) = (101 : Nat)) then ck (I64 (n_9 + (1 : Int))) (ck (((n_9 + (1 : Int)) < (s_0.length : Int)) → (0 ≤ (n_9 + (1 : Int)) ∧ (n_9 + (1 : Int)) < (s_0.length : Int))) (ck (((n_9 + (1 : Int)) < (s_0.length : Int)) → ¬ ((s_0.getD (n_9 + (1 : Int)).toNat (0 : Nat)) = (43 : Nat)) → (0 ≤ (n_9 + (1 : Int)) ∧ (n_9 + (1 : Int)) < (s_0.length : Int))) (if ((n_9 + (1 : Int)) < (s_0.length : Int)) ∧ (((s_0.getD (n_9 + (1 : Int)).toNat (0 : Nat)) = (43 : Nat)) ∨ ((s_0.getD (n_9 + (1 : Int)).toNat (0 : Nat)) = (45 : Nat))) then ck (I64 ((n_9 + (1 : Int)) + (1 : Int))) (rO F s_0 at_1 n_9 ((n_9 + (1 : Int)) + (1 : Int))) else rO F s_0 at_1 n_9 (n_9 + (1 : Int))))) else ck (I64 (n_9 - at_1)) (some (n_9 - at_1)))
def eN (F : Md) (s_0 : qd) (at_1 : Int) : Option Int :=
 (lX F s_0 at_1).bind (fun v_6 => ck (I64 (at_1 + v_6)) (if (at_1 + v_6) = at_1 then some (0 : Int) else ck (((at_1 + v_6) < (s_0.length : Int)) → (0 ≤ (at_1 + v_6) ∧ (at_1 + v_6) < (s_0.length : Int))) (if ((at_1 + v_6) < (s_0.length : Int)) ∧ ((s_0.getD (at_1 + v_6).toNat (0 : Nat)) = (46 : Nat)) then ck (I64 ((at_1 + v_6) + (1 : Int))) ((lX F s_0 ((at_1 + v_6) + (1 : Int))).bind (fun v_27 => if (0 : Int) < v_27 then ck (I64 ((at_1 + v_6) + (1 : Int))) (ck (I64 (((at_1 + v_6) + (1 : Int)) + v_27)) (nD F s_0 at_1 (((at_1 + v_6) + (1 : Int)) + v_27))) else nD F s_0 at_1 (at_1 + v_6))) else nD F s_0 at_1 (at_1 + v_6))))
def aNy : PlR := ⟨[(0, .A [0, 1]), (1, .A [0, 1, 5]), (2, .A [0, 1, 5, 18]), (3, .A [4]), (4, .A [0, 1, 5, 28]), (5, .A [0, 1, 5, 6]), (6, .A [0, 1, 5, 6, 34]), (7, .A [0, 1, 5]), (8, .A [0, 1, 5, 48]), (9, .A [0, 1, 5, 7]), (10, .A [0, 1, 5, 7, 66]), (11, .A [0, 1, 5, 7]), (12, .A [0, 1, 5, 7, 8]), (13, .A [1, 5, 7, 8, 9]), (14, .A [1, 5, 7, 8, 93]), (15, .A [1, 5]), (16, .A [4])], [(7, 11), (13, 15)]⟩
def aP2 : Ty := .pair .str q9
def aD8 (F : Md) : aI := mSpec aP2 (.one qe) (fun x => eN F x.1 x.2.1)
abbrev aJA (F : Md) : List (FuncId × aI) := [(134, (tS F)), (97, (mM F))]
theorem aUl [Mx] (F : Md) : bH Tryz.prog GL (aJA F) := .cons (aIW F) xAa (.cons (aB0 F) xAa (.nil))
attribute [go_sem] aP2 aNy
theorem aTr [Mx] (F : Md) : FOK Tryz.prog GL 163 (aD8 F) := by
 refine bT (aU (aUl F)) mix Tryz.func163 rfl xAa xAc aNy fun w0 S x Θ hw h hF => ?_
 obtain ⟨(s_0 : qd), (at_1 : Int), u⟩ := x
 simp only [bZ, go_sem]
 replace h : sat (eN F s_0 at_1) _ := h
 unfold eN at h
 obtain ⟨v_6, hv, h⟩ := aP h
 try simp only [hv, go_sem]
 obtain ⟨g0, h⟩ := aQ h
 repeat (refine ⟨by omega, ?_⟩)
 refine fL h (fun hc h => ?_) fun hc h => ?_
 ·exact aK hF [.tmp 4] rfl rfl rfl (aE h) xAd
 ·refine fD hF (D := Int) (fun d => sat (nD F s_0 at_1 d) Θ) [0, 1] (fun d => [(5, .val qe d)]) (fun d => []) ?_ ?_
  ·simp only [go_sem]
   obtain ⟨g0, h⟩ := aQ h
   repeat (refine ⟨by omega, ?_⟩)
   refine ⟨fun hc => ?_, fun hc => ?_⟩
   ·replace h := jV hc h
    obtain ⟨g0, h⟩ := aQ h
    repeat (refine ⟨by omega, ?_⟩)
    obtain ⟨v_27, hv, h⟩ := aP h
    try simp only [hv, go_sem]
    refine fY h (fun hc h => ?_) fun hc h => ?_
    ·obtain ⟨g0, h⟩ := aQ h
     obtain ⟨g1, h⟩ := aQ h
     repeat (refine ⟨by omega, ?_⟩)
     exact aY (((at_1 + v_6) + (1 : Int)) + v_27) h rfl xAb
    ·exact aY (at_1 + v_6) h rfl xAb
   ·replace h := jW hc h
    exact aY (at_1 + v_6) h rfl xAb
  ·rintro n_9 h
   simp only [go_sem]
   replace h : sat (nD F s_0 at_1 n_9) _ := h
   unfold nD at h
   obtain ⟨g0, h⟩ := aQ h
   repeat (refine ⟨by omega, ?_⟩)
   refine ⟨fun hc => ?_, fun hc => ?_⟩
   ·replace h := jV hc h
    obtain ⟨g0, h⟩ := aQ h
    repeat (refine ⟨by omega, ?_⟩)
    refine fD hF (D := Int) (fun d => sat (rO F s_0 at_1 n_9 d) Θ) [0, 1, 5] (fun d => [(7, .val qe d)]) (fun d => []) ?_ ?_
    ·simp only [go_sem]
     obtain ⟨g0, h⟩ := aQ h
     obtain ⟨g1, h⟩ := aQ h
     repeat (refine ⟨by omega, ?_⟩)
     refine ⟨fun hc => ?_, fun hc => ?_⟩
     ·replace h := jV hc h
      obtain ⟨g0, h⟩ := aQ h
      repeat (refine ⟨by omega, ?_⟩)
      exact aY ((n_9 + (1 : Int)) + (1 : Int)) h rfl xAb
     ·replace h := jW hc h
      exact aY (n_9 + (1 : Int)) h rfl xAb
    ·rintro k_15 h
     simp only [go_sem]
     replace h : sat (rO F s_0 at_1 n_9 k_15) _ := h
     unfold rO at h
     obtain ⟨v_19, hv, h⟩ := aP h
     try simp only [hv, go_sem]
     obtain ⟨g0, h⟩ := aQ h
     obtain ⟨g1, h⟩ := aQ h
     obtain ⟨g2, h⟩ := aQ h
     repeat (refine ⟨by omega, ?_⟩)
     obtain ⟨v_23, hv, h⟩ := aP h
     try simp only [hv, go_sem]
     refine ⟨fun hc => ?_, fun hc => ?_⟩
     ·replace h := jV hc h
      obtain ⟨g0, h⟩ := aQ h
      repeat (refine ⟨by omega, ?_⟩)
      obtain ⟨g0, h⟩ := aQ h
      repeat (refine ⟨by omega, ?_⟩)
      exact zaD
     ·replace h := jW hc h
      obtain ⟨g0, h⟩ := aQ h
      repeat (refine ⟨by omega, ?_⟩)
      exact zaD
   ·replace h := jW hc h
    obtain ⟨g0, h⟩ := aQ h
    repeat (refine ⟨by omega, ?_⟩)
    exact zaD
attribute [go_sem] aD8
def kG (F : Md) (o0_1 : qi) : Option (wb ⊕ qp) :=
 ck ((eN F o0_1.1 o0_1.2.1).isSome = true) (if (((eN F o0_1.1 o0_1.2.1).getD (0 : Int)) = (0 : Int)) ∨ ((60 : Int) < ((eN F o0_1.1 o0_1.2.1).getD (0 : Int))) then some (.inr (o0_1.2.1, ())) else ck (I64 (o0_1.2.1 + ((eN F o0_1.1 o0_1.2.1).getD (0 : Int)))) (ck (I64 ((o0_1.2.1 + ((eN F o0_1.1 o0_1.2.1).getD (0 : Int))) - ((eN F o0_1.1 o0_1.2.1).getD (0 : Int)))) (ck (0 ≤ ((o0_1.2.1 + ((eN F o0_1.1 o0_1.2.1).getD (0 : Int))) - ((eN F o0_1.1 o0_1.2.1).getD (0 : Int))) ∧ ((o0_1.2.1 + ((eN F o0_1.1 o0_1.2.1).getD (0 : Int))) - ((eN F o0_1.1 o0_1.2.1).getD (0 : Int))) ≤ (o0_1.2.1 + ((eN F o0_1.1 o0_1.2.1).getD (0 : Int))) ∧ (o0_1.2.1 + ((eN F o0_1.1 o0_1.2.1).getD (0 : Int))) ≤ (o0_1.1.length : Int)) ((eF F (1 : Int) (List.drop ((o0_1.2.1 + ((eN F o0_1.1 o0_1.2.1).getD (0 : Int))) - ((eN F o0_1.1 o0_1.2.1).getD (0 : Int))).toNat (List.take (o0_1.2.1 + ((eN F o0_1.1 o0_1.2.1).getD (0 : Int))).toNat o0_1.1)) ([] : List Ex) (o0_1.1, (o0_1.2.1 + ((eN F o0_1.1 o0_1.2.1).getD (0 : Int))), o0_1.2.2.1, ())).bind (fun r_4 => some (.inl (r_4.1, r_4.2)))))))
def lY (F : Md) : gH where
 D := qi × (wb ⊕ qp)
 av := fun d => [.ptr 0 []]
 hp := fun d => [.box 3 (.val qy d.1)]
 m := 1
 pre := fun d => kG F d.1 = some d.2
 out := fun d => match d.2 with | .inl r => .ret (.val .expr r.1) [.box 3 (.val qy r.2)] | .inr p => .pan ⟨56, q9, p⟩ [.box 3 (.junk)]
abbrev tZ (F : Md) : List (FuncId × aI) := [(163, (aD8 F))]
theorem aAV [Mx] (F : Md) : bH Tryz.prog GL (tZ F) := .cons (aTr F) xAa (.nil)
theorem aAh [Mx] (F : Md) : GOK Tryz.prog GL 121 (lY F) := by
 refine eO (aU (aAV F)) Tryz.func121 rfl xAa (fun _ => Nat.le_of_ble_eq_true rfl) fun c0 w0 d hw1 hw2 h hn => ?_
 have hF : gD ⟨Tryz.prog, EM (tZ F), GM (lY F) c0 d, w0, Tryz.f121.ntmps, []⟩ := ⟨aU (aAV F), mix⟩
 obtain ⟨(o0_1 : qi), r⟩ := d
 replace h : kG F o0_1 = some r := h
 have hw1 : AV.wfL [.ptr 0 []] := hw1
 simp only [AV.wfL, AV.wfV, Ty.wf, fG] at hw1
 show Tri _ _ _ [(0, .ptr 0 [])] [.box 3 (.val qy o0_1)]
 unfold kG at h
 refine aB (aR hF [0, 2] (yaA ?_))
 refine aA (aB (aF hF [0, 2, 3] (yaA ?_)))
 obtain ⟨g0, h⟩ := aM h
 repeat (refine ⟨zAA, ?_⟩)
 refine aA (aB (aB (aF hF [0, 2, 3, 18] (yaA ?_))))
 refine aA (bC rfl (fun hc => ?_) (fun hc => ?_))
 ·try simp only [go_sem] at hc
  have h := dP zAB h
  refine aC hF (aG (l := []) (.nil)) [0, 2, 3] [] (yaB ?_)
  exact zaH
 ·try simp only [go_sem] at hc
  have h := dQ zAB h
  refine bY (aA (aB (aR hF [0, 2, 3] (yaA ?_))))
  obtain ⟨g0, h⟩ := aM h
  try simp only [I64, I32] at g0
  repeat (refine ⟨zAA, ?_⟩)
  obtain ⟨g0, h⟩ := aM h
  obtain ⟨g1, h⟩ := aM h
  try simp only [I64, I32] at g0
  obtain ⟨r_4, he1, h⟩ := bind_some h
  try dsimp only at h
  refine aA (aB (aFR hF (aG (l := [(83, ⟨fU F, [0], ((1 : Int), (List.drop ((o0_1.2.1 + ((eN F o0_1.1 o0_1.2.1).getD (0 : Int))) - ((eN F o0_1.1 o0_1.2.1).getD (0 : Int))).toNat (List.take (o0_1.2.1 + ((eN F o0_1.1 o0_1.2.1).getD (0 : Int))).toNat o0_1.1)), ([] : List Ex), (o0_1.1, (o0_1.2.1 + ((eN F o0_1.1 o0_1.2.1).getD (0 : Int))), o0_1.2.2.1, ()), r_4)⟩)]) (.cons (lH F) xAa (.nil))) 16 xAc [2] [] (yaB ?_)))
  simp only [aU7, go_sem]
  repeat (refine ⟨zAA, ?_⟩)
  exact zaS
attribute [go_sem] lY
def oZ (F : Md) (o0_1 : qi) (r_5 : qi) : Option (qd × qi) :=
 ck (0 ≤ o0_1.2.1 ∧ o0_1.2.1 ≤ r_5.2.1 ∧ r_5.2.1 ≤ (r_5.1.length : Int)) (some ((List.drop (o0_1.2.1.toNat) (List.take (r_5.2.1.toNat) r_5.1)), r_5))
def fV (F : Md) (r_6 : qi) : Option (qi ⊕ qi) :=
 ck ((r_6.2.1 < (r_6.1.length : Int)) → (0 ≤ r_6.2.1 ∧ r_6.2.1 < (r_6.1.length : Int))) (ck ((r_6.2.1 < (r_6.1.length : Int)) → ((aV F (aS sQ) (r_6.1.getD (r_6.2.1.toNat) (0 : Nat))).isSome = true)) (if (r_6.2.1 < (r_6.1.length : Int)) ∧ ((0 : Int) ≤ ((aV F (aS sQ) (r_6.1.getD (r_6.2.1.toNat) (0 : Nat))).getD (0 : Int))) then ck (I64 (r_6.2.1 + (1 : Int))) (some (.inl (r_6.1, (r_6.2.1 + (1 : Int)), r_6.2.2.1, ()))) else some (.inr r_6)))
def mH (F : Md) (o0_1 : qi) : Option (qd × qi) :=
 (eJ F (fun d : qi => fV F d) o0_1).bind (fun e => oZ F o0_1 e)
def rC (F : Md) : gH where
 D := qi × (qd × qi)
 av := fun d => [.ptr 0 []]
 hp := fun d => [.box 3 (.val qy d.1)]
 m := 1
 pre := fun d => mH F d.1 = some d.2
 out := fun d => (fun r : (qd × qi) => .ret (.val .str r.1) [.box 3 (.val qy r.2)]) d.2
abbrev wQ (F : Md) : List (FuncId × aI) := [(82, (dX F))]
theorem aCi [Mx] (F : Md) : bH Tryz.prog GL (wQ F) := .cons (nP F) xAa (.nil)
theorem aHO [Mx] (F : Md) : GOK Tryz.prog GL 122 (rC F) := by
 refine eO (aU (aCi F)) Tryz.func122 rfl xAa (fun _ => Nat.le_of_ble_eq_true rfl) fun c0 w0 d hw1 hw2 h hn => ?_
 have hF : gD ⟨Tryz.prog, EM (wQ F), GM (rC F) c0 d, w0, Tryz.f122.ntmps, []⟩ := ⟨aU (aCi F), mix⟩
 obtain ⟨(o0_1 : qi), r⟩ := d
 replace h : mH F o0_1 = some r := h
 have hw1 : AV.wfL [.ptr 0 []] := hw1
 simp only [AV.wfL, AV.wfV, Ty.wf, fG] at hw1
 show Tri _ _ _ [(0, .ptr 0 [])] [.box 3 (.val qy o0_1)]
 unfold mH at h
 refine aB (aF hF [0] (yaA ?_))
 refine aA (aB (aF hF [0, 3] (yaA ?_)))
 refine aA (oB (D := qi) (fun d => oZ F o0_1 d = some r) [3] (fun d => [(0, .ptr 0 [])]) (fun d => [.inr (.box 3 (.val qy d))]) ?_ ?_)
 ·refine dH (oC (D := qi) [3] (fun d => [(0, .ptr 0 [])]) (fun d => [.inr (.box 3 (.val qy d))]) h ?_ ?_ ?_)
  ·first | rfl | (simp only [go_sem]; done)
  ·exact zAG
  rintro r_6 s2 h hs2
  simp only [go_sem]
  try dsimp only at h
  unfold fV at h
  refine aB (aB (aF hF [0, 3, 30] (yaA ?_)))
  obtain ⟨g0, h⟩ := aM h
  obtain ⟨g1, h⟩ := aM h
  repeat (refine ⟨zAE, ?_⟩)
  refine aA (bC rfl (fun hc => ?_) (fun hc => ?_))
  ·try simp only [go_sem] at hc
   have h := dP zAB h
   refine bY (aA (dH (aR hF [0, 3] (yaA ?_))))
   obtain ⟨g0, h⟩ := aM h
   try simp only [I64, I32] at g0
   repeat (refine ⟨zAA, ?_⟩)
   obtain rfl := Option.some.inj h
   dsimp only [lR] at hs2
   refine aZ (bO (aY (r_6.1, (r_6.2.1 + (1 : Int)), r_6.2.2.1, ()) hs2 rfl ?_))
   ·exact zAG
  ·try simp only [go_sem] at hc
   have h := dQ zAB h
   obtain rfl := Option.some.inj h
   dsimp only [lR] at hs2
   have h := yaF (hs2)
   refine pV (cV (cV (fH (bO (aY (r_6) h rfl ?_)))))
   ·exact zAG
 ·rintro r_5 h
  try dsimp only at h
  simp only [go_sem]
  unfold oZ at h
  refine aB (aF hF [2] (yaA ?_))
  obtain ⟨g0, h⟩ := aM h
  repeat (refine ⟨zAA, ?_⟩)
  obtain rfl := Option.some.inj h
  refine aA (cA (eH hF [.tmp 2] rfl rfl rfl rfl rfl rfl ?_))
  exact zaB
attribute [go_sem] rC
end
end Nu
end Go.Proofs
namespace Go.Proofs
open Go.Vc
set_option maxRecDepth 20000
namespace Nu
noncomputable section
set_option maxHeartbeats 4000000
attribute [-go_sem] Ex.kind Ex.text Ex.l
def yL : ByteArray := ⟨⟨97 :: 98 :: 99 :: 100 :: 101 :: 102 :: 103 :: 104 :: 105 :: 106 :: 107 :: 108 :: 109 :: 110 :: 111 :: 112 :: 113 :: 114 :: 115 :: 116 :: 117 :: 118 :: 119 :: 120 :: 121 :: 122 :: []⟩⟩
@[go_sem]theorem aQJ : (⟨⟨97 :: 98 :: 99 :: 100 :: 101 :: 102 :: 103 :: 104 :: 105 :: 106 :: 107 :: 108 :: 109 :: 110 :: 111 :: 112 :: 113 :: 114 :: 115 :: 116 :: 117 :: 118 :: 119 :: 120 :: 121 :: 122 :: []⟩⟩ : ByteArray) = yL := rfl
def bN (g : qi → Option (wb ⊕ qp)) : gH where
 D := qi × (wb ⊕ qp)
 av := fun d => [.ptr 0 []]
 hp := fun d => [.box 3 (.val qy d.1)]
 m := 1
 pre := fun d => g d.1 = some d.2
 out := fun d => match d.2 with | .inl r => .ret (.val .expr r.1) [.box 3 (.val qy r.2)] | .inr p => .pan ⟨56, q9, p⟩ [.box 3 (.junk)]
attribute [go_sem] bN
def cK (F : Md) (g : qi → Option (wb ⊕ qp)) (signs_2 : qd) (kinds_3 : wj) (r_16 : qi) (e_17 : Ex) : Option ((qi × Ex) ⊕ (wb ⊕ qp)) :=
 (fT F signs_2 r_16).bind (fun r_25 => if ¬ (r_25.1.2.1 = true) then some (.inr (.inl (e_17, r_25.2))) else ck ((aV F signs_2 r_25.1.1).isSome = true) (ck (0 ≤ ((aV F signs_2 r_25.1.1).getD (0 : Int)) ∧ ((aV F signs_2 r_25.1.1).getD (0 : Int)) < (2 : Int)) ((g r_25.2).bind (fun e => match e with | .inl r_26 => (eF F (kinds_3.getD ((aV F signs_2 r_25.1.1).getD (0 : Int)).toNat (0 : Int)) (aS ⟨#[]⟩) ([e_17, r_26.1] : List Ex) r_26.2).bind (fun r_27 => some (.inl (r_27.2, r_27.1))) | .inr p_28 => some (.inr (.inr p_28))))))
def cR (F : Md) (g : qi → Option (wb ⊕ qp)) (signs_2 : qd) (kinds_3 : wj) (o0_4 : qi) : Option (wb ⊕ qp) :=
 (g o0_4).bind (fun e => match e with | .inl r_10 => (eJ F (fun d : qi × Ex => cK F g signs_2 kinds_3 d.1 d.2) (r_10.2, r_10.1)).bind (fun e => match e with | (.inl e) => some (.inl e) | (.inr e) => some (.inr e)) | .inr p_11 => some (.inr p_11))
def eE (F : Md) (g : qi → Option (wb ⊕ qp)) : gH where
 D := qd × wj × qi × (wb ⊕ qp)
 av := fun d => [.ptr 0 [], .fn 84 [0] [], .val .str d.1, .val wm d.2.1]
 hp := fun d => [.box 3 (.val qy d.2.2.1)]
 m := 1
 pre := fun d => cR F g d.1 d.2.1 d.2.2.1 = some d.2.2.2
 out := fun d => match d.2.2.2 with | .inl r => .ret (.val .expr r.1) [.box 3 (.val qy r.2)] | .inr p => .pan ⟨56, q9, p⟩ [.box 3 (.junk)]
abbrev jC (F : Md) (g : qi → Option (wb ⊕ qp)) : List (FuncId × aI) := [(82, (dX F))]
theorem nR [Mx] (F : Md) (g : qi → Option (wb ⊕ qp)) (hg : GOK Tryz.prog GL 84 (bN g)) : bH Tryz.prog GL (jC F g) := .cons (nP F) xAa (.nil)
theorem mX [Mx] (F : Md) (g : qi → Option (wb ⊕ qp)) (hg : GOK Tryz.prog GL 84 (bN g)) : GOK Tryz.prog GL 40 (eE F g) := by
 refine eO (aU (nR F g hg)) Tryz.func40 rfl xAa (fun _ => Nat.le_of_ble_eq_true rfl) fun c0 w0 d hw1 hw2 h hn => ?_
 have hF : gD ⟨Tryz.prog, EM (jC F g), GM (eE F g) c0 d, w0, Tryz.f40.ntmps, []⟩ := ⟨aU (nR F g hg), mix⟩
 obtain ⟨(signs_2 : qd), (kinds_3 : wj), (o0_4 : qi), r⟩ := d
 replace h : cR F g signs_2 kinds_3 o0_4 = some r := h
 have hw1 : AV.wfL [.ptr 0 [], .fn 84 [0] [], .val .str signs_2, .val wm kinds_3] := hw1
 simp only [AV.wfL, AV.wfV, Ty.wf, fG] at hw1
 show Tri _ _ _ [(0, .ptr 0 []), (1, .fn 84 [0] []), (2, .val .str signs_2), (3, .val wm kinds_3)] [.box 3 (.val qy o0_4)]
 unfold cR at h
 refine aB (aR hF [0, 1, 2, 7, 8] (yaA ?_))
 obtain ⟨e, he1, h⟩ := bind_some h
 rcases e with r_10 | p_11
 ·try dsimp only at h
  refine aA (aB (aC hF (aG (l := [(84, ⟨(bN g), [0], (o0_4, .inl r_10)⟩)]) (.cons hg xAa (.nil))) [0, 1, 2, 7, 8, 9] [] (yaB ?_)))
  refine aA (dH (oC (D := qi × Ex) [2] (fun d => [(0, .ptr 0 []), (1, .fn 84 [0] []), (7, .ptr 1 []), (8, .ptr 2 []), (9, .ptr 3 [])]) (fun d => [.inr (.box 3 (.val qy d.1)), .inr (.box 2 (.val wm kinds_3)), .inr (.box 3 (.val .expr (Ex.mk 0 [] []))), .inr (.box 3 (.val .expr d.2))]) h ?_ ?_ ?_))
  ·first | rfl | (simp only [go_sem]; done)
  ·exact zAG
  rintro ⟨r_16, e_17⟩ s2 h hs2
  simp only [go_sem]
  try dsimp only at h
  unfold cK at h
  obtain ⟨r_25, he2, h⟩ := bind_some h
  try dsimp only at h
  refine dH (aB (aC hF (aG (l := [(81, ⟨kX F, [0], (signs_2, r_16, r_25)⟩)]) (.cons (sS F) xAa (.nil))) [0, 1, 2, 7, 8, 9, 10, 11] [] (yaB ?_)))
  refine aA (aB (aB (aF hF [0, 1, 2, 7, 8, 9, 10, 22] (yaA ?_))))
  refine aA (bC rfl (fun hc => ?_) (fun hc => ?_))
  ·try simp only [go_sem] at hc
   exact zat
  ·try simp only [go_sem] at hc
   have h := dQ zAB h
   refine bY (aA (aB (aF hF [0, 1, 2, 7, 8, 9, 12] (yaA ?_))))
   obtain ⟨g0, h⟩ := aM h
   obtain ⟨g1, h⟩ := aM h
   repeat (refine ⟨zAA, ?_⟩)
   obtain ⟨e, he3, h⟩ := bind_some h
   rcases e with r_26 | p_28
   ·try dsimp only at h
    obtain ⟨r_27, he4, h⟩ := bind_some h
    try dsimp only at h
    refine aA (qY hF (aG (l := [(84, ⟨(bN g), [0], (r_25.2, .inl r_26)⟩), (83, ⟨fU F, [0], ((kinds_3.getD ((aV F signs_2 r_25.1.1).getD (0 : Int)).toNat (0 : Int)), (aS ⟨#[]⟩), ([e_17, r_26.1] : List Ex), r_26.2, r_27)⟩)]) (.cons hg xAa (.cons (lH F) xAa (.nil)))) [] [0, 1, 2, 7, 8, 9] [4, 6, 7] [[0], [12], [9], [1], [32], [31, 33], [29, 30, 34], [9, 35]] [(0, 0), (0, 1), (1, 0), (1, 1), (2, 0), (2, 1), (2, 2), (3, 0), (4, 0), (5, 1), (6, 1), (7, 2)] [.ptr 0 [], .val qe (kinds_3.getD ((aV F signs_2 r_25.1.1).getD (0 : Int)).toNat (0 : Int)), .val .expr e_17, .fn 84 [0] [], .val .expr r_26.1, .full .expr ([e_17, r_26.1] : List Ex), .val .expr r_27.1, .junk] [[.box 3 (.val qy r_25.2), .box 2 (.val wm kinds_3), .box 3 (.val .expr (Ex.mk 0 [] [])), .box 3 (.val .expr e_17)], [.box 3 (.val qy r_26.2), .box 2 (.val wm kinds_3), .box 3 (.val .expr (Ex.mk 0 [] [])), .box 3 (.val .expr e_17)], [.box 3 (.val qy r_27.2), .box 2 (.val wm kinds_3), .box 3 (.val .expr (Ex.mk 0 [] [])), .box 3 (.val .expr e_17)], [.box 3 (.val qy r_27.2), .box 2 (.val wm kinds_3), .box 3 (.val .expr (Ex.mk 0 [] [])), .box 3 (.val .expr r_27.1)]] [[(0, .ptr 0 [])], [(12, .val qe (kinds_3.getD ((aV F signs_2 r_25.1.1).getD (0 : Int)).toNat (0 : Int)))], [(9, .ptr 3 [])], [(1, .fn 84 [0] [])], [(32, .fn 84 [0] [])], [(31, .val .expr e_17), (33, .val .expr r_26.1)], [(29, .ptr 0 []), (30, .val qe (kinds_3.getD ((aV F signs_2 r_25.1.1).getD (0 : Int)).toNat (0 : Int))), (34, .full .expr ([e_17, r_26.1] : List Ex))], [(9, .ptr 3 []), (35, .val .expr r_27.1)]] false xAc rfl rfl ?_ ?_)
    ·simp only [go_sem]
     exact zaJ
    intro _
    show At _ _ [(0, .ptr 0 []), (1, .fn 84 [0] []), (2, .val .str signs_2), (7, .ptr 1 []), (8, .ptr 2 []), (9, .ptr 3 [])] [.box 3 (.val qy r_27.2), .box 2 (.val wm kinds_3), .box 3 (.val .expr (Ex.mk 0 [] [])), .box 3 (.val .expr r_27.1)]
    obtain rfl := Option.some.inj h
    dsimp only [lR] at hs2
    refine aZ (bO (aY (r_27.2, r_27.1) hs2 rfl ?_))
    ·exact zAG
   ·try dsimp only at h
    refine aA (qY hF (aG (l := [(84, ⟨(bN g), [0], (r_25.2, .inr p_28)⟩)]) (.cons hg xAa (.nil))) [] [0, 1, 2, 7, 8, 9] [4] [[0], [12], [9], [1], [32], [31, 33], [29, 30, 34], [9, 35]] [(0, 0), (1, 0), (2, 0), (3, 0), (4, 0)] [.ptr 0 [], .val qe (kinds_3.getD ((aV F signs_2 r_25.1.1).getD (0 : Int)).toNat (0 : Int)), .val .expr e_17, .fn 84 [0] [], .junk, .junk, .junk, .junk] [[.box 3 (.val qy r_25.2), .box 2 (.val wm kinds_3), .box 3 (.val .expr (Ex.mk 0 [] [])), .box 3 (.val .expr e_17)]] [[(0, .ptr 0 [])], [(12, .val qe (kinds_3.getD ((aV F signs_2 r_25.1.1).getD (0 : Int)).toNat (0 : Int)))], [(9, .ptr 3 [])], [(1, .fn 84 [0] [])], [(32, .fn 84 [0] [])], [(31, .val .expr e_17), (33, .junk)], [(29, .ptr 0 []), (30, .val qe (kinds_3.getD ((aV F signs_2 r_25.1.1).getD (0 : Int)).toNat (0 : Int))), (34, .junk)], [(9, .ptr 3 []), (35, .junk)]] true xAc rfl rfl ?_ ?_)
    rotate_left
    exact fun h => absurd h xAc
    exact zag
 ·try dsimp only at h
  refine aA (aB (aC hF (aG (l := [(84, ⟨(bN g), [0], (o0_4, .inr p_11)⟩)]) (.cons hg xAa (.nil))) [0, 1, 2, 7, 8, 9] [] (yaB ?_)))
  exact zaH
attribute [go_sem] eE
def gS (F : Md) (g : qi → Option (wb ⊕ qp)) (o0_1 : qi) : Option (wb ⊕ qp) :=
 (cR F g (aS ⟨#[42, 47]⟩) ([8, 9] : List Int) o0_1).bind (fun e => match e with | .inl r_7 => some (.inl (r_7.1, r_7.2)) | .inr p_8 => some (.inr p_8))
def gI (F : Md) (g : qi → Option (wb ⊕ qp)) : gH where
 D := qi × (wb ⊕ qp)
 av := fun d => [.ptr 0 []]
 hp := fun d => [.box 3 (.val qy d.1)]
 m := 1
 pre := fun d => gS F g d.1 = some d.2
 out := fun d => match d.2 with | .inl r => .ret (.val .expr r.1) [.box 3 (.val qy r.2)] | .inr p => .pan ⟨56, q9, p⟩ [.box 3 (.junk)]
abbrev aAi (F : Md) (g : qi → Option (wb ⊕ qp)) : List (FuncId × aI) := []
theorem aAj [Mx] (F : Md) (g : qi → Option (wb ⊕ qp)) (hg : GOK Tryz.prog GL 84 (bN g)) : bH Tryz.prog GL (aAi F g) := .nil
theorem oF [Mx] (F : Md) (g : qi → Option (wb ⊕ qp)) (hg : GOK Tryz.prog GL 84 (bN g)) : GOK Tryz.prog GL 41 (gI F g) := by
 refine eO (aU (aAj F g hg)) Tryz.func41 rfl xAa (fun _ => Nat.le_of_ble_eq_true rfl) fun c0 w0 d hw1 hw2 h hn => ?_
 have hF : gD ⟨Tryz.prog, EM (aAi F g), GM (gI F g) c0 d, w0, Tryz.f41.ntmps, []⟩ := ⟨aU (aAj F g hg), mix⟩
 obtain ⟨(o0_1 : qi), r⟩ := d
 replace h : gS F g o0_1 = some r := h
 have hw1 : AV.wfL [.ptr 0 []] := hw1
 simp only [AV.wfL, AV.wfV, Ty.wf, fG] at hw1
 show Tri _ _ _ [(0, .ptr 0 [])] [.box 3 (.val qy o0_1)]
 unfold gS at h
 refine aB (aR hF [0, 2] (yaA ?_))
 obtain ⟨e, he1, h⟩ := bind_some h
 rcases e with r_7 | p_8
 ·try dsimp only at h
  refine aA (aB (aC hF (aG (l := [(40, ⟨(eE F g), [0], ((aS ⟨#[42, 47]⟩), ([8, 9] : List Int), o0_1, .inl r_7)⟩)]) (.cons (mX F g hg) xAa (.nil))) [2] [] (yaB ?_)))
  exact zaS
 ·try dsimp only at h
  refine aA (aB (aC hF (aG (l := [(40, ⟨(eE F g), [0], ((aS ⟨#[42, 47]⟩), ([8, 9] : List Int), o0_1, .inr p_8)⟩)]) (.cons (mX F g hg) xAa (.nil))) [2] [] (yaB ?_)))
  exact zaH
attribute [go_sem] gI
def lZ (F : Md) (g : qi → Option (wb ⊕ qp)) (signs_2 : qd) (kinds_3 : wj) (r_16 : qi) (e_17 : Ex) : Option ((qi × Ex) ⊕ (wb ⊕ qp)) :=
 (fT F signs_2 r_16).bind (fun r_25 => if ¬ (r_25.1.2.1 = true) then some (.inr (.inl (e_17, r_25.2))) else ck ((aV F signs_2 r_25.1.1).isSome = true) (ck (0 ≤ ((aV F signs_2 r_25.1.1).getD (0 : Int)) ∧ ((aV F signs_2 r_25.1.1).getD (0 : Int)) < (2 : Int)) ((gS F g r_25.2).bind (fun e => match e with | .inl r_26 => (eF F (kinds_3.getD ((aV F signs_2 r_25.1.1).getD (0 : Int)).toNat (0 : Int)) (aS ⟨#[]⟩) ([e_17, r_26.1] : List Ex) r_26.2).bind (fun r_27 => some (.inl (r_27.2, r_27.1))) | .inr p_28 => some (.inr (.inr p_28))))))
def fM (F : Md) (g : qi → Option (wb ⊕ qp)) (signs_2 : qd) (kinds_3 : wj) (o0_4 : qi) : Option (wb ⊕ qp) :=
 (gS F g o0_4).bind (fun e => match e with | .inl r_10 => (eJ F (fun d : qi × Ex => lZ F g signs_2 kinds_3 d.1 d.2) (r_10.2, r_10.1)).bind (fun e => match e with | (.inl e) => some (.inl e) | (.inr e) => some (.inr e)) | .inr p_11 => some (.inr p_11))
def eA (F : Md) (g : qi → Option (wb ⊕ qp)) : gH where
 D := qd × wj × qi × (wb ⊕ qp)
 av := fun d => [.ptr 0 [], .fn 41 [0] [], .val .str d.1, .val wm d.2.1]
 hp := fun d => [.box 3 (.val qy d.2.2.1)]
 m := 1
 pre := fun d => fM F g d.1 d.2.1 d.2.2.1 = some d.2.2.2
 out := fun d => match d.2.2.2 with | .inl r => .ret (.val .expr r.1) [.box 3 (.val qy r.2)] | .inr p => .pan ⟨56, q9, p⟩ [.box 3 (.junk)]
abbrev iP (F : Md) (g : qi → Option (wb ⊕ qp)) : List (FuncId × aI) := [(82, (dX F))]
theorem mY [Mx] (F : Md) (g : qi → Option (wb ⊕ qp)) (hg : GOK Tryz.prog GL 84 (bN g)) : bH Tryz.prog GL (iP F g) := .cons (nP F) xAa (.nil)
theorem mR [Mx] (F : Md) (g : qi → Option (wb ⊕ qp)) (hg : GOK Tryz.prog GL 84 (bN g)) : GOK Tryz.prog GL 40 (eA F g) := by
 refine eO (aU (mY F g hg)) Tryz.func40 rfl xAa (fun _ => Nat.le_of_ble_eq_true rfl) fun c0 w0 d hw1 hw2 h hn => ?_
 have hF : gD ⟨Tryz.prog, EM (iP F g), GM (eA F g) c0 d, w0, Tryz.f40.ntmps, []⟩ := ⟨aU (mY F g hg), mix⟩
 obtain ⟨(signs_2 : qd), (kinds_3 : wj), (o0_4 : qi), r⟩ := d
 replace h : fM F g signs_2 kinds_3 o0_4 = some r := h
 have hw1 : AV.wfL [.ptr 0 [], .fn 41 [0] [], .val .str signs_2, .val wm kinds_3] := hw1
 simp only [AV.wfL, AV.wfV, Ty.wf, fG] at hw1
 show Tri _ _ _ [(0, .ptr 0 []), (1, .fn 41 [0] []), (2, .val .str signs_2), (3, .val wm kinds_3)] [.box 3 (.val qy o0_4)]
 unfold fM at h
 refine aB (aR hF [0, 1, 2, 7, 8] (yaA ?_))
 obtain ⟨e, he1, h⟩ := bind_some h
 rcases e with r_10 | p_11
 ·try dsimp only at h
  refine aA (aB (aC hF (aG (l := [(41, ⟨(gI F g), [0], (o0_4, .inl r_10)⟩)]) (.cons (oF F g hg) xAa (.nil))) [0, 1, 2, 7, 8, 9] [] (yaB ?_)))
  refine aA (dH (oC (D := qi × Ex) [2] (fun d => [(0, .ptr 0 []), (1, .fn 41 [0] []), (7, .ptr 1 []), (8, .ptr 2 []), (9, .ptr 3 [])]) (fun d => [.inr (.box 3 (.val qy d.1)), .inr (.box 2 (.val wm kinds_3)), .inr (.box 3 (.val .expr (Ex.mk 0 [] []))), .inr (.box 3 (.val .expr d.2))]) h ?_ ?_ ?_))
  ·first | rfl | (simp only [go_sem]; done)
  ·exact zAG
  rintro ⟨r_16, e_17⟩ s2 h hs2
  simp only [go_sem]
  try dsimp only at h
  unfold lZ at h
  obtain ⟨r_25, he2, h⟩ := bind_some h
  try dsimp only at h
  refine dH (aB (aC hF (aG (l := [(81, ⟨kX F, [0], (signs_2, r_16, r_25)⟩)]) (.cons (sS F) xAa (.nil))) [0, 1, 2, 7, 8, 9, 10, 11] [] (yaB ?_)))
  refine aA (aB (aB (aF hF [0, 1, 2, 7, 8, 9, 10, 22] (yaA ?_))))
  refine aA (bC rfl (fun hc => ?_) (fun hc => ?_))
  ·try simp only [go_sem] at hc
   exact zat
  ·try simp only [go_sem] at hc
   have h := dQ zAB h
   refine bY (aA (aB (aF hF [0, 1, 2, 7, 8, 9, 12] (yaA ?_))))
   obtain ⟨g0, h⟩ := aM h
   obtain ⟨g1, h⟩ := aM h
   repeat (refine ⟨zAA, ?_⟩)
   obtain ⟨e, he3, h⟩ := bind_some h
   rcases e with r_26 | p_28
   ·try dsimp only at h
    obtain ⟨r_27, he4, h⟩ := bind_some h
    try dsimp only at h
    refine aA (qY hF (aG (l := [(41, ⟨(gI F g), [0], (r_25.2, .inl r_26)⟩), (83, ⟨fU F, [0], ((kinds_3.getD ((aV F signs_2 r_25.1.1).getD (0 : Int)).toNat (0 : Int)), (aS ⟨#[]⟩), ([e_17, r_26.1] : List Ex), r_26.2, r_27)⟩)]) (.cons (oF F g hg) xAa (.cons (lH F) xAa (.nil)))) [] [0, 1, 2, 7, 8, 9] [4, 6, 7] [[0], [12], [9], [1], [32], [31, 33], [29, 30, 34], [9, 35]] [(0, 0), (0, 1), (1, 0), (1, 1), (2, 0), (2, 1), (2, 2), (3, 0), (4, 0), (5, 1), (6, 1), (7, 2)] [.ptr 0 [], .val qe (kinds_3.getD ((aV F signs_2 r_25.1.1).getD (0 : Int)).toNat (0 : Int)), .val .expr e_17, .fn 41 [0] [], .val .expr r_26.1, .full .expr ([e_17, r_26.1] : List Ex), .val .expr r_27.1, .junk] [[.box 3 (.val qy r_25.2), .box 2 (.val wm kinds_3), .box 3 (.val .expr (Ex.mk 0 [] [])), .box 3 (.val .expr e_17)], [.box 3 (.val qy r_26.2), .box 2 (.val wm kinds_3), .box 3 (.val .expr (Ex.mk 0 [] [])), .box 3 (.val .expr e_17)], [.box 3 (.val qy r_27.2), .box 2 (.val wm kinds_3), .box 3 (.val .expr (Ex.mk 0 [] [])), .box 3 (.val .expr e_17)], [.box 3 (.val qy r_27.2), .box 2 (.val wm kinds_3), .box 3 (.val .expr (Ex.mk 0 [] [])), .box 3 (.val .expr r_27.1)]] [[(0, .ptr 0 [])], [(12, .val qe (kinds_3.getD ((aV F signs_2 r_25.1.1).getD (0 : Int)).toNat (0 : Int)))], [(9, .ptr 3 [])], [(1, .fn 41 [0] [])], [(32, .fn 41 [0] [])], [(31, .val .expr e_17), (33, .val .expr r_26.1)], [(29, .ptr 0 []), (30, .val qe (kinds_3.getD ((aV F signs_2 r_25.1.1).getD (0 : Int)).toNat (0 : Int))), (34, .full .expr ([e_17, r_26.1] : List Ex))], [(9, .ptr 3 []), (35, .val .expr r_27.1)]] false xAc rfl rfl ?_ ?_)
    ·simp only [go_sem]
     exact zaJ
    intro _
    show At _ _ [(0, .ptr 0 []), (1, .fn 41 [0] []), (2, .val .str signs_2), (7, .ptr 1 []), (8, .ptr 2 []), (9, .ptr 3 [])] [.box 3 (.val qy r_27.2), .box 2 (.val wm kinds_3), .box 3 (.val .expr (Ex.mk 0 [] [])), .box 3 (.val .expr r_27.1)]
    obtain rfl := Option.some.inj h
    dsimp only [lR] at hs2
    refine aZ (bO (aY (r_27.2, r_27.1) hs2 rfl ?_))
    ·exact zAG
   ·try dsimp only at h
    refine aA (qY hF (aG (l := [(41, ⟨(gI F g), [0], (r_25.2, .inr p_28)⟩)]) (.cons (oF F g hg) xAa (.nil))) [] [0, 1, 2, 7, 8, 9] [4] [[0], [12], [9], [1], [32], [31, 33], [29, 30, 34], [9, 35]] [(0, 0), (1, 0), (2, 0), (3, 0), (4, 0)] [.ptr 0 [], .val qe (kinds_3.getD ((aV F signs_2 r_25.1.1).getD (0 : Int)).toNat (0 : Int)), .val .expr e_17, .fn 41 [0] [], .junk, .junk, .junk, .junk] [[.box 3 (.val qy r_25.2), .box 2 (.val wm kinds_3), .box 3 (.val .expr (Ex.mk 0 [] [])), .box 3 (.val .expr e_17)]] [[(0, .ptr 0 [])], [(12, .val qe (kinds_3.getD ((aV F signs_2 r_25.1.1).getD (0 : Int)).toNat (0 : Int)))], [(9, .ptr 3 [])], [(1, .fn 41 [0] [])], [(32, .fn 41 [0] [])], [(31, .val .expr e_17), (33, .junk)], [(29, .ptr 0 []), (30, .val qe (kinds_3.getD ((aV F signs_2 r_25.1.1).getD (0 : Int)).toNat (0 : Int))), (34, .junk)], [(9, .ptr 3 []), (35, .junk)]] true xAc rfl rfl ?_ ?_)
    rotate_left
    exact fun h => absurd h xAc
    exact zag
 ·try dsimp only at h
  refine aA (aB (aC hF (aG (l := [(41, ⟨(gI F g), [0], (o0_4, .inr p_11)⟩)]) (.cons (oF F g hg) xAa (.nil))) [0, 1, 2, 7, 8, 9] [] (yaB ?_)))
  exact zaH
attribute [go_sem] eA
def kY (F : Md) (g : qi → Option (wb ⊕ qp)) (o0_1 : qi) : Option (wb ⊕ qp) :=
 (fM F g (aS ⟨#[43, 45]⟩) ([6, 7] : List Int) o0_1).bind (fun e => match e with | .inl r_7 => some (.inl (r_7.1, r_7.2)) | .inr p_8 => some (.inr p_8))
def kA (F : Md) (g : qi → Option (wb ⊕ qp)) : gH where
 D := qi × (wb ⊕ qp)
 av := fun d => [.ptr 0 []]
 hp := fun d => [.box 3 (.val qy d.1)]
 m := 1
 pre := fun d => kY F g d.1 = some d.2
 out := fun d => match d.2 with | .inl r => .ret (.val .expr r.1) [.box 3 (.val qy r.2)] | .inr p => .pan ⟨56, q9, p⟩ [.box 3 (.junk)]
abbrev aDx (F : Md) (g : qi → Option (wb ⊕ qp)) : List (FuncId × aI) := []
theorem aDy [Mx] (F : Md) (g : qi → Option (wb ⊕ qp)) (hg : GOK Tryz.prog GL 84 (bN g)) : bH Tryz.prog GL (aDx F g) := .nil
theorem rR [Mx] (F : Md) (g : qi → Option (wb ⊕ qp)) (hg : GOK Tryz.prog GL 84 (bN g)) : GOK Tryz.prog GL 19 (kA F g) := by
 refine eO (aU (aDy F g hg)) Tryz.func19 rfl xAa (fun _ => Nat.le_of_ble_eq_true rfl) fun c0 w0 d hw1 hw2 h hn => ?_
 have hF : gD ⟨Tryz.prog, EM (aDx F g), GM (kA F g) c0 d, w0, Tryz.f19.ntmps, []⟩ := ⟨aU (aDy F g hg), mix⟩
 obtain ⟨(o0_1 : qi), r⟩ := d
 replace h : kY F g o0_1 = some r := h
 have hw1 : AV.wfL [.ptr 0 []] := hw1
 simp only [AV.wfL, AV.wfV, Ty.wf, fG] at hw1
 show Tri _ _ _ [(0, .ptr 0 [])] [.box 3 (.val qy o0_1)]
 unfold kY at h
 refine aB (aR hF [0, 2] (yaA ?_))
 obtain ⟨e, he1, h⟩ := bind_some h
 rcases e with r_7 | p_8
 ·try dsimp only at h
  refine aA (aB (aC hF (aG (l := [(40, ⟨(eA F g), [0], ((aS ⟨#[43, 45]⟩), ([6, 7] : List Int), o0_1, .inl r_7)⟩)]) (.cons (mR F g hg) xAa (.nil))) [2] [] (yaB ?_)))
  exact zaS
 ·try dsimp only at h
  refine aA (aB (aC hF (aG (l := [(40, ⟨(eA F g), [0], ((aS ⟨#[43, 45]⟩), ([6, 7] : List Int), o0_1, .inr p_8)⟩)]) (.cons (mR F g hg) xAa (.nil))) [2] [] (yaB ?_)))
  exact zaH
attribute [go_sem] kA
def iC (F : Md) (g : qi → Option (wb ⊕ qp)) (o0_1 : qi) : Option (wb ⊕ qp) :=
 (fI F (aS ⟨#[40]⟩) o0_1).bind (fun e => match e with | .inl r_7 => (kY F g r_7).bind (fun e => match e with | .inl r_13 => (fI F (aS ⟨#[41]⟩) r_13.2).bind (fun e => match e with | .inl r_19 => some (.inl (r_13.1, r_19)) | .inr p_20 => some (.inr p_20)) | .inr p_14 => some (.inr p_14)) | .inr p_8 => some (.inr p_8))
def gT (F : Md) (g : qi → Option (wb ⊕ qp)) : gH where
 D := qi × (wb ⊕ qp)
 av := fun d => [.ptr 0 []]
 hp := fun d => [.box 3 (.val qy d.1)]
 m := 1
 pre := fun d => iC F g d.1 = some d.2
 out := fun d => match d.2 with | .inl r => .ret (.val .expr r.1) [.box 3 (.val qy r.2)] | .inr p => .pan ⟨56, q9, p⟩ [.box 3 (.junk)]
abbrev aAW (F : Md) (g : qi → Option (wb ⊕ qp)) : List (FuncId × aI) := []
theorem aAX [Mx] (F : Md) (g : qi → Option (wb ⊕ qp)) (hg : GOK Tryz.prog GL 84 (bN g)) : bH Tryz.prog GL (aAW F g) := .nil
theorem pA [Mx] (F : Md) (g : qi → Option (wb ⊕ qp)) (hg : GOK Tryz.prog GL 84 (bN g)) : GOK Tryz.prog GL 120 (gT F g) := by
 refine eO (aU (aAX F g hg)) Tryz.func120 rfl xAa (fun _ => Nat.le_of_ble_eq_true rfl) fun c0 w0 d hw1 hw2 h hn => ?_
 have hF : gD ⟨Tryz.prog, EM (aAW F g), GM (gT F g) c0 d, w0, Tryz.f120.ntmps, []⟩ := ⟨aU (aAX F g hg), mix⟩
 obtain ⟨(o0_1 : qi), r⟩ := d
 replace h : iC F g o0_1 = some r := h
 have hw1 : AV.wfL [.ptr 0 []] := hw1
 simp only [AV.wfL, AV.wfV, Ty.wf, fG] at hw1
 show Tri _ _ _ [(0, .ptr 0 [])] [.box 3 (.val qy o0_1)]
 unfold iC at h
 refine aB (aR hF [0, 2] (yaA ?_))
 obtain ⟨e, he1, h⟩ := bind_some h
 rcases e with r_7 | p_8
 ·try dsimp only at h
  refine aA (aB (aC hF (aG (l := [(162, ⟨jB F, [0], ((aS ⟨#[40]⟩), o0_1, .inl r_7)⟩)]) (.cons (rB F) xAa (.nil))) [0, 2] [] (yaB ?_)))
  obtain ⟨e, he2, h⟩ := bind_some h
  rcases e with r_13 | p_14
  ·try dsimp only at h
   refine aA (aB (aC hF (aG (l := [(19, ⟨(kA F g), [0], (r_7, .inl r_13)⟩)]) (.cons (rR F g hg) xAa (.nil))) [0, 2, 3] [] (yaB ?_)))
   obtain ⟨e, he3, h⟩ := bind_some h
   rcases e with r_19 | p_20
   ·try dsimp only at h
    refine aA (aB (aC hF (aG (l := [(162, ⟨jB F, [0], ((aS ⟨#[41]⟩), r_13.2, .inl r_19)⟩)]) (.cons (rB F) xAa (.nil))) [2, 3] [] (yaB ?_)))
    refine aA (aB (aR hF [2] (yaA ?_)))
    exact zaS
   ·try dsimp only at h
    refine aA (aB (aC hF (aG (l := [(162, ⟨jB F, [0], ((aS ⟨#[41]⟩), r_13.2, .inr p_20)⟩)]) (.cons (rB F) xAa (.nil))) [2, 3] [] (yaB ?_)))
    exact zaH
  ·try dsimp only at h
   refine aA (aB (aC hF (aG (l := [(19, ⟨(kA F g), [0], (r_7, .inr p_14)⟩)]) (.cons (rR F g hg) xAa (.nil))) [0, 2, 3] [] (yaB ?_)))
   exact zaH
 ·try dsimp only at h
  refine aA (aB (aC hF (aG (l := [(162, ⟨jB F, [0], ((aS ⟨#[40]⟩), o0_1, .inr p_8)⟩)]) (.cons (rB F) xAa (.nil))) [0, 2] [] (yaB ?_)))
  exact zaH
attribute [go_sem] gT
def iU (F : Md) (g : qi → Option (wb ⊕ qp)) (o0_1 : qi) : Option (wb ⊕ qp) :=
 (fT F (aS ⟨#[45]⟩) o0_1).bind (fun r_8 => if r_8.1.2.1 = true then (g r_8.2).bind (fun e => match e with | .inl r_15 => (eF F (10 : Int) (aS ⟨#[]⟩) ([r_15.1] : List Ex) r_15.2).bind (fun r_16 => some (.inl (r_16.1, r_16.2))) | .inr p_17 => some (.inr p_17)) else if r_8.2.2.1 = (r_8.2.1.length : Int) then some (.inr (r_8.2.2.1, ())) else ck (0 ≤ r_8.2.2.1 ∧ r_8.2.2.1 < (r_8.2.1.length : Int)) (if (r_8.2.1.getD (r_8.2.2.1.toNat) (0 : Nat)) = (40 : Nat) then (iC F g r_8.2).bind (fun e => match e with | .inl r_26 => some (.inl (r_26.1, r_26.2)) | .inr p_27 => some (.inr p_27)) else ck (0 ≤ r_8.2.2.1 ∧ r_8.2.2.1 < (r_8.2.1.length : Int)) (ck ((aV F (aS yL) (r_8.2.1.getD (r_8.2.2.1.toNat) (0 : Nat))).isSome = true) (if ((aV F (aS yL) (r_8.2.1.getD (r_8.2.2.1.toNat) (0 : Nat))).getD (0 : Int)) < (0 : Int) then (kG F r_8.2).bind (fun e => match e with | .inl r_32 => some (.inl (r_32.1, r_32.2)) | .inr p_33 => some (.inr p_33)) else (mH F r_8.2).bind (fun r_35 => if (aBA .str (zJ .str (zJ .str (zJ .str ([] : List wt) (aS ⟨#[115, 113, 114]⟩) (11 : Int)) (aS ⟨#[115, 113, 114, 116]⟩) (12 : Int)) (aS ⟨#[101, 120, 112]⟩) (13 : Int)) r_35.1).isSome = true then (iC F g r_35.2).bind (fun e => match e with | .inl r_45 => (eF F ((aBA .str (zJ .str (zJ .str (zJ .str ([] : List wt) (aS ⟨#[115, 113, 114]⟩) (11 : Int)) (aS ⟨#[115, 113, 114, 116]⟩) (12 : Int)) (aS ⟨#[101, 120, 112]⟩) (13 : Int)) r_35.1).getD (0 : Int)) (aS ⟨#[]⟩) ([r_45.1] : List Ex) r_45.2).bind (fun r_46 => some (.inl (r_46.1, r_46.2))) | .inr p_47 => some (.inr p_47)) else (eF F (2 : Int) r_35.1 ([] : List Ex) r_35.2).bind (fun r_49 => some (.inl (r_49.1, r_49.2))))))))
def zG (F : Md) (g : qi → Option (wb ⊕ qp)) : gH where
 D := qi × (wb ⊕ qp)
 av := fun d => [.ptr 0 []]
 hp := fun d => [.box 3 (.val qy d.1)]
 m := 1
 pre := fun d => iU F g d.1 = some d.2
 out := fun d => match d.2 with | .inl r => .ret (.val .expr r.1) [.box 3 (.val qy r.2)] | .inr p => .pan ⟨56, q9, p⟩ [.box 3 (.junk)]
abbrev uA (F : Md) (g : qi → Option (wb ⊕ qp)) : List (FuncId × aI) := [(82, (dX F))]
theorem aAY [Mx] (F : Md) (g : qi → Option (wb ⊕ qp)) (hg : GOK Tryz.prog GL 84 (bN g)) : bH Tryz.prog GL (uA F g) := .cons (nP F) xAa (.nil)
theorem aFa [Mx] (F : Md) (g : qi → Option (wb ⊕ qp)) (hg : GOK Tryz.prog GL 84 (bN g)) : GOK Tryz.prog GL 84 (zG F g) := by
 refine eO (aU (aAY F g hg)) Tryz.func84 rfl xAa (fun _ => Nat.le_of_ble_eq_true rfl) fun c0 w0 d hw1 hw2 h hn => ?_
 have hF : gD ⟨Tryz.prog, EM (uA F g), GM (zG F g) c0 d, w0, Tryz.f84.ntmps, []⟩ := ⟨aU (aAY F g hg), mix⟩
 obtain ⟨(o0_1 : qi), r⟩ := d
 replace h : iU F g o0_1 = some r := h
 have hw1 : AV.wfL [.ptr 0 []] := hw1
 simp only [AV.wfL, AV.wfV, Ty.wf, fG] at hw1
 show Tri _ _ _ [(0, .ptr 0 [])] [.box 3 (.val qy o0_1)]
 unfold iU at h
 refine aB (aR hF [0, 2] (yaA ?_))
 obtain ⟨r_8, he1, h⟩ := bind_some h
 try dsimp only at h
 refine aA (aB (aB (aC hF (aG (l := [(81, ⟨kX F, [0], ((aS ⟨#[45]⟩), o0_1, r_8)⟩)]) (.cons (sS F) xAa (.nil))) [0, 2, 4] [] (yaB ?_))))
 refine aA (aB (aF hF [0, 2, 13] (yaA ?_)))
 refine aA (bC rfl (fun hc => ?_) (fun hc => ?_))
 ·try simp only [go_sem] at hc
  have h := dP zAB h
  obtain ⟨e, he2, h⟩ := bind_some h
  rcases e with r_15 | p_17
  ·try dsimp only at h
   obtain ⟨r_16, he3, h⟩ := bind_some h
   try dsimp only at h
   refine aB (aC hF (aG (l := [(84, ⟨(bN g), [0], (r_8.2, .inl r_15)⟩), (83, ⟨fU F, [0], ((10 : Int), (aS ⟨#[]⟩), ([r_15.1] : List Ex), r_15.2, r_16)⟩)]) (.cons hg xAa (.cons (lH F) xAa (.nil)))) [2] [] (yaB ?_))
   obtain rfl := Option.some.inj h
   refine aA (cA (cE (kK hF [.cell 2 27] [0] rfl rfl rfl rfl rfl rfl rfl rfl rfl ?_)))
   exact zaB
  ·try dsimp only at h
   refine aB (aC hF (aG (l := [(84, ⟨(bN g), [0], (r_8.2, .inr p_17)⟩)]) (.cons hg xAa (.nil))) [2] [] (yaB ?_))
   obtain rfl := Option.some.inj h
   refine aO (aO (bP [0] rfl rfl (yaC ?_)))
   exact zaa
 ·try simp only [go_sem] at hc
  have h := dQ zAB h
  refine bY (aA (aB (dH (aB (aF hF [0, 2, 19] (yaA ?_))))))
  refine aA (bC rfl (fun hc => ?_) (fun hc => ?_))
  ·try simp only [go_sem] at hc
   have h := dP zAB h
   refine aC hF (aG (l := []) (.nil)) [0, 2] [] (yaB ?_)
   obtain rfl := Option.some.inj h
   refine bX (aO (bP [0] rfl rfl (yaC ?_)))
   exact zaa
  ·try simp only [go_sem] at hc
   have h := dQ zAB h
   refine aB (aF hF [0, 2, 36] (yaA ?_))
   obtain ⟨g0, h⟩ := aM h
   repeat (refine ⟨zAA, ?_⟩)
   refine aA (bC rfl (fun hc => ?_) (fun hc => ?_))
   ·try simp only [go_sem] at hc
    have h := dP zAB h
    obtain ⟨e, he4, h⟩ := bind_some h
    rcases e with r_26 | p_27
    ·try dsimp only at h
     refine aB (aC hF (aG (l := [(120, ⟨(gT F g), [0], (r_8.2, .inl r_26)⟩)]) (.cons (pA F g hg) xAa (.nil))) [2] [] (yaB ?_))
     obtain rfl := Option.some.inj h
     refine aA (cA (fQ (cE (kK hF [.cell 2 27] [0] rfl rfl rfl rfl rfl rfl rfl rfl rfl ?_))))
     exact zaB
    ·try dsimp only at h
     refine aB (aC hF (aG (l := [(120, ⟨(gT F g), [0], (r_8.2, .inr p_27)⟩)]) (.cons (pA F g hg) xAa (.nil))) [2] [] (yaB ?_))
     obtain rfl := Option.some.inj h
     refine aO (bX (aO (bP [0] rfl rfl (yaC ?_))))
     exact zaa
   ·try simp only [go_sem] at hc
    have h := dQ zAB h
    refine aB (aF hF [0, 2, 49] (yaA ?_))
    obtain ⟨g0, h⟩ := aM h
    obtain ⟨g1, h⟩ := aM h
    repeat (refine ⟨zAA, ?_⟩)
    refine aA (bC rfl (fun hc => ?_) (fun hc => ?_))
    ·try simp only [go_sem] at hc
     have h := dP zAB h
     obtain ⟨e, he5, h⟩ := bind_some h
     rcases e with r_32 | p_33
     ·try dsimp only at h
      refine aB (aC hF (aG (l := [(121, ⟨lY F, [0], (r_8.2, .inl r_32)⟩)]) (.cons (aAh F) xAa (.nil))) [2] [] (yaB ?_))
      obtain rfl := Option.some.inj h
      refine aA (cA (fQ (cE (kK hF [.cell 2 27] [0] rfl rfl rfl rfl rfl rfl rfl rfl rfl ?_))))
      exact zaB
     ·try dsimp only at h
      refine aB (aC hF (aG (l := [(121, ⟨lY F, [0], (r_8.2, .inr p_33)⟩)]) (.cons (aAh F) xAa (.nil))) [2] [] (yaB ?_))
      obtain rfl := Option.some.inj h
      refine aO (bX (aO (bP [0] rfl rfl (yaC ?_))))
      exact zaa
    ·try simp only [go_sem] at hc
     have h := dQ zAB h
     obtain ⟨r_35, he6, h⟩ := bind_some h
     try dsimp only at h
     refine bY (aZ (aA (aB (aC hF (aG (l := [(122, ⟨rC F, [0], (r_8.2, r_35)⟩)]) (.cons (aHO F) xAa (.nil))) [0, 2, 5] [] (yaB ?_)))))
     refine aA (aB (aB (aR hF [0, 2, 5, 6, 7] (yaA ?_))))
     refine aA (aB (aF hF [0, 2, 5, 6, 72] (yaA ?_)))
     refine aA (bC rfl (fun hc => ?_) (fun hc => ?_))
     ·try simp only [go_sem] at hc
      have h := dP zAB h
      obtain ⟨e, he7, h⟩ := bind_some h
      rcases e with r_45 | p_47
      ·try dsimp only at h
       obtain ⟨r_46, he8, h⟩ := bind_some h
       try dsimp only at h
       refine aB (aC hF (aG (l := [(120, ⟨(gT F g), [0], (r_35.2, .inl r_45)⟩), (83, ⟨fU F, [0], (((aBA .str (zJ .str (zJ .str (zJ .str ([] : List wt) (aS ⟨#[115, 113, 114]⟩) (11 : Int)) (aS ⟨#[115, 113, 114, 116]⟩) (12 : Int)) (aS ⟨#[101, 120, 112]⟩) (13 : Int)) r_35.1).getD (0 : Int)), (aS ⟨#[]⟩), ([r_45.1] : List Ex), r_45.2, r_46)⟩)]) (.cons (pA F g hg) xAa (.cons (lH F) xAa (.nil)))) [2] [] (yaB ?_))
       obtain rfl := Option.some.inj h
       refine aA (cA (cE (kK hF [.cell 2 27] [0] rfl rfl rfl rfl rfl rfl rfl rfl rfl ?_)))
       exact zaB
      ·try dsimp only at h
       refine aB (aC hF (aG (l := [(120, ⟨(gT F g), [0], (r_35.2, .inr p_47)⟩)]) (.cons (pA F g hg) xAa (.nil))) [2] [] (yaB ?_))
       obtain rfl := Option.some.inj h
       refine aO (aO (bP [0] rfl rfl (yaC ?_)))
       exact zaa
     ·try simp only [go_sem] at hc
      have h := dQ zAB h
      obtain ⟨r_49, he9, h⟩ := bind_some h
      try dsimp only at h
      refine bY (aA (aB (aC hF (aG (l := [(83, ⟨fU F, [0], ((2 : Int), r_35.1, ([] : List Ex), r_35.2, r_49)⟩)]) (.cons (lH F) xAa (.nil))) [2] [] (yaB ?_))))
      exact zaS
def gE (F : Md) : Nat → qi → Option (wb ⊕ qp)
 | 0 => fun _ => none
 | n + 1 => iU F (gE F n)
def aAk (F : Md) (n : Nat) : gH where
 D := qi × (wb ⊕ qp)
 av := fun d => [.ptr 0 []]
 hp := fun d => [.box 3 (.val qy d.1)]
 m := 1
 pre := fun d => gE F n d.1 = some d.2
 out := fun d => match d.2 with | .inl r => .ret (.val .expr r.1) [.box 3 (.val qy r.2)] | .inr p => .pan ⟨56, q9, p⟩ [.box 3 (.junk)]
theorem sU [Mx] (F : Md) : ∀ n, GOK Tryz.prog GL 84 (aAk F n)
 | 0 => fun _ _ _ _ hp _ => absurd (show none = some _ from hp) (by simp)
 | n + 1 => aFa F _ (sU F n)
attribute [go_sem] aAk
end
end Nu
end Go.Proofs
namespace Go.Proofs
open Go.Vc
set_option maxRecDepth 20000
namespace Nu
noncomputable section
set_option maxHeartbeats 4000000
attribute [-go_sem] Ex.kind Ex.text Ex.l
def vA : gH where
 D := Ex × Int × Int × Unit
 av := fun _ => [.ptr 0 [], .ptr 1 [], .ptr 2 []]
 hp := fun d => [.box 3 (.val .expr d.1), .box 1 (.val qe d.2.1), .box 1 (.val qe d.2.2.1)]
 m := 3
 pre := fun _ => True
 out := fun d => .ret (.tup []) [.box 3 (.val .expr d.1), .box 1 (.val qe d.2.1), .box 1 (.val qe d.2.2.1)]
def jD (x : qp) : gH where
 D := Unit
 av := fun _ => [.ptr 0 [], .ptr 1 [], .ptr 2 []]
 hp := fun _ => [.box 3 .junk, .box 1 .junk, .box 1 .junk]
 m := 3
 pre := fun _ => True
 out := fun _ => .ret (.tup []) [.box 3 (.val .expr (Ex.mk 0 [] [])), .box 1 (.val qe (x).1), .box 1 (.val qe (6 : Int))]
theorem aN9 [Mx] : DOK Tryz.prog GL 18 none vA := by
 refine aLR (aU aAS) Tryz.func18 rfl xAa (fun _ => Nat.le_of_ble_eq_true rfl) rfl fun c w d hw1 hw2 hp hn => ?_
 have hF : gD ⟨Tryz.prog, EM [], GM vA c d, w, Tryz.f18.ntmps, []⟩ := ⟨aU aAS, mix⟩
 obtain ⟨d0, d1, d2, du⟩ := d
 show sN _ _ _ [(6, .val .nili ()), (0, .ptr 0 []), (1, .ptr 1 []), (2, .ptr 2 [])] [.box 3 (.val .expr d0), .box 1 (.val qe d1), .box 1 (.val qe d2)] _
 exact za1
theorem aB4 [Mx] (x : qp) : DOK Tryz.prog GL 18 (some ⟨56, q9, x⟩) (jD x) := by
 refine aLR (aU aAS) Tryz.func18 rfl xAa (fun _ => Nat.le_of_ble_eq_true rfl) rfl fun c w d hw1 hw2 hp hn => ?_
 have hF : gD ⟨Tryz.prog, EM [], GM (jD x) c d, w, Tryz.f18.ntmps, []⟩ := ⟨aU aAS, mix⟩
 show sN _ _ _ [(6, .val (.ifc 56 q9) x), (0, .ptr 0 []), (1, .ptr 1 []), (2, .ptr 2 [])] [.box 3 .junk, .box 1 .junk, .box 1 .junk] _
 simp only [go_sem]
 refine aB (aF hF [0, 1, 2, 3, 10] (yaA ?_))
 refine aA (bC rfl (fun hc => ?_) (fun hc => absurd hc xAc))
 refine aDU hF [] [] [.box 3 (.val .expr (Ex.mk 0 [] [])), .box 1 (.val qe (x).1), .box 1 (.val qe (6 : Int)), .box 1 (.val q9 x)] xAc ?_ ?_
 ·simp only [go_sem]
  exact zaX
 refine iB [0, 1, 2] rfl rfl (yaC ?_)
 exact zaf
def gF (F : Md) (s_0 : qd) : Option (Ex × (Int × qp)) :=
 (kY F (gE F 64) (s_0, (0 : Int), (0 : Int), ())).bind (fun e => match e with | .inl r_6 => (jZ F r_6.2).bind (fun r_10 => if r_10.2.1 < (s_0.length : Int) then some ((Ex.mk 0 [] []), (r_10.2.1, ()).1, (6 : Int), ()) else ck ((pM F r_6.1).isSome = true) (if ¬ (((pM F r_6.1).getD false) = true) then some ((Ex.mk 0 [] []), ((0 : Int), ()).1, (6 : Int), ()) else some (r_6.1, (0 : Int), (0 : Int), ()))) | .inr p_7 => some ((Ex.mk 0 [] []), (p_7).1, (6 : Int), ()))
@[go_sem]def aCT : Ty := .pair .str .unit
def pN (F : Md) : aI := mSpec aCT (.tup (.pair .expr qn)) (fun x => gF F x.1)
abbrev aCU (F : Md) : List (FuncId × aI) := [(21, (vO F))]
theorem aK1 [Mx] (F : Md) : bH Tryz.prog GL (aCU F) := .cons (aKX F) xAa (.nil)
theorem aEI [Mx] (F : Md) : FOK Tryz.prog GL 9 (pN F) := by
 refine aFS (aU (aK1 F)) Tryz.func9 rfl xAa xAc fun w0 S x r hw h => ?_
 have hF : gD (fr Tryz.prog (EM (aCU F)) S w0 Tryz.f9.ntmps) := ⟨aU (aK1 F), mix⟩
 obtain ⟨(s_0 : qd), u⟩ := x
 simp only [aCT, Ty.wf, fG] at hw
 simp only [bZ, aCT]
 try dsimp only at h
 replace h : gF F s_0 = some r := h
 unfold gF at h
 refine aB (aR hF [0, 2, 3, 4] (yaA ?_))
 refine aA (aBh 3 [0, 1, 2] rfl rfl (Nat.zero_le _) xAc fun roots hroots => (yaA ?_))
 have hF : gD { fr Tryz.prog (EM (aCU F)) S w0 Tryz.f9.ntmps with M := ⟨nothing, S, 3, roots⟩, ds := [⟨.fn (.func 18) ([0, 1, 2].map roots).toArray, #[]⟩] } := ⟨hF.env, mix⟩
 refine aB (aR hF [0, 2, 3, 4, 5] (yaA ?_))
 obtain ⟨e, he1, h⟩ := bind_some h
 rcases e with r_6 | p_7
 ·try dsimp only at h
  refine aA (aB (aC hF (aG (l := [(19, ⟨(kA F (gE F 64)), [3], ((s_0, (0 : Int), (0 : Int), ()), .inl r_6)⟩)]) (.cons (rR F _ (sU F 64)) xAa (.nil))) [0, 2, 3, 4, 5] [] (yaB ?_)))
  obtain ⟨r_10, he2, h⟩ := bind_some h
  try dsimp only at h
  refine aA (aB (aB (aC hF (aG (l := [(20, ⟨nQ F, [3], (r_6.2, r_10)⟩)]) (.cons (aBL F) xAa (.nil))) [0, 2, 3, 4, 5] [] (yaB ?_))))
  refine aA (aB (aF hF [2, 3, 4, 5, 20] (yaA ?_)))
  refine aA (bC rfl (fun hc => ?_) (fun hc => ?_))
  ·try simp only [go_sem] at hc
   have h := dP zAB h
   refine aC hF (aG (l := []) (.nil)) [2, 3, 4] [] (yaB ?_)
   obtain rfl := Option.some.inj h
   refine aO (aL (aJ 0 rfl aH) ?_)
   refine aL (aJ 1 rfl aH) ?_
   refine aL (aJ 2 rfl aH) (yaA ?_)
   refine aCv (fn := Tryz.f9) (k := 3) (l2 := [0, 1, 2]) hF rfl rfl xAc rfl (sO xAa) ⟨jD (r_10.2.1, ()), [0, 1, 2], ()⟩ (aB4 (r_10.2.1, ())) rfl [.cell 2 27, .cell 3 3, .cell 4 3] rfl ?_ ?_
   ·(simp only [jD, go_sem]) <;> first | decide | trivial
   ·(simp only [jD, aT, iF, go_sem]) <;> first | decide | trivial | rfl | (simp; done)
  ·try simp only [go_sem] at hc
   have h := dQ zAB h
   refine bY (aA (aB (aB (aF hF [2, 3, 4, 29] (yaA ?_)))))
   obtain ⟨g0, h⟩ := aM h
   repeat (refine ⟨zAA, ?_⟩)
   refine aA (bC rfl (fun hc => ?_) (fun hc => ?_))
   ·try simp only [go_sem] at hc
    have h := dP zAB h
    refine aC hF (aG (l := []) (.nil)) [2, 3, 4] [] (yaB ?_)
    obtain rfl := Option.some.inj h
    refine aO (aL (aJ 0 rfl aH) ?_)
    refine aL (aJ 1 rfl aH) ?_
    refine aL (aJ 2 rfl aH) (yaA ?_)
    refine aCv (fn := Tryz.f9) (k := 3) (l2 := [0, 1, 2]) hF rfl rfl xAc rfl (sO xAa) ⟨jD ((0 : Int), ()), [0, 1, 2], ()⟩ (aB4 ((0 : Int), ())) rfl [.cell 2 27, .cell 3 3, .cell 4 3] rfl ?_ ?_
    ·(simp only [jD, go_sem]) <;> first | decide | trivial
    ·(simp only [jD, aT, iF, go_sem]) <;> first | decide | trivial | rfl | (simp; done)
   ·try simp only [go_sem] at hc
    have h := dQ zAB h
    refine bY (aA (aB (aR hF [2, 3, 4] (yaA ?_))))
    obtain rfl := Option.some.inj h
    refine aA (cA (aOB (fn := Tryz.f9) (k := 3) (l2 := [0, 1, 2]) hF rfl rfl xAc rfl (sO xAa) ⟨vA, [0, 1, 2], (r_6.1, (0 : Int), (0 : Int), ())⟩ aN9 rfl [.cell 2 27, .cell 3 3, .cell 4 3] rfl ?_ ?_))
    ·(simp only [vA, go_sem]) <;> first | decide | trivial
    ·(simp only [vA, aT, iF, go_sem]) <;> first | decide | trivial | rfl | (simp; done)
 ·try dsimp only at h
  refine aA (aB (aC hF (aG (l := [(19, ⟨(kA F (gE F 64)), [3], ((s_0, (0 : Int), (0 : Int), ()), .inr p_7)⟩)]) (.cons (rR F _ (sU F 64)) xAa (.nil))) [0, 2, 3, 4, 5] [] (yaB ?_)))
  obtain rfl := Option.some.inj h
  refine aO (aL (aJ 0 rfl aH) ?_)
  refine aL (aJ 1 rfl aH) ?_
  refine aL (aJ 2 rfl aH) (yaA ?_)
  refine aCv (fn := Tryz.f9) (k := 3) (l2 := [0, 1, 2]) hF rfl rfl xAc rfl (sO xAa) ⟨jD (p_7), [0, 1, 2], ()⟩ (aB4 (p_7)) rfl [.cell 2 27, .cell 3 3, .cell 4 3] rfl ?_ ?_
  ·(simp only [jD, go_sem]) <;> first | decide | trivial
  ·(simp only [jD, aT, iF, go_sem]) <;> first | decide | trivial | rfl | (simp; done)
attribute [go_sem] pN
end
end Nu
end Go.Proofs
namespace Go.Proofs
open Go.Shelf
def Tryz.lays143_ren : Go.Shelf.Ren := ⟨fun | 143 => 88 | 219 => 89 | 217 => 119 | 225 => 126 | 224 => 127 | 267 => 128 | 266 => 161 | 314 => 165 | n => n, fun | 9 => 9 | 3 => 3 | 4 => 4 | 5 => 5 | 46 => 24 | 146 => 209 | 51 => 208 | n => n, fun | 1 => 0 | n => n⟩
theorem Tryz.lays143 : Go.Proofs.Lays.n143 Tryz.prog Tryz.lays143_ren := {
 mixed := by kernel_rfl
 f143 := Tryz.func88.trans (congrArg some (by kernel_rfl))
 f217 := Tryz.func119.trans (congrArg some (by kernel_rfl))
 f219 := Tryz.func89.trans (congrArg some (by kernel_rfl))
 f224 := Tryz.func127.trans (congrArg some (by kernel_rfl))
 f225 := Tryz.func126.trans (congrArg some (by kernel_rfl))
 f266 := Tryz.func161.trans (congrArg some (by kernel_rfl))
 f267 := Tryz.func128.trans (congrArg some (by kernel_rfl))
 f314 := Tryz.func165.trans (congrArg some (by kernel_rfl))
 t3 := Tryz.underlying3
 a3 := Tryz.isAgg3
 z3 := Tryz.sizeOf3
 v3 := Tryz.zeroValue3
 t4 := Tryz.underlying4
 a4 := Tryz.isAgg4
 z4 := Tryz.sizeOf4
 v4 := Tryz.zeroValue4
 t5 := Tryz.underlying5
 a5 := Tryz.isAgg5
 z5 := Tryz.sizeOf5
 v5 := Tryz.zeroValue5
 t9 := Tryz.underlying9
 a9 := Tryz.isAgg9
 z9 := Tryz.sizeOf9
 v9 := Tryz.zeroValue9
 t46 := Tryz.underlying24
 a46 := Tryz.isAgg24
 z46 := Tryz.sizeOf24
 v46 := Tryz.zeroValue24
 t51 := Tryz.underlying208
 a51 := Tryz.isAgg208
 z51 := Tryz.sizeOf208
 v51 := Tryz.zeroValue208
 t146 := Tryz.underlying209
 a146 := Tryz.isAgg209
 z146 := Tryz.sizeOf209
 v146 := Tryz.zeroValue209
 g1 := by kernel_rfl }
def Tryz.lays145_ren : Go.Shelf.Ren := ⟨fun | 145 => 25 | 220 => 44 | 219 => 89 | 217 => 119 | 225 => 126 | 224 => 127 | 267 => 128 | 266 => 161 | 314 => 165 | n => n, fun | 9 => 9 | 4 => 4 | 59 => 68 | 3 => 3 | 5 => 5 | 46 => 24 | 146 => 209 | 51 => 208 | n => n, fun | 1 => 0 | n => n⟩
theorem Tryz.lays145 : Go.Proofs.Lays.n145 Tryz.prog Tryz.lays145_ren := {
 mixed := by kernel_rfl
 f145 := Tryz.func25.trans (congrArg some (by kernel_rfl))
 f217 := Tryz.func119.trans (congrArg some (by kernel_rfl))
 f219 := Tryz.func89.trans (congrArg some (by kernel_rfl))
 f220 := Tryz.func44.trans (congrArg some (by kernel_rfl))
 f224 := Tryz.func127.trans (congrArg some (by kernel_rfl))
 f225 := Tryz.func126.trans (congrArg some (by kernel_rfl))
 f266 := Tryz.func161.trans (congrArg some (by kernel_rfl))
 f267 := Tryz.func128.trans (congrArg some (by kernel_rfl))
 f314 := Tryz.func165.trans (congrArg some (by kernel_rfl))
 t3 := Tryz.underlying3
 a3 := Tryz.isAgg3
 z3 := Tryz.sizeOf3
 v3 := Tryz.zeroValue3
 t4 := Tryz.underlying4
 a4 := Tryz.isAgg4
 z4 := Tryz.sizeOf4
 v4 := Tryz.zeroValue4
 t5 := Tryz.underlying5
 a5 := Tryz.isAgg5
 z5 := Tryz.sizeOf5
 v5 := Tryz.zeroValue5
 t9 := Tryz.underlying9
 a9 := Tryz.isAgg9
 z9 := Tryz.sizeOf9
 v9 := Tryz.zeroValue9
 t46 := Tryz.underlying24
 a46 := Tryz.isAgg24
 z46 := Tryz.sizeOf24
 v46 := Tryz.zeroValue24
 t51 := Tryz.underlying208
 a51 := Tryz.isAgg208
 z51 := Tryz.sizeOf208
 v51 := Tryz.zeroValue208
 t59 := Tryz.underlying68
 a59 := Tryz.isAgg68
 z59 := Tryz.sizeOf68
 v59 := Tryz.zeroValue68
 t146 := Tryz.underlying209
 a146 := Tryz.isAgg209
 z146 := Tryz.sizeOf209
 v146 := Tryz.zeroValue209
 g1 := by kernel_rfl }
def Tryz.lays146_ren : Go.Shelf.Ren := ⟨fun | 146 => 24 | 221 => 43 | 268 => 86 | 138 => 87 | 143 => 88 | 195 => 123 | 197 => 124 | 218 => 125 | 219 => 89 | 260 => 164 | 217 => 119 | 225 => 126 | 224 => 127 | 267 => 128 | 266 => 161 | 314 => 165 | n => n, fun | 9 => 9 | 31 => 32 | 3 => 3 | 4 => 4 | 0 => 0 | 105 => 153 | 21 => 21 | 5 => 5 | 46 => 24 | 119 => 223 | 139 => 226 | 138 => 225 | 146 => 209 | 51 => 208 | n => n, fun | 1 => 0 | 3 => 1 | 4 => 2 | n => n⟩
theorem Tryz.lays146 : Go.Proofs.Lays.n146 Tryz.prog Tryz.lays146_ren := {
 mixed := by kernel_rfl
 f138 := Tryz.func87.trans (congrArg some (by kernel_rfl))
 f143 := Tryz.func88.trans (congrArg some (by kernel_rfl))
 f146 := Tryz.func24.trans (congrArg some (by kernel_rfl))
 f195 := Tryz.func123.trans (congrArg some (by kernel_rfl))
 f197 := Tryz.func124.trans (congrArg some (by kernel_rfl))
 f217 := Tryz.func119.trans (congrArg some (by kernel_rfl))
 f218 := Tryz.func125.trans (congrArg some (by kernel_rfl))
 f219 := Tryz.func89.trans (congrArg some (by kernel_rfl))
 f221 := Tryz.func43.trans (congrArg some (by kernel_rfl))
 f224 := Tryz.func127.trans (congrArg some (by kernel_rfl))
 f225 := Tryz.func126.trans (congrArg some (by kernel_rfl))
 f260 := Tryz.func164.trans (congrArg some (by kernel_rfl))
 f266 := Tryz.func161.trans (congrArg some (by kernel_rfl))
 f267 := Tryz.func128.trans (congrArg some (by kernel_rfl))
 f268 := Tryz.func86.trans (congrArg some (by kernel_rfl))
 f314 := Tryz.func165.trans (congrArg some (by kernel_rfl))
 t0 := Tryz.underlying0
 a0 := Tryz.isAgg0
 z0 := Tryz.sizeOf0
 v0 := Tryz.zeroValue0
 t3 := Tryz.underlying3
 a3 := Tryz.isAgg3
 z3 := Tryz.sizeOf3
 v3 := Tryz.zeroValue3
 t4 := Tryz.underlying4
 a4 := Tryz.isAgg4
 z4 := Tryz.sizeOf4
 v4 := Tryz.zeroValue4
 t5 := Tryz.underlying5
 a5 := Tryz.isAgg5
 z5 := Tryz.sizeOf5
 v5 := Tryz.zeroValue5
 t9 := Tryz.underlying9
 a9 := Tryz.isAgg9
 z9 := Tryz.sizeOf9
 v9 := Tryz.zeroValue9
 t21 := Tryz.underlying21
 a21 := Tryz.isAgg21
 z21 := Tryz.sizeOf21
 v21 := Tryz.zeroValue21
 t31 := Tryz.underlying32
 a31 := Tryz.isAgg32
 z31 := Tryz.sizeOf32
 v31 := Tryz.zeroValue32
 t46 := Tryz.underlying24
 a46 := Tryz.isAgg24
 z46 := Tryz.sizeOf24
 v46 := Tryz.zeroValue24
 t51 := Tryz.underlying208
 a51 := Tryz.isAgg208
 z51 := Tryz.sizeOf208
 v51 := Tryz.zeroValue208
 t105 := Tryz.underlying153
 a105 := Tryz.isAgg153
 z105 := Tryz.sizeOf153
 v105 := Tryz.zeroValue153
 t119 := Tryz.underlying223
 a119 := Tryz.isAgg223
 z119 := Tryz.sizeOf223
 t138 := Tryz.underlying225
 a138 := Tryz.isAgg225
 z138 := Tryz.sizeOf225
 v138 := Tryz.zeroValue225
 t139 := Tryz.underlying226
 a139 := Tryz.isAgg226
 z139 := Tryz.sizeOf226
 v139 := Tryz.zeroValue226
 t146 := Tryz.underlying209
 a146 := Tryz.isAgg209
 z146 := Tryz.sizeOf209
 v146 := Tryz.zeroValue209
 g1 := by kernel_rfl
 g3 := by kernel_rfl
 g4 := by kernel_rfl }
open Go.Vc
set_option maxRecDepth 20000
namespace Nu
noncomputable section
def aSk (sub : List Nat) : List Nat → Option Nat
 | [] => if sub.isEmpty then some 0 else none
 | b :: l => if sub.isPrefixOf (b :: l) then some 0 else match aSk sub l with
  | none => none
  | some i => some (i + 1)
def aVZ (sep : List Nat) : Nat → List Nat → List qd
 | 0, s => [s]
 | k + 1, s => match aSk sep s with
  | none => [s]
  | some i => s.take i :: aVZ sep k (s.drop (i + sep.length))
def aMo (s sub : List Nat) : Int := match aSk sub s with
 | none => -1
 | some i => (i : Int)
def xJ (s sep : List Nat) : List Nat × List Nat × Bool × Unit := match aSk sep s with
 | none => (s, [], false, ())
 | some i => (s.take i, s.drop (i + sep.length), true, ())
def aEJ (s sep : List Nat) : List qd := aVZ sep s.length s
abbrev nts (l : List UInt8) : List Nat := l.map (·.toNat)
theorem aP4 : ∀ (t s : List UInt8), (nts t).isPrefixOf (nts s) = t.isPrefixOf s
 | [], s => by cases s <;> rfl
 | a :: t, [] => rfl
 | a :: t, b :: s => by
  have ih := aP4 t s
  simp only [nts, List.map_cons, List.isPrefixOf] at ih ⊢
  rw [ih]
  congr 1
  by_cases h : a = b
  ·subst h; simp
  ·have : a.toNat ≠ b.toNat := fun e => h (UInt8.toNat_inj.1 e)
   rw [beq_false_of_ne h, beq_false_of_ne this]
theorem aIy (t : List UInt8) : ∀ s : List UInt8, Lib.index s t = match aSk (nts t) (nts s) with
  | none => -1
  | some i => (i : Int)
 | [] => by
  cases t <;> rfl
 | b :: s => by
  have ih := aIy t s
  have e := aP4 t (b :: s)
  simp only [nts, List.map_cons] at e ih ⊢
  rw [Lib.index, aSk, e]
  by_cases hp : t.isPrefixOf (b :: s) = true
  ·simp [hp]
  ·rw [if_neg hp, if_neg hp, ih]
   cases aSk (t.map (·.toNat)) (s.map (·.toNat)) with
   | none => rfl
   | some i =>
    have : ((i : Int) == -1) = false := by
     rw [beq_eq_false_iff_ne]; omega
    simp only [this]
    simp
theorem aP5 (t : List UInt8) (ht : t ≠ []) : ∀ (k : Nat) (s : List UInt8), Lib.count s t ≤ k → (Lib.splitK t 0 (Lib.count s t) s).map nts = aVZ (nts t) k (nts s)
 | k, s, hk => by
  have hi := aIy t s
  cases hx : aSk (nts t) (nts s) with
  | none =>
   rw [hx] at hi
   rw [Lib.count_miss hi]
   cases k with
   | zero => rfl
   | succ k => rw [aVZ, hx]; rfl
  | some i =>
   rw [hx] at hi
   have hc := Lib.count_hit ht hi
   cases k with
   | zero => omega
   | succ k =>
    have ih := aP5 t ht k (s.drop (i + t.length)) (by omega)
    rw [aVZ, hx, hc, Nat.add_comm 1, Lib.splitK]
    have hi : Lib.index s t = (i : Int) := hi
    have : (Lib.index s t == -1) = false := by rw [hi, beq_eq_false_iff_ne]; omega
    rw [this, hi]
    simp only [Bool.false_eq_true, if_false, List.map_cons, Int.toNat_natCast, Nat.add_zero]
    rw [ih]
    simp [nts, List.map_take, List.map_drop]
def aQK (s sep : List Nat) : Prop := s.length < 4294967281 ∧ 1 ≤ sep.length
instance (s sep : List Nat) : Decidable (aQK s sep) := by unfold aQK; infer_instance
theorem aMp [Mx] {S : Nat → Prop} {w : World} [Mx] (hG : qM GL S w) : w.cell? ⟨0, 0, none⟩ = some (.int .i64 Mx.v) := by
 have h := (hG 0).1
 rw [GLm] at h
 simp only [aN] at h
 obtain ⟨b, off, ds, h1, h2, h3, h4⟩ := h
 simp only [Value.cells, List.cons.injEq, and_true] at h1
 cases h1
 simp only [bE] at h3
 exact h4 0 (.int .i64 Mx.v) (by rw [h3.1]; rfl)
theorem aMq {w : World} {S : Nat → Prop} {vs : Array Value} {a b : List Nat} (h : pU w S qg (a, b, ()) vs.toList) : ∃ s t : ByteArray, vs = #[.string s, .string t] ∧ aS s = a ∧ aS t = b := by
 obtain ⟨v1, r1, e1, h1, v2, r2, e2, h2, h3⟩ := h
 have h3 : r2 = [] := h3
 have h1 : bE w S .str a [v1] := h1
 have h2 : bE w S .str b [v2] := h2
 obtain ⟨s, es, hs, _⟩ := h1
 obtain ⟨t, et, ht, _⟩ := h2
 refine ⟨s, t, ?_, hs, ht⟩
 rw [← Array.toList_inj, e1, e2, h3, (List.cons.inj es).1, (List.cons.inj et).1]
theorem aVb {w : World} {S : Nat → Prop} {l : List UInt8} (hl : l.length ≤ maxLen) : dF w S .str (l.map (·.toNat)) (.string ⟨l.toArray⟩) := by
 unfold dF
 rw [if_neg (by simp [Ty.isAgg])]
 exact ⟨_, rfl, by simp [aS], hl⟩
def aGF : Ty := .pair .str wg
def vR : aI := ⟨aGF, .one qe, fun x => aQK x.1 x.2.1, fun x => aMo x.1 x.2.1⟩
attribute [go_sem] vR aGF
theorem aMr [Mx] : FOK Tryz.prog GL 88 vR := by
 rintro w S vs ⟨(a : List Nat), (b : List Nat), u⟩ hS hG ha ⟨p1, p2⟩
 have p1 : a.length < 4294967281 := p1
 obtain ⟨s, t, rfl, hs, ht⟩ := aMq ha
 have hsz : s.size < 4294967281 := by
  have : s.size = a.length := by rw [← hs]; simp [aS]
  omega
 refine Calls.mono (f := 88) (Any.strings_Index Tryz.lays143 s t Mx.v w hsz (aMp hG)) ?_
 rintro e w' ⟨rfl, rfl⟩
 refine ⟨_, rfl, .refl _ _, ?_⟩
 show dF w' _ qe (aMo a b) _
 unfold dF
 rw [if_neg (by simp [Ty.isAgg])]
 have hx : aMo a b = Lib.index s.data.toList t.data.toList := by
  subst hs ht
  exact (aIy t.data.toList s.data.toList).symm
 rw [hx]
 refine ⟨rfl, rfl, ?_, ?_⟩
 ·have hm : IntKind.i64.min = -9223372036854775808 := by decide
  have := Lib.index_ge s.data.toList t.data.toList
  show (IntKind.i64.min : Int) ≤ Lib.index s.data.toList t.data.toList
  rw [hm]; omega
 ·have hm : IntKind.i64.max = 9223372036854775807 := by decide
  have hl : ∀ (l m : List UInt8), Lib.index l m ≤ l.length := fun l m => by
   induction l with
   | nil => unfold Lib.index; split <;> decide
   | cons b l ih =>
    unfold Lib.index
    split
    ·simp; omega
    ·split
     ·simp; omega
     ·simp; omega
  have := hl s.data.toList t.data.toList
  have e : s.data.toList.length = s.size := rfl
  show (Lib.index s.data.toList t.data.toList : Int) ≤ IntKind.i64.max
  rw [hm]; omega
def aI2 : Ty := .pair .str wg
def nS : aI := ⟨aI2, .tup (.pair .str (.pair .str wu)), fun x => aQK x.1 x.2.1, fun x => xJ x.1 x.2.1⟩
attribute [go_sem] nS aI2
theorem aDz [Mx] : FOK Tryz.prog GL 25 nS := by
 rintro w S vs ⟨(a : List Nat), (b : List Nat), u⟩ hS hG ha ⟨p1, p2⟩
 have p1 : a.length < 4294967281 := p1
 obtain ⟨s, t, rfl, hs, ht⟩ := aMq ha
 have hsz : s.size < 4294967281 := by
  have : s.size = a.length := by rw [← hs]; simp [aS]
  omega
 refine Calls.mono (f := 25) (Any.strings_Cut Tryz.lays145 s t Mx.v w hsz (aMp hG)) ?_
 rintro e w' ⟨rfl, n, rfl⟩
 have hc1 : (Lib.cut s.data.toList t.data.toList).1.length ≤ s.size ∧ (Lib.cut s.data.toList t.data.toList).2.1.length ≤ s.size := by
  have e : s.data.toList.length = s.size := rfl
  unfold Lib.cut
  split
  ·simp only [List.length_take, List.length_drop, e]; omega
  ·simp only [List.length_nil, e]; omega
 have hm : s.size ≤ maxLen := by unfold maxLen; omega
 refine ⟨_, rfl, ⟨rfl, rfl, rfl, Nat.le_refl _, fun _ _ _ => rfl⟩, [_, _, _], rfl, ?_⟩
 show pU _ _ (.pair .str (.pair .str wu)) (xJ a b) _
 have hx : xJ a b = (nts (Lib.cut s.data.toList t.data.toList).1, nts (Lib.cut s.data.toList t.data.toList).2.1, (Lib.cut s.data.toList t.data.toList).2.2, ()) := by
  subst hs ht
  have hi := aIy t.data.toList s.data.toList
  show xJ (nts s.data.toList) (nts t.data.toList) = _
  unfold xJ Lib.cut
  cases hx : aSk (nts t.data.toList) (nts s.data.toList) with
  | none => rw [hx] at hi; replace hi : Lib.index s.data.toList t.data.toList = -1 := hi; rw [if_neg (by omega)]; rfl
  | some i => rw [hx] at hi; replace hi : Lib.index s.data.toList t.data.toList = (i : Int) := hi; rw [if_pos (by omega)]; simp [hi, nts, List.map_take, List.map_drop]
 rw [hx]
 exact ⟨_, _, rfl, aVb (Nat.le_trans hc1.1 hm), _, _, rfl, aVb (Nat.le_trans hc1.2 hm), _, _, rfl, by unfold dF; rw [if_neg (by simp [Ty.isAgg])]; rfl, rfl⟩
theorem aNz (sep : ByteArray) : ∀ (k : Nat) (s x : ByteArray), x ∈ Lib.splitB sep 0 k s → x.size ≤ s.size
 | 0, s, x, h => by
  rw [Lib.splitB] at h
  rw [List.mem_singleton.1 h]
  exact Nat.le_refl _
 | k + 1, s, x, h => by
  rw [Lib.splitB] at h
  split at h
  ·rw [List.mem_singleton.1 h]; exact Nat.le_refl _
  ·rcases List.mem_cons.1 h with rfl | h
   ·rw [ByteArray.size_extract]; omega
   ·refine Nat.le_trans (aNz sep k _ x h) ?_
    rw [ByteArray.size_extract]; omega
def aGG : Ty := .pair .str wg
def vS : aI := ⟨aGG, .one wh, fun x => aQK x.1 x.2.1, fun x => aEJ x.1 x.2.1⟩
attribute [go_sem] vS aGG
theorem aMs [Mx] : FOK Tryz.prog GL 24 vS := by
 rintro w S vs ⟨(a : List Nat), (b : List Nat), u⟩ hS hG ha ⟨p1, p2⟩
 have p1 : a.length < 4294967281 := p1
 have p2 : 1 ≤ b.length := p2
 obtain ⟨s, t, rfl, hs, ht⟩ := aMq ha
 have hsz : s.size = a.length := by rw [← hs]; simp [aS]
 have htz : t.size = b.length := by rw [← ht]; simp [aS]
 have hlen := Lib.splitB_all t (by omega) 0 _ s rfl
 have hcl : Lib.countB s t ≤ s.size := Lib.countB_le t (by omega) s.size s (Nat.le_refl _)
 refine Calls.mono (f := 24) (Any.strings_Split Tryz.lays146 (by rfl) s t Mx.v w (by omega) (aMp hG) (by omega)) ?_
 rintro e w' ⟨rfl, rfl⟩
 refine ⟨_, rfl, iY.alloc nothing w _, ?_⟩
 show dF _ _ wh (aEJ a b) _
 unfold dF
 rw [if_neg (by simp [Ty.isAgg])]
 have hx : aEJ a b = (Lib.splitB t 0 (Lib.countB s t) s).map aS := by
  have ht1 : 1 ≤ t.size := by omega
  have hne : t.data.toList ≠ [] := fun e => by
   have e2 : t.data.toList.length = t.size := rfl
   rw [e, List.length_nil] at e2
   omega
  have h1 := Lib.splitB_data t 0 (Lib.countB s t) s
  have h2 := aP5 t.data.toList hne s.size s.data.toList hcl
  subst hs ht
  have e : (aS s).length = s.size := by simp [aS]
  unfold aEJ
  rw [e]
  show aVZ (nts t.data.toList) s.size (nts s.data.toList) = _
  rw [← h2]
  show (Lib.splitK t.data.toList 0 (Lib.countB s t) s.data.toList).map nts = _
  rw [← h1, List.map_map]
  rfl
 rw [hx]
 have hsz2 : ∀ o : Go.Obj, w.heap.size < (w.alloc o).heap.size := fun o => by show w.heap.size < (w.heap.push o).size; rw [Array.size_push]; omega
 have hnew : ∀ o : Go.Obj, (w.alloc o).heap[w.heap.size]? = some o := fun o => by show (w.heap.push o)[w.heap.size]? = some o; rw [Array.getElem?_push, if_pos rfl]
 refine ⟨_, _, _, rfl, by rw [List.length_map, hlen], Nat.le_refl _, by unfold maxLen; omega, .inr ⟨w.heap.size, 0, rfl, .inr ⟨Nat.le_refl _, hsz2 _⟩, fun i hi => ?_⟩⟩
 have hi' : i < (Lib.splitB t 0 (Lib.countB s t) s).length := by simpa using hi
 refine ⟨[.string (Lib.splitB t 0 (Lib.countB s t) s)[i]], ⟨_, rfl, by simp, ?_⟩, fun j v hj => ?_⟩
 ·have := aNz t _ s _ (List.getElem_mem hi')
  unfold maxLen; omega
 ·have hj0 : j = 0 := by
   rcases Nat.lt_or_ge j 1 with h | h
   ·omega
   ·rw [List.getElem?_eq_none (by simpa using h)] at hj; cases hj
  subst hj0
  have hv : v = .string (Lib.splitB t 0 (Lib.countB s t) s)[i] := by simpa using hj.symm
  subst hv
  have hc : ((Lib.splitB t 0 (Lib.countB s t) s).map Value.string).toArray[i]? = some (.string (Lib.splitB t 0 (Lib.countB s t) s)[i]) := by
   simp [hi']
  rw [Lib.cell_of_heap (hnew _), show 0 + i * Ty.str.cells + 0 = i from by simp [Ty.cells]]
  exact hc
end
end Nu
end Go.Proofs
namespace Go.Proofs
open Go.Vc
set_option maxRecDepth 100000
namespace Nu
noncomputable section
set_option maxHeartbeats 4000000
section
open Go.Shelf Go.RowKit Go.Lib
theorem aXz (n : Nat) (w : World) (hn : n ≤ 1073741824) :
  Calls Tryz.prog 112 #[.slice none 0 0, .int .i64 n] w fun e w' => (n = 0 ∧ e = .returned (.slice none 0 0) ∧ w' = w) ∨
   (0 < n ∧ e = .returned (.slice (some ⟨w.heap.size, 0, none⟩) 0 (grownCap w n 0 9)) ∧ w' = w.drew.alloc (.cells (Builtin.zeroCells #[Value.string ⟨#[]⟩] n ++ Builtin.zeroCells #[Value.string ⟨#[]⟩] (grownCap w n 0 9 - n)) 9)) := by
 have h1 : ¬ ((n : Int) < 0) := by omega
 have h3 : wrap64 ((n : Int) - wrap64 (0 - 0)) = (n : Int) := by unfold wrap64; omega
 have h5 : wrap64 (n : Int) = (n : Int) := by unfold wrap64; omega
 obtain ⟨i, hi, hz, hs, hb⟩ : ∃ i, Tryz.prog.info? 9 = some i ∧ i.zero = some (.string ⟨#[]⟩) ∧ i.size = 1 ∧ i.bytes = 16 := ⟨_, rfl, rfl, rfl, rfl⟩
 go_enter Tryz.func112, Tryz.ntmps112
 rcases Nat.eq_zero_or_pos n with rfl | hp
 ·go_wp2
  go_ret
  exact ⟨rfl, rfl⟩
 ·have h4 : (n : Int) > 0 := by omega
  have hrz : ∀ ty, (Builtin.append_ #[32, 3] ty #[.slice none 0 0, .int .i64 (n : Int)]).run Tryz.prog w = .ok (.slice (some ⟨w.heap.size, 0, none⟩) n (grownCap w n 0 9)) (w.drew.alloc (.cells (Builtin.zeroCells #[Value.string ⟨#[]⟩] n ++ Builtin.zeroCells #[Value.string ⟨#[]⟩] (grownCap w n 0 9 - n)) 9)) :=
   fun ty => Lib.run_append_nil_zeros w 32 3 ty 9 i (.string ⟨#[]⟩) .i64 .i64 rfl rfl hi hz n hp (by omega) (by omega) (by rw [hb]; omega)
  have hG := grownCap_ge w n 0 9
  have hG2 := grownCap_le_maxLen w n 0 9 (by unfold maxLen; omega)
  unfold maxLen at hG2
  generalize grownCap w n 0 9 = G at *
  go_wp2_with (at_builtin; refine Lib.wpList_append_run _ rfl _ _ _ _ rfl _ _ rfl rfl _ _ (hrz _) ?_)
  go_ret
  exact .inr ⟨rfl, rfl⟩
end
def rD (F : Md) (n : Int) : Option qw := ck (0 ≤ n ∧ n ≤ 1073741824) (some [])
def kH (F : Md) : gH where
 D := Int × qw
 av := fun d => [.nilS, .val qe d.1]
 hp := fun d => []
 m := 0
 pre := fun d => rD F d.1 = some d.2
 out := fun d => (fun r : qw => .ret (.own 0) [.row 9 .str (r)]) d.2
attribute [go_sem] kH
theorem aTs {F : Md} {c : Ctx} {w w' : World} {d : (kH F).D} (hd : d.2 = []) (good : Go.Vc.Good (GM (kH F) c d) w c [] w) (hk : iY nothing w w') (v : Value) (hv : ∃ a n m, v = .slice a n m) (hr : w'.ownsRow 0 9 1 v 0 []) (hb : ∀ b, aW v = some b → w.heap.size ≤ b ∧ b < w'.heap.size) :
  aLN (kH F) c w d (.returned v) w' := by
 have e1 : (c.push v).hd c.n = v := by simp [Ctx.push]
 have h0 : c.n = 0 := good.n
 have := good.push hk (o := .row 9 .str []) (hv := v) (by
  show aBV _ _ _ _ _ _
  rw [e1]
  exact ⟨[], hr, ⟨rfl, [], rfl, rfl, fun i h => by simp at h⟩⟩) (fun b h => hb b (by simpa [fN, e1] using h))
 refine ⟨c.push v, ?_⟩
 show ∃ u, _ ∧ Go.Vc.Good _ _ _ [.row 9 .str d.2] _ ∧ aX _ _ (.own 0) u
 rw [hd]
 refine ⟨v, rfl, this.1, ?_⟩
 have := aDd (c := c) (v' := v) hv (w' := w') (S' := c.S)
 rw [h0] at this
 exact this
theorem aG1 [Mx] (F : Md) : GOK Tryz.prog GL 112 (kH F) := by
 rintro c w ⟨n, r⟩ vs hpre ⟨good, glob, len, val⟩
 have hpre : rD F n = some r := hpre
 unfold rD at hpre
 obtain ⟨⟨h1, h2⟩, hpre⟩ := aM hpre
 have hr : [] = r := Option.some.inj hpre
 have hv0 := val 0 (by show 0 < 2; decide) (by rw [len]; show 0 < 2; decide)
 have hv1 := val 1 (by show 1 < 2; decide) (by rw [len]; show 1 < 2; decide)
 have e0 : vs.toList[0]'(by rw [len]; show 0 < 2; decide) = .slice none 0 0 := by
  obtain ⟨q1, _, q3⟩ := hv0
  have q3 := q3 rfl
  revert q1 q3
  generalize vs.toList[0]'(by rw [len]; show 0 < 2; decide) = sv
  intro q1 q3
  have q1 : sv.cells.toList = [.slice none 0 0] := q1
  cases sv <;> simp [Value.cells] at q1 q3 <;> simp [q1]
 obtain ⟨e1, _, _⟩ := aHc (k := .i64) (n := n) hv1
 have hvs : vs = #[.slice none 0 0, .int .i64 (n.toNat : Int)] := by
  have hlen : vs.toList.length = 2 := len
  rw [← Array.toList_inj]
  apply List.ext_getElem
  ·exact hlen
  ·intro i a1 a2
   match i, a2 with
   | 0, _ => exact e0
   | 1, _ => show _ = Value.int .i64 (n.toNat : Int); rw [Int.toNat_of_nonneg h1]; exact e1
 rw [hvs]
 refine Calls.mono (f := 112) (aXz n.toNat w (by omega)) ?_
 rintro e w' (⟨_, rfl, rfl⟩ | ⟨hp, rfl, rfl⟩)
 ·exact aTs (d := (n, r)) hr.symm good (.refl nothing _) _ ⟨_, _, _, rfl⟩ ⟨rfl, .inl ⟨rfl, rfl⟩⟩ (fun b h => by simp [aW] at h)
 ·have hG := grownCap_ge w n.toNat 0 9
  have hG2 := grownCap_le_maxLen w n.toNat 0 9 (by unfold maxLen; omega)
  have hk : ∀ o, iY nothing w (w.drew.alloc o) := fun o => have k := iY.alloc nothing w.drew o; ⟨rfl, rfl, rfl, k.size, k.block⟩
  refine aTs (d := (n, r)) hr.symm good (hk _) _ ⟨_, _, _, rfl⟩ ⟨rfl, .inr ⟨w.heap.size, _, Builtin.zeroCells #[Value.string ⟨#[]⟩] n.toNat ++ Builtin.zeroCells #[Value.string ⟨#[]⟩] (grownCap w n.toNat 0 9 - n.toNat), rfl, Nat.zero_le _, ?_, Nat.zero_le _, hG2, ?_, rfl⟩⟩ ?_
  ·show (w.heap.push _)[w.heap.size]? = _
   simp
  ·simp [Builtin.zeroCells]
   omega
  ·intro b h
   simp only [aW, Option.some.injEq] at h
   subst h
   refine ⟨Nat.le_refl _, ?_⟩
   show w.heap.size < (w.heap.push _).size
   simp
end
end Nu
end Go.Proofs
namespace Go.Proofs
open Go.Vc
set_option maxRecDepth 20000
namespace Nu
noncomputable section
set_option maxHeartbeats 4000000
def sV (F : Md) (l_8 : (List qt)) : Option (Bool) :=
 ck ((2 : Int) < (l_8.length : Int)) (ck ((1 : Int) < (l_8.length : Int)) ((aBb F (l_8.getD (2 : Nat) (false, [], 0, ())) (l_8.getD (1 : Nat) (false, [], 0, ()))).bind (fun v_14 => ck ((v_14 ≤ (0 : Int)) → ((0 : Int) < (l_8.length : Int))) (ck ((v_14 ≤ (0 : Int)) → ((1 : Int) < (l_8.length : Int))) (ck ((v_14 ≤ (0 : Int)) → ((nB F (l_8.getD (0 : Nat) (false, [], 0, ())) (l_8.getD (1 : Nat) (false, [], 0, ())) (256 : Int)).isSome = true)) (ck (((v_14 ≤ (0 : Int)) ∧ (((nB F (l_8.getD (0 : Nat) (false, [], 0, ())) (l_8.getD (1 : Nat) (false, [], 0, ())) (256 : Int)).getD false) = true)) → ((1 : Int) < (l_8.length : Int))) (ck (((v_14 ≤ (0 : Int)) ∧ (((nB F (l_8.getD (0 : Nat) (false, [], 0, ())) (l_8.getD (1 : Nat) (false, [], 0, ())) (256 : Int)).getD false) = true)) → ((2 : Int) < (l_8.length : Int))) (ck (((v_14 ≤ (0 : Int)) ∧ (((nB F (l_8.getD (0 : Nat) (false, [], 0, ())) (l_8.getD (1 : Nat) (false, [], 0, ())) (256 : Int)).getD false) = true)) → ((nB F (l_8.getD (1 : Nat) (false, [], 0, ())) (l_8.getD (2 : Nat) (false, [], 0, ())) (4096 : Int)).isSome = true)) (some (((decide (v_14 ≤ (0 : Int))) && ((nB F (l_8.getD (0 : Nat) (false, [], 0, ())) (l_8.getD (1 : Nat) (false, [], 0, ())) (256 : Int)).getD false)) && ((nB F (l_8.getD (1 : Nat) (false, [], 0, ())) (l_8.getD (2 : Nat) (false, [], 0, ())) (4096 : Int)).getD false)))))))))))
def yM (F : Md) (s_0 : qf) (x56_16 : Int) (l_17 : (List qt)) : Option ((Int × (List qt)) ⊕ ((List qt) ⊕ Bool)) :=
 if x56_16 < (4 : Int) then ck (0 ≤ x56_16 ∧ x56_16 < (4 : Int)) ((aD6 F (([s_0.2.2.2.2.1, s_0.2.2.2.2.2.1, s_0.2.2.2.2.2.2.1, s_0.2.2.2.2.2.2.2.1] : List qd).getD (x56_16.toNat) ([] : List Nat))).bind (fun v_24 => ck (¬ (¬ (v_24.2.1 = (0 : Int))) → ((uW F v_24.1).isSome = true)) (if (¬ (v_24.2.1 = (0 : Int))) ∨ (((uW F v_24.1).getD (0 : Int)) ≤ (0 : Int)) then some (.inr (.inr false)) else ck (((l_17.length) + (1 : Nat)) * 73 ≤ 140737488355328) (ck (I64 (x56_16 + (1 : Int))) (some (.inl ((x56_16 + (1 : Int)), (l_17 ++ ([v_24.1] : List qt))))))))) else some (.inr (.inl l_17))
def xZ (F : Md) (s_0 : qf) : Option Bool :=
 if ((((((s_0.1 < (8 : Int)) ∨ ((200 : Int) < s_0.1)) ∨ (s_0.2.1 < (1 : Int))) ∨ ((20 : Int) < s_0.2.1)) ∨ (s_0.2.2.1 < (0 : Int))) ∨ ((3 : Int) < s_0.2.2.1)) ∨ ((¬ (s_0.2.2.2.1 = (1 : Int))) ∧ (¬ (s_0.2.2.2.1 = (2 : Int)))) then some false else (eJ F (fun d : Int × (List qt) => yM F s_0 d.1 d.2) ((0 : Int), ([] : List qt))).bind (fun e => match e with | (.inl e) => sV F e | (.inr e) => some e)
def aFb : PlR := ⟨[(0, .B [1]), (1, .A [1, 45]), (2, .A [2]), (3, .A [1, 3]), (4, .A [3, 54, 55, 56]), (5, .A [3, 54, 55, 56, 57]), (6, .A [3, 5, 54, 55, 56]), (7, .B [3, 6, 7, 54, 55, 56]), (8, .A [3, 6, 54, 55, 56, 71]), (9, .A [2]), (10, .B [3, 54, 55, 56]), (11, .A [3, 54, 55, 56]), (12, .A [2])], [(7, 15)]⟩
def aGH : Ty := .pair qj .unit
def vT (F : Md) : aI := mSpec aGH (.one .bool) (fun x => xZ F x.1)
abbrev tM (F : Md) : List (FuncId × aI) := [(67, (aCN F)), (68, (vK F)), (69, (yY F)), (70, (aBp F))]
theorem aOb [Mx] (F : Md) : bH Tryz.prog GL (tM F) := .cons (aSh F) xAa (.cons (aKC F) xAa (.cons (aNp F) xAa (.cons (aQF F) xAa (.nil))))
attribute [go_sem] aGH aFb
theorem aMt [Mx] (F : Md) : FOK Tryz.prog GL 35 (vT F) := by
 refine bT (aU (aOb F)) mix Tryz.func35 rfl xAa xAc aFb fun w0 S x Θ hw h hF => ?_
 obtain ⟨(s_0 : qf), u⟩ := x
 simp only [bZ, go_sem]
 replace h : sat (xZ F s_0) _ := h
 unfold xZ at h
 refine ⟨fun hc => ?_, fun hc => ?_⟩
 ·replace h := jV hc h
  exact zaF
 ·replace h := jW hc h
  refine fD hF (D := (List qt)) (fun d => sat (sV F d) Θ) [] (fun d => [(3, .own 0)]) (fun d => [.inr (.row 128 ql d)]) ?_ ?_
  ·simp only [go_sem]
   refine aDf 3 128 ql rfl (yaA ?_)
   refine aKj [1] rfl rfl (yaA ?_)
   refine cL hF (D := Int × (List qt)) [55] (fun d => [(3, .own 0), (54, .val wh ([s_0.2.2.2.2.1, s_0.2.2.2.2.2.1, s_0.2.2.2.2.2.2.1, s_0.2.2.2.2.2.2.2.1] : List qd)), (56, .val qe d.1)]) (fun d => [.inr (.row 128 ql d.2)]) h rfl (by (try simp only [kU, dG, true_or, and_self, go_sem]) <;> (repeat' apply And.intro) <;> first | rfl | (left; rfl) | (right; rfl) | (left; simp only [go_sem]; done) | (right; simp only [go_sem]; done) | (simp; done) | (simp only [*]; done) | omega) ?_
   rintro ⟨x56_16, l_17⟩ A5 T5 hA5 hE5 h
   simp only [go_sem]
   replace h : sat (yM F s_0 x56_16 l_17) _ := h
   unfold yM at h
   refine fY h (fun hc h => ?_) fun hc h => ?_
   ·obtain ⟨g0, h⟩ := aQ h
    repeat (refine ⟨zAA, ?_⟩)
    obtain ⟨v_24, hv, h⟩ := aP h
    try simp only [hv, go_sem]
    obtain ⟨g0, h⟩ := aQ h
    repeat (refine ⟨zAC, ?_⟩)
    refine ⟨fun hc => ?_, fun hc => ?_⟩
    ·replace h := jV zAB h
     replace h := yaF (hE5 _ (aE h))
     exact zaF
    ·replace h := jW zAB h
     obtain ⟨g0, h⟩ := aQ h
     repeat (refine ⟨zAA, ?_⟩)
     obtain ⟨g0, h⟩ := aQ h
     try simp only [I64, I32] at g0
     repeat (refine ⟨zAA, ?_⟩)
     replace h := hA5 _ (aE h)
     refine iB [2] rfl rfl (yaA ?_)
     exact zaK
   ·replace h := yaF (hE5 _ (aE h))
    exact aY (l_17) h rfl xAb
  ·rintro l_8 h
   simp only [go_sem]
   replace h : sat (sV F l_8) _ := h
   unfold sV at h
   obtain ⟨g0, h⟩ := aQ h
   obtain ⟨g1, h⟩ := aQ h
   repeat (refine ⟨zAA, ?_⟩)
   obtain ⟨v_14, hv, h⟩ := aP h
   try simp only [hv, go_sem]
   obtain ⟨g0, h⟩ := aQ h
   obtain ⟨g1, h⟩ := aQ h
   obtain ⟨g2, h⟩ := aQ h
   obtain ⟨g3, h⟩ := aQ h
   obtain ⟨g4, h⟩ := aQ h
   obtain ⟨g5, h⟩ := aQ h
   repeat (refine ⟨by first | with_reducible assumption | omega | (intros; first | with_reducible assumption | omega) | (simp only [go_sem] at *; first | with_reducible assumption | omega) | (intro _; exact ⟨rfl, by decide⟩) | (intro _; refine (?_ : _ = aD _); rfl) | (refine (?_ : _ = aD _); rfl) | exact ⟨rfl, rfl⟩ | (intro q0; (try have e0 := g0 zAF); (try have e1 := g1 zAF); (try have e2 := g2 zAF); (try have e3 := g3 zAF); (try have e4 := g4 zAF); (try have e5 := g5 zAF); first | assumption | omega) | decide, ?_⟩)
   exact zaF
attribute [go_sem] vT
def vU (F : Md) (x_6 : qw) (s_0 : qc) (p_11 : qw) : Option (qw × (qw × ws)) :=
 some (x_6, p_11, s_0.2.2.2.1, ())
def aBc (F : Md) (s_0 : qc) (x25_12 : Int) (p_13 : qw) : Option ((Int × qw) ⊕ qw) :=
 if x25_12 < (s_0.2.2.1.length : Int) then ck (0 ≤ x25_12 ∧ x25_12 < (s_0.2.2.1.length : Int)) (ck (((p_13.length) + (1 : Nat)) * 16 ≤ 140737488355328) (ck (I64 (x25_12 + (1 : Int))) (some (.inl ((x25_12 + (1 : Int)), (p_13 ++ ([(s_0.2.2.1.getD (x25_12.toNat) ([], ([], [], ()), ())).1] : List qd))))))) else some (.inr p_13)
def vV (F : Md) (s_0 : qc) (x_6 : qw) : Option (qw × (qw × ws)) :=
 (eJ F (fun d : Int × qw => aBc F s_0 d.1 d.2) ((0 : Int), ([] : List qd))).bind (fun e => vU F x_6 s_0 e)
def aBd (F : Md) (s_0 : qc) (x12_17 : Int) (x_18 : qw) : Option ((Int × qw) ⊕ qw) :=
 if x12_17 < (s_0.2.1.length : Int) then ck (0 ≤ x12_17 ∧ x12_17 < (s_0.2.1.length : Int)) (ck (((x_18.length) + (1 : Nat)) * 16 ≤ 140737488355328) (ck (I64 (x12_17 + (1 : Int))) (some (.inl ((x12_17 + (1 : Int)), (x_18 ++ ([(s_0.2.1.getD (x12_17.toNat) ([], ([], [], ()), (Ex.mk 0 [] []), ())).1] : List qd))))))) else some (.inr x_18)
def bI (F : Md) (s_0 : qc) : Option (qw × (qw × ws)) :=
 (eJ F (fun d : Int × qw => aBd F s_0 d.1 d.2) ((0 : Int), ([] : List qd))).bind (fun e => vV F s_0 e)
def aHP : PlR := ⟨[(0, .B [1, 2, 3]), (1, .A [1, 2, 3, 10, 11, 12]), (2, .A [1, 2, 3, 10, 11, 12, 13]), (3, .B [1, 2, 3, 6, 10, 11, 12]), (4, .B [1, 2, 3, 10, 11, 12]), (5, .A [1, 2, 3, 10, 11, 12]), (6, .A [1, 2, 3, 23, 24, 25]), (7, .A [1, 2, 3, 23, 24, 25, 26]), (8, .B [1, 2, 3, 8, 23, 24, 25]), (9, .B [1, 2, 3, 23, 24, 25]), (10, .A [1, 2, 3, 23, 24, 25]), (11, .A [2, 3, 4])], [(4, 9), (9, 14)]⟩
def aI3 : Ty := .pair qa .unit
def aAl (F : Md) : aI := mSpec aI3 (.tup (.pair wh (.pair wh (.pair wh .unit)))) (fun x => bI F x.1)
abbrev aQL (F : Md) : List (FuncId × aI) := []
theorem aQM [Mx] (F : Md) : bH Tryz.prog GL (aQL F) := .nil
attribute [go_sem] aI3 aHP
theorem aP6 [Mx] (F : Md) : FOK Tryz.prog GL 71 (aAl F) := by
 refine bT (aU (aQM F)) mix Tryz.func71 rfl xAa xAc aHP fun w0 S x Θ hw h hF => ?_
 obtain ⟨(s_0 : qc), u⟩ := x
 simp only [bZ, go_sem]
 replace h : sat (bI F s_0) _ := h
 unfold bI at h
 refine fD hF (D := qw) (fun d => sat (vV F s_0 d) Θ) [3] (fun d => [(1, .ptr 0 []), (2, .own 1)]) (fun d => [.inr (.box 5 (.val qa s_0)), .inr (.row 9 .str d)]) ?_ ?_
 ·simp only [go_sem]
  refine aDf 2 9 .str rfl (yaA ?_)
  refine cL hF (D := Int × qw) [3, 10, 11] (fun d => [(1, .ptr 0 []), (2, .own 1), (12, .val qe d.1)]) (fun d => [.inr (.box 5 (.val qa s_0)), .inr (.row 9 .str d.2)]) h rfl xAb ?_
  rintro ⟨x12_17, x_18⟩ A2 T2 hA2 hE2 h
  simp only [go_sem]
  replace h : sat (aBd F s_0 x12_17 x_18) _ := h
  unfold aBd at h
  refine fY h (fun hc h => ?_) fun hc h => ?_
  ·obtain ⟨g0, h⟩ := aQ h
   repeat (refine ⟨by omega, ?_⟩)
   obtain ⟨g0, h⟩ := aQ h
   repeat (refine ⟨by omega, ?_⟩)
   refine bB h fun g0 h => ?_
   replace h := hA2 _ (aE h)
   refine iB [0, 3] rfl rfl (yaA ?_)
   exact zaK
  ·replace h := yaF (hE2 _ (aE h))
   exact aY (x_18) h rfl xAb
 ·rintro x_6 h
  simp only [go_sem]
  replace h : sat (vV F s_0 x_6) _ := h
  unfold vV at h
  refine fD hF (D := qw) (fun d => sat (vU F x_6 s_0 d) Θ) [] (fun d => [(1, .ptr 0 []), (2, .own 1), (3, .own 2)]) (fun d => [.inr (.box 5 (.val qa s_0)), .inr (.row 9 .str x_6), .inr (.row 9 .str d)]) ?_ ?_
  ·simp only [go_sem]
   refine aDf 3 9 .str rfl (yaA ?_)
   refine cL hF (D := Int × qw) [23, 24] (fun d => [(1, .ptr 0 []), (2, .own 1), (3, .own 2), (25, .val qe d.1)]) (fun d => [.inr (.box 5 (.val qa s_0)), .inr (.row 9 .str x_6), .inr (.row 9 .str d.2)]) h rfl xAb ?_
   rintro ⟨x25_12, p_13⟩ A7 T7 hA7 hE7 h
   simp only [go_sem]
   replace h : sat (aBc F s_0 x25_12 p_13) _ := h
   unfold aBc at h
   refine fY h (fun hc h => ?_) fun hc h => ?_
   ·obtain ⟨g0, h⟩ := aQ h
    repeat (refine ⟨by omega, ?_⟩)
    obtain ⟨g0, h⟩ := aQ h
    repeat (refine ⟨by omega, ?_⟩)
    refine bB h fun g0 h => ?_
    replace h := hA7 _ (aE h)
    refine iB [0, 1, 4] rfl rfl (yaA ?_)
    exact zaK
   ·replace h := yaF (hE7 _ (aE h))
    exact aY (p_13) h rfl xAb
  ·rintro p_11 h
   simp only [go_sem]
   replace h : sat (vU F x_6 s_0 p_11) _ := h
   unfold vU at h
   exact zas
attribute [go_sem] aAl
def vB (F : Md) (slices_0 : (List qw)) (x27_13 : Int) (newslice_14 : qw) : Option ((Int × qw) ⊕ qw) :=
 if x27_13 < (slices_0.length : Int) then ck (0 ≤ x27_13 ∧ x27_13 < (slices_0.length : Int)) (ck (((newslice_14.length) + (slices_0.getD (x27_13.toNat) ([] : List qd)).length) * 16 ≤ 140737488355328) (ck (I64 (x27_13 + (1 : Int))) (some (.inl ((x27_13 + (1 : Int)), (newslice_14 ++ (slices_0.getD (x27_13.toNat) ([] : List qd)))))))) else some (.inr newslice_14)
def qQ (F : Md) (slices_0 : (List qw)) (size_6 : Int) : Option qw :=
 (rD F size_6).bind (fun r_8 => (eJ F (fun d : Int × qw => vB F slices_0 d.1 d.2) ((0 : Int), r_8)).bind (fun e => some e))
def wJ (F : Md) (slices_0 : (List qw)) (size_18 : Int) (x11_19 : Int) : Option (wk ⊕ (Int)) :=
 if x11_19 < (slices_0.length : Int) then ck (0 ≤ x11_19 ∧ x11_19 < (slices_0.length : Int)) (ck (I64 (size_18 + (((slices_0.getD (x11_19.toNat) ([] : List qd)).length : Nat) : Int))) (if (size_18 + (((slices_0.getD (x11_19.toNat) ([] : List qd)).length : Nat) : Int)) < (0 : Int) then none else ck (I64 (x11_19 + (1 : Int))) (some (.inl ((size_18 + (((slices_0.getD (x11_19.toNat) ([] : List qd)).length : Nat) : Int)), (x11_19 + (1 : Int))))))) else some (.inr size_18)
def cH (F : Md) (slices_0 : (List qw)) : Option qw :=
 (eJ F (fun d : Int × Int => wJ F slices_0 d.1 d.2) ((0 : Int), (0 : Int))).bind (fun e => qQ F slices_0 e)
@[go_sem]def pB : Ty := .pair (.sl wh) .unit
def oG (F : Md) : aI := mSpec pB (.one wh) (fun x => cH F x.1)
abbrev aAm (F : Md) : List (FuncId × aI) := []
theorem aAn [Mx] (F : Md) : bH Tryz.prog GL (aAm F) := .nil
theorem aFc [Mx] (F : Md) : FOK Tryz.prog GL 72 (oG F) := by
 refine rY (aU (aAn F)) Tryz.func72 rfl xAa xAc fun w0 S x r hw h => ?_
 have hF : gD (fr Tryz.prog (EM (aAm F)) S w0 Tryz.f72.ntmps) := ⟨aU (aAn F), mix⟩
 obtain ⟨(slices_0 : (List qw)), u⟩ := x
 simp only [pB, Ty.wf, fG] at hw
 simp only [bZ, pB]
 try dsimp only at h
 replace h : cH F slices_0 = some r := h
 unfold cH at h
 refine aB (aF hF [0] (yaA ?_))
 refine aA (aB (aF hF [0, 3] (yaA ?_)))
 refine aA (oB (D := Int) (fun d => qQ F slices_0 d = some r) [0] (fun d => [(3, .val qe d)]) (fun d => []) ?_ ?_)
 ·refine aB (aF hF [0, 3, 9, 10, 11] (yaA ?_))
  refine aA (dH (oC (D := Int × Int) [0, 9, 10] (fun d => [(3, .val qe d.1), (11, .val qe d.2)]) (fun d => []) h ?_ ?_ ?_))
  ·first | rfl | (simp only [go_sem]; done)
  ·exact zAG
  rintro ⟨size_18, x11_19⟩ s3 h hs3
  simp only [go_sem]
  try dsimp only at h
  unfold wJ at h
  refine aB (aF hF [0, 3, 9, 10, 11, 12] (yaA ?_))
  refine aA (aB (bC rfl (fun hc => ?_) (fun hc => ?_)))
  ·try simp only [go_sem] at hc
   have h := dP zAB h
   refine bY (aA (aB (dH (aB (aF hF [0, 3, 5, 9, 10, 11] (yaA ?_))))))
   obtain ⟨g0, h⟩ := aM h
   repeat (refine ⟨zAA, ?_⟩)
   refine aA (aB (aF hF [0, 3, 9, 10, 11] (yaA ?_)))
   obtain ⟨g0, h⟩ := aM h
   try simp only [I64, I32] at g0
   repeat (refine ⟨zAA, ?_⟩)
   refine aA (aB (aF hF [0, 3, 9, 10, 11, 20] (yaA ?_)))
   refine aA (bC rfl (fun hc => ?_) (fun hc => ?_))
   ·try simp only [go_sem] at hc
    have h := dP zAB h
    cases h
   ·try simp only [go_sem] at hc
    have h := dQ zAB h
    refine bY (aZ (aA (aF hF [0, 3, 9, 10, 11] (yaA ?_))))
    obtain ⟨g0, h⟩ := aM h
    try simp only [I64, I32] at g0
    repeat (refine ⟨zAA, ?_⟩)
    obtain rfl := Option.some.inj h
    dsimp only [lR] at hs3
    refine bO (aY ((size_18 + (((slices_0.getD (x11_19.toNat) ([] : List qd)).length : Nat) : Int)), (x11_19 + (1 : Int))) hs3 rfl ?_)
    ·exact zAG
  ·try simp only [go_sem] at hc
   have h := dQ zAB h
   obtain rfl := Option.some.inj h
   dsimp only [lR] at hs3
   have h := yaF (hs3)
   refine pV (cV (cV (fH (bO (aY (size_18) h rfl ?_)))))
   ·exact zAG
 ·rintro size_6 h
  try dsimp only at h
  simp only [go_sem]
  unfold qQ at h
  obtain ⟨r_8, he1, h⟩ := bind_some h
  try dsimp only at h
  refine aB (aC hF (aG (l := [(112, ⟨kH F, [], (size_6, r_8)⟩)]) (.cons (aG1 F) xAa (.nil))) [0, 6] [] (yaB ?_))
  refine aA (aB (aB (aF hF [6, 25, 26, 27] (yaA ?_))))
  refine aA (dH (oC (D := Int × qw) [25, 26] (fun d => [(6, .own 0), (27, .val qe d.1)]) (fun d => [.inr (.row 9 .str d.2)]) h ?_ ?_ ?_))
  ·first | rfl | (simp only [go_sem]; done)
  ·exact zAG
  rintro ⟨x27_13, newslice_14⟩ s11 h hs11
  simp only [go_sem]
  try dsimp only at h
  unfold vB at h
  refine aB (aF hF [6, 25, 26, 27, 28] (yaA ?_))
  refine aA (aB (bC rfl (fun hc => ?_) (fun hc => ?_)))
  ·try simp only [go_sem] at hc
   have h := dP zAB h
   refine bY (aA (aB (dH (aB (aF hF [6, 8, 25, 26, 27] (yaA ?_))))))
   obtain ⟨g0, h⟩ := aM h
   repeat (refine ⟨zAA, ?_⟩)
   refine aA (aR hF [6, 25, 26, 27] (yaA ?_))
   obtain ⟨g0, h⟩ := aM h
   repeat (refine ⟨zAA, ?_⟩)
   refine aZ (aA (aF hF [6, 25, 26, 27] (yaA ?_)))
   obtain ⟨g0, h⟩ := aM h
   try simp only [I64, I32] at g0
   repeat (refine ⟨zAA, ?_⟩)
   obtain rfl := Option.some.inj h
   dsimp only [lR] at hs11
   refine bO (iB [1] rfl rfl (yaC ?_))
   refine aY ((x27_13 + (1 : Int)), (newslice_14 ++ (slices_0.getD (x27_13.toNat) ([] : List qd)))) hs11 rfl ?_
   ·exact zAG
  ·try simp only [go_sem] at hc
   have h := dQ zAB h
   obtain rfl := Option.some.inj h
   dsimp only [lR] at hs11
   have h := yaF (hs11)
   refine pV (cV (cV (fH (aA (aB (aF hF [2] (yaA ?_)))))))
   exact za5
attribute [go_sem] oG
def aBe (F : Md) (l_0 : qw) (x9_12 : Int) (seen_13 : (List (qd × Bool))) : Option ((Int × (List (qd × Bool))) ⊕ ((Unit) ⊕ Bool)) :=
 if x9_12 < (l_0.length : Int) then ck (0 ≤ x9_12 ∧ x9_12 < (l_0.length : Int)) ((fC F (l_0.getD (x9_12.toNat) ([] : List Nat))).bind (fun v_25 => if (¬ (v_25 = true)) ∨ (((aBA .str seen_13 (l_0.getD (x9_12.toNat) ([] : List Nat))).getD false) = true) then some (.inr (.inr false)) else ck (I64 (x9_12 + (1 : Int))) (some (.inl ((x9_12 + (1 : Int)), (zJ .str seen_13 (l_0.getD (x9_12.toNat) ([] : List Nat)) true)))))) else some (.inr (.inl ()))
def tV (F : Md) (l_0 : qw) : Option Bool :=
 (eJ F (fun d : Int × (List (qd × Bool)) => aBe F l_0 d.1 d.2) ((0 : Int), ([] : List (qd × Bool)))).bind (fun e => match e with | (.inl e) => some true | (.inr e) => some e)
def aHQ : PlR := ⟨[(0, .A [0]), (1, .B [0, 3]), (2, .A [3, 7, 8, 9]), (3, .A [3, 7, 8, 9, 10]), (4, .A [3, 5, 7, 8, 9]), (5, .A [3, 5, 7, 8, 9, 20]), (6, .A [2]), (7, .B [3, 7, 8, 9]), (8, .A [3, 7, 8, 9]), (9, .A [2])], []⟩
def aI4 : Ty := .pair wh .unit
def sG (F : Md) : aI := mSpec aI4 (.one .bool) (fun x => tV F x.1)
abbrev aI5 (F : Md) : List (FuncId × aI) := [(78, (pL F))]
theorem aQN [Mx] (F : Md) : bH Tryz.prog GL (aI5 F) := .cons (aEE F) xAa (.nil)
attribute [go_sem] aI4 aHQ
theorem aHR [Mx] (F : Md) : FOK Tryz.prog GL 37 (sG F) := by
 refine bT (aU (aQN F)) mix Tryz.func37 rfl xAa xAc aHQ fun w0 S x Θ hw h hF => ?_
 obtain ⟨(l_0 : qw), u⟩ := x
 simp only [bZ, go_sem]
 replace h : sat (tV F l_0) _ := h
 unfold tV at h
 refine cL hF (D := Int × (List (qd × Bool))) [7, 8] (fun d => [(3, .mp 0), (9, .val qe d.1)]) (fun d => [.inr (.map .str .bool d.2)]) h rfl xAb ?_
 rintro ⟨x9_12, seen_13⟩ A3 T3 hA3 hE3 h
 simp only [go_sem]
 replace h : sat (aBe F l_0 x9_12 seen_13) _ := h
 unfold aBe at h
 refine fY h (fun hc h => ?_) fun hc h => ?_
 ·refine bB h fun g0 h => ?_
  obtain ⟨v_25, hv, h⟩ := aP h
  try simp only [hv, go_sem]
  refine ⟨fun hc => ?_, fun hc => ?_⟩
  ·replace h := jV zAB h
   replace h := yaF (hE3 _ (aE h))
   exact zaF
  ·replace h := jW zAB h
   refine bB h fun g0 h => ?_
   replace h := hA3 _ (aE h)
   exact zaK
 ·replace h := yaF (hE3 _ (aE h))
  exact zaF
attribute [go_sem] sG
def kO (F : Md) (s_0 : qd) (prefix_1 : qd) : Option Bool :=
 ck (((prefix_1.length : Int) ≤ (s_0.length : Int)) → (0 ≤ (prefix_1.length : Int) ∧ (prefix_1.length : Int) ≤ (s_0.length : Int))) (some ((decide ((prefix_1.length : Int) ≤ (s_0.length : Int))) && (decide ((List.take (prefix_1.length) s_0) = prefix_1))))
def wK : PlR := ⟨[(0, .A [0, 1]), (1, .A [4])], []⟩
def xK : Ty := .pair .str wg
def gP (F : Md) : aI := mSpec xK (.one .bool) (fun x => kO F x.1 x.2.1)
abbrev aEK (F : Md) : List (FuncId × aI) := []
theorem aEL [Mx] (F : Md) : bH Tryz.prog GL (aEK F) := .nil
attribute [go_sem] xK wK
theorem wL [Mx] (F : Md) : FOK Tryz.prog GL 188 (gP F) := by
 refine bT (aU (aEL F)) mix Tryz.func188 rfl xAa xAc wK fun w0 S x Θ hw h hF => ?_
 obtain ⟨(s_0 : qd), (prefix_1 : qd), u⟩ := x
 simp only [bZ, go_sem]
 replace h : sat (kO F s_0 prefix_1) _ := h
 unfold kO at h
 refine bB h fun g0 h => ?_
 exact zaD
attribute [go_sem] gP
def nE (F : Md) (s_0 : qd) (prefix_1 : qd) : Option (qd × wn) :=
 (kO F s_0 prefix_1).bind (fun v_8 => if ¬ (v_8 = true) then some (s_0, false, ()) else ck (0 ≤ (prefix_1.length : Int) ∧ (prefix_1.length : Int) ≤ (s_0.length : Int)) (some ((List.drop (prefix_1.length) s_0), true, ())))
def wM : PlR := ⟨[(0, .A [0, 1]), (1, .A [0, 1, 9]), (2, .A [4, 5]), (3, .A [4, 5])], []⟩
def xL : Ty := .pair .str wg
def mP (F : Md) : aI := mSpec xL (.tup (.pair .str wu)) (fun x => nE F x.1 x.2.1)
abbrev xM (F : Md) : List (FuncId × aI) := [(188, (gP F))]
theorem aEM [Mx] (F : Md) : bH Tryz.prog GL (xM F) := .cons (wL F) xAa (.nil)
attribute [go_sem] xL wM
theorem aDM [Mx] (F : Md) : FOK Tryz.prog GL 180 (mP F) := by
 refine bT (aU (aEM F)) mix Tryz.func180 rfl xAa xAc wM fun w0 S x Θ hw h hF => ?_
 obtain ⟨(s_0 : qd), (prefix_1 : qd), u⟩ := x
 simp only [bZ, go_sem]
 replace h : sat (nE F s_0 prefix_1) _ := h
 unfold nE at h
 obtain ⟨v_8, hv, h⟩ := aP h
 try simp only [hv, go_sem]
 refine aEx h (fun hc h => ?_) fun hc h => ?_
 ·exact aK hF [.tmp 4, .tmp 5] rfl rfl rfl (aE h) xAd
 ·refine bB h fun g0 h => ?_
  exact aK hF [.tmp 4, .tmp 5] rfl rfl rfl (aE h) xAd
attribute [go_sem] mP
def rS (F : Md) (s_0 : qd) (prefix_1 : qd) : Option (qd × wn) :=
 (nE F s_0 prefix_1).bind (fun v_6 => some (v_6.1, v_6.2.1, ()))
def aBM : PlR := ⟨[(0, .A [0, 1]), (1, .A [4, 5])], []⟩
def aCj : Ty := .pair .str wg
def rE (F : Md) : aI := mSpec aCj (.tup (.pair .str wu)) (fun x => rS F x.1 x.2.1)
abbrev aCk (F : Md) : List (FuncId × aI) := [(180, (mP F))]
theorem aID [Mx] (F : Md) : bH Tryz.prog GL (aCk F) := .cons (aDM F) xAa (.nil)
attribute [go_sem] aCj aBM
theorem aHS [Mx] (F : Md) : FOK Tryz.prog GL 154 (rE F) := by
 refine bT (aU (aID F)) mix Tryz.func154 rfl xAa xAc aBM fun w0 S x Θ hw h hF => ?_
 obtain ⟨(s_0 : qd), (prefix_1 : qd), u⟩ := x
 simp only [bZ, go_sem]
 replace h : sat (rS F s_0 prefix_1) _ := h
 unfold rS at h
 obtain ⟨v_6, hv, h⟩ := aP h
 try simp only [hv, go_sem]
 exact aK hF [.tmp 4, .tmp 5] rfl rfl rfl (aE h) xAd
attribute [go_sem] rE
def xN (F : Md) (s_0 : qd) : Option (Bool × (qd × (qd × wn))) :=
 (rS F s_0 (aS ⟨#[45]⟩)).bind (fun v_5 => (aD5 F v_5.1).bind (fun v_9 => some ((v_5.2.1 && (decide ((0 : Int) < (v_9.1.length : Int)))), v_9.1, v_9.2.1, v_9.2.2.1, ())))
def aHT : PlR := ⟨[(0, .A [0]), (1, .A [6, 7]), (2, .A [7, 8, 9, 10]), (3, .A [2, 3, 4, 5])], []⟩
def aI6 : Ty := .pair .str .unit
def aAo (F : Md) : aI := mSpec aI6 (.tup (.pair .bool (.pair we (.pair we wu)))) (fun x => xN F x.1)
abbrev aEN (F : Md) : List (FuncId × aI) := [(154, (rE F)), (155, (aCM F))]
theorem aQO [Mx] (F : Md) : bH Tryz.prog GL (aEN F) := .cons (aHS F) xAa (.cons (aSg F) xAa (.nil))
attribute [go_sem] aI6 aHT
theorem aP7 [Mx] (F : Md) : FOK Tryz.prog GL 113 (aAo F) := by
 refine bT (aU (aQO F)) mix Tryz.func113 rfl xAa xAc aHT fun w0 S x Θ hw h hF => ?_
 obtain ⟨(s_0 : qd), u⟩ := x
 simp only [bZ, go_sem]
 replace h : sat (xN F s_0) _ := h
 unfold xN at h
 obtain ⟨v_5, hv, h⟩ := aP h
 try simp only [hv, go_sem]
 obtain ⟨v_9, hv, h⟩ := aP h
 try simp only [hv, go_sem]
 exact aK hF [.tmp 2, .tmp 3, .tmp 4, .tmp 5] rfl rfl rfl (aE h) xAd
attribute [go_sem] aAo
def rF (F : Md) (r_0 : qv) (hi_2 : qd) : Option (Bool) :=
 (xN F r_0.1).bind (fun v_6 => (xN F hi_2).bind (fun v_10 => (lE F v_6.2.1 v_10.2.2.1).bind (fun v_20 => (lE F v_10.2.1 v_6.2.2.1).bind (fun v_21 => (uU F v_20 v_21).bind (fun v_22 => if (¬ (v_6.2.2.2.1 = true)) ∨ (¬ (v_10.2.2.2.1 = true)) then some false else if (v_6.1 != v_10.1) = true then some v_6.1 else if v_6.1 = true then some (decide ((0 : Int) ≤ v_22)) else some (decide (v_22 ≤ (0 : Int))))))))
def nT (F : Md) (r_0 : qv) : Option Bool :=
 if r_0.2.1 = (aS ⟨#[]⟩) then rF F r_0 r_0.1 else rF F r_0 r_0.2.1
def aGI : PlR := ⟨[(0, .B [1]), (1, .A [1, 3]), (2, .A [1, 3, 16]), (3, .A [1, 3]), (4, .A [3, 4, 5, 6, 7]), (5, .A [4, 5, 6, 7, 8, 9, 10, 11]), (6, .A [4, 7, 8, 11, 12]), (7, .A [2]), (8, .A [4, 8, 12, 43]), (9, .A [2]), (10, .A [4, 12, 50]), (11, .A [2]), (12, .A [12, 55]), (13, .A [2])], [(5, 7)]⟩
def aHU : Ty := .pair qg .unit
def yA (F : Md) : aI := mSpec aHU (.one .bool) (fun x => nT F x.1)
abbrev aAp (F : Md) : List (FuncId × aI) := [(104, (iG F)), (113, (aAo F)), (114, (qZ F))]
theorem aP8 [Mx] (F : Md) : bH Tryz.prog GL (aAp F) := .cons (vI F) xAa (.cons (aP7 F) xAa (.cons (aFZ F) xAa (.nil)))
attribute [go_sem] aHU aGI
theorem aOc [Mx] (F : Md) : FOK Tryz.prog GL 74 (yA F) := by
 refine bT (aU (aP8 F)) mix Tryz.func74 rfl xAa xAc aGI fun w0 S x Θ hw h hF => ?_
 obtain ⟨(r_0 : qv), u⟩ := x
 simp only [bZ, go_sem]
 replace h : sat (nT F r_0) _ := h
 unfold nT at h
 refine fD hF (D := qd) (fun d => sat (rF F r_0 d) Θ) [] (fun d => [(1, .ptr 0 []), (3, .val .str d)]) (fun d => [.inr (.box 2 (.val qg r_0))]) ?_ ?_
 ·simp only [go_sem]
  refine fL h (fun hc h => ?_) fun hc h => ?_
  ·exact aY r_0.1 h rfl xAb
  ·exact aY r_0.2.1 h rfl xAb
 ·rintro hi_2 h
  simp only [go_sem]
  replace h : sat (rF F r_0 hi_2) _ := h
  unfold rF at h
  obtain ⟨v_6, hv, h⟩ := aP h
  try simp only [hv, go_sem]
  obtain ⟨v_10, hv, h⟩ := aP h
  try simp only [hv, go_sem]
  obtain ⟨v_20, hv, h⟩ := aP h
  try simp only [hv, go_sem]
  obtain ⟨v_21, hv, h⟩ := aP h
  try simp only [hv, go_sem]
  obtain ⟨v_22, hv, h⟩ := aP h
  try simp only [hv, go_sem]
  refine ⟨fun hc => ?_, fun hc => ?_⟩
  ·replace h := jV zAB h
   exact zaF
  ·replace h := jW zAB h
   refine aHy h (fun hc h => ?_) fun hc h => ?_
   ·exact aK hF [.tmp 2] rfl rfl rfl (aE h) xAd
   ·refine aHy h (fun hc h => ?_) fun hc h => ?_
    ·exact aK hF [.tmp 2] rfl rfl rfl (aE h) xAd
    ·exact aK hF [.tmp 2] rfl rfl rfl (aE h) xAd
attribute [go_sem] yA
end
end Nu
end Go.Proofs
