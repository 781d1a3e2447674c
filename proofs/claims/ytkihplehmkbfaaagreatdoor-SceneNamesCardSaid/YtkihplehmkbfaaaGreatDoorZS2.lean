import Derived.Test.YtkihplehmkbfaaaGreatDoorZS1
import Derived.Test.YtkihplehmkbfaaaGreatDoorZL6
import Derived.Lib.AppendZeros
import Derived.Lib.SliceRun
import Derived.WalkKit
import Derived.Lib.Walk
import Derived.Shelf.RegionOpenPlain
set_option linter.unusedVariables false
set_option linter.unusedSimpArgs false
namespace Go.Proofs
open Go.Vc
set_option maxRecDepth 20000
namespace Nu
def aKf : ByteArray := ⟨⟨97 :: 98 :: 99 :: 100 :: 101 :: 102 :: 103 :: 104 :: 105 :: 106 :: 107 :: 108 :: 109 :: 110 :: 111 :: 112 :: 113 :: 114 :: 115 :: 116 :: 117 :: 118 :: 119 :: 120 :: 121 :: 122 :: 48 :: 49 :: 50 :: 51 :: 52 :: 53 :: 54 :: 55 :: 56 :: 57 :: 95 :: []⟩⟩
theorem aKS : (⟨⟨97 :: 98 :: 99 :: 100 :: 101 :: 102 :: 103 :: 104 :: 105 :: 106 :: 107 :: 108 :: 109 :: 110 :: 111 :: 112 :: 113 :: 114 :: 115 :: 116 :: 117 :: 118 :: 119 :: 120 :: 121 :: 122 :: 48 :: 49 :: 50 :: 51 :: 52 :: 53 :: 54 :: 55 :: 56 :: 57 :: 95 :: []⟩⟩ : ByteArray) = aKf := rfl
attribute [go_sem] aKS
noncomputable def kV (F : Md) (c_1 : Nat) (s_5 : (List Nat)) : Option (((List Nat)) ⊕ (((List Nat)))) :=
 ck ((((0 : Int) < (((s_5.length) : Nat) : Int)) → (I64 ((((s_5.length) : Nat) : Int) - (1 : Int))))) (ck ((((0 : Int) < (((s_5.length) : Nat) : Int)) → (0 ≤ ((((s_5.length) : Nat) : Int) - (1 : Int)) ∧ ((((s_5.length) : Nat) : Int) - (1 : Int)) < (((s_5.length) : Nat) : Int)))) (if ((0 : Int) < (((s_5.length) : Nat) : Int)) ∧ ((s_5.getD (((((s_5.length) : Nat) : Int) - (1 : Int)).toNat) (0 : Nat)) = c_1) then ck (I64 ((((s_5.length) : Nat) : Int) - (1 : Int))) (ck (0 ≤ ((((s_5.length) : Nat) : Int) - (1 : Int)) ∧ ((((s_5.length) : Nat) : Int) - (1 : Int)) ≤ (((s_5.length) : Nat) : Int)) (some (.inl (List.take (((((s_5.length) : Nat) : Int) - (1 : Int)).toNat) s_5)))) else some (.inr s_5)))
noncomputable def jF (F : Md) (s_0 : (List Nat)) (c_1 : Nat) : Option (List Nat) :=
 (dG F (fun d : (List Nat) => kV F c_1 d) s_0).bind (fun e => some e)
def qM : PlR := ⟨[(0, .A [0, 1]), (1, .A [0, 1, 16]), (2, .A [0, 1]), (3, .A [4])], []⟩
def sF : Ty := .pair .str (.pair (.u .u8) .unit)
noncomputable def iI (F : Md) : aG := mSpec sF (.one .str) (fun x => jF F x.1 x.2.1)
noncomputable def aA1 (F : Md) : List (FuncId × aG) := []
theorem aA2 (F : Md) : bE Tryz.prog GL (aA1 F) := .nil
attribute [go_sem] sF qM
set_option maxHeartbeats 4000000 in
theorem aAE (F : Md) : FOK Tryz.prog GL 143 (iI F) := by
 refine bH (bA (aA2 F)) mix Tryz.func143 rfl (by kernel_rfl) (by decide) qM fun w0 S x Θ hw h hF => ?_
 obtain ⟨(s_0 : (List Nat)), (c_1 : Nat), u⟩ := x
 simp only [bL, go_sem]
 replace h : sat (jF F s_0 c_1) _ := h
 unfold jF at h
 refine bS hF (D := (List Nat)) [1] (fun d => [(0, .val .str d)]) (fun d => []) h rfl (by simp only [go_sem]) ?_
 rintro s_5 A1 T1 hA1 hE1 h
 simp only [go_sem]
 replace h : sat (kV F c_1 s_5) _ := h
 unfold kV at h
 refine aS h fun g0 h => aS h fun g1 h => ?_
 refine ⟨fun hc => ?_, fun hc => ?_⟩
 ·replace h := iR hc h
  refine aS h fun g0 h => aS h fun g1 h => ?_
  replace h := hA1 _ (aA h)
  exact aV _ h rfl (by simp only [go_sem])
 ·replace h := iS hc h
  replace h := hE1 _ (aA h)
  try dsimp only at h
  exact aI hF [.tmp 4] rfl rfl rfl (aA h) (by simp only [aT, go_sem])
attribute [go_sem] iI
noncomputable def lM (F : Md) (c_1 : Nat) (s_5 : (List Nat)) : Option (((List Nat)) ⊕ (((List Nat)))) :=
 ck ((((0 : Int) < (((s_5.length) : Nat) : Int)) → ((0 : Int) < (((s_5.length) : Nat) : Int)))) (if ((0 : Int) < (((s_5.length) : Nat) : Int)) ∧ ((s_5.getD (0 : Nat) (0 : Nat)) = c_1) then ck ((1 : Int) ≤ (((s_5.length) : Nat) : Int)) (some (.inl (List.drop (1 : Nat) s_5))) else some (.inr s_5))
noncomputable def kD (F : Md) (s_0 : (List Nat)) (c_1 : Nat) : Option (List Nat) :=
 (dG F (fun d : (List Nat) => lM F c_1 d) s_0).bind (fun e => some e)
def sG : PlR := ⟨[(0, .A [0, 1]), (1, .A [0, 1, 13]), (2, .A [0, 1]), (3, .A [4])], []⟩
def tE : Ty := .pair .str (.pair (.u .u8) .unit)
noncomputable def jG (F : Md) : aG := mSpec tE (.one .str) (fun x => kD F x.1 x.2.1)
noncomputable def aBX (F : Md) : List (FuncId × aG) := []
theorem aBY (F : Md) : bE Tryz.prog GL (aBX F) := .nil
attribute [go_sem] tE sG
set_option maxHeartbeats 4000000 in
theorem aA3 (F : Md) : FOK Tryz.prog GL 142 (jG F) := by
 refine bH (bA (aBY F)) mix Tryz.func142 rfl (by kernel_rfl) (by decide) sG fun w0 S x Θ hw h hF => ?_
 obtain ⟨(s_0 : (List Nat)), (c_1 : Nat), u⟩ := x
 simp only [bL, go_sem]
 replace h : sat (kD F s_0 c_1) _ := h
 unfold kD at h
 refine bS hF (D := (List Nat)) [1] (fun d => [(0, .val .str d)]) (fun d => []) h rfl (by simp only [go_sem]) ?_
 rintro s_5 A1 T1 hA1 hE1 h
 simp only [go_sem]
 replace h : sat (lM F c_1 s_5) _ := h
 unfold lM at h
 refine aS h fun g0 h => ?_
 refine ⟨fun hc => ?_, fun hc => ?_⟩
 ·replace h := iR hc h
  refine aS h fun g0 h => ?_
  replace h := hA1 _ (aA h)
  exact aV _ h rfl (by simp only [go_sem])
 ·replace h := iS hc h
  replace h := hE1 _ (aA h)
  try dsimp only at h
  exact aI hF [.tmp 4] rfl rfl rfl (aA h) (by simp only [aT, go_sem])
attribute [go_sem] jG
noncomputable def eM (F : Md) (as_0 : (List Bool)) (c_1 : Nat) : Option Bool :=
 ck (0 ≤ ((c_1 : Nat) : Int) ∧ ((c_1 : Nat) : Int) < (256 : Int)) (some (as_0.getD c_1 false))
def nQ : PlR := ⟨[(0, .A [0, 1]), (1, .A [4])], []⟩
def oF : Ty := .pair (.rp (.arr 256 .bool)) (.pair (.u .u8) .unit)
noncomputable def dK (F : Md) : aG := mSpec oF (.one .bool) (fun x => eM F x.1 x.2.1)
noncomputable def xL (F : Md) : List (FuncId × aG) := []
theorem xM (F : Md) : bE Tryz.prog GL (xL F) := .nil
attribute [go_sem] oF nQ
set_option maxHeartbeats 4000000 in
theorem nR (F : Md) : FOK Tryz.prog GL 205 (dK F) := by
 refine bH (bA (xM F)) mix Tryz.func205 rfl (by kernel_rfl) (by decide) nQ fun w0 S x Θ hw h hF => ?_
 obtain ⟨(as_0 : (List Bool)), (c_1 : Nat), u⟩ := x
 simp only [bL, go_sem]
 replace h : sat (eM F as_0 c_1) _ := h
 unfold eM at h
 refine aS h fun g0 h => ?_
 exact aI hF [.tmp 4] rfl rfl rfl (aA h) (by simp only [aT, go_sem])
attribute [go_sem] dK
noncomputable def lN (F : Md) (chars_0 : (List Nat)) (i_6 : Int) (as_7 : (List Bool)) : Option ((Int × (List Bool)) ⊕ (((List Bool)) ⊕ ((List Bool) × (Bool × Unit)))) :=
 if i_6 < (((chars_0.length) : Nat) : Int) then ck (0 ≤ i_6 ∧ i_6 < (((chars_0.length) : Nat) : Int)) (if (128 : Nat) ≤ (chars_0.getD (i_6.toNat) (0 : Nat)) then some (.inr (.inr (as_7, false, ()))) else ck (0 ≤ (((chars_0.getD (i_6.toNat) (0 : Nat)) : Nat) : Int) ∧ (((chars_0.getD (i_6.toNat) (0 : Nat)) : Nat) : Int) < (256 : Int)) (ck (I64 (i_6 + (1 : Int))) (some (.inl ((i_6 + (1 : Int)), (as_7.set (chars_0.getD (i_6.toNat) (0 : Nat)) true)))))) else some (.inr (.inl as_7))
noncomputable def kE (F : Md) (chars_0 : (List Nat)) : Option ((List Bool) × (Bool × Unit)) :=
 (dG F (fun d : Int × (List Bool) => lN F chars_0 d.1 d.2) ((0 : Int), (List.replicate 256 false))).bind (fun e => match e with | (.inl e) => some (e, true, ()) | (.inr e) => some e)
def sH : PlR := ⟨[(0, .B [0, 2]), (1, .A [0, 2, 4]), (2, .A [0, 2, 4, 9]), (3, .A [0, 2, 4]), (4, .A [0, 2, 4, 5]), (5, .A [0, 2, 4, 5, 16]), (6, .B [2, 3]), (7, .B [0, 2, 4]), (8, .B [2, 3])], []⟩
def tF : Ty := .pair .str .unit
noncomputable def jH (F : Md) : aG := mSpec tF (.tup (.pair (.arr 256 .bool) (.pair .bool .unit))) (fun x => kE F x.1)
noncomputable def aBZ (F : Md) : List (FuncId × aG) := []
theorem aB0 (F : Md) : bE Tryz.prog GL (aBZ F) := .nil
attribute [go_sem] tF sH
set_option maxHeartbeats 4000000 in
theorem aA4 (F : Md) : FOK Tryz.prog GL 144 (jH F) := by
 refine bH (bA (aB0 F)) mix Tryz.func144 rfl (by kernel_rfl) (by decide) sH fun w0 S x Θ hw h hF => ?_
 obtain ⟨(chars_0 : (List Nat)), u⟩ := x
 simp only [bL, go_sem]
 replace h : sat (kE F chars_0) _ := h
 unfold kE at h
 refine bS hF (D := Int × (List Bool)) [0] (fun d => [(2, .ptr 0 []), (4, .val (.i .i64) d.1)]) (fun d => [.inr (.box 256 (.val (.arr 256 .bool) d.2))]) h rfl (by simp only [go_sem]) ?_
 rintro ⟨i_6, as_7⟩ A2 T2 hA2 hE2 h
 simp only [go_sem]
 replace h : sat (lN F chars_0 i_6 as_7) _ := h
 unfold lN at h
 refine eC h (fun hc h => ?_) fun hc h => ?_
 ·obtain ⟨g0, h⟩ := aN h
  repeat (refine ⟨by omega, ?_⟩)
  refine dP h (fun hc h => ?_) fun hc h => ?_
  ·replace h := hE2 _ (aA h)
   try dsimp only at h
   exact aI hF [.cell 2 174, .tmp 3] rfl rfl rfl (aA h) (by simp only [aT, go_sem])
  ·obtain ⟨g0, h⟩ := aN h
   repeat (refine ⟨by omega, ?_⟩)
   obtain ⟨g0, h⟩ := aN h
   repeat (refine ⟨by omega, ?_⟩)
   replace h := hA2 _ (aA h)
   exact aV _ h rfl (by simp only [go_sem])
 ·replace h := hE2 _ (aA h)
  try dsimp only at h
  exact aI hF [.cell 2 174, .tmp 3] rfl rfl rfl (aA h) (by simp only [aT, go_sem])
attribute [go_sem] jH
noncomputable def kF (F : Md) (as_1 : (List Bool)) (s_11 : (List Nat)) : Option (((List Nat)) ⊕ (((List Nat)))) :=
 if (0 : Int) < (((s_11.length) : Nat) : Int) then ck (I64 ((((s_11.length) : Nat) : Int) - (1 : Int))) (ck (0 ≤ ((((s_11.length) : Nat) : Int) - (1 : Int)) ∧ ((((s_11.length) : Nat) : Int) - (1 : Int)) < (((s_11.length) : Nat) : Int)) ((eM F as_1 (s_11.getD (((((s_11.length) : Nat) : Int) - (1 : Int)).toNat) (0 : Nat))).bind (fun v_21 => if ¬ (v_21 = true) then some (.inr s_11) else ck (I64 ((((s_11.length) : Nat) : Int) - (1 : Int))) (ck (0 ≤ ((((s_11.length) : Nat) : Int) - (1 : Int)) ∧ ((((s_11.length) : Nat) : Int) - (1 : Int)) ≤ (((s_11.length) : Nat) : Int)) (some (.inl (List.take (((((s_11.length) : Nat) : Int) - (1 : Int)).toNat) s_11))))))) else some (.inr s_11)
noncomputable def iJ (F : Md) (s_0 : (List Nat)) (as_1 : (List Bool)) : Option (List Nat) :=
 (dG F (fun d : (List Nat) => kF F as_1 d) s_0).bind (fun e => some e)
def pW : PlR := ⟨[(0, .A [0, 1]), (1, .A [0, 1, 7]), (2, .A [0, 1, 15]), (3, .A [0, 1]), (4, .A [4])], []⟩
def qN : Ty := .pair .str (.pair (.rp (.arr 256 .bool)) .unit)
noncomputable def hZ (F : Md) : aG := mSpec qN (.one .str) (fun x => iJ F x.1 x.2.1)
noncomputable def qO (F : Md) : List (FuncId × aG) := [(205, (dK F))]
theorem aAF (F : Md) : bE Tryz.prog GL (qO F) := .cons (nR F) (by kernel_rfl) (.nil)
theorem wJ (F : Md) : gam (qO F) 205 = some (dK F) := rfl
attribute [go_sem] qN pW wJ
set_option maxHeartbeats 4000000 in
theorem zU (F : Md) : FOK Tryz.prog GL 146 (hZ F) := by
 refine bH (bA (aAF F)) mix Tryz.func146 rfl (by kernel_rfl) (by decide) pW fun w0 S x Θ hw h hF => ?_
 obtain ⟨(s_0 : (List Nat)), (as_1 : (List Bool)), u⟩ := x
 simp only [bL, go_sem]
 replace h : sat (iJ F s_0 as_1) _ := h
 unfold iJ at h
 refine bS hF (D := (List Nat)) [1] (fun d => [(0, .val .str d)]) (fun d => []) h rfl (by simp only [go_sem]) ?_
 rintro s_11 A1 T1 hA1 hE1 h
 simp only [go_sem]
 replace h : sat (kF F as_1 s_11) _ := h
 unfold kF at h
 refine eC h (fun hc h => ?_) fun hc h => ?_
 ·refine aS h fun g0 h => aS h fun g1 h => ?_
  obtain ⟨v_21, hv, h⟩ := aM h
  try simp only [hv, go_sem]
  refine aAy h (fun hc h => ?_) fun hc h => ?_
  ·replace h := hE1 _ (aA h)
   try dsimp only at h
   exact aI hF [.tmp 4] rfl rfl rfl (aA h) (by simp only [aT, go_sem])
  ·refine aS h fun g0 h => aS h fun g1 h => ?_
   replace h := hA1 _ (aA h)
   exact aV _ h rfl (by simp only [go_sem])
 ·replace h := hE1 _ (aA h)
  try dsimp only at h
  exact aI hF [.tmp 4] rfl rfl rfl (aA h) (by simp only [aT, go_sem])
attribute [go_sem] hZ
noncomputable def kW (F : Md) (as_1 : (List Bool)) (s_11 : (List Nat)) : Option (((List Nat)) ⊕ (((List Nat)))) :=
 if (0 : Int) < (((s_11.length) : Nat) : Int) then ck ((0 : Int) < (((s_11.length) : Nat) : Int)) ((eM F as_1 (s_11.getD (0 : Nat) (0 : Nat))).bind (fun v_21 => if ¬ (v_21 = true) then some (.inr s_11) else ck ((1 : Int) ≤ (((s_11.length) : Nat) : Int)) (some (.inl (List.drop (1 : Nat) s_11))))) else some (.inr s_11)
noncomputable def jI (F : Md) (s_0 : (List Nat)) (as_1 : (List Bool)) : Option (List Nat) :=
 (dG F (fun d : (List Nat) => kW F as_1 d) s_0).bind (fun e => some e)
def qP : PlR := ⟨[(0, .A [0, 1]), (1, .A [0, 1, 7]), (2, .A [0, 1, 12]), (3, .A [0, 1]), (4, .A [4])], []⟩
def sI : Ty := .pair .str (.pair (.rp (.arr 256 .bool)) .unit)
noncomputable def iK (F : Md) : aG := mSpec sI (.one .str) (fun x => jI F x.1 x.2.1)
noncomputable def sJ (F : Md) : List (FuncId × aG) := [(205, (dK F))]
theorem aA5 (F : Md) : bE Tryz.prog GL (sJ F) := .cons (nR F) (by kernel_rfl) (.nil)
theorem xN (F : Md) : gam (sJ F) 205 = some (dK F) := rfl
attribute [go_sem] sI qP xN
set_option maxHeartbeats 4000000 in
theorem aAG (F : Md) : FOK Tryz.prog GL 145 (iK F) := by
 refine bH (bA (aA5 F)) mix Tryz.func145 rfl (by kernel_rfl) (by decide) qP fun w0 S x Θ hw h hF => ?_
 obtain ⟨(s_0 : (List Nat)), (as_1 : (List Bool)), u⟩ := x
 simp only [bL, go_sem]
 replace h : sat (jI F s_0 as_1) _ := h
 unfold jI at h
 refine bS hF (D := (List Nat)) [1] (fun d => [(0, .val .str d)]) (fun d => []) h rfl (by simp only [go_sem]) ?_
 rintro s_11 A1 T1 hA1 hE1 h
 simp only [go_sem]
 replace h : sat (kW F as_1 s_11) _ := h
 unfold kW at h
 refine eC h (fun hc h => ?_) fun hc h => ?_
 ·refine aS h fun g0 h => ?_
  obtain ⟨v_21, hv, h⟩ := aM h
  try simp only [hv, go_sem]
  refine aAy h (fun hc h => ?_) fun hc h => ?_
  ·replace h := hE1 _ (aA h)
   try dsimp only at h
   exact aI hF [.tmp 4] rfl rfl rfl (aA h) (by simp only [aT, go_sem])
  ·refine aS h fun g0 h => ?_
   replace h := hA1 _ (aA h)
   exact aV _ h rfl (by simp only [go_sem])
 ·replace h := hE1 _ (aA h)
  try dsimp only at h
  exact aI hF [.tmp 4] rfl rfl rfl (aA h) (by simp only [aT, go_sem])
attribute [go_sem] iK
noncomputable def tG (F : Md) (s_0 : (List Nat)) (cutset_1 : (List Nat)) : Option (List Nat) :=
 if (s_0 = (aE ⟨#[]⟩)) ∨ (cutset_1 = (aE ⟨#[]⟩)) then some s_0 else ck ((((((cutset_1.length) : Nat) : Int) = (1 : Int)) → ((0 : Int) < (((cutset_1.length) : Nat) : Int)))) (if ((((cutset_1.length) : Nat) : Int) = (1 : Int)) ∧ ((cutset_1.getD (0 : Nat) (0 : Nat)) < (128 : Nat)) then ck ((0 : Int) < (((cutset_1.length) : Nat) : Int)) ((jF F s_0 (cutset_1.getD (0 : Nat) (0 : Nat))).bind (fun v_19 => ck ((0 : Int) < (((cutset_1.length) : Nat) : Int)) ((kD F v_19 (cutset_1.getD (0 : Nat) (0 : Nat))).bind (fun v_20 => some v_20)))) else (kE F cutset_1).bind (fun v_27 => if ((v_27.2).1) = true then (iJ F s_0 (v_27.1)).bind (fun v_34 => (jI F v_34 (v_27.1)).bind (fun v_35 => some v_35)) else none))
def aCf : PlR := ⟨[(0, .A [0, 1]), (1, .A [0, 1, 12]), (2, .A [4]), (3, .A [0, 1, 21]), (4, .A [4]), (5, .B [0, 1, 5, 6]), (6, .A [0, 1, 5, 34]), (7, .A [4]), (8, .stop)], []⟩
def aDb : Ty := .pair .str (.pair .str .unit)
noncomputable def rC (F : Md) : aG := mSpec aDb (.one .str) (fun x => tG F x.1 x.2.1)
noncomputable def mO (F : Md) : List (FuncId × aG) := [(142, (jG F)), (143, (iI F)), (144, (jH F)), (145, (iK F)), (146, (hZ F))]
theorem aKg (F : Md) : bE Tryz.prog GL (mO F) := .cons (aA3 F) (by kernel_rfl) (.cons (aAE F) (by kernel_rfl) (.cons (aA4 F) (by kernel_rfl) (.cons (aAG F) (by kernel_rfl) (.cons (zU F) (by kernel_rfl) (.nil)))))
theorem aEE (F : Md) : gam (mO F) 142 = some (jG F) := rfl
theorem aEF (F : Md) : gam (mO F) 143 = some (iI F) := rfl
theorem aEG (F : Md) : gam (mO F) 144 = some (jH F) := rfl
theorem aEH (F : Md) : gam (mO F) 145 = some (iK F) := rfl
theorem aEI (F : Md) : gam (mO F) 146 = some (hZ F) := rfl
attribute [go_sem] aDb aCf aEE aEF aEG aEH aEI
set_option maxHeartbeats 4000000 in
theorem aIl (F : Md) : FOK Tryz.prog GL 70 (rC F) := by
 refine bH (bA (aKg F)) mix Tryz.func70 rfl (by kernel_rfl) (by decide) aCf fun w0 S x Θ hw h hF => ?_
 obtain ⟨(s_0 : (List Nat)), (cutset_1 : (List Nat)), u⟩ := x
 simp only [bL, go_sem]
 replace h : sat (tG F s_0 cutset_1) _ := h
 unfold tG at h
 refine ⟨fun hc => ?_, fun hc => ?_⟩
 ·replace h := iR hc h
  exact aI hF [.tmp 4] rfl rfl rfl (aA h) (by simp only [aT, go_sem])
 ·replace h := iS hc h
  refine aS h fun g0 h => ?_
  refine ⟨fun hc => ?_, fun hc => ?_⟩
  ·replace h := iR hc h
   refine aS h fun g0 h => ?_
   obtain ⟨v_19, hv, h⟩ := aM h
   try simp only [hv, go_sem]
   refine aS h fun g0 h => ?_
   obtain ⟨v_20, hv, h⟩ := aM h
   try simp only [hv, go_sem]
   exact aI hF [.tmp 4] rfl rfl rfl (aA h) (by simp only [aT, go_sem])
  ·replace h := iS hc h
   obtain ⟨v_27, hv, h⟩ := aM h
   try simp only [hv, go_sem]
   refine aHp h (fun hc h => ?_) fun hc h => ?_
   ·obtain ⟨v_34, hv, h⟩ := aM h
    try simp only [hv, go_sem]
    obtain ⟨v_35, hv, h⟩ := aM h
    try simp only [hv, go_sem]
    exact aI hF [.tmp 4] rfl rfl rfl (aA h) (by simp only [aT, go_sem])
   ·exact aAZ h
attribute [go_sem] rC
noncomputable def kR (F : Md) : Option (List (List Nat)) :=
 some ([(aE ⟨#[116]⟩), (aE ⟨#[115, 113, 114]⟩), (aE ⟨#[115, 113, 114, 116]⟩), (aE ⟨#[101, 120, 112]⟩), (aE ⟨#[112, 114, 101, 99]⟩), (aE ⟨#[101, 110, 100]⟩), (aE ⟨#[115, 116, 101, 112]⟩), (aE ⟨#[116, 111, 108]⟩), (aE ⟨#[116, 114, 105, 101, 115]⟩), (aE ⟨#[111, 114, 100, 101, 114]⟩), (aE ⟨#[106, 97, 99, 111, 98, 105]⟩), (aE ⟨#[115, 101, 105, 100, 101, 108]⟩), (aE ⟨#[115, 117, 98]⟩), (aE ⟨#[115, 116, 97, 116, 101]⟩), (aE ⟨#[112, 97, 114]⟩), (aE ⟨#[105, 110]⟩), (aE ⟨#[111, 117, 116]⟩), (aE ⟨#[100, 101, 114]⟩), (aE ⟨#[108, 105, 110, 107]⟩)] : List (List Nat))
def aAk : PlR := ⟨[(0, .A []), (1, .A [0])], []⟩
def aA6 : Ty := .unit
noncomputable def oG (F : Md) : aG := mSpec aA6 (.one (.sl .str)) (fun x => kR F )
noncomputable def aGS (F : Md) : List (FuncId × aG) := []
theorem aGT (F : Md) : bE Tryz.prog GL (aGS F) := .nil
attribute [go_sem] aA6 aAk
set_option maxHeartbeats 4000000 in
theorem aFO (F : Md) : FOK Tryz.prog GL 72 (oG F) := by
 refine bH (bA (aGT F)) mix Tryz.func72 rfl (by kernel_rfl) (by decide) aAk fun w0 S x Θ hw h hF => ?_
 simp only [bL, go_sem]
 replace h : sat (kR F) _ := h
 unfold kR at h
 exact aI hF [.tmp 0] rfl rfl rfl (aA h) (by (simp only [aT, go_sem]) <;> first | rfl | (simp; done))
attribute [go_sem] oG
noncomputable def mF (F : Md) (s_0 : (List (List Nat))) (v_1 : (List Nat)) (x8_5 : Int) : Option ((Int) ⊕ ((Unit) ⊕ Int)) :=
 if x8_5 < (((s_0.length) : Nat) : Int) then ck (0 ≤ x8_5 ∧ x8_5 < (((s_0.length) : Nat) : Int)) (if v_1 = (s_0.getD (x8_5.toNat) ([] : List Nat)) then some (.inr (.inr x8_5)) else ck (I64 (x8_5 + (1 : Int))) (some (.inl (x8_5 + (1 : Int))))) else some (.inr (.inl ()))
noncomputable def lH (F : Md) (s_0 : (List (List Nat))) (v_1 : (List Nat)) : Option Int :=
 (dG F (fun d : Int => mF F s_0 v_1 d) (0 : Int)).bind (fun e => match e with | (.inl e) => some (-1 : Int) | (.inr e) => some e)
def tH : PlR := ⟨[(0, .A [0, 1]), (1, .A [0, 1, 7, 8]), (2, .A [0, 1, 7, 8, 9]), (3, .A [0, 1, 5, 7, 8]), (4, .A [0, 1, 5, 7, 8, 16]), (5, .A [4]), (6, .A [0, 1, 7, 8]), (7, .A [4])], []⟩
def uK : Ty := .pair (.sl .str) (.pair .str .unit)
noncomputable def kG (F : Md) : aG := mSpec uK (.one (.i .i64)) (fun x => lH F x.1 x.2.1)
noncomputable def aCu (F : Md) : List (FuncId × aG) := []
theorem aCv (F : Md) : bE Tryz.prog GL (aCu F) := .nil
attribute [go_sem] uK tH
set_option maxHeartbeats 4000000 in
theorem aB1 (F : Md) : FOK Tryz.prog GL 149 (kG F) := by
 refine bH (bA (aCv F)) mix Tryz.func149 rfl (by kernel_rfl) (by decide) tH fun w0 S x Θ hw h hF => ?_
 obtain ⟨(s_0 : (List (List Nat))), (v_1 : (List Nat)), u⟩ := x
 simp only [bL, go_sem]
 replace h : sat (lH F s_0 v_1) _ := h
 unfold lH at h
 refine bS hF (D := Int) [0, 1, 7] (fun d => [(8, .val (.i .i64) d)]) (fun d => []) h rfl (by simp only [go_sem]) ?_
 rintro x8_5 A2 T2 hA2 hE2 h
 simp only [go_sem]
 replace h : sat (mF F s_0 v_1 x8_5) _ := h
 unfold mF at h
 refine eC h (fun hc h => ?_) fun hc h => ?_
 ·refine aS h fun g0 h => ?_
  refine dP h (fun hc h => ?_) fun hc h => ?_
  ·replace h := hE2 _ (aA h)
   try dsimp only at h
   exact aI hF [.tmp 4] rfl rfl rfl (aA h) (by simp only [aT, go_sem])
  ·refine aS h fun g0 h => ?_
   replace h := hA2 _ (aA h)
   exact aV _ h rfl (by simp only [go_sem])
 ·replace h := hE2 _ (aA h)
  try dsimp only at h
  exact aI hF [.tmp 4] rfl rfl rfl (aA h) (by simp only [aT, go_sem])
attribute [go_sem] kG
noncomputable def dO (F : Md) (s_0 : (List (List Nat))) (v_1 : (List Nat)) : Option Bool :=
 (lH F s_0 v_1).bind (fun v_6 => some (decide ((0 : Int) ≤ v_6)))
def pX : PlR := ⟨[(0, .A [0, 1]), (1, .A [4])], []⟩
def qQ : Ty := .pair (.sl .str) (.pair .str .unit)
noncomputable def eA (F : Md) : aG := mSpec qQ (.one .bool) (fun x => dO F x.1 x.2.1)
noncomputable def qR (F : Md) : List (FuncId × aG) := [(149, (kG F))]
theorem aAH (F : Md) : bE Tryz.prog GL (qR F) := .cons (aB1 F) (by kernel_rfl) (.nil)
theorem wK (F : Md) : gam (qR F) 149 = some (kG F) := rfl
attribute [go_sem] qQ pX wK
set_option maxHeartbeats 4000000 in
theorem pY (F : Md) : FOK Tryz.prog GL 71 (eA F) := by
 refine bH (bA (aAH F)) mix Tryz.func71 rfl (by kernel_rfl) (by decide) pX fun w0 S x Θ hw h hF => ?_
 obtain ⟨(s_0 : (List (List Nat))), (v_1 : (List Nat)), u⟩ := x
 simp only [bL, go_sem]
 replace h : sat (dO F s_0 v_1) _ := h
 unfold dO at h
 obtain ⟨v_6, hv, h⟩ := aM h
 try simp only [hv, go_sem]
 exact aI hF [.tmp 4] rfl rfl rfl (aA h) (by simp only [aT, go_sem])
attribute [go_sem] eA
noncomputable def aW (F : Md) (s_0 : (List Nat)) : Option Bool :=
 ck ((¬ (((((s_0.length) : Nat) : Int) < (1 : Int)) ∨ ((20 : Int) < (((s_0.length) : Nat) : Int))) → ((0 : Int) < (((s_0.length) : Nat) : Int)))) (ck ((¬ ((((((s_0.length) : Nat) : Int) < (1 : Int)) ∨ ((20 : Int) < (((s_0.length) : Nat) : Int))) ∨ ((s_0.getD (0 : Nat) (0 : Nat)) < (97 : Nat))) → ((0 : Int) < (((s_0.length) : Nat) : Int)))) (if ((((((s_0.length) : Nat) : Int) < (1 : Int)) ∨ ((20 : Int) < (((s_0.length) : Nat) : Int))) ∨ ((s_0.getD (0 : Nat) (0 : Nat)) < (97 : Nat))) ∨ ((122 : Nat) < (s_0.getD (0 : Nat) (0 : Nat))) then some false else (tG F s_0 (aE aKf)).bind (fun v_5 => ck (((v_5 = (aE ⟨#[]⟩)) → (((kR F).isSome = true)))) (ck (((v_5 = (aE ⟨#[]⟩)) → (((dO F ((kR F).getD ([] : List (List Nat))) s_0).isSome = true)))) (some ((decide (v_5 = (aE ⟨#[]⟩))) && (!((dO F ((kR F).getD ([] : List (List Nat))) s_0).getD false))))))))
def aD7 : PlR := ⟨[(0, .A [0]), (1, .A [0, 20]), (2, .A [2]), (3, .A [2])], []⟩
def aFP : Ty := .pair .str .unit
noncomputable def kQ (F : Md) : aG := mSpec aFP (.one .bool) (fun x => aW F x.1)
noncomputable def xO (F : Md) : List (FuncId × aG) := [(70, (rC F)), (71, (eA F)), (72, (oG F))]
theorem aMe (F : Md) : bE Tryz.prog GL (xO F) := .cons (aIl F) (by kernel_rfl) (.cons (pY F) (by kernel_rfl) (.cons (aFO F) (by kernel_rfl) (.nil)))
theorem aIm (F : Md) : gam (xO F) 70 = some (rC F) := rfl
theorem aIn (F : Md) : gam (xO F) 71 = some (eA F) := rfl
theorem aIo (F : Md) : gam (xO F) 72 = some (oG F) := rfl
attribute [go_sem] aFP aD7 aIm aIn aIo
set_option maxHeartbeats 4000000 in
theorem aAI (F : Md) : FOK Tryz.prog GL 29 (kQ F) := by
 refine bH (bA (aMe F)) mix Tryz.func29 rfl (by kernel_rfl) (by decide) aD7 fun w0 S x Θ hw h hF => ?_
 obtain ⟨(s_0 : (List Nat)), u⟩ := x
 simp only [bL, go_sem]
 replace h : sat (aW F s_0) _ := h
 unfold aW at h
 obtain ⟨g0, h⟩ := aN h
 obtain ⟨g1, h⟩ := aN h
 repeat (refine ⟨by first | with_reducible assumption | omega | (intros; first | with_reducible assumption | omega) | (simp only [go_sem] at *; first | with_reducible assumption | omega) | (intro q0; (try have e0 := g0 (by first | exact q0 | omega | (simpa using q0))); (try have e1 := g1 (by first | exact q0 | omega | (simpa using q0))); first | assumption | omega) | decide, ?_⟩)
 refine ⟨fun hc => ?_, fun hc => ?_⟩
 ·replace h := iR hc h
  exact aI hF [.tmp 2] rfl rfl rfl (aA h) (by simp only [aT, go_sem])
 ·replace h := iS hc h
  obtain ⟨v_5, hv, h⟩ := aM h
  try simp only [hv, go_sem]
  obtain ⟨g0, h⟩ := aN h
  obtain ⟨g1, h⟩ := aN h
  repeat (refine ⟨by first | with_reducible assumption | omega | (intros; first | with_reducible assumption | omega) | (simp only [go_sem] at *; first | with_reducible assumption | omega) | (intro q0; (try have e0 := g0 (by first | exact q0 | omega | (simpa using q0))); (try have e1 := g1 (by first | exact q0 | omega | (simpa using q0))); first | assumption | omega) | decide, ?_⟩)
  exact aI hF [.tmp 2] rfl rfl rfl (aA h) (by simp only [aT, go_sem])
attribute [go_sem] kQ
end Nu
end Go.Proofs
namespace Go.Proofs
open Go.Vc
set_option maxRecDepth 20000
namespace Nu
noncomputable def nC (F : Md) : Option ((Int × (Unit × Unit))) :=
 none
noncomputable def nD (F : Md) (s_0 : (List Nat)) (n_14 : Int) : Option ((Int × (Unit × Unit))) :=
 ck ((0 : Int) < (((s_0.length) : Nat) : Int)) (if (s_0.getD (0 : Nat) (0 : Nat)) = (45 : Nat) then ck (I64 (0 - n_14)) (some ((0 - n_14), (), ())) else some (n_14, (), ()))
noncomputable def qD (F : Md) (s_9 : (List Nat)) (n_15 : Int) (x49_16 : Int) : Option ((Int × Int) ⊕ ((Int) ⊕ (Int × (Unit × Unit)))) :=
 if x49_16 < (((s_9.length) : Nat) : Int) then ck (0 ≤ x49_16 ∧ x49_16 < (((s_9.length) : Nat) : Int)) (if (9 : Nat) < (sW F .u8 (s_9.getD (x49_16.toNat) (0 : Nat)) (48 : Nat)) then none else ck (I64 (n_15 * (10 : Int))) (ck (I64 ((n_15 * (10 : Int)) + (((sW F .u8 (s_9.getD (x49_16.toNat) (0 : Nat)) (48 : Nat)) : Nat) : Int))) (ck (I64 (x49_16 + (1 : Int))) (some (.inl (((n_15 * (10 : Int)) + (((sW F .u8 (s_9.getD (x49_16.toNat) (0 : Nat)) (48 : Nat)) : Nat) : Int)), (x49_16 + (1 : Int)))))))) else some (.inr (.inl n_15))
noncomputable def kX (F : Md) (s_0 : (List Nat)) (s_9 : (List Nat)) : Option ((Int × (Unit × Unit))) :=
 (dG F (fun d : Int × Int => qD F s_9 d.1 d.2) ((0 : Int), (0 : Int))).bind (fun e => match e with | (.inl e) => nD F s_0 e | (.inr e) => some e)
noncomputable def rD (F : Md) (s_0 : (List Nat)) : Option (Int × (Unit × Unit)) :=
 if ((False) ∧ (((0 : Int) < (((s_0.length) : Nat) : Int)) ∧ ((((s_0.length) : Nat) : Int) < (10 : Int)))) ∨ ((True) ∧ (((0 : Int) < (((s_0.length) : Nat) : Int)) ∧ ((((s_0.length) : Nat) : Int) < (19 : Int)))) then ck ((0 : Int) < (((s_0.length) : Nat) : Int)) (ck ((¬ ((s_0.getD (0 : Nat) (0 : Nat)) = (45 : Nat)) → ((0 : Int) < (((s_0.length) : Nat) : Int)))) (if ((s_0.getD (0 : Nat) (0 : Nat)) = (45 : Nat)) ∨ ((s_0.getD (0 : Nat) (0 : Nat)) = (43 : Nat)) then ck ((1 : Int) ≤ (((s_0.length) : Nat) : Int)) (if ((((List.drop (1 : Nat) s_0).length) : Nat) : Int) < (1 : Int) then none else kX F s_0 (List.drop (1 : Nat) s_0)) else kX F s_0 s_0)) else nC F
def aA7 : PlR := ⟨[(0, .A [0]), (1, .A [0, 4]), (2, .A [0, 30]), (3, .A [0, 5]), (4, .A [0, 5, 39]), (5, .A [0, 5]), (6, .A [0, 5, 44]), (7, .A [2, 3]), (8, .A [0, 5, 6]), (9, .A [5, 6, 47, 48, 49]), (10, .A [5, 6, 47, 48, 49, 50]), (11, .A [5, 6, 8, 47, 48, 49]), (12, .A [5, 6, 8, 47, 48, 49]), (13, .A [5, 6, 8, 47, 48, 49, 56]), (14, .A [2, 3]), (15, .A [5, 6, 47, 48, 49]), (16, .A [5, 6, 47, 48, 49]), (17, .A [6, 66]), (18, .A [6]), (19, .A [2, 3]), (20, .stop)], [(5, 23), (7, 11), (12, 20)]⟩
def aCg : Ty := .pair .str .unit
noncomputable def pG (F : Md) : aG := mSpec aCg (.tup (.pair (.i .i64) (.pair .nili .unit))) (fun x => rD F x.1)
noncomputable def aIp (F : Md) : List (FuncId × aG) := []
theorem aIq (F : Md) : bE Tryz.prog GL (aIp F) := .nil
attribute [go_sem] aCg aA7
set_option maxHeartbeats 4000000 in
theorem aGU (F : Md) : FOK Tryz.prog GL 254 (pG F) := by
 refine bH (bA (aIq F)) mix Tryz.func254 rfl (by kernel_rfl) (by decide) aA7 fun w0 S x Θ hw h hF => ?_
 obtain ⟨(s_0 : (List Nat)), u⟩ := x
 simp only [bL, go_sem]
 replace h : sat (rD F s_0) _ := h
 unfold rD at h
 refine dZ hF (D := Unit) (fun d => sat (nC F) Θ) [0] (fun d => []) (fun d => []) ?_ ?_
 ·simp only [go_sem, aJ F, aK F, aL F]
  refine ⟨fun hc => ?_, fun hc => ?_⟩
  ·replace h := iR (by first | exact hc | omega | (simpa using hc) | (simp at hc ⊢; omega)) h
   refine dZ hF (D := (List Nat)) (fun d => sat (kX F s_0 d) Θ) [5] (fun d => [(0, .val .str d)]) (fun d => []) ?_ ?_
   ·simp only [go_sem, aJ F, aK F, aL F]
    refine aS h fun g0 h => aS h fun g1 h => ?_
    refine ⟨fun hc => ?_, fun hc => ?_⟩
    ·replace h := iR hc h
     refine aS h fun g0 h => ?_
     refine eC h (fun hc h => ?_) fun hc h => ?_
     ·exact aAZ h
     ·exact aV ((List.drop (1 : Nat) s_0)) h rfl (by simp only [go_sem, aJ F, aK F, aL F])
    ·replace h := iS hc h
     exact aV (s_0) h rfl (by simp only [go_sem, aJ F, aK F, aL F])
   ·rintro s_9 h
    simp only [go_sem, aJ F, aK F, aL F]
    replace h : sat (kX F s_0 s_9) _ := h
    unfold kX at h
    refine dZ hF (D := Int) (fun d => sat (nD F s_0 d) Θ) [5] (fun d => [(6, .val (.i .i64) d)]) (fun d => []) ?_ ?_
    ·simp only [go_sem, aJ F, aK F, aL F]
     refine bS hF (D := Int × Int) [5, 47, 48] (fun d => [(6, .val (.i .i64) d.1), (49, .val (.i .i64) d.2)]) (fun d => []) h rfl (by simp only [go_sem, aJ F, aK F, aL F]) ?_
     rintro ⟨n_15, x49_16⟩ A10 T10 hA10 hE10 h
     simp only [go_sem, aJ F, aK F, aL F]
     replace h : sat (qD F s_9 n_15 x49_16) _ := h
     unfold qD at h
     refine eC h (fun hc h => ?_) fun hc h => ?_
     ·refine aS h fun g0 h => ?_
      refine dP h (fun hc h => ?_) fun hc h => ?_
      ·exact aAZ h
      ·refine aS h fun g0 h => aS h fun g1 h => ?_
       refine aS h fun g0 h => ?_
       replace h := hA10 _ (aA h)
       exact aV _ h rfl (by simp only [go_sem, aJ F, aK F, aL F])
     ·replace h := hE10 _ (aA h)
      try dsimp only at h
      exact aV (n_15) h rfl (by simp only [go_sem, aJ F, aK F, aL F])
    ·rintro n_14 h
     simp only [go_sem, aJ F, aK F, aL F]
     replace h : sat (nD F s_0 n_14) _ := h
     unfold nD at h
     refine aS h fun g0 h => ?_
     refine dP h (fun hc h => ?_) fun hc h => ?_
     ·refine aS h fun g0 h => ?_
      exact aI hF [.tmp 2, .tmp 3] rfl rfl rfl (aA h) (by simp only [aT, go_sem, aJ F, aK F, aL F])
     ·exact aI hF [.tmp 2, .tmp 3] rfl rfl rfl (aA h) (by simp only [aT, go_sem, aJ F, aK F, aL F])
  ·replace h := iS (by first | exact hc | omega | (simpa using hc) | (simp at hc ⊢; omega)) h
   exact aV (()) h rfl (by simp only [go_sem, aJ F, aK F, aL F])
 ·rintro u h
  simp only [go_sem, aJ F, aK F, aL F]
  replace h : sat (nC F) _ := h
  unfold nC at h
  exact aAZ h
attribute [go_sem] pG
noncomputable def tI (F : Md) (s_0 : (List Nat)) : Option (Int × (Unit × Unit)) :=
 (rD F s_0).bind (fun v_5 => some ((v_5.1), (), ()))
def aCh : PlR := ⟨[(0, .A [0]), (1, .A [0, 4, 5]), (2, .A [0, 4, 5, 12]), (4, .A [2, 3])], []⟩
def aDc : Ty := .pair .str .unit
noncomputable def rE (F : Md) : aG := mSpec aDc (.tup (.pair (.i .i64) (.pair .nili .unit))) (fun x => tI F x.1)
noncomputable def aDd (F : Md) : List (FuncId × aG) := [(254, (pG F))]
theorem aKh (F : Md) : bE Tryz.prog GL (aDd F) := .cons (aGU F) (by kernel_rfl) (.nil)
theorem aEJ (F : Md) : gam (aDd F) 254 = some (pG F) := rfl
attribute [go_sem] aDc aCh aEJ
set_option maxHeartbeats 4000000 in
theorem aIr (F : Md) : FOK Tryz.prog GL 230 (rE F) := by
 refine bH (bA (aKh F)) mix Tryz.func230 rfl (by kernel_rfl) (by decide) aCh fun w0 S x Θ hw h hF => ?_
 obtain ⟨(s_0 : (List Nat)), u⟩ := x
 simp only [bL, go_sem]
 replace h : sat (tI F s_0) _ := h
 unfold tI at h
 obtain ⟨v_5, hv, h⟩ := aM h
 try simp only [hv, go_sem]
 exact aI hF [.tmp 2, .tmp 3] rfl rfl rfl (aA h) (by simp only [aT, go_sem])
attribute [go_sem] rE
noncomputable def wL (F : Md) (at_1 : Int) (s_0 : (List Nat)) (n_5 : Int) : Option ((Int) ⊕ ((Int))) :=
 ck (I64 (at_1 + n_5)) (ck ((((at_1 + n_5) < (((s_0.length) : Nat) : Int)) → (I64 (at_1 + n_5)))) (ck ((((at_1 + n_5) < (((s_0.length) : Nat) : Int)) → (0 ≤ (at_1 + n_5) ∧ (at_1 + n_5) < (((s_0.length) : Nat) : Int)))) (ck (((((at_1 + n_5) < (((s_0.length) : Nat) : Int)) ∧ ((48 : Nat) ≤ (s_0.getD ((at_1 + n_5).toNat) (0 : Nat)))) → (I64 (at_1 + n_5)))) (ck (((((at_1 + n_5) < (((s_0.length) : Nat) : Int)) ∧ ((48 : Nat) ≤ (s_0.getD ((at_1 + n_5).toNat) (0 : Nat)))) → (0 ≤ (at_1 + n_5) ∧ (at_1 + n_5) < (((s_0.length) : Nat) : Int)))) (if (((at_1 + n_5) < (((s_0.length) : Nat) : Int)) ∧ ((48 : Nat) ≤ (s_0.getD ((at_1 + n_5).toNat) (0 : Nat)))) ∧ ((s_0.getD ((at_1 + n_5).toNat) (0 : Nat)) ≤ (57 : Nat)) then ck (I64 (n_5 + (1 : Int))) (some (.inl (n_5 + (1 : Int)))) else some (.inr n_5))))))
noncomputable def pH (F : Md) (s_0 : (List Nat)) (at_1 : Int) : Option Int :=
 (dG F (fun d : Int => wL F at_1 s_0 d) (0 : Int)).bind (fun e => some e)
def aD8 : PlR := ⟨[(0, .A [0, 1]), (1, .A [0, 1, 5]), (2, .A [0, 1, 5, 27]), (3, .A [0, 1, 5]), (4, .A [4])], []⟩
def aFQ : Ty := .pair .str (.pair (.i .i64) .unit)
noncomputable def vK (F : Md) : aG := mSpec aFQ (.one (.i .i64)) (fun x => pH F x.1 x.2.1)
noncomputable def aMf (F : Md) : List (FuncId × aG) := []
theorem aMg (F : Md) : bE Tryz.prog GL (aMf F) := .nil
attribute [go_sem] aFQ aD8
set_option maxHeartbeats 4000000 in
theorem aKT (F : Md) : FOK Tryz.prog GL 229 (vK F) := by
 refine bH (bA (aMg F)) mix Tryz.func229 rfl (by kernel_rfl) (by decide) aD8 fun w0 S x Θ hw h hF => ?_
 obtain ⟨(s_0 : (List Nat)), (at_1 : Int), u⟩ := x
 simp only [bL, go_sem]
 replace h : sat (pH F s_0 at_1) _ := h
 unfold pH at h
 refine bS hF (D := Int) [0, 1] (fun d => [(5, .val (.i .i64) d)]) (fun d => []) h rfl (by simp only [go_sem]) ?_
 rintro n_5 A2 T2 hA2 hE2 h
 simp only [go_sem]
 replace h : sat (wL F at_1 s_0 n_5) _ := h
 unfold wL at h
 refine aS h fun g0 h => aS h fun g1 h => aS h fun g2 h => aS h fun g3 h => aS h fun g4 h => ?_
 refine ⟨fun hc => ?_, fun hc => ?_⟩
 ·replace h := iR hc h
  refine aS h fun g0 h => ?_
  replace h := hA2 _ (aA h)
  exact aV _ h rfl (by simp only [go_sem])
 ·replace h := iS hc h
  replace h := hE2 _ (aA h)
  try dsimp only at h
  exact aI hF [.tmp 4] rfl rfl rfl (aA h) (by simp only [aT, go_sem])
attribute [go_sem] vK
noncomputable def mP (F : Md) (all_9 : (List Nat)) (s_0 : (List Nat)) (at_17 : Int) (pow_18 : Int) : Option (((List Nat) × (Int × (Bool × Unit)))) :=
 some (all_9, pow_18, (decide (at_17 = (((s_0.length) : Nat) : Int))), ())
noncomputable def mQ (F : Md) (pow_10 : Int) (at_19 : Int) (v_23 : Int) (all_9 : (List Nat)) (s_0 : (List Nat)) (x_28 : Int) : Option (((List Nat) × (Int × (Bool × Unit)))) :=
 ck (I64 (pow_10 + x_28)) (ck (I64 (at_19 + v_23)) (mP F all_9 s_0 (at_19 + v_23) (pow_10 + x_28)))
noncomputable def mR (F : Md) (s_0 : (List Nat)) (at_8 : Int) (pow_10 : Int) (all_9 : (List Nat)) (at_19 : Int) : Option (((List Nat) × (Int × (Bool × Unit)))) :=
 (pH F s_0 at_19).bind (fun v_23 => if (v_23 < (1 : Int)) ∨ ((3 : Int) < v_23) then some ((aE ⟨#[]⟩), (0 : Int), false, ()) else ck (I64 (at_19 + v_23)) (ck (0 ≤ at_19 ∧ at_19 ≤ (at_19 + v_23) ∧ (at_19 + v_23) ≤ (((s_0.length) : Nat) : Int)) ((tI F (List.drop (at_19.toNat) (List.take ((at_19 + v_23).toNat) s_0))).bind (fun v_27 => if (100 : Int) < (v_27.1) then some ((aE ⟨#[]⟩), (0 : Int), false, ()) else if ((at_8 + (1 : Int)) < (((s_0.length) : Nat) : Int)) ∧ ((s_0.getD ((at_8 + (1 : Int)).toNat) (0 : Nat)) = (45 : Nat)) then ck (I64 (0 - (v_27.1))) (mQ F pow_10 at_19 v_23 all_9 s_0 (0 - (v_27.1))) else mQ F pow_10 at_19 v_23 all_9 s_0 (v_27.1)))))
noncomputable def mS (F : Md) (s_0 : (List Nat)) (at_8 : Int) (all_9 : (List Nat)) (pow_10 : Int) : Option (((List Nat) × (Int × (Bool × Unit)))) :=
 ck (((at_8 < (((s_0.length) : Nat) : Int)) → (0 ≤ at_8 ∧ at_8 < (((s_0.length) : Nat) : Int)))) (if (at_8 < (((s_0.length) : Nat) : Int)) ∧ ((s_0.getD (at_8.toNat) (0 : Nat)) = (101 : Nat)) then ck (I64 (at_8 + (1 : Int))) (ck ((((at_8 + (1 : Int)) < (((s_0.length) : Nat) : Int)) → (0 ≤ (at_8 + (1 : Int)) ∧ (at_8 + (1 : Int)) < (((s_0.length) : Nat) : Int)))) (ck ((¬ (((at_8 + (1 : Int)) < (((s_0.length) : Nat) : Int)) ∧ ((s_0.getD ((at_8 + (1 : Int)).toNat) (0 : Nat)) = (45 : Nat))) → ((at_8 + (1 : Int)) < (((s_0.length) : Nat) : Int)) → (0 ≤ (at_8 + (1 : Int)) ∧ (at_8 + (1 : Int)) < (((s_0.length) : Nat) : Int)))) (if (((at_8 + (1 : Int)) < (((s_0.length) : Nat) : Int)) ∧ ((s_0.getD ((at_8 + (1 : Int)).toNat) (0 : Nat)) = (45 : Nat))) ∨ (((at_8 + (1 : Int)) < (((s_0.length) : Nat) : Int)) ∧ ((s_0.getD ((at_8 + (1 : Int)).toNat) (0 : Nat)) = (43 : Nat))) then ck (I64 ((at_8 + (1 : Int)) + (1 : Int))) (mR F s_0 at_8 pow_10 all_9 ((at_8 + (1 : Int)) + (1 : Int))) else mR F s_0 at_8 pow_10 all_9 (at_8 + (1 : Int))))) else mP F all_9 s_0 at_8 pow_10)
noncomputable def nY (F : Md) (s_0 : (List Nat)) : Option ((List Nat) × (Int × (Bool × Unit))) :=
 (pH F s_0 (0 : Int)).bind (fun v_5 => ck (0 ≤ v_5 ∧ v_5 ≤ (((s_0.length) : Nat) : Int)) (if ((60 : Int) < (((s_0.length) : Nat) : Int)) ∨ (v_5 = (0 : Int)) then some ((aE ⟨#[]⟩), (0 : Int), false, ()) else ck (((v_5 < (((s_0.length) : Nat) : Int)) → (0 ≤ v_5 ∧ v_5 < (((s_0.length) : Nat) : Int)))) (if (v_5 < (((s_0.length) : Nat) : Int)) ∧ ((s_0.getD (v_5.toNat) (0 : Nat)) = (46 : Nat)) then ck (I64 (v_5 + (1 : Int))) ((pH F s_0 (v_5 + (1 : Int))).bind (fun v_32 => if v_32 = (0 : Int) then some ((aE ⟨#[]⟩), (0 : Int), false, ()) else ck (I64 (v_5 + (1 : Int))) (ck (I64 (v_5 + (1 : Int))) (ck (I64 ((v_5 + (1 : Int)) + v_32)) (ck (0 ≤ (v_5 + (1 : Int)) ∧ (v_5 + (1 : Int)) ≤ ((v_5 + (1 : Int)) + v_32) ∧ ((v_5 + (1 : Int)) + v_32) ≤ (((s_0.length) : Nat) : Int)) (ck (((List.take (v_5.toNat) s_0).length) + ((List.drop ((v_5 + (1 : Int)).toNat) (List.take (((v_5 + (1 : Int)) + v_32).toNat) s_0)).length) ≤ 9223372036854775807) (ck (I64 (0 - v_32)) (ck (I64 (v_5 + (1 : Int))) (ck (I64 ((v_5 + (1 : Int)) + v_32)) (mS F s_0 ((v_5 + (1 : Int)) + v_32) ((List.take (v_5.toNat) s_0) ++ (List.drop ((v_5 + (1 : Int)).toNat) (List.take (((v_5 + (1 : Int)) + v_32).toNat) s_0))) (0 - v_32))))))))))) else mS F s_0 v_5 (List.take (v_5.toNat) s_0) (0 : Int))))
def aDe : PlR := ⟨[(0, .A [0]), (1, .A [0, 5]), (2, .A [0, 5, 6, 7]), (3, .A [0, 5, 6, 7, 24]), (4, .A [2, 3, 4]), (5, .A [0, 5, 6, 7, 34]), (6, .A [0, 5, 6, 8]), (7, .A [0, 5, 6, 8, 40]), (8, .A [2, 3, 4]), (9, .A [0, 5, 6, 7]), (10, .A [0, 5, 6, 7, 66]), (11, .A [0, 5, 6, 7]), (12, .A [0, 5, 6, 7, 9]), (13, .A [0, 5, 6, 7, 9, 91]), (14, .A [0, 5, 6, 7, 9]), (15, .A [0, 5, 6, 7, 9, 10]), (16, .A [0, 5, 6, 7, 9, 10, 102]), (17, .A [2, 3, 4]), (18, .A [0, 5, 6, 7, 9, 10, 11]), (19, .A [0, 5, 6, 7, 9, 10, 11, 114]), (20, .A [2, 3, 4]), (21, .A [0, 5, 6, 7, 10, 11, 115]), (22, .A [0, 5, 6, 7, 10, 11]), (23, .A [0, 5, 6, 7]), (24, .A [2, 3, 4])], [(8, 13), (13, 27), (16, 18), (24, 26)]⟩
def aD9 : Ty := .pair .str .unit
noncomputable def iT (F : Md) : aG := mSpec aD9 (.tup (.pair .str (.pair (.i .i64) (.pair .bool .unit)))) (fun x => nY F x.1)
noncomputable def aAJ (F : Md) : List (FuncId × aG) := [(229, (vK F)), (230, (rE F))]
theorem aKU (F : Md) : bE Tryz.prog GL (aAJ F) := .cons (aKT F) (by kernel_rfl) (.cons (aIr F) (by kernel_rfl) (.nil))
theorem aFR (F : Md) : gam (aAJ F) 229 = some (vK F) := rfl
theorem aFS (F : Md) : gam (aAJ F) 230 = some (rE F) := rfl
attribute [go_sem] aD9 aDe aFR aFS
set_option maxHeartbeats 4000000 in
theorem zG (F : Md) : FOK Tryz.prog GL 178 (iT F) := by
 refine bH (bA (aKU F)) mix Tryz.func178 rfl (by kernel_rfl) (by decide) aDe fun w0 S x Θ hw h hF => ?_
 obtain ⟨(s_0 : (List Nat)), u⟩ := x
 simp only [bL, go_sem]
 replace h : sat (nY F s_0) _ := h
 unfold nY at h
 obtain ⟨v_5, hv, h⟩ := aM h
 try simp only [hv, go_sem]
 obtain ⟨g0, h⟩ := aN h
 repeat (refine ⟨by omega, ?_⟩)
 refine ⟨fun hc => ?_, fun hc => ?_⟩
 ·replace h := iR hc h
  exact aI hF [.tmp 2, .tmp 3, .tmp 4] rfl rfl rfl (aA h) (by simp only [aT, go_sem])
 ·replace h := iS hc h
  refine dZ hF (D := Int × (List Nat) × Int) (fun d => sat (mS F s_0 d.1 d.2.1 d.2.2) Θ) [0] (fun d => [(5, .val (.i .i64) d.1), (6, .val .str d.2.1), (7, .val (.i .i64) d.2.2)]) (fun d => []) ?_ ?_
  ·simp only [go_sem]
   obtain ⟨g0, h⟩ := aN h
   repeat (refine ⟨by omega, ?_⟩)
   refine ⟨fun hc => ?_, fun hc => ?_⟩
   ·replace h := iR hc h
    obtain ⟨g0, h⟩ := aN h
    repeat (refine ⟨by omega, ?_⟩)
    obtain ⟨v_32, hv, h⟩ := aM h
    try simp only [hv, go_sem]
    refine dP h (fun hc h => ?_) fun hc h => ?_
    ·exact aI hF [.tmp 2, .tmp 3, .tmp 4] rfl rfl rfl (aA h) (by simp only [aT, go_sem])
    ·obtain ⟨g0, h⟩ := aN h
     obtain ⟨g1, h⟩ := aN h
     obtain ⟨g2, h⟩ := aN h
     obtain ⟨g3, h⟩ := aN h
     obtain ⟨g4, h⟩ := aN h
     obtain ⟨g5, h⟩ := aN h
     obtain ⟨g6, h⟩ := aN h
     obtain ⟨g7, h⟩ := aN h
     repeat (refine ⟨by omega, ?_⟩)
     exact aV ((((v_5 + (1 : Int)) + v_32), ((List.take (v_5.toNat) s_0) ++ (List.drop ((v_5 + (1 : Int)).toNat) (List.take (((v_5 + (1 : Int)) + v_32).toNat) s_0))), (0 - v_32))) h rfl (by simp only [go_sem])
   ·replace h := iS hc h
    exact aV ((v_5, (List.take (v_5.toNat) s_0), (0 : Int))) h rfl (by simp only [go_sem])
  ·rintro ⟨at_8, all_9, pow_10⟩ h
   simp only [go_sem]
   replace h : sat (mS F s_0 at_8 all_9 pow_10) _ := h
   unfold mS at h
   refine dZ hF (D := Int × Int) (fun d => sat (mP F all_9 s_0 d.1 d.2) Θ) [0, 6] (fun d => [(5, .val (.i .i64) d.1), (7, .val (.i .i64) d.2)]) (fun d => []) ?_ ?_
   ·simp only [go_sem]
    obtain ⟨g0, h⟩ := aN h
    repeat (refine ⟨by omega, ?_⟩)
    refine ⟨fun hc => ?_, fun hc => ?_⟩
    ·replace h := iR hc h
     obtain ⟨g0, h⟩ := aN h
     repeat (refine ⟨by omega, ?_⟩)
     obtain ⟨g0, h⟩ := aN h
     repeat (refine ⟨by omega, ?_⟩)
     refine dZ hF (D := Int) (fun d => sat (mR F s_0 at_8 pow_10 all_9 d) Θ) [0, 6, 7, 9] (fun d => [(5, .val (.i .i64) d)]) (fun d => []) ?_ ?_
     ·simp only [go_sem]
      obtain ⟨g0, h⟩ := aN h
      repeat (refine ⟨by omega, ?_⟩)
      refine ⟨fun hc => ?_, fun hc => ?_⟩
      ·replace h := iR hc h
       obtain ⟨g0, h⟩ := aN h
       repeat (refine ⟨by omega, ?_⟩)
       exact aV (((at_8 + (1 : Int)) + (1 : Int))) h rfl (by simp only [go_sem])
      ·replace h := iS hc h
       exact aV ((at_8 + (1 : Int))) h rfl (by simp only [go_sem])
     ·rintro at_19 h
      simp only [go_sem]
      replace h : sat (mR F s_0 at_8 pow_10 all_9 at_19) _ := h
      unfold mR at h
      obtain ⟨v_23, hv, h⟩ := aM h
      try simp only [hv, go_sem]
      refine ⟨fun hc => ?_, fun hc => ?_⟩
      ·replace h := iR hc h
       exact aI hF [.tmp 2, .tmp 3, .tmp 4] rfl rfl rfl (aA h) (by simp only [aT, go_sem])
      ·replace h := iS hc h
       obtain ⟨g0, h⟩ := aN h
       obtain ⟨g1, h⟩ := aN h
       repeat (refine ⟨by omega, ?_⟩)
       obtain ⟨v_27, hv, h⟩ := aM h
       try simp only [hv, go_sem]
       refine eC h (fun hc h => ?_) fun hc h => ?_
       ·exact aI hF [.tmp 2, .tmp 3, .tmp 4] rfl rfl rfl (aA h) (by simp only [aT, go_sem])
       ·refine dZ hF (D := Int) (fun d => sat (mQ F pow_10 at_19 v_23 all_9 s_0 d) Θ) [0, 5, 6, 7, 10] (fun d => [(11, .val (.i .i64) d)]) (fun d => []) ?_ ?_
        ·simp only [go_sem]
         refine ⟨fun hc => ?_, fun hc => ?_⟩
         ·replace h := iR hc h
          obtain ⟨g0, h⟩ := aN h
          repeat (refine ⟨by omega, ?_⟩)
          exact aV ((0 - (v_27.1))) h rfl (by simp only [go_sem])
         ·replace h := iS hc h
          exact aV ((v_27.1)) h rfl (by simp only [go_sem])
        ·rintro x_28 h
         simp only [go_sem]
         replace h : sat (mQ F pow_10 at_19 v_23 all_9 s_0 x_28) _ := h
         unfold mQ at h
         obtain ⟨g0, h⟩ := aN h
         obtain ⟨g1, h⟩ := aN h
         repeat (refine ⟨by omega, ?_⟩)
         exact aV (((at_19 + v_23), (pow_10 + x_28))) h rfl (by simp only [go_sem])
    ·replace h := iS hc h
     exact aV ((at_8, pow_10)) h rfl (by simp only [go_sem])
   ·rintro ⟨at_17, pow_18⟩ h
    simp only [go_sem]
    replace h : sat (mP F all_9 s_0 at_17 pow_18) _ := h
    unfold mP at h
    exact aI hF [.tmp 2, .tmp 3, .tmp 4] rfl rfl rfl (aA h) (by simp only [aT, go_sem])
attribute [go_sem] iT
noncomputable def zH (F : Md) (n_1 : Int) (b_0 : Nat) (m_13 : (List Nat)) (x8_14 : Int) : Option (((List Nat) × Int) ⊕ (((List Nat)))) :=
 if x8_14 < n_1 then (gH F m_13 ([b_0] : List Nat)).bind (fun v_23 => ck (I64 (x8_14 + (1 : Int))) (some (.inl (v_23, (x8_14 + (1 : Int)))))) else some (.inr m_13)
noncomputable def oX (F : Md) (b_0 : Nat) (n_1 : Int) : Option (List Nat) :=
 (dG F (fun d : (List Nat) × Int => zH F n_1 b_0 d.1 d.2) (([1] : List Nat), (0 : Int))).bind (fun e => some e)
def aFT : PlR := ⟨[], []⟩
def aHR : Ty := .pair (.u .u64) (.pair (.i .i64) .unit)
noncomputable def pI (F : Md) : aG := mSpec aHR (.one (.sl (.u .u64))) (fun x => oX F x.1 x.2.1)
noncomputable def aHS (F : Md) : List (FuncId × aG) := [(94, (eL F))]
theorem aNj (F : Md) : bE Tryz.prog GL (aHS F) := .cons (pD F) (by kernel_rfl) (.nil)
theorem aKi (F : Md) : gam (aHS F) 94 = some (eL F) := rfl
attribute [go_sem] aHR aFT aKi
set_option maxHeartbeats 4000000 in
theorem aFU (F : Md) : FOK Tryz.prog GL 96 (pI F) := by
 refine bH (bA (aNj F)) mix Tryz.func96 rfl (by kernel_rfl) (by decide) aFT fun w0 S x Θ hw h hF => ?_
 obtain ⟨(b_0 : Nat), (n_1 : Int), u⟩ := x
 simp only [bL, go_sem]
 replace h : sat (oX F b_0 n_1) _ := h
 unfold oX at h
 refine rQ hF [0, 1] ?_
 simp only [go_sem]
 refine rQ hF [0, 1, 5] ?_
 simp only [go_sem]
 refine rQ hF [0, 5, 7, 8] ?_
 simp only [go_sem]
 refine bS hF (D := (List Nat) × Int) [0, 7] (fun d => [(5, .val (.sl (.u .u64)) d.1), (8, .val (.i .i64) d.2)]) (fun d => []) h rfl (by simp only [go_sem]) ?_
 rintro ⟨m_13, x8_14⟩ A3 T3 hA3 hE3 h
 simp only [go_sem]
 replace h : sat (zH F n_1 b_0 m_13 x8_14) _ := h
 unfold zH at h
 refine rQ hF [0, 5, 7, 8, 9] ?_
 simp only [go_sem]
 refine eC h (fun hc h => ?_) fun hc h => ?_
 ·refine rQ hF [0, 5, 7, 8] ?_
  simp only [go_sem]
  obtain ⟨v_23, hv, h⟩ := aM h
  try simp only [hv, go_sem]
  refine rQ hF [0, 5, 7, 8] ?_
  simp only [go_sem]
  refine aS h fun g0 h => ?_
  replace h := hA3 _ (aA h)
  exact aV _ h rfl (by simp only [go_sem])
 ·replace h := hE3 _ (aA h)
  try dsimp only at h
  refine rQ hF [4] ?_
  simp only [go_sem]
  exact aI hF [.tmp 4] rfl rfl rfl (aA h) (by simp only [aT, go_sem])
attribute [go_sem] pI
noncomputable def wM (F : Md) (s_0 : (List Nat)) (m_24 : (List Nat)) (x9_25 : Int) : Option (((List Nat) × Int) ⊕ (((List Nat)))) :=
 if x9_25 < (((s_0.length) : Nat) : Int) then ck (0 ≤ x9_25 ∧ x9_25 < (((s_0.length) : Nat) : Int)) ((gH F m_24 ([10] : List Nat)).bind (fun v_44 => (yV F ([(sW F .u8 (s_0.getD (x9_25.toNat) (0 : Nat)) (48 : Nat))] : List Nat)).bind (fun v_45 => (aBO F v_44 v_45).bind (fun v_46 => ck (I64 (x9_25 + (1 : Int))) (some (.inl (v_46, (x9_25 + (1 : Int))))))))) else some (.inr m_24)
noncomputable def tJ (F : Md) (s_0 : (List Nat)) : Option (List Nat) :=
 (dG F (fun d : (List Nat) × Int => wM F s_0 d.1 d.2) (([] : List Nat), (0 : Int))).bind (fun e => some e)
def aEa : PlR := ⟨[], []⟩
def aFV : Ty := .pair .str .unit
noncomputable def nZ (F : Md) : aG := mSpec aFV (.one (.sl (.u .u64))) (fun x => tJ F x.1)
noncomputable def xP (F : Md) : List (FuncId × aG) := [(231, (rX F)), (94, (eL F)), (99, (aAd F))]
theorem aMh (F : Md) : bE Tryz.prog GL (xP F) := .cons (aHy F) (by kernel_rfl) (.cons (pD F) (by kernel_rfl) (.cons (aNc F) (by kernel_rfl) (.nil)))
theorem aGV (F : Md) : gam (xP F) 231 = some (rX F) := rfl
theorem aIs (F : Md) : gam (xP F) 94 = some (eL F) := rfl
theorem aIt (F : Md) : gam (xP F) 99 = some (aAd F) := rfl
attribute [go_sem] aFV aEa aGV aIs aIt
set_option maxHeartbeats 4000000 in
theorem aEb (F : Md) : FOK Tryz.prog GL 179 (nZ F) := by
 refine bH (bA (aMh F)) mix Tryz.func179 rfl (by kernel_rfl) (by decide) aEa fun w0 S x Θ hw h hF => ?_
 obtain ⟨(s_0 : (List Nat)), u⟩ := x
 simp only [bL, go_sem]
 replace h : sat (tJ F s_0) _ := h
 unfold tJ at h
 refine rQ hF [0] ?_
 simp only [go_sem, aJ F, aK F, aL F]
 refine rQ hF [0, 3] ?_
 simp only [go_sem, aJ F, aK F, aL F]
 refine rQ hF [3, 7, 8, 9] ?_
 simp only [go_sem, aJ F, aK F, aL F]
 refine bS hF (D := (List Nat) × Int) [7, 8] (fun d => [(3, .val (.sl (.u .u64)) d.1), (9, .val (.i .i64) d.2)]) (fun d => []) h rfl (by simp only [go_sem, aJ F, aK F, aL F]) ?_
 rintro ⟨m_24, x9_25⟩ A3 T3 hA3 hE3 h
 simp only [go_sem, aJ F, aK F, aL F]
 replace h : sat (wM F s_0 m_24 x9_25) _ := h
 unfold wM at h
 refine rQ hF [3, 7, 8, 9, 10] ?_
 simp only [go_sem, aJ F, aK F, aL F]
 refine eC h (fun hc h => ?_) fun hc h => ?_
 ·refine rQ hF [3, 5, 7, 8, 9] ?_
  simp only [go_sem, aJ F, aK F, aL F]
  refine aS h fun g0 h => ?_
  refine rQ hF [3, 7, 8, 9] ?_
  simp only [go_sem, aJ F, aK F, aL F]
  obtain ⟨v_44, hv, h⟩ := aM h
  try simp only [hv, go_sem, aJ F, aK F, aL F]
  obtain ⟨v_45, hv, h⟩ := aM h
  try simp only [hv, go_sem, aJ F, aK F, aL F]
  obtain ⟨v_46, hv, h⟩ := aM h
  try simp only [hv, go_sem, aJ F, aK F, aL F]
  refine rQ hF [3, 7, 8, 9] ?_
  simp only [go_sem, aJ F, aK F, aL F]
  refine aS h fun g0 h => ?_
  replace h := hA3 _ (aA h)
  exact aV _ h rfl (by simp only [go_sem, aJ F, aK F, aL F])
 ·replace h := hE3 _ (aA h)
  try dsimp only at h
  refine rQ hF [2] ?_
  simp only [go_sem, aJ F, aK F, aL F]
  exact aI hF [.tmp 2] rfl rfl rfl (aA h) (by simp only [aT, go_sem, aJ F, aK F, aL F])
attribute [go_sem] nZ
noncomputable def zI (F : Md) (s_0 : (List Nat)) : Option Bool :=
 (nY F s_0).bind (fun v_5 => some (((v_5.2).2).1))
def aHT : PlR := ⟨[(0, .A [0]), (1, .A [5]), (2, .A [2])], []⟩
def aKj : Ty := .pair .str .unit
noncomputable def aAl (F : Md) : aG := mSpec aKj (.one .bool) (fun x => zI F x.1)
noncomputable def aKk (F : Md) : List (FuncId × aG) := [(178, (iT F))]
theorem aN7 (F : Md) : bE Tryz.prog GL (aKk F) := .cons (zG F) (by kernel_rfl) (.nil)
theorem aKl (F : Md) : gam (aKk F) 178 = some (iT F) := rfl
attribute [go_sem] aKj aHT aKl
set_option maxHeartbeats 4000000 in
theorem aNk (F : Md) : FOK Tryz.prog GL 128 (aAl F) := by
 refine bH (bA (aN7 F)) mix Tryz.func128 rfl (by kernel_rfl) (by decide) aHT fun w0 S x Θ hw h hF => ?_
 obtain ⟨(s_0 : (List Nat)), u⟩ := x
 simp only [bL, go_sem]
 replace h : sat (zI F s_0) _ := h
 unfold zI at h
 obtain ⟨v_5, hv, h⟩ := aM h
 try simp only [hv, go_sem]
 exact aI hF [.tmp 2] rfl rfl rfl (aA h) (by simp only [aT, go_sem])
attribute [go_sem] aAl
noncomputable def aAm (F : Md) (s_0 : (List Nat)) : Option ((List Nat) × ((List Nat) × (Bool × Unit))) :=
 (nY F s_0).bind (fun v_5 => if ¬ ((((v_5.2).2).1) = true) then some (([] : List Nat), ([] : List Nat), false, ()) else (tJ F (v_5.1)).bind (fun v_18 => (oX F (10 : Nat) (max ((v_5.2).1) (0 : Int))).bind (fun v_19 => (gH F v_18 v_19).bind (fun v_20 => ck (I64 (0 - ((v_5.2).1))) ((oX F (10 : Nat) (max (0 - ((v_5.2).1)) (0 : Int))).bind (fun v_21 => some (v_20, v_21, true, ())))))))
def aFW : PlR := ⟨[(0, .A [0]), (1, .A [5, 6, 7]), (2, .A [5, 6, 15]), (3, .A [2, 3, 4]), (4, .A [2, 3, 4])], []⟩
def aHU : Ty := .pair .str .unit
noncomputable def xQ (F : Md) : aG := mSpec aHU (.tup (.pair (.sl (.u .u64)) (.pair (.sl (.u .u64)) (.pair .bool .unit)))) (fun x => aAm F x.1)
noncomputable def wC (F : Md) : List (FuncId × aG) := [(178, (iT F)), (179, (nZ F)), (94, (eL F)), (96, (pI F))]
theorem aNl (F : Md) : bE Tryz.prog GL (wC F) := .cons (zG F) (by kernel_rfl) (.cons (aEb F) (by kernel_rfl) (.cons (pD F) (by kernel_rfl) (.cons (aFU F) (by kernel_rfl) (.nil))))
theorem aIu (F : Md) : gam (wC F) 178 = some (iT F) := rfl
theorem aIv (F : Md) : gam (wC F) 179 = some (nZ F) := rfl
theorem aKm (F : Md) : gam (wC F) 94 = some (eL F) := rfl
theorem aKn (F : Md) : gam (wC F) 96 = some (pI F) := rfl
attribute [go_sem] aHU aFW aIu aIv aKm aKn
set_option maxHeartbeats 4000000 in
theorem aMi (F : Md) : FOK Tryz.prog GL 116 (xQ F) := by
 refine bH (bA (aNl F)) mix Tryz.func116 rfl (by kernel_rfl) (by decide) aFW fun w0 S x Θ hw h hF => ?_
 obtain ⟨(s_0 : (List Nat)), u⟩ := x
 simp only [bL, go_sem]
 replace h : sat (aAm F s_0) _ := h
 unfold aAm at h
 obtain ⟨v_5, hv, h⟩ := aM h
 try simp only [hv, go_sem]
 refine aAy h (fun hc h => ?_) fun hc h => ?_
 ·exact aI hF [.tmp 2, .tmp 3, .tmp 4] rfl rfl rfl (aA h) (by simp only [aT, go_sem])
 ·obtain ⟨v_18, hv, h⟩ := aM h
  try simp only [hv, go_sem]
  obtain ⟨v_19, hv, h⟩ := aM h
  try simp only [hv, go_sem]
  obtain ⟨v_20, hv, h⟩ := aM h
  try simp only [hv, go_sem]
  refine aS h fun g0 h => ?_
  obtain ⟨v_21, hv, h⟩ := aM h
  try simp only [hv, go_sem]
  exact aI hF [.tmp 2, .tmp 3, .tmp 4] rfl rfl rfl (aA h) (by simp only [aT, go_sem])
attribute [go_sem] xQ
noncomputable def aAn (F : Md) (s_0 : (List Nat)) : Option ((Bool × ((List Nat) × (Int × Unit))) × (Int × Unit)) :=
 (nY F s_0).bind (fun v_5 => if ¬ ((((v_5.2).2).1) = true) then some ((false, ([] : List Nat), (0 : Int), ()), (6 : Int), ()) else (tJ F (v_5.1)).bind (fun v_21 => (oX F (5 : Nat) (max ((v_5.2).1) (0 : Int))).bind (fun v_22 => (gH F v_21 v_22).bind (fun v_23 => ck (I64 (0 - ((v_5.2).1))) ((oX F (5 : Nat) (max (0 - ((v_5.2).1)) (0 : Int))).bind (fun v_24 => (xH F v_23 v_24).bind (fun v_25 => (zE F false (v_25.1) ((v_5.2).1)).bind (fun v_27 => if ((0 : Int) < (((((v_25.2).1).length) : Nat) : Int)) ∨ (¬ (((v_27.2).1) = (0 : Int))) then some ((false, ([] : List Nat), (0 : Int), ()), (6 : Int), ()) else some ((v_27.1), (0 : Int), ())))))))))
def aFX : PlR := ⟨[(0, .B [0, 2]), (1, .A [2, 4, 5, 6]), (2, .A [2, 4, 5, 18]), (3, .B [2, 3]), (4, .A [2, 5, 7, 8]), (5, .B [2, 8, 9, 10]), (6, .A [2, 9, 46]), (7, .B [2, 3]), (8, .B [2, 3])], []⟩
def aHV : Ty := .pair .str .unit
noncomputable def xR (F : Md) : aG := mSpec aHV (.tup (.pair (.pair .bool (.pair (.sl (.u .u64)) (.pair (.i .i64) .unit))) (.pair (.i .i64) .unit))) (fun x => aAn F x.1)
noncomputable def oY (F : Md) : List (FuncId × aG) := [(117, (sC F)), (166, (vH F)), (178, (iT F)), (179, (nZ F)), (94, (eL F)), (96, (pI F))]
theorem aNm (F : Md) : bE Tryz.prog GL (oY F) := .cons (aHJ F) (by kernel_rfl) (.cons (aKK F) (by kernel_rfl) (.cons (zG F) (by kernel_rfl) (.cons (aEb F) (by kernel_rfl) (.cons (pD F) (by kernel_rfl) (.cons (aFU F) (by kernel_rfl) (.nil))))))
theorem aIw (F : Md) : gam (oY F) 117 = some (sC F) := rfl
theorem aIx (F : Md) : gam (oY F) 166 = some (vH F) := rfl
theorem aIy (F : Md) : gam (oY F) 178 = some (iT F) := rfl
theorem aIz (F : Md) : gam (oY F) 179 = some (nZ F) := rfl
theorem aKo (F : Md) : gam (oY F) 94 = some (eL F) := rfl
theorem aKp (F : Md) : gam (oY F) 96 = some (pI F) := rfl
attribute [go_sem] aHV aFX aIw aIx aIy aIz aKo aKp
set_option maxHeartbeats 4000000 in
theorem aMj (F : Md) : FOK Tryz.prog GL 133 (xR F) := by
 refine bH (bA (aNm F)) mix Tryz.func133 rfl (by kernel_rfl) (by decide) aFX fun w0 S x Θ hw h hF => ?_
 obtain ⟨(s_0 : (List Nat)), u⟩ := x
 simp only [bL, go_sem]
 replace h : sat (aAn F s_0) _ := h
 unfold aAn at h
 obtain ⟨v_5, hv, h⟩ := aM h
 try simp only [hv, go_sem]
 refine aAy h (fun hc h => ?_) fun hc h => ?_
 ·exact aI hF [.cell 2 25, .tmp 3] rfl rfl rfl (aA h) (by simp only [aT, go_sem])
 ·obtain ⟨v_21, hv, h⟩ := aM h
  try simp only [hv, go_sem]
  obtain ⟨v_22, hv, h⟩ := aM h
  try simp only [hv, go_sem]
  obtain ⟨v_23, hv, h⟩ := aM h
  try simp only [hv, go_sem]
  refine aS h fun g0 h => ?_
  obtain ⟨v_24, hv, h⟩ := aM h
  try simp only [hv, go_sem]
  obtain ⟨v_25, hv, h⟩ := aM h
  try simp only [hv, go_sem]
  obtain ⟨v_27, hv, h⟩ := aM h
  try simp only [hv, go_sem]
  refine ⟨fun hc => ?_, fun hc => ?_⟩
  ·replace h := iR hc h
   exact aI hF [.cell 2 25, .tmp 3] rfl rfl rfl (aA h) (by simp only [aT, go_sem])
  ·replace h := iS hc h
   exact aI hF [.cell 2 25, .tmp 3] rfl rfl rfl (aA h) (by simp only [aT, go_sem])
attribute [go_sem] xR
noncomputable def iL (F : Md) (a_0 : (Bool × ((List Nat) × (Int × Unit)))) (b_1 : (Bool × ((List Nat) × (Int × Unit)))) (n_2 : Int) : Option Bool :=
 (aDI F n_2 (0 : Int)).bind (fun v_5 => (aBW F b_1 (v_5.1)).bind (fun v_7 => ck (((((v_7.2).1) = (0 : Int)) → (((uX F a_0 (v_7.1)).isSome = true)))) (some ((decide (((v_7.2).1) = (0 : Int))) && (decide (((uX F a_0 (v_7.1)).getD (0 : Int)) ≤ (0 : Int)))))))
def aEc : PlR := ⟨[(0, .B [2, 3, 4]), (1, .B [3, 4, 7]), (2, .B [3, 9, 10]), (3, .A [6])], []⟩
def aFY : Ty := .pair (.pair .bool (.pair (.sl (.u .u64)) (.pair (.i .i64) .unit))) (.pair (.pair .bool (.pair (.sl (.u .u64)) (.pair (.i .i64) .unit))) (.pair (.i .i64) .unit))
noncomputable def vL (F : Md) : aG := mSpec aFY (.one .bool) (fun x => iL F x.1 x.2.1 x.2.2.1)
noncomputable def xS (F : Md) : List (FuncId × aG) := [(200, (aBT F)), (201, (aAj F)), (22, (sD F))]
theorem aMk (F : Md) : bE Tryz.prog GL (xS F) := .cons (aN5 F) (by kernel_rfl) (.cons (aNi F) (by kernel_rfl) (.cons (aHP F) (by kernel_rfl) (.nil)))
theorem aGW (F : Md) : gam (xS F) 200 = some (aBT F) := rfl
theorem aGX (F : Md) : gam (xS F) 201 = some (aAj F) := rfl
theorem aIA (F : Md) : gam (xS F) 22 = some (sD F) := rfl
attribute [go_sem] aFY aEc aGW aGX aIA
set_option maxHeartbeats 4000000 in
theorem aKV (F : Md) : FOK Tryz.prog GL 134 (vL F) := by
 refine bH (bA (aMk F)) mix Tryz.func134 rfl (by kernel_rfl) (by decide) aEc fun w0 S x Θ hw h hF => ?_
 obtain ⟨(a_0 : (Bool × ((List Nat) × (Int × Unit)))), (b_1 : (Bool × ((List Nat) × (Int × Unit)))), (n_2 : Int), u⟩ := x
 simp only [bL, go_sem]
 replace h : sat (iL F a_0 b_1 n_2) _ := h
 unfold iL at h
 obtain ⟨v_5, hv, h⟩ := aM h
 try simp only [hv, go_sem]
 obtain ⟨v_7, hv, h⟩ := aM h
 try simp only [hv, go_sem]
 refine aS h fun g0 h => ?_
 exact aI hF [.tmp 6] rfl rfl rfl (aA h) (by simp only [aT, go_sem])
attribute [go_sem] vL
end Nu
end Go.Proofs
namespace Go.Proofs
open Go.Vc
set_option maxRecDepth 100000
namespace Nu
section
open Go.Shelf Go.RowKit Go.Lib
set_option maxHeartbeats 4000000 in
theorem aQU (n : Nat) (w : World) (hn : n ≤ 1073741824) :
  Calls Tryz.prog 202 #[.slice none 0 0, .int .i64 n] w fun e w' => (n = 0 ∧ e = .returned (.slice none 0 0) ∧ w' = w) ∨
   (0 < n ∧ e = .returned (.slice (some ⟨w.heap.size, 0, none⟩) 0 (grownCap w n 0 9)) ∧ w' = w.drew.alloc (.cells (Builtin.zeroCells #[Value.string ⟨#[]⟩] n ++ Builtin.zeroCells #[Value.string ⟨#[]⟩] (grownCap w n 0 9 - n)) 9)) := by
 have h1 : ¬ ((n : Int) < 0) := by omega
 have h3 : wrap64 ((n : Int) - wrap64 (0 - 0)) = (n : Int) := by unfold wrap64; omega
 have h5 : wrap64 (n : Int) = (n : Int) := by unfold wrap64; omega
 obtain ⟨i, hi, hz, hs, hb⟩ : ∃ i, Tryz.prog.info? 9 = some i ∧ i.zero = some (.string ⟨#[]⟩) ∧ i.size = 1 ∧ i.bytes = 16 := ⟨_, rfl, rfl, rfl, rfl⟩
 go_enter Tryz.func202, Tryz.ntmps202
 rcases Nat.eq_zero_or_pos n with rfl | hp
 ·go_wp2
  go_ret
  exact ⟨rfl, rfl⟩
 ·have h4 : (n : Int) > 0 := by omega
  have hrz : ∀ ty, (Builtin.append_ #[48, 3] ty #[.slice none 0 0, .int .i64 (n : Int)]).run Tryz.prog w = .ok (.slice (some ⟨w.heap.size, 0, none⟩) n (grownCap w n 0 9)) (w.drew.alloc (.cells (Builtin.zeroCells #[Value.string ⟨#[]⟩] n ++ Builtin.zeroCells #[Value.string ⟨#[]⟩] (grownCap w n 0 9 - n)) 9)) :=
   fun ty => Lib.run_append_nil_zeros w 48 3 ty 9 i (.string ⟨#[]⟩) .i64 .i64 rfl rfl hi hz n hp (by omega) (by omega) (by rw [hb]; omega)
  have hG := grownCap_ge w n 0 9
  have hG2 := grownCap_le_maxLen w n 0 9 (by unfold maxLen; omega)
  unfold maxLen at hG2
  generalize grownCap w n 0 9 = G at *
  go_wp2_with (at_builtin; refine Lib.wpList_append_run _ rfl _ _ _ _ rfl _ _ rfl rfl _ _ (hrz _) ?_)
  go_ret
  exact .inr ⟨rfl, rfl⟩
end
def lZ (F : Md) (n : Int) : Option (List (List Nat)) := ck (0 ≤ n ∧ n ≤ 1073741824) (some [])
noncomputable def fU (F : Md) : nL where
 D := Int × ((List (List Nat)))
 av := fun d => [.nilS, .val (.i .i64) d.1]
 hp := fun d => []
 m := 0
 pre := fun d => lZ F d.1 = some d.2
 out := fun d => (fun r : (List (List Nat)) => .ret (.own 0) [.row 9 .str (r)]) d.2
attribute [go_sem] fU
theorem aNn {F : Md} {c : Ctx} {w w' : World} {d : (fU F).D} (hd : d.2 = []) (good : Go.Vc.Good (GM (fU F) c d) w c [] w) (hk : fJ nothing w w') (v : Value) (hv : ∃ a n m, v = .slice a n m) (hr : w'.ownsRow 0 9 1 v 0 []) (hb : ∀ b, aP v = some b → w.heap.size ≤ b ∧ b < w'.heap.size) :
  aFp (fU F) c w d (.returned v) w' := by
 have e1 : (c.push v).hd c.n = v := by simp [Ctx.push]
 have h0 : c.n = 0 := good.n
 have := good.push hk (o := .row 9 .str []) (hv := v) (by
  show wF _ _ _ _ _ _
  rw [e1]
  exact ⟨[], hr, ⟨rfl, [], rfl, rfl, fun i h => by simp at h⟩⟩) (fun b h => hb b (by simpa [dQ, e1] using h))
 refine ⟨c.push v, ?_⟩
 show ∃ u, _ ∧ Go.Vc.Good _ _ _ [.row 9 .str d.2] _ ∧ aO _ _ (.own 0) u
 rw [hd]
 refine ⟨v, rfl, this.1, ?_⟩
 have := yL (c := c) (v' := v) hv (w' := w') (S' := c.S)
 rw [h0] at this
 exact this
theorem aCw (F : Md) : GOK Tryz.prog GL 202 (fU F) := by
 rintro c w ⟨n, r⟩ vs hpre ⟨good, glob, len, val⟩
 have hpre : lZ F n = some r := hpre
 unfold lZ at hpre
 obtain ⟨⟨h1, h2⟩, hpre⟩ := aH hpre
 have hr : [] = r := Option.some.inj hpre
 have hv0 := val 0 (by show 0 < 2; decide) (by rw [len]; show 0 < 2; decide)
 have hv1 := val 1 (by show 1 < 2; decide) (by rw [len]; show 1 < 2; decide)
 have e0 : vs.toList[0]'(by rw [len]; show 0 < 2; decide) = .slice none 0 0 := by
  obtain ⟨q1, _, q3⟩ := hv0
  have q3 := q3 rfl
  revert q1 q3
  generalize vs.toList[0]'(by rw [len]; show 0 < 2; decide) = sv
  intro q1 q3
  have q1 : sv.cells.toList = [.slice none 0 0] := q1
  cases sv <;> simp [Value.cells] at q1 q3 <;> simp [q1]
 obtain ⟨e1, _, _⟩ := aCG (k := .i64) (n := n) hv1
 have hvs : vs = #[.slice none 0 0, .int .i64 (n.toNat : Int)] := by
  have hlen : vs.toList.length = 2 := len
  rw [← Array.toList_inj]
  apply List.ext_getElem
  ·exact hlen
  ·intro i a1 a2
   match i, a2 with
   | 0, _ => exact e0
   | 1, _ => show _ = Value.int .i64 (n.toNat : Int); rw [Int.toNat_of_nonneg h1]; exact e1
 rw [hvs]
 refine Calls.mono (f := 202) (aQU n.toNat w (by omega)) ?_
 rintro e w' (⟨_, rfl, rfl⟩ | ⟨hp, rfl, rfl⟩)
 ·exact aNn (d := (n, r)) hr.symm good (.refl nothing _) _ ⟨_, _, _, rfl⟩ ⟨rfl, .inl ⟨rfl, rfl⟩⟩ (fun b h => by simp [aP] at h)
 ·have hG := grownCap_ge w n.toNat 0 9
  have hG2 := grownCap_le_maxLen w n.toNat 0 9 (by unfold maxLen; omega)
  have hk : ∀ o, fJ nothing w (w.drew.alloc o) := fun o => have k := fJ.alloc nothing w.drew o; ⟨rfl, rfl, rfl, k.size, k.block⟩
  refine aNn (d := (n, r)) hr.symm good (hk _) _ ⟨_, _, _, rfl⟩ ⟨rfl, .inr ⟨w.heap.size, _, Builtin.zeroCells #[Value.string ⟨#[]⟩] n.toNat ++ Builtin.zeroCells #[Value.string ⟨#[]⟩] (grownCap w n.toNat 0 9 - n.toNat), rfl, Nat.zero_le _, ?_, Nat.zero_le _, hG2, ?_, rfl⟩⟩ ?_
  ·show (w.heap.push _)[w.heap.size]? = _
   simp
  ·simp [Builtin.zeroCells]
   omega
  ·intro b h
   simp only [aP, Option.some.injEq] at h
   subst h
   refine ⟨Nat.le_refl _, ?_⟩
   show w.heap.size < (w.heap.push _).size
   simp
end Nu
end Go.Proofs
namespace Go.Proofs
open Go.Vc
set_option maxRecDepth 20000
namespace Nu
noncomputable def nE (F : Md) (l_8 : (List (Bool × ((List Nat) × (Int × Unit))))) : Option (Bool) :=
 ck ((2 : Int) < (((l_8.length) : Nat) : Int)) (ck ((1 : Int) < (((l_8.length) : Nat) : Int)) ((uX F (l_8.getD (2 : Nat) (false, ([] : List Nat), (0 : Int), ())) (l_8.getD (1 : Nat) (false, ([] : List Nat), (0 : Int), ()))).bind (fun v_14 => ck (((v_14 ≤ (0 : Int)) → ((0 : Int) < (((l_8.length) : Nat) : Int)))) (ck (((v_14 ≤ (0 : Int)) → ((1 : Int) < (((l_8.length) : Nat) : Int)))) (ck (((v_14 ≤ (0 : Int)) → (((iL F (l_8.getD (0 : Nat) (false, ([] : List Nat), (0 : Int), ())) (l_8.getD (1 : Nat) (false, ([] : List Nat), (0 : Int), ())) (256 : Int)).isSome = true)))) (ck ((((v_14 ≤ (0 : Int)) ∧ (((iL F (l_8.getD (0 : Nat) (false, ([] : List Nat), (0 : Int), ())) (l_8.getD (1 : Nat) (false, ([] : List Nat), (0 : Int), ())) (256 : Int)).getD false) = true)) → ((1 : Int) < (((l_8.length) : Nat) : Int)))) (ck ((((v_14 ≤ (0 : Int)) ∧ (((iL F (l_8.getD (0 : Nat) (false, ([] : List Nat), (0 : Int), ())) (l_8.getD (1 : Nat) (false, ([] : List Nat), (0 : Int), ())) (256 : Int)).getD false) = true)) → ((2 : Int) < (((l_8.length) : Nat) : Int)))) (ck ((((v_14 ≤ (0 : Int)) ∧ (((iL F (l_8.getD (0 : Nat) (false, ([] : List Nat), (0 : Int), ())) (l_8.getD (1 : Nat) (false, ([] : List Nat), (0 : Int), ())) (256 : Int)).getD false) = true)) → (((iL F (l_8.getD (1 : Nat) (false, ([] : List Nat), (0 : Int), ())) (l_8.getD (2 : Nat) (false, ([] : List Nat), (0 : Int), ())) (4096 : Int)).isSome = true)))) (some (((decide (v_14 ≤ (0 : Int))) && ((iL F (l_8.getD (0 : Nat) (false, ([] : List Nat), (0 : Int), ())) (l_8.getD (1 : Nat) (false, ([] : List Nat), (0 : Int), ())) (256 : Int)).getD false)) && ((iL F (l_8.getD (1 : Nat) (false, ([] : List Nat), (0 : Int), ())) (l_8.getD (2 : Nat) (false, ([] : List Nat), (0 : Int), ())) (4096 : Int)).getD false)))))))))))
noncomputable def rR (F : Md) (s_0 : (Int × (Int × (Int × (Int × ((List Nat) × ((List Nat) × ((List Nat) × ((List Nat) × ((List ((List Nat) × ((List ((List Nat) × (((List Nat) × ((List Nat) × Unit)) × (Ex × Unit)))) × ((List ((List Nat) × (((List Nat) × ((List Nat) × Unit)) × Unit))) × ((List (List Nat)) × ((List ((List Nat) × (Ex × Unit))) × Unit)))))) × ((List ((List Nat) × ((List Nat) × ((List Nat) × ((List Nat) × Unit))))) × Unit))))))))))) (x56_16 : Int) (l_17 : (List (Bool × ((List Nat) × (Int × Unit))))) : Option ((Int × (List (Bool × ((List Nat) × (Int × Unit))))) ⊕ (((List (Bool × ((List Nat) × (Int × Unit))))) ⊕ Bool)) :=
 if x56_16 < (4 : Int) then ck (0 ≤ x56_16 ∧ x56_16 < (4 : Int)) ((aAn F (([(((((s_0.2).2).2).2).1), ((((((s_0.2).2).2).2).2).1), (((((((s_0.2).2).2).2).2).2).1), ((((((((s_0.2).2).2).2).2).2).2).1)] : List (List Nat)).getD (x56_16.toNat) ([] : List Nat))).bind (fun v_24 => ck ((¬ (¬ (((v_24.2).1) = (0 : Int))) → (((oW F (v_24.1)).isSome = true)))) (if (¬ (((v_24.2).1) = (0 : Int))) ∨ (((oW F (v_24.1)).getD (0 : Int)) ≤ (0 : Int)) then some (.inr (.inr false)) else ck (((l_17.length) + (1 : Nat)) * 73 ≤ 140737488355328) (ck (I64 (x56_16 + (1 : Int))) (some (.inl ((x56_16 + (1 : Int)), (l_17 ++ ([(v_24.1)] : List (Bool × ((List Nat) × (Int × Unit)))))))))))) else some (.inr (.inl l_17))
noncomputable def rF (F : Md) (s_0 : (Int × (Int × (Int × (Int × ((List Nat) × ((List Nat) × ((List Nat) × ((List Nat) × ((List ((List Nat) × ((List ((List Nat) × (((List Nat) × ((List Nat) × Unit)) × (Ex × Unit)))) × ((List ((List Nat) × (((List Nat) × ((List Nat) × Unit)) × Unit))) × ((List (List Nat)) × ((List ((List Nat) × (Ex × Unit))) × Unit)))))) × ((List ((List Nat) × ((List Nat) × ((List Nat) × ((List Nat) × Unit))))) × Unit))))))))))) : Option Bool :=
 if (((((((s_0.1) < (8 : Int)) ∨ ((200 : Int) < (s_0.1))) ∨ (((s_0.2).1) < (1 : Int))) ∨ ((20 : Int) < ((s_0.2).1))) ∨ ((((s_0.2).2).1) < (0 : Int))) ∨ ((3 : Int) < (((s_0.2).2).1))) ∨ ((¬ (((((s_0.2).2).2).1) = (1 : Int))) ∧ (¬ (((((s_0.2).2).2).1) = (2 : Int)))) then some false else (dG F (fun d : Int × (List (Bool × ((List Nat) × (Int × Unit)))) => rR F s_0 d.1 d.2) ((0 : Int), ([] : List (Bool × ((List Nat) × (Int × Unit)))))).bind (fun e => match e with | (.inl e) => nE F e | (.inr e) => some e)
def aA8 : PlR := ⟨[(0, .B [1]), (1, .A [1, 45]), (2, .A [2]), (3, .A [1, 3]), (4, .A [3, 54, 55, 56]), (5, .A [3, 54, 55, 56, 57]), (6, .A [3, 5, 54, 55, 56]), (7, .B [3, 6, 7, 54, 55, 56]), (8, .A [3, 6, 54, 55, 56, 71]), (9, .A [2]), (10, .B [3, 54, 55, 56]), (11, .A [3, 54, 55, 56]), (12, .A [2])], [(7, 15)]⟩
def aCi : Ty := .pair (.pair (.i .i64) (.pair (.i .i64) (.pair (.i .i64) (.pair (.i .i64) (.pair .str (.pair .str (.pair .str (.pair .str (.pair (.sl (.pair .str (.pair (.sl (.pair .str (.pair (.pair .str (.pair .str .unit)) (.pair .expr .unit)))) (.pair (.sl (.pair .str (.pair (.pair .str (.pair .str .unit)) .unit))) (.pair (.sl .str) (.pair (.sl (.pair .str (.pair .expr .unit))) .unit)))))) (.pair (.sl (.pair .str (.pair .str (.pair .str (.pair .str .unit))))) .unit)))))))))) .unit
noncomputable def pJ (F : Md) : aG := mSpec aCi (.one .bool) (fun x => rF F x.1)
noncomputable def nS (F : Md) : List (FuncId × aG) := [(133, (xR F)), (134, (vL F)), (22, (sD F)), (57, (pF F))]
theorem aIB (F : Md) : bE Tryz.prog GL (nS F) := .cons (aMj F) (by kernel_rfl) (.cons (aKV F) (by kernel_rfl) (.cons (aHP F) (by kernel_rfl) (.cons (aFL F) (by kernel_rfl) (.nil))))
theorem aDK (F : Md) : gam (nS F) 133 = some (xR F) := rfl
theorem aDL (F : Md) : gam (nS F) 134 = some (vL F) := rfl
theorem aEK (F : Md) : gam (nS F) 22 = some (sD F) := rfl
theorem aEL (F : Md) : gam (nS F) 57 = some (pF F) := rfl
attribute [go_sem] aCi aA8 aDK aDL aEK aEL
set_option maxHeartbeats 4000000 in
theorem aGY (F : Md) : FOK Tryz.prog GL 66 (pJ F) := by
 refine bH (bA (aIB F)) mix Tryz.func66 rfl (by kernel_rfl) (by decide) aA8 fun w0 S x Θ hw h hF => ?_
 obtain ⟨(s_0 : (Int × (Int × (Int × (Int × ((List Nat) × ((List Nat) × ((List Nat) × ((List Nat) × ((List ((List Nat) × ((List ((List Nat) × (((List Nat) × ((List Nat) × Unit)) × (Ex × Unit)))) × ((List ((List Nat) × (((List Nat) × ((List Nat) × Unit)) × Unit))) × ((List (List Nat)) × ((List ((List Nat) × (Ex × Unit))) × Unit)))))) × ((List ((List Nat) × ((List Nat) × ((List Nat) × ((List Nat) × Unit))))) × Unit))))))))))), u⟩ := x
 simp only [bL, go_sem]
 replace h : sat (rF F s_0) _ := h
 unfold rF at h
 refine ⟨fun hc => ?_, fun hc => ?_⟩
 ·replace h := iR hc h
  exact aI hF [.tmp 2] rfl rfl rfl (aA h) (by simp only [aT, go_sem])
 ·replace h := iS hc h
  refine dZ hF (D := (List (Bool × ((List Nat) × (Int × Unit))))) (fun d => sat (nE F d) Θ) [] (fun d => [(3, .own 0)]) (fun d => [.inr (.row 25 (.pair .bool (.pair (.sl (.u .u64)) (.pair (.i .i64) .unit))) d)]) ?_ ?_
  ·simp only [go_sem]
   refine aBE 3 25 (.pair .bool (.pair (.sl (.u .u64)) (.pair (.i .i64) .unit))) rfl ?_
   simp only [go_sem]
   refine aDG [1] rfl rfl ?_
   simp only [go_sem]
   refine bS hF (D := Int × (List (Bool × ((List Nat) × (Int × Unit))))) [55] (fun d => [(3, .own 0), (54, .val (.sl .str) ([(((((s_0.2).2).2).2).1), ((((((s_0.2).2).2).2).2).1), (((((((s_0.2).2).2).2).2).2).1), ((((((((s_0.2).2).2).2).2).2).2).1)] : List (List Nat))), (56, .val (.i .i64) d.1)]) (fun d => [.inr (.row 25 (.pair .bool (.pair (.sl (.u .u64)) (.pair (.i .i64) .unit))) d.2)]) h rfl (by (try simp only [jN, gD, true_or, and_self, go_sem]) <;> (repeat' apply And.intro) <;> first | rfl | (left; rfl) | (right; rfl) | (left; simp only [go_sem]; done) | (right; simp only [go_sem]; done) | (simp; done) | (simp only [*]; done) | omega) ?_
   rintro ⟨x56_16, l_17⟩ A5 T5 hA5 hE5 h
   simp only [go_sem]
   replace h : sat (rR F s_0 x56_16 l_17) _ := h
   unfold rR at h
   refine eC h (fun hc h => ?_) fun hc h => ?_
   ·obtain ⟨g0, h⟩ := aN h
    repeat (refine ⟨by first | with_reducible assumption | omega | (intros; first | with_reducible assumption | omega) | (simp only [go_sem] at *; first | with_reducible assumption | omega) | decide, ?_⟩)
    obtain ⟨v_24, hv, h⟩ := aM h
    try simp only [hv, go_sem]
    obtain ⟨g0, h⟩ := aN h
    repeat (refine ⟨by first | with_reducible assumption | omega | (intros; first | with_reducible assumption | omega) | (simp only [go_sem] at *; first | with_reducible assumption | omega) | (intro q0; (try have e0 := g0 (by first | exact q0 | omega | (simpa using q0))); first | assumption | omega) | decide, ?_⟩)
    refine ⟨fun hc => ?_, fun hc => ?_⟩
    ·replace h := iR (by first | exact hc | omega | (simpa using hc) | (simp at hc ⊢; omega)) h
     replace h := hE5 _ (aA h)
     try dsimp only at h
     exact aI hF [.tmp 2] rfl rfl rfl (aA h) (by simp only [aT, go_sem])
    ·replace h := iS (by first | exact hc | omega | (simpa using hc) | (simp at hc ⊢; omega)) h
     obtain ⟨g0, h⟩ := aN h
     repeat (refine ⟨by first | with_reducible assumption | omega | (intros; first | with_reducible assumption | omega) | (simp only [go_sem] at *; first | with_reducible assumption | omega) | decide, ?_⟩)
     obtain ⟨g0, h⟩ := aN h
     try simp only [I64, I32] at g0
     repeat (refine ⟨by first | with_reducible assumption | omega | (intros; first | with_reducible assumption | omega) | (simp only [go_sem] at *; first | with_reducible assumption | omega) | decide, ?_⟩)
     replace h := hA5 _ (aA h)
     refine nA [2] rfl rfl ?_
     simp only [go_sem]
     exact aV _ h rfl (by simp only [go_sem])
   ·replace h := hE5 _ (aA h)
    try dsimp only at h
    exact aV (l_17) h rfl (by simp only [go_sem])
  ·rintro l_8 h
   simp only [go_sem]
   replace h : sat (nE F l_8) _ := h
   unfold nE at h
   obtain ⟨g0, h⟩ := aN h
   obtain ⟨g1, h⟩ := aN h
   repeat (refine ⟨by first | with_reducible assumption | omega | (intros; first | with_reducible assumption | omega) | (simp only [go_sem] at *; first | with_reducible assumption | omega) | decide, ?_⟩)
   obtain ⟨v_14, hv, h⟩ := aM h
   try simp only [hv, go_sem]
   obtain ⟨g0, h⟩ := aN h
   obtain ⟨g1, h⟩ := aN h
   obtain ⟨g2, h⟩ := aN h
   obtain ⟨g3, h⟩ := aN h
   obtain ⟨g4, h⟩ := aN h
   obtain ⟨g5, h⟩ := aN h
   repeat (refine ⟨by first | with_reducible assumption | omega | (intros; first | with_reducible assumption | omega) | (simp only [go_sem] at *; first | with_reducible assumption | omega) | (intro q0; (try have e0 := g0 (by first | exact q0 | omega | (simpa using q0))); (try have e1 := g1 (by first | exact q0 | omega | (simpa using q0))); (try have e2 := g2 (by first | exact q0 | omega | (simpa using q0))); (try have e3 := g3 (by first | exact q0 | omega | (simpa using q0))); (try have e4 := g4 (by first | exact q0 | omega | (simpa using q0))); (try have e5 := g5 (by first | exact q0 | omega | (simpa using q0))); first | assumption | omega) | decide, ?_⟩)
   exact aI hF [.tmp 2] rfl rfl rfl (aA h) (by simp only [aT, go_sem])
attribute [go_sem] pJ
noncomputable def pK (F : Md) (x_6 : (List (List Nat))) (s_0 : ((List Nat) × ((List ((List Nat) × (((List Nat) × ((List Nat) × Unit)) × (Ex × Unit)))) × ((List ((List Nat) × (((List Nat) × ((List Nat) × Unit)) × Unit))) × ((List (List Nat)) × ((List ((List Nat) × (Ex × Unit))) × Unit)))))) (p_11 : (List (List Nat))) : Option (((List (List Nat)) × ((List (List Nat)) × ((List (List Nat)) × Unit)))) :=
 some (x_6, p_11, ((((s_0.2).2).2).1), ())
noncomputable def uY (F : Md) (s_0 : ((List Nat) × ((List ((List Nat) × (((List Nat) × ((List Nat) × Unit)) × (Ex × Unit)))) × ((List ((List Nat) × (((List Nat) × ((List Nat) × Unit)) × Unit))) × ((List (List Nat)) × ((List ((List Nat) × (Ex × Unit))) × Unit)))))) (x25_12 : Int) (p_13 : (List (List Nat))) : Option ((Int × (List (List Nat))) ⊕ (((List (List Nat))))) :=
 if x25_12 < ((((((s_0.2).2).1).length) : Nat) : Int) then ck (0 ≤ x25_12 ∧ x25_12 < ((((((s_0.2).2).1).length) : Nat) : Int)) (ck (((p_13.length) + (1 : Nat)) * 16 ≤ 140737488355328) (ck (I64 (x25_12 + (1 : Int))) (some (.inl ((x25_12 + (1 : Int)), (p_13 ++ ([(((((s_0.2).2).1).getD (x25_12.toNat) (([] : List Nat), (([] : List Nat), ([] : List Nat), ()), ())).1)] : List (List Nat)))))))) else some (.inr p_13)
noncomputable def pL (F : Md) (s_0 : ((List Nat) × ((List ((List Nat) × (((List Nat) × ((List Nat) × Unit)) × (Ex × Unit)))) × ((List ((List Nat) × (((List Nat) × ((List Nat) × Unit)) × Unit))) × ((List (List Nat)) × ((List ((List Nat) × (Ex × Unit))) × Unit)))))) (x_6 : (List (List Nat))) : Option (((List (List Nat)) × ((List (List Nat)) × ((List (List Nat)) × Unit)))) :=
 (dG F (fun d : Int × (List (List Nat)) => uY F s_0 d.1 d.2) ((0 : Int), ([] : List (List Nat)))).bind (fun e => pK F x_6 s_0 e)
noncomputable def uZ (F : Md) (s_0 : ((List Nat) × ((List ((List Nat) × (((List Nat) × ((List Nat) × Unit)) × (Ex × Unit)))) × ((List ((List Nat) × (((List Nat) × ((List Nat) × Unit)) × Unit))) × ((List (List Nat)) × ((List ((List Nat) × (Ex × Unit))) × Unit)))))) (x12_17 : Int) (x_18 : (List (List Nat))) : Option ((Int × (List (List Nat))) ⊕ (((List (List Nat))))) :=
 if x12_17 < (((((s_0.2).1).length) : Nat) : Int) then ck (0 ≤ x12_17 ∧ x12_17 < (((((s_0.2).1).length) : Nat) : Int)) (ck (((x_18.length) + (1 : Nat)) * 16 ≤ 140737488355328) (ck (I64 (x12_17 + (1 : Int))) (some (.inl ((x12_17 + (1 : Int)), (x_18 ++ ([((((s_0.2).1).getD (x12_17.toNat) (([] : List Nat), (([] : List Nat), ([] : List Nat), ()), (Ex.mk 0 [] []), ())).1)] : List (List Nat)))))))) else some (.inr x_18)
noncomputable def aU (F : Md) (s_0 : ((List Nat) × ((List ((List Nat) × (((List Nat) × ((List Nat) × Unit)) × (Ex × Unit)))) × ((List ((List Nat) × (((List Nat) × ((List Nat) × Unit)) × Unit))) × ((List (List Nat)) × ((List ((List Nat) × (Ex × Unit))) × Unit)))))) : Option ((List (List Nat)) × ((List (List Nat)) × ((List (List Nat)) × Unit))) :=
 (dG F (fun d : Int × (List (List Nat)) => uZ F s_0 d.1 d.2) ((0 : Int), ([] : List (List Nat)))).bind (fun e => pL F s_0 e)
def aDf : PlR := ⟨[(0, .B [1, 2, 3]), (1, .A [1, 2, 3, 10, 11, 12]), (2, .A [1, 2, 3, 10, 11, 12, 13]), (3, .B [1, 2, 3, 6, 10, 11, 12]), (4, .B [1, 2, 3, 10, 11, 12]), (5, .A [1, 2, 3, 10, 11, 12]), (6, .A [1, 2, 3, 23, 24, 25]), (7, .A [1, 2, 3, 23, 24, 25, 26]), (8, .B [1, 2, 3, 8, 23, 24, 25]), (9, .B [1, 2, 3, 23, 24, 25]), (10, .A [1, 2, 3, 23, 24, 25]), (11, .A [2, 3, 4])], [(4, 9), (9, 14)]⟩
def aEd : Ty := .pair (.pair .str (.pair (.sl (.pair .str (.pair (.pair .str (.pair .str .unit)) (.pair .expr .unit)))) (.pair (.sl (.pair .str (.pair (.pair .str (.pair .str .unit)) .unit))) (.pair (.sl .str) (.pair (.sl (.pair .str (.pair .expr .unit))) .unit))))) .unit
noncomputable def tK (F : Md) : aG := mSpec aEd (.tup (.pair (.sl .str) (.pair (.sl .str) (.pair (.sl .str) .unit)))) (fun x => aU F x.1)
noncomputable def aKW (F : Md) : List (FuncId × aG) := []
theorem aKX (F : Md) : bE Tryz.prog GL (aKW F) := .nil
attribute [go_sem] aEd aDf
set_option maxHeartbeats 4000000 in
theorem aKq (F : Md) : FOK Tryz.prog GL 135 (tK F) := by
 refine bH (bA (aKX F)) mix Tryz.func135 rfl (by kernel_rfl) (by decide) aDf fun w0 S x Θ hw h hF => ?_
 obtain ⟨(s_0 : ((List Nat) × ((List ((List Nat) × (((List Nat) × ((List Nat) × Unit)) × (Ex × Unit)))) × ((List ((List Nat) × (((List Nat) × ((List Nat) × Unit)) × Unit))) × ((List (List Nat)) × ((List ((List Nat) × (Ex × Unit))) × Unit)))))), u⟩ := x
 simp only [bL, go_sem]
 replace h : sat (aU F s_0) _ := h
 unfold aU at h
 refine dZ hF (D := (List (List Nat))) (fun d => sat (pL F s_0 d) Θ) [3] (fun d => [(1, .ptr 0 []), (2, .own 1)]) (fun d => [.inr (.box 5 (.val (.pair .str (.pair (.sl (.pair .str (.pair (.pair .str (.pair .str .unit)) (.pair .expr .unit)))) (.pair (.sl (.pair .str (.pair (.pair .str (.pair .str .unit)) .unit))) (.pair (.sl .str) (.pair (.sl (.pair .str (.pair .expr .unit))) .unit))))) s_0)), .inr (.row 9 .str d)]) ?_ ?_
 ·simp only [go_sem]
  refine aBE 2 9 .str rfl ?_
  simp only [go_sem]
  refine bS hF (D := Int × (List (List Nat))) [3, 10, 11] (fun d => [(1, .ptr 0 []), (2, .own 1), (12, .val (.i .i64) d.1)]) (fun d => [.inr (.box 5 (.val (.pair .str (.pair (.sl (.pair .str (.pair (.pair .str (.pair .str .unit)) (.pair .expr .unit)))) (.pair (.sl (.pair .str (.pair (.pair .str (.pair .str .unit)) .unit))) (.pair (.sl .str) (.pair (.sl (.pair .str (.pair .expr .unit))) .unit))))) s_0)), .inr (.row 9 .str d.2)]) h rfl (by simp only [go_sem]) ?_
  rintro ⟨x12_17, x_18⟩ A2 T2 hA2 hE2 h
  simp only [go_sem]
  replace h : sat (uZ F s_0 x12_17 x_18) _ := h
  unfold uZ at h
  refine eC h (fun hc h => ?_) fun hc h => ?_
  ·obtain ⟨g0, h⟩ := aN h
   repeat (refine ⟨by omega, ?_⟩)
   obtain ⟨g0, h⟩ := aN h
   repeat (refine ⟨by omega, ?_⟩)
   refine aS h fun g0 h => ?_
   replace h := hA2 _ (aA h)
   refine nA [0, 3] rfl rfl ?_
   simp only [go_sem]
   exact aV _ h rfl (by simp only [go_sem])
  ·replace h := hE2 _ (aA h)
   try dsimp only at h
   exact aV (x_18) h rfl (by simp only [go_sem])
 ·rintro x_6 h
  simp only [go_sem]
  replace h : sat (pL F s_0 x_6) _ := h
  unfold pL at h
  refine dZ hF (D := (List (List Nat))) (fun d => sat (pK F x_6 s_0 d) Θ) [] (fun d => [(1, .ptr 0 []), (2, .own 1), (3, .own 2)]) (fun d => [.inr (.box 5 (.val (.pair .str (.pair (.sl (.pair .str (.pair (.pair .str (.pair .str .unit)) (.pair .expr .unit)))) (.pair (.sl (.pair .str (.pair (.pair .str (.pair .str .unit)) .unit))) (.pair (.sl .str) (.pair (.sl (.pair .str (.pair .expr .unit))) .unit))))) s_0)), .inr (.row 9 .str x_6), .inr (.row 9 .str d)]) ?_ ?_
  ·simp only [go_sem]
   refine aBE 3 9 .str rfl ?_
   simp only [go_sem]
   refine bS hF (D := Int × (List (List Nat))) [23, 24] (fun d => [(1, .ptr 0 []), (2, .own 1), (3, .own 2), (25, .val (.i .i64) d.1)]) (fun d => [.inr (.box 5 (.val (.pair .str (.pair (.sl (.pair .str (.pair (.pair .str (.pair .str .unit)) (.pair .expr .unit)))) (.pair (.sl (.pair .str (.pair (.pair .str (.pair .str .unit)) .unit))) (.pair (.sl .str) (.pair (.sl (.pair .str (.pair .expr .unit))) .unit))))) s_0)), .inr (.row 9 .str x_6), .inr (.row 9 .str d.2)]) h rfl (by simp only [go_sem]) ?_
   rintro ⟨x25_12, p_13⟩ A7 T7 hA7 hE7 h
   simp only [go_sem]
   replace h : sat (uY F s_0 x25_12 p_13) _ := h
   unfold uY at h
   refine eC h (fun hc h => ?_) fun hc h => ?_
   ·obtain ⟨g0, h⟩ := aN h
    repeat (refine ⟨by omega, ?_⟩)
    obtain ⟨g0, h⟩ := aN h
    repeat (refine ⟨by omega, ?_⟩)
    refine aS h fun g0 h => ?_
    replace h := hA7 _ (aA h)
    refine nA [0, 1, 4] rfl rfl ?_
    simp only [go_sem]
    exact aV _ h rfl (by simp only [go_sem])
   ·replace h := hE7 _ (aA h)
    try dsimp only at h
    exact aV (p_13) h rfl (by simp only [go_sem])
  ·rintro p_11 h
   simp only [go_sem]
   replace h : sat (pK F x_6 s_0 p_11) _ := h
   unfold pK at h
   exact aI hF [.tmp 2, .tmp 3, .tmp 4] rfl rfl rfl (aA h) (by simp only [aT, go_sem])
attribute [go_sem] tK
noncomputable def oZ (F : Md) (slices_0 : (List (List (List Nat)))) (x27_13 : Int) (newslice_14 : (List (List Nat))) : Option ((Int × (List (List Nat))) ⊕ (((List (List Nat))))) :=
 if x27_13 < (((slices_0.length) : Nat) : Int) then ck (0 ≤ x27_13 ∧ x27_13 < (((slices_0.length) : Nat) : Int)) (ck (((newslice_14.length) + ((slices_0.getD (x27_13.toNat) ([] : List (List Nat))).length)) * 16 ≤ 140737488355328) (ck (I64 (x27_13 + (1 : Int))) (some (.inl ((x27_13 + (1 : Int)), (newslice_14 ++ (slices_0.getD (x27_13.toNat) ([] : List (List Nat))))))))) else some (.inr newslice_14)
noncomputable def lO (F : Md) (slices_0 : (List (List (List Nat)))) (size_6 : Int) : Option ((List (List Nat))) :=
 ((lZ F size_6)).bind (fun r_8 => (dG F (fun d : Int × (List (List Nat)) => oZ F slices_0 d.1 d.2) ((0 : Int), r_8)).bind (fun e => some e))
noncomputable def pZ (F : Md) (slices_0 : (List (List (List Nat)))) (size_18 : Int) (x11_19 : Int) : Option ((Int × Int) ⊕ ((Int))) :=
 if x11_19 < (((slices_0.length) : Nat) : Int) then ck (0 ≤ x11_19 ∧ x11_19 < (((slices_0.length) : Nat) : Int)) (ck (I64 (size_18 + ((((slices_0.getD (x11_19.toNat) ([] : List (List Nat))).length) : Nat) : Int))) (if (size_18 + ((((slices_0.getD (x11_19.toNat) ([] : List (List Nat))).length) : Nat) : Int)) < (0 : Int) then none else ck (I64 (x11_19 + (1 : Int))) (some (.inl ((size_18 + ((((slices_0.getD (x11_19.toNat) ([] : List (List Nat))).length) : Nat) : Int)), (x11_19 + (1 : Int))))))) else some (.inr size_18)
noncomputable def bI (F : Md) (slices_0 : (List (List (List Nat)))) : Option (List (List Nat)) :=
 (dG F (fun d : Int × Int => pZ F slices_0 d.1 d.2) ((0 : Int), (0 : Int))).bind (fun e => lO F slices_0 e)
def kH : Ty := .pair (.sl (.sl .str)) .unit
attribute [go_sem] kH
noncomputable def jJ (F : Md) : aG := mSpec kH (.one (.sl .str)) (fun x => bI F x.1)
noncomputable def tL (F : Md) : List (FuncId × aG) := []
theorem tM (F : Md) : bE Tryz.prog GL (tL F) := .nil
set_option maxHeartbeats 4000000 in
theorem aA9 (F : Md) : FOK Tryz.prog GL 136 (jJ F) := by
 refine lR (bA (tM F)) Tryz.func136 rfl (by kernel_rfl) (by decide) fun w0 S x r hw h => ?_
 have hF : jQ (fr Tryz.prog (EM (tL F)) S w0 Tryz.f136.ntmps) := ⟨bA (tM F), mix⟩
 obtain ⟨(slices_0 : (List (List (List Nat)))), u⟩ := x
 simp only [kH, Ty.wf, mM] at hw
 simp only [bL, kH]
 try dsimp only at h
 replace h : bI F slices_0 = some r := h
 unfold bI at h
 refine aB (aD hF [0] ?_)
 simp only [go_sem]
 refine aC (aB (aD hF [0, 3] ?_))
 simp only [go_sem]
 refine aC (lQ (D := Int) (fun d => lO F slices_0 d = some r) [0] (fun d => [(3, .val (.i .i64) d)]) (fun d => []) ?_ ?_)
 ·refine aB (aD hF [0, 3, 9, 10, 11] ?_)
  simp only [go_sem]
  refine aC (dU (nV (D := Int × Int) [0, 9, 10] (fun d => [(3, .val (.i .i64) d.1), (11, .val (.i .i64) d.2)]) (fun d => []) h ?_ ?_ ?_))
  ·first | rfl | (simp only [go_sem]; done)
  ·(try simp only [jN, gD, true_or, and_self, go_sem]) <;> (repeat' apply And.intro) <;> first | rfl | (left; rfl) | (right; rfl) | (left; simp only [go_sem]; done) | (right; simp only [go_sem]; done) | (simp; done) | (simp only [*]; done) | omega
  rintro ⟨size_18, x11_19⟩ s3 h hs3
  simp only [go_sem]
  try dsimp only at h
  unfold pZ at h
  refine aB (aD hF [0, 3, 9, 10, 11, 12] ?_)
  simp only [go_sem]
  refine aC (aB (cB rfl (fun hc => ?_) (fun hc => ?_)))
  ·try simp only [go_sem] at hc
   have h := hD (by first | exact hc | omega | (simpa using hc) | (simp at hc ⊢; omega)) h
   refine cP (aC (aB (dU (aB (aD hF [0, 3, 5, 9, 10, 11] ?_)))))
   simp only [go_sem]
   obtain ⟨g0, h⟩ := aH h
   repeat (refine ⟨by first | with_reducible assumption | omega | (intros; first | with_reducible assumption | omega) | (simp only [go_sem] at *; first | with_reducible assumption | omega) | decide, ?_⟩)
   refine aC (aB (aD hF [0, 3, 9, 10, 11] ?_))
   simp only [go_sem]
   obtain ⟨g0, h⟩ := aH h
   try simp only [I64, I32] at g0
   repeat (refine ⟨by first | with_reducible assumption | omega | (intros; first | with_reducible assumption | omega) | (simp only [go_sem] at *; first | with_reducible assumption | omega) | decide, ?_⟩)
   refine aC (aB (aD hF [0, 3, 9, 10, 11, 20] ?_))
   simp only [go_sem]
   refine aC (cB rfl (fun hc => ?_) (fun hc => ?_))
   ·try simp only [go_sem] at hc
    have h := hD (by first | exact hc | omega | (simpa using hc) | (simp at hc ⊢; omega)) h
    cases h
   ·try simp only [go_sem] at hc
    have h := hN (by first | exact hc | omega | (simpa using hc) | (simp at hc ⊢; omega)) h
    refine cP (fH (aC (aD hF [0, 3, 9, 10, 11] ?_)))
    simp only [go_sem]
    obtain ⟨g0, h⟩ := aH h
    try simp only [I64, I32] at g0
    repeat (refine ⟨by first | with_reducible assumption | omega | (intros; first | with_reducible assumption | omega) | (simp only [go_sem] at *; first | with_reducible assumption | omega) | decide, ?_⟩)
    obtain rfl := Option.some.inj h
    dsimp only [mW] at hs3
    refine bF (aV (((size_18 + ((((slices_0.getD (x11_19.toNat) ([] : List (List Nat))).length) : Nat) : Int)), (x11_19 + (1 : Int)))) hs3 rfl ?_)
    ·(try simp only [jN, gD, true_or, and_self, go_sem]) <;> (repeat' apply And.intro) <;> first | rfl | (left; rfl) | (right; rfl) | (left; simp only [go_sem]; done) | (right; simp only [go_sem]; done) | (simp; done) | (simp only [*]; done) | omega
  ·try simp only [go_sem] at hc
   have h := hN (by first | exact hc | omega | (simpa using hc) | (simp at hc ⊢; omega)) h
   obtain rfl := Option.some.inj h
   dsimp only [mW] at hs3
   have h := hs3
   try dsimp only at h
   refine nK (cL (cL (eE (bF (aV (size_18) h rfl ?_)))))
   ·(try simp only [jN, gD, true_or, and_self, go_sem]) <;> (repeat' apply And.intro) <;> first | rfl | (left; rfl) | (right; rfl) | (left; simp only [go_sem]; done) | (right; simp only [go_sem]; done) | (simp; done) | (simp only [*]; done) | omega
 ·rintro size_6 h
  try dsimp only at h
  simp only [go_sem]
  unfold lO at h
  obtain ⟨r_8, he1, h⟩ := bind_some h
  try dsimp only at h
  refine aB (bU hF (dW (l := [(202, ⟨fU F, [], (size_6, r_8)⟩)]) (.cons (aCw F) (by kernel_rfl) (.nil))) [0, 6] [] ?_)
  simp only [go_sem]
  repeat (refine ⟨by first | with_reducible assumption | omega | (intros; first | with_reducible assumption | omega) | (simp only [go_sem] at *; first | with_reducible assumption | omega) | decide, ?_⟩)
  refine aC (aB (aB (aD hF [6, 25, 26, 27] ?_)))
  simp only [go_sem]
  refine aC (dU (nV (D := Int × (List (List Nat))) [25, 26] (fun d => [(6, .own 0), (27, .val (.i .i64) d.1)]) (fun d => [.inr (.row 9 .str d.2)]) h ?_ ?_ ?_))
  ·first | rfl | (simp only [go_sem]; done)
  ·(try simp only [jN, gD, true_or, and_self, go_sem]) <;> (repeat' apply And.intro) <;> first | rfl | (left; rfl) | (right; rfl) | (left; simp only [go_sem]; done) | (right; simp only [go_sem]; done) | (simp; done) | (simp only [*]; done) | omega
  rintro ⟨x27_13, newslice_14⟩ s11 h hs11
  simp only [go_sem]
  try dsimp only at h
  unfold oZ at h
  refine aB (aD hF [6, 25, 26, 27, 28] ?_)
  simp only [go_sem]
  refine aC (aB (cB rfl (fun hc => ?_) (fun hc => ?_)))
  ·try simp only [go_sem] at hc
   have h := hD (by first | exact hc | omega | (simpa using hc) | (simp at hc ⊢; omega)) h
   refine cP (aC (aB (dU (aB (aD hF [6, 8, 25, 26, 27] ?_)))))
   simp only [go_sem]
   obtain ⟨g0, h⟩ := aH h
   repeat (refine ⟨by first | with_reducible assumption | omega | (intros; first | with_reducible assumption | omega) | (simp only [go_sem] at *; first | with_reducible assumption | omega) | decide, ?_⟩)
   refine aC (aZ hF [6, 25, 26, 27] ?_)
   simp only [go_sem]
   obtain ⟨g0, h⟩ := aH h
   repeat (refine ⟨by first | with_reducible assumption | omega | (intros; first | with_reducible assumption | omega) | (simp only [go_sem] at *; first | with_reducible assumption | omega) | decide, ?_⟩)
   refine fH (aC (aD hF [6, 25, 26, 27] ?_))
   simp only [go_sem]
   obtain ⟨g0, h⟩ := aH h
   try simp only [I64, I32] at g0
   repeat (refine ⟨by first | with_reducible assumption | omega | (intros; first | with_reducible assumption | omega) | (simp only [go_sem] at *; first | with_reducible assumption | omega) | decide, ?_⟩)
   obtain rfl := Option.some.inj h
   dsimp only [mW] at hs11
   refine bF (nA [1] rfl rfl ?_)
   simp only [ren, iY, oM, posOf, gM, go_sem]
   refine aV (((x27_13 + (1 : Int)), (newslice_14 ++ (slices_0.getD (x27_13.toNat) ([] : List (List Nat)))))) hs11 rfl ?_
   ·(try simp only [jN, gD, true_or, and_self, go_sem]) <;> (repeat' apply And.intro) <;> first | rfl | (left; rfl) | (right; rfl) | (left; simp only [go_sem]; done) | (right; simp only [go_sem]; done) | (simp; done) | (simp only [*]; done) | omega
  ·try simp only [go_sem] at hc
   have h := hN (by first | exact hc | omega | (simpa using hc) | (simp at hc ⊢; omega)) h
   obtain rfl := Option.some.inj h
   dsimp only [mW] at hs11
   have h := hs11
   try dsimp only at h
   refine nK (cL (cL (eE (aC (aB (aD hF [2] ?_))))))
   simp only [go_sem]
   obtain rfl := Option.some.inj h
   refine aC (cV (eZ hF [.tmp 2] rfl rfl rfl ?_))
   (try simp only [gZ, aT, go_sem]) <;> first | rfl | (simp; done)
attribute [go_sem] jJ
noncomputable def vA (F : Md) (l_0 : (List (List Nat))) (x9_12 : Int) (seen_13 : (List ((List Nat) × Bool))) : Option ((Int × (List ((List Nat) × Bool))) ⊕ ((Unit) ⊕ Bool)) :=
 if x9_12 < (((l_0.length) : Nat) : Int) then ck (0 ≤ x9_12 ∧ x9_12 < (((l_0.length) : Nat) : Int)) ((aW F (l_0.getD (x9_12.toNat) ([] : List Nat))).bind (fun v_25 => if (¬ (v_25 = true)) ∨ (((aCP .str seen_13 (l_0.getD (x9_12.toNat) ([] : List Nat))).getD false) = true) then some (.inr (.inr false)) else ck (I64 (x9_12 + (1 : Int))) (some (.inl ((x9_12 + (1 : Int)), (aNB .str seen_13 (l_0.getD (x9_12.toNat) ([] : List Nat)) true)))))) else some (.inr (.inl ()))
noncomputable def oA (F : Md) (l_0 : (List (List Nat))) : Option Bool :=
 (dG F (fun d : Int × (List ((List Nat) × Bool)) => vA F l_0 d.1 d.2) ((0 : Int), ([] : List ((List Nat) × Bool)))).bind (fun e => match e with | (.inl e) => some true | (.inr e) => some e)
def aDg : PlR := ⟨[(0, .A [0]), (1, .B [0, 3]), (2, .A [3, 7, 8, 9]), (3, .A [3, 7, 8, 9, 10]), (4, .A [3, 5, 7, 8, 9]), (5, .A [3, 5, 7, 8, 9, 20]), (6, .A [2]), (7, .B [3, 7, 8, 9]), (8, .A [3, 7, 8, 9]), (9, .A [2])], []⟩
def aEe : Ty := .pair (.sl .str) .unit
noncomputable def mT (F : Md) : aG := mSpec aEe (.one .bool) (fun x => oA F x.1)
noncomputable def aEf (F : Md) : List (FuncId × aG) := [(29, (kQ F))]
theorem aKY (F : Md) : bE Tryz.prog GL (aEf F) := .cons (aAI F) (by kernel_rfl) (.nil)
theorem aGZ (F : Md) : gam (aEf F) 29 = some (kQ F) := rfl
attribute [go_sem] aEe aDg aGZ
set_option maxHeartbeats 4000000 in
theorem aDh (F : Md) : FOK Tryz.prog GL 68 (mT F) := by
 refine bH (bA (aKY F)) mix Tryz.func68 rfl (by kernel_rfl) (by decide) aDg fun w0 S x Θ hw h hF => ?_
 obtain ⟨(l_0 : (List (List Nat))), u⟩ := x
 simp only [bL, go_sem]
 replace h : sat (oA F l_0) _ := h
 unfold oA at h
 refine bS hF (D := Int × (List ((List Nat) × Bool))) [7, 8] (fun d => [(3, .mp 0), (9, .val (.i .i64) d.1)]) (fun d => [.inr (.map .str .bool d.2)]) h rfl (by simp only [go_sem]) ?_
 rintro ⟨x9_12, seen_13⟩ A3 T3 hA3 hE3 h
 simp only [go_sem]
 replace h : sat (vA F l_0 x9_12 seen_13) _ := h
 unfold vA at h
 refine eC h (fun hc h => ?_) fun hc h => ?_
 ·refine aS h fun g0 h => ?_
  obtain ⟨v_25, hv, h⟩ := aM h
  try simp only [hv, go_sem]
  refine ⟨fun hc => ?_, fun hc => ?_⟩
  ·replace h := iR (by first | exact hc | omega | (simpa using hc) | (simp at hc ⊢; omega)) h
   replace h := hE3 _ (aA h)
   try dsimp only at h
   exact aI hF [.tmp 2] rfl rfl rfl (aA h) (by simp only [aT, go_sem])
  ·replace h := iS (by first | exact hc | omega | (simpa using hc) | (simp at hc ⊢; omega)) h
   refine aS h fun g0 h => ?_
   replace h := hA3 _ (aA h)
   exact aV _ h rfl (by simp only [go_sem])
 ·replace h := hE3 _ (aA h)
  try dsimp only at h
  exact aI hF [.tmp 2] rfl rfl rfl (aA h) (by simp only [aT, go_sem])
attribute [go_sem] mT
noncomputable def iM (F : Md) (s_0 : (List Nat)) (prefix_1 : (List Nat)) : Option Bool :=
 ck ((((((prefix_1.length) : Nat) : Int) ≤ (((s_0.length) : Nat) : Int)) → (0 ≤ (((prefix_1.length) : Nat) : Int) ∧ (((prefix_1.length) : Nat) : Int) ≤ (((s_0.length) : Nat) : Int)))) (some ((decide ((((prefix_1.length) : Nat) : Int) ≤ (((s_0.length) : Nat) : Int))) && (decide ((List.take (prefix_1.length) s_0) = prefix_1))))
def qA : PlR := ⟨[(0, .A [0, 1]), (1, .A [4])], []⟩
def qS : Ty := .pair .str (.pair .str .unit)
noncomputable def iA (F : Md) : aG := mSpec qS (.one .bool) (fun x => iM F x.1 x.2.1)
noncomputable def aAK (F : Md) : List (FuncId × aG) := []
theorem aAL (F : Md) : bE Tryz.prog GL (aAK F) := .nil
attribute [go_sem] qS qA
set_option maxHeartbeats 4000000 in
theorem zV (F : Md) : FOK Tryz.prog GL 224 (iA F) := by
 refine bH (bA (aAL F)) mix Tryz.func224 rfl (by kernel_rfl) (by decide) qA fun w0 S x Θ hw h hF => ?_
 obtain ⟨(s_0 : (List Nat)), (prefix_1 : (List Nat)), u⟩ := x
 simp only [bL, go_sem]
 replace h : sat (iM F s_0 prefix_1) _ := h
 unfold iM at h
 refine aS h fun g0 h => ?_
 exact aI hF [.tmp 4] rfl rfl rfl (aA h) (by simp only [aT, go_sem])
attribute [go_sem] iA
noncomputable def iN (F : Md) (s_0 : (List Nat)) (prefix_1 : (List Nat)) : Option ((List Nat) × (Bool × Unit)) :=
 (iM F s_0 prefix_1).bind (fun v_8 => if ¬ (v_8 = true) then some (s_0, false, ()) else ck (0 ≤ (((prefix_1.length) : Nat) : Int) ∧ (((prefix_1.length) : Nat) : Int) ≤ (((s_0.length) : Nat) : Int)) (some ((List.drop (prefix_1.length) s_0), true, ())))
def qB : PlR := ⟨[(0, .A [0, 1]), (1, .A [0, 1, 9]), (2, .A [4, 5]), (3, .A [4, 5])], []⟩
def qT : Ty := .pair .str (.pair .str .unit)
noncomputable def iB (F : Md) : aG := mSpec qT (.tup (.pair .str (.pair .bool .unit))) (fun x => iN F x.1 x.2.1)
noncomputable def qU (F : Md) : List (FuncId × aG) := [(224, (iA F))]
theorem aAM (F : Md) : bE Tryz.prog GL (qU F) := .cons (zV F) (by kernel_rfl) (.nil)
theorem wN (F : Md) : gam (qU F) 224 = some (iA F) := rfl
attribute [go_sem] qT qB wN
set_option maxHeartbeats 4000000 in
theorem zW (F : Md) : FOK Tryz.prog GL 257 (iB F) := by
 refine bH (bA (aAM F)) mix Tryz.func257 rfl (by kernel_rfl) (by decide) qB fun w0 S x Θ hw h hF => ?_
 obtain ⟨(s_0 : (List Nat)), (prefix_1 : (List Nat)), u⟩ := x
 simp only [bL, go_sem]
 replace h : sat (iN F s_0 prefix_1) _ := h
 unfold iN at h
 obtain ⟨v_8, hv, h⟩ := aM h
 try simp only [hv, go_sem]
 refine aAy h (fun hc h => ?_) fun hc h => ?_
 ·exact aI hF [.tmp 4, .tmp 5] rfl rfl rfl (aA h) (by simp only [aT, go_sem])
 ·refine aS h fun g0 h => ?_
  exact aI hF [.tmp 4, .tmp 5] rfl rfl rfl (aA h) (by simp only [aT, go_sem])
attribute [go_sem] iB
noncomputable def mH (F : Md) (s_0 : (List Nat)) (prefix_1 : (List Nat)) : Option ((List Nat) × (Bool × Unit)) :=
 (iN F s_0 prefix_1).bind (fun v_6 => some ((v_6.1), ((v_6.2).1), ()))
def wD : PlR := ⟨[(0, .A [0, 1]), (1, .A [4, 5])], []⟩
def wT : Ty := .pair .str (.pair .str .unit)
noncomputable def mA (F : Md) : aG := mSpec wT (.tup (.pair .str (.pair .bool .unit))) (fun x => mH F x.1 x.2.1)
noncomputable def wU (F : Md) : List (FuncId × aG) := [(257, (iB F))]
theorem aDM (F : Md) : bE Tryz.prog GL (wU F) := .cons (zW F) (by kernel_rfl) (.nil)
theorem aBa (F : Md) : gam (wU F) 257 = some (iB F) := rfl
attribute [go_sem] wT wD aBa
set_option maxHeartbeats 4000000 in
theorem aDi (F : Md) : FOK Tryz.prog GL 240 (mA F) := by
 refine bH (bA (aDM F)) mix Tryz.func240 rfl (by kernel_rfl) (by decide) wD fun w0 S x Θ hw h hF => ?_
 obtain ⟨(s_0 : (List Nat)), (prefix_1 : (List Nat)), u⟩ := x
 simp only [bL, go_sem]
 replace h : sat (mH F s_0 prefix_1) _ := h
 unfold mH at h
 obtain ⟨v_6, hv, h⟩ := aM h
 try simp only [hv, go_sem]
 exact aI hF [.tmp 4, .tmp 5] rfl rfl rfl (aA h) (by simp only [aT, go_sem])
attribute [go_sem] mA
noncomputable def qV (F : Md) (s_0 : (List Nat)) : Option (Bool × ((List Nat) × ((List Nat) × (Bool × Unit)))) :=
 (mH F s_0 (aE ⟨#[45]⟩)).bind (fun v_5 => (aAm F (v_5.1)).bind (fun v_9 => some ((((v_5.2).1) && (decide ((0 : Int) < ((((v_9.1).length) : Nat) : Int)))), (v_9.1), ((v_9.2).1), (((v_9.2).2).1), ())))
def aDj : PlR := ⟨[(0, .A [0]), (1, .A [6, 7]), (2, .A [7, 8, 9, 10]), (3, .A [2, 3, 4, 5])], []⟩
def aEg : Ty := .pair .str .unit
noncomputable def tN (F : Md) : aG := mSpec aEg (.tup (.pair .bool (.pair (.sl (.u .u64)) (.pair (.sl (.u .u64)) (.pair .bool .unit))))) (fun x => qV F x.1)
noncomputable def aAN (F : Md) : List (FuncId × aG) := [(116, (xQ F)), (240, (mA F))]
theorem aKZ (F : Md) : bE Tryz.prog GL (aAN F) := .cons (aMi F) (by kernel_rfl) (.cons (aDi F) (by kernel_rfl) (.nil))
theorem aFZ (F : Md) : gam (aAN F) 116 = some (xQ F) := rfl
theorem aF0 (F : Md) : gam (aAN F) 240 = some (mA F) := rfl
attribute [go_sem] aEg aDj aFZ aF0
set_option maxHeartbeats 4000000 in
theorem aKr (F : Md) : FOK Tryz.prog GL 203 (tN F) := by
 refine bH (bA (aKZ F)) mix Tryz.func203 rfl (by kernel_rfl) (by decide) aDj fun w0 S x Θ hw h hF => ?_
 obtain ⟨(s_0 : (List Nat)), u⟩ := x
 simp only [bL, go_sem]
 replace h : sat (qV F s_0) _ := h
 unfold qV at h
 obtain ⟨v_5, hv, h⟩ := aM h
 try simp only [hv, go_sem]
 obtain ⟨v_9, hv, h⟩ := aM h
 try simp only [hv, go_sem]
 exact aI hF [.tmp 2, .tmp 3, .tmp 4, .tmp 5] rfl rfl rfl (aA h) (by simp only [aT, go_sem])
attribute [go_sem] tN
noncomputable def mB (F : Md) (r_0 : ((List Nat) × ((List Nat) × Unit))) (hi_2 : (List Nat)) : Option (Bool) :=
 (qV F (r_0.1)).bind (fun v_6 => (qV F hi_2).bind (fun v_10 => (gH F ((v_6.2).1) (((v_10.2).2).1)).bind (fun v_20 => (gH F ((v_10.2).1) (((v_6.2).2).1)).bind (fun v_21 => (oU F v_20 v_21).bind (fun v_22 => if (¬ (((((v_6.2).2).2).1) = true)) ∨ (¬ (((((v_10.2).2).2).1) = true)) then some false else if ((v_6.1) != (v_10.1)) = true then some (v_6.1) else if (v_6.1) = true then some (decide ((0 : Int) ≤ v_22)) else some (decide (v_22 ≤ (0 : Int))))))))
noncomputable def iU (F : Md) (r_0 : ((List Nat) × ((List Nat) × Unit))) : Option Bool :=
 if ((r_0.2).1) = (aE ⟨#[]⟩) then mB F r_0 (r_0.1) else mB F r_0 ((r_0.2).1)
def aCj : PlR := ⟨[(0, .B [1]), (1, .A [1, 3]), (2, .A [1, 3, 16]), (3, .A [1, 3]), (4, .A [3, 4, 5, 6, 7]), (5, .A [4, 5, 6, 7, 8, 9, 10, 11]), (6, .A [4, 7, 8, 11, 12]), (7, .A [2]), (8, .A [4, 8, 12, 43]), (9, .A [2]), (10, .A [4, 12, 50]), (11, .A [2]), (12, .A [12, 55]), (13, .A [2])], [(5, 7)]⟩
def aDk : Ty := .pair (.pair .str (.pair .str .unit)) .unit
noncomputable def rG (F : Md) : aG := mSpec aDk (.one .bool) (fun x => iU F x.1)
noncomputable def tO (F : Md) : List (FuncId × aG) := [(122, (lW F)), (203, (tN F)), (94, (eL F))]
theorem aKs (F : Md) : bE Tryz.prog GL (tO F) := .cons (aBN F) (by kernel_rfl) (.cons (aKr F) (by kernel_rfl) (.cons (pD F) (by kernel_rfl) (.nil)))
theorem aEM (F : Md) : gam (tO F) 122 = some (lW F) := rfl
theorem aEN (F : Md) : gam (tO F) 203 = some (tN F) := rfl
theorem aF1 (F : Md) : gam (tO F) 94 = some (eL F) := rfl
attribute [go_sem] aDk aCj aEM aEN aF1
set_option maxHeartbeats 4000000 in
theorem aIC (F : Md) : FOK Tryz.prog GL 138 (rG F) := by
 refine bH (bA (aKs F)) mix Tryz.func138 rfl (by kernel_rfl) (by decide) aCj fun w0 S x Θ hw h hF => ?_
 obtain ⟨(r_0 : ((List Nat) × ((List Nat) × Unit))), u⟩ := x
 simp only [bL, go_sem]
 replace h : sat (iU F r_0) _ := h
 unfold iU at h
 refine dZ hF (D := (List Nat)) (fun d => sat (mB F r_0 d) Θ) [] (fun d => [(1, .ptr 0 []), (3, .val .str d)]) (fun d => [.inr (.box 2 (.val (.pair .str (.pair .str .unit)) r_0))]) ?_ ?_
 ·simp only [go_sem]
  refine dP h (fun hc h => ?_) fun hc h => ?_
  ·exact aV ((r_0.1)) h rfl (by simp only [go_sem])
  ·exact aV (((r_0.2).1)) h rfl (by simp only [go_sem])
 ·rintro hi_2 h
  simp only [go_sem]
  replace h : sat (mB F r_0 hi_2) _ := h
  unfold mB at h
  obtain ⟨v_6, hv, h⟩ := aM h
  try simp only [hv, go_sem]
  obtain ⟨v_10, hv, h⟩ := aM h
  try simp only [hv, go_sem]
  obtain ⟨v_20, hv, h⟩ := aM h
  try simp only [hv, go_sem]
  obtain ⟨v_21, hv, h⟩ := aM h
  try simp only [hv, go_sem]
  obtain ⟨v_22, hv, h⟩ := aM h
  try simp only [hv, go_sem]
  refine ⟨fun hc => ?_, fun hc => ?_⟩
  ·replace h := iR (by first | exact hc | omega | (simpa using hc) | (simp at hc ⊢; omega)) h
   exact aI hF [.tmp 2] rfl rfl rfl (aA h) (by simp only [aT, go_sem])
  ·replace h := iS (by first | exact hc | omega | (simpa using hc) | (simp at hc ⊢; omega)) h
   refine aHp h (fun hc h => ?_) fun hc h => ?_
   ·exact aI hF [.tmp 2] rfl rfl rfl (aA h) (by simp only [aT, go_sem])
   ·refine aHp h (fun hc h => ?_) fun hc h => ?_
    ·exact aI hF [.tmp 2] rfl rfl rfl (aA h) (by simp only [aT, go_sem])
    ·exact aI hF [.tmp 2] rfl rfl rfl (aA h) (by simp only [aT, go_sem])
attribute [go_sem] rG
end Nu
end Go.Proofs
namespace Go.Proofs
open Go.Vc
set_option maxRecDepth 20000
namespace Nu
attribute [-go_sem] Ex.kind Ex.text Ex.l
noncomputable def wV (F : Md) (g : Ex → Int → Int → Int → Option ((Int × Int))) (e_0 : Ex) (at_1 : Int) (x23_10 : Int) (x_11 : Int) (x_12 : Int) : Option ((Int × Int × Int) ⊕ ((Int × Int))) :=
 if x23_10 < ((((e_0.l).length) : Nat) : Int) then ck (0 ≤ x23_10 ∧ x23_10 < ((((e_0.l).length) : Nat) : Int)) (ck (I64 (at_1 + (1 : Int))) (((g ((e_0.l).getD (x23_10.toNat) (Ex.mk 0 [] [])) (at_1 + (1 : Int)) x_11 x_12)).bind (fun r_20 => ck (I64 (x23_10 + (1 : Int))) (some (.inl ((x23_10 + (1 : Int)), (r_20.1), (r_20.2))))))) else some (.inr (x_11, x_12))
noncomputable def pM (F : Md) (g : Ex → Int → Int → Int → Option ((Int × Int))) (e_0 : Ex) (at_1 : Int) (o0_5 : Int) (o1_6 : Int) : Option ((Int × Int)) :=
 ck (I64 (o0_5 + (1 : Int))) (if ((60 : Int) < (o0_5 + (1 : Int))) ∨ ((30 : Int) < at_1) then some ((o0_5 + (1 : Int)), (max o1_6 at_1)) else (dG F (fun d : Int × Int × Int => wV F g e_0 at_1 d.1 d.2.1 d.2.2) ((0 : Int), (o0_5 + (1 : Int)), (max o1_6 at_1))).bind (fun e => some (e.1, e.2)))
noncomputable def pN (g : Ex → Int → Int → Int → Option ((Int × Int))) : nL where
 D := Ex × Int × Int × Int × ((Int × Int))
 av := fun d => [.val .expr d.1, .val (.i .i64) d.2.1, .ptr 0 [], .ptr 1 [], .ptr 2 []]
 hp := fun d => [.box 1 (.val (.i .i64) d.2.2.1), .box 1 (.val (.i .i64) d.2.2.2.1), .box 1 (.fn 197 [] [0, 1, 2])]
 m := 3
 pre := fun d => g d.1 d.2.1 d.2.2.1 d.2.2.2.1 = some d.2.2.2.2
 out := fun d => (fun r : (Int × Int) => .ret (.tup []) [.box 1 (.val (.i .i64) (r.1)), .box 1 (.val (.i .i64) (r.2)), .box 1 (.fn 197 [] [0, 1, 2])]) d.2.2.2.2
attribute [go_sem] pN
noncomputable def aBb (F : Md) (g : Ex → Int → Int → Int → Option ((Int × Int))) : nL where
 D := Ex × Int × Int × Int × ((Int × Int))
 av := fun d => [.val .expr d.1, .val (.i .i64) d.2.1, .ptr 0 [], .ptr 1 [], .ptr 2 []]
 hp := fun d => [.box 1 (.val (.i .i64) d.2.2.1), .box 1 (.val (.i .i64) d.2.2.2.1), .box 1 (.fn 197 [] [0, 1, 2])]
 m := 3
 pre := fun d => pM F g d.1 d.2.1 d.2.2.1 d.2.2.2.1 = some d.2.2.2.2
 out := fun d => (fun r : (Int × Int) => .ret (.tup []) [.box 1 (.val (.i .i64) (r.1)), .box 1 (.val (.i .i64) (r.2)), .box 1 (.fn 197 [] [0, 1, 2])]) d.2.2.2.2
noncomputable def aDl (F : Md) (g : Ex → Int → Int → Int → Option ((Int × Int))) : List (FuncId × aG) := []
theorem aDm (F : Md) (g : Ex → Int → Int → Int → Option ((Int × Int))) (hg : GOK Tryz.prog GL 197 (pN g)) : bE Tryz.prog GL (aDl F g) := .nil
set_option maxHeartbeats 4000000 in
theorem aG0 (F : Md) (g : Ex → Int → Int → Int → Option ((Int × Int))) (hg : GOK Tryz.prog GL 197 (pN g)) : GOK Tryz.prog GL 197 (aBb F g) := by
 refine wB (bA (aDm F g hg)) Tryz.func197 rfl (by kernel_rfl) (fun _ => Nat.le_of_ble_eq_true rfl) fun c0 w0 d hw1 hw2 h hn => ?_
 have hF : jQ ⟨Tryz.prog, EM (aDl F g), GM (aBb F g) c0 d, w0, Tryz.f197.ntmps, []⟩ := ⟨bA (aDm F g hg), mix⟩
 obtain ⟨(e_0 : Ex), (at_1 : Int), (o0_5 : Int), (o1_6 : Int), r⟩ := d
 replace h : pM F g e_0 at_1 o0_5 o1_6 = some r := h
 have hw1 : AV.wfL [.val .expr e_0, .val (.i .i64) at_1, .ptr 0 [], .ptr 1 [], .ptr 2 []] := hw1
 simp only [AV.wfL, AV.wfV, Ty.wf, mM] at hw1
 show Tri _ _ _ [(0, .val .expr e_0), (1, .val (.i .i64) at_1), (2, .ptr 0 []), (3, .ptr 1 []), (4, .ptr 2 [])] [.box 1 (.val (.i .i64) o0_5), .box 1 (.val (.i .i64) o1_6), .box 1 (.fn 197 [] [0, 1, 2])]
 unfold pM at h
 refine aB (aZ hF [1, 2, 3, 4, 5] ?_)
 simp only [go_sem]
 refine aC (aB (aZ hF [1, 2, 3, 4, 5] ?_))
 simp only [go_sem]
 obtain ⟨g0, h⟩ := aH h
 try simp only [I64, I32] at g0
 repeat (refine ⟨by first | with_reducible assumption | omega | (intros; first | with_reducible assumption | omega) | (simp only [go_sem] at *; first | with_reducible assumption | omega) | decide, ?_⟩)
 refine aC (aB (aZ hF [1, 2, 4, 5] ?_))
 simp only [go_sem]
 refine aC (aB (aB (aD hF [1, 4, 5, 19] ?_)))
 simp only [go_sem]
 refine aC (cB rfl (fun hc => ?_) (fun hc => ?_))
 ·try simp only [go_sem] at hc
  have h := hD (by first | exact hc | omega | (simpa using hc) | (simp at hc ⊢; omega)) h
  obtain rfl := Option.some.inj h
  refine cV (dC (nA [0, 1, 2] rfl rfl ?_))
  simp only [ren, iY, oM, posOf, gM, go_sem]
  refine aBG hF [] rfl rfl rfl rfl rfl rfl ?_
  (try simp only [aT, aDJ, aC3, gD, oR, AV.isAgg, go_sem]) <;> first | trivial | rfl | (simp; done)
 ·try simp only [go_sem] at hc
  have h := hN (by first | exact hc | omega | (simpa using hc) | (simp at hc ⊢; omega)) h
  refine cP (aC (aB (aD hF [1, 4, 21, 22, 23] ?_)))
  simp only [go_sem]
  refine aC (dU (aDG [0, 1, 2] rfl rfl ?_))
  simp only [ren, iY, oM, posOf, gM, go_sem]
  refine nV (D := Int × Int × Int) [1, 21, 22] (fun d => [(4, .ptr 2 []), (23, .val (.i .i64) d.1)]) (fun d => [.inr (.box 1 (.val (.i .i64) d.2.1)), .inr (.box 1 (.val (.i .i64) d.2.2)), .inr (.box 1 (.fn 197 [] [0, 1, 2]))]) h ?_ ?_ ?_
  ·first | rfl | (simp only [go_sem]; done)
  ·(try simp only [jN, gD, true_or, and_self, go_sem]) <;> (repeat' apply And.intro) <;> first | rfl | (left; rfl) | (right; rfl) | (left; simp only [go_sem]; done) | (right; simp only [go_sem]; done) | (simp; done) | (simp only [*]; done) | omega
  rintro ⟨x23_10, x_11, x_12⟩ s5 h hs5
  simp only [go_sem]
  try dsimp only at h
  unfold wV at h
  refine aB (aD hF [1, 4, 21, 22, 23, 24] ?_)
  simp only [go_sem]
  refine aC (aB (cB rfl (fun hc => ?_) (fun hc => ?_)))
  ·try simp only [go_sem] at hc
   have h := hD (by first | exact hc | omega | (simpa using hc) | (simp at hc ⊢; omega)) h
   refine cP (aC (aB (dU (aB (aZ hF [1, 4, 8, 21, 22, 23] ?_)))))
   simp only [go_sem]
   obtain ⟨g0, h⟩ := aH h
   repeat (refine ⟨by first | with_reducible assumption | omega | (intros; first | with_reducible assumption | omega) | (simp only [go_sem] at *; first | with_reducible assumption | omega) | decide, ?_⟩)
   obtain ⟨g0, h⟩ := aH h
   try simp only [I64, I32] at g0
   obtain ⟨r_20, he1, h⟩ := bind_some h
   try dsimp only at h
   refine aC (bU hF (dW (l := [(197, ⟨(pN g), [0, 1, 2], (((e_0.l).getD (x23_10.toNat) (Ex.mk 0 [] [])), (at_1 + (1 : Int)), x_11, x_12, r_20)⟩)]) (.cons hg (by kernel_rfl) (.nil))) [1, 4, 21, 22, 23] [] ?_)
   simp only [go_sem]
   repeat (refine ⟨by first | with_reducible assumption | omega | (intros; first | with_reducible assumption | omega) | (simp only [go_sem] at *; first | with_reducible assumption | omega) | decide | ((repeat' apply And.intro) <;> first | assumption | rfl | omega) | fail, ?_⟩)
   refine fH (aC (aD hF [1, 4, 21, 22, 23] ?_))
   simp only [go_sem]
   obtain ⟨g0, h⟩ := aH h
   try simp only [I64, I32] at g0
   repeat (refine ⟨by first | with_reducible assumption | omega | (intros; first | with_reducible assumption | omega) | (simp only [go_sem] at *; first | with_reducible assumption | omega) | decide, ?_⟩)
   obtain rfl := Option.some.inj h
   dsimp only [mW] at hs5
   refine bF (nA [0, 1, 2] rfl rfl ?_)
   simp only [ren, iY, oM, posOf, gM, go_sem]
   refine aV (((x23_10 + (1 : Int)), (r_20.1), (r_20.2))) hs5 rfl ?_
   ·(try simp only [jN, gD, true_or, and_self, go_sem]) <;> (repeat' apply And.intro) <;> first | rfl | (left; rfl) | (right; rfl) | (left; simp only [go_sem]; done) | (right; simp only [go_sem]; done) | (simp; done) | (simp only [*]; done) | omega
  ·try simp only [go_sem] at hc
   have h := hN (by first | exact hc | omega | (simpa using hc) | (simp at hc ⊢; omega)) h
   obtain rfl := Option.some.inj h
   dsimp only [mW] at hs5
   have h := hs5
   try dsimp only at h
   obtain rfl := Option.some.inj h
   refine nK (cL (cL (eE (aIX (aBG hF [] rfl rfl rfl rfl rfl rfl ?_)))))
   (try simp only [aT, aDJ, aC3, gD, oR, AV.isAgg, go_sem]) <;> first | trivial | rfl | (simp; done)
noncomputable def zJ (F : Md) : Nat → Ex → Int → Int → Int → Option ((Int × Int))
 | 0 => fun _ _ _ _ => none
 | n + 1 => pM F (zJ F n)
noncomputable def wO (F : Md) (n : Nat) : nL where
 D := Ex × Int × Int × Int × ((Int × Int))
 av := fun d => [.val .expr d.1, .val (.i .i64) d.2.1, .ptr 0 [], .ptr 1 [], .ptr 2 []]
 hp := fun d => [.box 1 (.val (.i .i64) d.2.2.1), .box 1 (.val (.i .i64) d.2.2.2.1), .box 1 (.fn 197 [] [0, 1, 2])]
 m := 3
 pre := fun d => zJ F n d.1 d.2.1 d.2.2.1 d.2.2.2.1 = some d.2.2.2.2
 out := fun d => (fun r : (Int × Int) => .ret (.tup []) [.box 1 (.val (.i .i64) (r.1)), .box 1 (.val (.i .i64) (r.2)), .box 1 (.fn 197 [] [0, 1, 2])]) d.2.2.2.2
theorem aCk (F : Md) : ∀ n, GOK Tryz.prog GL 197 (wO F n)
 | 0 => fun _ _ _ _ hp _ => absurd (show none = some _ from hp) (by simp)
 | n + 1 => aG0 F _ (aCk F n)
attribute [go_sem] wO
noncomputable def xT (F : Md) (e_0 : Ex) : Option (Int × (Int × Unit)) :=
 ((zJ F 64 e_0 (1 : Int) (0 : Int) (0 : Int))).bind (fun r_3 => some ((r_3.1), (r_3.2), ()))
def xU : Ty := .pair .expr .unit
attribute [go_sem] xU
noncomputable def vM (F : Md) : aG := mSpec xU (.tup (.pair (.i .i64) (.pair (.i .i64) .unit))) (fun x => xT F x.1)
noncomputable def aF2 (F : Md) : List (FuncId × aG) := []
theorem aF3 (F : Md) : bE Tryz.prog GL (aF2 F) := .nil
set_option maxHeartbeats 4000000 in
theorem aK0 (F : Md) : FOK Tryz.prog GL 126 (vM F) := by
 refine lR (bA (aF3 F)) Tryz.func126 rfl (by kernel_rfl) (by decide) fun w0 S x r hw h => ?_
 have hF : jQ (fr Tryz.prog (EM (aF2 F)) S w0 Tryz.f126.ntmps) := ⟨bA (aF3 F), mix⟩
 obtain ⟨(e_0 : Ex), u⟩ := x
 simp only [xU, Ty.wf, mM] at hw
 simp only [bL, xU]
 try dsimp only at h
 replace h : xT F e_0 = some r := h
 unfold xT at h
 refine aB (aZ hF [1, 2, 3] ?_)
 simp only [go_sem]
 refine aC (aB (aZ hF [1, 2, 3, 4] ?_))
 simp only [go_sem]
 refine aC (aB (aZ hF [1, 2, 3, 4] ?_))
 simp only [go_sem]
 obtain ⟨r_3, he1, h⟩ := bind_some h
 try dsimp only at h
 refine aC (aB (bU hF (dW (l := [(197, ⟨(wO F 64), [1, 2, 3], (e_0, (1 : Int), (0 : Int), (0 : Int), r_3)⟩)]) (.cons (aCk F 64) (by kernel_rfl) (.nil))) [2, 3] [] ?_))
 simp only [go_sem]
 repeat (refine ⟨by first | with_reducible assumption | omega | (intros; first | with_reducible assumption | omega) | (simp only [go_sem] at *; first | with_reducible assumption | omega) | decide | ((repeat' apply And.intro) <;> first | assumption | rfl | omega) | fail, ?_⟩)
 refine aC (aB (aHo hF [2, 3] [(2, .ptr 1 []), (3, .ptr 2 [])] [.box 3 (.val .expr e_0), .box 1 (.val (.i .i64) (r_3.1)), .box 1 (.val (.i .i64) (r_3.2)), .box 1 (.fn 197 [] [1, 2, 3])] (by decide) ?_ ?_))
 ·simp only [go_sem]
  unfold anyS
  intro i hi
  have hi : i = 0 ∨ i = 1 := by revert hi; revert i; decide
  rcases hi with rfl | rfl
  ·simp only [go_sem]
   repeat (refine ⟨by first | with_reducible assumption | omega | (intros; first | with_reducible assumption | omega) | (simp only [go_sem] at *; first | with_reducible assumption | omega) | decide, ?_⟩)
   unfold anyS
   intro i hi
   have hi : i = 1 ∨ i = 2 := by revert hi; revert i; decide
   rcases hi with rfl | rfl
   ·simp only [go_sem]
    repeat (refine ⟨by first | with_reducible assumption | omega | (intros; first | with_reducible assumption | omega) | (simp only [go_sem] at *; first | with_reducible assumption | omega) | decide, ?_⟩)
    unfold anyS
    intro i hi
    have hi : i = 2 := by revert hi; revert i; decide
    subst hi
    simp only [go_sem]
    repeat (refine ⟨by first | with_reducible assumption | omega | (intros; first | with_reducible assumption | omega) | (simp only [go_sem] at *; first | with_reducible assumption | omega) | decide, ?_⟩)
    unfold anyS
    intro i hi
    have hi : i = 3 := by revert hi; revert i; decide
    subst hi
    simp only [go_sem]
    repeat (refine ⟨by first | with_reducible assumption | omega | (intros; first | with_reducible assumption | omega) | (simp only [go_sem] at *; first | with_reducible assumption | omega) | decide, ?_⟩)
    (simp only [anyS, go_sem]) <;> first | exact ⟨rfl, rfl⟩ | trivial
   ·simp only [go_sem]
    repeat (refine ⟨by first | with_reducible assumption | omega | (intros; first | with_reducible assumption | omega) | (simp only [go_sem] at *; first | with_reducible assumption | omega) | decide, ?_⟩)
    unfold anyS
    intro i hi
    have hi : i = 1 := by revert hi; revert i; decide
    subst hi
    simp only [go_sem]
    repeat (refine ⟨by first | with_reducible assumption | omega | (intros; first | with_reducible assumption | omega) | (simp only [go_sem] at *; first | with_reducible assumption | omega) | decide, ?_⟩)
    unfold anyS
    intro i hi
    have hi : i = 3 := by revert hi; revert i; decide
    subst hi
    simp only [go_sem]
    repeat (refine ⟨by first | with_reducible assumption | omega | (intros; first | with_reducible assumption | omega) | (simp only [go_sem] at *; first | with_reducible assumption | omega) | decide, ?_⟩)
    (simp only [anyS, go_sem]) <;> first | exact ⟨rfl, rfl⟩ | trivial
  ·simp only [go_sem]
   repeat (refine ⟨by first | with_reducible assumption | omega | (intros; first | with_reducible assumption | omega) | (simp only [go_sem] at *; first | with_reducible assumption | omega) | decide, ?_⟩)
   unfold anyS
   intro i hi
   have hi : i = 0 := by revert hi; revert i; decide
   subst hi
   simp only [go_sem]
   repeat (refine ⟨by first | with_reducible assumption | omega | (intros; first | with_reducible assumption | omega) | (simp only [go_sem] at *; first | with_reducible assumption | omega) | decide, ?_⟩)
   unfold anyS
   intro i hi
   have hi : i = 2 := by revert hi; revert i; decide
   subst hi
   simp only [go_sem]
   repeat (refine ⟨by first | with_reducible assumption | omega | (intros; first | with_reducible assumption | omega) | (simp only [go_sem] at *; first | with_reducible assumption | omega) | decide, ?_⟩)
   unfold anyS
   intro i hi
   have hi : i = 3 := by revert hi; revert i; decide
   subst hi
   simp only [go_sem]
   repeat (refine ⟨by first | with_reducible assumption | omega | (intros; first | with_reducible assumption | omega) | (simp only [go_sem] at *; first | with_reducible assumption | omega) | decide, ?_⟩)
   (simp only [anyS, go_sem]) <;> first | exact ⟨rfl, rfl⟩ | trivial
 obtain rfl := Option.some.inj h
 refine aC (cV (eZ hF [.cell 2 3, .cell 3 3] rfl rfl rfl ?_))
 (try simp only [gZ, aT, go_sem]) <;> first | rfl | (simp; done)
attribute [go_sem] vM
noncomputable def aAo (F : Md) (e_0 : Ex) : Option Bool :=
 (xT F e_0).bind (fun v_5 => some ((decide ((v_5.1) ≤ (60 : Int))) && (decide (((v_5.2).1) ≤ (30 : Int)))))
def aF4 : PlR := ⟨[(0, .B [1]), (1, .A [3, 4]), (2, .A [2])], []⟩
def aHW : Ty := .pair .expr .unit
noncomputable def xV (F : Md) : aG := mSpec aHW (.one .bool) (fun x => aAo F x.1)
noncomputable def aHX (F : Md) : List (FuncId × aG) := [(126, (vM F))]
theorem aNo (F : Md) : bE Tryz.prog GL (aHX F) := .cons (aK0 F) (by kernel_rfl) (.nil)
theorem aID (F : Md) : gam (aHX F) 126 = some (vM F) := rfl
attribute [go_sem] aHW aF4 aID
set_option maxHeartbeats 4000000 in
theorem aMl (F : Md) : FOK Tryz.prog GL 63 (xV F) := by
 refine bH (bA (aNo F)) mix Tryz.func63 rfl (by kernel_rfl) (by decide) aF4 fun w0 S x Θ hw h hF => ?_
 obtain ⟨(e_0 : Ex), u⟩ := x
 simp only [bL, go_sem]
 replace h : sat (aAo F e_0) _ := h
 unfold aAo at h
 obtain ⟨v_5, hv, h⟩ := aM h
 try simp only [hv, go_sem]
 exact aI hF [.tmp 2] rfl rfl rfl (aA h) (by simp only [aT, go_sem])
attribute [go_sem] xV
noncomputable def lS (F : Md) (x12_7 : Bool) : Option (Int) :=
 if x12_7 = true then some (1 : Int) else some (-1 : Int)
noncomputable def lT (F : Md) (kind_0 : Int) (x7_6 : Bool) : Option (Int) :=
 if x7_6 = true then some (2 : Int) else if kind_0 = (10 : Int) then lS F (decide (kind_0 = (10 : Int))) else if kind_0 = (11 : Int) then lS F (decide (kind_0 = (11 : Int))) else if kind_0 = (12 : Int) then lS F (decide (kind_0 = (12 : Int))) else lS F (decide (kind_0 = (13 : Int)))
noncomputable def rH (F : Md) (kind_0 : Int) (x4_5 : Bool) : Option (Int) :=
 if x4_5 = true then some (0 : Int) else if kind_0 = (6 : Int) then lT F kind_0 (decide (kind_0 = (6 : Int))) else if kind_0 = (7 : Int) then lT F kind_0 (decide (kind_0 = (7 : Int))) else if kind_0 = (8 : Int) then lT F kind_0 (decide (kind_0 = (8 : Int))) else lT F kind_0 (decide (kind_0 = (9 : Int)))
noncomputable def tP (F : Md) (kind_0 : Int) : Option Int :=
 if kind_0 = (1 : Int) then rH F kind_0 (decide (kind_0 = (1 : Int))) else rH F kind_0 (decide (kind_0 = (2 : Int)))
def xW : Ty := .pair (.i .i64) .unit
attribute [go_sem] xW
noncomputable def vN (F : Md) : aG := mSpec xW (.one (.i .i64)) (fun x => tP F x.1)
noncomputable def aF5 (F : Md) : List (FuncId × aG) := []
theorem aF6 (F : Md) : bE Tryz.prog GL (aF5 F) := .nil
set_option maxHeartbeats 4000000 in
theorem aK1 (F : Md) : FOK Tryz.prog GL 127 (vN F) := by
 refine lR (bA (aF6 F)) Tryz.func127 rfl (by kernel_rfl) (by decide) fun w0 S x r hw h => ?_
 have hF : jQ (fr Tryz.prog (EM (aF5 F)) S w0 Tryz.f127.ntmps) := ⟨bA (aF6 F), mix⟩
 obtain ⟨(kind_0 : Int), u⟩ := x
 simp only [xW, Ty.wf, mM] at hw
 simp only [bL, xW]
 try dsimp only at h
 replace h : tP F kind_0 = some r := h
 unfold tP at h
 refine aB (aD hF [0] ?_)
 simp only [go_sem]
 refine aC (aB (aB (aD hF [3] ?_)))
 simp only [go_sem]
 refine aC (dU (lQ (D := Bool) (fun d => rH F kind_0 d = some r) [3] (fun d => [(4, .val .bool d)]) (fun d => []) ?_ ?_))
 ·refine aB (aD hF [3, 4] ?_)
  simp only [go_sem]
  refine aC (cB rfl (fun hc => ?_) (fun hc => ?_))
  ·try simp only [go_sem] at hc
   have h := hD (by first | exact hc | omega | (simpa using hc) | (simp at hc ⊢; omega)) h
   refine cP (bF (aV ((decide (kind_0 = (1 : Int)))) h rfl ?_))
   ·(try simp only [jN, gD, true_or, and_self, go_sem]) <;> (repeat' apply And.intro) <;> first | rfl | (left; rfl) | (right; rfl) | (left; simp only [go_sem]; done) | (right; simp only [go_sem]; done) | (simp; done) | (simp only [*]; done) | omega
  ·try simp only [go_sem] at hc
   have h := hN (by first | exact hc | omega | (simpa using hc) | (simp at hc ⊢; omega)) h
   refine aD hF [3, 4] ?_
   simp only [go_sem]
   refine bF (aV ((decide (kind_0 = (2 : Int)))) h rfl ?_)
   ·(try simp only [jN, gD, true_or, and_self, go_sem]) <;> (repeat' apply And.intro) <;> first | rfl | (left; rfl) | (right; rfl) | (left; simp only [go_sem]; done) | (right; simp only [go_sem]; done) | (simp; done) | (simp only [*]; done) | omega
 ·rintro x4_5 h
  try dsimp only at h
  simp only [go_sem]
  unfold rH at h
  refine cB rfl (fun hc => ?_) (fun hc => ?_)
  ·try simp only [go_sem] at hc
   have h := hD (by first | exact hc | omega | (simpa using hc) | (simp at hc ⊢; omega)) h
   refine aB (aD hF [2] ?_)
   simp only [go_sem]
   obtain rfl := Option.some.inj h
   refine aC (cV (jX (dC (eZ hF [.tmp 2] rfl rfl rfl ?_))))
   (try simp only [gZ, aT, go_sem]) <;> first | rfl | (simp; done)
  ·try simp only [go_sem] at hc
   have h := hN (by first | exact hc | omega | (simpa using hc) | (simp at hc ⊢; omega)) h
   refine lQ (D := Bool) (fun d => lT F kind_0 d = some r) [3] (fun d => [(7, .val .bool d)]) (fun d => []) ?_ ?_
   ·refine aB (aD hF [3, 7] ?_)
    simp only [go_sem]
    refine aC (cB rfl (fun hc => ?_) (fun hc => ?_))
    ·try simp only [go_sem] at hc
     have h := hD (by first | exact hc | omega | (simpa using hc) | (simp at hc ⊢; omega)) h
     refine cP (bF (aV ((decide (kind_0 = (6 : Int)))) h rfl ?_))
     ·(try simp only [jN, gD, true_or, and_self, go_sem]) <;> (repeat' apply And.intro) <;> first | rfl | (left; rfl) | (right; rfl) | (left; simp only [go_sem]; done) | (right; simp only [go_sem]; done) | (simp; done) | (simp only [*]; done) | omega
    ·try simp only [go_sem] at hc
     have h := hN (by first | exact hc | omega | (simpa using hc) | (simp at hc ⊢; omega)) h
     refine aB (aD hF [3, 7] ?_)
     simp only [go_sem]
     refine aC (cB rfl (fun hc => ?_) (fun hc => ?_))
     ·try simp only [go_sem] at hc
      have h := hD (by first | exact hc | omega | (simpa using hc) | (simp at hc ⊢; omega)) h
      refine cP (bF (aV ((decide (kind_0 = (7 : Int)))) h rfl ?_))
      ·(try simp only [jN, gD, true_or, and_self, go_sem]) <;> (repeat' apply And.intro) <;> first | rfl | (left; rfl) | (right; rfl) | (left; simp only [go_sem]; done) | (right; simp only [go_sem]; done) | (simp; done) | (simp only [*]; done) | omega
     ·try simp only [go_sem] at hc
      have h := hN (by first | exact hc | omega | (simpa using hc) | (simp at hc ⊢; omega)) h
      refine aB (aD hF [3, 7] ?_)
      simp only [go_sem]
      refine aC (cB rfl (fun hc => ?_) (fun hc => ?_))
      ·try simp only [go_sem] at hc
       have h := hD (by first | exact hc | omega | (simpa using hc) | (simp at hc ⊢; omega)) h
       refine cP (bF (aV ((decide (kind_0 = (8 : Int)))) h rfl ?_))
       ·(try simp only [jN, gD, true_or, and_self, go_sem]) <;> (repeat' apply And.intro) <;> first | rfl | (left; rfl) | (right; rfl) | (left; simp only [go_sem]; done) | (right; simp only [go_sem]; done) | (simp; done) | (simp only [*]; done) | omega
      ·try simp only [go_sem] at hc
       have h := hN (by first | exact hc | omega | (simpa using hc) | (simp at hc ⊢; omega)) h
       refine aD hF [3, 7] ?_
       simp only [go_sem]
       refine bF (aV ((decide (kind_0 = (9 : Int)))) h rfl ?_)
       ·(try simp only [jN, gD, true_or, and_self, go_sem]) <;> (repeat' apply And.intro) <;> first | rfl | (left; rfl) | (right; rfl) | (left; simp only [go_sem]; done) | (right; simp only [go_sem]; done) | (simp; done) | (simp only [*]; done) | omega
   ·rintro x7_6 h
    try dsimp only at h
    simp only [go_sem]
    unfold lT at h
    refine cB rfl (fun hc => ?_) (fun hc => ?_)
    ·try simp only [go_sem] at hc
     have h := hD (by first | exact hc | omega | (simpa using hc) | (simp at hc ⊢; omega)) h
     refine aB (aD hF [2] ?_)
     simp only [go_sem]
     obtain rfl := Option.some.inj h
     refine aC (cV (jX (dC (eZ hF [.tmp 2] rfl rfl rfl ?_))))
     (try simp only [gZ, aT, go_sem]) <;> first | rfl | (simp; done)
    ·try simp only [go_sem] at hc
     have h := hN (by first | exact hc | omega | (simpa using hc) | (simp at hc ⊢; omega)) h
     refine lQ (D := Bool) (fun d => lS F d = some r) [] (fun d => [(12, .val .bool d)]) (fun d => []) ?_ ?_
     ·refine aB (aD hF [3, 12] ?_)
      simp only [go_sem]
      refine aC (cB rfl (fun hc => ?_) (fun hc => ?_))
      ·try simp only [go_sem] at hc
       have h := hD (by first | exact hc | omega | (simpa using hc) | (simp at hc ⊢; omega)) h
       refine cP (bF (aV ((decide (kind_0 = (10 : Int)))) h rfl ?_))
       ·(try simp only [jN, gD, true_or, and_self, go_sem]) <;> (repeat' apply And.intro) <;> first | rfl | (left; rfl) | (right; rfl) | (left; simp only [go_sem]; done) | (right; simp only [go_sem]; done) | (simp; done) | (simp only [*]; done) | omega
      ·try simp only [go_sem] at hc
       have h := hN (by first | exact hc | omega | (simpa using hc) | (simp at hc ⊢; omega)) h
       refine aB (aD hF [3, 12] ?_)
       simp only [go_sem]
       refine aC (cB rfl (fun hc => ?_) (fun hc => ?_))
       ·try simp only [go_sem] at hc
        have h := hD (by first | exact hc | omega | (simpa using hc) | (simp at hc ⊢; omega)) h
        refine cP (bF (aV ((decide (kind_0 = (11 : Int)))) h rfl ?_))
        ·(try simp only [jN, gD, true_or, and_self, go_sem]) <;> (repeat' apply And.intro) <;> first | rfl | (left; rfl) | (right; rfl) | (left; simp only [go_sem]; done) | (right; simp only [go_sem]; done) | (simp; done) | (simp only [*]; done) | omega
       ·try simp only [go_sem] at hc
        have h := hN (by first | exact hc | omega | (simpa using hc) | (simp at hc ⊢; omega)) h
        refine aB (aD hF [3, 12] ?_)
        simp only [go_sem]
        refine aC (cB rfl (fun hc => ?_) (fun hc => ?_))
        ·try simp only [go_sem] at hc
         have h := hD (by first | exact hc | omega | (simpa using hc) | (simp at hc ⊢; omega)) h
         refine cP (bF (aV ((decide (kind_0 = (12 : Int)))) h rfl ?_))
         ·(try simp only [jN, gD, true_or, and_self, go_sem]) <;> (repeat' apply And.intro) <;> first | rfl | (left; rfl) | (right; rfl) | (left; simp only [go_sem]; done) | (right; simp only [go_sem]; done) | (simp; done) | (simp only [*]; done) | omega
        ·try simp only [go_sem] at hc
         have h := hN (by first | exact hc | omega | (simpa using hc) | (simp at hc ⊢; omega)) h
         refine aD hF [12] ?_
         simp only [go_sem]
         refine bF (aV ((decide (kind_0 = (13 : Int)))) h rfl ?_)
         ·(try simp only [jN, gD, true_or, and_self, go_sem]) <;> (repeat' apply And.intro) <;> first | rfl | (left; rfl) | (right; rfl) | (left; simp only [go_sem]; done) | (right; simp only [go_sem]; done) | (simp; done) | (simp only [*]; done) | omega
     ·rintro x12_7 h
      try dsimp only at h
      simp only [go_sem]
      unfold lS at h
      refine cB rfl (fun hc => ?_) (fun hc => ?_)
      ·try simp only [go_sem] at hc
       have h := hD (by first | exact hc | omega | (simpa using hc) | (simp at hc ⊢; omega)) h
       refine aB (aD hF [2] ?_)
       simp only [go_sem]
       obtain rfl := Option.some.inj h
       refine aC (cV (jX (dC (eZ hF [.tmp 2] rfl rfl rfl ?_))))
       (try simp only [gZ, aT, go_sem]) <;> first | rfl | (simp; done)
      ·try simp only [go_sem] at hc
       have h := hN (by first | exact hc | omega | (simpa using hc) | (simp at hc ⊢; omega)) h
       refine cP (fH (aC (aB (aD hF [2] ?_))))
       simp only [go_sem]
       obtain rfl := Option.some.inj h
       refine aC (cV (eZ hF [.tmp 2] rfl rfl rfl ?_))
       (try simp only [gZ, aT, go_sem]) <;> first | rfl | (simp; done)
attribute [go_sem] vN
def pO : Ty := .pair .expr (.pair (.sl .str) .unit)
attribute [go_sem] pO
noncomputable def fX (g : Ex → (List (List Nat)) → Option (Bool)) : aG := mSpec pO (.one .bool) (fun x => g x.1 x.2.1)
attribute [go_sem] fX
noncomputable def tQ (F : Md) (g : Ex → (List (List Nat)) → Option (Bool)) (x_0 : Ex) (a1_1 : (List (List Nat))) : Option Bool :=
 (g x_0 a1_1).bind (fun v_6 => some (!v_6))
def aCl : PlR := ⟨[(0, .B [1, 2]), (1, .A [3])], []⟩
def aDn : Ty := .pair .expr (.pair (.rp (.sl .str)) .unit)
noncomputable def rI (F : Md) (g : Ex → (List (List Nat)) → Option (Bool)) : aG := mSpec aDn (.one .bool) (fun x => tQ F g x.1 x.2.1)
noncomputable def aDo (F : Md) (g : Ex → (List (List Nat)) → Option (Bool)) : List (FuncId × aG) := [(64, (fX g))]
theorem aKt (F : Md) (g : Ex → (List (List Nat)) → Option (Bool)) (hg : FOK Tryz.prog GL 64 (fX g)) : bE Tryz.prog GL (aDo F g) := .cons hg (by kernel_rfl) (.nil)
theorem aF7 (F : Md) (g : Ex → (List (List Nat)) → Option (Bool)) : gam (aDo F g) 64 = some (fX g) := rfl
attribute [go_sem] aDn aCl aF7
set_option maxHeartbeats 4000000 in
theorem aIE (F : Md) (g : Ex → (List (List Nat)) → Option (Bool)) (hg : FOK Tryz.prog GL 64 (fX g)) : FOK Tryz.prog GL 130 (rI F g) := by
 refine bH (bA (aKt F g hg)) mix Tryz.func130 rfl (by kernel_rfl) (by decide) aCl fun w0 S x Θ hw h hF => ?_
 obtain ⟨(x_0 : Ex), (a1_1 : (List (List Nat))), u⟩ := x
 simp only [bL, go_sem]
 replace h : sat (tQ F g x_0 a1_1) _ := h
 unfold tQ at h
 obtain ⟨v_6, hv, h⟩ := aM h
 try simp only [hv, go_sem]
 exact aI hF [.tmp 3] rfl rfl rfl (aA h) (by simp only [aT, go_sem])
attribute [go_sem] rI
noncomputable def cZ (F : Md) (g : Ex → (List (List Nat)) → Option (Bool)) (s_0 : (List Ex)) (f_1 : ((List (List Nat)) × Unit)) (x8_14 : Int) : Option ((Int) ⊕ ((Unit) ⊕ Int)) :=
 if x8_14 < (((s_0.length) : Nat) : Int) then ck (0 ≤ x8_14 ∧ x8_14 < (((s_0.length) : Nat) : Int)) ((tQ F g (s_0.getD (x8_14.toNat) (Ex.mk 0 [] [])) (f_1.1)).bind (fun v_27 => if v_27 = true then some (.inr (.inr x8_14)) else ck (I64 (x8_14 + (1 : Int))) (some (.inl (x8_14 + (1 : Int)))))) else some (.inr (.inl ()))
noncomputable def cH (F : Md) (g : Ex → (List (List Nat)) → Option (Bool)) (s_0 : (List Ex)) (f_1 : ((List (List Nat)) × Unit)) : Option Int :=
 (dG F (fun d : Int => cZ F g s_0 f_1 d) (0 : Int)).bind (fun e => match e with | (.inl e) => some (-1 : Int) | (.inr e) => some e)
def fC : PlR := ⟨[(0, .A [0, 1]), (1, .A [0, 1, 7, 8]), (2, .A [0, 1, 7, 8, 9]), (3, .A [0, 1, 5, 7, 8]), (4, .A [0, 1, 5, 7, 8, 16]), (5, .A [4]), (6, .A [0, 1, 7, 8]), (7, .A [4])], []⟩
def fK : Ty := .pair (.sl .expr) (.pair (.clo 130 (.pair (.rp (.sl .str)) .unit)) .unit)
noncomputable def cE (F : Md) (g : Ex → (List (List Nat)) → Option (Bool)) : aG := mSpec fK (.one (.i .i64)) (fun x => cH F g x.1 x.2.1)
noncomputable def fL (F : Md) (g : Ex → (List (List Nat)) → Option (Bool)) : List (FuncId × aG) := [(130, (rI F g))]
theorem lI (F : Md) (g : Ex → (List (List Nat)) → Option (Bool)) (hg : FOK Tryz.prog GL 64 (fX g)) : bE Tryz.prog GL (fL F g) := .cons (aIE F g hg) (by kernel_rfl) (.nil)
theorem jR (F : Md) (g : Ex → (List (List Nat)) → Option (Bool)) : gam (fL F g) 130 = some (rI F g) := rfl
attribute [go_sem] fK fC jR
set_option maxHeartbeats 4000000 in
theorem kY (F : Md) (g : Ex → (List (List Nat)) → Option (Bool)) (hg : FOK Tryz.prog GL 64 (fX g)) : FOK Tryz.prog GL 198 (cE F g) := by
 refine bH (bA (lI F g hg)) mix Tryz.func198 rfl (by kernel_rfl) (by decide) fC fun w0 S x Θ hw h hF => ?_
 obtain ⟨(s_0 : (List Ex)), (f_1 : ((List (List Nat)) × Unit)), u⟩ := x
 simp only [bL, go_sem]
 replace h : sat (cH F g s_0 f_1) _ := h
 unfold cH at h
 refine bS hF (D := Int) [0, 1, 7] (fun d => [(8, .val (.i .i64) d)]) (fun d => []) h rfl (by simp only [go_sem]) ?_
 rintro x8_14 A2 T2 hA2 hE2 h
 simp only [go_sem]
 replace h : sat (cZ F g s_0 f_1 x8_14) _ := h
 unfold cZ at h
 refine eC h (fun hc h => ?_) fun hc h => ?_
 ·refine aS h fun g0 h => ?_
  obtain ⟨v_27, hv, h⟩ := aM h
  try simp only [hv, go_sem]
  refine aHp h (fun hc h => ?_) fun hc h => ?_
  ·replace h := hE2 _ (aA h)
   try dsimp only at h
   exact aI hF [.tmp 4] rfl rfl rfl (aA h) (by simp only [aT, go_sem])
  ·refine aS h fun g0 h => ?_
   replace h := hA2 _ (aA h)
   exact aV _ h rfl (by simp only [go_sem])
 ·replace h := hE2 _ (aA h)
  try dsimp only at h
  exact aI hF [.tmp 4] rfl rfl rfl (aA h) (by simp only [aT, go_sem])
attribute [go_sem] cE
noncomputable def bN (F : Md) (g : Ex → (List (List Nat)) → Option (Bool)) (s_0 : (List Ex)) (f_1 : ((List (List Nat)) × Unit)) : Option Bool :=
 (cH F g s_0 f_1).bind (fun v_6 => some (decide ((0 : Int) ≤ v_6)))
def eG : PlR := ⟨[(0, .A [0, 1]), (1, .A [4])], []⟩
def eN : Ty := .pair (.sl .expr) (.pair (.clo 130 (.pair (.rp (.sl .str)) .unit)) .unit)
noncomputable def bY (F : Md) (g : Ex → (List (List Nat)) → Option (Bool)) : aG := mSpec eN (.one .bool) (fun x => bN F g x.1 x.2.1)
noncomputable def eO (F : Md) (g : Ex → (List (List Nat)) → Option (Bool)) : List (FuncId × aG) := [(198, (cE F g))]
theorem kI (F : Md) (g : Ex → (List (List Nat)) → Option (Bool)) (hg : FOK Tryz.prog GL 64 (fX g)) : bE Tryz.prog GL (eO F g) := .cons (kY F g hg) (by kernel_rfl) (.nil)
theorem iV (F : Md) (g : Ex → (List (List Nat)) → Option (Bool)) : gam (eO F g) 198 = some (cE F g) := rfl
attribute [go_sem] eN eG iV
set_option maxHeartbeats 4000000 in
theorem jS (F : Md) (g : Ex → (List (List Nat)) → Option (Bool)) (hg : FOK Tryz.prog GL 64 (fX g)) : FOK Tryz.prog GL 129 (bY F g) := by
 refine bH (bA (kI F g hg)) mix Tryz.func129 rfl (by kernel_rfl) (by decide) eG fun w0 S x Θ hw h hF => ?_
 obtain ⟨(s_0 : (List Ex)), (f_1 : ((List (List Nat)) × Unit)), u⟩ := x
 simp only [bL, go_sem]
 replace h : sat (bN F g s_0 f_1) _ := h
 unfold bN at h
 obtain ⟨v_6, hv, h⟩ := aM h
 try simp only [hv, go_sem]
 exact aI hF [.tmp 4] rfl rfl rfl (aA h) (by simp only [aT, go_sem])
attribute [go_sem] bY
noncomputable def tR (F : Md) (g : Ex → (List (List Nat)) → Option (Bool)) (e_0 : Ex) (names_1 : (List (List Nat))) : Option Bool :=
 ck (((tP F (e_0.kind)).isSome = true)) (if ¬ (((tP F (e_0.kind)).getD (0 : Int)) = ((((e_0.l).length) : Nat) : Int)) then some false else if (e_0.kind) = (1 : Int) then ck (((zI F (e_0.text)).isSome = true)) (some ((zI F (e_0.text)).getD false)) else if (e_0.kind) = (2 : Int) then ck ((¬ ((e_0.text) = (aE ⟨#[116]⟩)) → (((dO F names_1 (e_0.text)).isSome = true)))) (some ((decide ((e_0.text) = (aE ⟨#[116]⟩))) || ((dO F names_1 (e_0.text)).getD false))) else ck ((((e_0.text) = (aE ⟨#[]⟩)) → (((bN F g (e_0.l) (names_1, ())).isSome = true)))) (some ((decide ((e_0.text) = (aE ⟨#[]⟩))) && (!((bN F g (e_0.l) (names_1, ())).getD false)))))
noncomputable def pP (F : Md) (g : Ex → (List (List Nat)) → Option (Bool)) : List (FuncId × aG) := [(129, (bY F g)), (127, (vN F)), (128, (aAl F)), (71, (eA F))]
theorem aF8 (F : Md) (g : Ex → (List (List Nat)) → Option (Bool)) (hg : FOK Tryz.prog GL 64 (fX g)) : bE Tryz.prog GL (pP F g) := .cons (jS F g hg) (by kernel_rfl) (.cons (aK1 F) (by kernel_rfl) (.cons (aNk F) (by kernel_rfl) (.cons (pY F) (by kernel_rfl) (.nil))))
theorem aG1 (F : Md) (g : Ex → (List (List Nat)) → Option (Bool)) : gam (pP F g) 129 = some (bY F g) := rfl
attribute [go_sem] aG1
theorem aG2 (F : Md) (g : Ex → (List (List Nat)) → Option (Bool)) : gam (pP F g) 127 = some (vN F) := rfl
attribute [go_sem] aG2
theorem aG3 (F : Md) (g : Ex → (List (List Nat)) → Option (Bool)) : gam (pP F g) 128 = some (aAl F) := rfl
attribute [go_sem] aG3
theorem aIF (F : Md) (g : Ex → (List (List Nat)) → Option (Bool)) : gam (pP F g) 71 = some (eA F) := rfl
attribute [go_sem] aIF
set_option maxHeartbeats 4000000 in
theorem aKu (F : Md) (g : Ex → (List (List Nat)) → Option (Bool)) (hg : FOK Tryz.prog GL 64 (fX g)) : FOK Tryz.prog GL 64 (mSpec pO (.one .bool) (fun x => tR F g x.1 x.2.1)) := by
 refine lR (bA (aF8 F g hg)) Tryz.func64 rfl (by kernel_rfl) (by decide) fun w0 S x r hw h => ?_
 have hF : jQ (fr Tryz.prog (EM (pP F g)) S w0 Tryz.f64.ntmps) := ⟨bA (aF8 F g hg), mix⟩
 obtain ⟨(e_0 : Ex), (names_1 : (List (List Nat))), u⟩ := x
 simp only [pO, Ty.wf, mM] at hw
 simp only [bL, pO]
 try dsimp only at h
 replace h : tR F g e_0 names_1 = some r := h
 unfold tR at h
 refine aB (aZ hF [2, 3] ?_)
 simp only [go_sem]
 refine aC (aB (aB (aD hF [2, 3, 11] ?_)))
 simp only [go_sem]
 obtain ⟨g0, h⟩ := aH h
 repeat (refine ⟨by first | with_reducible assumption | omega | (intros; first | with_reducible assumption | omega) | (simp only [go_sem] at *; first | with_reducible assumption | omega) | decide, ?_⟩)
 refine aC (cB rfl (fun hc => ?_) (fun hc => ?_))
 ·try simp only [go_sem] at hc
  have h := hD (by first | exact hc | omega | (simpa using hc) | (simp at hc ⊢; omega)) h
  refine aB (aD hF [4] ?_)
  simp only [go_sem]
  obtain rfl := Option.some.inj h
  refine aC (cV (dC (eZ hF [.tmp 4] rfl rfl rfl ?_)))
  (try simp only [gZ, aT, go_sem]) <;> first | rfl | (simp; done)
 ·try simp only [go_sem] at hc
  have h := hN (by first | exact hc | omega | (simpa using hc) | (simp at hc ⊢; omega)) h
  refine cP (aC (aB (aB (aD hF [2, 3, 13] ?_))))
  simp only [go_sem]
  refine aC (dU (aB (aD hF [2, 3, 13, 14] ?_)))
  simp only [go_sem]
  refine aC (cB rfl (fun hc => ?_) (fun hc => ?_))
  ·try simp only [go_sem] at hc
   have h := hD (by first | exact hc | omega | (simpa using hc) | (simp at hc ⊢; omega)) h
   refine aB (aD hF [4] ?_)
   simp only [go_sem]
   obtain ⟨g0, h⟩ := aH h
   repeat (refine ⟨by first | with_reducible assumption | omega | (intros; first | with_reducible assumption | omega) | (simp only [go_sem] at *; first | with_reducible assumption | omega) | decide, ?_⟩)
   obtain rfl := Option.some.inj h
   refine aC (cV (jX (dC (eZ hF [.tmp 4] rfl rfl rfl ?_))))
   (try simp only [gZ, aT, go_sem]) <;> first | rfl | (simp; done)
  ·try simp only [go_sem] at hc
   have h := hN (by first | exact hc | omega | (simpa using hc) | (simp at hc ⊢; omega)) h
   refine aB (aD hF [2, 3, 19] ?_)
   simp only [go_sem]
   refine aC (cB rfl (fun hc => ?_) (fun hc => ?_))
   ·try simp only [go_sem] at hc
    have h := hD (by first | exact hc | omega | (simpa using hc) | (simp at hc ⊢; omega)) h
    refine aB (aD hF [4] ?_)
    simp only [go_sem]
    obtain ⟨g0, h⟩ := aH h
    repeat (refine ⟨by first | with_reducible assumption | omega | (intros; first | with_reducible assumption | omega) | (simp only [go_sem] at *; first | with_reducible assumption | omega) | (intro q0; (try have e0 := g0 (by first | exact q0 | omega | (simpa using q0))); first | assumption | omega) | decide, ?_⟩)
    obtain rfl := Option.some.inj h
    refine aC (cV (jX (dC (eZ hF [.tmp 4] rfl rfl rfl ?_))))
    (try simp only [gZ, aT, go_sem]) <;> first | rfl | (simp; done)
   ·try simp only [go_sem] at hc
    have h := hN (by first | exact hc | omega | (simpa using hc) | (simp at hc ⊢; omega)) h
    refine cP (fH (aC (aB (wA 1 rfl ?_))))
    simp only [go_sem]
    refine aD hF [4] ?_
    simp only [go_sem]
    obtain ⟨g0, h⟩ := aH h
    repeat (refine ⟨by first | with_reducible assumption | omega | (intros; first | with_reducible assumption | omega) | (simp only [go_sem] at *; first | with_reducible assumption | omega) | (intro q0; (try have e0 := g0 (by first | exact q0 | omega | (simpa using q0))); first | assumption | omega) | decide, ?_⟩)
    obtain rfl := Option.some.inj h
    refine aC (cV (eZ hF [.tmp 4] rfl rfl rfl ?_))
    (try simp only [gZ, aT, go_sem]) <;> first | rfl | (simp; done)
noncomputable def xX (F : Md) : Nat → Ex → (List (List Nat)) → Option (Bool)
 | 0 => fun _ _ => none
 | n + 1 => tR F (xX F n)
noncomputable def vO (F : Md) (n : Nat) : aG := mSpec pO (.one .bool) (fun x => xX F n x.1 x.2.1)
theorem aEh (F : Md) : ∀ n, FOK Tryz.prog GL 64 (vO F n)
 | 0 => fun _ _ _ _ _ _ _ hp => Bool.noConfusion (show false = true from hp)
 | n + 1 => aKu F _ (aEh F n)
attribute [go_sem] vO
end Nu
end Go.Proofs
namespace Go.Proofs
open Go.Vc
set_option maxRecDepth 20000
namespace Nu
attribute [-go_sem] Ex.kind Ex.text Ex.l
@[reducible] def aRQ (xs : List (List Nat)) : Prop := xs.length * 16 ≤ 140737488355328
def oE : Ty := .pair (.sl .str) .unit
noncomputable def gT : aG := ⟨oE, .own 9 .str, fun x => aRQ x.1, fun x => id x.1⟩
attribute [go_sem] gT oE
noncomputable def uL (F : Md) : List (FuncId × aG) := []
theorem uM (F : Md) : bE Tryz.prog GL (uL F) := .nil
theorem aB2 : FOK Tryz.prog GL 137 gT := by
 refine aNH (bA (uM none)) Tryz.func137 rfl (by kernel_rfl) (by decide) fun w0 S x hw hp => ?_
 have hF : jQ (fr Tryz.prog (EM (uL none)) S w0 Tryz.f137.ntmps) := ⟨bA (uM none), mix⟩
 obtain ⟨(s : (List (List Nat))), u⟩ := x
 have hp : s.length * 16 ≤ 140737488355328 := hp
 simp only [bL, oE, gT]
 refine aB (aD hF [0, 2] ?_)
 simp only [go_sem]
 refine aC (aB (aB (aLw hF rfl rfl rfl fun b hb => ?_)))
 refine aC (cB rfl (fun hc => ?_) (fun hc => ?_))
 ·have hs := hb hc
  refine aB (aD hF [2] ?_)
  simp only [go_sem]
  refine aC (cV (dC (eZ hF [.tmp 2] rfl rfl rfl ?_)))
  simp only [gZ, aT, go_sem, hs]
  try trivial
 ·refine cP (aC (aB (aZ hF [2] ?_)))
  simp only [go_sem]
  refine ⟨by omega, ?_⟩
  refine aC (cV (eZ hF [.tmp 2] rfl rfl rfl ?_))
  simp only [gZ, aT, go_sem]
  try trivial
noncomputable def hO (F : Md) (e_0 : Ex) (names_1 : (List (List Nat))) : Option Bool :=
 (aAo F e_0).bind (fun v_6 => ck (((v_6 = true) → (((xX F 64 e_0 names_1).isSome = true)))) (some (v_6 && ((xX F 64 e_0 names_1).getD false))))
def aBc : PlR := ⟨[(0, .B [1, 2]), (1, .A [4])], []⟩
def aCm : Ty := .pair .expr (.pair (.sl .str) .unit)
noncomputable def gI (F : Md) : aG := mSpec aCm (.one .bool) (fun x => hO F x.1 x.2.1)
noncomputable def wP (F : Md) : List (FuncId × aG) := [(63, (xV F)), (64, (vO F 64))]
theorem aIG (F : Md) : bE Tryz.prog GL (wP F) := .cons (aMl F) (by kernel_rfl) (.cons (aEh F 64) (by kernel_rfl) (.nil))
theorem aEO (F : Md) : gam (wP F) 63 = some (xV F) := rfl
theorem aEP (F : Md) : gam (wP F) 64 = some (vO F 64) := rfl
attribute [go_sem] aCm aBc aEO aEP
set_option maxHeartbeats 4000000 in
theorem vB (F : Md) : FOK Tryz.prog GL 25 (gI F) := by
 refine bH (bA (aIG F)) mix Tryz.func25 rfl (by kernel_rfl) (by decide) aBc fun w0 S x Θ hw h hF => ?_
 obtain ⟨(e_0 : Ex), (names_1 : (List (List Nat))), u⟩ := x
 simp only [bL, go_sem]
 replace h : sat (hO F e_0 names_1) _ := h
 unfold hO at h
 obtain ⟨v_6, hv, h⟩ := aM h
 try simp only [hv, go_sem]
 refine aS h fun g0 h => ?_
 exact aI hF [.tmp 4] rfl rfl rfl (aA h) (by simp only [aT, go_sem])
attribute [go_sem] gI
noncomputable def pQ (F : Md) (a_0 : ((List Nat) × (Ex × Unit))) (a1_1 : (List (List Nat))) : Option Bool :=
 (hO F ((a_0.2).1) a1_1).bind (fun v_6 => some (!v_6))
def aAp : PlR := ⟨[(0, .B [1, 2]), (1, .A [3])], []⟩
def aBd : Ty := .pair (.pair .str (.pair .expr .unit)) (.pair (.rp (.sl .str)) .unit)
noncomputable def oH (F : Md) : aG := mSpec aBd (.one .bool) (fun x => pQ F x.1 x.2.1)
noncomputable def aBe (F : Md) : List (FuncId × aG) := [(25, (gI F))]
theorem aG4 (F : Md) : bE Tryz.prog GL (aBe F) := .cons (vB F) (by kernel_rfl) (.nil)
theorem aDN (F : Md) : gam (aBe F) 25 = some (gI F) := rfl
attribute [go_sem] aBd aAp aDN
set_option maxHeartbeats 4000000 in
theorem aF9 (F : Md) : FOK Tryz.prog GL 140 (oH F) := by
 refine bH (bA (aG4 F)) mix Tryz.func140 rfl (by kernel_rfl) (by decide) aAp fun w0 S x Θ hw h hF => ?_
 obtain ⟨(a_0 : ((List Nat) × (Ex × Unit))), (a1_1 : (List (List Nat))), u⟩ := x
 simp only [bL, go_sem]
 replace h : sat (pQ F a_0 a1_1) _ := h
 unfold pQ at h
 obtain ⟨v_6, hv, h⟩ := aM h
 try simp only [hv, go_sem]
 exact aI hF [.tmp 3] rfl rfl rfl (aA h) (by simp only [aT, go_sem])
attribute [go_sem] oH
noncomputable def dA (F : Md) (s_0 : (List ((List Nat) × (Ex × Unit)))) (f_1 : ((List (List Nat)) × Unit)) (x8_14 : Int) : Option ((Int) ⊕ ((Unit) ⊕ Int)) :=
 if x8_14 < (((s_0.length) : Nat) : Int) then ck (0 ≤ x8_14 ∧ x8_14 < (((s_0.length) : Nat) : Int)) ((pQ F (s_0.getD (x8_14.toNat) (([] : List Nat), (Ex.mk 0 [] []), ())) (f_1.1)).bind (fun v_27 => if v_27 = true then some (.inr (.inr x8_14)) else ck (I64 (x8_14 + (1 : Int))) (some (.inl (x8_14 + (1 : Int)))))) else some (.inr (.inl ()))
noncomputable def cI (F : Md) (s_0 : (List ((List Nat) × (Ex × Unit)))) (f_1 : ((List (List Nat)) × Unit)) : Option Int :=
 (dG F (fun d : Int => dA F s_0 f_1 d) (0 : Int)).bind (fun e => match e with | (.inl e) => some (-1 : Int) | (.inr e) => some e)
def fD : PlR := ⟨[(0, .A [0, 1]), (1, .A [0, 1, 7, 8]), (2, .A [0, 1, 7, 8, 9]), (3, .A [0, 1, 5, 7, 8]), (4, .A [0, 1, 5, 7, 8, 16]), (5, .A [4]), (6, .A [0, 1, 7, 8]), (7, .A [4])], []⟩
def fM : Ty := .pair (.sl (.pair .str (.pair .expr .unit))) (.pair (.clo 140 (.pair (.rp (.sl .str)) .unit)) .unit)
noncomputable def cF (F : Md) : aG := mSpec fM (.one (.i .i64)) (fun x => cI F x.1 x.2.1)
noncomputable def fN (F : Md) : List (FuncId × aG) := [(140, (oH F))]
theorem lJ (F : Md) : bE Tryz.prog GL (fN F) := .cons (aF9 F) (by kernel_rfl) (.nil)
theorem jT (F : Md) : gam (fN F) 140 = some (oH F) := rfl
attribute [go_sem] fM fD jT
set_option maxHeartbeats 4000000 in
theorem kZ (F : Md) : FOK Tryz.prog GL 204 (cF F) := by
 refine bH (bA (lJ F)) mix Tryz.func204 rfl (by kernel_rfl) (by decide) fD fun w0 S x Θ hw h hF => ?_
 obtain ⟨(s_0 : (List ((List Nat) × (Ex × Unit)))), (f_1 : ((List (List Nat)) × Unit)), u⟩ := x
 simp only [bL, go_sem]
 replace h : sat (cI F s_0 f_1) _ := h
 unfold cI at h
 refine bS hF (D := Int) [0, 1, 7] (fun d => [(8, .val (.i .i64) d)]) (fun d => []) h rfl (by simp only [go_sem]) ?_
 rintro x8_14 A2 T2 hA2 hE2 h
 simp only [go_sem]
 replace h : sat (dA F s_0 f_1 x8_14) _ := h
 unfold dA at h
 refine eC h (fun hc h => ?_) fun hc h => ?_
 ·refine aS h fun g0 h => ?_
  obtain ⟨v_27, hv, h⟩ := aM h
  try simp only [hv, go_sem]
  refine aHp h (fun hc h => ?_) fun hc h => ?_
  ·replace h := hE2 _ (aA h)
   try dsimp only at h
   exact aI hF [.tmp 4] rfl rfl rfl (aA h) (by simp only [aT, go_sem])
  ·refine aS h fun g0 h => ?_
   replace h := hA2 _ (aA h)
   exact aV _ h rfl (by simp only [go_sem])
 ·replace h := hE2 _ (aA h)
  try dsimp only at h
  exact aI hF [.tmp 4] rfl rfl rfl (aA h) (by simp only [aT, go_sem])
attribute [go_sem] cF
noncomputable def bO (F : Md) (s_0 : (List ((List Nat) × (Ex × Unit)))) (f_1 : ((List (List Nat)) × Unit)) : Option Bool :=
 (cI F s_0 f_1).bind (fun v_6 => some (decide ((0 : Int) ≤ v_6)))
def eH : PlR := ⟨[(0, .A [0, 1]), (1, .A [4])], []⟩
def eP : Ty := .pair (.sl (.pair .str (.pair .expr .unit))) (.pair (.clo 140 (.pair (.rp (.sl .str)) .unit)) .unit)
noncomputable def bZ (F : Md) : aG := mSpec eP (.one .bool) (fun x => bO F x.1 x.2.1)
noncomputable def eQ (F : Md) : List (FuncId × aG) := [(204, (cF F))]
theorem kJ (F : Md) : bE Tryz.prog GL (eQ F) := .cons (kZ F) (by kernel_rfl) (.nil)
theorem iW (F : Md) : gam (eQ F) 204 = some (cF F) := rfl
attribute [go_sem] eP eH iW
set_option maxHeartbeats 4000000 in
theorem jU (F : Md) : FOK Tryz.prog GL 139 (bZ F) := by
 refine bH (bA (kJ F)) mix Tryz.func139 rfl (by kernel_rfl) (by decide) eH fun w0 S x Θ hw h hF => ?_
 obtain ⟨(s_0 : (List ((List Nat) × (Ex × Unit)))), (f_1 : ((List (List Nat)) × Unit)), u⟩ := x
 simp only [bL, go_sem]
 replace h : sat (bO F s_0 f_1) _ := h
 unfold bO at h
 obtain ⟨v_6, hv, h⟩ := aM h
 try simp only [hv, go_sem]
 exact aI hF [.tmp 4] rfl rfl rfl (aA h) (by simp only [aT, go_sem])
attribute [go_sem] bZ
noncomputable def zK (F : Md) (s_0 : ((List Nat) × ((List ((List Nat) × (((List Nat) × ((List Nat) × Unit)) × (Ex × Unit)))) × ((List ((List Nat) × (((List Nat) × ((List Nat) × Unit)) × Unit))) × ((List (List Nat)) × ((List ((List Nat) × (Ex × Unit))) × Unit)))))) (x93_11 : Int) : Option ((Int) ⊕ ((Unit) ⊕ Bool)) :=
 if x93_11 < ((((((s_0.2).2).1).length) : Nat) : Int) then ck (0 ≤ x93_11 ∧ x93_11 < ((((((s_0.2).2).1).length) : Nat) : Int)) (ck (((iU F ((((((s_0.2).2).1).getD (x93_11.toNat) (([] : List Nat), (([] : List Nat), ([] : List Nat), ()), ())).2).1)).isSome = true)) (if ¬ (((iU F ((((((s_0.2).2).1).getD (x93_11.toNat) (([] : List Nat), (([] : List Nat), ([] : List Nat), ()), ())).2).1)).getD false) = true) then some (.inr (.inr false)) else ck (I64 (x93_11 + (1 : Int))) (some (.inl (x93_11 + (1 : Int)))))) else some (.inr (.inl ()))
noncomputable def tS (F : Md) (s_0 : ((List Nat) × ((List ((List Nat) × (((List Nat) × ((List Nat) × Unit)) × (Ex × Unit)))) × ((List ((List Nat) × (((List Nat) × ((List Nat) × Unit)) × Unit))) × ((List (List Nat)) × ((List ((List Nat) × (Ex × Unit))) × Unit)))))) : Option (Bool) :=
 (dG F (fun d : Int => zK F s_0 d) (0 : Int)).bind (fun e => match e with | (.inl e) => ck (((bO F (((((s_0.2).2).2).2).1) (((bI F ([(((aU F s_0).getD (([] : List (List Nat)), ([] : List (List Nat)), ([] : List (List Nat)), ())).1), ((((aU F s_0).getD (([] : List (List Nat)), ([] : List (List Nat)), ([] : List (List Nat)), ())).2).1), (((((aU F s_0).getD (([] : List (List Nat)), ([] : List (List Nat)), ([] : List (List Nat)), ())).2).2).1)] : List (List (List Nat)))).getD ([] : List (List Nat))), ())).isSome = true)) (some (!((bO F (((((s_0.2).2).2).2).1) (((bI F ([(((aU F s_0).getD (([] : List (List Nat)), ([] : List (List Nat)), ([] : List (List Nat)), ())).1), ((((aU F s_0).getD (([] : List (List Nat)), ([] : List (List Nat)), ([] : List (List Nat)), ())).2).1), (((((aU F s_0).getD (([] : List (List Nat)), ([] : List (List Nat)), ([] : List (List Nat)), ())).2).2).1)] : List (List (List Nat)))).getD ([] : List (List Nat))), ())).getD false))) | (.inr e) => some e)
noncomputable def zL (F : Md) (s_0 : ((List Nat) × ((List ((List Nat) × (((List Nat) × ((List Nat) × Unit)) × (Ex × Unit)))) × ((List ((List Nat) × (((List Nat) × ((List Nat) × Unit)) × Unit))) × ((List (List Nat)) × ((List ((List Nat) × (Ex × Unit))) × Unit)))))) (x74_14 : Int) : Option ((Int) ⊕ ((Unit) ⊕ Bool)) :=
 if x74_14 < (((((s_0.2).1).length) : Nat) : Int) then ck (0 ≤ x74_14 ∧ x74_14 < (((((s_0.2).1).length) : Nat) : Int)) (ck (((iU F (((((s_0.2).1).getD (x74_14.toNat) (([] : List Nat), (([] : List Nat), ([] : List Nat), ()), (Ex.mk 0 [] []), ())).2).1)).isSome = true)) (ck ((¬ (¬ (((iU F (((((s_0.2).1).getD (x74_14.toNat) (([] : List Nat), (([] : List Nat), ([] : List Nat), ()), (Ex.mk 0 [] []), ())).2).1)).getD false) = true)) → (((hO F ((((((s_0.2).1).getD (x74_14.toNat) (([] : List Nat), (([] : List Nat), ([] : List Nat), ()), (Ex.mk 0 [] []), ())).2).2).1) ((bI F ([(((aU F s_0).getD (([] : List (List Nat)), ([] : List (List Nat)), ([] : List (List Nat)), ())).1), ((((aU F s_0).getD (([] : List (List Nat)), ([] : List (List Nat)), ([] : List (List Nat)), ())).2).1), (((((aU F s_0).getD (([] : List (List Nat)), ([] : List (List Nat)), ([] : List (List Nat)), ())).2).2).1)] : List (List (List Nat)))).getD ([] : List (List Nat)))).isSome = true)))) (if (¬ (((iU F (((((s_0.2).1).getD (x74_14.toNat) (([] : List Nat), (([] : List Nat), ([] : List Nat), ()), (Ex.mk 0 [] []), ())).2).1)).getD false) = true)) ∨ (¬ (((hO F ((((((s_0.2).1).getD (x74_14.toNat) (([] : List Nat), (([] : List Nat), ([] : List Nat), ()), (Ex.mk 0 [] []), ())).2).2).1) ((bI F ([(((aU F s_0).getD (([] : List (List Nat)), ([] : List (List Nat)), ([] : List (List Nat)), ())).1), ((((aU F s_0).getD (([] : List (List Nat)), ([] : List (List Nat)), ([] : List (List Nat)), ())).2).1), (((((aU F s_0).getD (([] : List (List Nat)), ([] : List (List Nat)), ([] : List (List Nat)), ())).2).2).1)] : List (List (List Nat)))).getD ([] : List (List Nat)))).getD false) = true)) then some (.inr (.inr false)) else ck (I64 (x74_14 + (1 : Int))) (some (.inl (x74_14 + (1 : Int))))))) else some (.inr (.inl ()))
noncomputable def tT (F : Md) (s_0 : ((List Nat) × ((List ((List Nat) × (((List Nat) × ((List Nat) × Unit)) × (Ex × Unit)))) × ((List ((List Nat) × (((List Nat) × ((List Nat) × Unit)) × Unit))) × ((List (List Nat)) × ((List ((List Nat) × (Ex × Unit))) × Unit)))))) (all_6 : (List (List Nat))) : Option (Bool) :=
 ck (((oA F all_6).isSome = true)) (if ¬ (((oA F all_6).getD false) = true) then some false else (dG F (fun d : Int => zL F s_0 d) (0 : Int)).bind (fun e => match e with | (.inl e) => tS F s_0 | (.inr e) => some e))
noncomputable def aAq (F : Md) (s_0 : ((List Nat) × ((List ((List Nat) × (((List Nat) × ((List Nat) × Unit)) × (Ex × Unit)))) × ((List ((List Nat) × (((List Nat) × ((List Nat) × Unit)) × Unit))) × ((List (List Nat)) × ((List ((List Nat) × (Ex × Unit))) × Unit)))))) (x58_17 : Int) (all_18 : (List (List Nat))) : Option ((Int × (List (List Nat))) ⊕ (((List (List Nat))))) :=
 if x58_17 < ((((((((s_0.2).2).2).2).1).length) : Nat) : Int) then ck (0 ≤ x58_17 ∧ x58_17 < ((((((((s_0.2).2).2).2).1).length) : Nat) : Int)) (ck (((all_18.length) + (1 : Nat)) * 16 ≤ 140737488355328) (ck (I64 (x58_17 + (1 : Int))) (some (.inl ((x58_17 + (1 : Int)), (all_18 ++ ([(((((((s_0.2).2).2).2).1).getD (x58_17.toNat) (([] : List Nat), (Ex.mk 0 [] []), ())).1)] : List (List Nat)))))))) else some (.inr all_18)
noncomputable def tU (F : Md) (s_0 : ((List Nat) × ((List ((List Nat) × (((List Nat) × ((List Nat) × Unit)) × (Ex × Unit)))) × ((List ((List Nat) × (((List Nat) × ((List Nat) × Unit)) × Unit))) × ((List (List Nat)) × ((List ((List Nat) × (Ex × Unit))) × Unit)))))) : Option Bool :=
 if (((((((((s_0.2).1).length) : Nat) : Int) < (1 : Int)) ∨ ((6 : Int) < (((((s_0.2).1).length) : Nat) : Int))) ∨ ((6 : Int) < ((((((s_0.2).2).1).length) : Nat) : Int))) ∨ ((4 : Int) < (((((((s_0.2).2).2).1).length) : Nat) : Int))) ∨ ((4 : Int) < ((((((((s_0.2).2).2).2).1).length) : Nat) : Int)) then some false else ck (((aU F s_0).isSome = true)) (ck (((bI F ([(((aU F s_0).getD (([] : List (List Nat)), ([] : List (List Nat)), ([] : List (List Nat)), ())).1), ((((aU F s_0).getD (([] : List (List Nat)), ([] : List (List Nat)), ([] : List (List Nat)), ())).2).1), (((((aU F s_0).getD (([] : List (List Nat)), ([] : List (List Nat)), ([] : List (List Nat)), ())).2).2).1)] : List (List (List Nat)))).isSome = true)) (ck ((aRQ ((bI F ([(((aU F s_0).getD (([] : List (List Nat)), ([] : List (List Nat)), ([] : List (List Nat)), ())).1), ((((aU F s_0).getD (([] : List (List Nat)), ([] : List (List Nat)), ([] : List (List Nat)), ())).2).1), (((((aU F s_0).getD (([] : List (List Nat)), ([] : List (List Nat)), ([] : List (List Nat)), ())).2).2).1)] : List (List (List Nat)))).getD ([] : List (List Nat))))) ((dG F (fun d : Int × (List (List Nat)) => aAq F s_0 d.1 d.2) ((0 : Int), (id ((bI F ([(((aU F s_0).getD (([] : List (List Nat)), ([] : List (List Nat)), ([] : List (List Nat)), ())).1), ((((aU F s_0).getD (([] : List (List Nat)), ([] : List (List Nat)), ([] : List (List Nat)), ())).2).1), (((((aU F s_0).getD (([] : List (List Nat)), ([] : List (List Nat)), ([] : List (List Nat)), ())).2).2).1)] : List (List (List Nat)))).getD ([] : List (List Nat)))))).bind (fun e => tT F s_0 e))))
def tV : Ty := .pair (.pair .str (.pair (.sl (.pair .str (.pair (.pair .str (.pair .str .unit)) (.pair .expr .unit)))) (.pair (.sl (.pair .str (.pair (.pair .str (.pair .str .unit)) .unit))) (.pair (.sl .str) (.pair (.sl (.pair .str (.pair .expr .unit))) .unit))))) .unit
attribute [go_sem] tV
noncomputable def rJ (F : Md) : aG := mSpec tV (.one .bool) (fun x => tU F x.1)
noncomputable def gU (F : Md) : List (FuncId × aG) := [(139, (bZ F)), (135, (tK F)), (136, (jJ F)), (137, gT), (138, (rG F)), (25, (gI F)), (68, (mT F))]
theorem aDp (F : Md) : bE Tryz.prog GL (gU F) := .cons (jU F) (by kernel_rfl) (.cons (aKq F) (by kernel_rfl) (.cons (aA9 F) (by kernel_rfl) (.cons aB2 (by kernel_rfl) (.cons (aIC F) (by kernel_rfl) (.cons (vB F) (by kernel_rfl) (.cons (aDh F) (by kernel_rfl) (.nil)))))))
theorem aEQ (F : Md) : gam (gU F) 139 = some (bZ F) := rfl
attribute [go_sem] aEQ
theorem aER (F : Md) : gam (gU F) 135 = some (tK F) := rfl
attribute [go_sem] aER
theorem aES (F : Md) : gam (gU F) 136 = some (jJ F) := rfl
attribute [go_sem] aES
theorem aET (F : Md) : gam (gU F) 137 = some gT := rfl
attribute [go_sem] aET
theorem aEU (F : Md) : gam (gU F) 138 = some (rG F) := rfl
attribute [go_sem] aEU
theorem aGa (F : Md) : gam (gU F) 25 = some (gI F) := rfl
attribute [go_sem] aGa
theorem aGb (F : Md) : gam (gU F) 68 = some (mT F) := rfl
attribute [go_sem] aGb
set_option maxHeartbeats 4000000 in
theorem aIH (F : Md) : FOK Tryz.prog GL 67 (rJ F) := by
 refine lR (bA (aDp F)) Tryz.func67 rfl (by kernel_rfl) (by decide) fun w0 S x r hw h => ?_
 have hF : jQ (fr Tryz.prog (EM (gU F)) S w0 Tryz.f67.ntmps) := ⟨bA (aDp F), mix⟩
 obtain ⟨(s_0 : ((List Nat) × ((List ((List Nat) × (((List Nat) × ((List Nat) × Unit)) × (Ex × Unit)))) × ((List ((List Nat) × (((List Nat) × ((List Nat) × Unit)) × Unit))) × ((List (List Nat)) × ((List ((List Nat) × (Ex × Unit))) × Unit)))))), u⟩ := x
 simp only [tV, Ty.wf, mM] at hw
 simp only [bL, tV]
 try dsimp only at h
 replace h : tU F s_0 = some r := h
 unfold tU at h
 refine aB (aZ hF [1] ?_)
 simp only [go_sem]
 refine aC (aB (aB (aD hF [1, 41] ?_)))
 simp only [go_sem]
 refine aC (cB rfl (fun hc => ?_) (fun hc => ?_))
 ·try simp only [go_sem] at hc
  have h := hD (by first | exact hc | omega | (simpa using hc) | (simp at hc ⊢; omega)) h
  refine aB (aD hF [2] ?_)
  simp only [go_sem]
  obtain rfl := Option.some.inj h
  refine aC (cV (dC (eZ hF [.tmp 2] rfl rfl rfl ?_)))
  (try simp only [gZ, aT, go_sem]) <;> first | rfl | (simp; done)
 ·try simp only [go_sem] at hc
  have h := hN (by first | exact hc | omega | (simpa using hc) | (simp at hc ⊢; omega)) h
  refine cP (aC (aB (aD hF [1, 3, 4, 5] ?_)))
  simp only [go_sem]
  obtain ⟨g0, h⟩ := aH h
  repeat (refine ⟨by first | with_reducible assumption | omega | (intros; first | with_reducible assumption | omega) | (simp only [go_sem] at *; first | with_reducible assumption | omega) | decide, ?_⟩)
  refine aC (aB (aZ hF [1, 6] ?_))
  simp only [go_sem]
  obtain ⟨g0, h⟩ := aH h
  repeat (refine ⟨by first | with_reducible assumption | omega | (intros; first | with_reducible assumption | omega) | (simp only [go_sem] at *; first | with_reducible assumption | omega) | decide, ?_⟩)
  refine aC (aB (aZ hF [1, 6, 7] ?_))
  simp only [go_sem]
  obtain ⟨g0, h⟩ := aH h
  repeat (refine ⟨by first | with_reducible assumption | omega | (intros; first | with_reducible assumption | omega) | (simp only [go_sem] at *; first | with_reducible assumption | omega) | decide, ?_⟩)
  refine aC (lQ (D := (List (List Nat))) (fun d => tT F s_0 d = some r) [] (fun d => [(1, .ptr 0 []), (6, .ptr 1 []), (7, .own 2)]) (fun d => [.inr (.box 5 (.val (.pair .str (.pair (.sl (.pair .str (.pair (.pair .str (.pair .str .unit)) (.pair .expr .unit)))) (.pair (.sl (.pair .str (.pair (.pair .str (.pair .str .unit)) .unit))) (.pair (.sl .str) (.pair (.sl (.pair .str (.pair .expr .unit))) .unit))))) s_0)), .inr (.box 1 (.val (.sl .str) ((bI F ([(((aU F s_0).getD (([] : List (List Nat)), ([] : List (List Nat)), ([] : List (List Nat)), ())).1), ((((aU F s_0).getD (([] : List (List Nat)), ([] : List (List Nat)), ([] : List (List Nat)), ())).2).1), (((((aU F s_0).getD (([] : List (List Nat)), ([] : List (List Nat)), ([] : List (List Nat)), ())).2).2).1)] : List (List (List Nat)))).getD ([] : List (List Nat))))), .inr (.row 9 .str d)]) ?_ ?_)
  ·refine aB (aD hF [1, 6, 7, 56, 57, 58] ?_)
   simp only [go_sem]
   refine aC (dU (nV (D := Int × (List (List Nat))) [56, 57] (fun d => [(1, .ptr 0 []), (6, .ptr 1 []), (7, .own 2), (58, .val (.i .i64) d.1)]) (fun d => [.inr (.box 5 (.val (.pair .str (.pair (.sl (.pair .str (.pair (.pair .str (.pair .str .unit)) (.pair .expr .unit)))) (.pair (.sl (.pair .str (.pair (.pair .str (.pair .str .unit)) .unit))) (.pair (.sl .str) (.pair (.sl (.pair .str (.pair .expr .unit))) .unit))))) s_0)), .inr (.box 1 (.val (.sl .str) ((bI F ([(((aU F s_0).getD (([] : List (List Nat)), ([] : List (List Nat)), ([] : List (List Nat)), ())).1), ((((aU F s_0).getD (([] : List (List Nat)), ([] : List (List Nat)), ([] : List (List Nat)), ())).2).1), (((((aU F s_0).getD (([] : List (List Nat)), ([] : List (List Nat)), ([] : List (List Nat)), ())).2).2).1)] : List (List (List Nat)))).getD ([] : List (List Nat))))), .inr (.row 9 .str d.2)]) h ?_ ?_ ?_))
   ·first | rfl | (simp only [go_sem]; done)
   ·(try simp only [jN, gD, true_or, and_self, go_sem]) <;> (repeat' apply And.intro) <;> first | rfl | (left; rfl) | (right; rfl) | (left; simp only [go_sem]; done) | (right; simp only [go_sem]; done) | (simp; done) | (simp only [*]; done) | omega
   rintro ⟨x58_17, all_18⟩ s7 h hs7
   simp only [go_sem]
   try dsimp only at h
   unfold aAq at h
   refine aB (aD hF [1, 6, 7, 56, 57, 58, 59] ?_)
   simp only [go_sem]
   refine aC (aB (cB rfl (fun hc => ?_) (fun hc => ?_)))
   ·try simp only [go_sem] at hc
    have h := hD (by first | exact hc | omega | (simpa using hc) | (simp at hc ⊢; omega)) h
    refine cP (aC (aB (dU (aB (aZ hF [1, 6, 7, 9, 56, 57, 58] ?_)))))
    simp only [go_sem]
    obtain ⟨g0, h⟩ := aH h
    repeat (refine ⟨by first | with_reducible assumption | omega | (intros; first | with_reducible assumption | omega) | (simp only [go_sem] at *; first | with_reducible assumption | omega) | decide, ?_⟩)
    refine aC (aZ hF [1, 6, 7, 56, 57, 58] ?_)
    simp only [go_sem]
    obtain ⟨g0, h⟩ := aH h
    repeat (refine ⟨by first | with_reducible assumption | omega | (intros; first | with_reducible assumption | omega) | (simp only [go_sem] at *; first | with_reducible assumption | omega) | decide, ?_⟩)
    refine fH (aC (aD hF [1, 6, 7, 56, 57, 58] ?_))
    simp only [go_sem]
    obtain ⟨g0, h⟩ := aH h
    try simp only [I64, I32] at g0
    repeat (refine ⟨by first | with_reducible assumption | omega | (intros; first | with_reducible assumption | omega) | (simp only [go_sem] at *; first | with_reducible assumption | omega) | decide, ?_⟩)
    obtain rfl := Option.some.inj h
    dsimp only [mW] at hs7
    refine bF (nA [0, 1, 4] rfl rfl ?_)
    simp only [ren, iY, oM, posOf, gM, go_sem]
    refine aV (((x58_17 + (1 : Int)), (all_18 ++ ([(((((((s_0.2).2).2).2).1).getD (x58_17.toNat) (([] : List Nat), (Ex.mk 0 [] []), ())).1)] : List (List Nat))))) hs7 rfl ?_
    ·(try simp only [jN, gD, true_or, and_self, go_sem]) <;> (repeat' apply And.intro) <;> first | rfl | (left; rfl) | (right; rfl) | (left; simp only [go_sem]; done) | (right; simp only [go_sem]; done) | (simp; done) | (simp only [*]; done) | omega
   ·try simp only [go_sem] at hc
    have h := hN (by first | exact hc | omega | (simpa using hc) | (simp at hc ⊢; omega)) h
    obtain rfl := Option.some.inj h
    dsimp only [mW] at hs7
    have h := hs7
    try dsimp only at h
    refine nK (cL (cL (eE (bF (aV (all_18) h rfl ?_)))))
    ·(try simp only [jN, gD, true_or, and_self, go_sem]) <;> (repeat' apply And.intro) <;> first | rfl | (left; rfl) | (right; rfl) | (left; simp only [go_sem]; done) | (right; simp only [go_sem]; done) | (simp; done) | (simp only [*]; done) | omega
  ·rintro all_6 h
   try dsimp only at h
   simp only [go_sem]
   unfold tT at h
   refine aB (aB (aD hF [1, 6, 70] ?_))
   simp only [go_sem]
   obtain ⟨g0, h⟩ := aH h
   repeat (refine ⟨by first | with_reducible assumption | omega | (intros; first | with_reducible assumption | omega) | (simp only [go_sem] at *; first | with_reducible assumption | omega) | decide, ?_⟩)
   refine aC (cB rfl (fun hc => ?_) (fun hc => ?_))
   ·try simp only [go_sem] at hc
    have h := hD (by first | exact hc | omega | (simpa using hc) | (simp at hc ⊢; omega)) h
    refine aB (aD hF [2] ?_)
    simp only [go_sem]
    obtain rfl := Option.some.inj h
    refine aC (cV (dC (eZ hF [.tmp 2] rfl rfl rfl ?_)))
    (try simp only [gZ, aT, go_sem]) <;> first | rfl | (simp; done)
   ·try simp only [go_sem] at hc
    have h := hN (by first | exact hc | omega | (simpa using hc) | (simp at hc ⊢; omega)) h
    refine cP (aC (lQ (D := Unit) (fun d => tS F s_0 = some r) [] (fun d => [(1, .ptr 0 []), (6, .ptr 1 [])]) (fun d => [.inr (.box 5 (.val (.pair .str (.pair (.sl (.pair .str (.pair (.pair .str (.pair .str .unit)) (.pair .expr .unit)))) (.pair (.sl (.pair .str (.pair (.pair .str (.pair .str .unit)) .unit))) (.pair (.sl .str) (.pair (.sl (.pair .str (.pair .expr .unit))) .unit))))) s_0)), .inr (.box 1 (.val (.sl .str) ((bI F ([(((aU F s_0).getD (([] : List (List Nat)), ([] : List (List Nat)), ([] : List (List Nat)), ())).1), ((((aU F s_0).getD (([] : List (List Nat)), ([] : List (List Nat)), ([] : List (List Nat)), ())).2).1), (((((aU F s_0).getD (([] : List (List Nat)), ([] : List (List Nat)), ([] : List (List Nat)), ())).2).2).1)] : List (List (List Nat)))).getD ([] : List (List Nat)))))]) ?_ ?_))
    ·refine aB (aD hF [1, 6, 72, 73, 74] ?_)
     simp only [go_sem]
     refine aC (dU (aDG [0, 1] rfl rfl ?_))
     simp only [ren, iY, oM, posOf, gM, go_sem]
     refine nV (D := Int) [72, 73] (fun d => [(1, .ptr 0 []), (6, .ptr 1 []), (74, .val (.i .i64) d)]) (fun d => [.inr (.box 5 (.val (.pair .str (.pair (.sl (.pair .str (.pair (.pair .str (.pair .str .unit)) (.pair .expr .unit)))) (.pair (.sl (.pair .str (.pair (.pair .str (.pair .str .unit)) .unit))) (.pair (.sl .str) (.pair (.sl (.pair .str (.pair .expr .unit))) .unit))))) s_0)), .inr (.box 1 (.val (.sl .str) ((bI F ([(((aU F s_0).getD (([] : List (List Nat)), ([] : List (List Nat)), ([] : List (List Nat)), ())).1), ((((aU F s_0).getD (([] : List (List Nat)), ([] : List (List Nat)), ([] : List (List Nat)), ())).2).1), (((((aU F s_0).getD (([] : List (List Nat)), ([] : List (List Nat)), ([] : List (List Nat)), ())).2).2).1)] : List (List (List Nat)))).getD ([] : List (List Nat)))))]) h ?_ ?_ ?_
     ·first | rfl | (simp only [go_sem]; done)
     ·(try simp only [jN, gD, true_or, and_self, go_sem]) <;> (repeat' apply And.intro) <;> first | rfl | (left; rfl) | (right; rfl) | (left; simp only [go_sem]; done) | (right; simp only [go_sem]; done) | (simp; done) | (simp only [*]; done) | omega
     rintro x74_14 s14 h hs14
     simp only [go_sem]
     try dsimp only at h
     unfold zL at h
     refine aB (aD hF [1, 6, 72, 73, 74, 75] ?_)
     simp only [go_sem]
     refine aC (aB (cB rfl (fun hc => ?_) (fun hc => ?_)))
     ·try simp only [go_sem] at hc
      have h := hD (by first | exact hc | omega | (simpa using hc) | (simp at hc ⊢; omega)) h
      refine cP (aC (aB (dU (aB (aZ hF [1, 6, 11, 72, 73, 74] ?_)))))
      simp only [go_sem]
      obtain ⟨g0, h⟩ := aH h
      repeat (refine ⟨by first | with_reducible assumption | omega | (intros; first | with_reducible assumption | omega) | (simp only [go_sem] at *; first | with_reducible assumption | omega) | decide, ?_⟩)
      refine aC (aB (aD hF [1, 6, 72, 73, 74, 88] ?_))
      simp only [go_sem]
      obtain ⟨g0, h⟩ := aH h
      obtain ⟨g1, h⟩ := aH h
      repeat (refine ⟨by first | with_reducible assumption | omega | (intros; first | with_reducible assumption | omega) | (simp only [go_sem] at *; first | with_reducible assumption | omega) | (intro q0; (try have e1 := g1 (by first | exact q0 | omega | (simpa using q0))); first | assumption | omega) | decide, ?_⟩)
      refine aC (cB rfl (fun hc => ?_) (fun hc => ?_))
      ·try simp only [go_sem] at hc
       have h := hD (by first | exact hc | omega | (simpa using hc) | (simp at hc ⊢; omega)) h
       refine aB (aD hF [2] ?_)
       simp only [go_sem]
       obtain rfl := Option.some.inj h
       dsimp only [mW] at hs14
       have h := hs14
       try dsimp only at h
       obtain rfl := Option.some.inj h
       refine aC (cV (jX (dC (dC (jX (dC (eZ hF [.tmp 2] rfl rfl rfl ?_)))))))
       (try simp only [gZ, aT, go_sem]) <;> first | rfl | (simp; done)
      ·try simp only [go_sem] at hc
       have h := hN (by first | exact hc | omega | (simpa using hc) | (simp at hc ⊢; omega)) h
       refine cP (fH (aC (aD hF [1, 6, 72, 73, 74] ?_)))
       simp only [go_sem]
       obtain ⟨g0, h⟩ := aH h
       try simp only [I64, I32] at g0
       repeat (refine ⟨by first | with_reducible assumption | omega | (intros; first | with_reducible assumption | omega) | (simp only [go_sem] at *; first | with_reducible assumption | omega) | decide, ?_⟩)
       obtain rfl := Option.some.inj h
       dsimp only [mW] at hs14
       refine bF (nA [0, 1] rfl rfl ?_)
       simp only [ren, iY, oM, posOf, gM, go_sem]
       refine aV ((x74_14 + (1 : Int))) hs14 rfl ?_
       ·(try simp only [jN, gD, true_or, and_self, go_sem]) <;> (repeat' apply And.intro) <;> first | rfl | (left; rfl) | (right; rfl) | (left; simp only [go_sem]; done) | (right; simp only [go_sem]; done) | (simp; done) | (simp only [*]; done) | omega
     ·try simp only [go_sem] at hc
      have h := hN (by first | exact hc | omega | (simpa using hc) | (simp at hc ⊢; omega)) h
      obtain rfl := Option.some.inj h
      dsimp only [mW] at hs14
      have h := hs14
      try dsimp only at h
      refine nK (cL (cL (eE (bF (aV (()) h rfl ?_)))))
      ·(try simp only [jN, gD, true_or, and_self, go_sem]) <;> (repeat' apply And.intro) <;> first | rfl | (left; rfl) | (right; rfl) | (left; simp only [go_sem]; done) | (right; simp only [go_sem]; done) | (simp; done) | (simp only [*]; done) | omega
    ·rintro u h
     try dsimp only at h
     simp only [go_sem]
     unfold tS at h
     refine aB (aB (aD hF [1, 6, 91, 92, 93] ?_))
     simp only [go_sem]
     refine aC (dU (nV (D := Int) [91, 92] (fun d => [(1, .ptr 0 []), (6, .ptr 1 []), (93, .val (.i .i64) d)]) (fun d => [.inr (.box 5 (.val (.pair .str (.pair (.sl (.pair .str (.pair (.pair .str (.pair .str .unit)) (.pair .expr .unit)))) (.pair (.sl (.pair .str (.pair (.pair .str (.pair .str .unit)) .unit))) (.pair (.sl .str) (.pair (.sl (.pair .str (.pair .expr .unit))) .unit))))) s_0)), .inr (.box 1 (.val (.sl .str) ((bI F ([(((aU F s_0).getD (([] : List (List Nat)), ([] : List (List Nat)), ([] : List (List Nat)), ())).1), ((((aU F s_0).getD (([] : List (List Nat)), ([] : List (List Nat)), ([] : List (List Nat)), ())).2).1), (((((aU F s_0).getD (([] : List (List Nat)), ([] : List (List Nat)), ([] : List (List Nat)), ())).2).2).1)] : List (List (List Nat)))).getD ([] : List (List Nat)))))]) h ?_ ?_ ?_))
     ·first | rfl | (simp only [go_sem]; done)
     ·(try simp only [jN, gD, true_or, and_self, go_sem]) <;> (repeat' apply And.intro) <;> first | rfl | (left; rfl) | (right; rfl) | (left; simp only [go_sem]; done) | (right; simp only [go_sem]; done) | (simp; done) | (simp only [*]; done) | omega
     rintro x93_11 s20 h hs20
     simp only [go_sem]
     try dsimp only at h
     unfold zK at h
     refine aB (aD hF [1, 6, 91, 92, 93, 94] ?_)
     simp only [go_sem]
     refine aC (aB (cB rfl (fun hc => ?_) (fun hc => ?_)))
     ·try simp only [go_sem] at hc
      have h := hD (by first | exact hc | omega | (simpa using hc) | (simp at hc ⊢; omega)) h
      refine cP (aC (aB (dU (aB (aZ hF [1, 6, 13, 91, 92, 93] ?_)))))
      simp only [go_sem]
      obtain ⟨g0, h⟩ := aH h
      repeat (refine ⟨by first | with_reducible assumption | omega | (intros; first | with_reducible assumption | omega) | (simp only [go_sem] at *; first | with_reducible assumption | omega) | decide, ?_⟩)
      refine aC (aB (aD hF [1, 6, 91, 92, 93, 100] ?_))
      simp only [go_sem]
      obtain ⟨g0, h⟩ := aH h
      repeat (refine ⟨by first | with_reducible assumption | omega | (intros; first | with_reducible assumption | omega) | (simp only [go_sem] at *; first | with_reducible assumption | omega) | decide, ?_⟩)
      refine aC (cB rfl (fun hc => ?_) (fun hc => ?_))
      ·try simp only [go_sem] at hc
       have h := hD (by first | exact hc | omega | (simpa using hc) | (simp at hc ⊢; omega)) h
       refine aB (aD hF [2] ?_)
       simp only [go_sem]
       obtain rfl := Option.some.inj h
       dsimp only [mW] at hs20
       have h := hs20
       try dsimp only at h
       obtain rfl := Option.some.inj h
       refine aC (cV (jX (dC (dC (jX (dC (eZ hF [.tmp 2] rfl rfl rfl ?_)))))))
       (try simp only [gZ, aT, go_sem]) <;> first | rfl | (simp; done)
      ·try simp only [go_sem] at hc
       have h := hN (by first | exact hc | omega | (simpa using hc) | (simp at hc ⊢; omega)) h
       refine cP (fH (aC (aD hF [1, 6, 91, 92, 93] ?_)))
       simp only [go_sem]
       obtain ⟨g0, h⟩ := aH h
       try simp only [I64, I32] at g0
       repeat (refine ⟨by first | with_reducible assumption | omega | (intros; first | with_reducible assumption | omega) | (simp only [go_sem] at *; first | with_reducible assumption | omega) | decide, ?_⟩)
       obtain rfl := Option.some.inj h
       dsimp only [mW] at hs20
       refine bF (nA [0, 1] rfl rfl ?_)
       simp only [ren, iY, oM, posOf, gM, go_sem]
       refine aV ((x93_11 + (1 : Int))) hs20 rfl ?_
       ·(try simp only [jN, gD, true_or, and_self, go_sem]) <;> (repeat' apply And.intro) <;> first | rfl | (left; rfl) | (right; rfl) | (left; simp only [go_sem]; done) | (right; simp only [go_sem]; done) | (simp; done) | (simp only [*]; done) | omega
     ·try simp only [go_sem] at hc
      have h := hN (by first | exact hc | omega | (simpa using hc) | (simp at hc ⊢; omega)) h
      obtain rfl := Option.some.inj h
      dsimp only [mW] at hs20
      have h := hs20
      try dsimp only at h
      refine nK (cL (cL (eE (aC (aB (wA 1 rfl ?_))))))
      simp only [go_sem]
      refine aD hF [2] ?_
      simp only [go_sem]
      obtain ⟨g0, h⟩ := aH h
      repeat (refine ⟨by first | with_reducible assumption | omega | (intros; first | with_reducible assumption | omega) | (simp only [go_sem] at *; first | with_reducible assumption | omega) | decide, ?_⟩)
      obtain rfl := Option.some.inj h
      refine aC (cV (eZ hF [.tmp 2] rfl rfl rfl ?_))
      (try simp only [gZ, aT, go_sem]) <;> first | rfl | (simp; done)
attribute [go_sem] rJ
noncomputable def wQ (F : Md) (s_0 : (Int × (Int × (Int × (Int × ((List Nat) × ((List Nat) × ((List Nat) × ((List Nat) × ((List ((List Nat) × ((List ((List Nat) × (((List Nat) × ((List Nat) × Unit)) × (Ex × Unit)))) × ((List ((List Nat) × (((List Nat) × ((List Nat) × Unit)) × Unit))) × ((List (List Nat)) × ((List ((List Nat) × (Ex × Unit))) × Unit)))))) × ((List ((List Nat) × ((List Nat) × ((List Nat) × ((List Nat) × Unit))))) × Unit))))))))))) (sub_1 : (List Nat)) (x10_5 : Int) : Option ((Int) ⊕ ((Unit) ⊕ Int)) :=
 if x10_5 < ((((((((((((s_0.2).2).2).2).2).2).2).2).1).length) : Nat) : Int) then ck (0 ≤ x10_5 ∧ x10_5 < ((((((((((((s_0.2).2).2).2).2).2).2).2).1).length) : Nat) : Int)) (if (((((((((((s_0.2).2).2).2).2).2).2).2).1).getD (x10_5.toNat) (([] : List Nat), ([] : List ((List Nat) × (((List Nat) × ((List Nat) × Unit)) × (Ex × Unit)))), ([] : List ((List Nat) × (((List Nat) × ((List Nat) × Unit)) × Unit))), ([] : List (List Nat)), ([] : List ((List Nat) × (Ex × Unit))), ())).1) = sub_1 then some (.inr (.inr x10_5)) else ck (I64 (x10_5 + (1 : Int))) (some (.inl (x10_5 + (1 : Int))))) else some (.inr (.inl ()))
noncomputable def gV (F : Md) (s_0 : (Int × (Int × (Int × (Int × ((List Nat) × ((List Nat) × ((List Nat) × ((List Nat) × ((List ((List Nat) × ((List ((List Nat) × (((List Nat) × ((List Nat) × Unit)) × (Ex × Unit)))) × ((List ((List Nat) × (((List Nat) × ((List Nat) × Unit)) × Unit))) × ((List (List Nat)) × ((List ((List Nat) × (Ex × Unit))) × Unit)))))) × ((List ((List Nat) × ((List Nat) × ((List Nat) × ((List Nat) × Unit))))) × Unit))))))))))) (sub_1 : (List Nat)) : Option Int :=
 (dG F (fun d : Int => wQ F s_0 sub_1 d) (0 : Int)).bind (fun e => match e with | (.inl e) => some (-1 : Int) | (.inr e) => some e)
def aEi : PlR := ⟨[(0, .B [1, 2]), (1, .A [1, 8, 9, 10]), (2, .A [1, 8, 9, 10, 11]), (3, .B [1, 5, 6, 8, 9, 10]), (4, .A [1, 5, 8, 9, 10, 18]), (5, .A [4]), (6, .A [1, 8, 9, 10]), (7, .A [4])], []⟩
def aGc : Ty := .pair (.pair (.i .i64) (.pair (.i .i64) (.pair (.i .i64) (.pair (.i .i64) (.pair .str (.pair .str (.pair .str (.pair .str (.pair (.sl (.pair .str (.pair (.sl (.pair .str (.pair (.pair .str (.pair .str .unit)) (.pair .expr .unit)))) (.pair (.sl (.pair .str (.pair (.pair .str (.pair .str .unit)) .unit))) (.pair (.sl .str) (.pair (.sl (.pair .str (.pair .expr .unit))) .unit)))))) (.pair (.sl (.pair .str (.pair .str (.pair .str (.pair .str .unit))))) .unit)))))))))) (.pair .str .unit)
noncomputable def oB (F : Md) : aG := mSpec aGc (.one (.i .i64)) (fun x => gV F x.1 x.2.1)
noncomputable def aMm (F : Md) : List (FuncId × aG) := []
theorem aMn (F : Md) : bE Tryz.prog GL (aMm F) := .nil
attribute [go_sem] aGc aEi
set_option maxHeartbeats 4000000 in
theorem aEj (F : Md) : FOK Tryz.prog GL 62 (oB F) := by
 refine bH (bA (aMn F)) mix Tryz.func62 rfl (by kernel_rfl) (by decide) aEi fun w0 S x Θ hw h hF => ?_
 obtain ⟨(s_0 : (Int × (Int × (Int × (Int × ((List Nat) × ((List Nat) × ((List Nat) × ((List Nat) × ((List ((List Nat) × ((List ((List Nat) × (((List Nat) × ((List Nat) × Unit)) × (Ex × Unit)))) × ((List ((List Nat) × (((List Nat) × ((List Nat) × Unit)) × Unit))) × ((List (List Nat)) × ((List ((List Nat) × (Ex × Unit))) × Unit)))))) × ((List ((List Nat) × ((List Nat) × ((List Nat) × ((List Nat) × Unit))))) × Unit))))))))))), (sub_1 : (List Nat)), u⟩ := x
 simp only [bL, go_sem]
 replace h : sat (gV F s_0 sub_1) _ := h
 unfold gV at h
 refine aDG [] rfl rfl ?_
 simp only [go_sem]
 refine bS hF (D := Int) [1, 8, 9] (fun d => [(10, .val (.i .i64) d)]) (fun d => []) h rfl (by simp only [go_sem]) ?_
 rintro x10_5 A2 T2 hA2 hE2 h
 simp only [go_sem]
 replace h : sat (wQ F s_0 sub_1 x10_5) _ := h
 unfold wQ at h
 refine eC h (fun hc h => ?_) fun hc h => ?_
 ·refine aS h fun g0 h => ?_
  refine dP h (fun hc h => ?_) fun hc h => ?_
  ·replace h := hE2 _ (aA h)
   try dsimp only at h
   exact aI hF [.tmp 4] rfl rfl rfl (aA h) (by simp only [aT, go_sem])
  ·refine aS h fun g0 h => ?_
   replace h := hA2 _ (aA h)
   refine nA [] rfl rfl ?_
   simp only [go_sem]
   exact aV _ h rfl (by simp only [go_sem])
 ·replace h := hE2 _ (aA h)
  try dsimp only at h
  exact aI hF [.tmp 4] rfl rfl rfl (aA h) (by simp only [aT, go_sem])
attribute [go_sem] oB
noncomputable def pR (F : Md) (o_0 : ((List Nat) × (Ex × Unit))) (a1_1 : (List ((List Nat) × ((List Nat) × ((List Nat) × ((List Nat) × Unit)))))) : Option Bool :=
 ck ((0 : Int) < (((a1_1.length) : Nat) : Int)) (some (decide ((o_0.1) = (((((a1_1.getD (0 : Nat) (([] : List Nat), ([] : List Nat), ([] : List Nat), ([] : List Nat), ())).2).2).2).1))))
def aAr : PlR := ⟨[(0, .B [1, 2]), (1, .A [3])], []⟩
def aBf : Ty := .pair (.pair .str (.pair .expr .unit)) (.pair (.rp (.sl (.pair .str (.pair .str (.pair .str (.pair .str .unit)))))) .unit)
noncomputable def oI (F : Md) : aG := mSpec aBf (.one .bool) (fun x => pR F x.1 x.2.1)
noncomputable def aG5 (F : Md) : List (FuncId × aG) := []
theorem aG6 (F : Md) : bE Tryz.prog GL (aG5 F) := .nil
attribute [go_sem] aBf aAr
set_option maxHeartbeats 4000000 in
theorem aGd (F : Md) : FOK Tryz.prog GL 141 (oI F) := by
 refine bH (bA (aG6 F)) mix Tryz.func141 rfl (by kernel_rfl) (by decide) aAr fun w0 S x Θ hw h hF => ?_
 obtain ⟨(o_0 : ((List Nat) × (Ex × Unit))), (a1_1 : (List ((List Nat) × ((List Nat) × ((List Nat) × ((List Nat) × Unit)))))), u⟩ := x
 simp only [bL, go_sem]
 replace h : sat (pR F o_0 a1_1) _ := h
 unfold pR at h
 refine aS h fun g0 h => ?_
 exact aI hF [.tmp 3] rfl rfl rfl (aA h) (by simp only [aT, go_sem])
attribute [go_sem] oI
noncomputable def dB (F : Md) (s_0 : (List ((List Nat) × (Ex × Unit)))) (f_1 : ((List ((List Nat) × ((List Nat) × ((List Nat) × ((List Nat) × Unit))))) × Unit)) (x8_14 : Int) : Option ((Int) ⊕ ((Unit) ⊕ Int)) :=
 if x8_14 < (((s_0.length) : Nat) : Int) then ck (0 ≤ x8_14 ∧ x8_14 < (((s_0.length) : Nat) : Int)) ((pR F (s_0.getD (x8_14.toNat) (([] : List Nat), (Ex.mk 0 [] []), ())) (f_1.1)).bind (fun v_27 => if v_27 = true then some (.inr (.inr x8_14)) else ck (I64 (x8_14 + (1 : Int))) (some (.inl (x8_14 + (1 : Int)))))) else some (.inr (.inl ()))
noncomputable def cJ (F : Md) (s_0 : (List ((List Nat) × (Ex × Unit)))) (f_1 : ((List ((List Nat) × ((List Nat) × ((List Nat) × ((List Nat) × Unit))))) × Unit)) : Option Int :=
 (dG F (fun d : Int => dB F s_0 f_1 d) (0 : Int)).bind (fun e => match e with | (.inl e) => some (-1 : Int) | (.inr e) => some e)
def fE : PlR := ⟨[(0, .A [0, 1]), (1, .A [0, 1, 7, 8]), (2, .A [0, 1, 7, 8, 9]), (3, .A [0, 1, 5, 7, 8]), (4, .A [0, 1, 5, 7, 8, 16]), (5, .A [4]), (6, .A [0, 1, 7, 8]), (7, .A [4])], []⟩
def fO : Ty := .pair (.sl (.pair .str (.pair .expr .unit))) (.pair (.clo 141 (.pair (.rp (.sl (.pair .str (.pair .str (.pair .str (.pair .str .unit)))))) .unit)) .unit)
noncomputable def cG (F : Md) : aG := mSpec fO (.one (.i .i64)) (fun x => cJ F x.1 x.2.1)
noncomputable def fP (F : Md) : List (FuncId × aG) := [(141, (oI F))]
theorem lK (F : Md) : bE Tryz.prog GL (fP F) := .cons (aGd F) (by kernel_rfl) (.nil)
theorem jV (F : Md) : gam (fP F) 141 = some (oI F) := rfl
attribute [go_sem] fO fE jV
set_option maxHeartbeats 4000000 in
theorem lA (F : Md) : FOK Tryz.prog GL 204 (cG F) := by
 refine bH (bA (lK F)) mix Tryz.func204 rfl (by kernel_rfl) (by decide) fE fun w0 S x Θ hw h hF => ?_
 obtain ⟨(s_0 : (List ((List Nat) × (Ex × Unit)))), (f_1 : ((List ((List Nat) × ((List Nat) × ((List Nat) × ((List Nat) × Unit))))) × Unit)), u⟩ := x
 simp only [bL, go_sem]
 replace h : sat (cJ F s_0 f_1) _ := h
 unfold cJ at h
 refine bS hF (D := Int) [0, 1, 7] (fun d => [(8, .val (.i .i64) d)]) (fun d => []) h rfl (by simp only [go_sem]) ?_
 rintro x8_14 A2 T2 hA2 hE2 h
 simp only [go_sem]
 replace h : sat (dB F s_0 f_1 x8_14) _ := h
 unfold dB at h
 refine eC h (fun hc h => ?_) fun hc h => ?_
 ·refine aS h fun g0 h => ?_
  obtain ⟨v_27, hv, h⟩ := aM h
  try simp only [hv, go_sem]
  refine aHp h (fun hc h => ?_) fun hc h => ?_
  ·replace h := hE2 _ (aA h)
   try dsimp only at h
   exact aI hF [.tmp 4] rfl rfl rfl (aA h) (by simp only [aT, go_sem])
  ·refine aS h fun g0 h => ?_
   replace h := hA2 _ (aA h)
   exact aV _ h rfl (by simp only [go_sem])
 ·replace h := hE2 _ (aA h)
  try dsimp only at h
  exact aI hF [.tmp 4] rfl rfl rfl (aA h) (by simp only [aT, go_sem])
attribute [go_sem] cG
noncomputable def bP (F : Md) (s_0 : (List ((List Nat) × (Ex × Unit)))) (f_1 : ((List ((List Nat) × ((List Nat) × ((List Nat) × ((List Nat) × Unit))))) × Unit)) : Option Bool :=
 (cJ F s_0 f_1).bind (fun v_6 => some (decide ((0 : Int) ≤ v_6)))
def eI : PlR := ⟨[(0, .A [0, 1]), (1, .A [4])], []⟩
def eR : Ty := .pair (.sl (.pair .str (.pair .expr .unit))) (.pair (.clo 141 (.pair (.rp (.sl (.pair .str (.pair .str (.pair .str (.pair .str .unit)))))) .unit)) .unit)
noncomputable def cA (F : Md) : aG := mSpec eR (.one .bool) (fun x => bP F x.1 x.2.1)
noncomputable def eS (F : Md) : List (FuncId × aG) := [(204, (cG F))]
theorem kK (F : Md) : bE Tryz.prog GL (eS F) := .cons (lA F) (by kernel_rfl) (.nil)
theorem iX (F : Md) : gam (eS F) 204 = some (cG F) := rfl
attribute [go_sem] eR eI iX
set_option maxHeartbeats 4000000 in
theorem jW (F : Md) : FOK Tryz.prog GL 139 (cA F) := by
 refine bH (bA (kK F)) mix Tryz.func139 rfl (by kernel_rfl) (by decide) eI fun w0 S x Θ hw h hF => ?_
 obtain ⟨(s_0 : (List ((List Nat) × (Ex × Unit)))), (f_1 : ((List ((List Nat) × ((List Nat) × ((List Nat) × ((List Nat) × Unit))))) × Unit)), u⟩ := x
 simp only [bL, go_sem]
 replace h : sat (bP F s_0 f_1) _ := h
 unfold bP at h
 obtain ⟨v_6, hv, h⟩ := aM h
 try simp only [hv, go_sem]
 exact aI hF [.tmp 4] rfl rfl rfl (aA h) (by simp only [aT, go_sem])
attribute [go_sem] cA
noncomputable def tW (F : Md) (s_0 : (Int × (Int × (Int × (Int × ((List Nat) × ((List Nat) × ((List Nat) × ((List Nat) × ((List ((List Nat) × ((List ((List Nat) × (((List Nat) × ((List Nat) × Unit)) × (Ex × Unit)))) × ((List ((List Nat) × (((List Nat) × ((List Nat) × Unit)) × Unit))) × ((List (List Nat)) × ((List ((List Nat) × (Ex × Unit))) × Unit)))))) × ((List ((List Nat) × ((List Nat) × ((List Nat) × ((List Nat) × Unit))))) × Unit))))))))))) (x14_42 : Int) (x21_83 : Int) (l_84 : (List ((List Nat) × ((List Nat) × ((List Nat) × ((List Nat) × Unit)))))) : Option ((Int × (List ((List Nat) × ((List Nat) × ((List Nat) × ((List Nat) × Unit)))))) ⊕ (((List ((List Nat) × ((List Nat) × ((List Nat) × ((List Nat) × Unit)))))) ⊕ Bool)) :=
 if x21_83 < (((((((((((((((((s_0.2).2).2).2).2).2).2).2).1).getD (x14_42.toNat) (([] : List Nat), ([] : List ((List Nat) × (((List Nat) × ((List Nat) × Unit)) × (Ex × Unit)))), ([] : List ((List Nat) × (((List Nat) × ((List Nat) × Unit)) × Unit))), ([] : List (List Nat)), ([] : List ((List Nat) × (Ex × Unit))), ())).2).2).2).1).length) : Nat) : Int) then ck (0 ≤ x21_83 ∧ x21_83 < (((((((((((((((((s_0.2).2).2).2).2).2).2).2).1).getD (x14_42.toNat) (([] : List Nat), ([] : List ((List Nat) × (((List Nat) × ((List Nat) × Unit)) × (Ex × Unit)))), ([] : List ((List Nat) × (((List Nat) × ((List Nat) × Unit)) × Unit))), ([] : List (List Nat)), ([] : List ((List Nat) × (Ex × Unit))), ())).2).2).2).1).length) : Nat) : Int)) (ck ((¬ ((((l_84.length) : Nat) : Int) = (0 : Int)) → ((0 : Int) < (((l_84.length) : Nat) : Int)))) (ck ((¬ (((((l_84.length) : Nat) : Int) = (0 : Int)) ∨ (¬ (((l_84.getD (0 : Nat) (([] : List Nat), ([] : List Nat), ([] : List Nat), ([] : List Nat), ())).1) = (((((((((((s_0.2).2).2).2).2).2).2).2).1).getD (x14_42.toNat) (([] : List Nat), ([] : List ((List Nat) × (((List Nat) × ((List Nat) × Unit)) × (Ex × Unit)))), ([] : List ((List Nat) × (((List Nat) × ((List Nat) × Unit)) × Unit))), ([] : List (List Nat)), ([] : List ((List Nat) × (Ex × Unit))), ())).1)))) → ((0 : Int) < (((l_84.length) : Nat) : Int)))) (if (((((l_84.length) : Nat) : Int) = (0 : Int)) ∨ (¬ (((l_84.getD (0 : Nat) (([] : List Nat), ([] : List Nat), ([] : List Nat), ([] : List Nat), ())).1) = (((((((((((s_0.2).2).2).2).2).2).2).2).1).getD (x14_42.toNat) (([] : List Nat), ([] : List ((List Nat) × (((List Nat) × ((List Nat) × Unit)) × (Ex × Unit)))), ([] : List ((List Nat) × (((List Nat) × ((List Nat) × Unit)) × Unit))), ([] : List (List Nat)), ([] : List ((List Nat) × (Ex × Unit))), ())).1)))) ∨ (¬ ((((l_84.getD (0 : Nat) (([] : List Nat), ([] : List Nat), ([] : List Nat), ([] : List Nat), ())).2).1) = (((((((((((((((s_0.2).2).2).2).2).2).2).2).1).getD (x14_42.toNat) (([] : List Nat), ([] : List ((List Nat) × (((List Nat) × ((List Nat) × Unit)) × (Ex × Unit)))), ([] : List ((List Nat) × (((List Nat) × ((List Nat) × Unit)) × Unit))), ([] : List (List Nat)), ([] : List ((List Nat) × (Ex × Unit))), ())).2).2).2).1).getD (x21_83.toNat) ([] : List Nat)))) then some (.inr (.inr false)) else ck ((0 : Int) < (((l_84.length) : Nat) : Int)) ((gV F s_0 ((((l_84.getD (0 : Nat) (([] : List Nat), ([] : List Nat), ([] : List Nat), ([] : List Nat), ())).2).2).1)).bind (fun v_99 => ck ((¬ (v_99 < (0 : Int)) → (0 ≤ v_99 ∧ v_99 < ((((((((((((s_0.2).2).2).2).2).2).2).2).1).length) : Nat) : Int)))) (ck ((¬ (v_99 < (0 : Int)) → (((bP F (((((((((((((((s_0.2).2).2).2).2).2).2).2).1).getD (v_99.toNat) (([] : List Nat), ([] : List ((List Nat) × (((List Nat) × ((List Nat) × Unit)) × (Ex × Unit)))), ([] : List ((List Nat) × (((List Nat) × ((List Nat) × Unit)) × Unit))), ([] : List (List Nat)), ([] : List ((List Nat) × (Ex × Unit))), ())).2).2).2).2).1) (l_84, ())).isSome = true)))) (if (v_99 < (0 : Int)) ∨ (¬ (((bP F (((((((((((((((s_0.2).2).2).2).2).2).2).2).1).getD (v_99.toNat) (([] : List Nat), ([] : List ((List Nat) × (((List Nat) × ((List Nat) × Unit)) × (Ex × Unit)))), ([] : List ((List Nat) × (((List Nat) × ((List Nat) × Unit)) × Unit))), ([] : List (List Nat)), ([] : List ((List Nat) × (Ex × Unit))), ())).2).2).2).2).1) (l_84, ())).getD false) = true)) then some (.inr (.inr false)) else ck ((1 : Int) ≤ (((l_84.length) : Nat) : Int)) (ck (I64 (x21_83 + (1 : Int))) (some (.inl ((x21_83 + (1 : Int)), (List.drop (1 : Nat) l_84)))))))))))) else some (.inr (.inl l_84))
noncomputable def tX (F : Md) (s_0 : (Int × (Int × (Int × (Int × ((List Nat) × ((List Nat) × ((List Nat) × ((List Nat) × ((List ((List Nat) × ((List ((List Nat) × (((List Nat) × ((List Nat) × Unit)) × (Ex × Unit)))) × ((List ((List Nat) × (((List Nat) × ((List Nat) × Unit)) × Unit))) × ((List (List Nat)) × ((List ((List Nat) × (Ex × Unit))) × Unit)))))) × ((List ((List Nat) × ((List Nat) × ((List Nat) × ((List Nat) × Unit))))) × Unit))))))))))) (x14_42 : Int) (l_43 : (List ((List Nat) × ((List Nat) × ((List Nat) × ((List Nat) × Unit)))))) : Option ((Int × (List ((List Nat) × ((List Nat) × ((List Nat) × ((List Nat) × Unit)))))) ⊕ (((List ((List Nat) × ((List Nat) × ((List Nat) × ((List Nat) × Unit)))))) ⊕ Bool)) :=
 if x14_42 < ((((((((((((s_0.2).2).2).2).2).2).2).2).1).length) : Nat) : Int) then ck (0 ≤ x14_42 ∧ x14_42 < ((((((((((((s_0.2).2).2).2).2).2).2).2).1).length) : Nat) : Int)) ((dG F (fun d : Int × (List ((List Nat) × ((List Nat) × ((List Nat) × ((List Nat) × Unit))))) => tW F s_0 x14_42 d.1 d.2) ((0 : Int), l_43)).bind (fun e => match e with | (.inl e) => ck (I64 (x14_42 + (1 : Int))) (some (.inl ((x14_42 + (1 : Int)), e))) | (.inr e) => some (.inr (.inr e)))) else some (.inr (.inl l_43))
noncomputable def pA (F : Md) (s_0 : (Int × (Int × (Int × (Int × ((List Nat) × ((List Nat) × ((List Nat) × ((List Nat) × ((List ((List Nat) × ((List ((List Nat) × (((List Nat) × ((List Nat) × Unit)) × (Ex × Unit)))) × ((List ((List Nat) × (((List Nat) × ((List Nat) × Unit)) × Unit))) × ((List (List Nat)) × ((List ((List Nat) × (Ex × Unit))) × Unit)))))) × ((List ((List Nat) × ((List Nat) × ((List Nat) × ((List Nat) × Unit))))) × Unit))))))))))) : Option Bool :=
 (dG F (fun d : Int × (List ((List Nat) × ((List Nat) × ((List Nat) × ((List Nat) × Unit))))) => tX F s_0 d.1 d.2) ((0 : Int), ((((((((((s_0.2).2).2).2).2).2).2).2).2).1))).bind (fun e => match e with | (.inl e) => some (decide ((((e.length) : Nat) : Int) = (0 : Int))) | (.inr e) => some e)
def aCn : PlR := ⟨[(0, .B [1]), (1, .B [1, 3]), (2, .A [1, 3, 12, 13, 14]), (3, .A [1, 3, 12, 13, 14, 15]), (4, .B [1, 3, 5, 12, 13, 14]), (5, .A [1, 3, 5, 12, 13, 14, 19, 20, 21]), (6, .A [1, 3, 5, 12, 13, 14, 19, 20, 21, 22]), (7, .A [1, 3, 5, 7, 12, 13, 14, 19, 20, 21]), (8, .A [1, 3, 5, 12, 13, 14, 19, 20, 21, 44]), (9, .A [2]), (10, .A [1, 3, 5, 8, 12, 13, 14, 19, 20, 21]), (11, .A [1, 3, 5, 12, 13, 14, 19, 20, 21, 63]), (12, .A [2]), (13, .B [1, 3, 5, 12, 13, 14, 19, 20, 21]), (14, .A [1, 3, 5, 12, 13, 14, 19, 20, 21]), (15, .A [1, 3, 12, 13, 14]), (16, .A [2])], []⟩
def aDq : Ty := .pair (.pair (.i .i64) (.pair (.i .i64) (.pair (.i .i64) (.pair (.i .i64) (.pair .str (.pair .str (.pair .str (.pair .str (.pair (.sl (.pair .str (.pair (.sl (.pair .str (.pair (.pair .str (.pair .str .unit)) (.pair .expr .unit)))) (.pair (.sl (.pair .str (.pair (.pair .str (.pair .str .unit)) .unit))) (.pair (.sl .str) (.pair (.sl (.pair .str (.pair .expr .unit))) .unit)))))) (.pair (.sl (.pair .str (.pair .str (.pair .str (.pair .str .unit))))) .unit)))))))))) .unit
noncomputable def rK (F : Md) : aG := mSpec aDq (.one .bool) (fun x => pA F x.1)
noncomputable def zM (F : Md) : List (FuncId × aG) := [(139, (cA F)), (62, (oB F))]
theorem aKv (F : Md) : bE Tryz.prog GL (zM F) := .cons (jW F) (by kernel_rfl) (.cons (aEj F) (by kernel_rfl) (.nil))
theorem aEV (F : Md) : gam (zM F) 139 = some (cA F) := rfl
theorem aGe (F : Md) : gam (zM F) 62 = some (oB F) := rfl
attribute [go_sem] aDq aCn aEV aGe
set_option maxHeartbeats 4000000 in
theorem aII (F : Md) : FOK Tryz.prog GL 69 (rK F) := by
 refine bH (bA (aKv F)) mix Tryz.func69 rfl (by kernel_rfl) (by decide) aCn fun w0 S x Θ hw h hF => ?_
 obtain ⟨(s_0 : (Int × (Int × (Int × (Int × ((List Nat) × ((List Nat) × ((List Nat) × ((List Nat) × ((List ((List Nat) × ((List ((List Nat) × (((List Nat) × ((List Nat) × Unit)) × (Ex × Unit)))) × ((List ((List Nat) × (((List Nat) × ((List Nat) × Unit)) × Unit))) × ((List (List Nat)) × ((List ((List Nat) × (Ex × Unit))) × Unit)))))) × ((List ((List Nat) × ((List Nat) × ((List Nat) × ((List Nat) × Unit))))) × Unit))))))))))), u⟩ := x
 simp only [bL, go_sem]
 replace h : sat (pA F s_0) _ := h
 unfold pA at h
 refine bS hF (D := Int × (List ((List Nat) × ((List Nat) × ((List Nat) × ((List Nat) × Unit)))))) [12, 13] (fun d => [(1, .ptr 0 []), (3, .ptr 1 []), (14, .val (.i .i64) d.1)]) (fun d => [.inr (.box 10 (.val (.pair (.i .i64) (.pair (.i .i64) (.pair (.i .i64) (.pair (.i .i64) (.pair .str (.pair .str (.pair .str (.pair .str (.pair (.sl (.pair .str (.pair (.sl (.pair .str (.pair (.pair .str (.pair .str .unit)) (.pair .expr .unit)))) (.pair (.sl (.pair .str (.pair (.pair .str (.pair .str .unit)) .unit))) (.pair (.sl .str) (.pair (.sl (.pair .str (.pair .expr .unit))) .unit)))))) (.pair (.sl (.pair .str (.pair .str (.pair .str (.pair .str .unit))))) .unit)))))))))) s_0)), .inr (.box 1 (.val (.sl (.pair .str (.pair .str (.pair .str (.pair .str .unit))))) d.2))]) h rfl (by simp only [go_sem]) ?_
 rintro ⟨x14_42, l_43⟩ A3 T3 hA3 hE3 h
 simp only [go_sem]
 replace h : sat (tX F s_0 x14_42 l_43) _ := h
 unfold tX at h
 refine eC h (fun hc h => ?_) fun hc h => ?_
 ·obtain ⟨g0, h⟩ := aN h
  repeat (refine ⟨by first | with_reducible assumption | omega | (intros; first | with_reducible assumption | omega) | (simp only [go_sem] at *; first | with_reducible assumption | omega) | decide, ?_⟩)
  refine bS hF (D := Int × (List ((List Nat) × ((List Nat) × ((List Nat) × ((List Nat) × Unit)))))) [12, 13, 14, 19, 20] (fun d => [(1, .ptr 0 []), (3, .ptr 1 []), (5, .ptr 2 []), (21, .val (.i .i64) d.1)]) (fun d => [.inr (.box 10 (.val (.pair (.i .i64) (.pair (.i .i64) (.pair (.i .i64) (.pair (.i .i64) (.pair .str (.pair .str (.pair .str (.pair .str (.pair (.sl (.pair .str (.pair (.sl (.pair .str (.pair (.pair .str (.pair .str .unit)) (.pair .expr .unit)))) (.pair (.sl (.pair .str (.pair (.pair .str (.pair .str .unit)) .unit))) (.pair (.sl .str) (.pair (.sl (.pair .str (.pair .expr .unit))) .unit)))))) (.pair (.sl (.pair .str (.pair .str (.pair .str (.pair .str .unit))))) .unit)))))))))) s_0)), .inr (.box 1 (.val (.sl (.pair .str (.pair .str (.pair .str (.pair .str .unit))))) d.2)), .inr (.box 5 (.val (.pair .str (.pair (.sl (.pair .str (.pair (.pair .str (.pair .str .unit)) (.pair .expr .unit)))) (.pair (.sl (.pair .str (.pair (.pair .str (.pair .str .unit)) .unit))) (.pair (.sl .str) (.pair (.sl (.pair .str (.pair .expr .unit))) .unit))))) ((((((((((s_0.2).2).2).2).2).2).2).2).1).getD (x14_42.toNat) (([] : List Nat), ([] : List ((List Nat) × (((List Nat) × ((List Nat) × Unit)) × (Ex × Unit)))), ([] : List ((List Nat) × (((List Nat) × ((List Nat) × Unit)) × Unit))), ([] : List (List Nat)), ([] : List ((List Nat) × (Ex × Unit))), ()))))]) h rfl (by simp only [go_sem]) ?_
  rintro ⟨x21_83, l_84⟩ A6 T6 hA6 hE6 h
  simp only [go_sem]
  replace h : sat (tW F s_0 x14_42 x21_83 l_84) _ := h
  unfold tW at h
  refine eC h (fun hc h => ?_) fun hc h => ?_
  ·obtain ⟨g0, h⟩ := aN h
   repeat (refine ⟨by first | with_reducible assumption | omega | (intros; first | with_reducible assumption | omega) | (simp only [go_sem] at *; first | with_reducible assumption | omega) | decide, ?_⟩)
   obtain ⟨g0, h⟩ := aN h
   obtain ⟨g1, h⟩ := aN h
   repeat (refine ⟨by first | with_reducible assumption | omega | (intros; first | with_reducible assumption | omega) | (simp only [go_sem] at *; first | with_reducible assumption | omega) | (intro q0; (try have e0 := g0 (by first | exact q0 | omega | (simpa using q0))); (try have e1 := g1 (by first | exact q0 | omega | (simpa using q0))); first | assumption | omega) | decide, ?_⟩)
   refine ⟨fun hc => ?_, fun hc => ?_⟩
   ·replace h := iR hc h
    replace h := hE6 _ (aA h)
    try dsimp only at h
    replace h := hE3 _ (aA h)
    try dsimp only at h
    exact aI hF [.tmp 2] rfl rfl rfl (aA h) (by simp only [aT, go_sem])
   ·replace h := iS hc h
    obtain ⟨g0, h⟩ := aN h
    repeat (refine ⟨by first | with_reducible assumption | omega | (intros; first | with_reducible assumption | omega) | (simp only [go_sem] at *; first | with_reducible assumption | omega) | decide, ?_⟩)
    obtain ⟨v_99, hv, h⟩ := aM h
    try simp only [hv, go_sem]
    obtain ⟨g0, h⟩ := aN h
    obtain ⟨g1, h⟩ := aN h
    repeat (refine ⟨by first | with_reducible assumption | omega | (intros; first | with_reducible assumption | omega) | (simp only [go_sem] at *; first | with_reducible assumption | omega) | (intro q0; (try have e0 := g0 (by first | exact q0 | omega | (simpa using q0))); (try have e1 := g1 (by first | exact q0 | omega | (simpa using q0))); first | assumption | omega) | decide, ?_⟩)
    refine ⟨fun hc => ?_, fun hc => ?_⟩
    ·replace h := iR (by first | exact hc | omega | (simpa using hc) | (simp at hc ⊢; omega)) h
     replace h := hE6 _ (aA h)
     try dsimp only at h
     replace h := hE3 _ (aA h)
     try dsimp only at h
     exact aI hF [.tmp 2] rfl rfl rfl (aA h) (by simp only [aT, go_sem])
    ·replace h := iS (by first | exact hc | omega | (simpa using hc) | (simp at hc ⊢; omega)) h
     obtain ⟨g0, h⟩ := aN h
     repeat (refine ⟨by first | with_reducible assumption | omega | (intros; first | with_reducible assumption | omega) | (simp only [go_sem] at *; first | with_reducible assumption | omega) | decide, ?_⟩)
     obtain ⟨g0, h⟩ := aN h
     try simp only [I64, I32] at g0
     repeat (refine ⟨by first | with_reducible assumption | omega | (intros; first | with_reducible assumption | omega) | (simp only [go_sem] at *; first | with_reducible assumption | omega) | decide, ?_⟩)
     replace h := hA6 _ (aA h)
     exact aV _ h rfl (by simp only [go_sem])
  ·replace h := hE6 _ (aA h)
   try dsimp only at h
   obtain ⟨g0, h⟩ := aN h
   try simp only [I64, I32] at g0
   repeat (refine ⟨by first | with_reducible assumption | omega | (intros; first | with_reducible assumption | omega) | (simp only [go_sem] at *; first | with_reducible assumption | omega) | decide, ?_⟩)
   replace h := hA3 _ (aA h)
   refine nA [0, 1] rfl rfl ?_
   simp only [go_sem]
   exact aV _ h rfl (by simp only [go_sem])
 ·replace h := hE3 _ (aA h)
  try dsimp only at h
  exact aI hF [.tmp 2] rfl rfl rfl (aA h) (by simp only [aT, go_sem])
attribute [go_sem] rK
noncomputable def tY (F : Md) (s_0 : (Int × (Int × (Int × (Int × ((List Nat) × ((List Nat) × ((List Nat) × ((List Nat) × ((List ((List Nat) × ((List ((List Nat) × (((List Nat) × ((List Nat) × Unit)) × (Ex × Unit)))) × ((List ((List Nat) × (((List Nat) × ((List Nat) × Unit)) × Unit))) × ((List (List Nat)) × ((List ((List Nat) × (Ex × Unit))) × Unit)))))) × ((List ((List Nat) × ((List Nat) × ((List Nat) × ((List Nat) × Unit))))) × Unit))))))))))) (names_16 : (List (List Nat))) : Option (Bool) :=
 (oA F names_16).bind (fun v_20 => ck (((v_20 = true) → (((pA F s_0).isSome = true)))) (some (v_20 && ((pA F s_0).getD false))))
noncomputable def zN (F : Md) (s_0 : (Int × (Int × (Int × (Int × ((List Nat) × ((List Nat) × ((List Nat) × ((List Nat) × ((List ((List Nat) × ((List ((List Nat) × (((List Nat) × ((List Nat) × Unit)) × (Ex × Unit)))) × ((List ((List Nat) × (((List Nat) × ((List Nat) × Unit)) × Unit))) × ((List (List Nat)) × ((List ((List Nat) × (Ex × Unit))) × Unit)))))) × ((List ((List Nat) × ((List Nat) × ((List Nat) × ((List Nat) × Unit))))) × Unit))))))))))) (x24_23 : Int) (names_24 : (List (List Nat))) : Option ((Int × (List (List Nat))) ⊕ (((List (List Nat))) ⊕ Bool)) :=
 if x24_23 < ((((((((((((s_0.2).2).2).2).2).2).2).2).1).length) : Nat) : Int) then ck (0 ≤ x24_23 ∧ x24_23 < ((((((((((((s_0.2).2).2).2).2).2).2).2).1).length) : Nat) : Int)) ((tU F ((((((((((s_0.2).2).2).2).2).2).2).2).1).getD (x24_23.toNat) (([] : List Nat), ([] : List ((List Nat) × (((List Nat) × ((List Nat) × Unit)) × (Ex × Unit)))), ([] : List ((List Nat) × (((List Nat) × ((List Nat) × Unit)) × Unit))), ([] : List (List Nat)), ([] : List ((List Nat) × (Ex × Unit))), ()))).bind (fun v_37 => if ¬ (v_37 = true) then some (.inr (.inr false)) else ck (((names_24.length) + (1 : Nat)) * 16 ≤ 140737488355328) (ck (I64 (x24_23 + (1 : Int))) (some (.inl ((x24_23 + (1 : Int)), (names_24 ++ ([(((((((((((s_0.2).2).2).2).2).2).2).2).1).getD (x24_23.toNat) (([] : List Nat), ([] : List ((List Nat) × (((List Nat) × ((List Nat) × Unit)) × (Ex × Unit)))), ([] : List ((List Nat) × (((List Nat) × ((List Nat) × Unit)) × Unit))), ([] : List (List Nat)), ([] : List ((List Nat) × (Ex × Unit))), ())).1)] : List (List Nat))))))))) else some (.inr (.inl names_24))
noncomputable def bR (F : Md) (s_0 : (Int × (Int × (Int × (Int × ((List Nat) × ((List Nat) × ((List Nat) × ((List Nat) × ((List ((List Nat) × ((List ((List Nat) × (((List Nat) × ((List Nat) × Unit)) × (Ex × Unit)))) × ((List ((List Nat) × (((List Nat) × ((List Nat) × Unit)) × Unit))) × ((List (List Nat)) × ((List ((List Nat) × (Ex × Unit))) × Unit)))))) × ((List ((List Nat) × ((List Nat) × ((List Nat) × ((List Nat) × Unit))))) × Unit))))))))))) : Option Bool :=
 (rF F s_0).bind (fun v_7 => if ((¬ (v_7 = true)) ∨ (((((((((((((s_0.2).2).2).2).2).2).2).2).1).length) : Nat) : Int) < (1 : Int))) ∨ ((4 : Int) < ((((((((((((s_0.2).2).2).2).2).2).2).2).1).length) : Nat) : Int)) then some false else (dG F (fun d : Int × (List (List Nat)) => zN F s_0 d.1 d.2) ((0 : Int), ([] : List (List Nat)))).bind (fun e => match e with | (.inl e) => tY F s_0 e | (.inr e) => some e))
def aGf : PlR := ⟨[(0, .B [1]), (1, .A [1, 20]), (2, .A [2]), (3, .A [1, 3]), (4, .A [1, 3, 22, 23, 24]), (5, .A [1, 3, 22, 23, 24, 25]), (6, .B [1, 3, 5, 22, 23, 24]), (7, .A [1, 3, 5, 22, 23, 24, 30]), (8, .A [2]), (9, .B [1, 3, 22, 23, 24]), (10, .A [1, 3, 22, 23, 24]), (11, .A [2])], [(7, 14)]⟩
def aHY : Ty := .pair (.pair (.i .i64) (.pair (.i .i64) (.pair (.i .i64) (.pair (.i .i64) (.pair .str (.pair .str (.pair .str (.pair .str (.pair (.sl (.pair .str (.pair (.sl (.pair .str (.pair (.pair .str (.pair .str .unit)) (.pair .expr .unit)))) (.pair (.sl (.pair .str (.pair (.pair .str (.pair .str .unit)) .unit))) (.pair (.sl .str) (.pair (.sl (.pair .str (.pair .expr .unit))) .unit)))))) (.pair (.sl (.pair .str (.pair .str (.pair .str (.pair .str .unit))))) .unit)))))))))) .unit
noncomputable def pS (F : Md) : aG := mSpec aHY (.one .bool) (fun x => bR F x.1)
noncomputable def wE (F : Md) : List (FuncId × aG) := [(66, (pJ F)), (67, (rJ F)), (68, (mT F)), (69, (rK F))]
theorem aNp (F : Md) : bE Tryz.prog GL (wE F) := .cons (aGY F) (by kernel_rfl) (.cons (aIH F) (by kernel_rfl) (.cons (aDh F) (by kernel_rfl) (.cons (aII F) (by kernel_rfl) (.nil))))
theorem aKw (F : Md) : gam (wE F) 66 = some (pJ F) := rfl
theorem aKx (F : Md) : gam (wE F) 67 = some (rJ F) := rfl
theorem aKy (F : Md) : gam (wE F) 68 = some (mT F) := rfl
theorem aKz (F : Md) : gam (wE F) 69 = some (rK F) := rfl
attribute [go_sem] aHY aGf aKw aKx aKy aKz
set_option maxHeartbeats 4000000 in
theorem aGg (F : Md) : FOK Tryz.prog GL 28 (pS F) := by
 refine bH (bA (aNp F)) mix Tryz.func28 rfl (by kernel_rfl) (by decide) aGf fun w0 S x Θ hw h hF => ?_
 obtain ⟨(s_0 : (Int × (Int × (Int × (Int × ((List Nat) × ((List Nat) × ((List Nat) × ((List Nat) × ((List ((List Nat) × ((List ((List Nat) × (((List Nat) × ((List Nat) × Unit)) × (Ex × Unit)))) × ((List ((List Nat) × (((List Nat) × ((List Nat) × Unit)) × Unit))) × ((List (List Nat)) × ((List ((List Nat) × (Ex × Unit))) × Unit)))))) × ((List ((List Nat) × ((List Nat) × ((List Nat) × ((List Nat) × Unit))))) × Unit))))))))))), u⟩ := x
 simp only [bL, go_sem]
 replace h : sat (bR F s_0) _ := h
 unfold bR at h
 obtain ⟨v_7, hv, h⟩ := aM h
 try simp only [hv, go_sem]
 refine ⟨fun hc => ?_, fun hc => ?_⟩
 ·replace h := iR (by first | exact hc | omega | (simpa using hc) | (simp at hc ⊢; omega)) h
  exact aI hF [.tmp 2] rfl rfl rfl (aA h) (by simp only [aT, go_sem])
 ·replace h := iS (by first | exact hc | omega | (simpa using hc) | (simp at hc ⊢; omega)) h
  refine dZ hF (D := (List (List Nat))) (fun d => sat (tY F s_0 d) Θ) [] (fun d => [(1, .ptr 0 []), (3, .own 1)]) (fun d => [.inr (.box 10 (.val (.pair (.i .i64) (.pair (.i .i64) (.pair (.i .i64) (.pair (.i .i64) (.pair .str (.pair .str (.pair .str (.pair .str (.pair (.sl (.pair .str (.pair (.sl (.pair .str (.pair (.pair .str (.pair .str .unit)) (.pair .expr .unit)))) (.pair (.sl (.pair .str (.pair (.pair .str (.pair .str .unit)) .unit))) (.pair (.sl .str) (.pair (.sl (.pair .str (.pair .expr .unit))) .unit)))))) (.pair (.sl (.pair .str (.pair .str (.pair .str (.pair .str .unit))))) .unit)))))))))) s_0)), .inr (.row 9 .str d)]) ?_ ?_
  ·simp only [go_sem]
   refine aBE 3 9 .str rfl ?_
   simp only [go_sem]
   refine bS hF (D := Int × (List (List Nat))) [22, 23] (fun d => [(1, .ptr 0 []), (3, .own 1), (24, .val (.i .i64) d.1)]) (fun d => [.inr (.box 10 (.val (.pair (.i .i64) (.pair (.i .i64) (.pair (.i .i64) (.pair (.i .i64) (.pair .str (.pair .str (.pair .str (.pair .str (.pair (.sl (.pair .str (.pair (.sl (.pair .str (.pair (.pair .str (.pair .str .unit)) (.pair .expr .unit)))) (.pair (.sl (.pair .str (.pair (.pair .str (.pair .str .unit)) .unit))) (.pair (.sl .str) (.pair (.sl (.pair .str (.pair .expr .unit))) .unit)))))) (.pair (.sl (.pair .str (.pair .str (.pair .str (.pair .str .unit))))) .unit)))))))))) s_0)), .inr (.row 9 .str d.2)]) h rfl (by simp only [go_sem]) ?_
   rintro ⟨x24_23, names_24⟩ A5 T5 hA5 hE5 h
   simp only [go_sem]
   replace h : sat (zN F s_0 x24_23 names_24) _ := h
   unfold zN at h
   refine eC h (fun hc h => ?_) fun hc h => ?_
   ·obtain ⟨g0, h⟩ := aN h
    repeat (refine ⟨by omega, ?_⟩)
    obtain ⟨v_37, hv, h⟩ := aM h
    try simp only [hv, go_sem]
    refine aAy h (fun hc h => ?_) fun hc h => ?_
    ·replace h := hE5 _ (aA h)
     try dsimp only at h
     exact aI hF [.tmp 2] rfl rfl rfl (aA h) (by simp only [aT, go_sem])
    ·obtain ⟨g0, h⟩ := aN h
     repeat (refine ⟨by omega, ?_⟩)
     obtain ⟨g0, h⟩ := aN h
     repeat (refine ⟨by omega, ?_⟩)
     replace h := hA5 _ (aA h)
     refine nA [0, 3] rfl rfl ?_
     simp only [go_sem]
     exact aV _ h rfl (by simp only [go_sem])
   ·replace h := hE5 _ (aA h)
    try dsimp only at h
    exact aV (names_24) h rfl (by simp only [go_sem])
  ·rintro names_16 h
   simp only [go_sem]
   replace h : sat (tY F s_0 names_16) _ := h
   unfold tY at h
   obtain ⟨v_20, hv, h⟩ := aM h
   try simp only [hv, go_sem]
   obtain ⟨g0, h⟩ := aN h
   repeat (refine ⟨by omega, ?_⟩)
   exact aI hF [.tmp 2] rfl rfl rfl (aA h) (by simp only [aT, go_sem])
attribute [go_sem] pS
end Nu
end Go.Proofs
