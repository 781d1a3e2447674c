import Derived.Test.YtkihplehmkbfaaaGreatDoorZS1
import Derived.Test.YtkihplehmkbfaaaGreatDoorZL6
import Derived.Lib.AppendZeros
import Derived.Lib.SliceRun
import Derived.WalkKit
import Derived.Lib.Walk
import Derived.Shelf.RegionOpenPlain
set_option linter.unusedVariables false
set_option linter.unusedSimpArgs false
namespace Go.Proofs
open Go.Vc
set_option maxRecDepth 20000
namespace Nu
def aKg : ByteArray := ⟨⟨97 :: 98 :: 99 :: 100 :: 101 :: 102 :: 103 :: 104 :: 105 :: 106 :: 107 :: 108 :: 109 :: 110 :: 111 :: 112 :: 113 :: 114 :: 115 :: 116 :: 117 :: 118 :: 119 :: 120 :: 121 :: 122 :: 48 :: 49 :: 50 :: 51 :: 52 :: 53 :: 54 :: 55 :: 56 :: 57 :: 95 :: []⟩⟩
theorem aKT : (⟨⟨97 :: 98 :: 99 :: 100 :: 101 :: 102 :: 103 :: 104 :: 105 :: 106 :: 107 :: 108 :: 109 :: 110 :: 111 :: 112 :: 113 :: 114 :: 115 :: 116 :: 117 :: 118 :: 119 :: 120 :: 121 :: 122 :: 48 :: 49 :: 50 :: 51 :: 52 :: 53 :: 54 :: 55 :: 56 :: 57 :: 95 :: []⟩⟩ : ByteArray) = aKg := rfl
attribute [go_sem] aKT
noncomputable def lA (F : Md) (c_1 : Nat) (s_5 : (List Nat)) : Option (((List Nat)) ⊕ (((List Nat)))) :=
 ck ((((0 : Int) < (((s_5.length) : Nat) : Int)) → (I64 ((((s_5.length) : Nat) : Int) - (1 : Int))))) (ck ((((0 : Int) < (((s_5.length) : Nat) : Int)) → (0 ≤ ((((s_5.length) : Nat) : Int) - (1 : Int)) ∧ ((((s_5.length) : Nat) : Int) - (1 : Int)) < (((s_5.length) : Nat) : Int)))) (if ((0 : Int) < (((s_5.length) : Nat) : Int)) ∧ ((s_5.getD (((((s_5.length) : Nat) : Int) - (1 : Int)).toNat) (0 : Nat)) = c_1) then ck (I64 ((((s_5.length) : Nat) : Int) - (1 : Int))) (ck (0 ≤ ((((s_5.length) : Nat) : Int) - (1 : Int)) ∧ ((((s_5.length) : Nat) : Int) - (1 : Int)) ≤ (((s_5.length) : Nat) : Int)) (some (.inl (List.take (((((s_5.length) : Nat) : Int) - (1 : Int)).toNat) s_5)))) else some (.inr s_5)))
noncomputable def jJ (F : Md) (s_0 : (List Nat)) (c_1 : Nat) : Option (List Nat) :=
 (dJ F (fun d : (List Nat) => lA F c_1 d) s_0).bind (fun e => some e)
def qQ : PlR := ⟨[(0, .A [0, 1]), (1, .A [0, 1, 16]), (2, .A [0, 1]), (3, .A [4])], []⟩
def sH : Ty := .pair .str (.pair (.u .u8) .unit)
noncomputable def iN (F : Md) : aG := mSpec sH (.one .str) (fun x => jJ F x.1 x.2.1)
noncomputable def aA1 (F : Md) : List (FuncId × aG) := []
theorem aA2 (F : Md) : bI Tryz.prog GL (aA1 F) := .nil
attribute [go_sem] sH qQ
set_option maxHeartbeats 4000000 in
theorem aAF (F : Md) : FOK Tryz.prog GL 143 (iN F) := by
 refine bK (bD (aA2 F)) mix Tryz.func143 rfl (by kernel_rfl) (by decide) qQ fun w0 S x Θ hw h hF => ?_
 obtain ⟨(s_0 : (List Nat)), (c_1 : Nat), u⟩ := x
 simp only [bP, go_sem]
 replace h : sat (jJ F s_0 c_1) _ := h
 unfold jJ at h
 refine bW hF (D := (List Nat)) [1] (fun d => [(0, .val .str d)]) (fun d => []) h rfl (by simp only [go_sem]) ?_
 rintro s_5 A1 T1 hA1 hE1 h
 simp only [go_sem]
 replace h : sat (lA F c_1 s_5) _ := h
 unfold lA at h
 refine aU h fun g0 h => aU h fun g1 h => ?_
 refine ⟨fun hc => ?_, fun hc => ?_⟩
 ·replace h := iV hc h
  refine aU h fun g0 h => aU h fun g1 h => ?_
  replace h := hA1 _ (aA h)
  exact aQ _ h rfl (by simp only [go_sem])
 ·replace h := iW hc h
  replace h := hE1 _ (aA h)
  try dsimp only at h
  exact aH hF [.tmp 4] rfl rfl rfl (aA h) (by simp only [aV, go_sem])
attribute [go_sem] iN
noncomputable def lO (F : Md) (c_1 : Nat) (s_5 : (List Nat)) : Option (((List Nat)) ⊕ (((List Nat)))) :=
 ck ((((0 : Int) < (((s_5.length) : Nat) : Int)) → ((0 : Int) < (((s_5.length) : Nat) : Int)))) (if ((0 : Int) < (((s_5.length) : Nat) : Int)) ∧ ((s_5.getD (0 : Nat) (0 : Nat)) = c_1) then ck ((1 : Int) ≤ (((s_5.length) : Nat) : Int)) (some (.inl (List.drop (1 : Nat) s_5))) else some (.inr s_5))
noncomputable def kI (F : Md) (s_0 : (List Nat)) (c_1 : Nat) : Option (List Nat) :=
 (dJ F (fun d : (List Nat) => lO F c_1 d) s_0).bind (fun e => some e)
def sI : PlR := ⟨[(0, .A [0, 1]), (1, .A [0, 1, 13]), (2, .A [0, 1]), (3, .A [4])], []⟩
def tF : Ty := .pair .str (.pair (.u .u8) .unit)
noncomputable def jK (F : Md) : aG := mSpec tF (.one .str) (fun x => kI F x.1 x.2.1)
noncomputable def aBX (F : Md) : List (FuncId × aG) := []
theorem aBY (F : Md) : bI Tryz.prog GL (aBX F) := .nil
attribute [go_sem] tF sI
set_option maxHeartbeats 4000000 in
theorem aA3 (F : Md) : FOK Tryz.prog GL 142 (jK F) := by
 refine bK (bD (aBY F)) mix Tryz.func142 rfl (by kernel_rfl) (by decide) sI fun w0 S x Θ hw h hF => ?_
 obtain ⟨(s_0 : (List Nat)), (c_1 : Nat), u⟩ := x
 simp only [bP, go_sem]
 replace h : sat (kI F s_0 c_1) _ := h
 unfold kI at h
 refine bW hF (D := (List Nat)) [1] (fun d => [(0, .val .str d)]) (fun d => []) h rfl (by simp only [go_sem]) ?_
 rintro s_5 A1 T1 hA1 hE1 h
 simp only [go_sem]
 replace h : sat (lO F c_1 s_5) _ := h
 unfold lO at h
 refine aU h fun g0 h => ?_
 refine ⟨fun hc => ?_, fun hc => ?_⟩
 ·replace h := iV hc h
  refine aU h fun g0 h => ?_
  replace h := hA1 _ (aA h)
  exact aQ _ h rfl (by simp only [go_sem])
 ·replace h := iW hc h
  replace h := hE1 _ (aA h)
  try dsimp only at h
  exact aH hF [.tmp 4] rfl rfl rfl (aA h) (by simp only [aV, go_sem])
attribute [go_sem] jK
noncomputable def eT (F : Md) (as_0 : (List Bool)) (c_1 : Nat) : Option Bool :=
 ck (0 ≤ ((c_1 : Nat) : Int) ∧ ((c_1 : Nat) : Int) < (256 : Int)) (some (as_0.getD c_1 false))
def nS : PlR := ⟨[(0, .A [0, 1]), (1, .A [4])], []⟩
def oI : Ty := .pair (.rp (.arr 256 .bool)) (.pair (.u .u8) .unit)
noncomputable def dO (F : Md) : aG := mSpec oI (.one .bool) (fun x => eT F x.1 x.2.1)
noncomputable def xN (F : Md) : List (FuncId × aG) := []
theorem xO (F : Md) : bI Tryz.prog GL (xN F) := .nil
attribute [go_sem] oI nS
set_option maxHeartbeats 4000000 in
theorem nT (F : Md) : FOK Tryz.prog GL 205 (dO F) := by
 refine bK (bD (xO F)) mix Tryz.func205 rfl (by kernel_rfl) (by decide) nS fun w0 S x Θ hw h hF => ?_
 obtain ⟨(as_0 : (List Bool)), (c_1 : Nat), u⟩ := x
 simp only [bP, go_sem]
 replace h : sat (eT F as_0 c_1) _ := h
 unfold eT at h
 refine aU h fun g0 h => ?_
 exact aH hF [.tmp 4] rfl rfl rfl (aA h) (by simp only [aV, go_sem])
attribute [go_sem] dO
noncomputable def lP (F : Md) (chars_0 : (List Nat)) (i_6 : Int) (as_7 : (List Bool)) : Option ((Int × (List Bool)) ⊕ (((List Bool)) ⊕ ((List Bool) × (Bool × Unit)))) :=
 if i_6 < (((chars_0.length) : Nat) : Int) then ck (0 ≤ i_6 ∧ i_6 < (((chars_0.length) : Nat) : Int)) (if (128 : Nat) ≤ (chars_0.getD (i_6.toNat) (0 : Nat)) then some (.inr (.inr (as_7, false, ()))) else ck (0 ≤ (((chars_0.getD (i_6.toNat) (0 : Nat)) : Nat) : Int) ∧ (((chars_0.getD (i_6.toNat) (0 : Nat)) : Nat) : Int) < (256 : Int)) (ck (I64 (i_6 + (1 : Int))) (some (.inl ((i_6 + (1 : Int)), (as_7.set (chars_0.getD (i_6.toNat) (0 : Nat)) true)))))) else some (.inr (.inl as_7))
noncomputable def kJ (F : Md) (chars_0 : (List Nat)) : Option ((List Bool) × (Bool × Unit)) :=
 (dJ F (fun d : Int × (List Bool) => lP F chars_0 d.1 d.2) ((0 : Int), (List.replicate 256 false))).bind (fun e => match e with | (.inl e) => some (e, true, ()) | (.inr e) => some e)
def sJ : PlR := ⟨[(0, .B [0, 2]), (1, .A [0, 2, 4]), (2, .A [0, 2, 4, 9]), (3, .A [0, 2, 4]), (4, .A [0, 2, 4, 5]), (5, .A [0, 2, 4, 5, 16]), (6, .B [2, 3]), (7, .B [0, 2, 4]), (8, .B [2, 3])], []⟩
def tG : Ty := .pair .str .unit
noncomputable def jL (F : Md) : aG := mSpec tG (.tup (.pair (.arr 256 .bool) (.pair .bool .unit))) (fun x => kJ F x.1)
noncomputable def aBZ (F : Md) : List (FuncId × aG) := []
theorem aB0 (F : Md) : bI Tryz.prog GL (aBZ F) := .nil
attribute [go_sem] tG sJ
set_option maxHeartbeats 4000000 in
theorem aA4 (F : Md) : FOK Tryz.prog GL 144 (jL F) := by
 refine bK (bD (aB0 F)) mix Tryz.func144 rfl (by kernel_rfl) (by decide) sJ fun w0 S x Θ hw h hF => ?_
 obtain ⟨(chars_0 : (List Nat)), u⟩ := x
 simp only [bP, go_sem]
 replace h : sat (kJ F chars_0) _ := h
 unfold kJ at h
 refine bW hF (D := Int × (List Bool)) [0] (fun d => [(2, .ptr 0 []), (4, .val (.i .i64) d.1)]) (fun d => [.inr (.box 256 (.val (.arr 256 .bool) d.2))]) h rfl (by simp only [go_sem]) ?_
 rintro ⟨i_6, as_7⟩ A2 T2 hA2 hE2 h
 simp only [go_sem]
 replace h : sat (lP F chars_0 i_6 as_7) _ := h
 unfold lP at h
 refine eI h (fun hc h => ?_) fun hc h => ?_
 ·obtain ⟨g0, h⟩ := aM h
  repeat (refine ⟨by omega, ?_⟩)
  refine dU h (fun hc h => ?_) fun hc h => ?_
  ·replace h := hE2 _ (aA h)
   try dsimp only at h
   exact aH hF [.cell 2 174, .tmp 3] rfl rfl rfl (aA h) (by simp only [aV, go_sem])
  ·obtain ⟨g0, h⟩ := aM h
   repeat (refine ⟨by omega, ?_⟩)
   obtain ⟨g0, h⟩ := aM h
   repeat (refine ⟨by omega, ?_⟩)
   replace h := hA2 _ (aA h)
   exact aQ _ h rfl (by simp only [go_sem])
 ·replace h := hE2 _ (aA h)
  try dsimp only at h
  exact aH hF [.cell 2 174, .tmp 3] rfl rfl rfl (aA h) (by simp only [aV, go_sem])
attribute [go_sem] jL
noncomputable def kK (F : Md) (as_1 : (List Bool)) (s_11 : (List Nat)) : Option (((List Nat)) ⊕ (((List Nat)))) :=
 if (0 : Int) < (((s_11.length) : Nat) : Int) then ck (I64 ((((s_11.length) : Nat) : Int) - (1 : Int))) (ck (0 ≤ ((((s_11.length) : Nat) : Int) - (1 : Int)) ∧ ((((s_11.length) : Nat) : Int) - (1 : Int)) < (((s_11.length) : Nat) : Int)) ((eT F as_1 (s_11.getD (((((s_11.length) : Nat) : Int) - (1 : Int)).toNat) (0 : Nat))).bind (fun v_21 => if ¬ (v_21 = true) then some (.inr s_11) else ck (I64 ((((s_11.length) : Nat) : Int) - (1 : Int))) (ck (0 ≤ ((((s_11.length) : Nat) : Int) - (1 : Int)) ∧ ((((s_11.length) : Nat) : Int) - (1 : Int)) ≤ (((s_11.length) : Nat) : Int)) (some (.inl (List.take (((((s_11.length) : Nat) : Int) - (1 : Int)).toNat) s_11))))))) else some (.inr s_11)
noncomputable def iO (F : Md) (s_0 : (List Nat)) (as_1 : (List Bool)) : Option (List Nat) :=
 (dJ F (fun d : (List Nat) => kK F as_1 d) s_0).bind (fun e => some e)
def qA : PlR := ⟨[(0, .A [0, 1]), (1, .A [0, 1, 7]), (2, .A [0, 1, 15]), (3, .A [0, 1]), (4, .A [4])], []⟩
def qR : Ty := .pair .str (.pair (.rp (.arr 256 .bool)) .unit)
noncomputable def iF (F : Md) : aG := mSpec qR (.one .str) (fun x => iO F x.1 x.2.1)
noncomputable def qS (F : Md) : List (FuncId × aG) := [(205, (dO F))]
theorem aAG (F : Md) : bI Tryz.prog GL (qS F) := .cons (nT F) (by kernel_rfl) (.nil)
theorem wL (F : Md) : gam (qS F) 205 = some (dO F) := rfl
attribute [go_sem] qR qA wL
set_option maxHeartbeats 4000000 in
theorem zU (F : Md) : FOK Tryz.prog GL 146 (iF F) := by
 refine bK (bD (aAG F)) mix Tryz.func146 rfl (by kernel_rfl) (by decide) qA fun w0 S x Θ hw h hF => ?_
 obtain ⟨(s_0 : (List Nat)), (as_1 : (List Bool)), u⟩ := x
 simp only [bP, go_sem]
 replace h : sat (iO F s_0 as_1) _ := h
 unfold iO at h
 refine bW hF (D := (List Nat)) [1] (fun d => [(0, .val .str d)]) (fun d => []) h rfl (by simp only [go_sem]) ?_
 rintro s_11 A1 T1 hA1 hE1 h
 simp only [go_sem]
 replace h : sat (kK F as_1 s_11) _ := h
 unfold kK at h
 refine eI h (fun hc h => ?_) fun hc h => ?_
 ·refine aU h fun g0 h => aU h fun g1 h => ?_
  obtain ⟨v_21, hv, h⟩ := aL h
  try simp only [hv, go_sem]
  refine aAz h (fun hc h => ?_) fun hc h => ?_
  ·replace h := hE1 _ (aA h)
   try dsimp only at h
   exact aH hF [.tmp 4] rfl rfl rfl (aA h) (by simp only [aV, go_sem])
  ·refine aU h fun g0 h => aU h fun g1 h => ?_
   replace h := hA1 _ (aA h)
   exact aQ _ h rfl (by simp only [go_sem])
 ·replace h := hE1 _ (aA h)
  try dsimp only at h
  exact aH hF [.tmp 4] rfl rfl rfl (aA h) (by simp only [aV, go_sem])
attribute [go_sem] iF
noncomputable def lB (F : Md) (as_1 : (List Bool)) (s_11 : (List Nat)) : Option (((List Nat)) ⊕ (((List Nat)))) :=
 if (0 : Int) < (((s_11.length) : Nat) : Int) then ck ((0 : Int) < (((s_11.length) : Nat) : Int)) ((eT F as_1 (s_11.getD (0 : Nat) (0 : Nat))).bind (fun v_21 => if ¬ (v_21 = true) then some (.inr s_11) else ck ((1 : Int) ≤ (((s_11.length) : Nat) : Int)) (some (.inl (List.drop (1 : Nat) s_11))))) else some (.inr s_11)
noncomputable def jM (F : Md) (s_0 : (List Nat)) (as_1 : (List Bool)) : Option (List Nat) :=
 (dJ F (fun d : (List Nat) => lB F as_1 d) s_0).bind (fun e => some e)
def qT : PlR := ⟨[(0, .A [0, 1]), (1, .A [0, 1, 7]), (2, .A [0, 1, 12]), (3, .A [0, 1]), (4, .A [4])], []⟩
def sK : Ty := .pair .str (.pair (.rp (.arr 256 .bool)) .unit)
noncomputable def iP (F : Md) : aG := mSpec sK (.one .str) (fun x => jM F x.1 x.2.1)
noncomputable def sL (F : Md) : List (FuncId × aG) := [(205, (dO F))]
theorem aA5 (F : Md) : bI Tryz.prog GL (sL F) := .cons (nT F) (by kernel_rfl) (.nil)
theorem xP (F : Md) : gam (sL F) 205 = some (dO F) := rfl
attribute [go_sem] sK qT xP
set_option maxHeartbeats 4000000 in
theorem aAH (F : Md) : FOK Tryz.prog GL 145 (iP F) := by
 refine bK (bD (aA5 F)) mix Tryz.func145 rfl (by kernel_rfl) (by decide) qT fun w0 S x Θ hw h hF => ?_
 obtain ⟨(s_0 : (List Nat)), (as_1 : (List Bool)), u⟩ := x
 simp only [bP, go_sem]
 replace h : sat (jM F s_0 as_1) _ := h
 unfold jM at h
 refine bW hF (D := (List Nat)) [1] (fun d => [(0, .val .str d)]) (fun d => []) h rfl (by simp only [go_sem]) ?_
 rintro s_11 A1 T1 hA1 hE1 h
 simp only [go_sem]
 replace h : sat (lB F as_1 s_11) _ := h
 unfold lB at h
 refine eI h (fun hc h => ?_) fun hc h => ?_
 ·refine aU h fun g0 h => ?_
  obtain ⟨v_21, hv, h⟩ := aL h
  try simp only [hv, go_sem]
  refine aAz h (fun hc h => ?_) fun hc h => ?_
  ·replace h := hE1 _ (aA h)
   try dsimp only at h
   exact aH hF [.tmp 4] rfl rfl rfl (aA h) (by simp only [aV, go_sem])
  ·refine aU h fun g0 h => ?_
   replace h := hA1 _ (aA h)
   exact aQ _ h rfl (by simp only [go_sem])
 ·replace h := hE1 _ (aA h)
  try dsimp only at h
  exact aH hF [.tmp 4] rfl rfl rfl (aA h) (by simp only [aV, go_sem])
attribute [go_sem] iP
noncomputable def tH (F : Md) (s_0 : (List Nat)) (cutset_1 : (List Nat)) : Option (List Nat) :=
 if (s_0 = (aY ⟨#[]⟩)) ∨ (cutset_1 = (aY ⟨#[]⟩)) then some s_0 else ck ((((((cutset_1.length) : Nat) : Int) = (1 : Int)) → ((0 : Int) < (((cutset_1.length) : Nat) : Int)))) (if ((((cutset_1.length) : Nat) : Int) = (1 : Int)) ∧ ((cutset_1.getD (0 : Nat) (0 : Nat)) < (128 : Nat)) then ck ((0 : Int) < (((cutset_1.length) : Nat) : Int)) ((jJ F s_0 (cutset_1.getD (0 : Nat) (0 : Nat))).bind (fun v_19 => ck ((0 : Int) < (((cutset_1.length) : Nat) : Int)) ((kI F v_19 (cutset_1.getD (0 : Nat) (0 : Nat))).bind (fun v_20 => some v_20)))) else (kJ F cutset_1).bind (fun v_27 => if ((v_27.2).1) = true then (iO F s_0 (v_27.1)).bind (fun v_34 => (jM F v_34 (v_27.1)).bind (fun v_35 => some v_35)) else none))
def aCh : PlR := ⟨[(0, .A [0, 1]), (1, .A [0, 1, 12]), (2, .A [4]), (3, .A [0, 1, 21]), (4, .A [4]), (5, .B [0, 1, 5, 6]), (6, .A [0, 1, 5, 34]), (7, .A [4]), (8, .stop)], []⟩
def aC9 : Ty := .pair .str (.pair .str .unit)
noncomputable def rG (F : Md) : aG := mSpec aC9 (.one .str) (fun x => tH F x.1 x.2.1)
noncomputable def mR (F : Md) : List (FuncId × aG) := [(142, (jK F)), (143, (iN F)), (144, (jL F)), (145, (iP F)), (146, (iF F))]
theorem aKh (F : Md) : bI Tryz.prog GL (mR F) := .cons (aA3 F) (by kernel_rfl) (.cons (aAF F) (by kernel_rfl) (.cons (aA4 F) (by kernel_rfl) (.cons (aAH F) (by kernel_rfl) (.cons (zU F) (by kernel_rfl) (.nil)))))
theorem aEE (F : Md) : gam (mR F) 142 = some (jK F) := rfl
theorem aEF (F : Md) : gam (mR F) 143 = some (iN F) := rfl
theorem aEG (F : Md) : gam (mR F) 144 = some (jL F) := rfl
theorem aEH (F : Md) : gam (mR F) 145 = some (iP F) := rfl
theorem aEI (F : Md) : gam (mR F) 146 = some (iF F) := rfl
attribute [go_sem] aC9 aCh aEE aEF aEG aEH aEI
set_option maxHeartbeats 4000000 in
theorem aIm (F : Md) : FOK Tryz.prog GL 70 (rG F) := by
 refine bK (bD (aKh F)) mix Tryz.func70 rfl (by kernel_rfl) (by decide) aCh fun w0 S x Θ hw h hF => ?_
 obtain ⟨(s_0 : (List Nat)), (cutset_1 : (List Nat)), u⟩ := x
 simp only [bP, go_sem]
 replace h : sat (tH F s_0 cutset_1) _ := h
 unfold tH at h
 refine ⟨fun hc => ?_, fun hc => ?_⟩
 ·replace h := iV hc h
  exact aH hF [.tmp 4] rfl rfl rfl (aA h) (by simp only [aV, go_sem])
 ·replace h := iW hc h
  refine aU h fun g0 h => ?_
  refine ⟨fun hc => ?_, fun hc => ?_⟩
  ·replace h := iV hc h
   refine aU h fun g0 h => ?_
   obtain ⟨v_19, hv, h⟩ := aL h
   try simp only [hv, go_sem]
   refine aU h fun g0 h => ?_
   obtain ⟨v_20, hv, h⟩ := aL h
   try simp only [hv, go_sem]
   exact aH hF [.tmp 4] rfl rfl rfl (aA h) (by simp only [aV, go_sem])
  ·replace h := iW hc h
   obtain ⟨v_27, hv, h⟩ := aL h
   try simp only [hv, go_sem]
   refine aHr h (fun hc h => ?_) fun hc h => ?_
   ·obtain ⟨v_34, hv, h⟩ := aL h
    try simp only [hv, go_sem]
    obtain ⟨v_35, hv, h⟩ := aL h
    try simp only [hv, go_sem]
    exact aH hF [.tmp 4] rfl rfl rfl (aA h) (by simp only [aV, go_sem])
   ·exact aAZ h
attribute [go_sem] rG
noncomputable def kW (F : Md) : Option (List (List Nat)) :=
 some ([(aY ⟨#[116]⟩), (aY ⟨#[115, 113, 114]⟩), (aY ⟨#[115, 113, 114, 116]⟩), (aY ⟨#[101, 120, 112]⟩), (aY ⟨#[112, 114, 101, 99]⟩), (aY ⟨#[101, 110, 100]⟩), (aY ⟨#[115, 116, 101, 112]⟩), (aY ⟨#[116, 111, 108]⟩), (aY ⟨#[116, 114, 105, 101, 115]⟩), (aY ⟨#[111, 114, 100, 101, 114]⟩), (aY ⟨#[106, 97, 99, 111, 98, 105]⟩), (aY ⟨#[115, 101, 105, 100, 101, 108]⟩), (aY ⟨#[115, 117, 98]⟩), (aY ⟨#[115, 116, 97, 116, 101]⟩), (aY ⟨#[112, 97, 114]⟩), (aY ⟨#[105, 110]⟩), (aY ⟨#[111, 117, 116]⟩), (aY ⟨#[100, 101, 114]⟩), (aY ⟨#[108, 105, 110, 107]⟩)] : List (List Nat))
def aAl : PlR := ⟨[(0, .A []), (1, .A [0])], []⟩
def aA6 : Ty := .unit
noncomputable def oJ (F : Md) : aG := mSpec aA6 (.one (.sl .str)) (fun x => kW F )
noncomputable def aGU (F : Md) : List (FuncId × aG) := []
theorem aGV (F : Md) : bI Tryz.prog GL (aGU F) := .nil
attribute [go_sem] aA6 aAl
set_option maxHeartbeats 4000000 in
theorem aFQ (F : Md) : FOK Tryz.prog GL 72 (oJ F) := by
 refine bK (bD (aGV F)) mix Tryz.func72 rfl (by kernel_rfl) (by decide) aAl fun w0 S x Θ hw h hF => ?_
 simp only [bP, go_sem]
 replace h : sat (kW F) _ := h
 unfold kW at h
 exact aH hF [.tmp 0] rfl rfl rfl (aA h) (by (simp only [aV, go_sem]) <;> first | rfl | (simp; done))
attribute [go_sem] oJ
noncomputable def mF (F : Md) (s_0 : (List (List Nat))) (v_1 : (List Nat)) (x8_5 : Int) : Option ((Int) ⊕ ((Unit) ⊕ Int)) :=
 if x8_5 < (((s_0.length) : Nat) : Int) then ck (0 ≤ x8_5 ∧ x8_5 < (((s_0.length) : Nat) : Int)) (if v_1 = (s_0.getD (x8_5.toNat) ([] : List Nat)) then some (.inr (.inr x8_5)) else ck (I64 (x8_5 + (1 : Int))) (some (.inl (x8_5 + (1 : Int))))) else some (.inr (.inl ()))
noncomputable def lJ (F : Md) (s_0 : (List (List Nat))) (v_1 : (List Nat)) : Option Int :=
 (dJ F (fun d : Int => mF F s_0 v_1 d) (0 : Int)).bind (fun e => match e with | (.inl e) => some (-1 : Int) | (.inr e) => some e)
def tI : PlR := ⟨[(0, .A [0, 1]), (1, .A [0, 1, 7, 8]), (2, .A [0, 1, 7, 8, 9]), (3, .A [0, 1, 5, 7, 8]), (4, .A [0, 1, 5, 7, 8, 16]), (5, .A [4]), (6, .A [0, 1, 7, 8]), (7, .A [4])], []⟩
def uL : Ty := .pair (.sl .str) (.pair .str .unit)
noncomputable def kL (F : Md) : aG := mSpec uL (.one (.i .i64)) (fun x => lJ F x.1 x.2.1)
noncomputable def aCw (F : Md) : List (FuncId × aG) := []
theorem aCx (F : Md) : bI Tryz.prog GL (aCw F) := .nil
attribute [go_sem] uL tI
set_option maxHeartbeats 4000000 in
theorem aB1 (F : Md) : FOK Tryz.prog GL 149 (kL F) := by
 refine bK (bD (aCx F)) mix Tryz.func149 rfl (by kernel_rfl) (by decide) tI fun w0 S x Θ hw h hF => ?_
 obtain ⟨(s_0 : (List (List Nat))), (v_1 : (List Nat)), u⟩ := x
 simp only [bP, go_sem]
 replace h : sat (lJ F s_0 v_1) _ := h
 unfold lJ at h
 refine bW hF (D := Int) [0, 1, 7] (fun d => [(8, .val (.i .i64) d)]) (fun d => []) h rfl (by simp only [go_sem]) ?_
 rintro x8_5 A2 T2 hA2 hE2 h
 simp only [go_sem]
 replace h : sat (mF F s_0 v_1 x8_5) _ := h
 unfold mF at h
 refine eI h (fun hc h => ?_) fun hc h => ?_
 ·refine aU h fun g0 h => ?_
  refine dU h (fun hc h => ?_) fun hc h => ?_
  ·replace h := hE2 _ (aA h)
   try dsimp only at h
   exact aH hF [.tmp 4] rfl rfl rfl (aA h) (by simp only [aV, go_sem])
  ·refine aU h fun g0 h => ?_
   replace h := hA2 _ (aA h)
   exact aQ _ h rfl (by simp only [go_sem])
 ·replace h := hE2 _ (aA h)
  try dsimp only at h
  exact aH hF [.tmp 4] rfl rfl rfl (aA h) (by simp only [aV, go_sem])
attribute [go_sem] kL
noncomputable def dS (F : Md) (s_0 : (List (List Nat))) (v_1 : (List Nat)) : Option Bool :=
 (lJ F s_0 v_1).bind (fun v_6 => some (decide ((0 : Int) ≤ v_6)))
def qB : PlR := ⟨[(0, .A [0, 1]), (1, .A [4])], []⟩
def qU : Ty := .pair (.sl .str) (.pair .str .unit)
noncomputable def eF (F : Md) : aG := mSpec qU (.one .bool) (fun x => dS F x.1 x.2.1)
noncomputable def qV (F : Md) : List (FuncId × aG) := [(149, (kL F))]
theorem aAI (F : Md) : bI Tryz.prog GL (qV F) := .cons (aB1 F) (by kernel_rfl) (.nil)
theorem wM (F : Md) : gam (qV F) 149 = some (kL F) := rfl
attribute [go_sem] qU qB wM
set_option maxHeartbeats 4000000 in
theorem qC (F : Md) : FOK Tryz.prog GL 71 (eF F) := by
 refine bK (bD (aAI F)) mix Tryz.func71 rfl (by kernel_rfl) (by decide) qB fun w0 S x Θ hw h hF => ?_
 obtain ⟨(s_0 : (List (List Nat))), (v_1 : (List Nat)), u⟩ := x
 simp only [bP, go_sem]
 replace h : sat (dS F s_0 v_1) _ := h
 unfold dS at h
 obtain ⟨v_6, hv, h⟩ := aL h
 try simp only [hv, go_sem]
 exact aH hF [.tmp 4] rfl rfl rfl (aA h) (by simp only [aV, go_sem])
attribute [go_sem] eF
noncomputable def aZ (F : Md) (s_0 : (List Nat)) : Option Bool :=
 ck ((¬ (((((s_0.length) : Nat) : Int) < (1 : Int)) ∨ ((20 : Int) < (((s_0.length) : Nat) : Int))) → ((0 : Int) < (((s_0.length) : Nat) : Int)))) (ck ((¬ ((((((s_0.length) : Nat) : Int) < (1 : Int)) ∨ ((20 : Int) < (((s_0.length) : Nat) : Int))) ∨ ((s_0.getD (0 : Nat) (0 : Nat)) < (97 : Nat))) → ((0 : Int) < (((s_0.length) : Nat) : Int)))) (if ((((((s_0.length) : Nat) : Int) < (1 : Int)) ∨ ((20 : Int) < (((s_0.length) : Nat) : Int))) ∨ ((s_0.getD (0 : Nat) (0 : Nat)) < (97 : Nat))) ∨ ((122 : Nat) < (s_0.getD (0 : Nat) (0 : Nat))) then some false else (tH F s_0 (aY aKg)).bind (fun v_5 => ck (((v_5 = (aY ⟨#[]⟩)) → (((kW F).isSome = true)))) (ck (((v_5 = (aY ⟨#[]⟩)) → (((dS F ((kW F).getD ([] : List (List Nat))) s_0).isSome = true)))) (some ((decide (v_5 = (aY ⟨#[]⟩))) && (!((dS F ((kW F).getD ([] : List (List Nat))) s_0).getD false))))))))
def aD6 : PlR := ⟨[(0, .A [0]), (1, .A [0, 20]), (2, .A [2]), (3, .A [2])], []⟩
def aFR : Ty := .pair .str .unit
noncomputable def oA (F : Md) : aG := mSpec aFR (.one .bool) (fun x => aZ F x.1)
noncomputable def xQ (F : Md) : List (FuncId × aG) := [(70, (rG F)), (71, (eF F)), (72, (oJ F))]
theorem aMd (F : Md) : bI Tryz.prog GL (xQ F) := .cons (aIm F) (by kernel_rfl) (.cons (qC F) (by kernel_rfl) (.cons (aFQ F) (by kernel_rfl) (.nil)))
theorem aIn (F : Md) : gam (xQ F) 70 = some (rG F) := rfl
theorem aIo (F : Md) : gam (xQ F) 71 = some (eF F) := rfl
theorem aIp (F : Md) : gam (xQ F) 72 = some (oJ F) := rfl
attribute [go_sem] aFR aD6 aIn aIo aIp
set_option maxHeartbeats 4000000 in
theorem aD7 (F : Md) : FOK Tryz.prog GL 29 (oA F) := by
 refine bK (bD (aMd F)) mix Tryz.func29 rfl (by kernel_rfl) (by decide) aD6 fun w0 S x Θ hw h hF => ?_
 obtain ⟨(s_0 : (List Nat)), u⟩ := x
 simp only [bP, go_sem]
 replace h : sat (aZ F s_0) _ := h
 unfold aZ at h
 obtain ⟨g0, h⟩ := aM h
 obtain ⟨g1, h⟩ := aM h
 repeat (refine ⟨by first | with_reducible assumption | omega | (intros; first | with_reducible assumption | omega) | (simp only [go_sem] at *; first | with_reducible assumption | omega) | (intro q0; (try have e0 := g0 (by first | exact q0 | omega | (simpa using q0))); (try have e1 := g1 (by first | exact q0 | omega | (simpa using q0))); first | assumption | omega) | decide, ?_⟩)
 refine ⟨fun hc => ?_, fun hc => ?_⟩
 ·replace h := iV hc h
  exact aH hF [.tmp 2] rfl rfl rfl (aA h) (by simp only [aV, go_sem])
 ·replace h := iW hc h
  obtain ⟨v_5, hv, h⟩ := aL h
  try simp only [hv, go_sem]
  obtain ⟨g0, h⟩ := aM h
  obtain ⟨g1, h⟩ := aM h
  repeat (refine ⟨by first | with_reducible assumption | omega | (intros; first | with_reducible assumption | omega) | (simp only [go_sem] at *; first | with_reducible assumption | omega) | (intro q0; (try have e0 := g0 (by first | exact q0 | omega | (simpa using q0))); (try have e1 := g1 (by first | exact q0 | omega | (simpa using q0))); first | assumption | omega) | decide, ?_⟩)
  exact aH hF [.tmp 2] rfl rfl rfl (aA h) (by simp only [aV, go_sem])
attribute [go_sem] oA
end Nu
end Go.Proofs
namespace Go.Proofs
open Go.Vc
set_option maxRecDepth 20000
namespace Nu
noncomputable def nE (F : Md) : Option ((Int × (Unit × Unit))) :=
 none
noncomputable def nF (F : Md) (s_0 : (List Nat)) (n_14 : Int) : Option ((Int × (Unit × Unit))) :=
 ck ((0 : Int) < (((s_0.length) : Nat) : Int)) (if (s_0.getD (0 : Nat) (0 : Nat)) = (45 : Nat) then ck (I64 (0 - n_14)) (some ((0 - n_14), (), ())) else some (n_14, (), ()))
noncomputable def qH (F : Md) (s_9 : (List Nat)) (n_15 : Int) (x49_16 : Int) : Option ((Int × Int) ⊕ ((Int) ⊕ (Int × (Unit × Unit)))) :=
 if x49_16 < (((s_9.length) : Nat) : Int) then ck (0 ≤ x49_16 ∧ x49_16 < (((s_9.length) : Nat) : Int)) (if (9 : Nat) < (sX F .u8 (s_9.getD (x49_16.toNat) (0 : Nat)) (48 : Nat)) then none else ck (I64 (n_15 * (10 : Int))) (ck (I64 ((n_15 * (10 : Int)) + (((sX F .u8 (s_9.getD (x49_16.toNat) (0 : Nat)) (48 : Nat)) : Nat) : Int))) (ck (I64 (x49_16 + (1 : Int))) (some (.inl (((n_15 * (10 : Int)) + (((sX F .u8 (s_9.getD (x49_16.toNat) (0 : Nat)) (48 : Nat)) : Nat) : Int)), (x49_16 + (1 : Int)))))))) else some (.inr (.inl n_15))
noncomputable def lC (F : Md) (s_0 : (List Nat)) (s_9 : (List Nat)) : Option ((Int × (Unit × Unit))) :=
 (dJ F (fun d : Int × Int => qH F s_9 d.1 d.2) ((0 : Int), (0 : Int))).bind (fun e => match e with | (.inl e) => nF F s_0 e | (.inr e) => some e)
noncomputable def rH (F : Md) (s_0 : (List Nat)) : Option (Int × (Unit × Unit)) :=
 if ((False) ∧ (((0 : Int) < (((s_0.length) : Nat) : Int)) ∧ ((((s_0.length) : Nat) : Int) < (10 : Int)))) ∨ ((True) ∧ (((0 : Int) < (((s_0.length) : Nat) : Int)) ∧ ((((s_0.length) : Nat) : Int) < (19 : Int)))) then ck ((0 : Int) < (((s_0.length) : Nat) : Int)) (ck ((¬ ((s_0.getD (0 : Nat) (0 : Nat)) = (45 : Nat)) → ((0 : Int) < (((s_0.length) : Nat) : Int)))) (if ((s_0.getD (0 : Nat) (0 : Nat)) = (45 : Nat)) ∨ ((s_0.getD (0 : Nat) (0 : Nat)) = (43 : Nat)) then ck ((1 : Int) ≤ (((s_0.length) : Nat) : Int)) (if ((((List.drop (1 : Nat) s_0).length) : Nat) : Int) < (1 : Int) then none else lC F s_0 (List.drop (1 : Nat) s_0)) else lC F s_0 s_0)) else nE F
def aA7 : PlR := ⟨[(0, .A [0]), (1, .A [0, 4]), (2, .A [0, 30]), (3, .A [0, 5]), (4, .A [0, 5, 39]), (5, .A [0, 5]), (6, .A [0, 5, 44]), (7, .A [2, 3]), (8, .A [0, 5, 6]), (9, .A [5, 6, 47, 48, 49]), (10, .A [5, 6, 47, 48, 49, 50]), (11, .A [5, 6, 8, 47, 48, 49]), (12, .A [5, 6, 8, 47, 48, 49]), (13, .A [5, 6, 8, 47, 48, 49, 56]), (14, .A [2, 3]), (15, .A [5, 6, 47, 48, 49]), (16, .A [5, 6, 47, 48, 49]), (17, .A [6, 66]), (18, .A [6]), (19, .A [2, 3]), (20, .stop)], [(5, 23), (7, 11), (12, 20)]⟩
def aCi : Ty := .pair .str .unit
noncomputable def pJ (F : Md) : aG := mSpec aCi (.tup (.pair (.i .i64) (.pair .nili .unit))) (fun x => rH F x.1)
noncomputable def aIq (F : Md) : List (FuncId × aG) := []
theorem aIr (F : Md) : bI Tryz.prog GL (aIq F) := .nil
attribute [go_sem] aCi aA7
set_option maxHeartbeats 4000000 in
theorem aGW (F : Md) : FOK Tryz.prog GL 254 (pJ F) := by
 refine bK (bD (aIr F)) mix Tryz.func254 rfl (by kernel_rfl) (by decide) aA7 fun w0 S x Θ hw h hF => ?_
 obtain ⟨(s_0 : (List Nat)), u⟩ := x
 simp only [bP, go_sem]
 replace h : sat (rH F s_0) _ := h
 unfold rH at h
 refine eE hF (D := Unit) (fun d => sat (nE F) Θ) [0] (fun d => []) (fun d => []) ?_ ?_
 ·simp only [go_sem, aI F, aJ F, aK F]
  refine ⟨fun hc => ?_, fun hc => ?_⟩
  ·replace h := iV (by first | exact hc | omega | (simpa using hc) | (simp at hc ⊢; omega)) h
   refine eE hF (D := (List Nat)) (fun d => sat (lC F s_0 d) Θ) [5] (fun d => [(0, .val .str d)]) (fun d => []) ?_ ?_
   ·simp only [go_sem, aI F, aJ F, aK F]
    refine aU h fun g0 h => aU h fun g1 h => ?_
    refine ⟨fun hc => ?_, fun hc => ?_⟩
    ·replace h := iV hc h
     refine aU h fun g0 h => ?_
     refine eI h (fun hc h => ?_) fun hc h => ?_
     ·exact aAZ h
     ·exact aQ ((List.drop (1 : Nat) s_0)) h rfl (by simp only [go_sem, aI F, aJ F, aK F])
    ·replace h := iW hc h
     exact aQ (s_0) h rfl (by simp only [go_sem, aI F, aJ F, aK F])
   ·rintro s_9 h
    simp only [go_sem, aI F, aJ F, aK F]
    replace h : sat (lC F s_0 s_9) _ := h
    unfold lC at h
    refine eE hF (D := Int) (fun d => sat (nF F s_0 d) Θ) [5] (fun d => [(6, .val (.i .i64) d)]) (fun d => []) ?_ ?_
    ·simp only [go_sem, aI F, aJ F, aK F]
     refine bW hF (D := Int × Int) [5, 47, 48] (fun d => [(6, .val (.i .i64) d.1), (49, .val (.i .i64) d.2)]) (fun d => []) h rfl (by simp only [go_sem, aI F, aJ F, aK F]) ?_
     rintro ⟨n_15, x49_16⟩ A10 T10 hA10 hE10 h
     simp only [go_sem, aI F, aJ F, aK F]
     replace h : sat (qH F s_9 n_15 x49_16) _ := h
     unfold qH at h
     refine eI h (fun hc h => ?_) fun hc h => ?_
     ·refine aU h fun g0 h => ?_
      refine dU h (fun hc h => ?_) fun hc h => ?_
      ·exact aAZ h
      ·refine aU h fun g0 h => aU h fun g1 h => ?_
       refine aU h fun g0 h => ?_
       replace h := hA10 _ (aA h)
       exact aQ _ h rfl (by simp only [go_sem, aI F, aJ F, aK F])
     ·replace h := hE10 _ (aA h)
      try dsimp only at h
      exact aQ (n_15) h rfl (by simp only [go_sem, aI F, aJ F, aK F])
    ·rintro n_14 h
     simp only [go_sem, aI F, aJ F, aK F]
     replace h : sat (nF F s_0 n_14) _ := h
     unfold nF at h
     refine aU h fun g0 h => ?_
     refine dU h (fun hc h => ?_) fun hc h => ?_
     ·refine aU h fun g0 h => ?_
      exact aH hF [.tmp 2, .tmp 3] rfl rfl rfl (aA h) (by simp only [aV, go_sem, aI F, aJ F, aK F])
     ·exact aH hF [.tmp 2, .tmp 3] rfl rfl rfl (aA h) (by simp only [aV, go_sem, aI F, aJ F, aK F])
  ·replace h := iW (by first | exact hc | omega | (simpa using hc) | (simp at hc ⊢; omega)) h
   exact aQ (()) h rfl (by simp only [go_sem, aI F, aJ F, aK F])
 ·rintro u h
  simp only [go_sem, aI F, aJ F, aK F]
  replace h : sat (nE F) _ := h
  unfold nE at h
  exact aAZ h
attribute [go_sem] pJ
noncomputable def tJ (F : Md) (s_0 : (List Nat)) : Option (Int × (Unit × Unit)) :=
 (rH F s_0).bind (fun v_5 => some ((v_5.1), (), ()))
def aCj : PlR := ⟨[(0, .A [0]), (1, .A [0, 4, 5]), (2, .A [0, 4, 5, 12]), (4, .A [2, 3])], []⟩
def aDa : Ty := .pair .str .unit
noncomputable def rI (F : Md) : aG := mSpec aDa (.tup (.pair (.i .i64) (.pair .nili .unit))) (fun x => tJ F x.1)
noncomputable def aDb (F : Md) : List (FuncId × aG) := [(254, (pJ F))]
theorem aKi (F : Md) : bI Tryz.prog GL (aDb F) := .cons (aGW F) (by kernel_rfl) (.nil)
theorem aEJ (F : Md) : gam (aDb F) 254 = some (pJ F) := rfl
attribute [go_sem] aDa aCj aEJ
set_option maxHeartbeats 4000000 in
theorem aIs (F : Md) : FOK Tryz.prog GL 230 (rI F) := by
 refine bK (bD (aKi F)) mix Tryz.func230 rfl (by kernel_rfl) (by decide) aCj fun w0 S x Θ hw h hF => ?_
 obtain ⟨(s_0 : (List Nat)), u⟩ := x
 simp only [bP, go_sem]
 replace h : sat (tJ F s_0) _ := h
 unfold tJ at h
 obtain ⟨v_5, hv, h⟩ := aL h
 try simp only [hv, go_sem]
 exact aH hF [.tmp 2, .tmp 3] rfl rfl rfl (aA h) (by simp only [aV, go_sem])
attribute [go_sem] rI
noncomputable def wN (F : Md) (at_1 : Int) (s_0 : (List Nat)) (n_5 : Int) : Option ((Int) ⊕ ((Int))) :=
 ck (I64 (at_1 + n_5)) (ck ((((at_1 + n_5) < (((s_0.length) : Nat) : Int)) → (I64 (at_1 + n_5)))) (ck ((((at_1 + n_5) < (((s_0.length) : Nat) : Int)) → (0 ≤ (at_1 + n_5) ∧ (at_1 + n_5) < (((s_0.length) : Nat) : Int)))) (ck (((((at_1 + n_5) < (((s_0.length) : Nat) : Int)) ∧ ((48 : Nat) ≤ (s_0.getD ((at_1 + n_5).toNat) (0 : Nat)))) → (I64 (at_1 + n_5)))) (ck (((((at_1 + n_5) < (((s_0.length) : Nat) : Int)) ∧ ((48 : Nat) ≤ (s_0.getD ((at_1 + n_5).toNat) (0 : Nat)))) → (0 ≤ (at_1 + n_5) ∧ (at_1 + n_5) < (((s_0.length) : Nat) : Int)))) (if (((at_1 + n_5) < (((s_0.length) : Nat) : Int)) ∧ ((48 : Nat) ≤ (s_0.getD ((at_1 + n_5).toNat) (0 : Nat)))) ∧ ((s_0.getD ((at_1 + n_5).toNat) (0 : Nat)) ≤ (57 : Nat)) then ck (I64 (n_5 + (1 : Int))) (some (.inl (n_5 + (1 : Int)))) else some (.inr n_5))))))
noncomputable def pK (F : Md) (s_0 : (List Nat)) (at_1 : Int) : Option Int :=
 (dJ F (fun d : Int => wN F at_1 s_0 d) (0 : Int)).bind (fun e => some e)
def aD8 : PlR := ⟨[(0, .A [0, 1]), (1, .A [0, 1, 5]), (2, .A [0, 1, 5, 27]), (3, .A [0, 1, 5]), (4, .A [4])], []⟩
def aFS : Ty := .pair .str (.pair (.i .i64) .unit)
noncomputable def vL (F : Md) : aG := mSpec aFS (.one (.i .i64)) (fun x => pK F x.1 x.2.1)
noncomputable def aMe (F : Md) : List (FuncId × aG) := []
theorem aMf (F : Md) : bI Tryz.prog GL (aMe F) := .nil
attribute [go_sem] aFS aD8
set_option maxHeartbeats 4000000 in
theorem aKU (F : Md) : FOK Tryz.prog GL 229 (vL F) := by
 refine bK (bD (aMf F)) mix Tryz.func229 rfl (by kernel_rfl) (by decide) aD8 fun w0 S x Θ hw h hF => ?_
 obtain ⟨(s_0 : (List Nat)), (at_1 : Int), u⟩ := x
 simp only [bP, go_sem]
 replace h : sat (pK F s_0 at_1) _ := h
 unfold pK at h
 refine bW hF (D := Int) [0, 1] (fun d => [(5, .val (.i .i64) d)]) (fun d => []) h rfl (by simp only [go_sem]) ?_
 rintro n_5 A2 T2 hA2 hE2 h
 simp only [go_sem]
 replace h : sat (wN F at_1 s_0 n_5) _ := h
 unfold wN at h
 refine aU h fun g0 h => aU h fun g1 h => aU h fun g2 h => aU h fun g3 h => aU h fun g4 h => ?_
 refine ⟨fun hc => ?_, fun hc => ?_⟩
 ·replace h := iV hc h
  refine aU h fun g0 h => ?_
  replace h := hA2 _ (aA h)
  exact aQ _ h rfl (by simp only [go_sem])
 ·replace h := iW hc h
  replace h := hE2 _ (aA h)
  try dsimp only at h
  exact aH hF [.tmp 4] rfl rfl rfl (aA h) (by simp only [aV, go_sem])
attribute [go_sem] vL
noncomputable def mS (F : Md) (all_9 : (List Nat)) (s_0 : (List Nat)) (at_17 : Int) (pow_18 : Int) : Option (((List Nat) × (Int × (Bool × Unit)))) :=
 some (all_9, pow_18, (decide (at_17 = (((s_0.length) : Nat) : Int))), ())
noncomputable def mT (F : Md) (pow_10 : Int) (at_19 : Int) (v_23 : Int) (all_9 : (List Nat)) (s_0 : (List Nat)) (x_28 : Int) : Option (((List Nat) × (Int × (Bool × Unit)))) :=
 ck (I64 (pow_10 + x_28)) (ck (I64 (at_19 + v_23)) (mS F all_9 s_0 (at_19 + v_23) (pow_10 + x_28)))
noncomputable def mU (F : Md) (s_0 : (List Nat)) (at_8 : Int) (pow_10 : Int) (all_9 : (List Nat)) (at_19 : Int) : Option (((List Nat) × (Int × (Bool × Unit)))) :=
 (pK F s_0 at_19).bind (fun v_23 => if (v_23 < (1 : Int)) ∨ ((3 : Int) < v_23) then some ((aY ⟨#[]⟩), (0 : Int), false, ()) else ck (I64 (at_19 + v_23)) (ck (0 ≤ at_19 ∧ at_19 ≤ (at_19 + v_23) ∧ (at_19 + v_23) ≤ (((s_0.length) : Nat) : Int)) ((tJ F (List.drop (at_19.toNat) (List.take ((at_19 + v_23).toNat) s_0))).bind (fun v_27 => if (100 : Int) < (v_27.1) then some ((aY ⟨#[]⟩), (0 : Int), false, ()) else if ((at_8 + (1 : Int)) < (((s_0.length) : Nat) : Int)) ∧ ((s_0.getD ((at_8 + (1 : Int)).toNat) (0 : Nat)) = (45 : Nat)) then ck (I64 (0 - (v_27.1))) (mT F pow_10 at_19 v_23 all_9 s_0 (0 - (v_27.1))) else mT F pow_10 at_19 v_23 all_9 s_0 (v_27.1)))))
noncomputable def mV (F : Md) (s_0 : (List Nat)) (at_8 : Int) (all_9 : (List Nat)) (pow_10 : Int) : Option (((List Nat) × (Int × (Bool × Unit)))) :=
 ck (((at_8 < (((s_0.length) : Nat) : Int)) → (0 ≤ at_8 ∧ at_8 < (((s_0.length) : Nat) : Int)))) (if (at_8 < (((s_0.length) : Nat) : Int)) ∧ ((s_0.getD (at_8.toNat) (0 : Nat)) = (101 : Nat)) then ck (I64 (at_8 + (1 : Int))) (ck ((((at_8 + (1 : Int)) < (((s_0.length) : Nat) : Int)) → (0 ≤ (at_8 + (1 : Int)) ∧ (at_8 + (1 : Int)) < (((s_0.length) : Nat) : Int)))) (ck ((¬ (((at_8 + (1 : Int)) < (((s_0.length) : Nat) : Int)) ∧ ((s_0.getD ((at_8 + (1 : Int)).toNat) (0 : Nat)) = (45 : Nat))) → ((at_8 + (1 : Int)) < (((s_0.length) : Nat) : Int)) → (0 ≤ (at_8 + (1 : Int)) ∧ (at_8 + (1 : Int)) < (((s_0.length) : Nat) : Int)))) (if (((at_8 + (1 : Int)) < (((s_0.length) : Nat) : Int)) ∧ ((s_0.getD ((at_8 + (1 : Int)).toNat) (0 : Nat)) = (45 : Nat))) ∨ (((at_8 + (1 : Int)) < (((s_0.length) : Nat) : Int)) ∧ ((s_0.getD ((at_8 + (1 : Int)).toNat) (0 : Nat)) = (43 : Nat))) then ck (I64 ((at_8 + (1 : Int)) + (1 : Int))) (mU F s_0 at_8 pow_10 all_9 ((at_8 + (1 : Int)) + (1 : Int))) else mU F s_0 at_8 pow_10 all_9 (at_8 + (1 : Int))))) else mS F all_9 s_0 at_8 pow_10)
noncomputable def oB (F : Md) (s_0 : (List Nat)) : Option ((List Nat) × (Int × (Bool × Unit))) :=
 (pK F s_0 (0 : Int)).bind (fun v_5 => ck (0 ≤ v_5 ∧ v_5 ≤ (((s_0.length) : Nat) : Int)) (if ((60 : Int) < (((s_0.length) : Nat) : Int)) ∨ (v_5 = (0 : Int)) then some ((aY ⟨#[]⟩), (0 : Int), false, ()) else ck (((v_5 < (((s_0.length) : Nat) : Int)) → (0 ≤ v_5 ∧ v_5 < (((s_0.length) : Nat) : Int)))) (if (v_5 < (((s_0.length) : Nat) : Int)) ∧ ((s_0.getD (v_5.toNat) (0 : Nat)) = (46 : Nat)) then ck (I64 (v_5 + (1 : Int))) ((pK F s_0 (v_5 + (1 : Int))).bind (fun v_32 => if v_32 = (0 : Int) then some ((aY ⟨#[]⟩), (0 : Int), false, ()) else ck (I64 (v_5 + (1 : Int))) (ck (I64 (v_5 + (1 : Int))) (ck (I64 ((v_5 + (1 : Int)) + v_32)) (ck (0 ≤ (v_5 + (1 : Int)) ∧ (v_5 + (1 : Int)) ≤ ((v_5 + (1 : Int)) + v_32) ∧ ((v_5 + (1 : Int)) + v_32) ≤ (((s_0.length) : Nat) : Int)) (ck (((List.take (v_5.toNat) s_0).length) + ((List.drop ((v_5 + (1 : Int)).toNat) (List.take (((v_5 + (1 : Int)) + v_32).toNat) s_0)).length) ≤ 9223372036854775807) (ck (I64 (0 - v_32)) (ck (I64 (v_5 + (1 : Int))) (ck (I64 ((v_5 + (1 : Int)) + v_32)) (mV F s_0 ((v_5 + (1 : Int)) + v_32) ((List.take (v_5.toNat) s_0) ++ (List.drop ((v_5 + (1 : Int)).toNat) (List.take (((v_5 + (1 : Int)) + v_32).toNat) s_0))) (0 - v_32))))))))))) else mV F s_0 v_5 (List.take (v_5.toNat) s_0) (0 : Int))))
def aDc : PlR := ⟨[(0, .A [0]), (1, .A [0, 5]), (2, .A [0, 5, 6, 7]), (3, .A [0, 5, 6, 7, 24]), (4, .A [2, 3, 4]), (5, .A [0, 5, 6, 7, 34]), (6, .A [0, 5, 6, 8]), (7, .A [0, 5, 6, 8, 40]), (8, .A [2, 3, 4]), (9, .A [0, 5, 6, 7]), (10, .A [0, 5, 6, 7, 66]), (11, .A [0, 5, 6, 7]), (12, .A [0, 5, 6, 7, 9]), (13, .A [0, 5, 6, 7, 9, 91]), (14, .A [0, 5, 6, 7, 9]), (15, .A [0, 5, 6, 7, 9, 10]), (16, .A [0, 5, 6, 7, 9, 10, 102]), (17, .A [2, 3, 4]), (18, .A [0, 5, 6, 7, 9, 10, 11]), (19, .A [0, 5, 6, 7, 9, 10, 11, 114]), (20, .A [2, 3, 4]), (21, .A [0, 5, 6, 7, 10, 11, 115]), (22, .A [0, 5, 6, 7, 10, 11]), (23, .A [0, 5, 6, 7]), (24, .A [2, 3, 4])], [(8, 13), (13, 27), (16, 18), (24, 26)]⟩
def aD9 : Ty := .pair .str .unit
noncomputable def iX (F : Md) : aG := mSpec aD9 (.tup (.pair .str (.pair (.i .i64) (.pair .bool .unit)))) (fun x => oB F x.1)
noncomputable def aAJ (F : Md) : List (FuncId × aG) := [(229, (vL F)), (230, (rI F))]
theorem aKV (F : Md) : bI Tryz.prog GL (aAJ F) := .cons (aKU F) (by kernel_rfl) (.cons (aIs F) (by kernel_rfl) (.nil))
theorem aFT (F : Md) : gam (aAJ F) 229 = some (vL F) := rfl
theorem aFU (F : Md) : gam (aAJ F) 230 = some (rI F) := rfl
attribute [go_sem] aD9 aDc aFT aFU
set_option maxHeartbeats 4000000 in
theorem zH (F : Md) : FOK Tryz.prog GL 178 (iX F) := by
 refine bK (bD (aKV F)) mix Tryz.func178 rfl (by kernel_rfl) (by decide) aDc fun w0 S x Θ hw h hF => ?_
 obtain ⟨(s_0 : (List Nat)), u⟩ := x
 simp only [bP, go_sem]
 replace h : sat (oB F s_0) _ := h
 unfold oB at h
 obtain ⟨v_5, hv, h⟩ := aL h
 try simp only [hv, go_sem]
 obtain ⟨g0, h⟩ := aM h
 repeat (refine ⟨by omega, ?_⟩)
 refine ⟨fun hc => ?_, fun hc => ?_⟩
 ·replace h := iV hc h
  exact aH hF [.tmp 2, .tmp 3, .tmp 4] rfl rfl rfl (aA h) (by simp only [aV, go_sem])
 ·replace h := iW hc h
  refine eE hF (D := Int × (List Nat) × Int) (fun d => sat (mV F s_0 d.1 d.2.1 d.2.2) Θ) [0] (fun d => [(5, .val (.i .i64) d.1), (6, .val .str d.2.1), (7, .val (.i .i64) d.2.2)]) (fun d => []) ?_ ?_
  ·simp only [go_sem]
   obtain ⟨g0, h⟩ := aM h
   repeat (refine ⟨by omega, ?_⟩)
   refine ⟨fun hc => ?_, fun hc => ?_⟩
   ·replace h := iV hc h
    obtain ⟨g0, h⟩ := aM h
    repeat (refine ⟨by omega, ?_⟩)
    obtain ⟨v_32, hv, h⟩ := aL h
    try simp only [hv, go_sem]
    refine dU h (fun hc h => ?_) fun hc h => ?_
    ·exact aH hF [.tmp 2, .tmp 3, .tmp 4] rfl rfl rfl (aA h) (by simp only [aV, go_sem])
    ·obtain ⟨g0, h⟩ := aM h
     obtain ⟨g1, h⟩ := aM h
     obtain ⟨g2, h⟩ := aM h
     obtain ⟨g3, h⟩ := aM h
     obtain ⟨g4, h⟩ := aM h
     obtain ⟨g5, h⟩ := aM h
     obtain ⟨g6, h⟩ := aM h
     obtain ⟨g7, h⟩ := aM h
     repeat (refine ⟨by omega, ?_⟩)
     exact aQ ((((v_5 + (1 : Int)) + v_32), ((List.take (v_5.toNat) s_0) ++ (List.drop ((v_5 + (1 : Int)).toNat) (List.take (((v_5 + (1 : Int)) + v_32).toNat) s_0))), (0 - v_32))) h rfl (by simp only [go_sem])
   ·replace h := iW hc h
    exact aQ ((v_5, (List.take (v_5.toNat) s_0), (0 : Int))) h rfl (by simp only [go_sem])
  ·rintro ⟨at_8, all_9, pow_10⟩ h
   simp only [go_sem]
   replace h : sat (mV F s_0 at_8 all_9 pow_10) _ := h
   unfold mV at h
   refine eE hF (D := Int × Int) (fun d => sat (mS F all_9 s_0 d.1 d.2) Θ) [0, 6] (fun d => [(5, .val (.i .i64) d.1), (7, .val (.i .i64) d.2)]) (fun d => []) ?_ ?_
   ·simp only [go_sem]
    obtain ⟨g0, h⟩ := aM h
    repeat (refine ⟨by omega, ?_⟩)
    refine ⟨fun hc => ?_, fun hc => ?_⟩
    ·replace h := iV hc h
     obtain ⟨g0, h⟩ := aM h
     repeat (refine ⟨by omega, ?_⟩)
     obtain ⟨g0, h⟩ := aM h
     repeat (refine ⟨by omega, ?_⟩)
     refine eE hF (D := Int) (fun d => sat (mU F s_0 at_8 pow_10 all_9 d) Θ) [0, 6, 7, 9] (fun d => [(5, .val (.i .i64) d)]) (fun d => []) ?_ ?_
     ·simp only [go_sem]
      obtain ⟨g0, h⟩ := aM h
      repeat (refine ⟨by omega, ?_⟩)
      refine ⟨fun hc => ?_, fun hc => ?_⟩
      ·replace h := iV hc h
       obtain ⟨g0, h⟩ := aM h
       repeat (refine ⟨by omega, ?_⟩)
       exact aQ (((at_8 + (1 : Int)) + (1 : Int))) h rfl (by simp only [go_sem])
      ·replace h := iW hc h
       exact aQ ((at_8 + (1 : Int))) h rfl (by simp only [go_sem])
     ·rintro at_19 h
      simp only [go_sem]
      replace h : sat (mU F s_0 at_8 pow_10 all_9 at_19) _ := h
      unfold mU at h
      obtain ⟨v_23, hv, h⟩ := aL h
      try simp only [hv, go_sem]
      refine ⟨fun hc => ?_, fun hc => ?_⟩
      ·replace h := iV hc h
       exact aH hF [.tmp 2, .tmp 3, .tmp 4] rfl rfl rfl (aA h) (by simp only [aV, go_sem])
      ·replace h := iW hc h
       obtain ⟨g0, h⟩ := aM h
       obtain ⟨g1, h⟩ := aM h
       repeat (refine ⟨by omega, ?_⟩)
       obtain ⟨v_27, hv, h⟩ := aL h
       try simp only [hv, go_sem]
       refine eI h (fun hc h => ?_) fun hc h => ?_
       ·exact aH hF [.tmp 2, .tmp 3, .tmp 4] rfl rfl rfl (aA h) (by simp only [aV, go_sem])
       ·refine eE hF (D := Int) (fun d => sat (mT F pow_10 at_19 v_23 all_9 s_0 d) Θ) [0, 5, 6, 7, 10] (fun d => [(11, .val (.i .i64) d)]) (fun d => []) ?_ ?_
        ·simp only [go_sem]
         refine ⟨fun hc => ?_, fun hc => ?_⟩
         ·replace h := iV hc h
          obtain ⟨g0, h⟩ := aM h
          repeat (refine ⟨by omega, ?_⟩)
          exact aQ ((0 - (v_27.1))) h rfl (by simp only [go_sem])
         ·replace h := iW hc h
          exact aQ ((v_27.1)) h rfl (by simp only [go_sem])
        ·rintro x_28 h
         simp only [go_sem]
         replace h : sat (mT F pow_10 at_19 v_23 all_9 s_0 x_28) _ := h
         unfold mT at h
         obtain ⟨g0, h⟩ := aM h
         obtain ⟨g1, h⟩ := aM h
         repeat (refine ⟨by omega, ?_⟩)
         exact aQ (((at_19 + v_23), (pow_10 + x_28))) h rfl (by simp only [go_sem])
    ·replace h := iW hc h
     exact aQ ((at_8, pow_10)) h rfl (by simp only [go_sem])
   ·rintro ⟨at_17, pow_18⟩ h
    simp only [go_sem]
    replace h : sat (mS F all_9 s_0 at_17 pow_18) _ := h
    unfold mS at h
    exact aH hF [.tmp 2, .tmp 3, .tmp 4] rfl rfl rfl (aA h) (by simp only [aV, go_sem])
attribute [go_sem] iX
noncomputable def zI (F : Md) (n_1 : Int) (b_0 : Nat) (m_13 : (List Nat)) (x8_14 : Int) : Option (((List Nat) × Int) ⊕ (((List Nat)))) :=
 if x8_14 < n_1 then (gP F m_13 ([b_0] : List Nat)).bind (fun v_23 => ck (I64 (x8_14 + (1 : Int))) (some (.inl (v_23, (x8_14 + (1 : Int)))))) else some (.inr m_13)
noncomputable def oY (F : Md) (b_0 : Nat) (n_1 : Int) : Option (List Nat) :=
 (dJ F (fun d : (List Nat) × Int => zI F n_1 b_0 d.1 d.2) (([1] : List Nat), (0 : Int))).bind (fun e => some e)
def aFV : PlR := ⟨[], []⟩
def aHT : Ty := .pair (.u .u64) (.pair (.i .i64) .unit)
noncomputable def pL (F : Md) : aG := mSpec aHT (.one (.sl (.u .u64))) (fun x => oY F x.1 x.2.1)
noncomputable def aHU (F : Md) : List (FuncId × aG) := [(94, (eS F))]
theorem aNe (F : Md) : bI Tryz.prog GL (aHU F) := .cons (pG F) (by kernel_rfl) (.nil)
theorem aKj (F : Md) : gam (aHU F) 94 = some (eS F) := rfl
attribute [go_sem] aHT aFV aKj
set_option maxHeartbeats 4000000 in
theorem aFW (F : Md) : FOK Tryz.prog GL 96 (pL F) := by
 refine bK (bD (aNe F)) mix Tryz.func96 rfl (by kernel_rfl) (by decide) aFV fun w0 S x Θ hw h hF => ?_
 obtain ⟨(b_0 : Nat), (n_1 : Int), u⟩ := x
 simp only [bP, go_sem]
 replace h : sat (oY F b_0 n_1) _ := h
 unfold oY at h
 refine rU hF [0, 1] ?_
 simp only [go_sem]
 refine rU hF [0, 1, 5] ?_
 simp only [go_sem]
 refine rU hF [0, 5, 7, 8] ?_
 simp only [go_sem]
 refine bW hF (D := (List Nat) × Int) [0, 7] (fun d => [(5, .val (.sl (.u .u64)) d.1), (8, .val (.i .i64) d.2)]) (fun d => []) h rfl (by simp only [go_sem]) ?_
 rintro ⟨m_13, x8_14⟩ A3 T3 hA3 hE3 h
 simp only [go_sem]
 replace h : sat (zI F n_1 b_0 m_13 x8_14) _ := h
 unfold zI at h
 refine rU hF [0, 5, 7, 8, 9] ?_
 simp only [go_sem]
 refine eI h (fun hc h => ?_) fun hc h => ?_
 ·refine rU hF [0, 5, 7, 8] ?_
  simp only [go_sem]
  obtain ⟨v_23, hv, h⟩ := aL h
  try simp only [hv, go_sem]
  refine rU hF [0, 5, 7, 8] ?_
  simp only [go_sem]
  refine aU h fun g0 h => ?_
  replace h := hA3 _ (aA h)
  exact aQ _ h rfl (by simp only [go_sem])
 ·replace h := hE3 _ (aA h)
  try dsimp only at h
  refine rU hF [4] ?_
  simp only [go_sem]
  exact aH hF [.tmp 4] rfl rfl rfl (aA h) (by simp only [aV, go_sem])
attribute [go_sem] pL
noncomputable def wO (F : Md) (s_0 : (List Nat)) (m_24 : (List Nat)) (x9_25 : Int) : Option (((List Nat) × Int) ⊕ (((List Nat)))) :=
 if x9_25 < (((s_0.length) : Nat) : Int) then ck (0 ≤ x9_25 ∧ x9_25 < (((s_0.length) : Nat) : Int)) ((gP F m_24 ([10] : List Nat)).bind (fun v_44 => (yW F ([(sX F .u8 (s_0.getD (x9_25.toNat) (0 : Nat)) (48 : Nat))] : List Nat)).bind (fun v_45 => (aBO F v_44 v_45).bind (fun v_46 => ck (I64 (x9_25 + (1 : Int))) (some (.inl (v_46, (x9_25 + (1 : Int))))))))) else some (.inr m_24)
noncomputable def tK (F : Md) (s_0 : (List Nat)) : Option (List Nat) :=
 (dJ F (fun d : (List Nat) × Int => wO F s_0 d.1 d.2) (([] : List Nat), (0 : Int))).bind (fun e => some e)
def aEa : PlR := ⟨[], []⟩
def aFX : Ty := .pair .str .unit
noncomputable def oC (F : Md) : aG := mSpec aFX (.one (.sl (.u .u64))) (fun x => tK F x.1)
noncomputable def xR (F : Md) : List (FuncId × aG) := [(231, (rZ F)), (94, (eS F)), (99, (aAe F))]
theorem aMg (F : Md) : bI Tryz.prog GL (xR F) := .cons (aHA F) (by kernel_rfl) (.cons (pG F) (by kernel_rfl) (.cons (aM7 F) (by kernel_rfl) (.nil)))
theorem aGX (F : Md) : gam (xR F) 231 = some (rZ F) := rfl
theorem aIt (F : Md) : gam (xR F) 94 = some (eS F) := rfl
theorem aIu (F : Md) : gam (xR F) 99 = some (aAe F) := rfl
attribute [go_sem] aFX aEa aGX aIt aIu
set_option maxHeartbeats 4000000 in
theorem aEb (F : Md) : FOK Tryz.prog GL 179 (oC F) := by
 refine bK (bD (aMg F)) mix Tryz.func179 rfl (by kernel_rfl) (by decide) aEa fun w0 S x Θ hw h hF => ?_
 obtain ⟨(s_0 : (List Nat)), u⟩ := x
 simp only [bP, go_sem]
 replace h : sat (tK F s_0) _ := h
 unfold tK at h
 refine rU hF [0] ?_
 simp only [go_sem, aI F, aJ F, aK F]
 refine rU hF [0, 3] ?_
 simp only [go_sem, aI F, aJ F, aK F]
 refine rU hF [3, 7, 8, 9] ?_
 simp only [go_sem, aI F, aJ F, aK F]
 refine bW hF (D := (List Nat) × Int) [7, 8] (fun d => [(3, .val (.sl (.u .u64)) d.1), (9, .val (.i .i64) d.2)]) (fun d => []) h rfl (by simp only [go_sem, aI F, aJ F, aK F]) ?_
 rintro ⟨m_24, x9_25⟩ A3 T3 hA3 hE3 h
 simp only [go_sem, aI F, aJ F, aK F]
 replace h : sat (wO F s_0 m_24 x9_25) _ := h
 unfold wO at h
 refine rU hF [3, 7, 8, 9, 10] ?_
 simp only [go_sem, aI F, aJ F, aK F]
 refine eI h (fun hc h => ?_) fun hc h => ?_
 ·refine rU hF [3, 5, 7, 8, 9] ?_
  simp only [go_sem, aI F, aJ F, aK F]
  refine aU h fun g0 h => ?_
  refine rU hF [3, 7, 8, 9] ?_
  simp only [go_sem, aI F, aJ F, aK F]
  obtain ⟨v_44, hv, h⟩ := aL h
  try simp only [hv, go_sem, aI F, aJ F, aK F]
  obtain ⟨v_45, hv, h⟩ := aL h
  try simp only [hv, go_sem, aI F, aJ F, aK F]
  obtain ⟨v_46, hv, h⟩ := aL h
  try simp only [hv, go_sem, aI F, aJ F, aK F]
  refine rU hF [3, 7, 8, 9] ?_
  simp only [go_sem, aI F, aJ F, aK F]
  refine aU h fun g0 h => ?_
  replace h := hA3 _ (aA h)
  exact aQ _ h rfl (by simp only [go_sem, aI F, aJ F, aK F])
 ·replace h := hE3 _ (aA h)
  try dsimp only at h
  refine rU hF [2] ?_
  simp only [go_sem, aI F, aJ F, aK F]
  exact aH hF [.tmp 2] rfl rfl rfl (aA h) (by simp only [aV, go_sem, aI F, aJ F, aK F])
attribute [go_sem] oC
noncomputable def zJ (F : Md) (s_0 : (List Nat)) : Option Bool :=
 (oB F s_0).bind (fun v_5 => some (((v_5.2).2).1))
def aHV : PlR := ⟨[(0, .A [0]), (1, .A [5]), (2, .A [2])], []⟩
def aKk : Ty := .pair .str .unit
noncomputable def aAm (F : Md) : aG := mSpec aKk (.one .bool) (fun x => zJ F x.1)
noncomputable def aKl (F : Md) : List (FuncId × aG) := [(178, (iX F))]
theorem aN2 (F : Md) : bI Tryz.prog GL (aKl F) := .cons (zH F) (by kernel_rfl) (.nil)
theorem aKm (F : Md) : gam (aKl F) 178 = some (iX F) := rfl
attribute [go_sem] aKk aHV aKm
set_option maxHeartbeats 4000000 in
theorem aNf (F : Md) : FOK Tryz.prog GL 128 (aAm F) := by
 refine bK (bD (aN2 F)) mix Tryz.func128 rfl (by kernel_rfl) (by decide) aHV fun w0 S x Θ hw h hF => ?_
 obtain ⟨(s_0 : (List Nat)), u⟩ := x
 simp only [bP, go_sem]
 replace h : sat (zJ F s_0) _ := h
 unfold zJ at h
 obtain ⟨v_5, hv, h⟩ := aL h
 try simp only [hv, go_sem]
 exact aH hF [.tmp 2] rfl rfl rfl (aA h) (by simp only [aV, go_sem])
attribute [go_sem] aAm
noncomputable def aAn (F : Md) (s_0 : (List Nat)) : Option ((List Nat) × ((List Nat) × (Bool × Unit))) :=
 (oB F s_0).bind (fun v_5 => if ¬ ((((v_5.2).2).1) = true) then some (([] : List Nat), ([] : List Nat), false, ()) else (tK F (v_5.1)).bind (fun v_18 => (oY F (10 : Nat) (max ((v_5.2).1) (0 : Int))).bind (fun v_19 => (gP F v_18 v_19).bind (fun v_20 => ck (I64 (0 - ((v_5.2).1))) ((oY F (10 : Nat) (max (0 - ((v_5.2).1)) (0 : Int))).bind (fun v_21 => some (v_20, v_21, true, ())))))))
def aFY : PlR := ⟨[(0, .A [0]), (1, .A [5, 6, 7]), (2, .A [5, 6, 15]), (3, .A [2, 3, 4]), (4, .A [2, 3, 4])], []⟩
def aHW : Ty := .pair .str .unit
noncomputable def xS (F : Md) : aG := mSpec aHW (.tup (.pair (.sl (.u .u64)) (.pair (.sl (.u .u64)) (.pair .bool .unit)))) (fun x => aAn F x.1)
noncomputable def wD (F : Md) : List (FuncId × aG) := [(178, (iX F)), (179, (oC F)), (94, (eS F)), (96, (pL F))]
theorem aNg (F : Md) : bI Tryz.prog GL (wD F) := .cons (zH F) (by kernel_rfl) (.cons (aEb F) (by kernel_rfl) (.cons (pG F) (by kernel_rfl) (.cons (aFW F) (by kernel_rfl) (.nil))))
theorem aIv (F : Md) : gam (wD F) 178 = some (iX F) := rfl
theorem aIw (F : Md) : gam (wD F) 179 = some (oC F) := rfl
theorem aKn (F : Md) : gam (wD F) 94 = some (eS F) := rfl
theorem aKo (F : Md) : gam (wD F) 96 = some (pL F) := rfl
attribute [go_sem] aHW aFY aIv aIw aKn aKo
set_option maxHeartbeats 4000000 in
theorem aMh (F : Md) : FOK Tryz.prog GL 116 (xS F) := by
 refine bK (bD (aNg F)) mix Tryz.func116 rfl (by kernel_rfl) (by decide) aFY fun w0 S x Θ hw h hF => ?_
 obtain ⟨(s_0 : (List Nat)), u⟩ := x
 simp only [bP, go_sem]
 replace h : sat (aAn F s_0) _ := h
 unfold aAn at h
 obtain ⟨v_5, hv, h⟩ := aL h
 try simp only [hv, go_sem]
 refine aAz h (fun hc h => ?_) fun hc h => ?_
 ·exact aH hF [.tmp 2, .tmp 3, .tmp 4] rfl rfl rfl (aA h) (by simp only [aV, go_sem])
 ·obtain ⟨v_18, hv, h⟩ := aL h
  try simp only [hv, go_sem]
  obtain ⟨v_19, hv, h⟩ := aL h
  try simp only [hv, go_sem]
  obtain ⟨v_20, hv, h⟩ := aL h
  try simp only [hv, go_sem]
  refine aU h fun g0 h => ?_
  obtain ⟨v_21, hv, h⟩ := aL h
  try simp only [hv, go_sem]
  exact aH hF [.tmp 2, .tmp 3, .tmp 4] rfl rfl rfl (aA h) (by simp only [aV, go_sem])
attribute [go_sem] xS
noncomputable def aAo (F : Md) (s_0 : (List Nat)) : Option ((Bool × ((List Nat) × (Int × Unit))) × (Int × Unit)) :=
 (oB F s_0).bind (fun v_5 => if ¬ ((((v_5.2).2).1) = true) then some ((false, ([] : List Nat), (0 : Int), ()), (6 : Int), ()) else (tK F (v_5.1)).bind (fun v_21 => (oY F (5 : Nat) (max ((v_5.2).1) (0 : Int))).bind (fun v_22 => (gP F v_21 v_22).bind (fun v_23 => ck (I64 (0 - ((v_5.2).1))) ((oY F (5 : Nat) (max (0 - ((v_5.2).1)) (0 : Int))).bind (fun v_24 => (xJ F v_23 v_24).bind (fun v_25 => (zF F false (v_25.1) ((v_5.2).1)).bind (fun v_27 => if ((0 : Int) < (((((v_25.2).1).length) : Nat) : Int)) ∨ (¬ (((v_27.2).1) = (0 : Int))) then some ((false, ([] : List Nat), (0 : Int), ()), (6 : Int), ()) else some ((v_27.1), (0 : Int), ())))))))))
def aFZ : PlR := ⟨[(0, .B [0, 2]), (1, .A [2, 4, 5, 6]), (2, .A [2, 4, 5, 18]), (3, .B [2, 3]), (4, .A [2, 5, 7, 8]), (5, .B [2, 8, 9, 10]), (6, .A [2, 9, 46]), (7, .B [2, 3]), (8, .B [2, 3])], []⟩
def aHX : Ty := .pair .str .unit
noncomputable def xT (F : Md) : aG := mSpec aHX (.tup (.pair (.pair .bool (.pair (.sl (.u .u64)) (.pair (.i .i64) .unit))) (.pair (.i .i64) .unit))) (fun x => aAo F x.1)
noncomputable def oZ (F : Md) : List (FuncId × aG) := [(117, (sE F)), (166, (vI F)), (178, (iX F)), (179, (oC F)), (94, (eS F)), (96, (pL F))]
theorem aNh (F : Md) : bI Tryz.prog GL (oZ F) := .cons (aHL F) (by kernel_rfl) (.cons (aKL F) (by kernel_rfl) (.cons (zH F) (by kernel_rfl) (.cons (aEb F) (by kernel_rfl) (.cons (pG F) (by kernel_rfl) (.cons (aFW F) (by kernel_rfl) (.nil))))))
theorem aIx (F : Md) : gam (oZ F) 117 = some (sE F) := rfl
theorem aIy (F : Md) : gam (oZ F) 166 = some (vI F) := rfl
theorem aIz (F : Md) : gam (oZ F) 178 = some (iX F) := rfl
theorem aIA (F : Md) : gam (oZ F) 179 = some (oC F) := rfl
theorem aKp (F : Md) : gam (oZ F) 94 = some (eS F) := rfl
theorem aKq (F : Md) : gam (oZ F) 96 = some (pL F) := rfl
attribute [go_sem] aHX aFZ aIx aIy aIz aIA aKp aKq
set_option maxHeartbeats 4000000 in
theorem aMi (F : Md) : FOK Tryz.prog GL 133 (xT F) := by
 refine bK (bD (aNh F)) mix Tryz.func133 rfl (by kernel_rfl) (by decide) aFZ fun w0 S x Θ hw h hF => ?_
 obtain ⟨(s_0 : (List Nat)), u⟩ := x
 simp only [bP, go_sem]
 replace h : sat (aAo F s_0) _ := h
 unfold aAo at h
 obtain ⟨v_5, hv, h⟩ := aL h
 try simp only [hv, go_sem]
 refine aAz h (fun hc h => ?_) fun hc h => ?_
 ·exact aH hF [.cell 2 25, .tmp 3] rfl rfl rfl (aA h) (by simp only [aV, go_sem])
 ·obtain ⟨v_21, hv, h⟩ := aL h
  try simp only [hv, go_sem]
  obtain ⟨v_22, hv, h⟩ := aL h
  try simp only [hv, go_sem]
  obtain ⟨v_23, hv, h⟩ := aL h
  try simp only [hv, go_sem]
  refine aU h fun g0 h => ?_
  obtain ⟨v_24, hv, h⟩ := aL h
  try simp only [hv, go_sem]
  obtain ⟨v_25, hv, h⟩ := aL h
  try simp only [hv, go_sem]
  obtain ⟨v_27, hv, h⟩ := aL h
  try simp only [hv, go_sem]
  refine ⟨fun hc => ?_, fun hc => ?_⟩
  ·replace h := iV hc h
   exact aH hF [.cell 2 25, .tmp 3] rfl rfl rfl (aA h) (by simp only [aV, go_sem])
  ·replace h := iW hc h
   exact aH hF [.cell 2 25, .tmp 3] rfl rfl rfl (aA h) (by simp only [aV, go_sem])
attribute [go_sem] xT
noncomputable def iQ (F : Md) (a_0 : (Bool × ((List Nat) × (Int × Unit)))) (b_1 : (Bool × ((List Nat) × (Int × Unit)))) (n_2 : Int) : Option Bool :=
 (aDH F n_2 (0 : Int)).bind (fun v_5 => (aBW F b_1 (v_5.1)).bind (fun v_7 => ck (((((v_7.2).1) = (0 : Int)) → (((uY F a_0 (v_7.1)).isSome = true)))) (some ((decide (((v_7.2).1) = (0 : Int))) && (decide (((uY F a_0 (v_7.1)).getD (0 : Int)) ≤ (0 : Int)))))))
def aEc : PlR := ⟨[(0, .B [2, 3, 4]), (1, .B [3, 4, 7]), (2, .B [3, 9, 10]), (3, .A [6])], []⟩
def aF0 : Ty := .pair (.pair .bool (.pair (.sl (.u .u64)) (.pair (.i .i64) .unit))) (.pair (.pair .bool (.pair (.sl (.u .u64)) (.pair (.i .i64) .unit))) (.pair (.i .i64) .unit))
noncomputable def vM (F : Md) : aG := mSpec aF0 (.one .bool) (fun x => iQ F x.1 x.2.1 x.2.2.1)
noncomputable def xU (F : Md) : List (FuncId × aG) := [(200, (aBT F)), (201, (aAk F)), (22, (sF F))]
theorem aMj (F : Md) : bI Tryz.prog GL (xU F) := .cons (aN0 F) (by kernel_rfl) (.cons (aNd F) (by kernel_rfl) (.cons (aHR F) (by kernel_rfl) (.nil)))
theorem aGY (F : Md) : gam (xU F) 200 = some (aBT F) := rfl
theorem aGZ (F : Md) : gam (xU F) 201 = some (aAk F) := rfl
theorem aIB (F : Md) : gam (xU F) 22 = some (sF F) := rfl
attribute [go_sem] aF0 aEc aGY aGZ aIB
set_option maxHeartbeats 4000000 in
theorem aKW (F : Md) : FOK Tryz.prog GL 134 (vM F) := by
 refine bK (bD (aMj F)) mix Tryz.func134 rfl (by kernel_rfl) (by decide) aEc fun w0 S x Θ hw h hF => ?_
 obtain ⟨(a_0 : (Bool × ((List Nat) × (Int × Unit)))), (b_1 : (Bool × ((List Nat) × (Int × Unit)))), (n_2 : Int), u⟩ := x
 simp only [bP, go_sem]
 replace h : sat (iQ F a_0 b_1 n_2) _ := h
 unfold iQ at h
 obtain ⟨v_5, hv, h⟩ := aL h
 try simp only [hv, go_sem]
 obtain ⟨v_7, hv, h⟩ := aL h
 try simp only [hv, go_sem]
 refine aU h fun g0 h => ?_
 exact aH hF [.tmp 6] rfl rfl rfl (aA h) (by simp only [aV, go_sem])
attribute [go_sem] vM
end Nu
end Go.Proofs
namespace Go.Proofs
open Go.Vc
set_option maxRecDepth 100000
namespace Nu
section
open Go.Shelf Go.RowKit Go.Lib
set_option maxHeartbeats 4000000 in
theorem aQR (n : Nat) (w : World) (hn : n ≤ 1073741824) :
  Calls Tryz.prog 202 #[.slice none 0 0, .int .i64 n] w fun e w' => (n = 0 ∧ e = .returned (.slice none 0 0) ∧ w' = w) ∨
   (0 < n ∧ e = .returned (.slice (some ⟨w.heap.size, 0, none⟩) 0 (grownCap w n 0 9)) ∧ w' = w.drew.alloc (.cells (Builtin.zeroCells #[Value.string ⟨#[]⟩] n ++ Builtin.zeroCells #[Value.string ⟨#[]⟩] (grownCap w n 0 9 - n)) 9)) := by
 have h1 : ¬ ((n : Int) < 0) := by omega
 have h3 : wrap64 ((n : Int) - wrap64 (0 - 0)) = (n : Int) := by unfold wrap64; omega
 have h5 : wrap64 (n : Int) = (n : Int) := by unfold wrap64; omega
 obtain ⟨i, hi, hz, hs, hb⟩ : ∃ i, Tryz.prog.info? 9 = some i ∧ i.zero = some (.string ⟨#[]⟩) ∧ i.size = 1 ∧ i.bytes = 16 := ⟨_, rfl, rfl, rfl, rfl⟩
 go_enter Tryz.func202, Tryz.ntmps202
 rcases Nat.eq_zero_or_pos n with rfl | hp
 ·go_wp2
  go_ret
  exact ⟨rfl, rfl⟩
 ·have h4 : (n : Int) > 0 := by omega
  have hrz : ∀ ty, (Builtin.append_ #[48, 3] ty #[.slice none 0 0, .int .i64 (n : Int)]).run Tryz.prog w = .ok (.slice (some ⟨w.heap.size, 0, none⟩) n (grownCap w n 0 9)) (w.drew.alloc (.cells (Builtin.zeroCells #[Value.string ⟨#[]⟩] n ++ Builtin.zeroCells #[Value.string ⟨#[]⟩] (grownCap w n 0 9 - n)) 9)) :=
   fun ty => Lib.run_append_nil_zeros w 48 3 ty 9 i (.string ⟨#[]⟩) .i64 .i64 rfl rfl hi hz n hp (by omega) (by omega) (by rw [hb]; omega)
  have hG := grownCap_ge w n 0 9
  have hG2 := grownCap_le_maxLen w n 0 9 (by unfold maxLen; omega)
  unfold maxLen at hG2
  generalize grownCap w n 0 9 = G at *
  go_wp2_with (at_builtin; refine Lib.wpList_append_run _ rfl _ _ _ _ rfl _ _ rfl rfl _ _ (hrz _) ?_)
  go_ret
  exact .inr ⟨rfl, rfl⟩
end
def mA (F : Md) (n : Int) : Option (List (List Nat)) := ck (0 ≤ n ∧ n ≤ 1073741824) (some [])
noncomputable def gD (F : Md) : nN where
 D := Int × ((List (List Nat)))
 av := fun d => [.nilS, .val (.i .i64) d.1]
 hp := fun d => []
 m := 0
 pre := fun d => mA F d.1 = some d.2
 out := fun d => (fun r : (List (List Nat)) => .ret (.own 0) [.row 9 .str (r)]) d.2
attribute [go_sem] gD
theorem aNi {F : Md} {c : Ctx} {w w' : World} {d : (gD F).D} (hd : d.2 = []) (good : Go.Vc.Good (GM (gD F) c d) w c [] w) (hk : fP nothing w w') (v : Value) (hv : ∃ a n m, v = .slice a n m) (hr : w'.ownsRow 0 9 1 v 0 []) (hb : ∀ b, aO v = some b → w.heap.size ≤ b ∧ b < w'.heap.size) :
  aFr (gD F) c w d (.returned v) w' := by
 have e1 : (c.push v).hd c.n = v := by simp [Ctx.push]
 have h0 : c.n = 0 := good.n
 have := good.push hk (o := .row 9 .str []) (hv := v) (by
  show wH _ _ _ _ _ _
  rw [e1]
  exact ⟨[], hr, ⟨rfl, [], rfl, rfl, fun i h => by simp at h⟩⟩) (fun b h => hb b (by simpa [dV, e1] using h))
 refine ⟨c.push v, ?_⟩
 show ∃ u, _ ∧ Go.Vc.Good _ _ _ [.row 9 .str d.2] _ ∧ aP _ _ (.own 0) u
 rw [hd]
 refine ⟨v, rfl, this.1, ?_⟩
 have := yM (c := c) (v' := v) hv (w' := w') (S' := c.S)
 rw [h0] at this
 exact this
theorem aCy (F : Md) : GOK Tryz.prog GL 202 (gD F) := by
 rintro c w ⟨n, r⟩ vs hpre ⟨good, glob, len, val⟩
 have hpre : mA F n = some r := hpre
 unfold mA at hpre
 obtain ⟨⟨h1, h2⟩, hpre⟩ := aF hpre
 have hr : [] = r := Option.some.inj hpre
 have hv0 := val 0 (by show 0 < 2; decide) (by rw [len]; show 0 < 2; decide)
 have hv1 := val 1 (by show 1 < 2; decide) (by rw [len]; show 1 < 2; decide)
 have e0 : vs.toList[0]'(by rw [len]; show 0 < 2; decide) = .slice none 0 0 := by
  obtain ⟨q1, _, q3⟩ := hv0
  have q3 := q3 rfl
  revert q1 q3
  generalize vs.toList[0]'(by rw [len]; show 0 < 2; decide) = sv
  intro q1 q3
  have q1 : sv.cells.toList = [.slice none 0 0] := q1
  cases sv <;> simp [Value.cells] at q1 q3 <;> simp [q1]
 obtain ⟨e1, _, _⟩ := aCF (k := .i64) (n := n) hv1
 have hvs : vs = #[.slice none 0 0, .int .i64 (n.toNat : Int)] := by
  have hlen : vs.toList.length = 2 := len
  rw [← Array.toList_inj]
  apply List.ext_getElem
  ·exact hlen
  ·intro i a1 a2
   match i, a2 with
   | 0, _ => exact e0
   | 1, _ => show _ = Value.int .i64 (n.toNat : Int); rw [Int.toNat_of_nonneg h1]; exact e1
 rw [hvs]
 refine Calls.mono (f := 202) (aQR n.toNat w (by omega)) ?_
 rintro e w' (⟨_, rfl, rfl⟩ | ⟨hp, rfl, rfl⟩)
 ·exact aNi (d := (n, r)) hr.symm good (.refl nothing _) _ ⟨_, _, _, rfl⟩ ⟨rfl, .inl ⟨rfl, rfl⟩⟩ (fun b h => by simp [aO] at h)
 ·have hG := grownCap_ge w n.toNat 0 9
  have hG2 := grownCap_le_maxLen w n.toNat 0 9 (by unfold maxLen; omega)
  have hk : ∀ o, fP nothing w (w.drew.alloc o) := fun o => have k := fP.alloc nothing w.drew o; ⟨rfl, rfl, rfl, k.size, k.block⟩
  refine aNi (d := (n, r)) hr.symm good (hk _) _ ⟨_, _, _, rfl⟩ ⟨rfl, .inr ⟨w.heap.size, _, Builtin.zeroCells #[Value.string ⟨#[]⟩] n.toNat ++ Builtin.zeroCells #[Value.string ⟨#[]⟩] (grownCap w n.toNat 0 9 - n.toNat), rfl, Nat.zero_le _, ?_, Nat.zero_le _, hG2, ?_, rfl⟩⟩ ?_
  ·show (w.heap.push _)[w.heap.size]? = _
   simp
  ·simp [Builtin.zeroCells]
   omega
  ·intro b h
   simp only [aO, Option.some.injEq] at h
   subst h
   refine ⟨Nat.le_refl _, ?_⟩
   show w.heap.size < (w.heap.push _).size
   simp
end Nu
end Go.Proofs
namespace Go.Proofs
open Go.Vc
set_option maxRecDepth 20000
namespace Nu
noncomputable def nG (F : Md) (l_8 : (List (Bool × ((List Nat) × (Int × Unit))))) : Option (Bool) :=
 ck ((2 : Int) < (((l_8.length) : Nat) : Int)) (ck ((1 : Int) < (((l_8.length) : Nat) : Int)) ((uY F (l_8.getD (2 : Nat) (false, ([] : List Nat), (0 : Int), ())) (l_8.getD (1 : Nat) (false, ([] : List Nat), (0 : Int), ()))).bind (fun v_14 => ck (((v_14 ≤ (0 : Int)) → ((0 : Int) < (((l_8.length) : Nat) : Int)))) (ck (((v_14 ≤ (0 : Int)) → ((1 : Int) < (((l_8.length) : Nat) : Int)))) (ck (((v_14 ≤ (0 : Int)) → (((iQ F (l_8.getD (0 : Nat) (false, ([] : List Nat), (0 : Int), ())) (l_8.getD (1 : Nat) (false, ([] : List Nat), (0 : Int), ())) (256 : Int)).isSome = true)))) (ck ((((v_14 ≤ (0 : Int)) ∧ (((iQ F (l_8.getD (0 : Nat) (false, ([] : List Nat), (0 : Int), ())) (l_8.getD (1 : Nat) (false, ([] : List Nat), (0 : Int), ())) (256 : Int)).getD false) = true)) → ((1 : Int) < (((l_8.length) : Nat) : Int)))) (ck ((((v_14 ≤ (0 : Int)) ∧ (((iQ F (l_8.getD (0 : Nat) (false, ([] : List Nat), (0 : Int), ())) (l_8.getD (1 : Nat) (false, ([] : List Nat), (0 : Int), ())) (256 : Int)).getD false) = true)) → ((2 : Int) < (((l_8.length) : Nat) : Int)))) (ck ((((v_14 ≤ (0 : Int)) ∧ (((iQ F (l_8.getD (0 : Nat) (false, ([] : List Nat), (0 : Int), ())) (l_8.getD (1 : Nat) (false, ([] : List Nat), (0 : Int), ())) (256 : Int)).getD false) = true)) → (((iQ F (l_8.getD (1 : Nat) (false, ([] : List Nat), (0 : Int), ())) (l_8.getD (2 : Nat) (false, ([] : List Nat), (0 : Int), ())) (4096 : Int)).isSome = true)))) (some (((decide (v_14 ≤ (0 : Int))) && ((iQ F (l_8.getD (0 : Nat) (false, ([] : List Nat), (0 : Int), ())) (l_8.getD (1 : Nat) (false, ([] : List Nat), (0 : Int), ())) (256 : Int)).getD false)) && ((iQ F (l_8.getD (1 : Nat) (false, ([] : List Nat), (0 : Int), ())) (l_8.getD (2 : Nat) (false, ([] : List Nat), (0 : Int), ())) (4096 : Int)).getD false)))))))))))
noncomputable def rV (F : Md) (s_0 : (Int × (Int × (Int × (Int × ((List Nat) × ((List Nat) × ((List Nat) × ((List Nat) × ((List ((List Nat) × ((List ((List Nat) × (((List Nat) × ((List Nat) × Unit)) × (Ex × Unit)))) × ((List ((List Nat) × (((List Nat) × ((List Nat) × Unit)) × Unit))) × ((List (List Nat)) × ((List ((List Nat) × (Ex × Unit))) × Unit)))))) × ((List ((List Nat) × ((List Nat) × ((List Nat) × ((List Nat) × Unit))))) × Unit))))))))))) (x56_16 : Int) (l_17 : (List (Bool × ((List Nat) × (Int × Unit))))) : Option ((Int × (List (Bool × ((List Nat) × (Int × Unit))))) ⊕ (((List (Bool × ((List Nat) × (Int × Unit))))) ⊕ Bool)) :=
 if x56_16 < (4 : Int) then ck (0 ≤ x56_16 ∧ x56_16 < (4 : Int)) ((aAo F (([(((((s_0.2).2).2).2).1), ((((((s_0.2).2).2).2).2).1), (((((((s_0.2).2).2).2).2).2).1), ((((((((s_0.2).2).2).2).2).2).2).1)] : List (List Nat)).getD (x56_16.toNat) ([] : List Nat))).bind (fun v_24 => ck ((¬ (¬ (((v_24.2).1) = (0 : Int))) → (((oX F (v_24.1)).isSome = true)))) (if (¬ (((v_24.2).1) = (0 : Int))) ∨ (((oX F (v_24.1)).getD (0 : Int)) ≤ (0 : Int)) then some (.inr (.inr false)) else ck (((l_17.length) + (1 : Nat)) * 73 ≤ 140737488355328) (ck (I64 (x56_16 + (1 : Int))) (some (.inl ((x56_16 + (1 : Int)), (l_17 ++ ([(v_24.1)] : List (Bool × ((List Nat) × (Int × Unit)))))))))))) else some (.inr (.inl l_17))
noncomputable def rJ (F : Md) (s_0 : (Int × (Int × (Int × (Int × ((List Nat) × ((List Nat) × ((List Nat) × ((List Nat) × ((List ((List Nat) × ((List ((List Nat) × (((List Nat) × ((List Nat) × Unit)) × (Ex × Unit)))) × ((List ((List Nat) × (((List Nat) × ((List Nat) × Unit)) × Unit))) × ((List (List Nat)) × ((List ((List Nat) × (Ex × Unit))) × Unit)))))) × ((List ((List Nat) × ((List Nat) × ((List Nat) × ((List Nat) × Unit))))) × Unit))))))))))) : Option Bool :=
 if (((((((s_0.1) < (8 : Int)) ∨ ((200 : Int) < (s_0.1))) ∨ (((s_0.2).1) < (1 : Int))) ∨ ((20 : Int) < ((s_0.2).1))) ∨ ((((s_0.2).2).1) < (0 : Int))) ∨ ((3 : Int) < (((s_0.2).2).1))) ∨ ((¬ (((((s_0.2).2).2).1) = (1 : Int))) ∧ (¬ (((((s_0.2).2).2).1) = (2 : Int)))) then some false else (dJ F (fun d : Int × (List (Bool × ((List Nat) × (Int × Unit)))) => rV F s_0 d.1 d.2) ((0 : Int), ([] : List (Bool × ((List Nat) × (Int × Unit)))))).bind (fun e => match e with | (.inl e) => nG F e | (.inr e) => some e)
def aA8 : PlR := ⟨[(0, .B [1]), (1, .A [1, 45]), (2, .A [2]), (3, .A [1, 3]), (4, .A [3, 54, 55, 56]), (5, .A [3, 54, 55, 56, 57]), (6, .A [3, 5, 54, 55, 56]), (7, .B [3, 6, 7, 54, 55, 56]), (8, .A [3, 6, 54, 55, 56, 71]), (9, .A [2]), (10, .B [3, 54, 55, 56]), (11, .A [3, 54, 55, 56]), (12, .A [2])], [(7, 15)]⟩
def aCk : Ty := .pair (.pair (.i .i64) (.pair (.i .i64) (.pair (.i .i64) (.pair (.i .i64) (.pair .str (.pair .str (.pair .str (.pair .str (.pair (.sl (.pair .str (.pair (.sl (.pair .str (.pair (.pair .str (.pair .str .unit)) (.pair .expr .unit)))) (.pair (.sl (.pair .str (.pair (.pair .str (.pair .str .unit)) .unit))) (.pair (.sl .str) (.pair (.sl (.pair .str (.pair .expr .unit))) .unit)))))) (.pair (.sl (.pair .str (.pair .str (.pair .str (.pair .str .unit))))) .unit)))))))))) .unit
noncomputable def pM (F : Md) : aG := mSpec aCk (.one .bool) (fun x => rJ F x.1)
noncomputable def nU (F : Md) : List (FuncId × aG) := [(133, (xT F)), (134, (vM F)), (22, (sF F)), (57, (pI F))]
theorem aIC (F : Md) : bI Tryz.prog GL (nU F) := .cons (aMi F) (by kernel_rfl) (.cons (aKW F) (by kernel_rfl) (.cons (aHR F) (by kernel_rfl) (.cons (aFN F) (by kernel_rfl) (.nil))))
theorem aDJ (F : Md) : gam (nU F) 133 = some (xT F) := rfl
theorem aDK (F : Md) : gam (nU F) 134 = some (vM F) := rfl
theorem aEK (F : Md) : gam (nU F) 22 = some (sF F) := rfl
theorem aEL (F : Md) : gam (nU F) 57 = some (pI F) := rfl
attribute [go_sem] aCk aA8 aDJ aDK aEK aEL
set_option maxHeartbeats 4000000 in
theorem aG0 (F : Md) : FOK Tryz.prog GL 66 (pM F) := by
 refine bK (bD (aIC F)) mix Tryz.func66 rfl (by kernel_rfl) (by decide) aA8 fun w0 S x Θ hw h hF => ?_
 obtain ⟨(s_0 : (Int × (Int × (Int × (Int × ((List Nat) × ((List Nat) × ((List Nat) × ((List Nat) × ((List ((List Nat) × ((List ((List Nat) × (((List Nat) × ((List Nat) × Unit)) × (Ex × Unit)))) × ((List ((List Nat) × (((List Nat) × ((List Nat) × Unit)) × Unit))) × ((List (List Nat)) × ((List ((List Nat) × (Ex × Unit))) × Unit)))))) × ((List ((List Nat) × ((List Nat) × ((List Nat) × ((List Nat) × Unit))))) × Unit))))))))))), u⟩ := x
 simp only [bP, go_sem]
 replace h : sat (rJ F s_0) _ := h
 unfold rJ at h
 refine ⟨fun hc => ?_, fun hc => ?_⟩
 ·replace h := iV hc h
  exact aH hF [.tmp 2] rfl rfl rfl (aA h) (by simp only [aV, go_sem])
 ·replace h := iW hc h
  refine eE hF (D := (List (Bool × ((List Nat) × (Int × Unit))))) (fun d => sat (nG F d) Θ) [] (fun d => [(3, .own 0)]) (fun d => [.inr (.row 25 (.pair .bool (.pair (.sl (.u .u64)) (.pair (.i .i64) .unit))) d)]) ?_ ?_
  ·simp only [go_sem]
   refine aBE 3 25 (.pair .bool (.pair (.sl (.u .u64)) (.pair (.i .i64) .unit))) rfl ?_
   simp only [go_sem]
   refine aDF [1] rfl rfl ?_
   simp only [go_sem]
   refine bW hF (D := Int × (List (Bool × ((List Nat) × (Int × Unit))))) [55] (fun d => [(3, .own 0), (54, .val (.sl .str) ([(((((s_0.2).2).2).2).1), ((((((s_0.2).2).2).2).2).1), (((((((s_0.2).2).2).2).2).2).1), ((((((((s_0.2).2).2).2).2).2).2).1)] : List (List Nat))), (56, .val (.i .i64) d.1)]) (fun d => [.inr (.row 25 (.pair .bool (.pair (.sl (.u .u64)) (.pair (.i .i64) .unit))) d.2)]) h rfl (by (try simp only [fZ, eG, true_or, and_self, go_sem]) <;> (repeat' apply And.intro) <;> first | rfl | (left; rfl) | (right; rfl) | (left; simp only [go_sem]; done) | (right; simp only [go_sem]; done) | (simp; done) | (simp only [*]; done) | omega) ?_
   rintro ⟨x56_16, l_17⟩ A5 T5 hA5 hE5 h
   simp only [go_sem]
   replace h : sat (rV F s_0 x56_16 l_17) _ := h
   unfold rV at h
   refine eI h (fun hc h => ?_) fun hc h => ?_
   ·obtain ⟨g0, h⟩ := aM h
    repeat (refine ⟨by first | with_reducible assumption | omega | (intros; first | with_reducible assumption | omega) | (simp only [go_sem] at *; first | with_reducible assumption | omega) | decide, ?_⟩)
    obtain ⟨v_24, hv, h⟩ := aL h
    try simp only [hv, go_sem]
    obtain ⟨g0, h⟩ := aM h
    repeat (refine ⟨by first | with_reducible assumption | omega | (intros; first | with_reducible assumption | omega) | (simp only [go_sem] at *; first | with_reducible assumption | omega) | (intro q0; (try have e0 := g0 (by first | exact q0 | omega | (simpa using q0))); first | assumption | omega) | decide, ?_⟩)
    refine ⟨fun hc => ?_, fun hc => ?_⟩
    ·replace h := iV (by first | exact hc | omega | (simpa using hc) | (simp at hc ⊢; omega)) h
     replace h := hE5 _ (aA h)
     try dsimp only at h
     exact aH hF [.tmp 2] rfl rfl rfl (aA h) (by simp only [aV, go_sem])
    ·replace h := iW (by first | exact hc | omega | (simpa using hc) | (simp at hc ⊢; omega)) h
     obtain ⟨g0, h⟩ := aM h
     repeat (refine ⟨by first | with_reducible assumption | omega | (intros; first | with_reducible assumption | omega) | (simp only [go_sem] at *; first | with_reducible assumption | omega) | decide, ?_⟩)
     obtain ⟨g0, h⟩ := aM h
     try simp only [I64, I32] at g0
     repeat (refine ⟨by first | with_reducible assumption | omega | (intros; first | with_reducible assumption | omega) | (simp only [go_sem] at *; first | with_reducible assumption | omega) | decide, ?_⟩)
     replace h := hA5 _ (aA h)
     refine fH [2] rfl rfl ?_
     simp only [go_sem]
     exact aQ _ h rfl (by simp only [go_sem])
   ·replace h := hE5 _ (aA h)
    try dsimp only at h
    exact aQ (l_17) h rfl (by simp only [go_sem])
  ·rintro l_8 h
   simp only [go_sem]
   replace h : sat (nG F l_8) _ := h
   unfold nG at h
   obtain ⟨g0, h⟩ := aM h
   obtain ⟨g1, h⟩ := aM h
   repeat (refine ⟨by first | with_reducible assumption | omega | (intros; first | with_reducible assumption | omega) | (simp only [go_sem] at *; first | with_reducible assumption | omega) | decide, ?_⟩)
   obtain ⟨v_14, hv, h⟩ := aL h
   try simp only [hv, go_sem]
   obtain ⟨g0, h⟩ := aM h
   obtain ⟨g1, h⟩ := aM h
   obtain ⟨g2, h⟩ := aM h
   obtain ⟨g3, h⟩ := aM h
   obtain ⟨g4, h⟩ := aM h
   obtain ⟨g5, h⟩ := aM h
   repeat (refine ⟨by first | with_reducible assumption | omega | (intros; first | with_reducible assumption | omega) | (simp only [go_sem] at *; first | with_reducible assumption | omega) | (intro q0; (try have e0 := g0 (by first | exact q0 | omega | (simpa using q0))); (try have e1 := g1 (by first | exact q0 | omega | (simpa using q0))); (try have e2 := g2 (by first | exact q0 | omega | (simpa using q0))); (try have e3 := g3 (by first | exact q0 | omega | (simpa using q0))); (try have e4 := g4 (by first | exact q0 | omega | (simpa using q0))); (try have e5 := g5 (by first | exact q0 | omega | (simpa using q0))); first | assumption | omega) | decide, ?_⟩)
   exact aH hF [.tmp 2] rfl rfl rfl (aA h) (by simp only [aV, go_sem])
attribute [go_sem] pM
noncomputable def pN (F : Md) (x_6 : (List (List Nat))) (s_0 : ((List Nat) × ((List ((List Nat) × (((List Nat) × ((List Nat) × Unit)) × (Ex × Unit)))) × ((List ((List Nat) × (((List Nat) × ((List Nat) × Unit)) × Unit))) × ((List (List Nat)) × ((List ((List Nat) × (Ex × Unit))) × Unit)))))) (p_11 : (List (List Nat))) : Option (((List (List Nat)) × ((List (List Nat)) × ((List (List Nat)) × Unit)))) :=
 some (x_6, p_11, ((((s_0.2).2).2).1), ())
noncomputable def uZ (F : Md) (s_0 : ((List Nat) × ((List ((List Nat) × (((List Nat) × ((List Nat) × Unit)) × (Ex × Unit)))) × ((List ((List Nat) × (((List Nat) × ((List Nat) × Unit)) × Unit))) × ((List (List Nat)) × ((List ((List Nat) × (Ex × Unit))) × Unit)))))) (x25_12 : Int) (p_13 : (List (List Nat))) : Option ((Int × (List (List Nat))) ⊕ (((List (List Nat))))) :=
 if x25_12 < ((((((s_0.2).2).1).length) : Nat) : Int) then ck (0 ≤ x25_12 ∧ x25_12 < ((((((s_0.2).2).1).length) : Nat) : Int)) (ck (((p_13.length) + (1 : Nat)) * 16 ≤ 140737488355328) (ck (I64 (x25_12 + (1 : Int))) (some (.inl ((x25_12 + (1 : Int)), (p_13 ++ ([(((((s_0.2).2).1).getD (x25_12.toNat) (([] : List Nat), (([] : List Nat), ([] : List Nat), ()), ())).1)] : List (List Nat)))))))) else some (.inr p_13)
noncomputable def pO (F : Md) (s_0 : ((List Nat) × ((List ((List Nat) × (((List Nat) × ((List Nat) × Unit)) × (Ex × Unit)))) × ((List ((List Nat) × (((List Nat) × ((List Nat) × Unit)) × Unit))) × ((List (List Nat)) × ((List ((List Nat) × (Ex × Unit))) × Unit)))))) (x_6 : (List (List Nat))) : Option (((List (List Nat)) × ((List (List Nat)) × ((List (List Nat)) × Unit)))) :=
 (dJ F (fun d : Int × (List (List Nat)) => uZ F s_0 d.1 d.2) ((0 : Int), ([] : List (List Nat)))).bind (fun e => pN F x_6 s_0 e)
noncomputable def vA (F : Md) (s_0 : ((List Nat) × ((List ((List Nat) × (((List Nat) × ((List Nat) × Unit)) × (Ex × Unit)))) × ((List ((List Nat) × (((List Nat) × ((List Nat) × Unit)) × Unit))) × ((List (List Nat)) × ((List ((List Nat) × (Ex × Unit))) × Unit)))))) (x12_17 : Int) (x_18 : (List (List Nat))) : Option ((Int × (List (List Nat))) ⊕ (((List (List Nat))))) :=
 if x12_17 < (((((s_0.2).1).length) : Nat) : Int) then ck (0 ≤ x12_17 ∧ x12_17 < (((((s_0.2).1).length) : Nat) : Int)) (ck (((x_18.length) + (1 : Nat)) * 16 ≤ 140737488355328) (ck (I64 (x12_17 + (1 : Int))) (some (.inl ((x12_17 + (1 : Int)), (x_18 ++ ([((((s_0.2).1).getD (x12_17.toNat) (([] : List Nat), (([] : List Nat), ([] : List Nat), ()), (Ex.mk 0 [] []), ())).1)] : List (List Nat)))))))) else some (.inr x_18)
noncomputable def aW (F : Md) (s_0 : ((List Nat) × ((List ((List Nat) × (((List Nat) × ((List Nat) × Unit)) × (Ex × Unit)))) × ((List ((List Nat) × (((List Nat) × ((List Nat) × Unit)) × Unit))) × ((List (List Nat)) × ((List ((List Nat) × (Ex × Unit))) × Unit)))))) : Option ((List (List Nat)) × ((List (List Nat)) × ((List (List Nat)) × Unit))) :=
 (dJ F (fun d : Int × (List (List Nat)) => vA F s_0 d.1 d.2) ((0 : Int), ([] : List (List Nat)))).bind (fun e => pO F s_0 e)
def aDd : PlR := ⟨[(0, .B [1, 2, 3]), (1, .A [1, 2, 3, 10, 11, 12]), (2, .A [1, 2, 3, 10, 11, 12, 13]), (3, .B [1, 2, 3, 6, 10, 11, 12]), (4, .B [1, 2, 3, 10, 11, 12]), (5, .A [1, 2, 3, 10, 11, 12]), (6, .A [1, 2, 3, 23, 24, 25]), (7, .A [1, 2, 3, 23, 24, 25, 26]), (8, .B [1, 2, 3, 8, 23, 24, 25]), (9, .B [1, 2, 3, 23, 24, 25]), (10, .A [1, 2, 3, 23, 24, 25]), (11, .A [2, 3, 4])], [(4, 9), (9, 14)]⟩
def aEd : Ty := .pair (.pair .str (.pair (.sl (.pair .str (.pair (.pair .str (.pair .str .unit)) (.pair .expr .unit)))) (.pair (.sl (.pair .str (.pair (.pair .str (.pair .str .unit)) .unit))) (.pair (.sl .str) (.pair (.sl (.pair .str (.pair .expr .unit))) .unit))))) .unit
noncomputable def tL (F : Md) : aG := mSpec aEd (.tup (.pair (.sl .str) (.pair (.sl .str) (.pair (.sl .str) .unit)))) (fun x => aW F x.1)
noncomputable def aKX (F : Md) : List (FuncId × aG) := []
theorem aKY (F : Md) : bI Tryz.prog GL (aKX F) := .nil
attribute [go_sem] aEd aDd
set_option maxHeartbeats 4000000 in
theorem aKr (F : Md) : FOK Tryz.prog GL 135 (tL F) := by
 refine bK (bD (aKY F)) mix Tryz.func135 rfl (by kernel_rfl) (by decide) aDd fun w0 S x Θ hw h hF => ?_
 obtain ⟨(s_0 : ((List Nat) × ((List ((List Nat) × (((List Nat) × ((List Nat) × Unit)) × (Ex × Unit)))) × ((List ((List Nat) × (((List Nat) × ((List Nat) × Unit)) × Unit))) × ((List (List Nat)) × ((List ((List Nat) × (Ex × Unit))) × Unit)))))), u⟩ := x
 simp only [bP, go_sem]
 replace h : sat (aW F s_0) _ := h
 unfold aW at h
 refine eE hF (D := (List (List Nat))) (fun d => sat (pO F s_0 d) Θ) [3] (fun d => [(1, .ptr 0 []), (2, .own 1)]) (fun d => [.inr (.box 5 (.val (.pair .str (.pair (.sl (.pair .str (.pair (.pair .str (.pair .str .unit)) (.pair .expr .unit)))) (.pair (.sl (.pair .str (.pair (.pair .str (.pair .str .unit)) .unit))) (.pair (.sl .str) (.pair (.sl (.pair .str (.pair .expr .unit))) .unit))))) s_0)), .inr (.row 9 .str d)]) ?_ ?_
 ·simp only [go_sem]
  refine aBE 2 9 .str rfl ?_
  simp only [go_sem]
  refine bW hF (D := Int × (List (List Nat))) [3, 10, 11] (fun d => [(1, .ptr 0 []), (2, .own 1), (12, .val (.i .i64) d.1)]) (fun d => [.inr (.box 5 (.val (.pair .str (.pair (.sl (.pair .str (.pair (.pair .str (.pair .str .unit)) (.pair .expr .unit)))) (.pair (.sl (.pair .str (.pair (.pair .str (.pair .str .unit)) .unit))) (.pair (.sl .str) (.pair (.sl (.pair .str (.pair .expr .unit))) .unit))))) s_0)), .inr (.row 9 .str d.2)]) h rfl (by simp only [go_sem]) ?_
  rintro ⟨x12_17, x_18⟩ A2 T2 hA2 hE2 h
  simp only [go_sem]
  replace h : sat (vA F s_0 x12_17 x_18) _ := h
  unfold vA at h
  refine eI h (fun hc h => ?_) fun hc h => ?_
  ·obtain ⟨g0, h⟩ := aM h
   repeat (refine ⟨by omega, ?_⟩)
   obtain ⟨g0, h⟩ := aM h
   repeat (refine ⟨by omega, ?_⟩)
   refine aU h fun g0 h => ?_
   replace h := hA2 _ (aA h)
   refine fH [0, 3] rfl rfl ?_
   simp only [go_sem]
   exact aQ _ h rfl (by simp only [go_sem])
  ·replace h := hE2 _ (aA h)
   try dsimp only at h
   exact aQ (x_18) h rfl (by simp only [go_sem])
 ·rintro x_6 h
  simp only [go_sem]
  replace h : sat (pO F s_0 x_6) _ := h
  unfold pO at h
  refine eE hF (D := (List (List Nat))) (fun d => sat (pN F x_6 s_0 d) Θ) [] (fun d => [(1, .ptr 0 []), (2, .own 1), (3, .own 2)]) (fun d => [.inr (.box 5 (.val (.pair .str (.pair (.sl (.pair .str (.pair (.pair .str (.pair .str .unit)) (.pair .expr .unit)))) (.pair (.sl (.pair .str (.pair (.pair .str (.pair .str .unit)) .unit))) (.pair (.sl .str) (.pair (.sl (.pair .str (.pair .expr .unit))) .unit))))) s_0)), .inr (.row 9 .str x_6), .inr (.row 9 .str d)]) ?_ ?_
  ·simp only [go_sem]
   refine aBE 3 9 .str rfl ?_
   simp only [go_sem]
   refine bW hF (D := Int × (List (List Nat))) [23, 24] (fun d => [(1, .ptr 0 []), (2, .own 1), (3, .own 2), (25, .val (.i .i64) d.1)]) (fun d => [.inr (.box 5 (.val (.pair .str (.pair (.sl (.pair .str (.pair (.pair .str (.pair .str .unit)) (.pair .expr .unit)))) (.pair (.sl (.pair .str (.pair (.pair .str (.pair .str .unit)) .unit))) (.pair (.sl .str) (.pair (.sl (.pair .str (.pair .expr .unit))) .unit))))) s_0)), .inr (.row 9 .str x_6), .inr (.row 9 .str d.2)]) h rfl (by simp only [go_sem]) ?_
   rintro ⟨x25_12, p_13⟩ A7 T7 hA7 hE7 h
   simp only [go_sem]
   replace h : sat (uZ F s_0 x25_12 p_13) _ := h
   unfold uZ at h
   refine eI h (fun hc h => ?_) fun hc h => ?_
   ·obtain ⟨g0, h⟩ := aM h
    repeat (refine ⟨by omega, ?_⟩)
    obtain ⟨g0, h⟩ := aM h
    repeat (refine ⟨by omega, ?_⟩)
    refine aU h fun g0 h => ?_
    replace h := hA7 _ (aA h)
    refine fH [0, 1, 4] rfl rfl ?_
    simp only [go_sem]
    exact aQ _ h rfl (by simp only [go_sem])
   ·replace h := hE7 _ (aA h)
    try dsimp only at h
    exact aQ (p_13) h rfl (by simp only [go_sem])
  ·rintro p_11 h
   simp only [go_sem]
   replace h : sat (pN F x_6 s_0 p_11) _ := h
   unfold pN at h
   exact aH hF [.tmp 2, .tmp 3, .tmp 4] rfl rfl rfl (aA h) (by simp only [aV, go_sem])
attribute [go_sem] tL
noncomputable def pA (F : Md) (slices_0 : (List (List (List Nat)))) (x27_13 : Int) (newslice_14 : (List (List Nat))) : Option ((Int × (List (List Nat))) ⊕ (((List (List Nat))))) :=
 if x27_13 < (((slices_0.length) : Nat) : Int) then ck (0 ≤ x27_13 ∧ x27_13 < (((slices_0.length) : Nat) : Int)) (ck (((newslice_14.length) + ((slices_0.getD (x27_13.toNat) ([] : List (List Nat))).length)) * 16 ≤ 140737488355328) (ck (I64 (x27_13 + (1 : Int))) (some (.inl ((x27_13 + (1 : Int)), (newslice_14 ++ (slices_0.getD (x27_13.toNat) ([] : List (List Nat))))))))) else some (.inr newslice_14)
noncomputable def lQ (F : Md) (slices_0 : (List (List (List Nat)))) (size_6 : Int) : Option ((List (List Nat))) :=
 ((mA F size_6)).bind (fun r_8 => (dJ F (fun d : Int × (List (List Nat)) => pA F slices_0 d.1 d.2) ((0 : Int), r_8)).bind (fun e => some e))
noncomputable def qD (F : Md) (slices_0 : (List (List (List Nat)))) (size_18 : Int) (x11_19 : Int) : Option ((Int × Int) ⊕ ((Int))) :=
 if x11_19 < (((slices_0.length) : Nat) : Int) then ck (0 ≤ x11_19 ∧ x11_19 < (((slices_0.length) : Nat) : Int)) (ck (I64 (size_18 + ((((slices_0.getD (x11_19.toNat) ([] : List (List Nat))).length) : Nat) : Int))) (if (size_18 + ((((slices_0.getD (x11_19.toNat) ([] : List (List Nat))).length) : Nat) : Int)) < (0 : Int) then none else ck (I64 (x11_19 + (1 : Int))) (some (.inl ((size_18 + ((((slices_0.getD (x11_19.toNat) ([] : List (List Nat))).length) : Nat) : Int)), (x11_19 + (1 : Int))))))) else some (.inr size_18)
noncomputable def bL (F : Md) (slices_0 : (List (List (List Nat)))) : Option (List (List Nat)) :=
 (dJ F (fun d : Int × Int => qD F slices_0 d.1 d.2) ((0 : Int), (0 : Int))).bind (fun e => lQ F slices_0 e)
def kM : Ty := .pair (.sl (.sl .str)) .unit
attribute [go_sem] kM
noncomputable def jN (F : Md) : aG := mSpec kM (.one (.sl .str)) (fun x => bL F x.1)
noncomputable def tM (F : Md) : List (FuncId × aG) := []
theorem tN (F : Md) : bI Tryz.prog GL (tM F) := .nil
set_option maxHeartbeats 4000000 in
theorem aA9 (F : Md) : FOK Tryz.prog GL 136 (jN F) := by
 refine lS (bD (tN F)) Tryz.func136 rfl (by kernel_rfl) (by decide) fun w0 S x r hw h => ?_
 have hF : kB (fr Tryz.prog (EM (tM F)) S w0 Tryz.f136.ntmps) := ⟨bD (tN F), mix⟩
 obtain ⟨(slices_0 : (List (List (List Nat)))), u⟩ := x
 simp only [kM, Ty.wf, mP] at hw
 simp only [bP, kM]
 try dsimp only at h
 replace h : bL F slices_0 = some r := h
 unfold bL at h
 refine aB (aD hF [0] ?_)
 simp only [go_sem]
 refine aC (aB (aD hF [0, 3] ?_))
 simp only [go_sem]
 refine aC (kV (D := Int) (fun d => lQ F slices_0 d = some r) [0] (fun d => [(3, .val (.i .i64) d)]) (fun d => []) ?_ ?_)
 ·refine aB (aD hF [0, 3, 9, 10, 11] ?_)
  simp only [go_sem]
  refine aC (dT (nX (D := Int × Int) [0, 9, 10] (fun d => [(3, .val (.i .i64) d.1), (11, .val (.i .i64) d.2)]) (fun d => []) h ?_ ?_ ?_))
  ·first | rfl | (simp only [go_sem]; done)
  ·(try simp only [fZ, eG, true_or, and_self, go_sem]) <;> (repeat' apply And.intro) <;> first | rfl | (left; rfl) | (right; rfl) | (left; simp only [go_sem]; done) | (right; simp only [go_sem]; done) | (simp; done) | (simp only [*]; done) | omega
  rintro ⟨size_18, x11_19⟩ s3 h hs3
  simp only [go_sem]
  try dsimp only at h
  unfold qD at h
  refine aB (aD hF [0, 3, 9, 10, 11, 12] ?_)
  simp only [go_sem]
  refine aC (aB (bG rfl (fun hc => ?_) (fun hc => ?_)))
  ·try simp only [go_sem] at hc
   have h := eC (by first | exact hc | omega | (simpa using hc) | (simp at hc ⊢; omega)) h
   refine cS (aC (aB (dT (aB (aD hF [0, 3, 5, 9, 10, 11] ?_)))))
   simp only [go_sem]
   obtain ⟨g0, h⟩ := aF h
   repeat (refine ⟨by first | with_reducible assumption | omega | (intros; first | with_reducible assumption | omega) | (simp only [go_sem] at *; first | with_reducible assumption | omega) | decide, ?_⟩)
   refine aC (aB (aD hF [0, 3, 9, 10, 11] ?_))
   simp only [go_sem]
   obtain ⟨g0, h⟩ := aF h
   try simp only [I64, I32] at g0
   repeat (refine ⟨by first | with_reducible assumption | omega | (intros; first | with_reducible assumption | omega) | (simp only [go_sem] at *; first | with_reducible assumption | omega) | decide, ?_⟩)
   refine aC (aB (aD hF [0, 3, 9, 10, 11, 20] ?_))
   simp only [go_sem]
   refine aC (bG rfl (fun hc => ?_) (fun hc => ?_))
   ·try simp only [go_sem] at hc
    have h := eC (by first | exact hc | omega | (simpa using hc) | (simp at hc ⊢; omega)) h
    cases h
   ·try simp only [go_sem] at hc
    have h := eD (by first | exact hc | omega | (simpa using hc) | (simp at hc ⊢; omega)) h
    refine cS (bN (aC (aD hF [0, 3, 9, 10, 11] ?_)))
    simp only [go_sem]
    obtain ⟨g0, h⟩ := aF h
    try simp only [I64, I32] at g0
    repeat (refine ⟨by first | with_reducible assumption | omega | (intros; first | with_reducible assumption | omega) | (simp only [go_sem] at *; first | with_reducible assumption | omega) | decide, ?_⟩)
    obtain rfl := Option.some.inj h
    dsimp only [mZ] at hs3
    refine aS (aQ (((size_18 + ((((slices_0.getD (x11_19.toNat) ([] : List (List Nat))).length) : Nat) : Int)), (x11_19 + (1 : Int)))) hs3 rfl ?_)
    ·(try simp only [fZ, eG, true_or, and_self, go_sem]) <;> (repeat' apply And.intro) <;> first | rfl | (left; rfl) | (right; rfl) | (left; simp only [go_sem]; done) | (right; simp only [go_sem]; done) | (simp; done) | (simp only [*]; done) | omega
  ·try simp only [go_sem] at hc
   have h := eD (by first | exact hc | omega | (simpa using hc) | (simp at hc ⊢; omega)) h
   obtain rfl := Option.some.inj h
   dsimp only [mZ] at hs3
   have h := hs3
   try dsimp only at h
   refine nM (cP (cP (eK (aS (aQ (size_18) h rfl ?_)))))
   ·(try simp only [fZ, eG, true_or, and_self, go_sem]) <;> (repeat' apply And.intro) <;> first | rfl | (left; rfl) | (right; rfl) | (left; simp only [go_sem]; done) | (right; simp only [go_sem]; done) | (simp; done) | (simp only [*]; done) | omega
 ·rintro size_6 h
  try dsimp only at h
  simp only [go_sem]
  unfold lQ at h
  obtain ⟨r_8, he1, h⟩ := bind_some h
  try dsimp only at h
  refine aB (bY hF (eA (l := [(202, ⟨gD F, [], (size_6, r_8)⟩)]) (.cons (aCy F) (by kernel_rfl) (.nil))) [0, 6] [] ?_)
  simp only [go_sem]
  repeat (refine ⟨by first | with_reducible assumption | omega | (intros; first | with_reducible assumption | omega) | (simp only [go_sem] at *; first | with_reducible assumption | omega) | decide, ?_⟩)
  refine aC (aB (aB (aD hF [6, 25, 26, 27] ?_)))
  simp only [go_sem]
  refine aC (dT (nX (D := Int × (List (List Nat))) [25, 26] (fun d => [(6, .own 0), (27, .val (.i .i64) d.1)]) (fun d => [.inr (.row 9 .str d.2)]) h ?_ ?_ ?_))
  ·first | rfl | (simp only [go_sem]; done)
  ·(try simp only [fZ, eG, true_or, and_self, go_sem]) <;> (repeat' apply And.intro) <;> first | rfl | (left; rfl) | (right; rfl) | (left; simp only [go_sem]; done) | (right; simp only [go_sem]; done) | (simp; done) | (simp only [*]; done) | omega
  rintro ⟨x27_13, newslice_14⟩ s11 h hs11
  simp only [go_sem]
  try dsimp only at h
  unfold pA at h
  refine aB (aD hF [6, 25, 26, 27, 28] ?_)
  simp only [go_sem]
  refine aC (aB (bG rfl (fun hc => ?_) (fun hc => ?_)))
  ·try simp only [go_sem] at hc
   have h := eC (by first | exact hc | omega | (simpa using hc) | (simp at hc ⊢; omega)) h
   refine cS (aC (aB (dT (aB (aD hF [6, 8, 25, 26, 27] ?_)))))
   simp only [go_sem]
   obtain ⟨g0, h⟩ := aF h
   repeat (refine ⟨by first | with_reducible assumption | omega | (intros; first | with_reducible assumption | omega) | (simp only [go_sem] at *; first | with_reducible assumption | omega) | decide, ?_⟩)
   refine aC (aN hF [6, 25, 26, 27] ?_)
   simp only [go_sem]
   obtain ⟨g0, h⟩ := aF h
   repeat (refine ⟨by first | with_reducible assumption | omega | (intros; first | with_reducible assumption | omega) | (simp only [go_sem] at *; first | with_reducible assumption | omega) | decide, ?_⟩)
   refine bN (aC (aD hF [6, 25, 26, 27] ?_))
   simp only [go_sem]
   obtain ⟨g0, h⟩ := aF h
   try simp only [I64, I32] at g0
   repeat (refine ⟨by first | with_reducible assumption | omega | (intros; first | with_reducible assumption | omega) | (simp only [go_sem] at *; first | with_reducible assumption | omega) | decide, ?_⟩)
   obtain rfl := Option.some.inj h
   dsimp only [mZ] at hs11
   refine aS (fH [1] rfl rfl ?_)
   simp only [ren, fY, jC, posOf, dL, go_sem]
   refine aQ (((x27_13 + (1 : Int)), (newslice_14 ++ (slices_0.getD (x27_13.toNat) ([] : List (List Nat)))))) hs11 rfl ?_
   ·(try simp only [fZ, eG, true_or, and_self, go_sem]) <;> (repeat' apply And.intro) <;> first | rfl | (left; rfl) | (right; rfl) | (left; simp only [go_sem]; done) | (right; simp only [go_sem]; done) | (simp; done) | (simp only [*]; done) | omega
  ·try simp only [go_sem] at hc
   have h := eD (by first | exact hc | omega | (simpa using hc) | (simp at hc ⊢; omega)) h
   obtain rfl := Option.some.inj h
   dsimp only [mZ] at hs11
   have h := hs11
   try dsimp only at h
   refine nM (cP (cP (eK (aC (aB (aD hF [2] ?_))))))
   simp only [go_sem]
   obtain rfl := Option.some.inj h
   refine aC (cY (fG hF [.tmp 2] rfl rfl rfl ?_))
   (try simp only [iB, aV, go_sem]) <;> first | rfl | (simp; done)
attribute [go_sem] jN
noncomputable def vB (F : Md) (l_0 : (List (List Nat))) (x9_12 : Int) (seen_13 : (List ((List Nat) × Bool))) : Option ((Int × (List ((List Nat) × Bool))) ⊕ ((Unit) ⊕ Bool)) :=
 if x9_12 < (((l_0.length) : Nat) : Int) then ck (0 ≤ x9_12 ∧ x9_12 < (((l_0.length) : Nat) : Int)) ((aZ F (l_0.getD (x9_12.toNat) ([] : List Nat))).bind (fun v_25 => if (¬ (v_25 = true)) ∨ (((aCO .str seen_13 (l_0.getD (x9_12.toNat) ([] : List Nat))).getD false) = true) then some (.inr (.inr false)) else ck (I64 (x9_12 + (1 : Int))) (some (.inl ((x9_12 + (1 : Int)), (aNw .str seen_13 (l_0.getD (x9_12.toNat) ([] : List Nat)) true)))))) else some (.inr (.inl ()))
noncomputable def oD (F : Md) (l_0 : (List (List Nat))) : Option Bool :=
 (dJ F (fun d : Int × (List ((List Nat) × Bool)) => vB F l_0 d.1 d.2) ((0 : Int), ([] : List ((List Nat) × Bool)))).bind (fun e => match e with | (.inl e) => some true | (.inr e) => some e)
def aDe : PlR := ⟨[(0, .A [0]), (1, .B [0, 3]), (2, .A [3, 7, 8, 9]), (3, .A [3, 7, 8, 9, 10]), (4, .A [3, 5, 7, 8, 9]), (5, .A [3, 5, 7, 8, 9, 20]), (6, .A [2]), (7, .B [3, 7, 8, 9]), (8, .A [3, 7, 8, 9]), (9, .A [2])], []⟩
def aEe : Ty := .pair (.sl .str) .unit
noncomputable def mW (F : Md) : aG := mSpec aEe (.one .bool) (fun x => oD F x.1)
noncomputable def aEf (F : Md) : List (FuncId × aG) := [(29, (oA F))]
theorem aKZ (F : Md) : bI Tryz.prog GL (aEf F) := .cons (aD7 F) (by kernel_rfl) (.nil)
theorem aG1 (F : Md) : gam (aEf F) 29 = some (oA F) := rfl
attribute [go_sem] aEe aDe aG1
set_option maxHeartbeats 4000000 in
theorem aDf (F : Md) : FOK Tryz.prog GL 68 (mW F) := by
 refine bK (bD (aKZ F)) mix Tryz.func68 rfl (by kernel_rfl) (by decide) aDe fun w0 S x Θ hw h hF => ?_
 obtain ⟨(l_0 : (List (List Nat))), u⟩ := x
 simp only [bP, go_sem]
 replace h : sat (oD F l_0) _ := h
 unfold oD at h
 refine bW hF (D := Int × (List ((List Nat) × Bool))) [7, 8] (fun d => [(3, .mp 0), (9, .val (.i .i64) d.1)]) (fun d => [.inr (.map .str .bool d.2)]) h rfl (by simp only [go_sem]) ?_
 rintro ⟨x9_12, seen_13⟩ A3 T3 hA3 hE3 h
 simp only [go_sem]
 replace h : sat (vB F l_0 x9_12 seen_13) _ := h
 unfold vB at h
 refine eI h (fun hc h => ?_) fun hc h => ?_
 ·refine aU h fun g0 h => ?_
  obtain ⟨v_25, hv, h⟩ := aL h
  try simp only [hv, go_sem]
  refine ⟨fun hc => ?_, fun hc => ?_⟩
  ·replace h := iV (by first | exact hc | omega | (simpa using hc) | (simp at hc ⊢; omega)) h
   replace h := hE3 _ (aA h)
   try dsimp only at h
   exact aH hF [.tmp 2] rfl rfl rfl (aA h) (by simp only [aV, go_sem])
  ·replace h := iW (by first | exact hc | omega | (simpa using hc) | (simp at hc ⊢; omega)) h
   refine aU h fun g0 h => ?_
   replace h := hA3 _ (aA h)
   exact aQ _ h rfl (by simp only [go_sem])
 ·replace h := hE3 _ (aA h)
  try dsimp only at h
  exact aH hF [.tmp 2] rfl rfl rfl (aA h) (by simp only [aV, go_sem])
attribute [go_sem] mW
noncomputable def iR (F : Md) (s_0 : (List Nat)) (prefix_1 : (List Nat)) : Option Bool :=
 ck ((((((prefix_1.length) : Nat) : Int) ≤ (((s_0.length) : Nat) : Int)) → (0 ≤ (((prefix_1.length) : Nat) : Int) ∧ (((prefix_1.length) : Nat) : Int) ≤ (((s_0.length) : Nat) : Int)))) (some ((decide ((((prefix_1.length) : Nat) : Int) ≤ (((s_0.length) : Nat) : Int))) && (decide ((List.take (prefix_1.length) s_0) = prefix_1))))
def qE : PlR := ⟨[(0, .A [0, 1]), (1, .A [4])], []⟩
def qW : Ty := .pair .str (.pair .str .unit)
noncomputable def iG (F : Md) : aG := mSpec qW (.one .bool) (fun x => iR F x.1 x.2.1)
noncomputable def aAK (F : Md) : List (FuncId × aG) := []
theorem aAL (F : Md) : bI Tryz.prog GL (aAK F) := .nil
attribute [go_sem] qW qE
set_option maxHeartbeats 4000000 in
theorem zV (F : Md) : FOK Tryz.prog GL 224 (iG F) := by
 refine bK (bD (aAL F)) mix Tryz.func224 rfl (by kernel_rfl) (by decide) qE fun w0 S x Θ hw h hF => ?_
 obtain ⟨(s_0 : (List Nat)), (prefix_1 : (List Nat)), u⟩ := x
 simp only [bP, go_sem]
 replace h : sat (iR F s_0 prefix_1) _ := h
 unfold iR at h
 refine aU h fun g0 h => ?_
 exact aH hF [.tmp 4] rfl rfl rfl (aA h) (by simp only [aV, go_sem])
attribute [go_sem] iG
noncomputable def iS (F : Md) (s_0 : (List Nat)) (prefix_1 : (List Nat)) : Option ((List Nat) × (Bool × Unit)) :=
 (iR F s_0 prefix_1).bind (fun v_8 => if ¬ (v_8 = true) then some (s_0, false, ()) else ck (0 ≤ (((prefix_1.length) : Nat) : Int) ∧ (((prefix_1.length) : Nat) : Int) ≤ (((s_0.length) : Nat) : Int)) (some ((List.drop (prefix_1.length) s_0), true, ())))
def qF : PlR := ⟨[(0, .A [0, 1]), (1, .A [0, 1, 9]), (2, .A [4, 5]), (3, .A [4, 5])], []⟩
def qX : Ty := .pair .str (.pair .str .unit)
noncomputable def iH (F : Md) : aG := mSpec qX (.tup (.pair .str (.pair .bool .unit))) (fun x => iS F x.1 x.2.1)
noncomputable def qY (F : Md) : List (FuncId × aG) := [(224, (iG F))]
theorem aAM (F : Md) : bI Tryz.prog GL (qY F) := .cons (zV F) (by kernel_rfl) (.nil)
theorem wP (F : Md) : gam (qY F) 224 = some (iG F) := rfl
attribute [go_sem] qX qF wP
set_option maxHeartbeats 4000000 in
theorem zW (F : Md) : FOK Tryz.prog GL 257 (iH F) := by
 refine bK (bD (aAM F)) mix Tryz.func257 rfl (by kernel_rfl) (by decide) qF fun w0 S x Θ hw h hF => ?_
 obtain ⟨(s_0 : (List Nat)), (prefix_1 : (List Nat)), u⟩ := x
 simp only [bP, go_sem]
 replace h : sat (iS F s_0 prefix_1) _ := h
 unfold iS at h
 obtain ⟨v_8, hv, h⟩ := aL h
 try simp only [hv, go_sem]
 refine aAz h (fun hc h => ?_) fun hc h => ?_
 ·exact aH hF [.tmp 4, .tmp 5] rfl rfl rfl (aA h) (by simp only [aV, go_sem])
 ·refine aU h fun g0 h => ?_
  exact aH hF [.tmp 4, .tmp 5] rfl rfl rfl (aA h) (by simp only [aV, go_sem])
attribute [go_sem] iH
noncomputable def mJ (F : Md) (s_0 : (List Nat)) (prefix_1 : (List Nat)) : Option ((List Nat) × (Bool × Unit)) :=
 (iS F s_0 prefix_1).bind (fun v_6 => some ((v_6.1), ((v_6.2).1), ()))
def wE : PlR := ⟨[(0, .A [0, 1]), (1, .A [4, 5])], []⟩
def wV : Ty := .pair .str (.pair .str .unit)
noncomputable def mB (F : Md) : aG := mSpec wV (.tup (.pair .str (.pair .bool .unit))) (fun x => mJ F x.1 x.2.1)
noncomputable def wW (F : Md) : List (FuncId × aG) := [(257, (iH F))]
theorem aDL (F : Md) : bI Tryz.prog GL (wW F) := .cons (zW F) (by kernel_rfl) (.nil)
theorem aBa (F : Md) : gam (wW F) 257 = some (iH F) := rfl
attribute [go_sem] wV wE aBa
set_option maxHeartbeats 4000000 in
theorem aDg (F : Md) : FOK Tryz.prog GL 240 (mB F) := by
 refine bK (bD (aDL F)) mix Tryz.func240 rfl (by kernel_rfl) (by decide) wE fun w0 S x Θ hw h hF => ?_
 obtain ⟨(s_0 : (List Nat)), (prefix_1 : (List Nat)), u⟩ := x
 simp only [bP, go_sem]
 replace h : sat (mJ F s_0 prefix_1) _ := h
 unfold mJ at h
 obtain ⟨v_6, hv, h⟩ := aL h
 try simp only [hv, go_sem]
 exact aH hF [.tmp 4, .tmp 5] rfl rfl rfl (aA h) (by simp only [aV, go_sem])
attribute [go_sem] mB
noncomputable def qZ (F : Md) (s_0 : (List Nat)) : Option (Bool × ((List Nat) × ((List Nat) × (Bool × Unit)))) :=
 (mJ F s_0 (aY ⟨#[45]⟩)).bind (fun v_5 => (aAn F (v_5.1)).bind (fun v_9 => some ((((v_5.2).1) && (decide ((0 : Int) < ((((v_9.1).length) : Nat) : Int)))), (v_9.1), ((v_9.2).1), (((v_9.2).2).1), ())))
def aDh : PlR := ⟨[(0, .A [0]), (1, .A [6, 7]), (2, .A [7, 8, 9, 10]), (3, .A [2, 3, 4, 5])], []⟩
def aEg : Ty := .pair .str .unit
noncomputable def tO (F : Md) : aG := mSpec aEg (.tup (.pair .bool (.pair (.sl (.u .u64)) (.pair (.sl (.u .u64)) (.pair .bool .unit))))) (fun x => qZ F x.1)
noncomputable def aAN (F : Md) : List (FuncId × aG) := [(116, (xS F)), (240, (mB F))]
theorem aK0 (F : Md) : bI Tryz.prog GL (aAN F) := .cons (aMh F) (by kernel_rfl) (.cons (aDg F) (by kernel_rfl) (.nil))
theorem aF1 (F : Md) : gam (aAN F) 116 = some (xS F) := rfl
theorem aF2 (F : Md) : gam (aAN F) 240 = some (mB F) := rfl
attribute [go_sem] aEg aDh aF1 aF2
set_option maxHeartbeats 4000000 in
theorem aKs (F : Md) : FOK Tryz.prog GL 203 (tO F) := by
 refine bK (bD (aK0 F)) mix Tryz.func203 rfl (by kernel_rfl) (by decide) aDh fun w0 S x Θ hw h hF => ?_
 obtain ⟨(s_0 : (List Nat)), u⟩ := x
 simp only [bP, go_sem]
 replace h : sat (qZ F s_0) _ := h
 unfold qZ at h
 obtain ⟨v_5, hv, h⟩ := aL h
 try simp only [hv, go_sem]
 obtain ⟨v_9, hv, h⟩ := aL h
 try simp only [hv, go_sem]
 exact aH hF [.tmp 2, .tmp 3, .tmp 4, .tmp 5] rfl rfl rfl (aA h) (by simp only [aV, go_sem])
attribute [go_sem] tO
noncomputable def mC (F : Md) (r_0 : ((List Nat) × ((List Nat) × Unit))) (hi_2 : (List Nat)) : Option (Bool) :=
 (qZ F (r_0.1)).bind (fun v_6 => (qZ F hi_2).bind (fun v_10 => (gP F ((v_6.2).1) (((v_10.2).2).1)).bind (fun v_20 => (gP F ((v_10.2).1) (((v_6.2).2).1)).bind (fun v_21 => (oV F v_20 v_21).bind (fun v_22 => if (¬ (((((v_6.2).2).2).1) = true)) ∨ (¬ (((((v_10.2).2).2).1) = true)) then some false else if ((v_6.1) != (v_10.1)) = true then some (v_6.1) else if (v_6.1) = true then some (decide ((0 : Int) ≤ v_22)) else some (decide (v_22 ≤ (0 : Int))))))))
noncomputable def iY (F : Md) (r_0 : ((List Nat) × ((List Nat) × Unit))) : Option Bool :=
 if ((r_0.2).1) = (aY ⟨#[]⟩) then mC F r_0 (r_0.1) else mC F r_0 ((r_0.2).1)
def aCl : PlR := ⟨[(0, .B [1]), (1, .A [1, 3]), (2, .A [1, 3, 16]), (3, .A [1, 3]), (4, .A [3, 4, 5, 6, 7]), (5, .A [4, 5, 6, 7, 8, 9, 10, 11]), (6, .A [4, 7, 8, 11, 12]), (7, .A [2]), (8, .A [4, 8, 12, 43]), (9, .A [2]), (10, .A [4, 12, 50]), (11, .A [2]), (12, .A [12, 55]), (13, .A [2])], [(5, 7)]⟩
def aDi : Ty := .pair (.pair .str (.pair .str .unit)) .unit
noncomputable def rK (F : Md) : aG := mSpec aDi (.one .bool) (fun x => iY F x.1)
noncomputable def tP (F : Md) : List (FuncId × aG) := [(122, (lX F)), (203, (tO F)), (94, (eS F))]
theorem aKt (F : Md) : bI Tryz.prog GL (tP F) := .cons (aBN F) (by kernel_rfl) (.cons (aKs F) (by kernel_rfl) (.cons (pG F) (by kernel_rfl) (.nil)))
theorem aEM (F : Md) : gam (tP F) 122 = some (lX F) := rfl
theorem aEN (F : Md) : gam (tP F) 203 = some (tO F) := rfl
theorem aF3 (F : Md) : gam (tP F) 94 = some (eS F) := rfl
attribute [go_sem] aDi aCl aEM aEN aF3
set_option maxHeartbeats 4000000 in
theorem aID (F : Md) : FOK Tryz.prog GL 138 (rK F) := by
 refine bK (bD (aKt F)) mix Tryz.func138 rfl (by kernel_rfl) (by decide) aCl fun w0 S x Θ hw h hF => ?_
 obtain ⟨(r_0 : ((List Nat) × ((List Nat) × Unit))), u⟩ := x
 simp only [bP, go_sem]
 replace h : sat (iY F r_0) _ := h
 unfold iY at h
 refine eE hF (D := (List Nat)) (fun d => sat (mC F r_0 d) Θ) [] (fun d => [(1, .ptr 0 []), (3, .val .str d)]) (fun d => [.inr (.box 2 (.val (.pair .str (.pair .str .unit)) r_0))]) ?_ ?_
 ·simp only [go_sem]
  refine dU h (fun hc h => ?_) fun hc h => ?_
  ·exact aQ ((r_0.1)) h rfl (by simp only [go_sem])
  ·exact aQ (((r_0.2).1)) h rfl (by simp only [go_sem])
 ·rintro hi_2 h
  simp only [go_sem]
  replace h : sat (mC F r_0 hi_2) _ := h
  unfold mC at h
  obtain ⟨v_6, hv, h⟩ := aL h
  try simp only [hv, go_sem]
  obtain ⟨v_10, hv, h⟩ := aL h
  try simp only [hv, go_sem]
  obtain ⟨v_20, hv, h⟩ := aL h
  try simp only [hv, go_sem]
  obtain ⟨v_21, hv, h⟩ := aL h
  try simp only [hv, go_sem]
  obtain ⟨v_22, hv, h⟩ := aL h
  try simp only [hv, go_sem]
  refine ⟨fun hc => ?_, fun hc => ?_⟩
  ·replace h := iV (by first | exact hc | omega | (simpa using hc) | (simp at hc ⊢; omega)) h
   exact aH hF [.tmp 2] rfl rfl rfl (aA h) (by simp only [aV, go_sem])
  ·replace h := iW (by first | exact hc | omega | (simpa using hc) | (simp at hc ⊢; omega)) h
   refine aHr h (fun hc h => ?_) fun hc h => ?_
   ·exact aH hF [.tmp 2] rfl rfl rfl (aA h) (by simp only [aV, go_sem])
   ·refine aHr h (fun hc h => ?_) fun hc h => ?_
    ·exact aH hF [.tmp 2] rfl rfl rfl (aA h) (by simp only [aV, go_sem])
    ·exact aH hF [.tmp 2] rfl rfl rfl (aA h) (by simp only [aV, go_sem])
attribute [go_sem] rK
end Nu
end Go.Proofs
namespace Go.Proofs
open Go.Vc
set_option maxRecDepth 20000
namespace Nu
attribute [-go_sem] Ex.kind Ex.text Ex.l
noncomputable def wX (F : Md) (g : Ex → Int → Int → Int → Option ((Int × Int))) (e_0 : Ex) (at_1 : Int) (x23_10 : Int) (x_11 : Int) (x_12 : Int) : Option ((Int × Int × Int) ⊕ ((Int × Int))) :=
 if x23_10 < ((((e_0.l).length) : Nat) : Int) then ck (0 ≤ x23_10 ∧ x23_10 < ((((e_0.l).length) : Nat) : Int)) (ck (I64 (at_1 + (1 : Int))) (((g ((e_0.l).getD (x23_10.toNat) (Ex.mk 0 [] [])) (at_1 + (1 : Int)) x_11 x_12)).bind (fun r_20 => ck (I64 (x23_10 + (1 : Int))) (some (.inl ((x23_10 + (1 : Int)), (r_20.1), (r_20.2))))))) else some (.inr (x_11, x_12))
noncomputable def pP (F : Md) (g : Ex → Int → Int → Int → Option ((Int × Int))) (e_0 : Ex) (at_1 : Int) (o0_5 : Int) (o1_6 : Int) : Option ((Int × Int)) :=
 ck (I64 (o0_5 + (1 : Int))) (if ((60 : Int) < (o0_5 + (1 : Int))) ∨ ((30 : Int) < at_1) then some ((o0_5 + (1 : Int)), (max o1_6 at_1)) else (dJ F (fun d : Int × Int × Int => wX F g e_0 at_1 d.1 d.2.1 d.2.2) ((0 : Int), (o0_5 + (1 : Int)), (max o1_6 at_1))).bind (fun e => some (e.1, e.2)))
noncomputable def pQ (g : Ex → Int → Int → Int → Option ((Int × Int))) : nN where
 D := Ex × Int × Int × Int × ((Int × Int))
 av := fun d => [.val .expr d.1, .val (.i .i64) d.2.1, .ptr 0 [], .ptr 1 [], .ptr 2 []]
 hp := fun d => [.box 1 (.val (.i .i64) d.2.2.1), .box 1 (.val (.i .i64) d.2.2.2.1), .box 1 (.fn 197 [] [0, 1, 2])]
 m := 3
 pre := fun d => g d.1 d.2.1 d.2.2.1 d.2.2.2.1 = some d.2.2.2.2
 out := fun d => (fun r : (Int × Int) => .ret (.tup []) [.box 1 (.val (.i .i64) (r.1)), .box 1 (.val (.i .i64) (r.2)), .box 1 (.fn 197 [] [0, 1, 2])]) d.2.2.2.2
attribute [go_sem] pQ
noncomputable def aBb (F : Md) (g : Ex → Int → Int → Int → Option ((Int × Int))) : nN where
 D := Ex × Int × Int × Int × ((Int × Int))
 av := fun d => [.val .expr d.1, .val (.i .i64) d.2.1, .ptr 0 [], .ptr 1 [], .ptr 2 []]
 hp := fun d => [.box 1 (.val (.i .i64) d.2.2.1), .box 1 (.val (.i .i64) d.2.2.2.1), .box 1 (.fn 197 [] [0, 1, 2])]
 m := 3
 pre := fun d => pP F g d.1 d.2.1 d.2.2.1 d.2.2.2.1 = some d.2.2.2.2
 out := fun d => (fun r : (Int × Int) => .ret (.tup []) [.box 1 (.val (.i .i64) (r.1)), .box 1 (.val (.i .i64) (r.2)), .box 1 (.fn 197 [] [0, 1, 2])]) d.2.2.2.2
noncomputable def aDj (F : Md) (g : Ex → Int → Int → Int → Option ((Int × Int))) : List (FuncId × aG) := []
theorem aDk (F : Md) (g : Ex → Int → Int → Int → Option ((Int × Int))) (hg : GOK Tryz.prog GL 197 (pQ g)) : bI Tryz.prog GL (aDj F g) := .nil
set_option maxHeartbeats 4000000 in
theorem aG2 (F : Md) (g : Ex → Int → Int → Int → Option ((Int × Int))) (hg : GOK Tryz.prog GL 197 (pQ g)) : GOK Tryz.prog GL 197 (aBb F g) := by
 refine wC (bD (aDk F g hg)) Tryz.func197 rfl (by kernel_rfl) (fun _ => Nat.le_of_ble_eq_true rfl) fun c0 w0 d hw1 hw2 h hn => ?_
 have hF : kB ⟨Tryz.prog, EM (aDj F g), GM (aBb F g) c0 d, w0, Tryz.f197.ntmps, []⟩ := ⟨bD (aDk F g hg), mix⟩
 obtain ⟨(e_0 : Ex), (at_1 : Int), (o0_5 : Int), (o1_6 : Int), r⟩ := d
 replace h : pP F g e_0 at_1 o0_5 o1_6 = some r := h
 have hw1 : AV.wfL [.val .expr e_0, .val (.i .i64) at_1, .ptr 0 [], .ptr 1 [], .ptr 2 []] := hw1
 simp only [AV.wfL, AV.wfV, Ty.wf, mP] at hw1
 show Tri _ _ _ [(0, .val .expr e_0), (1, .val (.i .i64) at_1), (2, .ptr 0 []), (3, .ptr 1 []), (4, .ptr 2 [])] [.box 1 (.val (.i .i64) o0_5), .box 1 (.val (.i .i64) o1_6), .box 1 (.fn 197 [] [0, 1, 2])]
 unfold pP at h
 refine aB (aN hF [1, 2, 3, 4, 5] ?_)
 simp only [go_sem]
 refine aC (aB (aN hF [1, 2, 3, 4, 5] ?_))
 simp only [go_sem]
 obtain ⟨g0, h⟩ := aF h
 try simp only [I64, I32] at g0
 repeat (refine ⟨by first | with_reducible assumption | omega | (intros; first | with_reducible assumption | omega) | (simp only [go_sem] at *; first | with_reducible assumption | omega) | decide, ?_⟩)
 refine aC (aB (aN hF [1, 2, 4, 5] ?_))
 simp only [go_sem]
 refine aC (aB (aB (aD hF [1, 4, 5, 19] ?_)))
 simp only [go_sem]
 refine aC (bG rfl (fun hc => ?_) (fun hc => ?_))
 ·try simp only [go_sem] at hc
  have h := eC (by first | exact hc | omega | (simpa using hc) | (simp at hc ⊢; omega)) h
  obtain rfl := Option.some.inj h
  refine cY (dF (fH [0, 1, 2] rfl rfl ?_))
  simp only [ren, fY, jC, posOf, dL, go_sem]
  refine aBG hF [] rfl rfl rfl rfl rfl rfl ?_
  (try simp only [aV, aDI, aC0, eG, oS, AV.isAgg, go_sem]) <;> first | trivial | rfl | (simp; done)
 ·try simp only [go_sem] at hc
  have h := eD (by first | exact hc | omega | (simpa using hc) | (simp at hc ⊢; omega)) h
  refine cS (aC (aB (aD hF [1, 4, 21, 22, 23] ?_)))
  simp only [go_sem]
  refine aC (dT (aDF [0, 1, 2] rfl rfl ?_))
  simp only [ren, fY, jC, posOf, dL, go_sem]
  refine nX (D := Int × Int × Int) [1, 21, 22] (fun d => [(4, .ptr 2 []), (23, .val (.i .i64) d.1)]) (fun d => [.inr (.box 1 (.val (.i .i64) d.2.1)), .inr (.box 1 (.val (.i .i64) d.2.2)), .inr (.box 1 (.fn 197 [] [0, 1, 2]))]) h ?_ ?_ ?_
  ·first | rfl | (simp only [go_sem]; done)
  ·(try simp only [fZ, eG, true_or, and_self, go_sem]) <;> (repeat' apply And.intro) <;> first | rfl | (left; rfl) | (right; rfl) | (left; simp only [go_sem]; done) | (right; simp only [go_sem]; done) | (simp; done) | (simp only [*]; done) | omega
  rintro ⟨x23_10, x_11, x_12⟩ s5 h hs5
  simp only [go_sem]
  try dsimp only at h
  unfold wX at h
  refine aB (aD hF [1, 4, 21, 22, 23, 24] ?_)
  simp only [go_sem]
  refine aC (aB (bG rfl (fun hc => ?_) (fun hc => ?_)))
  ·try simp only [go_sem] at hc
   have h := eC (by first | exact hc | omega | (simpa using hc) | (simp at hc ⊢; omega)) h
   refine cS (aC (aB (dT (aB (aN hF [1, 4, 8, 21, 22, 23] ?_)))))
   simp only [go_sem]
   obtain ⟨g0, h⟩ := aF h
   repeat (refine ⟨by first | with_reducible assumption | omega | (intros; first | with_reducible assumption | omega) | (simp only [go_sem] at *; first | with_reducible assumption | omega) | decide, ?_⟩)
   obtain ⟨g0, h⟩ := aF h
   try simp only [I64, I32] at g0
   obtain ⟨r_20, he1, h⟩ := bind_some h
   try dsimp only at h
   refine aC (bY hF (eA (l := [(197, ⟨(pQ g), [0, 1, 2], (((e_0.l).getD (x23_10.toNat) (Ex.mk 0 [] [])), (at_1 + (1 : Int)), x_11, x_12, r_20)⟩)]) (.cons hg (by kernel_rfl) (.nil))) [1, 4, 21, 22, 23] [] ?_)
   simp only [go_sem]
   repeat (refine ⟨by first | with_reducible assumption | omega | (intros; first | with_reducible assumption | omega) | (simp only [go_sem] at *; first | with_reducible assumption | omega) | decide | ((repeat' apply And.intro) <;> first | assumption | rfl | omega) | fail, ?_⟩)
   refine bN (aC (aD hF [1, 4, 21, 22, 23] ?_))
   simp only [go_sem]
   obtain ⟨g0, h⟩ := aF h
   try simp only [I64, I32] at g0
   repeat (refine ⟨by first | with_reducible assumption | omega | (intros; first | with_reducible assumption | omega) | (simp only [go_sem] at *; first | with_reducible assumption | omega) | decide, ?_⟩)
   obtain rfl := Option.some.inj h
   dsimp only [mZ] at hs5
   refine aS (fH [0, 1, 2] rfl rfl ?_)
   simp only [ren, fY, jC, posOf, dL, go_sem]
   refine aQ (((x23_10 + (1 : Int)), (r_20.1), (r_20.2))) hs5 rfl ?_
   ·(try simp only [fZ, eG, true_or, and_self, go_sem]) <;> (repeat' apply And.intro) <;> first | rfl | (left; rfl) | (right; rfl) | (left; simp only [go_sem]; done) | (right; simp only [go_sem]; done) | (simp; done) | (simp only [*]; done) | omega
  ·try simp only [go_sem] at hc
   have h := eD (by first | exact hc | omega | (simpa using hc) | (simp at hc ⊢; omega)) h
   obtain rfl := Option.some.inj h
   dsimp only [mZ] at hs5
   have h := hs5
   try dsimp only at h
   obtain rfl := Option.some.inj h
   refine nM (cP (cP (eK (aIX (aBG hF [] rfl rfl rfl rfl rfl rfl ?_)))))
   (try simp only [aV, aDI, aC0, eG, oS, AV.isAgg, go_sem]) <;> first | trivial | rfl | (simp; done)
noncomputable def zK (F : Md) : Nat → Ex → Int → Int → Int → Option ((Int × Int))
 | 0 => fun _ _ _ _ => none
 | n + 1 => pP F (zK F n)
noncomputable def wQ (F : Md) (n : Nat) : nN where
 D := Ex × Int × Int × Int × ((Int × Int))
 av := fun d => [.val .expr d.1, .val (.i .i64) d.2.1, .ptr 0 [], .ptr 1 [], .ptr 2 []]
 hp := fun d => [.box 1 (.val (.i .i64) d.2.2.1), .box 1 (.val (.i .i64) d.2.2.2.1), .box 1 (.fn 197 [] [0, 1, 2])]
 m := 3
 pre := fun d => zK F n d.1 d.2.1 d.2.2.1 d.2.2.2.1 = some d.2.2.2.2
 out := fun d => (fun r : (Int × Int) => .ret (.tup []) [.box 1 (.val (.i .i64) (r.1)), .box 1 (.val (.i .i64) (r.2)), .box 1 (.fn 197 [] [0, 1, 2])]) d.2.2.2.2
theorem aCm (F : Md) : ∀ n, GOK Tryz.prog GL 197 (wQ F n)
 | 0 => fun _ _ _ _ hp _ => absurd (show none = some _ from hp) (by simp)
 | n + 1 => aG2 F _ (aCm F n)
attribute [go_sem] wQ
noncomputable def xV (F : Md) (e_0 : Ex) : Option (Int × (Int × Unit)) :=
 ((zK F 64 e_0 (1 : Int) (0 : Int) (0 : Int))).bind (fun r_3 => some ((r_3.1), (r_3.2), ()))
def xW : Ty := .pair .expr .unit
attribute [go_sem] xW
noncomputable def vN (F : Md) : aG := mSpec xW (.tup (.pair (.i .i64) (.pair (.i .i64) .unit))) (fun x => xV F x.1)
noncomputable def aF4 (F : Md) : List (FuncId × aG) := []
theorem aF5 (F : Md) : bI Tryz.prog GL (aF4 F) := .nil
set_option maxHeartbeats 4000000 in
theorem aK1 (F : Md) : FOK Tryz.prog GL 126 (vN F) := by
 refine lS (bD (aF5 F)) Tryz.func126 rfl (by kernel_rfl) (by decide) fun w0 S x r hw h => ?_
 have hF : kB (fr Tryz.prog (EM (aF4 F)) S w0 Tryz.f126.ntmps) := ⟨bD (aF5 F), mix⟩
 obtain ⟨(e_0 : Ex), u⟩ := x
 simp only [xW, Ty.wf, mP] at hw
 simp only [bP, xW]
 try dsimp only at h
 replace h : xV F e_0 = some r := h
 unfold xV at h
 refine aB (aN hF [1, 2, 3] ?_)
 simp only [go_sem]
 refine aC (aB (aN hF [1, 2, 3, 4] ?_))
 simp only [go_sem]
 refine aC (aB (aN hF [1, 2, 3, 4] ?_))
 simp only [go_sem]
 obtain ⟨r_3, he1, h⟩ := bind_some h
 try dsimp only at h
 refine aC (aB (bY hF (eA (l := [(197, ⟨(wQ F 64), [1, 2, 3], (e_0, (1 : Int), (0 : Int), (0 : Int), r_3)⟩)]) (.cons (aCm F 64) (by kernel_rfl) (.nil))) [2, 3] [] ?_))
 simp only [go_sem]
 repeat (refine ⟨by first | with_reducible assumption | omega | (intros; first | with_reducible assumption | omega) | (simp only [go_sem] at *; first | with_reducible assumption | omega) | decide | ((repeat' apply And.intro) <;> first | assumption | rfl | omega) | fail, ?_⟩)
 refine aC (aB (aC1 hF [2, 3] [(2, .ptr 1 []), (3, .ptr 2 [])] [.box 3 (.val .expr e_0), .box 1 (.val (.i .i64) (r_3.1)), .box 1 (.val (.i .i64) (r_3.2)), .box 1 (.fn 197 [] [1, 2, 3])] (by decide) ?_ ?_))
 ·simp only [go_sem]
  unfold anyS
  intro i hi
  have hi : i = 0 ∨ i = 1 := by revert hi; revert i; decide
  rcases hi with rfl | rfl
  ·simp only [go_sem]
   repeat (refine ⟨by first | with_reducible assumption | omega | (intros; first | with_reducible assumption | omega) | (simp only [go_sem] at *; first | with_reducible assumption | omega) | decide, ?_⟩)
   unfold anyS
   intro i hi
   have hi : i = 1 ∨ i = 2 := by revert hi; revert i; decide
   rcases hi with rfl | rfl
   ·simp only [go_sem]
    repeat (refine ⟨by first | with_reducible assumption | omega | (intros; first | with_reducible assumption | omega) | (simp only [go_sem] at *; first | with_reducible assumption | omega) | decide, ?_⟩)
    unfold anyS
    intro i hi
    have hi : i = 2 := by revert hi; revert i; decide
    subst hi
    simp only [go_sem]
    repeat (refine ⟨by first | with_reducible assumption | omega | (intros; first | with_reducible assumption | omega) | (simp only [go_sem] at *; first | with_reducible assumption | omega) | decide, ?_⟩)
    unfold anyS
    intro i hi
    have hi : i = 3 := by revert hi; revert i; decide
    subst hi
    simp only [go_sem]
    repeat (refine ⟨by first | with_reducible assumption | omega | (intros; first | with_reducible assumption | omega) | (simp only [go_sem] at *; first | with_reducible assumption | omega) | decide, ?_⟩)
    (simp only [anyS, go_sem]) <;> first | exact ⟨rfl, rfl⟩ | trivial
   ·simp only [go_sem]
    repeat (refine ⟨by first | with_reducible assumption | omega | (intros; first | with_reducible assumption | omega) | (simp only [go_sem] at *; first | with_reducible assumption | omega) | decide, ?_⟩)
    unfold anyS
    intro i hi
    have hi : i = 1 := by revert hi; revert i; decide
    subst hi
    simp only [go_sem]
    repeat (refine ⟨by first | with_reducible assumption | omega | (intros; first | with_reducible assumption | omega) | (simp only [go_sem] at *; first | with_reducible assumption | omega) | decide, ?_⟩)
    unfold anyS
    intro i hi
    have hi : i = 3 := by revert hi; revert i; decide
    subst hi
    simp only [go_sem]
    repeat (refine ⟨by first | with_reducible assumption | omega | (intros; first | with_reducible assumption | omega) | (simp only [go_sem] at *; first | with_reducible assumption | omega) | decide, ?_⟩)
    (simp only [anyS, go_sem]) <;> first | exact ⟨rfl, rfl⟩ | trivial
  ·simp only [go_sem]
   repeat (refine ⟨by first | with_reducible assumption | omega | (intros; first | with_reducible assumption | omega) | (simp only [go_sem] at *; first | with_reducible assumption | omega) | decide, ?_⟩)
   unfold anyS
   intro i hi
   have hi : i = 0 := by revert hi; revert i; decide
   subst hi
   simp only [go_sem]
   repeat (refine ⟨by first | with_reducible assumption | omega | (intros; first | with_reducible assumption | omega) | (simp only [go_sem] at *; first | with_reducible assumption | omega) | decide, ?_⟩)
   unfold anyS
   intro i hi
   have hi : i = 2 := by revert hi; revert i; decide
   subst hi
   simp only [go_sem]
   repeat (refine ⟨by first | with_reducible assumption | omega | (intros; first | with_reducible assumption | omega) | (simp only [go_sem] at *; first | with_reducible assumption | omega) | decide, ?_⟩)
   unfold anyS
   intro i hi
   have hi : i = 3 := by revert hi; revert i; decide
   subst hi
   simp only [go_sem]
   repeat (refine ⟨by first | with_reducible assumption | omega | (intros; first | with_reducible assumption | omega) | (simp only [go_sem] at *; first | with_reducible assumption | omega) | decide, ?_⟩)
   (simp only [anyS, go_sem]) <;> first | exact ⟨rfl, rfl⟩ | trivial
 obtain rfl := Option.some.inj h
 refine aC (cY (fG hF [.cell 2 3, .cell 3 3] rfl rfl rfl ?_))
 (try simp only [iB, aV, go_sem]) <;> first | rfl | (simp; done)
attribute [go_sem] vN
noncomputable def aAp (F : Md) (e_0 : Ex) : Option Bool :=
 (xV F e_0).bind (fun v_5 => some ((decide ((v_5.1) ≤ (60 : Int))) && (decide (((v_5.2).1) ≤ (30 : Int)))))
def aF6 : PlR := ⟨[(0, .B [1]), (1, .A [3, 4]), (2, .A [2])], []⟩
def aHY : Ty := .pair .expr .unit
noncomputable def xX (F : Md) : aG := mSpec aHY (.one .bool) (fun x => aAp F x.1)
noncomputable def aHZ (F : Md) : List (FuncId × aG) := [(126, (vN F))]
theorem aNj (F : Md) : bI Tryz.prog GL (aHZ F) := .cons (aK1 F) (by kernel_rfl) (.nil)
theorem aIE (F : Md) : gam (aHZ F) 126 = some (vN F) := rfl
attribute [go_sem] aHY aF6 aIE
set_option maxHeartbeats 4000000 in
theorem aMk (F : Md) : FOK Tryz.prog GL 63 (xX F) := by
 refine bK (bD (aNj F)) mix Tryz.func63 rfl (by kernel_rfl) (by decide) aF6 fun w0 S x Θ hw h hF => ?_
 obtain ⟨(e_0 : Ex), u⟩ := x
 simp only [bP, go_sem]
 replace h : sat (aAp F e_0) _ := h
 unfold aAp at h
 obtain ⟨v_5, hv, h⟩ := aL h
 try simp only [hv, go_sem]
 exact aH hF [.tmp 2] rfl rfl rfl (aA h) (by simp only [aV, go_sem])
attribute [go_sem] xX
noncomputable def lT (F : Md) (x12_7 : Bool) : Option (Int) :=
 if x12_7 = true then some (1 : Int) else some (-1 : Int)
noncomputable def lU (F : Md) (kind_0 : Int) (x7_6 : Bool) : Option (Int) :=
 if x7_6 = true then some (2 : Int) else if kind_0 = (10 : Int) then lT F (decide (kind_0 = (10 : Int))) else if kind_0 = (11 : Int) then lT F (decide (kind_0 = (11 : Int))) else if kind_0 = (12 : Int) then lT F (decide (kind_0 = (12 : Int))) else lT F (decide (kind_0 = (13 : Int)))
noncomputable def rL (F : Md) (kind_0 : Int) (x4_5 : Bool) : Option (Int) :=
 if x4_5 = true then some (0 : Int) else if kind_0 = (6 : Int) then lU F kind_0 (decide (kind_0 = (6 : Int))) else if kind_0 = (7 : Int) then lU F kind_0 (decide (kind_0 = (7 : Int))) else if kind_0 = (8 : Int) then lU F kind_0 (decide (kind_0 = (8 : Int))) else lU F kind_0 (decide (kind_0 = (9 : Int)))
noncomputable def tQ (F : Md) (kind_0 : Int) : Option Int :=
 if kind_0 = (1 : Int) then rL F kind_0 (decide (kind_0 = (1 : Int))) else rL F kind_0 (decide (kind_0 = (2 : Int)))
def xY : Ty := .pair (.i .i64) .unit
attribute [go_sem] xY
noncomputable def vO (F : Md) : aG := mSpec xY (.one (.i .i64)) (fun x => tQ F x.1)
noncomputable def aF7 (F : Md) : List (FuncId × aG) := []
theorem aF8 (F : Md) : bI Tryz.prog GL (aF7 F) := .nil
set_option maxHeartbeats 4000000 in
theorem aK2 (F : Md) : FOK Tryz.prog GL 127 (vO F) := by
 refine lS (bD (aF8 F)) Tryz.func127 rfl (by kernel_rfl) (by decide) fun w0 S x r hw h => ?_
 have hF : kB (fr Tryz.prog (EM (aF7 F)) S w0 Tryz.f127.ntmps) := ⟨bD (aF8 F), mix⟩
 obtain ⟨(kind_0 : Int), u⟩ := x
 simp only [xY, Ty.wf, mP] at hw
 simp only [bP, xY]
 try dsimp only at h
 replace h : tQ F kind_0 = some r := h
 unfold tQ at h
 refine aB (aD hF [0] ?_)
 simp only [go_sem]
 refine aC (aB (aB (aD hF [3] ?_)))
 simp only [go_sem]
 refine aC (dT (kV (D := Bool) (fun d => rL F kind_0 d = some r) [3] (fun d => [(4, .val .bool d)]) (fun d => []) ?_ ?_))
 ·refine aB (aD hF [3, 4] ?_)
  simp only [go_sem]
  refine aC (bG rfl (fun hc => ?_) (fun hc => ?_))
  ·try simp only [go_sem] at hc
   have h := eC (by first | exact hc | omega | (simpa using hc) | (simp at hc ⊢; omega)) h
   refine cS (aS (aQ ((decide (kind_0 = (1 : Int)))) h rfl ?_))
   ·(try simp only [fZ, eG, true_or, and_self, go_sem]) <;> (repeat' apply And.intro) <;> first | rfl | (left; rfl) | (right; rfl) | (left; simp only [go_sem]; done) | (right; simp only [go_sem]; done) | (simp; done) | (simp only [*]; done) | omega
  ·try simp only [go_sem] at hc
   have h := eD (by first | exact hc | omega | (simpa using hc) | (simp at hc ⊢; omega)) h
   refine aD hF [3, 4] ?_
   simp only [go_sem]
   refine aS (aQ ((decide (kind_0 = (2 : Int)))) h rfl ?_)
   ·(try simp only [fZ, eG, true_or, and_self, go_sem]) <;> (repeat' apply And.intro) <;> first | rfl | (left; rfl) | (right; rfl) | (left; simp only [go_sem]; done) | (right; simp only [go_sem]; done) | (simp; done) | (simp only [*]; done) | omega
 ·rintro x4_5 h
  try dsimp only at h
  simp only [go_sem]
  unfold rL at h
  refine bG rfl (fun hc => ?_) (fun hc => ?_)
  ·try simp only [go_sem] at hc
   have h := eC (by first | exact hc | omega | (simpa using hc) | (simp at hc ⊢; omega)) h
   refine aB (aD hF [2] ?_)
   simp only [go_sem]
   obtain rfl := Option.some.inj h
   refine aC (cY (kC (dF (fG hF [.tmp 2] rfl rfl rfl ?_))))
   (try simp only [iB, aV, go_sem]) <;> first | rfl | (simp; done)
  ·try simp only [go_sem] at hc
   have h := eD (by first | exact hc | omega | (simpa using hc) | (simp at hc ⊢; omega)) h
   refine kV (D := Bool) (fun d => lU F kind_0 d = some r) [3] (fun d => [(7, .val .bool d)]) (fun d => []) ?_ ?_
   ·refine aB (aD hF [3, 7] ?_)
    simp only [go_sem]
    refine aC (bG rfl (fun hc => ?_) (fun hc => ?_))
    ·try simp only [go_sem] at hc
     have h := eC (by first | exact hc | omega | (simpa using hc) | (simp at hc ⊢; omega)) h
     refine cS (aS (aQ ((decide (kind_0 = (6 : Int)))) h rfl ?_))
     ·(try simp only [fZ, eG, true_or, and_self, go_sem]) <;> (repeat' apply And.intro) <;> first | rfl | (left; rfl) | (right; rfl) | (left; simp only [go_sem]; done) | (right; simp only [go_sem]; done) | (simp; done) | (simp only [*]; done) | omega
    ·try simp only [go_sem] at hc
     have h := eD (by first | exact hc | omega | (simpa using hc) | (simp at hc ⊢; omega)) h
     refine aB (aD hF [3, 7] ?_)
     simp only [go_sem]
     refine aC (bG rfl (fun hc => ?_) (fun hc => ?_))
     ·try simp only [go_sem] at hc
      have h := eC (by first | exact hc | omega | (simpa using hc) | (simp at hc ⊢; omega)) h
      refine cS (aS (aQ ((decide (kind_0 = (7 : Int)))) h rfl ?_))
      ·(try simp only [fZ, eG, true_or, and_self, go_sem]) <;> (repeat' apply And.intro) <;> first | rfl | (left; rfl) | (right; rfl) | (left; simp only [go_sem]; done) | (right; simp only [go_sem]; done) | (simp; done) | (simp only [*]; done) | omega
     ·try simp only [go_sem] at hc
      have h := eD (by first | exact hc | omega | (simpa using hc) | (simp at hc ⊢; omega)) h
      refine aB (aD hF [3, 7] ?_)
      simp only [go_sem]
      refine aC (bG rfl (fun hc => ?_) (fun hc => ?_))
      ·try simp only [go_sem] at hc
       have h := eC (by first | exact hc | omega | (simpa using hc) | (simp at hc ⊢; omega)) h
       refine cS (aS (aQ ((decide (kind_0 = (8 : Int)))) h rfl ?_))
       ·(try simp only [fZ, eG, true_or, and_self, go_sem]) <;> (repeat' apply And.intro) <;> first | rfl | (left; rfl) | (right; rfl) | (left; simp only [go_sem]; done) | (right; simp only [go_sem]; done) | (simp; done) | (simp only [*]; done) | omega
      ·try simp only [go_sem] at hc
       have h := eD (by first | exact hc | omega | (simpa using hc) | (simp at hc ⊢; omega)) h
       refine aD hF [3, 7] ?_
       simp only [go_sem]
       refine aS (aQ ((decide (kind_0 = (9 : Int)))) h rfl ?_)
       ·(try simp only [fZ, eG, true_or, and_self, go_sem]) <;> (repeat' apply And.intro) <;> first | rfl | (left; rfl) | (right; rfl) | (left; simp only [go_sem]; done) | (right; simp only [go_sem]; done) | (simp; done) | (simp only [*]; done) | omega
   ·rintro x7_6 h
    try dsimp only at h
    simp only [go_sem]
    unfold lU at h
    refine bG rfl (fun hc => ?_) (fun hc => ?_)
    ·try simp only [go_sem] at hc
     have h := eC (by first | exact hc | omega | (simpa using hc) | (simp at hc ⊢; omega)) h
     refine aB (aD hF [2] ?_)
     simp only [go_sem]
     obtain rfl := Option.some.inj h
     refine aC (cY (kC (dF (fG hF [.tmp 2] rfl rfl rfl ?_))))
     (try simp only [iB, aV, go_sem]) <;> first | rfl | (simp; done)
    ·try simp only [go_sem] at hc
     have h := eD (by first | exact hc | omega | (simpa using hc) | (simp at hc ⊢; omega)) h
     refine kV (D := Bool) (fun d => lT F d = some r) [] (fun d => [(12, .val .bool d)]) (fun d => []) ?_ ?_
     ·refine aB (aD hF [3, 12] ?_)
      simp only [go_sem]
      refine aC (bG rfl (fun hc => ?_) (fun hc => ?_))
      ·try simp only [go_sem] at hc
       have h := eC (by first | exact hc | omega | (simpa using hc) | (simp at hc ⊢; omega)) h
       refine cS (aS (aQ ((decide (kind_0 = (10 : Int)))) h rfl ?_))
       ·(try simp only [fZ, eG, true_or, and_self, go_sem]) <;> (repeat' apply And.intro) <;> first | rfl | (left; rfl) | (right; rfl) | (left; simp only [go_sem]; done) | (right; simp only [go_sem]; done) | (simp; done) | (simp only [*]; done) | omega
      ·try simp only [go_sem] at hc
       have h := eD (by first | exact hc | omega | (simpa using hc) | (simp at hc ⊢; omega)) h
       refine aB (aD hF [3, 12] ?_)
       simp only [go_sem]
       refine aC (bG rfl (fun hc => ?_) (fun hc => ?_))
       ·try simp only [go_sem] at hc
        have h := eC (by first | exact hc | omega | (simpa using hc) | (simp at hc ⊢; omega)) h
        refine cS (aS (aQ ((decide (kind_0 = (11 : Int)))) h rfl ?_))
        ·(try simp only [fZ, eG, true_or, and_self, go_sem]) <;> (repeat' apply And.intro) <;> first | rfl | (left; rfl) | (right; rfl) | (left; simp only [go_sem]; done) | (right; simp only [go_sem]; done) | (simp; done) | (simp only [*]; done) | omega
       ·try simp only [go_sem] at hc
        have h := eD (by first | exact hc | omega | (simpa using hc) | (simp at hc ⊢; omega)) h
        refine aB (aD hF [3, 12] ?_)
        simp only [go_sem]
        refine aC (bG rfl (fun hc => ?_) (fun hc => ?_))
        ·try simp only [go_sem] at hc
         have h := eC (by first | exact hc | omega | (simpa using hc) | (simp at hc ⊢; omega)) h
         refine cS (aS (aQ ((decide (kind_0 = (12 : Int)))) h rfl ?_))
         ·(try simp only [fZ, eG, true_or, and_self, go_sem]) <;> (repeat' apply And.intro) <;> first | rfl | (left; rfl) | (right; rfl) | (left; simp only [go_sem]; done) | (right; simp only [go_sem]; done) | (simp; done) | (simp only [*]; done) | omega
        ·try simp only [go_sem] at hc
         have h := eD (by first | exact hc | omega | (simpa using hc) | (simp at hc ⊢; omega)) h
         refine aD hF [12] ?_
         simp only [go_sem]
         refine aS (aQ ((decide (kind_0 = (13 : Int)))) h rfl ?_)
         ·(try simp only [fZ, eG, true_or, and_self, go_sem]) <;> (repeat' apply And.intro) <;> first | rfl | (left; rfl) | (right; rfl) | (left; simp only [go_sem]; done) | (right; simp only [go_sem]; done) | (simp; done) | (simp only [*]; done) | omega
     ·rintro x12_7 h
      try dsimp only at h
      simp only [go_sem]
      unfold lT at h
      refine bG rfl (fun hc => ?_) (fun hc => ?_)
      ·try simp only [go_sem] at hc
       have h := eC (by first | exact hc | omega | (simpa using hc) | (simp at hc ⊢; omega)) h
       refine aB (aD hF [2] ?_)
       simp only [go_sem]
       obtain rfl := Option.some.inj h
       refine aC (cY (kC (dF (fG hF [.tmp 2] rfl rfl rfl ?_))))
       (try simp only [iB, aV, go_sem]) <;> first | rfl | (simp; done)
      ·try simp only [go_sem] at hc
       have h := eD (by first | exact hc | omega | (simpa using hc) | (simp at hc ⊢; omega)) h
       refine cS (bN (aC (aB (aD hF [2] ?_))))
       simp only [go_sem]
       obtain rfl := Option.some.inj h
       refine aC (cY (fG hF [.tmp 2] rfl rfl rfl ?_))
       (try simp only [iB, aV, go_sem]) <;> first | rfl | (simp; done)
attribute [go_sem] vO
def pR : Ty := .pair .expr (.pair (.sl .str) .unit)
attribute [go_sem] pR
noncomputable def gG (g : Ex → (List (List Nat)) → Option (Bool)) : aG := mSpec pR (.one .bool) (fun x => g x.1 x.2.1)
attribute [go_sem] gG
noncomputable def tR (F : Md) (g : Ex → (List (List Nat)) → Option (Bool)) (x_0 : Ex) (a1_1 : (List (List Nat))) : Option Bool :=
 (g x_0 a1_1).bind (fun v_6 => some (!v_6))
def aCn : PlR := ⟨[(0, .B [1, 2]), (1, .A [3])], []⟩
def aDl : Ty := .pair .expr (.pair (.rp (.sl .str)) .unit)
noncomputable def rM (F : Md) (g : Ex → (List (List Nat)) → Option (Bool)) : aG := mSpec aDl (.one .bool) (fun x => tR F g x.1 x.2.1)
noncomputable def aDm (F : Md) (g : Ex → (List (List Nat)) → Option (Bool)) : List (FuncId × aG) := [(64, (gG g))]
theorem aKu (F : Md) (g : Ex → (List (List Nat)) → Option (Bool)) (hg : FOK Tryz.prog GL 64 (gG g)) : bI Tryz.prog GL (aDm F g) := .cons hg (by kernel_rfl) (.nil)
theorem aF9 (F : Md) (g : Ex → (List (List Nat)) → Option (Bool)) : gam (aDm F g) 64 = some (gG g) := rfl
attribute [go_sem] aDl aCn aF9
set_option maxHeartbeats 4000000 in
theorem aIF (F : Md) (g : Ex → (List (List Nat)) → Option (Bool)) (hg : FOK Tryz.prog GL 64 (gG g)) : FOK Tryz.prog GL 130 (rM F g) := by
 refine bK (bD (aKu F g hg)) mix Tryz.func130 rfl (by kernel_rfl) (by decide) aCn fun w0 S x Θ hw h hF => ?_
 obtain ⟨(x_0 : Ex), (a1_1 : (List (List Nat))), u⟩ := x
 simp only [bP, go_sem]
 replace h : sat (tR F g x_0 a1_1) _ := h
 unfold tR at h
 obtain ⟨v_6, hv, h⟩ := aL h
 try simp only [hv, go_sem]
 exact aH hF [.tmp 3] rfl rfl rfl (aA h) (by simp only [aV, go_sem])
attribute [go_sem] rM
noncomputable def dC (F : Md) (g : Ex → (List (List Nat)) → Option (Bool)) (s_0 : (List Ex)) (f_1 : ((List (List Nat)) × Unit)) (x8_14 : Int) : Option ((Int) ⊕ ((Unit) ⊕ Int)) :=
 if x8_14 < (((s_0.length) : Nat) : Int) then ck (0 ≤ x8_14 ∧ x8_14 < (((s_0.length) : Nat) : Int)) ((tR F g (s_0.getD (x8_14.toNat) (Ex.mk 0 [] [])) (f_1.1)).bind (fun v_27 => if v_27 = true then some (.inr (.inr x8_14)) else ck (I64 (x8_14 + (1 : Int))) (some (.inl (x8_14 + (1 : Int)))))) else some (.inr (.inl ()))
noncomputable def cK (F : Md) (g : Ex → (List (List Nat)) → Option (Bool)) (s_0 : (List Ex)) (f_1 : ((List (List Nat)) × Unit)) : Option Int :=
 (dJ F (fun d : Int => dC F g s_0 f_1 d) (0 : Int)).bind (fun e => match e with | (.inl e) => some (-1 : Int) | (.inr e) => some e)
def fJ : PlR := ⟨[(0, .A [0, 1]), (1, .A [0, 1, 7, 8]), (2, .A [0, 1, 7, 8, 9]), (3, .A [0, 1, 5, 7, 8]), (4, .A [0, 1, 5, 7, 8, 16]), (5, .A [4]), (6, .A [0, 1, 7, 8]), (7, .A [4])], []⟩
def fQ : Ty := .pair (.sl .expr) (.pair (.clo 130 (.pair (.rp (.sl .str)) .unit)) .unit)
noncomputable def cH (F : Md) (g : Ex → (List (List Nat)) → Option (Bool)) : aG := mSpec fQ (.one (.i .i64)) (fun x => cK F g x.1 x.2.1)
noncomputable def fR (F : Md) (g : Ex → (List (List Nat)) → Option (Bool)) : List (FuncId × aG) := [(130, (rM F g))]
theorem lK (F : Md) (g : Ex → (List (List Nat)) → Option (Bool)) (hg : FOK Tryz.prog GL 64 (gG g)) : bI Tryz.prog GL (fR F g) := .cons (aIF F g hg) (by kernel_rfl) (.nil)
theorem jT (F : Md) (g : Ex → (List (List Nat)) → Option (Bool)) : gam (fR F g) 130 = some (rM F g) := rfl
attribute [go_sem] fQ fJ jT
set_option maxHeartbeats 4000000 in
theorem lD (F : Md) (g : Ex → (List (List Nat)) → Option (Bool)) (hg : FOK Tryz.prog GL 64 (gG g)) : FOK Tryz.prog GL 198 (cH F g) := by
 refine bK (bD (lK F g hg)) mix Tryz.func198 rfl (by kernel_rfl) (by decide) fJ fun w0 S x Θ hw h hF => ?_
 obtain ⟨(s_0 : (List Ex)), (f_1 : ((List (List Nat)) × Unit)), u⟩ := x
 simp only [bP, go_sem]
 replace h : sat (cK F g s_0 f_1) _ := h
 unfold cK at h
 refine bW hF (D := Int) [0, 1, 7] (fun d => [(8, .val (.i .i64) d)]) (fun d => []) h rfl (by simp only [go_sem]) ?_
 rintro x8_14 A2 T2 hA2 hE2 h
 simp only [go_sem]
 replace h : sat (dC F g s_0 f_1 x8_14) _ := h
 unfold dC at h
 refine eI h (fun hc h => ?_) fun hc h => ?_
 ·refine aU h fun g0 h => ?_
  obtain ⟨v_27, hv, h⟩ := aL h
  try simp only [hv, go_sem]
  refine aHr h (fun hc h => ?_) fun hc h => ?_
  ·replace h := hE2 _ (aA h)
   try dsimp only at h
   exact aH hF [.tmp 4] rfl rfl rfl (aA h) (by simp only [aV, go_sem])
  ·refine aU h fun g0 h => ?_
   replace h := hA2 _ (aA h)
   exact aQ _ h rfl (by simp only [go_sem])
 ·replace h := hE2 _ (aA h)
  try dsimp only at h
  exact aH hF [.tmp 4] rfl rfl rfl (aA h) (by simp only [aV, go_sem])
attribute [go_sem] cH
noncomputable def bR (F : Md) (g : Ex → (List (List Nat)) → Option (Bool)) (s_0 : (List Ex)) (f_1 : ((List (List Nat)) × Unit)) : Option Bool :=
 (cK F g s_0 f_1).bind (fun v_6 => some (decide ((0 : Int) ≤ v_6)))
def eM : PlR := ⟨[(0, .A [0, 1]), (1, .A [4])], []⟩
def eU : Ty := .pair (.sl .expr) (.pair (.clo 130 (.pair (.rp (.sl .str)) .unit)) .unit)
noncomputable def cC (F : Md) (g : Ex → (List (List Nat)) → Option (Bool)) : aG := mSpec eU (.one .bool) (fun x => bR F g x.1 x.2.1)
noncomputable def eV (F : Md) (g : Ex → (List (List Nat)) → Option (Bool)) : List (FuncId × aG) := [(198, (cH F g))]
theorem kN (F : Md) (g : Ex → (List (List Nat)) → Option (Bool)) (hg : FOK Tryz.prog GL 64 (gG g)) : bI Tryz.prog GL (eV F g) := .cons (lD F g hg) (by kernel_rfl) (.nil)
theorem iZ (F : Md) (g : Ex → (List (List Nat)) → Option (Bool)) : gam (eV F g) 198 = some (cH F g) := rfl
attribute [go_sem] eU eM iZ
set_option maxHeartbeats 4000000 in
theorem jU (F : Md) (g : Ex → (List (List Nat)) → Option (Bool)) (hg : FOK Tryz.prog GL 64 (gG g)) : FOK Tryz.prog GL 129 (cC F g) := by
 refine bK (bD (kN F g hg)) mix Tryz.func129 rfl (by kernel_rfl) (by decide) eM fun w0 S x Θ hw h hF => ?_
 obtain ⟨(s_0 : (List Ex)), (f_1 : ((List (List Nat)) × Unit)), u⟩ := x
 simp only [bP, go_sem]
 replace h : sat (bR F g s_0 f_1) _ := h
 unfold bR at h
 obtain ⟨v_6, hv, h⟩ := aL h
 try simp only [hv, go_sem]
 exact aH hF [.tmp 4] rfl rfl rfl (aA h) (by simp only [aV, go_sem])
attribute [go_sem] cC
noncomputable def tS (F : Md) (g : Ex → (List (List Nat)) → Option (Bool)) (e_0 : Ex) (names_1 : (List (List Nat))) : Option Bool :=
 ck (((tQ F (e_0.kind)).isSome = true)) (if ¬ (((tQ F (e_0.kind)).getD (0 : Int)) = ((((e_0.l).length) : Nat) : Int)) then some false else if (e_0.kind) = (1 : Int) then ck (((zJ F (e_0.text)).isSome = true)) (some ((zJ F (e_0.text)).getD false)) else if (e_0.kind) = (2 : Int) then ck ((¬ ((e_0.text) = (aY ⟨#[116]⟩)) → (((dS F names_1 (e_0.text)).isSome = true)))) (some ((decide ((e_0.text) = (aY ⟨#[116]⟩))) || ((dS F names_1 (e_0.text)).getD false))) else ck ((((e_0.text) = (aY ⟨#[]⟩)) → (((bR F g (e_0.l) (names_1, ())).isSome = true)))) (some ((decide ((e_0.text) = (aY ⟨#[]⟩))) && (!((bR F g (e_0.l) (names_1, ())).getD false)))))
noncomputable def pS (F : Md) (g : Ex → (List (List Nat)) → Option (Bool)) : List (FuncId × aG) := [(129, (cC F g)), (127, (vO F)), (128, (aAm F)), (71, (eF F))]
theorem aGa (F : Md) (g : Ex → (List (List Nat)) → Option (Bool)) (hg : FOK Tryz.prog GL 64 (gG g)) : bI Tryz.prog GL (pS F g) := .cons (jU F g hg) (by kernel_rfl) (.cons (aK2 F) (by kernel_rfl) (.cons (aNf F) (by kernel_rfl) (.cons (qC F) (by kernel_rfl) (.nil))))
theorem aG3 (F : Md) (g : Ex → (List (List Nat)) → Option (Bool)) : gam (pS F g) 129 = some (cC F g) := rfl
attribute [go_sem] aG3
theorem aG4 (F : Md) (g : Ex → (List (List Nat)) → Option (Bool)) : gam (pS F g) 127 = some (vO F) := rfl
attribute [go_sem] aG4
theorem aG5 (F : Md) (g : Ex → (List (List Nat)) → Option (Bool)) : gam (pS F g) 128 = some (aAm F) := rfl
attribute [go_sem] aG5
theorem aIG (F : Md) (g : Ex → (List (List Nat)) → Option (Bool)) : gam (pS F g) 71 = some (eF F) := rfl
attribute [go_sem] aIG
set_option maxHeartbeats 4000000 in
theorem aKv (F : Md) (g : Ex → (List (List Nat)) → Option (Bool)) (hg : FOK Tryz.prog GL 64 (gG g)) : FOK Tryz.prog GL 64 (mSpec pR (.one .bool) (fun x => tS F g x.1 x.2.1)) := by
 refine lS (bD (aGa F g hg)) Tryz.func64 rfl (by kernel_rfl) (by decide) fun w0 S x r hw h => ?_
 have hF : kB (fr Tryz.prog (EM (pS F g)) S w0 Tryz.f64.ntmps) := ⟨bD (aGa F g hg), mix⟩
 obtain ⟨(e_0 : Ex), (names_1 : (List (List Nat))), u⟩ := x
 simp only [pR, Ty.wf, mP] at hw
 simp only [bP, pR]
 try dsimp only at h
 replace h : tS F g e_0 names_1 = some r := h
 unfold tS at h
 refine aB (aN hF [2, 3] ?_)
 simp only [go_sem]
 refine aC (aB (aB (aD hF [2, 3, 11] ?_)))
 simp only [go_sem]
 obtain ⟨g0, h⟩ := aF h
 repeat (refine ⟨by first | with_reducible assumption | omega | (intros; first | with_reducible assumption | omega) | (simp only [go_sem] at *; first | with_reducible assumption | omega) | decide, ?_⟩)
 refine aC (bG rfl (fun hc => ?_) (fun hc => ?_))
 ·try simp only [go_sem] at hc
  have h := eC (by first | exact hc | omega | (simpa using hc) | (simp at hc ⊢; omega)) h
  refine aB (aD hF [4] ?_)
  simp only [go_sem]
  obtain rfl := Option.some.inj h
  refine aC (cY (dF (fG hF [.tmp 4] rfl rfl rfl ?_)))
  (try simp only [iB, aV, go_sem]) <;> first | rfl | (simp; done)
 ·try simp only [go_sem] at hc
  have h := eD (by first | exact hc | omega | (simpa using hc) | (simp at hc ⊢; omega)) h
  refine cS (aC (aB (aB (aD hF [2, 3, 13] ?_))))
  simp only [go_sem]
  refine aC (dT (aB (aD hF [2, 3, 13, 14] ?_)))
  simp only [go_sem]
  refine aC (bG rfl (fun hc => ?_) (fun hc => ?_))
  ·try simp only [go_sem] at hc
   have h := eC (by first | exact hc | omega | (simpa using hc) | (simp at hc ⊢; omega)) h
   refine aB (aD hF [4] ?_)
   simp only [go_sem]
   obtain ⟨g0, h⟩ := aF h
   repeat (refine ⟨by first | with_reducible assumption | omega | (intros; first | with_reducible assumption | omega) | (simp only [go_sem] at *; first | with_reducible assumption | omega) | decide, ?_⟩)
   obtain rfl := Option.some.inj h
   refine aC (cY (kC (dF (fG hF [.tmp 4] rfl rfl rfl ?_))))
   (try simp only [iB, aV, go_sem]) <;> first | rfl | (simp; done)
  ·try simp only [go_sem] at hc
   have h := eD (by first | exact hc | omega | (simpa using hc) | (simp at hc ⊢; omega)) h
   refine aB (aD hF [2, 3, 19] ?_)
   simp only [go_sem]
   refine aC (bG rfl (fun hc => ?_) (fun hc => ?_))
   ·try simp only [go_sem] at hc
    have h := eC (by first | exact hc | omega | (simpa using hc) | (simp at hc ⊢; omega)) h
    refine aB (aD hF [4] ?_)
    simp only [go_sem]
    obtain ⟨g0, h⟩ := aF h
    repeat (refine ⟨by first | with_reducible assumption | omega | (intros; first | with_reducible assumption | omega) | (simp only [go_sem] at *; first | with_reducible assumption | omega) | (intro q0; (try have e0 := g0 (by first | exact q0 | omega | (simpa using q0))); first | assumption | omega) | decide, ?_⟩)
    obtain rfl := Option.some.inj h
    refine aC (cY (kC (dF (fG hF [.tmp 4] rfl rfl rfl ?_))))
    (try simp only [iB, aV, go_sem]) <;> first | rfl | (simp; done)
   ·try simp only [go_sem] at hc
    have h := eD (by first | exact hc | omega | (simpa using hc) | (simp at hc ⊢; omega)) h
    refine cS (bN (aC (aB (wB 1 rfl ?_))))
    simp only [go_sem]
    refine aD hF [4] ?_
    simp only [go_sem]
    obtain ⟨g0, h⟩ := aF h
    repeat (refine ⟨by first | with_reducible assumption | omega | (intros; first | with_reducible assumption | omega) | (simp only [go_sem] at *; first | with_reducible assumption | omega) | (intro q0; (try have e0 := g0 (by first | exact q0 | omega | (simpa using q0))); first | assumption | omega) | decide, ?_⟩)
    obtain rfl := Option.some.inj h
    refine aC (cY (fG hF [.tmp 4] rfl rfl rfl ?_))
    (try simp only [iB, aV, go_sem]) <;> first | rfl | (simp; done)
noncomputable def xZ (F : Md) : Nat → Ex → (List (List Nat)) → Option (Bool)
 | 0 => fun _ _ => none
 | n + 1 => tS F (xZ F n)
noncomputable def vP (F : Md) (n : Nat) : aG := mSpec pR (.one .bool) (fun x => xZ F n x.1 x.2.1)
theorem aEh (F : Md) : ∀ n, FOK Tryz.prog GL 64 (vP F n)
 | 0 => fun _ _ _ _ _ _ _ hp => Bool.noConfusion (show false = true from hp)
 | n + 1 => aKv F _ (aEh F n)
attribute [go_sem] vP
end Nu
end Go.Proofs
namespace Go.Proofs
open Go.Vc
set_option maxRecDepth 20000
namespace Nu
attribute [-go_sem] Ex.kind Ex.text Ex.l
@[reducible] def aRM (xs : List (List Nat)) : Prop := xs.length * 16 ≤ 140737488355328
def oH : Ty := .pair (.sl .str) .unit
noncomputable def hD : aG := ⟨oH, .own 9 .str, fun x => aRM x.1, fun x => id x.1⟩
attribute [go_sem] hD oH
noncomputable def uM (F : Md) : List (FuncId × aG) := []
theorem uN (F : Md) : bI Tryz.prog GL (uM F) := .nil
theorem aB2 : FOK Tryz.prog GL 137 hD := by
 refine aNC (bD (uN none)) Tryz.func137 rfl (by kernel_rfl) (by decide) fun w0 S x hw hp => ?_
 have hF : kB (fr Tryz.prog (EM (uM none)) S w0 Tryz.f137.ntmps) := ⟨bD (uN none), mix⟩
 obtain ⟨(s : (List (List Nat))), u⟩ := x
 have hp : s.length * 16 ≤ 140737488355328 := hp
 simp only [bP, oH, hD]
 refine aB (aD hF [0, 2] ?_)
 simp only [go_sem]
 refine aC (aB (aB (aLv hF rfl rfl rfl fun b hb => ?_)))
 refine aC (bG rfl (fun hc => ?_) (fun hc => ?_))
 ·have hs := hb hc
  refine aB (aD hF [2] ?_)
  simp only [go_sem]
  refine aC (cY (dF (fG hF [.tmp 2] rfl rfl rfl ?_)))
  simp only [iB, aV, go_sem, hs]
  try trivial
 ·refine cS (aC (aB (aN hF [2] ?_)))
  simp only [go_sem]
  refine ⟨by omega, ?_⟩
  refine aC (cY (fG hF [.tmp 2] rfl rfl rfl ?_))
  simp only [iB, aV, go_sem]
  try trivial
noncomputable def iC (F : Md) (e_0 : Ex) (names_1 : (List (List Nat))) : Option Bool :=
 (aAp F e_0).bind (fun v_6 => ck (((v_6 = true) → (((xZ F 64 e_0 names_1).isSome = true)))) (some (v_6 && ((xZ F 64 e_0 names_1).getD false))))
def aBc : PlR := ⟨[(0, .B [1, 2]), (1, .A [4])], []⟩
def aCo : Ty := .pair .expr (.pair (.sl .str) .unit)
noncomputable def gQ (F : Md) : aG := mSpec aCo (.one .bool) (fun x => iC F x.1 x.2.1)
noncomputable def wR (F : Md) : List (FuncId × aG) := [(63, (xX F)), (64, (vP F 64))]
theorem aIH (F : Md) : bI Tryz.prog GL (wR F) := .cons (aMk F) (by kernel_rfl) (.cons (aEh F 64) (by kernel_rfl) (.nil))
theorem aEO (F : Md) : gam (wR F) 63 = some (xX F) := rfl
theorem aEP (F : Md) : gam (wR F) 64 = some (vP F 64) := rfl
attribute [go_sem] aCo aBc aEO aEP
set_option maxHeartbeats 4000000 in
theorem vC (F : Md) : FOK Tryz.prog GL 25 (gQ F) := by
 refine bK (bD (aIH F)) mix Tryz.func25 rfl (by kernel_rfl) (by decide) aBc fun w0 S x Θ hw h hF => ?_
 obtain ⟨(e_0 : Ex), (names_1 : (List (List Nat))), u⟩ := x
 simp only [bP, go_sem]
 replace h : sat (iC F e_0 names_1) _ := h
 unfold iC at h
 obtain ⟨v_6, hv, h⟩ := aL h
 try simp only [hv, go_sem]
 refine aU h fun g0 h => ?_
 exact aH hF [.tmp 4] rfl rfl rfl (aA h) (by simp only [aV, go_sem])
attribute [go_sem] gQ
noncomputable def pT (F : Md) (a_0 : ((List Nat) × (Ex × Unit))) (a1_1 : (List (List Nat))) : Option Bool :=
 (iC F ((a_0.2).1) a1_1).bind (fun v_6 => some (!v_6))
def aAq : PlR := ⟨[(0, .B [1, 2]), (1, .A [3])], []⟩
def aBd : Ty := .pair (.pair .str (.pair .expr .unit)) (.pair (.rp (.sl .str)) .unit)
noncomputable def oK (F : Md) : aG := mSpec aBd (.one .bool) (fun x => pT F x.1 x.2.1)
noncomputable def aBe (F : Md) : List (FuncId × aG) := [(25, (gQ F))]
theorem aG6 (F : Md) : bI Tryz.prog GL (aBe F) := .cons (vC F) (by kernel_rfl) (.nil)
theorem aDM (F : Md) : gam (aBe F) 25 = some (gQ F) := rfl
attribute [go_sem] aBd aAq aDM
set_option maxHeartbeats 4000000 in
theorem aGb (F : Md) : FOK Tryz.prog GL 140 (oK F) := by
 refine bK (bD (aG6 F)) mix Tryz.func140 rfl (by kernel_rfl) (by decide) aAq fun w0 S x Θ hw h hF => ?_
 obtain ⟨(a_0 : ((List Nat) × (Ex × Unit))), (a1_1 : (List (List Nat))), u⟩ := x
 simp only [bP, go_sem]
 replace h : sat (pT F a_0 a1_1) _ := h
 unfold pT at h
 obtain ⟨v_6, hv, h⟩ := aL h
 try simp only [hv, go_sem]
 exact aH hF [.tmp 3] rfl rfl rfl (aA h) (by simp only [aV, go_sem])
attribute [go_sem] oK
noncomputable def dD (F : Md) (s_0 : (List ((List Nat) × (Ex × Unit)))) (f_1 : ((List (List Nat)) × Unit)) (x8_14 : Int) : Option ((Int) ⊕ ((Unit) ⊕ Int)) :=
 if x8_14 < (((s_0.length) : Nat) : Int) then ck (0 ≤ x8_14 ∧ x8_14 < (((s_0.length) : Nat) : Int)) ((pT F (s_0.getD (x8_14.toNat) (([] : List Nat), (Ex.mk 0 [] []), ())) (f_1.1)).bind (fun v_27 => if v_27 = true then some (.inr (.inr x8_14)) else ck (I64 (x8_14 + (1 : Int))) (some (.inl (x8_14 + (1 : Int)))))) else some (.inr (.inl ()))
noncomputable def cL (F : Md) (s_0 : (List ((List Nat) × (Ex × Unit)))) (f_1 : ((List (List Nat)) × Unit)) : Option Int :=
 (dJ F (fun d : Int => dD F s_0 f_1 d) (0 : Int)).bind (fun e => match e with | (.inl e) => some (-1 : Int) | (.inr e) => some e)
def fK : PlR := ⟨[(0, .A [0, 1]), (1, .A [0, 1, 7, 8]), (2, .A [0, 1, 7, 8, 9]), (3, .A [0, 1, 5, 7, 8]), (4, .A [0, 1, 5, 7, 8, 16]), (5, .A [4]), (6, .A [0, 1, 7, 8]), (7, .A [4])], []⟩
def fS : Ty := .pair (.sl (.pair .str (.pair .expr .unit))) (.pair (.clo 140 (.pair (.rp (.sl .str)) .unit)) .unit)
noncomputable def cI (F : Md) : aG := mSpec fS (.one (.i .i64)) (fun x => cL F x.1 x.2.1)
noncomputable def fT (F : Md) : List (FuncId × aG) := [(140, (oK F))]
theorem lL (F : Md) : bI Tryz.prog GL (fT F) := .cons (aGb F) (by kernel_rfl) (.nil)
theorem jV (F : Md) : gam (fT F) 140 = some (oK F) := rfl
attribute [go_sem] fS fK jV
set_option maxHeartbeats 4000000 in
theorem lE (F : Md) : FOK Tryz.prog GL 204 (cI F) := by
 refine bK (bD (lL F)) mix Tryz.func204 rfl (by kernel_rfl) (by decide) fK fun w0 S x Θ hw h hF => ?_
 obtain ⟨(s_0 : (List ((List Nat) × (Ex × Unit)))), (f_1 : ((List (List Nat)) × Unit)), u⟩ := x
 simp only [bP, go_sem]
 replace h : sat (cL F s_0 f_1) _ := h
 unfold cL at h
 refine bW hF (D := Int) [0, 1, 7] (fun d => [(8, .val (.i .i64) d)]) (fun d => []) h rfl (by simp only [go_sem]) ?_
 rintro x8_14 A2 T2 hA2 hE2 h
 simp only [go_sem]
 replace h : sat (dD F s_0 f_1 x8_14) _ := h
 unfold dD at h
 refine eI h (fun hc h => ?_) fun hc h => ?_
 ·refine aU h fun g0 h => ?_
  obtain ⟨v_27, hv, h⟩ := aL h
  try simp only [hv, go_sem]
  refine aHr h (fun hc h => ?_) fun hc h => ?_
  ·replace h := hE2 _ (aA h)
   try dsimp only at h
   exact aH hF [.tmp 4] rfl rfl rfl (aA h) (by simp only [aV, go_sem])
  ·refine aU h fun g0 h => ?_
   replace h := hA2 _ (aA h)
   exact aQ _ h rfl (by simp only [go_sem])
 ·replace h := hE2 _ (aA h)
  try dsimp only at h
  exact aH hF [.tmp 4] rfl rfl rfl (aA h) (by simp only [aV, go_sem])
attribute [go_sem] cI
noncomputable def bS (F : Md) (s_0 : (List ((List Nat) × (Ex × Unit)))) (f_1 : ((List (List Nat)) × Unit)) : Option Bool :=
 (cL F s_0 f_1).bind (fun v_6 => some (decide ((0 : Int) ≤ v_6)))
def eN : PlR := ⟨[(0, .A [0, 1]), (1, .A [4])], []⟩
def eW : Ty := .pair (.sl (.pair .str (.pair .expr .unit))) (.pair (.clo 140 (.pair (.rp (.sl .str)) .unit)) .unit)
noncomputable def cD (F : Md) : aG := mSpec eW (.one .bool) (fun x => bS F x.1 x.2.1)
noncomputable def eX (F : Md) : List (FuncId × aG) := [(204, (cI F))]
theorem kO (F : Md) : bI Tryz.prog GL (eX F) := .cons (lE F) (by kernel_rfl) (.nil)
theorem jA (F : Md) : gam (eX F) 204 = some (cI F) := rfl
attribute [go_sem] eW eN jA
set_option maxHeartbeats 4000000 in
theorem jW (F : Md) : FOK Tryz.prog GL 139 (cD F) := by
 refine bK (bD (kO F)) mix Tryz.func139 rfl (by kernel_rfl) (by decide) eN fun w0 S x Θ hw h hF => ?_
 obtain ⟨(s_0 : (List ((List Nat) × (Ex × Unit)))), (f_1 : ((List (List Nat)) × Unit)), u⟩ := x
 simp only [bP, go_sem]
 replace h : sat (bS F s_0 f_1) _ := h
 unfold bS at h
 obtain ⟨v_6, hv, h⟩ := aL h
 try simp only [hv, go_sem]
 exact aH hF [.tmp 4] rfl rfl rfl (aA h) (by simp only [aV, go_sem])
attribute [go_sem] cD
noncomputable def zL (F : Md) (s_0 : ((List Nat) × ((List ((List Nat) × (((List Nat) × ((List Nat) × Unit)) × (Ex × Unit)))) × ((List ((List Nat) × (((List Nat) × ((List Nat) × Unit)) × Unit))) × ((List (List Nat)) × ((List ((List Nat) × (Ex × Unit))) × Unit)))))) (x93_11 : Int) : Option ((Int) ⊕ ((Unit) ⊕ Bool)) :=
 if x93_11 < ((((((s_0.2).2).1).length) : Nat) : Int) then ck (0 ≤ x93_11 ∧ x93_11 < ((((((s_0.2).2).1).length) : Nat) : Int)) (ck (((iY F ((((((s_0.2).2).1).getD (x93_11.toNat) (([] : List Nat), (([] : List Nat), ([] : List Nat), ()), ())).2).1)).isSome = true)) (if ¬ (((iY F ((((((s_0.2).2).1).getD (x93_11.toNat) (([] : List Nat), (([] : List Nat), ([] : List Nat), ()), ())).2).1)).getD false) = true) then some (.inr (.inr false)) else ck (I64 (x93_11 + (1 : Int))) (some (.inl (x93_11 + (1 : Int)))))) else some (.inr (.inl ()))
noncomputable def tT (F : Md) (s_0 : ((List Nat) × ((List ((List Nat) × (((List Nat) × ((List Nat) × Unit)) × (Ex × Unit)))) × ((List ((List Nat) × (((List Nat) × ((List Nat) × Unit)) × Unit))) × ((List (List Nat)) × ((List ((List Nat) × (Ex × Unit))) × Unit)))))) : Option (Bool) :=
 (dJ F (fun d : Int => zL F s_0 d) (0 : Int)).bind (fun e => match e with | (.inl e) => ck (((bS F (((((s_0.2).2).2).2).1) (((bL F ([(((aW F s_0).getD (([] : List (List Nat)), ([] : List (List Nat)), ([] : List (List Nat)), ())).1), ((((aW F s_0).getD (([] : List (List Nat)), ([] : List (List Nat)), ([] : List (List Nat)), ())).2).1), (((((aW F s_0).getD (([] : List (List Nat)), ([] : List (List Nat)), ([] : List (List Nat)), ())).2).2).1)] : List (List (List Nat)))).getD ([] : List (List Nat))), ())).isSome = true)) (some (!((bS F (((((s_0.2).2).2).2).1) (((bL F ([(((aW F s_0).getD (([] : List (List Nat)), ([] : List (List Nat)), ([] : List (List Nat)), ())).1), ((((aW F s_0).getD (([] : List (List Nat)), ([] : List (List Nat)), ([] : List (List Nat)), ())).2).1), (((((aW F s_0).getD (([] : List (List Nat)), ([] : List (List Nat)), ([] : List (List Nat)), ())).2).2).1)] : List (List (List Nat)))).getD ([] : List (List Nat))), ())).getD false))) | (.inr e) => some e)
noncomputable def zM (F : Md) (s_0 : ((List Nat) × ((List ((List Nat) × (((List Nat) × ((List Nat) × Unit)) × (Ex × Unit)))) × ((List ((List Nat) × (((List Nat) × ((List Nat) × Unit)) × Unit))) × ((List (List Nat)) × ((List ((List Nat) × (Ex × Unit))) × Unit)))))) (x74_14 : Int) : Option ((Int) ⊕ ((Unit) ⊕ Bool)) :=
 if x74_14 < (((((s_0.2).1).length) : Nat) : Int) then ck (0 ≤ x74_14 ∧ x74_14 < (((((s_0.2).1).length) : Nat) : Int)) (ck (((iY F (((((s_0.2).1).getD (x74_14.toNat) (([] : List Nat), (([] : List Nat), ([] : List Nat), ()), (Ex.mk 0 [] []), ())).2).1)).isSome = true)) (ck ((¬ (¬ (((iY F (((((s_0.2).1).getD (x74_14.toNat) (([] : List Nat), (([] : List Nat), ([] : List Nat), ()), (Ex.mk 0 [] []), ())).2).1)).getD false) = true)) → (((iC F ((((((s_0.2).1).getD (x74_14.toNat) (([] : List Nat), (([] : List Nat), ([] : List Nat), ()), (Ex.mk 0 [] []), ())).2).2).1) ((bL F ([(((aW F s_0).getD (([] : List (List Nat)), ([] : List (List Nat)), ([] : List (List Nat)), ())).1), ((((aW F s_0).getD (([] : List (List Nat)), ([] : List (List Nat)), ([] : List (List Nat)), ())).2).1), (((((aW F s_0).getD (([] : List (List Nat)), ([] : List (List Nat)), ([] : List (List Nat)), ())).2).2).1)] : List (List (List Nat)))).getD ([] : List (List Nat)))).isSome = true)))) (if (¬ (((iY F (((((s_0.2).1).getD (x74_14.toNat) (([] : List Nat), (([] : List Nat), ([] : List Nat), ()), (Ex.mk 0 [] []), ())).2).1)).getD false) = true)) ∨ (¬ (((iC F ((((((s_0.2).1).getD (x74_14.toNat) (([] : List Nat), (([] : List Nat), ([] : List Nat), ()), (Ex.mk 0 [] []), ())).2).2).1) ((bL F ([(((aW F s_0).getD (([] : List (List Nat)), ([] : List (List Nat)), ([] : List (List Nat)), ())).1), ((((aW F s_0).getD (([] : List (List Nat)), ([] : List (List Nat)), ([] : List (List Nat)), ())).2).1), (((((aW F s_0).getD (([] : List (List Nat)), ([] : List (List Nat)), ([] : List (List Nat)), ())).2).2).1)] : List (List (List Nat)))).getD ([] : List (List Nat)))).getD false) = true)) then some (.inr (.inr false)) else ck (I64 (x74_14 + (1 : Int))) (some (.inl (x74_14 + (1 : Int))))))) else some (.inr (.inl ()))
noncomputable def tU (F : Md) (s_0 : ((List Nat) × ((List ((List Nat) × (((List Nat) × ((List Nat) × Unit)) × (Ex × Unit)))) × ((List ((List Nat) × (((List Nat) × ((List Nat) × Unit)) × Unit))) × ((List (List Nat)) × ((List ((List Nat) × (Ex × Unit))) × Unit)))))) (all_6 : (List (List Nat))) : Option (Bool) :=
 ck (((oD F all_6).isSome = true)) (if ¬ (((oD F all_6).getD false) = true) then some false else (dJ F (fun d : Int => zM F s_0 d) (0 : Int)).bind (fun e => match e with | (.inl e) => tT F s_0 | (.inr e) => some e))
noncomputable def aAr (F : Md) (s_0 : ((List Nat) × ((List ((List Nat) × (((List Nat) × ((List Nat) × Unit)) × (Ex × Unit)))) × ((List ((List Nat) × (((List Nat) × ((List Nat) × Unit)) × Unit))) × ((List (List Nat)) × ((List ((List Nat) × (Ex × Unit))) × Unit)))))) (x58_17 : Int) (all_18 : (List (List Nat))) : Option ((Int × (List (List Nat))) ⊕ (((List (List Nat))))) :=
 if x58_17 < ((((((((s_0.2).2).2).2).1).length) : Nat) : Int) then ck (0 ≤ x58_17 ∧ x58_17 < ((((((((s_0.2).2).2).2).1).length) : Nat) : Int)) (ck (((all_18.length) + (1 : Nat)) * 16 ≤ 140737488355328) (ck (I64 (x58_17 + (1 : Int))) (some (.inl ((x58_17 + (1 : Int)), (all_18 ++ ([(((((((s_0.2).2).2).2).1).getD (x58_17.toNat) (([] : List Nat), (Ex.mk 0 [] []), ())).1)] : List (List Nat)))))))) else some (.inr all_18)
noncomputable def tV (F : Md) (s_0 : ((List Nat) × ((List ((List Nat) × (((List Nat) × ((List Nat) × Unit)) × (Ex × Unit)))) × ((List ((List Nat) × (((List Nat) × ((List Nat) × Unit)) × Unit))) × ((List (List Nat)) × ((List ((List Nat) × (Ex × Unit))) × Unit)))))) : Option Bool :=
 if (((((((((s_0.2).1).length) : Nat) : Int) < (1 : Int)) ∨ ((6 : Int) < (((((s_0.2).1).length) : Nat) : Int))) ∨ ((6 : Int) < ((((((s_0.2).2).1).length) : Nat) : Int))) ∨ ((4 : Int) < (((((((s_0.2).2).2).1).length) : Nat) : Int))) ∨ ((4 : Int) < ((((((((s_0.2).2).2).2).1).length) : Nat) : Int)) then some false else ck (((aW F s_0).isSome = true)) (ck (((bL F ([(((aW F s_0).getD (([] : List (List Nat)), ([] : List (List Nat)), ([] : List (List Nat)), ())).1), ((((aW F s_0).getD (([] : List (List Nat)), ([] : List (List Nat)), ([] : List (List Nat)), ())).2).1), (((((aW F s_0).getD (([] : List (List Nat)), ([] : List (List Nat)), ([] : List (List Nat)), ())).2).2).1)] : List (List (List Nat)))).isSome = true)) (ck ((aRM ((bL F ([(((aW F s_0).getD (([] : List (List Nat)), ([] : List (List Nat)), ([] : List (List Nat)), ())).1), ((((aW F s_0).getD (([] : List (List Nat)), ([] : List (List Nat)), ([] : List (List Nat)), ())).2).1), (((((aW F s_0).getD (([] : List (List Nat)), ([] : List (List Nat)), ([] : List (List Nat)), ())).2).2).1)] : List (List (List Nat)))).getD ([] : List (List Nat))))) ((dJ F (fun d : Int × (List (List Nat)) => aAr F s_0 d.1 d.2) ((0 : Int), (id ((bL F ([(((aW F s_0).getD (([] : List (List Nat)), ([] : List (List Nat)), ([] : List (List Nat)), ())).1), ((((aW F s_0).getD (([] : List (List Nat)), ([] : List (List Nat)), ([] : List (List Nat)), ())).2).1), (((((aW F s_0).getD (([] : List (List Nat)), ([] : List (List Nat)), ([] : List (List Nat)), ())).2).2).1)] : List (List (List Nat)))).getD ([] : List (List Nat)))))).bind (fun e => tU F s_0 e))))
def tW : Ty := .pair (.pair .str (.pair (.sl (.pair .str (.pair (.pair .str (.pair .str .unit)) (.pair .expr .unit)))) (.pair (.sl (.pair .str (.pair (.pair .str (.pair .str .unit)) .unit))) (.pair (.sl .str) (.pair (.sl (.pair .str (.pair .expr .unit))) .unit))))) .unit
attribute [go_sem] tW
noncomputable def rN (F : Md) : aG := mSpec tW (.one .bool) (fun x => tV F x.1)
noncomputable def hN (F : Md) : List (FuncId × aG) := [(139, (cD F)), (135, (tL F)), (136, (jN F)), (137, hD), (138, (rK F)), (25, (gQ F)), (68, (mW F))]
theorem aDn (F : Md) : bI Tryz.prog GL (hN F) := .cons (jW F) (by kernel_rfl) (.cons (aKr F) (by kernel_rfl) (.cons (aA9 F) (by kernel_rfl) (.cons aB2 (by kernel_rfl) (.cons (aID F) (by kernel_rfl) (.cons (vC F) (by kernel_rfl) (.cons (aDf F) (by kernel_rfl) (.nil)))))))
theorem aEQ (F : Md) : gam (hN F) 139 = some (cD F) := rfl
attribute [go_sem] aEQ
theorem aER (F : Md) : gam (hN F) 135 = some (tL F) := rfl
attribute [go_sem] aER
theorem aES (F : Md) : gam (hN F) 136 = some (jN F) := rfl
attribute [go_sem] aES
theorem aET (F : Md) : gam (hN F) 137 = some hD := rfl
attribute [go_sem] aET
theorem aEU (F : Md) : gam (hN F) 138 = some (rK F) := rfl
attribute [go_sem] aEU
theorem aGc (F : Md) : gam (hN F) 25 = some (gQ F) := rfl
attribute [go_sem] aGc
theorem aGd (F : Md) : gam (hN F) 68 = some (mW F) := rfl
attribute [go_sem] aGd
set_option maxHeartbeats 4000000 in
theorem aII (F : Md) : FOK Tryz.prog GL 67 (rN F) := by
 refine lS (bD (aDn F)) Tryz.func67 rfl (by kernel_rfl) (by decide) fun w0 S x r hw h => ?_
 have hF : kB (fr Tryz.prog (EM (hN F)) S w0 Tryz.f67.ntmps) := ⟨bD (aDn F), mix⟩
 obtain ⟨(s_0 : ((List Nat) × ((List ((List Nat) × (((List Nat) × ((List Nat) × Unit)) × (Ex × Unit)))) × ((List ((List Nat) × (((List Nat) × ((List Nat) × Unit)) × Unit))) × ((List (List Nat)) × ((List ((List Nat) × (Ex × Unit))) × Unit)))))), u⟩ := x
 simp only [tW, Ty.wf, mP] at hw
 simp only [bP, tW]
 try dsimp only at h
 replace h : tV F s_0 = some r := h
 unfold tV at h
 refine aB (aN hF [1] ?_)
 simp only [go_sem]
 refine aC (aB (aB (aD hF [1, 41] ?_)))
 simp only [go_sem]
 refine aC (bG rfl (fun hc => ?_) (fun hc => ?_))
 ·try simp only [go_sem] at hc
  have h := eC (by first | exact hc | omega | (simpa using hc) | (simp at hc ⊢; omega)) h
  refine aB (aD hF [2] ?_)
  simp only [go_sem]
  obtain rfl := Option.some.inj h
  refine aC (cY (dF (fG hF [.tmp 2] rfl rfl rfl ?_)))
  (try simp only [iB, aV, go_sem]) <;> first | rfl | (simp; done)
 ·try simp only [go_sem] at hc
  have h := eD (by first | exact hc | omega | (simpa using hc) | (simp at hc ⊢; omega)) h
  refine cS (aC (aB (aD hF [1, 3, 4, 5] ?_)))
  simp only [go_sem]
  obtain ⟨g0, h⟩ := aF h
  repeat (refine ⟨by first | with_reducible assumption | omega | (intros; first | with_reducible assumption | omega) | (simp only [go_sem] at *; first | with_reducible assumption | omega) | decide, ?_⟩)
  refine aC (aB (aN hF [1, 6] ?_))
  simp only [go_sem]
  obtain ⟨g0, h⟩ := aF h
  repeat (refine ⟨by first | with_reducible assumption | omega | (intros; first | with_reducible assumption | omega) | (simp only [go_sem] at *; first | with_reducible assumption | omega) | decide, ?_⟩)
  refine aC (aB (aN hF [1, 6, 7] ?_))
  simp only [go_sem]
  obtain ⟨g0, h⟩ := aF h
  repeat (refine ⟨by first | with_reducible assumption | omega | (intros; first | with_reducible assumption | omega) | (simp only [go_sem] at *; first | with_reducible assumption | omega) | decide, ?_⟩)
  refine aC (kV (D := (List (List Nat))) (fun d => tU F s_0 d = some r) [] (fun d => [(1, .ptr 0 []), (6, .ptr 1 []), (7, .own 2)]) (fun d => [.inr (.box 5 (.val (.pair .str (.pair (.sl (.pair .str (.pair (.pair .str (.pair .str .unit)) (.pair .expr .unit)))) (.pair (.sl (.pair .str (.pair (.pair .str (.pair .str .unit)) .unit))) (.pair (.sl .str) (.pair (.sl (.pair .str (.pair .expr .unit))) .unit))))) s_0)), .inr (.box 1 (.val (.sl .str) ((bL F ([(((aW F s_0).getD (([] : List (List Nat)), ([] : List (List Nat)), ([] : List (List Nat)), ())).1), ((((aW F s_0).getD (([] : List (List Nat)), ([] : List (List Nat)), ([] : List (List Nat)), ())).2).1), (((((aW F s_0).getD (([] : List (List Nat)), ([] : List (List Nat)), ([] : List (List Nat)), ())).2).2).1)] : List (List (List Nat)))).getD ([] : List (List Nat))))), .inr (.row 9 .str d)]) ?_ ?_)
  ·refine aB (aD hF [1, 6, 7, 56, 57, 58] ?_)
   simp only [go_sem]
   refine aC (dT (nX (D := Int × (List (List Nat))) [56, 57] (fun d => [(1, .ptr 0 []), (6, .ptr 1 []), (7, .own 2), (58, .val (.i .i64) d.1)]) (fun d => [.inr (.box 5 (.val (.pair .str (.pair (.sl (.pair .str (.pair (.pair .str (.pair .str .unit)) (.pair .expr .unit)))) (.pair (.sl (.pair .str (.pair (.pair .str (.pair .str .unit)) .unit))) (.pair (.sl .str) (.pair (.sl (.pair .str (.pair .expr .unit))) .unit))))) s_0)), .inr (.box 1 (.val (.sl .str) ((bL F ([(((aW F s_0).getD (([] : List (List Nat)), ([] : List (List Nat)), ([] : List (List Nat)), ())).1), ((((aW F s_0).getD (([] : List (List Nat)), ([] : List (List Nat)), ([] : List (List Nat)), ())).2).1), (((((aW F s_0).getD (([] : List (List Nat)), ([] : List (List Nat)), ([] : List (List Nat)), ())).2).2).1)] : List (List (List Nat)))).getD ([] : List (List Nat))))), .inr (.row 9 .str d.2)]) h ?_ ?_ ?_))
   ·first | rfl | (simp only [go_sem]; done)
   ·(try simp only [fZ, eG, true_or, and_self, go_sem]) <;> (repeat' apply And.intro) <;> first | rfl | (left; rfl) | (right; rfl) | (left; simp only [go_sem]; done) | (right; simp only [go_sem]; done) | (simp; done) | (simp only [*]; done) | omega
   rintro ⟨x58_17, all_18⟩ s7 h hs7
   simp only [go_sem]
   try dsimp only at h
   unfold aAr at h
   refine aB (aD hF [1, 6, 7, 56, 57, 58, 59] ?_)
   simp only [go_sem]
   refine aC (aB (bG rfl (fun hc => ?_) (fun hc => ?_)))
   ·try simp only [go_sem] at hc
    have h := eC (by first | exact hc | omega | (simpa using hc) | (simp at hc ⊢; omega)) h
    refine cS (aC (aB (dT (aB (aN hF [1, 6, 7, 9, 56, 57, 58] ?_)))))
    simp only [go_sem]
    obtain ⟨g0, h⟩ := aF h
    repeat (refine ⟨by first | with_reducible assumption | omega | (intros; first | with_reducible assumption | omega) | (simp only [go_sem] at *; first | with_reducible assumption | omega) | decide, ?_⟩)
    refine aC (aN hF [1, 6, 7, 56, 57, 58] ?_)
    simp only [go_sem]
    obtain ⟨g0, h⟩ := aF h
    repeat (refine ⟨by first | with_reducible assumption | omega | (intros; first | with_reducible assumption | omega) | (simp only [go_sem] at *; first | with_reducible assumption | omega) | decide, ?_⟩)
    refine bN (aC (aD hF [1, 6, 7, 56, 57, 58] ?_))
    simp only [go_sem]
    obtain ⟨g0, h⟩ := aF h
    try simp only [I64, I32] at g0
    repeat (refine ⟨by first | with_reducible assumption | omega | (intros; first | with_reducible assumption | omega) | (simp only [go_sem] at *; first | with_reducible assumption | omega) | decide, ?_⟩)
    obtain rfl := Option.some.inj h
    dsimp only [mZ] at hs7
    refine aS (fH [0, 1, 4] rfl rfl ?_)
    simp only [ren, fY, jC, posOf, dL, go_sem]
    refine aQ (((x58_17 + (1 : Int)), (all_18 ++ ([(((((((s_0.2).2).2).2).1).getD (x58_17.toNat) (([] : List Nat), (Ex.mk 0 [] []), ())).1)] : List (List Nat))))) hs7 rfl ?_
    ·(try simp only [fZ, eG, true_or, and_self, go_sem]) <;> (repeat' apply And.intro) <;> first | rfl | (left; rfl) | (right; rfl) | (left; simp only [go_sem]; done) | (right; simp only [go_sem]; done) | (simp; done) | (simp only [*]; done) | omega
   ·try simp only [go_sem] at hc
    have h := eD (by first | exact hc | omega | (simpa using hc) | (simp at hc ⊢; omega)) h
    obtain rfl := Option.some.inj h
    dsimp only [mZ] at hs7
    have h := hs7
    try dsimp only at h
    refine nM (cP (cP (eK (aS (aQ (all_18) h rfl ?_)))))
    ·(try simp only [fZ, eG, true_or, and_self, go_sem]) <;> (repeat' apply And.intro) <;> first | rfl | (left; rfl) | (right; rfl) | (left; simp only [go_sem]; done) | (right; simp only [go_sem]; done) | (simp; done) | (simp only [*]; done) | omega
  ·rintro all_6 h
   try dsimp only at h
   simp only [go_sem]
   unfold tU at h
   refine aB (aB (aD hF [1, 6, 70] ?_))
   simp only [go_sem]
   obtain ⟨g0, h⟩ := aF h
   repeat (refine ⟨by first | with_reducible assumption | omega | (intros; first | with_reducible assumption | omega) | (simp only [go_sem] at *; first | with_reducible assumption | omega) | decide, ?_⟩)
   refine aC (bG rfl (fun hc => ?_) (fun hc => ?_))
   ·try simp only [go_sem] at hc
    have h := eC (by first | exact hc | omega | (simpa using hc) | (simp at hc ⊢; omega)) h
    refine aB (aD hF [2] ?_)
    simp only [go_sem]
    obtain rfl := Option.some.inj h
    refine aC (cY (dF (fG hF [.tmp 2] rfl rfl rfl ?_)))
    (try simp only [iB, aV, go_sem]) <;> first | rfl | (simp; done)
   ·try simp only [go_sem] at hc
    have h := eD (by first | exact hc | omega | (simpa using hc) | (simp at hc ⊢; omega)) h
    refine cS (aC (kV (D := Unit) (fun d => tT F s_0 = some r) [] (fun d => [(1, .ptr 0 []), (6, .ptr 1 [])]) (fun d => [.inr (.box 5 (.val (.pair .str (.pair (.sl (.pair .str (.pair (.pair .str (.pair .str .unit)) (.pair .expr .unit)))) (.pair (.sl (.pair .str (.pair (.pair .str (.pair .str .unit)) .unit))) (.pair (.sl .str) (.pair (.sl (.pair .str (.pair .expr .unit))) .unit))))) s_0)), .inr (.box 1 (.val (.sl .str) ((bL F ([(((aW F s_0).getD (([] : List (List Nat)), ([] : List (List Nat)), ([] : List (List Nat)), ())).1), ((((aW F s_0).getD (([] : List (List Nat)), ([] : List (List Nat)), ([] : List (List Nat)), ())).2).1), (((((aW F s_0).getD (([] : List (List Nat)), ([] : List (List Nat)), ([] : List (List Nat)), ())).2).2).1)] : List (List (List Nat)))).getD ([] : List (List Nat)))))]) ?_ ?_))
    ·refine aB (aD hF [1, 6, 72, 73, 74] ?_)
     simp only [go_sem]
     refine aC (dT (aDF [0, 1] rfl rfl ?_))
     simp only [ren, fY, jC, posOf, dL, go_sem]
     refine nX (D := Int) [72, 73] (fun d => [(1, .ptr 0 []), (6, .ptr 1 []), (74, .val (.i .i64) d)]) (fun d => [.inr (.box 5 (.val (.pair .str (.pair (.sl (.pair .str (.pair (.pair .str (.pair .str .unit)) (.pair .expr .unit)))) (.pair (.sl (.pair .str (.pair (.pair .str (.pair .str .unit)) .unit))) (.pair (.sl .str) (.pair (.sl (.pair .str (.pair .expr .unit))) .unit))))) s_0)), .inr (.box 1 (.val (.sl .str) ((bL F ([(((aW F s_0).getD (([] : List (List Nat)), ([] : List (List Nat)), ([] : List (List Nat)), ())).1), ((((aW F s_0).getD (([] : List (List Nat)), ([] : List (List Nat)), ([] : List (List Nat)), ())).2).1), (((((aW F s_0).getD (([] : List (List Nat)), ([] : List (List Nat)), ([] : List (List Nat)), ())).2).2).1)] : List (List (List Nat)))).getD ([] : List (List Nat)))))]) h ?_ ?_ ?_
     ·first | rfl | (simp only [go_sem]; done)
     ·(try simp only [fZ, eG, true_or, and_self, go_sem]) <;> (repeat' apply And.intro) <;> first | rfl | (left; rfl) | (right; rfl) | (left; simp only [go_sem]; done) | (right; simp only [go_sem]; done) | (simp; done) | (simp only [*]; done) | omega
     rintro x74_14 s14 h hs14
     simp only [go_sem]
     try dsimp only at h
     unfold zM at h
     refine aB (aD hF [1, 6, 72, 73, 74, 75] ?_)
     simp only [go_sem]
     refine aC (aB (bG rfl (fun hc => ?_) (fun hc => ?_)))
     ·try simp only [go_sem] at hc
      have h := eC (by first | exact hc | omega | (simpa using hc) | (simp at hc ⊢; omega)) h
      refine cS (aC (aB (dT (aB (aN hF [1, 6, 11, 72, 73, 74] ?_)))))
      simp only [go_sem]
      obtain ⟨g0, h⟩ := aF h
      repeat (refine ⟨by first | with_reducible assumption | omega | (intros; first | with_reducible assumption | omega) | (simp only [go_sem] at *; first | with_reducible assumption | omega) | decide, ?_⟩)
      refine aC (aB (aD hF [1, 6, 72, 73, 74, 88] ?_))
      simp only [go_sem]
      obtain ⟨g0, h⟩ := aF h
      obtain ⟨g1, h⟩ := aF h
      repeat (refine ⟨by first | with_reducible assumption | omega | (intros; first | with_reducible assumption | omega) | (simp only [go_sem] at *; first | with_reducible assumption | omega) | (intro q0; (try have e1 := g1 (by first | exact q0 | omega | (simpa using q0))); first | assumption | omega) | decide, ?_⟩)
      refine aC (bG rfl (fun hc => ?_) (fun hc => ?_))
      ·try simp only [go_sem] at hc
       have h := eC (by first | exact hc | omega | (simpa using hc) | (simp at hc ⊢; omega)) h
       refine aB (aD hF [2] ?_)
       simp only [go_sem]
       obtain rfl := Option.some.inj h
       dsimp only [mZ] at hs14
       have h := hs14
       try dsimp only at h
       obtain rfl := Option.some.inj h
       refine aC (cY (kC (dF (dF (kC (dF (fG hF [.tmp 2] rfl rfl rfl ?_)))))))
       (try simp only [iB, aV, go_sem]) <;> first | rfl | (simp; done)
      ·try simp only [go_sem] at hc
       have h := eD (by first | exact hc | omega | (simpa using hc) | (simp at hc ⊢; omega)) h
       refine cS (bN (aC (aD hF [1, 6, 72, 73, 74] ?_)))
       simp only [go_sem]
       obtain ⟨g0, h⟩ := aF h
       try simp only [I64, I32] at g0
       repeat (refine ⟨by first | with_reducible assumption | omega | (intros; first | with_reducible assumption | omega) | (simp only [go_sem] at *; first | with_reducible assumption | omega) | decide, ?_⟩)
       obtain rfl := Option.some.inj h
       dsimp only [mZ] at hs14
       refine aS (fH [0, 1] rfl rfl ?_)
       simp only [ren, fY, jC, posOf, dL, go_sem]
       refine aQ ((x74_14 + (1 : Int))) hs14 rfl ?_
       ·(try simp only [fZ, eG, true_or, and_self, go_sem]) <;> (repeat' apply And.intro) <;> first | rfl | (left; rfl) | (right; rfl) | (left; simp only [go_sem]; done) | (right; simp only [go_sem]; done) | (simp; done) | (simp only [*]; done) | omega
     ·try simp only [go_sem] at hc
      have h := eD (by first | exact hc | omega | (simpa using hc) | (simp at hc ⊢; omega)) h
      obtain rfl := Option.some.inj h
      dsimp only [mZ] at hs14
      have h := hs14
      try dsimp only at h
      refine nM (cP (cP (eK (aS (aQ (()) h rfl ?_)))))
      ·(try simp only [fZ, eG, true_or, and_self, go_sem]) <;> (repeat' apply And.intro) <;> first | rfl | (left; rfl) | (right; rfl) | (left; simp only [go_sem]; done) | (right; simp only [go_sem]; done) | (simp; done) | (simp only [*]; done) | omega
    ·rintro u h
     try dsimp only at h
     simp only [go_sem]
     unfold tT at h
     refine aB (aB (aD hF [1, 6, 91, 92, 93] ?_))
     simp only [go_sem]
     refine aC (dT (nX (D := Int) [91, 92] (fun d => [(1, .ptr 0 []), (6, .ptr 1 []), (93, .val (.i .i64) d)]) (fun d => [.inr (.box 5 (.val (.pair .str (.pair (.sl (.pair .str (.pair (.pair .str (.pair .str .unit)) (.pair .expr .unit)))) (.pair (.sl (.pair .str (.pair (.pair .str (.pair .str .unit)) .unit))) (.pair (.sl .str) (.pair (.sl (.pair .str (.pair .expr .unit))) .unit))))) s_0)), .inr (.box 1 (.val (.sl .str) ((bL F ([(((aW F s_0).getD (([] : List (List Nat)), ([] : List (List Nat)), ([] : List (List Nat)), ())).1), ((((aW F s_0).getD (([] : List (List Nat)), ([] : List (List Nat)), ([] : List (List Nat)), ())).2).1), (((((aW F s_0).getD (([] : List (List Nat)), ([] : List (List Nat)), ([] : List (List Nat)), ())).2).2).1)] : List (List (List Nat)))).getD ([] : List (List Nat)))))]) h ?_ ?_ ?_))
     ·first | rfl | (simp only [go_sem]; done)
     ·(try simp only [fZ, eG, true_or, and_self, go_sem]) <;> (repeat' apply And.intro) <;> first | rfl | (left; rfl) | (right; rfl) | (left; simp only [go_sem]; done) | (right; simp only [go_sem]; done) | (simp; done) | (simp only [*]; done) | omega
     rintro x93_11 s20 h hs20
     simp only [go_sem]
     try dsimp only at h
     unfold zL at h
     refine aB (aD hF [1, 6, 91, 92, 93, 94] ?_)
     simp only [go_sem]
     refine aC (aB (bG rfl (fun hc => ?_) (fun hc => ?_)))
     ·try simp only [go_sem] at hc
      have h := eC (by first | exact hc | omega | (simpa using hc) | (simp at hc ⊢; omega)) h
      refine cS (aC (aB (dT (aB (aN hF [1, 6, 13, 91, 92, 93] ?_)))))
      simp only [go_sem]
      obtain ⟨g0, h⟩ := aF h
      repeat (refine ⟨by first | with_reducible assumption | omega | (intros; first | with_reducible assumption | omega) | (simp only [go_sem] at *; first | with_reducible assumption | omega) | decide, ?_⟩)
      refine aC (aB (aD hF [1, 6, 91, 92, 93, 100] ?_))
      simp only [go_sem]
      obtain ⟨g0, h⟩ := aF h
      repeat (refine ⟨by first | with_reducible assumption | omega | (intros; first | with_reducible assumption | omega) | (simp only [go_sem] at *; first | with_reducible assumption | omega) | decide, ?_⟩)
      refine aC (bG rfl (fun hc => ?_) (fun hc => ?_))
      ·try simp only [go_sem] at hc
       have h := eC (by first | exact hc | omega | (simpa using hc) | (simp at hc ⊢; omega)) h
       refine aB (aD hF [2] ?_)
       simp only [go_sem]
       obtain rfl := Option.some.inj h
       dsimp only [mZ] at hs20
       have h := hs20
       try dsimp only at h
       obtain rfl := Option.some.inj h
       refine aC (cY (kC (dF (dF (kC (dF (fG hF [.tmp 2] rfl rfl rfl ?_)))))))
       (try simp only [iB, aV, go_sem]) <;> first | rfl | (simp; done)
      ·try simp only [go_sem] at hc
       have h := eD (by first | exact hc | omega | (simpa using hc) | (simp at hc ⊢; omega)) h
       refine cS (bN (aC (aD hF [1, 6, 91, 92, 93] ?_)))
       simp only [go_sem]
       obtain ⟨g0, h⟩ := aF h
       try simp only [I64, I32] at g0
       repeat (refine ⟨by first | with_reducible assumption | omega | (intros; first | with_reducible assumption | omega) | (simp only [go_sem] at *; first | with_reducible assumption | omega) | decide, ?_⟩)
       obtain rfl := Option.some.inj h
       dsimp only [mZ] at hs20
       refine aS (fH [0, 1] rfl rfl ?_)
       simp only [ren, fY, jC, posOf, dL, go_sem]
       refine aQ ((x93_11 + (1 : Int))) hs20 rfl ?_
       ·(try simp only [fZ, eG, true_or, and_self, go_sem]) <;> (repeat' apply And.intro) <;> first | rfl | (left; rfl) | (right; rfl) | (left; simp only [go_sem]; done) | (right; simp only [go_sem]; done) | (simp; done) | (simp only [*]; done) | omega
     ·try simp only [go_sem] at hc
      have h := eD (by first | exact hc | omega | (simpa using hc) | (simp at hc ⊢; omega)) h
      obtain rfl := Option.some.inj h
      dsimp only [mZ] at hs20
      have h := hs20
      try dsimp only at h
      refine nM (cP (cP (eK (aC (aB (wB 1 rfl ?_))))))
      simp only [go_sem]
      refine aD hF [2] ?_
      simp only [go_sem]
      obtain ⟨g0, h⟩ := aF h
      repeat (refine ⟨by first | with_reducible assumption | omega | (intros; first | with_reducible assumption | omega) | (simp only [go_sem] at *; first | with_reducible assumption | omega) | decide, ?_⟩)
      obtain rfl := Option.some.inj h
      refine aC (cY (fG hF [.tmp 2] rfl rfl rfl ?_))
      (try simp only [iB, aV, go_sem]) <;> first | rfl | (simp; done)
attribute [go_sem] rN
noncomputable def wS (F : Md) (s_0 : (Int × (Int × (Int × (Int × ((List Nat) × ((List Nat) × ((List Nat) × ((List Nat) × ((List ((List Nat) × ((List ((List Nat) × (((List Nat) × ((List Nat) × Unit)) × (Ex × Unit)))) × ((List ((List Nat) × (((List Nat) × ((List Nat) × Unit)) × Unit))) × ((List (List Nat)) × ((List ((List Nat) × (Ex × Unit))) × Unit)))))) × ((List ((List Nat) × ((List Nat) × ((List Nat) × ((List Nat) × Unit))))) × Unit))))))))))) (sub_1 : (List Nat)) (x10_5 : Int) : Option ((Int) ⊕ ((Unit) ⊕ Int)) :=
 if x10_5 < ((((((((((((s_0.2).2).2).2).2).2).2).2).1).length) : Nat) : Int) then ck (0 ≤ x10_5 ∧ x10_5 < ((((((((((((s_0.2).2).2).2).2).2).2).2).1).length) : Nat) : Int)) (if (((((((((((s_0.2).2).2).2).2).2).2).2).1).getD (x10_5.toNat) (([] : List Nat), ([] : List ((List Nat) × (((List Nat) × ((List Nat) × Unit)) × (Ex × Unit)))), ([] : List ((List Nat) × (((List Nat) × ((List Nat) × Unit)) × Unit))), ([] : List (List Nat)), ([] : List ((List Nat) × (Ex × Unit))), ())).1) = sub_1 then some (.inr (.inr x10_5)) else ck (I64 (x10_5 + (1 : Int))) (some (.inl (x10_5 + (1 : Int))))) else some (.inr (.inl ()))
noncomputable def hO (F : Md) (s_0 : (Int × (Int × (Int × (Int × ((List Nat) × ((List Nat) × ((List Nat) × ((List Nat) × ((List ((List Nat) × ((List ((List Nat) × (((List Nat) × ((List Nat) × Unit)) × (Ex × Unit)))) × ((List ((List Nat) × (((List Nat) × ((List Nat) × Unit)) × Unit))) × ((List (List Nat)) × ((List ((List Nat) × (Ex × Unit))) × Unit)))))) × ((List ((List Nat) × ((List Nat) × ((List Nat) × ((List Nat) × Unit))))) × Unit))))))))))) (sub_1 : (List Nat)) : Option Int :=
 (dJ F (fun d : Int => wS F s_0 sub_1 d) (0 : Int)).bind (fun e => match e with | (.inl e) => some (-1 : Int) | (.inr e) => some e)
def aEi : PlR := ⟨[(0, .B [1, 2]), (1, .A [1, 8, 9, 10]), (2, .A [1, 8, 9, 10, 11]), (3, .B [1, 5, 6, 8, 9, 10]), (4, .A [1, 5, 8, 9, 10, 18]), (5, .A [4]), (6, .A [1, 8, 9, 10]), (7, .A [4])], []⟩
def aGe : Ty := .pair (.pair (.i .i64) (.pair (.i .i64) (.pair (.i .i64) (.pair (.i .i64) (.pair .str (.pair .str (.pair .str (.pair .str (.pair (.sl (.pair .str (.pair (.sl (.pair .str (.pair (.pair .str (.pair .str .unit)) (.pair .expr .unit)))) (.pair (.sl (.pair .str (.pair (.pair .str (.pair .str .unit)) .unit))) (.pair (.sl .str) (.pair (.sl (.pair .str (.pair .expr .unit))) .unit)))))) (.pair (.sl (.pair .str (.pair .str (.pair .str (.pair .str .unit))))) .unit)))))))))) (.pair .str .unit)
noncomputable def oE (F : Md) : aG := mSpec aGe (.one (.i .i64)) (fun x => hO F x.1 x.2.1)
noncomputable def aMl (F : Md) : List (FuncId × aG) := []
theorem aMm (F : Md) : bI Tryz.prog GL (aMl F) := .nil
attribute [go_sem] aGe aEi
set_option maxHeartbeats 4000000 in
theorem aEj (F : Md) : FOK Tryz.prog GL 62 (oE F) := by
 refine bK (bD (aMm F)) mix Tryz.func62 rfl (by kernel_rfl) (by decide) aEi fun w0 S x Θ hw h hF => ?_
 obtain ⟨(s_0 : (Int × (Int × (Int × (Int × ((List Nat) × ((List Nat) × ((List Nat) × ((List Nat) × ((List ((List Nat) × ((List ((List Nat) × (((List Nat) × ((List Nat) × Unit)) × (Ex × Unit)))) × ((List ((List Nat) × (((List Nat) × ((List Nat) × Unit)) × Unit))) × ((List (List Nat)) × ((List ((List Nat) × (Ex × Unit))) × Unit)))))) × ((List ((List Nat) × ((List Nat) × ((List Nat) × ((List Nat) × Unit))))) × Unit))))))))))), (sub_1 : (List Nat)), u⟩ := x
 simp only [bP, go_sem]
 replace h : sat (hO F s_0 sub_1) _ := h
 unfold hO at h
 refine aDF [] rfl rfl ?_
 simp only [go_sem]
 refine bW hF (D := Int) [1, 8, 9] (fun d => [(10, .val (.i .i64) d)]) (fun d => []) h rfl (by simp only [go_sem]) ?_
 rintro x10_5 A2 T2 hA2 hE2 h
 simp only [go_sem]
 replace h : sat (wS F s_0 sub_1 x10_5) _ := h
 unfold wS at h
 refine eI h (fun hc h => ?_) fun hc h => ?_
 ·refine aU h fun g0 h => ?_
  refine dU h (fun hc h => ?_) fun hc h => ?_
  ·replace h := hE2 _ (aA h)
   try dsimp only at h
   exact aH hF [.tmp 4] rfl rfl rfl (aA h) (by simp only [aV, go_sem])
  ·refine aU h fun g0 h => ?_
   replace h := hA2 _ (aA h)
   refine fH [] rfl rfl ?_
   simp only [go_sem]
   exact aQ _ h rfl (by simp only [go_sem])
 ·replace h := hE2 _ (aA h)
  try dsimp only at h
  exact aH hF [.tmp 4] rfl rfl rfl (aA h) (by simp only [aV, go_sem])
attribute [go_sem] oE
noncomputable def pU (F : Md) (o_0 : ((List Nat) × (Ex × Unit))) (a1_1 : (List ((List Nat) × ((List Nat) × ((List Nat) × ((List Nat) × Unit)))))) : Option Bool :=
 ck ((0 : Int) < (((a1_1.length) : Nat) : Int)) (some (decide ((o_0.1) = (((((a1_1.getD (0 : Nat) (([] : List Nat), ([] : List Nat), ([] : List Nat), ([] : List Nat), ())).2).2).2).1))))
def aAs : PlR := ⟨[(0, .B [1, 2]), (1, .A [3])], []⟩
def aBf : Ty := .pair (.pair .str (.pair .expr .unit)) (.pair (.rp (.sl (.pair .str (.pair .str (.pair .str (.pair .str .unit)))))) .unit)
noncomputable def oL (F : Md) : aG := mSpec aBf (.one .bool) (fun x => pU F x.1 x.2.1)
noncomputable def aG7 (F : Md) : List (FuncId × aG) := []
theorem aG8 (F : Md) : bI Tryz.prog GL (aG7 F) := .nil
attribute [go_sem] aBf aAs
set_option maxHeartbeats 4000000 in
theorem aGf (F : Md) : FOK Tryz.prog GL 141 (oL F) := by
 refine bK (bD (aG8 F)) mix Tryz.func141 rfl (by kernel_rfl) (by decide) aAs fun w0 S x Θ hw h hF => ?_
 obtain ⟨(o_0 : ((List Nat) × (Ex × Unit))), (a1_1 : (List ((List Nat) × ((List Nat) × ((List Nat) × ((List Nat) × Unit)))))), u⟩ := x
 simp only [bP, go_sem]
 replace h : sat (pU F o_0 a1_1) _ := h
 unfold pU at h
 refine aU h fun g0 h => ?_
 exact aH hF [.tmp 3] rfl rfl rfl (aA h) (by simp only [aV, go_sem])
attribute [go_sem] oL
noncomputable def dE (F : Md) (s_0 : (List ((List Nat) × (Ex × Unit)))) (f_1 : ((List ((List Nat) × ((List Nat) × ((List Nat) × ((List Nat) × Unit))))) × Unit)) (x8_14 : Int) : Option ((Int) ⊕ ((Unit) ⊕ Int)) :=
 if x8_14 < (((s_0.length) : Nat) : Int) then ck (0 ≤ x8_14 ∧ x8_14 < (((s_0.length) : Nat) : Int)) ((pU F (s_0.getD (x8_14.toNat) (([] : List Nat), (Ex.mk 0 [] []), ())) (f_1.1)).bind (fun v_27 => if v_27 = true then some (.inr (.inr x8_14)) else ck (I64 (x8_14 + (1 : Int))) (some (.inl (x8_14 + (1 : Int)))))) else some (.inr (.inl ()))
noncomputable def cM (F : Md) (s_0 : (List ((List Nat) × (Ex × Unit)))) (f_1 : ((List ((List Nat) × ((List Nat) × ((List Nat) × ((List Nat) × Unit))))) × Unit)) : Option Int :=
 (dJ F (fun d : Int => dE F s_0 f_1 d) (0 : Int)).bind (fun e => match e with | (.inl e) => some (-1 : Int) | (.inr e) => some e)
def fL : PlR := ⟨[(0, .A [0, 1]), (1, .A [0, 1, 7, 8]), (2, .A [0, 1, 7, 8, 9]), (3, .A [0, 1, 5, 7, 8]), (4, .A [0, 1, 5, 7, 8, 16]), (5, .A [4]), (6, .A [0, 1, 7, 8]), (7, .A [4])], []⟩
def fU : Ty := .pair (.sl (.pair .str (.pair .expr .unit))) (.pair (.clo 141 (.pair (.rp (.sl (.pair .str (.pair .str (.pair .str (.pair .str .unit)))))) .unit)) .unit)
noncomputable def cJ (F : Md) : aG := mSpec fU (.one (.i .i64)) (fun x => cM F x.1 x.2.1)
noncomputable def fV (F : Md) : List (FuncId × aG) := [(141, (oL F))]
theorem lM (F : Md) : bI Tryz.prog GL (fV F) := .cons (aGf F) (by kernel_rfl) (.nil)
theorem jX (F : Md) : gam (fV F) 141 = some (oL F) := rfl
attribute [go_sem] fU fL jX
set_option maxHeartbeats 4000000 in
theorem lF (F : Md) : FOK Tryz.prog GL 204 (cJ F) := by
 refine bK (bD (lM F)) mix Tryz.func204 rfl (by kernel_rfl) (by decide) fL fun w0 S x Θ hw h hF => ?_
 obtain ⟨(s_0 : (List ((List Nat) × (Ex × Unit)))), (f_1 : ((List ((List Nat) × ((List Nat) × ((List Nat) × ((List Nat) × Unit))))) × Unit)), u⟩ := x
 simp only [bP, go_sem]
 replace h : sat (cM F s_0 f_1) _ := h
 unfold cM at h
 refine bW hF (D := Int) [0, 1, 7] (fun d => [(8, .val (.i .i64) d)]) (fun d => []) h rfl (by simp only [go_sem]) ?_
 rintro x8_14 A2 T2 hA2 hE2 h
 simp only [go_sem]
 replace h : sat (dE F s_0 f_1 x8_14) _ := h
 unfold dE at h
 refine eI h (fun hc h => ?_) fun hc h => ?_
 ·refine aU h fun g0 h => ?_
  obtain ⟨v_27, hv, h⟩ := aL h
  try simp only [hv, go_sem]
  refine aHr h (fun hc h => ?_) fun hc h => ?_
  ·replace h := hE2 _ (aA h)
   try dsimp only at h
   exact aH hF [.tmp 4] rfl rfl rfl (aA h) (by simp only [aV, go_sem])
  ·refine aU h fun g0 h => ?_
   replace h := hA2 _ (aA h)
   exact aQ _ h rfl (by simp only [go_sem])
 ·replace h := hE2 _ (aA h)
  try dsimp only at h
  exact aH hF [.tmp 4] rfl rfl rfl (aA h) (by simp only [aV, go_sem])
attribute [go_sem] cJ
noncomputable def bT (F : Md) (s_0 : (List ((List Nat) × (Ex × Unit)))) (f_1 : ((List ((List Nat) × ((List Nat) × ((List Nat) × ((List Nat) × Unit))))) × Unit)) : Option Bool :=
 (cM F s_0 f_1).bind (fun v_6 => some (decide ((0 : Int) ≤ v_6)))
def eO : PlR := ⟨[(0, .A [0, 1]), (1, .A [4])], []⟩
def eY : Ty := .pair (.sl (.pair .str (.pair .expr .unit))) (.pair (.clo 141 (.pair (.rp (.sl (.pair .str (.pair .str (.pair .str (.pair .str .unit)))))) .unit)) .unit)
noncomputable def cE (F : Md) : aG := mSpec eY (.one .bool) (fun x => bT F x.1 x.2.1)
noncomputable def eZ (F : Md) : List (FuncId × aG) := [(204, (cJ F))]
theorem kP (F : Md) : bI Tryz.prog GL (eZ F) := .cons (lF F) (by kernel_rfl) (.nil)
theorem jB (F : Md) : gam (eZ F) 204 = some (cJ F) := rfl
attribute [go_sem] eY eO jB
set_option maxHeartbeats 4000000 in
theorem jY (F : Md) : FOK Tryz.prog GL 139 (cE F) := by
 refine bK (bD (kP F)) mix Tryz.func139 rfl (by kernel_rfl) (by decide) eO fun w0 S x Θ hw h hF => ?_
 obtain ⟨(s_0 : (List ((List Nat) × (Ex × Unit)))), (f_1 : ((List ((List Nat) × ((List Nat) × ((List Nat) × ((List Nat) × Unit))))) × Unit)), u⟩ := x
 simp only [bP, go_sem]
 replace h : sat (bT F s_0 f_1) _ := h
 unfold bT at h
 obtain ⟨v_6, hv, h⟩ := aL h
 try simp only [hv, go_sem]
 exact aH hF [.tmp 4] rfl rfl rfl (aA h) (by simp only [aV, go_sem])
attribute [go_sem] cE
noncomputable def tX (F : Md) (s_0 : (Int × (Int × (Int × (Int × ((List Nat) × ((List Nat) × ((List Nat) × ((List Nat) × ((List ((List Nat) × ((List ((List Nat) × (((List Nat) × ((List Nat) × Unit)) × (Ex × Unit)))) × ((List ((List Nat) × (((List Nat) × ((List Nat) × Unit)) × Unit))) × ((List (List Nat)) × ((List ((List Nat) × (Ex × Unit))) × Unit)))))) × ((List ((List Nat) × ((List Nat) × ((List Nat) × ((List Nat) × Unit))))) × Unit))))))))))) (x14_42 : Int) (x21_83 : Int) (l_84 : (List ((List Nat) × ((List Nat) × ((List Nat) × ((List Nat) × Unit)))))) : Option ((Int × (List ((List Nat) × ((List Nat) × ((List Nat) × ((List Nat) × Unit)))))) ⊕ (((List ((List Nat) × ((List Nat) × ((List Nat) × ((List Nat) × Unit)))))) ⊕ Bool)) :=
 if x21_83 < (((((((((((((((((s_0.2).2).2).2).2).2).2).2).1).getD (x14_42.toNat) (([] : List Nat), ([] : List ((List Nat) × (((List Nat) × ((List Nat) × Unit)) × (Ex × Unit)))), ([] : List ((List Nat) × (((List Nat) × ((List Nat) × Unit)) × Unit))), ([] : List (List Nat)), ([] : List ((List Nat) × (Ex × Unit))), ())).2).2).2).1).length) : Nat) : Int) then ck (0 ≤ x21_83 ∧ x21_83 < (((((((((((((((((s_0.2).2).2).2).2).2).2).2).1).getD (x14_42.toNat) (([] : List Nat), ([] : List ((List Nat) × (((List Nat) × ((List Nat) × Unit)) × (Ex × Unit)))), ([] : List ((List Nat) × (((List Nat) × ((List Nat) × Unit)) × Unit))), ([] : List (List Nat)), ([] : List ((List Nat) × (Ex × Unit))), ())).2).2).2).1).length) : Nat) : Int)) (ck ((¬ ((((l_84.length) : Nat) : Int) = (0 : Int)) → ((0 : Int) < (((l_84.length) : Nat) : Int)))) (ck ((¬ (((((l_84.length) : Nat) : Int) = (0 : Int)) ∨ (¬ (((l_84.getD (0 : Nat) (([] : List Nat), ([] : List Nat), ([] : List Nat), ([] : List Nat), ())).1) = (((((((((((s_0.2).2).2).2).2).2).2).2).1).getD (x14_42.toNat) (([] : List Nat), ([] : List ((List Nat) × (((List Nat) × ((List Nat) × Unit)) × (Ex × Unit)))), ([] : List ((List Nat) × (((List Nat) × ((List Nat) × Unit)) × Unit))), ([] : List (List Nat)), ([] : List ((List Nat) × (Ex × Unit))), ())).1)))) → ((0 : Int) < (((l_84.length) : Nat) : Int)))) (if (((((l_84.length) : Nat) : Int) = (0 : Int)) ∨ (¬ (((l_84.getD (0 : Nat) (([] : List Nat), ([] : List Nat), ([] : List Nat), ([] : List Nat), ())).1) = (((((((((((s_0.2).2).2).2).2).2).2).2).1).getD (x14_42.toNat) (([] : List Nat), ([] : List ((List Nat) × (((List Nat) × ((List Nat) × Unit)) × (Ex × Unit)))), ([] : List ((List Nat) × (((List Nat) × ((List Nat) × Unit)) × Unit))), ([] : List (List Nat)), ([] : List ((List Nat) × (Ex × Unit))), ())).1)))) ∨ (¬ ((((l_84.getD (0 : Nat) (([] : List Nat), ([] : List Nat), ([] : List Nat), ([] : List Nat), ())).2).1) = (((((((((((((((s_0.2).2).2).2).2).2).2).2).1).getD (x14_42.toNat) (([] : List Nat), ([] : List ((List Nat) × (((List Nat) × ((List Nat) × Unit)) × (Ex × Unit)))), ([] : List ((List Nat) × (((List Nat) × ((List Nat) × Unit)) × Unit))), ([] : List (List Nat)), ([] : List ((List Nat) × (Ex × Unit))), ())).2).2).2).1).getD (x21_83.toNat) ([] : List Nat)))) then some (.inr (.inr false)) else ck ((0 : Int) < (((l_84.length) : Nat) : Int)) ((hO F s_0 ((((l_84.getD (0 : Nat) (([] : List Nat), ([] : List Nat), ([] : List Nat), ([] : List Nat), ())).2).2).1)).bind (fun v_99 => ck ((¬ (v_99 < (0 : Int)) → (0 ≤ v_99 ∧ v_99 < ((((((((((((s_0.2).2).2).2).2).2).2).2).1).length) : Nat) : Int)))) (ck ((¬ (v_99 < (0 : Int)) → (((bT F (((((((((((((((s_0.2).2).2).2).2).2).2).2).1).getD (v_99.toNat) (([] : List Nat), ([] : List ((List Nat) × (((List Nat) × ((List Nat) × Unit)) × (Ex × Unit)))), ([] : List ((List Nat) × (((List Nat) × ((List Nat) × Unit)) × Unit))), ([] : List (List Nat)), ([] : List ((List Nat) × (Ex × Unit))), ())).2).2).2).2).1) (l_84, ())).isSome = true)))) (if (v_99 < (0 : Int)) ∨ (¬ (((bT F (((((((((((((((s_0.2).2).2).2).2).2).2).2).1).getD (v_99.toNat) (([] : List Nat), ([] : List ((List Nat) × (((List Nat) × ((List Nat) × Unit)) × (Ex × Unit)))), ([] : List ((List Nat) × (((List Nat) × ((List Nat) × Unit)) × Unit))), ([] : List (List Nat)), ([] : List ((List Nat) × (Ex × Unit))), ())).2).2).2).2).1) (l_84, ())).getD false) = true)) then some (.inr (.inr false)) else ck ((1 : Int) ≤ (((l_84.length) : Nat) : Int)) (ck (I64 (x21_83 + (1 : Int))) (some (.inl ((x21_83 + (1 : Int)), (List.drop (1 : Nat) l_84)))))))))))) else some (.inr (.inl l_84))
noncomputable def tY (F : Md) (s_0 : (Int × (Int × (Int × (Int × ((List Nat) × ((List Nat) × ((List Nat) × ((List Nat) × ((List ((List Nat) × ((List ((List Nat) × (((List Nat) × ((List Nat) × Unit)) × (Ex × Unit)))) × ((List ((List Nat) × (((List Nat) × ((List Nat) × Unit)) × Unit))) × ((List (List Nat)) × ((List ((List Nat) × (Ex × Unit))) × Unit)))))) × ((List ((List Nat) × ((List Nat) × ((List Nat) × ((List Nat) × Unit))))) × Unit))))))))))) (x14_42 : Int) (l_43 : (List ((List Nat) × ((List Nat) × ((List Nat) × ((List Nat) × Unit)))))) : Option ((Int × (List ((List Nat) × ((List Nat) × ((List Nat) × ((List Nat) × Unit)))))) ⊕ (((List ((List Nat) × ((List Nat) × ((List Nat) × ((List Nat) × Unit)))))) ⊕ Bool)) :=
 if x14_42 < ((((((((((((s_0.2).2).2).2).2).2).2).2).1).length) : Nat) : Int) then ck (0 ≤ x14_42 ∧ x14_42 < ((((((((((((s_0.2).2).2).2).2).2).2).2).1).length) : Nat) : Int)) ((dJ F (fun d : Int × (List ((List Nat) × ((List Nat) × ((List Nat) × ((List Nat) × Unit))))) => tX F s_0 x14_42 d.1 d.2) ((0 : Int), l_43)).bind (fun e => match e with | (.inl e) => ck (I64 (x14_42 + (1 : Int))) (some (.inl ((x14_42 + (1 : Int)), e))) | (.inr e) => some (.inr (.inr e)))) else some (.inr (.inl l_43))
noncomputable def pB (F : Md) (s_0 : (Int × (Int × (Int × (Int × ((List Nat) × ((List Nat) × ((List Nat) × ((List Nat) × ((List ((List Nat) × ((List ((List Nat) × (((List Nat) × ((List Nat) × Unit)) × (Ex × Unit)))) × ((List ((List Nat) × (((List Nat) × ((List Nat) × Unit)) × Unit))) × ((List (List Nat)) × ((List ((List Nat) × (Ex × Unit))) × Unit)))))) × ((List ((List Nat) × ((List Nat) × ((List Nat) × ((List Nat) × Unit))))) × Unit))))))))))) : Option Bool :=
 (dJ F (fun d : Int × (List ((List Nat) × ((List Nat) × ((List Nat) × ((List Nat) × Unit))))) => tY F s_0 d.1 d.2) ((0 : Int), ((((((((((s_0.2).2).2).2).2).2).2).2).2).1))).bind (fun e => match e with | (.inl e) => some (decide ((((e.length) : Nat) : Int) = (0 : Int))) | (.inr e) => some e)
def aCp : PlR := ⟨[(0, .B [1]), (1, .B [1, 3]), (2, .A [1, 3, 12, 13, 14]), (3, .A [1, 3, 12, 13, 14, 15]), (4, .B [1, 3, 5, 12, 13, 14]), (5, .A [1, 3, 5, 12, 13, 14, 19, 20, 21]), (6, .A [1, 3, 5, 12, 13, 14, 19, 20, 21, 22]), (7, .A [1, 3, 5, 7, 12, 13, 14, 19, 20, 21]), (8, .A [1, 3, 5, 12, 13, 14, 19, 20, 21, 44]), (9, .A [2]), (10, .A [1, 3, 5, 8, 12, 13, 14, 19, 20, 21]), (11, .A [1, 3, 5, 12, 13, 14, 19, 20, 21, 63]), (12, .A [2]), (13, .B [1, 3, 5, 12, 13, 14, 19, 20, 21]), (14, .A [1, 3, 5, 12, 13, 14, 19, 20, 21]), (15, .A [1, 3, 12, 13, 14]), (16, .A [2])], []⟩
def aDo : Ty := .pair (.pair (.i .i64) (.pair (.i .i64) (.pair (.i .i64) (.pair (.i .i64) (.pair .str (.pair .str (.pair .str (.pair .str (.pair (.sl (.pair .str (.pair (.sl (.pair .str (.pair (.pair .str (.pair .str .unit)) (.pair .expr .unit)))) (.pair (.sl (.pair .str (.pair (.pair .str (.pair .str .unit)) .unit))) (.pair (.sl .str) (.pair (.sl (.pair .str (.pair .expr .unit))) .unit)))))) (.pair (.sl (.pair .str (.pair .str (.pair .str (.pair .str .unit))))) .unit)))))))))) .unit
noncomputable def rO (F : Md) : aG := mSpec aDo (.one .bool) (fun x => pB F x.1)
noncomputable def zN (F : Md) : List (FuncId × aG) := [(139, (cE F)), (62, (oE F))]
theorem aKw (F : Md) : bI Tryz.prog GL (zN F) := .cons (jY F) (by kernel_rfl) (.cons (aEj F) (by kernel_rfl) (.nil))
theorem aEV (F : Md) : gam (zN F) 139 = some (cE F) := rfl
theorem aGg (F : Md) : gam (zN F) 62 = some (oE F) := rfl
attribute [go_sem] aDo aCp aEV aGg
set_option maxHeartbeats 4000000 in
theorem aIJ (F : Md) : FOK Tryz.prog GL 69 (rO F) := by
 refine bK (bD (aKw F)) mix Tryz.func69 rfl (by kernel_rfl) (by decide) aCp fun w0 S x Θ hw h hF => ?_
 obtain ⟨(s_0 : (Int × (Int × (Int × (Int × ((List Nat) × ((List Nat) × ((List Nat) × ((List Nat) × ((List ((List Nat) × ((List ((List Nat) × (((List Nat) × ((List Nat) × Unit)) × (Ex × Unit)))) × ((List ((List Nat) × (((List Nat) × ((List Nat) × Unit)) × Unit))) × ((List (List Nat)) × ((List ((List Nat) × (Ex × Unit))) × Unit)))))) × ((List ((List Nat) × ((List Nat) × ((List Nat) × ((List Nat) × Unit))))) × Unit))))))))))), u⟩ := x
 simp only [bP, go_sem]
 replace h : sat (pB F s_0) _ := h
 unfold pB at h
 refine bW hF (D := Int × (List ((List Nat) × ((List Nat) × ((List Nat) × ((List Nat) × Unit)))))) [12, 13] (fun d => [(1, .ptr 0 []), (3, .ptr 1 []), (14, .val (.i .i64) d.1)]) (fun d => [.inr (.box 10 (.val (.pair (.i .i64) (.pair (.i .i64) (.pair (.i .i64) (.pair (.i .i64) (.pair .str (.pair .str (.pair .str (.pair .str (.pair (.sl (.pair .str (.pair (.sl (.pair .str (.pair (.pair .str (.pair .str .unit)) (.pair .expr .unit)))) (.pair (.sl (.pair .str (.pair (.pair .str (.pair .str .unit)) .unit))) (.pair (.sl .str) (.pair (.sl (.pair .str (.pair .expr .unit))) .unit)))))) (.pair (.sl (.pair .str (.pair .str (.pair .str (.pair .str .unit))))) .unit)))))))))) s_0)), .inr (.box 1 (.val (.sl (.pair .str (.pair .str (.pair .str (.pair .str .unit))))) d.2))]) h rfl (by simp only [go_sem]) ?_
 rintro ⟨x14_42, l_43⟩ A3 T3 hA3 hE3 h
 simp only [go_sem]
 replace h : sat (tY F s_0 x14_42 l_43) _ := h
 unfold tY at h
 refine eI h (fun hc h => ?_) fun hc h => ?_
 ·obtain ⟨g0, h⟩ := aM h
  repeat (refine ⟨by first | with_reducible assumption | omega | (intros; first | with_reducible assumption | omega) | (simp only [go_sem] at *; first | with_reducible assumption | omega) | decide, ?_⟩)
  refine bW hF (D := Int × (List ((List Nat) × ((List Nat) × ((List Nat) × ((List Nat) × Unit)))))) [12, 13, 14, 19, 20] (fun d => [(1, .ptr 0 []), (3, .ptr 1 []), (5, .ptr 2 []), (21, .val (.i .i64) d.1)]) (fun d => [.inr (.box 10 (.val (.pair (.i .i64) (.pair (.i .i64) (.pair (.i .i64) (.pair (.i .i64) (.pair .str (.pair .str (.pair .str (.pair .str (.pair (.sl (.pair .str (.pair (.sl (.pair .str (.pair (.pair .str (.pair .str .unit)) (.pair .expr .unit)))) (.pair (.sl (.pair .str (.pair (.pair .str (.pair .str .unit)) .unit))) (.pair (.sl .str) (.pair (.sl (.pair .str (.pair .expr .unit))) .unit)))))) (.pair (.sl (.pair .str (.pair .str (.pair .str (.pair .str .unit))))) .unit)))))))))) s_0)), .inr (.box 1 (.val (.sl (.pair .str (.pair .str (.pair .str (.pair .str .unit))))) d.2)), .inr (.box 5 (.val (.pair .str (.pair (.sl (.pair .str (.pair (.pair .str (.pair .str .unit)) (.pair .expr .unit)))) (.pair (.sl (.pair .str (.pair (.pair .str (.pair .str .unit)) .unit))) (.pair (.sl .str) (.pair (.sl (.pair .str (.pair .expr .unit))) .unit))))) ((((((((((s_0.2).2).2).2).2).2).2).2).1).getD (x14_42.toNat) (([] : List Nat), ([] : List ((List Nat) × (((List Nat) × ((List Nat) × Unit)) × (Ex × Unit)))), ([] : List ((List Nat) × (((List Nat) × ((List Nat) × Unit)) × Unit))), ([] : List (List Nat)), ([] : List ((List Nat) × (Ex × Unit))), ()))))]) h rfl (by simp only [go_sem]) ?_
  rintro ⟨x21_83, l_84⟩ A6 T6 hA6 hE6 h
  simp only [go_sem]
  replace h : sat (tX F s_0 x14_42 x21_83 l_84) _ := h
  unfold tX at h
  refine eI h (fun hc h => ?_) fun hc h => ?_
  ·obtain ⟨g0, h⟩ := aM h
   repeat (refine ⟨by first | with_reducible assumption | omega | (intros; first | with_reducible assumption | omega) | (simp only [go_sem] at *; first | with_reducible assumption | omega) | decide, ?_⟩)
   obtain ⟨g0, h⟩ := aM h
   obtain ⟨g1, h⟩ := aM h
   repeat (refine ⟨by first | with_reducible assumption | omega | (intros; first | with_reducible assumption | omega) | (simp only [go_sem] at *; first | with_reducible assumption | omega) | (intro q0; (try have e0 := g0 (by first | exact q0 | omega | (simpa using q0))); (try have e1 := g1 (by first | exact q0 | omega | (simpa using q0))); first | assumption | omega) | decide, ?_⟩)
   refine ⟨fun hc => ?_, fun hc => ?_⟩
   ·replace h := iV hc h
    replace h := hE6 _ (aA h)
    try dsimp only at h
    replace h := hE3 _ (aA h)
    try dsimp only at h
    exact aH hF [.tmp 2] rfl rfl rfl (aA h) (by simp only [aV, go_sem])
   ·replace h := iW hc h
    obtain ⟨g0, h⟩ := aM h
    repeat (refine ⟨by first | with_reducible assumption | omega | (intros; first | with_reducible assumption | omega) | (simp only [go_sem] at *; first | with_reducible assumption | omega) | decide, ?_⟩)
    obtain ⟨v_99, hv, h⟩ := aL h
    try simp only [hv, go_sem]
    obtain ⟨g0, h⟩ := aM h
    obtain ⟨g1, h⟩ := aM h
    repeat (refine ⟨by first | with_reducible assumption | omega | (intros; first | with_reducible assumption | omega) | (simp only [go_sem] at *; first | with_reducible assumption | omega) | (intro q0; (try have e0 := g0 (by first | exact q0 | omega | (simpa using q0))); (try have e1 := g1 (by first | exact q0 | omega | (simpa using q0))); first | assumption | omega) | decide, ?_⟩)
    refine ⟨fun hc => ?_, fun hc => ?_⟩
    ·replace h := iV (by first | exact hc | omega | (simpa using hc) | (simp at hc ⊢; omega)) h
     replace h := hE6 _ (aA h)
     try dsimp only at h
     replace h := hE3 _ (aA h)
     try dsimp only at h
     exact aH hF [.tmp 2] rfl rfl rfl (aA h) (by simp only [aV, go_sem])
    ·replace h := iW (by first | exact hc | omega | (simpa using hc) | (simp at hc ⊢; omega)) h
     obtain ⟨g0, h⟩ := aM h
     repeat (refine ⟨by first | with_reducible assumption | omega | (intros; first | with_reducible assumption | omega) | (simp only [go_sem] at *; first | with_reducible assumption | omega) | decide, ?_⟩)
     obtain ⟨g0, h⟩ := aM h
     try simp only [I64, I32] at g0
     repeat (refine ⟨by first | with_reducible assumption | omega | (intros; first | with_reducible assumption | omega) | (simp only [go_sem] at *; first | with_reducible assumption | omega) | decide, ?_⟩)
     replace h := hA6 _ (aA h)
     exact aQ _ h rfl (by simp only [go_sem])
  ·replace h := hE6 _ (aA h)
   try dsimp only at h
   obtain ⟨g0, h⟩ := aM h
   try simp only [I64, I32] at g0
   repeat (refine ⟨by first | with_reducible assumption | omega | (intros; first | with_reducible assumption | omega) | (simp only [go_sem] at *; first | with_reducible assumption | omega) | decide, ?_⟩)
   replace h := hA3 _ (aA h)
   refine fH [0, 1] rfl rfl ?_
   simp only [go_sem]
   exact aQ _ h rfl (by simp only [go_sem])
 ·replace h := hE3 _ (aA h)
  try dsimp only at h
  exact aH hF [.tmp 2] rfl rfl rfl (aA h) (by simp only [aV, go_sem])
attribute [go_sem] rO
noncomputable def tZ (F : Md) (s_0 : (Int × (Int × (Int × (Int × ((List Nat) × ((List Nat) × ((List Nat) × ((List Nat) × ((List ((List Nat) × ((List ((List Nat) × (((List Nat) × ((List Nat) × Unit)) × (Ex × Unit)))) × ((List ((List Nat) × (((List Nat) × ((List Nat) × Unit)) × Unit))) × ((List (List Nat)) × ((List ((List Nat) × (Ex × Unit))) × Unit)))))) × ((List ((List Nat) × ((List Nat) × ((List Nat) × ((List Nat) × Unit))))) × Unit))))))))))) (names_16 : (List (List Nat))) : Option (Bool) :=
 (oD F names_16).bind (fun v_20 => ck (((v_20 = true) → (((pB F s_0).isSome = true)))) (some (v_20 && ((pB F s_0).getD false))))
noncomputable def zO (F : Md) (s_0 : (Int × (Int × (Int × (Int × ((List Nat) × ((List Nat) × ((List Nat) × ((List Nat) × ((List ((List Nat) × ((List ((List Nat) × (((List Nat) × ((List Nat) × Unit)) × (Ex × Unit)))) × ((List ((List Nat) × (((List Nat) × ((List Nat) × Unit)) × Unit))) × ((List (List Nat)) × ((List ((List Nat) × (Ex × Unit))) × Unit)))))) × ((List ((List Nat) × ((List Nat) × ((List Nat) × ((List Nat) × Unit))))) × Unit))))))))))) (x24_23 : Int) (names_24 : (List (List Nat))) : Option ((Int × (List (List Nat))) ⊕ (((List (List Nat))) ⊕ Bool)) :=
 if x24_23 < ((((((((((((s_0.2).2).2).2).2).2).2).2).1).length) : Nat) : Int) then ck (0 ≤ x24_23 ∧ x24_23 < ((((((((((((s_0.2).2).2).2).2).2).2).2).1).length) : Nat) : Int)) ((tV F ((((((((((s_0.2).2).2).2).2).2).2).2).1).getD (x24_23.toNat) (([] : List Nat), ([] : List ((List Nat) × (((List Nat) × ((List Nat) × Unit)) × (Ex × Unit)))), ([] : List ((List Nat) × (((List Nat) × ((List Nat) × Unit)) × Unit))), ([] : List (List Nat)), ([] : List ((List Nat) × (Ex × Unit))), ()))).bind (fun v_37 => if ¬ (v_37 = true) then some (.inr (.inr false)) else ck (((names_24.length) + (1 : Nat)) * 16 ≤ 140737488355328) (ck (I64 (x24_23 + (1 : Int))) (some (.inl ((x24_23 + (1 : Int)), (names_24 ++ ([(((((((((((s_0.2).2).2).2).2).2).2).2).1).getD (x24_23.toNat) (([] : List Nat), ([] : List ((List Nat) × (((List Nat) × ((List Nat) × Unit)) × (Ex × Unit)))), ([] : List ((List Nat) × (((List Nat) × ((List Nat) × Unit)) × Unit))), ([] : List (List Nat)), ([] : List ((List Nat) × (Ex × Unit))), ())).1)] : List (List Nat))))))))) else some (.inr (.inl names_24))
noncomputable def bV (F : Md) (s_0 : (Int × (Int × (Int × (Int × ((List Nat) × ((List Nat) × ((List Nat) × ((List Nat) × ((List ((List Nat) × ((List ((List Nat) × (((List Nat) × ((List Nat) × Unit)) × (Ex × Unit)))) × ((List ((List Nat) × (((List Nat) × ((List Nat) × Unit)) × Unit))) × ((List (List Nat)) × ((List ((List Nat) × (Ex × Unit))) × Unit)))))) × ((List ((List Nat) × ((List Nat) × ((List Nat) × ((List Nat) × Unit))))) × Unit))))))))))) : Option Bool :=
 (rJ F s_0).bind (fun v_7 => if ((¬ (v_7 = true)) ∨ (((((((((((((s_0.2).2).2).2).2).2).2).2).1).length) : Nat) : Int) < (1 : Int))) ∨ ((4 : Int) < ((((((((((((s_0.2).2).2).2).2).2).2).2).1).length) : Nat) : Int)) then some false else (dJ F (fun d : Int × (List (List Nat)) => zO F s_0 d.1 d.2) ((0 : Int), ([] : List (List Nat)))).bind (fun e => match e with | (.inl e) => tZ F s_0 e | (.inr e) => some e))
def aGh : PlR := ⟨[(0, .B [1]), (1, .A [1, 20]), (2, .A [2]), (3, .A [1, 3]), (4, .A [1, 3, 22, 23, 24]), (5, .A [1, 3, 22, 23, 24, 25]), (6, .B [1, 3, 5, 22, 23, 24]), (7, .A [1, 3, 5, 22, 23, 24, 30]), (8, .A [2]), (9, .B [1, 3, 22, 23, 24]), (10, .A [1, 3, 22, 23, 24]), (11, .A [2])], [(7, 14)]⟩
def aH0 : Ty := .pair (.pair (.i .i64) (.pair (.i .i64) (.pair (.i .i64) (.pair (.i .i64) (.pair .str (.pair .str (.pair .str (.pair .str (.pair (.sl (.pair .str (.pair (.sl (.pair .str (.pair (.pair .str (.pair .str .unit)) (.pair .expr .unit)))) (.pair (.sl (.pair .str (.pair (.pair .str (.pair .str .unit)) .unit))) (.pair (.sl .str) (.pair (.sl (.pair .str (.pair .expr .unit))) .unit)))))) (.pair (.sl (.pair .str (.pair .str (.pair .str (.pair .str .unit))))) .unit)))))))))) .unit
noncomputable def pV (F : Md) : aG := mSpec aH0 (.one .bool) (fun x => bV F x.1)
noncomputable def wF (F : Md) : List (FuncId × aG) := [(66, (pM F)), (67, (rN F)), (68, (mW F)), (69, (rO F))]
theorem aNk (F : Md) : bI Tryz.prog GL (wF F) := .cons (aG0 F) (by kernel_rfl) (.cons (aII F) (by kernel_rfl) (.cons (aDf F) (by kernel_rfl) (.cons (aIJ F) (by kernel_rfl) (.nil))))
theorem aKx (F : Md) : gam (wF F) 66 = some (pM F) := rfl
theorem aKy (F : Md) : gam (wF F) 67 = some (rN F) := rfl
theorem aKz (F : Md) : gam (wF F) 68 = some (mW F) := rfl
theorem aKA (F : Md) : gam (wF F) 69 = some (rO F) := rfl
attribute [go_sem] aH0 aGh aKx aKy aKz aKA
set_option maxHeartbeats 4000000 in
theorem aGi (F : Md) : FOK Tryz.prog GL 28 (pV F) := by
 refine bK (bD (aNk F)) mix Tryz.func28 rfl (by kernel_rfl) (by decide) aGh fun w0 S x Θ hw h hF => ?_
 obtain ⟨(s_0 : (Int × (Int × (Int × (Int × ((List Nat) × ((List Nat) × ((List Nat) × ((List Nat) × ((List ((List Nat) × ((List ((List Nat) × (((List Nat) × ((List Nat) × Unit)) × (Ex × Unit)))) × ((List ((List Nat) × (((List Nat) × ((List Nat) × Unit)) × Unit))) × ((List (List Nat)) × ((List ((List Nat) × (Ex × Unit))) × Unit)))))) × ((List ((List Nat) × ((List Nat) × ((List Nat) × ((List Nat) × Unit))))) × Unit))))))))))), u⟩ := x
 simp only [bP, go_sem]
 replace h : sat (bV F s_0) _ := h
 unfold bV at h
 obtain ⟨v_7, hv, h⟩ := aL h
 try simp only [hv, go_sem]
 refine ⟨fun hc => ?_, fun hc => ?_⟩
 ·replace h := iV (by first | exact hc | omega | (simpa using hc) | (simp at hc ⊢; omega)) h
  exact aH hF [.tmp 2] rfl rfl rfl (aA h) (by simp only [aV, go_sem])
 ·replace h := iW (by first | exact hc | omega | (simpa using hc) | (simp at hc ⊢; omega)) h
  refine eE hF (D := (List (List Nat))) (fun d => sat (tZ F s_0 d) Θ) [] (fun d => [(1, .ptr 0 []), (3, .own 1)]) (fun d => [.inr (.box 10 (.val (.pair (.i .i64) (.pair (.i .i64) (.pair (.i .i64) (.pair (.i .i64) (.pair .str (.pair .str (.pair .str (.pair .str (.pair (.sl (.pair .str (.pair (.sl (.pair .str (.pair (.pair .str (.pair .str .unit)) (.pair .expr .unit)))) (.pair (.sl (.pair .str (.pair (.pair .str (.pair .str .unit)) .unit))) (.pair (.sl .str) (.pair (.sl (.pair .str (.pair .expr .unit))) .unit)))))) (.pair (.sl (.pair .str (.pair .str (.pair .str (.pair .str .unit))))) .unit)))))))))) s_0)), .inr (.row 9 .str d)]) ?_ ?_
  ·simp only [go_sem]
   refine aBE 3 9 .str rfl ?_
   simp only [go_sem]
   refine bW hF (D := Int × (List (List Nat))) [22, 23] (fun d => [(1, .ptr 0 []), (3, .own 1), (24, .val (.i .i64) d.1)]) (fun d => [.inr (.box 10 (.val (.pair (.i .i64) (.pair (.i .i64) (.pair (.i .i64) (.pair (.i .i64) (.pair .str (.pair .str (.pair .str (.pair .str (.pair (.sl (.pair .str (.pair (.sl (.pair .str (.pair (.pair .str (.pair .str .unit)) (.pair .expr .unit)))) (.pair (.sl (.pair .str (.pair (.pair .str (.pair .str .unit)) .unit))) (.pair (.sl .str) (.pair (.sl (.pair .str (.pair .expr .unit))) .unit)))))) (.pair (.sl (.pair .str (.pair .str (.pair .str (.pair .str .unit))))) .unit)))))))))) s_0)), .inr (.row 9 .str d.2)]) h rfl (by simp only [go_sem]) ?_
   rintro ⟨x24_23, names_24⟩ A5 T5 hA5 hE5 h
   simp only [go_sem]
   replace h : sat (zO F s_0 x24_23 names_24) _ := h
   unfold zO at h
   refine eI h (fun hc h => ?_) fun hc h => ?_
   ·obtain ⟨g0, h⟩ := aM h
    repeat (refine ⟨by omega, ?_⟩)
    obtain ⟨v_37, hv, h⟩ := aL h
    try simp only [hv, go_sem]
    refine aAz h (fun hc h => ?_) fun hc h => ?_
    ·replace h := hE5 _ (aA h)
     try dsimp only at h
     exact aH hF [.tmp 2] rfl rfl rfl (aA h) (by simp only [aV, go_sem])
    ·obtain ⟨g0, h⟩ := aM h
     repeat (refine ⟨by omega, ?_⟩)
     obtain ⟨g0, h⟩ := aM h
     repeat (refine ⟨by omega, ?_⟩)
     replace h := hA5 _ (aA h)
     refine fH [0, 3] rfl rfl ?_
     simp only [go_sem]
     exact aQ _ h rfl (by simp only [go_sem])
   ·replace h := hE5 _ (aA h)
    try dsimp only at h
    exact aQ (names_24) h rfl (by simp only [go_sem])
  ·rintro names_16 h
   simp only [go_sem]
   replace h : sat (tZ F s_0 names_16) _ := h
   unfold tZ at h
   obtain ⟨v_20, hv, h⟩ := aL h
   try simp only [hv, go_sem]
   obtain ⟨g0, h⟩ := aM h
   repeat (refine ⟨by omega, ?_⟩)
   exact aH hF [.tmp 2] rfl rfl rfl (aA h) (by simp only [aV, go_sem])
attribute [go_sem] pV
end Nu
end Go.Proofs
