import Derived.Test.YtabdejmolnikaaaGreatDoorZS2
import Derived.Lib.ItoaNum
set_option linter.unusedVariables false
set_option linter.unusedSimpArgs false
namespace Go.Proofs
open Go.Vc
set_option maxRecDepth 20000
namespace Nu
def nO : ByteArray := ⟨⟨48 :: 48 :: 48 :: 48 :: 48 :: 48 :: 48 :: 48 :: 48 :: 48 :: 48 :: 48 :: 48 :: 48 :: 48 :: 48 :: 48 :: 48 :: 48 :: 48 :: 48 :: 48 :: 48 :: 48 :: 48 :: 48 :: 48 :: 48 :: 48 :: 48 :: 48 :: 48 :: 48 :: 48 :: 48 :: 48 :: 48 :: 48 :: 48 :: 48 :: 48 :: 48 :: 48 :: 48 :: 48 :: 48 :: 48 :: 48 :: 48 :: 48 :: 48 :: 48 :: 48 :: 48 :: 48 :: 48 :: 48 :: 48 :: 48 :: 48 :: 48 :: 48 :: 48 :: 48 :: []⟩⟩
theorem aHM : (⟨⟨48 :: 48 :: 48 :: 48 :: 48 :: 48 :: 48 :: 48 :: 48 :: 48 :: 48 :: 48 :: 48 :: 48 :: 48 :: 48 :: 48 :: 48 :: 48 :: 48 :: 48 :: 48 :: 48 :: 48 :: 48 :: 48 :: 48 :: 48 :: 48 :: 48 :: 48 :: 48 :: 48 :: 48 :: 48 :: 48 :: 48 :: 48 :: 48 :: 48 :: 48 :: 48 :: 48 :: 48 :: 48 :: 48 :: 48 :: 48 :: 48 :: 48 :: 48 :: 48 :: 48 :: 48 :: 48 :: 48 :: 48 :: 48 :: 48 :: 48 :: 48 :: 48 :: 48 :: 48 :: []⟩⟩ : ByteArray) = nO := rfl
attribute [go_sem] aHM
def pY : ByteArray := ⟨⟨45 :: 45 :: 45 :: 45 :: 45 :: 45 :: 45 :: 45 :: 45 :: 45 :: 45 :: 45 :: 45 :: 45 :: 45 :: 45 :: 45 :: 45 :: 45 :: 45 :: 45 :: 45 :: 45 :: 45 :: 45 :: 45 :: 45 :: 45 :: 45 :: 45 :: 45 :: 45 :: 45 :: 45 :: 45 :: 45 :: 45 :: 45 :: 45 :: 45 :: 45 :: 45 :: 45 :: 45 :: 45 :: 45 :: 45 :: 45 :: 45 :: 45 :: 45 :: 45 :: 45 :: 45 :: 45 :: 45 :: 45 :: 45 :: 45 :: 45 :: 45 :: 45 :: 45 :: 45 :: 45 :: 45 :: 45 :: 45 :: 45 :: 45 :: 45 :: 45 :: 45 :: 45 :: 45 :: 45 :: 45 :: 45 :: 45 :: 45 :: 45 :: 45 :: 45 :: 45 :: 45 :: 45 :: 45 :: 45 :: 45 :: 45 :: 45 :: 45 :: 45 :: 45 :: 45 :: 45 :: 45 :: 45 :: 45 :: 45 :: 45 :: 45 :: 45 :: 45 :: 45 :: 45 :: 45 :: 45 :: 45 :: 45 :: 45 :: 45 :: 45 :: 45 :: 45 :: 45 :: 45 :: 45 :: 45 :: 45 :: 45 :: 45 :: 45 :: 45 :: 45 :: 45 :: 45 :: 45 :: []⟩⟩
theorem aHN : (⟨⟨45 :: 45 :: 45 :: 45 :: 45 :: 45 :: 45 :: 45 :: 45 :: 45 :: 45 :: 45 :: 45 :: 45 :: 45 :: 45 :: 45 :: 45 :: 45 :: 45 :: 45 :: 45 :: 45 :: 45 :: 45 :: 45 :: 45 :: 45 :: 45 :: 45 :: 45 :: 45 :: 45 :: 45 :: 45 :: 45 :: 45 :: 45 :: 45 :: 45 :: 45 :: 45 :: 45 :: 45 :: 45 :: 45 :: 45 :: 45 :: 45 :: 45 :: 45 :: 45 :: 45 :: 45 :: 45 :: 45 :: 45 :: 45 :: 45 :: 45 :: 45 :: 45 :: 45 :: 45 :: 45 :: 45 :: 45 :: 45 :: 45 :: 45 :: 45 :: 45 :: 45 :: 45 :: 45 :: 45 :: 45 :: 45 :: 45 :: 45 :: 45 :: 45 :: 45 :: 45 :: 45 :: 45 :: 45 :: 45 :: 45 :: 45 :: 45 :: 45 :: 45 :: 45 :: 45 :: 45 :: 45 :: 45 :: 45 :: 45 :: 45 :: 45 :: 45 :: 45 :: 45 :: 45 :: 45 :: 45 :: 45 :: 45 :: 45 :: 45 :: 45 :: 45 :: 45 :: 45 :: 45 :: 45 :: 45 :: 45 :: 45 :: 45 :: 45 :: 45 :: 45 :: 45 :: 45 :: 45 :: []⟩⟩ : ByteArray) = pY := rfl
attribute [go_sem] aHN
def tU : ByteArray := ⟨⟨61 :: 61 :: 61 :: 61 :: 61 :: 61 :: 61 :: 61 :: 61 :: 61 :: 61 :: 61 :: 61 :: 61 :: 61 :: 61 :: 61 :: 61 :: 61 :: 61 :: 61 :: 61 :: 61 :: 61 :: 61 :: 61 :: 61 :: 61 :: 61 :: 61 :: 61 :: 61 :: 61 :: 61 :: 61 :: 61 :: 61 :: 61 :: 61 :: 61 :: 61 :: 61 :: 61 :: 61 :: 61 :: 61 :: 61 :: 61 :: 61 :: 61 :: 61 :: 61 :: 61 :: 61 :: 61 :: 61 :: 61 :: 61 :: 61 :: 61 :: 61 :: 61 :: 61 :: 61 :: 61 :: 61 :: 61 :: 61 :: 61 :: 61 :: 61 :: 61 :: 61 :: 61 :: 61 :: 61 :: 61 :: 61 :: 61 :: 61 :: 61 :: 61 :: 61 :: 61 :: 61 :: 61 :: 61 :: 61 :: 61 :: 61 :: 61 :: 61 :: 61 :: 61 :: 61 :: 61 :: 61 :: 61 :: 61 :: 61 :: 61 :: 61 :: 61 :: 61 :: 61 :: 61 :: 61 :: 61 :: 61 :: 61 :: 61 :: 61 :: 61 :: 61 :: 61 :: 61 :: 61 :: 61 :: 61 :: 61 :: 61 :: 61 :: 61 :: 61 :: 61 :: 61 :: 61 :: 61 :: []⟩⟩
theorem aHO : (⟨⟨61 :: 61 :: 61 :: 61 :: 61 :: 61 :: 61 :: 61 :: 61 :: 61 :: 61 :: 61 :: 61 :: 61 :: 61 :: 61 :: 61 :: 61 :: 61 :: 61 :: 61 :: 61 :: 61 :: 61 :: 61 :: 61 :: 61 :: 61 :: 61 :: 61 :: 61 :: 61 :: 61 :: 61 :: 61 :: 61 :: 61 :: 61 :: 61 :: 61 :: 61 :: 61 :: 61 :: 61 :: 61 :: 61 :: 61 :: 61 :: 61 :: 61 :: 61 :: 61 :: 61 :: 61 :: 61 :: 61 :: 61 :: 61 :: 61 :: 61 :: 61 :: 61 :: 61 :: 61 :: 61 :: 61 :: 61 :: 61 :: 61 :: 61 :: 61 :: 61 :: 61 :: 61 :: 61 :: 61 :: 61 :: 61 :: 61 :: 61 :: 61 :: 61 :: 61 :: 61 :: 61 :: 61 :: 61 :: 61 :: 61 :: 61 :: 61 :: 61 :: 61 :: 61 :: 61 :: 61 :: 61 :: 61 :: 61 :: 61 :: 61 :: 61 :: 61 :: 61 :: 61 :: 61 :: 61 :: 61 :: 61 :: 61 :: 61 :: 61 :: 61 :: 61 :: 61 :: 61 :: 61 :: 61 :: 61 :: 61 :: 61 :: 61 :: 61 :: 61 :: 61 :: 61 :: 61 :: 61 :: []⟩⟩ : ByteArray) = tU := rfl
attribute [go_sem] aHO
def tV : ByteArray := ⟨⟨9 :: 9 :: 9 :: 9 :: 9 :: 9 :: 9 :: 9 :: 9 :: 9 :: 9 :: 9 :: 9 :: 9 :: 9 :: 9 :: 9 :: 9 :: 9 :: 9 :: 9 :: 9 :: 9 :: 9 :: 9 :: 9 :: 9 :: 9 :: 9 :: 9 :: 9 :: 9 :: 9 :: 9 :: 9 :: 9 :: 9 :: 9 :: 9 :: 9 :: 9 :: 9 :: 9 :: 9 :: 9 :: 9 :: 9 :: 9 :: 9 :: 9 :: 9 :: 9 :: 9 :: 9 :: 9 :: 9 :: 9 :: 9 :: 9 :: 9 :: 9 :: 9 :: 9 :: 9 :: []⟩⟩
theorem aHP : (⟨⟨9 :: 9 :: 9 :: 9 :: 9 :: 9 :: 9 :: 9 :: 9 :: 9 :: 9 :: 9 :: 9 :: 9 :: 9 :: 9 :: 9 :: 9 :: 9 :: 9 :: 9 :: 9 :: 9 :: 9 :: 9 :: 9 :: 9 :: 9 :: 9 :: 9 :: 9 :: 9 :: 9 :: 9 :: 9 :: 9 :: 9 :: 9 :: 9 :: 9 :: 9 :: 9 :: 9 :: 9 :: 9 :: 9 :: 9 :: 9 :: 9 :: 9 :: 9 :: 9 :: 9 :: 9 :: 9 :: 9 :: 9 :: 9 :: 9 :: 9 :: 9 :: 9 :: 9 :: 9 :: []⟩⟩ : ByteArray) = tV := rfl
attribute [go_sem] aHP
def tW : ByteArray := ⟨⟨48 :: 48 :: 48 :: 49 :: 48 :: 50 :: 48 :: 51 :: 48 :: 52 :: 48 :: 53 :: 48 :: 54 :: 48 :: 55 :: 48 :: 56 :: 48 :: 57 :: 49 :: 48 :: 49 :: 49 :: 49 :: 50 :: 49 :: 51 :: 49 :: 52 :: 49 :: 53 :: 49 :: 54 :: 49 :: 55 :: 49 :: 56 :: 49 :: 57 :: 50 :: 48 :: 50 :: 49 :: 50 :: 50 :: 50 :: 51 :: 50 :: 52 :: 50 :: 53 :: 50 :: 54 :: 50 :: 55 :: 50 :: 56 :: 50 :: 57 :: 51 :: 48 :: 51 :: 49 :: 51 :: 50 :: 51 :: 51 :: 51 :: 52 :: 51 :: 53 :: 51 :: 54 :: 51 :: 55 :: 51 :: 56 :: 51 :: 57 :: 52 :: 48 :: 52 :: 49 :: 52 :: 50 :: 52 :: 51 :: 52 :: 52 :: 52 :: 53 :: 52 :: 54 :: 52 :: 55 :: 52 :: 56 :: 52 :: 57 :: 53 :: 48 :: 53 :: 49 :: 53 :: 50 :: 53 :: 51 :: 53 :: 52 :: 53 :: 53 :: 53 :: 54 :: 53 :: 55 :: 53 :: 56 :: 53 :: 57 :: 54 :: 48 :: 54 :: 49 :: 54 :: 50 :: 54 :: 51 :: 54 :: 52 :: 54 :: 53 :: 54 :: 54 :: 54 :: 55 :: 54 :: 56 :: 54 :: 57 :: 55 :: 48 :: 55 :: 49 :: 55 :: 50 :: 55 :: 51 :: 55 :: 52 :: 55 :: 53 :: 55 :: 54 :: 55 :: 55 :: 55 :: 56 :: 55 :: 57 :: 56 :: 48 :: 56 :: 49 :: 56 :: 50 :: 56 :: 51 :: 56 :: 52 :: 56 :: 53 :: 56 :: 54 :: 56 :: 55 :: 56 :: 56 :: 56 :: 57 :: 57 :: 48 :: 57 :: 49 :: 57 :: 50 :: 57 :: 51 :: 57 :: 52 :: 57 :: 53 :: 57 :: 54 :: 57 :: 55 :: 57 :: 56 :: 57 :: 57 :: []⟩⟩
theorem aHQ : (⟨⟨48 :: 48 :: 48 :: 49 :: 48 :: 50 :: 48 :: 51 :: 48 :: 52 :: 48 :: 53 :: 48 :: 54 :: 48 :: 55 :: 48 :: 56 :: 48 :: 57 :: 49 :: 48 :: 49 :: 49 :: 49 :: 50 :: 49 :: 51 :: 49 :: 52 :: 49 :: 53 :: 49 :: 54 :: 49 :: 55 :: 49 :: 56 :: 49 :: 57 :: 50 :: 48 :: 50 :: 49 :: 50 :: 50 :: 50 :: 51 :: 50 :: 52 :: 50 :: 53 :: 50 :: 54 :: 50 :: 55 :: 50 :: 56 :: 50 :: 57 :: 51 :: 48 :: 51 :: 49 :: 51 :: 50 :: 51 :: 51 :: 51 :: 52 :: 51 :: 53 :: 51 :: 54 :: 51 :: 55 :: 51 :: 56 :: 51 :: 57 :: 52 :: 48 :: 52 :: 49 :: 52 :: 50 :: 52 :: 51 :: 52 :: 52 :: 52 :: 53 :: 52 :: 54 :: 52 :: 55 :: 52 :: 56 :: 52 :: 57 :: 53 :: 48 :: 53 :: 49 :: 53 :: 50 :: 53 :: 51 :: 53 :: 52 :: 53 :: 53 :: 53 :: 54 :: 53 :: 55 :: 53 :: 56 :: 53 :: 57 :: 54 :: 48 :: 54 :: 49 :: 54 :: 50 :: 54 :: 51 :: 54 :: 52 :: 54 :: 53 :: 54 :: 54 :: 54 :: 55 :: 54 :: 56 :: 54 :: 57 :: 55 :: 48 :: 55 :: 49 :: 55 :: 50 :: 55 :: 51 :: 55 :: 52 :: 55 :: 53 :: 55 :: 54 :: 55 :: 55 :: 55 :: 56 :: 55 :: 57 :: 56 :: 48 :: 56 :: 49 :: 56 :: 50 :: 56 :: 51 :: 56 :: 52 :: 56 :: 53 :: 56 :: 54 :: 56 :: 55 :: 56 :: 56 :: 56 :: 57 :: 57 :: 48 :: 57 :: 49 :: 57 :: 50 :: 57 :: 51 :: 57 :: 52 :: 57 :: 53 :: 57 :: 54 :: 57 :: 55 :: 57 :: 56 :: 57 :: 57 :: []⟩⟩ : ByteArray) = tW := rfl
attribute [go_sem] aHQ
def tX : ByteArray := ⟨⟨48 :: 49 :: 50 :: 51 :: 52 :: 53 :: 54 :: 55 :: 56 :: 57 :: 97 :: 98 :: 99 :: 100 :: 101 :: 102 :: 103 :: 104 :: 105 :: 106 :: 107 :: 108 :: 109 :: 110 :: 111 :: 112 :: 113 :: 114 :: 115 :: 116 :: 117 :: 118 :: 119 :: 120 :: 121 :: 122 :: []⟩⟩
theorem aHR : (⟨⟨48 :: 49 :: 50 :: 51 :: 52 :: 53 :: 54 :: 55 :: 56 :: 57 :: 97 :: 98 :: 99 :: 100 :: 101 :: 102 :: 103 :: 104 :: 105 :: 106 :: 107 :: 108 :: 109 :: 110 :: 111 :: 112 :: 113 :: 114 :: 115 :: 116 :: 117 :: 118 :: 119 :: 120 :: 121 :: 122 :: []⟩⟩ : ByteArray) = tX := rfl
attribute [go_sem] aHR
def pZ : ByteArray := ⟨⟨32 :: 32 :: 32 :: 32 :: 32 :: 32 :: 32 :: 32 :: 32 :: 32 :: 32 :: 32 :: 32 :: 32 :: 32 :: 32 :: 32 :: 32 :: 32 :: 32 :: 32 :: 32 :: 32 :: 32 :: 32 :: 32 :: 32 :: 32 :: 32 :: 32 :: 32 :: 32 :: 32 :: 32 :: 32 :: 32 :: 32 :: 32 :: 32 :: 32 :: 32 :: 32 :: 32 :: 32 :: 32 :: 32 :: 32 :: 32 :: 32 :: 32 :: 32 :: 32 :: 32 :: 32 :: 32 :: 32 :: 32 :: 32 :: 32 :: 32 :: 32 :: 32 :: 32 :: 32 :: 32 :: 32 :: 32 :: 32 :: 32 :: 32 :: 32 :: 32 :: 32 :: 32 :: 32 :: 32 :: 32 :: 32 :: 32 :: 32 :: 32 :: 32 :: 32 :: 32 :: 32 :: 32 :: 32 :: 32 :: 32 :: 32 :: 32 :: 32 :: 32 :: 32 :: 32 :: 32 :: 32 :: 32 :: 32 :: 32 :: 32 :: 32 :: 32 :: 32 :: 32 :: 32 :: 32 :: 32 :: 32 :: 32 :: 32 :: 32 :: 32 :: 32 :: 32 :: 32 :: 32 :: 32 :: 32 :: 32 :: 32 :: 32 :: 32 :: 32 :: 32 :: 32 :: 32 :: 32 :: []⟩⟩
theorem aHS : (⟨⟨32 :: 32 :: 32 :: 32 :: 32 :: 32 :: 32 :: 32 :: 32 :: 32 :: 32 :: 32 :: 32 :: 32 :: 32 :: 32 :: 32 :: 32 :: 32 :: 32 :: 32 :: 32 :: 32 :: 32 :: 32 :: 32 :: 32 :: 32 :: 32 :: 32 :: 32 :: 32 :: 32 :: 32 :: 32 :: 32 :: 32 :: 32 :: 32 :: 32 :: 32 :: 32 :: 32 :: 32 :: 32 :: 32 :: 32 :: 32 :: 32 :: 32 :: 32 :: 32 :: 32 :: 32 :: 32 :: 32 :: 32 :: 32 :: 32 :: 32 :: 32 :: 32 :: 32 :: 32 :: 32 :: 32 :: 32 :: 32 :: 32 :: 32 :: 32 :: 32 :: 32 :: 32 :: 32 :: 32 :: 32 :: 32 :: 32 :: 32 :: 32 :: 32 :: 32 :: 32 :: 32 :: 32 :: 32 :: 32 :: 32 :: 32 :: 32 :: 32 :: 32 :: 32 :: 32 :: 32 :: 32 :: 32 :: 32 :: 32 :: 32 :: 32 :: 32 :: 32 :: 32 :: 32 :: 32 :: 32 :: 32 :: 32 :: 32 :: 32 :: 32 :: 32 :: 32 :: 32 :: 32 :: 32 :: 32 :: 32 :: 32 :: 32 :: 32 :: 32 :: 32 :: 32 :: 32 :: 32 :: []⟩⟩ : ByteArray) = pZ := rfl
attribute [go_sem] aHS
noncomputable def dL (b_0 : Bool) : Option Int :=
 if b_0 = true then some (1 : Int) else some (0 : Int)
def pG : PlR := ⟨[(0, .A [0]), (1, .A [3]), (2, .A [2]), (3, .A [2])], []⟩
def qU : Ty := .pair .bool .unit
noncomputable def iU : aM := mSpec qU (.one (.i .i64)) (fun x => dL x.1)
noncomputable def aAt : List (FuncId × aM) := []
theorem aAu : bU Tryz.prog GL aAt := .nil
attribute [go_sem] qU pG
set_option maxHeartbeats 4000000 in
theorem yV : FOK Tryz.prog GL 174 iU := by
 refine cB (bL aAu) mix Tryz.func174 rfl (by kernel_rfl) (by decide) pG fun w0 S x Θ hw h hF => ?_
 obtain ⟨(b_0 : Bool), u⟩ := x
 simp only [cA, go_sem]
 replace h : sat (dL b_0) _ := h
 unfold dL at h
 refine aPs h (fun hc h => ?_) fun hc h => ?_
 ·exact aS hF [.tmp 2] rfl rfl rfl (aD h) (by simp only [bA, go_sem])
 ·exact aS hF [.tmp 2] rfl rfl rfl (aD h) (by simp only [bA, go_sem])
attribute [go_sem] iU
noncomputable def bQ (x_0 : Int) : Option Int :=
 ck (I64 (x_0 * (78913 : Int))) (some (Int.fdiv (x_0 * (78913 : Int)) (2 ^ (18 : Nat))))
def pH : PlR := ⟨[(0, .A [0]), (1, .A [2])], []⟩
def qV : Ty := .pair (.i .i64) .unit
noncomputable def iV : aM := mSpec qV (.one (.i .i64)) (fun x => bQ x.1)
noncomputable def aAv : List (FuncId × aM) := []
theorem aAw : bU Tryz.prog GL aAv := .nil
attribute [go_sem] qV pH
set_option maxHeartbeats 4000000 in
theorem yW : FOK Tryz.prog GL 173 iV := by
 refine cB (bL aAw) mix Tryz.func173 rfl (by kernel_rfl) (by decide) pH fun w0 S x Θ hw h hF => ?_
 obtain ⟨(x_0 : Int), u⟩ := x
 simp only [cA, go_sem]
 replace h : sat (bQ x_0) _ := h
 unfold bQ at h
 refine aH h fun g0 h => ?_
 exact aS hF [.tmp 2] rfl rfl rfl (aD h) (by simp only [bA, go_sem])
attribute [go_sem] iV
noncomputable def bM (d_0 : Nat) : Option Int :=
 ck (((bQ (cJ d_0)).isSome = true)) (ck (0 ≤ ((bQ (cJ d_0)).getD (0 : Int)) ∧ ((bQ (cJ d_0)).getD (0 : Int)) < (20 : Int)) (ck (((dL (decide ((p10.getD (((bQ (cJ d_0)).getD (0 : Int)).toNat) (0 : Nat)) ≤ d_0))).isSome = true)) (ck (I64 (((bQ (cJ d_0)).getD (0 : Int)) + ((dL (decide ((p10.getD (((bQ (cJ d_0)).getD (0 : Int)).toNat) (0 : Nat)) ≤ d_0))).getD (0 : Int)))) (some (((bQ (cJ d_0)).getD (0 : Int)) + ((dL (decide ((p10.getD (((bQ (cJ d_0)).getD (0 : Int)).toNat) (0 : Nat)) ≤ d_0))).getD (0 : Int)))))))
def pI : PlR := ⟨[(0, .A [0]), (1, .A [0, 3]), (2, .A [2])], []⟩
def qW : Ty := .pair (.u .u64) .unit
noncomputable def iW : aM := mSpec qW (.one (.i .i64)) (fun x => bM x.1)
noncomputable def jI : List (FuncId × aM) := [(158, lE), (173, iV), (174, iU)]
theorem aAx : bU Tryz.prog GL jI := .cons aA0 (by kernel_rfl) (.cons yW (by kernel_rfl) (.cons yV (by kernel_rfl) (.nil)))
theorem vM : gam jI 158 = some lE := rfl
theorem vN : gam jI 173 = some iV := rfl
theorem vO : gam jI 174 = some iU := rfl
attribute [go_sem] qW pI vM vN vO
set_option maxHeartbeats 4000000 in
theorem yX : FOK Tryz.prog GL 164 iW := by
 refine cB (bL aAx) mix Tryz.func164 rfl (by kernel_rfl) (by decide) pI fun w0 S x Θ hw h hF => ?_
 obtain ⟨(d_0 : Nat), u⟩ := x
 simp only [cA, go_sem]
 replace h : sat (bM d_0) _ := h
 unfold bM at h
 refine aH h fun g0 h => ?_
 refine aH h fun g0 h => aH h fun g1 h => aH h fun g2 h => ?_
 exact aS hF [.tmp 2] rfl rfl rfl (aD h) (by simp only [bA, go_sem])
attribute [go_sem] iW
noncomputable def fM (i_0 : Int) : Option (List Nat) :=
 if i_0 < (10 : Int) then ck (I64 (i_0 + (1 : Int))) (ck (0 ≤ i_0 ∧ i_0 ≤ (i_0 + (1 : Int)) ∧ (i_0 + (1 : Int)) ≤ ((((aK tX).length) : Nat) : Int)) (some (List.drop (i_0.toNat) (List.take ((i_0 + (1 : Int)).toNat) (aK tX))))) else ck (I64 (i_0 * (2 : Int))) (ck (I64 (i_0 * (2 : Int))) (ck (I64 ((i_0 * (2 : Int)) + (2 : Int))) (ck (0 ≤ (i_0 * (2 : Int)) ∧ (i_0 * (2 : Int)) ≤ ((i_0 * (2 : Int)) + (2 : Int)) ∧ ((i_0 * (2 : Int)) + (2 : Int)) ≤ ((((aK tW).length) : Nat) : Int)) (some (List.drop ((i_0 * (2 : Int)).toNat) (List.take (((i_0 * (2 : Int)) + (2 : Int)).toNat) (aK tW)))))))
def uW : PlR := ⟨[(0, .A [0]), (1, .A [0, 4]), (2, .A [2]), (3, .A [2])], []⟩
def wK : Ty := .pair (.i .i64) .unit
noncomputable def lR : aM := mSpec wK (.one .str) (fun x => fM x.1)
noncomputable def aDd : List (FuncId × aM) := []
theorem aDe : bU Tryz.prog GL aDd := .nil
attribute [go_sem] wK uW
set_option maxHeartbeats 4000000 in
theorem aCt : FOK Tryz.prog GL 163 lR := by
 refine cB (bL aDe) mix Tryz.func163 rfl (by kernel_rfl) (by decide) uW fun w0 S x Θ hw h hF => ?_
 obtain ⟨(i_0 : Int), u⟩ := x
 simp only [cA, go_sem]
 replace h : sat (fM i_0) _ := h
 unfold fM at h
 refine jB h (fun hc h => ?_) fun hc h => ?_
 ·refine aH h fun g0 h => aH h fun g1 h => ?_
  exact aS hF [.tmp 2] rfl rfl rfl (aD h) (by simp only [bA, go_sem])
 ·refine aH h fun g0 h => aH h fun g1 h => aH h fun g2 h => aH h fun g3 h => ?_
  exact aS hF [.tmp 2] rfl rfl rfl (aD h) (by simp only [bA, go_sem])
attribute [go_sem] lR
noncomputable def dY (i_0 : Nat) (base_1 : Int) : Option (List Nat) :=
 if base_1 = (10 : Int) then if i_0 < (100 : Nat) then ck (((fM (IntKind.i64.wrap ((i_0 : Nat) : Int))).isSome = true)) (some ((fM (IntKind.i64.wrap ((i_0 : Nat) : Int))).getD ([] : List Nat))) else ck (((bM i_0).isSome = true)) (ck ((0 : Int) < ((bM i_0).getD (0 : Int)) ∧ ((bM i_0).getD (0 : Int)) ≤ 24) (((dJ (0 : Nat) ((((bM i_0).getD (0 : Int)) - (0 : Int)).toNat) i_0 (List.replicate 24 (0 : Nat)))).bind (fun r_5 => ck ((0 : Int) < ((bM i_0).getD (0 : Int)) ∧ ((bM i_0).getD (0 : Int)) ≤ 24) (ck ((0 : Nat) + ((((bM i_0).getD (0 : Int)) - (0 : Int)).toNat) ≤ 24) (some (List.take ((((bM i_0).getD (0 : Int)) - (0 : Int)).toNat) (List.drop (0 : Nat) r_5))))))) else none
def iX : Ty := .pair (.u .u64) (.pair (.i .i64) .unit)
attribute [go_sem] iX
noncomputable def gX : aM := mSpec iX (.one .str) (fun x => dY x.1 x.2.1)
noncomputable def iY : List (FuncId × aM) := [(163, lR), (164, iW)]
theorem pJ : bU Tryz.prog GL iY := .cons aCt (by kernel_rfl) (.cons yX (by kernel_rfl) (.nil))
theorem uA : gam iY 163 = some lR := rfl
attribute [go_sem] uA
theorem uB : gam iY 164 = some iW := rfl
attribute [go_sem] uB
set_option maxHeartbeats 4000000 in
theorem yB : FOK Tryz.prog GL 160 gX := by
 refine sR (bL pJ) Tryz.func160 rfl (by kernel_rfl) (by decide) fun w0 S x r hw h => ?_
 have hF : jX (fr Tryz.prog (EM iY) S w0 Tryz.f160.ntmps) := ⟨bL pJ, mix⟩
 obtain ⟨(i_0 : Nat), (base_1 : Int), u⟩ := x
 simp only [iX, Ty.wf, nM] at hw
 simp only [cA, iX]
 try dsimp only at h
 unfold dY at h
 refine aF (aE hF [0, 1] ?_)
 simp only [go_sem]
 refine aG (aF (aF (aE hF [0, 1, 10] ?_)))
 simp only [go_sem]
 refine aG (bS rfl (fun hc => ?_) (fun hc => ?_))
 ·try simp only [go_sem] at hc
  have h := fN (by first | exact hc | omega | (simpa using hc) | (simp at hc ⊢; omega)) h
  refine aF (aF (aE hF [0, 12] ?_))
  simp only [go_sem]
  refine aG (bS rfl (fun hc => ?_) (fun hc => ?_))
  ·try simp only [go_sem] at hc
   have h := fN (by first | exact hc | omega | (simpa using hc) | (simp at hc ⊢; omega)) h
   refine aF (aE hF [4] ?_)
   simp only [go_sem]
   obtain ⟨g0, h⟩ := aI h
   repeat (refine ⟨by first | with_reducible assumption | omega | (intros; first | assumption | omega) | (simp only [go_sem] at *; first | assumption | omega) | decide, ?_⟩)
   obtain rfl := Option.some.inj h
   refine aG (dO (cZ (cZ (iT hF [.tmp 4] rfl rfl rfl ?_))))
   (try simp only [jW, bA, go_sem]) <;> first | rfl | (simp; done)
  ·try simp only [go_sem] at hc
   have h := fO (by first | exact hc | omega | (simpa using hc) | (simp at hc ⊢; omega)) h
   refine cE (aG (aF (bV hF [0, 5] ?_)))
   simp only [go_sem]
   refine aG (aF (aE hF [0, 5, 6] ?_))
   simp only [go_sem]
   obtain ⟨g0, h⟩ := aI h
   repeat (refine ⟨by first | with_reducible assumption | omega | (intros; first | assumption | omega) | (simp only [go_sem] at *; first | assumption | omega) | decide, ?_⟩)
   obtain ⟨g0, h⟩ := aI h
   obtain ⟨r_5, he1, h⟩ := bind_some h
   try dsimp only at h
   refine aG (aF (bG hF (cQ (l := [(165, ⟨jS, [0], ((0 : Nat), ((((bM i_0).getD (0 : Int)) - (0 : Int)).toNat), i_0, (List.replicate 24 (0 : Nat)), r_5)⟩)]) (.cons vL (by kernel_rfl) (.nil))) [5, 6] [19] ?_))
   simp only [go_sem]
   repeat (refine ⟨by first | with_reducible assumption | omega | (intros; first | assumption | omega) | (simp only [go_sem] at *; first | assumption | omega) | decide, ?_⟩)
   obtain ⟨g0, h⟩ := aI h
   obtain ⟨g1, h⟩ := aI h
   refine aG (aF (bG hF (cQ (l := []) (.nil)) [4] [23] ?_))
   simp only [go_sem]
   repeat (refine ⟨by first | with_reducible assumption | omega | (intros; first | assumption | omega) | (simp only [go_sem] at *; first | assumption | omega) | decide, ?_⟩)
   obtain rfl := Option.some.inj h
   refine aG (dO (cZ (iT hF [.tmp 4] rfl rfl rfl ?_)))
   (try simp only [jW, bA, go_sem]) <;> first | rfl | (simp; done)
 ·try simp only [go_sem] at hc
  have h := fO (by first | exact hc | omega | (simpa using hc) | (simp at hc ⊢; omega)) h
  cases h
attribute [go_sem] gX
noncomputable def cS (i_0 : Nat) (base_1 : Int) : Option (List Nat) :=
 ck (((dY i_0 base_1).isSome = true)) (some ((dY i_0 base_1).getD ([] : List Nat)))
def pK : PlR := ⟨[(0, .A [0, 1]), (1, .A [4])], []⟩
def qX : Ty := .pair (.u .u64) (.pair (.i .i64) .unit)
noncomputable def iZ : aM := mSpec qX (.one .str) (fun x => cS x.1 x.2.1)
noncomputable def qY : List (FuncId × aM) := [(160, gX)]
theorem aAy : bU Tryz.prog GL qY := .cons yB (by kernel_rfl) (.nil)
theorem vP : gam qY 160 = some gX := rfl
attribute [go_sem] qX pK vP
set_option maxHeartbeats 4000000 in
theorem yY : FOK Tryz.prog GL 132 iZ := by
 refine cB (bL aAy) mix Tryz.func132 rfl (by kernel_rfl) (by decide) pK fun w0 S x Θ hw h hF => ?_
 obtain ⟨(i_0 : Nat), (base_1 : Int), u⟩ := x
 simp only [cA, go_sem]
 replace h : sat (cS i_0 base_1) _ := h
 unfold cS at h
 refine aH h fun g0 h => ?_
 exact aS hF [.tmp 4] rfl rfl rfl (aD h) (by simp only [bA, go_sem])
attribute [go_sem] iZ
noncomputable def bH (x_0 : Nat) (y_1 : Nat) : Option (Nat × (Nat × Unit)) :=
 some (((bF x_0 y_1).1), (((bF x_0 y_1).2).1), ())
def aD6 : PlR := ⟨[(0, .A [0, 1]), (3, .A [8, 9]), (4, .A [4, 5])], []⟩
def aGJ : Ty := .pair (.u .u64) (.pair (.u .u64) .unit)
noncomputable def uX : aM := mSpec aGJ (.tup (.pair (.u .u64) (.pair (.u .u64) .unit))) (fun x => bH x.1 x.2.1)
noncomputable def aGK : List (FuncId × aM) := [(126, hZ)]
theorem aMr : bU Tryz.prog GL aGK := .cons vH (by kernel_rfl) (.nil)
theorem aGL : gam aGK 126 = some hZ := rfl
attribute [go_sem] aGJ aD6 aGL
set_option maxHeartbeats 4000000 in
theorem aLl : FOK Tryz.prog GL 133 uX := by
 refine cB (bL aMr) mix Tryz.func133 rfl (by kernel_rfl) (by decide) aD6 fun w0 S x Θ hw h hF => ?_
 obtain ⟨(x_0 : Nat), (y_1 : Nat), u⟩ := x
 simp only [cA, go_sem]
 replace h : sat (bH x_0 y_1) _ := h
 unfold bH at h
 exact aS hF [.tmp 4, .tmp 5] rfl rfl rfl (aD h) (by simp only [bA, go_sem])
attribute [go_sem] uX
noncomputable def eB (s_0 : (List Nat)) (prefix_1 : (List Nat)) : Option Bool :=
 ck ((((((prefix_1.length) : Nat) : Int) ≤ (((s_0.length) : Nat) : Int)) → (0 ≤ (((prefix_1.length) : Nat) : Int) ∧ (((prefix_1.length) : Nat) : Int) ≤ (((s_0.length) : Nat) : Int)))) (some ((decide ((((prefix_1.length) : Nat) : Int) ≤ (((s_0.length) : Nat) : Int))) && (decide ((List.take (prefix_1.length) s_0) = prefix_1))))
def mV : PlR := ⟨[(0, .A [0, 1]), (1, .A [4])], []⟩
def nF : Ty := .pair .str (.pair .str .unit)
noncomputable def fE : aM := mSpec nF (.one .bool) (fun x => eB x.1 x.2.1)
noncomputable def vQ : List (FuncId × aM) := []
theorem vR : bU Tryz.prog GL vQ := .nil
attribute [go_sem] nF mV
set_option maxHeartbeats 4000000 in
theorem uC : FOK Tryz.prog GL 162 fE := by
 refine cB (bL vR) mix Tryz.func162 rfl (by kernel_rfl) (by decide) mV fun w0 S x Θ hw h hF => ?_
 obtain ⟨(s_0 : (List Nat)), (prefix_1 : (List Nat)), u⟩ := x
 simp only [cA, go_sem]
 replace h : sat (eB s_0 prefix_1) _ := h
 unfold eB at h
 refine aH h fun g0 h => ?_
 exact aS hF [.tmp 4] rfl rfl rfl (aD h) (by simp only [bA, go_sem])
attribute [go_sem] fE
noncomputable def bI (s_0 : (List Nat)) (prefix_1 : (List Nat)) : Option Bool :=
 ck (((eB s_0 prefix_1).isSome = true)) (some ((eB s_0 prefix_1).getD false))
def qZ : PlR := ⟨[(0, .A [0, 1]), (1, .A [4])], []⟩
def rJ : Ty := .pair .str (.pair .str .unit)
noncomputable def jJ : aM := mSpec rJ (.one .bool) (fun x => bI x.1 x.2.1)
noncomputable def rK : List (FuncId × aM) := [(162, fE)]
theorem aAS : bU Tryz.prog GL rK := .cons uC (by kernel_rfl) (.nil)
theorem wL : gam rK 162 = some fE := rfl
attribute [go_sem] rJ qZ wL
set_option maxHeartbeats 4000000 in
theorem aAz : FOK Tryz.prog GL 134 jJ := by
 refine cB (bL aAS) mix Tryz.func134 rfl (by kernel_rfl) (by decide) qZ fun w0 S x Θ hw h hF => ?_
 obtain ⟨(s_0 : (List Nat)), (prefix_1 : (List Nat)), u⟩ := x
 simp only [cA, go_sem]
 replace h : sat (bI s_0 prefix_1) _ := h
 unfold bI at h
 refine aH h fun g0 h => ?_
 exact aS hF [.tmp 4] rfl rfl rfl (aD h) (by simp only [bA, go_sem])
attribute [go_sem] jJ
noncomputable def gV (chunkMax_4 : Int) : Option ((List Nat)) :=
 none
noncomputable def kA (s_0 : (List Nat)) (count_1 : Int) : Option ((List Nat)) :=
 if (8192 : Int) < (IntKind.i64.wrap ((((((bH (((((s_0.length) : Nat) : Int) % (18446744073709551616 : Int)).toNat) ((count_1 % (18446744073709551616 : Int)).toNat)).getD ((0 : Nat), (0 : Nat), ())).2).1) : Nat) : Int)) then ck ((((s_0.length) : Nat) : Int) ≠ 0) (ck (I64 (Int.tdiv (8192 : Int) (((s_0.length) : Nat) : Int))) (ck (I64 ((Int.tdiv (8192 : Int) (((s_0.length) : Nat) : Int)) * (((s_0.length) : Nat) : Int))) (if ((Int.tdiv (8192 : Int) (((s_0.length) : Nat) : Int)) * (((s_0.length) : Nat) : Int)) = (0 : Int) then gV (((s_0.length) : Nat) : Int) else gV ((Int.tdiv (8192 : Int) (((s_0.length) : Nat) : Int)) * (((s_0.length) : Nat) : Int))))) else gV (IntKind.i64.wrap ((((((bH (((((s_0.length) : Nat) : Int) % (18446744073709551616 : Int)).toNat) ((count_1 % (18446744073709551616 : Int)).toNat)).getD ((0 : Nat), (0 : Nat), ())).2).1) : Nat) : Int))
noncomputable def dC (s_0 : (List Nat)) (count_1 : Int) (x43_5 : Bool) : Option ((List Nat)) :=
 if x43_5 = true then ck ((((IntKind.i64.wrap ((((((bH (((((s_0.length) : Nat) : Int) % (18446744073709551616 : Int)).toNat) ((count_1 % (18446744073709551616 : Int)).toNat)).getD ((0 : Nat), (0 : Nat), ())).2).1) : Nat) : Int)) ≤ (128 : Int)) → (((bI (aK pZ) s_0).isSome = true)))) (if ((IntKind.i64.wrap ((((((bH (((((s_0.length) : Nat) : Int) % (18446744073709551616 : Int)).toNat) ((count_1 % (18446744073709551616 : Int)).toNat)).getD ((0 : Nat), (0 : Nat), ())).2).1) : Nat) : Int)) ≤ (128 : Int)) ∧ (((bI (aK pZ) s_0).getD false) = true) then ck (0 ≤ (IntKind.i64.wrap ((((((bH (((((s_0.length) : Nat) : Int) % (18446744073709551616 : Int)).toNat) ((count_1 % (18446744073709551616 : Int)).toNat)).getD ((0 : Nat), (0 : Nat), ())).2).1) : Nat) : Int)) ∧ (IntKind.i64.wrap ((((((bH (((((s_0.length) : Nat) : Int) % (18446744073709551616 : Int)).toNat) ((count_1 % (18446744073709551616 : Int)).toNat)).getD ((0 : Nat), (0 : Nat), ())).2).1) : Nat) : Int)) ≤ ((((aK pZ).length) : Nat) : Int)) (some (List.take ((IntKind.i64.wrap ((((((bH (((((s_0.length) : Nat) : Int) % (18446744073709551616 : Int)).toNat) ((count_1 % (18446744073709551616 : Int)).toNat)).getD ((0 : Nat), (0 : Nat), ())).2).1) : Nat) : Int)).toNat) (aK pZ))) else ck ((((IntKind.i64.wrap ((((((bH (((((s_0.length) : Nat) : Int) % (18446744073709551616 : Int)).toNat) ((count_1 % (18446744073709551616 : Int)).toNat)).getD ((0 : Nat), (0 : Nat), ())).2).1) : Nat) : Int)) ≤ (128 : Int)) → (((bI (aK pY) s_0).isSome = true)))) (if ((IntKind.i64.wrap ((((((bH (((((s_0.length) : Nat) : Int) % (18446744073709551616 : Int)).toNat) ((count_1 % (18446744073709551616 : Int)).toNat)).getD ((0 : Nat), (0 : Nat), ())).2).1) : Nat) : Int)) ≤ (128 : Int)) ∧ (((bI (aK pY) s_0).getD false) = true) then ck (0 ≤ (IntKind.i64.wrap ((((((bH (((((s_0.length) : Nat) : Int) % (18446744073709551616 : Int)).toNat) ((count_1 % (18446744073709551616 : Int)).toNat)).getD ((0 : Nat), (0 : Nat), ())).2).1) : Nat) : Int)) ∧ (IntKind.i64.wrap ((((((bH (((((s_0.length) : Nat) : Int) % (18446744073709551616 : Int)).toNat) ((count_1 % (18446744073709551616 : Int)).toNat)).getD ((0 : Nat), (0 : Nat), ())).2).1) : Nat) : Int)) ≤ ((((aK pY).length) : Nat) : Int)) (some (List.take ((IntKind.i64.wrap ((((((bH (((((s_0.length) : Nat) : Int) % (18446744073709551616 : Int)).toNat) ((count_1 % (18446744073709551616 : Int)).toNat)).getD ((0 : Nat), (0 : Nat), ())).2).1) : Nat) : Int)).toNat) (aK pY))) else ck ((((IntKind.i64.wrap ((((((bH (((((s_0.length) : Nat) : Int) % (18446744073709551616 : Int)).toNat) ((count_1 % (18446744073709551616 : Int)).toNat)).getD ((0 : Nat), (0 : Nat), ())).2).1) : Nat) : Int)) ≤ (64 : Int)) → (((bI (aK nO) s_0).isSome = true)))) (if ((IntKind.i64.wrap ((((((bH (((((s_0.length) : Nat) : Int) % (18446744073709551616 : Int)).toNat) ((count_1 % (18446744073709551616 : Int)).toNat)).getD ((0 : Nat), (0 : Nat), ())).2).1) : Nat) : Int)) ≤ (64 : Int)) ∧ (((bI (aK nO) s_0).getD false) = true) then ck (0 ≤ (IntKind.i64.wrap ((((((bH (((((s_0.length) : Nat) : Int) % (18446744073709551616 : Int)).toNat) ((count_1 % (18446744073709551616 : Int)).toNat)).getD ((0 : Nat), (0 : Nat), ())).2).1) : Nat) : Int)) ∧ (IntKind.i64.wrap ((((((bH (((((s_0.length) : Nat) : Int) % (18446744073709551616 : Int)).toNat) ((count_1 % (18446744073709551616 : Int)).toNat)).getD ((0 : Nat), (0 : Nat), ())).2).1) : Nat) : Int)) ≤ ((((aK nO).length) : Nat) : Int)) (some (List.take ((IntKind.i64.wrap ((((((bH (((((s_0.length) : Nat) : Int) % (18446744073709551616 : Int)).toNat) ((count_1 % (18446744073709551616 : Int)).toNat)).getD ((0 : Nat), (0 : Nat), ())).2).1) : Nat) : Int)).toNat) (aK nO))) else ck ((((IntKind.i64.wrap ((((((bH (((((s_0.length) : Nat) : Int) % (18446744073709551616 : Int)).toNat) ((count_1 % (18446744073709551616 : Int)).toNat)).getD ((0 : Nat), (0 : Nat), ())).2).1) : Nat) : Int)) ≤ (128 : Int)) → (((bI (aK tU) s_0).isSome = true)))) (if ((IntKind.i64.wrap ((((((bH (((((s_0.length) : Nat) : Int) % (18446744073709551616 : Int)).toNat) ((count_1 % (18446744073709551616 : Int)).toNat)).getD ((0 : Nat), (0 : Nat), ())).2).1) : Nat) : Int)) ≤ (128 : Int)) ∧ (((bI (aK tU) s_0).getD false) = true) then ck (0 ≤ (IntKind.i64.wrap ((((((bH (((((s_0.length) : Nat) : Int) % (18446744073709551616 : Int)).toNat) ((count_1 % (18446744073709551616 : Int)).toNat)).getD ((0 : Nat), (0 : Nat), ())).2).1) : Nat) : Int)) ∧ (IntKind.i64.wrap ((((((bH (((((s_0.length) : Nat) : Int) % (18446744073709551616 : Int)).toNat) ((count_1 % (18446744073709551616 : Int)).toNat)).getD ((0 : Nat), (0 : Nat), ())).2).1) : Nat) : Int)) ≤ ((((aK tU).length) : Nat) : Int)) (some (List.take ((IntKind.i64.wrap ((((((bH (((((s_0.length) : Nat) : Int) % (18446744073709551616 : Int)).toNat) ((count_1 % (18446744073709551616 : Int)).toNat)).getD ((0 : Nat), (0 : Nat), ())).2).1) : Nat) : Int)).toNat) (aK tU))) else ck ((((IntKind.i64.wrap ((((((bH (((((s_0.length) : Nat) : Int) % (18446744073709551616 : Int)).toNat) ((count_1 % (18446744073709551616 : Int)).toNat)).getD ((0 : Nat), (0 : Nat), ())).2).1) : Nat) : Int)) ≤ (64 : Int)) → (((bI (aK tV) s_0).isSome = true)))) (if ((IntKind.i64.wrap ((((((bH (((((s_0.length) : Nat) : Int) % (18446744073709551616 : Int)).toNat) ((count_1 % (18446744073709551616 : Int)).toNat)).getD ((0 : Nat), (0 : Nat), ())).2).1) : Nat) : Int)) ≤ (64 : Int)) ∧ (((bI (aK tV) s_0).getD false) = true) then ck (0 ≤ (IntKind.i64.wrap ((((((bH (((((s_0.length) : Nat) : Int) % (18446744073709551616 : Int)).toNat) ((count_1 % (18446744073709551616 : Int)).toNat)).getD ((0 : Nat), (0 : Nat), ())).2).1) : Nat) : Int)) ∧ (IntKind.i64.wrap ((((((bH (((((s_0.length) : Nat) : Int) % (18446744073709551616 : Int)).toNat) ((count_1 % (18446744073709551616 : Int)).toNat)).getD ((0 : Nat), (0 : Nat), ())).2).1) : Nat) : Int)) ≤ ((((aK tV).length) : Nat) : Int)) (some (List.take ((IntKind.i64.wrap ((((((bH (((((s_0.length) : Nat) : Int) % (18446744073709551616 : Int)).toNat) ((count_1 % (18446744073709551616 : Int)).toNat)).getD ((0 : Nat), (0 : Nat), ())).2).1) : Nat) : Int)).toNat) (aK tV))) else kA s_0 count_1))))) else kA s_0 count_1
noncomputable def aO (s_0 : (List Nat)) (count_1 : Int) : Option (List Nat) :=
 if count_1 = (0 : Int) then some (aK ⟨#[]⟩) else if count_1 = (1 : Int) then some s_0 else if count_1 < (0 : Int) then none else ck (((bH (((((s_0.length) : Nat) : Int) % (18446744073709551616 : Int)).toNat) ((count_1 % (18446744073709551616 : Int)).toNat)).isSome = true)) (if ((0 : Nat) < (((bH (((((s_0.length) : Nat) : Int) % (18446744073709551616 : Int)).toNat) ((count_1 % (18446744073709551616 : Int)).toNat)).getD ((0 : Nat), (0 : Nat), ())).1)) ∨ ((9223372036854775807 : Nat) < ((((bH (((((s_0.length) : Nat) : Int) % (18446744073709551616 : Int)).toNat) ((count_1 % (18446744073709551616 : Int)).toNat)).getD ((0 : Nat), (0 : Nat), ())).2).1)) then none else if (((s_0.length) : Nat) : Int) = (0 : Int) then some (aK ⟨#[]⟩) else ck ((0 : Int) < (((s_0.length) : Nat) : Int)) (if (s_0.getD (0 : Nat) (0 : Nat)) = (32 : Nat) then dC s_0 count_1 (decide ((s_0.getD (0 : Nat) (0 : Nat)) = (32 : Nat))) else if (s_0.getD (0 : Nat) (0 : Nat)) = (45 : Nat) then dC s_0 count_1 (decide ((s_0.getD (0 : Nat) (0 : Nat)) = (45 : Nat))) else if (s_0.getD (0 : Nat) (0 : Nat)) = (48 : Nat) then dC s_0 count_1 (decide ((s_0.getD (0 : Nat) (0 : Nat)) = (48 : Nat))) else if (s_0.getD (0 : Nat) (0 : Nat)) = (61 : Nat) then dC s_0 count_1 (decide ((s_0.getD (0 : Nat) (0 : Nat)) = (61 : Nat))) else dC s_0 count_1 (decide ((s_0.getD (0 : Nat) (0 : Nat)) = (9 : Nat)))))
def mS : Ty := .pair .str (.pair (.i .i64) .unit)
attribute [go_sem] mS
noncomputable def gD : aM := mSpec mS (.one .str) (fun x => aO x.1 x.2.1)
noncomputable def mT : List (FuncId × aM) := [(133, uX), (134, jJ)]
theorem wM : bU Tryz.prog GL mT := .cons aLl (by kernel_rfl) (.cons aAz (by kernel_rfl) (.nil))
theorem aAA : gam mT 133 = some uX := rfl
attribute [go_sem] aAA
theorem aAB : gam mT 134 = some jJ := rfl
attribute [go_sem] aAB
set_option maxHeartbeats 4000000 in
theorem uY : FOK Tryz.prog GL 73 gD := by
 refine sR (bL wM) Tryz.func73 rfl (by kernel_rfl) (by decide) fun w0 S x r hw h => ?_
 have hF : jX (fr Tryz.prog (EM mT) S w0 Tryz.f73.ntmps) := ⟨bL wM, mix⟩
 obtain ⟨(s_0 : (List Nat)), (count_1 : Int), u⟩ := x
 simp only [mS, Ty.wf, nM] at hw
 simp only [cA, mS]
 try dsimp only at h
 unfold aO at h
 refine aF (aE hF [0, 1] ?_)
 simp only [go_sem]
 refine aG (aF (aF (aE hF [0, 1, 11] ?_)))
 simp only [go_sem]
 refine aG (gB (aF (aE hF [0, 1, 11, 12] ?_)))
 simp only [go_sem]
 refine aG (bS rfl (fun hc => ?_) (fun hc => ?_))
 ·try simp only [go_sem] at hc
  have h := fN (by first | exact hc | omega | (simpa using hc) | (simp at hc ⊢; omega)) h
  refine aF (aE hF [4] ?_)
  simp only [go_sem]
  obtain rfl := Option.some.inj h
  refine aG (dO (eD (cZ (iT hF [.tmp 4] rfl rfl rfl ?_))))
  (try simp only [jW, bA, go_sem]) <;> first | rfl | (simp; done)
 ·try simp only [go_sem] at hc
  have h := fO (by first | exact hc | omega | (simpa using hc) | (simp at hc ⊢; omega)) h
  refine aF (aE hF [0, 1, 14] ?_)
  simp only [go_sem]
  refine aG (bS rfl (fun hc => ?_) (fun hc => ?_))
  ·try simp only [go_sem] at hc
   have h := fN (by first | exact hc | omega | (simpa using hc) | (simp at hc ⊢; omega)) h
   refine aF (aE hF [4] ?_)
   simp only [go_sem]
   obtain rfl := Option.some.inj h
   refine aG (dO (eD (cZ (iT hF [.tmp 4] rfl rfl rfl ?_))))
   (try simp only [jW, bA, go_sem]) <;> first | rfl | (simp; done)
  ·try simp only [go_sem] at hc
   have h := fO (by first | exact hc | omega | (simpa using hc) | (simp at hc ⊢; omega)) h
   refine cE (fQ (aG (aF (aF (aE hF [0, 1, 18] ?_)))))
   simp only [go_sem]
   refine aG (bS rfl (fun hc => ?_) (fun hc => ?_))
   ·try simp only [go_sem] at hc
    have h := fN (by first | exact hc | omega | (simpa using hc) | (simp at hc ⊢; omega)) h
    cases h
   ·try simp only [go_sem] at hc
    have h := fO (by first | exact hc | omega | (simpa using hc) | (simp at hc ⊢; omega)) h
    refine cE (aG (aF (aE hF [0, 5, 6] ?_)))
    simp only [go_sem]
    obtain ⟨g0, h⟩ := aI h
    repeat (refine ⟨by first | with_reducible assumption | omega | (intros; first | assumption | omega) | (simp only [go_sem] at *; first | assumption | omega) | decide, ?_⟩)
    refine aG (aF (aF (aE hF [0, 6, 34] ?_)))
    simp only [go_sem]
    refine aG (bS rfl (fun hc => ?_) (fun hc => ?_))
    ·try simp only [go_sem] at hc
     have h := fN (by first | exact hc | omega | (simpa using hc) | (simp at hc ⊢; omega)) h
     cases h
    ·try simp only [go_sem] at hc
     have h := fO (by first | exact hc | omega | (simpa using hc) | (simp at hc ⊢; omega)) h
     refine cE (aG (aF (aE hF [0, 7] ?_)))
     simp only [go_sem]
     refine aG (aF (aF (aE hF [0, 7, 40] ?_)))
     simp only [go_sem]
     refine aG (bS rfl (fun hc => ?_) (fun hc => ?_))
     ·try simp only [go_sem] at hc
      have h := fN (by first | exact hc | omega | (simpa using hc) | (simp at hc ⊢; omega)) h
      refine aF (aE hF [4] ?_)
      simp only [go_sem]
      obtain rfl := Option.some.inj h
      refine aG (dO (cZ (iT hF [.tmp 4] rfl rfl rfl ?_)))
      (try simp only [jW, bA, go_sem]) <;> first | rfl | (simp; done)
     ·try simp only [go_sem] at hc
      have h := fO (by first | exact hc | omega | (simpa using hc) | (simp at hc ⊢; omega)) h
      refine cE (aG (jC (D := Unit) (fun d => kA s_0 count_1 = some r) [0, 7] (fun d => []) (fun d => []) ?_ ?_))
      ·refine aF (aE hF [0, 7, 42] ?_)
       simp only [go_sem]
       obtain ⟨g0, h⟩ := aI h
       repeat (refine ⟨by first | with_reducible assumption | omega | (intros; first | assumption | omega) | (simp only [go_sem] at *; first | assumption | omega) | decide, ?_⟩)
       refine aG (gB (jC (D := Bool) (fun d => dC s_0 count_1 d = some r) [0, 7] (fun d => [(43, .val .bool d)]) (fun d => []) ?_ ?_))
       ·refine aF (aE hF [0, 7, 42, 43] ?_)
        simp only [go_sem]
        refine aG (bS rfl (fun hc => ?_) (fun hc => ?_))
        ·try simp only [go_sem] at hc
         have h := fN (by first | exact hc | omega | (simpa using hc) | (simp at hc ⊢; omega)) h
         refine cE (bE (aX ((decide ((s_0.getD (0 : Nat) (0 : Nat)) = (32 : Nat)))) h rfl ?_))
         ·(try simp only [jM, fR, true_or, and_self, go_sem]) <;> (repeat' apply And.intro) <;> first | rfl | (left; rfl) | (right; rfl) | (left; simp only [go_sem]; done) | (right; simp only [go_sem]; done) | (simp; done) | (simp only [*]; done) | omega
        ·try simp only [go_sem] at hc
         have h := fO (by first | exact hc | omega | (simpa using hc) | (simp at hc ⊢; omega)) h
         refine aF (aE hF [0, 7, 42, 43] ?_)
         simp only [go_sem]
         refine aG (bS rfl (fun hc => ?_) (fun hc => ?_))
         ·try simp only [go_sem] at hc
          have h := fN (by first | exact hc | omega | (simpa using hc) | (simp at hc ⊢; omega)) h
          refine cE (bE (aX ((decide ((s_0.getD (0 : Nat) (0 : Nat)) = (45 : Nat)))) h rfl ?_))
          ·(try simp only [jM, fR, true_or, and_self, go_sem]) <;> (repeat' apply And.intro) <;> first | rfl | (left; rfl) | (right; rfl) | (left; simp only [go_sem]; done) | (right; simp only [go_sem]; done) | (simp; done) | (simp only [*]; done) | omega
         ·try simp only [go_sem] at hc
          have h := fO (by first | exact hc | omega | (simpa using hc) | (simp at hc ⊢; omega)) h
          refine aF (aE hF [0, 7, 42, 43] ?_)
          simp only [go_sem]
          refine aG (bS rfl (fun hc => ?_) (fun hc => ?_))
          ·try simp only [go_sem] at hc
           have h := fN (by first | exact hc | omega | (simpa using hc) | (simp at hc ⊢; omega)) h
           refine cE (bE (aX ((decide ((s_0.getD (0 : Nat) (0 : Nat)) = (48 : Nat)))) h rfl ?_))
           ·(try simp only [jM, fR, true_or, and_self, go_sem]) <;> (repeat' apply And.intro) <;> first | rfl | (left; rfl) | (right; rfl) | (left; simp only [go_sem]; done) | (right; simp only [go_sem]; done) | (simp; done) | (simp only [*]; done) | omega
          ·try simp only [go_sem] at hc
           have h := fO (by first | exact hc | omega | (simpa using hc) | (simp at hc ⊢; omega)) h
           refine aF (aE hF [0, 7, 42, 43] ?_)
           simp only [go_sem]
           refine aG (bS rfl (fun hc => ?_) (fun hc => ?_))
           ·try simp only [go_sem] at hc
            have h := fN (by first | exact hc | omega | (simpa using hc) | (simp at hc ⊢; omega)) h
            refine cE (bE (aX ((decide ((s_0.getD (0 : Nat) (0 : Nat)) = (61 : Nat)))) h rfl ?_))
            ·(try simp only [jM, fR, true_or, and_self, go_sem]) <;> (repeat' apply And.intro) <;> first | rfl | (left; rfl) | (right; rfl) | (left; simp only [go_sem]; done) | (right; simp only [go_sem]; done) | (simp; done) | (simp only [*]; done) | omega
           ·try simp only [go_sem] at hc
            have h := fO (by first | exact hc | omega | (simpa using hc) | (simp at hc ⊢; omega)) h
            refine aE hF [0, 7, 43] ?_
            simp only [go_sem]
            refine bE (aX ((decide ((s_0.getD (0 : Nat) (0 : Nat)) = (9 : Nat)))) h rfl ?_)
            ·(try simp only [jM, fR, true_or, and_self, go_sem]) <;> (repeat' apply And.intro) <;> first | rfl | (left; rfl) | (right; rfl) | (left; simp only [go_sem]; done) | (right; simp only [go_sem]; done) | (simp; done) | (simp only [*]; done) | omega
       ·rintro x43_5 h
        try dsimp only at h
        simp only [go_sem]
        unfold dC at h
        refine bS rfl (fun hc => ?_) (fun hc => ?_)
        ·try simp only [go_sem] at hc
         have h := fN (by first | exact hc | omega | (simpa using hc) | (simp at hc ⊢; omega)) h
         refine gB (aF (aE hF [0, 7, 49] ?_))
         simp only [go_sem]
         obtain ⟨g0, h⟩ := aI h
         repeat (refine ⟨by first | with_reducible assumption | omega | (intros; first | assumption | omega) | (simp only [go_sem] at *; first | assumption | omega) | (intro q0; (try have e0 := g0 (by first | exact q0 | omega | (simpa using q0))); first | assumption | omega) | decide, ?_⟩)
         refine aG (bS rfl (fun hc => ?_) (fun hc => ?_))
         ·try simp only [go_sem] at hc
          have h := fN (by first | exact hc | omega | (simpa using hc) | (simp at hc ⊢; omega)) h
          refine aF (aE hF [4] ?_)
          simp only [go_sem]
          obtain ⟨g0, h⟩ := aI h
          repeat (refine ⟨by first | with_reducible assumption | omega | (intros; first | assumption | omega) | (simp only [go_sem] at *; first | assumption | omega) | decide, ?_⟩)
          obtain rfl := Option.some.inj h
          refine aG (dO (eD (eD (cZ (iT hF [.tmp 4] rfl rfl rfl ?_)))))
          (try simp only [jW, bA, go_sem]) <;> first | rfl | (simp; done)
         ·try simp only [go_sem] at hc
          have h := fO (by first | exact hc | omega | (simpa using hc) | (simp at hc ⊢; omega)) h
          refine aF (aE hF [0, 7, 58] ?_)
          simp only [go_sem]
          obtain ⟨g0, h⟩ := aI h
          repeat (refine ⟨by first | with_reducible assumption | omega | (intros; first | assumption | omega) | (simp only [go_sem] at *; first | assumption | omega) | (intro q0; (try have e0 := g0 (by first | exact q0 | omega | (simpa using q0))); first | assumption | omega) | decide, ?_⟩)
          refine aG (bS rfl (fun hc => ?_) (fun hc => ?_))
          ·try simp only [go_sem] at hc
           have h := fN (by first | exact hc | omega | (simpa using hc) | (simp at hc ⊢; omega)) h
           refine aF (aE hF [4] ?_)
           simp only [go_sem]
           obtain ⟨g0, h⟩ := aI h
           repeat (refine ⟨by first | with_reducible assumption | omega | (intros; first | assumption | omega) | (simp only [go_sem] at *; first | assumption | omega) | decide, ?_⟩)
           obtain rfl := Option.some.inj h
           refine aG (dO (eD (eD (cZ (iT hF [.tmp 4] rfl rfl rfl ?_)))))
           (try simp only [jW, bA, go_sem]) <;> first | rfl | (simp; done)
          ·try simp only [go_sem] at hc
           have h := fO (by first | exact hc | omega | (simpa using hc) | (simp at hc ⊢; omega)) h
           refine aF (aE hF [0, 7, 67] ?_)
           simp only [go_sem]
           obtain ⟨g0, h⟩ := aI h
           repeat (refine ⟨by first | with_reducible assumption | omega | (intros; first | assumption | omega) | (simp only [go_sem] at *; first | assumption | omega) | (intro q0; (try have e0 := g0 (by first | exact q0 | omega | (simpa using q0))); first | assumption | omega) | decide, ?_⟩)
           refine aG (bS rfl (fun hc => ?_) (fun hc => ?_))
           ·try simp only [go_sem] at hc
            have h := fN (by first | exact hc | omega | (simpa using hc) | (simp at hc ⊢; omega)) h
            refine aF (aE hF [4] ?_)
            simp only [go_sem]
            obtain ⟨g0, h⟩ := aI h
            repeat (refine ⟨by first | with_reducible assumption | omega | (intros; first | assumption | omega) | (simp only [go_sem] at *; first | assumption | omega) | decide, ?_⟩)
            obtain rfl := Option.some.inj h
            refine aG (dO (eD (eD (cZ (iT hF [.tmp 4] rfl rfl rfl ?_)))))
            (try simp only [jW, bA, go_sem]) <;> first | rfl | (simp; done)
           ·try simp only [go_sem] at hc
            have h := fO (by first | exact hc | omega | (simpa using hc) | (simp at hc ⊢; omega)) h
            refine aF (aE hF [0, 7, 76] ?_)
            simp only [go_sem]
            obtain ⟨g0, h⟩ := aI h
            repeat (refine ⟨by first | with_reducible assumption | omega | (intros; first | assumption | omega) | (simp only [go_sem] at *; first | assumption | omega) | (intro q0; (try have e0 := g0 (by first | exact q0 | omega | (simpa using q0))); first | assumption | omega) | decide, ?_⟩)
            refine aG (bS rfl (fun hc => ?_) (fun hc => ?_))
            ·try simp only [go_sem] at hc
             have h := fN (by first | exact hc | omega | (simpa using hc) | (simp at hc ⊢; omega)) h
             refine aF (aE hF [4] ?_)
             simp only [go_sem]
             obtain ⟨g0, h⟩ := aI h
             repeat (refine ⟨by first | with_reducible assumption | omega | (intros; first | assumption | omega) | (simp only [go_sem] at *; first | assumption | omega) | decide, ?_⟩)
             obtain rfl := Option.some.inj h
             refine aG (dO (eD (eD (cZ (iT hF [.tmp 4] rfl rfl rfl ?_)))))
             (try simp only [jW, bA, go_sem]) <;> first | rfl | (simp; done)
            ·try simp only [go_sem] at hc
             have h := fO (by first | exact hc | omega | (simpa using hc) | (simp at hc ⊢; omega)) h
             refine aF (aE hF [0, 7, 85] ?_)
             simp only [go_sem]
             obtain ⟨g0, h⟩ := aI h
             repeat (refine ⟨by first | with_reducible assumption | omega | (intros; first | assumption | omega) | (simp only [go_sem] at *; first | assumption | omega) | (intro q0; (try have e0 := g0 (by first | exact q0 | omega | (simpa using q0))); first | assumption | omega) | decide, ?_⟩)
             refine aG (bS rfl (fun hc => ?_) (fun hc => ?_))
             ·try simp only [go_sem] at hc
              have h := fN (by first | exact hc | omega | (simpa using hc) | (simp at hc ⊢; omega)) h
              refine aF (aE hF [4] ?_)
              simp only [go_sem]
              obtain ⟨g0, h⟩ := aI h
              repeat (refine ⟨by first | with_reducible assumption | omega | (intros; first | assumption | omega) | (simp only [go_sem] at *; first | assumption | omega) | decide, ?_⟩)
              obtain rfl := Option.some.inj h
              refine aG (dO (eD (eD (cZ (iT hF [.tmp 4] rfl rfl rfl ?_)))))
              (try simp only [jW, bA, go_sem]) <;> first | rfl | (simp; done)
             ·try simp only [go_sem] at hc
              have h := fO (by first | exact hc | omega | (simpa using hc) | (simp at hc ⊢; omega)) h
              refine cE (fQ (fQ (bE (aX (()) h rfl ?_))))
              ·(try simp only [jM, fR, true_or, and_self, go_sem]) <;> (repeat' apply And.intro) <;> first | rfl | (left; rfl) | (right; rfl) | (left; simp only [go_sem]; done) | (right; simp only [go_sem]; done) | (simp; done) | (simp only [*]; done) | omega
        ·try simp only [go_sem] at hc
         have h := fO (by first | exact hc | omega | (simpa using hc) | (simp at hc ⊢; omega)) h
         refine cE (fQ (bE (aX (()) h rfl ?_)))
         ·(try simp only [jM, fR, true_or, and_self, go_sem]) <;> (repeat' apply And.intro) <;> first | rfl | (left; rfl) | (right; rfl) | (left; simp only [go_sem]; done) | (right; simp only [go_sem]; done) | (simp; done) | (simp only [*]; done) | omega
      ·rintro u h
       try dsimp only at h
       simp only [go_sem]
       unfold kA at h
       refine aF (aE hF [0, 7, 8] ?_)
       simp only [go_sem]
       refine aG (jC (D := Int) (fun d => gV d = some r) [0, 7] (fun d => [(8, .val (.i .i64) d)]) (fun d => []) ?_ ?_)
       ·refine aF (aE hF [0, 7, 8, 96] ?_)
        simp only [go_sem]
        refine aG (bS rfl (fun hc => ?_) (fun hc => ?_))
        ·try simp only [go_sem] at hc
         have h := fN (by first | exact hc | omega | (simpa using hc) | (simp at hc ⊢; omega)) h
         refine aF (aE hF [0, 7, 8] ?_)
         simp only [go_sem]
         obtain ⟨g0, h⟩ := aI h
         obtain ⟨g1, h⟩ := aI h
         obtain ⟨g2, h⟩ := aI h
         try simp only [I64, I32] at g1
         try simp only [I64, I32] at g2
         repeat (refine ⟨by first | with_reducible assumption | omega | (intros; first | assumption | omega) | (simp only [go_sem] at *; first | assumption | omega) | decide, ?_⟩)
         refine aG (aF (aE hF [0, 7, 8, 104] ?_))
         simp only [go_sem]
         refine aG (bS rfl (fun hc => ?_) (fun hc => ?_))
         ·try simp only [go_sem] at hc
          have h := fN (by first | exact hc | omega | (simpa using hc) | (simp at hc ⊢; omega)) h
          refine aE hF [0, 7, 8] ?_
          simp only [go_sem]
          refine bE (aX ((((s_0.length) : Nat) : Int)) h rfl ?_)
          ·(try simp only [jM, fR, true_or, and_self, go_sem]) <;> (repeat' apply And.intro) <;> first | rfl | (left; rfl) | (right; rfl) | (left; simp only [go_sem]; done) | (right; simp only [go_sem]; done) | (simp; done) | (simp only [*]; done) | omega
         ·try simp only [go_sem] at hc
          have h := fO (by first | exact hc | omega | (simpa using hc) | (simp at hc ⊢; omega)) h
          refine cE (bE (aX (((Int.tdiv (8192 : Int) (((s_0.length) : Nat) : Int)) * (((s_0.length) : Nat) : Int))) h rfl ?_))
          ·(try simp only [jM, fR, true_or, and_self, go_sem]) <;> (repeat' apply And.intro) <;> first | rfl | (left; rfl) | (right; rfl) | (left; simp only [go_sem]; done) | (right; simp only [go_sem]; done) | (simp; done) | (simp only [*]; done) | omega
        ·try simp only [go_sem] at hc
         have h := fO (by first | exact hc | omega | (simpa using hc) | (simp at hc ⊢; omega)) h
         refine cE (bE (aX ((IntKind.i64.wrap ((((((bH (((((s_0.length) : Nat) : Int) % (18446744073709551616 : Int)).toNat) ((count_1 % (18446744073709551616 : Int)).toNat)).getD ((0 : Nat), (0 : Nat), ())).2).1) : Nat) : Int))) h rfl ?_))
         ·(try simp only [jM, fR, true_or, and_self, go_sem]) <;> (repeat' apply And.intro) <;> first | rfl | (left; rfl) | (right; rfl) | (left; simp only [go_sem]; done) | (right; simp only [go_sem]; done) | (simp; done) | (simp only [*]; done) | omega
       ·rintro chunkMax_4 h
        try dsimp only at h
        simp only [go_sem]
        unfold gV at h
        cases h
attribute [go_sem] gD
end Nu
end Go.Proofs
namespace Go.Proofs
open Go.Vc
set_option maxRecDepth 20000
namespace Nu
noncomputable def eJ (a_0 : (Bool × ((List Nat) × (Int × Unit)))) (b_1 : (Bool × ((List Nat) × (Int × Unit)))) (i_5 : Int) : Option ((Int) ⊕ ((Unit) ⊕ Bool)) :=
 if i_5 < (((((a_0.2).1).length) : Nat) : Int) then ck (0 ≤ i_5 ∧ i_5 < (((((a_0.2).1).length) : Nat) : Int)) (ck (0 ≤ i_5 ∧ i_5 < (((((b_1.2).1).length) : Nat) : Int)) (if ¬ ((((a_0.2).1).getD (i_5.toNat) (0 : Nat)) = (((b_1.2).1).getD (i_5.toNat) (0 : Nat))) then some (.inr (.inr false)) else ck (I64 (i_5 + (1 : Int))) (some (.inl (i_5 + (1 : Int)))))) else some (.inr (.inl ()))
noncomputable def eF (a_0 : (Bool × ((List Nat) × (Int × Unit)))) (b_1 : (Bool × ((List Nat) × (Int × Unit)))) : Option Bool :=
 if ((((a_0.1) != (b_1.1)) = true) ∨ (¬ ((((a_0.2).2).1) = (((b_1.2).2).1)))) ∨ (¬ ((((((a_0.2).1).length) : Nat) : Int) = (((((b_1.2).1).length) : Nat) : Int))) then some false else (dG (fun d : Int => eJ a_0 b_1 d) (0 : Int)).bind (fun e => match e with | (.inl e) => some true | (.inr e) => some e)
def wN : PlR := ⟨[(0, .B [2, 3]), (1, .A [2, 3, 26]), (2, .A [4]), (3, .A [2, 3, 5]), (4, .A [2, 3, 5, 31]), (5, .A [2, 3, 5]), (6, .A [2, 3, 5, 44]), (7, .A [4]), (8, .A [4])], []⟩
def yO : Ty := .pair (.pair .bool (.pair (.sl (.u .u64)) (.pair (.i .i64) .unit))) (.pair (.pair .bool (.pair (.sl (.u .u64)) (.pair (.i .i64) .unit))) .unit)
noncomputable def mU : aM := mSpec yO (.one .bool) (fun x => eF x.1 x.2.1)
noncomputable def aEL : List (FuncId × aM) := []
theorem aEM : bU Tryz.prog GL aEL := .nil
attribute [go_sem] yO wN
set_option maxHeartbeats 4000000 in
theorem aDf : FOK Tryz.prog GL 26 mU := by
 refine cB (bL aEM) mix Tryz.func26 rfl (by kernel_rfl) (by decide) wN fun w0 S x Θ hw h hF => ?_
 obtain ⟨(a_0 : (Bool × ((List Nat) × (Int × Unit)))), (b_1 : (Bool × ((List Nat) × (Int × Unit)))), u⟩ := x
 simp only [cA, go_sem]
 replace h : sat (eF a_0 b_1) _ := h
 unfold eF at h
 refine ⟨fun hc => ?_, fun hc => ?_⟩
 ·replace h := gS hc h
  exact aS hF [.tmp 4] rfl rfl rfl (aD h) (by simp only [bA, go_sem])
 ·replace h := gT hc h
  refine dI hF (D := Int) [] (fun d => [(2, .ptr 0 []), (3, .ptr 1 []), (5, .val (.i .i64) d)]) (fun d => [.inr (.box 3 (.val (.pair .bool (.pair (.sl (.u .u64)) (.pair (.i .i64) .unit))) a_0)), .inr (.box 3 (.val (.pair .bool (.pair (.sl (.u .u64)) (.pair (.i .i64) .unit))) b_1))]) h rfl (by simp only [go_sem]) ?_
  rintro i_5 A4 T4 hA4 hE4 h
  simp only [go_sem]
  replace h : sat (eJ a_0 b_1 i_5) _ := h
  unfold eJ at h
  refine jB h (fun hc h => ?_) fun hc h => ?_
  ·refine aH h fun g0 h => aH h fun g1 h => ?_
   refine fD h (fun hc h => ?_) fun hc h => ?_
   ·replace h := hE4 _ (aD h)
    try dsimp only at h
    exact aS hF [.tmp 4] rfl rfl rfl (aD h) (by simp only [bA, go_sem])
   ·refine aH h fun g0 h => ?_
    replace h := hA4 _ (aD h)
    exact aX _ h rfl (by simp only [go_sem])
  ·replace h := hE4 _ (aD h)
   try dsimp only at h
   exact aS hF [.tmp 4] rfl rfl rfl (aD h) (by simp only [bA, go_sem])
attribute [go_sem] mU
noncomputable def dW (a_0 : ((Bool × ((List Nat) × (Int × Unit))) × ((Bool × ((List Nat) × (Int × Unit))) × Unit))) (b_1 : ((Bool × ((List Nat) × (Int × Unit))) × ((Bool × ((List Nat) × (Int × Unit))) × Unit))) : Option Bool :=
 (eF (a_0.1) (b_1.1)).bind (fun v_6 => ck (((v_6 = true) → (((eF ((a_0.2).1) ((b_1.2).1)).isSome = true)))) (some (v_6 && ((eF ((a_0.2).1) ((b_1.2).1)).getD false))))
def aCu : PlR := ⟨[(0, .B [2, 3]), (1, .A [4])], []⟩
def aD7 : Ty := .pair (.pair (.pair .bool (.pair (.sl (.u .u64)) (.pair (.i .i64) .unit))) (.pair (.pair .bool (.pair (.sl (.u .u64)) (.pair (.i .i64) .unit))) .unit)) (.pair (.pair (.pair .bool (.pair (.sl (.u .u64)) (.pair (.i .i64) .unit))) (.pair (.pair .bool (.pair (.sl (.u .u64)) (.pair (.i .i64) .unit))) .unit)) .unit)
noncomputable def sH : aM := mSpec aD7 (.one .bool) (fun x => dW x.1 x.2.1)
noncomputable def aD8 : List (FuncId × aM) := [(26, mU)]
theorem aLm : bU Tryz.prog GL aD8 := .cons aDf (by kernel_rfl) (.nil)
theorem aGM : gam aD8 26 = some mU := rfl
attribute [go_sem] aD7 aCu aGM
set_option maxHeartbeats 4000000 in
theorem aJQ : FOK Tryz.prog GL 25 sH := by
 refine cB (bL aLm) mix Tryz.func25 rfl (by kernel_rfl) (by decide) aCu fun w0 S x Θ hw h hF => ?_
 obtain ⟨(a_0 : ((Bool × ((List Nat) × (Int × Unit))) × ((Bool × ((List Nat) × (Int × Unit))) × Unit))), (b_1 : ((Bool × ((List Nat) × (Int × Unit))) × ((Bool × ((List Nat) × (Int × Unit))) × Unit))), u⟩ := x
 simp only [cA, go_sem]
 replace h : sat (dW a_0 b_1) _ := h
 unfold dW at h
 obtain ⟨v_6, hv, h⟩ := wC h
 try simp only [hv, go_sem]
 refine aH h fun g0 h => ?_
 exact aS hF [.tmp 4] rfl rfl rfl (aD h) (by simp only [bA, go_sem])
attribute [go_sem] sH
end Nu
end Go.Proofs
namespace Go.Proofs
open Go.Vc
set_option maxRecDepth 20000
namespace Nu
noncomputable def cO (a0_0 : (List Nat)) (a1_1 : (List Nat)) (x13_5 : Int) : Option ((Int) ⊕ ((Unit) ⊕ Bool)) :=
 if x13_5 < (((a0_0.length) : Nat) : Int) then ck (0 ≤ x13_5 ∧ x13_5 < (((a0_0.length) : Nat) : Int)) (ck (0 ≤ x13_5 ∧ x13_5 < (((a1_1.length) : Nat) : Int)) (if ¬ ((a0_0.getD (x13_5.toNat) (0 : Nat)) = (a1_1.getD (x13_5.toNat) (0 : Nat))) then some (.inr (.inr false)) else ck (I64 (x13_5 + (1 : Int))) (some (.inl (x13_5 + (1 : Int)))))) else some (.inr (.inl ()))
noncomputable def dD (a0_0 : (List Nat)) (a1_1 : (List Nat)) : Option Bool :=
 if ¬ ((((a0_0.length) : Nat) : Int) = (((a1_1.length) : Nat) : Int)) then some false else (dG (fun d : Int => cO a0_0 a1_1 d) (0 : Int)).bind (fun e => match e with | (.inl e) => some true | (.inr e) => some e)
def oY : PlR := ⟨[(0, .A [0, 1]), (1, .A [0, 1, 10]), (2, .A [4]), (3, .A [0, 1, 12, 13]), (4, .A [0, 1, 12, 13, 14]), (5, .A [0, 1, 5, 12, 13]), (6, .A [0, 1, 12, 13, 24]), (7, .A [4]), (8, .A [0, 1, 12, 13]), (9, .A [4])], []⟩
def pL : Ty := .pair (.sl (.u .u64)) (.pair (.sl (.u .u64)) .unit)
noncomputable def gY : aM := mSpec pL (.one .bool) (fun x => dD x.1 x.2.1)
noncomputable def yZ : List (FuncId × aM) := []
theorem zA : bU Tryz.prog GL yZ := .nil
attribute [go_sem] pL oY
set_option maxHeartbeats 4000000 in
theorem yC : FOK Tryz.prog GL 84 gY := by
 refine cB (bL zA) mix Tryz.func84 rfl (by kernel_rfl) (by decide) oY fun w0 S x Θ hw h hF => ?_
 obtain ⟨(a0_0 : (List Nat)), (a1_1 : (List Nat)), u⟩ := x
 simp only [cA, go_sem]
 replace h : sat (dD a0_0 a1_1) _ := h
 unfold dD at h
 refine fD h (fun hc h => ?_) fun hc h => ?_
 ·exact aS hF [.tmp 4] rfl rfl rfl (aD h) (by simp only [bA, go_sem])
 ·refine dI hF (D := Int) [0, 1, 12] (fun d => [(13, .val (.i .i64) d)]) (fun d => []) h rfl (by simp only [go_sem]) ?_
  rintro x13_5 A4 T4 hA4 hE4 h
  simp only [go_sem]
  replace h : sat (cO a0_0 a1_1 x13_5) _ := h
  unfold cO at h
  refine jB h (fun hc h => ?_) fun hc h => ?_
  ·refine aH h fun g0 h => aH h fun g1 h => ?_
   refine fD h (fun hc h => ?_) fun hc h => ?_
   ·replace h := hE4 _ (aD h)
    try dsimp only at h
    exact aS hF [.tmp 4] rfl rfl rfl (aD h) (by simp only [bA, go_sem])
   ·refine aH h fun g0 h => ?_
    replace h := hA4 _ (aD h)
    exact aX _ h rfl (by simp only [go_sem])
  ·replace h := hE4 _ (aD h)
   try dsimp only at h
   exact aS hF [.tmp 4] rfl rfl rfl (aD h) (by simp only [bA, go_sem])
attribute [go_sem] gY
noncomputable def iQ (l_8 : (List (List Nat))) (out_13 : (List Nat)) (x44_14 : Int) : Option (((List Nat) × Int) ⊕ (((List Nat)))) :=
 if x44_14 < (((l_8.length) : Nat) : Int) then ck (0 ≤ x44_14 ∧ x44_14 < (((l_8.length) : Nat) : Int)) (ck (((l_8.getD (x44_14.toNat) ([] : List Nat)).length) + (out_13.length) ≤ 9223372036854775807) (ck (I64 (x44_14 + (1 : Int))) (some (.inl (((l_8.getD (x44_14.toNat) ([] : List Nat)) ++ out_13), (x44_14 + (1 : Int))))))) else some (.inr out_13)
noncomputable def lH (l_8 : (List (List Nat))) : Option ((List Nat)) :=
 (dG (fun d : (List Nat) × Int => iQ l_8 d.1 d.2) ((aK ⟨#[]⟩), (0 : Int))).bind (fun e => some e)
noncomputable def fX (l_20 : (List (List Nat))) (m_19 : (List Nat)) (s_25 : (List Nat)) : Option (((List Nat) × (List (List Nat))) ⊕ (((List (List Nat))))) :=
 ck (((l_20.length) + (1 : Nat)) * 16 ≤ 140737488355328) (if (((((bB m_19 ([1000000000000000000] : List Nat)).1).length) : Nat) : Int) = (0 : Int) then some (.inr (l_20 ++ ([s_25] : List (List Nat)))) else ck (I64 (((((l_20 ++ ([s_25] : List (List Nat))).length) : Nat) : Int) - (1 : Int))) (ck (I64 ((18 : Int) - (((s_25.length) : Nat) : Int))) (ck (((aO (aK ⟨#[48]⟩) ((18 : Int) - (((s_25.length) : Nat) : Int))).isSome = true)) (ck ((((aO (aK ⟨#[48]⟩) ((18 : Int) - (((s_25.length) : Nat) : Int))).getD ([] : List Nat)).length) + (s_25.length) ≤ 9223372036854775807) (ck (0 ≤ (((((l_20 ++ ([s_25] : List (List Nat))).length) : Nat) : Int) - (1 : Int)) ∧ (((((l_20 ++ ([s_25] : List (List Nat))).length) : Nat) : Int) - (1 : Int)) < ((((l_20 ++ ([s_25] : List (List Nat))).length) : Nat) : Int)) (some (.inl (((bB m_19 ([1000000000000000000] : List Nat)).1), ((l_20 ++ ([s_25] : List (List Nat))).set ((((((l_20 ++ ([s_25] : List (List Nat))).length) : Nat) : Int) - (1 : Int)).toNat) (((aO (aK ⟨#[48]⟩) ((18 : Int) - (((s_25.length) : Nat) : Int))).getD ([] : List Nat)) ++ s_25))))))))))
noncomputable def iD (m_19 : (List Nat)) (l_20 : (List (List Nat))) : Option (((List Nat) × (List (List Nat))) ⊕ (((List (List Nat))))) :=
 ck ((mQ m_19 ([1000000000000000000] : List Nat))) (if (0 : Int) < ((((((bB m_19 ([1000000000000000000] : List Nat)).2).1).length) : Nat) : Int) then ck ((0 : Int) < ((((((bB m_19 ([1000000000000000000] : List Nat)).2).1).length) : Nat) : Int)) (ck (((cS ((((bB m_19 ([1000000000000000000] : List Nat)).2).1).getD (0 : Nat) (0 : Nat)) (10 : Int)).isSome = true)) (fX l_20 m_19 ((cS ((((bB m_19 ([1000000000000000000] : List Nat)).2).1).getD (0 : Nat) (0 : Nat)) (10 : Int)).getD ([] : List Nat)))) else fX l_20 m_19 (aK ⟨#[]⟩))
noncomputable def aR (m_0 : (List Nat)) : Option (List Nat) :=
 (dG (fun d : (List Nat) × (List (List Nat)) => iD d.1 d.2) (m_0, ([] : List (List Nat)))).bind (fun e => lH e)
def aD9 : PlR := ⟨[(0, .A [0]), (1, .A [0, 3]), (2, .A [3, 4, 5]), (3, .A [3, 4, 5, 6]), (4, .A [3, 4, 5, 6, 18]), (5, .A [3, 4, 6]), (6, .B [3, 4, 6]), (7, .A [0, 3, 6]), (8, .A [0, 3, 6, 30]), (9, .B [0, 3]), (10, .A [3, 7]), (11, .A [7, 42, 43, 44]), (12, .A [7, 42, 43, 44, 45]), (13, .A [7, 9, 42, 43, 44]), (14, .A [7, 42, 43, 44]), (15, .A [7, 42, 43, 44]), (16, .A [2])], [(5, 13), (7, 9)]⟩
def aGN : Ty := .pair (.sl (.u .u64)) .unit
noncomputable def uZ : aM := mSpec aGN (.one .str) (fun x => aR x.1)
noncomputable def yD : List (FuncId × aM) := [(132, iZ), (62, iC), (73, gD)]
theorem aMs : bU Tryz.prog GL yD := .cons yY (by kernel_rfl) (.cons vJ (by kernel_rfl) (.cons uY (by kernel_rfl) (.nil)))
theorem aGO : gam yD 132 = some iZ := rfl
theorem aHT : gam yD 62 = some iC := rfl
theorem aHU : gam yD 73 = some gD := rfl
attribute [go_sem] aGN aD9 aGO aHT aHU
set_option maxHeartbeats 4000000 in
theorem aLn : FOK Tryz.prog GL 72 uZ := by
 refine cB (bL aMs) mix Tryz.func72 rfl (by kernel_rfl) (by decide) aD9 fun w0 S x Θ hw h hF => ?_
 obtain ⟨(m_0 : (List Nat)), u⟩ := x
 simp only [cA, go_sem]
 replace h : sat (aR m_0) _ := h
 unfold aR at h
 refine cW hF (D := (List (List Nat))) (fun d => sat (lH d) Θ) [] (fun d => [(3, .own 0)]) (fun d => [.inr (.row 9 .str d)]) ?_ ?_
 ·simp only [go_sem]
  refine aLV 3 9 .str rfl ?_
  simp only [go_sem]
  refine dI hF (D := (List Nat) × (List (List Nat))) [] (fun d => [(0, .val (.sl (.u .u64)) d.1), (3, .own 0)]) (fun d => [.inr (.row 9 .str d.2)]) h rfl (by simp only [go_sem]) ?_
  rintro ⟨m_19, l_20⟩ A2 T2 hA2 hE2 h
  simp only [go_sem]
  replace h : sat (iD m_19 l_20) _ := h
  unfold iD at h
  refine aH h fun g0 h => ?_
  refine cW hF (D := (List Nat)) (fun d => sat (fX l_20 m_19 d) T2) [4] (fun d => [(3, .own 0), (6, .val .str d)]) (fun d => [.inr (.row 9 .str l_20)]) ?_ ?_
  ·simp only [go_sem]
   refine jB h (fun hc h => ?_) fun hc h => ?_
   ·obtain ⟨g0, h⟩ := aN h
    obtain ⟨g1, h⟩ := aN h
    repeat (refine ⟨by omega, ?_⟩)
    exact aX (((cS ((((bB m_19 ([1000000000000000000] : List Nat)).2).1).getD (0 : Nat) (0 : Nat)) (10 : Int)).getD ([] : List Nat))) h rfl (by simp only [go_sem])
   ·exact aX ((aK ⟨#[]⟩)) h rfl (by simp only [go_sem])
  ·rintro s_25 h
   simp only [go_sem]
   replace h : sat (fX l_20 m_19 s_25) _ := h
   unfold fX at h
   obtain ⟨g0, h⟩ := aN h
   repeat (refine ⟨by omega, ?_⟩)
   refine fD h (fun hc h => ?_) fun hc h => ?_
   ·replace h := hE2 _ (aD h)
    try dsimp only at h
    refine zU [1] rfl rfl ?_
    simp only [go_sem]
    exact aX ((l_20 ++ ([s_25] : List (List Nat)))) h rfl (by simp only [go_sem])
   ·obtain ⟨g0, h⟩ := aN h
    repeat (refine ⟨by omega, ?_⟩)
    obtain ⟨g0, h⟩ := aN h
    repeat (refine ⟨by omega, ?_⟩)
    obtain ⟨g0, h⟩ := aN h
    repeat (refine ⟨by omega, ?_⟩)
    obtain ⟨g0, h⟩ := aN h
    repeat (refine ⟨by omega, ?_⟩)
    obtain ⟨g0, h⟩ := aN h
    repeat (refine ⟨by omega, ?_⟩)
    replace h := hA2 _ (aD h)
    refine zU [1] rfl rfl ?_
    simp only [go_sem]
    exact aX _ h rfl (by simp only [go_sem])
 ·rintro l_8 h
  simp only [go_sem]
  replace h : sat (lH l_8) _ := h
  unfold lH at h
  refine dI hF (D := (List Nat) × Int) [43] (fun d => [(7, .val .str d.1), (42, .own 0), (44, .val (.i .i64) d.2)]) (fun d => [.inr (.row 9 .str l_8)]) h rfl (by simp only [go_sem]) ?_
  rintro ⟨out_13, x44_14⟩ A12 T12 hA12 hE12 h
  simp only [go_sem]
  replace h : sat (iQ l_8 out_13 x44_14) _ := h
  unfold iQ at h
  refine jB h (fun hc h => ?_) fun hc h => ?_
  ·obtain ⟨g0, h⟩ := aN h
   repeat (refine ⟨by omega, ?_⟩)
   refine aH h fun g0 h => ?_
   refine aH h fun g0 h => ?_
   replace h := hA12 _ (aD h)
   exact aX _ h rfl (by simp only [go_sem])
  ·replace h := hE12 _ (aD h)
   try dsimp only at h
   exact aS hF [.tmp 2] rfl rfl rfl (aD h) (by simp only [bA, go_sem])
attribute [go_sem] uZ
noncomputable def jT (d_0 : (Bool × ((List Nat) × (Int × Unit)))) (q_4 : (List Nat)) (s_5 : (List Nat)) : Option (((List Nat) × (Int × Unit))) :=
 if ((d_0.1) = true) ∧ ((0 : Int) < (((q_4.length) : Nat) : Int)) then ck (((aK ⟨#[45]⟩).length) + (s_5.length) ≤ 9223372036854775807) (some (((aK ⟨#[45]⟩) ++ s_5), (0 : Int), ())) else some (s_5, (0 : Int), ())
noncomputable def jU (digits_1 : Int) (d_0 : (Bool × ((List Nat) × (Int × Unit)))) (q_4 : (List Nat)) : Option (((List Nat) × (Int × Unit))) :=
 ck (((aR q_4).isSome = true)) (ck (I64 (digits_1 + (1 : Int))) (ck (I64 ((digits_1 + (1 : Int)) - (((((aR q_4).getD ([] : List Nat)).length) : Nat) : Int))) (ck (((aO (aK ⟨#[48]⟩) (max ((digits_1 + (1 : Int)) - (((((aR q_4).getD ([] : List Nat)).length) : Nat) : Int)) (0 : Int))).isSome = true)) (ck ((((aO (aK ⟨#[48]⟩) (max ((digits_1 + (1 : Int)) - (((((aR q_4).getD ([] : List Nat)).length) : Nat) : Int)) (0 : Int))).getD ([] : List Nat)).length) + (((aR q_4).getD ([] : List Nat)).length) ≤ 9223372036854775807) (if (0 : Int) < digits_1 then ck (I64 (((((((aO (aK ⟨#[48]⟩) (max ((digits_1 + (1 : Int)) - (((((aR q_4).getD ([] : List Nat)).length) : Nat) : Int)) (0 : Int))).getD ([] : List Nat)) ++ ((aR q_4).getD ([] : List Nat))).length) : Nat) : Int) - digits_1)) (ck (0 ≤ (((((((aO (aK ⟨#[48]⟩) (max ((digits_1 + (1 : Int)) - (((((aR q_4).getD ([] : List Nat)).length) : Nat) : Int)) (0 : Int))).getD ([] : List Nat)) ++ ((aR q_4).getD ([] : List Nat))).length) : Nat) : Int) - digits_1) ∧ (((((((aO (aK ⟨#[48]⟩) (max ((digits_1 + (1 : Int)) - (((((aR q_4).getD ([] : List Nat)).length) : Nat) : Int)) (0 : Int))).getD ([] : List Nat)) ++ ((aR q_4).getD ([] : List Nat))).length) : Nat) : Int) - digits_1) ≤ ((((((aO (aK ⟨#[48]⟩) (max ((digits_1 + (1 : Int)) - (((((aR q_4).getD ([] : List Nat)).length) : Nat) : Int)) (0 : Int))).getD ([] : List Nat)) ++ ((aR q_4).getD ([] : List Nat))).length) : Nat) : Int)) (ck (((List.take ((((((((aO (aK ⟨#[48]⟩) (max ((digits_1 + (1 : Int)) - (((((aR q_4).getD ([] : List Nat)).length) : Nat) : Int)) (0 : Int))).getD ([] : List Nat)) ++ ((aR q_4).getD ([] : List Nat))).length) : Nat) : Int) - digits_1).toNat) (((aO (aK ⟨#[48]⟩) (max ((digits_1 + (1 : Int)) - (((((aR q_4).getD ([] : List Nat)).length) : Nat) : Int)) (0 : Int))).getD ([] : List Nat)) ++ ((aR q_4).getD ([] : List Nat)))).length) + ((aK ⟨#[46]⟩).length) ≤ 9223372036854775807) (ck (I64 (((((((aO (aK ⟨#[48]⟩) (max ((digits_1 + (1 : Int)) - (((((aR q_4).getD ([] : List Nat)).length) : Nat) : Int)) (0 : Int))).getD ([] : List Nat)) ++ ((aR q_4).getD ([] : List Nat))).length) : Nat) : Int) - digits_1)) (ck (0 ≤ (((((((aO (aK ⟨#[48]⟩) (max ((digits_1 + (1 : Int)) - (((((aR q_4).getD ([] : List Nat)).length) : Nat) : Int)) (0 : Int))).getD ([] : List Nat)) ++ ((aR q_4).getD ([] : List Nat))).length) : Nat) : Int) - digits_1) ∧ (((((((aO (aK ⟨#[48]⟩) (max ((digits_1 + (1 : Int)) - (((((aR q_4).getD ([] : List Nat)).length) : Nat) : Int)) (0 : Int))).getD ([] : List Nat)) ++ ((aR q_4).getD ([] : List Nat))).length) : Nat) : Int) - digits_1) ≤ ((((((aO (aK ⟨#[48]⟩) (max ((digits_1 + (1 : Int)) - (((((aR q_4).getD ([] : List Nat)).length) : Nat) : Int)) (0 : Int))).getD ([] : List Nat)) ++ ((aR q_4).getD ([] : List Nat))).length) : Nat) : Int)) (ck ((((List.take ((((((((aO (aK ⟨#[48]⟩) (max ((digits_1 + (1 : Int)) - (((((aR q_4).getD ([] : List Nat)).length) : Nat) : Int)) (0 : Int))).getD ([] : List Nat)) ++ ((aR q_4).getD ([] : List Nat))).length) : Nat) : Int) - digits_1).toNat) (((aO (aK ⟨#[48]⟩) (max ((digits_1 + (1 : Int)) - (((((aR q_4).getD ([] : List Nat)).length) : Nat) : Int)) (0 : Int))).getD ([] : List Nat)) ++ ((aR q_4).getD ([] : List Nat)))) ++ (aK ⟨#[46]⟩)).length) + ((List.drop ((((((((aO (aK ⟨#[48]⟩) (max ((digits_1 + (1 : Int)) - (((((aR q_4).getD ([] : List Nat)).length) : Nat) : Int)) (0 : Int))).getD ([] : List Nat)) ++ ((aR q_4).getD ([] : List Nat))).length) : Nat) : Int) - digits_1).toNat) (((aO (aK ⟨#[48]⟩) (max ((digits_1 + (1 : Int)) - (((((aR q_4).getD ([] : List Nat)).length) : Nat) : Int)) (0 : Int))).getD ([] : List Nat)) ++ ((aR q_4).getD ([] : List Nat)))).length) ≤ 9223372036854775807) (jT d_0 q_4 (((List.take ((((((((aO (aK ⟨#[48]⟩) (max ((digits_1 + (1 : Int)) - (((((aR q_4).getD ([] : List Nat)).length) : Nat) : Int)) (0 : Int))).getD ([] : List Nat)) ++ ((aR q_4).getD ([] : List Nat))).length) : Nat) : Int) - digits_1).toNat) (((aO (aK ⟨#[48]⟩) (max ((digits_1 + (1 : Int)) - (((((aR q_4).getD ([] : List Nat)).length) : Nat) : Int)) (0 : Int))).getD ([] : List Nat)) ++ ((aR q_4).getD ([] : List Nat)))) ++ (aK ⟨#[46]⟩)) ++ (List.drop ((((((((aO (aK ⟨#[48]⟩) (max ((digits_1 + (1 : Int)) - (((((aR q_4).getD ([] : List Nat)).length) : Nat) : Int)) (0 : Int))).getD ([] : List Nat)) ++ ((aR q_4).getD ([] : List Nat))).length) : Nat) : Int) - digits_1).toNat) (((aO (aK ⟨#[48]⟩) (max ((digits_1 + (1 : Int)) - (((((aR q_4).getD ([] : List Nat)).length) : Nat) : Int)) (0 : Int))).getD ([] : List Nat)) ++ ((aR q_4).getD ([] : List Nat))))))))))) else jT d_0 q_4 (((aO (aK ⟨#[48]⟩) (max ((digits_1 + (1 : Int)) - (((((aR q_4).getD ([] : List Nat)).length) : Nat) : Int)) (0 : Int))).getD ([] : List Nat)) ++ ((aR q_4).getD ([] : List Nat))))))))
noncomputable def aL (d_0 : (Bool × ((List Nat) × (Int × Unit)))) (digits_1 : Int) (up_2 : Bool) : Option ((List Nat) × (Int × Unit)) :=
 ck (((cR d_0).isSome = true)) (if ((¬ (((cR d_0).getD false) = true)) ∨ (digits_1 < (0 : Int))) ∨ ((60 : Int) < digits_1) then some ((aK ⟨#[]⟩), (1 : Int), ()) else if ((2000 : Int) < (((d_0.2).2).1)) ∨ ((((d_0.2).2).1) < (-2000 : Int)) then some ((aK ⟨#[]⟩), (2 : Int), ()) else ck ((aDD ((d_0.2).1) (max (((d_0.2).2).1) (0 : Int)))) (ck (((aZ (10 : Nat) digits_1).isSome = true)) (ck ((aEn (bD ((d_0.2).1) (max (((d_0.2).2).1) (0 : Int))) ((aZ (10 : Nat) digits_1).getD ([] : List Nat)))) (ck (I64 (0 - (((d_0.2).2).1))) (ck ((aC0 (aY (bD ((d_0.2).1) (max (((d_0.2).2).1) (0 : Int))) ((aZ (10 : Nat) digits_1).getD ([] : List Nat))) (max (0 - (((d_0.2).2).1)) (0 : Int)))) (ck ((((0 : Int) < ((((aY (bD ((d_0.2).1) (max (((d_0.2).2).1) (0 : Int))) ((aZ (10 : Nat) digits_1).getD ([] : List Nat))).length) : Nat) : Int)) → ((pSz (aY (bD ((d_0.2).1) (max (((d_0.2).2).1) (0 : Int))) ((aZ (10 : Nat) digits_1).getD ([] : List Nat))))))) (if (((0 : Int) < ((((aY (bD ((d_0.2).1) (max (((d_0.2).2).1) (0 : Int))) ((aZ (10 : Nat) digits_1).getD ([] : List Nat))).length) : Nat) : Int)) ∧ ((bP (aY (bD ((d_0.2).1) (max (((d_0.2).2).1) (0 : Int))) ((aZ (10 : Nat) digits_1).getD ([] : List Nat)))) < (max (0 - (((d_0.2).2).1)) (0 : Int)))) ∧ ((up_2 != (d_0.1)) = true) then ck ((aEn (cD (aY (bD ((d_0.2).1) (max (((d_0.2).2).1) (0 : Int))) ((aZ (10 : Nat) digits_1).getD ([] : List Nat))) (max (0 - (((d_0.2).2).1)) (0 : Int))) ([1] : List Nat))) (jU digits_1 d_0 (fA (cD (aY (bD ((d_0.2).1) (max (((d_0.2).2).1) (0 : Int))) ((aZ (10 : Nat) digits_1).getD ([] : List Nat))) (max (0 - (((d_0.2).2).1)) (0 : Int))) ([1] : List Nat))) else jU digits_1 d_0 (cD (aY (bD ((d_0.2).1) (max (((d_0.2).2).1) (0 : Int))) ((aZ (10 : Nat) digits_1).getD ([] : List Nat))) (max (0 - (((d_0.2).2).1)) (0 : Int))))))))))
def aEa : PlR := ⟨[(0, .B [1, 2, 3]), (1, .A [1, 2, 3, 12]), (2, .A [6, 7]), (3, .A [1, 2, 3, 24]), (4, .A [6, 7]), (5, .A [1, 2, 3, 8]), (6, .A [1, 2, 3, 8, 9]), (7, .A [1, 2, 3, 8, 9, 10]), (8, .A [1, 3, 10, 63]), (9, .A [1, 3, 10]), (10, .A [1, 3, 10, 11]), (11, .A [1, 3, 10, 11]), (12, .A [1, 3, 10, 11, 79]), (13, .A [3, 10, 11]), (14, .A [11, 100]), (15, .A [11]), (16, .A [6, 7])], [(11, 13), (15, 17)]⟩
def aGP : Ty := .pair (.pair .bool (.pair (.sl (.u .u64)) (.pair (.i .i64) .unit))) (.pair (.i .i64) (.pair .bool .unit))
noncomputable def vA : aM := mSpec aGP (.tup (.pair .str (.pair (.i .i64) .unit))) (fun x => aL x.1 x.2.1 x.2.2.1)
noncomputable def jV : List (FuncId × aM) := [(29, fC), (63, eE), (65, jH), (68, iA), (69, fT), (70, jF), (71, kN), (72, uZ), (73, gD)]
theorem aMt : bU Tryz.prog GL jV := .cons qS (by kernel_rfl) (.cons oQ (by kernel_rfl) (.cons yA (by kernel_rfl) (.cons uP (by kernel_rfl) (.cons rV (by kernel_rfl) (.cons xS (by kernel_rfl) (.cons aAh (by kernel_rfl) (.cons aLn (by kernel_rfl) (.cons uY (by kernel_rfl) (.nil)))))))))
theorem aHV : gam jV 29 = some fC := rfl
theorem aHW : gam jV 63 = some eE := rfl
theorem aHX : gam jV 65 = some jH := rfl
theorem aHY : gam jV 68 = some iA := rfl
theorem aHZ : gam jV 69 = some fT := rfl
theorem aH0 : gam jV 70 = some jF := rfl
theorem aH1 : gam jV 71 = some kN := rfl
theorem aH2 : gam jV 72 = some uZ := rfl
theorem aH3 : gam jV 73 = some gD := rfl
attribute [go_sem] aGP aEa aHV aHW aHX aHY aHZ aH0 aH1 aH2 aH3
set_option maxHeartbeats 4000000 in
theorem aLo : FOK Tryz.prog GL 27 vA := by
 refine cB (bL aMt) mix Tryz.func27 rfl (by kernel_rfl) (by decide) aEa fun w0 S x Θ hw h hF => ?_
 obtain ⟨(d_0 : (Bool × ((List Nat) × (Int × Unit)))), (digits_1 : Int), (up_2 : Bool), u⟩ := x
 simp only [cA, go_sem]
 replace h : sat (aL d_0 digits_1 up_2) _ := h
 unfold aL at h
 refine aH h fun g0 h => ?_
 refine ⟨fun hc => ?_, fun hc => ?_⟩
 ·replace h := gS (by first | exact hc | omega | (simpa using hc) | (simp at hc ⊢; omega)) h
  exact aS hF [.tmp 6, .tmp 7] rfl rfl rfl (aD h) (by simp only [bA, go_sem])
 ·replace h := gT (by first | exact hc | omega | (simpa using hc) | (simp at hc ⊢; omega)) h
  refine ⟨fun hc => ?_, fun hc => ?_⟩
  ·replace h := gS hc h
   exact aS hF [.tmp 6, .tmp 7] rfl rfl rfl (aD h) (by simp only [bA, go_sem])
  ·replace h := gT hc h
   refine aH h fun g0 h => aH h fun g1 h => aH h fun g2 h => ?_
   refine aH h fun g0 h => ?_
   refine aH h fun g0 h => ?_
   refine cW hF (D := (List Nat)) (fun d => sat (jU digits_1 d_0 d) Θ) [1] (fun d => [(3, .ptr 0 []), (10, .val (.sl (.u .u64)) d)]) (fun d => [.inr (.box 3 (.val (.pair .bool (.pair (.sl (.u .u64)) (.pair (.i .i64) .unit))) d_0))]) ?_ ?_
   ·simp only [go_sem]
    refine aH h fun g0 h => ?_
    refine ⟨fun hc => ?_, fun hc => ?_⟩
    ·replace h := gS hc h
     refine aH h fun g0 h => ?_
     exact aX ((fA (cD (aY (bD ((d_0.2).1) (max (((d_0.2).2).1) (0 : Int))) ((aZ (10 : Nat) digits_1).getD ([] : List Nat))) (max (0 - (((d_0.2).2).1)) (0 : Int))) ([1] : List Nat))) h rfl (by simp only [go_sem])
    ·replace h := gT hc h
     exact aX ((cD (aY (bD ((d_0.2).1) (max (((d_0.2).2).1) (0 : Int))) ((aZ (10 : Nat) digits_1).getD ([] : List Nat))) (max (0 - (((d_0.2).2).1)) (0 : Int)))) h rfl (by simp only [go_sem])
   ·rintro q_4 h
    simp only [go_sem]
    replace h : sat (jU digits_1 d_0 q_4) _ := h
    unfold jU at h
    refine aH h fun g0 h => ?_
    refine aH h fun g0 h => aH h fun g1 h => aH h fun g2 h => aH h fun g3 h => ?_
    refine cW hF (D := (List Nat)) (fun d => sat (jT d_0 q_4 d) Θ) [10] (fun d => [(3, .ptr 0 []), (11, .val .str d)]) (fun d => [.inr (.box 3 (.val (.pair .bool (.pair (.sl (.u .u64)) (.pair (.i .i64) .unit))) d_0))]) ?_ ?_
    ·simp only [go_sem]
     refine jB h (fun hc h => ?_) fun hc h => ?_
     ·refine aH h fun g0 h => aH h fun g1 h => aH h fun g2 h => aH h fun g3 h => aH h fun g4 h => aH h fun g5 h => ?_
      exact aX ((((List.take ((((((((aO (aK ⟨#[48]⟩) (max ((digits_1 + (1 : Int)) - (((((aR q_4).getD ([] : List Nat)).length) : Nat) : Int)) (0 : Int))).getD ([] : List Nat)) ++ ((aR q_4).getD ([] : List Nat))).length) : Nat) : Int) - digits_1).toNat) (((aO (aK ⟨#[48]⟩) (max ((digits_1 + (1 : Int)) - (((((aR q_4).getD ([] : List Nat)).length) : Nat) : Int)) (0 : Int))).getD ([] : List Nat)) ++ ((aR q_4).getD ([] : List Nat)))) ++ (aK ⟨#[46]⟩)) ++ (List.drop ((((((((aO (aK ⟨#[48]⟩) (max ((digits_1 + (1 : Int)) - (((((aR q_4).getD ([] : List Nat)).length) : Nat) : Int)) (0 : Int))).getD ([] : List Nat)) ++ ((aR q_4).getD ([] : List Nat))).length) : Nat) : Int) - digits_1).toNat) (((aO (aK ⟨#[48]⟩) (max ((digits_1 + (1 : Int)) - (((((aR q_4).getD ([] : List Nat)).length) : Nat) : Int)) (0 : Int))).getD ([] : List Nat)) ++ ((aR q_4).getD ([] : List Nat)))))) h rfl (by simp only [go_sem])
     ·exact aX ((((aO (aK ⟨#[48]⟩) (max ((digits_1 + (1 : Int)) - (((((aR q_4).getD ([] : List Nat)).length) : Nat) : Int)) (0 : Int))).getD ([] : List Nat)) ++ ((aR q_4).getD ([] : List Nat)))) h rfl (by simp only [go_sem])
    ·rintro s_5 h
     simp only [go_sem]
     replace h : sat (jT d_0 q_4 s_5) _ := h
     unfold jT at h
     refine ⟨fun hc => ?_, fun hc => ?_⟩
     ·replace h := gS hc h
      refine aH h fun g0 h => ?_
      exact aS hF [.tmp 6, .tmp 7] rfl rfl rfl (aD h) (by simp only [bA, go_sem])
     ·replace h := gT hc h
      exact aS hF [.tmp 6, .tmp 7] rfl rfl rfl (aD h) (by simp only [bA, go_sem])
attribute [go_sem] vA
noncomputable def dX (a_0 : (Bool × ((List Nat) × (Int × Unit)))) (b_1 : (Bool × ((List Nat) × (Int × Unit)))) : Option Bool :=
 ck ((((((a_0.1) == (b_1.1)) = true) ∧ ((((a_0.2).2).1) = (((b_1.2).2).1))) → (((dD ((a_0.2).1) ((b_1.2).1)).isSome = true)))) (some ((((a_0.1) == (b_1.1)) && (decide ((((a_0.2).2).1) = (((b_1.2).2).1)))) && ((dD ((a_0.2).1) ((b_1.2).1)).getD false)))
def aCv : PlR := ⟨[(0, .B [2, 3]), (1, .A [4])], []⟩
def aEb : Ty := .pair (.pair .bool (.pair (.sl (.u .u64)) (.pair (.i .i64) .unit))) (.pair (.pair .bool (.pair (.sl (.u .u64)) (.pair (.i .i64) .unit))) .unit)
noncomputable def sJ : aM := mSpec aEb (.one .bool) (fun x => dX x.1 x.2.1)
noncomputable def aEc : List (FuncId × aM) := [(84, gY)]
theorem aLp : bU Tryz.prog GL aEc := .cons yC (by kernel_rfl) (.nil)
theorem aGQ : gam aEc 84 = some gY := rfl
attribute [go_sem] aEb aCv aGQ
set_option maxHeartbeats 4000000 in
theorem aJR : FOK Tryz.prog GL 32 sJ := by
 refine cB (bL aLp) mix Tryz.func32 rfl (by kernel_rfl) (by decide) aCv fun w0 S x Θ hw h hF => ?_
 obtain ⟨(a_0 : (Bool × ((List Nat) × (Int × Unit)))), (b_1 : (Bool × ((List Nat) × (Int × Unit)))), u⟩ := x
 simp only [cA, go_sem]
 replace h : sat (dX a_0 b_1) _ := h
 unfold dX at h
 refine aH h fun g0 h => ?_
 exact aS hF [.tmp 4] rfl rfl rfl (aD h) (by simp only [bA, go_sem])
attribute [go_sem] sJ
noncomputable def nY : Option Bool :=
 ck (((aL (false, ([1] : List Nat), (-3 : Int), ()) (2 : Int) false).isSome = true)) (ck (((aL (false, ([1] : List Nat), (-3 : Int), ()) (2 : Int) true).isSome = true)) (ck (((bW (false, ([1] : List Nat), (-3 : Int), ())).isSome = true)) (ck (((aL ((bW (false, ([1] : List Nat), (-3 : Int), ())).getD (false, ([] : List Nat), (0 : Int), ())) (2 : Int) false).isSome = true)) (ck (((bC (aK ⟨#[48, 46, 49, 50, 53]⟩)).isSome = true)) (ck (((bC (aK ⟨#[48, 46, 49]⟩)).isSome = true)) (ck (((bN (aK ⟨#[48, 46, 49]⟩) (20 : Int)).isSome = true)) (ck (I64 (((((aL (false, ([1] : List Nat), (-3 : Int), ()) (2 : Int) false).getD (([] : List Nat), (0 : Int), ())).2).1) + ((((aL (false, ([1] : List Nat), (-3 : Int), ()) (2 : Int) true).getD (([] : List Nat), (0 : Int), ())).2).1))) (ck (I64 ((((((aL (false, ([1] : List Nat), (-3 : Int), ()) (2 : Int) false).getD (([] : List Nat), (0 : Int), ())).2).1) + ((((aL (false, ([1] : List Nat), (-3 : Int), ()) (2 : Int) true).getD (([] : List Nat), (0 : Int), ())).2).1)) + ((((aL ((bW (false, ([1] : List Nat), (-3 : Int), ())).getD (false, ([] : List Nat), (0 : Int), ())) (2 : Int) false).getD (([] : List Nat), (0 : Int), ())).2).1))) (ck (I64 (((((((aL (false, ([1] : List Nat), (-3 : Int), ()) (2 : Int) false).getD (([] : List Nat), (0 : Int), ())).2).1) + ((((aL (false, ([1] : List Nat), (-3 : Int), ()) (2 : Int) true).getD (([] : List Nat), (0 : Int), ())).2).1)) + ((((aL ((bW (false, ([1] : List Nat), (-3 : Int), ())).getD (false, ([] : List Nat), (0 : Int), ())) (2 : Int) false).getD (([] : List Nat), (0 : Int), ())).2).1)) + ((((bC (aK ⟨#[48, 46, 49, 50, 53]⟩)).getD ((false, ([] : List Nat), (0 : Int), ()), (0 : Int), ())).2).1))) (ck (I64 ((((((((aL (false, ([1] : List Nat), (-3 : Int), ()) (2 : Int) false).getD (([] : List Nat), (0 : Int), ())).2).1) + ((((aL (false, ([1] : List Nat), (-3 : Int), ()) (2 : Int) true).getD (([] : List Nat), (0 : Int), ())).2).1)) + ((((aL ((bW (false, ([1] : List Nat), (-3 : Int), ())).getD (false, ([] : List Nat), (0 : Int), ())) (2 : Int) false).getD (([] : List Nat), (0 : Int), ())).2).1)) + ((((bC (aK ⟨#[48, 46, 49, 50, 53]⟩)).getD ((false, ([] : List Nat), (0 : Int), ()), (0 : Int), ())).2).1)) + ((((bN (aK ⟨#[48, 46, 49]⟩) (20 : Int)).getD (((false, ([] : List Nat), (0 : Int), ()), (false, ([] : List Nat), (0 : Int), ()), ()), (0 : Int), ())).2).1))) (ck ((((((((((((((aL (false, ([1] : List Nat), (-3 : Int), ()) (2 : Int) false).getD (([] : List Nat), (0 : Int), ())).2).1) + ((((aL (false, ([1] : List Nat), (-3 : Int), ()) (2 : Int) true).getD (([] : List Nat), (0 : Int), ())).2).1)) + ((((aL ((bW (false, ([1] : List Nat), (-3 : Int), ())).getD (false, ([] : List Nat), (0 : Int), ())) (2 : Int) false).getD (([] : List Nat), (0 : Int), ())).2).1)) + ((((bC (aK ⟨#[48, 46, 49, 50, 53]⟩)).getD ((false, ([] : List Nat), (0 : Int), ()), (0 : Int), ())).2).1)) + ((((bN (aK ⟨#[48, 46, 49]⟩) (20 : Int)).getD (((false, ([] : List Nat), (0 : Int), ()), (false, ([] : List Nat), (0 : Int), ()), ()), (0 : Int), ())).2).1)) = (0 : Int)) ∧ ((((aL (false, ([1] : List Nat), (-3 : Int), ()) (2 : Int) false).getD (([] : List Nat), (0 : Int), ())).1) = (aK ⟨#[48, 46, 49, 50]⟩))) ∧ ((((aL (false, ([1] : List Nat), (-3 : Int), ()) (2 : Int) true).getD (([] : List Nat), (0 : Int), ())).1) = (aK ⟨#[48, 46, 49, 51]⟩))) ∧ ((((aL ((bW (false, ([1] : List Nat), (-3 : Int), ())).getD (false, ([] : List Nat), (0 : Int), ())) (2 : Int) false).getD (([] : List Nat), (0 : Int), ())).1) = (aK ⟨#[45, 48, 46, 49, 51]⟩))) → (((dX (((bC (aK ⟨#[48, 46, 49, 50, 53]⟩)).getD ((false, ([] : List Nat), (0 : Int), ()), (0 : Int), ())).1) (false, ([1] : List Nat), (-3 : Int), ())).isSome = true)))) (ck ((((((((((((((((aL (false, ([1] : List Nat), (-3 : Int), ()) (2 : Int) false).getD (([] : List Nat), (0 : Int), ())).2).1) + ((((aL (false, ([1] : List Nat), (-3 : Int), ()) (2 : Int) true).getD (([] : List Nat), (0 : Int), ())).2).1)) + ((((aL ((bW (false, ([1] : List Nat), (-3 : Int), ())).getD (false, ([] : List Nat), (0 : Int), ())) (2 : Int) false).getD (([] : List Nat), (0 : Int), ())).2).1)) + ((((bC (aK ⟨#[48, 46, 49, 50, 53]⟩)).getD ((false, ([] : List Nat), (0 : Int), ()), (0 : Int), ())).2).1)) + ((((bN (aK ⟨#[48, 46, 49]⟩) (20 : Int)).getD (((false, ([] : List Nat), (0 : Int), ()), (false, ([] : List Nat), (0 : Int), ()), ()), (0 : Int), ())).2).1)) = (0 : Int)) ∧ ((((aL (false, ([1] : List Nat), (-3 : Int), ()) (2 : Int) false).getD (([] : List Nat), (0 : Int), ())).1) = (aK ⟨#[48, 46, 49, 50]⟩))) ∧ ((((aL (false, ([1] : List Nat), (-3 : Int), ()) (2 : Int) true).getD (([] : List Nat), (0 : Int), ())).1) = (aK ⟨#[48, 46, 49, 51]⟩))) ∧ ((((aL ((bW (false, ([1] : List Nat), (-3 : Int), ())).getD (false, ([] : List Nat), (0 : Int), ())) (2 : Int) false).getD (([] : List Nat), (0 : Int), ())).1) = (aK ⟨#[45, 48, 46, 49, 51]⟩))) ∧ (((dX (((bC (aK ⟨#[48, 46, 49, 50, 53]⟩)).getD ((false, ([] : List Nat), (0 : Int), ()), (0 : Int), ())).1) (false, ([1] : List Nat), (-3 : Int), ())).getD false) = true)) ∧ (((((bC (aK ⟨#[48, 46, 49]⟩)).getD ((false, ([] : List Nat), (0 : Int), ()), (0 : Int), ())).2).1) = (6 : Int))) → (((fH ((((bN (aK ⟨#[48, 46, 49]⟩) (20 : Int)).getD (((false, ([] : List Nat), (0 : Int), ()), (false, ([] : List Nat), (0 : Int), ()), ()), (0 : Int), ())).1).1) (((((bN (aK ⟨#[48, 46, 49]⟩) (20 : Int)).getD (((false, ([] : List Nat), (0 : Int), ()), (false, ([] : List Nat), (0 : Int), ()), ()), (0 : Int), ())).1).2).1)).isSome = true)))) (ck (((((((((((((((((aL (false, ([1] : List Nat), (-3 : Int), ()) (2 : Int) false).getD (([] : List Nat), (0 : Int), ())).2).1) + ((((aL (false, ([1] : List Nat), (-3 : Int), ()) (2 : Int) true).getD (([] : List Nat), (0 : Int), ())).2).1)) + ((((aL ((bW (false, ([1] : List Nat), (-3 : Int), ())).getD (false, ([] : List Nat), (0 : Int), ())) (2 : Int) false).getD (([] : List Nat), (0 : Int), ())).2).1)) + ((((bC (aK ⟨#[48, 46, 49, 50, 53]⟩)).getD ((false, ([] : List Nat), (0 : Int), ()), (0 : Int), ())).2).1)) + ((((bN (aK ⟨#[48, 46, 49]⟩) (20 : Int)).getD (((false, ([] : List Nat), (0 : Int), ()), (false, ([] : List Nat), (0 : Int), ()), ()), (0 : Int), ())).2).1)) = (0 : Int)) ∧ ((((aL (false, ([1] : List Nat), (-3 : Int), ()) (2 : Int) false).getD (([] : List Nat), (0 : Int), ())).1) = (aK ⟨#[48, 46, 49, 50]⟩))) ∧ ((((aL (false, ([1] : List Nat), (-3 : Int), ()) (2 : Int) true).getD (([] : List Nat), (0 : Int), ())).1) = (aK ⟨#[48, 46, 49, 51]⟩))) ∧ ((((aL ((bW (false, ([1] : List Nat), (-3 : Int), ())).getD (false, ([] : List Nat), (0 : Int), ())) (2 : Int) false).getD (([] : List Nat), (0 : Int), ())).1) = (aK ⟨#[45, 48, 46, 49, 51]⟩))) ∧ (((dX (((bC (aK ⟨#[48, 46, 49, 50, 53]⟩)).getD ((false, ([] : List Nat), (0 : Int), ()), (0 : Int), ())).1) (false, ([1] : List Nat), (-3 : Int), ())).getD false) = true)) ∧ (((((bC (aK ⟨#[48, 46, 49]⟩)).getD ((false, ([] : List Nat), (0 : Int), ()), (0 : Int), ())).2).1) = (6 : Int))) ∧ (((fH ((((bN (aK ⟨#[48, 46, 49]⟩) (20 : Int)).getD (((false, ([] : List Nat), (0 : Int), ()), (false, ([] : List Nat), (0 : Int), ()), ()), (0 : Int), ())).1).1) (((((bN (aK ⟨#[48, 46, 49]⟩) (20 : Int)).getD (((false, ([] : List Nat), (0 : Int), ()), (false, ([] : List Nat), (0 : Int), ()), ()), (0 : Int), ())).1).2).1)).getD (0 : Int)) < (0 : Int))) → (((bR (aK ⟨#[49, 46, 53, 101, 45, 51]⟩)).isSome = true)))) (ck ((((((((((((((((((aL (false, ([1] : List Nat), (-3 : Int), ()) (2 : Int) false).getD (([] : List Nat), (0 : Int), ())).2).1) + ((((aL (false, ([1] : List Nat), (-3 : Int), ()) (2 : Int) true).getD (([] : List Nat), (0 : Int), ())).2).1)) + ((((aL ((bW (false, ([1] : List Nat), (-3 : Int), ())).getD (false, ([] : List Nat), (0 : Int), ())) (2 : Int) false).getD (([] : List Nat), (0 : Int), ())).2).1)) + ((((bC (aK ⟨#[48, 46, 49, 50, 53]⟩)).getD ((false, ([] : List Nat), (0 : Int), ()), (0 : Int), ())).2).1)) + ((((bN (aK ⟨#[48, 46, 49]⟩) (20 : Int)).getD (((false, ([] : List Nat), (0 : Int), ()), (false, ([] : List Nat), (0 : Int), ()), ()), (0 : Int), ())).2).1)) = (0 : Int)) ∧ ((((aL (false, ([1] : List Nat), (-3 : Int), ()) (2 : Int) false).getD (([] : List Nat), (0 : Int), ())).1) = (aK ⟨#[48, 46, 49, 50]⟩))) ∧ ((((aL (false, ([1] : List Nat), (-3 : Int), ()) (2 : Int) true).getD (([] : List Nat), (0 : Int), ())).1) = (aK ⟨#[48, 46, 49, 51]⟩))) ∧ ((((aL ((bW (false, ([1] : List Nat), (-3 : Int), ())).getD (false, ([] : List Nat), (0 : Int), ())) (2 : Int) false).getD (([] : List Nat), (0 : Int), ())).1) = (aK ⟨#[45, 48, 46, 49, 51]⟩))) ∧ (((dX (((bC (aK ⟨#[48, 46, 49, 50, 53]⟩)).getD ((false, ([] : List Nat), (0 : Int), ()), (0 : Int), ())).1) (false, ([1] : List Nat), (-3 : Int), ())).getD false) = true)) ∧ (((((bC (aK ⟨#[48, 46, 49]⟩)).getD ((false, ([] : List Nat), (0 : Int), ()), (0 : Int), ())).2).1) = (6 : Int))) ∧ (((fH ((((bN (aK ⟨#[48, 46, 49]⟩) (20 : Int)).getD (((false, ([] : List Nat), (0 : Int), ()), (false, ([] : List Nat), (0 : Int), ()), ()), (0 : Int), ())).1).1) (((((bN (aK ⟨#[48, 46, 49]⟩) (20 : Int)).getD (((false, ([] : List Nat), (0 : Int), ()), (false, ([] : List Nat), (0 : Int), ()), ()), (0 : Int), ())).1).2).1)).getD (0 : Int)) < (0 : Int))) ∧ (((bR (aK ⟨#[49, 46, 53, 101, 45, 51]⟩)).getD false) = true)) → (((bR (aK ⟨#[49, 46]⟩)).isSome = true)))) (ck (((((((((((((((((((aL (false, ([1] : List Nat), (-3 : Int), ()) (2 : Int) false).getD (([] : List Nat), (0 : Int), ())).2).1) + ((((aL (false, ([1] : List Nat), (-3 : Int), ()) (2 : Int) true).getD (([] : List Nat), (0 : Int), ())).2).1)) + ((((aL ((bW (false, ([1] : List Nat), (-3 : Int), ())).getD (false, ([] : List Nat), (0 : Int), ())) (2 : Int) false).getD (([] : List Nat), (0 : Int), ())).2).1)) + ((((bC (aK ⟨#[48, 46, 49, 50, 53]⟩)).getD ((false, ([] : List Nat), (0 : Int), ()), (0 : Int), ())).2).1)) + ((((bN (aK ⟨#[48, 46, 49]⟩) (20 : Int)).getD (((false, ([] : List Nat), (0 : Int), ()), (false, ([] : List Nat), (0 : Int), ()), ()), (0 : Int), ())).2).1)) = (0 : Int)) ∧ ((((aL (false, ([1] : List Nat), (-3 : Int), ()) (2 : Int) false).getD (([] : List Nat), (0 : Int), ())).1) = (aK ⟨#[48, 46, 49, 50]⟩))) ∧ ((((aL (false, ([1] : List Nat), (-3 : Int), ()) (2 : Int) true).getD (([] : List Nat), (0 : Int), ())).1) = (aK ⟨#[48, 46, 49, 51]⟩))) ∧ ((((aL ((bW (false, ([1] : List Nat), (-3 : Int), ())).getD (false, ([] : List Nat), (0 : Int), ())) (2 : Int) false).getD (([] : List Nat), (0 : Int), ())).1) = (aK ⟨#[45, 48, 46, 49, 51]⟩))) ∧ (((dX (((bC (aK ⟨#[48, 46, 49, 50, 53]⟩)).getD ((false, ([] : List Nat), (0 : Int), ()), (0 : Int), ())).1) (false, ([1] : List Nat), (-3 : Int), ())).getD false) = true)) ∧ (((((bC (aK ⟨#[48, 46, 49]⟩)).getD ((false, ([] : List Nat), (0 : Int), ()), (0 : Int), ())).2).1) = (6 : Int))) ∧ (((fH ((((bN (aK ⟨#[48, 46, 49]⟩) (20 : Int)).getD (((false, ([] : List Nat), (0 : Int), ()), (false, ([] : List Nat), (0 : Int), ()), ()), (0 : Int), ())).1).1) (((((bN (aK ⟨#[48, 46, 49]⟩) (20 : Int)).getD (((false, ([] : List Nat), (0 : Int), ()), (false, ([] : List Nat), (0 : Int), ()), ()), (0 : Int), ())).1).2).1)).getD (0 : Int)) < (0 : Int))) ∧ (((bR (aK ⟨#[49, 46, 53, 101, 45, 51]⟩)).getD false) = true)) ∧ (¬ (((bR (aK ⟨#[49, 46]⟩)).getD false) = true))) → (((bR (aK ⟨#[46, 53]⟩)).isSome = true)))) (ck ((((((((((((((((((((aL (false, ([1] : List Nat), (-3 : Int), ()) (2 : Int) false).getD (([] : List Nat), (0 : Int), ())).2).1) + ((((aL (false, ([1] : List Nat), (-3 : Int), ()) (2 : Int) true).getD (([] : List Nat), (0 : Int), ())).2).1)) + ((((aL ((bW (false, ([1] : List Nat), (-3 : Int), ())).getD (false, ([] : List Nat), (0 : Int), ())) (2 : Int) false).getD (([] : List Nat), (0 : Int), ())).2).1)) + ((((bC (aK ⟨#[48, 46, 49, 50, 53]⟩)).getD ((false, ([] : List Nat), (0 : Int), ()), (0 : Int), ())).2).1)) + ((((bN (aK ⟨#[48, 46, 49]⟩) (20 : Int)).getD (((false, ([] : List Nat), (0 : Int), ()), (false, ([] : List Nat), (0 : Int), ()), ()), (0 : Int), ())).2).1)) = (0 : Int)) ∧ ((((aL (false, ([1] : List Nat), (-3 : Int), ()) (2 : Int) false).getD (([] : List Nat), (0 : Int), ())).1) = (aK ⟨#[48, 46, 49, 50]⟩))) ∧ ((((aL (false, ([1] : List Nat), (-3 : Int), ()) (2 : Int) true).getD (([] : List Nat), (0 : Int), ())).1) = (aK ⟨#[48, 46, 49, 51]⟩))) ∧ ((((aL ((bW (false, ([1] : List Nat), (-3 : Int), ())).getD (false, ([] : List Nat), (0 : Int), ())) (2 : Int) false).getD (([] : List Nat), (0 : Int), ())).1) = (aK ⟨#[45, 48, 46, 49, 51]⟩))) ∧ (((dX (((bC (aK ⟨#[48, 46, 49, 50, 53]⟩)).getD ((false, ([] : List Nat), (0 : Int), ()), (0 : Int), ())).1) (false, ([1] : List Nat), (-3 : Int), ())).getD false) = true)) ∧ (((((bC (aK ⟨#[48, 46, 49]⟩)).getD ((false, ([] : List Nat), (0 : Int), ()), (0 : Int), ())).2).1) = (6 : Int))) ∧ (((fH ((((bN (aK ⟨#[48, 46, 49]⟩) (20 : Int)).getD (((false, ([] : List Nat), (0 : Int), ()), (false, ([] : List Nat), (0 : Int), ()), ()), (0 : Int), ())).1).1) (((((bN (aK ⟨#[48, 46, 49]⟩) (20 : Int)).getD (((false, ([] : List Nat), (0 : Int), ()), (false, ([] : List Nat), (0 : Int), ()), ()), (0 : Int), ())).1).2).1)).getD (0 : Int)) < (0 : Int))) ∧ (((bR (aK ⟨#[49, 46, 53, 101, 45, 51]⟩)).getD false) = true)) ∧ (¬ (((bR (aK ⟨#[49, 46]⟩)).getD false) = true))) ∧ (¬ (((bR (aK ⟨#[46, 53]⟩)).getD false) = true))) → (((bR (aK ⟨#[49, 101, 49, 48, 49]⟩)).isSome = true)))) (ck (((((((((((((((((((((aL (false, ([1] : List Nat), (-3 : Int), ()) (2 : Int) false).getD (([] : List Nat), (0 : Int), ())).2).1) + ((((aL (false, ([1] : List Nat), (-3 : Int), ()) (2 : Int) true).getD (([] : List Nat), (0 : Int), ())).2).1)) + ((((aL ((bW (false, ([1] : List Nat), (-3 : Int), ())).getD (false, ([] : List Nat), (0 : Int), ())) (2 : Int) false).getD (([] : List Nat), (0 : Int), ())).2).1)) + ((((bC (aK ⟨#[48, 46, 49, 50, 53]⟩)).getD ((false, ([] : List Nat), (0 : Int), ()), (0 : Int), ())).2).1)) + ((((bN (aK ⟨#[48, 46, 49]⟩) (20 : Int)).getD (((false, ([] : List Nat), (0 : Int), ()), (false, ([] : List Nat), (0 : Int), ()), ()), (0 : Int), ())).2).1)) = (0 : Int)) ∧ ((((aL (false, ([1] : List Nat), (-3 : Int), ()) (2 : Int) false).getD (([] : List Nat), (0 : Int), ())).1) = (aK ⟨#[48, 46, 49, 50]⟩))) ∧ ((((aL (false, ([1] : List Nat), (-3 : Int), ()) (2 : Int) true).getD (([] : List Nat), (0 : Int), ())).1) = (aK ⟨#[48, 46, 49, 51]⟩))) ∧ ((((aL ((bW (false, ([1] : List Nat), (-3 : Int), ())).getD (false, ([] : List Nat), (0 : Int), ())) (2 : Int) false).getD (([] : List Nat), (0 : Int), ())).1) = (aK ⟨#[45, 48, 46, 49, 51]⟩))) ∧ (((dX (((bC (aK ⟨#[48, 46, 49, 50, 53]⟩)).getD ((false, ([] : List Nat), (0 : Int), ()), (0 : Int), ())).1) (false, ([1] : List Nat), (-3 : Int), ())).getD false) = true)) ∧ (((((bC (aK ⟨#[48, 46, 49]⟩)).getD ((false, ([] : List Nat), (0 : Int), ()), (0 : Int), ())).2).1) = (6 : Int))) ∧ (((fH ((((bN (aK ⟨#[48, 46, 49]⟩) (20 : Int)).getD (((false, ([] : List Nat), (0 : Int), ()), (false, ([] : List Nat), (0 : Int), ()), ()), (0 : Int), ())).1).1) (((((bN (aK ⟨#[48, 46, 49]⟩) (20 : Int)).getD (((false, ([] : List Nat), (0 : Int), ()), (false, ([] : List Nat), (0 : Int), ()), ()), (0 : Int), ())).1).2).1)).getD (0 : Int)) < (0 : Int))) ∧ (((bR (aK ⟨#[49, 46, 53, 101, 45, 51]⟩)).getD false) = true)) ∧ (¬ (((bR (aK ⟨#[49, 46]⟩)).getD false) = true))) ∧ (¬ (((bR (aK ⟨#[46, 53]⟩)).getD false) = true))) ∧ (¬ (((bR (aK ⟨#[49, 101, 49, 48, 49]⟩)).getD false) = true))) → (((bR (aK ⟨#[]⟩)).isSome = true)))) (some ((((((((((((decide (((((((((aL (false, ([1] : List Nat), (-3 : Int), ()) (2 : Int) false).getD (([] : List Nat), (0 : Int), ())).2).1) + ((((aL (false, ([1] : List Nat), (-3 : Int), ()) (2 : Int) true).getD (([] : List Nat), (0 : Int), ())).2).1)) + ((((aL ((bW (false, ([1] : List Nat), (-3 : Int), ())).getD (false, ([] : List Nat), (0 : Int), ())) (2 : Int) false).getD (([] : List Nat), (0 : Int), ())).2).1)) + ((((bC (aK ⟨#[48, 46, 49, 50, 53]⟩)).getD ((false, ([] : List Nat), (0 : Int), ()), (0 : Int), ())).2).1)) + ((((bN (aK ⟨#[48, 46, 49]⟩) (20 : Int)).getD (((false, ([] : List Nat), (0 : Int), ()), (false, ([] : List Nat), (0 : Int), ()), ()), (0 : Int), ())).2).1)) = (0 : Int))) && (decide ((((aL (false, ([1] : List Nat), (-3 : Int), ()) (2 : Int) false).getD (([] : List Nat), (0 : Int), ())).1) = (aK ⟨#[48, 46, 49, 50]⟩)))) && (decide ((((aL (false, ([1] : List Nat), (-3 : Int), ()) (2 : Int) true).getD (([] : List Nat), (0 : Int), ())).1) = (aK ⟨#[48, 46, 49, 51]⟩)))) && (decide ((((aL ((bW (false, ([1] : List Nat), (-3 : Int), ())).getD (false, ([] : List Nat), (0 : Int), ())) (2 : Int) false).getD (([] : List Nat), (0 : Int), ())).1) = (aK ⟨#[45, 48, 46, 49, 51]⟩)))) && ((dX (((bC (aK ⟨#[48, 46, 49, 50, 53]⟩)).getD ((false, ([] : List Nat), (0 : Int), ()), (0 : Int), ())).1) (false, ([1] : List Nat), (-3 : Int), ())).getD false)) && (decide (((((bC (aK ⟨#[48, 46, 49]⟩)).getD ((false, ([] : List Nat), (0 : Int), ()), (0 : Int), ())).2).1) = (6 : Int)))) && (decide (((fH ((((bN (aK ⟨#[48, 46, 49]⟩) (20 : Int)).getD (((false, ([] : List Nat), (0 : Int), ()), (false, ([] : List Nat), (0 : Int), ()), ()), (0 : Int), ())).1).1) (((((bN (aK ⟨#[48, 46, 49]⟩) (20 : Int)).getD (((false, ([] : List Nat), (0 : Int), ()), (false, ([] : List Nat), (0 : Int), ()), ()), (0 : Int), ())).1).2).1)).getD (0 : Int)) < (0 : Int)))) && ((bR (aK ⟨#[49, 46, 53, 101, 45, 51]⟩)).getD false)) && (!((bR (aK ⟨#[49, 46]⟩)).getD false))) && (!((bR (aK ⟨#[46, 53]⟩)).getD false))) && (!((bR (aK ⟨#[49, 101, 49, 48, 49]⟩)).getD false))) && (!((bR (aK ⟨#[]⟩)).getD false)))))))))))))))))))))
def aCw : PlR := ⟨[(0, .A []), (1, .B [1]), (2, .A [1, 2, 3]), (3, .A [1, 2, 3, 4, 5]), (4, .A [1, 2, 3, 4, 5, 6, 7]), (5, .B [1, 2, 3, 4, 5, 6, 7, 8, 9]), (6, .B [1, 2, 3, 4, 5, 6, 7, 8, 9, 11]), (7, .B [1, 2, 3, 4, 5, 6, 7, 8, 9, 11, 12, 13]), (8, .A [0])], []⟩
def aEd : Ty := .unit
noncomputable def sK : aM := mSpec aEd (.one .bool) (fun x => nY )
noncomputable def kQ : List (FuncId × aM) := [(19, pX), (21, sG), (23, uU), (27, vA), (31, uS), (32, sJ), (52, uT)]
theorem aLq : bU Tryz.prog GL kQ := .cons aGC (by kernel_rfl) (.cons aJP (by kernel_rfl) (.cons aLi (by kernel_rfl) (.cons aLo (by kernel_rfl) (.cons aLf (by kernel_rfl) (.cons aJR (by kernel_rfl) (.cons aLg (by kernel_rfl) (.nil)))))))
theorem aGR : gam kQ 19 = some pX := rfl
theorem aGS : gam kQ 21 = some sG := rfl
theorem aGT : gam kQ 23 = some uU := rfl
theorem aGU : gam kQ 27 = some vA := rfl
theorem aGV : gam kQ 31 = some uS := rfl
theorem aGW : gam kQ 32 = some sJ := rfl
theorem aGX : gam kQ 52 = some uT := rfl
attribute [go_sem] aEd aCw aGR aGS aGT aGU aGV aGW aGX
set_option maxHeartbeats 4000000 in
theorem aJS : FOK Tryz.prog GL 18 sK := by
 refine cB (bL aLq) mix Tryz.func18 rfl (by kernel_rfl) (by decide) aCw fun w0 S x Θ hw h hF => ?_
 simp only [cA, go_sem]
 replace h : sat (nY) _ := h
 unfold nY at h
 obtain ⟨g0, h⟩ := aN h
 repeat (refine ⟨by first | with_reducible assumption | omega | (intros; first | assumption | omega) | (simp only [go_sem] at *; first | assumption | omega) | decide, ?_⟩)
 obtain ⟨g0, h⟩ := aN h
 repeat (refine ⟨by first | with_reducible assumption | omega | (intros; first | assumption | omega) | (simp only [go_sem] at *; first | assumption | omega) | decide, ?_⟩)
 obtain ⟨g0, h⟩ := aN h
 obtain ⟨g1, h⟩ := aN h
 repeat (refine ⟨by first | with_reducible assumption | omega | (intros; first | assumption | omega) | (simp only [go_sem] at *; first | assumption | omega) | decide, ?_⟩)
 obtain ⟨g0, h⟩ := aN h
 repeat (refine ⟨by first | with_reducible assumption | omega | (intros; first | assumption | omega) | (simp only [go_sem] at *; first | assumption | omega) | decide, ?_⟩)
 obtain ⟨g0, h⟩ := aN h
 repeat (refine ⟨by first | with_reducible assumption | omega | (intros; first | assumption | omega) | (simp only [go_sem] at *; first | assumption | omega) | decide, ?_⟩)
 obtain ⟨g0, h⟩ := aN h
 repeat (refine ⟨by first | with_reducible assumption | omega | (intros; first | assumption | omega) | (simp only [go_sem] at *; first | assumption | omega) | decide, ?_⟩)
 obtain ⟨g0, h⟩ := aN h
 obtain ⟨g1, h⟩ := aN h
 obtain ⟨g2, h⟩ := aN h
 obtain ⟨g3, h⟩ := aN h
 obtain ⟨g4, h⟩ := aN h
 obtain ⟨g5, h⟩ := aN h
 obtain ⟨g6, h⟩ := aN h
 obtain ⟨g7, h⟩ := aN h
 obtain ⟨g8, h⟩ := aN h
 obtain ⟨g9, h⟩ := aN h
 obtain ⟨g10, h⟩ := aN h
 try simp only [I64, I32] at g0
 try simp only [I64, I32] at g1
 try simp only [I64, I32] at g2
 try simp only [I64, I32] at g3
 repeat (refine ⟨by first | with_reducible assumption | omega | (intros; first | assumption | omega) | (simp only [go_sem] at *; first | assumption | omega) | (intro q0; (try have e4 := g4 (by first | exact q0 | omega | (simpa using q0))); (try have e5 := g5 (by first | exact q0 | omega | (simpa using q0))); (try have e6 := g6 (by first | exact q0 | omega | (simpa using q0))); (try have e7 := g7 (by first | exact q0 | omega | (simpa using q0))); (try have e8 := g8 (by first | exact q0 | omega | (simpa using q0))); (try have e9 := g9 (by first | exact q0 | omega | (simpa using q0))); (try have e10 := g10 (by first | exact q0 | omega | (simpa using q0))); first | assumption | omega) | decide, ?_⟩)
 exact aS hF [.tmp 0] rfl rfl rfl (aD h) (by simp only [bA, go_sem])
attribute [go_sem] sK
end Nu
end Go.Proofs
namespace Go.Proofs
open Go.Vc
set_option maxRecDepth 20000
namespace Nu
theorem p2m (n m : Nat) (h : n ≤ m) : 2 ^ n ≤ 2 ^ m := Nat.pow_le_pow_right (by decide) h
theorem aLr (m : Nat) {x n : Nat} (h : x < 2 ^ n) (hn : n ≤ m) : x < 2 ^ m := Nat.lt_of_lt_of_le h (p2m n m hn)
theorem aGY (m : Nat) {x n : Nat} (h : x ≤ 2 ^ n) (hn : n < m) : x < 2 ^ m := Nat.lt_of_le_of_lt h (Nat.pow_lt_pow_right (by decide) hn)
theorem aLs (k : Nat) {x n : Nat} (h : x < 2 ^ n) (hn : n ≤ 64 * k) : x < 18446744073709551616 ^ k := by rw [lK]; exact aLr _ h hn
theorem aTk (a b : Nat) (h : a < b) : 18446744073709551616 ^ a < 18446744073709551616 ^ b := Nat.pow_lt_pow_right (by decide) h
abbrev Dy : Type := Bool × List Nat × Int × Unit
def d0 : Dy := (false, [], 0, ())
def lC (d : Dy) : Bool :=
 if d.2.1.length = 0 then !d.1 && decide (d.2.2.1 = 0)
 else decide (d.2.1.length ≤ 64 ∧ Nrm d.2.1) && decide (d.2.1.getD 0 0 % 2 = 1) && decide (-1048576 ≤ d.2.2.1) && decide (d.2.2.1 ≤ 1048576)
theorem aRu (x : Nat) : x &&& 1 = x % 2 := Nat.and_two_pow_sub_one_eq_mod x 1
theorem aAC (d : Dy) : cR d = some (lC d) := by
 unfold cR lC
 by_cases h : d.2.1.length = 0
 ·rw [if_pos (by omega), if_pos h]
 ·rw [if_neg (by omega), if_neg h]
  refine aB (fun _ => by omega) ?_
  rw [aRu]
  rfl
theorem aMu (e : Int) : iB false e = some (.inr (e, ())) := rfl
theorem aJT {b : Bool} {e : Int} (h : b = true) : iB b e = some (.inl ()) := by rw [h]; rfl
theorem aGZ {b : Bool} {e : Int} (h : b = false) : iB b e = some (.inr (e, ())) := by rw [h]; rfl
def aMv (neg : Bool) (m : Nat) (e : Int) : Dy ⊕ (Int × Unit) :=
 if m = 0 then .inl d0
 else if 64 < (lb (m / 2 ^ tzn m)).length then .inr (2, ())
 else if ¬ (e ≤ 1048576 ∧ -1048576 - (tzn m : Int) ≤ e) then .inr (3, ())
 else if 1048576 < e + (tzn m : Int) then .inr (3, ())
 else .inl (neg, lb (m / 2 ^ tzn m), e + (tzn m : Int), ())
theorem aSE {m k : Nat} (h0 : m ≠ 0) (h : m < 18446744073709551616 ^ k) : tzn m < 64 * k := by
 obtain ⟨q, hq⟩ := tP h0
 rw [lK] at h
 refine (Nat.pow_lt_pow_iff_right (show 1 < 2 by decide)).1 (Nat.lt_of_le_of_lt ?_ h)
 rw [hq, aAc rfl]
 exact Nat.le_mul_of_pos_right _ (by omega)
theorem aSF (neg : Bool) (m : List Nat) (e : Int) (lm : Lm m) (nm : Nrm m) (sm : m.length ≤ 1099511627776) : pW neg m e = some (aMv neg (nv m) e) := by
 unfold pW aMv
 by_cases h0 : m.length = 0
 ·have hm : m = [] := List.eq_nil_of_length_eq_zero h0
  subst hm
  rfl
 ·have hm : nv m ≠ 0 := by have := aAK nm (fun e => h0 (by rw [e]; rfl)); omega
  have hz : bP m = (tzn (nv m) : Int) := by unfold bP; rw [if_neg hm]
  have hzl := aSE hm (gU lm)
  have hR : cD m (tzn (nv m) : Int) = lb (nv m / 2 ^ tzn (nv m)) := by unfold cD; rw [Int.toNat_natCast]
  rw [if_neg (by omega), if_neg hm, hz, hR]
  refine aB sm (aB ⟨sm, by omega⟩ ?_)
  by_cases h1 : 64 < (lb (nv m / 2 ^ tzn (nv m))).length
  ·rw [aGZ (by simp; omega), if_pos h1]; rfl
  ·rw [aJT (by simp; omega), if_neg h1]
   simp only [Option.bind_some]
   by_cases h2 : e ≤ 1048576
   ·rw [if_pos h2]
    refine aB (by constructor <;> omega) ?_
    by_cases h3 : -1048576 - (tzn (nv m) : Int) ≤ e
    ·rw [aJT (by simp; omega), if_neg (by omega)]
     simp only [Option.bind_some]
     unfold nB
     rw [hz, hR]
     refine aB (by constructor <;> omega) ?_
     by_cases h4 : e + (tzn (nv m) : Int) ≤ 1048576
     ·rw [aJT (by simp; omega), if_neg (by omega)]
      simp only [Option.bind_some]
      exact aB (by constructor <;> omega) rfl
     ·rw [aGZ (by simp; omega), if_pos (by omega)]; rfl
    ·rw [aGZ (by simp; omega), if_pos (by omega)]; rfl
   ·rw [if_neg h2, aMu, if_pos (by omega)]; rfl
def told {α : Type} (z : α) : α ⊕ (Int × Unit) → α × Int × Unit
 | .inl r => (r, 0, ())
 | .inr p => (z, p.1, ())
def aH4 (neg : Bool) (m : Nat) (e : Int) : Dy × Int × Unit := told d0 (aMv neg m e)
theorem aMw (neg : Bool) (m : List Nat) (e : Int) (lm : Lm m) (nm : Nrm m) (sm : m.length ≤ 1099511627776) : bJ neg m e = some (aH4 neg (nv m) e) := by
 have h1 : mP neg m e = some (aMv neg (nv m) e) := by
  unfold mP
  rw [aSF neg m e lm nm sm]
  simp only [Option.bind_some]
  cases aMv neg (nv m) e <;> rfl
 have h2 : cI neg m e = some (aH4 neg (nv m) e) := by
  unfold cI aH4
  rw [h1]
  simp only [Option.bind_some]
  cases aMv neg (nv m) e <;> rfl
 unfold bJ
 rw [h2]
 exact aB rfl rfl
end Nu
end Go.Proofs
namespace Go.Proofs
open Go.Vc
set_option maxRecDepth 20000
namespace Nu
theorem aCx {b : Bool} {e : Int} (h : b = true) : fW b e = some (.inl ()) := by rw [h]; rfl
theorem wO {b : Bool} {e : Int} (h : b = false) : fW b e = some (.inr (e, ())) := by rw [h]; rfl
def aMx (p : Int) (l : List Dy) : Unit ⊕ (Int × Unit) := if 1 ≤ p ∧ p ≤ 2000 ∧ l.all lC = true then .inl () else .inr (1, ())
theorem aRv (p : Int) (l : List Dy) (hl : l.length ≤ 9223372036854775807) : nW p l = some (aMx p l) := by
 have key : dG (fun d : Int => iN l d) 0 = some (if l.all lC = true then (.inl () : Unit ⊕ (Int × Unit)) else .inr (1, ())) := by
  have := kE (step := fun d : Int => iN l d) (I := fun i => 0 ≤ i ∧ i ≤ l.length) (fun i => (l.length - i).toNat) (fun i => if (l.drop i.toNat).all lC = true then (.inl () : Unit ⊕ (Int × Unit)) else .inr (1, ())) ?_ 0 ⟨by omega, by omega⟩
  ·have e : l.drop ((0 : Int).toNat) = l := rfl
   rw [e] at this
   exact this
  ·rintro i ⟨i0, i1⟩
   show (∃ d', iN l i = _ ∧ _) ∨ iN l i = _
   unfold iN
   by_cases hi : i < l.length
   ·have hk : i.toNat < l.length := by omega
    have hd : l.drop i.toNat = l.getD i.toNat d0 :: l.drop (i.toNat + 1) := by
     rw [List.drop_eq_getElem_cons hk, List.getD_eq_getElem?_getD, List.getElem?_eq_getElem hk]; rfl
    by_cases hm : lC (l.getD i.toNat d0) = true
    ·left
     refine ⟨i + 1, ?_, ⟨by omega, by omega⟩, by omega, ?_⟩
     ·rw [if_pos hi]
      refine aB (by constructor <;> omega) (aB (by rw [aAC]; rfl) ?_)
      rw [aAC]
      refine bZ (aCx hm) ?_
      exact aB (by constructor <;> omega) rfl
     ·rw [hd, List.all_cons, hm, Bool.true_and, show (i + 1).toNat = i.toNat + 1 from by omega]
    ·right
     rw [if_pos hi]
     refine aB (by constructor <;> omega) (aB (by rw [aAC]; rfl) ?_)
     rw [aAC]
     refine bZ (wO ((Bool.not_eq_true _).mp hm)) ?_
     rw [hd, List.all_cons]
     have : lC (l.getD i.toNat d0) = false := (Bool.not_eq_true _).mp hm
     rw [this]
     rfl
   ·right
    rw [if_neg hi, List.drop_eq_nil_of_le (by omega)]
    rfl
 unfold nW aMx
 by_cases h1 : 1 ≤ p
 ·rw [if_pos h1]
  by_cases h2 : p ≤ 2000
  ·refine bZ (aCx (by simp; omega)) ?_
   unfold mC
   rw [key]
   by_cases h3 : l.all lC = true
   ·rw [if_pos h3, if_pos ⟨h1, h2, h3⟩]; rfl
   ·rw [if_neg h3, if_neg (fun h => h3 h.2.2)]; rfl
  ·refine bZ (wO (by simp; omega)) ?_
   rw [if_neg (fun h => h2 h.2.1)]
 ·rw [if_neg h1]
  refine bZ (wO rfl) ?_
  rw [if_neg (fun h => h1 h.1)]
def aMy (neg : Bool) (m : Nat) (e : Int) (rest : Bool) (p : Int) (up : Bool) : Dy ⊕ (Int × Unit) :=
 let n := (bl m : Int) - p
 let m1 := if 0 < n then m / 2 ^ n.toNat else m
 let e1 := if 0 < n then e + n else e
 let r1 := if 0 < n then rest || decide (m % 2 ^ n.toNat ≠ 0) else rest
 let m2 := if r1 = true ∧ (up != neg) = true then m1 + 1 else m1
 match aH4 neg m2 e1 with
 | (d, f, _) => if f = 0 then .inl d else .inr (f, ())
theorem aNF {m n : Nat} (h : m ≠ 0) : tzn m < n ↔ m % 2 ^ n ≠ 0 := by
 obtain ⟨q, hq⟩ := tP h
 constructor
 ·intro hlt h0
  obtain ⟨k, hk⟩ := Nat.dvd_of_mod_eq_zero h0
  rw [hq, show n = tzn m + (n - tzn m) from by omega, Nat.pow_add, Nat.mul_assoc] at hk
  have h2 := Nat.eq_of_mul_eq_mul_left (Nat.two_pow_pos _) hk
  rw [show n - tzn m = (n - tzn m - 1) + 1 from by omega, Nat.pow_succ, Nat.mul_comm (2 ^ (n - tzn m - 1)) 2, Nat.mul_assoc] at h2
  omega
 ·intro h0
  rcases Nat.lt_or_ge (tzn m) n with hlt | hge
  ·exact hlt
  ·exfalso
   apply h0
   rw [hq, show tzn m = n + (tzn m - n) from by omega, Nat.pow_add, Nat.mul_assoc]
   exact Nat.mul_mod_right _ _
theorem aRw (x : Nat) : (lb (x + 1)).length ≤ (lb x).length + 1 :=
 jN.2 (Nat.lt_of_le_of_lt (jN.1 (Nat.le_refl (lb x).length)) (Nat.pow_lt_pow_right (by decide) (by omega)))
theorem aR0 {x k : Nat} (a : List Nat) (la : Lm a) (h : x ≤ nv a) (hk : a.length ≤ k) : (lb x).length ≤ k :=
 Nat.le_trans (jN.2 (Nat.lt_of_le_of_lt h (gU la))) hk
theorem aSG (neg : Bool) (m : List Nat) (e : Int) (rest : Bool) (p : Int) (up : Bool) (lm : Lm m) (nm : Nrm m) (sm : m.length ≤ 549755813888) (hp : 1 ≤ p ∧ p ≤ 2000) (he : -1000000000000 ≤ e ∧ e ≤ 1000000000000) :
  nX neg m e rest p up = some (aMy neg (nv m) e rest p up) := by
 have hb : aV m = (bl (nv m) : Int) := rfl
 have hbl : bl (nv m) ≤ 64 * m.length := by
  refine tL ?_
  rw [← lK]; exact gU lm
 have j2 : ∀ (x : Nat) (e' : Int), (lb x).length ≤ 1099511627776 → kG neg e' (lb x) = some (match aH4 neg x e' with | (d, f, _) => if f = 0 then .inl d else .inr (f, ())) := by
  intro x e' hx
  unfold kG
  rw [aMw neg (lb x) e' (yJ x) (rF x) hx, eV]
  refine aB rfl ?_
  simp only [Option.getD_some]
  rcases aH4 neg x e' with ⟨d, f, u⟩
  by_cases hf : f = 0
  ·refine bZ (aCx (by simpa using hf)) ?_
   simp only; rw [if_pos hf]
  ·refine bZ (wO (by simpa using hf)) ?_
   simp only; rw [if_neg hf]
 have j1 : ∀ (x : Nat) (e' : Int) (r : Bool), (lb x).length ≤ 549755813888 → kH up neg (lb x) e' r = some (match aH4 neg (if r = true ∧ (up != neg) = true then x + 1 else x) e' with | (d, f, _) => if f = 0 then .inl d else .inr (f, ())) := by
  intro x e' r hx
  unfold kH
  by_cases h : r = true ∧ (up != neg) = true
  ·rw [if_pos h, if_pos h]
   refine aB ⟨by show (lb x).length ≤ _; omega, by show (1 : Nat) ≤ _; decide⟩ ?_
   have : fA (lb x) [1] = lb (x + 1) := by
    unfold fA; rw [eV]; rfl
   rw [this]
   refine j2 _ _ ?_
   have := aRw x
   omega
  ·rw [if_neg h, if_neg h]
   exact j2 _ _ (by omega)
 unfold nX aMy
 rw [hb]
 refine aB ⟨nm, by show m.length ≤ _; omega⟩ (aB (by constructor <;> omega) ?_)
 by_cases hn : 0 < (bl (nv m) : Int) - p
 ·have h0 : nv m ≠ 0 := by
   intro h; rw [h] at hn
   have : bl 0 = 0 := rfl
   omega
  have hz : bP m = (tzn (nv m) : Int) := by unfold bP; rw [if_neg h0]
  have hd : decide ((tzn (nv m) : Int) < (bl (nv m) : Int) - p) = decide (nv m % 2 ^ ((bl (nv m) : Int) - p).toNat ≠ 0) := by
   have := aNF (n := ((bl (nv m) : Int) - p).toNat) h0
   refine decide_eq_decide.2 (Iff.trans ?_ this)
   omega
  simp only [if_pos hn]
  rw [hz, hd]
  refine aB (fun _ => by show m.length ≤ _; omega) (aB ⟨by show m.length ≤ _; omega, by omega⟩ (aB (by constructor <;> omega) ?_))
  unfold cD
  refine j1 _ _ _ ?_
  exact aR0 m lm (Nat.div_le_self _ _) sm
 ·simp only [if_neg hn]
  have := j1 (nv m) e rest (by rw [aNu lm nm]; exact sm)
  rw [aNu lm nm] at this
  exact this
def aG0 (a b : Dy) (p : Int) (up : Bool) : Dy ⊕ (Int × Unit) :=
 match aMx p [a, b] with
 | .inr e => .inr e
 | .inl _ => if b.2.1.length = 0 then .inr (4, ()) else
  let k := max 0 (p + 1 + (bl (nv b.2.1) : Int) - (bl (nv a.2.1) : Int))
  aMy (a.1 != b.1) (nv a.2.1 * 2 ^ k.toNat / nv b.2.1) (a.2.2.1 - b.2.2.1 - k) (decide (nv a.2.1 * 2 ^ k.toNat % nv b.2.1 ≠ 0)) p up
theorem wP {d : Dy} (h : lC d = true) : d.2.1.length ≤ 64 ∧ Nrm d.2.1 ∧ -1048576 ≤ d.2.2.1 ∧ d.2.2.1 ≤ 1048576 := by
 unfold lC at h
 split at h
 ·rename_i h0
  have : d.2.1 = [] := List.eq_nil_of_length_eq_zero h0
  simp at h
  rw [this, h.2]
  exact ⟨by decide, aNs, by decide, by decide⟩
 ·simp at h
  exact ⟨h.1.1.1.1, h.1.1.1.2, h.1.2, h.2⟩
theorem aRx (a b : Dy) (p : Int) (up : Bool) (la : Lm a.2.1) (lb' : Lm b.2.1) : dQ a b p up = some (told d0 (aG0 a b p up)) := by
 have h1 : kI p a b up = some (aG0 a b p up) := by
  unfold kI aG0
  rw [aRv p [a, b] (by simp)]
  simp only [Option.bind_some]
  cases hm : aMx p [a, b] with
  | inr e => rfl
  | inl u =>
   unfold aMx at hm
   split at hm
   ·rename_i hh
    obtain ⟨p1, p2, p3⟩ := hh
    simp only [List.all_cons, List.all_nil, Bool.and_true, Bool.and_eq_true] at p3
    obtain ⟨a1, a2, a3, a4⟩ := wP p3.1
    obtain ⟨b1, b2, b3, b4⟩ := wP p3.2
    simp only
    by_cases hb : b.2.1.length = 0
    ·rw [if_pos hb]
     refine bZ (wO (decide_eq_false (by omega))) rfl
    ·rw [if_neg hb]
     have hb0 : nv b.2.1 ≠ 0 := by have := aAK b2 (fun e => hb (by rw [e]; rfl)); omega
     have hba : bl (nv a.2.1) ≤ 64 * a.2.1.length := tL (by rw [← lK]; exact gU la)
     have hbb : bl (nv b.2.1) ≤ 64 * b.2.1.length := tL (by rw [← lK]; exact gU lb')
     have e1 : aV a.2.1 = (bl (nv a.2.1) : Int) := rfl
     have e2 : aV b.2.1 = (bl (nv b.2.1) : Int) := rfl
     rw [e1, e2]
     have hk : ∃ k : Nat, max (0 : Int) (p + 1 + (bl (nv b.2.1) : Int) - (bl (nv a.2.1) : Int)) = (k : Int) ∧ k ≤ 6200 := ⟨(max (0 : Int) (p + 1 + (bl (nv b.2.1) : Int) - (bl (nv a.2.1) : Int))).toNat, by omega, by omega⟩
     obtain ⟨k, hk, hk2⟩ := hk
     rw [hk]
     have hA : nv a.2.1 * 2 ^ k < 18446744073709551616 ^ 200 := by
      have h1 := gU la
      rw [lK] at h1
      have h4 := Nat.mul_lt_mul_of_pos_right h1 (Nat.two_pow_pos k)
      rw [← Nat.pow_add] at h4
      exact aLs _ h4 (by omega)
     have hL : bD a.2.1 (k : Int) = lb (nv a.2.1 * 2 ^ k) := by unfold bD; rw [Int.toNat_natCast]
     rw [hL]
     have hLl : (lb (nv a.2.1 * 2 ^ k)).length ≤ 200 := jN.2 hA
     refine bZ (aCx (decide_eq_true (by omega))) ?_
     refine aB (by constructor <;> omega) (aB ⟨b2, by show b.2.1.length ≤ _; omega⟩ (aB (by constructor <;> omega) (aB ⟨a2, by show a.2.1.length ≤ _; omega⟩ (aB (by constructor <;> omega) (aB ⟨by show a.2.1.length ≤ _; omega, by omega, by omega⟩ (aB ⟨rF _, b2, hb0, by omega⟩ (aB (by constructor <;> omega) (aB (by constructor <;> omega) ?_))))))))
     have hq : (bB (lb (nv a.2.1 * 2 ^ k)) b.2.1).1 = lb (nv a.2.1 * 2 ^ k / nv b.2.1) := by unfold bB; rw [eV]
     have hr : decide ((0 : Int) < (((bB (lb (nv a.2.1 * 2 ^ k)) b.2.1).2.1.length : Nat) : Int)) = decide (nv a.2.1 * 2 ^ k % nv b.2.1 ≠ 0) := by
      refine decide_eq_decide.2 ?_
      unfold bB
      rw [eV]
      simp only
      constructor
      ·intro h e; rw [tK.2 e] at h; simp at h
      ·intro h
       have := List.length_pos_iff.2 (fun e => h (tK.1 e))
       omega
     rw [hq, hr]
     rw [aSG _ _ _ _ p up (yJ _) (rF _) (by have := jN.2 (Nat.lt_of_le_of_lt (Nat.div_le_self (nv a.2.1 * 2 ^ k) (nv b.2.1)) hA); omega) ⟨p1, p2⟩ (by constructor <;> omega), eV]
     simp only [Option.bind_some, Int.toNat_natCast]
     cases aMy (a.1 != b.1) (nv a.2.1 * 2 ^ k / nv b.2.1) (a.2.2.1 - b.2.2.1 - (k : Int)) (decide (nv a.2.1 * 2 ^ k % nv b.2.1 ≠ 0)) p up <;> rfl
   ·cases hm
 have h2 : bY p a b up = some (told d0 (aG0 a b p up)) := by
  unfold bY
  rw [h1]
  simp only [Option.bind_some]
  cases aG0 a b p up <;> rfl
 unfold dQ
 rw [h2]
 exact aB rfl rfl
end Nu
end Go.Proofs
namespace Go.Proofs
open Go.Vc
set_option maxRecDepth 20000
namespace Nu
def rq (A B k : Nat) : Nat := A * 2 ^ k / B
def rn (A B p k : Nat) : Nat := bl (rq A B k) - p
def rM (A B p k : Nat) : Nat := rq A B k / 2 ^ rn A B p k
def rE (A B p k : Nat) : Int := (rn A B p k : Int) - (k : Int)
def rS (A B p k : Nat) : Bool := decide (A * 2 ^ k % (B * 2 ^ rn A B p k) ≠ 0)
theorem aNG (A B k d : Nat) : rq A B (k + d) / 2 ^ d = rq A B k := by
 unfold rq
 rw [Nat.div_div_eq_div_mul, Nat.pow_add, ← Nat.mul_assoc, Nat.mul_div_mul_right _ _ (Nat.two_pow_pos d)]
theorem aSH {x d : Nat} (h : x / 2 ^ d ≠ 0) : bl x = bl (x / 2 ^ d) + d := by
 have e := Nat.div_add_mod x (2 ^ d)
 have m := Nat.mod_lt x (Nat.two_pow_pos d)
 have := aL9 (x := x / 2 ^ d) (m := x % 2 ^ d) (k := d) h m
 rw [Nat.add_comm] at e
 rw [e] at this
 omega
theorem aQe {A B p k d : Nat} (hp : 1 ≤ p) (h : 2 ^ p ≤ rq A B k) : rM A B p (k + d) = rM A B p k ∧ rE A B p (k + d) = rE A B p k ∧ rS A B p (k + d) = rS A B p k := by
 have hq := aNG A B k d
 have hpos := Nat.two_pow_pos p
 have hb := aSH (x := rq A B (k + d)) (d := d) (by rw [hq]; omega)
 rw [hq] at hb
 have hge : p + 1 ≤ bl (rq A B k) := by
  rcases Nat.lt_or_ge (bl (rq A B k)) (p + 1) with hlt | hge
  ·have h1 := aDA (rq A B k)
   have h2 : 2 ^ bl (rq A B k) ≤ 2 ^ p := Nat.pow_le_pow_right (by decide) (by omega)
   omega
  ·exact hge
 have hn : rn A B p (k + d) = rn A B p k + d := by unfold rn; omega
 refine ⟨?_, ?_, ?_⟩
 ·unfold rM
  rw [hn, Nat.add_comm (rn A B p k) d, Nat.pow_add, ← Nat.div_div_eq_div_mul, hq]
 ·unfold rE; rw [hn]; omega
 ·unfold rS
  rw [hn, Nat.pow_add, Nat.pow_add, ← Nat.mul_assoc, ← Nat.mul_assoc, Nat.mul_mod_mul_right]
  refine decide_eq_decide.2 ?_
  have := Nat.two_pow_pos d
  constructor
  ·intro h1 h2; apply h1; rw [h2, Nat.zero_mul]
  ·intro h1 h2
   rcases Nat.mul_eq_zero.1 h2 with h3 | h3
   ·exact h1 h3
   ·omega
theorem aJU {A B p k : Nat} (hA : A ≠ 0) (hB : B ≠ 0) (h : p + bl B ≤ bl A - 1 + k) : 2 ^ p ≤ rq A B k := by
 unfold rq
 refine (Nat.le_div_iff_mul_le (by omega)).2 ?_
 have h1 := aJe hA
 have h2 := aDA B
 calc 2 ^ p * B ≤ 2 ^ p * 2 ^ bl B := Nat.mul_le_mul_left _ (Nat.le_of_lt h2)
  _ = 2 ^ (p + bl B) := (Nat.pow_add _ _ _).symm
  _ ≤ 2 ^ (bl A - 1 + k) := Nat.pow_le_pow_right (by decide) h
  _ = 2 ^ (bl A - 1) * 2 ^ k := Nat.pow_add _ _ _
  _ ≤ A * 2 ^ k := Nat.mul_le_mul_right _ h1
theorem aQf {A B p k k' : Nat} (hp : 1 ≤ p) (h : 2 ^ p ≤ rq A B k) (h' : 2 ^ p ≤ rq A B k') : rM A B p k = rM A B p k' ∧ rE A B p k = rE A B p k' ∧ rS A B p k = rS A B p k' := by
 obtain ⟨a1, a2, a3⟩ := aQe (d := k') hp h
 obtain ⟨b1, b2, b3⟩ := aQe (d := k) hp h'
 rw [Nat.add_comm k' k] at b1 b2 b3
 exact ⟨a1.symm.trans b1, a2.symm.trans b2, a3.symm.trans b3⟩
def rm2 (A B p k : Nat) (up : Bool) : Nat := if rS A B p k = true ∧ up = true then rM A B p k + 1 else rM A B p k
theorem aTl {A B p k : Nat} {e : Int} {up : Bool} (hp : 1 ≤ p) (h : 2 ^ p ≤ rq A B k) :
  aMy false (rq A B k) (e - (k : Int)) (decide (A * 2 ^ k % B ≠ 0)) (p : Int) up = match aH4 false (rm2 A B p k up) (e + rE A B p k) with | (d, f, _) => if f = 0 then .inl d else .inr (f, ()) := by
 have hge : p + 1 ≤ bl (rq A B k) := by
  rcases Nat.lt_or_ge (bl (rq A B k)) (p + 1) with hlt | hge
  ·have h1 := aDA (rq A B k)
   have h2 : 2 ^ bl (rq A B k) ≤ 2 ^ p := Nat.pow_le_pow_right (by decide) (by omega)
   omega
  ·exact hge
 have hn : ((bl (rq A B k) : Int) - (p : Int)).toNat = rn A B p k := by unfold rn; omega
 have hS : (decide (A * 2 ^ k % B ≠ 0) || decide (rq A B k % 2 ^ rn A B p k ≠ 0)) = rS A B p k := by
  unfold rS
  rw [Nat.mod_mul, ← Bool.decide_or]
  refine decide_eq_decide.2 ?_
  unfold rq
  have hB : 0 < B := by
   rcases Nat.eq_zero_or_pos B with h0 | h0
   ·unfold rq at h; rw [h0, Nat.div_zero] at h; have := Nat.two_pow_pos p; omega
   ·exact h0
  constructor
  ·rintro (h1 | h1) h2
   ·exact h1 (by omega)
   ·apply h1
    have := Nat.mul_eq_zero.1 (show B * (A * 2 ^ k / B % 2 ^ rn A B p k) = 0 by omega)
    omega
  ·intro h1
   by_cases h2 : A * 2 ^ k % B = 0
   ·right; intro h3; apply h1; rw [h2, h3]; rfl
   ·exact .inl h2
 have hp0 : 0 < (bl (rq A B k) : Int) - (p : Int) := by omega
 unfold aMy
 simp only [hn, hp0, if_true, hS]
 have e1 : e - (k : Int) + ((bl (rq A B k) : Int) - (p : Int)) = e + rE A B p k := by unfold rE rn; omega
 rw [e1]
 have e2 : (up != false) = up := by cases up <;> rfl
 simp only [e2]
 rfl
end Nu
end Go.Proofs
namespace Go.Proofs
open Go.Vc
set_option maxRecDepth 20000
namespace Nu
def gE (M : Nat) (e : Int) : Dy := if M = 0 then d0 else (false, lb (M / 2 ^ tzn M), e + (tzn M : Int), ())
theorem aJV {M K : Nat} (h0 : M ≠ 0) (h : M < 2 ^ K) : tzn M < K := by
 obtain ⟨q, hq⟩ := tP h0
 refine (Nat.pow_lt_pow_iff_right (show 1 < 2 by decide)).1 (Nat.lt_of_le_of_lt ?_ h)
 rw [hq, aAc rfl]
 exact Nat.le_mul_of_pos_right _ (by omega)
theorem aJW {M K : Nat} {e : Int} (hM : M < 2 ^ K) (hK : K ≤ 4096) (he : -1000000 ≤ e ∧ e ≤ 1000000) : aH4 false M e = (gE M e, 0, ()) := by
 unfold aH4 aMv gE
 by_cases h0 : M = 0
 ·rw [if_pos h0, if_pos h0]; rfl
 ·have hz := aJV h0 hM
  have hl : (lb (M / 2 ^ tzn M)).length ≤ 64 := by
   exact jN.2 (aLs 64 (Nat.lt_of_le_of_lt (Nat.div_le_self _ _) hM) (by omega))
  rw [if_neg h0, if_neg h0, if_neg (by omega), if_neg (by omega), if_neg (by omega)]
  rfl
theorem aBx {M : Nat} (h0 : M ≠ 0) : M / 2 ^ tzn M * 2 ^ tzn M = M ∧ M / 2 ^ tzn M % 2 = 1 := by
 obtain ⟨q, hq⟩ := tP h0
 have h1 : M / 2 ^ tzn M = 2 * q + 1 := by
  have := Nat.mul_div_cancel_left (2 * q + 1) (Nat.two_pow_pos (tzn M))
  rw [← hq] at this
  exact this
 rw [h1]
 exact ⟨by rw [Nat.mul_comm]; exact hq.symm, by omega⟩
theorem aLt {M K : Nat} {e : Int} (hM : M < 2 ^ K) (hK : K ≤ 4096) (he : -1000000 ≤ e ∧ e ≤ 1000000) : lC (gE M e) = true := by
 unfold gE
 by_cases h0 : M = 0
 ·rw [if_pos h0]; rfl
 ·have hz := aJV h0 hM
  obtain ⟨p1, p2⟩ := aBx h0
  have hne : M / 2 ^ tzn M ≠ 0 := by omega
  have hl : (lb (M / 2 ^ tzn M)).length ≤ 64 := by
   exact jN.2 (aLs 64 (Nat.lt_of_le_of_lt (Nat.div_le_self _ _) hM) (by omega))
  have hlp : (lb (M / 2 ^ tzn M)).length ≠ 0 := fun h => hne (tK.1 (List.eq_nil_of_length_eq_zero h))
  have hg : (lb (M / 2 ^ tzn M)).getD 0 0 % 2 = 1 := by
   rw [lQ (yJ _), eV, Nat.pow_zero, Nat.div_one]
   omega
  rw [if_neg h0]
  unfold lC
  simp only
  rw [if_neg hlp]
  simp only [Bool.and_eq_true, decide_eq_true_iff]
  exact ⟨⟨⟨⟨hl, rF _⟩, hg⟩, by omega⟩, by omega⟩
theorem aTm {A B p k : Nat} : rM A B p k < 2 ^ p := by
 unfold rM rn
 refine (Nat.div_lt_iff_lt_mul (Nat.two_pow_pos _)).2 ?_
 rw [← Nat.pow_add]
 exact Nat.lt_of_lt_of_le (aDA _) (Nat.pow_le_pow_right (by decide) (by omega))
theorem aQg {A B p k : Nat} {up : Bool} : rm2 A B p k up < 2 ^ (p + 1) := by
 have := aTm (A := A) (B := B) (p := p) (k := k)
 have h2 : 2 ^ (p + 1) = 2 ^ p * 2 := Nat.pow_succ ..
 have h3 := Nat.two_pow_pos p
 unfold rm2
 split <;> omega
theorem aMz {x k : Nat} (h : x ≠ 0) : bl (x * 2 ^ k) = bl x + k := by
 have := aL9 (x := x) (m := 0) (k := k) h (Nat.two_pow_pos k)
 rw [Nat.zero_add, Nat.mul_comm] at this
 omega
theorem aNH {x y : Nat} (h : x ≤ y) : bl x ≤ bl y := tL (Nat.lt_of_le_of_lt h (aDA y))
theorem aQh {A B p k : Nat} (hA : A ≠ 0) : -(k : Int) ≤ rE A B p k ∧ rE A B p k ≤ bl A := by
 have h1 : bl (rq A B k) ≤ bl A + k := by
  rw [← aMz hA]
  exact aNH (Nat.div_le_self _ _)
 unfold rE rn
 constructor <;> omega
theorem aTn {A B A' B' p k za zb : Nat} (hp : 1 ≤ p) (hA : A = A' * 2 ^ za) (hB : B = B' * 2 ^ zb) (h : 2 ^ p ≤ rq A B k) :
  2 ^ p ≤ rq A' B' (za + k) ∧ rM A' B' p (za + k) = rM A B p k ∧ rE A' B' p (za + k) + za - zb = rE A B p k ∧ rS A' B' p (za + k) = rS A B p k := by
 obtain ⟨a1, a2, a3⟩ := aQe (d := zb) hp h
 have hz := Nat.two_pow_pos zb
 have e1 : rq A B (k + zb) = rq A' B' (za + k) := by
  unfold rq
  rw [hA, hB, Nat.mul_assoc, ← Nat.pow_add, ← Nat.add_assoc, Nat.pow_add 2 (za + k), ← Nat.mul_assoc, Nat.mul_div_mul_right _ _ hz]
 have e2 : rn A B p (k + zb) = rn A' B' p (za + k) := by unfold rn; rw [e1]
 refine ⟨?_, ?_, ?_, ?_⟩
 ·rw [← e1]
  have h1 := aNG A B k zb
  have h2 := Nat.div_le_self (rq A B (k + zb)) (2 ^ zb)
  omega
 ·rw [← a1]; unfold rM; rw [e1, e2]
 ·rw [← a2]; unfold rE; rw [e2]; omega
 ·rw [← a3]; unfold rS
  rw [e2, hA, hB, Nat.mul_assoc A', ← Nat.pow_add, ← Nat.add_assoc, Nat.pow_add 2 (za + k), ← Nat.mul_assoc, Nat.mul_right_comm B', Nat.mul_mod_mul_right]
  refine decide_eq_decide.2 ?_
  constructor
  ·intro h1 h2
   rcases Nat.mul_eq_zero.1 h2 with h3 | h3
   ·exact h1 h3
   ·omega
  ·intro h1 h2; apply h1; rw [h2, Nat.zero_mul]
end Nu
end Go.Proofs
namespace Go.Proofs
open Go.Vc
set_option maxRecDepth 20000
namespace Nu
def eQ (c : Nat) : Bool := decide (48 ≤ c ∧ c ≤ 57)
def cC (s : List Nat) (i : Nat) : Nat := ((s.drop i).takeWhile eQ).length
theorem aR1 {p : Nat → Bool} : ∀ (l : List Nat) (n : Nat), n ≤ (l.takeWhile p).length → (n < (l.takeWhile p).length ↔ n < l.length ∧ p (l.getD n 0) = true)
 | [], n, h => by simp
 | x :: r, n, h => by
  by_cases hp : p x = true
  ·rw [List.takeWhile_cons_of_pos hp] at h ⊢
   cases n with
   | zero => simp [hp]
   | succ n =>
    have := aR1 (p := p) r n (by simpa using h)
    simpa using this
  ·rw [List.takeWhile_cons_of_neg hp] at h ⊢
   have : n = 0 := by simpa using h
   subst this
   simp [hp]
theorem yE (s : List Nat) (i : Nat) : cC s i ≤ s.length - i := by
 have := (List.takeWhile_prefix (p := eQ) (l := s.drop i)).length_le
 rw [List.length_drop] at this
 exact this
theorem aAM (s : List Nat) (i : Nat) (hs : s.length ≤ 4611686018427387904) (hi : i ≤ 4611686018427387904) : aC s (i : Int) = some (cC s i : Int) := by
 have hd := yE s i
 unfold aC
 refine bZ (kE (step := fun d : Int => gP (i : Int) s d) (I := fun n => 0 ≤ n ∧ n ≤ cC s i) (fun n => ((cC s i : Int) - n).toNat) (fun _ => (cC s i : Int)) ?_ 0 ⟨by omega, by omega⟩) rfl
 rintro n ⟨n0, n1⟩
 obtain ⟨k, rfl⟩ := Int.eq_ofNat_of_zero_le n0
 show (∃ d', gP (i : Int) s k = _ ∧ _) ∨ gP (i : Int) s k = _
 have e : ((i : Int) + (k : Int)).toNat = i + k := by omega
 have hx : s.getD (i + k) 0 = (s.drop i).getD k 0 := by simp [List.getD_eq_getElem?_getD, List.getElem?_drop]
 have ht := aR1 (p := eQ) (s.drop i) k (by show k ≤ cC s i; omega)
 have ht : k < cC s i ↔ i + k < s.length ∧ 48 ≤ s.getD (i + k) 0 ∧ s.getD (i + k) 0 ≤ 57 := by
  rw [hx]
  refine ht.trans ?_
  rw [List.length_drop, eQ, decide_eq_true_iff]
  constructor
  ·rintro ⟨h1, h2⟩; exact ⟨by omega, h2⟩
  ·rintro ⟨h1, h2⟩; exact ⟨by omega, h2⟩
 unfold gP
 rw [e]
 by_cases hk : k < cC s i
 ·left
  obtain ⟨h1, h2, h3⟩ := ht.1 hk
  refine ⟨(k : Int) + 1, ?_, ⟨by omega, by omega⟩, by omega, rfl⟩
  refine aB (by constructor <;> omega) (aB (fun _ => by constructor <;> omega) (aB (fun _ => by constructor <;> omega) (aB (fun _ => by constructor <;> omega) (aB (fun _ => by constructor <;> omega) ?_))))
  rw [if_pos ⟨⟨by omega, h2⟩, h3⟩]
  exact aB (by constructor <;> omega) rfl
 ·right
  refine aB (by constructor <;> omega) (aB (fun _ => by constructor <;> omega) (aB (fun _ => by constructor <;> omega) (aB (fun _ => by constructor <;> omega) (aB (fun _ => by constructor <;> omega) ?_))))
  rw [if_neg (fun h => hk (ht.2 ⟨by omega, h.1.2, h.2⟩)), show (k : Int) = (cC s i : Int) from by omega]
theorem aMA {b i : Nat} (h : b < 18446744073709551616) : (lb (b ^ i)).length ≤ i + 1 :=
 jN.2 (Nat.lt_of_le_of_lt (Nat.pow_le_pow_left (Nat.le_of_lt h) i) (Nat.pow_lt_pow_right (by decide) (by omega)))
theorem aAD (b n : Nat) (hb : b < 18446744073709551616) (hn : n ≤ 100000) : aZ b (n : Int) = some (lb (b ^ n)) := by
 unfold aZ
 refine bZ (kE (step := fun d : (List Nat) × Int => iP (n : Int) b d.1 d.2) (I := fun d => 0 ≤ d.2 ∧ d.2 ≤ n ∧ d.1 = lb (b ^ d.2.toNat)) (fun d => ((n : Int) - d.2).toNat) (fun _ => lb (b ^ n)) ?_ ([1], 0) ⟨by simp, by simp, ?_⟩) rfl
 ·rintro ⟨m, i⟩ ⟨i0, i1, i2⟩
  have i2 : m = lb (b ^ i.toNat) := i2
  have i0 : 0 ≤ i := i0
  have i1 : i ≤ n := i1
  show (∃ d', iP (n : Int) b m i = _ ∧ _) ∨ iP (n : Int) b m i = _
  unfold iP
  have hl := aMA (i := i.toNat) hb
  by_cases hi : i < n
  ·left
   have ht : aY m [b] = lb (b ^ (i + 1).toNat) := by
    unfold aY
    rw [i2, eV, show (i + 1).toNat = i.toNat + 1 from by omega, Nat.pow_succ]
    rfl
   refine ⟨(lb (b ^ (i + 1).toNat), i + 1), ?_, ⟨by simp only; omega, by simp only; omega, rfl⟩, by simp only; omega, rfl⟩
   rw [if_pos hi]
   refine aB ⟨by show m.length ≤ _; rw [i2]; omega, by show (1 : Nat) ≤ _; decide⟩ (aB (by constructor <;> omega) ?_)
   rw [ht]
  ·right
   rw [if_neg hi, i2, show i.toNat = n from by omega]
 ·show [1] = lb (b ^ 0)
  rw [Nat.pow_zero, aAa (by decide)]
  rw [show 1 / 18446744073709551616 = 0 from by decide, fS]
theorem aTo {a b : Nat} (ha : a < 256) (hb : b ≤ a) : iE .u8 a b = a - b := by
 have hm : eK .u8 = 256 := by decide +kernel
 rw [aBz, hm, show a + (256 - b) = (a - b) + 256 from by omega, Nat.add_mod_right, Nat.mod_eq_of_lt (by omega)]
def iR (s : List Nat) : Nat := s.foldl (fun m c => m * 10 + (c - 48)) 0
theorem aDg (s : List Nat) (c : Nat) : iR (s ++ [c]) = iR s * 10 + (c - 48) := by simp [iR]
theorem aIH : ∀ (s : List Nat) (m : Nat), (∀ c ∈ s, eQ c = true) → s.foldl (fun m c => m * 10 + (c - 48)) m < (m + 1) * 10 ^ s.length
 | [], m, _ => by simp
 | x :: r, m, h => by
  have hx := h x (by simp)
  simp only [eQ, decide_eq_true_iff] at hx
  have ih := aIH r (m * 10 + (x - 48)) (fun c hc => h c (by simp [hc]))
  rw [List.foldl_cons, List.length_cons, Nat.pow_succ, Nat.mul_comm (10 ^ r.length) 10, ← Nat.mul_assoc]
  exact Nat.lt_of_lt_of_le ih (Nat.mul_le_mul_right _ (by omega))
theorem aAN {s : List Nat} (h : ∀ c ∈ s, eQ c = true) : iR s < 10 ^ s.length := by
 have := aIH s 0 h
 rw [Nat.zero_add, Nat.one_mul] at this
 exact this
theorem aII (s : List Nat) (hd : ∀ c ∈ s, eQ c = true) (hs : s.length ≤ 100000) : cT s = some (lb (iR s)) := by
 unfold cT
 refine bZ (kE (step := fun d : (List Nat) × Int => gQ s d.1 d.2) (I := fun d => 0 ≤ d.2 ∧ d.2 ≤ s.length ∧ d.1 = lb (iR (s.take d.2.toNat))) (fun d => ((s.length : Int) - d.2).toNat) (fun _ => lb (iR s)) ?_ ([], 0) ⟨by simp, by simp, ?_⟩) rfl
 ·rintro ⟨m, i⟩ ⟨i0, i1, i2⟩
  have i2 : m = lb (iR (s.take i.toNat)) := i2
  have i0 : 0 ≤ i := i0
  have i1 : i ≤ s.length := i1
  show (∃ d', gQ s m i = _ ∧ _) ∨ gQ s m i = _
  unfold gQ
  have hml : m.length ≤ 100001 := by
   rw [i2]
   have h1 := aAN (s := s.take i.toNat) (fun c hc => hd c (List.mem_of_mem_take hc))
   have h2 : (s.take i.toNat).length ≤ 100000 := by rw [List.length_take]; omega
   have h3 := aMA (b := 10) (i := (s.take i.toNat).length) (by decide)
   have h4 := aR0 (x := iR (s.take i.toNat)) (lb (10 ^ (s.take i.toNat).length)) (yJ _) (by rw [eV]; omega) h3
   omega
  by_cases hi : i < s.length
  ·left
   have hk : i.toNat < s.length := by omega
   have hg : s.getD i.toNat 0 ∈ s := by rw [List.getD_eq_getElem?_getD, List.getElem?_eq_getElem hk]; exact List.getElem_mem hk
   have hc := hd _ hg
   simp only [eQ, decide_eq_true_iff] at hc
   have hsub : iE .u8 (s.getD i.toNat 0) 48 = s.getD i.toNat 0 - 48 := aTo (by omega) hc.1
   have hN : pV [s.getD i.toNat 0 - 48] = lb (s.getD i.toNat 0 - 48) := by
    show lb (nv [s.getD i.toNat 0 - 48]) = _
    simp [nv]
   have ht : fA (aY m [10]) (lb (s.getD i.toNat 0 - 48)) = lb (iR (s.take (i + 1).toNat)) := by
    unfold fA aY
    rw [i2, eV, eV, eV, show (i + 1).toNat = i.toNat + 1 from by omega, take_succ hk, aDg]
    rfl
   have hT : (aY m [10]).length ≤ 100002 := by
    unfold aY
    refine Nat.le_trans (jN (k := m.length + 1).2 ?_) (by omega)
    rw [i2, eV, Nat.pow_succ, ← i2]
    have h1 := gU (a := m) (by rw [i2]; exact yJ _)
    rw [i2, eV, ← i2] at h1
    exact Nat.mul_lt_mul'' h1 (by decide)
   refine ⟨(lb (iR (s.take (i + 1).toNat)), i + 1), ?_, ⟨by simp only; omega, by simp only; omega, rfl⟩, by simp only; omega, rfl⟩
   rw [if_pos hi, hsub, hN, ht]
   refine aB (by constructor <;> omega) (aB ⟨by show m.length ≤ _; omega, by show (1 : Nat) ≤ _; decide⟩ (aB (by show (1 : Nat) ≤ _; decide) (aB ⟨by show (aY m [10]).length ≤ _; omega, ?_⟩ (aB (by constructor <;> omega) rfl))))
   show (lb (s.getD i.toNat 0 - 48)).length ≤ _
   have := jN (n := s.getD i.toNat 0 - 48) (k := 1).2 (by omega)
   omega
  ·right
   rw [if_neg hi, i2, List.take_of_length_le (by omega)]
 ·show [] = lb (iR [])
  rw [show iR [] = 0 from rfl, fS]
end Nu
end Go.Proofs
namespace Go.Proofs
open Go.Vc
set_option maxRecDepth 20000
namespace Nu
theorem aQi {k : Nat} (h : k ≤ 18) : 10 ^ k ≤ 1000000000000000000 := Nat.pow_le_pow_right (n := 10) (by decide) h
theorem aRy (s : List Nat) (hd : ∀ c ∈ s, eQ c = true) (h0 : 0 < s.length) (h1 : s.length ≤ 18) : cU s = some ((iR s : Int), (), ()) := by
 have hget : ∀ k, k < s.length → 48 ≤ s.getD k 0 ∧ s.getD k 0 ≤ 57 := fun k hk => by
  have hg : s.getD k 0 ∈ s := by rw [List.getD_eq_getElem?_getD, List.getElem?_eq_getElem hk]; exact List.getElem_mem hk
  have := hd _ hg
  simpa only [eQ, decide_eq_true_iff] using this
 have hlt : ∀ k, iR (s.take k) < 1000000000000000000 ∨ k > s.length := fun k => by
  rcases Nat.lt_or_ge s.length k with h | h
  ·exact .inr h
  ·left
   have a := aAN (s := s.take k) (fun c hc => hd c (List.mem_of_mem_take hc))
   have b := aQi (k := (s.take k).length) (by rw [List.length_take]; omega)
   omega
 have key : eI s s = some ((iR s : Int), (), ()) := by
  unfold eI
  refine bZ (kE (step := fun d : Int × Int => dU s d.1 d.2) (I := fun d => 0 ≤ d.2 ∧ d.2 ≤ s.length ∧ d.1 = (iR (s.take d.2.toNat) : Int)) (fun d => ((s.length : Int) - d.2).toNat) (fun _ => .inl (iR s : Int)) ?_ (0, 0) ⟨by simp, by simp, by simp [iR]⟩) ?_
  ·rintro ⟨n, i⟩ ⟨i0, i1, i2⟩
   have i0 : 0 ≤ i := i0
   have i1 : i ≤ s.length := i1
   have i2 : n = (iR (s.take i.toNat) : Int) := i2
   show (∃ d', dU s n i = _ ∧ _) ∨ dU s n i = _
   unfold dU
   by_cases hi : i < s.length
   ·left
    have hk : i.toNat < s.length := by omega
    obtain ⟨c1, c2⟩ := hget _ hk
    have hsub : iE .u8 (s.getD i.toNat 0) 48 = s.getD i.toNat 0 - 48 := aTo (by omega) c1
    have hb : iR (s.take (i.toNat + 1)) = iR (s.take i.toNat) * 10 + (s.getD i.toNat 0 - 48) := by rw [take_succ hk, aDg]
    have hl := hlt (i.toNat + 1)
    refine ⟨((iR (s.take (i + 1).toNat) : Int), i + 1), ?_, ⟨by simp only; omega, by simp only; omega, rfl⟩, by simp only; omega, rfl⟩
    rw [if_pos hi, hsub, show (i + 1).toNat = i.toNat + 1 from by omega, hb]
    refine aB (by constructor <;> omega) ?_
    rw [if_neg (by omega), i2]
    refine aB (by constructor <;> omega) (aB (by constructor <;> omega) (aB (by constructor <;> omega) ?_))
    congr 3
   ·right
    rw [if_neg hi, i2, List.take_of_length_le (by omega)]
  ·unfold iO
   obtain ⟨c1, c2⟩ := hget 0 h0
   refine aB (by omega) ?_
   rw [if_neg (by omega)]
 have h2 : gO s = some ((iR s : Int), (), ()) := by
  unfold gO
  obtain ⟨c1, c2⟩ := hget 0 h0
  rw [if_pos (.inr ⟨trivial, by omega, by omega⟩)]
  refine aB (by omega) (aB (fun _ => by omega) ?_)
  rw [if_neg (by omega)]
  exact key
 unfold cU
 rw [h2]
 exact aB rfl rfl
theorem aG1 (s : List Nat) (i : Nat) : ∀ c ∈ (s.drop i).take (cC s i), eQ c = true := by
 intro c hc
 have h : (s.drop i).take (cC s i) = (s.drop i).takeWhile eQ := by
  have := List.prefix_iff_eq_take.1 (List.takeWhile_prefix (p := eQ) (l := s.drop i))
  exact this.symm
 rw [h] at hc
 exact List.all_eq_true.1 List.all_takeWhile c hc
abbrev aQj : Type := List Nat × Int × Bool × Unit
def litNo : aQj := ([], 0, false, ())
def fY (s : List Nat) (i : Nat) (c : Nat) : Prop := i < s.length ∧ s.getD i 0 = c
instance (s : List Nat) (i c : Nat) : Decidable (fY s i c) := inferInstanceAs (Decidable (_ ∧ _))
def aDh (s : List Nat) (i : Nat) (all : List Nat) (pow : Int) (neg : Bool) : aQj :=
 if cC s i < 1 ∨ 3 < cC s i then litNo
 else if 100 < iR ((s.drop i).take (cC s i)) then litNo
 else (all, pow + (if neg then -(iR ((s.drop i).take (cC s i)) : Int) else iR ((s.drop i).take (cC s i))), decide (i + cC s i = s.length), ())
def aJX (s : List Nat) (i : Nat) (all : List Nat) (pow : Int) : aQj :=
 if fY s i 101 then aDh s (if fY s (i + 1) 45 ∨ fY s (i + 1) 43 then i + 2 else i + 1) all pow (decide (fY s (i + 1) 45))
 else (all, pow, decide (i = s.length), ())
def dF (s : List Nat) : aQj :=
 if 60 < s.length ∨ cC s 0 = 0 then litNo
 else if fY s (cC s 0) 46 then
  if cC s (cC s 0 + 1) = 0 then litNo
  else aJX s (cC s 0 + 1 + cC s (cC s 0 + 1)) (s.take (cC s 0) ++ (s.drop (cC s 0 + 1)).take (cC s (cC s 0 + 1))) (-(cC s (cC s 0 + 1) : Int))
 else aJX s (cC s 0) (s.take (cC s 0)) 0
theorem aQk (s : List Nat) (i : Nat) : s.getD ((i : Int)).toNat 0 = s.getD i 0 := by rw [Int.toNat_natCast]
theorem aQl (s : List Nat) (k : Nat) (all : List Nat) (pow x : Int) (hs : s.length ≤ 60) (hk : k ≤ 100) (hp : -100 ≤ pow ∧ pow ≤ 100) (hx : -100 ≤ x ∧ x ≤ 100) : fJ pow (k : Int) s all x = some (all, pow + x, decide (k + cC s k = s.length), ()) := by
 have hd := yE s k
 unfold fJ
 rw [aAM s k (by omega) (by omega)]
 simp only [Option.getD_some]
 refine aB (by constructor <;> omega) (aB (by constructor <;> omega) ?_)
 unfold fI
 have : decide ((k : Int) + (cC s k : Int) = (s.length : Int)) = decide (k + cC s k = s.length) := decide_eq_decide.2 (by omega)
 rw [this]
theorem aQm (s : List Nat) (i k : Nat) (all : List Nat) (pow : Int) (hs : s.length ≤ 60) (hi : i ≤ 60) (hk : k ≤ 100) (hp : -100 ≤ pow ∧ pow ≤ 100) : fK s (i : Int) pow all (k : Int) = some (aDh s k all pow (decide (fY s (i + 1) 45))) := by
 have hd := yE s k
 unfold fK aDh
 rw [aAM s k (by omega) (by omega)]
 simp only [Option.getD_some]
 refine aB rfl ?_
 by_cases h1 : cC s k < 1 ∨ 3 < cC s k
 ·rw [if_pos (by omega), if_pos h1]; rfl
 ·rw [if_neg (by omega), if_neg h1]
  have ht : List.drop ((k : Int)).toNat (List.take ((k : Int) + (cC s k : Int)).toNat s) = (s.drop k).take (cC s k) := by
   rw [List.drop_take, Int.toNat_natCast]
   congr 1
   omega
  have hl : ((s.drop k).take (cC s k)).length = cC s k := by rw [List.length_take, List.length_drop]; omega
  have ha := aRy _ (aG1 s k) (by omega) (by omega)
  simp only [ht, ha, Option.getD_some]
  refine aB (by constructor <;> omega) (aB (by constructor <;> omega) (aB rfl ?_))
  by_cases h2 : 100 < iR ((s.drop k).take (cC s k))
  ·rw [if_pos (by omega), if_pos h2]; rfl
  ·rw [if_neg (by omega), if_neg h2]
   have e : ((i : Int) + 1).toNat = i + 1 := by omega
   rw [e]
   by_cases h3 : fY s (i + 1) 45
   ·have h3' : i + 1 < s.length ∧ s.getD (i + 1) 0 = 45 := h3
    rw [if_pos ⟨by omega, h3'.2⟩, decide_eq_true h3]
    refine aB (by constructor <;> omega) ?_
    rw [show (0 : Int) - (iR ((s.drop k).take (cC s k)) : Int) = -(iR ((s.drop k).take (cC s k)) : Int) from by omega]
    rw [aQl s k all pow _ hs hk hp (by constructor <;> omega)]
    rfl
   ·have h3' : ¬ (i + 1 < s.length ∧ s.getD (i + 1) 0 = 45) := h3
    rw [if_neg (fun h => h3' ⟨by omega, h.2⟩), decide_eq_false h3]
    rw [aQl s k all pow _ hs hk hp (by constructor <;> omega)]
    rfl
theorem aQn (s : List Nat) (i : Nat) (all : List Nat) (pow : Int) (hs : s.length ≤ 60) (hi : i ≤ 60) (hp : -100 ≤ pow ∧ pow ≤ 100) : fL s (i : Int) all pow = some (aJX s i all pow) := by
 unfold fL aJX
 have e : ((i : Int) + 1).toNat = i + 1 := by omega
 rw [aQk, e]
 refine aB (fun _ => by constructor <;> omega) ?_
 by_cases h : fY s i 101
 ·have h' : i < s.length ∧ s.getD i 0 = 101 := h
  rw [if_pos ⟨by omega, h'.2⟩, if_pos h]
  refine aB (by constructor <;> omega) (aB (fun _ => by constructor <;> omega) (aB (fun _ _ => by constructor <;> omega) ?_))
  by_cases h2 : fY s (i + 1) 45 ∨ fY s (i + 1) 43
  ·have h2' : (i + 1 < s.length ∧ s.getD (i + 1) 0 = 45) ∨ (i + 1 < s.length ∧ s.getD (i + 1) 0 = 43) := h2
   rw [if_pos (by rcases h2' with h | h; exact .inl ⟨by omega, h.2⟩; exact .inr ⟨by omega, h.2⟩), if_pos h2]
   refine aB (by constructor <;> omega) ?_
   have := aQm s i (i + 2) all pow hs hi (by omega) hp
   rw [show ((i + 2 : Nat) : Int) = (i : Int) + 1 + 1 from by omega] at this
   exact this
  ·have h2' : ¬ ((i + 1 < s.length ∧ s.getD (i + 1) 0 = 45) ∨ (i + 1 < s.length ∧ s.getD (i + 1) 0 = 43)) := h2
   rw [if_neg (fun h => h2' (by rcases h with h | h; exact .inl ⟨by omega, h.2⟩; exact .inr ⟨by omega, h.2⟩)), if_neg h2]
   have := aQm s i (i + 1) all pow hs hi (by omega) hp
   rw [show ((i + 1 : Nat) : Int) = (i : Int) + 1 from by omega] at this
   exact this
 ·have h' : ¬ (i < s.length ∧ s.getD i 0 = 101) := h
  rw [if_neg (fun h => h' ⟨by omega, h.2⟩), if_neg h]
  unfold fI
  have : decide ((i : Int) = (s.length : Int)) = decide (i = s.length) := decide_eq_decide.2 (by omega)
  rw [this]
theorem aMB (s : List Nat) (hs : s.length ≤ 4611686018427387904) : aP s = some (dF s) := by
 have hd0 := yE s 0
 have hd1 := yE s (cC s 0 + 1)
 unfold aP dF
 have e0 := aAM s 0 hs (by omega)
 rw [show ((0 : Nat) : Int) = 0 from rfl] at e0
 rw [e0]
 simp only [Option.getD_some]
 refine aB rfl (aB (by constructor <;> omega) ?_)
 by_cases h1 : 60 < s.length ∨ cC s 0 = 0
 ·rw [if_pos (by omega), if_pos h1]; rfl
 ·rw [if_neg (by omega), if_neg h1]
  rw [aQk]
  refine aB (fun _ => by constructor <;> omega) ?_
  by_cases h2 : fY s (cC s 0) 46
  ·have h2' : cC s 0 < s.length ∧ s.getD (cC s 0) 0 = 46 := h2
   rw [if_pos ⟨by omega, h2'.2⟩, if_pos h2]
   have e1 := aAM s (cC s 0 + 1) hs (by omega)
   rw [show ((cC s 0 + 1 : Nat) : Int) = (cC s 0 : Int) + 1 from by omega] at e1
   simp only [e1, Option.getD_some]
   refine aB (by constructor <;> omega) (aB rfl ?_)
   by_cases h3 : cC s (cC s 0 + 1) = 0
   ·rw [if_pos (by omega), if_pos h3]; rfl
   ·rw [if_neg (by omega), if_neg h3]
    have ht : List.drop ((cC s 0 : Int) + 1).toNat (List.take ((cC s 0 : Int) + 1 + (cC s (cC s 0 + 1) : Int)).toNat s) = (s.drop (cC s 0 + 1)).take (cC s (cC s 0 + 1)) := by
     rw [List.drop_take, show ((cC s 0 : Int) + 1).toNat = cC s 0 + 1 from by omega]
     congr 1
     omega
    simp only [ht, Int.toNat_natCast]
    have hl1 : (s.take (cC s 0)).length ≤ 60 := by rw [List.length_take]; omega
    have hl2 : ((s.drop (cC s 0 + 1)).take (cC s (cC s 0 + 1))).length ≤ 60 := by rw [List.length_take]; omega
    refine aB (by constructor <;> omega) (aB (by constructor <;> omega) (aB (by constructor <;> omega) (aB (by constructor <;> omega) (aB (by omega) (aB (by constructor <;> omega) (aB (by constructor <;> omega) (aB (by constructor <;> omega) ?_)))))))
    have := aQn s (cC s 0 + 1 + cC s (cC s 0 + 1)) (s.take (cC s 0) ++ (s.drop (cC s 0 + 1)).take (cC s (cC s 0 + 1))) (-(cC s (cC s 0 + 1) : Int)) (by omega) (by omega) (by constructor <;> omega)
    rw [show ((cC s 0 + 1 + cC s (cC s 0 + 1) : Nat) : Int) = (cC s 0 : Int) + 1 + (cC s (cC s 0 + 1) : Int) from by omega] at this
    rw [show (0 : Int) - (cC s (cC s 0 + 1) : Int) = -(cC s (cC s 0 + 1) : Int) from by omega]
    exact this
  ·have h2' : ¬ (cC s 0 < s.length ∧ s.getD (cC s 0) 0 = 46) := h2
   rw [if_neg (fun h => h2' ⟨by omega, h.2⟩), if_neg h2]
   rw [Int.toNat_natCast]
   exact aQn s (cC s 0) _ 0 (by omega) (by omega) (by decide)
end Nu
end Go.Proofs
namespace Go.Proofs
open Go.Vc
set_option maxRecDepth 20000
namespace Nu
def aLu (A B p k : Nat) (up : Bool) : Dy := gE (rm2 A B p k up) (rE A B p k)
theorem aDi {M : Nat} {e : Int} : (gE M e).2.1 = lb (M / 2 ^ tzn M) := by
 unfold gE
 split
 ·rename_i h; subst h; rw [Nat.zero_div, fS]; rfl
 ·rfl
theorem aOx {A B p k0 K : Nat} {up : Bool} (hB : B ≠ 0) (hAK : A < 2 ^ K) (hBK : B < 2 ^ K) (hK : K ≤ 1000) (hp : 1 ≤ p) (hp2 : p ≤ 2000) (h : A ≠ 0 → 2 ^ p ≤ rq A B k0) :
  aG0 (gE A 0) (gE B 0) (p : Int) up = .inl (if A = 0 then d0 else aLu A B p k0 up) := by
 have mA : lC (gE A 0) = true := aLt hAK (by omega) (by decide)
 have mB : lC (gE B 0) = true := aLt hBK (by omega) (by decide)
 have hm : aMx (p : Int) [gE A 0, gE B 0] = .inl () := by
  unfold aMx
  rw [if_pos ⟨by omega, by omega, by simp [mA, mB]⟩]
 obtain ⟨b1, b2⟩ := aBx hB
 have hB' : B / 2 ^ tzn B ≠ 0 := by omega
 have hbB : bl (B / 2 ^ tzn B) ≤ K := tL (Nat.lt_of_le_of_lt (Nat.div_le_self _ _) hBK)
 have hzB := aJV hB hBK
 unfold aG0
 rw [hm]
 simp only [aDi, eV]
 rw [if_neg (fun h => hB' (tK.1 (List.eq_nil_of_length_eq_zero h)))]
 have hs1 : (gE A 0).1 = false := by unfold gE; split <;> rfl
 have hs2 : (gE B 0).1 = false := by unfold gE; split <;> rfl
 rw [hs1, hs2]
 by_cases hA : A = 0
 ·subst hA
  simp only [if_true]
  have h1 : (gE 0 0).2.2.1 = 0 := rfl
  have h2 : (gE B 0).2.2.1 = (tzn B : Int) := by unfold gE; rw [if_neg hB]; simp
  rw [h1, h2, Nat.zero_div, Nat.zero_mul, Nat.zero_div, Nat.zero_mod]
  unfold aMy
  have hb0 : ¬ 0 < ((bl 0 : Nat) : Int) - (p : Int) := by
   have : bl 0 = 0 := rfl
   omega
  simp only [hb0, if_false]
  have : decide ((0 : Nat) ≠ 0) = false := rfl
  rw [this]
  simp only [Bool.false_eq_true, false_and, if_false]
  rfl
 ·obtain ⟨a1, a2⟩ := aBx hA
  have hA' : A / 2 ^ tzn A ≠ 0 := by omega
  have hbA : bl (A / 2 ^ tzn A) ≤ K := tL (Nat.lt_of_le_of_lt (Nat.div_le_self _ _) hAK)
  have hzA := aJV hA hAK
  have h1 : (gE A 0).2.2.1 = (tzn A : Int) := by unfold gE; rw [if_neg hA]; simp
  have h2 : (gE B 0).2.2.1 = (tzn B : Int) := by unfold gE; rw [if_neg hB]; simp
  rw [h1, h2, if_neg hA]
  obtain ⟨k, hk, hk2, hk3⟩ : ∃ k : Nat, max (0 : Int) ((p : Int) + 1 + (bl (B / 2 ^ tzn B) : Int) - (bl (A / 2 ^ tzn A) : Int)) = (k : Int) ∧ p + bl (B / 2 ^ tzn B) ≤ bl (A / 2 ^ tzn A) - 1 + k ∧ k ≤ 4000 := by
   have hpos := aCZ hA'
   exact ⟨(max (0 : Int) ((p : Int) + 1 + (bl (B / 2 ^ tzn B) : Int) - (bl (A / 2 ^ tzn A) : Int))).toNat, by omega, by omega, by omega⟩
  rw [hk, Int.toNat_natCast]
  have hbig := aJU (p := p) hA' hB' hk2
  have hf : (false != false) = false := rfl
  rw [hf]
  have hc := aTl (e := (tzn A : Int) - (tzn B : Int)) (up := up) hp hbig
  unfold rq at hc
  rw [hc]
  obtain ⟨o1, o2, o3, o4⟩ := aTn (A' := A / 2 ^ tzn A) (B' := B / 2 ^ tzn B) (za := tzn A) (zb := tzn B) hp a1.symm b1.symm (h hA)
  obtain ⟨s1, s2, s3⟩ := aQf hp hbig o1
  have hrm : rm2 (A / 2 ^ tzn A) (B / 2 ^ tzn B) p k up = rm2 A B p k0 up := by unfold rm2; rw [s1, s3, o2, o4]
  have hre : (tzn A : Int) - (tzn B : Int) + rE (A / 2 ^ tzn A) (B / 2 ^ tzn B) p k = rE A B p k0 := by rw [s2]; omega
  obtain ⟨q1, q2⟩ := aQh (A := A / 2 ^ tzn A) (B := B / 2 ^ tzn B) (p := p) (k := k) hA'
  rw [hrm, hre, aJW (K := p + 1) aQg (by omega) (by constructor <;> omega)]
  simp only [if_true]
  rfl
def aRz (r : aQj) : Prop := (∀ c ∈ r.1, eQ c = true) ∧ r.1.length ≤ 60 ∧ -160 ≤ r.2.1 ∧ r.2.1 ≤ 160
theorem vB : aRz litNo := ⟨(fun c hc => by cases hc), by decide, by decide, by decide⟩
theorem aJY {s : List Nat} {i : Nat} {all : List Nat} {pow : Int} {neg : Bool} (h1 : ∀ c ∈ all, eQ c = true) (h2 : all.length ≤ 60) (h3 : -60 ≤ pow ∧ pow ≤ 0) : aRz (aDh s i all pow neg) := by
 unfold aDh
 split
 ·exact vB
 ·split
  ·exact vB
  ·refine ⟨h1, h2, ?_, ?_⟩
   ·simp only; split <;> omega
   ·simp only; split <;> omega
theorem aG2 {s : List Nat} {i : Nat} {all : List Nat} {pow : Int} (h1 : ∀ c ∈ all, eQ c = true) (h2 : all.length ≤ 60) (h3 : -60 ≤ pow ∧ pow ≤ 0) : aRz (aJX s i all pow) := by
 unfold aJX
 split
 ·exact aJY h1 h2 h3
 ·exact ⟨h1, h2, by simp only; omega, by simp only; omega⟩
theorem tY (s : List Nat) : aRz (dF s) := by
 have hd0 := yE s 0
 have hd1 := yE s (cC s 0 + 1)
 have a0 := aG1 s 0
 rw [List.drop_zero] at a0
 have a1 := aG1 s (cC s 0 + 1)
 unfold dF
 split
 ·exact vB
 ·rename_i h
  split
  ·split
   ·exact vB
   ·refine aG2 (fun c hc => ?_) ?_ (by constructor <;> omega)
    ·rcases List.mem_append.1 hc with hc | hc
     ·exact a0 c hc
     ·exact a1 c hc
    ·rw [List.length_append, List.length_take, List.length_take, List.length_drop]; omega
  ·refine aG2 a0 ?_ (by decide)
   rw [List.length_take]; omega
def wQ (s : List Nat) : Nat := iR (dF s).1 * 10 ^ (max (dF s).2.1 0).toNat
def sL (s : List Nat) : Nat := 10 ^ (max (-(dF s).2.1) 0).toNat
theorem oZ (n : Nat) : 10 ^ n ≤ 2 ^ (4 * n) := by
 rw [Nat.pow_mul]
 exact Nat.pow_le_pow_left (by decide) n
theorem aNI (s : List Nat) : wQ s < 2 ^ 900 := by
 obtain ⟨h1, h2, h3, h4⟩ := tY s
 have a := aAN h1
 have b := oZ (dF s).1.length
 have c := oZ (max (dF s).2.1 0).toNat
 unfold wQ
 have d := Nat.mul_lt_mul_of_lt_of_le (Nat.lt_of_lt_of_le a b) c (Nat.pow_pos (by decide))
 rw [← Nat.pow_add] at d
 exact aLr 900 d (by omega)
theorem aNJ (s : List Nat) : sL s < 2 ^ 900 := by
 obtain ⟨h1, h2, h3, h4⟩ := tY s
 have c := oZ (max (-(dF s).2.1) 0).toNat
 unfold sL
 exact aGY 900 c (by omega)
theorem aG3 (s : List Nat) : sL s ≠ 0 := by
 unfold sL
 have := Nat.pow_pos (n := (max (-(dF s).2.1) 0).toNat) (show 0 < 10 by decide)
 omega
def aSI (s : List Nat) : List Nat × List Nat × Bool × Unit := if (dF s).2.2.1 = true then (lb (wQ s), lb (sL s), true, ()) else ([], [], false, ())
theorem aDj {x : Nat} (h : x < 2 ^ 900) : (lb x).length ≤ 15 := by
 exact jN.2 (aLs 15 h (by decide))
theorem aQo (s : List Nat) (hs : s.length ≤ 4611686018427387904) : bT s = some (aSI s) := by
 obtain ⟨h1, h2, h3, h4⟩ := tY s
 unfold bT aSI
 simp only [aMB s hs, Option.getD_some]
 refine aB rfl ?_
 by_cases h : (dF s).2.2.1 = true
 ·rw [if_neg (fun hn => hn h), if_pos h]
  have e1 := aII (dF s).1 h1 (by omega)
  have e2 := aAD 10 (max (dF s).2.1 0).toNat (by decide) (by omega)
  have e3 := aAD 10 (max (-(dF s).2.1) 0).toNat (by decide) (by omega)
  rw [show (((max (dF s).2.1 0).toNat : Nat) : Int) = max (dF s).2.1 0 from by omega] at e2
  rw [show (((max (-(dF s).2.1) 0).toNat : Nat) : Int) = max (0 - (dF s).2.1) 0 from by omega] at e3
  simp only [e1, e2, e3, Option.getD_some]
  have l1 : (lb (iR (dF s).1)).length ≤ 15 := aDj (by
   have a := aAN h1
   have b := oZ (dF s).1.length
   exact aLr 900 (Nat.lt_of_lt_of_le a b) (by omega))
  have l2 : (lb (10 ^ (max (dF s).2.1 0).toNat)).length ≤ 15 := aDj (aGY 900 (oZ _) (by omega))
  refine aB rfl (aB rfl (aB ⟨?_, ?_⟩ (aB (by constructor <;> omega) (aB rfl ?_))))
  ·show (lb (iR (dF s).1)).length ≤ _; omega
  ·show (lb (10 ^ (max (dF s).2.1 0).toNat)).length ≤ _; omega
  ·have ht : aY (lb (iR (dF s).1)) (lb (10 ^ (max (dF s).2.1 0).toNat)) = lb (wQ s) := by
    unfold aY wQ; rw [eV, eV]
   rw [ht]; rfl
 ·rw [if_pos h, if_neg h]
end Nu
end Go.Proofs
namespace Go.Proofs
open Go.Vc
set_option maxRecDepth 20000
namespace Nu
theorem aCy (s : List Nat) (hs : s.length ≤ 4611686018427387904) : bR s = some (dF s).2.2.1 := by
 unfold bR
 simp only [aMB s hs, Option.getD_some]
 exact aB rfl rfl
def rH (s : List Nat) (p : Nat) (up : Bool) : Dy := if wQ s = 0 then d0 else aLu (wQ s) (sL s) p (p + 1 + bl (sL s)) up
def wR (s : List Nat) (p : Int) : (Dy × Dy × Unit) × Int × Unit :=
 if ¬ (dF s).2.2.1 = true then ((d0, d0, ()), 6, ())
 else if p < 1 ∨ 2000 < p then ((d0, d0, ()), 1, ())
 else ((rH s p.toNat false, rH s p.toNat true, ()), 0, ())
theorem aQp {A K : Nat} (h : A < 2 ^ K) (hK : K ≤ 4096) : bJ false (lb A) 0 = some (gE A 0, 0, ()) := by
 have hl : (lb A).length ≤ K + 1 := jN.2 (Nat.lt_of_lt_of_le h (by rw [lK]; exact Nat.pow_le_pow_right (by decide) (by omega)))
 rw [aMw false (lb A) 0 (yJ A) (rF A) (by omega), eV, aJW h hK (by decide)]
theorem aLv (s : List Nat) (p : Nat) (up : Bool) (hp : 1 ≤ p ∧ p ≤ 2000) : dQ (gE (wQ s) 0) (gE (sL s) 0) (p : Int) up = some (rH s p up, 0, ()) := by
 have hL : ∀ M, Lm (gE M 0).2.1 := fun M => by rw [aDi]; exact yJ _
 rw [aRx _ _ _ _ (hL _) (hL _), aOx (k0 := p + 1 + bl (sL s)) (aG3 s) (aNI s) (aNJ s) (by decide) hp.1 hp.2 (fun h => aJU h (aG3 s) (by have := aCZ h; omega))]
 rfl
theorem aG4 (s : List Nat) (p : Int) (hs : s.length ≤ 4611686018427387904) : bN s p = some (wR s p) := by
 unfold bN wR
 simp only [aQo s hs, Option.getD_some]
 refine aB rfl ?_
 unfold aSI
 by_cases h : (dF s).2.2.1 = true
 ·simp only [h, if_true, not_true, if_false]
  by_cases h2 : p < 1 ∨ 2000 < p
  ·simp only [h2, if_true]; rfl
  ·simp only [h2, if_false]
   obtain ⟨q, rfl⟩ : ∃ q : Nat, p = (q : Int) := ⟨p.toNat, by omega⟩
   simp only [aQp (aNI s) (by decide), aQp (aNJ s) (by decide), Option.getD_some, aLv s q false (by constructor <;> omega), aLv s q true (by constructor <;> omega)]
   refine aB rfl (aB rfl (aB rfl (aB rfl ?_)))
   simp only [not_true, or_self, if_false, Int.toNat_natCast]
 ·simp only [h, if_false, Bool.false_eq_true, not_false_eq_true, if_true]; rfl
end Nu
end Go.Proofs
namespace Go.Proofs
open Go.Vc
set_option maxRecDepth 20000
namespace Nu
def exN (s : List Nat) : Nat := iR (dF s).1 * 5 ^ (max (dF s).2.1 0).toNat
def exD (s : List Nat) : Nat := 5 ^ (max (-(dF s).2.1) 0).toNat
def aJZ (s : List Nat) : Dy × Int × Unit :=
 if ¬ (dF s).2.2.1 = true then (d0, 6, ())
 else if exN s % exD s ≠ 0 then (d0, 6, ())
 else (gE (exN s / exD s) (dF s).2.1, 0, ())
theorem aLw (n : Nat) : 5 ^ n ≤ 2 ^ (4 * n) := Nat.le_trans (Nat.pow_le_pow_left (by decide) n) (oZ n)
theorem aSJ (s : List Nat) : exN s < 2 ^ 900 := by
 obtain ⟨h1, h2, h3, h4⟩ := tY s
 have a := aAN h1
 have b := oZ (dF s).1.length
 have c := aLw (max (dF s).2.1 0).toNat
 unfold exN
 have d := Nat.mul_lt_mul_of_lt_of_le (Nat.lt_of_lt_of_le a b) c (Nat.pow_pos (by decide))
 rw [← Nat.pow_add] at d
 exact aLr 900 d (by omega)
theorem aRA (s : List Nat) : exD s ≠ 0 := by
 unfold exD
 have := Nat.pow_pos (n := (max (-(dF s).2.1) 0).toNat) (show 0 < 5 by decide)
 omega
theorem aLx (s : List Nat) (hs : s.length ≤ 4611686018427387904) : bC s = some (aJZ s) := by
 obtain ⟨h1, h2, h3, h4⟩ := tY s
 unfold bC aJZ
 simp only [aMB s hs, Option.getD_some]
 refine aB rfl ?_
 by_cases h : (dF s).2.2.1 = true
 ·simp only [h, not_true, if_false]
  have e1 := aII (dF s).1 h1 (by omega)
  have e2 := aAD 5 (max (dF s).2.1 0).toNat (by decide) (by omega)
  have e3 := aAD 5 (max (-(dF s).2.1) 0).toNat (by decide) (by omega)
  rw [show (((max (dF s).2.1 0).toNat : Nat) : Int) = max (dF s).2.1 0 from by omega] at e2
  rw [show (((max (-(dF s).2.1) 0).toNat : Nat) : Int) = max (0 - (dF s).2.1) 0 from by omega] at e3
  have l1 : (lb (iR (dF s).1)).length ≤ 15 := aDj (by
   have a := aAN h1
   have b := oZ (dF s).1.length
   exact aLr 900 (Nat.lt_of_lt_of_le a b) (by omega))
  have l2 : (lb (5 ^ (max (dF s).2.1 0).toNat)).length ≤ 15 := aDj (aGY 900 (aLw _) (by omega))
  have ht : aY (lb (iR (dF s).1)) (lb (5 ^ (max (dF s).2.1 0).toNat)) = lb (exN s) := by
   unfold aY exN; rw [eV, eV]
  have hq : bB (lb (exN s)) (lb (exD s)) = (lb (exN s / exD s), lb (exN s % exD s), ()) := by
   unfold bB; rw [eV, eV]
  have hN := aSJ s
  have hlt : exN s / exD s < 2 ^ 900 := Nat.lt_of_le_of_lt (Nat.div_le_self _ _) hN
  have hF : bJ false (lb (exN s / exD s)) (dF s).2.1 = some (gE (exN s / exD s) (dF s).2.1, 0, ()) := by
   rw [aMw false _ _ (yJ _) (rF _) (by have := aDj hlt; omega), eV, aJW hlt (by decide) (by constructor <;> omega)]
  have hD : lb (5 ^ (max (-(dF s).2.1) 0).toNat) = lb (exD s) := rfl
  rw [hD] at e3
  simp only [e1, e2, e3, Option.getD_some, ht, hq, hF]
  refine aB rfl (aB rfl (aB ⟨?_, ?_⟩ (aB (by constructor <;> omega) (aB rfl (aB ⟨rF _, rF _, by rw [eV]; exact aRA s, ?_⟩ (aB rfl ?_))))))
  ·show (lb (iR (dF s).1)).length ≤ _; omega
  ·show (lb (5 ^ (max (dF s).2.1 0).toNat)).length ≤ _; omega
  ·have := aDj hN; omega
  ·by_cases hr : exN s % exD s = 0
   ·rw [if_neg (by rw [hr, fS]; simp), if_neg (fun h => h hr)]
   ·have hl := List.length_pos_iff.2 (fun e => hr (tK.1 e))
    rw [if_pos (.inl (by omega)), if_pos hr]; rfl
 ·simp only [h, not_false_eq_true, if_true, Bool.false_eq_true]; rfl
end Nu
end Go.Proofs
namespace Go.Proofs
open Go.Vc
set_option maxRecDepth 20000
namespace Nu
def yF (u : Nat) : List Nat := dgs (Lib.nDigits u) u
theorem aSK {u : Nat} (h : u < 10) : yF u = [48 + u] := by
 unfold yF
 rw [Lib.nDigits_small h]
 simp [dgs, Nat.mod_eq_of_lt h]
theorem aMC {u : Nat} (h : ¬ u < 10) (h2 : u < 100) : yF u = [48 + u / 10, 48 + u % 10] := by
 unfold yF
 rw [Lib.nDigits_big h, Lib.nDigits_small (by omega)]
 have : u / 10 % 10 = u / 10 := Nat.mod_eq_of_lt (by omega)
 simp [dgs, List.range_succ, this]
theorem aOy : ∀ u : Fin 100, (if u.val < 10 then List.drop u.val (List.take (u.val + 1) (aK tX)) else List.drop (u.val * 2) (List.take (u.val * 2 + 2) (aK tW))) = if u.val < 10 then [48 + u.val] else [48 + u.val / 10, 48 + u.val % 10] := by
 decide +kernel
theorem aOz : (aK tX).length = 36 ∧ (aK tW).length = 200 := by decide +kernel
theorem aQq (u : Nat) (h : u < 100) : fM (u : Int) = some (yF u) := by
 have ht := aOy ⟨u, h⟩
 obtain ⟨l1, l2⟩ := aOz
 simp only at ht
 unfold fM
 by_cases h1 : u < 10
 ·rw [if_pos h1, if_pos h1] at ht
  rw [if_pos (by omega), l1, aSK h1]
  refine aB (by constructor <;> omega) (aB (by constructor <;> omega) ?_)
  rw [Int.toNat_natCast, show ((u : Int) + 1).toNat = u + 1 from by omega, ht]
 ·rw [if_neg h1, if_neg h1] at ht
  rw [if_neg (by omega), l2, aMC h1 h]
  refine aB (by constructor <;> omega) (aB (by constructor <;> omega) (aB (by constructor <;> omega) (aB (by constructor <;> omega) ?_)))
  rw [show ((u : Int) * 2).toNat = u * 2 from by omega, show ((u : Int) * 2 + 2).toNat = u * 2 + 2 from by omega, ht]
theorem aRB : ∀ k : Fin 20, ([1, 10, 100, 1000, 10000, 100000, 1000000, 10000000, 100000000, 1000000000, 10000000000, 100000000000, 1000000000000, 10000000000000, 100000000000000, 1000000000000000, 10000000000000000, 100000000000000000, 1000000000000000000, 10000000000000000000] : List Nat).getD k.val 0 = 10 ^ k.val := by decide +kernel
theorem aOA {u : Nat} (h1 : u ≠ 0) (h : u < 18446744073709551616) : Lib.bitLen u = bl u := by
 obtain ⟨a, b, c⟩ := Lib.bitLenAux_bounds 64 u h (by omega)
 unfold Lib.bitLen
 have h2 := tL c
 have h3 := aFQ b
 omega
theorem aH5 (u : Nat) (h1 : u ≠ 0) (h : u < 18446744073709551616) : bM u = some (Lib.nDigits u : Int) := by
 obtain ⟨k1, k2⟩ := Lib.numDigits_eq u (by omega) h
 rw [aOA h1 h] at k1 k2
 have hb := aOj h
 have hl : Int.fdiv ((bl u : Int) * 78913) (2 ^ 18) = (Lib.l10 (bl u) : Int) := by
  unfold Lib.l10
  rw [Int.fdiv_eq_ediv_of_nonneg _ (by decide)]
  omega
 have hlog : bQ (cJ u) = some (Lib.l10 (bl u) : Int) := by
  unfold bQ cJ
  refine aB (by constructor <;> omega) ?_
  rw [hl]
 have hp : p10.getD (Lib.l10 (bl u)) 0 = 10 ^ Lib.l10 (bl u) := by
  rw [aPO]; exact aRB ⟨Lib.l10 (bl u), by omega⟩
 have hbool : ∀ b : Bool, dL b = some (if b = true then 1 else 0) := fun b => by cases b <;> rfl
 unfold bM
 simp only [hlog, Option.getD_some, Int.toNat_natCast, hp, hbool]
 refine aB rfl (aB (by constructor <;> omega) (aB rfl ?_))
 by_cases hh : 10 ^ Lib.l10 (bl u) ≤ u
 ·rw [if_pos hh] at k1
  simp only [hh, decide_true, if_true]
  refine aB (by constructor <;> omega) ?_
  rw [show (Lib.l10 (bl u) : Int) + 1 = (Lib.nDigits u : Int) from by omega]
 ·rw [if_neg hh] at k1
  simp only [hh, decide_false, Bool.false_eq_true, if_false]
  refine aB (by constructor <;> omega) ?_
  rw [show (Lib.l10 (bl u) : Int) + 0 = (Lib.nDigits u : Int) from by omega]
theorem aH6 (u : Nat) (h : u < 18446744073709551616) : cS u 10 = some (yF u) := by
 have key : dY u 10 = some (yF u) := by
  unfold dY
  rw [if_pos rfl]
  by_cases h1 : u < 100
  ·have hw : IntKind.i64.wrap ((u : Nat) : Int) = (u : Int) := by
    simp only [IntKind.wrap, IntKind.signed, IntKind.bits]; simp; omega
   rw [if_pos h1, hw]
   simp only [aQq u h1, Option.getD_some]
   exact aB rfl rfl
  ·rw [if_neg h1]
   have hn := aH5 u (by omega) h
   obtain ⟨k1, k2⟩ := Lib.numDigits_eq u (by omega) h
   have hle : Lib.nDigits u ≤ 20 := by split at k1 <;> omega
   have hpos := Lib.nDigits_pos u
   have hlt := Lib.lt_pow_nDigits u
   simp only [hn, Option.getD_some]
   have e : ((Lib.nDigits u : Int) - 0).toNat = Lib.nDigits u := by omega
   rw [e]
   have hf : dJ 0 (Lib.nDigits u) u (List.replicate 24 0) = some (yF u ++ (List.replicate 24 0).drop (0 + Lib.nDigits u)) := by
    unfold dJ
    refine aB (by omega) (aB hlt ?_)
    rfl
   refine aB rfl (aB (by constructor <;> omega) (bZ hf (aB (by constructor <;> omega) (aB (by omega) ?_))))
   rw [List.drop_zero, List.take_append_of_le_length (by unfold yF; rw [nJ]; exact Nat.le_refl _), List.take_of_length_le (by unfold yF; rw [nJ]; exact Nat.le_refl _)]
 unfold cS
 rw [key]
 exact aB rfl rfl
end Nu
end Go.Proofs
namespace Go.Proofs
open Go.Vc
set_option maxRecDepth 20000
namespace Nu
theorem aSL : bI (aK pZ) [48] = some false := by decide +kernel
theorem aSM : bI (aK pY) [48] = some false := by decide +kernel
theorem aSN : bI (aK nO) [48] = some true := by decide +kernel
theorem aTp : aK nO = List.replicate 64 48 := by decide +kernel
theorem aIJ (c : Nat) (h : c ≤ 64) : aO [48] (c : Int) = some (List.replicate c 48) := by
 have hw : IntKind.i64.wrap ((c : Nat) : Int) = (c : Int) := by
  simp only [IntKind.wrap, IntKind.signed, IntKind.bits]; simp; omega
 have hm : bH (((([48] : List Nat).length : Nat) : Int) % (18446744073709551616 : Int)).toNat ((c : Int) % (18446744073709551616 : Int)).toNat = some (0, c, ()) := by
  have e1 : (((([48] : List Nat).length : Nat) : Int) % (18446744073709551616 : Int)).toNat = 1 := by decide
  have e2 : ((c : Int) % (18446744073709551616 : Int)).toNat = c := by omega
  rw [e1, e2]
  unfold bH bF
  simp only
  rw [Nat.one_mul, Nat.div_eq_of_lt (by omega), Nat.mod_eq_of_lt (by omega)]
 unfold aO
 by_cases h0 : c = 0
 ·subst h0; rfl
 by_cases h1 : c = 1
 ·subst h1; rfl
 rw [if_neg (by omega), if_neg (by omega), if_neg (by omega)]
 simp only [hm, Option.getD_some]
 refine aB rfl ?_
 rw [if_neg (by omega), if_neg (by decide)]
 refine aB (by decide) ?_
 rw [if_neg (by decide), if_neg (by decide), if_pos (by decide)]
 have hd : decide ((([48] : List Nat).getD 0 0) = 48) = true := by decide
 rw [hd]
 unfold dC
 rw [if_pos rfl]
 simp only [hm, Option.getD_some, hw, aSL, aSM, aSN]
 refine aB (fun _ => rfl) ?_
 rw [if_neg (fun hh => by cases hh.2)]
 refine aB (fun _ => rfl) ?_
 rw [if_neg (fun hh => by cases hh.2)]
 refine aB (fun _ => rfl) ?_
 rw [if_pos ⟨by omega, trivial⟩, aTp]
 refine aB (by constructor; omega; rw [List.length_replicate]; omega) ?_
 rw [Int.toNat_natCast, List.take_replicate, Nat.min_eq_left h]
theorem aJ0 (a b x y : Nat) (hy : y < 10 ^ b) : dgs a x ++ dgs b y = dgs (a + b) (x * 10 ^ b + y) := by
 apply List.ext_getElem
 ·simp [dgs]
 ·intro i h1 h2
  have hi : i < a + b := by simpa [dgs] using h2
  by_cases hlt : i < a
  ·rw [List.getElem_append_left (by simpa [dgs] using hlt)]
   simp only [dgs, List.getElem_map, List.getElem_range]
   rw [show a + b - 1 - i = b + (a - 1 - i) from by omega, Nat.pow_add, ← Nat.div_div_eq_div_mul, Nat.mul_comm x, Nat.mul_add_div (Nat.pow_pos (by decide)), Nat.div_eq_of_lt hy, Nat.add_zero]
  ·rw [List.getElem_append_right (by simp [dgs]; omega)]
   simp only [dgs, List.length_map, List.length_range, List.getElem_map, List.getElem_range]
   have e1 : a + b - 1 - i = b - 1 - (i - a) := by omega
   rw [e1]
   congr 1
   have hk : b = (b - 1 - (i - a)) + (i - a + 1) := by omega
   have e2 : x * 10 ^ b = 10 ^ (b - 1 - (i - a)) * (x * 10 ^ (i - a) * 10) := by
    conv => lhs; rw [hk]
    rw [Nat.pow_add, Nat.pow_succ, Nat.mul_left_comm, Nat.mul_assoc x]
   rw [e2, Nat.mul_add_div (Nat.pow_pos (by decide)), Nat.add_comm, Nat.add_mul_mod_self_right]
theorem aLy (n : Nat) : dgs n 0 = List.replicate n 48 := by
 apply List.ext_getElem
 ·simp [dgs]
 ·intro i h1 h2; simp [dgs]
theorem aRC {k n r : Nat} (hk : k ≤ n) (hr : r < 10 ^ k) : List.replicate (n - k) 48 ++ dgs k r = dgs n r := by
 rw [← aLy, aJ0 _ _ _ _ hr, Nat.zero_mul, Nat.zero_add]
 congr 1; omega
theorem vC (u : Nat) (h0 : u ≠ 0) : 10 ^ (Lib.nDigits u - 1) ≤ u := by
 induction u using Nat.strongRecOn with
 | _ u ih =>
  by_cases h : u < 10
  ·rw [Lib.nDigits_small h]; simp; omega
  ·have := ih (u / 10) (by omega) (by omega)
   have hp := Lib.nDigits_pos (u / 10)
   rw [Lib.nDigits_big h, Nat.add_sub_cancel, show Lib.nDigits (u / 10) = Lib.nDigits (u / 10) - 1 + 1 from by omega, Nat.pow_succ]
   omega
theorem aJ1 {M b y : Nat} (hM : M ≠ 0) (hy : y < 10 ^ b) : Lib.nDigits (M * 10 ^ b + y) = Lib.nDigits M + b := by
 have h1 := Lib.lt_pow_nDigits M
 have h2 := Lib.nDigits_pos M
 have h3 := vC M hM
 have h4 := Nat.mul_le_mul_right (10 ^ b) h3
 have h5 := Nat.mul_le_mul_right (10 ^ b) (show M + 1 ≤ 10 ^ Lib.nDigits M from h1)
 rw [← Nat.pow_add] at h4 h5
 rw [Nat.add_mul, Nat.one_mul] at h5
 have := Lib.nDigits_unique (Lib.nDigits M - 1 + b) (M * 10 ^ b + y) (by omega) (by rw [show Lib.nDigits M - 1 + b + 1 = Lib.nDigits M + b from by omega]; omega)
 omega
theorem aQr {M b y : Nat} (hM : M ≠ 0) (hy : y < 10 ^ b) : yF M ++ dgs b y = yF (M * 10 ^ b + y) := by
 unfold yF
 rw [aJ1 hM hy, aJ0 _ _ _ _ hy]
end Nu
end Go.Proofs
namespace Go.Proofs
open Go.Vc
set_option maxRecDepth 20000
namespace Nu
def cat (l : List (List Nat)) : List Nat := l.reverse.flatten
theorem aG5 (l : List (List Nat)) (s : List Nat) : cat (l ++ [s]) = s ++ cat l := by simp [cat]
theorem aOB (l : List (List Nat)) (k : Nat) : cat l = cat (l.drop k) ++ cat (l.take k) := by
 unfold cat
 rw [← List.flatten_append, ← List.reverse_append, List.take_append_drop]
theorem aJ2 (l : List (List Nat)) (k : Nat) : (cat (l.take k)).length ≤ (cat l).length := by
 rw [aOB l k, List.length_append]; omega
theorem aRD (l : List (List Nat)) (h1 : l.length ≤ 1000000000) (h2 : (cat l).length ≤ 1000000000) : lH l = some (cat l) := by
 unfold lH
 refine bZ (kE (step := fun d : (List Nat) × Int => iQ l d.1 d.2) (I := fun d => 0 ≤ d.2 ∧ d.2 ≤ l.length ∧ d.1 = cat (l.take d.2.toNat)) (fun d => ((l.length : Int) - d.2).toNat) (fun _ => cat l) ?_ (aK ⟨#[]⟩, 0) ⟨by simp, by simp, rfl⟩) rfl
 rintro ⟨out, i⟩ ⟨i0, i1, i2⟩
 have i0 : 0 ≤ i := i0
 have i1 : i ≤ l.length := i1
 have i2 : out = cat (l.take i.toNat) := i2
 show (∃ d', iQ l out i = _ ∧ _) ∨ iQ l out i = _
 unfold iQ
 by_cases hi : i < l.length
 ·left
  have hk : i.toNat < l.length := by omega
  have ht : cat (l.take (i + 1).toNat) = l.getD i.toNat [] ++ out := by
   rw [show (i + 1).toNat = i.toNat + 1 from by omega, List.take_succ_eq_append_getElem hk, aG5, i2, List.getD_eq_getElem?_getD, List.getElem?_eq_getElem hk]; rfl
  have hlen := aJ2 l (i + 1).toNat
  rw [ht, List.length_append] at hlen
  refine ⟨(cat (l.take (i + 1).toNat), i + 1), ?_, ⟨by simp only; omega, by simp only; omega, rfl⟩, by simp only; omega, rfl⟩
  rw [if_pos hi]
  refine aB (by constructor <;> omega) (aB (by omega) (aB (by constructor <;> omega) ?_))
  rw [ht]
 ·right
  rw [if_neg hi, i2, List.take_of_length_le (by omega)]
def txt (n : Nat) : List Nat := if n = 0 then [] else yF n
structure TxI (n : Nat) (m : List Nat) (l : List (List Nat)) (M rest : Nat) : Prop where
 m0 : m = lb M
 sum : n = M * 10 ^ (18 * l.length) + rest
 lt : rest < 10 ^ (18 * l.length)
 str : cat l = dgs (18 * l.length) rest
 pos : M ≠ 0 ∨ l.length = 0
theorem aRE {n M rest : Nat} {m : List Nat} {l : List (List Nat)} (h : TxI n m l M rest) : 18 * l.length ≤ bl n := by
 rcases h.pos with hp | hp
 ·rcases Nat.eq_zero_or_pos l.length with h0 | h0
  ·omega
  ·have h1 : 2 ^ (18 * l.length) ≤ 10 ^ (18 * l.length) := Nat.pow_le_pow_left (by decide) _
   have h2 : 10 ^ (18 * l.length) ≤ M * 10 ^ (18 * l.length) := Nat.le_mul_of_pos_left _ (by omega)
   have h3 : 2 ^ (18 * l.length) ≤ n := by rw [h.sum]; omega
   have := aFQ h3
   omega
 ·omega
theorem q18 (M : Nat) : bB (lb M) [1000000000000000000] = (lb (M / 1000000000000000000), lb (M % 1000000000000000000), ()) := by
 unfold bB
 rw [eV]
 rfl
theorem aQs {n M P T rest : Nat} (h : n = M * T + rest) : n = M / P * (P * T) + (M % P * T + rest) := by
 have e := Nat.div_add_mod M P
 rw [h, ← Nat.add_assoc]
 congr 1
 conv => lhs; rw [← e]
 rw [Nat.add_mul, Nat.mul_comm P, Nat.mul_assoc]
theorem aRF {r P T rest : Nat} (h : r < P) (h2 : rest < T) : r * T + rest < P * T := by
 have h1 := Nat.mul_le_mul_right T (show r + 1 ≤ P from h)
 rw [Nat.add_mul, Nat.one_mul] at h1
 omega
theorem p18 : (10 : Nat) ^ 18 = 1000000000000000000 := by decide
theorem aRG {n M rest : Nat} {m : List Nat} {l : List (List Nat)} (hn : bl n ≤ 1000000) (h : TxI n m l M rest) :
  (∃ m' l' M' rest', fX l m (txt (M % 1000000000000000000)) = some (.inl (m', l')) ∧ TxI n m' l' M' rest' ∧ M' < M) ∨
   ∃ l', fX l m (txt (M % 1000000000000000000)) = some (.inr l') ∧ cat l' = txt n ∧ l'.length ≤ 1000000 := by
 have hl := aRE h
 have hr : M % 1000000000000000000 < 10 ^ 18 := Nat.mod_lt _ (by decide)
 have e := Nat.div_add_mod M 1000000000000000000
 have hsl : (txt (M % 1000000000000000000)).length ≤ 18 := by
  unfold txt
  split
  ·simp
  ·rename_i h0
   unfold yF
   rw [nJ]
   have h1 := vC _ h0
   rcases Nat.lt_or_ge (Lib.nDigits (M % 1000000000000000000)) 19 with hh | hh
   ·omega
   ·have h2 : 10 ^ 18 ≤ 10 ^ (Lib.nDigits (M % 1000000000000000000) - 1) := Nat.pow_le_pow_right (by decide) (by omega)
    omega
 unfold fX
 rw [h.m0, q18]
 by_cases hq : M / 1000000000000000000 = 0
 ·right
  refine ⟨l ++ [txt (M % 1000000000000000000)], ?_, ?_, by rw [List.length_append]; simp; omega⟩
  ·refine aB (by omega) ?_
   rw [if_pos (by simp only; rw [hq, fS]; rfl)]
  ·have hM : M % 1000000000000000000 = M := by omega
   rw [aG5, hM, h.str]
   rcases Nat.eq_zero_or_pos M with h0 | h0
   ·subst h0
    rcases h.pos with hp | hp
    ·exact absurd rfl hp
    ·have hs := h.sum
     have hlt := h.lt
     rw [hp] at hlt hs ⊢
     have : rest = 0 := by simpa using hlt
     subst this
     simp only [Nat.zero_mul, Nat.add_zero] at hs
     subst hs
     rfl
   ·have hn0 : n ≠ 0 := by
     rw [h.sum]
     have := Nat.mul_pos h0 (Nat.pow_pos (n := 18 * l.length) (show 0 < 10 by decide))
     omega
    unfold txt
    rw [if_neg (by omega), if_neg hn0, aQr (by omega) h.lt, ← h.sum]
 ·left
  have hpad : List.replicate (18 - (txt (M % 1000000000000000000)).length) 48 ++ txt (M % 1000000000000000000) = dgs 18 (M % 1000000000000000000) := by
   unfold txt at hsl ⊢
   split
   ·rename_i h0; rw [h0, aLy]; simp
   ·rename_i h0
    rw [if_neg h0] at hsl
    unfold yF at hsl ⊢
    rw [nJ] at hsl ⊢
    exact aRC hsl (Lib.lt_pow_nDigits _)
  have hrep : aO (aK ⟨#[48]⟩) (18 - ((txt (M % 1000000000000000000)).length : Int)) = some (List.replicate (18 - (txt (M % 1000000000000000000)).length) 48) := by
   have := aIJ (18 - (txt (M % 1000000000000000000)).length) (by omega)
   rw [show ((18 - (txt (M % 1000000000000000000)).length : Nat) : Int) = 18 - ((txt (M % 1000000000000000000)).length : Int) from by omega] at this
   exact this
  have hset : (l ++ [txt (M % 1000000000000000000)]).set (((l ++ [txt (M % 1000000000000000000)]).length : Int) - 1).toNat (List.replicate (18 - (txt (M % 1000000000000000000)).length) 48 ++ txt (M % 1000000000000000000)) = l ++ [dgs 18 (M % 1000000000000000000)] := by
   rw [hpad, List.length_append, List.length_singleton, show (((l.length + 1 : Nat) : Int) - 1).toNat = l.length from by omega]
   simp
  refine ⟨lb (M / 1000000000000000000), l ++ [dgs 18 (M % 1000000000000000000)], M / 1000000000000000000, M % 1000000000000000000 * 10 ^ (18 * l.length) + rest, ?_, ?_, Nat.div_lt_self (by omega) (by decide)⟩
  ·have hne := List.length_pos_iff.2 (fun e => hq (tK.1 e))
   have hll : (l ++ [txt (M % 1000000000000000000)]).length = l.length + 1 := by simp
   refine aB (by omega) ?_
   rw [if_neg (by simp only; omega)]
   simp only [hrep, Option.getD_some]
   refine aB (by constructor <;> omega) (aB (by constructor <;> omega) (aB rfl (aB (by rw [List.length_replicate]; omega) (aB (by constructor <;> omega) ?_))))
   rw [hset]
  ·have hl1 : (l ++ [dgs 18 (M % 1000000000000000000)]).length = l.length + 1 := by simp
   have hp : 10 ^ (18 * (l.length + 1)) = 1000000000000000000 * 10 ^ (18 * l.length) := by rw [← p18, ← Nat.pow_add]; congr 1; omega
   refine ⟨rfl, ?_, ?_, ?_, .inl hq⟩
   ·rw [hl1, hp]
    have := aQs (P := 1000000000000000000) (T := 10 ^ (18 * l.length)) h.sum
    exact this
   ·rw [hl1, hp]; exact aRF (Nat.mod_lt _ (by decide)) h.lt
   ·have := aJ0 18 (18 * l.length) (M % 1000000000000000000) rest h.lt
    rw [hl1, aG5, h.str, this, show 18 + 18 * l.length = 18 * (l.length + 1) from by omega]
end Nu
end Go.Proofs
namespace Go.Proofs
open Go.Vc
set_option maxRecDepth 20000
namespace Nu
theorem aQt {x : Nat} (h : x < 18446744073709551616) : (lb x).getD 0 0 = x := by
 rw [lQ (yJ x), eV, Nat.pow_zero, Nat.div_one, Nat.mod_eq_of_lt h]
theorem aNK : Nrm [1000000000000000000] ∧ nv [1000000000000000000] ≠ 0 := by decide
theorem aRH {n M rest : Nat} {m : List Nat} {l : List (List Nat)} (hm : m.length ≤ 100000) (h : TxI n m l M rest) : iD m l = fX l m (txt (M % 1000000000000000000)) := by
 have hr : M % 1000000000000000000 < 1000000000000000000 := Nat.mod_lt _ (by decide)
 have hp : mQ m [1000000000000000000] := ⟨by rw [h.m0]; exact rF _, aNK.1, aNK.2, by omega⟩
 unfold iD
 refine aB hp ?_
 have hq : (bB m [1000000000000000000]).2.1 = lb (M % 1000000000000000000) := by rw [h.m0, q18]
 rw [hq]
 by_cases h0 : M % 1000000000000000000 = 0
 ·have ht : txt (M % 1000000000000000000) = aK ⟨#[]⟩ := by unfold txt; rw [if_pos h0]; rfl
  rw [if_neg (by rw [h0, fS]; simp), ht]
 ·have ht : txt (M % 1000000000000000000) = yF (M % 1000000000000000000) := by unfold txt; rw [if_neg h0]
  have hl := List.length_pos_iff.2 (fun e => h0 (tK.1 e))
  have hf := aH6 (M % 1000000000000000000) (by omega)
  rw [if_pos (by omega), aQt (by omega), ht]
  simp only [hf, Option.getD_some]
  exact aB (by omega) (aB rfl rfl)
theorem aSO (k : Nat) {n : Nat} (h : n < 18446744073709551616 ^ k) : bl n ≤ 64 * k := tL (by rw [← lK]; exact h)
theorem aRI (n : Nat) (hn : n < 18446744073709551616 ^ 10000) : aR (lb n) = some (txt n) := by
 have hb := aSO 10000 hn
 have key := gI (step := fun d : (List Nat) × (List (List Nat)) => iD d.1 d.2) (I := fun d => ∃ M rest, TxI n d.1 d.2 M rest) (fun d => nv d.1) (fun e => cat e = txt n ∧ e.length ≤ 1000000) ?_ (lb n, []) ⟨n, 0, ⟨rfl, by simp, by simp, rfl, .inr rfl⟩⟩
 ·obtain ⟨e, h1, h2, h3⟩ := key
  unfold aR
  refine bZ h1 ?_
  have hlen : (txt n).length ≤ 1000000 := by
   unfold txt
   split
   ·simp
   ·rename_i h0
    unfold yF
    rw [nJ]
    have a := vC n h0
    have b : 2 ^ (Lib.nDigits n - 1) ≤ 10 ^ (Lib.nDigits n - 1) := Nat.pow_le_pow_left (by decide) _
    have := aFQ (Nat.le_trans b a)
    omega
  rw [aRD e (by omega) (by rw [h2]; omega), h2]
 ·rintro ⟨m, l⟩ ⟨M, rest, h⟩
  have h : TxI n m l M rest := h
  have hMn : M ≤ n := by
   rw [h.sum]
   have := Nat.le_mul_of_pos_right M (Nat.pow_pos (n := 18 * l.length) (show 0 < 10 by decide))
   omega
  have hm : m.length ≤ 100000 := by
   rw [h.m0]
   exact Nat.le_trans (jN.2 (Nat.lt_of_le_of_lt hMn hn)) (by decide)
  show (∃ d', iD m l = _ ∧ _) ∨ ∃ e, iD m l = _ ∧ _
  rw [aRH hm h]
  rcases aRG (by omega) h with ⟨m', l', M', rest', k1, k2, k3⟩ | ⟨l', k1, k2, k3⟩
  ·left
   refine ⟨(m', l'), k1, ⟨M', rest', k2⟩, ?_⟩
   show nv m' < nv m
   rw [k2.m0, h.m0, eV, eV]
   exact k3
  ·right
   exact ⟨l', k1, k2, k3⟩
end Nu
end Go.Proofs
namespace Go.Proofs
open Go.Vc
set_option maxRecDepth 20000
namespace Nu
def aEN (k : Nat) (s : List Nat) : List Nat := List.replicate (k + 1 - s.length) 48 ++ s
def ptS (k : Nat) (s : List Nat) : List Nat := if 0 < k then s.take (s.length - k) ++ [46] ++ s.drop (s.length - k) else s
def sgS (neg : Bool) (q : Nat) (s : List Nat) : List Nat := if neg = true ∧ q ≠ 0 then 45 :: s else s
theorem aRJ {n : Nat} (h : bl n ≤ 640000) : (txt n).length ≤ 1000000 := by
 unfold txt
 split
 ·simp
 ·rename_i h0
  unfold yF
  rw [nJ]
  have a := vC n h0
  have b : 2 ^ (Lib.nDigits n - 1) ≤ 10 ^ (Lib.nDigits n - 1) := Nat.pow_le_pow_left (by decide) _
  have := aFQ (Nat.le_trans b a)
  omega
theorem aTq {n k : Nat} (h : n < 18446744073709551616 ^ k) : bl n ≤ 64 * k := tL (by rw [← lK]; exact h)
theorem aNL (d : Dy) (q : Nat) (s : List Nat) (hs : s.length ≤ 10000000) : jT d (lb q) s = some (sgS d.1 q s, 0, ()) := by
 unfold jT sgS
 have hq : (0 : Int) < ((lb q).length : Int) ↔ q ≠ 0 := by
  constructor
  ·intro h e; rw [e, fS] at h; simp at h
  ·intro h
   have := List.length_pos_iff.2 (fun e => h (tK.1 e))
   omega
 by_cases h : d.1 = true ∧ q ≠ 0
 ·rw [if_pos ⟨h.1, hq.2 h.2⟩, if_pos h]
  refine aB ?_ rfl
  have : (aK ⟨#[45]⟩).length = 1 := rfl
  omega
 ·rw [if_neg (fun hh => h ⟨hh.1, hq.1 hh.2⟩), if_neg h]
theorem aNM (k : Nat) (d : Dy) (q : Nat) (hk : k ≤ 60) (hq : q < 18446744073709551616 ^ 10000) : jU (k : Int) d (lb q) = some (sgS d.1 q (ptS k (aEN k (txt q))), 0, ()) := by
 have hl := aRJ (Nat.le_trans (aTq hq) (by decide))
 have ht := aRI q hq
 have hr : aO (aK ⟨#[48]⟩) (max ((k : Int) + 1 - ((txt q).length : Int)) 0) = some (List.replicate (k + 1 - (txt q).length) 48) := by
  have := aIJ (k + 1 - (txt q).length) (by omega)
  rw [show ((k + 1 - (txt q).length : Nat) : Int) = max ((k : Int) + 1 - ((txt q).length : Int)) 0 from by omega] at this
  exact this
 have hp : (aEN k (txt q)).length = k + 1 - (txt q).length + (txt q).length := by unfold aEN; rw [List.length_append, List.length_replicate]
 have e : List.replicate (k + 1 - (txt q).length) 48 ++ txt q = aEN k (txt q) := rfl
 unfold jU
 simp only [ht, Option.getD_some, hr, e]
 refine aB rfl (aB (by constructor <;> omega) (aB (by constructor <;> omega) (aB rfl (aB (by rw [List.length_replicate]; omega) ?_))))
 have h1 : (aK ⟨#[46]⟩) = [46] := rfl
 unfold ptS
 by_cases h : 0 < k
 ·have en : (((aEN k (txt q)).length : Int) - (k : Int)).toNat = (aEN k (txt q)).length - k := by omega
  rw [if_pos (by omega), if_pos h, h1, en]
  have l1 : ((aEN k (txt q)).take ((aEN k (txt q)).length - k)).length = (aEN k (txt q)).length - k := by rw [List.length_take]; omega
  have l2 : ((aEN k (txt q)).drop ((aEN k (txt q)).length - k)).length = k := by rw [List.length_drop]; omega
  refine aB (by constructor <;> omega) (aB (by constructor <;> omega) (aB (by rw [l1]; simp; omega) (aB (by constructor <;> omega) (aB (by constructor <;> omega) (aB (by rw [List.length_append, l1, l2]; simp; omega) ?_)))))
  exact aNL d q _ (by rw [List.length_append, List.length_append, l1, l2]; simp; omega)
 ·rw [if_neg (by omega), if_neg h]
  exact aNL d q _ (by omega)
def txM (d : Dy) (k : Nat) : Nat := nv d.2.1 * 2 ^ (max d.2.2.1 0).toNat * 10 ^ k
def txQ (d : Dy) (k : Nat) (up : Bool) : Nat :=
 let m := txM d k
 let n := (max (-d.2.2.1) 0).toNat
 if m % 2 ^ n ≠ 0 ∧ (up != d.1) = true then m / 2 ^ n + 1 else m / 2 ^ n
def aLz (d : Dy) (k : Int) (up : Bool) : List Nat × Int × Unit :=
 if lC d = false ∨ k < 0 ∨ 60 < k then ([], 1, ())
 else if 2000 < d.2.2.1 ∨ d.2.2.1 < -2000 then ([], 2, ())
 else (sgS d.1 (txQ d k.toNat up) (ptS k.toNat (aEN k.toNat (txt (txQ d k.toNat up)))), 0, ())
theorem aSP {d : Dy} {k : Nat} (lm : Lm d.2.1) (hl : d.2.1.length ≤ 64) (he : d.2.2.1 ≤ 2000) (hk : k ≤ 60) : txM d k < 18446744073709551616 ^ 200 := by
 have h1 := gU lm
 rw [lK] at h1
 have h2 := oZ k
 unfold txM
 have h3 : nv d.2.1 * 2 ^ (max d.2.2.1 0).toNat < 2 ^ (64 * d.2.1.length) * 2 ^ (max d.2.2.1 0).toNat := Nat.mul_lt_mul_of_pos_right h1 (Nat.two_pow_pos _)
 rw [← Nat.pow_add] at h3
 have h4 := Nat.mul_lt_mul_of_lt_of_le h3 h2 (Nat.pow_pos (by decide))
 rw [← Nat.pow_add] at h4
 exact aLs 200 h4 (by omega)
theorem aJ3 (d : Dy) (k : Int) (up : Bool) (lm : Lm d.2.1) : aL d k up = some (aLz d k up) := by
 unfold aL aLz
 simp only [aAC, Option.getD_some]
 refine aB rfl ?_
 by_cases h1 : lC d = false ∨ k < 0 ∨ 60 < k
 ·rw [if_pos (by rcases h1 with h | h | h; exact .inl (.inl (by rw [h]; decide)); exact .inl (.inr h); exact .inr h), if_pos h1]; rfl
 ·have hm : lC d = true := by
   cases hh : lC d with
   | true => rfl
   | false => exact absurd (.inl hh) h1
  have hk : 0 ≤ k ∧ k ≤ 60 := by omega
  rw [if_neg (by rintro ((h | h) | h); exact h hm; omega; omega), if_neg h1]
  by_cases h2 : 2000 < d.2.2.1 ∨ d.2.2.1 < -2000
  ·rw [if_pos h2, if_pos h2]; rfl
  ·rw [if_neg h2, if_neg h2]
   obtain ⟨a1, a2, a3, a4⟩ := wP hm
   obtain ⟨j, rfl⟩ : ∃ j : Nat, k = (j : Int) := ⟨k.toNat, by omega⟩
   rw [Int.toNat_natCast]
   have hM := aSP (k := j) lm a1 (by omega) (by omega)
   have hpw := aAD 10 j (by decide) (by omega)
   have hL : bD d.2.1 (max d.2.2.1 0) = lb (nv d.2.1 * 2 ^ (max d.2.2.1 0).toNat) := rfl
   have hT : aY (lb (nv d.2.1 * 2 ^ (max d.2.2.1 0).toNat)) (lb (10 ^ j)) = lb (txM d j) := by
    unfold aY txM; rw [eV, eV]
   have hLl : (lb (nv d.2.1 * 2 ^ (max d.2.2.1 0).toNat)).length ≤ 200 := by
    refine jN.2 (Nat.lt_of_le_of_lt ?_ hM)
    unfold txM
    exact Nat.le_mul_of_pos_right _ (Nat.pow_pos (by decide))
   have hPl := aMA (b := 10) (i := j) (by decide)
   have hTl := jN.2 hM
   have hn : max (0 - d.2.2.1) 0 = ((max (-d.2.2.1) 0).toNat : Int) := by omega
   simp only [hpw, Option.getD_some, hL, hT, hn]
   have hR : cD (lb (txM d j)) ((max (-d.2.2.1) 0).toNat : Int) = lb (txM d j / 2 ^ (max (-d.2.2.1) 0).toNat) := by
    unfold cD; rw [eV, Int.toNat_natCast]
   rw [hR]
   have hqlt : txM d j / 2 ^ (max (-d.2.2.1) 0).toNat < 18446744073709551616 ^ 200 := Nat.lt_of_le_of_lt (Nat.div_le_self _ _) hM
   have hP : fA (lb (txM d j / 2 ^ (max (-d.2.2.1) 0).toNat)) [1] = lb (txM d j / 2 ^ (max (-d.2.2.1) 0).toNat + 1) := by
    unfold fA; rw [eV]; rfl
   have hbig : ∀ x, x < 18446744073709551616 ^ 200 → x + 1 < 18446744073709551616 ^ 10000 := fun x hx => by
    have : 18446744073709551616 ^ 200 < 18446744073709551616 ^ 10000 := aTk 200 10000 (by decide)
    exact Nat.lt_of_le_of_lt hx this
   refine aB ⟨by show d.2.1.length ≤ _; omega, by omega, by omega⟩ (aB rfl (aB ⟨by show (lb (nv d.2.1 * 2 ^ (max d.2.2.1 0).toNat)).length ≤ _; omega, by show (lb (10 ^ j)).length ≤ _; omega⟩ (aB (by constructor <;> omega) (aB ⟨by show (lb (txM d j)).length ≤ _; omega, by omega⟩ (aB (fun _ => by show (lb (txM d j)).length ≤ _; omega) ?_)))))
   have hc : ((0 : Int) < ((lb (txM d j)).length : Int) ∧ bP (lb (txM d j)) < ((max (-d.2.2.1) 0).toNat : Int)) ↔ txM d j % 2 ^ (max (-d.2.2.1) 0).toNat ≠ 0 := by
    by_cases h0 : txM d j = 0
    ·rw [h0, fS, Nat.zero_mod]; simp
    ·have hl := List.length_pos_iff.2 (fun e => h0 (tK.1 e))
     have hz : bP (lb (txM d j)) = (tzn (txM d j) : Int) := by unfold bP; rw [eV, if_neg h0]
     rw [hz, ← aNF h0]
     constructor
     ·intro h; omega
     ·intro h; exact ⟨by omega, by omega⟩
   unfold txQ
   simp only
   by_cases h3 : txM d j % 2 ^ (max (-d.2.2.1) 0).toNat ≠ 0 ∧ (up != d.1) = true
   ·rw [if_pos ⟨hc.2 h3.1, h3.2⟩, if_pos h3, hP]
    have hl3 := jN.2 hqlt
    refine aB ⟨by show (lb (txM d j / 2 ^ (max (-d.2.2.1) 0).toNat)).length ≤ _; omega, by show (1 : Nat) ≤ _; decide⟩ ?_
    exact aNM j d _ (by omega) (hbig _ hqlt)
   ·rw [if_neg (fun h => h3 ⟨hc.1 h.1, h.2⟩), if_neg h3]
    exact aNM j d _ (by omega) (Nat.lt_of_succ_lt (hbig _ hqlt))
end Nu
end Go.Proofs
namespace Go.Proofs
open Go.Vc
set_option maxRecDepth 20000
namespace Nu
def aSQ (d : Dy) : Dy := if lC d = true ∧ 0 < d.2.1.length then (!d.1, d.2.1, d.2.2.1, ()) else d
theorem aSR (d : Dy) (h : d.2.1.length ≤ 1000000) : bW d = some (aSQ d) := by
 have hc : cX d = some d := by
  unfold cX
  exact aB (by show d.2.1.length * 8 ≤ _; omega) rfl
 unfold bW aSQ
 simp only [hc, aAC, Option.getD_some]
 refine aB rfl (aB rfl ?_)
 by_cases hh : lC d = true ∧ 0 < d.2.1.length
 ·rw [if_pos ⟨hh.1, by omega⟩, if_pos hh]
 ·rw [if_neg (fun h => hh ⟨h.1, by omega⟩), if_neg hh]
theorem aQu (a b : List Nat) (ha : a.length ≤ 9223372036854775807) : dD a b = some (decide (a = b)) := by
 unfold dD
 by_cases hl : a.length = b.length
 ·rw [if_neg (by omega)]
  have key := kE (step := fun d : Int => cO a b d) (I := fun i => 0 ≤ i ∧ i ≤ a.length) (fun i => (a.length - i).toNat) (fun i => if a.drop i.toNat = b.drop i.toNat then (.inl () : Unit ⊕ Bool) else .inr false) ?_ 0 ⟨by omega, by omega⟩
  ·have e1 : a.drop ((0 : Int).toNat) = a := rfl
   have e2 : b.drop ((0 : Int).toNat) = b := rfl
   rw [e1, e2] at key
   refine bZ key ?_
   by_cases h : a = b
   ·rw [if_pos h, decide_eq_true h]
   ·rw [if_neg h, decide_eq_false h]
  ·rintro i ⟨i0, i1⟩
   show (∃ d', cO a b i = _ ∧ _) ∨ cO a b i = _
   unfold cO
   by_cases hi : i < a.length
   ·have hk : i.toNat < a.length := by omega
    have hk2 : i.toNat < b.length := by omega
    have ea : a.drop i.toNat = a.getD i.toNat 0 :: a.drop (i.toNat + 1) := by
     rw [List.drop_eq_getElem_cons hk, List.getD_eq_getElem?_getD, List.getElem?_eq_getElem hk]; rfl
    have eb : b.drop i.toNat = b.getD i.toNat 0 :: b.drop (i.toNat + 1) := by
     rw [List.drop_eq_getElem_cons hk2, List.getD_eq_getElem?_getD, List.getElem?_eq_getElem hk2]; rfl
    by_cases hx : a.getD i.toNat 0 = b.getD i.toNat 0
    ·left
     refine ⟨i + 1, ?_, ⟨by omega, by omega⟩, by omega, ?_⟩
     ·rw [if_pos hi]
      refine aB (by constructor <;> omega) (aB (by constructor <;> omega) ?_)
      rw [if_neg (fun h => h hx)]
      exact aB (by constructor <;> omega) rfl
     ·rw [ea, eb, hx, show (i + 1).toNat = i.toNat + 1 from by omega]
      simp
    ·right
     rw [if_pos hi]
     refine aB (by constructor <;> omega) (aB (by constructor <;> omega) ?_)
     rw [if_pos hx, if_neg (by rw [ea, eb]; intro h; exact hx (List.cons.inj h).1)]
   ·right
    rw [if_neg hi, List.drop_eq_nil_of_le (by omega), List.drop_eq_nil_of_le (by omega), if_pos rfl]
 ·rw [if_pos (by omega), decide_eq_false (fun h => hl (by rw [h]))]
theorem aRK (a b : Dy) (ha : a.2.1.length ≤ 9223372036854775807) : dX a b = some ((a.1 == b.1) && decide (a.2.2.1 = b.2.2.1) && decide (a.2.1 = b.2.1)) := by
 unfold dX
 simp only [aQu a.2.1 b.2.1 ha, Option.getD_some]
 exact aB (fun _ => rfl) rfl
end Nu
end Go.Proofs
namespace Go.Proofs
open Go.Vc
set_option maxRecDepth 20000
namespace Nu
def nG (d : Dy) : Int := if lC d = false ∨ d.2.1.length = 0 then 0 else if d.1 = true then -1 else 1
theorem aRL (d : Dy) : dB d = some (nG d) := by
 unfold dB nG
 simp only [aAC, Option.getD_some]
 refine aB rfl ?_
 by_cases h : lC d = false ∨ d.2.1.length = 0
 ·rw [if_pos (by rcases h with h | h; exact .inl (by rw [h]; decide); exact .inr (by omega)), if_pos h]
 ·have hm : lC d = true := by
   cases hh : lC d with
   | true => rfl
   | false => exact absurd (.inl hh) h
  rw [if_neg (by rintro (hh | hh); exact hh hm; exact h (.inr (by omega))), if_neg h]
  by_cases hn : d.1 = true
  ·rw [if_pos hn, if_pos hn]
  ·rw [if_neg hn, if_neg hn]
def aEe (a b : Dy) : Int :=
 let x := (bl (nv a.2.1) : Int) + a.2.2.1
 let y := (bl (nv b.2.1) : Int) + b.2.2.1
 let low := min a.2.2.1 b.2.2.1
 if x < y then -1 else if y < x then 1 else aL8 (nv a.2.1 * 2 ^ (a.2.2.1 - low).toNat) (nv b.2.1 * 2 ^ (b.2.2.1 - low).toNat)
theorem size_eq (a b : Dy) (la : Lm a.2.1) (lb' : Lm b.2.1) (ha : lC a = true) (hb : lC b = true) : kP a b = some (aEe a b) := by
 obtain ⟨a1, a2, a3, a4⟩ := wP ha
 obtain ⟨b1, b2, b3, b4⟩ := wP hb
 have hba : bl (nv a.2.1) ≤ 64 * a.2.1.length := tL (by rw [← lK]; exact gU la)
 have hbb : bl (nv b.2.1) ≤ 64 * b.2.1.length := tL (by rw [← lK]; exact gU lb')
 have e1 : aV a.2.1 = (bl (nv a.2.1) : Int) := rfl
 have e2 : aV b.2.1 = (bl (nv b.2.1) : Int) := rfl
 unfold kP aEe
 rw [e1, e2]
 refine aB ⟨a2, by show a.2.1.length ≤ _; omega⟩ (aB (by constructor <;> omega) (aB ⟨b2, by show b.2.1.length ≤ _; omega⟩ (aB (by constructor <;> omega) ?_)))
 simp only
 by_cases h1 : (bl (nv a.2.1) : Int) + a.2.2.1 < (bl (nv b.2.1) : Int) + b.2.2.1
 ·rw [if_pos h1, if_pos h1]
 ·rw [if_neg h1, if_neg h1]
  by_cases h2 : (bl (nv b.2.1) : Int) + b.2.2.1 < (bl (nv a.2.1) : Int) + a.2.2.1
  ·rw [if_pos h2, if_pos h2]
  ·rw [if_neg h2, if_neg h2]
   refine aB (by constructor <;> omega) (aB ⟨by show a.2.1.length ≤ _; omega, by omega, by omega⟩ (aB (by constructor <;> omega) (aB ⟨by show b.2.1.length ≤ _; omega, by omega, by omega⟩ (aB ⟨rF _, rF _⟩ ?_))))
   unfold kL bD
   rw [eV, eV]
def aSS (a b : Dy) : Int :=
 if lC a = false ∨ lC b = false then 0
 else if nG a < nG b then -1
 else if nG b < nG a then 1
 else if nG a = 0 then 0
 else nG a * aEe a b
theorem aLA (a b : Dy) : -1 ≤ aEe a b ∧ aEe a b ≤ 1 := by
 unfold aEe
 simp only
 split
 ·decide
 ·split
  ·decide
  ·unfold aL8
   split
   ·decide
   ·split <;> decide
theorem aEf (d : Dy) : nG d = 0 ∨ nG d = 1 ∨ nG d = -1 := by
 unfold nG
 split
 ·exact .inl rfl
 ·split
  ·exact .inr (.inr rfl)
  ·exact .inr (.inl rfl)
theorem aST (a b : Dy) (la : Lm a.2.1) (lb' : Lm b.2.1) : fH a b = some (aSS a b) := by
 have ra := aEf a
 have rb := aEf b
 have rs := aLA a b
 unfold fH aSS
 simp only [aRL, aAC, Option.getD_some]
 refine aB rfl (aB rfl (aB rfl (aB (fun _ => rfl) ?_)))
 by_cases h : lC a = false ∨ lC b = false
 ·rw [if_pos (by rcases h with h | h; exact .inl (by rw [h]; decide); exact .inr (by rw [h]; decide)), if_pos h]
 ·have ha : lC a = true := by
   cases hh : lC a with
   | true => rfl
   | false => exact absurd (.inl hh) h
  have hb : lC b = true := by
   cases hh : lC b with
   | true => rfl
   | false => exact absurd (.inr hh) h
  rw [if_neg (by rintro (hh | hh); exact hh ha; exact hh hb), if_neg h]
  by_cases h1 : nG a < nG b
  ·rw [if_pos ⟨by omega, h1⟩, if_pos h1]
  ·rw [if_neg (fun hh => h1 hh.2), if_neg h1]
   by_cases h2 : nG b < nG a
   ·rw [if_pos (by omega), if_pos h2]
   ·rw [if_neg (by omega), if_neg h2]
    by_cases h3 : nG a = 0
    ·rw [if_pos h3, if_pos h3]
    ·rw [if_neg h3, if_neg h3]
     simp only [size_eq a b la lb' ha hb, Option.getD_some]
     refine aB rfl (aB ?_ rfl)
     rcases ra with r | r | r <;> rw [r] <;> constructor <;> omega
end Nu
end Go.Proofs
namespace Go.Proofs
open Go.Vc
set_option maxRecDepth 20000
namespace Nu
def nP : Dy := (false, [1], -3, ())
def aAO : Dy := (true, [1], -3, ())
theorem aSU : txt 12 = [49, 50] := by
 unfold txt; rw [if_neg (by decide), aMC (by decide) (by decide)]
theorem aQv : txt 13 = [49, 51] := by
 unfold txt; rw [if_neg (by decide), aMC (by decide) (by decide)]
theorem aSV : Lm [1] := by intro x hx; simp at hx; subst hx; decide
theorem aNN : lC nP = true ∧ lC aAO = true := by decide +kernel
theorem aTK : txQ nP 2 false = 12 := by decide +kernel
theorem aTL : txQ nP 2 true = 13 := by decide +kernel
theorem aTM : txQ aAO 2 false = 13 := by decide +kernel
theorem aSW : aL nP 2 false = some ([48, 46, 49, 50], 0, ()) := by
 rw [aJ3 nP 2 false aSV]
 unfold aLz
 rw [if_neg (by rw [aNN.1]; decide), if_neg (by decide), show ((2 : Int).toNat) = 2 from rfl, aTK, aSU]
 rfl
theorem aSX : aL nP 2 true = some ([48, 46, 49, 51], 0, ()) := by
 rw [aJ3 nP 2 true aSV]
 unfold aLz
 rw [if_neg (by rw [aNN.1]; decide), if_neg (by decide), show ((2 : Int).toNat) = 2 from rfl, aTL, aQv]
 rfl
theorem aSY : aL aAO 2 false = some ([45, 48, 46, 49, 51], 0, ()) := by
 rw [aJ3 aAO 2 false aSV]
 unfold aLz
 rw [if_neg (by rw [aNN.2]; decide), if_neg (by decide), show ((2 : Int).toNat) = 2 from rfl, aTM, aQv]
 rfl
theorem aSZ : bW nP = some aAO := by
 rw [aSR nP (by decide)]
 unfold aSQ
 rw [if_pos ⟨aNN.1, by decide⟩]
 rfl
theorem aJ4 : dF [48, 46, 49, 50, 53] = ([48, 49, 50, 53], -3, true, ()) := by decide +kernel
theorem aDk : dF [48, 46, 49] = ([48, 49], -1, true, ()) := by decide +kernel
theorem aTN : lb 1 = [1] := by rw [aAa (by decide), show 1 / 18446744073709551616 = 0 from by decide, fS]
theorem aS0 : bC [48, 46, 49, 50, 53] = some (nP, 0, ()) := by
 rw [aLx _ (by decide)]
 have hN : exN [48, 46, 49, 50, 53] = 125 := by unfold exN; rw [aJ4]; decide
 have hD : exD [48, 46, 49, 50, 53] = 125 := by unfold exD; rw [aJ4]; decide
 unfold aJZ
 rw [hN, hD, aJ4, if_neg (by decide), if_neg (by decide), show 125 / 125 = 1 from rfl]
 have ht : tzn 1 = 0 := aAc (m := 0) rfl
 unfold gE
 rw [if_neg (by decide), ht, show 1 / 2 ^ 0 = 1 from rfl, aTN]
 rfl
theorem aS1 : bC [48, 46, 49] = some (d0, 6, ()) := by
 rw [aLx _ (by decide)]
 have hN : exN [48, 46, 49] = 1 := by unfold exN; rw [aDk]; decide
 have hD : exD [48, 46, 49] = 5 := by unfold exD; rw [aDk]; decide
 unfold aJZ
 rw [hN, hD, aDk, if_neg (by decide), if_pos (by decide)]
theorem aS2 : (dF [49, 46, 53, 101, 45, 51]).2.2.1 = true ∧ (dF [49, 46]).2.2.1 = false ∧ (dF [46, 53]).2.2.1 = false ∧ (dF [49, 101, 49, 48, 49]).2.2.1 = false ∧ (dF []).2.2.1 = false := by decide +kernel
end Nu
end Go.Proofs
namespace Go.Proofs
open Go.Vc
set_option maxRecDepth 20000
namespace Nu
theorem aLB {x : Nat} (h0 : x ≠ 0) (h : x < 18446744073709551616) : lb x = [x] := by
 rw [aAa h0, Nat.mod_eq_of_lt h, Nat.div_eq_of_lt h, fS]
def aH7 : Dy := (false, [209715], -21, ())
def aH8 : Dy := (false, [838861], -23, ())
theorem aR2 : bl 10 = 4 := aKJ (k := 3) (by decide) (by decide)
theorem aTO : bl 3355443 = 22 := aKJ (k := 21) (by decide) (by decide)
theorem aQw : rn 1 10 20 25 = 2 ∧ rM 1 10 20 25 = 838860 ∧ rE 1 10 20 25 = -23 ∧ rS 1 10 20 25 = true := by
 have hq : rq 1 10 25 = 3355443 := by decide
 have hn : rn 1 10 20 25 = 2 := by unfold rn; rw [hq, aTO]
 refine ⟨hn, ?_, ?_, ?_⟩
 ·unfold rM; rw [hn, hq]
 ·unfold rE; rw [hn]; rfl
 ·unfold rS; rw [hn]; decide
theorem aTr : aLu 1 10 20 25 false = aH7 := by
 obtain ⟨h1, h2, h3, h4⟩ := aQw
 have hm : rm2 1 10 20 25 false = 838860 := by unfold rm2; rw [h2, if_neg (by rintro ⟨_, h⟩; cases h)]
 have ht : tzn 838860 = 2 := aAc (m := 104857) (by decide)
 unfold aLu gE
 rw [hm, h3, if_neg (by decide), ht, show 838860 / 2 ^ 2 = 209715 from by decide, aLB (by decide) (by decide)]
 rfl
theorem aTs : aLu 1 10 20 25 true = aH8 := by
 obtain ⟨h1, h2, h3, h4⟩ := aQw
 have hm : rm2 1 10 20 25 true = 838861 := by unfold rm2; rw [h2, h4, if_pos ⟨rfl, rfl⟩]
 have ht : tzn 838861 = 0 := aAc (m := 419430) (by decide)
 unfold aLu gE
 rw [hm, h3, if_neg (by decide), ht, show 838861 / 2 ^ 0 = 838861 from by decide, aLB (by decide) (by decide)]
 rfl
theorem aS3 : bN [48, 46, 49] 20 = some ((aH7, aH8, ()), 0, ()) := by
 rw [aG4 _ _ (by decide)]
 have hA : wQ [48, 46, 49] = 1 := by unfold wQ; rw [aDk]; decide
 have hB : sL [48, 46, 49] = 10 := by unfold sL; rw [aDk]; decide
 have e1 : rH [48, 46, 49] 20 false = aH7 := by
  unfold rH; rw [hA, hB, if_neg (by decide), aR2]; exact aTr
 have e2 : rH [48, 46, 49] 20 true = aH8 := by
  unfold rH; rw [hA, hB, if_neg (by decide), aR2]; exact aTs
 unfold wR
 rw [aDk, if_neg (by decide), if_neg (by decide), show ((20 : Int).toNat) = 20 from rfl, e1, e2]
theorem aTt {x : Nat} (h : x < 18446744073709551616) : Lm [x] := by intro y hy; simp at hy; subst hy; exact h
theorem aS4 : fH aH7 aH8 = some (-1) := by
 rw [aST aH7 aH8 (aTt (by decide)) (aTt (by decide))]
 have b1 : bl (nv [209715]) = 18 := aKJ (k := 17) (by decide) (by decide)
 have b2 : bl (nv [838861]) = 20 := aKJ (k := 19) (by decide) (by decide)
 have m1 : lC aH7 = true ∧ lC aH8 = true := by decide +kernel
 have s1 : nG aH7 = 1 := by unfold nG; rw [m1.1]; decide
 have s2 : nG aH8 = 1 := by unfold nG; rw [m1.2]; decide
 have sz : aEe aH7 aH8 = -1 := by
  unfold aEe aH7 aH8
  simp only [b1, b2]
  decide +kernel
 unfold aSS
 rw [m1.1, m1.2, s1, s2, sz, if_neg (by decide), if_neg (by decide), if_neg (by decide), if_neg (by decide)]
 rfl
theorem aS5 : dX nP nP = some true := by
 rw [aRK nP nP (by decide)]; decide
theorem aRM : nY = some true := by
 have a := aSW
 have b := aSX
 have n := aSZ
 have c := aSY
 have d := aS0
 have e := aS1
 have f := aS3
 have g := aS4
 have h := aS5
 unfold nP at a b n d h
 unfold aAO at n c
 unfold aH7 aH8 at f g
 obtain ⟨f1, f2, f3, f4, f5⟩ := aS2
 have s1 : aK ⟨#[48, 46, 49, 50, 53]⟩ = [48, 46, 49, 50, 53] := rfl
 have s2 : aK ⟨#[48, 46, 49]⟩ = [48, 46, 49] := rfl
 have s3 : aK ⟨#[48, 46, 49, 50]⟩ = [48, 46, 49, 50] := rfl
 have s4 : aK ⟨#[48, 46, 49, 51]⟩ = [48, 46, 49, 51] := rfl
 have s5 : aK ⟨#[45, 48, 46, 49, 51]⟩ = [45, 48, 46, 49, 51] := rfl
 have w1 : bR (aK ⟨#[49, 46, 53, 101, 45, 51]⟩) = some true := by rw [show aK ⟨#[49, 46, 53, 101, 45, 51]⟩ = [49, 46, 53, 101, 45, 51] from rfl, aCy _ (by decide), f1]
 have w2 : bR (aK ⟨#[49, 46]⟩) = some false := by rw [show aK ⟨#[49, 46]⟩ = [49, 46] from rfl, aCy _ (by decide), f2]
 have w3 : bR (aK ⟨#[46, 53]⟩) = some false := by rw [show aK ⟨#[46, 53]⟩ = [46, 53] from rfl, aCy _ (by decide), f3]
 have w4 : bR (aK ⟨#[49, 101, 49, 48, 49]⟩) = some false := by rw [show aK ⟨#[49, 101, 49, 48, 49]⟩ = [49, 101, 49, 48, 49] from rfl, aCy _ (by decide), f4]
 have w5 : bR (aK ⟨#[]⟩) = some false := by rw [show aK ⟨#[]⟩ = [] from rfl, aCy _ (by decide), f5]
 unfold nY
 simp only [s1, s2, s3, s4, s5, a, b, n, c, d, e, f, g, h, w1, w2, w3, w4, w5, Option.getD_some]
 simp [ck]
 exact ⟨by decide, by decide⟩
end Nu
end Go.Proofs
namespace Go.Proofs
open Go.Vc
set_option maxRecDepth 20000
namespace Nu
def hv : List Nat → Nat
 | [] => 0
 | x :: r => x + 65536 * hv r
def hb (n : Nat) : List Nat := if h : n = 0 then [] else n % 65536 :: hb (n / 65536)
termination_by n
decreasing_by exact Nat.div_lt_self (by omega) (by decide)
end Nu
end Go.Proofs
namespace Go.Proofs
open Go.Vc
set_option maxRecDepth 20000
namespace Nu
end Nu
end Go.Proofs
namespace Go.Proofs
open Go.Vc
set_option maxRecDepth 20000
namespace Nu
end Nu
end Go.Proofs
namespace Go.Proofs
open Go.Vc
set_option maxRecDepth 20000
namespace Nu
end Nu
end Go.Proofs
namespace Go.Proofs
open Go.Vc
set_option maxRecDepth 20000
namespace Nu
end Nu
end Go.Proofs
namespace Go.Proofs
open Go.Vc
set_option maxRecDepth 20000
namespace Nu
end Nu
end Go.Proofs
namespace Go.Proofs
open Go.Vc
set_option maxRecDepth 20000
namespace Nu
end Nu
end Go.Proofs
namespace Go.Proofs
open Go.Vc
set_option maxRecDepth 20000
namespace Nu
end Nu
end Go.Proofs
namespace Go.Proofs
open Go.Vc
set_option maxRecDepth 20000
namespace Nu
end Nu
end Go.Proofs
namespace Go.Proofs
open Go.Vc
set_option maxRecDepth 20000
namespace Nu
abbrev VS : Type := Nat × Int × Nat × Bool × Bool × Bool
def v0 : VS := (0, 0, 0, false, false, false)
theorem aQx (a b : Dy) (ha : a.2.1.length ≤ 4611686018427387904) : eF a b = some ((a.1 == b.1) && decide (a.2.2.1 = b.2.2.1) && decide (a.2.1 = b.2.1)) := by
 unfold eF
 by_cases h : ((a.1 != b.1) = true ∨ ¬ (a.2.2.1 = b.2.2.1)) ∨ ¬ ((a.2.1.length : Int) = (b.2.1.length : Int))
 ·rw [if_pos h]
  rcases h with (h | h) | h
  ·have : (a.1 == b.1) = false := by revert h; cases a.1 <;> cases b.1 <;> decide
   rw [this]; rfl
  ·rw [decide_eq_false h, Bool.and_false]; rfl
  ·rw [decide_eq_false (show ¬ a.2.1 = b.2.1 from fun e => h (by rw [e])), Bool.and_false]
 ·rw [if_neg h]
  have h1 : (a.1 == b.1) = true := by
   cases hh : (a.1 == b.1) with
   | true => rfl
   | false => exact absurd (.inl (.inl (by rw [bne, hh]; rfl))) h
  have h2 : a.2.2.1 = b.2.2.1 := by
   by_cases hh : a.2.2.1 = b.2.2.1
   ·exact hh
   ·exact absurd (.inl (.inr hh)) h
  have hl : a.2.1.length = b.2.1.length := by omega
  rw [h1, decide_eq_true h2]
  have key := kE (step := fun d : Int => eJ a b d) (I := fun i => 0 ≤ i ∧ i ≤ a.2.1.length) (fun i => (a.2.1.length - i).toNat) (fun i => if a.2.1.drop i.toNat = b.2.1.drop i.toNat then (.inl () : Unit ⊕ Bool) else .inr false) ?_ 0 ⟨by omega, by omega⟩
  ·have e1 : a.2.1.drop ((0 : Int).toNat) = a.2.1 := rfl
   have e2 : b.2.1.drop ((0 : Int).toNat) = b.2.1 := rfl
   rw [e1, e2] at key
   refine bZ key ?_
   by_cases hh : a.2.1 = b.2.1
   ·rw [if_pos hh, decide_eq_true hh]; rfl
   ·rw [if_neg hh, decide_eq_false hh]; rfl
  ·rintro i ⟨i0, i1⟩
   show (∃ d', eJ a b i = _ ∧ _) ∨ eJ a b i = _
   unfold eJ
   by_cases hi : i < a.2.1.length
   ·have hk : i.toNat < a.2.1.length := by omega
    have hk2 : i.toNat < b.2.1.length := by omega
    have ea : a.2.1.drop i.toNat = a.2.1.getD i.toNat 0 :: a.2.1.drop (i.toNat + 1) := by
     rw [List.drop_eq_getElem_cons hk, List.getD_eq_getElem?_getD, List.getElem?_eq_getElem hk]; rfl
    have eb : b.2.1.drop i.toNat = b.2.1.getD i.toNat 0 :: b.2.1.drop (i.toNat + 1) := by
     rw [List.drop_eq_getElem_cons hk2, List.getD_eq_getElem?_getD, List.getElem?_eq_getElem hk2]; rfl
    by_cases hx : a.2.1.getD i.toNat 0 = b.2.1.getD i.toNat 0
    ·left
     refine ⟨i + 1, ?_, ⟨by omega, by omega⟩, by omega, ?_⟩
     ·rw [if_pos hi]
      refine aB (by constructor <;> omega) (aB (by constructor <;> omega) ?_)
      rw [if_neg (fun h => h hx)]
      exact aB (by constructor <;> omega) rfl
     ·rw [ea, eb, hx, show (i + 1).toNat = i.toNat + 1 from by omega]
      simp
    ·right
     rw [if_pos hi]
     refine aB (by constructor <;> omega) (aB (by constructor <;> omega) ?_)
     rw [if_pos hx, if_neg (by rw [ea, eb]; intro h; exact hx (List.cons.inj h).1)]
   ·right
    rw [if_neg hi, List.drop_eq_nil_of_le (by omega), List.drop_eq_nil_of_le (by omega), if_pos rfl]
theorem aG6 (a : Dy) (ha : a.2.1.length ≤ 4611686018427387904) : eF a a = some true := by
 rw [aQx a a ha]; simp
theorem aLC (a : Dy × Dy × Unit) (h1 : a.1.2.1.length ≤ 4611686018427387904) (h2 : a.2.1.2.1.length ≤ 4611686018427387904) : dW a a = some true := by
 unfold dW
 rw [aG6 _ h1]
 refine bZ rfl ?_
 rw [aG6 _ h2]
 rfl
end Nu
end Go.Proofs
namespace Go.Proofs
open Go.Vc
set_option maxRecDepth 20000
namespace Nu
theorem aLD {A B k j : Nat} (hj : 0 < j) : rq (A * j) (B * j) k = rq A B k := by
 unfold rq; rw [Nat.mul_right_comm, Nat.mul_div_mul_right _ _ hj]
theorem aG7 {A B p k j : Nat} (hj : 0 < j) : rn (A * j) (B * j) p k = rn A B p k := by unfold rn; rw [aLD hj]
theorem aQy {A B p k j : Nat} (hj : 0 < j) : rM (A * j) (B * j) p k = rM A B p k := by unfold rM; rw [aLD hj, aG7 hj]
theorem aQz {A B p k j : Nat} (hj : 0 < j) : rE (A * j) (B * j) p k = rE A B p k := by unfold rE; rw [aG7 hj]
theorem aQA {A B p k j : Nat} (hj : 0 < j) : rS (A * j) (B * j) p k = rS A B p k := by
 unfold rS
 rw [aG7 hj, Nat.mul_right_comm A, Nat.mul_right_comm B, Nat.mul_mod_mul_right]
 refine decide_eq_decide.2 ?_
 constructor
 ·intro h1 h2; apply h1; rw [h2, Nat.zero_mul]
 ·intro h1 h2
  rcases Nat.mul_eq_zero.1 h2 with h3 | h3
  ·exact h1 h3
  ·omega
theorem aCz {s t : List Nat} {j p : Nat} {up : Bool} (hj : 0 < j) (hp : 1 ≤ p) (hA : wQ t = wQ s * j) (hB : sL t = sL s * j) : rH t p up = rH s p up := by
 unfold rH
 rw [hA, hB]
 have h0 := aG3 s
 by_cases h : wQ s = 0
 ·rw [h, Nat.zero_mul]; rfl
 ·rw [if_neg (Nat.mul_ne_zero h (by omega)), if_neg h]
  have hm : bl (sL s) ≤ bl (sL s * j) := aNH (Nat.le_mul_of_pos_right _ hj)
  have k1 : 2 ^ p ≤ rq (wQ s) (sL s) (p + 1 + bl (sL s * j)) := aJU h h0 (by omega)
  have k2 : 2 ^ p ≤ rq (wQ s) (sL s) (p + 1 + bl (sL s)) := aJU h h0 (by omega)
  obtain ⟨a1, a2, a3⟩ := aQf hp k1 k2
  unfold aLu rm2
  rw [aQA hj, aQy hj, aQz hj, a1, a2, a3]
theorem aBy {s t : List Nat} {j : Nat} {p : Int} (hj : 0 < j) (hs : (dF s).2.2.1 = true) (ht : (dF t).2.2.1 = true) (hp : 1 ≤ p) (hp2 : p ≤ 2000) (hA : wQ t = wQ s * j) (hB : sL t = sL s * j) : wR t p = wR s p ∧ (wR s p).2.1 = 0 := by
 have e1 := aCz (up := false) hj (show 1 ≤ p.toNat by omega) hA hB
 have e2 := aCz (up := true) hj (show 1 ≤ p.toNat by omega) hA hB
 unfold wR
 rw [if_neg (show ¬ ¬ (dF t).2.2.1 = true from fun h => h ht), if_neg (show ¬ ¬ (dF s).2.2.1 = true from fun h => h hs), if_neg (show ¬ (p < 1 ∨ 2000 < p) by omega), if_neg (show ¬ (p < 1 ∨ 2000 < p) by omega), e1, e2]
 exact ⟨rfl, rfl⟩
theorem aG8 {a : List Nat} (h : ∀ c ∈ a, eQ c = true) (pre : List Nat) : cC (pre ++ a) pre.length = a.length := by
 unfold cC
 rw [List.drop_left]
 have := List.takeWhile_append_of_pos (l₂ := []) h
 rw [List.append_nil, List.takeWhile_nil, List.append_nil] at this
 rw [this]
theorem aIK {a b : List Nat} {x : Nat} (h : ∀ c ∈ a, eQ c = true) (hx : eQ x = false) : cC (a ++ x :: b) 0 = a.length := by
 unfold cC
 rw [List.drop_zero, List.takeWhile_append_of_pos h, List.takeWhile_cons, hx]
 simp
theorem aCA {a : List Nat} (h : ∀ c ∈ a, eQ c = true) (h1 : 1 ≤ a.length) (h2 : a.length ≤ 60) : dF a = (a, 0, true, ()) := by
 have hd : cC a 0 = a.length := aG8 h []
 unfold dF aJX
 rw [hd, if_neg (by omega), if_neg (fun hh : fY a a.length 46 => by have := hh.1; omega), if_neg (fun hh : fY a a.length 101 => by have := hh.1; omega), List.take_length, decide_eq_true rfl]
theorem aRN {a b : List Nat} (h : ∀ c ∈ a, eQ c = true) (hb : ∀ c ∈ b, eQ c = true) (h1 : 1 ≤ a.length) (h3 : 1 ≤ b.length) (h2 : a.length + 1 + b.length ≤ 60) : dF (a ++ 46 :: b) = (a ++ b, -(b.length : Int), true, ()) := by
 have hd : cC (a ++ 46 :: b) 0 = a.length := aIK h rfl
 have hl : (a ++ 46 :: b).length = a.length + 1 + b.length := by simp; omega
 have hg : fY (a ++ 46 :: b) a.length 46 := ⟨by omega, by simp [List.getD_eq_getElem?_getD]⟩
 have hr : a ++ 46 :: b = (a ++ [46]) ++ b := by simp
 have hd2 : cC (a ++ 46 :: b) (a.length + 1) = b.length := by
  have := aG8 hb (a ++ [46])
  rw [← hr, List.length_append] at this
  exact this
 have hdr : (a ++ 46 :: b).drop (a.length + 1) = b := by
  rw [hr, show a.length + 1 = (a ++ [46]).length by simp, List.drop_left]
 unfold dF aJX
 rw [hd, hd2, if_neg (by omega), if_pos hg, if_neg (by omega), if_neg (fun hh : fY (a ++ 46 :: b) (a.length + 1 + b.length) 101 => by have := hh.1; omega), List.take_left, hdr, List.take_length, decide_eq_true hl.symm]
theorem aS6 {a c : List Nat} (h : ∀ c ∈ a, eQ c = true) (hc : ∀ x ∈ c, eQ x = true) (h1 : 1 ≤ a.length) (h3 : 1 ≤ c.length) (h4 : c.length ≤ 3) (hn : iR c ≤ 100) (h2 : a.length + 2 + c.length ≤ 60) : dF (a ++ 101 :: 45 :: c) = (a, -(iR c : Int), true, ()) := by
 have hd : cC (a ++ 101 :: 45 :: c) 0 = a.length := aIK h rfl
 have hl : (a ++ 101 :: 45 :: c).length = a.length + 2 + c.length := by simp; omega
 have hx : (a ++ 101 :: 45 :: c).getD a.length 0 = 101 := by simp [List.getD_eq_getElem?_getD]
 have hg : fY (a ++ 101 :: 45 :: c) a.length 101 := ⟨by omega, hx⟩
 have hng : ¬ fY (a ++ 101 :: 45 :: c) a.length 46 := fun hh => by have := hh.2; rw [hx] at this; cases this
 have hr : a ++ 101 :: 45 :: c = (a ++ [101, 45]) ++ c := by simp
 have hg2 : fY (a ++ 101 :: 45 :: c) (a.length + 1) 45 := ⟨by omega, by simp [List.getD_eq_getElem?_getD]⟩
 have hd2 : cC (a ++ 101 :: 45 :: c) (a.length + 2) = c.length := by
  have := aG8 hc (a ++ [101, 45])
  rw [← hr, List.length_append] at this
  exact this
 have hdr : (a ++ 101 :: 45 :: c).drop (a.length + 2) = c := by
  rw [hr, show a.length + 2 = (a ++ [101, 45]).length by simp, List.drop_left]
 unfold dF aJX aDh
 rw [hd, if_neg (by omega), if_neg hng, if_pos hg, if_pos (show fY (a ++ 101 :: 45 :: c) (a.length + 1) 45 ∨ fY (a ++ 101 :: 45 :: c) (a.length + 1) 43 from .inl hg2), hd2, hdr, List.take_length, if_neg (by omega), if_neg (by omega), List.take_left, decide_eq_true hg2, decide_eq_true hl.symm]
 simp
theorem aG9 (a : List Nat) : ∀ n, iR (a ++ List.replicate n 48) = iR a * 10 ^ n
 | 0 => by simp
 | n + 1 => by
  rw [List.replicate_succ', ← List.append_assoc, aDg, aG9 a n, Nat.pow_succ, Nat.mul_assoc]; rfl
theorem aNO (n : Nat) : ∀ c ∈ List.replicate n 48, eQ c = true := fun c hc => by rw [(List.mem_replicate.1 hc).2]; rfl
theorem aE3 {a b : List Nat} (h : ∀ c ∈ a, eQ c = true) (hb : ∀ c ∈ b, eQ c = true) : ∀ c ∈ a ++ b, eQ c = true := fun c hc => (List.mem_append.1 hc).elim (h c) (hb c)
theorem aRO {a : List Nat} {n : Nat} {p : Int} (h : ∀ c ∈ a, eQ c = true) (h1 : 1 ≤ a.length) (h2 : a.length ≤ 30) (h3 : 1 ≤ n) (h4 : n ≤ 25) (hp : 1 ≤ p) (hp2 : p ≤ 2000) : wR (a ++ 46 :: List.replicate n 48) p = wR a p := by
 have hl : (List.replicate n 48).length = n := List.length_replicate
 have f1 := aCA h h1 (by omega)
 have f2 := aRN h (aNO n) h1 (by omega) (by omega)
 rw [hl] at f2
 refine (aBy (j := 10 ^ n) (Nat.pow_pos (by decide)) (by rw [f1]) (by rw [f2]) hp hp2 ?_ ?_).1
 ·unfold wQ; rw [f1, f2]
  simp only
  rw [aG9, show (max (-(n : Int)) 0).toNat = 0 from by omega, show (max (0 : Int) 0).toNat = 0 from rfl]; simp
 ·unfold sL; rw [f1, f2]
  simp only
  rw [show (max (-(-(n : Int))) 0).toNat = n from by omega, show (max (-(0 : Int)) 0).toNat = 0 from rfl]; simp
theorem aS7 {a c : List Nat} {n : Nat} {p : Int} (h : ∀ c ∈ a, eQ c = true) (h1 : 1 ≤ a.length) (h2 : a.length ≤ 30) (h4 : n ≤ 25) (hc : ∀ x ∈ c, eQ x = true) (hcl : c.length = 2) (hcn : iR c = n) (hp : 1 ≤ p) (hp2 : p ≤ 2000) : wR (a ++ List.replicate n 48 ++ 101 :: 45 :: c) p = wR a p := by
 have hl : (a ++ List.replicate n 48).length = a.length + n := by simp
 have f1 := aCA h h1 (by omega)
 have f2 := aS6 (aE3 h (aNO n)) hc (by omega) (by omega) (by omega) (by omega) (by omega)
 rw [hcn] at f2
 refine (aBy (j := 10 ^ n) (Nat.pow_pos (by decide)) (by rw [f1]) (by rw [f2]) hp hp2 ?_ ?_).1
 ·unfold wQ; rw [f1, f2]
  simp only
  rw [aG9, show (max (-(n : Int)) 0).toNat = 0 from by omega, show (max (0 : Int) 0).toNat = 0 from rfl]; simp
 ·unfold sL; rw [f1, f2]
  simp only
  rw [show (max (-(-(n : Int))) 0).toNat = n from by omega, show (max (-(0 : Int)) 0).toNat = 0 from rfl]; simp
theorem aS8 {a : List Nat} {p : Int} (h : ∀ c ∈ a, eQ c = true) (h1 : 1 ≤ a.length) (h2 : a.length ≤ 30) (hp : 1 ≤ p) (hp2 : p ≤ 2000) : wR ([48] ++ a) p = wR a p ∧ (wR a p).2.1 = 0 := by
 have f1 := aCA h h1 (by omega)
 have hh : ∀ c ∈ [48] ++ a, eQ c = true := aE3 (by simp [eQ]) h
 have f2 := aCA hh (by simp) (by simp; omega)
 have hn : iR ([48] ++ a) = iR a := rfl
 refine aBy (j := 1) (by decide) (by rw [f1]) (by rw [f2]) hp hp2 ?_ ?_
 ·unfold wQ; rw [f1, f2]
  simp only [Nat.mul_one]
  rw [hn]
 ·unfold sL; rw [f1, f2, Nat.mul_one]
end Nu
end Go.Proofs
namespace Go.Proofs
open Go.Vc
set_option maxRecDepth 20000
namespace Nu
end Nu
end Go.Proofs
