import Derived.Test.YtabdejmolnikaaaGreatDoorZS2
set_option linter.unusedVariables false
set_option linter.unusedSimpArgs false
namespace Go.Proofs
open Go.Vc
set_option maxRecDepth 20000
namespace Nu
def qZ : ByteArray := ⟨⟨48 :: 48 :: 48 :: 48 :: 48 :: 48 :: 48 :: 48 :: 48 :: 48 :: 48 :: 48 :: 48 :: 48 :: 48 :: 48 :: 48 :: 48 :: 48 :: 48 :: 48 :: 48 :: 48 :: 48 :: 48 :: 48 :: 48 :: 48 :: 48 :: 48 :: 48 :: 48 :: 48 :: 48 :: 48 :: 48 :: 48 :: 48 :: 48 :: 48 :: 48 :: 48 :: 48 :: 48 :: 48 :: 48 :: 48 :: 48 :: 48 :: 48 :: 48 :: 48 :: 48 :: 48 :: 48 :: 48 :: 48 :: 48 :: 48 :: 48 :: 48 :: 48 :: 48 :: 48 :: []⟩⟩
theorem aL7 : (⟨⟨48 :: 48 :: 48 :: 48 :: 48 :: 48 :: 48 :: 48 :: 48 :: 48 :: 48 :: 48 :: 48 :: 48 :: 48 :: 48 :: 48 :: 48 :: 48 :: 48 :: 48 :: 48 :: 48 :: 48 :: 48 :: 48 :: 48 :: 48 :: 48 :: 48 :: 48 :: 48 :: 48 :: 48 :: 48 :: 48 :: 48 :: 48 :: 48 :: 48 :: 48 :: 48 :: 48 :: 48 :: 48 :: 48 :: 48 :: 48 :: 48 :: 48 :: 48 :: 48 :: 48 :: 48 :: 48 :: 48 :: 48 :: 48 :: 48 :: 48 :: 48 :: 48 :: 48 :: 48 :: []⟩⟩ : ByteArray) = qZ := rfl
attribute [go_sem] aL7
def uG : ByteArray := ⟨⟨45 :: 45 :: 45 :: 45 :: 45 :: 45 :: 45 :: 45 :: 45 :: 45 :: 45 :: 45 :: 45 :: 45 :: 45 :: 45 :: 45 :: 45 :: 45 :: 45 :: 45 :: 45 :: 45 :: 45 :: 45 :: 45 :: 45 :: 45 :: 45 :: 45 :: 45 :: 45 :: 45 :: 45 :: 45 :: 45 :: 45 :: 45 :: 45 :: 45 :: 45 :: 45 :: 45 :: 45 :: 45 :: 45 :: 45 :: 45 :: 45 :: 45 :: 45 :: 45 :: 45 :: 45 :: 45 :: 45 :: 45 :: 45 :: 45 :: 45 :: 45 :: 45 :: 45 :: 45 :: 45 :: 45 :: 45 :: 45 :: 45 :: 45 :: 45 :: 45 :: 45 :: 45 :: 45 :: 45 :: 45 :: 45 :: 45 :: 45 :: 45 :: 45 :: 45 :: 45 :: 45 :: 45 :: 45 :: 45 :: 45 :: 45 :: 45 :: 45 :: 45 :: 45 :: 45 :: 45 :: 45 :: 45 :: 45 :: 45 :: 45 :: 45 :: 45 :: 45 :: 45 :: 45 :: 45 :: 45 :: 45 :: 45 :: 45 :: 45 :: 45 :: 45 :: 45 :: 45 :: 45 :: 45 :: 45 :: 45 :: 45 :: 45 :: 45 :: 45 :: 45 :: 45 :: 45 :: 45 :: []⟩⟩
theorem aL8 : (⟨⟨45 :: 45 :: 45 :: 45 :: 45 :: 45 :: 45 :: 45 :: 45 :: 45 :: 45 :: 45 :: 45 :: 45 :: 45 :: 45 :: 45 :: 45 :: 45 :: 45 :: 45 :: 45 :: 45 :: 45 :: 45 :: 45 :: 45 :: 45 :: 45 :: 45 :: 45 :: 45 :: 45 :: 45 :: 45 :: 45 :: 45 :: 45 :: 45 :: 45 :: 45 :: 45 :: 45 :: 45 :: 45 :: 45 :: 45 :: 45 :: 45 :: 45 :: 45 :: 45 :: 45 :: 45 :: 45 :: 45 :: 45 :: 45 :: 45 :: 45 :: 45 :: 45 :: 45 :: 45 :: 45 :: 45 :: 45 :: 45 :: 45 :: 45 :: 45 :: 45 :: 45 :: 45 :: 45 :: 45 :: 45 :: 45 :: 45 :: 45 :: 45 :: 45 :: 45 :: 45 :: 45 :: 45 :: 45 :: 45 :: 45 :: 45 :: 45 :: 45 :: 45 :: 45 :: 45 :: 45 :: 45 :: 45 :: 45 :: 45 :: 45 :: 45 :: 45 :: 45 :: 45 :: 45 :: 45 :: 45 :: 45 :: 45 :: 45 :: 45 :: 45 :: 45 :: 45 :: 45 :: 45 :: 45 :: 45 :: 45 :: 45 :: 45 :: 45 :: 45 :: 45 :: 45 :: 45 :: 45 :: []⟩⟩ : ByteArray) = uG := rfl
attribute [go_sem] aL8
def yM : ByteArray := ⟨⟨61 :: 61 :: 61 :: 61 :: 61 :: 61 :: 61 :: 61 :: 61 :: 61 :: 61 :: 61 :: 61 :: 61 :: 61 :: 61 :: 61 :: 61 :: 61 :: 61 :: 61 :: 61 :: 61 :: 61 :: 61 :: 61 :: 61 :: 61 :: 61 :: 61 :: 61 :: 61 :: 61 :: 61 :: 61 :: 61 :: 61 :: 61 :: 61 :: 61 :: 61 :: 61 :: 61 :: 61 :: 61 :: 61 :: 61 :: 61 :: 61 :: 61 :: 61 :: 61 :: 61 :: 61 :: 61 :: 61 :: 61 :: 61 :: 61 :: 61 :: 61 :: 61 :: 61 :: 61 :: 61 :: 61 :: 61 :: 61 :: 61 :: 61 :: 61 :: 61 :: 61 :: 61 :: 61 :: 61 :: 61 :: 61 :: 61 :: 61 :: 61 :: 61 :: 61 :: 61 :: 61 :: 61 :: 61 :: 61 :: 61 :: 61 :: 61 :: 61 :: 61 :: 61 :: 61 :: 61 :: 61 :: 61 :: 61 :: 61 :: 61 :: 61 :: 61 :: 61 :: 61 :: 61 :: 61 :: 61 :: 61 :: 61 :: 61 :: 61 :: 61 :: 61 :: 61 :: 61 :: 61 :: 61 :: 61 :: 61 :: 61 :: 61 :: 61 :: 61 :: 61 :: 61 :: 61 :: 61 :: []⟩⟩
theorem aL9 : (⟨⟨61 :: 61 :: 61 :: 61 :: 61 :: 61 :: 61 :: 61 :: 61 :: 61 :: 61 :: 61 :: 61 :: 61 :: 61 :: 61 :: 61 :: 61 :: 61 :: 61 :: 61 :: 61 :: 61 :: 61 :: 61 :: 61 :: 61 :: 61 :: 61 :: 61 :: 61 :: 61 :: 61 :: 61 :: 61 :: 61 :: 61 :: 61 :: 61 :: 61 :: 61 :: 61 :: 61 :: 61 :: 61 :: 61 :: 61 :: 61 :: 61 :: 61 :: 61 :: 61 :: 61 :: 61 :: 61 :: 61 :: 61 :: 61 :: 61 :: 61 :: 61 :: 61 :: 61 :: 61 :: 61 :: 61 :: 61 :: 61 :: 61 :: 61 :: 61 :: 61 :: 61 :: 61 :: 61 :: 61 :: 61 :: 61 :: 61 :: 61 :: 61 :: 61 :: 61 :: 61 :: 61 :: 61 :: 61 :: 61 :: 61 :: 61 :: 61 :: 61 :: 61 :: 61 :: 61 :: 61 :: 61 :: 61 :: 61 :: 61 :: 61 :: 61 :: 61 :: 61 :: 61 :: 61 :: 61 :: 61 :: 61 :: 61 :: 61 :: 61 :: 61 :: 61 :: 61 :: 61 :: 61 :: 61 :: 61 :: 61 :: 61 :: 61 :: 61 :: 61 :: 61 :: 61 :: 61 :: 61 :: []⟩⟩ : ByteArray) = yM := rfl
attribute [go_sem] aL9
def yN : ByteArray := ⟨⟨9 :: 9 :: 9 :: 9 :: 9 :: 9 :: 9 :: 9 :: 9 :: 9 :: 9 :: 9 :: 9 :: 9 :: 9 :: 9 :: 9 :: 9 :: 9 :: 9 :: 9 :: 9 :: 9 :: 9 :: 9 :: 9 :: 9 :: 9 :: 9 :: 9 :: 9 :: 9 :: 9 :: 9 :: 9 :: 9 :: 9 :: 9 :: 9 :: 9 :: 9 :: 9 :: 9 :: 9 :: 9 :: 9 :: 9 :: 9 :: 9 :: 9 :: 9 :: 9 :: 9 :: 9 :: 9 :: 9 :: 9 :: 9 :: 9 :: 9 :: 9 :: 9 :: 9 :: 9 :: []⟩⟩
theorem aMa : (⟨⟨9 :: 9 :: 9 :: 9 :: 9 :: 9 :: 9 :: 9 :: 9 :: 9 :: 9 :: 9 :: 9 :: 9 :: 9 :: 9 :: 9 :: 9 :: 9 :: 9 :: 9 :: 9 :: 9 :: 9 :: 9 :: 9 :: 9 :: 9 :: 9 :: 9 :: 9 :: 9 :: 9 :: 9 :: 9 :: 9 :: 9 :: 9 :: 9 :: 9 :: 9 :: 9 :: 9 :: 9 :: 9 :: 9 :: 9 :: 9 :: 9 :: 9 :: 9 :: 9 :: 9 :: 9 :: 9 :: 9 :: 9 :: 9 :: 9 :: 9 :: 9 :: 9 :: 9 :: 9 :: []⟩⟩ : ByteArray) = yN := rfl
attribute [go_sem] aMa
def yO : ByteArray := ⟨⟨48 :: 48 :: 48 :: 49 :: 48 :: 50 :: 48 :: 51 :: 48 :: 52 :: 48 :: 53 :: 48 :: 54 :: 48 :: 55 :: 48 :: 56 :: 48 :: 57 :: 49 :: 48 :: 49 :: 49 :: 49 :: 50 :: 49 :: 51 :: 49 :: 52 :: 49 :: 53 :: 49 :: 54 :: 49 :: 55 :: 49 :: 56 :: 49 :: 57 :: 50 :: 48 :: 50 :: 49 :: 50 :: 50 :: 50 :: 51 :: 50 :: 52 :: 50 :: 53 :: 50 :: 54 :: 50 :: 55 :: 50 :: 56 :: 50 :: 57 :: 51 :: 48 :: 51 :: 49 :: 51 :: 50 :: 51 :: 51 :: 51 :: 52 :: 51 :: 53 :: 51 :: 54 :: 51 :: 55 :: 51 :: 56 :: 51 :: 57 :: 52 :: 48 :: 52 :: 49 :: 52 :: 50 :: 52 :: 51 :: 52 :: 52 :: 52 :: 53 :: 52 :: 54 :: 52 :: 55 :: 52 :: 56 :: 52 :: 57 :: 53 :: 48 :: 53 :: 49 :: 53 :: 50 :: 53 :: 51 :: 53 :: 52 :: 53 :: 53 :: 53 :: 54 :: 53 :: 55 :: 53 :: 56 :: 53 :: 57 :: 54 :: 48 :: 54 :: 49 :: 54 :: 50 :: 54 :: 51 :: 54 :: 52 :: 54 :: 53 :: 54 :: 54 :: 54 :: 55 :: 54 :: 56 :: 54 :: 57 :: 55 :: 48 :: 55 :: 49 :: 55 :: 50 :: 55 :: 51 :: 55 :: 52 :: 55 :: 53 :: 55 :: 54 :: 55 :: 55 :: 55 :: 56 :: 55 :: 57 :: 56 :: 48 :: 56 :: 49 :: 56 :: 50 :: 56 :: 51 :: 56 :: 52 :: 56 :: 53 :: 56 :: 54 :: 56 :: 55 :: 56 :: 56 :: 56 :: 57 :: 57 :: 48 :: 57 :: 49 :: 57 :: 50 :: 57 :: 51 :: 57 :: 52 :: 57 :: 53 :: 57 :: 54 :: 57 :: 55 :: 57 :: 56 :: 57 :: 57 :: []⟩⟩
theorem aMb : (⟨⟨48 :: 48 :: 48 :: 49 :: 48 :: 50 :: 48 :: 51 :: 48 :: 52 :: 48 :: 53 :: 48 :: 54 :: 48 :: 55 :: 48 :: 56 :: 48 :: 57 :: 49 :: 48 :: 49 :: 49 :: 49 :: 50 :: 49 :: 51 :: 49 :: 52 :: 49 :: 53 :: 49 :: 54 :: 49 :: 55 :: 49 :: 56 :: 49 :: 57 :: 50 :: 48 :: 50 :: 49 :: 50 :: 50 :: 50 :: 51 :: 50 :: 52 :: 50 :: 53 :: 50 :: 54 :: 50 :: 55 :: 50 :: 56 :: 50 :: 57 :: 51 :: 48 :: 51 :: 49 :: 51 :: 50 :: 51 :: 51 :: 51 :: 52 :: 51 :: 53 :: 51 :: 54 :: 51 :: 55 :: 51 :: 56 :: 51 :: 57 :: 52 :: 48 :: 52 :: 49 :: 52 :: 50 :: 52 :: 51 :: 52 :: 52 :: 52 :: 53 :: 52 :: 54 :: 52 :: 55 :: 52 :: 56 :: 52 :: 57 :: 53 :: 48 :: 53 :: 49 :: 53 :: 50 :: 53 :: 51 :: 53 :: 52 :: 53 :: 53 :: 53 :: 54 :: 53 :: 55 :: 53 :: 56 :: 53 :: 57 :: 54 :: 48 :: 54 :: 49 :: 54 :: 50 :: 54 :: 51 :: 54 :: 52 :: 54 :: 53 :: 54 :: 54 :: 54 :: 55 :: 54 :: 56 :: 54 :: 57 :: 55 :: 48 :: 55 :: 49 :: 55 :: 50 :: 55 :: 51 :: 55 :: 52 :: 55 :: 53 :: 55 :: 54 :: 55 :: 55 :: 55 :: 56 :: 55 :: 57 :: 56 :: 48 :: 56 :: 49 :: 56 :: 50 :: 56 :: 51 :: 56 :: 52 :: 56 :: 53 :: 56 :: 54 :: 56 :: 55 :: 56 :: 56 :: 56 :: 57 :: 57 :: 48 :: 57 :: 49 :: 57 :: 50 :: 57 :: 51 :: 57 :: 52 :: 57 :: 53 :: 57 :: 54 :: 57 :: 55 :: 57 :: 56 :: 57 :: 57 :: []⟩⟩ : ByteArray) = yO := rfl
attribute [go_sem] aMb
def yP : ByteArray := ⟨⟨48 :: 49 :: 50 :: 51 :: 52 :: 53 :: 54 :: 55 :: 56 :: 57 :: 97 :: 98 :: 99 :: 100 :: 101 :: 102 :: 103 :: 104 :: 105 :: 106 :: 107 :: 108 :: 109 :: 110 :: 111 :: 112 :: 113 :: 114 :: 115 :: 116 :: 117 :: 118 :: 119 :: 120 :: 121 :: 122 :: []⟩⟩
theorem aMc : (⟨⟨48 :: 49 :: 50 :: 51 :: 52 :: 53 :: 54 :: 55 :: 56 :: 57 :: 97 :: 98 :: 99 :: 100 :: 101 :: 102 :: 103 :: 104 :: 105 :: 106 :: 107 :: 108 :: 109 :: 110 :: 111 :: 112 :: 113 :: 114 :: 115 :: 116 :: 117 :: 118 :: 119 :: 120 :: 121 :: 122 :: []⟩⟩ : ByteArray) = yP := rfl
attribute [go_sem] aMc
def uH : ByteArray := ⟨⟨32 :: 32 :: 32 :: 32 :: 32 :: 32 :: 32 :: 32 :: 32 :: 32 :: 32 :: 32 :: 32 :: 32 :: 32 :: 32 :: 32 :: 32 :: 32 :: 32 :: 32 :: 32 :: 32 :: 32 :: 32 :: 32 :: 32 :: 32 :: 32 :: 32 :: 32 :: 32 :: 32 :: 32 :: 32 :: 32 :: 32 :: 32 :: 32 :: 32 :: 32 :: 32 :: 32 :: 32 :: 32 :: 32 :: 32 :: 32 :: 32 :: 32 :: 32 :: 32 :: 32 :: 32 :: 32 :: 32 :: 32 :: 32 :: 32 :: 32 :: 32 :: 32 :: 32 :: 32 :: 32 :: 32 :: 32 :: 32 :: 32 :: 32 :: 32 :: 32 :: 32 :: 32 :: 32 :: 32 :: 32 :: 32 :: 32 :: 32 :: 32 :: 32 :: 32 :: 32 :: 32 :: 32 :: 32 :: 32 :: 32 :: 32 :: 32 :: 32 :: 32 :: 32 :: 32 :: 32 :: 32 :: 32 :: 32 :: 32 :: 32 :: 32 :: 32 :: 32 :: 32 :: 32 :: 32 :: 32 :: 32 :: 32 :: 32 :: 32 :: 32 :: 32 :: 32 :: 32 :: 32 :: 32 :: 32 :: 32 :: 32 :: 32 :: 32 :: 32 :: 32 :: 32 :: 32 :: 32 :: []⟩⟩
theorem aMd : (⟨⟨32 :: 32 :: 32 :: 32 :: 32 :: 32 :: 32 :: 32 :: 32 :: 32 :: 32 :: 32 :: 32 :: 32 :: 32 :: 32 :: 32 :: 32 :: 32 :: 32 :: 32 :: 32 :: 32 :: 32 :: 32 :: 32 :: 32 :: 32 :: 32 :: 32 :: 32 :: 32 :: 32 :: 32 :: 32 :: 32 :: 32 :: 32 :: 32 :: 32 :: 32 :: 32 :: 32 :: 32 :: 32 :: 32 :: 32 :: 32 :: 32 :: 32 :: 32 :: 32 :: 32 :: 32 :: 32 :: 32 :: 32 :: 32 :: 32 :: 32 :: 32 :: 32 :: 32 :: 32 :: 32 :: 32 :: 32 :: 32 :: 32 :: 32 :: 32 :: 32 :: 32 :: 32 :: 32 :: 32 :: 32 :: 32 :: 32 :: 32 :: 32 :: 32 :: 32 :: 32 :: 32 :: 32 :: 32 :: 32 :: 32 :: 32 :: 32 :: 32 :: 32 :: 32 :: 32 :: 32 :: 32 :: 32 :: 32 :: 32 :: 32 :: 32 :: 32 :: 32 :: 32 :: 32 :: 32 :: 32 :: 32 :: 32 :: 32 :: 32 :: 32 :: 32 :: 32 :: 32 :: 32 :: 32 :: 32 :: 32 :: 32 :: 32 :: 32 :: 32 :: 32 :: 32 :: 32 :: 32 :: []⟩⟩ : ByteArray) = uH := rfl
attribute [go_sem] aMd
noncomputable def dV (b_0 : Bool) : Option Int :=
 if b_0 = true then some (1 : Int) else some (0 : Int)
def tK : PlR := ⟨[(0, .A [0]), (1, .A [3]), (2, .A [2]), (3, .A [2])], []⟩
def vP : Ty := .pair .bool .unit
noncomputable def kA : aK := mSpec vP (.one (.i .i64)) (fun x => dV x.1)
noncomputable def aCD : List (FuncId × aK) := []
theorem aCE : bL Tryz.prog GL aCD := .nil
attribute [go_sem] vP tK
set_option maxHeartbeats 4000000 in
theorem aBO : FOK Tryz.prog GL 174 kA := by
 refine bK (bC aCE) mix Tryz.func174 rfl (by kernel_rfl) (by decide) tK fun w0 S x Θ hw h hF => ?_
 obtain ⟨(b_0 : Bool), u⟩ := x
 simp only [bR, go_sem]
 replace h : sat (dV b_0) _ := h
 unfold dV at h
 refine aJv h (fun hc h => ?_) fun hc h => ?_
 ·exact aJ hF [.tmp 2] rfl rfl rfl (aB h) (by simp only [aW, go_sem])
 ·exact aJ hF [.tmp 2] rfl rfl rfl (aB h) (by simp only [aW, go_sem])
attribute [go_sem] kA
noncomputable def bZ (x_0 : Int) : Option Int :=
 ck (I64 (x_0 * (78913 : Int))) (some (Int.fdiv (x_0 * (78913 : Int)) (2 ^ (18 : Nat))))
def tL : PlR := ⟨[(0, .A [0]), (1, .A [2])], []⟩
def vQ : Ty := .pair (.i .i64) .unit
noncomputable def kB : aK := mSpec vQ (.one (.i .i64)) (fun x => bZ x.1)
noncomputable def aCF : List (FuncId × aK) := []
theorem aCG : bL Tryz.prog GL aCF := .nil
attribute [go_sem] vQ tL
set_option maxHeartbeats 4000000 in
theorem aBP : FOK Tryz.prog GL 173 kB := by
 refine bK (bC aCG) mix Tryz.func173 rfl (by kernel_rfl) (by decide) tL fun w0 S x Θ hw h hF => ?_
 obtain ⟨(x_0 : Int), u⟩ := x
 simp only [bR, go_sem]
 replace h : sat (bZ x_0) _ := h
 unfold bZ at h
 refine aF h fun g0 h => ?_
 exact aJ hF [.tmp 2] rfl rfl rfl (aB h) (by simp only [aW, go_sem])
attribute [go_sem] kB
noncomputable def bV (d_0 : Nat) : Option Int :=
 ck (((bZ (cV d_0)).isSome = true)) (ck (0 ≤ ((bZ (cV d_0)).getD (0 : Int)) ∧ ((bZ (cV d_0)).getD (0 : Int)) < (20 : Int)) (ck (((dV (decide ((p10.getD (((bZ (cV d_0)).getD (0 : Int)).toNat) (0 : Nat)) ≤ d_0))).isSome = true)) (ck (I64 (((bZ (cV d_0)).getD (0 : Int)) + ((dV (decide ((p10.getD (((bZ (cV d_0)).getD (0 : Int)).toNat) (0 : Nat)) ≤ d_0))).getD (0 : Int)))) (some (((bZ (cV d_0)).getD (0 : Int)) + ((dV (decide ((p10.getD (((bZ (cV d_0)).getD (0 : Int)).toNat) (0 : Nat)) ≤ d_0))).getD (0 : Int)))))))
def tM : PlR := ⟨[(0, .A [0]), (1, .A [0, 3]), (2, .A [2])], []⟩
def vR : Ty := .pair (.u .u64) .unit
noncomputable def kC : aK := mSpec vR (.one (.i .i64)) (fun x => bV x.1)
noncomputable def kO : List (FuncId × aK) := [(158, nU), (173, kB), (174, kA)]
theorem aCH : bL Tryz.prog GL kO := .cons aDj (by kernel_rfl) (.cons aBP (by kernel_rfl) (.cons aBO (by kernel_rfl) (.nil)))
theorem aAh : gam kO 158 = some nU := rfl
theorem aAi : gam kO 173 = some kB := rfl
theorem aAj : gam kO 174 = some kA := rfl
attribute [go_sem] vR tM aAh aAi aAj
set_option maxHeartbeats 4000000 in
theorem aBQ : FOK Tryz.prog GL 164 kC := by
 refine bK (bC aCH) mix Tryz.func164 rfl (by kernel_rfl) (by decide) tM fun w0 S x Θ hw h hF => ?_
 obtain ⟨(d_0 : Nat), u⟩ := x
 simp only [bR, go_sem]
 replace h : sat (bV d_0) _ := h
 unfold bV at h
 refine aF h fun g0 h => ?_
 refine aF h fun g0 h => aF h fun g1 h => aF h fun g2 h => ?_
 exact aJ hF [.tmp 2] rfl rfl rfl (aB h) (by simp only [aW, go_sem])
attribute [go_sem] kC
noncomputable def gL (i_0 : Int) : Option (List Nat) :=
 if i_0 < (10 : Int) then ck (I64 (i_0 + (1 : Int))) (ck (0 ≤ i_0 ∧ i_0 ≤ (i_0 + (1 : Int)) ∧ (i_0 + (1 : Int)) ≤ ((((aS yP).length) : Nat) : Int)) (some (List.drop (i_0.toNat) (List.take ((i_0 + (1 : Int)).toNat) (aS yP))))) else ck (I64 (i_0 * (2 : Int))) (ck (I64 (i_0 * (2 : Int))) (ck (I64 ((i_0 * (2 : Int)) + (2 : Int))) (ck (0 ≤ (i_0 * (2 : Int)) ∧ (i_0 * (2 : Int)) ≤ ((i_0 * (2 : Int)) + (2 : Int)) ∧ ((i_0 * (2 : Int)) + (2 : Int)) ≤ ((((aS yO).length) : Nat) : Int)) (some (List.drop ((i_0 * (2 : Int)).toNat) (List.take (((i_0 * (2 : Int)) + (2 : Int)).toNat) (aS yO)))))))
def zK : PlR := ⟨[(0, .A [0]), (1, .A [0, 4]), (2, .A [2]), (3, .A [2])], []⟩
def aAG : Ty := .pair (.i .i64) .unit
noncomputable def oL : aK := mSpec aAG (.one .str) (fun x => gL x.1)
noncomputable def aF4 : List (FuncId × aK) := []
theorem aF5 : bL Tryz.prog GL aF4 := .nil
attribute [go_sem] aAG zK
set_option maxHeartbeats 4000000 in
theorem aEX : FOK Tryz.prog GL 163 oL := by
 refine bK (bC aF5) mix Tryz.func163 rfl (by kernel_rfl) (by decide) zK fun w0 S x Θ hw h hF => ?_
 obtain ⟨(i_0 : Int), u⟩ := x
 simp only [bR, go_sem]
 replace h : sat (gL i_0) _ := h
 unfold gL at h
 refine dE h (fun hc h => ?_) fun hc h => ?_
 ·refine aF h fun g0 h => aF h fun g1 h => ?_
  exact aJ hF [.tmp 2] rfl rfl rfl (aB h) (by simp only [aW, go_sem])
 ·refine aF h fun g0 h => aF h fun g1 h => aF h fun g2 h => aF h fun g3 h => ?_
  exact aJ hF [.tmp 2] rfl rfl rfl (aB h) (by simp only [aW, go_sem])
attribute [go_sem] oL
noncomputable def eR (i_0 : Nat) (base_1 : Int) : Option (List Nat) :=
 if base_1 = (10 : Int) then if i_0 < (100 : Nat) then ck (((gL (IntKind.i64.wrap ((i_0 : Nat) : Int))).isSome = true)) (some ((gL (IntKind.i64.wrap ((i_0 : Nat) : Int))).getD ([] : List Nat))) else ck (((bV i_0).isSome = true)) (ck ((0 : Int) < ((bV i_0).getD (0 : Int)) ∧ ((bV i_0).getD (0 : Int)) ≤ 24) (((dT (0 : Nat) ((((bV i_0).getD (0 : Int)) - (0 : Int)).toNat) i_0 (List.replicate 24 (0 : Nat)))).bind (fun r_5 => ck ((0 : Int) < ((bV i_0).getD (0 : Int)) ∧ ((bV i_0).getD (0 : Int)) ≤ 24) (ck ((0 : Nat) + ((((bV i_0).getD (0 : Int)) - (0 : Int)).toNat) ≤ 24) (some (List.take ((((bV i_0).getD (0 : Int)) - (0 : Int)).toNat) (List.drop (0 : Nat) r_5))))))) else none
def kD : Ty := .pair (.u .u64) (.pair (.i .i64) .unit)
attribute [go_sem] kD
noncomputable def iW : aK := mSpec kD (.one .str) (fun x => eR x.1 x.2.1)
noncomputable def kE : List (FuncId × aK) := [(163, oL), (164, kC)]
theorem tN : bL Tryz.prog GL kE := .cons aEX (by kernel_rfl) (.cons aBQ (by kernel_rfl) (.nil))
theorem yT : gam kE 163 = some oL := rfl
attribute [go_sem] yT
theorem yU : gam kE 164 = some kC := rfl
attribute [go_sem] yU
set_option maxHeartbeats 4000000 in
theorem aBo : FOK Tryz.prog GL 160 iW := by
 refine xK (bC tN) Tryz.func160 rfl (by kernel_rfl) (by decide) fun w0 S x r hw h => ?_
 have hF : lZ (fr Tryz.prog (EM kE) S w0 Tryz.f160.ntmps) := ⟨bC tN, mix⟩
 obtain ⟨(i_0 : Nat), (base_1 : Int), u⟩ := x
 simp only [kD, Ty.wf, qX] at hw
 simp only [bR, kD]
 try dsimp only at h
 unfold eR at h
 refine aH (aG hF [0, 1] ?_)
 simp only [go_sem]
 refine aI (aH (aH (aG hF [0, 1, 10] ?_)))
 simp only [go_sem]
 refine aI (cA rfl (fun hc => ?_) (fun hc => ?_))
 ·try simp only [go_sem] at hc
  have h := gN (by first | exact hc | omega | (simpa using hc) | (simp at hc ⊢; omega)) h
  refine aH (aH (aG hF [0, 12] ?_))
  simp only [go_sem]
  refine aI (cA rfl (fun hc => ?_) (fun hc => ?_))
  ·try simp only [go_sem] at hc
   have h := gN (by first | exact hc | omega | (simpa using hc) | (simp at hc ⊢; omega)) h
   refine aH (aG hF [4] ?_)
   simp only [go_sem]
   obtain ⟨g0, h⟩ := aL h
   repeat (refine ⟨by first | with_reducible assumption | omega | (intros; first | assumption | omega) | (simp only [go_sem] at *; first | assumption | omega) | decide, ?_⟩)
   obtain rfl := Option.some.inj h
   refine aI (eG (dN (dN (jZ hF [.tmp 4] rfl rfl rfl ?_))))
   (try simp only [lY, aW, go_sem]) <;> first | rfl | (simp; done)
  ·try simp only [go_sem] at hc
   have h := gO (by first | exact hc | omega | (simpa using hc) | (simp at hc ⊢; omega)) h
   refine cO (aI (aH (cD hF [0, 5] ?_)))
   simp only [go_sem]
   refine aI (aH (aG hF [0, 5, 6] ?_))
   simp only [go_sem]
   obtain ⟨g0, h⟩ := aL h
   repeat (refine ⟨by first | with_reducible assumption | omega | (intros; first | assumption | omega) | (simp only [go_sem] at *; first | assumption | omega) | decide, ?_⟩)
   obtain ⟨g0, h⟩ := aL h
   obtain ⟨r_5, he1, h⟩ := bind_some h
   try dsimp only at h
   refine aI (aH (bM hF (dB (l := [(165, ⟨lF, [0], ((0 : Nat), ((((bV i_0).getD (0 : Int)) - (0 : Int)).toNat), i_0, (List.replicate 24 (0 : Nat)), r_5)⟩)]) (.cons aAg (by kernel_rfl) (.nil))) [5, 6] [19] ?_))
   simp only [go_sem]
   repeat (refine ⟨by first | with_reducible assumption | omega | (intros; first | assumption | omega) | (simp only [go_sem] at *; first | assumption | omega) | decide, ?_⟩)
   obtain ⟨g0, h⟩ := aL h
   obtain ⟨g1, h⟩ := aL h
   refine aI (aH (bM hF (dB (l := []) (.nil)) [4] [23] ?_))
   simp only [go_sem]
   repeat (refine ⟨by first | with_reducible assumption | omega | (intros; first | assumption | omega) | (simp only [go_sem] at *; first | assumption | omega) | decide, ?_⟩)
   obtain rfl := Option.some.inj h
   refine aI (eG (dN (jZ hF [.tmp 4] rfl rfl rfl ?_)))
   (try simp only [lY, aW, go_sem]) <;> first | rfl | (simp; done)
 ·try simp only [go_sem] at hc
  have h := gO (by first | exact hc | omega | (simpa using hc) | (simp at hc ⊢; omega)) h
  cases h
attribute [go_sem] iW
noncomputable def dF (i_0 : Nat) (base_1 : Int) : Option (List Nat) :=
 ck (((eR i_0 base_1).isSome = true)) (some ((eR i_0 base_1).getD ([] : List Nat)))
def tO : PlR := ⟨[(0, .A [0, 1]), (1, .A [4])], []⟩
def vS : Ty := .pair (.u .u64) (.pair (.i .i64) .unit)
noncomputable def kF : aK := mSpec vS (.one .str) (fun x => dF x.1 x.2.1)
noncomputable def vT : List (FuncId × aK) := [(160, iW)]
theorem aCI : bL Tryz.prog GL vT := .cons aBo (by kernel_rfl) (.nil)
theorem aAk : gam vT 160 = some iW := rfl
attribute [go_sem] vS tO aAk
set_option maxHeartbeats 4000000 in
theorem aBR : FOK Tryz.prog GL 132 kF := by
 refine bK (bC aCI) mix Tryz.func132 rfl (by kernel_rfl) (by decide) tO fun w0 S x Θ hw h hF => ?_
 obtain ⟨(i_0 : Nat), (base_1 : Int), u⟩ := x
 simp only [bR, go_sem]
 replace h : sat (dF i_0 base_1) _ := h
 unfold dF at h
 refine aF h fun g0 h => ?_
 exact aJ hF [.tmp 4] rfl rfl rfl (aB h) (by simp only [aW, go_sem])
attribute [go_sem] kF
noncomputable def bN (x_0 : Nat) (y_1 : Nat) : Option (Nat × (Nat × Unit)) :=
 some (((bJ x_0 y_1).1), (((bJ x_0 y_1).2).1), ())
def aG4 : PlR := ⟨[(0, .A [0, 1]), (3, .A [8, 9]), (4, .A [4, 5])], []⟩
def aKr : Ty := .pair (.u .u64) (.pair (.u .u64) .unit)
noncomputable def zL : aK := mSpec aKr (.tup (.pair (.u .u64) (.pair (.u .u64) .unit))) (fun x => bN x.1 x.2.1)
noncomputable def aKs : List (FuncId × aK) := [(126, jA)]
theorem aRE : bL Tryz.prog GL aKs := .cons aAc (by kernel_rfl) (.nil)
theorem aKt : gam aKs 126 = some jA := rfl
attribute [go_sem] aKr aG4 aKt
set_option maxHeartbeats 4000000 in
theorem aQn : FOK Tryz.prog GL 133 zL := by
 refine bK (bC aRE) mix Tryz.func133 rfl (by kernel_rfl) (by decide) aG4 fun w0 S x Θ hw h hF => ?_
 obtain ⟨(x_0 : Nat), (y_1 : Nat), u⟩ := x
 simp only [bR, go_sem]
 replace h : sat (bN x_0 y_1) _ := h
 unfold bN at h
 exact aJ hF [.tmp 4, .tmp 5] rfl rfl rfl (aB h) (by simp only [aW, go_sem])
attribute [go_sem] zL
noncomputable def eS (s_0 : (List Nat)) (prefix_1 : (List Nat)) : Option Bool :=
 ck ((((((prefix_1.length) : Nat) : Int) ≤ (((s_0.length) : Nat) : Int)) → (0 ≤ (((prefix_1.length) : Nat) : Int) ∧ (((prefix_1.length) : Nat) : Int) ≤ (((s_0.length) : Nat) : Int)))) (some ((decide ((((prefix_1.length) : Nat) : Int) ≤ (((s_0.length) : Nat) : Int))) && (decide ((List.take (prefix_1.length) s_0) = prefix_1))))
def qA : PlR := ⟨[(0, .A [0, 1]), (1, .A [4])], []⟩
def qN : Ty := .pair .str (.pair .str .unit)
noncomputable def gA : aK := mSpec qN (.one .bool) (fun x => eS x.1 x.2.1)
noncomputable def aAl : List (FuncId × aK) := []
theorem aAm : bL Tryz.prog GL aAl := .nil
attribute [go_sem] qN qA
set_option maxHeartbeats 4000000 in
theorem yV : FOK Tryz.prog GL 162 gA := by
 refine bK (bC aAm) mix Tryz.func162 rfl (by kernel_rfl) (by decide) qA fun w0 S x Θ hw h hF => ?_
 obtain ⟨(s_0 : (List Nat)), (prefix_1 : (List Nat)), u⟩ := x
 simp only [bR, go_sem]
 replace h : sat (eS s_0 prefix_1) _ := h
 unfold eS at h
 refine aF h fun g0 h => ?_
 exact aJ hF [.tmp 4] rfl rfl rfl (aB h) (by simp only [aW, go_sem])
attribute [go_sem] gA
noncomputable def bO (s_0 : (List Nat)) (prefix_1 : (List Nat)) : Option Bool :=
 ck (((eS s_0 prefix_1).isSome = true)) (some ((eS s_0 prefix_1).getD false))
def vU : PlR := ⟨[(0, .A [0, 1]), (1, .A [4])], []⟩
def wD : Ty := .pair .str (.pair .str .unit)
noncomputable def kP : aK := mSpec wD (.one .bool) (fun x => bO x.1 x.2.1)
noncomputable def wE : List (FuncId × aK) := [(162, gA)]
theorem aDa : bL Tryz.prog GL wE := .cons yV (by kernel_rfl) (.nil)
theorem aAH : gam wE 162 = some gA := rfl
attribute [go_sem] wD vU aAH
set_option maxHeartbeats 4000000 in
theorem aCJ : FOK Tryz.prog GL 134 kP := by
 refine bK (bC aDa) mix Tryz.func134 rfl (by kernel_rfl) (by decide) vU fun w0 S x Θ hw h hF => ?_
 obtain ⟨(s_0 : (List Nat)), (prefix_1 : (List Nat)), u⟩ := x
 simp only [bR, go_sem]
 replace h : sat (bO s_0 prefix_1) _ := h
 unfold bO at h
 refine aF h fun g0 h => ?_
 exact aJ hF [.tmp 4] rfl rfl rfl (aB h) (by simp only [aW, go_sem])
attribute [go_sem] kP
noncomputable def iT (chunkMax_4 : Int) : Option ((List Nat)) :=
 none
noncomputable def mE (s_0 : (List Nat)) (count_1 : Int) : Option ((List Nat)) :=
 if (8192 : Int) < (IntKind.i64.wrap ((((((bN (((((s_0.length) : Nat) : Int) % (18446744073709551616 : Int)).toNat) ((count_1 % (18446744073709551616 : Int)).toNat)).getD ((0 : Nat), (0 : Nat), ())).2).1) : Nat) : Int)) then ck ((((s_0.length) : Nat) : Int) ≠ 0) (ck (I64 (Int.tdiv (8192 : Int) (((s_0.length) : Nat) : Int))) (ck (I64 ((Int.tdiv (8192 : Int) (((s_0.length) : Nat) : Int)) * (((s_0.length) : Nat) : Int))) (if ((Int.tdiv (8192 : Int) (((s_0.length) : Nat) : Int)) * (((s_0.length) : Nat) : Int)) = (0 : Int) then iT (((s_0.length) : Nat) : Int) else iT ((Int.tdiv (8192 : Int) (((s_0.length) : Nat) : Int)) * (((s_0.length) : Nat) : Int))))) else iT (IntKind.i64.wrap ((((((bN (((((s_0.length) : Nat) : Int) % (18446744073709551616 : Int)).toNat) ((count_1 % (18446744073709551616 : Int)).toNat)).getD ((0 : Nat), (0 : Nat), ())).2).1) : Nat) : Int))
noncomputable def dQ (s_0 : (List Nat)) (count_1 : Int) (x43_5 : Bool) : Option ((List Nat)) :=
 if x43_5 = true then ck ((((IntKind.i64.wrap ((((((bN (((((s_0.length) : Nat) : Int) % (18446744073709551616 : Int)).toNat) ((count_1 % (18446744073709551616 : Int)).toNat)).getD ((0 : Nat), (0 : Nat), ())).2).1) : Nat) : Int)) ≤ (128 : Int)) → (((bO (aS uH) s_0).isSome = true)))) (if ((IntKind.i64.wrap ((((((bN (((((s_0.length) : Nat) : Int) % (18446744073709551616 : Int)).toNat) ((count_1 % (18446744073709551616 : Int)).toNat)).getD ((0 : Nat), (0 : Nat), ())).2).1) : Nat) : Int)) ≤ (128 : Int)) ∧ (((bO (aS uH) s_0).getD false) = true) then ck (0 ≤ (IntKind.i64.wrap ((((((bN (((((s_0.length) : Nat) : Int) % (18446744073709551616 : Int)).toNat) ((count_1 % (18446744073709551616 : Int)).toNat)).getD ((0 : Nat), (0 : Nat), ())).2).1) : Nat) : Int)) ∧ (IntKind.i64.wrap ((((((bN (((((s_0.length) : Nat) : Int) % (18446744073709551616 : Int)).toNat) ((count_1 % (18446744073709551616 : Int)).toNat)).getD ((0 : Nat), (0 : Nat), ())).2).1) : Nat) : Int)) ≤ ((((aS uH).length) : Nat) : Int)) (some (List.take ((IntKind.i64.wrap ((((((bN (((((s_0.length) : Nat) : Int) % (18446744073709551616 : Int)).toNat) ((count_1 % (18446744073709551616 : Int)).toNat)).getD ((0 : Nat), (0 : Nat), ())).2).1) : Nat) : Int)).toNat) (aS uH))) else ck ((((IntKind.i64.wrap ((((((bN (((((s_0.length) : Nat) : Int) % (18446744073709551616 : Int)).toNat) ((count_1 % (18446744073709551616 : Int)).toNat)).getD ((0 : Nat), (0 : Nat), ())).2).1) : Nat) : Int)) ≤ (128 : Int)) → (((bO (aS uG) s_0).isSome = true)))) (if ((IntKind.i64.wrap ((((((bN (((((s_0.length) : Nat) : Int) % (18446744073709551616 : Int)).toNat) ((count_1 % (18446744073709551616 : Int)).toNat)).getD ((0 : Nat), (0 : Nat), ())).2).1) : Nat) : Int)) ≤ (128 : Int)) ∧ (((bO (aS uG) s_0).getD false) = true) then ck (0 ≤ (IntKind.i64.wrap ((((((bN (((((s_0.length) : Nat) : Int) % (18446744073709551616 : Int)).toNat) ((count_1 % (18446744073709551616 : Int)).toNat)).getD ((0 : Nat), (0 : Nat), ())).2).1) : Nat) : Int)) ∧ (IntKind.i64.wrap ((((((bN (((((s_0.length) : Nat) : Int) % (18446744073709551616 : Int)).toNat) ((count_1 % (18446744073709551616 : Int)).toNat)).getD ((0 : Nat), (0 : Nat), ())).2).1) : Nat) : Int)) ≤ ((((aS uG).length) : Nat) : Int)) (some (List.take ((IntKind.i64.wrap ((((((bN (((((s_0.length) : Nat) : Int) % (18446744073709551616 : Int)).toNat) ((count_1 % (18446744073709551616 : Int)).toNat)).getD ((0 : Nat), (0 : Nat), ())).2).1) : Nat) : Int)).toNat) (aS uG))) else ck ((((IntKind.i64.wrap ((((((bN (((((s_0.length) : Nat) : Int) % (18446744073709551616 : Int)).toNat) ((count_1 % (18446744073709551616 : Int)).toNat)).getD ((0 : Nat), (0 : Nat), ())).2).1) : Nat) : Int)) ≤ (64 : Int)) → (((bO (aS qZ) s_0).isSome = true)))) (if ((IntKind.i64.wrap ((((((bN (((((s_0.length) : Nat) : Int) % (18446744073709551616 : Int)).toNat) ((count_1 % (18446744073709551616 : Int)).toNat)).getD ((0 : Nat), (0 : Nat), ())).2).1) : Nat) : Int)) ≤ (64 : Int)) ∧ (((bO (aS qZ) s_0).getD false) = true) then ck (0 ≤ (IntKind.i64.wrap ((((((bN (((((s_0.length) : Nat) : Int) % (18446744073709551616 : Int)).toNat) ((count_1 % (18446744073709551616 : Int)).toNat)).getD ((0 : Nat), (0 : Nat), ())).2).1) : Nat) : Int)) ∧ (IntKind.i64.wrap ((((((bN (((((s_0.length) : Nat) : Int) % (18446744073709551616 : Int)).toNat) ((count_1 % (18446744073709551616 : Int)).toNat)).getD ((0 : Nat), (0 : Nat), ())).2).1) : Nat) : Int)) ≤ ((((aS qZ).length) : Nat) : Int)) (some (List.take ((IntKind.i64.wrap ((((((bN (((((s_0.length) : Nat) : Int) % (18446744073709551616 : Int)).toNat) ((count_1 % (18446744073709551616 : Int)).toNat)).getD ((0 : Nat), (0 : Nat), ())).2).1) : Nat) : Int)).toNat) (aS qZ))) else ck ((((IntKind.i64.wrap ((((((bN (((((s_0.length) : Nat) : Int) % (18446744073709551616 : Int)).toNat) ((count_1 % (18446744073709551616 : Int)).toNat)).getD ((0 : Nat), (0 : Nat), ())).2).1) : Nat) : Int)) ≤ (128 : Int)) → (((bO (aS yM) s_0).isSome = true)))) (if ((IntKind.i64.wrap ((((((bN (((((s_0.length) : Nat) : Int) % (18446744073709551616 : Int)).toNat) ((count_1 % (18446744073709551616 : Int)).toNat)).getD ((0 : Nat), (0 : Nat), ())).2).1) : Nat) : Int)) ≤ (128 : Int)) ∧ (((bO (aS yM) s_0).getD false) = true) then ck (0 ≤ (IntKind.i64.wrap ((((((bN (((((s_0.length) : Nat) : Int) % (18446744073709551616 : Int)).toNat) ((count_1 % (18446744073709551616 : Int)).toNat)).getD ((0 : Nat), (0 : Nat), ())).2).1) : Nat) : Int)) ∧ (IntKind.i64.wrap ((((((bN (((((s_0.length) : Nat) : Int) % (18446744073709551616 : Int)).toNat) ((count_1 % (18446744073709551616 : Int)).toNat)).getD ((0 : Nat), (0 : Nat), ())).2).1) : Nat) : Int)) ≤ ((((aS yM).length) : Nat) : Int)) (some (List.take ((IntKind.i64.wrap ((((((bN (((((s_0.length) : Nat) : Int) % (18446744073709551616 : Int)).toNat) ((count_1 % (18446744073709551616 : Int)).toNat)).getD ((0 : Nat), (0 : Nat), ())).2).1) : Nat) : Int)).toNat) (aS yM))) else ck ((((IntKind.i64.wrap ((((((bN (((((s_0.length) : Nat) : Int) % (18446744073709551616 : Int)).toNat) ((count_1 % (18446744073709551616 : Int)).toNat)).getD ((0 : Nat), (0 : Nat), ())).2).1) : Nat) : Int)) ≤ (64 : Int)) → (((bO (aS yN) s_0).isSome = true)))) (if ((IntKind.i64.wrap ((((((bN (((((s_0.length) : Nat) : Int) % (18446744073709551616 : Int)).toNat) ((count_1 % (18446744073709551616 : Int)).toNat)).getD ((0 : Nat), (0 : Nat), ())).2).1) : Nat) : Int)) ≤ (64 : Int)) ∧ (((bO (aS yN) s_0).getD false) = true) then ck (0 ≤ (IntKind.i64.wrap ((((((bN (((((s_0.length) : Nat) : Int) % (18446744073709551616 : Int)).toNat) ((count_1 % (18446744073709551616 : Int)).toNat)).getD ((0 : Nat), (0 : Nat), ())).2).1) : Nat) : Int)) ∧ (IntKind.i64.wrap ((((((bN (((((s_0.length) : Nat) : Int) % (18446744073709551616 : Int)).toNat) ((count_1 % (18446744073709551616 : Int)).toNat)).getD ((0 : Nat), (0 : Nat), ())).2).1) : Nat) : Int)) ≤ ((((aS yN).length) : Nat) : Int)) (some (List.take ((IntKind.i64.wrap ((((((bN (((((s_0.length) : Nat) : Int) % (18446744073709551616 : Int)).toNat) ((count_1 % (18446744073709551616 : Int)).toNat)).getD ((0 : Nat), (0 : Nat), ())).2).1) : Nat) : Int)).toNat) (aS yN))) else mE s_0 count_1))))) else mE s_0 count_1
noncomputable def aQ (s_0 : (List Nat)) (count_1 : Int) : Option (List Nat) :=
 if count_1 = (0 : Int) then some (aS ⟨#[]⟩) else if count_1 = (1 : Int) then some s_0 else if count_1 < (0 : Int) then none else ck (((bN (((((s_0.length) : Nat) : Int) % (18446744073709551616 : Int)).toNat) ((count_1 % (18446744073709551616 : Int)).toNat)).isSome = true)) (if ((0 : Nat) < (((bN (((((s_0.length) : Nat) : Int) % (18446744073709551616 : Int)).toNat) ((count_1 % (18446744073709551616 : Int)).toNat)).getD ((0 : Nat), (0 : Nat), ())).1)) ∨ ((9223372036854775807 : Nat) < ((((bN (((((s_0.length) : Nat) : Int) % (18446744073709551616 : Int)).toNat) ((count_1 % (18446744073709551616 : Int)).toNat)).getD ((0 : Nat), (0 : Nat), ())).2).1)) then none else if (((s_0.length) : Nat) : Int) = (0 : Int) then some (aS ⟨#[]⟩) else ck ((0 : Int) < (((s_0.length) : Nat) : Int)) (if (s_0.getD (0 : Nat) (0 : Nat)) = (32 : Nat) then dQ s_0 count_1 (decide ((s_0.getD (0 : Nat) (0 : Nat)) = (32 : Nat))) else if (s_0.getD (0 : Nat) (0 : Nat)) = (45 : Nat) then dQ s_0 count_1 (decide ((s_0.getD (0 : Nat) (0 : Nat)) = (45 : Nat))) else if (s_0.getD (0 : Nat) (0 : Nat)) = (48 : Nat) then dQ s_0 count_1 (decide ((s_0.getD (0 : Nat) (0 : Nat)) = (48 : Nat))) else if (s_0.getD (0 : Nat) (0 : Nat)) = (61 : Nat) then dQ s_0 count_1 (decide ((s_0.getD (0 : Nat) (0 : Nat)) = (61 : Nat))) else dQ s_0 count_1 (decide ((s_0.getD (0 : Nat) (0 : Nat)) = (9 : Nat)))))
def pS : Ty := .pair .str (.pair (.i .i64) .unit)
attribute [go_sem] pS
noncomputable def iD : aK := mSpec pS (.one .str) (fun x => aQ x.1 x.2.1)
noncomputable def pT : List (FuncId × aK) := [(133, zL), (134, kP)]
theorem aAI : bL Tryz.prog GL pT := .cons aQn (by kernel_rfl) (.cons aCJ (by kernel_rfl) (.nil))
theorem aCK : gam pT 133 = some zL := rfl
attribute [go_sem] aCK
theorem aCL : gam pT 134 = some kP := rfl
attribute [go_sem] aCL
set_option maxHeartbeats 4000000 in
theorem zM : FOK Tryz.prog GL 73 iD := by
 refine xK (bC aAI) Tryz.func73 rfl (by kernel_rfl) (by decide) fun w0 S x r hw h => ?_
 have hF : lZ (fr Tryz.prog (EM pT) S w0 Tryz.f73.ntmps) := ⟨bC aAI, mix⟩
 obtain ⟨(s_0 : (List Nat)), (count_1 : Int), u⟩ := x
 simp only [pS, Ty.wf, qX] at hw
 simp only [bR, pS]
 try dsimp only at h
 unfold aQ at h
 refine aH (aG hF [0, 1] ?_)
 simp only [go_sem]
 refine aI (aH (aH (aG hF [0, 1, 11] ?_)))
 simp only [go_sem]
 refine aI (iA (aH (aG hF [0, 1, 11, 12] ?_)))
 simp only [go_sem]
 refine aI (cA rfl (fun hc => ?_) (fun hc => ?_))
 ·try simp only [go_sem] at hc
  have h := gN (by first | exact hc | omega | (simpa using hc) | (simp at hc ⊢; omega)) h
  refine aH (aG hF [4] ?_)
  simp only [go_sem]
  obtain rfl := Option.some.inj h
  refine aI (eG (eX (dN (jZ hF [.tmp 4] rfl rfl rfl ?_))))
  (try simp only [lY, aW, go_sem]) <;> first | rfl | (simp; done)
 ·try simp only [go_sem] at hc
  have h := gO (by first | exact hc | omega | (simpa using hc) | (simp at hc ⊢; omega)) h
  refine aH (aG hF [0, 1, 14] ?_)
  simp only [go_sem]
  refine aI (cA rfl (fun hc => ?_) (fun hc => ?_))
  ·try simp only [go_sem] at hc
   have h := gN (by first | exact hc | omega | (simpa using hc) | (simp at hc ⊢; omega)) h
   refine aH (aG hF [4] ?_)
   simp only [go_sem]
   obtain rfl := Option.some.inj h
   refine aI (eG (eX (dN (jZ hF [.tmp 4] rfl rfl rfl ?_))))
   (try simp only [lY, aW, go_sem]) <;> first | rfl | (simp; done)
  ·try simp only [go_sem] at hc
   have h := gO (by first | exact hc | omega | (simpa using hc) | (simp at hc ⊢; omega)) h
   refine cO (gR (aI (aH (aH (aG hF [0, 1, 18] ?_)))))
   simp only [go_sem]
   refine aI (cA rfl (fun hc => ?_) (fun hc => ?_))
   ·try simp only [go_sem] at hc
    have h := gN (by first | exact hc | omega | (simpa using hc) | (simp at hc ⊢; omega)) h
    cases h
   ·try simp only [go_sem] at hc
    have h := gO (by first | exact hc | omega | (simpa using hc) | (simp at hc ⊢; omega)) h
    refine cO (aI (aH (aG hF [0, 5, 6] ?_)))
    simp only [go_sem]
    obtain ⟨g0, h⟩ := aL h
    repeat (refine ⟨by first | with_reducible assumption | omega | (intros; first | assumption | omega) | (simp only [go_sem] at *; first | assumption | omega) | decide, ?_⟩)
    refine aI (aH (aH (aG hF [0, 6, 34] ?_)))
    simp only [go_sem]
    refine aI (cA rfl (fun hc => ?_) (fun hc => ?_))
    ·try simp only [go_sem] at hc
     have h := gN (by first | exact hc | omega | (simpa using hc) | (simp at hc ⊢; omega)) h
     cases h
    ·try simp only [go_sem] at hc
     have h := gO (by first | exact hc | omega | (simpa using hc) | (simp at hc ⊢; omega)) h
     refine cO (aI (aH (aG hF [0, 7] ?_)))
     simp only [go_sem]
     refine aI (aH (aH (aG hF [0, 7, 40] ?_)))
     simp only [go_sem]
     refine aI (cA rfl (fun hc => ?_) (fun hc => ?_))
     ·try simp only [go_sem] at hc
      have h := gN (by first | exact hc | omega | (simpa using hc) | (simp at hc ⊢; omega)) h
      refine aH (aG hF [4] ?_)
      simp only [go_sem]
      obtain rfl := Option.some.inj h
      refine aI (eG (dN (jZ hF [.tmp 4] rfl rfl rfl ?_)))
      (try simp only [lY, aW, go_sem]) <;> first | rfl | (simp; done)
     ·try simp only [go_sem] at hc
      have h := gO (by first | exact hc | omega | (simpa using hc) | (simp at hc ⊢; omega)) h
      refine cO (aI (kI (D := Unit) (fun d => mE s_0 count_1 = some r) [0, 7] (fun d => []) (fun d => []) ?_ ?_))
      ·refine aH (aG hF [0, 7, 42] ?_)
       simp only [go_sem]
       obtain ⟨g0, h⟩ := aL h
       repeat (refine ⟨by first | with_reducible assumption | omega | (intros; first | assumption | omega) | (simp only [go_sem] at *; first | assumption | omega) | decide, ?_⟩)
       refine aI (iA (kI (D := Bool) (fun d => dQ s_0 count_1 d = some r) [0, 7] (fun d => [(43, .val .bool d)]) (fun d => []) ?_ ?_))
       ·refine aH (aG hF [0, 7, 42, 43] ?_)
        simp only [go_sem]
        refine aI (cA rfl (fun hc => ?_) (fun hc => ?_))
        ·try simp only [go_sem] at hc
         have h := gN (by first | exact hc | omega | (simpa using hc) | (simp at hc ⊢; omega)) h
         refine cO (bI (aO ((decide ((s_0.getD (0 : Nat) (0 : Nat)) = (32 : Nat)))) h rfl ?_))
         ·(try simp only [kH, gB, true_or, and_self, go_sem]) <;> (repeat' apply And.intro) <;> first | rfl | (left; rfl) | (right; rfl) | (left; simp only [go_sem]; done) | (right; simp only [go_sem]; done) | (simp; done) | (simp only [*]; done) | omega
        ·try simp only [go_sem] at hc
         have h := gO (by first | exact hc | omega | (simpa using hc) | (simp at hc ⊢; omega)) h
         refine aH (aG hF [0, 7, 42, 43] ?_)
         simp only [go_sem]
         refine aI (cA rfl (fun hc => ?_) (fun hc => ?_))
         ·try simp only [go_sem] at hc
          have h := gN (by first | exact hc | omega | (simpa using hc) | (simp at hc ⊢; omega)) h
          refine cO (bI (aO ((decide ((s_0.getD (0 : Nat) (0 : Nat)) = (45 : Nat)))) h rfl ?_))
          ·(try simp only [kH, gB, true_or, and_self, go_sem]) <;> (repeat' apply And.intro) <;> first | rfl | (left; rfl) | (right; rfl) | (left; simp only [go_sem]; done) | (right; simp only [go_sem]; done) | (simp; done) | (simp only [*]; done) | omega
         ·try simp only [go_sem] at hc
          have h := gO (by first | exact hc | omega | (simpa using hc) | (simp at hc ⊢; omega)) h
          refine aH (aG hF [0, 7, 42, 43] ?_)
          simp only [go_sem]
          refine aI (cA rfl (fun hc => ?_) (fun hc => ?_))
          ·try simp only [go_sem] at hc
           have h := gN (by first | exact hc | omega | (simpa using hc) | (simp at hc ⊢; omega)) h
           refine cO (bI (aO ((decide ((s_0.getD (0 : Nat) (0 : Nat)) = (48 : Nat)))) h rfl ?_))
           ·(try simp only [kH, gB, true_or, and_self, go_sem]) <;> (repeat' apply And.intro) <;> first | rfl | (left; rfl) | (right; rfl) | (left; simp only [go_sem]; done) | (right; simp only [go_sem]; done) | (simp; done) | (simp only [*]; done) | omega
          ·try simp only [go_sem] at hc
           have h := gO (by first | exact hc | omega | (simpa using hc) | (simp at hc ⊢; omega)) h
           refine aH (aG hF [0, 7, 42, 43] ?_)
           simp only [go_sem]
           refine aI (cA rfl (fun hc => ?_) (fun hc => ?_))
           ·try simp only [go_sem] at hc
            have h := gN (by first | exact hc | omega | (simpa using hc) | (simp at hc ⊢; omega)) h
            refine cO (bI (aO ((decide ((s_0.getD (0 : Nat) (0 : Nat)) = (61 : Nat)))) h rfl ?_))
            ·(try simp only [kH, gB, true_or, and_self, go_sem]) <;> (repeat' apply And.intro) <;> first | rfl | (left; rfl) | (right; rfl) | (left; simp only [go_sem]; done) | (right; simp only [go_sem]; done) | (simp; done) | (simp only [*]; done) | omega
           ·try simp only [go_sem] at hc
            have h := gO (by first | exact hc | omega | (simpa using hc) | (simp at hc ⊢; omega)) h
            refine aG hF [0, 7, 43] ?_
            simp only [go_sem]
            refine bI (aO ((decide ((s_0.getD (0 : Nat) (0 : Nat)) = (9 : Nat)))) h rfl ?_)
            ·(try simp only [kH, gB, true_or, and_self, go_sem]) <;> (repeat' apply And.intro) <;> first | rfl | (left; rfl) | (right; rfl) | (left; simp only [go_sem]; done) | (right; simp only [go_sem]; done) | (simp; done) | (simp only [*]; done) | omega
       ·rintro x43_5 h
        try dsimp only at h
        simp only [go_sem]
        unfold dQ at h
        refine cA rfl (fun hc => ?_) (fun hc => ?_)
        ·try simp only [go_sem] at hc
         have h := gN (by first | exact hc | omega | (simpa using hc) | (simp at hc ⊢; omega)) h
         refine iA (aH (aG hF [0, 7, 49] ?_))
         simp only [go_sem]
         obtain ⟨g0, h⟩ := aL h
         repeat (refine ⟨by first | with_reducible assumption | omega | (intros; first | assumption | omega) | (simp only [go_sem] at *; first | assumption | omega) | (intro q0; (try have e0 := g0 (by first | exact q0 | omega | (simpa using q0))); first | assumption | omega) | decide, ?_⟩)
         refine aI (cA rfl (fun hc => ?_) (fun hc => ?_))
         ·try simp only [go_sem] at hc
          have h := gN (by first | exact hc | omega | (simpa using hc) | (simp at hc ⊢; omega)) h
          refine aH (aG hF [4] ?_)
          simp only [go_sem]
          obtain ⟨g0, h⟩ := aL h
          repeat (refine ⟨by first | with_reducible assumption | omega | (intros; first | assumption | omega) | (simp only [go_sem] at *; first | assumption | omega) | decide, ?_⟩)
          obtain rfl := Option.some.inj h
          refine aI (eG (eX (eX (dN (jZ hF [.tmp 4] rfl rfl rfl ?_)))))
          (try simp only [lY, aW, go_sem]) <;> first | rfl | (simp; done)
         ·try simp only [go_sem] at hc
          have h := gO (by first | exact hc | omega | (simpa using hc) | (simp at hc ⊢; omega)) h
          refine aH (aG hF [0, 7, 58] ?_)
          simp only [go_sem]
          obtain ⟨g0, h⟩ := aL h
          repeat (refine ⟨by first | with_reducible assumption | omega | (intros; first | assumption | omega) | (simp only [go_sem] at *; first | assumption | omega) | (intro q0; (try have e0 := g0 (by first | exact q0 | omega | (simpa using q0))); first | assumption | omega) | decide, ?_⟩)
          refine aI (cA rfl (fun hc => ?_) (fun hc => ?_))
          ·try simp only [go_sem] at hc
           have h := gN (by first | exact hc | omega | (simpa using hc) | (simp at hc ⊢; omega)) h
           refine aH (aG hF [4] ?_)
           simp only [go_sem]
           obtain ⟨g0, h⟩ := aL h
           repeat (refine ⟨by first | with_reducible assumption | omega | (intros; first | assumption | omega) | (simp only [go_sem] at *; first | assumption | omega) | decide, ?_⟩)
           obtain rfl := Option.some.inj h
           refine aI (eG (eX (eX (dN (jZ hF [.tmp 4] rfl rfl rfl ?_)))))
           (try simp only [lY, aW, go_sem]) <;> first | rfl | (simp; done)
          ·try simp only [go_sem] at hc
           have h := gO (by first | exact hc | omega | (simpa using hc) | (simp at hc ⊢; omega)) h
           refine aH (aG hF [0, 7, 67] ?_)
           simp only [go_sem]
           obtain ⟨g0, h⟩ := aL h
           repeat (refine ⟨by first | with_reducible assumption | omega | (intros; first | assumption | omega) | (simp only [go_sem] at *; first | assumption | omega) | (intro q0; (try have e0 := g0 (by first | exact q0 | omega | (simpa using q0))); first | assumption | omega) | decide, ?_⟩)
           refine aI (cA rfl (fun hc => ?_) (fun hc => ?_))
           ·try simp only [go_sem] at hc
            have h := gN (by first | exact hc | omega | (simpa using hc) | (simp at hc ⊢; omega)) h
            refine aH (aG hF [4] ?_)
            simp only [go_sem]
            obtain ⟨g0, h⟩ := aL h
            repeat (refine ⟨by first | with_reducible assumption | omega | (intros; first | assumption | omega) | (simp only [go_sem] at *; first | assumption | omega) | decide, ?_⟩)
            obtain rfl := Option.some.inj h
            refine aI (eG (eX (eX (dN (jZ hF [.tmp 4] rfl rfl rfl ?_)))))
            (try simp only [lY, aW, go_sem]) <;> first | rfl | (simp; done)
           ·try simp only [go_sem] at hc
            have h := gO (by first | exact hc | omega | (simpa using hc) | (simp at hc ⊢; omega)) h
            refine aH (aG hF [0, 7, 76] ?_)
            simp only [go_sem]
            obtain ⟨g0, h⟩ := aL h
            repeat (refine ⟨by first | with_reducible assumption | omega | (intros; first | assumption | omega) | (simp only [go_sem] at *; first | assumption | omega) | (intro q0; (try have e0 := g0 (by first | exact q0 | omega | (simpa using q0))); first | assumption | omega) | decide, ?_⟩)
            refine aI (cA rfl (fun hc => ?_) (fun hc => ?_))
            ·try simp only [go_sem] at hc
             have h := gN (by first | exact hc | omega | (simpa using hc) | (simp at hc ⊢; omega)) h
             refine aH (aG hF [4] ?_)
             simp only [go_sem]
             obtain ⟨g0, h⟩ := aL h
             repeat (refine ⟨by first | with_reducible assumption | omega | (intros; first | assumption | omega) | (simp only [go_sem] at *; first | assumption | omega) | decide, ?_⟩)
             obtain rfl := Option.some.inj h
             refine aI (eG (eX (eX (dN (jZ hF [.tmp 4] rfl rfl rfl ?_)))))
             (try simp only [lY, aW, go_sem]) <;> first | rfl | (simp; done)
            ·try simp only [go_sem] at hc
             have h := gO (by first | exact hc | omega | (simpa using hc) | (simp at hc ⊢; omega)) h
             refine aH (aG hF [0, 7, 85] ?_)
             simp only [go_sem]
             obtain ⟨g0, h⟩ := aL h
             repeat (refine ⟨by first | with_reducible assumption | omega | (intros; first | assumption | omega) | (simp only [go_sem] at *; first | assumption | omega) | (intro q0; (try have e0 := g0 (by first | exact q0 | omega | (simpa using q0))); first | assumption | omega) | decide, ?_⟩)
             refine aI (cA rfl (fun hc => ?_) (fun hc => ?_))
             ·try simp only [go_sem] at hc
              have h := gN (by first | exact hc | omega | (simpa using hc) | (simp at hc ⊢; omega)) h
              refine aH (aG hF [4] ?_)
              simp only [go_sem]
              obtain ⟨g0, h⟩ := aL h
              repeat (refine ⟨by first | with_reducible assumption | omega | (intros; first | assumption | omega) | (simp only [go_sem] at *; first | assumption | omega) | decide, ?_⟩)
              obtain rfl := Option.some.inj h
              refine aI (eG (eX (eX (dN (jZ hF [.tmp 4] rfl rfl rfl ?_)))))
              (try simp only [lY, aW, go_sem]) <;> first | rfl | (simp; done)
             ·try simp only [go_sem] at hc
              have h := gO (by first | exact hc | omega | (simpa using hc) | (simp at hc ⊢; omega)) h
              refine cO (gR (gR (bI (aO (()) h rfl ?_))))
              ·(try simp only [kH, gB, true_or, and_self, go_sem]) <;> (repeat' apply And.intro) <;> first | rfl | (left; rfl) | (right; rfl) | (left; simp only [go_sem]; done) | (right; simp only [go_sem]; done) | (simp; done) | (simp only [*]; done) | omega
        ·try simp only [go_sem] at hc
         have h := gO (by first | exact hc | omega | (simpa using hc) | (simp at hc ⊢; omega)) h
         refine cO (gR (bI (aO (()) h rfl ?_)))
         ·(try simp only [kH, gB, true_or, and_self, go_sem]) <;> (repeat' apply And.intro) <;> first | rfl | (left; rfl) | (right; rfl) | (left; simp only [go_sem]; done) | (right; simp only [go_sem]; done) | (simp; done) | (simp only [*]; done) | omega
      ·rintro u h
       try dsimp only at h
       simp only [go_sem]
       unfold mE at h
       refine aH (aG hF [0, 7, 8] ?_)
       simp only [go_sem]
       refine aI (kI (D := Int) (fun d => iT d = some r) [0, 7] (fun d => [(8, .val (.i .i64) d)]) (fun d => []) ?_ ?_)
       ·refine aH (aG hF [0, 7, 8, 96] ?_)
        simp only [go_sem]
        refine aI (cA rfl (fun hc => ?_) (fun hc => ?_))
        ·try simp only [go_sem] at hc
         have h := gN (by first | exact hc | omega | (simpa using hc) | (simp at hc ⊢; omega)) h
         refine aH (aG hF [0, 7, 8] ?_)
         simp only [go_sem]
         obtain ⟨g0, h⟩ := aL h
         obtain ⟨g1, h⟩ := aL h
         obtain ⟨g2, h⟩ := aL h
         try simp only [I64, I32] at g1
         try simp only [I64, I32] at g2
         repeat (refine ⟨by first | with_reducible assumption | omega | (intros; first | assumption | omega) | (simp only [go_sem] at *; first | assumption | omega) | decide, ?_⟩)
         refine aI (aH (aG hF [0, 7, 8, 104] ?_))
         simp only [go_sem]
         refine aI (cA rfl (fun hc => ?_) (fun hc => ?_))
         ·try simp only [go_sem] at hc
          have h := gN (by first | exact hc | omega | (simpa using hc) | (simp at hc ⊢; omega)) h
          refine aG hF [0, 7, 8] ?_
          simp only [go_sem]
          refine bI (aO ((((s_0.length) : Nat) : Int)) h rfl ?_)
          ·(try simp only [kH, gB, true_or, and_self, go_sem]) <;> (repeat' apply And.intro) <;> first | rfl | (left; rfl) | (right; rfl) | (left; simp only [go_sem]; done) | (right; simp only [go_sem]; done) | (simp; done) | (simp only [*]; done) | omega
         ·try simp only [go_sem] at hc
          have h := gO (by first | exact hc | omega | (simpa using hc) | (simp at hc ⊢; omega)) h
          refine cO (bI (aO (((Int.tdiv (8192 : Int) (((s_0.length) : Nat) : Int)) * (((s_0.length) : Nat) : Int))) h rfl ?_))
          ·(try simp only [kH, gB, true_or, and_self, go_sem]) <;> (repeat' apply And.intro) <;> first | rfl | (left; rfl) | (right; rfl) | (left; simp only [go_sem]; done) | (right; simp only [go_sem]; done) | (simp; done) | (simp only [*]; done) | omega
        ·try simp only [go_sem] at hc
         have h := gO (by first | exact hc | omega | (simpa using hc) | (simp at hc ⊢; omega)) h
         refine cO (bI (aO ((IntKind.i64.wrap ((((((bN (((((s_0.length) : Nat) : Int) % (18446744073709551616 : Int)).toNat) ((count_1 % (18446744073709551616 : Int)).toNat)).getD ((0 : Nat), (0 : Nat), ())).2).1) : Nat) : Int))) h rfl ?_))
         ·(try simp only [kH, gB, true_or, and_self, go_sem]) <;> (repeat' apply And.intro) <;> first | rfl | (left; rfl) | (right; rfl) | (left; simp only [go_sem]; done) | (right; simp only [go_sem]; done) | (simp; done) | (simp only [*]; done) | omega
       ·rintro chunkMax_4 h
        try dsimp only at h
        simp only [go_sem]
        unfold iT at h
        cases h
attribute [go_sem] iD
end Nu
end Go.Proofs
namespace Go.Proofs
open Go.Vc
set_option maxRecDepth 20000
namespace Nu
noncomputable def dH (c_0 : Nat) : Option Bool :=
 some ((decide ((48 : Nat) ≤ c_0)) && (decide (c_0 ≤ (57 : Nat))))
def aDv : PlR := ⟨[(0, .A [0]), (1, .A [2])], []⟩
def aEY : Ty := .pair (.u .u8) .unit
noncomputable def uU : aK := mSpec aEY (.one .bool) (fun x => dH x.1)
noncomputable def aOA : List (FuncId × aK) := []
theorem aOB : bL Tryz.prog GL aOA := .nil
attribute [go_sem] aEY aDv
set_option maxHeartbeats 4000000 in
theorem aMe : FOK Tryz.prog GL 130 uU := by
 refine bK (bC aOB) mix Tryz.func130 rfl (by kernel_rfl) (by decide) aDv fun w0 S x Θ hw h hF => ?_
 obtain ⟨(c_0 : Nat), u⟩ := x
 simp only [bR, go_sem]
 replace h : sat (dH c_0) _ := h
 unfold dH at h
 exact aJ hF [.tmp 2] rfl rfl rfl (aB h) (by simp only [aW, go_sem])
attribute [go_sem] uU
noncomputable def kQ (k_16 : Int) (at_1 : Int) (i_8 : Int) (k_21 : Int) (v_22 : Int) : Option (Int) :=
 ck (((k_16 < k_21) → (I64 (k_16 + (3 : Int))))) (if ((k_16 < k_21) ∧ (k_21 ≤ (k_16 + (3 : Int)))) ∧ (v_22 ≤ (100 : Int)) then ck (I64 (k_21 - at_1)) (some (k_21 - at_1)) else ck (I64 (i_8 - at_1)) (some (i_8 - at_1)))
noncomputable def dW (s_0 : (List Nat)) (k_16 : Int) (k_23 : Int) (v_24 : Int) : Option ((Int × Int) ⊕ ((Int × Int))) :=
 ck (((k_23 < (((s_0.length) : Nat) : Int)) → (I64 (k_16 + (4 : Int))))) (ck ((((k_23 < (((s_0.length) : Nat) : Int)) ∧ (k_23 < (k_16 + (4 : Int)))) → (0 ≤ k_23 ∧ k_23 < (((s_0.length) : Nat) : Int)))) (ck ((((k_23 < (((s_0.length) : Nat) : Int)) ∧ (k_23 < (k_16 + (4 : Int)))) → (((dH (s_0.getD (k_23.toNat) (0 : Nat))).isSome = true)))) (if ((k_23 < (((s_0.length) : Nat) : Int)) ∧ (k_23 < (k_16 + (4 : Int)))) ∧ (((dH (s_0.getD (k_23.toNat) (0 : Nat))).getD false) = true) then ck (I64 (v_24 * (10 : Int))) (ck (0 ≤ k_23 ∧ k_23 < (((s_0.length) : Nat) : Int)) (ck (I64 ((v_24 * (10 : Int)) + (((gQ .u8 (s_0.getD (k_23.toNat) (0 : Nat)) (48 : Nat)) : Nat) : Int))) (ck (I64 (k_23 + (1 : Int))) (some (.inl ((k_23 + (1 : Int)), ((v_24 * (10 : Int)) + (((gQ .u8 (s_0.getD (k_23.toNat) (0 : Nat)) (48 : Nat)) : Nat) : Int)))))))) else some (.inr (k_23, v_24)))))
noncomputable def fT (s_0 : (List Nat)) (at_1 : Int) (i_8 : Int) (k_16 : Int) : Option (Int) :=
 (cE (fun d : Int × Int => dW s_0 k_16 d.1 d.2) (k_16, (0 : Int))).bind (fun e => kQ k_16 at_1 i_8 e.1 e.2)
noncomputable def fU (s_0 : (List Nat)) (at_1 : Int) (i_8 : Int) : Option (Int) :=
 ck (((i_8 < (((s_0.length) : Nat) : Int)) → (0 ≤ i_8 ∧ i_8 < (((s_0.length) : Nat) : Int)))) (if (i_8 < (((s_0.length) : Nat) : Int)) ∧ ((s_0.getD (i_8.toNat) (0 : Nat)) = (101 : Nat)) then ck (I64 (i_8 + (1 : Int))) (ck ((((i_8 + (1 : Int)) < (((s_0.length) : Nat) : Int)) → (0 ≤ (i_8 + (1 : Int)) ∧ (i_8 + (1 : Int)) < (((s_0.length) : Nat) : Int)))) (ck ((((i_8 + (1 : Int)) < (((s_0.length) : Nat) : Int)) → ¬ ((s_0.getD ((i_8 + (1 : Int)).toNat) (0 : Nat)) = (43 : Nat)) → (0 ≤ (i_8 + (1 : Int)) ∧ (i_8 + (1 : Int)) < (((s_0.length) : Nat) : Int)))) (if ((i_8 + (1 : Int)) < (((s_0.length) : Nat) : Int)) ∧ (((s_0.getD ((i_8 + (1 : Int)).toNat) (0 : Nat)) = (43 : Nat)) ∨ ((s_0.getD ((i_8 + (1 : Int)).toNat) (0 : Nat)) = (45 : Nat))) then ck (I64 ((i_8 + (1 : Int)) + (1 : Int))) (fT s_0 at_1 i_8 ((i_8 + (1 : Int)) + (1 : Int))) else fT s_0 at_1 i_8 (i_8 + (1 : Int))))) else ck (I64 (i_8 - at_1)) (some (i_8 - at_1)))
noncomputable def oM (s_0 : (List Nat)) (i_29 : Int) : Option ((Int) ⊕ ((Int))) :=
 ck (((i_29 < (((s_0.length) : Nat) : Int)) → (0 ≤ i_29 ∧ i_29 < (((s_0.length) : Nat) : Int)))) (ck (((i_29 < (((s_0.length) : Nat) : Int)) → (((dH (s_0.getD (i_29.toNat) (0 : Nat))).isSome = true)))) (if (i_29 < (((s_0.length) : Nat) : Int)) ∧ (((dH (s_0.getD (i_29.toNat) (0 : Nat))).getD false) = true) then ck (I64 (i_29 + (1 : Int))) (some (.inl (i_29 + (1 : Int)))) else some (.inr i_29)))
noncomputable def kR (at_1 : Int) (s_0 : (List Nat)) (i_5 : Int) : Option (Int) :=
 if i_5 = at_1 then some (0 : Int) else ck (I64 (i_5 + (1 : Int))) (ck ((((i_5 + (1 : Int)) < (((s_0.length) : Nat) : Int)) → (0 ≤ i_5 ∧ i_5 < (((s_0.length) : Nat) : Int)))) (ck (((((i_5 + (1 : Int)) < (((s_0.length) : Nat) : Int)) ∧ ((s_0.getD (i_5.toNat) (0 : Nat)) = (46 : Nat))) → (I64 (i_5 + (1 : Int))))) (ck (((((i_5 + (1 : Int)) < (((s_0.length) : Nat) : Int)) ∧ ((s_0.getD (i_5.toNat) (0 : Nat)) = (46 : Nat))) → (0 ≤ (i_5 + (1 : Int)) ∧ (i_5 + (1 : Int)) < (((s_0.length) : Nat) : Int)))) (ck (((((i_5 + (1 : Int)) < (((s_0.length) : Nat) : Int)) ∧ ((s_0.getD (i_5.toNat) (0 : Nat)) = (46 : Nat))) → (((dH (s_0.getD ((i_5 + (1 : Int)).toNat) (0 : Nat))).isSome = true)))) (if (((i_5 + (1 : Int)) < (((s_0.length) : Nat) : Int)) ∧ ((s_0.getD (i_5.toNat) (0 : Nat)) = (46 : Nat))) ∧ (((dH (s_0.getD ((i_5 + (1 : Int)).toNat) (0 : Nat))).getD false) = true) then ck (I64 (i_5 + (1 : Int))) ((cE (fun d : Int => oM s_0 d) (i_5 + (1 : Int))).bind (fun e => fU s_0 at_1 e)) else fU s_0 at_1 i_5)))))
noncomputable def oN (s_0 : (List Nat)) (i_32 : Int) : Option ((Int) ⊕ ((Int))) :=
 ck (((i_32 < (((s_0.length) : Nat) : Int)) → (0 ≤ i_32 ∧ i_32 < (((s_0.length) : Nat) : Int)))) (ck (((i_32 < (((s_0.length) : Nat) : Int)) → (((dH (s_0.getD (i_32.toNat) (0 : Nat))).isSome = true)))) (if (i_32 < (((s_0.length) : Nat) : Int)) ∧ (((dH (s_0.getD (i_32.toNat) (0 : Nat))).getD false) = true) then ck (I64 (i_32 + (1 : Int))) (some (.inl (i_32 + (1 : Int)))) else some (.inr i_32)))
noncomputable def jU (s_0 : (List Nat)) (at_1 : Int) : Option Int :=
 (cE (fun d : Int => oN s_0 d) at_1).bind (fun e => kR at_1 s_0 e)
def aBG : PlR := ⟨[(0, .A [0, 1]), (1, .A [0, 1, 5]), (2, .A [0, 1, 5, 19]), (3, .A [0, 1, 5]), (4, .A [0, 1, 5, 24]), (5, .A [4]), (6, .A [0, 1, 5, 42]), (7, .A [0, 1, 5]), (8, .A [0, 1, 5, 54]), (9, .A [0, 1, 5]), (10, .A [0, 1, 5, 6]), (11, .A [0, 1, 5, 6, 67]), (12, .A [0, 1, 5, 6]), (13, .A [0, 1, 5, 6, 85]), (14, .A [0, 1, 5, 6]), (15, .A [0, 1, 5, 6, 7]), (16, .A [0, 1, 5, 6, 7, 8]), (17, .A [0, 1, 5, 6, 7, 8, 104]), (18, .A [0, 1, 5, 6, 7, 8]), (19, .A [0, 1, 5, 6, 7, 8]), (20, .A [1, 5, 6, 127]), (21, .A [1, 5]), (22, .A [4])], [(5, 7), (9, 13), (16, 18), (20, 23)]⟩
def aCM : Ty := .pair .str (.pair (.i .i64) .unit)
noncomputable def qU : aK := mSpec aCM (.one (.i .i64)) (fun x => jU x.1 x.2.1)
noncomputable def aCN : List (FuncId × aK) := [(130, uU)]
theorem aKu : bL Tryz.prog GL aCN := .cons aMe (by kernel_rfl) (.nil)
theorem aD0 : gam aCN 130 = some uU := rfl
attribute [go_sem] aCM aBG aD0
set_option maxHeartbeats 4000000 in
theorem aIa : FOK Tryz.prog GL 67 qU := by
 refine bK (bC aKu) mix Tryz.func67 rfl (by kernel_rfl) (by decide) aBG fun w0 S x Θ hw h hF => ?_
 obtain ⟨(s_0 : (List Nat)), (at_1 : Int), u⟩ := x
 simp only [bR, go_sem]
 replace h : sat (jU s_0 at_1) _ := h
 unfold jU at h
 refine bY hF (D := Int) (fun d => sat (kR at_1 s_0 d) Θ) [0, 1] (fun d => [(5, .val (.i .i64) d)]) (fun d => []) ?_ ?_
 ·simp only [go_sem]
  refine bQ hF (D := Int) [0, 1] (fun d => [(5, .val (.i .i64) d)]) (fun d => []) h rfl (by simp only [go_sem]) ?_
  rintro i_32 A2 T2 hA2 hE2 h
  simp only [go_sem]
  replace h : sat (oN s_0 i_32) _ := h
  unfold oN at h
  obtain ⟨g0, h⟩ := aD h
  obtain ⟨g1, h⟩ := aD h
  repeat (refine ⟨by omega, ?_⟩)
  refine ⟨fun hc => ?_, fun hc => ?_⟩
  ·replace h := eC hc h
   obtain ⟨g0, h⟩ := aD h
   repeat (refine ⟨by omega, ?_⟩)
   replace h := hA2 _ (aB h)
   exact aO _ h rfl (by simp only [go_sem])
  ·replace h := eE hc h
   replace h := hE2 _ (aB h)
   try dsimp only at h
   exact aO (i_32) h rfl (by simp only [go_sem])
 ·rintro i_5 h
  simp only [go_sem]
  replace h : sat (kR at_1 s_0 i_5) _ := h
  unfold kR at h
  refine cJ h (fun hc h => ?_) fun hc h => ?_
  ·exact aJ hF [.tmp 4] rfl rfl rfl (aB h) (by simp only [aW, go_sem])
  ·refine bY hF (D := Int) (fun d => sat (fU s_0 at_1 d) Θ) [0, 1] (fun d => [(5, .val (.i .i64) d)]) (fun d => []) ?_ ?_
   ·simp only [go_sem]
    obtain ⟨g0, h⟩ := aD h
    obtain ⟨g1, h⟩ := aD h
    obtain ⟨g2, h⟩ := aD h
    obtain ⟨g3, h⟩ := aD h
    obtain ⟨g4, h⟩ := aD h
    repeat (refine ⟨by omega, ?_⟩)
    refine ⟨fun hc => ?_, fun hc => ?_⟩
    ·replace h := eC hc h
     obtain ⟨g0, h⟩ := aD h
     repeat (refine ⟨by omega, ?_⟩)
     refine bQ hF (D := Int) [0, 1] (fun d => [(5, .val (.i .i64) d)]) (fun d => []) h rfl (by simp only [go_sem]) ?_
     rintro i_29 A8 T8 hA8 hE8 h
     simp only [go_sem]
     replace h : sat (oM s_0 i_29) _ := h
     unfold oM at h
     obtain ⟨g0, h⟩ := aD h
     obtain ⟨g1, h⟩ := aD h
     repeat (refine ⟨by omega, ?_⟩)
     refine ⟨fun hc => ?_, fun hc => ?_⟩
     ·replace h := eC hc h
      obtain ⟨g0, h⟩ := aD h
      repeat (refine ⟨by omega, ?_⟩)
      replace h := hA8 _ (aB h)
      exact aO _ h rfl (by simp only [go_sem])
     ·replace h := eE hc h
      replace h := hE8 _ (aB h)
      try dsimp only at h
      exact aO (i_29) h rfl (by simp only [go_sem])
    ·replace h := eE hc h
     exact aO (i_5) h rfl (by simp only [go_sem])
   ·rintro i_8 h
    simp only [go_sem]
    replace h : sat (fU s_0 at_1 i_8) _ := h
    unfold fU at h
    obtain ⟨g0, h⟩ := aD h
    repeat (refine ⟨by omega, ?_⟩)
    refine ⟨fun hc => ?_, fun hc => ?_⟩
    ·replace h := eC hc h
     obtain ⟨g0, h⟩ := aD h
     repeat (refine ⟨by omega, ?_⟩)
     refine bY hF (D := Int) (fun d => sat (fT s_0 at_1 i_8 d) Θ) [0, 1, 5] (fun d => [(6, .val (.i .i64) d)]) (fun d => []) ?_ ?_
     ·simp only [go_sem]
      obtain ⟨g0, h⟩ := aD h
      obtain ⟨g1, h⟩ := aD h
      repeat (refine ⟨by omega, ?_⟩)
      refine ⟨fun hc => ?_, fun hc => ?_⟩
      ·replace h := eC hc h
       obtain ⟨g0, h⟩ := aD h
       repeat (refine ⟨by omega, ?_⟩)
       exact aO (((i_8 + (1 : Int)) + (1 : Int))) h rfl (by simp only [go_sem])
      ·replace h := eE hc h
       exact aO ((i_8 + (1 : Int))) h rfl (by simp only [go_sem])
     ·rintro k_16 h
      simp only [go_sem]
      replace h : sat (fT s_0 at_1 i_8 k_16) _ := h
      unfold fT at h
      refine bY hF (D := Int × Int) (fun d => sat (kQ k_16 at_1 i_8 d.1 d.2) Θ) [1, 5, 7] (fun d => [(6, .val (.i .i64) d.1), (8, .val (.i .i64) d.2)]) (fun d => []) ?_ ?_
      ·simp only [go_sem]
       refine bQ hF (D := Int × Int) [0, 1, 5, 7] (fun d => [(6, .val (.i .i64) d.1), (8, .val (.i .i64) d.2)]) (fun d => []) h rfl (by simp only [go_sem]) ?_
       rintro ⟨k_23, v_24⟩ A17 T17 hA17 hE17 h
       simp only [go_sem]
       replace h : sat (dW s_0 k_16 k_23 v_24) _ := h
       unfold dW at h
       obtain ⟨g0, h⟩ := aD h
       obtain ⟨g1, h⟩ := aD h
       obtain ⟨g2, h⟩ := aD h
       repeat (refine ⟨by omega, ?_⟩)
       refine ⟨fun hc => ?_, fun hc => ?_⟩
       ·replace h := eC hc h
        obtain ⟨g0, h⟩ := aD h
        obtain ⟨g1, h⟩ := aD h
        obtain ⟨g2, h⟩ := aD h
        repeat (refine ⟨by omega, ?_⟩)
        obtain ⟨g0, h⟩ := aD h
        repeat (refine ⟨by omega, ?_⟩)
        replace h := hA17 _ (aB h)
        exact aO _ h rfl (by simp only [go_sem])
       ·replace h := eE hc h
        replace h := hE17 _ (aB h)
        try dsimp only at h
        exact aO ((k_23, v_24)) h rfl (by simp only [go_sem])
      ·rintro ⟨k_21, v_22⟩ h
       simp only [go_sem]
       replace h : sat (kQ k_16 at_1 i_8 k_21 v_22) _ := h
       unfold kQ at h
       obtain ⟨g0, h⟩ := aD h
       repeat (refine ⟨by omega, ?_⟩)
       refine ⟨fun hc => ?_, fun hc => ?_⟩
       ·replace h := eC hc h
        obtain ⟨g0, h⟩ := aD h
        repeat (refine ⟨by omega, ?_⟩)
        exact aJ hF [.tmp 4] rfl rfl rfl (aB h) (by simp only [aW, go_sem])
       ·replace h := eE hc h
        obtain ⟨g0, h⟩ := aD h
        repeat (refine ⟨by omega, ?_⟩)
        exact aJ hF [.tmp 4] rfl rfl rfl (aB h) (by simp only [aW, go_sem])
    ·replace h := eE hc h
     obtain ⟨g0, h⟩ := aD h
     repeat (refine ⟨by omega, ?_⟩)
     exact aJ hF [.tmp 4] rfl rfl rfl (aB h) (by simp only [aW, go_sem])
attribute [go_sem] qU
noncomputable def gZ (s_0 : (List Nat)) : Option Bool :=
 ck ((((¬ (s_0 = (aS ⟨#[]⟩))) ∧ ((((s_0.length) : Nat) : Int) ≤ (60 : Int))) → (((jU s_0 (0 : Int)).isSome = true)))) (some (((!(decide (s_0 = (aS ⟨#[]⟩)))) && (decide ((((s_0.length) : Nat) : Int) ≤ (60 : Int)))) && (decide (((jU s_0 (0 : Int)).getD (0 : Int)) = (((s_0.length) : Nat) : Int)))))
def aEZ : PlR := ⟨[(0, .A [0]), (1, .A [2])], []⟩
def aG5 : Ty := .pair .str .unit
noncomputable def kS : aK := mSpec aG5 (.one .bool) (fun x => gZ x.1)
noncomputable def aG6 : List (FuncId × aK) := [(67, qU)]
theorem aQo : bL Tryz.prog GL aG6 := .cons aIa (by kernel_rfl) (.nil)
theorem aKv : gam aG6 67 = some qU := rfl
attribute [go_sem] aG5 aEZ aKv
set_option maxHeartbeats 4000000 in
theorem aBp : FOK Tryz.prog GL 24 kS := by
 refine bK (bC aQo) mix Tryz.func24 rfl (by kernel_rfl) (by decide) aEZ fun w0 S x Θ hw h hF => ?_
 obtain ⟨(s_0 : (List Nat)), u⟩ := x
 simp only [bR, go_sem]
 replace h : sat (gZ s_0) _ := h
 unfold gZ at h
 refine aF h fun g0 h => ?_
 exact aJ hF [.tmp 2] rfl rfl rfl (aB h) (by simp only [aW, go_sem])
attribute [go_sem] kS
noncomputable def jV (a_0 : (List Nat)) (n_4 : Int) : Option ((Int) ⊕ ((Int))) :=
 ck ((((0 : Int) < n_4) → (I64 (n_4 - (1 : Int))))) (ck ((((0 : Int) < n_4) → (0 ≤ (n_4 - (1 : Int)) ∧ (n_4 - (1 : Int)) < (((a_0.length) : Nat) : Int)))) (if ((0 : Int) < n_4) ∧ ((a_0.getD ((n_4 - (1 : Int)).toNat) (0 : Nat)) = (0 : Nat)) then ck (I64 (n_4 - (1 : Int))) (some (.inl (n_4 - (1 : Int)))) else some (.inr n_4)))
noncomputable def fX (a_0 : (List Nat)) : Option (List Nat) :=
 (cE (fun d : Int => jV a_0 d) (((a_0.length) : Nat) : Int)).bind (fun e => ck (0 ≤ e ∧ e ≤ (((a_0.length) : Nat) : Int)) (some (List.take (e.toNat) a_0)))
def aE0 : PlR := ⟨[(0, .A [0]), (1, .A [0, 3]), (2, .A [0, 3, 15]), (3, .A [0, 3]), (4, .A [2])], []⟩
def aG7 : Ty := .pair (.sl (.u .u32)) .unit
noncomputable def dC : aK := mSpec aG7 (.one (.sl (.u .u32))) (fun x => fX x.1)
noncomputable def aQp : List (FuncId × aK) := []
theorem aQq : bL Tryz.prog GL aQp := .nil
attribute [go_sem] aG7 aE0
set_option maxHeartbeats 4000000 in
theorem nH : FOK Tryz.prog GL 112 dC := by
 refine bK (bC aQq) mix Tryz.func112 rfl (by kernel_rfl) (by decide) aE0 fun w0 S x Θ hw h hF => ?_
 obtain ⟨(a_0 : (List Nat)), u⟩ := x
 simp only [bR, go_sem]
 replace h : sat (fX a_0) _ := h
 unfold fX at h
 refine bQ hF (D := Int) [0] (fun d => [(3, .val (.i .i64) d)]) (fun d => []) h rfl (by simp only [go_sem]) ?_
 rintro n_4 A2 T2 hA2 hE2 h
 simp only [go_sem]
 replace h : sat (jV a_0 n_4) _ := h
 unfold jV at h
 refine aF h fun g0 h => aF h fun g1 h => ?_
 refine ⟨fun hc => ?_, fun hc => ?_⟩
 ·replace h := eC hc h
  refine aF h fun g0 h => ?_
  replace h := hA2 _ (aB h)
  exact aO _ h rfl (by simp only [go_sem])
 ·replace h := eE hc h
  replace h := hE2 _ (aB h)
  try dsimp only at h
  refine aF h fun g0 h => ?_
  exact aJ hF [.tmp 2] rfl rfl rfl (aB h) (by simp only [aW, go_sem])
attribute [go_sem] dC
noncomputable def eT (c_106 : Nat) (k_107 : Int) (out_108 : (List Nat)) : Option ((Nat × Int × (List Nat)) ⊕ (((List Nat)))) :=
 if (0 : Nat) < c_106 then ck (0 ≤ k_107 ∧ k_107 < (((out_108.length) : Nat) : Int)) (ck (0 ≤ k_107 ∧ k_107 < (((out_108.length) : Nat) : Int)) (ck (I64 (k_107 + (1 : Int))) (some (.inl ((((c_106 + (out_108.getD (k_107.toNat) (0 : Nat))) % 4294967296) / (65536 : Nat)), (k_107 + (1 : Int)), (out_108.set (k_107.toNat) (((c_106 + (out_108.getD (k_107.toNat) (0 : Nat))) % 4294967296) &&& (65535 : Nat)))))))) else some (.inr out_108)
noncomputable def qO (i_58 : Int) (b_1 : (List Nat)) (c_104 : Nat) (out_105 : (List Nat)) : Option ((Int × (List Nat)) ⊕ (((List Nat)))) :=
 ck (I64 (i_58 + (((b_1.length) : Nat) : Int))) ((cE (fun d : Nat × Int × (List Nat) => eT d.1 d.2.1 d.2.2) (c_104, (i_58 + (((b_1.length) : Nat) : Int)), out_105)).bind (fun e => ck (I64 (i_58 + (1 : Int))) (some (.inl ((i_58 + (1 : Int)), e)))))
noncomputable def nX (i_58 : Int) (k_115 : Int) (out_116 : (List Nat)) (a_0 : (List Nat)) (b_1 : (List Nat)) (c_114 : Nat) (over_124 : Nat) : Option ((Nat × Int × (List Nat)) ⊕ ((Nat × (List Nat)))) :=
 ck (I64 (i_58 + k_115)) (ck (0 ≤ (i_58 + k_115) ∧ (i_58 + k_115) < (((out_116.length) : Nat) : Int)) (ck (I64 (k_115 + (1 : Int))) (some (.inl (((((((((iU .u32 (a_0.getD (i_58.toNat) (0 : Nat)) (b_1.getD (k_115.toNat) (0 : Nat))) + (out_116.getD ((i_58 + k_115).toNat) (0 : Nat))) % 4294967296) + c_114) % 4294967296) / (65536 : Nat)) + over_124) % 4294967296), (k_115 + (1 : Int)), (out_116.set ((i_58 + k_115).toNat) ((((((iU .u32 (a_0.getD (i_58.toNat) (0 : Nat)) (b_1.getD (k_115.toNat) (0 : Nat))) + (out_116.getD ((i_58 + k_115).toNat) (0 : Nat))) % 4294967296) + c_114) % 4294967296) &&& (65535 : Nat))))))))
noncomputable def jE (b_1 : (List Nat)) (i_58 : Int) (a_0 : (List Nat)) (c_114 : Nat) (k_115 : Int) (out_116 : (List Nat)) : Option ((Nat × Int × (List Nat)) ⊕ ((Nat × (List Nat)))) :=
 if k_115 < (((b_1.length) : Nat) : Int) then ck (0 ≤ i_58 ∧ i_58 < (((a_0.length) : Nat) : Int)) (ck (0 ≤ k_115 ∧ k_115 < (((b_1.length) : Nat) : Int)) (ck (I64 (i_58 + k_115)) (ck (0 ≤ (i_58 + k_115) ∧ (i_58 + k_115) < (((out_116.length) : Nat) : Int)) (if (((((iU .u32 (a_0.getD (i_58.toNat) (0 : Nat)) (b_1.getD (k_115.toNat) (0 : Nat))) + (out_116.getD ((i_58 + k_115).toNat) (0 : Nat))) % 4294967296) + c_114) % 4294967296) < (((iU .u32 (a_0.getD (i_58.toNat) (0 : Nat)) (b_1.getD (k_115.toNat) (0 : Nat))) + (out_116.getD ((i_58 + k_115).toNat) (0 : Nat))) % 4294967296) then nX i_58 k_115 out_116 a_0 b_1 c_114 (65536 : Nat) else nX i_58 k_115 out_116 a_0 b_1 c_114 (0 : Nat))))) else some (.inr (c_114, out_116))
noncomputable def lG (a_0 : (List Nat)) (b_1 : (List Nat)) (i_58 : Int) (out_59 : (List Nat)) : Option ((Int × (List Nat)) ⊕ (((List Nat)))) :=
 if i_58 < (((a_0.length) : Nat) : Int) then (cE (fun d : Nat × Int × (List Nat) => jE b_1 i_58 a_0 d.1 d.2.1 d.2.2) ((0 : Nat), (0 : Int), out_59)).bind (fun e => qO i_58 b_1 e.1 e.2) else some (.inr out_59)
noncomputable def iO (a_0 : (List Nat)) (b_1 : (List Nat)) : Option (List Nat) :=
 ck (I64 ((((a_0.length) : Nat) : Int) + (((b_1.length) : Nat) : Int))) (ck (0 ≤ ((((a_0.length) : Nat) : Int) + (((b_1.length) : Nat) : Int))) (ck ((4 : Int) * ((((a_0.length) : Nat) : Int) + (((b_1.length) : Nat) : Int)) ≤ 281474976710656) ((cE (fun d : Int × (List Nat) => lG a_0 b_1 d.1 d.2) ((0 : Int), (List.replicate (((((a_0.length) : Nat) : Int) + (((b_1.length) : Nat) : Int)).toNat) (0 : Nat)))).bind (fun e => (fX e).bind (fun v_128 => some v_128)))))
def aG8 : PlR := ⟨[(0, .A [0, 1]), (1, .B [0, 1, 5]), (2, .A [0, 1, 5, 6]), (3, .A [0, 1, 5, 6, 22]), (4, .A [0, 1, 5, 6]), (5, .A [0, 1, 5, 6, 7]), (6, .A [0, 1, 5, 6, 7, 8]), (7, .A [0, 1, 5, 6, 7, 8, 28]), (8, .A [0, 1, 5, 6, 7, 8]), (9, .A [0, 1, 5, 6, 7, 8, 9]), (10, .A [0, 1, 5, 6, 8, 9, 10]), (11, .A [0, 1, 5, 6, 8, 9, 10, 11]), (12, .A [0, 1, 5, 6, 8, 10, 11, 52]), (13, .A [0, 1, 5, 6, 8, 10, 11]), (14, .B [0, 1, 5, 6, 8, 10, 11]), (15, .A [0, 1, 5, 6, 7, 8]), (16, .A [0, 1, 5, 6, 7, 12]), (17, .A [0, 1, 5, 6, 7, 12, 69]), (18, .A [0, 1, 5, 6, 7, 12]), (19, .A [0, 1, 5, 6, 7, 12]), (20, .B [0, 1, 5, 6, 7, 12]), (21, .A [0, 1, 5, 6, 7, 12]), (22, .B [4])], [(9, 19), (15, 17)]⟩
def aKw : Ty := .pair (.sl (.u .u32)) (.pair (.sl (.u .u32)) .unit)
noncomputable def jF : aK := mSpec aKw (.one (.sl (.u .u32))) (fun x => iO x.1 x.2.1)
noncomputable def aKx : List (FuncId × aK) := [(112, dC)]
theorem aRF : bL Tryz.prog GL aKx := .cons nH (by kernel_rfl) (.nil)
theorem aKy : gam aKx 112 = some dC := rfl
attribute [go_sem] aKw aG8 aKy
set_option maxHeartbeats 4000000 in
theorem zN : FOK Tryz.prog GL 57 jF := by
 refine bK (bC aRF) mix Tryz.func57 rfl (by kernel_rfl) (by decide) aG8 fun w0 S x Θ hw h hF => ?_
 obtain ⟨(a_0 : (List Nat)), (b_1 : (List Nat)), u⟩ := x
 simp only [bR, go_sem]
 replace h : sat (iO a_0 b_1) _ := h
 unfold iO at h
 obtain ⟨g0, h⟩ := aD h
 repeat (refine ⟨by omega, ?_⟩)
 obtain ⟨g0, h⟩ := aD h
 obtain ⟨g1, h⟩ := aD h
 repeat (refine ⟨by omega, ?_⟩)
 refine bQ hF (D := Int × (List Nat)) [0, 1] (fun d => [(5, .own 0), (6, .val (.i .i64) d.1)]) (fun d => [.inr (.row 96 (.u .u32) d.2)]) h rfl (by simp only [go_sem]) ?_
 rintro ⟨i_58, out_59⟩ A3 T3 hA3 hE3 h
 simp only [go_sem]
 replace h : sat (lG a_0 b_1 i_58 out_59) _ := h
 unfold lG at h
 refine dE h (fun hc h => ?_) fun hc h => ?_
 ·refine bY hF (D := Nat × (List Nat)) (fun d => sat (qO i_58 b_1 d.1 d.2) T3) [0, 1, 6] (fun d => [(5, .own 0), (7, .val (.u .u32) d.1)]) (fun d => [.inr (.row 96 (.u .u32) d.2)]) ?_ ?_
  ·simp only [go_sem]
   refine bQ hF (D := Nat × Int × (List Nat)) [0, 1, 6] (fun d => [(5, .own 0), (7, .val (.u .u32) d.1), (8, .val (.i .i64) d.2.1)]) (fun d => [.inr (.row 96 (.u .u32) d.2.2)]) h rfl (by simp only [go_sem]) ?_
   rintro ⟨c_114, k_115, out_116⟩ A7 T7 hA7 hE7 h
   simp only [go_sem]
   replace h : sat (jE b_1 i_58 a_0 c_114 k_115 out_116) _ := h
   unfold jE at h
   refine dE h (fun hc h => ?_) fun hc h => ?_
   ·obtain ⟨g0, h⟩ := aD h
    obtain ⟨g1, h⟩ := aD h
    obtain ⟨g2, h⟩ := aD h
    obtain ⟨g3, h⟩ := aD h
    repeat (refine ⟨by omega, ?_⟩)
    refine bY hF (D := Nat) (fun d => sat (nX i_58 k_115 out_116 a_0 b_1 c_114 d) T7) [0, 1, 6, 8, 10] (fun d => [(5, .own 0), (11, .val (.u .u32) d)]) (fun d => [.inr (.row 96 (.u .u32) out_116)]) ?_ ?_
    ·simp only [go_sem]
     refine cJ h (fun hc h => ?_) fun hc h => ?_
     ·exact aO ((65536 : Nat)) h rfl (by simp only [go_sem])
     ·exact aO ((0 : Nat)) h rfl (by simp only [go_sem])
    ·rintro over_124 h
     simp only [go_sem]
     replace h : sat (nX i_58 k_115 out_116 a_0 b_1 c_114 over_124) _ := h
     unfold nX at h
     obtain ⟨g0, h⟩ := aD h
     repeat (refine ⟨by omega, ?_⟩)
     obtain ⟨g0, h⟩ := aD h
     repeat (refine ⟨by omega, ?_⟩)
     obtain ⟨g0, h⟩ := aD h
     repeat (refine ⟨by omega, ?_⟩)
     replace h := hA7 _ (aB h)
     exact aO _ h rfl (by simp only [go_sem])
   ·replace h := hE7 _ (aB h)
    try dsimp only at h
    exact aO ((c_114, out_116)) h rfl (by simp only [go_sem])
  ·rintro ⟨c_104, out_105⟩ h
   simp only [go_sem]
   replace h : sat (qO i_58 b_1 c_104 out_105) _ := h
   unfold qO at h
   obtain ⟨g0, h⟩ := aD h
   repeat (refine ⟨by omega, ?_⟩)
   refine bQ hF (D := Nat × Int × (List Nat)) [0, 1, 6] (fun d => [(5, .own 0), (7, .val (.u .u32) d.1), (12, .val (.i .i64) d.2.1)]) (fun d => [.inr (.row 96 (.u .u32) d.2.2)]) h rfl (by simp only [go_sem]) ?_
   rintro ⟨c_106, k_107, out_108⟩ A17 T17 hA17 hE17 h
   simp only [go_sem]
   replace h : sat (eT c_106 k_107 out_108) _ := h
   unfold eT at h
   refine cJ h (fun hc h => ?_) fun hc h => ?_
   ·obtain ⟨g0, h⟩ := aD h
    repeat (refine ⟨by omega, ?_⟩)
    obtain ⟨g0, h⟩ := aD h
    repeat (refine ⟨by omega, ?_⟩)
    obtain ⟨g0, h⟩ := aD h
    repeat (refine ⟨by omega, ?_⟩)
    replace h := hA17 _ (aB h)
    exact aO _ h rfl (by simp only [go_sem])
   ·replace h := hE17 _ (aB h)
    try dsimp only at h
    obtain ⟨g0, h⟩ := aD h
    repeat (refine ⟨by omega, ?_⟩)
    replace h := hA3 _ (aB h)
    exact aO _ h rfl (by simp only [go_sem])
 ·replace h := hE3 _ (aB h)
  try dsimp only at h
  obtain ⟨v_126, hv, h⟩ := bB h
  try simp only [hv, go_sem]
  exact aJ hF [.tmp 4] rfl rfl rfl (aB h) (by simp only [aW, go_sem])
attribute [go_sem] jF
noncomputable def hO (i_21 : Int) (a_0 : (List Nat)) (k_35 : Int) (out_36 : (List Nat)) : Option ((Int × (List Nat)) ⊕ (((List Nat)))) :=
 if k_35 < (4 : Int) then ck (0 ≤ i_21 ∧ i_21 < (((a_0.length) : Nat) : Int)) (ck (I64 ((16 : Int) * k_35)) (ck (((out_36.length) + (1 : Nat)) * 4 ≤ 140737488355328) (ck (I64 (k_35 + (1 : Int))) (some (.inl ((k_35 + (1 : Int)), (out_36 ++ ([((((a_0.getD (i_21.toNat) (0 : Nat)) / (2 ^ ((((16 : Int) * k_35) % (18446744073709551616 : Int)).toNat))) % 4294967296) &&& (65535 : Nat))] : List Nat)))))))) else some (.inr out_36)
noncomputable def jW (a_0 : (List Nat)) (i_21 : Int) (out_22 : (List Nat)) : Option ((Int × (List Nat)) ⊕ (((List Nat)))) :=
 if i_21 < (((a_0.length) : Nat) : Int) then (cE (fun d : Int × (List Nat) => hO i_21 a_0 d.1 d.2) ((0 : Int), out_22)).bind (fun e => ck (I64 (i_21 + (1 : Int))) (some (.inl ((i_21 + (1 : Int)), e)))) else some (.inr out_22)
noncomputable def rR (a_0 : (List Nat)) : Option (List Nat) :=
 (cE (fun d : Int × (List Nat) => jW a_0 d.1 d.2) ((0 : Int), ([] : List Nat))).bind (fun e => (fX e).bind (fun v_43 => some v_43))
def aE1 : PlR := ⟨[(0, .A [0]), (1, .A [0, 3]), (2, .A [0, 3, 4]), (3, .A [0, 3, 4, 9]), (4, .A [0, 3, 4]), (5, .A [0, 3, 4, 5]), (6, .A [0, 3, 4, 5, 13]), (7, .A [0, 3, 4, 5]), (8, .B [0, 3, 4, 5]), (9, .B [2])], []⟩
def aG9 : Ty := .pair (.sl (.u .u64)) .unit
noncomputable def wZ : aK := mSpec aG9 (.one (.sl (.u .u32))) (fun x => rR x.1)
noncomputable def aHa : List (FuncId × aK) := [(112, dC)]
theorem aQr : bL Tryz.prog GL aHa := .cons nH (by kernel_rfl) (.nil)
theorem aIb : gam aHa 112 = some dC := rfl
attribute [go_sem] aG9 aE1 aIb
set_option maxHeartbeats 4000000 in
theorem aOC : FOK Tryz.prog GL 75 wZ := by
 refine bK (bC aQr) mix Tryz.func75 rfl (by kernel_rfl) (by decide) aE1 fun w0 S x Θ hw h hF => ?_
 obtain ⟨(a_0 : (List Nat)), u⟩ := x
 simp only [bR, go_sem]
 replace h : sat (rR a_0) _ := h
 unfold rR at h
 refine tU 3 96 (.u .u32) rfl ?_
 simp only [go_sem]
 refine bQ hF (D := Int × (List Nat)) [0] (fun d => [(3, .own 0), (4, .val (.i .i64) d.1)]) (fun d => [.inr (.row 96 (.u .u32) d.2)]) h rfl (by simp only [go_sem]) ?_
 rintro ⟨i_21, out_22⟩ A3 T3 hA3 hE3 h
 simp only [go_sem]
 replace h : sat (jW a_0 i_21 out_22) _ := h
 unfold jW at h
 refine dE h (fun hc h => ?_) fun hc h => ?_
 ·refine bQ hF (D := Int × (List Nat)) [0, 4] (fun d => [(3, .own 0), (5, .val (.i .i64) d.1)]) (fun d => [.inr (.row 96 (.u .u32) d.2)]) h rfl (by simp only [go_sem]) ?_
  rintro ⟨k_35, out_36⟩ A6 T6 hA6 hE6 h
  simp only [go_sem]
  replace h : sat (hO i_21 a_0 k_35 out_36) _ := h
  unfold hO at h
  refine dE h (fun hc h => ?_) fun hc h => ?_
  ·obtain ⟨g0, h⟩ := aD h
   repeat (refine ⟨by omega, ?_⟩)
   obtain ⟨g0, h⟩ := aD h
   repeat (refine ⟨by omega, ?_⟩)
   obtain ⟨g0, h⟩ := aD h
   repeat (refine ⟨by omega, ?_⟩)
   obtain ⟨g0, h⟩ := aD h
   repeat (refine ⟨by omega, ?_⟩)
   replace h := hA6 _ (aB h)
   refine qD [1] rfl rfl ?_
   simp only [go_sem]
   exact aO _ h rfl (by simp only [go_sem])
  ·replace h := hE6 _ (aB h)
   try dsimp only at h
   obtain ⟨g0, h⟩ := aD h
   repeat (refine ⟨by omega, ?_⟩)
   replace h := hA3 _ (aB h)
   exact aO _ h rfl (by simp only [go_sem])
 ·replace h := hE3 _ (aB h)
  try dsimp only at h
  obtain ⟨v_41, hv, h⟩ := bB h
  try simp only [hv, go_sem]
  exact aJ hF [.tmp 2] rfl rfl rfl (aB h) (by simp only [aW, go_sem])
attribute [go_sem] wZ
noncomputable def pU (n_0 : Nat) : Option (List Nat) :=
 (rR ([n_0] : List Nat)).bind (fun v_5 => some v_5)
def aDw : PlR := ⟨[(0, .A [0]), (1, .A [2])], []⟩
def aE2 : Ty := .pair (.u .u64) .unit
noncomputable def uW : aK := mSpec aE2 (.one (.sl (.u .u32))) (fun x => pU x.1)
noncomputable def aE3 : List (FuncId × aK) := [(75, wZ)]
theorem aOD : bL Tryz.prog GL aE3 := .cons aOC (by kernel_rfl) (.nil)
theorem aIc : gam aE3 75 = some wZ := rfl
attribute [go_sem] aE2 aDw aIc
set_option maxHeartbeats 4000000 in
theorem aMf : FOK Tryz.prog GL 111 uW := by
 refine bK (bC aOD) mix Tryz.func111 rfl (by kernel_rfl) (by decide) aDw fun w0 S x Θ hw h hF => ?_
 obtain ⟨(n_0 : Nat), u⟩ := x
 simp only [bR, go_sem]
 replace h : sat (pU n_0) _ := h
 unfold pU at h
 obtain ⟨v_5, hv, h⟩ := bB h
 try simp only [hv, go_sem]
 exact aJ hF [.tmp 2] rfl rfl rfl (aB h) (by simp only [aW, go_sem])
attribute [go_sem] uW
noncomputable def lH (i_16 : Int) (b_1 : (List Nat)) (out_17 : (List Nat)) (c_26 : Nat) : Option ((Nat × Int × (List Nat)) ⊕ (((List Nat)))) :=
 if i_16 < (((b_1.length) : Nat) : Int) then ck (0 ≤ i_16 ∧ i_16 < (((b_1.length) : Nat) : Int)) (ck (((out_17.length) + (1 : Nat)) * 4 ≤ 140737488355328) (ck (I64 (i_16 + (1 : Int))) (some (.inl ((((c_26 + (b_1.getD (i_16.toNat) (0 : Nat))) % 4294967296) / (65536 : Nat)), (i_16 + (1 : Int)), (out_17 ++ ([(((c_26 + (b_1.getD (i_16.toNat) (0 : Nat))) % 4294967296) &&& (65535 : Nat))] : List Nat))))))) else ck (((out_17.length) + (1 : Nat)) * 4 ≤ 140737488355328) (ck (I64 (i_16 + (1 : Int))) (some (.inl ((c_26 / (65536 : Nat)), (i_16 + (1 : Int)), (out_17 ++ ([(c_26 &&& (65535 : Nat))] : List Nat))))))
noncomputable def lI (a_0 : (List Nat)) (b_1 : (List Nat)) (c_15 : Nat) (i_16 : Int) (out_17 : (List Nat)) : Option ((Nat × Int × (List Nat)) ⊕ (((List Nat)))) :=
 if ((i_16 < (((a_0.length) : Nat) : Int)) ∨ (i_16 < (((b_1.length) : Nat) : Int))) ∨ ((0 : Nat) < c_15) then if i_16 < (((a_0.length) : Nat) : Int) then ck (0 ≤ i_16 ∧ i_16 < (((a_0.length) : Nat) : Int)) (lH i_16 b_1 out_17 ((c_15 + (a_0.getD (i_16.toNat) (0 : Nat))) % 4294967296)) else lH i_16 b_1 out_17 c_15 else some (.inr out_17)
noncomputable def lJ (a_0 : (List Nat)) (b_1 : (List Nat)) : Option (List Nat) :=
 (cE (fun d : Nat × Int × (List Nat) => lI a_0 b_1 d.1 d.2.1 d.2.2) ((0 : Nat), (0 : Int), ([] : List Nat))).bind (fun e => (fX e).bind (fun v_30 => some v_30))
def aHb : PlR := ⟨[(0, .A [0, 1]), (1, .A [0, 1, 5]), (2, .A [0, 1, 5, 6]), (3, .A [0, 1, 5, 6, 7]), (4, .A [0, 1, 5, 6, 7, 21]), (5, .A [0, 1, 5, 6, 7]), (6, .A [0, 1, 5, 6, 7, 27]), (7, .A [0, 1, 5, 6, 7]), (8, .A [0, 1, 5, 6, 7, 37]), (9, .A [0, 1, 5, 6, 7]), (10, .B [0, 1, 5, 6, 7]), (11, .A [0, 1, 5, 6, 7]), (12, .B [4])], [(9, 11)]⟩
def aKz : Ty := .pair (.sl (.u .u32)) (.pair (.sl (.u .u32)) .unit)
noncomputable def jG : aK := mSpec aKz (.one (.sl (.u .u32))) (fun x => lJ x.1 x.2.1)
noncomputable def aKA : List (FuncId × aK) := [(112, dC)]
theorem aRG : bL Tryz.prog GL aKA := .cons nH (by kernel_rfl) (.nil)
theorem aKB : gam aKA 112 = some dC := rfl
attribute [go_sem] aKz aHb aKB
set_option maxHeartbeats 4000000 in
theorem zO : FOK Tryz.prog GL 79 jG := by
 refine bK (bC aRG) mix Tryz.func79 rfl (by kernel_rfl) (by decide) aHb fun w0 S x Θ hw h hF => ?_
 obtain ⟨(a_0 : (List Nat)), (b_1 : (List Nat)), u⟩ := x
 simp only [bR, go_sem]
 replace h : sat (lJ a_0 b_1) _ := h
 unfold lJ at h
 refine tU 5 96 (.u .u32) rfl ?_
 simp only [go_sem]
 refine bQ hF (D := Nat × Int × (List Nat)) [0, 1] (fun d => [(5, .own 0), (6, .val (.u .u32) d.1), (7, .val (.i .i64) d.2.1)]) (fun d => [.inr (.row 96 (.u .u32) d.2.2)]) h rfl (by simp only [go_sem]) ?_
 rintro ⟨c_15, i_16, out_17⟩ A4 T4 hA4 hE4 h
 simp only [go_sem]
 replace h : sat (lI a_0 b_1 c_15 i_16 out_17) _ := h
 unfold lI at h
 refine ⟨fun hc => ?_, fun hc => ?_⟩
 ·replace h := eC hc h
  refine bY hF (D := Nat) (fun d => sat (lH i_16 b_1 out_17 d) T4) [0, 1, 7] (fun d => [(5, .own 0), (6, .val (.u .u32) d)]) (fun d => [.inr (.row 96 (.u .u32) out_17)]) ?_ ?_
  ·simp only [go_sem]
   refine dE h (fun hc h => ?_) fun hc h => ?_
   ·obtain ⟨g0, h⟩ := aD h
    repeat (refine ⟨by omega, ?_⟩)
    exact aO (((c_15 + (a_0.getD (i_16.toNat) (0 : Nat))) % 4294967296)) h rfl (by simp only [go_sem])
   ·exact aO (c_15) h rfl (by simp only [go_sem])
  ·rintro c_26 h
   simp only [go_sem]
   replace h : sat (lH i_16 b_1 out_17 c_26) _ := h
   unfold lH at h
   refine dE h (fun hc h => ?_) fun hc h => ?_
   ·obtain ⟨g0, h⟩ := aD h
    repeat (refine ⟨by omega, ?_⟩)
    obtain ⟨g0, h⟩ := aD h
    repeat (refine ⟨by omega, ?_⟩)
    refine aF h fun g0 h => ?_
    replace h := hA4 _ (aB h)
    refine qD [1] rfl rfl ?_
    simp only [go_sem]
    exact aO _ h rfl (by simp only [go_sem])
   ·obtain ⟨g0, h⟩ := aD h
    repeat (refine ⟨by omega, ?_⟩)
    refine aF h fun g0 h => ?_
    replace h := hA4 _ (aB h)
    refine qD [1] rfl rfl ?_
    simp only [go_sem]
    exact aO _ h rfl (by simp only [go_sem])
 ·replace h := eE hc h
  replace h := hE4 _ (aB h)
  try dsimp only at h
  obtain ⟨v_28, hv, h⟩ := bB h
  try simp only [hv, go_sem]
  exact aJ hF [.tmp 4] rfl rfl rfl (aB h) (by simp only [aW, go_sem])
attribute [go_sem] jG
noncomputable def nQ (m_64 : (List Nat)) (k_65 : Int) (e_66 : Int) (neg_67 : Bool) : Option (((List Nat) × (Int × Unit))) :=
 if neg_67 = true then ck (I64 (0 - e_66)) (ck (I64 (k_65 + (0 - e_66))) (some (m_64, (k_65 + (0 - e_66)), ()))) else ck (I64 (k_65 + e_66)) (some (m_64, (k_65 + e_66), ()))
noncomputable def dX (s_0 : (List Nat)) (m_101 : (List Nat)) (k_102 : Int) (e_103 : Int) (neg_104 : Bool) (point_105 : Bool) (power_106 : Bool) (i_107 : Int) : Option (((List Nat) × Int × Int × Bool × Bool × Bool × Int) ⊕ (((List Nat) × Int × Int × Bool))) :=
 if i_107 < (((s_0.length) : Nat) : Int) then ck (0 ≤ i_107 ∧ i_107 < (((s_0.length) : Nat) : Int)) (if (s_0.getD (i_107.toNat) (0 : Nat)) = (46 : Nat) then ck (I64 (i_107 + (1 : Int))) (some (.inl (m_101, k_102, e_103, neg_104, true, power_106, (i_107 + (1 : Int))))) else ck (0 ≤ i_107 ∧ i_107 < (((s_0.length) : Nat) : Int)) (if (s_0.getD (i_107.toNat) (0 : Nat)) = (101 : Nat) then ck (I64 (i_107 + (1 : Int))) (some (.inl (m_101, k_102, e_103, neg_104, point_105, true, (i_107 + (1 : Int))))) else ck (0 ≤ i_107 ∧ i_107 < (((s_0.length) : Nat) : Int)) (if (s_0.getD (i_107.toNat) (0 : Nat)) = (45 : Nat) then ck (I64 (i_107 + (1 : Int))) (some (.inl (m_101, k_102, e_103, true, point_105, power_106, (i_107 + (1 : Int))))) else ck (0 ≤ i_107 ∧ i_107 < (((s_0.length) : Nat) : Int)) (if (s_0.getD (i_107.toNat) (0 : Nat)) = (43 : Nat) then ck (I64 (i_107 + (1 : Int))) (some (.inl (m_101, k_102, e_103, neg_104, point_105, power_106, (i_107 + (1 : Int))))) else if power_106 = true then ck (I64 (e_103 * (10 : Int))) (ck (0 ≤ i_107 ∧ i_107 < (((s_0.length) : Nat) : Int)) (ck (I64 ((e_103 * (10 : Int)) + (((gQ .u8 (s_0.getD (i_107.toNat) (0 : Nat)) (48 : Nat)) : Nat) : Int))) (ck (I64 (i_107 + (1 : Int))) (some (.inl (m_101, k_102, ((e_103 * (10 : Int)) + (((gQ .u8 (s_0.getD (i_107.toNat) (0 : Nat)) (48 : Nat)) : Nat) : Int)), neg_104, point_105, power_106, (i_107 + (1 : Int)))))))) else (iO m_101 ([10] : List Nat)).bind (fun v_158 => ck (0 ≤ i_107 ∧ i_107 < (((s_0.length) : Nat) : Int)) ((pU (gQ .u8 (s_0.getD (i_107.toNat) (0 : Nat)) (48 : Nat))).bind (fun v_159 => (lJ v_158 v_159).bind (fun v_160 => if point_105 = true then ck (I64 (k_102 - (1 : Int))) (ck (I64 (i_107 + (1 : Int))) (some (.inl (v_160, (k_102 - (1 : Int)), e_103, neg_104, point_105, power_106, (i_107 + (1 : Int)))))) else ck (I64 (i_107 + (1 : Int))) (some (.inl (v_160, k_102, e_103, neg_104, point_105, power_106, (i_107 + (1 : Int))))))))))))) else some (.inr (m_101, k_102, e_103, neg_104))
noncomputable def kT (s_0 : (List Nat)) : Option ((List Nat) × (Int × Unit)) :=
 (cE (fun d : (List Nat) × Int × Int × Bool × Bool × Bool × Int => dX s_0 d.1 d.2.1 d.2.2.1 d.2.2.2.1 d.2.2.2.2.1 d.2.2.2.2.2.1 d.2.2.2.2.2.2) (([] : List Nat), (0 : Int), (0 : Int), false, false, false, (0 : Int))).bind (fun e => nQ e.1 e.2.1 e.2.2.1 e.2.2.2)
def aDx : PlR := ⟨[(0, .A [0]), (1, .A [0, 4]), (2, .A [0, 4, 5, 6, 7]), (3, .A [0, 4, 5, 6, 7, 8, 9]), (4, .A [0, 4, 5, 6, 7, 8, 9, 10]), (5, .A [0, 4, 5, 6, 7, 8, 9, 10, 14]), (6, .A [0, 4, 5, 6, 7, 8, 9, 10]), (7, .A [0, 4, 5, 6, 7, 8, 9, 10]), (8, .A [0, 4, 5, 6, 7, 8, 9, 10, 27]), (9, .A [0, 4, 5, 6, 7, 8, 9, 10]), (10, .A [0, 4, 5, 6, 7, 8, 9, 10, 30]), (11, .A [0, 4, 5, 6, 7, 8, 9, 10]), (12, .A [0, 4, 5, 6, 7, 8, 9, 10, 35]), (13, .A [0, 4, 5, 6, 7, 8, 9, 10]), (14, .A [0, 4, 5, 6, 7, 8, 9, 10, 40]), (15, .A [0, 4, 5, 6, 7, 8, 9, 10]), (16, .A [0, 4, 5, 6, 7, 8, 9, 10, 45]), (17, .A [0, 4, 5, 6, 7, 8, 9, 10, 50]), (18, .A [0, 4, 5, 6, 7, 8, 9, 10]), (19, .A [4, 5, 6, 60]), (20, .A [4, 5, 6]), (21, .A [2, 3])], [(7, 22)]⟩
def aE4 : Ty := .pair .str .unit
noncomputable def nY : aK := mSpec aE4 (.tup (.pair (.sl (.u .u32)) (.pair (.i .i64) .unit))) (fun x => kT x.1)
noncomputable def xA : List (FuncId × aK) := [(111, uW), (57, jF), (79, jG)]
theorem aOE : bL Tryz.prog GL xA := .cons aMf (by kernel_rfl) (.cons zN (by kernel_rfl) (.cons zO (by kernel_rfl) (.nil)))
theorem aF6 : gam xA 111 = some uW := rfl
theorem aId : gam xA 57 = some jF := rfl
theorem aIe : gam xA 79 = some jG := rfl
attribute [go_sem] aE4 aDx aF6 aId aIe
set_option maxHeartbeats 4000000 in
theorem aDy : FOK Tryz.prog GL 56 nY := by
 refine bK (bC aOE) mix Tryz.func56 rfl (by kernel_rfl) (by decide) aDx fun w0 S x Θ hw h hF => ?_
 obtain ⟨(s_0 : (List Nat)), u⟩ := x
 simp only [bR, go_sem]
 replace h : sat (kT s_0) _ := h
 unfold kT at h
 refine bY hF (D := (List Nat) × Int × Int × Bool) (fun d => sat (nQ d.1 d.2.1 d.2.2.1 d.2.2.2) Θ) [] (fun d => [(4, .val (.sl (.u .u32)) d.1), (5, .val (.i .i64) d.2.1), (6, .val (.i .i64) d.2.2.1), (7, .val .bool d.2.2.2)]) (fun d => []) ?_ ?_
 ·simp only [go_sem]
  refine bQ hF (D := (List Nat) × Int × Int × Bool × Bool × Bool × Int) [0] (fun d => [(4, .val (.sl (.u .u32)) d.1), (5, .val (.i .i64) d.2.1), (6, .val (.i .i64) d.2.2.1), (7, .val .bool d.2.2.2.1), (8, .val .bool d.2.2.2.2.1), (9, .val .bool d.2.2.2.2.2.1), (10, .val (.i .i64) d.2.2.2.2.2.2)]) (fun d => []) h rfl (by simp only [go_sem]) ?_
  rintro ⟨m_101, k_102, e_103, neg_104, point_105, power_106, i_107⟩ A5 T5 hA5 hE5 h
  simp only [go_sem]
  replace h : sat (dX s_0 m_101 k_102 e_103 neg_104 point_105 power_106 i_107) _ := h
  unfold dX at h
  refine dE h (fun hc h => ?_) fun hc h => ?_
  ·refine aF h fun g0 h => ?_
   refine cJ h (fun hc h => ?_) fun hc h => ?_
   ·refine aF h fun g0 h => ?_
    replace h := hA5 _ (aB h)
    exact aO _ h rfl (by simp only [go_sem])
   ·refine aF h fun g0 h => ?_
    refine cJ h (fun hc h => ?_) fun hc h => ?_
    ·refine aF h fun g0 h => ?_
     replace h := hA5 _ (aB h)
     exact aO _ h rfl (by simp only [go_sem])
    ·refine aF h fun g0 h => ?_
     refine cJ h (fun hc h => ?_) fun hc h => ?_
     ·refine aF h fun g0 h => ?_
      replace h := hA5 _ (aB h)
      exact aO _ h rfl (by simp only [go_sem])
     ·refine aF h fun g0 h => ?_
      refine cJ h (fun hc h => ?_) fun hc h => ?_
      ·refine aF h fun g0 h => ?_
       replace h := hA5 _ (aB h)
       exact aO _ h rfl (by simp only [go_sem])
      ·refine aJv h (fun hc h => ?_) fun hc h => ?_
       ·refine aF h fun g0 h => aF h fun g1 h => aF h fun g2 h => ?_
        refine aF h fun g0 h => ?_
        replace h := hA5 _ (aB h)
        exact aO _ h rfl (by simp only [go_sem])
       ·obtain ⟨v_158, hv, h⟩ := bB h
        try simp only [hv, go_sem]
        refine aF h fun g0 h => ?_
        obtain ⟨v_159, hv, h⟩ := bB h
        try simp only [hv, go_sem]
        obtain ⟨v_160, hv, h⟩ := bB h
        try simp only [hv, go_sem]
        refine aJv h (fun hc h => ?_) fun hc h => ?_
        ·refine aF h fun g0 h => ?_
         refine aF h fun g0 h => ?_
         replace h := hA5 _ (aB h)
         exact aO _ h rfl (by simp only [go_sem])
        ·refine aF h fun g0 h => ?_
         replace h := hA5 _ (aB h)
         exact aO _ h rfl (by simp only [go_sem])
  ·replace h := hE5 _ (aB h)
   try dsimp only at h
   exact aO ((m_101, k_102, e_103, neg_104)) h rfl (by simp only [go_sem])
 ·rintro ⟨m_64, k_65, e_66, neg_67⟩ h
  simp only [go_sem]
  replace h : sat (nQ m_64 k_65 e_66 neg_67) _ := h
  unfold nQ at h
  refine aJv h (fun hc h => ?_) fun hc h => ?_
  ·refine aF h fun g0 h => ?_
   refine aF h fun g0 h => ?_
   exact aJ hF [.tmp 2, .tmp 3] rfl rfl rfl (aB h) (by simp only [aW, go_sem])
  ·refine aF h fun g0 h => ?_
   exact aJ hF [.tmp 2, .tmp 3] rfl rfl rfl (aB h) (by simp only [aW, go_sem])
attribute [go_sem] nY
noncomputable def lK (n_0 : Int) (out_12 : (List Nat)) (i_13 : Int) : Option (((List Nat) × Int) ⊕ (((List Nat)))) :=
 if i_13 < n_0 then (iO out_12 ([10] : List Nat)).bind (fun v_22 => ck (I64 (i_13 + (1 : Int))) (some (.inl (v_22, (i_13 + (1 : Int)))))) else some (.inr out_12)
noncomputable def pF (n_0 : Int) : Option (List Nat) :=
 (cE (fun d : (List Nat) × Int => lK n_0 d.1 d.2) (([1] : List Nat), (0 : Int))).bind (fun e => some e)
def aHc : PlR := ⟨[], []⟩
def aKC : Ty := .pair (.i .i64) .unit
noncomputable def rT : aK := mSpec aKC (.one (.sl (.u .u32))) (fun x => pF x.1)
noncomputable def aKD : List (FuncId × aK) := [(57, jF)]
theorem aRH : bL Tryz.prog GL aKD := .cons zN (by kernel_rfl) (.nil)
theorem aMg : gam aKD 57 = some jF := rfl
attribute [go_sem] aKC aHc aMg
set_option maxHeartbeats 4000000 in
theorem aHd : FOK Tryz.prog GL 58 rT := by
 refine bK (bC aRH) mix Tryz.func58 rfl (by kernel_rfl) (by decide) aHc fun w0 S x Θ hw h hF => ?_
 obtain ⟨(n_0 : Int), u⟩ := x
 simp only [bR, go_sem]
 replace h : sat (pF n_0) _ := h
 unfold pF at h
 refine cL hF [0] ?_
 simp only [go_sem]
 refine cL hF [0, 3] ?_
 simp only [go_sem]
 refine cL hF [0, 3, 4] ?_
 simp only [go_sem]
 refine bQ hF (D := (List Nat) × Int) [0] (fun d => [(3, .val (.sl (.u .u32)) d.1), (4, .val (.i .i64) d.2)]) (fun d => []) h rfl (by simp only [go_sem]) ?_
 rintro ⟨out_12, i_13⟩ A3 T3 hA3 hE3 h
 simp only [go_sem]
 replace h : sat (lK n_0 out_12 i_13) _ := h
 unfold lK at h
 refine cL hF [0, 3, 4, 8] ?_
 simp only [go_sem]
 refine dE h (fun hc h => ?_) fun hc h => ?_
 ·refine cL hF [0, 3, 4] ?_
  simp only [go_sem]
  obtain ⟨v_22, hv, h⟩ := bB h
  try simp only [hv, go_sem]
  refine cL hF [0, 3, 4] ?_
  simp only [go_sem]
  refine aF h fun g0 h => ?_
  replace h := hA3 _ (aB h)
  exact aO _ h rfl (by simp only [go_sem])
 ·replace h := hE3 _ (aB h)
  try dsimp only at h
  refine cL hF [2] ?_
  simp only [go_sem]
  exact aJ hF [.tmp 2] rfl rfl rfl (aB h) (by simp only [aW, go_sem])
attribute [go_sem] rT
noncomputable def jX (n_6 : Int) (x_7 : Nat) : Option ((Int × Nat) ⊕ ((Int))) :=
 if (0 : Nat) < x_7 then ck (I64 (n_6 + (1 : Int))) (some (.inl ((n_6 + (1 : Int)), (x_7 / (2 : Nat))))) else some (.inr n_6)
noncomputable def kU (a_0 : (List Nat)) : Option Int :=
 if (((a_0.length) : Nat) : Int) = (0 : Int) then some (0 : Int) else ck (I64 ((((a_0.length) : Nat) : Int) - (1 : Int))) (ck (I64 ((16 : Int) * ((((a_0.length) : Nat) : Int) - (1 : Int)))) (ck (I64 ((((a_0.length) : Nat) : Int) - (1 : Int))) (ck (0 ≤ ((((a_0.length) : Nat) : Int) - (1 : Int)) ∧ ((((a_0.length) : Nat) : Int) - (1 : Int)) < (((a_0.length) : Nat) : Int)) ((cE (fun d : Int × Nat => jX d.1 d.2) (((16 : Int) * ((((a_0.length) : Nat) : Int) - (1 : Int))), (a_0.getD (((((a_0.length) : Nat) : Int) - (1 : Int)).toNat) (0 : Nat)))).bind (fun e => some e)))))
def aE5 : PlR := ⟨[(0, .A [0]), (1, .A [0, 7]), (2, .A [2]), (3, .A [0, 3]), (4, .A [3, 4]), (5, .A [3, 4, 19]), (6, .A [3, 4]), (7, .A [3, 4]), (8, .A [2])], []⟩
def aHe : Ty := .pair (.sl (.u .u32)) .unit
noncomputable def kV : aK := mSpec aHe (.one (.i .i64)) (fun x => kU x.1)
noncomputable def aQs : List (FuncId × aK) := []
theorem aQt : bL Tryz.prog GL aQs := .nil
attribute [go_sem] aHe aE5
set_option maxHeartbeats 4000000 in
theorem aBq : FOK Tryz.prog GL 115 kV := by
 refine bK (bC aQt) mix Tryz.func115 rfl (by kernel_rfl) (by decide) aE5 fun w0 S x Θ hw h hF => ?_
 obtain ⟨(a_0 : (List Nat)), u⟩ := x
 simp only [bR, go_sem]
 replace h : sat (kU a_0) _ := h
 unfold kU at h
 refine cJ h (fun hc h => ?_) fun hc h => ?_
 ·exact aJ hF [.tmp 2] rfl rfl rfl (aB h) (by simp only [aW, go_sem])
 ·refine aF h fun g0 h => aF h fun g1 h => ?_
  refine aF h fun g0 h => aF h fun g1 h => ?_
  refine bQ hF (D := Int × Nat) [] (fun d => [(3, .val (.i .i64) d.1), (4, .val (.u .u32) d.2)]) (fun d => []) h rfl (by simp only [go_sem]) ?_
  rintro ⟨n_6, x_7⟩ A5 T5 hA5 hE5 h
  simp only [go_sem]
  replace h : sat (jX n_6 x_7) _ := h
  unfold jX at h
  refine cJ h (fun hc h => ?_) fun hc h => ?_
  ·refine aF h fun g0 h => ?_
   replace h := hA5 _ (aB h)
   exact aO _ h rfl (by simp only [go_sem])
  ·replace h := hE5 _ (aB h)
   try dsimp only at h
   exact aJ hF [.tmp 2] rfl rfl rfl (aB h) (by simp only [aW, go_sem])
attribute [go_sem] kV
noncomputable def lL (a_0 : (List Nat)) (n_1 : Int) (c_9 : Nat) (i_10 : Int) (out_11 : (List Nat)) : Option ((Nat × Int × (List Nat)) ⊕ ((Nat × (List Nat)))) :=
 if i_10 < (((a_0.length) : Nat) : Int) then ck (0 ≤ i_10 ∧ i_10 < (((a_0.length) : Nat) : Int)) (ck (((out_11.length) + (1 : Nat)) * 4 ≤ 140737488355328) (ck (I64 (i_10 + (1 : Int))) (some (.inl ((((((a_0.getD (i_10.toNat) (0 : Nat)) * (2 ^ (((Int.tmod n_1 (16 : Int)) % (18446744073709551616 : Int)).toNat))) % 4294967296) ||| c_9) / (65536 : Nat)), (i_10 + (1 : Int)), (out_11 ++ ([(((((a_0.getD (i_10.toNat) (0 : Nat)) * (2 ^ (((Int.tmod n_1 (16 : Int)) % (18446744073709551616 : Int)).toNat))) % 4294967296) ||| c_9) &&& (65535 : Nat))] : List Nat))))))) else some (.inr (c_9, out_11))
noncomputable def iP (a_0 : (List Nat)) (n_1 : Int) : Option (List Nat) :=
 if (((a_0.length) : Nat) : Int) = (0 : Int) then some a_0 else ck (I64 (Int.tdiv n_1 (16 : Int))) (ck (0 ≤ (Int.tdiv n_1 (16 : Int))) (ck ((4 : Int) * (Int.tdiv n_1 (16 : Int)) ≤ 281474976710656) ((cE (fun d : Nat × Int × (List Nat) => lL a_0 n_1 d.1 d.2.1 d.2.2) ((0 : Nat), (0 : Int), (List.replicate ((Int.tdiv n_1 (16 : Int)).toNat) (0 : Nat)))).bind (fun e => ck (((e.2.length) + (1 : Nat)) * 4 ≤ 140737488355328) ((fX (e.2 ++ ([e.1] : List Nat))).bind (fun v_20 => some v_20))))))
def aHf : PlR := ⟨[(0, .A [0, 1]), (1, .A [0, 1, 11]), (2, .A [4]), (3, .B [0, 1, 5]), (4, .A [0, 1, 5, 6]), (5, .A [0, 1, 5, 6, 7]), (6, .A [0, 1, 5, 6, 7, 19]), (7, .A [0, 1, 5, 6, 7]), (8, .A [0, 1, 5, 7, 8]), (9, .B [0, 1, 5, 7, 8]), (10, .A [0, 1, 5, 6, 7]), (11, .B [4])], []⟩
def aKE : Ty := .pair (.sl (.u .u32)) (.pair (.i .i64) .unit)
noncomputable def mV : aK := mSpec aKE (.one (.sl (.u .u32))) (fun x => iP x.1 x.2.1)
noncomputable def aKF : List (FuncId × aK) := [(112, dC)]
theorem aRI : bL Tryz.prog GL aKF := .cons nH (by kernel_rfl) (.nil)
theorem aKG : gam aKF 112 = some dC := rfl
attribute [go_sem] aKE aHf aKG
set_option maxHeartbeats 4000000 in
theorem aCO : FOK Tryz.prog GL 76 mV := by
 refine bK (bC aRI) mix Tryz.func76 rfl (by kernel_rfl) (by decide) aHf fun w0 S x Θ hw h hF => ?_
 obtain ⟨(a_0 : (List Nat)), (n_1 : Int), u⟩ := x
 simp only [bR, go_sem]
 replace h : sat (iP a_0 n_1) _ := h
 unfold iP at h
 refine cJ h (fun hc h => ?_) fun hc h => ?_
 ·exact aJ hF [.tmp 4] rfl rfl rfl (aB h) (by simp only [aW, go_sem])
 ·refine aF h fun g0 h => ?_
  obtain ⟨g0, h⟩ := aD h
  obtain ⟨g1, h⟩ := aD h
  repeat (refine ⟨by omega, ?_⟩)
  refine bQ hF (D := Nat × Int × (List Nat)) [0, 1] (fun d => [(5, .own 0), (6, .val (.u .u32) d.1), (7, .val (.i .i64) d.2.1)]) (fun d => [.inr (.row 96 (.u .u32) d.2.2)]) h rfl (by simp only [go_sem]) ?_
  rintro ⟨c_9, i_10, out_11⟩ A6 T6 hA6 hE6 h
  simp only [go_sem]
  replace h : sat (lL a_0 n_1 c_9 i_10 out_11) _ := h
  unfold lL at h
  refine dE h (fun hc h => ?_) fun hc h => ?_
  ·obtain ⟨g0, h⟩ := aD h
   repeat (refine ⟨by omega, ?_⟩)
   obtain ⟨g0, h⟩ := aD h
   repeat (refine ⟨by omega, ?_⟩)
   refine aF h fun g0 h => ?_
   replace h := hA6 _ (aB h)
   refine qD [1] rfl rfl ?_
   simp only [go_sem]
   exact aO _ h rfl (by (try simp only [kH, gB, true_or, and_self, go_sem]) <;> (repeat' apply And.intro) <;> first | rfl | (left; rfl) | (right; rfl) | (left; simp only [go_sem]; done) | (right; simp only [go_sem]; done) | (simp; done) | (simp only [*]; done) | omega)
  ·replace h := hE6 _ (aB h)
   try dsimp only at h
   obtain ⟨g0, h⟩ := aD h
   repeat (refine ⟨by omega, ?_⟩)
   obtain ⟨v_18, hv, h⟩ := bB h
   try simp only [hv, go_sem]
   exact aJ hF [.tmp 4] rfl rfl rfl (aB h) (by simp only [aW, go_sem])
attribute [go_sem] mV
noncomputable def rA (a_0 : (List Nat)) (i_1 : Int) : Option Nat :=
 ck (I64 (Int.tdiv i_1 (16 : Int))) (if (((a_0.length) : Nat) : Int) ≤ (Int.tdiv i_1 (16 : Int)) then some (0 : Nat) else ck (I64 (Int.tdiv i_1 (16 : Int))) (ck (0 ≤ (Int.tdiv i_1 (16 : Int)) ∧ (Int.tdiv i_1 (16 : Int)) < (((a_0.length) : Nat) : Int)) (some (((a_0.getD ((Int.tdiv i_1 (16 : Int)).toNat) (0 : Nat)) / (2 ^ (((Int.tmod i_1 (16 : Int)) % (18446744073709551616 : Int)).toNat))) &&& (1 : Nat)))))
def aHg : PlR := ⟨[(0, .A [0, 1]), (1, .A [0, 1, 9]), (2, .A [4]), (3, .A [4])], []⟩
def aKH : Ty := .pair (.sl (.u .u32)) (.pair (.i .i64) .unit)
noncomputable def rU : aK := mSpec aKH (.one (.u .u32)) (fun x => rA x.1 x.2.1)
noncomputable def aRJ : List (FuncId × aK) := []
theorem aRK : bL Tryz.prog GL aRJ := .nil
attribute [go_sem] aKH aHg
set_option maxHeartbeats 4000000 in
theorem aHh : FOK Tryz.prog GL 128 rU := by
 refine bK (bC aRK) mix Tryz.func128 rfl (by kernel_rfl) (by decide) aHg fun w0 S x Θ hw h hF => ?_
 obtain ⟨(a_0 : (List Nat)), (i_1 : Int), u⟩ := x
 simp only [bR, go_sem]
 replace h : sat (rA a_0 i_1) _ := h
 unfold rA at h
 refine aF h fun g0 h => ?_
 refine yA h (fun hc h => ?_) fun hc h => ?_
 ·exact aJ hF [.tmp 4] rfl rfl rfl (aB h) (by simp only [aW, go_sem])
 ·refine aF h fun g0 h => aF h fun g1 h => ?_
  exact aJ hF [.tmp 4] rfl rfl rfl (aB h) (by (simp only [aW, go_sem]) <;> first | rfl | (simp; done))
attribute [go_sem] rU
noncomputable def lM (a_0 : (List Nat)) (b_1 : (List Nat)) (i_5 : Int) : Option ((Int) ⊕ ((Unit) ⊕ Int)) :=
 if (0 : Int) ≤ i_5 then ck (0 ≤ i_5 ∧ i_5 < (((a_0.length) : Nat) : Int)) (ck (0 ≤ i_5 ∧ i_5 < (((b_1.length) : Nat) : Int)) (if (a_0.getD (i_5.toNat) (0 : Nat)) < (b_1.getD (i_5.toNat) (0 : Nat)) then some (.inr (.inr (-1 : Int))) else ck (0 ≤ i_5 ∧ i_5 < (((a_0.length) : Nat) : Int)) (ck (0 ≤ i_5 ∧ i_5 < (((b_1.length) : Nat) : Int)) (if (b_1.getD (i_5.toNat) (0 : Nat)) < (a_0.getD (i_5.toNat) (0 : Nat)) then some (.inr (.inr (1 : Int))) else ck (I64 (i_5 - (1 : Int))) (some (.inl (i_5 - (1 : Int)))))))) else some (.inr (.inl ()))
noncomputable def nI (a_0 : (List Nat)) (b_1 : (List Nat)) : Option Int :=
 if ¬ ((((a_0.length) : Nat) : Int) = (((b_1.length) : Nat) : Int)) then if (((a_0.length) : Nat) : Int) < (((b_1.length) : Nat) : Int) then some (-1 : Int) else some (1 : Int) else ck (I64 ((((a_0.length) : Nat) : Int) - (1 : Int))) ((cE (fun d : Int => lM a_0 b_1 d) ((((a_0.length) : Nat) : Int) - (1 : Int))).bind (fun e => match e with | (.inl e) => some (0 : Int) | (.inr e) => some e))
def aHi : PlR := ⟨[(0, .A [0, 1]), (1, .A [0, 1, 10]), (2, .A [15]), (3, .A [4]), (4, .A [4]), (5, .A [0, 1, 5]), (6, .A [0, 1, 5, 20]), (7, .A [0, 1, 5]), (8, .A [0, 1, 5, 31]), (9, .A [4]), (10, .A [0, 1, 5, 40]), (11, .A [4]), (12, .A [4])], []⟩
def aKI : Ty := .pair (.sl (.u .u32)) (.pair (.sl (.u .u32)) .unit)
noncomputable def rV : aK := mSpec aKI (.one (.i .i64)) (fun x => nI x.1 x.2.1)
noncomputable def aRL : List (FuncId × aK) := []
theorem aRM : bL Tryz.prog GL aRL := .nil
attribute [go_sem] aKI aHi
set_option maxHeartbeats 4000000 in
theorem aHj : FOK Tryz.prog GL 78 rV := by
 refine bK (bC aRM) mix Tryz.func78 rfl (by kernel_rfl) (by decide) aHi fun w0 S x Θ hw h hF => ?_
 obtain ⟨(a_0 : (List Nat)), (b_1 : (List Nat)), u⟩ := x
 simp only [bR, go_sem]
 replace h : sat (nI a_0 b_1) _ := h
 unfold nI at h
 refine cJ h (fun hc h => ?_) fun hc h => ?_
 ·refine dE h (fun hc h => ?_) fun hc h => ?_
  ·exact aJ hF [.tmp 4] rfl rfl rfl (aB h) (by simp only [aW, go_sem])
  ·exact aJ hF [.tmp 4] rfl rfl rfl (aB h) (by simp only [aW, go_sem])
 ·refine aF h fun g0 h => ?_
  refine bQ hF (D := Int) [0, 1] (fun d => [(5, .val (.i .i64) d)]) (fun d => []) h rfl (by simp only [go_sem]) ?_
  rintro i_5 A6 T6 hA6 hE6 h
  simp only [go_sem]
  replace h : sat (lM a_0 b_1 i_5) _ := h
  unfold lM at h
  refine yA h (fun hc h => ?_) fun hc h => ?_
  ·refine aF h fun g0 h => aF h fun g1 h => ?_
   refine cJ h (fun hc h => ?_) fun hc h => ?_
   ·replace h := hE6 _ (aB h)
    try dsimp only at h
    exact aJ hF [.tmp 4] rfl rfl rfl (aB h) (by simp only [aW, go_sem])
   ·refine aF h fun g0 h => aF h fun g1 h => ?_
    refine cJ h (fun hc h => ?_) fun hc h => ?_
    ·replace h := hE6 _ (aB h)
     try dsimp only at h
     exact aJ hF [.tmp 4] rfl rfl rfl (aB h) (by simp only [aW, go_sem])
    ·refine aF h fun g0 h => ?_
     replace h := hA6 _ (aB h)
     exact aO _ h rfl (by simp only [go_sem])
  ·replace h := hE6 _ (aB h)
   try dsimp only at h
   exact aJ hF [.tmp 4] rfl rfl rfl (aB h) (by simp only [aW, go_sem])
attribute [go_sem] rV
noncomputable def lN (out_20 : (List Nat)) (i_19 : Int) (x_31 : Int) : Option ((Int × Int × (List Nat)) ⊕ (((List Nat)))) :=
 if x_31 < (0 : Int) then ck (I32 (x_31 + (65536 : Int))) (ck (((out_20.length) + (1 : Nat)) * 4 ≤ 140737488355328) (ck (I64 (i_19 + (1 : Int))) (some (.inl ((1 : Int), (i_19 + (1 : Int)), (out_20 ++ ([(((x_31 + (65536 : Int)) % (4294967296 : Int)).toNat)] : List Nat))))))) else ck (((out_20.length) + (1 : Nat)) * 4 ≤ 140737488355328) (ck (I64 (i_19 + (1 : Int))) (some (.inl ((0 : Int), (i_19 + (1 : Int)), (out_20 ++ ([((x_31 % (4294967296 : Int)).toNat)] : List Nat))))))
noncomputable def lO (a_0 : (List Nat)) (b_1 : (List Nat)) (c_18 : Int) (i_19 : Int) (out_20 : (List Nat)) : Option ((Int × Int × (List Nat)) ⊕ (((List Nat)))) :=
 if i_19 < (((a_0.length) : Nat) : Int) then ck (0 ≤ i_19 ∧ i_19 < (((a_0.length) : Nat) : Int)) (ck (I32 ((IntKind.i32.wrap (((a_0.getD (i_19.toNat) (0 : Nat)) : Nat) : Int)) - c_18)) (if i_19 < (((b_1.length) : Nat) : Int) then ck (0 ≤ i_19 ∧ i_19 < (((b_1.length) : Nat) : Int)) (ck (I32 (((IntKind.i32.wrap (((a_0.getD (i_19.toNat) (0 : Nat)) : Nat) : Int)) - c_18) - (IntKind.i32.wrap (((b_1.getD (i_19.toNat) (0 : Nat)) : Nat) : Int)))) (lN out_20 i_19 (((IntKind.i32.wrap (((a_0.getD (i_19.toNat) (0 : Nat)) : Nat) : Int)) - c_18) - (IntKind.i32.wrap (((b_1.getD (i_19.toNat) (0 : Nat)) : Nat) : Int))))) else lN out_20 i_19 ((IntKind.i32.wrap (((a_0.getD (i_19.toNat) (0 : Nat)) : Nat) : Int)) - c_18))) else some (.inr out_20)
noncomputable def rB (a_0 : (List Nat)) (b_1 : (List Nat)) : Option (List Nat) :=
 (cE (fun d : Int × Int × (List Nat) => lO a_0 b_1 d.1 d.2.1 d.2.2) ((0 : Int), (0 : Int), ([] : List Nat))).bind (fun e => (fX e).bind (fun v_35 => some v_35))
def aHk : PlR := ⟨[(0, .A [0, 1]), (1, .A [0, 1, 5]), (2, .A [0, 1, 5, 6]), (3, .A [0, 1, 5, 6, 7]), (4, .A [0, 1, 5, 6, 7, 12]), (5, .A [0, 1, 5, 6, 7]), (6, .A [0, 1, 5, 7, 8]), (7, .A [0, 1, 5, 7, 8, 25]), (8, .A [0, 1, 5, 7, 8]), (9, .A [0, 1, 5, 6, 7, 8]), (10, .A [0, 1, 5, 6, 7, 8, 34]), (11, .A [0, 1, 5, 7, 8]), (12, .A [0, 1, 5, 6, 7, 8]), (13, .B [0, 1, 5, 6, 7]), (14, .B [4])], [(10, 12)]⟩
def aKJ : Ty := .pair (.sl (.u .u32)) (.pair (.sl (.u .u32)) .unit)
noncomputable def zP : aK := mSpec aKJ (.one (.sl (.u .u32))) (fun x => rB x.1 x.2.1)
noncomputable def aKK : List (FuncId × aK) := [(112, dC)]
theorem aRN : bL Tryz.prog GL aKK := .cons nH (by kernel_rfl) (.nil)
theorem aKL : gam aKK 112 = some dC := rfl
attribute [go_sem] aKJ aHk aKL
set_option maxHeartbeats 4000000 in
theorem aQu : FOK Tryz.prog GL 129 zP := by
 refine bK (bC aRN) mix Tryz.func129 rfl (by kernel_rfl) (by decide) aHk fun w0 S x Θ hw h hF => ?_
 obtain ⟨(a_0 : (List Nat)), (b_1 : (List Nat)), u⟩ := x
 simp only [bR, go_sem]
 replace h : sat (rB a_0 b_1) _ := h
 unfold rB at h
 refine tU 5 96 (.u .u32) rfl ?_
 simp only [go_sem]
 refine bQ hF (D := Int × Int × (List Nat)) [0, 1] (fun d => [(5, .own 0), (6, .val (.i .i32) d.1), (7, .val (.i .i64) d.2.1)]) (fun d => [.inr (.row 96 (.u .u32) d.2.2)]) h rfl (by simp only [go_sem]) ?_
 rintro ⟨c_18, i_19, out_20⟩ A4 T4 hA4 hE4 h
 simp only [go_sem]
 replace h : sat (lO a_0 b_1 c_18 i_19 out_20) _ := h
 unfold lO at h
 refine dE h (fun hc h => ?_) fun hc h => ?_
 ·obtain ⟨g0, h⟩ := aD h
  obtain ⟨g1, h⟩ := aD h
  try simp only [I64, I32] at g1
  repeat (refine ⟨by first | with_reducible assumption | omega | (intros; first | assumption | omega) | (simp only [go_sem] at *; first | assumption | omega) | decide, ?_⟩)
  refine bY hF (D := Int) (fun d => sat (lN out_20 i_19 d) T4) [0, 1, 7] (fun d => [(5, .own 0), (8, .val (.i .i32) d)]) (fun d => [.inr (.row 96 (.u .u32) out_20)]) ?_ ?_
  ·simp only [go_sem]
   refine dE h (fun hc h => ?_) fun hc h => ?_
   ·obtain ⟨g0, h⟩ := aD h
    obtain ⟨g1, h⟩ := aD h
    try simp only [I64, I32] at g1
    repeat (refine ⟨by first | with_reducible assumption | omega | (intros; first | assumption | omega) | (simp only [go_sem] at *; first | assumption | omega) | decide, ?_⟩)
    exact aO ((((IntKind.i32.wrap (((a_0.getD (i_19.toNat) (0 : Nat)) : Nat) : Int)) - c_18) - (IntKind.i32.wrap (((b_1.getD (i_19.toNat) (0 : Nat)) : Nat) : Int)))) h rfl (by simp only [go_sem])
   ·exact aO (((IntKind.i32.wrap (((a_0.getD (i_19.toNat) (0 : Nat)) : Nat) : Int)) - c_18)) h rfl (by simp only [go_sem])
  ·rintro x_31 h
   simp only [go_sem]
   replace h : sat (lN out_20 i_19 x_31) _ := h
   unfold lN at h
   refine dE h (fun hc h => ?_) fun hc h => ?_
   ·obtain ⟨g0, h⟩ := aD h
    try simp only [I64, I32] at g0
    repeat (refine ⟨by first | with_reducible assumption | omega | (intros; first | assumption | omega) | (simp only [go_sem] at *; first | assumption | omega) | decide, ?_⟩)
    obtain ⟨g0, h⟩ := aD h
    repeat (refine ⟨by first | with_reducible assumption | omega | (intros; first | assumption | omega) | (simp only [go_sem] at *; first | assumption | omega) | decide, ?_⟩)
    obtain ⟨g0, h⟩ := aD h
    try simp only [I64, I32] at g0
    repeat (refine ⟨by first | with_reducible assumption | omega | (intros; first | assumption | omega) | (simp only [go_sem] at *; first | assumption | omega) | decide, ?_⟩)
    replace h := hA4 _ (aB h)
    refine qD [1] rfl rfl ?_
    simp only [go_sem]
    exact aO _ h rfl (by simp only [go_sem])
   ·obtain ⟨g0, h⟩ := aD h
    repeat (refine ⟨by first | with_reducible assumption | omega | (intros; first | assumption | omega) | (simp only [go_sem] at *; first | assumption | omega) | decide, ?_⟩)
    obtain ⟨g0, h⟩ := aD h
    try simp only [I64, I32] at g0
    repeat (refine ⟨by first | with_reducible assumption | omega | (intros; first | assumption | omega) | (simp only [go_sem] at *; first | assumption | omega) | decide, ?_⟩)
    replace h := hA4 _ (aB h)
    refine qD [1] rfl rfl ?_
    simp only [go_sem]
    exact aO _ h rfl (by simp only [go_sem])
 ·replace h := hE4 _ (aB h)
  try dsimp only at h
  obtain ⟨v_33, hv, h⟩ := bB h
  try simp only [hv, go_sem]
  exact aJ hF [.tmp 4] rfl rfl rfl (aB h) (by simp only [aW, go_sem])
attribute [go_sem] zP
noncomputable def lP (b_1 : (List Nat)) (i_53 : Int) (q_54 : (List Nat)) (r_92 : (List Nat)) : Option (((List Nat) × Int × (List Nat)) ⊕ (((List Nat) × (List Nat)))) :=
 (nI r_92 b_1).bind (fun v_96 => if (0 : Int) ≤ v_96 then (rB r_92 b_1).bind (fun v_100 => ck (I64 (Int.tdiv i_53 (16 : Int))) (ck (I64 (Int.tdiv i_53 (16 : Int))) (ck (0 ≤ (Int.tdiv i_53 (16 : Int)) ∧ (Int.tdiv i_53 (16 : Int)) < (((q_54.length) : Nat) : Int)) (ck (0 ≤ (Int.tdiv i_53 (16 : Int)) ∧ (Int.tdiv i_53 (16 : Int)) < (((q_54.length) : Nat) : Int)) (ck (I64 (i_53 - (1 : Int))) (some (.inl (v_100, (i_53 - (1 : Int)), (q_54.set ((Int.tdiv i_53 (16 : Int)).toNat) ((q_54.getD ((Int.tdiv i_53 (16 : Int)).toNat) (0 : Nat)) ||| (((1 : Nat) * (2 ^ (((Int.tmod i_53 (16 : Int)) % (18446744073709551616 : Int)).toNat))) % 4294967296))))))))))) else ck (I64 (i_53 - (1 : Int))) (some (.inl (r_92, (i_53 - (1 : Int)), q_54))))
noncomputable def lQ (a_0 : (List Nat)) (b_1 : (List Nat)) (r_52 : (List Nat)) (i_53 : Int) (q_54 : (List Nat)) : Option (((List Nat) × Int × (List Nat)) ⊕ (((List Nat) × (List Nat)))) :=
 if (0 : Int) ≤ i_53 then (iP r_52 (1 : Int)).bind (fun v_87 => (rA a_0 i_53).bind (fun v_104 => if v_104 = (1 : Nat) then (lJ v_87 ([1] : List Nat)).bind (fun v_106 => lP b_1 i_53 q_54 v_106) else lP b_1 i_53 q_54 v_87)) else some (.inr (r_52, q_54))
noncomputable def rC (a_0 : (List Nat)) (b_1 : (List Nat)) : Option ((List Nat) × ((List Nat) × Unit)) :=
 (kU a_0).bind (fun v_6 => ck (0 ≤ (((a_0.length) : Nat) : Int)) (ck ((4 : Int) * (((a_0.length) : Nat) : Int) ≤ 281474976710656) (ck (I64 (v_6 - (1 : Int))) ((cE (fun d : (List Nat) × Int × (List Nat) => lQ a_0 b_1 d.1 d.2.1 d.2.2) (([] : List Nat), (v_6 - (1 : Int)), (List.replicate (a_0.length) (0 : Nat)))).bind (fun e => (fX e.2).bind (fun v_110 => some (v_110, e.1, ())))))))
def aHl : PlR := ⟨[(0, .A [0, 1]), (1, .A [0, 1, 6]), (2, .B [0, 1, 6, 7]), (3, .A [0, 1, 6, 7, 8]), (4, .A [0, 1, 7, 8, 9]), (5, .A [0, 1, 7, 8, 9, 18]), (6, .A [0, 1, 7, 8, 9]), (7, .A [0, 1, 7, 8, 9]), (8, .A [0, 1, 7, 8, 9, 26]), (9, .A [0, 1, 7, 8, 9]), (10, .A [0, 1, 7, 8, 9, 33]), (11, .A [0, 1, 7, 8, 9]), (12, .B [0, 1, 7, 8, 9]), (13, .B [4, 5])], [(11, 13)]⟩
def aKM : Ty := .pair (.sl (.u .u32)) (.pair (.sl (.u .u32)) .unit)
noncomputable def rW : aK := mSpec aKM (.tup (.pair (.sl (.u .u32)) (.pair (.sl (.u .u32)) .unit))) (fun x => rC x.1 x.2.1)
noncomputable def pG : List (FuncId × aK) := [(112, dC), (115, kV), (128, rU), (129, zP), (76, mV), (78, rV), (79, jG)]
theorem aRO : bL Tryz.prog GL pG := .cons nH (by kernel_rfl) (.cons aBq (by kernel_rfl) (.cons aHh (by kernel_rfl) (.cons aQu (by kernel_rfl) (.cons aCO (by kernel_rfl) (.cons aHj (by kernel_rfl) (.cons zO (by kernel_rfl) (.nil)))))))
theorem aKN : gam pG 112 = some dC := rfl
theorem aKO : gam pG 115 = some kV := rfl
theorem aKP : gam pG 128 = some rU := rfl
theorem aKQ : gam pG 129 = some zP := rfl
theorem aMh : gam pG 76 = some mV := rfl
theorem aMi : gam pG 78 = some rV := rfl
theorem aMj : gam pG 79 = some jG := rfl
attribute [go_sem] aKM aHl aKN aKO aKP aKQ aMh aMi aMj
set_option maxHeartbeats 4000000 in
theorem aHm : FOK Tryz.prog GL 66 rW := by
 refine bK (bC aRO) mix Tryz.func66 rfl (by kernel_rfl) (by decide) aHl fun w0 S x Θ hw h hF => ?_
 obtain ⟨(a_0 : (List Nat)), (b_1 : (List Nat)), u⟩ := x
 simp only [bR, go_sem]
 replace h : sat (rC a_0 b_1) _ := h
 unfold rC at h
 obtain ⟨v_6, hv, h⟩ := bB h
 try simp only [hv, go_sem]
 obtain ⟨g0, h⟩ := aD h
 obtain ⟨g1, h⟩ := aD h
 repeat (refine ⟨by omega, ?_⟩)
 refine aF h fun g0 h => ?_
 refine bQ hF (D := (List Nat) × Int × (List Nat)) [0, 1] (fun d => [(7, .own 0), (8, .val (.sl (.u .u32)) d.1), (9, .val (.i .i64) d.2.1)]) (fun d => [.inr (.row 96 (.u .u32) d.2.2)]) h rfl (by simp only [go_sem]) ?_
 rintro ⟨r_52, i_53, q_54⟩ A5 T5 hA5 hE5 h
 simp only [go_sem]
 replace h : sat (lQ a_0 b_1 r_52 i_53 q_54) _ := h
 unfold lQ at h
 refine yA h (fun hc h => ?_) fun hc h => ?_
 ·obtain ⟨v_87, hv, h⟩ := bB h
  try simp only [hv, go_sem]
  refine bY hF (D := (List Nat)) (fun d => sat (lP b_1 i_53 q_54 d) T5) [0, 1, 9] (fun d => [(7, .own 0), (8, .val (.sl (.u .u32)) d)]) (fun d => [.inr (.row 96 (.u .u32) q_54)]) ?_ ?_
  ·simp only [go_sem]
   obtain ⟨v_104, hv, h⟩ := bB h
   try simp only [hv, go_sem]
   refine cJ h (fun hc h => ?_) fun hc h => ?_
   ·obtain ⟨v_106, hv, h⟩ := bB h
    try simp only [hv, go_sem]
    exact aO (v_106) h rfl (by simp only [go_sem])
   ·exact aO (v_87) h rfl (by simp only [go_sem])
  ·rintro r_92 h
   simp only [go_sem]
   replace h : sat (lP b_1 i_53 q_54 r_92) _ := h
   unfold lP at h
   obtain ⟨v_96, hv, h⟩ := bB h
   try simp only [hv, go_sem]
   refine yA h (fun hc h => ?_) fun hc h => ?_
   ·obtain ⟨v_100, hv, h⟩ := bB h
    try simp only [hv, go_sem]
    obtain ⟨g0, h⟩ := aD h
    repeat (refine ⟨by omega, ?_⟩)
    obtain ⟨g0, h⟩ := aD h
    repeat (refine ⟨by omega, ?_⟩)
    obtain ⟨g0, h⟩ := aD h
    repeat (refine ⟨by omega, ?_⟩)
    obtain ⟨g0, h⟩ := aD h
    repeat (refine ⟨by omega, ?_⟩)
    refine aF h fun g0 h => ?_
    replace h := hA5 _ (aB h)
    exact aO _ h rfl (by simp only [go_sem])
   ·refine aF h fun g0 h => ?_
    replace h := hA5 _ (aB h)
    exact aO _ h rfl (by simp only [go_sem])
 ·replace h := hE5 _ (aB h)
  try dsimp only at h
  obtain ⟨v_108, hv, h⟩ := bB h
  try simp only [hv, go_sem]
  exact aJ hF [.tmp 4, .tmp 5] rfl rfl rfl (aB h) (by simp only [aW, go_sem])
attribute [go_sem] rW
noncomputable def nZ (out_11 : (List Nat)) (i_10 : Int) (n_1 : Int) (x_17 : Nat) : Option ((Int × (List Nat)) ⊕ (((List Nat)))) :=
 ck (((out_11.length) + (1 : Nat)) * 4 ≤ 140737488355328) (ck (I64 (i_10 + (1 : Int))) (some (.inl ((i_10 + (1 : Int)), (out_11 ++ ([((x_17 / (2 ^ (((Int.tmod n_1 (16 : Int)) % (18446744073709551616 : Int)).toNat))) &&& (65535 : Nat))] : List Nat))))))
noncomputable def lR (a_0 : (List Nat)) (n_1 : Int) (i_10 : Int) (out_11 : (List Nat)) : Option ((Int × (List Nat)) ⊕ (((List Nat)))) :=
 if i_10 < (((a_0.length) : Nat) : Int) then ck (0 ≤ i_10 ∧ i_10 < (((a_0.length) : Nat) : Int)) (ck (I64 (i_10 + (1 : Int))) (if (i_10 + (1 : Int)) < (((a_0.length) : Nat) : Int) then ck (I64 (i_10 + (1 : Int))) (ck (0 ≤ (i_10 + (1 : Int)) ∧ (i_10 + (1 : Int)) < (((a_0.length) : Nat) : Int)) (nZ out_11 i_10 n_1 ((a_0.getD (i_10.toNat) (0 : Nat)) ||| (((a_0.getD ((i_10 + (1 : Int)).toNat) (0 : Nat)) * (65536 : Nat)) % 4294967296)))) else nZ out_11 i_10 n_1 (a_0.getD (i_10.toNat) (0 : Nat)))) else some (.inr out_11)
noncomputable def nJ (a_0 : (List Nat)) (n_1 : Int) : Option (List Nat) :=
 ck (I64 (Int.tdiv n_1 (16 : Int))) (if (((a_0.length) : Nat) : Int) ≤ (Int.tdiv n_1 (16 : Int)) then some ([] : List Nat) else ck (I64 (Int.tdiv n_1 (16 : Int))) ((cE (fun d : Int × (List Nat) => lR a_0 n_1 d.1 d.2) ((Int.tdiv n_1 (16 : Int)), ([] : List Nat))).bind (fun e => (fX e).bind (fun v_21 => some v_21))))
def aHn : PlR := ⟨[(0, .A [0, 1]), (1, .A [0, 1, 12]), (2, .A [4]), (3, .A [0, 1, 5]), (4, .A [0, 1, 5, 6]), (5, .A [0, 1, 5, 6, 18]), (6, .A [0, 1, 5, 6]), (7, .A [0, 1, 5, 6, 7]), (8, .A [0, 1, 5, 6, 7, 29]), (9, .A [0, 1, 5, 6, 7]), (10, .B [0, 1, 5, 6]), (11, .B [4])], [(11, 13)]⟩
def aKR : Ty := .pair (.sl (.u .u32)) (.pair (.i .i64) .unit)
noncomputable def mW : aK := mSpec aKR (.one (.sl (.u .u32))) (fun x => nJ x.1 x.2.1)
noncomputable def aKS : List (FuncId × aK) := [(112, dC)]
theorem aRP : bL Tryz.prog GL aKS := .cons nH (by kernel_rfl) (.nil)
theorem aKT : gam aKS 112 = some dC := rfl
attribute [go_sem] aKR aHn aKT
set_option maxHeartbeats 4000000 in
theorem aCP : FOK Tryz.prog GL 77 mW := by
 refine bK (bC aRP) mix Tryz.func77 rfl (by kernel_rfl) (by decide) aHn fun w0 S x Θ hw h hF => ?_
 obtain ⟨(a_0 : (List Nat)), (n_1 : Int), u⟩ := x
 simp only [bR, go_sem]
 replace h : sat (nJ a_0 n_1) _ := h
 unfold nJ at h
 refine aF h fun g0 h => ?_
 refine yA h (fun hc h => ?_) fun hc h => ?_
 ·exact aJ hF [.tmp 4] rfl rfl rfl (aB h) (by simp only [aW, go_sem])
 ·refine aF h fun g0 h => ?_
  refine tU 5 96 (.u .u32) rfl ?_
  simp only [go_sem]
  refine bQ hF (D := Int × (List Nat)) [0, 1] (fun d => [(5, .own 0), (6, .val (.i .i64) d.1)]) (fun d => [.inr (.row 96 (.u .u32) d.2)]) h rfl (by simp only [go_sem]) ?_
  rintro ⟨i_10, out_11⟩ A5 T5 hA5 hE5 h
  simp only [go_sem]
  replace h : sat (lR a_0 n_1 i_10 out_11) _ := h
  unfold lR at h
  refine dE h (fun hc h => ?_) fun hc h => ?_
  ·obtain ⟨g0, h⟩ := aD h
   repeat (refine ⟨by omega, ?_⟩)
   refine bY hF (D := Nat) (fun d => sat (nZ out_11 i_10 n_1 d) T5) [0, 1, 6] (fun d => [(5, .own 0), (7, .val (.u .u32) d)]) (fun d => [.inr (.row 96 (.u .u32) out_11)]) ?_ ?_
   ·simp only [go_sem]
    refine aF h fun g0 h => ?_
    refine dE h (fun hc h => ?_) fun hc h => ?_
    ·obtain ⟨g0, h⟩ := aD h
     obtain ⟨g1, h⟩ := aD h
     repeat (refine ⟨by omega, ?_⟩)
     exact aO (((a_0.getD (i_10.toNat) (0 : Nat)) ||| (((a_0.getD ((i_10 + (1 : Int)).toNat) (0 : Nat)) * (65536 : Nat)) % 4294967296))) h rfl (by simp only [go_sem])
    ·exact aO ((a_0.getD (i_10.toNat) (0 : Nat))) h rfl (by simp only [go_sem])
   ·rintro x_17 h
    simp only [go_sem]
    replace h : sat (nZ out_11 i_10 n_1 x_17) _ := h
    unfold nZ at h
    obtain ⟨g0, h⟩ := aD h
    repeat (refine ⟨by omega, ?_⟩)
    refine aF h fun g0 h => ?_
    replace h := hA5 _ (aB h)
    refine qD [1] rfl rfl ?_
    simp only [go_sem]
    exact aO _ h rfl (by simp only [go_sem])
  ·replace h := hE5 _ (aB h)
   try dsimp only at h
   obtain ⟨v_19, hv, h⟩ := bB h
   try simp only [hv, go_sem]
   exact aJ hF [.tmp 4] rfl rfl rfl (aB h) (by simp only [aW, go_sem])
attribute [go_sem] mW
noncomputable def oA (d_0 : (Bool × ((List Nat) × (Int × Unit)))) (v_7 : Int) (p_1 : Int) (m_14 : (List Nat)) : Option ((Bool × ((List Nat) × (Int × Unit)))) :=
 ck (I64 ((((d_0.2).2).1) + (v_7 - p_1))) (some ((d_0.1), m_14, ((((d_0.2).2).1) + (v_7 - p_1)), ()))
noncomputable def uI (d_0 : (Bool × ((List Nat) × (Int × Unit)))) (p_1 : Int) (up_2 : Bool) : Option (Bool × ((List Nat) × (Int × Unit))) :=
 (kU ((d_0.2).1)).bind (fun v_7 => ck (I64 (v_7 - p_1)) (if (v_7 - p_1) ≤ (0 : Int) then some d_0 else (nJ ((d_0.2).1) (v_7 - p_1)).bind (fun v_11 => ck ((((up_2 != (d_0.1)) = true) → (((iP v_11 (v_7 - p_1)).isSome = true)))) (ck ((((up_2 != (d_0.1)) = true) → (((nI ((iP v_11 (v_7 - p_1)).getD ([] : List Nat)) ((d_0.2).1)).isSome = true)))) (if ((up_2 != (d_0.1)) = true) ∧ (¬ (((nI ((iP v_11 (v_7 - p_1)).getD ([] : List Nat)) ((d_0.2).1)).getD (0 : Int)) = (0 : Int))) then (lJ v_11 ([1] : List Nat)).bind (fun v_16 => oA d_0 v_7 p_1 v_16) else oA d_0 v_7 p_1 v_11)))))
def aHo : PlR := ⟨[(0, .B [1, 2, 3, 6]), (1, .A [2, 3, 6, 7]), (2, .A [2, 3, 6, 7, 15]), (3, .B [6]), (4, .A [2, 3, 6, 7, 8]), (5, .A [3, 6, 7, 8, 33]), (6, .A [3, 6, 7, 8]), (7, .B [6])], [(8, 10)]⟩
def aKU : Ty := .pair (.pair .bool (.pair (.sl (.u .u32)) (.pair (.i .i64) .unit))) (.pair (.i .i64) (.pair .bool .unit))
noncomputable def zQ : aK := mSpec aKU (.one (.pair .bool (.pair (.sl (.u .u32)) (.pair (.i .i64) .unit)))) (fun x => uI x.1 x.2.1 x.2.2.1)
noncomputable def uJ : List (FuncId × aK) := [(115, kV), (76, mV), (77, mW), (78, rV), (79, jG)]
theorem aRQ : bL Tryz.prog GL uJ := .cons aBq (by kernel_rfl) (.cons aCO (by kernel_rfl) (.cons aCP (by kernel_rfl) (.cons aHj (by kernel_rfl) (.cons zO (by kernel_rfl) (.nil)))))
theorem aKV : gam uJ 115 = some kV := rfl
theorem aMk : gam uJ 76 = some mV := rfl
theorem aMl : gam uJ 77 = some mW := rfl
theorem aMm : gam uJ 78 = some rV := rfl
theorem aMn : gam uJ 79 = some jG := rfl
attribute [go_sem] aKU aHo aKV aMk aMl aMm aMn
set_option maxHeartbeats 4000000 in
theorem aQv : FOK Tryz.prog GL 116 zQ := by
 refine bK (bC aRQ) mix Tryz.func116 rfl (by kernel_rfl) (by decide) aHo fun w0 S x Θ hw h hF => ?_
 obtain ⟨(d_0 : (Bool × ((List Nat) × (Int × Unit)))), (p_1 : Int), (up_2 : Bool), u⟩ := x
 simp only [bR, go_sem]
 replace h : sat (uI d_0 p_1 up_2) _ := h
 unfold uI at h
 obtain ⟨v_7, hv, h⟩ := bB h
 try simp only [hv, go_sem]
 refine aF h fun g0 h => ?_
 refine yA h (fun hc h => ?_) fun hc h => ?_
 ·exact aJ hF [.cell 6 95] rfl rfl rfl (aB h) (by simp only [aW, go_sem])
 ·obtain ⟨v_11, hv, h⟩ := bB h
  try simp only [hv, go_sem]
  refine bY hF (D := (List Nat)) (fun d => sat (oA d_0 v_7 p_1 d) Θ) [7] (fun d => [(3, .ptr 0 []), (6, .ptr 1 []), (8, .val (.sl (.u .u32)) d)]) (fun d => [.inr (.box 3 (.val (.pair .bool (.pair (.sl (.u .u32)) (.pair (.i .i64) .unit))) d_0)), .inr (.box 3 (.val (.pair .bool (.pair (.sl (.u .u32)) (.pair (.i .i64) .unit))) (false, ([] : List Nat), (0 : Int), ())))]) ?_ ?_
  ·simp only [go_sem]
   refine aF h fun g0 h => aF h fun g1 h => ?_
   refine ⟨fun hc => ?_, fun hc => ?_⟩
   ·replace h := eC hc h
    obtain ⟨v_16, hv, h⟩ := bB h
    try simp only [hv, go_sem]
    exact aO (v_16) h rfl (by simp only [go_sem])
   ·replace h := eE hc h
    exact aO (v_11) h rfl (by simp only [go_sem])
  ·rintro m_14 h
   simp only [go_sem]
   replace h : sat (oA d_0 v_7 p_1 m_14) _ := h
   unfold oA at h
   refine aF h fun g0 h => ?_
   exact aJ hF [.cell 6 95] rfl rfl rfl (aB h) (by simp only [aW, go_sem])
attribute [go_sem] zQ
noncomputable def gM (a_0 : (Bool × ((List Nat) × (Int × Unit)))) (b_1 : (Bool × ((List Nat) × (Int × Unit)))) (p_2 : Int) (v_15 : Int) (v_16 : Int) (up_3 : Bool) (q_35 : (List Nat)) : Option ((Bool × ((List Nat) × (Int × Unit)))) :=
 ck (I64 ((((a_0.2).2).1) - (((b_1.2).2).1))) (ck (I64 (((((a_0.2).2).1) - (((b_1.2).2).1)) - (max (0 : Int) (((p_2 + (3 : Int)) + v_15) - v_16)))) (ck (I64 ((((((a_0.2).2).1) - (((b_1.2).2).1)) - (max (0 : Int) (((p_2 + (3 : Int)) + v_15) - v_16))) - (1 : Int))) ((uI (((a_0.1) != (b_1.1)), q_35, ((((((a_0.2).2).1) - (((b_1.2).2).1)) - (max (0 : Int) (((p_2 + (3 : Int)) + v_15) - v_16))) - (1 : Int)), ()) p_2 up_3).bind (fun v_37 => some v_37))))
noncomputable def dY (a_0 : (Bool × ((List Nat) × (Int × Unit)))) (b_1 : (Bool × ((List Nat) × (Int × Unit)))) (p_2 : Int) (up_3 : Bool) : Option (Bool × ((List Nat) × (Int × Unit))) :=
 if (((((a_0.2).1).length) : Nat) : Int) = (0 : Int) then some (false, ([] : List Nat), (0 : Int), ()) else ck (I64 (p_2 + (3 : Int))) ((kU ((b_1.2).1)).bind (fun v_15 => ck (I64 ((p_2 + (3 : Int)) + v_15)) ((kU ((a_0.2).1)).bind (fun v_16 => ck (I64 (((p_2 + (3 : Int)) + v_15) - v_16)) ((iP ((a_0.2).1) (max (0 : Int) (((p_2 + (3 : Int)) + v_15) - v_16))).bind (fun v_27 => (rC v_27 ((b_1.2).1)).bind (fun v_28 => (iP (v_28.1) (1 : Int)).bind (fun v_32 => if (0 : Int) < (((((v_28.2).1).length) : Nat) : Int) then (lJ v_32 ([1] : List Nat)).bind (fun v_39 => gM a_0 b_1 p_2 v_15 v_16 up_3 v_39) else gM a_0 b_1 p_2 v_15 v_16 up_3 v_32))))))))
def aCQ : PlR := ⟨[(0, .B [2, 3, 4, 5, 8]), (1, .A [2, 3, 4, 5, 8, 15]), (2, .B [8]), (3, .A [2, 3, 4, 5, 8, 9]), (4, .A [2, 3, 4, 5, 8, 9, 10, 11]), (5, .A [2, 3, 4, 5, 8, 9, 10, 11]), (6, .A [2, 3, 4, 5, 8, 9, 10, 42]), (7, .A [2, 3, 4, 5, 8, 9, 10]), (8, .B [8])], [(9, 11)]⟩
def aDz : Ty := .pair (.pair .bool (.pair (.sl (.u .u32)) (.pair (.i .i64) .unit))) (.pair (.pair .bool (.pair (.sl (.u .u32)) (.pair (.i .i64) .unit))) (.pair (.i .i64) (.pair .bool .unit)))
noncomputable def tB : aK := mSpec aDz (.one (.pair .bool (.pair (.sl (.u .u32)) (.pair (.i .i64) .unit)))) (fun x => dY x.1 x.2.1 x.2.2.1 x.2.2.2.1)
noncomputable def oB : List (FuncId × aK) := [(115, kV), (116, zQ), (66, rW), (76, mV), (79, jG)]
theorem aMo : bL Tryz.prog GL oB := .cons aBq (by kernel_rfl) (.cons aQv (by kernel_rfl) (.cons aHm (by kernel_rfl) (.cons aCO (by kernel_rfl) (.cons zO (by kernel_rfl) (.nil)))))
theorem aE6 : gam oB 115 = some kV := rfl
theorem aE7 : gam oB 116 = some zQ := rfl
theorem aF7 : gam oB 66 = some rW := rfl
theorem aF8 : gam oB 76 = some mV := rfl
theorem aF9 : gam oB 79 = some jG := rfl
attribute [go_sem] aDz aCQ aE6 aE7 aF7 aF8 aF9
set_option maxHeartbeats 4000000 in
theorem aKW : FOK Tryz.prog GL 60 tB := by
 refine bK (bC aMo) mix Tryz.func60 rfl (by kernel_rfl) (by decide) aCQ fun w0 S x Θ hw h hF => ?_
 obtain ⟨(a_0 : (Bool × ((List Nat) × (Int × Unit)))), (b_1 : (Bool × ((List Nat) × (Int × Unit)))), (p_2 : Int), (up_3 : Bool), u⟩ := x
 simp only [bR, go_sem]
 replace h : sat (dY a_0 b_1 p_2 up_3) _ := h
 unfold dY at h
 refine cJ h (fun hc h => ?_) fun hc h => ?_
 ·exact aJ hF [.cell 8 95] rfl rfl rfl (aB h) (by simp only [aW, go_sem])
 ·refine aF h fun g0 h => ?_
  obtain ⟨v_15, hv, h⟩ := bB h
  try simp only [hv, go_sem]
  refine aF h fun g0 h => ?_
  obtain ⟨v_16, hv, h⟩ := bB h
  try simp only [hv, go_sem]
  refine aF h fun g0 h => ?_
  obtain ⟨v_27, hv, h⟩ := bB h
  try simp only [hv, go_sem]
  obtain ⟨v_28, hv, h⟩ := bB h
  try simp only [hv, go_sem]
  obtain ⟨v_32, hv, h⟩ := bB h
  try simp only [hv, go_sem]
  refine bY hF (D := (List Nat)) (fun d => sat (gM a_0 b_1 p_2 v_15 v_16 up_3 d) Θ) [2, 3, 9] (fun d => [(4, .ptr 0 []), (5, .ptr 1 []), (8, .ptr 2 []), (10, .val (.sl (.u .u32)) d)]) (fun d => [.inr (.box 3 (.val (.pair .bool (.pair (.sl (.u .u32)) (.pair (.i .i64) .unit))) a_0)), .inr (.box 3 (.val (.pair .bool (.pair (.sl (.u .u32)) (.pair (.i .i64) .unit))) b_1)), .inr (.box 3 (.val (.pair .bool (.pair (.sl (.u .u32)) (.pair (.i .i64) .unit))) (false, ([] : List Nat), (0 : Int), ())))]) ?_ ?_
  ·simp only [go_sem]
   refine dE h (fun hc h => ?_) fun hc h => ?_
   ·obtain ⟨v_39, hv, h⟩ := bB h
    try simp only [hv, go_sem]
    exact aO (v_39) h rfl (by simp only [go_sem])
   ·exact aO (v_32) h rfl (by simp only [go_sem])
  ·rintro q_35 h
   simp only [go_sem]
   replace h : sat (gM a_0 b_1 p_2 v_15 v_16 up_3 q_35) _ := h
   unfold gM at h
   refine aF h fun g0 h => ?_
   refine aF h fun g0 h => ?_
   refine aF h fun g0 h => ?_
   obtain ⟨v_37, hv, h⟩ := bB h
   try simp only [hv, go_sem]
   exact aJ hF [.cell 8 95] rfl rfl rfl (aB h) (by simp only [aW, go_sem])
attribute [go_sem] tB
noncomputable def lS (a_0 : (List Nat)) (n_10 : Int) : Option ((Int) ⊕ ((Int))) :=
 (rA a_0 n_10).bind (fun v_20 => if v_20 = (0 : Nat) then ck (I64 (n_10 + (1 : Int))) (some (.inl (n_10 + (1 : Int)))) else some (.inr n_10))
noncomputable def rD (a_0 : (List Nat)) : Option Int :=
 (cE (fun d : Int => lS a_0 d) (0 : Int)).bind (fun e => some e)
def aHp : PlR := ⟨[(0, .A [0]), (1, .A [0, 3]), (2, .A [0, 3, 7]), (3, .A [0, 3]), (4, .A [2])], []⟩
def aKX : Ty := .pair (.sl (.u .u32)) .unit
noncomputable def rX : aK := mSpec aKX (.one (.i .i64)) (fun x => rD x.1)
noncomputable def aKY : List (FuncId × aK) := [(128, rU)]
theorem aRR : bL Tryz.prog GL aKY := .cons aHh (by kernel_rfl) (.nil)
theorem aKZ : gam aKY 128 = some rU := rfl
attribute [go_sem] aKX aHp aKZ
set_option maxHeartbeats 4000000 in
theorem aHq : FOK Tryz.prog GL 113 rX := by
 refine bK (bC aRR) mix Tryz.func113 rfl (by kernel_rfl) (by decide) aHp fun w0 S x Θ hw h hF => ?_
 obtain ⟨(a_0 : (List Nat)), u⟩ := x
 simp only [bR, go_sem]
 replace h : sat (rD a_0) _ := h
 unfold rD at h
 refine bQ hF (D := Int) [0] (fun d => [(3, .val (.i .i64) d)]) (fun d => []) h rfl (by simp only [go_sem]) ?_
 rintro n_10 A2 T2 hA2 hE2 h
 simp only [go_sem]
 replace h : sat (lS a_0 n_10) _ := h
 unfold lS at h
 obtain ⟨v_20, hv, h⟩ := bB h
 try simp only [hv, go_sem]
 refine cJ h (fun hc h => ?_) fun hc h => ?_
 ·refine aF h fun g0 h => ?_
  replace h := hA2 _ (aB h)
  exact aO _ h rfl (by simp only [go_sem])
 ·replace h := hE2 _ (aB h)
  try dsimp only at h
  exact aJ hF [.tmp 2] rfl rfl rfl (aB h) (by simp only [aW, go_sem])
attribute [go_sem] rX
noncomputable def tC (a_0 : (List Nat)) : Option Bool :=
 some (decide ((256 : Int) < (((a_0.length) : Nat) : Int)))
def aDA : PlR := ⟨[(0, .A [0]), (1, .A [2])], []⟩
def aE8 : Ty := .pair (.sl (.u .u32)) .unit
noncomputable def uX : aK := mSpec aE8 (.one .bool) (fun x => tC x.1)
noncomputable def aOF : List (FuncId × aK) := []
theorem aOG : bL Tryz.prog GL aOF := .nil
attribute [go_sem] aE8 aDA
set_option maxHeartbeats 4000000 in
theorem aMp : FOK Tryz.prog GL 152 uX := by
 refine bK (bC aOG) mix Tryz.func152 rfl (by kernel_rfl) (by decide) aDA fun w0 S x Θ hw h hF => ?_
 obtain ⟨(a_0 : (List Nat)), u⟩ := x
 simp only [bR, go_sem]
 replace h : sat (tC a_0) _ := h
 unfold tC at h
 exact aJ hF [.tmp 2] rfl rfl rfl (aB h) (by simp only [aW, go_sem])
attribute [go_sem] uX
noncomputable def iQ (i_9 : Int) (a_0 : (List Nat)) (out_16 : (List Nat)) : Option ((Int × (List Nat)) ⊕ (((List Nat)))) :=
 ck (I64 (Int.tdiv i_9 (4 : Int))) (ck (I64 (Int.tdiv i_9 (4 : Int))) (ck (0 ≤ (Int.tdiv i_9 (4 : Int)) ∧ (Int.tdiv i_9 (4 : Int)) < (((out_16.length) : Nat) : Int)) (ck (0 ≤ i_9 ∧ i_9 < (((a_0.length) : Nat) : Int)) (ck (I64 ((16 : Int) * (Int.tmod i_9 (4 : Int)))) (ck (0 ≤ (Int.tdiv i_9 (4 : Int)) ∧ (Int.tdiv i_9 (4 : Int)) < (((out_16.length) : Nat) : Int)) (ck (I64 (i_9 + (1 : Int))) (some (.inl ((i_9 + (1 : Int)), (out_16.set ((Int.tdiv i_9 (4 : Int)).toNat) ((out_16.getD ((Int.tdiv i_9 (4 : Int)).toNat) (0 : Nat)) ||| (((a_0.getD (i_9.toNat) (0 : Nat)) * (2 ^ ((((16 : Int) * (Int.tmod i_9 (4 : Int))) % (18446744073709551616 : Int)).toNat))) % 18446744073709551616))))))))))))
noncomputable def iR (a_0 : (List Nat)) (i_9 : Int) (out_10 : (List Nat)) : Option ((Int × (List Nat)) ⊕ (((List Nat)))) :=
 if i_9 < (((a_0.length) : Nat) : Int) then if (Int.tmod i_9 (4 : Int)) = (0 : Int) then ck (((out_10.length) + (1 : Nat)) * 8 ≤ 140737488355328) (iQ i_9 a_0 (out_10 ++ ([0] : List Nat))) else iQ i_9 a_0 out_10 else some (.inr out_10)
noncomputable def pV (a_0 : (List Nat)) : Option (List Nat) :=
 (cE (fun d : Int × (List Nat) => iR a_0 d.1 d.2) ((0 : Int), ([] : List Nat))).bind (fun e => some e)
def aDB : PlR := ⟨[(0, .A [0]), (1, .A [0, 3]), (2, .A [0, 3, 4]), (3, .A [0, 3, 4, 8]), (4, .A [0, 3, 4]), (5, .A [0, 3, 4, 13]), (6, .B [0, 3, 4]), (7, .C 20 [0, 3, 4]), (8, .A [2])], [(8, 10)]⟩
def aE9 : Ty := .pair (.sl (.u .u32)) .unit
noncomputable def uY : aK := mSpec aE9 (.one (.sl (.u .u64))) (fun x => pV x.1)
noncomputable def aOH : List (FuncId × aK) := []
theorem aOI : bL Tryz.prog GL aOH := .nil
attribute [go_sem] aE9 aDB
set_option maxHeartbeats 4000000 in
theorem aMq : FOK Tryz.prog GL 153 uY := by
 refine bK (bC aOI) mix Tryz.func153 rfl (by kernel_rfl) (by decide) aDB fun w0 S x Θ hw h hF => ?_
 obtain ⟨(a_0 : (List Nat)), u⟩ := x
 simp only [bR, go_sem]
 replace h : sat (pV a_0) _ := h
 unfold pV at h
 refine tU 3 54 (.u .u64) rfl ?_
 simp only [go_sem]
 refine bQ hF (D := Int × (List Nat)) [0] (fun d => [(3, .own 0), (4, .val (.i .i64) d.1)]) (fun d => [.inr (.row 54 (.u .u64) d.2)]) h rfl (by simp only [go_sem]) ?_
 rintro ⟨i_9, out_10⟩ A3 T3 hA3 hE3 h
 simp only [go_sem]
 replace h : sat (iR a_0 i_9 out_10) _ := h
 unfold iR at h
 refine dE h (fun hc h => ?_) fun hc h => ?_
 ·refine bY hF (D := (List Nat)) (fun d => sat (iQ i_9 a_0 d) T3) [0, 4] (fun d => [(3, .own 0)]) (fun d => [.inr (.row 54 (.u .u64) d)]) ?_ ?_
  ·simp only [go_sem]
   refine cJ h (fun hc h => ?_) fun hc h => ?_
   ·obtain ⟨g0, h⟩ := aD h
    repeat (refine ⟨by first | with_reducible assumption | omega | (intros; first | assumption | omega) | (simp only [go_sem] at *; first | assumption | omega) | decide, ?_⟩)
    refine qD [1] rfl rfl ?_
    simp only [go_sem]
    exact aO ((out_10 ++ ([0] : List Nat))) h rfl (by simp only [go_sem])
   ·exact aO (out_10) h rfl (by simp only [go_sem])
  ·rintro out_16 h
   simp only [go_sem]
   replace h : sat (iQ i_9 a_0 out_16) _ := h
   unfold iQ at h
   obtain ⟨g0, h⟩ := aD h
   obtain ⟨g1, h⟩ := aD h
   obtain ⟨g2, h⟩ := aD h
   obtain ⟨g3, h⟩ := aD h
   obtain ⟨g4, h⟩ := aD h
   obtain ⟨g5, h⟩ := aD h
   try simp only [I64, I32] at g0
   try simp only [I64, I32] at g1
   try simp only [I64, I32] at g4
   repeat (refine ⟨by first | with_reducible assumption | omega | (intros; first | assumption | omega) | (simp only [go_sem] at *; first | assumption | omega) | decide, ?_⟩)
   obtain ⟨g0, h⟩ := aD h
   try simp only [I64, I32] at g0
   repeat (refine ⟨by first | with_reducible assumption | omega | (intros; first | assumption | omega) | (simp only [go_sem] at *; first | assumption | omega) | decide, ?_⟩)
   replace h := hA3 _ (aB h)
   exact aO _ h rfl (by (try simp only [kH, gB, true_or, and_self, go_sem]) <;> (repeat' apply And.intro) <;> first | rfl | (left; rfl) | (right; rfl) | (left; simp only [go_sem]; done) | (right; simp only [go_sem]; done) | (simp; done) | (simp only [*]; done) | omega)
 ·replace h := hE3 _ (aB h)
  try dsimp only at h
  exact aJ hF [.tmp 2] rfl rfl rfl (aB h) (by simp only [aW, go_sem])
attribute [go_sem] uY
noncomputable def rY (d_0 : (Bool × ((List Nat) × (Int × Unit)))) : Option ((Bool × ((List Nat) × (Int × Unit))) × (Int × Unit)) :=
 if (((((d_0.2).1).length) : Nat) : Int) = (0 : Int) then some ((false, ([] : List Nat), (0 : Int), ()), (0 : Int), ()) else (rD ((d_0.2).1)).bind (fun v_5 => (nJ ((d_0.2).1) v_5).bind (fun v_9 => (tC v_9).bind (fun v_15 => if v_15 = true then some ((false, ([] : List Nat), (0 : Int), ()), (2 : Int), ()) else ck ((¬ (((1048576 : Int) < (((d_0.2).2).1)) ∨ ((((d_0.2).2).1) < (-1053576 : Int))) → (I64 ((((d_0.2).2).1) + v_5)))) (ck ((¬ ((((1048576 : Int) < (((d_0.2).2).1)) ∨ ((((d_0.2).2).1) < (-1053576 : Int))) ∨ ((1048576 : Int) < ((((d_0.2).2).1) + v_5))) → (I64 ((((d_0.2).2).1) + v_5)))) (if ((((1048576 : Int) < (((d_0.2).2).1)) ∨ ((((d_0.2).2).1) < (-1053576 : Int))) ∨ ((1048576 : Int) < ((((d_0.2).2).1) + v_5))) ∨ (((((d_0.2).2).1) + v_5) < (-1048576 : Int)) then some ((false, ([] : List Nat), (0 : Int), ()), (3 : Int), ()) else (pV v_9).bind (fun v_17 => ck (I64 ((((d_0.2).2).1) + v_5)) (some (((d_0.1), v_17, ((((d_0.2).2).1) + v_5), ()), (0 : Int), ()))))))))
def aFa : PlR := ⟨[(0, .B [1, 2]), (1, .A [1, 2, 9]), (2, .B [2, 3]), (3, .A [1, 2, 4]), (4, .A [1, 2, 4, 5]), (5, .A [1, 2, 4, 5, 19]), (6, .B [2, 3]), (7, .A [1, 2, 4, 5, 42]), (8, .B [2, 3]), (9, .C 9 [2, 3])], []⟩
def aHr : Ty := .pair (.pair .bool (.pair (.sl (.u .u32)) (.pair (.i .i64) .unit))) .unit
noncomputable def xB : aK := mSpec aHr (.tup (.pair (.pair .bool (.pair (.sl (.u .u64)) (.pair (.i .i64) .unit))) (.pair (.i .i64) .unit))) (fun x => rY x.1)
noncomputable def vV : List (FuncId × aK) := [(113, rX), (152, uX), (153, uY), (77, mW)]
theorem aQw : bL Tryz.prog GL vV := .cons aHq (by kernel_rfl) (.cons aMp (by kernel_rfl) (.cons aMq (by kernel_rfl) (.cons aCP (by kernel_rfl) (.nil))))
theorem aIf : gam vV 113 = some rX := rfl
theorem aIg : gam vV 152 = some uX := rfl
theorem aIh : gam vV 153 = some uY := rfl
theorem aK0 : gam vV 77 = some mW := rfl
attribute [go_sem] aHr aFa aIf aIg aIh aK0
set_option maxHeartbeats 4000000 in
theorem aOJ : FOK Tryz.prog GL 114 xB := by
 refine bK (bC aQw) mix Tryz.func114 rfl (by kernel_rfl) (by decide) aFa fun w0 S x Θ hw h hF => ?_
 obtain ⟨(d_0 : (Bool × ((List Nat) × (Int × Unit)))), u⟩ := x
 simp only [bR, go_sem]
 replace h : sat (rY d_0) _ := h
 unfold rY at h
 refine cJ h (fun hc h => ?_) fun hc h => ?_
 ·exact aJ hF [.cell 2 25, .tmp 3] rfl rfl rfl (aB h) (by simp only [aW, go_sem])
 ·obtain ⟨v_5, hv, h⟩ := bB h
  try simp only [hv, go_sem]
  obtain ⟨v_9, hv, h⟩ := bB h
  try simp only [hv, go_sem]
  obtain ⟨v_15, hv, h⟩ := bB h
  try simp only [hv, go_sem]
  refine aJv h (fun hc h => ?_) fun hc h => ?_
  ·exact aJ hF [.cell 2 25, .tmp 3] rfl rfl rfl (aB h) (by simp only [aW, go_sem])
  ·obtain ⟨g0, h⟩ := aD h
   obtain ⟨g1, h⟩ := aD h
   try simp only [I64, I32] at g0
   try simp only [I64, I32] at g1
   repeat (refine ⟨by first | with_reducible assumption | omega | (intros; first | assumption | omega) | (simp only [go_sem] at *; first | assumption | omega) | (intro q0; (try have e0 := g0 (by first | exact q0 | omega | (simpa using q0))); (try have e1 := g1 (by first | exact q0 | omega | (simpa using q0))); first | assumption | omega) | decide, ?_⟩)
   refine ⟨fun hc => ?_, fun hc => ?_⟩
   ·replace h := eC hc h
    exact aJ hF [.cell 2 25, .tmp 3] rfl rfl rfl (aB h) (by simp only [aW, go_sem])
   ·replace h := eE hc h
    obtain ⟨v_17, hv, h⟩ := bB h
    try simp only [hv, go_sem]
    obtain ⟨g0, h⟩ := aD h
    try simp only [I64, I32] at g0
    repeat (refine ⟨by first | with_reducible assumption | omega | (intros; first | assumption | omega) | (simp only [go_sem] at *; first | assumption | omega) | decide, ?_⟩)
    exact aJ hF [.cell 2 25, .tmp 3] rfl rfl rfl (aB h) (by (simp only [aW, go_sem]) <;> first | rfl | (simp; done))
attribute [go_sem] xB
noncomputable def fY (d_0 : (Bool × ((List Nat) × (Int × Unit)))) : Option ((Bool × ((List Nat) × (Int × Unit))) × (Int × Unit)) :=
 if (((((d_0.2).1).length) : Nat) : Int) = (0 : Int) then some ((false, ([] : List Nat), (0 : Int), ()), (0 : Int), ()) else (rD ((d_0.2).1)).bind (fun v_5 => (nJ ((d_0.2).1) v_5).bind (fun v_8 => ck (I64 ((((d_0.2).2).1) + v_5)) ((rY ((d_0.1), v_8, ((((d_0.2).2).1) + v_5), ())).bind (fun v_9 => some ((v_9.1), ((v_9.2).1), ())))))
def aFb : PlR := ⟨[(0, .B [1, 2]), (1, .A [1, 2, 8]), (2, .B [2, 3]), (3, .A [1, 2, 4]), (4, .C 14 [2, 3])], []⟩
def aHs : Ty := .pair (.pair .bool (.pair (.sl (.u .u32)) (.pair (.i .i64) .unit))) .unit
noncomputable def pW : aK := mSpec aHs (.tup (.pair (.pair .bool (.pair (.sl (.u .u64)) (.pair (.i .i64) .unit))) (.pair (.i .i64) .unit))) (fun x => fY x.1)
noncomputable def zR : List (FuncId × aK) := [(113, rX), (114, xB), (77, mW)]
theorem aQx : bL Tryz.prog GL zR := .cons aHq (by kernel_rfl) (.cons aOJ (by kernel_rfl) (.cons aCP (by kernel_rfl) (.nil)))
theorem aIi : gam zR 113 = some rX := rfl
theorem aIj : gam zR 114 = some xB := rfl
theorem aK1 : gam zR 77 = some mW := rfl
attribute [go_sem] aHs aFb aIi aIj aK1
set_option maxHeartbeats 4000000 in
theorem aFc : FOK Tryz.prog GL 59 pW := by
 refine bK (bC aQx) mix Tryz.func59 rfl (by kernel_rfl) (by decide) aFb fun w0 S x Θ hw h hF => ?_
 obtain ⟨(d_0 : (Bool × ((List Nat) × (Int × Unit)))), u⟩ := x
 simp only [bR, go_sem]
 replace h : sat (fY d_0) _ := h
 unfold fY at h
 refine cJ h (fun hc h => ?_) fun hc h => ?_
 ·exact aJ hF [.cell 2 25, .tmp 3] rfl rfl rfl (aB h) (by simp only [aW, go_sem])
 ·obtain ⟨v_5, hv, h⟩ := bB h
  try simp only [hv, go_sem]
  obtain ⟨v_8, hv, h⟩ := bB h
  try simp only [hv, go_sem]
  obtain ⟨g0, h⟩ := aD h
  try simp only [I64, I32] at g0
  repeat (refine ⟨by first | with_reducible assumption | omega | (intros; first | assumption | omega) | (simp only [go_sem] at *; first | assumption | omega) | decide, ?_⟩)
  obtain ⟨v_9, hv, h⟩ := bB h
  try simp only [hv, go_sem]
  exact aJ hF [.cell 2 25, .tmp 3] rfl rfl rfl (aB h) (by simp only [aW, go_sem])
attribute [go_sem] pW
noncomputable def lU (p_1 : Int) (a_16 : (Bool × ((List Nat) × (Int × Unit)))) (b_17 : (Bool × ((List Nat) × (Int × Unit)))) : Option ((((Bool × ((List Nat) × (Int × Unit))) × ((Bool × ((List Nat) × (Int × Unit))) × Unit)) × (Int × Unit))) :=
 (dY a_16 b_17 p_1 false).bind (fun v_20 => (fY v_20).bind (fun v_21 => (dY a_16 b_17 p_1 true).bind (fun v_24 => (fY v_24).bind (fun v_25 => some (((v_21.1), (v_25.1), ()), (0 : Int), ())))))
noncomputable def uK (s_0 : (List Nat)) (p_1 : Int) : Option (((Bool × ((List Nat) × (Int × Unit))) × ((Bool × ((List Nat) × (Int × Unit))) × Unit)) × (Int × Unit)) :=
 (gZ s_0).bind (fun v_8 => if ¬ (v_8 = true) then some (((false, ([] : List Nat), (0 : Int), ()), (false, ([] : List Nat), (0 : Int), ()), ()), (6 : Int), ()) else if (p_1 < (1 : Int)) ∨ ((2000 : Int) < p_1) then some (((false, ([] : List Nat), (0 : Int), ()), (false, ([] : List Nat), (0 : Int), ()), ()), (1 : Int), ()) else (kT s_0).bind (fun v_12 => if (0 : Int) ≤ ((v_12.2).1) then (pF ((v_12.2).1)).bind (fun v_26 => (iO (v_12.1) v_26).bind (fun v_27 => lU p_1 (false, v_27, (0 : Int), ()) (false, ([1] : List Nat), (0 : Int), ()))) else ck (I64 (0 - ((v_12.2).1))) ((pF (0 - ((v_12.2).1))).bind (fun v_28 => lU p_1 (false, (v_12.1), (0 : Int), ()) (false, v_28, (0 : Int), ())))))
def aHt : PlR := ⟨[(0, .B [0, 1, 4]), (1, .A [0, 1, 4, 16]), (2, .B [4, 5]), (3, .A [0, 1, 4, 23]), (4, .B [4, 5]), (5, .A [1, 4, 6, 7]), (6, .B [1, 4, 6, 7, 8, 9]), (7, .A [1, 4, 6, 7, 8, 9, 35]), (8, .B [1, 4, 8, 9]), (9, .B [1, 4, 8, 9]), (10, .B [1, 4, 8, 9, 10]), (11, .B [4, 10, 12]), (12, .B [4, 5])], [(10, 13)]⟩
def aK2 : Ty := .pair .str (.pair (.i .i64) .unit)
noncomputable def zS : aK := mSpec aK2 (.tup (.pair (.pair (.pair .bool (.pair (.sl (.u .u64)) (.pair (.i .i64) .unit))) (.pair (.pair .bool (.pair (.sl (.u .u64)) (.pair (.i .i64) .unit))) .unit)) (.pair (.i .i64) .unit))) (fun x => uK x.1 x.2.1)
noncomputable def rF : List (FuncId × aK) := [(24, kS), (56, nY), (57, jF), (58, rT), (59, pW), (60, tB)]
theorem aRS : bL Tryz.prog GL rF := .cons aBp (by kernel_rfl) (.cons aDy (by kernel_rfl) (.cons zN (by kernel_rfl) (.cons aHd (by kernel_rfl) (.cons aFc (by kernel_rfl) (.cons aKW (by kernel_rfl) (.nil))))))
theorem aMr : gam rF 24 = some kS := rfl
theorem aMs : gam rF 56 = some nY := rfl
theorem aMt : gam rF 57 = some jF := rfl
theorem aMu : gam rF 58 = some rT := rfl
theorem aMv : gam rF 59 = some pW := rfl
theorem aMw : gam rF 60 = some tB := rfl
attribute [go_sem] aK2 aHt aMr aMs aMt aMu aMv aMw
set_option maxHeartbeats 4000000 in
theorem aQy : FOK Tryz.prog GL 20 zS := by
 refine bK (bC aRS) mix Tryz.func20 rfl (by kernel_rfl) (by decide) aHt fun w0 S x Θ hw h hF => ?_
 obtain ⟨(s_0 : (List Nat)), (p_1 : Int), u⟩ := x
 simp only [bR, go_sem]
 replace h : sat (uK s_0 p_1) _ := h
 unfold uK at h
 obtain ⟨v_8, hv, h⟩ := bB h
 try simp only [hv, go_sem]
 refine aJw h (fun hc h => ?_) fun hc h => ?_
 ·exact aJ hF [.cell 4 27, .tmp 5] rfl rfl rfl (aB h) (by simp only [aW, go_sem])
 ·refine ⟨fun hc => ?_, fun hc => ?_⟩
  ·replace h := eC hc h
   exact aJ hF [.cell 4 27, .tmp 5] rfl rfl rfl (aB h) (by simp only [aW, go_sem])
  ·replace h := eE hc h
   obtain ⟨v_12, hv, h⟩ := bB h
   try simp only [hv, go_sem]
   refine bY hF (D := (Bool × ((List Nat) × (Int × Unit))) × (Bool × ((List Nat) × (Int × Unit)))) (fun d => sat (lU p_1 d.1 d.2) Θ) [1] (fun d => [(4, .ptr 0 []), (8, .ptr 1 []), (9, .ptr 2 [])]) (fun d => [.inr (.box 6 (.val (.pair (.pair .bool (.pair (.sl (.u .u64)) (.pair (.i .i64) .unit))) (.pair (.pair .bool (.pair (.sl (.u .u64)) (.pair (.i .i64) .unit))) .unit)) ((false, ([] : List Nat), (0 : Int), ()), (false, ([] : List Nat), (0 : Int), ()), ()))), .inr (.box 3 (.val (.pair .bool (.pair (.sl (.u .u32)) (.pair (.i .i64) .unit))) d.1)), .inr (.box 3 (.val (.pair .bool (.pair (.sl (.u .u32)) (.pair (.i .i64) .unit))) d.2))]) ?_ ?_
   ·simp only [go_sem]
    refine yA h (fun hc h => ?_) fun hc h => ?_
    ·obtain ⟨v_26, hv, h⟩ := bB h
     try simp only [hv, go_sem]
     obtain ⟨v_27, hv, h⟩ := bB h
     try simp only [hv, go_sem]
     exact aO (((false, v_27, (0 : Int), ()), (false, ([1] : List Nat), (0 : Int), ()))) h rfl (by simp only [go_sem])
    ·refine aF h fun g0 h => ?_
     obtain ⟨v_28, hv, h⟩ := bB h
     try simp only [hv, go_sem]
     exact aO (((false, (v_12.1), (0 : Int), ()), (false, v_28, (0 : Int), ()))) h rfl (by simp only [go_sem])
   ·rintro ⟨a_16, b_17⟩ h
    simp only [go_sem]
    replace h : sat (lU p_1 a_16 b_17) _ := h
    unfold lU at h
    obtain ⟨v_20, hv, h⟩ := bB h
    try simp only [hv, go_sem]
    obtain ⟨v_21, hv, h⟩ := bB h
    try simp only [hv, go_sem]
    obtain ⟨v_24, hv, h⟩ := bB h
    try simp only [hv, go_sem]
    obtain ⟨v_25, hv, h⟩ := bB h
    try simp only [hv, go_sem]
    exact aJ hF [.cell 4 27, .tmp 5] rfl rfl rfl (aB h) (by simp only [aW, go_sem])
attribute [go_sem] zS
noncomputable def nR (v_11 : ((List Nat) × (Int × Unit))) (f_29 : (List Nat)) : Option (((Bool × ((List Nat) × (Int × Unit))) × (Int × Unit))) :=
 (rC (v_11.1) f_29).bind (fun v_33 => if (0 : Int) < (((((v_33.2).1).length) : Nat) : Int) then some ((false, ([] : List Nat), (0 : Int), ()), (6 : Int), ()) else (fY (false, (v_33.1), ((v_11.2).1), ())).bind (fun v_35 => some ((v_35.1), ((v_35.2).1), ())))
noncomputable def fZ (v_11 : ((List Nat) × (Int × Unit))) (f_38 : (List Nat)) (i_39 : Int) : Option (((List Nat) × Int) ⊕ (((List Nat)))) :=
 ck (I64 (0 - ((v_11.2).1))) (if i_39 < (0 - ((v_11.2).1)) then (iO f_38 ([5] : List Nat)).bind (fun v_48 => ck (I64 (i_39 + (1 : Int))) (some (.inl (v_48, (i_39 + (1 : Int)))))) else some (.inr f_38))
noncomputable def pX (s_0 : (List Nat)) : Option ((Bool × ((List Nat) × (Int × Unit))) × (Int × Unit)) :=
 (gZ s_0).bind (fun v_7 => if ¬ (v_7 = true) then some ((false, ([] : List Nat), (0 : Int), ()), (6 : Int), ()) else (kT s_0).bind (fun v_11 => if (0 : Int) ≤ ((v_11.2).1) then (pF ((v_11.2).1)).bind (fun v_18 => (iO (v_11.1) v_18).bind (fun v_19 => (fY (false, v_19, (0 : Int), ())).bind (fun v_20 => some ((v_20.1), ((v_20.2).1), ())))) else (cE (fun d : (List Nat) × Int => fZ v_11 d.1 d.2) (([1] : List Nat), (0 : Int))).bind (fun e => nR v_11 e)))
def aDC : PlR := ⟨[], [(10, 14)]⟩
def aFd : Ty := .pair .str .unit
noncomputable def uZ : aK := mSpec aFd (.tup (.pair (.pair .bool (.pair (.sl (.u .u64)) (.pair (.i .i64) .unit))) (.pair (.i .i64) .unit))) (fun x => pX x.1)
noncomputable def nK : List (FuncId × aK) := [(24, kS), (56, nY), (57, jF), (58, rT), (59, pW), (66, rW)]
theorem aOK : bL Tryz.prog GL nK := .cons aBp (by kernel_rfl) (.cons aDy (by kernel_rfl) (.cons zN (by kernel_rfl) (.cons aHd (by kernel_rfl) (.cons aFc (by kernel_rfl) (.cons aHm (by kernel_rfl) (.nil))))))
theorem aIk : gam nK 24 = some kS := rfl
theorem aIl : gam nK 56 = some nY := rfl
theorem aIm : gam nK 57 = some jF := rfl
theorem aIn : gam nK 58 = some rT := rfl
theorem aIo : gam nK 59 = some pW := rfl
theorem aIp : gam nK 66 = some rW := rfl
attribute [go_sem] aFd aDC aIk aIl aIm aIn aIo aIp
set_option maxHeartbeats 4000000 in
theorem aMx : FOK Tryz.prog GL 22 uZ := by
 refine bK (bC aOK) mix Tryz.func22 rfl (by kernel_rfl) (by decide) aDC fun w0 S x Θ hw h hF => ?_
 obtain ⟨(s_0 : (List Nat)), u⟩ := x
 simp only [bR, go_sem]
 replace h : sat (pX s_0) _ := h
 unfold pX at h
 refine aCi hF [0, 2] ?_
 simp only [go_sem]
 refine cL hF [0, 2, 12] ?_
 simp only [go_sem]
 obtain ⟨v_7, hv, h⟩ := bB h
 try simp only [hv, go_sem]
 refine aJw h (fun hc h => ?_) fun hc h => ?_
 ·refine aCi hF [2, 3] ?_
  simp only [go_sem]
  exact aJ hF [.cell 2 25, .tmp 3] rfl rfl rfl (aB h) (by simp only [aW, go_sem])
 ·refine cL hF [2, 4, 5] ?_
  simp only [go_sem]
  obtain ⟨v_11, hv, h⟩ := bB h
  try simp only [hv, go_sem]
  refine cL hF [2, 4, 5, 20] ?_
  simp only [go_sem]
  refine yA h (fun hc h => ?_) fun hc h => ?_
  ·refine aCi hF [2, 3] ?_
   simp only [go_sem]
   obtain ⟨v_18, hv, h⟩ := bB h
   try simp only [hv, go_sem]
   obtain ⟨v_19, hv, h⟩ := bB h
   try simp only [hv, go_sem]
   obtain ⟨v_20, hv, h⟩ := bB h
   try simp only [hv, go_sem]
   exact aJ hF [.cell 2 25, .tmp 3] rfl rfl rfl (aB h) (by simp only [aW, go_sem])
  ·refine cL hF [2, 4, 5, 6] ?_
   simp only [go_sem]
   refine bY hF (D := (List Nat)) (fun d => sat (nR v_11 d) Θ) [4, 5] (fun d => [(2, .ptr 0 []), (6, .val (.sl (.u .u32)) d)]) (fun d => [.inr (.box 3 (.val (.pair .bool (.pair (.sl (.u .u64)) (.pair (.i .i64) .unit))) (false, ([] : List Nat), (0 : Int), ())))]) ?_ ?_
   ·simp only [go_sem]
    refine cL hF [2, 4, 5, 6, 7] ?_
    simp only [go_sem]
    refine bQ hF (D := (List Nat) × Int) [4, 5] (fun d => [(2, .ptr 0 []), (6, .val (.sl (.u .u32)) d.1), (7, .val (.i .i64) d.2)]) (fun d => [.inr (.box 3 (.val (.pair .bool (.pair (.sl (.u .u64)) (.pair (.i .i64) .unit))) (false, ([] : List Nat), (0 : Int), ())))]) h rfl (by simp only [go_sem]) ?_
    rintro ⟨f_38, i_39⟩ A8 T8 hA8 hE8 h
    simp only [go_sem]
    replace h : sat (fZ v_11 f_38 i_39) _ := h
    unfold fZ at h
    refine cL hF [2, 4, 5, 6, 7, 33] ?_
    simp only [go_sem]
    refine aF h fun g0 h => ?_
    refine dE h (fun hc h => ?_) fun hc h => ?_
    ·refine cL hF [2, 4, 5, 6, 7] ?_
     simp only [go_sem]
     obtain ⟨v_48, hv, h⟩ := bB h
     try simp only [hv, go_sem]
     refine cL hF [2, 4, 5, 6, 7] ?_
     simp only [go_sem]
     refine aF h fun g0 h => ?_
     replace h := hA8 _ (aB h)
     exact aO _ h rfl (by simp only [go_sem])
    ·replace h := hE8 _ (aB h)
     try dsimp only at h
     exact aO (f_38) h rfl (by simp only [go_sem])
   ·rintro f_29 h
    simp only [go_sem]
    replace h : sat (nR v_11 f_29) _ := h
    unfold nR at h
    refine cL hF [2, 5, 8, 9] ?_
    simp only [go_sem]
    obtain ⟨v_33, hv, h⟩ := bB h
    try simp only [hv, go_sem]
    refine cL hF [2, 5, 8, 47] ?_
    simp only [go_sem]
    refine dE h (fun hc h => ?_) fun hc h => ?_
    ·refine aCi hF [2, 3] ?_
     simp only [go_sem]
     exact aJ hF [.cell 2 25, .tmp 3] rfl rfl rfl (aB h) (by simp only [aW, go_sem])
    ·refine aCi hF [2, 3] ?_
     simp only [go_sem]
     obtain ⟨v_35, hv, h⟩ := bB h
     try simp only [hv, go_sem]
     exact aJ hF [.cell 2 25, .tmp 3] rfl rfl rfl (aB h) (by simp only [aW, go_sem])
attribute [go_sem] uZ
noncomputable def fD (a_0 : (Bool × ((List Nat) × (Int × Unit)))) (b_1 : (Bool × ((List Nat) × (Int × Unit)))) (i_5 : Int) : Option ((Int) ⊕ ((Unit) ⊕ Bool)) :=
 if i_5 < (((((a_0.2).1).length) : Nat) : Int) then ck (0 ≤ i_5 ∧ i_5 < (((((a_0.2).1).length) : Nat) : Int)) (ck (0 ≤ i_5 ∧ i_5 < (((((b_1.2).1).length) : Nat) : Int)) (if ¬ ((((a_0.2).1).getD (i_5.toNat) (0 : Nat)) = (((b_1.2).1).getD (i_5.toNat) (0 : Nat))) then some (.inr (.inr false)) else ck (I64 (i_5 + (1 : Int))) (some (.inl (i_5 + (1 : Int)))))) else some (.inr (.inl ()))
noncomputable def dJ (a_0 : (Bool × ((List Nat) × (Int × Unit)))) (b_1 : (Bool × ((List Nat) × (Int × Unit)))) : Option Bool :=
 if ((((a_0.1) != (b_1.1)) = true) ∨ (¬ ((((a_0.2).2).1) = (((b_1.2).2).1)))) ∨ (¬ ((((((a_0.2).1).length) : Nat) : Int) = (((((b_1.2).1).length) : Nat) : Int))) then some false else (cE (fun d : Int => fD a_0 b_1 d) (0 : Int)).bind (fun e => match e with | (.inl e) => some true | (.inr e) => some e)
def aAJ : PlR := ⟨[(0, .B [2, 3]), (1, .A [2, 3, 26]), (2, .A [4]), (3, .A [2, 3, 5]), (4, .A [2, 3, 5, 31]), (5, .A [2, 3, 5]), (6, .A [2, 3, 5, 44]), (7, .A [4]), (8, .A [4])], []⟩
def aBH : Ty := .pair (.pair .bool (.pair (.sl (.u .u64)) (.pair (.i .i64) .unit))) (.pair (.pair .bool (.pair (.sl (.u .u64)) (.pair (.i .i64) .unit))) .unit)
noncomputable def jI : aK := mSpec aBH (.one .bool) (fun x => dJ x.1 x.2.1)
noncomputable def aIq : List (FuncId × aK) := []
theorem aIr : bL Tryz.prog GL aIq := .nil
attribute [go_sem] aBH aAJ
set_option maxHeartbeats 4000000 in
theorem aAK : FOK Tryz.prog GL 26 jI := by
 refine bK (bC aIr) mix Tryz.func26 rfl (by kernel_rfl) (by decide) aAJ fun w0 S x Θ hw h hF => ?_
 obtain ⟨(a_0 : (Bool × ((List Nat) × (Int × Unit)))), (b_1 : (Bool × ((List Nat) × (Int × Unit)))), u⟩ := x
 simp only [bR, go_sem]
 replace h : sat (dJ a_0 b_1) _ := h
 unfold dJ at h
 refine ⟨fun hc => ?_, fun hc => ?_⟩
 ·replace h := eC hc h
  exact aJ hF [.tmp 4] rfl rfl rfl (aB h) (by simp only [aW, go_sem])
 ·replace h := eE hc h
  refine bQ hF (D := Int) [] (fun d => [(2, .ptr 0 []), (3, .ptr 1 []), (5, .val (.i .i64) d)]) (fun d => [.inr (.box 3 (.val (.pair .bool (.pair (.sl (.u .u64)) (.pair (.i .i64) .unit))) a_0)), .inr (.box 3 (.val (.pair .bool (.pair (.sl (.u .u64)) (.pair (.i .i64) .unit))) b_1))]) h rfl (by simp only [go_sem]) ?_
  rintro i_5 A4 T4 hA4 hE4 h
  simp only [go_sem]
  replace h : sat (fD a_0 b_1 i_5) _ := h
  unfold fD at h
  refine dE h (fun hc h => ?_) fun hc h => ?_
  ·refine aF h fun g0 h => aF h fun g1 h => ?_
   refine cJ h (fun hc h => ?_) fun hc h => ?_
   ·replace h := hE4 _ (aB h)
    try dsimp only at h
    exact aJ hF [.tmp 4] rfl rfl rfl (aB h) (by simp only [aW, go_sem])
   ·refine aF h fun g0 h => ?_
    replace h := hA4 _ (aB h)
    exact aO _ h rfl (by simp only [go_sem])
  ·replace h := hE4 _ (aB h)
   try dsimp only at h
   exact aJ hF [.tmp 4] rfl rfl rfl (aB h) (by simp only [aW, go_sem])
attribute [go_sem] jI
noncomputable def mX (a_0 : ((Bool × ((List Nat) × (Int × Unit))) × ((Bool × ((List Nat) × (Int × Unit))) × Unit))) (b_1 : ((Bool × ((List Nat) × (Int × Unit))) × ((Bool × ((List Nat) × (Int × Unit))) × Unit))) : Option Bool :=
 (dJ (a_0.1) (b_1.1)).bind (fun v_6 => ck (((v_6 = true) → (((dJ ((a_0.2).1) ((b_1.2).1)).isSome = true)))) (some (v_6 && ((dJ ((a_0.2).1) ((b_1.2).1)).getD false))))
def aFe : PlR := ⟨[(0, .B [2, 3]), (1, .A [4])], []⟩
def aHu : Ty := .pair (.pair (.pair .bool (.pair (.sl (.u .u64)) (.pair (.i .i64) .unit))) (.pair (.pair .bool (.pair (.sl (.u .u64)) (.pair (.i .i64) .unit))) .unit)) (.pair (.pair (.pair .bool (.pair (.sl (.u .u64)) (.pair (.i .i64) .unit))) (.pair (.pair .bool (.pair (.sl (.u .u64)) (.pair (.i .i64) .unit))) .unit)) .unit)
noncomputable def xC : aK := mSpec aHu (.one .bool) (fun x => mX x.1 x.2.1)
noncomputable def aHv : List (FuncId × aK) := [(26, jI)]
theorem aQz : bL Tryz.prog GL aHv := .cons aAK (by kernel_rfl) (.nil)
theorem aK3 : gam aHv 26 = some jI := rfl
attribute [go_sem] aHu aFe aK3
set_option maxHeartbeats 4000000 in
theorem aOL : FOK Tryz.prog GL 25 xC := by
 refine bK (bC aQz) mix Tryz.func25 rfl (by kernel_rfl) (by decide) aFe fun w0 S x Θ hw h hF => ?_
 obtain ⟨(a_0 : ((Bool × ((List Nat) × (Int × Unit))) × ((Bool × ((List Nat) × (Int × Unit))) × Unit))), (b_1 : ((Bool × ((List Nat) × (Int × Unit))) × ((Bool × ((List Nat) × (Int × Unit))) × Unit))), u⟩ := x
 simp only [bR, go_sem]
 replace h : sat (mX a_0 b_1) _ := h
 unfold mX at h
 obtain ⟨v_6, hv, h⟩ := bB h
 try simp only [hv, go_sem]
 refine aF h fun g0 h => ?_
 exact aJ hF [.tmp 4] rfl rfl rfl (aB h) (by simp only [aW, go_sem])
attribute [go_sem] xC
end Nu
end Go.Proofs
namespace Go.Proofs
open Go.Vc
set_option maxRecDepth 20000
namespace Nu
noncomputable def cZ (a0_0 : (List Nat)) (a1_1 : (List Nat)) (x13_5 : Int) : Option ((Int) ⊕ ((Unit) ⊕ Bool)) :=
 if x13_5 < (((a0_0.length) : Nat) : Int) then ck (0 ≤ x13_5 ∧ x13_5 < (((a0_0.length) : Nat) : Int)) (ck (0 ≤ x13_5 ∧ x13_5 < (((a1_1.length) : Nat) : Int)) (if ¬ ((a0_0.getD (x13_5.toNat) (0 : Nat)) = (a1_1.getD (x13_5.toNat) (0 : Nat))) then some (.inr (.inr false)) else ck (I64 (x13_5 + (1 : Int))) (some (.inl (x13_5 + (1 : Int)))))) else some (.inr (.inl ()))
noncomputable def dR (a0_0 : (List Nat)) (a1_1 : (List Nat)) : Option Bool :=
 if ¬ ((((a0_0.length) : Nat) : Int) = (((a1_1.length) : Nat) : Int)) then some false else (cE (fun d : Int => cZ a0_0 a1_1 d) (0 : Int)).bind (fun e => match e with | (.inl e) => some true | (.inr e) => some e)
def tD : PlR := ⟨[(0, .A [0, 1]), (1, .A [0, 1, 10]), (2, .A [4]), (3, .A [0, 1, 12, 13]), (4, .A [0, 1, 12, 13, 14]), (5, .A [0, 1, 5, 12, 13]), (6, .A [0, 1, 12, 13, 24]), (7, .A [4]), (8, .A [0, 1, 12, 13]), (9, .A [4])], []⟩
def tP : Ty := .pair (.sl (.u .u64)) (.pair (.sl (.u .u64)) .unit)
noncomputable def iX : aK := mSpec tP (.one .bool) (fun x => dR x.1 x.2.1)
noncomputable def aBS : List (FuncId × aK) := []
theorem aBT : bL Tryz.prog GL aBS := .nil
attribute [go_sem] tP tD
set_option maxHeartbeats 4000000 in
theorem aBr : FOK Tryz.prog GL 84 iX := by
 refine bK (bC aBT) mix Tryz.func84 rfl (by kernel_rfl) (by decide) tD fun w0 S x Θ hw h hF => ?_
 obtain ⟨(a0_0 : (List Nat)), (a1_1 : (List Nat)), u⟩ := x
 simp only [bR, go_sem]
 replace h : sat (dR a0_0 a1_1) _ := h
 unfold dR at h
 refine cJ h (fun hc h => ?_) fun hc h => ?_
 ·exact aJ hF [.tmp 4] rfl rfl rfl (aB h) (by simp only [aW, go_sem])
 ·refine bQ hF (D := Int) [0, 1, 12] (fun d => [(13, .val (.i .i64) d)]) (fun d => []) h rfl (by simp only [go_sem]) ?_
  rintro x13_5 A4 T4 hA4 hE4 h
  simp only [go_sem]
  replace h : sat (cZ a0_0 a1_1 x13_5) _ := h
  unfold cZ at h
  refine dE h (fun hc h => ?_) fun hc h => ?_
  ·refine aF h fun g0 h => aF h fun g1 h => ?_
   refine cJ h (fun hc h => ?_) fun hc h => ?_
   ·replace h := hE4 _ (aB h)
    try dsimp only at h
    exact aJ hF [.tmp 4] rfl rfl rfl (aB h) (by simp only [aW, go_sem])
   ·refine aF h fun g0 h => ?_
    replace h := hA4 _ (aB h)
    exact aO _ h rfl (by simp only [go_sem])
  ·replace h := hE4 _ (aB h)
   try dsimp only at h
   exact aJ hF [.tmp 4] rfl rfl rfl (aB h) (by simp only [aW, go_sem])
attribute [go_sem] iX
noncomputable def jY (l_8 : (List (List Nat))) (out_13 : (List Nat)) (x44_14 : Int) : Option (((List Nat) × Int) ⊕ (((List Nat)))) :=
 if x44_14 < (((l_8.length) : Nat) : Int) then ck (0 ≤ x44_14 ∧ x44_14 < (((l_8.length) : Nat) : Int)) (ck (((l_8.getD (x44_14.toNat) ([] : List Nat)).length) + (out_13.length) ≤ 9223372036854775807) (ck (I64 (x44_14 + (1 : Int))) (some (.inl (((l_8.getD (x44_14.toNat) ([] : List Nat)) ++ out_13), (x44_14 + (1 : Int))))))) else some (.inr out_13)
noncomputable def oC (l_8 : (List (List Nat))) : Option ((List Nat)) :=
 (cE (fun d : (List Nat) × Int => jY l_8 d.1 d.2) ((aS ⟨#[]⟩), (0 : Int))).bind (fun e => some e)
noncomputable def gW (l_20 : (List (List Nat))) (m_19 : (List Nat)) (s_25 : (List Nat)) : Option (((List Nat) × (List (List Nat))) ⊕ (((List (List Nat))))) :=
 ck (((l_20.length) + (1 : Nat)) * 16 ≤ 140737488355328) (if (((((bG m_19 ([1000000000000000000] : List Nat)).1).length) : Nat) : Int) = (0 : Int) then some (.inr (l_20 ++ ([s_25] : List (List Nat)))) else ck (I64 (((((l_20 ++ ([s_25] : List (List Nat))).length) : Nat) : Int) - (1 : Int))) (ck (I64 ((18 : Int) - (((s_25.length) : Nat) : Int))) (ck (((aQ (aS ⟨#[48]⟩) ((18 : Int) - (((s_25.length) : Nat) : Int))).isSome = true)) (ck ((((aQ (aS ⟨#[48]⟩) ((18 : Int) - (((s_25.length) : Nat) : Int))).getD ([] : List Nat)).length) + (s_25.length) ≤ 9223372036854775807) (ck (0 ≤ (((((l_20 ++ ([s_25] : List (List Nat))).length) : Nat) : Int) - (1 : Int)) ∧ (((((l_20 ++ ([s_25] : List (List Nat))).length) : Nat) : Int) - (1 : Int)) < ((((l_20 ++ ([s_25] : List (List Nat))).length) : Nat) : Int)) (some (.inl (((bG m_19 ([1000000000000000000] : List Nat)).1), ((l_20 ++ ([s_25] : List (List Nat))).set ((((((l_20 ++ ([s_25] : List (List Nat))).length) : Nat) : Int) - (1 : Int)).toNat) (((aQ (aS ⟨#[48]⟩) ((18 : Int) - (((s_25.length) : Nat) : Int))).getD ([] : List Nat)) ++ s_25))))))))))
noncomputable def jH (m_19 : (List Nat)) (l_20 : (List (List Nat))) : Option (((List Nat) × (List (List Nat))) ⊕ (((List (List Nat))))) :=
 ck ((pP m_19 ([1000000000000000000] : List Nat))) (if (0 : Int) < ((((((bG m_19 ([1000000000000000000] : List Nat)).2).1).length) : Nat) : Int) then ck ((0 : Int) < ((((((bG m_19 ([1000000000000000000] : List Nat)).2).1).length) : Nat) : Int)) (ck (((dF ((((bG m_19 ([1000000000000000000] : List Nat)).2).1).getD (0 : Nat) (0 : Nat)) (10 : Int)).isSome = true)) (gW l_20 m_19 ((dF ((((bG m_19 ([1000000000000000000] : List Nat)).2).1).getD (0 : Nat) (0 : Nat)) (10 : Int)).getD ([] : List Nat)))) else gW l_20 m_19 (aS ⟨#[]⟩))
noncomputable def aU (m_0 : (List Nat)) : Option (List Nat) :=
 (cE (fun d : (List Nat) × (List (List Nat)) => jH d.1 d.2) (m_0, ([] : List (List Nat)))).bind (fun e => oC e)
def aHw : PlR := ⟨[(0, .A [0]), (1, .A [0, 3]), (2, .A [3, 4, 5]), (3, .A [3, 4, 5, 6]), (4, .A [3, 4, 5, 6, 18]), (5, .A [3, 4, 6]), (6, .B [3, 4, 6]), (7, .A [0, 3, 6]), (8, .A [0, 3, 6, 30]), (9, .B [0, 3]), (10, .A [3, 7]), (11, .A [7, 42, 43, 44]), (12, .A [7, 42, 43, 44, 45]), (13, .A [7, 9, 42, 43, 44]), (14, .A [7, 42, 43, 44]), (15, .A [7, 42, 43, 44]), (16, .A [2])], [(5, 13), (7, 9)]⟩
def aK4 : Ty := .pair (.sl (.u .u64)) .unit
noncomputable def zT : aK := mSpec aK4 (.one .str) (fun x => aU x.1)
noncomputable def aBs : List (FuncId × aK) := [(132, kF), (62, jD), (73, iD)]
theorem aRT : bL Tryz.prog GL aBs := .cons aBR (by kernel_rfl) (.cons aAe (by kernel_rfl) (.cons zM (by kernel_rfl) (.nil)))
theorem aK5 : gam aBs 132 = some kF := rfl
theorem aMy : gam aBs 62 = some jD := rfl
theorem aMz : gam aBs 73 = some iD := rfl
attribute [go_sem] aK4 aHw aK5 aMy aMz
set_option maxHeartbeats 4000000 in
theorem aQA : FOK Tryz.prog GL 72 zT := by
 refine bK (bC aRT) mix Tryz.func72 rfl (by kernel_rfl) (by decide) aHw fun w0 S x Θ hw h hF => ?_
 obtain ⟨(m_0 : (List Nat)), u⟩ := x
 simp only [bR, go_sem]
 replace h : sat (aU m_0) _ := h
 unfold aU at h
 refine bY hF (D := (List (List Nat))) (fun d => sat (oC d) Θ) [] (fun d => [(3, .own 0)]) (fun d => [.inr (.row 9 .str d)]) ?_ ?_
 ·simp only [go_sem]
  refine tU 3 9 .str rfl ?_
  simp only [go_sem]
  refine bQ hF (D := (List Nat) × (List (List Nat))) [] (fun d => [(0, .val (.sl (.u .u64)) d.1), (3, .own 0)]) (fun d => [.inr (.row 9 .str d.2)]) h rfl (by simp only [go_sem]) ?_
  rintro ⟨m_19, l_20⟩ A2 T2 hA2 hE2 h
  simp only [go_sem]
  replace h : sat (jH m_19 l_20) _ := h
  unfold jH at h
  refine aF h fun g0 h => ?_
  refine bY hF (D := (List Nat)) (fun d => sat (gW l_20 m_19 d) T2) [4] (fun d => [(3, .own 0), (6, .val .str d)]) (fun d => [.inr (.row 9 .str l_20)]) ?_ ?_
  ·simp only [go_sem]
   refine dE h (fun hc h => ?_) fun hc h => ?_
   ·obtain ⟨g0, h⟩ := aD h
    obtain ⟨g1, h⟩ := aD h
    repeat (refine ⟨by omega, ?_⟩)
    exact aO (((dF ((((bG m_19 ([1000000000000000000] : List Nat)).2).1).getD (0 : Nat) (0 : Nat)) (10 : Int)).getD ([] : List Nat))) h rfl (by simp only [go_sem])
   ·exact aO ((aS ⟨#[]⟩)) h rfl (by simp only [go_sem])
  ·rintro s_25 h
   simp only [go_sem]
   replace h : sat (gW l_20 m_19 s_25) _ := h
   unfold gW at h
   obtain ⟨g0, h⟩ := aD h
   repeat (refine ⟨by omega, ?_⟩)
   refine cJ h (fun hc h => ?_) fun hc h => ?_
   ·replace h := hE2 _ (aB h)
    try dsimp only at h
    refine qD [1] rfl rfl ?_
    simp only [go_sem]
    exact aO ((l_20 ++ ([s_25] : List (List Nat)))) h rfl (by simp only [go_sem])
   ·obtain ⟨g0, h⟩ := aD h
    repeat (refine ⟨by omega, ?_⟩)
    obtain ⟨g0, h⟩ := aD h
    repeat (refine ⟨by omega, ?_⟩)
    obtain ⟨g0, h⟩ := aD h
    repeat (refine ⟨by omega, ?_⟩)
    obtain ⟨g0, h⟩ := aD h
    repeat (refine ⟨by omega, ?_⟩)
    obtain ⟨g0, h⟩ := aD h
    repeat (refine ⟨by omega, ?_⟩)
    replace h := hA2 _ (aB h)
    refine qD [1] rfl rfl ?_
    simp only [go_sem]
    exact aO _ h rfl (by simp only [go_sem])
 ·rintro l_8 h
  simp only [go_sem]
  replace h : sat (oC l_8) _ := h
  unfold oC at h
  refine bQ hF (D := (List Nat) × Int) [43] (fun d => [(7, .val .str d.1), (42, .own 0), (44, .val (.i .i64) d.2)]) (fun d => [.inr (.row 9 .str l_8)]) h rfl (by simp only [go_sem]) ?_
  rintro ⟨out_13, x44_14⟩ A12 T12 hA12 hE12 h
  simp only [go_sem]
  replace h : sat (jY l_8 out_13 x44_14) _ := h
  unfold jY at h
  refine dE h (fun hc h => ?_) fun hc h => ?_
  ·obtain ⟨g0, h⟩ := aD h
   repeat (refine ⟨by omega, ?_⟩)
   refine aF h fun g0 h => ?_
   refine aF h fun g0 h => ?_
   replace h := hA12 _ (aB h)
   exact aO _ h rfl (by simp only [go_sem])
  ·replace h := hE12 _ (aB h)
   try dsimp only at h
   exact aJ hF [.tmp 2] rfl rfl rfl (aB h) (by simp only [aW, go_sem])
attribute [go_sem] zT
noncomputable def lV (d_0 : (Bool × ((List Nat) × (Int × Unit)))) (q_4 : (List Nat)) (s_5 : (List Nat)) : Option (((List Nat) × (Int × Unit))) :=
 if ((d_0.1) = true) ∧ ((0 : Int) < (((q_4.length) : Nat) : Int)) then ck (((aS ⟨#[45]⟩).length) + (s_5.length) ≤ 9223372036854775807) (some (((aS ⟨#[45]⟩) ++ s_5), (0 : Int), ())) else some (s_5, (0 : Int), ())
noncomputable def lW (digits_1 : Int) (d_0 : (Bool × ((List Nat) × (Int × Unit)))) (q_4 : (List Nat)) : Option (((List Nat) × (Int × Unit))) :=
 ck (((aU q_4).isSome = true)) (ck (I64 (digits_1 + (1 : Int))) (ck (I64 ((digits_1 + (1 : Int)) - (((((aU q_4).getD ([] : List Nat)).length) : Nat) : Int))) (ck (((aQ (aS ⟨#[48]⟩) (max ((digits_1 + (1 : Int)) - (((((aU q_4).getD ([] : List Nat)).length) : Nat) : Int)) (0 : Int))).isSome = true)) (ck ((((aQ (aS ⟨#[48]⟩) (max ((digits_1 + (1 : Int)) - (((((aU q_4).getD ([] : List Nat)).length) : Nat) : Int)) (0 : Int))).getD ([] : List Nat)).length) + (((aU q_4).getD ([] : List Nat)).length) ≤ 9223372036854775807) (if (0 : Int) < digits_1 then ck (I64 (((((((aQ (aS ⟨#[48]⟩) (max ((digits_1 + (1 : Int)) - (((((aU q_4).getD ([] : List Nat)).length) : Nat) : Int)) (0 : Int))).getD ([] : List Nat)) ++ ((aU q_4).getD ([] : List Nat))).length) : Nat) : Int) - digits_1)) (ck (0 ≤ (((((((aQ (aS ⟨#[48]⟩) (max ((digits_1 + (1 : Int)) - (((((aU q_4).getD ([] : List Nat)).length) : Nat) : Int)) (0 : Int))).getD ([] : List Nat)) ++ ((aU q_4).getD ([] : List Nat))).length) : Nat) : Int) - digits_1) ∧ (((((((aQ (aS ⟨#[48]⟩) (max ((digits_1 + (1 : Int)) - (((((aU q_4).getD ([] : List Nat)).length) : Nat) : Int)) (0 : Int))).getD ([] : List Nat)) ++ ((aU q_4).getD ([] : List Nat))).length) : Nat) : Int) - digits_1) ≤ ((((((aQ (aS ⟨#[48]⟩) (max ((digits_1 + (1 : Int)) - (((((aU q_4).getD ([] : List Nat)).length) : Nat) : Int)) (0 : Int))).getD ([] : List Nat)) ++ ((aU q_4).getD ([] : List Nat))).length) : Nat) : Int)) (ck (((List.take ((((((((aQ (aS ⟨#[48]⟩) (max ((digits_1 + (1 : Int)) - (((((aU q_4).getD ([] : List Nat)).length) : Nat) : Int)) (0 : Int))).getD ([] : List Nat)) ++ ((aU q_4).getD ([] : List Nat))).length) : Nat) : Int) - digits_1).toNat) (((aQ (aS ⟨#[48]⟩) (max ((digits_1 + (1 : Int)) - (((((aU q_4).getD ([] : List Nat)).length) : Nat) : Int)) (0 : Int))).getD ([] : List Nat)) ++ ((aU q_4).getD ([] : List Nat)))).length) + ((aS ⟨#[46]⟩).length) ≤ 9223372036854775807) (ck (I64 (((((((aQ (aS ⟨#[48]⟩) (max ((digits_1 + (1 : Int)) - (((((aU q_4).getD ([] : List Nat)).length) : Nat) : Int)) (0 : Int))).getD ([] : List Nat)) ++ ((aU q_4).getD ([] : List Nat))).length) : Nat) : Int) - digits_1)) (ck (0 ≤ (((((((aQ (aS ⟨#[48]⟩) (max ((digits_1 + (1 : Int)) - (((((aU q_4).getD ([] : List Nat)).length) : Nat) : Int)) (0 : Int))).getD ([] : List Nat)) ++ ((aU q_4).getD ([] : List Nat))).length) : Nat) : Int) - digits_1) ∧ (((((((aQ (aS ⟨#[48]⟩) (max ((digits_1 + (1 : Int)) - (((((aU q_4).getD ([] : List Nat)).length) : Nat) : Int)) (0 : Int))).getD ([] : List Nat)) ++ ((aU q_4).getD ([] : List Nat))).length) : Nat) : Int) - digits_1) ≤ ((((((aQ (aS ⟨#[48]⟩) (max ((digits_1 + (1 : Int)) - (((((aU q_4).getD ([] : List Nat)).length) : Nat) : Int)) (0 : Int))).getD ([] : List Nat)) ++ ((aU q_4).getD ([] : List Nat))).length) : Nat) : Int)) (ck ((((List.take ((((((((aQ (aS ⟨#[48]⟩) (max ((digits_1 + (1 : Int)) - (((((aU q_4).getD ([] : List Nat)).length) : Nat) : Int)) (0 : Int))).getD ([] : List Nat)) ++ ((aU q_4).getD ([] : List Nat))).length) : Nat) : Int) - digits_1).toNat) (((aQ (aS ⟨#[48]⟩) (max ((digits_1 + (1 : Int)) - (((((aU q_4).getD ([] : List Nat)).length) : Nat) : Int)) (0 : Int))).getD ([] : List Nat)) ++ ((aU q_4).getD ([] : List Nat)))) ++ (aS ⟨#[46]⟩)).length) + ((List.drop ((((((((aQ (aS ⟨#[48]⟩) (max ((digits_1 + (1 : Int)) - (((((aU q_4).getD ([] : List Nat)).length) : Nat) : Int)) (0 : Int))).getD ([] : List Nat)) ++ ((aU q_4).getD ([] : List Nat))).length) : Nat) : Int) - digits_1).toNat) (((aQ (aS ⟨#[48]⟩) (max ((digits_1 + (1 : Int)) - (((((aU q_4).getD ([] : List Nat)).length) : Nat) : Int)) (0 : Int))).getD ([] : List Nat)) ++ ((aU q_4).getD ([] : List Nat)))).length) ≤ 9223372036854775807) (lV d_0 q_4 (((List.take ((((((((aQ (aS ⟨#[48]⟩) (max ((digits_1 + (1 : Int)) - (((((aU q_4).getD ([] : List Nat)).length) : Nat) : Int)) (0 : Int))).getD ([] : List Nat)) ++ ((aU q_4).getD ([] : List Nat))).length) : Nat) : Int) - digits_1).toNat) (((aQ (aS ⟨#[48]⟩) (max ((digits_1 + (1 : Int)) - (((((aU q_4).getD ([] : List Nat)).length) : Nat) : Int)) (0 : Int))).getD ([] : List Nat)) ++ ((aU q_4).getD ([] : List Nat)))) ++ (aS ⟨#[46]⟩)) ++ (List.drop ((((((((aQ (aS ⟨#[48]⟩) (max ((digits_1 + (1 : Int)) - (((((aU q_4).getD ([] : List Nat)).length) : Nat) : Int)) (0 : Int))).getD ([] : List Nat)) ++ ((aU q_4).getD ([] : List Nat))).length) : Nat) : Int) - digits_1).toNat) (((aQ (aS ⟨#[48]⟩) (max ((digits_1 + (1 : Int)) - (((((aU q_4).getD ([] : List Nat)).length) : Nat) : Int)) (0 : Int))).getD ([] : List Nat)) ++ ((aU q_4).getD ([] : List Nat))))))))))) else lV d_0 q_4 (((aQ (aS ⟨#[48]⟩) (max ((digits_1 + (1 : Int)) - (((((aU q_4).getD ([] : List Nat)).length) : Nat) : Int)) (0 : Int))).getD ([] : List Nat)) ++ ((aU q_4).getD ([] : List Nat))))))))
noncomputable def aP (d_0 : (Bool × ((List Nat) × (Int × Unit)))) (digits_1 : Int) (up_2 : Bool) : Option ((List Nat) × (Int × Unit)) :=
 ck (((dD d_0).isSome = true)) (if ((¬ (((dD d_0).getD false) = true)) ∨ (digits_1 < (0 : Int))) ∨ ((60 : Int) < digits_1) then some ((aS ⟨#[]⟩), (1 : Int), ()) else if ((2000 : Int) < (((d_0.2).2).1)) ∨ ((((d_0.2).2).1) < (-2000 : Int)) then some ((aS ⟨#[]⟩), (2 : Int), ()) else ck ((aGA ((d_0.2).1) (max (((d_0.2).2).1) (0 : Int)))) (ck (((bE (10 : Nat) digits_1).isSome = true)) (ck ((aHM (bH ((d_0.2).1) (max (((d_0.2).2).1) (0 : Int))) ((bE (10 : Nat) digits_1).getD ([] : List Nat)))) (ck (I64 (0 - (((d_0.2).2).1))) (ck ((aFR (bD (bH ((d_0.2).1) (max (((d_0.2).2).1) (0 : Int))) ((bE (10 : Nat) digits_1).getD ([] : List Nat))) (max (0 - (((d_0.2).2).1)) (0 : Int)))) (ck ((((0 : Int) < ((((bD (bH ((d_0.2).1) (max (((d_0.2).2).1) (0 : Int))) ((bE (10 : Nat) digits_1).getD ([] : List Nat))).length) : Nat) : Int)) → ((pSz (bD (bH ((d_0.2).1) (max (((d_0.2).2).1) (0 : Int))) ((bE (10 : Nat) digits_1).getD ([] : List Nat))))))) (if (((0 : Int) < ((((bD (bH ((d_0.2).1) (max (((d_0.2).2).1) (0 : Int))) ((bE (10 : Nat) digits_1).getD ([] : List Nat))).length) : Nat) : Int)) ∧ ((bX (bD (bH ((d_0.2).1) (max (((d_0.2).2).1) (0 : Int))) ((bE (10 : Nat) digits_1).getD ([] : List Nat)))) < (max (0 - (((d_0.2).2).1)) (0 : Int)))) ∧ ((up_2 != (d_0.1)) = true) then ck ((aHM (cM (bD (bH ((d_0.2).1) (max (((d_0.2).2).1) (0 : Int))) ((bE (10 : Nat) digits_1).getD ([] : List Nat))) (max (0 - (((d_0.2).2).1)) (0 : Int))) ([1] : List Nat))) (lW digits_1 d_0 (fR (cM (bD (bH ((d_0.2).1) (max (((d_0.2).2).1) (0 : Int))) ((bE (10 : Nat) digits_1).getD ([] : List Nat))) (max (0 - (((d_0.2).2).1)) (0 : Int))) ([1] : List Nat))) else lW digits_1 d_0 (cM (bD (bH ((d_0.2).1) (max (((d_0.2).2).1) (0 : Int))) ((bE (10 : Nat) digits_1).getD ([] : List Nat))) (max (0 - (((d_0.2).2).1)) (0 : Int))))))))))
def aHx : PlR := ⟨[(0, .B [1, 2, 3]), (1, .A [1, 2, 3, 12]), (2, .A [6, 7]), (3, .A [1, 2, 3, 24]), (4, .A [6, 7]), (5, .A [1, 2, 3, 8]), (6, .A [1, 2, 3, 8, 9]), (7, .A [1, 2, 3, 8, 9, 10]), (8, .A [1, 3, 10, 63]), (9, .A [1, 3, 10]), (10, .A [1, 3, 10, 11]), (11, .A [1, 3, 10, 11]), (12, .A [1, 3, 10, 11, 79]), (13, .A [3, 10, 11]), (14, .A [11, 100]), (15, .A [11]), (16, .A [6, 7])], [(11, 13), (15, 17)]⟩
def aK6 : Ty := .pair (.pair .bool (.pair (.sl (.u .u64)) (.pair (.i .i64) .unit))) (.pair (.i .i64) (.pair .bool .unit))
noncomputable def zU : aK := mSpec aK6 (.tup (.pair .str (.pair (.i .i64) .unit))) (fun x => aP x.1 x.2.1 x.2.2.1)
noncomputable def lX : List (FuncId × aK) := [(29, fW), (63, eY), (65, kN), (68, jB), (69, gS), (70, kL), (71, mS), (72, zT), (73, iD)]
theorem aRU : bL Tryz.prog GL lX := .cons vN (by kernel_rfl) (.cons sT (by kernel_rfl) (.cons aBn (by kernel_rfl) (.cons zF (by kernel_rfl) (.cons wO (by kernel_rfl) (.cons aBf (by kernel_rfl) (.cons aCr (by kernel_rfl) (.cons aQA (by kernel_rfl) (.cons zM (by kernel_rfl) (.nil)))))))))
theorem aMA : gam lX 29 = some fW := rfl
theorem aMB : gam lX 63 = some eY := rfl
theorem aMC : gam lX 65 = some kN := rfl
theorem aMD : gam lX 68 = some jB := rfl
theorem aME : gam lX 69 = some gS := rfl
theorem aMF : gam lX 70 = some kL := rfl
theorem aMG : gam lX 71 = some mS := rfl
theorem aMH : gam lX 72 = some zT := rfl
theorem aMI : gam lX 73 = some iD := rfl
attribute [go_sem] aK6 aHx aMA aMB aMC aMD aME aMF aMG aMH aMI
set_option maxHeartbeats 4000000 in
theorem aQB : FOK Tryz.prog GL 27 zU := by
 refine bK (bC aRU) mix Tryz.func27 rfl (by kernel_rfl) (by decide) aHx fun w0 S x Θ hw h hF => ?_
 obtain ⟨(d_0 : (Bool × ((List Nat) × (Int × Unit)))), (digits_1 : Int), (up_2 : Bool), u⟩ := x
 simp only [bR, go_sem]
 replace h : sat (aP d_0 digits_1 up_2) _ := h
 unfold aP at h
 refine aF h fun g0 h => ?_
 refine ⟨fun hc => ?_, fun hc => ?_⟩
 ·replace h := eC (by first | exact hc | omega | (simpa using hc) | (simp at hc ⊢; omega)) h
  exact aJ hF [.tmp 6, .tmp 7] rfl rfl rfl (aB h) (by simp only [aW, go_sem])
 ·replace h := eE (by first | exact hc | omega | (simpa using hc) | (simp at hc ⊢; omega)) h
  refine ⟨fun hc => ?_, fun hc => ?_⟩
  ·replace h := eC hc h
   exact aJ hF [.tmp 6, .tmp 7] rfl rfl rfl (aB h) (by simp only [aW, go_sem])
  ·replace h := eE hc h
   refine aF h fun g0 h => aF h fun g1 h => aF h fun g2 h => ?_
   refine aF h fun g0 h => ?_
   refine aF h fun g0 h => ?_
   refine bY hF (D := (List Nat)) (fun d => sat (lW digits_1 d_0 d) Θ) [1] (fun d => [(3, .ptr 0 []), (10, .val (.sl (.u .u64)) d)]) (fun d => [.inr (.box 3 (.val (.pair .bool (.pair (.sl (.u .u64)) (.pair (.i .i64) .unit))) d_0))]) ?_ ?_
   ·simp only [go_sem]
    refine aF h fun g0 h => ?_
    refine ⟨fun hc => ?_, fun hc => ?_⟩
    ·replace h := eC hc h
     refine aF h fun g0 h => ?_
     exact aO ((fR (cM (bD (bH ((d_0.2).1) (max (((d_0.2).2).1) (0 : Int))) ((bE (10 : Nat) digits_1).getD ([] : List Nat))) (max (0 - (((d_0.2).2).1)) (0 : Int))) ([1] : List Nat))) h rfl (by simp only [go_sem])
    ·replace h := eE hc h
     exact aO ((cM (bD (bH ((d_0.2).1) (max (((d_0.2).2).1) (0 : Int))) ((bE (10 : Nat) digits_1).getD ([] : List Nat))) (max (0 - (((d_0.2).2).1)) (0 : Int)))) h rfl (by simp only [go_sem])
   ·rintro q_4 h
    simp only [go_sem]
    replace h : sat (lW digits_1 d_0 q_4) _ := h
    unfold lW at h
    refine aF h fun g0 h => ?_
    refine aF h fun g0 h => aF h fun g1 h => aF h fun g2 h => aF h fun g3 h => ?_
    refine bY hF (D := (List Nat)) (fun d => sat (lV d_0 q_4 d) Θ) [10] (fun d => [(3, .ptr 0 []), (11, .val .str d)]) (fun d => [.inr (.box 3 (.val (.pair .bool (.pair (.sl (.u .u64)) (.pair (.i .i64) .unit))) d_0))]) ?_ ?_
    ·simp only [go_sem]
     refine dE h (fun hc h => ?_) fun hc h => ?_
     ·refine aF h fun g0 h => aF h fun g1 h => aF h fun g2 h => aF h fun g3 h => aF h fun g4 h => aF h fun g5 h => ?_
      exact aO ((((List.take ((((((((aQ (aS ⟨#[48]⟩) (max ((digits_1 + (1 : Int)) - (((((aU q_4).getD ([] : List Nat)).length) : Nat) : Int)) (0 : Int))).getD ([] : List Nat)) ++ ((aU q_4).getD ([] : List Nat))).length) : Nat) : Int) - digits_1).toNat) (((aQ (aS ⟨#[48]⟩) (max ((digits_1 + (1 : Int)) - (((((aU q_4).getD ([] : List Nat)).length) : Nat) : Int)) (0 : Int))).getD ([] : List Nat)) ++ ((aU q_4).getD ([] : List Nat)))) ++ (aS ⟨#[46]⟩)) ++ (List.drop ((((((((aQ (aS ⟨#[48]⟩) (max ((digits_1 + (1 : Int)) - (((((aU q_4).getD ([] : List Nat)).length) : Nat) : Int)) (0 : Int))).getD ([] : List Nat)) ++ ((aU q_4).getD ([] : List Nat))).length) : Nat) : Int) - digits_1).toNat) (((aQ (aS ⟨#[48]⟩) (max ((digits_1 + (1 : Int)) - (((((aU q_4).getD ([] : List Nat)).length) : Nat) : Int)) (0 : Int))).getD ([] : List Nat)) ++ ((aU q_4).getD ([] : List Nat)))))) h rfl (by simp only [go_sem])
     ·exact aO ((((aQ (aS ⟨#[48]⟩) (max ((digits_1 + (1 : Int)) - (((((aU q_4).getD ([] : List Nat)).length) : Nat) : Int)) (0 : Int))).getD ([] : List Nat)) ++ ((aU q_4).getD ([] : List Nat)))) h rfl (by simp only [go_sem])
    ·rintro s_5 h
     simp only [go_sem]
     replace h : sat (lV d_0 q_4 s_5) _ := h
     unfold lV at h
     refine ⟨fun hc => ?_, fun hc => ?_⟩
     ·replace h := eC hc h
      refine aF h fun g0 h => ?_
      exact aJ hF [.tmp 6, .tmp 7] rfl rfl rfl (aB h) (by simp only [aW, go_sem])
     ·replace h := eE hc h
      exact aJ hF [.tmp 6, .tmp 7] rfl rfl rfl (aB h) (by simp only [aW, go_sem])
attribute [go_sem] zU
noncomputable def eQ (a_0 : (Bool × ((List Nat) × (Int × Unit)))) (b_1 : (Bool × ((List Nat) × (Int × Unit)))) : Option Bool :=
 ck ((((((a_0.1) == (b_1.1)) = true) ∧ ((((a_0.2).2).1) = (((b_1.2).2).1))) → (((dR ((a_0.2).1) ((b_1.2).1)).isSome = true)))) (some ((((a_0.1) == (b_1.1)) && (decide ((((a_0.2).2).1) = (((b_1.2).2).1)))) && ((dR ((a_0.2).1) ((b_1.2).1)).getD false)))
def aFf : PlR := ⟨[(0, .B [2, 3]), (1, .A [4])], []⟩
def aHy : Ty := .pair (.pair .bool (.pair (.sl (.u .u64)) (.pair (.i .i64) .unit))) (.pair (.pair .bool (.pair (.sl (.u .u64)) (.pair (.i .i64) .unit))) .unit)
noncomputable def xD : aK := mSpec aHy (.one .bool) (fun x => eQ x.1 x.2.1)
noncomputable def aHz : List (FuncId × aK) := [(84, iX)]
theorem aQC : bL Tryz.prog GL aHz := .cons aBr (by kernel_rfl) (.nil)
theorem aK7 : gam aHz 84 = some iX := rfl
attribute [go_sem] aHy aFf aK7
set_option maxHeartbeats 4000000 in
theorem aOM : FOK Tryz.prog GL 32 xD := by
 refine bK (bC aQC) mix Tryz.func32 rfl (by kernel_rfl) (by decide) aFf fun w0 S x Θ hw h hF => ?_
 obtain ⟨(a_0 : (Bool × ((List Nat) × (Int × Unit)))), (b_1 : (Bool × ((List Nat) × (Int × Unit)))), u⟩ := x
 simp only [bR, go_sem]
 replace h : sat (eQ a_0 b_1) _ := h
 unfold eQ at h
 refine aF h fun g0 h => ?_
 exact aJ hF [.tmp 4] rfl rfl rfl (aB h) (by simp only [aW, go_sem])
attribute [go_sem] xD
noncomputable def pH : Option Bool :=
 ck (((aP (false, ([1] : List Nat), (-3 : Int), ()) (2 : Int) false).isSome = true)) (ck (((aP (false, ([1] : List Nat), (-3 : Int), ()) (2 : Int) true).isSome = true)) (ck (((cF (false, ([1] : List Nat), (-3 : Int), ())).isSome = true)) (ck (((aP ((cF (false, ([1] : List Nat), (-3 : Int), ())).getD (false, ([] : List Nat), (0 : Int), ())) (2 : Int) false).isSome = true)) (ck (((bF (aS ⟨#[48, 46, 49, 50, 53]⟩)).isSome = true)) (ck (((bF (aS ⟨#[48, 46, 49]⟩)).isSome = true)) (ck (((cG (aS ⟨#[48, 46, 49]⟩) (20 : Int)).isSome = true)) (ck (I64 (((((aP (false, ([1] : List Nat), (-3 : Int), ()) (2 : Int) false).getD (([] : List Nat), (0 : Int), ())).2).1) + ((((aP (false, ([1] : List Nat), (-3 : Int), ()) (2 : Int) true).getD (([] : List Nat), (0 : Int), ())).2).1))) (ck (I64 ((((((aP (false, ([1] : List Nat), (-3 : Int), ()) (2 : Int) false).getD (([] : List Nat), (0 : Int), ())).2).1) + ((((aP (false, ([1] : List Nat), (-3 : Int), ()) (2 : Int) true).getD (([] : List Nat), (0 : Int), ())).2).1)) + ((((aP ((cF (false, ([1] : List Nat), (-3 : Int), ())).getD (false, ([] : List Nat), (0 : Int), ())) (2 : Int) false).getD (([] : List Nat), (0 : Int), ())).2).1))) (ck (I64 (((((((aP (false, ([1] : List Nat), (-3 : Int), ()) (2 : Int) false).getD (([] : List Nat), (0 : Int), ())).2).1) + ((((aP (false, ([1] : List Nat), (-3 : Int), ()) (2 : Int) true).getD (([] : List Nat), (0 : Int), ())).2).1)) + ((((aP ((cF (false, ([1] : List Nat), (-3 : Int), ())).getD (false, ([] : List Nat), (0 : Int), ())) (2 : Int) false).getD (([] : List Nat), (0 : Int), ())).2).1)) + ((((bF (aS ⟨#[48, 46, 49, 50, 53]⟩)).getD ((false, ([] : List Nat), (0 : Int), ()), (0 : Int), ())).2).1))) (ck (I64 ((((((((aP (false, ([1] : List Nat), (-3 : Int), ()) (2 : Int) false).getD (([] : List Nat), (0 : Int), ())).2).1) + ((((aP (false, ([1] : List Nat), (-3 : Int), ()) (2 : Int) true).getD (([] : List Nat), (0 : Int), ())).2).1)) + ((((aP ((cF (false, ([1] : List Nat), (-3 : Int), ())).getD (false, ([] : List Nat), (0 : Int), ())) (2 : Int) false).getD (([] : List Nat), (0 : Int), ())).2).1)) + ((((bF (aS ⟨#[48, 46, 49, 50, 53]⟩)).getD ((false, ([] : List Nat), (0 : Int), ()), (0 : Int), ())).2).1)) + ((((cG (aS ⟨#[48, 46, 49]⟩) (20 : Int)).getD (((false, ([] : List Nat), (0 : Int), ()), (false, ([] : List Nat), (0 : Int), ()), ()), (0 : Int), ())).2).1))) (ck ((((((((((((((aP (false, ([1] : List Nat), (-3 : Int), ()) (2 : Int) false).getD (([] : List Nat), (0 : Int), ())).2).1) + ((((aP (false, ([1] : List Nat), (-3 : Int), ()) (2 : Int) true).getD (([] : List Nat), (0 : Int), ())).2).1)) + ((((aP ((cF (false, ([1] : List Nat), (-3 : Int), ())).getD (false, ([] : List Nat), (0 : Int), ())) (2 : Int) false).getD (([] : List Nat), (0 : Int), ())).2).1)) + ((((bF (aS ⟨#[48, 46, 49, 50, 53]⟩)).getD ((false, ([] : List Nat), (0 : Int), ()), (0 : Int), ())).2).1)) + ((((cG (aS ⟨#[48, 46, 49]⟩) (20 : Int)).getD (((false, ([] : List Nat), (0 : Int), ()), (false, ([] : List Nat), (0 : Int), ()), ()), (0 : Int), ())).2).1)) = (0 : Int)) ∧ ((((aP (false, ([1] : List Nat), (-3 : Int), ()) (2 : Int) false).getD (([] : List Nat), (0 : Int), ())).1) = (aS ⟨#[48, 46, 49, 50]⟩))) ∧ ((((aP (false, ([1] : List Nat), (-3 : Int), ()) (2 : Int) true).getD (([] : List Nat), (0 : Int), ())).1) = (aS ⟨#[48, 46, 49, 51]⟩))) ∧ ((((aP ((cF (false, ([1] : List Nat), (-3 : Int), ())).getD (false, ([] : List Nat), (0 : Int), ())) (2 : Int) false).getD (([] : List Nat), (0 : Int), ())).1) = (aS ⟨#[45, 48, 46, 49, 51]⟩))) → (((eQ (((bF (aS ⟨#[48, 46, 49, 50, 53]⟩)).getD ((false, ([] : List Nat), (0 : Int), ()), (0 : Int), ())).1) (false, ([1] : List Nat), (-3 : Int), ())).isSome = true)))) (ck ((((((((((((((((aP (false, ([1] : List Nat), (-3 : Int), ()) (2 : Int) false).getD (([] : List Nat), (0 : Int), ())).2).1) + ((((aP (false, ([1] : List Nat), (-3 : Int), ()) (2 : Int) true).getD (([] : List Nat), (0 : Int), ())).2).1)) + ((((aP ((cF (false, ([1] : List Nat), (-3 : Int), ())).getD (false, ([] : List Nat), (0 : Int), ())) (2 : Int) false).getD (([] : List Nat), (0 : Int), ())).2).1)) + ((((bF (aS ⟨#[48, 46, 49, 50, 53]⟩)).getD ((false, ([] : List Nat), (0 : Int), ()), (0 : Int), ())).2).1)) + ((((cG (aS ⟨#[48, 46, 49]⟩) (20 : Int)).getD (((false, ([] : List Nat), (0 : Int), ()), (false, ([] : List Nat), (0 : Int), ()), ()), (0 : Int), ())).2).1)) = (0 : Int)) ∧ ((((aP (false, ([1] : List Nat), (-3 : Int), ()) (2 : Int) false).getD (([] : List Nat), (0 : Int), ())).1) = (aS ⟨#[48, 46, 49, 50]⟩))) ∧ ((((aP (false, ([1] : List Nat), (-3 : Int), ()) (2 : Int) true).getD (([] : List Nat), (0 : Int), ())).1) = (aS ⟨#[48, 46, 49, 51]⟩))) ∧ ((((aP ((cF (false, ([1] : List Nat), (-3 : Int), ())).getD (false, ([] : List Nat), (0 : Int), ())) (2 : Int) false).getD (([] : List Nat), (0 : Int), ())).1) = (aS ⟨#[45, 48, 46, 49, 51]⟩))) ∧ (((eQ (((bF (aS ⟨#[48, 46, 49, 50, 53]⟩)).getD ((false, ([] : List Nat), (0 : Int), ()), (0 : Int), ())).1) (false, ([1] : List Nat), (-3 : Int), ())).getD false) = true)) ∧ (((((bF (aS ⟨#[48, 46, 49]⟩)).getD ((false, ([] : List Nat), (0 : Int), ()), (0 : Int), ())).2).1) = (6 : Int))) → (((gG ((((cG (aS ⟨#[48, 46, 49]⟩) (20 : Int)).getD (((false, ([] : List Nat), (0 : Int), ()), (false, ([] : List Nat), (0 : Int), ()), ()), (0 : Int), ())).1).1) (((((cG (aS ⟨#[48, 46, 49]⟩) (20 : Int)).getD (((false, ([] : List Nat), (0 : Int), ()), (false, ([] : List Nat), (0 : Int), ()), ()), (0 : Int), ())).1).2).1)).isSome = true)))) (ck (((((((((((((((((aP (false, ([1] : List Nat), (-3 : Int), ()) (2 : Int) false).getD (([] : List Nat), (0 : Int), ())).2).1) + ((((aP (false, ([1] : List Nat), (-3 : Int), ()) (2 : Int) true).getD (([] : List Nat), (0 : Int), ())).2).1)) + ((((aP ((cF (false, ([1] : List Nat), (-3 : Int), ())).getD (false, ([] : List Nat), (0 : Int), ())) (2 : Int) false).getD (([] : List Nat), (0 : Int), ())).2).1)) + ((((bF (aS ⟨#[48, 46, 49, 50, 53]⟩)).getD ((false, ([] : List Nat), (0 : Int), ()), (0 : Int), ())).2).1)) + ((((cG (aS ⟨#[48, 46, 49]⟩) (20 : Int)).getD (((false, ([] : List Nat), (0 : Int), ()), (false, ([] : List Nat), (0 : Int), ()), ()), (0 : Int), ())).2).1)) = (0 : Int)) ∧ ((((aP (false, ([1] : List Nat), (-3 : Int), ()) (2 : Int) false).getD (([] : List Nat), (0 : Int), ())).1) = (aS ⟨#[48, 46, 49, 50]⟩))) ∧ ((((aP (false, ([1] : List Nat), (-3 : Int), ()) (2 : Int) true).getD (([] : List Nat), (0 : Int), ())).1) = (aS ⟨#[48, 46, 49, 51]⟩))) ∧ ((((aP ((cF (false, ([1] : List Nat), (-3 : Int), ())).getD (false, ([] : List Nat), (0 : Int), ())) (2 : Int) false).getD (([] : List Nat), (0 : Int), ())).1) = (aS ⟨#[45, 48, 46, 49, 51]⟩))) ∧ (((eQ (((bF (aS ⟨#[48, 46, 49, 50, 53]⟩)).getD ((false, ([] : List Nat), (0 : Int), ()), (0 : Int), ())).1) (false, ([1] : List Nat), (-3 : Int), ())).getD false) = true)) ∧ (((((bF (aS ⟨#[48, 46, 49]⟩)).getD ((false, ([] : List Nat), (0 : Int), ()), (0 : Int), ())).2).1) = (6 : Int))) ∧ (((gG ((((cG (aS ⟨#[48, 46, 49]⟩) (20 : Int)).getD (((false, ([] : List Nat), (0 : Int), ()), (false, ([] : List Nat), (0 : Int), ()), ()), (0 : Int), ())).1).1) (((((cG (aS ⟨#[48, 46, 49]⟩) (20 : Int)).getD (((false, ([] : List Nat), (0 : Int), ()), (false, ([] : List Nat), (0 : Int), ()), ()), (0 : Int), ())).1).2).1)).getD (0 : Int)) < (0 : Int))) → (((bT (aS ⟨#[49, 46, 53, 101, 45, 51]⟩)).isSome = true)))) (ck ((((((((((((((((((aP (false, ([1] : List Nat), (-3 : Int), ()) (2 : Int) false).getD (([] : List Nat), (0 : Int), ())).2).1) + ((((aP (false, ([1] : List Nat), (-3 : Int), ()) (2 : Int) true).getD (([] : List Nat), (0 : Int), ())).2).1)) + ((((aP ((cF (false, ([1] : List Nat), (-3 : Int), ())).getD (false, ([] : List Nat), (0 : Int), ())) (2 : Int) false).getD (([] : List Nat), (0 : Int), ())).2).1)) + ((((bF (aS ⟨#[48, 46, 49, 50, 53]⟩)).getD ((false, ([] : List Nat), (0 : Int), ()), (0 : Int), ())).2).1)) + ((((cG (aS ⟨#[48, 46, 49]⟩) (20 : Int)).getD (((false, ([] : List Nat), (0 : Int), ()), (false, ([] : List Nat), (0 : Int), ()), ()), (0 : Int), ())).2).1)) = (0 : Int)) ∧ ((((aP (false, ([1] : List Nat), (-3 : Int), ()) (2 : Int) false).getD (([] : List Nat), (0 : Int), ())).1) = (aS ⟨#[48, 46, 49, 50]⟩))) ∧ ((((aP (false, ([1] : List Nat), (-3 : Int), ()) (2 : Int) true).getD (([] : List Nat), (0 : Int), ())).1) = (aS ⟨#[48, 46, 49, 51]⟩))) ∧ ((((aP ((cF (false, ([1] : List Nat), (-3 : Int), ())).getD (false, ([] : List Nat), (0 : Int), ())) (2 : Int) false).getD (([] : List Nat), (0 : Int), ())).1) = (aS ⟨#[45, 48, 46, 49, 51]⟩))) ∧ (((eQ (((bF (aS ⟨#[48, 46, 49, 50, 53]⟩)).getD ((false, ([] : List Nat), (0 : Int), ()), (0 : Int), ())).1) (false, ([1] : List Nat), (-3 : Int), ())).getD false) = true)) ∧ (((((bF (aS ⟨#[48, 46, 49]⟩)).getD ((false, ([] : List Nat), (0 : Int), ()), (0 : Int), ())).2).1) = (6 : Int))) ∧ (((gG ((((cG (aS ⟨#[48, 46, 49]⟩) (20 : Int)).getD (((false, ([] : List Nat), (0 : Int), ()), (false, ([] : List Nat), (0 : Int), ()), ()), (0 : Int), ())).1).1) (((((cG (aS ⟨#[48, 46, 49]⟩) (20 : Int)).getD (((false, ([] : List Nat), (0 : Int), ()), (false, ([] : List Nat), (0 : Int), ()), ()), (0 : Int), ())).1).2).1)).getD (0 : Int)) < (0 : Int))) ∧ (((bT (aS ⟨#[49, 46, 53, 101, 45, 51]⟩)).getD false) = true)) → (((bT (aS ⟨#[49, 46]⟩)).isSome = true)))) (ck (((((((((((((((((((aP (false, ([1] : List Nat), (-3 : Int), ()) (2 : Int) false).getD (([] : List Nat), (0 : Int), ())).2).1) + ((((aP (false, ([1] : List Nat), (-3 : Int), ()) (2 : Int) true).getD (([] : List Nat), (0 : Int), ())).2).1)) + ((((aP ((cF (false, ([1] : List Nat), (-3 : Int), ())).getD (false, ([] : List Nat), (0 : Int), ())) (2 : Int) false).getD (([] : List Nat), (0 : Int), ())).2).1)) + ((((bF (aS ⟨#[48, 46, 49, 50, 53]⟩)).getD ((false, ([] : List Nat), (0 : Int), ()), (0 : Int), ())).2).1)) + ((((cG (aS ⟨#[48, 46, 49]⟩) (20 : Int)).getD (((false, ([] : List Nat), (0 : Int), ()), (false, ([] : List Nat), (0 : Int), ()), ()), (0 : Int), ())).2).1)) = (0 : Int)) ∧ ((((aP (false, ([1] : List Nat), (-3 : Int), ()) (2 : Int) false).getD (([] : List Nat), (0 : Int), ())).1) = (aS ⟨#[48, 46, 49, 50]⟩))) ∧ ((((aP (false, ([1] : List Nat), (-3 : Int), ()) (2 : Int) true).getD (([] : List Nat), (0 : Int), ())).1) = (aS ⟨#[48, 46, 49, 51]⟩))) ∧ ((((aP ((cF (false, ([1] : List Nat), (-3 : Int), ())).getD (false, ([] : List Nat), (0 : Int), ())) (2 : Int) false).getD (([] : List Nat), (0 : Int), ())).1) = (aS ⟨#[45, 48, 46, 49, 51]⟩))) ∧ (((eQ (((bF (aS ⟨#[48, 46, 49, 50, 53]⟩)).getD ((false, ([] : List Nat), (0 : Int), ()), (0 : Int), ())).1) (false, ([1] : List Nat), (-3 : Int), ())).getD false) = true)) ∧ (((((bF (aS ⟨#[48, 46, 49]⟩)).getD ((false, ([] : List Nat), (0 : Int), ()), (0 : Int), ())).2).1) = (6 : Int))) ∧ (((gG ((((cG (aS ⟨#[48, 46, 49]⟩) (20 : Int)).getD (((false, ([] : List Nat), (0 : Int), ()), (false, ([] : List Nat), (0 : Int), ()), ()), (0 : Int), ())).1).1) (((((cG (aS ⟨#[48, 46, 49]⟩) (20 : Int)).getD (((false, ([] : List Nat), (0 : Int), ()), (false, ([] : List Nat), (0 : Int), ()), ()), (0 : Int), ())).1).2).1)).getD (0 : Int)) < (0 : Int))) ∧ (((bT (aS ⟨#[49, 46, 53, 101, 45, 51]⟩)).getD false) = true)) ∧ (¬ (((bT (aS ⟨#[49, 46]⟩)).getD false) = true))) → (((bT (aS ⟨#[46, 53]⟩)).isSome = true)))) (ck ((((((((((((((((((((aP (false, ([1] : List Nat), (-3 : Int), ()) (2 : Int) false).getD (([] : List Nat), (0 : Int), ())).2).1) + ((((aP (false, ([1] : List Nat), (-3 : Int), ()) (2 : Int) true).getD (([] : List Nat), (0 : Int), ())).2).1)) + ((((aP ((cF (false, ([1] : List Nat), (-3 : Int), ())).getD (false, ([] : List Nat), (0 : Int), ())) (2 : Int) false).getD (([] : List Nat), (0 : Int), ())).2).1)) + ((((bF (aS ⟨#[48, 46, 49, 50, 53]⟩)).getD ((false, ([] : List Nat), (0 : Int), ()), (0 : Int), ())).2).1)) + ((((cG (aS ⟨#[48, 46, 49]⟩) (20 : Int)).getD (((false, ([] : List Nat), (0 : Int), ()), (false, ([] : List Nat), (0 : Int), ()), ()), (0 : Int), ())).2).1)) = (0 : Int)) ∧ ((((aP (false, ([1] : List Nat), (-3 : Int), ()) (2 : Int) false).getD (([] : List Nat), (0 : Int), ())).1) = (aS ⟨#[48, 46, 49, 50]⟩))) ∧ ((((aP (false, ([1] : List Nat), (-3 : Int), ()) (2 : Int) true).getD (([] : List Nat), (0 : Int), ())).1) = (aS ⟨#[48, 46, 49, 51]⟩))) ∧ ((((aP ((cF (false, ([1] : List Nat), (-3 : Int), ())).getD (false, ([] : List Nat), (0 : Int), ())) (2 : Int) false).getD (([] : List Nat), (0 : Int), ())).1) = (aS ⟨#[45, 48, 46, 49, 51]⟩))) ∧ (((eQ (((bF (aS ⟨#[48, 46, 49, 50, 53]⟩)).getD ((false, ([] : List Nat), (0 : Int), ()), (0 : Int), ())).1) (false, ([1] : List Nat), (-3 : Int), ())).getD false) = true)) ∧ (((((bF (aS ⟨#[48, 46, 49]⟩)).getD ((false, ([] : List Nat), (0 : Int), ()), (0 : Int), ())).2).1) = (6 : Int))) ∧ (((gG ((((cG (aS ⟨#[48, 46, 49]⟩) (20 : Int)).getD (((false, ([] : List Nat), (0 : Int), ()), (false, ([] : List Nat), (0 : Int), ()), ()), (0 : Int), ())).1).1) (((((cG (aS ⟨#[48, 46, 49]⟩) (20 : Int)).getD (((false, ([] : List Nat), (0 : Int), ()), (false, ([] : List Nat), (0 : Int), ()), ()), (0 : Int), ())).1).2).1)).getD (0 : Int)) < (0 : Int))) ∧ (((bT (aS ⟨#[49, 46, 53, 101, 45, 51]⟩)).getD false) = true)) ∧ (¬ (((bT (aS ⟨#[49, 46]⟩)).getD false) = true))) ∧ (¬ (((bT (aS ⟨#[46, 53]⟩)).getD false) = true))) → (((bT (aS ⟨#[49, 101, 49, 48, 49]⟩)).isSome = true)))) (ck (((((((((((((((((((((aP (false, ([1] : List Nat), (-3 : Int), ()) (2 : Int) false).getD (([] : List Nat), (0 : Int), ())).2).1) + ((((aP (false, ([1] : List Nat), (-3 : Int), ()) (2 : Int) true).getD (([] : List Nat), (0 : Int), ())).2).1)) + ((((aP ((cF (false, ([1] : List Nat), (-3 : Int), ())).getD (false, ([] : List Nat), (0 : Int), ())) (2 : Int) false).getD (([] : List Nat), (0 : Int), ())).2).1)) + ((((bF (aS ⟨#[48, 46, 49, 50, 53]⟩)).getD ((false, ([] : List Nat), (0 : Int), ()), (0 : Int), ())).2).1)) + ((((cG (aS ⟨#[48, 46, 49]⟩) (20 : Int)).getD (((false, ([] : List Nat), (0 : Int), ()), (false, ([] : List Nat), (0 : Int), ()), ()), (0 : Int), ())).2).1)) = (0 : Int)) ∧ ((((aP (false, ([1] : List Nat), (-3 : Int), ()) (2 : Int) false).getD (([] : List Nat), (0 : Int), ())).1) = (aS ⟨#[48, 46, 49, 50]⟩))) ∧ ((((aP (false, ([1] : List Nat), (-3 : Int), ()) (2 : Int) true).getD (([] : List Nat), (0 : Int), ())).1) = (aS ⟨#[48, 46, 49, 51]⟩))) ∧ ((((aP ((cF (false, ([1] : List Nat), (-3 : Int), ())).getD (false, ([] : List Nat), (0 : Int), ())) (2 : Int) false).getD (([] : List Nat), (0 : Int), ())).1) = (aS ⟨#[45, 48, 46, 49, 51]⟩))) ∧ (((eQ (((bF (aS ⟨#[48, 46, 49, 50, 53]⟩)).getD ((false, ([] : List Nat), (0 : Int), ()), (0 : Int), ())).1) (false, ([1] : List Nat), (-3 : Int), ())).getD false) = true)) ∧ (((((bF (aS ⟨#[48, 46, 49]⟩)).getD ((false, ([] : List Nat), (0 : Int), ()), (0 : Int), ())).2).1) = (6 : Int))) ∧ (((gG ((((cG (aS ⟨#[48, 46, 49]⟩) (20 : Int)).getD (((false, ([] : List Nat), (0 : Int), ()), (false, ([] : List Nat), (0 : Int), ()), ()), (0 : Int), ())).1).1) (((((cG (aS ⟨#[48, 46, 49]⟩) (20 : Int)).getD (((false, ([] : List Nat), (0 : Int), ()), (false, ([] : List Nat), (0 : Int), ()), ()), (0 : Int), ())).1).2).1)).getD (0 : Int)) < (0 : Int))) ∧ (((bT (aS ⟨#[49, 46, 53, 101, 45, 51]⟩)).getD false) = true)) ∧ (¬ (((bT (aS ⟨#[49, 46]⟩)).getD false) = true))) ∧ (¬ (((bT (aS ⟨#[46, 53]⟩)).getD false) = true))) ∧ (¬ (((bT (aS ⟨#[49, 101, 49, 48, 49]⟩)).getD false) = true))) → (((bT (aS ⟨#[]⟩)).isSome = true)))) (some ((((((((((((decide (((((((((aP (false, ([1] : List Nat), (-3 : Int), ()) (2 : Int) false).getD (([] : List Nat), (0 : Int), ())).2).1) + ((((aP (false, ([1] : List Nat), (-3 : Int), ()) (2 : Int) true).getD (([] : List Nat), (0 : Int), ())).2).1)) + ((((aP ((cF (false, ([1] : List Nat), (-3 : Int), ())).getD (false, ([] : List Nat), (0 : Int), ())) (2 : Int) false).getD (([] : List Nat), (0 : Int), ())).2).1)) + ((((bF (aS ⟨#[48, 46, 49, 50, 53]⟩)).getD ((false, ([] : List Nat), (0 : Int), ()), (0 : Int), ())).2).1)) + ((((cG (aS ⟨#[48, 46, 49]⟩) (20 : Int)).getD (((false, ([] : List Nat), (0 : Int), ()), (false, ([] : List Nat), (0 : Int), ()), ()), (0 : Int), ())).2).1)) = (0 : Int))) && (decide ((((aP (false, ([1] : List Nat), (-3 : Int), ()) (2 : Int) false).getD (([] : List Nat), (0 : Int), ())).1) = (aS ⟨#[48, 46, 49, 50]⟩)))) && (decide ((((aP (false, ([1] : List Nat), (-3 : Int), ()) (2 : Int) true).getD (([] : List Nat), (0 : Int), ())).1) = (aS ⟨#[48, 46, 49, 51]⟩)))) && (decide ((((aP ((cF (false, ([1] : List Nat), (-3 : Int), ())).getD (false, ([] : List Nat), (0 : Int), ())) (2 : Int) false).getD (([] : List Nat), (0 : Int), ())).1) = (aS ⟨#[45, 48, 46, 49, 51]⟩)))) && ((eQ (((bF (aS ⟨#[48, 46, 49, 50, 53]⟩)).getD ((false, ([] : List Nat), (0 : Int), ()), (0 : Int), ())).1) (false, ([1] : List Nat), (-3 : Int), ())).getD false)) && (decide (((((bF (aS ⟨#[48, 46, 49]⟩)).getD ((false, ([] : List Nat), (0 : Int), ()), (0 : Int), ())).2).1) = (6 : Int)))) && (decide (((gG ((((cG (aS ⟨#[48, 46, 49]⟩) (20 : Int)).getD (((false, ([] : List Nat), (0 : Int), ()), (false, ([] : List Nat), (0 : Int), ()), ()), (0 : Int), ())).1).1) (((((cG (aS ⟨#[48, 46, 49]⟩) (20 : Int)).getD (((false, ([] : List Nat), (0 : Int), ()), (false, ([] : List Nat), (0 : Int), ()), ()), (0 : Int), ())).1).2).1)).getD (0 : Int)) < (0 : Int)))) && ((bT (aS ⟨#[49, 46, 53, 101, 45, 51]⟩)).getD false)) && (!((bT (aS ⟨#[49, 46]⟩)).getD false))) && (!((bT (aS ⟨#[46, 53]⟩)).getD false))) && (!((bT (aS ⟨#[49, 101, 49, 48, 49]⟩)).getD false))) && (!((bT (aS ⟨#[]⟩)).getD false)))))))))))))))))))))
def aFg : PlR := ⟨[(0, .A []), (1, .B [1]), (2, .A [1, 2, 3]), (3, .A [1, 2, 3, 4, 5]), (4, .A [1, 2, 3, 4, 5, 6, 7]), (5, .B [1, 2, 3, 4, 5, 6, 7, 8, 9]), (6, .B [1, 2, 3, 4, 5, 6, 7, 8, 9, 11]), (7, .B [1, 2, 3, 4, 5, 6, 7, 8, 9, 11, 12, 13]), (8, .A [0])], []⟩
def aHA : Ty := .unit
noncomputable def xE : aK := mSpec aHA (.one .bool) (fun x => pH )
noncomputable def mY : List (FuncId × aK) := [(19, uF), (21, pR), (23, rQ), (27, zU), (31, zI), (32, xD), (52, zJ)]
theorem aQD : bL Tryz.prog GL mY := .cons aKk (by kernel_rfl) (.cons aEW (by kernel_rfl) (.cons aG0 (by kernel_rfl) (.cons aQB (by kernel_rfl) (.cons aQi (by kernel_rfl) (.cons aOM (by kernel_rfl) (.cons aQj (by kernel_rfl) (.nil)))))))
theorem aK8 : gam mY 19 = some uF := rfl
theorem aK9 : gam mY 21 = some pR := rfl
theorem aLa : gam mY 23 = some rQ := rfl
theorem aLb : gam mY 27 = some zU := rfl
theorem aLc : gam mY 31 = some zI := rfl
theorem aLd : gam mY 32 = some xD := rfl
theorem aLe : gam mY 52 = some zJ := rfl
attribute [go_sem] aHA aFg aK8 aK9 aLa aLb aLc aLd aLe
set_option maxHeartbeats 4000000 in
theorem aON : FOK Tryz.prog GL 18 xE := by
 refine bK (bC aQD) mix Tryz.func18 rfl (by kernel_rfl) (by decide) aFg fun w0 S x Θ hw h hF => ?_
 simp only [bR, go_sem]
 replace h : sat (pH) _ := h
 unfold pH at h
 obtain ⟨g0, h⟩ := aD h
 repeat (refine ⟨by first | with_reducible assumption | omega | (intros; first | assumption | omega) | (simp only [go_sem] at *; first | assumption | omega) | decide, ?_⟩)
 obtain ⟨g0, h⟩ := aD h
 repeat (refine ⟨by first | with_reducible assumption | omega | (intros; first | assumption | omega) | (simp only [go_sem] at *; first | assumption | omega) | decide, ?_⟩)
 obtain ⟨g0, h⟩ := aD h
 obtain ⟨g1, h⟩ := aD h
 repeat (refine ⟨by first | with_reducible assumption | omega | (intros; first | assumption | omega) | (simp only [go_sem] at *; first | assumption | omega) | decide, ?_⟩)
 obtain ⟨g0, h⟩ := aD h
 repeat (refine ⟨by first | with_reducible assumption | omega | (intros; first | assumption | omega) | (simp only [go_sem] at *; first | assumption | omega) | decide, ?_⟩)
 obtain ⟨g0, h⟩ := aD h
 repeat (refine ⟨by first | with_reducible assumption | omega | (intros; first | assumption | omega) | (simp only [go_sem] at *; first | assumption | omega) | decide, ?_⟩)
 obtain ⟨g0, h⟩ := aD h
 repeat (refine ⟨by first | with_reducible assumption | omega | (intros; first | assumption | omega) | (simp only [go_sem] at *; first | assumption | omega) | decide, ?_⟩)
 obtain ⟨g0, h⟩ := aD h
 obtain ⟨g1, h⟩ := aD h
 obtain ⟨g2, h⟩ := aD h
 obtain ⟨g3, h⟩ := aD h
 obtain ⟨g4, h⟩ := aD h
 obtain ⟨g5, h⟩ := aD h
 obtain ⟨g6, h⟩ := aD h
 obtain ⟨g7, h⟩ := aD h
 obtain ⟨g8, h⟩ := aD h
 obtain ⟨g9, h⟩ := aD h
 obtain ⟨g10, h⟩ := aD h
 try simp only [I64, I32] at g0
 try simp only [I64, I32] at g1
 try simp only [I64, I32] at g2
 try simp only [I64, I32] at g3
 repeat (refine ⟨by first | with_reducible assumption | omega | (intros; first | assumption | omega) | (simp only [go_sem] at *; first | assumption | omega) | (intro q0; (try have e4 := g4 (by first | exact q0 | omega | (simpa using q0))); (try have e5 := g5 (by first | exact q0 | omega | (simpa using q0))); (try have e6 := g6 (by first | exact q0 | omega | (simpa using q0))); (try have e7 := g7 (by first | exact q0 | omega | (simpa using q0))); (try have e8 := g8 (by first | exact q0 | omega | (simpa using q0))); (try have e9 := g9 (by first | exact q0 | omega | (simpa using q0))); (try have e10 := g10 (by first | exact q0 | omega | (simpa using q0))); first | assumption | omega) | decide, ?_⟩)
 exact aJ hF [.tmp 0] rfl rfl rfl (aB h) (by simp only [aW, go_sem])
attribute [go_sem] xE
end Nu
end Go.Proofs
namespace Go.Proofs
open Go.Vc
set_option maxRecDepth 20000
namespace Nu
theorem p2m (n m : Nat) (h : n ≤ m) : 2 ^ n ≤ 2 ^ m := Nat.pow_le_pow_right (by decide) h
theorem aHB (m : Nat) {x n : Nat} (h : x < 2 ^ n) (hn : n ≤ m) : x < 2 ^ m := Nat.lt_of_lt_of_le h (p2m n m hn)
theorem yQ (m : Nat) {x n : Nat} (h : x ≤ 2 ^ n) (hn : n < m) : x < 2 ^ m := Nat.lt_of_le_of_lt h (Nat.pow_lt_pow_right (by decide) hn)
theorem aQE (k : Nat) {x n : Nat} (h : x < 2 ^ n) (hn : n ≤ 64 * k) : x < 18446744073709551616 ^ k := by rw [oF]; exact aHB _ h hn
theorem aZz (a b : Nat) (h : a < b) : 18446744073709551616 ^ a < 18446744073709551616 ^ b := Nat.pow_lt_pow_right (by decide) h
abbrev Dy : Type := Bool × List Nat × Int × Unit
def d0 : Dy := (false, [], 0, ())
def nS (d : Dy) : Bool :=
 if d.2.1.length = 0 then !d.1 && decide (d.2.2.1 = 0)
 else decide (d.2.1.length ≤ 64 ∧ Nrm d.2.1) && decide (d.2.1.getD 0 0 % 2 = 1) && decide (-1048576 ≤ d.2.2.1) && decide (d.2.2.1 ≤ 1048576)
theorem aTf (x : Nat) : x &&& 1 = x % 2 := Nat.and_two_pow_sub_one_eq_mod x 1
theorem aCR (d : Dy) : dD d = some (nS d) := by
 unfold dD nS
 by_cases h : d.2.1.length = 0
 ·rw [if_pos (by omega), if_pos h]
 ·rw [if_neg (by omega), if_neg h]
  refine aA (fun _ => by omega) ?_
  rw [aTf]
  rfl
theorem aRV (e : Int) : jC false e = some (.inr (e, ())) := rfl
theorem aOO {b : Bool} {e : Int} (h : b = true) : jC b e = some (.inl ()) := by rw [h]; rfl
theorem aLf {b : Bool} {e : Int} (h : b = false) : jC b e = some (.inr (e, ())) := by rw [h]; rfl
def aRW (neg : Bool) (m : Nat) (e : Int) : Dy ⊕ (Int × Unit) :=
 if m = 0 then .inl d0
 else if 64 < (lb (m / 2 ^ tzn m)).length then .inr (2, ())
 else if ¬ (e ≤ 1048576 ∧ -1048576 - (tzn m : Int) ≤ e) then .inr (3, ())
 else if 1048576 < e + (tzn m : Int) then .inr (3, ())
 else .inl (neg, lb (m / 2 ^ tzn m), e + (tzn m : Int), ())
theorem aYV {m k : Nat} (h0 : m ≠ 0) (h : m < 18446744073709551616 ^ k) : tzn m < 64 * k := by
 obtain ⟨q, hq⟩ := sQ h0
 rw [oF] at h
 refine (Nat.pow_lt_pow_iff_right (show 1 < 2 by decide)).1 (Nat.lt_of_le_of_lt ?_ h)
 rw [hq, aAb rfl]
 exact Nat.le_mul_of_pos_right _ (by omega)
theorem aYW (neg : Bool) (m : List Nat) (e : Int) (lm : Lm m) (nm : Nrm m) (sm : m.length ≤ 1099511627776) : uD neg m e = some (aRW neg (nv m) e) := by
 unfold uD aRW
 by_cases h0 : m.length = 0
 ·have hm : m = [] := List.eq_nil_of_length_eq_zero h0
  subst hm
  rfl
 ·have hm : nv m ≠ 0 := by have := aC0 nm (fun e => h0 (by rw [e]; rfl)); omega
  have hz : bX m = (tzn (nv m) : Int) := by unfold bX; rw [if_neg hm]
  have hzl := aYV hm (iB lm)
  have hR : cM m (tzn (nv m) : Int) = lb (nv m / 2 ^ tzn (nv m)) := by unfold cM; rw [Int.toNat_natCast]
  rw [if_neg (by omega), if_neg hm, hz, hR]
  refine aA sm (aA ⟨sm, by omega⟩ ?_)
  by_cases h1 : 64 < (lb (nv m / 2 ^ tzn (nv m))).length
  ·rw [aLf (by simp; omega), if_pos h1]; rfl
  ·rw [aOO (by simp; omega), if_neg h1]
   simp only [Option.bind_some]
   by_cases h2 : e ≤ 1048576
   ·rw [if_pos h2]
    refine aA (by constructor <;> omega) ?_
    by_cases h3 : -1048576 - (tzn (nv m) : Int) ≤ e
    ·rw [aOO (by simp; omega), if_neg (by omega)]
     simp only [Option.bind_some]
     unfold qJ
     rw [hz, hR]
     refine aA (by constructor <;> omega) ?_
     by_cases h4 : e + (tzn (nv m) : Int) ≤ 1048576
     ·rw [aOO (by simp; omega), if_neg (by omega)]
      simp only [Option.bind_some]
      exact aA (by constructor <;> omega) rfl
     ·rw [aLf (by simp; omega), if_pos (by omega)]; rfl
    ·rw [aLf (by simp; omega), if_pos (by omega)]; rfl
   ·rw [if_neg h2, aRV, if_pos (by omega)]; rfl
def told {α : Type} (z : α) : α ⊕ (Int × Unit) → α × Int × Unit
 | .inl r => (r, 0, ())
 | .inr p => (z, p.1, ())
def aMJ (neg : Bool) (m : Nat) (e : Int) : Dy × Int × Unit := told d0 (aRW neg m e)
theorem aRX (neg : Bool) (m : List Nat) (e : Int) (lm : Lm m) (nm : Nrm m) (sm : m.length ≤ 1099511627776) : bP neg m e = some (aMJ neg (nv m) e) := by
 have h1 : pO neg m e = some (aRW neg (nv m) e) := by
  unfold pO
  rw [aYW neg m e lm nm sm]
  simp only [Option.bind_some]
  cases aRW neg (nv m) e <;> rfl
 have h2 : cS neg m e = some (aMJ neg (nv m) e) := by
  unfold cS aMJ
  rw [h1]
  simp only [Option.bind_some]
  cases aRW neg (nv m) e <;> rfl
 unfold bP
 rw [h2]
 exact aA rfl rfl
end Nu
end Go.Proofs
