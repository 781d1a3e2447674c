import Derived.Test.YtabdejmolnikaaaGreatDoorZS2
set_option linter.unusedVariables false
set_option linter.unusedSimpArgs false
namespace Go.Proofs
open Go.Vc
set_option maxRecDepth 20000
namespace Nu
def pK : ByteArray := ⟨⟨48 :: 48 :: 48 :: 48 :: 48 :: 48 :: 48 :: 48 :: 48 :: 48 :: 48 :: 48 :: 48 :: 48 :: 48 :: 48 :: 48 :: 48 :: 48 :: 48 :: 48 :: 48 :: 48 :: 48 :: 48 :: 48 :: 48 :: 48 :: 48 :: 48 :: 48 :: 48 :: 48 :: 48 :: 48 :: 48 :: 48 :: 48 :: 48 :: 48 :: 48 :: 48 :: 48 :: 48 :: 48 :: 48 :: 48 :: 48 :: 48 :: 48 :: 48 :: 48 :: 48 :: 48 :: 48 :: 48 :: 48 :: 48 :: 48 :: 48 :: 48 :: 48 :: 48 :: 48 :: []⟩⟩
theorem aJZ : (⟨⟨48 :: 48 :: 48 :: 48 :: 48 :: 48 :: 48 :: 48 :: 48 :: 48 :: 48 :: 48 :: 48 :: 48 :: 48 :: 48 :: 48 :: 48 :: 48 :: 48 :: 48 :: 48 :: 48 :: 48 :: 48 :: 48 :: 48 :: 48 :: 48 :: 48 :: 48 :: 48 :: 48 :: 48 :: 48 :: 48 :: 48 :: 48 :: 48 :: 48 :: 48 :: 48 :: 48 :: 48 :: 48 :: 48 :: 48 :: 48 :: 48 :: 48 :: 48 :: 48 :: 48 :: 48 :: 48 :: 48 :: 48 :: 48 :: 48 :: 48 :: 48 :: 48 :: 48 :: 48 :: []⟩⟩ : ByteArray) = pK := rfl
attribute [go_sem] aJZ
def sD : ByteArray := ⟨⟨45 :: 45 :: 45 :: 45 :: 45 :: 45 :: 45 :: 45 :: 45 :: 45 :: 45 :: 45 :: 45 :: 45 :: 45 :: 45 :: 45 :: 45 :: 45 :: 45 :: 45 :: 45 :: 45 :: 45 :: 45 :: 45 :: 45 :: 45 :: 45 :: 45 :: 45 :: 45 :: 45 :: 45 :: 45 :: 45 :: 45 :: 45 :: 45 :: 45 :: 45 :: 45 :: 45 :: 45 :: 45 :: 45 :: 45 :: 45 :: 45 :: 45 :: 45 :: 45 :: 45 :: 45 :: 45 :: 45 :: 45 :: 45 :: 45 :: 45 :: 45 :: 45 :: 45 :: 45 :: 45 :: 45 :: 45 :: 45 :: 45 :: 45 :: 45 :: 45 :: 45 :: 45 :: 45 :: 45 :: 45 :: 45 :: 45 :: 45 :: 45 :: 45 :: 45 :: 45 :: 45 :: 45 :: 45 :: 45 :: 45 :: 45 :: 45 :: 45 :: 45 :: 45 :: 45 :: 45 :: 45 :: 45 :: 45 :: 45 :: 45 :: 45 :: 45 :: 45 :: 45 :: 45 :: 45 :: 45 :: 45 :: 45 :: 45 :: 45 :: 45 :: 45 :: 45 :: 45 :: 45 :: 45 :: 45 :: 45 :: 45 :: 45 :: 45 :: 45 :: 45 :: 45 :: 45 :: 45 :: []⟩⟩
theorem aJ0 : (⟨⟨45 :: 45 :: 45 :: 45 :: 45 :: 45 :: 45 :: 45 :: 45 :: 45 :: 45 :: 45 :: 45 :: 45 :: 45 :: 45 :: 45 :: 45 :: 45 :: 45 :: 45 :: 45 :: 45 :: 45 :: 45 :: 45 :: 45 :: 45 :: 45 :: 45 :: 45 :: 45 :: 45 :: 45 :: 45 :: 45 :: 45 :: 45 :: 45 :: 45 :: 45 :: 45 :: 45 :: 45 :: 45 :: 45 :: 45 :: 45 :: 45 :: 45 :: 45 :: 45 :: 45 :: 45 :: 45 :: 45 :: 45 :: 45 :: 45 :: 45 :: 45 :: 45 :: 45 :: 45 :: 45 :: 45 :: 45 :: 45 :: 45 :: 45 :: 45 :: 45 :: 45 :: 45 :: 45 :: 45 :: 45 :: 45 :: 45 :: 45 :: 45 :: 45 :: 45 :: 45 :: 45 :: 45 :: 45 :: 45 :: 45 :: 45 :: 45 :: 45 :: 45 :: 45 :: 45 :: 45 :: 45 :: 45 :: 45 :: 45 :: 45 :: 45 :: 45 :: 45 :: 45 :: 45 :: 45 :: 45 :: 45 :: 45 :: 45 :: 45 :: 45 :: 45 :: 45 :: 45 :: 45 :: 45 :: 45 :: 45 :: 45 :: 45 :: 45 :: 45 :: 45 :: 45 :: 45 :: 45 :: []⟩⟩ : ByteArray) = sD := rfl
attribute [go_sem] aJ0
def wJ : ByteArray := ⟨⟨61 :: 61 :: 61 :: 61 :: 61 :: 61 :: 61 :: 61 :: 61 :: 61 :: 61 :: 61 :: 61 :: 61 :: 61 :: 61 :: 61 :: 61 :: 61 :: 61 :: 61 :: 61 :: 61 :: 61 :: 61 :: 61 :: 61 :: 61 :: 61 :: 61 :: 61 :: 61 :: 61 :: 61 :: 61 :: 61 :: 61 :: 61 :: 61 :: 61 :: 61 :: 61 :: 61 :: 61 :: 61 :: 61 :: 61 :: 61 :: 61 :: 61 :: 61 :: 61 :: 61 :: 61 :: 61 :: 61 :: 61 :: 61 :: 61 :: 61 :: 61 :: 61 :: 61 :: 61 :: 61 :: 61 :: 61 :: 61 :: 61 :: 61 :: 61 :: 61 :: 61 :: 61 :: 61 :: 61 :: 61 :: 61 :: 61 :: 61 :: 61 :: 61 :: 61 :: 61 :: 61 :: 61 :: 61 :: 61 :: 61 :: 61 :: 61 :: 61 :: 61 :: 61 :: 61 :: 61 :: 61 :: 61 :: 61 :: 61 :: 61 :: 61 :: 61 :: 61 :: 61 :: 61 :: 61 :: 61 :: 61 :: 61 :: 61 :: 61 :: 61 :: 61 :: 61 :: 61 :: 61 :: 61 :: 61 :: 61 :: 61 :: 61 :: 61 :: 61 :: 61 :: 61 :: 61 :: 61 :: []⟩⟩
theorem aJ1 : (⟨⟨61 :: 61 :: 61 :: 61 :: 61 :: 61 :: 61 :: 61 :: 61 :: 61 :: 61 :: 61 :: 61 :: 61 :: 61 :: 61 :: 61 :: 61 :: 61 :: 61 :: 61 :: 61 :: 61 :: 61 :: 61 :: 61 :: 61 :: 61 :: 61 :: 61 :: 61 :: 61 :: 61 :: 61 :: 61 :: 61 :: 61 :: 61 :: 61 :: 61 :: 61 :: 61 :: 61 :: 61 :: 61 :: 61 :: 61 :: 61 :: 61 :: 61 :: 61 :: 61 :: 61 :: 61 :: 61 :: 61 :: 61 :: 61 :: 61 :: 61 :: 61 :: 61 :: 61 :: 61 :: 61 :: 61 :: 61 :: 61 :: 61 :: 61 :: 61 :: 61 :: 61 :: 61 :: 61 :: 61 :: 61 :: 61 :: 61 :: 61 :: 61 :: 61 :: 61 :: 61 :: 61 :: 61 :: 61 :: 61 :: 61 :: 61 :: 61 :: 61 :: 61 :: 61 :: 61 :: 61 :: 61 :: 61 :: 61 :: 61 :: 61 :: 61 :: 61 :: 61 :: 61 :: 61 :: 61 :: 61 :: 61 :: 61 :: 61 :: 61 :: 61 :: 61 :: 61 :: 61 :: 61 :: 61 :: 61 :: 61 :: 61 :: 61 :: 61 :: 61 :: 61 :: 61 :: 61 :: 61 :: []⟩⟩ : ByteArray) = wJ := rfl
attribute [go_sem] aJ1
def wK : ByteArray := ⟨⟨9 :: 9 :: 9 :: 9 :: 9 :: 9 :: 9 :: 9 :: 9 :: 9 :: 9 :: 9 :: 9 :: 9 :: 9 :: 9 :: 9 :: 9 :: 9 :: 9 :: 9 :: 9 :: 9 :: 9 :: 9 :: 9 :: 9 :: 9 :: 9 :: 9 :: 9 :: 9 :: 9 :: 9 :: 9 :: 9 :: 9 :: 9 :: 9 :: 9 :: 9 :: 9 :: 9 :: 9 :: 9 :: 9 :: 9 :: 9 :: 9 :: 9 :: 9 :: 9 :: 9 :: 9 :: 9 :: 9 :: 9 :: 9 :: 9 :: 9 :: 9 :: 9 :: 9 :: 9 :: []⟩⟩
theorem aJ2 : (⟨⟨9 :: 9 :: 9 :: 9 :: 9 :: 9 :: 9 :: 9 :: 9 :: 9 :: 9 :: 9 :: 9 :: 9 :: 9 :: 9 :: 9 :: 9 :: 9 :: 9 :: 9 :: 9 :: 9 :: 9 :: 9 :: 9 :: 9 :: 9 :: 9 :: 9 :: 9 :: 9 :: 9 :: 9 :: 9 :: 9 :: 9 :: 9 :: 9 :: 9 :: 9 :: 9 :: 9 :: 9 :: 9 :: 9 :: 9 :: 9 :: 9 :: 9 :: 9 :: 9 :: 9 :: 9 :: 9 :: 9 :: 9 :: 9 :: 9 :: 9 :: 9 :: 9 :: 9 :: 9 :: []⟩⟩ : ByteArray) = wK := rfl
attribute [go_sem] aJ2
def wL : ByteArray := ⟨⟨48 :: 48 :: 48 :: 49 :: 48 :: 50 :: 48 :: 51 :: 48 :: 52 :: 48 :: 53 :: 48 :: 54 :: 48 :: 55 :: 48 :: 56 :: 48 :: 57 :: 49 :: 48 :: 49 :: 49 :: 49 :: 50 :: 49 :: 51 :: 49 :: 52 :: 49 :: 53 :: 49 :: 54 :: 49 :: 55 :: 49 :: 56 :: 49 :: 57 :: 50 :: 48 :: 50 :: 49 :: 50 :: 50 :: 50 :: 51 :: 50 :: 52 :: 50 :: 53 :: 50 :: 54 :: 50 :: 55 :: 50 :: 56 :: 50 :: 57 :: 51 :: 48 :: 51 :: 49 :: 51 :: 50 :: 51 :: 51 :: 51 :: 52 :: 51 :: 53 :: 51 :: 54 :: 51 :: 55 :: 51 :: 56 :: 51 :: 57 :: 52 :: 48 :: 52 :: 49 :: 52 :: 50 :: 52 :: 51 :: 52 :: 52 :: 52 :: 53 :: 52 :: 54 :: 52 :: 55 :: 52 :: 56 :: 52 :: 57 :: 53 :: 48 :: 53 :: 49 :: 53 :: 50 :: 53 :: 51 :: 53 :: 52 :: 53 :: 53 :: 53 :: 54 :: 53 :: 55 :: 53 :: 56 :: 53 :: 57 :: 54 :: 48 :: 54 :: 49 :: 54 :: 50 :: 54 :: 51 :: 54 :: 52 :: 54 :: 53 :: 54 :: 54 :: 54 :: 55 :: 54 :: 56 :: 54 :: 57 :: 55 :: 48 :: 55 :: 49 :: 55 :: 50 :: 55 :: 51 :: 55 :: 52 :: 55 :: 53 :: 55 :: 54 :: 55 :: 55 :: 55 :: 56 :: 55 :: 57 :: 56 :: 48 :: 56 :: 49 :: 56 :: 50 :: 56 :: 51 :: 56 :: 52 :: 56 :: 53 :: 56 :: 54 :: 56 :: 55 :: 56 :: 56 :: 56 :: 57 :: 57 :: 48 :: 57 :: 49 :: 57 :: 50 :: 57 :: 51 :: 57 :: 52 :: 57 :: 53 :: 57 :: 54 :: 57 :: 55 :: 57 :: 56 :: 57 :: 57 :: []⟩⟩
theorem aJ3 : (⟨⟨48 :: 48 :: 48 :: 49 :: 48 :: 50 :: 48 :: 51 :: 48 :: 52 :: 48 :: 53 :: 48 :: 54 :: 48 :: 55 :: 48 :: 56 :: 48 :: 57 :: 49 :: 48 :: 49 :: 49 :: 49 :: 50 :: 49 :: 51 :: 49 :: 52 :: 49 :: 53 :: 49 :: 54 :: 49 :: 55 :: 49 :: 56 :: 49 :: 57 :: 50 :: 48 :: 50 :: 49 :: 50 :: 50 :: 50 :: 51 :: 50 :: 52 :: 50 :: 53 :: 50 :: 54 :: 50 :: 55 :: 50 :: 56 :: 50 :: 57 :: 51 :: 48 :: 51 :: 49 :: 51 :: 50 :: 51 :: 51 :: 51 :: 52 :: 51 :: 53 :: 51 :: 54 :: 51 :: 55 :: 51 :: 56 :: 51 :: 57 :: 52 :: 48 :: 52 :: 49 :: 52 :: 50 :: 52 :: 51 :: 52 :: 52 :: 52 :: 53 :: 52 :: 54 :: 52 :: 55 :: 52 :: 56 :: 52 :: 57 :: 53 :: 48 :: 53 :: 49 :: 53 :: 50 :: 53 :: 51 :: 53 :: 52 :: 53 :: 53 :: 53 :: 54 :: 53 :: 55 :: 53 :: 56 :: 53 :: 57 :: 54 :: 48 :: 54 :: 49 :: 54 :: 50 :: 54 :: 51 :: 54 :: 52 :: 54 :: 53 :: 54 :: 54 :: 54 :: 55 :: 54 :: 56 :: 54 :: 57 :: 55 :: 48 :: 55 :: 49 :: 55 :: 50 :: 55 :: 51 :: 55 :: 52 :: 55 :: 53 :: 55 :: 54 :: 55 :: 55 :: 55 :: 56 :: 55 :: 57 :: 56 :: 48 :: 56 :: 49 :: 56 :: 50 :: 56 :: 51 :: 56 :: 52 :: 56 :: 53 :: 56 :: 54 :: 56 :: 55 :: 56 :: 56 :: 56 :: 57 :: 57 :: 48 :: 57 :: 49 :: 57 :: 50 :: 57 :: 51 :: 57 :: 52 :: 57 :: 53 :: 57 :: 54 :: 57 :: 55 :: 57 :: 56 :: 57 :: 57 :: []⟩⟩ : ByteArray) = wL := rfl
attribute [go_sem] aJ3
def wM : ByteArray := ⟨⟨48 :: 49 :: 50 :: 51 :: 52 :: 53 :: 54 :: 55 :: 56 :: 57 :: 97 :: 98 :: 99 :: 100 :: 101 :: 102 :: 103 :: 104 :: 105 :: 106 :: 107 :: 108 :: 109 :: 110 :: 111 :: 112 :: 113 :: 114 :: 115 :: 116 :: 117 :: 118 :: 119 :: 120 :: 121 :: 122 :: []⟩⟩
theorem aJ4 : (⟨⟨48 :: 49 :: 50 :: 51 :: 52 :: 53 :: 54 :: 55 :: 56 :: 57 :: 97 :: 98 :: 99 :: 100 :: 101 :: 102 :: 103 :: 104 :: 105 :: 106 :: 107 :: 108 :: 109 :: 110 :: 111 :: 112 :: 113 :: 114 :: 115 :: 116 :: 117 :: 118 :: 119 :: 120 :: 121 :: 122 :: []⟩⟩ : ByteArray) = wM := rfl
attribute [go_sem] aJ4
def sE : ByteArray := ⟨⟨32 :: 32 :: 32 :: 32 :: 32 :: 32 :: 32 :: 32 :: 32 :: 32 :: 32 :: 32 :: 32 :: 32 :: 32 :: 32 :: 32 :: 32 :: 32 :: 32 :: 32 :: 32 :: 32 :: 32 :: 32 :: 32 :: 32 :: 32 :: 32 :: 32 :: 32 :: 32 :: 32 :: 32 :: 32 :: 32 :: 32 :: 32 :: 32 :: 32 :: 32 :: 32 :: 32 :: 32 :: 32 :: 32 :: 32 :: 32 :: 32 :: 32 :: 32 :: 32 :: 32 :: 32 :: 32 :: 32 :: 32 :: 32 :: 32 :: 32 :: 32 :: 32 :: 32 :: 32 :: 32 :: 32 :: 32 :: 32 :: 32 :: 32 :: 32 :: 32 :: 32 :: 32 :: 32 :: 32 :: 32 :: 32 :: 32 :: 32 :: 32 :: 32 :: 32 :: 32 :: 32 :: 32 :: 32 :: 32 :: 32 :: 32 :: 32 :: 32 :: 32 :: 32 :: 32 :: 32 :: 32 :: 32 :: 32 :: 32 :: 32 :: 32 :: 32 :: 32 :: 32 :: 32 :: 32 :: 32 :: 32 :: 32 :: 32 :: 32 :: 32 :: 32 :: 32 :: 32 :: 32 :: 32 :: 32 :: 32 :: 32 :: 32 :: 32 :: 32 :: 32 :: 32 :: 32 :: 32 :: []⟩⟩
theorem aJ5 : (⟨⟨32 :: 32 :: 32 :: 32 :: 32 :: 32 :: 32 :: 32 :: 32 :: 32 :: 32 :: 32 :: 32 :: 32 :: 32 :: 32 :: 32 :: 32 :: 32 :: 32 :: 32 :: 32 :: 32 :: 32 :: 32 :: 32 :: 32 :: 32 :: 32 :: 32 :: 32 :: 32 :: 32 :: 32 :: 32 :: 32 :: 32 :: 32 :: 32 :: 32 :: 32 :: 32 :: 32 :: 32 :: 32 :: 32 :: 32 :: 32 :: 32 :: 32 :: 32 :: 32 :: 32 :: 32 :: 32 :: 32 :: 32 :: 32 :: 32 :: 32 :: 32 :: 32 :: 32 :: 32 :: 32 :: 32 :: 32 :: 32 :: 32 :: 32 :: 32 :: 32 :: 32 :: 32 :: 32 :: 32 :: 32 :: 32 :: 32 :: 32 :: 32 :: 32 :: 32 :: 32 :: 32 :: 32 :: 32 :: 32 :: 32 :: 32 :: 32 :: 32 :: 32 :: 32 :: 32 :: 32 :: 32 :: 32 :: 32 :: 32 :: 32 :: 32 :: 32 :: 32 :: 32 :: 32 :: 32 :: 32 :: 32 :: 32 :: 32 :: 32 :: 32 :: 32 :: 32 :: 32 :: 32 :: 32 :: 32 :: 32 :: 32 :: 32 :: 32 :: 32 :: 32 :: 32 :: 32 :: 32 :: []⟩⟩ : ByteArray) = sE := rfl
attribute [go_sem] aJ5
noncomputable def dP (b_0 : Bool) : Option Int :=
 if b_0 = true then some (1 : Int) else some (0 : Int)
def rJ : PlR := ⟨[(0, .A [0]), (1, .A [3]), (2, .A [2]), (3, .A [2])], []⟩
def tG : Ty := .pair .bool .unit
noncomputable def jH : aK := mSpec tG (.one (.i .i64)) (fun x => dP x.1)
noncomputable def aBC : List (FuncId × aK) := []
theorem aBD : bN Tryz.prog GL aBC := .nil
attribute [go_sem] tG rJ
set_option maxHeartbeats 4000000 in
theorem aAO : FOK Tryz.prog GL 174 jH := by
 refine bR (bC aBD) mix Tryz.func174 rfl (by kernel_rfl) (by decide) rJ fun w0 S x Θ hw h hF => ?_
 obtain ⟨(b_0 : Bool), u⟩ := x
 simp only [bV, go_sem]
 replace h : sat (dP b_0) _ := h
 unfold dP at h
 refine aSB h (fun hc h => ?_) fun hc h => ?_
 ·exact aL hF [.tmp 2] rfl rfl rfl (aC h) (by simp only [aZ, go_sem])
 ·exact aL hF [.tmp 2] rfl rfl rfl (aC h) (by simp only [aZ, go_sem])
attribute [go_sem] jH
noncomputable def bS (x_0 : Int) : Option Int :=
 ck (I64 (x_0 * (78913 : Int))) (some (Int.fdiv (x_0 * (78913 : Int)) (2 ^ (18 : Nat))))
def rK : PlR := ⟨[(0, .A [0]), (1, .A [2])], []⟩
def tH : Ty := .pair (.i .i64) .unit
noncomputable def jI : aK := mSpec tH (.one (.i .i64)) (fun x => bS x.1)
noncomputable def aBE : List (FuncId × aK) := []
theorem aBF : bN Tryz.prog GL aBE := .nil
attribute [go_sem] tH rK
set_option maxHeartbeats 4000000 in
theorem aAP : FOK Tryz.prog GL 173 jI := by
 refine bR (bC aBF) mix Tryz.func173 rfl (by kernel_rfl) (by decide) rK fun w0 S x Θ hw h hF => ?_
 obtain ⟨(x_0 : Int), u⟩ := x
 simp only [bV, go_sem]
 replace h : sat (bS x_0) _ := h
 unfold bS at h
 refine aI h fun g0 h => ?_
 exact aL hF [.tmp 2] rfl rfl rfl (aC h) (by simp only [aZ, go_sem])
attribute [go_sem] jI
noncomputable def bO (d_0 : Nat) : Option Int :=
 ck (((bS (cM d_0)).isSome = true)) (ck (0 ≤ ((bS (cM d_0)).getD (0 : Int)) ∧ ((bS (cM d_0)).getD (0 : Int)) < (20 : Int)) (ck (((dP (decide ((p10.getD (((bS (cM d_0)).getD (0 : Int)).toNat) (0 : Nat)) ≤ d_0))).isSome = true)) (ck (I64 (((bS (cM d_0)).getD (0 : Int)) + ((dP (decide ((p10.getD (((bS (cM d_0)).getD (0 : Int)).toNat) (0 : Nat)) ≤ d_0))).getD (0 : Int)))) (some (((bS (cM d_0)).getD (0 : Int)) + ((dP (decide ((p10.getD (((bS (cM d_0)).getD (0 : Int)).toNat) (0 : Nat)) ≤ d_0))).getD (0 : Int)))))))
def rL : PlR := ⟨[(0, .A [0]), (1, .A [0, 3]), (2, .A [2])], []⟩
def tI : Ty := .pair (.u .u64) .unit
noncomputable def jJ : aK := mSpec tI (.one (.i .i64)) (fun x => bO x.1)
noncomputable def jV : List (FuncId × aK) := [(158, mO), (173, jI), (174, jH)]
theorem aBG : bN Tryz.prog GL jV := .cons aCh (by kernel_rfl) (.cons aAP (by kernel_rfl) (.cons aAO (by kernel_rfl) (.nil)))
theorem yF : gam jV 158 = some mO := rfl
theorem yG : gam jV 173 = some jI := rfl
theorem yH : gam jV 174 = some jH := rfl
attribute [go_sem] tI rL yF yG yH
set_option maxHeartbeats 4000000 in
theorem aAQ : FOK Tryz.prog GL 164 jJ := by
 refine bR (bC aBG) mix Tryz.func164 rfl (by kernel_rfl) (by decide) rL fun w0 S x Θ hw h hF => ?_
 obtain ⟨(d_0 : Nat), u⟩ := x
 simp only [bV, go_sem]
 replace h : sat (bO d_0) _ := h
 unfold bO at h
 refine aI h fun g0 h => ?_
 refine aI h fun g0 h => aI h fun g1 h => aI h fun g2 h => ?_
 exact aL hF [.tmp 2] rfl rfl rfl (aC h) (by simp only [aZ, go_sem])
attribute [go_sem] jJ
noncomputable def fW (i_0 : Int) : Option (List Nat) :=
 if i_0 < (10 : Int) then ck (I64 (i_0 + (1 : Int))) (ck (0 ≤ i_0 ∧ i_0 ≤ (i_0 + (1 : Int)) ∧ (i_0 + (1 : Int)) ≤ ((((aO wM).length) : Nat) : Int)) (some (List.drop (i_0.toNat) (List.take ((i_0 + (1 : Int)).toNat) (aO wM))))) else ck (I64 (i_0 * (2 : Int))) (ck (I64 (i_0 * (2 : Int))) (ck (I64 ((i_0 * (2 : Int)) + (2 : Int))) (ck (0 ≤ (i_0 * (2 : Int)) ∧ (i_0 * (2 : Int)) ≤ ((i_0 * (2 : Int)) + (2 : Int)) ∧ ((i_0 * (2 : Int)) + (2 : Int)) ≤ ((((aO wL).length) : Nat) : Int)) (some (List.drop ((i_0 * (2 : Int)).toNat) (List.take (((i_0 * (2 : Int)) + (2 : Int)).toNat) (aO wL)))))))
def xJ : PlR := ⟨[(0, .A [0]), (1, .A [0, 4]), (2, .A [2]), (3, .A [2])], []⟩
def zE : Ty := .pair (.i .i64) .unit
noncomputable def nC : aK := mSpec zE (.one .str) (fun x => fW x.1)
noncomputable def aEz : List (FuncId × aK) := []
theorem aEA : bN Tryz.prog GL aEz := .nil
attribute [go_sem] zE xJ
set_option maxHeartbeats 4000000 in
theorem aDP : FOK Tryz.prog GL 163 nC := by
 refine bR (bC aEA) mix Tryz.func163 rfl (by kernel_rfl) (by decide) xJ fun w0 S x Θ hw h hF => ?_
 obtain ⟨(i_0 : Int), u⟩ := x
 simp only [bV, go_sem]
 replace h : sat (fW i_0) _ := h
 unfold fW at h
 refine dA h (fun hc h => ?_) fun hc h => ?_
 ·refine aI h fun g0 h => aI h fun g1 h => ?_
  exact aL hF [.tmp 2] rfl rfl rfl (aC h) (by simp only [aZ, go_sem])
 ·refine aI h fun g0 h => aI h fun g1 h => aI h fun g2 h => aI h fun g3 h => ?_
  exact aL hF [.tmp 2] rfl rfl rfl (aC h) (by simp only [aZ, go_sem])
attribute [go_sem] nC
noncomputable def eC (i_0 : Nat) (base_1 : Int) : Option (List Nat) :=
 if base_1 = (10 : Int) then if i_0 < (100 : Nat) then ck (((fW (IntKind.i64.wrap ((i_0 : Nat) : Int))).isSome = true)) (some ((fW (IntKind.i64.wrap ((i_0 : Nat) : Int))).getD ([] : List Nat))) else ck (((bO i_0).isSome = true)) (ck ((0 : Int) < ((bO i_0).getD (0 : Int)) ∧ ((bO i_0).getD (0 : Int)) ≤ 24) (((dN (0 : Nat) ((((bO i_0).getD (0 : Int)) - (0 : Int)).toNat) i_0 (List.replicate 24 (0 : Nat)))).bind (fun r_5 => ck ((0 : Int) < ((bO i_0).getD (0 : Int)) ∧ ((bO i_0).getD (0 : Int)) ≤ 24) (ck ((0 : Nat) + ((((bO i_0).getD (0 : Int)) - (0 : Int)).toNat) ≤ 24) (some (List.take ((((bO i_0).getD (0 : Int)) - (0 : Int)).toNat) (List.drop (0 : Nat) r_5))))))) else none
def jK : Ty := .pair (.u .u64) (.pair (.i .i64) .unit)
attribute [go_sem] jK
noncomputable def iD : aK := mSpec jK (.one .str) (fun x => eC x.1 x.2.1)
noncomputable def jL : List (FuncId × aK) := [(163, nC), (164, jJ)]
theorem rN : bN Tryz.prog GL jL := .cons aDP (by kernel_rfl) (.cons aAQ (by kernel_rfl) (.nil))
theorem wQ : gam jL 163 = some nC := rfl
attribute [go_sem] wQ
theorem wR : gam jL 164 = some jJ := rfl
attribute [go_sem] wR
set_option maxHeartbeats 4000000 in
theorem aAw : FOK Tryz.prog GL 160 iD := by
 refine vG (bC rN) Tryz.func160 rfl (by kernel_rfl) (by decide) fun w0 S x r hw h => ?_
 have hF : kT (fr Tryz.prog (EM jL) S w0 Tryz.f160.ntmps) := ⟨bC rN, mix⟩
 obtain ⟨(i_0 : Nat), (base_1 : Int), u⟩ := x
 simp only [jK, Ty.wf, pH] at hw
 simp only [bV, jK]
 try dsimp only at h
 unfold eC at h
 refine aF (aE hF [0, 1] ?_)
 simp only [go_sem]
 refine aG (aF (aF (aE hF [0, 1, 10] ?_)))
 simp only [go_sem]
 refine aG (bU rfl (fun hc => ?_) (fun hc => ?_))
 ·try simp only [go_sem] at hc
  have h := fX (by first | exact hc | omega | (simpa using hc) | (simp at hc ⊢; omega)) h
  refine aF (aF (aE hF [0, 12] ?_))
  simp only [go_sem]
  refine aG (bU rfl (fun hc => ?_) (fun hc => ?_))
  ·try simp only [go_sem] at hc
   have h := fX (by first | exact hc | omega | (simpa using hc) | (simp at hc ⊢; omega)) h
   refine aF (aE hF [4] ?_)
   simp only [go_sem]
   obtain ⟨g0, h⟩ := aJ h
   repeat (refine ⟨by first | with_reducible assumption | omega | (intros; first | assumption | omega) | (simp only [go_sem] at *; first | assumption | omega) | decide, ?_⟩)
   obtain rfl := Option.some.inj h
   refine aG (dS (dH (dH (jG hF [.tmp 4] rfl rfl rfl ?_))))
   (try simp only [kS, aZ, go_sem]) <;> first | rfl | (simp; done)
  ·try simp only [go_sem] at hc
   have h := fY (by first | exact hc | omega | (simpa using hc) | (simp at hc ⊢; omega)) h
   refine cG (aG (aF (bY hF [0, 5] ?_)))
   simp only [go_sem]
   refine aG (aF (aE hF [0, 5, 6] ?_))
   simp only [go_sem]
   obtain ⟨g0, h⟩ := aJ h
   repeat (refine ⟨by first | with_reducible assumption | omega | (intros; first | assumption | omega) | (simp only [go_sem] at *; first | assumption | omega) | decide, ?_⟩)
   obtain ⟨g0, h⟩ := aJ h
   obtain ⟨r_5, he1, h⟩ := bind_some h
   try dsimp only at h
   refine aG (aF (bI hF (cV (l := [(165, ⟨kC, [0], ((0 : Nat), ((((bO i_0).getD (0 : Int)) - (0 : Int)).toNat), i_0, (List.replicate 24 (0 : Nat)), r_5)⟩)]) (.cons yE (by kernel_rfl) (.nil))) [5, 6] [19] ?_))
   simp only [go_sem]
   repeat (refine ⟨by first | with_reducible assumption | omega | (intros; first | assumption | omega) | (simp only [go_sem] at *; first | assumption | omega) | decide, ?_⟩)
   obtain ⟨g0, h⟩ := aJ h
   obtain ⟨g1, h⟩ := aJ h
   refine aG (aF (bI hF (cV (l := []) (.nil)) [4] [23] ?_))
   simp only [go_sem]
   repeat (refine ⟨by first | with_reducible assumption | omega | (intros; first | assumption | omega) | (simp only [go_sem] at *; first | assumption | omega) | decide, ?_⟩)
   obtain rfl := Option.some.inj h
   refine aG (dS (dH (jG hF [.tmp 4] rfl rfl rfl ?_)))
   (try simp only [kS, aZ, go_sem]) <;> first | rfl | (simp; done)
 ·try simp only [go_sem] at hc
  have h := fY (by first | exact hc | omega | (simpa using hc) | (simp at hc ⊢; omega)) h
  cases h
attribute [go_sem] iD
noncomputable def cY (i_0 : Nat) (base_1 : Int) : Option (List Nat) :=
 ck (((eC i_0 base_1).isSome = true)) (some ((eC i_0 base_1).getD ([] : List Nat)))
def rO : PlR := ⟨[(0, .A [0, 1]), (1, .A [4])], []⟩
def tJ : Ty := .pair (.u .u64) (.pair (.i .i64) .unit)
noncomputable def jM : aK := mSpec tJ (.one .str) (fun x => cY x.1 x.2.1)
noncomputable def tK : List (FuncId × aK) := [(160, iD)]
theorem aBH : bN Tryz.prog GL tK := .cons aAw (by kernel_rfl) (.nil)
theorem yI : gam tK 160 = some iD := rfl
attribute [go_sem] tJ rO yI
set_option maxHeartbeats 4000000 in
theorem aAR : FOK Tryz.prog GL 132 jM := by
 refine bR (bC aBH) mix Tryz.func132 rfl (by kernel_rfl) (by decide) rO fun w0 S x Θ hw h hF => ?_
 obtain ⟨(i_0 : Nat), (base_1 : Int), u⟩ := x
 simp only [bV, go_sem]
 replace h : sat (cY i_0 base_1) _ := h
 unfold cY at h
 refine aI h fun g0 h => ?_
 exact aL hF [.tmp 4] rfl rfl rfl (aC h) (by simp only [aZ, go_sem])
attribute [go_sem] jM
noncomputable def bJ (x_0 : Nat) (y_1 : Nat) : Option (Nat × (Nat × Unit)) :=
 some (((bH x_0 y_1).1), (((bH x_0 y_1).2).1), ())
def aFq : PlR := ⟨[(0, .A [0, 1]), (3, .A [8, 9]), (4, .A [4, 5])], []⟩
def aIk : Ty := .pair (.u .u64) (.pair (.u .u64) .unit)
noncomputable def xK : aK := mSpec aIk (.tup (.pair (.u .u64) (.pair (.u .u64) .unit))) (fun x => bJ x.1 x.2.1)
noncomputable def aIl : List (FuncId × aK) := [(126, iH)]
theorem aO6 : bN Tryz.prog GL aIl := .cons yA (by kernel_rfl) (.nil)
theorem aIm : gam aIl 126 = some iH := rfl
attribute [go_sem] aIk aFq aIm
set_option maxHeartbeats 4000000 in
theorem aNU : FOK Tryz.prog GL 133 xK := by
 refine bR (bC aO6) mix Tryz.func133 rfl (by kernel_rfl) (by decide) aFq fun w0 S x Θ hw h hF => ?_
 obtain ⟨(x_0 : Nat), (y_1 : Nat), u⟩ := x
 simp only [bV, go_sem]
 replace h : sat (bJ x_0 y_1) _ := h
 unfold bJ at h
 exact aL hF [.tmp 4, .tmp 5] rfl rfl rfl (aC h) (by simp only [aZ, go_sem])
attribute [go_sem] xK
noncomputable def eD (s_0 : (List Nat)) (prefix_1 : (List Nat)) : Option Bool :=
 ck ((((((prefix_1.length) : Nat) : Int) ≤ (((s_0.length) : Nat) : Int)) → (0 ≤ (((prefix_1.length) : Nat) : Int) ∧ (((prefix_1.length) : Nat) : Int) ≤ (((s_0.length) : Nat) : Int)))) (some ((decide ((((prefix_1.length) : Nat) : Int) ≤ (((s_0.length) : Nat) : Int))) && (decide ((List.take (prefix_1.length) s_0) = prefix_1))))
def oI : PlR := ⟨[(0, .A [0, 1]), (1, .A [4])], []⟩
def oS : Ty := .pair .str (.pair .str .unit)
noncomputable def fM : aK := mSpec oS (.one .bool) (fun x => eD x.1 x.2.1)
noncomputable def yJ : List (FuncId × aK) := []
theorem yK : bN Tryz.prog GL yJ := .nil
attribute [go_sem] oS oI
set_option maxHeartbeats 4000000 in
theorem wS : FOK Tryz.prog GL 162 fM := by
 refine bR (bC yK) mix Tryz.func162 rfl (by kernel_rfl) (by decide) oI fun w0 S x Θ hw h hF => ?_
 obtain ⟨(s_0 : (List Nat)), (prefix_1 : (List Nat)), u⟩ := x
 simp only [bV, go_sem]
 replace h : sat (eD s_0 prefix_1) _ := h
 unfold eD at h
 refine aI h fun g0 h => ?_
 exact aL hF [.tmp 4] rfl rfl rfl (aC h) (by simp only [aZ, go_sem])
attribute [go_sem] fM
noncomputable def bK (s_0 : (List Nat)) (prefix_1 : (List Nat)) : Option Bool :=
 ck (((eD s_0 prefix_1).isSome = true)) (some ((eD s_0 prefix_1).getD false))
def tL : PlR := ⟨[(0, .A [0, 1]), (1, .A [4])], []⟩
def tV : Ty := .pair .str (.pair .str .unit)
noncomputable def jW : aK := mSpec tV (.one .bool) (fun x => bK x.1 x.2.1)
noncomputable def tW : List (FuncId × aK) := [(162, fM)]
theorem aB8 : bN Tryz.prog GL tW := .cons wS (by kernel_rfl) (.nil)
theorem zF : gam tW 162 = some fM := rfl
attribute [go_sem] tV tL zF
set_option maxHeartbeats 4000000 in
theorem aBI : FOK Tryz.prog GL 134 jW := by
 refine bR (bC aB8) mix Tryz.func134 rfl (by kernel_rfl) (by decide) tL fun w0 S x Θ hw h hF => ?_
 obtain ⟨(s_0 : (List Nat)), (prefix_1 : (List Nat)), u⟩ := x
 simp only [bV, go_sem]
 replace h : sat (bK s_0 prefix_1) _ := h
 unfold bK at h
 refine aI h fun g0 h => ?_
 exact aL hF [.tmp 4] rfl rfl rfl (aC h) (by simp only [aZ, go_sem])
attribute [go_sem] jW
noncomputable def hZ (chunkMax_4 : Int) : Option ((List Nat)) :=
 none
noncomputable def kW (s_0 : (List Nat)) (count_1 : Int) : Option ((List Nat)) :=
 if (8192 : Int) < (IntKind.i64.wrap ((((((bJ (((((s_0.length) : Nat) : Int) % (18446744073709551616 : Int)).toNat) ((count_1 % (18446744073709551616 : Int)).toNat)).getD ((0 : Nat), (0 : Nat), ())).2).1) : Nat) : Int)) then ck ((((s_0.length) : Nat) : Int) ≠ 0) (ck (I64 (Int.tdiv (8192 : Int) (((s_0.length) : Nat) : Int))) (ck (I64 ((Int.tdiv (8192 : Int) (((s_0.length) : Nat) : Int)) * (((s_0.length) : Nat) : Int))) (if ((Int.tdiv (8192 : Int) (((s_0.length) : Nat) : Int)) * (((s_0.length) : Nat) : Int)) = (0 : Int) then hZ (((s_0.length) : Nat) : Int) else hZ ((Int.tdiv (8192 : Int) (((s_0.length) : Nat) : Int)) * (((s_0.length) : Nat) : Int))))) else hZ (IntKind.i64.wrap ((((((bJ (((((s_0.length) : Nat) : Int) % (18446744073709551616 : Int)).toNat) ((count_1 % (18446744073709551616 : Int)).toNat)).getD ((0 : Nat), (0 : Nat), ())).2).1) : Nat) : Int))
noncomputable def dK (s_0 : (List Nat)) (count_1 : Int) (x43_5 : Bool) : Option ((List Nat)) :=
 if x43_5 = true then ck ((((IntKind.i64.wrap ((((((bJ (((((s_0.length) : Nat) : Int) % (18446744073709551616 : Int)).toNat) ((count_1 % (18446744073709551616 : Int)).toNat)).getD ((0 : Nat), (0 : Nat), ())).2).1) : Nat) : Int)) ≤ (128 : Int)) → (((bK (aO sE) s_0).isSome = true)))) (if ((IntKind.i64.wrap ((((((bJ (((((s_0.length) : Nat) : Int) % (18446744073709551616 : Int)).toNat) ((count_1 % (18446744073709551616 : Int)).toNat)).getD ((0 : Nat), (0 : Nat), ())).2).1) : Nat) : Int)) ≤ (128 : Int)) ∧ (((bK (aO sE) s_0).getD false) = true) then ck (0 ≤ (IntKind.i64.wrap ((((((bJ (((((s_0.length) : Nat) : Int) % (18446744073709551616 : Int)).toNat) ((count_1 % (18446744073709551616 : Int)).toNat)).getD ((0 : Nat), (0 : Nat), ())).2).1) : Nat) : Int)) ∧ (IntKind.i64.wrap ((((((bJ (((((s_0.length) : Nat) : Int) % (18446744073709551616 : Int)).toNat) ((count_1 % (18446744073709551616 : Int)).toNat)).getD ((0 : Nat), (0 : Nat), ())).2).1) : Nat) : Int)) ≤ ((((aO sE).length) : Nat) : Int)) (some (List.take ((IntKind.i64.wrap ((((((bJ (((((s_0.length) : Nat) : Int) % (18446744073709551616 : Int)).toNat) ((count_1 % (18446744073709551616 : Int)).toNat)).getD ((0 : Nat), (0 : Nat), ())).2).1) : Nat) : Int)).toNat) (aO sE))) else ck ((((IntKind.i64.wrap ((((((bJ (((((s_0.length) : Nat) : Int) % (18446744073709551616 : Int)).toNat) ((count_1 % (18446744073709551616 : Int)).toNat)).getD ((0 : Nat), (0 : Nat), ())).2).1) : Nat) : Int)) ≤ (128 : Int)) → (((bK (aO sD) s_0).isSome = true)))) (if ((IntKind.i64.wrap ((((((bJ (((((s_0.length) : Nat) : Int) % (18446744073709551616 : Int)).toNat) ((count_1 % (18446744073709551616 : Int)).toNat)).getD ((0 : Nat), (0 : Nat), ())).2).1) : Nat) : Int)) ≤ (128 : Int)) ∧ (((bK (aO sD) s_0).getD false) = true) then ck (0 ≤ (IntKind.i64.wrap ((((((bJ (((((s_0.length) : Nat) : Int) % (18446744073709551616 : Int)).toNat) ((count_1 % (18446744073709551616 : Int)).toNat)).getD ((0 : Nat), (0 : Nat), ())).2).1) : Nat) : Int)) ∧ (IntKind.i64.wrap ((((((bJ (((((s_0.length) : Nat) : Int) % (18446744073709551616 : Int)).toNat) ((count_1 % (18446744073709551616 : Int)).toNat)).getD ((0 : Nat), (0 : Nat), ())).2).1) : Nat) : Int)) ≤ ((((aO sD).length) : Nat) : Int)) (some (List.take ((IntKind.i64.wrap ((((((bJ (((((s_0.length) : Nat) : Int) % (18446744073709551616 : Int)).toNat) ((count_1 % (18446744073709551616 : Int)).toNat)).getD ((0 : Nat), (0 : Nat), ())).2).1) : Nat) : Int)).toNat) (aO sD))) else ck ((((IntKind.i64.wrap ((((((bJ (((((s_0.length) : Nat) : Int) % (18446744073709551616 : Int)).toNat) ((count_1 % (18446744073709551616 : Int)).toNat)).getD ((0 : Nat), (0 : Nat), ())).2).1) : Nat) : Int)) ≤ (64 : Int)) → (((bK (aO pK) s_0).isSome = true)))) (if ((IntKind.i64.wrap ((((((bJ (((((s_0.length) : Nat) : Int) % (18446744073709551616 : Int)).toNat) ((count_1 % (18446744073709551616 : Int)).toNat)).getD ((0 : Nat), (0 : Nat), ())).2).1) : Nat) : Int)) ≤ (64 : Int)) ∧ (((bK (aO pK) s_0).getD false) = true) then ck (0 ≤ (IntKind.i64.wrap ((((((bJ (((((s_0.length) : Nat) : Int) % (18446744073709551616 : Int)).toNat) ((count_1 % (18446744073709551616 : Int)).toNat)).getD ((0 : Nat), (0 : Nat), ())).2).1) : Nat) : Int)) ∧ (IntKind.i64.wrap ((((((bJ (((((s_0.length) : Nat) : Int) % (18446744073709551616 : Int)).toNat) ((count_1 % (18446744073709551616 : Int)).toNat)).getD ((0 : Nat), (0 : Nat), ())).2).1) : Nat) : Int)) ≤ ((((aO pK).length) : Nat) : Int)) (some (List.take ((IntKind.i64.wrap ((((((bJ (((((s_0.length) : Nat) : Int) % (18446744073709551616 : Int)).toNat) ((count_1 % (18446744073709551616 : Int)).toNat)).getD ((0 : Nat), (0 : Nat), ())).2).1) : Nat) : Int)).toNat) (aO pK))) else ck ((((IntKind.i64.wrap ((((((bJ (((((s_0.length) : Nat) : Int) % (18446744073709551616 : Int)).toNat) ((count_1 % (18446744073709551616 : Int)).toNat)).getD ((0 : Nat), (0 : Nat), ())).2).1) : Nat) : Int)) ≤ (128 : Int)) → (((bK (aO wJ) s_0).isSome = true)))) (if ((IntKind.i64.wrap ((((((bJ (((((s_0.length) : Nat) : Int) % (18446744073709551616 : Int)).toNat) ((count_1 % (18446744073709551616 : Int)).toNat)).getD ((0 : Nat), (0 : Nat), ())).2).1) : Nat) : Int)) ≤ (128 : Int)) ∧ (((bK (aO wJ) s_0).getD false) = true) then ck (0 ≤ (IntKind.i64.wrap ((((((bJ (((((s_0.length) : Nat) : Int) % (18446744073709551616 : Int)).toNat) ((count_1 % (18446744073709551616 : Int)).toNat)).getD ((0 : Nat), (0 : Nat), ())).2).1) : Nat) : Int)) ∧ (IntKind.i64.wrap ((((((bJ (((((s_0.length) : Nat) : Int) % (18446744073709551616 : Int)).toNat) ((count_1 % (18446744073709551616 : Int)).toNat)).getD ((0 : Nat), (0 : Nat), ())).2).1) : Nat) : Int)) ≤ ((((aO wJ).length) : Nat) : Int)) (some (List.take ((IntKind.i64.wrap ((((((bJ (((((s_0.length) : Nat) : Int) % (18446744073709551616 : Int)).toNat) ((count_1 % (18446744073709551616 : Int)).toNat)).getD ((0 : Nat), (0 : Nat), ())).2).1) : Nat) : Int)).toNat) (aO wJ))) else ck ((((IntKind.i64.wrap ((((((bJ (((((s_0.length) : Nat) : Int) % (18446744073709551616 : Int)).toNat) ((count_1 % (18446744073709551616 : Int)).toNat)).getD ((0 : Nat), (0 : Nat), ())).2).1) : Nat) : Int)) ≤ (64 : Int)) → (((bK (aO wK) s_0).isSome = true)))) (if ((IntKind.i64.wrap ((((((bJ (((((s_0.length) : Nat) : Int) % (18446744073709551616 : Int)).toNat) ((count_1 % (18446744073709551616 : Int)).toNat)).getD ((0 : Nat), (0 : Nat), ())).2).1) : Nat) : Int)) ≤ (64 : Int)) ∧ (((bK (aO wK) s_0).getD false) = true) then ck (0 ≤ (IntKind.i64.wrap ((((((bJ (((((s_0.length) : Nat) : Int) % (18446744073709551616 : Int)).toNat) ((count_1 % (18446744073709551616 : Int)).toNat)).getD ((0 : Nat), (0 : Nat), ())).2).1) : Nat) : Int)) ∧ (IntKind.i64.wrap ((((((bJ (((((s_0.length) : Nat) : Int) % (18446744073709551616 : Int)).toNat) ((count_1 % (18446744073709551616 : Int)).toNat)).getD ((0 : Nat), (0 : Nat), ())).2).1) : Nat) : Int)) ≤ ((((aO wK).length) : Nat) : Int)) (some (List.take ((IntKind.i64.wrap ((((((bJ (((((s_0.length) : Nat) : Int) % (18446744073709551616 : Int)).toNat) ((count_1 % (18446744073709551616 : Int)).toNat)).getD ((0 : Nat), (0 : Nat), ())).2).1) : Nat) : Int)).toNat) (aO wK))) else kW s_0 count_1))))) else kW s_0 count_1
noncomputable def aP (s_0 : (List Nat)) (count_1 : Int) : Option (List Nat) :=
 if count_1 = (0 : Int) then some (aO ⟨#[]⟩) else if count_1 = (1 : Int) then some s_0 else if count_1 < (0 : Int) then none else ck (((bJ (((((s_0.length) : Nat) : Int) % (18446744073709551616 : Int)).toNat) ((count_1 % (18446744073709551616 : Int)).toNat)).isSome = true)) (if ((0 : Nat) < (((bJ (((((s_0.length) : Nat) : Int) % (18446744073709551616 : Int)).toNat) ((count_1 % (18446744073709551616 : Int)).toNat)).getD ((0 : Nat), (0 : Nat), ())).1)) ∨ ((9223372036854775807 : Nat) < ((((bJ (((((s_0.length) : Nat) : Int) % (18446744073709551616 : Int)).toNat) ((count_1 % (18446744073709551616 : Int)).toNat)).getD ((0 : Nat), (0 : Nat), ())).2).1)) then none else if (((s_0.length) : Nat) : Int) = (0 : Int) then some (aO ⟨#[]⟩) else ck ((0 : Int) < (((s_0.length) : Nat) : Int)) (if (s_0.getD (0 : Nat) (0 : Nat)) = (32 : Nat) then dK s_0 count_1 (decide ((s_0.getD (0 : Nat) (0 : Nat)) = (32 : Nat))) else if (s_0.getD (0 : Nat) (0 : Nat)) = (45 : Nat) then dK s_0 count_1 (decide ((s_0.getD (0 : Nat) (0 : Nat)) = (45 : Nat))) else if (s_0.getD (0 : Nat) (0 : Nat)) = (48 : Nat) then dK s_0 count_1 (decide ((s_0.getD (0 : Nat) (0 : Nat)) = (48 : Nat))) else if (s_0.getD (0 : Nat) (0 : Nat)) = (61 : Nat) then dK s_0 count_1 (decide ((s_0.getD (0 : Nat) (0 : Nat)) = (61 : Nat))) else dK s_0 count_1 (decide ((s_0.getD (0 : Nat) (0 : Nat)) = (9 : Nat)))))
def oE : Ty := .pair .str (.pair (.i .i64) .unit)
attribute [go_sem] oE
noncomputable def gP : aK := mSpec oE (.one .str) (fun x => aP x.1 x.2.1)
noncomputable def oF : List (FuncId × aK) := [(133, xK), (134, jW)]
theorem zG : bN Tryz.prog GL oF := .cons aNU (by kernel_rfl) (.cons aBI (by kernel_rfl) (.nil))
theorem aBJ : gam oF 133 = some xK := rfl
attribute [go_sem] aBJ
theorem aBK : gam oF 134 = some jW := rfl
attribute [go_sem] aBK
set_option maxHeartbeats 4000000 in
theorem xL : FOK Tryz.prog GL 73 gP := by
 refine vG (bC zG) Tryz.func73 rfl (by kernel_rfl) (by decide) fun w0 S x r hw h => ?_
 have hF : kT (fr Tryz.prog (EM oF) S w0 Tryz.f73.ntmps) := ⟨bC zG, mix⟩
 obtain ⟨(s_0 : (List Nat)), (count_1 : Int), u⟩ := x
 simp only [oE, Ty.wf, pH] at hw
 simp only [bV, oE]
 try dsimp only at h
 unfold aP at h
 refine aF (aE hF [0, 1] ?_)
 simp only [go_sem]
 refine aG (aF (aF (aE hF [0, 1, 11] ?_)))
 simp only [go_sem]
 refine aG (gM (aF (aE hF [0, 1, 11, 12] ?_)))
 simp only [go_sem]
 refine aG (bU rfl (fun hc => ?_) (fun hc => ?_))
 ·try simp only [go_sem] at hc
  have h := fX (by first | exact hc | omega | (simpa using hc) | (simp at hc ⊢; omega)) h
  refine aF (aE hF [4] ?_)
  simp only [go_sem]
  obtain rfl := Option.some.inj h
  refine aG (dS (eG (dH (jG hF [.tmp 4] rfl rfl rfl ?_))))
  (try simp only [kS, aZ, go_sem]) <;> first | rfl | (simp; done)
 ·try simp only [go_sem] at hc
  have h := fY (by first | exact hc | omega | (simpa using hc) | (simp at hc ⊢; omega)) h
  refine aF (aE hF [0, 1, 14] ?_)
  simp only [go_sem]
  refine aG (bU rfl (fun hc => ?_) (fun hc => ?_))
  ·try simp only [go_sem] at hc
   have h := fX (by first | exact hc | omega | (simpa using hc) | (simp at hc ⊢; omega)) h
   refine aF (aE hF [4] ?_)
   simp only [go_sem]
   obtain rfl := Option.some.inj h
   refine aG (dS (eG (dH (jG hF [.tmp 4] rfl rfl rfl ?_))))
   (try simp only [kS, aZ, go_sem]) <;> first | rfl | (simp; done)
  ·try simp only [go_sem] at hc
   have h := fY (by first | exact hc | omega | (simpa using hc) | (simp at hc ⊢; omega)) h
   refine cG (gA (aG (aF (aF (aE hF [0, 1, 18] ?_)))))
   simp only [go_sem]
   refine aG (bU rfl (fun hc => ?_) (fun hc => ?_))
   ·try simp only [go_sem] at hc
    have h := fX (by first | exact hc | omega | (simpa using hc) | (simp at hc ⊢; omega)) h
    cases h
   ·try simp only [go_sem] at hc
    have h := fY (by first | exact hc | omega | (simpa using hc) | (simp at hc ⊢; omega)) h
    refine cG (aG (aF (aE hF [0, 5, 6] ?_)))
    simp only [go_sem]
    obtain ⟨g0, h⟩ := aJ h
    repeat (refine ⟨by first | with_reducible assumption | omega | (intros; first | assumption | omega) | (simp only [go_sem] at *; first | assumption | omega) | decide, ?_⟩)
    refine aG (aF (aF (aE hF [0, 6, 34] ?_)))
    simp only [go_sem]
    refine aG (bU rfl (fun hc => ?_) (fun hc => ?_))
    ·try simp only [go_sem] at hc
     have h := fX (by first | exact hc | omega | (simpa using hc) | (simp at hc ⊢; omega)) h
     cases h
    ·try simp only [go_sem] at hc
     have h := fY (by first | exact hc | omega | (simpa using hc) | (simp at hc ⊢; omega)) h
     refine cG (aG (aF (aE hF [0, 7] ?_)))
     simp only [go_sem]
     refine aG (aF (aF (aE hF [0, 7, 40] ?_)))
     simp only [go_sem]
     refine aG (bU rfl (fun hc => ?_) (fun hc => ?_))
     ·try simp only [go_sem] at hc
      have h := fX (by first | exact hc | omega | (simpa using hc) | (simp at hc ⊢; omega)) h
      refine aF (aE hF [4] ?_)
      simp only [go_sem]
      obtain rfl := Option.some.inj h
      refine aG (dS (dH (jG hF [.tmp 4] rfl rfl rfl ?_)))
      (try simp only [kS, aZ, go_sem]) <;> first | rfl | (simp; done)
     ·try simp only [go_sem] at hc
      have h := fY (by first | exact hc | omega | (simpa using hc) | (simp at hc ⊢; omega)) h
      refine cG (aG (jO (D := Unit) (fun d => kW s_0 count_1 = some r) [0, 7] (fun d => []) (fun d => []) ?_ ?_))
      ·refine aF (aE hF [0, 7, 42] ?_)
       simp only [go_sem]
       obtain ⟨g0, h⟩ := aJ h
       repeat (refine ⟨by first | with_reducible assumption | omega | (intros; first | assumption | omega) | (simp only [go_sem] at *; first | assumption | omega) | decide, ?_⟩)
       refine aG (gM (jO (D := Bool) (fun d => dK s_0 count_1 d = some r) [0, 7] (fun d => [(43, .val .bool d)]) (fun d => []) ?_ ?_))
       ·refine aF (aE hF [0, 7, 42, 43] ?_)
        simp only [go_sem]
        refine aG (bU rfl (fun hc => ?_) (fun hc => ?_))
        ·try simp only [go_sem] at hc
         have h := fX (by first | exact hc | omega | (simpa using hc) | (simp at hc ⊢; omega)) h
         refine cG (bG (aQ ((decide ((s_0.getD (0 : Nat) (0 : Nat)) = (32 : Nat)))) h rfl ?_))
         ·(try simp only [jR, fQ, true_or, and_self, go_sem]) <;> (repeat' apply And.intro) <;> first | rfl | (left; rfl) | (right; rfl) | (left; simp only [go_sem]; done) | (right; simp only [go_sem]; done) | (simp; done) | (simp only [*]; done) | omega
        ·try simp only [go_sem] at hc
         have h := fY (by first | exact hc | omega | (simpa using hc) | (simp at hc ⊢; omega)) h
         refine aF (aE hF [0, 7, 42, 43] ?_)
         simp only [go_sem]
         refine aG (bU rfl (fun hc => ?_) (fun hc => ?_))
         ·try simp only [go_sem] at hc
          have h := fX (by first | exact hc | omega | (simpa using hc) | (simp at hc ⊢; omega)) h
          refine cG (bG (aQ ((decide ((s_0.getD (0 : Nat) (0 : Nat)) = (45 : Nat)))) h rfl ?_))
          ·(try simp only [jR, fQ, true_or, and_self, go_sem]) <;> (repeat' apply And.intro) <;> first | rfl | (left; rfl) | (right; rfl) | (left; simp only [go_sem]; done) | (right; simp only [go_sem]; done) | (simp; done) | (simp only [*]; done) | omega
         ·try simp only [go_sem] at hc
          have h := fY (by first | exact hc | omega | (simpa using hc) | (simp at hc ⊢; omega)) h
          refine aF (aE hF [0, 7, 42, 43] ?_)
          simp only [go_sem]
          refine aG (bU rfl (fun hc => ?_) (fun hc => ?_))
          ·try simp only [go_sem] at hc
           have h := fX (by first | exact hc | omega | (simpa using hc) | (simp at hc ⊢; omega)) h
           refine cG (bG (aQ ((decide ((s_0.getD (0 : Nat) (0 : Nat)) = (48 : Nat)))) h rfl ?_))
           ·(try simp only [jR, fQ, true_or, and_self, go_sem]) <;> (repeat' apply And.intro) <;> first | rfl | (left; rfl) | (right; rfl) | (left; simp only [go_sem]; done) | (right; simp only [go_sem]; done) | (simp; done) | (simp only [*]; done) | omega
          ·try simp only [go_sem] at hc
           have h := fY (by first | exact hc | omega | (simpa using hc) | (simp at hc ⊢; omega)) h
           refine aF (aE hF [0, 7, 42, 43] ?_)
           simp only [go_sem]
           refine aG (bU rfl (fun hc => ?_) (fun hc => ?_))
           ·try simp only [go_sem] at hc
            have h := fX (by first | exact hc | omega | (simpa using hc) | (simp at hc ⊢; omega)) h
            refine cG (bG (aQ ((decide ((s_0.getD (0 : Nat) (0 : Nat)) = (61 : Nat)))) h rfl ?_))
            ·(try simp only [jR, fQ, true_or, and_self, go_sem]) <;> (repeat' apply And.intro) <;> first | rfl | (left; rfl) | (right; rfl) | (left; simp only [go_sem]; done) | (right; simp only [go_sem]; done) | (simp; done) | (simp only [*]; done) | omega
           ·try simp only [go_sem] at hc
            have h := fY (by first | exact hc | omega | (simpa using hc) | (simp at hc ⊢; omega)) h
            refine aE hF [0, 7, 43] ?_
            simp only [go_sem]
            refine bG (aQ ((decide ((s_0.getD (0 : Nat) (0 : Nat)) = (9 : Nat)))) h rfl ?_)
            ·(try simp only [jR, fQ, true_or, and_self, go_sem]) <;> (repeat' apply And.intro) <;> first | rfl | (left; rfl) | (right; rfl) | (left; simp only [go_sem]; done) | (right; simp only [go_sem]; done) | (simp; done) | (simp only [*]; done) | omega
       ·rintro x43_5 h
        try dsimp only at h
        simp only [go_sem]
        unfold dK at h
        refine bU rfl (fun hc => ?_) (fun hc => ?_)
        ·try simp only [go_sem] at hc
         have h := fX (by first | exact hc | omega | (simpa using hc) | (simp at hc ⊢; omega)) h
         refine gM (aF (aE hF [0, 7, 49] ?_))
         simp only [go_sem]
         obtain ⟨g0, h⟩ := aJ h
         repeat (refine ⟨by first | with_reducible assumption | omega | (intros; first | assumption | omega) | (simp only [go_sem] at *; first | assumption | omega) | (intro q0; (try have e0 := g0 (by first | exact q0 | omega | (simpa using q0))); first | assumption | omega) | decide, ?_⟩)
         refine aG (bU rfl (fun hc => ?_) (fun hc => ?_))
         ·try simp only [go_sem] at hc
          have h := fX (by first | exact hc | omega | (simpa using hc) | (simp at hc ⊢; omega)) h
          refine aF (aE hF [4] ?_)
          simp only [go_sem]
          obtain ⟨g0, h⟩ := aJ h
          repeat (refine ⟨by first | with_reducible assumption | omega | (intros; first | assumption | omega) | (simp only [go_sem] at *; first | assumption | omega) | decide, ?_⟩)
          obtain rfl := Option.some.inj h
          refine aG (dS (eG (eG (dH (jG hF [.tmp 4] rfl rfl rfl ?_)))))
          (try simp only [kS, aZ, go_sem]) <;> first | rfl | (simp; done)
         ·try simp only [go_sem] at hc
          have h := fY (by first | exact hc | omega | (simpa using hc) | (simp at hc ⊢; omega)) h
          refine aF (aE hF [0, 7, 58] ?_)
          simp only [go_sem]
          obtain ⟨g0, h⟩ := aJ h
          repeat (refine ⟨by first | with_reducible assumption | omega | (intros; first | assumption | omega) | (simp only [go_sem] at *; first | assumption | omega) | (intro q0; (try have e0 := g0 (by first | exact q0 | omega | (simpa using q0))); first | assumption | omega) | decide, ?_⟩)
          refine aG (bU rfl (fun hc => ?_) (fun hc => ?_))
          ·try simp only [go_sem] at hc
           have h := fX (by first | exact hc | omega | (simpa using hc) | (simp at hc ⊢; omega)) h
           refine aF (aE hF [4] ?_)
           simp only [go_sem]
           obtain ⟨g0, h⟩ := aJ h
           repeat (refine ⟨by first | with_reducible assumption | omega | (intros; first | assumption | omega) | (simp only [go_sem] at *; first | assumption | omega) | decide, ?_⟩)
           obtain rfl := Option.some.inj h
           refine aG (dS (eG (eG (dH (jG hF [.tmp 4] rfl rfl rfl ?_)))))
           (try simp only [kS, aZ, go_sem]) <;> first | rfl | (simp; done)
          ·try simp only [go_sem] at hc
           have h := fY (by first | exact hc | omega | (simpa using hc) | (simp at hc ⊢; omega)) h
           refine aF (aE hF [0, 7, 67] ?_)
           simp only [go_sem]
           obtain ⟨g0, h⟩ := aJ h
           repeat (refine ⟨by first | with_reducible assumption | omega | (intros; first | assumption | omega) | (simp only [go_sem] at *; first | assumption | omega) | (intro q0; (try have e0 := g0 (by first | exact q0 | omega | (simpa using q0))); first | assumption | omega) | decide, ?_⟩)
           refine aG (bU rfl (fun hc => ?_) (fun hc => ?_))
           ·try simp only [go_sem] at hc
            have h := fX (by first | exact hc | omega | (simpa using hc) | (simp at hc ⊢; omega)) h
            refine aF (aE hF [4] ?_)
            simp only [go_sem]
            obtain ⟨g0, h⟩ := aJ h
            repeat (refine ⟨by first | with_reducible assumption | omega | (intros; first | assumption | omega) | (simp only [go_sem] at *; first | assumption | omega) | decide, ?_⟩)
            obtain rfl := Option.some.inj h
            refine aG (dS (eG (eG (dH (jG hF [.tmp 4] rfl rfl rfl ?_)))))
            (try simp only [kS, aZ, go_sem]) <;> first | rfl | (simp; done)
           ·try simp only [go_sem] at hc
            have h := fY (by first | exact hc | omega | (simpa using hc) | (simp at hc ⊢; omega)) h
            refine aF (aE hF [0, 7, 76] ?_)
            simp only [go_sem]
            obtain ⟨g0, h⟩ := aJ h
            repeat (refine ⟨by first | with_reducible assumption | omega | (intros; first | assumption | omega) | (simp only [go_sem] at *; first | assumption | omega) | (intro q0; (try have e0 := g0 (by first | exact q0 | omega | (simpa using q0))); first | assumption | omega) | decide, ?_⟩)
            refine aG (bU rfl (fun hc => ?_) (fun hc => ?_))
            ·try simp only [go_sem] at hc
             have h := fX (by first | exact hc | omega | (simpa using hc) | (simp at hc ⊢; omega)) h
             refine aF (aE hF [4] ?_)
             simp only [go_sem]
             obtain ⟨g0, h⟩ := aJ h
             repeat (refine ⟨by first | with_reducible assumption | omega | (intros; first | assumption | omega) | (simp only [go_sem] at *; first | assumption | omega) | decide, ?_⟩)
             obtain rfl := Option.some.inj h
             refine aG (dS (eG (eG (dH (jG hF [.tmp 4] rfl rfl rfl ?_)))))
             (try simp only [kS, aZ, go_sem]) <;> first | rfl | (simp; done)
            ·try simp only [go_sem] at hc
             have h := fY (by first | exact hc | omega | (simpa using hc) | (simp at hc ⊢; omega)) h
             refine aF (aE hF [0, 7, 85] ?_)
             simp only [go_sem]
             obtain ⟨g0, h⟩ := aJ h
             repeat (refine ⟨by first | with_reducible assumption | omega | (intros; first | assumption | omega) | (simp only [go_sem] at *; first | assumption | omega) | (intro q0; (try have e0 := g0 (by first | exact q0 | omega | (simpa using q0))); first | assumption | omega) | decide, ?_⟩)
             refine aG (bU rfl (fun hc => ?_) (fun hc => ?_))
             ·try simp only [go_sem] at hc
              have h := fX (by first | exact hc | omega | (simpa using hc) | (simp at hc ⊢; omega)) h
              refine aF (aE hF [4] ?_)
              simp only [go_sem]
              obtain ⟨g0, h⟩ := aJ h
              repeat (refine ⟨by first | with_reducible assumption | omega | (intros; first | assumption | omega) | (simp only [go_sem] at *; first | assumption | omega) | decide, ?_⟩)
              obtain rfl := Option.some.inj h
              refine aG (dS (eG (eG (dH (jG hF [.tmp 4] rfl rfl rfl ?_)))))
              (try simp only [kS, aZ, go_sem]) <;> first | rfl | (simp; done)
             ·try simp only [go_sem] at hc
              have h := fY (by first | exact hc | omega | (simpa using hc) | (simp at hc ⊢; omega)) h
              refine cG (gA (gA (bG (aQ (()) h rfl ?_))))
              ·(try simp only [jR, fQ, true_or, and_self, go_sem]) <;> (repeat' apply And.intro) <;> first | rfl | (left; rfl) | (right; rfl) | (left; simp only [go_sem]; done) | (right; simp only [go_sem]; done) | (simp; done) | (simp only [*]; done) | omega
        ·try simp only [go_sem] at hc
         have h := fY (by first | exact hc | omega | (simpa using hc) | (simp at hc ⊢; omega)) h
         refine cG (gA (bG (aQ (()) h rfl ?_)))
         ·(try simp only [jR, fQ, true_or, and_self, go_sem]) <;> (repeat' apply And.intro) <;> first | rfl | (left; rfl) | (right; rfl) | (left; simp only [go_sem]; done) | (right; simp only [go_sem]; done) | (simp; done) | (simp only [*]; done) | omega
      ·rintro u h
       try dsimp only at h
       simp only [go_sem]
       unfold kW at h
       refine aF (aE hF [0, 7, 8] ?_)
       simp only [go_sem]
       refine aG (jO (D := Int) (fun d => hZ d = some r) [0, 7] (fun d => [(8, .val (.i .i64) d)]) (fun d => []) ?_ ?_)
       ·refine aF (aE hF [0, 7, 8, 96] ?_)
        simp only [go_sem]
        refine aG (bU rfl (fun hc => ?_) (fun hc => ?_))
        ·try simp only [go_sem] at hc
         have h := fX (by first | exact hc | omega | (simpa using hc) | (simp at hc ⊢; omega)) h
         refine aF (aE hF [0, 7, 8] ?_)
         simp only [go_sem]
         obtain ⟨g0, h⟩ := aJ h
         obtain ⟨g1, h⟩ := aJ h
         obtain ⟨g2, h⟩ := aJ h
         try simp only [I64, I32] at g1
         try simp only [I64, I32] at g2
         repeat (refine ⟨by first | with_reducible assumption | omega | (intros; first | assumption | omega) | (simp only [go_sem] at *; first | assumption | omega) | decide, ?_⟩)
         refine aG (aF (aE hF [0, 7, 8, 104] ?_))
         simp only [go_sem]
         refine aG (bU rfl (fun hc => ?_) (fun hc => ?_))
         ·try simp only [go_sem] at hc
          have h := fX (by first | exact hc | omega | (simpa using hc) | (simp at hc ⊢; omega)) h
          refine aE hF [0, 7, 8] ?_
          simp only [go_sem]
          refine bG (aQ ((((s_0.length) : Nat) : Int)) h rfl ?_)
          ·(try simp only [jR, fQ, true_or, and_self, go_sem]) <;> (repeat' apply And.intro) <;> first | rfl | (left; rfl) | (right; rfl) | (left; simp only [go_sem]; done) | (right; simp only [go_sem]; done) | (simp; done) | (simp only [*]; done) | omega
         ·try simp only [go_sem] at hc
          have h := fY (by first | exact hc | omega | (simpa using hc) | (simp at hc ⊢; omega)) h
          refine cG (bG (aQ (((Int.tdiv (8192 : Int) (((s_0.length) : Nat) : Int)) * (((s_0.length) : Nat) : Int))) h rfl ?_))
          ·(try simp only [jR, fQ, true_or, and_self, go_sem]) <;> (repeat' apply And.intro) <;> first | rfl | (left; rfl) | (right; rfl) | (left; simp only [go_sem]; done) | (right; simp only [go_sem]; done) | (simp; done) | (simp only [*]; done) | omega
        ·try simp only [go_sem] at hc
         have h := fY (by first | exact hc | omega | (simpa using hc) | (simp at hc ⊢; omega)) h
         refine cG (bG (aQ ((IntKind.i64.wrap ((((((bJ (((((s_0.length) : Nat) : Int) % (18446744073709551616 : Int)).toNat) ((count_1 % (18446744073709551616 : Int)).toNat)).getD ((0 : Nat), (0 : Nat), ())).2).1) : Nat) : Int))) h rfl ?_))
         ·(try simp only [jR, fQ, true_or, and_self, go_sem]) <;> (repeat' apply And.intro) <;> first | rfl | (left; rfl) | (right; rfl) | (left; simp only [go_sem]; done) | (right; simp only [go_sem]; done) | (simp; done) | (simp only [*]; done) | omega
       ·rintro chunkMax_4 h
        try dsimp only at h
        simp only [go_sem]
        unfold hZ at h
        cases h
attribute [go_sem] gP
end Nu
end Go.Proofs
namespace Go.Proofs
open Go.Vc
set_option maxRecDepth 20000
namespace Nu
noncomputable def jA (a_0 : (List Nat)) (n_4 : Int) : Option ((Int) ⊕ ((Int))) :=
 ck ((((0 : Int) < n_4) → (I64 (n_4 - (1 : Int))))) (ck ((((0 : Int) < n_4) → (0 ≤ (n_4 - (1 : Int)) ∧ (n_4 - (1 : Int)) < (((a_0.length) : Nat) : Int)))) (if ((0 : Int) < n_4) ∧ ((a_0.getD ((n_4 - (1 : Int)).toNat) (0 : Nat)) = (0 : Nat)) then ck (I64 (n_4 - (1 : Int))) (some (.inl (n_4 - (1 : Int)))) else some (.inr n_4)))
noncomputable def fK (a_0 : (List Nat)) : Option (List Nat) :=
 (cE (fun d : Int => jA a_0 d) (((a_0.length) : Nat) : Int)).bind (fun e => ck (0 ≤ e ∧ e ≤ (((a_0.length) : Nat) : Int)) (some (List.take (e.toNat) a_0)))
def aDQ : PlR := ⟨[(0, .A [0]), (1, .A [0, 3]), (2, .A [0, 3, 15]), (3, .A [0, 3]), (4, .A [2])], []⟩
def aFr : Ty := .pair (.sl (.u .u32)) .unit
noncomputable def cW : aK := mSpec aFr (.one (.sl (.u .u32))) (fun x => fK x.1)
noncomputable def aNV : List (FuncId × aK) := []
theorem aNW : bN Tryz.prog GL aNV := .nil
attribute [go_sem] aFr aDQ
set_option maxHeartbeats 4000000 in
theorem mD : FOK Tryz.prog GL 112 cW := by
 refine bR (bC aNW) mix Tryz.func112 rfl (by kernel_rfl) (by decide) aDQ fun w0 S x Θ hw h hF => ?_
 obtain ⟨(a_0 : (List Nat)), u⟩ := x
 simp only [bV, go_sem]
 replace h : sat (fK a_0) _ := h
 unfold fK at h
 refine bW hF (D := Int) [0] (fun d => [(3, .val (.i .i64) d)]) (fun d => []) h rfl (by simp only [go_sem]) ?_
 rintro n_4 A2 T2 hA2 hE2 h
 simp only [go_sem]
 replace h : sat (jA a_0 n_4) _ := h
 unfold jA at h
 refine aI h fun g0 h => aI h fun g1 h => ?_
 refine ⟨fun hc => ?_, fun hc => ?_⟩
 ·replace h := fB hc h
  refine aI h fun g0 h => ?_
  replace h := hA2 _ (aC h)
  exact aQ _ h rfl (by simp only [go_sem])
 ·replace h := fC hc h
  replace h := hE2 _ (aC h)
  try dsimp only at h
  refine aI h fun g0 h => ?_
  exact aL hF [.tmp 2] rfl rfl rfl (aC h) (by simp only [aZ, go_sem])
attribute [go_sem] cW
noncomputable def eE (c_106 : Nat) (k_107 : Int) (out_108 : (List Nat)) : Option ((Nat × Int × (List Nat)) ⊕ (((List Nat)))) :=
 if (0 : Nat) < c_106 then ck (0 ≤ k_107 ∧ k_107 < (((out_108.length) : Nat) : Int)) (ck (0 ≤ k_107 ∧ k_107 < (((out_108.length) : Nat) : Int)) (ck (I64 (k_107 + (1 : Int))) (some (.inl ((((c_106 + (out_108.getD (k_107.toNat) (0 : Nat))) % 4294967296) / (65536 : Nat)), (k_107 + (1 : Int)), (out_108.set (k_107.toNat) (((c_106 + (out_108.getD (k_107.toNat) (0 : Nat))) % 4294967296) &&& (65535 : Nat)))))))) else some (.inr out_108)
noncomputable def oT (i_58 : Int) (b_1 : (List Nat)) (c_104 : Nat) (out_105 : (List Nat)) : Option ((Int × (List Nat)) ⊕ (((List Nat)))) :=
 ck (I64 (i_58 + (((b_1.length) : Nat) : Int))) ((cE (fun d : Nat × Int × (List Nat) => eE d.1 d.2.1 d.2.2) (c_104, (i_58 + (((b_1.length) : Nat) : Int)), out_105)).bind (fun e => ck (I64 (i_58 + (1 : Int))) (some (.inl ((i_58 + (1 : Int)), e)))))
noncomputable def mR (i_58 : Int) (k_115 : Int) (out_116 : (List Nat)) (a_0 : (List Nat)) (b_1 : (List Nat)) (c_114 : Nat) (over_124 : Nat) : Option ((Nat × Int × (List Nat)) ⊕ ((Nat × (List Nat)))) :=
 ck (I64 (i_58 + k_115)) (ck (0 ≤ (i_58 + k_115) ∧ (i_58 + k_115) < (((out_116.length) : Nat) : Int)) (ck (I64 (k_115 + (1 : Int))) (some (.inl (((((((((iB .u32 (a_0.getD (i_58.toNat) (0 : Nat)) (b_1.getD (k_115.toNat) (0 : Nat))) + (out_116.getD ((i_58 + k_115).toNat) (0 : Nat))) % 4294967296) + c_114) % 4294967296) / (65536 : Nat)) + over_124) % 4294967296), (k_115 + (1 : Int)), (out_116.set ((i_58 + k_115).toNat) ((((((iB .u32 (a_0.getD (i_58.toNat) (0 : Nat)) (b_1.getD (k_115.toNat) (0 : Nat))) + (out_116.getD ((i_58 + k_115).toNat) (0 : Nat))) % 4294967296) + c_114) % 4294967296) &&& (65535 : Nat))))))))
noncomputable def iL (b_1 : (List Nat)) (i_58 : Int) (a_0 : (List Nat)) (c_114 : Nat) (k_115 : Int) (out_116 : (List Nat)) : Option ((Nat × Int × (List Nat)) ⊕ ((Nat × (List Nat)))) :=
 if k_115 < (((b_1.length) : Nat) : Int) then ck (0 ≤ i_58 ∧ i_58 < (((a_0.length) : Nat) : Int)) (ck (0 ≤ k_115 ∧ k_115 < (((b_1.length) : Nat) : Int)) (ck (I64 (i_58 + k_115)) (ck (0 ≤ (i_58 + k_115) ∧ (i_58 + k_115) < (((out_116.length) : Nat) : Int)) (if (((((iB .u32 (a_0.getD (i_58.toNat) (0 : Nat)) (b_1.getD (k_115.toNat) (0 : Nat))) + (out_116.getD ((i_58 + k_115).toNat) (0 : Nat))) % 4294967296) + c_114) % 4294967296) < (((iB .u32 (a_0.getD (i_58.toNat) (0 : Nat)) (b_1.getD (k_115.toNat) (0 : Nat))) + (out_116.getD ((i_58 + k_115).toNat) (0 : Nat))) % 4294967296) then mR i_58 k_115 out_116 a_0 b_1 c_114 (65536 : Nat) else mR i_58 k_115 out_116 a_0 b_1 c_114 (0 : Nat))))) else some (.inr (c_114, out_116))
noncomputable def kD (a_0 : (List Nat)) (b_1 : (List Nat)) (i_58 : Int) (out_59 : (List Nat)) : Option ((Int × (List Nat)) ⊕ (((List Nat)))) :=
 if i_58 < (((a_0.length) : Nat) : Int) then (cE (fun d : Nat × Int × (List Nat) => iL b_1 i_58 a_0 d.1 d.2.1 d.2.2) ((0 : Nat), (0 : Int), out_59)).bind (fun e => oT i_58 b_1 e.1 e.2) else some (.inr out_59)
noncomputable def mE (a_0 : (List Nat)) (b_1 : (List Nat)) : Option (List Nat) :=
 ck (I64 ((((a_0.length) : Nat) : Int) + (((b_1.length) : Nat) : Int))) (ck (0 ≤ ((((a_0.length) : Nat) : Int) + (((b_1.length) : Nat) : Int))) (ck ((4 : Int) * ((((a_0.length) : Nat) : Int) + (((b_1.length) : Nat) : Int)) ≤ 281474976710656) ((cE (fun d : Int × (List Nat) => kD a_0 b_1 d.1 d.2) ((0 : Int), (List.replicate (((((a_0.length) : Nat) : Int) + (((b_1.length) : Nat) : Int)).toNat) (0 : Nat)))).bind (fun e => (fK e).bind (fun v_128 => some v_128)))))
def aFs : PlR := ⟨[(0, .A [0, 1]), (1, .B [0, 1, 5]), (2, .A [0, 1, 5, 6]), (3, .A [0, 1, 5, 6, 22]), (4, .A [0, 1, 5, 6]), (5, .A [0, 1, 5, 6, 7]), (6, .A [0, 1, 5, 6, 7, 8]), (7, .A [0, 1, 5, 6, 7, 8, 28]), (8, .A [0, 1, 5, 6, 7, 8]), (9, .A [0, 1, 5, 6, 7, 8, 9]), (10, .A [0, 1, 5, 6, 8, 9, 10]), (11, .A [0, 1, 5, 6, 8, 9, 10, 11]), (12, .A [0, 1, 5, 6, 8, 10, 11, 52]), (13, .A [0, 1, 5, 6, 8, 10, 11]), (14, .B [0, 1, 5, 6, 8, 10, 11]), (15, .A [0, 1, 5, 6, 7, 8]), (16, .A [0, 1, 5, 6, 7, 12]), (17, .A [0, 1, 5, 6, 7, 12, 69]), (18, .A [0, 1, 5, 6, 7, 12]), (19, .A [0, 1, 5, 6, 7, 12]), (20, .B [0, 1, 5, 6, 7, 12]), (21, .A [0, 1, 5, 6, 7, 12]), (22, .B [4])], [(9, 19), (15, 17)]⟩
def aIn : Ty := .pair (.sl (.u .u32)) (.pair (.sl (.u .u32)) .unit)
noncomputable def pW : aK := mSpec aIn (.one (.sl (.u .u32))) (fun x => mE x.1 x.2.1)
noncomputable def aIo : List (FuncId × aK) := [(112, cW)]
theorem aO7 : bN Tryz.prog GL aIo := .cons mD (by kernel_rfl) (.nil)
theorem aIp : gam aIo 112 = some cW := rfl
attribute [go_sem] aIn aFs aIp
set_option maxHeartbeats 4000000 in
theorem aFt : FOK Tryz.prog GL 57 pW := by
 refine bR (bC aO7) mix Tryz.func57 rfl (by kernel_rfl) (by decide) aFs fun w0 S x Θ hw h hF => ?_
 obtain ⟨(a_0 : (List Nat)), (b_1 : (List Nat)), u⟩ := x
 simp only [bV, go_sem]
 replace h : sat (mE a_0 b_1) _ := h
 unfold mE at h
 obtain ⟨g0, h⟩ := aH h
 repeat (refine ⟨by omega, ?_⟩)
 obtain ⟨g0, h⟩ := aH h
 obtain ⟨g1, h⟩ := aH h
 repeat (refine ⟨by omega, ?_⟩)
 refine bW hF (D := Int × (List Nat)) [0, 1] (fun d => [(5, .own 0), (6, .val (.i .i64) d.1)]) (fun d => [.inr (.row 96 (.u .u32) d.2)]) h rfl (by simp only [go_sem]) ?_
 rintro ⟨i_58, out_59⟩ A3 T3 hA3 hE3 h
 simp only [go_sem]
 replace h : sat (kD a_0 b_1 i_58 out_59) _ := h
 unfold kD at h
 refine dA h (fun hc h => ?_) fun hc h => ?_
 ·refine cB hF (D := Nat × (List Nat)) (fun d => sat (oT i_58 b_1 d.1 d.2) T3) [0, 1, 6] (fun d => [(5, .own 0), (7, .val (.u .u32) d.1)]) (fun d => [.inr (.row 96 (.u .u32) d.2)]) ?_ ?_
  ·simp only [go_sem]
   refine bW hF (D := Nat × Int × (List Nat)) [0, 1, 6] (fun d => [(5, .own 0), (7, .val (.u .u32) d.1), (8, .val (.i .i64) d.2.1)]) (fun d => [.inr (.row 96 (.u .u32) d.2.2)]) h rfl (by simp only [go_sem]) ?_
   rintro ⟨c_114, k_115, out_116⟩ A7 T7 hA7 hE7 h
   simp only [go_sem]
   replace h : sat (iL b_1 i_58 a_0 c_114 k_115 out_116) _ := h
   unfold iL at h
   refine dA h (fun hc h => ?_) fun hc h => ?_
   ·obtain ⟨g0, h⟩ := aH h
    obtain ⟨g1, h⟩ := aH h
    obtain ⟨g2, h⟩ := aH h
    obtain ⟨g3, h⟩ := aH h
    repeat (refine ⟨by omega, ?_⟩)
    refine cB hF (D := Nat) (fun d => sat (mR i_58 k_115 out_116 a_0 b_1 c_114 d) T7) [0, 1, 6, 8, 10] (fun d => [(5, .own 0), (11, .val (.u .u32) d)]) (fun d => [.inr (.row 96 (.u .u32) out_116)]) ?_ ?_
    ·simp only [go_sem]
     refine cZ h (fun hc h => ?_) fun hc h => ?_
     ·exact aQ ((65536 : Nat)) h rfl (by simp only [go_sem])
     ·exact aQ ((0 : Nat)) h rfl (by simp only [go_sem])
    ·rintro over_124 h
     simp only [go_sem]
     replace h : sat (mR i_58 k_115 out_116 a_0 b_1 c_114 over_124) _ := h
     unfold mR at h
     obtain ⟨g0, h⟩ := aH h
     repeat (refine ⟨by omega, ?_⟩)
     obtain ⟨g0, h⟩ := aH h
     repeat (refine ⟨by omega, ?_⟩)
     obtain ⟨g0, h⟩ := aH h
     repeat (refine ⟨by omega, ?_⟩)
     replace h := hA7 _ (aC h)
     exact aQ _ h rfl (by simp only [go_sem])
   ·replace h := hE7 _ (aC h)
    try dsimp only at h
    exact aQ ((c_114, out_116)) h rfl (by simp only [go_sem])
  ·rintro ⟨c_104, out_105⟩ h
   simp only [go_sem]
   replace h : sat (oT i_58 b_1 c_104 out_105) _ := h
   unfold oT at h
   obtain ⟨g0, h⟩ := aH h
   repeat (refine ⟨by omega, ?_⟩)
   refine bW hF (D := Nat × Int × (List Nat)) [0, 1, 6] (fun d => [(5, .own 0), (7, .val (.u .u32) d.1), (12, .val (.i .i64) d.2.1)]) (fun d => [.inr (.row 96 (.u .u32) d.2.2)]) h rfl (by simp only [go_sem]) ?_
   rintro ⟨c_106, k_107, out_108⟩ A17 T17 hA17 hE17 h
   simp only [go_sem]
   replace h : sat (eE c_106 k_107 out_108) _ := h
   unfold eE at h
   refine cZ h (fun hc h => ?_) fun hc h => ?_
   ·obtain ⟨g0, h⟩ := aH h
    repeat (refine ⟨by omega, ?_⟩)
    obtain ⟨g0, h⟩ := aH h
    repeat (refine ⟨by omega, ?_⟩)
    obtain ⟨g0, h⟩ := aH h
    repeat (refine ⟨by omega, ?_⟩)
    replace h := hA17 _ (aC h)
    exact aQ _ h rfl (by simp only [go_sem])
   ·replace h := hE17 _ (aC h)
    try dsimp only at h
    obtain ⟨g0, h⟩ := aH h
    repeat (refine ⟨by omega, ?_⟩)
    replace h := hA3 _ (aC h)
    exact aQ _ h rfl (by simp only [go_sem])
 ·replace h := hE3 _ (aC h)
  try dsimp only at h
  obtain ⟨v_126, hv, h⟩ := cT h
  try simp only [hv, go_sem]
  exact aL hF [.tmp 4] rfl rfl rfl (aC h) (by simp only [aZ, go_sem])
attribute [go_sem] pW
noncomputable def gI (i_21 : Int) (a_0 : (List Nat)) (k_35 : Int) (out_36 : (List Nat)) : Option ((Int × (List Nat)) ⊕ (((List Nat)))) :=
 if k_35 < (4 : Int) then ck (0 ≤ i_21 ∧ i_21 < (((a_0.length) : Nat) : Int)) (ck (I64 ((16 : Int) * k_35)) (ck (((out_36.length) + (1 : Nat)) * 4 ≤ 140737488355328) (ck (I64 (k_35 + (1 : Int))) (some (.inl ((k_35 + (1 : Int)), (out_36 ++ ([((((a_0.getD (i_21.toNat) (0 : Nat)) / (2 ^ ((((16 : Int) * k_35) % (18446744073709551616 : Int)).toNat))) % 4294967296) &&& (65535 : Nat))] : List Nat)))))))) else some (.inr out_36)
noncomputable def jB (a_0 : (List Nat)) (i_21 : Int) (out_22 : (List Nat)) : Option ((Int × (List Nat)) ⊕ (((List Nat)))) :=
 if i_21 < (((a_0.length) : Nat) : Int) then (cE (fun d : Int × (List Nat) => gI i_21 a_0 d.1 d.2) ((0 : Int), out_22)).bind (fun e => ck (I64 (i_21 + (1 : Int))) (some (.inl ((i_21 + (1 : Int)), e)))) else some (.inr out_22)
noncomputable def pX (a_0 : (List Nat)) : Option (List Nat) :=
 (cE (fun d : Int × (List Nat) => jB a_0 d.1 d.2) ((0 : Int), ([] : List Nat))).bind (fun e => (fK e).bind (fun v_43 => some v_43))
def aDR : PlR := ⟨[(0, .A [0]), (1, .A [0, 3]), (2, .A [0, 3, 4]), (3, .A [0, 3, 4, 9]), (4, .A [0, 3, 4]), (5, .A [0, 3, 4, 5]), (6, .A [0, 3, 4, 5, 13]), (7, .A [0, 3, 4, 5]), (8, .B [0, 3, 4, 5]), (9, .B [2])], []⟩
def aFu : Ty := .pair (.sl (.u .u64)) .unit
noncomputable def uU : aK := mSpec aFu (.one (.sl (.u .u32))) (fun x => pX x.1)
noncomputable def aFv : List (FuncId × aK) := [(112, cW)]
theorem aNX : bN Tryz.prog GL aFv := .cons mD (by kernel_rfl) (.nil)
theorem aGo : gam aFv 112 = some cW := rfl
attribute [go_sem] aFu aDR aGo
set_option maxHeartbeats 4000000 in
theorem aMg : FOK Tryz.prog GL 75 uU := by
 refine bR (bC aNX) mix Tryz.func75 rfl (by kernel_rfl) (by decide) aDR fun w0 S x Θ hw h hF => ?_
 obtain ⟨(a_0 : (List Nat)), u⟩ := x
 simp only [bV, go_sem]
 replace h : sat (pX a_0) _ := h
 unfold pX at h
 refine vU 3 96 (.u .u32) rfl ?_
 simp only [go_sem]
 refine bW hF (D := Int × (List Nat)) [0] (fun d => [(3, .own 0), (4, .val (.i .i64) d.1)]) (fun d => [.inr (.row 96 (.u .u32) d.2)]) h rfl (by simp only [go_sem]) ?_
 rintro ⟨i_21, out_22⟩ A3 T3 hA3 hE3 h
 simp only [go_sem]
 replace h : sat (jB a_0 i_21 out_22) _ := h
 unfold jB at h
 refine dA h (fun hc h => ?_) fun hc h => ?_
 ·refine bW hF (D := Int × (List Nat)) [0, 4] (fun d => [(3, .own 0), (5, .val (.i .i64) d.1)]) (fun d => [.inr (.row 96 (.u .u32) d.2)]) h rfl (by simp only [go_sem]) ?_
  rintro ⟨k_35, out_36⟩ A6 T6 hA6 hE6 h
  simp only [go_sem]
  replace h : sat (gI i_21 a_0 k_35 out_36) _ := h
  unfold gI at h
  refine dA h (fun hc h => ?_) fun hc h => ?_
  ·obtain ⟨g0, h⟩ := aH h
   repeat (refine ⟨by omega, ?_⟩)
   obtain ⟨g0, h⟩ := aH h
   repeat (refine ⟨by omega, ?_⟩)
   obtain ⟨g0, h⟩ := aH h
   repeat (refine ⟨by omega, ?_⟩)
   obtain ⟨g0, h⟩ := aH h
   repeat (refine ⟨by omega, ?_⟩)
   replace h := hA6 _ (aC h)
   refine pI [1] rfl rfl ?_
   simp only [go_sem]
   exact aQ _ h rfl (by simp only [go_sem])
  ·replace h := hE6 _ (aC h)
   try dsimp only at h
   obtain ⟨g0, h⟩ := aH h
   repeat (refine ⟨by omega, ?_⟩)
   replace h := hA3 _ (aC h)
   exact aQ _ h rfl (by simp only [go_sem])
 ·replace h := hE3 _ (aC h)
  try dsimp only at h
  obtain ⟨v_41, hv, h⟩ := cT h
  try simp only [hv, go_sem]
  exact aL hF [.tmp 2] rfl rfl rfl (aC h) (by simp only [aZ, go_sem])
attribute [go_sem] uU
noncomputable def kE (i_16 : Int) (b_1 : (List Nat)) (out_17 : (List Nat)) (c_26 : Nat) : Option ((Nat × Int × (List Nat)) ⊕ (((List Nat)))) :=
 if i_16 < (((b_1.length) : Nat) : Int) then ck (0 ≤ i_16 ∧ i_16 < (((b_1.length) : Nat) : Int)) (ck (((out_17.length) + (1 : Nat)) * 4 ≤ 140737488355328) (ck (I64 (i_16 + (1 : Int))) (some (.inl ((((c_26 + (b_1.getD (i_16.toNat) (0 : Nat))) % 4294967296) / (65536 : Nat)), (i_16 + (1 : Int)), (out_17 ++ ([(((c_26 + (b_1.getD (i_16.toNat) (0 : Nat))) % 4294967296) &&& (65535 : Nat))] : List Nat))))))) else ck (((out_17.length) + (1 : Nat)) * 4 ≤ 140737488355328) (ck (I64 (i_16 + (1 : Int))) (some (.inl ((c_26 / (65536 : Nat)), (i_16 + (1 : Int)), (out_17 ++ ([(c_26 &&& (65535 : Nat))] : List Nat))))))
noncomputable def kF (a_0 : (List Nat)) (b_1 : (List Nat)) (c_15 : Nat) (i_16 : Int) (out_17 : (List Nat)) : Option ((Nat × Int × (List Nat)) ⊕ (((List Nat)))) :=
 if ((i_16 < (((a_0.length) : Nat) : Int)) ∨ (i_16 < (((b_1.length) : Nat) : Int))) ∨ ((0 : Nat) < c_15) then if i_16 < (((a_0.length) : Nat) : Int) then ck (0 ≤ i_16 ∧ i_16 < (((a_0.length) : Nat) : Int)) (kE i_16 b_1 out_17 ((c_15 + (a_0.getD (i_16.toNat) (0 : Nat))) % 4294967296)) else kE i_16 b_1 out_17 c_15 else some (.inr out_17)
noncomputable def nU (a_0 : (List Nat)) (b_1 : (List Nat)) : Option (List Nat) :=
 (cE (fun d : Nat × Int × (List Nat) => kF a_0 b_1 d.1 d.2.1 d.2.2) ((0 : Nat), (0 : Int), ([] : List Nat))).bind (fun e => (fK e).bind (fun v_30 => some v_30))
def aFw : PlR := ⟨[(0, .A [0, 1]), (1, .A [0, 1, 5]), (2, .A [0, 1, 5, 6]), (3, .A [0, 1, 5, 6, 7]), (4, .A [0, 1, 5, 6, 7, 21]), (5, .A [0, 1, 5, 6, 7]), (6, .A [0, 1, 5, 6, 7, 27]), (7, .A [0, 1, 5, 6, 7]), (8, .A [0, 1, 5, 6, 7, 37]), (9, .A [0, 1, 5, 6, 7]), (10, .B [0, 1, 5, 6, 7]), (11, .A [0, 1, 5, 6, 7]), (12, .B [4])], [(9, 11)]⟩
def aIq : Ty := .pair (.sl (.u .u32)) (.pair (.sl (.u .u32)) .unit)
noncomputable def pY : aK := mSpec aIq (.one (.sl (.u .u32))) (fun x => nU x.1 x.2.1)
noncomputable def aIr : List (FuncId × aK) := [(112, cW)]
theorem aO8 : bN Tryz.prog GL aIr := .cons mD (by kernel_rfl) (.nil)
theorem aIs : gam aIr 112 = some cW := rfl
attribute [go_sem] aIq aFw aIs
set_option maxHeartbeats 4000000 in
theorem aFx : FOK Tryz.prog GL 79 pY := by
 refine bR (bC aO8) mix Tryz.func79 rfl (by kernel_rfl) (by decide) aFw fun w0 S x Θ hw h hF => ?_
 obtain ⟨(a_0 : (List Nat)), (b_1 : (List Nat)), u⟩ := x
 simp only [bV, go_sem]
 replace h : sat (nU a_0 b_1) _ := h
 unfold nU at h
 refine vU 5 96 (.u .u32) rfl ?_
 simp only [go_sem]
 refine bW hF (D := Nat × Int × (List Nat)) [0, 1] (fun d => [(5, .own 0), (6, .val (.u .u32) d.1), (7, .val (.i .i64) d.2.1)]) (fun d => [.inr (.row 96 (.u .u32) d.2.2)]) h rfl (by simp only [go_sem]) ?_
 rintro ⟨c_15, i_16, out_17⟩ A4 T4 hA4 hE4 h
 simp only [go_sem]
 replace h : sat (kF a_0 b_1 c_15 i_16 out_17) _ := h
 unfold kF at h
 refine ⟨fun hc => ?_, fun hc => ?_⟩
 ·replace h := fB hc h
  refine cB hF (D := Nat) (fun d => sat (kE i_16 b_1 out_17 d) T4) [0, 1, 7] (fun d => [(5, .own 0), (6, .val (.u .u32) d)]) (fun d => [.inr (.row 96 (.u .u32) out_17)]) ?_ ?_
  ·simp only [go_sem]
   refine dA h (fun hc h => ?_) fun hc h => ?_
   ·obtain ⟨g0, h⟩ := aH h
    repeat (refine ⟨by omega, ?_⟩)
    exact aQ (((c_15 + (a_0.getD (i_16.toNat) (0 : Nat))) % 4294967296)) h rfl (by simp only [go_sem])
   ·exact aQ (c_15) h rfl (by simp only [go_sem])
  ·rintro c_26 h
   simp only [go_sem]
   replace h : sat (kE i_16 b_1 out_17 c_26) _ := h
   unfold kE at h
   refine dA h (fun hc h => ?_) fun hc h => ?_
   ·obtain ⟨g0, h⟩ := aH h
    repeat (refine ⟨by omega, ?_⟩)
    obtain ⟨g0, h⟩ := aH h
    repeat (refine ⟨by omega, ?_⟩)
    refine aI h fun g0 h => ?_
    replace h := hA4 _ (aC h)
    refine pI [1] rfl rfl ?_
    simp only [go_sem]
    exact aQ _ h rfl (by simp only [go_sem])
   ·obtain ⟨g0, h⟩ := aH h
    repeat (refine ⟨by omega, ?_⟩)
    refine aI h fun g0 h => ?_
    replace h := hA4 _ (aC h)
    refine pI [1] rfl rfl ?_
    simp only [go_sem]
    exact aQ _ h rfl (by simp only [go_sem])
 ·replace h := fC hc h
  replace h := hE4 _ (aC h)
  try dsimp only at h
  obtain ⟨v_28, hv, h⟩ := cT h
  try simp only [hv, go_sem]
  exact aL hF [.tmp 4] rfl rfl rfl (aC h) (by simp only [aZ, go_sem])
attribute [go_sem] pY
noncomputable def kG (n_0 : Int) (out_12 : (List Nat)) (i_13 : Int) : Option (((List Nat) × Int) ⊕ (((List Nat)))) :=
 if i_13 < n_0 then (mE out_12 ([10] : List Nat)).bind (fun v_22 => ck (I64 (i_13 + (1 : Int))) (some (.inl (v_22, (i_13 + (1 : Int)))))) else some (.inr out_12)
noncomputable def sF (n_0 : Int) : Option (List Nat) :=
 (cE (fun d : (List Nat) × Int => kG n_0 d.1 d.2) (([1] : List Nat), (0 : Int))).bind (fun e => some e)
def aFy : PlR := ⟨[], []⟩
def aIt : Ty := .pair (.i .i64) .unit
noncomputable def xM : aK := mSpec aIt (.one (.sl (.u .u32))) (fun x => sF x.1)
noncomputable def aIu : List (FuncId × aK) := [(57, pW)]
theorem aO9 : bN Tryz.prog GL aIu := .cons aFt (by kernel_rfl) (.nil)
theorem aJ6 : gam aIu 57 = some pW := rfl
attribute [go_sem] aIt aFy aJ6
set_option maxHeartbeats 4000000 in
theorem aNY : FOK Tryz.prog GL 58 xM := by
 refine bR (bC aO9) mix Tryz.func58 rfl (by kernel_rfl) (by decide) aFy fun w0 S x Θ hw h hF => ?_
 obtain ⟨(n_0 : Int), u⟩ := x
 simp only [bV, go_sem]
 replace h : sat (sF n_0) _ := h
 unfold sF at h
 refine dB hF [0] ?_
 simp only [go_sem]
 refine dB hF [0, 3] ?_
 simp only [go_sem]
 refine dB hF [0, 3, 4] ?_
 simp only [go_sem]
 refine bW hF (D := (List Nat) × Int) [0] (fun d => [(3, .val (.sl (.u .u32)) d.1), (4, .val (.i .i64) d.2)]) (fun d => []) h rfl (by simp only [go_sem]) ?_
 rintro ⟨out_12, i_13⟩ A3 T3 hA3 hE3 h
 simp only [go_sem]
 replace h : sat (kG n_0 out_12 i_13) _ := h
 unfold kG at h
 refine dB hF [0, 3, 4, 8] ?_
 simp only [go_sem]
 refine dA h (fun hc h => ?_) fun hc h => ?_
 ·refine dB hF [0, 3, 4] ?_
  simp only [go_sem]
  obtain ⟨v_22, hv, h⟩ := cT h
  try simp only [hv, go_sem]
  refine dB hF [0, 3, 4] ?_
  simp only [go_sem]
  refine aI h fun g0 h => ?_
  replace h := hA3 _ (aC h)
  exact aQ _ h rfl (by simp only [go_sem])
 ·replace h := hE3 _ (aC h)
  try dsimp only at h
  refine dB hF [2] ?_
  simp only [go_sem]
  exact aL hF [.tmp 2] rfl rfl rfl (aC h) (by simp only [aZ, go_sem])
attribute [go_sem] xM
noncomputable def jC (n_6 : Int) (x_7 : Nat) : Option ((Int × Nat) ⊕ ((Int))) :=
 if (0 : Nat) < x_7 then ck (I64 (n_6 + (1 : Int))) (some (.inl ((n_6 + (1 : Int)), (x_7 / (2 : Nat))))) else some (.inr n_6)
noncomputable def pZ (a_0 : (List Nat)) : Option Int :=
 if (((a_0.length) : Nat) : Int) = (0 : Int) then some (0 : Int) else ck (I64 ((((a_0.length) : Nat) : Int) - (1 : Int))) (ck (I64 ((16 : Int) * ((((a_0.length) : Nat) : Int) - (1 : Int)))) (ck (I64 ((((a_0.length) : Nat) : Int) - (1 : Int))) (ck (0 ≤ ((((a_0.length) : Nat) : Int) - (1 : Int)) ∧ ((((a_0.length) : Nat) : Int) - (1 : Int)) < (((a_0.length) : Nat) : Int)) ((cE (fun d : Int × Nat => jC d.1 d.2) (((16 : Int) * ((((a_0.length) : Nat) : Int) - (1 : Int))), (a_0.getD (((((a_0.length) : Nat) : Int) - (1 : Int)).toNat) (0 : Nat)))).bind (fun e => some e)))))
def aDS : PlR := ⟨[(0, .A [0]), (1, .A [0, 7]), (2, .A [2]), (3, .A [0, 3]), (4, .A [3, 4]), (5, .A [3, 4, 19]), (6, .A [3, 4]), (7, .A [3, 4]), (8, .A [2])], []⟩
def aFz : Ty := .pair (.sl (.u .u32)) .unit
noncomputable def uW : aK := mSpec aFz (.one (.i .i64)) (fun x => pZ x.1)
noncomputable def aNZ : List (FuncId × aK) := []
theorem aN0 : bN Tryz.prog GL aNZ := .nil
attribute [go_sem] aFz aDS
set_option maxHeartbeats 4000000 in
theorem aMh : FOK Tryz.prog GL 115 uW := by
 refine bR (bC aN0) mix Tryz.func115 rfl (by kernel_rfl) (by decide) aDS fun w0 S x Θ hw h hF => ?_
 obtain ⟨(a_0 : (List Nat)), u⟩ := x
 simp only [bV, go_sem]
 replace h : sat (pZ a_0) _ := h
 unfold pZ at h
 refine cZ h (fun hc h => ?_) fun hc h => ?_
 ·exact aL hF [.tmp 2] rfl rfl rfl (aC h) (by simp only [aZ, go_sem])
 ·refine aI h fun g0 h => aI h fun g1 h => ?_
  refine aI h fun g0 h => aI h fun g1 h => ?_
  refine bW hF (D := Int × Nat) [] (fun d => [(3, .val (.i .i64) d.1), (4, .val (.u .u32) d.2)]) (fun d => []) h rfl (by simp only [go_sem]) ?_
  rintro ⟨n_6, x_7⟩ A5 T5 hA5 hE5 h
  simp only [go_sem]
  replace h : sat (jC n_6 x_7) _ := h
  unfold jC at h
  refine cZ h (fun hc h => ?_) fun hc h => ?_
  ·refine aI h fun g0 h => ?_
   replace h := hA5 _ (aC h)
   exact aQ _ h rfl (by simp only [go_sem])
  ·replace h := hE5 _ (aC h)
   try dsimp only at h
   exact aL hF [.tmp 2] rfl rfl rfl (aC h) (by simp only [aZ, go_sem])
attribute [go_sem] uW
noncomputable def kH (a_0 : (List Nat)) (n_1 : Int) (c_9 : Nat) (i_10 : Int) (out_11 : (List Nat)) : Option ((Nat × Int × (List Nat)) ⊕ ((Nat × (List Nat)))) :=
 if i_10 < (((a_0.length) : Nat) : Int) then ck (0 ≤ i_10 ∧ i_10 < (((a_0.length) : Nat) : Int)) (ck (((out_11.length) + (1 : Nat)) * 4 ≤ 140737488355328) (ck (I64 (i_10 + (1 : Int))) (some (.inl ((((((a_0.getD (i_10.toNat) (0 : Nat)) * (2 ^ (((Int.tmod n_1 (16 : Int)) % (18446744073709551616 : Int)).toNat))) % 4294967296) ||| c_9) / (65536 : Nat)), (i_10 + (1 : Int)), (out_11 ++ ([(((((a_0.getD (i_10.toNat) (0 : Nat)) * (2 ^ (((Int.tmod n_1 (16 : Int)) % (18446744073709551616 : Int)).toNat))) % 4294967296) ||| c_9) &&& (65535 : Nat))] : List Nat))))))) else some (.inr (c_9, out_11))
noncomputable def jD (a_0 : (List Nat)) (n_1 : Int) : Option (List Nat) :=
 if (((a_0.length) : Nat) : Int) = (0 : Int) then some a_0 else ck (I64 (Int.tdiv n_1 (16 : Int))) (ck (0 ≤ (Int.tdiv n_1 (16 : Int))) (ck ((4 : Int) * (Int.tdiv n_1 (16 : Int)) ≤ 281474976710656) ((cE (fun d : Nat × Int × (List Nat) => kH a_0 n_1 d.1 d.2.1 d.2.2) ((0 : Nat), (0 : Int), (List.replicate ((Int.tdiv n_1 (16 : Int)).toNat) (0 : Nat)))).bind (fun e => ck (((e.2.length) + (1 : Nat)) * 4 ≤ 140737488355328) ((fK (e.2 ++ ([e.1] : List Nat))).bind (fun v_20 => some v_20))))))
def aFA : PlR := ⟨[(0, .A [0, 1]), (1, .A [0, 1, 11]), (2, .A [4]), (3, .B [0, 1, 5]), (4, .A [0, 1, 5, 6]), (5, .A [0, 1, 5, 6, 7]), (6, .A [0, 1, 5, 6, 7, 19]), (7, .A [0, 1, 5, 6, 7]), (8, .A [0, 1, 5, 7, 8]), (9, .B [0, 1, 5, 7, 8]), (10, .A [0, 1, 5, 6, 7]), (11, .B [4])], []⟩
def aIv : Ty := .pair (.sl (.u .u32)) (.pair (.i .i64) .unit)
noncomputable def qA : aK := mSpec aIv (.one (.sl (.u .u32))) (fun x => jD x.1 x.2.1)
noncomputable def aIw : List (FuncId × aK) := [(112, cW)]
theorem aPa : bN Tryz.prog GL aIw := .cons mD (by kernel_rfl) (.nil)
theorem aIx : gam aIw 112 = some cW := rfl
attribute [go_sem] aIv aFA aIx
set_option maxHeartbeats 4000000 in
theorem aFB : FOK Tryz.prog GL 76 qA := by
 refine bR (bC aPa) mix Tryz.func76 rfl (by kernel_rfl) (by decide) aFA fun w0 S x Θ hw h hF => ?_
 obtain ⟨(a_0 : (List Nat)), (n_1 : Int), u⟩ := x
 simp only [bV, go_sem]
 replace h : sat (jD a_0 n_1) _ := h
 unfold jD at h
 refine cZ h (fun hc h => ?_) fun hc h => ?_
 ·exact aL hF [.tmp 4] rfl rfl rfl (aC h) (by simp only [aZ, go_sem])
 ·refine aI h fun g0 h => ?_
  obtain ⟨g0, h⟩ := aH h
  obtain ⟨g1, h⟩ := aH h
  repeat (refine ⟨by omega, ?_⟩)
  refine bW hF (D := Nat × Int × (List Nat)) [0, 1] (fun d => [(5, .own 0), (6, .val (.u .u32) d.1), (7, .val (.i .i64) d.2.1)]) (fun d => [.inr (.row 96 (.u .u32) d.2.2)]) h rfl (by simp only [go_sem]) ?_
  rintro ⟨c_9, i_10, out_11⟩ A6 T6 hA6 hE6 h
  simp only [go_sem]
  replace h : sat (kH a_0 n_1 c_9 i_10 out_11) _ := h
  unfold kH at h
  refine dA h (fun hc h => ?_) fun hc h => ?_
  ·obtain ⟨g0, h⟩ := aH h
   repeat (refine ⟨by omega, ?_⟩)
   obtain ⟨g0, h⟩ := aH h
   repeat (refine ⟨by omega, ?_⟩)
   refine aI h fun g0 h => ?_
   replace h := hA6 _ (aC h)
   refine pI [1] rfl rfl ?_
   simp only [go_sem]
   exact aQ _ h rfl (by (try simp only [jR, fQ, true_or, and_self, go_sem]) <;> (repeat' apply And.intro) <;> first | rfl | (left; rfl) | (right; rfl) | (left; simp only [go_sem]; done) | (right; simp only [go_sem]; done) | (simp; done) | (simp only [*]; done) | omega)
  ·replace h := hE6 _ (aC h)
   try dsimp only at h
   obtain ⟨g0, h⟩ := aH h
   repeat (refine ⟨by omega, ?_⟩)
   obtain ⟨v_18, hv, h⟩ := cT h
   try simp only [hv, go_sem]
   exact aL hF [.tmp 4] rfl rfl rfl (aC h) (by simp only [aZ, go_sem])
attribute [go_sem] qA
noncomputable def sG (a_0 : (List Nat)) (i_1 : Int) : Option Nat :=
 ck (I64 (Int.tdiv i_1 (16 : Int))) (if (((a_0.length) : Nat) : Int) ≤ (Int.tdiv i_1 (16 : Int)) then some (0 : Nat) else ck (I64 (Int.tdiv i_1 (16 : Int))) (ck (0 ≤ (Int.tdiv i_1 (16 : Int)) ∧ (Int.tdiv i_1 (16 : Int)) < (((a_0.length) : Nat) : Int)) (some (((a_0.getD ((Int.tdiv i_1 (16 : Int)).toNat) (0 : Nat)) / (2 ^ (((Int.tmod i_1 (16 : Int)) % (18446744073709551616 : Int)).toNat))) &&& (1 : Nat)))))
def aFC : PlR := ⟨[(0, .A [0, 1]), (1, .A [0, 1, 9]), (2, .A [4]), (3, .A [4])], []⟩
def aIy : Ty := .pair (.sl (.u .u32)) (.pair (.i .i64) .unit)
noncomputable def xN : aK := mSpec aIy (.one (.u .u32)) (fun x => sG x.1 x.2.1)
noncomputable def aPb : List (FuncId × aK) := []
theorem aPc : bN Tryz.prog GL aPb := .nil
attribute [go_sem] aIy aFC
set_option maxHeartbeats 4000000 in
theorem aN1 : FOK Tryz.prog GL 128 xN := by
 refine bR (bC aPc) mix Tryz.func128 rfl (by kernel_rfl) (by decide) aFC fun w0 S x Θ hw h hF => ?_
 obtain ⟨(a_0 : (List Nat)), (i_1 : Int), u⟩ := x
 simp only [bV, go_sem]
 replace h : sat (sG a_0 i_1) _ := h
 unfold sG at h
 refine aI h fun g0 h => ?_
 refine aAd h (fun hc h => ?_) fun hc h => ?_
 ·exact aL hF [.tmp 4] rfl rfl rfl (aC h) (by simp only [aZ, go_sem])
 ·refine aI h fun g0 h => aI h fun g1 h => ?_
  exact aL hF [.tmp 4] rfl rfl rfl (aC h) (by (simp only [aZ, go_sem]) <;> first | rfl | (simp; done))
attribute [go_sem] xN
noncomputable def kI (a_0 : (List Nat)) (b_1 : (List Nat)) (i_5 : Int) : Option ((Int) ⊕ ((Unit) ⊕ Int)) :=
 if (0 : Int) ≤ i_5 then ck (0 ≤ i_5 ∧ i_5 < (((a_0.length) : Nat) : Int)) (ck (0 ≤ i_5 ∧ i_5 < (((b_1.length) : Nat) : Int)) (if (a_0.getD (i_5.toNat) (0 : Nat)) < (b_1.getD (i_5.toNat) (0 : Nat)) then some (.inr (.inr (-1 : Int))) else ck (0 ≤ i_5 ∧ i_5 < (((a_0.length) : Nat) : Int)) (ck (0 ≤ i_5 ∧ i_5 < (((b_1.length) : Nat) : Int)) (if (b_1.getD (i_5.toNat) (0 : Nat)) < (a_0.getD (i_5.toNat) (0 : Nat)) then some (.inr (.inr (1 : Int))) else ck (I64 (i_5 - (1 : Int))) (some (.inl (i_5 - (1 : Int)))))))) else some (.inr (.inl ()))
noncomputable def mF (a_0 : (List Nat)) (b_1 : (List Nat)) : Option Int :=
 if ¬ ((((a_0.length) : Nat) : Int) = (((b_1.length) : Nat) : Int)) then if (((a_0.length) : Nat) : Int) < (((b_1.length) : Nat) : Int) then some (-1 : Int) else some (1 : Int) else ck (I64 ((((a_0.length) : Nat) : Int) - (1 : Int))) ((cE (fun d : Int => kI a_0 b_1 d) ((((a_0.length) : Nat) : Int) - (1 : Int))).bind (fun e => match e with | (.inl e) => some (0 : Int) | (.inr e) => some e))
def aFD : PlR := ⟨[(0, .A [0, 1]), (1, .A [0, 1, 10]), (2, .A [15]), (3, .A [4]), (4, .A [4]), (5, .A [0, 1, 5]), (6, .A [0, 1, 5, 20]), (7, .A [0, 1, 5]), (8, .A [0, 1, 5, 31]), (9, .A [4]), (10, .A [0, 1, 5, 40]), (11, .A [4]), (12, .A [4])], []⟩
def aIz : Ty := .pair (.sl (.u .u32)) (.pair (.sl (.u .u32)) .unit)
noncomputable def qB : aK := mSpec aIz (.one (.i .i64)) (fun x => mF x.1 x.2.1)
noncomputable def aPd : List (FuncId × aK) := []
theorem aPe : bN Tryz.prog GL aPd := .nil
attribute [go_sem] aIz aFD
set_option maxHeartbeats 4000000 in
theorem aFE : FOK Tryz.prog GL 78 qB := by
 refine bR (bC aPe) mix Tryz.func78 rfl (by kernel_rfl) (by decide) aFD fun w0 S x Θ hw h hF => ?_
 obtain ⟨(a_0 : (List Nat)), (b_1 : (List Nat)), u⟩ := x
 simp only [bV, go_sem]
 replace h : sat (mF a_0 b_1) _ := h
 unfold mF at h
 refine cZ h (fun hc h => ?_) fun hc h => ?_
 ·refine dA h (fun hc h => ?_) fun hc h => ?_
  ·exact aL hF [.tmp 4] rfl rfl rfl (aC h) (by simp only [aZ, go_sem])
  ·exact aL hF [.tmp 4] rfl rfl rfl (aC h) (by simp only [aZ, go_sem])
 ·refine aI h fun g0 h => ?_
  refine bW hF (D := Int) [0, 1] (fun d => [(5, .val (.i .i64) d)]) (fun d => []) h rfl (by simp only [go_sem]) ?_
  rintro i_5 A6 T6 hA6 hE6 h
  simp only [go_sem]
  replace h : sat (kI a_0 b_1 i_5) _ := h
  unfold kI at h
  refine aAd h (fun hc h => ?_) fun hc h => ?_
  ·refine aI h fun g0 h => aI h fun g1 h => ?_
   refine cZ h (fun hc h => ?_) fun hc h => ?_
   ·replace h := hE6 _ (aC h)
    try dsimp only at h
    exact aL hF [.tmp 4] rfl rfl rfl (aC h) (by simp only [aZ, go_sem])
   ·refine aI h fun g0 h => aI h fun g1 h => ?_
    refine cZ h (fun hc h => ?_) fun hc h => ?_
    ·replace h := hE6 _ (aC h)
     try dsimp only at h
     exact aL hF [.tmp 4] rfl rfl rfl (aC h) (by simp only [aZ, go_sem])
    ·refine aI h fun g0 h => ?_
     replace h := hA6 _ (aC h)
     exact aQ _ h rfl (by simp only [go_sem])
  ·replace h := hE6 _ (aC h)
   try dsimp only at h
   exact aL hF [.tmp 4] rfl rfl rfl (aC h) (by simp only [aZ, go_sem])
attribute [go_sem] qB
noncomputable def kJ (out_20 : (List Nat)) (i_19 : Int) (x_31 : Int) : Option ((Int × Int × (List Nat)) ⊕ (((List Nat)))) :=
 if x_31 < (0 : Int) then ck (I32 (x_31 + (65536 : Int))) (ck (((out_20.length) + (1 : Nat)) * 4 ≤ 140737488355328) (ck (I64 (i_19 + (1 : Int))) (some (.inl ((1 : Int), (i_19 + (1 : Int)), (out_20 ++ ([(((x_31 + (65536 : Int)) % (4294967296 : Int)).toNat)] : List Nat))))))) else ck (((out_20.length) + (1 : Nat)) * 4 ≤ 140737488355328) (ck (I64 (i_19 + (1 : Int))) (some (.inl ((0 : Int), (i_19 + (1 : Int)), (out_20 ++ ([((x_31 % (4294967296 : Int)).toNat)] : List Nat))))))
noncomputable def kK (a_0 : (List Nat)) (b_1 : (List Nat)) (c_18 : Int) (i_19 : Int) (out_20 : (List Nat)) : Option ((Int × Int × (List Nat)) ⊕ (((List Nat)))) :=
 if i_19 < (((a_0.length) : Nat) : Int) then ck (0 ≤ i_19 ∧ i_19 < (((a_0.length) : Nat) : Int)) (ck (I32 ((IntKind.i32.wrap (((a_0.getD (i_19.toNat) (0 : Nat)) : Nat) : Int)) - c_18)) (if i_19 < (((b_1.length) : Nat) : Int) then ck (0 ≤ i_19 ∧ i_19 < (((b_1.length) : Nat) : Int)) (ck (I32 (((IntKind.i32.wrap (((a_0.getD (i_19.toNat) (0 : Nat)) : Nat) : Int)) - c_18) - (IntKind.i32.wrap (((b_1.getD (i_19.toNat) (0 : Nat)) : Nat) : Int)))) (kJ out_20 i_19 (((IntKind.i32.wrap (((a_0.getD (i_19.toNat) (0 : Nat)) : Nat) : Int)) - c_18) - (IntKind.i32.wrap (((b_1.getD (i_19.toNat) (0 : Nat)) : Nat) : Int))))) else kJ out_20 i_19 ((IntKind.i32.wrap (((a_0.getD (i_19.toNat) (0 : Nat)) : Nat) : Int)) - c_18))) else some (.inr out_20)
noncomputable def pL (a_0 : (List Nat)) (b_1 : (List Nat)) : Option (List Nat) :=
 (cE (fun d : Int × Int × (List Nat) => kK a_0 b_1 d.1 d.2.1 d.2.2) ((0 : Int), (0 : Int), ([] : List Nat))).bind (fun e => (fK e).bind (fun v_35 => some v_35))
def aFF : PlR := ⟨[(0, .A [0, 1]), (1, .A [0, 1, 5]), (2, .A [0, 1, 5, 6]), (3, .A [0, 1, 5, 6, 7]), (4, .A [0, 1, 5, 6, 7, 12]), (5, .A [0, 1, 5, 6, 7]), (6, .A [0, 1, 5, 7, 8]), (7, .A [0, 1, 5, 7, 8, 25]), (8, .A [0, 1, 5, 7, 8]), (9, .A [0, 1, 5, 6, 7, 8]), (10, .A [0, 1, 5, 6, 7, 8, 34]), (11, .A [0, 1, 5, 7, 8]), (12, .A [0, 1, 5, 6, 7, 8]), (13, .B [0, 1, 5, 6, 7]), (14, .B [4])], [(10, 12)]⟩
def aIA : Ty := .pair (.sl (.u .u32)) (.pair (.sl (.u .u32)) .unit)
noncomputable def xO : aK := mSpec aIA (.one (.sl (.u .u32))) (fun x => pL x.1 x.2.1)
noncomputable def aIB : List (FuncId × aK) := [(112, cW)]
theorem aPf : bN Tryz.prog GL aIB := .cons mD (by kernel_rfl) (.nil)
theorem aIC : gam aIB 112 = some cW := rfl
attribute [go_sem] aIA aFF aIC
set_option maxHeartbeats 4000000 in
theorem aN2 : FOK Tryz.prog GL 129 xO := by
 refine bR (bC aPf) mix Tryz.func129 rfl (by kernel_rfl) (by decide) aFF fun w0 S x Θ hw h hF => ?_
 obtain ⟨(a_0 : (List Nat)), (b_1 : (List Nat)), u⟩ := x
 simp only [bV, go_sem]
 replace h : sat (pL a_0 b_1) _ := h
 unfold pL at h
 refine vU 5 96 (.u .u32) rfl ?_
 simp only [go_sem]
 refine bW hF (D := Int × Int × (List Nat)) [0, 1] (fun d => [(5, .own 0), (6, .val (.i .i32) d.1), (7, .val (.i .i64) d.2.1)]) (fun d => [.inr (.row 96 (.u .u32) d.2.2)]) h rfl (by simp only [go_sem]) ?_
 rintro ⟨c_18, i_19, out_20⟩ A4 T4 hA4 hE4 h
 simp only [go_sem]
 replace h : sat (kK a_0 b_1 c_18 i_19 out_20) _ := h
 unfold kK at h
 refine dA h (fun hc h => ?_) fun hc h => ?_
 ·obtain ⟨g0, h⟩ := aH h
  obtain ⟨g1, h⟩ := aH h
  try simp only [I64, I32] at g1
  repeat (refine ⟨by first | with_reducible assumption | omega | (intros; first | assumption | omega) | (simp only [go_sem] at *; first | assumption | omega) | decide, ?_⟩)
  refine cB hF (D := Int) (fun d => sat (kJ out_20 i_19 d) T4) [0, 1, 7] (fun d => [(5, .own 0), (8, .val (.i .i32) d)]) (fun d => [.inr (.row 96 (.u .u32) out_20)]) ?_ ?_
  ·simp only [go_sem]
   refine dA h (fun hc h => ?_) fun hc h => ?_
   ·obtain ⟨g0, h⟩ := aH h
    obtain ⟨g1, h⟩ := aH h
    try simp only [I64, I32] at g1
    repeat (refine ⟨by first | with_reducible assumption | omega | (intros; first | assumption | omega) | (simp only [go_sem] at *; first | assumption | omega) | decide, ?_⟩)
    exact aQ ((((IntKind.i32.wrap (((a_0.getD (i_19.toNat) (0 : Nat)) : Nat) : Int)) - c_18) - (IntKind.i32.wrap (((b_1.getD (i_19.toNat) (0 : Nat)) : Nat) : Int)))) h rfl (by simp only [go_sem])
   ·exact aQ (((IntKind.i32.wrap (((a_0.getD (i_19.toNat) (0 : Nat)) : Nat) : Int)) - c_18)) h rfl (by simp only [go_sem])
  ·rintro x_31 h
   simp only [go_sem]
   replace h : sat (kJ out_20 i_19 x_31) _ := h
   unfold kJ at h
   refine dA h (fun hc h => ?_) fun hc h => ?_
   ·obtain ⟨g0, h⟩ := aH h
    try simp only [I64, I32] at g0
    repeat (refine ⟨by first | with_reducible assumption | omega | (intros; first | assumption | omega) | (simp only [go_sem] at *; first | assumption | omega) | decide, ?_⟩)
    obtain ⟨g0, h⟩ := aH h
    repeat (refine ⟨by first | with_reducible assumption | omega | (intros; first | assumption | omega) | (simp only [go_sem] at *; first | assumption | omega) | decide, ?_⟩)
    obtain ⟨g0, h⟩ := aH h
    try simp only [I64, I32] at g0
    repeat (refine ⟨by first | with_reducible assumption | omega | (intros; first | assumption | omega) | (simp only [go_sem] at *; first | assumption | omega) | decide, ?_⟩)
    replace h := hA4 _ (aC h)
    refine pI [1] rfl rfl ?_
    simp only [go_sem]
    exact aQ _ h rfl (by simp only [go_sem])
   ·obtain ⟨g0, h⟩ := aH h
    repeat (refine ⟨by first | with_reducible assumption | omega | (intros; first | assumption | omega) | (simp only [go_sem] at *; first | assumption | omega) | decide, ?_⟩)
    obtain ⟨g0, h⟩ := aH h
    try simp only [I64, I32] at g0
    repeat (refine ⟨by first | with_reducible assumption | omega | (intros; first | assumption | omega) | (simp only [go_sem] at *; first | assumption | omega) | decide, ?_⟩)
    replace h := hA4 _ (aC h)
    refine pI [1] rfl rfl ?_
    simp only [go_sem]
    exact aQ _ h rfl (by simp only [go_sem])
 ·replace h := hE4 _ (aC h)
  try dsimp only at h
  obtain ⟨v_33, hv, h⟩ := cT h
  try simp only [hv, go_sem]
  exact aL hF [.tmp 4] rfl rfl rfl (aC h) (by simp only [aZ, go_sem])
attribute [go_sem] xO
noncomputable def kL (b_1 : (List Nat)) (i_53 : Int) (q_54 : (List Nat)) (r_92 : (List Nat)) : Option (((List Nat) × Int × (List Nat)) ⊕ (((List Nat) × (List Nat)))) :=
 (mF r_92 b_1).bind (fun v_96 => if (0 : Int) ≤ v_96 then (pL r_92 b_1).bind (fun v_100 => ck (I64 (Int.tdiv i_53 (16 : Int))) (ck (I64 (Int.tdiv i_53 (16 : Int))) (ck (0 ≤ (Int.tdiv i_53 (16 : Int)) ∧ (Int.tdiv i_53 (16 : Int)) < (((q_54.length) : Nat) : Int)) (ck (0 ≤ (Int.tdiv i_53 (16 : Int)) ∧ (Int.tdiv i_53 (16 : Int)) < (((q_54.length) : Nat) : Int)) (ck (I64 (i_53 - (1 : Int))) (some (.inl (v_100, (i_53 - (1 : Int)), (q_54.set ((Int.tdiv i_53 (16 : Int)).toNat) ((q_54.getD ((Int.tdiv i_53 (16 : Int)).toNat) (0 : Nat)) ||| (((1 : Nat) * (2 ^ (((Int.tmod i_53 (16 : Int)) % (18446744073709551616 : Int)).toNat))) % 4294967296))))))))))) else ck (I64 (i_53 - (1 : Int))) (some (.inl (r_92, (i_53 - (1 : Int)), q_54))))
noncomputable def kM (a_0 : (List Nat)) (b_1 : (List Nat)) (r_52 : (List Nat)) (i_53 : Int) (q_54 : (List Nat)) : Option (((List Nat) × Int × (List Nat)) ⊕ (((List Nat) × (List Nat)))) :=
 if (0 : Int) ≤ i_53 then (jD r_52 (1 : Int)).bind (fun v_87 => (sG a_0 i_53).bind (fun v_104 => if v_104 = (1 : Nat) then (nU v_87 ([1] : List Nat)).bind (fun v_106 => kL b_1 i_53 q_54 v_106) else kL b_1 i_53 q_54 v_87)) else some (.inr (r_52, q_54))
noncomputable def sH (a_0 : (List Nat)) (b_1 : (List Nat)) : Option ((List Nat) × ((List Nat) × Unit)) :=
 (pZ a_0).bind (fun v_6 => ck (0 ≤ (((a_0.length) : Nat) : Int)) (ck ((4 : Int) * (((a_0.length) : Nat) : Int) ≤ 281474976710656) (ck (I64 (v_6 - (1 : Int))) ((cE (fun d : (List Nat) × Int × (List Nat) => kM a_0 b_1 d.1 d.2.1 d.2.2) (([] : List Nat), (v_6 - (1 : Int)), (List.replicate (a_0.length) (0 : Nat)))).bind (fun e => (fK e.2).bind (fun v_110 => some (v_110, e.1, ())))))))
def aFG : PlR := ⟨[(0, .A [0, 1]), (1, .A [0, 1, 6]), (2, .B [0, 1, 6, 7]), (3, .A [0, 1, 6, 7, 8]), (4, .A [0, 1, 7, 8, 9]), (5, .A [0, 1, 7, 8, 9, 18]), (6, .A [0, 1, 7, 8, 9]), (7, .A [0, 1, 7, 8, 9]), (8, .A [0, 1, 7, 8, 9, 26]), (9, .A [0, 1, 7, 8, 9]), (10, .A [0, 1, 7, 8, 9, 33]), (11, .A [0, 1, 7, 8, 9]), (12, .B [0, 1, 7, 8, 9]), (13, .B [4, 5])], [(11, 13)]⟩
def aID : Ty := .pair (.sl (.u .u32)) (.pair (.sl (.u .u32)) .unit)
noncomputable def xP : aK := mSpec aID (.tup (.pair (.sl (.u .u32)) (.pair (.sl (.u .u32)) .unit))) (fun x => sH x.1 x.2.1)
noncomputable def nV : List (FuncId × aK) := [(112, cW), (115, uW), (128, xN), (129, xO), (76, qA), (78, qB), (79, pY)]
theorem aPg : bN Tryz.prog GL nV := .cons mD (by kernel_rfl) (.cons aMh (by kernel_rfl) (.cons aN1 (by kernel_rfl) (.cons aN2 (by kernel_rfl) (.cons aFB (by kernel_rfl) (.cons aFE (by kernel_rfl) (.cons aFx (by kernel_rfl) (.nil)))))))
theorem aIE : gam nV 112 = some cW := rfl
theorem aIF : gam nV 115 = some uW := rfl
theorem aIG : gam nV 128 = some xN := rfl
theorem aIH : gam nV 129 = some xO := rfl
theorem aJ7 : gam nV 76 = some qA := rfl
theorem aJ8 : gam nV 78 = some qB := rfl
theorem aJ9 : gam nV 79 = some pY := rfl
attribute [go_sem] aID aFG aIE aIF aIG aIH aJ7 aJ8 aJ9
set_option maxHeartbeats 4000000 in
theorem aN3 : FOK Tryz.prog GL 66 xP := by
 refine bR (bC aPg) mix Tryz.func66 rfl (by kernel_rfl) (by decide) aFG fun w0 S x Θ hw h hF => ?_
 obtain ⟨(a_0 : (List Nat)), (b_1 : (List Nat)), u⟩ := x
 simp only [bV, go_sem]
 replace h : sat (sH a_0 b_1) _ := h
 unfold sH at h
 obtain ⟨v_6, hv, h⟩ := cT h
 try simp only [hv, go_sem]
 obtain ⟨g0, h⟩ := aH h
 obtain ⟨g1, h⟩ := aH h
 repeat (refine ⟨by omega, ?_⟩)
 refine aI h fun g0 h => ?_
 refine bW hF (D := (List Nat) × Int × (List Nat)) [0, 1] (fun d => [(7, .own 0), (8, .val (.sl (.u .u32)) d.1), (9, .val (.i .i64) d.2.1)]) (fun d => [.inr (.row 96 (.u .u32) d.2.2)]) h rfl (by simp only [go_sem]) ?_
 rintro ⟨r_52, i_53, q_54⟩ A5 T5 hA5 hE5 h
 simp only [go_sem]
 replace h : sat (kM a_0 b_1 r_52 i_53 q_54) _ := h
 unfold kM at h
 refine aAd h (fun hc h => ?_) fun hc h => ?_
 ·obtain ⟨v_87, hv, h⟩ := cT h
  try simp only [hv, go_sem]
  refine cB hF (D := (List Nat)) (fun d => sat (kL b_1 i_53 q_54 d) T5) [0, 1, 9] (fun d => [(7, .own 0), (8, .val (.sl (.u .u32)) d)]) (fun d => [.inr (.row 96 (.u .u32) q_54)]) ?_ ?_
  ·simp only [go_sem]
   obtain ⟨v_104, hv, h⟩ := cT h
   try simp only [hv, go_sem]
   refine cZ h (fun hc h => ?_) fun hc h => ?_
   ·obtain ⟨v_106, hv, h⟩ := cT h
    try simp only [hv, go_sem]
    exact aQ (v_106) h rfl (by simp only [go_sem])
   ·exact aQ (v_87) h rfl (by simp only [go_sem])
  ·rintro r_92 h
   simp only [go_sem]
   replace h : sat (kL b_1 i_53 q_54 r_92) _ := h
   unfold kL at h
   obtain ⟨v_96, hv, h⟩ := cT h
   try simp only [hv, go_sem]
   refine aAd h (fun hc h => ?_) fun hc h => ?_
   ·obtain ⟨v_100, hv, h⟩ := cT h
    try simp only [hv, go_sem]
    obtain ⟨g0, h⟩ := aH h
    repeat (refine ⟨by omega, ?_⟩)
    obtain ⟨g0, h⟩ := aH h
    repeat (refine ⟨by omega, ?_⟩)
    obtain ⟨g0, h⟩ := aH h
    repeat (refine ⟨by omega, ?_⟩)
    obtain ⟨g0, h⟩ := aH h
    repeat (refine ⟨by omega, ?_⟩)
    refine aI h fun g0 h => ?_
    replace h := hA5 _ (aC h)
    exact aQ _ h rfl (by simp only [go_sem])
   ·refine aI h fun g0 h => ?_
    replace h := hA5 _ (aC h)
    exact aQ _ h rfl (by simp only [go_sem])
 ·replace h := hE5 _ (aC h)
  try dsimp only at h
  obtain ⟨v_108, hv, h⟩ := cT h
  try simp only [hv, go_sem]
  exact aL hF [.tmp 4, .tmp 5] rfl rfl rfl (aC h) (by simp only [aZ, go_sem])
attribute [go_sem] xP
noncomputable def mS (out_11 : (List Nat)) (i_10 : Int) (n_1 : Int) (x_17 : Nat) : Option ((Int × (List Nat)) ⊕ (((List Nat)))) :=
 ck (((out_11.length) + (1 : Nat)) * 4 ≤ 140737488355328) (ck (I64 (i_10 + (1 : Int))) (some (.inl ((i_10 + (1 : Int)), (out_11 ++ ([((x_17 / (2 ^ (((Int.tmod n_1 (16 : Int)) % (18446744073709551616 : Int)).toNat))) &&& (65535 : Nat))] : List Nat))))))
noncomputable def kN (a_0 : (List Nat)) (n_1 : Int) (i_10 : Int) (out_11 : (List Nat)) : Option ((Int × (List Nat)) ⊕ (((List Nat)))) :=
 if i_10 < (((a_0.length) : Nat) : Int) then ck (0 ≤ i_10 ∧ i_10 < (((a_0.length) : Nat) : Int)) (ck (I64 (i_10 + (1 : Int))) (if (i_10 + (1 : Int)) < (((a_0.length) : Nat) : Int) then ck (I64 (i_10 + (1 : Int))) (ck (0 ≤ (i_10 + (1 : Int)) ∧ (i_10 + (1 : Int)) < (((a_0.length) : Nat) : Int)) (mS out_11 i_10 n_1 ((a_0.getD (i_10.toNat) (0 : Nat)) ||| (((a_0.getD ((i_10 + (1 : Int)).toNat) (0 : Nat)) * (65536 : Nat)) % 4294967296)))) else mS out_11 i_10 n_1 (a_0.getD (i_10.toNat) (0 : Nat)))) else some (.inr out_11)
noncomputable def pM (a_0 : (List Nat)) (n_1 : Int) : Option (List Nat) :=
 ck (I64 (Int.tdiv n_1 (16 : Int))) (if (((a_0.length) : Nat) : Int) ≤ (Int.tdiv n_1 (16 : Int)) then some ([] : List Nat) else ck (I64 (Int.tdiv n_1 (16 : Int))) ((cE (fun d : Int × (List Nat) => kN a_0 n_1 d.1 d.2) ((Int.tdiv n_1 (16 : Int)), ([] : List Nat))).bind (fun e => (fK e).bind (fun v_21 => some v_21))))
def aFH : PlR := ⟨[(0, .A [0, 1]), (1, .A [0, 1, 12]), (2, .A [4]), (3, .A [0, 1, 5]), (4, .A [0, 1, 5, 6]), (5, .A [0, 1, 5, 6, 18]), (6, .A [0, 1, 5, 6]), (7, .A [0, 1, 5, 6, 7]), (8, .A [0, 1, 5, 6, 7, 29]), (9, .A [0, 1, 5, 6, 7]), (10, .B [0, 1, 5, 6]), (11, .B [4])], [(11, 13)]⟩
def aII : Ty := .pair (.sl (.u .u32)) (.pair (.i .i64) .unit)
noncomputable def xQ : aK := mSpec aII (.one (.sl (.u .u32))) (fun x => pM x.1 x.2.1)
noncomputable def aIJ : List (FuncId × aK) := [(112, cW)]
theorem aPh : bN Tryz.prog GL aIJ := .cons mD (by kernel_rfl) (.nil)
theorem aIK : gam aIJ 112 = some cW := rfl
attribute [go_sem] aII aFH aIK
set_option maxHeartbeats 4000000 in
theorem aN4 : FOK Tryz.prog GL 77 xQ := by
 refine bR (bC aPh) mix Tryz.func77 rfl (by kernel_rfl) (by decide) aFH fun w0 S x Θ hw h hF => ?_
 obtain ⟨(a_0 : (List Nat)), (n_1 : Int), u⟩ := x
 simp only [bV, go_sem]
 replace h : sat (pM a_0 n_1) _ := h
 unfold pM at h
 refine aI h fun g0 h => ?_
 refine aAd h (fun hc h => ?_) fun hc h => ?_
 ·exact aL hF [.tmp 4] rfl rfl rfl (aC h) (by simp only [aZ, go_sem])
 ·refine aI h fun g0 h => ?_
  refine vU 5 96 (.u .u32) rfl ?_
  simp only [go_sem]
  refine bW hF (D := Int × (List Nat)) [0, 1] (fun d => [(5, .own 0), (6, .val (.i .i64) d.1)]) (fun d => [.inr (.row 96 (.u .u32) d.2)]) h rfl (by simp only [go_sem]) ?_
  rintro ⟨i_10, out_11⟩ A5 T5 hA5 hE5 h
  simp only [go_sem]
  replace h : sat (kN a_0 n_1 i_10 out_11) _ := h
  unfold kN at h
  refine dA h (fun hc h => ?_) fun hc h => ?_
  ·obtain ⟨g0, h⟩ := aH h
   repeat (refine ⟨by omega, ?_⟩)
   refine cB hF (D := Nat) (fun d => sat (mS out_11 i_10 n_1 d) T5) [0, 1, 6] (fun d => [(5, .own 0), (7, .val (.u .u32) d)]) (fun d => [.inr (.row 96 (.u .u32) out_11)]) ?_ ?_
   ·simp only [go_sem]
    refine aI h fun g0 h => ?_
    refine dA h (fun hc h => ?_) fun hc h => ?_
    ·obtain ⟨g0, h⟩ := aH h
     obtain ⟨g1, h⟩ := aH h
     repeat (refine ⟨by omega, ?_⟩)
     exact aQ (((a_0.getD (i_10.toNat) (0 : Nat)) ||| (((a_0.getD ((i_10 + (1 : Int)).toNat) (0 : Nat)) * (65536 : Nat)) % 4294967296))) h rfl (by simp only [go_sem])
    ·exact aQ ((a_0.getD (i_10.toNat) (0 : Nat))) h rfl (by simp only [go_sem])
   ·rintro x_17 h
    simp only [go_sem]
    replace h : sat (mS out_11 i_10 n_1 x_17) _ := h
    unfold mS at h
    obtain ⟨g0, h⟩ := aH h
    repeat (refine ⟨by omega, ?_⟩)
    refine aI h fun g0 h => ?_
    replace h := hA5 _ (aC h)
    refine pI [1] rfl rfl ?_
    simp only [go_sem]
    exact aQ _ h rfl (by simp only [go_sem])
  ·replace h := hE5 _ (aC h)
   try dsimp only at h
   obtain ⟨v_19, hv, h⟩ := cT h
   try simp only [hv, go_sem]
   exact aL hF [.tmp 4] rfl rfl rfl (aC h) (by simp only [aZ, go_sem])
attribute [go_sem] xQ
noncomputable def sJ (a_0 : (List Nat)) : Option Bool :=
 ck ((((((a_0.length) : Nat) : Int) ≤ (64 : Int)) → ¬ ((((a_0.length) : Nat) : Int) = (0 : Int)) → (I64 ((((a_0.length) : Nat) : Int) - (1 : Int))))) (ck ((((((a_0.length) : Nat) : Int) ≤ (64 : Int)) → ¬ ((((a_0.length) : Nat) : Int) = (0 : Int)) → (0 ≤ ((((a_0.length) : Nat) : Int) - (1 : Int)) ∧ ((((a_0.length) : Nat) : Int) - (1 : Int)) < (((a_0.length) : Nat) : Int)))) (some ((decide ((((a_0.length) : Nat) : Int) ≤ (64 : Int))) && ((decide ((((a_0.length) : Nat) : Int) = (0 : Int))) || (!(decide ((a_0.getD (((((a_0.length) : Nat) : Int) - (1 : Int)).toNat) (0 : Nat)) = (0 : Nat))))))))
def aFI : PlR := ⟨[(0, .A [0]), (1, .A [2])], []⟩
def aIL : Ty := .pair (.sl (.u .u64)) .unit
noncomputable def xR : aK := mSpec aIL (.one .bool) (fun x => sJ x.1)
noncomputable def aPi : List (FuncId × aK) := []
theorem aPj : bN Tryz.prog GL aPi := .nil
attribute [go_sem] aIL aFI
set_option maxHeartbeats 4000000 in
theorem aN5 : FOK Tryz.prog GL 136 xR := by
 refine bR (bC aPj) mix Tryz.func136 rfl (by kernel_rfl) (by decide) aFI fun w0 S x Θ hw h hF => ?_
 obtain ⟨(a_0 : (List Nat)), u⟩ := x
 simp only [bV, go_sem]
 replace h : sat (sJ a_0) _ := h
 unfold sJ at h
 obtain ⟨g0, h⟩ := aH h
 obtain ⟨g1, h⟩ := aH h
 try simp only [I64, I32] at g0
 repeat (refine ⟨by first | with_reducible assumption | omega | (intros; first | assumption | omega) | (simp only [go_sem] at *; first | assumption | omega) | (intro q0 q1; (try have e0 := g0 (by first | exact q0 | omega | (simpa using q0)) (by first | exact q1 | omega | (simpa using q1))); (try have e1 := g1 (by first | exact q0 | omega | (simpa using q0)) (by first | exact q1 | omega | (simpa using q1))); first | assumption | omega) | (rintro ⟨q0, q1⟩; (try have e0 := g0 (by first | exact q0 | omega | (simpa using q0)) (by first | exact q1 | omega | (simpa using q1))); (try have e1 := g1 (by first | exact q0 | omega | (simpa using q0)) (by first | exact q1 | omega | (simpa using q1))); first | assumption | omega) | decide, ?_⟩)
 exact aL hF [.tmp 2] rfl rfl rfl (aC h) (by simp only [aZ, go_sem])
attribute [go_sem] xR
noncomputable def lH (d_0 : (Bool × ((List Nat) × (Int × Unit)))) : Option Bool :=
 (sJ ((d_0.2).1)).bind (fun v_7 => if ((¬ (v_7 = true)) ∨ ((((d_0.2).2).1) < (-1048576 : Int))) ∨ ((1048576 : Int) < (((d_0.2).2).1)) then some false else if (((((d_0.2).1).length) : Nat) : Int) = (0 : Int) then some ((!(d_0.1)) && (decide ((((d_0.2).2).1) = (0 : Int)))) else ck ((0 : Int) < (((((d_0.2).1).length) : Nat) : Int)) (some (decide (((((d_0.2).1).getD (0 : Nat) (0 : Nat)) &&& (1 : Nat)) = (1 : Nat)))))
def aAI : PlR := ⟨[(0, .B [1]), (1, .A [1, 16]), (2, .A [2]), (3, .A [1, 20]), (4, .A [2]), (5, .A [2])], []⟩
def aBL : Ty := .pair (.pair .bool (.pair (.sl (.u .u64)) (.pair (.i .i64) .unit))) .unit
noncomputable def pA : aK := mSpec aBL (.one .bool) (fun x => lH x.1)
noncomputable def aBM : List (FuncId × aK) := [(136, xR)]
theorem aIM : bN Tryz.prog GL aBM := .cons aN5 (by kernel_rfl) (.nil)
theorem aCP : gam aBM 136 = some xR := rfl
attribute [go_sem] aBL aAI aCP
set_option maxHeartbeats 4000000 in
theorem aGp : FOK Tryz.prog GL 74 pA := by
 refine bR (bC aIM) mix Tryz.func74 rfl (by kernel_rfl) (by decide) aAI fun w0 S x Θ hw h hF => ?_
 obtain ⟨(d_0 : (Bool × ((List Nat) × (Int × Unit)))), u⟩ := x
 simp only [bV, go_sem]
 replace h : sat (lH d_0) _ := h
 unfold lH at h
 obtain ⟨v_7, hv, h⟩ := cT h
 try simp only [hv, go_sem]
 refine ⟨fun hc => ?_, fun hc => ?_⟩
 ·replace h := fB (by first | exact hc | omega | (simpa using hc) | (simp at hc ⊢; omega)) h
  exact aL hF [.tmp 2] rfl rfl rfl (aC h) (by simp only [aZ, go_sem])
 ·replace h := fC (by first | exact hc | omega | (simpa using hc) | (simp at hc ⊢; omega)) h
  refine cZ h (fun hc h => ?_) fun hc h => ?_
  ·exact aL hF [.tmp 2] rfl rfl rfl (aC h) (by simp only [aZ, go_sem])
  ·refine aI h fun g0 h => ?_
   exact aL hF [.tmp 2] rfl rfl rfl (aC h) (by simp only [aZ, go_sem])
attribute [go_sem] pA
noncomputable def fH (s_16 : (List Nat)) (v_26 : ((List Nat) × ((List Nat) × Unit))) (n_27 : Nat) : Option (((List Nat) × (List Nat)) ⊕ (((List Nat)))) :=
 ck (0 ≤ ((n_27 : Nat) : Int) ∧ ((n_27 : Nat) : Int) ≤ ((((n_27 + (1 : Nat)) % 4294967296) : Nat) : Int) ∧ ((((n_27 + (1 : Nat)) % 4294967296) : Nat) : Int) ≤ ((((aO ⟨#[48, 49, 50, 51, 52, 53, 54, 55, 56, 57]⟩).length) : Nat) : Int)) (ck (((List.drop n_27 (List.take ((n_27 + (1 : Nat)) % 4294967296) (aO ⟨#[48, 49, 50, 51, 52, 53, 54, 55, 56, 57]⟩))).length) + (s_16.length) ≤ 9223372036854775807) (some (.inl ((v_26.1), ((List.drop n_27 (List.take ((n_27 + (1 : Nat)) % 4294967296) (aO ⟨#[48, 49, 50, 51, 52, 53, 54, 55, 56, 57]⟩))) ++ s_16)))))
noncomputable def fI (a_15 : (List Nat)) (s_16 : (List Nat)) : Option (((List Nat) × (List Nat)) ⊕ (((List Nat)))) :=
 if (0 : Int) < (((a_15.length) : Nat) : Int) then (sH a_15 ([10] : List Nat)).bind (fun v_26 => if (0 : Int) < (((((v_26.2).1).length) : Nat) : Int) then ck ((0 : Int) < (((((v_26.2).1).length) : Nat) : Int)) (fH s_16 v_26 (((v_26.2).1).getD (0 : Nat) (0 : Nat))) else fH s_16 v_26 (0 : Nat)) else some (.inr s_16)
noncomputable def lI (a_0 : (List Nat)) : Option (List Nat) :=
 (cE (fun d : (List Nat) × (List Nat) => fI d.1 d.2) (a_0, (aO ⟨#[]⟩))).bind (fun e => some e)
def aAJ : PlR := ⟨[(0, .A [0]), (1, .A [0, 3]), (2, .A [0, 3, 9]), (3, .A [3, 4, 5]), (4, .A [3, 4, 5, 6]), (5, .A [3, 4, 5, 6, 18]), (6, .A [3, 4, 6]), (7, .A [3, 4]), (8, .A [0, 3]), (9, .A [2])], [(8, 10)]⟩
def aBN : Ty := .pair (.sl (.u .u32)) .unit
noncomputable def pB : aK := mSpec aBN (.one .str) (fun x => lI x.1)
noncomputable def aBO : List (FuncId × aK) := [(66, xP)]
theorem aIN : bN Tryz.prog GL aBO := .cons aN3 (by kernel_rfl) (.nil)
theorem aDT : gam aBO 66 = some xP := rfl
attribute [go_sem] aBN aAJ aDT
set_option maxHeartbeats 4000000 in
theorem aGq : FOK Tryz.prog GL 80 pB := by
 refine bR (bC aIN) mix Tryz.func80 rfl (by kernel_rfl) (by decide) aAJ fun w0 S x Θ hw h hF => ?_
 obtain ⟨(a_0 : (List Nat)), u⟩ := x
 simp only [bV, go_sem]
 replace h : sat (lI a_0) _ := h
 unfold lI at h
 refine bW hF (D := (List Nat) × (List Nat)) [] (fun d => [(0, .val (.sl (.u .u32)) d.1), (3, .val .str d.2)]) (fun d => []) h rfl (by simp only [go_sem]) ?_
 rintro ⟨a_15, s_16⟩ A2 T2 hA2 hE2 h
 simp only [go_sem]
 replace h : sat (fI a_15 s_16) _ := h
 unfold fI at h
 refine dA h (fun hc h => ?_) fun hc h => ?_
 ·obtain ⟨v_26, hv, h⟩ := cT h
  try simp only [hv, go_sem]
  refine cB hF (D := Nat) (fun d => sat (fH s_16 v_26 d) T2) [3, 4] (fun d => [(6, .val (.u .u32) d)]) (fun d => []) ?_ ?_
  ·simp only [go_sem]
   refine dA h (fun hc h => ?_) fun hc h => ?_
   ·refine aI h fun g0 h => ?_
    exact aQ ((((v_26.2).1).getD (0 : Nat) (0 : Nat))) h rfl (by simp only [go_sem])
   ·exact aQ ((0 : Nat)) h rfl (by simp only [go_sem])
  ·rintro n_27 h
   simp only [go_sem]
   replace h : sat (fH s_16 v_26 n_27) _ := h
   unfold fH at h
   refine aI h fun g0 h => aI h fun g1 h => ?_
   replace h := hA2 _ (aC h)
   exact aQ _ h rfl (by simp only [go_sem])
 ·replace h := hE2 _ (aC h)
  try dsimp only at h
  exact aL hF [.tmp 2] rfl rfl rfl (aC h) (by simp only [aZ, go_sem])
attribute [go_sem] pB
noncomputable def jE (d_0 : (Bool × ((List Nat) × (Int × Unit)))) (m_29 : (List Nat)) (s_37 : (List Nat)) : Option (((List Nat) × (Int × Unit))) :=
 if ((d_0.1) = true) ∧ ((0 : Int) < (((m_29.length) : Nat) : Int)) then ck (((aO ⟨#[45]⟩).length) + (s_37.length) ≤ 9223372036854775807) (some (((aO ⟨#[45]⟩) ++ s_37), (0 : Int), ())) else some (s_37, (0 : Int), ())
noncomputable def nW (digits_1 : Int) (d_0 : (Bool × ((List Nat) × (Int × Unit)))) (m_29 : (List Nat)) (s_36 : (List Nat)) : Option (((List Nat) × (Int × Unit))) :=
 if (0 : Int) < digits_1 then ck (I64 ((((s_36.length) : Nat) : Int) - digits_1)) (ck (0 ≤ ((((s_36.length) : Nat) : Int) - digits_1) ∧ ((((s_36.length) : Nat) : Int) - digits_1) ≤ (((s_36.length) : Nat) : Int)) (ck (((List.take (((((s_36.length) : Nat) : Int) - digits_1).toNat) s_36).length) + ((aO ⟨#[46]⟩).length) ≤ 9223372036854775807) (ck (I64 ((((s_36.length) : Nat) : Int) - digits_1)) (ck (0 ≤ ((((s_36.length) : Nat) : Int) - digits_1) ∧ ((((s_36.length) : Nat) : Int) - digits_1) ≤ (((s_36.length) : Nat) : Int)) (ck ((((List.take (((((s_36.length) : Nat) : Int) - digits_1).toNat) s_36) ++ (aO ⟨#[46]⟩)).length) + ((List.drop (((((s_36.length) : Nat) : Int) - digits_1).toNat) s_36).length) ≤ 9223372036854775807) (jE d_0 m_29 (((List.take (((((s_36.length) : Nat) : Int) - digits_1).toNat) s_36) ++ (aO ⟨#[46]⟩)) ++ (List.drop (((((s_36.length) : Nat) : Int) - digits_1).toNat) s_36)))))))) else jE d_0 m_29 s_36
noncomputable def fL (digits_1 : Int) (s_38 : (List Nat)) : Option (((List Nat)) ⊕ (((List Nat)))) :=
 ck (I64 (digits_1 + (1 : Int))) (if (((s_38.length) : Nat) : Int) < (digits_1 + (1 : Int)) then ck (((aO ⟨#[48]⟩).length) + (s_38.length) ≤ 9223372036854775807) (some (.inl ((aO ⟨#[48]⟩) ++ s_38))) else some (.inr s_38))
noncomputable def gJ (digits_1 : Int) (d_0 : (Bool × ((List Nat) × (Int × Unit)))) (m_29 : (List Nat)) : Option (((List Nat) × (Int × Unit))) :=
 (lI m_29).bind (fun v_33 => (cE (fun d : (List Nat) => fL digits_1 d) v_33).bind (fun e => nW digits_1 d_0 m_29 e))
noncomputable def qC (d_0 : (Bool × ((List Nat) × (Int × Unit)))) (digits_1 : Int) (up_2 : Bool) : Option ((List Nat) × (Int × Unit)) :=
 (lH d_0).bind (fun v_9 => if ((¬ (v_9 = true)) ∨ (digits_1 < (0 : Int))) ∨ ((60 : Int) < digits_1) then some ((aO ⟨#[]⟩), (1 : Int), ()) else if ((2000 : Int) < (((d_0.2).2).1)) ∨ ((((d_0.2).2).1) < (-2000 : Int)) then some ((aO ⟨#[]⟩), (2 : Int), ()) else (pX ((d_0.2).1)).bind (fun v_19 => (sF digits_1).bind (fun v_20 => (mE v_19 v_20).bind (fun v_21 => if (0 : Int) ≤ (((d_0.2).2).1) then (jD v_21 (((d_0.2).2).1)).bind (fun v_42 => gJ digits_1 d_0 v_42) else ck (I64 (0 - (((d_0.2).2).1))) ((pM v_21 (0 - (((d_0.2).2).1))).bind (fun v_46 => ck ((((up_2 != (d_0.1)) = true) → (I64 (0 - (((d_0.2).2).1))))) (ck ((((up_2 != (d_0.1)) = true) → (((jD v_46 (0 - (((d_0.2).2).1))).isSome = true)))) (ck ((((up_2 != (d_0.1)) = true) → (((mF ((jD v_46 (0 - (((d_0.2).2).1))).getD ([] : List Nat)) v_21).isSome = true)))) (if ((up_2 != (d_0.1)) = true) ∧ (¬ (((mF ((jD v_46 (0 - (((d_0.2).2).1))).getD ([] : List Nat)) v_21).getD (0 : Int)) = (0 : Int))) then (nU v_46 ([1] : List Nat)).bind (fun v_50 => gJ digits_1 d_0 v_50) else gJ digits_1 d_0 v_46)))))))))
def aDU : PlR := ⟨[(0, .B [1, 2, 3]), (1, .A [1, 2, 3, 21]), (2, .A [6, 7]), (3, .A [1, 2, 3, 29]), (4, .A [6, 7]), (5, .A [1, 2, 3, 8]), (6, .A [1, 2, 3, 8, 38]), (7, .A [1, 3, 8]), (8, .A [1, 2, 3, 8, 9]), (9, .A [1, 3, 9, 61]), (10, .A [1, 3, 9]), (11, .A [1, 3, 8]), (12, .A [1, 3, 8, 10]), (13, .A [1, 3, 8, 10, 72]), (14, .A [1, 3, 8, 10]), (15, .A [1, 3, 8, 10, 76]), (16, .A [3, 8, 10]), (17, .A [10, 97]), (18, .A [10]), (19, .A [6, 7])], [(9, 15), (16, 18), (18, 20)]⟩
def aFJ : Ty := .pair (.pair .bool (.pair (.sl (.u .u64)) (.pair (.i .i64) .unit))) (.pair (.i .i64) (.pair .bool .unit))
noncomputable def uX : aK := mSpec aFJ (.tup (.pair .str (.pair (.i .i64) .unit))) (fun x => qC x.1 x.2.1 x.2.2.1)
noncomputable def iM : List (FuncId × aK) := [(57, pW), (58, xM), (74, pA), (75, uU), (76, qA), (77, xQ), (78, qB), (79, pY), (80, pB)]
theorem aN6 : bN Tryz.prog GL iM := .cons aFt (by kernel_rfl) (.cons aNY (by kernel_rfl) (.cons aGp (by kernel_rfl) (.cons aMg (by kernel_rfl) (.cons aFB (by kernel_rfl) (.cons aN4 (by kernel_rfl) (.cons aFE (by kernel_rfl) (.cons aFx (by kernel_rfl) (.cons aGq (by kernel_rfl) (.nil)))))))))
theorem aIO : gam iM 57 = some pW := rfl
theorem aIP : gam iM 58 = some xM := rfl
theorem aIQ : gam iM 74 = some pA := rfl
theorem aIR : gam iM 75 = some uU := rfl
theorem aIS : gam iM 76 = some qA := rfl
theorem aIT : gam iM 77 = some xQ := rfl
theorem aIU : gam iM 78 = some qB := rfl
theorem aIV : gam iM 79 = some pY := rfl
theorem aIW : gam iM 80 = some pB := rfl
attribute [go_sem] aFJ aDU aIO aIP aIQ aIR aIS aIT aIU aIV aIW
set_option maxHeartbeats 4000000 in
theorem aMi : FOK Tryz.prog GL 28 uX := by
 refine bR (bC aN6) mix Tryz.func28 rfl (by kernel_rfl) (by decide) aDU fun w0 S x Θ hw h hF => ?_
 obtain ⟨(d_0 : (Bool × ((List Nat) × (Int × Unit)))), (digits_1 : Int), (up_2 : Bool), u⟩ := x
 simp only [bV, go_sem]
 replace h : sat (qC d_0 digits_1 up_2) _ := h
 unfold qC at h
 obtain ⟨v_9, hv, h⟩ := cT h
 try simp only [hv, go_sem]
 refine ⟨fun hc => ?_, fun hc => ?_⟩
 ·replace h := fB (by first | exact hc | omega | (simpa using hc) | (simp at hc ⊢; omega)) h
  exact aL hF [.tmp 6, .tmp 7] rfl rfl rfl (aC h) (by simp only [aZ, go_sem])
 ·replace h := fC (by first | exact hc | omega | (simpa using hc) | (simp at hc ⊢; omega)) h
  refine ⟨fun hc => ?_, fun hc => ?_⟩
  ·replace h := fB hc h
   exact aL hF [.tmp 6, .tmp 7] rfl rfl rfl (aC h) (by simp only [aZ, go_sem])
  ·replace h := fC hc h
   obtain ⟨v_19, hv, h⟩ := cT h
   try simp only [hv, go_sem]
   obtain ⟨v_20, hv, h⟩ := cT h
   try simp only [hv, go_sem]
   obtain ⟨v_21, hv, h⟩ := cT h
   try simp only [hv, go_sem]
   refine cB hF (D := (List Nat)) (fun d => sat (gJ digits_1 d_0 d) Θ) [1] (fun d => [(3, .ptr 0 []), (8, .val (.sl (.u .u32)) d)]) (fun d => [.inr (.box 3 (.val (.pair .bool (.pair (.sl (.u .u64)) (.pair (.i .i64) .unit))) d_0))]) ?_ ?_
   ·simp only [go_sem]
    refine aAd h (fun hc h => ?_) fun hc h => ?_
    ·obtain ⟨v_42, hv, h⟩ := cT h
     try simp only [hv, go_sem]
     exact aQ (v_42) h rfl (by simp only [go_sem])
    ·refine aI h fun g0 h => ?_
     obtain ⟨v_46, hv, h⟩ := cT h
     try simp only [hv, go_sem]
     refine aI h fun g0 h => aI h fun g1 h => aI h fun g2 h => ?_
     refine ⟨fun hc => ?_, fun hc => ?_⟩
     ·replace h := fB hc h
      obtain ⟨v_50, hv, h⟩ := cT h
      try simp only [hv, go_sem]
      exact aQ (v_50) h rfl (by simp only [go_sem])
     ·replace h := fC hc h
      exact aQ (v_46) h rfl (by simp only [go_sem])
   ·rintro m_29 h
    simp only [go_sem]
    replace h : sat (gJ digits_1 d_0 m_29) _ := h
    unfold gJ at h
    obtain ⟨v_33, hv, h⟩ := cT h
    try simp only [hv, go_sem]
    refine cB hF (D := (List Nat)) (fun d => sat (nW digits_1 d_0 m_29 d) Θ) [1, 8] (fun d => [(3, .ptr 0 []), (10, .val .str d)]) (fun d => [.inr (.box 3 (.val (.pair .bool (.pair (.sl (.u .u64)) (.pair (.i .i64) .unit))) d_0))]) ?_ ?_
    ·simp only [go_sem]
     refine bW hF (D := (List Nat)) [1, 8] (fun d => [(3, .ptr 0 []), (10, .val .str d)]) (fun d => [.inr (.box 3 (.val (.pair .bool (.pair (.sl (.u .u64)) (.pair (.i .i64) .unit))) d_0))]) h rfl (by simp only [go_sem]) ?_
     rintro s_38 A13 T13 hA13 hE13 h
     simp only [go_sem]
     replace h : sat (fL digits_1 s_38) _ := h
     unfold fL at h
     refine aI h fun g0 h => ?_
     refine dA h (fun hc h => ?_) fun hc h => ?_
     ·refine aI h fun g0 h => ?_
      replace h := hA13 _ (aC h)
      exact aQ _ h rfl (by simp only [go_sem])
     ·replace h := hE13 _ (aC h)
      try dsimp only at h
      exact aQ (s_38) h rfl (by simp only [go_sem])
    ·rintro s_36 h
     simp only [go_sem]
     replace h : sat (nW digits_1 d_0 m_29 s_36) _ := h
     unfold nW at h
     refine cB hF (D := (List Nat)) (fun d => sat (jE d_0 m_29 d) Θ) [8] (fun d => [(3, .ptr 0 []), (10, .val .str d)]) (fun d => [.inr (.box 3 (.val (.pair .bool (.pair (.sl (.u .u64)) (.pair (.i .i64) .unit))) d_0))]) ?_ ?_
     ·simp only [go_sem]
      refine dA h (fun hc h => ?_) fun hc h => ?_
      ·refine aI h fun g0 h => aI h fun g1 h => aI h fun g2 h => aI h fun g3 h => aI h fun g4 h => aI h fun g5 h => ?_
       exact aQ ((((List.take (((((s_36.length) : Nat) : Int) - digits_1).toNat) s_36) ++ (aO ⟨#[46]⟩)) ++ (List.drop (((((s_36.length) : Nat) : Int) - digits_1).toNat) s_36))) h rfl (by simp only [go_sem])
      ·exact aQ (s_36) h rfl (by simp only [go_sem])
     ·rintro s_37 h
      simp only [go_sem]
      replace h : sat (jE d_0 m_29 s_37) _ := h
      unfold jE at h
      refine ⟨fun hc => ?_, fun hc => ?_⟩
      ·replace h := fB hc h
       refine aI h fun g0 h => ?_
       exact aL hF [.tmp 6, .tmp 7] rfl rfl rfl (aC h) (by simp only [aZ, go_sem])
      ·replace h := fC hc h
       exact aL hF [.tmp 6, .tmp 7] rfl rfl rfl (aC h) (by simp only [aZ, go_sem])
attribute [go_sem] uX
end Nu
end Go.Proofs
namespace Go.Proofs
open Go.Vc
set_option maxRecDepth 20000
namespace Nu
noncomputable def cS (a0_0 : (List Nat)) (a1_1 : (List Nat)) (x13_5 : Int) : Option ((Int) ⊕ ((Unit) ⊕ Bool)) :=
 if x13_5 < (((a0_0.length) : Nat) : Int) then ck (0 ≤ x13_5 ∧ x13_5 < (((a0_0.length) : Nat) : Int)) (ck (0 ≤ x13_5 ∧ x13_5 < (((a1_1.length) : Nat) : Int)) (if ¬ ((a0_0.getD (x13_5.toNat) (0 : Nat)) = (a1_1.getD (x13_5.toNat) (0 : Nat))) then some (.inr (.inr false)) else ck (I64 (x13_5 + (1 : Int))) (some (.inl (x13_5 + (1 : Int)))))) else some (.inr (.inl ()))
noncomputable def dL (a0_0 : (List Nat)) (a1_1 : (List Nat)) : Option Bool :=
 if ¬ ((((a0_0.length) : Nat) : Int) = (((a1_1.length) : Nat) : Int)) then some false else (cE (fun d : Int => cS a0_0 a1_1 d) (0 : Int)).bind (fun e => match e with | (.inl e) => some true | (.inr e) => some e)
def rF : PlR := ⟨[(0, .A [0, 1]), (1, .A [0, 1, 10]), (2, .A [4]), (3, .A [0, 1, 12, 13]), (4, .A [0, 1, 12, 13, 14]), (5, .A [0, 1, 5, 12, 13]), (6, .A [0, 1, 12, 13, 24]), (7, .A [4]), (8, .A [0, 1, 12, 13]), (9, .A [4])], []⟩
def rP : Ty := .pair (.sl (.u .u64)) (.pair (.sl (.u .u64)) .unit)
noncomputable def iE : aK := mSpec rP (.one .bool) (fun x => dL x.1 x.2.1)
noncomputable def aAS : List (FuncId × aK) := []
theorem aAT : bN Tryz.prog GL aAS := .nil
attribute [go_sem] rP rF
set_option maxHeartbeats 4000000 in
theorem aAx : FOK Tryz.prog GL 84 iE := by
 refine bR (bC aAT) mix Tryz.func84 rfl (by kernel_rfl) (by decide) rF fun w0 S x Θ hw h hF => ?_
 obtain ⟨(a0_0 : (List Nat)), (a1_1 : (List Nat)), u⟩ := x
 simp only [bV, go_sem]
 replace h : sat (dL a0_0 a1_1) _ := h
 unfold dL at h
 refine cZ h (fun hc h => ?_) fun hc h => ?_
 ·exact aL hF [.tmp 4] rfl rfl rfl (aC h) (by simp only [aZ, go_sem])
 ·refine bW hF (D := Int) [0, 1, 12] (fun d => [(13, .val (.i .i64) d)]) (fun d => []) h rfl (by simp only [go_sem]) ?_
  rintro x13_5 A4 T4 hA4 hE4 h
  simp only [go_sem]
  replace h : sat (cS a0_0 a1_1 x13_5) _ := h
  unfold cS at h
  refine dA h (fun hc h => ?_) fun hc h => ?_
  ·refine aI h fun g0 h => aI h fun g1 h => ?_
   refine cZ h (fun hc h => ?_) fun hc h => ?_
   ·replace h := hE4 _ (aC h)
    try dsimp only at h
    exact aL hF [.tmp 4] rfl rfl rfl (aC h) (by simp only [aZ, go_sem])
   ·refine aI h fun g0 h => ?_
    replace h := hA4 _ (aC h)
    exact aQ _ h rfl (by simp only [go_sem])
  ·replace h := hE4 _ (aC h)
   try dsimp only at h
   exact aL hF [.tmp 4] rfl rfl rfl (aC h) (by simp only [aZ, go_sem])
attribute [go_sem] iE
noncomputable def jF (l_8 : (List (List Nat))) (out_13 : (List Nat)) (x44_14 : Int) : Option (((List Nat) × Int) ⊕ (((List Nat)))) :=
 if x44_14 < (((l_8.length) : Nat) : Int) then ck (0 ≤ x44_14 ∧ x44_14 < (((l_8.length) : Nat) : Int)) (ck (((l_8.getD (x44_14.toNat) ([] : List Nat)).length) + (out_13.length) ≤ 9223372036854775807) (ck (I64 (x44_14 + (1 : Int))) (some (.inl (((l_8.getD (x44_14.toNat) ([] : List Nat)) ++ out_13), (x44_14 + (1 : Int))))))) else some (.inr out_13)
noncomputable def mT (l_8 : (List (List Nat))) : Option ((List Nat)) :=
 (cE (fun d : (List Nat) × Int => jF l_8 d.1 d.2) ((aO ⟨#[]⟩), (0 : Int))).bind (fun e => some e)
noncomputable def gG (l_20 : (List (List Nat))) (m_19 : (List Nat)) (s_25 : (List Nat)) : Option (((List Nat) × (List (List Nat))) ⊕ (((List (List Nat))))) :=
 ck (((l_20.length) + (1 : Nat)) * 16 ≤ 140737488355328) (if (((((bD m_19 ([1000000000000000000] : List Nat)).1).length) : Nat) : Int) = (0 : Int) then some (.inr (l_20 ++ ([s_25] : List (List Nat)))) else ck (I64 (((((l_20 ++ ([s_25] : List (List Nat))).length) : Nat) : Int) - (1 : Int))) (ck (I64 ((18 : Int) - (((s_25.length) : Nat) : Int))) (ck (((aP (aO ⟨#[48]⟩) ((18 : Int) - (((s_25.length) : Nat) : Int))).isSome = true)) (ck ((((aP (aO ⟨#[48]⟩) ((18 : Int) - (((s_25.length) : Nat) : Int))).getD ([] : List Nat)).length) + (s_25.length) ≤ 9223372036854775807) (ck (0 ≤ (((((l_20 ++ ([s_25] : List (List Nat))).length) : Nat) : Int) - (1 : Int)) ∧ (((((l_20 ++ ([s_25] : List (List Nat))).length) : Nat) : Int) - (1 : Int)) < ((((l_20 ++ ([s_25] : List (List Nat))).length) : Nat) : Int)) (some (.inl (((bD m_19 ([1000000000000000000] : List Nat)).1), ((l_20 ++ ([s_25] : List (List Nat))).set ((((((l_20 ++ ([s_25] : List (List Nat))).length) : Nat) : Int) - (1 : Int)).toNat) (((aP (aO ⟨#[48]⟩) ((18 : Int) - (((s_25.length) : Nat) : Int))).getD ([] : List Nat)) ++ s_25))))))))))
noncomputable def iN (m_19 : (List Nat)) (l_20 : (List (List Nat))) : Option (((List Nat) × (List (List Nat))) ⊕ (((List (List Nat))))) :=
 ck ((oC m_19 ([1000000000000000000] : List Nat))) (if (0 : Int) < ((((((bD m_19 ([1000000000000000000] : List Nat)).2).1).length) : Nat) : Int) then ck ((0 : Int) < ((((((bD m_19 ([1000000000000000000] : List Nat)).2).1).length) : Nat) : Int)) (ck (((cY ((((bD m_19 ([1000000000000000000] : List Nat)).2).1).getD (0 : Nat) (0 : Nat)) (10 : Int)).isSome = true)) (gG l_20 m_19 ((cY ((((bD m_19 ([1000000000000000000] : List Nat)).2).1).getD (0 : Nat) (0 : Nat)) (10 : Int)).getD ([] : List Nat)))) else gG l_20 m_19 (aO ⟨#[]⟩))
noncomputable def aT (m_0 : (List Nat)) : Option (List Nat) :=
 (cE (fun d : (List Nat) × (List (List Nat)) => iN d.1 d.2) (m_0, ([] : List (List Nat)))).bind (fun e => mT e)
def aFK : PlR := ⟨[(0, .A [0]), (1, .A [0, 3]), (2, .A [3, 4, 5]), (3, .A [3, 4, 5, 6]), (4, .A [3, 4, 5, 6, 18]), (5, .A [3, 4, 6]), (6, .B [3, 4, 6]), (7, .A [0, 3, 6]), (8, .A [0, 3, 6, 30]), (9, .B [0, 3]), (10, .A [3, 7]), (11, .A [7, 42, 43, 44]), (12, .A [7, 42, 43, 44, 45]), (13, .A [7, 9, 42, 43, 44]), (14, .A [7, 42, 43, 44]), (15, .A [7, 42, 43, 44]), (16, .A [2])], [(5, 13), (7, 9)]⟩
def aIX : Ty := .pair (.sl (.u .u64)) .unit
noncomputable def xS : aK := mSpec aIX (.one .str) (fun x => aT x.1)
noncomputable def aAy : List (FuncId × aK) := [(132, jM), (62, iK), (73, gP)]
theorem aPk : bN Tryz.prog GL aAy := .cons aAR (by kernel_rfl) (.cons yC (by kernel_rfl) (.cons xL (by kernel_rfl) (.nil)))
theorem aIY : gam aAy 132 = some jM := rfl
theorem aKa : gam aAy 62 = some iK := rfl
theorem aKb : gam aAy 73 = some gP := rfl
attribute [go_sem] aIX aFK aIY aKa aKb
set_option maxHeartbeats 4000000 in
theorem aN7 : FOK Tryz.prog GL 72 xS := by
 refine bR (bC aPk) mix Tryz.func72 rfl (by kernel_rfl) (by decide) aFK fun w0 S x Θ hw h hF => ?_
 obtain ⟨(m_0 : (List Nat)), u⟩ := x
 simp only [bV, go_sem]
 replace h : sat (aT m_0) _ := h
 unfold aT at h
 refine cB hF (D := (List (List Nat))) (fun d => sat (mT d) Θ) [] (fun d => [(3, .own 0)]) (fun d => [.inr (.row 9 .str d)]) ?_ ?_
 ·simp only [go_sem]
  refine vU 3 9 .str rfl ?_
  simp only [go_sem]
  refine bW hF (D := (List Nat) × (List (List Nat))) [] (fun d => [(0, .val (.sl (.u .u64)) d.1), (3, .own 0)]) (fun d => [.inr (.row 9 .str d.2)]) h rfl (by simp only [go_sem]) ?_
  rintro ⟨m_19, l_20⟩ A2 T2 hA2 hE2 h
  simp only [go_sem]
  replace h : sat (iN m_19 l_20) _ := h
  unfold iN at h
  refine aI h fun g0 h => ?_
  refine cB hF (D := (List Nat)) (fun d => sat (gG l_20 m_19 d) T2) [4] (fun d => [(3, .own 0), (6, .val .str d)]) (fun d => [.inr (.row 9 .str l_20)]) ?_ ?_
  ·simp only [go_sem]
   refine dA h (fun hc h => ?_) fun hc h => ?_
   ·obtain ⟨g0, h⟩ := aH h
    obtain ⟨g1, h⟩ := aH h
    repeat (refine ⟨by omega, ?_⟩)
    exact aQ (((cY ((((bD m_19 ([1000000000000000000] : List Nat)).2).1).getD (0 : Nat) (0 : Nat)) (10 : Int)).getD ([] : List Nat))) h rfl (by simp only [go_sem])
   ·exact aQ ((aO ⟨#[]⟩)) h rfl (by simp only [go_sem])
  ·rintro s_25 h
   simp only [go_sem]
   replace h : sat (gG l_20 m_19 s_25) _ := h
   unfold gG at h
   obtain ⟨g0, h⟩ := aH h
   repeat (refine ⟨by omega, ?_⟩)
   refine cZ h (fun hc h => ?_) fun hc h => ?_
   ·replace h := hE2 _ (aC h)
    try dsimp only at h
    refine pI [1] rfl rfl ?_
    simp only [go_sem]
    exact aQ ((l_20 ++ ([s_25] : List (List Nat)))) h rfl (by simp only [go_sem])
   ·obtain ⟨g0, h⟩ := aH h
    repeat (refine ⟨by omega, ?_⟩)
    obtain ⟨g0, h⟩ := aH h
    repeat (refine ⟨by omega, ?_⟩)
    obtain ⟨g0, h⟩ := aH h
    repeat (refine ⟨by omega, ?_⟩)
    obtain ⟨g0, h⟩ := aH h
    repeat (refine ⟨by omega, ?_⟩)
    obtain ⟨g0, h⟩ := aH h
    repeat (refine ⟨by omega, ?_⟩)
    replace h := hA2 _ (aC h)
    refine pI [1] rfl rfl ?_
    simp only [go_sem]
    exact aQ _ h rfl (by simp only [go_sem])
 ·rintro l_8 h
  simp only [go_sem]
  replace h : sat (mT l_8) _ := h
  unfold mT at h
  refine bW hF (D := (List Nat) × Int) [43] (fun d => [(7, .val .str d.1), (42, .own 0), (44, .val (.i .i64) d.2)]) (fun d => [.inr (.row 9 .str l_8)]) h rfl (by simp only [go_sem]) ?_
  rintro ⟨out_13, x44_14⟩ A12 T12 hA12 hE12 h
  simp only [go_sem]
  replace h : sat (jF l_8 out_13 x44_14) _ := h
  unfold jF at h
  refine dA h (fun hc h => ?_) fun hc h => ?_
  ·obtain ⟨g0, h⟩ := aH h
   repeat (refine ⟨by omega, ?_⟩)
   refine aI h fun g0 h => ?_
   refine aI h fun g0 h => ?_
   replace h := hA12 _ (aC h)
   exact aQ _ h rfl (by simp only [go_sem])
  ·replace h := hE12 _ (aC h)
   try dsimp only at h
   exact aL hF [.tmp 2] rfl rfl rfl (aC h) (by simp only [aZ, go_sem])
attribute [go_sem] xS
noncomputable def kO (d_0 : (Bool × ((List Nat) × (Int × Unit)))) (q_4 : (List Nat)) (s_5 : (List Nat)) : Option (((List Nat) × (Int × Unit))) :=
 if ((d_0.1) = true) ∧ ((0 : Int) < (((q_4.length) : Nat) : Int)) then ck (((aO ⟨#[45]⟩).length) + (s_5.length) ≤ 9223372036854775807) (some (((aO ⟨#[45]⟩) ++ s_5), (0 : Int), ())) else some (s_5, (0 : Int), ())
noncomputable def kP (digits_1 : Int) (d_0 : (Bool × ((List Nat) × (Int × Unit)))) (q_4 : (List Nat)) : Option (((List Nat) × (Int × Unit))) :=
 ck (((aT q_4).isSome = true)) (ck (I64 (digits_1 + (1 : Int))) (ck (I64 ((digits_1 + (1 : Int)) - (((((aT q_4).getD ([] : List Nat)).length) : Nat) : Int))) (ck (((aP (aO ⟨#[48]⟩) (max ((digits_1 + (1 : Int)) - (((((aT q_4).getD ([] : List Nat)).length) : Nat) : Int)) (0 : Int))).isSome = true)) (ck ((((aP (aO ⟨#[48]⟩) (max ((digits_1 + (1 : Int)) - (((((aT q_4).getD ([] : List Nat)).length) : Nat) : Int)) (0 : Int))).getD ([] : List Nat)).length) + (((aT q_4).getD ([] : List Nat)).length) ≤ 9223372036854775807) (if (0 : Int) < digits_1 then ck (I64 (((((((aP (aO ⟨#[48]⟩) (max ((digits_1 + (1 : Int)) - (((((aT q_4).getD ([] : List Nat)).length) : Nat) : Int)) (0 : Int))).getD ([] : List Nat)) ++ ((aT q_4).getD ([] : List Nat))).length) : Nat) : Int) - digits_1)) (ck (0 ≤ (((((((aP (aO ⟨#[48]⟩) (max ((digits_1 + (1 : Int)) - (((((aT q_4).getD ([] : List Nat)).length) : Nat) : Int)) (0 : Int))).getD ([] : List Nat)) ++ ((aT q_4).getD ([] : List Nat))).length) : Nat) : Int) - digits_1) ∧ (((((((aP (aO ⟨#[48]⟩) (max ((digits_1 + (1 : Int)) - (((((aT q_4).getD ([] : List Nat)).length) : Nat) : Int)) (0 : Int))).getD ([] : List Nat)) ++ ((aT q_4).getD ([] : List Nat))).length) : Nat) : Int) - digits_1) ≤ ((((((aP (aO ⟨#[48]⟩) (max ((digits_1 + (1 : Int)) - (((((aT q_4).getD ([] : List Nat)).length) : Nat) : Int)) (0 : Int))).getD ([] : List Nat)) ++ ((aT q_4).getD ([] : List Nat))).length) : Nat) : Int)) (ck (((List.take ((((((((aP (aO ⟨#[48]⟩) (max ((digits_1 + (1 : Int)) - (((((aT q_4).getD ([] : List Nat)).length) : Nat) : Int)) (0 : Int))).getD ([] : List Nat)) ++ ((aT q_4).getD ([] : List Nat))).length) : Nat) : Int) - digits_1).toNat) (((aP (aO ⟨#[48]⟩) (max ((digits_1 + (1 : Int)) - (((((aT q_4).getD ([] : List Nat)).length) : Nat) : Int)) (0 : Int))).getD ([] : List Nat)) ++ ((aT q_4).getD ([] : List Nat)))).length) + ((aO ⟨#[46]⟩).length) ≤ 9223372036854775807) (ck (I64 (((((((aP (aO ⟨#[48]⟩) (max ((digits_1 + (1 : Int)) - (((((aT q_4).getD ([] : List Nat)).length) : Nat) : Int)) (0 : Int))).getD ([] : List Nat)) ++ ((aT q_4).getD ([] : List Nat))).length) : Nat) : Int) - digits_1)) (ck (0 ≤ (((((((aP (aO ⟨#[48]⟩) (max ((digits_1 + (1 : Int)) - (((((aT q_4).getD ([] : List Nat)).length) : Nat) : Int)) (0 : Int))).getD ([] : List Nat)) ++ ((aT q_4).getD ([] : List Nat))).length) : Nat) : Int) - digits_1) ∧ (((((((aP (aO ⟨#[48]⟩) (max ((digits_1 + (1 : Int)) - (((((aT q_4).getD ([] : List Nat)).length) : Nat) : Int)) (0 : Int))).getD ([] : List Nat)) ++ ((aT q_4).getD ([] : List Nat))).length) : Nat) : Int) - digits_1) ≤ ((((((aP (aO ⟨#[48]⟩) (max ((digits_1 + (1 : Int)) - (((((aT q_4).getD ([] : List Nat)).length) : Nat) : Int)) (0 : Int))).getD ([] : List Nat)) ++ ((aT q_4).getD ([] : List Nat))).length) : Nat) : Int)) (ck ((((List.take ((((((((aP (aO ⟨#[48]⟩) (max ((digits_1 + (1 : Int)) - (((((aT q_4).getD ([] : List Nat)).length) : Nat) : Int)) (0 : Int))).getD ([] : List Nat)) ++ ((aT q_4).getD ([] : List Nat))).length) : Nat) : Int) - digits_1).toNat) (((aP (aO ⟨#[48]⟩) (max ((digits_1 + (1 : Int)) - (((((aT q_4).getD ([] : List Nat)).length) : Nat) : Int)) (0 : Int))).getD ([] : List Nat)) ++ ((aT q_4).getD ([] : List Nat)))) ++ (aO ⟨#[46]⟩)).length) + ((List.drop ((((((((aP (aO ⟨#[48]⟩) (max ((digits_1 + (1 : Int)) - (((((aT q_4).getD ([] : List Nat)).length) : Nat) : Int)) (0 : Int))).getD ([] : List Nat)) ++ ((aT q_4).getD ([] : List Nat))).length) : Nat) : Int) - digits_1).toNat) (((aP (aO ⟨#[48]⟩) (max ((digits_1 + (1 : Int)) - (((((aT q_4).getD ([] : List Nat)).length) : Nat) : Int)) (0 : Int))).getD ([] : List Nat)) ++ ((aT q_4).getD ([] : List Nat)))).length) ≤ 9223372036854775807) (kO d_0 q_4 (((List.take ((((((((aP (aO ⟨#[48]⟩) (max ((digits_1 + (1 : Int)) - (((((aT q_4).getD ([] : List Nat)).length) : Nat) : Int)) (0 : Int))).getD ([] : List Nat)) ++ ((aT q_4).getD ([] : List Nat))).length) : Nat) : Int) - digits_1).toNat) (((aP (aO ⟨#[48]⟩) (max ((digits_1 + (1 : Int)) - (((((aT q_4).getD ([] : List Nat)).length) : Nat) : Int)) (0 : Int))).getD ([] : List Nat)) ++ ((aT q_4).getD ([] : List Nat)))) ++ (aO ⟨#[46]⟩)) ++ (List.drop ((((((((aP (aO ⟨#[48]⟩) (max ((digits_1 + (1 : Int)) - (((((aT q_4).getD ([] : List Nat)).length) : Nat) : Int)) (0 : Int))).getD ([] : List Nat)) ++ ((aT q_4).getD ([] : List Nat))).length) : Nat) : Int) - digits_1).toNat) (((aP (aO ⟨#[48]⟩) (max ((digits_1 + (1 : Int)) - (((((aT q_4).getD ([] : List Nat)).length) : Nat) : Int)) (0 : Int))).getD ([] : List Nat)) ++ ((aT q_4).getD ([] : List Nat))))))))))) else kO d_0 q_4 (((aP (aO ⟨#[48]⟩) (max ((digits_1 + (1 : Int)) - (((((aT q_4).getD ([] : List Nat)).length) : Nat) : Int)) (0 : Int))).getD ([] : List Nat)) ++ ((aT q_4).getD ([] : List Nat))))))))
noncomputable def aN (d_0 : (Bool × ((List Nat) × (Int × Unit)))) (digits_1 : Int) (up_2 : Bool) : Option ((List Nat) × (Int × Unit)) :=
 ck (((cX d_0).isSome = true)) (if ((¬ (((cX d_0).getD false) = true)) ∨ (digits_1 < (0 : Int))) ∨ ((60 : Int) < digits_1) then some ((aO ⟨#[]⟩), (1 : Int), ()) else if ((2000 : Int) < (((d_0.2).2).1)) ∨ ((((d_0.2).2).1) < (-2000 : Int)) then some ((aO ⟨#[]⟩), (2 : Int), ()) else ck ((aEX ((d_0.2).1) (max (((d_0.2).2).1) (0 : Int)))) (ck (((bB (10 : Nat) digits_1).isSome = true)) (ck ((aF0 (bF ((d_0.2).1) (max (((d_0.2).2).1) (0 : Int))) ((bB (10 : Nat) digits_1).getD ([] : List Nat)))) (ck (I64 (0 - (((d_0.2).2).1))) (ck ((aEm (bA (bF ((d_0.2).1) (max (((d_0.2).2).1) (0 : Int))) ((bB (10 : Nat) digits_1).getD ([] : List Nat))) (max (0 - (((d_0.2).2).1)) (0 : Int)))) (ck ((((0 : Int) < ((((bA (bF ((d_0.2).1) (max (((d_0.2).2).1) (0 : Int))) ((bB (10 : Nat) digits_1).getD ([] : List Nat))).length) : Nat) : Int)) → ((pSz (bA (bF ((d_0.2).1) (max (((d_0.2).2).1) (0 : Int))) ((bB (10 : Nat) digits_1).getD ([] : List Nat))))))) (if (((0 : Int) < ((((bA (bF ((d_0.2).1) (max (((d_0.2).2).1) (0 : Int))) ((bB (10 : Nat) digits_1).getD ([] : List Nat))).length) : Nat) : Int)) ∧ ((bQ (bA (bF ((d_0.2).1) (max (((d_0.2).2).1) (0 : Int))) ((bB (10 : Nat) digits_1).getD ([] : List Nat)))) < (max (0 - (((d_0.2).2).1)) (0 : Int)))) ∧ ((up_2 != (d_0.1)) = true) then ck ((aF0 (cF (bA (bF ((d_0.2).1) (max (((d_0.2).2).1) (0 : Int))) ((bB (10 : Nat) digits_1).getD ([] : List Nat))) (max (0 - (((d_0.2).2).1)) (0 : Int))) ([1] : List Nat))) (kP digits_1 d_0 (fF (cF (bA (bF ((d_0.2).1) (max (((d_0.2).2).1) (0 : Int))) ((bB (10 : Nat) digits_1).getD ([] : List Nat))) (max (0 - (((d_0.2).2).1)) (0 : Int))) ([1] : List Nat))) else kP digits_1 d_0 (cF (bA (bF ((d_0.2).1) (max (((d_0.2).2).1) (0 : Int))) ((bB (10 : Nat) digits_1).getD ([] : List Nat))) (max (0 - (((d_0.2).2).1)) (0 : Int))))))))))
def aFL : PlR := ⟨[(0, .B [1, 2, 3]), (1, .A [1, 2, 3, 12]), (2, .A [6, 7]), (3, .A [1, 2, 3, 24]), (4, .A [6, 7]), (5, .A [1, 2, 3, 8]), (6, .A [1, 2, 3, 8, 9]), (7, .A [1, 2, 3, 8, 9, 10]), (8, .A [1, 3, 10, 63]), (9, .A [1, 3, 10]), (10, .A [1, 3, 10, 11]), (11, .A [1, 3, 10, 11]), (12, .A [1, 3, 10, 11, 79]), (13, .A [3, 10, 11]), (14, .A [11, 100]), (15, .A [11]), (16, .A [6, 7])], [(11, 13), (15, 17)]⟩
def aIZ : Ty := .pair (.pair .bool (.pair (.sl (.u .u64)) (.pair (.i .i64) .unit))) (.pair (.i .i64) (.pair .bool .unit))
noncomputable def qD : aK := mSpec aIZ (.tup (.pair .str (.pair (.i .i64) .unit))) (fun x => aN x.1 x.2.1 x.2.2.1)
noncomputable def kQ : List (FuncId × aK) := [(29, fJ), (63, eH), (65, jU), (68, iI), (69, gC), (70, jS), (71, lP), (72, xS), (73, gP)]
theorem aPl : bN Tryz.prog GL kQ := .cons tE (by kernel_rfl) (.cons qW (by kernel_rfl) (.cons aAu (by kernel_rfl) (.cons xD (by kernel_rfl) (.cons uH (by kernel_rfl) (.cons aAm (by kernel_rfl) (.cons aBq (by kernel_rfl) (.cons aN7 (by kernel_rfl) (.cons xL (by kernel_rfl) (.nil)))))))))
theorem aKc : gam kQ 29 = some fJ := rfl
theorem aKd : gam kQ 63 = some eH := rfl
theorem aKe : gam kQ 65 = some jU := rfl
theorem aKf : gam kQ 68 = some iI := rfl
theorem aKg : gam kQ 69 = some gC := rfl
theorem aKh : gam kQ 70 = some jS := rfl
theorem aKi : gam kQ 71 = some lP := rfl
theorem aKj : gam kQ 72 = some xS := rfl
theorem aKk : gam kQ 73 = some gP := rfl
attribute [go_sem] aIZ aFL aKc aKd aKe aKf aKg aKh aKi aKj aKk
set_option maxHeartbeats 4000000 in
theorem aFM : FOK Tryz.prog GL 27 qD := by
 refine bR (bC aPl) mix Tryz.func27 rfl (by kernel_rfl) (by decide) aFL fun w0 S x Θ hw h hF => ?_
 obtain ⟨(d_0 : (Bool × ((List Nat) × (Int × Unit)))), (digits_1 : Int), (up_2 : Bool), u⟩ := x
 simp only [bV, go_sem]
 replace h : sat (aN d_0 digits_1 up_2) _ := h
 unfold aN at h
 refine aI h fun g0 h => ?_
 refine ⟨fun hc => ?_, fun hc => ?_⟩
 ·replace h := fB (by first | exact hc | omega | (simpa using hc) | (simp at hc ⊢; omega)) h
  exact aL hF [.tmp 6, .tmp 7] rfl rfl rfl (aC h) (by simp only [aZ, go_sem])
 ·replace h := fC (by first | exact hc | omega | (simpa using hc) | (simp at hc ⊢; omega)) h
  refine ⟨fun hc => ?_, fun hc => ?_⟩
  ·replace h := fB hc h
   exact aL hF [.tmp 6, .tmp 7] rfl rfl rfl (aC h) (by simp only [aZ, go_sem])
  ·replace h := fC hc h
   refine aI h fun g0 h => aI h fun g1 h => aI h fun g2 h => ?_
   refine aI h fun g0 h => ?_
   refine aI h fun g0 h => ?_
   refine cB hF (D := (List Nat)) (fun d => sat (kP digits_1 d_0 d) Θ) [1] (fun d => [(3, .ptr 0 []), (10, .val (.sl (.u .u64)) d)]) (fun d => [.inr (.box 3 (.val (.pair .bool (.pair (.sl (.u .u64)) (.pair (.i .i64) .unit))) d_0))]) ?_ ?_
   ·simp only [go_sem]
    refine aI h fun g0 h => ?_
    refine ⟨fun hc => ?_, fun hc => ?_⟩
    ·replace h := fB hc h
     refine aI h fun g0 h => ?_
     exact aQ ((fF (cF (bA (bF ((d_0.2).1) (max (((d_0.2).2).1) (0 : Int))) ((bB (10 : Nat) digits_1).getD ([] : List Nat))) (max (0 - (((d_0.2).2).1)) (0 : Int))) ([1] : List Nat))) h rfl (by simp only [go_sem])
    ·replace h := fC hc h
     exact aQ ((cF (bA (bF ((d_0.2).1) (max (((d_0.2).2).1) (0 : Int))) ((bB (10 : Nat) digits_1).getD ([] : List Nat))) (max (0 - (((d_0.2).2).1)) (0 : Int)))) h rfl (by simp only [go_sem])
   ·rintro q_4 h
    simp only [go_sem]
    replace h : sat (kP digits_1 d_0 q_4) _ := h
    unfold kP at h
    refine aI h fun g0 h => ?_
    refine aI h fun g0 h => aI h fun g1 h => aI h fun g2 h => aI h fun g3 h => ?_
    refine cB hF (D := (List Nat)) (fun d => sat (kO d_0 q_4 d) Θ) [10] (fun d => [(3, .ptr 0 []), (11, .val .str d)]) (fun d => [.inr (.box 3 (.val (.pair .bool (.pair (.sl (.u .u64)) (.pair (.i .i64) .unit))) d_0))]) ?_ ?_
    ·simp only [go_sem]
     refine dA h (fun hc h => ?_) fun hc h => ?_
     ·refine aI h fun g0 h => aI h fun g1 h => aI h fun g2 h => aI h fun g3 h => aI h fun g4 h => aI h fun g5 h => ?_
      exact aQ ((((List.take ((((((((aP (aO ⟨#[48]⟩) (max ((digits_1 + (1 : Int)) - (((((aT q_4).getD ([] : List Nat)).length) : Nat) : Int)) (0 : Int))).getD ([] : List Nat)) ++ ((aT q_4).getD ([] : List Nat))).length) : Nat) : Int) - digits_1).toNat) (((aP (aO ⟨#[48]⟩) (max ((digits_1 + (1 : Int)) - (((((aT q_4).getD ([] : List Nat)).length) : Nat) : Int)) (0 : Int))).getD ([] : List Nat)) ++ ((aT q_4).getD ([] : List Nat)))) ++ (aO ⟨#[46]⟩)) ++ (List.drop ((((((((aP (aO ⟨#[48]⟩) (max ((digits_1 + (1 : Int)) - (((((aT q_4).getD ([] : List Nat)).length) : Nat) : Int)) (0 : Int))).getD ([] : List Nat)) ++ ((aT q_4).getD ([] : List Nat))).length) : Nat) : Int) - digits_1).toNat) (((aP (aO ⟨#[48]⟩) (max ((digits_1 + (1 : Int)) - (((((aT q_4).getD ([] : List Nat)).length) : Nat) : Int)) (0 : Int))).getD ([] : List Nat)) ++ ((aT q_4).getD ([] : List Nat)))))) h rfl (by simp only [go_sem])
     ·exact aQ ((((aP (aO ⟨#[48]⟩) (max ((digits_1 + (1 : Int)) - (((((aT q_4).getD ([] : List Nat)).length) : Nat) : Int)) (0 : Int))).getD ([] : List Nat)) ++ ((aT q_4).getD ([] : List Nat)))) h rfl (by simp only [go_sem])
    ·rintro s_5 h
     simp only [go_sem]
     replace h : sat (kO d_0 q_4 s_5) _ := h
     unfold kO at h
     refine ⟨fun hc => ?_, fun hc => ?_⟩
     ·replace h := fB hc h
      refine aI h fun g0 h => ?_
      exact aL hF [.tmp 6, .tmp 7] rfl rfl rfl (aC h) (by simp only [aZ, go_sem])
     ·replace h := fC hc h
      exact aL hF [.tmp 6, .tmp 7] rfl rfl rfl (aC h) (by simp only [aZ, go_sem])
attribute [go_sem] qD
noncomputable def eB (a_0 : (Bool × ((List Nat) × (Int × Unit)))) (b_1 : (Bool × ((List Nat) × (Int × Unit)))) : Option Bool :=
 ck ((((((a_0.1) == (b_1.1)) = true) ∧ ((((a_0.2).2).1) = (((b_1.2).2).1))) → (((dL ((a_0.2).1) ((b_1.2).1)).isSome = true)))) (some ((((a_0.1) == (b_1.1)) && (decide ((((a_0.2).2).1) = (((b_1.2).2).1)))) && ((dL ((a_0.2).1) ((b_1.2).1)).getD false)))
def aDV : PlR := ⟨[(0, .B [2, 3]), (1, .A [4])], []⟩
def aFN : Ty := .pair (.pair .bool (.pair (.sl (.u .u64)) (.pair (.i .i64) .unit))) (.pair (.pair .bool (.pair (.sl (.u .u64)) (.pair (.i .i64) .unit))) .unit)
noncomputable def uY : aK := mSpec aFN (.one .bool) (fun x => eB x.1 x.2.1)
noncomputable def aFO : List (FuncId × aK) := [(84, iE)]
theorem aN8 : bN Tryz.prog GL aFO := .cons aAx (by kernel_rfl) (.nil)
theorem aI0 : gam aFO 84 = some iE := rfl
attribute [go_sem] aFN aDV aI0
set_option maxHeartbeats 4000000 in
theorem aMj : FOK Tryz.prog GL 32 uY := by
 refine bR (bC aN8) mix Tryz.func32 rfl (by kernel_rfl) (by decide) aDV fun w0 S x Θ hw h hF => ?_
 obtain ⟨(a_0 : (Bool × ((List Nat) × (Int × Unit)))), (b_1 : (Bool × ((List Nat) × (Int × Unit)))), u⟩ := x
 simp only [bV, go_sem]
 replace h : sat (eB a_0 b_1) _ := h
 unfold eB at h
 refine aI h fun g0 h => ?_
 exact aL hF [.tmp 4] rfl rfl rfl (aC h) (by simp only [aZ, go_sem])
attribute [go_sem] uY
noncomputable def nX : Option Bool :=
 ck (((aN (false, ([1] : List Nat), (-3 : Int), ()) (2 : Int) false).isSome = true)) (ck (((aN (false, ([1] : List Nat), (-3 : Int), ()) (2 : Int) true).isSome = true)) (ck (((bZ (false, ([1] : List Nat), (-3 : Int), ())).isSome = true)) (ck (((aN ((bZ (false, ([1] : List Nat), (-3 : Int), ())).getD (false, ([] : List Nat), (0 : Int), ())) (2 : Int) false).isSome = true)) (ck (((bE (aO ⟨#[48, 46, 49, 50, 53]⟩)).isSome = true)) (ck (((bE (aO ⟨#[48, 46, 49]⟩)).isSome = true)) (ck (((cC (aO ⟨#[48, 46, 49]⟩) (20 : Int)).isSome = true)) (ck (I64 (((((aN (false, ([1] : List Nat), (-3 : Int), ()) (2 : Int) false).getD (([] : List Nat), (0 : Int), ())).2).1) + ((((aN (false, ([1] : List Nat), (-3 : Int), ()) (2 : Int) true).getD (([] : List Nat), (0 : Int), ())).2).1))) (ck (I64 ((((((aN (false, ([1] : List Nat), (-3 : Int), ()) (2 : Int) false).getD (([] : List Nat), (0 : Int), ())).2).1) + ((((aN (false, ([1] : List Nat), (-3 : Int), ()) (2 : Int) true).getD (([] : List Nat), (0 : Int), ())).2).1)) + ((((aN ((bZ (false, ([1] : List Nat), (-3 : Int), ())).getD (false, ([] : List Nat), (0 : Int), ())) (2 : Int) false).getD (([] : List Nat), (0 : Int), ())).2).1))) (ck (I64 (((((((aN (false, ([1] : List Nat), (-3 : Int), ()) (2 : Int) false).getD (([] : List Nat), (0 : Int), ())).2).1) + ((((aN (false, ([1] : List Nat), (-3 : Int), ()) (2 : Int) true).getD (([] : List Nat), (0 : Int), ())).2).1)) + ((((aN ((bZ (false, ([1] : List Nat), (-3 : Int), ())).getD (false, ([] : List Nat), (0 : Int), ())) (2 : Int) false).getD (([] : List Nat), (0 : Int), ())).2).1)) + ((((bE (aO ⟨#[48, 46, 49, 50, 53]⟩)).getD ((false, ([] : List Nat), (0 : Int), ()), (0 : Int), ())).2).1))) (ck (I64 ((((((((aN (false, ([1] : List Nat), (-3 : Int), ()) (2 : Int) false).getD (([] : List Nat), (0 : Int), ())).2).1) + ((((aN (false, ([1] : List Nat), (-3 : Int), ()) (2 : Int) true).getD (([] : List Nat), (0 : Int), ())).2).1)) + ((((aN ((bZ (false, ([1] : List Nat), (-3 : Int), ())).getD (false, ([] : List Nat), (0 : Int), ())) (2 : Int) false).getD (([] : List Nat), (0 : Int), ())).2).1)) + ((((bE (aO ⟨#[48, 46, 49, 50, 53]⟩)).getD ((false, ([] : List Nat), (0 : Int), ()), (0 : Int), ())).2).1)) + ((((cC (aO ⟨#[48, 46, 49]⟩) (20 : Int)).getD (((false, ([] : List Nat), (0 : Int), ()), (false, ([] : List Nat), (0 : Int), ()), ()), (0 : Int), ())).2).1))) (ck ((((((((((((((aN (false, ([1] : List Nat), (-3 : Int), ()) (2 : Int) false).getD (([] : List Nat), (0 : Int), ())).2).1) + ((((aN (false, ([1] : List Nat), (-3 : Int), ()) (2 : Int) true).getD (([] : List Nat), (0 : Int), ())).2).1)) + ((((aN ((bZ (false, ([1] : List Nat), (-3 : Int), ())).getD (false, ([] : List Nat), (0 : Int), ())) (2 : Int) false).getD (([] : List Nat), (0 : Int), ())).2).1)) + ((((bE (aO ⟨#[48, 46, 49, 50, 53]⟩)).getD ((false, ([] : List Nat), (0 : Int), ()), (0 : Int), ())).2).1)) + ((((cC (aO ⟨#[48, 46, 49]⟩) (20 : Int)).getD (((false, ([] : List Nat), (0 : Int), ()), (false, ([] : List Nat), (0 : Int), ()), ()), (0 : Int), ())).2).1)) = (0 : Int)) ∧ ((((aN (false, ([1] : List Nat), (-3 : Int), ()) (2 : Int) false).getD (([] : List Nat), (0 : Int), ())).1) = (aO ⟨#[48, 46, 49, 50]⟩))) ∧ ((((aN (false, ([1] : List Nat), (-3 : Int), ()) (2 : Int) true).getD (([] : List Nat), (0 : Int), ())).1) = (aO ⟨#[48, 46, 49, 51]⟩))) ∧ ((((aN ((bZ (false, ([1] : List Nat), (-3 : Int), ())).getD (false, ([] : List Nat), (0 : Int), ())) (2 : Int) false).getD (([] : List Nat), (0 : Int), ())).1) = (aO ⟨#[45, 48, 46, 49, 51]⟩))) → (((eB (((bE (aO ⟨#[48, 46, 49, 50, 53]⟩)).getD ((false, ([] : List Nat), (0 : Int), ()), (0 : Int), ())).1) (false, ([1] : List Nat), (-3 : Int), ())).isSome = true)))) (ck ((((((((((((((((aN (false, ([1] : List Nat), (-3 : Int), ()) (2 : Int) false).getD (([] : List Nat), (0 : Int), ())).2).1) + ((((aN (false, ([1] : List Nat), (-3 : Int), ()) (2 : Int) true).getD (([] : List Nat), (0 : Int), ())).2).1)) + ((((aN ((bZ (false, ([1] : List Nat), (-3 : Int), ())).getD (false, ([] : List Nat), (0 : Int), ())) (2 : Int) false).getD (([] : List Nat), (0 : Int), ())).2).1)) + ((((bE (aO ⟨#[48, 46, 49, 50, 53]⟩)).getD ((false, ([] : List Nat), (0 : Int), ()), (0 : Int), ())).2).1)) + ((((cC (aO ⟨#[48, 46, 49]⟩) (20 : Int)).getD (((false, ([] : List Nat), (0 : Int), ()), (false, ([] : List Nat), (0 : Int), ()), ()), (0 : Int), ())).2).1)) = (0 : Int)) ∧ ((((aN (false, ([1] : List Nat), (-3 : Int), ()) (2 : Int) false).getD (([] : List Nat), (0 : Int), ())).1) = (aO ⟨#[48, 46, 49, 50]⟩))) ∧ ((((aN (false, ([1] : List Nat), (-3 : Int), ()) (2 : Int) true).getD (([] : List Nat), (0 : Int), ())).1) = (aO ⟨#[48, 46, 49, 51]⟩))) ∧ ((((aN ((bZ (false, ([1] : List Nat), (-3 : Int), ())).getD (false, ([] : List Nat), (0 : Int), ())) (2 : Int) false).getD (([] : List Nat), (0 : Int), ())).1) = (aO ⟨#[45, 48, 46, 49, 51]⟩))) ∧ (((eB (((bE (aO ⟨#[48, 46, 49, 50, 53]⟩)).getD ((false, ([] : List Nat), (0 : Int), ()), (0 : Int), ())).1) (false, ([1] : List Nat), (-3 : Int), ())).getD false) = true)) ∧ (((((bE (aO ⟨#[48, 46, 49]⟩)).getD ((false, ([] : List Nat), (0 : Int), ()), (0 : Int), ())).2).1) = (6 : Int))) → (((fR ((((cC (aO ⟨#[48, 46, 49]⟩) (20 : Int)).getD (((false, ([] : List Nat), (0 : Int), ()), (false, ([] : List Nat), (0 : Int), ()), ()), (0 : Int), ())).1).1) (((((cC (aO ⟨#[48, 46, 49]⟩) (20 : Int)).getD (((false, ([] : List Nat), (0 : Int), ()), (false, ([] : List Nat), (0 : Int), ()), ()), (0 : Int), ())).1).2).1)).isSome = true)))) (ck (((((((((((((((((aN (false, ([1] : List Nat), (-3 : Int), ()) (2 : Int) false).getD (([] : List Nat), (0 : Int), ())).2).1) + ((((aN (false, ([1] : List Nat), (-3 : Int), ()) (2 : Int) true).getD (([] : List Nat), (0 : Int), ())).2).1)) + ((((aN ((bZ (false, ([1] : List Nat), (-3 : Int), ())).getD (false, ([] : List Nat), (0 : Int), ())) (2 : Int) false).getD (([] : List Nat), (0 : Int), ())).2).1)) + ((((bE (aO ⟨#[48, 46, 49, 50, 53]⟩)).getD ((false, ([] : List Nat), (0 : Int), ()), (0 : Int), ())).2).1)) + ((((cC (aO ⟨#[48, 46, 49]⟩) (20 : Int)).getD (((false, ([] : List Nat), (0 : Int), ()), (false, ([] : List Nat), (0 : Int), ()), ()), (0 : Int), ())).2).1)) = (0 : Int)) ∧ ((((aN (false, ([1] : List Nat), (-3 : Int), ()) (2 : Int) false).getD (([] : List Nat), (0 : Int), ())).1) = (aO ⟨#[48, 46, 49, 50]⟩))) ∧ ((((aN (false, ([1] : List Nat), (-3 : Int), ()) (2 : Int) true).getD (([] : List Nat), (0 : Int), ())).1) = (aO ⟨#[48, 46, 49, 51]⟩))) ∧ ((((aN ((bZ (false, ([1] : List Nat), (-3 : Int), ())).getD (false, ([] : List Nat), (0 : Int), ())) (2 : Int) false).getD (([] : List Nat), (0 : Int), ())).1) = (aO ⟨#[45, 48, 46, 49, 51]⟩))) ∧ (((eB (((bE (aO ⟨#[48, 46, 49, 50, 53]⟩)).getD ((false, ([] : List Nat), (0 : Int), ()), (0 : Int), ())).1) (false, ([1] : List Nat), (-3 : Int), ())).getD false) = true)) ∧ (((((bE (aO ⟨#[48, 46, 49]⟩)).getD ((false, ([] : List Nat), (0 : Int), ()), (0 : Int), ())).2).1) = (6 : Int))) ∧ (((fR ((((cC (aO ⟨#[48, 46, 49]⟩) (20 : Int)).getD (((false, ([] : List Nat), (0 : Int), ()), (false, ([] : List Nat), (0 : Int), ()), ()), (0 : Int), ())).1).1) (((((cC (aO ⟨#[48, 46, 49]⟩) (20 : Int)).getD (((false, ([] : List Nat), (0 : Int), ()), (false, ([] : List Nat), (0 : Int), ()), ()), (0 : Int), ())).1).2).1)).getD (0 : Int)) < (0 : Int))) → (((bT (aO ⟨#[49, 46, 53, 101, 45, 51]⟩)).isSome = true)))) (ck ((((((((((((((((((aN (false, ([1] : List Nat), (-3 : Int), ()) (2 : Int) false).getD (([] : List Nat), (0 : Int), ())).2).1) + ((((aN (false, ([1] : List Nat), (-3 : Int), ()) (2 : Int) true).getD (([] : List Nat), (0 : Int), ())).2).1)) + ((((aN ((bZ (false, ([1] : List Nat), (-3 : Int), ())).getD (false, ([] : List Nat), (0 : Int), ())) (2 : Int) false).getD (([] : List Nat), (0 : Int), ())).2).1)) + ((((bE (aO ⟨#[48, 46, 49, 50, 53]⟩)).getD ((false, ([] : List Nat), (0 : Int), ()), (0 : Int), ())).2).1)) + ((((cC (aO ⟨#[48, 46, 49]⟩) (20 : Int)).getD (((false, ([] : List Nat), (0 : Int), ()), (false, ([] : List Nat), (0 : Int), ()), ()), (0 : Int), ())).2).1)) = (0 : Int)) ∧ ((((aN (false, ([1] : List Nat), (-3 : Int), ()) (2 : Int) false).getD (([] : List Nat), (0 : Int), ())).1) = (aO ⟨#[48, 46, 49, 50]⟩))) ∧ ((((aN (false, ([1] : List Nat), (-3 : Int), ()) (2 : Int) true).getD (([] : List Nat), (0 : Int), ())).1) = (aO ⟨#[48, 46, 49, 51]⟩))) ∧ ((((aN ((bZ (false, ([1] : List Nat), (-3 : Int), ())).getD (false, ([] : List Nat), (0 : Int), ())) (2 : Int) false).getD (([] : List Nat), (0 : Int), ())).1) = (aO ⟨#[45, 48, 46, 49, 51]⟩))) ∧ (((eB (((bE (aO ⟨#[48, 46, 49, 50, 53]⟩)).getD ((false, ([] : List Nat), (0 : Int), ()), (0 : Int), ())).1) (false, ([1] : List Nat), (-3 : Int), ())).getD false) = true)) ∧ (((((bE (aO ⟨#[48, 46, 49]⟩)).getD ((false, ([] : List Nat), (0 : Int), ()), (0 : Int), ())).2).1) = (6 : Int))) ∧ (((fR ((((cC (aO ⟨#[48, 46, 49]⟩) (20 : Int)).getD (((false, ([] : List Nat), (0 : Int), ()), (false, ([] : List Nat), (0 : Int), ()), ()), (0 : Int), ())).1).1) (((((cC (aO ⟨#[48, 46, 49]⟩) (20 : Int)).getD (((false, ([] : List Nat), (0 : Int), ()), (false, ([] : List Nat), (0 : Int), ()), ()), (0 : Int), ())).1).2).1)).getD (0 : Int)) < (0 : Int))) ∧ (((bT (aO ⟨#[49, 46, 53, 101, 45, 51]⟩)).getD false) = true)) → (((bT (aO ⟨#[49, 46]⟩)).isSome = true)))) (ck (((((((((((((((((((aN (false, ([1] : List Nat), (-3 : Int), ()) (2 : Int) false).getD (([] : List Nat), (0 : Int), ())).2).1) + ((((aN (false, ([1] : List Nat), (-3 : Int), ()) (2 : Int) true).getD (([] : List Nat), (0 : Int), ())).2).1)) + ((((aN ((bZ (false, ([1] : List Nat), (-3 : Int), ())).getD (false, ([] : List Nat), (0 : Int), ())) (2 : Int) false).getD (([] : List Nat), (0 : Int), ())).2).1)) + ((((bE (aO ⟨#[48, 46, 49, 50, 53]⟩)).getD ((false, ([] : List Nat), (0 : Int), ()), (0 : Int), ())).2).1)) + ((((cC (aO ⟨#[48, 46, 49]⟩) (20 : Int)).getD (((false, ([] : List Nat), (0 : Int), ()), (false, ([] : List Nat), (0 : Int), ()), ()), (0 : Int), ())).2).1)) = (0 : Int)) ∧ ((((aN (false, ([1] : List Nat), (-3 : Int), ()) (2 : Int) false).getD (([] : List Nat), (0 : Int), ())).1) = (aO ⟨#[48, 46, 49, 50]⟩))) ∧ ((((aN (false, ([1] : List Nat), (-3 : Int), ()) (2 : Int) true).getD (([] : List Nat), (0 : Int), ())).1) = (aO ⟨#[48, 46, 49, 51]⟩))) ∧ ((((aN ((bZ (false, ([1] : List Nat), (-3 : Int), ())).getD (false, ([] : List Nat), (0 : Int), ())) (2 : Int) false).getD (([] : List Nat), (0 : Int), ())).1) = (aO ⟨#[45, 48, 46, 49, 51]⟩))) ∧ (((eB (((bE (aO ⟨#[48, 46, 49, 50, 53]⟩)).getD ((false, ([] : List Nat), (0 : Int), ()), (0 : Int), ())).1) (false, ([1] : List Nat), (-3 : Int), ())).getD false) = true)) ∧ (((((bE (aO ⟨#[48, 46, 49]⟩)).getD ((false, ([] : List Nat), (0 : Int), ()), (0 : Int), ())).2).1) = (6 : Int))) ∧ (((fR ((((cC (aO ⟨#[48, 46, 49]⟩) (20 : Int)).getD (((false, ([] : List Nat), (0 : Int), ()), (false, ([] : List Nat), (0 : Int), ()), ()), (0 : Int), ())).1).1) (((((cC (aO ⟨#[48, 46, 49]⟩) (20 : Int)).getD (((false, ([] : List Nat), (0 : Int), ()), (false, ([] : List Nat), (0 : Int), ()), ()), (0 : Int), ())).1).2).1)).getD (0 : Int)) < (0 : Int))) ∧ (((bT (aO ⟨#[49, 46, 53, 101, 45, 51]⟩)).getD false) = true)) ∧ (¬ (((bT (aO ⟨#[49, 46]⟩)).getD false) = true))) → (((bT (aO ⟨#[46, 53]⟩)).isSome = true)))) (ck ((((((((((((((((((((aN (false, ([1] : List Nat), (-3 : Int), ()) (2 : Int) false).getD (([] : List Nat), (0 : Int), ())).2).1) + ((((aN (false, ([1] : List Nat), (-3 : Int), ()) (2 : Int) true).getD (([] : List Nat), (0 : Int), ())).2).1)) + ((((aN ((bZ (false, ([1] : List Nat), (-3 : Int), ())).getD (false, ([] : List Nat), (0 : Int), ())) (2 : Int) false).getD (([] : List Nat), (0 : Int), ())).2).1)) + ((((bE (aO ⟨#[48, 46, 49, 50, 53]⟩)).getD ((false, ([] : List Nat), (0 : Int), ()), (0 : Int), ())).2).1)) + ((((cC (aO ⟨#[48, 46, 49]⟩) (20 : Int)).getD (((false, ([] : List Nat), (0 : Int), ()), (false, ([] : List Nat), (0 : Int), ()), ()), (0 : Int), ())).2).1)) = (0 : Int)) ∧ ((((aN (false, ([1] : List Nat), (-3 : Int), ()) (2 : Int) false).getD (([] : List Nat), (0 : Int), ())).1) = (aO ⟨#[48, 46, 49, 50]⟩))) ∧ ((((aN (false, ([1] : List Nat), (-3 : Int), ()) (2 : Int) true).getD (([] : List Nat), (0 : Int), ())).1) = (aO ⟨#[48, 46, 49, 51]⟩))) ∧ ((((aN ((bZ (false, ([1] : List Nat), (-3 : Int), ())).getD (false, ([] : List Nat), (0 : Int), ())) (2 : Int) false).getD (([] : List Nat), (0 : Int), ())).1) = (aO ⟨#[45, 48, 46, 49, 51]⟩))) ∧ (((eB (((bE (aO ⟨#[48, 46, 49, 50, 53]⟩)).getD ((false, ([] : List Nat), (0 : Int), ()), (0 : Int), ())).1) (false, ([1] : List Nat), (-3 : Int), ())).getD false) = true)) ∧ (((((bE (aO ⟨#[48, 46, 49]⟩)).getD ((false, ([] : List Nat), (0 : Int), ()), (0 : Int), ())).2).1) = (6 : Int))) ∧ (((fR ((((cC (aO ⟨#[48, 46, 49]⟩) (20 : Int)).getD (((false, ([] : List Nat), (0 : Int), ()), (false, ([] : List Nat), (0 : Int), ()), ()), (0 : Int), ())).1).1) (((((cC (aO ⟨#[48, 46, 49]⟩) (20 : Int)).getD (((false, ([] : List Nat), (0 : Int), ()), (false, ([] : List Nat), (0 : Int), ()), ()), (0 : Int), ())).1).2).1)).getD (0 : Int)) < (0 : Int))) ∧ (((bT (aO ⟨#[49, 46, 53, 101, 45, 51]⟩)).getD false) = true)) ∧ (¬ (((bT (aO ⟨#[49, 46]⟩)).getD false) = true))) ∧ (¬ (((bT (aO ⟨#[46, 53]⟩)).getD false) = true))) → (((bT (aO ⟨#[49, 101, 49, 48, 49]⟩)).isSome = true)))) (ck (((((((((((((((((((((aN (false, ([1] : List Nat), (-3 : Int), ()) (2 : Int) false).getD (([] : List Nat), (0 : Int), ())).2).1) + ((((aN (false, ([1] : List Nat), (-3 : Int), ()) (2 : Int) true).getD (([] : List Nat), (0 : Int), ())).2).1)) + ((((aN ((bZ (false, ([1] : List Nat), (-3 : Int), ())).getD (false, ([] : List Nat), (0 : Int), ())) (2 : Int) false).getD (([] : List Nat), (0 : Int), ())).2).1)) + ((((bE (aO ⟨#[48, 46, 49, 50, 53]⟩)).getD ((false, ([] : List Nat), (0 : Int), ()), (0 : Int), ())).2).1)) + ((((cC (aO ⟨#[48, 46, 49]⟩) (20 : Int)).getD (((false, ([] : List Nat), (0 : Int), ()), (false, ([] : List Nat), (0 : Int), ()), ()), (0 : Int), ())).2).1)) = (0 : Int)) ∧ ((((aN (false, ([1] : List Nat), (-3 : Int), ()) (2 : Int) false).getD (([] : List Nat), (0 : Int), ())).1) = (aO ⟨#[48, 46, 49, 50]⟩))) ∧ ((((aN (false, ([1] : List Nat), (-3 : Int), ()) (2 : Int) true).getD (([] : List Nat), (0 : Int), ())).1) = (aO ⟨#[48, 46, 49, 51]⟩))) ∧ ((((aN ((bZ (false, ([1] : List Nat), (-3 : Int), ())).getD (false, ([] : List Nat), (0 : Int), ())) (2 : Int) false).getD (([] : List Nat), (0 : Int), ())).1) = (aO ⟨#[45, 48, 46, 49, 51]⟩))) ∧ (((eB (((bE (aO ⟨#[48, 46, 49, 50, 53]⟩)).getD ((false, ([] : List Nat), (0 : Int), ()), (0 : Int), ())).1) (false, ([1] : List Nat), (-3 : Int), ())).getD false) = true)) ∧ (((((bE (aO ⟨#[48, 46, 49]⟩)).getD ((false, ([] : List Nat), (0 : Int), ()), (0 : Int), ())).2).1) = (6 : Int))) ∧ (((fR ((((cC (aO ⟨#[48, 46, 49]⟩) (20 : Int)).getD (((false, ([] : List Nat), (0 : Int), ()), (false, ([] : List Nat), (0 : Int), ()), ()), (0 : Int), ())).1).1) (((((cC (aO ⟨#[48, 46, 49]⟩) (20 : Int)).getD (((false, ([] : List Nat), (0 : Int), ()), (false, ([] : List Nat), (0 : Int), ()), ()), (0 : Int), ())).1).2).1)).getD (0 : Int)) < (0 : Int))) ∧ (((bT (aO ⟨#[49, 46, 53, 101, 45, 51]⟩)).getD false) = true)) ∧ (¬ (((bT (aO ⟨#[49, 46]⟩)).getD false) = true))) ∧ (¬ (((bT (aO ⟨#[46, 53]⟩)).getD false) = true))) ∧ (¬ (((bT (aO ⟨#[49, 101, 49, 48, 49]⟩)).getD false) = true))) → (((bT (aO ⟨#[]⟩)).isSome = true)))) (some ((((((((((((decide (((((((((aN (false, ([1] : List Nat), (-3 : Int), ()) (2 : Int) false).getD (([] : List Nat), (0 : Int), ())).2).1) + ((((aN (false, ([1] : List Nat), (-3 : Int), ()) (2 : Int) true).getD (([] : List Nat), (0 : Int), ())).2).1)) + ((((aN ((bZ (false, ([1] : List Nat), (-3 : Int), ())).getD (false, ([] : List Nat), (0 : Int), ())) (2 : Int) false).getD (([] : List Nat), (0 : Int), ())).2).1)) + ((((bE (aO ⟨#[48, 46, 49, 50, 53]⟩)).getD ((false, ([] : List Nat), (0 : Int), ()), (0 : Int), ())).2).1)) + ((((cC (aO ⟨#[48, 46, 49]⟩) (20 : Int)).getD (((false, ([] : List Nat), (0 : Int), ()), (false, ([] : List Nat), (0 : Int), ()), ()), (0 : Int), ())).2).1)) = (0 : Int))) && (decide ((((aN (false, ([1] : List Nat), (-3 : Int), ()) (2 : Int) false).getD (([] : List Nat), (0 : Int), ())).1) = (aO ⟨#[48, 46, 49, 50]⟩)))) && (decide ((((aN (false, ([1] : List Nat), (-3 : Int), ()) (2 : Int) true).getD (([] : List Nat), (0 : Int), ())).1) = (aO ⟨#[48, 46, 49, 51]⟩)))) && (decide ((((aN ((bZ (false, ([1] : List Nat), (-3 : Int), ())).getD (false, ([] : List Nat), (0 : Int), ())) (2 : Int) false).getD (([] : List Nat), (0 : Int), ())).1) = (aO ⟨#[45, 48, 46, 49, 51]⟩)))) && ((eB (((bE (aO ⟨#[48, 46, 49, 50, 53]⟩)).getD ((false, ([] : List Nat), (0 : Int), ()), (0 : Int), ())).1) (false, ([1] : List Nat), (-3 : Int), ())).getD false)) && (decide (((((bE (aO ⟨#[48, 46, 49]⟩)).getD ((false, ([] : List Nat), (0 : Int), ()), (0 : Int), ())).2).1) = (6 : Int)))) && (decide (((fR ((((cC (aO ⟨#[48, 46, 49]⟩) (20 : Int)).getD (((false, ([] : List Nat), (0 : Int), ()), (false, ([] : List Nat), (0 : Int), ()), ()), (0 : Int), ())).1).1) (((((cC (aO ⟨#[48, 46, 49]⟩) (20 : Int)).getD (((false, ([] : List Nat), (0 : Int), ()), (false, ([] : List Nat), (0 : Int), ()), ()), (0 : Int), ())).1).2).1)).getD (0 : Int)) < (0 : Int)))) && ((bT (aO ⟨#[49, 46, 53, 101, 45, 51]⟩)).getD false)) && (!((bT (aO ⟨#[49, 46]⟩)).getD false))) && (!((bT (aO ⟨#[46, 53]⟩)).getD false))) && (!((bT (aO ⟨#[49, 101, 49, 48, 49]⟩)).getD false))) && (!((bT (aO ⟨#[]⟩)).getD false)))))))))))))))))))))
def aDW : PlR := ⟨[(0, .A []), (1, .B [1]), (2, .A [1, 2, 3]), (3, .A [1, 2, 3, 4, 5]), (4, .A [1, 2, 3, 4, 5, 6, 7]), (5, .B [1, 2, 3, 4, 5, 6, 7, 8, 9]), (6, .B [1, 2, 3, 4, 5, 6, 7, 8, 9, 11]), (7, .B [1, 2, 3, 4, 5, 6, 7, 8, 9, 11, 12, 13]), (8, .A [0])], []⟩
def aFP : Ty := .unit
noncomputable def uZ : aK := mSpec aFP (.one .bool) (fun x => nX )
noncomputable def lS : List (FuncId × aK) := [(19, aAv), (21, uT), (23, xI), (27, qD), (31, xG), (32, uY), (52, xH)]
theorem aN9 : bN Tryz.prog GL lS := .cons aO5 (by kernel_rfl) (.cons aMf (by kernel_rfl) (.cons aNR (by kernel_rfl) (.cons aFM (by kernel_rfl) (.cons aNO (by kernel_rfl) (.cons aMj (by kernel_rfl) (.cons aNP (by kernel_rfl) (.nil)))))))
theorem aI1 : gam lS 19 = some aAv := rfl
theorem aI2 : gam lS 21 = some uT := rfl
theorem aI3 : gam lS 23 = some xI := rfl
theorem aI4 : gam lS 27 = some qD := rfl
theorem aI5 : gam lS 31 = some xG := rfl
theorem aI6 : gam lS 32 = some uY := rfl
theorem aI7 : gam lS 52 = some xH := rfl
attribute [go_sem] aFP aDW aI1 aI2 aI3 aI4 aI5 aI6 aI7
set_option maxHeartbeats 4000000 in
theorem aMk : FOK Tryz.prog GL 18 uZ := by
 refine bR (bC aN9) mix Tryz.func18 rfl (by kernel_rfl) (by decide) aDW fun w0 S x Θ hw h hF => ?_
 simp only [bV, go_sem]
 replace h : sat (nX) _ := h
 unfold nX at h
 obtain ⟨g0, h⟩ := aH h
 repeat (refine ⟨by first | with_reducible assumption | omega | (intros; first | assumption | omega) | (simp only [go_sem] at *; first | assumption | omega) | decide, ?_⟩)
 obtain ⟨g0, h⟩ := aH h
 repeat (refine ⟨by first | with_reducible assumption | omega | (intros; first | assumption | omega) | (simp only [go_sem] at *; first | assumption | omega) | decide, ?_⟩)
 obtain ⟨g0, h⟩ := aH h
 obtain ⟨g1, h⟩ := aH h
 repeat (refine ⟨by first | with_reducible assumption | omega | (intros; first | assumption | omega) | (simp only [go_sem] at *; first | assumption | omega) | decide, ?_⟩)
 obtain ⟨g0, h⟩ := aH h
 repeat (refine ⟨by first | with_reducible assumption | omega | (intros; first | assumption | omega) | (simp only [go_sem] at *; first | assumption | omega) | decide, ?_⟩)
 obtain ⟨g0, h⟩ := aH h
 repeat (refine ⟨by first | with_reducible assumption | omega | (intros; first | assumption | omega) | (simp only [go_sem] at *; first | assumption | omega) | decide, ?_⟩)
 obtain ⟨g0, h⟩ := aH h
 repeat (refine ⟨by first | with_reducible assumption | omega | (intros; first | assumption | omega) | (simp only [go_sem] at *; first | assumption | omega) | decide, ?_⟩)
 obtain ⟨g0, h⟩ := aH h
 obtain ⟨g1, h⟩ := aH h
 obtain ⟨g2, h⟩ := aH h
 obtain ⟨g3, h⟩ := aH h
 obtain ⟨g4, h⟩ := aH h
 obtain ⟨g5, h⟩ := aH h
 obtain ⟨g6, h⟩ := aH h
 obtain ⟨g7, h⟩ := aH h
 obtain ⟨g8, h⟩ := aH h
 obtain ⟨g9, h⟩ := aH h
 obtain ⟨g10, h⟩ := aH h
 try simp only [I64, I32] at g0
 try simp only [I64, I32] at g1
 try simp only [I64, I32] at g2
 try simp only [I64, I32] at g3
 repeat (refine ⟨by first | with_reducible assumption | omega | (intros; first | assumption | omega) | (simp only [go_sem] at *; first | assumption | omega) | (intro q0; (try have e4 := g4 (by first | exact q0 | omega | (simpa using q0))); (try have e5 := g5 (by first | exact q0 | omega | (simpa using q0))); (try have e6 := g6 (by first | exact q0 | omega | (simpa using q0))); (try have e7 := g7 (by first | exact q0 | omega | (simpa using q0))); (try have e8 := g8 (by first | exact q0 | omega | (simpa using q0))); (try have e9 := g9 (by first | exact q0 | omega | (simpa using q0))); (try have e10 := g10 (by first | exact q0 | omega | (simpa using q0))); first | assumption | omega) | decide, ?_⟩)
 exact aL hF [.tmp 0] rfl rfl rfl (aC h) (by simp only [aZ, go_sem])
attribute [go_sem] uZ
end Nu
end Go.Proofs
namespace Go.Proofs
open Go.Vc
set_option maxRecDepth 20000
namespace Nu
theorem p2m (n m : Nat) (h : n ≤ m) : 2 ^ n ≤ 2 ^ m := Nat.pow_le_pow_right (by decide) h
theorem aOa (m : Nat) {x n : Nat} (h : x < 2 ^ n) (hn : n ≤ m) : x < 2 ^ m := Nat.lt_of_lt_of_le h (p2m n m hn)
theorem aBP (m : Nat) {x n : Nat} (h : x ≤ 2 ^ n) (hn : n < m) : x < 2 ^ m := Nat.lt_of_le_of_lt h (Nat.pow_lt_pow_right (by decide) hn)
theorem aOb (k : Nat) {x n : Nat} (h : x < 2 ^ n) (hn : n ≤ 64 * k) : x < 18446744073709551616 ^ k := by rw [nH]; exact aOa _ h hn
theorem aTm (a b : Nat) (h : a < b) : 18446744073709551616 ^ a < 18446744073709551616 ^ b := Nat.pow_lt_pow_right (by decide) h
abbrev Dy : Type := Bool × List Nat × Int × Unit
def d0 : Dy := (false, [], 0, ())
def kR (d : Dy) : Bool :=
 if d.2.1.length = 0 then !d.1 && decide (d.2.2.1 = 0)
 else decide (d.2.1.length ≤ 64 ∧ Nrm d.2.1) && decide (d.2.1.getD 0 0 % 2 = 1) && decide (-1048576 ≤ d.2.2.1) && decide (d.2.2.1 ≤ 1048576)
theorem aMl (x : Nat) : x &&& 1 = x % 2 := Nat.and_two_pow_sub_one_eq_mod x 1
theorem aBQ (d : Dy) : cX d = some (kR d) := by
 unfold cX kR
 by_cases h : d.2.1.length = 0
 ·rw [if_pos (by omega), if_pos h]
 ·rw [if_neg (by omega), if_neg h]
  refine aA (fun _ => by omega) ?_
  rw [aMl]
  rfl
theorem aPm (e : Int) : iJ false e = some (.inr (e, ())) := rfl
theorem aMm {b : Bool} {e : Int} (h : b = true) : iJ b e = some (.inl ()) := by rw [h]; rfl
theorem aI8 {b : Bool} {e : Int} (h : b = false) : iJ b e = some (.inr (e, ())) := by rw [h]; rfl
def aPn (neg : Bool) (m : Nat) (e : Int) : Dy ⊕ (Int × Unit) :=
 if m = 0 then .inl d0
 else if 64 < (lb (m / 2 ^ tzn m)).length then .inr (2, ())
 else if ¬ (e ≤ 1048576 ∧ -1048576 - (tzn m : Int) ≤ e) then .inr (3, ())
 else if 1048576 < e + (tzn m : Int) then .inr (3, ())
 else .inl (neg, lb (m / 2 ^ tzn m), e + (tzn m : Int), ())
theorem aWf {m k : Nat} (h0 : m ≠ 0) (h : m < 18446744073709551616 ^ k) : tzn m < 64 * k := by
 obtain ⟨q, hq⟩ := wE h0
 rw [nH] at h
 refine (Nat.pow_lt_pow_iff_right (show 1 < 2 by decide)).1 (Nat.lt_of_le_of_lt ?_ h)
 rw [hq, aBl rfl]
 exact Nat.le_mul_of_pos_right _ (by omega)
theorem aWg (neg : Bool) (m : List Nat) (e : Int) (lm : Lm m) (nm : Nrm m) (sm : m.length ≤ 1099511627776) : sC neg m e = some (aPn neg (nv m) e) := by
 unfold sC aPn
 by_cases h0 : m.length = 0
 ·have hm : m = [] := List.eq_nil_of_length_eq_zero h0
  subst hm
  rfl
 ·have hm : nv m ≠ 0 := by have := aBY nm (fun e => h0 (by rw [e]; rfl)); omega
  have hz : bQ m = (tzn (nv m) : Int) := by unfold bQ; rw [if_neg hm]
  have hzl := aWf hm (gN lm)
  have hR : cF m (tzn (nv m) : Int) = lb (nv m / 2 ^ tzn (nv m)) := by unfold cF; rw [Int.toNat_natCast]
  rw [if_neg (by omega), if_neg hm, hz, hR]
  refine aA sm (aA ⟨sm, by omega⟩ ?_)
  by_cases h1 : 64 < (lb (nv m / 2 ^ tzn (nv m))).length
  ·rw [aI8 (by simp; omega), if_pos h1]; rfl
  ·rw [aMm (by simp; omega), if_neg h1]
   simp only [Option.bind_some]
   by_cases h2 : e ≤ 1048576
   ·rw [if_pos h2]
    refine aA (by constructor <;> omega) ?_
    by_cases h3 : -1048576 - (tzn (nv m) : Int) ≤ e
    ·rw [aMm (by simp; omega), if_neg (by omega)]
     simp only [Option.bind_some]
     unfold oO
     rw [hz, hR]
     refine aA (by constructor <;> omega) ?_
     by_cases h4 : e + (tzn (nv m) : Int) ≤ 1048576
     ·rw [aMm (by simp; omega), if_neg (by omega)]
      simp only [Option.bind_some]
      exact aA (by constructor <;> omega) rfl
     ·rw [aI8 (by simp; omega), if_pos (by omega)]; rfl
    ·rw [aI8 (by simp; omega), if_pos (by omega)]; rfl
   ·rw [if_neg h2, aPm, if_pos (by omega)]; rfl
def told {α : Type} (z : α) : α ⊕ (Int × Unit) → α × Int × Unit
 | .inl r => (r, 0, ())
 | .inr p => (z, p.1, ())
def aKl (neg : Bool) (m : Nat) (e : Int) : Dy × Int × Unit := told d0 (aPn neg m e)
theorem aPo (neg : Bool) (m : List Nat) (e : Int) (lm : Lm m) (nm : Nrm m) (sm : m.length ≤ 1099511627776) : bL neg m e = some (aKl neg (nv m) e) := by
 have h1 : oB neg m e = some (aPn neg (nv m) e) := by
  unfold oB
  rw [aWg neg m e lm nm sm]
  simp only [Option.bind_some]
  cases aPn neg (nv m) e <;> rfl
 have h2 : cK neg m e = some (aKl neg (nv m) e) := by
  unfold cK aKl
  rw [h1]
  simp only [Option.bind_some]
  cases aPn neg (nv m) e <;> rfl
 unfold bL
 rw [h2]
 exact aA rfl rfl
end Nu
end Go.Proofs
namespace Go.Proofs
open Go.Vc
set_option maxRecDepth 20000
namespace Nu
theorem aDX {b : Bool} {e : Int} (h : b = true) : gF b e = some (.inl ()) := by rw [h]; rfl
theorem zH {b : Bool} {e : Int} (h : b = false) : gF b e = some (.inr (e, ())) := by rw [h]; rfl
def aPp (p : Int) (l : List Dy) : Unit ⊕ (Int × Unit) := if 1 ≤ p ∧ p ≤ 2000 ∧ l.all kR = true then .inl () else .inr (1, ())
theorem aUL (p : Int) (l : List Dy) (hl : l.length ≤ 9223372036854775807) : pU p l = some (aPp p l) := by
 have key : cE (fun d : Int => iX l d) 0 = some (if l.all kR = true then (.inl () : Unit ⊕ (Int × Unit)) else .inr (1, ())) := by
  have := fN (step := fun d : Int => iX l d) (I := fun i => 0 ≤ i ∧ i ≤ l.length) (fun i => (l.length - i).toNat) (fun i => if (l.drop i.toNat).all kR = true then (.inl () : Unit ⊕ (Int × Unit)) else .inr (1, ())) ?_ 0 ⟨by omega, by omega⟩
  ·have e : l.drop ((0 : Int).toNat) = l := rfl
   rw [e] at this
   exact this
  ·rintro i ⟨i0, i1⟩
   show (∃ d', iX l i = _ ∧ _) ∨ iX l i = _
   unfold iX
   by_cases hi : i < l.length
   ·have hk : i.toNat < l.length := by omega
    have hd : l.drop i.toNat = l.getD i.toNat d0 :: l.drop (i.toNat + 1) := by
     rw [List.drop_eq_getElem_cons hk, List.getD_eq_getElem?_getD, List.getElem?_eq_getElem hk]; rfl
    by_cases hm : kR (l.getD i.toNat d0) = true
    ·left
     refine ⟨i + 1, ?_, ⟨by omega, by omega⟩, by omega, ?_⟩
     ·rw [if_pos hi]
      refine aA (by constructor <;> omega) (aA (by rw [aBQ]; rfl) ?_)
      rw [aBQ]
      refine aX (aDX hm) ?_
      exact aA (by constructor <;> omega) rfl
     ·rw [hd, List.all_cons, hm, Bool.true_and, show (i + 1).toNat = i.toNat + 1 from by omega]
    ·right
     rw [if_pos hi]
     refine aA (by constructor <;> omega) (aA (by rw [aBQ]; rfl) ?_)
     rw [aBQ]
     refine aX (zH ((Bool.not_eq_true _).mp hm)) ?_
     rw [hd, List.all_cons]
     have : kR (l.getD i.toNat d0) = false := (Bool.not_eq_true _).mp hm
     rw [this]
     rfl
   ·right
    rw [if_neg hi, List.drop_eq_nil_of_le (by omega)]
    rfl
 unfold pU aPp
 by_cases h1 : 1 ≤ p
 ·rw [if_pos h1]
  by_cases h2 : p ≤ 2000
  ·refine aX (aDX (by simp; omega)) ?_
   unfold nN
   rw [key]
   by_cases h3 : l.all kR = true
   ·rw [if_pos h3, if_pos ⟨h1, h2, h3⟩]; rfl
   ·rw [if_neg h3, if_neg (fun h => h3 h.2.2)]; rfl
  ·refine aX (zH (by simp; omega)) ?_
   rw [if_neg (fun h => h2 h.2.1)]
 ·rw [if_neg h1]
  refine aX (zH rfl) ?_
  rw [if_neg (fun h => h1 h.1)]
def aPq (neg : Bool) (m : Nat) (e : Int) (rest : Bool) (p : Int) (up : Bool) : Dy ⊕ (Int × Unit) :=
 let n := (bl m : Int) - p
 let m1 := if 0 < n then m / 2 ^ n.toNat else m
 let e1 := if 0 < n then e + n else e
 let r1 := if 0 < n then rest || decide (m % 2 ^ n.toNat ≠ 0) else rest
 let m2 := if r1 = true ∧ (up != neg) = true then m1 + 1 else m1
 match aKl neg m2 e1 with
 | (d, f, _) => if f = 0 then .inl d else .inr (f, ())
theorem aQA {m n : Nat} (h : m ≠ 0) : tzn m < n ↔ m % 2 ^ n ≠ 0 := by
 obtain ⟨q, hq⟩ := wE h
 constructor
 ·intro hlt h0
  obtain ⟨k, hk⟩ := Nat.dvd_of_mod_eq_zero h0
  rw [hq, show n = tzn m + (n - tzn m) from by omega, Nat.pow_add, Nat.mul_assoc] at hk
  have h2 := Nat.eq_of_mul_eq_mul_left (Nat.two_pow_pos _) hk
  rw [show n - tzn m = (n - tzn m - 1) + 1 from by omega, Nat.pow_succ, Nat.mul_comm (2 ^ (n - tzn m - 1)) 2, Nat.mul_assoc] at h2
  omega
 ·intro h0
  rcases Nat.lt_or_ge (tzn m) n with hlt | hge
  ·exact hlt
  ·exfalso
   apply h0
   rw [hq, show tzn m = n + (tzn m - n) from by omega, Nat.pow_add, Nat.mul_assoc]
   exact Nat.mul_mod_right _ _
theorem aUM (x : Nat) : (lb (x + 1)).length ≤ (lb x).length + 1 :=
 lC.2 (Nat.lt_of_le_of_lt (lC.1 (Nat.le_refl (lb x).length)) (Nat.pow_lt_pow_right (by decide) (by omega)))
theorem aVy {x k : Nat} (a : List Nat) (la : Lm a) (h : x ≤ nv a) (hk : a.length ≤ k) : (lb x).length ≤ k :=
 Nat.le_trans (lC.2 (Nat.lt_of_le_of_lt h (gN la))) hk
theorem aWh (neg : Bool) (m : List Nat) (e : Int) (rest : Bool) (p : Int) (up : Bool) (lm : Lm m) (nm : Nrm m) (sm : m.length ≤ 549755813888) (hp : 1 ≤ p ∧ p ≤ 2000) (he : -1000000000000 ≤ e ∧ e ≤ 1000000000000) :
  pV neg m e rest p up = some (aPq neg (nv m) e rest p up) := by
 have hb : aW m = (bl (nv m) : Int) := rfl
 have hbl : bl (nv m) ≤ 64 * m.length := by
  refine sX ?_
  rw [← nH]; exact gN lm
 have j2 : ∀ (x : Nat) (e' : Int), (lb x).length ≤ 1099511627776 → lE neg e' (lb x) = some (match aKl neg x e' with | (d, f, _) => if f = 0 then .inl d else .inr (f, ())) := by
  intro x e' hx
  unfold lE
  rw [aPo neg (lb x) e' (aAE x) (tS x) hx, eZ]
  refine aA rfl ?_
  simp only [Option.getD_some]
  rcases aKl neg x e' with ⟨d, f, u⟩
  by_cases hf : f = 0
  ·refine aX (aDX (by simpa using hf)) ?_
   simp only; rw [if_pos hf]
  ·refine aX (zH (by simpa using hf)) ?_
   simp only; rw [if_neg hf]
 have j1 : ∀ (x : Nat) (e' : Int) (r : Bool), (lb x).length ≤ 549755813888 → lF up neg (lb x) e' r = some (match aKl neg (if r = true ∧ (up != neg) = true then x + 1 else x) e' with | (d, f, _) => if f = 0 then .inl d else .inr (f, ())) := by
  intro x e' r hx
  unfold lF
  by_cases h : r = true ∧ (up != neg) = true
  ·rw [if_pos h, if_pos h]
   refine aA ⟨by show (lb x).length ≤ _; omega, by show (1 : Nat) ≤ _; decide⟩ ?_
   have : fF (lb x) [1] = lb (x + 1) := by
    unfold fF; rw [eZ]; rfl
   rw [this]
   refine j2 _ _ ?_
   have := aUM x
   omega
  ·rw [if_neg h, if_neg h]
   exact j2 _ _ (by omega)
 unfold pV aPq
 rw [hb]
 refine aA ⟨nm, by show m.length ≤ _; omega⟩ (aA (by constructor <;> omega) ?_)
 by_cases hn : 0 < (bl (nv m) : Int) - p
 ·have h0 : nv m ≠ 0 := by
   intro h; rw [h] at hn
   have : bl 0 = 0 := rfl
   omega
  have hz : bQ m = (tzn (nv m) : Int) := by unfold bQ; rw [if_neg h0]
  have hd : decide ((tzn (nv m) : Int) < (bl (nv m) : Int) - p) = decide (nv m % 2 ^ ((bl (nv m) : Int) - p).toNat ≠ 0) := by
   have := aQA (n := ((bl (nv m) : Int) - p).toNat) h0
   refine decide_eq_decide.2 (Iff.trans ?_ this)
   omega
  simp only [if_pos hn]
  rw [hz, hd]
  refine aA (fun _ => by show m.length ≤ _; omega) (aA ⟨by show m.length ≤ _; omega, by omega⟩ (aA (by constructor <;> omega) ?_))
  unfold cF
  refine j1 _ _ _ ?_
  exact aVy m lm (Nat.div_le_self _ _) sm
 ·simp only [if_neg hn]
  have := j1 (nv m) e rest (by rw [aQp lm nm]; exact sm)
  rw [aQp lm nm] at this
  exact this
def aI9 (a b : Dy) (p : Int) (up : Bool) : Dy ⊕ (Int × Unit) :=
 match aPp p [a, b] with
 | .inr e => .inr e
 | .inl _ => if b.2.1.length = 0 then .inr (4, ()) else
  let k := max 0 (p + 1 + (bl (nv b.2.1) : Int) - (bl (nv a.2.1) : Int))
  aPq (a.1 != b.1) (nv a.2.1 * 2 ^ k.toNat / nv b.2.1) (a.2.2.1 - b.2.2.1 - k) (decide (nv a.2.1 * 2 ^ k.toNat % nv b.2.1 ≠ 0)) p up
theorem vH {d : Dy} (h : kR d = true) : d.2.1.length ≤ 64 ∧ Nrm d.2.1 ∧ -1048576 ≤ d.2.2.1 ∧ d.2.2.1 ≤ 1048576 := by
 unfold kR at h
 split at h
 ·rename_i h0
  have : d.2.1 = [] := List.eq_nil_of_length_eq_zero h0
  simp at h
  rw [this, h.2]
  exact ⟨by decide, aLD, by decide, by decide⟩
 ·simp at h
  exact ⟨h.1.1.1.1, h.1.1.1.2, h.1.2, h.2⟩
theorem aUN (a b : Dy) (p : Int) (up : Bool) (la : Lm a.2.1) (lb' : Lm b.2.1) : dV a b p up = some (told d0 (aI9 a b p up)) := by
 have h1 : lG p a b up = some (aI9 a b p up) := by
  unfold lG aI9
  rw [aUL p [a, b] (by simp)]
  simp only [Option.bind_some]
  cases hm : aPp p [a, b] with
  | inr e => rfl
  | inl u =>
   unfold aPp at hm
   split at hm
   ·rename_i hh
    obtain ⟨p1, p2, p3⟩ := hh
    simp only [List.all_cons, List.all_nil, Bool.and_true, Bool.and_eq_true] at p3
    obtain ⟨a1, a2, a3, a4⟩ := vH p3.1
    obtain ⟨b1, b2, b3, b4⟩ := vH p3.2
    simp only
    by_cases hb : b.2.1.length = 0
    ·rw [if_pos hb]
     refine aX (zH (decide_eq_false (by omega))) rfl
    ·rw [if_neg hb]
     have hb0 : nv b.2.1 ≠ 0 := by have := aBY b2 (fun e => hb (by rw [e]; rfl)); omega
     have hba : bl (nv a.2.1) ≤ 64 * a.2.1.length := sX (by rw [← nH]; exact gN la)
     have hbb : bl (nv b.2.1) ≤ 64 * b.2.1.length := sX (by rw [← nH]; exact gN lb')
     have e1 : aW a.2.1 = (bl (nv a.2.1) : Int) := rfl
     have e2 : aW b.2.1 = (bl (nv b.2.1) : Int) := rfl
     rw [e1, e2]
     have hk : ∃ k : Nat, max (0 : Int) (p + 1 + (bl (nv b.2.1) : Int) - (bl (nv a.2.1) : Int)) = (k : Int) ∧ k ≤ 6200 := ⟨(max (0 : Int) (p + 1 + (bl (nv b.2.1) : Int) - (bl (nv a.2.1) : Int))).toNat, by omega, by omega⟩
     obtain ⟨k, hk, hk2⟩ := hk
     rw [hk]
     have hA : nv a.2.1 * 2 ^ k < 18446744073709551616 ^ 200 := by
      have h1 := gN la
      rw [nH] at h1
      have h4 := Nat.mul_lt_mul_of_pos_right h1 (Nat.two_pow_pos k)
      rw [← Nat.pow_add] at h4
      exact aOb _ h4 (by omega)
     have hL : bF a.2.1 (k : Int) = lb (nv a.2.1 * 2 ^ k) := by unfold bF; rw [Int.toNat_natCast]
     rw [hL]
     have hLl : (lb (nv a.2.1 * 2 ^ k)).length ≤ 200 := lC.2 hA
     refine aX (aDX (decide_eq_true (by omega))) ?_
     refine aA (by constructor <;> omega) (aA ⟨b2, by show b.2.1.length ≤ _; omega⟩ (aA (by constructor <;> omega) (aA ⟨a2, by show a.2.1.length ≤ _; omega⟩ (aA (by constructor <;> omega) (aA ⟨by show a.2.1.length ≤ _; omega, by omega, by omega⟩ (aA ⟨tS _, b2, hb0, by omega⟩ (aA (by constructor <;> omega) (aA (by constructor <;> omega) ?_))))))))
     have hq : (bD (lb (nv a.2.1 * 2 ^ k)) b.2.1).1 = lb (nv a.2.1 * 2 ^ k / nv b.2.1) := by unfold bD; rw [eZ]
     have hr : decide ((0 : Int) < (((bD (lb (nv a.2.1 * 2 ^ k)) b.2.1).2.1.length : Nat) : Int)) = decide (nv a.2.1 * 2 ^ k % nv b.2.1 ≠ 0) := by
      refine decide_eq_decide.2 ?_
      unfold bD
      rw [eZ]
      simp only
      constructor
      ·intro h e; rw [wA.2 e] at h; simp at h
      ·intro h
       have := List.length_pos_iff.2 (fun e => h (wA.1 e))
       omega
     rw [hq, hr]
     rw [aWh _ _ _ _ p up (aAE _) (tS _) (by have := lC.2 (Nat.lt_of_le_of_lt (Nat.div_le_self (nv a.2.1 * 2 ^ k) (nv b.2.1)) hA); omega) ⟨p1, p2⟩ (by constructor <;> omega), eZ]
     simp only [Option.bind_some, Int.toNat_natCast]
     cases aPq (a.1 != b.1) (nv a.2.1 * 2 ^ k / nv b.2.1) (a.2.2.1 - b.2.2.1 - (k : Int)) (decide (nv a.2.1 * 2 ^ k % nv b.2.1 ≠ 0)) p up <;> rfl
   ·cases hm
 have h2 : cD p a b up = some (told d0 (aI9 a b p up)) := by
  unfold cD
  rw [h1]
  simp only [Option.bind_some]
  cases aI9 a b p up <;> rfl
 unfold dV
 rw [h2]
 exact aA rfl rfl
end Nu
end Go.Proofs
namespace Go.Proofs
open Go.Vc
set_option maxRecDepth 20000
namespace Nu
def rq (A B k : Nat) : Nat := A * 2 ^ k / B
def rn (A B p k : Nat) : Nat := bl (rq A B k) - p
def rM (A B p k : Nat) : Nat := rq A B k / 2 ^ rn A B p k
def rE (A B p k : Nat) : Int := (rn A B p k : Int) - (k : Int)
def rS (A B p k : Nat) : Bool := decide (A * 2 ^ k % (B * 2 ^ rn A B p k) ≠ 0)
theorem aQB (A B k d : Nat) : rq A B (k + d) / 2 ^ d = rq A B k := by
 unfold rq
 rw [Nat.div_div_eq_div_mul, Nat.pow_add, ← Nat.mul_assoc, Nat.mul_div_mul_right _ _ (Nat.two_pow_pos d)]
theorem aWi {x d : Nat} (h : x / 2 ^ d ≠ 0) : bl x = bl (x / 2 ^ d) + d := by
 have e := Nat.div_add_mod x (2 ^ d)
 have m := Nat.mod_lt x (Nat.two_pow_pos d)
 have := aLH (x := x / 2 ^ d) (m := x % 2 ^ d) (k := d) h m
 rw [Nat.add_comm] at e
 rw [e] at this
 omega
theorem aTn {A B p k d : Nat} (hp : 1 ≤ p) (h : 2 ^ p ≤ rq A B k) : rM A B p (k + d) = rM A B p k ∧ rE A B p (k + d) = rE A B p k ∧ rS A B p (k + d) = rS A B p k := by
 have hq := aQB A B k d
 have hpos := Nat.two_pow_pos p
 have hb := aWi (x := rq A B (k + d)) (d := d) (by rw [hq]; omega)
 rw [hq] at hb
 have hge : p + 1 ≤ bl (rq A B k) := by
  rcases Nat.lt_or_ge (bl (rq A B k)) (p + 1) with hlt | hge
  ·have h1 := aCf (rq A B k)
   have h2 : 2 ^ bl (rq A B k) ≤ 2 ^ p := Nat.pow_le_pow_right (by decide) (by omega)
   omega
  ·exact hge
 have hn : rn A B p (k + d) = rn A B p k + d := by unfold rn; omega
 refine ⟨?_, ?_, ?_⟩
 ·unfold rM
  rw [hn, Nat.add_comm (rn A B p k) d, Nat.pow_add, ← Nat.div_div_eq_div_mul, hq]
 ·unfold rE; rw [hn]; omega
 ·unfold rS
  rw [hn, Nat.pow_add, Nat.pow_add, ← Nat.mul_assoc, ← Nat.mul_assoc, Nat.mul_mod_mul_right]
  refine decide_eq_decide.2 ?_
  have := Nat.two_pow_pos d
  constructor
  ·intro h1 h2; apply h1; rw [h2, Nat.zero_mul]
  ·intro h1 h2
   rcases Nat.mul_eq_zero.1 h2 with h3 | h3
   ·exact h1 h3
   ·omega
theorem aTo {A B p k : Nat} (hA : A ≠ 0) (hB : B ≠ 0) (h : p + bl B ≤ bl A - 1 + k) : 2 ^ p ≤ rq A B k := by
 unfold rq
 refine (Nat.le_div_iff_mul_le (by omega)).2 ?_
 have h1 := aLE hA
 have h2 := aCf B
 calc 2 ^ p * B ≤ 2 ^ p * 2 ^ bl B := Nat.mul_le_mul_left _ (Nat.le_of_lt h2)
  _ = 2 ^ (p + bl B) := (Nat.pow_add _ _ _).symm
  _ ≤ 2 ^ (bl A - 1 + k) := Nat.pow_le_pow_right (by decide) h
  _ = 2 ^ (bl A - 1) * 2 ^ k := Nat.pow_add _ _ _
  _ ≤ A * 2 ^ k := Nat.mul_le_mul_right _ h1
theorem aWj {A B p k k' : Nat} (hp : 1 ≤ p) (h : 2 ^ p ≤ rq A B k) (h' : 2 ^ p ≤ rq A B k') : rM A B p k = rM A B p k' ∧ rE A B p k = rE A B p k' ∧ rS A B p k = rS A B p k' := by
 obtain ⟨a1, a2, a3⟩ := aTn (d := k') hp h
 obtain ⟨b1, b2, b3⟩ := aTn (d := k) hp h'
 rw [Nat.add_comm k' k] at b1 b2 b3
 exact ⟨a1.symm.trans b1, a2.symm.trans b2, a3.symm.trans b3⟩
def rm2 (A B p k : Nat) (up : Bool) : Nat := if rS A B p k = true ∧ up = true then rM A B p k + 1 else rM A B p k
theorem aWU {A B p k : Nat} {e : Int} {up : Bool} (hp : 1 ≤ p) (h : 2 ^ p ≤ rq A B k) :
  aPq false (rq A B k) (e - (k : Int)) (decide (A * 2 ^ k % B ≠ 0)) (p : Int) up = match aKl false (rm2 A B p k up) (e + rE A B p k) with | (d, f, _) => if f = 0 then .inl d else .inr (f, ()) := by
 have hge : p + 1 ≤ bl (rq A B k) := by
  rcases Nat.lt_or_ge (bl (rq A B k)) (p + 1) with hlt | hge
  ·have h1 := aCf (rq A B k)
   have h2 : 2 ^ bl (rq A B k) ≤ 2 ^ p := Nat.pow_le_pow_right (by decide) (by omega)
   omega
  ·exact hge
 have hn : ((bl (rq A B k) : Int) - (p : Int)).toNat = rn A B p k := by unfold rn; omega
 have hS : (decide (A * 2 ^ k % B ≠ 0) || decide (rq A B k % 2 ^ rn A B p k ≠ 0)) = rS A B p k := by
  unfold rS
  rw [Nat.mod_mul, ← Bool.decide_or]
  refine decide_eq_decide.2 ?_
  unfold rq
  have hB : 0 < B := by
   rcases Nat.eq_zero_or_pos B with h0 | h0
   ·unfold rq at h; rw [h0, Nat.div_zero] at h; have := Nat.two_pow_pos p; omega
   ·exact h0
  constructor
  ·rintro (h1 | h1) h2
   ·exact h1 (by omega)
   ·apply h1
    have := Nat.mul_eq_zero.1 (show B * (A * 2 ^ k / B % 2 ^ rn A B p k) = 0 by omega)
    omega
  ·intro h1
   by_cases h2 : A * 2 ^ k % B = 0
   ·right; intro h3; apply h1; rw [h2, h3]; rfl
   ·exact .inl h2
 have hp0 : 0 < (bl (rq A B k) : Int) - (p : Int) := by omega
 unfold aPq
 simp only [hn, hp0, if_true, hS]
 have e1 : e - (k : Int) + ((bl (rq A B k) : Int) - (p : Int)) = e + rE A B p k := by unfold rE rn; omega
 rw [e1]
 have e2 : (up != false) = up := by cases up <;> rfl
 simp only [e2]
 rfl
end Nu
end Go.Proofs
namespace Go.Proofs
open Go.Vc
set_option maxRecDepth 20000
namespace Nu
def iA (M : Nat) (e : Int) : Dy := if M = 0 then d0 else (false, lb (M / 2 ^ tzn M), e + (tzn M : Int), ())
theorem aMn {M K : Nat} (h0 : M ≠ 0) (h : M < 2 ^ K) : tzn M < K := by
 obtain ⟨q, hq⟩ := wE h0
 refine (Nat.pow_lt_pow_iff_right (show 1 < 2 by decide)).1 (Nat.lt_of_le_of_lt ?_ h)
 rw [hq, aBl rfl]
 exact Nat.le_mul_of_pos_right _ (by omega)
theorem aMo {M K : Nat} {e : Int} (hM : M < 2 ^ K) (hK : K ≤ 4096) (he : -1000000 ≤ e ∧ e ≤ 1000000) : aKl false M e = (iA M e, 0, ()) := by
 unfold aKl aPn iA
 by_cases h0 : M = 0
 ·rw [if_pos h0, if_pos h0]; rfl
 ·have hz := aMn h0 hM
  have hl : (lb (M / 2 ^ tzn M)).length ≤ 64 := by
   exact lC.2 (aOb 64 (Nat.lt_of_le_of_lt (Nat.div_le_self _ _) hM) (by omega))
  rw [if_neg h0, if_neg h0, if_neg (by omega), if_neg (by omega), if_neg (by omega)]
  rfl
theorem aCQ {M : Nat} (h0 : M ≠ 0) : M / 2 ^ tzn M * 2 ^ tzn M = M ∧ M / 2 ^ tzn M % 2 = 1 := by
 obtain ⟨q, hq⟩ := wE h0
 have h1 : M / 2 ^ tzn M = 2 * q + 1 := by
  have := Nat.mul_div_cancel_left (2 * q + 1) (Nat.two_pow_pos (tzn M))
  rw [← hq] at this
  exact this
 rw [h1]
 exact ⟨by rw [Nat.mul_comm]; exact hq.symm, by omega⟩
theorem aOc {M K : Nat} {e : Int} (hM : M < 2 ^ K) (hK : K ≤ 4096) (he : -1000000 ≤ e ∧ e ≤ 1000000) : kR (iA M e) = true := by
 unfold iA
 by_cases h0 : M = 0
 ·rw [if_pos h0]; rfl
 ·have hz := aMn h0 hM
  obtain ⟨p1, p2⟩ := aCQ h0
  have hne : M / 2 ^ tzn M ≠ 0 := by omega
  have hl : (lb (M / 2 ^ tzn M)).length ≤ 64 := by
   exact lC.2 (aOb 64 (Nat.lt_of_le_of_lt (Nat.div_le_self _ _) hM) (by omega))
  have hlp : (lb (M / 2 ^ tzn M)).length ≠ 0 := fun h => hne (wA.1 (List.eq_nil_of_length_eq_zero h))
  have hg : (lb (M / 2 ^ tzn M)).getD 0 0 % 2 = 1 := by
   rw [nB (aAE _), eZ, Nat.pow_zero, Nat.div_one]
   omega
  rw [if_neg h0]
  unfold kR
  simp only
  rw [if_neg hlp]
  simp only [Bool.and_eq_true, decide_eq_true_iff]
  exact ⟨⟨⟨⟨hl, tS _⟩, hg⟩, by omega⟩, by omega⟩
theorem aWV {A B p k : Nat} : rM A B p k < 2 ^ p := by
 unfold rM rn
 refine (Nat.div_lt_iff_lt_mul (Nat.two_pow_pos _)).2 ?_
 rw [← Nat.pow_add]
 exact Nat.lt_of_lt_of_le (aCf _) (Nat.pow_le_pow_right (by decide) (by omega))
theorem aWk {A B p k : Nat} {up : Bool} : rm2 A B p k up < 2 ^ (p + 1) := by
 have := aWV (A := A) (B := B) (p := p) (k := k)
 have h2 : 2 ^ (p + 1) = 2 ^ p * 2 := Nat.pow_succ ..
 have h3 := Nat.two_pow_pos p
 unfold rm2
 split <;> omega
theorem aPr {x k : Nat} (h : x ≠ 0) : bl (x * 2 ^ k) = bl x + k := by
 have := aLH (x := x) (m := 0) (k := k) h (Nat.two_pow_pos k)
 rw [Nat.zero_add, Nat.mul_comm] at this
 omega
theorem aUO {x y : Nat} (h : x ≤ y) : bl x ≤ bl y := sX (Nat.lt_of_le_of_lt h (aCf y))
theorem aTp {A B p k : Nat} (hA : A ≠ 0) : -(k : Int) ≤ rE A B p k ∧ rE A B p k ≤ bl A := by
 have h1 : bl (rq A B k) ≤ bl A + k := by
  rw [← aPr hA]
  exact aUO (Nat.div_le_self _ _)
 unfold rE rn
 constructor <;> omega
theorem aWW {A B A' B' p k za zb : Nat} (hp : 1 ≤ p) (hA : A = A' * 2 ^ za) (hB : B = B' * 2 ^ zb) (h : 2 ^ p ≤ rq A B k) :
  2 ^ p ≤ rq A' B' (za + k) ∧ rM A' B' p (za + k) = rM A B p k ∧ rE A' B' p (za + k) + za - zb = rE A B p k ∧ rS A' B' p (za + k) = rS A B p k := by
 obtain ⟨a1, a2, a3⟩ := aTn (d := zb) hp h
 have hz := Nat.two_pow_pos zb
 have e1 : rq A B (k + zb) = rq A' B' (za + k) := by
  unfold rq
  rw [hA, hB, Nat.mul_assoc, ← Nat.pow_add, ← Nat.add_assoc, Nat.pow_add 2 (za + k), ← Nat.mul_assoc, Nat.mul_div_mul_right _ _ hz]
 have e2 : rn A B p (k + zb) = rn A' B' p (za + k) := by unfold rn; rw [e1]
 refine ⟨?_, ?_, ?_, ?_⟩
 ·rw [← e1]
  have h1 := aQB A B k zb
  have h2 := Nat.div_le_self (rq A B (k + zb)) (2 ^ zb)
  omega
 ·rw [← a1]; unfold rM; rw [e1, e2]
 ·rw [← a2]; unfold rE; rw [e2]; omega
 ·rw [← a3]; unfold rS
  rw [e2, hA, hB, Nat.mul_assoc A', ← Nat.pow_add, ← Nat.add_assoc, Nat.pow_add 2 (za + k), ← Nat.mul_assoc, Nat.mul_right_comm B', Nat.mul_mod_mul_right]
  refine decide_eq_decide.2 ?_
  constructor
  ·intro h1 h2
   rcases Nat.mul_eq_zero.1 h2 with h3 | h3
   ·exact h1 h3
   ·omega
  ·intro h1 h2; apply h1; rw [h2, Nat.zero_mul]
end Nu
end Go.Proofs
namespace Go.Proofs
open Go.Vc
set_option maxRecDepth 20000
namespace Nu
def tM (c : Nat) : Bool := decide (48 ≤ c ∧ c ≤ 57)
def cL (s : List Nat) (i : Nat) : Nat := ((s.drop i).takeWhile tM).length
theorem aVz {p : Nat → Bool} : ∀ (l : List Nat) (n : Nat), n ≤ (l.takeWhile p).length → (n < (l.takeWhile p).length ↔ n < l.length ∧ p (l.getD n 0) = true)
 | [], n, h => by simp
 | x :: r, n, h => by
  by_cases hp : p x = true
  ·rw [List.takeWhile_cons_of_pos hp] at h ⊢
   cases n with
   | zero => simp [hp]
   | succ n =>
    have := aVz (p := p) r n (by simpa using h)
    simpa using this
  ·rw [List.takeWhile_cons_of_neg hp] at h ⊢
   have : n = 0 := by simpa using h
   subst this
   simp [hp]
theorem aAz (s : List Nat) (i : Nat) : cL s i ≤ s.length - i := by
 have := (List.takeWhile_prefix (p := tM) (l := s.drop i)).length_le
 rw [List.length_drop] at this
 exact this
theorem aB1 (s : List Nat) (i : Nat) (hs : s.length ≤ 4611686018427387904) (hi : i ≤ 4611686018427387904) : aD s (i : Int) = some (cL s i : Int) := by
 have hd := aAz s i
 unfold aD
 refine aX (fN (step := fun d : Int => gY (i : Int) s d) (I := fun n => 0 ≤ n ∧ n ≤ cL s i) (fun n => ((cL s i : Int) - n).toNat) (fun _ => (cL s i : Int)) ?_ 0 ⟨by omega, by omega⟩) rfl
 rintro n ⟨n0, n1⟩
 obtain ⟨k, rfl⟩ := Int.eq_ofNat_of_zero_le n0
 show (∃ d', gY (i : Int) s k = _ ∧ _) ∨ gY (i : Int) s k = _
 have e : ((i : Int) + (k : Int)).toNat = i + k := by omega
 have hx : s.getD (i + k) 0 = (s.drop i).getD k 0 := by simp [List.getD_eq_getElem?_getD, List.getElem?_drop]
 have ht := aVz (p := tM) (s.drop i) k (by show k ≤ cL s i; omega)
 have ht : k < cL s i ↔ i + k < s.length ∧ 48 ≤ s.getD (i + k) 0 ∧ s.getD (i + k) 0 ≤ 57 := by
  rw [hx]
  refine ht.trans ?_
  rw [List.length_drop, tM, decide_eq_true_iff]
  constructor
  ·rintro ⟨h1, h2⟩; exact ⟨by omega, h2⟩
  ·rintro ⟨h1, h2⟩; exact ⟨by omega, h2⟩
 unfold gY
 rw [e]
 by_cases hk : k < cL s i
 ·left
  obtain ⟨h1, h2, h3⟩ := ht.1 hk
  refine ⟨(k : Int) + 1, ?_, ⟨by omega, by omega⟩, by omega, rfl⟩
  refine aA (by constructor <;> omega) (aA (fun _ => by constructor <;> omega) (aA (fun _ => by constructor <;> omega) (aA (fun _ => by constructor <;> omega) (aA (fun _ => by constructor <;> omega) ?_))))
  rw [if_pos ⟨⟨by omega, h2⟩, h3⟩]
  exact aA (by constructor <;> omega) rfl
 ·right
  refine aA (by constructor <;> omega) (aA (fun _ => by constructor <;> omega) (aA (fun _ => by constructor <;> omega) (aA (fun _ => by constructor <;> omega) (aA (fun _ => by constructor <;> omega) ?_))))
  rw [if_neg (fun h => hk (ht.2 ⟨by omega, h.1.2, h.2⟩)), show (k : Int) = (cL s i : Int) from by omega]
theorem aPs {b i : Nat} (h : b < 18446744073709551616) : (lb (b ^ i)).length ≤ i + 1 :=
 lC.2 (Nat.lt_of_le_of_lt (Nat.pow_le_pow_left (Nat.le_of_lt h) i) (Nat.pow_lt_pow_right (by decide) (by omega)))
theorem aBR (b n : Nat) (hb : b < 18446744073709551616) (hn : n ≤ 100000) : bB b (n : Int) = some (lb (b ^ n)) := by
 unfold bB
 refine aX (fN (step := fun d : (List Nat) × Int => iZ (n : Int) b d.1 d.2) (I := fun d => 0 ≤ d.2 ∧ d.2 ≤ n ∧ d.1 = lb (b ^ d.2.toNat)) (fun d => ((n : Int) - d.2).toNat) (fun _ => lb (b ^ n)) ?_ ([1], 0) ⟨by simp, by simp, ?_⟩) rfl
 ·rintro ⟨m, i⟩ ⟨i0, i1, i2⟩
  have i2 : m = lb (b ^ i.toNat) := i2
  have i0 : 0 ≤ i := i0
  have i1 : i ≤ n := i1
  show (∃ d', iZ (n : Int) b m i = _ ∧ _) ∨ iZ (n : Int) b m i = _
  unfold iZ
  have hl := aPs (i := i.toNat) hb
  by_cases hi : i < n
  ·left
   have ht : bA m [b] = lb (b ^ (i + 1).toNat) := by
    unfold bA
    rw [i2, eZ, show (i + 1).toNat = i.toNat + 1 from by omega, Nat.pow_succ]
    rfl
   refine ⟨(lb (b ^ (i + 1).toNat), i + 1), ?_, ⟨by simp only; omega, by simp only; omega, rfl⟩, by simp only; omega, rfl⟩
   rw [if_pos hi]
   refine aA ⟨by show m.length ≤ _; rw [i2]; omega, by show (1 : Nat) ≤ _; decide⟩ (aA (by constructor <;> omega) ?_)
   rw [ht]
  ·right
   rw [if_neg hi, i2, show i.toNat = n from by omega]
 ·show [1] = lb (b ^ 0)
  rw [Nat.pow_zero, aBi (by decide)]
  rw [show 1 / 18446744073709551616 = 0 from by decide, gB]
theorem aWX {a b : Nat} (ha : a < 256) (hb : b ≤ a) : iO .u8 a b = a - b := by
 have hm : eJ .u8 = 256 := by decide +kernel
 rw [aCX, hm, show a + (256 - b) = (a - b) + 256 from by omega, Nat.add_mod_right, Nat.mod_eq_of_lt (by omega)]
def mK (s : List Nat) : Nat := s.foldl (fun m c => m * 10 + (c - 48)) 0
theorem aKZ (s : List Nat) (c : Nat) : mK (s ++ [c]) = mK s * 10 + (c - 48) := by simp [mK]
theorem aK0 : ∀ (s : List Nat) (m : Nat), (∀ c ∈ s, tM c = true) → s.foldl (fun m c => m * 10 + (c - 48)) m < (m + 1) * 10 ^ s.length
 | [], m, _ => by simp
 | x :: r, m, h => by
  have hx := h x (by simp)
  simp only [tM, decide_eq_true_iff] at hx
  have ih := aK0 r (m * 10 + (x - 48)) (fun c hc => h c (by simp [hc]))
  rw [List.foldl_cons, List.length_cons, Nat.pow_succ, Nat.mul_comm (10 ^ r.length) 10, ← Nat.mul_assoc]
  exact Nat.lt_of_lt_of_le ih (Nat.mul_le_mul_right _ (by omega))
theorem aB2 {s : List Nat} (h : ∀ c ∈ s, tM c = true) : mK s < 10 ^ s.length := by
 have := aK0 s 0 h
 rw [Nat.zero_add, Nat.one_mul] at this
 exact this
theorem aK1 (s : List Nat) (hd : ∀ c ∈ s, tM c = true) (hs : s.length ≤ 100000) : dC s = some (lb (mK s)) := by
 unfold dC
 refine aX (fN (step := fun d : (List Nat) × Int => gZ s d.1 d.2) (I := fun d => 0 ≤ d.2 ∧ d.2 ≤ s.length ∧ d.1 = lb (mK (s.take d.2.toNat))) (fun d => ((s.length : Int) - d.2).toNat) (fun _ => lb (mK s)) ?_ ([], 0) ⟨by simp, by simp, ?_⟩) rfl
 ·rintro ⟨m, i⟩ ⟨i0, i1, i2⟩
  have i2 : m = lb (mK (s.take i.toNat)) := i2
  have i0 : 0 ≤ i := i0
  have i1 : i ≤ s.length := i1
  show (∃ d', gZ s m i = _ ∧ _) ∨ gZ s m i = _
  unfold gZ
  have hml : m.length ≤ 100001 := by
   rw [i2]
   have h1 := aB2 (s := s.take i.toNat) (fun c hc => hd c (List.mem_of_mem_take hc))
   have h2 : (s.take i.toNat).length ≤ 100000 := by rw [List.length_take]; omega
   have h3 := aPs (b := 10) (i := (s.take i.toNat).length) (by decide)
   have h4 := aVy (x := mK (s.take i.toNat)) (lb (10 ^ (s.take i.toNat).length)) (aAE _) (by rw [eZ]; omega) h3
   omega
  by_cases hi : i < s.length
  ·left
   have hk : i.toNat < s.length := by omega
   have hg : s.getD i.toNat 0 ∈ s := by rw [List.getD_eq_getElem?_getD, List.getElem?_eq_getElem hk]; exact List.getElem_mem hk
   have hc := hd _ hg
   simp only [tM, decide_eq_true_iff] at hc
   have hsub : iO .u8 (s.getD i.toNat 0) 48 = s.getD i.toNat 0 - 48 := aWX (by omega) hc.1
   have hN : sB [s.getD i.toNat 0 - 48] = lb (s.getD i.toNat 0 - 48) := by
    show lb (nv [s.getD i.toNat 0 - 48]) = _
    simp [nv]
   have ht : fF (bA m [10]) (lb (s.getD i.toNat 0 - 48)) = lb (mK (s.take (i + 1).toNat)) := by
    unfold fF bA
    rw [i2, eZ, eZ, eZ, show (i + 1).toNat = i.toNat + 1 from by omega, take_succ hk, aKZ]
    rfl
   have hT : (bA m [10]).length ≤ 100002 := by
    unfold bA
    refine Nat.le_trans (lC (k := m.length + 1).2 ?_) (by omega)
    rw [i2, eZ, Nat.pow_succ, ← i2]
    have h1 := gN (a := m) (by rw [i2]; exact aAE _)
    rw [i2, eZ, ← i2] at h1
    exact Nat.mul_lt_mul'' h1 (by decide)
   refine ⟨(lb (mK (s.take (i + 1).toNat)), i + 1), ?_, ⟨by simp only; omega, by simp only; omega, rfl⟩, by simp only; omega, rfl⟩
   rw [if_pos hi, hsub, hN, ht]
   refine aA (by constructor <;> omega) (aA ⟨by show m.length ≤ _; omega, by show (1 : Nat) ≤ _; decide⟩ (aA (by show (1 : Nat) ≤ _; decide) (aA ⟨by show (bA m [10]).length ≤ _; omega, ?_⟩ (aA (by constructor <;> omega) rfl))))
   show (lb (s.getD i.toNat 0 - 48)).length ≤ _
   have := lC (n := s.getD i.toNat 0 - 48) (k := 1).2 (by omega)
   omega
  ·right
   rw [if_neg hi, i2, List.take_of_length_le (by omega)]
 ·show [] = lb (mK [])
  rw [show mK [] = 0 from rfl, gB]
end Nu
end Go.Proofs
namespace Go.Proofs
open Go.Vc
set_option maxRecDepth 20000
namespace Nu
theorem aTq {k : Nat} (h : k ≤ 18) : 10 ^ k ≤ 1000000000000000000 := Nat.pow_le_pow_right (n := 10) (by decide) h
theorem aUP (s : List Nat) (hd : ∀ c ∈ s, tM c = true) (h0 : 0 < s.length) (h1 : s.length ≤ 18) : dD s = some ((mK s : Int), (), ()) := by
 have hget : ∀ k, k < s.length → 48 ≤ s.getD k 0 ∧ s.getD k 0 ≤ 57 := fun k hk => by
  have hg : s.getD k 0 ∈ s := by rw [List.getD_eq_getElem?_getD, List.getElem?_eq_getElem hk]; exact List.getElem_mem hk
  have := hd _ hg
  simpa only [tM, decide_eq_true_iff] using this
 have hlt : ∀ k, mK (s.take k) < 1000000000000000000 ∨ k > s.length := fun k => by
  rcases Nat.lt_or_ge s.length k with h | h
  ·exact .inr h
  ·left
   have a := aB2 (s := s.take k) (fun c hc => hd c (List.mem_of_mem_take hc))
   have b := aTq (k := (s.take k).length) (by rw [List.length_take]; omega)
   omega
 have key : eL s s = some ((mK s : Int), (), ()) := by
  unfold eL
  refine aX (fN (step := fun d : Int × Int => dZ s d.1 d.2) (I := fun d => 0 ≤ d.2 ∧ d.2 ≤ s.length ∧ d.1 = (mK (s.take d.2.toNat) : Int)) (fun d => ((s.length : Int) - d.2).toNat) (fun _ => .inl (mK s : Int)) ?_ (0, 0) ⟨by simp, by simp, by simp [mK]⟩) ?_
  ·rintro ⟨n, i⟩ ⟨i0, i1, i2⟩
   have i0 : 0 ≤ i := i0
   have i1 : i ≤ s.length := i1
   have i2 : n = (mK (s.take i.toNat) : Int) := i2
   show (∃ d', dZ s n i = _ ∧ _) ∨ dZ s n i = _
   unfold dZ
   by_cases hi : i < s.length
   ·left
    have hk : i.toNat < s.length := by omega
    obtain ⟨c1, c2⟩ := hget _ hk
    have hsub : iO .u8 (s.getD i.toNat 0) 48 = s.getD i.toNat 0 - 48 := aWX (by omega) c1
    have hb : mK (s.take (i.toNat + 1)) = mK (s.take i.toNat) * 10 + (s.getD i.toNat 0 - 48) := by rw [take_succ hk, aKZ]
    have hl := hlt (i.toNat + 1)
    refine ⟨((mK (s.take (i + 1).toNat) : Int), i + 1), ?_, ⟨by simp only; omega, by simp only; omega, rfl⟩, by simp only; omega, rfl⟩
    rw [if_pos hi, hsub, show (i + 1).toNat = i.toNat + 1 from by omega, hb]
    refine aA (by constructor <;> omega) ?_
    rw [if_neg (by omega), i2]
    refine aA (by constructor <;> omega) (aA (by constructor <;> omega) (aA (by constructor <;> omega) ?_))
    congr 3
   ·right
    rw [if_neg hi, i2, List.take_of_length_le (by omega)]
  ·unfold iY
   obtain ⟨c1, c2⟩ := hget 0 h0
   refine aA (by omega) ?_
   rw [if_neg (by omega)]
 have h2 : gX s = some ((mK s : Int), (), ()) := by
  unfold gX
  obtain ⟨c1, c2⟩ := hget 0 h0
  rw [if_pos (.inr ⟨trivial, by omega, by omega⟩)]
  refine aA (by omega) (aA (fun _ => by omega) ?_)
  rw [if_neg (by omega)]
  exact key
 unfold dD
 rw [h2]
 exact aA rfl rfl
theorem aJa (s : List Nat) (i : Nat) : ∀ c ∈ (s.drop i).take (cL s i), tM c = true := by
 intro c hc
 have h : (s.drop i).take (cL s i) = (s.drop i).takeWhile tM := by
  have := List.prefix_iff_eq_take.1 (List.takeWhile_prefix (p := tM) (l := s.drop i))
  exact this.symm
 rw [h] at hc
 exact List.all_eq_true.1 List.all_takeWhile c hc
abbrev aTr : Type := List Nat × Int × Bool × Unit
def litNo : aTr := ([], 0, false, ())
def pC (s : List Nat) (i : Nat) (c : Nat) : Prop := i < s.length ∧ s.getD i 0 = c
instance (s : List Nat) (i c : Nat) : Decidable (pC s i c) := inferInstanceAs (Decidable (_ ∧ _))
def aJb (s : List Nat) (i : Nat) (all : List Nat) (pow : Int) (neg : Bool) : aTr :=
 if cL s i < 1 ∨ 3 < cL s i then litNo
 else if 100 < mK ((s.drop i).take (cL s i)) then litNo
 else (all, pow + (if neg then -(mK ((s.drop i).take (cL s i)) : Int) else mK ((s.drop i).take (cL s i))), decide (i + cL s i = s.length), ())
def aRz (s : List Nat) (i : Nat) (all : List Nat) (pow : Int) : aTr :=
 if pC s i 101 then aJb s (if pC s (i + 1) 45 ∨ pC s (i + 1) 43 then i + 2 else i + 1) all pow (decide (pC s (i + 1) 45))
 else (all, pow, decide (i = s.length), ())
def eO (s : List Nat) : aTr :=
 if 60 < s.length ∨ cL s 0 = 0 then litNo
 else if pC s (cL s 0) 46 then
  if cL s (cL s 0 + 1) = 0 then litNo
  else aRz s (cL s 0 + 1 + cL s (cL s 0 + 1)) (s.take (cL s 0) ++ (s.drop (cL s 0 + 1)).take (cL s (cL s 0 + 1))) (-(cL s (cL s 0 + 1) : Int))
 else aRz s (cL s 0) (s.take (cL s 0)) 0
theorem aTs (s : List Nat) (i : Nat) : s.getD ((i : Int)).toNat 0 = s.getD i 0 := by rw [Int.toNat_natCast]
theorem aTt (s : List Nat) (k : Nat) (all : List Nat) (pow x : Int) (hs : s.length ≤ 60) (hk : k ≤ 100) (hp : -100 ≤ pow ∧ pow ≤ 100) (hx : -100 ≤ x ∧ x ≤ 100) : fT pow (k : Int) s all x = some (all, pow + x, decide (k + cL s k = s.length), ()) := by
 have hd := aAz s k
 unfold fT
 rw [aB1 s k (by omega) (by omega)]
 simp only [Option.getD_some]
 refine aA (by constructor <;> omega) (aA (by constructor <;> omega) ?_)
 unfold fS
 have : decide ((k : Int) + (cL s k : Int) = (s.length : Int)) = decide (k + cL s k = s.length) := decide_eq_decide.2 (by omega)
 rw [this]
theorem aTu (s : List Nat) (i k : Nat) (all : List Nat) (pow : Int) (hs : s.length ≤ 60) (hi : i ≤ 60) (hk : k ≤ 100) (hp : -100 ≤ pow ∧ pow ≤ 100) : fU s (i : Int) pow all (k : Int) = some (aJb s k all pow (decide (pC s (i + 1) 45))) := by
 have hd := aAz s k
 unfold fU aJb
 rw [aB1 s k (by omega) (by omega)]
 simp only [Option.getD_some]
 refine aA rfl ?_
 by_cases h1 : cL s k < 1 ∨ 3 < cL s k
 ·rw [if_pos (by omega), if_pos h1]; rfl
 ·rw [if_neg (by omega), if_neg h1]
  have ht : List.drop ((k : Int)).toNat (List.take ((k : Int) + (cL s k : Int)).toNat s) = (s.drop k).take (cL s k) := by
   rw [List.drop_take, Int.toNat_natCast]
   congr 1
   omega
  have hl : ((s.drop k).take (cL s k)).length = cL s k := by rw [List.length_take, List.length_drop]; omega
  have ha := aUP _ (aJa s k) (by omega) (by omega)
  simp only [ht, ha, Option.getD_some]
  refine aA (by constructor <;> omega) (aA (by constructor <;> omega) (aA rfl ?_))
  by_cases h2 : 100 < mK ((s.drop k).take (cL s k))
  ·rw [if_pos (by omega), if_pos h2]; rfl
  ·rw [if_neg (by omega), if_neg h2]
   have e : ((i : Int) + 1).toNat = i + 1 := by omega
   rw [e]
   by_cases h3 : pC s (i + 1) 45
   ·have h3' : i + 1 < s.length ∧ s.getD (i + 1) 0 = 45 := h3
    rw [if_pos ⟨by omega, h3'.2⟩, decide_eq_true h3]
    refine aA (by constructor <;> omega) ?_
    rw [show (0 : Int) - (mK ((s.drop k).take (cL s k)) : Int) = -(mK ((s.drop k).take (cL s k)) : Int) from by omega]
    rw [aTt s k all pow _ hs hk hp (by constructor <;> omega)]
    rfl
   ·have h3' : ¬ (i + 1 < s.length ∧ s.getD (i + 1) 0 = 45) := h3
    rw [if_neg (fun h => h3' ⟨by omega, h.2⟩), decide_eq_false h3]
    rw [aTt s k all pow _ hs hk hp (by constructor <;> omega)]
    rfl
theorem aTv (s : List Nat) (i : Nat) (all : List Nat) (pow : Int) (hs : s.length ≤ 60) (hi : i ≤ 60) (hp : -100 ≤ pow ∧ pow ≤ 100) : fV s (i : Int) all pow = some (aRz s i all pow) := by
 unfold fV aRz
 have e : ((i : Int) + 1).toNat = i + 1 := by omega
 rw [aTs, e]
 refine aA (fun _ => by constructor <;> omega) ?_
 by_cases h : pC s i 101
 ·have h' : i < s.length ∧ s.getD i 0 = 101 := h
  rw [if_pos ⟨by omega, h'.2⟩, if_pos h]
  refine aA (by constructor <;> omega) (aA (fun _ => by constructor <;> omega) (aA (fun _ _ => by constructor <;> omega) ?_))
  by_cases h2 : pC s (i + 1) 45 ∨ pC s (i + 1) 43
  ·have h2' : (i + 1 < s.length ∧ s.getD (i + 1) 0 = 45) ∨ (i + 1 < s.length ∧ s.getD (i + 1) 0 = 43) := h2
   rw [if_pos (by rcases h2' with h | h; exact .inl ⟨by omega, h.2⟩; exact .inr ⟨by omega, h.2⟩), if_pos h2]
   refine aA (by constructor <;> omega) ?_
   have := aTu s i (i + 2) all pow hs hi (by omega) hp
   rw [show ((i + 2 : Nat) : Int) = (i : Int) + 1 + 1 from by omega] at this
   exact this
  ·have h2' : ¬ ((i + 1 < s.length ∧ s.getD (i + 1) 0 = 45) ∨ (i + 1 < s.length ∧ s.getD (i + 1) 0 = 43)) := h2
   rw [if_neg (fun h => h2' (by rcases h with h | h; exact .inl ⟨by omega, h.2⟩; exact .inr ⟨by omega, h.2⟩)), if_neg h2]
   have := aTu s i (i + 1) all pow hs hi (by omega) hp
   rw [show ((i + 1 : Nat) : Int) = (i : Int) + 1 from by omega] at this
   exact this
 ·have h' : ¬ (i < s.length ∧ s.getD i 0 = 101) := h
  rw [if_neg (fun h => h' ⟨by omega, h.2⟩), if_neg h]
  unfold fS
  have : decide ((i : Int) = (s.length : Int)) = decide (i = s.length) := decide_eq_decide.2 (by omega)
  rw [this]
theorem aPt (s : List Nat) (hs : s.length ≤ 4611686018427387904) : aR s = some (eO s) := by
 have hd0 := aAz s 0
 have hd1 := aAz s (cL s 0 + 1)
 unfold aR eO
 have e0 := aB1 s 0 hs (by omega)
 rw [show ((0 : Nat) : Int) = 0 from rfl] at e0
 rw [e0]
 simp only [Option.getD_some]
 refine aA rfl (aA (by constructor <;> omega) ?_)
 by_cases h1 : 60 < s.length ∨ cL s 0 = 0
 ·rw [if_pos (by omega), if_pos h1]; rfl
 ·rw [if_neg (by omega), if_neg h1]
  rw [aTs]
  refine aA (fun _ => by constructor <;> omega) ?_
  by_cases h2 : pC s (cL s 0) 46
  ·have h2' : cL s 0 < s.length ∧ s.getD (cL s 0) 0 = 46 := h2
   rw [if_pos ⟨by omega, h2'.2⟩, if_pos h2]
   have e1 := aB1 s (cL s 0 + 1) hs (by omega)
   rw [show ((cL s 0 + 1 : Nat) : Int) = (cL s 0 : Int) + 1 from by omega] at e1
   simp only [e1, Option.getD_some]
   refine aA (by constructor <;> omega) (aA rfl ?_)
   by_cases h3 : cL s (cL s 0 + 1) = 0
   ·rw [if_pos (by omega), if_pos h3]; rfl
   ·rw [if_neg (by omega), if_neg h3]
    have ht : List.drop ((cL s 0 : Int) + 1).toNat (List.take ((cL s 0 : Int) + 1 + (cL s (cL s 0 + 1) : Int)).toNat s) = (s.drop (cL s 0 + 1)).take (cL s (cL s 0 + 1)) := by
     rw [List.drop_take, show ((cL s 0 : Int) + 1).toNat = cL s 0 + 1 from by omega]
     congr 1
     omega
    simp only [ht, Int.toNat_natCast]
    have hl1 : (s.take (cL s 0)).length ≤ 60 := by rw [List.length_take]; omega
    have hl2 : ((s.drop (cL s 0 + 1)).take (cL s (cL s 0 + 1))).length ≤ 60 := by rw [List.length_take]; omega
    refine aA (by constructor <;> omega) (aA (by constructor <;> omega) (aA (by constructor <;> omega) (aA (by constructor <;> omega) (aA (by omega) (aA (by constructor <;> omega) (aA (by constructor <;> omega) (aA (by constructor <;> omega) ?_)))))))
    have := aTv s (cL s 0 + 1 + cL s (cL s 0 + 1)) (s.take (cL s 0) ++ (s.drop (cL s 0 + 1)).take (cL s (cL s 0 + 1))) (-(cL s (cL s 0 + 1) : Int)) (by omega) (by omega) (by constructor <;> omega)
    rw [show ((cL s 0 + 1 + cL s (cL s 0 + 1) : Nat) : Int) = (cL s 0 : Int) + 1 + (cL s (cL s 0 + 1) : Int) from by omega] at this
    rw [show (0 : Int) - (cL s (cL s 0 + 1) : Int) = -(cL s (cL s 0 + 1) : Int) from by omega]
    exact this
  ·have h2' : ¬ (cL s 0 < s.length ∧ s.getD (cL s 0) 0 = 46) := h2
   rw [if_neg (fun h => h2' ⟨by omega, h.2⟩), if_neg h2]
   rw [Int.toNat_natCast]
   exact aTv s (cL s 0) _ 0 (by omega) (by omega) (by decide)
end Nu
end Go.Proofs
namespace Go.Proofs
open Go.Vc
set_option maxRecDepth 20000
namespace Nu
def aRA (A B p k : Nat) (up : Bool) : Dy := iA (rm2 A B p k up) (rE A B p k)
theorem aK2 {M : Nat} {e : Int} : (iA M e).2.1 = lb (M / 2 ^ tzn M) := by
 unfold iA
 split
 ·rename_i h; subst h; rw [Nat.zero_div, gB]; rfl
 ·rfl
theorem aRB {A B p k0 K : Nat} {up : Bool} (hB : B ≠ 0) (hAK : A < 2 ^ K) (hBK : B < 2 ^ K) (hK : K ≤ 1000) (hp : 1 ≤ p) (hp2 : p ≤ 2000) (h : A ≠ 0 → 2 ^ p ≤ rq A B k0) :
  aI9 (iA A 0) (iA B 0) (p : Int) up = .inl (if A = 0 then d0 else aRA A B p k0 up) := by
 have mA : kR (iA A 0) = true := aOc hAK (by omega) (by decide)
 have mB : kR (iA B 0) = true := aOc hBK (by omega) (by decide)
 have hm : aPp (p : Int) [iA A 0, iA B 0] = .inl () := by
  unfold aPp
  rw [if_pos ⟨by omega, by omega, by simp [mA, mB]⟩]
 obtain ⟨b1, b2⟩ := aCQ hB
 have hB' : B / 2 ^ tzn B ≠ 0 := by omega
 have hbB : bl (B / 2 ^ tzn B) ≤ K := sX (Nat.lt_of_le_of_lt (Nat.div_le_self _ _) hBK)
 have hzB := aMn hB hBK
 unfold aI9
 rw [hm]
 simp only [aK2, eZ]
 rw [if_neg (fun h => hB' (wA.1 (List.eq_nil_of_length_eq_zero h)))]
 have hs1 : (iA A 0).1 = false := by unfold iA; split <;> rfl
 have hs2 : (iA B 0).1 = false := by unfold iA; split <;> rfl
 rw [hs1, hs2]
 by_cases hA : A = 0
 ·subst hA
  simp only [if_true]
  have h1 : (iA 0 0).2.2.1 = 0 := rfl
  have h2 : (iA B 0).2.2.1 = (tzn B : Int) := by unfold iA; rw [if_neg hB]; simp
  rw [h1, h2, Nat.zero_div, Nat.zero_mul, Nat.zero_div, Nat.zero_mod]
  unfold aPq
  have hb0 : ¬ 0 < ((bl 0 : Nat) : Int) - (p : Int) := by
   have : bl 0 = 0 := rfl
   omega
  simp only [hb0, if_false]
  have : decide ((0 : Nat) ≠ 0) = false := rfl
  rw [this]
  simp only [Bool.false_eq_true, false_and, if_false]
  rfl
 ·obtain ⟨a1, a2⟩ := aCQ hA
  have hA' : A / 2 ^ tzn A ≠ 0 := by omega
  have hbA : bl (A / 2 ^ tzn A) ≤ K := sX (Nat.lt_of_le_of_lt (Nat.div_le_self _ _) hAK)
  have hzA := aMn hA hAK
  have h1 : (iA A 0).2.2.1 = (tzn A : Int) := by unfold iA; rw [if_neg hA]; simp
  have h2 : (iA B 0).2.2.1 = (tzn B : Int) := by unfold iA; rw [if_neg hB]; simp
  rw [h1, h2, if_neg hA]
  obtain ⟨k, hk, hk2, hk3⟩ : ∃ k : Nat, max (0 : Int) ((p : Int) + 1 + (bl (B / 2 ^ tzn B) : Int) - (bl (A / 2 ^ tzn A) : Int)) = (k : Int) ∧ p + bl (B / 2 ^ tzn B) ≤ bl (A / 2 ^ tzn A) - 1 + k ∧ k ≤ 4000 := by
   have hpos := aEl hA'
   exact ⟨(max (0 : Int) ((p : Int) + 1 + (bl (B / 2 ^ tzn B) : Int) - (bl (A / 2 ^ tzn A) : Int))).toNat, by omega, by omega, by omega⟩
  rw [hk, Int.toNat_natCast]
  have hbig := aTo (p := p) hA' hB' hk2
  have hf : (false != false) = false := rfl
  rw [hf]
  have hc := aWU (e := (tzn A : Int) - (tzn B : Int)) (up := up) hp hbig
  unfold rq at hc
  rw [hc]
  obtain ⟨o1, o2, o3, o4⟩ := aWW (A' := A / 2 ^ tzn A) (B' := B / 2 ^ tzn B) (za := tzn A) (zb := tzn B) hp a1.symm b1.symm (h hA)
  obtain ⟨s1, s2, s3⟩ := aWj hp hbig o1
  have hrm : rm2 (A / 2 ^ tzn A) (B / 2 ^ tzn B) p k up = rm2 A B p k0 up := by unfold rm2; rw [s1, s3, o2, o4]
  have hre : (tzn A : Int) - (tzn B : Int) + rE (A / 2 ^ tzn A) (B / 2 ^ tzn B) p k = rE A B p k0 := by rw [s2]; omega
  obtain ⟨q1, q2⟩ := aTp (A := A / 2 ^ tzn A) (B := B / 2 ^ tzn B) (p := p) (k := k) hA'
  rw [hrm, hre, aMo (K := p + 1) aWk (by omega) (by constructor <;> omega)]
  simp only [if_true]
  rfl
def aUQ (r : aTr) : Prop := (∀ c ∈ r.1, tM c = true) ∧ r.1.length ≤ 60 ∧ -160 ≤ r.2.1 ∧ r.2.1 ≤ 160
theorem xT : aUQ litNo := ⟨(fun c hc => by cases hc), by decide, by decide, by decide⟩
theorem aMp {s : List Nat} {i : Nat} {all : List Nat} {pow : Int} {neg : Bool} (h1 : ∀ c ∈ all, tM c = true) (h2 : all.length ≤ 60) (h3 : -60 ≤ pow ∧ pow ≤ 0) : aUQ (aJb s i all pow neg) := by
 unfold aJb
 split
 ·exact xT
 ·split
  ·exact xT
  ·refine ⟨h1, h2, ?_, ?_⟩
   ·simp only; split <;> omega
   ·simp only; split <;> omega
theorem aJc {s : List Nat} {i : Nat} {all : List Nat} {pow : Int} (h1 : ∀ c ∈ all, tM c = true) (h2 : all.length ≤ 60) (h3 : -60 ≤ pow ∧ pow ≤ 0) : aUQ (aRz s i all pow) := by
 unfold aRz
 split
 ·exact aMp h1 h2 h3
 ·exact ⟨h1, h2, by simp only; omega, by simp only; omega⟩
theorem wN (s : List Nat) : aUQ (eO s) := by
 have hd0 := aAz s 0
 have hd1 := aAz s (cL s 0 + 1)
 have a0 := aJa s 0
 rw [List.drop_zero] at a0
 have a1 := aJa s (cL s 0 + 1)
 unfold eO
 split
 ·exact xT
 ·rename_i h
  split
  ·split
   ·exact xT
   ·refine aJc (fun c hc => ?_) ?_ (by constructor <;> omega)
    ·rcases List.mem_append.1 hc with hc | hc
     ·exact a0 c hc
     ·exact a1 c hc
    ·rw [List.length_append, List.length_take, List.length_take, List.length_drop]; omega
  ·refine aJc a0 ?_ (by decide)
   rw [List.length_take]; omega
def aKm (s : List Nat) : Nat := mK (eO s).1 * 10 ^ (max (eO s).2.1 0).toNat
def aJd (s : List Nat) : Nat := 10 ^ (max (-(eO s).2.1) 0).toNat
theorem oU (n : Nat) : 10 ^ n ≤ 2 ^ (4 * n) := by
 rw [Nat.pow_mul]
 exact Nat.pow_le_pow_left (by decide) n
theorem aQC (s : List Nat) : aKm s < 2 ^ 900 := by
 obtain ⟨h1, h2, h3, h4⟩ := wN s
 have a := aB2 h1
 have b := oU (eO s).1.length
 have c := oU (max (eO s).2.1 0).toNat
 unfold aKm
 have d := Nat.mul_lt_mul_of_lt_of_le (Nat.lt_of_lt_of_le a b) c (Nat.pow_pos (by decide))
 rw [← Nat.pow_add] at d
 exact aOa 900 d (by omega)
theorem aQD (s : List Nat) : aJd s < 2 ^ 900 := by
 obtain ⟨h1, h2, h3, h4⟩ := wN s
 have c := oU (max (-(eO s).2.1) 0).toNat
 unfold aJd
 exact aBP 900 c (by omega)
theorem aOd (s : List Nat) : aJd s ≠ 0 := by
 unfold aJd
 have := Nat.pow_pos (n := (max (-(eO s).2.1) 0).toNat) (show 0 < 10 by decide)
 omega
def aWl (s : List Nat) : List Nat × List Nat × Bool × Unit := if (eO s).2.2.1 = true then (lb (aKm s), lb (aJd s), true, ()) else ([], [], false, ())
theorem aEB {x : Nat} (h : x < 2 ^ 900) : (lb x).length ≤ 15 := by
 exact lC.2 (aOb 15 h (by decide))
theorem aTw (s : List Nat) (hs : s.length ≤ 4611686018427387904) : bX s = some (aWl s) := by
 obtain ⟨h1, h2, h3, h4⟩ := wN s
 unfold bX aWl
 simp only [aPt s hs, Option.getD_some]
 refine aA rfl ?_
 by_cases h : (eO s).2.2.1 = true
 ·rw [if_neg (fun hn => hn h), if_pos h]
  have e1 := aK1 (eO s).1 h1 (by omega)
  have e2 := aBR 10 (max (eO s).2.1 0).toNat (by decide) (by omega)
  have e3 := aBR 10 (max (-(eO s).2.1) 0).toNat (by decide) (by omega)
  rw [show (((max (eO s).2.1 0).toNat : Nat) : Int) = max (eO s).2.1 0 from by omega] at e2
  rw [show (((max (-(eO s).2.1) 0).toNat : Nat) : Int) = max (0 - (eO s).2.1) 0 from by omega] at e3
  simp only [e1, e2, e3, Option.getD_some]
  have l1 : (lb (mK (eO s).1)).length ≤ 15 := aEB (by
   have a := aB2 h1
   have b := oU (eO s).1.length
   exact aOa 900 (Nat.lt_of_lt_of_le a b) (by omega))
  have l2 : (lb (10 ^ (max (eO s).2.1 0).toNat)).length ≤ 15 := aEB (aBP 900 (oU _) (by omega))
  refine aA rfl (aA rfl (aA ⟨?_, ?_⟩ (aA (by constructor <;> omega) (aA rfl ?_))))
  ·show (lb (mK (eO s).1)).length ≤ _; omega
  ·show (lb (10 ^ (max (eO s).2.1 0).toNat)).length ≤ _; omega
  ·have ht : bA (lb (mK (eO s).1)) (lb (10 ^ (max (eO s).2.1 0).toNat)) = lb (aKm s) := by
    unfold bA aKm; rw [eZ, eZ]
   rw [ht]; rfl
 ·rw [if_pos h, if_neg h]
end Nu
end Go.Proofs
namespace Go.Proofs
open Go.Vc
set_option maxRecDepth 20000
namespace Nu
theorem aDY (s : List Nat) (hs : s.length ≤ 4611686018427387904) : bT s = some (eO s).2.2.1 := by
 unfold bT
 simp only [aPt s hs, Option.getD_some]
 exact aA rfl rfl
def aCR (s : List Nat) (p : Nat) (up : Bool) : Dy := if aKm s = 0 then d0 else aRA (aKm s) (aJd s) p (p + 1 + bl (aJd s)) up
def aWm (s : List Nat) (p : Int) : (Dy × Dy × Unit) × Int × Unit :=
 if ¬ (eO s).2.2.1 = true then ((d0, d0, ()), 6, ())
 else if p < 1 ∨ 2000 < p then ((d0, d0, ()), 1, ())
 else ((aCR s p.toNat false, aCR s p.toNat true, ()), 0, ())
theorem aTx {A K : Nat} (h : A < 2 ^ K) (hK : K ≤ 4096) : bL false (lb A) 0 = some (iA A 0, 0, ()) := by
 have hl : (lb A).length ≤ K + 1 := lC.2 (Nat.lt_of_lt_of_le h (by rw [nH]; exact Nat.pow_le_pow_right (by decide) (by omega)))
 rw [aPo false (lb A) 0 (aAE A) (tS A) (by omega), eZ, aMo h hK (by decide)]
theorem aOe (s : List Nat) (p : Nat) (up : Bool) (hp : 1 ≤ p ∧ p ≤ 2000) : dV (iA (aKm s) 0) (iA (aJd s) 0) (p : Int) up = some (aCR s p up, 0, ()) := by
 have hL : ∀ M, Lm (iA M 0).2.1 := fun M => by rw [aK2]; exact aAE _
 rw [aUN _ _ _ _ (hL _) (hL _), aRB (k0 := p + 1 + bl (aJd s)) (aOd s) (aQC s) (aQD s) (by decide) hp.1 hp.2 (fun h => aTo h (aOd s) (by have := aEl h; omega))]
 rfl
theorem aWn (s : List Nat) (p : Int) (hs : s.length ≤ 4611686018427387904) : cC s p = some (aWm s p) := by
 unfold cC aWm
 simp only [aTw s hs, Option.getD_some]
 refine aA rfl ?_
 unfold aWl
 by_cases h : (eO s).2.2.1 = true
 ·simp only [h, if_true, not_true, if_false]
  by_cases h2 : p < 1 ∨ 2000 < p
  ·simp only [h2, if_true]; rfl
  ·simp only [h2, if_false]
   obtain ⟨q, rfl⟩ : ∃ q : Nat, p = (q : Int) := ⟨p.toNat, by omega⟩
   simp only [aTx (aQC s) (by decide), aTx (aQD s) (by decide), Option.getD_some, aOe s q false (by constructor <;> omega), aOe s q true (by constructor <;> omega)]
   refine aA rfl (aA rfl (aA rfl (aA rfl ?_)))
   simp only [not_true, or_self, if_false, Int.toNat_natCast]
 ·simp only [h, if_false, Bool.false_eq_true, not_false_eq_true, if_true]; rfl
end Nu
end Go.Proofs
