import Derived.Test.YtabdejmolnikaaaDoorZS3
import Derived.Lib.ItoaNum
set_option linter.unusedVariables false
set_option linter.unusedSimpArgs false
namespace Go.Proofs
open Go.Vc
set_option maxRecDepth 20000
namespace Nu
def cs_10eab6x : ByteArray := ⟨⟨48 :: 48 :: 48 :: 48 :: 48 :: 48 :: 48 :: 48 :: 48 :: 48 :: 48 :: 48 :: 48 :: 48 :: 48 :: 48 :: 48 :: 48 :: 48 :: 48 :: 48 :: 48 :: 48 :: 48 :: 48 :: 48 :: 48 :: 48 :: 48 :: 48 :: 48 :: 48 :: 48 :: 48 :: 48 :: 48 :: 48 :: 48 :: 48 :: 48 :: 48 :: 48 :: 48 :: 48 :: 48 :: 48 :: 48 :: 48 :: 48 :: 48 :: 48 :: 48 :: 48 :: 48 :: 48 :: 48 :: 48 :: 48 :: 48 :: 48 :: 48 :: 48 :: 48 :: 48 :: []⟩⟩
theorem cs_10eab6x_is : (⟨⟨48 :: 48 :: 48 :: 48 :: 48 :: 48 :: 48 :: 48 :: 48 :: 48 :: 48 :: 48 :: 48 :: 48 :: 48 :: 48 :: 48 :: 48 :: 48 :: 48 :: 48 :: 48 :: 48 :: 48 :: 48 :: 48 :: 48 :: 48 :: 48 :: 48 :: 48 :: 48 :: 48 :: 48 :: 48 :: 48 :: 48 :: 48 :: 48 :: 48 :: 48 :: 48 :: 48 :: 48 :: 48 :: 48 :: 48 :: 48 :: 48 :: 48 :: 48 :: 48 :: 48 :: 48 :: 48 :: 48 :: 48 :: 48 :: 48 :: 48 :: 48 :: 48 :: 48 :: 48 :: []⟩⟩ : ByteArray) = cs_10eab6x := rfl
attribute [go_sem] cs_10eab6x_is
def cs_464a37x : ByteArray := ⟨⟨45 :: 45 :: 45 :: 45 :: 45 :: 45 :: 45 :: 45 :: 45 :: 45 :: 45 :: 45 :: 45 :: 45 :: 45 :: 45 :: 45 :: 45 :: 45 :: 45 :: 45 :: 45 :: 45 :: 45 :: 45 :: 45 :: 45 :: 45 :: 45 :: 45 :: 45 :: 45 :: 45 :: 45 :: 45 :: 45 :: 45 :: 45 :: 45 :: 45 :: 45 :: 45 :: 45 :: 45 :: 45 :: 45 :: 45 :: 45 :: 45 :: 45 :: 45 :: 45 :: 45 :: 45 :: 45 :: 45 :: 45 :: 45 :: 45 :: 45 :: 45 :: 45 :: 45 :: 45 :: 45 :: 45 :: 45 :: 45 :: 45 :: 45 :: 45 :: 45 :: 45 :: 45 :: 45 :: 45 :: 45 :: 45 :: 45 :: 45 :: 45 :: 45 :: 45 :: 45 :: 45 :: 45 :: 45 :: 45 :: 45 :: 45 :: 45 :: 45 :: 45 :: 45 :: 45 :: 45 :: 45 :: 45 :: 45 :: 45 :: 45 :: 45 :: 45 :: 45 :: 45 :: 45 :: 45 :: 45 :: 45 :: 45 :: 45 :: 45 :: 45 :: 45 :: 45 :: 45 :: 45 :: 45 :: 45 :: 45 :: 45 :: 45 :: 45 :: 45 :: 45 :: 45 :: 45 :: 45 :: []⟩⟩
theorem cs_464a37x_is : (⟨⟨45 :: 45 :: 45 :: 45 :: 45 :: 45 :: 45 :: 45 :: 45 :: 45 :: 45 :: 45 :: 45 :: 45 :: 45 :: 45 :: 45 :: 45 :: 45 :: 45 :: 45 :: 45 :: 45 :: 45 :: 45 :: 45 :: 45 :: 45 :: 45 :: 45 :: 45 :: 45 :: 45 :: 45 :: 45 :: 45 :: 45 :: 45 :: 45 :: 45 :: 45 :: 45 :: 45 :: 45 :: 45 :: 45 :: 45 :: 45 :: 45 :: 45 :: 45 :: 45 :: 45 :: 45 :: 45 :: 45 :: 45 :: 45 :: 45 :: 45 :: 45 :: 45 :: 45 :: 45 :: 45 :: 45 :: 45 :: 45 :: 45 :: 45 :: 45 :: 45 :: 45 :: 45 :: 45 :: 45 :: 45 :: 45 :: 45 :: 45 :: 45 :: 45 :: 45 :: 45 :: 45 :: 45 :: 45 :: 45 :: 45 :: 45 :: 45 :: 45 :: 45 :: 45 :: 45 :: 45 :: 45 :: 45 :: 45 :: 45 :: 45 :: 45 :: 45 :: 45 :: 45 :: 45 :: 45 :: 45 :: 45 :: 45 :: 45 :: 45 :: 45 :: 45 :: 45 :: 45 :: 45 :: 45 :: 45 :: 45 :: 45 :: 45 :: 45 :: 45 :: 45 :: 45 :: 45 :: 45 :: []⟩⟩ : ByteArray) = cs_464a37x := rfl
attribute [go_sem] cs_464a37x_is
def cs_89b126x : ByteArray := ⟨⟨61 :: 61 :: 61 :: 61 :: 61 :: 61 :: 61 :: 61 :: 61 :: 61 :: 61 :: 61 :: 61 :: 61 :: 61 :: 61 :: 61 :: 61 :: 61 :: 61 :: 61 :: 61 :: 61 :: 61 :: 61 :: 61 :: 61 :: 61 :: 61 :: 61 :: 61 :: 61 :: 61 :: 61 :: 61 :: 61 :: 61 :: 61 :: 61 :: 61 :: 61 :: 61 :: 61 :: 61 :: 61 :: 61 :: 61 :: 61 :: 61 :: 61 :: 61 :: 61 :: 61 :: 61 :: 61 :: 61 :: 61 :: 61 :: 61 :: 61 :: 61 :: 61 :: 61 :: 61 :: 61 :: 61 :: 61 :: 61 :: 61 :: 61 :: 61 :: 61 :: 61 :: 61 :: 61 :: 61 :: 61 :: 61 :: 61 :: 61 :: 61 :: 61 :: 61 :: 61 :: 61 :: 61 :: 61 :: 61 :: 61 :: 61 :: 61 :: 61 :: 61 :: 61 :: 61 :: 61 :: 61 :: 61 :: 61 :: 61 :: 61 :: 61 :: 61 :: 61 :: 61 :: 61 :: 61 :: 61 :: 61 :: 61 :: 61 :: 61 :: 61 :: 61 :: 61 :: 61 :: 61 :: 61 :: 61 :: 61 :: 61 :: 61 :: 61 :: 61 :: 61 :: 61 :: 61 :: 61 :: []⟩⟩
theorem cs_89b126x_is : (⟨⟨61 :: 61 :: 61 :: 61 :: 61 :: 61 :: 61 :: 61 :: 61 :: 61 :: 61 :: 61 :: 61 :: 61 :: 61 :: 61 :: 61 :: 61 :: 61 :: 61 :: 61 :: 61 :: 61 :: 61 :: 61 :: 61 :: 61 :: 61 :: 61 :: 61 :: 61 :: 61 :: 61 :: 61 :: 61 :: 61 :: 61 :: 61 :: 61 :: 61 :: 61 :: 61 :: 61 :: 61 :: 61 :: 61 :: 61 :: 61 :: 61 :: 61 :: 61 :: 61 :: 61 :: 61 :: 61 :: 61 :: 61 :: 61 :: 61 :: 61 :: 61 :: 61 :: 61 :: 61 :: 61 :: 61 :: 61 :: 61 :: 61 :: 61 :: 61 :: 61 :: 61 :: 61 :: 61 :: 61 :: 61 :: 61 :: 61 :: 61 :: 61 :: 61 :: 61 :: 61 :: 61 :: 61 :: 61 :: 61 :: 61 :: 61 :: 61 :: 61 :: 61 :: 61 :: 61 :: 61 :: 61 :: 61 :: 61 :: 61 :: 61 :: 61 :: 61 :: 61 :: 61 :: 61 :: 61 :: 61 :: 61 :: 61 :: 61 :: 61 :: 61 :: 61 :: 61 :: 61 :: 61 :: 61 :: 61 :: 61 :: 61 :: 61 :: 61 :: 61 :: 61 :: 61 :: 61 :: 61 :: []⟩⟩ : ByteArray) = cs_89b126x := rfl
attribute [go_sem] cs_89b126x_is
def cs_b67fcbx : ByteArray := ⟨⟨9 :: 9 :: 9 :: 9 :: 9 :: 9 :: 9 :: 9 :: 9 :: 9 :: 9 :: 9 :: 9 :: 9 :: 9 :: 9 :: 9 :: 9 :: 9 :: 9 :: 9 :: 9 :: 9 :: 9 :: 9 :: 9 :: 9 :: 9 :: 9 :: 9 :: 9 :: 9 :: 9 :: 9 :: 9 :: 9 :: 9 :: 9 :: 9 :: 9 :: 9 :: 9 :: 9 :: 9 :: 9 :: 9 :: 9 :: 9 :: 9 :: 9 :: 9 :: 9 :: 9 :: 9 :: 9 :: 9 :: 9 :: 9 :: 9 :: 9 :: 9 :: 9 :: 9 :: 9 :: []⟩⟩
theorem cs_b67fcbx_is : (⟨⟨9 :: 9 :: 9 :: 9 :: 9 :: 9 :: 9 :: 9 :: 9 :: 9 :: 9 :: 9 :: 9 :: 9 :: 9 :: 9 :: 9 :: 9 :: 9 :: 9 :: 9 :: 9 :: 9 :: 9 :: 9 :: 9 :: 9 :: 9 :: 9 :: 9 :: 9 :: 9 :: 9 :: 9 :: 9 :: 9 :: 9 :: 9 :: 9 :: 9 :: 9 :: 9 :: 9 :: 9 :: 9 :: 9 :: 9 :: 9 :: 9 :: 9 :: 9 :: 9 :: 9 :: 9 :: 9 :: 9 :: 9 :: 9 :: 9 :: 9 :: 9 :: 9 :: 9 :: 9 :: []⟩⟩ : ByteArray) = cs_b67fcbx := rfl
attribute [go_sem] cs_b67fcbx_is
def cs_db3e2fx : ByteArray := ⟨⟨48 :: 48 :: 48 :: 49 :: 48 :: 50 :: 48 :: 51 :: 48 :: 52 :: 48 :: 53 :: 48 :: 54 :: 48 :: 55 :: 48 :: 56 :: 48 :: 57 :: 49 :: 48 :: 49 :: 49 :: 49 :: 50 :: 49 :: 51 :: 49 :: 52 :: 49 :: 53 :: 49 :: 54 :: 49 :: 55 :: 49 :: 56 :: 49 :: 57 :: 50 :: 48 :: 50 :: 49 :: 50 :: 50 :: 50 :: 51 :: 50 :: 52 :: 50 :: 53 :: 50 :: 54 :: 50 :: 55 :: 50 :: 56 :: 50 :: 57 :: 51 :: 48 :: 51 :: 49 :: 51 :: 50 :: 51 :: 51 :: 51 :: 52 :: 51 :: 53 :: 51 :: 54 :: 51 :: 55 :: 51 :: 56 :: 51 :: 57 :: 52 :: 48 :: 52 :: 49 :: 52 :: 50 :: 52 :: 51 :: 52 :: 52 :: 52 :: 53 :: 52 :: 54 :: 52 :: 55 :: 52 :: 56 :: 52 :: 57 :: 53 :: 48 :: 53 :: 49 :: 53 :: 50 :: 53 :: 51 :: 53 :: 52 :: 53 :: 53 :: 53 :: 54 :: 53 :: 55 :: 53 :: 56 :: 53 :: 57 :: 54 :: 48 :: 54 :: 49 :: 54 :: 50 :: 54 :: 51 :: 54 :: 52 :: 54 :: 53 :: 54 :: 54 :: 54 :: 55 :: 54 :: 56 :: 54 :: 57 :: 55 :: 48 :: 55 :: 49 :: 55 :: 50 :: 55 :: 51 :: 55 :: 52 :: 55 :: 53 :: 55 :: 54 :: 55 :: 55 :: 55 :: 56 :: 55 :: 57 :: 56 :: 48 :: 56 :: 49 :: 56 :: 50 :: 56 :: 51 :: 56 :: 52 :: 56 :: 53 :: 56 :: 54 :: 56 :: 55 :: 56 :: 56 :: 56 :: 57 :: 57 :: 48 :: 57 :: 49 :: 57 :: 50 :: 57 :: 51 :: 57 :: 52 :: 57 :: 53 :: 57 :: 54 :: 57 :: 55 :: 57 :: 56 :: 57 :: 57 :: []⟩⟩
theorem cs_db3e2fx_is : (⟨⟨48 :: 48 :: 48 :: 49 :: 48 :: 50 :: 48 :: 51 :: 48 :: 52 :: 48 :: 53 :: 48 :: 54 :: 48 :: 55 :: 48 :: 56 :: 48 :: 57 :: 49 :: 48 :: 49 :: 49 :: 49 :: 50 :: 49 :: 51 :: 49 :: 52 :: 49 :: 53 :: 49 :: 54 :: 49 :: 55 :: 49 :: 56 :: 49 :: 57 :: 50 :: 48 :: 50 :: 49 :: 50 :: 50 :: 50 :: 51 :: 50 :: 52 :: 50 :: 53 :: 50 :: 54 :: 50 :: 55 :: 50 :: 56 :: 50 :: 57 :: 51 :: 48 :: 51 :: 49 :: 51 :: 50 :: 51 :: 51 :: 51 :: 52 :: 51 :: 53 :: 51 :: 54 :: 51 :: 55 :: 51 :: 56 :: 51 :: 57 :: 52 :: 48 :: 52 :: 49 :: 52 :: 50 :: 52 :: 51 :: 52 :: 52 :: 52 :: 53 :: 52 :: 54 :: 52 :: 55 :: 52 :: 56 :: 52 :: 57 :: 53 :: 48 :: 53 :: 49 :: 53 :: 50 :: 53 :: 51 :: 53 :: 52 :: 53 :: 53 :: 53 :: 54 :: 53 :: 55 :: 53 :: 56 :: 53 :: 57 :: 54 :: 48 :: 54 :: 49 :: 54 :: 50 :: 54 :: 51 :: 54 :: 52 :: 54 :: 53 :: 54 :: 54 :: 54 :: 55 :: 54 :: 56 :: 54 :: 57 :: 55 :: 48 :: 55 :: 49 :: 55 :: 50 :: 55 :: 51 :: 55 :: 52 :: 55 :: 53 :: 55 :: 54 :: 55 :: 55 :: 55 :: 56 :: 55 :: 57 :: 56 :: 48 :: 56 :: 49 :: 56 :: 50 :: 56 :: 51 :: 56 :: 52 :: 56 :: 53 :: 56 :: 54 :: 56 :: 55 :: 56 :: 56 :: 56 :: 57 :: 57 :: 48 :: 57 :: 49 :: 57 :: 50 :: 57 :: 51 :: 57 :: 52 :: 57 :: 53 :: 57 :: 54 :: 57 :: 55 :: 57 :: 56 :: 57 :: 57 :: []⟩⟩ : ByteArray) = cs_db3e2fx := rfl
attribute [go_sem] cs_db3e2fx_is
def cs_e9b171x : ByteArray := ⟨⟨48 :: 49 :: 50 :: 51 :: 52 :: 53 :: 54 :: 55 :: 56 :: 57 :: 97 :: 98 :: 99 :: 100 :: 101 :: 102 :: 103 :: 104 :: 105 :: 106 :: 107 :: 108 :: 109 :: 110 :: 111 :: 112 :: 113 :: 114 :: 115 :: 116 :: 117 :: 118 :: 119 :: 120 :: 121 :: 122 :: []⟩⟩
theorem cs_e9b171x_is : (⟨⟨48 :: 49 :: 50 :: 51 :: 52 :: 53 :: 54 :: 55 :: 56 :: 57 :: 97 :: 98 :: 99 :: 100 :: 101 :: 102 :: 103 :: 104 :: 105 :: 106 :: 107 :: 108 :: 109 :: 110 :: 111 :: 112 :: 113 :: 114 :: 115 :: 116 :: 117 :: 118 :: 119 :: 120 :: 121 :: 122 :: []⟩⟩ : ByteArray) = cs_e9b171x := rfl
attribute [go_sem] cs_e9b171x_is
def cs_ff7ab6x : ByteArray := ⟨⟨32 :: 32 :: 32 :: 32 :: 32 :: 32 :: 32 :: 32 :: 32 :: 32 :: 32 :: 32 :: 32 :: 32 :: 32 :: 32 :: 32 :: 32 :: 32 :: 32 :: 32 :: 32 :: 32 :: 32 :: 32 :: 32 :: 32 :: 32 :: 32 :: 32 :: 32 :: 32 :: 32 :: 32 :: 32 :: 32 :: 32 :: 32 :: 32 :: 32 :: 32 :: 32 :: 32 :: 32 :: 32 :: 32 :: 32 :: 32 :: 32 :: 32 :: 32 :: 32 :: 32 :: 32 :: 32 :: 32 :: 32 :: 32 :: 32 :: 32 :: 32 :: 32 :: 32 :: 32 :: 32 :: 32 :: 32 :: 32 :: 32 :: 32 :: 32 :: 32 :: 32 :: 32 :: 32 :: 32 :: 32 :: 32 :: 32 :: 32 :: 32 :: 32 :: 32 :: 32 :: 32 :: 32 :: 32 :: 32 :: 32 :: 32 :: 32 :: 32 :: 32 :: 32 :: 32 :: 32 :: 32 :: 32 :: 32 :: 32 :: 32 :: 32 :: 32 :: 32 :: 32 :: 32 :: 32 :: 32 :: 32 :: 32 :: 32 :: 32 :: 32 :: 32 :: 32 :: 32 :: 32 :: 32 :: 32 :: 32 :: 32 :: 32 :: 32 :: 32 :: 32 :: 32 :: 32 :: 32 :: []⟩⟩
theorem cs_ff7ab6x_is : (⟨⟨32 :: 32 :: 32 :: 32 :: 32 :: 32 :: 32 :: 32 :: 32 :: 32 :: 32 :: 32 :: 32 :: 32 :: 32 :: 32 :: 32 :: 32 :: 32 :: 32 :: 32 :: 32 :: 32 :: 32 :: 32 :: 32 :: 32 :: 32 :: 32 :: 32 :: 32 :: 32 :: 32 :: 32 :: 32 :: 32 :: 32 :: 32 :: 32 :: 32 :: 32 :: 32 :: 32 :: 32 :: 32 :: 32 :: 32 :: 32 :: 32 :: 32 :: 32 :: 32 :: 32 :: 32 :: 32 :: 32 :: 32 :: 32 :: 32 :: 32 :: 32 :: 32 :: 32 :: 32 :: 32 :: 32 :: 32 :: 32 :: 32 :: 32 :: 32 :: 32 :: 32 :: 32 :: 32 :: 32 :: 32 :: 32 :: 32 :: 32 :: 32 :: 32 :: 32 :: 32 :: 32 :: 32 :: 32 :: 32 :: 32 :: 32 :: 32 :: 32 :: 32 :: 32 :: 32 :: 32 :: 32 :: 32 :: 32 :: 32 :: 32 :: 32 :: 32 :: 32 :: 32 :: 32 :: 32 :: 32 :: 32 :: 32 :: 32 :: 32 :: 32 :: 32 :: 32 :: 32 :: 32 :: 32 :: 32 :: 32 :: 32 :: 32 :: 32 :: 32 :: 32 :: 32 :: 32 :: 32 :: []⟩⟩ : ByteArray) = cs_ff7ab6x := rfl
attribute [go_sem] cs_ff7ab6x_is
noncomputable def m_istrconv_bool2_int (b_0 : Bool) : Option Int :=
  if b_0 = true then some (1 : Int) else some (0 : Int)
def a_istrconv_bool2_int : Ty := .pair .bool .unit
attribute [go_sem] a_istrconv_bool2_int
noncomputable def sm_istrconv_bool2_int : FSpec := mSpec a_istrconv_bool2_int (.one (.i .i64)) (fun x => m_istrconv_bool2_int x.1)
noncomputable def l_istrconv_bool2_int : List (FuncId × FSpec) := []
theorem K_istrconv_bool2_int : Known Tryd.prog GL l_istrconv_bool2_int := .nil
set_option maxHeartbeats 4000000 in
theorem om_istrconv_bool2_int : FOK Tryd.prog GL 116 sm_istrconv_bool2_int := by
 refine fok_model (EM_ok K_istrconv_bool2_int) Tryd.func116 rfl (by kernel_rfl) (by decide) fun w0 S x r hw h => ?_
 have hF : FrOK (fr Tryd.prog (EM l_istrconv_bool2_int) S w0 Tryd.f116.ntmps) := ⟨EM_ok K_istrconv_bool2_int, mix⟩
 obtain ⟨(b_0 : Bool), u⟩ := x
 simp only [a_istrconv_bool2_int, Ty.wf, fits64] at hw
 simp only [args0, a_istrconv_bool2_int]
 try dsimp only at h
 unfold m_istrconv_bool2_int at h
 refine tri_seq (tri_region hF [0] ?_)
 simp only [go_sem]
 refine at_next (tri_seq (tri_seq (tri_region hF [3] ?_)))
 simp only [go_sem]
 refine at_next (tri_cond rfl (fun hc => ?_) (fun hc => ?_))
 ·try simp only [go_sem] at hc
  have h := ite_T (by first | exact hc | omega | (simpa using hc) | (simp at hc ⊢; omega)) h
  refine tri_seq (tri_region hF [2] ?_)
  simp only [go_sem]
  obtain rfl := Option.some.inj h
  refine at_next (tri_ret (at_then_ret (at_retC hF [.tmp 2] rfl rfl rfl ?_)))
  (try simp only [retOK, resE, go_sem]) <;> first | rfl | (simp; done)
 ·try simp only [go_sem] at hc
  have h := ite_F (by first | exact hc | omega | (simpa using hc) | (simp at hc ⊢; omega)) h
  refine tri_skip (at_next (tri_seq (tri_region hF [2] ?_)))
  simp only [go_sem]
  obtain rfl := Option.some.inj h
  refine at_next (tri_ret (at_retC hF [.tmp 2] rfl rfl rfl ?_))
  (try simp only [retOK, resE, go_sem]) <;> first | rfl | (simp; done)
attribute [go_sem] sm_istrconv_bool2_int
noncomputable def m_istrconv_log10Pow2 (x_0 : Int) : Option Int :=
  ck (I64 (x_0 * (78913 : Int))) (some (Int.fdiv (x_0 * (78913 : Int)) (2 ^ (18 : Nat))))
def a_istrconv_log10Pow2 : Ty := .pair (.i .i64) .unit
attribute [go_sem] a_istrconv_log10Pow2
noncomputable def sm_istrconv_log10Pow2 : FSpec := mSpec a_istrconv_log10Pow2 (.one (.i .i64)) (fun x => m_istrconv_log10Pow2 x.1)
noncomputable def l_istrconv_log10Pow2 : List (FuncId × FSpec) := []
theorem K_istrconv_log10Pow2 : Known Tryd.prog GL l_istrconv_log10Pow2 := .nil
set_option maxHeartbeats 4000000 in
theorem om_istrconv_log10Pow2 : FOK Tryd.prog GL 115 sm_istrconv_log10Pow2 := by
 refine fok_model (EM_ok K_istrconv_log10Pow2) Tryd.func115 rfl (by kernel_rfl) (by decide) fun w0 S x r hw h => ?_
 have hF : FrOK (fr Tryd.prog (EM l_istrconv_log10Pow2) S w0 Tryd.f115.ntmps) := ⟨EM_ok K_istrconv_log10Pow2, mix⟩
 obtain ⟨(x_0 : Int), u⟩ := x
 simp only [a_istrconv_log10Pow2, Ty.wf, fits64] at hw
 simp only [args0, a_istrconv_log10Pow2]
 try dsimp only at h
 unfold m_istrconv_log10Pow2 at h
 refine tri_seq (tri_region hF [0] ?_)
 simp only [go_sem]
 refine at_next (tri_seq (tri_region hF [2] ?_))
 simp only [go_sem]
 obtain ⟨g0, h⟩ := ck_some h
 try simp only [I64, I32] at g0
 repeat (refine ⟨by first | with_reducible assumption | omega | (intros; first | assumption | omega) | (simp only [go_sem] at *; first | assumption | omega) | decide, ?_⟩)
 obtain rfl := Option.some.inj h
 refine at_next (tri_ret (at_retC hF [.tmp 2] rfl rfl rfl ?_))
 (try simp only [retOK, resE, go_sem]) <;> first | rfl | (simp; done)
attribute [go_sem] sm_istrconv_log10Pow2
noncomputable def m_istrconv_numDigits (d_0 : Nat) : Option Int :=
  ck (((m_istrconv_log10Pow2 (f_bits_Len64 d_0)).isSome = true)) (ck (0 ≤ ((m_istrconv_log10Pow2 (f_bits_Len64 d_0)).getD (0 : Int)) ∧ ((m_istrconv_log10Pow2 (f_bits_Len64 d_0)).getD (0 : Int)) < (20 : Int)) (ck (((m_istrconv_bool2_int (decide ((p10.getD (((m_istrconv_log10Pow2 (f_bits_Len64 d_0)).getD (0 : Int)).toNat) (0 : Nat)) ≤ d_0))).isSome = true)) (ck (I64 (((m_istrconv_log10Pow2 (f_bits_Len64 d_0)).getD (0 : Int)) + ((m_istrconv_bool2_int (decide ((p10.getD (((m_istrconv_log10Pow2 (f_bits_Len64 d_0)).getD (0 : Int)).toNat) (0 : Nat)) ≤ d_0))).getD (0 : Int)))) (some (((m_istrconv_log10Pow2 (f_bits_Len64 d_0)).getD (0 : Int)) + ((m_istrconv_bool2_int (decide ((p10.getD (((m_istrconv_log10Pow2 (f_bits_Len64 d_0)).getD (0 : Int)).toNat) (0 : Nat)) ≤ d_0))).getD (0 : Int)))))))
def a_istrconv_numDigits : Ty := .pair (.u .u64) .unit
attribute [go_sem] a_istrconv_numDigits
noncomputable def sm_istrconv_numDigits : FSpec := mSpec a_istrconv_numDigits (.one (.i .i64)) (fun x => m_istrconv_numDigits x.1)
noncomputable def l_istrconv_numDigits : List (FuncId × FSpec) := [(108, sp_bits_Len64), (115, sm_istrconv_log10Pow2), (116, sm_istrconv_bool2_int)]
theorem K_istrconv_numDigits : Known Tryd.prog GL l_istrconv_numDigits := .cons ok_bits_Len64 (by kernel_rfl) (.cons om_istrconv_log10Pow2 (by kernel_rfl) (.cons om_istrconv_bool2_int (by kernel_rfl) (.nil)))
theorem l_istrconv_numDigits_108 : gam l_istrconv_numDigits 108 = some sp_bits_Len64 := rfl
attribute [go_sem] l_istrconv_numDigits_108
theorem l_istrconv_numDigits_115 : gam l_istrconv_numDigits 115 = some sm_istrconv_log10Pow2 := rfl
attribute [go_sem] l_istrconv_numDigits_115
theorem l_istrconv_numDigits_116 : gam l_istrconv_numDigits 116 = some sm_istrconv_bool2_int := rfl
attribute [go_sem] l_istrconv_numDigits_116
set_option maxHeartbeats 4000000 in
theorem om_istrconv_numDigits : FOK Tryd.prog GL 102 sm_istrconv_numDigits := by
 refine fok_model (EM_ok K_istrconv_numDigits) Tryd.func102 rfl (by kernel_rfl) (by decide) fun w0 S x r hw h => ?_
 have hF : FrOK (fr Tryd.prog (EM l_istrconv_numDigits) S w0 Tryd.f102.ntmps) := ⟨EM_ok K_istrconv_numDigits, mix⟩
 obtain ⟨(d_0 : Nat), u⟩ := x
 simp only [a_istrconv_numDigits, Ty.wf, fits64] at hw
 simp only [args0, a_istrconv_numDigits]
 try dsimp only at h
 unfold m_istrconv_numDigits at h
 refine tri_seq (tri_region hF [0] ?_)
 simp only [go_sem]
 refine at_next (tri_seq (tri_region hF [0, 3] ?_))
 simp only [go_sem]
 obtain ⟨g0, h⟩ := ck_some h
 repeat (refine ⟨by first | with_reducible assumption | omega | (intros; first | assumption | omega) | (simp only [go_sem] at *; first | assumption | omega) | decide, ?_⟩)
 refine at_next (tri_seq (tri_region hF [2] ?_))
 simp only [go_sem]
 obtain ⟨g0, h⟩ := ck_some h
 obtain ⟨g1, h⟩ := ck_some h
 obtain ⟨g2, h⟩ := ck_some h
 try simp only [I64, I32] at g2
 repeat (refine ⟨by first | with_reducible assumption | omega | (intros; first | assumption | omega) | (simp only [go_sem] at *; first | assumption | omega) | decide, ?_⟩)
 obtain rfl := Option.some.inj h
 refine at_next (tri_ret (at_retC hF [.tmp 2] rfl rfl rfl ?_))
 (try simp only [retOK, resE, go_sem]) <;> first | rfl | (simp; done)
attribute [go_sem] sm_istrconv_numDigits
noncomputable def m_istrconv_small (i_0 : Int) : Option (List Nat) :=
  if i_0 < (10 : Int) then ck (I64 (i_0 + (1 : Int))) (ck (0 ≤ i_0 ∧ i_0 ≤ (i_0 + (1 : Int)) ∧ (i_0 + (1 : Int)) ≤ ((((strL cs_e9b171x).length) : Nat) : Int)) (some (List.drop (i_0.toNat) (List.take ((i_0 + (1 : Int)).toNat) (strL cs_e9b171x))))) else ck (I64 (i_0 * (2 : Int))) (ck (I64 (i_0 * (2 : Int))) (ck (I64 ((i_0 * (2 : Int)) + (2 : Int))) (ck (0 ≤ (i_0 * (2 : Int)) ∧ (i_0 * (2 : Int)) ≤ ((i_0 * (2 : Int)) + (2 : Int)) ∧ ((i_0 * (2 : Int)) + (2 : Int)) ≤ ((((strL cs_db3e2fx).length) : Nat) : Int)) (some (List.drop ((i_0 * (2 : Int)).toNat) (List.take (((i_0 * (2 : Int)) + (2 : Int)).toNat) (strL cs_db3e2fx)))))))
def a_istrconv_small : Ty := .pair (.i .i64) .unit
attribute [go_sem] a_istrconv_small
noncomputable def sm_istrconv_small : FSpec := mSpec a_istrconv_small (.one .str) (fun x => m_istrconv_small x.1)
noncomputable def l_istrconv_small : List (FuncId × FSpec) := []
theorem K_istrconv_small : Known Tryd.prog GL l_istrconv_small := .nil
set_option maxHeartbeats 4000000 in
theorem om_istrconv_small : FOK Tryd.prog GL 101 sm_istrconv_small := by
 refine fok_model (EM_ok K_istrconv_small) Tryd.func101 rfl (by kernel_rfl) (by decide) fun w0 S x r hw h => ?_
 have hF : FrOK (fr Tryd.prog (EM l_istrconv_small) S w0 Tryd.f101.ntmps) := ⟨EM_ok K_istrconv_small, mix⟩
 obtain ⟨(i_0 : Int), u⟩ := x
 simp only [a_istrconv_small, Ty.wf, fits64] at hw
 simp only [args0, a_istrconv_small]
 try dsimp only at h
 unfold m_istrconv_small at h
 refine tri_seq (tri_region hF [0] ?_)
 simp only [go_sem]
 refine at_next (tri_seq (tri_seq (tri_region hF [0, 4] ?_)))
 simp only [go_sem]
 refine at_next (tri_cond rfl (fun hc => ?_) (fun hc => ?_))
 ·try simp only [go_sem] at hc
  have h := ite_T (by first | exact hc | omega | (simpa using hc) | (simp at hc ⊢; omega)) h
  refine tri_seq (tri_region hF [2] ?_)
  simp only [go_sem]
  obtain ⟨g0, h⟩ := ck_some h
  obtain ⟨g1, h⟩ := ck_some h
  try simp only [I64, I32] at g0
  repeat (refine ⟨by first | with_reducible assumption | omega | (intros; first | assumption | omega) | (simp only [go_sem] at *; first | assumption | omega) | decide, ?_⟩)
  obtain rfl := Option.some.inj h
  refine at_next (tri_ret (at_then_ret (at_retC hF [.tmp 2] rfl rfl rfl ?_)))
  (try simp only [retOK, resE, go_sem]) <;> first | rfl | (simp; done)
 ·try simp only [go_sem] at hc
  have h := ite_F (by first | exact hc | omega | (simpa using hc) | (simp at hc ⊢; omega)) h
  refine tri_skip (at_next (tri_seq (tri_region hF [2] ?_)))
  simp only [go_sem]
  obtain ⟨g0, h⟩ := ck_some h
  obtain ⟨g1, h⟩ := ck_some h
  obtain ⟨g2, h⟩ := ck_some h
  obtain ⟨g3, h⟩ := ck_some h
  try simp only [I64, I32] at g0
  try simp only [I64, I32] at g1
  try simp only [I64, I32] at g2
  repeat (refine ⟨by first | with_reducible assumption | omega | (intros; first | assumption | omega) | (simp only [go_sem] at *; first | assumption | omega) | decide, ?_⟩)
  obtain rfl := Option.some.inj h
  refine at_next (tri_ret (at_retC hF [.tmp 2] rfl rfl rfl ?_))
  (try simp only [retOK, resE, go_sem]) <;> first | rfl | (simp; done)
attribute [go_sem] sm_istrconv_small
noncomputable def m_istrconv_FormatUint (i_0 : Nat) (base_1 : Int) : Option (List Nat) :=
  if base_1 = (10 : Int) then if i_0 < (100 : Nat) then ck (((m_istrconv_small (IntKind.i64.wrap ((i_0 : Nat) : Int))).isSome = true)) (some ((m_istrconv_small (IntKind.i64.wrap ((i_0 : Nat) : Int))).getD ([] : List Nat))) else ck (((m_istrconv_numDigits i_0).isSome = true)) (ck ((0 : Int) < ((m_istrconv_numDigits i_0).getD (0 : Int)) ∧ ((m_istrconv_numDigits i_0).getD (0 : Int)) ≤ 24) (((m_istrconv_formatBase10 (0 : Nat) ((((m_istrconv_numDigits i_0).getD (0 : Int)) - (0 : Int)).toNat) i_0 (List.replicate 24 (0 : Nat)))).bind (fun r_5 => ck ((0 : Int) < ((m_istrconv_numDigits i_0).getD (0 : Int)) ∧ ((m_istrconv_numDigits i_0).getD (0 : Int)) ≤ 24) (ck ((0 : Nat) + ((((m_istrconv_numDigits i_0).getD (0 : Int)) - (0 : Int)).toNat) ≤ 24) (some (List.take ((((m_istrconv_numDigits i_0).getD (0 : Int)) - (0 : Int)).toNat) (List.drop (0 : Nat) r_5))))))) else none
def a_istrconv_FormatUint : Ty := .pair (.u .u64) (.pair (.i .i64) .unit)
attribute [go_sem] a_istrconv_FormatUint
noncomputable def sm_istrconv_FormatUint : FSpec := mSpec a_istrconv_FormatUint (.one .str) (fun x => m_istrconv_FormatUint x.1 x.2.1)
noncomputable def l_istrconv_FormatUint : List (FuncId × FSpec) := [(101, sm_istrconv_small), (102, sm_istrconv_numDigits)]
theorem K_istrconv_FormatUint : Known Tryd.prog GL l_istrconv_FormatUint := .cons om_istrconv_small (by kernel_rfl) (.cons om_istrconv_numDigits (by kernel_rfl) (.nil))
theorem l_istrconv_FormatUint_101 : gam l_istrconv_FormatUint 101 = some sm_istrconv_small := rfl
attribute [go_sem] l_istrconv_FormatUint_101
theorem l_istrconv_FormatUint_102 : gam l_istrconv_FormatUint 102 = some sm_istrconv_numDigits := rfl
attribute [go_sem] l_istrconv_FormatUint_102
set_option maxHeartbeats 4000000 in
theorem om_istrconv_FormatUint : FOK Tryd.prog GL 93 sm_istrconv_FormatUint := by
 refine fok_model (EM_ok K_istrconv_FormatUint) Tryd.func93 rfl (by kernel_rfl) (by decide) fun w0 S x r hw h => ?_
 have hF : FrOK (fr Tryd.prog (EM l_istrconv_FormatUint) S w0 Tryd.f93.ntmps) := ⟨EM_ok K_istrconv_FormatUint, mix⟩
 obtain ⟨(i_0 : Nat), (base_1 : Int), u⟩ := x
 simp only [a_istrconv_FormatUint, Ty.wf, fits64] at hw
 simp only [args0, a_istrconv_FormatUint]
 try dsimp only at h
 unfold m_istrconv_FormatUint at h
 refine tri_seq (tri_region hF [0, 1] ?_)
 simp only [go_sem]
 refine at_next (tri_seq (tri_seq (tri_region hF [0, 1, 10] ?_)))
 simp only [go_sem]
 refine at_next (tri_cond rfl (fun hc => ?_) (fun hc => ?_))
 ·try simp only [go_sem] at hc
  have h := ite_T (by first | exact hc | omega | (simpa using hc) | (simp at hc ⊢; omega)) h
  refine tri_seq (tri_seq (tri_region hF [0, 12] ?_))
  simp only [go_sem]
  refine at_next (tri_cond rfl (fun hc => ?_) (fun hc => ?_))
  ·try simp only [go_sem] at hc
   have h := ite_T (by first | exact hc | omega | (simpa using hc) | (simp at hc ⊢; omega)) h
   refine tri_seq (tri_region hF [4] ?_)
   simp only [go_sem]
   obtain ⟨g0, h⟩ := ck_some h
   repeat (refine ⟨by first | with_reducible assumption | omega | (intros; first | assumption | omega) | (simp only [go_sem] at *; first | assumption | omega) | decide, ?_⟩)
   obtain rfl := Option.some.inj h
   refine at_next (tri_ret (at_then_ret (at_then_ret (at_retC hF [.tmp 4] rfl rfl rfl ?_))))
   (try simp only [retOK, resE, go_sem]) <;> first | rfl | (simp; done)
  ·try simp only [go_sem] at hc
   have h := ite_F (by first | exact hc | omega | (simpa using hc) | (simp at hc ⊢; omega)) h
   refine tri_skip (at_next (tri_seq (tri_regionB hF [0, 5] ?_)))
   simp only [go_sem]
   refine at_next (tri_seq (tri_region hF [0, 5, 6] ?_))
   simp only [go_sem]
   obtain ⟨g0, h⟩ := ck_some h
   repeat (refine ⟨by first | with_reducible assumption | omega | (intros; first | assumption | omega) | (simp only [go_sem] at *; first | assumption | omega) | decide, ?_⟩)
   obtain ⟨g0, h⟩ := ck_some h
   obtain ⟨r_5, he1, h⟩ := bind_some h
   try dsimp only at h
   refine at_next (tri_seq (tri_regionP hF (hits_of (l := [(103, ⟨sg_istrconv_formatBase10, [0], ((0 : Nat), ((((m_istrconv_numDigits i_0).getD (0 : Int)) - (0 : Int)).toNat), i_0, (List.replicate 24 (0 : Nat)), r_5)⟩)]) (.cons og_istrconv_formatBase10 (by kernel_rfl) (.nil))) [5, 6] [19] ?_))
   simp only [go_sem]
   repeat (refine ⟨by first | with_reducible assumption | omega | (intros; first | assumption | omega) | (simp only [go_sem] at *; first | assumption | omega) | decide, ?_⟩)
   obtain ⟨g0, h⟩ := ck_some h
   obtain ⟨g1, h⟩ := ck_some h
   refine at_next (tri_seq (tri_regionP hF (hits_of (l := []) (.nil)) [4] [23] ?_))
   simp only [go_sem]
   repeat (refine ⟨by first | with_reducible assumption | omega | (intros; first | assumption | omega) | (simp only [go_sem] at *; first | assumption | omega) | decide, ?_⟩)
   obtain rfl := Option.some.inj h
   refine at_next (tri_ret (at_then_ret (at_retC hF [.tmp 4] rfl rfl rfl ?_)))
   (try simp only [retOK, resE, go_sem]) <;> first | rfl | (simp; done)
 ·try simp only [go_sem] at hc
  have h := ite_F (by first | exact hc | omega | (simpa using hc) | (simp at hc ⊢; omega)) h
  cases h
attribute [go_sem] sm_istrconv_FormatUint
noncomputable def m_strconv_FormatUint (i_0 : Nat) (base_1 : Int) : Option (List Nat) :=
  ck (((m_istrconv_FormatUint i_0 base_1).isSome = true)) (some ((m_istrconv_FormatUint i_0 base_1).getD ([] : List Nat)))
def a_strconv_FormatUint : Ty := .pair (.u .u64) (.pair (.i .i64) .unit)
attribute [go_sem] a_strconv_FormatUint
noncomputable def sm_strconv_FormatUint : FSpec := mSpec a_strconv_FormatUint (.one .str) (fun x => m_strconv_FormatUint x.1 x.2.1)
noncomputable def l_strconv_FormatUint : List (FuncId × FSpec) := [(93, sm_istrconv_FormatUint)]
theorem K_strconv_FormatUint : Known Tryd.prog GL l_strconv_FormatUint := .cons om_istrconv_FormatUint (by kernel_rfl) (.nil)
theorem l_strconv_FormatUint_93 : gam l_strconv_FormatUint 93 = some sm_istrconv_FormatUint := rfl
attribute [go_sem] l_strconv_FormatUint_93
set_option maxHeartbeats 4000000 in
theorem om_strconv_FormatUint : FOK Tryd.prog GL 65 sm_strconv_FormatUint := by
 refine fok_model (EM_ok K_strconv_FormatUint) Tryd.func65 rfl (by kernel_rfl) (by decide) fun w0 S x r hw h => ?_
 have hF : FrOK (fr Tryd.prog (EM l_strconv_FormatUint) S w0 Tryd.f65.ntmps) := ⟨EM_ok K_strconv_FormatUint, mix⟩
 obtain ⟨(i_0 : Nat), (base_1 : Int), u⟩ := x
 simp only [a_strconv_FormatUint, Ty.wf, fits64] at hw
 simp only [args0, a_strconv_FormatUint]
 try dsimp only at h
 unfold m_strconv_FormatUint at h
 refine tri_seq (tri_region hF [0, 1] ?_)
 simp only [go_sem]
 refine at_next (tri_seq (tri_region hF [4] ?_))
 simp only [go_sem]
 obtain ⟨g0, h⟩ := ck_some h
 repeat (refine ⟨by first | with_reducible assumption | omega | (intros; first | assumption | omega) | (simp only [go_sem] at *; first | assumption | omega) | decide, ?_⟩)
 obtain rfl := Option.some.inj h
 refine at_next (tri_ret (at_retC hF [.tmp 4] rfl rfl rfl ?_))
 (try simp only [retOK, resE, go_sem]) <;> first | rfl | (simp; done)
attribute [go_sem] sm_strconv_FormatUint
noncomputable def m_bits_Mul (x_0 : Nat) (y_1 : Nat) : Option (Nat × (Nat × Unit)) :=
  some (((f_bits_Mul64 x_0 y_1).1), (((f_bits_Mul64 x_0 y_1).2).1), ())
def a_bits_Mul : Ty := .pair (.u .u64) (.pair (.u .u64) .unit)
attribute [go_sem] a_bits_Mul
noncomputable def sm_bits_Mul : FSpec := mSpec a_bits_Mul (.tup (.pair (.u .u64) (.pair (.u .u64) .unit))) (fun x => m_bits_Mul x.1 x.2.1)
noncomputable def l_bits_Mul : List (FuncId × FSpec) := [(60, sp_bits_Mul64)]
theorem K_bits_Mul : Known Tryd.prog GL l_bits_Mul := .cons ok_bits_Mul64 (by kernel_rfl) (.nil)
theorem l_bits_Mul_60 : gam l_bits_Mul 60 = some sp_bits_Mul64 := rfl
attribute [go_sem] l_bits_Mul_60
set_option maxHeartbeats 4000000 in
theorem om_bits_Mul : FOK Tryd.prog GL 66 sm_bits_Mul := by
 refine fok_model (EM_ok K_bits_Mul) Tryd.func66 rfl (by kernel_rfl) (by decide) fun w0 S x r hw h => ?_
 have hF : FrOK (fr Tryd.prog (EM l_bits_Mul) S w0 Tryd.f66.ntmps) := ⟨EM_ok K_bits_Mul, mix⟩
 obtain ⟨(x_0 : Nat), (y_1 : Nat), u⟩ := x
 simp only [a_bits_Mul, Ty.wf, fits64] at hw
 simp only [args0, a_bits_Mul]
 try dsimp only at h
 unfold m_bits_Mul at h
 refine tri_seq (tri_region hF [0, 1] ?_)
 simp only [go_sem]
 refine at_next (tri_seq (tri_cond rfl (fun hc => ?_) (fun hc => ?_)))
 ·exact absurd hc (by decide)
 ·refine tri_skip (at_next (tri_seq (tri_region hF [8, 9] ?_)))
  simp only [go_sem]
  refine at_next (tri_seq (tri_region hF [4, 5] ?_))
  simp only [go_sem]
  obtain rfl := Option.some.inj h
  refine at_next (tri_ret (at_retC hF [.tmp 4, .tmp 5] rfl rfl rfl ?_))
  (try simp only [retOK, resE, go_sem]) <;> first | rfl | (simp; done)
attribute [go_sem] sm_bits_Mul
noncomputable def m_istringslite_HasPrefix (s_0 : (List Nat)) (prefix_1 : (List Nat)) : Option Bool :=
  ck ((((((prefix_1.length) : Nat) : Int) ≤ (((s_0.length) : Nat) : Int)) → (0 ≤ (((prefix_1.length) : Nat) : Int) ∧ (((prefix_1.length) : Nat) : Int) ≤ (((s_0.length) : Nat) : Int)))) (some ((decide ((((prefix_1.length) : Nat) : Int) ≤ (((s_0.length) : Nat) : Int))) && (decide ((List.take (prefix_1.length) s_0) = prefix_1))))
def a_istringslite_HasPrefix : Ty := .pair .str (.pair .str .unit)
attribute [go_sem] a_istringslite_HasPrefix
noncomputable def sm_istringslite_HasPrefix : FSpec := mSpec a_istringslite_HasPrefix (.one .bool) (fun x => m_istringslite_HasPrefix x.1 x.2.1)
noncomputable def l_istringslite_HasPrefix : List (FuncId × FSpec) := []
theorem K_istringslite_HasPrefix : Known Tryd.prog GL l_istringslite_HasPrefix := .nil
set_option maxHeartbeats 4000000 in
theorem om_istringslite_HasPrefix : FOK Tryd.prog GL 95 sm_istringslite_HasPrefix := by
 refine fok_model (EM_ok K_istringslite_HasPrefix) Tryd.func95 rfl (by kernel_rfl) (by decide) fun w0 S x r hw h => ?_
 have hF : FrOK (fr Tryd.prog (EM l_istringslite_HasPrefix) S w0 Tryd.f95.ntmps) := ⟨EM_ok K_istringslite_HasPrefix, mix⟩
 obtain ⟨(s_0 : (List Nat)), (prefix_1 : (List Nat)), u⟩ := x
 simp only [a_istringslite_HasPrefix, Ty.wf, fits64] at hw
 simp only [args0, a_istringslite_HasPrefix]
 try dsimp only at h
 unfold m_istringslite_HasPrefix at h
 refine tri_seq (tri_region hF [0, 1] ?_)
 simp only [go_sem]
 refine at_next (tri_seq (tri_region hF [4] ?_))
 simp only [go_sem]
 obtain ⟨g0, h⟩ := ck_some h
 repeat (refine ⟨by first | with_reducible assumption | omega | (intros; first | assumption | omega) | (simp only [go_sem] at *; first | assumption | omega) | (intro q0; (try have e0 := g0 (by first | exact q0 | omega | (simpa using q0))); first | assumption | omega) | decide, ?_⟩)
 obtain rfl := Option.some.inj h
 refine at_next (tri_ret (at_retC hF [.tmp 4] rfl rfl rfl ?_))
 (try simp only [retOK, resE, go_sem]) <;> first | rfl | (simp; done)
attribute [go_sem] sm_istringslite_HasPrefix
noncomputable def m_strings_HasPrefix (s_0 : (List Nat)) (prefix_1 : (List Nat)) : Option Bool :=
  ck (((m_istringslite_HasPrefix s_0 prefix_1).isSome = true)) (some ((m_istringslite_HasPrefix s_0 prefix_1).getD false))
def a_strings_HasPrefix : Ty := .pair .str (.pair .str .unit)
attribute [go_sem] a_strings_HasPrefix
noncomputable def sm_strings_HasPrefix : FSpec := mSpec a_strings_HasPrefix (.one .bool) (fun x => m_strings_HasPrefix x.1 x.2.1)
noncomputable def l_strings_HasPrefix : List (FuncId × FSpec) := [(95, sm_istringslite_HasPrefix)]
theorem K_strings_HasPrefix : Known Tryd.prog GL l_strings_HasPrefix := .cons om_istringslite_HasPrefix (by kernel_rfl) (.nil)
theorem l_strings_HasPrefix_95 : gam l_strings_HasPrefix 95 = some sm_istringslite_HasPrefix := rfl
attribute [go_sem] l_strings_HasPrefix_95
set_option maxHeartbeats 4000000 in
theorem om_strings_HasPrefix : FOK Tryd.prog GL 67 sm_strings_HasPrefix := by
 refine fok_model (EM_ok K_strings_HasPrefix) Tryd.func67 rfl (by kernel_rfl) (by decide) fun w0 S x r hw h => ?_
 have hF : FrOK (fr Tryd.prog (EM l_strings_HasPrefix) S w0 Tryd.f67.ntmps) := ⟨EM_ok K_strings_HasPrefix, mix⟩
 obtain ⟨(s_0 : (List Nat)), (prefix_1 : (List Nat)), u⟩ := x
 simp only [a_strings_HasPrefix, Ty.wf, fits64] at hw
 simp only [args0, a_strings_HasPrefix]
 try dsimp only at h
 unfold m_strings_HasPrefix at h
 refine tri_seq (tri_region hF [0, 1] ?_)
 simp only [go_sem]
 refine at_next (tri_seq (tri_region hF [4] ?_))
 simp only [go_sem]
 obtain ⟨g0, h⟩ := ck_some h
 repeat (refine ⟨by first | with_reducible assumption | omega | (intros; first | assumption | omega) | (simp only [go_sem] at *; first | assumption | omega) | decide, ?_⟩)
 obtain rfl := Option.some.inj h
 refine at_next (tri_ret (at_retC hF [.tmp 4] rfl rfl rfl ?_))
 (try simp only [retOK, resE, go_sem]) <;> first | rfl | (simp; done)
attribute [go_sem] sm_strings_HasPrefix
noncomputable def m_strings_Repeat_j2 (chunkMax_4 : Int) : Option ((List Nat)) :=
  none
noncomputable def m_strings_Repeat_j1 (s_0 : (List Nat)) (count_1 : Int) : Option ((List Nat)) :=
  if (8192 : Int) < (IntKind.i64.wrap ((((((m_bits_Mul (((((s_0.length) : Nat) : Int) % (18446744073709551616 : Int)).toNat) ((count_1 % (18446744073709551616 : Int)).toNat)).getD ((0 : Nat), (0 : Nat), ())).2).1) : Nat) : Int)) then ck ((((s_0.length) : Nat) : Int) ≠ 0) (ck (I64 (Int.tdiv (8192 : Int) (((s_0.length) : Nat) : Int))) (ck (I64 ((Int.tdiv (8192 : Int) (((s_0.length) : Nat) : Int)) * (((s_0.length) : Nat) : Int))) (if ((Int.tdiv (8192 : Int) (((s_0.length) : Nat) : Int)) * (((s_0.length) : Nat) : Int)) = (0 : Int) then m_strings_Repeat_j2 (((s_0.length) : Nat) : Int) else m_strings_Repeat_j2 ((Int.tdiv (8192 : Int) (((s_0.length) : Nat) : Int)) * (((s_0.length) : Nat) : Int))))) else m_strings_Repeat_j2 (IntKind.i64.wrap ((((((m_bits_Mul (((((s_0.length) : Nat) : Int) % (18446744073709551616 : Int)).toNat) ((count_1 % (18446744073709551616 : Int)).toNat)).getD ((0 : Nat), (0 : Nat), ())).2).1) : Nat) : Int))
noncomputable def m_strings_Repeat_j3 (s_0 : (List Nat)) (count_1 : Int) (x43_5 : Bool) : Option ((List Nat)) :=
  if x43_5 = true then ck ((((IntKind.i64.wrap ((((((m_bits_Mul (((((s_0.length) : Nat) : Int) % (18446744073709551616 : Int)).toNat) ((count_1 % (18446744073709551616 : Int)).toNat)).getD ((0 : Nat), (0 : Nat), ())).2).1) : Nat) : Int)) ≤ (128 : Int)) → (((m_strings_HasPrefix (strL cs_ff7ab6x) s_0).isSome = true)))) (if ((IntKind.i64.wrap ((((((m_bits_Mul (((((s_0.length) : Nat) : Int) % (18446744073709551616 : Int)).toNat) ((count_1 % (18446744073709551616 : Int)).toNat)).getD ((0 : Nat), (0 : Nat), ())).2).1) : Nat) : Int)) ≤ (128 : Int)) ∧ (((m_strings_HasPrefix (strL cs_ff7ab6x) s_0).getD false) = true) then ck (0 ≤ (IntKind.i64.wrap ((((((m_bits_Mul (((((s_0.length) : Nat) : Int) % (18446744073709551616 : Int)).toNat) ((count_1 % (18446744073709551616 : Int)).toNat)).getD ((0 : Nat), (0 : Nat), ())).2).1) : Nat) : Int)) ∧ (IntKind.i64.wrap ((((((m_bits_Mul (((((s_0.length) : Nat) : Int) % (18446744073709551616 : Int)).toNat) ((count_1 % (18446744073709551616 : Int)).toNat)).getD ((0 : Nat), (0 : Nat), ())).2).1) : Nat) : Int)) ≤ ((((strL cs_ff7ab6x).length) : Nat) : Int)) (some (List.take ((IntKind.i64.wrap ((((((m_bits_Mul (((((s_0.length) : Nat) : Int) % (18446744073709551616 : Int)).toNat) ((count_1 % (18446744073709551616 : Int)).toNat)).getD ((0 : Nat), (0 : Nat), ())).2).1) : Nat) : Int)).toNat) (strL cs_ff7ab6x))) else ck ((((IntKind.i64.wrap ((((((m_bits_Mul (((((s_0.length) : Nat) : Int) % (18446744073709551616 : Int)).toNat) ((count_1 % (18446744073709551616 : Int)).toNat)).getD ((0 : Nat), (0 : Nat), ())).2).1) : Nat) : Int)) ≤ (128 : Int)) → (((m_strings_HasPrefix (strL cs_464a37x) s_0).isSome = true)))) (if ((IntKind.i64.wrap ((((((m_bits_Mul (((((s_0.length) : Nat) : Int) % (18446744073709551616 : Int)).toNat) ((count_1 % (18446744073709551616 : Int)).toNat)).getD ((0 : Nat), (0 : Nat), ())).2).1) : Nat) : Int)) ≤ (128 : Int)) ∧ (((m_strings_HasPrefix (strL cs_464a37x) s_0).getD false) = true) then ck (0 ≤ (IntKind.i64.wrap ((((((m_bits_Mul (((((s_0.length) : Nat) : Int) % (18446744073709551616 : Int)).toNat) ((count_1 % (18446744073709551616 : Int)).toNat)).getD ((0 : Nat), (0 : Nat), ())).2).1) : Nat) : Int)) ∧ (IntKind.i64.wrap ((((((m_bits_Mul (((((s_0.length) : Nat) : Int) % (18446744073709551616 : Int)).toNat) ((count_1 % (18446744073709551616 : Int)).toNat)).getD ((0 : Nat), (0 : Nat), ())).2).1) : Nat) : Int)) ≤ ((((strL cs_464a37x).length) : Nat) : Int)) (some (List.take ((IntKind.i64.wrap ((((((m_bits_Mul (((((s_0.length) : Nat) : Int) % (18446744073709551616 : Int)).toNat) ((count_1 % (18446744073709551616 : Int)).toNat)).getD ((0 : Nat), (0 : Nat), ())).2).1) : Nat) : Int)).toNat) (strL cs_464a37x))) else ck ((((IntKind.i64.wrap ((((((m_bits_Mul (((((s_0.length) : Nat) : Int) % (18446744073709551616 : Int)).toNat) ((count_1 % (18446744073709551616 : Int)).toNat)).getD ((0 : Nat), (0 : Nat), ())).2).1) : Nat) : Int)) ≤ (64 : Int)) → (((m_strings_HasPrefix (strL cs_10eab6x) s_0).isSome = true)))) (if ((IntKind.i64.wrap ((((((m_bits_Mul (((((s_0.length) : Nat) : Int) % (18446744073709551616 : Int)).toNat) ((count_1 % (18446744073709551616 : Int)).toNat)).getD ((0 : Nat), (0 : Nat), ())).2).1) : Nat) : Int)) ≤ (64 : Int)) ∧ (((m_strings_HasPrefix (strL cs_10eab6x) s_0).getD false) = true) then ck (0 ≤ (IntKind.i64.wrap ((((((m_bits_Mul (((((s_0.length) : Nat) : Int) % (18446744073709551616 : Int)).toNat) ((count_1 % (18446744073709551616 : Int)).toNat)).getD ((0 : Nat), (0 : Nat), ())).2).1) : Nat) : Int)) ∧ (IntKind.i64.wrap ((((((m_bits_Mul (((((s_0.length) : Nat) : Int) % (18446744073709551616 : Int)).toNat) ((count_1 % (18446744073709551616 : Int)).toNat)).getD ((0 : Nat), (0 : Nat), ())).2).1) : Nat) : Int)) ≤ ((((strL cs_10eab6x).length) : Nat) : Int)) (some (List.take ((IntKind.i64.wrap ((((((m_bits_Mul (((((s_0.length) : Nat) : Int) % (18446744073709551616 : Int)).toNat) ((count_1 % (18446744073709551616 : Int)).toNat)).getD ((0 : Nat), (0 : Nat), ())).2).1) : Nat) : Int)).toNat) (strL cs_10eab6x))) else ck ((((IntKind.i64.wrap ((((((m_bits_Mul (((((s_0.length) : Nat) : Int) % (18446744073709551616 : Int)).toNat) ((count_1 % (18446744073709551616 : Int)).toNat)).getD ((0 : Nat), (0 : Nat), ())).2).1) : Nat) : Int)) ≤ (128 : Int)) → (((m_strings_HasPrefix (strL cs_89b126x) s_0).isSome = true)))) (if ((IntKind.i64.wrap ((((((m_bits_Mul (((((s_0.length) : Nat) : Int) % (18446744073709551616 : Int)).toNat) ((count_1 % (18446744073709551616 : Int)).toNat)).getD ((0 : Nat), (0 : Nat), ())).2).1) : Nat) : Int)) ≤ (128 : Int)) ∧ (((m_strings_HasPrefix (strL cs_89b126x) s_0).getD false) = true) then ck (0 ≤ (IntKind.i64.wrap ((((((m_bits_Mul (((((s_0.length) : Nat) : Int) % (18446744073709551616 : Int)).toNat) ((count_1 % (18446744073709551616 : Int)).toNat)).getD ((0 : Nat), (0 : Nat), ())).2).1) : Nat) : Int)) ∧ (IntKind.i64.wrap ((((((m_bits_Mul (((((s_0.length) : Nat) : Int) % (18446744073709551616 : Int)).toNat) ((count_1 % (18446744073709551616 : Int)).toNat)).getD ((0 : Nat), (0 : Nat), ())).2).1) : Nat) : Int)) ≤ ((((strL cs_89b126x).length) : Nat) : Int)) (some (List.take ((IntKind.i64.wrap ((((((m_bits_Mul (((((s_0.length) : Nat) : Int) % (18446744073709551616 : Int)).toNat) ((count_1 % (18446744073709551616 : Int)).toNat)).getD ((0 : Nat), (0 : Nat), ())).2).1) : Nat) : Int)).toNat) (strL cs_89b126x))) else ck ((((IntKind.i64.wrap ((((((m_bits_Mul (((((s_0.length) : Nat) : Int) % (18446744073709551616 : Int)).toNat) ((count_1 % (18446744073709551616 : Int)).toNat)).getD ((0 : Nat), (0 : Nat), ())).2).1) : Nat) : Int)) ≤ (64 : Int)) → (((m_strings_HasPrefix (strL cs_b67fcbx) s_0).isSome = true)))) (if ((IntKind.i64.wrap ((((((m_bits_Mul (((((s_0.length) : Nat) : Int) % (18446744073709551616 : Int)).toNat) ((count_1 % (18446744073709551616 : Int)).toNat)).getD ((0 : Nat), (0 : Nat), ())).2).1) : Nat) : Int)) ≤ (64 : Int)) ∧ (((m_strings_HasPrefix (strL cs_b67fcbx) s_0).getD false) = true) then ck (0 ≤ (IntKind.i64.wrap ((((((m_bits_Mul (((((s_0.length) : Nat) : Int) % (18446744073709551616 : Int)).toNat) ((count_1 % (18446744073709551616 : Int)).toNat)).getD ((0 : Nat), (0 : Nat), ())).2).1) : Nat) : Int)) ∧ (IntKind.i64.wrap ((((((m_bits_Mul (((((s_0.length) : Nat) : Int) % (18446744073709551616 : Int)).toNat) ((count_1 % (18446744073709551616 : Int)).toNat)).getD ((0 : Nat), (0 : Nat), ())).2).1) : Nat) : Int)) ≤ ((((strL cs_b67fcbx).length) : Nat) : Int)) (some (List.take ((IntKind.i64.wrap ((((((m_bits_Mul (((((s_0.length) : Nat) : Int) % (18446744073709551616 : Int)).toNat) ((count_1 % (18446744073709551616 : Int)).toNat)).getD ((0 : Nat), (0 : Nat), ())).2).1) : Nat) : Int)).toNat) (strL cs_b67fcbx))) else m_strings_Repeat_j1 s_0 count_1))))) else m_strings_Repeat_j1 s_0 count_1
noncomputable def m_strings_Repeat (s_0 : (List Nat)) (count_1 : Int) : Option (List Nat) :=
  if count_1 = (0 : Int) then some (strL ⟨#[]⟩) else if count_1 = (1 : Int) then some s_0 else if count_1 < (0 : Int) then none else ck (((m_bits_Mul (((((s_0.length) : Nat) : Int) % (18446744073709551616 : Int)).toNat) ((count_1 % (18446744073709551616 : Int)).toNat)).isSome = true)) (if ((0 : Nat) < (((m_bits_Mul (((((s_0.length) : Nat) : Int) % (18446744073709551616 : Int)).toNat) ((count_1 % (18446744073709551616 : Int)).toNat)).getD ((0 : Nat), (0 : Nat), ())).1)) ∨ ((9223372036854775807 : Nat) < ((((m_bits_Mul (((((s_0.length) : Nat) : Int) % (18446744073709551616 : Int)).toNat) ((count_1 % (18446744073709551616 : Int)).toNat)).getD ((0 : Nat), (0 : Nat), ())).2).1)) then none else if (((s_0.length) : Nat) : Int) = (0 : Int) then some (strL ⟨#[]⟩) else ck ((0 : Int) < (((s_0.length) : Nat) : Int)) (if (s_0.getD (0 : Nat) (0 : Nat)) = (32 : Nat) then m_strings_Repeat_j3 s_0 count_1 (decide ((s_0.getD (0 : Nat) (0 : Nat)) = (32 : Nat))) else if (s_0.getD (0 : Nat) (0 : Nat)) = (45 : Nat) then m_strings_Repeat_j3 s_0 count_1 (decide ((s_0.getD (0 : Nat) (0 : Nat)) = (45 : Nat))) else if (s_0.getD (0 : Nat) (0 : Nat)) = (48 : Nat) then m_strings_Repeat_j3 s_0 count_1 (decide ((s_0.getD (0 : Nat) (0 : Nat)) = (48 : Nat))) else if (s_0.getD (0 : Nat) (0 : Nat)) = (61 : Nat) then m_strings_Repeat_j3 s_0 count_1 (decide ((s_0.getD (0 : Nat) (0 : Nat)) = (61 : Nat))) else m_strings_Repeat_j3 s_0 count_1 (decide ((s_0.getD (0 : Nat) (0 : Nat)) = (9 : Nat)))))
def a_strings_Repeat : Ty := .pair .str (.pair (.i .i64) .unit)
attribute [go_sem] a_strings_Repeat
noncomputable def sm_strings_Repeat : FSpec := mSpec a_strings_Repeat (.one .str) (fun x => m_strings_Repeat x.1 x.2.1)
noncomputable def l_strings_Repeat : List (FuncId × FSpec) := [(66, sm_bits_Mul), (67, sm_strings_HasPrefix)]
theorem K_strings_Repeat : Known Tryd.prog GL l_strings_Repeat := .cons om_bits_Mul (by kernel_rfl) (.cons om_strings_HasPrefix (by kernel_rfl) (.nil))
theorem l_strings_Repeat_66 : gam l_strings_Repeat 66 = some sm_bits_Mul := rfl
attribute [go_sem] l_strings_Repeat_66
theorem l_strings_Repeat_67 : gam l_strings_Repeat 67 = some sm_strings_HasPrefix := rfl
attribute [go_sem] l_strings_Repeat_67
set_option maxHeartbeats 4000000 in
theorem om_strings_Repeat : FOK Tryd.prog GL 38 sm_strings_Repeat := by
 refine fok_model (EM_ok K_strings_Repeat) Tryd.func38 rfl (by kernel_rfl) (by decide) fun w0 S x r hw h => ?_
 have hF : FrOK (fr Tryd.prog (EM l_strings_Repeat) S w0 Tryd.f38.ntmps) := ⟨EM_ok K_strings_Repeat, mix⟩
 obtain ⟨(s_0 : (List Nat)), (count_1 : Int), u⟩ := x
 simp only [a_strings_Repeat, Ty.wf, fits64] at hw
 simp only [args0, a_strings_Repeat]
 try dsimp only at h
 unfold m_strings_Repeat at h
 refine tri_seq (tri_region hF [0, 1] ?_)
 simp only [go_sem]
 refine at_next (tri_seq (tri_seq (tri_region hF [0, 1, 11] ?_)))
 simp only [go_sem]
 refine at_next (tri_block (tri_seq (tri_region hF [0, 1, 11, 12] ?_)))
 simp only [go_sem]
 refine at_next (tri_cond rfl (fun hc => ?_) (fun hc => ?_))
 ·try simp only [go_sem] at hc
  have h := ite_T (by first | exact hc | omega | (simpa using hc) | (simp at hc ⊢; omega)) h
  refine tri_seq (tri_region hF [4] ?_)
  simp only [go_sem]
  obtain rfl := Option.some.inj h
  refine at_next (tri_ret (at_block_ret (at_then_ret (at_retC hF [.tmp 4] rfl rfl rfl ?_))))
  (try simp only [retOK, resE, go_sem]) <;> first | rfl | (simp; done)
 ·try simp only [go_sem] at hc
  have h := ite_F (by first | exact hc | omega | (simpa using hc) | (simp at hc ⊢; omega)) h
  refine tri_seq (tri_region hF [0, 1, 14] ?_)
  simp only [go_sem]
  refine at_next (tri_cond rfl (fun hc => ?_) (fun hc => ?_))
  ·try simp only [go_sem] at hc
   have h := ite_T (by first | exact hc | omega | (simpa using hc) | (simp at hc ⊢; omega)) h
   refine tri_seq (tri_region hF [4] ?_)
   simp only [go_sem]
   obtain rfl := Option.some.inj h
   refine at_next (tri_ret (at_block_ret (at_then_ret (at_retC hF [.tmp 4] rfl rfl rfl ?_))))
   (try simp only [retOK, resE, go_sem]) <;> first | rfl | (simp; done)
  ·try simp only [go_sem] at hc
   have h := ite_F (by first | exact hc | omega | (simpa using hc) | (simp at hc ⊢; omega)) h
   refine tri_skip (at_block_norm (at_next (tri_seq (tri_seq (tri_region hF [0, 1, 18] ?_)))))
   simp only [go_sem]
   refine at_next (tri_cond rfl (fun hc => ?_) (fun hc => ?_))
   ·try simp only [go_sem] at hc
    have h := ite_T (by first | exact hc | omega | (simpa using hc) | (simp at hc ⊢; omega)) h
    cases h
   ·try simp only [go_sem] at hc
    have h := ite_F (by first | exact hc | omega | (simpa using hc) | (simp at hc ⊢; omega)) h
    refine tri_skip (at_next (tri_seq (tri_region hF [0, 5, 6] ?_)))
    simp only [go_sem]
    obtain ⟨g0, h⟩ := ck_some h
    repeat (refine ⟨by first | with_reducible assumption | omega | (intros; first | assumption | omega) | (simp only [go_sem] at *; first | assumption | omega) | decide, ?_⟩)
    refine at_next (tri_seq (tri_seq (tri_region hF [0, 6, 34] ?_)))
    simp only [go_sem]
    refine at_next (tri_cond rfl (fun hc => ?_) (fun hc => ?_))
    ·try simp only [go_sem] at hc
     have h := ite_T (by first | exact hc | omega | (simpa using hc) | (simp at hc ⊢; omega)) h
     cases h
    ·try simp only [go_sem] at hc
     have h := ite_F (by first | exact hc | omega | (simpa using hc) | (simp at hc ⊢; omega)) h
     refine tri_skip (at_next (tri_seq (tri_region hF [0, 7] ?_)))
     simp only [go_sem]
     refine at_next (tri_seq (tri_seq (tri_region hF [0, 7, 40] ?_)))
     simp only [go_sem]
     refine at_next (tri_cond rfl (fun hc => ?_) (fun hc => ?_))
     ·try simp only [go_sem] at hc
      have h := ite_T (by first | exact hc | omega | (simpa using hc) | (simp at hc ⊢; omega)) h
      refine tri_seq (tri_region hF [4] ?_)
      simp only [go_sem]
      obtain rfl := Option.some.inj h
      refine at_next (tri_ret (at_then_ret (at_retC hF [.tmp 4] rfl rfl rfl ?_)))
      (try simp only [retOK, resE, go_sem]) <;> first | rfl | (simp; done)
     ·try simp only [go_sem] at hc
      have h := ite_F (by first | exact hc | omega | (simpa using hc) | (simp at hc ⊢; omega)) h
      refine tri_skip (at_next (tri_joinM (D := Unit) (fun d => m_strings_Repeat_j1 s_0 count_1 = some r) [0, 7] (fun d => []) (fun d => []) ?_ ?_))
      ·refine tri_seq (tri_region hF [0, 7, 42] ?_)
       simp only [go_sem]
       obtain ⟨g0, h⟩ := ck_some h
       repeat (refine ⟨by first | with_reducible assumption | omega | (intros; first | assumption | omega) | (simp only [go_sem] at *; first | assumption | omega) | decide, ?_⟩)
       refine at_next (tri_block (tri_joinM (D := Bool) (fun d => m_strings_Repeat_j3 s_0 count_1 d = some r) [0, 7] (fun d => [(43, .val .bool d)]) (fun d => []) ?_ ?_))
       ·refine tri_seq (tri_region hF [0, 7, 42, 43] ?_)
        simp only [go_sem]
        refine at_next (tri_cond rfl (fun hc => ?_) (fun hc => ?_))
        ·try simp only [go_sem] at hc
         have h := ite_T (by first | exact hc | omega | (simpa using hc) | (simp at hc ⊢; omega)) h
         refine tri_skip (at_then_norm (at_fit ((decide ((s_0.getD (0 : Nat) (0 : Nat)) = (32 : Nat)))) h rfl ?_))
         ·(try simp only [fitE, fitV, true_or, and_self, go_sem]) <;> (repeat' apply And.intro) <;> first | rfl | (left; rfl) | (right; rfl) | (left; simp only [go_sem]; done) | (right; simp only [go_sem]; done) | (simp; done) | (simp only [*]; done) | omega
        ·try simp only [go_sem] at hc
         have h := ite_F (by first | exact hc | omega | (simpa using hc) | (simp at hc ⊢; omega)) h
         refine tri_seq (tri_region hF [0, 7, 42, 43] ?_)
         simp only [go_sem]
         refine at_next (tri_cond rfl (fun hc => ?_) (fun hc => ?_))
         ·try simp only [go_sem] at hc
          have h := ite_T (by first | exact hc | omega | (simpa using hc) | (simp at hc ⊢; omega)) h
          refine tri_skip (at_then_norm (at_fit ((decide ((s_0.getD (0 : Nat) (0 : Nat)) = (45 : Nat)))) h rfl ?_))
          ·(try simp only [fitE, fitV, true_or, and_self, go_sem]) <;> (repeat' apply And.intro) <;> first | rfl | (left; rfl) | (right; rfl) | (left; simp only [go_sem]; done) | (right; simp only [go_sem]; done) | (simp; done) | (simp only [*]; done) | omega
         ·try simp only [go_sem] at hc
          have h := ite_F (by first | exact hc | omega | (simpa using hc) | (simp at hc ⊢; omega)) h
          refine tri_seq (tri_region hF [0, 7, 42, 43] ?_)
          simp only [go_sem]
          refine at_next (tri_cond rfl (fun hc => ?_) (fun hc => ?_))
          ·try simp only [go_sem] at hc
           have h := ite_T (by first | exact hc | omega | (simpa using hc) | (simp at hc ⊢; omega)) h
           refine tri_skip (at_then_norm (at_fit ((decide ((s_0.getD (0 : Nat) (0 : Nat)) = (48 : Nat)))) h rfl ?_))
           ·(try simp only [fitE, fitV, true_or, and_self, go_sem]) <;> (repeat' apply And.intro) <;> first | rfl | (left; rfl) | (right; rfl) | (left; simp only [go_sem]; done) | (right; simp only [go_sem]; done) | (simp; done) | (simp only [*]; done) | omega
          ·try simp only [go_sem] at hc
           have h := ite_F (by first | exact hc | omega | (simpa using hc) | (simp at hc ⊢; omega)) h
           refine tri_seq (tri_region hF [0, 7, 42, 43] ?_)
           simp only [go_sem]
           refine at_next (tri_cond rfl (fun hc => ?_) (fun hc => ?_))
           ·try simp only [go_sem] at hc
            have h := ite_T (by first | exact hc | omega | (simpa using hc) | (simp at hc ⊢; omega)) h
            refine tri_skip (at_then_norm (at_fit ((decide ((s_0.getD (0 : Nat) (0 : Nat)) = (61 : Nat)))) h rfl ?_))
            ·(try simp only [fitE, fitV, true_or, and_self, go_sem]) <;> (repeat' apply And.intro) <;> first | rfl | (left; rfl) | (right; rfl) | (left; simp only [go_sem]; done) | (right; simp only [go_sem]; done) | (simp; done) | (simp only [*]; done) | omega
           ·try simp only [go_sem] at hc
            have h := ite_F (by first | exact hc | omega | (simpa using hc) | (simp at hc ⊢; omega)) h
            refine tri_region hF [0, 7, 43] ?_
            simp only [go_sem]
            refine at_then_norm (at_fit ((decide ((s_0.getD (0 : Nat) (0 : Nat)) = (9 : Nat)))) h rfl ?_)
            ·(try simp only [fitE, fitV, true_or, and_self, go_sem]) <;> (repeat' apply And.intro) <;> first | rfl | (left; rfl) | (right; rfl) | (left; simp only [go_sem]; done) | (right; simp only [go_sem]; done) | (simp; done) | (simp only [*]; done) | omega
       ·rintro x43_5 h
        try dsimp only at h
        simp only [go_sem]
        unfold m_strings_Repeat_j3 at h
        refine tri_cond rfl (fun hc => ?_) (fun hc => ?_)
        ·try simp only [go_sem] at hc
         have h := ite_T (by first | exact hc | omega | (simpa using hc) | (simp at hc ⊢; omega)) h
         refine tri_block (tri_seq (tri_region hF [0, 7, 49] ?_))
         simp only [go_sem]
         obtain ⟨g0, h⟩ := ck_some h
         repeat (refine ⟨by first | with_reducible assumption | omega | (intros; first | assumption | omega) | (simp only [go_sem] at *; first | assumption | omega) | (intro q0; (try have e0 := g0 (by first | exact q0 | omega | (simpa using q0))); first | assumption | omega) | decide, ?_⟩)
         refine at_next (tri_cond rfl (fun hc => ?_) (fun hc => ?_))
         ·try simp only [go_sem] at hc
          have h := ite_T (by first | exact hc | omega | (simpa using hc) | (simp at hc ⊢; omega)) h
          refine tri_seq (tri_region hF [4] ?_)
          simp only [go_sem]
          obtain ⟨g0, h⟩ := ck_some h
          repeat (refine ⟨by first | with_reducible assumption | omega | (intros; first | assumption | omega) | (simp only [go_sem] at *; first | assumption | omega) | decide, ?_⟩)
          obtain rfl := Option.some.inj h
          refine at_next (tri_ret (at_block_ret (at_block_ret (at_then_ret (at_retC hF [.tmp 4] rfl rfl rfl ?_)))))
          (try simp only [retOK, resE, go_sem]) <;> first | rfl | (simp; done)
         ·try simp only [go_sem] at hc
          have h := ite_F (by first | exact hc | omega | (simpa using hc) | (simp at hc ⊢; omega)) h
          refine tri_seq (tri_region hF [0, 7, 58] ?_)
          simp only [go_sem]
          obtain ⟨g0, h⟩ := ck_some h
          repeat (refine ⟨by first | with_reducible assumption | omega | (intros; first | assumption | omega) | (simp only [go_sem] at *; first | assumption | omega) | (intro q0; (try have e0 := g0 (by first | exact q0 | omega | (simpa using q0))); first | assumption | omega) | decide, ?_⟩)
          refine at_next (tri_cond rfl (fun hc => ?_) (fun hc => ?_))
          ·try simp only [go_sem] at hc
           have h := ite_T (by first | exact hc | omega | (simpa using hc) | (simp at hc ⊢; omega)) h
           refine tri_seq (tri_region hF [4] ?_)
           simp only [go_sem]
           obtain ⟨g0, h⟩ := ck_some h
           repeat (refine ⟨by first | with_reducible assumption | omega | (intros; first | assumption | omega) | (simp only [go_sem] at *; first | assumption | omega) | decide, ?_⟩)
           obtain rfl := Option.some.inj h
           refine at_next (tri_ret (at_block_ret (at_block_ret (at_then_ret (at_retC hF [.tmp 4] rfl rfl rfl ?_)))))
           (try simp only [retOK, resE, go_sem]) <;> first | rfl | (simp; done)
          ·try simp only [go_sem] at hc
           have h := ite_F (by first | exact hc | omega | (simpa using hc) | (simp at hc ⊢; omega)) h
           refine tri_seq (tri_region hF [0, 7, 67] ?_)
           simp only [go_sem]
           obtain ⟨g0, h⟩ := ck_some h
           repeat (refine ⟨by first | with_reducible assumption | omega | (intros; first | assumption | omega) | (simp only [go_sem] at *; first | assumption | omega) | (intro q0; (try have e0 := g0 (by first | exact q0 | omega | (simpa using q0))); first | assumption | omega) | decide, ?_⟩)
           refine at_next (tri_cond rfl (fun hc => ?_) (fun hc => ?_))
           ·try simp only [go_sem] at hc
            have h := ite_T (by first | exact hc | omega | (simpa using hc) | (simp at hc ⊢; omega)) h
            refine tri_seq (tri_region hF [4] ?_)
            simp only [go_sem]
            obtain ⟨g0, h⟩ := ck_some h
            repeat (refine ⟨by first | with_reducible assumption | omega | (intros; first | assumption | omega) | (simp only [go_sem] at *; first | assumption | omega) | decide, ?_⟩)
            obtain rfl := Option.some.inj h
            refine at_next (tri_ret (at_block_ret (at_block_ret (at_then_ret (at_retC hF [.tmp 4] rfl rfl rfl ?_)))))
            (try simp only [retOK, resE, go_sem]) <;> first | rfl | (simp; done)
           ·try simp only [go_sem] at hc
            have h := ite_F (by first | exact hc | omega | (simpa using hc) | (simp at hc ⊢; omega)) h
            refine tri_seq (tri_region hF [0, 7, 76] ?_)
            simp only [go_sem]
            obtain ⟨g0, h⟩ := ck_some h
            repeat (refine ⟨by first | with_reducible assumption | omega | (intros; first | assumption | omega) | (simp only [go_sem] at *; first | assumption | omega) | (intro q0; (try have e0 := g0 (by first | exact q0 | omega | (simpa using q0))); first | assumption | omega) | decide, ?_⟩)
            refine at_next (tri_cond rfl (fun hc => ?_) (fun hc => ?_))
            ·try simp only [go_sem] at hc
             have h := ite_T (by first | exact hc | omega | (simpa using hc) | (simp at hc ⊢; omega)) h
             refine tri_seq (tri_region hF [4] ?_)
             simp only [go_sem]
             obtain ⟨g0, h⟩ := ck_some h
             repeat (refine ⟨by first | with_reducible assumption | omega | (intros; first | assumption | omega) | (simp only [go_sem] at *; first | assumption | omega) | decide, ?_⟩)
             obtain rfl := Option.some.inj h
             refine at_next (tri_ret (at_block_ret (at_block_ret (at_then_ret (at_retC hF [.tmp 4] rfl rfl rfl ?_)))))
             (try simp only [retOK, resE, go_sem]) <;> first | rfl | (simp; done)
            ·try simp only [go_sem] at hc
             have h := ite_F (by first | exact hc | omega | (simpa using hc) | (simp at hc ⊢; omega)) h
             refine tri_seq (tri_region hF [0, 7, 85] ?_)
             simp only [go_sem]
             obtain ⟨g0, h⟩ := ck_some h
             repeat (refine ⟨by first | with_reducible assumption | omega | (intros; first | assumption | omega) | (simp only [go_sem] at *; first | assumption | omega) | (intro q0; (try have e0 := g0 (by first | exact q0 | omega | (simpa using q0))); first | assumption | omega) | decide, ?_⟩)
             refine at_next (tri_cond rfl (fun hc => ?_) (fun hc => ?_))
             ·try simp only [go_sem] at hc
              have h := ite_T (by first | exact hc | omega | (simpa using hc) | (simp at hc ⊢; omega)) h
              refine tri_seq (tri_region hF [4] ?_)
              simp only [go_sem]
              obtain ⟨g0, h⟩ := ck_some h
              repeat (refine ⟨by first | with_reducible assumption | omega | (intros; first | assumption | omega) | (simp only [go_sem] at *; first | assumption | omega) | decide, ?_⟩)
              obtain rfl := Option.some.inj h
              refine at_next (tri_ret (at_block_ret (at_block_ret (at_then_ret (at_retC hF [.tmp 4] rfl rfl rfl ?_)))))
              (try simp only [retOK, resE, go_sem]) <;> first | rfl | (simp; done)
             ·try simp only [go_sem] at hc
              have h := ite_F (by first | exact hc | omega | (simpa using hc) | (simp at hc ⊢; omega)) h
              refine tri_skip (at_block_norm (at_block_norm (at_then_norm (at_fit (()) h rfl ?_))))
              ·(try simp only [fitE, fitV, true_or, and_self, go_sem]) <;> (repeat' apply And.intro) <;> first | rfl | (left; rfl) | (right; rfl) | (left; simp only [go_sem]; done) | (right; simp only [go_sem]; done) | (simp; done) | (simp only [*]; done) | omega
        ·try simp only [go_sem] at hc
         have h := ite_F (by first | exact hc | omega | (simpa using hc) | (simp at hc ⊢; omega)) h
         refine tri_skip (at_block_norm (at_then_norm (at_fit (()) h rfl ?_)))
         ·(try simp only [fitE, fitV, true_or, and_self, go_sem]) <;> (repeat' apply And.intro) <;> first | rfl | (left; rfl) | (right; rfl) | (left; simp only [go_sem]; done) | (right; simp only [go_sem]; done) | (simp; done) | (simp only [*]; done) | omega
      ·rintro u h
       try dsimp only at h
       simp only [go_sem]
       unfold m_strings_Repeat_j1 at h
       refine tri_seq (tri_region hF [0, 7, 8] ?_)
       simp only [go_sem]
       refine at_next (tri_joinM (D := Int) (fun d => m_strings_Repeat_j2 d = some r) [0, 7] (fun d => [(8, .val (.i .i64) d)]) (fun d => []) ?_ ?_)
       ·refine tri_seq (tri_region hF [0, 7, 8, 96] ?_)
        simp only [go_sem]
        refine at_next (tri_cond rfl (fun hc => ?_) (fun hc => ?_))
        ·try simp only [go_sem] at hc
         have h := ite_T (by first | exact hc | omega | (simpa using hc) | (simp at hc ⊢; omega)) h
         refine tri_seq (tri_region hF [0, 7, 8] ?_)
         simp only [go_sem]
         obtain ⟨g0, h⟩ := ck_some h
         obtain ⟨g1, h⟩ := ck_some h
         obtain ⟨g2, h⟩ := ck_some h
         try simp only [I64, I32] at g1
         try simp only [I64, I32] at g2
         repeat (refine ⟨by first | with_reducible assumption | omega | (intros; first | assumption | omega) | (simp only [go_sem] at *; first | assumption | omega) | decide, ?_⟩)
         refine at_next (tri_seq (tri_region hF [0, 7, 8, 104] ?_))
         simp only [go_sem]
         refine at_next (tri_cond rfl (fun hc => ?_) (fun hc => ?_))
         ·try simp only [go_sem] at hc
          have h := ite_T (by first | exact hc | omega | (simpa using hc) | (simp at hc ⊢; omega)) h
          refine tri_region hF [0, 7, 8] ?_
          simp only [go_sem]
          refine at_then_norm (at_fit ((((s_0.length) : Nat) : Int)) h rfl ?_)
          ·(try simp only [fitE, fitV, true_or, and_self, go_sem]) <;> (repeat' apply And.intro) <;> first | rfl | (left; rfl) | (right; rfl) | (left; simp only [go_sem]; done) | (right; simp only [go_sem]; done) | (simp; done) | (simp only [*]; done) | omega
         ·try simp only [go_sem] at hc
          have h := ite_F (by first | exact hc | omega | (simpa using hc) | (simp at hc ⊢; omega)) h
          refine tri_skip (at_then_norm (at_fit (((Int.tdiv (8192 : Int) (((s_0.length) : Nat) : Int)) * (((s_0.length) : Nat) : Int))) h rfl ?_))
          ·(try simp only [fitE, fitV, true_or, and_self, go_sem]) <;> (repeat' apply And.intro) <;> first | rfl | (left; rfl) | (right; rfl) | (left; simp only [go_sem]; done) | (right; simp only [go_sem]; done) | (simp; done) | (simp only [*]; done) | omega
        ·try simp only [go_sem] at hc
         have h := ite_F (by first | exact hc | omega | (simpa using hc) | (simp at hc ⊢; omega)) h
         refine tri_skip (at_then_norm (at_fit ((IntKind.i64.wrap ((((((m_bits_Mul (((((s_0.length) : Nat) : Int) % (18446744073709551616 : Int)).toNat) ((count_1 % (18446744073709551616 : Int)).toNat)).getD ((0 : Nat), (0 : Nat), ())).2).1) : Nat) : Int))) h rfl ?_))
         ·(try simp only [fitE, fitV, true_or, and_self, go_sem]) <;> (repeat' apply And.intro) <;> first | rfl | (left; rfl) | (right; rfl) | (left; simp only [go_sem]; done) | (right; simp only [go_sem]; done) | (simp; done) | (simp only [*]; done) | omega
       ·rintro chunkMax_4 h
        try dsimp only at h
        simp only [go_sem]
        unfold m_strings_Repeat_j2 at h
        cases h
attribute [go_sem] sm_strings_Repeat
end Nu
end Go.Proofs
namespace Go.Proofs
open Go.Vc
set_option maxRecDepth 20000
namespace Nu
noncomputable def m_slices_Equal_uint64_l4 (a0_0 : (List Nat)) (a1_1 : (List Nat)) (x13_5 : Int) : Option ((Int) ⊕ ((Unit) ⊕ Bool)) :=
  if x13_5 < (((a0_0.length) : Nat) : Int) then ck (0 ≤ x13_5 ∧ x13_5 < (((a0_0.length) : Nat) : Int)) (ck (0 ≤ x13_5 ∧ x13_5 < (((a1_1.length) : Nat) : Int)) (if ¬ ((a0_0.getD (x13_5.toNat) (0 : Nat)) = (a1_1.getD (x13_5.toNat) (0 : Nat))) then some (.inr (.inr false)) else ck (I64 (x13_5 + (1 : Int))) (some (.inl (x13_5 + (1 : Int)))))) else some (.inr (.inl ()))
noncomputable def m_slices_Equal_uint64 (a0_0 : (List Nat)) (a1_1 : (List Nat)) : Option Bool :=
  if ¬ ((((a0_0.length) : Nat) : Int) = (((a1_1.length) : Nat) : Int)) then some false else (loopO (fun d : Int => m_slices_Equal_uint64_l4 a0_0 a1_1 d) (0 : Int)).bind (fun e => match e with | (.inl e) => some true | (.inr e) => some e)
def a_slices_Equal_uint64 : Ty := .pair (.sl (.u .u64)) (.pair (.sl (.u .u64)) .unit)
attribute [go_sem] a_slices_Equal_uint64
noncomputable def sm_slices_Equal_uint64 : FSpec := mSpec a_slices_Equal_uint64 (.one .bool) (fun x => m_slices_Equal_uint64 x.1 x.2.1)
noncomputable def l_slices_Equal_uint64 : List (FuncId × FSpec) := []
theorem K_slices_Equal_uint64 : Known Tryd.prog GL l_slices_Equal_uint64 := .nil
set_option maxHeartbeats 4000000 in
theorem om_slices_Equal_uint64 : FOK Tryd.prog GL 57 sm_slices_Equal_uint64 := by
 refine fok_model (EM_ok K_slices_Equal_uint64) Tryd.func57 rfl (by kernel_rfl) (by decide) fun w0 S x r hw h => ?_
 have hF : FrOK (fr Tryd.prog (EM l_slices_Equal_uint64) S w0 Tryd.f57.ntmps) := ⟨EM_ok K_slices_Equal_uint64, mix⟩
 obtain ⟨(a0_0 : (List Nat)), (a1_1 : (List Nat)), u⟩ := x
 simp only [a_slices_Equal_uint64, Ty.wf, fits64] at hw
 simp only [args0, a_slices_Equal_uint64]
 try dsimp only at h
 unfold m_slices_Equal_uint64 at h
 refine tri_seq (tri_region hF [0, 1] ?_)
 simp only [go_sem]
 refine at_next (tri_seq (tri_seq (tri_region hF [0, 1, 10] ?_)))
 simp only [go_sem]
 refine at_next (tri_cond rfl (fun hc => ?_) (fun hc => ?_))
 ·try simp only [go_sem] at hc
  have h := ite_T (by first | exact hc | omega | (simpa using hc) | (simp at hc ⊢; omega)) h
  refine tri_seq (tri_region hF [4] ?_)
  simp only [go_sem]
  obtain rfl := Option.some.inj h
  refine at_next (tri_ret (at_then_ret (at_retC hF [.tmp 4] rfl rfl rfl ?_)))
  (try simp only [retOK, resE, go_sem]) <;> first | rfl | (simp; done)
 ·try simp only [go_sem] at hc
  have h := ite_F (by first | exact hc | omega | (simpa using hc) | (simp at hc ⊢; omega)) h
  refine tri_skip (at_next (tri_seq (tri_seq (tri_region hF [0, 1, 12, 13] ?_))))
  simp only [go_sem]
  refine at_next (tri_block (tri_loopM (D := Int) [0, 1, 12] (fun d => [(13, .val (.i .i64) d)]) (fun d => []) h ?_ ?_ ?_))
  ·first | rfl | (simp only [go_sem]; done)
  ·(try simp only [fitE, fitV, true_or, and_self, go_sem]) <;> (repeat' apply And.intro) <;> first | rfl | (left; rfl) | (right; rfl) | (left; simp only [go_sem]; done) | (right; simp only [go_sem]; done) | (simp; done) | (simp only [*]; done) | omega
  rintro x13_5 s4 h hs4
  simp only [go_sem]
  try dsimp only at h
  unfold m_slices_Equal_uint64_l4 at h
  refine tri_seq (tri_region hF [0, 1, 12, 13, 14] ?_)
  simp only [go_sem]
  refine at_next (tri_seq (tri_cond rfl (fun hc => ?_) (fun hc => ?_)))
  ·try simp only [go_sem] at hc
   have h := ite_T (by first | exact hc | omega | (simpa using hc) | (simp at hc ⊢; omega)) h
   refine tri_skip (at_next (tri_seq (tri_block (tri_seq (tri_region hF [0, 1, 5, 12, 13] ?_)))))
   simp only [go_sem]
   refine at_next (tri_seq (tri_region hF [0, 1, 12, 13, 24] ?_))
   simp only [go_sem]
   obtain ⟨g0, h⟩ := ck_some h
   obtain ⟨g1, h⟩ := ck_some h
   repeat (refine ⟨by first | with_reducible assumption | omega | (intros; first | assumption | omega) | (simp only [go_sem] at *; first | assumption | omega) | decide, ?_⟩)
   refine at_next (tri_cond rfl (fun hc => ?_) (fun hc => ?_))
   ·try simp only [go_sem] at hc
    have h := ite_T (by first | exact hc | omega | (simpa using hc) | (simp at hc ⊢; omega)) h
    refine tri_seq (tri_region hF [4] ?_)
    simp only [go_sem]
    obtain rfl := Option.some.inj h
    dsimp only [stepQ] at hs4
    have h := hs4
    try dsimp only at h
    obtain rfl := Option.some.inj h
    refine at_next (tri_ret (at_block_ret (at_then_ret (at_then_ret (at_block_ret (at_then_ret (at_retC hF [.tmp 4] rfl rfl rfl ?_)))))))
    (try simp only [retOK, resE, go_sem]) <;> first | rfl | (simp; done)
   ·try simp only [go_sem] at hc
    have h := ite_F (by first | exact hc | omega | (simpa using hc) | (simp at hc ⊢; omega)) h
    refine tri_skip (at_block_norm (at_next (tri_region hF [0, 1, 12, 13] ?_)))
    simp only [go_sem]
    obtain ⟨g0, h⟩ := ck_some h
    try simp only [I64, I32] at g0
    repeat (refine ⟨by first | with_reducible assumption | omega | (intros; first | assumption | omega) | (simp only [go_sem] at *; first | assumption | omega) | decide, ?_⟩)
    obtain rfl := Option.some.inj h
    dsimp only [stepQ] at hs4
    refine at_then_norm (at_fit ((x13_5 + (1 : Int))) hs4 rfl ?_)
    ·(try simp only [fitE, fitV, true_or, and_self, go_sem]) <;> (repeat' apply And.intro) <;> first | rfl | (left; rfl) | (right; rfl) | (left; simp only [go_sem]; done) | (right; simp only [go_sem]; done) | (simp; done) | (simp only [*]; done) | omega
  ·try simp only [go_sem] at hc
   have h := ite_F (by first | exact hc | omega | (simpa using hc) | (simp at hc ⊢; omega)) h
   obtain rfl := Option.some.inj h
   dsimp only [stepQ] at hs4
   have h := hs4
   try dsimp only at h
   refine tri_exit (at_then_exit (at_then_exit (at_block_exit (at_next (tri_seq (tri_region hF [4] ?_))))))
   simp only [go_sem]
   obtain rfl := Option.some.inj h
   refine at_next (tri_ret (at_retC hF [.tmp 4] rfl rfl rfl ?_))
   (try simp only [retOK, resE, go_sem]) <;> first | rfl | (simp; done)
attribute [go_sem] sm_slices_Equal_uint64
noncomputable def m_dec_text_l12 (l_8 : (List (List Nat))) (out_13 : (List Nat)) (x44_14 : Int) : Option (((List Nat) × Int) ⊕ (((List Nat)))) :=
  if x44_14 < (((l_8.length) : Nat) : Int) then ck (0 ≤ x44_14 ∧ x44_14 < (((l_8.length) : Nat) : Int)) (ck (((l_8.getD (x44_14.toNat) ([] : List Nat)).length) + (out_13.length) ≤ 9223372036854775807) (ck (I64 (x44_14 + (1 : Int))) (some (.inl (((l_8.getD (x44_14.toNat) ([] : List Nat)) ++ out_13), (x44_14 + (1 : Int))))))) else some (.inr out_13)
noncomputable def m_dec_text_j1 (l_8 : (List (List Nat))) : Option ((List Nat)) :=
  (loopO (fun d : (List Nat) × Int => m_dec_text_l12 l_8 d.1 d.2) ((strL ⟨#[]⟩), (0 : Int))).bind (fun e => some e)
noncomputable def m_dec_text_j2 (l_20 : (List (List Nat))) (m_19 : (List Nat)) (s_25 : (List Nat)) : Option (((List Nat) × (List (List Nat))) ⊕ (((List (List Nat))))) :=
  ck (((l_20.length) + (1 : Nat)) * 16 ≤ 140737488355328) (if (((((f_nat_QuoRem m_19 ([1000000000000000000] : List Nat)).1).length) : Nat) : Int) = (0 : Int) then some (.inr (l_20 ++ ([s_25] : List (List Nat)))) else ck (I64 (((((l_20 ++ ([s_25] : List (List Nat))).length) : Nat) : Int) - (1 : Int))) (ck (I64 ((18 : Int) - (((s_25.length) : Nat) : Int))) (ck (((m_strings_Repeat (strL ⟨#[48]⟩) ((18 : Int) - (((s_25.length) : Nat) : Int))).isSome = true)) (ck ((((m_strings_Repeat (strL ⟨#[48]⟩) ((18 : Int) - (((s_25.length) : Nat) : Int))).getD ([] : List Nat)).length) + (s_25.length) ≤ 9223372036854775807) (ck (0 ≤ (((((l_20 ++ ([s_25] : List (List Nat))).length) : Nat) : Int) - (1 : Int)) ∧ (((((l_20 ++ ([s_25] : List (List Nat))).length) : Nat) : Int) - (1 : Int)) < ((((l_20 ++ ([s_25] : List (List Nat))).length) : Nat) : Int)) (some (.inl (((f_nat_QuoRem m_19 ([1000000000000000000] : List Nat)).1), ((l_20 ++ ([s_25] : List (List Nat))).set ((((((l_20 ++ ([s_25] : List (List Nat))).length) : Nat) : Int) - (1 : Int)).toNat) (((m_strings_Repeat (strL ⟨#[48]⟩) ((18 : Int) - (((s_25.length) : Nat) : Int))).getD ([] : List Nat)) ++ s_25))))))))))
noncomputable def m_dec_text_l2 (m_19 : (List Nat)) (l_20 : (List (List Nat))) : Option (((List Nat) × (List (List Nat))) ⊕ (((List (List Nat))))) :=
  ck ((p_nat_QuoRem m_19 ([1000000000000000000] : List Nat))) (if (0 : Int) < ((((((f_nat_QuoRem m_19 ([1000000000000000000] : List Nat)).2).1).length) : Nat) : Int) then ck ((0 : Int) < ((((((f_nat_QuoRem m_19 ([1000000000000000000] : List Nat)).2).1).length) : Nat) : Int)) (ck (((m_strconv_FormatUint ((((f_nat_QuoRem m_19 ([1000000000000000000] : List Nat)).2).1).getD (0 : Nat) (0 : Nat)) (10 : Int)).isSome = true)) (m_dec_text_j2 l_20 m_19 ((m_strconv_FormatUint ((((f_nat_QuoRem m_19 ([1000000000000000000] : List Nat)).2).1).getD (0 : Nat) (0 : Nat)) (10 : Int)).getD ([] : List Nat)))) else m_dec_text_j2 l_20 m_19 (strL ⟨#[]⟩))
noncomputable def m_dec_text (m_0 : (List Nat)) : Option (List Nat) :=
  (loopO (fun d : (List Nat) × (List (List Nat)) => m_dec_text_l2 d.1 d.2) (m_0, ([] : List (List Nat)))).bind (fun e => m_dec_text_j1 e)
def a_dec_text : Ty := .pair (.sl (.u .u64)) .unit
attribute [go_sem] a_dec_text
noncomputable def sm_dec_text : FSpec := mSpec a_dec_text (.one .str) (fun x => m_dec_text x.1)
noncomputable def l_dec_text : List (FuncId × FSpec) := [(38, sm_strings_Repeat), (55, sp_nat_QuoRem), (65, sm_strconv_FormatUint)]
theorem K_dec_text : Known Tryd.prog GL l_dec_text := .cons om_strings_Repeat (by kernel_rfl) (.cons ok_nat_QuoRem (by kernel_rfl) (.cons om_strconv_FormatUint (by kernel_rfl) (.nil)))
theorem l_dec_text_38 : gam l_dec_text 38 = some sm_strings_Repeat := rfl
attribute [go_sem] l_dec_text_38
theorem l_dec_text_55 : gam l_dec_text 55 = some sp_nat_QuoRem := rfl
attribute [go_sem] l_dec_text_55
theorem l_dec_text_65 : gam l_dec_text 65 = some sm_strconv_FormatUint := rfl
attribute [go_sem] l_dec_text_65
set_option maxHeartbeats 4000000 in
theorem om_dec_text : FOK Tryd.prog GL 37 sm_dec_text := by
 refine fok_model (EM_ok K_dec_text) Tryd.func37 rfl (by kernel_rfl) (by decide) fun w0 S x r hw h => ?_
 have hF : FrOK (fr Tryd.prog (EM l_dec_text) S w0 Tryd.f37.ntmps) := ⟨EM_ok K_dec_text, mix⟩
 obtain ⟨(m_0 : (List Nat)), u⟩ := x
 simp only [a_dec_text, Ty.wf, fits64] at hw
 simp only [args0, a_dec_text]
 try dsimp only at h
 unfold m_dec_text at h
 refine tri_seq (tri_region hF [0] ?_)
 simp only [go_sem]
 refine at_next (tri_scope (tri_seq (tri_region hF [0, 3] ?_)))
 simp only [go_sem]
 refine at_next (tri_seq (tri_label (at_next (tri_joinM (D := (List (List Nat))) (fun d => m_dec_text_j1 d = some r) [] (fun d => [(3, .own 0)]) (fun d => [.inr (.row 9 .str d)]) ?_ ?_))))
 ·refine tri_block (tri_nilrow 3 9 .str rfl ?_)
  simp only [go_sem]
  refine tri_loopM (D := (List Nat) × (List (List Nat))) [] (fun d => [(0, .val (.sl (.u .u64)) d.1), (3, .own 0)]) (fun d => [.inr (.row 9 .str d.2)]) h ?_ ?_ ?_
  ·first | rfl | (simp only [go_sem]; done)
  ·(try simp only [fitE, fitV, true_or, and_self, go_sem]) <;> (repeat' apply And.intro) <;> first | rfl | (left; rfl) | (right; rfl) | (left; simp only [go_sem]; done) | (right; simp only [go_sem]; done) | (simp; done) | (simp only [*]; done) | omega
  rintro ⟨m_19, l_20⟩ s2 h hs2
  simp only [go_sem]
  try dsimp only at h
  unfold m_dec_text_l2 at h
  refine tri_block (tri_seq (tri_region hF [3, 4, 5] ?_))
  simp only [go_sem]
  obtain ⟨g0, h⟩ := ck_some h
  repeat (refine ⟨by first | with_reducible assumption | omega | (intros; first | assumption | omega) | (simp only [go_sem] at *; first | assumption | omega) | decide, ?_⟩)
  refine at_next (tri_seq (tri_region hF [3, 4, 5, 6] ?_))
  simp only [go_sem]
  refine at_next (tri_joinM (D := (List Nat)) (fun d => m_dec_text_j2 l_20 m_19 d = some s2) [4] (fun d => [(3, .own 0), (6, .val .str d)]) (fun d => [.inr (.row 9 .str l_20)]) ?_ ?_)
  ·refine tri_seq (tri_region hF [3, 4, 5, 6, 18] ?_)
   simp only [go_sem]
   refine at_next (tri_cond rfl (fun hc => ?_) (fun hc => ?_))
   ·try simp only [go_sem] at hc
    have h := ite_T (by first | exact hc | omega | (simpa using hc) | (simp at hc ⊢; omega)) h
    refine tri_region hF [3, 4, 6] ?_
    simp only [go_sem]
    obtain ⟨g0, h⟩ := ck_some h
    obtain ⟨g1, h⟩ := ck_some h
    repeat (refine ⟨by first | with_reducible assumption | omega | (intros; first | assumption | omega) | (simp only [go_sem] at *; first | assumption | omega) | decide, ?_⟩)
    refine at_then_norm (at_fit (((m_strconv_FormatUint ((((f_nat_QuoRem m_19 ([1000000000000000000] : List Nat)).2).1).getD (0 : Nat) (0 : Nat)) (10 : Int)).getD ([] : List Nat))) h rfl ?_)
    ·(try simp only [fitE, fitV, true_or, and_self, go_sem]) <;> (repeat' apply And.intro) <;> first | rfl | (left; rfl) | (right; rfl) | (left; simp only [go_sem]; done) | (right; simp only [go_sem]; done) | (simp; done) | (simp only [*]; done) | omega
   ·try simp only [go_sem] at hc
    have h := ite_F (by first | exact hc | omega | (simpa using hc) | (simp at hc ⊢; omega)) h
    refine tri_skip (at_then_norm (at_fit ((strL ⟨#[]⟩)) h rfl ?_))
    ·(try simp only [fitE, fitV, true_or, and_self, go_sem]) <;> (repeat' apply And.intro) <;> first | rfl | (left; rfl) | (right; rfl) | (left; simp only [go_sem]; done) | (right; simp only [go_sem]; done) | (simp; done) | (simp only [*]; done) | omega
  ·rintro s_25 h
   try dsimp only at h
   simp only [go_sem]
   unfold m_dec_text_j2 at h
   refine tri_seq (tri_regionB hF [3, 4, 6] ?_)
   simp only [go_sem]
   obtain ⟨g0, h⟩ := ck_some h
   repeat (refine ⟨by first | with_reducible assumption | omega | (intros; first | assumption | omega) | (simp only [go_sem] at *; first | assumption | omega) | decide, ?_⟩)
   refine at_next (tri_seq (tri_seq (tri_region hF [0, 3, 6] ?_)))
   simp only [go_sem]
   refine at_next (tri_seq (tri_region hF [0, 3, 6, 30] ?_))
   simp only [go_sem]
   refine at_next (tri_cond rfl (fun hc => ?_) (fun hc => ?_))
   ·try simp only [go_sem] at hc
    have h := ite_T (by first | exact hc | omega | (simpa using hc) | (simp at hc ⊢; omega)) h
    obtain rfl := Option.some.inj h
    dsimp only [stepQ] at hs2
    have h := hs2
    try dsimp only at h
    refine tri_exit (at_then_exit (at_block_other (by decide) (at_then_exit (at_block_exit (at_then_norm (at_ren [1] rfl rfl ?_))))))
    simp only [ren, ren1, renO, posOf, posAll, go_sem]
    refine at_fit ((l_20 ++ ([s_25] : List (List Nat)))) h rfl ?_
    ·(try simp only [fitE, fitV, true_or, and_self, go_sem]) <;> (repeat' apply And.intro) <;> first | rfl | (left; rfl) | (right; rfl) | (left; simp only [go_sem]; done) | (right; simp only [go_sem]; done) | (simp; done) | (simp only [*]; done) | omega
   ·try simp only [go_sem] at hc
    have h := ite_F (by first | exact hc | omega | (simpa using hc) | (simp at hc ⊢; omega)) h
    refine tri_skip (at_next (tri_regionB hF [0, 3] ?_))
    simp only [go_sem]
    obtain ⟨g0, h⟩ := ck_some h
    try simp only [I64, I32] at g0
    repeat (refine ⟨by first | with_reducible assumption | omega | (intros; first | assumption | omega) | (simp only [go_sem] at *; first | assumption | omega) | decide, ?_⟩)
    obtain ⟨g0, h⟩ := ck_some h
    try simp only [I64, I32] at g0
    repeat (refine ⟨by first | with_reducible assumption | omega | (intros; first | assumption | omega) | (simp only [go_sem] at *; first | assumption | omega) | decide, ?_⟩)
    obtain ⟨g0, h⟩ := ck_some h
    repeat (refine ⟨by first | with_reducible assumption | omega | (intros; first | assumption | omega) | (simp only [go_sem] at *; first | assumption | omega) | decide, ?_⟩)
    obtain ⟨g0, h⟩ := ck_some h
    repeat (refine ⟨by first | with_reducible assumption | omega | (intros; first | assumption | omega) | (simp only [go_sem] at *; first | assumption | omega) | decide, ?_⟩)
    obtain ⟨g0, h⟩ := ck_some h
    repeat (refine ⟨by first | with_reducible assumption | omega | (intros; first | assumption | omega) | (simp only [go_sem] at *; first | assumption | omega) | decide, ?_⟩)
    obtain rfl := Option.some.inj h
    dsimp only [stepQ] at hs2
    refine at_block_norm (at_then_norm (at_ren [1] rfl rfl ?_))
    simp only [ren, ren1, renO, posOf, posAll, go_sem]
    refine at_fit ((((f_nat_QuoRem m_19 ([1000000000000000000] : List Nat)).1), ((l_20 ++ ([s_25] : List (List Nat))).set ((((((l_20 ++ ([s_25] : List (List Nat))).length) : Nat) : Int) - (1 : Int)).toNat) (((m_strings_Repeat (strL ⟨#[48]⟩) ((18 : Int) - (((s_25.length) : Nat) : Int))).getD ([] : List Nat)) ++ s_25)))) hs2 rfl ?_
    ·(try simp only [fitE, fitV, true_or, and_self, go_sem]) <;> (repeat' apply And.intro) <;> first | rfl | (left; rfl) | (right; rfl) | (left; simp only [go_sem]; done) | (right; simp only [go_sem]; done) | (simp; done) | (simp only [*]; done) | omega
 ·rintro l_8 h
  try dsimp only at h
  simp only [go_sem]
  unfold m_dec_text_j1 at h
  refine tri_seq (tri_region hF [3, 7] ?_)
  simp only [go_sem]
  refine at_next (tri_seq (tri_seq (tri_region hF [7, 42, 43, 44] ?_)))
  simp only [go_sem]
  refine at_next (tri_block (tri_loopM (D := (List Nat) × Int) [43] (fun d => [(7, .val .str d.1), (42, .own 0), (44, .val (.i .i64) d.2)]) (fun d => [.inr (.row 9 .str l_8)]) h ?_ ?_ ?_))
  ·first | rfl | (simp only [go_sem]; done)
  ·(try simp only [fitE, fitV, true_or, and_self, go_sem]) <;> (repeat' apply And.intro) <;> first | rfl | (left; rfl) | (right; rfl) | (left; simp only [go_sem]; done) | (right; simp only [go_sem]; done) | (simp; done) | (simp only [*]; done) | omega
  rintro ⟨out_13, x44_14⟩ s12 h hs12
  simp only [go_sem]
  try dsimp only at h
  unfold m_dec_text_l12 at h
  refine tri_seq (tri_region hF [7, 42, 43, 44, 45] ?_)
  simp only [go_sem]
  refine at_next (tri_seq (tri_cond rfl (fun hc => ?_) (fun hc => ?_)))
  ·try simp only [go_sem] at hc
   have h := ite_T (by first | exact hc | omega | (simpa using hc) | (simp at hc ⊢; omega)) h
   refine tri_skip (at_next (tri_seq (tri_block (tri_seq (tri_region hF [7, 9, 42, 43, 44] ?_)))))
   simp only [go_sem]
   obtain ⟨g0, h⟩ := ck_some h
   repeat (refine ⟨by first | with_reducible assumption | omega | (intros; first | assumption | omega) | (simp only [go_sem] at *; first | assumption | omega) | decide, ?_⟩)
   refine at_next (tri_region hF [7, 42, 43, 44] ?_)
   simp only [go_sem]
   obtain ⟨g0, h⟩ := ck_some h
   repeat (refine ⟨by first | with_reducible assumption | omega | (intros; first | assumption | omega) | (simp only [go_sem] at *; first | assumption | omega) | decide, ?_⟩)
   refine at_block_norm (at_next (tri_region hF [7, 42, 43, 44] ?_))
   simp only [go_sem]
   obtain ⟨g0, h⟩ := ck_some h
   try simp only [I64, I32] at g0
   repeat (refine ⟨by first | with_reducible assumption | omega | (intros; first | assumption | omega) | (simp only [go_sem] at *; first | assumption | omega) | decide, ?_⟩)
   obtain rfl := Option.some.inj h
   dsimp only [stepQ] at hs12
   refine at_then_norm (at_fit ((((l_8.getD (x44_14.toNat) ([] : List Nat)) ++ out_13), (x44_14 + (1 : Int)))) hs12 rfl ?_)
   ·(try simp only [fitE, fitV, true_or, and_self, go_sem]) <;> (repeat' apply And.intro) <;> first | rfl | (left; rfl) | (right; rfl) | (left; simp only [go_sem]; done) | (right; simp only [go_sem]; done) | (simp; done) | (simp only [*]; done) | omega
  ·try simp only [go_sem] at hc
   have h := ite_F (by first | exact hc | omega | (simpa using hc) | (simp at hc ⊢; omega)) h
   obtain rfl := Option.some.inj h
   dsimp only [stepQ] at hs12
   have h := hs12
   try dsimp only at h
   refine tri_exit (at_then_exit (at_then_exit (at_block_exit (at_next (tri_seq (tri_region hF [2] ?_))))))
   simp only [go_sem]
   obtain rfl := Option.some.inj h
   refine at_next (tri_ret (at_scope_ret (at_retC hF [.tmp 2] rfl rfl rfl ?_)))
   (try simp only [retOK, resE, go_sem]) <;> first | rfl | (simp; done)
attribute [go_sem] sm_dec_text
noncomputable def m_dec_Text_j2 (d_0 : (Bool × ((List Nat) × (Int × Unit)))) (q_4 : (List Nat)) (s_5 : (List Nat)) : Option (((List Nat) × (Int × Unit))) :=
  if ((d_0.1) = true) ∧ ((0 : Int) < (((q_4.length) : Nat) : Int)) then ck (((strL ⟨#[45]⟩).length) + (s_5.length) ≤ 9223372036854775807) (some (((strL ⟨#[45]⟩) ++ s_5), (0 : Int), ())) else some (s_5, (0 : Int), ())
noncomputable def m_dec_Text_j1 (digits_1 : Int) (d_0 : (Bool × ((List Nat) × (Int × Unit)))) (q_4 : (List Nat)) : Option (((List Nat) × (Int × Unit))) :=
  ck (((m_dec_text q_4).isSome = true)) (ck (I64 (digits_1 + (1 : Int))) (ck (I64 ((digits_1 + (1 : Int)) - (((((m_dec_text q_4).getD ([] : List Nat)).length) : Nat) : Int))) (ck (((m_strings_Repeat (strL ⟨#[48]⟩) (max ((digits_1 + (1 : Int)) - (((((m_dec_text q_4).getD ([] : List Nat)).length) : Nat) : Int)) (0 : Int))).isSome = true)) (ck ((((m_strings_Repeat (strL ⟨#[48]⟩) (max ((digits_1 + (1 : Int)) - (((((m_dec_text q_4).getD ([] : List Nat)).length) : Nat) : Int)) (0 : Int))).getD ([] : List Nat)).length) + (((m_dec_text q_4).getD ([] : List Nat)).length) ≤ 9223372036854775807) (if (0 : Int) < digits_1 then ck (I64 (((((((m_strings_Repeat (strL ⟨#[48]⟩) (max ((digits_1 + (1 : Int)) - (((((m_dec_text q_4).getD ([] : List Nat)).length) : Nat) : Int)) (0 : Int))).getD ([] : List Nat)) ++ ((m_dec_text q_4).getD ([] : List Nat))).length) : Nat) : Int) - digits_1)) (ck (0 ≤ (((((((m_strings_Repeat (strL ⟨#[48]⟩) (max ((digits_1 + (1 : Int)) - (((((m_dec_text q_4).getD ([] : List Nat)).length) : Nat) : Int)) (0 : Int))).getD ([] : List Nat)) ++ ((m_dec_text q_4).getD ([] : List Nat))).length) : Nat) : Int) - digits_1) ∧ (((((((m_strings_Repeat (strL ⟨#[48]⟩) (max ((digits_1 + (1 : Int)) - (((((m_dec_text q_4).getD ([] : List Nat)).length) : Nat) : Int)) (0 : Int))).getD ([] : List Nat)) ++ ((m_dec_text q_4).getD ([] : List Nat))).length) : Nat) : Int) - digits_1) ≤ ((((((m_strings_Repeat (strL ⟨#[48]⟩) (max ((digits_1 + (1 : Int)) - (((((m_dec_text q_4).getD ([] : List Nat)).length) : Nat) : Int)) (0 : Int))).getD ([] : List Nat)) ++ ((m_dec_text q_4).getD ([] : List Nat))).length) : Nat) : Int)) (ck (((List.take ((((((((m_strings_Repeat (strL ⟨#[48]⟩) (max ((digits_1 + (1 : Int)) - (((((m_dec_text q_4).getD ([] : List Nat)).length) : Nat) : Int)) (0 : Int))).getD ([] : List Nat)) ++ ((m_dec_text q_4).getD ([] : List Nat))).length) : Nat) : Int) - digits_1).toNat) (((m_strings_Repeat (strL ⟨#[48]⟩) (max ((digits_1 + (1 : Int)) - (((((m_dec_text q_4).getD ([] : List Nat)).length) : Nat) : Int)) (0 : Int))).getD ([] : List Nat)) ++ ((m_dec_text q_4).getD ([] : List Nat)))).length) + ((strL ⟨#[46]⟩).length) ≤ 9223372036854775807) (ck (I64 (((((((m_strings_Repeat (strL ⟨#[48]⟩) (max ((digits_1 + (1 : Int)) - (((((m_dec_text q_4).getD ([] : List Nat)).length) : Nat) : Int)) (0 : Int))).getD ([] : List Nat)) ++ ((m_dec_text q_4).getD ([] : List Nat))).length) : Nat) : Int) - digits_1)) (ck (0 ≤ (((((((m_strings_Repeat (strL ⟨#[48]⟩) (max ((digits_1 + (1 : Int)) - (((((m_dec_text q_4).getD ([] : List Nat)).length) : Nat) : Int)) (0 : Int))).getD ([] : List Nat)) ++ ((m_dec_text q_4).getD ([] : List Nat))).length) : Nat) : Int) - digits_1) ∧ (((((((m_strings_Repeat (strL ⟨#[48]⟩) (max ((digits_1 + (1 : Int)) - (((((m_dec_text q_4).getD ([] : List Nat)).length) : Nat) : Int)) (0 : Int))).getD ([] : List Nat)) ++ ((m_dec_text q_4).getD ([] : List Nat))).length) : Nat) : Int) - digits_1) ≤ ((((((m_strings_Repeat (strL ⟨#[48]⟩) (max ((digits_1 + (1 : Int)) - (((((m_dec_text q_4).getD ([] : List Nat)).length) : Nat) : Int)) (0 : Int))).getD ([] : List Nat)) ++ ((m_dec_text q_4).getD ([] : List Nat))).length) : Nat) : Int)) (ck ((((List.take ((((((((m_strings_Repeat (strL ⟨#[48]⟩) (max ((digits_1 + (1 : Int)) - (((((m_dec_text q_4).getD ([] : List Nat)).length) : Nat) : Int)) (0 : Int))).getD ([] : List Nat)) ++ ((m_dec_text q_4).getD ([] : List Nat))).length) : Nat) : Int) - digits_1).toNat) (((m_strings_Repeat (strL ⟨#[48]⟩) (max ((digits_1 + (1 : Int)) - (((((m_dec_text q_4).getD ([] : List Nat)).length) : Nat) : Int)) (0 : Int))).getD ([] : List Nat)) ++ ((m_dec_text q_4).getD ([] : List Nat)))) ++ (strL ⟨#[46]⟩)).length) + ((List.drop ((((((((m_strings_Repeat (strL ⟨#[48]⟩) (max ((digits_1 + (1 : Int)) - (((((m_dec_text q_4).getD ([] : List Nat)).length) : Nat) : Int)) (0 : Int))).getD ([] : List Nat)) ++ ((m_dec_text q_4).getD ([] : List Nat))).length) : Nat) : Int) - digits_1).toNat) (((m_strings_Repeat (strL ⟨#[48]⟩) (max ((digits_1 + (1 : Int)) - (((((m_dec_text q_4).getD ([] : List Nat)).length) : Nat) : Int)) (0 : Int))).getD ([] : List Nat)) ++ ((m_dec_text q_4).getD ([] : List Nat)))).length) ≤ 9223372036854775807) (m_dec_Text_j2 d_0 q_4 (((List.take ((((((((m_strings_Repeat (strL ⟨#[48]⟩) (max ((digits_1 + (1 : Int)) - (((((m_dec_text q_4).getD ([] : List Nat)).length) : Nat) : Int)) (0 : Int))).getD ([] : List Nat)) ++ ((m_dec_text q_4).getD ([] : List Nat))).length) : Nat) : Int) - digits_1).toNat) (((m_strings_Repeat (strL ⟨#[48]⟩) (max ((digits_1 + (1 : Int)) - (((((m_dec_text q_4).getD ([] : List Nat)).length) : Nat) : Int)) (0 : Int))).getD ([] : List Nat)) ++ ((m_dec_text q_4).getD ([] : List Nat)))) ++ (strL ⟨#[46]⟩)) ++ (List.drop ((((((((m_strings_Repeat (strL ⟨#[48]⟩) (max ((digits_1 + (1 : Int)) - (((((m_dec_text q_4).getD ([] : List Nat)).length) : Nat) : Int)) (0 : Int))).getD ([] : List Nat)) ++ ((m_dec_text q_4).getD ([] : List Nat))).length) : Nat) : Int) - digits_1).toNat) (((m_strings_Repeat (strL ⟨#[48]⟩) (max ((digits_1 + (1 : Int)) - (((((m_dec_text q_4).getD ([] : List Nat)).length) : Nat) : Int)) (0 : Int))).getD ([] : List Nat)) ++ ((m_dec_text q_4).getD ([] : List Nat))))))))))) else m_dec_Text_j2 d_0 q_4 (((m_strings_Repeat (strL ⟨#[48]⟩) (max ((digits_1 + (1 : Int)) - (((((m_dec_text q_4).getD ([] : List Nat)).length) : Nat) : Int)) (0 : Int))).getD ([] : List Nat)) ++ ((m_dec_text q_4).getD ([] : List Nat))))))))
noncomputable def m_dec_Text (d_0 : (Bool × ((List Nat) × (Int × Unit)))) (digits_1 : Int) (up_2 : Bool) : Option ((List Nat) × (Int × Unit)) :=
  ck (((m_dyad_May d_0).isSome = true)) (if ((¬ (((m_dyad_May d_0).getD false) = true)) ∨ (digits_1 < (0 : Int))) ∨ ((60 : Int) < digits_1) then some ((strL ⟨#[]⟩), (1 : Int), ()) else if ((2000 : Int) < (((d_0.2).2).1)) ∨ ((((d_0.2).2).1) < (-2000 : Int)) then some ((strL ⟨#[]⟩), (2 : Int), ()) else ck ((pLeft ((d_0.2).1) (max (((d_0.2).2).1) (0 : Int)))) (ck (((m_dec_power (10 : Nat) digits_1).isSome = true)) (ck ((pSz2 (f_nat_Left ((d_0.2).1) (max (((d_0.2).2).1) (0 : Int))) ((m_dec_power (10 : Nat) digits_1).getD ([] : List Nat)))) (ck (I64 (0 - (((d_0.2).2).1))) (ck ((pRight (f_nat_Times (f_nat_Left ((d_0.2).1) (max (((d_0.2).2).1) (0 : Int))) ((m_dec_power (10 : Nat) digits_1).getD ([] : List Nat))) (max (0 - (((d_0.2).2).1)) (0 : Int)))) (ck ((((0 : Int) < ((((f_nat_Times (f_nat_Left ((d_0.2).1) (max (((d_0.2).2).1) (0 : Int))) ((m_dec_power (10 : Nat) digits_1).getD ([] : List Nat))).length) : Nat) : Int)) → ((pSz (f_nat_Times (f_nat_Left ((d_0.2).1) (max (((d_0.2).2).1) (0 : Int))) ((m_dec_power (10 : Nat) digits_1).getD ([] : List Nat))))))) (if (((0 : Int) < ((((f_nat_Times (f_nat_Left ((d_0.2).1) (max (((d_0.2).2).1) (0 : Int))) ((m_dec_power (10 : Nat) digits_1).getD ([] : List Nat))).length) : Nat) : Int)) ∧ ((f_nat_Zeros (f_nat_Times (f_nat_Left ((d_0.2).1) (max (((d_0.2).2).1) (0 : Int))) ((m_dec_power (10 : Nat) digits_1).getD ([] : List Nat)))) < (max (0 - (((d_0.2).2).1)) (0 : Int)))) ∧ ((up_2 != (d_0.1)) = true) then ck ((pSz2 (f_nat_Right (f_nat_Times (f_nat_Left ((d_0.2).1) (max (((d_0.2).2).1) (0 : Int))) ((m_dec_power (10 : Nat) digits_1).getD ([] : List Nat))) (max (0 - (((d_0.2).2).1)) (0 : Int))) ([1] : List Nat))) (m_dec_Text_j1 digits_1 d_0 (f_nat_Plus (f_nat_Right (f_nat_Times (f_nat_Left ((d_0.2).1) (max (((d_0.2).2).1) (0 : Int))) ((m_dec_power (10 : Nat) digits_1).getD ([] : List Nat))) (max (0 - (((d_0.2).2).1)) (0 : Int))) ([1] : List Nat))) else m_dec_Text_j1 digits_1 d_0 (f_nat_Right (f_nat_Times (f_nat_Left ((d_0.2).1) (max (((d_0.2).2).1) (0 : Int))) ((m_dec_power (10 : Nat) digits_1).getD ([] : List Nat))) (max (0 - (((d_0.2).2).1)) (0 : Int))))))))))
def a_dec_Text : Ty := .pair (.pair .bool (.pair (.sl (.u .u64)) (.pair (.i .i64) .unit))) (.pair (.i .i64) (.pair .bool .unit))
attribute [go_sem] a_dec_Text
noncomputable def sm_dec_Text : FSpec := mSpec a_dec_Text (.tup (.pair .str (.pair (.i .i64) .unit))) (fun x => m_dec_Text x.1 x.2.1 x.2.2.1)
noncomputable def l_dec_Text : List (FuncId × FSpec) := [(10, sm_dyad_May), (31, sp_nat_Times), (32, sp_nat_Left), (33, sm_dec_power), (34, sp_nat_Right), (35, sp_nat_Zeros), (36, sp_nat_Plus), (37, sm_dec_text), (38, sm_strings_Repeat)]
theorem K_dec_Text : Known Tryd.prog GL l_dec_Text := .cons om_dyad_May (by kernel_rfl) (.cons ok_nat_Times (by kernel_rfl) (.cons ok_nat_Left (by kernel_rfl) (.cons om_dec_power (by kernel_rfl) (.cons ok_nat_Right (by kernel_rfl) (.cons ok_nat_Zeros (by kernel_rfl) (.cons ok_nat_Plus (by kernel_rfl) (.cons om_dec_text (by kernel_rfl) (.cons om_strings_Repeat (by kernel_rfl) (.nil)))))))))
theorem l_dec_Text_10 : gam l_dec_Text 10 = some sm_dyad_May := rfl
attribute [go_sem] l_dec_Text_10
theorem l_dec_Text_31 : gam l_dec_Text 31 = some sp_nat_Times := rfl
attribute [go_sem] l_dec_Text_31
theorem l_dec_Text_32 : gam l_dec_Text 32 = some sp_nat_Left := rfl
attribute [go_sem] l_dec_Text_32
theorem l_dec_Text_33 : gam l_dec_Text 33 = some sm_dec_power := rfl
attribute [go_sem] l_dec_Text_33
theorem l_dec_Text_34 : gam l_dec_Text 34 = some sp_nat_Right := rfl
attribute [go_sem] l_dec_Text_34
theorem l_dec_Text_35 : gam l_dec_Text 35 = some sp_nat_Zeros := rfl
attribute [go_sem] l_dec_Text_35
theorem l_dec_Text_36 : gam l_dec_Text 36 = some sp_nat_Plus := rfl
attribute [go_sem] l_dec_Text_36
theorem l_dec_Text_37 : gam l_dec_Text 37 = some sm_dec_text := rfl
attribute [go_sem] l_dec_Text_37
theorem l_dec_Text_38 : gam l_dec_Text 38 = some sm_strings_Repeat := rfl
attribute [go_sem] l_dec_Text_38
set_option maxHeartbeats 4000000 in
theorem om_dec_Text : FOK Tryd.prog GL 12 sm_dec_Text := by
 refine fok_model (EM_ok K_dec_Text) Tryd.func12 rfl (by kernel_rfl) (by decide) fun w0 S x r hw h => ?_
 have hF : FrOK (fr Tryd.prog (EM l_dec_Text) S w0 Tryd.f12.ntmps) := ⟨EM_ok K_dec_Text, mix⟩
 obtain ⟨(d_0 : (Bool × ((List Nat) × (Int × Unit)))), (digits_1 : Int), (up_2 : Bool), u⟩ := x
 simp only [a_dec_Text, Ty.wf, fits64] at hw
 simp only [args0, a_dec_Text]
 try dsimp only at h
 unfold m_dec_Text at h
 refine tri_seq (tri_regionB hF [1, 2, 3] ?_)
 simp only [go_sem]
 refine at_next (tri_seq (tri_block (tri_seq (tri_region hF [1, 2, 3, 12] ?_))))
 simp only [go_sem]
 obtain ⟨g0, h⟩ := ck_some h
 repeat (refine ⟨by first | with_reducible assumption | omega | (intros; first | assumption | omega) | (simp only [go_sem] at *; first | assumption | omega) | decide, ?_⟩)
 refine at_next (tri_cond rfl (fun hc => ?_) (fun hc => ?_))
 ·try simp only [go_sem] at hc
  have h := ite_T (by first | exact hc | omega | (simpa using hc) | (simp at hc ⊢; omega)) h
  refine tri_seq (tri_region hF [6, 7] ?_)
  simp only [go_sem]
  obtain rfl := Option.some.inj h
  refine at_next (tri_ret (at_block_ret (at_then_ret (at_retC hF [.tmp 6, .tmp 7] rfl rfl rfl ?_))))
  (try simp only [retOK, resE, go_sem]) <;> first | rfl | (simp; done)
 ·try simp only [go_sem] at hc
  have h := ite_F (by first | exact hc | omega | (simpa using hc) | (simp at hc ⊢; omega)) h
  refine tri_seq (tri_region hF [1, 2, 3, 24] ?_)
  simp only [go_sem]
  refine at_next (tri_cond rfl (fun hc => ?_) (fun hc => ?_))
  ·try simp only [go_sem] at hc
   have h := ite_T (by first | exact hc | omega | (simpa using hc) | (simp at hc ⊢; omega)) h
   refine tri_seq (tri_region hF [6, 7] ?_)
   simp only [go_sem]
   obtain rfl := Option.some.inj h
   refine at_next (tri_ret (at_block_ret (at_then_ret (at_retC hF [.tmp 6, .tmp 7] rfl rfl rfl ?_))))
   (try simp only [retOK, resE, go_sem]) <;> first | rfl | (simp; done)
  ·try simp only [go_sem] at hc
   have h := ite_F (by first | exact hc | omega | (simpa using hc) | (simp at hc ⊢; omega)) h
   refine tri_skip (at_block_norm (at_next (tri_seq (tri_region hF [1, 2, 3, 8] ?_))))
   simp only [go_sem]
   obtain ⟨g0, h⟩ := ck_some h
   obtain ⟨g1, h⟩ := ck_some h
   obtain ⟨g2, h⟩ := ck_some h
   repeat (refine ⟨by first | with_reducible assumption | omega | (intros; first | assumption | omega) | (simp only [go_sem] at *; first | assumption | omega) | decide, ?_⟩)
   refine at_next (tri_seq (tri_region hF [1, 2, 3, 8, 9] ?_))
   simp only [go_sem]
   obtain ⟨g0, h⟩ := ck_some h
   try simp only [I64, I32] at g0
   repeat (refine ⟨by first | with_reducible assumption | omega | (intros; first | assumption | omega) | (simp only [go_sem] at *; first | assumption | omega) | decide, ?_⟩)
   refine at_next (tri_seq (tri_region hF [1, 2, 3, 8, 9, 10] ?_))
   simp only [go_sem]
   obtain ⟨g0, h⟩ := ck_some h
   repeat (refine ⟨by first | with_reducible assumption | omega | (intros; first | assumption | omega) | (simp only [go_sem] at *; first | assumption | omega) | decide, ?_⟩)
   refine at_next (tri_joinM (D := (List Nat)) (fun d => m_dec_Text_j1 digits_1 d_0 d = some r) [1] (fun d => [(3, .ptr 0 []), (10, .val (.sl (.u .u64)) d)]) (fun d => [.inr (.box 3 (.val (.pair .bool (.pair (.sl (.u .u64)) (.pair (.i .i64) .unit))) d_0))]) ?_ ?_)
   ·refine tri_seq (tri_region hF [1, 3, 10, 63] ?_)
    simp only [go_sem]
    obtain ⟨g0, h⟩ := ck_some h
    repeat (refine ⟨by first | with_reducible assumption | omega | (intros; first | assumption | omega) | (simp only [go_sem] at *; first | assumption | omega) | (intro q0; (try have e0 := g0 (by first | exact q0 | omega | (simpa using q0))); first | assumption | omega) | decide, ?_⟩)
    refine at_next (tri_cond rfl (fun hc => ?_) (fun hc => ?_))
    ·try simp only [go_sem] at hc
     have h := ite_T (by first | exact hc | omega | (simpa using hc) | (simp at hc ⊢; omega)) h
     refine tri_region hF [1, 3, 10] ?_
     simp only [go_sem]
     obtain ⟨g0, h⟩ := ck_some h
     repeat (refine ⟨by first | with_reducible assumption | omega | (intros; first | assumption | omega) | (simp only [go_sem] at *; first | assumption | omega) | decide, ?_⟩)
     refine at_then_norm (at_fit ((f_nat_Plus (f_nat_Right (f_nat_Times (f_nat_Left ((d_0.2).1) (max (((d_0.2).2).1) (0 : Int))) ((m_dec_power (10 : Nat) digits_1).getD ([] : List Nat))) (max (0 - (((d_0.2).2).1)) (0 : Int))) ([1] : List Nat))) h rfl ?_)
     ·(try simp only [fitE, fitV, true_or, and_self, go_sem]) <;> (repeat' apply And.intro) <;> first | rfl | (left; rfl) | (right; rfl) | (left; simp only [go_sem]; done) | (right; simp only [go_sem]; done) | (simp; done) | (simp only [*]; done) | omega
    ·try simp only [go_sem] at hc
     have h := ite_F (by first | exact hc | omega | (simpa using hc) | (simp at hc ⊢; omega)) h
     refine tri_skip (at_then_norm (at_fit ((f_nat_Right (f_nat_Times (f_nat_Left ((d_0.2).1) (max (((d_0.2).2).1) (0 : Int))) ((m_dec_power (10 : Nat) digits_1).getD ([] : List Nat))) (max (0 - (((d_0.2).2).1)) (0 : Int)))) h rfl ?_))
     ·(try simp only [fitE, fitV, true_or, and_self, go_sem]) <;> (repeat' apply And.intro) <;> first | rfl | (left; rfl) | (right; rfl) | (left; simp only [go_sem]; done) | (right; simp only [go_sem]; done) | (simp; done) | (simp only [*]; done) | omega
   ·rintro q_4 h
    try dsimp only at h
    simp only [go_sem]
    unfold m_dec_Text_j1 at h
    refine tri_seq (tri_region hF [1, 3, 10, 11] ?_)
    simp only [go_sem]
    obtain ⟨g0, h⟩ := ck_some h
    repeat (refine ⟨by first | with_reducible assumption | omega | (intros; first | assumption | omega) | (simp only [go_sem] at *; first | assumption | omega) | decide, ?_⟩)
    refine at_next (tri_seq (tri_region hF [1, 3, 10, 11] ?_))
    simp only [go_sem]
    obtain ⟨g0, h⟩ := ck_some h
    obtain ⟨g1, h⟩ := ck_some h
    obtain ⟨g2, h⟩ := ck_some h
    obtain ⟨g3, h⟩ := ck_some h
    try simp only [I64, I32] at g0
    try simp only [I64, I32] at g1
    repeat (refine ⟨by first | with_reducible assumption | omega | (intros; first | assumption | omega) | (simp only [go_sem] at *; first | assumption | omega) | decide, ?_⟩)
    refine at_next (tri_joinM (D := (List Nat)) (fun d => m_dec_Text_j2 d_0 q_4 d = some r) [10] (fun d => [(3, .ptr 0 []), (11, .val .str d)]) (fun d => [.inr (.box 3 (.val (.pair .bool (.pair (.sl (.u .u64)) (.pair (.i .i64) .unit))) d_0))]) ?_ ?_)
    ·refine tri_seq (tri_region hF [1, 3, 10, 11, 79] ?_)
     simp only [go_sem]
     refine at_next (tri_cond rfl (fun hc => ?_) (fun hc => ?_))
     ·try simp only [go_sem] at hc
      have h := ite_T (by first | exact hc | omega | (simpa using hc) | (simp at hc ⊢; omega)) h
      refine tri_region hF [3, 10, 11] ?_
      simp only [go_sem]
      obtain ⟨g0, h⟩ := ck_some h
      obtain ⟨g1, h⟩ := ck_some h
      obtain ⟨g2, h⟩ := ck_some h
      obtain ⟨g3, h⟩ := ck_some h
      obtain ⟨g4, h⟩ := ck_some h
      obtain ⟨g5, h⟩ := ck_some h
      try simp only [I64, I32] at g0
      try simp only [I64, I32] at g3
      repeat (refine ⟨by first | with_reducible assumption | omega | (intros; first | assumption | omega) | (simp only [go_sem] at *; first | assumption | omega) | decide, ?_⟩)
      refine at_then_norm (at_fit ((((List.take ((((((((m_strings_Repeat (strL ⟨#[48]⟩) (max ((digits_1 + (1 : Int)) - (((((m_dec_text q_4).getD ([] : List Nat)).length) : Nat) : Int)) (0 : Int))).getD ([] : List Nat)) ++ ((m_dec_text q_4).getD ([] : List Nat))).length) : Nat) : Int) - digits_1).toNat) (((m_strings_Repeat (strL ⟨#[48]⟩) (max ((digits_1 + (1 : Int)) - (((((m_dec_text q_4).getD ([] : List Nat)).length) : Nat) : Int)) (0 : Int))).getD ([] : List Nat)) ++ ((m_dec_text q_4).getD ([] : List Nat)))) ++ (strL ⟨#[46]⟩)) ++ (List.drop ((((((((m_strings_Repeat (strL ⟨#[48]⟩) (max ((digits_1 + (1 : Int)) - (((((m_dec_text q_4).getD ([] : List Nat)).length) : Nat) : Int)) (0 : Int))).getD ([] : List Nat)) ++ ((m_dec_text q_4).getD ([] : List Nat))).length) : Nat) : Int) - digits_1).toNat) (((m_strings_Repeat (strL ⟨#[48]⟩) (max ((digits_1 + (1 : Int)) - (((((m_dec_text q_4).getD ([] : List Nat)).length) : Nat) : Int)) (0 : Int))).getD ([] : List Nat)) ++ ((m_dec_text q_4).getD ([] : List Nat)))))) h rfl ?_)
      ·(try simp only [fitE, fitV, true_or, and_self, go_sem]) <;> (repeat' apply And.intro) <;> first | rfl | (left; rfl) | (right; rfl) | (left; simp only [go_sem]; done) | (right; simp only [go_sem]; done) | (simp; done) | (simp only [*]; done) | omega
     ·try simp only [go_sem] at hc
      have h := ite_F (by first | exact hc | omega | (simpa using hc) | (simp at hc ⊢; omega)) h
      refine tri_skip (at_then_norm (at_fit ((((m_strings_Repeat (strL ⟨#[48]⟩) (max ((digits_1 + (1 : Int)) - (((((m_dec_text q_4).getD ([] : List Nat)).length) : Nat) : Int)) (0 : Int))).getD ([] : List Nat)) ++ ((m_dec_text q_4).getD ([] : List Nat)))) h rfl ?_))
      ·(try simp only [fitE, fitV, true_or, and_self, go_sem]) <;> (repeat' apply And.intro) <;> first | rfl | (left; rfl) | (right; rfl) | (left; simp only [go_sem]; done) | (right; simp only [go_sem]; done) | (simp; done) | (simp only [*]; done) | omega
    ·rintro s_5 h
     try dsimp only at h
     simp only [go_sem]
     unfold m_dec_Text_j2 at h
     refine tri_seq (tri_seq (tri_region hF [11, 100] ?_))
     simp only [go_sem]
     refine at_next (tri_cond rfl (fun hc => ?_) (fun hc => ?_))
     ·try simp only [go_sem] at hc
      have h := ite_T (by first | exact hc | omega | (simpa using hc) | (simp at hc ⊢; omega)) h
      refine tri_region hF [11] ?_
      simp only [go_sem]
      obtain ⟨g0, h⟩ := ck_some h
      repeat (refine ⟨by first | with_reducible assumption | omega | (intros; first | assumption | omega) | (simp only [go_sem] at *; first | assumption | omega) | decide, ?_⟩)
      refine at_next (tri_seq (tri_region hF [6, 7] ?_))
      simp only [go_sem]
      obtain rfl := Option.some.inj h
      refine at_next (tri_ret (at_retC hF [.tmp 6, .tmp 7] rfl rfl rfl ?_))
      (try simp only [retOK, resE, go_sem]) <;> first | rfl | (simp; done)
     ·try simp only [go_sem] at hc
      have h := ite_F (by first | exact hc | omega | (simpa using hc) | (simp at hc ⊢; omega)) h
      refine tri_skip (at_next (tri_seq (tri_region hF [6, 7] ?_)))
      simp only [go_sem]
      obtain rfl := Option.some.inj h
      refine at_next (tri_ret (at_retC hF [.tmp 6, .tmp 7] rfl rfl rfl ?_))
      (try simp only [retOK, resE, go_sem]) <;> first | rfl | (simp; done)
attribute [go_sem] sm_dec_Text
noncomputable def m_dyad_Same (a_0 : (Bool × ((List Nat) × (Int × Unit)))) (b_1 : (Bool × ((List Nat) × (Int × Unit)))) : Option Bool :=
  ck ((((((a_0.1) == (b_1.1)) = true) ∧ ((((a_0.2).2).1) = (((b_1.2).2).1))) → (((m_slices_Equal_uint64 ((a_0.2).1) ((b_1.2).1)).isSome = true)))) (some ((((a_0.1) == (b_1.1)) && (decide ((((a_0.2).2).1) = (((b_1.2).2).1)))) && ((m_slices_Equal_uint64 ((a_0.2).1) ((b_1.2).1)).getD false)))
def a_dyad_Same : Ty := .pair (.pair .bool (.pair (.sl (.u .u64)) (.pair (.i .i64) .unit))) (.pair (.pair .bool (.pair (.sl (.u .u64)) (.pair (.i .i64) .unit))) .unit)
attribute [go_sem] a_dyad_Same
noncomputable def sm_dyad_Same : FSpec := mSpec a_dyad_Same (.one .bool) (fun x => m_dyad_Same x.1 x.2.1)
noncomputable def l_dyad_Same : List (FuncId × FSpec) := [(57, sm_slices_Equal_uint64)]
theorem K_dyad_Same : Known Tryd.prog GL l_dyad_Same := .cons om_slices_Equal_uint64 (by kernel_rfl) (.nil)
theorem l_dyad_Same_57 : gam l_dyad_Same 57 = some sm_slices_Equal_uint64 := rfl
attribute [go_sem] l_dyad_Same_57
set_option maxHeartbeats 4000000 in
theorem om_dyad_Same : FOK Tryd.prog GL 29 sm_dyad_Same := by
 refine fok_model (EM_ok K_dyad_Same) Tryd.func29 rfl (by kernel_rfl) (by decide) fun w0 S x r hw h => ?_
 have hF : FrOK (fr Tryd.prog (EM l_dyad_Same) S w0 Tryd.f29.ntmps) := ⟨EM_ok K_dyad_Same, mix⟩
 obtain ⟨(a_0 : (Bool × ((List Nat) × (Int × Unit)))), (b_1 : (Bool × ((List Nat) × (Int × Unit)))), u⟩ := x
 simp only [a_dyad_Same, Ty.wf, fits64] at hw
 simp only [args0, a_dyad_Same]
 try dsimp only at h
 unfold m_dyad_Same at h
 refine tri_seq (tri_regionB hF [2, 3] ?_)
 simp only [go_sem]
 refine at_next (tri_seq (tri_region hF [4] ?_))
 simp only [go_sem]
 obtain ⟨g0, h⟩ := ck_some h
 repeat (refine ⟨by first | with_reducible assumption | omega | (intros; first | assumption | omega) | (simp only [go_sem] at *; first | assumption | omega) | (intro q0; (try have e0 := g0 (by first | exact q0 | omega | (simpa using q0))); first | assumption | omega) | decide, ?_⟩)
 obtain rfl := Option.some.inj h
 refine at_next (tri_ret (at_retC hF [.tmp 4] rfl rfl rfl ?_))
 (try simp only [retOK, resE, go_sem]) <;> first | rfl | (simp; done)
attribute [go_sem] sm_dyad_Same
noncomputable def m_law4_told : Option Bool :=
  ck (((m_dec_Text (false, ([1] : List Nat), (-3 : Int), ()) (2 : Int) false).isSome = true)) (ck (((m_dec_Text (false, ([1] : List Nat), (-3 : Int), ()) (2 : Int) true).isSome = true)) (ck (((m_dyad_Neg (false, ([1] : List Nat), (-3 : Int), ())).isSome = true)) (ck (((m_dec_Text ((m_dyad_Neg (false, ([1] : List Nat), (-3 : Int), ())).getD (false, ([] : List Nat), (0 : Int), ())) (2 : Int) false).isSome = true)) (ck (((m_dec_Exact (strL ⟨#[48, 46, 49, 50, 53]⟩)).isSome = true)) (ck (((m_dec_Exact (strL ⟨#[48, 46, 49]⟩)).isSome = true)) (ck (((m_dec_Lit (strL ⟨#[48, 46, 49]⟩) (20 : Int)).isSome = true)) (ck (I64 (((((m_dec_Text (false, ([1] : List Nat), (-3 : Int), ()) (2 : Int) false).getD (([] : List Nat), (0 : Int), ())).2).1) + ((((m_dec_Text (false, ([1] : List Nat), (-3 : Int), ()) (2 : Int) true).getD (([] : List Nat), (0 : Int), ())).2).1))) (ck (I64 ((((((m_dec_Text (false, ([1] : List Nat), (-3 : Int), ()) (2 : Int) false).getD (([] : List Nat), (0 : Int), ())).2).1) + ((((m_dec_Text (false, ([1] : List Nat), (-3 : Int), ()) (2 : Int) true).getD (([] : List Nat), (0 : Int), ())).2).1)) + ((((m_dec_Text ((m_dyad_Neg (false, ([1] : List Nat), (-3 : Int), ())).getD (false, ([] : List Nat), (0 : Int), ())) (2 : Int) false).getD (([] : List Nat), (0 : Int), ())).2).1))) (ck (I64 (((((((m_dec_Text (false, ([1] : List Nat), (-3 : Int), ()) (2 : Int) false).getD (([] : List Nat), (0 : Int), ())).2).1) + ((((m_dec_Text (false, ([1] : List Nat), (-3 : Int), ()) (2 : Int) true).getD (([] : List Nat), (0 : Int), ())).2).1)) + ((((m_dec_Text ((m_dyad_Neg (false, ([1] : List Nat), (-3 : Int), ())).getD (false, ([] : List Nat), (0 : Int), ())) (2 : Int) false).getD (([] : List Nat), (0 : Int), ())).2).1)) + ((((m_dec_Exact (strL ⟨#[48, 46, 49, 50, 53]⟩)).getD ((false, ([] : List Nat), (0 : Int), ()), (0 : Int), ())).2).1))) (ck (I64 ((((((((m_dec_Text (false, ([1] : List Nat), (-3 : Int), ()) (2 : Int) false).getD (([] : List Nat), (0 : Int), ())).2).1) + ((((m_dec_Text (false, ([1] : List Nat), (-3 : Int), ()) (2 : Int) true).getD (([] : List Nat), (0 : Int), ())).2).1)) + ((((m_dec_Text ((m_dyad_Neg (false, ([1] : List Nat), (-3 : Int), ())).getD (false, ([] : List Nat), (0 : Int), ())) (2 : Int) false).getD (([] : List Nat), (0 : Int), ())).2).1)) + ((((m_dec_Exact (strL ⟨#[48, 46, 49, 50, 53]⟩)).getD ((false, ([] : List Nat), (0 : Int), ()), (0 : Int), ())).2).1)) + ((((m_dec_Lit (strL ⟨#[48, 46, 49]⟩) (20 : Int)).getD (((false, ([] : List Nat), (0 : Int), ()), (false, ([] : List Nat), (0 : Int), ()), ()), (0 : Int), ())).2).1))) (ck ((((((((((((((m_dec_Text (false, ([1] : List Nat), (-3 : Int), ()) (2 : Int) false).getD (([] : List Nat), (0 : Int), ())).2).1) + ((((m_dec_Text (false, ([1] : List Nat), (-3 : Int), ()) (2 : Int) true).getD (([] : List Nat), (0 : Int), ())).2).1)) + ((((m_dec_Text ((m_dyad_Neg (false, ([1] : List Nat), (-3 : Int), ())).getD (false, ([] : List Nat), (0 : Int), ())) (2 : Int) false).getD (([] : List Nat), (0 : Int), ())).2).1)) + ((((m_dec_Exact (strL ⟨#[48, 46, 49, 50, 53]⟩)).getD ((false, ([] : List Nat), (0 : Int), ()), (0 : Int), ())).2).1)) + ((((m_dec_Lit (strL ⟨#[48, 46, 49]⟩) (20 : Int)).getD (((false, ([] : List Nat), (0 : Int), ()), (false, ([] : List Nat), (0 : Int), ()), ()), (0 : Int), ())).2).1)) = (0 : Int)) ∧ ((((m_dec_Text (false, ([1] : List Nat), (-3 : Int), ()) (2 : Int) false).getD (([] : List Nat), (0 : Int), ())).1) = (strL ⟨#[48, 46, 49, 50]⟩))) ∧ ((((m_dec_Text (false, ([1] : List Nat), (-3 : Int), ()) (2 : Int) true).getD (([] : List Nat), (0 : Int), ())).1) = (strL ⟨#[48, 46, 49, 51]⟩))) ∧ ((((m_dec_Text ((m_dyad_Neg (false, ([1] : List Nat), (-3 : Int), ())).getD (false, ([] : List Nat), (0 : Int), ())) (2 : Int) false).getD (([] : List Nat), (0 : Int), ())).1) = (strL ⟨#[45, 48, 46, 49, 51]⟩))) → (((m_dyad_Same (((m_dec_Exact (strL ⟨#[48, 46, 49, 50, 53]⟩)).getD ((false, ([] : List Nat), (0 : Int), ()), (0 : Int), ())).1) (false, ([1] : List Nat), (-3 : Int), ())).isSome = true)))) (ck ((((((((((((((((m_dec_Text (false, ([1] : List Nat), (-3 : Int), ()) (2 : Int) false).getD (([] : List Nat), (0 : Int), ())).2).1) + ((((m_dec_Text (false, ([1] : List Nat), (-3 : Int), ()) (2 : Int) true).getD (([] : List Nat), (0 : Int), ())).2).1)) + ((((m_dec_Text ((m_dyad_Neg (false, ([1] : List Nat), (-3 : Int), ())).getD (false, ([] : List Nat), (0 : Int), ())) (2 : Int) false).getD (([] : List Nat), (0 : Int), ())).2).1)) + ((((m_dec_Exact (strL ⟨#[48, 46, 49, 50, 53]⟩)).getD ((false, ([] : List Nat), (0 : Int), ()), (0 : Int), ())).2).1)) + ((((m_dec_Lit (strL ⟨#[48, 46, 49]⟩) (20 : Int)).getD (((false, ([] : List Nat), (0 : Int), ()), (false, ([] : List Nat), (0 : Int), ()), ()), (0 : Int), ())).2).1)) = (0 : Int)) ∧ ((((m_dec_Text (false, ([1] : List Nat), (-3 : Int), ()) (2 : Int) false).getD (([] : List Nat), (0 : Int), ())).1) = (strL ⟨#[48, 46, 49, 50]⟩))) ∧ ((((m_dec_Text (false, ([1] : List Nat), (-3 : Int), ()) (2 : Int) true).getD (([] : List Nat), (0 : Int), ())).1) = (strL ⟨#[48, 46, 49, 51]⟩))) ∧ ((((m_dec_Text ((m_dyad_Neg (false, ([1] : List Nat), (-3 : Int), ())).getD (false, ([] : List Nat), (0 : Int), ())) (2 : Int) false).getD (([] : List Nat), (0 : Int), ())).1) = (strL ⟨#[45, 48, 46, 49, 51]⟩))) ∧ (((m_dyad_Same (((m_dec_Exact (strL ⟨#[48, 46, 49, 50, 53]⟩)).getD ((false, ([] : List Nat), (0 : Int), ()), (0 : Int), ())).1) (false, ([1] : List Nat), (-3 : Int), ())).getD false) = true)) ∧ (((((m_dec_Exact (strL ⟨#[48, 46, 49]⟩)).getD ((false, ([] : List Nat), (0 : Int), ()), (0 : Int), ())).2).1) = (6 : Int))) → (((m_dyad_Cmp ((((m_dec_Lit (strL ⟨#[48, 46, 49]⟩) (20 : Int)).getD (((false, ([] : List Nat), (0 : Int), ()), (false, ([] : List Nat), (0 : Int), ()), ()), (0 : Int), ())).1).1) (((((m_dec_Lit (strL ⟨#[48, 46, 49]⟩) (20 : Int)).getD (((false, ([] : List Nat), (0 : Int), ()), (false, ([] : List Nat), (0 : Int), ()), ()), (0 : Int), ())).1).2).1)).isSome = true)))) (ck (((((((((((((((((m_dec_Text (false, ([1] : List Nat), (-3 : Int), ()) (2 : Int) false).getD (([] : List Nat), (0 : Int), ())).2).1) + ((((m_dec_Text (false, ([1] : List Nat), (-3 : Int), ()) (2 : Int) true).getD (([] : List Nat), (0 : Int), ())).2).1)) + ((((m_dec_Text ((m_dyad_Neg (false, ([1] : List Nat), (-3 : Int), ())).getD (false, ([] : List Nat), (0 : Int), ())) (2 : Int) false).getD (([] : List Nat), (0 : Int), ())).2).1)) + ((((m_dec_Exact (strL ⟨#[48, 46, 49, 50, 53]⟩)).getD ((false, ([] : List Nat), (0 : Int), ()), (0 : Int), ())).2).1)) + ((((m_dec_Lit (strL ⟨#[48, 46, 49]⟩) (20 : Int)).getD (((false, ([] : List Nat), (0 : Int), ()), (false, ([] : List Nat), (0 : Int), ()), ()), (0 : Int), ())).2).1)) = (0 : Int)) ∧ ((((m_dec_Text (false, ([1] : List Nat), (-3 : Int), ()) (2 : Int) false).getD (([] : List Nat), (0 : Int), ())).1) = (strL ⟨#[48, 46, 49, 50]⟩))) ∧ ((((m_dec_Text (false, ([1] : List Nat), (-3 : Int), ()) (2 : Int) true).getD (([] : List Nat), (0 : Int), ())).1) = (strL ⟨#[48, 46, 49, 51]⟩))) ∧ ((((m_dec_Text ((m_dyad_Neg (false, ([1] : List Nat), (-3 : Int), ())).getD (false, ([] : List Nat), (0 : Int), ())) (2 : Int) false).getD (([] : List Nat), (0 : Int), ())).1) = (strL ⟨#[45, 48, 46, 49, 51]⟩))) ∧ (((m_dyad_Same (((m_dec_Exact (strL ⟨#[48, 46, 49, 50, 53]⟩)).getD ((false, ([] : List Nat), (0 : Int), ()), (0 : Int), ())).1) (false, ([1] : List Nat), (-3 : Int), ())).getD false) = true)) ∧ (((((m_dec_Exact (strL ⟨#[48, 46, 49]⟩)).getD ((false, ([] : List Nat), (0 : Int), ()), (0 : Int), ())).2).1) = (6 : Int))) ∧ (((m_dyad_Cmp ((((m_dec_Lit (strL ⟨#[48, 46, 49]⟩) (20 : Int)).getD (((false, ([] : List Nat), (0 : Int), ()), (false, ([] : List Nat), (0 : Int), ()), ()), (0 : Int), ())).1).1) (((((m_dec_Lit (strL ⟨#[48, 46, 49]⟩) (20 : Int)).getD (((false, ([] : List Nat), (0 : Int), ()), (false, ([] : List Nat), (0 : Int), ()), ()), (0 : Int), ())).1).2).1)).getD (0 : Int)) < (0 : Int))) → (((m_dec_Form (strL ⟨#[49, 46, 53, 101, 45, 51]⟩)).isSome = true)))) (ck ((((((((((((((((((m_dec_Text (false, ([1] : List Nat), (-3 : Int), ()) (2 : Int) false).getD (([] : List Nat), (0 : Int), ())).2).1) + ((((m_dec_Text (false, ([1] : List Nat), (-3 : Int), ()) (2 : Int) true).getD (([] : List Nat), (0 : Int), ())).2).1)) + ((((m_dec_Text ((m_dyad_Neg (false, ([1] : List Nat), (-3 : Int), ())).getD (false, ([] : List Nat), (0 : Int), ())) (2 : Int) false).getD (([] : List Nat), (0 : Int), ())).2).1)) + ((((m_dec_Exact (strL ⟨#[48, 46, 49, 50, 53]⟩)).getD ((false, ([] : List Nat), (0 : Int), ()), (0 : Int), ())).2).1)) + ((((m_dec_Lit (strL ⟨#[48, 46, 49]⟩) (20 : Int)).getD (((false, ([] : List Nat), (0 : Int), ()), (false, ([] : List Nat), (0 : Int), ()), ()), (0 : Int), ())).2).1)) = (0 : Int)) ∧ ((((m_dec_Text (false, ([1] : List Nat), (-3 : Int), ()) (2 : Int) false).getD (([] : List Nat), (0 : Int), ())).1) = (strL ⟨#[48, 46, 49, 50]⟩))) ∧ ((((m_dec_Text (false, ([1] : List Nat), (-3 : Int), ()) (2 : Int) true).getD (([] : List Nat), (0 : Int), ())).1) = (strL ⟨#[48, 46, 49, 51]⟩))) ∧ ((((m_dec_Text ((m_dyad_Neg (false, ([1] : List Nat), (-3 : Int), ())).getD (false, ([] : List Nat), (0 : Int), ())) (2 : Int) false).getD (([] : List Nat), (0 : Int), ())).1) = (strL ⟨#[45, 48, 46, 49, 51]⟩))) ∧ (((m_dyad_Same (((m_dec_Exact (strL ⟨#[48, 46, 49, 50, 53]⟩)).getD ((false, ([] : List Nat), (0 : Int), ()), (0 : Int), ())).1) (false, ([1] : List Nat), (-3 : Int), ())).getD false) = true)) ∧ (((((m_dec_Exact (strL ⟨#[48, 46, 49]⟩)).getD ((false, ([] : List Nat), (0 : Int), ()), (0 : Int), ())).2).1) = (6 : Int))) ∧ (((m_dyad_Cmp ((((m_dec_Lit (strL ⟨#[48, 46, 49]⟩) (20 : Int)).getD (((false, ([] : List Nat), (0 : Int), ()), (false, ([] : List Nat), (0 : Int), ()), ()), (0 : Int), ())).1).1) (((((m_dec_Lit (strL ⟨#[48, 46, 49]⟩) (20 : Int)).getD (((false, ([] : List Nat), (0 : Int), ()), (false, ([] : List Nat), (0 : Int), ()), ()), (0 : Int), ())).1).2).1)).getD (0 : Int)) < (0 : Int))) ∧ (((m_dec_Form (strL ⟨#[49, 46, 53, 101, 45, 51]⟩)).getD false) = true)) → (((m_dec_Form (strL ⟨#[49, 46]⟩)).isSome = true)))) (ck (((((((((((((((((((m_dec_Text (false, ([1] : List Nat), (-3 : Int), ()) (2 : Int) false).getD (([] : List Nat), (0 : Int), ())).2).1) + ((((m_dec_Text (false, ([1] : List Nat), (-3 : Int), ()) (2 : Int) true).getD (([] : List Nat), (0 : Int), ())).2).1)) + ((((m_dec_Text ((m_dyad_Neg (false, ([1] : List Nat), (-3 : Int), ())).getD (false, ([] : List Nat), (0 : Int), ())) (2 : Int) false).getD (([] : List Nat), (0 : Int), ())).2).1)) + ((((m_dec_Exact (strL ⟨#[48, 46, 49, 50, 53]⟩)).getD ((false, ([] : List Nat), (0 : Int), ()), (0 : Int), ())).2).1)) + ((((m_dec_Lit (strL ⟨#[48, 46, 49]⟩) (20 : Int)).getD (((false, ([] : List Nat), (0 : Int), ()), (false, ([] : List Nat), (0 : Int), ()), ()), (0 : Int), ())).2).1)) = (0 : Int)) ∧ ((((m_dec_Text (false, ([1] : List Nat), (-3 : Int), ()) (2 : Int) false).getD (([] : List Nat), (0 : Int), ())).1) = (strL ⟨#[48, 46, 49, 50]⟩))) ∧ ((((m_dec_Text (false, ([1] : List Nat), (-3 : Int), ()) (2 : Int) true).getD (([] : List Nat), (0 : Int), ())).1) = (strL ⟨#[48, 46, 49, 51]⟩))) ∧ ((((m_dec_Text ((m_dyad_Neg (false, ([1] : List Nat), (-3 : Int), ())).getD (false, ([] : List Nat), (0 : Int), ())) (2 : Int) false).getD (([] : List Nat), (0 : Int), ())).1) = (strL ⟨#[45, 48, 46, 49, 51]⟩))) ∧ (((m_dyad_Same (((m_dec_Exact (strL ⟨#[48, 46, 49, 50, 53]⟩)).getD ((false, ([] : List Nat), (0 : Int), ()), (0 : Int), ())).1) (false, ([1] : List Nat), (-3 : Int), ())).getD false) = true)) ∧ (((((m_dec_Exact (strL ⟨#[48, 46, 49]⟩)).getD ((false, ([] : List Nat), (0 : Int), ()), (0 : Int), ())).2).1) = (6 : Int))) ∧ (((m_dyad_Cmp ((((m_dec_Lit (strL ⟨#[48, 46, 49]⟩) (20 : Int)).getD (((false, ([] : List Nat), (0 : Int), ()), (false, ([] : List Nat), (0 : Int), ()), ()), (0 : Int), ())).1).1) (((((m_dec_Lit (strL ⟨#[48, 46, 49]⟩) (20 : Int)).getD (((false, ([] : List Nat), (0 : Int), ()), (false, ([] : List Nat), (0 : Int), ()), ()), (0 : Int), ())).1).2).1)).getD (0 : Int)) < (0 : Int))) ∧ (((m_dec_Form (strL ⟨#[49, 46, 53, 101, 45, 51]⟩)).getD false) = true)) ∧ (¬ (((m_dec_Form (strL ⟨#[49, 46]⟩)).getD false) = true))) → (((m_dec_Form (strL ⟨#[46, 53]⟩)).isSome = true)))) (ck ((((((((((((((((((((m_dec_Text (false, ([1] : List Nat), (-3 : Int), ()) (2 : Int) false).getD (([] : List Nat), (0 : Int), ())).2).1) + ((((m_dec_Text (false, ([1] : List Nat), (-3 : Int), ()) (2 : Int) true).getD (([] : List Nat), (0 : Int), ())).2).1)) + ((((m_dec_Text ((m_dyad_Neg (false, ([1] : List Nat), (-3 : Int), ())).getD (false, ([] : List Nat), (0 : Int), ())) (2 : Int) false).getD (([] : List Nat), (0 : Int), ())).2).1)) + ((((m_dec_Exact (strL ⟨#[48, 46, 49, 50, 53]⟩)).getD ((false, ([] : List Nat), (0 : Int), ()), (0 : Int), ())).2).1)) + ((((m_dec_Lit (strL ⟨#[48, 46, 49]⟩) (20 : Int)).getD (((false, ([] : List Nat), (0 : Int), ()), (false, ([] : List Nat), (0 : Int), ()), ()), (0 : Int), ())).2).1)) = (0 : Int)) ∧ ((((m_dec_Text (false, ([1] : List Nat), (-3 : Int), ()) (2 : Int) false).getD (([] : List Nat), (0 : Int), ())).1) = (strL ⟨#[48, 46, 49, 50]⟩))) ∧ ((((m_dec_Text (false, ([1] : List Nat), (-3 : Int), ()) (2 : Int) true).getD (([] : List Nat), (0 : Int), ())).1) = (strL ⟨#[48, 46, 49, 51]⟩))) ∧ ((((m_dec_Text ((m_dyad_Neg (false, ([1] : List Nat), (-3 : Int), ())).getD (false, ([] : List Nat), (0 : Int), ())) (2 : Int) false).getD (([] : List Nat), (0 : Int), ())).1) = (strL ⟨#[45, 48, 46, 49, 51]⟩))) ∧ (((m_dyad_Same (((m_dec_Exact (strL ⟨#[48, 46, 49, 50, 53]⟩)).getD ((false, ([] : List Nat), (0 : Int), ()), (0 : Int), ())).1) (false, ([1] : List Nat), (-3 : Int), ())).getD false) = true)) ∧ (((((m_dec_Exact (strL ⟨#[48, 46, 49]⟩)).getD ((false, ([] : List Nat), (0 : Int), ()), (0 : Int), ())).2).1) = (6 : Int))) ∧ (((m_dyad_Cmp ((((m_dec_Lit (strL ⟨#[48, 46, 49]⟩) (20 : Int)).getD (((false, ([] : List Nat), (0 : Int), ()), (false, ([] : List Nat), (0 : Int), ()), ()), (0 : Int), ())).1).1) (((((m_dec_Lit (strL ⟨#[48, 46, 49]⟩) (20 : Int)).getD (((false, ([] : List Nat), (0 : Int), ()), (false, ([] : List Nat), (0 : Int), ()), ()), (0 : Int), ())).1).2).1)).getD (0 : Int)) < (0 : Int))) ∧ (((m_dec_Form (strL ⟨#[49, 46, 53, 101, 45, 51]⟩)).getD false) = true)) ∧ (¬ (((m_dec_Form (strL ⟨#[49, 46]⟩)).getD false) = true))) ∧ (¬ (((m_dec_Form (strL ⟨#[46, 53]⟩)).getD false) = true))) → (((m_dec_Form (strL ⟨#[49, 101, 49, 48, 49]⟩)).isSome = true)))) (ck (((((((((((((((((((((m_dec_Text (false, ([1] : List Nat), (-3 : Int), ()) (2 : Int) false).getD (([] : List Nat), (0 : Int), ())).2).1) + ((((m_dec_Text (false, ([1] : List Nat), (-3 : Int), ()) (2 : Int) true).getD (([] : List Nat), (0 : Int), ())).2).1)) + ((((m_dec_Text ((m_dyad_Neg (false, ([1] : List Nat), (-3 : Int), ())).getD (false, ([] : List Nat), (0 : Int), ())) (2 : Int) false).getD (([] : List Nat), (0 : Int), ())).2).1)) + ((((m_dec_Exact (strL ⟨#[48, 46, 49, 50, 53]⟩)).getD ((false, ([] : List Nat), (0 : Int), ()), (0 : Int), ())).2).1)) + ((((m_dec_Lit (strL ⟨#[48, 46, 49]⟩) (20 : Int)).getD (((false, ([] : List Nat), (0 : Int), ()), (false, ([] : List Nat), (0 : Int), ()), ()), (0 : Int), ())).2).1)) = (0 : Int)) ∧ ((((m_dec_Text (false, ([1] : List Nat), (-3 : Int), ()) (2 : Int) false).getD (([] : List Nat), (0 : Int), ())).1) = (strL ⟨#[48, 46, 49, 50]⟩))) ∧ ((((m_dec_Text (false, ([1] : List Nat), (-3 : Int), ()) (2 : Int) true).getD (([] : List Nat), (0 : Int), ())).1) = (strL ⟨#[48, 46, 49, 51]⟩))) ∧ ((((m_dec_Text ((m_dyad_Neg (false, ([1] : List Nat), (-3 : Int), ())).getD (false, ([] : List Nat), (0 : Int), ())) (2 : Int) false).getD (([] : List Nat), (0 : Int), ())).1) = (strL ⟨#[45, 48, 46, 49, 51]⟩))) ∧ (((m_dyad_Same (((m_dec_Exact (strL ⟨#[48, 46, 49, 50, 53]⟩)).getD ((false, ([] : List Nat), (0 : Int), ()), (0 : Int), ())).1) (false, ([1] : List Nat), (-3 : Int), ())).getD false) = true)) ∧ (((((m_dec_Exact (strL ⟨#[48, 46, 49]⟩)).getD ((false, ([] : List Nat), (0 : Int), ()), (0 : Int), ())).2).1) = (6 : Int))) ∧ (((m_dyad_Cmp ((((m_dec_Lit (strL ⟨#[48, 46, 49]⟩) (20 : Int)).getD (((false, ([] : List Nat), (0 : Int), ()), (false, ([] : List Nat), (0 : Int), ()), ()), (0 : Int), ())).1).1) (((((m_dec_Lit (strL ⟨#[48, 46, 49]⟩) (20 : Int)).getD (((false, ([] : List Nat), (0 : Int), ()), (false, ([] : List Nat), (0 : Int), ()), ()), (0 : Int), ())).1).2).1)).getD (0 : Int)) < (0 : Int))) ∧ (((m_dec_Form (strL ⟨#[49, 46, 53, 101, 45, 51]⟩)).getD false) = true)) ∧ (¬ (((m_dec_Form (strL ⟨#[49, 46]⟩)).getD false) = true))) ∧ (¬ (((m_dec_Form (strL ⟨#[46, 53]⟩)).getD false) = true))) ∧ (¬ (((m_dec_Form (strL ⟨#[49, 101, 49, 48, 49]⟩)).getD false) = true))) → (((m_dec_Form (strL ⟨#[]⟩)).isSome = true)))) (some ((((((((((((decide (((((((((m_dec_Text (false, ([1] : List Nat), (-3 : Int), ()) (2 : Int) false).getD (([] : List Nat), (0 : Int), ())).2).1) + ((((m_dec_Text (false, ([1] : List Nat), (-3 : Int), ()) (2 : Int) true).getD (([] : List Nat), (0 : Int), ())).2).1)) + ((((m_dec_Text ((m_dyad_Neg (false, ([1] : List Nat), (-3 : Int), ())).getD (false, ([] : List Nat), (0 : Int), ())) (2 : Int) false).getD (([] : List Nat), (0 : Int), ())).2).1)) + ((((m_dec_Exact (strL ⟨#[48, 46, 49, 50, 53]⟩)).getD ((false, ([] : List Nat), (0 : Int), ()), (0 : Int), ())).2).1)) + ((((m_dec_Lit (strL ⟨#[48, 46, 49]⟩) (20 : Int)).getD (((false, ([] : List Nat), (0 : Int), ()), (false, ([] : List Nat), (0 : Int), ()), ()), (0 : Int), ())).2).1)) = (0 : Int))) && (decide ((((m_dec_Text (false, ([1] : List Nat), (-3 : Int), ()) (2 : Int) false).getD (([] : List Nat), (0 : Int), ())).1) = (strL ⟨#[48, 46, 49, 50]⟩)))) && (decide ((((m_dec_Text (false, ([1] : List Nat), (-3 : Int), ()) (2 : Int) true).getD (([] : List Nat), (0 : Int), ())).1) = (strL ⟨#[48, 46, 49, 51]⟩)))) && (decide ((((m_dec_Text ((m_dyad_Neg (false, ([1] : List Nat), (-3 : Int), ())).getD (false, ([] : List Nat), (0 : Int), ())) (2 : Int) false).getD (([] : List Nat), (0 : Int), ())).1) = (strL ⟨#[45, 48, 46, 49, 51]⟩)))) && ((m_dyad_Same (((m_dec_Exact (strL ⟨#[48, 46, 49, 50, 53]⟩)).getD ((false, ([] : List Nat), (0 : Int), ()), (0 : Int), ())).1) (false, ([1] : List Nat), (-3 : Int), ())).getD false)) && (decide (((((m_dec_Exact (strL ⟨#[48, 46, 49]⟩)).getD ((false, ([] : List Nat), (0 : Int), ()), (0 : Int), ())).2).1) = (6 : Int)))) && (decide (((m_dyad_Cmp ((((m_dec_Lit (strL ⟨#[48, 46, 49]⟩) (20 : Int)).getD (((false, ([] : List Nat), (0 : Int), ()), (false, ([] : List Nat), (0 : Int), ()), ()), (0 : Int), ())).1).1) (((((m_dec_Lit (strL ⟨#[48, 46, 49]⟩) (20 : Int)).getD (((false, ([] : List Nat), (0 : Int), ()), (false, ([] : List Nat), (0 : Int), ()), ()), (0 : Int), ())).1).2).1)).getD (0 : Int)) < (0 : Int)))) && ((m_dec_Form (strL ⟨#[49, 46, 53, 101, 45, 51]⟩)).getD false)) && (!((m_dec_Form (strL ⟨#[49, 46]⟩)).getD false))) && (!((m_dec_Form (strL ⟨#[46, 53]⟩)).getD false))) && (!((m_dec_Form (strL ⟨#[49, 101, 49, 48, 49]⟩)).getD false))) && (!((m_dec_Form (strL ⟨#[]⟩)).getD false)))))))))))))))))))))
def a_law4_told : Ty := .unit
attribute [go_sem] a_law4_told
noncomputable def sm_law4_told : FSpec := mSpec a_law4_told (.one .bool) (fun x => m_law4_told )
noncomputable def l_law4_told : List (FuncId × FSpec) := [(12, sm_dec_Text), (13, sm_dyad_Neg), (14, sm_dec_Lit), (15, sm_dec_Form), (28, sm_dec_Exact), (29, sm_dyad_Same), (30, sm_dyad_Cmp)]
theorem K_law4_told : Known Tryd.prog GL l_law4_told := .cons om_dec_Text (by kernel_rfl) (.cons om_dyad_Neg (by kernel_rfl) (.cons om_dec_Lit (by kernel_rfl) (.cons om_dec_Form (by kernel_rfl) (.cons om_dec_Exact (by kernel_rfl) (.cons om_dyad_Same (by kernel_rfl) (.cons om_dyad_Cmp (by kernel_rfl) (.nil)))))))
theorem l_law4_told_12 : gam l_law4_told 12 = some sm_dec_Text := rfl
attribute [go_sem] l_law4_told_12
theorem l_law4_told_13 : gam l_law4_told 13 = some sm_dyad_Neg := rfl
attribute [go_sem] l_law4_told_13
theorem l_law4_told_14 : gam l_law4_told 14 = some sm_dec_Lit := rfl
attribute [go_sem] l_law4_told_14
theorem l_law4_told_15 : gam l_law4_told 15 = some sm_dec_Form := rfl
attribute [go_sem] l_law4_told_15
theorem l_law4_told_28 : gam l_law4_told 28 = some sm_dec_Exact := rfl
attribute [go_sem] l_law4_told_28
theorem l_law4_told_29 : gam l_law4_told 29 = some sm_dyad_Same := rfl
attribute [go_sem] l_law4_told_29
theorem l_law4_told_30 : gam l_law4_told 30 = some sm_dyad_Cmp := rfl
attribute [go_sem] l_law4_told_30
set_option maxHeartbeats 4000000 in
theorem om_law4_told : FOK Tryd.prog GL 11 sm_law4_told := by
 refine fok_model (EM_ok K_law4_told) Tryd.func11 rfl (by kernel_rfl) (by decide) fun w0 S x r hw h => ?_
 have hF : FrOK (fr Tryd.prog (EM l_law4_told) S w0 Tryd.f11.ntmps) := ⟨EM_ok K_law4_told, mix⟩
 simp only [a_law4_told, Ty.wf, fits64] at hw
 simp only [args0, a_law4_told]
 try dsimp only at h
 unfold m_law4_told at h
 refine tri_seq (tri_region hF [] ?_)
 simp only [go_sem]
 refine at_next (tri_seq (tri_regionB hF [1] ?_))
 simp only [go_sem]
 refine at_next (tri_seq (tri_region hF [1, 2, 3] ?_))
 simp only [go_sem]
 obtain ⟨g0, h⟩ := ck_some h
 repeat (refine ⟨by first | with_reducible assumption | omega | (intros; first | assumption | omega) | (simp only [go_sem] at *; first | assumption | omega) | decide, ?_⟩)
 refine at_next (tri_seq (tri_region hF [1, 2, 3, 4, 5] ?_))
 simp only [go_sem]
 obtain ⟨g0, h⟩ := ck_some h
 repeat (refine ⟨by first | with_reducible assumption | omega | (intros; first | assumption | omega) | (simp only [go_sem] at *; first | assumption | omega) | decide, ?_⟩)
 refine at_next (tri_seq (tri_region hF [1, 2, 3, 4, 5, 6, 7] ?_))
 simp only [go_sem]
 obtain ⟨g0, h⟩ := ck_some h
 obtain ⟨g1, h⟩ := ck_some h
 repeat (refine ⟨by first | with_reducible assumption | omega | (intros; first | assumption | omega) | (simp only [go_sem] at *; first | assumption | omega) | decide, ?_⟩)
 refine at_next (tri_seq (tri_regionB hF [1, 2, 3, 4, 5, 6, 7, 8, 9] ?_))
 simp only [go_sem]
 obtain ⟨g0, h⟩ := ck_some h
 repeat (refine ⟨by first | with_reducible assumption | omega | (intros; first | assumption | omega) | (simp only [go_sem] at *; first | assumption | omega) | decide, ?_⟩)
 refine at_next (tri_seq (tri_regionB hF [1, 2, 3, 4, 5, 6, 7, 8, 9, 11] ?_))
 simp only [go_sem]
 obtain ⟨g0, h⟩ := ck_some h
 repeat (refine ⟨by first | with_reducible assumption | omega | (intros; first | assumption | omega) | (simp only [go_sem] at *; first | assumption | omega) | decide, ?_⟩)
 refine at_next (tri_seq (tri_regionB hF [1, 2, 3, 4, 5, 6, 7, 8, 9, 11, 12, 13] ?_))
 simp only [go_sem]
 obtain ⟨g0, h⟩ := ck_some h
 repeat (refine ⟨by first | with_reducible assumption | omega | (intros; first | assumption | omega) | (simp only [go_sem] at *; first | assumption | omega) | decide, ?_⟩)
 refine at_next (tri_seq (tri_region hF [0] ?_))
 simp only [go_sem]
 obtain ⟨g0, h⟩ := ck_some h
 obtain ⟨g1, h⟩ := ck_some h
 obtain ⟨g2, h⟩ := ck_some h
 obtain ⟨g3, h⟩ := ck_some h
 obtain ⟨g4, h⟩ := ck_some h
 obtain ⟨g5, h⟩ := ck_some h
 obtain ⟨g6, h⟩ := ck_some h
 obtain ⟨g7, h⟩ := ck_some h
 obtain ⟨g8, h⟩ := ck_some h
 obtain ⟨g9, h⟩ := ck_some h
 obtain ⟨g10, h⟩ := ck_some h
 try simp only [I64, I32] at g0
 try simp only [I64, I32] at g1
 try simp only [I64, I32] at g2
 try simp only [I64, I32] at g3
 repeat (refine ⟨by first | with_reducible assumption | omega | (intros; first | assumption | omega) | (simp only [go_sem] at *; first | assumption | omega) | (intro q0; (try have e4 := g4 (by first | exact q0 | omega | (simpa using q0))); (try have e5 := g5 (by first | exact q0 | omega | (simpa using q0))); (try have e6 := g6 (by first | exact q0 | omega | (simpa using q0))); (try have e7 := g7 (by first | exact q0 | omega | (simpa using q0))); (try have e8 := g8 (by first | exact q0 | omega | (simpa using q0))); (try have e9 := g9 (by first | exact q0 | omega | (simpa using q0))); (try have e10 := g10 (by first | exact q0 | omega | (simpa using q0))); first | assumption | omega) | decide, ?_⟩)
 obtain rfl := Option.some.inj h
 refine at_next (tri_ret (at_retC hF [.tmp 0] rfl rfl rfl ?_))
 (try simp only [retOK, resE, go_sem]) <;> first | rfl | (simp; done)
attribute [go_sem] sm_law4_told
end Nu
end Go.Proofs
namespace Go.Proofs
open Go.Vc
set_option maxRecDepth 20000
namespace Nu
noncomputable def m_law4_DecForms_j2 (s_9 : (List Nat)) (may_10 : Bool) : Option (Bool) :=
  ck (((m_dec_Lit s_9 (50 : Int)).isSome = true)) (ck ((m_law4_told.isSome = true)) (ck ((((m_law4_told.getD false) = true) → (((m_dec_Form s_9).isSome = true)))) (some (((m_law4_told.getD false) && (((m_dec_Form s_9).getD false) == may_10)) && ((decide (((((m_dec_Lit s_9 (50 : Int)).getD (((false, ([] : List Nat), (0 : Int), ()), (false, ([] : List Nat), (0 : Int), ()), ()), (0 : Int), ())).2).1) = (0 : Int))) == may_10)))))
noncomputable def m_law4_DecForms_j1 (e_4 : Bool) (sign_5 : Int) (c_2 : Int) (s_7 : (List Nat)) (may_8 : Bool) : Option (Bool) :=
  if e_4 = true then ck ((s_7.length) + ((strL ⟨#[101]⟩).length) ≤ 9223372036854775807) (ck (0 ≤ (IntKind.i64.wrap (((((sign_5 % (18446744073709551616 : Int)).toNat) % (3 : Nat)) : Nat) : Int)) ∧ (IntKind.i64.wrap (((((sign_5 % (18446744073709551616 : Int)).toNat) % (3 : Nat)) : Nat) : Int)) < (3 : Int)) (ck (((s_7 ++ (strL ⟨#[101]⟩)).length) + ((([(strL ⟨#[]⟩), (strL ⟨#[43]⟩), (strL ⟨#[45]⟩)] : List (List Nat)).getD ((IntKind.i64.wrap (((((sign_5 % (18446744073709551616 : Int)).toNat) % (3 : Nat)) : Nat) : Int)).toNat) ([] : List Nat)).length) ≤ 9223372036854775807) (ck (0 ≤ (IntKind.i64.wrap (((((c_2 % (18446744073709551616 : Int)).toNat) % (5 : Nat)) : Nat) : Int)) ∧ (IntKind.i64.wrap (((((c_2 % (18446744073709551616 : Int)).toNat) % (5 : Nat)) : Nat) : Int)) ≤ ((((strL ⟨#[48, 48, 49, 50]⟩).length) : Nat) : Int)) (ck ((((s_7 ++ (strL ⟨#[101]⟩)) ++ (([(strL ⟨#[]⟩), (strL ⟨#[43]⟩), (strL ⟨#[45]⟩)] : List (List Nat)).getD ((IntKind.i64.wrap (((((sign_5 % (18446744073709551616 : Int)).toNat) % (3 : Nat)) : Nat) : Int)).toNat) ([] : List Nat))).length) + ((List.take ((IntKind.i64.wrap (((((c_2 % (18446744073709551616 : Int)).toNat) % (5 : Nat)) : Nat) : Int)).toNat) (strL ⟨#[48, 48, 49, 50]⟩)).length) ≤ 9223372036854775807) (m_law4_DecForms_j2 (((s_7 ++ (strL ⟨#[101]⟩)) ++ (([(strL ⟨#[]⟩), (strL ⟨#[43]⟩), (strL ⟨#[45]⟩)] : List (List Nat)).getD ((IntKind.i64.wrap (((((sign_5 % (18446744073709551616 : Int)).toNat) % (3 : Nat)) : Nat) : Int)).toNat) ([] : List Nat))) ++ (List.take ((IntKind.i64.wrap (((((c_2 % (18446744073709551616 : Int)).toNat) % (5 : Nat)) : Nat) : Int)).toNat) (strL ⟨#[48, 48, 49, 50]⟩))) ((may_8 && (decide ((0 : Int) < (IntKind.i64.wrap (((((c_2 % (18446744073709551616 : Int)).toNat) % (5 : Nat)) : Nat) : Int))))) && (decide ((IntKind.i64.wrap (((((c_2 % (18446744073709551616 : Int)).toNat) % (5 : Nat)) : Nat) : Int)) < (4 : Int))))))))) else m_law4_DecForms_j2 s_7 may_8
noncomputable def m_law4_DecForms (a_0 : Int) (b_1 : Int) (c_2 : Int) (point_3 : Bool) (e_4 : Bool) (sign_5 : Int) : Option Bool :=
  ck (0 ≤ (IntKind.i64.wrap (((((a_0 % (18446744073709551616 : Int)).toNat) % (7 : Nat)) : Nat) : Int)) ∧ (IntKind.i64.wrap (((((a_0 % (18446744073709551616 : Int)).toNat) % (7 : Nat)) : Nat) : Int)) ≤ ((((strL ⟨#[49, 50, 51, 52, 53, 54]⟩).length) : Nat) : Int)) (if point_3 = true then ck (((List.take ((IntKind.i64.wrap (((((a_0 % (18446744073709551616 : Int)).toNat) % (7 : Nat)) : Nat) : Int)).toNat) (strL ⟨#[49, 50, 51, 52, 53, 54]⟩)).length) + ((strL ⟨#[46]⟩).length) ≤ 9223372036854775807) (ck (0 ≤ (IntKind.i64.wrap (((((b_1 % (18446744073709551616 : Int)).toNat) % (7 : Nat)) : Nat) : Int)) ∧ (IntKind.i64.wrap (((((b_1 % (18446744073709551616 : Int)).toNat) % (7 : Nat)) : Nat) : Int)) ≤ ((((strL ⟨#[57, 56, 55, 54, 53, 52]⟩).length) : Nat) : Int)) (ck ((((List.take ((IntKind.i64.wrap (((((a_0 % (18446744073709551616 : Int)).toNat) % (7 : Nat)) : Nat) : Int)).toNat) (strL ⟨#[49, 50, 51, 52, 53, 54]⟩)) ++ (strL ⟨#[46]⟩)).length) + ((List.take ((IntKind.i64.wrap (((((b_1 % (18446744073709551616 : Int)).toNat) % (7 : Nat)) : Nat) : Int)).toNat) (strL ⟨#[57, 56, 55, 54, 53, 52]⟩)).length) ≤ 9223372036854775807) (m_law4_DecForms_j1 e_4 sign_5 c_2 (((List.take ((IntKind.i64.wrap (((((a_0 % (18446744073709551616 : Int)).toNat) % (7 : Nat)) : Nat) : Int)).toNat) (strL ⟨#[49, 50, 51, 52, 53, 54]⟩)) ++ (strL ⟨#[46]⟩)) ++ (List.take ((IntKind.i64.wrap (((((b_1 % (18446744073709551616 : Int)).toNat) % (7 : Nat)) : Nat) : Int)).toNat) (strL ⟨#[57, 56, 55, 54, 53, 52]⟩))) ((decide ((0 : Int) < (IntKind.i64.wrap (((((a_0 % (18446744073709551616 : Int)).toNat) % (7 : Nat)) : Nat) : Int)))) && (decide ((0 : Int) < (IntKind.i64.wrap (((((b_1 % (18446744073709551616 : Int)).toNat) % (7 : Nat)) : Nat) : Int)))))))) else m_law4_DecForms_j1 e_4 sign_5 c_2 (List.take ((IntKind.i64.wrap (((((a_0 % (18446744073709551616 : Int)).toNat) % (7 : Nat)) : Nat) : Int)).toNat) (strL ⟨#[49, 50, 51, 52, 53, 54]⟩)) (decide ((0 : Int) < (IntKind.i64.wrap (((((a_0 % (18446744073709551616 : Int)).toNat) % (7 : Nat)) : Nat) : Int)))))
def a_law4_DecForms : Ty := .pair (.i .i64) (.pair (.i .i64) (.pair (.i .i64) (.pair .bool (.pair .bool (.pair (.i .i64) .unit)))))
attribute [go_sem] a_law4_DecForms
noncomputable def sm_law4_DecForms : FSpec := mSpec a_law4_DecForms (.one .bool) (fun x => m_law4_DecForms x.1 x.2.1 x.2.2.1 x.2.2.2.1 x.2.2.2.2.1 x.2.2.2.2.2.1)
noncomputable def l_law4_DecForms : List (FuncId × FSpec) := [(11, sm_law4_told), (14, sm_dec_Lit), (15, sm_dec_Form)]
theorem K_law4_DecForms : Known Tryd.prog GL l_law4_DecForms := .cons om_law4_told (by kernel_rfl) (.cons om_dec_Lit (by kernel_rfl) (.cons om_dec_Form (by kernel_rfl) (.nil)))
theorem l_law4_DecForms_11 : gam l_law4_DecForms 11 = some sm_law4_told := rfl
attribute [go_sem] l_law4_DecForms_11
theorem l_law4_DecForms_14 : gam l_law4_DecForms 14 = some sm_dec_Lit := rfl
attribute [go_sem] l_law4_DecForms_14
theorem l_law4_DecForms_15 : gam l_law4_DecForms 15 = some sm_dec_Form := rfl
attribute [go_sem] l_law4_DecForms_15
set_option maxHeartbeats 4000000 in
theorem om_law4_DecForms : FOK Tryd.prog GL 5 sm_law4_DecForms := by
 refine fok_model (EM_ok K_law4_DecForms) Tryd.func5 rfl (by kernel_rfl) (by decide) fun w0 S x r hw h => ?_
 have hF : FrOK (fr Tryd.prog (EM l_law4_DecForms) S w0 Tryd.f5.ntmps) := ⟨EM_ok K_law4_DecForms, mix⟩
 obtain ⟨(a_0 : Int), (b_1 : Int), (c_2 : Int), (point_3 : Bool), (e_4 : Bool), (sign_5 : Int), u⟩ := x
 simp only [a_law4_DecForms, Ty.wf, fits64] at hw
 simp only [args0, a_law4_DecForms]
 try dsimp only at h
 unfold m_law4_DecForms at h
 refine tri_seq (tri_region hF [0, 1, 2, 3, 4, 5] ?_)
 simp only [go_sem]
 refine at_next (tri_seq (tri_region hF [3, 4, 5, 13, 14, 15] ?_))
 simp only [go_sem]
 refine at_next (tri_seq (tri_region hF [3, 4, 5, 13, 14, 15, 16] ?_))
 simp only [go_sem]
 obtain ⟨g0, h⟩ := ck_some h
 repeat (refine ⟨by first | with_reducible assumption | omega | (intros; first | assumption | omega) | (simp only [go_sem] at *; first | assumption | omega) | decide, ?_⟩)
 refine at_next (tri_seq (tri_region hF [3, 4, 5, 14, 15, 16, 17] ?_))
 simp only [go_sem]
 refine at_next (tri_joinM (D := (List Nat) × Bool) (fun d => m_law4_DecForms_j1 e_4 sign_5 c_2 d.1 d.2 = some r) [4, 5, 15] (fun d => [(16, .val .str d.1), (17, .val .bool d.2)]) (fun d => []) ?_ ?_)
 ·refine tri_seq (tri_region hF [4, 5, 14, 15, 16, 17, 36] ?_)
  simp only [go_sem]
  refine at_next (tri_cond rfl (fun hc => ?_) (fun hc => ?_))
  ·try simp only [go_sem] at hc
   have h := ite_T (by first | exact hc | omega | (simpa using hc) | (simp at hc ⊢; omega)) h
   refine tri_seq (tri_region hF [4, 5, 14, 15, 16, 17] ?_)
   simp only [go_sem]
   obtain ⟨g0, h⟩ := ck_some h
   obtain ⟨g1, h⟩ := ck_some h
   obtain ⟨g2, h⟩ := ck_some h
   repeat (refine ⟨by first | with_reducible assumption | omega | (intros; first | assumption | omega) | (simp only [go_sem] at *; first | assumption | omega) | decide, ?_⟩)
   refine at_next (tri_region hF [4, 5, 15, 16, 17] ?_)
   simp only [go_sem]
   refine at_then_norm (at_fit (((((List.take ((IntKind.i64.wrap (((((a_0 % (18446744073709551616 : Int)).toNat) % (7 : Nat)) : Nat) : Int)).toNat) (strL ⟨#[49, 50, 51, 52, 53, 54]⟩)) ++ (strL ⟨#[46]⟩)) ++ (List.take ((IntKind.i64.wrap (((((b_1 % (18446744073709551616 : Int)).toNat) % (7 : Nat)) : Nat) : Int)).toNat) (strL ⟨#[57, 56, 55, 54, 53, 52]⟩))), ((decide ((0 : Int) < (IntKind.i64.wrap (((((a_0 % (18446744073709551616 : Int)).toNat) % (7 : Nat)) : Nat) : Int)))) && (decide ((0 : Int) < (IntKind.i64.wrap (((((b_1 % (18446744073709551616 : Int)).toNat) % (7 : Nat)) : Nat) : Int))))))) h rfl ?_)
   ·(try simp only [fitE, fitV, true_or, and_self, go_sem]) <;> (repeat' apply And.intro) <;> first | rfl | (left; rfl) | (right; rfl) | (left; simp only [go_sem]; done) | (right; simp only [go_sem]; done) | (simp; done) | (simp only [*]; done) | omega
  ·try simp only [go_sem] at hc
   have h := ite_F (by first | exact hc | omega | (simpa using hc) | (simp at hc ⊢; omega)) h
   refine tri_skip (at_then_norm (at_fit (((List.take ((IntKind.i64.wrap (((((a_0 % (18446744073709551616 : Int)).toNat) % (7 : Nat)) : Nat) : Int)).toNat) (strL ⟨#[49, 50, 51, 52, 53, 54]⟩)), (decide ((0 : Int) < (IntKind.i64.wrap (((((a_0 % (18446744073709551616 : Int)).toNat) % (7 : Nat)) : Nat) : Int)))))) h rfl ?_))
   ·(try simp only [fitE, fitV, true_or, and_self, go_sem]) <;> (repeat' apply And.intro) <;> first | rfl | (left; rfl) | (right; rfl) | (left; simp only [go_sem]; done) | (right; simp only [go_sem]; done) | (simp; done) | (simp only [*]; done) | omega
 ·rintro ⟨s_7, may_8⟩ h
  try dsimp only at h
  simp only [go_sem]
  unfold m_law4_DecForms_j1 at h
  refine tri_joinM (D := (List Nat) × Bool) (fun d => m_law4_DecForms_j2 d.1 d.2 = some r) [] (fun d => [(16, .val .str d.1), (17, .val .bool d.2)]) (fun d => []) ?_ ?_
  ·refine tri_seq (tri_region hF [5, 15, 16, 17, 47] ?_)
   simp only [go_sem]
   refine at_next (tri_cond rfl (fun hc => ?_) (fun hc => ?_))
   ·try simp only [go_sem] at hc
    have h := ite_T (by first | exact hc | omega | (simpa using hc) | (simp at hc ⊢; omega)) h
    refine tri_seq (tri_region hF [15, 16, 17] ?_)
    simp only [go_sem]
    obtain ⟨g0, h⟩ := ck_some h
    obtain ⟨g1, h⟩ := ck_some h
    obtain ⟨g2, h⟩ := ck_some h
    obtain ⟨g3, h⟩ := ck_some h
    obtain ⟨g4, h⟩ := ck_some h
    repeat (refine ⟨by first | with_reducible assumption | omega | (intros; first | assumption | omega) | (simp only [go_sem] at *; first | assumption | omega) | decide, ?_⟩)
    refine at_next (tri_region hF [16, 17] ?_)
    simp only [go_sem]
    refine at_then_norm (at_fit (((((s_7 ++ (strL ⟨#[101]⟩)) ++ (([(strL ⟨#[]⟩), (strL ⟨#[43]⟩), (strL ⟨#[45]⟩)] : List (List Nat)).getD ((IntKind.i64.wrap (((((sign_5 % (18446744073709551616 : Int)).toNat) % (3 : Nat)) : Nat) : Int)).toNat) ([] : List Nat))) ++ (List.take ((IntKind.i64.wrap (((((c_2 % (18446744073709551616 : Int)).toNat) % (5 : Nat)) : Nat) : Int)).toNat) (strL ⟨#[48, 48, 49, 50]⟩))), ((may_8 && (decide ((0 : Int) < (IntKind.i64.wrap (((((c_2 % (18446744073709551616 : Int)).toNat) % (5 : Nat)) : Nat) : Int))))) && (decide ((IntKind.i64.wrap (((((c_2 % (18446744073709551616 : Int)).toNat) % (5 : Nat)) : Nat) : Int)) < (4 : Int)))))) h rfl ?_)
    ·(try simp only [fitE, fitV, true_or, and_self, go_sem]) <;> (repeat' apply And.intro) <;> first | rfl | (left; rfl) | (right; rfl) | (left; simp only [go_sem]; done) | (right; simp only [go_sem]; done) | (simp; done) | (simp only [*]; done) | omega
   ·try simp only [go_sem] at hc
    have h := ite_F (by first | exact hc | omega | (simpa using hc) | (simp at hc ⊢; omega)) h
    refine tri_skip (at_then_norm (at_fit ((s_7, may_8)) h rfl ?_))
    ·(try simp only [fitE, fitV, true_or, and_self, go_sem]) <;> (repeat' apply And.intro) <;> first | rfl | (left; rfl) | (right; rfl) | (left; simp only [go_sem]; done) | (right; simp only [go_sem]; done) | (simp; done) | (simp only [*]; done) | omega
  ·rintro ⟨s_9, may_10⟩ h
   try dsimp only at h
   simp only [go_sem]
   unfold m_law4_DecForms_j2 at h
   refine tri_seq (tri_regionB hF [16, 17, 19] ?_)
   simp only [go_sem]
   obtain ⟨g0, h⟩ := ck_some h
   repeat (refine ⟨by first | with_reducible assumption | omega | (intros; first | assumption | omega) | (simp only [go_sem] at *; first | assumption | omega) | decide, ?_⟩)
   refine at_next (tri_seq (tri_region hF [12] ?_))
   simp only [go_sem]
   obtain ⟨g0, h⟩ := ck_some h
   obtain ⟨g1, h⟩ := ck_some h
   repeat (refine ⟨by first | with_reducible assumption | omega | (intros; first | assumption | omega) | (simp only [go_sem] at *; first | assumption | omega) | (intro q0; (try have e1 := g1 (by first | exact q0 | omega | (simpa using q0))); first | assumption | omega) | decide, ?_⟩)
   obtain rfl := Option.some.inj h
   refine at_next (tri_ret (at_retC hF [.tmp 12] rfl rfl rfl ?_))
   (try simp only [retOK, resE, go_sem]) <;> first | rfl | (simp; done)
attribute [go_sem] sm_law4_DecForms
end Nu
end Go.Proofs
namespace Go.Proofs
open Go.Vc
set_option maxRecDepth 20000
namespace Nu
theorem p2m (n m : Nat) (h : n ≤ m) : 2 ^ n ≤ 2 ^ m := Nat.pow_le_pow_right (by decide) h
theorem lt_p2 (m : Nat) {x n : Nat} (h : x < 2 ^ n) (hn : n ≤ m) : x < 2 ^ m := Nat.lt_of_lt_of_le h (p2m n m hn)
theorem le_lt_p2 (m : Nat) {x n : Nat} (h : x ≤ 2 ^ n) (hn : n < m) : x < 2 ^ m := Nat.lt_of_le_of_lt h (Nat.pow_lt_pow_right (by decide) hn)
theorem lt_BB (k : Nat) {x n : Nat} (h : x < 2 ^ n) (hn : n ≤ 64 * k) : x < 18446744073709551616 ^ k := by rw [BB_pow]; exact lt_p2 _ h hn
theorem BB_lt (a b : Nat) (h : a < b) : 18446744073709551616 ^ a < 18446744073709551616 ^ b := Nat.pow_lt_pow_right (by decide) h
abbrev Dy : Type := Bool × List Nat × Int × Unit
def d0 : Dy := (false, [], 0, ())
def mayD (d : Dy) : Bool :=
  if d.2.1.length = 0 then !d.1 && decide (d.2.2.1 = 0)
  else decide (d.2.1.length ≤ 64 ∧ Nrm d.2.1) && decide (d.2.1.getD 0 0 % 2 = 1) && decide (-1048576 ≤ d.2.2.1) && decide (d.2.2.1 ≤ 1048576)
theorem and_one (x : Nat) : x &&& 1 = x % 2 := Nat.and_two_pow_sub_one_eq_mod x 1
theorem may_eq (d : Dy) : m_dyad_May d = some (mayD d) := by
  unfold m_dyad_May mayD
  by_cases h : d.2.1.length = 0
  · rw [if_pos (by omega), if_pos h]
  · rw [if_neg (by omega), if_neg h]
    refine ck_to (fun _ => by omega) ?_
    rw [and_one]
    rfl
theorem must_false (e : Int) : m_dyad_must false e = some (.inr (e, ())) := rfl
theorem must_of {b : Bool} {e : Int} (h : b = true) : m_dyad_must b e = some (.inl ()) := by rw [h]; rfl
theorem must_not {b : Bool} {e : Int} (h : b = false) : m_dyad_must b e = some (.inr (e, ())) := by rw [h]; rfl
def fitD (neg : Bool) (m : Nat) (e : Int) : Dy ⊕ (Int × Unit) :=
  if m = 0 then .inl d0
  else if 64 < (lb (m / 2 ^ tzn m)).length then .inr (2, ())
  else if ¬ (e ≤ 1048576 ∧ -1048576 - (tzn m : Int) ≤ e) then .inr (3, ())
  else if 1048576 < e + (tzn m : Int) then .inr (3, ())
  else .inl (neg, lb (m / 2 ^ tzn m), e + (tzn m : Int), ())
theorem tzn_lt {m k : Nat} (h0 : m ≠ 0) (h : m < 18446744073709551616 ^ k) : tzn m < 64 * k := by
  obtain ⟨q, hq⟩ := tzn_spec h0
  rw [BB_pow] at h
  refine (Nat.pow_lt_pow_iff_right (show 1 < 2 by decide)).1 (Nat.lt_of_le_of_lt ?_ h)
  rw [hq, tzn_eq rfl]
  exact Nat.le_mul_of_pos_right _ (by omega)
theorem fit_eq (neg : Bool) (m : List Nat) (e : Int) (lm : Lm m) (nm : Nrm m) (sm : m.length ≤ 1099511627776) : m_dyad_fit neg m e = some (fitD neg (nv m) e) := by
  unfold m_dyad_fit fitD
  by_cases h0 : m.length = 0
  · have hm : m = [] := List.eq_nil_of_length_eq_zero h0
    subst hm
    rfl
  · have hm : nv m ≠ 0 := by have := nv_pos_of nm (fun e => h0 (by rw [e]; rfl)); omega
    have hz : f_nat_Zeros m = (tzn (nv m) : Int) := by unfold f_nat_Zeros; rw [if_neg hm]
    have hzl := tzn_lt hm (nv_lt lm)
    have hR : f_nat_Right m (tzn (nv m) : Int) = lb (nv m / 2 ^ tzn (nv m)) := by unfold f_nat_Right; rw [Int.toNat_natCast]
    rw [if_neg (by omega), if_neg hm, hz, hR]
    refine ck_to sm (ck_to ⟨sm, by omega⟩ ?_)
    by_cases h1 : 64 < (lb (nv m / 2 ^ tzn (nv m))).length
    · rw [must_not (by simp; omega), if_pos h1]; rfl
    · rw [must_of (by simp; omega), if_neg h1]
      simp only [Option.bind_some]
      by_cases h2 : e ≤ 1048576
      · rw [if_pos h2]
        refine ck_to (by constructor <;> omega) ?_
        by_cases h3 : -1048576 - (tzn (nv m) : Int) ≤ e
        · rw [must_of (by simp; omega), if_neg (by omega)]
          simp only [Option.bind_some]
          unfold m_dyad_fit_j1
          rw [hz, hR]
          refine ck_to (by constructor <;> omega) ?_
          by_cases h4 : e + (tzn (nv m) : Int) ≤ 1048576
          · rw [must_of (by simp; omega), if_neg (by omega)]
            simp only [Option.bind_some]
            exact ck_to (by constructor <;> omega) rfl
          · rw [must_not (by simp; omega), if_pos (by omega)]; rfl
        · rw [must_not (by simp; omega), if_pos (by omega)]; rfl
      · rw [if_neg h2, must_false, if_pos (by omega)]; rfl
def told {α : Type} (z : α) : α ⊕ (Int × Unit) → α × Int × Unit
  | .inl r => (r, 0, ())
  | .inr p => (z, p.1, ())
def FitD (neg : Bool) (m : Nat) (e : Int) : Dy × Int × Unit := told d0 (fitD neg m e)
theorem Fit_eq (neg : Bool) (m : List Nat) (e : Int) (lm : Lm m) (nm : Nrm m) (sm : m.length ≤ 1099511627776) : m_dyad_Fit neg m e = some (FitD neg (nv m) e) := by
  have h1 : m_dyad_Fit_1 neg m e = some (fitD neg (nv m) e) := by
    unfold m_dyad_Fit_1
    rw [fit_eq neg m e lm nm sm]
    simp only [Option.bind_some]
    cases fitD neg (nv m) e <;> rfl
  have h2 : m_dyad_face__dyad_Fit_1 neg m e = some (FitD neg (nv m) e) := by
    unfold m_dyad_face__dyad_Fit_1 FitD
    rw [h1]
    simp only [Option.bind_some]
    cases fitD neg (nv m) e <;> rfl
  unfold m_dyad_Fit
  rw [h2]
  exact ck_to rfl rfl
end Nu
end Go.Proofs
namespace Go.Proofs
open Go.Vc
set_option maxRecDepth 20000
namespace Nu
theorem rmust_of {b : Bool} {e : Int} (h : b = true) : m_round_must b e = some (.inl ()) := by rw [h]; rfl
theorem rmust_not {b : Bool} {e : Int} (h : b = false) : m_round_must b e = some (.inr (e, ())) := by rw [h]; rfl
def mayR (p : Int) (l : List Dy) : Unit ⊕ (Int × Unit) := if 1 ≤ p ∧ p ≤ 2000 ∧ l.all mayD = true then .inl () else .inr (1, ())
theorem rmay_eq (p : Int) (l : List Dy) (hl : l.length ≤ 9223372036854775807) : m_round_may p l = some (mayR p l) := by
  have key : loopO (fun d : Int => m_round_may_l2 l d) 0 = some (if l.all mayD = true then (.inl () : Unit ⊕ (Int × Unit)) else .inr (1, ())) := by
    have := loopO_of (step := fun d : Int => m_round_may_l2 l d) (I := fun i => 0 ≤ i ∧ i ≤ l.length) (fun i => (l.length - i).toNat) (fun i => if (l.drop i.toNat).all mayD = true then (.inl () : Unit ⊕ (Int × Unit)) else .inr (1, ())) ?_ 0 ⟨by omega, by omega⟩
    · have e : l.drop ((0 : Int).toNat) = l := rfl
      rw [e] at this
      exact this
    · rintro i ⟨i0, i1⟩
      show (∃ d', m_round_may_l2 l i = _ ∧ _) ∨ m_round_may_l2 l i = _
      unfold m_round_may_l2
      by_cases hi : i < l.length
      · have hk : i.toNat < l.length := by omega
        have hd : l.drop i.toNat = l.getD i.toNat d0 :: l.drop (i.toNat + 1) := by
          rw [List.drop_eq_getElem_cons hk, List.getD_eq_getElem?_getD, List.getElem?_eq_getElem hk]; rfl
        by_cases hm : mayD (l.getD i.toNat d0) = true
        · left
          refine ⟨i + 1, ?_, ⟨by omega, by omega⟩, by omega, ?_⟩
          · rw [if_pos hi]
            refine ck_to (by constructor <;> omega) (ck_to (by rw [may_eq]; rfl) ?_)
            rw [may_eq]
            refine bind_to (rmust_of hm) ?_
            exact ck_to (by constructor <;> omega) rfl
          · rw [hd, List.all_cons, hm, Bool.true_and, show (i + 1).toNat = i.toNat + 1 from by omega]
        · right
          rw [if_pos hi]
          refine ck_to (by constructor <;> omega) (ck_to (by rw [may_eq]; rfl) ?_)
          rw [may_eq]
          refine bind_to (rmust_not ((Bool.not_eq_true _).mp hm)) ?_
          rw [hd, List.all_cons]
          have : mayD (l.getD i.toNat d0) = false := (Bool.not_eq_true _).mp hm
          rw [this]
          rfl
      · right
        rw [if_neg hi, List.drop_eq_nil_of_le (by omega)]
        rfl
  unfold m_round_may mayR
  by_cases h1 : 1 ≤ p
  · rw [if_pos h1]
    by_cases h2 : p ≤ 2000
    · refine bind_to (rmust_of (by simp; omega)) ?_
      unfold m_round_may_j1
      rw [key]
      by_cases h3 : l.all mayD = true
      · rw [if_pos h3, if_pos ⟨h1, h2, h3⟩]; rfl
      · rw [if_neg h3, if_neg (fun h => h3 h.2.2)]; rfl
    · refine bind_to (rmust_not (by simp; omega)) ?_
      rw [if_neg (fun h => h2 h.2.1)]
  · rw [if_neg h1]
    refine bind_to (rmust_not rfl) ?_
    rw [if_neg (fun h => h1 h.1)]
def cutD (neg : Bool) (m : Nat) (e : Int) (rest : Bool) (p : Int) (up : Bool) : Dy ⊕ (Int × Unit) :=
  let n := (bl m : Int) - p
  let m1 := if 0 < n then m / 2 ^ n.toNat else m
  let e1 := if 0 < n then e + n else e
  let r1 := if 0 < n then rest || decide (m % 2 ^ n.toNat ≠ 0) else rest
  let m2 := if r1 = true ∧ (up != neg) = true then m1 + 1 else m1
  match FitD neg m2 e1 with
  | (d, f, _) => if f = 0 then .inl d else .inr (f, ())
theorem tzn_mod {m n : Nat} (h : m ≠ 0) : tzn m < n ↔ m % 2 ^ n ≠ 0 := by
  obtain ⟨q, hq⟩ := tzn_spec h
  constructor
  · intro hlt h0
    obtain ⟨k, hk⟩ := Nat.dvd_of_mod_eq_zero h0
    rw [hq, show n = tzn m + (n - tzn m) from by omega, Nat.pow_add, Nat.mul_assoc] at hk
    have h2 := Nat.eq_of_mul_eq_mul_left (Nat.two_pow_pos _) hk
    rw [show n - tzn m = (n - tzn m - 1) + 1 from by omega, Nat.pow_succ, Nat.mul_comm (2 ^ (n - tzn m - 1)) 2, Nat.mul_assoc] at h2
    omega
  · intro h0
    rcases Nat.lt_or_ge (tzn m) n with hlt | hge
    · exact hlt
    · exfalso
      apply h0
      rw [hq, show tzn m = n + (tzn m - n) from by omega, Nat.pow_add, Nat.mul_assoc]
      exact Nat.mul_mod_right _ _
theorem lb_succ (x : Nat) : (lb (x + 1)).length ≤ (lb x).length + 1 :=
  lb_len.2 (Nat.lt_of_le_of_lt (lb_len.1 (Nat.le_refl (lb x).length)) (Nat.pow_lt_pow_right (by decide) (by omega)))
theorem lb_le {x k : Nat} (a : List Nat) (la : Lm a) (h : x ≤ nv a) (hk : a.length ≤ k) : (lb x).length ≤ k :=
  Nat.le_trans (lb_len.2 (Nat.lt_of_le_of_lt h (nv_lt la))) hk
theorem cut_eq (neg : Bool) (m : List Nat) (e : Int) (rest : Bool) (p : Int) (up : Bool) (lm : Lm m) (nm : Nrm m) (sm : m.length ≤ 549755813888) (hp : 1 ≤ p ∧ p ≤ 2000) (he : -1000000000000 ≤ e ∧ e ≤ 1000000000000) :
    m_round_cut neg m e rest p up = some (cutD neg (nv m) e rest p up) := by
  have hb : f_nat_Size m = (bl (nv m) : Int) := rfl
  have hbl : bl (nv m) ≤ 64 * m.length := by
    refine bl_le ?_
    rw [← BB_pow]; exact nv_lt lm
  have j2 : ∀ (x : Nat) (e' : Int), (lb x).length ≤ 1099511627776 → m_round_cut_j2 neg e' (lb x) = some (match FitD neg x e' with | (d, f, _) => if f = 0 then .inl d else .inr (f, ())) := by
    intro x e' hx
    unfold m_round_cut_j2
    rw [Fit_eq neg (lb x) e' (Lm_lb x) (Nrm_lb x) hx, nv_lb]
    refine ck_to rfl ?_
    simp only [Option.getD_some]
    rcases FitD neg x e' with ⟨d, f, u⟩
    by_cases hf : f = 0
    · refine bind_to (rmust_of (by simpa using hf)) ?_
      simp only; rw [if_pos hf]
    · refine bind_to (rmust_not (by simpa using hf)) ?_
      simp only; rw [if_neg hf]
  have j1 : ∀ (x : Nat) (e' : Int) (r : Bool), (lb x).length ≤ 549755813888 → m_round_cut_j1 up neg (lb x) e' r = some (match FitD neg (if r = true ∧ (up != neg) = true then x + 1 else x) e' with | (d, f, _) => if f = 0 then .inl d else .inr (f, ())) := by
    intro x e' r hx
    unfold m_round_cut_j1
    by_cases h : r = true ∧ (up != neg) = true
    · rw [if_pos h, if_pos h]
      refine ck_to ⟨by show (lb x).length ≤ _; omega, by show (1 : Nat) ≤ _; decide⟩ ?_
      have : f_nat_Plus (lb x) [1] = lb (x + 1) := by
        unfold f_nat_Plus; rw [nv_lb]; rfl
      rw [this]
      refine j2 _ _ ?_
      have := lb_succ x
      omega
    · rw [if_neg h, if_neg h]
      exact j2 _ _ (by omega)
  unfold m_round_cut cutD
  rw [hb]
  refine ck_to ⟨nm, by show m.length ≤ _; omega⟩ (ck_to (by constructor <;> omega) ?_)
  by_cases hn : 0 < (bl (nv m) : Int) - p
  · have h0 : nv m ≠ 0 := by
      intro h; rw [h] at hn
      have : bl 0 = 0 := rfl
      omega
    have hz : f_nat_Zeros m = (tzn (nv m) : Int) := by unfold f_nat_Zeros; rw [if_neg h0]
    have hd : decide ((tzn (nv m) : Int) < (bl (nv m) : Int) - p) = decide (nv m % 2 ^ ((bl (nv m) : Int) - p).toNat ≠ 0) := by
      have := tzn_mod (n := ((bl (nv m) : Int) - p).toNat) h0
      refine decide_eq_decide.2 (Iff.trans ?_ this)
      omega
    simp only [if_pos hn]
    rw [hz, hd]
    refine ck_to (fun _ => by show m.length ≤ _; omega) (ck_to ⟨by show m.length ≤ _; omega, by omega⟩ (ck_to (by constructor <;> omega) ?_))
    unfold f_nat_Right
    refine j1 _ _ _ ?_
    exact lb_le m lm (Nat.div_le_self _ _) sm
  · simp only [if_neg hn]
    have := j1 (nv m) e rest (by rw [lb_nv lm nm]; exact sm)
    rw [lb_nv lm nm] at this
    exact this
def quotD (a b : Dy) (p : Int) (up : Bool) : Dy ⊕ (Int × Unit) :=
  match mayR p [a, b] with
  | .inr e => .inr e
  | .inl _ => if b.2.1.length = 0 then .inr (4, ()) else
    let k := max 0 (p + 1 + (bl (nv b.2.1) : Int) - (bl (nv a.2.1) : Int))
    cutD (a.1 != b.1) (nv a.2.1 * 2 ^ k.toNat / nv b.2.1) (a.2.2.1 - b.2.2.1 - k) (decide (nv a.2.1 * 2 ^ k.toNat % nv b.2.1 ≠ 0)) p up
theorem may_parts {d : Dy} (h : mayD d = true) : d.2.1.length ≤ 64 ∧ Nrm d.2.1 ∧ -1048576 ≤ d.2.2.1 ∧ d.2.2.1 ≤ 1048576 := by
  unfold mayD at h
  split at h
  · rename_i h0
    have : d.2.1 = [] := List.eq_nil_of_length_eq_zero h0
    simp at h
    rw [this, h.2]
    exact ⟨by decide, Nrm_nil, by decide, by decide⟩
  · simp at h
    exact ⟨h.1.1.1.1, h.1.1.1.2, h.1.2, h.2⟩
theorem quot_eq (a b : Dy) (p : Int) (up : Bool) (la : Lm a.2.1) (lb' : Lm b.2.1) : m_round_Quot a b p up = some (told d0 (quotD a b p up)) := by
  have h1 : m_round_Quot_1 p a b up = some (quotD a b p up) := by
    unfold m_round_Quot_1 quotD
    rw [rmay_eq p [a, b] (by simp)]
    simp only [Option.bind_some]
    cases hm : mayR p [a, b] with
    | inr e => rfl
    | inl u =>
      unfold mayR at hm
      split at hm
      · rename_i hh
        obtain ⟨p1, p2, p3⟩ := hh
        simp only [List.all_cons, List.all_nil, Bool.and_true, Bool.and_eq_true] at p3
        obtain ⟨a1, a2, a3, a4⟩ := may_parts p3.1
        obtain ⟨b1, b2, b3, b4⟩ := may_parts p3.2
        simp only
        by_cases hb : b.2.1.length = 0
        · rw [if_pos hb]
          refine bind_to (rmust_not (decide_eq_false (by omega))) rfl
        · rw [if_neg hb]
          have hb0 : nv b.2.1 ≠ 0 := by have := nv_pos_of b2 (fun e => hb (by rw [e]; rfl)); omega
          have hba : bl (nv a.2.1) ≤ 64 * a.2.1.length := bl_le (by rw [← BB_pow]; exact nv_lt la)
          have hbb : bl (nv b.2.1) ≤ 64 * b.2.1.length := bl_le (by rw [← BB_pow]; exact nv_lt lb')
          have e1 : f_nat_Size a.2.1 = (bl (nv a.2.1) : Int) := rfl
          have e2 : f_nat_Size b.2.1 = (bl (nv b.2.1) : Int) := rfl
          rw [e1, e2]
          have hk : ∃ k : Nat, max (0 : Int) (p + 1 + (bl (nv b.2.1) : Int) - (bl (nv a.2.1) : Int)) = (k : Int) ∧ k ≤ 6200 := ⟨(max (0 : Int) (p + 1 + (bl (nv b.2.1) : Int) - (bl (nv a.2.1) : Int))).toNat, by omega, by omega⟩
          obtain ⟨k, hk, hk2⟩ := hk
          rw [hk]
          have hA : nv a.2.1 * 2 ^ k < 18446744073709551616 ^ 200 := by
            have h1 := nv_lt la
            rw [BB_pow] at h1
            have h4 := Nat.mul_lt_mul_of_pos_right h1 (Nat.two_pow_pos k)
            rw [← Nat.pow_add] at h4
            exact lt_BB _ h4 (by omega)
          have hL : f_nat_Left a.2.1 (k : Int) = lb (nv a.2.1 * 2 ^ k) := by unfold f_nat_Left; rw [Int.toNat_natCast]
          rw [hL]
          have hLl : (lb (nv a.2.1 * 2 ^ k)).length ≤ 200 := lb_len.2 hA
          refine bind_to (rmust_of (decide_eq_true (by omega))) ?_
          refine ck_to (by constructor <;> omega) (ck_to ⟨b2, by show b.2.1.length ≤ _; omega⟩ (ck_to (by constructor <;> omega) (ck_to ⟨a2, by show a.2.1.length ≤ _; omega⟩ (ck_to (by constructor <;> omega) (ck_to ⟨by show a.2.1.length ≤ _; omega, by omega, by omega⟩ (ck_to ⟨Nrm_lb _, b2, hb0, by omega⟩ (ck_to (by constructor <;> omega) (ck_to (by constructor <;> omega) ?_))))))))
          have hq : (f_nat_QuoRem (lb (nv a.2.1 * 2 ^ k)) b.2.1).1 = lb (nv a.2.1 * 2 ^ k / nv b.2.1) := by unfold f_nat_QuoRem; rw [nv_lb]
          have hr : decide ((0 : Int) < (((f_nat_QuoRem (lb (nv a.2.1 * 2 ^ k)) b.2.1).2.1.length : Nat) : Int)) = decide (nv a.2.1 * 2 ^ k % nv b.2.1 ≠ 0) := by
            refine decide_eq_decide.2 ?_
            unfold f_nat_QuoRem
            rw [nv_lb]
            simp only
            constructor
            · intro h e; rw [lb_nil.2 e] at h; simp at h
            · intro h
              have := List.length_pos_iff.2 (fun e => h (lb_nil.1 e))
              omega
          rw [hq, hr]
          rw [cut_eq _ _ _ _ p up (Lm_lb _) (Nrm_lb _) (by have := lb_len.2 (Nat.lt_of_le_of_lt (Nat.div_le_self (nv a.2.1 * 2 ^ k) (nv b.2.1)) hA); omega) ⟨p1, p2⟩ (by constructor <;> omega), nv_lb]
          simp only [Option.bind_some, Int.toNat_natCast]
          cases cutD (a.1 != b.1) (nv a.2.1 * 2 ^ k / nv b.2.1) (a.2.2.1 - b.2.2.1 - (k : Int)) (decide (nv a.2.1 * 2 ^ k % nv b.2.1 ≠ 0)) p up <;> rfl
      · cases hm
  have h2 : m_round_face__round_Quot_1 p a b up = some (told d0 (quotD a b p up)) := by
    unfold m_round_face__round_Quot_1
    rw [h1]
    simp only [Option.bind_some]
    cases quotD a b p up <;> rfl
  unfold m_round_Quot
  rw [h2]
  exact ck_to rfl rfl
end Nu
end Go.Proofs
namespace Go.Proofs
open Go.Vc
set_option maxRecDepth 20000
namespace Nu
def rq (A B k : Nat) : Nat := A * 2 ^ k / B
def rn (A B p k : Nat) : Nat := bl (rq A B k) - p
def rM (A B p k : Nat) : Nat := rq A B k / 2 ^ rn A B p k
def rE (A B p k : Nat) : Int := (rn A B p k : Int) - (k : Int)
def rS (A B p k : Nat) : Bool := decide (A * 2 ^ k % (B * 2 ^ rn A B p k) ≠ 0)
theorem rq_more (A B k d : Nat) : rq A B (k + d) / 2 ^ d = rq A B k := by
  unfold rq
  rw [Nat.div_div_eq_div_mul, Nat.pow_add, ← Nat.mul_assoc, Nat.mul_div_mul_right _ _ (Nat.two_pow_pos d)]
theorem bl_div {x d : Nat} (h : x / 2 ^ d ≠ 0) : bl x = bl (x / 2 ^ d) + d := by
  have e := Nat.div_add_mod x (2 ^ d)
  have m := Nat.mod_lt x (Nat.two_pow_pos d)
  have := bl_add (x := x / 2 ^ d) (m := x % 2 ^ d) (k := d) h m
  rw [Nat.add_comm] at e
  rw [e] at this
  omega
theorem r_inv {A B p k d : Nat} (hp : 1 ≤ p) (h : 2 ^ p ≤ rq A B k) : rM A B p (k + d) = rM A B p k ∧ rE A B p (k + d) = rE A B p k ∧ rS A B p (k + d) = rS A B p k := by
  have hq := rq_more A B k d
  have hpos := Nat.two_pow_pos p
  have hb := bl_div (x := rq A B (k + d)) (d := d) (by rw [hq]; omega)
  rw [hq] at hb
  have hge : p + 1 ≤ bl (rq A B k) := by
    rcases Nat.lt_or_ge (bl (rq A B k)) (p + 1) with hlt | hge
    · have h1 := bl_lt (rq A B k)
      have h2 : 2 ^ bl (rq A B k) ≤ 2 ^ p := Nat.pow_le_pow_right (by decide) (by omega)
      omega
    · exact hge
  have hn : rn A B p (k + d) = rn A B p k + d := by unfold rn; omega
  refine ⟨?_, ?_, ?_⟩
  · unfold rM
    rw [hn, Nat.add_comm (rn A B p k) d, Nat.pow_add, ← Nat.div_div_eq_div_mul, hq]
  · unfold rE; rw [hn]; omega
  · unfold rS
    rw [hn, Nat.pow_add, Nat.pow_add, ← Nat.mul_assoc, ← Nat.mul_assoc, Nat.mul_mod_mul_right]
    refine decide_eq_decide.2 ?_
    have := Nat.two_pow_pos d
    constructor
    · intro h1 h2; apply h1; rw [h2, Nat.zero_mul]
    · intro h1 h2
      rcases Nat.mul_eq_zero.1 h2 with h3 | h3
      · exact h1 h3
      · omega
theorem rq_big {A B p k : Nat} (hA : A ≠ 0) (hB : B ≠ 0) (h : p + bl B ≤ bl A - 1 + k) : 2 ^ p ≤ rq A B k := by
  unfold rq
  refine (Nat.le_div_iff_mul_le (by omega)).2 ?_
  have h1 := bl_low hA
  have h2 := bl_lt B
  calc 2 ^ p * B ≤ 2 ^ p * 2 ^ bl B := Nat.mul_le_mul_left _ (Nat.le_of_lt h2)
    _ = 2 ^ (p + bl B) := (Nat.pow_add _ _ _).symm
    _ ≤ 2 ^ (bl A - 1 + k) := Nat.pow_le_pow_right (by decide) h
    _ = 2 ^ (bl A - 1) * 2 ^ k := Nat.pow_add _ _ _
    _ ≤ A * 2 ^ k := Nat.mul_le_mul_right _ h1
theorem r_same {A B p k k' : Nat} (hp : 1 ≤ p) (h : 2 ^ p ≤ rq A B k) (h' : 2 ^ p ≤ rq A B k') : rM A B p k = rM A B p k' ∧ rE A B p k = rE A B p k' ∧ rS A B p k = rS A B p k' := by
  obtain ⟨a1, a2, a3⟩ := r_inv (d := k') hp h
  obtain ⟨b1, b2, b3⟩ := r_inv (d := k) hp h'
  rw [Nat.add_comm k' k] at b1 b2 b3
  exact ⟨a1.symm.trans b1, a2.symm.trans b2, a3.symm.trans b3⟩
def rm2 (A B p k : Nat) (up : Bool) : Nat := if rS A B p k = true ∧ up = true then rM A B p k + 1 else rM A B p k
theorem cut_r {A B p k : Nat} {e : Int} {up : Bool} (hp : 1 ≤ p) (h : 2 ^ p ≤ rq A B k) :
    cutD false (rq A B k) (e - (k : Int)) (decide (A * 2 ^ k % B ≠ 0)) (p : Int) up = match FitD false (rm2 A B p k up) (e + rE A B p k) with | (d, f, _) => if f = 0 then .inl d else .inr (f, ()) := by
  have hge : p + 1 ≤ bl (rq A B k) := by
    rcases Nat.lt_or_ge (bl (rq A B k)) (p + 1) with hlt | hge
    · have h1 := bl_lt (rq A B k)
      have h2 : 2 ^ bl (rq A B k) ≤ 2 ^ p := Nat.pow_le_pow_right (by decide) (by omega)
      omega
    · exact hge
  have hn : ((bl (rq A B k) : Int) - (p : Int)).toNat = rn A B p k := by unfold rn; omega
  have hS : (decide (A * 2 ^ k % B ≠ 0) || decide (rq A B k % 2 ^ rn A B p k ≠ 0)) = rS A B p k := by
    unfold rS
    rw [Nat.mod_mul, ← Bool.decide_or]
    refine decide_eq_decide.2 ?_
    unfold rq
    have hB : 0 < B := by
      rcases Nat.eq_zero_or_pos B with h0 | h0
      · unfold rq at h; rw [h0, Nat.div_zero] at h; have := Nat.two_pow_pos p; omega
      · exact h0
    constructor
    · rintro (h1 | h1) h2
      · exact h1 (by omega)
      · apply h1
        have := Nat.mul_eq_zero.1 (show B * (A * 2 ^ k / B % 2 ^ rn A B p k) = 0 by omega)
        omega
    · intro h1
      by_cases h2 : A * 2 ^ k % B = 0
      · right; intro h3; apply h1; rw [h2, h3]; rfl
      · exact .inl h2
  have hp0 : 0 < (bl (rq A B k) : Int) - (p : Int) := by omega
  unfold cutD
  simp only [hn, hp0, if_true, hS]
  have e1 : e - (k : Int) + ((bl (rq A B k) : Int) - (p : Int)) = e + rE A B p k := by unfold rE rn; omega
  rw [e1]
  have e2 : (up != false) = up := by cases up <;> rfl
  simp only [e2]
  rfl
end Nu
end Go.Proofs
namespace Go.Proofs
open Go.Vc
set_option maxRecDepth 20000
namespace Nu
def normD (M : Nat) (e : Int) : Dy := if M = 0 then d0 else (false, lb (M / 2 ^ tzn M), e + (tzn M : Int), ())
theorem tzn_le {M K : Nat} (h0 : M ≠ 0) (h : M < 2 ^ K) : tzn M < K := by
  obtain ⟨q, hq⟩ := tzn_spec h0
  refine (Nat.pow_lt_pow_iff_right (show 1 < 2 by decide)).1 (Nat.lt_of_le_of_lt ?_ h)
  rw [hq, tzn_eq rfl]
  exact Nat.le_mul_of_pos_right _ (by omega)
theorem FitD_ok {M K : Nat} {e : Int} (hM : M < 2 ^ K) (hK : K ≤ 4096) (he : -1000000 ≤ e ∧ e ≤ 1000000) : FitD false M e = (normD M e, 0, ()) := by
  unfold FitD fitD normD
  by_cases h0 : M = 0
  · rw [if_pos h0, if_pos h0]; rfl
  · have hz := tzn_le h0 hM
    have hl : (lb (M / 2 ^ tzn M)).length ≤ 64 := by
      exact lb_len.2 (lt_BB 64 (Nat.lt_of_le_of_lt (Nat.div_le_self _ _) hM) (by omega))
    rw [if_neg h0, if_neg h0, if_neg (by omega), if_neg (by omega), if_neg (by omega)]
    rfl
theorem norm_parts {M : Nat} (h0 : M ≠ 0) : M / 2 ^ tzn M * 2 ^ tzn M = M ∧ M / 2 ^ tzn M % 2 = 1 := by
  obtain ⟨q, hq⟩ := tzn_spec h0
  have h1 : M / 2 ^ tzn M = 2 * q + 1 := by
    have := Nat.mul_div_cancel_left (2 * q + 1) (Nat.two_pow_pos (tzn M))
    rw [← hq] at this
    exact this
  rw [h1]
  exact ⟨by rw [Nat.mul_comm]; exact hq.symm, by omega⟩
theorem may_norm {M K : Nat} {e : Int} (hM : M < 2 ^ K) (hK : K ≤ 4096) (he : -1000000 ≤ e ∧ e ≤ 1000000) : mayD (normD M e) = true := by
  unfold normD
  by_cases h0 : M = 0
  · rw [if_pos h0]; rfl
  · have hz := tzn_le h0 hM
    obtain ⟨p1, p2⟩ := norm_parts h0
    have hne : M / 2 ^ tzn M ≠ 0 := by omega
    have hl : (lb (M / 2 ^ tzn M)).length ≤ 64 := by
      exact lb_len.2 (lt_BB 64 (Nat.lt_of_le_of_lt (Nat.div_le_self _ _) hM) (by omega))
    have hlp : (lb (M / 2 ^ tzn M)).length ≠ 0 := fun h => hne (lb_nil.1 (List.eq_nil_of_length_eq_zero h))
    have hg : (lb (M / 2 ^ tzn M)).getD 0 0 % 2 = 1 := by
      rw [getD_nv (Lm_lb _), nv_lb, Nat.pow_zero, Nat.div_one]
      omega
    rw [if_neg h0]
    unfold mayD
    simp only
    rw [if_neg hlp]
    simp only [Bool.and_eq_true, decide_eq_true_iff]
    exact ⟨⟨⟨⟨hl, Nrm_lb _⟩, hg⟩, by omega⟩, by omega⟩
theorem rM_lt {A B p k : Nat} : rM A B p k < 2 ^ p := by
  unfold rM rn
  refine (Nat.div_lt_iff_lt_mul (Nat.two_pow_pos _)).2 ?_
  rw [← Nat.pow_add]
  exact Nat.lt_of_lt_of_le (bl_lt _) (Nat.pow_le_pow_right (by decide) (by omega))
theorem rm2_lt {A B p k : Nat} {up : Bool} : rm2 A B p k up < 2 ^ (p + 1) := by
  have := rM_lt (A := A) (B := B) (p := p) (k := k)
  have h2 : 2 ^ (p + 1) = 2 ^ p * 2 := Nat.pow_succ ..
  have h3 := Nat.two_pow_pos p
  unfold rm2
  split <;> omega
theorem bl_mul_pow {x k : Nat} (h : x ≠ 0) : bl (x * 2 ^ k) = bl x + k := by
  have := bl_add (x := x) (m := 0) (k := k) h (Nat.two_pow_pos k)
  rw [Nat.zero_add, Nat.mul_comm] at this
  omega
theorem bl_mono {x y : Nat} (h : x ≤ y) : bl x ≤ bl y := bl_le (Nat.lt_of_le_of_lt h (bl_lt y))
theorem rE_range {A B p k : Nat} (hA : A ≠ 0) : -(k : Int) ≤ rE A B p k ∧ rE A B p k ≤ bl A := by
  have h1 : bl (rq A B k) ≤ bl A + k := by
    rw [← bl_mul_pow hA]
    exact bl_mono (Nat.div_le_self _ _)
  unfold rE rn
  constructor <;> omega
theorem r_odd {A B A' B' p k za zb : Nat} (hp : 1 ≤ p) (hA : A = A' * 2 ^ za) (hB : B = B' * 2 ^ zb) (h : 2 ^ p ≤ rq A B k) :
    2 ^ p ≤ rq A' B' (za + k) ∧ rM A' B' p (za + k) = rM A B p k ∧ rE A' B' p (za + k) + za - zb = rE A B p k ∧ rS A' B' p (za + k) = rS A B p k := by
  obtain ⟨a1, a2, a3⟩ := r_inv (d := zb) hp h
  have hz := Nat.two_pow_pos zb
  have e1 : rq A B (k + zb) = rq A' B' (za + k) := by
    unfold rq
    rw [hA, hB, Nat.mul_assoc, ← Nat.pow_add, ← Nat.add_assoc, Nat.pow_add 2 (za + k), ← Nat.mul_assoc, Nat.mul_div_mul_right _ _ hz]
  have e2 : rn A B p (k + zb) = rn A' B' p (za + k) := by unfold rn; rw [e1]
  refine ⟨?_, ?_, ?_, ?_⟩
  · rw [← e1]
    have h1 := rq_more A B k zb
    have h2 := Nat.div_le_self (rq A B (k + zb)) (2 ^ zb)
    omega
  · rw [← a1]; unfold rM; rw [e1, e2]
  · rw [← a2]; unfold rE; rw [e2]; omega
  · rw [← a3]; unfold rS
    rw [e2, hA, hB, Nat.mul_assoc A', ← Nat.pow_add, ← Nat.add_assoc, Nat.pow_add 2 (za + k), ← Nat.mul_assoc, Nat.mul_right_comm B', Nat.mul_mod_mul_right]
    refine decide_eq_decide.2 ?_
    constructor
    · intro h1 h2
      rcases Nat.mul_eq_zero.1 h2 with h3 | h3
      · exact h1 h3
      · omega
    · intro h1 h2; apply h1; rw [h2, Nat.zero_mul]
end Nu
end Go.Proofs
namespace Go.Proofs
open Go.Vc
set_option maxRecDepth 20000
namespace Nu
def isDig (c : Nat) : Bool := decide (48 ≤ c ∧ c ≤ 57)
def digs (s : List Nat) (i : Nat) : Nat := ((s.drop i).takeWhile isDig).length
theorem tw_lt {p : Nat → Bool} : ∀ (l : List Nat) (n : Nat), n ≤ (l.takeWhile p).length → (n < (l.takeWhile p).length ↔ n < l.length ∧ p (l.getD n 0) = true)
  | [], n, h => by simp
  | x :: r, n, h => by
    by_cases hp : p x = true
    · rw [List.takeWhile_cons_of_pos hp] at h ⊢
      cases n with
      | zero => simp [hp]
      | succ n =>
        have := tw_lt (p := p) r n (by simpa using h)
        simpa using this
    · rw [List.takeWhile_cons_of_neg hp] at h ⊢
      have : n = 0 := by simpa using h
      subst this
      simp [hp]
theorem digs_le (s : List Nat) (i : Nat) : digs s i ≤ s.length - i := by
  have := (List.takeWhile_prefix (p := isDig) (l := s.drop i)).length_le
  rw [List.length_drop] at this
  exact this
theorem digits_eq (s : List Nat) (i : Nat) (hs : s.length ≤ 4611686018427387904) (hi : i ≤ 4611686018427387904) : m_dec_digits s (i : Int) = some (digs s i : Int) := by
  have hd := digs_le s i
  unfold m_dec_digits
  refine bind_to (loopO_of (step := fun d : Int => m_dec_digits_l2 (i : Int) s d) (I := fun n => 0 ≤ n ∧ n ≤ digs s i) (fun n => ((digs s i : Int) - n).toNat) (fun _ => (digs s i : Int)) ?_ 0 ⟨by omega, by omega⟩) rfl
  rintro n ⟨n0, n1⟩
  obtain ⟨k, rfl⟩ := Int.eq_ofNat_of_zero_le n0
  show (∃ d', m_dec_digits_l2 (i : Int) s k = _ ∧ _) ∨ m_dec_digits_l2 (i : Int) s k = _
  have e : ((i : Int) + (k : Int)).toNat = i + k := by omega
  have hx : s.getD (i + k) 0 = (s.drop i).getD k 0 := by simp [List.getD_eq_getElem?_getD, List.getElem?_drop]
  have ht := tw_lt (p := isDig) (s.drop i) k (by show k ≤ digs s i; omega)
  have ht : k < digs s i ↔ i + k < s.length ∧ 48 ≤ s.getD (i + k) 0 ∧ s.getD (i + k) 0 ≤ 57 := by
    rw [hx]
    refine ht.trans ?_
    rw [List.length_drop, isDig, decide_eq_true_iff]
    constructor
    · rintro ⟨h1, h2⟩; exact ⟨by omega, h2⟩
    · rintro ⟨h1, h2⟩; exact ⟨by omega, h2⟩
  unfold m_dec_digits_l2
  rw [e]
  by_cases hk : k < digs s i
  · left
    obtain ⟨h1, h2, h3⟩ := ht.1 hk
    refine ⟨(k : Int) + 1, ?_, ⟨by omega, by omega⟩, by omega, rfl⟩
    refine ck_to (by constructor <;> omega) (ck_to (fun _ => by constructor <;> omega) (ck_to (fun _ => by constructor <;> omega) (ck_to (fun _ => by constructor <;> omega) (ck_to (fun _ => by constructor <;> omega) ?_))))
    rw [if_pos ⟨⟨by omega, h2⟩, h3⟩]
    exact ck_to (by constructor <;> omega) rfl
  · right
    refine ck_to (by constructor <;> omega) (ck_to (fun _ => by constructor <;> omega) (ck_to (fun _ => by constructor <;> omega) (ck_to (fun _ => by constructor <;> omega) (ck_to (fun _ => by constructor <;> omega) ?_))))
    rw [if_neg (fun h => hk (ht.2 ⟨by omega, h.1.2, h.2⟩)), show (k : Int) = (digs s i : Int) from by omega]
theorem lb_pow {b i : Nat} (h : b < 18446744073709551616) : (lb (b ^ i)).length ≤ i + 1 :=
  lb_len.2 (Nat.lt_of_le_of_lt (Nat.pow_le_pow_left (Nat.le_of_lt h) i) (Nat.pow_lt_pow_right (by decide) (by omega)))
theorem power_eq (b n : Nat) (hb : b < 18446744073709551616) (hn : n ≤ 100000) : m_dec_power b (n : Int) = some (lb (b ^ n)) := by
  unfold m_dec_power
  refine bind_to (loopO_of (step := fun d : (List Nat) × Int => m_dec_power_l3 (n : Int) b d.1 d.2) (I := fun d => 0 ≤ d.2 ∧ d.2 ≤ n ∧ d.1 = lb (b ^ d.2.toNat)) (fun d => ((n : Int) - d.2).toNat) (fun _ => lb (b ^ n)) ?_ ([1], 0) ⟨by simp, by simp, ?_⟩) rfl
  · rintro ⟨m, i⟩ ⟨i0, i1, i2⟩
    have i2 : m = lb (b ^ i.toNat) := i2
    have i0 : 0 ≤ i := i0
    have i1 : i ≤ n := i1
    show (∃ d', m_dec_power_l3 (n : Int) b m i = _ ∧ _) ∨ m_dec_power_l3 (n : Int) b m i = _
    unfold m_dec_power_l3
    have hl := lb_pow (i := i.toNat) hb
    by_cases hi : i < n
    · left
      have ht : f_nat_Times m [b] = lb (b ^ (i + 1).toNat) := by
        unfold f_nat_Times
        rw [i2, nv_lb, show (i + 1).toNat = i.toNat + 1 from by omega, Nat.pow_succ]
        rfl
      refine ⟨(lb (b ^ (i + 1).toNat), i + 1), ?_, ⟨by simp only; omega, by simp only; omega, rfl⟩, by simp only; omega, rfl⟩
      rw [if_pos hi]
      refine ck_to ⟨by show m.length ≤ _; rw [i2]; omega, by show (1 : Nat) ≤ _; decide⟩ (ck_to (by constructor <;> omega) ?_)
      rw [ht]
    · right
      rw [if_neg hi, i2, show i.toNat = n from by omega]
  · show [1] = lb (b ^ 0)
    rw [Nat.pow_zero, lb_pos (by decide)]
    rw [show 1 / 18446744073709551616 = 0 from by decide, lb_zero]
theorem sub8 {a b : Nat} (ha : a < 256) (hb : b ≤ a) : subU .u8 a b = a - b := by
  have hm : modK .u8 = 256 := by decide +kernel
  rw [subU_eq, hm, show a + (256 - b) = (a - b) + 256 from by omega, Nat.add_mod_right, Nat.mod_eq_of_lt (by omega)]
def numS (s : List Nat) : Nat := s.foldl (fun m c => m * 10 + (c - 48)) 0
theorem numS_snoc (s : List Nat) (c : Nat) : numS (s ++ [c]) = numS s * 10 + (c - 48) := by simp [numS]
theorem numS_from : ∀ (s : List Nat) (m : Nat), (∀ c ∈ s, isDig c = true) → s.foldl (fun m c => m * 10 + (c - 48)) m < (m + 1) * 10 ^ s.length
  | [], m, _ => by simp
  | x :: r, m, h => by
    have hx := h x (by simp)
    simp only [isDig, decide_eq_true_iff] at hx
    have ih := numS_from r (m * 10 + (x - 48)) (fun c hc => h c (by simp [hc]))
    rw [List.foldl_cons, List.length_cons, Nat.pow_succ, Nat.mul_comm (10 ^ r.length) 10, ← Nat.mul_assoc]
    exact Nat.lt_of_lt_of_le ih (Nat.mul_le_mul_right _ (by omega))
theorem numS_lt {s : List Nat} (h : ∀ c ∈ s, isDig c = true) : numS s < 10 ^ s.length := by
  have := numS_from s 0 h
  rw [Nat.zero_add, Nat.one_mul] at this
  exact this
theorem number_eq (s : List Nat) (hd : ∀ c ∈ s, isDig c = true) (hs : s.length ≤ 100000) : m_dec_number s = some (lb (numS s)) := by
  unfold m_dec_number
  refine bind_to (loopO_of (step := fun d : (List Nat) × Int => m_dec_number_l3 s d.1 d.2) (I := fun d => 0 ≤ d.2 ∧ d.2 ≤ s.length ∧ d.1 = lb (numS (s.take d.2.toNat))) (fun d => ((s.length : Int) - d.2).toNat) (fun _ => lb (numS s)) ?_ ([], 0) ⟨by simp, by simp, ?_⟩) rfl
  · rintro ⟨m, i⟩ ⟨i0, i1, i2⟩
    have i2 : m = lb (numS (s.take i.toNat)) := i2
    have i0 : 0 ≤ i := i0
    have i1 : i ≤ s.length := i1
    show (∃ d', m_dec_number_l3 s m i = _ ∧ _) ∨ m_dec_number_l3 s m i = _
    unfold m_dec_number_l3
    have hml : m.length ≤ 100001 := by
      rw [i2]
      have h1 := numS_lt (s := s.take i.toNat) (fun c hc => hd c (List.mem_of_mem_take hc))
      have h2 : (s.take i.toNat).length ≤ 100000 := by rw [List.length_take]; omega
      have h3 := lb_pow (b := 10) (i := (s.take i.toNat).length) (by decide)
      have h4 := lb_le (x := numS (s.take i.toNat)) (lb (10 ^ (s.take i.toNat).length)) (Lm_lb _) (by rw [nv_lb]; omega) h3
      omega
    by_cases hi : i < s.length
    · left
      have hk : i.toNat < s.length := by omega
      have hg : s.getD i.toNat 0 ∈ s := by rw [List.getD_eq_getElem?_getD, List.getElem?_eq_getElem hk]; exact List.getElem_mem hk
      have hc := hd _ hg
      simp only [isDig, decide_eq_true_iff] at hc
      have hsub : subU .u8 (s.getD i.toNat 0) 48 = s.getD i.toNat 0 - 48 := sub8 (by omega) hc.1
      have hN : f_nat_Norm [s.getD i.toNat 0 - 48] = lb (s.getD i.toNat 0 - 48) := by
        show lb (nv [s.getD i.toNat 0 - 48]) = _
        simp [nv]
      have ht : f_nat_Plus (f_nat_Times m [10]) (lb (s.getD i.toNat 0 - 48)) = lb (numS (s.take (i + 1).toNat)) := by
        unfold f_nat_Plus f_nat_Times
        rw [i2, nv_lb, nv_lb, nv_lb, show (i + 1).toNat = i.toNat + 1 from by omega, take_succ hk, numS_snoc]
        rfl
      have hT : (f_nat_Times m [10]).length ≤ 100002 := by
        unfold f_nat_Times
        refine Nat.le_trans (lb_len (k := m.length + 1).2 ?_) (by omega)
        rw [i2, nv_lb, Nat.pow_succ, ← i2]
        have h1 := nv_lt (a := m) (by rw [i2]; exact Lm_lb _)
        rw [i2, nv_lb, ← i2] at h1
        exact Nat.mul_lt_mul'' h1 (by decide)
      refine ⟨(lb (numS (s.take (i + 1).toNat)), i + 1), ?_, ⟨by simp only; omega, by simp only; omega, rfl⟩, by simp only; omega, rfl⟩
      rw [if_pos hi, hsub, hN, ht]
      refine ck_to (by constructor <;> omega) (ck_to ⟨by show m.length ≤ _; omega, by show (1 : Nat) ≤ _; decide⟩ (ck_to (by show (1 : Nat) ≤ _; decide) (ck_to ⟨by show (f_nat_Times m [10]).length ≤ _; omega, ?_⟩ (ck_to (by constructor <;> omega) rfl))))
      show (lb (s.getD i.toNat 0 - 48)).length ≤ _
      have := lb_len (n := s.getD i.toNat 0 - 48) (k := 1).2 (by omega)
      omega
    · right
      rw [if_neg hi, i2, List.take_of_length_le (by omega)]
  · show [] = lb (numS [])
    rw [show numS [] = 0 from rfl, lb_zero]
end Nu
end Go.Proofs
namespace Go.Proofs
open Go.Vc
set_option maxRecDepth 20000
namespace Nu
theorem pow10_18 {k : Nat} (h : k ≤ 18) : 10 ^ k ≤ 1000000000000000000 := Nat.pow_le_pow_right (n := 10) (by decide) h
theorem atoi_eq (s : List Nat) (hd : ∀ c ∈ s, isDig c = true) (h0 : 0 < s.length) (h1 : s.length ≤ 18) : m_strconv_Atoi s = some ((numS s : Int), (), ()) := by
  have hget : ∀ k, k < s.length → 48 ≤ s.getD k 0 ∧ s.getD k 0 ≤ 57 := fun k hk => by
    have hg : s.getD k 0 ∈ s := by rw [List.getD_eq_getElem?_getD, List.getElem?_eq_getElem hk]; exact List.getElem_mem hk
    have := hd _ hg
    simpa only [isDig, decide_eq_true_iff] using this
  have hlt : ∀ k, numS (s.take k) < 1000000000000000000 ∨ k > s.length := fun k => by
    rcases Nat.lt_or_ge s.length k with h | h
    · exact .inr h
    · left
      have a := numS_lt (s := s.take k) (fun c hc => hd c (List.mem_of_mem_take hc))
      have b := pow10_18 (k := (s.take k).length) (by rw [List.length_take]; omega)
      omega
  have key : m_istrconv_Atoi_j2 s s = some ((numS s : Int), (), ()) := by
    unfold m_istrconv_Atoi_j2
    refine bind_to (loopO_of (step := fun d : Int × Int => m_istrconv_Atoi_l10 s d.1 d.2) (I := fun d => 0 ≤ d.2 ∧ d.2 ≤ s.length ∧ d.1 = (numS (s.take d.2.toNat) : Int)) (fun d => ((s.length : Int) - d.2).toNat) (fun _ => .inl (numS s : Int)) ?_ (0, 0) ⟨by simp, by simp, by simp [numS]⟩) ?_
    · rintro ⟨n, i⟩ ⟨i0, i1, i2⟩
      have i0 : 0 ≤ i := i0
      have i1 : i ≤ s.length := i1
      have i2 : n = (numS (s.take i.toNat) : Int) := i2
      show (∃ d', m_istrconv_Atoi_l10 s n i = _ ∧ _) ∨ m_istrconv_Atoi_l10 s n i = _
      unfold m_istrconv_Atoi_l10
      by_cases hi : i < s.length
      · left
        have hk : i.toNat < s.length := by omega
        obtain ⟨c1, c2⟩ := hget _ hk
        have hsub : subU .u8 (s.getD i.toNat 0) 48 = s.getD i.toNat 0 - 48 := sub8 (by omega) c1
        have hb : numS (s.take (i.toNat + 1)) = numS (s.take i.toNat) * 10 + (s.getD i.toNat 0 - 48) := by rw [take_succ hk, numS_snoc]
        have hl := hlt (i.toNat + 1)
        refine ⟨((numS (s.take (i + 1).toNat) : Int), i + 1), ?_, ⟨by simp only; omega, by simp only; omega, rfl⟩, by simp only; omega, rfl⟩
        rw [if_pos hi, hsub, show (i + 1).toNat = i.toNat + 1 from by omega, hb]
        refine ck_to (by constructor <;> omega) ?_
        rw [if_neg (by omega), i2]
        refine ck_to (by constructor <;> omega) (ck_to (by constructor <;> omega) (ck_to (by constructor <;> omega) ?_))
        congr 3
      · right
        rw [if_neg hi, i2, List.take_of_length_le (by omega)]
    · unfold m_istrconv_Atoi_j3
      obtain ⟨c1, c2⟩ := hget 0 h0
      refine ck_to (by omega) ?_
      rw [if_neg (by omega)]
  have h2 : m_istrconv_Atoi s = some ((numS s : Int), (), ()) := by
    unfold m_istrconv_Atoi
    obtain ⟨c1, c2⟩ := hget 0 h0
    rw [if_pos (.inr ⟨trivial, by omega, by omega⟩)]
    refine ck_to (by omega) (ck_to (fun _ => by omega) ?_)
    rw [if_neg (by omega)]
    exact key
  unfold m_strconv_Atoi
  rw [h2]
  exact ck_to rfl rfl
theorem digs_all (s : List Nat) (i : Nat) : ∀ c ∈ (s.drop i).take (digs s i), isDig c = true := by
  intro c hc
  have h : (s.drop i).take (digs s i) = (s.drop i).takeWhile isDig := by
    have := List.prefix_iff_eq_take.1 (List.takeWhile_prefix (p := isDig) (l := s.drop i))
    exact this.symm
  rw [h] at hc
  exact List.all_eq_true.1 List.all_takeWhile c hc
abbrev LitR : Type := List Nat × Int × Bool × Unit
def litNo : LitR := ([], 0, false, ())
def litSign (s : List Nat) (i : Nat) (c : Nat) : Prop := i < s.length ∧ s.getD i 0 = c
instance (s : List Nat) (i c : Nat) : Decidable (litSign s i c) := inferInstanceAs (Decidable (_ ∧ _))
def litPow (s : List Nat) (i : Nat) (all : List Nat) (pow : Int) (neg : Bool) : LitR :=
  if digs s i < 1 ∨ 3 < digs s i then litNo
  else if 100 < numS ((s.drop i).take (digs s i)) then litNo
  else (all, pow + (if neg then -(numS ((s.drop i).take (digs s i)) : Int) else numS ((s.drop i).take (digs s i))), decide (i + digs s i = s.length), ())
def litE (s : List Nat) (i : Nat) (all : List Nat) (pow : Int) : LitR :=
  if litSign s i 101 then litPow s (if litSign s (i + 1) 45 ∨ litSign s (i + 1) 43 then i + 2 else i + 1) all pow (decide (litSign s (i + 1) 45))
  else (all, pow, decide (i = s.length), ())
def litF (s : List Nat) : LitR :=
  if 60 < s.length ∨ digs s 0 = 0 then litNo
  else if litSign s (digs s 0) 46 then
    if digs s (digs s 0 + 1) = 0 then litNo
    else litE s (digs s 0 + 1 + digs s (digs s 0 + 1)) (s.take (digs s 0) ++ (s.drop (digs s 0 + 1)).take (digs s (digs s 0 + 1))) (-(digs s (digs s 0 + 1) : Int))
  else litE s (digs s 0) (s.take (digs s 0)) 0
theorem getD_i (s : List Nat) (i : Nat) : s.getD ((i : Int)).toNat 0 = s.getD i 0 := by rw [Int.toNat_natCast]
theorem lit_j4 (s : List Nat) (k : Nat) (all : List Nat) (pow x : Int) (hs : s.length ≤ 60) (hk : k ≤ 100) (hp : -100 ≤ pow ∧ pow ≤ 100) (hx : -100 ≤ x ∧ x ≤ 100) : m_dec_literal_j4 pow (k : Int) s all x = some (all, pow + x, decide (k + digs s k = s.length), ()) := by
  have hd := digs_le s k
  unfold m_dec_literal_j4
  rw [digits_eq s k (by omega) (by omega)]
  simp only [Option.getD_some]
  refine ck_to (by constructor <;> omega) (ck_to (by constructor <;> omega) ?_)
  unfold m_dec_literal_j2
  have : decide ((k : Int) + (digs s k : Int) = (s.length : Int)) = decide (k + digs s k = s.length) := decide_eq_decide.2 (by omega)
  rw [this]
theorem lit_j3 (s : List Nat) (i k : Nat) (all : List Nat) (pow : Int) (hs : s.length ≤ 60) (hi : i ≤ 60) (hk : k ≤ 100) (hp : -100 ≤ pow ∧ pow ≤ 100) : m_dec_literal_j3 s (i : Int) pow all (k : Int) = some (litPow s k all pow (decide (litSign s (i + 1) 45))) := by
  have hd := digs_le s k
  unfold m_dec_literal_j3 litPow
  rw [digits_eq s k (by omega) (by omega)]
  simp only [Option.getD_some]
  refine ck_to rfl ?_
  by_cases h1 : digs s k < 1 ∨ 3 < digs s k
  · rw [if_pos (by omega), if_pos h1]; rfl
  · rw [if_neg (by omega), if_neg h1]
    have ht : List.drop ((k : Int)).toNat (List.take ((k : Int) + (digs s k : Int)).toNat s) = (s.drop k).take (digs s k) := by
      rw [List.drop_take, Int.toNat_natCast]
      congr 1
      omega
    have hl : ((s.drop k).take (digs s k)).length = digs s k := by rw [List.length_take, List.length_drop]; omega
    have ha := atoi_eq _ (digs_all s k) (by omega) (by omega)
    simp only [ht, ha, Option.getD_some]
    refine ck_to (by constructor <;> omega) (ck_to (by constructor <;> omega) (ck_to rfl ?_))
    by_cases h2 : 100 < numS ((s.drop k).take (digs s k))
    · rw [if_pos (by omega), if_pos h2]; rfl
    · rw [if_neg (by omega), if_neg h2]
      have e : ((i : Int) + 1).toNat = i + 1 := by omega
      rw [e]
      by_cases h3 : litSign s (i + 1) 45
      · have h3' : i + 1 < s.length ∧ s.getD (i + 1) 0 = 45 := h3
        rw [if_pos ⟨by omega, h3'.2⟩, decide_eq_true h3]
        refine ck_to (by constructor <;> omega) ?_
        rw [show (0 : Int) - (numS ((s.drop k).take (digs s k)) : Int) = -(numS ((s.drop k).take (digs s k)) : Int) from by omega]
        rw [lit_j4 s k all pow _ hs hk hp (by constructor <;> omega)]
        rfl
      · have h3' : ¬ (i + 1 < s.length ∧ s.getD (i + 1) 0 = 45) := h3
        rw [if_neg (fun h => h3' ⟨by omega, h.2⟩), decide_eq_false h3]
        rw [lit_j4 s k all pow _ hs hk hp (by constructor <;> omega)]
        rfl
theorem lit_j1 (s : List Nat) (i : Nat) (all : List Nat) (pow : Int) (hs : s.length ≤ 60) (hi : i ≤ 60) (hp : -100 ≤ pow ∧ pow ≤ 100) : m_dec_literal_j1 s (i : Int) all pow = some (litE s i all pow) := by
  unfold m_dec_literal_j1 litE
  have e : ((i : Int) + 1).toNat = i + 1 := by omega
  rw [getD_i, e]
  refine ck_to (fun _ => by constructor <;> omega) ?_
  by_cases h : litSign s i 101
  · have h' : i < s.length ∧ s.getD i 0 = 101 := h
    rw [if_pos ⟨by omega, h'.2⟩, if_pos h]
    refine ck_to (by constructor <;> omega) (ck_to (fun _ => by constructor <;> omega) (ck_to (fun _ _ => by constructor <;> omega) ?_))
    by_cases h2 : litSign s (i + 1) 45 ∨ litSign s (i + 1) 43
    · have h2' : (i + 1 < s.length ∧ s.getD (i + 1) 0 = 45) ∨ (i + 1 < s.length ∧ s.getD (i + 1) 0 = 43) := h2
      rw [if_pos (by rcases h2' with h | h; exact .inl ⟨by omega, h.2⟩; exact .inr ⟨by omega, h.2⟩), if_pos h2]
      refine ck_to (by constructor <;> omega) ?_
      have := lit_j3 s i (i + 2) all pow hs hi (by omega) hp
      rw [show ((i + 2 : Nat) : Int) = (i : Int) + 1 + 1 from by omega] at this
      exact this
    · have h2' : ¬ ((i + 1 < s.length ∧ s.getD (i + 1) 0 = 45) ∨ (i + 1 < s.length ∧ s.getD (i + 1) 0 = 43)) := h2
      rw [if_neg (fun h => h2' (by rcases h with h | h; exact .inl ⟨by omega, h.2⟩; exact .inr ⟨by omega, h.2⟩)), if_neg h2]
      have := lit_j3 s i (i + 1) all pow hs hi (by omega) hp
      rw [show ((i + 1 : Nat) : Int) = (i : Int) + 1 from by omega] at this
      exact this
  · have h' : ¬ (i < s.length ∧ s.getD i 0 = 101) := h
    rw [if_neg (fun h => h' ⟨by omega, h.2⟩), if_neg h]
    unfold m_dec_literal_j2
    have : decide ((i : Int) = (s.length : Int)) = decide (i = s.length) := decide_eq_decide.2 (by omega)
    rw [this]
theorem lit_eq (s : List Nat) (hs : s.length ≤ 4611686018427387904) : m_dec_literal s = some (litF s) := by
  have hd0 := digs_le s 0
  have hd1 := digs_le s (digs s 0 + 1)
  unfold m_dec_literal litF
  have e0 := digits_eq s 0 hs (by omega)
  rw [show ((0 : Nat) : Int) = 0 from rfl] at e0
  rw [e0]
  simp only [Option.getD_some]
  refine ck_to rfl (ck_to (by constructor <;> omega) ?_)
  by_cases h1 : 60 < s.length ∨ digs s 0 = 0
  · rw [if_pos (by omega), if_pos h1]; rfl
  · rw [if_neg (by omega), if_neg h1]
    rw [getD_i]
    refine ck_to (fun _ => by constructor <;> omega) ?_
    by_cases h2 : litSign s (digs s 0) 46
    · have h2' : digs s 0 < s.length ∧ s.getD (digs s 0) 0 = 46 := h2
      rw [if_pos ⟨by omega, h2'.2⟩, if_pos h2]
      have e1 := digits_eq s (digs s 0 + 1) hs (by omega)
      rw [show ((digs s 0 + 1 : Nat) : Int) = (digs s 0 : Int) + 1 from by omega] at e1
      simp only [e1, Option.getD_some]
      refine ck_to (by constructor <;> omega) (ck_to rfl ?_)
      by_cases h3 : digs s (digs s 0 + 1) = 0
      · rw [if_pos (by omega), if_pos h3]; rfl
      · rw [if_neg (by omega), if_neg h3]
        have ht : List.drop ((digs s 0 : Int) + 1).toNat (List.take ((digs s 0 : Int) + 1 + (digs s (digs s 0 + 1) : Int)).toNat s) = (s.drop (digs s 0 + 1)).take (digs s (digs s 0 + 1)) := by
          rw [List.drop_take, show ((digs s 0 : Int) + 1).toNat = digs s 0 + 1 from by omega]
          congr 1
          omega
        simp only [ht, Int.toNat_natCast]
        have hl1 : (s.take (digs s 0)).length ≤ 60 := by rw [List.length_take]; omega
        have hl2 : ((s.drop (digs s 0 + 1)).take (digs s (digs s 0 + 1))).length ≤ 60 := by rw [List.length_take]; omega
        refine ck_to (by constructor <;> omega) (ck_to (by constructor <;> omega) (ck_to (by constructor <;> omega) (ck_to (by constructor <;> omega) (ck_to (by omega) (ck_to (by constructor <;> omega) (ck_to (by constructor <;> omega) (ck_to (by constructor <;> omega) ?_)))))))
        have := lit_j1 s (digs s 0 + 1 + digs s (digs s 0 + 1)) (s.take (digs s 0) ++ (s.drop (digs s 0 + 1)).take (digs s (digs s 0 + 1))) (-(digs s (digs s 0 + 1) : Int)) (by omega) (by omega) (by constructor <;> omega)
        rw [show ((digs s 0 + 1 + digs s (digs s 0 + 1) : Nat) : Int) = (digs s 0 : Int) + 1 + (digs s (digs s 0 + 1) : Int) from by omega] at this
        rw [show (0 : Int) - (digs s (digs s 0 + 1) : Int) = -(digs s (digs s 0 + 1) : Int) from by omega]
        exact this
    · have h2' : ¬ (digs s 0 < s.length ∧ s.getD (digs s 0) 0 = 46) := h2
      rw [if_neg (fun h => h2' ⟨by omega, h.2⟩), if_neg h2]
      rw [Int.toNat_natCast]
      exact lit_j1 s (digs s 0) _ 0 (by omega) (by omega) (by decide)
end Nu
end Go.Proofs
namespace Go.Proofs
open Go.Vc
set_option maxRecDepth 20000
namespace Nu
def ratD (A B p k : Nat) (up : Bool) : Dy := normD (rm2 A B p k up) (rE A B p k)
theorem normD_len {M : Nat} {e : Int} : (normD M e).2.1 = lb (M / 2 ^ tzn M) := by
  unfold normD
  split
  · rename_i h; subst h; rw [Nat.zero_div, lb_zero]; rfl
  · rfl
theorem quot_norm {A B p k0 K : Nat} {up : Bool} (hB : B ≠ 0) (hAK : A < 2 ^ K) (hBK : B < 2 ^ K) (hK : K ≤ 1000) (hp : 1 ≤ p) (hp2 : p ≤ 2000) (h : A ≠ 0 → 2 ^ p ≤ rq A B k0) :
    quotD (normD A 0) (normD B 0) (p : Int) up = .inl (if A = 0 then d0 else ratD A B p k0 up) := by
  have mA : mayD (normD A 0) = true := may_norm hAK (by omega) (by decide)
  have mB : mayD (normD B 0) = true := may_norm hBK (by omega) (by decide)
  have hm : mayR (p : Int) [normD A 0, normD B 0] = .inl () := by
    unfold mayR
    rw [if_pos ⟨by omega, by omega, by simp [mA, mB]⟩]
  obtain ⟨b1, b2⟩ := norm_parts hB
  have hB' : B / 2 ^ tzn B ≠ 0 := by omega
  have hbB : bl (B / 2 ^ tzn B) ≤ K := bl_le (Nat.lt_of_le_of_lt (Nat.div_le_self _ _) hBK)
  have hzB := tzn_le hB hBK
  unfold quotD
  rw [hm]
  simp only [normD_len, nv_lb]
  rw [if_neg (fun h => hB' (lb_nil.1 (List.eq_nil_of_length_eq_zero h)))]
  have hs1 : (normD A 0).1 = false := by unfold normD; split <;> rfl
  have hs2 : (normD B 0).1 = false := by unfold normD; split <;> rfl
  rw [hs1, hs2]
  by_cases hA : A = 0
  · subst hA
    simp only [if_true]
    have h1 : (normD 0 0).2.2.1 = 0 := rfl
    have h2 : (normD B 0).2.2.1 = (tzn B : Int) := by unfold normD; rw [if_neg hB]; simp
    rw [h1, h2, Nat.zero_div, Nat.zero_mul, Nat.zero_div, Nat.zero_mod]
    unfold cutD
    have hb0 : ¬ 0 < ((bl 0 : Nat) : Int) - (p : Int) := by
      have : bl 0 = 0 := rfl
      omega
    simp only [hb0, if_false]
    have : decide ((0 : Nat) ≠ 0) = false := rfl
    rw [this]
    simp only [Bool.false_eq_true, false_and, if_false]
    rfl
  · obtain ⟨a1, a2⟩ := norm_parts hA
    have hA' : A / 2 ^ tzn A ≠ 0 := by omega
    have hbA : bl (A / 2 ^ tzn A) ≤ K := bl_le (Nat.lt_of_le_of_lt (Nat.div_le_self _ _) hAK)
    have hzA := tzn_le hA hAK
    have h1 : (normD A 0).2.2.1 = (tzn A : Int) := by unfold normD; rw [if_neg hA]; simp
    have h2 : (normD B 0).2.2.1 = (tzn B : Int) := by unfold normD; rw [if_neg hB]; simp
    rw [h1, h2, if_neg hA]
    obtain ⟨k, hk, hk2, hk3⟩ : ∃ k : Nat, max (0 : Int) ((p : Int) + 1 + (bl (B / 2 ^ tzn B) : Int) - (bl (A / 2 ^ tzn A) : Int)) = (k : Int) ∧ p + bl (B / 2 ^ tzn B) ≤ bl (A / 2 ^ tzn A) - 1 + k ∧ k ≤ 4000 := by
      have hpos := bl_pos hA'
      exact ⟨(max (0 : Int) ((p : Int) + 1 + (bl (B / 2 ^ tzn B) : Int) - (bl (A / 2 ^ tzn A) : Int))).toNat, by omega, by omega, by omega⟩
    rw [hk, Int.toNat_natCast]
    have hbig := rq_big (p := p) hA' hB' hk2
    have hf : (false != false) = false := rfl
    rw [hf]
    have hc := cut_r (e := (tzn A : Int) - (tzn B : Int)) (up := up) hp hbig
    unfold rq at hc
    rw [hc]
    obtain ⟨o1, o2, o3, o4⟩ := r_odd (A' := A / 2 ^ tzn A) (B' := B / 2 ^ tzn B) (za := tzn A) (zb := tzn B) hp a1.symm b1.symm (h hA)
    obtain ⟨s1, s2, s3⟩ := r_same hp hbig o1
    have hrm : rm2 (A / 2 ^ tzn A) (B / 2 ^ tzn B) p k up = rm2 A B p k0 up := by unfold rm2; rw [s1, s3, o2, o4]
    have hre : (tzn A : Int) - (tzn B : Int) + rE (A / 2 ^ tzn A) (B / 2 ^ tzn B) p k = rE A B p k0 := by rw [s2]; omega
    obtain ⟨q1, q2⟩ := rE_range (A := A / 2 ^ tzn A) (B := B / 2 ^ tzn B) (p := p) (k := k) hA'
    rw [hrm, hre, FitD_ok (K := p + 1) rm2_lt (by omega) (by constructor <;> omega)]
    simp only [if_true]
    rfl
def litP (r : LitR) : Prop := (∀ c ∈ r.1, isDig c = true) ∧ r.1.length ≤ 60 ∧ -160 ≤ r.2.1 ∧ r.2.1 ≤ 160
theorem litNo_parts : litP litNo := ⟨(fun c hc => by cases hc), by decide, by decide, by decide⟩
theorem litPow_parts {s : List Nat} {i : Nat} {all : List Nat} {pow : Int} {neg : Bool} (h1 : ∀ c ∈ all, isDig c = true) (h2 : all.length ≤ 60) (h3 : -60 ≤ pow ∧ pow ≤ 0) : litP (litPow s i all pow neg) := by
  unfold litPow
  split
  · exact litNo_parts
  · split
    · exact litNo_parts
    · refine ⟨h1, h2, ?_, ?_⟩
      · simp only; split <;> omega
      · simp only; split <;> omega
theorem litE_parts {s : List Nat} {i : Nat} {all : List Nat} {pow : Int} (h1 : ∀ c ∈ all, isDig c = true) (h2 : all.length ≤ 60) (h3 : -60 ≤ pow ∧ pow ≤ 0) : litP (litE s i all pow) := by
  unfold litE
  split
  · exact litPow_parts h1 h2 h3
  · exact ⟨h1, h2, by simp only; omega, by simp only; omega⟩
theorem litF_parts (s : List Nat) : litP (litF s) := by
  have hd0 := digs_le s 0
  have hd1 := digs_le s (digs s 0 + 1)
  have a0 := digs_all s 0
  rw [List.drop_zero] at a0
  have a1 := digs_all s (digs s 0 + 1)
  unfold litF
  split
  · exact litNo_parts
  · rename_i h
    split
    · split
      · exact litNo_parts
      · refine litE_parts (fun c hc => ?_) ?_ (by constructor <;> omega)
        · rcases List.mem_append.1 hc with hc | hc
          · exact a0 c hc
          · exact a1 c hc
        · rw [List.length_append, List.length_take, List.length_take, List.length_drop]; omega
    · refine litE_parts a0 ?_ (by decide)
      rw [List.length_take]; omega
def litA (s : List Nat) : Nat := numS (litF s).1 * 10 ^ (max (litF s).2.1 0).toNat
def litB (s : List Nat) : Nat := 10 ^ (max (-(litF s).2.1) 0).toNat
theorem pow_bits (n : Nat) : 10 ^ n ≤ 2 ^ (4 * n) := by
  rw [Nat.pow_mul]
  exact Nat.pow_le_pow_left (by decide) n
theorem litA_lt (s : List Nat) : litA s < 2 ^ 900 := by
  obtain ⟨h1, h2, h3, h4⟩ := litF_parts s
  have a := numS_lt h1
  have b := pow_bits (litF s).1.length
  have c := pow_bits (max (litF s).2.1 0).toNat
  unfold litA
  have d := Nat.mul_lt_mul_of_lt_of_le (Nat.lt_of_lt_of_le a b) c (Nat.pow_pos (by decide))
  rw [← Nat.pow_add] at d
  exact lt_p2 900 d (by omega)
theorem litB_lt (s : List Nat) : litB s < 2 ^ 900 := by
  obtain ⟨h1, h2, h3, h4⟩ := litF_parts s
  have c := pow_bits (max (-(litF s).2.1) 0).toNat
  unfold litB
  exact le_lt_p2 900 c (by omega)
theorem litB_pos (s : List Nat) : litB s ≠ 0 := by
  unfold litB
  have := Nat.pow_pos (n := (max (-(litF s).2.1) 0).toNat) (show 0 < 10 by decide)
  omega
def ratF (s : List Nat) : List Nat × List Nat × Bool × Unit := if (litF s).2.2.1 = true then (lb (litA s), lb (litB s), true, ()) else ([], [], false, ())
theorem lb_900 {x : Nat} (h : x < 2 ^ 900) : (lb x).length ≤ 15 := by
  exact lb_len.2 (lt_BB 15 h (by decide))
theorem ratio_eq (s : List Nat) (hs : s.length ≤ 4611686018427387904) : m_dec_Ratio s = some (ratF s) := by
  obtain ⟨h1, h2, h3, h4⟩ := litF_parts s
  unfold m_dec_Ratio ratF
  simp only [lit_eq s hs, Option.getD_some]
  refine ck_to rfl ?_
  by_cases h : (litF s).2.2.1 = true
  · rw [if_neg (fun hn => hn h), if_pos h]
    have e1 := number_eq (litF s).1 h1 (by omega)
    have e2 := power_eq 10 (max (litF s).2.1 0).toNat (by decide) (by omega)
    have e3 := power_eq 10 (max (-(litF s).2.1) 0).toNat (by decide) (by omega)
    rw [show (((max (litF s).2.1 0).toNat : Nat) : Int) = max (litF s).2.1 0 from by omega] at e2
    rw [show (((max (-(litF s).2.1) 0).toNat : Nat) : Int) = max (0 - (litF s).2.1) 0 from by omega] at e3
    simp only [e1, e2, e3, Option.getD_some]
    have l1 : (lb (numS (litF s).1)).length ≤ 15 := lb_900 (by
      have a := numS_lt h1
      have b := pow_bits (litF s).1.length
      exact lt_p2 900 (Nat.lt_of_lt_of_le a b) (by omega))
    have l2 : (lb (10 ^ (max (litF s).2.1 0).toNat)).length ≤ 15 := lb_900 (le_lt_p2 900 (pow_bits _) (by omega))
    refine ck_to rfl (ck_to rfl (ck_to ⟨?_, ?_⟩ (ck_to (by constructor <;> omega) (ck_to rfl ?_))))
    · show (lb (numS (litF s).1)).length ≤ _; omega
    · show (lb (10 ^ (max (litF s).2.1 0).toNat)).length ≤ _; omega
    · have ht : f_nat_Times (lb (numS (litF s).1)) (lb (10 ^ (max (litF s).2.1 0).toNat)) = lb (litA s) := by
        unfold f_nat_Times litA; rw [nv_lb, nv_lb]
      rw [ht]; rfl
  · rw [if_pos h, if_neg h]
end Nu
end Go.Proofs
namespace Go.Proofs
open Go.Vc
set_option maxRecDepth 20000
namespace Nu
theorem form_eq (s : List Nat) (hs : s.length ≤ 4611686018427387904) : m_dec_Form s = some (litF s).2.2.1 := by
  unfold m_dec_Form
  simp only [lit_eq s hs, Option.getD_some]
  exact ck_to rfl rfl
def litEnd (s : List Nat) (p : Nat) (up : Bool) : Dy := if litA s = 0 then d0 else ratD (litA s) (litB s) p (p + 1 + bl (litB s)) up
def litD (s : List Nat) (p : Int) : (Dy × Dy × Unit) × Int × Unit :=
  if ¬ (litF s).2.2.1 = true then ((d0, d0, ()), 6, ())
  else if p < 1 ∨ 2000 < p then ((d0, d0, ()), 1, ())
  else ((litEnd s p.toNat false, litEnd s p.toNat true, ()), 0, ())
theorem fit_lb {A K : Nat} (h : A < 2 ^ K) (hK : K ≤ 4096) : m_dyad_Fit false (lb A) 0 = some (normD A 0, 0, ()) := by
  have hl : (lb A).length ≤ K + 1 := lb_len.2 (Nat.lt_of_lt_of_le h (by rw [BB_pow]; exact Nat.pow_le_pow_right (by decide) (by omega)))
  rw [Fit_eq false (lb A) 0 (Lm_lb A) (Nrm_lb A) (by omega), nv_lb, FitD_ok h hK (by decide)]
theorem quot_lit (s : List Nat) (p : Nat) (up : Bool) (hp : 1 ≤ p ∧ p ≤ 2000) : m_round_Quot (normD (litA s) 0) (normD (litB s) 0) (p : Int) up = some (litEnd s p up, 0, ()) := by
  have hL : ∀ M, Lm (normD M 0).2.1 := fun M => by rw [normD_len]; exact Lm_lb _
  rw [quot_eq _ _ _ _ (hL _) (hL _), quot_norm (k0 := p + 1 + bl (litB s)) (litB_pos s) (litA_lt s) (litB_lt s) (by decide) hp.1 hp.2 (fun h => rq_big h (litB_pos s) (by have := bl_pos h; omega))]
  rfl
theorem Lit_eq (s : List Nat) (p : Int) (hs : s.length ≤ 4611686018427387904) : m_dec_Lit s p = some (litD s p) := by
  unfold m_dec_Lit litD
  simp only [ratio_eq s hs, Option.getD_some]
  refine ck_to rfl ?_
  unfold ratF
  by_cases h : (litF s).2.2.1 = true
  · simp only [h, if_true, not_true, if_false]
    by_cases h2 : p < 1 ∨ 2000 < p
    · simp only [h2, if_true]; rfl
    · simp only [h2, if_false]
      obtain ⟨q, rfl⟩ : ∃ q : Nat, p = (q : Int) := ⟨p.toNat, by omega⟩
      simp only [fit_lb (litA_lt s) (by decide), fit_lb (litB_lt s) (by decide), Option.getD_some, quot_lit s q false (by constructor <;> omega), quot_lit s q true (by constructor <;> omega)]
      refine ck_to rfl (ck_to rfl (ck_to rfl (ck_to rfl ?_)))
      simp only [not_true, or_self, if_false, Int.toNat_natCast]
  · simp only [h, if_false, Bool.false_eq_true, not_false_eq_true, if_true]; rfl
end Nu
end Go.Proofs
namespace Go.Proofs
open Go.Vc
set_option maxRecDepth 20000
namespace Nu
def exN (s : List Nat) : Nat := numS (litF s).1 * 5 ^ (max (litF s).2.1 0).toNat
def exD (s : List Nat) : Nat := 5 ^ (max (-(litF s).2.1) 0).toNat
def exactD (s : List Nat) : Dy × Int × Unit :=
  if ¬ (litF s).2.2.1 = true then (d0, 6, ())
  else if exN s % exD s ≠ 0 then (d0, 6, ())
  else (normD (exN s / exD s) (litF s).2.1, 0, ())
theorem five_ten (n : Nat) : 5 ^ n ≤ 2 ^ (4 * n) := Nat.le_trans (Nat.pow_le_pow_left (by decide) n) (pow_bits n)
theorem exN_lt (s : List Nat) : exN s < 2 ^ 900 := by
  obtain ⟨h1, h2, h3, h4⟩ := litF_parts s
  have a := numS_lt h1
  have b := pow_bits (litF s).1.length
  have c := five_ten (max (litF s).2.1 0).toNat
  unfold exN
  have d := Nat.mul_lt_mul_of_lt_of_le (Nat.lt_of_lt_of_le a b) c (Nat.pow_pos (by decide))
  rw [← Nat.pow_add] at d
  exact lt_p2 900 d (by omega)
theorem exD_pos (s : List Nat) : exD s ≠ 0 := by
  unfold exD
  have := Nat.pow_pos (n := (max (-(litF s).2.1) 0).toNat) (show 0 < 5 by decide)
  omega
theorem Exact_eq (s : List Nat) (hs : s.length ≤ 4611686018427387904) : m_dec_Exact s = some (exactD s) := by
  obtain ⟨h1, h2, h3, h4⟩ := litF_parts s
  unfold m_dec_Exact exactD
  simp only [lit_eq s hs, Option.getD_some]
  refine ck_to rfl ?_
  by_cases h : (litF s).2.2.1 = true
  · simp only [h, not_true, if_false]
    have e1 := number_eq (litF s).1 h1 (by omega)
    have e2 := power_eq 5 (max (litF s).2.1 0).toNat (by decide) (by omega)
    have e3 := power_eq 5 (max (-(litF s).2.1) 0).toNat (by decide) (by omega)
    rw [show (((max (litF s).2.1 0).toNat : Nat) : Int) = max (litF s).2.1 0 from by omega] at e2
    rw [show (((max (-(litF s).2.1) 0).toNat : Nat) : Int) = max (0 - (litF s).2.1) 0 from by omega] at e3
    have l1 : (lb (numS (litF s).1)).length ≤ 15 := lb_900 (by
      have a := numS_lt h1
      have b := pow_bits (litF s).1.length
      exact lt_p2 900 (Nat.lt_of_lt_of_le a b) (by omega))
    have l2 : (lb (5 ^ (max (litF s).2.1 0).toNat)).length ≤ 15 := lb_900 (le_lt_p2 900 (five_ten _) (by omega))
    have ht : f_nat_Times (lb (numS (litF s).1)) (lb (5 ^ (max (litF s).2.1 0).toNat)) = lb (exN s) := by
      unfold f_nat_Times exN; rw [nv_lb, nv_lb]
    have hq : f_nat_QuoRem (lb (exN s)) (lb (exD s)) = (lb (exN s / exD s), lb (exN s % exD s), ()) := by
      unfold f_nat_QuoRem; rw [nv_lb, nv_lb]
    have hN := exN_lt s
    have hlt : exN s / exD s < 2 ^ 900 := Nat.lt_of_le_of_lt (Nat.div_le_self _ _) hN
    have hF : m_dyad_Fit false (lb (exN s / exD s)) (litF s).2.1 = some (normD (exN s / exD s) (litF s).2.1, 0, ()) := by
      rw [Fit_eq false _ _ (Lm_lb _) (Nrm_lb _) (by have := lb_900 hlt; omega), nv_lb, FitD_ok hlt (by decide) (by constructor <;> omega)]
    have hD : lb (5 ^ (max (-(litF s).2.1) 0).toNat) = lb (exD s) := rfl
    rw [hD] at e3
    simp only [e1, e2, e3, Option.getD_some, ht, hq, hF]
    refine ck_to rfl (ck_to rfl (ck_to ⟨?_, ?_⟩ (ck_to (by constructor <;> omega) (ck_to rfl (ck_to ⟨Nrm_lb _, Nrm_lb _, by rw [nv_lb]; exact exD_pos s, ?_⟩ (ck_to rfl ?_))))))
    · show (lb (numS (litF s).1)).length ≤ _; omega
    · show (lb (5 ^ (max (litF s).2.1 0).toNat)).length ≤ _; omega
    · have := lb_900 hN; omega
    · by_cases hr : exN s % exD s = 0
      · rw [if_neg (by rw [hr, lb_zero]; simp), if_neg (fun h => h hr)]
      · have hl := List.length_pos_iff.2 (fun e => hr (lb_nil.1 e))
        rw [if_pos (.inl (by omega)), if_pos hr]; rfl
  · simp only [h, not_false_eq_true, if_true, Bool.false_eq_true]; rfl
end Nu
end Go.Proofs
namespace Go.Proofs
open Go.Vc
set_option maxRecDepth 20000
namespace Nu
def decS (u : Nat) : List Nat := dgs (Lib.nDigits u) u
theorem decS_1 {u : Nat} (h : u < 10) : decS u = [48 + u] := by
  unfold decS
  rw [Lib.nDigits_small h]
  simp [dgs, Nat.mod_eq_of_lt h]
theorem decS_2 {u : Nat} (h : ¬ u < 10) (h2 : u < 100) : decS u = [48 + u / 10, 48 + u % 10] := by
  unfold decS
  rw [Lib.nDigits_big h, Lib.nDigits_small (by omega)]
  have : u / 10 % 10 = u / 10 := Nat.mod_eq_of_lt (by omega)
  simp [dgs, List.range_succ, this]
theorem small_tab : ∀ u : Fin 100, (if u.val < 10 then List.drop u.val (List.take (u.val + 1) (strL cs_e9b171x)) else List.drop (u.val * 2) (List.take (u.val * 2 + 2) (strL cs_db3e2fx))) = if u.val < 10 then [48 + u.val] else [48 + u.val / 10, 48 + u.val % 10] := by
  decide +kernel
theorem small_len : (strL cs_e9b171x).length = 36 ∧ (strL cs_db3e2fx).length = 200 := by decide +kernel
theorem small_eq (u : Nat) (h : u < 100) : m_istrconv_small (u : Int) = some (decS u) := by
  have ht := small_tab ⟨u, h⟩
  obtain ⟨l1, l2⟩ := small_len
  simp only at ht
  unfold m_istrconv_small
  by_cases h1 : u < 10
  · rw [if_pos h1, if_pos h1] at ht
    rw [if_pos (by omega), l1, decS_1 h1]
    refine ck_to (by constructor <;> omega) (ck_to (by constructor <;> omega) ?_)
    rw [Int.toNat_natCast, show ((u : Int) + 1).toNat = u + 1 from by omega, ht]
  · rw [if_neg h1, if_neg h1] at ht
    rw [if_neg (by omega), l2, decS_2 h1 h]
    refine ck_to (by constructor <;> omega) (ck_to (by constructor <;> omega) (ck_to (by constructor <;> omega) (ck_to (by constructor <;> omega) ?_)))
    rw [show ((u : Int) * 2).toNat = u * 2 from by omega, show ((u : Int) * 2 + 2).toNat = u * 2 + 2 from by omega, ht]
theorem p10_get : ∀ k : Fin 20, ([1, 10, 100, 1000, 10000, 100000, 1000000, 10000000, 100000000, 1000000000, 10000000000, 100000000000, 1000000000000, 10000000000000, 100000000000000, 1000000000000000, 10000000000000000, 100000000000000000, 1000000000000000000, 10000000000000000000] : List Nat).getD k.val 0 = 10 ^ k.val := by decide +kernel
theorem bl_bitLen {u : Nat} (h1 : u ≠ 0) (h : u < 18446744073709551616) : Lib.bitLen u = bl u := by
  obtain ⟨a, b, c⟩ := Lib.bitLenAux_bounds 64 u h (by omega)
  unfold Lib.bitLen
  have h2 := bl_le c
  have h3 := bl_ge b
  omega
theorem numDigits_law (u : Nat) (h1 : u ≠ 0) (h : u < 18446744073709551616) : m_istrconv_numDigits u = some (Lib.nDigits u : Int) := by
  obtain ⟨k1, k2⟩ := Lib.numDigits_eq u (by omega) h
  rw [bl_bitLen h1 h] at k1 k2
  have hb := bl64 h
  have hl : Int.fdiv ((bl u : Int) * 78913) (2 ^ 18) = (Lib.l10 (bl u) : Int) := by
    unfold Lib.l10
    rw [Int.fdiv_eq_ediv_of_nonneg _ (by decide)]
    omega
  have hlog : m_istrconv_log10Pow2 (f_bits_Len64 u) = some (Lib.l10 (bl u) : Int) := by
    unfold m_istrconv_log10Pow2 f_bits_Len64
    refine ck_to (by constructor <;> omega) ?_
    rw [hl]
  have hp : p10.getD (Lib.l10 (bl u)) 0 = 10 ^ Lib.l10 (bl u) := by
    rw [p10_is]; exact p10_get ⟨Lib.l10 (bl u), by omega⟩
  have hbool : ∀ b : Bool, m_istrconv_bool2_int b = some (if b = true then 1 else 0) := fun b => by cases b <;> rfl
  unfold m_istrconv_numDigits
  simp only [hlog, Option.getD_some, Int.toNat_natCast, hp, hbool]
  refine ck_to rfl (ck_to (by constructor <;> omega) (ck_to rfl ?_))
  by_cases hh : 10 ^ Lib.l10 (bl u) ≤ u
  · rw [if_pos hh] at k1
    simp only [hh, decide_true, if_true]
    refine ck_to (by constructor <;> omega) ?_
    rw [show (Lib.l10 (bl u) : Int) + 1 = (Lib.nDigits u : Int) from by omega]
  · rw [if_neg hh] at k1
    simp only [hh, decide_false, Bool.false_eq_true, if_false]
    refine ck_to (by constructor <;> omega) ?_
    rw [show (Lib.l10 (bl u) : Int) + 0 = (Lib.nDigits u : Int) from by omega]
theorem FormatUint_eq (u : Nat) (h : u < 18446744073709551616) : m_strconv_FormatUint u 10 = some (decS u) := by
  have key : m_istrconv_FormatUint u 10 = some (decS u) := by
    unfold m_istrconv_FormatUint
    rw [if_pos rfl]
    by_cases h1 : u < 100
    · have hw : IntKind.i64.wrap ((u : Nat) : Int) = (u : Int) := by
        simp only [IntKind.wrap, IntKind.signed, IntKind.bits]; simp; omega
      rw [if_pos h1, hw]
      simp only [small_eq u h1, Option.getD_some]
      exact ck_to rfl rfl
    · rw [if_neg h1]
      have hn := numDigits_law u (by omega) h
      obtain ⟨k1, k2⟩ := Lib.numDigits_eq u (by omega) h
      have hle : Lib.nDigits u ≤ 20 := by split at k1 <;> omega
      have hpos := Lib.nDigits_pos u
      have hlt := Lib.lt_pow_nDigits u
      simp only [hn, Option.getD_some]
      have e : ((Lib.nDigits u : Int) - 0).toNat = Lib.nDigits u := by omega
      rw [e]
      have hf : m_istrconv_formatBase10 0 (Lib.nDigits u) u (List.replicate 24 0) = some (decS u ++ (List.replicate 24 0).drop (0 + Lib.nDigits u)) := by
        unfold m_istrconv_formatBase10
        refine ck_to (by omega) (ck_to hlt ?_)
        rfl
      refine ck_to rfl (ck_to (by constructor <;> omega) (bind_to hf (ck_to (by constructor <;> omega) (ck_to (by omega) ?_))))
      rw [List.drop_zero, List.take_append_of_le_length (by unfold decS; rw [dgs_len]; exact Nat.le_refl _), List.take_of_length_le (by unfold decS; rw [dgs_len]; exact Nat.le_refl _)]
  unfold m_strconv_FormatUint
  rw [key]
  exact ck_to rfl rfl
end Nu
end Go.Proofs
