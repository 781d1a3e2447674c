import Derived.Test.YtabdejmolnikaaaDoorZS2
import Derived.Test.YtabdejmolnikaaaDoorZS1
import Derived.Test.YtabdejmolnikaaaDoorZL5
import Derived.Shelf.Strconv.Itoa2
set_option linter.unusedVariables false
set_option linter.unusedSimpArgs false
namespace Go.Proofs
open Go.Vc
set_option maxRecDepth 20000
namespace Nu
noncomputable def m_dyad_May (d_0 : (Bool × ((List Nat) × (Int × Unit)))) : Option Bool :=
  if (((((d_0.2).1).length) : Nat) : Int) = (0 : Int) then some ((!(d_0.1)) && (decide ((((d_0.2).2).1) = (0 : Int)))) else ck ((((f_nat_May ((d_0.2).1)) = true) → ((0 : Int) < (((((d_0.2).1).length) : Nat) : Int)))) (some ((((f_nat_May ((d_0.2).1)) && (decide (((((d_0.2).1).getD (0 : Nat) (0 : Nat)) &&& (1 : Nat)) = (1 : Nat)))) && (decide ((-1048576 : Int) ≤ (((d_0.2).2).1)))) && (decide ((((d_0.2).2).1) ≤ (1048576 : Int)))))
def a_dyad_May : Ty := .pair (.pair .bool (.pair (.sl (.u .u64)) (.pair (.i .i64) .unit))) .unit
attribute [go_sem] a_dyad_May
noncomputable def sm_dyad_May : FSpec := mSpec a_dyad_May (.one .bool) (fun x => m_dyad_May x.1)
noncomputable def l_dyad_May : List (FuncId × FSpec) := [(27, sp_nat_May)]
theorem K_dyad_May : Known Tryd.prog GL l_dyad_May := .cons ok_nat_May (by kernel_rfl) (.nil)
theorem l_dyad_May_27 : gam l_dyad_May 27 = some sp_nat_May := rfl
attribute [go_sem] l_dyad_May_27
set_option maxHeartbeats 4000000 in
theorem om_dyad_May : FOK Tryd.prog GL 10 sm_dyad_May := by
 refine fok_model (EM_ok K_dyad_May) Tryd.func10 rfl (by kernel_rfl) (by decide) fun w0 S x r hw h => ?_
 have hF : FrOK (fr Tryd.prog (EM l_dyad_May) S w0 Tryd.f10.ntmps) := ⟨EM_ok K_dyad_May, mix⟩
 obtain ⟨(d_0 : (Bool × ((List Nat) × (Int × Unit)))), u⟩ := x
 simp only [a_dyad_May, Ty.wf, fits64] at hw
 simp only [args0, a_dyad_May]
 try dsimp only at h
 unfold m_dyad_May at h
 refine tri_seq (tri_regionB hF [1] ?_)
 simp only [go_sem]
 refine at_next (tri_seq (tri_seq (tri_region hF [1, 6] ?_)))
 simp only [go_sem]
 refine at_next (tri_cond rfl (fun hc => ?_) (fun hc => ?_))
 ·try simp only [go_sem] at hc
  have h := ite_T (by first | exact hc | omega | (simpa using hc) | (simp at hc ⊢; omega)) h
  refine tri_seq (tri_region hF [2] ?_)
  simp only [go_sem]
  obtain rfl := Option.some.inj h
  refine at_next (tri_ret (at_then_ret (at_retC hF [.tmp 2] rfl rfl rfl ?_)))
  (try simp only [retOK, resE, go_sem]) <;> first | rfl | (simp; done)
 ·try simp only [go_sem] at hc
  have h := ite_F (by first | exact hc | omega | (simpa using hc) | (simp at hc ⊢; omega)) h
  refine tri_skip (at_next (tri_seq (tri_region hF [2] ?_)))
  simp only [go_sem]
  obtain ⟨g0, h⟩ := ck_some h
  repeat (refine ⟨by first | with_reducible assumption | omega | (intros; first | assumption | omega) | (simp only [go_sem] at *; first | assumption | omega) | (intro q0; (try have e0 := g0 (by first | exact q0 | omega | (simpa using q0))); first | assumption | omega) | decide, ?_⟩)
  obtain rfl := Option.some.inj h
  refine at_next (tri_ret (at_retC hF [.tmp 2] rfl rfl rfl ?_))
  (try simp only [retOK, resE, go_sem]) <;> first | rfl | (simp; done)
attribute [go_sem] sm_dyad_May
noncomputable def m_dyad_Sign (d_0 : (Bool × ((List Nat) × (Int × Unit)))) : Option Int :=
  ck (((m_dyad_May d_0).isSome = true)) (if (¬ (((m_dyad_May d_0).getD false) = true)) ∨ ((((((d_0.2).1).length) : Nat) : Int) = (0 : Int)) then some (0 : Int) else if (d_0.1) = true then some (-1 : Int) else some (1 : Int))
def a_dyad_Sign : Ty := .pair (.pair .bool (.pair (.sl (.u .u64)) (.pair (.i .i64) .unit))) .unit
attribute [go_sem] a_dyad_Sign
noncomputable def sm_dyad_Sign : FSpec := mSpec a_dyad_Sign (.one (.i .i64)) (fun x => m_dyad_Sign x.1)
noncomputable def l_dyad_Sign : List (FuncId × FSpec) := [(10, sm_dyad_May)]
theorem K_dyad_Sign : Known Tryd.prog GL l_dyad_Sign := .cons om_dyad_May (by kernel_rfl) (.nil)
theorem l_dyad_Sign_10 : gam l_dyad_Sign 10 = some sm_dyad_May := rfl
attribute [go_sem] l_dyad_Sign_10
set_option maxHeartbeats 4000000 in
theorem om_dyad_Sign : FOK Tryd.prog GL 58 sm_dyad_Sign := by
 refine fok_model (EM_ok K_dyad_Sign) Tryd.func58 rfl (by kernel_rfl) (by decide) fun w0 S x r hw h => ?_
 have hF : FrOK (fr Tryd.prog (EM l_dyad_Sign) S w0 Tryd.f58.ntmps) := ⟨EM_ok K_dyad_Sign, mix⟩
 obtain ⟨(d_0 : (Bool × ((List Nat) × (Int × Unit)))), u⟩ := x
 simp only [a_dyad_Sign, Ty.wf, fits64] at hw
 simp only [args0, a_dyad_Sign]
 try dsimp only at h
 unfold m_dyad_Sign at h
 refine tri_seq (tri_regionB hF [1] ?_)
 simp only [go_sem]
 refine at_next (tri_seq (tri_block (tri_seq (tri_region hF [1, 3] ?_))))
 simp only [go_sem]
 obtain ⟨g0, h⟩ := ck_some h
 repeat (refine ⟨by first | with_reducible assumption | omega | (intros; first | assumption | omega) | (simp only [go_sem] at *; first | assumption | omega) | decide, ?_⟩)
 refine at_next (tri_cond rfl (fun hc => ?_) (fun hc => ?_))
 ·try simp only [go_sem] at hc
  have h := ite_T (by first | exact hc | omega | (simpa using hc) | (simp at hc ⊢; omega)) h
  refine tri_seq (tri_region hF [2] ?_)
  simp only [go_sem]
  obtain rfl := Option.some.inj h
  refine at_next (tri_ret (at_block_ret (at_then_ret (at_retC hF [.tmp 2] rfl rfl rfl ?_))))
  (try simp only [retOK, resE, go_sem]) <;> first | rfl | (simp; done)
 ·try simp only [go_sem] at hc
  have h := ite_F (by first | exact hc | omega | (simpa using hc) | (simp at hc ⊢; omega)) h
  refine tri_seq (tri_region hF [13] ?_)
  simp only [go_sem]
  refine at_next (tri_cond rfl (fun hc => ?_) (fun hc => ?_))
  ·try simp only [go_sem] at hc
   have h := ite_T (by first | exact hc | omega | (simpa using hc) | (simp at hc ⊢; omega)) h
   refine tri_seq (tri_region hF [2] ?_)
   simp only [go_sem]
   obtain rfl := Option.some.inj h
   refine at_next (tri_ret (at_block_ret (at_then_ret (at_retC hF [.tmp 2] rfl rfl rfl ?_))))
   (try simp only [retOK, resE, go_sem]) <;> first | rfl | (simp; done)
  ·try simp only [go_sem] at hc
   have h := ite_F (by first | exact hc | omega | (simpa using hc) | (simp at hc ⊢; omega)) h
   refine tri_skip (at_block_norm (at_next (tri_seq (tri_region hF [2] ?_))))
   simp only [go_sem]
   obtain rfl := Option.some.inj h
   refine at_next (tri_ret (at_retC hF [.tmp 2] rfl rfl rfl ?_))
   (try simp only [retOK, resE, go_sem]) <;> first | rfl | (simp; done)
attribute [go_sem] sm_dyad_Sign
noncomputable def m_dyad_size (a_0 : (Bool × ((List Nat) × (Int × Unit)))) (b_1 : (Bool × ((List Nat) × (Int × Unit)))) : Option Int :=
  ck ((pNrmS ((a_0.2).1))) (ck (I64 ((f_nat_Size ((a_0.2).1)) + (((a_0.2).2).1))) (ck ((pNrmS ((b_1.2).1))) (ck (I64 ((f_nat_Size ((b_1.2).1)) + (((b_1.2).2).1))) (if ((f_nat_Size ((a_0.2).1)) + (((a_0.2).2).1)) < ((f_nat_Size ((b_1.2).1)) + (((b_1.2).2).1)) then some (-1 : Int) else if ((f_nat_Size ((b_1.2).1)) + (((b_1.2).2).1)) < ((f_nat_Size ((a_0.2).1)) + (((a_0.2).2).1)) then some (1 : Int) else ck (I64 ((((a_0.2).2).1) - (min (((a_0.2).2).1) (((b_1.2).2).1)))) (ck ((pLeft ((a_0.2).1) ((((a_0.2).2).1) - (min (((a_0.2).2).1) (((b_1.2).2).1))))) (ck (I64 ((((b_1.2).2).1) - (min (((a_0.2).2).1) (((b_1.2).2).1)))) (ck ((pLeft ((b_1.2).1) ((((b_1.2).2).1) - (min (((a_0.2).2).1) (((b_1.2).2).1))))) (ck ((pNrm2 (f_nat_Left ((a_0.2).1) ((((a_0.2).2).1) - (min (((a_0.2).2).1) (((b_1.2).2).1)))) (f_nat_Left ((b_1.2).1) ((((b_1.2).2).1) - (min (((a_0.2).2).1) (((b_1.2).2).1)))))) (some (f_nat_Order (f_nat_Left ((a_0.2).1) ((((a_0.2).2).1) - (min (((a_0.2).2).1) (((b_1.2).2).1)))) (f_nat_Left ((b_1.2).1) ((((b_1.2).2).1) - (min (((a_0.2).2).1) (((b_1.2).2).1))))))))))))))
def a_dyad_size : Ty := .pair (.pair .bool (.pair (.sl (.u .u64)) (.pair (.i .i64) .unit))) (.pair (.pair .bool (.pair (.sl (.u .u64)) (.pair (.i .i64) .unit))) .unit)
attribute [go_sem] a_dyad_size
noncomputable def sm_dyad_size : FSpec := mSpec a_dyad_size (.one (.i .i64)) (fun x => m_dyad_size x.1 x.2.1)
noncomputable def l_dyad_size : List (FuncId × FSpec) := [(32, sp_nat_Left), (76, sp_nat_Size), (87, sp_nat_Order)]
theorem K_dyad_size : Known Tryd.prog GL l_dyad_size := .cons ok_nat_Left (by kernel_rfl) (.cons ok_nat_Size (by kernel_rfl) (.cons ok_nat_Order (by kernel_rfl) (.nil)))
theorem l_dyad_size_32 : gam l_dyad_size 32 = some sp_nat_Left := rfl
attribute [go_sem] l_dyad_size_32
theorem l_dyad_size_76 : gam l_dyad_size 76 = some sp_nat_Size := rfl
attribute [go_sem] l_dyad_size_76
theorem l_dyad_size_87 : gam l_dyad_size 87 = some sp_nat_Order := rfl
attribute [go_sem] l_dyad_size_87
set_option maxHeartbeats 4000000 in
theorem om_dyad_size : FOK Tryd.prog GL 59 sm_dyad_size := by
 refine fok_model (EM_ok K_dyad_size) Tryd.func59 rfl (by kernel_rfl) (by decide) fun w0 S x r hw h => ?_
 have hF : FrOK (fr Tryd.prog (EM l_dyad_size) S w0 Tryd.f59.ntmps) := ⟨EM_ok K_dyad_size, mix⟩
 obtain ⟨(a_0 : (Bool × ((List Nat) × (Int × Unit)))), (b_1 : (Bool × ((List Nat) × (Int × Unit)))), u⟩ := x
 simp only [a_dyad_size, Ty.wf, fits64] at hw
 simp only [args0, a_dyad_size]
 try dsimp only at h
 unfold m_dyad_size at h
 refine tri_seq (tri_regionB hF [2, 3] ?_)
 simp only [go_sem]
 refine at_next (tri_seq (tri_region hF [2, 3, 5, 6] ?_))
 simp only [go_sem]
 obtain ⟨g0, h⟩ := ck_some h
 obtain ⟨g1, h⟩ := ck_some h
 obtain ⟨g2, h⟩ := ck_some h
 obtain ⟨g3, h⟩ := ck_some h
 try simp only [I64, I32] at g1
 try simp only [I64, I32] at g3
 repeat (refine ⟨by first | with_reducible assumption | omega | (intros; first | assumption | omega) | (simp only [go_sem] at *; first | assumption | omega) | decide, ?_⟩)
 refine at_next (tri_seq (tri_block (tri_seq (tri_region hF [2, 3, 5, 6, 20] ?_))))
 simp only [go_sem]
 refine at_next (tri_cond rfl (fun hc => ?_) (fun hc => ?_))
 ·try simp only [go_sem] at hc
  have h := ite_T (by first | exact hc | omega | (simpa using hc) | (simp at hc ⊢; omega)) h
  refine tri_seq (tri_region hF [4] ?_)
  simp only [go_sem]
  obtain rfl := Option.some.inj h
  refine at_next (tri_ret (at_block_ret (at_then_ret (at_retC hF [.tmp 4] rfl rfl rfl ?_))))
  (try simp only [retOK, resE, go_sem]) <;> first | rfl | (simp; done)
 ·try simp only [go_sem] at hc
  have h := ite_F (by first | exact hc | omega | (simpa using hc) | (simp at hc ⊢; omega)) h
  refine tri_seq (tri_region hF [2, 3, 24] ?_)
  simp only [go_sem]
  refine at_next (tri_cond rfl (fun hc => ?_) (fun hc => ?_))
  ·try simp only [go_sem] at hc
   have h := ite_T (by first | exact hc | omega | (simpa using hc) | (simp at hc ⊢; omega)) h
   refine tri_seq (tri_region hF [4] ?_)
   simp only [go_sem]
   obtain rfl := Option.some.inj h
   refine at_next (tri_ret (at_block_ret (at_then_ret (at_retC hF [.tmp 4] rfl rfl rfl ?_))))
   (try simp only [retOK, resE, go_sem]) <;> first | rfl | (simp; done)
  ·try simp only [go_sem] at hc
   have h := ite_F (by first | exact hc | omega | (simpa using hc) | (simp at hc ⊢; omega)) h
   refine tri_skip (at_block_norm (at_next (tri_seq (tri_region hF [2, 3, 7] ?_))))
   simp only [go_sem]
   refine at_next (tri_seq (tri_region hF [4] ?_))
   simp only [go_sem]
   obtain ⟨g0, h⟩ := ck_some h
   obtain ⟨g1, h⟩ := ck_some h
   obtain ⟨g2, h⟩ := ck_some h
   obtain ⟨g3, h⟩ := ck_some h
   obtain ⟨g4, h⟩ := ck_some h
   try simp only [I64, I32] at g0
   try simp only [I64, I32] at g2
   repeat (refine ⟨by first | with_reducible assumption | omega | (intros; first | assumption | omega) | (simp only [go_sem] at *; first | assumption | omega) | decide, ?_⟩)
   obtain rfl := Option.some.inj h
   refine at_next (tri_ret (at_retC hF [.tmp 4] rfl rfl rfl ?_))
   (try simp only [retOK, resE, go_sem]) <;> first | rfl | (simp; done)
attribute [go_sem] sm_dyad_size
noncomputable def m_dyad_Cmp (a_0 : (Bool × ((List Nat) × (Int × Unit)))) (b_1 : (Bool × ((List Nat) × (Int × Unit)))) : Option Int :=
  ck (((m_dyad_Sign a_0).isSome = true)) (ck (((m_dyad_Sign b_1).isSome = true)) (ck (((m_dyad_May a_0).isSome = true)) (ck ((¬ (¬ (((m_dyad_May a_0).getD false) = true)) → (((m_dyad_May b_1).isSome = true)))) (if (¬ (((m_dyad_May a_0).getD false) = true)) ∨ (¬ (((m_dyad_May b_1).getD false) = true)) then some (0 : Int) else if (¬ (((m_dyad_Sign a_0).getD (0 : Int)) = ((m_dyad_Sign b_1).getD (0 : Int)))) ∧ (((m_dyad_Sign a_0).getD (0 : Int)) < ((m_dyad_Sign b_1).getD (0 : Int))) then some (-1 : Int) else if ¬ (((m_dyad_Sign a_0).getD (0 : Int)) = ((m_dyad_Sign b_1).getD (0 : Int))) then some (1 : Int) else if ((m_dyad_Sign a_0).getD (0 : Int)) = (0 : Int) then some (0 : Int) else ck (((m_dyad_size a_0 b_1).isSome = true)) (ck (I64 (((m_dyad_Sign a_0).getD (0 : Int)) * ((m_dyad_size a_0 b_1).getD (0 : Int)))) (some (((m_dyad_Sign a_0).getD (0 : Int)) * ((m_dyad_size a_0 b_1).getD (0 : Int)))))))))
def a_dyad_Cmp : Ty := .pair (.pair .bool (.pair (.sl (.u .u64)) (.pair (.i .i64) .unit))) (.pair (.pair .bool (.pair (.sl (.u .u64)) (.pair (.i .i64) .unit))) .unit)
attribute [go_sem] a_dyad_Cmp
noncomputable def sm_dyad_Cmp : FSpec := mSpec a_dyad_Cmp (.one (.i .i64)) (fun x => m_dyad_Cmp x.1 x.2.1)
noncomputable def l_dyad_Cmp : List (FuncId × FSpec) := [(10, sm_dyad_May), (58, sm_dyad_Sign), (59, sm_dyad_size)]
theorem K_dyad_Cmp : Known Tryd.prog GL l_dyad_Cmp := .cons om_dyad_May (by kernel_rfl) (.cons om_dyad_Sign (by kernel_rfl) (.cons om_dyad_size (by kernel_rfl) (.nil)))
theorem l_dyad_Cmp_10 : gam l_dyad_Cmp 10 = some sm_dyad_May := rfl
attribute [go_sem] l_dyad_Cmp_10
theorem l_dyad_Cmp_58 : gam l_dyad_Cmp 58 = some sm_dyad_Sign := rfl
attribute [go_sem] l_dyad_Cmp_58
theorem l_dyad_Cmp_59 : gam l_dyad_Cmp 59 = some sm_dyad_size := rfl
attribute [go_sem] l_dyad_Cmp_59
set_option maxHeartbeats 4000000 in
theorem om_dyad_Cmp : FOK Tryd.prog GL 30 sm_dyad_Cmp := by
 refine fok_model (EM_ok K_dyad_Cmp) Tryd.func30 rfl (by kernel_rfl) (by decide) fun w0 S x r hw h => ?_
 have hF : FrOK (fr Tryd.prog (EM l_dyad_Cmp) S w0 Tryd.f30.ntmps) := ⟨EM_ok K_dyad_Cmp, mix⟩
 obtain ⟨(a_0 : (Bool × ((List Nat) × (Int × Unit)))), (b_1 : (Bool × ((List Nat) × (Int × Unit)))), u⟩ := x
 simp only [a_dyad_Cmp, Ty.wf, fits64] at hw
 simp only [args0, a_dyad_Cmp]
 try dsimp only at h
 unfold m_dyad_Cmp at h
 refine tri_seq (tri_regionB hF [2, 3] ?_)
 simp only [go_sem]
 refine at_next (tri_seq (tri_region hF [2, 3, 5, 6] ?_))
 simp only [go_sem]
 obtain ⟨g0, h⟩ := ck_some h
 obtain ⟨g1, h⟩ := ck_some h
 repeat (refine ⟨by first | with_reducible assumption | omega | (intros; first | assumption | omega) | (simp only [go_sem] at *; first | assumption | omega) | decide, ?_⟩)
 refine at_next (tri_seq (tri_block (tri_seq (tri_region hF [2, 3, 5, 6, 11] ?_))))
 simp only [go_sem]
 obtain ⟨g0, h⟩ := ck_some h
 obtain ⟨g1, h⟩ := ck_some h
 repeat (refine ⟨by first | with_reducible assumption | omega | (intros; first | assumption | omega) | (simp only [go_sem] at *; first | assumption | omega) | (intro q0; (try have e1 := g1 (by first | exact q0 | omega | (simpa using q0))); first | assumption | omega) | decide, ?_⟩)
 refine at_next (tri_cond rfl (fun hc => ?_) (fun hc => ?_))
 ·try simp only [go_sem] at hc
  have h := ite_T (by first | exact hc | omega | (simpa using hc) | (simp at hc ⊢; omega)) h
  refine tri_seq (tri_region hF [4] ?_)
  simp only [go_sem]
  obtain rfl := Option.some.inj h
  refine at_next (tri_ret (at_block_ret (at_then_ret (at_retC hF [.tmp 4] rfl rfl rfl ?_))))
  (try simp only [retOK, resE, go_sem]) <;> first | rfl | (simp; done)
 ·try simp only [go_sem] at hc
  have h := ite_F (by first | exact hc | omega | (simpa using hc) | (simp at hc ⊢; omega)) h
  refine tri_seq (tri_region hF [2, 3, 5, 6, 20] ?_)
  simp only [go_sem]
  refine at_next (tri_cond rfl (fun hc => ?_) (fun hc => ?_))
  ·try simp only [go_sem] at hc
   have h := ite_T (by first | exact hc | omega | (simpa using hc) | (simp at hc ⊢; omega)) h
   refine tri_seq (tri_region hF [4] ?_)
   simp only [go_sem]
   obtain rfl := Option.some.inj h
   refine at_next (tri_ret (at_block_ret (at_then_ret (at_retC hF [.tmp 4] rfl rfl rfl ?_))))
   (try simp only [retOK, resE, go_sem]) <;> first | rfl | (simp; done)
  ·try simp only [go_sem] at hc
   have h := ite_F (by first | exact hc | omega | (simpa using hc) | (simp at hc ⊢; omega)) h
   refine tri_seq (tri_region hF [2, 3, 5, 29] ?_)
   simp only [go_sem]
   refine at_next (tri_cond rfl (fun hc => ?_) (fun hc => ?_))
   ·try simp only [go_sem] at hc
    have h := ite_T (by first | exact hc | omega | (simpa using hc) | (simp at hc ⊢; omega)) h
    refine tri_seq (tri_region hF [4] ?_)
    simp only [go_sem]
    obtain rfl := Option.some.inj h
    refine at_next (tri_ret (at_block_ret (at_then_ret (at_retC hF [.tmp 4] rfl rfl rfl ?_))))
    (try simp only [retOK, resE, go_sem]) <;> first | rfl | (simp; done)
   ·try simp only [go_sem] at hc
    have h := ite_F (by first | exact hc | omega | (simpa using hc) | (simp at hc ⊢; omega)) h
    refine tri_seq (tri_region hF [2, 3, 5, 33] ?_)
    simp only [go_sem]
    refine at_next (tri_cond rfl (fun hc => ?_) (fun hc => ?_))
    ·try simp only [go_sem] at hc
     have h := ite_T (by first | exact hc | omega | (simpa using hc) | (simp at hc ⊢; omega)) h
     refine tri_seq (tri_region hF [4] ?_)
     simp only [go_sem]
     obtain rfl := Option.some.inj h
     refine at_next (tri_ret (at_block_ret (at_then_ret (at_retC hF [.tmp 4] rfl rfl rfl ?_))))
     (try simp only [retOK, resE, go_sem]) <;> first | rfl | (simp; done)
    ·try simp only [go_sem] at hc
     have h := ite_F (by first | exact hc | omega | (simpa using hc) | (simp at hc ⊢; omega)) h
     refine tri_skip (at_block_norm (at_next (tri_seq (tri_region hF [4] ?_))))
     simp only [go_sem]
     obtain ⟨g0, h⟩ := ck_some h
     obtain ⟨g1, h⟩ := ck_some h
     try simp only [I64, I32] at g1
     repeat (refine ⟨by first | with_reducible assumption | omega | (intros; first | assumption | omega) | (simp only [go_sem] at *; first | assumption | omega) | decide, ?_⟩)
     obtain rfl := Option.some.inj h
     refine at_next (tri_ret (at_retC hF [.tmp 4] rfl rfl rfl ?_))
     (try simp only [retOK, resE, go_sem]) <;> first | rfl | (simp; done)
attribute [go_sem] sm_dyad_Cmp
noncomputable def m_dyad_copied (d_0 : (Bool × ((List Nat) × (Int × Unit)))) : Option (Bool × ((List Nat) × (Int × Unit))) :=
  ck ((p64s ((d_0.2).1))) (some ((d_0.1), (id ((d_0.2).1)), (((d_0.2).2).1), ()))
def a_dyad_copied : Ty := .pair (.pair .bool (.pair (.sl (.u .u64)) (.pair (.i .i64) .unit))) .unit
attribute [go_sem] a_dyad_copied
noncomputable def sm_dyad_copied : FSpec := mSpec a_dyad_copied (.one (.pair .bool (.pair (.sl (.u .u64)) (.pair (.i .i64) .unit)))) (fun x => m_dyad_copied x.1)
noncomputable def l_dyad_copied : List (FuncId × FSpec) := [(64, sp_slices_Clone_uint64)]
theorem K_dyad_copied : Known Tryd.prog GL l_dyad_copied := .cons ok_slices_Clone_uint64 (by kernel_rfl) (.nil)
theorem l_dyad_copied_64 : gam l_dyad_copied 64 = some sp_slices_Clone_uint64 := rfl
attribute [go_sem] l_dyad_copied_64
set_option maxHeartbeats 4000000 in
theorem om_dyad_copied : FOK Tryd.prog GL 39 sm_dyad_copied := by
 refine fok_model (EM_ok K_dyad_copied) Tryd.func39 rfl (by kernel_rfl) (by decide) fun w0 S x r hw h => ?_
 have hF : FrOK (fr Tryd.prog (EM l_dyad_copied) S w0 Tryd.f39.ntmps) := ⟨EM_ok K_dyad_copied, mix⟩
 obtain ⟨(d_0 : (Bool × ((List Nat) × (Int × Unit)))), u⟩ := x
 simp only [a_dyad_copied, Ty.wf, fits64] at hw
 simp only [args0, a_dyad_copied]
 try dsimp only at h
 unfold m_dyad_copied at h
 refine tri_seq (tri_regionB hF [1, 2] ?_)
 simp only [go_sem]
 refine at_next (tri_seq (tri_regionB hF [1, 2] ?_))
 simp only [go_sem]
 obtain ⟨g0, h⟩ := ck_some h
 repeat (refine ⟨by first | with_reducible assumption | omega | (intros; first | assumption | omega) | (simp only [go_sem] at *; first | assumption | omega) | decide, ?_⟩)
 refine at_next (tri_seq (tri_regionB hF [2] ?_))
 simp only [go_sem]
 obtain rfl := Option.some.inj h
 refine at_next (tri_ret (at_retC hF [.cell 2 28] rfl rfl rfl ?_))
 (try simp only [retOK, resE, go_sem]) <;> first | rfl | (simp; done)
attribute [go_sem] sm_dyad_copied
noncomputable def m_dyad_Neg (d_0 : (Bool × ((List Nat) × (Int × Unit)))) : Option (Bool × ((List Nat) × (Int × Unit))) :=
  ck (((m_dyad_copied d_0).isSome = true)) (ck (((m_dyad_May ((m_dyad_copied d_0).getD (false, ([] : List Nat), (0 : Int), ()))).isSome = true)) (if (((m_dyad_May ((m_dyad_copied d_0).getD (false, ([] : List Nat), (0 : Int), ()))).getD false) = true) ∧ ((0 : Int) < (((((((m_dyad_copied d_0).getD (false, ([] : List Nat), (0 : Int), ())).2).1).length) : Nat) : Int)) then some ((!(((m_dyad_copied d_0).getD (false, ([] : List Nat), (0 : Int), ())).1)), ((((m_dyad_copied d_0).getD (false, ([] : List Nat), (0 : Int), ())).2).1), (((((m_dyad_copied d_0).getD (false, ([] : List Nat), (0 : Int), ())).2).2).1), ()) else some ((m_dyad_copied d_0).getD (false, ([] : List Nat), (0 : Int), ()))))
def a_dyad_Neg : Ty := .pair (.pair .bool (.pair (.sl (.u .u64)) (.pair (.i .i64) .unit))) .unit
attribute [go_sem] a_dyad_Neg
noncomputable def sm_dyad_Neg : FSpec := mSpec a_dyad_Neg (.one (.pair .bool (.pair (.sl (.u .u64)) (.pair (.i .i64) .unit)))) (fun x => m_dyad_Neg x.1)
noncomputable def l_dyad_Neg : List (FuncId × FSpec) := [(10, sm_dyad_May), (39, sm_dyad_copied)]
theorem K_dyad_Neg : Known Tryd.prog GL l_dyad_Neg := .cons om_dyad_May (by kernel_rfl) (.cons om_dyad_copied (by kernel_rfl) (.nil))
theorem l_dyad_Neg_10 : gam l_dyad_Neg 10 = some sm_dyad_May := rfl
attribute [go_sem] l_dyad_Neg_10
theorem l_dyad_Neg_39 : gam l_dyad_Neg 39 = some sm_dyad_copied := rfl
attribute [go_sem] l_dyad_Neg_39
set_option maxHeartbeats 4000000 in
theorem om_dyad_Neg : FOK Tryd.prog GL 13 sm_dyad_Neg := by
 refine fok_model (EM_ok K_dyad_Neg) Tryd.func13 rfl (by kernel_rfl) (by decide) fun w0 S x r hw h => ?_
 have hF : FrOK (fr Tryd.prog (EM l_dyad_Neg) S w0 Tryd.f13.ntmps) := ⟨EM_ok K_dyad_Neg, mix⟩
 obtain ⟨(d_0 : (Bool × ((List Nat) × (Int × Unit)))), u⟩ := x
 simp only [a_dyad_Neg, Ty.wf, fits64] at hw
 simp only [args0, a_dyad_Neg]
 try dsimp only at h
 unfold m_dyad_Neg at h
 refine tri_seq (tri_regionB hF [1, 2] ?_)
 simp only [go_sem]
 refine at_next (tri_seq (tri_regionB hF [1, 2] ?_))
 simp only [go_sem]
 obtain ⟨g0, h⟩ := ck_some h
 repeat (refine ⟨by first | with_reducible assumption | omega | (intros; first | assumption | omega) | (simp only [go_sem] at *; first | assumption | omega) | decide, ?_⟩)
 refine at_next (tri_seq (tri_seq (tri_region hF [1, 2, 12] ?_)))
 simp only [go_sem]
 obtain ⟨g0, h⟩ := ck_some h
 repeat (refine ⟨by first | with_reducible assumption | omega | (intros; first | assumption | omega) | (simp only [go_sem] at *; first | assumption | omega) | decide, ?_⟩)
 refine at_next (tri_cond rfl (fun hc => ?_) (fun hc => ?_))
 ·try simp only [go_sem] at hc
  have h := ite_T (by first | exact hc | omega | (simpa using hc) | (simp at hc ⊢; omega)) h
  refine tri_regionB hF [1, 2] ?_
  simp only [go_sem]
  refine at_next (tri_seq (tri_regionB hF [2] ?_))
  simp only [go_sem]
  obtain rfl := Option.some.inj h
  refine at_next (tri_ret (at_retC hF [.cell 2 28] rfl rfl rfl ?_))
  (try simp only [retOK, resE, go_sem]) <;> first | rfl | (simp; done)
 ·try simp only [go_sem] at hc
  have h := ite_F (by first | exact hc | omega | (simpa using hc) | (simp at hc ⊢; omega)) h
  refine tri_skip (at_next (tri_seq (tri_regionB hF [2] ?_)))
  simp only [go_sem]
  obtain rfl := Option.some.inj h
  refine at_next (tri_ret (at_retC hF [.cell 2 28] rfl rfl rfl ?_))
  (try simp only [retOK, resE, go_sem]) <;> first | rfl | (simp; done)
attribute [go_sem] sm_dyad_Neg
noncomputable def m_round_must (is_0 : Bool) (e_1 : Int) : Option (Unit ⊕ (Int × Unit)) :=
  if ¬ (is_0 = true) then some (.inr (e_1, ())) else some (.inl ())
noncomputable def sg_round_must : GSpec where
  D := Bool × Int × (Unit ⊕ (Int × Unit))
  av := fun d => [.val .bool d.1, .val (.i .i64) d.2.1]
  hp := fun d => []
  m := 0
  pre := fun d => m_round_must d.1 d.2.1 = some d.2.2
  out := fun d => match d.2.2 with | .inl r => .ret (.tup []) [] | .inr p => .pan ⟨134, (.pair (.i .i64) .unit), p⟩ []
noncomputable def l_round_must : List (FuncId × FSpec) := []
theorem K_round_must : Known Tryd.prog GL l_round_must := .nil
set_option maxHeartbeats 4000000 in
theorem og_round_must : GOK Tryd.prog GL 75 sg_round_must := by
 refine gok_lift (EM_ok K_round_must) Tryd.func75 rfl (by kernel_rfl) (fun _ => Nat.le_of_ble_eq_true rfl) fun c0 w0 d hw1 hw2 h hn => ?_
 have hF : FrOK ⟨Tryd.prog, EM l_round_must, GM sg_round_must c0 d, w0, Tryd.f75.ntmps, []⟩ := ⟨EM_ok K_round_must, mix⟩
 obtain ⟨(is_0 : Bool), (e_1 : Int), r⟩ := d
 replace h : m_round_must is_0 e_1 = some r := h
 have hw1 : AV.wfL [.val .bool is_0, .val (.i .i64) e_1] := hw1
 simp only [AV.wfL, AV.wfV, Ty.wf, fits64] at hw1
 show Tri _ _ _ [(0, .val .bool is_0), (1, .val (.i .i64) e_1)] []
 unfold m_round_must at h
 refine tri_seq (tri_region hF [1, 5] ?_)
 simp only [go_sem]
 refine at_next (tri_cond rfl (fun hc => ?_) (fun hc => ?_))
 ·try simp only [go_sem] at hc
  have h := ite_T (by first | exact hc | omega | (simpa using hc) | (simp at hc ⊢; omega)) h
  refine tri_regionP hF (hits_of (l := []) (.nil)) [] [] ?_
  simp only [go_sem]
  repeat (refine ⟨by first | with_reducible assumption | omega | (intros; first | assumption | omega) | (simp only [go_sem] at *; first | assumption | omega) | decide, ?_⟩)
  obtain rfl := Option.some.inj h
  refine at_panG rfl rfl rfl rfl
 ·try simp only [go_sem] at hc
  have h := ite_F (by first | exact hc | omega | (simpa using hc) | (simp at hc ⊢; omega)) h
  obtain rfl := Option.some.inj h
  refine tri_skip (at_endN (at_retG hF [] rfl rfl rfl rfl rfl rfl ?_))
  (try simp only [resE, retV, fitT, fitV, noJunk, AV.isAgg, go_sem]) <;> first | trivial | rfl | (simp; done)
attribute [go_sem] sg_round_must
noncomputable def m_round_may_l2 (l_1 : (List (Bool × ((List Nat) × (Int × Unit))))) (x15_13 : Int) : Option ((Int) ⊕ ((Unit) ⊕ (Int × Unit))) :=
  if x15_13 < (((l_1.length) : Nat) : Int) then ck (0 ≤ x15_13 ∧ x15_13 < (((l_1.length) : Nat) : Int)) (ck (((m_dyad_May (l_1.getD (x15_13.toNat) (false, ([] : List Nat), (0 : Int), ()))).isSome = true)) (((m_round_must ((m_dyad_May (l_1.getD (x15_13.toNat) (false, ([] : List Nat), (0 : Int), ()))).getD false) (1 : Int))).bind (fun e => match e with | .inl r_19 => ck (I64 (x15_13 + (1 : Int))) (some (.inl (x15_13 + (1 : Int)))) | .inr p_20 => some (.inr (.inr p_20))))) else some (.inr (.inl ()))
noncomputable def m_round_may_j1 (l_1 : (List (Bool × ((List Nat) × (Int × Unit))))) : Option ((Unit ⊕ (Int × Unit))) :=
  (loopO (fun d : Int => m_round_may_l2 l_1 d) (0 : Int)).bind (fun e => match e with | (.inl e) => some (.inl ()) | (.inr e) => some (.inr e))
noncomputable def m_round_may (p_0 : Int) (l_1 : (List (Bool × ((List Nat) × (Int × Unit))))) : Option (Unit ⊕ (Int × Unit)) :=
  if (1 : Int) ≤ p_0 then ((m_round_must ((decide ((1 : Int) ≤ p_0)) && (decide (p_0 ≤ (2000 : Int)))) (1 : Int))).bind (fun e => match e with | .inl r_22 => m_round_may_j1 l_1 | .inr p_23 => some (.inr p_23)) else ((m_round_must false (1 : Int))).bind (fun e => match e with | .inl r_24 => m_round_may_j1 l_1 | .inr p_25 => some (.inr p_25))
noncomputable def sg_round_may : GSpec where
  D := Int × (List (Bool × ((List Nat) × (Int × Unit)))) × (Unit ⊕ (Int × Unit))
  av := fun d => [.val (.i .i64) d.1, .val (.sl (.pair .bool (.pair (.sl (.u .u64)) (.pair (.i .i64) .unit)))) d.2.1]
  hp := fun d => []
  m := 0
  pre := fun d => m_round_may d.1 d.2.1 = some d.2.2
  out := fun d => match d.2.2 with | .inl r => .ret (.tup []) [] | .inr p => .pan ⟨134, (.pair (.i .i64) .unit), p⟩ []
noncomputable def l_round_may : List (FuncId × FSpec) := [(10, sm_dyad_May)]
theorem K_round_may : Known Tryd.prog GL l_round_may := .cons om_dyad_May (by kernel_rfl) (.nil)
theorem l_round_may_10 : gam l_round_may 10 = some sm_dyad_May := rfl
attribute [go_sem] l_round_may_10
set_option maxHeartbeats 4000000 in
theorem og_round_may : GOK Tryd.prog GL 74 sg_round_may := by
 refine gok_lift (EM_ok K_round_may) Tryd.func74 rfl (by kernel_rfl) (fun _ => Nat.le_of_ble_eq_true rfl) fun c0 w0 d hw1 hw2 h hn => ?_
 have hF : FrOK ⟨Tryd.prog, EM l_round_may, GM sg_round_may c0 d, w0, Tryd.f74.ntmps, []⟩ := ⟨EM_ok K_round_may, mix⟩
 obtain ⟨(p_0 : Int), (l_1 : (List (Bool × ((List Nat) × (Int × Unit))))), r⟩ := d
 replace h : m_round_may p_0 l_1 = some r := h
 have hw1 : AV.wfL [.val (.i .i64) p_0, .val (.sl (.pair .bool (.pair (.sl (.u .u64)) (.pair (.i .i64) .unit)))) l_1] := hw1
 simp only [AV.wfL, AV.wfV, Ty.wf, fits64] at hw1
 show Tri _ _ _ [(0, .val (.i .i64) p_0), (1, .val (.sl (.pair .bool (.pair (.sl (.u .u64)) (.pair (.i .i64) .unit)))) l_1)] []
 unfold m_round_may at h
 refine tri_joinM (D := Unit) (fun d => m_round_may_j1 l_1 = some r) [1] (fun d => []) (fun d => []) ?_ ?_
 ·by_cases hq : (1 : Int) ≤ p_0
  ·have h := ite_T hq h
   obtain ⟨e, he2, h⟩ := bind_some h
   rcases e with r_22 | p_23
   ·try dsimp only at h
    refine tri_regionP hF (hits_of (l := [(75, ⟨sg_round_must, [], (((decide ((1 : Int) ≤ p_0)) && (decide (p_0 ≤ (2000 : Int)))), (1 : Int), .inl r_22)⟩)]) (.cons og_round_must (by kernel_rfl) (.nil))) [1] [] ?_
    simp only [go_sem]
    repeat (refine ⟨by first | with_reducible assumption | omega | (intros; first | assumption | omega) | (simp only [go_sem] at *; first | assumption | omega) | decide, ?_⟩)
    refine ⟨fun _ => ?_, fun hx => by first | (exfalso; omega) | (exfalso; simp_all; done)⟩
    repeat (refine ⟨by first | with_reducible assumption | omega | (intros; first | assumption | omega) | (simp only [go_sem] at *; first | assumption | omega) | decide, ?_⟩)
    refine ⟨fun _ => ?_, fun hx => by first | (exfalso; omega) | (exfalso; simp_all; done)⟩
    repeat (refine ⟨by first | with_reducible assumption | omega | (intros; first | assumption | omega) | (simp only [go_sem] at *; first | assumption | omega) | decide, ?_⟩)
    refine at_then_norm (at_fit (()) h rfl ?_)
    ·(try simp only [fitE, fitV, true_or, and_self, go_sem]) <;> (repeat' apply And.intro) <;> first | rfl | (left; rfl) | (right; rfl) | (left; simp only [go_sem]; done) | (right; simp only [go_sem]; done) | (simp; done) | (simp only [*]; done) | omega
   ·try dsimp only at h
    refine tri_regionP hF (hits_of (l := [(75, ⟨sg_round_must, [], (((decide ((1 : Int) ≤ p_0)) && (decide (p_0 ≤ (2000 : Int)))), (1 : Int), .inr p_23)⟩)]) (.cons og_round_must (by kernel_rfl) (.nil))) [1] [] ?_
    simp only [go_sem]
    repeat (refine ⟨by first | with_reducible assumption | omega | (intros; first | assumption | omega) | (simp only [go_sem] at *; first | assumption | omega) | decide, ?_⟩)
    refine ⟨fun _ => ?_, fun hx => by first | (exfalso; omega) | (exfalso; simp_all; done)⟩
    repeat (refine ⟨by first | with_reducible assumption | omega | (intros; first | assumption | omega) | (simp only [go_sem] at *; first | assumption | omega) | decide, ?_⟩)
    refine ⟨fun _ => ?_, fun hx => by first | (exfalso; omega) | (exfalso; simp_all; done)⟩
    repeat (refine ⟨by first | with_reducible assumption | omega | (intros; first | assumption | omega) | (simp only [go_sem] at *; first | assumption | omega) | decide, ?_⟩)
    obtain rfl := Option.some.inj h
    refine atP_then (at_panG rfl rfl rfl rfl)
  ·have h := ite_F hq h
   obtain ⟨e, he3, h⟩ := bind_some h
   rcases e with r_24 | p_25
   ·try dsimp only at h
    refine tri_regionP hF (hits_of (l := [(75, ⟨sg_round_must, [], (false, (1 : Int), .inl r_24)⟩)]) (.cons og_round_must (by kernel_rfl) (.nil))) [1] [] ?_
    simp only [go_sem]
    repeat (refine ⟨by first | with_reducible assumption | omega | (intros; first | assumption | omega) | (simp only [go_sem] at *; first | assumption | omega) | decide, ?_⟩)
    first | (refine ⟨fun hx => by first | (exfalso; omega) | (exfalso; simp_all; done), fun _ => ?_⟩) | intro _
    repeat (refine ⟨by first | with_reducible assumption | omega | (intros; first | assumption | omega) | (simp only [go_sem] at *; first | assumption | omega) | decide, ?_⟩)
    first | (refine ⟨fun hx => by first | (exfalso; omega) | (exfalso; simp_all; done), fun _ => ?_⟩) | intro _
    repeat (refine ⟨by first | with_reducible assumption | omega | (intros; first | assumption | omega) | (simp only [go_sem] at *; first | assumption | omega) | decide, ?_⟩)
    refine at_then_norm (at_fit (()) h rfl ?_)
    ·(try simp only [fitE, fitV, true_or, and_self, go_sem]) <;> (repeat' apply And.intro) <;> first | rfl | (left; rfl) | (right; rfl) | (left; simp only [go_sem]; done) | (right; simp only [go_sem]; done) | (simp; done) | (simp only [*]; done) | omega
   ·try dsimp only at h
    refine tri_regionP hF (hits_of (l := [(75, ⟨sg_round_must, [], (false, (1 : Int), .inr p_25)⟩)]) (.cons og_round_must (by kernel_rfl) (.nil))) [1] [] ?_
    simp only [go_sem]
    repeat (refine ⟨by first | with_reducible assumption | omega | (intros; first | assumption | omega) | (simp only [go_sem] at *; first | assumption | omega) | decide, ?_⟩)
    first | (refine ⟨fun hx => by first | (exfalso; omega) | (exfalso; simp_all; done), fun _ => ?_⟩) | intro _
    repeat (refine ⟨by first | with_reducible assumption | omega | (intros; first | assumption | omega) | (simp only [go_sem] at *; first | assumption | omega) | decide, ?_⟩)
    first | (refine ⟨fun hx => by first | (exfalso; omega) | (exfalso; simp_all; done), fun _ => ?_⟩) | intro _
    repeat (refine ⟨by first | with_reducible assumption | omega | (intros; first | assumption | omega) | (simp only [go_sem] at *; first | assumption | omega) | decide, ?_⟩)
    obtain rfl := Option.some.inj h
    refine atP_then (at_panG rfl rfl rfl rfl)
 ·rintro u h
  try dsimp only at h
  simp only [go_sem]
  unfold m_round_may_j1 at h
  refine tri_seq (tri_region hF [13, 14, 15] ?_)
  simp only [go_sem]
  refine at_next (tri_block (tri_loopM (D := Int) [13, 14] (fun d => [(15, .val (.i .i64) d)]) (fun d => []) h ?_ ?_ ?_))
  ·first | rfl | (simp only [go_sem]; done)
  ·(try simp only [fitE, fitV, true_or, and_self, go_sem]) <;> (repeat' apply And.intro) <;> first | rfl | (left; rfl) | (right; rfl) | (left; simp only [go_sem]; done) | (right; simp only [go_sem]; done) | (simp; done) | (simp only [*]; done) | omega
  rintro x15_13 s2 h hs2
  simp only [go_sem]
  try dsimp only at h
  unfold m_round_may_l2 at h
  refine tri_seq (tri_region hF [13, 14, 15, 16] ?_)
  simp only [go_sem]
  refine at_next (tri_seq (tri_cond rfl (fun hc => ?_) (fun hc => ?_)))
  ·try simp only [go_sem] at hc
   have h := ite_T (by first | exact hc | omega | (simpa using hc) | (simp at hc ⊢; omega)) h
   refine tri_skip (at_next (tri_seq (tri_block (tri_seq (tri_regionB hF [5, 13, 14, 15] ?_)))))
   simp only [go_sem]
   obtain ⟨g0, h⟩ := ck_some h
   repeat (refine ⟨by first | with_reducible assumption | omega | (intros; first | assumption | omega) | (simp only [go_sem] at *; first | assumption | omega) | decide, ?_⟩)
   obtain ⟨g0, h⟩ := ck_some h
   obtain ⟨e, he1, h⟩ := bind_some h
   rcases e with r_19 | p_20
   ·try dsimp only at h
    refine at_next (tri_regionP hF (hits_of (l := [(75, ⟨sg_round_must, [], (((m_dyad_May (l_1.getD (x15_13.toNat) (false, ([] : List Nat), (0 : Int), ()))).getD false), (1 : Int), .inl r_19)⟩)]) (.cons og_round_must (by kernel_rfl) (.nil))) [13, 14, 15] [] ?_)
    simp only [go_sem]
    repeat (refine ⟨by first | with_reducible assumption | omega | (intros; first | assumption | omega) | (simp only [go_sem] at *; first | assumption | omega) | decide, ?_⟩)
    refine at_block_norm (at_next (tri_region hF [13, 14, 15] ?_))
    simp only [go_sem]
    obtain ⟨g0, h⟩ := ck_some h
    try simp only [I64, I32] at g0
    repeat (refine ⟨by first | with_reducible assumption | omega | (intros; first | assumption | omega) | (simp only [go_sem] at *; first | assumption | omega) | decide, ?_⟩)
    obtain rfl := Option.some.inj h
    dsimp only [stepQ] at hs2
    refine at_then_norm (at_ren [] rfl rfl ?_)
    simp only [ren, ren1, renO, posOf, posAll, go_sem]
    refine at_fit ((x15_13 + (1 : Int))) hs2 rfl ?_
    ·(try simp only [fitE, fitV, true_or, and_self, go_sem]) <;> (repeat' apply And.intro) <;> first | rfl | (left; rfl) | (right; rfl) | (left; simp only [go_sem]; done) | (right; simp only [go_sem]; done) | (simp; done) | (simp only [*]; done) | omega
   ·try dsimp only at h
    refine at_next (tri_regionP hF (hits_of (l := [(75, ⟨sg_round_must, [], (((m_dyad_May (l_1.getD (x15_13.toNat) (false, ([] : List Nat), (0 : Int), ()))).getD false), (1 : Int), .inr p_20)⟩)]) (.cons og_round_must (by kernel_rfl) (.nil))) [13, 14, 15] [] ?_)
    simp only [go_sem]
    repeat (refine ⟨by first | with_reducible assumption | omega | (intros; first | assumption | omega) | (simp only [go_sem] at *; first | assumption | omega) | decide, ?_⟩)
    obtain rfl := Option.some.inj h
    dsimp only [stepQ] at hs2
    have h := hs2
    try dsimp only at h
    obtain rfl := Option.some.inj h
    refine atP_block (atP_then (atP_then (atP_block (atP_ren [] rfl rfl ?_))))
    simp only [ren, ren1, renO, posOf, posAll, go_sem]
    refine at_panG rfl rfl rfl rfl
  ·try simp only [go_sem] at hc
   have h := ite_F (by first | exact hc | omega | (simpa using hc) | (simp at hc ⊢; omega)) h
   obtain rfl := Option.some.inj h
   dsimp only [stepQ] at hs2
   have h := hs2
   try dsimp only at h
   obtain rfl := Option.some.inj h
   refine tri_exit (at_then_exit (at_then_exit (at_block_exit (at_endN (at_retG hF [] rfl rfl rfl rfl rfl rfl ?_)))))
   (try simp only [resE, retV, fitT, fitV, noJunk, AV.isAgg, go_sem]) <;> first | trivial | rfl | (simp; done)
attribute [go_sem] sg_round_may
noncomputable def m_round_cut_j2 (neg_0 : Bool) (e_8 : Int) (m_10 : (List Nat)) : Option (((Bool × ((List Nat) × (Int × Unit))) ⊕ (Int × Unit))) :=
  ck (((m_dyad_Fit neg_0 m_10 e_8).isSome = true)) (((m_round_must (decide (((((m_dyad_Fit neg_0 m_10 e_8).getD ((false, ([] : List Nat), (0 : Int), ()), (0 : Int), ())).2).1) = (0 : Int))) ((((m_dyad_Fit neg_0 m_10 e_8).getD ((false, ([] : List Nat), (0 : Int), ()), (0 : Int), ())).2).1))).bind (fun e => match e with | .inl r_15 => some (.inl (((m_dyad_Fit neg_0 m_10 e_8).getD ((false, ([] : List Nat), (0 : Int), ()), (0 : Int), ())).1)) | .inr p_16 => some (.inr p_16)))
noncomputable def m_round_cut_j1 (up_5 : Bool) (neg_0 : Bool) (m_7 : (List Nat)) (e_8 : Int) (rest_9 : Bool) : Option (((Bool × ((List Nat) × (Int × Unit))) ⊕ (Int × Unit))) :=
  if (rest_9 = true) ∧ ((up_5 != neg_0) = true) then ck ((pSz2 m_7 ([1] : List Nat))) (m_round_cut_j2 neg_0 e_8 (f_nat_Plus m_7 ([1] : List Nat))) else m_round_cut_j2 neg_0 e_8 m_7
noncomputable def m_round_cut (neg_0 : Bool) (m_1 : (List Nat)) (e_2 : Int) (rest_3 : Bool) (p_4 : Int) (up_5 : Bool) : Option ((Bool × ((List Nat) × (Int × Unit))) ⊕ (Int × Unit)) :=
  ck ((pNrmS m_1)) (ck (I64 ((f_nat_Size m_1) - p_4)) (if (0 : Int) < ((f_nat_Size m_1) - p_4) then ck ((¬ (rest_3 = true) → ((pSz m_1)))) (ck ((pRight m_1 ((f_nat_Size m_1) - p_4))) (ck (I64 (e_2 + ((f_nat_Size m_1) - p_4))) (m_round_cut_j1 up_5 neg_0 (f_nat_Right m_1 ((f_nat_Size m_1) - p_4)) (e_2 + ((f_nat_Size m_1) - p_4)) (rest_3 || (decide ((f_nat_Zeros m_1) < ((f_nat_Size m_1) - p_4))))))) else m_round_cut_j1 up_5 neg_0 m_1 e_2 rest_3))
noncomputable def sg_round_cut : GSpec where
  D := Bool × (List Nat) × Int × Bool × Int × Bool × ((Bool × ((List Nat) × (Int × Unit))) ⊕ (Int × Unit))
  av := fun d => [.val .bool d.1, .val (.sl (.u .u64)) d.2.1, .val (.i .i64) d.2.2.1, .val .bool d.2.2.2.1, .val (.i .i64) d.2.2.2.2.1, .val .bool d.2.2.2.2.2.1]
  hp := fun d => []
  m := 0
  pre := fun d => m_round_cut d.1 d.2.1 d.2.2.1 d.2.2.2.1 d.2.2.2.2.1 d.2.2.2.2.2.1 = some d.2.2.2.2.2.2
  out := fun d => match d.2.2.2.2.2.2 with | .inl r => .ret (.val (.pair .bool (.pair (.sl (.u .u64)) (.pair (.i .i64) .unit))) r) [] | .inr p => .pan ⟨134, (.pair (.i .i64) .unit), p⟩ []
noncomputable def l_round_cut : List (FuncId × FSpec) := [(34, sp_nat_Right), (35, sp_nat_Zeros), (36, sp_nat_Plus), (41, sm_dyad_Fit), (76, sp_nat_Size)]
theorem K_round_cut : Known Tryd.prog GL l_round_cut := .cons ok_nat_Right (by kernel_rfl) (.cons ok_nat_Zeros (by kernel_rfl) (.cons ok_nat_Plus (by kernel_rfl) (.cons om_dyad_Fit (by kernel_rfl) (.cons ok_nat_Size (by kernel_rfl) (.nil)))))
theorem l_round_cut_34 : gam l_round_cut 34 = some sp_nat_Right := rfl
attribute [go_sem] l_round_cut_34
theorem l_round_cut_35 : gam l_round_cut 35 = some sp_nat_Zeros := rfl
attribute [go_sem] l_round_cut_35
theorem l_round_cut_36 : gam l_round_cut 36 = some sp_nat_Plus := rfl
attribute [go_sem] l_round_cut_36
theorem l_round_cut_41 : gam l_round_cut 41 = some sm_dyad_Fit := rfl
attribute [go_sem] l_round_cut_41
theorem l_round_cut_76 : gam l_round_cut 76 = some sp_nat_Size := rfl
attribute [go_sem] l_round_cut_76
set_option maxHeartbeats 4000000 in
theorem og_round_cut : GOK Tryd.prog GL 77 sg_round_cut := by
 refine gok_lift (EM_ok K_round_cut) Tryd.func77 rfl (by kernel_rfl) (fun _ => Nat.le_of_ble_eq_true rfl) fun c0 w0 d hw1 hw2 h hn => ?_
 have hF : FrOK ⟨Tryd.prog, EM l_round_cut, GM sg_round_cut c0 d, w0, Tryd.f77.ntmps, []⟩ := ⟨EM_ok K_round_cut, mix⟩
 obtain ⟨(neg_0 : Bool), (m_1 : (List Nat)), (e_2 : Int), (rest_3 : Bool), (p_4 : Int), (up_5 : Bool), r⟩ := d
 replace h : m_round_cut neg_0 m_1 e_2 rest_3 p_4 up_5 = some r := h
 have hw1 : AV.wfL [.val .bool neg_0, .val (.sl (.u .u64)) m_1, .val (.i .i64) e_2, .val .bool rest_3, .val (.i .i64) p_4, .val .bool up_5] := hw1
 simp only [AV.wfL, AV.wfV, Ty.wf, fits64] at hw1
 show Tri _ _ _ [(0, .val .bool neg_0), (1, .val (.sl (.u .u64)) m_1), (2, .val (.i .i64) e_2), (3, .val .bool rest_3), (4, .val (.i .i64) p_4), (5, .val .bool up_5)] []
 unfold m_round_cut at h
 refine tri_seq (tri_regionB hF [0, 1, 2, 3, 4, 5, 12] ?_)
 simp only [go_sem]
 refine at_next (tri_joinM (D := (List Nat) × Int × Bool) (fun d => m_round_cut_j1 up_5 neg_0 d.1 d.2.1 d.2.2 = some r) [0, 5] (fun d => [(1, .val (.sl (.u .u64)) d.1), (2, .val (.i .i64) d.2.1), (3, .val .bool d.2.2), (12, .ptr 0 [])]) (fun d => [.inr (.box 3 (.val (.pair .bool (.pair (.sl (.u .u64)) (.pair (.i .i64) .unit))) (false, ([] : List Nat), (0 : Int), ())))]) ?_ ?_)
 ·refine tri_seq (tri_region hF [0, 1, 2, 3, 5, 12, 13] ?_)
  simp only [go_sem]
  obtain ⟨g0, h⟩ := ck_some h
  obtain ⟨g1, h⟩ := ck_some h
  try simp only [I64, I32] at g1
  repeat (refine ⟨by first | with_reducible assumption | omega | (intros; first | assumption | omega) | (simp only [go_sem] at *; first | assumption | omega) | decide, ?_⟩)
  refine at_next (tri_seq (tri_region hF [0, 1, 2, 3, 5, 12, 13, 21] ?_))
  simp only [go_sem]
  refine at_next (tri_cond rfl (fun hc => ?_) (fun hc => ?_))
  ·try simp only [go_sem] at hc
   have h := ite_T (by first | exact hc | omega | (simpa using hc) | (simp at hc ⊢; omega)) h
   refine tri_seq (tri_region hF [0, 1, 2, 3, 5, 12, 13] ?_)
   simp only [go_sem]
   obtain ⟨g0, h⟩ := ck_some h
   repeat (refine ⟨by first | with_reducible assumption | omega | (intros; first | assumption | omega) | (simp only [go_sem] at *; first | assumption | omega) | (intro q0; (try have e0 := g0 (by first | exact q0 | omega | (simpa using q0))); first | assumption | omega) | decide, ?_⟩)
   refine at_next (tri_region hF [0, 1, 2, 3, 5, 12] ?_)
   simp only [go_sem]
   obtain ⟨g0, h⟩ := ck_some h
   obtain ⟨g1, h⟩ := ck_some h
   try simp only [I64, I32] at g1
   repeat (refine ⟨by first | with_reducible assumption | omega | (intros; first | assumption | omega) | (simp only [go_sem] at *; first | assumption | omega) | decide, ?_⟩)
   refine at_then_norm (at_fit (((f_nat_Right m_1 ((f_nat_Size m_1) - p_4)), (e_2 + ((f_nat_Size m_1) - p_4)), (rest_3 || (decide ((f_nat_Zeros m_1) < ((f_nat_Size m_1) - p_4)))))) h rfl ?_)
   ·(try simp only [fitE, fitV, true_or, and_self, go_sem]) <;> (repeat' apply And.intro) <;> first | rfl | (left; rfl) | (right; rfl) | (left; simp only [go_sem]; done) | (right; simp only [go_sem]; done) | (simp; done) | (simp only [*]; done) | omega
  ·try simp only [go_sem] at hc
   have h := ite_F (by first | exact hc | omega | (simpa using hc) | (simp at hc ⊢; omega)) h
   refine tri_skip (at_then_norm (at_fit ((m_1, e_2, rest_3)) h rfl ?_))
   ·(try simp only [fitE, fitV, true_or, and_self, go_sem]) <;> (repeat' apply And.intro) <;> first | rfl | (left; rfl) | (right; rfl) | (left; simp only [go_sem]; done) | (right; simp only [go_sem]; done) | (simp; done) | (simp only [*]; done) | omega
 ·rintro ⟨m_7, e_8, rest_9⟩ h
  try dsimp only at h
  simp only [go_sem]
  unfold m_round_cut_j1 at h
  refine tri_joinM (D := (List Nat)) (fun d => m_round_cut_j2 neg_0 e_8 d = some r) [0, 2] (fun d => [(1, .val (.sl (.u .u64)) d), (12, .ptr 0 [])]) (fun d => [.inr (.box 3 (.val (.pair .bool (.pair (.sl (.u .u64)) (.pair (.i .i64) .unit))) (false, ([] : List Nat), (0 : Int), ())))]) ?_ ?_
  ·refine tri_seq (tri_region hF [0, 1, 2, 12, 40] ?_)
   simp only [go_sem]
   refine at_next (tri_cond rfl (fun hc => ?_) (fun hc => ?_))
   ·try simp only [go_sem] at hc
    have h := ite_T (by first | exact hc | omega | (simpa using hc) | (simp at hc ⊢; omega)) h
    refine tri_region hF [0, 1, 2, 12] ?_
    simp only [go_sem]
    obtain ⟨g0, h⟩ := ck_some h
    repeat (refine ⟨by first | with_reducible assumption | omega | (intros; first | assumption | omega) | (simp only [go_sem] at *; first | assumption | omega) | decide, ?_⟩)
    refine at_then_norm (at_fit ((f_nat_Plus m_7 ([1] : List Nat))) h rfl ?_)
    ·(try simp only [fitE, fitV, true_or, and_self, go_sem]) <;> (repeat' apply And.intro) <;> first | rfl | (left; rfl) | (right; rfl) | (left; simp only [go_sem]; done) | (right; simp only [go_sem]; done) | (simp; done) | (simp only [*]; done) | omega
   ·try simp only [go_sem] at hc
    have h := ite_F (by first | exact hc | omega | (simpa using hc) | (simp at hc ⊢; omega)) h
    refine tri_skip (at_then_norm (at_fit (m_7) h rfl ?_))
    ·(try simp only [fitE, fitV, true_or, and_self, go_sem]) <;> (repeat' apply And.intro) <;> first | rfl | (left; rfl) | (right; rfl) | (left; simp only [go_sem]; done) | (right; simp only [go_sem]; done) | (simp; done) | (simp only [*]; done) | omega
  ·rintro m_10 h
   try dsimp only at h
   simp only [go_sem]
   unfold m_round_cut_j2 at h
   refine tri_seq (tri_regionB hF [12, 14, 15] ?_)
   simp only [go_sem]
   obtain ⟨g0, h⟩ := ck_some h
   repeat (refine ⟨by first | with_reducible assumption | omega | (intros; first | assumption | omega) | (simp only [go_sem] at *; first | assumption | omega) | decide, ?_⟩)
   obtain ⟨e, he1, h⟩ := bind_some h
   rcases e with r_15 | p_16
   ·try dsimp only at h
    refine at_next (tri_seq (tri_regionP hF (hits_of (l := [(75, ⟨sg_round_must, [], ((decide (((((m_dyad_Fit neg_0 m_10 e_8).getD ((false, ([] : List Nat), (0 : Int), ()), (0 : Int), ())).2).1) = (0 : Int))), ((((m_dyad_Fit neg_0 m_10 e_8).getD ((false, ([] : List Nat), (0 : Int), ()), (0 : Int), ())).2).1), .inl r_15)⟩)]) (.cons og_round_must (by kernel_rfl) (.nil))) [12, 14] [] ?_))
    simp only [go_sem]
    repeat (refine ⟨by first | with_reducible assumption | omega | (intros; first | assumption | omega) | (simp only [go_sem] at *; first | assumption | omega) | decide, ?_⟩)
    refine at_next (tri_seq (tri_regionB hF [12] ?_))
    simp only [go_sem]
    obtain rfl := Option.some.inj h
    refine at_next (tri_ret (at_retG2 hF [.cell 12 28] [] rfl rfl rfl rfl rfl rfl rfl rfl rfl ?_))
    (try simp only [resE, retV, fitT, fitV, noJunk, AV.isAgg, go_sem]) <;> first | trivial | rfl | (simp; done)
   ·try dsimp only at h
    refine at_next (tri_seq (tri_regionP hF (hits_of (l := [(75, ⟨sg_round_must, [], ((decide (((((m_dyad_Fit neg_0 m_10 e_8).getD ((false, ([] : List Nat), (0 : Int), ()), (0 : Int), ())).2).1) = (0 : Int))), ((((m_dyad_Fit neg_0 m_10 e_8).getD ((false, ([] : List Nat), (0 : Int), ()), (0 : Int), ())).2).1), .inr p_16)⟩)]) (.cons og_round_must (by kernel_rfl) (.nil))) [12, 14] [] ?_))
    simp only [go_sem]
    repeat (refine ⟨by first | with_reducible assumption | omega | (intros; first | assumption | omega) | (simp only [go_sem] at *; first | assumption | omega) | decide, ?_⟩)
    obtain rfl := Option.some.inj h
    refine atP_then (atP_ren [] rfl rfl ?_)
    simp only [ren, ren1, renO, posOf, posAll, go_sem]
    refine at_panG rfl rfl rfl rfl
attribute [go_sem] sg_round_cut
noncomputable def m_round_Quot_1 (a0_0 : Int) (a1_1 : (Bool × ((List Nat) × (Int × Unit)))) (a2_2 : (Bool × ((List Nat) × (Int × Unit)))) (a3_3 : Bool) : Option ((Bool × ((List Nat) × (Int × Unit))) ⊕ (Int × Unit)) :=
  ((m_round_may a0_0 ([a1_1, a2_2] : List (Bool × ((List Nat) × (Int × Unit)))))).bind (fun e => match e with | .inl r_9 => ((m_round_must (decide ((0 : Int) < (((((a2_2.2).1).length) : Nat) : Int))) (4 : Int))).bind (fun e => match e with | .inl r_15 => ck (I64 (a0_0 + (1 : Int))) (ck ((pNrmS ((a2_2.2).1))) (ck (I64 ((a0_0 + (1 : Int)) + (f_nat_Size ((a2_2.2).1)))) (ck ((pNrmS ((a1_1.2).1))) (ck (I64 (((a0_0 + (1 : Int)) + (f_nat_Size ((a2_2.2).1))) - (f_nat_Size ((a1_1.2).1)))) (ck ((pLeft ((a1_1.2).1) (max (0 : Int) (((a0_0 + (1 : Int)) + (f_nat_Size ((a2_2.2).1))) - (f_nat_Size ((a1_1.2).1)))))) (ck ((p_nat_QuoRem (f_nat_Left ((a1_1.2).1) (max (0 : Int) (((a0_0 + (1 : Int)) + (f_nat_Size ((a2_2.2).1))) - (f_nat_Size ((a1_1.2).1))))) ((a2_2.2).1))) (ck (I64 ((((a1_1.2).2).1) - (((a2_2.2).2).1))) (ck (I64 (((((a1_1.2).2).1) - (((a2_2.2).2).1)) - (max (0 : Int) (((a0_0 + (1 : Int)) + (f_nat_Size ((a2_2.2).1))) - (f_nat_Size ((a1_1.2).1)))))) (((m_round_cut ((a1_1.1) != (a2_2.1)) ((f_nat_QuoRem (f_nat_Left ((a1_1.2).1) (max (0 : Int) (((a0_0 + (1 : Int)) + (f_nat_Size ((a2_2.2).1))) - (f_nat_Size ((a1_1.2).1))))) ((a2_2.2).1)).1) (((((a1_1.2).2).1) - (((a2_2.2).2).1)) - (max (0 : Int) (((a0_0 + (1 : Int)) + (f_nat_Size ((a2_2.2).1))) - (f_nat_Size ((a1_1.2).1))))) (decide ((0 : Int) < ((((((f_nat_QuoRem (f_nat_Left ((a1_1.2).1) (max (0 : Int) (((a0_0 + (1 : Int)) + (f_nat_Size ((a2_2.2).1))) - (f_nat_Size ((a1_1.2).1))))) ((a2_2.2).1)).2).1).length) : Nat) : Int))) a0_0 a3_3)).bind (fun e => match e with | .inl r_21 => some (.inl r_21) | .inr p_22 => some (.inr p_22))))))))))) | .inr p_16 => some (.inr p_16)) | .inr p_10 => some (.inr p_10))
noncomputable def sg_round_Quot_1 : GSpec where
  D := Int × (Bool × ((List Nat) × (Int × Unit))) × (Bool × ((List Nat) × (Int × Unit))) × Bool × ((Bool × ((List Nat) × (Int × Unit))) ⊕ (Int × Unit))
  av := fun d => [.val (.rp (.i .i64)) d.1, .val (.rp (.pair .bool (.pair (.sl (.u .u64)) (.pair (.i .i64) .unit)))) d.2.1, .val (.rp (.pair .bool (.pair (.sl (.u .u64)) (.pair (.i .i64) .unit)))) d.2.2.1, .val (.rp .bool) d.2.2.2.1]
  hp := fun d => []
  m := 0
  pre := fun d => m_round_Quot_1 d.1 d.2.1 d.2.2.1 d.2.2.2.1 = some d.2.2.2.2
  out := fun d => match d.2.2.2.2 with | .inl r => .ret (.val (.pair .bool (.pair (.sl (.u .u64)) (.pair (.i .i64) .unit))) r) [] | .inr p => .pan ⟨134, (.pair (.i .i64) .unit), p⟩ []
noncomputable def l_round_Quot_1 : List (FuncId × FSpec) := [(32, sp_nat_Left), (55, sp_nat_QuoRem), (76, sp_nat_Size)]
theorem K_round_Quot_1 : Known Tryd.prog GL l_round_Quot_1 := .cons ok_nat_Left (by kernel_rfl) (.cons ok_nat_QuoRem (by kernel_rfl) (.cons ok_nat_Size (by kernel_rfl) (.nil)))
theorem l_round_Quot_1_32 : gam l_round_Quot_1 32 = some sp_nat_Left := rfl
attribute [go_sem] l_round_Quot_1_32
theorem l_round_Quot_1_55 : gam l_round_Quot_1 55 = some sp_nat_QuoRem := rfl
attribute [go_sem] l_round_Quot_1_55
theorem l_round_Quot_1_76 : gam l_round_Quot_1 76 = some sp_nat_Size := rfl
attribute [go_sem] l_round_Quot_1_76
set_option maxHeartbeats 4000000 in
theorem og_round_Quot_1 : GOK Tryd.prog GL 73 sg_round_Quot_1 := by
 refine gok_lift (EM_ok K_round_Quot_1) Tryd.func73 rfl (by kernel_rfl) (fun _ => Nat.le_of_ble_eq_true rfl) fun c0 w0 d hw1 hw2 h hn => ?_
 have hF : FrOK ⟨Tryd.prog, EM l_round_Quot_1, GM sg_round_Quot_1 c0 d, w0, Tryd.f73.ntmps, []⟩ := ⟨EM_ok K_round_Quot_1, mix⟩
 obtain ⟨(a0_0 : Int), (a1_1 : (Bool × ((List Nat) × (Int × Unit)))), (a2_2 : (Bool × ((List Nat) × (Int × Unit)))), (a3_3 : Bool), r⟩ := d
 replace h : m_round_Quot_1 a0_0 a1_1 a2_2 a3_3 = some r := h
 have hw1 : AV.wfL [.val (.rp (.i .i64)) a0_0, .val (.rp (.pair .bool (.pair (.sl (.u .u64)) (.pair (.i .i64) .unit)))) a1_1, .val (.rp (.pair .bool (.pair (.sl (.u .u64)) (.pair (.i .i64) .unit)))) a2_2, .val (.rp .bool) a3_3] := hw1
 simp only [AV.wfL, AV.wfV, Ty.wf, fits64] at hw1
 show Tri _ _ _ [(0, .roa (.i .i64) a0_0), (1, .roa (.pair .bool (.pair (.sl (.u .u64)) (.pair (.i .i64) .unit))) a1_1), (2, .roa (.pair .bool (.pair (.sl (.u .u64)) (.pair (.i .i64) .unit))) a2_2), (3, .roa .bool a3_3)] []
 unfold m_round_Quot_1 at h
 refine tri_seq (tri_regionB hF [0, 1, 2, 3, 4] ?_)
 simp only [go_sem]
 obtain ⟨e, he1, h⟩ := bind_some h
 rcases e with r_9 | p_10
 ·try dsimp only at h
  refine at_next (tri_seq (tri_regionP hF (hits_of (l := [(74, ⟨sg_round_may, [], (a0_0, ([a1_1, a2_2] : List (Bool × ((List Nat) × (Int × Unit)))), .inl r_9)⟩)]) (.cons og_round_may (by kernel_rfl) (.nil))) [0, 1, 2, 3, 4] [] ?_))
  simp only [go_sem]
  repeat (refine ⟨by first | with_reducible assumption | omega | (intros; first | assumption | omega) | (simp only [go_sem] at *; first | assumption | omega) | decide, ?_⟩)
  obtain ⟨e, he2, h⟩ := bind_some h
  rcases e with r_15 | p_16
  ·try dsimp only at h
   refine at_next (tri_seq (tri_regionP hF (hits_of (l := [(75, ⟨sg_round_must, [], ((decide ((0 : Int) < (((((a2_2.2).1).length) : Nat) : Int))), (4 : Int), .inl r_15)⟩)]) (.cons og_round_must (by kernel_rfl) (.nil))) [0, 1, 2, 3, 4] [] ?_))
   simp only [go_sem]
   repeat (refine ⟨by first | with_reducible assumption | omega | (intros; first | assumption | omega) | (simp only [go_sem] at *; first | assumption | omega) | decide, ?_⟩)
   refine at_next (tri_seq (tri_region hF [0, 1, 2, 3, 4, 5] ?_))
   simp only [go_sem]
   obtain ⟨g0, h⟩ := ck_some h
   obtain ⟨g1, h⟩ := ck_some h
   obtain ⟨g2, h⟩ := ck_some h
   obtain ⟨g3, h⟩ := ck_some h
   obtain ⟨g4, h⟩ := ck_some h
   try simp only [I64, I32] at g0
   try simp only [I64, I32] at g2
   try simp only [I64, I32] at g4
   repeat (refine ⟨by first | with_reducible assumption | omega | (intros; first | assumption | omega) | (simp only [go_sem] at *; first | assumption | omega) | decide, ?_⟩)
   refine at_next (tri_seq (tri_region hF [0, 1, 2, 3, 4, 5, 6, 7] ?_))
   simp only [go_sem]
   obtain ⟨g0, h⟩ := ck_some h
   obtain ⟨g1, h⟩ := ck_some h
   repeat (refine ⟨by first | with_reducible assumption | omega | (intros; first | assumption | omega) | (simp only [go_sem] at *; first | assumption | omega) | decide, ?_⟩)
   obtain ⟨g0, h⟩ := ck_some h
   try simp only [I64, I32] at g0
   obtain ⟨g1, h⟩ := ck_some h
   try simp only [I64, I32] at g1
   obtain ⟨e, he3, h⟩ := bind_some h
   rcases e with r_21 | p_22
   ·try dsimp only at h
    refine at_next (tri_seq (tri_regionP hF (hits_of (l := [(77, ⟨sg_round_cut, [], (((a1_1.1) != (a2_2.1)), ((f_nat_QuoRem (f_nat_Left ((a1_1.2).1) (max (0 : Int) (((a0_0 + (1 : Int)) + (f_nat_Size ((a2_2.2).1))) - (f_nat_Size ((a1_1.2).1))))) ((a2_2.2).1)).1), (((((a1_1.2).2).1) - (((a2_2.2).2).1)) - (max (0 : Int) (((a0_0 + (1 : Int)) + (f_nat_Size ((a2_2.2).1))) - (f_nat_Size ((a1_1.2).1))))), (decide ((0 : Int) < ((((((f_nat_QuoRem (f_nat_Left ((a1_1.2).1) (max (0 : Int) (((a0_0 + (1 : Int)) + (f_nat_Size ((a2_2.2).1))) - (f_nat_Size ((a1_1.2).1))))) ((a2_2.2).1)).2).1).length) : Nat) : Int))), a0_0, a3_3, .inl r_21)⟩)]) (.cons og_round_cut (by kernel_rfl) (.nil))) [4] [] ?_))
    simp only [go_sem]
    repeat (refine ⟨by first | with_reducible assumption | omega | (intros; first | assumption | omega) | (simp only [go_sem] at *; first | assumption | omega) | decide, ?_⟩)
    obtain rfl := Option.some.inj h
    refine at_next (tri_ret (at_retG2 hF [.cell 4 28] [] rfl rfl rfl rfl rfl rfl rfl rfl rfl ?_))
    (try simp only [resE, retV, fitT, fitV, noJunk, AV.isAgg, go_sem]) <;> first | trivial | rfl | (simp; done)
   ·try dsimp only at h
    refine at_next (tri_seq (tri_regionP hF (hits_of (l := [(77, ⟨sg_round_cut, [], (((a1_1.1) != (a2_2.1)), ((f_nat_QuoRem (f_nat_Left ((a1_1.2).1) (max (0 : Int) (((a0_0 + (1 : Int)) + (f_nat_Size ((a2_2.2).1))) - (f_nat_Size ((a1_1.2).1))))) ((a2_2.2).1)).1), (((((a1_1.2).2).1) - (((a2_2.2).2).1)) - (max (0 : Int) (((a0_0 + (1 : Int)) + (f_nat_Size ((a2_2.2).1))) - (f_nat_Size ((a1_1.2).1))))), (decide ((0 : Int) < ((((((f_nat_QuoRem (f_nat_Left ((a1_1.2).1) (max (0 : Int) (((a0_0 + (1 : Int)) + (f_nat_Size ((a2_2.2).1))) - (f_nat_Size ((a1_1.2).1))))) ((a2_2.2).1)).2).1).length) : Nat) : Int))), a0_0, a3_3, .inr p_22)⟩)]) (.cons og_round_cut (by kernel_rfl) (.nil))) [4] [] ?_))
    simp only [go_sem]
    repeat (refine ⟨by first | with_reducible assumption | omega | (intros; first | assumption | omega) | (simp only [go_sem] at *; first | assumption | omega) | decide, ?_⟩)
    obtain rfl := Option.some.inj h
    refine atP_then (atP_ren [] rfl rfl ?_)
    simp only [ren, ren1, renO, posOf, posAll, go_sem]
    refine at_panG rfl rfl rfl rfl
  ·try dsimp only at h
   refine at_next (tri_seq (tri_regionP hF (hits_of (l := [(75, ⟨sg_round_must, [], ((decide ((0 : Int) < (((((a2_2.2).1).length) : Nat) : Int))), (4 : Int), .inr p_16)⟩)]) (.cons og_round_must (by kernel_rfl) (.nil))) [0, 1, 2, 3, 4] [] ?_))
   simp only [go_sem]
   repeat (refine ⟨by first | with_reducible assumption | omega | (intros; first | assumption | omega) | (simp only [go_sem] at *; first | assumption | omega) | decide, ?_⟩)
   obtain rfl := Option.some.inj h
   refine atP_then (atP_ren [] rfl rfl ?_)
   simp only [ren, ren1, renO, posOf, posAll, go_sem]
   refine at_panG rfl rfl rfl rfl
 ·try dsimp only at h
  refine at_next (tri_seq (tri_regionP hF (hits_of (l := [(74, ⟨sg_round_may, [], (a0_0, ([a1_1, a2_2] : List (Bool × ((List Nat) × (Int × Unit)))), .inr p_10)⟩)]) (.cons og_round_may (by kernel_rfl) (.nil))) [0, 1, 2, 3, 4] [] ?_))
  simp only [go_sem]
  repeat (refine ⟨by first | with_reducible assumption | omega | (intros; first | assumption | omega) | (simp only [go_sem] at *; first | assumption | omega) | decide, ?_⟩)
  obtain rfl := Option.some.inj h
  refine atP_then (atP_ren [] rfl rfl ?_)
  simp only [ren, ren1, renO, posOf, posAll, go_sem]
  refine at_panG rfl rfl rfl rfl
attribute [go_sem] sg_round_Quot_1
def sd0_round_face : GSpec where
  D := (Bool × ((List Nat) × (Int × Unit))) × Int
  av := fun _ => [.ptr 0 [], .ptr 1 []]
  hp := fun d => [.box 3 (.val (.pair .bool (.pair (.sl (.u .u64)) (.pair (.i .i64) .unit))) d.1), .box 1 (.val (.i .i64) d.2)]
  m := 2
  pre := fun _ => True
  out := fun d => .ret (.tup []) [.box 3 (.val (.pair .bool (.pair (.sl (.u .u64)) (.pair (.i .i64) .unit))) d.1), .box 1 (.val (.i .i64) d.2)]
def sd1_round_face (x : (Int × Unit)) : GSpec where
  D := (Bool × ((List Nat) × (Int × Unit))) × Int
  av := fun _ => [.ptr 0 [], .ptr 1 []]
  hp := fun d => [.box 3 (.val (.pair .bool (.pair (.sl (.u .u64)) (.pair (.i .i64) .unit))) d.1), .box 1 (.val (.i .i64) d.2)]
  m := 2
  pre := fun _ => True
  out := fun d => .ret (.tup []) [.box 3 (.val (.pair .bool (.pair (.sl (.u .u64)) (.pair (.i .i64) .unit))) (false, ([] : List Nat), (0 : Int), ())), .box 1 (.val (.i .i64) x.1)]
theorem dok0_round_face : DOK Tryd.prog GL 98 none sd0_round_face := by
  refine dok_of (EM_ok K_nil) Tryd.func98 rfl (by kernel_rfl) (fun _ => Nat.le_of_ble_eq_true rfl) rfl fun c w d hw1 hw2 hp hn => ?_
  have hF : FrOK ⟨Tryd.prog, EM [], GM sd0_round_face c d, w, Tryd.f98.ntmps, []⟩ := ⟨EM_ok K_nil, mix⟩
  obtain ⟨d, e⟩ := d
  show seqB _ _ _ [(5, .val .nili ()), (0, .ptr 0 []), (1, .ptr 1 [])] [.box 3 (.val (.pair .bool (.pair (.sl (.u .u64)) (.pair (.i .i64) .unit))) d), .box 1 (.val (.i .i64) e)] _
  simp only [go_sem]
  refine tri_seq (tri_region hF [0, 1, 2, 9] ?_)
  simp only [go_sem]
  refine at_next (tri_cond rfl (fun hc => absurd hc (by decide)) (fun hc => ?_))
  refine tri_skip ?_
  refine at_ren [0, 1] rfl rfl ?_
  simp only [ren, ren1, renO, posOf, posAll, go_sem]
  refine at_endN (at_retG hF [] rfl rfl rfl rfl rfl rfl ?_)
  simp only [resE, retV, fitT, go_sem]
  try decide
theorem dok1_round_face (x : (Int × Unit)) : DOK Tryd.prog GL 98 (some ⟨134, (.pair (.i .i64) .unit), x⟩) (sd1_round_face x) := by
  refine dok_of (EM_ok K_nil) Tryd.func98 rfl (by kernel_rfl) (fun _ => Nat.le_of_ble_eq_true rfl) rfl fun c w d hw1 hw2 hp hn => ?_
  have hF : FrOK ⟨Tryd.prog, EM [], GM (sd1_round_face x) c d, w, Tryd.f98.ntmps, []⟩ := ⟨EM_ok K_nil, mix⟩
  obtain ⟨d, e⟩ := d
  show seqB _ _ _ [(5, .val (.ifc 134 (.pair (.i .i64) .unit)) x), (0, .ptr 0 []), (1, .ptr 1 [])] [.box 3 (.val (.pair .bool (.pair (.sl (.u .u64)) (.pair (.i .i64) .unit))) d), .box 1 (.val (.i .i64) e)] _
  simp only [go_sem]
  refine tri_seq (tri_region hF [0, 1, 2, 9] ?_)
  simp only [go_sem]
  refine at_next (tri_cond rfl (fun hc => ?_) (fun hc => absurd hc (by decide)))
  refine tri_regionN hF [] [] [.box 3 (.val (.pair .bool (.pair (.sl (.u .u64)) (.pair (.i .i64) .unit))) (false, ([] : List Nat), (0 : Int), ())), .box 1 (.val (.i .i64) x.1), .box 1 (.val (.pair (.i .i64) .unit) x)] (by decide) ?_ ?_
  · simp only [go_sem]
    unfold anyS
    intro i hi
    have hi : i = 0 ∨ i = 1 := by revert hi; revert i; decide
    rcases hi with rfl | rfl
    · simp only [go_sem]
      skip
      unfold anyS
      intro i hi
      have hi : i = 1 ∨ i = 3 := by revert hi; revert i; decide
      rcases hi with rfl | rfl
      · simp only [go_sem]
        skip
        unfold anyS
        intro i hi
        have hi : i = 2 ∨ i = 3 := by revert hi; revert i; decide
        rcases hi with rfl | rfl
        · simp only [go_sem]
          skip
          unfold anyS
          intro i hi
          have hi : i = 3 := by revert hi; revert i; decide
          subst hi
          simp only [go_sem]
          skip
          unfold anyS
          intro i hi
          have hi : i = 4 := by revert hi; revert i; decide
          subst hi
          simp only [go_sem]
          skip
          (simp only [anyS, go_sem]) <;> first | exact ⟨rfl, rfl⟩ | trivial
        · simp only [go_sem]
          skip
          unfold anyS
          intro i hi
          have hi : i = 2 := by revert hi; revert i; decide
          subst hi
          simp only [go_sem]
          skip
          unfold anyS
          intro i hi
          have hi : i = 4 := by revert hi; revert i; decide
          subst hi
          simp only [go_sem]
          skip
          (simp only [anyS, go_sem]) <;> first | exact ⟨rfl, rfl⟩ | trivial
      · simp only [go_sem]
        skip
        unfold anyS
        intro i hi
        have hi : i = 1 := by revert hi; revert i; decide
        subst hi
        simp only [go_sem]
        skip
        unfold anyS
        intro i hi
        have hi : i = 2 := by revert hi; revert i; decide
        subst hi
        simp only [go_sem]
        skip
        unfold anyS
        intro i hi
        have hi : i = 4 := by revert hi; revert i; decide
        subst hi
        simp only [go_sem]
        skip
        (simp only [anyS, go_sem]) <;> first | exact ⟨rfl, rfl⟩ | trivial
    · simp only [go_sem]
      skip
      unfold anyS
      intro i hi
      have hi : i = 0 ∨ i = 2 := by revert hi; revert i; decide
      rcases hi with rfl | rfl
      · simp only [go_sem]
        skip
        unfold anyS
        intro i hi
        have hi : i = 2 ∨ i = 3 := by revert hi; revert i; decide
        rcases hi with rfl | rfl
        · simp only [go_sem]
          skip
          unfold anyS
          intro i hi
          have hi : i = 3 := by revert hi; revert i; decide
          subst hi
          simp only [go_sem]
          skip
          unfold anyS
          intro i hi
          have hi : i = 4 := by revert hi; revert i; decide
          subst hi
          simp only [go_sem]
          skip
          (simp only [anyS, go_sem]) <;> first | exact ⟨rfl, rfl⟩ | trivial
        · simp only [go_sem]
          skip
          unfold anyS
          intro i hi
          have hi : i = 2 := by revert hi; revert i; decide
          subst hi
          simp only [go_sem]
          skip
          unfold anyS
          intro i hi
          have hi : i = 4 := by revert hi; revert i; decide
          subst hi
          simp only [go_sem]
          skip
          (simp only [anyS, go_sem]) <;> first | exact ⟨rfl, rfl⟩ | trivial
      · simp only [go_sem]
        skip
        unfold anyS
        intro i hi
        have hi : i = 0 := by revert hi; revert i; decide
        subst hi
        simp only [go_sem]
        skip
        unfold anyS
        intro i hi
        have hi : i = 3 := by revert hi; revert i; decide
        subst hi
        simp only [go_sem]
        skip
        unfold anyS
        intro i hi
        have hi : i = 4 := by revert hi; revert i; decide
        subst hi
        simp only [go_sem]
        skip
        (simp only [anyS, go_sem]) <;> first | exact ⟨rfl, rfl⟩ | trivial
  refine at_ren [0, 1] rfl rfl ?_
  simp only [ren, ren1, renO, posOf, posAll, go_sem]
  refine at_endN (at_retG hF [] rfl rfl rfl rfl rfl rfl ?_)
  simp only [resE, retV, fitT, go_sem]
  try decide
noncomputable def m_round_face__round_Quot_1 (c0 : Int) (c1 : (Bool × ((List Nat) × (Int × Unit)))) (c2 : (Bool × ((List Nat) × (Int × Unit)))) (c3 : Bool) : Option ((Bool × ((List Nat) × (Int × Unit))) × Int × Unit) :=
  (m_round_Quot_1 c0 c1 c2 c3).bind fun q => some (match q with | .inl r => (r, 0, ()) | .inr p => ((false, ([] : List Nat), (0 : Int), ()), p.1, ()))
def a_round_face__round_Quot_1 : Ty := .pair (.clo 73 (.pair (.rp (.i .i64)) (.pair (.rp (.pair .bool (.pair (.sl (.u .u64)) (.pair (.i .i64) .unit)))) (.pair (.rp (.pair .bool (.pair (.sl (.u .u64)) (.pair (.i .i64) .unit)))) (.pair (.rp .bool) .unit))))) .unit
noncomputable def sm_round_face__round_Quot_1 : FSpec := mSpec a_round_face__round_Quot_1 (.tup (.pair (.pair .bool (.pair (.sl (.u .u64)) (.pair (.i .i64) .unit))) (.pair (.i .i64) .unit))) (fun x => m_round_face__round_Quot_1 x.1.1 x.1.2.1 x.1.2.2.1 x.1.2.2.2.1)
set_option maxHeartbeats 4000000 in
theorem om_round_face__round_Quot_1 : FOK Tryd.prog GL 72 sm_round_face__round_Quot_1 := by
 refine fokD_model (EM_ok K_nil) Tryd.func72 rfl (by kernel_rfl) (by decide) fun w0 S x r hw h => ?_
 have hF : FrOK (fr Tryd.prog (EM []) S w0 Tryd.f72.ntmps) := ⟨EM_ok K_nil, mix⟩
 obtain ⟨⟨(c0 : Int), (c1 : (Bool × ((List Nat) × (Int × Unit)))), (c2 : (Bool × ((List Nat) × (Int × Unit)))), (c3 : Bool), u1⟩, u⟩ := x
 replace h : m_round_face__round_Quot_1 c0 c1 c2 c3 = some r := h
 show Tri _ _ _ [(0, .val (.clo 73 (.pair (.rp (.i .i64)) (.pair (.rp (.pair .bool (.pair (.sl (.u .u64)) (.pair (.i .i64) .unit)))) (.pair (.rp (.pair .bool (.pair (.sl (.u .u64)) (.pair (.i .i64) .unit)))) (.pair (.rp .bool) .unit))))) (c0, c1, c2, c3, u1))] []
 unfold m_round_face__round_Quot_1 at h
 obtain ⟨q, hq, h⟩ := bind_some h
 obtain rfl := Option.some.inj h
 refine tri_seq (tri_regionB hF [0, 2, 3] ?_)
 simp only [go_sem]
 refine at_next (tri_seq_defer 2 [0, 1] rfl rfl (Nat.zero_le _) (by decide) fun roots hroots => ?_)
 have hF' : FrOK { fr Tryd.prog (EM []) S w0 Tryd.f72.ntmps with M := ⟨nothing, S, 2, roots⟩, ds := [⟨.fn (.func 98) ([0, 1].map roots).toArray, #[]⟩] } := ⟨EM_ok K_nil, mix⟩
 rcases q with q | q
 ·refine tri_seq (tri_regionP hF' (hits_of (l := [(73, ⟨sg_round_Quot_1, [], (c0, c1, c2, c3, .inl q)⟩)]) (.cons og_round_Quot_1 (by kernel_rfl) .nil)) [2, 3] [] ?_)
  simp only [go_sem]
  refine ⟨hq, ?_⟩
  refine at_next (tri_ret ?_)
  refine at_retD (fn := Tryd.f72) (k := 2) (l2 := [0, 1]) hF' rfl rfl (by decide) rfl (fn_of_B (by kernel_rfl)) ⟨sd0_round_face, [0, 1], (q, 0)⟩ dok0_round_face rfl [.cell 2 28, .cell 3 3] rfl ?_ ?_
  ·(simp only [sd0_round_face, go_sem]) <;> first | decide | trivial
  ·(simp only [sd0_round_face, resE, retOK, go_sem]) <;> first | decide | trivial
 ·refine tri_seq (tri_regionP hF' (hits_of (l := [(73, ⟨sg_round_Quot_1, [], (c0, c1, c2, c3, .inr q)⟩)]) (.cons og_round_Quot_1 (by kernel_rfl) .nil)) [2, 3] [] ?_)
  simp only [go_sem]
  refine ⟨hq, ?_⟩
  refine atP_then ?_
  refine at_panD (fn := Tryd.f72) (k := 2) (l2 := [0, 1]) hF' rfl rfl (by decide) rfl (fn_of_B (by kernel_rfl)) ⟨sd1_round_face q, [0, 1], ((false, ([] : List Nat), (0 : Int), ()), 0)⟩ (dok1_round_face q) rfl [.cell 2 28, .cell 3 3] rfl ?_ ?_
  ·(simp only [sd1_round_face, go_sem]) <;> first | decide | trivial
  ·(simp only [sd1_round_face, resE, retOK, go_sem]) <;> first | decide | trivial
attribute [go_sem] sm_round_face__round_Quot_1 a_round_face__round_Quot_1
noncomputable def m_round_Quot (a_0 : (Bool × ((List Nat) × (Int × Unit)))) (b_1 : (Bool × ((List Nat) × (Int × Unit)))) (p_2 : Int) (up_3 : Bool) : Option ((Bool × ((List Nat) × (Int × Unit))) × (Int × Unit)) :=
  ck (((m_round_face__round_Quot_1 p_2 a_0 b_1 up_3).isSome = true)) (some ((((m_round_face__round_Quot_1 p_2 a_0 b_1 up_3).getD ((false, ([] : List Nat), (0 : Int), ()), (0 : Int), ())).1), ((((m_round_face__round_Quot_1 p_2 a_0 b_1 up_3).getD ((false, ([] : List Nat), (0 : Int), ()), (0 : Int), ())).2).1), ()))
def a_round_Quot : Ty := .pair (.pair .bool (.pair (.sl (.u .u64)) (.pair (.i .i64) .unit))) (.pair (.pair .bool (.pair (.sl (.u .u64)) (.pair (.i .i64) .unit))) (.pair (.i .i64) (.pair .bool .unit)))
attribute [go_sem] a_round_Quot
noncomputable def sm_round_Quot : FSpec := mSpec a_round_Quot (.tup (.pair (.pair .bool (.pair (.sl (.u .u64)) (.pair (.i .i64) .unit))) (.pair (.i .i64) .unit))) (fun x => m_round_Quot x.1 x.2.1 x.2.2.1 x.2.2.2.1)
noncomputable def l_round_Quot : List (FuncId × FSpec) := [(72, sm_round_face__round_Quot_1)]
theorem K_round_Quot : Known Tryd.prog GL l_round_Quot := .cons om_round_face__round_Quot_1 (by kernel_rfl) (.nil)
theorem l_round_Quot_72 : gam l_round_Quot 72 = some sm_round_face__round_Quot_1 := rfl
attribute [go_sem] l_round_Quot_72
set_option maxHeartbeats 4000000 in
theorem om_round_Quot : FOK Tryd.prog GL 42 sm_round_Quot := by
 refine fok_model (EM_ok K_round_Quot) Tryd.func42 rfl (by kernel_rfl) (by decide) fun w0 S x r hw h => ?_
 have hF : FrOK (fr Tryd.prog (EM l_round_Quot) S w0 Tryd.f42.ntmps) := ⟨EM_ok K_round_Quot, mix⟩
 obtain ⟨(a_0 : (Bool × ((List Nat) × (Int × Unit)))), (b_1 : (Bool × ((List Nat) × (Int × Unit)))), (p_2 : Int), (up_3 : Bool), u⟩ := x
 simp only [a_round_Quot, Ty.wf, fits64] at hw
 simp only [args0, a_round_Quot]
 try dsimp only at h
 unfold m_round_Quot at h
 refine tri_seq (tri_regionB hF [4, 5, 6, 7, 8] ?_)
 simp only [go_sem]
 refine at_next (tri_seq (tri_shut 2 rfl ?_))
 simp only [go_sem]
 refine tri_shut 0 rfl ?_
 simp only [go_sem]
 refine tri_shut 1 rfl ?_
 simp only [go_sem]
 refine tri_shut 3 rfl ?_
 simp only [go_sem]
 refine tri_regionB hF [8, 9] ?_
 simp only [go_sem]
 obtain ⟨g0, h⟩ := ck_some h
 repeat (refine ⟨by first | with_reducible assumption | omega | (intros; first | assumption | omega) | (simp only [go_sem] at *; first | assumption | omega) | decide, ?_⟩)
 obtain rfl := Option.some.inj h
 refine at_next (tri_ret (at_retC hF [.cell 8 28, .tmp 9] rfl rfl rfl ?_))
 (try simp only [retOK, resE, go_sem]) <;> first | rfl | (simp; done)
attribute [go_sem] sm_round_Quot
end Nu
end Go.Proofs
namespace Go.Proofs
open Go.Vc
set_option maxRecDepth 20000
namespace Nu
noncomputable def m_istrconv_Atoi_j1 : Option ((Int × (Unit × Unit))) :=
  none
noncomputable def m_istrconv_Atoi_j3 (s_0 : (List Nat)) (n_14 : Int) : Option ((Int × (Unit × Unit))) :=
  ck ((0 : Int) < (((s_0.length) : Nat) : Int)) (if (s_0.getD (0 : Nat) (0 : Nat)) = (45 : Nat) then ck (I64 (0 - n_14)) (some ((0 - n_14), (), ())) else some (n_14, (), ()))
noncomputable def m_istrconv_Atoi_l10 (s_9 : (List Nat)) (n_15 : Int) (x49_16 : Int) : Option ((Int × Int) ⊕ ((Int) ⊕ (Int × (Unit × Unit)))) :=
  if x49_16 < (((s_9.length) : Nat) : Int) then ck (0 ≤ x49_16 ∧ x49_16 < (((s_9.length) : Nat) : Int)) (if (9 : Nat) < (subU .u8 (s_9.getD (x49_16.toNat) (0 : Nat)) (48 : Nat)) then none else ck (I64 (n_15 * (10 : Int))) (ck (I64 ((n_15 * (10 : Int)) + (((subU .u8 (s_9.getD (x49_16.toNat) (0 : Nat)) (48 : Nat)) : Nat) : Int))) (ck (I64 (x49_16 + (1 : Int))) (some (.inl (((n_15 * (10 : Int)) + (((subU .u8 (s_9.getD (x49_16.toNat) (0 : Nat)) (48 : Nat)) : Nat) : Int)), (x49_16 + (1 : Int)))))))) else some (.inr (.inl n_15))
noncomputable def m_istrconv_Atoi_j2 (s_0 : (List Nat)) (s_9 : (List Nat)) : Option ((Int × (Unit × Unit))) :=
  (loopO (fun d : Int × Int => m_istrconv_Atoi_l10 s_9 d.1 d.2) ((0 : Int), (0 : Int))).bind (fun e => match e with | (.inl e) => m_istrconv_Atoi_j3 s_0 e | (.inr e) => some e)
noncomputable def m_istrconv_Atoi (s_0 : (List Nat)) : Option (Int × (Unit × Unit)) :=
  if ((False) ∧ (((0 : Int) < (((s_0.length) : Nat) : Int)) ∧ ((((s_0.length) : Nat) : Int) < (10 : Int)))) ∨ ((True) ∧ (((0 : Int) < (((s_0.length) : Nat) : Int)) ∧ ((((s_0.length) : Nat) : Int) < (19 : Int)))) then ck ((0 : Int) < (((s_0.length) : Nat) : Int)) (ck ((¬ ((s_0.getD (0 : Nat) (0 : Nat)) = (45 : Nat)) → ((0 : Int) < (((s_0.length) : Nat) : Int)))) (if ((s_0.getD (0 : Nat) (0 : Nat)) = (45 : Nat)) ∨ ((s_0.getD (0 : Nat) (0 : Nat)) = (43 : Nat)) then ck ((1 : Int) ≤ (((s_0.length) : Nat) : Int)) (if ((((List.drop (1 : Nat) s_0).length) : Nat) : Int) < (1 : Int) then none else m_istrconv_Atoi_j2 s_0 (List.drop (1 : Nat) s_0)) else m_istrconv_Atoi_j2 s_0 s_0)) else m_istrconv_Atoi_j1
def a_istrconv_Atoi : Ty := .pair .str .unit
attribute [go_sem] a_istrconv_Atoi
noncomputable def sm_istrconv_Atoi : FSpec := mSpec a_istrconv_Atoi (.tup (.pair (.i .i64) (.pair .nili .unit))) (fun x => m_istrconv_Atoi x.1)
noncomputable def l_istrconv_Atoi : List (FuncId × FSpec) := []
theorem K_istrconv_Atoi : Known Tryd.prog GL l_istrconv_Atoi := .nil
set_option maxHeartbeats 4000000 in
theorem om_istrconv_Atoi : FOK Tryd.prog GL 99 sm_istrconv_Atoi := by
 refine fok_model (EM_ok K_istrconv_Atoi) Tryd.func99 rfl (by kernel_rfl) (by decide) fun w0 S x r hw h => ?_
 have hF : FrOK (fr Tryd.prog (EM l_istrconv_Atoi) S w0 Tryd.f99.ntmps) := ⟨EM_ok K_istrconv_Atoi, mix⟩
 obtain ⟨(s_0 : (List Nat)), u⟩ := x
 simp only [a_istrconv_Atoi, Ty.wf, fits64] at hw
 simp only [args0, a_istrconv_Atoi]
 try dsimp only at h
 unfold m_istrconv_Atoi at h
 refine tri_seq (tri_region hF [0] ?_)
 simp only [go_sem]
 refine at_next (tri_seq (tri_region hF [0, 4] ?_))
 simp only [go_sem]
 refine at_next (tri_joinM (D := Unit) (fun d => m_istrconv_Atoi_j1 = some r) [0] (fun d => []) (fun d => []) ?_ ?_)
 ·refine tri_seq (tri_region hF [0, 30] ?_)
  simp only [go_sem]
  refine at_next (tri_cond rfl (fun hc => ?_) (fun hc => ?_))
  ·try simp only [go_sem] at hc
   have h := ite_T (by first | exact hc | omega | (simpa using hc) | (simp at hc ⊢; omega)) h
   refine tri_seq (tri_region hF [0, 5] ?_)
   simp only [go_sem]
   refine at_next (tri_joinM (D := (List Nat)) (fun d => m_istrconv_Atoi_j2 s_0 d = some r) [5] (fun d => [(0, .val .str d)]) (fun d => []) ?_ ?_)
   ·refine tri_seq (tri_region hF [0, 5, 39] ?_)
    simp only [go_sem]
    obtain ⟨g0, h⟩ := ck_some h
    obtain ⟨g1, h⟩ := ck_some h
    repeat (refine ⟨by first | with_reducible assumption | omega | (intros; first | assumption | omega) | (simp only [go_sem] at *; first | assumption | omega) | (intro q0; (try have e1 := g1 (by first | exact q0 | omega | (simpa using q0))); first | assumption | omega) | decide, ?_⟩)
    refine at_next (tri_cond rfl (fun hc => ?_) (fun hc => ?_))
    ·try simp only [go_sem] at hc
     have h := ite_T (by first | exact hc | omega | (simpa using hc) | (simp at hc ⊢; omega)) h
     refine tri_seq (tri_region hF [0, 5] ?_)
     simp only [go_sem]
     obtain ⟨g0, h⟩ := ck_some h
     repeat (refine ⟨by first | with_reducible assumption | omega | (intros; first | assumption | omega) | (simp only [go_sem] at *; first | assumption | omega) | decide, ?_⟩)
     refine at_next (tri_seq (tri_region hF [0, 5, 44] ?_))
     simp only [go_sem]
     refine at_next (tri_cond rfl (fun hc => ?_) (fun hc => ?_))
     ·try simp only [go_sem] at hc
      have h := ite_T (by first | exact hc | omega | (simpa using hc) | (simp at hc ⊢; omega)) h
      refine tri_seq (tri_region hF [2, 3] ?_)
      simp only [go_sem]
      cases h
     ·try simp only [go_sem] at hc
      have h := ite_F (by first | exact hc | omega | (simpa using hc) | (simp at hc ⊢; omega)) h
      refine tri_skip (at_then_norm (at_fit ((List.drop (1 : Nat) s_0)) h rfl ?_))
      ·(try simp only [fitE, fitV, true_or, and_self, go_sem]) <;> (repeat' apply And.intro) <;> first | rfl | (left; rfl) | (right; rfl) | (left; simp only [go_sem]; done) | (right; simp only [go_sem]; done) | (simp; done) | (simp only [*]; done) | omega
    ·try simp only [go_sem] at hc
     have h := ite_F (by first | exact hc | omega | (simpa using hc) | (simp at hc ⊢; omega)) h
     refine tri_skip (at_then_norm (at_fit (s_0) h rfl ?_))
     ·(try simp only [fitE, fitV, true_or, and_self, go_sem]) <;> (repeat' apply And.intro) <;> first | rfl | (left; rfl) | (right; rfl) | (left; simp only [go_sem]; done) | (right; simp only [go_sem]; done) | (simp; done) | (simp only [*]; done) | omega
   ·rintro s_9 h
    try dsimp only at h
    simp only [go_sem]
    unfold m_istrconv_Atoi_j2 at h
    refine tri_seq (tri_region hF [0, 5, 6] ?_)
    simp only [go_sem]
    refine at_next (tri_joinM (D := Int) (fun d => m_istrconv_Atoi_j3 s_0 d = some r) [5] (fun d => [(6, .val (.i .i64) d)]) (fun d => []) ?_ ?_)
    ·refine tri_seq (tri_region hF [5, 6, 47, 48, 49] ?_)
     simp only [go_sem]
     refine at_next (tri_block (tri_loopM (D := Int × Int) [5, 47, 48] (fun d => [(6, .val (.i .i64) d.1), (49, .val (.i .i64) d.2)]) (fun d => []) h ?_ ?_ ?_))
     ·first | rfl | (simp only [go_sem]; done)
     ·(try simp only [fitE, fitV, true_or, and_self, go_sem]) <;> (repeat' apply And.intro) <;> first | rfl | (left; rfl) | (right; rfl) | (left; simp only [go_sem]; done) | (right; simp only [go_sem]; done) | (simp; done) | (simp only [*]; done) | omega
     rintro ⟨n_15, x49_16⟩ s10 h hs10
     simp only [go_sem]
     try dsimp only at h
     unfold m_istrconv_Atoi_l10 at h
     refine tri_seq (tri_region hF [5, 6, 47, 48, 49, 50] ?_)
     simp only [go_sem]
     refine at_next (tri_seq (tri_cond rfl (fun hc => ?_) (fun hc => ?_)))
     ·try simp only [go_sem] at hc
      have h := ite_T (by first | exact hc | omega | (simpa using hc) | (simp at hc ⊢; omega)) h
      refine tri_skip (at_next (tri_seq (tri_block (tri_seq (tri_region hF [5, 6, 8, 47, 48, 49] ?_)))))
      simp only [go_sem]
      obtain ⟨g0, h⟩ := ck_some h
      repeat (refine ⟨by first | with_reducible assumption | omega | (intros; first | assumption | omega) | (simp only [go_sem] at *; first | assumption | omega) | decide, ?_⟩)
      refine at_next (tri_seq (tri_region hF [5, 6, 8, 47, 48, 49] ?_))
      simp only [go_sem]
      refine at_next (tri_seq (tri_seq (tri_region hF [5, 6, 8, 47, 48, 49, 56] ?_)))
      simp only [go_sem]
      refine at_next (tri_cond rfl (fun hc => ?_) (fun hc => ?_))
      ·try simp only [go_sem] at hc
       have h := ite_T (by first | exact hc | omega | (simpa using hc) | (simp at hc ⊢; omega)) h
       refine tri_seq (tri_region hF [2, 3] ?_)
       simp only [go_sem]
       cases h
      ·try simp only [go_sem] at hc
       have h := ite_F (by first | exact hc | omega | (simpa using hc) | (simp at hc ⊢; omega)) h
       refine tri_skip (at_next (tri_region hF [5, 6, 47, 48, 49] ?_))
       simp only [go_sem]
       obtain ⟨g0, h⟩ := ck_some h
       obtain ⟨g1, h⟩ := ck_some h
       try simp only [I64, I32] at g0
       try simp only [I64, I32] at g1
       repeat (refine ⟨by first | with_reducible assumption | omega | (intros; first | assumption | omega) | (simp only [go_sem] at *; first | assumption | omega) | decide, ?_⟩)
       refine at_block_norm (at_next (tri_region hF [5, 6, 47, 48, 49] ?_))
       simp only [go_sem]
       obtain ⟨g0, h⟩ := ck_some h
       try simp only [I64, I32] at g0
       repeat (refine ⟨by first | with_reducible assumption | omega | (intros; first | assumption | omega) | (simp only [go_sem] at *; first | assumption | omega) | decide, ?_⟩)
       obtain rfl := Option.some.inj h
       dsimp only [stepQ] at hs10
       refine at_then_norm (at_fit ((((n_15 * (10 : Int)) + (((subU .u8 (s_9.getD (x49_16.toNat) (0 : Nat)) (48 : Nat)) : Nat) : Int)), (x49_16 + (1 : Int)))) hs10 rfl ?_)
       ·(try simp only [fitE, fitV, true_or, and_self, go_sem]) <;> (repeat' apply And.intro) <;> first | rfl | (left; rfl) | (right; rfl) | (left; simp only [go_sem]; done) | (right; simp only [go_sem]; done) | (simp; done) | (simp only [*]; done) | omega
     ·try simp only [go_sem] at hc
      have h := ite_F (by first | exact hc | omega | (simpa using hc) | (simp at hc ⊢; omega)) h
      obtain rfl := Option.some.inj h
      dsimp only [stepQ] at hs10
      have h := hs10
      try dsimp only at h
      refine tri_exit (at_then_exit (at_then_exit (at_block_exit (at_then_norm (at_fit (n_15) h rfl ?_)))))
      ·(try simp only [fitE, fitV, true_or, and_self, go_sem]) <;> (repeat' apply And.intro) <;> first | rfl | (left; rfl) | (right; rfl) | (left; simp only [go_sem]; done) | (right; simp only [go_sem]; done) | (simp; done) | (simp only [*]; done) | omega
    ·rintro n_14 h
     try dsimp only at h
     simp only [go_sem]
     unfold m_istrconv_Atoi_j3 at h
     refine tri_seq (tri_seq (tri_region hF [6, 66] ?_))
     simp only [go_sem]
     obtain ⟨g0, h⟩ := ck_some h
     repeat (refine ⟨by first | with_reducible assumption | omega | (intros; first | assumption | omega) | (simp only [go_sem] at *; first | assumption | omega) | decide, ?_⟩)
     refine at_next (tri_cond rfl (fun hc => ?_) (fun hc => ?_))
     ·try simp only [go_sem] at hc
      have h := ite_T (by first | exact hc | omega | (simpa using hc) | (simp at hc ⊢; omega)) h
      refine tri_region hF [6] ?_
      simp only [go_sem]
      obtain ⟨g0, h⟩ := ck_some h
      try simp only [I64, I32] at g0
      repeat (refine ⟨by first | with_reducible assumption | omega | (intros; first | assumption | omega) | (simp only [go_sem] at *; first | assumption | omega) | decide, ?_⟩)
      refine at_next (tri_seq (tri_region hF [2, 3] ?_))
      simp only [go_sem]
      obtain rfl := Option.some.inj h
      refine at_next (tri_ret (at_then_ret (at_retC hF [.tmp 2, .tmp 3] rfl rfl rfl ?_)))
      (try simp only [retOK, resE, go_sem]) <;> first | rfl | (simp; done)
     ·try simp only [go_sem] at hc
      have h := ite_F (by first | exact hc | omega | (simpa using hc) | (simp at hc ⊢; omega)) h
      refine tri_skip (at_next (tri_seq (tri_region hF [2, 3] ?_)))
      simp only [go_sem]
      obtain rfl := Option.some.inj h
      refine at_next (tri_ret (at_then_ret (at_retC hF [.tmp 2, .tmp 3] rfl rfl rfl ?_)))
      (try simp only [retOK, resE, go_sem]) <;> first | rfl | (simp; done)
  ·try simp only [go_sem] at hc
   have h := ite_F (by first | exact hc | omega | (simpa using hc) | (simp at hc ⊢; omega)) h
   refine tri_skip (at_then_norm (at_fit (()) h rfl ?_))
   ·(try simp only [fitE, fitV, true_or, and_self, go_sem]) <;> (repeat' apply And.intro) <;> first | rfl | (left; rfl) | (right; rfl) | (left; simp only [go_sem]; done) | (right; simp only [go_sem]; done) | (simp; done) | (simp only [*]; done) | omega
 ·rintro u h
  try dsimp only at h
  simp only [go_sem]
  unfold m_istrconv_Atoi_j1 at h
  cases h
attribute [go_sem] sm_istrconv_Atoi
noncomputable def m_strconv_Atoi (s_0 : (List Nat)) : Option (Int × (Unit × Unit)) :=
  ck (((m_istrconv_Atoi s_0).isSome = true)) (some ((((m_istrconv_Atoi s_0).getD ((0 : Int), (), ())).1), (), ()))
def a_strconv_Atoi : Ty := .pair .str .unit
attribute [go_sem] a_strconv_Atoi
noncomputable def sm_strconv_Atoi : FSpec := mSpec a_strconv_Atoi (.tup (.pair (.i .i64) (.pair .nili .unit))) (fun x => m_strconv_Atoi x.1)
noncomputable def l_strconv_Atoi : List (FuncId × FSpec) := [(99, sm_istrconv_Atoi)]
theorem K_strconv_Atoi : Known Tryd.prog GL l_strconv_Atoi := .cons om_istrconv_Atoi (by kernel_rfl) (.nil)
theorem l_strconv_Atoi_99 : gam l_strconv_Atoi 99 = some sm_istrconv_Atoi := rfl
attribute [go_sem] l_strconv_Atoi_99
set_option maxHeartbeats 4000000 in
theorem om_strconv_Atoi : FOK Tryd.prog GL 79 sm_strconv_Atoi := by
 refine fok_model (EM_ok K_strconv_Atoi) Tryd.func79 rfl (by kernel_rfl) (by decide) fun w0 S x r hw h => ?_
 have hF : FrOK (fr Tryd.prog (EM l_strconv_Atoi) S w0 Tryd.f79.ntmps) := ⟨EM_ok K_strconv_Atoi, mix⟩
 obtain ⟨(s_0 : (List Nat)), u⟩ := x
 simp only [a_strconv_Atoi, Ty.wf, fits64] at hw
 simp only [args0, a_strconv_Atoi]
 try dsimp only at h
 unfold m_strconv_Atoi at h
 refine tri_seq (tri_region hF [0] ?_)
 simp only [go_sem]
 refine at_next (tri_seq (tri_region hF [0, 4, 5] ?_))
 simp only [go_sem]
 obtain ⟨g0, h⟩ := ck_some h
 repeat (refine ⟨by first | with_reducible assumption | omega | (intros; first | assumption | omega) | (simp only [go_sem] at *; first | assumption | omega) | decide, ?_⟩)
 refine at_next (tri_seq (tri_seq (tri_region hF [0, 4, 5, 12] ?_)))
 simp only [go_sem]
 refine at_next (tri_cond rfl (fun hc => ?_) (fun hc => ?_))
 ·exact absurd hc (by decide)
 ·refine tri_skip (at_next (tri_seq (tri_region hF [2, 3] ?_)))
  simp only [go_sem]
  obtain rfl := Option.some.inj h
  refine at_next (tri_ret (at_retC hF [.tmp 2, .tmp 3] rfl rfl rfl ?_))
  (try simp only [retOK, resE, go_sem]) <;> first | rfl | (simp; done)
attribute [go_sem] sm_strconv_Atoi
noncomputable def m_dec_digits_l2 (at_1 : Int) (s_0 : (List Nat)) (n_5 : Int) : Option ((Int) ⊕ ((Int))) :=
  ck (I64 (at_1 + n_5)) (ck ((((at_1 + n_5) < (((s_0.length) : Nat) : Int)) → (I64 (at_1 + n_5)))) (ck ((((at_1 + n_5) < (((s_0.length) : Nat) : Int)) → (0 ≤ (at_1 + n_5) ∧ (at_1 + n_5) < (((s_0.length) : Nat) : Int)))) (ck (((((at_1 + n_5) < (((s_0.length) : Nat) : Int)) ∧ ((48 : Nat) ≤ (s_0.getD ((at_1 + n_5).toNat) (0 : Nat)))) → (I64 (at_1 + n_5)))) (ck (((((at_1 + n_5) < (((s_0.length) : Nat) : Int)) ∧ ((48 : Nat) ≤ (s_0.getD ((at_1 + n_5).toNat) (0 : Nat)))) → (0 ≤ (at_1 + n_5) ∧ (at_1 + n_5) < (((s_0.length) : Nat) : Int)))) (if (((at_1 + n_5) < (((s_0.length) : Nat) : Int)) ∧ ((48 : Nat) ≤ (s_0.getD ((at_1 + n_5).toNat) (0 : Nat)))) ∧ ((s_0.getD ((at_1 + n_5).toNat) (0 : Nat)) ≤ (57 : Nat)) then ck (I64 (n_5 + (1 : Int))) (some (.inl (n_5 + (1 : Int)))) else some (.inr n_5))))))
noncomputable def m_dec_digits (s_0 : (List Nat)) (at_1 : Int) : Option Int :=
  (loopO (fun d : Int => m_dec_digits_l2 at_1 s_0 d) (0 : Int)).bind (fun e => some e)
def a_dec_digits : Ty := .pair .str (.pair (.i .i64) .unit)
attribute [go_sem] a_dec_digits
noncomputable def sm_dec_digits : FSpec := mSpec a_dec_digits (.one (.i .i64)) (fun x => m_dec_digits x.1 x.2.1)
noncomputable def l_dec_digits : List (FuncId × FSpec) := []
theorem K_dec_digits : Known Tryd.prog GL l_dec_digits := .nil
set_option maxHeartbeats 4000000 in
theorem om_dec_digits : FOK Tryd.prog GL 78 sm_dec_digits := by
 refine fok_model (EM_ok K_dec_digits) Tryd.func78 rfl (by kernel_rfl) (by decide) fun w0 S x r hw h => ?_
 have hF : FrOK (fr Tryd.prog (EM l_dec_digits) S w0 Tryd.f78.ntmps) := ⟨EM_ok K_dec_digits, mix⟩
 obtain ⟨(s_0 : (List Nat)), (at_1 : Int), u⟩ := x
 simp only [a_dec_digits, Ty.wf, fits64] at hw
 simp only [args0, a_dec_digits]
 try dsimp only at h
 unfold m_dec_digits at h
 refine tri_seq (tri_region hF [0, 1] ?_)
 simp only [go_sem]
 refine at_next (tri_seq (tri_region hF [0, 1, 5] ?_))
 simp only [go_sem]
 refine at_next (tri_seq (tri_block (tri_loopM (D := Int) [0, 1] (fun d => [(5, .val (.i .i64) d)]) (fun d => []) h ?_ ?_ ?_)))
 ·first | rfl | (simp only [go_sem]; done)
 ·(try simp only [fitE, fitV, true_or, and_self, go_sem]) <;> (repeat' apply And.intro) <;> first | rfl | (left; rfl) | (right; rfl) | (left; simp only [go_sem]; done) | (right; simp only [go_sem]; done) | (simp; done) | (simp only [*]; done) | omega
 rintro n_5 s2 h hs2
 simp only [go_sem]
 try dsimp only at h
 unfold m_dec_digits_l2 at h
 refine tri_seq (tri_seq (tri_region hF [0, 1, 5, 27] ?_))
 simp only [go_sem]
 obtain ⟨g0, h⟩ := ck_some h
 obtain ⟨g1, h⟩ := ck_some h
 obtain ⟨g2, h⟩ := ck_some h
 obtain ⟨g3, h⟩ := ck_some h
 obtain ⟨g4, h⟩ := ck_some h
 try simp only [I64, I32] at g0
 try simp only [I64, I32] at g1
 try simp only [I64, I32] at g3
 repeat (refine ⟨by first | with_reducible assumption | omega | (intros; first | assumption | omega) | (simp only [go_sem] at *; first | assumption | omega) | (intro q0; (try have e1 := g1 (by first | exact q0 | omega | (simpa using q0))); (try have e2 := g2 (by first | exact q0 | omega | (simpa using q0))); (try have e3 := g3 (by first | exact q0 | omega | (simpa using q0))); (try have e4 := g4 (by first | exact q0 | omega | (simpa using q0))); first | assumption | omega) | decide, ?_⟩)
 refine at_next (tri_cond rfl (fun hc => ?_) (fun hc => ?_))
 ·try simp only [go_sem] at hc
  have h := ite_T (by first | exact hc | omega | (simpa using hc) | (simp at hc ⊢; omega)) h
  refine tri_skip (at_next (tri_block (tri_region hF [0, 1, 5] ?_)))
  simp only [go_sem]
  obtain ⟨g0, h⟩ := ck_some h
  try simp only [I64, I32] at g0
  repeat (refine ⟨by first | with_reducible assumption | omega | (intros; first | assumption | omega) | (simp only [go_sem] at *; first | assumption | omega) | decide, ?_⟩)
  obtain rfl := Option.some.inj h
  dsimp only [stepQ] at hs2
  refine at_block_norm (at_then_norm (at_fit ((n_5 + (1 : Int))) hs2 rfl ?_))
  ·(try simp only [fitE, fitV, true_or, and_self, go_sem]) <;> (repeat' apply And.intro) <;> first | rfl | (left; rfl) | (right; rfl) | (left; simp only [go_sem]; done) | (right; simp only [go_sem]; done) | (simp; done) | (simp only [*]; done) | omega
 ·try simp only [go_sem] at hc
  have h := ite_F (by first | exact hc | omega | (simpa using hc) | (simp at hc ⊢; omega)) h
  obtain rfl := Option.some.inj h
  dsimp only [stepQ] at hs2
  have h := hs2
  try dsimp only at h
  refine tri_exit (at_then_exit (at_then_exit (at_block_exit (at_next (tri_seq (tri_region hF [4] ?_))))))
  simp only [go_sem]
  obtain rfl := Option.some.inj h
  refine at_next (tri_ret (at_retC hF [.tmp 4] rfl rfl rfl ?_))
  (try simp only [retOK, resE, go_sem]) <;> first | rfl | (simp; done)
attribute [go_sem] sm_dec_digits
noncomputable def m_dec_power_l3 (n_1 : Int) (b_0 : Nat) (m_7 : (List Nat)) (x8_8 : Int) : Option (((List Nat) × Int) ⊕ (((List Nat)))) :=
  if x8_8 < n_1 then ck ((pSz2 m_7 ([b_0] : List Nat))) (ck (I64 (x8_8 + (1 : Int))) (some (.inl ((f_nat_Times m_7 ([b_0] : List Nat)), (x8_8 + (1 : Int)))))) else some (.inr m_7)
noncomputable def m_dec_power (b_0 : Nat) (n_1 : Int) : Option (List Nat) :=
  (loopO (fun d : (List Nat) × Int => m_dec_power_l3 n_1 b_0 d.1 d.2) (([1] : List Nat), (0 : Int))).bind (fun e => some e)
def a_dec_power : Ty := .pair (.u .u64) (.pair (.i .i64) .unit)
attribute [go_sem] a_dec_power
noncomputable def sm_dec_power : FSpec := mSpec a_dec_power (.one (.sl (.u .u64))) (fun x => m_dec_power x.1 x.2.1)
noncomputable def l_dec_power : List (FuncId × FSpec) := [(31, sp_nat_Times)]
theorem K_dec_power : Known Tryd.prog GL l_dec_power := .cons ok_nat_Times (by kernel_rfl) (.nil)
theorem l_dec_power_31 : gam l_dec_power 31 = some sp_nat_Times := rfl
attribute [go_sem] l_dec_power_31
set_option maxHeartbeats 4000000 in
theorem om_dec_power : FOK Tryd.prog GL 33 sm_dec_power := by
 refine fok_model (EM_ok K_dec_power) Tryd.func33 rfl (by kernel_rfl) (by decide) fun w0 S x r hw h => ?_
 have hF : FrOK (fr Tryd.prog (EM l_dec_power) S w0 Tryd.f33.ntmps) := ⟨EM_ok K_dec_power, mix⟩
 obtain ⟨(b_0 : Nat), (n_1 : Int), u⟩ := x
 simp only [a_dec_power, Ty.wf, fits64] at hw
 simp only [args0, a_dec_power]
 try dsimp only at h
 unfold m_dec_power at h
 refine tri_seq (tri_region hF [0, 1] ?_)
 simp only [go_sem]
 refine at_next (tri_seq (tri_region hF [0, 1, 5] ?_))
 simp only [go_sem]
 refine at_next (tri_seq (tri_seq (tri_region hF [0, 5, 7, 8] ?_)))
 simp only [go_sem]
 refine at_next (tri_block (tri_loopM (D := (List Nat) × Int) [0, 7] (fun d => [(5, .val (.sl (.u .u64)) d.1), (8, .val (.i .i64) d.2)]) (fun d => []) h ?_ ?_ ?_))
 ·first | rfl | (simp only [go_sem]; done)
 ·(try simp only [fitE, fitV, true_or, and_self, go_sem]) <;> (repeat' apply And.intro) <;> first | rfl | (left; rfl) | (right; rfl) | (left; simp only [go_sem]; done) | (right; simp only [go_sem]; done) | (simp; done) | (simp only [*]; done) | omega
 rintro ⟨m_7, x8_8⟩ s3 h hs3
 simp only [go_sem]
 try dsimp only at h
 unfold m_dec_power_l3 at h
 refine tri_seq (tri_region hF [0, 5, 7, 8, 9] ?_)
 simp only [go_sem]
 refine at_next (tri_seq (tri_cond rfl (fun hc => ?_) (fun hc => ?_)))
 ·try simp only [go_sem] at hc
  have h := ite_T (by first | exact hc | omega | (simpa using hc) | (simp at hc ⊢; omega)) h
  refine tri_skip (at_next (tri_seq (tri_block (tri_region hF [0, 5, 7, 8] ?_))))
  simp only [go_sem]
  obtain ⟨g0, h⟩ := ck_some h
  repeat (refine ⟨by first | with_reducible assumption | omega | (intros; first | assumption | omega) | (simp only [go_sem] at *; first | assumption | omega) | decide, ?_⟩)
  refine at_block_norm (at_next (tri_region hF [0, 5, 7, 8] ?_))
  simp only [go_sem]
  obtain ⟨g0, h⟩ := ck_some h
  try simp only [I64, I32] at g0
  repeat (refine ⟨by first | with_reducible assumption | omega | (intros; first | assumption | omega) | (simp only [go_sem] at *; first | assumption | omega) | decide, ?_⟩)
  obtain rfl := Option.some.inj h
  dsimp only [stepQ] at hs3
  refine at_then_norm (at_fit (((f_nat_Times m_7 ([b_0] : List Nat)), (x8_8 + (1 : Int)))) hs3 rfl ?_)
  ·(try simp only [fitE, fitV, true_or, and_self, go_sem]) <;> (repeat' apply And.intro) <;> first | rfl | (left; rfl) | (right; rfl) | (left; simp only [go_sem]; done) | (right; simp only [go_sem]; done) | (simp; done) | (simp only [*]; done) | omega
 ·try simp only [go_sem] at hc
  have h := ite_F (by first | exact hc | omega | (simpa using hc) | (simp at hc ⊢; omega)) h
  obtain rfl := Option.some.inj h
  dsimp only [stepQ] at hs3
  have h := hs3
  try dsimp only at h
  refine tri_exit (at_then_exit (at_then_exit (at_block_exit (at_next (tri_seq (tri_region hF [4] ?_))))))
  simp only [go_sem]
  obtain rfl := Option.some.inj h
  refine at_next (tri_ret (at_retC hF [.tmp 4] rfl rfl rfl ?_))
  (try simp only [retOK, resE, go_sem]) <;> first | rfl | (simp; done)
attribute [go_sem] sm_dec_power
noncomputable def m_dec_number_l3 (s_0 : (List Nat)) (m_6 : (List Nat)) (x9_7 : Int) : Option (((List Nat) × Int) ⊕ (((List Nat)))) :=
  if x9_7 < (((s_0.length) : Nat) : Int) then ck (0 ≤ x9_7 ∧ x9_7 < (((s_0.length) : Nat) : Int)) (ck ((pSz2 m_6 ([10] : List Nat))) (ck ((pSz ([(subU .u8 (s_0.getD (x9_7.toNat) (0 : Nat)) (48 : Nat))] : List Nat))) (ck ((pSz2 (f_nat_Times m_6 ([10] : List Nat)) (f_nat_Norm ([(subU .u8 (s_0.getD (x9_7.toNat) (0 : Nat)) (48 : Nat))] : List Nat)))) (ck (I64 (x9_7 + (1 : Int))) (some (.inl ((f_nat_Plus (f_nat_Times m_6 ([10] : List Nat)) (f_nat_Norm ([(subU .u8 (s_0.getD (x9_7.toNat) (0 : Nat)) (48 : Nat))] : List Nat))), (x9_7 + (1 : Int))))))))) else some (.inr m_6)
noncomputable def m_dec_number (s_0 : (List Nat)) : Option (List Nat) :=
  (loopO (fun d : (List Nat) × Int => m_dec_number_l3 s_0 d.1 d.2) (([] : List Nat), (0 : Int))).bind (fun e => some e)
def a_dec_number : Ty := .pair .str .unit
attribute [go_sem] a_dec_number
noncomputable def sm_dec_number : FSpec := mSpec a_dec_number (.one (.sl (.u .u64))) (fun x => m_dec_number x.1)
noncomputable def l_dec_number : List (FuncId × FSpec) := [(31, sp_nat_Times), (36, sp_nat_Plus), (92, sp_nat_Norm)]
theorem K_dec_number : Known Tryd.prog GL l_dec_number := .cons ok_nat_Times (by kernel_rfl) (.cons ok_nat_Plus (by kernel_rfl) (.cons ok_nat_Norm (by kernel_rfl) (.nil)))
theorem l_dec_number_31 : gam l_dec_number 31 = some sp_nat_Times := rfl
attribute [go_sem] l_dec_number_31
theorem l_dec_number_36 : gam l_dec_number 36 = some sp_nat_Plus := rfl
attribute [go_sem] l_dec_number_36
theorem l_dec_number_92 : gam l_dec_number 92 = some sp_nat_Norm := rfl
attribute [go_sem] l_dec_number_92
set_option maxHeartbeats 4000000 in
theorem om_dec_number : FOK Tryd.prog GL 56 sm_dec_number := by
 refine fok_model (EM_ok K_dec_number) Tryd.func56 rfl (by kernel_rfl) (by decide) fun w0 S x r hw h => ?_
 have hF : FrOK (fr Tryd.prog (EM l_dec_number) S w0 Tryd.f56.ntmps) := ⟨EM_ok K_dec_number, mix⟩
 obtain ⟨(s_0 : (List Nat)), u⟩ := x
 simp only [a_dec_number, Ty.wf, fits64] at hw
 simp only [args0, a_dec_number]
 try dsimp only at h
 unfold m_dec_number at h
 refine tri_seq (tri_region hF [0] ?_)
 simp only [go_sem]
 refine at_next (tri_seq (tri_region hF [0, 3] ?_))
 simp only [go_sem]
 refine at_next (tri_seq (tri_seq (tri_region hF [3, 7, 8, 9] ?_)))
 simp only [go_sem]
 refine at_next (tri_block (tri_loopM (D := (List Nat) × Int) [7, 8] (fun d => [(3, .val (.sl (.u .u64)) d.1), (9, .val (.i .i64) d.2)]) (fun d => []) h ?_ ?_ ?_))
 ·first | rfl | (simp only [go_sem]; done)
 ·(try simp only [fitE, fitV, true_or, and_self, go_sem]) <;> (repeat' apply And.intro) <;> first | rfl | (left; rfl) | (right; rfl) | (left; simp only [go_sem]; done) | (right; simp only [go_sem]; done) | (simp; done) | (simp only [*]; done) | omega
 rintro ⟨m_6, x9_7⟩ s3 h hs3
 simp only [go_sem]
 try dsimp only at h
 unfold m_dec_number_l3 at h
 refine tri_seq (tri_region hF [3, 7, 8, 9, 10] ?_)
 simp only [go_sem]
 refine at_next (tri_seq (tri_cond rfl (fun hc => ?_) (fun hc => ?_)))
 ·try simp only [go_sem] at hc
  have h := ite_T (by first | exact hc | omega | (simpa using hc) | (simp at hc ⊢; omega)) h
  refine tri_skip (at_next (tri_seq (tri_block (tri_seq (tri_region hF [3, 5, 7, 8, 9] ?_)))))
  simp only [go_sem]
  obtain ⟨g0, h⟩ := ck_some h
  repeat (refine ⟨by first | with_reducible assumption | omega | (intros; first | assumption | omega) | (simp only [go_sem] at *; first | assumption | omega) | decide, ?_⟩)
  refine at_next (tri_region hF [3, 7, 8, 9] ?_)
  simp only [go_sem]
  obtain ⟨g0, h⟩ := ck_some h
  obtain ⟨g1, h⟩ := ck_some h
  obtain ⟨g2, h⟩ := ck_some h
  repeat (refine ⟨by first | with_reducible assumption | omega | (intros; first | assumption | omega) | (simp only [go_sem] at *; first | assumption | omega) | decide, ?_⟩)
  refine at_block_norm (at_next (tri_region hF [3, 7, 8, 9] ?_))
  simp only [go_sem]
  obtain ⟨g0, h⟩ := ck_some h
  try simp only [I64, I32] at g0
  repeat (refine ⟨by first | with_reducible assumption | omega | (intros; first | assumption | omega) | (simp only [go_sem] at *; first | assumption | omega) | decide, ?_⟩)
  obtain rfl := Option.some.inj h
  dsimp only [stepQ] at hs3
  refine at_then_norm (at_fit (((f_nat_Plus (f_nat_Times m_6 ([10] : List Nat)) (f_nat_Norm ([(subU .u8 (s_0.getD (x9_7.toNat) (0 : Nat)) (48 : Nat))] : List Nat))), (x9_7 + (1 : Int)))) hs3 rfl ?_)
  ·(try simp only [fitE, fitV, true_or, and_self, go_sem]) <;> (repeat' apply And.intro) <;> first | rfl | (left; rfl) | (right; rfl) | (left; simp only [go_sem]; done) | (right; simp only [go_sem]; done) | (simp; done) | (simp only [*]; done) | omega
 ·try simp only [go_sem] at hc
  have h := ite_F (by first | exact hc | omega | (simpa using hc) | (simp at hc ⊢; omega)) h
  obtain rfl := Option.some.inj h
  dsimp only [stepQ] at hs3
  have h := hs3
  try dsimp only at h
  refine tri_exit (at_then_exit (at_then_exit (at_block_exit (at_next (tri_seq (tri_region hF [2] ?_))))))
  simp only [go_sem]
  obtain rfl := Option.some.inj h
  refine at_next (tri_ret (at_retC hF [.tmp 2] rfl rfl rfl ?_))
  (try simp only [retOK, resE, go_sem]) <;> first | rfl | (simp; done)
attribute [go_sem] sm_dec_number
noncomputable def m_dec_literal_j2 (all_3 : (List Nat)) (s_0 : (List Nat)) (at_7 : Int) (pow_8 : Int) : Option (((List Nat) × (Int × (Bool × Unit)))) :=
  some (all_3, pow_8, (decide (at_7 = (((s_0.length) : Nat) : Int))), ())
noncomputable def m_dec_literal_j4 (pow_4 : Int) (at_9 : Int) (s_0 : (List Nat)) (all_3 : (List Nat)) (x_10 : Int) : Option (((List Nat) × (Int × (Bool × Unit)))) :=
  ck (I64 (pow_4 + x_10)) (ck (I64 (at_9 + ((m_dec_digits s_0 at_9).getD (0 : Int)))) (m_dec_literal_j2 all_3 s_0 (at_9 + ((m_dec_digits s_0 at_9).getD (0 : Int))) (pow_4 + x_10)))
noncomputable def m_dec_literal_j3 (s_0 : (List Nat)) (at_2 : Int) (pow_4 : Int) (all_3 : (List Nat)) (at_9 : Int) : Option (((List Nat) × (Int × (Bool × Unit)))) :=
  ck (((m_dec_digits s_0 at_9).isSome = true)) (if (((m_dec_digits s_0 at_9).getD (0 : Int)) < (1 : Int)) ∨ ((3 : Int) < ((m_dec_digits s_0 at_9).getD (0 : Int))) then some ((strL ⟨#[]⟩), (0 : Int), false, ()) else ck (I64 (at_9 + ((m_dec_digits s_0 at_9).getD (0 : Int)))) (ck (0 ≤ at_9 ∧ at_9 ≤ (at_9 + ((m_dec_digits s_0 at_9).getD (0 : Int))) ∧ (at_9 + ((m_dec_digits s_0 at_9).getD (0 : Int))) ≤ (((s_0.length) : Nat) : Int)) (ck (((m_strconv_Atoi (List.drop (at_9.toNat) (List.take ((at_9 + ((m_dec_digits s_0 at_9).getD (0 : Int))).toNat) s_0))).isSome = true)) (if (100 : Int) < (((m_strconv_Atoi (List.drop (at_9.toNat) (List.take ((at_9 + ((m_dec_digits s_0 at_9).getD (0 : Int))).toNat) s_0))).getD ((0 : Int), (), ())).1) then some ((strL ⟨#[]⟩), (0 : Int), false, ()) else if ((at_2 + (1 : Int)) < (((s_0.length) : Nat) : Int)) ∧ ((s_0.getD ((at_2 + (1 : Int)).toNat) (0 : Nat)) = (45 : Nat)) then ck (I64 (0 - (((m_strconv_Atoi (List.drop (at_9.toNat) (List.take ((at_9 + ((m_dec_digits s_0 at_9).getD (0 : Int))).toNat) s_0))).getD ((0 : Int), (), ())).1))) (m_dec_literal_j4 pow_4 at_9 s_0 all_3 (0 - (((m_strconv_Atoi (List.drop (at_9.toNat) (List.take ((at_9 + ((m_dec_digits s_0 at_9).getD (0 : Int))).toNat) s_0))).getD ((0 : Int), (), ())).1))) else m_dec_literal_j4 pow_4 at_9 s_0 all_3 (((m_strconv_Atoi (List.drop (at_9.toNat) (List.take ((at_9 + ((m_dec_digits s_0 at_9).getD (0 : Int))).toNat) s_0))).getD ((0 : Int), (), ())).1)))))
noncomputable def m_dec_literal_j1 (s_0 : (List Nat)) (at_2 : Int) (all_3 : (List Nat)) (pow_4 : Int) : Option (((List Nat) × (Int × (Bool × Unit)))) :=
  ck (((at_2 < (((s_0.length) : Nat) : Int)) → (0 ≤ at_2 ∧ at_2 < (((s_0.length) : Nat) : Int)))) (if (at_2 < (((s_0.length) : Nat) : Int)) ∧ ((s_0.getD (at_2.toNat) (0 : Nat)) = (101 : Nat)) then ck (I64 (at_2 + (1 : Int))) (ck ((((at_2 + (1 : Int)) < (((s_0.length) : Nat) : Int)) → (0 ≤ (at_2 + (1 : Int)) ∧ (at_2 + (1 : Int)) < (((s_0.length) : Nat) : Int)))) (ck ((¬ (((at_2 + (1 : Int)) < (((s_0.length) : Nat) : Int)) ∧ ((s_0.getD ((at_2 + (1 : Int)).toNat) (0 : Nat)) = (45 : Nat))) → ((at_2 + (1 : Int)) < (((s_0.length) : Nat) : Int)) → (0 ≤ (at_2 + (1 : Int)) ∧ (at_2 + (1 : Int)) < (((s_0.length) : Nat) : Int)))) (if (((at_2 + (1 : Int)) < (((s_0.length) : Nat) : Int)) ∧ ((s_0.getD ((at_2 + (1 : Int)).toNat) (0 : Nat)) = (45 : Nat))) ∨ (((at_2 + (1 : Int)) < (((s_0.length) : Nat) : Int)) ∧ ((s_0.getD ((at_2 + (1 : Int)).toNat) (0 : Nat)) = (43 : Nat))) then ck (I64 ((at_2 + (1 : Int)) + (1 : Int))) (m_dec_literal_j3 s_0 at_2 pow_4 all_3 ((at_2 + (1 : Int)) + (1 : Int))) else m_dec_literal_j3 s_0 at_2 pow_4 all_3 (at_2 + (1 : Int))))) else m_dec_literal_j2 all_3 s_0 at_2 pow_4)
noncomputable def m_dec_literal (s_0 : (List Nat)) : Option ((List Nat) × (Int × (Bool × Unit))) :=
  ck (((m_dec_digits s_0 (0 : Int)).isSome = true)) (ck (0 ≤ ((m_dec_digits s_0 (0 : Int)).getD (0 : Int)) ∧ ((m_dec_digits s_0 (0 : Int)).getD (0 : Int)) ≤ (((s_0.length) : Nat) : Int)) (if ((60 : Int) < (((s_0.length) : Nat) : Int)) ∨ (((m_dec_digits s_0 (0 : Int)).getD (0 : Int)) = (0 : Int)) then some ((strL ⟨#[]⟩), (0 : Int), false, ()) else ck (((((m_dec_digits s_0 (0 : Int)).getD (0 : Int)) < (((s_0.length) : Nat) : Int)) → (0 ≤ ((m_dec_digits s_0 (0 : Int)).getD (0 : Int)) ∧ ((m_dec_digits s_0 (0 : Int)).getD (0 : Int)) < (((s_0.length) : Nat) : Int)))) (if (((m_dec_digits s_0 (0 : Int)).getD (0 : Int)) < (((s_0.length) : Nat) : Int)) ∧ ((s_0.getD (((m_dec_digits s_0 (0 : Int)).getD (0 : Int)).toNat) (0 : Nat)) = (46 : Nat)) then ck (I64 (((m_dec_digits s_0 (0 : Int)).getD (0 : Int)) + (1 : Int))) (ck (((m_dec_digits s_0 (((m_dec_digits s_0 (0 : Int)).getD (0 : Int)) + (1 : Int))).isSome = true)) (if ((m_dec_digits s_0 (((m_dec_digits s_0 (0 : Int)).getD (0 : Int)) + (1 : Int))).getD (0 : Int)) = (0 : Int) then some ((strL ⟨#[]⟩), (0 : Int), false, ()) else ck (I64 (((m_dec_digits s_0 (0 : Int)).getD (0 : Int)) + (1 : Int))) (ck (I64 (((m_dec_digits s_0 (0 : Int)).getD (0 : Int)) + (1 : Int))) (ck (I64 ((((m_dec_digits s_0 (0 : Int)).getD (0 : Int)) + (1 : Int)) + ((m_dec_digits s_0 (((m_dec_digits s_0 (0 : Int)).getD (0 : Int)) + (1 : Int))).getD (0 : Int)))) (ck (0 ≤ (((m_dec_digits s_0 (0 : Int)).getD (0 : Int)) + (1 : Int)) ∧ (((m_dec_digits s_0 (0 : Int)).getD (0 : Int)) + (1 : Int)) ≤ ((((m_dec_digits s_0 (0 : Int)).getD (0 : Int)) + (1 : Int)) + ((m_dec_digits s_0 (((m_dec_digits s_0 (0 : Int)).getD (0 : Int)) + (1 : Int))).getD (0 : Int))) ∧ ((((m_dec_digits s_0 (0 : Int)).getD (0 : Int)) + (1 : Int)) + ((m_dec_digits s_0 (((m_dec_digits s_0 (0 : Int)).getD (0 : Int)) + (1 : Int))).getD (0 : Int))) ≤ (((s_0.length) : Nat) : Int)) (ck (((List.take (((m_dec_digits s_0 (0 : Int)).getD (0 : Int)).toNat) s_0).length) + ((List.drop ((((m_dec_digits s_0 (0 : Int)).getD (0 : Int)) + (1 : Int)).toNat) (List.take (((((m_dec_digits s_0 (0 : Int)).getD (0 : Int)) + (1 : Int)) + ((m_dec_digits s_0 (((m_dec_digits s_0 (0 : Int)).getD (0 : Int)) + (1 : Int))).getD (0 : Int))).toNat) s_0)).length) ≤ 9223372036854775807) (ck (I64 (0 - ((m_dec_digits s_0 (((m_dec_digits s_0 (0 : Int)).getD (0 : Int)) + (1 : Int))).getD (0 : Int)))) (ck (I64 (((m_dec_digits s_0 (0 : Int)).getD (0 : Int)) + (1 : Int))) (ck (I64 ((((m_dec_digits s_0 (0 : Int)).getD (0 : Int)) + (1 : Int)) + ((m_dec_digits s_0 (((m_dec_digits s_0 (0 : Int)).getD (0 : Int)) + (1 : Int))).getD (0 : Int)))) (m_dec_literal_j1 s_0 ((((m_dec_digits s_0 (0 : Int)).getD (0 : Int)) + (1 : Int)) + ((m_dec_digits s_0 (((m_dec_digits s_0 (0 : Int)).getD (0 : Int)) + (1 : Int))).getD (0 : Int))) ((List.take (((m_dec_digits s_0 (0 : Int)).getD (0 : Int)).toNat) s_0) ++ (List.drop ((((m_dec_digits s_0 (0 : Int)).getD (0 : Int)) + (1 : Int)).toNat) (List.take (((((m_dec_digits s_0 (0 : Int)).getD (0 : Int)) + (1 : Int)) + ((m_dec_digits s_0 (((m_dec_digits s_0 (0 : Int)).getD (0 : Int)) + (1 : Int))).getD (0 : Int))).toNat) s_0))) (0 - ((m_dec_digits s_0 (((m_dec_digits s_0 (0 : Int)).getD (0 : Int)) + (1 : Int))).getD (0 : Int))))))))))))) else m_dec_literal_j1 s_0 ((m_dec_digits s_0 (0 : Int)).getD (0 : Int)) (List.take (((m_dec_digits s_0 (0 : Int)).getD (0 : Int)).toNat) s_0) (0 : Int))))
def a_dec_literal : Ty := .pair .str .unit
attribute [go_sem] a_dec_literal
noncomputable def sm_dec_literal : FSpec := mSpec a_dec_literal (.tup (.pair .str (.pair (.i .i64) (.pair .bool .unit)))) (fun x => m_dec_literal x.1)
noncomputable def l_dec_literal : List (FuncId × FSpec) := [(78, sm_dec_digits), (79, sm_strconv_Atoi)]
theorem K_dec_literal : Known Tryd.prog GL l_dec_literal := .cons om_dec_digits (by kernel_rfl) (.cons om_strconv_Atoi (by kernel_rfl) (.nil))
theorem l_dec_literal_78 : gam l_dec_literal 78 = some sm_dec_digits := rfl
attribute [go_sem] l_dec_literal_78
theorem l_dec_literal_79 : gam l_dec_literal 79 = some sm_strconv_Atoi := rfl
attribute [go_sem] l_dec_literal_79
set_option maxHeartbeats 4000000 in
theorem om_dec_literal : FOK Tryd.prog GL 43 sm_dec_literal := by
 refine fok_model (EM_ok K_dec_literal) Tryd.func43 rfl (by kernel_rfl) (by decide) fun w0 S x r hw h => ?_
 have hF : FrOK (fr Tryd.prog (EM l_dec_literal) S w0 Tryd.f43.ntmps) := ⟨EM_ok K_dec_literal, mix⟩
 obtain ⟨(s_0 : (List Nat)), u⟩ := x
 simp only [a_dec_literal, Ty.wf, fits64] at hw
 simp only [args0, a_dec_literal]
 try dsimp only at h
 unfold m_dec_literal at h
 refine tri_seq (tri_region hF [0] ?_)
 simp only [go_sem]
 refine at_next (tri_seq (tri_region hF [0, 5] ?_))
 simp only [go_sem]
 obtain ⟨g0, h⟩ := ck_some h
 repeat (refine ⟨by first | with_reducible assumption | omega | (intros; first | assumption | omega) | (simp only [go_sem] at *; first | assumption | omega) | decide, ?_⟩)
 refine at_next (tri_seq (tri_region hF [0, 5, 6, 7] ?_))
 simp only [go_sem]
 obtain ⟨g0, h⟩ := ck_some h
 repeat (refine ⟨by first | with_reducible assumption | omega | (intros; first | assumption | omega) | (simp only [go_sem] at *; first | assumption | omega) | decide, ?_⟩)
 refine at_next (tri_seq (tri_seq (tri_region hF [0, 5, 6, 7, 24] ?_)))
 simp only [go_sem]
 refine at_next (tri_cond rfl (fun hc => ?_) (fun hc => ?_))
 ·try simp only [go_sem] at hc
  have h := ite_T (by first | exact hc | omega | (simpa using hc) | (simp at hc ⊢; omega)) h
  refine tri_seq (tri_region hF [2, 3, 4] ?_)
  simp only [go_sem]
  obtain rfl := Option.some.inj h
  refine at_next (tri_ret (at_then_ret (at_retC hF [.tmp 2, .tmp 3, .tmp 4] rfl rfl rfl ?_)))
  (try simp only [retOK, resE, go_sem]) <;> first | rfl | (simp; done)
 ·try simp only [go_sem] at hc
  have h := ite_F (by first | exact hc | omega | (simpa using hc) | (simp at hc ⊢; omega)) h
  refine tri_skip (at_next (tri_joinM (D := Int × (List Nat) × Int) (fun d => m_dec_literal_j1 s_0 d.1 d.2.1 d.2.2 = some r) [0] (fun d => [(5, .val (.i .i64) d.1), (6, .val .str d.2.1), (7, .val (.i .i64) d.2.2)]) (fun d => []) ?_ ?_))
  ·refine tri_seq (tri_region hF [0, 5, 6, 7, 34] ?_)
   simp only [go_sem]
   obtain ⟨g0, h⟩ := ck_some h
   repeat (refine ⟨by first | with_reducible assumption | omega | (intros; first | assumption | omega) | (simp only [go_sem] at *; first | assumption | omega) | (intro q0; (try have e0 := g0 (by first | exact q0 | omega | (simpa using q0))); first | assumption | omega) | decide, ?_⟩)
   refine at_next (tri_cond rfl (fun hc => ?_) (fun hc => ?_))
   ·try simp only [go_sem] at hc
    have h := ite_T (by first | exact hc | omega | (simpa using hc) | (simp at hc ⊢; omega)) h
    refine tri_seq (tri_region hF [0, 5, 6, 8] ?_)
    simp only [go_sem]
    obtain ⟨g0, h⟩ := ck_some h
    obtain ⟨g1, h⟩ := ck_some h
    try simp only [I64, I32] at g0
    repeat (refine ⟨by first | with_reducible assumption | omega | (intros; first | assumption | omega) | (simp only [go_sem] at *; first | assumption | omega) | decide, ?_⟩)
    refine at_next (tri_seq (tri_seq (tri_region hF [0, 5, 6, 8, 40] ?_)))
    simp only [go_sem]
    refine at_next (tri_cond rfl (fun hc => ?_) (fun hc => ?_))
    ·try simp only [go_sem] at hc
     have h := ite_T (by first | exact hc | omega | (simpa using hc) | (simp at hc ⊢; omega)) h
     refine tri_seq (tri_region hF [2, 3, 4] ?_)
     simp only [go_sem]
     obtain rfl := Option.some.inj h
     refine at_next (tri_ret (at_then_ret (at_then_ret (at_retC hF [.tmp 2, .tmp 3, .tmp 4] rfl rfl rfl ?_))))
     (try simp only [retOK, resE, go_sem]) <;> first | rfl | (simp; done)
    ·try simp only [go_sem] at hc
     have h := ite_F (by first | exact hc | omega | (simpa using hc) | (simp at hc ⊢; omega)) h
     refine tri_skip (at_next (tri_region hF [0, 5, 6, 7] ?_))
     simp only [go_sem]
     obtain ⟨g0, h⟩ := ck_some h
     obtain ⟨g1, h⟩ := ck_some h
     obtain ⟨g2, h⟩ := ck_some h
     obtain ⟨g3, h⟩ := ck_some h
     obtain ⟨g4, h⟩ := ck_some h
     obtain ⟨g5, h⟩ := ck_some h
     obtain ⟨g6, h⟩ := ck_some h
     obtain ⟨g7, h⟩ := ck_some h
     try simp only [I64, I32] at g0
     try simp only [I64, I32] at g1
     try simp only [I64, I32] at g2
     try simp only [I64, I32] at g5
     try simp only [I64, I32] at g6
     try simp only [I64, I32] at g7
     repeat (refine ⟨by first | with_reducible assumption | omega | (intros; first | assumption | omega) | (simp only [go_sem] at *; first | assumption | omega) | decide, ?_⟩)
     refine at_then_norm (at_fit ((((((m_dec_digits s_0 (0 : Int)).getD (0 : Int)) + (1 : Int)) + ((m_dec_digits s_0 (((m_dec_digits s_0 (0 : Int)).getD (0 : Int)) + (1 : Int))).getD (0 : Int))), ((List.take (((m_dec_digits s_0 (0 : Int)).getD (0 : Int)).toNat) s_0) ++ (List.drop ((((m_dec_digits s_0 (0 : Int)).getD (0 : Int)) + (1 : Int)).toNat) (List.take (((((m_dec_digits s_0 (0 : Int)).getD (0 : Int)) + (1 : Int)) + ((m_dec_digits s_0 (((m_dec_digits s_0 (0 : Int)).getD (0 : Int)) + (1 : Int))).getD (0 : Int))).toNat) s_0))), (0 - ((m_dec_digits s_0 (((m_dec_digits s_0 (0 : Int)).getD (0 : Int)) + (1 : Int))).getD (0 : Int))))) h rfl ?_)
     ·(try simp only [fitE, fitV, true_or, and_self, go_sem]) <;> (repeat' apply And.intro) <;> first | rfl | (left; rfl) | (right; rfl) | (left; simp only [go_sem]; done) | (right; simp only [go_sem]; done) | (simp; done) | (simp only [*]; done) | omega
   ·try simp only [go_sem] at hc
    have h := ite_F (by first | exact hc | omega | (simpa using hc) | (simp at hc ⊢; omega)) h
    refine tri_skip (at_then_norm (at_fit ((((m_dec_digits s_0 (0 : Int)).getD (0 : Int)), (List.take (((m_dec_digits s_0 (0 : Int)).getD (0 : Int)).toNat) s_0), (0 : Int))) h rfl ?_))
    ·(try simp only [fitE, fitV, true_or, and_self, go_sem]) <;> (repeat' apply And.intro) <;> first | rfl | (left; rfl) | (right; rfl) | (left; simp only [go_sem]; done) | (right; simp only [go_sem]; done) | (simp; done) | (simp only [*]; done) | omega
  ·rintro ⟨at_2, all_3, pow_4⟩ h
   try dsimp only at h
   simp only [go_sem]
   unfold m_dec_literal_j1 at h
   refine tri_joinM (D := Int × Int) (fun d => m_dec_literal_j2 all_3 s_0 d.1 d.2 = some r) [0, 6] (fun d => [(5, .val (.i .i64) d.1), (7, .val (.i .i64) d.2)]) (fun d => []) ?_ ?_
   ·refine tri_seq (tri_region hF [0, 5, 6, 7, 66] ?_)
    simp only [go_sem]
    obtain ⟨g0, h⟩ := ck_some h
    repeat (refine ⟨by first | with_reducible assumption | omega | (intros; first | assumption | omega) | (simp only [go_sem] at *; first | assumption | omega) | (intro q0; (try have e0 := g0 (by first | exact q0 | omega | (simpa using q0))); first | assumption | omega) | decide, ?_⟩)
    refine at_next (tri_cond rfl (fun hc => ?_) (fun hc => ?_))
    ·try simp only [go_sem] at hc
     have h := ite_T (by first | exact hc | omega | (simpa using hc) | (simp at hc ⊢; omega)) h
     refine tri_seq (tri_region hF [0, 5, 6, 7] ?_)
     simp only [go_sem]
     obtain ⟨g0, h⟩ := ck_some h
     try simp only [I64, I32] at g0
     repeat (refine ⟨by first | with_reducible assumption | omega | (intros; first | assumption | omega) | (simp only [go_sem] at *; first | assumption | omega) | decide, ?_⟩)
     refine at_next (tri_seq (tri_region hF [0, 5, 6, 7, 9] ?_))
     simp only [go_sem]
     obtain ⟨g0, h⟩ := ck_some h
     repeat (refine ⟨by first | with_reducible assumption | omega | (intros; first | assumption | omega) | (simp only [go_sem] at *; first | assumption | omega) | (intro q0; (try have e0 := g0 (by first | exact q0 | omega | (simpa using q0))); first | assumption | omega) | decide, ?_⟩)
     refine at_next (tri_joinM (D := Int) (fun d => m_dec_literal_j3 s_0 at_2 pow_4 all_3 d = some r) [0, 6, 7, 9] (fun d => [(5, .val (.i .i64) d)]) (fun d => []) ?_ ?_)
     ·refine tri_seq (tri_region hF [0, 5, 6, 7, 9, 91] ?_)
      simp only [go_sem]
      obtain ⟨g0, h⟩ := ck_some h
      repeat (refine ⟨by first | with_reducible assumption | omega | (intros; first | assumption | omega) | (simp only [go_sem] at *; first | assumption | omega) | (intro q0 q1; (try have e0 := g0 (by first | exact q0 | omega | (simpa using q0)) (by first | exact q1 | omega | (simpa using q1))); first | assumption | omega) | decide, ?_⟩)
      refine at_next (tri_cond rfl (fun hc => ?_) (fun hc => ?_))
      ·try simp only [go_sem] at hc
       have h := ite_T (by first | exact hc | omega | (simpa using hc) | (simp at hc ⊢; omega)) h
       refine tri_region hF [0, 5, 6, 7, 9] ?_
       simp only [go_sem]
       obtain ⟨g0, h⟩ := ck_some h
       try simp only [I64, I32] at g0
       repeat (refine ⟨by first | with_reducible assumption | omega | (intros; first | assumption | omega) | (simp only [go_sem] at *; first | assumption | omega) | decide, ?_⟩)
       refine at_then_norm (at_fit (((at_2 + (1 : Int)) + (1 : Int))) h rfl ?_)
       ·(try simp only [fitE, fitV, true_or, and_self, go_sem]) <;> (repeat' apply And.intro) <;> first | rfl | (left; rfl) | (right; rfl) | (left; simp only [go_sem]; done) | (right; simp only [go_sem]; done) | (simp; done) | (simp only [*]; done) | omega
      ·try simp only [go_sem] at hc
       have h := ite_F (by first | exact hc | omega | (simpa using hc) | (simp at hc ⊢; omega)) h
       refine tri_skip (at_then_norm (at_fit ((at_2 + (1 : Int))) h rfl ?_))
       ·(try simp only [fitE, fitV, true_or, and_self, go_sem]) <;> (repeat' apply And.intro) <;> first | rfl | (left; rfl) | (right; rfl) | (left; simp only [go_sem]; done) | (right; simp only [go_sem]; done) | (simp; done) | (simp only [*]; done) | omega
     ·rintro at_9 h
      try dsimp only at h
      simp only [go_sem]
      unfold m_dec_literal_j3 at h
      refine tri_seq (tri_region hF [0, 5, 6, 7, 9, 10] ?_)
      simp only [go_sem]
      obtain ⟨g0, h⟩ := ck_some h
      repeat (refine ⟨by first | with_reducible assumption | omega | (intros; first | assumption | omega) | (simp only [go_sem] at *; first | assumption | omega) | decide, ?_⟩)
      refine at_next (tri_seq (tri_seq (tri_region hF [0, 5, 6, 7, 9, 10, 102] ?_)))
      simp only [go_sem]
      refine at_next (tri_cond rfl (fun hc => ?_) (fun hc => ?_))
      ·try simp only [go_sem] at hc
       have h := ite_T (by first | exact hc | omega | (simpa using hc) | (simp at hc ⊢; omega)) h
       refine tri_seq (tri_region hF [2, 3, 4] ?_)
       simp only [go_sem]
       obtain rfl := Option.some.inj h
       refine at_next (tri_ret (at_then_ret (at_then_ret (at_retC hF [.tmp 2, .tmp 3, .tmp 4] rfl rfl rfl ?_))))
       (try simp only [retOK, resE, go_sem]) <;> first | rfl | (simp; done)
      ·try simp only [go_sem] at hc
       have h := ite_F (by first | exact hc | omega | (simpa using hc) | (simp at hc ⊢; omega)) h
       refine tri_skip (at_next (tri_seq (tri_region hF [0, 5, 6, 7, 9, 10, 11] ?_)))
       simp only [go_sem]
       obtain ⟨g0, h⟩ := ck_some h
       obtain ⟨g1, h⟩ := ck_some h
       obtain ⟨g2, h⟩ := ck_some h
       try simp only [I64, I32] at g0
       repeat (refine ⟨by first | with_reducible assumption | omega | (intros; first | assumption | omega) | (simp only [go_sem] at *; first | assumption | omega) | decide, ?_⟩)
       refine at_next (tri_seq (tri_seq (tri_region hF [0, 5, 6, 7, 9, 10, 11, 114] ?_)))
       simp only [go_sem]
       refine at_next (tri_cond rfl (fun hc => ?_) (fun hc => ?_))
       ·try simp only [go_sem] at hc
        have h := ite_T (by first | exact hc | omega | (simpa using hc) | (simp at hc ⊢; omega)) h
        refine tri_seq (tri_region hF [2, 3, 4] ?_)
        simp only [go_sem]
        obtain rfl := Option.some.inj h
        refine at_next (tri_ret (at_then_ret (at_then_ret (at_retC hF [.tmp 2, .tmp 3, .tmp 4] rfl rfl rfl ?_))))
        (try simp only [retOK, resE, go_sem]) <;> first | rfl | (simp; done)
       ·try simp only [go_sem] at hc
        have h := ite_F (by first | exact hc | omega | (simpa using hc) | (simp at hc ⊢; omega)) h
        refine tri_skip (at_next (tri_joinM (D := Int) (fun d => m_dec_literal_j4 pow_4 at_9 s_0 all_3 d = some r) [0, 5, 6, 7, 10] (fun d => [(11, .val (.i .i64) d)]) (fun d => []) ?_ ?_))
        ·refine tri_seq (tri_region hF [0, 5, 6, 7, 10, 11, 115] ?_)
         simp only [go_sem]
         refine at_next (tri_cond rfl (fun hc => ?_) (fun hc => ?_))
         ·try simp only [go_sem] at hc
          have h := ite_T (by first | exact hc | omega | (simpa using hc) | (simp at hc ⊢; omega)) h
          refine tri_region hF [0, 5, 6, 7, 10, 11] ?_
          simp only [go_sem]
          obtain ⟨g0, h⟩ := ck_some h
          try simp only [I64, I32] at g0
          repeat (refine ⟨by first | with_reducible assumption | omega | (intros; first | assumption | omega) | (simp only [go_sem] at *; first | assumption | omega) | decide, ?_⟩)
          refine at_then_norm (at_fit ((0 - (((m_strconv_Atoi (List.drop (at_9.toNat) (List.take ((at_9 + ((m_dec_digits s_0 at_9).getD (0 : Int))).toNat) s_0))).getD ((0 : Int), (), ())).1))) h rfl ?_)
          ·(try simp only [fitE, fitV, true_or, and_self, go_sem]) <;> (repeat' apply And.intro) <;> first | rfl | (left; rfl) | (right; rfl) | (left; simp only [go_sem]; done) | (right; simp only [go_sem]; done) | (simp; done) | (simp only [*]; done) | omega
         ·try simp only [go_sem] at hc
          have h := ite_F (by first | exact hc | omega | (simpa using hc) | (simp at hc ⊢; omega)) h
          refine tri_skip (at_then_norm (at_fit ((((m_strconv_Atoi (List.drop (at_9.toNat) (List.take ((at_9 + ((m_dec_digits s_0 at_9).getD (0 : Int))).toNat) s_0))).getD ((0 : Int), (), ())).1)) h rfl ?_))
          ·(try simp only [fitE, fitV, true_or, and_self, go_sem]) <;> (repeat' apply And.intro) <;> first | rfl | (left; rfl) | (right; rfl) | (left; simp only [go_sem]; done) | (right; simp only [go_sem]; done) | (simp; done) | (simp only [*]; done) | omega
        ·rintro x_10 h
         try dsimp only at h
         simp only [go_sem]
         unfold m_dec_literal_j4 at h
         refine tri_region hF [0, 5, 6, 7] ?_
         simp only [go_sem]
         obtain ⟨g0, h⟩ := ck_some h
         obtain ⟨g1, h⟩ := ck_some h
         try simp only [I64, I32] at g0
         try simp only [I64, I32] at g1
         repeat (refine ⟨by first | with_reducible assumption | omega | (intros; first | assumption | omega) | (simp only [go_sem] at *; first | assumption | omega) | decide, ?_⟩)
         refine at_then_norm (at_fit (((at_9 + ((m_dec_digits s_0 at_9).getD (0 : Int))), (pow_4 + x_10))) h rfl ?_)
         ·(try simp only [fitE, fitV, true_or, and_self, go_sem]) <;> (repeat' apply And.intro) <;> first | rfl | (left; rfl) | (right; rfl) | (left; simp only [go_sem]; done) | (right; simp only [go_sem]; done) | (simp; done) | (simp only [*]; done) | omega
    ·try simp only [go_sem] at hc
     have h := ite_F (by first | exact hc | omega | (simpa using hc) | (simp at hc ⊢; omega)) h
     refine tri_skip (at_then_norm (at_fit ((at_2, pow_4)) h rfl ?_))
     ·(try simp only [fitE, fitV, true_or, and_self, go_sem]) <;> (repeat' apply And.intro) <;> first | rfl | (left; rfl) | (right; rfl) | (left; simp only [go_sem]; done) | (right; simp only [go_sem]; done) | (simp; done) | (simp only [*]; done) | omega
   ·rintro ⟨at_7, pow_8⟩ h
    try dsimp only at h
    simp only [go_sem]
    unfold m_dec_literal_j2 at h
    refine tri_seq (tri_region hF [2, 3, 4] ?_)
    simp only [go_sem]
    obtain rfl := Option.some.inj h
    refine at_next (tri_ret (at_retC hF [.tmp 2, .tmp 3, .tmp 4] rfl rfl rfl ?_))
    (try simp only [retOK, resE, go_sem]) <;> first | rfl | (simp; done)
attribute [go_sem] sm_dec_literal
noncomputable def m_dec_Form (s_0 : (List Nat)) : Option Bool :=
  ck (((m_dec_literal s_0).isSome = true)) (some (((((m_dec_literal s_0).getD (([] : List Nat), (0 : Int), false, ())).2).2).1))
def a_dec_Form : Ty := .pair .str .unit
attribute [go_sem] a_dec_Form
noncomputable def sm_dec_Form : FSpec := mSpec a_dec_Form (.one .bool) (fun x => m_dec_Form x.1)
noncomputable def l_dec_Form : List (FuncId × FSpec) := [(43, sm_dec_literal)]
theorem K_dec_Form : Known Tryd.prog GL l_dec_Form := .cons om_dec_literal (by kernel_rfl) (.nil)
theorem l_dec_Form_43 : gam l_dec_Form 43 = some sm_dec_literal := rfl
attribute [go_sem] l_dec_Form_43
set_option maxHeartbeats 4000000 in
theorem om_dec_Form : FOK Tryd.prog GL 15 sm_dec_Form := by
 refine fok_model (EM_ok K_dec_Form) Tryd.func15 rfl (by kernel_rfl) (by decide) fun w0 S x r hw h => ?_
 have hF : FrOK (fr Tryd.prog (EM l_dec_Form) S w0 Tryd.f15.ntmps) := ⟨EM_ok K_dec_Form, mix⟩
 obtain ⟨(s_0 : (List Nat)), u⟩ := x
 simp only [a_dec_Form, Ty.wf, fits64] at hw
 simp only [args0, a_dec_Form]
 try dsimp only at h
 unfold m_dec_Form at h
 refine tri_seq (tri_region hF [0] ?_)
 simp only [go_sem]
 refine at_next (tri_seq (tri_region hF [5] ?_))
 simp only [go_sem]
 obtain ⟨g0, h⟩ := ck_some h
 repeat (refine ⟨by first | with_reducible assumption | omega | (intros; first | assumption | omega) | (simp only [go_sem] at *; first | assumption | omega) | decide, ?_⟩)
 refine at_next (tri_seq (tri_region hF [2] ?_))
 simp only [go_sem]
 obtain rfl := Option.some.inj h
 refine at_next (tri_ret (at_retC hF [.tmp 2] rfl rfl rfl ?_))
 (try simp only [retOK, resE, go_sem]) <;> first | rfl | (simp; done)
attribute [go_sem] sm_dec_Form
noncomputable def m_dec_Ratio (s_0 : (List Nat)) : Option ((List Nat) × ((List Nat) × (Bool × Unit))) :=
  ck (((m_dec_literal s_0).isSome = true)) (if ¬ ((((((m_dec_literal s_0).getD (([] : List Nat), (0 : Int), false, ())).2).2).1) = true) then some (([] : List Nat), ([] : List Nat), false, ()) else ck (((m_dec_number (((m_dec_literal s_0).getD (([] : List Nat), (0 : Int), false, ())).1)).isSome = true)) (ck (((m_dec_power (10 : Nat) (max ((((m_dec_literal s_0).getD (([] : List Nat), (0 : Int), false, ())).2).1) (0 : Int))).isSome = true)) (ck ((pSz2 ((m_dec_number (((m_dec_literal s_0).getD (([] : List Nat), (0 : Int), false, ())).1)).getD ([] : List Nat)) ((m_dec_power (10 : Nat) (max ((((m_dec_literal s_0).getD (([] : List Nat), (0 : Int), false, ())).2).1) (0 : Int))).getD ([] : List Nat)))) (ck (I64 (0 - ((((m_dec_literal s_0).getD (([] : List Nat), (0 : Int), false, ())).2).1))) (ck (((m_dec_power (10 : Nat) (max (0 - ((((m_dec_literal s_0).getD (([] : List Nat), (0 : Int), false, ())).2).1)) (0 : Int))).isSome = true)) (some ((f_nat_Times ((m_dec_number (((m_dec_literal s_0).getD (([] : List Nat), (0 : Int), false, ())).1)).getD ([] : List Nat)) ((m_dec_power (10 : Nat) (max ((((m_dec_literal s_0).getD (([] : List Nat), (0 : Int), false, ())).2).1) (0 : Int))).getD ([] : List Nat))), ((m_dec_power (10 : Nat) (max (0 - ((((m_dec_literal s_0).getD (([] : List Nat), (0 : Int), false, ())).2).1)) (0 : Int))).getD ([] : List Nat)), true, ())))))))
def a_dec_Ratio : Ty := .pair .str .unit
attribute [go_sem] a_dec_Ratio
noncomputable def sm_dec_Ratio : FSpec := mSpec a_dec_Ratio (.tup (.pair (.sl (.u .u64)) (.pair (.sl (.u .u64)) (.pair .bool .unit)))) (fun x => m_dec_Ratio x.1)
noncomputable def l_dec_Ratio : List (FuncId × FSpec) := [(31, sp_nat_Times), (33, sm_dec_power), (43, sm_dec_literal), (56, sm_dec_number)]
theorem K_dec_Ratio : Known Tryd.prog GL l_dec_Ratio := .cons ok_nat_Times (by kernel_rfl) (.cons om_dec_power (by kernel_rfl) (.cons om_dec_literal (by kernel_rfl) (.cons om_dec_number (by kernel_rfl) (.nil))))
theorem l_dec_Ratio_31 : gam l_dec_Ratio 31 = some sp_nat_Times := rfl
attribute [go_sem] l_dec_Ratio_31
theorem l_dec_Ratio_33 : gam l_dec_Ratio 33 = some sm_dec_power := rfl
attribute [go_sem] l_dec_Ratio_33
theorem l_dec_Ratio_43 : gam l_dec_Ratio 43 = some sm_dec_literal := rfl
attribute [go_sem] l_dec_Ratio_43
theorem l_dec_Ratio_56 : gam l_dec_Ratio 56 = some sm_dec_number := rfl
attribute [go_sem] l_dec_Ratio_56
set_option maxHeartbeats 4000000 in
theorem om_dec_Ratio : FOK Tryd.prog GL 40 sm_dec_Ratio := by
 refine fok_model (EM_ok K_dec_Ratio) Tryd.func40 rfl (by kernel_rfl) (by decide) fun w0 S x r hw h => ?_
 have hF : FrOK (fr Tryd.prog (EM l_dec_Ratio) S w0 Tryd.f40.ntmps) := ⟨EM_ok K_dec_Ratio, mix⟩
 obtain ⟨(s_0 : (List Nat)), u⟩ := x
 simp only [a_dec_Ratio, Ty.wf, fits64] at hw
 simp only [args0, a_dec_Ratio]
 try dsimp only at h
 unfold m_dec_Ratio at h
 refine tri_seq (tri_region hF [0] ?_)
 simp only [go_sem]
 refine at_next (tri_seq (tri_region hF [5, 6, 7] ?_))
 simp only [go_sem]
 obtain ⟨g0, h⟩ := ck_some h
 repeat (refine ⟨by first | with_reducible assumption | omega | (intros; first | assumption | omega) | (simp only [go_sem] at *; first | assumption | omega) | decide, ?_⟩)
 refine at_next (tri_seq (tri_seq (tri_region hF [5, 6, 15] ?_)))
 simp only [go_sem]
 refine at_next (tri_cond rfl (fun hc => ?_) (fun hc => ?_))
 ·try simp only [go_sem] at hc
  have h := ite_T (by first | exact hc | omega | (simpa using hc) | (simp at hc ⊢; omega)) h
  refine tri_seq (tri_region hF [2, 3, 4] ?_)
  simp only [go_sem]
  obtain rfl := Option.some.inj h
  refine at_next (tri_ret (at_then_ret (at_retC hF [.tmp 2, .tmp 3, .tmp 4] rfl rfl rfl ?_)))
  (try simp only [retOK, resE, go_sem]) <;> first | rfl | (simp; done)
 ·try simp only [go_sem] at hc
  have h := ite_F (by first | exact hc | omega | (simpa using hc) | (simp at hc ⊢; omega)) h
  refine tri_skip (at_next (tri_seq (tri_region hF [2, 3, 4] ?_)))
  simp only [go_sem]
  obtain ⟨g0, h⟩ := ck_some h
  obtain ⟨g1, h⟩ := ck_some h
  obtain ⟨g2, h⟩ := ck_some h
  obtain ⟨g3, h⟩ := ck_some h
  obtain ⟨g4, h⟩ := ck_some h
  try simp only [I64, I32] at g3
  repeat (refine ⟨by first | with_reducible assumption | omega | (intros; first | assumption | omega) | (simp only [go_sem] at *; first | assumption | omega) | decide, ?_⟩)
  obtain rfl := Option.some.inj h
  refine at_next (tri_ret (at_retC hF [.tmp 2, .tmp 3, .tmp 4] rfl rfl rfl ?_))
  (try simp only [retOK, resE, go_sem]) <;> first | rfl | (simp; done)
attribute [go_sem] sm_dec_Ratio
noncomputable def m_dec_Lit (s_0 : (List Nat)) (p_1 : Int) : Option (((Bool × ((List Nat) × (Int × Unit))) × ((Bool × ((List Nat) × (Int × Unit))) × Unit)) × (Int × Unit)) :=
  ck (((m_dec_Ratio s_0).isSome = true)) (if ¬ ((((((m_dec_Ratio s_0).getD (([] : List Nat), ([] : List Nat), false, ())).2).2).1) = true) then some (((false, ([] : List Nat), (0 : Int), ()), (false, ([] : List Nat), (0 : Int), ()), ()), (6 : Int), ()) else if (p_1 < (1 : Int)) ∨ ((2000 : Int) < p_1) then some (((false, ([] : List Nat), (0 : Int), ()), (false, ([] : List Nat), (0 : Int), ()), ()), (1 : Int), ()) else ck (((m_dyad_Fit false (((m_dec_Ratio s_0).getD (([] : List Nat), ([] : List Nat), false, ())).1) (0 : Int)).isSome = true)) (ck (((m_dyad_Fit false ((((m_dec_Ratio s_0).getD (([] : List Nat), ([] : List Nat), false, ())).2).1) (0 : Int)).isSome = true)) (ck (((m_round_Quot (((m_dyad_Fit false (((m_dec_Ratio s_0).getD (([] : List Nat), ([] : List Nat), false, ())).1) (0 : Int)).getD ((false, ([] : List Nat), (0 : Int), ()), (0 : Int), ())).1) (((m_dyad_Fit false ((((m_dec_Ratio s_0).getD (([] : List Nat), ([] : List Nat), false, ())).2).1) (0 : Int)).getD ((false, ([] : List Nat), (0 : Int), ()), (0 : Int), ())).1) p_1 false).isSome = true)) (ck (((m_round_Quot (((m_dyad_Fit false (((m_dec_Ratio s_0).getD (([] : List Nat), ([] : List Nat), false, ())).1) (0 : Int)).getD ((false, ([] : List Nat), (0 : Int), ()), (0 : Int), ())).1) (((m_dyad_Fit false ((((m_dec_Ratio s_0).getD (([] : List Nat), ([] : List Nat), false, ())).2).1) (0 : Int)).getD ((false, ([] : List Nat), (0 : Int), ()), (0 : Int), ())).1) p_1 true).isSome = true)) (if (¬ (((((m_round_Quot (((m_dyad_Fit false (((m_dec_Ratio s_0).getD (([] : List Nat), ([] : List Nat), false, ())).1) (0 : Int)).getD ((false, ([] : List Nat), (0 : Int), ()), (0 : Int), ())).1) (((m_dyad_Fit false ((((m_dec_Ratio s_0).getD (([] : List Nat), ([] : List Nat), false, ())).2).1) (0 : Int)).getD ((false, ([] : List Nat), (0 : Int), ()), (0 : Int), ())).1) p_1 false).getD ((false, ([] : List Nat), (0 : Int), ()), (0 : Int), ())).2).1) = (0 : Int))) ∨ (¬ (((((m_round_Quot (((m_dyad_Fit false (((m_dec_Ratio s_0).getD (([] : List Nat), ([] : List Nat), false, ())).1) (0 : Int)).getD ((false, ([] : List Nat), (0 : Int), ()), (0 : Int), ())).1) (((m_dyad_Fit false ((((m_dec_Ratio s_0).getD (([] : List Nat), ([] : List Nat), false, ())).2).1) (0 : Int)).getD ((false, ([] : List Nat), (0 : Int), ()), (0 : Int), ())).1) p_1 true).getD ((false, ([] : List Nat), (0 : Int), ()), (0 : Int), ())).2).1) = (0 : Int))) then some (((false, ([] : List Nat), (0 : Int), ()), (false, ([] : List Nat), (0 : Int), ()), ()), (max ((((m_round_Quot (((m_dyad_Fit false (((m_dec_Ratio s_0).getD (([] : List Nat), ([] : List Nat), false, ())).1) (0 : Int)).getD ((false, ([] : List Nat), (0 : Int), ()), (0 : Int), ())).1) (((m_dyad_Fit false ((((m_dec_Ratio s_0).getD (([] : List Nat), ([] : List Nat), false, ())).2).1) (0 : Int)).getD ((false, ([] : List Nat), (0 : Int), ()), (0 : Int), ())).1) p_1 false).getD ((false, ([] : List Nat), (0 : Int), ()), (0 : Int), ())).2).1) ((((m_round_Quot (((m_dyad_Fit false (((m_dec_Ratio s_0).getD (([] : List Nat), ([] : List Nat), false, ())).1) (0 : Int)).getD ((false, ([] : List Nat), (0 : Int), ()), (0 : Int), ())).1) (((m_dyad_Fit false ((((m_dec_Ratio s_0).getD (([] : List Nat), ([] : List Nat), false, ())).2).1) (0 : Int)).getD ((false, ([] : List Nat), (0 : Int), ()), (0 : Int), ())).1) p_1 true).getD ((false, ([] : List Nat), (0 : Int), ()), (0 : Int), ())).2).1)), ()) else some (((((m_round_Quot (((m_dyad_Fit false (((m_dec_Ratio s_0).getD (([] : List Nat), ([] : List Nat), false, ())).1) (0 : Int)).getD ((false, ([] : List Nat), (0 : Int), ()), (0 : Int), ())).1) (((m_dyad_Fit false ((((m_dec_Ratio s_0).getD (([] : List Nat), ([] : List Nat), false, ())).2).1) (0 : Int)).getD ((false, ([] : List Nat), (0 : Int), ()), (0 : Int), ())).1) p_1 false).getD ((false, ([] : List Nat), (0 : Int), ()), (0 : Int), ())).1), (((m_round_Quot (((m_dyad_Fit false (((m_dec_Ratio s_0).getD (([] : List Nat), ([] : List Nat), false, ())).1) (0 : Int)).getD ((false, ([] : List Nat), (0 : Int), ()), (0 : Int), ())).1) (((m_dyad_Fit false ((((m_dec_Ratio s_0).getD (([] : List Nat), ([] : List Nat), false, ())).2).1) (0 : Int)).getD ((false, ([] : List Nat), (0 : Int), ()), (0 : Int), ())).1) p_1 true).getD ((false, ([] : List Nat), (0 : Int), ()), (0 : Int), ())).1), ()), (0 : Int), ()))))))
def a_dec_Lit : Ty := .pair .str (.pair (.i .i64) .unit)
attribute [go_sem] a_dec_Lit
noncomputable def sm_dec_Lit : FSpec := mSpec a_dec_Lit (.tup (.pair (.pair (.pair .bool (.pair (.sl (.u .u64)) (.pair (.i .i64) .unit))) (.pair (.pair .bool (.pair (.sl (.u .u64)) (.pair (.i .i64) .unit))) .unit)) (.pair (.i .i64) .unit))) (fun x => m_dec_Lit x.1 x.2.1)
noncomputable def l_dec_Lit : List (FuncId × FSpec) := [(40, sm_dec_Ratio), (41, sm_dyad_Fit), (42, sm_round_Quot)]
theorem K_dec_Lit : Known Tryd.prog GL l_dec_Lit := .cons om_dec_Ratio (by kernel_rfl) (.cons om_dyad_Fit (by kernel_rfl) (.cons om_round_Quot (by kernel_rfl) (.nil)))
theorem l_dec_Lit_40 : gam l_dec_Lit 40 = some sm_dec_Ratio := rfl
attribute [go_sem] l_dec_Lit_40
theorem l_dec_Lit_41 : gam l_dec_Lit 41 = some sm_dyad_Fit := rfl
attribute [go_sem] l_dec_Lit_41
theorem l_dec_Lit_42 : gam l_dec_Lit 42 = some sm_round_Quot := rfl
attribute [go_sem] l_dec_Lit_42
set_option maxHeartbeats 4000000 in
theorem om_dec_Lit : FOK Tryd.prog GL 14 sm_dec_Lit := by
 refine fok_model (EM_ok K_dec_Lit) Tryd.func14 rfl (by kernel_rfl) (by decide) fun w0 S x r hw h => ?_
 have hF : FrOK (fr Tryd.prog (EM l_dec_Lit) S w0 Tryd.f14.ntmps) := ⟨EM_ok K_dec_Lit, mix⟩
 obtain ⟨(s_0 : (List Nat)), (p_1 : Int), u⟩ := x
 simp only [a_dec_Lit, Ty.wf, fits64] at hw
 simp only [args0, a_dec_Lit]
 try dsimp only at h
 unfold m_dec_Lit at h
 refine tri_seq (tri_regionB hF [0, 1, 4] ?_)
 simp only [go_sem]
 refine at_next (tri_seq (tri_region hF [1, 4, 6, 7, 8] ?_))
 simp only [go_sem]
 obtain ⟨g0, h⟩ := ck_some h
 repeat (refine ⟨by first | with_reducible assumption | omega | (intros; first | assumption | omega) | (simp only [go_sem] at *; first | assumption | omega) | decide, ?_⟩)
 refine at_next (tri_seq (tri_block (tri_seq (tri_region hF [1, 4, 6, 7, 23] ?_))))
 simp only [go_sem]
 refine at_next (tri_cond rfl (fun hc => ?_) (fun hc => ?_))
 ·try simp only [go_sem] at hc
  have h := ite_T (by first | exact hc | omega | (simpa using hc) | (simp at hc ⊢; omega)) h
  refine tri_seq (tri_regionB hF [4, 5] ?_)
  simp only [go_sem]
  obtain rfl := Option.some.inj h
  refine at_next (tri_ret (at_block_ret (at_then_ret (at_retC hF [.cell 4 43, .tmp 5] rfl rfl rfl ?_))))
  (try simp only [retOK, resE, go_sem]) <;> first | rfl | (simp; done)
 ·try simp only [go_sem] at hc
  have h := ite_F (by first | exact hc | omega | (simpa using hc) | (simp at hc ⊢; omega)) h
  refine tri_seq (tri_region hF [1, 4, 6, 7, 27] ?_)
  simp only [go_sem]
  refine at_next (tri_cond rfl (fun hc => ?_) (fun hc => ?_))
  ·try simp only [go_sem] at hc
   have h := ite_T (by first | exact hc | omega | (simpa using hc) | (simp at hc ⊢; omega)) h
   refine tri_seq (tri_regionB hF [4, 5] ?_)
   simp only [go_sem]
   obtain rfl := Option.some.inj h
   refine at_next (tri_ret (at_block_ret (at_then_ret (at_retC hF [.cell 4 43, .tmp 5] rfl rfl rfl ?_))))
   (try simp only [retOK, resE, go_sem]) <;> first | rfl | (simp; done)
  ·try simp only [go_sem] at hc
   have h := ite_F (by first | exact hc | omega | (simpa using hc) | (simp at hc ⊢; omega)) h
   refine tri_skip (at_block_norm (at_next (tri_seq (tri_regionB hF [1, 4, 7, 9] ?_))))
   simp only [go_sem]
   obtain ⟨g0, h⟩ := ck_some h
   repeat (refine ⟨by first | with_reducible assumption | omega | (intros; first | assumption | omega) | (simp only [go_sem] at *; first | assumption | omega) | decide, ?_⟩)
   refine at_next (tri_seq (tri_regionB hF [1, 4, 9, 11] ?_))
   simp only [go_sem]
   obtain ⟨g0, h⟩ := ck_some h
   repeat (refine ⟨by first | with_reducible assumption | omega | (intros; first | assumption | omega) | (simp only [go_sem] at *; first | assumption | omega) | decide, ?_⟩)
   refine at_next (tri_seq (tri_regionB hF [1, 4, 9, 11, 13, 14] ?_))
   simp only [go_sem]
   obtain ⟨g0, h⟩ := ck_some h
   repeat (refine ⟨by first | with_reducible assumption | omega | (intros; first | assumption | omega) | (simp only [go_sem] at *; first | assumption | omega) | decide, ?_⟩)
   refine at_next (tri_seq (tri_regionB hF [4, 13, 14, 15, 16] ?_))
   simp only [go_sem]
   obtain ⟨g0, h⟩ := ck_some h
   repeat (refine ⟨by first | with_reducible assumption | omega | (intros; first | assumption | omega) | (simp only [go_sem] at *; first | assumption | omega) | decide, ?_⟩)
   refine at_next (tri_seq (tri_seq (tri_region hF [4, 13, 14, 15, 16, 64] ?_)))
   simp only [go_sem]
   refine at_next (tri_cond rfl (fun hc => ?_) (fun hc => ?_))
   ·try simp only [go_sem] at hc
    have h := ite_T (by first | exact hc | omega | (simpa using hc) | (simp at hc ⊢; omega)) h
    refine tri_seq (tri_regionB hF [4, 5] ?_)
    simp only [go_sem]
    obtain rfl := Option.some.inj h
    refine at_next (tri_ret (at_then_ret (at_retC hF [.cell 4 43, .tmp 5] rfl rfl rfl ?_)))
    (try simp only [retOK, resE, go_sem]) <;> first | rfl | (simp; done)
   ·try simp only [go_sem] at hc
    have h := ite_F (by first | exact hc | omega | (simpa using hc) | (simp at hc ⊢; omega)) h
    refine tri_skip (at_next (tri_seq (tri_regionB hF [4, 5] ?_)))
    simp only [go_sem]
    obtain rfl := Option.some.inj h
    refine at_next (tri_ret (at_retC hF [.cell 4 43, .tmp 5] rfl rfl rfl ?_))
    (try simp only [retOK, resE, go_sem]) <;> first | rfl | (simp; done)
attribute [go_sem] sm_dec_Lit
noncomputable def m_dec_Exact (s_0 : (List Nat)) : Option ((Bool × ((List Nat) × (Int × Unit))) × (Int × Unit)) :=
  ck (((m_dec_literal s_0).isSome = true)) (if ¬ ((((((m_dec_literal s_0).getD (([] : List Nat), (0 : Int), false, ())).2).2).1) = true) then some ((false, ([] : List Nat), (0 : Int), ()), (6 : Int), ()) else ck (((m_dec_number (((m_dec_literal s_0).getD (([] : List Nat), (0 : Int), false, ())).1)).isSome = true)) (ck (((m_dec_power (5 : Nat) (max ((((m_dec_literal s_0).getD (([] : List Nat), (0 : Int), false, ())).2).1) (0 : Int))).isSome = true)) (ck ((pSz2 ((m_dec_number (((m_dec_literal s_0).getD (([] : List Nat), (0 : Int), false, ())).1)).getD ([] : List Nat)) ((m_dec_power (5 : Nat) (max ((((m_dec_literal s_0).getD (([] : List Nat), (0 : Int), false, ())).2).1) (0 : Int))).getD ([] : List Nat)))) (ck (I64 (0 - ((((m_dec_literal s_0).getD (([] : List Nat), (0 : Int), false, ())).2).1))) (ck (((m_dec_power (5 : Nat) (max (0 - ((((m_dec_literal s_0).getD (([] : List Nat), (0 : Int), false, ())).2).1)) (0 : Int))).isSome = true)) (ck ((p_nat_QuoRem (f_nat_Times ((m_dec_number (((m_dec_literal s_0).getD (([] : List Nat), (0 : Int), false, ())).1)).getD ([] : List Nat)) ((m_dec_power (5 : Nat) (max ((((m_dec_literal s_0).getD (([] : List Nat), (0 : Int), false, ())).2).1) (0 : Int))).getD ([] : List Nat))) ((m_dec_power (5 : Nat) (max (0 - ((((m_dec_literal s_0).getD (([] : List Nat), (0 : Int), false, ())).2).1)) (0 : Int))).getD ([] : List Nat)))) (ck (((m_dyad_Fit false ((f_nat_QuoRem (f_nat_Times ((m_dec_number (((m_dec_literal s_0).getD (([] : List Nat), (0 : Int), false, ())).1)).getD ([] : List Nat)) ((m_dec_power (5 : Nat) (max ((((m_dec_literal s_0).getD (([] : List Nat), (0 : Int), false, ())).2).1) (0 : Int))).getD ([] : List Nat))) ((m_dec_power (5 : Nat) (max (0 - ((((m_dec_literal s_0).getD (([] : List Nat), (0 : Int), false, ())).2).1)) (0 : Int))).getD ([] : List Nat))).1) ((((m_dec_literal s_0).getD (([] : List Nat), (0 : Int), false, ())).2).1)).isSome = true)) (if ((0 : Int) < ((((((f_nat_QuoRem (f_nat_Times ((m_dec_number (((m_dec_literal s_0).getD (([] : List Nat), (0 : Int), false, ())).1)).getD ([] : List Nat)) ((m_dec_power (5 : Nat) (max ((((m_dec_literal s_0).getD (([] : List Nat), (0 : Int), false, ())).2).1) (0 : Int))).getD ([] : List Nat))) ((m_dec_power (5 : Nat) (max (0 - ((((m_dec_literal s_0).getD (([] : List Nat), (0 : Int), false, ())).2).1)) (0 : Int))).getD ([] : List Nat))).2).1).length) : Nat) : Int)) ∨ (¬ (((((m_dyad_Fit false ((f_nat_QuoRem (f_nat_Times ((m_dec_number (((m_dec_literal s_0).getD (([] : List Nat), (0 : Int), false, ())).1)).getD ([] : List Nat)) ((m_dec_power (5 : Nat) (max ((((m_dec_literal s_0).getD (([] : List Nat), (0 : Int), false, ())).2).1) (0 : Int))).getD ([] : List Nat))) ((m_dec_power (5 : Nat) (max (0 - ((((m_dec_literal s_0).getD (([] : List Nat), (0 : Int), false, ())).2).1)) (0 : Int))).getD ([] : List Nat))).1) ((((m_dec_literal s_0).getD (([] : List Nat), (0 : Int), false, ())).2).1)).getD ((false, ([] : List Nat), (0 : Int), ()), (0 : Int), ())).2).1) = (0 : Int))) then some ((false, ([] : List Nat), (0 : Int), ()), (6 : Int), ()) else some ((((m_dyad_Fit false ((f_nat_QuoRem (f_nat_Times ((m_dec_number (((m_dec_literal s_0).getD (([] : List Nat), (0 : Int), false, ())).1)).getD ([] : List Nat)) ((m_dec_power (5 : Nat) (max ((((m_dec_literal s_0).getD (([] : List Nat), (0 : Int), false, ())).2).1) (0 : Int))).getD ([] : List Nat))) ((m_dec_power (5 : Nat) (max (0 - ((((m_dec_literal s_0).getD (([] : List Nat), (0 : Int), false, ())).2).1)) (0 : Int))).getD ([] : List Nat))).1) ((((m_dec_literal s_0).getD (([] : List Nat), (0 : Int), false, ())).2).1)).getD ((false, ([] : List Nat), (0 : Int), ()), (0 : Int), ())).1), (0 : Int), ())))))))))
def a_dec_Exact : Ty := .pair .str .unit
attribute [go_sem] a_dec_Exact
noncomputable def sm_dec_Exact : FSpec := mSpec a_dec_Exact (.tup (.pair (.pair .bool (.pair (.sl (.u .u64)) (.pair (.i .i64) .unit))) (.pair (.i .i64) .unit))) (fun x => m_dec_Exact x.1)
noncomputable def l_dec_Exact : List (FuncId × FSpec) := [(31, sp_nat_Times), (33, sm_dec_power), (41, sm_dyad_Fit), (43, sm_dec_literal), (55, sp_nat_QuoRem), (56, sm_dec_number)]
theorem K_dec_Exact : Known Tryd.prog GL l_dec_Exact := .cons ok_nat_Times (by kernel_rfl) (.cons om_dec_power (by kernel_rfl) (.cons om_dyad_Fit (by kernel_rfl) (.cons om_dec_literal (by kernel_rfl) (.cons ok_nat_QuoRem (by kernel_rfl) (.cons om_dec_number (by kernel_rfl) (.nil))))))
theorem l_dec_Exact_31 : gam l_dec_Exact 31 = some sp_nat_Times := rfl
attribute [go_sem] l_dec_Exact_31
theorem l_dec_Exact_33 : gam l_dec_Exact 33 = some sm_dec_power := rfl
attribute [go_sem] l_dec_Exact_33
theorem l_dec_Exact_41 : gam l_dec_Exact 41 = some sm_dyad_Fit := rfl
attribute [go_sem] l_dec_Exact_41
theorem l_dec_Exact_43 : gam l_dec_Exact 43 = some sm_dec_literal := rfl
attribute [go_sem] l_dec_Exact_43
theorem l_dec_Exact_55 : gam l_dec_Exact 55 = some sp_nat_QuoRem := rfl
attribute [go_sem] l_dec_Exact_55
theorem l_dec_Exact_56 : gam l_dec_Exact 56 = some sm_dec_number := rfl
attribute [go_sem] l_dec_Exact_56
set_option maxHeartbeats 4000000 in
theorem om_dec_Exact : FOK Tryd.prog GL 28 sm_dec_Exact := by
 refine fok_model (EM_ok K_dec_Exact) Tryd.func28 rfl (by kernel_rfl) (by decide) fun w0 S x r hw h => ?_
 have hF : FrOK (fr Tryd.prog (EM l_dec_Exact) S w0 Tryd.f28.ntmps) := ⟨EM_ok K_dec_Exact, mix⟩
 obtain ⟨(s_0 : (List Nat)), u⟩ := x
 simp only [a_dec_Exact, Ty.wf, fits64] at hw
 simp only [args0, a_dec_Exact]
 try dsimp only at h
 unfold m_dec_Exact at h
 refine tri_seq (tri_regionB hF [0, 2] ?_)
 simp only [go_sem]
 refine at_next (tri_seq (tri_region hF [2, 4, 5, 6] ?_))
 simp only [go_sem]
 obtain ⟨g0, h⟩ := ck_some h
 repeat (refine ⟨by first | with_reducible assumption | omega | (intros; first | assumption | omega) | (simp only [go_sem] at *; first | assumption | omega) | decide, ?_⟩)
 refine at_next (tri_seq (tri_seq (tri_region hF [2, 4, 5, 18] ?_)))
 simp only [go_sem]
 refine at_next (tri_cond rfl (fun hc => ?_) (fun hc => ?_))
 ·try simp only [go_sem] at hc
  have h := ite_T (by first | exact hc | omega | (simpa using hc) | (simp at hc ⊢; omega)) h
  refine tri_seq (tri_regionB hF [2, 3] ?_)
  simp only [go_sem]
  obtain rfl := Option.some.inj h
  refine at_next (tri_ret (at_then_ret (at_retC hF [.cell 2 28, .tmp 3] rfl rfl rfl ?_)))
  (try simp only [retOK, resE, go_sem]) <;> first | rfl | (simp; done)
 ·try simp only [go_sem] at hc
  have h := ite_F (by first | exact hc | omega | (simpa using hc) | (simp at hc ⊢; omega)) h
  refine tri_skip (at_next (tri_seq (tri_region hF [2, 5, 7, 8] ?_)))
  simp only [go_sem]
  obtain ⟨g0, h⟩ := ck_some h
  obtain ⟨g1, h⟩ := ck_some h
  obtain ⟨g2, h⟩ := ck_some h
  obtain ⟨g3, h⟩ := ck_some h
  obtain ⟨g4, h⟩ := ck_some h
  obtain ⟨g5, h⟩ := ck_some h
  try simp only [I64, I32] at g3
  repeat (refine ⟨by first | with_reducible assumption | omega | (intros; first | assumption | omega) | (simp only [go_sem] at *; first | assumption | omega) | decide, ?_⟩)
  refine at_next (tri_seq (tri_regionB hF [2, 8, 9, 10] ?_))
  simp only [go_sem]
  obtain ⟨g0, h⟩ := ck_some h
  repeat (refine ⟨by first | with_reducible assumption | omega | (intros; first | assumption | omega) | (simp only [go_sem] at *; first | assumption | omega) | decide, ?_⟩)
  refine at_next (tri_seq (tri_seq (tri_region hF [2, 9, 46] ?_)))
  simp only [go_sem]
  refine at_next (tri_cond rfl (fun hc => ?_) (fun hc => ?_))
  ·try simp only [go_sem] at hc
   have h := ite_T (by first | exact hc | omega | (simpa using hc) | (simp at hc ⊢; omega)) h
   refine tri_seq (tri_regionB hF [2, 3] ?_)
   simp only [go_sem]
   obtain rfl := Option.some.inj h
   refine at_next (tri_ret (at_then_ret (at_retC hF [.cell 2 28, .tmp 3] rfl rfl rfl ?_)))
   (try simp only [retOK, resE, go_sem]) <;> first | rfl | (simp; done)
  ·try simp only [go_sem] at hc
   have h := ite_F (by first | exact hc | omega | (simpa using hc) | (simp at hc ⊢; omega)) h
   refine tri_skip (at_next (tri_seq (tri_regionB hF [2, 3] ?_)))
   simp only [go_sem]
   obtain rfl := Option.some.inj h
   refine at_next (tri_ret (at_retC hF [.cell 2 28, .tmp 3] rfl rfl rfl ?_))
   (try simp only [retOK, resE, go_sem]) <;> first | rfl | (simp; done)
attribute [go_sem] sm_dec_Exact
end Nu
end Go.Proofs
namespace Go.Proofs
open Go.Shelf
def Tryd.lays285_ren : Go.Shelf.Ren := ⟨fun | 285 => 103 | n => n, fun | 37 => 64 | 53 => 48 | 3 => 3 | 4 => 4 | 51 => 127 | 9 => 9 | 5 => 5 | 0 => 0 | n => n, fun | n => n⟩
theorem Tryd.lays285 : Go.Proofs.Lays.n285 Tryd.prog Tryd.lays285_ren := {
  mixed := by kernel_rfl
  f285 := Tryd.func103.trans (congrArg some (by kernel_rfl))
  t0 := Tryd.underlying0
  a0 := Tryd.isAgg0
  z0 := Tryd.sizeOf0
  v0 := Tryd.zeroValue0
  t3 := Tryd.underlying3
  a3 := Tryd.isAgg3
  z3 := Tryd.sizeOf3
  v3 := Tryd.zeroValue3
  t4 := Tryd.underlying4
  a4 := Tryd.isAgg4
  z4 := Tryd.sizeOf4
  v4 := Tryd.zeroValue4
  t5 := Tryd.underlying5
  a5 := Tryd.isAgg5
  z5 := Tryd.sizeOf5
  v5 := Tryd.zeroValue5
  t9 := Tryd.underlying9
  a9 := Tryd.isAgg9
  z9 := Tryd.sizeOf9
  v9 := Tryd.zeroValue9
  t37 := Tryd.underlying64
  a37 := Tryd.isAgg64
  z37 := Tryd.sizeOf64
  v37 := Tryd.zeroValue64
  t51 := Tryd.underlying127
  a51 := Tryd.isAgg127
  z51 := Tryd.sizeOf127
  v51 := Tryd.zeroValue127
  t53 := Tryd.underlying48
  a53 := Tryd.isAgg48
  z53 := Tryd.sizeOf48
  v53 := Tryd.zeroValue48 }
open Go.Vc
set_option maxRecDepth 20000
namespace Nu
def dgs (n u : Nat) : List Nat := (List.range n).map fun t => 48 + u / 10 ^ (n - 1 - t) % 10
theorem dgs_len (n u : Nat) : (dgs n u).length = n := by simp [dgs]
noncomputable def m_istrconv_formatBase10 (uo un u : Nat) (xs : List Nat) : Option (List Nat) :=
  ck (uo + un ≤ 24) (ck (u < 10 ^ un) (some (xs.take uo ++ dgs un u ++ xs.drop (uo + un))))
noncomputable def sg_istrconv_formatBase10 : GSpec where
  D := Nat × Nat × Nat × (List Nat) × ((List Nat))
  av := fun d => [.sub 0 1 d.1 d.2.1, .val (.u .u64) d.2.2.1]
  hp := fun d => [.box 24 (.val (.arr 24 (.u .u8)) d.2.2.2.1)]
  m := 1
  pre := fun d => m_istrconv_formatBase10 d.1 d.2.1 d.2.2.1 d.2.2.2.1 = some d.2.2.2.2
  out := fun d => (fun r : (List Nat) => .ret (.tup []) [.box 24 (.val (.arr 24 (.u .u8)) (r))]) d.2.2.2.2
attribute [go_sem] sg_istrconv_formatBase10
theorem flat_single (xs : List Nat) : (xs.map (fun (x : Nat) => [Value.int .u8 (x : Int)])).flatten = xs.map (fun (x : Nat) => Value.int .u8 (x : Int)) := by
  induction xs with
  | nil => rfl
  | cons x r ih => simp [ih]
theorem cellsU8 {w : World} {S : Nat → Prop} {m : Nat} {xs : List Nat} {cs : List Value} (h : RepC w S (.arr m (.u .u8)) xs cs) : xs.length = m ∧ cs = xs.map (fun (x : Nat) => Value.int .u8 (x : Int)) ∧ ∀ x ∈ xs, x < 256 := by
  obtain ⟨hl, css, rfl, hcl, hr⟩ := h
  have hl : xs.length = m := hl
  have key : ∀ i (h : i < xs.length) (h' : i < css.length), css[i] = [Value.int .u8 (xs[i] : Int)] ∧ xs[i] < 256 := fun i h h' => by
    obtain ⟨h1, _, h3⟩ := hr i h h'
    refine ⟨h1, ?_⟩
    simp only [IntKind.max, IntKind.signed, IntKind.bits] at h3
    simp at h3
    omega
  refine ⟨hl, ?_, fun x hx => ?_⟩
  · have e : css = xs.map (fun (x : Nat) => [Value.int .u8 (x : Int)]) := by
      apply List.ext_getElem
      · simp; exact hcl
      · intro i h1 h2
        have := (key i (by simpa using h2) h1).1
        simpa using this
    rw [e, flat_single]
  · obtain ⟨i, hi, rfl⟩ := List.getElem_of_mem hx
    exact (key i hi (by have : css.length = xs.length := hcl; omega)).2
theorem repU8 {w : World} {S : Nat → Prop} {m : Nat} {xs : List Nat} (hl : xs.length = m) (hx : ∀ x ∈ xs, x < 256) : RepC w S (.arr m (.u .u8)) xs (xs.map (fun (x : Nat) => Value.int .u8 (x : Int))) := by
  refine ⟨hl, xs.map (fun (x : Nat) => [Value.int .u8 (x : Int)]), (flat_single xs).symm, by simp, fun i h h' => ?_⟩
  · have := hx xs[i] (List.getElem_mem h)
    refine ⟨by simp, rfl, ?_⟩
    simp only [IntKind.max, IntKind.signed, IntKind.bits]
    simp
    omega
open Go.Sort in
theorem put_cells {cells : Array Value} {xs : List Nat} {uo un u v' : Nat} {dk : Array UInt8} (hc : cells.toList = xs.map (fun (x : Nat) => Value.int .u8 (x : Int))) (hle : uo + un ≤ xs.length) (hF : Lib.FmtInv un u 0 v' dk) :
    (putCells (fun (b : UInt8) => Value.int .u8 (b.toNat : Int)) uo dk cells).toList = (xs.take uo ++ dgs un u ++ xs.drop (uo + un)).map (fun (x : Nat) => Value.int .u8 (x : Int)) := by
  have hsz : cells.size = xs.length := by rw [← Array.length_toList, hc, List.length_map]
  have hdk := hF.size
  apply List.ext_getElem
  · simp [putCells, dgs_len, hsz]; omega
  · intro i h1 h2
    have hi : i < xs.length := by simpa [putCells, hsz] using h1
    have hci : cells[i]'(by omega) = Value.int .u8 (xs[i] : Int) := by
      have : cells.toList[i]'(by rw [Array.length_toList]; omega) = Value.int .u8 (xs[i] : Int) := by simp [hc]
      simpa using this
    simp only [putCells, Array.toList_mapIdx, List.getElem_mapIdx, Array.getElem_toList, List.getElem_map]
    by_cases hr : uo ≤ i ∧ i < uo + dk.size
    · rw [if_pos hr, hF.done (i - uo) (Nat.zero_le _) (by omega)]
      have : (xs.take uo ++ dgs un u ++ xs.drop (uo + un))[i]'(by simpa using h2) = 48 + u / 10 ^ (un - 1 - (i - uo)) % 10 := by
        rw [List.getElem_append_left (by simp [dgs_len]; omega), List.getElem_append_right (by simp; omega)]
        simp [dgs, Nat.min_eq_left (show uo ≤ xs.length by omega)]
      rw [this]
      have hm := Nat.mod_lt (u / 10 ^ (un - 1 - (i - uo))) (show 0 < 10 by decide)
      simp only [Lib.dg, UInt8.toNat_ofNat']
      rw [Nat.mod_eq_of_lt (by omega)]
    · rw [if_neg hr, hci]
      rcases Nat.lt_or_ge i uo with h | h
      · rw [List.getElem_append_left (by simp [dgs_len]; omega), List.getElem_append_left (by simp; omega)]
        simp
      · rw [List.getElem_append_right (by simp [dgs_len]; omega)]
        simp only [List.length_append, List.length_take, dgs_len, List.getElem_drop]
        congr 3
        omega
open Go.Sort in
theorem og_istrconv_formatBase10 : GOK Tryd.prog GL 103 sg_istrconv_formatBase10 := by
 rintro c w ⟨uo, un, u, xs, r⟩ vs hpre ⟨good, glob, len, val⟩
 have hpre : m_istrconv_formatBase10 uo un u xs = some r := hpre
 unfold m_istrconv_formatBase10 at hpre
 obtain ⟨h1, hpre⟩ := ck_some hpre
 obtain ⟨h2, hpre⟩ := ck_some hpre
 have hr : xs.take uo ++ dgs un u ++ xs.drop (uo + un) = r := Option.some.inj hpre
 obtain ⟨b, cells, e, hhd, hheap, hsz, hcl⟩ := good.objs 0 _ rfl
 obtain ⟨hl, hcs, hx⟩ := cellsU8 hcl
 have hl : xs.length = 24 := hl
 have hcs : cells.toList = xs.map (fun (x : Nat) => Value.int .u8 (x : Int)) := hcs
 have hx : ∀ x ∈ xs, x < 256 := hx
 have hsz : cells.size = 24 := hsz
 have hv0 := val 0 (by show 0 < 2; decide) (by rw [len]; show 0 < 2; decide)
 have hv1 := val 1 (by show 1 < 2; decide) (by rw [len]; show 1 < 2; decide)
 obtain ⟨_, hn, b', cap, hb', e0⟩ := sub_val (i := 0) (s := 1) (off := uo) (n := un) hv0
 obtain ⟨e1, _, hu⟩ := openU (k := .u64) (n := u) hv1
 rw [hhd] at hb'
 simp only [blockOf, Option.some.injEq] at hb'
 subst hb'
 have hvs : vs = #[.slice (some ⟨b, uo * 1, none⟩) un cap, .int .u64 (u : Int)] := by
  have hlen : vs.toList.length = 2 := len
  rw [← Array.toList_inj]
  apply List.ext_getElem
  ·exact hlen
  ·intro i a1 a2
   match i, a2 with
   | 0, _ => exact e0
   | 1, _ => exact e1
 have hd : (((xs.drop uo).take un).map UInt8.ofNat).toArray.size = un := by simp; omega
 have hcell : ∀ j (hj : j < xs.length), w.cell? ⟨b, j, none⟩ = some (.int .u8 (xs[j] : Int)) := fun j hj => by
  have hj2 : j < cells.size := by omega
  have : cells[j] = Value.int .u8 (xs[j] : Int) := by
   have : cells.toList[j]'(by rw [Array.length_toList]; omega) = Value.int .u8 (xs[j] : Int) := by simp [hcs]
   simpa using this
  simp [World.cell?, hheap, hj2, this]
 have hH : Holds (fun (b : UInt8) => Value.int .u8 (b.toNat : Int)) w b uo (((xs.drop uo).take un).map UInt8.ofNat).toArray := fun j hj => by
  rw [hd] at hj
  have hj2 : uo + j < xs.length := by omega
  refine ⟨?_, ?_⟩
  ·rw [hcell _ hj2]
   have hlt := hx xs[uo + j] (List.getElem_mem hj2)
   have : (((xs.drop uo).take un).map UInt8.ofNat).toArray[j]! = UInt8.ofNat xs[uo + j] := by
    rw [getElem!_pos _ j (by rw [hd]; exact hj)]
    simp
   rw [this]
   simp only [UInt8.toNat_ofNat']
   rw [Nat.mod_eq_of_lt (by omega)]
  ·simp [World.frozen?, hheap]
 have hB : modK .u64 = 18446744073709551616 := by decide +kernel
 have key := Any.internal_strconv_formatBase10 Tryd.lays285 b uo cap u _ w hH (by rw [hd]; exact h2) (by omega) (by rw [hd]; omega)
 rw [hd] at key
 rw [hvs, Nat.mul_one]
 refine Calls.mono (f := 103) key ?_
 rintro e w' ⟨rfl, n, v', dk, rfl, hF⟩
 refine ⟨c, .tuple #[], rfl, ?_, ?_⟩
 ·have hbl : b < w.heap.size := (Array.getElem?_eq_some_iff.1 hheap).1
  have hpc := put_cells (uo := uo) (xs := xs) (u := u) (dk := dk) (un := un) hcs (by omega) hF
  have hheap' : ((putRow (fun (b : UInt8) => Value.int .u8 (b.toNat : Int)) w b uo dk).drewN n).heap[b]? = some (.cells (putCells (fun (b : UInt8) => Value.int .u8 (b.toNat : Int)) uo dk cells) e (0, 0)) := by
   show (w.heap.modify b (onCells _))[b]? = _
   rw [Array.getElem?_modify, if_pos rfl, hheap]
   rfl
  have hoth : ∀ k, k ≠ b → ((putRow (fun (b : UInt8) => Value.int .u8 (b.toNat : Int)) w b uo dk).drewN n).heap[k]? = w.heap[k]? := fun k hk => by
   show (w.heap.modify b (onCells _))[k]? = _
   rw [Array.getElem?_modify, if_neg (fun h => hk h.symm)]
  have hsize : ((putRow (fun (b : UInt8) => Value.int .u8 (b.toNat : Int)) w b uo dk).drewN n).heap.size = w.heap.size := by
   show (w.heap.modify b (onCells _)).size = _
   simp
  have hnS : ¬ c.S b := (good.own 0 _ b rfl (by show blockOf (c.hd 0) = some b; rw [hhd]; rfl)).2.2
  refine ⟨good.n, ⟨rfl, rfl, rfl, Nat.le_of_eq hsize.symm, fun k hk hM => hoth k (fun hkb => hM ?_)⟩, fun k hk => by rw [hsize]; exact good.sfin k hk, good.src, fun i o hio => ?_, fun i o k hio hk => ?_, fun i j oi oj k hi hj hbi hbj => ?_, good.root⟩
  ·subst hkb
   exact ⟨0, _, rfl, by show blockOf (c.hd 0) = some k; rw [hhd]; rfl⟩
  ·match i, hio with
   | 0, hio =>
    cases hio
    refine ⟨b, _, e, hhd, hheap', ?_, ?_⟩
    ·simp [putCells, hsz]
    ·show RepC _ c.S (.arr 24 (.u .u8)) r _
     rw [hpc, hr]
     have hrl : r.length = 24 := by rw [← hr]; simp [dgs_len]; omega
     refine repU8 hrl (fun x hxr => ?_)
     rw [← hr] at hxr
     rcases List.mem_append.1 hxr with hxr | hxr
     ·rcases List.mem_append.1 hxr with hxr | hxr
      ·exact hx x (List.mem_of_mem_take hxr)
      ·obtain ⟨t, _, rfl⟩ := List.mem_map.1 hxr
       have := Nat.mod_lt (u / 10 ^ (un - 1 - t)) (show 0 < 10 by decide)
       omega
     ·exact hx x (List.mem_of_mem_drop hxr)
   | i + 1, hio => cases hio
  ·match i, hio with
   | 0, hio =>
    cases hio
    have := good.own 0 _ k rfl hk
    rw [hsize]; exact this
   | i + 1, hio => cases hio
  ·match i, j, hi, hj with
   | 0, 0, _, _ => rfl
   | 0, j + 1, _, hj => cases hj
   | i + 1, _, hi, _ => cases hi
 ·exact ⟨[], rfl, rfl, fun i h1 _ => by cases h1⟩
end Nu
end Go.Proofs
