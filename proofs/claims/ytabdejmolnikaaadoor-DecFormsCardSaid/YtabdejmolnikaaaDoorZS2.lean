import Derived.Test.YtabdejmolnikaaaDoorZS1
import Derived.Test.YtabdejmolnikaaaDoorZL5
set_option linter.unusedVariables false
set_option linter.unusedSimpArgs false
namespace Go.Proofs
open Go.Vc
set_option maxRecDepth 20000
namespace Nu
def a_bits_Div64 : Ty := .pair (.u .u64) (.pair (.u .u64) (.pair (.u .u64) .unit))
noncomputable def sp_bits_Div64 : FSpec := ⟨a_bits_Div64, .tup (.pair (.u .u64) (.pair (.u .u64) .unit)), fun x => p_bits_Div64 x.1 x.2.1 x.2.2.1, fun x => f_bits_Div64 x.1 x.2.1 x.2.2.1⟩
attribute [go_sem] sp_bits_Div64 a_bits_Div64
noncomputable def sm_bits_Div64 : FSpec := mSpec a_bits_Div64 (.tup (.pair (.u .u64) (.pair (.u .u64) .unit))) (fun x => m_bits_Div64 x.1 x.2.1 x.2.2.1)
noncomputable def l_bits_Div64 : List (FuncId × FSpec) := [(89, sp_bits_LeadingZeros64)]
theorem K_bits_Div64 : Known Tryd.prog GL l_bits_Div64 := .cons ok_bits_LeadingZeros64 (by kernel_rfl) (.nil)
theorem l_bits_Div64_89 : gam l_bits_Div64 89 = some sp_bits_LeadingZeros64 := rfl
attribute [go_sem] l_bits_Div64_89
set_option maxHeartbeats 4000000 in
theorem om_bits_Div64 : FOK Tryd.prog GL 107 sm_bits_Div64 := by
 refine fok_model (EM_ok K_bits_Div64) Tryd.func107 rfl (by kernel_rfl) (by decide) fun w0 S x r hw h => ?_
 have hF : FrOK (fr Tryd.prog (EM l_bits_Div64) S w0 Tryd.f107.ntmps) := ⟨EM_ok K_bits_Div64, mix⟩
 obtain ⟨(hi_0 : Nat), (lo_1 : Nat), (y_2 : Nat), u⟩ := x
 simp only [a_bits_Div64, Ty.wf, fits64] at hw
 simp only [args0, a_bits_Div64]
 try dsimp only at h
 unfold m_bits_Div64 at h
 refine tri_seq (tri_region hF [0, 1, 2] ?_)
 simp only [go_sem]
 refine at_next (tri_seq (tri_seq (tri_region hF [0, 1, 2, 20] ?_)))
 simp only [go_sem]
 refine at_next (tri_cond rfl (fun hc => ?_) (fun hc => ?_))
 ·try simp only [go_sem] at hc
  have h := ite_T (by first | exact hc | omega | (simpa using hc) | (simp at hc ⊢; omega)) h
  cases h
 ·try simp only [go_sem] at hc
  have h := ite_F (by first | exact hc | omega | (simpa using hc) | (simp at hc ⊢; omega)) h
  refine tri_skip (at_next (tri_seq (tri_seq (tri_region hF [0, 1, 2, 24] ?_))))
  simp only [go_sem]
  refine at_next (tri_cond rfl (fun hc => ?_) (fun hc => ?_))
  ·try simp only [go_sem] at hc
   have h := ite_T (by first | exact hc | omega | (simpa using hc) | (simp at hc ⊢; omega)) h
   cases h
  ·try simp only [go_sem] at hc
   have h := ite_F (by first | exact hc | omega | (simpa using hc) | (simp at hc ⊢; omega)) h
   refine tri_skip (at_next (tri_seq (tri_seq (tri_region hF [0, 1, 2, 27] ?_))))
   simp only [go_sem]
   refine at_next (tri_cond rfl (fun hc => ?_) (fun hc => ?_))
   ·try simp only [go_sem] at hc
    have h := ite_T (by first | exact hc | omega | (simpa using hc) | (simp at hc ⊢; omega)) h
    refine tri_seq (tri_region hF [6, 7] ?_)
    simp only [go_sem]
    obtain ⟨g0, h⟩ := ck_some h
    obtain ⟨g1, h⟩ := ck_some h
    repeat (refine ⟨by first | with_reducible assumption | omega | (intros; first | assumption | omega) | (simp only [go_sem] at *; first | assumption | omega) | decide, ?_⟩)
    obtain rfl := Option.some.inj h
    refine at_next (tri_ret (at_then_ret (at_retC hF [.tmp 6, .tmp 7] rfl rfl rfl ?_)))
    (try simp only [retOK, resE, go_sem]) <;> first | rfl | (simp; done)
   ·try simp only [go_sem] at hc
    have h := ite_F (by first | exact hc | omega | (simpa using hc) | (simp at hc ⊢; omega)) h
    refine tri_skip (at_next (tri_seq (tri_region hF [0, 1, 2, 8] ?_)))
    simp only [go_sem]
    refine at_next (tri_seq (tri_region hF [0, 1, 2, 8] ?_))
    simp only [go_sem]
    refine at_next (tri_seq (tri_region hF [0, 1, 2, 8, 9] ?_))
    simp only [go_sem]
    refine at_next (tri_seq (tri_region hF [0, 1, 2, 8, 9, 10] ?_))
    simp only [go_sem]
    refine at_next (tri_seq (tri_region hF [1, 2, 8, 9, 10, 11] ?_))
    simp only [go_sem]
    refine at_next (tri_seq (tri_region hF [2, 8, 9, 10, 11, 12] ?_))
    simp only [go_sem]
    refine at_next (tri_seq (tri_region hF [2, 8, 9, 10, 11, 12, 13] ?_))
    simp only [go_sem]
    refine at_next (tri_seq (tri_region hF [2, 8, 9, 10, 11, 13, 14] ?_))
    simp only [go_sem]
    refine at_next (tri_seq (tri_region hF [2, 8, 9, 10, 11, 13, 14, 15] ?_))
    simp only [go_sem]
    obtain ⟨g0, h⟩ := ck_some h
    repeat (refine ⟨by first | with_reducible assumption | omega | (intros; first | assumption | omega) | (simp only [go_sem] at *; first | assumption | omega) | decide, ?_⟩)
    refine at_next (tri_seq (tri_region hF [2, 8, 9, 10, 11, 13, 14, 15, 16] ?_))
    simp only [go_sem]
    refine at_next (tri_joinM (D := Nat) (fun d => m_bits_Div64_j1 y_2 lo_1 hi_0 d = some r) [2, 8, 9, 10, 11, 13, 14] (fun d => [(15, .val (.u .u64) d)]) (fun d => []) ?_ ?_)
    ·refine tri_block (tri_loopM (D := Nat × Nat) [2, 8, 9, 10, 11, 13, 14] (fun d => [(15, .val (.u .u64) d.1), (16, .val (.u .u64) d.2)]) (fun d => []) h ?_ ?_ ?_)
     ·first | rfl | (simp only [go_sem]; done)
     ·(try simp only [fitE, fitV, true_or, and_self, go_sem]) <;> (repeat' apply And.intro) <;> first | rfl | (left; rfl) | (right; rfl) | (left; simp only [go_sem]; done) | (right; simp only [go_sem]; done) | (simp; done) | (simp only [*]; done) | omega
     rintro ⟨x15_19, rhat_20⟩ s17 h hs17
     simp only [go_sem]
     try dsimp only at h
     unfold m_bits_Div64_l17 at h
     refine tri_seq (tri_seq (tri_region hF [2, 8, 9, 10, 11, 13, 14, 15, 16, 78] ?_))
     simp only [go_sem]
     refine at_next (tri_cond rfl (fun hc => ?_) (fun hc => ?_))
     ·try simp only [go_sem] at hc
      have h := ite_T (by first | exact hc | omega | (simpa using hc) | (simp at hc ⊢; omega)) h
      refine tri_skip (at_next (tri_block (tri_seq (tri_region hF [2, 8, 9, 10, 11, 13, 14, 15, 16] ?_))))
      simp only [go_sem]
      refine at_next (tri_seq (tri_region hF [2, 8, 9, 10, 11, 13, 14, 15, 16] ?_))
      simp only [go_sem]
      refine at_next (tri_seq (tri_region hF [2, 8, 9, 10, 11, 13, 14, 15, 16, 85] ?_))
      simp only [go_sem]
      refine at_next (tri_cond rfl (fun hc => ?_) (fun hc => ?_))
      ·try simp only [go_sem] at hc
       have h := ite_T (by first | exact hc | omega | (simpa using hc) | (simp at hc ⊢; omega)) h
       obtain rfl := Option.some.inj h
       dsimp only [stepQ] at hs17
       have h := hs17
       try dsimp only at h
       refine tri_exit (at_block_other (by decide) (at_then_exit (at_block_exit (at_then_norm (at_fit ((subU .u64 x15_19 (1 : Nat))) h rfl ?_)))))
       ·(try simp only [fitE, fitV, true_or, and_self, go_sem]) <;> (repeat' apply And.intro) <;> first | rfl | (left; rfl) | (right; rfl) | (left; simp only [go_sem]; done) | (right; simp only [go_sem]; done) | (simp; done) | (simp only [*]; done) | omega
      ·try simp only [go_sem] at hc
       have h := ite_F (by first | exact hc | omega | (simpa using hc) | (simp at hc ⊢; omega)) h
       obtain rfl := Option.some.inj h
       dsimp only [stepQ] at hs17
       refine tri_skip (at_block_norm (at_then_norm (at_fit (((subU .u64 x15_19 (1 : Nat)), ((rhat_20 + (((y_2 * (2 ^ (((f_bits_LeadingZeros64 y_2) % (18446744073709551616 : Int)).toNat))) % 18446744073709551616) / (4294967296 : Nat))) % 18446744073709551616))) hs17 rfl ?_)))
       ·(try simp only [fitE, fitV, true_or, and_self, go_sem]) <;> (repeat' apply And.intro) <;> first | rfl | (left; rfl) | (right; rfl) | (left; simp only [go_sem]; done) | (right; simp only [go_sem]; done) | (simp; done) | (simp only [*]; done) | omega
     ·try simp only [go_sem] at hc
      have h := ite_F (by first | exact hc | omega | (simpa using hc) | (simp at hc ⊢; omega)) h
      obtain rfl := Option.some.inj h
      dsimp only [stepQ] at hs17
      have h := hs17
      try dsimp only at h
      refine tri_exit (at_then_exit (at_then_exit (at_block_exit (at_then_norm (at_fit (x15_19) h rfl ?_)))))
      ·(try simp only [fitE, fitV, true_or, and_self, go_sem]) <;> (repeat' apply And.intro) <;> first | rfl | (left; rfl) | (right; rfl) | (left; simp only [go_sem]; done) | (right; simp only [go_sem]; done) | (simp; done) | (simp only [*]; done) | omega
    ·rintro x15_8 h
     try dsimp only at h
     simp only [go_sem]
     unfold m_bits_Div64_j1 at h
     refine tri_seq (tri_region hF [2, 8, 9, 10, 14, 15, 17] ?_)
     simp only [go_sem]
     refine at_next (tri_seq (tri_region hF [2, 8, 9, 10, 14, 15, 17, 18] ?_))
     simp only [go_sem]
     obtain ⟨g0, h⟩ := ck_some h
     repeat (refine ⟨by first | with_reducible assumption | omega | (intros; first | assumption | omega) | (simp only [go_sem] at *; first | assumption | omega) | decide, ?_⟩)
     refine at_next (tri_seq (tri_region hF [2, 8, 9, 10, 14, 15, 16, 17, 18] ?_))
     simp only [go_sem]
     refine at_next (tri_joinM (D := Nat) (fun d => m_bits_Div64_j2 x15_8 hi_0 y_2 lo_1 d = some r) [2, 8, 14, 15, 17] (fun d => [(18, .val (.u .u64) d)]) (fun d => []) ?_ ?_)
     ·refine tri_block (tri_loopM (D := Nat × Nat) [2, 8, 9, 10, 14, 15, 17] (fun d => [(16, .val (.u .u64) d.1), (18, .val (.u .u64) d.2)]) (fun d => []) h ?_ ?_ ?_)
      ·first | rfl | (simp only [go_sem]; done)
      ·(try simp only [fitE, fitV, true_or, and_self, go_sem]) <;> (repeat' apply And.intro) <;> first | rfl | (left; rfl) | (right; rfl) | (left; simp only [go_sem]; done) | (right; simp only [go_sem]; done) | (simp; done) | (simp only [*]; done) | omega
      rintro ⟨rhat_14, x18_15⟩ s24 h hs24
      simp only [go_sem]
      try dsimp only at h
      unfold m_bits_Div64_l24 at h
      refine tri_seq (tri_seq (tri_region hF [2, 8, 9, 10, 14, 15, 16, 17, 18, 113] ?_))
      simp only [go_sem]
      refine at_next (tri_cond rfl (fun hc => ?_) (fun hc => ?_))
      ·try simp only [go_sem] at hc
       have h := ite_T (by first | exact hc | omega | (simpa using hc) | (simp at hc ⊢; omega)) h
       refine tri_skip (at_next (tri_block (tri_seq (tri_region hF [2, 8, 9, 10, 14, 15, 16, 17, 18] ?_))))
       simp only [go_sem]
       refine at_next (tri_seq (tri_region hF [2, 8, 9, 10, 14, 15, 16, 17, 18] ?_))
       simp only [go_sem]
       refine at_next (tri_seq (tri_region hF [2, 8, 9, 10, 14, 15, 16, 17, 18, 120] ?_))
       simp only [go_sem]
       refine at_next (tri_cond rfl (fun hc => ?_) (fun hc => ?_))
       ·try simp only [go_sem] at hc
        have h := ite_T (by first | exact hc | omega | (simpa using hc) | (simp at hc ⊢; omega)) h
        obtain rfl := Option.some.inj h
        dsimp only [stepQ] at hs24
        have h := hs24
        try dsimp only at h
        refine tri_exit (at_block_other (by decide) (at_then_exit (at_block_exit (at_then_norm (at_fit ((subU .u64 x18_15 (1 : Nat))) h rfl ?_)))))
        ·(try simp only [fitE, fitV, true_or, and_self, go_sem]) <;> (repeat' apply And.intro) <;> first | rfl | (left; rfl) | (right; rfl) | (left; simp only [go_sem]; done) | (right; simp only [go_sem]; done) | (simp; done) | (simp only [*]; done) | omega
       ·try simp only [go_sem] at hc
        have h := ite_F (by first | exact hc | omega | (simpa using hc) | (simp at hc ⊢; omega)) h
        obtain rfl := Option.some.inj h
        dsimp only [stepQ] at hs24
        refine tri_skip (at_block_norm (at_then_norm (at_fit ((((rhat_14 + (((y_2 * (2 ^ (((f_bits_LeadingZeros64 y_2) % (18446744073709551616 : Int)).toNat))) % 18446744073709551616) / (4294967296 : Nat))) % 18446744073709551616), (subU .u64 x18_15 (1 : Nat)))) hs24 rfl ?_)))
        ·(try simp only [fitE, fitV, true_or, and_self, go_sem]) <;> (repeat' apply And.intro) <;> first | rfl | (left; rfl) | (right; rfl) | (left; simp only [go_sem]; done) | (right; simp only [go_sem]; done) | (simp; done) | (simp only [*]; done) | omega
      ·try simp only [go_sem] at hc
       have h := ite_F (by first | exact hc | omega | (simpa using hc) | (simp at hc ⊢; omega)) h
       obtain rfl := Option.some.inj h
       dsimp only [stepQ] at hs24
       have h := hs24
       try dsimp only at h
       refine tri_exit (at_then_exit (at_then_exit (at_block_exit (at_then_norm (at_fit (x18_15) h rfl ?_)))))
       ·(try simp only [fitE, fitV, true_or, and_self, go_sem]) <;> (repeat' apply And.intro) <;> first | rfl | (left; rfl) | (right; rfl) | (left; simp only [go_sem]; done) | (right; simp only [go_sem]; done) | (simp; done) | (simp only [*]; done) | omega
     ·rintro x18_13 h
      try dsimp only at h
      simp only [go_sem]
      unfold m_bits_Div64_j2 at h
      refine tri_seq (tri_region hF [6, 7] ?_)
      simp only [go_sem]
      obtain rfl := Option.some.inj h
      refine at_next (tri_ret (at_retC hF [.tmp 6, .tmp 7] rfl rfl rfl ?_))
      (try simp only [retOK, resE, go_sem]) <;> first | rfl | (simp; done)
theorem ok_bits_Div64 : FOK Tryd.prog GL 107 sp_bits_Div64 := fok_clean om_bits_Div64 (fun ⟨x0, x1, x2, u⟩ ⟨w0, w1, w2, wu⟩ hp => law_bits_Div64 x0 w0 x1 w1 x2 w2 hp)
def a_nat_short : Ty := .pair (.sl (.u .u64)) (.pair (.u .u64) .unit)
noncomputable def sp_nat_short : FSpec := ⟨a_nat_short, .tup (.pair (.sl (.u .u64)) (.pair (.sl (.u .u64)) .unit)), fun x => p_nat_short x.1 x.2.1, fun x => f_nat_short x.1 x.2.1⟩
attribute [go_sem] sp_nat_short a_nat_short
noncomputable def sm_nat_short : FSpec := mSpec a_nat_short (.tup (.pair (.sl (.u .u64)) (.pair (.sl (.u .u64)) .unit))) (fun x => m_nat_short x.1 x.2.1)
noncomputable def l_nat_short : List (FuncId × FSpec) := [(107, sp_bits_Div64), (62, sp_nat_trim)]
theorem K_nat_short : Known Tryd.prog GL l_nat_short := .cons ok_bits_Div64 (by kernel_rfl) (.cons ok_nat_trim (by kernel_rfl) (.nil))
theorem l_nat_short_107 : gam l_nat_short 107 = some sp_bits_Div64 := rfl
attribute [go_sem] l_nat_short_107
theorem l_nat_short_62 : gam l_nat_short 62 = some sp_nat_trim := rfl
attribute [go_sem] l_nat_short_62
set_option maxHeartbeats 4000000 in
theorem om_nat_short : FOK Tryd.prog GL 88 sm_nat_short := by
 refine fok_model (EM_ok K_nat_short) Tryd.func88 rfl (by kernel_rfl) (by decide) fun w0 S x r hw h => ?_
 have hF : FrOK (fr Tryd.prog (EM l_nat_short) S w0 Tryd.f88.ntmps) := ⟨EM_ok K_nat_short, mix⟩
 obtain ⟨(a_0 : (List Nat)), (b_1 : Nat), u⟩ := x
 simp only [a_nat_short, Ty.wf, fits64] at hw
 simp only [args0, a_nat_short]
 try dsimp only at h
 unfold m_nat_short at h
 refine tri_seq (tri_region hF [0, 1] ?_)
 simp only [go_sem]
 refine at_next (tri_seq (tri_regionB hF [0, 1, 6] ?_))
 simp only [go_sem]
 obtain ⟨g0, h⟩ := ck_some h
 obtain ⟨g1, h⟩ := ck_some h
 repeat (refine ⟨by first | with_reducible assumption | omega | (intros; first | assumption | omega) | (simp only [go_sem] at *; first | assumption | omega) | decide, ?_⟩)
 refine at_next (tri_seq (tri_region hF [0, 1, 6, 7] ?_))
 simp only [go_sem]
 refine at_next (tri_joinM (D := Nat × (List Nat)) (fun d => m_nat_short_j1 d.1 d.2 = some r) [] (fun d => [(6, .own 0), (7, .val (.u .u64) d.1)]) (fun d => [.inr (.row 48 (.u .u64) d.2)]) ?_ ?_)
 ·refine tri_seq (tri_region hF [0, 1, 6, 7, 8] ?_)
  simp only [go_sem]
  obtain ⟨g0, h⟩ := ck_some h
  try simp only [I64, I32] at g0
  repeat (refine ⟨by first | with_reducible assumption | omega | (intros; first | assumption | omega) | (simp only [go_sem] at *; first | assumption | omega) | decide, ?_⟩)
  refine at_next (tri_block (tri_loopM (D := Nat × Int × (List Nat)) [0, 1] (fun d => [(6, .own 0), (7, .val (.u .u64) d.1), (8, .val (.i .i64) d.2.1)]) (fun d => [.inr (.row 48 (.u .u64) d.2.2)]) h ?_ ?_ ?_))
  ·first | rfl | (simp only [go_sem]; done)
  ·(try simp only [fitE, fitV, true_or, and_self, go_sem]) <;> (repeat' apply And.intro) <;> first | rfl | (left; rfl) | (right; rfl) | (left; simp only [go_sem]; done) | (right; simp only [go_sem]; done) | (simp; done) | (simp only [*]; done) | omega
  rintro ⟨rest_11, i_12, q_13⟩ s4 h hs4
  simp only [go_sem]
  try dsimp only at h
  unfold m_nat_short_l4 at h
  refine tri_seq (tri_seq (tri_region hF [0, 1, 6, 7, 8, 16] ?_))
  simp only [go_sem]
  refine at_next (tri_cond rfl (fun hc => ?_) (fun hc => ?_))
  ·try simp only [go_sem] at hc
   have h := ite_T (by first | exact hc | omega | (simpa using hc) | (simp at hc ⊢; omega)) h
   refine tri_skip (at_next (tri_seq (tri_block (tri_regionB hF [0, 1, 6, 7, 8] ?_))))
   simp only [go_sem]
   obtain ⟨g0, h⟩ := ck_some h
   repeat (refine ⟨by first | with_reducible assumption | omega | (intros; first | assumption | omega) | (simp only [go_sem] at *; first | assumption | omega) | decide, ?_⟩)
   obtain ⟨g0, h⟩ := ck_some h
   repeat (refine ⟨by first | with_reducible assumption | omega | (intros; first | assumption | omega) | (simp only [go_sem] at *; first | assumption | omega) | decide, ?_⟩)
   obtain ⟨g0, h⟩ := ck_some h
   repeat (refine ⟨by first | with_reducible assumption | omega | (intros; first | assumption | omega) | (simp only [go_sem] at *; first | assumption | omega) | decide, ?_⟩)
   refine at_block_norm (at_next (tri_region hF [0, 1, 6, 7, 8] ?_))
   simp only [go_sem]
   obtain ⟨g0, h⟩ := ck_some h
   try simp only [I64, I32] at g0
   repeat (refine ⟨by first | with_reducible assumption | omega | (intros; first | assumption | omega) | (simp only [go_sem] at *; first | assumption | omega) | decide, ?_⟩)
   obtain rfl := Option.some.inj h
   dsimp only [stepQ] at hs4
   refine at_then_norm (at_fit (((((f_bits_Div64 rest_11 (a_0.getD (i_12.toNat) (0 : Nat)) b_1).2).1), (i_12 - (1 : Int)), (q_13.set (i_12.toNat) ((f_bits_Div64 rest_11 (a_0.getD (i_12.toNat) (0 : Nat)) b_1).1)))) hs4 rfl ?_)
   ·(try simp only [fitE, fitV, true_or, and_self, go_sem]) <;> (repeat' apply And.intro) <;> first | rfl | (left; rfl) | (right; rfl) | (left; simp only [go_sem]; done) | (right; simp only [go_sem]; done) | (simp; done) | (simp only [*]; done) | omega
  ·try simp only [go_sem] at hc
   have h := ite_F (by first | exact hc | omega | (simpa using hc) | (simp at hc ⊢; omega)) h
   obtain rfl := Option.some.inj h
   dsimp only [stepQ] at hs4
   have h := hs4
   try dsimp only at h
   refine tri_exit (at_then_exit (at_then_exit (at_block_exit (at_then_norm (at_fit ((rest_11, q_13)) h rfl ?_)))))
   ·(try simp only [fitE, fitV, true_or, and_self, go_sem]) <;> (repeat' apply And.intro) <;> first | rfl | (left; rfl) | (right; rfl) | (left; simp only [go_sem]; done) | (right; simp only [go_sem]; done) | (simp; done) | (simp only [*]; done) | omega
 ·rintro ⟨rest_9, q_10⟩ h
  try dsimp only at h
  simp only [go_sem]
  unfold m_nat_short_j1 at h
  refine tri_seq (tri_regionB hF [4, 5] ?_)
  simp only [go_sem]
  obtain rfl := Option.some.inj h
  refine at_next (tri_ret (at_retC hF [.tmp 4, .tmp 5] rfl rfl rfl ?_))
  (try simp only [retOK, resE, go_sem]) <;> first | rfl | (simp; done)
theorem ok_nat_short : FOK Tryd.prog GL 88 sp_nat_short := fok_clean om_nat_short (fun ⟨x0, x1, u⟩ ⟨w0, w1, wu⟩ hp => law_nat_short x0 w0 x1 w1 hp)
end Nu
end Go.Proofs
namespace Go.Proofs
open Go.Vc
set_option maxRecDepth 20000
namespace Nu
noncomputable def m_dyad_must (is_0 : Bool) (e_1 : Int) : Option (Unit ⊕ (Int × Unit)) :=
  if ¬ (is_0 = true) then some (.inr (e_1, ())) else some (.inl ())
noncomputable def sg_dyad_must : GSpec where
  D := Bool × Int × (Unit ⊕ (Int × Unit))
  av := fun d => [.val .bool d.1, .val (.i .i64) d.2.1]
  hp := fun d => []
  m := 0
  pre := fun d => m_dyad_must d.1 d.2.1 = some d.2.2
  out := fun d => match d.2.2 with | .inl r => .ret (.tup []) [] | .inr p => .pan ⟨131, (.pair (.i .i64) .unit), p⟩ []
noncomputable def l_dyad_must : List (FuncId × FSpec) := []
theorem K_dyad_must : Known Tryd.prog GL l_dyad_must := .nil
set_option maxHeartbeats 4000000 in
theorem og_dyad_must : GOK Tryd.prog GL 97 sg_dyad_must := by
 refine gok_lift (EM_ok K_dyad_must) Tryd.func97 rfl (by kernel_rfl) (fun _ => Nat.le_of_ble_eq_true rfl) fun c0 w0 d hw1 hw2 h hn => ?_
 have hF : FrOK ⟨Tryd.prog, EM l_dyad_must, GM sg_dyad_must c0 d, w0, Tryd.f97.ntmps, []⟩ := ⟨EM_ok K_dyad_must, mix⟩
 obtain ⟨(is_0 : Bool), (e_1 : Int), r⟩ := d
 replace h : m_dyad_must is_0 e_1 = some r := h
 have hw1 : AV.wfL [.val .bool is_0, .val (.i .i64) e_1] := hw1
 simp only [AV.wfL, AV.wfV, Ty.wf, fits64] at hw1
 show Tri _ _ _ [(0, .val .bool is_0), (1, .val (.i .i64) e_1)] []
 unfold m_dyad_must at h
 refine tri_seq (tri_region hF [1, 5] ?_)
 simp only [go_sem]
 refine at_next (tri_cond rfl (fun hc => ?_) (fun hc => ?_))
 ·try simp only [go_sem] at hc
  have h := ite_T (by first | exact hc | omega | (simpa using hc) | (simp at hc ⊢; omega)) h
  refine tri_regionP hF (hits_of (l := []) (.nil)) [] [] ?_
  simp only [go_sem]
  repeat (refine ⟨by first | with_reducible assumption | omega | (intros; first | assumption | omega) | (simp only [go_sem] at *; first | assumption | omega) | decide, ?_⟩)
  obtain rfl := Option.some.inj h
  refine at_panG rfl rfl rfl rfl
 ·try simp only [go_sem] at hc
  have h := ite_F (by first | exact hc | omega | (simpa using hc) | (simp at hc ⊢; omega)) h
  obtain rfl := Option.some.inj h
  refine tri_skip (at_endN (at_retG hF [] rfl rfl rfl rfl rfl rfl ?_))
  (try simp only [resE, retV, fitT, fitV, noJunk, AV.isAgg, go_sem]) <;> first | trivial | rfl | (simp; done)
attribute [go_sem] sg_dyad_must
noncomputable def m_dyad_fit_j1 (e_2 : Int) (m_1 : (List Nat)) (neg_0 : Bool) : Option (((Bool × ((List Nat) × (Int × Unit))) ⊕ (Int × Unit))) :=
  ck (I64 (e_2 + (f_nat_Zeros m_1))) (((m_dyad_must (decide ((e_2 + (f_nat_Zeros m_1)) ≤ (1048576 : Int))) (3 : Int))).bind (fun e => match e with | .inl r_22 => ck (I64 (e_2 + (f_nat_Zeros m_1))) (some (.inl (neg_0, (f_nat_Right m_1 (f_nat_Zeros m_1)), (e_2 + (f_nat_Zeros m_1)), ()))) | .inr p_23 => some (.inr p_23)))
noncomputable def m_dyad_fit (neg_0 : Bool) (m_1 : (List Nat)) (e_2 : Int) : Option ((Bool × ((List Nat) × (Int × Unit))) ⊕ (Int × Unit)) :=
  if (((m_1.length) : Nat) : Int) = (0 : Int) then some (.inl (false, ([] : List Nat), (0 : Int), ())) else ck ((pSz m_1)) (ck ((pRight m_1 (f_nat_Zeros m_1))) (((m_dyad_must (decide (((((f_nat_Right m_1 (f_nat_Zeros m_1)).length) : Nat) : Int) ≤ (64 : Int))) (2 : Int))).bind (fun e => match e with | .inl r_8 => if e_2 ≤ (1048576 : Int) then ck (I64 ((-1048576 : Int) - (f_nat_Zeros m_1))) (((m_dyad_must ((decide (e_2 ≤ (1048576 : Int))) && (decide (((-1048576 : Int) - (f_nat_Zeros m_1)) ≤ e_2))) (3 : Int))).bind (fun e => match e with | .inl r_24 => m_dyad_fit_j1 e_2 m_1 neg_0 | .inr p_25 => some (.inr p_25))) else ((m_dyad_must false (3 : Int))).bind (fun e => match e with | .inl r_26 => m_dyad_fit_j1 e_2 m_1 neg_0 | .inr p_27 => some (.inr p_27)) | .inr p_9 => some (.inr p_9))))
noncomputable def sg_dyad_fit : GSpec where
  D := Bool × (List Nat) × Int × ((Bool × ((List Nat) × (Int × Unit))) ⊕ (Int × Unit))
  av := fun d => [.val .bool d.1, .val (.sl (.u .u64)) d.2.1, .val (.i .i64) d.2.2.1]
  hp := fun d => []
  m := 0
  pre := fun d => m_dyad_fit d.1 d.2.1 d.2.2.1 = some d.2.2.2
  out := fun d => match d.2.2.2 with | .inl r => .ret (.val (.pair .bool (.pair (.sl (.u .u64)) (.pair (.i .i64) .unit))) r) [] | .inr p => .pan ⟨131, (.pair (.i .i64) .unit), p⟩ []
noncomputable def l_dyad_fit : List (FuncId × FSpec) := [(34, sp_nat_Right), (35, sp_nat_Zeros)]
theorem K_dyad_fit : Known Tryd.prog GL l_dyad_fit := .cons ok_nat_Right (by kernel_rfl) (.cons ok_nat_Zeros (by kernel_rfl) (.nil))
theorem l_dyad_fit_34 : gam l_dyad_fit 34 = some sp_nat_Right := rfl
attribute [go_sem] l_dyad_fit_34
theorem l_dyad_fit_35 : gam l_dyad_fit 35 = some sp_nat_Zeros := rfl
attribute [go_sem] l_dyad_fit_35
set_option maxHeartbeats 4000000 in
theorem og_dyad_fit : GOK Tryd.prog GL 71 sg_dyad_fit := by
 refine gok_lift (EM_ok K_dyad_fit) Tryd.func71 rfl (by kernel_rfl) (fun _ => Nat.le_of_ble_eq_true rfl) fun c0 w0 d hw1 hw2 h hn => ?_
 have hF : FrOK ⟨Tryd.prog, EM l_dyad_fit, GM sg_dyad_fit c0 d, w0, Tryd.f71.ntmps, []⟩ := ⟨EM_ok K_dyad_fit, mix⟩
 obtain ⟨(neg_0 : Bool), (m_1 : (List Nat)), (e_2 : Int), r⟩ := d
 replace h : m_dyad_fit neg_0 m_1 e_2 = some r := h
 have hw1 : AV.wfL [.val .bool neg_0, .val (.sl (.u .u64)) m_1, .val (.i .i64) e_2] := hw1
 simp only [AV.wfL, AV.wfV, Ty.wf, fits64] at hw1
 show Tri _ _ _ [(0, .val .bool neg_0), (1, .val (.sl (.u .u64)) m_1), (2, .val (.i .i64) e_2)] []
 unfold m_dyad_fit at h
 refine tri_seq (tri_regionB hF [0, 1, 2, 6] ?_)
 simp only [go_sem]
 refine at_next (tri_seq (tri_seq (tri_region hF [0, 1, 2, 6, 10] ?_)))
 simp only [go_sem]
 refine at_next (tri_cond rfl (fun hc => ?_) (fun hc => ?_))
 ·try simp only [go_sem] at hc
  have h := ite_T (by first | exact hc | omega | (simpa using hc) | (simp at hc ⊢; omega)) h
  refine tri_seq (tri_regionB hF [6] ?_)
  simp only [go_sem]
  obtain rfl := Option.some.inj h
  refine at_next (tri_ret (at_then_ret (at_retG2 hF [.cell 6 28] [] rfl rfl rfl rfl rfl rfl rfl rfl rfl ?_)))
  (try simp only [resE, retV, fitT, fitV, noJunk, AV.isAgg, go_sem]) <;> first | trivial | rfl | (simp; done)
 ·try simp only [go_sem] at hc
  have h := ite_F (by first | exact hc | omega | (simpa using hc) | (simp at hc ⊢; omega)) h
  refine tri_skip (at_next (tri_seq (tri_region hF [0, 1, 2, 6, 7] ?_)))
  simp only [go_sem]
  obtain ⟨g0, h⟩ := ck_some h
  repeat (refine ⟨by first | with_reducible assumption | omega | (intros; first | assumption | omega) | (simp only [go_sem] at *; first | assumption | omega) | decide, ?_⟩)
  refine at_next (tri_seq (tri_region hF [0, 1, 2, 6, 7] ?_))
  simp only [go_sem]
  obtain ⟨g0, h⟩ := ck_some h
  repeat (refine ⟨by first | with_reducible assumption | omega | (intros; first | assumption | omega) | (simp only [go_sem] at *; first | assumption | omega) | decide, ?_⟩)
  obtain ⟨e, he1, h⟩ := bind_some h
  rcases e with r_8 | p_9
  ·try dsimp only at h
   refine at_next (tri_seq (tri_regionP hF (hits_of (l := [(97, ⟨sg_dyad_must, [], ((decide (((((f_nat_Right m_1 (f_nat_Zeros m_1)).length) : Nat) : Int) ≤ (64 : Int))), (2 : Int), .inl r_8)⟩)]) (.cons og_dyad_must (by kernel_rfl) (.nil))) [0, 1, 2, 6, 7] [] ?_))
   simp only [go_sem]
   repeat (refine ⟨by first | with_reducible assumption | omega | (intros; first | assumption | omega) | (simp only [go_sem] at *; first | assumption | omega) | decide, ?_⟩)
   refine at_next (tri_joinM (D := Unit) (fun d => m_dyad_fit_j1 e_2 m_1 neg_0 = some r) [0, 1, 2, 7] (fun d => [(6, .ptr 0 [])]) (fun d => [.inr (.box 3 (.val (.pair .bool (.pair (.sl (.u .u64)) (.pair (.i .i64) .unit))) (false, ([] : List Nat), (0 : Int), ())))]) ?_ ?_)
   ·by_cases hq : e_2 ≤ (1048576 : Int)
    ·have h := ite_T hq h
     obtain ⟨g0, h⟩ := ck_some h
     try simp only [I64, I32] at g0
     obtain ⟨e, he3, h⟩ := bind_some h
     rcases e with r_24 | p_25
     ·try dsimp only at h
      refine tri_regionP hF (hits_of (l := [(97, ⟨sg_dyad_must, [], (((decide (e_2 ≤ (1048576 : Int))) && (decide (((-1048576 : Int) - (f_nat_Zeros m_1)) ≤ e_2))), (3 : Int), .inl r_24)⟩)]) (.cons og_dyad_must (by kernel_rfl) (.nil))) [0, 1, 2, 6, 7] [] ?_
      simp only [go_sem]
      repeat (refine ⟨by first | with_reducible assumption | omega | (intros; first | assumption | omega) | (simp only [go_sem] at *; first | assumption | omega) | decide, ?_⟩)
      refine ⟨fun _ => ?_, fun hx => by first | (exfalso; omega) | (exfalso; simp_all; done)⟩
      repeat (refine ⟨by first | with_reducible assumption | omega | (intros; first | assumption | omega) | (simp only [go_sem] at *; first | assumption | omega) | decide, ?_⟩)
      refine ⟨fun _ => ?_, fun hx => by first | (exfalso; omega) | (exfalso; simp_all; done)⟩
      repeat (refine ⟨by first | with_reducible assumption | omega | (intros; first | assumption | omega) | (simp only [go_sem] at *; first | assumption | omega) | decide, ?_⟩)
      refine ⟨fun _ => ?_, fun hx => by first | (exfalso; omega) | (exfalso; simp_all; done)⟩
      repeat (refine ⟨by first | with_reducible assumption | omega | (intros; first | assumption | omega) | (simp only [go_sem] at *; first | assumption | omega) | decide, ?_⟩)
      refine ⟨fun _ => ?_, fun hx => by first | (exfalso; omega) | (exfalso; simp_all; done)⟩
      repeat (refine ⟨by first | with_reducible assumption | omega | (intros; first | assumption | omega) | (simp only [go_sem] at *; first | assumption | omega) | decide, ?_⟩)
      refine at_then_norm (at_fit (()) h rfl ?_)
      ·(try simp only [fitE, fitV, true_or, and_self, go_sem]) <;> (repeat' apply And.intro) <;> first | rfl | (left; rfl) | (right; rfl) | (left; simp only [go_sem]; done) | (right; simp only [go_sem]; done) | (simp; done) | (simp only [*]; done) | omega
     ·try dsimp only at h
      refine tri_regionP hF (hits_of (l := [(97, ⟨sg_dyad_must, [], (((decide (e_2 ≤ (1048576 : Int))) && (decide (((-1048576 : Int) - (f_nat_Zeros m_1)) ≤ e_2))), (3 : Int), .inr p_25)⟩)]) (.cons og_dyad_must (by kernel_rfl) (.nil))) [0, 1, 2, 6, 7] [] ?_
      simp only [go_sem]
      repeat (refine ⟨by first | with_reducible assumption | omega | (intros; first | assumption | omega) | (simp only [go_sem] at *; first | assumption | omega) | decide, ?_⟩)
      refine ⟨fun _ => ?_, fun hx => by first | (exfalso; omega) | (exfalso; simp_all; done)⟩
      repeat (refine ⟨by first | with_reducible assumption | omega | (intros; first | assumption | omega) | (simp only [go_sem] at *; first | assumption | omega) | decide, ?_⟩)
      refine ⟨fun _ => ?_, fun hx => by first | (exfalso; omega) | (exfalso; simp_all; done)⟩
      repeat (refine ⟨by first | with_reducible assumption | omega | (intros; first | assumption | omega) | (simp only [go_sem] at *; first | assumption | omega) | decide, ?_⟩)
      refine ⟨fun _ => ?_, fun hx => by first | (exfalso; omega) | (exfalso; simp_all; done)⟩
      repeat (refine ⟨by first | with_reducible assumption | omega | (intros; first | assumption | omega) | (simp only [go_sem] at *; first | assumption | omega) | decide, ?_⟩)
      refine ⟨fun _ => ?_, fun hx => by first | (exfalso; omega) | (exfalso; simp_all; done)⟩
      repeat (refine ⟨by first | with_reducible assumption | omega | (intros; first | assumption | omega) | (simp only [go_sem] at *; first | assumption | omega) | decide, ?_⟩)
      obtain rfl := Option.some.inj h
      refine atP_then (atP_ren [] rfl rfl ?_)
      simp only [ren, ren1, renO, posOf, posAll, go_sem]
      refine at_panG rfl rfl rfl rfl
    ·have h := ite_F hq h
     obtain ⟨e, he4, h⟩ := bind_some h
     rcases e with r_26 | p_27
     ·try dsimp only at h
      refine tri_regionP hF (hits_of (l := [(97, ⟨sg_dyad_must, [], (false, (3 : Int), .inl r_26)⟩)]) (.cons og_dyad_must (by kernel_rfl) (.nil))) [0, 1, 2, 6, 7] [] ?_
      simp only [go_sem]
      repeat (refine ⟨by first | with_reducible assumption | omega | (intros; first | assumption | omega) | (simp only [go_sem] at *; first | assumption | omega) | decide, ?_⟩)
      first | (refine ⟨fun hx => by first | (exfalso; omega) | (exfalso; simp_all; done), fun _ => ?_⟩) | intro _
      repeat (refine ⟨by first | with_reducible assumption | omega | (intros; first | assumption | omega) | (simp only [go_sem] at *; first | assumption | omega) | decide, ?_⟩)
      first | (refine ⟨fun hx => by first | (exfalso; omega) | (exfalso; simp_all; done), fun _ => ?_⟩) | intro _
      repeat (refine ⟨by first | with_reducible assumption | omega | (intros; first | assumption | omega) | (simp only [go_sem] at *; first | assumption | omega) | decide, ?_⟩)
      first | (refine ⟨fun hx => by first | (exfalso; omega) | (exfalso; simp_all; done), fun _ => ?_⟩) | intro _
      repeat (refine ⟨by first | with_reducible assumption | omega | (intros; first | assumption | omega) | (simp only [go_sem] at *; first | assumption | omega) | decide, ?_⟩)
      first | (refine ⟨fun hx => by first | (exfalso; omega) | (exfalso; simp_all; done), fun _ => ?_⟩) | intro _
      repeat (refine ⟨by first | with_reducible assumption | omega | (intros; first | assumption | omega) | (simp only [go_sem] at *; first | assumption | omega) | decide, ?_⟩)
      refine at_then_norm (at_fit (()) h rfl ?_)
      ·(try simp only [fitE, fitV, true_or, and_self, go_sem]) <;> (repeat' apply And.intro) <;> first | rfl | (left; rfl) | (right; rfl) | (left; simp only [go_sem]; done) | (right; simp only [go_sem]; done) | (simp; done) | (simp only [*]; done) | omega
     ·try dsimp only at h
      refine tri_regionP hF (hits_of (l := [(97, ⟨sg_dyad_must, [], (false, (3 : Int), .inr p_27)⟩)]) (.cons og_dyad_must (by kernel_rfl) (.nil))) [0, 1, 2, 6, 7] [] ?_
      simp only [go_sem]
      repeat (refine ⟨by first | with_reducible assumption | omega | (intros; first | assumption | omega) | (simp only [go_sem] at *; first | assumption | omega) | decide, ?_⟩)
      first | (refine ⟨fun hx => by first | (exfalso; omega) | (exfalso; simp_all; done), fun _ => ?_⟩) | intro _
      repeat (refine ⟨by first | with_reducible assumption | omega | (intros; first | assumption | omega) | (simp only [go_sem] at *; first | assumption | omega) | decide, ?_⟩)
      first | (refine ⟨fun hx => by first | (exfalso; omega) | (exfalso; simp_all; done), fun _ => ?_⟩) | intro _
      repeat (refine ⟨by first | with_reducible assumption | omega | (intros; first | assumption | omega) | (simp only [go_sem] at *; first | assumption | omega) | decide, ?_⟩)
      first | (refine ⟨fun hx => by first | (exfalso; omega) | (exfalso; simp_all; done), fun _ => ?_⟩) | intro _
      repeat (refine ⟨by first | with_reducible assumption | omega | (intros; first | assumption | omega) | (simp only [go_sem] at *; first | assumption | omega) | decide, ?_⟩)
      first | (refine ⟨fun hx => by first | (exfalso; omega) | (exfalso; simp_all; done), fun _ => ?_⟩) | intro _
      repeat (refine ⟨by first | with_reducible assumption | omega | (intros; first | assumption | omega) | (simp only [go_sem] at *; first | assumption | omega) | decide, ?_⟩)
      obtain rfl := Option.some.inj h
      refine atP_then (atP_ren [] rfl rfl ?_)
      simp only [ren, ren1, renO, posOf, posAll, go_sem]
      refine at_panG rfl rfl rfl rfl
   ·rintro u h
    try dsimp only at h
    simp only [go_sem]
    unfold m_dyad_fit_j1 at h
    obtain ⟨g0, h⟩ := ck_some h
    try simp only [I64, I32] at g0
    obtain ⟨e, he2, h⟩ := bind_some h
    rcases e with r_22 | p_23
    ·try dsimp only at h
     refine tri_seq (tri_regionP hF (hits_of (l := [(97, ⟨sg_dyad_must, [], ((decide ((e_2 + (f_nat_Zeros m_1)) ≤ (1048576 : Int))), (3 : Int), .inl r_22)⟩)]) (.cons og_dyad_must (by kernel_rfl) (.nil))) [0, 1, 2, 6, 7] [] ?_)
     simp only [go_sem]
     repeat (refine ⟨by first | with_reducible assumption | omega | (intros; first | assumption | omega) | (simp only [go_sem] at *; first | assumption | omega) | decide, ?_⟩)
     refine at_next (tri_seq (tri_regionB hF [6] ?_))
     simp only [go_sem]
     obtain ⟨g0, h⟩ := ck_some h
     try simp only [I64, I32] at g0
     repeat (refine ⟨by first | with_reducible assumption | omega | (intros; first | assumption | omega) | (simp only [go_sem] at *; first | assumption | omega) | decide, ?_⟩)
     obtain rfl := Option.some.inj h
     refine at_next (tri_ret (at_retG2 hF [.cell 6 28] [] rfl rfl rfl rfl rfl rfl rfl rfl rfl ?_))
     (try simp only [resE, retV, fitT, fitV, noJunk, AV.isAgg, go_sem]) <;> first | trivial | rfl | (simp; done)
    ·try dsimp only at h
     refine tri_seq (tri_regionP hF (hits_of (l := [(97, ⟨sg_dyad_must, [], ((decide ((e_2 + (f_nat_Zeros m_1)) ≤ (1048576 : Int))), (3 : Int), .inr p_23)⟩)]) (.cons og_dyad_must (by kernel_rfl) (.nil))) [0, 1, 2, 6, 7] [] ?_)
     simp only [go_sem]
     repeat (refine ⟨by first | with_reducible assumption | omega | (intros; first | assumption | omega) | (simp only [go_sem] at *; first | assumption | omega) | decide, ?_⟩)
     obtain rfl := Option.some.inj h
     refine atP_then (atP_ren [] rfl rfl ?_)
     simp only [ren, ren1, renO, posOf, posAll, go_sem]
     refine at_panG rfl rfl rfl rfl
  ·try dsimp only at h
   refine at_next (tri_seq (tri_regionP hF (hits_of (l := [(97, ⟨sg_dyad_must, [], ((decide (((((f_nat_Right m_1 (f_nat_Zeros m_1)).length) : Nat) : Int) ≤ (64 : Int))), (2 : Int), .inr p_9)⟩)]) (.cons og_dyad_must (by kernel_rfl) (.nil))) [0, 1, 2, 6, 7] [] ?_))
   simp only [go_sem]
   repeat (refine ⟨by first | with_reducible assumption | omega | (intros; first | assumption | omega) | (simp only [go_sem] at *; first | assumption | omega) | decide, ?_⟩)
   obtain rfl := Option.some.inj h
   refine atP_then (atP_ren [] rfl rfl ?_)
   simp only [ren, ren1, renO, posOf, posAll, go_sem]
   refine at_panG rfl rfl rfl rfl
attribute [go_sem] sg_dyad_fit
noncomputable def m_dyad_Fit_1 (a0_0 : Bool) (a1_1 : (List Nat)) (a2_2 : Int) : Option ((Bool × ((List Nat) × (Int × Unit))) ⊕ (Int × Unit)) :=
  ((m_dyad_fit a0_0 a1_1 a2_2)).bind (fun e => match e with | .inl r_8 => some (.inl r_8) | .inr p_9 => some (.inr p_9))
noncomputable def sg_dyad_Fit_1 : GSpec where
  D := Bool × (List Nat) × Int × ((Bool × ((List Nat) × (Int × Unit))) ⊕ (Int × Unit))
  av := fun d => [.val (.rp .bool) d.1, .val (.rp (.sl (.u .u64))) d.2.1, .val (.rp (.i .i64)) d.2.2.1]
  hp := fun d => []
  m := 0
  pre := fun d => m_dyad_Fit_1 d.1 d.2.1 d.2.2.1 = some d.2.2.2
  out := fun d => match d.2.2.2 with | .inl r => .ret (.val (.pair .bool (.pair (.sl (.u .u64)) (.pair (.i .i64) .unit))) r) [] | .inr p => .pan ⟨131, (.pair (.i .i64) .unit), p⟩ []
noncomputable def l_dyad_Fit_1 : List (FuncId × FSpec) := []
theorem K_dyad_Fit_1 : Known Tryd.prog GL l_dyad_Fit_1 := .nil
set_option maxHeartbeats 4000000 in
theorem og_dyad_Fit_1 : GOK Tryd.prog GL 70 sg_dyad_Fit_1 := by
 refine gok_lift (EM_ok K_dyad_Fit_1) Tryd.func70 rfl (by kernel_rfl) (fun _ => Nat.le_of_ble_eq_true rfl) fun c0 w0 d hw1 hw2 h hn => ?_
 have hF : FrOK ⟨Tryd.prog, EM l_dyad_Fit_1, GM sg_dyad_Fit_1 c0 d, w0, Tryd.f70.ntmps, []⟩ := ⟨EM_ok K_dyad_Fit_1, mix⟩
 obtain ⟨(a0_0 : Bool), (a1_1 : (List Nat)), (a2_2 : Int), r⟩ := d
 replace h : m_dyad_Fit_1 a0_0 a1_1 a2_2 = some r := h
 have hw1 : AV.wfL [.val (.rp .bool) a0_0, .val (.rp (.sl (.u .u64))) a1_1, .val (.rp (.i .i64)) a2_2] := hw1
 simp only [AV.wfL, AV.wfV, Ty.wf, fits64] at hw1
 show Tri _ _ _ [(0, .roa .bool a0_0), (1, .roa (.sl (.u .u64)) a1_1), (2, .roa (.i .i64) a2_2)] []
 unfold m_dyad_Fit_1 at h
 refine tri_seq (tri_regionB hF [0, 1, 2, 3] ?_)
 simp only [go_sem]
 obtain ⟨e, he1, h⟩ := bind_some h
 rcases e with r_8 | p_9
 ·try dsimp only at h
  refine at_next (tri_seq (tri_regionP hF (hits_of (l := [(71, ⟨sg_dyad_fit, [], (a0_0, a1_1, a2_2, .inl r_8)⟩)]) (.cons og_dyad_fit (by kernel_rfl) (.nil))) [3] [] ?_))
  simp only [go_sem]
  repeat (refine ⟨by first | with_reducible assumption | omega | (intros; first | assumption | omega) | (simp only [go_sem] at *; first | assumption | omega) | decide, ?_⟩)
  obtain rfl := Option.some.inj h
  refine at_next (tri_ret (at_retG2 hF [.cell 3 28] [] rfl rfl rfl rfl rfl rfl rfl rfl rfl ?_))
  (try simp only [resE, retV, fitT, fitV, noJunk, AV.isAgg, go_sem]) <;> first | trivial | rfl | (simp; done)
 ·try dsimp only at h
  refine at_next (tri_seq (tri_regionP hF (hits_of (l := [(71, ⟨sg_dyad_fit, [], (a0_0, a1_1, a2_2, .inr p_9)⟩)]) (.cons og_dyad_fit (by kernel_rfl) (.nil))) [3] [] ?_))
  simp only [go_sem]
  repeat (refine ⟨by first | with_reducible assumption | omega | (intros; first | assumption | omega) | (simp only [go_sem] at *; first | assumption | omega) | decide, ?_⟩)
  obtain rfl := Option.some.inj h
  refine atP_then (atP_ren [] rfl rfl ?_)
  simp only [ren, ren1, renO, posOf, posAll, go_sem]
  refine at_panG rfl rfl rfl rfl
attribute [go_sem] sg_dyad_Fit_1
end Nu
end Go.Proofs
namespace Go.Proofs
open Go.Vc
set_option maxRecDepth 20000
namespace Nu
theorem K_nil : Known Tryd.prog GL [] := .nil
def sd0_dyad_face : GSpec where
  D := (Bool × ((List Nat) × (Int × Unit))) × Int
  av := fun _ => [.ptr 0 [], .ptr 1 []]
  hp := fun d => [.box 3 (.val (.pair .bool (.pair (.sl (.u .u64)) (.pair (.i .i64) .unit))) d.1), .box 1 (.val (.i .i64) d.2)]
  m := 2
  pre := fun _ => True
  out := fun d => .ret (.tup []) [.box 3 (.val (.pair .bool (.pair (.sl (.u .u64)) (.pair (.i .i64) .unit))) d.1), .box 1 (.val (.i .i64) d.2)]
def sd1_dyad_face (x : (Int × Unit)) : GSpec where
  D := (Bool × ((List Nat) × (Int × Unit))) × Int
  av := fun _ => [.ptr 0 [], .ptr 1 []]
  hp := fun d => [.box 3 (.val (.pair .bool (.pair (.sl (.u .u64)) (.pair (.i .i64) .unit))) d.1), .box 1 (.val (.i .i64) d.2)]
  m := 2
  pre := fun _ => True
  out := fun d => .ret (.tup []) [.box 3 (.val (.pair .bool (.pair (.sl (.u .u64)) (.pair (.i .i64) .unit))) (false, ([] : List Nat), (0 : Int), ())), .box 1 (.val (.i .i64) x.1)]
theorem dok0_dyad_face : DOK Tryd.prog GL 96 none sd0_dyad_face := by
  refine dok_of (EM_ok K_nil) Tryd.func96 rfl (by kernel_rfl) (fun _ => Nat.le_of_ble_eq_true rfl) rfl fun c w d hw1 hw2 hp hn => ?_
  have hF : FrOK ⟨Tryd.prog, EM [], GM sd0_dyad_face c d, w, Tryd.f96.ntmps, []⟩ := ⟨EM_ok K_nil, mix⟩
  obtain ⟨d, e⟩ := d
  show seqB _ _ _ [(5, .val .nili ()), (0, .ptr 0 []), (1, .ptr 1 [])] [.box 3 (.val (.pair .bool (.pair (.sl (.u .u64)) (.pair (.i .i64) .unit))) d), .box 1 (.val (.i .i64) e)] _
  simp only [go_sem]
  refine tri_seq (tri_region hF [0, 1, 2, 9] ?_)
  simp only [go_sem]
  refine at_next (tri_cond rfl (fun hc => absurd hc (by decide)) (fun hc => ?_))
  refine tri_skip ?_
  refine at_ren [0, 1] rfl rfl ?_
  simp only [ren, ren1, renO, posOf, posAll, go_sem]
  refine at_endN (at_retG hF [] rfl rfl rfl rfl rfl rfl ?_)
  simp only [resE, retV, fitT, go_sem]
  try decide
theorem dok1_dyad_face (x : (Int × Unit)) : DOK Tryd.prog GL 96 (some ⟨131, (.pair (.i .i64) .unit), x⟩) (sd1_dyad_face x) := by
  refine dok_of (EM_ok K_nil) Tryd.func96 rfl (by kernel_rfl) (fun _ => Nat.le_of_ble_eq_true rfl) rfl fun c w d hw1 hw2 hp hn => ?_
  have hF : FrOK ⟨Tryd.prog, EM [], GM (sd1_dyad_face x) c d, w, Tryd.f96.ntmps, []⟩ := ⟨EM_ok K_nil, mix⟩
  obtain ⟨d, e⟩ := d
  show seqB _ _ _ [(5, .val (.ifc 131 (.pair (.i .i64) .unit)) x), (0, .ptr 0 []), (1, .ptr 1 [])] [.box 3 (.val (.pair .bool (.pair (.sl (.u .u64)) (.pair (.i .i64) .unit))) d), .box 1 (.val (.i .i64) e)] _
  simp only [go_sem]
  refine tri_seq (tri_region hF [0, 1, 2, 9] ?_)
  simp only [go_sem]
  refine at_next (tri_cond rfl (fun hc => ?_) (fun hc => absurd hc (by decide)))
  refine tri_regionN hF [] [] [.box 3 (.val (.pair .bool (.pair (.sl (.u .u64)) (.pair (.i .i64) .unit))) (false, ([] : List Nat), (0 : Int), ())), .box 1 (.val (.i .i64) x.1), .box 1 (.val (.pair (.i .i64) .unit) x)] (by decide) ?_ ?_
  · simp only [go_sem]
    unfold anyS
    intro i hi
    have hi : i = 0 ∨ i = 1 := by revert hi; revert i; decide
    rcases hi with rfl | rfl
    · simp only [go_sem]
      skip
      unfold anyS
      intro i hi
      have hi : i = 1 ∨ i = 3 := by revert hi; revert i; decide
      rcases hi with rfl | rfl
      · simp only [go_sem]
        skip
        unfold anyS
        intro i hi
        have hi : i = 2 ∨ i = 3 := by revert hi; revert i; decide
        rcases hi with rfl | rfl
        · simp only [go_sem]
          skip
          unfold anyS
          intro i hi
          have hi : i = 3 := by revert hi; revert i; decide
          subst hi
          simp only [go_sem]
          skip
          unfold anyS
          intro i hi
          have hi : i = 4 := by revert hi; revert i; decide
          subst hi
          simp only [go_sem]
          skip
          (simp only [anyS, go_sem]) <;> first | exact ⟨rfl, rfl⟩ | trivial
        · simp only [go_sem]
          skip
          unfold anyS
          intro i hi
          have hi : i = 2 := by revert hi; revert i; decide
          subst hi
          simp only [go_sem]
          skip
          unfold anyS
          intro i hi
          have hi : i = 4 := by revert hi; revert i; decide
          subst hi
          simp only [go_sem]
          skip
          (simp only [anyS, go_sem]) <;> first | exact ⟨rfl, rfl⟩ | trivial
      · simp only [go_sem]
        skip
        unfold anyS
        intro i hi
        have hi : i = 1 := by revert hi; revert i; decide
        subst hi
        simp only [go_sem]
        skip
        unfold anyS
        intro i hi
        have hi : i = 2 := by revert hi; revert i; decide
        subst hi
        simp only [go_sem]
        skip
        unfold anyS
        intro i hi
        have hi : i = 4 := by revert hi; revert i; decide
        subst hi
        simp only [go_sem]
        skip
        (simp only [anyS, go_sem]) <;> first | exact ⟨rfl, rfl⟩ | trivial
    · simp only [go_sem]
      skip
      unfold anyS
      intro i hi
      have hi : i = 0 ∨ i = 2 := by revert hi; revert i; decide
      rcases hi with rfl | rfl
      · simp only [go_sem]
        skip
        unfold anyS
        intro i hi
        have hi : i = 2 ∨ i = 3 := by revert hi; revert i; decide
        rcases hi with rfl | rfl
        · simp only [go_sem]
          skip
          unfold anyS
          intro i hi
          have hi : i = 3 := by revert hi; revert i; decide
          subst hi
          simp only [go_sem]
          skip
          unfold anyS
          intro i hi
          have hi : i = 4 := by revert hi; revert i; decide
          subst hi
          simp only [go_sem]
          skip
          (simp only [anyS, go_sem]) <;> first | exact ⟨rfl, rfl⟩ | trivial
        · simp only [go_sem]
          skip
          unfold anyS
          intro i hi
          have hi : i = 2 := by revert hi; revert i; decide
          subst hi
          simp only [go_sem]
          skip
          unfold anyS
          intro i hi
          have hi : i = 4 := by revert hi; revert i; decide
          subst hi
          simp only [go_sem]
          skip
          (simp only [anyS, go_sem]) <;> first | exact ⟨rfl, rfl⟩ | trivial
      · simp only [go_sem]
        skip
        unfold anyS
        intro i hi
        have hi : i = 0 := by revert hi; revert i; decide
        subst hi
        simp only [go_sem]
        skip
        unfold anyS
        intro i hi
        have hi : i = 3 := by revert hi; revert i; decide
        subst hi
        simp only [go_sem]
        skip
        unfold anyS
        intro i hi
        have hi : i = 4 := by revert hi; revert i; decide
        subst hi
        simp only [go_sem]
        skip
        (simp only [anyS, go_sem]) <;> first | exact ⟨rfl, rfl⟩ | trivial
  refine at_ren [0, 1] rfl rfl ?_
  simp only [ren, ren1, renO, posOf, posAll, go_sem]
  refine at_endN (at_retG hF [] rfl rfl rfl rfl rfl rfl ?_)
  simp only [resE, retV, fitT, go_sem]
  try decide
noncomputable def m_dyad_face__dyad_Fit_1 (c0 : Bool) (c1 : (List Nat)) (c2 : Int) : Option ((Bool × ((List Nat) × (Int × Unit))) × Int × Unit) :=
  (m_dyad_Fit_1 c0 c1 c2).bind fun q => some (match q with | .inl r => (r, 0, ()) | .inr p => ((false, ([] : List Nat), (0 : Int), ()), p.1, ()))
def a_dyad_face__dyad_Fit_1 : Ty := .pair (.clo 70 (.pair (.rp .bool) (.pair (.rp (.sl (.u .u64))) (.pair (.rp (.i .i64)) .unit)))) .unit
noncomputable def sm_dyad_face__dyad_Fit_1 : FSpec := mSpec a_dyad_face__dyad_Fit_1 (.tup (.pair (.pair .bool (.pair (.sl (.u .u64)) (.pair (.i .i64) .unit))) (.pair (.i .i64) .unit))) (fun x => m_dyad_face__dyad_Fit_1 x.1.1 x.1.2.1 x.1.2.2.1)
set_option maxHeartbeats 4000000 in
theorem om_dyad_face__dyad_Fit_1 : FOK Tryd.prog GL 69 sm_dyad_face__dyad_Fit_1 := by
 refine fokD_model (EM_ok K_nil) Tryd.func69 rfl (by kernel_rfl) (by decide) fun w0 S x r hw h => ?_
 have hF : FrOK (fr Tryd.prog (EM []) S w0 Tryd.f69.ntmps) := ⟨EM_ok K_nil, mix⟩
 obtain ⟨⟨(c0 : Bool), (c1 : (List Nat)), (c2 : Int), u1⟩, u⟩ := x
 replace h : m_dyad_face__dyad_Fit_1 c0 c1 c2 = some r := h
 show Tri _ _ _ [(0, .val (.clo 70 (.pair (.rp .bool) (.pair (.rp (.sl (.u .u64))) (.pair (.rp (.i .i64)) .unit)))) (c0, c1, c2, u1))] []
 unfold m_dyad_face__dyad_Fit_1 at h
 obtain ⟨q, hq, h⟩ := bind_some h
 obtain rfl := Option.some.inj h
 refine tri_seq (tri_regionB hF [0, 2, 3] ?_)
 simp only [go_sem]
 refine at_next (tri_seq_defer 2 [0, 1] rfl rfl (Nat.zero_le _) (by decide) fun roots hroots => ?_)
 have hF' : FrOK { fr Tryd.prog (EM []) S w0 Tryd.f69.ntmps with M := ⟨nothing, S, 2, roots⟩, ds := [⟨.fn (.func 96) ([0, 1].map roots).toArray, #[]⟩] } := ⟨EM_ok K_nil, mix⟩
 rcases q with q | q
 ·refine tri_seq (tri_regionP hF' (hits_of (l := [(70, ⟨sg_dyad_Fit_1, [], (c0, c1, c2, .inl q)⟩)]) (.cons og_dyad_Fit_1 (by kernel_rfl) .nil)) [2, 3] [] ?_)
  simp only [go_sem]
  refine ⟨hq, ?_⟩
  refine at_next (tri_ret ?_)
  refine at_retD (fn := Tryd.f69) (k := 2) (l2 := [0, 1]) hF' rfl rfl (by decide) rfl (fn_of_B (by kernel_rfl)) ⟨sd0_dyad_face, [0, 1], (q, 0)⟩ dok0_dyad_face rfl [.cell 2 28, .cell 3 3] rfl ?_ ?_
  ·(simp only [sd0_dyad_face, go_sem]) <;> first | decide | trivial
  ·(simp only [sd0_dyad_face, resE, retOK, go_sem]) <;> first | decide | trivial
 ·refine tri_seq (tri_regionP hF' (hits_of (l := [(70, ⟨sg_dyad_Fit_1, [], (c0, c1, c2, .inr q)⟩)]) (.cons og_dyad_Fit_1 (by kernel_rfl) .nil)) [2, 3] [] ?_)
  simp only [go_sem]
  refine ⟨hq, ?_⟩
  refine atP_then ?_
  refine at_panD (fn := Tryd.f69) (k := 2) (l2 := [0, 1]) hF' rfl rfl (by decide) rfl (fn_of_B (by kernel_rfl)) ⟨sd1_dyad_face q, [0, 1], ((false, ([] : List Nat), (0 : Int), ()), 0)⟩ (dok1_dyad_face q) rfl [.cell 2 28, .cell 3 3] rfl ?_ ?_
  ·(simp only [sd1_dyad_face, go_sem]) <;> first | decide | trivial
  ·(simp only [sd1_dyad_face, resE, retOK, go_sem]) <;> first | decide | trivial
attribute [go_sem] sm_dyad_face__dyad_Fit_1 a_dyad_face__dyad_Fit_1
noncomputable def m_dyad_Fit (neg_0 : Bool) (m_1 : (List Nat)) (e_2 : Int) : Option ((Bool × ((List Nat) × (Int × Unit))) × (Int × Unit)) :=
  ck (((m_dyad_face__dyad_Fit_1 neg_0 m_1 e_2).isSome = true)) (some ((((m_dyad_face__dyad_Fit_1 neg_0 m_1 e_2).getD ((false, ([] : List Nat), (0 : Int), ()), (0 : Int), ())).1), ((((m_dyad_face__dyad_Fit_1 neg_0 m_1 e_2).getD ((false, ([] : List Nat), (0 : Int), ()), (0 : Int), ())).2).1), ()))
def a_dyad_Fit : Ty := .pair .bool (.pair (.sl (.u .u64)) (.pair (.i .i64) .unit))
attribute [go_sem] a_dyad_Fit
noncomputable def sm_dyad_Fit : FSpec := mSpec a_dyad_Fit (.tup (.pair (.pair .bool (.pair (.sl (.u .u64)) (.pair (.i .i64) .unit))) (.pair (.i .i64) .unit))) (fun x => m_dyad_Fit x.1 x.2.1 x.2.2.1)
noncomputable def l_dyad_Fit : List (FuncId × FSpec) := [(69, sm_dyad_face__dyad_Fit_1)]
theorem K_dyad_Fit : Known Tryd.prog GL l_dyad_Fit := .cons om_dyad_face__dyad_Fit_1 (by kernel_rfl) (.nil)
theorem l_dyad_Fit_69 : gam l_dyad_Fit 69 = some sm_dyad_face__dyad_Fit_1 := rfl
attribute [go_sem] l_dyad_Fit_69
set_option maxHeartbeats 4000000 in
theorem om_dyad_Fit : FOK Tryd.prog GL 41 sm_dyad_Fit := by
 refine fok_model (EM_ok K_dyad_Fit) Tryd.func41 rfl (by kernel_rfl) (by decide) fun w0 S x r hw h => ?_
 have hF : FrOK (fr Tryd.prog (EM l_dyad_Fit) S w0 Tryd.f41.ntmps) := ⟨EM_ok K_dyad_Fit, mix⟩
 obtain ⟨(neg_0 : Bool), (m_1 : (List Nat)), (e_2 : Int), u⟩ := x
 simp only [a_dyad_Fit, Ty.wf, fits64] at hw
 simp only [args0, a_dyad_Fit]
 try dsimp only at h
 unfold m_dyad_Fit at h
 refine tri_seq (tri_regionB hF [3, 4, 5, 6] ?_)
 simp only [go_sem]
 refine at_next (tri_seq (tri_shut 0 rfl ?_))
 simp only [go_sem]
 refine tri_shut 1 rfl ?_
 simp only [go_sem]
 refine tri_shut 2 rfl ?_
 simp only [go_sem]
 refine tri_regionB hF [6, 7] ?_
 simp only [go_sem]
 obtain ⟨g0, h⟩ := ck_some h
 repeat (refine ⟨by first | with_reducible assumption | omega | (intros; first | assumption | omega) | (simp only [go_sem] at *; first | assumption | omega) | decide, ?_⟩)
 obtain rfl := Option.some.inj h
 refine at_next (tri_ret (at_retC hF [.cell 6 28, .tmp 7] rfl rfl rfl ?_))
 (try simp only [retOK, resE, go_sem]) <;> first | rfl | (simp; done)
attribute [go_sem] sm_dyad_Fit
end Nu
end Go.Proofs
namespace Go.Proofs
open Go.Vc
set_option maxRecDepth 20000
namespace Nu
abbrev p_nat_padded (a : List Nat) (n : Int) : Prop := a.length ≤ n ∧ n ≤ 1099511627777
def f_nat_padded (a : List Nat) (n : Int) : List Nat := a ++ List.replicate (n.toNat - a.length) 0
noncomputable def m_nat_padded (a_0 : (List Nat)) (n_1 : Int) : Option (List Nat) :=
  ck ((p64s a_0)) (ck (I64 (n_1 - (((a_0.length) : Nat) : Int))) (ck (0 ≤ (n_1 - (((a_0.length) : Nat) : Int))) (ck ((((id a_0).length) + ((n_1 - (((a_0.length) : Nat) : Int)).toNat)) * 8 ≤ 140737488355328) (some ((id a_0) ++ (List.replicate ((n_1 - (((a_0.length) : Nat) : Int)).toNat) (0 : Nat)))))))
theorem law_nat_padded (a : List Nat) (wa : (Ty.sl (.u .u64)).wf a) (n : Int) (wn : (Ty.i .i64).wf n) (hp : p_nat_padded a n) : m_nat_padded a n = some (f_nat_padded a n) := by
  obtain ⟨h1, h2⟩ := hp
  have h64 : p64s a := by show a.length * 8 ≤ _; omega
  unfold m_nat_padded f_nat_padded
  simp only [id]
  refine ck_to h64 (ck_to (by constructor <;> omega) (ck_to (by omega) (ck_to (by omega) ?_)))
  rw [show (n - (a.length : Int)).toNat = n.toNat - a.length from by omega]
noncomputable def m_nat_digit_j4 (v_1 : (List Nat)) (un_0 : Nat) (uo_0 : Nat) (x_13 : Nat) (carry_31 : Nat) (u_32 : (List Nat)) : Option (((Nat × (List Nat)))) :=
  ck (0 ≤ (((v_1.length) : Nat) : Int) ∧ (((v_1.length) : Nat) : Int) < ((un_0 : Nat) : Int)) (ck (uo_0 + (v_1.length) < (u_32.length)) (ck (0 ≤ (((v_1.length) : Nat) : Int) ∧ (((v_1.length) : Nat) : Int) < ((un_0 : Nat) : Int)) (ck (uo_0 + (v_1.length) < (u_32.length)) (some ((subU .u64 x_13 (1 : Nat)), (u_32.set (uo_0 + (v_1.length)) (((u_32.getD (uo_0 + (v_1.length)) (0 : Nat)) + carry_31) % 18446744073709551616)))))))
noncomputable def m_nat_digit_l26 (v_1 : (List Nat)) (un_0 : Nat) (uo_0 : Nat) (carry_33 : Nat) (x159_34 : Int) (u_35 : (List Nat)) : Option ((Nat × Int × (List Nat)) ⊕ ((Nat × (List Nat)))) :=
  if x159_34 < (((v_1.length) : Nat) : Int) then ck (0 ≤ x159_34 ∧ x159_34 < (((v_1.length) : Nat) : Int)) (ck (0 ≤ x159_34 ∧ x159_34 < ((un_0 : Nat) : Int)) (ck (uo_0 + (x159_34.toNat) < (u_35.length)) (ck ((pCarry (u_35.getD (uo_0 + (x159_34.toNat)) (0 : Nat)) (v_1.getD (x159_34.toNat) (0 : Nat)) carry_33)) (ck (0 ≤ x159_34 ∧ x159_34 < ((un_0 : Nat) : Int)) (ck (uo_0 + (x159_34.toNat) < (u_35.length)) (ck (I64 (x159_34 + (1 : Int))) (some (.inl ((((fAdd64 (u_35.getD (uo_0 + (x159_34.toNat)) (0 : Nat)) (v_1.getD (x159_34.toNat) (0 : Nat)) carry_33).2).1), (x159_34 + (1 : Int)), (u_35.set (uo_0 + (x159_34.toNat)) ((fAdd64 (u_35.getD (uo_0 + (x159_34.toNat)) (0 : Nat)) (v_1.getD (x159_34.toNat) (0 : Nat)) carry_33).1))))))))))) else some (.inr (carry_33, u_35))
noncomputable def m_nat_digit_j3 (v_1 : (List Nat)) (un_0 : Nat) (uo_0 : Nat) (x_13 : Nat) (carry_22 : Nat) (borrow_23 : Nat) (u_24 : (List Nat)) : Option (((Nat × (List Nat)))) :=
  ck (0 ≤ (((v_1.length) : Nat) : Int) ∧ (((v_1.length) : Nat) : Int) < ((un_0 : Nat) : Int)) (ck (uo_0 + (v_1.length) < (u_24.length)) (ck ((pCarry (u_24.getD (uo_0 + (v_1.length)) (0 : Nat)) carry_22 borrow_23)) (ck (0 ≤ (((v_1.length) : Nat) : Int) ∧ (((v_1.length) : Nat) : Int) < ((un_0 : Nat) : Int)) (ck (uo_0 + (v_1.length) < (u_24.length)) (if (((fSub64 (u_24.getD (uo_0 + (v_1.length)) (0 : Nat)) carry_22 borrow_23).2).1) = (0 : Nat) then some (x_13, (u_24.set (uo_0 + (v_1.length)) ((fSub64 (u_24.getD (uo_0 + (v_1.length)) (0 : Nat)) carry_22 borrow_23).1))) else (loopO (fun d : Nat × Int × (List Nat) => m_nat_digit_l26 v_1 un_0 uo_0 d.1 d.2.1 d.2.2) ((0 : Nat), (0 : Int), (u_24.set (uo_0 + (v_1.length)) ((fSub64 (u_24.getD (uo_0 + (v_1.length)) (0 : Nat)) carry_22 borrow_23).1)))).bind (fun e => m_nat_digit_j4 v_1 un_0 uo_0 x_13 e.1 e.2))))))
noncomputable def m_nat_digit_l13 (v_1 : (List Nat)) (x_13 : Nat) (un_0 : Nat) (uo_0 : Nat) (carry_41 : Nat) (borrow_42 : Nat) (x107_43 : Int) (u_44 : (List Nat)) : Option ((Nat × Nat × Int × (List Nat)) ⊕ ((Nat × Nat × (List Nat)))) :=
  if x107_43 < (((v_1.length) : Nat) : Int) then ck (0 ≤ x107_43 ∧ x107_43 < (((v_1.length) : Nat) : Int)) (ck ((pCarry (((f_bits_Mul64 x_13 (v_1.getD (x107_43.toNat) (0 : Nat))).2).1) carry_41 (0 : Nat))) (ck (0 ≤ x107_43 ∧ x107_43 < ((un_0 : Nat) : Int)) (ck (uo_0 + (x107_43.toNat) < (u_44.length)) (ck ((pCarry (u_44.getD (uo_0 + (x107_43.toNat)) (0 : Nat)) ((fAdd64 (((f_bits_Mul64 x_13 (v_1.getD (x107_43.toNat) (0 : Nat))).2).1) carry_41 (0 : Nat)).1) borrow_42)) (ck (0 ≤ x107_43 ∧ x107_43 < ((un_0 : Nat) : Int)) (ck (uo_0 + (x107_43.toNat) < (u_44.length)) (ck (I64 (x107_43 + (1 : Int))) (some (.inl (((((f_bits_Mul64 x_13 (v_1.getD (x107_43.toNat) (0 : Nat))).1) + (((fAdd64 (((f_bits_Mul64 x_13 (v_1.getD (x107_43.toNat) (0 : Nat))).2).1) carry_41 (0 : Nat)).2).1)) % 18446744073709551616), (((fSub64 (u_44.getD (uo_0 + (x107_43.toNat)) (0 : Nat)) ((fAdd64 (((f_bits_Mul64 x_13 (v_1.getD (x107_43.toNat) (0 : Nat))).2).1) carry_41 (0 : Nat)).1) borrow_42).2).1), (x107_43 + (1 : Int)), (u_44.set (uo_0 + (x107_43.toNat)) ((fSub64 (u_44.getD (uo_0 + (x107_43.toNat)) (0 : Nat)) ((fAdd64 (((f_bits_Mul64 x_13 (v_1.getD (x107_43.toNat) (0 : Nat))).2).1) carry_41 (0 : Nat)).1) borrow_42).1)))))))))))) else some (.inr (carry_41, borrow_42, u_44))
noncomputable def m_nat_digit_j2 (v_1 : (List Nat)) (un_0 : Nat) (uo_0 : Nat) (o0_2 : (List Nat)) (x_13 : Nat) : Option (((Nat × (List Nat)))) :=
  (loopO (fun d : Nat × Nat × Int × (List Nat) => m_nat_digit_l13 v_1 x_13 un_0 uo_0 d.1 d.2.1 d.2.2.1 d.2.2.2) ((0 : Nat), (0 : Nat), (0 : Int), o0_2)).bind (fun e => m_nat_digit_j3 v_1 un_0 uo_0 x_13 e.1 e.2.1 e.2.2)
noncomputable def m_nat_digit_l6 (v_1 : (List Nat)) (un_0 : Nat) (uo_0 : Nat) (o0_2 : (List Nat)) (x_52 : Nat) (rest_53 : Nat) (over_54 : Nat) : Option ((Nat × Nat × Nat) ⊕ ((Nat))) :=
  if over_54 = (0 : Nat) then ck (I64 ((((v_1.length) : Nat) : Int) - (2 : Int))) (ck (0 ≤ ((((v_1.length) : Nat) : Int) - (2 : Int)) ∧ ((((v_1.length) : Nat) : Int) - (2 : Int)) < (((v_1.length) : Nat) : Int)) (ck ((¬ (((f_bits_Mul64 x_52 (v_1.getD (((((v_1.length) : Nat) : Int) - (2 : Int)).toNat) (0 : Nat))).1) < rest_53) → (((f_bits_Mul64 x_52 (v_1.getD (((((v_1.length) : Nat) : Int) - (2 : Int)).toNat) (0 : Nat))).1) = rest_53) → (I64 ((((v_1.length) : Nat) : Int) - (2 : Int))))) (ck ((¬ (((f_bits_Mul64 x_52 (v_1.getD (((((v_1.length) : Nat) : Int) - (2 : Int)).toNat) (0 : Nat))).1) < rest_53) → (((f_bits_Mul64 x_52 (v_1.getD (((((v_1.length) : Nat) : Int) - (2 : Int)).toNat) (0 : Nat))).1) = rest_53) → (0 ≤ ((((v_1.length) : Nat) : Int) - (2 : Int)) ∧ ((((v_1.length) : Nat) : Int) - (2 : Int)) < ((un_0 : Nat) : Int) ∧ uo_0 + (((((v_1.length) : Nat) : Int) - (2 : Int)).toNat) < (o0_2.length)))) (if (((f_bits_Mul64 x_52 (v_1.getD (((((v_1.length) : Nat) : Int) - (2 : Int)).toNat) (0 : Nat))).1) < rest_53) ∨ ((((f_bits_Mul64 x_52 (v_1.getD (((((v_1.length) : Nat) : Int) - (2 : Int)).toNat) (0 : Nat))).1) = rest_53) ∧ ((((f_bits_Mul64 x_52 (v_1.getD (((((v_1.length) : Nat) : Int) - (2 : Int)).toNat) (0 : Nat))).2).1) ≤ (o0_2.getD (uo_0 + (((((v_1.length) : Nat) : Int) - (2 : Int)).toNat)) (0 : Nat)))) then some (.inr x_52) else ck (I64 ((((v_1.length) : Nat) : Int) - (1 : Int))) (ck (0 ≤ ((((v_1.length) : Nat) : Int) - (1 : Int)) ∧ ((((v_1.length) : Nat) : Int) - (1 : Int)) < (((v_1.length) : Nat) : Int)) (ck ((pCarry rest_53 (v_1.getD (((((v_1.length) : Nat) : Int) - (1 : Int)).toNat) (0 : Nat)) (0 : Nat))) (some (.inl ((subU .u64 x_52 (1 : Nat)), ((fAdd64 rest_53 (v_1.getD (((((v_1.length) : Nat) : Int) - (1 : Int)).toNat) (0 : Nat)) (0 : Nat)).1), (((fAdd64 rest_53 (v_1.getD (((((v_1.length) : Nat) : Int) - (1 : Int)).toNat) (0 : Nat)) (0 : Nat)).2).1)))))))))) else some (.inr x_52)
noncomputable def m_nat_digit_j1 (v_1 : (List Nat)) (un_0 : Nat) (uo_0 : Nat) (o0_2 : (List Nat)) (x_4 : Nat) (rest_5 : Nat) (over_6 : Nat) : Option (((Nat × (List Nat)))) :=
  (loopO (fun d : Nat × Nat × Nat => m_nat_digit_l6 v_1 un_0 uo_0 o0_2 d.1 d.2.1 d.2.2) (x_4, rest_5, over_6)).bind (fun e => m_nat_digit_j2 v_1 un_0 uo_0 o0_2 e)
noncomputable def m_nat_digit (uo_0 : Nat) (un_0 : Nat) (v_1 : (List Nat)) (o0_2 : (List Nat)) : Option ((Nat × (List Nat))) :=
  ck (0 ≤ (((v_1.length) : Nat) : Int) ∧ (((v_1.length) : Nat) : Int) < ((un_0 : Nat) : Int)) (ck (uo_0 + (v_1.length) < (o0_2.length)) (ck (I64 ((((v_1.length) : Nat) : Int) - (1 : Int))) (ck (0 ≤ ((((v_1.length) : Nat) : Int) - (1 : Int)) ∧ ((((v_1.length) : Nat) : Int) - (1 : Int)) < (((v_1.length) : Nat) : Int)) (if (o0_2.getD (uo_0 + (v_1.length)) (0 : Nat)) < (v_1.getD (((((v_1.length) : Nat) : Int) - (1 : Int)).toNat) (0 : Nat)) then ck (0 ≤ (((v_1.length) : Nat) : Int) ∧ (((v_1.length) : Nat) : Int) < ((un_0 : Nat) : Int)) (ck (uo_0 + (v_1.length) < (o0_2.length)) (ck (I64 ((((v_1.length) : Nat) : Int) - (1 : Int))) (ck (0 ≤ ((((v_1.length) : Nat) : Int) - (1 : Int)) ∧ ((((v_1.length) : Nat) : Int) - (1 : Int)) < ((un_0 : Nat) : Int)) (ck (uo_0 + (((((v_1.length) : Nat) : Int) - (1 : Int)).toNat) < (o0_2.length)) (ck (I64 ((((v_1.length) : Nat) : Int) - (1 : Int))) (ck (0 ≤ ((((v_1.length) : Nat) : Int) - (1 : Int)) ∧ ((((v_1.length) : Nat) : Int) - (1 : Int)) < (((v_1.length) : Nat) : Int)) (ck ((p_bits_Div64 (o0_2.getD (uo_0 + (v_1.length)) (0 : Nat)) (o0_2.getD (uo_0 + (((((v_1.length) : Nat) : Int) - (1 : Int)).toNat)) (0 : Nat)) (v_1.getD (((((v_1.length) : Nat) : Int) - (1 : Int)).toNat) (0 : Nat)))) (m_nat_digit_j1 v_1 un_0 uo_0 o0_2 ((f_bits_Div64 (o0_2.getD (uo_0 + (v_1.length)) (0 : Nat)) (o0_2.getD (uo_0 + (((((v_1.length) : Nat) : Int) - (1 : Int)).toNat)) (0 : Nat)) (v_1.getD (((((v_1.length) : Nat) : Int) - (1 : Int)).toNat) (0 : Nat))).1) (((f_bits_Div64 (o0_2.getD (uo_0 + (v_1.length)) (0 : Nat)) (o0_2.getD (uo_0 + (((((v_1.length) : Nat) : Int) - (1 : Int)).toNat)) (0 : Nat)) (v_1.getD (((((v_1.length) : Nat) : Int) - (1 : Int)).toNat) (0 : Nat))).2).1) (0 : Nat))))))))) else ck (I64 ((((v_1.length) : Nat) : Int) - (1 : Int))) (ck (0 ≤ ((((v_1.length) : Nat) : Int) - (1 : Int)) ∧ ((((v_1.length) : Nat) : Int) - (1 : Int)) < ((un_0 : Nat) : Int)) (ck (uo_0 + (((((v_1.length) : Nat) : Int) - (1 : Int)).toNat) < (o0_2.length)) (ck (I64 ((((v_1.length) : Nat) : Int) - (1 : Int))) (ck (0 ≤ ((((v_1.length) : Nat) : Int) - (1 : Int)) ∧ ((((v_1.length) : Nat) : Int) - (1 : Int)) < (((v_1.length) : Nat) : Int)) (ck ((pCarry (o0_2.getD (uo_0 + (((((v_1.length) : Nat) : Int) - (1 : Int)).toNat)) (0 : Nat)) (v_1.getD (((((v_1.length) : Nat) : Int) - (1 : Int)).toNat) (0 : Nat)) (0 : Nat))) (m_nat_digit_j1 v_1 un_0 uo_0 o0_2 (18446744073709551615 : Nat) ((fAdd64 (o0_2.getD (uo_0 + (((((v_1.length) : Nat) : Int) - (1 : Int)).toNat)) (0 : Nat)) (v_1.getD (((((v_1.length) : Nat) : Int) - (1 : Int)).toNat) (0 : Nat)) (0 : Nat)).1) (((fAdd64 (o0_2.getD (uo_0 + (((((v_1.length) : Nat) : Int) - (1 : Int)).toNat)) (0 : Nat)) (v_1.getD (((((v_1.length) : Nat) : Int) - (1 : Int)).toNat) (0 : Nat)) (0 : Nat)).2).1)))))))))))
end Nu
end Go.Proofs
namespace Go.Proofs
open Go.Vc
set_option maxRecDepth 20000
namespace Nu
structure DgN (X V P v1 v0 U2 U1 U0 : Nat) : Prop where
  hP : 0 < P
  hX : X / P = (U2 * 18446744073709551616 + U1) * 18446744073709551616 + U0
  hV : V / P = v1 * 18446744073709551616 + v0
  v1l : 9223372036854775808 ≤ v1
  v1h : v1 < 18446744073709551616
  v0h : v0 < 18446744073709551616
  u2h : U2 < 18446744073709551616
  u1h : U1 < 18446744073709551616
  u0h : U0 < 18446744073709551616
  hq : X < 18446744073709551616 * V
variable {X V P v1 v0 U2 U1 U0 : Nat}
theorem DgN_le (h : DgN X V P v1 v0 U2 U1 U0) : U2 ≤ v1 := by
  have h1 : V < (V / P + 1) * P := by rw [Nat.mul_comm]; exact Nat.lt_mul_div_succ V h.hP
  have h2 : X / P < 18446744073709551616 * (V / P + 1) := by
    refine (Nat.div_lt_iff_lt_mul h.hP).2 (Nat.lt_of_lt_of_le h.hq ?_)
    rw [Nat.mul_assoc]
    exact Nat.mul_le_mul_left _ (Nat.le_of_lt h1)
  rw [h.hX, h.hV] at h2
  have a := h.v0h
  have b := h.u0h
  have c := h.u1h
  omega
theorem DgN_Q (h : DgN X V P v1 v0 U2 U1 U0) : X / V * (v1 * 18446744073709551616 + v0) ≤ (U2 * 18446744073709551616 + U1) * 18446744073709551616 + U0 := by
  rw [← h.hX, ← h.hV]
  refine (Nat.le_div_iff_mul_le h.hP).2 ?_
  rw [Nat.mul_assoc]
  exact Nat.le_trans (Nat.mul_le_mul_left _ (Nat.div_mul_le_self V P)) (Nat.div_mul_le_self X V)
theorem mul_two (x v1 v0 : Nat) : x * (v1 * 18446744073709551616 + v0) = x * v1 * 18446744073709551616 + x * v0 := by rw [Nat.mul_add, Nat.mul_assoc]
theorem DgN_ge (h : DgN X V P v1 v0 U2 U1 U0) : X / V ≤ (U2 * 18446744073709551616 + U1) / v1 := by
  refine (Nat.le_div_iff_mul_le (by have := h.v1l; omega)).2 ?_
  have h1 := DgN_Q h
  rw [mul_two] at h1
  have b := h.u0h
  generalize X / V * v1 = A at *
  generalize X / V * v0 = C at *
  omega
theorem DgN_lt (h : DgN X V P v1 v0 U2 U1 U0) : X / V < 18446744073709551616 := (Nat.div_lt_iff_lt_mul (by
  have := h.hq
  rcases Nat.eq_zero_or_pos V with h0 | h0
  · subst h0; simp at this
  · exact h0)).2 h.hq
theorem DgN_top (h : DgN X V P v1 v0 U2 U1 U0) {x : Nat} (hx : x < 18446744073709551616) (hl : x * (v1 * 18446744073709551616 + v0) ≤ (U2 * 18446744073709551616 + U1) * 18446744073709551616 + U0) : x ≤ X / V + 1 := by
  rcases x with _ | y
  · exact Nat.zero_le _
  refine Nat.succ_le_succ ?_
  have hVp : 0 < V := by
    rcases Nat.eq_zero_or_pos V with h0 | h0
    · have := h.hq; subst h0; simp at this
    · exact h0
  refine (Nat.le_div_iff_mul_le hVp).2 ?_
  rw [← h.hX, ← h.hV] at hl
  have e := Nat.div_add_mod V P
  have m := Nat.mod_lt V h.hP
  have h1 : (y + 1) * (V / P) * P ≤ X := Nat.le_trans (Nat.mul_le_mul_right P hl) (Nat.div_mul_le_self X P)
  have h2 : y * (V % P) ≤ 18446744073709551616 * P := Nat.mul_le_mul (by omega) (Nat.le_of_lt m)
  have h3 : 18446744073709551616 * P ≤ V / P * P := Nat.mul_le_mul_right _ (by rw [h.hV]; have := h.v1l; omega)
  have h4 : y * V = y * (V / P) * P + y * (V % P) := by
    conv => lhs; rw [← e]
    rw [Nat.mul_add, Nat.mul_comm P, Nat.mul_assoc]
  rw [h4]
  rw [Nat.add_mul, Nat.add_mul, Nat.one_mul] at h1
  generalize y * (V / P) * P = A at *
  generalize y * (V % P) = C at *
  generalize V / P * P = D at *
  generalize 18446744073709551616 * P = E at *
  omega
structure DgL (v1 U2 U1 Q x rest over : Nat) : Prop where
  eq : x * v1 + (rest + over * 18446744073709551616) = U2 * 18446744073709551616 + U1
  r1 : rest < 18446744073709551616
  o1 : over ≤ 1
  x1 : x < 18446744073709551616
  ge : Q ≤ x
theorem test_lin {A C hi lo r u2 u1 u0 : Nat} (d : 18446744073709551616 * hi + lo = C) (m : lo < 18446744073709551616) (e : A + (r + 0 * 18446744073709551616) = u2 * 18446744073709551616 + u1) (hr : r < 18446744073709551616) (hu : u0 < 18446744073709551616) : (hi < r ∨ hi = r ∧ lo ≤ u0) ↔ A * 18446744073709551616 + C ≤ (u2 * 18446744073709551616 + u1) * 18446744073709551616 + u0 := by
  have e2 : (u2 * 18446744073709551616 + u1) * 18446744073709551616 = A * 18446744073709551616 + r * 18446744073709551616 := by rw [← e, Nat.zero_mul, Nat.add_zero, Nat.add_mul]
  rw [e2]
  omega
theorem step_lin {A r v1 u2 u1 : Nat} (e : A + 1 * v1 + (r + 0 * 18446744073709551616) = u2 * 18446744073709551616 + u1) : A + ((r + v1 + 0) % 18446744073709551616 + (r + v1 + 0) / 18446744073709551616 * 18446744073709551616) = u2 * 18446744073709551616 + u1 := by
  have d := Nat.div_add_mod (r + v1 + 0) 18446744073709551616
  omega
theorem DgL_test {Q x rest : Nat} (hv0 : v0 < 18446744073709551616) (hu0 : U0 < 18446744073709551616) (h : DgL v1 U2 U1 Q x rest 0) : (x * v0 / 18446744073709551616 < rest ∨ x * v0 / 18446744073709551616 = rest ∧ x * v0 % 18446744073709551616 ≤ U0) ↔ x * (v1 * 18446744073709551616 + v0) ≤ (U2 * 18446744073709551616 + U1) * 18446744073709551616 + U0 := by
  have e := h.eq
  rw [mul_two]
  have d := Nat.div_add_mod (x * v0) 18446744073709551616
  have m := Nat.mod_lt (x * v0) (show 0 < 18446744073709551616 by decide)
  exact test_lin d m e h.r1 hu0
theorem DgL_end {Q x rest : Nat} (hv0 : v0 < 18446744073709551616) (h : DgL v1 U2 U1 Q x rest 1) : x * (v1 * 18446744073709551616 + v0) ≤ (U2 * 18446744073709551616 + U1) * 18446744073709551616 + U0 := by
  have e := h.eq
  have r := h.r1
  have p : x * v0 ≤ 18446744073709551615 * 18446744073709551615 := Nat.mul_le_mul (by have := h.x1; omega) (by omega)
  rw [mul_two]
  generalize x * v1 = A at *
  generalize x * v0 = C at *
  omega
theorem DgL_step {Q x rest : Nat} (hv1 : v1 < 18446744073709551616) (hQ : Q * (v1 * 18446744073709551616 + v0) ≤ (U2 * 18446744073709551616 + U1) * 18446744073709551616 + U0) (h : DgL v1 U2 U1 Q x rest 0) (hc : ¬ x * (v1 * 18446744073709551616 + v0) ≤ (U2 * 18446744073709551616 + U1) * 18446744073709551616 + U0) :
    subU .u64 x 1 = x - 1 ∧ x - 1 < x ∧ DgL v1 U2 U1 Q (x - 1) ((rest + v1 + 0) % 18446744073709551616) ((rest + v1 + 0) / 18446744073709551616) := by
  have hlt : Q < x := by
    refine Nat.lt_of_mul_lt_mul_right (a := v1 * 18446744073709551616 + v0) ?_
    omega
  have e := h.eq
  have r := h.r1
  have x1 := h.x1
  obtain ⟨y, rfl⟩ : ∃ y, x = y + 1 := ⟨x - 1, by omega⟩
  rw [Nat.add_mul] at e
  refine ⟨sub64 x1 (by omega), by omega, ⟨?_, Nat.mod_lt _ (by decide), by omega, by omega, by omega⟩⟩
  exact step_lin e
theorem guess_l6 {v o : List Nat} {j un : Nat} (hn : 2 ≤ v.length) (hs : v.length ≤ 9000000000000) (hu : un = v.length + 1) (ho : j + un ≤ o.length)
    (h : DgN X V P (v.getD (v.length - 1) 0) (v.getD (v.length - 2) 0) U2 U1 (o.getD (j + (v.length - 2)) 0)) {x rest over : Nat} (hi : DgL (v.getD (v.length - 1) 0) U2 U1 (X / V) x rest over) :
    ∃ e, loopO (fun d : Nat × Nat × Nat => m_nat_digit_l6 v un j o d.1 d.2.1 d.2.2) (x, rest, over) = some e ∧ X / V ≤ e ∧ e ≤ X / V + 1 ∧ e < 18446744073709551616 := by
  have e1 : ((v.length : Int) - 1).toNat = v.length - 1 := by omega
  have e2 : ((v.length : Int) - 2).toNat = v.length - 2 := by omega
  refine loopO_post (step := fun d : Nat × Nat × Nat => m_nat_digit_l6 v un j o d.1 d.2.1 d.2.2) (I := fun d => DgL (v.getD (v.length - 1) 0) U2 U1 (X / V) d.1 d.2.1 d.2.2) (fun d => d.1) (fun e => X / V ≤ e ∧ e ≤ X / V + 1 ∧ e < 18446744073709551616) ?_ (x, rest, over) hi
  rintro ⟨x, rest, over⟩ hi
  have hi : DgL (v.getD (v.length - 1) 0) U2 U1 (X / V) x rest over := hi
  show (∃ d', m_nat_digit_l6 v un j o x rest over = _ ∧ _) ∨ ∃ e, m_nat_digit_l6 v un j o x rest over = _ ∧ _
  unfold m_nat_digit_l6
  rw [e1, e2]
  by_cases h0 : over = 0
  · subst h0
    have ht := DgL_test h.v0h h.u0h hi
    rw [if_pos rfl]
    by_cases hc : x * (v.getD (v.length - 1) 0 * 18446744073709551616 + v.getD (v.length - 2) 0) ≤ (U2 * 18446744073709551616 + U1) * 18446744073709551616 + o.getD (j + (v.length - 2)) 0
    · right
      refine ⟨x, ?_, hi.ge, DgN_top h hi.x1 hc, hi.x1⟩
      refine ck_to (by constructor <;> omega) (ck_to (by constructor <;> omega) (ck_to (fun _ _ => by constructor <;> omega) (ck_to (fun _ _ => by omega) ?_)))
      exact (if_pos (ht.2 hc))
    · left
      obtain ⟨s1, s2, s3⟩ := DgL_step h.v1h (DgN_Q h) hi hc
      refine ⟨(x - 1, (rest + v.getD (v.length - 1) 0 + 0) % 18446744073709551616, (rest + v.getD (v.length - 1) 0 + 0) / 18446744073709551616), ?_, s3, s2⟩
      refine ck_to (by constructor <;> omega) (ck_to (by constructor <;> omega) (ck_to (fun _ _ => by constructor <;> omega) (ck_to (fun _ _ => by omega) ?_)))
      refine (if_neg (fun hh => hc (ht.1 hh))).trans ?_
      rw [s1]
      exact ck_to (by constructor <;> omega) (ck_to (by constructor <;> omega) (ck_to (Nat.zero_le _) rfl))
  · right
    have h1 : over = 1 := by have := hi.o1; omega
    subst h1
    exact ⟨x, by rw [if_neg h0], hi.ge, DgN_top h hi.x1 (DgL_end h.v0h hi), hi.x1⟩
end Nu
end Go.Proofs
namespace Go.Proofs
open Go.Vc
set_option maxRecDepth 20000
namespace Nu
theorem mulsub_limb {x y c b o lo hi z c' d b' : Nat} (e : 18446744073709551616 * hi + lo = x * y) (hlo : lo < 18446744073709551616) (hp : x * y ≤ 18446744073709551615 * 18446744073709551615) (hc : c < 18446744073709551616) (hb : b ≤ 1) (ho : o < 18446744073709551616)
    (hz : z = (lo + c + 0) % 18446744073709551616) (hc' : c' = (hi + (lo + c + 0) / 18446744073709551616) % 18446744073709551616) (hd : d = (o + 18446744073709551616 - z - b) % 18446744073709551616) (hb' : b' = if o < z + b then 1 else 0) :
    d + x * y + c + b = o + 18446744073709551616 * (c' + b') ∧ d < 18446744073709551616 ∧ c' < 18446744073709551616 ∧ b' ≤ 1 := by
  generalize x * y = w at *
  subst hz hc' hd hb'
  split <;> omega
theorem ms_sum {N N' N0 Q R P o d c b c' b' x y t : Nat} (hP : P = Q * R) (h1 : N' + P * o = N + P * d) (h2 : N + Q * x * t = N0 + P * (c + b)) (h3 : d + x * y + c + b = o + 18446744073709551616 * (c' + b')) : N' + Q * x * (t + R * y) = N0 + P * 18446744073709551616 * (c' + b') := by
  have e := congrArg (P * ·) h3
  simp only [Nat.mul_add] at e
  have e2 : P * (x * y) = Q * x * (R * y) := by
    rw [hP, Nat.mul_assoc, Nat.mul_assoc]; congr 1; rw [Nat.mul_left_comm]
  rw [Nat.mul_add] at h2 ⊢
  rw [Nat.mul_assoc P 18446744073709551616, Nat.mul_add 18446744073709551616, Nat.mul_add P]
  omega
theorem ab_sum {N N' N0 Q R P o d c c' y t : Nat} (hP : P = Q * R) (h1 : N' + P * o = N + P * d) (h2 : N + P * c = N0 + Q * t) (h3 : d + 18446744073709551616 * c' = o + y + c) : N' + P * 18446744073709551616 * c' = N0 + Q * (t + R * y) := by
  have e := congrArg (P * ·) h3
  simp only [Nat.mul_add] at e
  have e2 : P * y = Q * (R * y) := by rw [hP, Nat.mul_assoc]
  rw [Nat.mul_add, Nat.mul_assoc P 18446744073709551616]
  omega
structure MsI (v u : List Nat) (x j : Nat) (c b : Nat) (i : Int) (w : List Nat) : Prop where
  i0 : 0 ≤ i
  i1 : i ≤ v.length
  len : w.length = u.length
  lm : Lm w
  c1 : c < 18446744073709551616
  b1 : b ≤ 1
  rest : w.drop (j + i.toNat) = u.drop (j + i.toNat)
  sum : nv w + 18446744073709551616 ^ j * x * nv (v.take i.toNat) = nv u + 18446744073709551616 ^ (j + i.toNat) * (c + b)
structure AbI (v u : List Nat) (j : Nat) (c : Nat) (i : Int) (w : List Nat) : Prop where
  i0 : 0 ≤ i
  i1 : i ≤ v.length
  len : w.length = u.length
  lm : Lm w
  c1 : c ≤ 1
  rest : w.drop (j + i.toNat) = u.drop (j + i.toNat)
  sum : nv w + 18446744073709551616 ^ (j + i.toNat) * c = nv u + 18446744073709551616 ^ j * nv (v.take i.toNat)
theorem MsI_step {v u : List Nat} {x j c b : Nat} {i : Int} {w : List Nat} (hl : j + v.length < u.length) (h : MsI v u x j c b i w) (hi : i < v.length) {d c' b' : Nat} (hd : d < 18446744073709551616) (hc' : c' < 18446744073709551616) (hb' : b' ≤ 1)
    (e : d + x * v.getD i.toNat 0 + c + b = w.getD (j + i.toNat) 0 + 18446744073709551616 * (c' + b')) : MsI v u x j c' b' (i + 1) (w.set (j + i.toNat) d) := by
  have h0 := h.i0
  have hlen := h.len
  have e1 : (i + 1).toNat = i.toNat + 1 := by omega
  refine ⟨by omega, by omega, by rw [List.length_set]; exact hlen, Lm_set h.lm _ hd, hc', hb', ?_, ?_⟩
  · rw [e1, ← Nat.add_assoc, drop_set]; exact drop_next h.rest
  · rw [e1, nv_take_more, ← Nat.add_assoc, Nat.pow_succ]
    exact ms_sum (R := 18446744073709551616 ^ i.toNat) (Nat.pow_add _ _ _) (nv_set (by omega)) h.sum e
theorem AbI_step {v u : List Nat} {j c : Nat} {i : Int} {w : List Nat} (hl : j + v.length < u.length) (h : AbI v u j c i w) (hi : i < v.length) {d c' : Nat} (hd : d < 18446744073709551616) (hc' : c' ≤ 1)
    (e : d + 18446744073709551616 * c' = w.getD (j + i.toNat) 0 + v.getD i.toNat 0 + c) : AbI v u j c' (i + 1) (w.set (j + i.toNat) d) := by
  have h0 := h.i0
  have hlen := h.len
  have e1 : (i + 1).toNat = i.toNat + 1 := by omega
  refine ⟨by omega, by omega, by rw [List.length_set]; exact hlen, Lm_set h.lm _ hd, hc', ?_, ?_⟩
  · rw [e1, ← Nat.add_assoc, drop_set]; exact drop_next h.rest
  · rw [e1, nv_take_more, ← Nat.add_assoc, Nat.pow_succ]
    exact ab_sum (R := 18446744073709551616 ^ i.toNat) (Nat.pow_add _ _ _) (nv_set (by omega)) h.sum e
theorem digit_l13 {v u : List Nat} {x j un : Nat} (lv : Lm v) (hx : x < 18446744073709551616) (hs : v.length ≤ 9000000000000) (hu : un = v.length + 1) (ho : j + un ≤ u.length) (lu : Lm u) :
    ∃ e, loopO (fun d : Nat × Nat × Int × (List Nat) => m_nat_digit_l13 v x un j d.1 d.2.1 d.2.2.1 d.2.2.2) (0, 0, 0, u) = some e ∧ MsI v u x j e.1 e.2.1 v.length e.2.2 := by
  refine loopO_post (step := fun d : Nat × Nat × Int × (List Nat) => m_nat_digit_l13 v x un j d.1 d.2.1 d.2.2.1 d.2.2.2) (I := fun d => MsI v u x j d.1 d.2.1 d.2.2.1 d.2.2.2) (fun d => (v.length - d.2.2.1).toNat) (fun e => MsI v u x j e.1 e.2.1 v.length e.2.2) ?_ (0, 0, 0, u) ⟨by simp, by simp, rfl, lu, by simp, by simp, rfl, by simp [nv]⟩
  rintro ⟨c, b, i, w⟩ h
  have h : MsI v u x j c b i w := h
  have h0 := h.i0
  have hlen := h.len
  show (∃ d', m_nat_digit_l13 v x un j c b i w = _ ∧ _) ∨ ∃ e, m_nat_digit_l13 v x un j c b i w = _ ∧ _
  unfold m_nat_digit_l13
  by_cases hi : i < v.length
  · left
    have hy := getD_lt lv i.toNat
    have hw := getD_lt h.lm (j + i.toNat)
    have hb := h.b1
    obtain ⟨k1, k2, k3, k4⟩ := mulsub_limb (b' := if w.getD (j + i.toNat) 0 < (x * v.getD i.toNat 0 % 18446744073709551616 + c + 0) % 18446744073709551616 + b then 1 else 0) (Nat.div_add_mod (x * v.getD i.toNat 0) 18446744073709551616) (Nat.mod_lt _ (by decide)) (Nat.mul_le_mul (by omega) (by omega)) h.c1 hb hw rfl rfl rfl rfl
    refine ⟨((x * v.getD i.toNat 0 / 18446744073709551616 + (x * v.getD i.toNat 0 % 18446744073709551616 + c + 0) / 18446744073709551616) % 18446744073709551616, (if w.getD (j + i.toNat) 0 < (x * v.getD i.toNat 0 % 18446744073709551616 + c + 0) % 18446744073709551616 + b then 1 else 0), i + 1, w.set (j + i.toNat) ((w.getD (j + i.toNat) 0 + 18446744073709551616 - (x * v.getD i.toNat 0 % 18446744073709551616 + c + 0) % 18446744073709551616 - b) % 18446744073709551616)), ?_, MsI_step (by omega) h hi k2 k3 k4 k1, by simp only; omega⟩
    rw [if_pos hi]
    exact ck_to (by constructor <;> omega) (ck_to (Nat.zero_le _) (ck_to (by constructor <;> omega) (ck_to (by omega) (ck_to hb (ck_to (by constructor <;> omega) (ck_to (by omega) (ck_to (by constructor <;> omega) rfl)))))))
  · right
    refine ⟨(c, b, w), by rw [if_neg hi], ?_⟩
    have e : i = v.length := by have := h.i1; omega
    rw [e] at h
    exact h
theorem digit_l26 {v u : List Nat} {j un : Nat} (lv : Lm v) (hs : v.length ≤ 9000000000000) (hu : un = v.length + 1) (ho : j + un ≤ u.length) (lu : Lm u) :
    ∃ e, loopO (fun d : Nat × Int × (List Nat) => m_nat_digit_l26 v un j d.1 d.2.1 d.2.2) (0, 0, u) = some e ∧ AbI v u j e.1 v.length e.2 := by
  refine loopO_post (step := fun d : Nat × Int × (List Nat) => m_nat_digit_l26 v un j d.1 d.2.1 d.2.2) (I := fun d => AbI v u j d.1 d.2.1 d.2.2) (fun d => (v.length - d.2.1).toNat) (fun e => AbI v u j e.1 v.length e.2) ?_ (0, 0, u) ⟨by simp, by simp, rfl, lu, by simp, rfl, by simp [nv]⟩
  rintro ⟨c, i, w⟩ h
  have h : AbI v u j c i w := h
  have h0 := h.i0
  have hlen := h.len
  show (∃ d', m_nat_digit_l26 v un j c i w = _ ∧ _) ∨ ∃ e, m_nat_digit_l26 v un j c i w = _ ∧ _
  unfold m_nat_digit_l26
  by_cases hi : i < v.length
  · left
    have hy := getD_lt lv i.toNat
    have hw := getD_lt h.lm (j + i.toNat)
    have hc := h.c1
    have k1 := Nat.div_add_mod (w.getD (j + i.toNat) 0 + v.getD i.toNat 0 + c) 18446744073709551616
    refine ⟨(_, _, _), ?_, AbI_step (d := (w.getD (j + i.toNat) 0 + v.getD i.toNat 0 + c) % 18446744073709551616) (c' := (w.getD (j + i.toNat) 0 + v.getD i.toNat 0 + c) / 18446744073709551616) (by omega) h hi (Nat.mod_lt _ (by decide)) (by omega) (by rw [Nat.add_comm]; exact k1), by simp only; omega⟩
    rw [if_pos hi]
    refine ck_to (by constructor <;> omega) (ck_to (by constructor <;> omega) (ck_to (by omega) (ck_to hc (ck_to (by constructor <;> omega) (ck_to (by omega) (ck_to (by constructor <;> omega) ?_))))))
    simp only [fAdd64]
  · right
    refine ⟨(c, w), by rw [if_neg hi], ?_⟩
    have e : i = v.length := by have := h.i1; omega
    rw [e] at h
    exact h
theorem hi_zero {w u : List Nat} {K : Nat} (lw : Lm w) (lu : Lm u) (h : w.drop K = u.drop K) (hu : nv u < 18446744073709551616 ^ K) : nv w < 18446744073709551616 ^ K := by
  have hp : 0 < 18446744073709551616 ^ K := Nat.pow_pos (by decide)
  have h1 := nv_drop lw K
  rw [h, nv_drop lu, Nat.div_eq_of_lt hu] at h1
  exact (Nat.div_eq_zero_iff_lt hp).1 h1.symm
theorem fin_zero {N N3 W x : Nat} {Q : Nat} (hW : 0 < W) (hQ : Q = N / W) (hx : Q ≤ x) (h : N3 + x * W = N) : x = Q ∧ N3 + Q * W = N := by
  have h1 : x ≤ N / W := (Nat.le_div_iff_mul_le hW).2 (by omega)
  have : x = Q := by omega
  subst this
  exact ⟨rfl, h⟩
theorem fin_one {N N3 N4 N5 W x T S o4 c : Nat} {Q : Nat} (hQ : Q = N / W) (hx1 : Q ≤ x) (hx2 : x ≤ Q + 1) (h3 : N3 + x * W = N + T) (hT3 : N3 < T) (h4 : N4 + S * c = N3 + W) (h5 : N5 + S * o4 = N4 + S * ((o4 + c) % 18446744073709551616)) (hT5 : N5 < T) (hT : T = S * 18446744073709551616) (ho : o4 < 18446744073709551616) (hc : c ≤ 1) :
    x = Q + 1 ∧ N5 + Q * W = N := by
  have hle : Q * W ≤ N := by rw [hQ]; exact Nat.div_mul_le_self N W
  have hx : x = Q + 1 := by
    rcases Nat.lt_or_ge Q x with h | h
    · omega
    · have : x = Q := by omega
      subst this
      omega
  subst hx
  refine ⟨rfl, ?_⟩
  rw [Nat.add_mul, Nat.one_mul] at h3
  rcases Nat.lt_or_ge (o4 + c) 18446744073709551616 with h | h
  · rw [Nat.mod_eq_of_lt h, Nat.mul_add] at h5
    omega
  · have e : (o4 + c) % 18446744073709551616 = 0 := by omega
    have e2 : S * 18446744073709551616 = S * o4 + S * c := by rw [← Nat.mul_add]; congr 1; omega
    rw [e, Nat.mul_zero, Nat.add_zero] at h5
    omega
theorem law_nat_digit {v u : List Nat} {j un : Nat} (lv : Lm v) (lu : Lm u) (hn : 2 ≤ v.length) (hs : v.length ≤ 9000000000000) (hu : un = v.length + 1) (ho : j + un ≤ u.length)
    (hv : 9223372036854775808 ≤ v.getD (v.length - 1) 0) (hq : nv u < 18446744073709551616 ^ (j + 1) * nv v) :
    ∃ w, m_nat_digit j un v u = some (nv u / (18446744073709551616 ^ j * nv v), w) ∧ w.length = u.length ∧ Lm w ∧ nv w + nv u / (18446744073709551616 ^ j * nv v) * (18446744073709551616 ^ j * nv v) = nv u := by
  have hVB := nv_lt lv
  have hJ : 0 < 18446744073709551616 ^ j := Nat.pow_pos (by decide)
  have hX : nv u / 18446744073709551616 ^ j < 18446744073709551616 * nv v := (Nat.div_lt_iff_lt_mul hJ).2 (by rw [Nat.pow_succ, Nat.mul_assoc] at hq; rw [Nat.mul_comm]; exact hq)
  have hqq : nv u / 18446744073709551616 ^ j / nv v = nv u / (18446744073709551616 ^ j * nv v) := Nat.div_div_eq_div_mul _ _ _
  have hNT : nv u < 18446744073709551616 ^ (j + v.length + 1) := by
    refine Nat.lt_of_lt_of_le hq ?_
    rw [show j + v.length + 1 = j + 1 + v.length from by omega, Nat.pow_add _ (j + 1)]
    exact Nat.mul_le_mul_left _ (Nat.le_of_lt hVB)
  have hD : DgN (nv u / 18446744073709551616 ^ j) (nv v) (18446744073709551616 ^ (v.length - 2)) (v.getD (v.length - 1) 0) (v.getD (v.length - 2) 0) (u.getD (j + v.length) 0) (u.getD (j + (v.length - 1)) 0) (u.getD (j + (v.length - 2)) 0) := by
    refine ⟨Nat.pow_pos (by decide), ?_, ?_, hv, getD_lt lv _, getD_lt lv _, getD_lt lu _, getD_lt lu _, getD_lt lu _, hX⟩
    · have e1 : j + (v.length - 1) = j + (v.length - 2) + 1 := by omega
      have e2 : j + v.length = j + (v.length - 2) + 1 + 1 := by omega
      have hz : nv u / 18446744073709551616 ^ (j + (v.length - 2)) < 18446744073709551616 * 18446744073709551616 * 18446744073709551616 := by
        refine (Nat.div_lt_iff_lt_mul (Nat.pow_pos (by decide))).2 ?_
        rw [show j + v.length + 1 = j + (v.length - 2) + 1 + 1 + 1 from by omega, Nat.pow_succ, Nat.pow_succ, Nat.pow_succ] at hNT
        rw [Nat.mul_comm, ← Nat.mul_assoc, ← Nat.mul_assoc]
        exact hNT
      rw [getD_nv lu, getD_nv lu, getD_nv lu, e1, e2, Nat.pow_succ, Nat.pow_succ, ← Nat.div_div_eq_div_mul, ← Nat.div_div_eq_div_mul, Nat.div_div_eq_div_mul _ (18446744073709551616 ^ j), ← Nat.pow_add]
      generalize nv u / 18446744073709551616 ^ (j + (v.length - 2)) = z at *
      omega
    · have hz : nv v / 18446744073709551616 ^ (v.length - 2) < 18446744073709551616 * 18446744073709551616 := by
        refine (Nat.div_lt_iff_lt_mul (Nat.pow_pos (by decide))).2 ?_
        have h := hVB
        rw [show v.length = v.length - 2 + 1 + 1 from by omega, Nat.pow_succ, Nat.pow_succ] at h
        rw [Nat.mul_comm, ← Nat.mul_assoc]
        exact h
      rw [getD_nv lv, getD_nv lv, show v.length - 1 = v.length - 2 + 1 from by omega, Nat.pow_succ, ← Nat.div_div_eq_div_mul]
      generalize nv v / 18446744073709551616 ^ (v.length - 2) = z at *
      omega
  have e1 : ((v.length : Int) - 1).toNat = v.length - 1 := by omega
  rw [← hqq]
  have hV0 : 0 < nv v := by
    rcases Nat.eq_zero_or_pos (nv v) with h | h
    · rw [h] at hq; simp at hq
    · exact h
  have hW : 0 < 18446744073709551616 ^ j * nv v := Nat.mul_pos hJ hV0
  have main : ∀ x, nv u / 18446744073709551616 ^ j / nv v ≤ x → x ≤ nv u / 18446744073709551616 ^ j / nv v + 1 → x < 18446744073709551616 → ∃ w, m_nat_digit_j2 v un j u x = some (nv u / 18446744073709551616 ^ j / nv v, w) ∧ w.length = u.length ∧ Lm w ∧ nv w + nv u / 18446744073709551616 ^ j / nv v * (18446744073709551616 ^ j * nv v) = nv u := by
    intro x hx1 hx2 hx3
    obtain ⟨⟨c, b, w⟩, m1, m2⟩ := digit_l13 (j := j) lv hx3 hs hu ho lu
    have m2 : MsI v u x j c b v.length w := m2
    have hlen := m2.len
    have ho2 := getD_lt m2.lm (j + v.length)
    have hc := m2.c1
    have hb := m2.b1
    have hrest := m2.rest
    have hsum := m2.sum
    rw [Int.toNat_natCast] at hrest hsum
    rw [List.take_length] at hsum
    have hset := nv_set (a := w) (k := j + v.length) (v := (w.getD (j + v.length) 0 + 18446744073709551616 - c - b) % 18446744073709551616) (by omega)
    have lw2 : Lm (w.set (j + v.length) ((w.getD (j + v.length) 0 + 18446744073709551616 - c - b) % 18446744073709551616)) := Lm_set m2.lm _ (Nat.mod_lt _ (by decide))
    have hr2 : (w.set (j + v.length) ((w.getD (j + v.length) 0 + 18446744073709551616 - c - b) % 18446744073709551616)).drop (j + v.length + 1) = u.drop (j + v.length + 1) := by
      rw [drop_set]; exact drop_next hrest
    have hT3 := hi_zero lw2 lu hr2 hNT
    have hx : 18446744073709551616 ^ j * x * nv v = x * (18446744073709551616 ^ j * nv v) := by rw [Nat.mul_comm (18446744073709551616 ^ j) x, Nat.mul_assoc]
    rw [hx] at hsum
    unfold m_nat_digit_j2
    rw [m1]
    simp only [Option.bind_some]
    unfold m_nat_digit_j3
    by_cases hbo : w.getD (j + v.length) 0 < c + b
    ·
      have hd : (w.getD (j + v.length) 0 + 18446744073709551616 - c - b) % 18446744073709551616 + c + b = w.getD (j + v.length) 0 + 18446744073709551616 := by omega
      have h3 : nv (w.set (j + v.length) ((w.getD (j + v.length) 0 + 18446744073709551616 - c - b) % 18446744073709551616)) + x * (18446744073709551616 ^ j * nv v) = nv u + 18446744073709551616 ^ (j + v.length + 1) := by
        have e := congrArg (18446744073709551616 ^ (j + v.length) * ·) hd
        simp only [Nat.mul_add] at e hsum
        rw [Nat.pow_succ]
        omega
      have hb1 : ¬ (fSub64 (w.getD (j + v.length) 0) c b).2.1 = 0 := by show ¬ (if w.getD (j + v.length) 0 < c + b then 1 else 0) = 0; rw [if_pos hbo]; decide
      have hl3 : (w.set (j + v.length) ((w.getD (j + v.length) 0 + 18446744073709551616 - c - b) % 18446744073709551616)).length = u.length := by rw [List.length_set]; exact hlen
      obtain ⟨w3, hw3⟩ : ∃ w3, w3 = w.set (j + v.length) ((w.getD (j + v.length) 0 + 18446744073709551616 - c - b) % 18446744073709551616) := ⟨_, rfl⟩
      have hw3' : w.set (j + v.length) (fSub64 (w.getD (j + v.length) 0) c b).1 = w3 := hw3.symm
      rw [← hw3] at h3 hT3 lw2 hr2 hl3
      obtain ⟨⟨c4, w4⟩, n1, n2⟩ := digit_l26 (u := w3) (j := j) lv hs hu (by omega) lw2
      have n2 : AbI v w3 j c4 v.length w4 := n2
      have hl4 := n2.len
      have ho4 := getD_lt n2.lm (j + v.length)
      have hrest4 := n2.rest
      have hsum4 := n2.sum
      rw [Int.toNat_natCast] at hrest4 hsum4
      rw [List.take_length] at hsum4
      have hset4 := nv_set (a := w4) (k := j + v.length) (v := (w4.getD (j + v.length) 0 + c4) % 18446744073709551616) (by omega)
      have lw5 : Lm (w4.set (j + v.length) ((w4.getD (j + v.length) 0 + c4) % 18446744073709551616)) := Lm_set n2.lm _ (Nat.mod_lt _ (by decide))
      have hr5 : (w4.set (j + v.length) ((w4.getD (j + v.length) 0 + c4) % 18446744073709551616)).drop (j + v.length + 1) = u.drop (j + v.length + 1) := by
        rw [drop_set, ← hr2]; exact drop_next hrest4
      have hT5 := hi_zero lw5 lu hr5 hNT
      obtain ⟨f1, f2⟩ := fin_one hqq hx1 hx2 h3 hT3 hsum4 hset4 hT5 (Nat.pow_succ ..) ho4 n2.c1
      refine ⟨_, ck_to (by constructor <;> omega) (ck_to (by omega) (ck_to hb (ck_to (by constructor <;> omega) (ck_to (by omega) ?_)))), ?_, lw5, f2⟩
      · refine (if_neg hb1).trans ?_
        rw [hw3']
        refine bind_to n1 ?_
        unfold m_nat_digit_j4
        refine ck_to (by constructor <;> omega) (ck_to (by simp only; omega) (ck_to (by constructor <;> omega) (ck_to (by simp only; omega) ?_)))
        rw [sub64 hx3 (by rw [f1]; exact Nat.succ_le_succ (Nat.zero_le _)), f1, Nat.add_sub_cancel]
      · rw [List.length_set]; omega
    · have hd : (w.getD (j + v.length) 0 + 18446744073709551616 - c - b) % 18446744073709551616 + c + b = w.getD (j + v.length) 0 := by omega
      have h3 : nv (w.set (j + v.length) ((w.getD (j + v.length) 0 + 18446744073709551616 - c - b) % 18446744073709551616)) + x * (18446744073709551616 ^ j * nv v) = nv u := by
        have e := congrArg (18446744073709551616 ^ (j + v.length) * ·) hd
        simp only [Nat.mul_add] at e hsum
        omega
      have hb0 : (fSub64 (w.getD (j + v.length) 0) c b).2.1 = 0 := if_neg hbo
      obtain ⟨f1, f2⟩ := fin_zero hW hqq hx1 h3
      refine ⟨_, ck_to (by constructor <;> omega) (ck_to (by omega) (ck_to hb (ck_to (by constructor <;> omega) (ck_to (by omega) ?_)))), ?_, lw2, f2⟩
      · refine (if_pos hb0).trans ?_
        rw [f1]; rfl
      · rw [List.length_set]; exact hlen
  have start : ∀ x rest over, DgL (v.getD (v.length - 1) 0) (u.getD (j + v.length) 0) (u.getD (j + (v.length - 1)) 0) (nv u / 18446744073709551616 ^ j / nv v) x rest over → ∃ w, m_nat_digit_j1 v un j u x rest over = some (nv u / 18446744073709551616 ^ j / nv v, w) ∧ w.length = u.length ∧ Lm w ∧ nv w + nv u / 18446744073709551616 ^ j / nv v * (18446744073709551616 ^ j * nv v) = nv u := by
    intro x rest over hL
    obtain ⟨e, g1, g2, g3, g4⟩ := guess_l6 hn hs hu ho hD hL
    obtain ⟨w, k1, k2⟩ := main e g2 g3 g4
    refine ⟨w, ?_, k2⟩
    unfold m_nat_digit_j1
    exact bind_to g1 k1
  have hu1 := getD_lt lu (j + (v.length - 1))
  have hu2 := getD_lt lu (j + v.length)
  have hv1 := getD_lt lv (v.length - 1)
  have hge := DgN_ge hD
  have hlt := DgN_lt hD
  have hle := DgN_le hD
  unfold m_nat_digit
  rw [e1]
  by_cases hc : u.getD (j + v.length) 0 < v.getD (v.length - 1) 0
  · have hdm := Nat.div_add_mod (u.getD (j + v.length) 0 * 18446744073709551616 + u.getD (j + (v.length - 1)) 0) (v.getD (v.length - 1) 0)
    have hml := Nat.mod_lt (u.getD (j + v.length) 0 * 18446744073709551616 + u.getD (j + (v.length - 1)) 0) (show 0 < v.getD (v.length - 1) 0 by omega)
    have hdl : (u.getD (j + v.length) 0 * 18446744073709551616 + u.getD (j + (v.length - 1)) 0) / v.getD (v.length - 1) 0 < 18446744073709551616 := by
      refine (Nat.div_lt_iff_lt_mul (by omega)).2 ?_
      have := Nat.mul_le_mul_right 18446744073709551616 (show u.getD (j + v.length) 0 + 1 ≤ v.getD (v.length - 1) 0 from hc)
      rw [Nat.mul_comm 18446744073709551616]; omega
    obtain ⟨w, k1, k2⟩ := start _ _ 0 ⟨by rw [Nat.zero_mul, Nat.add_zero, Nat.mul_comm]; exact hdm, Nat.lt_trans hml hv1, by decide, hdl, hge⟩
    refine ⟨w, ?_, k2⟩
    refine ck_to (by constructor <;> omega) (ck_to (by omega) (ck_to (by constructor <;> omega) (ck_to (by constructor <;> omega) ?_)))
    refine (if_pos hc).trans ?_
    exact ck_to (by constructor <;> omega) (ck_to (by omega) (ck_to (by constructor <;> omega) (ck_to (by constructor <;> omega) (ck_to (by omega) (ck_to (by constructor <;> omega) (ck_to (by constructor <;> omega) (ck_to hc k1)))))))
  · have hd := Nat.div_add_mod (u.getD (j + (v.length - 1)) 0 + v.getD (v.length - 1) 0 + 0) 18446744073709551616
    obtain ⟨w, k1, k2⟩ := start 18446744073709551615 ((u.getD (j + (v.length - 1)) 0 + v.getD (v.length - 1) 0 + 0) % 18446744073709551616) ((u.getD (j + (v.length - 1)) 0 + v.getD (v.length - 1) 0 + 0) / 18446744073709551616) ⟨by omega, Nat.mod_lt _ (by decide), by omega, by decide, by omega⟩
    refine ⟨w, ?_, k2⟩
    refine ck_to (by constructor <;> omega) (ck_to (by omega) (ck_to (by constructor <;> omega) (ck_to (by constructor <;> omega) ?_)))
    refine (if_neg hc).trans ?_
    exact ck_to (by constructor <;> omega) (ck_to (by constructor <;> omega) (ck_to (by omega) (ck_to (by constructor <;> omega) (ck_to (by constructor <;> omega) (ck_to (Nat.zero_le _) k1)))))
end Nu
end Go.Proofs
namespace Go.Proofs
open Go.Vc
set_option maxRecDepth 20000
namespace Nu
abbrev p_nat_QuoRem (a b : List Nat) : Prop := Nrm a ∧ Nrm b ∧ nv b ≠ 0 ∧ a.length ≤ 1099511627776
def f_nat_QuoRem (a b : List Nat) : List Nat × List Nat × Unit := (lb (nv a / nv b), lb (nv a % nv b), ())
noncomputable def m_nat_QuoRem_j1 (b_1 : (List Nat)) (u_11 : (List Nat)) (q_12 : (List Nat)) : Option (((List Nat) × ((List Nat) × Unit))) :=
  ck (0 ≤ (((b_1.length) : Nat) : Int) ∧ (((b_1.length) : Nat) : Int) ≤ (((u_11.length) : Nat) : Int)) (ck ((pRight (f_nat_trim (List.take (b_1.length) u_11)) (f_bits_LeadingZeros64 (b_1.getD (((((b_1.length) : Nat) : Int) - (1 : Int)).toNat) (0 : Nat))))) (some ((f_nat_trim q_12), (f_nat_Right (f_nat_trim (List.take (b_1.length) u_11)) (f_bits_LeadingZeros64 (b_1.getD (((((b_1.length) : Nat) : Int) - (1 : Int)).toNat) (0 : Nat)))), ())))
noncomputable def m_nat_QuoRem_l9 (b_1 : (List Nat)) (j_14 : Int) (u_15 : (List Nat)) (q_16 : (List Nat)) : Option ((Int × (List Nat) × (List Nat)) ⊕ (((List Nat) × (List Nat)))) :=
  if (0 : Int) ≤ j_14 then ck (I64 (j_14 + (((b_1.length) : Nat) : Int))) (ck (I64 ((j_14 + (((b_1.length) : Nat) : Int)) + (1 : Int))) (ck (0 ≤ j_14 ∧ j_14 < ((j_14 + (((b_1.length) : Nat) : Int)) + (1 : Int)) ∧ ((j_14 + (((b_1.length) : Nat) : Int)) + (1 : Int)) ≤ (((u_15.length) : Nat) : Int)) (((m_nat_digit (j_14.toNat) ((((j_14 + (((b_1.length) : Nat) : Int)) + (1 : Int)) - j_14).toNat) (f_nat_padded (f_nat_Left b_1 (f_bits_LeadingZeros64 (b_1.getD (((((b_1.length) : Nat) : Int) - (1 : Int)).toNat) (0 : Nat)))) (((b_1.length) : Nat) : Int)) u_15)).bind (fun r_24 => ck (0 ≤ j_14 ∧ j_14 < (((q_16.length) : Nat) : Int)) (ck (I64 (j_14 - (1 : Int))) (some (.inl ((j_14 - (1 : Int)), (r_24.2), (q_16.set (j_14.toNat) (r_24.1)))))))))) else some (.inr (u_15, q_16))
noncomputable def m_nat_QuoRem (a_0 : (List Nat)) (b_1 : (List Nat)) : Option ((List Nat) × ((List Nat) × Unit)) :=
  ck ((pNrm2 a_0 b_1)) (if (f_nat_Order a_0 b_1) < (0 : Int) then ck ((p64s a_0)) (some (([] : List Nat), (id a_0), ())) else if (((b_1.length) : Nat) : Int) = (1 : Int) then ck ((0 : Int) < (((b_1.length) : Nat) : Int)) (ck ((p_nat_short a_0 (b_1.getD (0 : Nat) (0 : Nat)))) (some (((f_nat_short a_0 (b_1.getD (0 : Nat) (0 : Nat))).1), (((f_nat_short a_0 (b_1.getD (0 : Nat) (0 : Nat))).2).1), ()))) else ck (I64 ((((b_1.length) : Nat) : Int) - (1 : Int))) (ck (0 ≤ ((((b_1.length) : Nat) : Int) - (1 : Int)) ∧ ((((b_1.length) : Nat) : Int) - (1 : Int)) < (((b_1.length) : Nat) : Int)) (ck ((pLeft b_1 (f_bits_LeadingZeros64 (b_1.getD (((((b_1.length) : Nat) : Int) - (1 : Int)).toNat) (0 : Nat))))) (ck ((p_nat_padded (f_nat_Left b_1 (f_bits_LeadingZeros64 (b_1.getD (((((b_1.length) : Nat) : Int) - (1 : Int)).toNat) (0 : Nat)))) (((b_1.length) : Nat) : Int))) (ck ((pLeft a_0 (f_bits_LeadingZeros64 (b_1.getD (((((b_1.length) : Nat) : Int) - (1 : Int)).toNat) (0 : Nat))))) (ck (I64 ((((a_0.length) : Nat) : Int) + (1 : Int))) (ck ((p_nat_padded (f_nat_Left a_0 (f_bits_LeadingZeros64 (b_1.getD (((((b_1.length) : Nat) : Int) - (1 : Int)).toNat) (0 : Nat)))) ((((a_0.length) : Nat) : Int) + (1 : Int)))) (ck (I64 ((((a_0.length) : Nat) : Int) - (((b_1.length) : Nat) : Int))) (ck (I64 (((((a_0.length) : Nat) : Int) - (((b_1.length) : Nat) : Int)) + (1 : Int))) (ck (0 ≤ (((((a_0.length) : Nat) : Int) - (((b_1.length) : Nat) : Int)) + (1 : Int))) (ck ((8 : Int) * (((((a_0.length) : Nat) : Int) - (((b_1.length) : Nat) : Int)) + (1 : Int)) ≤ 281474976710656) (ck (I64 ((((a_0.length) : Nat) : Int) - (((b_1.length) : Nat) : Int))) ((loopO (fun d : Int × (List Nat) × (List Nat) => m_nat_QuoRem_l9 b_1 d.1 d.2.1 d.2.2) (((((a_0.length) : Nat) : Int) - (((b_1.length) : Nat) : Int)), (f_nat_padded (f_nat_Left a_0 (f_bits_LeadingZeros64 (b_1.getD (((((b_1.length) : Nat) : Int) - (1 : Int)).toNat) (0 : Nat)))) ((((a_0.length) : Nat) : Int) + (1 : Int))), (List.replicate ((((((a_0.length) : Nat) : Int) - (((b_1.length) : Nat) : Int)) + (1 : Int)).toNat) (0 : Nat)))).bind (fun e => m_nat_QuoRem_j1 b_1 e.1 e.2))))))))))))))
theorem nv_padded {a : List Nat} {n : Int} : nv (f_nat_padded a n) = nv a := by
  unfold f_nat_padded; rw [nv_app, nv_rep, Nat.mul_zero, Nat.add_zero]
theorem len_padded {a : List Nat} {n : Int} (h : a.length ≤ n) : (f_nat_padded a n).length = n.toNat := by
  unfold f_nat_padded; rw [List.length_append, List.length_replicate]; omega
theorem Lm_padded {a : List Nat} {n : Int} (h : Lm a) : Lm (f_nat_padded a n) := Lm_app h (Lm_rep _)
theorem top_limb {b : List Nat} (lb' : Lm b) (hn : Nrm b) (h0 : nv b ≠ 0) : 0 < b.length ∧ 1 ≤ b.getD (b.length - 1) 0 ∧ b.getD (b.length - 1) 0 * 18446744073709551616 ^ (b.length - 1) ≤ nv b ∧ nv b < (b.getD (b.length - 1) 0 + 1) * 18446744073709551616 ^ (b.length - 1) := by
  have hne : b ≠ [] := fun e => h0 (by rw [e]; rfl)
  have hl : 0 < b.length := List.length_pos_iff.2 hne
  have hp : 0 < 18446744073709551616 ^ (b.length - 1) := Nat.pow_pos (by decide)
  have hge := nv_ge hn hne
  have hlt := nv_lt lb'
  have ht : b.getD (b.length - 1) 0 = nv b / 18446744073709551616 ^ (b.length - 1) := by
    rw [getD_nv lb']
    refine Nat.mod_eq_of_lt ((Nat.div_lt_iff_lt_mul hp).2 ?_)
    rw [Nat.mul_comm, ← Nat.pow_succ, show (b.length - 1).succ = b.length from by omega]
    exact hlt
  rw [ht]
  exact ⟨hl, (Nat.le_div_iff_mul_le hp).2 (by omega), Nat.div_mul_le_self _ _, by rw [Nat.mul_comm]; exact Nat.lt_mul_div_succ _ hp⟩
theorem top_moved {b : List Nat} (lb' : Lm b) (hn : Nrm b) (h0 : nv b ≠ 0) : nv b * 2 ^ (64 - bl (b.getD (b.length - 1) 0)) < 18446744073709551616 ^ b.length ∧ 9223372036854775808 * 18446744073709551616 ^ (b.length - 1) ≤ nv b * 2 ^ (64 - bl (b.getD (b.length - 1) 0)) := by
  obtain ⟨hl, h1, h2, h3⟩ := top_limb lb' hn h0
  have hb := bl64 (getD_lt lb' (b.length - 1))
  have hlow := bl_low (x := b.getD (b.length - 1) 0) (by omega)
  have hlt := bl_lt (b.getD (b.length - 1) 0)
  have hpos := bl_pos (x := b.getD (b.length - 1) 0) (by omega)
  generalize b.getD (b.length - 1) 0 = t at *
  have hp := Nat.two_pow_pos (64 - bl t)
  have e1 : 2 ^ bl t * 2 ^ (64 - bl t) = 18446744073709551616 := by rw [← Nat.pow_add, show bl t + (64 - bl t) = 64 from by omega]
  have e2 : 2 ^ (bl t - 1) * 2 ^ (64 - bl t) = 9223372036854775808 := by rw [← Nat.pow_add, show bl t - 1 + (64 - bl t) = 63 from by omega]
  constructor
  · have k1 : (t + 1) * 2 ^ (64 - bl t) ≤ 18446744073709551616 := by rw [← e1]; exact Nat.mul_le_mul_right _ hlt
    have k2 := Nat.mul_lt_mul_of_pos_right h3 hp
    refine Nat.lt_of_lt_of_le k2 ?_
    rw [Nat.mul_right_comm, show 18446744073709551616 ^ b.length = 18446744073709551616 * 18446744073709551616 ^ (b.length - 1) from by rw [Nat.mul_comm, ← Nat.pow_succ]; congr 1; omega]
    exact Nat.mul_le_mul_right _ k1
  · have k1 : 9223372036854775808 ≤ t * 2 ^ (64 - bl t) := by rw [← e2]; exact Nat.mul_le_mul_right _ hlow
    refine Nat.le_trans (Nat.mul_le_mul_right _ k1) ?_
    rw [Nat.mul_right_comm]
    exact Nat.mul_le_mul_right _ h2
structure QrI (m n V N : Nat) (j : Int) (u q : List Nat) : Prop where
  j0 : -1 ≤ j
  j1 : j ≤ m
  ul : u.length = m + n + 1
  lu : Lm u
  ql : q.length = m + 1
  lq : Lm q
  lt : nv u < 18446744073709551616 ^ (j + 1).toNat * V
  lo : ∃ t, nv q = 18446744073709551616 ^ (j + 1).toNat * t
  sum : nv q * V + nv u = N
theorem QrI_step {m n V N : Nat} {j : Int} {u q w : List Nat} (h : QrI m n V N j u q) (hj : 0 ≤ j) (hw : w.length = u.length) (lw : Lm w) (hV : 0 < V)
    (e : nv w + nv u / (18446744073709551616 ^ j.toNat * V) * (18446744073709551616 ^ j.toNat * V) = nv u) : QrI m n V N (j - 1) w (q.set j.toNat (nv u / (18446744073709551616 ^ j.toNat * V))) := by
  have h1 := h.j1
  have hql := h.ql
  have hul := h.ul
  have e1 : (j + 1).toNat = j.toNat + 1 := by omega
  have e2 : (j - 1 + 1).toNat = j.toNat := by omega
  have hW : 0 < 18446744073709551616 ^ j.toNat * V := Nat.mul_pos (Nat.pow_pos (by decide)) hV
  have hlt := h.lt
  obtain ⟨t, ht⟩ := h.lo
  rw [e1] at hlt ht
  have hQ : nv u / (18446744073709551616 ^ j.toNat * V) < 18446744073709551616 := by
    refine (Nat.div_lt_iff_lt_mul hW).2 ?_
    rw [Nat.pow_succ, Nat.mul_comm (18446744073709551616 ^ j.toNat) 18446744073709551616, Nat.mul_assoc] at hlt
    exact hlt
  have hz : q.getD j.toNat 0 = 0 := by
    rw [getD_nv h.lq, ht, Nat.pow_succ, Nat.mul_assoc, Nat.mul_div_cancel_left _ (Nat.pow_pos (by decide)), Nat.mul_mod_right]
  have hset := nv_set (a := q) (k := j.toNat) (v := nv u / (18446744073709551616 ^ j.toNat * V)) (by omega)
  rw [hz, Nat.mul_zero, Nat.add_zero] at hset
  have hwm : nv w = nv u % (18446744073709551616 ^ j.toNat * V) := by
    have d := Nat.div_add_mod (nv u) (18446744073709551616 ^ j.toNat * V)
    rw [Nat.mul_comm] at d
    omega
  refine ⟨by omega, by omega, by omega, lw, by rw [List.length_set]; exact hql, Lm_set h.lq _ hQ, ?_, ?_, ?_⟩
  · rw [e2, hwm]; exact Nat.mod_lt _ hW
  · rw [e2, hset, ht, Nat.pow_succ, Nat.mul_assoc, ← Nat.mul_add]; exact ⟨_, rfl⟩
  · have hs := h.sum
    rw [hset, Nat.add_mul, Nat.mul_right_comm, Nat.mul_comm (18446744073709551616 ^ j.toNat * V)]
    omega
theorem law_nat_QuoRem (a : List Nat) (wa : (Ty.sl (.u .u64)).wf a) (b : List Nat) (wb : (Ty.sl (.u .u64)).wf b) (hp : p_nat_QuoRem a b) : m_nat_QuoRem a b = some (f_nat_QuoRem a b) := by
  obtain ⟨na, nb, hb0, sa⟩ := hp
  have la := wf_Lm wa
  have lb' := wf_Lm wb
  obtain ⟨hl, t1, t2, t3⟩ := top_limb lb' nb hb0
  obtain ⟨v1, v2⟩ := top_moved lb' nb hb0
  have h64 := bl64 (getD_lt lb' (b.length - 1))
  have hpos := bl_pos (x := b.getD (b.length - 1) 0) (by omega)
  unfold m_nat_QuoRem
  refine ck_to ⟨na, nb⟩ (if_to (fun hc => ?_) (fun hc => if_to (fun h1 => ?_) (fun h1 => ?_)))
  · have hlt : nv a < nv b := by
      unfold f_nat_Order ordN at hc
      split at hc
      · assumption
      · split at hc <;> omega
    unfold f_nat_QuoRem
    rw [Nat.div_eq_of_lt hlt, Nat.mod_eq_of_lt hlt, lb_zero, lb_nv la na]
    exact ck_to (by show a.length * 8 ≤ _; omega) rfl
  · have hb1 : nv b = b.getD 0 0 := by
      match b, (show b.length = 1 by omega) with
      | [x], _ => rfl
    refine ck_to (by omega) (ck_to ⟨by rw [← hb1]; exact hb0, sa⟩ ?_)
    unfold f_nat_short f_nat_QuoRem
    rw [← hb1]
  · have hge : nv b ≤ nv a := by
      unfold f_nat_Order ordN at hc
      split at hc
      · omega
      · omega
    have hlen : b.length ≤ a.length := by
      rcases Nat.lt_or_ge a.length b.length with h | h
      · exfalso
        have k1 := nv_lt la
        have k2 : 18446744073709551616 ^ a.length ≤ 18446744073709551616 ^ (b.length - 1) := Nat.pow_le_pow_right (by decide) (by omega)
        have k3 := nv_ge nb (fun e => hb0 (by rw [e]; rfl))
        omega
      · exact h
    have e1 : ((b.length : Int) - 1).toNat = b.length - 1 := by omega
    rw [e1]
    have hs : (f_bits_LeadingZeros64 (b.getD (b.length - 1) 0)).toNat = 64 - bl (b.getD (b.length - 1) 0) := by unfold f_bits_LeadingZeros64; omega
    have hs2 : 0 ≤ f_bits_LeadingZeros64 (b.getD (b.length - 1) 0) ∧ f_bits_LeadingZeros64 (b.getD (b.length - 1) 0) ≤ 63 := by unfold f_bits_LeadingZeros64; omega
    have hLb : f_nat_Left b (f_bits_LeadingZeros64 (b.getD (b.length - 1) 0)) = lb (nv b * 2 ^ (64 - bl (b.getD (b.length - 1) 0))) := by unfold f_nat_Left; rw [hs]
    have hLa : f_nat_Left a (f_bits_LeadingZeros64 (b.getD (b.length - 1) 0)) = lb (nv a * 2 ^ (64 - bl (b.getD (b.length - 1) 0))) := by unfold f_nat_Left; rw [hs]
    have hs3 : 64 - bl (b.getD (b.length - 1) 0) ≤ 63 := by omega
    have hbl : (lb (nv b * 2 ^ (64 - bl (b.getD (b.length - 1) 0)))).length ≤ b.length := lb_len.2 v1
    have hal : (lb (nv a * 2 ^ (64 - bl (b.getD (b.length - 1) 0)))).length ≤ a.length + 1 := by
      refine lb_len.2 ?_
      rw [Nat.pow_succ]
      refine Nat.mul_lt_mul'' (nv_lt la) ?_
      exact Nat.lt_of_le_of_lt (Nat.pow_le_pow_right (by decide) hs3) (by decide)
    have hn2 : 2 ≤ b.length := by omega
    obtain ⟨sI, hsI⟩ : ∃ sI, sI = f_bits_LeadingZeros64 (b.getD (b.length - 1) 0) := ⟨_, rfl⟩
    obtain ⟨s, hss⟩ : ∃ s, s = 64 - bl (b.getD (b.length - 1) 0) := ⟨_, rfl⟩
    rw [← hss] at v1 v2 hbl hal hLa hLb hs3 hs
    rw [← hsI] at hLa hLb hs2 hs
    rw [← hsI, hLa, hLb]
    have hV : 0 < nv b * 2 ^ s := Nat.mul_pos (by omega) (Nat.two_pow_pos s)
    have key := loopO_post (step := fun d : Int × (List Nat) × (List Nat) => m_nat_QuoRem_l9 b d.1 d.2.1 d.2.2) (I := fun d => QrI (a.length - b.length) b.length (nv b * 2 ^ s) (nv a * 2 ^ s) d.1 d.2.1 d.2.2) (fun d => (d.1 + 1).toNat)
      (fun e => e.1.length = a.length + 1 ∧ Lm e.1 ∧ nv e.1 = nv a * 2 ^ s % (nv b * 2 ^ s) ∧ nv e.2 = nv a * 2 ^ s / (nv b * 2 ^ s)) ?_ ((a.length : Int) - (b.length : Int), f_nat_padded (lb (nv a * 2 ^ s)) ((a.length : Int) + 1), List.replicate (((a.length : Int) - (b.length : Int)) + 1).toNat 0) ?_
    · obtain ⟨e, h2, h3, h4, h5, h6⟩ := key
      refine ck_to (by constructor <;> omega) (ck_to (by constructor <;> omega) (ck_to ⟨(by show b.length ≤ _; omega), by omega, by omega⟩ (ck_to (by constructor <;> omega) (ck_to ⟨sa, by omega, by omega⟩ (ck_to (by constructor <;> omega) (ck_to (by constructor <;> omega) (ck_to (by constructor <;> omega) (ck_to (by constructor <;> omega) (ck_to (by omega) (ck_to (by omega) (ck_to (by constructor <;> omega) (bind_to h2 ?_))))))))))))
      have hm : nv e.1 < nv b * 2 ^ s := by rw [h5]; exact Nat.mod_lt _ hV
      have htk : nv (e.1.take b.length) = nv e.1 := by
        rw [nv_take h4]; exact Nat.mod_eq_of_lt (Nat.lt_trans hm v1)
      have htr : f_nat_trim (e.1.take b.length) = lb (nv e.1) := by rw [f_nat_trim, htk]
      unfold m_nat_QuoRem_j1
      rw [e1, ← hsI, htr]
      refine ck_to (by constructor <;> omega) (ck_to ⟨?_, hs2.1⟩ ?_)
      · have := lb_len.2 (Nat.lt_trans hm v1)
        show (lb (nv e.1)).length ≤ _
        omega
      · unfold f_nat_QuoRem f_nat_Right
        rw [f_nat_trim, h6, nv_lb, hs, h5, Nat.mul_div_mul_right _ _ (Nat.two_pow_pos s), Nat.mul_mod_mul_right, Nat.mul_div_cancel _ (Nat.two_pow_pos s)]
    · rintro ⟨j, u, q⟩ h
      have h : QrI (a.length - b.length) b.length (nv b * 2 ^ s) (nv a * 2 ^ s) j u q := h
      have i0 := h.j0
      have i1 := h.j1
      have hul := h.ul
      have hql := h.ql
      show (∃ d', m_nat_QuoRem_l9 b j u q = _ ∧ _) ∨ ∃ e, m_nat_QuoRem_l9 b j u q = _ ∧ _
      unfold m_nat_QuoRem_l9
      rw [e1, ← hsI, hLb]
      by_cases hj : 0 ≤ j
      · left
        have hvl : (f_nat_padded (lb (nv b * 2 ^ s)) (b.length : Int)).length = b.length := by rw [len_padded (by omega), Int.toNat_natCast]
        have hvv : nv (f_nat_padded (lb (nv b * 2 ^ s)) (b.length : Int)) = nv b * 2 ^ s := by rw [nv_padded, nv_lb]
        have lv : Lm (f_nat_padded (lb (nv b * 2 ^ s)) (b.length : Int)) := Lm_padded (Lm_lb _)
        have htop : 9223372036854775808 ≤ (f_nat_padded (lb (nv b * 2 ^ s)) (b.length : Int)).getD (b.length - 1) 0 := by
          have hp : 0 < 18446744073709551616 ^ (b.length - 1) := Nat.pow_pos (by decide)
          rw [getD_nv lv, hvv, Nat.mod_eq_of_lt ((Nat.div_lt_iff_lt_mul hp).2 (by rw [← Nat.pow_succ', show (b.length - 1).succ = b.length from by omega]; exact v1))]
          exact (Nat.le_div_iff_mul_le hp).2 v2
        have hlt := h.lt
        rw [show (j + 1).toNat = j.toNat + 1 from by omega] at hlt
        obtain ⟨w, k1, k2, k3, k4⟩ := law_nat_digit (v := f_nat_padded (lb (nv b * 2 ^ s)) (b.length : Int)) (u := u) (j := j.toNat) (un := ((j + (b.length : Int)) + 1 - j).toNat) lv h.lu (by rw [hvl]; exact hn2) (by rw [hvl]; omega) (by rw [hvl]; omega) (by omega) (by rw [hvl]; exact htop) (by rw [hvv]; exact hlt)
        rw [hvv] at k1 k4
        refine ⟨(j - 1, w, q.set j.toNat (nv u / (18446744073709551616 ^ j.toNat * (nv b * 2 ^ s)))), ?_, QrI_step h hj k2 k3 hV k4, by simp only; omega⟩
        rw [if_pos hj]
        exact ck_to (by constructor <;> omega) (ck_to (by constructor <;> omega) (ck_to (by constructor <;> omega) (bind_to k1 (ck_to (by constructor <;> omega) (ck_to (by constructor <;> omega) rfl)))))
      · right
        have hj1 : (j + 1).toNat = 0 := by omega
        have hlt := h.lt
        rw [hj1, Nat.pow_zero, Nat.one_mul] at hlt
        have hs4 := h.sum
        refine ⟨(u, q), by rw [if_neg hj], by simp only; omega, h.lu, ?_, ?_⟩
        · simp only
          rw [← hs4, Nat.add_comm, Nat.add_mul_mod_self_right, Nat.mod_eq_of_lt hlt]
        · simp only
          rw [← hs4, Nat.add_comm, Nat.add_mul_div_right _ _ hV, Nat.div_eq_of_lt hlt, Nat.zero_add]
    · have ej : ((a.length : Int) - (b.length : Int) + 1).toNat = a.length - b.length + 1 := by omega
      refine ⟨by simp only; omega, by simp only; omega, ?_, Lm_padded (Lm_lb _), ?_, Lm_rep _, ?_, ⟨0, ?_⟩, ?_⟩
      · simp only; rw [len_padded (by omega)]; omega
      · simp only; rw [List.length_replicate]; omega
      · simp only
        rw [nv_padded, nv_lb, ej]
        have k1 := nv_lt la
        have k2 : 2 ^ s ≤ 2 ^ 63 := Nat.pow_le_pow_right (by decide) hs3
        refine Nat.lt_of_lt_of_le (Nat.mul_lt_mul_of_pos_right k1 (Nat.two_pow_pos s)) ?_
        refine Nat.le_trans (Nat.mul_le_mul_left _ k2) ?_
        refine Nat.le_trans ?_ (Nat.mul_le_mul_left _ v2)
        rw [Nat.mul_left_comm, ← Nat.pow_add, show a.length - b.length + 1 + (b.length - 1) = a.length from by omega, Nat.mul_comm]
        exact Nat.le_refl _
      · simp only; rw [nv_rep, Nat.mul_zero]
      · simp only; rw [nv_rep, Nat.zero_mul, Nat.zero_add, nv_padded, nv_lb]
end Nu
end Go.Proofs
namespace Go.Proofs
open Go.Vc
set_option maxRecDepth 20000
namespace Nu
def a_nat_padded : Ty := .pair (.sl (.u .u64)) (.pair (.i .i64) .unit)
noncomputable def sp_nat_padded : FSpec := ⟨a_nat_padded, .own 48 (.u .u64), fun x => p_nat_padded x.1 x.2.1, fun x => f_nat_padded x.1 x.2.1⟩
attribute [go_sem] sp_nat_padded a_nat_padded
noncomputable def sm_nat_padded : FSpec := mSpec a_nat_padded (.own 48 (.u .u64)) (fun x => m_nat_padded x.1 x.2.1)
noncomputable def l_nat_padded : List (FuncId × FSpec) := [(64, sp_slices_Clone_uint64)]
theorem K_nat_padded : Known Tryd.prog GL l_nat_padded := .cons ok_slices_Clone_uint64 (by kernel_rfl) (.nil)
theorem l_nat_padded_64 : gam l_nat_padded 64 = some sp_slices_Clone_uint64 := rfl
attribute [go_sem] l_nat_padded_64
set_option maxHeartbeats 4000000 in
theorem om_nat_padded : FOK Tryd.prog GL 90 sm_nat_padded := by
 refine fok_model (EM_ok K_nat_padded) Tryd.func90 rfl (by kernel_rfl) (by decide) fun w0 S x r hw h => ?_
 have hF : FrOK (fr Tryd.prog (EM l_nat_padded) S w0 Tryd.f90.ntmps) := ⟨EM_ok K_nat_padded, mix⟩
 obtain ⟨(a_0 : (List Nat)), (n_1 : Int), u⟩ := x
 simp only [a_nat_padded, Ty.wf, fits64] at hw
 simp only [args0, a_nat_padded]
 try dsimp only at h
 unfold m_nat_padded at h
 refine tri_seq (tri_region hF [0, 1] ?_)
 simp only [go_sem]
 refine at_next (tri_seq (tri_regionB hF [4] ?_))
 simp only [go_sem]
 obtain ⟨g0, h⟩ := ck_some h
 repeat (refine ⟨by first | with_reducible assumption | omega | (intros; first | assumption | omega) | (simp only [go_sem] at *; first | assumption | omega) | decide, ?_⟩)
 obtain ⟨g0, h⟩ := ck_some h
 try simp only [I64, I32] at g0
 repeat (refine ⟨by first | with_reducible assumption | omega | (intros; first | assumption | omega) | (simp only [go_sem] at *; first | assumption | omega) | decide, ?_⟩)
 obtain ⟨g0, h⟩ := ck_some h
 obtain ⟨g1, h⟩ := ck_some h
 repeat (refine ⟨by first | with_reducible assumption | omega | (intros; first | assumption | omega) | (simp only [go_sem] at *; first | assumption | omega) | decide, ?_⟩)
 obtain rfl := Option.some.inj h
 refine at_next (tri_ret (at_retC hF [.tmp 4] rfl rfl rfl ?_))
 (try simp only [retOK, resE, go_sem]) <;> first | rfl | (simp; done)
theorem ok_nat_padded : FOK Tryd.prog GL 90 sp_nat_padded := fok_clean om_nat_padded (fun ⟨x0, x1, u⟩ ⟨w0, w1, wu⟩ hp => law_nat_padded x0 w0 x1 w1 hp)
noncomputable def sg_nat_digit : GSpec where
  D := Nat × Nat × (List Nat) × (List Nat) × ((Nat × (List Nat)))
  av := fun d => [.sub 0 1 d.1 d.2.1, .val (.sl (.u .u64)) d.2.2.1]
  hp := fun d => [.row 48 (.u .u64) d.2.2.2.1]
  m := 1
  pre := fun d => m_nat_digit d.1 d.2.1 d.2.2.1 d.2.2.2.1 = some d.2.2.2.2
  out := fun d => (fun r : (Nat × (List Nat)) => .ret (.val (.u .u64) r.1) [.row 48 (.u .u64) (r.2)]) d.2.2.2.2
noncomputable def l_nat_digit : List (FuncId × FSpec) := [(107, sp_bits_Div64), (109, sp_bits_Sub64), (60, sp_bits_Mul64), (61, sp_bits_Add64)]
theorem K_nat_digit : Known Tryd.prog GL l_nat_digit := .cons ok_bits_Div64 (by kernel_rfl) (.nat ok_bits_Sub64 (.cons ok_bits_Mul64 (by kernel_rfl) (.nat ok_bits_Add64 (.nil))))
theorem l_nat_digit_107 : gam l_nat_digit 107 = some sp_bits_Div64 := rfl
attribute [go_sem] l_nat_digit_107
theorem l_nat_digit_109 : gam l_nat_digit 109 = some sp_bits_Sub64 := rfl
attribute [go_sem] l_nat_digit_109
theorem l_nat_digit_60 : gam l_nat_digit 60 = some sp_bits_Mul64 := rfl
attribute [go_sem] l_nat_digit_60
theorem l_nat_digit_61 : gam l_nat_digit 61 = some sp_bits_Add64 := rfl
attribute [go_sem] l_nat_digit_61
set_option maxHeartbeats 4000000 in
theorem og_nat_digit : GOK Tryd.prog GL 91 sg_nat_digit := by
 refine gok_lift (EM_ok K_nat_digit) Tryd.func91 rfl (by kernel_rfl) (fun _ => Nat.le_of_ble_eq_true rfl) fun c0 w0 d hw1 hw2 h hn => ?_
 have hF : FrOK ⟨Tryd.prog, EM l_nat_digit, GM sg_nat_digit c0 d, w0, Tryd.f91.ntmps, []⟩ := ⟨EM_ok K_nat_digit, mix⟩
 obtain ⟨(uo_0 : Nat), (un_0 : Nat), (v_1 : (List Nat)), (o0_2 : (List Nat)), r⟩ := d
 replace h : m_nat_digit uo_0 un_0 v_1 o0_2 = some r := h
 have hw1 : AV.wfL [.sub 0 1 uo_0 un_0, .val (.sl (.u .u64)) v_1] := hw1
 simp only [AV.wfL, AV.wfV, Ty.wf, fits64] at hw1
 show Tri _ _ _ [(0, .sub 0 1 uo_0 un_0), (1, .val (.sl (.u .u64)) v_1)] [.row 48 (.u .u64) o0_2]
 unfold m_nat_digit at h
 refine tri_seq (tri_region hF [0, 1] ?_)
 simp only [go_sem]
 refine at_next (tri_seq (tri_region hF [0, 1, 5] ?_))
 simp only [go_sem]
 refine at_next (tri_seq (tri_region hF [0, 1, 5, 6, 8] ?_))
 simp only [go_sem]
 refine at_next (tri_joinM (D := Nat × Nat × Nat) (fun d => m_nat_digit_j1 v_1 un_0 uo_0 o0_2 d.1 d.2.1 d.2.2 = some r) [1, 5] (fun d => [(0, .sub 0 1 uo_0 un_0), (6, .val (.u .u64) d.1), (7, .val (.u .u64) d.2.1), (8, .val (.u .u64) d.2.2)]) (fun d => [.inr (.row 48 (.u .u64) o0_2)]) ?_ ?_)
 ·refine tri_seq (tri_region hF [0, 1, 5, 6, 8, 31] ?_)
  simp only [go_sem]
  obtain ⟨g0, h⟩ := ck_some h
  obtain ⟨g1, h⟩ := ck_some h
  obtain ⟨g2, h⟩ := ck_some h
  obtain ⟨g3, h⟩ := ck_some h
  try simp only [I64, I32] at g2
  repeat (refine ⟨by first | with_reducible assumption | omega | (intros; first | assumption | omega) | (simp only [go_sem] at *; first | assumption | omega) | decide, ?_⟩)
  refine at_next (tri_cond rfl (fun hc => ?_) (fun hc => ?_))
  ·try simp only [go_sem] at hc
   have h := ite_T (by first | exact hc | omega | (simpa using hc) | (simp at hc ⊢; omega)) h
   refine tri_region hF [0, 1, 5, 6, 7, 8] ?_
   simp only [go_sem]
   obtain ⟨g0, h⟩ := ck_some h
   obtain ⟨g1, h⟩ := ck_some h
   obtain ⟨g2, h⟩ := ck_some h
   obtain ⟨g3, h⟩ := ck_some h
   obtain ⟨g4, h⟩ := ck_some h
   obtain ⟨g5, h⟩ := ck_some h
   obtain ⟨g6, h⟩ := ck_some h
   obtain ⟨g7, h⟩ := ck_some h
   try simp only [I64, I32] at g2
   try simp only [I64, I32] at g5
   repeat (refine ⟨by first | with_reducible assumption | omega | (intros; first | assumption | omega) | (simp only [go_sem] at *; first | assumption | omega) | decide, ?_⟩)
   refine at_then_norm (at_fit ((((f_bits_Div64 (o0_2.getD (uo_0 + (v_1.length)) (0 : Nat)) (o0_2.getD (uo_0 + (((((v_1.length) : Nat) : Int) - (1 : Int)).toNat)) (0 : Nat)) (v_1.getD (((((v_1.length) : Nat) : Int) - (1 : Int)).toNat) (0 : Nat))).1), (((f_bits_Div64 (o0_2.getD (uo_0 + (v_1.length)) (0 : Nat)) (o0_2.getD (uo_0 + (((((v_1.length) : Nat) : Int) - (1 : Int)).toNat)) (0 : Nat)) (v_1.getD (((((v_1.length) : Nat) : Int) - (1 : Int)).toNat) (0 : Nat))).2).1), (0 : Nat))) h rfl ?_)
   ·(try simp only [fitE, fitV, true_or, and_self, go_sem]) <;> (repeat' apply And.intro) <;> first | rfl | (left; rfl) | (right; rfl) | (left; simp only [go_sem]; done) | (right; simp only [go_sem]; done) | (simp; done) | (simp only [*]; done) | omega
  ·try simp only [go_sem] at hc
   have h := ite_F (by first | exact hc | omega | (simpa using hc) | (simp at hc ⊢; omega)) h
   refine tri_region hF [0, 1, 5, 6, 7, 8] ?_
   simp only [go_sem]
   obtain ⟨g0, h⟩ := ck_some h
   obtain ⟨g1, h⟩ := ck_some h
   obtain ⟨g2, h⟩ := ck_some h
   obtain ⟨g3, h⟩ := ck_some h
   obtain ⟨g4, h⟩ := ck_some h
   obtain ⟨g5, h⟩ := ck_some h
   try simp only [I64, I32] at g0
   try simp only [I64, I32] at g3
   repeat (refine ⟨by first | with_reducible assumption | omega | (intros; first | assumption | omega) | (simp only [go_sem] at *; first | assumption | omega) | decide, ?_⟩)
   refine at_then_norm (at_fit (((18446744073709551615 : Nat), ((fAdd64 (o0_2.getD (uo_0 + (((((v_1.length) : Nat) : Int) - (1 : Int)).toNat)) (0 : Nat)) (v_1.getD (((((v_1.length) : Nat) : Int) - (1 : Int)).toNat) (0 : Nat)) (0 : Nat)).1), (((fAdd64 (o0_2.getD (uo_0 + (((((v_1.length) : Nat) : Int) - (1 : Int)).toNat)) (0 : Nat)) (v_1.getD (((((v_1.length) : Nat) : Int) - (1 : Int)).toNat) (0 : Nat)) (0 : Nat)).2).1))) h rfl ?_)
   ·(try simp only [fitE, fitV, true_or, and_self, go_sem]) <;> (repeat' apply And.intro) <;> first | rfl | (left; rfl) | (right; rfl) | (left; simp only [go_sem]; done) | (right; simp only [go_sem]; done) | (simp; done) | (simp only [*]; done) | omega
 ·rintro ⟨x_4, rest_5, over_6⟩ h
  try dsimp only at h
  simp only [go_sem]
  unfold m_nat_digit_j1 at h
  refine tri_joinM (D := Nat) (fun d => m_nat_digit_j2 v_1 un_0 uo_0 o0_2 d = some r) [1, 5] (fun d => [(0, .sub 0 1 uo_0 un_0), (6, .val (.u .u64) d)]) (fun d => [.inr (.row 48 (.u .u64) o0_2)]) ?_ ?_
  ·refine tri_block (tri_loopM (D := Nat × Nat × Nat) [1, 5] (fun d => [(0, .sub 0 1 uo_0 un_0), (6, .val (.u .u64) d.1), (7, .val (.u .u64) d.2.1), (8, .val (.u .u64) d.2.2)]) (fun d => [.inr (.row 48 (.u .u64) o0_2)]) h ?_ ?_ ?_)
   ·first | rfl | (simp only [go_sem]; done)
   ·(try simp only [fitE, fitV, true_or, and_self, go_sem]) <;> (repeat' apply And.intro) <;> first | rfl | (left; rfl) | (right; rfl) | (left; simp only [go_sem]; done) | (right; simp only [go_sem]; done) | (simp; done) | (simp only [*]; done) | omega
   rintro ⟨x_52, rest_53, over_54⟩ s6 h hs6
   simp only [go_sem]
   try dsimp only at h
   unfold m_nat_digit_l6 at h
   refine tri_seq (tri_seq (tri_region hF [0, 1, 5, 6, 7, 65] ?_))
   simp only [go_sem]
   refine at_next (tri_cond rfl (fun hc => ?_) (fun hc => ?_))
   ·try simp only [go_sem] at hc
    have h := ite_T (by first | exact hc | omega | (simpa using hc) | (simp at hc ⊢; omega)) h
    refine tri_skip (at_next (tri_block (tri_seq (tri_region hF [0, 1, 5, 6, 7, 9, 10] ?_))))
    simp only [go_sem]
    obtain ⟨g0, h⟩ := ck_some h
    obtain ⟨g1, h⟩ := ck_some h
    try simp only [I64, I32] at g0
    repeat (refine ⟨by first | with_reducible assumption | omega | (intros; first | assumption | omega) | (simp only [go_sem] at *; first | assumption | omega) | decide, ?_⟩)
    refine at_next (tri_seq (tri_seq (tri_region hF [0, 1, 5, 6, 7, 92] ?_)))
    simp only [go_sem]
    obtain ⟨g0, h⟩ := ck_some h
    obtain ⟨g1, h⟩ := ck_some h
    try simp only [I64, I32] at g0
    repeat (refine ⟨by first | with_reducible assumption | omega | (intros; first | assumption | omega) | (simp only [go_sem] at *; first | assumption | omega) | (intro q0 q1; (try have e0 := g0 (by first | exact q0 | omega | (simpa using q0)) (by first | exact q1 | omega | (simpa using q1))); (try have e1 := g1 (by first | exact q0 | omega | (simpa using q0)) (by first | exact q1 | omega | (simpa using q1))); first | assumption | omega) | decide, ?_⟩)
    refine at_next (tri_cond rfl (fun hc => ?_) (fun hc => ?_))
    ·try simp only [go_sem] at hc
     have h := ite_T (by first | exact hc | omega | (simpa using hc) | (simp at hc ⊢; omega)) h
     obtain rfl := Option.some.inj h
     dsimp only [stepQ] at hs6
     have h := hs6
     try dsimp only at h
     refine tri_exit (at_then_exit (at_block_other (by decide) (at_then_exit (at_block_exit (at_then_norm (at_fit (x_52) h rfl ?_))))))
     ·(try simp only [fitE, fitV, true_or, and_self, go_sem]) <;> (repeat' apply And.intro) <;> first | rfl | (left; rfl) | (right; rfl) | (left; simp only [go_sem]; done) | (right; simp only [go_sem]; done) | (simp; done) | (simp only [*]; done) | omega
    ·try simp only [go_sem] at hc
     have h := ite_F (by first | exact hc | omega | (simpa using hc) | (simp at hc ⊢; omega)) h
     refine tri_skip (at_next (tri_seq (tri_region hF [0, 1, 5, 6, 7] ?_)))
     simp only [go_sem]
     refine at_next (tri_region hF [0, 1, 5, 6, 7, 8] ?_)
     simp only [go_sem]
     obtain ⟨g0, h⟩ := ck_some h
     obtain ⟨g1, h⟩ := ck_some h
     obtain ⟨g2, h⟩ := ck_some h
     try simp only [I64, I32] at g0
     repeat (refine ⟨by first | with_reducible assumption | omega | (intros; first | assumption | omega) | (simp only [go_sem] at *; first | assumption | omega) | decide, ?_⟩)
     obtain rfl := Option.some.inj h
     dsimp only [stepQ] at hs6
     refine at_block_norm (at_then_norm (at_fit (((subU .u64 x_52 (1 : Nat)), ((fAdd64 rest_53 (v_1.getD (((((v_1.length) : Nat) : Int) - (1 : Int)).toNat) (0 : Nat)) (0 : Nat)).1), (((fAdd64 rest_53 (v_1.getD (((((v_1.length) : Nat) : Int) - (1 : Int)).toNat) (0 : Nat)) (0 : Nat)).2).1))) hs6 rfl ?_))
     ·(try simp only [fitE, fitV, true_or, and_self, go_sem]) <;> (repeat' apply And.intro) <;> first | rfl | (left; rfl) | (right; rfl) | (left; simp only [go_sem]; done) | (right; simp only [go_sem]; done) | (simp; done) | (simp only [*]; done) | omega
   ·try simp only [go_sem] at hc
    have h := ite_F (by first | exact hc | omega | (simpa using hc) | (simp at hc ⊢; omega)) h
    obtain rfl := Option.some.inj h
    dsimp only [stepQ] at hs6
    have h := hs6
    try dsimp only at h
    refine tri_exit (at_then_exit (at_then_exit (at_block_exit (at_then_norm (at_fit (x_52) h rfl ?_)))))
    ·(try simp only [fitE, fitV, true_or, and_self, go_sem]) <;> (repeat' apply And.intro) <;> first | rfl | (left; rfl) | (right; rfl) | (left; simp only [go_sem]; done) | (right; simp only [go_sem]; done) | (simp; done) | (simp only [*]; done) | omega
  ·rintro x_13 h
   try dsimp only at h
   simp only [go_sem]
   unfold m_nat_digit_j2 at h
   refine tri_seq (tri_region hF [0, 1, 5, 6, 11, 12] ?_)
   simp only [go_sem]
   refine at_next (tri_joinM (D := Nat × Nat × (List Nat)) (fun d => m_nat_digit_j3 v_1 un_0 uo_0 x_13 d.1 d.2.1 d.2.2 = some r) [1, 5, 6] (fun d => [(0, .sub 0 1 uo_0 un_0), (11, .val (.u .u64) d.1), (12, .val (.u .u64) d.2.1)]) (fun d => [.inr (.row 48 (.u .u64) d.2.2)]) ?_ ?_)
   ·refine tri_seq (tri_region hF [0, 1, 5, 6, 11, 12, 105, 106, 107] ?_)
    simp only [go_sem]
    refine at_next (tri_block (tri_loopM (D := Nat × Nat × Int × (List Nat)) [1, 5, 6, 105, 106] (fun d => [(0, .sub 0 1 uo_0 un_0), (11, .val (.u .u64) d.1), (12, .val (.u .u64) d.2.1), (107, .val (.i .i64) d.2.2.1)]) (fun d => [.inr (.row 48 (.u .u64) d.2.2.2)]) h ?_ ?_ ?_))
    ·first | rfl | (simp only [go_sem]; done)
    ·(try simp only [fitE, fitV, true_or, and_self, go_sem]) <;> (repeat' apply And.intro) <;> first | rfl | (left; rfl) | (right; rfl) | (left; simp only [go_sem]; done) | (right; simp only [go_sem]; done) | (simp; done) | (simp only [*]; done) | omega
    rintro ⟨carry_41, borrow_42, x107_43, u_44⟩ s13 h hs13
    simp only [go_sem]
    try dsimp only at h
    unfold m_nat_digit_l13 at h
    refine tri_seq (tri_region hF [0, 1, 5, 6, 11, 12, 105, 106, 107, 108] ?_)
    simp only [go_sem]
    refine at_next (tri_seq (tri_cond rfl (fun hc => ?_) (fun hc => ?_)))
    ·try simp only [go_sem] at hc
     have h := ite_T (by first | exact hc | omega | (simpa using hc) | (simp at hc ⊢; omega)) h
     refine tri_skip (at_next (tri_seq (tri_block (tri_seq (tri_region hF [0, 1, 5, 6, 11, 12, 13, 14, 105, 106, 107] ?_)))))
     simp only [go_sem]
     obtain ⟨g0, h⟩ := ck_some h
     repeat (refine ⟨by first | with_reducible assumption | omega | (intros; first | assumption | omega) | (simp only [go_sem] at *; first | assumption | omega) | decide, ?_⟩)
     refine at_next (tri_seq (tri_region hF [0, 1, 5, 6, 11, 12, 13, 15, 16, 105, 106, 107] ?_))
     simp only [go_sem]
     refine at_next (tri_seq (tri_region hF [0, 1, 5, 6, 11, 12, 13, 15, 16, 105, 106, 107] ?_))
     simp only [go_sem]
     refine at_next (tri_seq (tri_region hF [0, 1, 5, 6, 12, 13, 15, 16, 17, 105, 106, 107] ?_))
     simp only [go_sem]
     obtain ⟨g0, h⟩ := ck_some h
     repeat (refine ⟨by first | with_reducible assumption | omega | (intros; first | assumption | omega) | (simp only [go_sem] at *; first | assumption | omega) | decide, ?_⟩)
     refine at_next (tri_seq (tri_region hF [0, 1, 5, 6, 11, 12, 13, 16, 105, 106, 107] ?_))
     simp only [go_sem]
     refine at_next (tri_regionB hF [0, 1, 5, 6, 11, 12, 105, 106, 107] ?_)
     simp only [go_sem]
     obtain ⟨g0, h⟩ := ck_some h
     obtain ⟨g1, h⟩ := ck_some h
     repeat (refine ⟨by first | with_reducible assumption | omega | (intros; first | assumption | omega) | (simp only [go_sem] at *; first | assumption | omega) | decide, ?_⟩)
     obtain ⟨g0, h⟩ := ck_some h
     repeat (refine ⟨by first | with_reducible assumption | omega | (intros; first | assumption | omega) | (simp only [go_sem] at *; first | assumption | omega) | decide, ?_⟩)
     obtain ⟨g0, h⟩ := ck_some h
     obtain ⟨g1, h⟩ := ck_some h
     repeat (refine ⟨by first | with_reducible assumption | omega | (intros; first | assumption | omega) | (simp only [go_sem] at *; first | assumption | omega) | decide, ?_⟩)
     refine at_block_norm (at_next (tri_region hF [0, 1, 5, 6, 11, 12, 105, 106, 107] ?_))
     simp only [go_sem]
     obtain ⟨g0, h⟩ := ck_some h
     try simp only [I64, I32] at g0
     repeat (refine ⟨by first | with_reducible assumption | omega | (intros; first | assumption | omega) | (simp only [go_sem] at *; first | assumption | omega) | decide, ?_⟩)
     obtain rfl := Option.some.inj h
     dsimp only [stepQ] at hs13
     refine at_then_norm (at_fit ((((((f_bits_Mul64 x_13 (v_1.getD (x107_43.toNat) (0 : Nat))).1) + (((fAdd64 (((f_bits_Mul64 x_13 (v_1.getD (x107_43.toNat) (0 : Nat))).2).1) carry_41 (0 : Nat)).2).1)) % 18446744073709551616), (((fSub64 (u_44.getD (uo_0 + (x107_43.toNat)) (0 : Nat)) ((fAdd64 (((f_bits_Mul64 x_13 (v_1.getD (x107_43.toNat) (0 : Nat))).2).1) carry_41 (0 : Nat)).1) borrow_42).2).1), (x107_43 + (1 : Int)), (u_44.set (uo_0 + (x107_43.toNat)) ((fSub64 (u_44.getD (uo_0 + (x107_43.toNat)) (0 : Nat)) ((fAdd64 (((f_bits_Mul64 x_13 (v_1.getD (x107_43.toNat) (0 : Nat))).2).1) carry_41 (0 : Nat)).1) borrow_42).1)))) hs13 rfl ?_)
     ·(try simp only [fitE, fitV, true_or, and_self, go_sem]) <;> (repeat' apply And.intro) <;> first | rfl | (left; rfl) | (right; rfl) | (left; simp only [go_sem]; done) | (right; simp only [go_sem]; done) | (simp; done) | (simp only [*]; done) | omega
    ·try simp only [go_sem] at hc
     have h := ite_F (by first | exact hc | omega | (simpa using hc) | (simp at hc ⊢; omega)) h
     obtain rfl := Option.some.inj h
     dsimp only [stepQ] at hs13
     have h := hs13
     try dsimp only at h
     refine tri_exit (at_then_exit (at_then_exit (at_block_exit (at_then_norm (at_fit ((carry_41, borrow_42, u_44)) h rfl ?_)))))
     ·(try simp only [fitE, fitV, true_or, and_self, go_sem]) <;> (repeat' apply And.intro) <;> first | rfl | (left; rfl) | (right; rfl) | (left; simp only [go_sem]; done) | (right; simp only [go_sem]; done) | (simp; done) | (simp only [*]; done) | omega
   ·rintro ⟨carry_22, borrow_23, u_24⟩ h
    try dsimp only at h
    simp only [go_sem]
    unfold m_nat_digit_j3 at h
    refine tri_seq (tri_seq (tri_regionB hF [0, 1, 5, 6, 12] ?_))
    simp only [go_sem]
    obtain ⟨g0, h⟩ := ck_some h
    obtain ⟨g1, h⟩ := ck_some h
    repeat (refine ⟨by first | with_reducible assumption | omega | (intros; first | assumption | omega) | (simp only [go_sem] at *; first | assumption | omega) | decide, ?_⟩)
    obtain ⟨g0, h⟩ := ck_some h
    repeat (refine ⟨by first | with_reducible assumption | omega | (intros; first | assumption | omega) | (simp only [go_sem] at *; first | assumption | omega) | decide, ?_⟩)
    obtain ⟨g0, h⟩ := ck_some h
    obtain ⟨g1, h⟩ := ck_some h
    repeat (refine ⟨by first | with_reducible assumption | omega | (intros; first | assumption | omega) | (simp only [go_sem] at *; first | assumption | omega) | decide, ?_⟩)
    refine at_next (tri_seq (tri_region hF [0, 1, 5, 6, 155] ?_))
    simp only [go_sem]
    refine at_next (tri_cond rfl (fun hc => ?_) (fun hc => ?_))
    ·try simp only [go_sem] at hc
     have h := ite_T (by first | exact hc | omega | (simpa using hc) | (simp at hc ⊢; omega)) h
     refine tri_seq (tri_region hF [4] ?_)
     simp only [go_sem]
     obtain rfl := Option.some.inj h
     refine at_next (tri_ret (at_then_ret (at_retG hF [.tmp 4] rfl rfl rfl rfl rfl rfl ?_)))
     (try simp only [resE, retV, fitT, fitV, noJunk, AV.isAgg, go_sem]) <;> first | trivial | rfl | (simp; done)
    ·try simp only [go_sem] at hc
     have h := ite_F (by first | exact hc | omega | (simpa using hc) | (simp at hc ⊢; omega)) h
     refine tri_skip (at_next (tri_seq (tri_region hF [0, 1, 5, 6, 11] ?_)))
     simp only [go_sem]
     refine at_next (tri_joinM (D := Nat × (List Nat)) (fun d => m_nat_digit_j4 v_1 un_0 uo_0 x_13 d.1 d.2 = some r) [5, 6] (fun d => [(0, .sub 0 1 uo_0 un_0), (11, .val (.u .u64) d.1)]) (fun d => [.inr (.row 48 (.u .u64) d.2)]) ?_ ?_)
     ·refine tri_seq (tri_region hF [0, 5, 6, 11, 157, 158, 159] ?_)
      simp only [go_sem]
      refine at_next (tri_block (tri_loopM (D := Nat × Int × (List Nat)) [5, 6, 157, 158] (fun d => [(0, .sub 0 1 uo_0 un_0), (11, .val (.u .u64) d.1), (159, .val (.i .i64) d.2.1)]) (fun d => [.inr (.row 48 (.u .u64) d.2.2)]) h ?_ ?_ ?_))
      ·first | rfl | (simp only [go_sem]; done)
      ·(try simp only [fitE, fitV, true_or, and_self, go_sem]) <;> (repeat' apply And.intro) <;> first | rfl | (left; rfl) | (right; rfl) | (left; simp only [go_sem]; done) | (right; simp only [go_sem]; done) | (simp; done) | (simp only [*]; done) | omega
      rintro ⟨carry_33, x159_34, u_35⟩ s26 h hs26
      simp only [go_sem]
      try dsimp only at h
      unfold m_nat_digit_l26 at h
      refine tri_seq (tri_region hF [0, 5, 6, 11, 157, 158, 159, 160] ?_)
      simp only [go_sem]
      refine at_next (tri_seq (tri_cond rfl (fun hc => ?_) (fun hc => ?_)))
      ·try simp only [go_sem] at hc
       have h := ite_T (by first | exact hc | omega | (simpa using hc) | (simp at hc ⊢; omega)) h
       refine tri_skip (at_next (tri_seq (tri_block (tri_seq (tri_region hF [0, 5, 6, 11, 18, 19, 157, 158, 159] ?_)))))
       simp only [go_sem]
       obtain ⟨g0, h⟩ := ck_some h
       repeat (refine ⟨by first | with_reducible assumption | omega | (intros; first | assumption | omega) | (simp only [go_sem] at *; first | assumption | omega) | decide, ?_⟩)
       refine at_next (tri_regionB hF [0, 5, 6, 11, 157, 158, 159] ?_)
       simp only [go_sem]
       obtain ⟨g0, h⟩ := ck_some h
       obtain ⟨g1, h⟩ := ck_some h
       repeat (refine ⟨by first | with_reducible assumption | omega | (intros; first | assumption | omega) | (simp only [go_sem] at *; first | assumption | omega) | decide, ?_⟩)
       obtain ⟨g0, h⟩ := ck_some h
       repeat (refine ⟨by first | with_reducible assumption | omega | (intros; first | assumption | omega) | (simp only [go_sem] at *; first | assumption | omega) | decide, ?_⟩)
       obtain ⟨g0, h⟩ := ck_some h
       obtain ⟨g1, h⟩ := ck_some h
       repeat (refine ⟨by first | with_reducible assumption | omega | (intros; first | assumption | omega) | (simp only [go_sem] at *; first | assumption | omega) | decide, ?_⟩)
       refine at_block_norm (at_next (tri_region hF [0, 5, 6, 11, 157, 158, 159] ?_))
       simp only [go_sem]
       obtain ⟨g0, h⟩ := ck_some h
       try simp only [I64, I32] at g0
       repeat (refine ⟨by first | with_reducible assumption | omega | (intros; first | assumption | omega) | (simp only [go_sem] at *; first | assumption | omega) | decide, ?_⟩)
       obtain rfl := Option.some.inj h
       dsimp only [stepQ] at hs26
       refine at_then_norm (at_fit (((((fAdd64 (u_35.getD (uo_0 + (x159_34.toNat)) (0 : Nat)) (v_1.getD (x159_34.toNat) (0 : Nat)) carry_33).2).1), (x159_34 + (1 : Int)), (u_35.set (uo_0 + (x159_34.toNat)) ((fAdd64 (u_35.getD (uo_0 + (x159_34.toNat)) (0 : Nat)) (v_1.getD (x159_34.toNat) (0 : Nat)) carry_33).1)))) hs26 rfl ?_)
       ·(try simp only [fitE, fitV, true_or, and_self, go_sem]) <;> (repeat' apply And.intro) <;> first | rfl | (left; rfl) | (right; rfl) | (left; simp only [go_sem]; done) | (right; simp only [go_sem]; done) | (simp; done) | (simp only [*]; done) | omega
      ·try simp only [go_sem] at hc
       have h := ite_F (by first | exact hc | omega | (simpa using hc) | (simp at hc ⊢; omega)) h
       obtain rfl := Option.some.inj h
       dsimp only [stepQ] at hs26
       have h := hs26
       try dsimp only at h
       refine tri_exit (at_then_exit (at_then_exit (at_block_exit (at_then_norm (at_fit ((carry_33, u_35)) h rfl ?_)))))
       ·(try simp only [fitE, fitV, true_or, and_self, go_sem]) <;> (repeat' apply And.intro) <;> first | rfl | (left; rfl) | (right; rfl) | (left; simp only [go_sem]; done) | (right; simp only [go_sem]; done) | (simp; done) | (simp only [*]; done) | omega
     ·rintro ⟨carry_31, u_32⟩ h
      try dsimp only at h
      simp only [go_sem]
      unfold m_nat_digit_j4 at h
      refine tri_seq (tri_regionB hF [6] ?_)
      simp only [go_sem]
      obtain ⟨g0, h⟩ := ck_some h
      obtain ⟨g1, h⟩ := ck_some h
      repeat (refine ⟨by first | with_reducible assumption | omega | (intros; first | assumption | omega) | (simp only [go_sem] at *; first | assumption | omega) | decide, ?_⟩)
      obtain ⟨g0, h⟩ := ck_some h
      obtain ⟨g1, h⟩ := ck_some h
      repeat (refine ⟨by first | with_reducible assumption | omega | (intros; first | assumption | omega) | (simp only [go_sem] at *; first | assumption | omega) | decide, ?_⟩)
      refine at_next (tri_seq (tri_region hF [4] ?_))
      simp only [go_sem]
      obtain rfl := Option.some.inj h
      refine at_next (tri_ret (at_retG hF [.tmp 4] rfl rfl rfl rfl rfl rfl ?_))
      (try simp only [resE, retV, fitT, fitV, noJunk, AV.isAgg, go_sem]) <;> first | trivial | rfl | (simp; done)
attribute [go_sem] sg_nat_digit
end Nu
end Go.Proofs
namespace Go.Proofs
open Go.Vc
set_option maxRecDepth 20000
namespace Nu
def a_nat_QuoRem : Ty := .pair (.sl (.u .u64)) (.pair (.sl (.u .u64)) .unit)
noncomputable def sp_nat_QuoRem : FSpec := ⟨a_nat_QuoRem, .tup (.pair (.sl (.u .u64)) (.pair (.sl (.u .u64)) .unit)), fun x => p_nat_QuoRem x.1 x.2.1, fun x => f_nat_QuoRem x.1 x.2.1⟩
attribute [go_sem] sp_nat_QuoRem a_nat_QuoRem
noncomputable def sm_nat_QuoRem : FSpec := mSpec a_nat_QuoRem (.tup (.pair (.sl (.u .u64)) (.pair (.sl (.u .u64)) .unit))) (fun x => m_nat_QuoRem x.1 x.2.1)
noncomputable def l_nat_QuoRem : List (FuncId × FSpec) := [(32, sp_nat_Left), (34, sp_nat_Right), (62, sp_nat_trim), (64, sp_slices_Clone_uint64), (87, sp_nat_Order), (88, sp_nat_short), (89, sp_bits_LeadingZeros64), (90, sp_nat_padded)]
theorem K_nat_QuoRem : Known Tryd.prog GL l_nat_QuoRem := .cons ok_nat_Left (by kernel_rfl) (.cons ok_nat_Right (by kernel_rfl) (.cons ok_nat_trim (by kernel_rfl) (.cons ok_slices_Clone_uint64 (by kernel_rfl) (.cons ok_nat_Order (by kernel_rfl) (.cons ok_nat_short (by kernel_rfl) (.cons ok_bits_LeadingZeros64 (by kernel_rfl) (.cons ok_nat_padded (by kernel_rfl) (.nil))))))))
theorem l_nat_QuoRem_32 : gam l_nat_QuoRem 32 = some sp_nat_Left := rfl
attribute [go_sem] l_nat_QuoRem_32
theorem l_nat_QuoRem_34 : gam l_nat_QuoRem 34 = some sp_nat_Right := rfl
attribute [go_sem] l_nat_QuoRem_34
theorem l_nat_QuoRem_62 : gam l_nat_QuoRem 62 = some sp_nat_trim := rfl
attribute [go_sem] l_nat_QuoRem_62
theorem l_nat_QuoRem_64 : gam l_nat_QuoRem 64 = some sp_slices_Clone_uint64 := rfl
attribute [go_sem] l_nat_QuoRem_64
theorem l_nat_QuoRem_87 : gam l_nat_QuoRem 87 = some sp_nat_Order := rfl
attribute [go_sem] l_nat_QuoRem_87
theorem l_nat_QuoRem_88 : gam l_nat_QuoRem 88 = some sp_nat_short := rfl
attribute [go_sem] l_nat_QuoRem_88
theorem l_nat_QuoRem_89 : gam l_nat_QuoRem 89 = some sp_bits_LeadingZeros64 := rfl
attribute [go_sem] l_nat_QuoRem_89
theorem l_nat_QuoRem_90 : gam l_nat_QuoRem 90 = some sp_nat_padded := rfl
attribute [go_sem] l_nat_QuoRem_90
set_option maxHeartbeats 4000000 in
theorem om_nat_QuoRem : FOK Tryd.prog GL 55 sm_nat_QuoRem := by
 refine fok_model (EM_ok K_nat_QuoRem) Tryd.func55 rfl (by kernel_rfl) (by decide) fun w0 S x r hw h => ?_
 have hF : FrOK (fr Tryd.prog (EM l_nat_QuoRem) S w0 Tryd.f55.ntmps) := ⟨EM_ok K_nat_QuoRem, mix⟩
 obtain ⟨(a_0 : (List Nat)), (b_1 : (List Nat)), u⟩ := x
 simp only [a_nat_QuoRem, Ty.wf, fits64] at hw
 simp only [args0, a_nat_QuoRem]
 try dsimp only at h
 unfold m_nat_QuoRem at h
 refine tri_seq (tri_region hF [0, 1] ?_)
 simp only [go_sem]
 refine at_next (tri_seq (tri_seq (tri_region hF [0, 1, 15] ?_)))
 simp only [go_sem]
 obtain ⟨g0, h⟩ := ck_some h
 repeat (refine ⟨by first | with_reducible assumption | omega | (intros; first | assumption | omega) | (simp only [go_sem] at *; first | assumption | omega) | decide, ?_⟩)
 refine at_next (tri_cond rfl (fun hc => ?_) (fun hc => ?_))
 ·try simp only [go_sem] at hc
  have h := ite_T (by first | exact hc | omega | (simpa using hc) | (simp at hc ⊢; omega)) h
  refine tri_seq (tri_regionB hF [4, 5] ?_)
  simp only [go_sem]
  obtain ⟨g0, h⟩ := ck_some h
  repeat (refine ⟨by first | with_reducible assumption | omega | (intros; first | assumption | omega) | (simp only [go_sem] at *; first | assumption | omega) | decide, ?_⟩)
  obtain rfl := Option.some.inj h
  refine at_next (tri_ret (at_then_ret (at_retC hF [.tmp 4, .tmp 5] rfl rfl rfl ?_)))
  (try simp only [retOK, resE, go_sem]) <;> first | rfl | (simp; done)
 ·try simp only [go_sem] at hc
  have h := ite_F (by first | exact hc | omega | (simpa using hc) | (simp at hc ⊢; omega)) h
  refine tri_skip (at_next (tri_seq (tri_seq (tri_region hF [0, 1, 20] ?_))))
  simp only [go_sem]
  refine at_next (tri_cond rfl (fun hc => ?_) (fun hc => ?_))
  ·try simp only [go_sem] at hc
   have h := ite_T (by first | exact hc | omega | (simpa using hc) | (simp at hc ⊢; omega)) h
   refine tri_seq (tri_region hF [4, 5] ?_)
   simp only [go_sem]
   obtain ⟨g0, h⟩ := ck_some h
   obtain ⟨g1, h⟩ := ck_some h
   repeat (refine ⟨by first | with_reducible assumption | omega | (intros; first | assumption | omega) | (simp only [go_sem] at *; first | assumption | omega) | decide, ?_⟩)
   obtain rfl := Option.some.inj h
   refine at_next (tri_ret (at_then_ret (at_retC hF [.tmp 4, .tmp 5] rfl rfl rfl ?_)))
   (try simp only [retOK, resE, go_sem]) <;> first | rfl | (simp; done)
  ·try simp only [go_sem] at hc
   have h := ite_F (by first | exact hc | omega | (simpa using hc) | (simp at hc ⊢; omega)) h
   refine tri_skip (at_next (tri_seq (tri_region hF [0, 1, 6, 7] ?_)))
   simp only [go_sem]
   obtain ⟨g0, h⟩ := ck_some h
   obtain ⟨g1, h⟩ := ck_some h
   try simp only [I64, I32] at g0
   repeat (refine ⟨by first | with_reducible assumption | omega | (intros; first | assumption | omega) | (simp only [go_sem] at *; first | assumption | omega) | decide, ?_⟩)
   refine at_next (tri_seq (tri_regionB hF [0, 6, 7, 8, 9] ?_))
   simp only [go_sem]
   obtain ⟨g0, h⟩ := ck_some h
   repeat (refine ⟨by first | with_reducible assumption | omega | (intros; first | assumption | omega) | (simp only [go_sem] at *; first | assumption | omega) | decide, ?_⟩)
   obtain ⟨g0, h⟩ := ck_some h
   repeat (refine ⟨by first | with_reducible assumption | omega | (intros; first | assumption | omega) | (simp only [go_sem] at *; first | assumption | omega) | decide, ?_⟩)
   obtain ⟨g0, h⟩ := ck_some h
   repeat (refine ⟨by first | with_reducible assumption | omega | (intros; first | assumption | omega) | (simp only [go_sem] at *; first | assumption | omega) | decide, ?_⟩)
   obtain ⟨g0, h⟩ := ck_some h
   try simp only [I64, I32] at g0
   repeat (refine ⟨by first | with_reducible assumption | omega | (intros; first | assumption | omega) | (simp only [go_sem] at *; first | assumption | omega) | decide, ?_⟩)
   obtain ⟨g0, h⟩ := ck_some h
   repeat (refine ⟨by first | with_reducible assumption | omega | (intros; first | assumption | omega) | (simp only [go_sem] at *; first | assumption | omega) | decide, ?_⟩)
   refine at_next (tri_seq (tri_regionB hF [0, 6, 7, 8, 9, 10] ?_))
   simp only [go_sem]
   obtain ⟨g0, h⟩ := ck_some h
   try simp only [I64, I32] at g0
   repeat (refine ⟨by first | with_reducible assumption | omega | (intros; first | assumption | omega) | (simp only [go_sem] at *; first | assumption | omega) | decide, ?_⟩)
   obtain ⟨g0, h⟩ := ck_some h
   try simp only [I64, I32] at g0
   repeat (refine ⟨by first | with_reducible assumption | omega | (intros; first | assumption | omega) | (simp only [go_sem] at *; first | assumption | omega) | decide, ?_⟩)
   obtain ⟨g0, h⟩ := ck_some h
   obtain ⟨g1, h⟩ := ck_some h
   repeat (refine ⟨by first | with_reducible assumption | omega | (intros; first | assumption | omega) | (simp only [go_sem] at *; first | assumption | omega) | decide, ?_⟩)
   refine at_next (tri_joinM (D := (List Nat) × (List Nat)) (fun d => m_nat_QuoRem_j1 b_1 d.1 d.2 = some r) [6, 7] (fun d => [(9, .own 0), (10, .own 1)]) (fun d => [.inr (.row 48 (.u .u64) d.1), .inr (.row 48 (.u .u64) d.2)]) ?_ ?_)
   ·refine tri_seq (tri_region hF [6, 7, 8, 9, 10, 11] ?_)
    simp only [go_sem]
    obtain ⟨g0, h⟩ := ck_some h
    try simp only [I64, I32] at g0
    repeat (refine ⟨by first | with_reducible assumption | omega | (intros; first | assumption | omega) | (simp only [go_sem] at *; first | assumption | omega) | decide, ?_⟩)
    refine at_next (tri_block (tri_freeze 0 ?_))
    simp only [go_sem]
    refine tri_ren [1, 2] rfl rfl ?_
    simp only [ren, ren1, renO, posOf, posAll, go_sem]
    refine tri_loopM (D := Int × (List Nat) × (List Nat)) [6, 7, 8] (fun d => [(9, .own 0), (10, .own 1), (11, .val (.i .i64) d.1)]) (fun d => [.inr (.row 48 (.u .u64) d.2.1), .inr (.row 48 (.u .u64) d.2.2)]) h ?_ ?_ ?_
    ·first | rfl | (simp only [go_sem]; done)
    ·(try simp only [fitE, fitV, true_or, and_self, go_sem]) <;> (repeat' apply And.intro) <;> first | rfl | (left; rfl) | (right; rfl) | (left; simp only [go_sem]; done) | (right; simp only [go_sem]; done) | (simp; done) | (simp only [*]; done) | omega
    rintro ⟨j_14, u_15, q_16⟩ s9 h hs9
    simp only [go_sem]
    try dsimp only at h
    unfold m_nat_QuoRem_l9 at h
    refine tri_seq (tri_seq (tri_region hF [6, 7, 8, 9, 10, 11, 60] ?_))
    simp only [go_sem]
    refine at_next (tri_cond rfl (fun hc => ?_) (fun hc => ?_))
    ·try simp only [go_sem] at hc
     have h := ite_T (by first | exact hc | omega | (simpa using hc) | (simp at hc ⊢; omega)) h
     obtain ⟨g0, h⟩ := ck_some h
     try simp only [I64, I32] at g0
     obtain ⟨g1, h⟩ := ck_some h
     try simp only [I64, I32] at g1
     obtain ⟨g2, h⟩ := ck_some h
     obtain ⟨r_24, he1, h⟩ := bind_some h
     try dsimp only at h
     obtain ⟨g3, h⟩ := ck_some h
     refine tri_skip (at_next (tri_seq (tri_block (tri_regionP hF (hits_of (l := [(91, ⟨sg_nat_digit, [0], ((j_14.toNat), ((((j_14 + (((b_1.length) : Nat) : Int)) + (1 : Int)) - j_14).toNat), (f_nat_padded (f_nat_Left b_1 (f_bits_LeadingZeros64 (b_1.getD (((((b_1.length) : Nat) : Int) - (1 : Int)).toNat) (0 : Nat)))) (((b_1.length) : Nat) : Int)), u_15, r_24)⟩)]) (.cons og_nat_digit (by kernel_rfl) (.nil))) [6, 7, 8, 9, 10, 11] [71] ?_))))
     simp only [go_sem]
     repeat (refine ⟨by first | with_reducible assumption | omega | (intros; first | assumption | omega) | (simp only [go_sem] at *; first | assumption | omega) | decide, ?_⟩)
     refine at_block_norm (at_next (tri_region hF [6, 7, 8, 9, 10, 11] ?_))
     simp only [go_sem]
     obtain ⟨g0, h⟩ := ck_some h
     try simp only [I64, I32] at g0
     repeat (refine ⟨by first | with_reducible assumption | omega | (intros; first | assumption | omega) | (simp only [go_sem] at *; first | assumption | omega) | decide, ?_⟩)
     obtain rfl := Option.some.inj h
     dsimp only [stepQ] at hs9
     refine at_then_norm (at_fit (((j_14 - (1 : Int)), (r_24.2), (q_16.set (j_14.toNat) (r_24.1)))) hs9 rfl ?_)
     ·(try simp only [fitE, fitV, true_or, and_self, go_sem]) <;> (repeat' apply And.intro) <;> first | rfl | (left; rfl) | (right; rfl) | (left; simp only [go_sem]; done) | (right; simp only [go_sem]; done) | (simp; done) | (simp only [*]; done) | omega
    ·try simp only [go_sem] at hc
     have h := ite_F (by first | exact hc | omega | (simpa using hc) | (simp at hc ⊢; omega)) h
     obtain rfl := Option.some.inj h
     dsimp only [stepQ] at hs9
     have h := hs9
     try dsimp only at h
     refine tri_exit (at_then_exit (at_then_exit (at_block_exit (at_then_norm (at_fit ((u_15, q_16)) h rfl ?_)))))
     ·(try simp only [fitE, fitV, true_or, and_self, go_sem]) <;> (repeat' apply And.intro) <;> first | rfl | (left; rfl) | (right; rfl) | (left; simp only [go_sem]; done) | (right; simp only [go_sem]; done) | (simp; done) | (simp only [*]; done) | omega
   ·rintro ⟨u_11, q_12⟩ h
    try dsimp only at h
    simp only [go_sem]
    unfold m_nat_QuoRem_j1 at h
    refine tri_seq (tri_freeze 1 ?_)
    simp only [go_sem]
    refine tri_freeze 0 ?_
    simp only [go_sem]
    refine tri_region hF [4, 5] ?_
    simp only [go_sem]
    obtain ⟨g0, h⟩ := ck_some h
    obtain ⟨g1, h⟩ := ck_some h
    repeat (refine ⟨by first | with_reducible assumption | omega | (intros; first | assumption | omega) | (simp only [go_sem] at *; first | assumption | omega) | decide, ?_⟩)
    obtain rfl := Option.some.inj h
    refine at_next (tri_ret (at_retC hF [.tmp 4, .tmp 5] rfl rfl rfl ?_))
    (try simp only [retOK, resE, go_sem]) <;> first | rfl | (simp; done)
theorem ok_nat_QuoRem : FOK Tryd.prog GL 55 sp_nat_QuoRem := fok_clean om_nat_QuoRem (fun ⟨x0, x1, u⟩ ⟨w0, w1, wu⟩ hp => law_nat_QuoRem x0 w0 x1 w1 hp)
end Nu
end Go.Proofs
