import Derived.Test.YteongmdhfkalaaaZGrG
import Derived.Test.YteongmdhfkalaaaZGrP
namespace Go.Proofs
open Go.Vc
set_option linter.unusedVariables false
set_option linter.unusedSimpArgs false
namespace Gr

def sp6 : FSpec := ⟨args3, .one .bool, fun _ => True, fun x => few3 x.1 x.2.1 x.2.2.1⟩
def sp7 : FSpec := ⟨.unit, .one .bool, fun _ => True, fun _ => true⟩
def sp9 : FSpec := ⟨args3, .tup (.pair (.sl (.arr 2 (.i .i64))) (.pair (.i .i64) .unit)), fun _ => True, fun x => ordT x.1 x.2.1 x.2.2.1⟩
def gl7 : List (FuncId × FSpec) := [(6, sp6), (7, sp7), (8, sp8), (9, sp9), (10, sp10)]
theorem G76 : gam gl7 6 = some sp6 := rfl
theorem G77 : gam gl7 7 = some sp7 := rfl
theorem G78 : gam gl7 8 = some sp8 := rfl
theorem G79 : gam gl7 9 = some sp9 := rfl
theorem G710 : gam gl7 10 = some sp10 := rfl
theorem K7 : Known Try.prog (fun _ => .junk) gl7 := .cons few_ok (by kernel_rfl) (.cons told_ok (by kernel_rfl) (.cons Order_ok (by kernel_rfl) (.cons RefOrder_ok (by kernel_rfl) (.cons MayGraph_ok (by kernel_rfl) .nil))))
attribute [go_sem] G76 G77 G78 G79 G710 sp6 sp7 sp9
theorem eqb_self (x : List Int) : KT.eqb x x = true := by
  simp only [Ty.eqb]
  induction x with
  | nil => rfl
  | cons a r ih => simp [ih]
def spLaw : FSpec := ⟨args3, .one .bool, fun _ => True, fun _ => true⟩

theorem Asks_ok : FOK Try.prog (fun _ => .junk) 3 spLaw := by
  refine fok_of (EM_ok K7) Try.func3 rfl (by kernel_rfl) (by decide) fun w0 S x hw _ => ?_
  obtain ⟨(outs : List Int), (uses : List (List (List Int))), (frm : List (List (List Int))), u⟩ := x
  have hF : FrOK ⟨Try.prog, EM gl7, ⟨nothing, S⟩, w0, Try.f3.ntmps⟩ := ⟨EM_ok K7, mix⟩
  simp only [args0, args3, spLaw]
  refine tri_seq (tri_region hF [0, 1, 2] ?_)
  simp only [go_sem]
  refine at_next (tri_seq (tri_seq (tri_region hF [0, 1, 2, 16] ?_)))
  simp only [go_sem]
  repeat (refine ⟨by (intros; first | omega | assumption | decide), ?_⟩)
  refine at_next (tri_cond rfl (fun hc => ?_) (fun hc => ?_))
  · try simp only [go_sem] at hc
    refine tri_seq (tri_region hF [6] ?_)
    simp only [go_sem]
    repeat (refine ⟨by (intros; first | omega | assumption | decide), ?_⟩)
    refine at_next (tri_ret (at_then_ret (at_ret [6] rfl rfl ?_)))
    simp only [retOK, go_sem]
    skip
  · try simp only [go_sem] at hc
    refine tri_skip (at_next (tri_seq (tri_region hF [0, 1, 2, 7, 8] ?_)))
    simp only [go_sem]
    repeat (refine ⟨by (intros; first | omega | assumption | decide), ?_⟩)
    refine at_next (tri_seq (tri_region hF [7, 8, 9, 10] ?_))
    simp only [go_sem]
    repeat (refine ⟨by (intros; first | omega | assumption | decide), ?_⟩)
    refine at_next (tri_seq (tri_seq (tri_region hF [7, 9, 41] ?_)))
    simp only [go_sem]
    repeat (refine ⟨by (intros; first | omega | assumption | decide), ?_⟩)
    refine at_next (tri_cond rfl (fun hc => ?_) (fun hc => ?_))
    · try simp only [go_sem] at hc

    · try simp only [go_sem] at hc
      refine tri_skip (at_next (tri_seq (tri_seq (tri_region hF [7, 9, 11] ?_))))
      simp only [go_sem]
      refine at_next (tri_block (tri_loopU (D := Int) [7, 9] (fun i => 0 ≤ i ∧ i ≤ (ordT outs uses frm).1.length) (fun i => ((ordT outs uses frm).1.length - i).toNat) (fun i => [(11, .val (.i .i64) i)]) (fun i => []) (at_fit (0) ?_ rfl ?_) ?_))
      · exact ⟨Int.le_refl _, by omega⟩
      · simp only [fitE, fitV, true_or, and_self, go_sem]
      rintro i ⟨hi0, hi1⟩
      simp only [go_sem]
      refine tri_seq (tri_seq (tri_region hF [7, 9, 11, 45] ?_))
      simp only [go_sem]
      repeat (refine ⟨by (intros; first | omega | assumption | decide), ?_⟩)
      refine at_next (tri_cond rfl (fun hc => ?_) (fun hc => ?_))
      · try simp only [go_sem] at hc
        have hlen := ord_len (outs := outs) (uses := uses) (frm := frm)
        refine tri_skip (at_next (tri_seq (tri_block (tri_seq (tri_region hF [7, 9, 11, 56] ?_)))))
        simp only [go_sem]
        repeat (refine ⟨by (intros; first | omega | assumption | decide), ?_⟩)
        refine at_next (tri_cond rfl (fun hc => ?_) (fun hc => ?_))
        · try simp only [go_sem] at hc
          refine tri_seq (tri_region hF [6] ?_)
          simp only [go_sem]
          refine at_next (tri_ret (at_block_ret (at_then_ret (at_then_ret (at_block_ret (at_then_ret (at_ret [6] rfl rfl ?_)))))))
          simp only [retOK, go_sem]
          rw [eqb_self] at hc; cases hc
        · try simp only [go_sem] at hc
          refine tri_skip (at_block_norm (at_next (tri_region hF [7, 9, 11] ?_)))
          simp only [go_sem]
          repeat (refine ⟨by (intros; first | omega | assumption | decide), ?_⟩)
          refine at_then_norm (at_fit (i + 1) ?_ rfl ?_)
          · exact ⟨⟨by omega, by omega⟩, by omega⟩
          · simp only [fitE, fitV, true_or, and_self, go_sem]
      · try simp only [go_sem] at hc
        refine tri_exit (at_then_exit (at_then_exit (at_block_exit (at_next (tri_seq (tri_region hF [6] ?_))))))
        simp only [go_sem]
        repeat (refine ⟨by (intros; first | omega | assumption | decide), ?_⟩)
        refine at_next (tri_ret (at_ret [6] rfl rfl ?_))
        simp only [retOK, go_sem]
        skip

end Gr
end Go.Proofs
