import Derived.Test.YteongmdhfkalaaaZGrF
namespace Go.Proofs
open Go.Vc
set_option linter.unusedVariables false
set_option linter.unusedSimpArgs false
namespace Gr

def sp8 : FSpec := ⟨args3, .tup (.pair (.sl (.arr 2 (.i .i64))) (.pair (.i .i64) .unit)), fun _ => True, fun x => ordT x.1 x.2.1 x.2.2.1⟩
def gl6 : List (FuncId × FSpec) := [(8, sp8)]
theorem G8 : gam gl6 8 = some sp8 := rfl
theorem K8 : Known Try.prog (fun _ => .junk) gl6 := .cons Order_ok (by kernel_rfl) .nil
attribute [go_sem] G8 sp8 args3

theorem o1 : ordT [1, 1] [[[0]], [[]]] [[[1, 0]], []] = ([[1, 0], [0, 0]], 0, ()) := by decide
theorem o2 : ordT [1] [[[0]]] [[[0, 0]]] = ([], 7, ()) := by decide
theorem o3 : ordT [1] [] [] = ([], 1, ()) := by decide
theorem o4 : ordT [] [] [] = ([], 0, ()) := by decide

theorem told_ok : FOK Try.prog (fun _ => .junk) 7 ⟨.unit, .one .bool, fun _ => True, fun _ => true⟩ := by
  refine fok_of (EM_ok K8) Try.func7 rfl (by kernel_rfl) (by decide) fun w0 S x hw _ => ?_
  have hF : FrOK ⟨Try.prog, EM gl6, ⟨nothing, S⟩, w0, Try.f7.ntmps⟩ := ⟨EM_ok K8, mix⟩
  simp only [args0]
  refine tri_seq (tri_region hF [] ?_)
  simp only [go_sem]
  refine at_next (tri_seq (tri_region hF [1, 2] ?_))
  simp only [go_sem]
  repeat (refine ⟨by (intros; first | omega | assumption | decide), ?_⟩)
  simp only [o1]
  refine at_next (tri_seq (tri_region hF [1, 2, 4] ?_))
  simp only [go_sem]
  repeat (refine ⟨by (intros; first | omega | assumption | decide), ?_⟩)
  simp only [o2]
  refine at_next (tri_seq (tri_region hF [1, 2, 4, 6] ?_))
  simp only [go_sem]
  repeat (refine ⟨by (intros; first | omega | assumption | decide), ?_⟩)
  simp only [o3]
  refine at_next (tri_seq (tri_region hF [1, 2, 4, 6, 7, 8] ?_))
  simp only [go_sem]
  repeat (refine ⟨by (intros; first | omega | assumption | decide), ?_⟩)
  simp only [o4]
  refine at_next (tri_seq (tri_region hF [0] ?_))
  simp only [go_sem]
  repeat (refine ⟨by (intros; first | omega | assumption | decide), ?_⟩)
  refine at_next (tri_ret (at_ret [0] rfl rfl ?_))
  simp only [retOK, go_sem]
  decide

end Gr
end Go.Proofs
