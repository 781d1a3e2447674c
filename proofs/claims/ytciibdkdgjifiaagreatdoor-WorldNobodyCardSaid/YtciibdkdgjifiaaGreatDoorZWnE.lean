/-
  WORLDNOBODY BY THE INTERPRETER: what the tables say is so; told, out of known calls; the law.
-/
import Derived.Test.YtciibdkdgjifiaaGreatDoorZWnD
set_option linter.unusedVariables false
set_option linter.unusedSimpArgs false
set_option maxRecDepth 100000
set_option linter.unusedVariables false
namespace Go.Proofs.YtciibdkdgjifiaaGreatDoor.It
open Go Go.It
open Go.Vc (Keeps)
theorem tt_ok : ttB Tryz.prog ttL = true := by decide +kernel
theorem ft_ok : ftB Tryz.prog fnS = true := by decide +kernel
theorem gt_ok : gtB gts = true := by decide +kernel
theorem mixed : Tryz.prog.follows .mixedOrders = true := by kernel_rfl
theorem nats (E : En) : ∀ p ∈ ntL, p.1 < 4096 ∧ NatOK Tryz.prog E p.1 p.2 := by
  intro p hp
  unfold ntL at hp
  rcases List.mem_cons.1 hp with rfl | hp
  · exact ⟨by decide, nat_add Tryz.func111 (by kernel_rfl) (by kernel_rfl) (by kernel_rfl) (by kernel_rfl)⟩
  rcases List.mem_cons.1 hp with rfl | hp
  · exact ⟨by decide, nat_sub Tryz.func157 (by kernel_rfl) (by kernel_rfl) (by kernel_rfl) (by kernel_rfl)⟩
  cases hp
theorem en : EnOK Tryz.prog E := en_ok tt_ok
theorem fn : FnOK Tryz.prog E := fn_ok ft_ok (nats _)
theorem en1 : EnOK Tryz.prog E1 := withM_en en
theorem fn1 : FnOK Tryz.prog E1 := withM_fn fn _ fun p hp => by
  rcases List.mem_cons.1 hp with rfl | hp
  · refine ⟨by decide, fun E' he => mem_ok (n := 100) mixed en fn he fun e he => ?_⟩
    rcases List.mem_cons.1 he with rfl | he
    · exact c249_0f
    rcases List.mem_cons.1 he with rfl | he
    · exact c249_1f
    rcases List.mem_cons.1 he with rfl | he
    · exact c249_2f
    rcases List.mem_cons.1 he with rfl | he
    · exact c249_3f
    rcases List.mem_cons.1 he with rfl | he
    · exact c249_4f
    rcases List.mem_cons.1 he with rfl | he
    · exact c249_5f
    rcases List.mem_cons.1 he with rfl | he
    · exact c249_6f
    rcases List.mem_cons.1 he with rfl | he
    · exact c249_7f
    cases he
  · cases hp
noncomputable def E2 : En := withM [(140, [c140_0, c140_1]), (84, [c84_0, c84_1])] E
theorem fn2 : FnOK Tryz.prog E2 := withM_fn fn _ fun p hp => by
  rcases List.mem_cons.1 hp with rfl | hp
  · refine ⟨by decide, fun E' he => mem_ok (n := 100) mixed en1 fn1 he fun e he => ?_⟩
    rcases List.mem_cons.1 he with rfl | he
    · exact c140_0f
    rcases List.mem_cons.1 he with rfl | he
    · exact c140_1f
    cases he
  rcases List.mem_cons.1 hp with rfl | hp
  · refine ⟨by decide, fun E' he => mem_ok (n := 100) mixed en fn he fun e he => ?_⟩
    rcases List.mem_cons.1 he with rfl | he
    · exact c84_0f
    rcases List.mem_cons.1 he with rfl | he
    · exact c84_1f
    cases he
  · cases hp
theorem told_run : callN E2 100 4 [] (mem0 gts) isTrue noPan = true := by decide +kernel
theorem told_ok (E' : En) (h : E'.gl = gl0 gts 0) : NatOK Tryz.prog E' 4 (nTrue gts) := by
  have hb : ∃ cd, Tryz.f4.body = some cd := ⟨_, rfl⟩
  obtain ⟨cd, hb⟩ := hb
  exact nat_true2 mixed (withM_en en) fn2 rfl Tryz.func4 hb (by decide +kernel) gt_ok told_run h
noncomputable def E3 : En := mkE Tryz.prog ttL ((4, nTrue gts) :: ntL) fnS (gl0 gts 0)
theorem en3 : EnOK Tryz.prog E3 := en_ok tt_ok
theorem fn3 : FnOK Tryz.prog E3 := fn_ok ft_ok fun p hp => by
  rcases List.mem_cons.1 hp with rfl | hp
  · exact ⟨by decide, told_ok _ rfl⟩
  · exact nats _ p hp
theorem law_run : callN E3 100 3 [.agg [.q .i64 1 0, .q .i64 1 0], .q .i64 1 0] (mem0 gts) isTrue noPan = true := by decide +kernel
theorem law {W : World} (hg : ∀ t ∈ gts, GtR W t) {x0 y0 x1 : Int} (h0 : (Lit.int .i64 x0).wf = true) (k0 : (Lit.int .i64 y0).wf = true) (h1 : (Lit.int .i64 x1).wf = true) :
    Calls Tryz.prog 3 #[.agg #[.int .i64 x0, .int .i64 y0], .int .i64 x1] W fun e w' => e = .returned (.bool true) ∧ Keeps (fun _ => False) W w' := by
  obtain ⟨cd, hb⟩ : ∃ cd, Tryz.f3.body = some cd := ⟨_, rfl⟩
  obtain ⟨d1, d2, d3⟩ := ft_of ft_ok (f := 3) (by decide +kernel) Tryz.func3 hb
  refine run_ok mixed en3 fn3 Tryz.func3 hb d3 law_run (start_ok gt_ok hg) (gl_ok gts) (xs := [.agg #[.int .i64 x0, .int .i64 y0], .int .i64 x1]) ?_
  simp only [VRL]
  refine ⟨_, _, rfl, ?_, _, _, rfl, vr_any h1, rfl⟩
  simp only [VR]
  refine ⟨[.int .i64 x0, .int .i64 y0], rfl, ?_, rfl⟩
  simp only [VRL]
  exact ⟨_, _, rfl, vr_any h0, _, _, rfl, vr_any k0, rfl⟩
end Go.Proofs.YtciibdkdgjifiaaGreatDoor.It
