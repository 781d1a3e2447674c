/-
  The statement WriterLinesCardSaid is proved, for every input, with no condition.
-/
import Derived.Test.YtkihplehmkbfaaaDoorZS3
import Derived.Test.YtkihplehmkbfaaaDoorZL5
import Derived.Test.YtkihplehmkbfaaaDoorRows
import Derived.Test.YtkihplehmkbfaaaDoorCards
import Derived.Test.YtkihplehmkbfaaaDoorTie
import Derived.SevenTiedAt
import Derived.ProofKit
import Derived.OpenShut
import Derived.Below
import Derived.Stop.Joined
set_option linter.unusedVariables false
set_option linter.unusedSimpArgs false
namespace Go.Proofs.YtkihplehmkbfaaaDoor
open Go Go.ChangeShapes Go.WideShapes Go.ChangeAt Go.RowKit
namespace WriterLines
theorem own : ownKnob Tryd.prog.godebug = none := by kernel_rfl
theorem laidOut : laidOutB Tryd.prog = true := by kernel_rfl
theorem told : Go.Vc.FOK Tryd.prog Nu.GL 3 ⟨Nu.lX, .one .bool, fun _ => True, fun _ => true⟩ := Go.Vc.eQ Nu.aBj (fun x hw _ => Nu.aDJ x.1 x.2.1 (fun r hr => Nu.aTo (hw.1.2 r hr)))
theorem aQl (os : Os) (args : Array Value) : laidMetH Tryd.prog Rows.writerLinesRow.laid ((World.doorLaid Tryd.prog 400 os).forCall (fun _ _ => 0) ⟨#[], args, []⟩).memory :=
 laidMetH_of_parts3 (fuel := 8) (laidMet_of_run' 8 (by kernel_rfl) (by kernel_rfl)) (by kernel_rfl) (by kernel_rfl)
def nm0 : String := (Rows.writerLinesRow.laid.map (fun x => x.1)).getD 1 ""
theorem aTp : (nm0, Go.Vc.aPn .u8 [0, 1, 56, 2, 57, 49, 28, 3, 61, 58, 42, 50, 38, 29, 17, 4, 62, 47, 59, 36, 45, 43, 51, 22, 53, 39, 33, 30, 24, 18, 12, 5, 63, 55, 48, 27, 60, 41, 37, 16, 46, 35, 44, 21, 52, 32, 23, 11, 54, 26, 40, 15, 34, 20, 31, 10, 25, 14, 19, 9, 13, 8, 7, 6]) ∈ Rows.writerLinesRow.laid := List.mem_of_getElem? (i := 1) (by kernel_rfl)
theorem gn0 : Tryd.prog.globalNamed nm0 = some 0 := by kernel_rfl
def nm1 : String := (Rows.writerLinesRow.laid.map (fun x => x.1)).getD 2 ""
theorem aTq : (nm1, Go.Vc.aPn .u64 [1, 10, 100, 1000, 10000, 100000, 1000000, 10000000, 100000000, 1000000000, 10000000000, 100000000000, 1000000000000, 10000000000000, 100000000000000, 1000000000000000, 10000000000000000, 100000000000000000, 1000000000000000000, 10000000000000000000]) ∈ Rows.writerLinesRow.laid := List.mem_of_getElem? (i := 2) (by kernel_rfl)
theorem gn1 : Tryd.prog.globalNamed nm1 = some 1 := by kernel_rfl
theorem aST {W : World} (h : laidMetH Tryd.prog Rows.writerLinesRow.laid W) : Go.Vc.mM Nu.GL (Go.Vc.rW W) W := by
 rw [MakeChecks.laidMetH_plain _ _ _ (by kernel_rfl)] at h
 intro g
 match g with
 | 0 =>
  show Go.Vc.aM _ _ (.roa (.arr 64 (.u .u8)) Nu.aLM) _
  rw [Nu.aM4]
  obtain ⟨t, ht, hty⟩ : ∃ t, (Tryd.prog.globals[0]?).map (·.type) = some t ∧ Nu.TM t = some (.arr 64 (.u .u8)) := ⟨_, rfl, rfl⟩
  exact Go.Vc.aKz Nu.aM5 h nm0 0 t 64 .u8 [0, 1, 56, 2, 57, 49, 28, 3, 61, 58, 42, 50, 38, 29, 17, 4, 62, 47, 59, 36, 45, 43, 51, 22, 53, 39, 33, 30, 24, 18, 12, 5, 63, 55, 48, 27, 60, 41, 37, 16, 46, 35, 44, 21, 52, 32, 23, 11, 54, 26, 40, 15, 34, 20, 31, 10, 25, 14, 19, 9, 13, 8, 7, 6] aTp gn0 ht hty (by decide)
 | 1 =>
  show Go.Vc.aM _ _ (.roa (.arr 20 (.u .u64)) Nu.p10) _
  rw [Nu.aPq]
  obtain ⟨t, ht, hty⟩ : ∃ t, (Tryd.prog.globals[1]?).map (·.type) = some t ∧ Nu.TM t = some (.arr 20 (.u .u64)) := ⟨_, rfl, rfl⟩
  exact Go.Vc.aKz Nu.aM5 h nm1 1 t 20 .u64 [1, 10, 100, 1000, 10000, 100000, 1000000, 10000000, 100000000, 1000000000, 10000000000, 100000000000, 1000000000000, 10000000000000, 100000000000000, 1000000000000000, 10000000000000000, 100000000000000000, 1000000000000000000, 10000000000000000000] aTq gn1 ht hty (by decide)
 | _ + 2 => trivial
set_option maxRecDepth 100000 in
theorem lifted (os : Os) (started : os.Started) (H : Type) (enc : TypeId × Value → H) :
  ReturnsInHanded {} Tryd.checked os 3 .any (fun w args => (Rows.writerLinesSpec.pre enc Tryd.prog Tryd.f3 [] false w args ∧ laidMetH Tryd.prog Rows.writerLinesRow.laid w) ∧ sizedMet enc Tryd.prog Tryd.f3 (OpenSpec.ofChange Rows.writerLinesSpec) false w args) (Rows.writerLinesSpec.post enc Tryd.prog Tryd.f3 false true false false) := by
 refine returnsInHanded_of_change_and (C := Tryd.checked) (X := fun w _ => laidMetH Tryd.prog Rows.writerLinesRow.laid w) (fun _ _ _ hh h => h.of_heap hh) own started (by kernel_rfl) Tryd.func3
  (ChangeSpec.witness_shaped (enc := enc) (C := Tryd.checked) (os := os) (X := fun w _ => laidMetH Tryd.prog Rows.writerLinesRow.laid w) false (World.doorLaid Tryd.prog 400 os) #[.slice none 0 0, .int .i64 0] 8 rfl (World.shaped_of_RefB (by kernel_rfl) (by kernel_rfl)) (by kernel_rfl) (by kernel_rfl) (by kernel_rfl) (aQl os _)) ?_
 intro W base args ds gs before hval0 hW _ _ hL _
 have hval : ∀ (j : Nat) t v, Tryd.f3.params[j]? = some t → args[j]? = some v → Value.okWide Tryd.prog W .any base t v := hval0
 have hW' := hW
 obtain ⟨p, q, hA0, hV, rfl, hfz, hnd⟩ := hW
 have hA : DataW.TrodAll enc Tryd.prog W 0 (fun _ => true) true Tryd.f3.params.toList args.toList ds p := hA0
 rw [Tryd.params3] at hA hval
 obtain ⟨x, hx⟩ := Go.Vc.aMX (T := Nu.TM) Nu.aM5 Nu.lX [22, 3] args.toList ds p (by decide) hA (fun j t v h1 h2 => hval j t v (by simpa using h1) (by simpa using h2))
 obtain ⟨v0, vs0, d0, ds0, p0, q0, hargs, rfl, rfl, h0, r0⟩ := trodAll_cons hA
 obtain ⟨v1, vs1, d1, ds1, p1, q1, rfl, rfl, rfl, h1, r1⟩ := trodAll_cons r0
 obtain ⟨rfl, rfl, rfl⟩ := trodAll_nil r1
 obtain rfl : args = #[v0, v1] := by cases args; simp_all
 obtain ⟨rfl, rfl⟩ := trodVars_none hV
 have lt0 : ∀ x ∈ p0, x.block < W.heap.size := by obtain ⟨m, hm⟩ := h0; exact DataW.trod_lt m _ _ _ hm
 have lt1 : ∀ x ∈ p1, x.block < W.heap.size := by obtain ⟨m, hm⟩ := h1; exact DataW.trod_lt m _ _ _ hm
 refine (told W (Go.Vc.rW W) _ x (fun b hb => hb) (aST hL) hx trivial).mono fun e W' ⟨v, he, hk, hr⟩ => ?_
 have bel := hk.below
 have hv : v = .bool true := by
  have hr : Go.Vc.cF W' _ .bool true v := hr
  simp only [Go.Vc.cF, Go.Vc.Ty.isAgg, Go.Vc.aQ, Bool.false_eq_true, if_false, List.cons.injEq, and_true] at hr
  exact hr
 subst hv
 subst he
 exact ⟨_, rfl, _, _, _, [], _, [], hW', trodAll_mk1 (shut_bool Tryd.underlying4 _), (trodAll_cons_mk (Below.trod laidOut (by kernel_rfl) (of_decide_eq_true (by kernel_rfl)) h0 bel lt0) (trodAll_cons_mk (Below.trod laidOut (by kernel_rfl) (of_decide_eq_true (by kernel_rfl)) h1 bel lt1) trodAll_mk0)), rfl, bel.frame _, fun h => by cases h⟩
theorem aSU : (Rows.writerLinesRow.inPlace == Tryd.pinned.checked.prog.inPlace 3) = true := by kernel_rfl
theorem aSV : (Rows.writerLinesRow.unfollowed == Tryd.pinned.checked.prog.unfollowed 3) = true := by kernel_rfl
theorem aSW : (Rows.writerLinesRow.recurses == Tryd.pinned.checked.prog.recurses 3) = true := by kernel_rfl
theorem aSX : (Rows.writerLinesRow.named == Tryd.pinned.checked.prog.varsNamed 3) = true := by kernel_rfl
theorem closed : joinedFacts Tryd.pinned.checked.prog 3 Tryd.f3 Rows.writerLinesSpec Rows.writerLinesRow = true := by
 unfold joinedFacts
 rw [aSU, aSV, aSW, aSX]
 kernel_rfl
theorem over : Rows.WriterLinesSaid :=
 OpenClaim.holds_of_wide 3 Tryd.f3 rfl rfl rfl rfl rfl rfl rfl ⟨rfl, rfl, rfl, rfl, rfl⟩ rfl rfl rfl rfl rfl (by kernel_rfl) Tryd.func3 closed
  (of_decide_eq_true (by kernel_rfl)) (by unfold Func.isWrapper; first | (rw [if_pos (by decide +kernel)]; kernel_rfl) | (rw [if_neg (by decide +kernel)]; exact ⟨rfl, rfl⟩))
  (fun os started H enc _ => lifted os started H enc)
end WriterLines
theorem writerLines_card : Rows.WriterLinesCardSaid :=
 Claim7.holds_tied_plain_at .later [] [.data, .data, .data] true (true, "e1b91afa905c14097a0bb5119d878fbc4276adf1552633a96d3a083562ba3e53") false
  WriterLines.over (fun _ h => by cases h) (by kernel_rfl) (fun _ h => by cases h) writerLines_row_tie rfl ⟨rfl, rfl⟩ (by kernel_rfl) rfl
  (fun f fn hf hfn => by
   obtain rfl : f = 3 := Option.some.inj ((show Tryd.prog.funcNamed Rows.writerLinesRow.func = some 3 by kernel_rfl).symm.trans hf) |>.symm
   obtain rfl : fn = Tryd.f3 := (Option.some.inj (Tryd.func3.symm.trans hfn)).symm
   exact ⟨by kernel_rfl, fun j t ht => by
    rw [Tryd.params3] at ht
    have hm : t ∈ [22, 3] := by simpa using Array.mem_of_getElem? ht
    have hall : ([22, 3].all fun u => !Tryd.prog.wantsStandIn u) = true := by kernel_rfl
    exact (show Tryd.prog.wantsStandIn t = false by simpa using List.all_eq_true.1 hall t hm)⟩)
  (by kernel_rfl)
end Go.Proofs.YtkihplehmkbfaaaDoor
