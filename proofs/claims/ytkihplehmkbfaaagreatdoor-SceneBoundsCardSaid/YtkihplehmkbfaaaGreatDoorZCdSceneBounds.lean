/-
  The statement SceneBoundsCardSaid is proved, for every input, with no condition.
-/
import Derived.Test.YtkihplehmkbfaaaGreatDoorZS3
import Derived.Test.YtkihplehmkbfaaaGreatDoorZL6
import Derived.Test.YtkihplehmkbfaaaGreatDoorRows
import Derived.Lay
import Derived.Test.YtkihplehmkbfaaaGreatDoorCards
import Derived.Test.YtkihplehmkbfaaaGreatDoorTie
import Derived.SevenTiedAt
import Derived.ProofKit
import Derived.OpenShut
import Derived.Below
import Derived.Stop.Joined
set_option linter.unusedVariables false
set_option linter.unusedSimpArgs false
namespace Go.Proofs.YtkihplehmkbfaaaGreatDoor
open Go Go.ChangeShapes Go.WideShapes Go.ChangeAt Go.RowKit
namespace SceneBounds
theorem own : ownKnob Tryz.prog.godebug = none := by kernel_rfl
theorem laidOut : laidOutB Tryz.prog = true := by kernel_rfl
theorem told : Go.Vc.FOK Tryz.prog Nu.GL 9 ⟨Nu.hU, .one .bool, fun _ => True, fun _ => true⟩ := Go.Vc.aPb (Nu.aDq (some 1000)) (fun x hw _ => Nu.aG9 x.1 x.2.1)
theorem aQP (os : Os) (args : Array Value) : laidMetH Tryz.prog Rows.sceneBoundsRow.laid ((World.laidAll Tryz.prog os Rows.sceneBoundsRow.laid).forCall (fun _ _ => 0) ⟨#[], args, []⟩).memory := by
 rw [MakeChecks.laidMetH_plain _ _ _ (by kernel_rfl)]
 exact laidMet_laidAll _ (by kernel_rfl) (by kernel_rfl)
def nm0 : String := (Rows.sceneBoundsRow.laid.map (fun x => x.1)).getD 1 ""
theorem aTa : (nm0, Go.Vc.aQI .u8 [0, 1, 56, 2, 57, 49, 28, 3, 61, 58, 42, 50, 38, 29, 17, 4, 62, 47, 59, 36, 45, 43, 51, 22, 53, 39, 33, 30, 24, 18, 12, 5, 63, 55, 48, 27, 60, 41, 37, 16, 46, 35, 44, 21, 52, 32, 23, 11, 54, 26, 40, 15, 34, 20, 31, 10, 25, 14, 19, 9, 13, 8, 7, 6]) ∈ Rows.sceneBoundsRow.laid := List.mem_of_getElem? (i := 1) (by kernel_rfl)
theorem gn0 : Tryz.prog.globalNamed nm0 = some 0 := by kernel_rfl
def nm1 : String := (Rows.sceneBoundsRow.laid.map (fun x => x.1)).getD 2 ""
theorem aTb : (nm1, Go.Vc.aQI .u64 [1, 10, 100, 1000, 10000, 100000, 1000000, 10000000, 100000000, 1000000000, 10000000000, 100000000000, 1000000000000, 10000000000000, 100000000000000, 1000000000000000, 10000000000000000, 100000000000000000, 1000000000000000000, 10000000000000000000]) ∈ Rows.sceneBoundsRow.laid := List.mem_of_getElem? (i := 2) (by kernel_rfl)
theorem gn1 : Tryz.prog.globalNamed nm1 = some 1 := by kernel_rfl
theorem aSA {W : World} (h : laidMetH Tryz.prog Rows.sceneBoundsRow.laid W) : Go.Vc.mF Nu.GL (Go.Vc.uT W) W := by
 rw [MakeChecks.laidMetH_plain _ _ _ (by kernel_rfl)] at h
 intro g
 match g with
 | 0 =>
  show Go.Vc.aM _ _ (.roa (.arr 64 (.u .u8)) Nu.aQK) _
  rw [Nu.aRF]
  obtain ⟨t, ht, hty⟩ : ∃ t, (Tryz.prog.globals[0]?).map (·.type) = some t ∧ Nu.TM t = some (.arr 64 (.u .u8)) := ⟨_, rfl, rfl⟩
  exact Go.Vc.aMU Nu.aMV h nm0 0 t 64 .u8 [0, 1, 56, 2, 57, 49, 28, 3, 61, 58, 42, 50, 38, 29, 17, 4, 62, 47, 59, 36, 45, 43, 51, 22, 53, 39, 33, 30, 24, 18, 12, 5, 63, 55, 48, 27, 60, 41, 37, 16, 46, 35, 44, 21, 52, 32, 23, 11, 54, 26, 40, 15, 34, 20, 31, 10, 25, 14, 19, 9, 13, 8, 7, 6] aTa gn0 ht hty (by decide)
 | 1 =>
  show Go.Vc.aM _ _ (.roa (.arr 20 (.u .u64)) Nu.p10) _
  rw [Nu.aSg]
  obtain ⟨t, ht, hty⟩ : ∃ t, (Tryz.prog.globals[1]?).map (·.type) = some t ∧ Nu.TM t = some (.arr 20 (.u .u64)) := ⟨_, rfl, rfl⟩
  exact Go.Vc.aMU Nu.aMV h nm1 1 t 20 .u64 [1, 10, 100, 1000, 10000, 100000, 1000000, 10000000, 100000000, 1000000000, 10000000000, 100000000000, 1000000000000, 10000000000000, 100000000000000, 1000000000000000, 10000000000000000, 100000000000000000, 1000000000000000000, 10000000000000000000] aTb gn1 ht hty (by decide)
 | _ + 2 => trivial
set_option maxRecDepth 100000 in
theorem lifted (os : Os) (started : os.Started) (H : Type) (enc : TypeId × Value → H) :
  ReturnsInHanded {} Tryz.checked os 9 .any (fun w args => (Rows.sceneBoundsSpec.pre enc Tryz.prog Tryz.f9 [] false w args ∧ laidMetH Tryz.prog Rows.sceneBoundsRow.laid w) ∧ sizedMet enc Tryz.prog Tryz.f9 (OpenSpec.ofChange Rows.sceneBoundsSpec) false w args) (Rows.sceneBoundsSpec.post enc Tryz.prog Tryz.f9 false true false false) := by
 refine returnsInHanded_of_change_and (C := Tryz.checked) (X := fun w _ => laidMetH Tryz.prog Rows.sceneBoundsRow.laid w) (fun _ _ _ hh h => h.of_heap hh) own started (by kernel_rfl) Tryz.func9
  (ChangeSpec.witness_shaped (enc := enc) (C := Tryz.checked) (os := os) (X := fun w _ => laidMetH Tryz.prog Rows.sceneBoundsRow.laid w) false (World.laidAll Tryz.prog os Rows.sceneBoundsRow.laid) #[.int .i64 0, .bool false] 8 rfl (World.shaped_of_ZipB (by kernel_rfl) (by kernel_rfl)) (by kernel_rfl) (by kernel_rfl) (by kernel_rfl) (aQP os _)) ?_
 intro W base args ds gs before hval0 hW _ _ hL _
 have hval : ∀ (j : Nat) t v, Tryz.f9.params[j]? = some t → args[j]? = some v → Value.okWide Tryz.prog W .any base t v := hval0
 have hW' := hW
 obtain ⟨p, q, hA0, hV, rfl, hfz, hnd⟩ := hW
 have hA : DataW.TrodAll enc Tryz.prog W 0 (fun _ => true) true Tryz.f9.params.toList args.toList ds p := hA0
 rw [Tryz.params9] at hA hval
 obtain ⟨x, hx⟩ := Go.Vc.aOz (T := Nu.TM) Nu.aMV Nu.hU [3, 4] args.toList ds p (by decide) hA (fun j t v h1 h2 => hval j t v (by simpa using h1) (by simpa using h2))
 obtain ⟨v0, vs0, d0, ds0, p0, q0, hargs, rfl, rfl, h0, r0⟩ := trodAll_cons hA
 obtain ⟨v1, vs1, d1, ds1, p1, q1, rfl, rfl, rfl, h1, r1⟩ := trodAll_cons r0
 obtain ⟨rfl, rfl, rfl⟩ := trodAll_nil r1
 obtain rfl : args = #[v0, v1] := by cases args; simp_all
 obtain ⟨rfl, rfl⟩ := trodVars_none hV
 have lt0 : ∀ x ∈ p0, x.block < W.heap.size := by obtain ⟨m, hm⟩ := h0; exact DataW.trod_lt m _ _ _ hm
 have lt1 : ∀ x ∈ p1, x.block < W.heap.size := by obtain ⟨m, hm⟩ := h1; exact DataW.trod_lt m _ _ _ hm
 refine (told W (Go.Vc.uT W) _ x (fun b hb => hb) (aSA hL) hx trivial).mono fun e W' ⟨v, he, hk, hr⟩ => ?_
 have bel := hk.below
 have hv : v = .bool true := by
  have hr : Go.Vc.cO W' _ .bool true v := hr
  simp only [Go.Vc.cO, Go.Vc.Ty.isAgg, Go.Vc.aO, Bool.false_eq_true, if_false, List.cons.injEq, and_true] at hr
  exact hr
 subst hv
 subst he
 exact ⟨_, rfl, _, _, _, [], _, [], hW', trodAll_mk1 (shut_bool Tryz.underlying4 _), (trodAll_cons_mk (Below.trod laidOut (by kernel_rfl) (of_decide_eq_true (by kernel_rfl)) h0 bel lt0) (trodAll_cons_mk (Below.trod laidOut (by kernel_rfl) (of_decide_eq_true (by kernel_rfl)) h1 bel lt1) trodAll_mk0)), rfl, bel.frame _, fun h => by cases h⟩
theorem aSB : (Rows.sceneBoundsRow.inPlace == Tryz.pinned.checked.prog.inPlace 9) = true := by kernel_rfl
theorem aSC : (Rows.sceneBoundsRow.unfollowed == Tryz.pinned.checked.prog.unfollowed 9) = true := by kernel_rfl
theorem aSD : (Rows.sceneBoundsRow.recurses == Tryz.pinned.checked.prog.recurses 9) = true := by kernel_rfl
theorem aSE : (Rows.sceneBoundsRow.named == Tryz.pinned.checked.prog.varsNamed 9) = true := by kernel_rfl
theorem closed : joinedFacts Tryz.pinned.checked.prog 9 Tryz.f9 Rows.sceneBoundsSpec Rows.sceneBoundsRow = true := by
 unfold joinedFacts
 rw [aSB, aSC, aSD, aSE]
 kernel_rfl
theorem over : Rows.SceneBoundsSaid :=
 OpenClaim.holds_of_wide 9 Tryz.f9 rfl rfl rfl rfl rfl rfl rfl ⟨rfl, rfl, rfl, rfl, rfl⟩ rfl rfl rfl rfl rfl (by kernel_rfl) Tryz.func9 closed
  (of_decide_eq_true (by kernel_rfl)) (by unfold Func.isWrapper; first | (rw [if_pos (by decide +kernel)]; kernel_rfl) | (rw [if_neg (by decide +kernel)]; exact ⟨rfl, rfl⟩))
  (fun os started H enc _ => lifted os started H enc)
end SceneBounds
theorem sceneBounds_card : Rows.SceneBoundsCardSaid :=
 Claim7.holds_tied_plain_at .later [] [.data, .data, .data, .data, .sentinel, .sentinel, .pinned] true (true, "c981af4a5dba8154c443a7dd660da659310713d75052de900dc7ddcc92357850") true
  SceneBounds.over (fun _ h => by cases h) (by kernel_rfl) (fun _ h => by cases h) sceneBounds_row_tie rfl ⟨rfl, rfl⟩ (by kernel_rfl) rfl
  (fun f fn hf hfn => by
   obtain rfl : f = 9 := Option.some.inj ((show Tryz.prog.funcNamed Rows.sceneBoundsRow.func = some 9 by kernel_rfl).symm.trans hf) |>.symm
   obtain rfl : fn = Tryz.f9 := (Option.some.inj (Tryz.func9.symm.trans hfn)).symm
   exact ⟨by kernel_rfl, fun j t ht => by
    rw [Tryz.params9] at ht
    have hm : t ∈ [3, 4] := by simpa using Array.mem_of_getElem? ht
    have hall : ([3, 4].all fun u => !Tryz.prog.wantsStandIn u) = true := by kernel_rfl
    exact (show Tryz.prog.wantsStandIn t = false by simpa using List.all_eq_true.1 hall t hm)⟩)
  (by kernel_rfl)
end Go.Proofs.YtkihplehmkbfaaaGreatDoor
