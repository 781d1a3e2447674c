/-
  The statement SceneLinksCardSaid is proved, for every input, with no condition.
-/
import Derived.Test.YtkihplehmkbfaaaGreatDoorZS3
import Derived.Test.YtkihplehmkbfaaaGreatDoorZL6
import Derived.Test.YtkihplehmkbfaaaGreatDoorRows
import Derived.Lay
import Derived.Test.YtkihplehmkbfaaaGreatDoorCards
import Derived.Test.YtkihplehmkbfaaaGreatDoorTie
import Derived.SevenTiedAt
import Derived.ProofKit
import Derived.OpenShut
import Derived.Below
import Derived.Stop.Joined
set_option linter.unusedVariables false
set_option linter.unusedSimpArgs false
namespace Go.Proofs.YtkihplehmkbfaaaGreatDoor
open Go Go.ChangeShapes Go.WideShapes Go.ChangeAt Go.RowKit
namespace SceneLinks
theorem own : ownKnob Tryz.prog.godebug = none := by kernel_rfl
theorem laidOut : laidOutB Tryz.prog = true := by kernel_rfl
theorem told : Go.Vc.FOK Tryz.prog Nu.GL 7 ⟨Nu.iI, .one .bool, fun _ => True, fun _ => true⟩ := Go.Vc.aPb (Nu.aDF (some 1000)) (fun x hw _ => Nu.aIB x.1)
theorem aQZ (os : Os) (args : Array Value) : laidMetH Tryz.prog Rows.sceneLinksRow.laid ((World.laidAll Tryz.prog os Rows.sceneLinksRow.laid).forCall (fun _ _ => 0) ⟨#[], args, []⟩).memory := by
 rw [MakeChecks.laidMetH_plain _ _ _ (by kernel_rfl)]
 exact laidMet_laidAll _ (by kernel_rfl) (by kernel_rfl)
def nm0 : String := (Rows.sceneLinksRow.laid.map (fun x => x.1)).getD 1 ""
theorem aTe : (nm0, Go.Vc.aQS .u8 [0, 1, 56, 2, 57, 49, 28, 3, 61, 58, 42, 50, 38, 29, 17, 4, 62, 47, 59, 36, 45, 43, 51, 22, 53, 39, 33, 30, 24, 18, 12, 5, 63, 55, 48, 27, 60, 41, 37, 16, 46, 35, 44, 21, 52, 32, 23, 11, 54, 26, 40, 15, 34, 20, 31, 10, 25, 14, 19, 9, 13, 8, 7, 6]) ∈ Rows.sceneLinksRow.laid := List.mem_of_getElem? (i := 1) (by kernel_rfl)
theorem gn0 : Tryz.prog.globalNamed nm0 = some 0 := by kernel_rfl
def nm1 : String := (Rows.sceneLinksRow.laid.map (fun x => x.1)).getD 2 ""
theorem aTf : (nm1, Go.Vc.aQS .u64 [1, 10, 100, 1000, 10000, 100000, 1000000, 10000000, 100000000, 1000000000, 10000000000, 100000000000, 1000000000000, 10000000000000, 100000000000000, 1000000000000000, 10000000000000000, 100000000000000000, 1000000000000000000, 10000000000000000000]) ∈ Rows.sceneLinksRow.laid := List.mem_of_getElem? (i := 2) (by kernel_rfl)
theorem gn1 : Tryz.prog.globalNamed nm1 = some 1 := by kernel_rfl
theorem aSH {W : World} (h : laidMetH Tryz.prog Rows.sceneLinksRow.laid W) : Go.Vc.mI Nu.GL (Go.Vc.uR W) W := by
 rw [MakeChecks.laidMetH_plain _ _ _ (by kernel_rfl)] at h
 intro g
 match g with
 | 0 =>
  show Go.Vc.aL _ _ (.roa (.arr 64 (.u .u8)) Nu.aQU) _
  rw [Nu.aRO]
  obtain ⟨t, ht, hty⟩ : ∃ t, (Tryz.prog.globals[0]?).map (·.type) = some t ∧ Nu.TM t = some (.arr 64 (.u .u8)) := ⟨_, rfl, rfl⟩
  exact Go.Vc.aMS Nu.aMT h nm0 0 t 64 .u8 [0, 1, 56, 2, 57, 49, 28, 3, 61, 58, 42, 50, 38, 29, 17, 4, 62, 47, 59, 36, 45, 43, 51, 22, 53, 39, 33, 30, 24, 18, 12, 5, 63, 55, 48, 27, 60, 41, 37, 16, 46, 35, 44, 21, 52, 32, 23, 11, 54, 26, 40, 15, 34, 20, 31, 10, 25, 14, 19, 9, 13, 8, 7, 6] aTe gn0 ht hty (by decide)
 | 1 =>
  show Go.Vc.aL _ _ (.roa (.arr 20 (.u .u64)) Nu.p10) _
  rw [Nu.aSo]
  obtain ⟨t, ht, hty⟩ : ∃ t, (Tryz.prog.globals[1]?).map (·.type) = some t ∧ Nu.TM t = some (.arr 20 (.u .u64)) := ⟨_, rfl, rfl⟩
  exact Go.Vc.aMS Nu.aMT h nm1 1 t 20 .u64 [1, 10, 100, 1000, 10000, 100000, 1000000, 10000000, 100000000, 1000000000, 10000000000, 100000000000, 1000000000000, 10000000000000, 100000000000000, 1000000000000000, 10000000000000000, 100000000000000000, 1000000000000000000, 10000000000000000000] aTf gn1 ht hty (by decide)
 | _ + 2 => trivial
set_option maxRecDepth 100000 in
theorem lifted (os : Os) (started : os.Started) (H : Type) (enc : TypeId × Value → H) :
  ReturnsInHanded {} Tryz.checked os 7 .any (fun w args => (Rows.sceneLinksSpec.pre enc Tryz.prog Tryz.f7 [] false w args ∧ laidMetH Tryz.prog Rows.sceneLinksRow.laid w) ∧ sizedMet enc Tryz.prog Tryz.f7 (OpenSpec.ofChange Rows.sceneLinksSpec) false w args) (Rows.sceneLinksSpec.post enc Tryz.prog Tryz.f7 false true false false) := by
 refine returnsInHanded_of_change_and (C := Tryz.checked) (X := fun w _ => laidMetH Tryz.prog Rows.sceneLinksRow.laid w) (fun _ _ _ hh h => h.of_heap hh) own started (by kernel_rfl) Tryz.func7
  (ChangeSpec.witness_shaped (enc := enc) (C := Tryz.checked) (os := os) (X := fun w _ => laidMetH Tryz.prog Rows.sceneLinksRow.laid w) false (World.laidAll Tryz.prog os Rows.sceneLinksRow.laid) #[.int .i64 0] 8 rfl (World.shaped_of_ZipB (by kernel_rfl) (by kernel_rfl)) (by kernel_rfl) (by kernel_rfl) (by kernel_rfl) (aQZ os _)) ?_
 intro W base args ds gs before hval0 hW _ _ hL _
 have hval : ∀ (j : Nat) t v, Tryz.f7.params[j]? = some t → args[j]? = some v → Value.okWide Tryz.prog W .any base t v := hval0
 have hW' := hW
 obtain ⟨p, q, hA0, hV, rfl, hfz, hnd⟩ := hW
 have hA : DataW.TrodAll enc Tryz.prog W 0 (fun _ => true) true Tryz.f7.params.toList args.toList ds p := hA0
 rw [Tryz.params7] at hA hval
 obtain ⟨x, hx⟩ := Go.Vc.aOA (T := Nu.TM) Nu.aMT Nu.iI [3] args.toList ds p (by decide) hA (fun j t v h1 h2 => hval j t v (by simpa using h1) (by simpa using h2))
 obtain ⟨v0, vs0, d0, ds0, p0, q0, hargs, rfl, rfl, h0, r0⟩ := trodAll_cons hA
 obtain ⟨rfl, rfl, rfl⟩ := trodAll_nil r0
 obtain rfl : args = #[v0] := by cases args; simp_all
 obtain ⟨rfl, rfl⟩ := trodVars_none hV
 have lt0 : ∀ x ∈ p0, x.block < W.heap.size := by obtain ⟨m, hm⟩ := h0; exact DataW.trod_lt m _ _ _ hm
 refine (told W (Go.Vc.uR W) _ x (fun b hb => hb) (aSH hL) hx trivial).mono fun e W' ⟨v, he, hk, hr⟩ => ?_
 have bel := hk.below
 have hv : v = .bool true := by
  have hr : Go.Vc.cM W' _ .bool true v := hr
  simp only [Go.Vc.cM, Go.Vc.Ty.isAgg, Go.Vc.aN, Bool.false_eq_true, if_false, List.cons.injEq, and_true] at hr
  exact hr
 subst hv
 subst he
 exact ⟨_, rfl, _, _, _, [], _, [], hW', trodAll_mk1 (shut_bool Tryz.underlying4 _), (trodAll_cons_mk (Below.trod laidOut (by kernel_rfl) (of_decide_eq_true (by kernel_rfl)) h0 bel lt0) trodAll_mk0), rfl, bel.frame _, fun h => by cases h⟩
theorem aSI : (Rows.sceneLinksRow.inPlace == Tryz.pinned.checked.prog.inPlace 7) = true := by kernel_rfl
theorem aSJ : (Rows.sceneLinksRow.unfollowed == Tryz.pinned.checked.prog.unfollowed 7) = true := by kernel_rfl
theorem aSK : (Rows.sceneLinksRow.recurses == Tryz.pinned.checked.prog.recurses 7) = true := by kernel_rfl
theorem aSL : (Rows.sceneLinksRow.named == Tryz.pinned.checked.prog.varsNamed 7) = true := by kernel_rfl
theorem closed : joinedFacts Tryz.pinned.checked.prog 7 Tryz.f7 Rows.sceneLinksSpec Rows.sceneLinksRow = true := by
 unfold joinedFacts
 rw [aSI, aSJ, aSK, aSL]
 kernel_rfl
theorem over : Rows.SceneLinksSaid :=
 OpenClaim.holds_of_wide 7 Tryz.f7 rfl rfl rfl rfl rfl rfl rfl ⟨rfl, rfl, rfl, rfl, rfl⟩ rfl rfl rfl rfl rfl (by kernel_rfl) Tryz.func7 closed
  (of_decide_eq_true (by kernel_rfl)) (by unfold Func.isWrapper; first | (rw [if_pos (by decide +kernel)]; kernel_rfl) | (rw [if_neg (by decide +kernel)]; exact ⟨rfl, rfl⟩))
  (fun os started H enc _ => lifted os started H enc)
end SceneLinks
theorem sceneLinks_card : Rows.SceneLinksCardSaid :=
 Claim7.holds_tied_plain_at .later [] [.data, .data, .data, .data, .sentinel, .sentinel, .pinned] true (true, "c981af4a5dba8154c443a7dd660da659310713d75052de900dc7ddcc92357850") true
  SceneLinks.over (fun _ h => by cases h) (by kernel_rfl) (fun _ h => by cases h) sceneLinks_row_tie rfl ⟨rfl, rfl⟩ (by kernel_rfl) rfl
  (fun f fn hf hfn => by
   obtain rfl : f = 7 := Option.some.inj ((show Tryz.prog.funcNamed Rows.sceneLinksRow.func = some 7 by kernel_rfl).symm.trans hf) |>.symm
   obtain rfl : fn = Tryz.f7 := (Option.some.inj (Tryz.func7.symm.trans hfn)).symm
   exact ⟨by kernel_rfl, fun j t ht => by
    rw [Tryz.params7] at ht
    have hm : t ∈ [3] := by simpa using Array.mem_of_getElem? ht
    have hall : ([3].all fun u => !Tryz.prog.wantsStandIn u) = true := by kernel_rfl
    exact (show Tryz.prog.wantsStandIn t = false by simpa using List.all_eq_true.1 hall t hm)⟩)
  (by kernel_rfl)
end Go.Proofs.YtkihplehmkbfaaaGreatDoor
