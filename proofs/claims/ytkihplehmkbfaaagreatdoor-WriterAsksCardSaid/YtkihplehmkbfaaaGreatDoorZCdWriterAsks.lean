/-
  The statement WriterAsksCardSaid is proved, for every input, with no condition.
-/
import Derived.Test.YtkihplehmkbfaaaGreatDoorZS4
import Derived.Test.YtkihplehmkbfaaaGreatDoorZL5
import Derived.Test.YtkihplehmkbfaaaGreatDoorRows
import Derived.Test.YtkihplehmkbfaaaGreatDoorCards
import Derived.Test.YtkihplehmkbfaaaGreatDoorTie
import Derived.SevenTiedAt
import Derived.ProofKit
import Derived.OpenShut
import Derived.Below
import Derived.Stop.Joined
set_option linter.unusedVariables false
set_option linter.unusedSimpArgs false
namespace Go.Proofs.YtkihplehmkbfaaaGreatDoor
open Go Go.ChangeShapes Go.WideShapes Go.ChangeAt Go.RowKit
namespace WriterAsks
theorem own : ownKnob Tryz.prog.godebug = none := by kernel_rfl
theorem laidOut : laidOutB Tryz.prog = true := by kernel_rfl
theorem told : Go.Vc.FOK Tryz.prog Nu.GL 3 ⟨Nu.pV, .one .bool, fun _ => True, fun _ => true⟩ := Go.Vc.fD Nu.aD4 (fun x hw _ => Nu.aJj x.1 x.2.1 x.2.2.1 (fun r hr => Nu.bAv (hw.1.2 r hr)) (Nu.aZn hw.2.1))
theorem aWJ (os : Os) (args : Array Value) : laidMetH Tryz.prog Rows.writerAsksRow.laid ((World.doorLaid Tryz.prog 400 os).forCall (fun _ _ => 0) ⟨#[], args, []⟩).memory :=
 laidMetH_of_parts3 (fuel := 8) (laidMet_of_run' 8 (by kernel_rfl) (by kernel_rfl)) (by kernel_rfl) (by kernel_rfl)
def nm0 : String := (Rows.writerAsksRow.laid.map (fun x => x.1)).getD 1 ""
theorem bAw : (nm0, Go.Vc.aVF .u8 [0, 1, 56, 2, 57, 49, 28, 3, 61, 58, 42, 50, 38, 29, 17, 4, 62, 47, 59, 36, 45, 43, 51, 22, 53, 39, 33, 30, 24, 18, 12, 5, 63, 55, 48, 27, 60, 41, 37, 16, 46, 35, 44, 21, 52, 32, 23, 11, 54, 26, 40, 15, 34, 20, 31, 10, 25, 14, 19, 9, 13, 8, 7, 6]) ∈ Rows.writerAsksRow.laid := List.mem_of_getElem? (i := 1) (by kernel_rfl)
theorem gn0 : Tryz.prog.globalNamed nm0 = some 0 := by kernel_rfl
def nm1 : String := (Rows.writerAsksRow.laid.map (fun x => x.1)).getD 2 ""
theorem bAx : (nm1, Go.Vc.aVF .u64 [1, 10, 100, 1000, 10000, 100000, 1000000, 10000000, 100000000, 1000000000, 10000000000, 100000000000, 1000000000000, 10000000000000, 100000000000000, 1000000000000000, 10000000000000000, 100000000000000000, 1000000000000000000, 10000000000000000000]) ∈ Rows.writerAsksRow.laid := List.mem_of_getElem? (i := 2) (by kernel_rfl)
theorem gn1 : Tryz.prog.globalNamed nm1 = some 1 := by kernel_rfl
theorem aZP {W : World} (h : laidMetH Tryz.prog Rows.writerAsksRow.laid W) : Go.Vc.oW Nu.GL (Go.Vc.wB W) W := by
 rw [MakeChecks.laidMetH_plain _ _ _ (by kernel_rfl)] at h
 intro g
 match g with
 | 0 =>
  show Go.Vc.aS _ _ (.roa (.arr 64 (.u .u8)) Nu.aRu) _
  rw [Nu.aS5]
  obtain ⟨t, ht, hty⟩ : ∃ t, (Tryz.prog.globals[0]?).map (·.type) = some t ∧ Nu.TM t = some (.arr 64 (.u .u8)) := ⟨_, rfl, rfl⟩
  exact Go.Vc.aPS Nu.aS6 h nm0 0 t 64 .u8 [0, 1, 56, 2, 57, 49, 28, 3, 61, 58, 42, 50, 38, 29, 17, 4, 62, 47, 59, 36, 45, 43, 51, 22, 53, 39, 33, 30, 24, 18, 12, 5, 63, 55, 48, 27, 60, 41, 37, 16, 46, 35, 44, 21, 52, 32, 23, 11, 54, 26, 40, 15, 34, 20, 31, 10, 25, 14, 19, 9, 13, 8, 7, 6] bAw gn0 ht hty (by decide)
 | 1 =>
  show Go.Vc.aS _ _ (.roa (.arr 20 (.u .u64)) Nu.p10) _
  rw [Nu.aVI]
  obtain ⟨t, ht, hty⟩ : ∃ t, (Tryz.prog.globals[1]?).map (·.type) = some t ∧ Nu.TM t = some (.arr 20 (.u .u64)) := ⟨_, rfl, rfl⟩
  exact Go.Vc.aPS Nu.aS6 h nm1 1 t 20 .u64 [1, 10, 100, 1000, 10000, 100000, 1000000, 10000000, 100000000, 1000000000, 10000000000, 100000000000, 1000000000000, 10000000000000, 100000000000000, 1000000000000000, 10000000000000000, 100000000000000000, 1000000000000000000, 10000000000000000000] bAx gn1 ht hty (by decide)
 | _ + 2 => trivial
set_option maxRecDepth 100000 in
theorem lifted (os : Os) (started : os.Started) (H : Type) (enc : TypeId × Value → H) :
  ReturnsInHanded {} Tryz.checked os 3 .any (fun w args => (Rows.writerAsksSpec.pre enc Tryz.prog Tryz.f3 [] false w args ∧ laidMetH Tryz.prog Rows.writerAsksRow.laid w) ∧ sizedMet enc Tryz.prog Tryz.f3 (OpenSpec.ofChange Rows.writerAsksSpec) false w args) (Rows.writerAsksSpec.post enc Tryz.prog Tryz.f3 false true false false) := by
 refine returnsInHanded_of_change_and (C := Tryz.checked) (X := fun w _ => laidMetH Tryz.prog Rows.writerAsksRow.laid w) (fun _ _ _ hh h => h.of_heap hh) own started (by kernel_rfl) Tryz.func3
  (ChangeSpec.witness_shaped (enc := enc) (C := Tryz.checked) (os := os) (X := fun w _ => laidMetH Tryz.prog Rows.writerAsksRow.laid w) false (World.doorLaid Tryz.prog 400 os) #[.slice none 0 0, .agg #[.bool false, .slice none 0 0, .int .i64 0, .bool false, .slice none 0 0, .int .i64 0], .int .i64 0] 8 rfl (World.shaped_of_RefB (by kernel_rfl) (by kernel_rfl)) (by kernel_rfl) (by kernel_rfl) (by kernel_rfl) (aWJ os _)) ?_
 intro W base args ds gs before hval0 hW _ _ hL _
 have hval : ∀ (j : Nat) t v, Tryz.f3.params[j]? = some t → args[j]? = some v → Value.okWide Tryz.prog W .any base t v := hval0
 have hW' := hW
 obtain ⟨p, q, hA0, hV, rfl, hfz, hnd⟩ := hW
 have hA : DataW.TrodAll enc Tryz.prog W 0 (fun _ => true) true Tryz.f3.params.toList args.toList ds p := hA0
 rw [Tryz.params3] at hA hval
 obtain ⟨x, hx⟩ := Go.Vc.aSX (T := Nu.TM) Nu.aS6 Nu.pV [22, 27, 3] args.toList ds p (by decide) hA (fun j t v h1 h2 => hval j t v (by simpa using h1) (by simpa using h2))
 obtain ⟨v0, vs0, d0, ds0, p0, q0, hargs, rfl, rfl, h0, r0⟩ := trodAll_cons hA
 obtain ⟨v1, vs1, d1, ds1, p1, q1, rfl, rfl, rfl, h1, r1⟩ := trodAll_cons r0
 obtain ⟨v2, vs2, d2, ds2, p2, q2, rfl, rfl, rfl, h2, r2⟩ := trodAll_cons r1
 obtain ⟨rfl, rfl, rfl⟩ := trodAll_nil r2
 obtain rfl : args = #[v0, v1, v2] := by cases args; simp_all
 obtain ⟨rfl, rfl⟩ := trodVars_none hV
 have lt0 : ∀ x ∈ p0, x.block < W.heap.size := by obtain ⟨m, hm⟩ := h0; exact DataW.trod_lt m _ _ _ hm
 have lt1 : ∀ x ∈ p1, x.block < W.heap.size := by obtain ⟨m, hm⟩ := h1; exact DataW.trod_lt m _ _ _ hm
 have lt2 : ∀ x ∈ p2, x.block < W.heap.size := by obtain ⟨m, hm⟩ := h2; exact DataW.trod_lt m _ _ _ hm
 refine (told W (Go.Vc.wB W) _ x (fun b hb => hb) (aZP hL) hx trivial).mono fun e W' ⟨v, he, hk, hr⟩ => ?_
 have bel := hk.below
 have hv : v = .bool true := by
  have hr : Go.Vc.cL W' _ .bool true v := hr
  simp only [Go.Vc.cL, Go.Vc.Ty.isAgg, Go.Vc.aW, Bool.false_eq_true, if_false, List.cons.injEq, and_true] at hr
  exact hr
 subst hv
 subst he
 exact ⟨_, rfl, _, _, _, [], _, [], hW', trodAll_mk1 (shut_bool Tryz.underlying4 _), (trodAll_cons_mk (Below.trod laidOut (by kernel_rfl) (of_decide_eq_true (by kernel_rfl)) h0 bel lt0) (trodAll_cons_mk (Below.trod laidOut (by kernel_rfl) (of_decide_eq_true (by kernel_rfl)) h1 bel lt1) (trodAll_cons_mk (Below.trod laidOut (by kernel_rfl) (of_decide_eq_true (by kernel_rfl)) h2 bel lt2) trodAll_mk0))), rfl, bel.frame _, fun h => by cases h⟩
theorem aZQ : (Rows.writerAsksRow.inPlace == Tryz.pinned.checked.prog.inPlace 3) = true := by kernel_rfl
theorem aZR : (Rows.writerAsksRow.unfollowed == Tryz.pinned.checked.prog.unfollowed 3) = true := by kernel_rfl
theorem aZS : (Rows.writerAsksRow.recurses == Tryz.pinned.checked.prog.recurses 3) = true := by kernel_rfl
theorem aZT : (Rows.writerAsksRow.named == Tryz.pinned.checked.prog.varsNamed 3) = true := by kernel_rfl
theorem closed : joinedFacts Tryz.pinned.checked.prog 3 Tryz.f3 Rows.writerAsksSpec Rows.writerAsksRow = true := by
 unfold joinedFacts
 rw [aZQ, aZR, aZS, aZT]
 kernel_rfl
theorem over : Rows.WriterAsksSaid :=
 OpenClaim.holds_of_wide 3 Tryz.f3 rfl rfl rfl rfl rfl rfl rfl ⟨rfl, rfl, rfl, rfl, rfl⟩ rfl rfl rfl rfl rfl (by kernel_rfl) Tryz.func3 closed
  (of_decide_eq_true (by kernel_rfl)) (by unfold Func.isWrapper; first | (rw [if_pos (by decide +kernel)]; kernel_rfl) | (rw [if_neg (by decide +kernel)]; exact ⟨rfl, rfl⟩))
  (fun os started H enc _ => lifted os started H enc)
end WriterAsks
theorem writerAsks_card : Rows.WriterAsksCardSaid :=
 Claim7.holds_tied_plain_at .later [] [.data, .data, .data] true (true, "c981af4a5dba8154c443a7dd660da659310713d75052de900dc7ddcc92357850") true
  WriterAsks.over (fun _ h => by cases h) (by kernel_rfl) (fun _ h => by cases h) writerAsks_row_tie rfl ⟨rfl, rfl⟩ (by kernel_rfl) rfl
  (fun f fn hf hfn => by
   obtain rfl : f = 3 := Option.some.inj ((show Tryz.prog.funcNamed Rows.writerAsksRow.func = some 3 by kernel_rfl).symm.trans hf) |>.symm
   obtain rfl : fn = Tryz.f3 := (Option.some.inj (Tryz.func3.symm.trans hfn)).symm
   exact ⟨by kernel_rfl, fun j t ht => by
    rw [Tryz.params3] at ht
    have hm : t ∈ [22, 27, 3] := by simpa using Array.mem_of_getElem? ht
    have hall : ([22, 27, 3].all fun u => !Tryz.prog.wantsStandIn u) = true := by kernel_rfl
    exact (show Tryz.prog.wantsStandIn t = false by simpa using List.all_eq_true.1 hall t hm)⟩)
  (by kernel_rfl)
end Go.Proofs.YtkihplehmkbfaaaGreatDoor
