/-
  The statement ParseNumbersCardSaid is proved, for every input, with no condition.
-/
import Derived.Test.YtcpnniahnmjnpaaGreatDoorZS5
import Derived.Test.YtcpnniahnmjnpaaGreatDoorZL6
import Derived.Test.YtcpnniahnmjnpaaGreatDoorRows
import Derived.Lay
import Derived.Test.YtcpnniahnmjnpaaGreatDoorCards
import Derived.Test.YtcpnniahnmjnpaaGreatDoorTie
import Derived.SevenTiedAt
import Derived.ProofKit
import Derived.OpenShut
import Derived.Below
import Derived.Stop.Joined
set_option linter.unusedVariables false
set_option linter.unusedSimpArgs false
namespace Go.Proofs.YtcpnniahnmjnpaaGreatDoor
open Go Go.ChangeShapes Go.WideShapes Go.ChangeAt Go.RowKit
namespace ParseNumbers
theorem own : ownKnob Tryz.prog.godebug = none := by kernel_rfl
theorem laidOut : laidOutB Tryz.prog = true := by kernel_rfl
theorem told [Nu.Mx] : Go.Vc.FOK Tryz.prog Nu.GL 3 ⟨Nu.lM, .one .bool, fun _ => True, fun _ => true⟩ := Go.Vc.aRp (Nu.aG9 none) (fun x hw _ => Nu.aLs x.1 x.2.1)
theorem aXS (os : Os) (args : Array Value) : laidMetH Tryz.prog Rows.parseNumbersRow.laid ((World.laidAll Tryz.prog os Rows.parseNumbersRow.laid).forCall (fun _ _ => 0) ⟨#[], args, []⟩).memory := by
 rw [MakeChecks.laidMetH_plain _ _ _ (by kernel_rfl)]
 exact laidMet_laidAll _ (by kernel_rfl) (by kernel_rfl)
def nm7 : String := (Rows.parseNumbersRow.laid.map (fun x => x.1)).getD 1 ""
theorem bAP : (nm7, Go.Vc.aXt .u8 [0, 1, 56, 2, 57, 49, 28, 3, 61, 58, 42, 50, 38, 29, 17, 4, 62, 47, 59, 36, 45, 43, 51, 22, 53, 39, 33, 30, 24, 18, 12, 5, 63, 55, 48, 27, 60, 41, 37, 16, 46, 35, 44, 21, 52, 32, 23, 11, 54, 26, 40, 15, 34, 20, 31, 10, 25, 14, 19, 9, 13, 8, 7, 6]) ∈ Rows.parseNumbersRow.laid := List.mem_of_getElem? (i := 1) (by kernel_rfl)
theorem gn7 : Tryz.prog.globalNamed nm7 = some 7 := by kernel_rfl
def nm8 : String := (Rows.parseNumbersRow.laid.map (fun x => x.1)).getD 2 ""
theorem bAQ : (nm8, Go.Vc.aXt .u64 [1, 10, 100, 1000, 10000, 100000, 1000000, 10000000, 100000000, 1000000000, 10000000000, 100000000000, 1000000000000, 10000000000000, 100000000000000, 1000000000000000, 10000000000000000, 100000000000000000, 1000000000000000000, 10000000000000000000]) ∈ Rows.parseNumbersRow.laid := List.mem_of_getElem? (i := 2) (by kernel_rfl)
theorem gn8 : Tryz.prog.globalNamed nm8 = some 8 := by kernel_rfl
theorem bAd {W : World} (m : Int) (hm : Go.Vc.aX ⟨Go.Vc.yJ W, fun _ => Go.undef, 0, fun _ _ => False⟩ W (.roa (.i .i64) m) (.pointer (some ⟨0, 0, none⟩))) (h : laidMetH Tryz.prog Rows.parseNumbersRow.laid W) : letI : Nu.Mx := ⟨m⟩; Go.Vc.qM Nu.GL (Go.Vc.yJ W) W := by
 rw [MakeChecks.laidMetH_plain _ _ _ (by kernel_rfl)] at h
 intro g
 match g with
 | 0 => exact hm
 | 1 => trivial
 | 2 => trivial
 | 3 => trivial
 | 4 => trivial
 | 5 => trivial
 | 6 => trivial
 | 7 =>
  show Go.Vc.aX _ _ (.roa (.arr 64 (.u .u8)) Nu.aXv) _
  rw [Nu.aYJ]
  obtain ⟨t, ht, hty⟩ : ∃ t, (Tryz.prog.globals[7]?).map (·.type) = some t ∧ Nu.TM t = some (.arr 64 (.u .u8)) := ⟨_, rfl, rfl⟩
  exact Go.Vc.aTa Nu.aTb h nm7 7 t 64 .u8 [0, 1, 56, 2, 57, 49, 28, 3, 61, 58, 42, 50, 38, 29, 17, 4, 62, 47, 59, 36, 45, 43, 51, 22, 53, 39, 33, 30, 24, 18, 12, 5, 63, 55, 48, 27, 60, 41, 37, 16, 46, 35, 44, 21, 52, 32, 23, 11, 54, 26, 40, 15, 34, 20, 31, 10, 25, 14, 19, 9, 13, 8, 7, 6] bAP gn7 ht hty (by decide)
 | 8 =>
  show Go.Vc.aX _ _ (.roa (.arr 20 (.u .u64)) Nu.p10) _
  rw [Nu.aZG]
  obtain ⟨t, ht, hty⟩ : ∃ t, (Tryz.prog.globals[8]?).map (·.type) = some t ∧ Nu.TM t = some (.arr 20 (.u .u64)) := ⟨_, rfl, rfl⟩
  exact Go.Vc.aTa Nu.aTb h nm8 8 t 20 .u64 [1, 10, 100, 1000, 10000, 100000, 1000000, 10000000, 100000000, 1000000000, 10000000000, 100000000000, 1000000000000, 10000000000000, 100000000000000, 1000000000000000, 10000000000000000, 100000000000000000, 1000000000000000000, 10000000000000000000] bAQ gn8 ht hty (by decide)
 | _ + 9 => trivial
set_option maxRecDepth 100000 in
theorem lifted (os : Os) (started : os.Started) (H : Type) (enc : TypeId × Value → H) :
  ReturnsInHanded {} Tryz.checked os 3 .any (fun w args => (Rows.parseNumbersSpec.pre enc Tryz.prog Tryz.f3 [] false w args ∧ laidMetH Tryz.prog Rows.parseNumbersRow.laid w) ∧ sizedMet enc Tryz.prog Tryz.f3 (OpenSpec.ofChange Rows.parseNumbersSpec) false w args) (Rows.parseNumbersSpec.post enc Tryz.prog Tryz.f3 false true false false) := by
 refine Go.Vc.aQt (C := Tryz.checked) (X := fun w _ => laidMetH Tryz.prog Rows.parseNumbersRow.laid w) (fun _ _ _ hh h => h.of_heap hh) own started (by kernel_rfl) Tryz.func3
  (ChangeSpec.witness_shaped (enc := enc) (C := Tryz.checked) (os := os) (X := fun w _ => laidMetH Tryz.prog Rows.parseNumbersRow.laid w) false (World.laidAll Tryz.prog os Rows.parseNumbersRow.laid) #[.slice none 0 0, .slice none 0 0] 8 rfl (World.shaped_of_ZipB (by kernel_rfl) (by kernel_rfl)) (by kernel_rfl) (by kernel_rfl) (by kernel_rfl) (aXS os _)) ?_
 intro W base args ds gs before hval0 hW hL hsh
 obtain ⟨mv, hmv⟩ := Go.Vc.aT5 (t := 3) (zero := #[.int .i64 0]) (k := .i64) (g := 0) hsh (of_decide_eq_true (by kernel_rfl)) (by kernel_rfl) rfl (by kernel_rfl) (by kernel_rfl) rfl rfl
 letI : Nu.Mx := ⟨mv⟩
 have hval : ∀ (j : Nat) t v, Tryz.f3.params[j]? = some t → args[j]? = some v → Value.okWide Tryz.prog W .any base t v := hval0
 have hW' := hW
 obtain ⟨p, q, hA0, hV, rfl, hfz, hnd⟩ := hW
 have hA : DataW.TrodAll enc Tryz.prog W 0 (fun _ => true) true Tryz.f3.params.toList args.toList ds p := hA0
 rw [Tryz.params3] at hA hval
 obtain ⟨x, hx⟩ := Go.Vc.aU1 (T := Nu.TM) Nu.aTb Nu.lM [22, 22] args.toList ds p (by decide) hA (fun j t v h1 h2 => hval j t v (by simpa using h1) (by simpa using h2))
 obtain ⟨v0, vs0, d0, ds0, p0, q0, hargs, rfl, rfl, h0, r0⟩ := trodAll_cons hA
 obtain ⟨v1, vs1, d1, ds1, p1, q1, rfl, rfl, rfl, h1, r1⟩ := trodAll_cons r0
 obtain ⟨rfl, rfl, rfl⟩ := trodAll_nil r1
 obtain rfl : args = #[v0, v1] := by cases args; simp_all
 obtain ⟨rfl, rfl⟩ := trodVars_none hV
 have lt0 : ∀ x ∈ p0, x.block < W.heap.size := by obtain ⟨m, hm⟩ := h0; exact DataW.trod_lt m _ _ _ hm
 have lt1 : ∀ x ∈ p1, x.block < W.heap.size := by obtain ⟨m, hm⟩ := h1; exact DataW.trod_lt m _ _ _ hm
 refine (told W (Go.Vc.yJ W) _ x (fun b hb => hb) (bAd mv hmv hL) hx trivial).mono fun e W' ⟨v, he, hk, hr⟩ => ?_
 have bel := hk.below
 have hv : v = .bool true := by
  have hr : Go.Vc.dF W' _ .bool true v := hr
  simp only [Go.Vc.dF, Go.Vc.Ty.isAgg, Go.Vc.bE, Bool.false_eq_true, if_false, List.cons.injEq, and_true] at hr
  exact hr
 subst hv
 subst he
 exact ⟨_, rfl, _, _, _, [], _, [], hW', trodAll_mk1 (shut_bool Tryz.underlying4 _), (trodAll_cons_mk (Below.trod laidOut (by kernel_rfl) (of_decide_eq_true (by kernel_rfl)) h0 bel lt0) (trodAll_cons_mk (Below.trod laidOut (by kernel_rfl) (of_decide_eq_true (by kernel_rfl)) h1 bel lt1) trodAll_mk0)), rfl, bel.frame _, fun h => by cases h⟩
theorem bAe : (Rows.parseNumbersRow.inPlace == Tryz.pinned.checked.prog.inPlace 3) = true := by kernel_rfl
theorem bAf : (Rows.parseNumbersRow.unfollowed == Tryz.pinned.checked.prog.unfollowed 3) = true := by kernel_rfl
theorem bAg : (Rows.parseNumbersRow.recurses == Tryz.pinned.checked.prog.recurses 3) = true := by kernel_rfl
theorem bAh : (Rows.parseNumbersRow.named == Tryz.pinned.checked.prog.varsNamed 3) = true := by kernel_rfl
theorem closed : joinedFacts Tryz.pinned.checked.prog 3 Tryz.f3 Rows.parseNumbersSpec Rows.parseNumbersRow = true := by
 unfold joinedFacts
 rw [bAe, bAf, bAg, bAh]
 kernel_rfl
theorem over : Rows.ParseNumbersSaid :=
 OpenClaim.holds_of_wide 3 Tryz.f3 rfl rfl rfl rfl rfl rfl rfl ⟨rfl, rfl, rfl, rfl, rfl⟩ rfl rfl rfl rfl rfl (by kernel_rfl) Tryz.func3 closed
  (of_decide_eq_true (by kernel_rfl)) (by unfold Func.isWrapper; first | (rw [if_pos (by decide +kernel)]; kernel_rfl) | (rw [if_neg (by decide +kernel)]; exact ⟨rfl, rfl⟩))
  (fun os started H enc _ => lifted os started H enc)
end ParseNumbers
theorem parseNumbers_card : Rows.ParseNumbersCardSaid :=
 Claim7.holds_tied_plain_at .later [] [.data, .data, .data, .data, .sentinel, .sentinel, .pinned] true (true, "1c60d8053f7e71b1426da69601381054b62aacffdb4d7db7c26ff257c74361e0") true
  ParseNumbers.over (fun _ h => by cases h) (by kernel_rfl) (fun _ h => by cases h) parseNumbers_row_tie rfl ⟨rfl, rfl⟩ (by kernel_rfl) rfl
  (fun f fn hf hfn => by
   obtain rfl : f = 3 := Option.some.inj ((show Tryz.prog.funcNamed Rows.parseNumbersRow.func = some 3 by kernel_rfl).symm.trans hf) |>.symm
   obtain rfl : fn = Tryz.f3 := (Option.some.inj (Tryz.func3.symm.trans hfn)).symm
   exact ⟨by kernel_rfl, fun j t ht => by
    rw [Tryz.params3] at ht
    have hm : t ∈ [22, 22] := by simpa using Array.mem_of_getElem? ht
    have hall : ([22, 22].all fun u => !Tryz.prog.wantsStandIn u) = true := by kernel_rfl
    exact (show Tryz.prog.wantsStandIn t = false by simpa using List.all_eq_true.1 hall t hm)⟩)
  (by kernel_rfl)
end Go.Proofs.YtcpnniahnmjnpaaGreatDoor
