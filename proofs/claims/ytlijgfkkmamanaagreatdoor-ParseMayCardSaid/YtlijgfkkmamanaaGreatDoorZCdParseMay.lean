/-
  The statement ParseMayCardSaid is proved, for every input, with no condition.
-/
import Derived.Test.YtlijgfkkmamanaaGreatDoorZS6
import Derived.Test.YtlijgfkkmamanaaGreatDoorZL6
import Derived.Test.YtlijgfkkmamanaaGreatDoorRows
import Derived.Lay
import Derived.Test.YtlijgfkkmamanaaGreatDoorCards
import Derived.Test.YtlijgfkkmamanaaGreatDoorTie
import Derived.SevenTiedAt
import Derived.ProofKit
import Derived.OpenShut
import Derived.Below
import Derived.Stop.Joined
set_option linter.unusedVariables false
set_option linter.unusedSimpArgs false
namespace Go.Proofs.YtlijgfkkmamanaaGreatDoor
open Go Go.ChangeShapes Go.WideShapes Go.ChangeAt Go.RowKit
namespace ParseMay
theorem own : ownKnob Tryz.prog.godebug = none := by kernel_rfl
theorem laidOut : laidOutB Tryz.prog = true := by kernel_rfl
theorem told [Nu.Mx] : Go.Vc.FOK Tryz.prog Nu.GL 3 ⟨Nu.zE, .one .bool, fun _ => True, fun _ => true⟩ := Nu.bF2 (Nu.aNV none) (fun x b hb => Nu.aUg x.1 x.2.1 hb.1)
theorem bEj (os : Os) (args : Array Value) : laidMetH Tryz.prog Rows.parseMayRow.laid ((World.laidAll Tryz.prog os Rows.parseMayRow.laid).forCall (fun _ _ => 0) ⟨#[], args, []⟩).memory := by
 rw [MakeChecks.laidMetH_plain _ _ _ (by kernel_rfl)]
 exact laidMet_laidAll _ (by kernel_rfl) (by kernel_rfl)
def nm1 : String := (Rows.parseMayRow.laid.map (fun x => x.1)).getD 2 ""
theorem bIh : (nm1, Go.Vc.bDa .u64 [1, 10, 100, 1000, 10000, 100000, 1000000, 10000000, 100000000, 1000000000, 10000000000, 100000000000, 1000000000000, 10000000000000, 100000000000000, 1000000000000000, 10000000000000000, 100000000000000000, 1000000000000000000, 10000000000000000000]) ∈ Rows.parseMayRow.laid := List.mem_of_getElem? (i := 2) (by kernel_rfl)
theorem gn1 : Tryz.prog.globalNamed nm1 = some 1 := by kernel_rfl
def nm8 : String := (Rows.parseMayRow.laid.map (fun x => x.1)).getD 1 ""
theorem bIi : (nm8, Go.Vc.bDa .u8 [0, 1, 56, 2, 57, 49, 28, 3, 61, 58, 42, 50, 38, 29, 17, 4, 62, 47, 59, 36, 45, 43, 51, 22, 53, 39, 33, 30, 24, 18, 12, 5, 63, 55, 48, 27, 60, 41, 37, 16, 46, 35, 44, 21, 52, 32, 23, 11, 54, 26, 40, 15, 34, 20, 31, 10, 25, 14, 19, 9, 13, 8, 7, 6]) ∈ Rows.parseMayRow.laid := List.mem_of_getElem? (i := 1) (by kernel_rfl)
theorem gn8 : Tryz.prog.globalNamed nm8 = some 8 := by kernel_rfl
theorem bHF {W : World} (m : Int) (hm : Go.Vc.aW ⟨Go.Vc.aAE W, fun _ => Go.undef, 0, fun _ _ => False⟩ W (.roa (.i .i64) m) (.pointer (some ⟨0, 0, none⟩))) (h : laidMetH Tryz.prog Rows.parseMayRow.laid W) : letI : Nu.Mx := ⟨m⟩; Go.Vc.sG Nu.GL (Go.Vc.aAE W) W := by
 rw [MakeChecks.laidMetH_plain _ _ _ (by kernel_rfl)] at h
 intro g
 match g with
 | 0 => exact hm
 | 1 =>
  show Go.Vc.aW _ _ (.roa (.arr 20 (.u .u64)) Nu.p10) _
  rw [Nu.bGN]
  obtain ⟨t, ht, b⟩ : ∃ t, (Tryz.prog.globals[1]?).map (·.type) = some t ∧ Nu.TM t = some (.arr 20 (.u .u64)) := ⟨_, rfl, rfl⟩
  exact Go.Vc.aXr Nu.aXs h nm1 1 t 20 .u64 [1, 10, 100, 1000, 10000, 100000, 1000000, 10000000, 100000000, 1000000000, 10000000000, 100000000000, 1000000000000, 10000000000000, 100000000000000, 1000000000000000, 10000000000000000, 100000000000000000, 1000000000000000000, 10000000000000000000] bIh gn1 ht b (by decide)
 | 2 => trivial
 | 3 => trivial
 | 4 => trivial
 | 5 => trivial
 | 6 => trivial
 | 7 => trivial
 | 8 =>
  show Go.Vc.aW _ _ (.roa (.arr 64 (.u .u8)) Nu.aY0) _
  rw [Nu.bFf]
  obtain ⟨t, ht, b⟩ : ∃ t, (Tryz.prog.globals[8]?).map (·.type) = some t ∧ Nu.TM t = some (.arr 64 (.u .u8)) := ⟨_, rfl, rfl⟩
  exact Go.Vc.aXr Nu.aXs h nm8 8 t 64 .u8 [0, 1, 56, 2, 57, 49, 28, 3, 61, 58, 42, 50, 38, 29, 17, 4, 62, 47, 59, 36, 45, 43, 51, 22, 53, 39, 33, 30, 24, 18, 12, 5, 63, 55, 48, 27, 60, 41, 37, 16, 46, 35, 44, 21, 52, 32, 23, 11, 54, 26, 40, 15, 34, 20, 31, 10, 25, 14, 19, 9, 13, 8, 7, 6] bIi gn8 ht b (by decide)
 | _ + 9 => trivial
set_option maxRecDepth 100000 in
theorem lifted (os : Os) (started : os.Started) (H : Type) (enc : TypeId × Value → H) :
  ReturnsInHanded {} Tryz.checked os 3 .any (fun w args => (Rows.parseMaySpec.pre enc Tryz.prog Tryz.f3 [] false w args ∧ laidMetH Tryz.prog Rows.parseMayRow.laid w) ∧ sizedMet enc Tryz.prog Tryz.f3 (OpenSpec.ofChange Rows.parseMaySpec) false w args) (Rows.parseMaySpec.post enc Tryz.prog Tryz.f3 false true false false) := by
 refine Go.Vc.aTv (C := Tryz.checked) (X := fun w _ => laidMetH Tryz.prog Rows.parseMayRow.laid w) (fun _ _ _ hh h => h.of_heap hh) own started (by kernel_rfl) Tryz.func3
  (ChangeSpec.witness_shaped (enc := enc) (C := Tryz.checked) (os := os) (X := fun w _ => laidMetH Tryz.prog Rows.parseMayRow.laid w) false (World.laidAll Tryz.prog os Rows.parseMayRow.laid) #[.slice none 0 0, .bool false] 8 rfl (World.shaped_of_ZipB (by kernel_rfl) (by kernel_rfl)) (by kernel_rfl) (by kernel_rfl) (by kernel_rfl) (bEj os _)) ?_
 intro W base args ds gs before s hW hL Y
 obtain ⟨mv, L⟩ := Go.Vc.aYZ (t := 3) (zero := #[.int .i64 0]) (k := .i64) (g := 0) Y (of_decide_eq_true (by kernel_rfl)) (by kernel_rfl) rfl (by kernel_rfl) (by kernel_rfl) rfl rfl
 letI : Nu.Mx := ⟨mv⟩
 have f : ∀ (j : Nat) t v, Tryz.f3.params[j]? = some t → args[j]? = some v → Value.okWide Tryz.prog W .any base t v := s
 have N := hW
 obtain ⟨p, q, Z, hV, rfl, hfz, hnd⟩ := hW
 have O : DataW.TrodAll enc Tryz.prog W 0 (fun _ => true) true Tryz.f3.params.toList args.toList ds p := Z
 rw [Tryz.params3] at O f
 obtain ⟨x, hx⟩ := Go.Vc.bAe (T := Nu.TM) Nu.aXs Nu.zE [22, 4] args.toList ds p (by decide) O (fun j t v I h2 => f j t v (by simpa using I) (by simpa using h2))
 obtain ⟨v0, vs0, d0, ds0, p0, q0, hargs, rfl, rfl, h0, r0⟩ := trodAll_cons O
 obtain ⟨v1, vs1, d1, ds1, p1, q1, rfl, rfl, rfl, I, r1⟩ := trodAll_cons r0
 obtain ⟨rfl, rfl, rfl⟩ := trodAll_nil r1
 obtain rfl : args = #[v0, v1] := by cases args; simp_all
 obtain ⟨rfl, rfl⟩ := trodVars_none hV
 have J : ∀ x ∈ p0, x.block < W.heap.size := by obtain ⟨m, hm⟩ := h0; exact DataW.trod_lt m _ _ _ hm
 have U : ∀ x ∈ p1, x.block < W.heap.size := by obtain ⟨m, hm⟩ := I; exact DataW.trod_lt m _ _ _ hm
 refine (told W (Go.Vc.aAE W) _ x (fun b hb => hb) (bHF mv L hL) hx trivial).mono fun e W' ⟨v, he, hk, z⟩ => ?_
 have r := hk.below
 have hv : v = .bool true := by
  have z : Go.Vc.dE W' _ .bool true v := z
  simp only [Go.Vc.dE, Go.Vc.Ty.isAgg, Go.Vc.bB, Bool.false_eq_true, if_false, List.cons.injEq, and_true] at z
  exact z
 subst hv
 subst he
 exact ⟨_, rfl, _, _, _, [], _, [], N, trodAll_mk1 (shut_bool Tryz.underlying4 _), (trodAll_cons_mk (Below.trod laidOut (by kernel_rfl) (of_decide_eq_true (by kernel_rfl)) h0 r J) (trodAll_cons_mk (Below.trod laidOut (by kernel_rfl) (of_decide_eq_true (by kernel_rfl)) I r U) trodAll_mk0)), rfl, r.frame _, fun h => by cases h⟩
theorem bHG : (Rows.parseMayRow.inPlace == Tryz.pinned.checked.prog.inPlace 3) = true := by kernel_rfl
theorem bHH : (Rows.parseMayRow.unfollowed == Tryz.pinned.checked.prog.unfollowed 3) = true := by kernel_rfl
theorem bHI : (Rows.parseMayRow.recurses == Tryz.pinned.checked.prog.recurses 3) = true := by kernel_rfl
theorem bHJ : (Rows.parseMayRow.named == Tryz.pinned.checked.prog.varsNamed 3) = true := by kernel_rfl
theorem closed : joinedFacts Tryz.pinned.checked.prog 3 Tryz.f3 Rows.parseMaySpec Rows.parseMayRow = true := by
 unfold joinedFacts
 rw [bHG, bHH, bHI, bHJ]
 kernel_rfl
theorem over : Rows.ParseMaySaid :=
 OpenClaim.holds_of_wide 3 Tryz.f3 rfl rfl rfl rfl rfl rfl rfl ⟨rfl, rfl, rfl, rfl, rfl⟩ rfl rfl rfl rfl rfl (by kernel_rfl) Tryz.func3 closed
  (of_decide_eq_true (by kernel_rfl)) (by unfold Func.isWrapper; first | (rw [if_pos (by decide +kernel)]; kernel_rfl) | (rw [if_neg (by decide +kernel)]; exact ⟨rfl, rfl⟩))
  (fun os started H enc _ => lifted os started H enc)
end ParseMay
theorem parseMay_card : Rows.ParseMayCardSaid :=
 Claim7.holds_tied_plain_at .later [] [.data, .data, .data, .data, .sentinel, .sentinel, .pinned] true (true, "7a534282096b7c1443d67a0eed97056f1744e764cbe747039aa6672f69ac6970") true
  ParseMay.over (fun _ h => by cases h) (by kernel_rfl) (fun _ h => by cases h) parseMay_row_tie rfl ⟨rfl, rfl⟩ (by kernel_rfl) rfl
  (fun f fn q g => by
   obtain rfl : f = 3 := Option.some.inj ((show Tryz.prog.funcNamed Rows.parseMayRow.func = some 3 by kernel_rfl).symm.trans q) |>.symm
   obtain rfl : fn = Tryz.f3 := (Option.some.inj (Tryz.func3.symm.trans g)).symm
   exact ⟨by kernel_rfl, fun j t ht => by
    rw [Tryz.params3] at ht
    have hm : t ∈ [22, 4] := by simpa using Array.mem_of_getElem? ht
    have b : ([22, 4].all fun u => !Tryz.prog.wantsStandIn u) = true := by kernel_rfl
    exact (show Tryz.prog.wantsStandIn t = false by simpa using List.all_eq_true.1 b t hm)⟩)
  (by kernel_rfl)
end Go.Proofs.YtlijgfkkmamanaaGreatDoor

