/-
  BUILDRANGES BY THE INTERPRETER: the law. It is put together out of the front and the rest.
-/
import Derived.Test.YteebfpbbpcnkaaaGreatDoorZBrB1
import Derived.Test.YteebfpbbpcnkaaaGreatDoorZBrB2
import Derived.Test.YteebfpbbpcnkaaaGreatDoorZBrB3
import Derived.Test.YteebfpbbpcnkaaaGreatDoorZBrB4
set_option linter.unusedVariables false
set_option linter.unusedSimpArgs false
set_option maxRecDepth 100000
set_option linter.unusedVariables false
namespace Go.Proofs.YteebfpbbpcnkaaaGreatDoor.It
open Go Go.It
open Go.Vc (Keeps)
theorem backs : ∀ c, c < 33 → lotOK 5 c := fun c h => match c, h with
  | 0, _ => back0
  | 1, _ => back1
  | 2, _ => back2
  | 3, _ => back3
  | 4, _ => back4
  | 5, _ => back5
  | 6, _ => back6
  | 7, _ => back7
  | 8, _ => back8
  | 9, _ => back9
  | 10, _ => back10
  | 11, _ => back11
  | 12, _ => back12
  | 13, _ => back13
  | 14, _ => back14
  | 15, _ => back15
  | 16, _ => back16
  | 17, _ => back17
  | 18, _ => back18
  | 19, _ => back19
  | 20, _ => back20
  | 21, _ => back21
  | 22, _ => back22
  | 23, _ => back23
  | 24, _ => back24
  | 25, _ => back25
  | 26, _ => back26
  | 27, _ => back27
  | 28, _ => back28
  | 29, _ => back29
  | 30, _ => back30
  | 31, _ => back31
  | 32, _ => back32
  | c + 33, h => absurd h (by omega)
theorem back_all : ∀ l ∈ pairs, backB E1 100 5 gts l (fiOf Tryz.f3) = true := fun l hl => by
  obtain ⟨p, hp, rfl⟩ := List.mem_map.1 hl
  obtain ⟨i, hi⟩ := List.mem_iff_getElem?.1 hp
  have hlt : i < 165 := by
    have := (List.getElem?_eq_some_iff.1 hi).1
    have hlen : all.length = 165 := by decide +kernel
    omega
  have hb := backs (i / 5) (by omega)
  unfold lotOK at hb
  refine List.all_eq_true.1 hb _ (List.mem_map.2 ⟨p, ?_, rfl⟩)
  refine List.mem_of_getElem? (i := i % 5) ?_
  rw [List.getElem?_take, if_pos (by omega), List.getElem?_drop, ← hi]
  congr 1
  omega
theorem law {W : World} (hg : ∀ t ∈ gts, GtR W t) {x0 x1 x2 : Int} (h0 : (Lit.int .i64 x0).wf = true) (h1 : (Lit.int .i64 x1).wf = true) (h2 : (Lit.int .i64 x2).wf = true) :
    Calls Tryz.prog 3 #[.int .i64 x0, .int .i64 x1, .int .i64 x2] W fun e w' => e = .returned (.bool true) ∧ Keeps (fun _ => False) W w' := by
  obtain ⟨cd, hb⟩ : ∃ cd, Tryz.f3.body = some cd := ⟨_, rfl⟩
  obtain ⟨d1, d2, _⟩ := ft_of ft_ok (f := 3) (by decide +kernel) Tryz.func3 hb
  have hf := List.all_eq_true.1 (List.all_eq_true.1 (List.all_eq_true.1 front (enc .i64 x0 % 10) (List.mem_range.2 (Nat.mod_lt _ (by decide)))) (enc .i64 x1 % 10) (List.mem_range.2 (Nat.mod_lt _ (by decide)))) (enc .i64 x2 % 3) (List.mem_range.2 (Nat.mod_lt _ (by decide)))
  refine cut_ok mixed (tt := ttL) (nl := (7, nTrue gts) :: ntL) (fs := fnS) en1 fn1 Tryz.func3 hb d1 d2 gt_ok (ls := pairs) hf back_all hg (xs := [.int .i64 x0, .int .i64 x1, .int .i64 x2]) ?_
  unfold arg
  simp only [VRL]
  exact ⟨_, _, rfl, vr_rem 10 h0, _, _, rfl, vr_rem 10 h1, _, _, rfl, vr_rem 3 h2, rfl⟩
end Go.Proofs.YteebfpbbpcnkaaaGreatDoor.It
