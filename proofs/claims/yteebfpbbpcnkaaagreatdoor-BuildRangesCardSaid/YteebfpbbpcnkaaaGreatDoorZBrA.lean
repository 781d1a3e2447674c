/-
  BUILDRANGES BY THE INTERPRETER: what the tables say is so; told; the law's first pieces for each of the 300 remainders.
-/
import Derived.Test.YteebfpbbpcnkaaaGreatDoorZBrT
import Derived.Test.YteebfpbbpcnkaaaGreatDoorZL4
set_option linter.unusedVariables false
set_option linter.unusedSimpArgs false
set_option maxRecDepth 100000
set_option linter.unusedVariables false
namespace Go.Proofs.YteebfpbbpcnkaaaGreatDoor.It
open Go Go.It
theorem tt_ok : ttB Tryz.prog ttL = true := by decide +kernel
theorem ft_ok : ftB Tryz.prog fnS = true := by decide +kernel
theorem gt_ok : gtB gts = true := by decide +kernel
theorem mixed : Tryz.prog.follows .mixedOrders = true := by kernel_rfl
theorem nats (E : En) : ∀ p ∈ ntL, p.1 < 4096 ∧ NatOK Tryz.prog E p.1 p.2 := by
  intro p hp
  unfold ntL at hp
  rcases List.mem_cons.1 hp with rfl | hp
  · exact ⟨by decide, nat_add Tryz.func73 (by kernel_rfl) (by kernel_rfl) (by kernel_rfl) (by kernel_rfl)⟩
  rcases List.mem_cons.1 hp with rfl | hp
  · exact ⟨by decide, nat_sub Tryz.func107 (by kernel_rfl) (by kernel_rfl) (by kernel_rfl) (by kernel_rfl)⟩
  cases hp
theorem told_run : callN E 100 7 [] (mem0 gts) isTrue noPan = true := by decide +kernel
theorem told_ok (E' : En) (h : E'.gl = gl0 gts 0) : NatOK Tryz.prog E' 7 (nTrue gts) := by
  have hb : ∃ cd, Tryz.f7.body = some cd := ⟨_, rfl⟩
  obtain ⟨cd, hb⟩ := hb
  exact nat_true mixed (en_ok tt_ok) (fn_ok ft_ok (nats _)) Tryz.func7 hb (by decide +kernel) gt_ok told_run h
noncomputable def E1 : En := mkE Tryz.prog ttL ((7, nTrue gts) :: ntL) fnS (gl0 gts 0)
theorem en1 : EnOK Tryz.prog E1 := en_ok tt_ok
theorem fn1 : FnOK Tryz.prog E1 := fn_ok ft_ok fun p hp => by
  rcases List.mem_cons.1 hp with rfl | hp
  · exact ⟨by decide, told_ok _ rfl⟩
  · exact nats _ p hp
def txt (s : List Nat) : V := .s s.length (s.foldr (fun b r => b + 256 * r) 0)
def pair (i k g : Nat) : List (Nat × V) := match g with
  | 0 => [(6, .b false), (9, txt [48, 46, 48 + i]), (10, txt [48, 46, 48 + k])]
  | 1 => [(6, .b false), (9, txt [45, 48, 46, 48 + i]), (10, txt [48, 46, 48 + k])]
  | _ => [(6, .b false), (9, txt [45, 48, 46, 48 + k]), (10, txt [45, 48, 46, 48 + i])]
def all : List (Nat × Nat × Nat) := (List.range 10).flatMap fun k => (List.range (k + 1)).flatMap fun i => [(i, k, 0), (i, k, 1), (i, k, 2)]
def lot (n c : Nat) : List (List (Nat × V)) := ((all.drop (n * c)).take n).map fun p => pair p.1 p.2.1 p.2.2
def pairs : List (List (Nat × V)) := all.map fun p => pair p.1 p.2.1 p.2.2
def arg (a b g : Nat) : List V := [.q .i64 10 a, .q .i64 10 b, .q .i64 3 g]
def lotOK (n c : Nat) : Prop := ((lot n c).all fun l => backB E1 100 5 gts l (fiOf Tryz.f3)) = true
theorem front : ((List.range 10).all fun a => (List.range 10).all fun b => (List.range 3).all fun g => frontB E1 100 5 gts pairs (arg a b g) (fiOf Tryz.f3)) = true := by decide +kernel
end Go.Proofs.YteebfpbbpcnkaaaGreatDoor.It
