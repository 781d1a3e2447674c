/-
  DERIVED. GIVEN WITH THE SEED: THE CARDS: each row of YteebfpbbpcnkaaaGreatDoorRows.lean that lists a variable, with what it lists TIED to the program's text (the seventh form; the later family's looks); each row that meets fmt, with fmt's text TOLD by the authors' own Lean function (tested against real Go, not proved from fmt's source: count such statements apart). THE CARD IS WHAT COUNTS. Prove the row's statement (the work); the ties are given (YteebfpbbpcnkaaaGreatDoorTie.lean); close each card by the builder's one call (the guide's Derived/Test/ToyasCard.lean, 'card_holds'). Laid BY PROGRAM, IN A SANDBOX (cutbox-door.mjs). By AI agents, Wed Nov 11 2026. No macro, syntax, notation, axiom, sorry.
-/
import Derived.Test.YteebfpbbpcnkaaaGreatDoorRows
import GoSem.ClaimSeven
namespace Go.Proofs.YteebfpbbpcnkaaaGreatDoor
namespace Rows

/-- THE TIED CARD OF 'sluicewaylaw19.BuildRanges'. -/
def buildRangesCard : Claim7 := { stood := { row := buildRangesRow, standIns := [], harness := (true, "f4201c4a42aea94fe2c4c93c54efd141b11f430ba1e26c6b724ea89d214d9510"), looks := true }, kinds := [], alts := [], laidByText := true, laidKinds := [.data, .data, .data, .data, .sentinel, .sentinel, .pinned], laidTests := true, laidLooks := .later }
def BuildRangesCardSaid : Prop := Claim7.holds Tryz.pinned (.plain (OpenSpec.ofChange buildRangesSpec)) buildRangesCard

/-- THE SECOND FORM's CARD OF 'sluicewaylaw19.BuildRanges'. -/
def buildRangesUptoCard : Claim7 := { stood := { row := buildRangesUptoRow, standIns := [], harness := (true, "f4201c4a42aea94fe2c4c93c54efd141b11f430ba1e26c6b724ea89d214d9510"), looks := true }, kinds := [], alts := [], laidByText := true, laidKinds := [.data, .data, .data, .data, .sentinel, .sentinel, .pinned], laidTests := true, laidLooks := .later }
def BuildRangesUptoCardSaid : Prop := Claim7.holds Tryz.pinned (.plain (OpenSpec.upto buildRangesSpec)) buildRangesUptoCard
end Rows
end Go.Proofs.YteebfpbbpcnkaaaGreatDoor
