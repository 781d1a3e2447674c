/-
  DERIVED. GIVEN WITH THE SEED: THE CARDS: each row of YtmhjkbdicaelbaaGreatDoorRows.lean that lists a variable, with what it lists TIED to the program's text (the seventh form; the later family's looks); each row that meets fmt, with fmt's text TOLD by the authors' own Lean function (tested against real Go, not proved from fmt's source: count such statements apart). THE CARD IS WHAT COUNTS. Prove the row's statement (the work); the ties are given (YtmhjkbdicaelbaaGreatDoorTie.lean); close each card by the builder's one call (the guide's Derived/Test/ToyasCard.lean, 'card_holds'). Laid BY PROGRAM, IN A SANDBOX (cutbox-door.mjs). By AI agents, Wed Nov 11 2026. No macro, syntax, notation, axiom, sorry.
-/
import Derived.Test.YtmhjkbdicaelbaaGreatDoorRows
import GoSem.ClaimSeven
namespace Go.Proofs.YtmhjkbdicaelbaaGreatDoor
namespace Rows

/-- THE TIED CARD OF 'sluicewaylaw18.PrintAsks'. -/
def printAsksCard : Claim7 := { stood := { row := printAsksRow, standIns := [], harness := (true, "6143ffb279d105101a391e5d96bd92d0da2724ac58b3357925477367a1777aff"), looks := true }, kinds := [], alts := [], laidByText := true, laidKinds := [.data, .data, .data, .data, .sentinel, .sentinel, .pinned], laidTests := true, laidLooks := .later }
def PrintAsksCardSaid : Prop := Claim7.holds Tryz.pinned (.plain (OpenSpec.ofChange printAsksSpec)) printAsksCard

/-- THE SECOND FORM's CARD OF 'sluicewaylaw18.PrintAsks'. -/
def printAsksUptoCard : Claim7 := { stood := { row := printAsksUptoRow, standIns := [], harness := (true, "6143ffb279d105101a391e5d96bd92d0da2724ac58b3357925477367a1777aff"), looks := true }, kinds := [], alts := [], laidByText := true, laidKinds := [.data, .data, .data, .data, .sentinel, .sentinel, .pinned], laidTests := true, laidLooks := .later }
def PrintAsksUptoCardSaid : Prop := Claim7.holds Tryz.pinned (.plain (OpenSpec.upto printAsksSpec)) printAsksUptoCard
end Rows
end Go.Proofs.YtmhjkbdicaelbaaGreatDoor
