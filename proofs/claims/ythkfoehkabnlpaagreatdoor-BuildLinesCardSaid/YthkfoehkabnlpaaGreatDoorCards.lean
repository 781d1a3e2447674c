/-
  DERIVED. GIVEN WITH THE SEED: THE CARDS: each row of YthkfoehkabnlpaaGreatDoorRows.lean that lists a variable, with what it lists TIED to the program's text (the seventh form; the later family's looks); each row that meets fmt, with fmt's text TOLD by the authors' own Lean function (tested against real Go, not proved from fmt's source: count such statements apart). THE CARD IS WHAT COUNTS. Prove the row's statement (the work); the ties are given (YthkfoehkabnlpaaGreatDoorTie.lean); close each card by the builder's one call (the guide's Derived/Test/ToyasCard.lean, 'card_holds'). Laid BY PROGRAM, IN A SANDBOX (cutbox-door.mjs). By AI agents, Wed Nov 11 2026. No macro, syntax, notation, axiom, sorry.
-/
import Derived.Test.YthkfoehkabnlpaaGreatDoorRows
import GoSem.ClaimSeven
namespace Go.Proofs.YthkfoehkabnlpaaGreatDoor
namespace Rows

/-- THE TIED CARD OF 'sluicewaylaw19.BuildAsks'. -/
def buildAsksCard : Claim7 := { stood := { row := buildAsksRow, standIns := [], harness := (true, "4d9c58da52630c6eb619ee051442524299de4a171884c8e9a1a3967ac2c8ba50"), looks := true }, kinds := [], alts := [], laidByText := true, laidKinds := [.data, .data, .data, .data, .sentinel, .sentinel, .pinned], laidTests := true, laidLooks := .later }
def BuildAsksCardSaid : Prop := Claim7.holds Tryz.pinned (.plain (OpenSpec.ofChange buildAsksSpec)) buildAsksCard

/-- THE TIED CARD OF 'sluicewaylaw19.BuildLines'. -/
def buildLinesCard : Claim7 := { stood := { row := buildLinesRow, standIns := [], harness := (true, "4d9c58da52630c6eb619ee051442524299de4a171884c8e9a1a3967ac2c8ba50"), looks := true }, kinds := [], alts := [], laidByText := true, laidKinds := [.data, .data, .data, .data, .sentinel, .sentinel, .pinned], laidTests := true, laidLooks := .later }
def BuildLinesCardSaid : Prop := Claim7.holds Tryz.pinned (.plain (OpenSpec.ofChange buildLinesSpec)) buildLinesCard

/-- THE SECOND FORM's CARD OF 'sluicewaylaw19.BuildAsks'. -/
def buildAsksUptoCard : Claim7 := { stood := { row := buildAsksUptoRow, standIns := [], harness := (true, "4d9c58da52630c6eb619ee051442524299de4a171884c8e9a1a3967ac2c8ba50"), looks := true }, kinds := [], alts := [], laidByText := true, laidKinds := [.data, .data, .data, .data, .sentinel, .sentinel, .pinned], laidTests := true, laidLooks := .later }
def BuildAsksUptoCardSaid : Prop := Claim7.holds Tryz.pinned (.plain (OpenSpec.upto buildAsksSpec)) buildAsksUptoCard

/-- THE SECOND FORM's CARD OF 'sluicewaylaw19.BuildLines'. -/
def buildLinesUptoCard : Claim7 := { stood := { row := buildLinesUptoRow, standIns := [], harness := (true, "4d9c58da52630c6eb619ee051442524299de4a171884c8e9a1a3967ac2c8ba50"), looks := true }, kinds := [], alts := [], laidByText := true, laidKinds := [.data, .data, .data, .data, .sentinel, .sentinel, .pinned], laidTests := true, laidLooks := .later }
def BuildLinesUptoCardSaid : Prop := Claim7.holds Tryz.pinned (.plain (OpenSpec.upto buildLinesSpec)) buildLinesUptoCard
end Rows
end Go.Proofs.YthkfoehkabnlpaaGreatDoor
