/-
  DERIVED. GIVEN WITH THE SEED: THE CARDS: each row of YtlijgfkkmamanaaGreatDoorRows.lean that lists a variable, with what it lists TIED to the program's text (the seventh form; the later family's looks); each row that meets fmt, with fmt's text TOLD by the authors' own Lean function (tested against real Go, not proved from fmt's source: count such statements apart). THE CARD IS WHAT COUNTS. Prove the row's statement (the work); the ties are given (YtlijgfkkmamanaaGreatDoorTie.lean); close each card by the builder's one call (the guide's Derived/Test/ToyasCard.lean, 'card_holds'). Laid BY PROGRAM, IN A SANDBOX (cutbox-door.mjs). By AI agents, Wed Nov 11 2026. No macro, syntax, notation, axiom, sorry.
-/
import Derived.Test.YtlijgfkkmamanaaGreatDoorRows
import GoSem.ClaimSeven
namespace Go.Proofs.YtlijgfkkmamanaaGreatDoor
namespace Rows

/-- THE TIED CARD OF 'sluicewaylaw17.ParseMay'. -/
def parseMayCard : Claim7 := { stood := { row := parseMayRow, standIns := [], harness := (true, "7a534282096b7c1443d67a0eed97056f1744e764cbe747039aa6672f69ac6970"), looks := true }, kinds := [], alts := [], laidByText := true, laidKinds := [.data, .data, .data, .data, .sentinel, .sentinel, .pinned], laidTests := true, laidLooks := .later }
def ParseMayCardSaid : Prop := Claim7.holds Tryz.pinned (.plain (OpenSpec.ofChange parseMaySpec)) parseMayCard

/-- THE TIED CARD OF 'sluicewaylaw18.PrintScenes'. -/
def printScenesCard : Claim7 := { stood := { row := printScenesRow, standIns := [], harness := (true, "7a534282096b7c1443d67a0eed97056f1744e764cbe747039aa6672f69ac6970"), looks := true }, kinds := [], alts := [], laidByText := true, laidKinds := [.data, .data, .data, .data, .sentinel, .sentinel, .pinned], laidTests := true, laidLooks := .later }
def PrintScenesCardSaid : Prop := Claim7.holds Tryz.pinned (.plain (OpenSpec.ofChange printScenesSpec)) printScenesCard

/-- THE TIED CARD OF 'sluicewaylaw18.PrintRead'. -/
def printReadCard : Claim7 := { stood := { row := printReadRow, standIns := [], harness := (true, "7a534282096b7c1443d67a0eed97056f1744e764cbe747039aa6672f69ac6970"), looks := true }, kinds := [], alts := [], laidByText := true, laidKinds := [.data, .data, .data, .data, .sentinel, .sentinel, .pinned], laidTests := true, laidLooks := .later }
def PrintReadCardSaid : Prop := Claim7.holds Tryz.pinned (.plain (OpenSpec.ofChange printReadSpec)) printReadCard

/-- THE SECOND FORM's CARD OF 'sluicewaylaw17.ParseMay'. -/
def parseMayUptoCard : Claim7 := { stood := { row := parseMayUptoRow, standIns := [], harness := (true, "7a534282096b7c1443d67a0eed97056f1744e764cbe747039aa6672f69ac6970"), looks := true }, kinds := [], alts := [], laidByText := true, laidKinds := [.data, .data, .data, .data, .sentinel, .sentinel, .pinned], laidTests := true, laidLooks := .later }
def ParseMayUptoCardSaid : Prop := Claim7.holds Tryz.pinned (.plain (OpenSpec.upto parseMaySpec)) parseMayUptoCard

/-- THE SECOND FORM's CARD OF 'sluicewaylaw18.PrintScenes'. -/
def printScenesUptoCard : Claim7 := { stood := { row := printScenesUptoRow, standIns := [], harness := (true, "7a534282096b7c1443d67a0eed97056f1744e764cbe747039aa6672f69ac6970"), looks := true }, kinds := [], alts := [], laidByText := true, laidKinds := [.data, .data, .data, .data, .sentinel, .sentinel, .pinned], laidTests := true, laidLooks := .later }
def PrintScenesUptoCardSaid : Prop := Claim7.holds Tryz.pinned (.plain (OpenSpec.upto printScenesSpec)) printScenesUptoCard

/-- THE SECOND FORM's CARD OF 'sluicewaylaw18.PrintRead'. -/
def printReadUptoCard : Claim7 := { stood := { row := printReadUptoRow, standIns := [], harness := (true, "7a534282096b7c1443d67a0eed97056f1744e764cbe747039aa6672f69ac6970"), looks := true }, kinds := [], alts := [], laidByText := true, laidKinds := [.data, .data, .data, .data, .sentinel, .sentinel, .pinned], laidTests := true, laidLooks := .later }
def PrintReadUptoCardSaid : Prop := Claim7.holds Tryz.pinned (.plain (OpenSpec.upto printReadSpec)) printReadUptoCard
end Rows
end Go.Proofs.YtlijgfkkmamanaaGreatDoor
