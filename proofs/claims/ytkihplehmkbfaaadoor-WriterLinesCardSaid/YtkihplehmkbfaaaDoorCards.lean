/-
  DERIVED. GIVEN WITH THE SEED: THE CARDS: each row of YtkihplehmkbfaaaDoorRows.lean that lists a variable, with what it lists TIED to the program's text (the seventh form; the later family's looks); each row that meets fmt, with fmt's text TOLD by the authors' own Lean function (tested against real Go, not proved from fmt's source: count such statements apart). THE CARD IS WHAT COUNTS. Prove the row's statement (the work); the ties are given (YtkihplehmkbfaaaDoorTie.lean); close each card by the builder's one call (the guide's Derived/Test/ToyasCard.lean, 'card_holds'). Laid BY PROGRAM, IN A SANDBOX (cutbox-door.mjs). By AI agents, Wed Nov 11 2026. No macro, syntax, notation, axiom, sorry.
-/
import Derived.Test.YtkihplehmkbfaaaDoorRows
import GoSem.ClaimSeven
namespace Go.Proofs.YtkihplehmkbfaaaDoor
namespace Rows

/-- THE TIED CARD OF 'sluicewaylaw25.WriterLines'. -/
def writerLinesCard : Claim7 := { stood := { row := writerLinesRow, standIns := [], harness := (true, "e1b91afa905c14097a0bb5119d878fbc4276adf1552633a96d3a083562ba3e53"), looks := false }, kinds := [], alts := [], laidByText := true, laidKinds := [.data, .data, .data], laidTests := true, laidLooks := .later }
def WriterLinesCardSaid : Prop := Claim7.holds Tryd.pinned (.plain (OpenSpec.ofChange writerLinesSpec)) writerLinesCard

/-- THE SECOND FORM's CARD OF 'sluicewaylaw25.WriterLines'. -/
def writerLinesUptoCard : Claim7 := { stood := { row := writerLinesUptoRow, standIns := [], harness := (true, "e1b91afa905c14097a0bb5119d878fbc4276adf1552633a96d3a083562ba3e53"), looks := false }, kinds := [], alts := [], laidByText := true, laidKinds := [.data, .data, .data], laidTests := true, laidLooks := .later }
def WriterLinesUptoCardSaid : Prop := Claim7.holds Tryd.pinned (.plain (OpenSpec.upto writerLinesSpec)) writerLinesUptoCard
end Rows
end Go.Proofs.YtkihplehmkbfaaaDoor
