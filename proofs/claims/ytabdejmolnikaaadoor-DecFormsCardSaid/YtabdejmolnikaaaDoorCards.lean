/-
  DERIVED. GIVEN WITH THE SEED: THE CARDS: each row of YtabdejmolnikaaaDoorRows.lean that lists a variable, with what it lists TIED to the program's text (the seventh form; the later family's looks); each row that meets fmt, with fmt's text TOLD by the authors' own Lean function (tested against real Go, not proved from fmt's source: count such statements apart). THE CARD IS WHAT COUNTS. Prove the row's statement (the work); the ties are given (YtabdejmolnikaaaDoorTie.lean); close each card by the builder's one call (the guide's Derived/Test/ToyasCard.lean, 'card_holds'). Laid BY PROGRAM, IN A SANDBOX (cutbox-door.mjs). By AI agents, Wed Nov 11 2026. No macro, syntax, notation, axiom, sorry.
-/
import Derived.Test.YtabdejmolnikaaaDoorRows
import GoSem.ClaimSeven
namespace Go.Proofs.YtabdejmolnikaaaDoor
namespace Rows

/-- THE TIED CARD OF 'sluicewaylaw25.WriterLines'. -/
def writerLinesCard : Claim7 := { stood := { row := writerLinesRow, standIns := [], harness := (true, "9c135b5e6eac1a46ca7fae0de1daa2acf47ea7f26f321ed9e97e7eed47d95b88"), looks := true }, kinds := [], alts := [], laidByText := true, laidKinds := [.data, .data, .data], laidTests := true, laidLooks := .later }
def WriterLinesCardSaid : Prop := Claim7.holds Tryd.pinned (.plain (OpenSpec.ofChange writerLinesSpec)) writerLinesCard

/-- THE TIED CARD OF 'sluicewaylaw4.DecSigns'. -/
def decSignsCard : Claim7 := { stood := { row := decSignsRow, standIns := [], harness := (true, "9c135b5e6eac1a46ca7fae0de1daa2acf47ea7f26f321ed9e97e7eed47d95b88"), looks := true }, kinds := [], alts := [], laidByText := true, laidKinds := [.data, .data, .data, .sentinel, .sentinel], laidTests := true, laidLooks := .later }
def DecSignsCardSaid : Prop := Claim7.holds Tryd.pinned (.plain (OpenSpec.ofChange decSignsSpec)) decSignsCard

/-- THE TIED CARD OF 'sluicewaylaw4.DecForms'. -/
def decFormsCard : Claim7 := { stood := { row := decFormsRow, standIns := [], harness := (true, "9c135b5e6eac1a46ca7fae0de1daa2acf47ea7f26f321ed9e97e7eed47d95b88"), looks := true }, kinds := [], alts := [], laidByText := true, laidKinds := [.data, .data, .data, .sentinel, .sentinel], laidTests := true, laidLooks := .later }
def DecFormsCardSaid : Prop := Claim7.holds Tryd.pinned (.plain (OpenSpec.ofChange decFormsSpec)) decFormsCard

/-- THE SECOND FORM's CARD OF 'sluicewaylaw25.WriterLines'. -/
def writerLinesUptoCard : Claim7 := { stood := { row := writerLinesUptoRow, standIns := [], harness := (true, "9c135b5e6eac1a46ca7fae0de1daa2acf47ea7f26f321ed9e97e7eed47d95b88"), looks := true }, kinds := [], alts := [], laidByText := true, laidKinds := [.data, .data, .data], laidTests := true, laidLooks := .later }
def WriterLinesUptoCardSaid : Prop := Claim7.holds Tryd.pinned (.plain (OpenSpec.upto writerLinesSpec)) writerLinesUptoCard

/-- THE SECOND FORM's CARD OF 'sluicewaylaw4.DecSigns'. -/
def decSignsUptoCard : Claim7 := { stood := { row := decSignsUptoRow, standIns := [], harness := (true, "9c135b5e6eac1a46ca7fae0de1daa2acf47ea7f26f321ed9e97e7eed47d95b88"), looks := true }, kinds := [], alts := [], laidByText := true, laidKinds := [.data, .data, .data, .sentinel, .sentinel], laidTests := true, laidLooks := .later }
def DecSignsUptoCardSaid : Prop := Claim7.holds Tryd.pinned (.plain (OpenSpec.upto decSignsSpec)) decSignsUptoCard

/-- THE SECOND FORM's CARD OF 'sluicewaylaw4.DecForms'. -/
def decFormsUptoCard : Claim7 := { stood := { row := decFormsUptoRow, standIns := [], harness := (true, "9c135b5e6eac1a46ca7fae0de1daa2acf47ea7f26f321ed9e97e7eed47d95b88"), looks := true }, kinds := [], alts := [], laidByText := true, laidKinds := [.data, .data, .data, .sentinel, .sentinel], laidTests := true, laidLooks := .later }
def DecFormsUptoCardSaid : Prop := Claim7.holds Tryd.pinned (.plain (OpenSpec.upto decFormsSpec)) decFormsUptoCard
end Rows
end Go.Proofs.YtabdejmolnikaaaDoor
