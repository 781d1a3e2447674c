/-
  DERIVED. GIVEN WITH THE SEED: THE CARDS: each row of YtabdejmolnikaaaGreatDoorRows.lean that lists a variable, with what it lists TIED to the program's text (the seventh form; the later family's looks); each row that meets fmt, with fmt's text TOLD by the authors' own Lean function (tested against real Go, not proved from fmt's source: count such statements apart). THE CARD IS WHAT COUNTS. Prove the row's statement (the work); the ties are given (YtabdejmolnikaaaGreatDoorTie.lean); close each card by the builder's one call (the guide's Derived/Test/ToyasCard.lean, 'card_holds'). Laid BY PROGRAM, IN A SANDBOX (cutbox-door.mjs). By AI agents, Wed Nov 11 2026. No macro, syntax, notation, axiom, sorry.
-/
import Derived.Test.YtabdejmolnikaaaGreatDoorRows
import GoSem.ClaimSeven
namespace Go.Proofs.YtabdejmolnikaaaGreatDoor
namespace Rows

/-- THE TIED CARD OF 'sluicewaylaw25.WriterAsks'. -/
def writerAsksCard : Claim7 := { stood := { row := writerAsksRow, standIns := [], harness := (true, "96498544a7d1edcdf5b81c3908dc74b43504b9e3339bf6c08c3c0ae7bb3bc5a7"), looks := true }, kinds := [], alts := [], laidByText := true, laidKinds := [.data, .data, .data], laidTests := true, laidLooks := .later }
def WriterAsksCardSaid : Prop := Claim7.holds Tryz.pinned (.plain (OpenSpec.ofChange writerAsksSpec)) writerAsksCard

/-- THE TIED CARD OF 'sluicewaylaw4.DecAsks'. -/
def decAsksCard : Claim7 := { stood := { row := decAsksRow, standIns := [], harness := (true, "96498544a7d1edcdf5b81c3908dc74b43504b9e3339bf6c08c3c0ae7bb3bc5a7"), looks := true }, kinds := [], alts := [], laidByText := true, laidKinds := [.data, .data, .data, .sentinel, .sentinel], laidTests := true, laidLooks := .later }
def DecAsksCardSaid : Prop := Claim7.holds Tryz.pinned (.plain (OpenSpec.ofChange decAsksSpec)) decAsksCard

/-- THE TIED CARD OF 'sluicewaylaw4.DecTexts'. -/
def decTextsCard : Claim7 := { stood := { row := decTextsRow, standIns := [], harness := (true, "96498544a7d1edcdf5b81c3908dc74b43504b9e3339bf6c08c3c0ae7bb3bc5a7"), looks := true }, kinds := [], alts := [], laidByText := true, laidKinds := [.data, .data, .data, .sentinel, .sentinel], laidTests := true, laidLooks := .later }
def DecTextsCardSaid : Prop := Claim7.holds Tryz.pinned (.plain (OpenSpec.ofChange decTextsSpec)) decTextsCard

/-- THE TIED CARD OF 'sluicewaylaw4.DecBack'. -/
def decBackCard : Claim7 := { stood := { row := decBackRow, standIns := [], harness := (true, "96498544a7d1edcdf5b81c3908dc74b43504b9e3339bf6c08c3c0ae7bb3bc5a7"), looks := true }, kinds := [], alts := [], laidByText := true, laidKinds := [.data, .data, .data, .sentinel, .sentinel], laidTests := true, laidLooks := .later }
def DecBackCardSaid : Prop := Claim7.holds Tryz.pinned (.plain (OpenSpec.ofChange decBackSpec)) decBackCard

/-- THE TIED CARD OF 'sluicewaylaw4.DecSame'. -/
def decSameCard : Claim7 := { stood := { row := decSameRow, standIns := [], harness := (true, "96498544a7d1edcdf5b81c3908dc74b43504b9e3339bf6c08c3c0ae7bb3bc5a7"), looks := true }, kinds := [], alts := [], laidByText := true, laidKinds := [.data, .data, .data, .sentinel, .sentinel], laidTests := true, laidLooks := .later }
def DecSameCardSaid : Prop := Claim7.holds Tryz.pinned (.plain (OpenSpec.ofChange decSameSpec)) decSameCard

/-- THE TIED CARD OF 'sluicewaylaw4.DecHolds'. -/
def decHoldsCard : Claim7 := { stood := { row := decHoldsRow, standIns := [], harness := (true, "96498544a7d1edcdf5b81c3908dc74b43504b9e3339bf6c08c3c0ae7bb3bc5a7"), looks := true }, kinds := [], alts := [], laidByText := true, laidKinds := [.data, .data, .data, .sentinel, .sentinel], laidTests := true, laidLooks := .later }
def DecHoldsCardSaid : Prop := Claim7.holds Tryz.pinned (.plain (OpenSpec.ofChange decHoldsSpec)) decHoldsCard

/-- THE TIED CARD OF 'sluicewaylaw25.WriterHolds'. -/
def writerHoldsCard : Claim7 := { stood := { row := writerHoldsRow, standIns := [], harness := (true, "96498544a7d1edcdf5b81c3908dc74b43504b9e3339bf6c08c3c0ae7bb3bc5a7"), looks := true }, kinds := [], alts := [], laidByText := true, laidKinds := [.data, .data, .data, .sentinel, .sentinel], laidTests := true, laidLooks := .later }
def WriterHoldsCardSaid : Prop := Claim7.holds Tryz.pinned (.plain (OpenSpec.ofChange writerHoldsSpec)) writerHoldsCard

/-- THE SECOND FORM's CARD OF 'sluicewaylaw25.WriterAsks'. -/
def writerAsksUptoCard : Claim7 := { stood := { row := writerAsksUptoRow, standIns := [], harness := (true, "96498544a7d1edcdf5b81c3908dc74b43504b9e3339bf6c08c3c0ae7bb3bc5a7"), looks := true }, kinds := [], alts := [], laidByText := true, laidKinds := [.data, .data, .data], laidTests := true, laidLooks := .later }
def WriterAsksUptoCardSaid : Prop := Claim7.holds Tryz.pinned (.plain (OpenSpec.upto writerAsksSpec)) writerAsksUptoCard

/-- THE SECOND FORM's CARD OF 'sluicewaylaw4.DecAsks'. -/
def decAsksUptoCard : Claim7 := { stood := { row := decAsksUptoRow, standIns := [], harness := (true, "96498544a7d1edcdf5b81c3908dc74b43504b9e3339bf6c08c3c0ae7bb3bc5a7"), looks := true }, kinds := [], alts := [], laidByText := true, laidKinds := [.data, .data, .data, .sentinel, .sentinel], laidTests := true, laidLooks := .later }
def DecAsksUptoCardSaid : Prop := Claim7.holds Tryz.pinned (.plain (OpenSpec.upto decAsksSpec)) decAsksUptoCard

/-- THE SECOND FORM's CARD OF 'sluicewaylaw4.DecTexts'. -/
def decTextsUptoCard : Claim7 := { stood := { row := decTextsUptoRow, standIns := [], harness := (true, "96498544a7d1edcdf5b81c3908dc74b43504b9e3339bf6c08c3c0ae7bb3bc5a7"), looks := true }, kinds := [], alts := [], laidByText := true, laidKinds := [.data, .data, .data, .sentinel, .sentinel], laidTests := true, laidLooks := .later }
def DecTextsUptoCardSaid : Prop := Claim7.holds Tryz.pinned (.plain (OpenSpec.upto decTextsSpec)) decTextsUptoCard

/-- THE SECOND FORM's CARD OF 'sluicewaylaw4.DecBack'. -/
def decBackUptoCard : Claim7 := { stood := { row := decBackUptoRow, standIns := [], harness := (true, "96498544a7d1edcdf5b81c3908dc74b43504b9e3339bf6c08c3c0ae7bb3bc5a7"), looks := true }, kinds := [], alts := [], laidByText := true, laidKinds := [.data, .data, .data, .sentinel, .sentinel], laidTests := true, laidLooks := .later }
def DecBackUptoCardSaid : Prop := Claim7.holds Tryz.pinned (.plain (OpenSpec.upto decBackSpec)) decBackUptoCard

/-- THE SECOND FORM's CARD OF 'sluicewaylaw4.DecSame'. -/
def decSameUptoCard : Claim7 := { stood := { row := decSameUptoRow, standIns := [], harness := (true, "96498544a7d1edcdf5b81c3908dc74b43504b9e3339bf6c08c3c0ae7bb3bc5a7"), looks := true }, kinds := [], alts := [], laidByText := true, laidKinds := [.data, .data, .data, .sentinel, .sentinel], laidTests := true, laidLooks := .later }
def DecSameUptoCardSaid : Prop := Claim7.holds Tryz.pinned (.plain (OpenSpec.upto decSameSpec)) decSameUptoCard

/-- THE SECOND FORM's CARD OF 'sluicewaylaw4.DecHolds'. -/
def decHoldsUptoCard : Claim7 := { stood := { row := decHoldsUptoRow, standIns := [], harness := (true, "96498544a7d1edcdf5b81c3908dc74b43504b9e3339bf6c08c3c0ae7bb3bc5a7"), looks := true }, kinds := [], alts := [], laidByText := true, laidKinds := [.data, .data, .data, .sentinel, .sentinel], laidTests := true, laidLooks := .later }
def DecHoldsUptoCardSaid : Prop := Claim7.holds Tryz.pinned (.plain (OpenSpec.upto decHoldsSpec)) decHoldsUptoCard

/-- THE SECOND FORM's CARD OF 'sluicewaylaw25.WriterHolds'. -/
def writerHoldsUptoCard : Claim7 := { stood := { row := writerHoldsUptoRow, standIns := [], harness := (true, "96498544a7d1edcdf5b81c3908dc74b43504b9e3339bf6c08c3c0ae7bb3bc5a7"), looks := true }, kinds := [], alts := [], laidByText := true, laidKinds := [.data, .data, .data, .sentinel, .sentinel], laidTests := true, laidLooks := .later }
def WriterHoldsUptoCardSaid : Prop := Claim7.holds Tryz.pinned (.plain (OpenSpec.upto writerHoldsSpec)) writerHoldsUptoCard
end Rows
end Go.Proofs.YtabdejmolnikaaaGreatDoor
