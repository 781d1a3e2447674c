/-
  DERIVED. GIVEN WITH THE SEED: THE CARDS: each row of YtkihplehmkbfaaaGreatDoorRows.lean that lists a variable, with what it lists TIED to the program's text (the seventh form; the later family's looks); each row that meets fmt, with fmt's text TOLD by the authors' own Lean function (tested against real Go, not proved from fmt's source: count such statements apart). THE CARD IS WHAT COUNTS. Prove the row's statement (the work); the ties are given (YtkihplehmkbfaaaGreatDoorTie.lean); close each card by the builder's one call (the guide's Derived/Test/ToyasCard.lean, 'card_holds'). Laid BY PROGRAM, IN A SANDBOX (cutbox-door.mjs). By AI agents, Wed Nov 11 2026. No macro, syntax, notation, axiom, sorry.
-/
import Derived.Test.YtkihplehmkbfaaaGreatDoorRows
import GoSem.ClaimSeven
namespace Go.Proofs.YtkihplehmkbfaaaGreatDoor
namespace Rows

/-- THE TIED CARD OF 'sluicewaylaw25.WriterAsks'. -/
def writerAsksCard : Claim7 := { stood := { row := writerAsksRow, standIns := [], harness := (true, "c981af4a5dba8154c443a7dd660da659310713d75052de900dc7ddcc92357850"), looks := true }, kinds := [], alts := [], laidByText := true, laidKinds := [.data, .data, .data], laidTests := true, laidLooks := .later }
def WriterAsksCardSaid : Prop := Claim7.holds Tryz.pinned (.plain (OpenSpec.ofChange writerAsksSpec)) writerAsksCard

/-- THE TIED CARD OF 'sluicewaylaw25.WriterHolds'. -/
def writerHoldsCard : Claim7 := { stood := { row := writerHoldsRow, standIns := [], harness := (true, "c981af4a5dba8154c443a7dd660da659310713d75052de900dc7ddcc92357850"), looks := true }, kinds := [], alts := [], laidByText := true, laidKinds := [.data, .data, .data, .sentinel, .sentinel], laidTests := true, laidLooks := .later }
def WriterHoldsCardSaid : Prop := Claim7.holds Tryz.pinned (.plain (OpenSpec.ofChange writerHoldsSpec)) writerHoldsCard

/-- THE TIED CARD OF 'sluicewaylaw16.SceneExprs'. -/
def sceneExprsCard : Claim7 := { stood := { row := sceneExprsRow, standIns := [], harness := (true, "c981af4a5dba8154c443a7dd660da659310713d75052de900dc7ddcc92357850"), looks := true }, kinds := [], alts := [], laidByText := true, laidKinds := [.data, .data, .data, .data, .sentinel, .sentinel, .pinned], laidTests := true, laidLooks := .later }
def SceneExprsCardSaid : Prop := Claim7.holds Tryz.pinned (.plain (OpenSpec.ofChange sceneExprsSpec)) sceneExprsCard

/-- THE TIED CARD OF 'sluicewaylaw16.SceneTurned'. -/
def sceneTurnedCard : Claim7 := { stood := { row := sceneTurnedRow, standIns := [], harness := (true, "c981af4a5dba8154c443a7dd660da659310713d75052de900dc7ddcc92357850"), looks := true }, kinds := [], alts := [], laidByText := true, laidKinds := [.data, .data, .data, .data, .sentinel, .sentinel, .pinned], laidTests := true, laidLooks := .later }
def SceneTurnedCardSaid : Prop := Claim7.holds Tryz.pinned (.plain (OpenSpec.ofChange sceneTurnedSpec)) sceneTurnedCard

/-- THE TIED CARD OF 'sluicewaylaw16.SceneLinks'. -/
def sceneLinksCard : Claim7 := { stood := { row := sceneLinksRow, standIns := [], harness := (true, "c981af4a5dba8154c443a7dd660da659310713d75052de900dc7ddcc92357850"), looks := true }, kinds := [], alts := [], laidByText := true, laidKinds := [.data, .data, .data, .data, .sentinel, .sentinel, .pinned], laidTests := true, laidLooks := .later }
def SceneLinksCardSaid : Prop := Claim7.holds Tryz.pinned (.plain (OpenSpec.ofChange sceneLinksSpec)) sceneLinksCard

/-- THE TIED CARD OF 'sluicewaylaw16.SceneNames'. -/
def sceneNamesCard : Claim7 := { stood := { row := sceneNamesRow, standIns := [], harness := (true, "c981af4a5dba8154c443a7dd660da659310713d75052de900dc7ddcc92357850"), looks := true }, kinds := [], alts := [], laidByText := true, laidKinds := [.data, .data, .data, .data, .sentinel, .sentinel, .pinned], laidTests := true, laidLooks := .later }
def SceneNamesCardSaid : Prop := Claim7.holds Tryz.pinned (.plain (OpenSpec.ofChange sceneNamesSpec)) sceneNamesCard

/-- THE TIED CARD OF 'sluicewaylaw16.SceneBounds'. -/
def sceneBoundsCard : Claim7 := { stood := { row := sceneBoundsRow, standIns := [], harness := (true, "c981af4a5dba8154c443a7dd660da659310713d75052de900dc7ddcc92357850"), looks := true }, kinds := [], alts := [], laidByText := true, laidKinds := [.data, .data, .data, .data, .sentinel, .sentinel, .pinned], laidTests := true, laidLooks := .later }
def SceneBoundsCardSaid : Prop := Claim7.holds Tryz.pinned (.plain (OpenSpec.ofChange sceneBoundsSpec)) sceneBoundsCard

/-- THE TIED CARD OF 'sluicewaylaw18.PrintAsks'. -/
def printAsksCard : Claim7 := { stood := { row := printAsksRow, standIns := [], harness := (true, "c981af4a5dba8154c443a7dd660da659310713d75052de900dc7ddcc92357850"), looks := true }, kinds := [], alts := [], laidByText := true, laidKinds := [.data, .data, .data, .data, .sentinel, .sentinel, .pinned], laidTests := true, laidLooks := .later }
def PrintAsksCardSaid : Prop := Claim7.holds Tryz.pinned (.plain (OpenSpec.ofChange printAsksSpec)) printAsksCard

/-- THE TIED CARD OF 'sluicewaylaw18.PrintBrackets'. -/
def printBracketsCard : Claim7 := { stood := { row := printBracketsRow, standIns := [], harness := (true, "c981af4a5dba8154c443a7dd660da659310713d75052de900dc7ddcc92357850"), looks := true }, kinds := [], alts := [], laidByText := true, laidKinds := [.data, .data, .data, .data, .sentinel, .sentinel, .pinned], laidTests := true, laidLooks := .later }
def PrintBracketsCardSaid : Prop := Claim7.holds Tryz.pinned (.plain (OpenSpec.ofChange printBracketsSpec)) printBracketsCard

/-- THE SECOND FORM's CARD OF 'sluicewaylaw25.WriterAsks'. -/
def writerAsksUptoCard : Claim7 := { stood := { row := writerAsksUptoRow, standIns := [], harness := (true, "c981af4a5dba8154c443a7dd660da659310713d75052de900dc7ddcc92357850"), looks := true }, kinds := [], alts := [], laidByText := true, laidKinds := [.data, .data, .data], laidTests := true, laidLooks := .later }
def WriterAsksUptoCardSaid : Prop := Claim7.holds Tryz.pinned (.plain (OpenSpec.upto writerAsksSpec)) writerAsksUptoCard

/-- THE SECOND FORM's CARD OF 'sluicewaylaw25.WriterHolds'. -/
def writerHoldsUptoCard : Claim7 := { stood := { row := writerHoldsUptoRow, standIns := [], harness := (true, "c981af4a5dba8154c443a7dd660da659310713d75052de900dc7ddcc92357850"), looks := true }, kinds := [], alts := [], laidByText := true, laidKinds := [.data, .data, .data, .sentinel, .sentinel], laidTests := true, laidLooks := .later }
def WriterHoldsUptoCardSaid : Prop := Claim7.holds Tryz.pinned (.plain (OpenSpec.upto writerHoldsSpec)) writerHoldsUptoCard

/-- THE SECOND FORM's CARD OF 'sluicewaylaw16.SceneExprs'. -/
def sceneExprsUptoCard : Claim7 := { stood := { row := sceneExprsUptoRow, standIns := [], harness := (true, "c981af4a5dba8154c443a7dd660da659310713d75052de900dc7ddcc92357850"), looks := true }, kinds := [], alts := [], laidByText := true, laidKinds := [.data, .data, .data, .data, .sentinel, .sentinel, .pinned], laidTests := true, laidLooks := .later }
def SceneExprsUptoCardSaid : Prop := Claim7.holds Tryz.pinned (.plain (OpenSpec.upto sceneExprsSpec)) sceneExprsUptoCard

/-- THE SECOND FORM's CARD OF 'sluicewaylaw16.SceneTurned'. -/
def sceneTurnedUptoCard : Claim7 := { stood := { row := sceneTurnedUptoRow, standIns := [], harness := (true, "c981af4a5dba8154c443a7dd660da659310713d75052de900dc7ddcc92357850"), looks := true }, kinds := [], alts := [], laidByText := true, laidKinds := [.data, .data, .data, .data, .sentinel, .sentinel, .pinned], laidTests := true, laidLooks := .later }
def SceneTurnedUptoCardSaid : Prop := Claim7.holds Tryz.pinned (.plain (OpenSpec.upto sceneTurnedSpec)) sceneTurnedUptoCard

/-- THE SECOND FORM's CARD OF 'sluicewaylaw16.SceneLinks'. -/
def sceneLinksUptoCard : Claim7 := { stood := { row := sceneLinksUptoRow, standIns := [], harness := (true, "c981af4a5dba8154c443a7dd660da659310713d75052de900dc7ddcc92357850"), looks := true }, kinds := [], alts := [], laidByText := true, laidKinds := [.data, .data, .data, .data, .sentinel, .sentinel, .pinned], laidTests := true, laidLooks := .later }
def SceneLinksUptoCardSaid : Prop := Claim7.holds Tryz.pinned (.plain (OpenSpec.upto sceneLinksSpec)) sceneLinksUptoCard

/-- THE SECOND FORM's CARD OF 'sluicewaylaw16.SceneNames'. -/
def sceneNamesUptoCard : Claim7 := { stood := { row := sceneNamesUptoRow, standIns := [], harness := (true, "c981af4a5dba8154c443a7dd660da659310713d75052de900dc7ddcc92357850"), looks := true }, kinds := [], alts := [], laidByText := true, laidKinds := [.data, .data, .data, .data, .sentinel, .sentinel, .pinned], laidTests := true, laidLooks := .later }
def SceneNamesUptoCardSaid : Prop := Claim7.holds Tryz.pinned (.plain (OpenSpec.upto sceneNamesSpec)) sceneNamesUptoCard

/-- THE SECOND FORM's CARD OF 'sluicewaylaw16.SceneBounds'. -/
def sceneBoundsUptoCard : Claim7 := { stood := { row := sceneBoundsUptoRow, standIns := [], harness := (true, "c981af4a5dba8154c443a7dd660da659310713d75052de900dc7ddcc92357850"), looks := true }, kinds := [], alts := [], laidByText := true, laidKinds := [.data, .data, .data, .data, .sentinel, .sentinel, .pinned], laidTests := true, laidLooks := .later }
def SceneBoundsUptoCardSaid : Prop := Claim7.holds Tryz.pinned (.plain (OpenSpec.upto sceneBoundsSpec)) sceneBoundsUptoCard

/-- THE SECOND FORM's CARD OF 'sluicewaylaw18.PrintAsks'. -/
def printAsksUptoCard : Claim7 := { stood := { row := printAsksUptoRow, standIns := [], harness := (true, "c981af4a5dba8154c443a7dd660da659310713d75052de900dc7ddcc92357850"), looks := true }, kinds := [], alts := [], laidByText := true, laidKinds := [.data, .data, .data, .data, .sentinel, .sentinel, .pinned], laidTests := true, laidLooks := .later }
def PrintAsksUptoCardSaid : Prop := Claim7.holds Tryz.pinned (.plain (OpenSpec.upto printAsksSpec)) printAsksUptoCard

/-- THE SECOND FORM's CARD OF 'sluicewaylaw18.PrintBrackets'. -/
def printBracketsUptoCard : Claim7 := { stood := { row := printBracketsUptoRow, standIns := [], harness := (true, "c981af4a5dba8154c443a7dd660da659310713d75052de900dc7ddcc92357850"), looks := true }, kinds := [], alts := [], laidByText := true, laidKinds := [.data, .data, .data, .data, .sentinel, .sentinel, .pinned], laidTests := true, laidLooks := .later }
def PrintBracketsUptoCardSaid : Prop := Claim7.holds Tryz.pinned (.plain (OpenSpec.upto printBracketsSpec)) printBracketsUptoCard
end Rows
end Go.Proofs.YtkihplehmkbfaaaGreatDoor
