/-
  BUILDRANGES BY THE INTERPRETER: the rest of the law behind the cut, 5 pairs a theorem (part 1 of 4).
-/
import Derived.Test.YteebfpbbpcnkaaaGreatDoorZBrA
set_option linter.unusedVariables false
set_option linter.unusedSimpArgs false
set_option maxRecDepth 100000
set_option linter.unusedVariables false
namespace Go.Proofs.YteebfpbbpcnkaaaGreatDoor.It
open Go Go.It
theorem back0 : lotOK 5 0 := by unfold lotOK; decide +kernel
theorem back1 : lotOK 5 1 := by unfold lotOK; decide +kernel
theorem back2 : lotOK 5 2 := by unfold lotOK; decide +kernel
theorem back3 : lotOK 5 3 := by unfold lotOK; decide +kernel
theorem back4 : lotOK 5 4 := by unfold lotOK; decide +kernel
theorem back5 : lotOK 5 5 := by unfold lotOK; decide +kernel
theorem back6 : lotOK 5 6 := by unfold lotOK; decide +kernel
theorem back7 : lotOK 5 7 := by unfold lotOK; decide +kernel
theorem back8 : lotOK 5 8 := by unfold lotOK; decide +kernel
end Go.Proofs.YteebfpbbpcnkaaaGreatDoor.It
