/-
  BUILDRANGES BY THE INTERPRETER: the rest of the law behind the cut, 5 pairs a theorem (part 2 of 4).
-/
import Derived.Test.YteebfpbbpcnkaaaGreatDoorZBrA
set_option linter.unusedVariables false
set_option linter.unusedSimpArgs false
set_option maxRecDepth 100000
set_option linter.unusedVariables false
namespace Go.Proofs.YteebfpbbpcnkaaaGreatDoor.It
open Go Go.It
theorem back9 : lotOK 5 9 := by unfold lotOK; decide +kernel
theorem back10 : lotOK 5 10 := by unfold lotOK; decide +kernel
theorem back11 : lotOK 5 11 := by unfold lotOK; decide +kernel
theorem back12 : lotOK 5 12 := by unfold lotOK; decide +kernel
theorem back13 : lotOK 5 13 := by unfold lotOK; decide +kernel
theorem back14 : lotOK 5 14 := by unfold lotOK; decide +kernel
theorem back15 : lotOK 5 15 := by unfold lotOK; decide +kernel
theorem back16 : lotOK 5 16 := by unfold lotOK; decide +kernel
theorem back17 : lotOK 5 17 := by unfold lotOK; decide +kernel
end Go.Proofs.YteebfpbbpcnkaaaGreatDoor.It
