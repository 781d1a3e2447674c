/-
  BUILDRANGES BY THE INTERPRETER: the rest of the law behind the cut, 5 pairs a theorem (part 3 of 4).
-/
import Derived.Test.YteebfpbbpcnkaaaGreatDoorZBrA
set_option linter.unusedVariables false
set_option linter.unusedSimpArgs false
set_option maxRecDepth 100000
set_option linter.unusedVariables false
namespace Go.Proofs.YteebfpbbpcnkaaaGreatDoor.It
open Go Go.It
theorem back18 : lotOK 5 18 := by unfold lotOK; decide +kernel
theorem back19 : lotOK 5 19 := by unfold lotOK; decide +kernel
theorem back20 : lotOK 5 20 := by unfold lotOK; decide +kernel
theorem back21 : lotOK 5 21 := by unfold lotOK; decide +kernel
theorem back22 : lotOK 5 22 := by unfold lotOK; decide +kernel
theorem back23 : lotOK 5 23 := by unfold lotOK; decide +kernel
theorem back24 : lotOK 5 24 := by unfold lotOK; decide +kernel
theorem back25 : lotOK 5 25 := by unfold lotOK; decide +kernel
theorem back26 : lotOK 5 26 := by unfold lotOK; decide +kernel
end Go.Proofs.YteebfpbbpcnkaaaGreatDoor.It
