/-
  BUILDRANGES BY THE INTERPRETER: the rest of the law behind the cut, 5 pairs a theorem (part 4 of 4).
-/
import Derived.Test.YteebfpbbpcnkaaaGreatDoorZBrA
set_option linter.unusedVariables false
set_option linter.unusedSimpArgs false
set_option maxRecDepth 100000
set_option linter.unusedVariables false
namespace Go.Proofs.YteebfpbbpcnkaaaGreatDoor.It
open Go Go.It
theorem back27 : lotOK 5 27 := by unfold lotOK; decide +kernel
theorem back28 : lotOK 5 28 := by unfold lotOK; decide +kernel
theorem back29 : lotOK 5 29 := by unfold lotOK; decide +kernel
theorem back30 : lotOK 5 30 := by unfold lotOK; decide +kernel
theorem back31 : lotOK 5 31 := by unfold lotOK; decide +kernel
theorem back32 : lotOK 5 32 := by unfold lotOK; decide +kernel
end Go.Proofs.YteebfpbbpcnkaaaGreatDoor.It
