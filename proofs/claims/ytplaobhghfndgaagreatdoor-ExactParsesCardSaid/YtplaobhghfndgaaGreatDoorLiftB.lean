import Derived.Test.YtplaobhghfndgaaGreatDoorLift
/-! The main package is the harness that the cards name. -/
set_option maxRecDepth 100000
namespace Go.Proofs.YtplaobhghfndgaaGreatDoor
open Go
theorem main_is : Tryz.pinned.checked.prog.mainIs = some (true, "b5451932b3c6d271ac3280b0fe1f51ccd0177ece7a0227132c8715b2a6055349".toList) := by kernel_rfl
end Go.Proofs.YtplaobhghfndgaaGreatDoor
