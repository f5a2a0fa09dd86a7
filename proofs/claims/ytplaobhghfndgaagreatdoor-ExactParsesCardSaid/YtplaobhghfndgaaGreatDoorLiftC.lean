import Derived.Test.YtplaobhghfndgaaGreatDoorLift
import Derived.JoinedCond
/-! Closed facts of the program, whatever the law. -/
set_option maxRecDepth 100000
namespace Go.Proofs.YtplaobhghfndgaaGreatDoor
open Go
theorem c_laid : laidOutB Tryz.pinned.checked.prog = true := by kernel_rfl
theorem c_maps : mapsRowed Tryz.pinned.checked.prog = true := by kernel_rfl
theorem c_heard : Tryz.pinned.checked.prog.stopsHeard = true := by kernel_rfl
theorem c_keys : Tryz.pinned.checked.prog.plainKeys = true := by kernel_rfl
end Go.Proofs.YtplaobhghfndgaaGreatDoor
