import Derived.Test.YtplaobhghfndgaaGreatDoorLift
import Derived.JoinedCond
/-! A closed fact of the program, whatever the law: how it was made. -/
set_option maxRecDepth 100000
namespace Go.Proofs.YtplaobhghfndgaaGreatDoor
open Go
theorem c_make : (Tryz.pinned.checked.prog.make == some Rows.exactFieldRow.make) = true := by kernel_rfl
end Go.Proofs.YtplaobhghfndgaaGreatDoor
