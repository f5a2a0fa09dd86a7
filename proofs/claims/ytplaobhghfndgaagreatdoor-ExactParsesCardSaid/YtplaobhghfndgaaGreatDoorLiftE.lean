import Derived.Test.YtplaobhghfndgaaGreatDoorLift
import Derived.JoinedCond
/-! A closed fact of the program, whatever the law: what it lifts. -/
set_option maxRecDepth 100000
namespace Go.Proofs.YtplaobhghfndgaaGreatDoor
open Go
theorem c_lift : (Rows.exactFieldRow.lifted == Tryz.pinned.checked.prog.liftsFinal) = true := by kernel_rfl
end Go.Proofs.YtplaobhghfndgaaGreatDoor
