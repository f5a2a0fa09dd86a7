import Derived.Test.YtplaobhghfndgaaGreatDoorLift
import Derived.JoinedCond
/-! ExactField: the closed facts of what its code comes to. -/
set_option maxRecDepth 100000
namespace Go.Proofs.YtplaobhghfndgaaGreatDoor.exactField
open Go
theorem c_place : (Rows.exactFieldRow.inPlace == Tryz.pinned.checked.prog.inPlace 6) = true := by kernel_rfl
theorem c_unf : (Rows.exactFieldRow.unfollowed == Tryz.pinned.checked.prog.unfollowed 6) = true := by kernel_rfl
theorem c_rec : (Rows.exactFieldRow.recurses == Tryz.pinned.checked.prog.recurses 6) = true := by kernel_rfl
theorem c_named : (Rows.exactFieldRow.named == Tryz.pinned.checked.prog.varsNamed 6) = true := by kernel_rfl
end Go.Proofs.YtplaobhghfndgaaGreatDoor.exactField
