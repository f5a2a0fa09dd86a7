import Derived.Test.YtplaobhghfndgaaGreatDoorLift
import Derived.JoinedCond
/-! ExactOrder: the closed facts of what its code comes to. -/
set_option maxRecDepth 100000
namespace Go.Proofs.YtplaobhghfndgaaGreatDoor.exactOrder
open Go
theorem c_place : (Rows.exactOrderRow.inPlace == Tryz.pinned.checked.prog.inPlace 10) = true := by kernel_rfl
theorem c_unf : (Rows.exactOrderRow.unfollowed == Tryz.pinned.checked.prog.unfollowed 10) = true := by kernel_rfl
theorem c_rec : (Rows.exactOrderRow.recurses == Tryz.pinned.checked.prog.recurses 10) = true := by kernel_rfl
theorem c_named : (Rows.exactOrderRow.named == Tryz.pinned.checked.prog.varsNamed 10) = true := by kernel_rfl
end Go.Proofs.YtplaobhghfndgaaGreatDoor.exactOrder
