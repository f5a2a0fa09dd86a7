import Derived.Test.YtplaobhghfndgaaGreatDoorLift
import Derived.JoinedCond
/-! ExactSquares: the closed facts of what its code comes to. -/
set_option maxRecDepth 100000
namespace Go.Proofs.YtplaobhghfndgaaGreatDoor.exactSquares
open Go
theorem c_place : (Rows.exactSquaresRow.inPlace == Tryz.pinned.checked.prog.inPlace 11) = true := by kernel_rfl
theorem c_unf : (Rows.exactSquaresRow.unfollowed == Tryz.pinned.checked.prog.unfollowed 11) = true := by kernel_rfl
theorem c_rec : (Rows.exactSquaresRow.recurses == Tryz.pinned.checked.prog.recurses 11) = true := by kernel_rfl
theorem c_named : (Rows.exactSquaresRow.named == Tryz.pinned.checked.prog.varsNamed 11) = true := by kernel_rfl
end Go.Proofs.YtplaobhghfndgaaGreatDoor.exactSquares
