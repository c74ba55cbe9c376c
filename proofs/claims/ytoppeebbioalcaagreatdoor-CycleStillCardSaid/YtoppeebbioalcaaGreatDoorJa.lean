/- Closed facts of the row, each by the kernel by itself, part a. -/
import Derived.Test.YtoppeebbioalcaaGreatDoorTie
import Derived.Test.YtoppeebbioalcaaGreatDoorCards
import Derived.JoinedOf
set_option maxRecDepth 100000
namespace Go.Proofs.YtoppeebbioalcaaGreatDoor
theorem j0 : (Rows.cycleStillRow.wf (OpenSpec.ofChange Rows.cycleStillSpec)) = true := by kernel_rfl
theorem j3 : (Tryz.f3.params.all (Tryz.prog.readableRec ·)) = true := by kernel_rfl
end Go.Proofs.YtoppeebbioalcaaGreatDoor
