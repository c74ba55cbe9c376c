/- Closed facts of the row, each by the kernel by itself, part c. -/
import Derived.Test.YtoppeebbioalcaaGreatDoorTie
import Derived.Test.YtoppeebbioalcaaGreatDoorCards
import Derived.JoinedOf
set_option maxRecDepth 100000
namespace Go.Proofs.YtoppeebbioalcaaGreatDoor
theorem j16 : ((Rows.cycleStillRow.loops == (Tryz.f3.params.toList ++ Rows.cycleStillSpec.plain.varTypes Tryz.prog).any (Tryz.prog.loopsFrom ·))) = true := by kernel_rfl
theorem j17 : ((Rows.cycleStillRow.wideKeys == (Tryz.f3.params.toList ++ Rows.cycleStillSpec.plain.varTypes Tryz.prog ++ Tryz.f3.resultTypes.toList).any (Tryz.prog.wideKeysFrom ·))) = true := by kernel_rfl
theorem j18 : (Rows.cycleStillSpec.vars.all (Tryz.prog.varReadable ·)) = true := by kernel_rfl
end Go.Proofs.YtoppeebbioalcaaGreatDoor
