/- Closed facts of the row, each by the kernel by itself, part b. -/
import Derived.Test.YtoppeebbioalcaaGreatDoorTie
import Derived.Test.YtoppeebbioalcaaGreatDoorCards
import Derived.JoinedOf
set_option maxRecDepth 100000
namespace Go.Proofs.YtoppeebbioalcaaGreatDoor
theorem j6 : ((Tryz.prog.stops == [])) = true := by kernel_rfl
theorem j7 : ((Rows.cycleStillRow.knobs == [])) = true := by kernel_rfl
theorem j8 : ((Tryz.prog.stopKnobs == [])) = true := by kernel_rfl
theorem j9 : ((Rows.cycleStillRow.inPlace == Tryz.prog.inPlace 3)) = true := by kernel_rfl
theorem j10 : ((Rows.cycleStillRow.unfollowed == Tryz.prog.unfollowed 3)) = true := by kernel_rfl
theorem j11 : ((Rows.cycleStillRow.recurses == Tryz.prog.recurses 3)) = true := by kernel_rfl
theorem j12 : ((Rows.cycleStillRow.named == Tryz.prog.varsNamed 3)) = true := by kernel_rfl
theorem j13 : ((Rows.cycleStillRow.maps == (Tryz.f3.params.toList ++ Rows.cycleStillSpec.plain.varTypes Tryz.prog).any (Tryz.prog.mapsRec ·))) = true := by kernel_rfl
theorem j14 : ((Rows.cycleStillRow.ifaces == (Tryz.f3.params.toList ++ Rows.cycleStillSpec.plain.varTypes Tryz.prog).any (Tryz.prog.ifacesRec ·))) = true := by kernel_rfl
theorem j15 : ((Rows.cycleStillRow.mapsOut == Tryz.prog.mapsAmong Tryz.f3.resultTypes.toList)) = true := by kernel_rfl
end Go.Proofs.YtoppeebbioalcaaGreatDoor
