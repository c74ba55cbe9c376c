/- Closed facts of the row, each by the kernel by itself, part d. -/
import Derived.Test.YtoppeebbioalcaaGreatDoorTie
import Derived.Test.YtoppeebbioalcaaGreatDoorCards
import Derived.JoinedOf
set_option maxRecDepth 100000
namespace Go.Proofs.YtoppeebbioalcaaGreatDoor
theorem j1 : (laidOutB Tryz.prog) = true := by kernel_rfl
theorem j2 : (mapsRowed Tryz.prog) = true := by kernel_rfl
theorem j4 : (namedTie Tryz.prog Rows.cycleStillRow.named Rows.cycleStillSpec.vars) = true := by kernel_rfl
theorem j5 : ((Rows.cycleStillRow.stops == [])) = true := by kernel_rfl
theorem j19 : (Tryz.f3.resultTypes.all (fun t => Tryz.prog.readableRec t && decide (t < Tryz.prog.types.size))) = true := by kernel_rfl
theorem j20 : ((Rows.cycleStillRow.ifacesOut == Tryz.f3.resultTypes.toList.any (Tryz.prog.ifacesRec ·))) = true := by kernel_rfl
theorem j21 : ((Rows.cycleStillRow.loopsOut == Tryz.f3.resultTypes.toList.any (Tryz.prog.loopsFrom ·))) = true := by kernel_rfl
theorem j22 : ((Rows.cycleStillRow.plainKeys == Tryz.prog.plainKeys)) = true := by kernel_rfl
theorem j23 : (Rows.cycleStillRow.shortTexts.isNone) = true := by kernel_rfl
theorem j24 : (Tryz.prog.stopsHeard) = true := by kernel_rfl
theorem j25 : (Tryz.prog.mayEnter) = true := by kernel_rfl
theorem j26 : ((Rows.cycleStillRow.lifted == Tryz.prog.liftsFinal)) = true := by kernel_rfl
theorem j27 : ((Tryz.prog.make == some Rows.cycleStillRow.make)) = true := by kernel_rfl
theorem j28 : ((Rows.cycleStillRow.kinds == (if Rows.cycleStillRow.domain.isEmpty then [] else Tryz.f3.params.toList.map fun t => match Tryz.prog.underlying t with | some (.int k) => some k | _ => none))) = true := by kernel_rfl
theorem j29 : ((Rows.cycleStillRow.pinned == Rows.cycleStillRow.pinnedBy)) = true := by kernel_rfl
theorem j30 : ((Rows.cycleStillRow.veiled == (Tryz.f3.params.toList ++ Rows.cycleStillSpec.plain.varTypes Tryz.prog ++ Tryz.f3.resultTypes.toList).any (Tryz.prog.veiledRec ·))) = true := by kernel_rfl
theorem j31 : (Rows.cycleStillRow.veiledFits Tryz.prog Tryz.f3.params.toList (Tryz.f3.params.toList ++ Rows.cycleStillSpec.plain.varTypes Tryz.prog ++ Tryz.f3.resultTypes.toList)) = true := by kernel_rfl
end Go.Proofs.YtoppeebbioalcaaGreatDoor
