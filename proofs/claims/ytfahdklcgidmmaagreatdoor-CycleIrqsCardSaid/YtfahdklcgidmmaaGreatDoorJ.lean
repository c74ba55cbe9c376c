/- Closed facts of the row, each by the kernel by itself. -/
import Derived.Test.YtfahdklcgidmmaaGreatDoorTie
import Derived.Test.YtfahdklcgidmmaaGreatDoorCards
import Derived.JoinedOf
set_option maxRecDepth 100000
namespace Go.Proofs.YtfahdklcgidmmaaGreatDoor
theorem and_i {a b : Bool} (h1 : a = true) (h2 : b = true) : (a && b) = true := by rw [h1, h2]; rfl
theorem j0 : (Rows.cycleIrqsRow.wf (OpenSpec.ofChange Rows.cycleIrqsSpec)) = true := by kernel_rfl
theorem j1 : (laidOutB Tryz.prog) = true := by kernel_rfl
theorem j2 : (mapsRowed Tryz.prog) = true := by kernel_rfl
theorem j3 : (Tryz.f3.params.all (Tryz.prog.readableRec ·)) = true := by kernel_rfl
theorem j4 : (namedTie Tryz.prog Rows.cycleIrqsRow.named Rows.cycleIrqsSpec.vars) = true := by kernel_rfl
theorem j5 : ((Rows.cycleIrqsRow.stops == [])) = true := by kernel_rfl
theorem j6 : ((Tryz.prog.stops == [])) = true := by kernel_rfl
theorem j7 : ((Rows.cycleIrqsRow.knobs == [])) = true := by kernel_rfl
theorem j8 : ((Tryz.prog.stopKnobs == [])) = true := by kernel_rfl
theorem j9 : ((Rows.cycleIrqsRow.inPlace == Tryz.prog.inPlace 3)) = true := by kernel_rfl
theorem j10 : ((Rows.cycleIrqsRow.unfollowed == Tryz.prog.unfollowed 3)) = true := by kernel_rfl
theorem j11 : ((Rows.cycleIrqsRow.recurses == Tryz.prog.recurses 3)) = true := by kernel_rfl
theorem j12 : ((Rows.cycleIrqsRow.named == Tryz.prog.varsNamed 3)) = true := by kernel_rfl
theorem j13 : ((Rows.cycleIrqsRow.maps == (Tryz.f3.params.toList ++ Rows.cycleIrqsSpec.plain.varTypes Tryz.prog).any (Tryz.prog.mapsRec ·))) = true := by kernel_rfl
theorem j14 : ((Rows.cycleIrqsRow.ifaces == (Tryz.f3.params.toList ++ Rows.cycleIrqsSpec.plain.varTypes Tryz.prog).any (Tryz.prog.ifacesRec ·))) = true := by kernel_rfl
theorem j15 : ((Rows.cycleIrqsRow.mapsOut == Tryz.prog.mapsAmong Tryz.f3.resultTypes.toList)) = true := by kernel_rfl
theorem j16 : ((Rows.cycleIrqsRow.loops == (Tryz.f3.params.toList ++ Rows.cycleIrqsSpec.plain.varTypes Tryz.prog).any (Tryz.prog.loopsFrom ·))) = true := by kernel_rfl
theorem j17 : ((Rows.cycleIrqsRow.wideKeys == (Tryz.f3.params.toList ++ Rows.cycleIrqsSpec.plain.varTypes Tryz.prog ++ Tryz.f3.resultTypes.toList).any (Tryz.prog.wideKeysFrom ·))) = true := by kernel_rfl
theorem j18 : (Rows.cycleIrqsSpec.vars.all (Tryz.prog.varReadable ·)) = true := by kernel_rfl
theorem j19 : (Tryz.f3.resultTypes.all (fun t => Tryz.prog.readableRec t && decide (t < Tryz.prog.types.size))) = true := by kernel_rfl
theorem j20 : ((Rows.cycleIrqsRow.ifacesOut == Tryz.f3.resultTypes.toList.any (Tryz.prog.ifacesRec ·))) = true := by kernel_rfl
theorem j21 : ((Rows.cycleIrqsRow.loopsOut == Tryz.f3.resultTypes.toList.any (Tryz.prog.loopsFrom ·))) = true := by kernel_rfl
theorem j22 : ((Rows.cycleIrqsRow.plainKeys == Tryz.prog.plainKeys)) = true := by kernel_rfl
theorem j23 : (Rows.cycleIrqsRow.shortTexts.isNone) = true := by kernel_rfl
theorem j24 : (Tryz.prog.stopsHeard) = true := by kernel_rfl
theorem j25 : (Tryz.prog.mayEnter) = true := by kernel_rfl
theorem j26 : ((Rows.cycleIrqsRow.lifted == Tryz.prog.liftsFinal)) = true := by kernel_rfl
theorem j27 : ((Tryz.prog.make == some Rows.cycleIrqsRow.make)) = true := by kernel_rfl
theorem j28 : ((Rows.cycleIrqsRow.kinds == (if Rows.cycleIrqsRow.domain.isEmpty then [] else Tryz.f3.params.toList.map fun t => match Tryz.prog.underlying t with | some (.int k) => some k | _ => none))) = true := by kernel_rfl
theorem j29 : ((Rows.cycleIrqsRow.pinned == Rows.cycleIrqsRow.pinnedBy)) = true := by kernel_rfl
theorem j30 : ((Rows.cycleIrqsRow.veiled == (Tryz.f3.params.toList ++ Rows.cycleIrqsSpec.plain.varTypes Tryz.prog ++ Tryz.f3.resultTypes.toList).any (Tryz.prog.veiledRec ·))) = true := by kernel_rfl
theorem j31 : (Rows.cycleIrqsRow.veiledFits Tryz.prog Tryz.f3.params.toList (Tryz.f3.params.toList ++ Rows.cycleIrqsSpec.plain.varTypes Tryz.prog ++ Tryz.f3.resultTypes.toList)) = true := by kernel_rfl
theorem closed : joinedFacts Tryz.prog 3 Tryz.f3 Rows.cycleIrqsSpec Rows.cycleIrqsRow = true := (and_i (and_i (and_i (and_i (and_i (and_i (and_i (and_i (and_i (and_i (and_i (and_i (and_i (and_i (and_i (and_i (and_i (and_i (and_i (and_i (and_i (and_i (and_i (and_i (and_i (and_i (and_i (and_i (and_i (and_i (and_i j0 j1) j2) j3) j4) j5) j6) j7) j8) j9) j10) j11) j12) j13) j14) j15) j16) j17) j18) j19) j20) j21) j22) j23) j24) j25) j26) j27) j28) j29) j30) j31)
theorem named_f : Tryz.prog.funcNamed Rows.cycleIrqsRow.func = some 3 := by kernel_rfl
theorem instance_f : Tryz.f3.isInstance Tryz.prog Rows.cycleIrqsRow.origin Rows.cycleIrqsRow.targs := of_decide_eq_true (by kernel_rfl)
theorem wrapper_f : Tryz.f3.isWrapper Tryz.prog Rows.cycleIrqsRow.wrapper Rows.cycleIrqsRow.mainSum := by unfold Func.isWrapper; first | (rw [if_pos (by decide +kernel)]; kernel_rfl) | (rw [if_neg (by decide +kernel)]; exact ⟨rfl, rfl⟩)
theorem wf_text : Rows.cycleIrqsRow.wfByText (OpenSpec.ofChange Rows.cycleIrqsSpec) = true := by kernel_rfl
theorem main_is : Tryz.prog.mainIs = some (true, "8b28bf9e854e7280d09d835a6a96001aa879465830142a2be5ca9ff4d3cc7d97".toList) := by kernel_rfl
theorem goes_by : false = Rows.cycleIrqsRow.goesBy Tryz.prog := by kernel_rfl
theorem looks_f : false = Tryz.prog.looks [] := by kernel_rfl
theorem stand22 : Tryz.prog.wantsStandIn 22 = false := by kernel_rfl
theorem stand23 : Tryz.prog.wantsStandIn 23 = false := by kernel_rfl
end Go.Proofs.YtfahdklcgidmmaaGreatDoor
