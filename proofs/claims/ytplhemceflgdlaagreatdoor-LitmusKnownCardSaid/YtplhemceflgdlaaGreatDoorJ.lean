/- Closed facts of the row, each by the kernel by itself. -/
import Derived.Test.YtplhemceflgdlaaGreatDoorTie
import Derived.Test.YtplhemceflgdlaaGreatDoorCards
import Derived.JoinedOf
set_option maxRecDepth 100000
namespace Go.Proofs.YtplhemceflgdlaaGreatDoor
theorem and_i {a b : Bool} (h1 : a = true) (h2 : b = true) : (a && b) = true := by rw [h1, h2]; rfl
theorem j0 : (Rows.litmusKnownRow.wf (OpenSpec.ofChange Rows.litmusKnownSpec)) = true := by kernel_rfl
theorem j1 : (laidOutB Tryz.prog) = true := by kernel_rfl
theorem j2 : (mapsRowed Tryz.prog) = true := by kernel_rfl
theorem j3 : (Tryz.f3.params.all (Tryz.prog.readableRec ·)) = true := by kernel_rfl
theorem j4 : (namedTie Tryz.prog Rows.litmusKnownRow.named Rows.litmusKnownSpec.vars) = true := by kernel_rfl
theorem j5 : ((Rows.litmusKnownRow.stops == [])) = true := by kernel_rfl
theorem j6 : ((Tryz.prog.stops == [])) = true := by kernel_rfl
theorem j7 : ((Rows.litmusKnownRow.knobs == [])) = true := by kernel_rfl
theorem j8 : ((Tryz.prog.stopKnobs == [])) = true := by kernel_rfl
theorem j9 : ((Rows.litmusKnownRow.inPlace == Tryz.prog.inPlace 3)) = true := by kernel_rfl
theorem j10 : ((Rows.litmusKnownRow.unfollowed == Tryz.prog.unfollowed 3)) = true := by kernel_rfl
theorem j11 : ((Rows.litmusKnownRow.recurses == Tryz.prog.recurses 3)) = true := by kernel_rfl
theorem j12 : ((Rows.litmusKnownRow.named == Tryz.prog.varsNamed 3)) = true := by kernel_rfl
theorem j13 : ((Rows.litmusKnownRow.maps == (Tryz.f3.params.toList ++ Rows.litmusKnownSpec.plain.varTypes Tryz.prog).any (Tryz.prog.mapsRec ·))) = true := by kernel_rfl
theorem j14 : ((Rows.litmusKnownRow.ifaces == (Tryz.f3.params.toList ++ Rows.litmusKnownSpec.plain.varTypes Tryz.prog).any (Tryz.prog.ifacesRec ·))) = true := by kernel_rfl
theorem j15 : ((Rows.litmusKnownRow.mapsOut == Tryz.prog.mapsAmong Tryz.f3.resultTypes.toList)) = true := by kernel_rfl
theorem j16 : ((Rows.litmusKnownRow.loops == (Tryz.f3.params.toList ++ Rows.litmusKnownSpec.plain.varTypes Tryz.prog).any (Tryz.prog.loopsFrom ·))) = true := by kernel_rfl
theorem j17 : ((Rows.litmusKnownRow.wideKeys == (Tryz.f3.params.toList ++ Rows.litmusKnownSpec.plain.varTypes Tryz.prog ++ Tryz.f3.resultTypes.toList).any (Tryz.prog.wideKeysFrom ·))) = true := by kernel_rfl
theorem j18 : (Rows.litmusKnownSpec.vars.all (Tryz.prog.varReadable ·)) = true := by kernel_rfl
theorem j19 : (Tryz.f3.resultTypes.all (fun t => Tryz.prog.readableRec t && decide (t < Tryz.prog.types.size))) = true := by kernel_rfl
theorem j20 : ((Rows.litmusKnownRow.ifacesOut == Tryz.f3.resultTypes.toList.any (Tryz.prog.ifacesRec ·))) = true := by kernel_rfl
theorem j21 : ((Rows.litmusKnownRow.loopsOut == Tryz.f3.resultTypes.toList.any (Tryz.prog.loopsFrom ·))) = true := by kernel_rfl
theorem j22 : ((Rows.litmusKnownRow.plainKeys == Tryz.prog.plainKeys)) = true := by kernel_rfl
theorem j23 : (Rows.litmusKnownRow.shortTexts.isNone) = true := by kernel_rfl
theorem j24 : (Tryz.prog.stopsHeard) = true := by kernel_rfl
theorem j25 : (Tryz.prog.mayEnter) = true := by kernel_rfl
theorem j26 : ((Rows.litmusKnownRow.lifted == Tryz.prog.liftsFinal)) = true := by kernel_rfl
theorem j27 : ((Tryz.prog.make == some Rows.litmusKnownRow.make)) = true := by kernel_rfl
theorem j28 : ((Rows.litmusKnownRow.kinds == (if Rows.litmusKnownRow.domain.isEmpty then [] else Tryz.f3.params.toList.map fun t => match Tryz.prog.underlying t with | some (.int k) => some k | _ => none))) = true := by kernel_rfl
theorem j29 : ((Rows.litmusKnownRow.pinned == Rows.litmusKnownRow.pinnedBy)) = true := by kernel_rfl
theorem j30 : ((Rows.litmusKnownRow.veiled == (Tryz.f3.params.toList ++ Rows.litmusKnownSpec.plain.varTypes Tryz.prog ++ Tryz.f3.resultTypes.toList).any (Tryz.prog.veiledRec ·))) = true := by kernel_rfl
theorem j31 : (Rows.litmusKnownRow.veiledFits Tryz.prog Tryz.f3.params.toList (Tryz.f3.params.toList ++ Rows.litmusKnownSpec.plain.varTypes Tryz.prog ++ Tryz.f3.resultTypes.toList)) = true := by kernel_rfl
theorem closed : joinedFacts Tryz.prog 3 Tryz.f3 Rows.litmusKnownSpec Rows.litmusKnownRow = true := (and_i (and_i (and_i (and_i (and_i (and_i (and_i (and_i (and_i (and_i (and_i (and_i (and_i (and_i (and_i (and_i (and_i (and_i (and_i (and_i (and_i (and_i (and_i (and_i (and_i (and_i (and_i (and_i (and_i (and_i (and_i j0 j1) j2) j3) j4) j5) j6) j7) j8) j9) j10) j11) j12) j13) j14) j15) j16) j17) j18) j19) j20) j21) j22) j23) j24) j25) j26) j27) j28) j29) j30) j31)
theorem named_f : Tryz.prog.funcNamed Rows.litmusKnownRow.func = some 3 := by kernel_rfl
theorem instance_f : Tryz.f3.isInstance Tryz.prog Rows.litmusKnownRow.origin Rows.litmusKnownRow.targs := of_decide_eq_true (by kernel_rfl)
theorem wrapper_f : Tryz.f3.isWrapper Tryz.prog Rows.litmusKnownRow.wrapper Rows.litmusKnownRow.mainSum := by unfold Func.isWrapper; first | (rw [if_pos (by decide +kernel)]; kernel_rfl) | (rw [if_neg (by decide +kernel)]; exact ⟨rfl, rfl⟩)
theorem wf_text : Rows.litmusKnownRow.wfByText (OpenSpec.ofChange Rows.litmusKnownSpec) = true := by kernel_rfl
theorem main_is : Tryz.prog.mainIs = some (true, "390b7a8086a1369bc409207979fe273c8899ad0f767ccd0a2aac69f22e282134".toList) := by kernel_rfl
theorem goes_by : false = Rows.litmusKnownRow.goesBy Tryz.prog := by kernel_rfl
theorem looks_f : false = Tryz.prog.looks [] := by kernel_rfl
theorem stand9 : Tryz.prog.wantsStandIn 9 = false := by kernel_rfl
end Go.Proofs.YtplhemceflgdlaaGreatDoor
