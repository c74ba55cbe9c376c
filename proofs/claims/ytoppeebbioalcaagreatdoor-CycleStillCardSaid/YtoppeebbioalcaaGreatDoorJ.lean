/- Closed facts of the row, each by the kernel by itself. -/
import Derived.Test.YtoppeebbioalcaaGreatDoorJa
import Derived.Test.YtoppeebbioalcaaGreatDoorJb
import Derived.Test.YtoppeebbioalcaaGreatDoorJc
import Derived.Test.YtoppeebbioalcaaGreatDoorJd
import Derived.Test.YtoppeebbioalcaaGreatDoorTie
import Derived.Test.YtoppeebbioalcaaGreatDoorCards
import Derived.JoinedOf
set_option maxRecDepth 100000
namespace Go.Proofs.YtoppeebbioalcaaGreatDoor
theorem and_i {a b : Bool} (h1 : a = true) (h2 : b = true) : (a && b) = true := by rw [h1, h2]; rfl
theorem closed : joinedFacts Tryz.prog 3 Tryz.f3 Rows.cycleStillSpec Rows.cycleStillRow = true := (and_i (and_i (and_i (and_i (and_i (and_i (and_i (and_i (and_i (and_i (and_i (and_i (and_i (and_i (and_i (and_i (and_i (and_i (and_i (and_i (and_i (and_i (and_i (and_i (and_i (and_i (and_i (and_i (and_i (and_i (and_i j0 j1) j2) j3) j4) j5) j6) j7) j8) j9) j10) j11) j12) j13) j14) j15) j16) j17) j18) j19) j20) j21) j22) j23) j24) j25) j26) j27) j28) j29) j30) j31)
theorem named_f : Tryz.prog.funcNamed Rows.cycleStillRow.func = some 3 := by kernel_rfl
theorem instance_f : Tryz.f3.isInstance Tryz.prog Rows.cycleStillRow.origin Rows.cycleStillRow.targs := of_decide_eq_true (by kernel_rfl)
theorem wrapper_f : Tryz.f3.isWrapper Tryz.prog Rows.cycleStillRow.wrapper Rows.cycleStillRow.mainSum := by unfold Func.isWrapper; first | (rw [if_pos (by decide +kernel)]; kernel_rfl) | (rw [if_neg (by decide +kernel)]; exact ⟨rfl, rfl⟩)
theorem wf_text : Rows.cycleStillRow.wfByText (OpenSpec.ofChange Rows.cycleStillSpec) = true := by kernel_rfl
theorem main_is : Tryz.prog.mainIs = some (true, "72eb907db78c7b8554c96f790c3dd88f5db3a56c3166ce0d0d5e0a4e8eb8c34d".toList) := by kernel_rfl
theorem none_goes : Tryz.prog.funcs.any Func.goes = false := by kernel_rfl
theorem no_goes {P : Program} (h : P.funcs.any Func.goes = false) (f : FuncId) : P.goes f = false := by
  unfold Program.goes
  rw [h, Bool.and_false, Bool.or_false, Bool.eq_false_iff]
  intro hc
  obtain ⟨g, _, hg⟩ := List.any_eq_true.1 hc
  cases hf : P.funcs[g]? with
  | none => rw [hf] at hg; cases hg
  | some fn =>
    rw [hf] at hg
    obtain ⟨hlt, he⟩ := Array.getElem?_eq_some_iff.1 hf
    rw [Bool.eq_false_iff] at h
    exact h (Array.any_eq_true.2 ⟨g, hlt, by rw [he]; exact hg⟩)
theorem goes_by : false = Rows.cycleStillRow.goesBy Tryz.prog := by
  have e : ∀ f, Tryz.prog.goes f = false := no_goes none_goes
  unfold OpenClaim.goesBy Program.goesAt Program.goesFrom
  cases h : Tryz.prog.funcNamed Rows.cycleStillRow.func with
  | none =>
    simp only [Option.any_none, Bool.false_or]
    split
    · rfl
    · simp [e]
  | some f =>
    simp only [Option.any_some, e, Bool.false_or]
    split
    · rfl
    · simp [e]
theorem looks_f : false = Tryz.prog.looks [] := by kernel_rfl
theorem stand54 : Tryz.prog.wantsStandIn 54 = false := by kernel_rfl
theorem stand57 : Tryz.prog.wantsStandIn 57 = false := by kernel_rfl
theorem stand3 : Tryz.prog.wantsStandIn 3 = false := by kernel_rfl
end Go.Proofs.YtoppeebbioalcaaGreatDoor
