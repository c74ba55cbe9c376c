/-
  DERIVED. GIVEN WITH THE SEED: THE CARDS: each row of YtoppeebbioalcaaGreatDoorRows.lean that lists a variable, with what it lists TIED to the program's text (the seventh form; the later family's looks); each row that meets fmt, with fmt's text TOLD by the authors' own Lean function (tested against real Go, not proved from fmt's source: count such statements apart). THE CARD IS WHAT COUNTS. Prove the row's statement (the work); the ties are given (YtoppeebbioalcaaGreatDoorTie.lean); close each card by the builder's one call (the guide's Derived/Test/ToyasCard.lean, 'card_holds'). Laid BY PROGRAM, IN A SANDBOX (cutbox-door.mjs). By AI agents, Wed Nov 11 2026. No macro, syntax, notation, axiom, sorry.
-/
import Derived.Test.YtoppeebbioalcaaGreatDoorRows
import GoSem.ClaimSeven
namespace Go.Proofs.YtoppeebbioalcaaGreatDoor
namespace Rows

/-- THE TIED CARD OF 'cotterellaw50.CycleStill'. -/
def cycleStillCard : Claim7 := { stood := { row := cycleStillRow, standIns := [], harness := (true, "72eb907db78c7b8554c96f790c3dd88f5db3a56c3166ce0d0d5e0a4e8eb8c34d"), looks := false }, kinds := [], alts := [], laidByText := true, laidKinds := [.data], laidTests := true, laidLooks := .later }
def CycleStillCardSaid : Prop := Claim7.holds Tryz.pinned (.plain (OpenSpec.ofChange cycleStillSpec)) cycleStillCard

/-- THE SECOND FORM's CARD OF 'cotterellaw50.CycleStill'. -/
def cycleStillUptoCard : Claim7 := { stood := { row := cycleStillUptoRow, standIns := [], harness := (true, "72eb907db78c7b8554c96f790c3dd88f5db3a56c3166ce0d0d5e0a4e8eb8c34d"), looks := false }, kinds := [], alts := [], laidByText := true, laidKinds := [.data], laidTests := true, laidLooks := .later }
def CycleStillUptoCardSaid : Prop := Claim7.holds Tryz.pinned (.plain (OpenSpec.upto cycleStillSpec)) cycleStillUptoCard
end Rows
end Go.Proofs.YtoppeebbioalcaaGreatDoor
