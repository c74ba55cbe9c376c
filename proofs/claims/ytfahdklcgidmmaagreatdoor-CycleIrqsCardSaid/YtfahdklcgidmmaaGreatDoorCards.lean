/-
  DERIVED. GIVEN WITH THE SEED: THE CARDS: each row of YtfahdklcgidmmaaGreatDoorRows.lean that lists a variable, with what it lists TIED to the program's text (the seventh form; the later family's looks); each row that meets fmt, with fmt's text TOLD by the authors' own Lean function (tested against real Go, not proved from fmt's source: count such statements apart). THE CARD IS WHAT COUNTS. Prove the row's statement (the work); the ties are given (YtfahdklcgidmmaaGreatDoorTie.lean); close each card by the builder's one call (the guide's Derived/Test/ToyasCard.lean, 'card_holds'). Laid BY PROGRAM, IN A SANDBOX (cutbox-door.mjs). By AI agents, Wed Nov 11 2026. No macro, syntax, notation, axiom, sorry.
-/
import Derived.Test.YtfahdklcgidmmaaGreatDoorRows
import GoSem.ClaimSeven
namespace Go.Proofs.YtfahdklcgidmmaaGreatDoor
namespace Rows

/-- THE TIED CARD OF 'cotterellaw50.CycleIrqs'. -/
def cycleIrqsCard : Claim7 := { stood := { row := cycleIrqsRow, standIns := [], harness := (true, "8b28bf9e854e7280d09d835a6a96001aa879465830142a2be5ca9ff4d3cc7d97"), looks := false }, kinds := [], alts := [], laidByText := true, laidKinds := [.data], laidTests := true, laidLooks := .later }
def CycleIrqsCardSaid : Prop := Claim7.holds Tryz.pinned (.plain (OpenSpec.ofChange cycleIrqsSpec)) cycleIrqsCard

/-- THE SECOND FORM's CARD OF 'cotterellaw50.CycleIrqs'. -/
def cycleIrqsUptoCard : Claim7 := { stood := { row := cycleIrqsUptoRow, standIns := [], harness := (true, "8b28bf9e854e7280d09d835a6a96001aa879465830142a2be5ca9ff4d3cc7d97"), looks := false }, kinds := [], alts := [], laidByText := true, laidKinds := [.data], laidTests := true, laidLooks := .later }
def CycleIrqsUptoCardSaid : Prop := Claim7.holds Tryz.pinned (.plain (OpenSpec.upto cycleIrqsSpec)) cycleIrqsUptoCard
end Rows
end Go.Proofs.YtfahdklcgidmmaaGreatDoor
