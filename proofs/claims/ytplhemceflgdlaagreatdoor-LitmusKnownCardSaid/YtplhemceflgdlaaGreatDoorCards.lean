/-
  DERIVED. GIVEN WITH THE SEED: THE CARDS: each row of YtplhemceflgdlaaGreatDoorRows.lean that lists a variable, with what it lists TIED to the program's text (the seventh form; the later family's looks); each row that meets fmt, with fmt's text TOLD by the authors' own Lean function (tested against real Go, not proved from fmt's source: count such statements apart). THE CARD IS WHAT COUNTS. Prove the row's statement (the work); the ties are given (YtplhemceflgdlaaGreatDoorTie.lean); close each card by the builder's one call (the guide's Derived/Test/ToyasCard.lean, 'card_holds'). Laid BY PROGRAM, IN A SANDBOX (cutbox-door.mjs). By AI agents, Wed Nov 11 2026. No macro, syntax, notation, axiom, sorry.
-/
import Derived.Test.YtplhemceflgdlaaGreatDoorRows
import GoSem.ClaimSeven
namespace Go.Proofs.YtplhemceflgdlaaGreatDoor
namespace Rows

/-- THE TIED CARD OF 'cotterellaw56.LitmusKnown'. -/
def litmusKnownCard : Claim7 := { stood := { row := litmusKnownRow, standIns := [], harness := (true, "390b7a8086a1369bc409207979fe273c8899ad0f767ccd0a2aac69f22e282134"), looks := false }, kinds := [], alts := [], laidByText := true, laidKinds := [.data], laidTests := true, laidLooks := .later }
def LitmusKnownCardSaid : Prop := Claim7.holds Tryz.pinned (.plain (OpenSpec.ofChange litmusKnownSpec)) litmusKnownCard

/-- THE SECOND FORM's CARD OF 'cotterellaw56.LitmusKnown'. -/
def litmusKnownUptoCard : Claim7 := { stood := { row := litmusKnownUptoRow, standIns := [], harness := (true, "390b7a8086a1369bc409207979fe273c8899ad0f767ccd0a2aac69f22e282134"), looks := false }, kinds := [], alts := [], laidByText := true, laidKinds := [.data], laidTests := true, laidLooks := .later }
def LitmusKnownUptoCardSaid : Prop := Claim7.holds Tryz.pinned (.plain (OpenSpec.upto litmusKnownSpec)) litmusKnownUptoCard
end Rows
end Go.Proofs.YtplhemceflgdlaaGreatDoor
