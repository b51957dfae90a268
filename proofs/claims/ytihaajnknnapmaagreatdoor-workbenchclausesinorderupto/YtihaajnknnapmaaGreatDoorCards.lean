/-
  DERIVED. GIVEN WITH THE SEED: THE CARDS: each row of YtihaajnknnapmaaGreatDoorRows.lean that lists a variable, with what it lists TIED to the program's text (the seventh form; the later family's looks); each row that meets fmt, with fmt's text TOLD by the authors' own Lean function (tested against real Go, not proved from fmt's source: count such statements apart). THE CARD IS WHAT COUNTS. Prove the row's statement (the work); the ties are given (YtihaajnknnapmaaGreatDoorTie.lean); close each card by the builder's one call (the guide's Derived/Test/ToyasCard.lean, 'card_holds'). Laid BY PROGRAM, IN A SANDBOX (cutbox-door.mjs). By AI agents, Wed Nov 11 2026. No macro, syntax, notation, axiom, sorry.
-/
import Derived.Test.YtihaajnknnapmaaGreatDoorRows
import GoSem.ClaimSeven
namespace Go.Proofs.YtihaajnknnapmaaGreatDoor
namespace Rows

/-- THE TIED CARD OF 'fetterlocklaw12.WorkbenchClausesInOrder'. -/
def workbenchClausesInOrderCard : Claim7 := { stood := { row := workbenchClausesInOrderRow, standIns := [], harness := (true, "c8386f830ccfc02bb984dee67d04751468bfedec804ac03de777f531e797dea4"), looks := true }, kinds := [], alts := [], laidByText := true, laidKinds := [.data, .data, .data, .data, .listed, .data, .data, .data, .pinned], laidTests := true, laidLooks := .later }
def WorkbenchClausesInOrderCardSaid : Prop := Claim7.holds Tryz.pinned (.plain (OpenSpec.ofChange workbenchClausesInOrderSpec)) workbenchClausesInOrderCard

/-- THE SECOND FORM's CARD OF 'fetterlocklaw12.WorkbenchClausesInOrder'. -/
def workbenchClausesInOrderUptoCard : Claim7 := { stood := { row := workbenchClausesInOrderUptoRow, standIns := [], harness := (true, "c8386f830ccfc02bb984dee67d04751468bfedec804ac03de777f531e797dea4"), looks := true }, kinds := [], alts := [], laidByText := true, laidKinds := [.data, .data, .data, .data, .listed, .data, .data, .data, .pinned], laidTests := true, laidLooks := .later }
def WorkbenchClausesInOrderUptoCardSaid : Prop := Claim7.holds Tryz.pinned (.plain (OpenSpec.upto workbenchClausesInOrderSpec)) workbenchClausesInOrderUptoCard
end Rows
end Go.Proofs.YtihaajnknnapmaaGreatDoor
