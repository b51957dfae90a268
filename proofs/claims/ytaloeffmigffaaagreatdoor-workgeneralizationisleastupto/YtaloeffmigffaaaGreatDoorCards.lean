/-
  DERIVED. GIVEN WITH THE SEED: THE CARDS: each row of YtaloeffmigffaaaGreatDoorRows.lean that lists a variable, with what it lists TIED to the program's text (the seventh form; the later family's looks); each row that meets fmt, with fmt's text TOLD by the authors' own Lean function (tested against real Go, not proved from fmt's source: count such statements apart). THE CARD IS WHAT COUNTS. Prove the row's statement (the work); the ties are given (YtaloeffmigffaaaGreatDoorTie.lean); close each card by the builder's one call (the guide's Derived/Test/ToyasCard.lean, 'card_holds'). Laid BY PROGRAM, IN A SANDBOX (cutbox-door.mjs). By AI agents, Wed Nov 11 2026. No macro, syntax, notation, axiom, sorry.
-/
import Derived.Test.YtaloeffmigffaaaGreatDoorRows
import GoSem.ClaimSeven
namespace Go.Proofs.YtaloeffmigffaaaGreatDoor
namespace Rows

/-- THE TIED CARD OF 'fetterlocklaw12.WorkGeneralizationIsLeast'. -/
def workGeneralizationIsLeastCard : Claim7 := { stood := { row := workGeneralizationIsLeastRow, standIns := [], harness := (true, "1fdc4a9c82573a49051f91d903402e9e868b5d5cf03cfa19e8e77aa6316273ca"), looks := true }, kinds := [], alts := [], laidByText := true, laidKinds := [.data, .data, .data], laidTests := true, laidLooks := .later }
def WorkGeneralizationIsLeastCardSaid : Prop := Claim7.holds Tryz.pinned (.plain (OpenSpec.ofChange workGeneralizationIsLeastSpec)) workGeneralizationIsLeastCard

/-- THE SECOND FORM's CARD OF 'fetterlocklaw12.WorkGeneralizationIsLeast'. -/
def workGeneralizationIsLeastUptoCard : Claim7 := { stood := { row := workGeneralizationIsLeastUptoRow, standIns := [], harness := (true, "1fdc4a9c82573a49051f91d903402e9e868b5d5cf03cfa19e8e77aa6316273ca"), looks := true }, kinds := [], alts := [], laidByText := true, laidKinds := [.data, .data, .data], laidTests := true, laidLooks := .later }
def WorkGeneralizationIsLeastUptoCardSaid : Prop := Claim7.holds Tryz.pinned (.plain (OpenSpec.upto workGeneralizationIsLeastSpec)) workGeneralizationIsLeastUptoCard
end Rows
end Go.Proofs.YtaloeffmigffaaaGreatDoor
