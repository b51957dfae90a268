/-
  DERIVED. GIVEN WITH THE SEED: THE CARDS: each row of YtcbgbiddkkfjmaaGreatDoorRows.lean that lists a variable, with what it lists TIED to the program's text (the seventh form; the later family's looks); each row that meets fmt, with fmt's text TOLD by the authors' own Lean function (tested against real Go, not proved from fmt's source: count such statements apart). THE CARD IS WHAT COUNTS. Prove the row's statement (the work); the ties are given (YtcbgbiddkkfjmaaGreatDoorTie.lean); close each card by the builder's one call (the guide's Derived/Test/ToyasCard.lean, 'card_holds'). Laid BY PROGRAM, IN A SANDBOX (cutbox-door.mjs). By AI agents, Wed Nov 11 2026. No macro, syntax, notation, axiom, sorry.
-/
import Derived.Test.YtcbgbiddkkfjmaaGreatDoorRows
import GoSem.ClaimSeven
namespace Go.Proofs.YtcbgbiddkkfjmaaGreatDoor
namespace Rows

/-- THE TIED CARD OF 'fetterlocklaw12.WorkComposeIsAssociative'. -/
def workComposeIsAssociativeCard : Claim7 := { stood := { row := workComposeIsAssociativeRow, standIns := [], harness := (true, "c587c9847646c3b788ac080f3c0678fc1938eb481134679bbe2ae21b1af7a287"), looks := true }, kinds := [], alts := [], laidByText := true, laidKinds := [.data, .data, .data], laidTests := true, laidLooks := .later }
def WorkComposeIsAssociativeCardSaid : Prop := Claim7.holds Tryz.pinned (.plain (OpenSpec.ofChange workComposeIsAssociativeSpec)) workComposeIsAssociativeCard

/-- THE SECOND FORM's CARD OF 'fetterlocklaw12.WorkComposeIsAssociative'. -/
def workComposeIsAssociativeUptoCard : Claim7 := { stood := { row := workComposeIsAssociativeUptoRow, standIns := [], harness := (true, "c587c9847646c3b788ac080f3c0678fc1938eb481134679bbe2ae21b1af7a287"), looks := true }, kinds := [], alts := [], laidByText := true, laidKinds := [.data, .data, .data], laidTests := true, laidLooks := .later }
def WorkComposeIsAssociativeUptoCardSaid : Prop := Claim7.holds Tryz.pinned (.plain (OpenSpec.upto workComposeIsAssociativeSpec)) workComposeIsAssociativeUptoCard
end Rows
end Go.Proofs.YtcbgbiddkkfjmaaGreatDoor
