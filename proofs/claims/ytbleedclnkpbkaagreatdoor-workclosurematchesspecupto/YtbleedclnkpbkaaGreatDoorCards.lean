/-
  DERIVED. GIVEN WITH THE SEED: THE CARDS: each row of YtbleedclnkpbkaaGreatDoorRows.lean that lists a variable, with what it lists TIED to the program's text (the seventh form; the later family's looks); each row that meets fmt, with fmt's text TOLD by the authors' own Lean function (tested against real Go, not proved from fmt's source: count such statements apart). THE CARD IS WHAT COUNTS. Prove the row's statement (the work); the ties are given (YtbleedclnkpbkaaGreatDoorTie.lean); close each card by the builder's one call (the guide's Derived/Test/ToyasCard.lean, 'card_holds'). Laid BY PROGRAM, IN A SANDBOX (cutbox-door.mjs). By AI agents, Wed Nov 11 2026. No macro, syntax, notation, axiom, sorry.
-/
import Derived.Test.YtbleedclnkpbkaaGreatDoorRows
import GoSem.ClaimSeven
namespace Go.Proofs.YtbleedclnkpbkaaGreatDoor
namespace Rows

/-- THE TIED CARD OF 'fetterlocklaw12.WorkClosureMatchesSpec'. -/
def workClosureMatchesSpecCard : Claim7 := { stood := { row := workClosureMatchesSpecRow, standIns := [], harness := (true, "514885ae4c92c1002f5e9cc04829dad141627eeffc6f88c7bcfbe42d6e74979b"), looks := true }, kinds := [], alts := [], laidByText := true, laidKinds := [.data, .data, .data], laidTests := true, laidLooks := .later }
def WorkClosureMatchesSpecCardSaid : Prop := Claim7.holds Tryz.pinned (.plain (OpenSpec.ofChange workClosureMatchesSpecSpec)) workClosureMatchesSpecCard

/-- THE SECOND FORM's CARD OF 'fetterlocklaw12.WorkClosureMatchesSpec'. -/
def workClosureMatchesSpecUptoCard : Claim7 := { stood := { row := workClosureMatchesSpecUptoRow, standIns := [], harness := (true, "514885ae4c92c1002f5e9cc04829dad141627eeffc6f88c7bcfbe42d6e74979b"), looks := true }, kinds := [], alts := [], laidByText := true, laidKinds := [.data, .data, .data], laidTests := true, laidLooks := .later }
def WorkClosureMatchesSpecUptoCardSaid : Prop := Claim7.holds Tryz.pinned (.plain (OpenSpec.upto workClosureMatchesSpecSpec)) workClosureMatchesSpecUptoCard
end Rows
end Go.Proofs.YtbleedclnkpbkaaGreatDoor
