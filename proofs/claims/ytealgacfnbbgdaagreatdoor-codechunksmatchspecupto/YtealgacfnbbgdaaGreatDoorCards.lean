/-
  DERIVED. GIVEN WITH THE SEED: THE CARDS: each row of YtealgacfnbbgdaaGreatDoorRows.lean that lists a variable, with what it lists TIED to the program's text (the seventh form; the later family's looks); each row that meets fmt, with fmt's text TOLD by the authors' own Lean function (tested against real Go, not proved from fmt's source: count such statements apart). THE CARD IS WHAT COUNTS. Prove the row's statement (the work); the ties are given (YtealgacfnbbgdaaGreatDoorTie.lean); close each card by the builder's one call (the guide's Derived/Test/ToyasCard.lean, 'card_holds'). Laid BY PROGRAM, IN A SANDBOX (cutbox-door.mjs). By AI agents, Wed Nov 11 2026. No macro, syntax, notation, axiom, sorry.
-/
import Derived.Test.YtealgacfnbbgdaaGreatDoorRows
import GoSem.ClaimSeven
namespace Go.Proofs.YtealgacfnbbgdaaGreatDoor
namespace Rows

/-- THE TIED CARD OF 'fetterlocklaw10.CodeChunksMatchSpec'. -/
def codeChunksMatchSpecCard : Claim7 := { stood := { row := codeChunksMatchSpecRow, standIns := [], harness := (true, "f13a5598dad7b30885dd37a02bfc91529c6d6e72895726bfb7c76d9bce657546"), looks := false }, kinds := [], alts := [], laidByText := true, laidKinds := [.data, .data, .data, .data, .listed, .data, .data, .data, .pinned], laidTests := true, laidLooks := .later }
def CodeChunksMatchSpecCardSaid : Prop := Claim7.holds Tryz.pinned (.plain (OpenSpec.ofChange codeChunksMatchSpecSpec)) codeChunksMatchSpecCard

/-- THE SECOND FORM's CARD OF 'fetterlocklaw10.CodeChunksMatchSpec'. -/
def codeChunksMatchSpecUptoCard : Claim7 := { stood := { row := codeChunksMatchSpecUptoRow, standIns := [], harness := (true, "f13a5598dad7b30885dd37a02bfc91529c6d6e72895726bfb7c76d9bce657546"), looks := false }, kinds := [], alts := [], laidByText := true, laidKinds := [.data, .data, .data, .data, .listed, .data, .data, .data, .pinned], laidTests := true, laidLooks := .later }
def CodeChunksMatchSpecUptoCardSaid : Prop := Claim7.holds Tryz.pinned (.plain (OpenSpec.upto codeChunksMatchSpecSpec)) codeChunksMatchSpecUptoCard
end Rows
end Go.Proofs.YtealgacfnbbgdaaGreatDoor
