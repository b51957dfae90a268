/-
  DERIVED. GIVEN WITH THE SEED: THE CARDS: each row of YtkacnifdhfffmaaGreatDoorRows.lean that lists a variable, with what it lists TIED to the program's text (the seventh form; the later family's looks); each row that meets fmt, with fmt's text TOLD by the authors' own Lean function (tested against real Go, not proved from fmt's source: count such statements apart). THE CARD IS WHAT COUNTS. Prove the row's statement (the work); the ties are given (YtkacnifdhfffmaaGreatDoorTie.lean); close each card by the builder's one call (the guide's Derived/Test/ToyasCard.lean, 'card_holds'). Laid BY PROGRAM, IN A SANDBOX (cutbox-door.mjs). By AI agents, Wed Nov 11 2026. No macro, syntax, notation, axiom, sorry.
-/
import Derived.Test.YtkacnifdhfffmaaGreatDoorRows
import GoSem.ClaimSeven
namespace Go.Proofs.YtkacnifdhfffmaaGreatDoor
namespace Rows

/-- THE TIED CARD OF 'fetterlocklaw10.CodeKeysMatchSpec'. -/
def codeKeysMatchSpecCard : Claim7 := { stood := { row := codeKeysMatchSpecRow, standIns := [], harness := (true, "75ebbc17af54d71afe4cfda5e5333bbf454079ad061f9de7628eccf2c9215684"), looks := false }, kinds := [], alts := [], laidByText := true, laidKinds := [.data, .data, .data, .data, .listed, .data, .data, .data, .pinned], laidTests := true, laidLooks := .later }
def CodeKeysMatchSpecCardSaid : Prop := Claim7.holds Tryz.pinned (.plain (OpenSpec.ofChange codeKeysMatchSpecSpec)) codeKeysMatchSpecCard

/-- THE SECOND FORM's CARD OF 'fetterlocklaw10.CodeKeysMatchSpec'. -/
def codeKeysMatchSpecUptoCard : Claim7 := { stood := { row := codeKeysMatchSpecUptoRow, standIns := [], harness := (true, "75ebbc17af54d71afe4cfda5e5333bbf454079ad061f9de7628eccf2c9215684"), looks := false }, kinds := [], alts := [], laidByText := true, laidKinds := [.data, .data, .data, .data, .listed, .data, .data, .data, .pinned], laidTests := true, laidLooks := .later }
def CodeKeysMatchSpecUptoCardSaid : Prop := Claim7.holds Tryz.pinned (.plain (OpenSpec.upto codeKeysMatchSpecSpec)) codeKeysMatchSpecUptoCard
end Rows
end Go.Proofs.YtkacnifdhfffmaaGreatDoor
