/-
  DERIVED. GIVEN WITH THE SEED: THE CARDS: each row of YtbdpdeonapmlgaaGreatDoorRows.lean that lists a variable, with what it lists TIED to the program's text (the seventh form; the later family's looks); each row that meets fmt, with fmt's text TOLD by the authors' own Lean function (tested against real Go, not proved from fmt's source: count such statements apart). THE CARD IS WHAT COUNTS. Prove the row's statement (the work); the ties are given (YtbdpdeonapmlgaaGreatDoorTie.lean); close each card by the builder's one call (the guide's Derived/Test/ToyasCard.lean, 'card_holds'). Laid BY PROGRAM, IN A SANDBOX (cutbox-door.mjs). By AI agents, Wed Nov 11 2026. No macro, syntax, notation, axiom, sorry.
-/
import Derived.Test.YtbdpdeonapmlgaaGreatDoorRows
import GoSem.ClaimSeven
namespace Go.Proofs.YtbdpdeonapmlgaaGreatDoor
namespace Rows

/-- THE TIED CARD OF 'fetterlocklaw12.WorkModesMatchSpec'. -/
def workModesMatchSpecCard : Claim7 := { stood := { row := workModesMatchSpecRow, standIns := [], harness := (true, "cd5d31998c58deca1a6bf5875110c689717e0803038c4aa6f7a1bec71bb6b09e"), looks := true }, kinds := [], alts := [], laidByText := true, laidKinds := [.data, .data, .data], laidTests := true, laidLooks := .later }
def WorkModesMatchSpecCardSaid : Prop := Claim7.holds Tryz.pinned (.plain (OpenSpec.ofChange workModesMatchSpecSpec)) workModesMatchSpecCard

/-- THE TIED CARD OF 'fetterlocklaw12.WorkEndsMatchSpec'. -/
def workEndsMatchSpecCard : Claim7 := { stood := { row := workEndsMatchSpecRow, standIns := [], harness := (true, "cd5d31998c58deca1a6bf5875110c689717e0803038c4aa6f7a1bec71bb6b09e"), looks := true }, kinds := [], alts := [], laidByText := true, laidKinds := [.data, .data, .data], laidTests := true, laidLooks := .later }
def WorkEndsMatchSpecCardSaid : Prop := Claim7.holds Tryz.pinned (.plain (OpenSpec.ofChange workEndsMatchSpecSpec)) workEndsMatchSpecCard

/-- THE TIED CARD OF 'fetterlocklaw12.WorkLiteralsMatchSpec'. -/
def workLiteralsMatchSpecCard : Claim7 := { stood := { row := workLiteralsMatchSpecRow, standIns := [], harness := (true, "cd5d31998c58deca1a6bf5875110c689717e0803038c4aa6f7a1bec71bb6b09e"), looks := true }, kinds := [], alts := [], laidByText := true, laidKinds := [.data, .data, .data], laidTests := true, laidLooks := .later }
def WorkLiteralsMatchSpecCardSaid : Prop := Claim7.holds Tryz.pinned (.plain (OpenSpec.ofChange workLiteralsMatchSpecSpec)) workLiteralsMatchSpecCard

/-- THE TIED CARD OF 'fetterlocklaw12.WorkScheduleMatchesSpec'. -/
def workScheduleMatchesSpecCard : Claim7 := { stood := { row := workScheduleMatchesSpecRow, standIns := [], harness := (true, "cd5d31998c58deca1a6bf5875110c689717e0803038c4aa6f7a1bec71bb6b09e"), looks := true }, kinds := [], alts := [], laidByText := true, laidKinds := [.data, .data, .data], laidTests := true, laidLooks := .later }
def WorkScheduleMatchesSpecCardSaid : Prop := Claim7.holds Tryz.pinned (.plain (OpenSpec.ofChange workScheduleMatchesSpecSpec)) workScheduleMatchesSpecCard

/-- THE TIED CARD OF 'fetterlocklaw12.WorkScheduledIsRight'. -/
def workScheduledIsRightCard : Claim7 := { stood := { row := workScheduledIsRightRow, standIns := [], harness := (true, "cd5d31998c58deca1a6bf5875110c689717e0803038c4aa6f7a1bec71bb6b09e"), looks := true }, kinds := [], alts := [], laidByText := true, laidKinds := [.data, .data, .data], laidTests := true, laidLooks := .later }
def WorkScheduledIsRightCardSaid : Prop := Claim7.holds Tryz.pinned (.plain (OpenSpec.ofChange workScheduledIsRightSpec)) workScheduledIsRightCard

/-- THE SECOND FORM's CARD OF 'fetterlocklaw12.WorkModesMatchSpec'. -/
def workModesMatchSpecUptoCard : Claim7 := { stood := { row := workModesMatchSpecUptoRow, standIns := [], harness := (true, "cd5d31998c58deca1a6bf5875110c689717e0803038c4aa6f7a1bec71bb6b09e"), looks := true }, kinds := [], alts := [], laidByText := true, laidKinds := [.data, .data, .data], laidTests := true, laidLooks := .later }
def WorkModesMatchSpecUptoCardSaid : Prop := Claim7.holds Tryz.pinned (.plain (OpenSpec.upto workModesMatchSpecSpec)) workModesMatchSpecUptoCard

/-- THE SECOND FORM's CARD OF 'fetterlocklaw12.WorkEndsMatchSpec'. -/
def workEndsMatchSpecUptoCard : Claim7 := { stood := { row := workEndsMatchSpecUptoRow, standIns := [], harness := (true, "cd5d31998c58deca1a6bf5875110c689717e0803038c4aa6f7a1bec71bb6b09e"), looks := true }, kinds := [], alts := [], laidByText := true, laidKinds := [.data, .data, .data], laidTests := true, laidLooks := .later }
def WorkEndsMatchSpecUptoCardSaid : Prop := Claim7.holds Tryz.pinned (.plain (OpenSpec.upto workEndsMatchSpecSpec)) workEndsMatchSpecUptoCard

/-- THE SECOND FORM's CARD OF 'fetterlocklaw12.WorkLiteralsMatchSpec'. -/
def workLiteralsMatchSpecUptoCard : Claim7 := { stood := { row := workLiteralsMatchSpecUptoRow, standIns := [], harness := (true, "cd5d31998c58deca1a6bf5875110c689717e0803038c4aa6f7a1bec71bb6b09e"), looks := true }, kinds := [], alts := [], laidByText := true, laidKinds := [.data, .data, .data], laidTests := true, laidLooks := .later }
def WorkLiteralsMatchSpecUptoCardSaid : Prop := Claim7.holds Tryz.pinned (.plain (OpenSpec.upto workLiteralsMatchSpecSpec)) workLiteralsMatchSpecUptoCard

/-- THE SECOND FORM's CARD OF 'fetterlocklaw12.WorkScheduleMatchesSpec'. -/
def workScheduleMatchesSpecUptoCard : Claim7 := { stood := { row := workScheduleMatchesSpecUptoRow, standIns := [], harness := (true, "cd5d31998c58deca1a6bf5875110c689717e0803038c4aa6f7a1bec71bb6b09e"), looks := true }, kinds := [], alts := [], laidByText := true, laidKinds := [.data, .data, .data], laidTests := true, laidLooks := .later }
def WorkScheduleMatchesSpecUptoCardSaid : Prop := Claim7.holds Tryz.pinned (.plain (OpenSpec.upto workScheduleMatchesSpecSpec)) workScheduleMatchesSpecUptoCard

/-- THE SECOND FORM's CARD OF 'fetterlocklaw12.WorkScheduledIsRight'. -/
def workScheduledIsRightUptoCard : Claim7 := { stood := { row := workScheduledIsRightUptoRow, standIns := [], harness := (true, "cd5d31998c58deca1a6bf5875110c689717e0803038c4aa6f7a1bec71bb6b09e"), looks := true }, kinds := [], alts := [], laidByText := true, laidKinds := [.data, .data, .data], laidTests := true, laidLooks := .later }
def WorkScheduledIsRightUptoCardSaid : Prop := Claim7.holds Tryz.pinned (.plain (OpenSpec.upto workScheduledIsRightSpec)) workScheduledIsRightUptoCard
end Rows
end Go.Proofs.YtbdpdeonapmlgaaGreatDoor
