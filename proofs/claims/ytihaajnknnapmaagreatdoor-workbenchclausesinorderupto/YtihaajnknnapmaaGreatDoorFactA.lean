/-
  A part of the proof of the card of WorkbenchClausesInOrder (second form): lemmas that the text Card uses. No condition of its own.
-/
import Derived.Test.YtihaajnknnapmaaGreatDoorRows
import Derived.JoinedCond
set_option linter.all false
set_option linter.unusedVariables false
set_option linter.unusedSimpArgs false
section
namespace Go.Proofs.YtihaajnknnapmaaGreatDoor
set_option maxRecDepth 100000 in
theorem factInPlace : (Rows.workbenchClausesInOrderUptoRow.inPlace == Tryz.pinned.checked.prog.inPlace 3) = true := by kernel_rfl
end Go.Proofs.YtihaajnknnapmaaGreatDoor
end
