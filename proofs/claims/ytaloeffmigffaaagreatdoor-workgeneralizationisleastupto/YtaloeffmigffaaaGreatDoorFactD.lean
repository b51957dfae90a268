/-
  A part of the proof of the card of WorkGeneralizationIsLeast (second form): lemmas that the text Card uses. No condition of its own.
-/
import Derived.Test.YtaloeffmigffaaaGreatDoorRows
import Derived.JoinedCond
set_option linter.all false
set_option linter.unusedVariables false
set_option linter.unusedSimpArgs false
section
namespace Go.Proofs.YtaloeffmigffaaaGreatDoor
set_option maxRecDepth 100000 in
theorem factNamed:(Rows.workGeneralizationIsLeastUptoRow.named == Tryz.pinned.checked.prog.varsNamed 3) = true:=by kernel_rfl
end Go.Proofs.YtaloeffmigffaaaGreatDoor
end
