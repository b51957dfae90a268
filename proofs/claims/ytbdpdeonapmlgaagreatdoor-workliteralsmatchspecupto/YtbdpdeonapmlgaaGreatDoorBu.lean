/- Lemmas for the text Card; no condition. -/
import Derived.Test.YtbdpdeonapmlgaaGreatDoorZ
import Derived.Test.YtbdpdeonapmlgaaGreatDoorRows
import Derived.JoinedCond
set_option linter.all false
set_option maxRecDepth 100000
namespace Go.Proofs.YtbdpdeonapmlgaaGreatDoor
theorem Bn:(Rows.workLiteralsMatchSpecUptoRow.inPlace==Tryz.pinned.checked.prog.inPlace 5)=true:=by kernel_rfl
end Go.Proofs.YtbdpdeonapmlgaaGreatDoor
