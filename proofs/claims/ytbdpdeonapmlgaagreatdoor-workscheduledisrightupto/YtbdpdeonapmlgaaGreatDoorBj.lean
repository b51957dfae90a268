/- Lemmas; no condition. -/
import Derived.Test.YtbdpdeonapmlgaaGreatDoorZ
import Derived.Test.YtbdpdeonapmlgaaGreatDoorRows
import Derived.JoinedCond
set_option linter.all false
set_option maxRecDepth 100000
namespace Go.Proofs.YtbdpdeonapmlgaaGreatDoor
def Fe:(Rows.workScheduledIsRightUptoRow.named==Tryz.pinned.checked.prog.varsNamed 7)=true:=by kernel_rfl
