/- Lemmas; no condition. -/
import Derived.Test.YtbdpdeonapmlgaaGreatDoorZ
import Derived.Test.YtbdpdeonapmlgaaGreatDoorRows
import Derived.JoinedCond
set_option linter.all false
set_option maxRecDepth 100000
namespace Go.Proofs.YtbdpdeonapmlgaaGreatDoor
def Fd:(Rows.workScheduledIsRightUptoRow.recurses==Tryz.pinned.checked.prog.recurses 7)=true:=by kernel_rfl
