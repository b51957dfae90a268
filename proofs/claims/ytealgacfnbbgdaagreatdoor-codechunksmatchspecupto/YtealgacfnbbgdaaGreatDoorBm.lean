/- Lemmas; no condition. -/
import Derived.Test.YtealgacfnbbgdaaGreatDoorZ
import Derived.Test.YtealgacfnbbgdaaGreatDoorRows
import Derived.JoinedCond
set_option linter.all false
set_option maxRecDepth 100000
namespace Go.Proofs.YtealgacfnbbgdaaGreatDoor
def Mg:(Rows.codeChunksMatchSpecUptoRow.recurses==Tryz.pinned.checked.prog.recurses 3)=true:=by kernel_rfl
