/- Lemmas; no condition. -/
import Derived.Test.YtealgacfnbbgdaaGreatDoorZ
import Derived.Test.YtealgacfnbbgdaaGreatDoorRows
import Derived.JoinedCond
set_option linter.all false
set_option maxRecDepth 100000
namespace Go.Proofs.YtealgacfnbbgdaaGreatDoor
def Mh:(Rows.codeChunksMatchSpecUptoRow.named==Tryz.pinned.checked.prog.varsNamed 3)=true:=by kernel_rfl
