/- Lemmas; no condition. -/
import Derived.Test.YtealgacfnbbgdaaGreatDoorZ
import Derived.Test.YtealgacfnbbgdaaGreatDoorRows
import Derived.JoinedCond
set_option linter.all false
set_option maxRecDepth 100000
namespace Go.Proofs.YtealgacfnbbgdaaGreatDoor
def VS:laidOutB Tryz.pinned.checked.prog=true:=by kernel_rfl
def Mi:mapsRowed Tryz.pinned.checked.prog=true:=by kernel_rfl
