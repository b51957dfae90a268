/- Lemmas; no condition. -/
import Derived.Test.YtbdpdeonapmlgaaGreatDoorZ
import Derived.Test.YtbdpdeonapmlgaaGreatDoorRows
import Derived.JoinedCond
set_option linter.all false
set_option maxRecDepth 100000
namespace Go.Proofs.YtbdpdeonapmlgaaGreatDoor
def RE:laidOutB Tryz.pinned.checked.prog=true:=by kernel_rfl
def Ff:mapsRowed Tryz.pinned.checked.prog=true:=by kernel_rfl
