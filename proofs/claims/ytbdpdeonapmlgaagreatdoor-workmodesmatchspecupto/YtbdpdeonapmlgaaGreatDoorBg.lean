/- Lemmas; no condition. -/
import Derived.Test.YtbdpdeonapmlgaaGreatDoorBb
set_option linter.all false
namespace Go.Proofs.YtbdpdeonapmlgaaGreatDoor
open Go.Ev
def fU2:lT mW 14 10000 252 mU2=true:=by kernel_rfl
def fU6:lT mW 14 10000 252 mU6=true:=by kernel_rfl
