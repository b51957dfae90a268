/- Lemmas; no condition. -/
import Derived.Test.YtbdpdeonapmlgaaGreatDoorBb
set_option linter.all false
namespace Go.Proofs.YtbdpdeonapmlgaaGreatDoor
open Go.Ev
def fU1:lT mW 14 10000 252 mU1=true:=by kernel_rfl
def fU5:lT mW 14 10000 252 mU5=true:=by kernel_rfl
