/- Lemmas; no condition. -/
import Derived.Test.YtbdpdeonapmlgaaGreatDoorAy
set_option linter.all false
namespace Go.Proofs.YtbdpdeonapmlgaaGreatDoor
open Go.Ev
def fU2:lK mL 14 10000 252 mU2=true:=by kernel_rfl
def fU6:lK mL 14 10000 252 mU6=true:=by kernel_rfl
