/- Lemmas; no condition. -/
import Derived.Test.YtbdpdeonapmlgaaGreatDoorAy
set_option linter.all false
namespace Go.Proofs.YtbdpdeonapmlgaaGreatDoor
open Go.Ev
def fU3:lK mL 14 10000 252 mU3=true:=by kernel_rfl
def fU7:lK mL 14 10000 252 mU7=true:=by kernel_rfl
