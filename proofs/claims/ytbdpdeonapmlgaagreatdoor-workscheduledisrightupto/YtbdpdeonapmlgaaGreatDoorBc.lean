/- Lemmas; no condition. -/
import Derived.Test.YtbdpdeonapmlgaaGreatDoorAy
set_option linter.all false
namespace Go.Proofs.YtbdpdeonapmlgaaGreatDoor
open Go.Ev
def fU1:lK mL 14 10000 252 mU1=true:=by kernel_rfl
def fU5:lK mL 14 10000 252 mU5=true:=by kernel_rfl
