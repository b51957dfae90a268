/- Lemmas; no condition. -/
import Derived.Test.YtbdpdeonapmlgaaGreatDoorAy
set_option linter.all false
namespace Go.Proofs.YtbdpdeonapmlgaaGreatDoor
open Go.Ev
def fU0:lK mL 14 10000 252 mU0=true:=by kernel_rfl
def fU4:lK mL 14 10000 252 mU4=true:=by kernel_rfl
def fU8:lK mL 14 10000 252 mU8=true:=by kernel_rfl
