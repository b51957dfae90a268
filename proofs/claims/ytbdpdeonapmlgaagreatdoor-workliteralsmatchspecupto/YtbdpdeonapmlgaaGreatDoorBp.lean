/- Lemmas for the text Card; no condition. -/
import Derived.Test.YtbdpdeonapmlgaaGreatDoorBl
set_option linter.all false
namespace Go.Proofs.YtbdpdeonapmlgaaGreatDoor
open Go.Ev
theorem fU2:kS lS 14 10000 252 mU2=true:=by kernel_rfl
theorem fU6:kS lS 14 10000 252 mU6=true:=by kernel_rfl
end Go.Proofs.YtbdpdeonapmlgaaGreatDoor
