/- Lemmas for the text Card; no condition. -/
import Derived.Test.YtbdpdeonapmlgaaGreatDoorBl
set_option linter.all false
namespace Go.Proofs.YtbdpdeonapmlgaaGreatDoor
open Go.Ev
theorem fU3:kS lS 14 10000 252 mU3=true:=by kernel_rfl
theorem fU7:kS lS 14 10000 252 mU7=true:=by kernel_rfl
end Go.Proofs.YtbdpdeonapmlgaaGreatDoor
