/- Lemmas for the text Card; no condition. -/
import Derived.Test.YtbdpdeonapmlgaaGreatDoorBl
set_option linter.all false
namespace Go.Proofs.YtbdpdeonapmlgaaGreatDoor
open Go.Ev
theorem fU1:kS lS 14 10000 252 mU1=true:=by kernel_rfl
theorem fU5:kS lS 14 10000 252 mU5=true:=by kernel_rfl
end Go.Proofs.YtbdpdeonapmlgaaGreatDoor
