/- Lemmas for the text Card; no condition. -/
import Derived.Test.YtbdpdeonapmlgaaGreatDoorBl
set_option linter.all false
namespace Go.Proofs.YtbdpdeonapmlgaaGreatDoor
open Go.Ev
theorem fU0:kS lS 14 10000 252 mU0=true:=by kernel_rfl
theorem fU4:kS lS 14 10000 252 mU4=true:=by kernel_rfl
theorem fU8:kS lS 14 10000 252 mU8=true:=by kernel_rfl
end Go.Proofs.YtbdpdeonapmlgaaGreatDoor
