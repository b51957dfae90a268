/-
  A part of the proof of the card of WorkGeneralizationIsLeast (second form): lemmas that the text Card uses. No condition of its own.
-/
import Derived.Test.YtaloeffmigffaaaGreatDoorEv09
import Derived.Test.YtaloeffmigffaaaGreatDoorEv08
import Derived.Test.YtaloeffmigffaaaGreatDoorMemoA
import Derived.Test.YtaloeffmigffaaaGreatDoorProg
import Derived.KernelRfl
set_option linter.all false
set_option linter.unusedVariables false
set_option linter.unusedSimpArgs false
section
open Go Go.Ev
namespace Go.Proofs.YtaloeffmigffaaaGreatDoor
theorem fU3:memoFact call0 14 10000 189 mU3 = true:=by kernel_rfl
theorem fU7:memoFact call0 14 10000 189 mU7 = true:=by kernel_rfl
end Go.Proofs.YtaloeffmigffaaaGreatDoor
end
