/-
  A part of the proof of the card of WorkClosureMatchesSpec (second form): lemmas that the text Card uses. No condition of its own.
-/
import Derived.Test.YtbleedclnkpbkaaGreatDoorEv10
import Derived.Test.YtbleedclnkpbkaaGreatDoorEv09
import Derived.Test.YtbleedclnkpbkaaGreatDoorMemoA
import Derived.Test.YtbleedclnkpbkaaGreatDoorProg
import Derived.KernelRfl
set_option linter.all false
set_option linter.unusedVariables false
set_option linter.unusedSimpArgs false
section
open Go Go.Ev
namespace Go.Proofs.YtbleedclnkpbkaaGreatDoor
theorem fU2 : memoFact call0 14 10000 197 mU2 = true := by kernel_rfl
theorem fU6 : memoFact call0 14 10000 197 mU6 = true := by kernel_rfl
end Go.Proofs.YtbleedclnkpbkaaGreatDoor
end
