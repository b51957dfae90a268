/-
  A part of the proof of the card of WorkComposeIsAssociative (second form): lemmas that the text Card uses. No condition of its own.
-/
import Derived.Test.YtcbgbiddkkfjmaaGreatDoorEv12
import Derived.Test.YtcbgbiddkkfjmaaGreatDoorEv11
import Derived.Test.YtcbgbiddkkfjmaaGreatDoorMemoA
import Derived.Test.YtcbgbiddkkfjmaaGreatDoorProg
import Derived.KernelRfl
set_option linter.all false
set_option linter.unusedVariables false
set_option linter.unusedSimpArgs false
section
open Go Go.Ev
namespace Go.Proofs.YtcbgbiddkkfjmaaGreatDoor
theorem fU3 : memoFact call0 14 10000 188 mU3 = true := by kernel_rfl
theorem fU7 : memoFact call0 14 10000 188 mU7 = true := by kernel_rfl
end Go.Proofs.YtcbgbiddkkfjmaaGreatDoor
end
