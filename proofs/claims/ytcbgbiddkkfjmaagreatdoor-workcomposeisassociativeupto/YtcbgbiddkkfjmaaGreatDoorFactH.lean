/-
  A part of the proof of the card of WorkComposeIsAssociative (second form): lemmas that the text Card uses. No condition of its own.
-/
import Derived.Test.YtcbgbiddkkfjmaaGreatDoorFactA
import Derived.Test.YtcbgbiddkkfjmaaGreatDoorFactB
import Derived.Test.YtcbgbiddkkfjmaaGreatDoorFactC
import Derived.Test.YtcbgbiddkkfjmaaGreatDoorFactD
import Derived.Test.YtcbgbiddkkfjmaaGreatDoorFactE
import Derived.Test.YtcbgbiddkkfjmaaGreatDoorFactF
set_option linter.all false
set_option linter.unusedVariables false
set_option linter.unusedSimpArgs false
section
namespace Go.Proofs.YtcbgbiddkkfjmaaGreatDoor
set_option maxRecDepth 100000 in
theorem closed : joinedFacts Tryz.pinned.checked.prog 3 Tryz.f3 (Rows.OpenSpec.upto Rows.workComposeIsAssociativeSpec).bare Rows.workComposeIsAssociativeUptoRow = true := by
  unfold joinedFacts
  rw [factInPlace, factUnfollowed, factRecurses, factNamed, factLaid, factMaps, factHeard, factEnter]
  kernel_rfl
end Go.Proofs.YtcbgbiddkkfjmaaGreatDoor
end
