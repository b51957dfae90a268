/-
  A part of the proof of the card of WorkGeneralizationIsLeast (second form): lemmas that the text Card uses. No condition of its own.
-/
import Derived.Test.YtaloeffmigffaaaGreatDoorEv09
import Derived.Test.YtaloeffmigffaaaGreatDoorEv08
import Derived.Test.YtaloeffmigffaaaGreatDoorMemoA
import Derived.Test.YtaloeffmigffaaaGreatDoorProg
import Derived.KernelRfl
set_option linter.all false
set_option linter.unusedVariables false
set_option linter.unusedSimpArgs false
section
open Go Go.Ev
namespace Go.Proofs.YtaloeffmigffaaaGreatDoor
noncomputable def memosG (fuel base:Nat) (l:List Memo) (alt:FOp):FOp:=⟨fun call args h=>bif Nat.ble base h.next.toNat then (memosF fuel base l alt).run call args h else alt.run call args h⟩
noncomputable def sp1 (f:Nat):Option FOp:=bif Nat.beq f 189 then some (memosG 10000 14 mUs badF) else sp0 f
theorem run:VH.isTrue (callE Tryz.prog sp1 5000 300 5 [] (H0 14)) = true:=by kernel_rfl
end Go.Proofs.YtaloeffmigffaaaGreatDoor
end
