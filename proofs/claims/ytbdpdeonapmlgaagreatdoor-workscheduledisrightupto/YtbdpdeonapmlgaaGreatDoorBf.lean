/- Lemmas; no condition. -/
import Derived.Test.YtbdpdeonapmlgaaGreatDoorAy
set_option linter.all false
namespace Go.Proofs.YtbdpdeonapmlgaaGreatDoor
open Go.Ev
noncomputable def EY (fuel base:Nat) (l:List Memo) (a0:FOp):FOp:=⟨fun call args h=>bif Nat.ble base h.next.toNat then(OL fuel base l a0).run call args h else a0.run call args h⟩
noncomputable def sp1 (f:Nat):Option FOp:=bif Nat.beq f 252 then some (EY 10000 14 mUs nV) else sp0 f
def run:VH.isTrue (xU Tryz.prog sp1 5000 300 10 [] (H0 14))=true:=by kernel_rfl
