/- Lemmas; no condition. -/
import Derived.Test.YtbdpdeonapmlgaaGreatDoorBb
set_option linter.all false
namespace Go.Proofs.YtbdpdeonapmlgaaGreatDoor
open Go.Ev
noncomputable def GM (fuel base:Nat) (l:List Memo) (a0:FOp):FOp:=⟨fun call args h=>bif Nat.ble base h.next.toNat then(OK fuel base l a0).run call args h else a0.run call args h⟩
noncomputable def sp1 (f:Nat):Option FOp:=bif Nat.beq f 252 then some (GM 10000 14 mUs oI) else sp0 f
def run:VH.isTrue (yC Tryz.prog sp1 5000 300 10 [] (H0 14))=true:=by kernel_rfl
