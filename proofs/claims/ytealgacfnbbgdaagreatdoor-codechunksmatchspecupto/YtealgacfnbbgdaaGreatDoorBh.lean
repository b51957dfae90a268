/- Lemmas; no condition. -/
import Derived.Test.YtealgacfnbbgdaaGreatDoorBf
import Derived.Test.YtealgacfnbbgdaaGreatDoorBg
set_option linter.all false
namespace Go.Proofs.YtealgacfnbbgdaaGreatDoor
open Go.Ev
noncomputable def sp2 (f:Nat):Option FOp:=bif Nat.beq f 58 then some (zW 10000 14 [mDef] rI) else bif Nat.beq f 57 then some (zW 10000 14 [JZ] rI) else sp0 f
def run:VH.isTrue (uR Tryz.prog sp2 5000 300 12 [] (H1 14))=true:=by kernel_rfl
