/- Lemmas; no condition. -/
import Derived.Test.YtealgacfnbbgdaaGreatDoorBo
import Derived.Test.YtealgacfnbbgdaaGreatDoorBp
import Derived.Test.YtealgacfnbbgdaaGreatDoorBq
import Derived.Test.YtealgacfnbbgdaaGreatDoorBr
import Derived.Test.YtealgacfnbbgdaaGreatDoorBs
import Derived.Test.YtealgacfnbbgdaaGreatDoorBb
import Derived.Test.YtealgacfnbbgdaaGreatDoorBc
import Derived.Test.YtealgacfnbbgdaaGreatDoorBd
import Derived.Test.YtealgacfnbbgdaaGreatDoorBe
set_option linter.all false
namespace Go.Proofs.YtealgacfnbbgdaaGreatDoor
open Go.Ev
noncomputable section
def mUs:List cB:=[mU0,mU1,mU2,mU3,mU4,mU5,mU6,mU7,mU8,mU9,mU10,mU11,mU12,mU13,mU14,mU15,mU16,mU17,mU18,mU19,mU20,mU21,mU22,mU23,mU24,mU25,mU26,mU27,mU28,mU29,mU30,mU31,mU32,mU33,mU34,mU35,mU36,mU37,mU38,mU39,mU40,mU41,mU42,mU43,mU44,mU45,mU46,mU47,mU48,mU49,mU50,mU51,mU52,mU53,mU54,mU55]
def sp1 (f:Nat):Option FOp:=bif Nat.beq f 90 then some (zW 10000 14 mUs rI) else sp0 f
def MJ:dQ:=uR Tryz.prog sp1 5000 300
def mDef:cB:=⟨[],[],.sl ⟨.d0,.d0,.d0,.d1,.d6⟩ 0 56 3,[(3,169,tabR)]⟩
def fDef:cH MJ 14 10000 58 mDef=true:=by kernel_rfl
end
