/- Lemmas; no condition. -/
import Derived.Test.YtealgacfnbbgdaaGreatDoorAm
set_option linter.all false
namespace Go.Proofs.YtealgacfnbbgdaaGreatDoor
open Go.Ev
noncomputable section
def mU4:cB:=⟨[.sl ⟨.d0,.d0,.d0,.d1,.d6⟩ 0 4 3,.agg aJ],[(3,[aG,aF,aH,aI])],.tup [.sl ⟨.d0,.d0,.d0,.d1,.d7⟩ 0 5 3,.i .i64 (.ofNat 0)],[(3,169,[aG,aF,aH,aI,aJ])]⟩
def mU13:cB:=⟨[.sl ⟨.d0,.d0,.d0,.d1,.d6⟩ 0 13 3,.agg aY],[(3,[aW,aG,aU,aF,aH,aS,aI,aX,aJ,aM,aN,aL,aP])],.tup [.sl ⟨.d0,.d0,.d0,.d1,.d7⟩ 0 14 3,.i .i64 (.ofNat 0)],[(3,169,[aW,aG,aU,aF,aH,aS,aY,aI,aX,aJ,aM,aN,aL,aP])]⟩
def mU18:cB:=⟨[.sl ⟨.d0,.d0,.d0,.d1,.d6⟩ 0 18 3,.agg bM],[(3,[aW,aG,aU,aF,aH,aS,aY,bH,aI,bJ,aX,bF,bI,aJ,aM,aN,aL,aP])],.tup [.sl ⟨.d0,.d0,.d0,.d1,.d7⟩ 0 19 3,.i .i64 (.ofNat 0)],[(3,169,[aW,aG,aU,aF,aH,aS,aY,bH,aI,bJ,bM,aX,bF,bI,aJ,aM,aN,aL,aP])]⟩
def mU27:cB:=⟨[.sl ⟨.d0,.d0,.d0,.d1,.d6⟩ 0 27 3,.agg cO],[(3,[aW,aG,aU,aF,aH,aS,cG,aY,bU,cC,bH,cD,cL,aI,bJ,bN,bM,bQ,aX,bF,bI,aJ,aM,bW,aN,aL,aP])],.tup [.sl ⟨.d0,.d0,.d0,.d1,.d7⟩ 0 28 3,.i .i64 (.ofNat 0)],[(3,169,[aW,aG,aU,aF,aH,aS,cG,aY,bU,cC,cO,bH,cD,cL,aI,bJ,bN,bM,bQ,aX,bF,bI,aJ,aM,bW,aN,aL,aP])]⟩
def mU35:cB:=⟨[.sl ⟨.d0,.d0,.d0,.d1,.d6⟩ 0 35 3,.agg eP],[(3,[dJ,cW,dY,dR,eJ,cZ,aW,aG,aU,aF,aH,aS,cG,aY,bU,cC,cO,bH,cD,cL,cT,aI,bJ,bN,bM,bQ,aX,bF,bI,aJ,aM,bW,aN,aL,aP])],.tup [.sl ⟨.d0,.d0,.d0,.d1,.d7⟩ 0 36 3,.i .i64 (.ofNat 0)],[(3,169,[dJ,cW,dY,dR,eJ,cZ,aW,aG,aU,aF,aH,aS,cG,aY,bU,cC,cO,bH,cD,cL,cT,aI,bJ,bN,bM,bQ,aX,bF,bI,aJ,eP,aM,bW,aN,aL,aP])]⟩
def mU46:cB:=⟨[.sl ⟨.d0,.d0,.d0,.d1,.d6⟩ 0 46 3,.agg jG],[(3,[dJ,cW,dY,dR,eJ,cZ,gV,aW,fC,fE,aG,aU,gH,iH,iR,fK,eT,aF,aH,aS,cG,aY,bU,cC,cO,bH,cD,cL,cT,aI,bJ,bN,bM,bQ,aX,fS,bF,bI,aJ,eP,aM,bW,aN,aL,fX,aP])],.tup [.sl ⟨.d0,.d0,.d0,.d1,.d7⟩ 0 47 3,.i .i64 (.ofNat 0)],[(3,169,[dJ,cW,dY,dR,eJ,cZ,gV,aW,fC,fE,aG,aU,gH,iH,iR,fK,eT,aF,aH,aS,cG,aY,bU,cC,cO,bH,cD,cL,cT,aI,bJ,bN,bM,bQ,aX,fS,bF,bI,aJ,eP,aM,bW,aN,jG,aL,fX,aP])]⟩
def mU49:cB:=⟨[.sl ⟨.d0,.d0,.d0,.d1,.d6⟩ 0 49 3,.agg lN],[(3,[dJ,cW,dY,dR,eJ,cZ,gV,aW,fC,fE,aG,aU,gH,iH,iR,fK,eT,aF,aH,aS,cG,aY,bU,cC,cO,bH,cD,cL,cT,aI,bJ,bN,bM,bQ,aX,fS,bF,bI,kP,aJ,eP,aM,bW,aN,jZ,jG,aL,fX,aP])],.tup [.sl ⟨.d0,.d0,.d0,.d1,.d7⟩ 0 50 3,.i .i64 (.ofNat 0)],[(3,169,[dJ,cW,dY,dR,eJ,cZ,gV,aW,fC,fE,aG,aU,gH,iH,iR,fK,eT,aF,aH,aS,cG,lN,aY,bU,cC,cO,bH,cD,cL,cT,aI,bJ,bN,bM,bQ,aX,fS,bF,bI,kP,aJ,eP,aM,bW,aN,jZ,jG,aL,fX,aP])]⟩
def fU4:cH cP 14 10000 90 mU4=true:=by kernel_rfl
def fU13:cH cP 14 10000 90 mU13=true:=by kernel_rfl
def fU18:cH cP 14 10000 90 mU18=true:=by kernel_rfl
def fU27:cH cP 14 10000 90 mU27=true:=by kernel_rfl
def fU35:cH cP 14 10000 90 mU35=true:=by kernel_rfl
def fU46:cH cP 14 10000 90 mU46=true:=by kernel_rfl
def fU49:cH cP 14 10000 90 mU49=true:=by kernel_rfl
end
