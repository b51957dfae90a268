/- Lemmas; no condition. -/
import Derived.Test.YtealgacfnbbgdaaGreatDoorAm
set_option linter.all false
namespace Go.Proofs.YtealgacfnbbgdaaGreatDoor
open Go.Ev
noncomputable section
def mU0:cB:=⟨[.sn,.agg aF],[],.tup [.sl ⟨.d0,.d0,.d0,.d1,.d6⟩ 0 1 3,.i .i64 (.ofNat 0)],[(3,169,[aF])]⟩
def mU15:cB:=⟨[.sl ⟨.d0,.d0,.d0,.d1,.d6⟩ 0 15 3,.agg bH],[(3,[aW,aG,aU,aF,aH,aS,aY,aI,aX,bF,aJ,aM,aN,aL,aP])],.tup [.sl ⟨.d0,.d0,.d0,.d1,.d7⟩ 0 16 3,.i .i64 (.ofNat 0)],[(3,169,[aW,aG,aU,aF,aH,aS,aY,bH,aI,aX,bF,aJ,aM,aN,aL,aP])]⟩
def mU16:cB:=⟨[.sl ⟨.d0,.d0,.d0,.d1,.d6⟩ 0 16 3,.agg bI],[(3,[aW,aG,aU,aF,aH,aS,aY,bH,aI,aX,bF,aJ,aM,aN,aL,aP])],.tup [.sl ⟨.d0,.d0,.d0,.d1,.d7⟩ 0 17 3,.i .i64 (.ofNat 0)],[(3,169,[aW,aG,aU,aF,aH,aS,aY,bH,aI,aX,bF,bI,aJ,aM,aN,aL,aP])]⟩
def mU28:cB:=⟨[.sl ⟨.d0,.d0,.d0,.d1,.d6⟩ 0 28 3,.agg cT],[(3,[aW,aG,aU,aF,aH,aS,cG,aY,bU,cC,cO,bH,cD,cL,aI,bJ,bN,bM,bQ,aX,bF,bI,aJ,aM,bW,aN,aL,aP])],.tup [.sl ⟨.d0,.d0,.d0,.d1,.d7⟩ 0 29 3,.i .i64 (.ofNat 0)],[(3,169,[aW,aG,aU,aF,aH,aS,cG,aY,bU,cC,cO,bH,cD,cL,cT,aI,bJ,bN,bM,bQ,aX,bF,bI,aJ,aM,bW,aN,aL,aP])]⟩
def mU36:cB:=⟨[.sl ⟨.d0,.d0,.d0,.d1,.d6⟩ 0 36 3,.agg eT],[(3,[dJ,cW,dY,dR,eJ,cZ,aW,aG,aU,aF,aH,aS,cG,aY,bU,cC,cO,bH,cD,cL,cT,aI,bJ,bN,bM,bQ,aX,bF,bI,aJ,eP,aM,bW,aN,aL,aP])],.tup [.sl ⟨.d0,.d0,.d0,.d1,.d7⟩ 0 37 3,.i .i64 (.ofNat 0)],[(3,169,[dJ,cW,dY,dR,eJ,cZ,aW,aG,aU,eT,aF,aH,aS,cG,aY,bU,cC,cO,bH,cD,cL,cT,aI,bJ,bN,bM,bQ,aX,bF,bI,aJ,eP,aM,bW,aN,aL,aP])]⟩
def mU43:cB:=⟨[.sl ⟨.d0,.d0,.d0,.d1,.d6⟩ 0 43 3,.agg gV],[(3,[dJ,cW,dY,dR,eJ,cZ,aW,fC,fE,aG,aU,gH,fK,eT,aF,aH,aS,cG,aY,bU,cC,cO,bH,cD,cL,cT,aI,bJ,bN,bM,bQ,aX,fS,bF,bI,aJ,eP,aM,bW,aN,aL,fX,aP])],.tup [.sl ⟨.d0,.d0,.d0,.d1,.d7⟩ 0 44 3,.i .i64 (.ofNat 0)],[(3,169,[dJ,cW,dY,dR,eJ,cZ,gV,aW,fC,fE,aG,aU,gH,fK,eT,aF,aH,aS,cG,aY,bU,cC,cO,bH,cD,cL,cT,aI,bJ,bN,bM,bQ,aX,fS,bF,bI,aJ,eP,aM,bW,aN,aL,fX,aP])]⟩
def mU52:cB:=⟨[.sl ⟨.d0,.d0,.d0,.d1,.d6⟩ 0 52 3,.agg qQ],[(3,[dJ,cW,dY,dR,eJ,cZ,gV,oX,aW,fC,fE,aG,aU,gH,iH,iR,fK,eT,aF,aH,aS,cG,lN,aY,bU,cC,cO,bH,cD,cL,cT,nD,aI,bJ,bN,bM,bQ,aX,fS,bF,bI,kP,aJ,eP,aM,bW,aN,jZ,jG,aL,fX,aP])],.tup [.sl ⟨.d0,.d0,.d0,.d1,.d7⟩ 0 53 3,.i .i64 (.ofNat 0)],[(3,169,[dJ,cW,dY,dR,eJ,cZ,gV,oX,aW,fC,fE,aG,aU,gH,iH,iR,fK,eT,aF,aH,aS,cG,lN,aY,bU,cC,cO,bH,cD,cL,cT,nD,aI,bJ,bN,bM,bQ,aX,fS,bF,bI,qQ,kP,aJ,eP,aM,bW,aN,jZ,jG,aL,fX,aP])]⟩
def fU0:cH cP 14 10000 90 mU0=true:=by kernel_rfl
def fU15:cH cP 14 10000 90 mU15=true:=by kernel_rfl
def fU16:cH cP 14 10000 90 mU16=true:=by kernel_rfl
def fU28:cH cP 14 10000 90 mU28=true:=by kernel_rfl
def fU36:cH cP 14 10000 90 mU36=true:=by kernel_rfl
def fU43:cH cP 14 10000 90 mU43=true:=by kernel_rfl
def fU52:cH cP 14 10000 90 mU52=true:=by kernel_rfl
end
