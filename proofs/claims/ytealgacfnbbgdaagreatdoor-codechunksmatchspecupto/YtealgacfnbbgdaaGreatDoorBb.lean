/- Lemmas; no condition. -/
import Derived.Test.YtealgacfnbbgdaaGreatDoorAm
set_option linter.all false
namespace Go.Proofs.YtealgacfnbbgdaaGreatDoor
open Go.Ev
noncomputable section
def mU1:cB:=⟨[.sl ⟨.d0,.d0,.d0,.d1,.d6⟩ 0 1 3,.agg aG],[(3,[aF])],.tup [.sl ⟨.d0,.d0,.d0,.d1,.d7⟩ 0 2 3,.i .i64 (.ofNat 0)],[(3,169,[aG,aF])]⟩
def mU14:cB:=⟨[.sl ⟨.d0,.d0,.d0,.d1,.d6⟩ 0 14 3,.agg bF],[(3,[aW,aG,aU,aF,aH,aS,aY,aI,aX,aJ,aM,aN,aL,aP])],.tup [.sl ⟨.d0,.d0,.d0,.d1,.d7⟩ 0 15 3,.i .i64 (.ofNat 0)],[(3,169,[aW,aG,aU,aF,aH,aS,aY,aI,aX,bF,aJ,aM,aN,aL,aP])]⟩
def mU17:cB:=⟨[.sl ⟨.d0,.d0,.d0,.d1,.d6⟩ 0 17 3,.agg bJ],[(3,[aW,aG,aU,aF,aH,aS,aY,bH,aI,aX,bF,bI,aJ,aM,aN,aL,aP])],.tup [.sl ⟨.d0,.d0,.d0,.d1,.d7⟩ 0 18 3,.i .i64 (.ofNat 0)],[(3,169,[aW,aG,aU,aF,aH,aS,aY,bH,aI,bJ,aX,bF,bI,aJ,aM,aN,aL,aP])]⟩
def mU31:cB:=⟨[.sl ⟨.d0,.d0,.d0,.d1,.d6⟩ 0 31 3,.agg dJ],[(3,[cW,cZ,aW,aG,aU,aF,aH,aS,cG,aY,bU,cC,cO,bH,cD,cL,cT,aI,bJ,bN,bM,bQ,aX,bF,bI,aJ,aM,bW,aN,aL,aP])],.tup [.sl ⟨.d0,.d0,.d0,.d1,.d7⟩ 0 32 3,.i .i64 (.ofNat 0)],[(3,169,[dJ,cW,cZ,aW,aG,aU,aF,aH,aS,cG,aY,bU,cC,cO,bH,cD,cL,cT,aI,bJ,bN,bM,bQ,aX,bF,bI,aJ,aM,bW,aN,aL,aP])]⟩
def mU32:cB:=⟨[.sl ⟨.d0,.d0,.d0,.d1,.d6⟩ 0 32 3,.agg dR],[(3,[dJ,cW,cZ,aW,aG,aU,aF,aH,aS,cG,aY,bU,cC,cO,bH,cD,cL,cT,aI,bJ,bN,bM,bQ,aX,bF,bI,aJ,aM,bW,aN,aL,aP])],.tup [.sl ⟨.d0,.d0,.d0,.d1,.d7⟩ 0 33 3,.i .i64 (.ofNat 0)],[(3,169,[dJ,cW,dR,cZ,aW,aG,aU,aF,aH,aS,cG,aY,bU,cC,cO,bH,cD,cL,cT,aI,bJ,bN,bM,bQ,aX,bF,bI,aJ,aM,bW,aN,aL,aP])]⟩
def mU40:cB:=⟨[.sl ⟨.d0,.d0,.d0,.d1,.d6⟩ 0 40 3,.agg fS],[(3,[dJ,cW,dY,dR,eJ,cZ,aW,fC,fE,aG,aU,fK,eT,aF,aH,aS,cG,aY,bU,cC,cO,bH,cD,cL,cT,aI,bJ,bN,bM,bQ,aX,bF,bI,aJ,eP,aM,bW,aN,aL,aP])],.tup [.sl ⟨.d0,.d0,.d0,.d1,.d7⟩ 0 41 3,.i .i64 (.ofNat 0)],[(3,169,[dJ,cW,dY,dR,eJ,cZ,aW,fC,fE,aG,aU,fK,eT,aF,aH,aS,cG,aY,bU,cC,cO,bH,cD,cL,cT,aI,bJ,bN,bM,bQ,aX,fS,bF,bI,aJ,eP,aM,bW,aN,aL,aP])]⟩
def mU55:cB:=⟨[.sl ⟨.d0,.d0,.d0,.d1,.d6⟩ 0 55 3,.agg DP],[(3,[dJ,cW,dY,dR,eJ,cZ,gV,oX,aW,fC,xG,fE,tX,aG,aU,gH,iH,iR,fK,eT,aF,aH,aS,cG,lN,aY,bU,cC,cO,bH,cD,cL,cT,nD,aI,bJ,bN,bM,bQ,aX,fS,bF,bI,qQ,kP,aJ,eP,aM,bW,aN,jZ,jG,aL,fX,aP])],.tup [.sl ⟨.d0,.d0,.d0,.d1,.d7⟩ 0 56 3,.i .i64 (.ofNat 0)],[(3,169,[dJ,cW,dY,dR,eJ,cZ,gV,oX,aW,fC,xG,fE,tX,aG,aU,gH,iH,iR,fK,eT,aF,aH,aS,cG,lN,aY,bU,cC,cO,bH,cD,cL,cT,nD,aI,bJ,bN,bM,bQ,DP,aX,fS,bF,bI,qQ,kP,aJ,eP,aM,bW,aN,jZ,jG,aL,fX,aP])]⟩
def fU1:cH cP 14 10000 90 mU1=true:=by kernel_rfl
def fU14:cH cP 14 10000 90 mU14=true:=by kernel_rfl
def fU17:cH cP 14 10000 90 mU17=true:=by kernel_rfl
def fU31:cH cP 14 10000 90 mU31=true:=by kernel_rfl
def fU32:cH cP 14 10000 90 mU32=true:=by kernel_rfl
def fU40:cH cP 14 10000 90 mU40=true:=by kernel_rfl
def fU55:cH cP 14 10000 90 mU55=true:=by kernel_rfl
end
