/- Lemmas; no condition. -/
import Derived.Test.YtealgacfnbbgdaaGreatDoorAm
set_option linter.all false
namespace Go.Proofs.YtealgacfnbbgdaaGreatDoor
open Go.Ev
noncomputable section
def mU6:cB:=⟨[.sl ⟨.d0,.d0,.d0,.d1,.d6⟩ 0 6 3,.agg aM],[(3,[aG,aF,aH,aI,aJ,aL])],.tup [.sl ⟨.d0,.d0,.d0,.d1,.d7⟩ 0 7 3,.i .i64 (.ofNat 0)],[(3,169,[aG,aF,aH,aI,aJ,aM,aL])]⟩
def mU11:cB:=⟨[.sl ⟨.d0,.d0,.d0,.d1,.d6⟩ 0 11 3,.agg aW],[(3,[aG,aU,aF,aH,aS,aI,aJ,aM,aN,aL,aP])],.tup [.sl ⟨.d0,.d0,.d0,.d1,.d7⟩ 0 12 3,.i .i64 (.ofNat 0)],[(3,169,[aW,aG,aU,aF,aH,aS,aI,aJ,aM,aN,aL,aP])]⟩
def mU20:cB:=⟨[.sl ⟨.d0,.d0,.d0,.d1,.d6⟩ 0 20 3,.agg bQ],[(3,[aW,aG,aU,aF,aH,aS,aY,bH,aI,bJ,bN,bM,aX,bF,bI,aJ,aM,aN,aL,aP])],.tup [.sl ⟨.d0,.d0,.d0,.d1,.d7⟩ 0 21 3,.i .i64 (.ofNat 0)],[(3,169,[aW,aG,aU,aF,aH,aS,aY,bH,aI,bJ,bN,bM,bQ,aX,bF,bI,aJ,aM,aN,aL,aP])]⟩
def mU26:cB:=⟨[.sl ⟨.d0,.d0,.d0,.d1,.d6⟩ 0 26 3,.agg cL],[(3,[aW,aG,aU,aF,aH,aS,cG,aY,bU,cC,bH,cD,aI,bJ,bN,bM,bQ,aX,bF,bI,aJ,aM,bW,aN,aL,aP])],.tup [.sl ⟨.d0,.d0,.d0,.d1,.d7⟩ 0 27 3,.i .i64 (.ofNat 0)],[(3,169,[aW,aG,aU,aF,aH,aS,cG,aY,bU,cC,bH,cD,cL,aI,bJ,bN,bM,bQ,aX,bF,bI,aJ,aM,bW,aN,aL,aP])]⟩
def mU37:cB:=⟨[.sl ⟨.d0,.d0,.d0,.d1,.d6⟩ 0 37 3,.agg fC],[(3,[dJ,cW,dY,dR,eJ,cZ,aW,aG,aU,eT,aF,aH,aS,cG,aY,bU,cC,cO,bH,cD,cL,cT,aI,bJ,bN,bM,bQ,aX,bF,bI,aJ,eP,aM,bW,aN,aL,aP])],.tup [.sl ⟨.d0,.d0,.d0,.d1,.d7⟩ 0 38 3,.i .i64 (.ofNat 0)],[(3,169,[dJ,cW,dY,dR,eJ,cZ,aW,fC,aG,aU,eT,aF,aH,aS,cG,aY,bU,cC,cO,bH,cD,cL,cT,aI,bJ,bN,bM,bQ,aX,bF,bI,aJ,eP,aM,bW,aN,aL,aP])]⟩
def mU45:cB:=⟨[.sl ⟨.d0,.d0,.d0,.d1,.d6⟩ 0 45 3,.agg iR],[(3,[dJ,cW,dY,dR,eJ,cZ,gV,aW,fC,fE,aG,aU,gH,iH,fK,eT,aF,aH,aS,cG,aY,bU,cC,cO,bH,cD,cL,cT,aI,bJ,bN,bM,bQ,aX,fS,bF,bI,aJ,eP,aM,bW,aN,aL,fX,aP])],.tup [.sl ⟨.d0,.d0,.d0,.d1,.d7⟩ 0 46 3,.i .i64 (.ofNat 0)],[(3,169,[dJ,cW,dY,dR,eJ,cZ,gV,aW,fC,fE,aG,aU,gH,iH,iR,fK,eT,aF,aH,aS,cG,aY,bU,cC,cO,bH,cD,cL,cT,aI,bJ,bN,bM,bQ,aX,fS,bF,bI,aJ,eP,aM,bW,aN,aL,fX,aP])]⟩
def mU50:cB:=⟨[.sl ⟨.d0,.d0,.d0,.d1,.d6⟩ 0 50 3,.agg nD],[(3,[dJ,cW,dY,dR,eJ,cZ,gV,aW,fC,fE,aG,aU,gH,iH,iR,fK,eT,aF,aH,aS,cG,lN,aY,bU,cC,cO,bH,cD,cL,cT,aI,bJ,bN,bM,bQ,aX,fS,bF,bI,kP,aJ,eP,aM,bW,aN,jZ,jG,aL,fX,aP])],.tup [.sl ⟨.d0,.d0,.d0,.d1,.d7⟩ 0 51 3,.i .i64 (.ofNat 0)],[(3,169,[dJ,cW,dY,dR,eJ,cZ,gV,aW,fC,fE,aG,aU,gH,iH,iR,fK,eT,aF,aH,aS,cG,lN,aY,bU,cC,cO,bH,cD,cL,cT,nD,aI,bJ,bN,bM,bQ,aX,fS,bF,bI,kP,aJ,eP,aM,bW,aN,jZ,jG,aL,fX,aP])]⟩
def fU6:cH cP 14 10000 90 mU6=true:=by kernel_rfl
def fU11:cH cP 14 10000 90 mU11=true:=by kernel_rfl
def fU20:cH cP 14 10000 90 mU20=true:=by kernel_rfl
def fU26:cH cP 14 10000 90 mU26=true:=by kernel_rfl
def fU37:cH cP 14 10000 90 mU37=true:=by kernel_rfl
def fU45:cH cP 14 10000 90 mU45=true:=by kernel_rfl
def fU50:cH cP 14 10000 90 mU50=true:=by kernel_rfl
end
