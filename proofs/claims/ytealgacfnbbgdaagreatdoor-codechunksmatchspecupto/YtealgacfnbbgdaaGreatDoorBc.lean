/- Lemmas; no condition. -/
import Derived.Test.YtealgacfnbbgdaaGreatDoorAm
set_option linter.all false
namespace Go.Proofs.YtealgacfnbbgdaaGreatDoor
open Go.Ev
noncomputable section
def mU3:cB:=⟨[.sl ⟨.d0,.d0,.d0,.d1,.d6⟩ 0 3 3,.agg aI],[(3,[aG,aF,aH])],.tup [.sl ⟨.d0,.d0,.d0,.d1,.d7⟩ 0 4 3,.i .i64 (.ofNat 0)],[(3,169,[aG,aF,aH,aI])]⟩
def mU8:cB:=⟨[.sl ⟨.d0,.d0,.d0,.d1,.d6⟩ 0 8 3,.agg aP],[(3,[aG,aF,aH,aI,aJ,aM,aN,aL])],.tup [.sl ⟨.d0,.d0,.d0,.d1,.d7⟩ 0 9 3,.i .i64 (.ofNat 0)],[(3,169,[aG,aF,aH,aI,aJ,aM,aN,aL,aP])]⟩
def mU23:cB:=⟨[.sl ⟨.d0,.d0,.d0,.d1,.d6⟩ 0 23 3,.agg cC],[(3,[aW,aG,aU,aF,aH,aS,aY,bU,bH,aI,bJ,bN,bM,bQ,aX,bF,bI,aJ,aM,bW,aN,aL,aP])],.tup [.sl ⟨.d0,.d0,.d0,.d1,.d7⟩ 0 24 3,.i .i64 (.ofNat 0)],[(3,169,[aW,aG,aU,aF,aH,aS,aY,bU,cC,bH,aI,bJ,bN,bM,bQ,aX,bF,bI,aJ,aM,bW,aN,aL,aP])]⟩
def mU29:cB:=⟨[.sl ⟨.d0,.d0,.d0,.d1,.d6⟩ 0 29 3,.agg cW],[(3,[aW,aG,aU,aF,aH,aS,cG,aY,bU,cC,cO,bH,cD,cL,cT,aI,bJ,bN,bM,bQ,aX,bF,bI,aJ,aM,bW,aN,aL,aP])],.tup [.sl ⟨.d0,.d0,.d0,.d1,.d7⟩ 0 30 3,.i .i64 (.ofNat 0)],[(3,169,[cW,aW,aG,aU,aF,aH,aS,cG,aY,bU,cC,cO,bH,cD,cL,cT,aI,bJ,bN,bM,bQ,aX,bF,bI,aJ,aM,bW,aN,aL,aP])]⟩
def mU34:cB:=⟨[.sl ⟨.d0,.d0,.d0,.d1,.d6⟩ 0 34 3,.agg eJ],[(3,[dJ,cW,dY,dR,cZ,aW,aG,aU,aF,aH,aS,cG,aY,bU,cC,cO,bH,cD,cL,cT,aI,bJ,bN,bM,bQ,aX,bF,bI,aJ,aM,bW,aN,aL,aP])],.tup [.sl ⟨.d0,.d0,.d0,.d1,.d7⟩ 0 35 3,.i .i64 (.ofNat 0)],[(3,169,[dJ,cW,dY,dR,eJ,cZ,aW,aG,aU,aF,aH,aS,cG,aY,bU,cC,cO,bH,cD,cL,cT,aI,bJ,bN,bM,bQ,aX,bF,bI,aJ,aM,bW,aN,aL,aP])]⟩
def mU42:cB:=⟨[.sl ⟨.d0,.d0,.d0,.d1,.d6⟩ 0 42 3,.agg gH],[(3,[dJ,cW,dY,dR,eJ,cZ,aW,fC,fE,aG,aU,fK,eT,aF,aH,aS,cG,aY,bU,cC,cO,bH,cD,cL,cT,aI,bJ,bN,bM,bQ,aX,fS,bF,bI,aJ,eP,aM,bW,aN,aL,fX,aP])],.tup [.sl ⟨.d0,.d0,.d0,.d1,.d7⟩ 0 43 3,.i .i64 (.ofNat 0)],[(3,169,[dJ,cW,dY,dR,eJ,cZ,aW,fC,fE,aG,aU,gH,fK,eT,aF,aH,aS,cG,aY,bU,cC,cO,bH,cD,cL,cT,aI,bJ,bN,bM,bQ,aX,fS,bF,bI,aJ,eP,aM,bW,aN,aL,fX,aP])]⟩
def mU54:cB:=⟨[.sl ⟨.d0,.d0,.d0,.d1,.d6⟩ 0 54 3,.agg xG],[(3,[dJ,cW,dY,dR,eJ,cZ,gV,oX,aW,fC,fE,tX,aG,aU,gH,iH,iR,fK,eT,aF,aH,aS,cG,lN,aY,bU,cC,cO,bH,cD,cL,cT,nD,aI,bJ,bN,bM,bQ,aX,fS,bF,bI,qQ,kP,aJ,eP,aM,bW,aN,jZ,jG,aL,fX,aP])],.tup [.sl ⟨.d0,.d0,.d0,.d1,.d7⟩ 0 55 3,.i .i64 (.ofNat 0)],[(3,169,[dJ,cW,dY,dR,eJ,cZ,gV,oX,aW,fC,xG,fE,tX,aG,aU,gH,iH,iR,fK,eT,aF,aH,aS,cG,lN,aY,bU,cC,cO,bH,cD,cL,cT,nD,aI,bJ,bN,bM,bQ,aX,fS,bF,bI,qQ,kP,aJ,eP,aM,bW,aN,jZ,jG,aL,fX,aP])]⟩
def fU3:cH cP 14 10000 90 mU3=true:=by kernel_rfl
def fU8:cH cP 14 10000 90 mU8=true:=by kernel_rfl
def fU23:cH cP 14 10000 90 mU23=true:=by kernel_rfl
def fU29:cH cP 14 10000 90 mU29=true:=by kernel_rfl
def fU34:cH cP 14 10000 90 mU34=true:=by kernel_rfl
def fU42:cH cP 14 10000 90 mU42=true:=by kernel_rfl
def fU54:cH cP 14 10000 90 mU54=true:=by kernel_rfl
end
