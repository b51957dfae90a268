/- Lemmas; no condition. -/
import Derived.Test.YtealgacfnbbgdaaGreatDoorAm
set_option linter.all false
namespace Go.Proofs.YtealgacfnbbgdaaGreatDoor
open Go.Ev
noncomputable section
def mU7:cB:=⟨[.sl ⟨.d0,.d0,.d0,.d1,.d6⟩ 0 7 3,.agg aN],[(3,[aG,aF,aH,aI,aJ,aM,aL])],.tup [.sl ⟨.d0,.d0,.d0,.d1,.d7⟩ 0 8 3,.i .i64 (.ofNat 0)],[(3,169,[aG,aF,aH,aI,aJ,aM,aN,aL])]⟩
def mU10:cB:=⟨[.sl ⟨.d0,.d0,.d0,.d1,.d6⟩ 0 10 3,.agg aU],[(3,[aG,aF,aH,aS,aI,aJ,aM,aN,aL,aP])],.tup [.sl ⟨.d0,.d0,.d0,.d1,.d7⟩ 0 11 3,.i .i64 (.ofNat 0)],[(3,169,[aG,aU,aF,aH,aS,aI,aJ,aM,aN,aL,aP])]⟩
def mU21:cB:=⟨[.sl ⟨.d0,.d0,.d0,.d1,.d6⟩ 0 21 3,.agg bU],[(3,[aW,aG,aU,aF,aH,aS,aY,bH,aI,bJ,bN,bM,bQ,aX,bF,bI,aJ,aM,aN,aL,aP])],.tup [.sl ⟨.d0,.d0,.d0,.d1,.d7⟩ 0 22 3,.i .i64 (.ofNat 0)],[(3,169,[aW,aG,aU,aF,aH,aS,aY,bU,bH,aI,bJ,bN,bM,bQ,aX,bF,bI,aJ,aM,aN,aL,aP])]⟩
def mU25:cB:=⟨[.sl ⟨.d0,.d0,.d0,.d1,.d6⟩ 0 25 3,.agg cG],[(3,[aW,aG,aU,aF,aH,aS,aY,bU,cC,bH,cD,aI,bJ,bN,bM,bQ,aX,bF,bI,aJ,aM,bW,aN,aL,aP])],.tup [.sl ⟨.d0,.d0,.d0,.d1,.d7⟩ 0 26 3,.i .i64 (.ofNat 0)],[(3,169,[aW,aG,aU,aF,aH,aS,cG,aY,bU,cC,bH,cD,aI,bJ,bN,bM,bQ,aX,bF,bI,aJ,aM,bW,aN,aL,aP])]⟩
def mU38:cB:=⟨[.sl ⟨.d0,.d0,.d0,.d1,.d6⟩ 0 38 3,.agg fE],[(3,[dJ,cW,dY,dR,eJ,cZ,aW,fC,aG,aU,eT,aF,aH,aS,cG,aY,bU,cC,cO,bH,cD,cL,cT,aI,bJ,bN,bM,bQ,aX,bF,bI,aJ,eP,aM,bW,aN,aL,aP])],.tup [.sl ⟨.d0,.d0,.d0,.d1,.d7⟩ 0 39 3,.i .i64 (.ofNat 0)],[(3,169,[dJ,cW,dY,dR,eJ,cZ,aW,fC,fE,aG,aU,eT,aF,aH,aS,cG,aY,bU,cC,cO,bH,cD,cL,cT,aI,bJ,bN,bM,bQ,aX,bF,bI,aJ,eP,aM,bW,aN,aL,aP])]⟩
def mU41:cB:=⟨[.sl ⟨.d0,.d0,.d0,.d1,.d6⟩ 0 41 3,.agg fX],[(3,[dJ,cW,dY,dR,eJ,cZ,aW,fC,fE,aG,aU,fK,eT,aF,aH,aS,cG,aY,bU,cC,cO,bH,cD,cL,cT,aI,bJ,bN,bM,bQ,aX,fS,bF,bI,aJ,eP,aM,bW,aN,aL,aP])],.tup [.sl ⟨.d0,.d0,.d0,.d1,.d7⟩ 0 42 3,.i .i64 (.ofNat 0)],[(3,169,[dJ,cW,dY,dR,eJ,cZ,aW,fC,fE,aG,aU,fK,eT,aF,aH,aS,cG,aY,bU,cC,cO,bH,cD,cL,cT,aI,bJ,bN,bM,bQ,aX,fS,bF,bI,aJ,eP,aM,bW,aN,aL,fX,aP])]⟩
def mU53:cB:=⟨[.sl ⟨.d0,.d0,.d0,.d1,.d6⟩ 0 53 3,.agg tX],[(3,[dJ,cW,dY,dR,eJ,cZ,gV,oX,aW,fC,fE,aG,aU,gH,iH,iR,fK,eT,aF,aH,aS,cG,lN,aY,bU,cC,cO,bH,cD,cL,cT,nD,aI,bJ,bN,bM,bQ,aX,fS,bF,bI,qQ,kP,aJ,eP,aM,bW,aN,jZ,jG,aL,fX,aP])],.tup [.sl ⟨.d0,.d0,.d0,.d1,.d7⟩ 0 54 3,.i .i64 (.ofNat 0)],[(3,169,[dJ,cW,dY,dR,eJ,cZ,gV,oX,aW,fC,fE,tX,aG,aU,gH,iH,iR,fK,eT,aF,aH,aS,cG,lN,aY,bU,cC,cO,bH,cD,cL,cT,nD,aI,bJ,bN,bM,bQ,aX,fS,bF,bI,qQ,kP,aJ,eP,aM,bW,aN,jZ,jG,aL,fX,aP])]⟩
def fU7:cH cP 14 10000 90 mU7=true:=by kernel_rfl
def fU10:cH cP 14 10000 90 mU10=true:=by kernel_rfl
def fU21:cH cP 14 10000 90 mU21=true:=by kernel_rfl
def fU25:cH cP 14 10000 90 mU25=true:=by kernel_rfl
def fU38:cH cP 14 10000 90 mU38=true:=by kernel_rfl
def fU41:cH cP 14 10000 90 mU41=true:=by kernel_rfl
def fU53:cH cP 14 10000 90 mU53=true:=by kernel_rfl
end
