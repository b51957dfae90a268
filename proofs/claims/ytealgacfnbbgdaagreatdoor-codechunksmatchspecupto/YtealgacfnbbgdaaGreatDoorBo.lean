/- Lemmas; no condition. -/
import Derived.Test.YtealgacfnbbgdaaGreatDoorAm
set_option linter.all false
namespace Go.Proofs.YtealgacfnbbgdaaGreatDoor
open Go.Ev
noncomputable section
def mU2:cB:=⟨[.sl ⟨.d0,.d0,.d0,.d1,.d6⟩ 0 2 3,.agg aH],[(3,[aG,aF])],.tup [.sl ⟨.d0,.d0,.d0,.d1,.d7⟩ 0 3 3,.i .i64 (.ofNat 0)],[(3,169,[aG,aF,aH])]⟩
def mU9:cB:=⟨[.sl ⟨.d0,.d0,.d0,.d1,.d6⟩ 0 9 3,.agg aS],[(3,[aG,aF,aH,aI,aJ,aM,aN,aL,aP])],.tup [.sl ⟨.d0,.d0,.d0,.d1,.d7⟩ 0 10 3,.i .i64 (.ofNat 0)],[(3,169,[aG,aF,aH,aS,aI,aJ,aM,aN,aL,aP])]⟩
def mU22:cB:=⟨[.sl ⟨.d0,.d0,.d0,.d1,.d6⟩ 0 22 3,.agg bW],[(3,[aW,aG,aU,aF,aH,aS,aY,bU,bH,aI,bJ,bN,bM,bQ,aX,bF,bI,aJ,aM,aN,aL,aP])],.tup [.sl ⟨.d0,.d0,.d0,.d1,.d7⟩ 0 23 3,.i .i64 (.ofNat 0)],[(3,169,[aW,aG,aU,aF,aH,aS,aY,bU,bH,aI,bJ,bN,bM,bQ,aX,bF,bI,aJ,aM,bW,aN,aL,aP])]⟩
def mU24:cB:=⟨[.sl ⟨.d0,.d0,.d0,.d1,.d6⟩ 0 24 3,.agg cD],[(3,[aW,aG,aU,aF,aH,aS,aY,bU,cC,bH,aI,bJ,bN,bM,bQ,aX,bF,bI,aJ,aM,bW,aN,aL,aP])],.tup [.sl ⟨.d0,.d0,.d0,.d1,.d7⟩ 0 25 3,.i .i64 (.ofNat 0)],[(3,169,[aW,aG,aU,aF,aH,aS,aY,bU,cC,bH,cD,aI,bJ,bN,bM,bQ,aX,bF,bI,aJ,aM,bW,aN,aL,aP])]⟩
def mU39:cB:=⟨[.sl ⟨.d0,.d0,.d0,.d1,.d6⟩ 0 39 3,.agg fK],[(3,[dJ,cW,dY,dR,eJ,cZ,aW,fC,fE,aG,aU,eT,aF,aH,aS,cG,aY,bU,cC,cO,bH,cD,cL,cT,aI,bJ,bN,bM,bQ,aX,bF,bI,aJ,eP,aM,bW,aN,aL,aP])],.tup [.sl ⟨.d0,.d0,.d0,.d1,.d7⟩ 0 40 3,.i .i64 (.ofNat 0)],[(3,169,[dJ,cW,dY,dR,eJ,cZ,aW,fC,fE,aG,aU,fK,eT,aF,aH,aS,cG,aY,bU,cC,cO,bH,cD,cL,cT,aI,bJ,bN,bM,bQ,aX,bF,bI,aJ,eP,aM,bW,aN,aL,aP])]⟩
def mU44:cB:=⟨[.sl ⟨.d0,.d0,.d0,.d1,.d6⟩ 0 44 3,.agg iH],[(3,[dJ,cW,dY,dR,eJ,cZ,gV,aW,fC,fE,aG,aU,gH,fK,eT,aF,aH,aS,cG,aY,bU,cC,cO,bH,cD,cL,cT,aI,bJ,bN,bM,bQ,aX,fS,bF,bI,aJ,eP,aM,bW,aN,aL,fX,aP])],.tup [.sl ⟨.d0,.d0,.d0,.d1,.d7⟩ 0 45 3,.i .i64 (.ofNat 0)],[(3,169,[dJ,cW,dY,dR,eJ,cZ,gV,aW,fC,fE,aG,aU,gH,iH,fK,eT,aF,aH,aS,cG,aY,bU,cC,cO,bH,cD,cL,cT,aI,bJ,bN,bM,bQ,aX,fS,bF,bI,aJ,eP,aM,bW,aN,aL,fX,aP])]⟩
def mU51:cB:=⟨[.sl ⟨.d0,.d0,.d0,.d1,.d6⟩ 0 51 3,.agg oX],[(3,[dJ,cW,dY,dR,eJ,cZ,gV,aW,fC,fE,aG,aU,gH,iH,iR,fK,eT,aF,aH,aS,cG,lN,aY,bU,cC,cO,bH,cD,cL,cT,nD,aI,bJ,bN,bM,bQ,aX,fS,bF,bI,kP,aJ,eP,aM,bW,aN,jZ,jG,aL,fX,aP])],.tup [.sl ⟨.d0,.d0,.d0,.d1,.d7⟩ 0 52 3,.i .i64 (.ofNat 0)],[(3,169,[dJ,cW,dY,dR,eJ,cZ,gV,oX,aW,fC,fE,aG,aU,gH,iH,iR,fK,eT,aF,aH,aS,cG,lN,aY,bU,cC,cO,bH,cD,cL,cT,nD,aI,bJ,bN,bM,bQ,aX,fS,bF,bI,kP,aJ,eP,aM,bW,aN,jZ,jG,aL,fX,aP])]⟩
def fU2:cH cP 14 10000 90 mU2=true:=by kernel_rfl
def fU9:cH cP 14 10000 90 mU9=true:=by kernel_rfl
def fU22:cH cP 14 10000 90 mU22=true:=by kernel_rfl
def fU24:cH cP 14 10000 90 mU24=true:=by kernel_rfl
def fU39:cH cP 14 10000 90 mU39=true:=by kernel_rfl
def fU44:cH cP 14 10000 90 mU44=true:=by kernel_rfl
def fU51:cH cP 14 10000 90 mU51=true:=by kernel_rfl
end
