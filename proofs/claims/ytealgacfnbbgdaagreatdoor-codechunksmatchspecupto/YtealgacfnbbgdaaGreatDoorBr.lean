/- Lemmas; no condition. -/
import Derived.Test.YtealgacfnbbgdaaGreatDoorAm
set_option linter.all false
namespace Go.Proofs.YtealgacfnbbgdaaGreatDoor
open Go.Ev
noncomputable section
def mU5:cB:=⟨[.sl ⟨.d0,.d0,.d0,.d1,.d6⟩ 0 5 3,.agg aL],[(3,[aG,aF,aH,aI,aJ])],.tup [.sl ⟨.d0,.d0,.d0,.d1,.d7⟩ 0 6 3,.i .i64 (.ofNat 0)],[(3,169,[aG,aF,aH,aI,aJ,aL])]⟩
def mU12:cB:=⟨[.sl ⟨.d0,.d0,.d0,.d1,.d6⟩ 0 12 3,.agg aX],[(3,[aW,aG,aU,aF,aH,aS,aI,aJ,aM,aN,aL,aP])],.tup [.sl ⟨.d0,.d0,.d0,.d1,.d7⟩ 0 13 3,.i .i64 (.ofNat 0)],[(3,169,[aW,aG,aU,aF,aH,aS,aI,aX,aJ,aM,aN,aL,aP])]⟩
def mU19:cB:=⟨[.sl ⟨.d0,.d0,.d0,.d1,.d6⟩ 0 19 3,.agg bN],[(3,[aW,aG,aU,aF,aH,aS,aY,bH,aI,bJ,bM,aX,bF,bI,aJ,aM,aN,aL,aP])],.tup [.sl ⟨.d0,.d0,.d0,.d1,.d7⟩ 0 20 3,.i .i64 (.ofNat 0)],[(3,169,[aW,aG,aU,aF,aH,aS,aY,bH,aI,bJ,bN,bM,aX,bF,bI,aJ,aM,aN,aL,aP])]⟩
def mU30:cB:=⟨[.sl ⟨.d0,.d0,.d0,.d1,.d6⟩ 0 30 3,.agg cZ],[(3,[cW,aW,aG,aU,aF,aH,aS,cG,aY,bU,cC,cO,bH,cD,cL,cT,aI,bJ,bN,bM,bQ,aX,bF,bI,aJ,aM,bW,aN,aL,aP])],.tup [.sl ⟨.d0,.d0,.d0,.d1,.d7⟩ 0 31 3,.i .i64 (.ofNat 0)],[(3,169,[cW,cZ,aW,aG,aU,aF,aH,aS,cG,aY,bU,cC,cO,bH,cD,cL,cT,aI,bJ,bN,bM,bQ,aX,bF,bI,aJ,aM,bW,aN,aL,aP])]⟩
def mU33:cB:=⟨[.sl ⟨.d0,.d0,.d0,.d1,.d6⟩ 0 33 3,.agg dY],[(3,[dJ,cW,dR,cZ,aW,aG,aU,aF,aH,aS,cG,aY,bU,cC,cO,bH,cD,cL,cT,aI,bJ,bN,bM,bQ,aX,bF,bI,aJ,aM,bW,aN,aL,aP])],.tup [.sl ⟨.d0,.d0,.d0,.d1,.d7⟩ 0 34 3,.i .i64 (.ofNat 0)],[(3,169,[dJ,cW,dY,dR,cZ,aW,aG,aU,aF,aH,aS,cG,aY,bU,cC,cO,bH,cD,cL,cT,aI,bJ,bN,bM,bQ,aX,bF,bI,aJ,aM,bW,aN,aL,aP])]⟩
def mU47:cB:=⟨[.sl ⟨.d0,.d0,.d0,.d1,.d6⟩ 0 47 3,.agg jZ],[(3,[dJ,cW,dY,dR,eJ,cZ,gV,aW,fC,fE,aG,aU,gH,iH,iR,fK,eT,aF,aH,aS,cG,aY,bU,cC,cO,bH,cD,cL,cT,aI,bJ,bN,bM,bQ,aX,fS,bF,bI,aJ,eP,aM,bW,aN,jG,aL,fX,aP])],.tup [.sl ⟨.d0,.d0,.d0,.d1,.d7⟩ 0 48 3,.i .i64 (.ofNat 0)],[(3,169,[dJ,cW,dY,dR,eJ,cZ,gV,aW,fC,fE,aG,aU,gH,iH,iR,fK,eT,aF,aH,aS,cG,aY,bU,cC,cO,bH,cD,cL,cT,aI,bJ,bN,bM,bQ,aX,fS,bF,bI,aJ,eP,aM,bW,aN,jZ,jG,aL,fX,aP])]⟩
def mU48:cB:=⟨[.sl ⟨.d0,.d0,.d0,.d1,.d6⟩ 0 48 3,.agg kP],[(3,[dJ,cW,dY,dR,eJ,cZ,gV,aW,fC,fE,aG,aU,gH,iH,iR,fK,eT,aF,aH,aS,cG,aY,bU,cC,cO,bH,cD,cL,cT,aI,bJ,bN,bM,bQ,aX,fS,bF,bI,aJ,eP,aM,bW,aN,jZ,jG,aL,fX,aP])],.tup [.sl ⟨.d0,.d0,.d0,.d1,.d7⟩ 0 49 3,.i .i64 (.ofNat 0)],[(3,169,[dJ,cW,dY,dR,eJ,cZ,gV,aW,fC,fE,aG,aU,gH,iH,iR,fK,eT,aF,aH,aS,cG,aY,bU,cC,cO,bH,cD,cL,cT,aI,bJ,bN,bM,bQ,aX,fS,bF,bI,kP,aJ,eP,aM,bW,aN,jZ,jG,aL,fX,aP])]⟩
def fU5:cH cP 14 10000 90 mU5=true:=by kernel_rfl
def fU12:cH cP 14 10000 90 mU12=true:=by kernel_rfl
def fU19:cH cP 14 10000 90 mU19=true:=by kernel_rfl
def fU30:cH cP 14 10000 90 mU30=true:=by kernel_rfl
def fU33:cH cP 14 10000 90 mU33=true:=by kernel_rfl
def fU47:cH cP 14 10000 90 mU47=true:=by kernel_rfl
def fU48:cH cP 14 10000 90 mU48=true:=by kernel_rfl
end
