/- Lemmas; no condition. -/
import Derived.Test.YtbdpdeonapmlgaaGreatDoorAw
import Derived.Defers
import Derived.Recover
import Derived.Maps.RangeRun
import Derived.Lib.Bytealg
import Derived.Laws.AppendOwn
set_option linter.all false
namespace Go.Ev
noncomputable section
variable {ops:List Oper} {n i s lf fuel g lim sz T j:Nat} {a:Act} {e e':Env} {h h' h0:H} {call:bR} {bef l tl rest:List Nat} {o:Oper} {t:TypeId} {p:Nat × Oper→Bool} {k:Env→H→List Rs} {ms y nw:List Id} {v z:V} {f:FuncId} {r:Result Next} {d:Option Nat} {M:Mem} {u:Value} {w' w w0:Wo} {fn:Func} {x:Operand} {L:List Rs} {c args xs:List V} {m mp m' m0 mc m1:Mp} {b:Id}
section
variable {P:Program} {m:Mp} {w:Wo}
def eY (P:Program) (call:bR):Prop:=
 ∀(f:FuncId) (vs:List V) (us:Lv) (m:Mp) (h:H) (w:Wo) (v:V) (h':H),HR m h w→Gl P m→Rl m vs us→call f vs h= .ok v h'→cO P ((callFunc f ⟨us⟩).run P w) m h w v h'
def cO.val {s:Sem Value} (hs:∃u w' m',s.run P w= .ok u w'∧Fr m h w m' h' w'∧R m' v u):cO P ((do pure (Next.value (←s)):Sem Next).run P w) m h w v h':=by
 obtain⟨u,w',m',h1,h2,h3⟩:=hs;exact .inl ⟨u,w',m',.inl (by simp [h1]),h2,h3⟩
def cO.unit {s:Sem Unit} (hs:∃w' m',s.run P w= .ok () w'∧Fr m h w m' h' w'∧R m' v undef):cO P ((do s;pure Next.skip:Sem Next).run P w) m h w v h':=by
 obtain⟨w',m',h1,h2,h3⟩:=hs;exact .inl ⟨undef,w',m',.inr ⟨by simp [h1],rfl⟩,h2,h3⟩
def Hx (a2:eY P call) (k:aY m n e a) (hg:Gl P m) {h h':H} (hr:HR m h w) {c:Call} {ty:TypeId}
  (a0:(Op.call c).operands.toList.all (cT P n)=true) {v:V} (hv:(HE P c).run call e h= .ok v h'):
  cO P ((do let d←resolve a.eval c ty;invoke d.target d.args:Sem Next).run P w) m h w v h':=by
 obtain⟨callee,args,argTypes⟩:=c;obtain⟨args⟩:=args;obtain⟨argTypes⟩:=argTypes;unfold HE at hv;simp only [Op.operands] at a0;cases callee with
 | value f=>
  simp [Call.operands] at a0;have hF:=cV k hg a0.1;obtain⟨g,A,B,e1,hv⟩:=Jk hv;rw [e1] at hF;simp only [R] at hF;obtain⟨a',c',hu,hA,hB⟩:=hF;split at hv
  ·rename_i a8;have a4:=uE k hg (xs:=args) (by simpa using a0.2);rw [UN,UN] at hv;have:=a2 a8 _ _ m h w v h' hr hg (hA.append (a4.append hB)) hv;simpa [resolve,hu,Deferred.ofValue,invoke] using this
  ·cases hv
 |invoke r nm=>cases hv
 | builtin b=>
  simp [Call.operands] at a0;simp only at hv;split at hv
  ·rename_i e0;cases e0
  ·rename_i x y t t2 ts e0;cases e0;simp at a0;have hX:=cV k hg a0.1;have hY:=cV k hg a0.2;unfold appC at hv;split at hv
   ·cases hv
   ·rename_i el u2 b0 hu a3;split at hv
    ·rename_i sz z hs hz;split at hv
     ·rename_i zc a6 hc hi;cases hcd:(Nat.ble a6.bytes 1000000&&Nat.beq (eJ zc) (sz+1)) with
      |false=>rw [hcd] at hv;cases hv
      | true=>
       rw [hcd] at hv;simp only [cS] at hv;simp only [aN] at hcd;split at hv
       ·rename_i new he;obtain⟨uz,hzr,rfl,i2,hi2,hzi⟩:=lW (w:=w) hz;rw [hi] at hi2;cases hi2;obtain⟨b2,h1,h2,h3⟩:=qW (m:=m) hc;obtain⟨i3,hi3,hsz⟩:=rP hs;rw [hi] at hi3;cases hi3;have b1:uz.cells.size=sz+1:=by
         rw [h1];show b2.length=_;rw [h2.length,←kH];exact aT hcd.2
        have T:AppTy P ⟨t::t2::ts⟩ (sz+1) el a6 uz:=⟨⟨t,t2,u2,by simp,by simp,hu,a3,b0⟩,hi,hzi,hsz,b1,cQ hcd.1⟩;have:=cO.val (Jp (ty:=ty) hr T hX hY he hv);simpa [resolve,invoke,builtin] using this
       ·cases hv
     ·cases hv
    ·cases hv
   ·cases hv
  ·rename_i x t ts e0;cases e0;simp at a0;have hX:=cV k hg a0;unfold SL at hv;split at hv
   ·rename_i el hu;split at hv
    ·rename_i sz z hs hz;split at hv
     ·rename_i zc hc;cases hcd:(Nat.beq (eJ zc) (sz+1)) with
      |false=>rw [hcd] at hv;cases hv
      |true=>
       rw [hcd] at hv;simp only [cS] at hv;have:=cO.val (Hl (P:=P) (ts:=⟨t::ts⟩) (ty:=ty) hr (by simp) hu hz hc (by rw [←kH];exact aT hcd) hX hv);simpa [resolve,invoke,builtin] using this
     ·cases hv
    ·cases hv
   ·cases hv
  ·rename_i x nn t t2 ts e0;cases e0;simp at a0;have hX:=cV k hg a0.1;have hN:=cV k hg a0.2;unfold ustrC at hv;split at hv
   ·rename_i el hu;split at hv
    ·rename_i hs;simp only at hv;split at hv
     ·rename_i N e1;rw [e1] at hN;simp only [R] at hN;have:=cO.val (P:=P) (WZ (P:=P) (ty:=ty) (t2:=t2) (ts:=ts) hr hu hs hX hv);have hm:(⟨[x,nn]⟩:Array Operand).map a.eval=#[a.eval x,.int .i64 (Int.ofNat N)]:=by simp [hN]
      simpa [resolve,invoke,builtin,hN] using this
     ·cases hv
    ·cases hv
   ·cases hv
  ·cases hv
def FZ (a2:eY P call) (k:aY m n e a) (hg:Gl P m) {h h':H} (hr:HR m h w) {o:Oper} (a0:o.op.operands.toList.all (cT P n)=true) {v:V}
  (hv:(qP P o.op).run call e h= .ok v h'):cO P ((execOp a.eval o).run P w) m h w v h':=by
 obtain⟨dst,op,type,pos,after,guard⟩:=o;simp only at a0 hv;have a1:∀{x:Operand},cT P n x=true→R m ((aE x).run e) (a.eval x):=fun hx=>cV k hg hx
 cases op<;>simp only [qP] at hv<;>(try (cases hv;done))
 case call c=>exact Hx a2 k hg hr a0 hv
 case alloc t=>
  split at hv
  ·rename_i z hz;split at hv
   ·rename_i c hc;exact cO.val (Js hr hz hc hv)
   ·cases hv
  ·cases hv
 case box t x=>
  have hX:=a1 (show cT P n x=true by simpa [Op.operands] using a0);cases hc:dV ((aE x).run e) with
  |none=>simp only [hc] at hv;cases hv
  |some c=>
   simp only [hc] at hv;exact cO.val (Ik hr hX hc hv)
 case makeMap t r=>
  cases r with
  |none=>exact cO.val (Ch hr (.inl rfl) hv)
  |some x=>cases hv
 case range t x=>
  have hX:=a1 (show cT P n x=true by simpa [Op.operands] using a0);split at hv
  ·rename_i kt et hu;obtain⟨b,e1,hv⟩:=yD hv;rw [e1] at hX;simp only [R] at hX;obtain⟨l,hl,a3⟩:=hX;split at hv
   ·rename_i es a7 he;have:=cO.val (P:=P) (ZQ hr hu hl he hv);simpa [execOp,a3] using this
   ·cases hv
  ·cases hv
 case next x isS=>
  have hX:=a1 (show cT P n x=true by simpa [Op.operands] using a0);cases isS with
  |true=>cases hv
  | false=>
   obtain⟨b,o,e1,hv⟩:=CP hv;rw [e1] at hX;obtain⟨l,hl,hu⟩:=R_p hX;cases ho:Nat.beq o 0 with
   |false=>rw [ho] at hv;cases hv
   |true=>
    rw [ho] at hv;have:=aT ho;subst this;have:=cO.val (P:=P) (Be (ty:=type) hr hl hv);simpa [execOp,hu] using this
 case mapUpdate t mm kx vx=>
  simp [Op.operands] at a0;have hM:=a1 a0.1;have hK:=a1 a0.2.1;have hV:=a1 a0.2.2;split at hv
  ·rename_i kt et hu;obtain⟨b,e1,hv⟩:=yD hv;rw [e1] at hM;simp only [R] at hM;obtain⟨l,hl,a3⟩:=hM;obtain⟨rfl,w',r1,r2⟩:=OQ hr hu hl hK hV hv;have:=cO.unit (P:=P) ⟨w',m,r1,r2,show R m cN undef by simp [R,Rl,cN,undef]⟩;simpa [execOp,a3] using this
  ·cases hv
 case insert t mm kx vx=>
  simp [Op.operands] at a0;have hM:=a1 a0.1;have hK:=a1 a0.2.1;have hV:=a1 a0.2.2;split at hv
  ·rename_i kt et hu;obtain⟨b,e1,hv⟩:=yD hv;rw [e1] at hM;simp only [R] at hM;obtain⟨l,hl,a3⟩:=hM;obtain⟨rfl,w',r1,r2⟩:=OQ hr hu hl hK hV hv;have:=cO.unit (P:=P) ⟨w',m,r1,r2,show R m cN undef by simp [R,Rl,cN,undef]⟩;simpa [execOp,a3] using this
  ·cases hv
 case mapEntry t mm kx=>
  simp [Op.operands] at a0;have hM:=a1 a0.1;have hK:=a1 a0.2;split at hv
  ·rename_i kt et hu;split at hv
   ·rename_i z hz;obtain⟨b,e1,hv⟩:=yD hv;rw [e1] at hM;simp only [R] at hM;obtain⟨l,hl,a3⟩:=hM;obtain⟨u,w',r1,r2,r3⟩:=Cf hr hu hz hl hK hv;have:=cO.val (P:=P) ⟨u,w',m,r1,r2,r3⟩;simpa [execOp,a3] using this
   ·cases hv
  ·cases hv
 case entryStore t mm sx vx=>
  simp [Op.operands] at a0;have hM:=a1 a0.1;have hK:=a1 a0.2.1;have hV:=a1 a0.2.2;obtain⟨b,e1,hv⟩:=yD hv;rw [e1] at hM;simp only [R] at hM;obtain⟨l,hl,a3⟩:=hM;obtain⟨kk,nn,e2,hv⟩:=HZ hv;rw [e2] at hK;simp only [R] at hK;split at hv
  ·rename_i nn;obtain⟨rfl,w',r1,r2⟩:=Fu (P:=P) (t:=t) (kk:=kk) hr hl hV hv;have:=cO.unit (P:=P) ⟨w',m,r1,r2,show R m cN undef by simp [R,Rl,cN,undef]⟩;simpa [execOp,a3,hK] using this
  ·cases hv
 case buildSlice t len ps=>
  split at hv
  ·rename_i el hu;split at hv
   ·rename_i sz z hs hz;split at hv
    ·rename_i zc hc;cases hcd:(Nat.ble (len*(sz+1)) 16777216&&Nat.beq (eJ zc) (sz+1)) with
     |false=>rw [hcd] at hv;cases hv
     | true=>
      rw [hcd] at hv;simp only [cS] at hv;simp only [aN] at hcd;split at hv
      ·rename_i cs hb;exact cO.val (Ii k hg hr hu (by simpa [Op.operands] using a0) hs hz hc (cQ hcd.1) (by rw [←kH];exact aT hcd.2) hb hv)
      ·cases hv
    ·cases hv
   ·cases hv
  ·cases hv
 case makeSlice t lx cx=>
  simp [Op.operands] at a0;have hL:=a1 a0.1;have hC:=a1 a0.2;split at hv
  ·rename_i el hu;split at hv
   ·rename_i sz z hs hz;split at hv
    ·rename_i zc a6 hc hi;cases hcd:(Nat.ble a6.bytes 1000000&&Nat.beq (eJ zc) (sz+1)) with
     |false=>rw [hcd] at hv;cases hv
     | true=>
      rw [hcd] at hv;simp only [cS] at hv;simp only [aN] at hcd;obtain⟨k1,n1,e1,hv1⟩:=HZ hv;clear hv;obtain⟨k2,n2,e2,hv⟩:=HZ hv1;clear hv1;rw [e1] at hL;rw [e2] at hC;simp only [R] at hL hC;split at hv
      ·rename_i N M;cases hcd2:(Nat.ble N M&&Nat.ble M 100000) with
       |false=>rw [hcd2] at hv;cases hv
       |true=>
        rw [hcd2] at hv;simp only [cS] at hv;simp only [aN] at hcd2;have:=cO.val (P:=P) (Cg (k1:=k1) (k2:=k2) hr hu hs hz hc hi (cQ hcd.1) (by rw [←kH];exact aT hcd.2) (cQ hcd2.1) (cQ hcd2.2) hv);simpa [execOp,hL,hC] using this
      ·cases hv
    ·cases hv
   ·cases hv
  ·cases hv
 case store t ax vx=>
  simp [Op.operands] at a0;have hA:=a1 a0.1;have hV:=a1 a0.2;split at hv
  ·rename_i nn hs;obtain⟨b,o,e1,hv⟩:=CP hv;rw [e1] at hA;obtain⟨l,hl,hu⟩:=R_p hA;cases hc:dV ((aE vx).run e) with
   |none=>simp only [hc] at hv;cases hv
   | some c=>
    simp only [hc] at hv;cases hn:Nat.beq (eJ c) nn with
    |false=>rw [hn] at hv;cases hv
    | true=>
     rw [hn] at hv;have a5:c.length=nn:=by rw [←kH];exact aT hn
     obtain⟨c',h1,h2,h3⟩:=xT hV hc;obtain⟨a6,hi,hsz⟩:=rP hs;obtain⟨rfl,w',r1,r2⟩:=WP (P:=P) hr hl a5 h2 h3 hv;have a9:c'.length=nn:=by rw [h2.length,a5]
     have:=cO.unit (P:=P) (s:=Instr.storeAt t (a.eval ax) (a.eval vx)) ⟨w',m,by
      simp [Instr.storeAt,hu,Instr.sureAddr,storeVar,sizeOf,typeInfo,hi,hsz,h1,a9,r1],r2,show R m cN undef by simp [R,Rl,cN,undef]⟩
     simpa [execOp] using this
  ·cases hv
end
section
variable {P:Program} {m:Mp} {w:Wo}
def FY {n:Nat} {e:Env} (hv:cO P r m h w v h') {next:Act→Wo→Prop} {Q:Exit→Act→Wo→Prop}
  (hn:∀u m' w',Fr m h w m' h' w'→R m' v u→next (a.put o.dst u) w'):o.upon P a next Q r:=by
 rcases hv with⟨u,w',m',h1|⟨h1,h2⟩,hF,hR⟩|⟨f,us,h1,hC⟩
 ·rw [h1,yM];exact hn u m' w' hF hR
 ·rw [h1,Oper.upon_skip,←h2];exact hn u m' w' hF hR
 ·rw [h1,Oper.upon_enter];refine Calls.mono hC ?_;rintro x w' ⟨u,m',rfl,hF,hR⟩;exact hn u m' w' hF hR
def sN (n:Nat):Option Tmp→Bool
 |none=>true
 |some d=>Nat.ble (Nat.succ d) n
def UD (a1:eY P call) (k:aY m n e a) (hg:Gl P m) {h h':H} (hr:HR m h w) {o:Oper} (a0:o.op.operands.toList.all (cT P n)=true) (hd:sN n o.dst=true)
  (hv:(CK P o).run call e h= .ok e' h') {next:Act→Wo→Prop} {Q:Exit→Act→Wo→Prop}
  (hn:∀m' a' w',Fr m h w m' h' w'→aY m' n e' a'→next a' w'):o.wp P a w next Q:=by
 unfold Oper.wp;unfold CK at hv;split at hv
 ·rename_i f ts a2;rw [a2] at a0;simp [Op.operands,Call.operands] at a0;have hF:=cV k hg a0;obtain⟨L,hL,hDf⟩:=k.dfr;cases hD:o.dst with
  |some d=>rw [hD] at hv;cases hv
  |none=>
  rw [hD] at hv;simp only [hL] at hv;split at hv
  ·rename_i g A B l e1 e2;cases hv;cases e2;rw [e1] at hF;simp only [R] at hF;obtain⟨a',c',hu,hA,hB⟩:=hF;have a3:(execOp a.eval o).run P w= .ok (.defer { target:=.fn g ⟨c'⟩,args:=⟨a'⟩ }) w:=by
    simp [execOp,a2,resolve,hu,Deferred.ofValue]
   rw [a3,Oper.upon_defer,hD];refine hn m _ w (Fr.refl hr) ⟨k.size,k.le,fun t ht=>?_,_,by rw [uS],?_⟩
   ·have a4:=k.le;rw [qV (by omega) (by unfold fW;omega) (by unfold fW;omega)];exact k.val t ht
   ·exact⟨a',c',_,rfl,hA,hB,hDf⟩
  ·cases hv
 ·cases hH:isHeavy o.op<;>cases hD:o.dst<;>rw [hH,hD] at hv<;>simp only at hv
  ·cases hl:(oY P o.op).run e h with
   |none=>rw [hl] at hv;cases hv
   |some v=>
    rw [hl] at hv;cases hv;obtain⟨u,h1,h2⟩:=AX k hg hr a0 hl;rw [h1,yM,hD];exact hn m a w (Fr.refl hr) k
  ·rename_i d;cases hl:(oY P o.op).run e h with
   |none=>rw [hl] at hv;cases hv
   |some v=>
    rw [hl] at hv;cases hv;obtain⟨u,h1,h2⟩:=AX k hg hr a0 hl;rw [h1,yM,hD];rw [hD] at hd;exact hn m _ w (Fr.refl hr) (k.set (cQ hd) h2)
  ·cases hl:(qP P o.op).run call e h with
   |bad=>rw [hl] at hv;cases hv
   |ok v hx=>
    rw [hl] at hv;cases hv;refine FY (n:=n) (e:=e) (FZ a1 k hg hr a0 hl) ?_;intro u m' w' hF hR;rw [hD];exact hn m' a w' hF (k.mono hF.le)
  ·rename_i d;cases hl:(qP P o.op).run call e h with
   |bad=>rw [hl] at hv;cases hv
   |ok v hx=>
    rw [hl] at hv;cases hv;refine FY (n:=n) (e:=e) (FZ a1 k hg hr a0 hl) ?_;intro u m' w' hF hR;rw [hD];rw [hD] at hd;exact hn m' _ w' hF ((k.mono hF.le).set (cQ hd) hR)
end
section
variable (P:Program)
structure NV where
 ob:Id→O
 v:Id→V
structure NOp where
 run:Env→Option NV
def sU:NOp:=⟨fun _=>none⟩
def oS (ty:Nat) (sz:Nat) (els:List (List V)) (vf:Id→V):NV:=⟨fun i=>.cells sz els i (.rw ty),vf⟩
def qD:Op→NOp
 | .alloc t=>(match fY P t with
  |some z=>(match dV z with
   |some c=>⟨fun _=>some (oS t (eJ c) [c] (fun i=>.p i 0))⟩
   |none=>sU)
  |none=>sU)
 | .box t x=>⟨fun e=>match dV ((aE x).run e) with|some c=>some (oS t (eJ c) [c] (fun i=>.p i 0))|none=>none⟩
 | .buildSlice t len ps=>(match P.underlying t with
  | some (.slice el)=>(match bJ P el,fY P el with
   |some (sz+1),some z=>(match dV z with
    | some zc=>bif Nat.ble (len*(sz+1)) 16777216&&Nat.beq (eJ zc) (sz+1) then
      ⟨fun e=>match iT (fun i=>some (i*(sz+1),sz+1)) ((jZ zc len).flatten) ((lE ps.toList).run e) with
        |some cs=>some (oS el (sz+1) (nR (sz+1) len cs) (fun i=>.sl i 0 len (sz+1)))
        |none=>none⟩ else sU
    |none=>sU)
   |_,_=>sU)
  |_=>sU)
 | .makeMap _ none=>⟨fun _=>some ⟨fun _=>.map [] 0,fun i=>.mp i⟩⟩
 |_=>sU
def DP:Env:=N8.all (N8.all (N8.all .top))
def cD (e:Env):List Nat→Env
 | []=>iP fW (bQ fW e) DP
 |t::l=>iP t (bQ t e) (cD e l)
def KJ (l:List Operand):List Nat:=l.filterMap (fun| .tmp t=>some t|_=>none)
def gDst (ops:List Oper) (o:Oper):Option Nat:=match o.guard with|some (g,_)=>(kP ops g).bind (·.dst)|none=>none
def cK (ops:List Oper) (o:Oper):List Nat:=KJ o.op.operands.toList++(gDst ops o).toList
def gdC (ops:List Oper) (o:Oper) (e:Env):Option Bool:=
 match o.guard with
 |none=>some true
 | some (j,want)=>match (kP ops j).bind (·.dst) with
  |none=>none
  |some g=>match bQ g e with
   | .b b=>some (b==want)
   | .tup []=>some false
   |_=>none
def qJ (ops:List Oper) (o:Oper) (e:Env) (h:H):Option V:=
 match gdC ops o e with
 |some true=>(oY P o.op).run e h
 |some false=>some cN
 |none=>none
def hvC (op:Op) (call:bR) (e:Env) (h:H):VH:=
 bif isHeavy op then(qP P op).run call e h else vhO h ((oY P op).run e h)
inductive Kn where
 |light|new|heavy
def Kn.isHeavy:Kn→Bool| .heavy=>true|_=>false
def dstIs (d:Nat) (o:Oper):Bool:=match o.dst with|some d'=>Nat.beq d' d|none=>false
def zB (ops:List Oper) (d:Nat) (o:Oper):Bool:=oU d (cK ops o)||dstIs d o
def uK (ops:List Oper) (bef:List Nat) (i:Nat) (o:Oper):Bool:=
 match o.dst with
 |none=>false
 |some d=>oU d (cK ops o)||(jV 0 ops).any (fun x=>!Nat.beq x.1 i&&(zB ops d x.2&& !Nat.testBit (natAt bef x.1) i))
def gC (ops:List Oper) (bef:List Nat) (i:Nat) (o:Oper):Kn:=
 bif uK ops bef i o then .heavy else bif isNew o.op then .new else bif isHeavy o.op then .heavy else .light
structure PN where
 idx:Nat
 id:Id
 ob:O
structure PC where
 idx:Nat
 chk:H→Bool
def FX:Id:=⟨.d7,.d7,.d7,.d7,.d7⟩
def hq (h:H):H:=⟨h.mem,h.fams,FX⟩
def dY (p:Nat→Bool):List PN→Mem→Mem
 | [],m=>m
 |x::l,m=>bif p x.idx then dU x.id (some x.ob) (dY p l m) else dY p l m
def eU (p:Nat→Bool) (pn:List PN) (h:H):H:=⟨dY p pn h.mem,h.fams,h.next⟩
def gQ (d:Option Nat) (v:V) (e:Env):Env:=match d with|some d=>iP d v e|none=>e
def eqO (v:V) (x:Option V):Bool:=match x with|some v'=>V.beq v v'|none=>false
def uC (h:H):List PC→Bool
 | []=>true
 |c::l=>c.chk h&&uC h l
structure DOp2 where
 run:bR→Env→H→List PN→List PC→Rs
def kS:DOp2:=⟨fun _ e h pn _=>.ok e (eU (fun _=>true) pn h)⟩
def fF (base:DOp2) (ops:List Oper) (bef:List Nat):List Nat→DOp2
 | []=>base
 | s ::l=>match kP ops s with
  |none=>⟨fun _ _ _ _ _=>.bad⟩
  | some o=>match gC ops bef s o with
   | .light=>⟨fun call e h pn pc=>match qJ P ops o (cD e (cK ops o)) (hq h) with
     |none=>.bad
     |some v=>(fF base ops bef l).run call (gQ o.dst v e) h pn (⟨s,fun h'=>eqO v (qJ P ops o (cD e (cK ops o)) h')⟩::pc)⟩
   | .new=>⟨fun call e h pn pc=>match gdC ops o (cD e (cK ops o)) with
     | some true=>(match (qD P o.op).run (cD e (cK ops o)),Id.succ h.next with
       |some nv,some nx=>(fF base ops bef l).run call (gQ o.dst (nv.v h.next) e) ⟨h.mem,h.fams,nx⟩ (⟨s,h.next,nv.ob h.next⟩::pn) pc
       |_,_=>.bad)
     |some false=>(fF base ops bef l).run call (gQ o.dst cN e) h pn pc
     |none=>.bad⟩
   | .heavy=>⟨fun call e h pn pc=>match gdC ops o (cD e (cK ops o)) with
     | some true=>(match hvC P o.op call (cD e (cK ops o)) (eU (Nat.testBit (natAt bef s)) pn h) with
       | .ok v h'=>bif uC (hq h') (gL (fun c=>!Nat.testBit (natAt bef s) c.idx) pc) then
         (fF base ops bef l).run call (gQ o.dst v e) h' (gL (fun x=>!Nat.testBit (natAt bef s) x.idx) pn) (gL (fun c=>!Nat.testBit (natAt bef s) c.idx) pc) else .bad
       | .bad=>.bad)
     |some false=>(fF base ops bef l).run call (gQ o.dst cN e) h pn pc
     |none=>.bad⟩
def LI (bef:List Nat):List Nat→List Nat→List Nat
 | [],rest=>rest
 |h::hs,rest=>gL (fun x=>!Nat.testBit (natAt bef x) h&&(!Nat.beq x h&& !oU x hs)) rest++h::LI bef hs (gL (fun x=>Nat.testBit (natAt bef x) h||oU x hs) rest)
def nI (ops:List Oper) (bef:List Nat) (tl:List Nat) (T:Nat):List Nat→Bool
 | []=>(jV 0 ops).all (fun x=>Nat.testBit T x.1||oU x.1 tl)
 |s::l=>!Nat.testBit T s&&(Nat.beq (natAt bef s&&&T) (natAt bef s)&&((kP ops s).isSome&&nI ops bef tl (T|||2^s) l))
def mK (ops:List Oper) (bef:List Nat) (tl:List Nat):List Nat→Bool
 | []=>true
 |s::l=>(match kP ops s with|some o=>!(gC ops bef s o).isHeavy||(l.all (fun x=>Nat.testBit (natAt bef x) s)&&tl.all (fun x=>Nat.testBit (natAt bef x) s))|none=>false)&&mK ops bef tl l
def kR (ops:List Oper) (s:Nat):Bool:=
 match kP ops s with
 |some o=>(match o.op,o.dst,o.guard with| .store ..,none,none=>true|_,_,_=>false)
 |none=>false
def storeAt (ops:List Oper) (s:Nat) (e:Env):Option Id:=
 match kP ops s with
 |some o=>(match o.op with| .store _ x _=>(match (aE x).run (cD e (cK ops o)) with| .p b _=>some b|_=>none)|_=>none)
 |none=>none
def qG (b:Id):List Id→Bool
 | []=>false
 |a::l=>bif Id.beq a b then true else qG b l
def EI (ops:List Oper) (s1 s2:Nat) (e:Env) (h:H) (pn:List PN):Bool:=
 match pn,storeAt ops s1 e,storeAt ops s2 e with
 | [],some b1,some b2=>(match aB b1 h.mem,aB b2 h.mem with
  |some (.cells _ _ f1 _),some (.cells _ _ f2 _)=>!Id.beq f1 f2&&(!Id.beq b1 b2&&(!qG b2 (aP f1 h.fams)&& !qG b1 (aP f2 h.fams)))
  |_,_=>false)
 |_,_,_=>false
def sR:List (List V)→List (List V)→Bool
 | [],[]=>true
 |a::l,b::r=>jC a b&&sR l r
 |_,_=>false
def EJ (ops:List Oper) (bef:List Nat) (s1 s2:Nat):DOp2:=
 ⟨fun call e h pn pc=>match (fF P kS ops bef [s1,s2]).run call e h pn pc,(fF P kS ops bef [s2,s1]).run call e h pn pc with
  | .ok e1 h1,.ok _ _=>bif EI ops s1 s2 e h pn then .ok e1 h1 else .bad
  |_,_=>.bad⟩
def tE (ops:List Oper):Bool:=(jV 0 ops).all (fun x=>x.2.after.toList.all (fun e=>!iI e||Nat.ble (Nat.succ e.on) x.1))
def nJ (ops:List Oper) (bef:List Nat):Bool:=
 (jV 0 ops).all (fun x=>match x.2.dst with
  |none=>true
  |some d=>(jV 0 ops).all (fun y=>Nat.beq y.1 x.1||(!zB ops d y.2||(Nat.testBit (natAt bef y.1) x.1||Nat.testBit (natAt bef x.1) y.1))))
def Ef (ops:List Oper) (bef:List Nat):Bool:=
 (jV 0 ops).all (fun x=>match x.2.guard with|none=>true|some (g,_)=>Nat.testBit (natAt bef x.1) g)
def DR (ops:List Oper) (bef:List Nat):List Nat→List Nat × List Nat
 | []=>([],[])
 | [a,b]=>bif kR ops a&&(kR ops b&& !Nat.testBit (natAt bef b) a) then([],[a,b]) else([a,b],[])
 |a::l=>match DR ops bef l with|(p,t)=>(a::p,t)
def xY (ops:List Oper) (bef:List Nat):List Nat→DOp2
 | [a,b]=>EJ P ops bef a b
 |_=>kS
def rN (ops:List Oper) (bef:List Nat):List Nat→Bool
 | []=>true
 | [a,b]=>kR ops a&&(kR ops b&& !Nat.beq a b)
 |_=>false
def jO:List Nat→Nat
 | []=>0
 |a::l=>2^a|||jO l
def vY (ops:List Oper) (bef:List Nat) (T:Nat):List Nat→Bool
 | [a,b]=>nI ops bef [] T [a,b]&&nI ops bef [] T [b,a]
 |_=>true
def regE (ops:List Oper):SOp:=
 match aH [] ops with
 | bef=>match LI bef ((gL (fun x=>(gC ops bef x.1 x.2).isHeavy) (jV 0 ops)).map (·.1)) ((jV 0 ops).map (·.1)) with
  | pl0=>match DR ops bef pl0 with
   |(pl,tl)=>bif tE ops&&(nJ ops bef&&(Ef ops bef&&(nI ops bef tl 0 pl&&(mK ops bef tl pl&&(rN ops bef tl&&vY ops bef (jO pl) tl))))) then
    ⟨fun call e h=>(fF P (xY P ops bef tl) ops bef pl).run call e h [] []⟩
   else⟨fun _ _ _=>.bad⟩
end
section
variable {P:Program} {m:Mp} {w:Wo}
def NewOk (P:Program) (s:Sem Value) (m:Mp) (w:Wo) (nv:NV):Prop:=
 ∃u o l w',s.run P w= .ok u w'∧w'.heap=w.heap.push o∧w'.os=w.os∧w'.tape=w.tape∧w'.output=w.output∧l.blk=w.heap.size∧
  (∀i,jJ (nv.ob i))∧(∀i sz els f ro,nv.ob i= .cells sz els f ro→f=i)∧
  (∀i (m':Mp),m.le m'→∀w2:Wo,w2.heap[w.heap.size]?=some o→ObjAt m' w2 l (nv.ob i))∧(∀i (m':Mp),m' i=some l→R m' (nv.v i) u)
def EW {els:List (List V)} (he:∀el∈els,el.length=sz)
  {us:Lv} (hR:Rl m els.flatten us) (hs:∀x∈us,dR x) {C:Array Value} {extra:Lv} (hC:C.toList=us++extra) (t:TypeId) (fz:Nat × Nat)
  (a7:fz.1=fz.2∨(sz=1∧C.size≤fz.1)) (vf:Id→V) {s:Sem Value} {u:Value} {w':Wo} (a3:s.run P w= .ok u w') (hw:w'.heap=w.heap.push (.cells C t fz)) (h1:w'.os=w.os) (h2:w'.tape=w.tape) (h3:w'.output=w.output)
  (hv:∀i (m':Mp),m' i=some ⟨w.heap.size,0,C.size⟩→R m' (vf i) u):NewOk P s m w (oS t sz els vf):=by
 have a1:C.size=us.length+extra.length:=by rw [←cU,hC];simp
 refine⟨u,.cells C t fz,⟨w.heap.size,0,C.size⟩,w',a3,hw,h1,h2,h3,rfl,fun _=>by simp [jJ,oS],fun i _ _ _ _ e=>by cases e;rfl,?_,hv⟩;intro i m' hm w' a4;refine⟨C,t,fz,⟨a4,by simp,?_,he,?_,?_,?_,fun ty e=>by cases e;rfl,CZ _⟩⟩
 ·show els.flatten.length≤C.size;rw [←hR.length];omega
 ·intro i x hx;obtain⟨u,hu,hRu⟩:=hR.get hx;have hi:=(aM.1 hu).1;refine⟨u,?_,hRu.mono hm,hs u (aV hu)⟩;show C[0+i]?=some u;rw [bT,←gP,hC,dW hi,hu]
 ·intro _ i hi;show¬(fz.1≤0+i∧0+i<fz.2);have b3:i<C.size:=hi;rcases a7 with h1|⟨_,h2⟩<;>omega
 ·intro _ hz;rcases a7 with h1|⟨h1,_⟩
  ·exact h1
  ·exact absurd h1 hz
def Jt (hz:fY P t=some z) (hc:dV z=some c):NewOk P (Instr.alloc t true (.tuple #[])) m w (oS t (eJ c) [c] (fun i=>.p i 0)):=by
 obtain⟨uz,hzr,rfl,_⟩:=lW (w:=w) hz;obtain⟨c',h1,h2,h3⟩:=qW (m:=m) hc;exact EW (by simp [kH]) (us:=c') (by simpa using h2) h3 (C:=uz.cells) (extra:=[]) (by rw [h1];simp) t (0,0) (.inl rfl) _
  (u:=.pointer (some ⟨w.heap.size,0,none⟩)) (w':={ w with heap:=w.heap.push (.cells uz.cells t (0,0)) }) (by simp [Instr.alloc,hzr,newVar,newRow]) rfl rfl rfl rfl (fun i m' hm=>by simp only [R];exact⟨_,hm,rfl⟩)
def Il {x:V} (hx:R m x u) (hc:dV x=some c):NewOk P (Instr.box t u) m w (oS t (eJ c) [c] (fun i=>.p i 0)):=by
 obtain⟨c',h1,h2,h3⟩:=xT hx hc;exact EW (by simp [kH]) (us:=c') (by simpa using h2) h3 (C:=u.cells) (extra:=[]) (by rw [h1];simp) t (0,0) (.inl rfl) _
  (u:=.pointer (some ⟨w.heap.size,0,none⟩)) (w':={ w with heap:=w.heap.push (.cells u.cells t (0,0)) }) (by simp [Instr.box,newVar,newRow]) rfl rfl rfl rfl (fun i m' hm=>by simp only [R];exact⟨_,hm,rfl⟩)
def Ci {x:Option Value} (hx:x=none∨(∃kt et kk n,P.underlying t=some (.map kt et)∧x=some (.int kk n))):NewOk P (Instr.makeMap t x) m w ⟨fun _=>.map [] 0,fun i=>.mp i⟩:=by
 refine⟨.map (some w.heap.size),.map #[] 0,⟨w.heap.size,0,0⟩,{ w with heap:=w.heap.push (.map #[] 0) },?_,rfl,rfl,rfl,rfl,rfl,fun _=>trivial,?_,?_,?_⟩
 rotate_left
 ·intro i sz els f ro e;simp at e
 ·intro i m' hm w' a4;exact⟨[],a4,by simp [bP]⟩
 ·intro i m' hm;simp only [R];exact⟨_,hm,rfl⟩
 rcases hx with rfl|⟨kt,et,kk,n,hu,rfl⟩
 ·simp [Instr.makeMap]
 ·simp [Instr.makeMap,dQ hu,asInt,asIntOf]
def Ij (ke:aY m n e a) (hg:Gl P m) {t el:TypeId} {len sz:Nat} {z:V} {zc:List V} {ps:Array (Nat × Operand)} (hu:P.underlying t=some (.slice el))
  (hx:(ps.toList.map (·.2)).all (cT P n)=true) (hs:bJ P el=some (sz+1)) (hz:fY P el=some z) (hc:dV z=some zc) (b4:len*(sz+1)≤16777216) (a9:zc.length=sz+1) {cs:List V}
  (hb:iT (fun i=>some (i*(sz+1),sz+1)) ((jZ zc len).flatten) ((lE ps.toList).run e)=some cs):
  NewOk P (Instr.buildSlice t len (ps.map fun(i,x)=>(i,a.eval x))) m w (oS el (sz+1) (nR (sz+1) len cs) (fun i=>.sl i 0 len (sz+1))):=by
 obtain⟨p1,p2⟩:=zZ ke hg hx;have b1:(ps.map fun(i,x)=>(i,a.eval x)).toList=ps.toList.map fun x=>(x.1,a.eval x.2):=by simp
 obtain⟨uz,hzr,rfl,_⟩:=lW (w:=w) hz;obtain⟨a6,h1,h2,h3⟩:=qW (m:=m) hc;have a5:uz.cells.size=sz+1:=by rw [h1];show a6.length=_;rw [h2.length,a9]
 obtain⟨r',hr1,hr2,hr3⟩:=BV _ _ p1 p2 (h2.rep len) (zM h3 len) hb;have a2:((Array.range (len*(sz+1))).map (uz.cells[· %uz.cells.size]!))=⟨(List.replicate len a6).flatten⟩:=by
  apply kY.1;rw [←a5,yY uz.cells len (by omega),h1]
 have a1:cs.length=len*(sz+1):=by
  have hl:∀(ps:List (Nat × V)) (c r:List V),iT (fun i=>some (i*(sz+1),sz+1)) c ps=some r→r.length=c.length:=by
   intro ps
   induction ps with
   |nil=>intro c r h;have:c=r:=aK (by simpa [iT] using h);rw [this]
   | cons p ps ih=>
    intro c r h;obtain⟨i,x⟩:=p;unfold iT at h;simp only at h;cases hq:dV x with
    |none=>rw [hq] at h;cases h
    | some c0=>
     rw [hq] at h;simp only at h;cases hb:Nat.beq (eJ c0) (sz+1) with
     |false=>rw [hb] at h;cases h
     | true=>
      rw [hb] at h;simp only [cS] at h;cases ho:iB (i*(sz+1)) c c0 with
      |none=>rw [ho] at h;cases h
      |some c2=>
       rw [ho] at h;obtain⟨h5,h6⟩:=uD _ _ _ ho;rw [ih _ _ h,h6];simp only [aI,aX,cW];omega
  have:=hl _ _ _ hb;rw [this,wE];have:∀k,((List.replicate k zc).flatten).length=k*(sz+1):=by
   intro k;induction k with
   |zero=>simp
   |succ k ih=>rw [mV,jT,aI,ih,a9,gY];omega
  exact this len
 obtain⟨c1,c2,c3⟩:=GX len cs a1;refine EW c2 (us:=r') (by rw [c1];exact hr2) hr3 (C:=⟨r'⟩) (extra:=[]) (by simp) el (0,0) (.inl rfl) _ (u:=.slice (some ⟨w.heap.size,0,none⟩) len len) (w':={ w with heap:=w.heap.push (.cells ⟨r'⟩ el (0,0)) }) ?_ rfl rfl rfl rfl ?_
 ·have a8:¬(len*(sz+1)>2^24):=by omega
  rw [←b1] at hr1
  by_cases h0:len*(sz+1)=0
  ·have b0:len=0:=by
    rcases Nat.mul_eq_zero.1 h0 with h|h
    ·exact h
    ·omega
   subst b0;simp only [Instr.buildSlice,aU,bU hu,cI,iG hs,yK,if_neg a8,if_pos h0,cC];have e0:((Array.range (0*(sz+1))).map fun x=>(#[]:Array Value)[x%(#[]:Array Value).size]!)=(⟨(List.replicate 0 a6).flatten⟩:Array Value):=by simp
   simp only [e0,hr1,aU,newRow,IJ,cI,cC]
  ·simp only [Instr.buildSlice,aU,bU hu,cI,iG hs,yK,if_neg a8,if_neg h0,cC,hzr,a2,hr1,newRow,IJ]
 ·intro i m' hm;simp only [R];refine⟨_,len,hm,by simp,aA _,?_⟩;show 0+len*(sz+1)≤r'.length;rw [hr2.length];omega
def Bf (k:aY m n e a) (hg:Gl P m) {o:Oper} (a0:o.op.operands.toList.all (cT P n)=true) {nv:NV}
  (hv:(qD P o.op).run e=some nv):∃s:Sem Value,execOp a.eval o=(do pure (Next.value (←s)):Sem Next)∧NewOk P s m w nv:=by
 obtain⟨dst,op,type,pos,after,guard⟩:=o;simp only at a0 hv;have b2:∀{x:Operand},cT P n x=true→R m ((aE x).run e) (a.eval x):=fun hx=>cV k hg hx
 cases op<;>simp only [qD] at hv<;>(try (cases hv;done))
 case alloc t=>
  split at hv
  ·rename_i z hz;split at hv
   ·rename_i c hc;cases hv;exact⟨_,rfl,Jt hz hc⟩
   ·cases hv
  ·cases hv
 case box t x=>
  have hX:=b2 (show cT P n x=true by simpa [Op.operands] using a0);cases hc:dV ((aE x).run e) with
  |none=>simp only [hc] at hv;cases hv
  |some c=>
   simp only [hc] at hv;cases hv;exact⟨_,rfl,Il hX hc⟩
 case makeMap t r=>
  cases r with
  |none=>cases hv;exact⟨_,rfl,Ci (.inl rfl)⟩
  |some x=>cases hv
 case buildSlice t len ps=>
  split at hv
  ·rename_i el hu;split at hv
   ·rename_i sz z hs hz;split at hv
    ·rename_i zc hc;cases hcd:(Nat.ble (len*(sz+1)) 16777216&&Nat.beq (eJ zc) (sz+1)) with
     |false=>rw [hcd] at hv;cases hv
     | true=>
      rw [hcd] at hv;simp only [cS] at hv;simp only [aN] at hcd;split at hv
      ·rename_i cs hb;cases hv;exact⟨_,rfl,Ij k hg hu (by simpa [Op.operands] using a0) hs hz hc (cQ hcd.1) (by rw [←kH];exact aT hcd.2) hb⟩
      ·cases hv
    ·cases hv
   ·cases hv
  ·cases hv
end
section
variable {P:Program} {m:Mp} {w:Wo}
def kO:∀(l:List Oper) (i:Nat),kP l i=l[i]?
 | [],_=>by simp [kP]
 |a::_,0=>by simp [kP]
 |_::l,i+1=>by simp [kP,kO l i]
def NM (P:Program) (n:Nat) (o:Oper):Bool:=o.op.operands.toList.all (cT P n)&&sN n o.dst
def fN (P:Program) (n:Nat) (ops:Array Oper):Bool:=ops.toList.all (NM P n)
def jM {ops:Array Oper} (h:fN P n ops=true) {i:Nat} {o:Oper} (ho:ops[i]?=some o):o.op.operands.toList.all (cT P n)=true∧sN n o.dst=true:=by
 have hm:o∈ops.toList:=by
  rw [←gP] at ho;exact aV ho
 have:=(jG.1 h) o hm;simpa [NM] using this
def gE (h:sN n d=true) {x:Nat} (hx:d=some x):x<n:=by
 subst hx;exact cQ h
def WN {ops:Array Oper} (hg:(ops[j]?).bind (·.dst)=some g) (a6:g<a.tmps.size):
  yielded ops a.tmps j=match a.tmps.getD g undef with| .bool b=>some b|_=>none:=by
 simp only [yielded,hg,tO,a6,getElem?_pos,IP,yL];cases a.tmps[g]<;>rfl
def DU (k:aY m n e a) {d:Option Nat} (hd:sN n d=true):aY m n (zE d e) (a.put d undef):=by
 cases d with
 |none=>exact k
 |some d=>exact k.set (gE hd rfl) (show R m cN undef by simp [R,Rl,cN,undef])
def QH {ops:Array Oper} (a3:fN P n ops=true) {j:Nat} (hj:(ops[j]?).bind (·.dst)=some g) (hs:a.tmps.size=n) (hR:R m (bQ g e) (a.tmps.getD g undef)) (a4:Bool):
  (∀b,bQ g e= .b b→(yielded ops a.tmps j==some a4)=(b==a4))∧(bQ g e= .tup []→(yielded ops a.tmps j==some a4)=false):=by
 have a6:g<n:=by
  cases ho:ops[j]? with
  |none=>rw [ho] at hj;cases hj
  |some oj=>rw [ho] at hj;exact gE (jM a3 ho).2 (by simpa using hj)
 rw [WN hj (by omega)];constructor
 ·intro b hb;rw [hb] at hR;simp only [R] at hR;rw [hR];cases b<;>cases a4<;>rfl
 ·intro hb;rw [hb] at hR;simp only [R,Rl] at hR;obtain⟨l,h1,rfl⟩:=hR;rw [h1];rfl
def EM (a0:eY P call) (k:aY m n e a) (hg:Gl P m) {h h':H} (hr:HR m h w) {ops:Array Oper} (a3:fN P n ops=true) {i:Nat} {o:Oper} (hi:ops[i]?=some o)
  (hv:(rV P ops.toList o).run call e h= .ok e' h') {K:Act→Wo→Prop} {Q:Exit→Act→Wo→Prop}
  (hn:∀m' a' w',Fr m h w m' h' w'→aY m' n e' a'→K a' w'):wpOp P ops Q i K a w:=by
 obtain⟨a5,hd⟩:=jM a3 hi;unfold wpOp;simp only [hi];unfold rV at hv;cases hgd:o.guard with
 |none=>
  rw [hgd] at hv;simp only at hv;rw [if_pos (by simp [Region.wanted,hgd])];exact .inl (UD a0 k hg hr a5 hd hv hn)
 | some jw=>
  obtain⟨j,a4⟩:=jw;rw [hgd] at hv;simp only [kO,gP] at hv;cases hj:(ops[j]?).bind (·.dst) with
  |none=>
   rw [hj] at hv;simp only at hv;cases hv;have:Region.wanted o (yielded ops a.tmps)=false:=by simp [Region.wanted,hgd,yielded,hj]
   rw [if_neg (by simp [this])];exact hn m _ w (Fr.refl hr) (DU k hd)
  | some g=>
   rw [hj] at hv;simp only at hv;have a6:g<n:=by
    cases ho:ops[j]? with
    |none=>rw [ho] at hj;cases hj
    |some oj=>rw [ho] at hj;exact gE (jM a3 ho).2 (by simpa using hj)
   obtain⟨g1,g2⟩:=QH a3 hj k.size (k.val g a6) a4;have a9:Region.wanted o (yielded ops a.tmps)=(yielded ops a.tmps j==some a4):=by simp [Region.wanted,hgd]
   rcases IB hv with⟨b,hb,hv⟩|⟨hb,hv⟩
   ·have:=g1 b hb;rcases pA hv with⟨a8,hv⟩|⟨a8,hv⟩
    ·rw [if_pos (by rw [a9,this,a8])];exact .inl (UD a0 k hg hr a5 hd hv hn)
    ·rw [if_neg (by rw [a9,this,a8];simp)];cases hv;exact hn m _ w (Fr.refl hr) (DU k hd)
   ·unfold PU at hv;split at hv
    ·rename_i hu;cases hv;rw [if_neg (by rw [a9,g2 hu];simp)];exact hn m _ w (Fr.refl hr) (DU k hd)
    ·cases hv
def LG {n:Nat} {call:bR} (a0:eY P call) {ops:Array Oper} (a3:fN P n ops=true) {Q:Exit→Act→Wo→Prop}:
  ∀(l:List Oper) (i:Nat) (m:Mp) (e e':Env) (a:Act) (h h':H) (w:Wo),ops.toList.drop i=l→aY m n e a→Gl P m→HR m h w→(lB P ops.toList l).run call e h= .ok e' h'→
   (∀m' a' w',Fr m h w m' h' w'→aY m' n e' a'→Q .normal a' w')→wpOps P ops Q (List.range' i l.length) a w
 | [],i,m,e,e',a,h,h',w,hl,k,hg,hr,hv,hn=>by
  simp only [lB] at hv;cases hv;exact hn m a w (Fr.refl hr) k
 | o::l,i,m,e,e',a,h,h',w,hl,k,hg,hr,hv,hn=>by
  have hi:ops[i]?=some o:=by
   have:(ops.toList.drop i)[0]?=some o:=by rw [hl];rfl
   rw [jF] at this;simpa using this
  have b3:ops.toList.drop (i+1)=l:=by
   have:(ops.toList.drop i).drop 1=l:=by rw [hl];rfl
   rw [yV] at this;exact this
  simp only [eW,vM];rw [wpOps_cons];simp only [lB] at hv;cases h1:(rV P ops.toList o).run call e h with
  |bad=>rw [h1] at hv;cases hv
  |ok e1 h1'=>
   rw [h1] at hv;refine EM a0 k hg hr a3 hi h1 ?_;intro m1 a1 w1 a7 b0;exact LG a0 a3 l (i+1) m1 e1 e' a1 h1' h' w1 b3 b0 (hg.mono a7.le) a7.hr hv (fun m2 a2 w2 b2 b1=>hn m2 a2 w2 (a7.trans b2) b1)
def ZM (a0:eY P call) {ops:Array Oper} (a3:fN P n ops=true) {Q:Exit→Act→Wo→Prop} {e e':Env} {a:Act} {h h':H} {id:Nat}
  (k:aY m n e a) (hg:Gl P m) (hr:HR m h w) (hv:(lB P ops.toList ops.toList).run call e h= .ok e' h')
  (hn:∀m' a' w',Fr m h w m' h' w'→aY m' n e' a'→Q .normal a' w'):(Code.region id ops false).wp P Q a w:=by
 refine wp_region ?_;have:=LG a0 a3 ops.toList 0 m e e' a h h' w (by simp) k hg hr hv hn;rw [VQ];simpa using this
end
section
variable {P:Program} {m:Mp} {w:Wo}
mutual
theorem beq_eq:∀{x y:V},V.beq x y=true→x=y
 | .top,y,h=>by cases y<;>simp only [V.beq,eH] at h;rfl
 | .b x,y,h=>by
  cases y<;>simp only [V.beq,eH] at h;simp at h;rw [h]
 | .i k n,y,h=>by
  cases y<;>simp only [V.beq,eH] at h;rename_i k' n';simp only [aN] at h;obtain⟨h1,h2⟩:=h;have hk:k=k':=by cases k<;>cases k'<;>first|rfl|(simp at h1)
  subst hk;cases n<;>cases n'<;>simp only [eH] at h2
  ·rw [aT h2]
  ·rw [aT h2]
 | .s l c,y,h=>by
  cases y<;>simp only [V.beq,eH] at h;simp only [sEq,aN] at h;rw [aT h.1,aT h.2]
 | .pn,y,h=>by cases y<;>simp only [V.beq,eH] at h;rfl
 | .p b o,y,h=>by
  cases y<;>simp only [V.beq,eH] at h;simp only [aN] at h;rw [Id.beq_iff.1 h.1,aT h.2]
 | .sn,y,h=>by cases y<;>simp only [V.beq,eH] at h;rfl
 | .sl b o l z,y,h=>by
  cases y<;>simp only [V.beq,eH] at h;simp only [aN] at h;rw [Id.beq_iff.1 h.1,aT h.2.1,aT h.2.2.1,aT h.2.2.2]
 | .se,y,h=>by cases y<;>simp only [V.beq,eH] at h;rfl
 | .mn,y,h=>by cases y<;>simp only [V.beq,eH] at h;rfl
 | .mp b,y,h=>by
  cases y<;>simp only [V.beq,eH] at h;rw [Id.beq_iff.1 h]
 | .fn f a b,y,h=>by
  cases y with
  | fn f' a' b'=>
   cases f with
   | func n=>
    cases f' with
    |func n'=>
     simp only [V.beq,aN] at h;rw [aT h.1,sQ h.2.1,sQ h.2.2]
    |_=>simp [V.beq] at h
   |_=>simp [V.beq] at h
  |_=>cases f<;>(have:false=true:=h;cases this)
 | .nf,y,h=>by cases y<;>simp only [V.beq,eH] at h;rfl
 | .ni,y,h=>by cases y<;>simp only [V.beq,eH] at h;rfl
 | .agg l,y,h=>by
  cases y<;>simp only [V.beq,eH] at h;rw [sQ h]
 | .tup l,y,h=>by
  cases y<;>simp only [V.beq,eH] at h;rw [sQ h]
theorem sQ:∀{l r:List V},jC l r=true→l=r
 | [],r,h=>by cases r<;>simp only [jC,eH] at h;rfl
 | a::l,r,h=>by
  cases r with
  |nil=>simp [jC] at h
  |cons b r=>
   simp only [jC,aN] at h;rw [beq_eq h.1,sQ h.2]
end
def HR.sub (k:HR m h w) {mem':Mem} {nx:Id} (hs:∀x ox,aB x mem'=some ox→aB x h.mem=some ox) (hn:h.next.toNat≤nx.toNat):HR m ⟨mem',h.fams,nx⟩ w where
 obj:=fun b ob hb=>k.obj b ob (hs _ _ hb)
 dom:=fun b l hb=>aR (k.dom b l hb) hn
 sep:=fun b b' ob a9 l l' h1 h2=>k.sep b b' ob a9 l l' (hs _ _ h1) (hs _ _ h2)
 fam:=fun b b' sz els f ro b1 els' ro' h1 h2=>k.fam b b' sz els f ro b1 els' ro' (hs _ _ h1) (hs _ _ h2)
 ord:=fun f=>(k.ord f).imp (fun c0=>fun sz els f ro b1 els' f' ro' l l' h1 h2=>c0 sz els f ro b1 els' f' ro' l l' (hs _ _ h1) (hs _ _ h2))
 lt:=k.lt
 famlt:=fun b sz els f ro hb=>aR (k.famlt b sz els f ro (hs _ _ hb)) hn
 flt:=fun f x hx=>aR (k.flt f x hx) hn
def Fr.bump (k:Fr m0 h0 w0 m h w) {nx:Id} (hn:h.next.toNat≤nx.toNat):Fr m0 h0 w0 m ⟨h.mem,h.fams,nx⟩ w:=
 ⟨k.le,k.hr.sub (fun _ _ h=>h) hn,k.size,k.keep,k.os,k.tape,k.output,k.back,k.old,aD k.nxt hn,k.famold⟩
def Priv (h:H) (x:Id):Prop:=∀y ox oy,y≠x→aB x h.mem=some ox→aB y h.mem=some oy→¬wC oy ox
def Priv.sep {x y:Id} {ox oy:O} {lx ly:Loc} (k:HR m h w) (hp:Priv h x) (hx:aB x h.mem=some ox) (hy:aB y h.mem=some oy) (a0:m x=some lx) (a5:m y=some ly) (a3:y≠x):lx.blk≠ly.blk:=
 fun e=>hp y ox oy a3 hx hy (k.sep y x oy ox ly lx hy hx a5 a0 a3 e.symm)
def Fr.addNew (k:Fr m0 h0 w0 m h w) {i:Id} (hi:m i=none) (d3:h0.next.toNat≤i.toNat) (c9:i.toNat<h.next.toNat) {o:Obj} {ob:O} {l:Loc} (hl:l.blk=w.heap.size)
  (hf:∀sz els f ro,ob= .cells sz els f ro→f=i) (c8:∀b sz els f ro,aB b h.mem=some (.cells sz els f ro)→f≠i) {w':Wo} (hw:w'.heap=w.heap.push o) (h1:w'.os=w.os) (h2:w'.tape=w.tape) (h3:w'.output=w.output)
  (b8:∀m':Mp,m.le m'→∀w2:Wo,w2.heap[w.heap.size]?=some o→ObjAt m' w2 l ob) {mem':Mem} (d4:aB i mem'=some ob) (d5:∀b,b≠i→aB b mem'=aB b h.mem):
  Fr m0 h0 w0 (fun b=>if b=i then some l else m b) ⟨mem',h.fams,h.next⟩ w'∧m.le (fun b=>if b=i then some l else m b):=by
 have kr:=k.hr;have c2:m.le (fun b=>if b=i then some l else m b):=by
  intro b l' hb;have:b≠i:=fun e=>by rw [e,hi] at hb;cases hb
  simp [this,hb]
 have a4:∀b a9,aB b mem'=some a9→(b=i∧a9=ob)∨(b≠i∧aB b h.mem=some a9):=by
  intro b a9 hb
  by_cases e:b=i
  ·subst e;rw [d4] at hb;exact .inl ⟨rfl,(aK hb).symm⟩
  ·rw [d5 b e] at hb;exact .inr ⟨e,hb⟩
 have d9:w'.heap.size=w.heap.size+1:=by rw [hw];simp
 have b9:∀B,B<w.heap.size→w'.heap[B]?=w.heap[B]?:=fun B hB=>by rw [hw];simp [jA,VD hB]
 refine⟨⟨Mp.le_trans k.le c2,⟨?_,?_,?_,?_,?_,?_,?_,kr.flt⟩,by have:=k.size;omega,?_,h1.trans k.os,h2.trans k.tape,h3.trans k.output,?_,?_,k.nxt,?_⟩,c2⟩
 ·intro b a9 hb;rcases a4 b a9 hb with⟨rfl,rfl⟩|⟨a3,hb⟩
  ·exact⟨l,by simp,b8 _ c2 _ (by rw [hw];simp)⟩
  ·obtain⟨l',b2,ho⟩:=kr.obj b a9 hb;exact⟨l',by simp [a3,b2],ho.keep c2 (b9 _ (kr.lt _ _ b2))⟩
 ·intro b l' hb
  by_cases e:b=i
  ·subst e;exact c9
  ·simp [e] at hb;exact kr.dom _ _ hb
 ·intro b b' d0 d1 l1 l2 hb c5 a7 a6 a3 a8;rcases a4 b d0 hb with⟨rfl,rfl⟩|⟨hn1,hb1⟩<;>rcases a4 b' d1 c5 with⟨rfl,rfl⟩|⟨hn2,hb2⟩
  ·exact absurd rfl a3
  ·simp at a7;simp [hn2] at a6;have:=kr.lt _ _ a6;subst a7;omega
  ·simp at a6;simp [hn1] at a7;have:=kr.lt _ _ a7;subst a6;omega
  ·simp [hn1] at a7;simp [hn2] at a6;exact kr.sep b b' d0 d1 l1 l2 hb1 hb2 a7 a6 a3 a8
 ·intro b b' sz els f ro b1 els' ro' hb c5 a3;rcases a4 b _ hb with⟨rfl,e1⟩|⟨hn1,hb1⟩<;>rcases a4 b' _ c5 with⟨rfl,e2⟩|⟨hn2,hb2⟩
  ·exact absurd rfl a3
  ·exact absurd (hf _ _ _ _ e1.symm) (c8 _ _ _ _ _ hb2)
  ·exact absurd (hf _ _ _ _ e2.symm) (c8 _ _ _ _ _ hb1)
  ·exact kr.fam b b' _ _ _ _ _ _ _ hb1 hb2 a3
 ·intro f;refine(kr.ord f).imp ?_;intro x y c0 sz els f1 ro b1 els' f2 ro' l1 l2 hx hy a7 a6 a8;rcases a4 x _ hx with⟨rfl,e1⟩|⟨hn1,hb1⟩<;>rcases a4 y _ hy with⟨rfl,e2⟩|⟨hn2,hb2⟩
  ·rw [a7] at a6;cases a6;rw [←e1] at e2;cases e2;exact aA _
  ·simp at a7;simp [hn2] at a6;have:=kr.lt _ _ a6;subst a7;omega
  ·simp at a6;simp [hn1] at a7;have:=kr.lt _ _ a7;subst a6;omega
  ·simp [hn1] at a7;simp [hn2] at a6;exact c0 _ _ _ _ _ _ _ _ _ _ hb1 hb2 a7 a6 a8
 ·intro b l' hb
  by_cases e:b=i
  ·subst e;simp at hb;subst hb;omega
  ·simp [e] at hb;have:=kr.lt _ _ hb;omega
 ·intro b sz els f ro hb;rcases a4 b _ hb with⟨rfl,e1⟩|⟨hn1,hb1⟩
  ·have:=hf _ _ _ _ e1.symm;subst this;exact c9
  ·exact kr.famlt _ _ _ _ _ hb1
 ·intro B hB hn;rw [b9 B (aR hB k.size)];exact k.keep B hB hn
 ·intro b a9 l' hb b2;rcases a4 b a9 hb with⟨rfl,rfl⟩|⟨a3,hb⟩
  ·simp at b2;subst b2;have:=k.size;exact .inl (by omega)
  ·simp [a3] at b2;exact k.back b a9 l' hb b2
 ·intro b l' hb c6;have:b≠i:=fun e=>by subst e;omega
  simp [this] at hb;exact k.old b l' hb c6
 ·intro b sz els f ro hb;rcases a4 b _ hb with⟨rfl,e1⟩|⟨hn1,hb1⟩
  ·have:=hf _ _ _ _ e1.symm;subst this;exact .inl d3
  ·exact k.famold _ _ _ _ _ hb1
def Fr.merge {H1:H} (k:HR m H1 w) {memb:Mem} (hs:∀x ox,aB x memb=some ox→aB x H1.mem=some ox)
  {X:Id→Prop} (d8:∀x ox,aB x H1.mem=some ox→X x∨aB x memb=some ox) (c4:∀x,X x→aB x memb=none∧∃ox,aB x H1.mem=some ox) (c1:∀x,X x→Priv H1 x)
  {h':H} (kf:Fr m ⟨memb,H1.fams,H1.next⟩ w m' h' w') {mem2:Mem} (h2:∀x ox,aB x mem2=some ox↔(¬X x∧aB x h'.mem=some ox)∨(X x∧aB x H1.mem=some ox)):
  Fr m H1 w m' ⟨mem2,h'.fams,h'.next⟩ w':=by
 have kr:=kf.hr;have hm:∀x ox,X x→aB x H1.mem=some ox→∃l,m x=some l∧m' x=some l∧ObjAt m w l ox:=by
  intro x ox hx ho;obtain⟨l,hl,b8⟩:=k.obj x ox ho;exact⟨l,hl,kf.le _ _ hl,b8⟩
 have b5:∀x ox lx y oy ly,X x→aB x H1.mem=some ox→m x=some lx→aB y memb=some oy→m y=some ly→lx.blk≠ly.blk:=by
  intro x ox lx y oy ly hx ho a0 hy a5;have a3:y≠x:=fun e=>by subst e;rw [(c4 y hx).1] at hy;cases hy
  exact(c1 x hx).sep k ho (hs _ _ hy) a0 a5 a3
 have b4:∀x ox lx y oy ly,X x→aB x H1.mem=some ox→m x=some lx→aB y h'.mem=some oy→m' y=some ly→lx.blk≠ly.blk:=by
  intro x ox lx y oy ly hx ho a0 hy a5 e;rcases kf.back y oy ly hy a5 with h1|⟨b0,ob0,l0,h0,hl0,he,_⟩
  ·have:=k.lt _ _ a0;omega
  ·exact b5 x ox lx b0 ob0 l0 hx ho a0 h0 hl0 (by rw [he,e])
 have d2:∀x,X x→∃ox,aB x H1.mem=some ox:=fun x hx=>(c4 x hx).2
 have b7:∀x ox lx,X x→aB x H1.mem=some ox→m x=some lx→w'.heap[lx.blk]?=w.heap[lx.blk]?:=by
  intro x ox lx hx ho a0;refine kf.keep _ (k.lt _ _ a0) ?_;rintro⟨b0,ob0,l0,h0,hl0,he,_⟩;exact b5 x ox lx b0 ob0 l0 hx ho a0 h0 hl0 he.symm
 have c7:∀x ox lx y oy ly,X x→aB x H1.mem=some ox→m x=some lx→X y→aB y H1.mem=some oy→m y=some ly→y≠x→lx.blk≠ly.blk:=
  fun x ox lx y oy ly hx ho a0 hy d6 a5 a3=>(c1 x hx).sep k ho d6 a0 a5 a3
 have b3:∀x l,m' x=some l→X x→m x=some l:=fun x l hl hx=>by
  obtain⟨ox,ho⟩:=d2 x hx;obtain⟨l1,a1,a2,_⟩:=hm x ox hx ho;rw [a2] at hl;cases hl;exact a1
 refine⟨kf.le,⟨?_,kr.dom,?_,?_,?_,kr.lt,?_,kr.flt⟩,kf.size,?_,kf.os,kf.tape,kf.output,?_,kf.old,kf.nxt,?_⟩
 ·intro x ox hx;rcases(h2 x ox).1 hx with⟨_,hx⟩|⟨hX,hx⟩
  ·exact kr.obj x ox hx
  ·obtain⟨l,hl,b2,b8⟩:=hm x ox hX hx;exact⟨l,b2,b8.keep kf.le (b7 x ox l hX hx hl)⟩
 ·intro x y ox oy lx ly hx hy a0 a5 a3 a8;rcases(h2 x ox).1 hx with⟨_,hx⟩|⟨hX,hx⟩<;>rcases(h2 y oy).1 hy with⟨_,hy⟩|⟨hY,hy⟩
  ·exact kr.sep x y ox oy lx ly hx hy a0 a5 a3 a8
  ·exact absurd a8.symm (b4 y oy ly x ox lx hY hy (b3 _ _ a5 hY) hx a0)
  ·exact absurd a8 (b4 x ox lx y oy ly hX hx (b3 _ _ a0 hX) hy a5)
  ·exact absurd a8 (c7 x ox lx y oy ly hX hx (b3 _ _ a0 hX) hY hy (b3 _ _ a5 hY) (fR a3))
 ·intro x y sz els f ro b1 els' ro' hx hy a3;have b6:∀x sz els f ro y b1 els' ro',X x→aB x H1.mem=some (.cells sz els f ro)→¬X y→aB y h'.mem=some (.cells b1 els' f ro')→False:=by
   intro x sz els f ro y b1 els' ro' hX hx hY hy;rcases kf.famold _ _ _ _ _ hy with h1|⟨b0,sz0,els0,ro0,h0⟩
   ·have:=k.famlt _ _ _ _ _ hx;have d7:H1.next.toNat≤f.toNat:=h1;omega
   ·have c3:aB b0 memb=some (.cells sz0 els0 f ro0):=h0;have a3:b0≠x:=fun e=>by subst e;rw [(c4 b0 hX).1] at c3;cases c3
    exact c1 x hX b0 _ _ a3 hx (hs _ _ c3) rfl
  rcases(h2 x _).1 hx with⟨hX,hx⟩|⟨hX,hx⟩<;>rcases(h2 y _).1 hy with⟨hY,hy⟩|⟨hY,hy⟩
  ·exact kr.fam x y _ _ _ _ _ _ _ hx hy a3
  ·exact(b6 y _ _ _ _ x _ _ _ hY hy hX hx).elim
  ·exact(b6 x _ _ _ _ y _ _ _ hX hx hY hy).elim
  ·exact(c1 x hX y _ _ (fR a3) hx hy rfl).elim
 ·intro f;refine(kr.ord f).imp ?_;intro x y c0 sz els f1 ro b1 els' f2 ro' lx ly hx hy a0 a5 a8;rcases(h2 x _).1 hx with⟨hX,hx⟩|⟨hX,hx⟩<;>rcases(h2 y _).1 hy with⟨hY,hy⟩|⟨hY,hy⟩
  ·exact c0 _ _ _ _ _ _ _ _ _ _ hx hy a0 a5 a8
  ·exact absurd a8.symm (b4 y _ ly x _ lx hY hy (b3 _ _ a5 hY) hx a0)
  ·exact absurd a8 (b4 x _ lx y _ ly hX hx (b3 _ _ a0 hX) hy a5)
  ·by_cases e:y=x
   ·subst e;rw [hx] at hy;cases hy;rw [a0] at a5;cases a5;exact aA _
   ·exact absurd a8 (c7 x _ lx y _ ly hX hx (b3 _ _ a0 hX) hY hy (b3 _ _ a5 hY) e)
 ·intro x sz els f ro hx;rcases(h2 x _).1 hx with⟨_,hx⟩|⟨hX,hx⟩
  ·exact kr.famlt _ _ _ _ _ hx
  ·exact aR (k.famlt _ _ _ _ _ hx) kf.nxt
 ·intro B hB hn;refine kf.keep B hB ?_;rintro⟨b0,ob0,l0,h0,hl0,he,hw0⟩;exact hn ⟨b0,ob0,l0,hs _ _ h0,hl0,he,hw0⟩
 ·intro x ox lx hx a0;rcases(h2 x ox).1 hx with⟨_,hx⟩|⟨hX,hx⟩
  ·rcases kf.back x ox lx hx a0 with h1|⟨b0,ob0,l0,h0,hl0,he,hw0⟩
   ·exact .inl h1
   ·exact .inr ⟨b0,ob0,l0,hs _ _ h0,hl0,he,hw0⟩
  ·exact .inr ⟨x,ox,lx,hx,b3 _ _ a0 hX,rfl,id⟩
 ·intro x sz els f ro hx;rcases(h2 x _).1 hx with⟨_,hx⟩|⟨hX,hx⟩
  ·rcases kf.famold _ _ _ _ _ hx with h1|⟨b0,sz0,els0,ro0,h0⟩
   ·exact .inl h1
   ·exact .inr ⟨b0,sz0,els0,ro0,hs _ _ h0⟩
  ·exact .inr ⟨x,sz,els,ro,hx⟩
end
section
variable {P:Program} {m:Mp} {w:Wo}
def wX:∀(l:List Nat) (i:Nat),natAt l i=(l[i]?).getD 0
 | [],_=>by simp [natAt]
 |a::_,0=>by simp [natAt]
 |_::l,i+1=>by simp [natAt,wX l i]
def DJ:∀(l:List Oper) (k:Nat) (x:Nat × Oper),x∈jV k l↔∃i,l[i]?=some x.2∧x.1=k+i
 | [],k,x=>by simp [jV]
 | o::l,k,x=>by
  simp only [jV,cM,DJ l (k+1) x];constructor
  ·rintro(rfl|⟨i,h1,h2⟩)
   ·exact⟨0,rfl,rfl⟩
   ·exact⟨i+1,by simpa using h1,by omega⟩
  ·rintro⟨i,h1,h2⟩;cases i with
   |zero=>left;obtain⟨x1,x2⟩:=x;simp at h1 h2;simp [h1,h2]
   |succ i=>right;exact⟨i,by simpa using h1,by omega⟩
def tP {l:List Oper} (h:(jV 0 l).all p=true) {i:Nat} {o:Oper} (ho:l[i]?=some o):p (i,o)=true:=
 (jG.1 h) (i,o) ((DJ l 0 (i,o)).2 ⟨i,ho,by simp⟩)
def WM {l:List Oper} (h:(jV 0 l).any p=false) {i:Nat} {o:Oper} (ho:l[i]?=some o):p (i,o)=false:=by
 have:=List.any_eq_false.1 h (i,o) ((DJ l 0 (i,o)).2 ⟨i,ho,by simp⟩);simpa using this
def AL (n:Nat):∀l:List Nat,oU n l=true↔n∈l
 | []=>by simp [oU]
 | a::l=>by
  rw [oU];cases h:Nat.beq a n with
  |true=>have:=aT h;simp [this]
  |false=>
   have:a≠n:=VE h;simp [AL n l,fR this]
def mH {α:Type} (p:α→Bool):∀(l:List α) (x:α),x∈gL p l↔x∈l∧p x=true
 | [],x=>by simp [gL]
 | a::l,x=>by
  rw [gL];cases h:p a with
  | true=>
   simp only [cS,cM,mH p l x];constructor
   ·rintro(rfl|⟨h1,h2⟩)
    ·exact⟨.inl rfl,h⟩
    ·exact⟨.inr h1,h2⟩
   ·rintro⟨rfl|h1,h2⟩
    ·exact .inl rfl
    ·exact .inr ⟨h1,h2⟩
  | false=>
   simp only [kV,cM,mH p l x];constructor
   ·rintro⟨h1,h2⟩;exact⟨.inr h1,h2⟩
   ·rintro⟨rfl|h1,h2⟩
    ·rw [h] at h2;cases h2
    ·exact⟨h1,h2⟩
def BC {α:Type} {r:α→α→Prop} (p:α→Bool):∀{l:List α},l.Pairwise r→(gL p l).Pairwise r
 | [],_=>by simp [gL]
 | a::l,h=>by
  rw [gL];have h1:=tI.1 h;cases hp:p a with
  |true=>
   simp only [cS];exact tI.2 ⟨fun y hy=>h1.1 y ((mH p l y).1 hy).1,BC p h1.2⟩
  |false=>simp only [kV];exact BC p h1.2
def FH (a0:List Nat) (j:Nat):∀l:List Edge,Nat.testBit (oW a0 l) j=true↔∃e∈l,iI e=true∧(j=e.on∨Nat.testBit (natAt a0 e.on) j=true)
 | []=>by simp [oW]
 | e ::l=>by
  rw [oW];cases h:iI e with
  | true=>
   simp only [cS,Nat.testBit_or,jU,FH a0 j l,cM,Nat.one_shiftLeft,Kc,iF];constructor
   ·rintro(h1|h1|⟨e',h1,h2⟩)
    ·exact⟨e,.inl rfl,h,.inl h1.symm⟩
    ·exact⟨e,.inl rfl,h,.inr h1⟩
    ·exact⟨e',.inr h1,h2⟩
   ·rintro⟨e',rfl|h1,h2,h3⟩
    ·rcases h3 with h3|h3
     ·exact .inl h3.symm
     ·exact .inr (.inl h3)
    ·exact .inr (.inr ⟨e',h1,h2,h3⟩)
  | false=>
   simp only [kV,FH a0 j l,cM];constructor
   ·rintro⟨e',h1,h2⟩;exact⟨e',.inr h1,h2⟩
   ·rintro⟨e',rfl|h1,h2,h3⟩
    ·rw [h] at h2;cases h2
    ·exact⟨e',h1,h2,h3⟩
def UC:∀(l:List Oper) (a0:List Nat),(∃s,aH a0 l=a0++s)∧
  ∀i o,l[i]?=some o→natAt (aH a0 l) (a0.length+i)=oW ((aH a0 l).take (a0.length+i)) o.after.toList
 | [],a0=>⟨⟨[],by simp [aH]⟩,fun i o h=>by simp at h⟩
 | o::l,a0=>by
  obtain⟨⟨s,hs⟩,ih⟩:=UC l (a0++ [oW a0 o.after.toList]);refine⟨⟨oW a0 o.after.toList::s,by rw [aH,hs];simp⟩,?_⟩;intro i o' h;rw [aH];cases i with
  |zero=>
   simp at h;subst h;rw [hs,wX];simp
  |succ i=>
   have:=ih i o' (by simpa using h);simp only [aI,vP] at this;rw [show a0.length+(i+1)=a0.length+1+i by omega];exact this
def UB (a2:tE ops=true) {i:Nat} {o:Oper} (ho:ops[i]?=some o) (j:Nat):
  Nat.testBit (natAt (aH [] ops) i) j=true↔∃e∈o.after.toList,iI e=true∧(j=e.on∨Nat.testBit (natAt (aH [] ops) e.on) j=true):=by
 have h:=(UC ops []).2 i o ho;simp only [oG,bT] at h;rw [h,FH];have hk:=jG.1 (tP a2 ho);have key:∀e∈o.after.toList,iI e=true→natAt ((aH [] ops).take i) e.on=natAt (aH [] ops) e.on:=by
  intro e he hb;have:=hk e he;simp only [hb,tN,oI] at this;have a4:e.on<i:=cQ this;rw [wX,wX,vQ,if_pos a4]
 constructor
 ·rintro⟨e,h1,h2,h3⟩;exact⟨e,h1,h2,by rwa [key e h1 h2] at h3⟩
 ·rintro⟨e,h1,h2,h3⟩;exact⟨e,h1,h2,by rwa [key e h1 h2]⟩
def Iv (h:ops[i]?=none):natAt (aH [] ops) i=0:=by
 have hl:∀(l:List Oper) (a0:List Nat),(aH a0 l).length=a0.length+l.length:=by
  intro l
  induction l with
  |nil=>intro a0;simp [aH]
  |cons o l ih=>intro a0;rw [aH,ih];simp;omega
 rw [wX,pQ]
 ·rfl
 ·rw [hl];simpa using h
def Iw (a2:tE ops=true) {S:Nat→Prop} (hS:∀i o,ops[i]?=some o→S i→∀e∈o.after.toList,iI e=true→S e.on):
  ∀(i j:Nat),S i→Nat.testBit (natAt (aH [] ops) i) j=true→S j:=by
 intro i
 induction i using Nat.strongRecOn with
 | _ i ih=>
  intro j hi hb;cases ho:ops[i]? with
  |none=>rw [Iv ho] at hb;simp at hb
  |some o=>
   obtain⟨e,he,hbe,hj⟩:=(UB a2 ho j).1 hb;have hk:=jG.1 (tP a2 ho) e he;simp only [hbe,tN,oI] at hk;have a4:e.on<i:=cQ hk;have a5:=hS i o ho hi e he hbe;rcases hj with rfl|hj
   ·exact a5
   ·exact ih e.on a4 j a5 hj
def HT (a2:tE ops=true) {S:Nat→Prop} (hS:∀i o,ops[i]?=some o→S i→∀e∈o.after.toList,iI e=true→S e.on) {i:Nat} {o:Oper} (ho:ops[i]?=some o)
  (hr:∀e∈o.after.toList,iI e=true→S e.on) {j:Nat} (hb:Nat.testBit (natAt (aH [] ops) i) j=true):S j:=by
 obtain⟨e,he,hbe,hj⟩:=(UB a2 ho j).1 hb;rcases hj with rfl|hj
 ·exact hr e he hbe
 ·exact Iw a2 hS e.on j (hr e he hbe) hj
def oV (p:Nat→Bool) (i:Id) (mem:Mem):∀pn:List PN,(∀x∈pn,p x.idx=true→x.id≠i)→aB i (dY p pn mem)=aB i mem
 | [],_=>rfl
 | x::l,h=>by
  rw [dY];have ih:=oV p i mem l (fun y hy=>h y (by simp [hy]));cases hp:p x.idx with
  |true=>
   simp only [cS];rw [eX (fR (h x (by simp) hp))];exact ih
  |false=>simpa using ih
def lL (p:Nat→Bool) (mem:Mem):∀pn:List PN,pn.Pairwise (fun x y=>x.id≠y.id)→∀x∈pn,p x.idx=true→aB x.id (dY p pn mem)=some x.ob
 | [],_,x,hx,_=>by simp at hx
 | y::l,hd,x,hx,hp=>by
  have h1:=tI.1 hd;rw [dY];rcases cM.1 hx with rfl|hx
  ·rw [hp];simp [gK]
  ·have ih:=lL p mem l h1.2 x hx hp;have a7:x.id≠y.id:=fR (h1.1 x hx);cases hpy:p y.idx with
   |true=>simp only [cS];rw [eX a7];exact ih
   |false=>simpa using ih
def FF {p q:Nat→Bool} (mem:Mem):∀pn:List PN,(∀x∈pn,p x.idx=q x.idx)→dY p pn mem=dY q pn mem
 | [],_=>rfl
 |x::l,h=>by
  rw [dY,dY,h x (by simp),FF mem l (fun y hy=>h y (by simp [hy]))]
def uH (p:Nat→Bool) (mem:Mem) (pn:List PN) (hd:pn.Pairwise (fun x y=>x.id≠y.id)) (i:Id) (ob:O) (h:aB i (dY p pn mem)=some ob):
  (∃x∈pn,p x.idx=true∧x.id=i∧x.ob=ob)∨((∀x∈pn,p x.idx=true→x.id≠i)∧aB i mem=some ob):=by
 by_cases hx:∃x∈pn,p x.idx=true∧x.id=i
 ·obtain⟨x,h1,h2,rfl⟩:=hx;rw [lL p mem pn hd x h1 h2] at h;exact .inl ⟨x,h1,h2,rfl,aK h⟩
 ·have a3:∀x∈pn,p x.idx=true→x.id≠i:=fun x h1 h2 h3=>hx ⟨x,h1,h2,h3⟩
  rw [oV p i mem pn a3] at h;exact .inr ⟨a3,h⟩
def Fw (t:Nat):bQ t DP= .top:=by
 unfold bQ DP N8.all;cases dg (t/64)<;>cases dg (t/8%8)<;>cases dg (t%8)<;>rfl
def RR (e:Env):∀l:List Nat,(∀t∈l,t<511)→bQ fW (cD e l)=bQ fW e
 | [],_=>by rw [cD,uS]
 |t::l,h=>by
  have ht:=h t (by simp);rw [cD,qV (by decide) (by omega) (by show 511≠t;omega)];exact RR e l (fun x hx=>h x (by simp [hx]))
def RS (e:Env) (t:Nat) (ht:t<511):∀l:List Nat,(∀t∈l,t<511)→bQ t (cD e l)=if t∈l then bQ t e else .top
 | [],_=>by
  rw [cD,qV (by omega) (by decide) (by show t≠511;omega)];simp [Fw]
 | x::l,h=>by
  have hx:=h x (by simp);rw [cD]
  by_cases e1:t=x
  ·subst e1;rw [uS];simp
  ·rw [qV (by omega) (by omega) e1,RS e t ht l (fun y hy=>h y (by simp [hy]))];simp [e1]
def CB {e e':Env} (hd:bQ fW e=bQ fW e'):∀l:List Nat,(∀t∈l,bQ t e=bQ t e')→cD e l=cD e' l
 | [],_=>by rw [cD,cD,hd]
 |t::l,h=>by rw [cD,cD,h t (by simp),CB hd l (fun x hx=>h x (by simp [hx]))]
def envM_R (hs:a.tmps.size=n) (hn:n≤511) (hd:∃l,bQ fW e= .tup l∧DfrR m l a.defers) (l:List Nat) (hl:∀t∈l,t<n) (hR:∀t∈l,R m (bQ t e) (a.tmps.getD t undef)):aY m n (cD e l) a:=by
 refine⟨hs,hn,fun t ht=>?_,?_⟩
 ·rw [RS e t (by omega) l (fun x hx=>by have:=hl x hx;omega)];split
  ·rename_i h;exact hR t h
  ·simp [R]
 ·rw [RR e l (fun x hx=>by have:=hl x hx;omega)];exact hd
def xE {ops:Array Oper} (a1:fN P n ops=true) {i:Nat} {o:Oper} (ho:ops[i]?=some o):∀t∈cK ops.toList o,t<n:=by
 intro t ht;obtain⟨h1,h2⟩:=jM a1 ho;simp only [cK,cG] at ht;rcases ht with ht|ht
 ·simp only [KJ,List.mem_filterMap] at ht;obtain⟨x,hx,hxt⟩:=ht;have:=(jG.1 h1) x hx;cases x with
  |tmp t'=>simp at hxt;subst hxt;simpa [cT] using this
  |_=>simp at hxt
 ·simp only [gDst] at ht;cases hg:o.guard with
  |none=>rw [hg] at ht;simp at ht
  | some jw=>
   obtain⟨j,want⟩:=jw;rw [hg] at ht;simp only [kO,gP,Option.mem_toList] at ht;cases hj:ops[j]? with
   |none=>rw [hj] at ht;simp at ht
   |some oj=>
    rw [hj] at ht;exact gE (jM a1 hj).2 (by simpa using ht)
def BP {ops:Array Oper} (a1:fN P n ops=true) (k:aY m n e a) {o:Oper} {b:Bool} (h:gdC ops.toList o e=some b):Region.wanted o (yielded ops a.tmps)=b:=by
 unfold gdC at h;cases hgd:o.guard with
 |none=>rw [hgd] at h;simp at h;subst h;simp [Region.wanted,hgd]
 | some jw=>
  obtain⟨j,want⟩:=jw;rw [hgd] at h;simp only [kO,gP] at h;cases hj:(ops[j]?).bind (·.dst) with
  |none=>rw [hj] at h;cases h
  | some g=>
   rw [hj] at h;simp only at h;have a4:g<n:=by
    cases ho:ops[j]? with
    |none=>rw [ho] at hj;cases hj
    |some oj=>rw [ho] at hj;exact gE (jM a1 ho).2 (by simpa using hj)
   obtain⟨g1,g2⟩:=QH a1 hj k.size (k.val g a4) want;have a6:Region.wanted o (yielded ops a.tmps)=(yielded ops a.tmps j==some want):=by simp [Region.wanted,hgd]
   split at h
   ·rename_i b' hb;rw [a6,g1 b' hb];exact aK h
   ·rename_i hb;rw [a6,g2 hb];exact aK h
   ·cases h
end
section
variable {P:Program} {m:Mp} {w:Wo}
def Sb (listed:Array Bool) (j:Nat):Bool:=listed.getD j false
def Sb_set {listed:Array Bool} (hi:i<listed.size) (j:Nat):Sb (listed.setIfInBounds i true) j=(decide (j=i)||Sb listed j):=by
 unfold Sb
 by_cases e:j=i
 ·subst e;simp [hi]
 ·simp [tO,lV,fR e,e]
def TS (e:Edge):Region.binds .any e=iI e:=by
 unfold Region.binds iI;cases e.ground<;>rfl
def KG {d:Nat}:zB ops d o=true↔d∈cK ops o∨o.dst=some d:=by
 unfold zB dstIs;rw [jU,AL];cases h:o.dst with
 |none=>simp
 | some d'=>
  simp only [cJ];constructor
  ·rintro(h1|h1)
   ·exact .inl h1
   ·exact .inr (aT h1)
  ·rintro(h1|h1)
   ·exact .inl h1
   ·exact .inr (by subst h1;exact VL _)
def AZ (h:uK ops bef i o=false) {d:Nat} (hd:o.dst=some d):
  d∉cK ops o∧∀j oj,ops[j]?=some oj→j≠i→(d∈cK ops oj∨oj.dst=some d)→Nat.testBit (natAt bef j) i=true:=by
 unfold uK at h;rw [hd] at h;simp only [Lg] at h;refine⟨fun hm=>by rw [(AL _ _).2 hm] at h;exact absurd h.1 (by simp),?_⟩;intro j oj hj a6 ht;have:=WM h.2 hj;simp only [KG.2 ht,Bool.true_and,Lh,Bool.not_eq_false'] at this;rcases this with h1|h1
 ·exact absurd (aT h1) a6
 ·exact h1
def BA (h:gC ops bef i o≠ .heavy):uK ops bef i o=false:=by
 unfold gC at h;cases hl:uK ops bef i o with
 |false=>rfl
 |true=>rw [hl] at h;exact absurd rfl h
def Ae (h:nJ ops bef=true) {i:Nat} {o:Oper} (ho:ops[i]?=some o) {d:Nat} (hd:o.dst=some d) {j:Nat} {oj:Oper} (hj:ops[j]?=some oj) (a6:j≠i)
  (ht:d∈cK ops oj∨oj.dst=some d):Nat.testBit (natAt bef j) i=true∨Nat.testBit (natAt bef i) j=true:=by
 have:=tP h ho;simp only [hd] at this;have:=tP this hj;simp only [KG.2 ht,tN,oI,jU] at this;rcases this with h1|h1
 ·exact absurd (aT h1) a6
 ·exact h1
def lO {t:Nat} (ht:t<512) {d:Option Nat} (hd:∀x,d=some x→x<512) (v:V) (e:Env):bQ t (gQ d v e)=if d=some t then v else bQ t e:=by
 cases d with
 |none=>simp [gQ]
 |some x=>
  simp only [gQ,cJ]
  by_cases e1:x=t
  ·subst e1;rw [uS];simp
  ·rw [qV ht (hd x rfl) (fR e1)];simp [e1]
def gF (T s j:Nat):Nat.testBit (T|||2^s) j=(decide (j=s)||Nat.testBit T j):=by
 rw [Nat.testBit_or,Kc]
 by_cases e:s=j
 ·subst e;simp
 ·simp [e,fR e]
def oN (h:nI ops bef tl T (s::l)=true):
  Nat.testBit T s=false∧(∀x,Nat.testBit (natAt bef s) x=true→Nat.testBit T x=true)∧(∃o,ops[s]?=some o)∧nI ops bef tl (T|||2^s) l=true:=by
 rw [nI] at h;simp only [aN,JO,kO] at h;obtain⟨h1,h2,h3,h4⟩:=h;refine⟨h1,?_,Kb.1 h3,h4⟩;intro x hx;have:=aT h2;rw [←this,Nat.testBit_and] at hx;simp only [aN] at hx;exact hx.2
def GY (h:mK ops bef tl (s::l)=true):
  (∀o,ops[s]?=some o→gC ops bef s o= .heavy→(∀x∈l,Nat.testBit (natAt bef x) s=true)∧∀x∈tl,Nat.testBit (natAt bef x) s=true)∧mK ops bef tl l=true:=by
 rw [mK] at h;simp only [aN,kO] at h;refine⟨?_,h.2⟩;intro o ho hk;have h1:=h.1;rw [ho] at h1;simp only [hk,Kn.isHeavy,tN,oI,aN,jG] at h1;exact h1
def zW {ops:List Oper} {bef tl:List Nat}:∀(l:List Nat) (T:Nat),nI ops bef tl T l=true→∀i o,ops[i]?=some o→Nat.testBit T i=false→i∈l∨i∈tl
 | [],T,h,i,o,ho,hT=>by
  rw [nI] at h;have:=tP h ho;simp only [hT,oI,AL] at this;exact .inr this
 | s::l,T,h,i,o,ho,hT=>by
  by_cases e:i=s
  ·simp [e]
  ·obtain⟨_,_,_,h4⟩:=oN h;rcases zW l _ h4 i o ho (by rw [gF];simp [e,hT]) with h1|h1
   ·exact .inl (rJ _ h1)
   ·exact .inr h1
def NJ {h:H}:∀{l:List PC},uC h l=true→∀c∈l,c.chk h=true
 | [],_,c,hc=>by simp at hc
 |x::l,hl,c,hc=>by
  simp only [uC,aN] at hl;rcases cM.1 hc with rfl|hc
  ·exact hl.1
  ·exact NJ hl.2 c hc
def pw_ne {α:Type} {r:α→α→Prop} (hs:∀x y,r x y→r y x):∀{l:List α},l.Pairwise r→∀x∈l,∀y∈l,x≠y→r x y
 | [],_,x,hx,_,_,_=>by simp at hx
 |a::l,h,x,hx,y,hy,a6=>by
  have h1:=tI.1 h;rcases cM.1 hx with ex|c7<;>rcases cM.1 hy with ey|c8
  ·exact absurd (ex.trans ey.symm) a6
  ·rw [ex];exact h1.1 y c8
  ·rw [ey];exact hs _ _ (h1.1 x c7)
  ·exact pw_ne hs h1.2 x c7 y c8 a6
def PendOk (P:Program) (ops:List Oper) (e:Env) (h:H) (pn:List PN) (pc:List PC) (i:Nat) (o:Oper):Kn→Prop
 | .light=>(∀x∈pn,x.idx≠i)∧∃v,(∀d,o.dst=some d→bQ d e=v)∧qJ P ops o (cD e (cK ops o)) (hq h)=some v∧
   ∃c∈pc,c.idx=i∧c.chk=fun h'=>eqO v (qJ P ops o (cD e (cK ops o)) h')
 | .new=>(gdC ops o (cD e (cK ops o))=some true∧∃x∈pn,x.idx=i∧∃nv,(qD P o.op).run (cD e (cK ops o))=some nv∧x.ob=nv.ob x.id∧∀d,o.dst=some d→bQ d e=nv.v x.id)∨
   ((∀x∈pn,x.idx≠i)∧gdC ops o (cD e (cK ops o))=some false∧∀d,o.dst=some d→bQ d e=cN)
 | .heavy=>False
def PendOk.mono {pn d0:List PN} {pc c9:List PC}:∀{kn:Kn},PendOk P ops e h pn pc i o kn→cD e' (cK ops o)=cD e (cK ops o)→(∀d,o.dst=some d→bQ d e'=bQ d e)→
  (∀x,x.idx=i→(x∈pn↔x∈d0))→(∀c∈pc,c.idx=i→c∈c9)→
  (∀(q:H→Option V) v,(∃c∈pc,c.idx=i∧c.chk=fun h'=>eqO v (q h'))→q (hq h)=some v→q (hq h')=some v)→PendOk P ops e' h' d0 c9 i o kn
 | .light,k,he,hd,hpn,hpc,hh=>by
  obtain⟨k0,v,k1,k2,c,k3,k4,k5⟩:=k;refine⟨fun x hx b1=>k0 x ((hpn x b1).2 hx) b1,v,fun d b2=>by rw [hd d b2];exact k1 d b2,?_,c,hpc c k3 k4,k4,by rw [he];exact k5⟩;rw [he];exact hh (fun h'=>qJ P ops o (cD e (cK ops o)) h') v ⟨c,k3,k4,k5⟩ k2
 | .new,k,he,hd,hpn,hpc,hh=>by
  rcases k with⟨k1,x,k2,k3,nv,k4,k5,k6⟩|⟨k0,k1,k2⟩
  ·exact .inl ⟨by rw [he];exact k1,x,(hpn x k3).1 k2,k3,nv,by rw [he];exact k4,k5,fun d b2=>by rw [hd d b2];exact k6 d b2⟩
  ·exact .inr ⟨fun x hx b1=>k0 x ((hpn x b1).2 hx) b1,by rw [he];exact k1,fun d b2=>by rw [hd d b2];exact k2 d b2⟩
 | .heavy,k,_,_,_,_,_=>k.elim
structure Core (P:Program) (n:Nat) (ops:Array Oper) (m0:Mp) (h0:H) (w0:Wo) (listed:Array Bool) (T:Nat) (e:Env) (h:H) (pn:List PN) (pc:List PC) (m:Mp) (a:Act) (w:Wo):Prop where
 lsz:listed.size=ops.size
 down:∀i o,ops.toList[i]?=some o→Sb listed i=true→∀x∈o.after.toList,iI x=true→Sb listed x.on=true
 sT:∀j,Sb listed j=true→Nat.testBit T j=true
 tT:∀j,Nat.testBit T j=true→∀x,Nat.testBit (natAt (aH [] ops.toList) j) x=true→Nat.testBit T x=true
 pend:∀j o,ops.toList[j]?=some o→Nat.testBit T j=true→Sb listed j=false→PendOk P ops.toList e h pn pc j o (gC ops.toList (aH [] ops.toList) j o)
 size:a.tmps.size=n
 le:n≤511
 dfr:∃l,bQ fW e= .tup l∧DfrR m l a.defers
 env:∀t,t<n→(∃i o,Nat.testBit T i=true∧Sb listed i=false∧ops.toList[i]?=some o∧o.dst=some t)∨R m (bQ t e) (a.tmps.getD t undef)
 fr:Fr m0 h0 w0 m (eU (Sb listed) pn h) w
 gl:Gl P m
 pnd:pn.Pairwise (fun x y=>x.id≠y.id∧x.idx≠y.idx)
 pn1:∀x∈pn,Nat.testBit T x.idx=true∧(∃o,ops.toList[x.idx]?=some o)∧h0.next.toNat≤x.id.toNat∧x.id.toNat<h.next.toNat∧aB x.id h.mem=none
 pn2:∀x∈pn,(∀b sz els f ro,aB b h.mem=some (.cells sz els f ro)→f≠x.id)∧(∀sz els f ro,x.ob= .cells sz els f ro→f=x.id)∧(Sb listed x.idx=false→m x.id=none)
structure Inv (P:Program) (n:Nat) (ops:Array Oper) (base:DOp2) (tl:List Nat) (call:bR) (e':Env) (h':H) (m0:Mp) (h0:H) (w0:Wo) (listed:Array Bool) (T:Nat) (l:List Nat) (e:Env) (h:H) (pn:List PN) (pc:List PC) (m:Mp) (a:Act) (w:Wo):Prop
  extends Core P n ops m0 h0 w0 listed T e h pn pc m a w where
 plan:nI ops.toList (aH [] ops.toList) tl T l=true
 run:(fF P base ops.toList (aH [] ops.toList) l).run call e h pn pc= .ok e' h'
section
variable {n:Nat} {ops:Array Oper} {base:DOp2} {tl:List Nat} {call:bR} {e':Env} {h':H} {m0:Mp} {h0:H} {w0:Wo} {listed:Array Bool} {T:Nat} {l:List Nat} {e:Env} {h:H} {pn:List PN} {pc:List PC} {a:Act}
def Core.pid (k:Core P n ops m0 h0 w0 listed T e h pn pc m a w):pn.Pairwise (fun x y=>x.id≠y.id):=k.pnd.imp (fun h=>h.1)
def Core.inj (k:Core P n ops m0 h0 w0 listed T e h pn pc m a w) {x y:PN} (hx:x∈pn) (hy:y∈pn) (a6:x≠y):x.id≠y.id∧x.idx≠y.idx:=
 pw_ne (fun _ _ h=>⟨fR h.1,fR h.2⟩) k.pnd x hx y hy a6
def CU (a7:nJ ops.toList (aH [] ops.toList)=true) (a1:fN P n ops=true) {s:Nat} (k:Inv P n ops base tl call e' h' m0 h0 w0 listed T (s::l) e h pn pc m a w) {o:Oper} (ho:ops.toList[s]?=some o)
  (hS:∀x,Nat.testBit (natAt (aH [] ops.toList) s) x=true→gC ops.toList (aH [] ops.toList) s o= .heavy→Sb listed x=true) (v:V):
  ∀j oj,ops.toList[j]?=some oj→Nat.testBit T j=true→Sb listed j=false→(∀t,t∈cK ops.toList oj∨oj.dst=some t→o.dst≠some t):=by
 intro j oj hj hT c2 t ht hd;obtain⟨a8,hbT,_,_⟩:=oN k.plan;have a6:j≠s:=fun e=>by subst e;rw [hT] at a8;cases a8
 have c4:¬Nat.testBit (natAt (aH [] ops.toList) j) s=true:=fun hb=>by
  have:=k.tT j hT s hb;rw [this] at a8;cases a8
 by_cases hk:gC ops.toList (aH [] ops.toList) s o= .heavy
 ·rcases Ae a7 ho hd hj a6 ht with h1|h1
  ·exact c4 h1
  ·rw [hS j h1 hk] at c2;cases c2
 ·exact c4 ((AZ (BA hk) hd).2 j oj hj a6 ht)
def CA {oj:Oper} {i:Nat} (b4:n≤511) (a1:fN P n ops=true) (a3:sN n o.dst=true) {j:Nat} (hj:ops.toList[j]?=some oj) (a6:∀t,t∈cK ops.toList oj∨oj.dst=some t→o.dst≠some t):
  cD (gQ o.dst v e) (cK ops.toList oj)=cD e (cK ops.toList oj)∧∀d,oj.dst=some d→bQ d (gQ o.dst v e)=bQ d e:=by
 have c3:ops[j]?=some oj:=by simpa using hj
 have a4:∀x:Nat,o.dst=some x→x<512:=fun x hx=>by have:=gE a3 hx;omega
 constructor
 ·refine CB ?_ _ ?_
  ·rw [lO (by decide) a4];have:o.dst≠some fW:=fun hx=>by have:=gE a3 hx;simp [fW] at this;omega
   simp [this]
  ·intro t ht;have:=xE a1 c3 t ht;rw [lO (by omega) a4];simp [a6 t (.inl ht)]
 ·intro d hd;have:=gE (jM a1 c3).2 hd;rw [lO (by omega) a4];simp [a6 d (.inr hd)]
def uT (b4:n≤511) (a3:sN n o.dst=true):bQ fW (gQ o.dst v e)=bQ fW e:=by
 have a4:∀x:Nat,o.dst=some x→x<512:=fun x hx=>by have:=gE a3 hx;omega
 rw [lO (by decide) a4];have:o.dst≠some fW:=fun hx=>by have:=gE a3 hx;simp [fW] at this;omega
 simp [this]
def Jx (a7:nJ ops.toList (aH [] ops.toList)=true) (a1:fN P n ops=true) {s:Nat} (k:Inv P n ops base tl call e' h' m0 h0 w0 listed T (s::l) e h pn pc m a w) {o:Oper} (ho:ops.toList[s]?=some o)
  (hk:gC ops.toList (aH [] ops.toList) s o= .light):∃e1 d3,Inv P n ops base tl call e' h' m0 h0 w0 listed (T|||2^s) l e1 h pn d3 m a w:=by
 have a0:=k.run;rw [fF] at a0;simp only [kO,ho,hk] at a0;have b7:ops[s]?=some o:=by simpa using ho
 obtain⟨c1,a3⟩:=jM a1 b7;obtain⟨a8,hbT,_,hpl⟩:=oN k.plan;have b9:Sb listed s=false:=by
  cases hx:Sb listed s with
  |false=>rfl
  |true=>rw [k.sT s hx] at a8;cases a8
 cases hv:qJ P ops.toList o (cD e (cK ops.toList o)) (hq h) with
 |none=>rw [hv] at a0;cases a0
 | some v=>
  rw [hv] at a0;simp only at a0;have a5:=CU a7 a1 k ho (fun x _ hh=>by rw [hk] at hh;cases hh) v;have a9:=BA (ops:=ops.toList) (bef:=aH [] ops.toList) (i:=s) (o:=o) (by rw [hk];simp);have b0:∀t,t∈cK ops.toList o→o.dst≠some t:=fun t ht hd=>(AZ a9 hd).1 ht
  have a2:cD (gQ o.dst v e) (cK ops.toList o)=cD e (cK ops.toList o):=by
   refine CB (uT k.le a3) _ ?_;intro t ht;have:=xE a1 b7 t ht;have b4:=k.le;rw [lO (by omega) (fun x hx=>by have:=gE a3 hx;omega)];simp [b0 t ht]
  refine⟨gQ o.dst v e,⟨s,fun h'=>eqO v (qJ P ops.toList o (cD e (cK ops.toList o)) h')⟩::pc,⟨⟨k.lsz,k.down,fun j hj=>by rw [gF];simp [k.sT j hj],?_,?_,k.size,k.le,?_,?_,k.fr,k.gl,k.pnd,?_,k.pn2⟩,hpl,a0⟩⟩
  ·intro j hj x hx;rw [gF] at hj ⊢;simp only [jU,iF] at hj ⊢;rcases hj with rfl|hj
   ·exact .inr (hbT x hx)
   ·exact .inr (k.tT j hj x hx)
  ·intro j oj hj hT hS;rw [gF] at hT;simp only [jU,iF] at hT
   by_cases e1:j=s
   ·subst e1;rw [ho] at hj;cases hj;rw [hk];refine⟨fun x hx b1=>?_,v,fun d hd=>?_,?_,_,vN,rfl,?_⟩
    ·have:=(k.pn1 x hx).1;rw [b1,a8] at this;cases this
    ·have:=gE a3 hd;have b4:=k.le;rw [lO (by omega) (fun x hx=>by have:=gE a3 hx;omega)];simp [hd]
    ·rw [a2];exact hv
    ·rw [a2]
   ·have hT:Nat.testBit T j=true:=hT.resolve_left e1;obtain⟨q1,q2⟩:=CA (v:=v) (e:=e) (i:=s) k.le a1 a3 hj (a5 j oj hj hT hS);exact(k.pend j oj hj hT hS).mono q1 q2 (fun x _=>Iff.rfl) (fun c hc _=>rJ _ hc) (fun q v _ hq=>hq)
  ·rw [uT k.le a3];exact k.dfr
  ·intro t ht
   by_cases e1:o.dst=some t
   ·exact .inl ⟨s,o,by rw [gF];simp,b9,ho,e1⟩
   ·have b4:=k.le;rw [lO (by omega) (fun x hx=>by have:=gE a3 hx;omega)];rw [if_neg e1];rcases k.env t ht with⟨i,oi,h1,h2,h3,h4⟩|h1
    ·exact .inl ⟨i,oi,by rw [gF];simp [h1],h2,h3,h4⟩
    ·exact .inr h1
  ·intro x hx;obtain⟨h1,h2⟩:=k.pn1 x hx;exact⟨by rw [gF];simp [h1],h2⟩
def Jw (a7:nJ ops.toList (aH [] ops.toList)=true) (a1:fN P n ops=true) {s:Nat} (k:Inv P n ops base tl call e' h' m0 h0 w0 listed T (s::l) e h pn pc m a w) {o:Oper} (ho:ops.toList[s]?=some o)
  (hk:gC ops.toList (aH [] ops.toList) s o= .new) (d1:∀nv,(qD P o.op).run (cD e (cK ops.toList o))=some nv→∀i sz els f ro,nv.ob i= .cells sz els f ro→f=i):
  ∃e1 h1 pn1,Inv P n ops base tl call e' h' m0 h0 w0 listed (T|||2^s) l e1 h1 pn1 pc m a w:=by
 have a0:=k.run;rw [fF] at a0;simp only [kO,ho,hk] at a0;have b7:ops[s]?=some o:=by simpa using ho
 obtain⟨c1,a3⟩:=jM a1 b7;obtain⟨a8,hbT,_,hpl⟩:=oN k.plan;have b4:=k.le;have b9:Sb listed s=false:=by
  cases hx:Sb listed s with
  |false=>rfl
  |true=>rw [k.sT s hx] at a8;cases a8
 have a9:=BA (ops:=ops.toList) (bef:=aH [] ops.toList) (i:=s) (o:=o) (by rw [hk];simp);have b0:∀t,t∈cK ops.toList o→o.dst≠some t:=fun t ht hd=>(AZ a9 hd).1 ht
 have a2:∀v,cD (gQ o.dst v e) (cK ops.toList o)=cD e (cK ops.toList o):=fun v=>by
  refine CB (uT k.le a3) _ ?_;intro t ht;have:=xE a1 b7 t ht;rw [lO (by omega) (fun x hx=>by have:=gE a3 hx;omega)];simp [b0 t ht]
 have c6:∀j,Nat.testBit (T|||2^s) j=true→∀x,Nat.testBit (natAt (aH [] ops.toList) j) x=true→Nat.testBit (T|||2^s) x=true:=by
  intro j hj x hx;rw [gF] at hj ⊢;simp only [jU,iF] at hj ⊢;rcases hj with rfl|hj
  ·exact .inr (hbT x hx)
  ·exact .inr (k.tT j hj x hx)
 have b3:∀v t,t<n→(∃i o,Nat.testBit (T|||2^s) i=true∧Sb listed i=false∧ops.toList[i]?=some o∧o.dst=some t)∨R m (bQ t (gQ o.dst v e)) (a.tmps.getD t undef):=by
  intro v t ht
  by_cases e1:o.dst=some t
  ·exact .inl ⟨s,o,by rw [gF];simp,b9,ho,e1⟩
  ·rw [lO (by omega) (fun x hx=>by have:=gE a3 hx;omega)];rw [if_neg e1];rcases k.env t ht with⟨i,oi,h1,h2,h3,h4⟩|h1
   ·exact .inl ⟨i,oi,by rw [gF];simp [h1],h2,h3,h4⟩
   ·exact .inr h1
 have b6:∀x∈pn,x.idx≠s:=fun x hx b1=>by have:=(k.pn1 x hx).1;rw [b1,a8] at this;cases this
 cases hgd:gdC ops.toList o (cD e (cK ops.toList o)) with
 |none=>rw [hgd] at a0;cases a0
 | some b=>
  rw [hgd] at a0;cases b with
  | false=>
   simp only at a0;have a5:=CU a7 a1 k ho (fun x _ hh=>by rw [hk] at hh;cases hh) cN;refine⟨gQ o.dst cN e,h,pn,⟨⟨k.lsz,k.down,fun j hj=>by rw [gF];simp [k.sT j hj],c6,?_,k.size,k.le,by rw [uT k.le a3];exact k.dfr,b3 _,k.fr,k.gl,k.pnd,?_,k.pn2⟩,hpl,a0⟩⟩
   ·intro j oj hj hT hS;rw [gF] at hT;simp only [jU,iF] at hT
    by_cases e1:j=s
    ·subst e1;rw [ho] at hj;cases hj;rw [hk];refine .inr ⟨b6,by rw [a2];exact hgd,fun d hd=>?_⟩;have:=gE a3 hd;rw [lO (by omega) (fun x hx=>by have:=gE a3 hx;omega)];simp [hd]
    ·have hT:Nat.testBit T j=true:=hT.resolve_left e1;obtain⟨q1,q2⟩:=CA (v:=cN) (e:=e) (i:=s) k.le a1 a3 hj (a5 j oj hj hT hS);exact(k.pend j oj hj hT hS).mono q1 q2 (fun x _=>Iff.rfl) (fun c hc _=>hc) (fun q v _ hq=>hq)
   ·intro x hx;obtain⟨h1,h2⟩:=k.pn1 x hx;exact⟨by rw [gF];simp [h1],h2⟩
  | true=>
   simp only at a0;cases hnw:(qD P o.op).run (cD e (cK ops.toList o)) with
   |none=>rw [hnw] at a0;cases a0
   | some nv=>
    cases hnx:h.next.succ with
    |none=>rw [hnw,hnx] at a0;cases a0
    | some nx=>
     rw [hnw,hnx] at a0;simp only at a0;have d2:=Id.succ_toNat hnx;have a5:=CU a7 a1 k ho (fun x _ hh=>by rw [hk] at hh;cases hh) (nv.v h.next);have c0:eU (Sb listed) (⟨s,h.next,nv.ob h.next⟩::pn) ⟨h.mem,h.fams,nx⟩=⟨(eU (Sb listed) pn h).mem,(eU (Sb listed) pn h).fams,nx⟩:=by
      simp [eU,dY,b9]
     have c5:m h.next=none:=by
      cases hx:m h.next with
      |none=>rfl
      |some lx=>exact absurd (k.fr.hr.dom _ _ hx) (rG _)
     have b8:∀b ob,aB b h.mem=some ob→aB b (dY (Sb listed) pn h.mem)=some ob:=by
      intro b ob hb;rw [oV]
      ·exact hb
      ·intro x hx _ e1;have:=(k.pn1 x hx).2.2.2.2;rw [e1,hb] at this;cases this
     have b5:aB h.next h.mem=none:=by
      cases hx:aB h.next h.mem with
      |none=>rfl
      |some ob=>
       obtain⟨l,hl,_⟩:=k.fr.hr.obj _ _ (b8 _ _ hx);rw [c5] at hl;cases hl
     refine⟨gQ o.dst (nv.v h.next) e,⟨h.mem,h.fams,nx⟩,⟨s,h.next,nv.ob h.next⟩::pn,⟨⟨k.lsz,k.down,fun j hj=>by rw [gF];simp [k.sT j hj],c6,?_,k.size,k.le,by rw [uT k.le a3];exact k.dfr,b3 _,?_,k.gl,?_,?_,?_⟩,hpl,a0⟩⟩
     ·intro j oj hj hT hS;rw [gF] at hT;simp only [jU,iF] at hT
      by_cases e1:j=s
      ·subst e1;rw [ho] at hj;cases hj;rw [hk];refine .inl ⟨by rw [a2];exact hgd,_,vN,rfl,nv,by rw [a2];exact hnw,rfl,fun d hd=>?_⟩;have:=gE a3 hd;rw [lO (by omega) (fun x hx=>by have:=gE a3 hx;omega)];simp [hd]
      ·have hT:Nat.testBit T j=true:=hT.resolve_left e1;obtain⟨q1,q2⟩:=CA (v:=nv.v h.next) (e:=e) (i:=s) k.le a1 a3 hj (a5 j oj hj hT hS);refine(k.pend j oj hj hT hS).mono q1 q2 (fun x hx=>?_) (fun c hc _=>hc) (fun q v _ hq=>hq);constructor
       ·exact fun h=>rJ _ h
       ·intro h;rcases cM.1 h with rfl|h
        ·exact absurd hx.symm e1
        ·exact h
     ·rw [c0];exact k.fr.bump (by show h.next.toNat≤nx.toNat;omega)
     ·refine tI.2 ⟨fun y hy=>⟨?_,?_⟩,k.pnd⟩
      ·intro e1;have h3:=(k.pn1 y hy).2.2.2.1;have e2:h.next=y.id:=e1;rw [←e2] at h3;exact absurd h3 (rG _)
      ·exact fR (b6 y hy)
     ·intro x hx;rcases cM.1 hx with rfl|hx
      ·refine⟨by rw [gF];simp,⟨o,ho⟩,?_,?_,b5⟩
       ·have:=k.fr.nxt;have h2:(eU (Sb listed) pn h).next=h.next:=rfl;rw [h2] at this;exact this
       ·show h.next.toNat<nx.toNat;omega
      ·obtain⟨h1,h2,h3,h4,h5⟩:=k.pn1 x hx;exact⟨by rw [gF];simp [h1],h2,h3,by show x.id.toNat<nx.toNat;omega,h5⟩
     ·intro x hx;rcases cM.1 hx with rfl|hx
      ·refine⟨?_,fun sz els f ro e1=>d1 nv hnw _ _ _ _ _ e1,fun _=>c5⟩;intro b sz els f ro hb e1;have:=k.fr.hr.famlt _ _ _ _ _ (b8 _ _ hb);have h2:(eU (Sb listed) pn h).next=h.next:=rfl;rw [h2] at this;have e2:f=h.next:=e1;rw [e2] at this;exact absurd this (rG _)
      ·exact k.pn2 x hx
end
end
section
variable {P:Program} {m:Mp} {w:Wo}
def Bg {op:Op} {nv:NV} (hv:(qD P op).run e=some nv):∀i sz els f ro,nv.ob i= .cells sz els f ro→f=i:=by
 have key:∀ty s els vf,∀i b4 els' f ro,(oS ty s els vf).ob i= .cells b4 els' f ro→f=i:=by
  intro ty s els vf i b4 els' f ro h;cases h;rfl
 cases op<;>simp only [qD] at hv<;>(try (cases hv;done))
 case alloc t=>
  split at hv
  ·split at hv
   ·cases hv;exact key _ _ _ _
   ·cases hv
  ·cases hv
 case box t x=>
  split at hv
  ·cases hv;exact key _ _ _ _
  ·cases hv
 case makeMap t r=>
  cases r with
  |none=>cases hv;intro i sz els f ro h;cases h
  |some x=>cases hv
 case buildSlice t len ps=>
  split at hv
  ·rename_i el hu;split at hv
   ·rename_i sz z hs hz;split at hv
    ·rename_i zc hc;cases hcd:(Nat.ble (len*(sz+1)) 16777216&&Nat.beq (eJ zc) (sz+1)) with
     |false=>rw [hcd] at hv;cases hv
     |true=>
      rw [hcd] at hv;simp only [cS] at hv;split at hv
      ·cases hv;exact key _ _ _ _
      ·cases hv
    ·cases hv
   ·cases hv
  ·cases hv
def Dy (b2:eY P call) (k:aY m n e a) (hg:Gl P m) {h h':H} (hr:HR m h w) {o:Oper} (a1:o.op.operands.toList.all (cT P n)=true) {v:V}
  (hv:hvC P o.op call e h= .ok v h'):cO P ((execOp a.eval o).run P w) m h w v h':=by
 unfold hvC at hv;cases hh:isHeavy o.op with
 |true=>rw [hh] at hv;exact FZ b2 k hg hr a1 hv
 | false=>
  rw [hh] at hv;simp only [kV] at hv;cases hl:(oY P o.op).run e h with
  |none=>rw [hl] at hv;cases hv
  |some v'=>
   rw [hl] at hv;cases hv;obtain⟨u,h1,h2⟩:=AX k hg hr a1 hl;exact .inl ⟨u,w,m,.inl h1,Fr.refl hr,h2⟩
def MY (a:Act) (d:Option Nat) (u:Value):(a.put d u).tmps.size=a.tmps.size:=by cases d<;>simp [Act.put]
def NA (a:Act) (d:Option Nat) (u:Value):(a.put d u).defers=a.defers:=by cases d<;>rfl
def MZ {t:Nat} (ht:t<a.tmps.size):(a.put d u).tmps.getD t undef=if d=some t then u else a.tmps.getD t undef:=by
 cases d with
 |none=>simp [Act.put]
 |some x=>
  by_cases e:x=t
  ·subst e;simp [Act.put,tO,ht]
  ·simp [Act.put,tO,lV,e]
section
variable {n:Nat} {ops:Array Oper} {m0:Mp} {h0:H} {w0:Wo} {listed:Array Bool} {T:Nat} {l:List Nat} {e:Env} {h:H} {pn:List PN} {pc:List PC} {a:Act}
def Core.sub (k:Core P n ops m0 h0 w0 listed T e h pn pc m a w):∀b ob,aB b h.mem=some ob→aB b (dY (Sb listed) pn h.mem)=some ob:=by
 intro b ob hb;rw [oV]
 ·exact hb
 ·intro x hx _ e1;have:=(k.pn1 x hx).2.2.2.2;rw [e1,hb] at this;cases this
def Core.hrq (k:Core P n ops m0 h0 w0 listed T e h pn pc m a w):HR m (hq h) w:=by
 have:h.next.toNat≤FX.toNat:=by
  have c3:FX.toNat=32767:=rfl;rw [c3];obtain⟨a,b,c,d,e⟩:=h.next;have h1:=D8.toNat_lt a;have h2:=D8.toNat_lt b;have h3:=D8.toNat_lt c;have h4:=D8.toNat_lt d;have h5:=D8.toNat_lt e;simp only [Id.toNat];omega
 exact k.fr.hr.sub (mem':=h.mem) k.sub this
def Core.looksR (a0:fN P n ops=true) (k:Core P n ops m0 h0 w0 listed T e h pn pc m a w) {i:Nat} {o:Oper} (ho:ops.toList[i]?=some o)
  (b0:∀x,Nat.testBit (natAt (aH [] ops.toList) i) x=true→Sb listed x=true):aY m n (cD e (cK ops.toList o)) a:=by
 have a4:ops[i]?=some o:=by simpa using ho
 refine envM_R k.size k.le k.dfr _ (xE a0 a4) ?_;intro t ht;rcases k.env t (xE a0 a4 t ht) with⟨x,ox,hT,hS,hx,hd⟩|h1
 ·exfalso;have hp:=k.pend x ox hx hT hS;have c4:gC ops.toList (aH [] ops.toList) x ox≠ .heavy:=fun hh=>by rw [hh] at hp;exact hp
  obtain⟨l1,l2⟩:=AZ (BA c4) hd
  by_cases e1:i=x
  ·subst e1;rw [ho] at hx;cases hx;exact l1 ht
  ·have:=b0 x (l2 i o ho e1 (.inl ht));rw [this] at hS;cases hS
 ·exact h1
def BH (k:Core P n ops m0 h0 w0 listed T e h pn pc m a w) {i:Nat} {o:Oper} (ho:ops.toList[i]?=some o) (hT:Nat.testBit T i=true)
  (a6:∀x∈o.after.toList,iI x=true→Sb listed x.on=true) {m':Mp} {w':Wo} {u:Value} (hm:m.le m') (b8:Fr m0 h0 w0 m' (eU (Sb (listed.setIfInBounds i true)) pn h) w')
  (hu:∀d,o.dst=some d→R m' (bQ d e) u) (c5:∀x∈pn,Sb (listed.setIfInBounds i true) x.idx=false→m' x.id=none):
  Core P n ops m0 h0 w0 (listed.setIfInBounds i true) T e h pn pc m' (a.put o.dst u) w':=by
 have a3:i<listed.size:=by
  rw [k.lsz];have:i<ops.toList.length:=(aM.1 ho).1;simpa using this
 have a2:=Sb_set (listed:=listed) a3;have a5:∀j,Sb listed j=true→Sb (listed.setIfInBounds i true) j=true:=fun j hj=>by rw [a2];simp [hj]
 have b1:∀j,Sb (listed.setIfInBounds i true) j=false→j≠i∧Sb listed j=false:=fun j hj=>by
  rw [a2] at hj;simpa using hj
 refine⟨by simp [k.lsz],?_,?_,k.tT,?_,by rw [MY];exact k.size,k.le,?_,?_,b8,k.gl.mono hm,k.pnd,k.pn1,?_⟩
 ·intro j oj hj hS x hx hb;rw [a2] at hS;simp only [jU,iF] at hS;rcases hS with rfl|hS
  ·rw [ho] at hj;cases hj;exact a5 _ (a6 x hx hb)
  ·exact a5 _ (k.down j oj hj hS x hx hb)
 ·intro j hj;rw [a2] at hj;simp only [jU,iF] at hj;rcases hj with rfl|hj
  ·exact hT
  ·exact k.sT j hj
 ·intro j oj hj b5 hS;exact k.pend j oj hj b5 (b1 j hS).2
 ·rw [NA];obtain⟨L,h1,h2⟩:=k.dfr;exact⟨L,h1,h2.mono hm⟩
 ·intro t ht;rw [MZ (by rw [k.size];exact ht)]
  by_cases e1:o.dst=some t
  ·rw [if_pos e1];exact .inr (hu t e1)
  ·rw [if_neg e1];rcases k.env t ht with⟨x,ox,h1,h2,h3,h4⟩|h1
   ·refine .inl ⟨x,ox,h1,?_,h3,h4⟩;rw [a2];have:x≠i:=fun e2=>by subst e2;rw [ho] at h3;cases h3;exact e1 h4
    simp [this,h2]
   ·exact .inr (h1.mono hm)
 ·intro x hx;obtain⟨p1,p2,p3⟩:=k.pn2 x hx;exact⟨p1,p2,c5 x hx⟩
def AN (k:Core P n ops m0 h0 w0 listed T e h pn pc m a w) {i:Nat} (hi:i<listed.size) (a9:∀x∈pn,x.idx≠i):eU (Sb (listed.setIfInBounds i true)) pn h=eU (Sb listed) pn h:=by
 unfold eU;rw [FF h.mem pn (fun x hx=>by rw [Sb_set hi,oC (a9 x hx),oI])]
def XW (a0:fN P n ops=true) (k:Core P n ops m0 h0 w0 listed T e h pn pc m a w) {i:Nat} {o:Oper} (ho:ops.toList[i]?=some o) (hT:Nat.testBit T i=true) (hS:Sb listed i=false)
  (a6:∀x∈o.after.toList,iI x=true→Sb listed x.on=true) (b0:∀x,Nat.testBit (natAt (aH [] ops.toList) i) x=true→Sb listed x=true)
  (hk:gC ops.toList (aH [] ops.toList) i o= .light) {K:Act→Wo→Prop} {Q:Exit→Act→Wo→Prop}
  (hn:∀m' a' w',Core P n ops m0 h0 w0 (listed.setIfInBounds i true) T e h pn pc m' a' w'→K a' w'):wpOp P ops Q i K a w:=by
 have a4:ops[i]?=some o:=by simpa using ho
 have a3:i<listed.size:=by rw [k.lsz];exact(aG.1 a4).1
 obtain⟨a1,hdo⟩:=jM a0 a4;have hE:=k.looksR a0 ho b0;have hp:=k.pend i o ho hT hS;rw [hk] at hp;obtain⟨a9,v,hv1,hv2,_⟩:=hp;unfold qJ at hv2;unfold wpOp;simp only [a4];cases a7:gdC ops.toList o (cD e (cK ops.toList o)) with
 |none=>rw [a7] at hv2;cases hv2
 | some b=>
  rw [a7] at hv2;have hw:=BP a0 hE a7;cases b with
  |true=>
   simp only at hv2;rw [if_pos hw];obtain⟨u,h1,h2⟩:=AX hE k.gl k.hrq a1 hv2;refine .inl ?_;unfold Oper.wp;rw [h1,yM];refine hn m _ w (BH k ho hT a6 (Mp.le_refl m) ?_ (fun d hd=>by rw [hv1 d hd];exact h2) (fun x hx hs=>(k.pn2 x hx).2.2 ?_))
   ·rw [AN k a3 a9];exact k.fr
   ·rw [Sb_set a3] at hs;simp at hs;exact hs.2
  |false=>
   simp only at hv2;cases hv2;rw [if_neg (by rw [hw];simp)];refine hn m _ w (BH k ho hT a6 (Mp.le_refl m) ?_ (fun d hd=>by rw [hv1 d hd];simp [R,Rl,cN,undef]) (fun x hx hs=>(k.pn2 x hx).2.2 ?_))
   ·rw [AN k a3 a9];exact k.fr
   ·rw [Sb_set a3] at hs;simp at hs;exact hs.2
def XV (a0:fN P n ops=true) (k:Core P n ops m0 h0 w0 listed T e h pn pc m a w) {i:Nat} {o:Oper} (ho:ops.toList[i]?=some o) (hT:Nat.testBit T i=true) (hS:Sb listed i=false)
  (a6:∀x∈o.after.toList,iI x=true→Sb listed x.on=true) (b0:∀x,Nat.testBit (natAt (aH [] ops.toList) i) x=true→Sb listed x=true)
  (hk:gC ops.toList (aH [] ops.toList) i o= .new) {K:Act→Wo→Prop} {Q:Exit→Act→Wo→Prop}
  (hn:∀m' a' w',Core P n ops m0 h0 w0 (listed.setIfInBounds i true) T e h pn pc m' a' w'→K a' w'):wpOp P ops Q i K a w:=by
 have a4:ops[i]?=some o:=by simpa using ho
 have a3:i<listed.size:=by rw [k.lsz];exact(aG.1 a4).1
 obtain⟨a1,hdo⟩:=jM a0 a4;have hE:=k.looksR a0 ho b0;have hp:=k.pend i o ho hT hS;rw [hk] at hp;unfold wpOp;simp only [a4];have a2:=Sb_set (listed:=listed) a3;rcases hp with⟨a7,x,hx,hxi,nv,hnw,hob,hdst⟩|⟨a9,a7,hdst⟩
 ·rw [if_pos (BP a0 hE a7)];obtain⟨s,hs,u,ob,lc,w',hrun,hheap,hos,htape,hout,hblk,hwr,hfam,hobj,hval⟩:=Bf (w:=w) hE k.gl a1 hnw;refine .inl ?_;unfold Oper.wp;have b6:(execOp a.eval o).run P w= .ok (.value u) w':=by rw [hs];simp [hrun]
  rw [b6,yM];have c2:m x.id=none:=(k.pn2 x hx).2.2 (by rw [hxi];exact hS);obtain⟨q1,q2,q3,q4,q5⟩:=k.pn1 x hx;obtain⟨r1,r2,r3⟩:=k.pn2 x hx;have b7:∀b sz els f ro,aB b (dY (Sb listed) pn h.mem)=some (.cells sz els f ro)→f≠x.id:=by
   intro b sz els f ro hb;rcases uH _ _ _ k.pid _ _ hb with⟨y,hy,a8,hyb,hyo⟩|⟨_,hb⟩
   ·have b3:y≠x:=fun e1=>by subst e1;rw [hxi,hS] at a8;cases a8
    have:=(k.pn2 y hy).2.1 _ _ _ _ hyo;rw [this];exact(k.inj hy hx b3).1
   ·exact r1 _ _ _ _ _ hb
  have c0:aB x.id (dY (Sb (listed.setIfInBounds i true)) pn h.mem)=some (nv.ob x.id):=by
   rw [←hob];exact lL _ _ _ k.pid x hx (by rw [a2];simp [hxi])
  have c1:∀b,b≠x.id→aB b (dY (Sb (listed.setIfInBounds i true)) pn h.mem)=aB b (dY (Sb listed) pn h.mem):=by
   intro b hb
   by_cases hy:∃y∈pn,Sb listed y.idx=true∧y.id=b
   ·obtain⟨y,h1,h2,rfl⟩:=hy;rw [lL _ _ _ k.pid y h1 h2,lL _ _ _ k.pid y h1 (by rw [a2];simp [h2])]
   ·rw [oV,oV]
    ·intro y h1 h2 h3;exact hy ⟨y,h1,h2,h3⟩
    ·intro y h1 h2 h3;rw [a2] at h2;simp only [jU,iF] at h2;rcases h2 with h2|h2
     ·by_cases e1:y=x
      ·subst e1;exact hb h3.symm
      ·exact(k.inj h1 hx e1).2 (h2.trans hxi.symm)
     ·exact hy ⟨y,h1,h2,h3⟩
  obtain⟨hF,hle⟩:=Fr.addNew k.fr c2 q3 q4 hblk (fun sz els f ro e1=>hfam x.id sz els f ro e1) b7 hheap hos htape hout (fun m' b9 w2 c6=>hobj x.id m' b9 w2 c6) c0 c1;refine hn _ _ w' (BH k ho hT a6 hle hF (fun d hd=>by rw [hdst d hd];exact hval x.id _ (by simp)) ?_);intro y hy a8;rw [a2] at a8;simp at a8;have b3:y≠x:=fun e1=>by subst e1;exact a8.1 hxi
  have:=(k.inj hy hx b3).1;simp [this];exact(k.pn2 y hy).2.2 a8.2
 ·rw [if_neg (by rw [BP a0 hE a7];simp)];refine hn m _ w (BH k ho hT a6 (Mp.le_refl m) ?_ (fun d hd=>by rw [hdst d hd];simp [R,Rl,cN,undef]) (fun x hx hs=>(k.pn2 x hx).2.2 ?_))
  ·rw [AN k a3 a9];exact k.fr
  ·rw [Sb_set a3] at hs;simp at hs;exact hs.2
end
end
section
variable {P:Program} {m:Mp} {w:Wo}
section
variable {n:Nat} {ops:Array Oper} {base:DOp2} {tl:List Nat} {call:bR} {e':Env} {h':H} {m0:Mp} {h0:H} {w0:Wo} {listed:Array Bool} {T:Nat} {l:List Nat} {e:Env} {h:H} {pn:List PN} {pc:List PC} {a:Act}
def PX (a2:nJ ops.toList (aH [] ops.toList)=true) (a1:fN P n ops=true) {s:Nat} (k:Inv P n ops base tl call e' h' m0 h0 w0 listed T (s::l) e h pn pc m a w) {o:Oper} (ho:ops.toList[s]?=some o)
  (c5:∀x∈o.after.toList,iI x=true→Sb listed x.on=true) (b6:∀x,Nat.testBit (natAt (aH [] ops.toList) s) x=true→Sb listed x=true)
  {m':Mp} {w':Wo} {u:Value} {v:V} {h1:H} {pn1:List PN} {b5:List PC} (hm:m.le m') (hR:R m' v u)
  (a0:(fF P base ops.toList (aH [] ops.toList) l).run call (gQ o.dst v e) h1 pn1 b5= .ok e' h')
  (e3:Fr m0 h0 w0 m' (eU (Sb (listed.setIfInBounds s true)) pn1 h1) w')
  (f1:∀x,Nat.testBit (natAt (aH [] ops.toList) s) x.idx=false→(x∈pn↔x∈pn1)) (e9:∀c∈pc,Nat.testBit (natAt (aH [] ops.toList) s) c.idx=false→c∈b5)
  (hh:∀c∈pc,Nat.testBit (natAt (aH [] ops.toList) s) c.idx=false→∀(q:H→Option V) v,(c.chk=fun h'=>eqO v (q h'))→q (hq h)=some v→q (hq h1)=some v)
  (f0:pn1.Pairwise (fun x y=>x.id≠y.id∧x.idx≠y.idx)) (b9:∀x∈pn1,x∈pn) (e6:h.next.toNat≤h1.next.toNat)
  (e7:∀x∈pn1,aB x.id h1.mem=none) (e8:∀x∈pn1,(∀b sz els f ro,aB b h1.mem=some (.cells sz els f ro)→f≠x.id)∧(Sb listed x.idx=false→m' x.id=none)):
  Inv P n ops base tl call e' h' m0 h0 w0 (listed.setIfInBounds s true) (T|||2^s) l (gQ o.dst v e) h1 pn1 b5 m' (a.put o.dst u) w':=by
 have c1:ops[s]?=some o:=by simpa using ho
 have c6:s<listed.size:=by rw [k.lsz];exact(aG.1 c1).1
 obtain⟨c4,hdo⟩:=jM a1 c1;obtain⟨c7,hbT,_,hpl⟩:=oN k.plan;have f4:=k.le;have a4:=Sb_set (listed:=listed) c6;have a8:∀j,Sb listed j=true→Sb (listed.setIfInBounds s true) j=true:=fun j hj=>by rw [a4];simp [hj]
 have a7:∀j,Sb (listed.setIfInBounds s true) j=false→j≠s∧Sb listed j=false:=fun j hj=>by
  rw [a4] at hj;simpa using hj
 have c3:=CU a2 a1 k ho (fun x hx _=>b6 x hx) v;refine⟨⟨by simp [k.lsz],?_,?_,?_,?_,by rw [MY];exact k.size,k.le,?_,?_,e3,k.gl.mono hm,f0,?_,?_⟩,hpl,a0⟩
 ·intro j oj hj hS x hx hb;rw [a4] at hS;simp only [jU,iF] at hS;rcases hS with rfl|hS
  ·rw [ho] at hj;cases hj;exact a8 _ (c5 x hx hb)
  ·exact a8 _ (k.down j oj hj hS x hx hb)
 ·intro j hj;rw [a4] at hj;rw [gF];simp only [jU,iF] at hj ⊢;rcases hj with rfl|hj
  ·exact .inl rfl
  ·exact .inr (k.sT j hj)
 ·intro j hj x hx;rw [gF] at hj ⊢;simp only [jU,iF] at hj ⊢;rcases hj with rfl|hj
  ·exact .inr (hbT x hx)
  ·exact .inr (k.tT j hj x hx)
 ·intro j oj hj b7 hS;obtain⟨a5,hSj⟩:=a7 j hS;rw [gF] at b7;simp only [jU,iF] at b7;have b7:Nat.testBit T j=true:=b7.resolve_left a5;have d0:Nat.testBit (natAt (aH [] ops.toList) s) j=false:=by
   cases hb:Nat.testBit (natAt (aH [] ops.toList) s) j with
   |false=>rfl
   |true=>rw [b6 j hb] at hSj;cases hSj
  obtain⟨q1,q2⟩:=CA (v:=v) (e:=e) (i:=s) k.le a1 hdo hj (c3 j oj hj b7 hSj);refine(k.pend j oj hj b7 hSj).mono q1 q2 (fun x hx=>f1 x (by rw [hx];exact d0)) (fun c hc c8=>e9 c hc (by rw [c8];exact d0)) ?_;rintro q v1 ⟨c,hc,c8,hck⟩ d1;exact hh c hc (by rw [c8];exact d0) q v1 hck d1
 ·rw [uT k.le hdo,NA];obtain⟨L,h1,h2⟩:=k.dfr;exact⟨L,h1,h2.mono hm⟩
 ·intro t ht;rw [MZ (by rw [k.size];exact ht),lO (by omega) (fun x hx=>by have:=gE hdo hx;omega)]
  by_cases e1:o.dst=some t
  ·rw [if_pos e1,if_pos e1];exact .inr hR
  ·rw [if_neg e1,if_neg e1];rcases k.env t ht with⟨x,ox,g1,g2,g3,g4⟩|g1
   ·refine .inl ⟨x,ox,by rw [gF];simp [g1],?_,g3,g4⟩;rw [a4];have:x≠s:=fun e2=>by subst e2;rw [g1] at c7;cases c7
    simp [this,g2]
   ·exact .inr (g1.mono hm)
 ·intro x hx;obtain⟨g1,g2,g3,g4,g5⟩:=k.pn1 x (b9 x hx);exact⟨by rw [gF];simp [g1],g2,g3,aR g4 e6,e7 x hx⟩
 ·intro x hx;obtain⟨g1,g2⟩:=e8 x hx;exact⟨g1,(k.pn2 x (b9 x hx)).2.1,fun hS=>g2 (a7 _ hS).2⟩
def KR (c2:eY P call) (a2:nJ ops.toList (aH [] ops.toList)=true) (a1:fN P n ops=true) {s:Nat} (k:Inv P n ops base tl call e' h' m0 h0 w0 listed T (s::l) e h pn pc m a w) {o:Oper} (ho:ops.toList[s]?=some o)
  (c5:∀x∈o.after.toList,iI x=true→Sb listed x.on=true) (b6:∀x,Nat.testBit (natAt (aH [] ops.toList) s) x=true→Sb listed x=true)
  (hk:gC ops.toList (aH [] ops.toList) s o= .heavy) {K:Act→Wo→Prop} {Q:Exit→Act→Wo→Prop}
  (hn:∀e1 h1 pn1 b5 m' a' w',Inv P n ops base tl call e' h' m0 h0 w0 (listed.setIfInBounds s true) (T|||2^s) l e1 h1 pn1 b5 m' a' w'→K a' w'):wpOp P ops Q s K a w:=by
 have c1:ops[s]?=some o:=by simpa using ho
 have c6:s<listed.size:=by rw [k.lsz];exact(aG.1 c1).1
 obtain⟨c4,hdo⟩:=jM a1 c1;obtain⟨c7,hbT,_,hpl⟩:=oN k.plan;have hE:=k.looksR a1 ho b6;have a4:=Sb_set (listed:=listed) c6;have a0:=k.run;rw [fF] at a0;simp only [kO,ho,hk] at a0;have a6:∀x∈pn,x.idx≠s:=fun x hx f3=>by have:=(k.pn1 x hx).1;rw [f3,c7] at this;cases this
 unfold wpOp;simp only [c1];cases hgd:gdC ops.toList o (cD e (cK ops.toList o)) with
 |none=>rw [hgd] at a0;cases a0
 | some b=>
  rw [hgd] at a0;have hw:=BP a1 hE hgd;cases b with
  | false=>
   simp only at a0;rw [if_neg (by rw [hw];simp)];refine hn _ _ _ _ m _ w (PX a2 a1 k ho c5 b6 (Mp.le_refl m) (show R m cN undef by simp [R,Rl,cN,undef]) a0 ?_ (fun _ _=>Iff.rfl) (fun _ hc _=>hc) (fun _ _ _ _ _ _ hq=>hq) k.pnd (fun _ hx=>hx) (aA _)
    (fun x hx=>(k.pn1 x hx).2.2.2.2) (fun x hx=>⟨(k.pn2 x hx).1,(k.pn2 x hx).2.2⟩))
   rw [AN k.toCore c6 a6];exact k.fr
  | true=>
   simp only at a0;rw [if_pos hw];refine .inl ?_;cases hv:hvC P o.op call (cD e (cK ops.toList o)) (eU (Nat.testBit (natAt (aH [] ops.toList) s)) pn h) with
   |bad=>rw [hv] at a0;cases a0
   | ok v h1=>
    rw [hv] at a0;simp only at a0;cases hck:uC (hq h1) (gL (fun c=>!Nat.testBit (natAt (aH [] ops.toList) s) c.idx) pc) with
    |false=>rw [hck] at a0;cases a0
    | true=>
     rw [hck] at a0;simp only [cS] at a0;have hs:∀x ox,aB x (dY (Nat.testBit (natAt (aH [] ops.toList) s)) pn h.mem)=some ox→aB x (dY (Sb listed) pn h.mem)=some ox:=by
      intro x ox hx;rcases uH _ _ _ k.pid _ _ hx with⟨y,g1,g2,g3,g4⟩|⟨_,g1⟩
      ·rw [←g3,lL _ _ _ k.pid y g1 (b6 _ g2),g4]
      ·exact k.sub _ _ g1
     have f2:HR m (eU (Nat.testBit (natAt (aH [] ops.toList) s)) pn h) w:=k.fr.hr.sub (mem':=dY (Nat.testBit (natAt (aH [] ops.toList) s)) pn h.mem) hs (aA _);have d9:=Dy c2 hE k.gl f2 c4 hv;refine FY (n:=n) (e:=e) d9 ?_;intro u m' w' hF hR;have d2:∀x,(∃y∈pn,Sb listed y.idx=true∧Nat.testBit (natAt (aH [] ops.toList) s) y.idx=false∧y.id=x)→aB x (dY (Nat.testBit (natAt (aH [] ops.toList) s)) pn h.mem)=none∧∃ox,aB x (dY (Sb listed) pn h.mem)=some ox:=by
      rintro x ⟨y,g1,g2,g3,rfl⟩;refine⟨?_,y.ob,lL _ _ _ k.pid y g1 g2⟩;rw [oV]
      ·exact(k.pn1 y g1).2.2.2.2
      ·intro z z1 z2 z3;have a5:z≠y:=fun e1=>by subst e1;rw [g3] at z2;cases z2
       exact(k.inj z1 g1 a5).1 z3
     have d3:∀x,(∃y∈pn,Sb listed y.idx=true∧Nat.testBit (natAt (aH [] ops.toList) s) y.idx=false∧y.id=x)→Priv (eU (Sb listed) pn h) x:=by
      rintro x ⟨y,g1,g2,g3,rfl⟩ z ox oz a5 hox hoz hsf;have e1:ox=y.ob:=by
       have h9:aB y.id (dY (Sb listed) pn h.mem)=some ox:=hox;rw [lL _ _ _ k.pid y g1 g2] at h9;exact(aK h9).symm
      subst e1;have h9:aB z (dY (Sb listed) pn h.mem)=some oz:=hoz;cases hyo:y.ob with
      | cells sz els f ro=>
       have hf:=(k.pn2 y g1).2.1 _ _ _ _ hyo;rw [hyo] at hsf;cases oz with
       | cells sz' els' f' ro'=>
        have d4:f'=f:=hsf;rcases uH _ _ _ k.pid _ _ h9 with⟨y2,b1,b2,b3,b4⟩|⟨_,b1⟩
        ·have:=(k.pn2 y2 b1).2.1 _ _ _ _ b4;apply a5;rw [←b3,←this,d4,hf]
        ·exact(k.pn2 y g1).1 _ _ _ _ _ b1 (d4.trans hf)
       |_=>exact hsf
      |_=>rw [hyo] at hsf;cases oz<;>exact hsf
     have d7:Fr m ⟨dY (Nat.testBit (natAt (aH [] ops.toList) s)) pn h.mem,(eU (Sb listed) pn h).fams,(eU (Sb listed) pn h).next⟩ w m' h1 w':=hF;have a9:(gL (fun x:PN=>!Nat.testBit (natAt (aH [] ops.toList) s) x.idx) pn).Pairwise (fun x y=>x.id≠y.id):=BC _ k.pid;have hX:∀x,(∃y∈pn,Sb listed y.idx=true∧Nat.testBit (natAt (aH [] ops.toList) s) y.idx=false∧y.id=x)↔∃y∈gL (fun x:PN=>!Nat.testBit (natAt (aH [] ops.toList) s) x.idx) pn,Sb (listed.setIfInBounds s true) y.idx=true∧y.id=x:=by
      intro x;constructor
      ·rintro⟨y,g1,g2,g3,g4⟩;exact⟨y,(mH _ _ _).2 ⟨g1,by simp [g3]⟩,by rw [a4];simp [g2],g4⟩
      ·rintro⟨y,g1,g2,g3⟩;obtain⟨g4,g5⟩:=(mH _ _ _).1 g1;rw [a4,oC (a6 y g4),oI] at g2;exact⟨y,g4,g2,by simpa using g5,g3⟩
     have d8:=Fr.merge (m':=m') (w':=w') (H1:=eU (Sb listed) pn h) k.fr.hr (memb:=dY (Nat.testBit (natAt (aH [] ops.toList) s)) pn h.mem) hs
      (X:=fun x=>∃y∈pn,Sb listed y.idx=true∧Nat.testBit (natAt (aH [] ops.toList) s) y.idx=false∧y.id=x)
      (by
       intro x ox hx;rcases uH _ _ _ k.pid _ _ hx with⟨y,g1,g2,g3,g4⟩|⟨_,g1⟩
       ·cases hb:Nat.testBit (natAt (aH [] ops.toList) s) y.idx with
        |false=>exact .inl ⟨y,g1,g2,hb,g3⟩
        |true=>exact .inr (by rw [←g3,lL _ _ _ k.pid y g1 hb,g4])
       ·refine .inr ?_;rw [oV]
        ·exact g1
        ·intro z z1 z2 z3;have:=(k.pn1 z z1).2.2.2.2;rw [z3,g1] at this;cases this)
      d2 d3 d7 (mem2:=dY (Sb (listed.setIfInBounds s true)) (gL (fun x:PN=>!Nat.testBit (natAt (aH [] ops.toList) s) x.idx) pn) h1.mem)
      (by
       intro x ox;constructor
       ·intro hx;rcases uH _ _ _ a9 _ _ hx with⟨y,g1,g2,g3,g4⟩|⟨g0,g1⟩
        ·have b8:=(hX x).2 ⟨y,g1,g2,g3⟩;refine .inr ⟨b8,?_⟩;obtain⟨g5,g6⟩:=(mH _ _ _).1 g1;rw [a4,oC (a6 y g5),oI] at g2;show aB x (dY (Sb listed) pn h.mem)=some ox;rw [←g3,lL _ _ _ k.pid y g5 g2,g4]
        ·refine .inl ⟨?_,g1⟩;intro b8;obtain⟨y,b1,b2,b3⟩:=(hX x).1 b8;exact g0 y b1 b2 b3
       ·rintro(⟨g1,g2⟩|⟨g1,g2⟩)
        ·rw [oV]
         ·exact g2
         ·intro y b1 b2 b3;exact g1 ((hX x).2 ⟨y,b1,b2,b3⟩)
        ·obtain⟨y,b1,b2,b3⟩:=(hX x).1 g1;rw [←b3,lL _ _ _ a9 y b1 b2];obtain⟨g5,g6⟩:=(mH _ _ _).1 b1;rw [a4,oC (a6 y g5),oI] at b2;have h9:aB x (dY (Sb listed) pn h.mem)=some ox:=g2;rw [←b3,lL _ _ _ k.pid y g5 b2] at h9;exact h9)
     have b9:∀x∈gL (fun x:PN=>!Nat.testBit (natAt (aH [] ops.toList) s) x.idx) pn,x∈pn∧Nat.testBit (natAt (aH [] ops.toList) s) x.idx=false:=fun x hx=>by
      obtain⟨g5,g6⟩:=(mH _ _ _).1 hx;exact⟨g5,by simpa using g6⟩
     refine hn _ _ _ _ m' _ w' (PX a2 a1 k ho c5 b6 hF.le hR a0 (k.fr.trans d8) ?_ ?_ ?_ (BC _ k.pnd) (fun x hx=>(b9 x hx).1) hF.nxt ?_ ?_)
     ·intro x hx;rw [mH];simp [hx]
     ·intro c hc c9;rw [mH];simp [hc,c9]
     ·intro c hc c9 q v1 d1 f5;have:=NJ hck c (by rw [mH];simp [hc,c9]);rw [d1] at this;simp only [eqO] at this;cases hx:q (hq h1) with
      |none=>rw [hx] at this;cases this
      |some v2=>rw [hx] at this;rw [beq_eq this]
     ·intro x hx;obtain⟨g1,g2⟩:=b9 x hx;cases hxo:aB x.id h1.mem with
      |none=>rfl
      | some ob=>
       exfalso;obtain⟨lx,hlx,_⟩:=hF.hr.obj _ _ hxo;have c0:=hF.old _ _ hlx (k.pn1 x g1).2.2.2.1;have e0:Sb listed x.idx=true:=by
        cases hs:Sb listed x.idx with
        |true=>rfl
        |false=>rw [(k.pn2 x g1).2.2 hs] at c0;cases c0
       have b8:∃y∈pn,Sb listed y.idx=true∧Nat.testBit (natAt (aH [] ops.toList) s) y.idx=false∧y.id=x.id:=⟨x,g1,e0,g2,rfl⟩;obtain⟨nb,ox,hox⟩:=d2 _ b8;rcases hF.back _ _ _ hxo hlx with h1|⟨b0,ob0,l0,hb0,hl0,he,_⟩
       ·have:=k.fr.hr.lt _ _ c0;omega
       ·have a3:aB b0 (dY (Nat.testBit (natAt (aH [] ops.toList) s)) pn h.mem)=some ob0:=hb0;have a5:b0≠x.id:=fun e1=>by rw [e1,nb] at a3;cases a3
        exact(d3 _ b8).sep k.fr.hr hox (hs _ _ a3) c0 hl0 a5 he.symm
     ·intro x hx;obtain⟨g1,g2⟩:=b9 x hx;refine⟨?_,?_⟩
      ·intro b sz els f ro hb e1;rcases hF.famold _ _ _ _ _ hb with h1|⟨b0,sz0,els0,ro0,hb0⟩
       ·have:=(k.pn1 x g1).2.2.2.1;have d6:h.next.toNat≤f.toNat:=h1;rw [e1] at d6;omega
       ·have a3:aB b0 (dY (Nat.testBit (natAt (aH [] ops.toList) s)) pn h.mem)=some (.cells sz0 els0 f ro0):=hb0;rcases uH _ _ _ k.pid _ _ a3 with⟨y,y1,y2,y3,y4⟩|⟨_,y1⟩
        ·have hf:=(k.pn2 y y1).2.1 _ _ _ _ y4;have a5:y≠x:=fun e2=>by subst e2;rw [g2] at y2;cases y2
         exact(k.inj y1 g1 a5).1 (by rw [←hf,e1])
        ·exact(k.pn2 x g1).1 _ _ _ _ _ y1 e1
      ·intro hS;cases c0:m' x.id with
       |none=>rfl
       |some lx=>
        have:=hF.old _ _ c0 (k.pn1 x g1).2.2.2.1;rw [(k.pn2 x g1).2.2 hS] at this;cases this
def IH (a2:nJ ops.toList (aH [] ops.toList)=true) (a1:fN P n ops=true):∀(l:List Nat) (T:Nat) (e:Env) (h:H) (pn:List PN) (pc:List PC),Inv P n ops base tl call e' h' m0 h0 w0 listed T l e h pn pc m a w→mK ops.toList (aH [] ops.toList) tl l=true→
  ∃T1 l1 e1 h1 pn1 b5,Inv P n ops base tl call e' h' m0 h0 w0 listed T1 l1 e1 h1 pn1 b5 m a w∧mK ops.toList (aH [] ops.toList) tl l1=true∧T|||jO l=T1|||jO l1∧(l1= []∨∃s l2 o,l1=s::l2∧ops.toList[s]?=some o∧gC ops.toList (aH [] ops.toList) s o= .heavy)
 | [],T,e,h,pn,pc,k,hc=>⟨T,[],e,h,pn,pc,k,hc,rfl,.inl rfl⟩
 | s::l,T,e,h,pn,pc,k,hc=>by
  have d5:T|||jO (s::l)=(T|||2^s)|||jO l:=by rw [jO,Nat.or_assoc]
  obtain⟨_,_,⟨o,ho⟩,_⟩:=oN k.plan;cases hk:gC ops.toList (aH [] ops.toList) s o with
  |light=>
   obtain⟨e1,b5,k1⟩:=Jx a2 a1 k ho hk;rw [d5];exact IH a2 a1 l _ _ _ _ _ k1 (GY hc).2
  |new=>
   obtain⟨e1,h1,pn1,k1⟩:=Jw a2 a1 k ho hk (fun nv e4=>Bg e4);rw [d5];exact IH a2 a1 l _ _ _ _ _ k1 (GY hc).2
  |heavy=>exact⟨T,s::l,e,h,pn,pc,k,hc,rfl,.inr ⟨s,l,o,rfl,ho,hk⟩⟩
end
end
section
variable {P:Program} {m:Mp} {w:Wo}
def nO {α:Type} {n n':N8 α} (h:∀d,gR d n=gR d n'):n=n':=by
 cases n;cases n';congr 1<;>first|exact h .d0|exact h .d1|exact h .d2|exact h .d3|exact h .d4|exact h .d5|exact h .d6|exact h .d7
def Cd {x y:Mem} (h:∀i,aB i x=aB i y):x=y:=
 nO fun a=>nO fun b=>nO fun c=>nO fun d=>nO fun e=>h ⟨a,b,c,d,e⟩
def Fa {x y:Fam} (h:∀i,aP i x=aP i y):x=y:=
 nO fun a=>nO fun b=>nO fun c=>nO fun d=>nO fun e=>h ⟨a,b,c,d,e⟩
def JU {o k:Nat} (hw:wr h b o xs k= .ok v h'):∃sz els f els' ty,aB b h.mem=some (.cells sz els f (.rw ty))∧
  (∀h2:H,aB b h2.mem=aB b h.mem→wr h2 b o xs k= .ok cN (eO (gT h2 f b) b (.cells sz els' f (.rw ty)))):=by
 unfold wr at hw;cases hm:aB b h.mem with
 |none=>rw [hm] at hw;cases hw
 | some ob=>
  rw [hm] at hw;cases ob with
  | cells sz els f ro=>
   simp only [wrO] at hw;cases ro with
   |fz=>cases hw
   |fr _=>cases hw
   | rw ty=>
    simp only at hw;cases he:mC els (Nat.div o sz) with
    |none=>rw [he] at hw;cases hw
    | some el=>
     rw [he] at hw;simp only at hw;generalize hx:(Bool.rec (motive:=fun _=>Option (List V)) (iB (Nat.mod o sz) el xs) (some xs) (Nat.beq (Nat.mod o sz) 0&&Nat.beq k sz):Option (List V))=x at hw;cases x with
     |none=>cases hw
     |some el'=>
      refine⟨sz,els,f,oL els (Nat.div o sz) el',ty,rfl,?_⟩;intro h2 b9;unfold wr;rw [b9];simp only [wrO,he,hx]
  |_=>cases hw
def FU (h:kR ops s=true):∃o t x y,ops[s]?=some o∧o.op= .store t x y∧o.dst=none∧o.guard=none:=by
 unfold kR at h;rw [kO] at h;cases ho:ops[s]? with
 |none=>rw [ho] at h;cases h
 | some o=>
  rw [ho] at h;simp only at h;split at h
  ·rename_i t x y h1 h2 h3;exact⟨o,t,x,y,rfl,h1,h2,h3⟩
  ·cases h
def PV {y:Operand} (h1:o.op= .store t x y) (h2:o.dst=none):gC ops bef s o= .heavy:=by
 simp [gC,uK,h1,h2,isNew,isHeavy]
def XU {y:Operand} (hv:hvC P (.store t x y) call e h= .ok v h'):
  ∃b o c nn,(aE x).run e= .p b o∧wr h b o c nn= .ok v h'∧∀h2,hvC P (.store t x y) call e h2=wr h2 b o c nn:=by
 have hH:isHeavy (.store t x y)=true:=rfl;unfold hvC at hv ⊢;simp only [hH,cS,qP] at hv ⊢;cases hs:bJ P t with
 |none=>rw [hs] at hv;cases hv
 | some nn=>
  simp only [hs] at hv ⊢;obtain⟨b,o,e1,hv⟩:=CP hv;cases hc:dV ((aE y).run e) with
  |none=>simp only [hc] at hv;cases hv
  | some c=>
   simp only [hc] at hv ⊢;cases hn:Nat.beq (eJ c) nn with
   |false=>rw [hn] at hv;cases hv
   |true=>
    rw [hn] at hv;refine⟨b,o,c,nn,e1,hv,fun h2=>?_⟩;rw [e1];rfl
def StoreIs (P:Program) (ops:List Oper) (s:Nat) (e:Env) (call:bR) (b:Id) (o:Nat) (c:List V) (nn:Nat):Prop:=
 storeAt ops s e=some b∧∀base bef l h e' h' pc,(fF P base ops bef (s::l)).run call e h [] pc= .ok e' h'→∃v h1 c6,wr h b o c nn= .ok v h1∧(fF P base ops bef l).run call e h1 [] c6= .ok e' h'
def RT {base:DOp2} {pc:List PC} (c5:kR ops s=true)
  (hv:(fF P base ops bef (s::l)).run call e h [] pc= .ok e' h'):∃b o c nn,StoreIs P ops s e call b o c nn:=by
 obtain⟨op,t,x,y,ho,h1,h2,h3⟩:=FU c5;have key:∀base bef l a0 e2 a6 a5,(fF P base ops bef (s::l)).run call e a0 [] a5= .ok e2 a6→∃v h4 b6,hvC P (.store t x y) call (cD e (cK ops op)) a0= .ok v h4∧(fF P base ops bef l).run call e h4 [] b6= .ok e2 a6:=by
  intro base bef l a0 e2 a6 a5 hr;have c3:=PV (ops:=ops) (bef:=bef) (s:=s) h1 h2;rw [fF] at hr;simp only [kO,ho,c3] at hr;have c0:gdC ops op (cD e (cK ops op))=some true:=by simp [gdC,h3]
  rw [c0] at hr;simp only at hr;have c4:eU (Nat.testBit (natAt bef s)) [] a0=a0:=by cases a0;rfl
  rw [c4,h1] at hr;cases hc:hvC P (.store t x y) call (cD e (cK ops op)) a0 with
  |bad=>rw [hc] at hr;cases hr
  | ok v h4=>
   rw [hc] at hr;simp only at hr;cases hck:uC (hq h4) (gL (fun c=>!Nat.testBit (natAt bef s) c.idx) a5) with
   |false=>rw [hck] at hr;cases hr
   |true=>
    rw [hck] at hr;simp only [cS,h2,gQ,gL] at hr;exact⟨v,h4,_,rfl,hr⟩
 obtain⟨v,h4,b6,a1,a2⟩:=key _ _ _ _ _ _ _ hv;obtain⟨b,o,c,nn,b1,b2,b3⟩:=XU a1;refine⟨b,o,c,nn,?_,?_⟩
 ·unfold storeAt;rw [kO,ho];simp only [h1,b1]
 ·intro base bef l a0 e2 a6 a5 hr;obtain⟨v',h4',pc3',c1,c2⟩:=key _ _ _ _ _ _ _ hr;exact⟨v',h4',pc3',by rw [←b3];exact c1,c2⟩
def AM (b:Id):∀l:List Id,qG b l=true↔b∈l
 | []=>by simp [qG]
 | a::l=>by
  rw [qG];cases h:Id.beq a b with
  |true=>have:=Id.beq_iff.1 h;simp [this]
  |false=>
   have:a≠b:=fun e=>by rw [Id.beq_iff.2 e] at h;cases h
   simp [AM b l,fR this]
def WQ {b1 b2 f1 f2:Id} {sz1 sz2:Nat} {els1 els2:List (List V)} {X1 X2:O} (hb:b1≠b2) (hf:f1≠f2) (b7:b2∉aP f1 h.fams) (b8:b1∉aP f2 h.fams):
  eO (gT (eO (gT h f1 b1) b1 X1) f2 b2) b2 X2=eO (gT (eO (gT h f2 b2) b2 X2) f1 b1) b1 X1:=by
 obtain⟨mem,fams,next⟩:=h;simp only [rQ,xF] at*;have g2:aP f2 (if aP f1 fams= [] then fams else gV f1 [] fams)=aP f2 fams:=by
  split
  ·rfl
  ·rw [jQ (fR hf)]
 have g1:aP f1 (if aP f2 fams= [] then fams else gV f2 [] fams)=aP f1 fams:=by
  split
  ·rfl
  ·rw [jQ hf]
 rw [g1,g2];have e1:(dU b2 (some X2) (iD (kC b2 (aP f2 fams)) (dU b1 (some X1) (iD (kC b1 (aP f1 fams)) mem))))=(dU b1 (some X1) (iD (kC b1 (aP f1 fams)) (dU b2 (some X2) (iD (kC b2 (aP f2 fams)) mem)))):=by
  refine Cd fun x=>?_
  by_cases x1:x=b1
  ·subst x1;rw [gK,eX hb,lJ,gK];simp [qB,b8]
  ·by_cases x2:x=b2
   ·subst x2;rw [gK,eX x1,lJ,gK];simp [qB,b7]
   ·rw [eX x2,lJ,eX x1,lJ,eX x1,lJ,eX x2,lJ];split<;>split<;>rfl
 have e2:(if aP f2 fams= [] then(if aP f1 fams= [] then fams else gV f1 [] fams) else gV f2 [] (if aP f1 fams= [] then fams else gV f1 [] fams))=(if aP f1 fams= [] then(if aP f2 fams= [] then fams else gV f2 [] fams) else gV f1 [] (if aP f2 fams= [] then fams else gV f2 [] fams)):=by
  refine Fa fun x=>?_
  by_cases x1:x=f1
  ·subst x1;split<;>split<;>simp [pD,jQ hf, *]
  ·by_cases x2:x=f2
   ·subst x2;split<;>split<;>simp [pD,jQ x1, *]
   ·split<;>split<;>simp [jQ x1,jQ x2, *]
 rw [e1,e2]
def HP:∀{a b:List (List V)},sR a b=true→a=b
 | [],[],_=>rfl
 | [],_::_,h=>by simp [sR] at h
 |_::_,[],h=>by simp [sR] at h
 |a::l,b::r,h=>by
  simp only [sR,aN] at h;rw [sQ h.1,HP h.2]
def ZZ {s1 s2:Nat} {pn:List PN} {pc:List PC} (i1:kR ops s1=true) (i2:kR ops s2=true)
  (hv:(EJ P ops bef s1 s2).run call e h pn pc= .ok e' h'):(fF P kS ops bef [s1,s2]).run call e h pn pc= .ok e' h'∧(fF P kS ops bef [s2,s1]).run call e h pn pc= .ok e' h':=by
 unfold EJ at hv;simp only at hv;split at hv
 ·rename_i e1 h1 e2 h2 b4 b5;cases hp:EI ops s1 s2 e h pn with
  |false=>
   rw [hp] at hv;cases hv
  | true=>
   rw [hp] at hv;simp only [cS] at hv;cases hv;refine⟨b4,?_⟩;rw [b5];unfold EI at hp;split at hp
   ·rename_i b1 b2 q1 q2;obtain⟨c1,o1,xs1,n1,a1,A1⟩:=RT i1 b4;obtain⟨c2,o2,xs2,n2,a2,A2⟩:=RT i2 b5;rw [q1] at a1;cases a1;rw [q2] at a2;cases a2;obtain⟨v1,k1,pc1,w1,r1⟩:=A1 _ _ _ _ _ _ _ b4;obtain⟨v2,k2,a5,w2,r2⟩:=A2 _ _ _ _ _ _ _ b5;obtain⟨c7,k12,pc12,w12,r12'⟩:=A2 _ _ _ _ _ _ _ r1;obtain⟨c8,k21,pc21,w21,r21'⟩:=A1 _ _ _ _ _ _ _ r2;have a9:eU (fun _=>true) [] k12=k12:=by cases k12;rfl
    have b0:eU (fun _=>true) [] k21=k21:=by cases k21;rfl
    simp only [fF,kS,a9] at r12';simp only [fF,kS,b0] at r21';injection r12' with x1 x2
    injection r21' with x3 x4
    rw [←x1,←x2,←x3,←x4];obtain⟨sz1,els1,f1,el1,ty1,g1,G1⟩:=JU w1;obtain⟨sz2,els2,f2,el2,ty2,g2,G2⟩:=JU w2;rw [g1,g2] at hp;simp only [aN,JO] at hp;obtain⟨p1,p2,p3,p4⟩:=hp;have hf:f1≠f2:=fun e1=>by rw [Id.beq_iff.2 e1] at p1;cases p1
    have hb:b1≠b2:=fun e1=>by rw [Id.beq_iff.2 e1] at p2;cases p2
    have a3:b2∉aP f1 h.fams:=fun hx=>by rw [(AM _ _).2 hx] at p3;cases p3
    have a4:b1∉aP f2 h.fams:=fun hx=>by rw [(AM _ _).2 hx] at p4;cases p4
    have y1:=G1 h rfl;have y2:=G2 h rfl;rw [w1] at y1;rw [w2] at y2;injection y1 with _ y1
    injection y2 with _ y2
    have m1:aB b2 k1.mem=aB b2 h.mem:=by
     rw [y1,rQ,xF];show aB b2 (dU b1 _ (iD _ _))=_;rw [eX (fR hb),lJ];simp [qB,a3]
    have m2:aB b1 k2.mem=aB b1 h.mem:=by
     rw [y2,rQ,xF];show aB b1 (dU b2 _ (iD _ _))=_;rw [eX hb,lJ];simp [qB,a4]
    have a7:=G2 k1 m1;have a8:=G1 k2 m2;rw [w12] at a7;rw [w21] at a8;injection a7 with _ a7
    injection a8 with _ a8
    rw [a7,a8,y1,y2];congr 1;exact(WQ (sz1:=0) (sz2:=0) (els1:=[]) (els2:=[]) hb hf a3 a4).symm
   ·cases hp
 ·cases hv
end
section
variable {P:Program} {n:Nat} {ops:Array Oper} {call:bR} {e':Env} {h':H} {m0:Mp} {h0:H} {w0:Wo}
def MU (a9:tE ops.toList=true) {listed:Array Bool} (b9:listed.size=ops.size) (h:Region.ready .any ops listed= []):∀i,i<ops.size→Sb listed i=true:=by
 intro i
 induction i using Nat.strongRecOn with
 | _ i ih=>
  intro hi;cases hS:Sb listed i with
  |true=>rfl
  | false=>
   exfalso;have ho:ops[i]?=some ops[i]:=by simp [hi]
   have b8:ops.toList[i]?=some ops[i]:=by simpa using ho
   have:i∈Region.ready .any ops listed:=by
    refine yI.2 ⟨?_,ops[i],ho,?_⟩
    ·unfold Sb at hS;have:i<listed.size:=by omega
     simp [Array.getD,this] at hS ⊢;exact hS
    ·intro x hx hb;rw [TS] at hb;have hk:=jG.1 (tP a9 b8) x (by simpa using hx);simp only [hb,tN,oI] at hk;have b4:x.on<i:=cQ hk;exact ih x.on b4 (by omega)
   rw [h] at this;cases this
def FW (ho:ops.toList[s]?=some o):s<ops.size:=by
 have:s<ops.toList.length:=(aM.1 ho).1;simpa using this
def StA (P:Program) (n:Nat) (ops:Array Oper) (call:bR) (e':Env) (h':H) (m0:Mp) (h0:H) (w0:Wo) (listed:Array Bool) (m:Mp) (a:Act) (w:Wo):Prop:=
 ∃tl M T l e h pn pc,rN ops.toList (aH [] ops.toList) tl=true∧vY ops.toList (aH [] ops.toList) M tl=true∧
  Inv P n ops (xY P ops.toList (aH [] ops.toList) tl) tl call e' h' m0 h0 w0 listed T l e h pn pc m a w∧mK ops.toList (aH [] ops.toList) tl l=true∧T|||jO l=M
def StB (P:Program) (n:Nat) (ops:Array Oper) (call:bR) (e':Env) (h':H) (m0:Mp) (h0:H) (w0:Wo) (listed:Array Bool) (m:Mp) (a:Act) (w:Wo):Prop:=
 ∃s1 s2 T e h pn pc,kR ops.toList s1=true∧kR ops.toList s2=true∧
  Inv P n ops kS [] call e' h' m0 h0 w0 listed T [s1,s2] e h pn pc m a w∧Inv P n ops kS [] call e' h' m0 h0 w0 listed T [s2,s1] e h pn pc m a w
def StA.norm (a1:nJ ops.toList (aH [] ops.toList)=true) (a0:fN P n ops=true) {listed:Array Bool} {m:Mp} {a:Act} {w:Wo} (k:StA P n ops call e' h' m0 h0 w0 listed m a w):
  (∃T e h pn pc,Inv P n ops kS [] call e' h' m0 h0 w0 listed T [] e h pn pc m a w)∨
  (∃tl M T s l o e h pn pc,rN ops.toList (aH [] ops.toList) tl=true∧vY ops.toList (aH [] ops.toList) M tl=true∧ops.toList[s]?=some o∧gC ops.toList (aH [] ops.toList) s o= .heavy∧
   Inv P n ops (xY P ops.toList (aH [] ops.toList) tl) tl call e' h' m0 h0 w0 listed T (s::l) e h pn pc m a w∧mK ops.toList (aH [] ops.toList) tl (s::l)=true∧T|||jO (s::l)=M)∨
  StB P n ops call e' h' m0 h0 w0 listed m a w:=by
 obtain⟨tl,M,T,l,e,h,pn,pc,k1,k2,k3,k4,k5⟩:=k;obtain⟨T1,l1,e1,h1,pn1,b5,q1,q2,q3,q4⟩:=IH a1 a0 l T e h pn pc k3 k4;rcases q4 with rfl|⟨s,l2,o,rfl,ho,hk⟩
 ·match tl,k1,k2,q1,q2 with
  | [],_,_,q1,_=>exact .inl ⟨T1,e1,h1,pn1,b5,q1⟩
  | [s1,s2],k1,k2,q1,_=>
   refine .inr (.inr ?_);simp only [rN,aN] at k1;simp only [vY,aN] at k2;have hT:T1=M:=by rw [←k5,q3];simp [jO]
   subst hT;have a5:=q1.run;simp only [fF,xY] at a5;obtain⟨r1,r2⟩:=ZZ k1.1 k1.2.1 a5;exact⟨s1,s2,T1,e1,h1,pn1,b5,k1.1,k1.2.1,⟨q1.toCore,k2.1,r1⟩,⟨q1.toCore,k2.2,r2⟩⟩
  | [_],k1,_,_,_=>simp [rN] at k1
  |_::_::_::_,k1,_,_,_=>simp [rN] at k1
 ·exact .inr (.inl ⟨tl,M,T1,s,l2,o,e1,h1,pn1,b5,k1,k2,ho,hk,q1,q2,by rw [←q3];exact k5⟩)
def Fx (a3:eY P call) (a9:tE ops.toList=true) (a1:nJ ops.toList (aH [] ops.toList)=true) (a0:fN P n ops=true) {Q:Exit→Act→Wo→Prop}
  (hn:∀m' a' w',Fr m0 h0 w0 m' h' w'→aY m' n e' a'→Q .normal a' w'):
  ∀(fuel:Nat) (listed:Array Bool) (m:Mp) (a:Act) (w:Wo),
   StA P n ops call e' h' m0 h0 w0 listed m a w∨StB P n ops call e' h' m0 h0 w0 listed m a w→listed.toList.countP (fun b=>!b)≤fuel→wpAny P .any ops Q fuel listed a w:=by
 have b1:∀(listed:Array Bool) (m:Mp) (a:Act) (w:Wo),StA P n ops call e' h' m0 h0 w0 listed m a w∨StB P n ops call e' h' m0 h0 w0 listed m a w→
  (∃T e h pn pc,Inv P n ops kS [] call e' h' m0 h0 w0 listed T [] e h pn pc m a w)∨
  (∃tl M T s l o e h pn pc,rN ops.toList (aH [] ops.toList) tl=true∧vY ops.toList (aH [] ops.toList) M tl=true∧ops.toList[s]?=some o∧gC ops.toList (aH [] ops.toList) s o= .heavy∧
   Inv P n ops (xY P ops.toList (aH [] ops.toList) tl) tl call e' h' m0 h0 w0 listed T (s::l) e h pn pc m a w∧mK ops.toList (aH [] ops.toList) tl (s::l)=true∧T|||jO (s::l)=M)∨
  StB P n ops call e' h' m0 h0 w0 listed m a w:=by
  rintro listed m a w (k|k)
  ·exact k.norm a1 a0
  ·exact .inr (.inr k)
 have a6:∀(base:DOp2) (tl:List Nat) (listed:Array Bool) (T s:Nat) (l:List Nat) (e:Env) (h:H) (pn:List PN) (pc:List PC) (m:Mp) (a:Act) (w:Wo),
   Inv P n ops base tl call e' h' m0 h0 w0 listed T (s::l) e h pn pc m a w→Region.ready .any ops listed= []→False:=by
  intro base tl listed T s l e h pn pc m a w k hr;have a7:=MU a9 k.lsz hr;obtain⟨b7,_,⟨o,ho⟩,_⟩:=oN k.plan;rw [k.sT s (a7 s (FW ho))] at b7;cases b7
 have c3:∀(listed:Array Bool) (m:Mp) (a:Act) (w:Wo),StA P n ops call e' h' m0 h0 w0 listed m a w∨StB P n ops call e' h' m0 h0 w0 listed m a w→Region.ready .any ops listed= []→Q .normal a w:=by
  intro listed m a w k hr;rcases b1 listed m a w k with⟨T,e,h,pn,pc,k⟩|⟨tl,M,T,s,l,o,e,h,pn,pc,_,_,_,_,k,_⟩|⟨s1,s2,T,e,h,pn,pc,_,_,k,_⟩
  ·have a7:=MU a9 k.lsz hr;have a5:=k.run;simp only [fF,kS] at a5;have c1:eU (fun _=>true) pn h=eU (Sb listed) pn h:=by
    unfold eU;rw [FF h.mem pn (fun x hx=>?_)];obtain⟨_,⟨o,ho⟩,_⟩:=k.pn1 x hx;rw [a7 _ (FW ho)]
   simp only [c1] at a5;have hh:e=e'∧eU (Sb listed) pn h=h':=by
    injection a5 with h1 h2;exact⟨h1,h2⟩
   obtain⟨rfl,rfl⟩:=hh;refine hn m a w k.fr ⟨k.size,k.le,fun t ht=>?_,k.dfr⟩;rcases k.env t ht with⟨x,ox,_,hS,hx,_⟩|h1
   ·rw [a7 x (FW hx)] at hS;cases hS
   ·exact h1
  ·exact(a6 _ _ _ _ _ _ _ _ _ _ _ _ _ k hr).elim
  ·exact(a6 _ _ _ _ _ _ _ _ _ _ _ _ _ k hr).elim
 have b6:∀(listed:Array Bool) (m:Mp) (a:Act) (w:Wo),StA P n ops call e' h' m0 h0 w0 listed m a w∨StB P n ops call e' h' m0 h0 w0 listed m a w→listed.size=ops.size:=by
  rintro listed m a w (⟨tl,M,T,l,e,h,pn,pc,_,_,k,_⟩|⟨s1,s2,T,e,h,pn,pc,_,_,k,_⟩)<;>exact k.lsz
 intro fuel
 induction fuel with
 | zero=>
  intro listed m a w k hc;have b9:=b6 _ _ _ _ k;have hr:Region.ready .any ops listed= []:=by
   cases hx:Region.ready .any ops listed with
   |nil=>rfl
   |cons i r=>
    exfalso;have hi:i∈Region.ready .any ops listed:=by rw [hx];simp
    obtain⟨h1,o,ho,_⟩:=yI.1 hi;have b4:i<listed.size:=by rw [b9];exact(aG.1 ho).1
    have hm:listed[i]=false:=by simpa [Array.getD,b4] using h1
    have:0<listed.toList.countP (fun b=>!b):=Lc.2 ⟨false,by rw [←hm];simp,rfl⟩;omega
  exact⟨hr,c3 _ _ _ _ k hr⟩
 | succ fuel ih=>
  intro listed m a w k0 hc;have b9:=b6 _ _ _ _ k0;refine⟨c3 _ _ _ _ k0,?_⟩;intro i hi;obtain⟨h1,o,b8,hready⟩:=yI.1 hi;have ho:ops.toList[i]?=some o:=by simpa using b8
  have b4:i<listed.size:=by rw [b9];exact(aG.1 b8).1
  have hm:listed[i]=false:=by simpa [Array.getD,b4] using h1
  have hS:Sb listed i=false:=by simp [Sb,b4,hm]
  have b3:∀x∈o.after.toList,iI x=true→Sb listed x.on=true:=fun x hx hb=>hready x (by simpa using hx) (by rw [TS];exact hb)
  have a8:(listed.setIfInBounds i true).toList.countP (fun b=>!b)≤fuel:=by
   rw [JP];have c0:i<listed.toList.length:=by simpa using b4
   rw [List.countP_set c0];have:(listed.toList[i])=false:=by simpa using hm
   rw [this];simp only [Bool.not_false,tN,if_true,eH,gX];have c5:0<listed.toList.countP (fun b=>!b):=Lc.2 ⟨false,by rw [←hm];simp,rfl⟩;omega
  have a2:∀(T:Nat) (e:Env) (h:H) (pn:List PN) (pc:List PC),Core P n ops m0 h0 w0 listed T e h pn pc m a w→Nat.testBit T i=true→
    (∀m' a' w',Core P n ops m0 h0 w0 (listed.setIfInBounds i true) T e h pn pc m' a' w'→StA P n ops call e' h' m0 h0 w0 (listed.setIfInBounds i true) m' a' w'∨StB P n ops call e' h' m0 h0 w0 (listed.setIfInBounds i true) m' a' w')→
    wpOp P ops Q i (wpAny P .any ops Q fuel (listed.setIfInBounds i true)) a w:=by
   intro T e h pn pc k hT b0;have b2:∀x,Nat.testBit (natAt (aH [] ops.toList) i) x=true→Sb listed x=true:=fun x hx=>HT a9 (S:=fun j=>Sb listed j=true) k.down ho b3 hx
   have hp:=k.pend i o ho hT hS;cases hk:gC ops.toList (aH [] ops.toList) i o with
   |light=>exact XW a0 k ho hT hS b3 b2 hk (fun m' a' w' k'=>ih _ _ _ _ (b0 m' a' w' k') a8)
   |new=>exact XV a0 k ho hT hS b3 b2 hk (fun m' a' w' k'=>ih _ _ _ _ (b0 m' a' w' k') a8)
   |heavy=>rw [hk] at hp;exact hp.elim
  rcases b1 listed m a w k0 with⟨T,e,h,pn,pc,k⟩|⟨tl,M,T,s,l,os,e,h,pn,pc,t1,t2,hos,hk,k,hch,hM⟩|⟨s1,s2,T,e,h,pn,pc,i1,i2,k12,k21⟩
  ·cases hT:Nat.testBit T i with
   |true=>exact a2 T e h pn pc k.toCore hT (fun m' a' w' k'=>.inl ⟨[],T|||jO [],T,[],e,h,pn,pc,rfl,rfl,⟨k',k.plan,k.run⟩,rfl,rfl⟩)
   |false=>
    rcases zW [] T k.plan i o ho hT with h1|h1<;>cases h1
  ·have b2:∀x,Nat.testBit (natAt (aH [] ops.toList) i) x=true→Sb listed x=true:=fun x hx=>HT a9 (S:=fun j=>Sb listed j=true) k.down ho b3 hx
   cases hT:Nat.testBit T i with
   |true=>exact a2 T e h pn pc k.toCore hT (fun m' a' w' k'=>.inl ⟨tl,M,T,s::l,e,h,pn,pc,t1,t2,⟨k',k.plan,k.run⟩,hch,hM⟩)
   | false=>
    obtain⟨b7,_,_,_⟩:=oN k.plan;obtain⟨hw,hch'⟩:=GY hch;obtain⟨w1,w2⟩:=hw os hos hk;have bad:Nat.testBit (natAt (aH [] ops.toList) i) s=true→False:=fun hb=>by
     have:=k.sT s (b2 s hb);rw [this] at b7;cases b7
    rcases zW (s::l) T k.plan i o ho hT with a4|a4
    ·rcases cM.1 a4 with e1|a4
     ·subst e1;rw [ho] at hos;cases hos;exact KR a3 a1 a0 k ho b3 b2 hk (fun e1 h1 pn1 b5 m' a' w' k'=>ih _ _ _ _ (.inl ⟨tl,M,_,l,e1,h1,pn1,b5,t1,t2,k',hch',by rw [←hM,jO,Nat.or_assoc]⟩) a8)
     ·exact(bad (w1 i a4)).elim
    ·exact(bad (w2 i a4)).elim
  ·have b2:∀x,Nat.testBit (natAt (aH [] ops.toList) i) x=true→Sb listed x=true:=fun x hx=>HT a9 (S:=fun j=>Sb listed j=true) k12.down ho b3 hx
   have one:∀(x y:Nat),kR ops.toList x=true→kR ops.toList y=true→Inv P n ops kS [] call e' h' m0 h0 w0 listed T [x,y] e h pn pc m a w→i=x→
     wpOp P ops Q i (wpAny P .any ops Q fuel (listed.setIfInBounds i true)) a w:=by
    intro x y ix iy k e1;subst e1;obtain⟨ox,t,p,q,g1,g2,g3,_⟩:=FU ix;rw [ho] at g1;cases g1;refine KR a3 a1 a0 k ho b3 b2 (PV g2 g3) (fun e1 h1 pn1 b5 m' a' w' k'=>ih _ _ _ _ (.inl ⟨[],(T|||2^i)|||jO [y],_,[y],e1,h1,pn1,b5,rfl,rfl,k',?_,rfl⟩) a8);obtain⟨oy,_,_,_,gy,_⟩:=FU iy;simp [mK,kO,gy]
   cases hT:Nat.testBit T i with
   |true=>exact a2 T e h pn pc k12.toCore hT (fun m' a' w' k'=>.inr ⟨s1,s2,T,e,h,pn,pc,i1,i2,⟨k',k12.plan,k12.run⟩,⟨k',k21.plan,k21.run⟩⟩)
   | false=>
    rcases zW [s1,s2] T k12.plan i o ho hT with a4|a4
    ·rcases cM.1 a4 with e1|a4
     ·exact one s1 s2 i1 i2 k12 e1
     ·rcases cM.1 a4 with e1|a4
      ·exact one s2 s1 i2 i1 k21 e1
      ·cases a4
    ·cases a4
def ZN (c2:P.follows .mixedOrders=true) (a3:eY P call) (a0:fN P n ops=true) {Q:Exit→Act→Wo→Prop} {id:Nat}
  (k:aY m n e a) (hg:Gl P m) (hr:HR m h w) (hv:(regE P ops.toList).run call e h= .ok e' h')
  (hn:∀m' a' w',Fr m h w m' h' w'→aY m' n e' a'→Q .normal a' w'):(Code.region id ops true).wp P Q a w:=by
 unfold regE at hv;simp only at hv;generalize c6:DR ops.toList (aH [] ops.toList) _=pt at hv;obtain⟨pl,tl⟩:=pt;simp only at hv;generalize hc:(tE ops.toList&&_)=c at hv;cases c with
 |false=>cases hv
 | true=>
  simp only [cS] at hv;simp only [aN] at hc;obtain⟨a9,a1,_,hplan,hch,htl,htp⟩:=hc;refine wp_region_any c2 ?_;have c4:∀j,Sb (Array.replicate ops.size false) j=false:=by
   intro j;unfold Sb
   by_cases hj:j<ops.size
   ·simp [Array.getD,hj]
   ·simp [Array.getD,hj]
  refine Fx (m0:=m) (h0:=h) (w0:=w) a3 a9 a1 a0 hn ops.size _ m a _ (.inl ⟨tl,jO pl,0,pl,e,h,[],[],htl,htp,⟨?_,hplan,hv⟩,hch,by simp⟩) ?_
  ·refine⟨by simp,?_,?_,?_,?_,k.size,k.le,k.dfr,fun t ht=>.inr (k.val t ht),?_,hg,.nil,?_,?_⟩
   ·intro i o _ hS;rw [c4] at hS;cases hS
   ·intro j hS;rw [c4] at hS;cases hS
   ·intro j hT;simp at hT
   ·intro j o _ hT;simp at hT
   ·exact Fr.drawn hr _
   ·intro x hx;cases hx
   ·intro x hx;cases hx
  ·refine aD List.countP_le_length ?_;simp
end
section
variable (P:Program)
def eM (lf:Nat):Code→COd
 | .skip=>⟨fun _ e h=>.nrm e h⟩
 | .label _=>⟨fun _ e h=>.nrm e h⟩
 | .ret=>⟨fun _ e h=>.ret e h⟩
 | .exit id=>⟨fun _ e h=>.ext id e h⟩
 | .seq a b=>⟨fun call e h=>CR.rec (motive:=fun _=>CR) .bad (fun e h=>(eM lf b).run call e h) (fun i e h=>.ext i e h) (fun e h=>.ret e h) ((eM lf a).run call e h)⟩
 | .cond c a b=>⟨fun call e h=>tB ((aE c).run e) (fun t=>eE t ((eM lf a).run call e h) ((eM lf b).run call e h)) .bad⟩
 | .block id b=>⟨fun call e h=>CR.rec (motive:=fun _=>CR) .bad (fun e h=>.nrm e h) (fun j e h=>eE (Nat.beq j id) (.nrm e h) (.ext j e h)) (fun e h=>.ret e h) ((eM lf b).run call e h)⟩
 | .loop b=>⟨fun call e h=>AQ ((eM lf b).run call) lf e h⟩
 | .region _ ops false=>⟨fun call e h=>Rs.rec (motive:=fun _=>CR) .bad (fun e h=>.nrm e h) ((lB P ops.toList ops.toList).run call e h)⟩
 | .region _ ops true=>⟨fun call e h=>Rs.rec (motive:=fun _=>CR) .bad (fun e h=>.nrm e h) ((regE P ops.toList).run call e h)⟩
 |_=>⟨fun _ _ _=>.bad⟩
def BE (o:Oper):Option Nat:=
 match o.op,o.dst,o.guard with
 | .call ⟨.builtin .recover,⟨[]⟩,_⟩,some d,none=>some d
 |_,_,_=>none
def nP (lf:Nat):Code→COd
 | .seq a b=>⟨fun call e h=>CR.rec (motive:=fun _=>CR) .bad (fun e h=>(eM P lf b).run call e h) (fun i e h=>.ext i e h) (fun e h=>.ret e h) ((nP lf a).run call e h)⟩
 | .region id ⟨o::l⟩ false=>(match BE o with
  |some d=>⟨fun call e h=>Rs.rec (motive:=fun _=>CR) .bad (fun e h=>.nrm e h) ((lB P (o::l) l).run call (iP d .ni e) h)⟩
  |none=>eM P lf (.region id ⟨o::l⟩ false))
 |c=>eM P lf c
def qK (rs:List ResultVar) (e:Env) (h:H):VH:=
 match bQ fW e with
 | .tup []=>vhO h ((pX P rs).run e h)
 |_=>.bad
def defF (lf f:Nat):FOp:=
 match P.funcs[f]? with
 |none=>nV
 |some fn=>match fn.body with
  |none=>nV
  | some c=>⟨fun call args h=>eE (Nat.ble (eJ args) fn.ntmps)
    (CR.rec (motive:=fun _=>VH) .bad (fun e h=>qK P fn.results.toList e h) (fun _ _ _=>.bad) (fun e h=>qK P fn.results.toList e h) ((nP P lf c).run call (mB 0 args Env.new) h)) .bad⟩
def fM (lf:Nat) (call:bR):List V→H→Option H
 | [],h=>some h
 | .fn (.func n) first cap::l,h=>match (defF P lf n).run call (first++cap) h with| .ok _ h'=>fM lf call l h'| .bad=>none
 |_,_=>none
def AY (lf:Nat) (rs:List ResultVar) (call:bR) (e:Env) (h:H):VH:=
 match bQ fW e with
 | .tup []=>vhO h ((pX P rs).run e h)
 | .tup l=>(match fM P lf call l h with|some h'=>vhO h' ((pX P rs).run e h')|none=>.bad)
 |_=>.bad
def HM (lf:Nat) (fn:Func) (c:Code):FOp:=
 ⟨fun call args h=>eE (Nat.ble (eJ args) fn.ntmps)
  (CR.rec (motive:=fun _=>VH) .bad (fun e h=>AY P lf fn.results.toList call e h) (fun _ _ _=>.bad) (fun e h=>AY P lf fn.results.toList call e h) ((eM P lf c).run call (mB 0 args Env.new) h)) .bad⟩
def GD (sp:Nat→Option FOp) (lf:Nat) (f:Nat):FOp:=
 match sp f with
 |some op=>op
 | none=>match P.funcs[f]? with
  |none=>nV
  |some fn=>match fn.body with
   |none=>nV
   |some c=>HM P lf fn c
def xU (sp:Nat→Option FOp) (lf:Nat) (n:Nat):bR:=
 Nat.rec (motive:=fun _=>bR) (fun _ _ _=>.bad) (fun _ ih f args h=>(GD P sp lf f).run ih args h) n
def fX (n:Nat):Code→Bool
 | .seq a b=>fX n a&&fX n b
 | .cond c a b=>cT P n c&&(fX n a&&fX n b)
 | .block _ b=>fX n b
 | .loop b=>fX n b
 | .region _ ops _=>fN P n ops
 |_=>true
def wD (n:Nat):ResultVar→Bool
 | .tmp t=>Nat.ble (Nat.succ t) n
 | .cell t _=>Nat.ble (Nat.succ t) n
def QM (fn:Func):Bool:=
 match fn.body with
 |none=>true
 |some c=>Nat.ble fn.ntmps 511&&(fX P fn.ntmps c&&(fn.results.toList.all (wD fn.ntmps)&& !(fn.name== "runtime.NumGoroutine")))
def oM:Bool:=P.funcs.toList.all (QM P)
end
section
variable {P:Program} {m:Mp} {w:Wo}
def CQ (m:Mp) (h:H) (w:Wo) (n:Nat) (Q:Exit→Act→Wo→Prop):CR→Prop
 | .bad=>False
 | .nrm e' h'=>∀m' a' w',Fr m h w m' h' w'→aY m' n e' a'→Q .normal a' w'
 | .ext i e' h'=>∀m' a' w',Fr m h w m' h' w'→aY m' n e' a'→Q (.exit i) a' w'
 | .ret e' h'=>∀m' a' w',Fr m h w m' h' w'→aY m' n e' a'→Q .ret a' w'
def CQ.of_fr {Q:Exit→Act→Wo→Prop} (hF:Fr m h w m' h' w'):∀{r:CR},CQ m h w n Q r→CQ m' h' w' n Q r
 | .bad,k=>k
 | .nrm _ _,k=>fun m2 a2 w2 h2=>k m2 a2 w2 (hF.trans h2)
 | .ext _ _ _,k=>fun m2 a2 w2 h2=>k m2 a2 w2 (hF.trans h2)
 | .ret _ _,k=>fun m2 a2 w2 h2=>k m2 a2 w2 (hF.trans h2)
def xR (a0:eY P call) (a4:P.follows .mixedOrders=true):∀(c:Code),fX P n c=true→
  ∀(m:Mp) (e:Env) (a:Act) (h:H) (w:Wo) (Q:Exit→Act→Wo→Prop),aY m n e a→Gl P m→HR m h w→CQ m h w n Q ((eM P lf c).run call e h)→c.wp P Q a w:=by
 intro c
 induction c with
 |skip=>intro hc m e a h w Q k hg hr hq;exact wp_skip (hq m a w (Fr.refl hr) k)
 |label l=>intro hc m e a h w Q k hg hr hq;exact wp_label (hq m a w (Fr.refl hr) k)
 |ret=>intro hc m e a h w Q k hg hr hq;exact wp_ret (hq m a w (Fr.refl hr) k)
 |exit id=>intro hc m e a h w Q k hg hr hq;exact wp_exit (hq m a w (Fr.refl hr) k)
 | seq x y ihx ihy=>
  intro hc m e a h w Q k hg hr hq;simp only [fX,aN] at hc;refine wp_seq (ihx hc.1 m e a h w _ k hg hr ?_);simp only [eM] at hq;cases hx:(eM P lf x).run call e h with
  |bad=>rw [hx] at hq;exact hq.elim
  |nrm e1 h1=>
   rw [hx] at hq;intro m' a' w' hF hE;exact ihy hc.2 m' e1 a' h1 w' Q hE (hg.mono hF.le) hF.hr (hq.of_fr hF)
  |ext i e1 h1=>rw [hx] at hq;exact hq
  |ret e1 h1=>rw [hx] at hq;exact hq
 | cond c x y ihx ihy=>
  intro hc m e a h w Q k hg hr hq;simp only [fX,aN] at hc;simp only [eM] at hq;have hC:=cV k hg hc.1;generalize a1:tB ((aE c).run e) (fun t=>eE t ((eM P lf x).run call e h) ((eM P lf y).run call e h)) .bad=r at hq;rcases IB a1 with⟨b,hb,hv⟩|⟨hb,hv⟩
  ·rw [hb] at hC;simp only [R] at hC;refine wp_cond hC ?_;rcases pA hv with⟨a3,hv2⟩|⟨a3,hv2⟩
   ·rw [a3];exact ihx hc.2.1 m e a h w Q k hg hr (by rw [hv2];exact hq)
   ·rw [a3];exact ihy hc.2.2 m e a h w Q k hg hr (by rw [hv2];exact hq)
  ·rw [←hv] at hq;exact hq.elim
 | block id x ih=>
  intro hc m e a h w Q k hg hr hq;simp only [fX] at hc;simp only [eM] at hq;refine wp_block (ih hc m e a h w _ k hg hr ?_);cases hx:(eM P lf x).run call e h with
  |bad=>rw [hx] at hq;exact hq.elim
  |nrm e1 h1=>rw [hx] at hq;exact hq
  |ret e1 h1=>rw [hx] at hq;exact hq
  | ext j e1 h1=>
   rw [hx] at hq;simp only at hq;intro m' a' w' hF hE;show(if j=id then Q .normal a' w' else Q (.exit j) a' w');generalize a1:eE (Nat.beq j id) (CR.nrm e1 h1) (CR.ext j e1 h1)=r at hq;rcases pA a1 with⟨hj,hv⟩|⟨hj,hv⟩
   ·rw [if_pos (aT hj)];rw [←hv] at hq;exact hq m' a' w' hF hE
   ·rw [if_neg (VE hj)];rw [←hv] at hq;exact hq m' a' w' hF hE
 | loop x ih=>
  intro hc m e a h w Q k hg hr hq;simp only [fX] at hc;simp only [eM] at hq;refine wp_loop_rounds lf ?_;have key:∀(N:Nat) (m:Mp) (e:Env) (a:Act) (h:H) (w:Wo),aY m n e a→Gl P m→HR m h w→CQ m h w n Q (AQ ((eM P lf x).run call) N e h)→Code.rounds P x Q N a w:=by
   intro N
   induction N with
   |zero=>intro m e a h w k hg hr hq;exact hq.elim
   | succ N ihN=>
    intro m e a h w k hg hr hq;rw [rounds_succ];refine ih hc m e a h w _ k hg hr ?_;have hl:AQ ((eM P lf x).run call) (N+1) e h=CR.rec (motive:=fun _=>CR) .bad (fun e h=>AQ ((eM P lf x).run call) N e h) (fun i e h=>.ext i e h) (fun e h=>.ret e h) ((eM P lf x).run call e h):=rfl;rw [hl] at hq;cases hx:(eM P lf x).run call e h with
    |bad=>rw [hx] at hq;exact hq.elim
    |nrm e1 h1=>
     rw [hx] at hq;intro m' a' w' hF hE;exact ihN m' e1 a' h1 w' hE (hg.mono hF.le) hF.hr (hq.of_fr hF)
    |ext i e1 h1=>rw [hx] at hq;exact hq
    |ret e1 h1=>rw [hx] at hq;exact hq
  exact key lf m e a h w k hg hr hq
 | region id ops d=>
  intro hc m e a h w Q k hg hr hq;simp only [fX] at hc;cases d with
  |false=>
   simp only [eM] at hq;cases hx:(lB P ops.toList ops.toList).run call e h with
   |bad=>rw [hx] at hq;exact hq.elim
   |ok e1 h1=>rw [hx] at hq;exact ZM a0 hc k hg hr hx hq
  |true=>
   simp only [eM] at hq;cases hx:(regE P ops.toList).run call e h with
   |bad=>rw [hx] at hq;exact hq.elim
   |ok e1 h1=>rw [hx] at hq;exact ZN a4 a0 hc k hg hr hx hq
 |_=>intro hc m e a h w Q k hg hr hq;simp only [eM] at hq;exact hq.elim
end
section
variable {P:Program} {m:Mp} {w:Wo}
def RQ (t:Nat):bQ t Env.new=cN:=by
 unfold bQ Env.new N8.all;cases dg (t/64)<;>cases dg (t/8%8)<;>cases dg (t%8)<;>rfl
def GP:∀(l:List V) (i:Nat) (e:Env) (t:Nat),i+l.length≤511→t<512→bQ t (mB i l e)=if i≤t∧t<i+l.length then(l[t-i]?).getD .top else bQ t e
 | [],i,e,t,_,_=>by
  have:¬(i≤t∧t<i+0):=by omega
  simp [mB];omega
 | v::l,i,e,t,hl,ht=>by
  simp only [eW] at hl;rw [mB,GP l (i+1) _ t (by omega) ht]
  by_cases h1:i+1≤t∧t<i+1+l.length
  ·rw [if_pos h1,if_pos (by simp;omega)];have:t-i=(t-(i+1))+1:=by omega
   rw [this];simp
  ·rw [if_neg h1]
   by_cases h2:t=i
   ·subst h2;rw [uS,if_pos (by simp)];simp
   ·rw [qV ht (by omega) h2,if_neg (by simp;omega)]
def IE {us:Lv} (hR:Rl m args us) (hl:args.length≤n) (hn:n≤511):
  aY m n (mB 0 args Env.new) { tmps:=(⟨us⟩:Array Value)++Array.replicate (n-us.length) undef,defers:=[] }:=by
 have a3:=hR.length;refine⟨by simp;omega,hn,?_,?_⟩
 ·intro t ht;rw [GP args 0 _ t (by omega) (by omega)]
  by_cases h1:t<args.length
  ·rw [if_pos (by omega)];obtain⟨v,hv⟩:∃v,args[t]?=some v:=⟨args[t],by simp [h1]⟩;obtain⟨u,hu,hRu⟩:=hR.get hv;have:((⟨us⟩:Array Value)++Array.replicate (n-us.length) undef).getD t undef=u:=by
    rw [tO,Array.getElem?_append_left (by show t<us.length;omega)];have h9:(⟨us⟩:Array Value)[t]?=some u:=by simpa using hu
    rw [h9];rfl
   simp only [DB,hv,yL];show R m v (((⟨us⟩:Array Value)++Array.replicate (n-us.length) undef).getD t undef);rw [this];exact hRu
  ·rw [if_neg (by omega),RQ];have:((⟨us⟩:Array Value)++Array.replicate (n-us.length) undef).getD t undef=undef:=by
    rw [tO,Array.getElem?_append_right (by show us.length≤t;omega)];have:t-us.length<n-us.length:=by omega
    show((Array.replicate (n-us.length) undef)[t-us.length]?).getD undef=undef;simp [this]
   show R m cN (((⟨us⟩:Array Value)++Array.replicate (n-us.length) undef).getD t undef);rw [this];simp [R,Rl,cN,undef]
 ·refine⟨[],?_,rfl⟩;rw [GP args 0 _ fW (by omega) (by decide),if_neg (by simp [fW];omega),RQ];rfl
def ZJ (k:aY m n e a) {h:H} (hr:HR m h w) {r:ResultVar} (a0:wD n r=true) {v:V} (hv:(rS P r).run e h=some v):
  ∃u,((match r with| .tmp t=>pure (a.tmps.getD t undef)| .cell x t=>do loadVar t (←asAddr (a.tmps.getD x undef)):Sem Value)).run P w= .ok u w∧R m v u:=by
 cases r with
 |tmp t=>
  simp only [rS] at hv;cases hv;exact⟨a.tmps.getD t undef,by simp,k.val t (cQ a0)⟩
 | cell x t=>
  have hx:=k.val x (cQ a0);simp only [rS] at hv;have hd:∃d,P.underlying t=some d:=by
   cases hu:P.underlying t with
   |some d=>exact⟨d,rfl⟩
   |none=>simp [bJ,eV,hu] at hv
  obtain⟨d,hd⟩:=hd;have key:∀nn,bJ P t=some nn→iJ (bQ x e) (fun b o=>eE (eV P t) (mO (rd h b o nn)) (rd1 h b o)) none=some v→
    ∃u,(do loadVar t (←asAddr (a.tmps.getD x undef)):Sem Value).run P w= .ok u w∧R m v u:=by
   intro nn hs hv;obtain⟨u',h1,h2⟩:=OV hr hd hs hx hv;refine⟨u',?_,h2⟩;obtain⟨b,o,e1,_⟩:=sZ hv;rw [e1] at hx;obtain⟨l,hl,hu⟩:=R_p hx;rw [hu] at h1 ⊢;simpa [Instr.loadAt,Instr.sureAddr,asAddr] using h1
  cases ha:eV P t with
  | true=>
   cases hs:bJ P t with
   |none=>rw [ha,hs] at hv;cases hv
   |some nn=>
    rw [ha,hs] at hv;exact key nn hs (by rw [ha];exact hv)
  | false=>
   cases hs:bJ P t with
   |none=>rw [ha,hs] at hv;cases hv
   |some nn=>
    rw [ha,hs] at hv;exact key nn hs (by rw [ha];exact hv)
def LY {n:Nat} {e:Env} {a:Act} (k:aY m n e a) {h:H} (hr:HR m h w):∀(rs:List ResultVar),rs.all (wD n)=true→∀vs,(jY P rs).run e h=some vs→
  ∃us,(rs.mapM (fun r=>(match r with| .tmp t=>pure (a.tmps.getD t undef)| .cell x t=>do loadVar t (←asAddr (a.tmps.getD x undef)):Sem Value))).run P w= .ok us w∧Rl m vs us
 | [],_,vs,hv=>by
  simp only [jY] at hv;cases hv;exact⟨[],by simp,by simp [Rl]⟩
 | r::rs,a0,vs,hv=>by
  simp only [mX,aN] at a0;simp only [jY] at hv;cases h1:(rS P r).run e h with
  |none=>rw [h1] at hv;cases hv
  | some v=>
   cases h2:(jY P rs).run e h with
   |none=>rw [h1,h2] at hv;cases hv
   |some vs'=>
    rw [h1,h2] at hv;cases hv;obtain⟨u,a1,a2⟩:=ZJ k hr a0.1 h1;obtain⟨us,b1,b2⟩:=LY k hr rs a0.2 vs' h2;refine⟨u::us,?_,by simp only [Rl];exact⟨u,us,rfl,a2,b2⟩⟩;rw [List.mapM_cons,aU,a1,cI,aU,b1,cI,cC]
def EA (k:aY m n e a) {h:H} (hr:HR m h w) {fn:Func} (a0:fn.results.toList.all (wD n)=true) {v:V} (hv:(pX P fn.results.toList).run e h=some v):
  ∃u,(results fn a.tmps).run P w= .ok u w∧R m v u:=by
 have hm:∃vs,(jY P fn.results.toList).run e h=some vs∧((vs= [v]∧fn.results.toList.length=1)∨(v= .tup vs∧fn.results.toList.length≠1)):=by
  generalize fn.results.toList=rs at hv
  match rs,hv with
  | [r],hv=>
   refine⟨[v],?_,.inl ⟨rfl,rfl⟩⟩;simp only [pX] at hv;simp only [jY];rw [hv]
  | [],hv=>
   simp only [pX,jY] at hv;cases hv;exact⟨[],rfl,.inr ⟨rfl,by simp⟩⟩
  | r1::r2::l,hv=>
   simp only [pX] at hv;cases h1:(jY P (r1::r2::l)).run e h with
   |none=>rw [h1] at hv;cases hv
   |some vs=>
    rw [h1] at hv;cases hv;exact⟨vs,rfl,.inr ⟨rfl,by simp⟩⟩
 obtain⟨vs,h1,h2⟩:=hm;obtain⟨us,b1,b2⟩:=LY k hr _ a0 vs h1;have a3:us.length=fn.results.toList.length:=by
  have hv:∀(rs:List ResultVar) vs,(jY P rs).run e h=some vs→vs.length=rs.length:=by
   intro rs
   induction rs with
   |nil=>intro vs hv;simp only [jY] at hv;cases hv;rfl
   | cons r rs ih=>
    intro vs hv;simp only [jY] at hv;cases h1:(rS P r).run e h with
    |none=>rw [h1] at hv;cases hv
    |some v=>
     cases h2:(jY P rs).run e h with
     |none=>rw [h1,h2] at hv;cases hv
     |some vs'=>rw [h1,h2] at hv;cases hv;simp [ih vs' h2]
  rw [b2.length,hv _ _ h1]
 have a5:((fn.results.mapM (fun r=>(match r with| .tmp t=>pure (a.tmps.getD t undef)| .cell x t=>do loadVar t (←asAddr (a.tmps.getD x undef)):Sem Value)))).run P w= .ok ⟨us⟩ w:=by
  have he:fn.results=fn.results.toList.toArray:=by simp
  rw [he,List.mapM_toArray,map_eq_pure_bind,aU,b1,cI,cC]
 have a4:(results fn a.tmps).run P w= .ok (if h:(⟨us⟩:Array Value).size=1 then(⟨us⟩:Array Value)[0] else .tuple ⟨us⟩) w:=by
  unfold results;rw [aU];show(Result.andThen ((fn.results.mapM (fun r=>(match r with| .tmp t=>pure (a.tmps.getD t undef)| .cell x t=>do loadVar t (←asAddr (a.tmps.getD x undef)):Sem Value))).run P w) _)=_;rw [a5,cI,cC]
 refine⟨_,a4,?_⟩;rcases h2 with⟨rfl,h3⟩|⟨rfl,h3⟩
 ·simp only [Rl] at b2;obtain⟨u,us',rfl,hR,rfl⟩:=b2;exact hR
 ·have:¬(⟨us⟩:Array Value).size=1:=by show¬us.length=1;rw [a3];exact h3
  rw [dif_neg this];simp only [R];exact⟨us,rfl,b2⟩
end
section
variable {P:Program} {m:Mp} {w:Wo}
def WT {ops:Array Oper} {Q:Exit→Act→List Frame→Wo→Prop} {cs:List Frame} (a9:∀a w,¬Q .outgrown a cs w)
  (h:wpOp P ops (fun e a w=>Q e a cs w) i (fun a' w'=>wpOpsS P ops Q rest a' cs w') a w):wpOpsS P ops Q (i::rest) a cs w:=by
 unfold wpOp at h;simp only [wpOpsS];cases ho:ops[i]? with
 |none=>rw [ho] at h;exact h
 | some o=>
  rw [ho] at h;simp only at h ⊢;split at h
  ·rename_i hw;rw [if_pos hw];rcases h with h|⟨_,a0,w0,hl⟩
   ·unfold Oper.wp at h;generalize (execOp a.eval o).run P w=r at h ⊢;cases r with
    |ok n w'=>cases n<;>first|exact h|(simp [Oper.upon] at h)
    |halt x w'=>exact h
   ·exact absurd hl (a9 a0 w0)
  ·rename_i hw;rw [if_neg hw];exact h
def LD {n:Nat} {call:bR} (a3:eY P call) {ops:Array Oper} (b5:fN P n ops=true) {Q:Exit→Act→List Frame→Wo→Prop} {cs:List Frame} (a9:∀a w,¬Q .outgrown a cs w):
  ∀(l:List Oper) (i:Nat) (m:Mp) (e e':Env) (a:Act) (h h':H) (w:Wo),ops.toList.drop i=l→aY m n e a→Gl P m→HR m h w→(lB P ops.toList l).run call e h= .ok e' h'→
   (∀m' a' w',Fr m h w m' h' w'→aY m' n e' a'→Q .normal a' cs w')→wpOpsS P ops Q (List.range' i l.length) a cs w
 | [],i,m,e,e',a,h,h',w,hl,k,hg,hr,hv,hn=>by
  simp only [lB] at hv;cases hv;exact hn m a w (Fr.refl hr) k
 | o::l,i,m,e,e',a,h,h',w,hl,k,hg,hr,hv,hn=>by
  have hi:ops[i]?=some o:=by
   have:(ops.toList.drop i)[0]?=some o:=by rw [hl];rfl
   rw [jF] at this;simpa using this
  have c4:ops.toList.drop (i+1)=l:=by
   have:(ops.toList.drop i).drop 1=l:=by rw [hl];rfl
   rw [yV] at this;exact this
  simp only [eW,vM];refine WT a9 ?_;simp only [lB] at hv;cases h1:(rV P ops.toList o).run call e h with
  |bad=>rw [h1] at hv;cases hv
  |ok e1 a8=>
   rw [h1] at hv;refine EM a3 k hg hr b5 hi h1 ?_;intro m1 a1 w1 b7 c1;exact LD a3 b5 a9 l (i+1) m1 e1 e' a1 a8 h' w1 c4 c1 (hg.mono b7.le) b7.hr hv (fun m2 a2 w2 b0 c2=>hn m2 a2 w2 (b7.trans b0) c2)
def Dg {d:Nat} (h:BE o=some d):o.dst=some d∧o.guard=none∧∀a:Act,∀w,(execOp a.eval o).run P w= .ok .recover w:=by
 unfold BE at h;split at h
 ·rename_i ts d' h1 h2 h3;cases h;refine⟨h2,h3,fun a w=>?_⟩;simp [execOp,h1,resolve,invoke,builtin]
 ·cases h
def Gk (a3:eY P call) (a4:P.follows .mixedOrders=true) {c₀:Frame} {b2:List Frame} (a5:c₀.mode= .returning):∀(c:Code),fX P n c=true→
  ∀(m:Mp) (e:Env) (a:Act) (h:H) (w:Wo) (Q:Exit→Act→List Frame→Wo→Prop),(∀a w,¬Q .outgrown a (c₀::b2) w)→aY m n e a→Gl P m→HR m h w→
   CQ m h w n (fun e a w=>Q e a (c₀::b2) w) ((nP P lf c).run call e h)→c.wpS P Q a (c₀::b2) w:=by
 intro c
 induction c with
 | seq x y ihx ihy=>
  intro hc m e a h w Q a9 k hg hr hq;simp only [fX,aN] at hc;refine wpS_seq (ihx hc.1 m e a h w _ (fun a w=>a9 a w) k hg hr ?_);simp only [nP] at hq;cases hx:(nP P lf x).run call e h with
  |bad=>rw [hx] at hq;exact hq.elim
  |nrm e1 h1=>
   rw [hx] at hq;intro m' a' w' hF hE;exact wpS_of_wp (xR a3 a4 y hc.2 m' e1 a' h1 w' _ hE (hg.mono hF.le) hF.hr (hq.of_fr hF))
  |ext i e1 h1=>rw [hx] at hq;exact hq
  |ret e1 h1=>rw [hx] at hq;exact hq
 | region id ops d=>
  intro hc m e a h w Q a9 k hg hr hq;have a7:CQ m h w n (fun e a w=>Q e a (c₀::b2) w) ((eM P lf (.region id ops d)).run call e h)→(Code.region id ops d).wpS P Q a (c₀::b2) w:=
   fun hq=>wpS_of_wp (xR a3 a4 _ hc m e a h w _ k hg hr hq)
  cases d with
  |true=>exact a7 (by simpa only [nP] using hq)
  | false=>
   obtain⟨l⟩:=ops;cases l with
   |nil=>exact a7 (by simpa only [nP] using hq)
   | cons o l=>
    simp only [nP] at hq;cases hrec:BE o with
    |none=>rw [hrec] at hq;exact a7 hq
    | some d=>
     rw [hrec] at hq;simp only at hq;obtain⟨r1,r2,r3⟩:=Dg (P:=P) hrec;simp only [fX] at hc;cases hx:(lB P (o::l) l).run call (iP d .ni e) h with
     |bad=>rw [hx] at hq;exact hq.elim
     | ok e1 h1=>
      rw [hx] at hq;refine wpS_region ?_;have c6:List.range (⟨o::l⟩:Array Oper).size=0::List.range' 1 l.length:=by
       show List.range (l.length+1)=_;rw [VQ,vM]
      rw [c6];have h0:(⟨o::l⟩:Array Oper)[0]?=some o:=by simp
      have hd:=gE (jM hc h0).2 r1;simp only [wpOpsS,h0];rw [if_pos (by simp [Region.wanted,r2]),r3 a w];simp only [recoverD,a5,r1];refine LD a3 hc a9 l 1 m _ e1 _ h h1 w (by simp) (k.set hd (show R m .ni .nilIface by simp [R])) hg hr hx hq
 |_=>intro hc m e a h w Q a9 k hg hr hq;exact wpS_of_wp (xR a3 a4 _ hc m e a h w _ k hg hr (by simpa only [nP] using hq))
def zT (hp:oM P=true) {f:FuncId} {fn:Func} {c:Code} (hf:P.funcs[f]?=some fn) (hb:fn.body=some c):
  fn.ntmps≤511∧fX P fn.ntmps c=true∧fn.results.toList.all (wD fn.ntmps)=true∧(fn.name== "runtime.NumGoroutine")=false:=by
 have hm:fn∈P.funcs.toList:=by
  rw [←gP] at hf;exact aV hf
 have:=(jG.1 hp) fn hm;simp only [QM,hb,aN,JO] at this;exact⟨cQ this.1,this.2.1,this.2.2.1,this.2.2.2⟩
def HF (hp:oM P=true) {f:FuncId} {fn:Func} {c:Code} (hf:P.funcs[f]?=some fn) (hb:fn.body=some c) (args:Array Value) (w:Wo):(callFunc f args).run P w= .ok (.enter f args) w:=by
 obtain⟨_,_,_,h4⟩:=zT hp hf hb
 have h5:fn.name≠ "runtime.NumGoroutine" :=by simpa using h4
 simp [callFunc,hf,h5,hb]
def PI {lf:Nat} {call:bR} (hp:oM P=true) (a3:eY P call) (a4:P.follows .mixedOrders=true) {fn:Func} {tmps:Array Value} {Rr:Ending→Wo→Prop} {h2:H}:
  ∀(l:List V) (ds:List Deferred) (m:Mp) (h:H) (w:Wo),DfrR m l ds→HR m h w→Gl P m→fM P lf call l h=some h2→
   (∀m' w',Fr m h w m' h2 w'→∃v,(results fn tmps).run P w'= .ok v w'∧Rr (.returned v) w')→(∀w,¬Rr .outgrown w)→Leaves P fn tmps Rr ds .returning w
 | [],ds,m,h,w,hd,hr,hg,hv,hfin,hRo=>by
  simp only [DfrR] at hd;subst hd;simp only [fM] at hv;cases hv;exact hfin m w (Fr.refl hr)
 | .fn (.func f) first cap::l,ds,m,h,w,hd,hr,hg,hv,hfin,hRo=>by
  simp only [DfrR] at hd;obtain⟨a',c',r,rfl,hA,hC,hD⟩:=hd;simp only [fM] at hv;cases hx:(defF P lf f).run call (first++cap) h with
  |bad=>rw [hx] at hv;cases hv
  | ok v h1=>
   rw [hx] at hv;simp only at hv;unfold defF at hx;cases hf:P.funcs[f]? with
   |none=>rw [hf] at hx;cases hx
   | some fd=>
    rw [hf] at hx;simp only at hx;cases hb:fd.body with
    |none=>rw [hb] at hx;cases hx
    | some c=>
     rw [hb] at hx;simp only at hx;obtain⟨b4,hx⟩:=FT hx;obtain⟨p1,p2,p3,p4⟩:=zT hp hf hb;have b1:(first++cap).length≤fd.ntmps:=by rw [kH] at b4;exact cQ b4
     refine leaves_cons (by simp) (f:=f) (args:=⟨a'++c'⟩) (by simp only [invoke];rw [HF hp hf hb];simp) ?_;refine callsD_of_wpS hf hb ?_;intro c₀ cs a5;have hE:=IE (hA.append hC) b1 p1;have c3:({ c₀ with mode:=.returning }:Frame)=c₀:=by rw [←a5]
     refine Gk (lf:=lf) a3 a4 a5 c p2 m _ _ h w _ ?_ hE hg hr ?_
     ·rintro a w ⟨u',hu⟩;exact hRo w hu
     ·have key:∀e1 a8,qK P fd.results.toList e1 a8= .ok v h1→∀m' a' w',Fr m h w m' a8 w'→aY m' fd.ntmps e1 a'→
        a'.defers= []∧∃u',(c₀::cs)={ c₀ with mode:=u' }::cs∧∃v,(results fd a'.tmps).run P w'= .ok v w'∧Leaves P fn tmps Rr r (settle u') w':=by
       intro e1 a8 hl m' a' w' hF b3;unfold qK at hl;split at hl
       ·rename_i a6;obtain⟨L,hL,hDf⟩:=b3.dfr;rw [a6] at hL;cases hL;simp only [DfrR] at hDf;unfold vhO at hl;split at hl
        ·rename_i v' b8;cases hl;obtain⟨u,hu,_⟩:=EA b3 hF.hr p3 b8;refine⟨hDf,.returning,by rw [c3],u,hu,?_⟩;exact PI hp a3 a4 l r m' _ w' (hD.mono hF.le) hF.hr (hg.mono hF.le) hv (fun m2 w2 b0=>hfin m2 w2 (hF.trans b0)) hRo
        ·cases hl
       ·cases hl
      cases hc:(nP P lf c).run call (mB 0 (first++cap) Env.new) h with
      |bad=>rw [hc] at hx;cases hx
      |nrm e1 a8=>rw [hc] at hx;exact key e1 a8 hx
      |ext i e1 a8=>rw [hc] at hx;cases hx
      |ret e1 a8=>rw [hc] at hx;exact key e1 a8 hx
 | .fn (.method _) _ _::_,ds,m,h,w,hd,hr,hg,hv,hfin,hRo=>by simp [fM] at hv
 | .fn (.methodOf _ _) _ _::_,ds,m,h,w,hd,hr,hg,hv,hfin,hRo=>by simp [fM] at hv
 | .fn (.via _ _ _ _) _ _::_,ds,m,h,w,hd,hr,hg,hv,hfin,hRo=>by simp [fM] at hv
 | .fn (.yield _) _ _::_,ds,m,h,w,hd,hr,hg,hv,hfin,hRo=>by simp [fM] at hv
 | .top::_,ds,m,h,w,hd,hr,hg,hv,hfin,hRo=>by simp [fM] at hv
 | .b _::_,ds,m,h,w,hd,hr,hg,hv,hfin,hRo=>by simp [fM] at hv
 | .i _ _::_,ds,m,h,w,hd,hr,hg,hv,hfin,hRo=>by simp [fM] at hv
 | .s _ _::_,ds,m,h,w,hd,hr,hg,hv,hfin,hRo=>by simp [fM] at hv
 | .pn::_,ds,m,h,w,hd,hr,hg,hv,hfin,hRo=>by simp [fM] at hv
 | .p _ _::_,ds,m,h,w,hd,hr,hg,hv,hfin,hRo=>by simp [fM] at hv
 | .sn::_,ds,m,h,w,hd,hr,hg,hv,hfin,hRo=>by simp [fM] at hv
 | .sl _ _ _ _::_,ds,m,h,w,hd,hr,hg,hv,hfin,hRo=>by simp [fM] at hv
 | .se::_,ds,m,h,w,hd,hr,hg,hv,hfin,hRo=>by simp [fM] at hv
 | .mn::_,ds,m,h,w,hd,hr,hg,hv,hfin,hRo=>by simp [fM] at hv
 | .mp _::_,ds,m,h,w,hd,hr,hg,hv,hfin,hRo=>by simp [fM] at hv
 | .nf::_,ds,m,h,w,hd,hr,hg,hv,hfin,hRo=>by simp [fM] at hv
 | .ni::_,ds,m,h,w,hd,hr,hg,hv,hfin,hRo=>by simp [fM] at hv
 | .agg _::_,ds,m,h,w,hd,hr,hg,hv,hfin,hRo=>by simp [fM] at hv
 | .tup _::_,ds,m,h,w,hd,hr,hg,hv,hfin,hRo=>by simp [fM] at hv
def SpecOK (P:Program) (sp:Nat→Option FOp):Prop:=
 ∀(f:FuncId) (op:FOp),sp f=some op→∀(call:bR),eY P call→∀(vs:List V) (us:Lv) (m:Mp) (h:H) (w:Wo) (v:V) (h':H),HR m h w→Gl P m→Rl m vs us→op.run call vs h= .ok v h'→cO P ((callFunc f ⟨us⟩).run P w) m h w v h'
def In (hp:oM P=true) (a3:eY P call) (a4:P.follows .mixedOrders=true) {f:FuncId} {fn:Func} {c:Code} (hf:P.funcs[f]?=some fn) (hb:fn.body=some c)
  {vs:List V} {us:Lv} {h h':H} {v:V} (hr:HR m h w) (hg:Gl P m) (hR:Rl m vs us) (hv:(HM P lf fn c).run call vs h= .ok v h'):
  Calls P f ⟨us⟩ w (fun e w'=>∃u m',e= .returned u∧Fr m h w m' h' w'∧R m' v u):=by
 obtain⟨p1,p2,p3,p4⟩:=zT hp hf hb;unfold HM at hv;obtain⟨b4,hv⟩:=FT hv;have b1:vs.length≤fn.ntmps:=by rw [kH] at b4;exact cQ b4
 have hE:=IE hR b1 p1;refine calls_of_wp_defers hf hb ?_;refine xR (lf:=lf) a3 a4 c p2 m _ _ h w _ hE hg hr ?_;have key:∀e1 h1,AY P lf fn.results.toList call e1 h1= .ok v h'→∀m' a' w',Fr m h w m' h1 w'→aY m' fn.ntmps e1 a'→
   Leaves P fn a'.tmps (fun e w'=>∃u m',e= .returned u∧Fr m h w m' h' w'∧R m' v u) a'.defers .returning w':=by
  intro e1 h1 hl m' a' w' hF b3;obtain⟨L,hL,hDf⟩:=b3.dfr;have b9:∀h2,vhO h2 ((pX P fn.results.toList).run e1 h2)= .ok v h'→∀m2 w2,Fr m' h1 w' m2 h2 w2→∃u,(results fn a'.tmps).run P w2= .ok u w2∧∃u' m',Ending.returned u= .returned u'∧Fr m h w m' h' w2∧R m' v u':=by
   intro h2 b6 m2 w2 b0;unfold vhO at b6;split at b6
   ·rename_i v' b8;cases b6;obtain⟨u,hu,hRu⟩:=EA (b3.mono b0.le) b0.hr p3 b8;exact⟨u,hu,u,m2,rfl,hF.trans b0,hRu⟩
   ·cases b6
  unfold AY at hl;split at hl
  ·rename_i a6;rw [a6] at hL;cases hL;simp only [DfrR] at hDf;rw [hDf];exact b9 h1 hl m' w' (Fr.refl hF.hr)
  ·rename_i l c7 a6;rw [a6] at hL;cases hL;split at hl
   ·rename_i h2 c5;exact PI hp a3 a4 _ a'.defers m' h1 w' hDf hF.hr (hg.mono hF.le) c5 (b9 h2 hl) (by rintro w ⟨u,m',hu,_⟩;cases hu)
   ·cases hl
  ·cases hl
 cases hc:(eM P lf c).run call (mB 0 vs Env.new) h with
 |bad=>rw [hc] at hv;cases hv
 |nrm e1 h1=>rw [hc] at hv;exact key e1 h1 hv
 |ext i e1 h1=>rw [hc] at hv;cases hv
 |ret e1 h1=>rw [hc] at hv;exact key e1 h1 hv
def HG {sp:Nat→Option FOp} {lf:Nat} (hp:oM P=true) (a4:P.follows .mixedOrders=true) (c0:SpecOK P sp):∀n,eY P (xU P sp lf n)
 |0=>by intro f vs us m h w v h' hr hg hR hv;cases hv
 | n +1=>by
  intro f vs us m h w v h' hr hg hR hv;have a3:=HG (lf:=lf) hp a4 c0 n;have hv:(GD P sp lf f).run (xU P sp lf n) vs h= .ok v h':=hv;unfold GD at hv;cases hs:sp f with
  |some op=>rw [hs] at hv;exact c0 f op hs _ a3 vs us m h w v h' hr hg hR hv
  | none=>
   rw [hs] at hv;simp only at hv;cases hf:P.funcs[f]? with
   |none=>rw [hf] at hv;cases hv
   | some fn=>
    rw [hf] at hv;simp only at hv;cases hb:fn.body with
    |none=>rw [hb] at hv;cases hv
    |some c=>
     rw [hb] at hv;simp only at hv;exact .inr ⟨f,⟨us⟩,HF hp hf hb _ _,In hp a3 a4 hf hb hr hg hR hv⟩
end
section
def AF (h:H) (b:Id):Option (List (V × H)):=
 match aB b h.mem with
 |some (.miter m since seen last)=>(match iH h m with
  |some (es,clock)=>bif es.all (fun e=>Nat.ble (Nat.succ e.born) since)&&Nat.ble since last then
     (
      match nD seen es with
      | []=>some [(.tup [.b false],h)]
      |l=>some (l.map fun e=>(.tup [.b true,e.key,e.val],eO h b (.miter m since (seen++ [e.born]) clock))))
     else none
  |none=>none)
 |_=>none
def AE (o:Oper):Option (Operand × Nat):=
 match o.op,o.dst,o.guard with
 | .next x false,some d,none=>some (x,d)
 |_,_,_=>none
structure NS where
 run:bR→Env→H→List Rs
structure NCd where
 run:bR→Env→H→List CR
variable (P:Program)
def AA (ops:List Oper) (o:Oper):NS:=
 match AE o with
 |none=>⟨fun call e h=>[(rV P ops o).run call e h]⟩
 | some (x,d)=>⟨fun _ e h=>match (aE x).run e with
   | .p b 0=>(match AF h b with|some l=>l.map (fun r=>.ok (iP d r.1 e) r.2)|none=>[.bad])
   |_=>[.bad]⟩
def HO (k:Env→H→List Rs):Rs→List Rs
 | .bad=>[.bad]
 | .ok e h=>k e h
def seqN (ops:List Oper):List Oper→NS
 | []=>⟨fun _ e h=>[.ok e h]⟩
 |o::l=>⟨fun call e h=>((AA P ops o).run call e h).flatMap (HO ((seqN ops l).run call))⟩
def CJ (k:Env→H→List CR):CR→List CR
 | .bad=>[.bad]
 | .nrm e h=>k e h
 | .ext i e h=>[.ext i e h]
 | .ret e h=>[.ret e h]
def FK (body:Env→H→List CR):Nat→Env→H→List CR
 |0=>fun _ _=>[.bad]
 |n+1=>fun e h=>(body e h).flatMap (CJ (FK body n))
def blkC (id:Nat):CR→CR
 | .ext j e h=>bif Nat.beq j id then .nrm e h else .ext j e h
 |r=>r
def rsC:Rs→CR
 | .bad=>.bad
 | .ok e h=>.nrm e h
def iS (lf:Nat):Code→NCd
 | .seq a b=>⟨fun call e h=>((iS lf a).run call e h).flatMap (CJ ((iS lf b).run call))⟩
 | .cond c a b=>⟨fun call e h=>match (aE c).run e with
    | .b true=>(iS lf a).run call e h
    | .b false=>(iS lf b).run call e h
    |_=>[.bad]⟩
 | .block id b=>⟨fun call e h=>((iS lf b).run call e h).map (blkC id)⟩
 | .loop b=>⟨fun call e h=>FK ((iS lf b).run call) lf e h⟩
 | .region _ ops false=>⟨fun call e h=>((seqN P ops.toList ops.toList).run call e h).map rsC⟩
 | .region id ops true=>⟨fun call e h=>[(eM P lf (.region id ops true)).run call e h]⟩
 | .skip=>⟨fun _ e h=>[.nrm e h]⟩
 | .label _=>⟨fun _ e h=>[.nrm e h]⟩
 | .ret=>⟨fun _ e h=>[.ret e h]⟩
 | .exit id=>⟨fun _ e h=>[.ext id e h]⟩
 |_=>⟨fun _ _ _=>[.bad]⟩
end
section
variable {P:Program} {m:Mp} {w:Wo}
def Bd (k:HR m h w) {ty:TypeId} {b:Id} {l:Loc} {L:List (V × H)} (hl:m b=some l) (hn:AF h b=some L):
  ∃r∈L,∃u' w' m',(Instr.next (.pointer (some ⟨l.blk,l.base+0,none⟩)) false ty).run P w= .ok u' w'∧Fr m h w m' r.2 w'∧R m' r.1 u':=by
 unfold AF at hn;split at hn
 ·rename_i mi a0 seen a9 hb;obtain⟨l1,hl1,h0,lm,hlm,hit⟩:=k.obj _ _ hb;rw [hl] at hl1;cases hl1;rw [h0];split at hn
  ·rename_i es a6 he;obtain⟨l2,es',hb2,hl2,hat,hes⟩:=pE k he;have b5:lm=l2:=by rw [hlm] at hl2;cases hl2;rfl
   subst b5;cases hc:(es.all (fun e=>Nat.ble (Nat.succ e.born) a0)&&Nat.ble a0 a9) with
   |false=>rw [hc] at hn;cases hn
   | true=>
    rw [hc] at hn;simp only [cS] at hn;rw [aN] at hc;have b9:∀x∈(⟨es'⟩:Array MapEntry).toList,x.born<a0:=by
     have h1:=hes.all (p:=fun n=>Nat.ble (Nat.succ n) a0);rw [hc.1] at h1;intro x hx;have:=(jG.1 h1) x (by simpa using hx);exact cQ this
    have d0:a0≤a9:=cQ hc.2;have a5:=hes.filter (p:=fun n=>!seen.any (Nat.beq n));have c5:(leftOf (⟨es'⟩:Array MapEntry) ⟨seen⟩).toList=(es'.filter fun e=>!seen.any (Nat.beq e.born)):=by
     unfold leftOf;simp only [Array.toList_filter];congr 1;funext e;congr 1;rw [jH];simp
    have d1:nD seen es=es.filter fun e=>!seen.any (Nat.beq e.born):=rfl
    rw [←d1,←c5] at a5;rcases run_next_at (P:=P) w ty l.blk lm.blk a0 a9 ⟨seen⟩ ⟨es'⟩ a6 hit hat b9 d0 with⟨hz,hrun⟩|⟨x,hx,w1,hw1,hrun⟩
    ·have b8:nD seen es= []:=by
      have:=a5.length;rw [cU,hz] at this;exact gI this.symm
     rw [b8] at hn;cases hn;exact⟨_,fI.2 rfl,_,w,m,hrun,Fr.refl k,by simp [R,Rl]⟩
    ·obtain⟨i,hi⟩:=pP.1 hx;have b6:=a5.length;have b2:i<(nD seen es).length:=by
      rw [←b6];exact(aM.1 hi).1
     obtain⟨x',hx',hxe⟩:=a5.get (bM b2);rw [hi] at hx';cases hx';have c9:nD seen es≠ []:=by intro e;rw [e] at b2;cases b2
     have c8:some ((nD seen es).map fun e=>(V.tup [.b true,e.key,e.val],eO h b (.miter mi a0 (seen++ [e.born]) a6)))=some L:=by
      cases hu:nD seen es with
      |nil=>exact absurd hu c9
      |cons a t=>rw [hu] at hn;exact hn
     cases c8;generalize hE:(nD seen es)[i]=E at hxe;refine⟨_,cL.2 ⟨E,by rw [←hE];exact List.getElem_mem b2,rfl⟩,_,_,m,hrun,?_,?_⟩
     ·have d2:∃n,w1={ w with drawn:=n }:=by
       rcases hw1 with rfl|rfl
       ·exact⟨w1.drawn,rfl⟩
       ·exact⟨w.drawn+1,rfl⟩
      obtain⟨n,rfl⟩:=d2;refine(Fr.drawn k n).trans (Fr.updObj (k.drawn n) hb hl (fun _ _ _ _ e=>by cases e) (fun _ _ _ _ e=>by cases e) (o':=.mapIter (some lm.blk) a0 ⟨seen++ [E.born]⟩ a6) ?_ (fun b4=>⟨h0,lm,hlm,b4⟩));simp [ChangeMaps.setBlock,hxe.2.2]
     ·simp only [R,Rl];exact⟨_,rfl,_,_,rfl,rfl,_,_,rfl,hxe.1,_,_,rfl,hxe.2.1,rfl⟩
  ·cases hn
 ·cases hn
def Bc {d:Nat} (h:AE o=some (x,d)):o.op= .next x false∧o.dst=some d∧o.guard=none:=by
 unfold AE at h;split at h
 ·rename_i h1 h2 h3;cases h;exact⟨h1,h2,h3⟩
 ·cases h
def Ai (a3:eY P call) (k:aY m n e a) (hg:Gl P m) {h:H} (hr:HR m h w) {ops:Array Oper} (a7:fN P n ops=true) {i:Nat} {o:Oper} (hi:ops[i]?=some o)
  {K:Act→Wo→Prop} {Q:Exit→Act→Wo→Prop} (hb:∀r∈(AA P ops.toList o).run call e h,r≠ .bad)
  (hn:∀e' h',Rs.ok e' h'∈(AA P ops.toList o).run call e h→∀m' a' w',Fr m h w m' h' w'→aY m' n e' a'→K a' w'):wpOp P ops Q i K a w:=by
 unfold AA at hb hn;cases hx:AE o with
 |none=>
  rw [hx] at hb hn;simp only [fI] at hb hn;cases hv:(rV P ops.toList o).run call e h with
  |bad=>exact absurd hv (hb _ rfl)
  |ok e1 h1=>exact EM a3 k hg hr a7 hi hv (hn e1 h1 hv.symm)
 | some xd=>
  obtain⟨x,d⟩:=xd;rw [hx] at hb hn;obtain⟨h1,h2,h3⟩:=Bc hx;obtain⟨b0,hd⟩:=jM a7 hi;simp only at hb hn;have hX:=cV k hg (show cT P n x=true by
   rw [h1] at b0;simpa [Op.operands] using b0)
  unfold wpOp;simp only [hi];rw [if_pos (by simp [Region.wanted,h3])];refine .inl ?_;unfold Oper.wp;split at hb
  ·rename_i b hp;rw [hp] at hX hn;simp only at hn;obtain⟨l,hl,hu⟩:=R_p hX;cases hN:AF h b with
   |none=>rw [hN] at hb;exact absurd rfl (hb .bad (fI.2 rfl))
   | some L=>
    rw [hN] at hn;simp only at hn;obtain⟨r,hrm,u',w',m',hrun,hF,hR⟩:=Bd (P:=P) (ty:=o.type) hr hl hN;have c4:(execOp a.eval o).run P w= .ok (.value u') w':=by
     simp only [fG] at hrun hu;simp [execOp,h1,hu,hrun,Result.andThen]
    rw [c4,yM,h2];rw [h2] at hd;exact hn _ _ (cL.2 ⟨r,hrm,rfl⟩) m' _ w' hF ((k.mono hF.le).set (cQ hd) hR)
  ·exact absurd rfl (hb .bad (fI.2 rfl))
def OM {r:Rs} (h1:Rs.ok e h∈L) (h2:r∈k e h):r∈L.flatMap (HO k):=
 tJ.2 ⟨_,h1,h2⟩
def Ix (h1:Rs.bad∈L):Rs.bad∈L.flatMap (HO k):=
 tJ.2 ⟨_,h1,fI.2 rfl⟩
def LF {n:Nat} {call:bR} (a3:eY P call) {ops:Array Oper} (a7:fN P n ops=true) {Q:Exit→Act→Wo→Prop}:
  ∀(l:List Oper) (i:Nat) (m:Mp) (e:Env) (a:Act) (h:H) (w:Wo),ops.toList.drop i=l→aY m n e a→Gl P m→HR m h w→
   (∀r∈(seqN P ops.toList l).run call e h,r≠ .bad)→
   (∀e' h',Rs.ok e' h'∈(seqN P ops.toList l).run call e h→∀m' a' w',Fr m h w m' h' w'→aY m' n e' a'→Q .normal a' w')→wpOps P ops Q (List.range' i l.length) a w
 | [],i,m,e,a,h,w,hl,k,hg,hr,hb,hn=>hn e h (fI.2 rfl) m a w (Fr.refl hr) k
 | o::l,i,m,e,a,h,w,hl,k,hg,hr,hb,hn=>by
  have hi:ops[i]?=some o:=by
   have:(ops.toList.drop i)[0]?=some o:=by rw [hl];rfl
   rw [jF] at this;simpa using this
  have c6:ops.toList.drop (i+1)=l:=by
   have:(ops.toList.drop i).drop 1=l:=by rw [hl];rfl
   rw [yV] at this;exact this
  simp only [eW,vM];rw [wpOps_cons];simp only [seqN] at hb hn;refine Ai a3 k hg hr a7 hi (fun r a4 e1=>hb .bad (Ix (e1▸a4)) rfl) ?_;intro e1 h1 c0 m1 a1 w1 b3 c1;exact LF a3 a7 l (i+1) m1 e1 a1 h1 w1 c6 c1 (hg.mono b3.le) b3.hr (fun r b1=>hb r (OM c0 b1))
   (fun e2 h2 c7 m2 a2 w2 c3 c2=>hn e2 h2 (OM c0 c7) m2 a2 w2 (b3.trans c3) c2)
def qF {k:Env→H→List CR} {L:List CR} {c r:CR} (h1:c∈L) (h2:r∈CJ k c):r∈L.flatMap (CJ k):=
 tJ.2 ⟨_,h1,h2⟩
def Gx (a3:eY P call) (b7:P.follows .mixedOrders=true):∀(c:Code),fX P n c=true→
  ∀(m:Mp) (e:Env) (a:Act) (h:H) (w:Wo) (Q:Exit→Act→Wo→Prop),aY m n e a→Gl P m→HR m h w→(∀r∈(iS P lf c).run call e h,CQ m h w n Q r)→c.wp P Q a w:=by
 intro c
 induction c with
 |skip=>intro hc m e a h w Q k hg hr hq;exact wp_skip (hq _ (fI.2 rfl) m a w (Fr.refl hr) k)
 |label l=>intro hc m e a h w Q k hg hr hq;exact wp_label (hq _ (fI.2 rfl) m a w (Fr.refl hr) k)
 |ret=>intro hc m e a h w Q k hg hr hq;exact wp_ret (hq _ (fI.2 rfl) m a w (Fr.refl hr) k)
 |exit id=>intro hc m e a h w Q k hg hr hq;exact wp_exit (hq _ (fI.2 rfl) m a w (Fr.refl hr) k)
 | seq x y ihx ihy=>
  intro hc m e a h w Q k hg hr hq;simp only [fX,aN] at hc;refine wp_seq (ihx hc.1 m e a h w _ k hg hr ?_);simp only [iS] at hq;intro r a4;cases r with
  |bad=>exact(hq .bad (qF a4 (fI.2 rfl))).elim
  |nrm e1 h1=>
   intro m' a' w' hF hE;exact ihy hc.2 m' e1 a' h1 w' Q hE (hg.mono hF.le) hF.hr (fun r2 b1=>(hq r2 (qF a4 b1)).of_fr hF)
  |ext i e1 h1=>exact hq _ (qF a4 (fI.2 rfl))
  |ret e1 h1=>exact hq _ (qF a4 (fI.2 rfl))
 | cond c x y ihx ihy=>
  intro hc m e a h w Q k hg hr hq;simp only [fX,aN] at hc;simp only [iS] at hq;have hC:=cV k hg hc.1;split at hq
  ·rename_i hb;rw [hb] at hC;simp only [R] at hC;exact wp_cond hC (ihx hc.2.1 m e a h w Q k hg hr hq)
  ·rename_i hb;rw [hb] at hC;simp only [R] at hC;exact wp_cond hC (ihy hc.2.2 m e a h w Q k hg hr hq)
  ·exact(hq .bad (fI.2 rfl)).elim
 | block id x ih=>
  intro hc m e a h w Q k hg hr hq;simp only [fX] at hc;simp only [iS] at hq;refine wp_block (ih hc m e a h w _ k hg hr ?_);intro r a4;have a8:=hq (blkC id r) (cL.2 ⟨r,a4,rfl⟩);cases r with
  |bad=>exact a8
  |nrm e1 h1=>exact a8
  |ret e1 h1=>exact a8
  |ext j e1 h1=>
   intro m' a' w' hF hE;show(if j=id then Q .normal a' w' else Q (.exit j) a' w');simp only [blkC] at a8;cases hj:Nat.beq j id with
   |true=>rw [hj] at a8;rw [if_pos (aT hj)];exact a8 m' a' w' hF hE
   |false=>rw [hj] at a8;rw [if_neg (VE hj)];exact a8 m' a' w' hF hE
 | loop x ih=>
  intro hc m e a h w Q k hg hr hq;simp only [fX] at hc;simp only [iS] at hq;refine wp_loop_rounds lf ?_;have key:∀(N:Nat) (m:Mp) (e:Env) (a:Act) (h:H) (w:Wo),aY m n e a→Gl P m→HR m h w→(∀r∈FK ((iS P lf x).run call) N e h,CQ m h w n Q r)→Code.rounds P x Q N a w:=by
   intro N
   induction N with
   |zero=>intro m e a h w k hg hr hq;exact(hq .bad (fI.2 rfl)).elim
   | succ N ihN=>
    intro m e a h w k hg hr hq;rw [rounds_succ];refine ih hc m e a h w _ k hg hr ?_;intro r a4;cases r with
    |bad=>exact(hq .bad (qF a4 (fI.2 rfl))).elim
    |nrm e1 h1=>
     intro m' a' w' hF hE;exact ihN m' e1 a' h1 w' hE (hg.mono hF.le) hF.hr (fun r2 b1=>(hq r2 (qF a4 b1)).of_fr hF)
    |ext i e1 h1=>exact hq _ (qF a4 (fI.2 rfl))
    |ret e1 h1=>exact hq _ (qF a4 (fI.2 rfl))
  exact key lf m e a h w k hg hr hq
 | region id ops d=>
  intro hc m e a h w Q k hg hr hq;cases d with
  | false=>
   simp only [fX] at hc;simp only [iS] at hq;refine wp_region ?_;have:=LF (Q:=Q) a3 hc ops.toList 0 m e a h w (by simp) k hg hr (fun r a4 e1=>by subst e1;exact hq .bad (cL.2 ⟨_,a4,rfl⟩))
    (fun e1 h1 hm=>hq (.nrm e1 h1) (cL.2 ⟨_,hm,rfl⟩))
   rw [VQ];simpa using this
  |true=>
   simp only [iS] at hq;exact xR a3 b7 _ hc m e a h w Q k hg hr (hq _ (fI.2 rfl))
 |_=>intro hc m e a h w Q k hg hr hq;simp only [iS] at hq;exact(hq .bad (fI.2 rfl)).elim
end
section
def jX (h:H):Nat→List V→Mem→List Id→Mem × List Id
 |0,_,M,ms=>(M,ms)
 |_+1,[],M,ms=>(M,ms)
 | n+1,v::l,M,ms=>match v with
  | .agg l0=>jX h n (l0++l) M ms
  | .tup l0=>jX h n (l0++l) M ms
  | .sl b _ _ _=>(match aB b M with
   |some _=>jX h n l M ms
   |none=>match aB b h.mem with
    |some (.cells sz els f _)=>jX h n (els.flatten++l) (dU b (some (.cells sz els f .fz)) M) ms
    |_=>jX h n l M ms)
  | .mp b=>(match aB b M with
   |some _=>jX h n l M ms
   |none=>match aB b h.mem with
    |some (.map es c)=>jX h n (es.map (·.key)++(es.map (·.val)++l)) (dU b (some (.map es c)) M) (b::ms)
    |_=>jX h n l M ms)
  |_=>jX h n l M ms
def kG (b:Id):List (Id × Id)→Option Id
 | []=>none
 |(a,c)::l=>bif Id.beq a b then some c else kG b l
def rho (lim:Nat) (pr:List (Id × Id)) (b:Id):Option Id:=bif Nat.ble (Nat.succ b.toNat) lim then some b else kG b pr
mutual
def bV (ρ:Id→Option Id):V→Option V
 | .sl b o l z=>(match ρ b with|some c=>some (.sl c o l z)|none=>none)
 | .agg l=>(match renL ρ l with|some l'=>some (.agg l')|none=>none)
 | .tup l=>(match renL ρ l with|some l'=>some (.tup l')|none=>none)
 | .b x=>some (.b x)
 | .i k n=>some (.i k n)
 | .s l c=>some (.s l c)
 | .pn=>some .pn
 | .sn=>some .sn
 | .se=>some .se
 | .mn=>some .mn
 | .nf=>some .nf
 | .ni=>some .ni
 | .top=>none
 | .p _ _=>none
 | .mp _=>none
 | .fn _ _ _=>none
def renL (ρ:Id→Option Id):List V→Option (List V)
 | []=>some []
 |v::l=>(match bV ρ v,renL ρ l with|some v',some l'=>some (v'::l')|_,_=>none)
end
def fB (ρ:Id→Option Id):List (List V)→Option (List (List V))
 | []=>some []
 |v::l=>(match renL ρ v,fB ρ l with|some v',some l'=>some (v'::l')|_,_=>none)
def iC:Nat→Id→Option (List Id × Id)
 |0,i=>some ([],i)
 |n+1,i=>(match i.succ with
  |some j=>(match iC n j with|some (l,k)=>some (i::l,k)|none=>none)
  |none=>none)
def lQ (hp:H) (lim:Nat):Nat→List V→List Id→List Id
 |0,_,acc=>acc
 |_+1,[],acc=>acc
 | n+1,v::l,acc=>match v with
  | .agg l0=>lQ hp lim n (l0++l) acc
  | .tup l0=>lQ hp lim n (l0++l) acc
  | .sl b _ _ _=>bif Nat.ble (Nat.succ b.toNat) lim||qG b acc then lQ hp lim n l acc else(match aB b hp.mem with
   |some (.cells _ els _ _)=>lQ hp lim n (els.flatten++l) (acc++ [b])
   |_=>lQ hp lim n l acc)
  |_=>lQ hp lim n l acc
def kE:List Id→Bool
 | []=>true
 |a::l=>!qG a l&&kE l
abbrev Ob:=Nat × Nat × List (List V)
def lZ (hp:H) (ρ:Id→Option Id):List Id→Option (List Id × List Ob)
 | []=>some ([],[])
 | b::l=>(match aB b hp.mem with
  |some (.cells sz els f (.rw ty))=>(match fB ρ els,lZ hp ρ l with
   |some els',some (fs,obs)=>some (f::fs,(sz,ty,els')::obs)
   |_,_=>none)
  |_=>none)
def nT (lim fuel:Nat) (nw:List Id) (hp:H) (v:V):Option (V × List Ob):=
 match lQ hp lim fuel [v] [] with
 | olds=>bif Nat.beq (lenL' olds) (lenL' nw)&&kE olds then
   (match bV (rho lim (olds.zip nw)) v,lZ hp (rho lim (olds.zip nw)) olds with
    |some v',some (fs,obs)=>bif kE fs then some (v',obs) else none
    |_,_=>none)
   else none
where lenL' (l:List Id):Nat:=l.length
def uZ:List Ob→List Ob→Bool
 | [],[]=>true
 |(n,t,a)::l,(n',t',b)::r=>Nat.beq n n'&&(Nat.beq t t'&&(sR a b&&uZ l r))
 |_,_=>false
def BZ (x y:V × List Ob):Bool:=V.beq x.1 y.1&&uZ x.2 y.2
def tU:List Ent→List Ent→Bool
 | [],[]=>true
 |a::l,b::r=>V.beq a.key b.key&&(V.beq a.val b.val&&(Nat.beq a.born b.born&&tU l r))
 |_,_=>false
def zX (lim:Nat) (v:V):Bool:=match bV (rho lim []) v with|some v'=>V.beq v' v|none=>false
def wQ (lim:Nat):List Ent→Bool
 | []=>true
 |e::l=>zX lim e.key&&(zX lim e.val&&wQ lim l)
def wT (lim:Nat) (h hp:H):List Id→Bool
 | []=>true
 |b::l=>(match aB b h.mem,aB b hp.mem with
  |some (.map es c),some (.map es' c')=>tU es es'&&(Nat.beq c c'&&wQ lim es)
  |_,_=>false)&&wT lim h hp l
def iM:List Id→List Ob→Mem→Mem
 |b::nw,(sz,ty,els)::obs,M=>dU b (some (.cells sz els b (.rw ty))) (iM nw obs M)
 |_,_,M=>M
variable (P:Program)
def uJ (fn:Func):CR→VH
 | .ret e h=>qK P fn.results.toList e h
 | .nrm e h=>qK P fn.results.toList e h
 |_=>.bad
def EO (fn:Func) (lim fuel:Nat) (nw:List Id) (cn:V × List Ob) (h:H) (ms:List Id) (r:CR):Bool:=
 match uJ P fn r with
 | .ok v hp=>wT lim h hp ms&&(match nT lim fuel nw hp v with|some c=>BZ c cn|none=>false)
 | .bad=>false
def yE (p:CR→Bool):List CR→Bool
 | []=>true
 |r::l=>p r&&yE p l
def ndB (lf fuel:Nat) (fn:Func) (c:Code):FOp:=⟨fun call args h=>eE (Nat.ble (eJ args) fn.ntmps)
  (match jX h fuel args Mem.new [] with
  | (M,ms)=>match (iS P lf c).run call (mB 0 args Env.new) ⟨M,h.fams,h.next⟩ with
   | []=>.bad
   | r::rs=>match uJ P fn r with
    | .bad=>.bad
    | .ok v1 h1=>match iC (lQ h1 h.next.toNat fuel [v1] []).length h.next with
     |none=>.bad
     |some (nw,nx)=>match nT h.next.toNat fuel nw h1 v1 with
      |none=>.bad
      |some cn=>bif yE (EO P fn h.next.toNat fuel nw cn h ms) (r::rs) then .ok cn.1 ⟨iM nw cn.2 h.mem,h.fams,nx⟩ else .bad) .bad⟩
def ndF (lf fuel f:Nat):FOp:=
 match P.funcs[f]? with
 |none=>nV
 |some fn=>match fn.body with
  |none=>nV
  |some c=>ndB P lf fuel fn c
end
section
variable {P:Program} {m:Mp} {w:Wo}
def SubOf (h:H) (M:Mem) (ms:List Id):Prop:=∀b ob,aB b M=some ob→
 (∃sz els f ro,ob= .cells sz els f .fz∧aB b h.mem=some (.cells sz els f ro))∨(∃es c,ob= .map es c∧aB b h.mem=some (.map es c)∧b∈ms)
def LH {α:Type} (d:D8) (x:α):gR d (N8.all x)=x:=by cases d<;>rfl
def AJ (b:Id):aB b Mem.new=none:=by
 obtain⟨a,b,c,d,e⟩:=b;simp [aB,Mem.new,LH]
def SubOf.put (k:SubOf h M ms) {b:Id} {sz:Nat} {els:List (List V)} {f:Id} {ro:Rw} (hb:aB b h.mem=some (.cells sz els f ro)):SubOf h (dU b (some (.cells sz els f .fz)) M) ms:=by
 intro b1 ob h1
 by_cases e:b1=b
 ·subst e;rw [gK] at h1;cases h1;exact .inl ⟨_,_,_,_,rfl,hb⟩
 ·rw [eX e] at h1;exact k b1 ob h1
def SubOf.putM (k:SubOf h M ms) {b:Id} {es:List Ent} {c:Nat} (hb:aB b h.mem=some (.map es c)):SubOf h (dU b (some (.map es c)) M) (b::ms):=by
 intro b1 ob h1
 by_cases e:b1=b
 ·subst e;rw [gK] at h1;cases h1;exact .inr ⟨_,_,rfl,hb,vN⟩
 ·rw [eX e] at h1;rcases k b1 ob h1 with h2|⟨b5,c1,h2,h3,h4⟩
  ·exact .inl h2
  ·exact .inr ⟨b5,c1,h2,h3,rJ _ h4⟩
def nF {h:H}:∀(n:Nat) (l:List V) (M:Mem) (ms:List Id),SubOf h M ms→SubOf h (jX h n l M ms).1 (jX h n l M ms).2
 |0,_,M,ms,k=>k
 |_+1,[],M,ms,k=>k
 | n +1,v::l,M,ms,k=>by
  unfold jX;split
  ·exact nF n _ M ms k
  ·exact nF n _ M ms k
  ·rename_i b _ _ _;split
   ·exact nF n _ M ms k
   ·split
    ·rename_i h1;exact nF n _ _ ms (k.put h1)
    ·exact nF n _ M ms k
  ·rename_i b;split
   ·exact nF n _ M ms k
   ·split
    ·rename_i h1;exact nF n _ _ _ (k.putM h1)
    ·exact nF n _ M ms k
  ·exact nF n _ M ms k
def HR.subOf (k:HR m h w) (s:SubOf h M ms):HR m ⟨M,h.fams,h.next⟩ w:=by
 have cellsOf:∀b sz els f ro,aB b M=some (.cells sz els f ro)→ro= .fz∧∃ro',aB b h.mem=some (.cells sz els f ro'):=by
  intro b sz els f ro hb;rcases s b _ hb with⟨sz1,els1,f1,ro1,e,h1⟩|⟨es,c,e,_⟩
  ·cases e;exact⟨rfl,ro1,h1⟩
  ·cases e
 refine⟨?_,k.dom,?_,?_,?_,k.lt,?_,k.flt⟩
 ·intro b ob hb;rcases s b ob hb with⟨sz1,els1,f1,ro1,rfl,h1⟩|⟨es,c,rfl,h1,_⟩
  ·obtain⟨l,hl,C,t,fz,hc⟩:=k.obj b _ h1;exact⟨l,hl,C,t,fz,⟨hc.at_,hc.room,hc.len,hc.each,hc.val,(fun e=>by cases e),(fun e=>by cases e),(fun ty e=>by cases e),hc.al⟩⟩
  ·exact k.obj b _ h1
 ·intro b b' ob b8 l l' hb b4 hl b3 a0 b2;rcases s b ob hb with⟨sz1,els1,f1,ro1,rfl,h1⟩|⟨es,c,rfl,h1,_⟩<;>rcases s b' b8 b4 with⟨sz2,els2,f2,ro2,rfl,h2⟩|⟨es2,c2,rfl,h2,_⟩
  ·exact(k.sep b b' _ _ l l' h1 h2 hl b3 a0 b2:wC (.cells sz1 els1 f1 ro1) (.cells sz2 els2 f2 ro2))
  ·exact(k.sep b b' _ _ l l' h1 h2 hl b3 a0 b2:wC (.cells sz1 els1 f1 ro1) (.map es2 c2))
  ·exact(k.sep b b' _ _ l l' h1 h2 hl b3 a0 b2:wC (.map es c) (.cells sz2 els2 f2 ro2))
  ·exact k.sep b b' _ _ l l' h1 h2 hl b3 a0 b2
 ·intro b b' sz els f ro b9 els' ro' hb b4 a0;obtain⟨_,r1,h1⟩:=cellsOf _ _ _ _ _ hb;obtain⟨_,r2,h2⟩:=cellsOf _ _ _ _ _ b4;exact k.fam b b' _ _ _ _ _ _ _ h1 h2 a0
 ·intro f;refine(k.ord f).imp ?_;intro x y b7 sz els f1 ro b9 els' f2 ro' l1 l2 hx hy;obtain⟨_,r1,h1⟩:=cellsOf _ _ _ _ _ hx;obtain⟨_,r2,h2⟩:=cellsOf _ _ _ _ _ hy;exact b7 _ _ _ _ _ _ _ _ l1 l2 h1 h2
 ·intro b sz els f ro hb;obtain⟨_,r1,h1⟩:=cellsOf _ _ _ _ _ hb;exact k.famlt b _ _ _ _ h1
mutual
theorem wG {ρ:Id→Option Id} {mp mc:Mp} (hρ:∀b c l,ρ b=some c→mp b=some l→mc c=some l):∀{v v':V} {u:Value},bV ρ v=some v'→R mp v u→R mc v' u
 | .top,_,_,h,_=>by simp [bV] at h
 | .b x,_,_,h,k=>by simp only [bV,cJ] at h;subst h;simpa [R] using k
 | .i _ _,_,_,h,k=>by simp only [bV,cJ] at h;subst h;simpa [R] using k
 | .s _ _,_,_,h,k=>by simp only [bV,cJ] at h;subst h;simpa [R] using k
 | .pn,_,_,h,k=>by simp only [bV,cJ] at h;subst h;simpa [R] using k
 | .p _ _,_,_,h,_=>by simp [bV] at h
 | .sn,_,_,h,k=>by simp only [bV,cJ] at h;subst h;simpa [R] using k
 | .sl b o len sz,_,_,h,k=>by
  simp only [bV] at h;cases hb:ρ b with
  |none=>rw [hb] at h;cases h
  |some c=>
   rw [hb] at h;cases h;simp only [R] at k ⊢;obtain⟨l,cap,hl,hu⟩:=k;exact⟨l,cap,hρ _ _ _ hb hl,hu⟩
 | .se,_,_,h,k=>by simp only [bV,cJ] at h;subst h;simpa [R] using k
 | .mn,_,_,h,k=>by simp only [bV,cJ] at h;subst h;simpa [R] using k
 | .mp _,_,_,h,_=>by simp [bV] at h
 | .fn _ _ _,_,_,h,_=>by simp [bV] at h
 | .nf,_,_,h,k=>by simp only [bV,cJ] at h;subst h;simpa [R] using k
 | .ni,_,_,h,k=>by simp only [bV,cJ] at h;subst h;simpa [R] using k
 | .agg l,_,_,h,k=>by
  simp only [bV] at h;cases hl:renL ρ l with
  |none=>rw [hl] at h;cases h
  |some l'=>
   rw [hl] at h;cases h;simp only [R] at k ⊢;obtain⟨us,hu,hR,hs⟩:=k;exact⟨us,hu,zR hρ hl hR,hs⟩
 | .tup l,_,_,h,k=>by
  simp only [bV] at h;cases hl:renL ρ l with
  |none=>rw [hl] at h;cases h
  |some l'=>
   rw [hl] at h;cases h;simp only [R] at k ⊢;obtain⟨us,hu,hR⟩:=k;exact⟨us,hu,zR hρ hl hR⟩
theorem zR {ρ:Id→Option Id} {mp mc:Mp} (hρ:∀b c l,ρ b=some c→mp b=some l→mc c=some l):∀{l l':List V} {us:Lv},renL ρ l=some l'→Rl mp l us→Rl mc l' us
 | [],_,_,h,k=>by simp only [renL,cJ] at h;subst h;simpa [Rl] using k
 | v::l,_,_,h,k=>by
  simp only [renL] at h;cases hv:bV ρ v with
  |none=>rw [hv] at h;cases h
  | some v'=>
   cases hl:renL ρ l with
   |none=>rw [hv,hl] at h;cases h
   |some l'=>
    rw [hv,hl] at h;cases h;simp only [Rl] at k ⊢;obtain⟨u,us,rfl,h1,h2⟩:=k;exact⟨u,us,rfl,wG hρ hv h1,zR hρ hl h2⟩
end
def ED {ρ:Id→Option Id}:∀{l l':List V},renL ρ l=some l'→l'.length=l.length
 | [],_,h=>by simp only [renL,cJ] at h;subst h;rfl
 | v::l,_,h=>by
  simp only [renL] at h;cases hv:bV ρ v with
  |none=>rw [hv] at h;cases h
  |some v'=>
   cases hl:renL ρ l with
   |none=>rw [hv,hl] at h;cases h
   |some l'=>rw [hv,hl] at h;cases h;simp [ED hl]
def MP {ρ:Id→Option Id}:∀{a a' b b':List V},renL ρ a=some a'→renL ρ b=some b'→renL ρ (a++b)=some (a'++b')
 | [],_,_,_,h,k=>by simp only [renL,cJ] at h;subst h;simpa using k
 | v::l,_,_,_,h,k=>by
  simp only [renL] at h;cases hv:bV ρ v with
  |none=>rw [hv] at h;cases h
  |some v'=>
   cases hl:renL ρ l with
   |none=>rw [hv,hl] at h;cases h
   |some l'=>rw [hv,hl] at h;cases h;simp only [mW,renL,hv,MP hl k]
def MQ {ρ:Id→Option Id}:∀{l l':List (List V)},fB ρ l=some l'→renL ρ l.flatten=some l'.flatten
 | [],_,h=>by simp only [fB,cJ] at h;subst h;rfl
 | v::l,_,h=>by
  simp only [fB] at h;cases hv:renL ρ v with
  |none=>rw [hv] at h;cases h
  |some v'=>
   cases hl:fB ρ l with
   |none=>rw [hv,hl] at h;cases h
   |some l'=>rw [hv,hl] at h;cases h;simp only [jT];exact MP hv (MQ hl)
def MR {ρ:Id→Option Id} {n:Nat}:∀{l l':List (List V)},fB ρ l=some l'→(∀el∈l,el.length=n)→∀el∈l',el.length=n
 | [],_,h,_=>by simp only [fB,cJ] at h;subst h;intro el b0;cases b0
 | v::l,_,h,k=>by
  simp only [fB] at h;cases hv:renL ρ v with
  |none=>rw [hv] at h;cases h
  | some v'=>
   cases hl:fB ρ l with
   |none=>rw [hv,hl] at h;cases h
   |some l'=>
    rw [hv,hl] at h;cases h;intro el b0;rcases cM.1 b0 with rfl|b0
    ·rw [ED hv];exact k v vN
    ·exact MR hl (fun el h1=>k el (rJ _ h1)) el b0
def MN {ρ:Id→Option Id}:∀{l l':List V},renL ρ l=some l'→∀{i:Nat} {v':V},l'[i]?=some v'→∃v,l[i]?=some v∧bV ρ v=some v'
 | [],_,h,i,v',k=>by simp only [renL,cJ] at h;subst h;simp at k
 | v::l,_,h,i,v',k=>by
  simp only [renL] at h;cases hv:bV ρ v with
  |none=>rw [hv] at h;cases h
  | some v1=>
   cases hl:renL ρ l with
   |none=>rw [hv,hl] at h;cases h
   |some l1=>
    rw [hv,hl] at h;cases h;cases i with
    |zero=>simp at k;subst k;exact⟨v,rfl,hv⟩
    |succ i=>simp at k;obtain⟨x,h1,h2⟩:=MN hl k;exact⟨x,by simpa using h1,h2⟩
def CellsAt.ren {ρ:Id→Option Id} (hρ:∀b c l,ρ b=some c→mp b=some l→mc c=some l) {l:Loc} {sz:Nat} {els els':List (List V)} {ro:Rw} {C:Array Value} {t:TypeId} {fz:Nat × Nat}
  (hr:fB ρ els=some els') (hc:CellsAt mp w l sz els ro C t fz):CellsAt mc w l sz els' ro C t fz:=by
 have hf:=MQ hr;refine⟨hc.at_,hc.room,by rw [ED hf];exact hc.len,MR hr hc.each,?_,hc.free,hc.plain,hc.typ,hc.al⟩;intro i v' b6;obtain⟨v,h1,h2⟩:=MN hf b6;obtain⟨u,h3,h4,h5⟩:=hc.val i v h1;exact⟨u,h3,wG hρ h2 h4,h5⟩
def sC:∀{n:Nat} {i:Id} {l:List Id} {k:Id},iC n i=some (l,k)→l.length=n∧k.toNat=i.toNat+n∧∀(j:Nat) b,l[j]?=some b→b.toNat=i.toNat+j
 |0,i,l,k,h=>by simp only [iC,cJ,CY] at h;obtain⟨rfl,rfl⟩:=h;exact⟨rfl,rfl,fun j b hb=>by simp at hb⟩
 | n+1,i,l,k,h=>by
  simp only [iC] at h;cases hs:i.succ with
  |none=>rw [hs] at h;cases h
  | some j=>
   rw [hs] at h;simp only at h;cases hn:iC n j with
   |none=>rw [hn] at h;cases h
   |some x=>
    obtain⟨l1,k1⟩:=x;rw [hn] at h;cases h;obtain⟨h1,h2,h3⟩:=sC hn;have:=Id.succ_toNat hs;refine⟨by simp [h1],by omega,?_⟩;intro q b hb;cases q with
    |zero=>simp at hb;subst hb;rfl
    |succ q=>simp at hb;have:=h3 q b hb;omega
def wV {i:Id} {l:List Id} {k:Id} (h:iC n i=some (l,k)) {j j':Nat} {b:Id} (h1:l[j]?=some b) (h2:l[j']?=some b):j=j':=by
 obtain⟨_,_,h3⟩:=sC h;have:=h3 _ _ h1;have:=h3 _ _ h2;omega
def OU {b c:Id}:∀{l:List (Id × Id)},kG b l=some c→(b,c)∈l
 | [],h=>by simp [kG] at h
 |(a,d)::l,h=>by
  simp only [kG] at h;cases hb:Id.beq a b with
  |true=>rw [hb] at h;simp only [cS,cJ] at h;subst h;rw [Id.beq_iff.1 hb];exact vN
  |false=>rw [hb] at h;exact rJ _ (OU h)
def oX {c:Id} {x:List Id} (h:kG b (x.zip y)=some c):∃j:Nat,x[j]?=some b∧y[j]?=some c:=by
 obtain⟨j,hj⟩:=pP.1 (OU h);refine⟨j,?_⟩;rw [List.getElem?_zip_eq_some] at hj;exact hj
def AR {x:List Id}:∀{j:Nat} {b c:Id},(∀(j j':Nat) (b:Id),x[j]?=some b→x[j']?=some b→j=j')→x[j]?=some b→y[j]?=some c→kG b (x.zip y)=some c:=by
 induction x generalizing y with
 |nil=>intro j b c _ h _;simp at h
 | cons a x ih=>
  intro j b c hn h k;cases y with
  |nil=>simp at k
  | cons d y=>
   simp only [Kj,kG];cases j with
   |zero=>simp at h k;subst h;subst k;rw [Id.beq_iff.2 rfl];rfl
   | succ j=>
    simp at h k;have a0:Id.beq a b=false:=by
     cases e:Id.beq a b with
     |false=>rfl
     |true=>
      have:=Id.beq_iff.1 e;subst this;have:=hn 0 (j+1) a (by simp) (by simpa using h);omega
    rw [a0];exact ih (fun j j' b h1 h2=>by have:=hn (j+1) (j'+1) b (by simpa using h1) (by simpa using h2);omega) h k
def FM {x:List Id} (h:b∉x):kG b (x.zip y)=none:=by
 cases e:kG b (x.zip y) with
 |none=>rfl
 |some c=>obtain⟨j,h1,_⟩:=oX e;exact absurd (aV h1) h
def uF:∀{l:List Id},kE l=true→∀(j j':Nat) (b:Id),l[j]?=some b→l[j']?=some b→j=j'
 | [],_,j,j',b,h,_=>by simp at h
 | a::l,hn,j,j',b,h,k=>by
  simp only [kE,aN,JO] at hn;have hm:∀q,l[q]?=some a→False:=fun q hq=>by rw [(AM a l).2 (aV hq)] at hn;cases hn.1
  cases j with
  |zero=>
   cases j' with
   |zero=>rfl
   |succ j'=>simp at h k;subst h;exact(hm _ k).elim
  |succ j=>
   cases j' with
   |zero=>simp at h k;subst k;exact(hm _ h).elim
   |succ j'=>simp at h k;rw [uF hn.2 j j' b h k]
def NC:∀{nw:List Id} {obs:List Ob} {M:Mem} {b:Id} {ob:O},aB b (iM nw obs M)=some ob→
  (aB b M=some ob)∨∃(j sz ty:Nat) (els:List (List V)),nw[j]?=some b∧obs[j]?=some (sz,ty,els)∧ob= .cells sz els b (.rw ty)
 | [],obs,M,b,ob,h=>by simp only [iM] at h;exact .inl h
 |a::nw,[],M,b,ob,h=>by simp only [iM] at h;exact .inl h
 | a::nw,(sz,ty,els)::obs,M,b,ob,h=>by
  simp only [iM] at h
  by_cases e:b=a
  ·subst e;rw [gK] at h;cases h;exact .inr ⟨0,sz,ty,els,rfl,rfl,rfl⟩
  ·rw [eX e] at h;rcases NC h with h1|⟨j,sz,ty,els,h1,h2,h3⟩
   ·exact .inl h1
   ·exact .inr ⟨j+1,sz,ty,els,by simpa using h1,by simpa using h2,h3⟩
def EG:∀{nw:List Id} {obs:List Ob} {M:Mem} {b:Id},b∉nw→aB b (iM nw obs M)=aB b M
 | [],obs,M,b,h=>by simp [iM]
 |a::nw,[],M,b,h=>by simp [iM]
 |a::nw,(sz,ty,els)::obs,M,b,h=>by
  simp only [iM];rw [eX (fun e=>h (by rw [e];exact vN)),EG (fun e=>h (rJ _ e))]
def zO {hp:H} {ρ:Id→Option Id}:∀{l fs:List Id} {obs:List Ob},lZ hp ρ l=some (fs,obs)→fs.length=l.length∧obs.length=l.length∧
  ∀(j:Nat) b,l[j]?=some b→∃sz els f ty els',aB b hp.mem=some (.cells sz els f (.rw ty))∧fB ρ els=some els'∧fs[j]?=some f∧obs[j]?=some (sz,ty,els')
 | [],_,_,h=>by simp only [lZ,cJ,CY] at h;obtain⟨rfl,rfl⟩:=h;exact⟨rfl,rfl,fun j b hb=>by simp at hb⟩
 | a::l,_,_,h=>by
  simp only [lZ] at h;split at h
  ·rename_i sz els f ty hb;split at h
   ·rename_i els' fs obs h1 h2;cases h;obtain⟨k1,k2,k3⟩:=zO h2;refine⟨by simp [k1],by simp [k2],?_⟩;intro j b hj;cases j with
    |zero=>simp at hj;subst hj;exact⟨sz,els,f,ty,els',hb,h1,rfl,rfl⟩
    |succ j=>simp at hj;obtain⟨a1,a2,a3,a4,a5,a6,a7,a8,a9⟩:=k3 j b hj;exact⟨a1,a2,a3,a4,a5,a6,a7,by simpa using a8,by simpa using a9⟩
   ·cases h
  ·cases h
end
section
variable {P:Program}
def fV (nw olds:List Id) (mp m:Mp):Mp:=fun i=>match kG i (nw.zip olds) with|some b=>mp b|none=>m i
def SX {b9:H} (k:HR m h w) (c0:HR mp b9 w') (b2:w.heap.size≤w'.heap.size)
  (a8:∀B,B<w.heap.size→¬Wb m h B→w'.heap[B]?=w.heap[B]?) (d5:w'.os=w.os) (d7:w'.tape=w.tape) (d6:w'.output=w.output)
  {n:Nat} {nw:List Id} {nx:Id} {olds fs:List Id} {obs:List Ob} {ρ:Id→Option Id} (hid:iC n h.next=some (nw,nx)) (a9:olds.length=nw.length)
  (d4:∀(j j':Nat) (b:Id),olds[j]?=some b→olds[j']?=some b→j=j') (b7:lZ b9 ρ olds=some (fs,obs)) (d2:kE fs=true)
  (hρ:∀b c l,ρ b=some c→mp b=some l→fV nw olds mp m c=some l)
  (a7:∀(j:Nat) b l,olds[j]?=some b→mp b=some l→w.heap.size≤l.blk)
  (b8:∀b ob l,aB b h.mem=some ob→m b=some l→ObjAt (fV nw olds mp m) w' l ob):
  Fr m h w (fV nw olds mp m) ⟨iM nw obs h.mem,h.fams,nx⟩ w':=by
 obtain⟨i1,i2,i3⟩:=sC hid;have inj:=fun {j j':Nat} {b:Id}=>wV (j:=j) (j':=j') (b:=b) hid
 obtain⟨r1,r2,r3⟩:=zO b7;have a6:∀b,b∈nw→h.next.toNat≤b.toNat:=by
  intro b hb;obtain⟨j,hj⟩:=pP.1 hb;have:=i3 j b hj;omega
 have c5:∀b,b∈nw→b.toNat<nx.toNat:=by
  intro b hb;obtain⟨j,hj⟩:=pP.1 hb;have:=i3 j b hj;have:=(aM.1 hj).1;omega
 have F0:∀i,i∉nw→fV nw olds mp m i=m i:=by
  intro i hi;unfold fV;rw [FM hi]
 have F1:∀i,i.toNat<h.next.toNat→fV nw olds mp m i=m i:=fun i hi=>F0 i (fun hm=>by have:=a6 i hm;omega)
 have F2:∀(j:Nat) c b,nw[j]?=some c→olds[j]?=some b→fV nw olds mp m c=mp b:=by
  intro j c b h1 h2;unfold fV;rw [AR (fun j j' b a1 a2=>inj a1 a2) h1 h2]
 have F3:∀i l,fV nw olds mp m i=some l→(i∉nw∧m i=some l)∨∃(j:Nat) (b:Id),nw[j]?=some i∧olds[j]?=some b∧mp b=some l:=by
  intro i l hi
  by_cases hm:i∈nw
  ·obtain⟨j,hj⟩:=pP.1 hm;have b5:j<olds.length:=by rw [a9];exact(aM.1 hj).1
   have hb:=bM b5;exact .inr ⟨j,_,hj,hb,by rw [←F2 j i _ hj hb];exact hi⟩
  ·rw [F0 i hm] at hi;exact .inl ⟨hm,hi⟩
 have d3:m.le (fV nw olds mp m):=fun b l hb=>by rw [F1 b (k.dom b l hb)];exact hb
 have G:∀b ob,aB b (iM nw obs h.mem)=some ob→(aB b h.mem=some ob∧b∉nw∧b.toNat<h.next.toNat)∨
   ∃(j sz ty:Nat) (els a0:List (List V)) (b0 f0:Id),nw[j]?=some b∧olds[j]?=some b0∧ob= .cells sz els b (.rw ty)∧aB b0 b9.mem=some (.cells sz a0 f0 (.rw ty))∧fB ρ a0=some els∧fs[j]?=some f0:=by
  intro b ob hb;rcases NC hb with h1|⟨j,sz,ty,els,h1,h2,h3⟩
  ·obtain⟨l,hl,_⟩:=k.obj b ob h1;have:=k.dom b l hl;exact .inl ⟨h1,fun hm=>by have:=a6 b hm;omega,this⟩
  ·have b5:j<olds.length:=by rw [a9];exact(aM.1 h1).1
   have c1:=bM b5;obtain⟨sz1,els1,f1,ty1,els1',a1,a2,a3,a4⟩:=r3 j _ c1;rw [h2] at a4;cases a4;exact .inr ⟨j,sz,ty,els,els1,_,f1,h1,c1,h3,a1,a2,a3⟩
 have c9:∀b ob l,aB b h.mem=some ob→b∉nw→fV nw olds mp m b=some l→m b=some l:=fun b ob l _ hn hl=>by rw [F0 b hn] at hl;exact hl
 refine⟨d3,⟨?_,?_,?_,?_,?_,?_,?_,?_⟩,b2,a8,d5,d7,d6,?_,?_,?_,?_⟩
 ·intro b ob hb;rcases G b ob hb with⟨h1,h2,h3⟩|⟨j,sz,ty,els,a0,b0,f0,h1,h2,h3,h4,h5,h6⟩
  ·obtain⟨l,hl,_⟩:=k.obj b ob h1;exact⟨l,by rw [F0 b h2];exact hl,b8 b ob l h1 hl⟩
  ·obtain⟨l,hl,C,t,fz,hc⟩:=c0.obj b0 _ h4;subst h3;exact⟨l,by rw [F2 j b b0 h1 h2];exact hl,C,t,fz,hc.ren hρ h5⟩
 ·intro b l hb;show b.toNat<nx.toNat;rcases F3 b l hb with⟨_,h2⟩|⟨j,b0,h1,_,_⟩
  ·have:=k.dom b l h2;omega
  ·exact c5 b (aV h1)
 ·intro b b' ob c8 l l' hb b4 hl a5 b1 b3;rcases G b ob hb with⟨h1,h2,h3⟩|⟨j,sz,ty,els,a0,b0,f0,h1,h2,h3,h4,h5,h6⟩<;>
  rcases G b' c8 b4 with⟨g1,g2,g3⟩|⟨j',d0,ty',els',els0',b0',f0',g1,g2,g3,g4,g5,g6⟩
  ·rw [F0 b h2] at hl;rw [F0 b' g2] at a5;exact k.sep b b' ob c8 l l' h1 g1 hl a5 b1 b3
  ·rw [F0 b h2] at hl;rw [F2 j' b' b0' g1 g2] at a5;have:=k.lt b l hl;have:=a7 j' b0' l' g2 a5;omega
  ·rw [F2 j b b0 h1 h2] at hl;rw [F0 b' g2] at a5;have:=k.lt b' l' a5;have:=a7 j b0 l h2 hl;omega
  ·rw [F2 j b b0 h1 h2] at hl;rw [F2 j' b' b0' g1 g2] at a5;have c2:j≠j':=fun e=>by subst e;rw [h1] at g1;cases g1;exact b1 rfl
   have d1:b0≠b0':=fun e=>by subst e;exact c2 (d4 j j' b0 h2 g2)
   have hs:=c0.sep b0 b0' _ _ l l' h4 g4 hl a5 d1 b3;have hs:f0=f0':=hs;subst hs;exact(c2 (uF d2 j j' f0 h6 g6)).elim
 ·intro b b' sz els f ro d0 els' ro' hb b4 b1;rcases G b _ hb with⟨h1,h2,h3⟩|⟨j,sz1,ty,els1,a0,b0,f0,h1,h2,h3,h4,h5,h6⟩<;>
  rcases G b' _ b4 with⟨g1,g2,g3⟩|⟨j',sz1',ty',els1',els0',b0',f0',g1,g2,g3,g4,g5,g6⟩
  ·exact k.fam b b' _ _ _ _ _ _ _ h1 g1 b1
  ·cases g3;have:=k.famlt b _ _ _ _ h1;have:=a6 b' (aV g1);omega
  ·cases h3;have:=k.famlt b' _ _ _ _ g1;have:=a6 b (aV h1);omega
  ·cases h3;cases g3;exact(b1 rfl).elim
 ·intro f;refine List.Pairwise.imp_of_mem ?_ (k.ord f);intro x y hx hy d8 sz els f1 ro d0 els' f2 ro' l1 l2 h1 h2 c3 c4 b3;have lx:=k.flt f x hx;have ly:=k.flt f y hy;have c6:x∉nw:=fun hm=>by have:=a6 x hm;omega
  have c7:y∉nw:=fun hm=>by have:=a6 y hm;omega
  rw [show aB x (iM nw obs h.mem)=aB x h.mem from EG c6] at h1;rw [show aB y (iM nw obs h.mem)=aB y h.mem from EG c7] at h2;rw [F0 x c6] at c3;rw [F0 y c7] at c4;exact d8 _ _ _ _ _ _ _ _ _ _ h1 h2 c3 c4 b3
 ·intro b l hb;rcases F3 b l hb with⟨_,h2⟩|⟨j,b0,h1,h2,h3⟩
  ·have:=k.lt b l h2;omega
  ·exact c0.lt b0 l h3
 ·intro b sz els f ro hb;show f.toNat<nx.toNat;rcases G b _ hb with⟨h1,h2,h3⟩|⟨j,sz1,ty,els1,a0,b0,f0,h1,h2,h3,h4,h5,h6⟩
  ·have:=k.famlt b _ _ _ _ h1;omega
  ·cases h3;exact c5 b (aV h1)
 ·intro f x hx;show x.toNat<nx.toNat;have:=k.flt f x hx;omega
 ·intro b ob l hb hl;rcases G b ob hb with⟨h1,h2,h3⟩|⟨j,sz1,ty,els1,a0,b0,f0,h1,h2,h3,h4,h5,h6⟩
  ·rw [F0 b h2] at hl;exact .inr ⟨b,ob,l,h1,hl,rfl,id⟩
  ·rw [F2 j b b0 h1 h2] at hl;exact .inl (a7 j b0 l h2 hl)
 ·intro b l hb b6;rw [F1 b b6] at hb;exact hb
 ·show h.next.toNat≤nx.toNat;omega
 ·intro b sz els f ro hb;rcases G b _ hb with⟨h1,h2,h3⟩|⟨j,sz1,ty,els1,a0,b0,f0,h1,h2,h3,h4,h5,h6⟩
  ·exact .inr ⟨b,sz,els,ro,h1⟩
  ·cases h3;exact .inl (a6 b (aV h1))
end
section
variable {P:Program} {m:Mp} {w:Wo}
def TY:∀{a b:List Ob},uZ a b=true→a=b
 | [],[],_=>rfl
 | [],_::_,h=>by simp [uZ] at h
 |_::_,[],h=>by simp [uZ] at h
 |(n,t,x)::l,(n',t',y)::r,h=>by
  simp only [uZ,aN] at h;rw [aT h.1,aT h.2.1,HP h.2.2.1,TY h.2.2.2]
def RL {x y:V × List Ob} (h:BZ x y=true):x=y:=by
 obtain⟨a,b⟩:=x;obtain⟨c,d⟩:=y;simp only [BZ,aN] at h;rw [beq_eq h.1,TY h.2]
def LJ:∀{a b:List Ent},tU a b=true→a=b
 | [],[],_=>rfl
 | [],_::_,h=>by simp [tU] at h
 |_::_,[],h=>by simp [tU] at h
 |⟨k,v,n⟩::l,⟨k',v',n'⟩::r,h=>by
  simp only [tU,aN] at h;have h1:=beq_eq h.1;have h2:=beq_eq h.2.1;have h3:=aT h.2.2.1;rw [h1,h2,h3,LJ h.2.2.2]
def NG (hρ:∀b c l,rho lim [] b=some c→mp b=some l→mc c=some l) {v:V} {u:Value} (h:zX lim v=true) (k:R mp v u):R mc v u:=by
 unfold zX at h;split at h
 ·rename_i v' hv;have:=beq_eq h;subst this;exact wG hρ hv k
 ·cases h
def NH {lim:Nat} {mp mc:Mp} (hρ:∀b c l,rho lim [] b=some c→mp b=some l→mc c=some l):∀{es:List Ent} {xs:List MapEntry},wQ lim es=true→bP mp es xs→bP mc es xs
 | [],_,_,k=>k
 |e::es,_,h,k=>by
  simp only [wQ,aN] at h;obtain⟨x,xs,rfl,hx,hxs⟩:=k;exact⟨x,xs,rfl,⟨NG hρ h.1 hx.1,NG hρ h.2.1 hx.2.1,hx.2.2⟩,NH hρ h.2.2 hxs⟩
def EP {lim:Nat} {h hp:H}:∀{ms:List Id},wT lim h hp ms=true→∀b∈ms,∃es c,aB b h.mem=some (.map es c)∧aB b hp.mem=some (.map es c)∧wQ lim es=true
 | [],_,b,hb=>by cases hb
 | a::l,hk,b,hb=>by
  simp only [wT,aN] at hk;rcases cM.1 hb with rfl|hb
  ·have h1:=hk.1;split at h1
   ·rename_i es c es' c' e1 e2;simp only [aN] at h1;have:=LJ h1.1;have:=aT h1.2.1
    subst_vars
    exact⟨_,_,e1,e2,h1.2.2⟩
   ·cases h1
  ·exact EP hk.2 b hb
def SW {hp:H} {vc:V} {obs:List Ob} (h:nT lim fuel nw hp v=some (vc,obs)):
  ∃olds fs,olds.length=nw.length∧kE olds=true∧bV (rho lim (olds.zip nw)) v=some vc∧lZ hp (rho lim (olds.zip nw)) olds=some (fs,obs)∧kE fs=true:=by
 unfold nT at h;simp only at h;generalize lQ hp lim fuel [v] []=olds at h;cases hb:(Nat.beq (nT.lenL' olds) (nT.lenL' nw)&&kE olds) with
 |false=>rw [hb] at h;cases h
 | true=>
  rw [hb] at h;simp only [cS] at h;rw [aN] at hb;split at h
  ·rename_i v' fs c7 h1 h2;cases hf:kE fs with
   |false=>rw [hf] at h;cases h
   |true=>
    rw [hf] at h;cases h;exact⟨olds,fs,aT hb.1,hb.2,h1,h2,hf⟩
  ·cases h
def out_ok {b4:H} (k:HR m h w) (sub:SubOf h M ms) (hF:Fr m ⟨M,h.fams,h.next⟩ w mp b4 w') {vp vc:V} {u:Value} (hR:R mp vp u)
  (a5:wT h.next.toNat h b4 ms=true) {n fuel:Nat} {nw:List Id} {nx:Id} {obs:List Ob} (b2:nT h.next.toNat fuel nw b4 vp=some (vc,obs)) (hid:iC n h.next=some (nw,nx)):
  ∃mc,Fr m h w mc ⟨iM nw obs h.mem,h.fams,nx⟩ w'∧R mc vc u:=by
 obtain⟨olds,fs,a7,hnd,hrv,hro,hfs⟩:=SW b2;obtain⟨i1,i2,i3⟩:=sC hid;obtain⟨r1,r2,r3⟩:=zO hro;have c2:∀b,b∈nw→h.next.toNat≤b.toNat:=by
  intro b hb;obtain⟨j,hj⟩:=pP.1 hb;have:=i3 j b hj;omega
 have F1:∀i,i.toNat<h.next.toNat→fV nw olds mp m i=m i:=by
  intro i hi;unfold fV;rw [FM (fun hm=>by have:=c2 i hm;omega)]
 have a6:∀b c l,Nat.ble (Nat.succ b.toNat) h.next.toNat=true→some b=some c→mp b=some l→fV nw olds mp m c=some l:=by
  intro b c l h1 h2 h3;cases h2;have b7:b.toNat<h.next.toNat:=cQ h1;rw [F1 b b7];exact hF.old b l h3 b7
 have hρ:∀b c l,rho h.next.toNat (olds.zip nw) b=some c→mp b=some l→fV nw olds mp m c=some l:=by
  intro b c l h1 h2;unfold rho at h1;cases hb:Nat.ble (Nat.succ b.toNat) h.next.toNat with
  |true=>rw [hb] at h1;exact a6 b c l hb h1 h2
  |false=>
   rw [hb] at h1;obtain⟨j,h3,h4⟩:=oX h1;unfold fV;rw [AR (fun j j' b a1 a2=>wV hid a1 a2) h4 h3];exact h2
 have hρ0:∀b c l,rho h.next.toNat [] b=some c→mp b=some l→fV nw olds mp m c=some l:=by
  intro b c l h1 h2;unfold rho at h1;cases hb:Nat.ble (Nat.succ b.toNat) h.next.toNat with
  |true=>rw [hb] at h1;exact a6 b c l hb h1 h2
  |false=>rw [hb] at h1;cases h1
 have a3:∀b ob,aB b M=some ob→jJ ob→∃es c,ob= .map es c∧aB b h.mem=some (.map es c)∧b∈ms:=by
  intro b ob h1 h2;rcases sub b ob h1 with⟨sz,els,f,ro,rfl,_⟩|h3
  ·exact absurd rfl h2
  ·exact h3
 refine⟨fV nw olds mp m,SX k hF.hr hF.size ?_ hF.os hF.tape hF.output hid a7 (uF hnd) hro hfs hρ ?_ ?_,wG hρ hrv hR⟩
 ·intro B hB hn;refine hF.keep B hB ?_;rintro⟨b1,ob1,l1,h1,h2,h3,h4⟩;obtain⟨es,c,rfl,h5,_⟩:=a3 b1 ob1 h1 h4;exact hn ⟨b1,_,l1,h5,h2,h3,trivial⟩
 ·intro j b l h1 h2;obtain⟨sz,els,f,ty,els',a1,_⟩:=r3 j b h1;rcases hF.back b _ l a1 h2 with h3|⟨b0,ob0,l0,h3,h4,h5,h6⟩
  ·exact h3
  ·obtain⟨es,c,rfl,h7,h8⟩:=a3 b0 ob0 h3 (h6 (by intro e;cases e));obtain⟨b8,c1,_,g2,_⟩:=EP a5 b0 h8;have c4:b≠b0:=fun e=>by subst e;rw [a1] at g2;cases g2
   exact(hF.hr.sep b b0 _ _ l l0 a1 g2 h2 (hF.le _ _ h4) c4 h5.symm).elim
 ·intro b ob l hb hl
  by_cases hw:Wb m ⟨M,h.fams,h.next⟩ l.blk
  ·obtain⟨b1,ob1,l1,h1,h2,h3,h4⟩:=hw;obtain⟨es,c,rfl,h5,h6⟩:=a3 b1 ob1 h1 h4;have b9:b=b1:=by
    by_cases e:b=b1
    ·exact e
    ·have hs:=k.sep b b1 ob _ l l1 hb h5 hl h2 e h3.symm;cases ob<;>exact hs.elim
   subst b9;rw [hb] at h5;cases h5;rw [hl] at h2;cases h2;obtain⟨b8,c1,g1,g2,g3⟩:=EP a5 b h6;rw [hb] at g1;cases g1;obtain⟨l2,hl2,es2,hat,hes⟩:=hF.hr.obj b _ g2;have:=hF.le _ _ hl;rw [this] at hl2;cases hl2;exact⟨es2,hat,NH hρ0 g3 hes⟩
  ·obtain⟨l',hl',ho⟩:=k.obj b ob hb;rw [hl] at hl';cases hl';refine ho.keep ?_ (hF.keep l.blk (k.lt b l hl) hw);intro i li hi;rw [F1 i (k.dom i li hi)];exact hi
def UP {p:CR→Bool}:∀{l:List CR},yE p l=true→∀r∈l,p r=true
 | [],_,r,hr=>by cases hr
 |a::l,h,r,hr=>by
  simp only [yE,aN] at h;rcases cM.1 hr with rfl|hr
  ·exact h.1
  ·exact UP h.2 r hr
def Bn (hp:oM P=true) (a0:eY P call) (a8:P.follows .mixedOrders=true) {f:FuncId} {fn:Func} {c:Code} (hf:P.funcs[f]?=some fn) (hb:fn.body=some c)
  {vs:List V} {us:Lv} {h h':H} {v:V} (hr:HR m h w) (hg:Gl P m) (hR:Rl m vs us) (hv:(ndB P lf fuel fn c).run call vs h= .ok v h'):
  Calls P f ⟨us⟩ w (fun e w'=>∃u m',e= .returned u∧Fr m h w m' h' w'∧R m' v u):=by
 obtain⟨p1,p2,p3,p4⟩:=zT hp hf hb;unfold ndB at hv;obtain⟨b6,hv⟩:=FT hv;have a7:vs.length≤fn.ntmps:=by rw [kH] at b6;exact cQ b6
 have hE:=IE hR a7 p1;have sub:=nF (h:=h) fuel vs Mem.new [] (fun b ob hb=>by rw [AJ] at hb;cases hb);cases hM:jX h fuel vs Mem.new [] with
 |mk M ms=>
 rw [hM] at hv sub;simp only at hv sub;have hs:=hr.subOf sub;refine calls_of_wp_defers hf hb ?_;refine Gx (lf:=lf) a0 a8 c p2 m _ _ _ w _ hE hg hs ?_;cases hL:(iS P lf c).run call (mB 0 vs Env.new) ⟨M,h.fams,h.next⟩ with
 |nil=>rw [hL] at hv;cases hv
 |cons r0 rs=>
 rw [hL] at hv;simp only at hv;cases h0:uJ P fn r0 with
 |bad=>rw [h0] at hv;cases hv
 |ok v1 h1=>
 rw [h0] at hv;simp only at hv;cases hid:iC (lQ h1 h.next.toNat fuel [v1] []).length h.next with
 |none=>rw [hid] at hv;cases hv
 |some nn=>
 obtain⟨nw,nx⟩:=nn;rw [hid] at hv;simp only at hv;cases hcn:nT h.next.toNat fuel nw h1 v1 with
 |none=>rw [hcn] at hv;cases hv
 |some cn=>
 rw [hcn] at hv;simp only at hv;cases hal:yE (EO P fn h.next.toNat fuel nw cn h ms) (r0::rs) with
 |false=>rw [hal] at hv;cases hv
 |true=>
 rw [hal] at hv;cases hv;intro r c5;have a4:=UP hal r c5;unfold EO at a4;have key:∀e1 h2,qK P fn.results.toList e1 h2=uJ P fn r→∀m' a' w',Fr m ⟨M,h.fams,h.next⟩ w m' h2 w'→aY m' fn.ntmps e1 a'→
   Leaves P fn a'.tmps (fun e w'=>∃u m',e= .returned u∧Fr m h w m' ⟨iM nw cn.2 h.mem,h.fams,nx⟩ w'∧R m' cn.1 u) a'.defers .returning w':=by
  intro e1 h2 c3 m' a' w' hF b5;rw [←c3] at a4;unfold qK at a4;obtain⟨L,hL1,hDf⟩:=b5.dfr;split at a4
  ·rename_i vx c8 a9;split at a9
   ·rename_i b3;rw [b3] at hL1;cases hL1;simp only [DfrR] at hDf;rw [hDf];unfold vhO at a9;split at a9
    ·rename_i v' c6;cases a9;obtain⟨u,hu,hRu⟩:=EA b5 hF.hr p3 c6;rw [aN] at a4;have h3:=a4.2;split at h3
     ·rename_i c' c0;have:=RL h3;subst this;obtain⟨mc,hFc,hRc⟩:=out_ok (vc:=c'.1) (obs:=c'.2) hr sub hF hRu a4.1 c0 hid;exact⟨u,hu,u,mc,rfl,hFc,hRc⟩
     ·cases h3
    ·cases a9
   ·cases a9
  ·cases a4
 cases r with
 |bad=>simp [uJ] at a4
 |ext i e1 h2=>simp [uJ] at a4
 |nrm e1 h2=>exact key e1 h2 rfl
 |ret e1 h2=>exact key e1 h2 rfl
def Bm (hp:oM P=true) (a0:eY P call) (a8:P.follows .mixedOrders=true) {f:FuncId}
  {vs:List V} {us:Lv} {h h':H} {v:V} (hr:HR m h w) (hg:Gl P m) (hR:Rl m vs us) (hv:(ndF P lf fuel f).run call vs h= .ok v h'):
  cO P ((callFunc f ⟨us⟩).run P w) m h w v h':=by
 unfold ndF at hv;cases hf:P.funcs[f]? with
 |none=>rw [hf] at hv;cases hv
 | some fn=>
  rw [hf] at hv;simp only at hv;cases hb:fn.body with
  |none=>rw [hb] at hv;cases hv
  |some c=>
   rw [hb] at hv;simp only at hv;exact .inr ⟨f,⟨us⟩,HF hp hf hb _ _,Bn hp a0 a8 hf hb hr hg hR hv⟩
end
abbrev Ib:=Nat × List (List V)
def wJ (h:H) (ρ:Id→Option Id):List Id→Option (List Id × List Ib)
 | []=>some ([],[])
 | b::l=>(match aB b h.mem with
  |some (.cells sz els f _)=>(match fB ρ els,wJ h ρ l with
   |some els',some (fs,o)=>some (f::fs,(sz,els')::o)
   |_,_=>none)
  |_=>none)
def sS:List Ib→List Ib→Bool
 | [],[]=>true
 |(n,a)::l,(n',b)::r=>Nat.beq n n'&&(sR a b&&sS l r)
 |_,_=>false
def HC (fuel base:Nat) (args:List V) (h:H):Option (List V × List Ib × List Id):=
 match lQ h 0 fuel args [] with
 |olds=>match iC olds.length (nM base) with
  | some (nw,_)=>bif kE olds then
    (match renL (rho 0 (olds.zip nw)) args,wJ h (rho 0 (olds.zip nw)) olds with
    |some a,some (fs,o)=>bif kE fs then some (a,o,olds) else none
    |_,_=>none) else none
  |none=>none
def nH:List Id→List Ib→Mem→Mem
 |b::nw,(sz,els)::o,M=>dU b (some (.cells sz els b .fz)) (nH nw o M)
 |_,_,M=>M
structure Memo where
 args:List V
 ins:List Ib
 res:V
 outs:List Ob
def lK (call:bR) (base fuel f:Nat) (mm:Memo):Bool:=
 match iC mm.ins.length (nM base) with
 | some (nw,nx)=>(match iC mm.outs.length nx with
  |some (nwR,_)=>(match call f mm.args ⟨nH nw mm.ins Mem.new,Fam.new,nx⟩ with
   | .ok v h'=>(match nT nx.toNat fuel nwR h' v with|some c=>BZ c (mm.res,mm.outs)|none=>false)
   | .bad=>false)
  |none=>false)
 |none=>false
def rho2 (p q:List (Id × Id)) (c:Id):Option Id:=match kG c p with|some b=>some b|none=>kG c q
def wH (ρ:Id→Option Id):List Ob→Option (List Ob)
 | []=>some []
 |(sz,ty,els)::l=>(match fB ρ els,wH ρ l with
  |some e,some r=>some ((sz,ty,e)::r)
  |_,_=>none)
def EZ (base:Nat) (mm:Memo) (olds:List Id) (h:H):VH:=
 match iC olds.length (nM base),iC mm.outs.length h.next with
 | some (nwT,nx0),some (nw2,nx)=>(match iC mm.outs.length nx0 with
  |some (nwR,_)=>(match bV (rho2 (nwT.zip olds) (nwR.zip nw2)) mm.res,wH (rho2 (nwT.zip olds) (nwR.zip nw2)) mm.outs with
   |some v,some obs=>.ok v ⟨iM nw2 obs h.mem,h.fams,nx⟩
   |_,_=>.bad)
  |none=>.bad)
 |_,_=>.bad
def xL (a:List V) (o:List Ib):List Memo→Option Memo
 | []=>none
 |mm::l=>bif jC a mm.args&&sS o mm.ins then some mm else xL a o l
def OL (fuel base:Nat) (l:List Memo) (a0:FOp):FOp:=⟨fun call args h=>
 match HC fuel base args h with
 |none=>a0.run call args h
 |some (a,o,olds)=>match xL a o l with
  |none=>a0.run call args h
  |some mm=>EZ base mm olds h⟩
section
variable {P:Program} {m:Mp} {w:Wo}
def xQ:∀x,x<8→(dg x).toNat=x:=by decide
def BK (h:n<32768):(nM n).toNat=n:=by
 have h1:=xQ (n/4096%8) (by omega);have h2:=xQ (n/512%8) (by omega);have h3:=xQ (n/64%8) (by omega);have h4:=xQ (n/8%8) (by omega);have h5:=xQ (n%8) (by omega);simp only [nM,Id.toNat,h1,h2,h3,h4,h5];omega
def BX (b:Id):aP b Fam.new= []:=by
 obtain⟨a,b,c,d,e⟩:=b;simp [aP,Fam.new,LH]
def TZ:∀{a b:List Ib},sS a b=true→a=b
 | [],[],_=>rfl
 | [],_::_,h=>by simp [sS] at h
 |_::_,[],h=>by simp [sS] at h
 |(n,x)::l,(n',y)::r,h=>by
  simp only [sS,aN] at h;rw [aT h.1,HP h.2.1,TZ h.2.2]
def MT {h:H} {ρ:Id→Option Id}:∀{l fs:List Id} {o:List Ib},wJ h ρ l=some (fs,o)→fs.length=l.length∧o.length=l.length∧
  ∀(j:Nat) b,l[j]?=some b→∃sz els f ro els',aB b h.mem=some (.cells sz els f ro)∧fB ρ els=some els'∧fs[j]?=some f∧o[j]?=some (sz,els')
 | [],_,_,h=>by simp only [wJ,cJ,CY] at h;obtain⟨rfl,rfl⟩:=h;exact⟨rfl,rfl,fun j b hb=>by simp at hb⟩
 | a::l,_,_,h=>by
  simp only [wJ] at h;split at h
  ·rename_i sz els f ro hb;split at h
   ·rename_i els' fs o h1 h2;cases h;obtain⟨k1,k2,k3⟩:=MT h2;refine⟨by simp [k1],by simp [k2],?_⟩;intro j b hj;cases j with
    |zero=>simp at hj;subst hj;exact⟨sz,els,f,ro,els',hb,h1,rfl,rfl⟩
    |succ j=>simp at hj;obtain⟨a1,a2,a3,a4,a5,a6,a7,a8,a9⟩:=k3 j b hj;exact⟨a1,a2,a3,a4,a5,a6,a7,by simpa using a8,by simpa using a9⟩
   ·cases h
  ·cases h
def ND:∀{nw:List Id} {o:List Ib} {M:Mem} {b:Id} {ob:O},aB b (nH nw o M)=some ob→
  (aB b M=some ob)∨∃(j sz:Nat) (els:List (List V)),nw[j]?=some b∧o[j]?=some (sz,els)∧ob= .cells sz els b .fz
 | [],o,M,b,ob,h=>by simp only [nH] at h;exact .inl h
 |a::nw,[],M,b,ob,h=>by simp only [nH] at h;exact .inl h
 | a::nw,(sz,els)::o,M,b,ob,h=>by
  simp only [nH] at h
  by_cases e:b=a
  ·subst e;rw [gK] at h;cases h;exact .inr ⟨0,sz,els,rfl,rfl,rfl⟩
  ·rw [eX e] at h;rcases ND h with h1|⟨j,sz,els,h1,h2,h3⟩
   ·exact .inl h1
   ·exact .inr ⟨j+1,sz,els,by simpa using h1,by simpa using h2,h3⟩
def rO (ρ σ:Id→Option Id) (b:Id):Option Id:=(ρ b).bind σ
mutual
theorem MG {ρ σ:Id→Option Id}:∀{v v1 v2:V},bV ρ v=some v1→bV σ v1=some v2→bV (rO ρ σ) v=some v2
 | .top,_,_,h,_=>by simp [bV] at h
 | .b x,_,_,h,k=>by simp only [bV,cJ] at h;subst h;exact k
 | .i _ _,_,_,h,k=>by simp only [bV,cJ] at h;subst h;exact k
 | .s _ _,_,_,h,k=>by simp only [bV,cJ] at h;subst h;exact k
 | .pn,_,_,h,k=>by simp only [bV,cJ] at h;subst h;exact k
 | .p _ _,_,_,h,_=>by simp [bV] at h
 | .sn,_,_,h,k=>by simp only [bV,cJ] at h;subst h;exact k
 | .sl b o len sz,_,_,h,k=>by
  simp only [bV] at h;cases hb:ρ b with
  |none=>rw [hb] at h;cases h
  |some c=>
   rw [hb] at h;cases h;simp only [bV] at k ⊢;simp only [rO,hb,IP];exact k
 | .se,_,_,h,k=>by simp only [bV,cJ] at h;subst h;exact k
 | .mn,_,_,h,k=>by simp only [bV,cJ] at h;subst h;exact k
 | .mp _,_,_,h,_=>by simp [bV] at h
 | .fn _ _ _,_,_,h,_=>by simp [bV] at h
 | .nf,_,_,h,k=>by simp only [bV,cJ] at h;subst h;exact k
 | .ni,_,_,h,k=>by simp only [bV,cJ] at h;subst h;exact k
 | .agg l,_,_,h,k=>by
  simp only [bV] at h;cases hl:renL ρ l with
  |none=>rw [hl] at h;cases h
  |some l'=>
   rw [hl] at h;cases h;simp only [bV] at k ⊢;cases hk:renL σ l' with
   |none=>rw [hk] at k;cases k
   |some l2=>rw [hk] at k;rw [zQ hl hk];exact k
 | .tup l,_,_,h,k=>by
  simp only [bV] at h;cases hl:renL ρ l with
  |none=>rw [hl] at h;cases h
  |some l'=>
   rw [hl] at h;cases h;simp only [bV] at k ⊢;cases hk:renL σ l' with
   |none=>rw [hk] at k;cases k
   |some l2=>rw [hk] at k;rw [zQ hl hk];exact k
theorem zQ {ρ σ:Id→Option Id}:∀{l l1 l2:List V},renL ρ l=some l1→renL σ l1=some l2→renL (rO ρ σ) l=some l2
 | [],_,_,h,k=>by simp only [renL,cJ] at h;subst h;exact k
 | v ::l,_,_,h,k=>by
  simp only [renL] at h;cases hv:bV ρ v with
  |none=>rw [hv] at h;cases h
  | some v1=>
   cases hl:renL ρ l with
   |none=>rw [hv,hl] at h;cases h
   | some l1=>
    rw [hv,hl] at h;cases h;simp only [renL] at k ⊢;cases kv:bV σ v1 with
    |none=>rw [kv] at k;cases k
    |some v2=>
     cases kl:renL σ l1 with
     |none=>rw [kv,kl] at k;cases k
     |some l2=>rw [kv,kl] at k;cases k;rw [MG hv kv,zQ hl kl]
end
def MS {ρ σ:Id→Option Id}:∀{l l1 l2:List (List V)},fB ρ l=some l1→fB σ l1=some l2→fB (rO ρ σ) l=some l2
 | [],_,_,h,k=>by simp only [fB,cJ] at h;subst h;exact k
 | v ::l,_,_,h,k=>by
  simp only [fB] at h;cases hv:renL ρ v with
  |none=>rw [hv] at h;cases h
  | some v1=>
   cases hl:fB ρ l with
   |none=>rw [hv,hl] at h;cases h
   | some l1=>
    rw [hv,hl] at h;cases h;simp only [fB] at k ⊢;cases kv:renL σ v1 with
    |none=>rw [kv] at k;cases k
    |some v2=>
     cases kl:fB σ l1 with
     |none=>rw [kv,kl] at k;cases k
     |some l2=>rw [kv,kl] at k;cases k;rw [zQ hv kv,MS hl kl]
def MH {hp:H} {ρ σ:Id→Option Id}:∀{l fs:List Id} {obs b9:List Ob},lZ hp ρ l=some (fs,obs)→wH σ obs=some b9→lZ hp (rO ρ σ) l=some (fs,b9)
 | [],_,_,_,h,k=>by simp only [lZ,cJ,CY] at h;obtain⟨rfl,rfl⟩:=h;simp only [wH,cJ] at k;subst k;rfl
 | a ::l,_,_,_,h,k=>by
  simp only [lZ] at h ⊢;split at h
  ·rename_i sz els f ty hb;split at h
   ·rename_i els' fs obs h1 h2;cases h;simp only [wH] at k;split at k
    ·rename_i e r k1 k2;cases k;rw [MS h1 k1,MH h2 k2]
    ·cases k
   ·cases h
  ·cases h
def cO.tr {h1 d0:H} {v1:V} (hk:cO P r m1 h1 w v1 d0)
  (t:∀u m' w',Fr m1 h1 w m' d0 w'→R m' v1 u→∃m2,Fr m h w m2 h' w'∧R m2 v u) (f8:∀m' w',Fr m1 h1 w m' d0 w'→R m' v1 undef→True:=fun _ _ _ _=>trivial):cO P r m h w v h':=by
 rcases hk with⟨u,w',m',hr,hF,hR⟩|⟨f,us,hr,hC⟩
 ·obtain⟨m2,h2,h3⟩:=t u m' w' hF hR;exact .inl ⟨u,w',m2,hr,h2,h3⟩
 ·refine .inr ⟨f,us,hr,Calls.mono hC ?_⟩;rintro e w' ⟨u,m',rfl,hF,hR⟩;obtain⟨m2,h2,h3⟩:=t u m' w' hF hR;exact⟨u,m2,rfl,h2,h3⟩
def lG (base:Nat) (b2 olds:List Id) (m:Mp):Mp:=fun i=>bif Nat.ble (Nat.succ i.toNat) base then m i else match kG i (b2.zip olds) with|some b=>m b|none=>none
def Cc {base b8:Nat} {mm:Memo} (a0:lK call base fuel f mm=true) (c2:eY P call) (d7:P.globals.size≤base) (d2:base<32768)
  {vs:List V} {us:Lv} {h h':H} {v:V} {olds:List Id} (hr:HR m h w) (hg:Gl P m) (hR:Rl m vs us) (f7:base≤h.next.toNat)
  (b3:HC b8 base vs h=some (mm.args,mm.ins,olds)) (hv:EZ base mm olds h= .ok v h'):cO P ((callFunc f ⟨us⟩).run P w) m h w v h':=by
 unfold HC at b3;simp only at b3;generalize lQ h 0 b8 vs []=O at b3;cases hid:iC O.length (nM base) with
 |none=>rw [hid] at b3;cases b3
 |some nn=>
 obtain⟨b2,nx0⟩:=nn;rw [hid] at b3;simp only at b3;cases hnd:kE O with
 |false=>rw [hnd] at b3;cases b3
 |true=>
 rw [hnd] at b3;simp only [cS] at b3;split at b3
 case h_2=>cases b3
 rename_i a fs o e9 f2;cases hfs:kE fs with
 |false=>rw [hfs] at b3;cases b3
 |true=>
 rw [hfs] at b3;simp only [cS,cJ,CY] at b3;obtain⟨rfl,rfl,rfl⟩:=b3;obtain⟨i1,i2,i3⟩:=sC hid;rw [BK d2] at i2 i3;obtain⟨r1,r2,r3⟩:=MT f2;have b7:∀b,b∈b2→base≤b.toNat∧b.toNat<nx0.toNat:=by
  intro b hb;obtain⟨j,hj⟩:=pP.1 hb;have:=i3 j b hj;have:=(aM.1 hj).1;omega
 have T1:∀i,i.toNat<base→lG base b2 O m i=m i:=by
  intro i hi;unfold lG;rw [show Nat.ble (Nat.succ i.toNat) base=true from Nat.ble_eq_true_of_le hi];rfl
 have T2:∀(j:Nat) c b,b2[j]?=some c→O[j]?=some b→lG base b2 O m c=m b:=by
  intro j c b h1 h2;have:=(b7 c (aV h1)).1;unfold lG;rw [show Nat.ble (Nat.succ c.toNat) base=false by cases e:Nat.ble (Nat.succ c.toNat) base with|false=>rfl|true=>have:=cQ e;omega];simp only [kV];rw [AR (fun j j' b a1 a2=>wV hid a1 a2) h1 h2]
 have T3:∀i l,lG base b2 O m i=some l→(i.toNat<base∧m i=some l)∨∃(j:Nat) (b:Id),b2[j]?=some i∧O[j]?=some b∧m b=some l:=by
  intro i l hi;unfold lG at hi;cases hb:Nat.ble (Nat.succ i.toNat) base with
  |true=>rw [hb] at hi;exact .inl ⟨cQ hb,hi⟩
  | false=>
   rw [hb] at hi;simp only [kV] at hi;split at hi
   ·rename_i b c5;obtain⟨j,h1,h2⟩:=oX c5;exact .inr ⟨j,b,h1,h2,hi⟩
   ·cases hi
 have hρT:∀b c l,rho 0 (O.zip b2) b=some c→m b=some l→lG base b2 O m c=some l:=by
  intro b c l h1 h2;unfold rho at h1;rw [show Nat.ble (Nat.succ b.toNat) 0=false from rfl] at h1;obtain⟨j,h3,h4⟩:=oX h1;rw [T2 j c b h4 h3];exact h2
 have d8:Rl (lG base b2 O m) mm.args us:=zR hρT e9 hR;have e4:Gl P (lG base b2 O m):=by
  intro g d4;obtain⟨lim,hl⟩:=hg g d4;exact⟨lim,by rw [T1 _ (by rw [BK (by omega)];omega)];exact hl⟩
 have b4:∀b ob,aB b (nH b2 mm.ins Mem.new)=some ob→∃(j sz:Nat) (els b6:List (List V)) (b0 f0:Id) (ro:Rw),b2[j]?=some b∧O[j]?=some b0∧ob= .cells sz els b .fz∧aB b0 h.mem=some (.cells sz b6 f0 ro)∧fB (rho 0 (O.zip b2)) b6=some els∧fs[j]?=some f0:=by
  intro b ob hb;rcases ND hb with h1|⟨j,sz,els,h1,h2,h3⟩
  ·rw [AJ] at h1;cases h1
  ·have e6:j<O.length:=by rw [←i1];exact(aM.1 h1).1
   have d6:=bM e6;obtain⟨sz1,els1,f1,ro1,els1',a1,a2,a3,a4⟩:=r3 j _ d6;rw [h2] at a4;cases a4;exact⟨j,sz,els,els1,_,f1,ro1,h1,d6,h3,a1,a2,a3⟩
 have e8:HR (lG base b2 O m) ⟨nH b2 mm.ins Mem.new,Fam.new,nx0⟩ w:=by
  refine⟨?_,?_,?_,?_,?_,?_,?_,?_⟩
  ·intro b ob hb;obtain⟨j,sz,els,b6,b0,f0,ro,h1,h2,rfl,h4,h5,h6⟩:=b4 b ob hb;obtain⟨l,hl,C,t,fz,hc⟩:=hr.obj b0 _ h4;have c0:=hc.ren hρT h5;exact⟨l,by rw [T2 j b b0 h1 h2];exact hl,C,t,fz,⟨c0.at_,c0.room,c0.len,c0.each,c0.val,(fun e=>by cases e),(fun e=>by cases e),(fun ty e=>by cases e),c0.al⟩⟩
  ·intro b l hb;show b.toNat<nx0.toNat;rcases T3 b l hb with⟨h1,_⟩|⟨j,b0,h1,_,_⟩
   ·omega
   ·exact(b7 b (aV h1)).2
  ·intro b b' ob f4 l l' hb d1 hl c4 d5 e0;obtain⟨j,sz,els,b6,b0,f0,ro,h1,h2,rfl,h4,h5,h6⟩:=b4 b ob hb;obtain⟨j',f5,els',els0',b0',f0',ro',g1,g2,rfl,g4,g5,g6⟩:=b4 b' f4 d1;rw [T2 j b b0 h1 h2] at hl;rw [T2 j' b' b0' g1 g2] at c4;have c9:j≠j':=fun e=>by subst e;rw [h1] at g1;cases g1;exact d5 rfl
   have d9:b0≠b0':=fun e=>by subst e;exact c9 (uF hnd j j' b0 h2 g2)
   have hs:f0=f0':=hr.sep b0 b0' _ _ l l' h4 g4 hl c4 d9 e0;subst hs;exact(c9 (uF hfs j j' f0 h6 g6)).elim
  ·intro b b' sz els f ro f5 els' ro' hb d1 d5;obtain⟨j,_,_,_,b0,f0,_,h1,h2,h3,_⟩:=b4 b _ hb;obtain⟨j',_,_,_,b0',f0',_,g1,g2,g3,_⟩:=b4 b' _ d1;cases h3;cases g3;exact(d5 rfl).elim
  ·intro f;show List.Pairwise _ (aP f Fam.new);rw [BX];exact List.Pairwise.nil
  ·intro b l hb;rcases T3 b l hb with⟨_,h1⟩|⟨j,b0,_,_,h1⟩
   ·exact hr.lt b l h1
   ·exact hr.lt b0 l h1
  ·intro b sz els f ro hb;obtain⟨j,_,_,_,b0,f0,_,h1,h2,h3,_⟩:=b4 b _ hb;cases h3;exact(b7 b (aV h1)).2
  ·intro f x hx;have hx:x∈aP f Fam.new:=hx;rw [BX] at hx;cases hx
 unfold lK at a0;rw [show mm.ins.length=O.length from r2,hid] at a0;simp only at a0;cases hidR:iC mm.outs.length nx0 with
 |none=>rw [hidR] at a0;cases a0
 |some nn=>
 obtain⟨c8,nxR⟩:=nn;rw [hidR] at a0;simp only at a0;cases hcl:call f mm.args ⟨nH b2 mm.ins Mem.new,Fam.new,nx0⟩ with
 |bad=>rw [hcl] at a0;cases a0
 |ok vT hpp=>
 rw [hcl] at a0;simp only at a0;cases hcan:nT nx0.toNat fuel c8 hpp vT with
 |none=>rw [hcan] at a0;cases a0
 |some cn=>
 rw [hcan] at a0;simp only at a0;have:=RL a0;subst this;have hH:=c2 f mm.args us (lG base b2 O m) _ w vT hpp e8 e4 d8 hcl;unfold EZ at hv;rw [hid] at hv;cases hid2:iC mm.outs.length h.next with
 |none=>rw [hid2] at hv;cases hv
 |some nn=>
 obtain⟨c7,nx⟩:=nn;rw [hid2] at hv;simp only [hidR] at hv;split at hv
 case h_2=>cases hv
 rename_i v2 b9 f3 e7;cases hv;refine hH.tr ?_;intro u mp w' hF hRp;obtain⟨b5,fs2,hlen2,hnd2,hrv2,hro2,hfs2⟩:=SW hcan;obtain⟨j1,j2,j3⟩:=sC hidR;obtain⟨q1,q2,q3⟩:=sC hid2;obtain⟨e1,e2,e3⟩:=zO hro2;have c3:∀b,b∈c8→nx0.toNat≤b.toNat:=by
  intro b hb;obtain⟨j,hj⟩:=pP.1 hb;have:=j3 j b hj;omega
 have d3:∀b,b∈c7→h.next.toNat≤b.toNat:=by
  intro b hb;obtain⟨j,hj⟩:=pP.1 hb;have:=q3 j b hj;omega
 have C1:∀i l,m i=some l→fV c7 b5 mp m i=some l:=by
  intro i l hi;have:=hr.dom i l hi;unfold fV;rw [FM (fun hm=>by have:=d3 i hm;omega)];exact hi
 have c6:∀B,¬Wb (lG base b2 O m) ⟨nH b2 mm.ins Mem.new,Fam.new,nx0⟩ B:=by
  rintro B ⟨b1,ob1,l1,h1,h2,h3,h4⟩;obtain⟨j,_,_,_,b0,f0,_,_,_,rfl,_⟩:=b4 b1 ob1 h1;exact h4 rfl
 have hρF:∀b c l,rO (rho nx0.toNat (b5.zip c8)) (rho2 (b2.zip O) (c8.zip c7)) b=some c→mp b=some l→fV c7 b5 mp m c=some l:=by
  intro b c l h1 h2;unfold rO at h1;cases hc1:rho nx0.toNat (b5.zip c8) b with
  |none=>rw [hc1] at h1;cases h1
  | some c1=>
   rw [hc1] at h1;simp only [IP] at h1;unfold rho at hc1;unfold rho2 at h1;cases hb:Nat.ble (Nat.succ b.toNat) nx0.toNat with
   | true=>
    rw [hb] at hc1;simp only [cS,cJ] at hc1;subst hc1;have d4:b.toNat<nx0.toNat:=cQ hb;split at h1
    ·rename_i b0 c5;cases h1;obtain⟨j,g1,g2⟩:=oX c5;have:=hF.old b l h2 d4;rw [T2 j b c g1 g2] at this;exact C1 c l this
    ·obtain⟨j,g1,g2⟩:=oX h1;have:=c3 b (aV g1);omega
   | false=>
    rw [hb] at hc1;obtain⟨j,g1,g2⟩:=oX hc1;have f6:=c3 c1 (aV g2);split at h1
    ·rename_i b0 c5;obtain⟨j',g3,_⟩:=oX c5;have:=(b7 c1 (aV g3)).2;omega
    ·obtain⟨j',g3,g4⟩:=oX h1;have c9:j=j':=wV hidR g2 g3;subst c9;unfold fV;rw [AR (fun j j' b a1 a2=>wV hid2 a1 a2) g4 g1];exact h2
 refine⟨fV c7 b5 mp m,SX hr hF.hr hF.size (fun B hB _=>hF.keep B hB (c6 B)) hF.os hF.tape hF.output hid2 (by rw [hlen2,j1,q1]) (uF hnd2) (MH hro2 e7) hfs2 hρF ?_ ?_,wG hρF (MG hrv2 f3) hRp⟩
 ·intro j b l h1 h2;obtain⟨sz,els,f1,ty,els',a1,_⟩:=e3 j b h1;rcases hF.back b _ l a1 h2 with h3|⟨b0,ob0,l0,h3,h4,h5,h6⟩
  ·exact h3
  ·obtain⟨_,_,_,_,_,_,_,_,_,rfl,_⟩:=b4 b0 ob0 h3;exact absurd rfl (h6 (by intro e;cases e))
 ·intro b ob l hb hl;obtain⟨l',c4,ho⟩:=hr.obj b ob hb;rw [hl] at c4;cases c4;exact ho.keep (fun i li hi=>C1 i li hi) (hF.keep l.blk (hr.lt b l hl) (c6 _))
def QZ {a:List V} {o:List Ib}:∀{l:List Memo} {mm:Memo},xL a o l=some mm→mm∈l∧a=mm.args∧o=mm.ins
 | [],_,h=>by simp [xL] at h
 | x::l,mm,h=>by
  simp only [xL] at h;cases hb:(jC a x.args&&sS o x.ins) with
  |true=>
   rw [hb] at h;cases h;rw [aN] at hb;exact⟨vN,sQ hb.1,TZ hb.2⟩
  |false=>
   rw [hb] at h;obtain⟨h1,h2⟩:=QZ h;exact⟨rJ _ h1,h2⟩
end
def cmpF:FOp:=⟨fun _ args h=>match args with
 | [.s l c,.s l' c']=>.ok (.i .i64 (bif sEq l c l' c' then 0 else bif ltB (dD l c) (dD l' c') then-1 else 1)) h
 |_=>.bad⟩
def zH:FOp:=⟨fun _ args h=>match args with| [x]=>.ok x h|_=>.bad⟩
section
variable {P:Program} {m:Mp} {w:Wo}
def RG {e:Array Value→Sem Value} (hf:P.funcs[f]?=some fn) (hb:fn.body=none) (hn:fn.name≠ "runtime.NumGoroutine") (h1:Extern.findNext fn=none) (h2:Extern.find fn=some e) (args:Array Value):
  (callFunc f args).run P w=((do pure (Next.value (←e args))):Sem Next).run P w:=by
 simp [callFunc,hf,hn,hb,h1,h2,mark,Sem.run]
def Ct (a b:UInt8) (x y:List UInt8):Op.bytesLess (a::x) (b::y)=(decide (a<b)||(a==b&&Op.bytesLess x y)):=by
 simp [Op.bytesLess]
def SB:∀(x y:List UInt8),Lib.compareBytes x y=if x=y then 0 else if Op.bytesLess x y then-1 else 1
 | [],[]=>by simp [Lib.compareBytes]
 | [],_::_=>by simp [Lib.compareBytes,Op.bytesLess]
 |_::_,[]=>by simp [Lib.compareBytes,Op.bytesLess]
 | a ::x,b::y=>by
  rw [Ct];simp only [Lib.compareBytes]
  by_cases h1:a<b
  ·have a0:a≠b:=fun e=>by subst e;exact absurd h1 (by simp [rC])
   simp [h1,a0]
  ·by_cases h2:b<a
   ·have a0:a≠b:=fun e=>by subst e;exact h1 h2
    simp [h1,h2,a0]
   ·have he:a=b:=by
     apply CX.1;simp only [Jz] at h1 h2;omega
    subst he;simp [h1,SB x y]
end
section
variable {P:Program} {m:Mp} {w:Wo}
def cO.pureV {s:Sem Value} (hr:HR m h w) (hs:s.run P w= .ok u w) (hR:R m v u):
  cO P ((do pure (Next.value (←s)):Sem Next).run P w) m h w v h:=
 cO.val ⟨u,w,m,hs,Fr.refl hr,hR⟩
def Hf (hf:P.funcs[f]?=some fn) (hb:fn.body=none) (hn:fn.name≠ "runtime.NumGoroutine") (h1:Extern.findNext fn=none) (h2:Extern.find fn=some Extern.BytealgCompare.compare)
  {call:bR} {vs:List V} {us:Lv} {h h':H} {v:V} (hr:HR m h w) (hR:Rl m vs us) (hv:cmpF.run call vs h= .ok v h'):cO P ((callFunc f ⟨us⟩).run P w) m h w v h':=by
 simp only [cmpF] at hv;split at hv
 ·rename_i l c l' c';cases hv;obtain⟨x,us,rfl,hx,hR⟩:∃x a0,us=x::a0∧R m (.s l c) x∧Rl m [.s l' c'] a0:=by
   cases us with|nil=>simp [Rl] at hR|cons x us=>simp only [Rl,iZ] at hR ⊢;obtain⟨u,a0,⟨e1,e2⟩,h1,h2⟩:=hR;subst e1 e2;exact⟨_,_,⟨rfl,rfl⟩,h1,h2⟩
  obtain⟨y,us,rfl,hy,hR⟩:∃x a0,us=x::a0∧R m (.s l' c') x∧Rl m [] a0:=by
   cases us with|nil=>simp [Rl] at hR|cons x us=>simp only [Rl,iZ] at hR ⊢;obtain⟨u,a0,⟨e1,e2⟩,h1,h2⟩:=hR;subst e1 e2;exact⟨_,_,⟨rfl,rfl⟩,h1,h2⟩
  obtain rfl:us= []:=by cases us with|nil=>rfl|cons x us=>simp [Rl] at hR
  rw [R_str] at hx hy;obtain⟨s,rfl,hs,hc⟩:=hx;obtain⟨t,rfl,ht,hc'⟩:=hy;rw [RG hf hb hn h1 h2];refine cO.pureV hr (Lib.run_compareString s t w) ?_;rw [SB,DW hs hc ht hc',Ck hs ht,pT,pT]
  by_cases e:s.data.toList=t.data.toList
  ·simp [e,R]
  ·have e':(s.data.toList==t.data.toList)=false:=by simpa using e
   rw [e',if_neg e];cases hB:Op.bytesLess s.data.toList t.data.toList<;>simp [R]
 ·cases hv
def YU (hf:P.funcs[f]?=some fn) (hb:fn.body=none) (hn:fn.name≠ "runtime.NumGoroutine") (h1:Extern.findNext fn=none) (h2:Extern.find fn=some Extern.AbiNoEscape.same)
  {call:bR} {vs:List V} {us:Lv} {h h':H} {v:V} (hr:HR m h w) (hR:Rl m vs us) (hv:zH.run call vs h= .ok v h'):cO P ((callFunc f ⟨us⟩).run P w) m h w v h':=by
 simp only [zH] at hv;split at hv
 ·cases hv;obtain⟨x,us,rfl,hx,hR⟩:∃x a0,us=x::a0∧R m v x∧Rl m [] a0:=by
   cases us with|nil=>simp [Rl] at hR|cons x us=>simp only [Rl,iZ] at hR ⊢;obtain⟨u,a0,⟨e1,e2⟩,h1,h2⟩:=hR;subst e1 e2;exact⟨_,_,⟨rfl,rfl⟩,h1,h2⟩
  obtain rfl:us= []:=by cases us with|nil=>rfl|cons x us=>simp [Rl] at hR
  rw [RG hf hb hn h1 h2];exact cO.pureV hr rfl hx
 ·cases hv
end
section
variable {P:Program} {m:Mp} {w:Wo}
def Fr.newIn (k:HR m h w) {nx:Id} (hn:h.next.succ=some nx) (ob:O) (l:Loc) (hl:w.heap.size≤l.blk) (a2:l.blk<w'.heap.size)
  (a1:∀B,B<w.heap.size→w'.heap[B]?=w.heap[B]?) (b0:w'.os=w.os) (b2:w'.tape=w.tape) (b1:w'.output=w.output)
  (hf:∀sz els f ro,ob= .cells sz els f ro→f=h.next) (hw:jJ ob)
  (b7:∀m':Mp,m.le m'→ObjAt m' w' l ob):
  Fr m h w (fun b=>if b=h.next then some l else m b) ⟨dU h.next (some ob) h.mem,h.fams,nx⟩ w':=by
 have b6:m h.next=none:=by
  cases e:m h.next with
  |none=>rfl
  |some l'=>exact absurd (k.dom _ _ e) (rG _)
 have a9:m.le (fun b=>if b=h.next then some l else m b):=by
  intro b l' hb;have:b≠h.next:=fun e=>by rw [e,b6] at hb;cases hb
  simp [this,hb]
 have a0:∀b a4,aB b (dU h.next (some ob) h.mem)=some a4→(b=h.next∧a4=ob)∨(b≠h.next∧aB b h.mem=some a4):=by
  intro b a4 hb
  by_cases e:b=h.next
  ·subst e;rw [gK] at hb;exact .inl ⟨rfl,(aK hb).symm⟩
  ·rw [eX e] at hb;exact .inr ⟨e,hb⟩
 have c1:=Id.succ_toNat hn;refine⟨a9,⟨?_,?_,?_,?_,?_,?_,?_,fun f x hx=>by have:=k.flt f x hx;show x.toNat<nx.toNat;omega⟩,by omega,?_,b0,b2,b1,?_,?_,by show h.next.toNat≤nx.toNat;omega,fun b sz els f ro hb=>by
  rcases a0 b _ hb with⟨rfl,e⟩|⟨_,hb1⟩
  ·exact .inl (by rw [hf _ _ _ _ e.symm];exact aA _)
  ·exact .inr ⟨b,sz,els,ro,hb1⟩⟩
 ·intro b a4 hb;rcases a0 b a4 hb with⟨rfl,rfl⟩|⟨a5,hb⟩
  ·exact⟨l,by simp,b7 _ a9⟩
  ·obtain⟨l',a6,ho⟩:=k.obj b a4 hb;exact⟨l',by simp [a5,a6],ho.keep a9 (a1 _ (k.lt _ _ a6))⟩
 ·intro b l' hb;show b.toNat<nx.toNat
  by_cases e:b=h.next
  ·subst e;omega
  ·simp [e] at hb;have:=k.dom _ _ hb;omega
 ·intro b b' b4 b5 l1 l2 hb a7 a3 a2 a5 a8;rcases a0 b b4 hb with⟨rfl,rfl⟩|⟨hn1,hb1⟩<;>rcases a0 b' b5 a7 with⟨rfl,rfl⟩|⟨hn2,hb2⟩
  ·exact absurd rfl a5
  ·simp at a3;simp [hn2] at a2;have:=k.lt _ _ a2;subst a3;omega
  ·simp at a2;simp [hn1] at a3;have:=k.lt _ _ a3;subst a2;omega
  ·simp [hn1] at a3;simp [hn2] at a2;exact k.sep b b' b4 b5 l1 l2 hb1 hb2 a3 a2 a5 a8
 ·intro b b' sz els f ro b9 els' ro' hb a7 a5;rcases a0 b _ hb with⟨rfl,e1⟩|⟨hn1,hb1⟩<;>rcases a0 b' _ a7 with⟨rfl,e2⟩|⟨hn2,hb2⟩
  ·exact absurd rfl a5
  ·have:=hf _ _ _ _ e1.symm;have:=k.famlt _ _ _ _ _ hb2;subst f;omega
  ·have:=hf _ _ _ _ e2.symm;have:=k.famlt _ _ _ _ _ hb1;subst f;omega
  ·exact k.fam b b' _ _ _ _ _ _ _ hb1 hb2 a5
 ·intro f;refine(k.ord f).imp ?_;intro x y b8 sz els f1 ro b9 els' f2 ro' l1 l2 hx hy a3 a2 a8;rcases a0 x _ hx with⟨rfl,e1⟩|⟨hn1,hb1⟩<;>rcases a0 y _ hy with⟨rfl,e2⟩|⟨hn2,hb2⟩
  ·rw [a3] at a2;cases a2;rw [←e1] at e2;cases e2;exact aA _
  ·simp at a3;simp [hn2] at a2;have:=k.lt _ _ a2;subst a3;omega
  ·simp at a2;simp [hn1] at a3;have:=k.lt _ _ a3;subst a2;omega
  ·simp [hn1] at a3;simp [hn2] at a2;exact b8 _ _ _ _ _ _ _ _ _ _ hb1 hb2 a3 a2 a8
 ·intro b l' hb
  by_cases e:b=h.next
  ·subst e;simp at hb;subst hb;exact a2
  ·simp [e] at hb;have:=k.lt _ _ hb;omega
 ·intro b sz els f ro hb;show f.toNat<nx.toNat;rcases a0 b _ hb with⟨rfl,e1⟩|⟨hn1,hb1⟩
  ·have:=hf _ _ _ _ e1.symm;subst this;omega
  ·have:=k.famlt _ _ _ _ _ hb1;omega
 ·intro B hB _;exact a1 B hB
 ·intro b a4 l' hb a6;rcases a0 b a4 hb with⟨rfl,rfl⟩|⟨a5,hb⟩
  ·simp at a6;subst a6;exact .inl (by omega)
  ·simp [a5] at a6;exact .inr ⟨b,a4,l',hb,a6,rfl,id⟩
 ·intro b l' hb c0;have:b≠h.next:=fun e=>by subst e;omega
  simpa [this] using hb
def Fr.later (k:HR m h w) (b3:w.heap.size≤w'.heap.size)
  (a1:∀B,B<w.heap.size→w'.heap[B]?=w.heap[B]?) (b0:w'.os=w.os) (b2:w'.tape=w.tape) (b1:w'.output=w.output):Fr m h w m h w':=by
 refine⟨fun _ _ e=>e,⟨?_,k.dom,k.sep,k.fam,k.ord,fun b l hb=>aR (k.lt b l hb) b3,k.famlt,k.flt⟩,b3,fun B hB _=>a1 B hB,b0,b2,b1,?_,fun b l hb _=>hb,aA _,?_⟩
 ·intro b ob hb;obtain⟨l,hl,ho⟩:=k.obj b ob hb;exact⟨l,hl,ho.keep (fun _ _ e=>e) (a1 _ (k.lt _ _ hl))⟩
 ·intro b ob l hb hl;exact .inr ⟨b,ob,l,hb,hl,rfl,id⟩
 ·intro b sz els f ro hb;exact .inr ⟨b,sz,els,ro,hb⟩
end
section
variable {P:Program} {m:Mp} {w:Wo}
def MV (k:HR m h w) {b:Id} {o:Nat} {v:V} {l:Loc} (hl:m b=some l) (hv:rd1 h b o=some v):∃u',w.cell? ⟨l.blk,l.base+o,none⟩=some u'∧R m v u':=by
 unfold rd1 at hv;cases hb:aB b h.mem with
 |none=>rw [hb] at hv;cases hv
 | some ob=>
  rw [hb] at hv;cases ob with
  |map _ _=>cases hv
  |miter _ _ _ _=>cases hv
  | cells sz els f ro=>
   have a0:(Option.rec (motive:=fun _=>Option V) none (fun el=>lF el (Nat.mod o sz)) (mC els (Nat.div o sz)):Option V)=some v:=hv;rw [wU] at a0;cases he:els[Nat.div o sz]? with
   |none=>rw [he] at a0;cases a0
   | some el=>
    rw [he] at a0;have a3:lF el (o%sz)=some v:=a0;rw [rY] at a3;obtain⟨l2,hl2,C,t2,fz,hcs⟩:=k.obj _ _ hb;rw [hl] at hl2;cases hl2;have a9:=(aM.1 a3).1;have a2:=hcs.each el (aV he);have hf:=flat_get hcs.each he (o%sz) (by omega);rw [a3] at hf;obtain⟨u',hu',hR,_⟩:=hcs.val _ _ hf;have hi:Nat.div o sz*sz+o%sz=o:=by
     have:=lS o sz;rw [cP] at this;exact this
    rw [hi] at hu';exact⟨u',by rw [uW hcs.at_,hu'],hR⟩
def wM (h:H) (b:Id):Nat→Nat→Option (List Int)
 |0,_=>some []
 |n+1,o=>match rd1 h b o with
  |some (.i .i64 z)=>(match wM h b n (Nat.succ o) with|some l=>some (z::l)|none=>none)
  |_=>none
def EF {h:H} (k:HR m h w) {b:Id} {l:Loc} (hl:m b=some l):∀(n o:Nat) (zs:List Int),wM h b n o=some zs→zs.length=n∧∀j,j<n→w.cell? ⟨l.blk,l.base+(o+j),none⟩=some (.int .i64 (zs[j]?.getD 0))
 |0,o,zs,hz=>by cases hz;exact⟨rfl,fun j hj=>absurd hj (by omega)⟩
 | n+1,o,zs,hz=>by
  unfold wM at hz;split at hz
  ·rename_i z a7;split at hz
   ·rename_i b0 a8;cases hz;obtain⟨h1,h2⟩:=EF k hl n _ _ a8;obtain⟨u,hu,hR⟩:=MV k hl a7;simp only [R] at hR;subst hR;refine⟨by simp [h1],fun j hj=>?_⟩;cases j with
    |zero=>simpa using hu
    |succ j=>have:=h2 j (by omega);rw [show o+(j+1)=Nat.succ o+j by omega];simpa using this
   ·cases hz
  ·cases hz
def qC:List Int→List (List V)
 | []=>[]
 |z::l=>[.i .i64 z]::qC l
def EN:∀(zs:List Int),(qC zs).flatten=zs.map (V.i .i64)
 | []=>rfl
 |z::l=>by simp [qC,EN l]
def NP:∀(zs:List Int),∀el∈qC zs,el.length=1
 | [],el,h=>by simp [qC] at h
 |z::l,el,h=>by
  simp only [qC,cM] at h;rcases h with rfl|h
  ·rfl
  ·exact NP l el h
def seqG (fv el:Nat):FOp:=⟨fun _ args h=>match args with
 | [.sn,.fn (.func g) [] [.p b o]]=>bif Nat.beq g fv then(match rd1 h b o with
   |some (.sl b2 o2 len _)=>bif Nat.ble len 1000000 then(match wM h b2 len o2 with
    |some []=>.ok .sn h
    |some (z::zs)=>mD el h 1 (qC (z::zs)) (fun i=>.sl i 0 len 1)
    |none=>.bad) else .bad
   |_=>.bad) else .bad
 |_=>.bad⟩
def SeqDoes (P:Program) (f fv el:Nat):Prop:=
 (∀args w,(callFunc f args).run P w= .ok (.enter f args) w)∧
 ∀(w:Wo) (Bs oB b off cap:Nat) (zs:List Int),zs.length≤1000000→Bs<w.heap.size→b<w.heap.size→w.cell? ⟨Bs,oB,none⟩=some (.slice (some ⟨b,off,none⟩) zs.length cap)→
  (∀j,j<zs.length→w.cell? ⟨b,off+j,none⟩=some (.int .i64 (zs[j]?.getD 0)))→
  Calls P f #[.slice none 0 0,.func (.func fv) #[] #[.pointer (some ⟨Bs,oB,none⟩)]] w fun e w'=>∃v:Value,e= .returned v∧w'.ownsRow w.heap.size el 1 v zs.length (zs.map (Value.int .i64))∧(v= .slice none 0 0↔zs= [])∧RowKit.Below w.heap.size w w'
def YM {f fv el:Nat} (hD:SeqDoes P f fv el) {call:bR} {vs:List V} {us:Lv} {h h':H} {v:V} (hr:HR m h w) (hR:Rl m vs us) (hv:(seqG fv el).run call vs h= .ok v h'):cO P ((callFunc f ⟨us⟩).run P w) m h w v h':=by
 simp only [seqG] at hv;split at hv
 ·rename_i g b o;have hg:g=fv:=by
   cases e:Nat.beq g fv with
   |false=>rw [e] at hv;cases hv
   |true=>exact aT e
  subst hg;rw [show Nat.beq g g=true from VL g] at hv;simp only [cS] at hv;simp only [Rl,R] at hR;obtain⟨u0,us0,rfl,rfl,u1,us1,rfl,⟨a',c',rfl,rfl,u2,us2,rfl,⟨l,hl,rfl⟩,rfl⟩,rfl⟩:=hR;split at hv
  ·rename_i b2 o2 len sz a6;cases hle:Nat.ble len 1000000 with
   |false=>rw [hle] at hv;cases hv
   | true=>
    rw [hle] at hv;simp only [cS] at hv;have a2:=cQ hle;obtain⟨us,hus,hRs⟩:=MV hr hl a6;simp only [R] at hRs;obtain⟨l2,cap,hl2,rfl,hcap,hlim⟩:=hRs;obtain⟨a5,hcalls⟩:=hD;have a4:∀zs,wM h b2 len o2=some zs→(∀(w':Wo) (v':Value),w'.ownsRow w.heap.size el 1 v' zs.length (zs.map (Value.int .i64))→(v'= .slice none 0 0↔zs= [])→RowKit.Below w.heap.size w w'→∃m',Fr m h w m' h' w'∧R m' v v')→cO P ((callFunc f ⟨[.slice none 0 0,.func (.func g) ⟨[]⟩ ⟨[.pointer (some ⟨l.blk,l.base+o,none⟩)]⟩]⟩).run P w) m h w v h':=by
     intro zs hz a1;obtain⟨h1,h2⟩:=EF hr hl2 len o2 zs hz;refine .inr ⟨f,_,a5 _ w,(hcalls w l.blk (l.base+o) l2.blk (l2.base+o2) cap zs (by omega) (hr.lt _ _ hl) (hr.lt _ _ hl2) (by rw [h1];exact hus) (fun j hj=>by rw [mU];exact h2 j (by omega))).mono ?_⟩;rintro e w' ⟨v',rfl,h3,h4,h5⟩;obtain⟨m',hF,hRv⟩:=a1 w' v' h3 h4 h5;exact⟨v',m',rfl,hF,hRv⟩
    split at hv
    ·rename_i hz;cases hv;refine a4 _ hz ?_;intro w' v' h3 h4 h5;exact⟨m,Fr.later hr h5.size h5.block h5.os h5.tape h5.output,by simp only [R];exact h4.2 rfl⟩
    ·rename_i z zs hz;refine a4 _ hz ?_;intro w' v' h3 h4 h5;obtain⟨nx,hnx,rfl,rfl⟩:=AG hv;obtain⟨h1,_⟩:=EF hr hl2 len o2 _ hz;rcases h3.2 with⟨e,_⟩|⟨g',cap',cur,rfl,hge,hg',hle',hmax,hsz,htake⟩
     ·cases h4.1 e
     ·refine⟨_,Fr.newIn hr hnx (.cells 1 (qC (z::zs)) h.next (.rw el)) ⟨g',0,cur.size⟩ hge ?_ h5.block h5.os h5.tape h5.output (fun _ _ _ _ e=>by cases e;rfl) (by simp [jJ]) ?_,?_⟩
      ·exact(aG.1 hg').1
      ·intro m' hm;refine⟨cur,el,(0,0),⟨hg',by simp,?_,NP _,?_,?_,fun _ _=>rfl,fun ty e=>by cases e;rfl,CZ _⟩⟩
       ·rw [EN,jE];show(z::zs).length≤cur.size;omega
       ·intro i v hv;rw [EN] at hv;have hi:i<(z::zs).length:=by have:=(aM.1 hv).1;simpa using this
        have hc:cur.toList[i]?=((z::zs).map (Value.int .i64))[i]?:=by
         rw [←htake,iY (by omega)]
        rw [gO] at hv hc;rw [bM hi] at hv hc;cases hv;refine⟨_,by show cur[0+i]?=_;rw [bT,←gP];exact hc,by simp [R],by simp [dR]⟩
       ·intro _ i _;show¬(0≤_∧_<0);omega
      ·simp only [R];exact⟨⟨g',0,cur.size⟩,cap',by simp,by simp;omega,by omega,by show 0+cap'*1≤cur.size;omega⟩
    ·cases hv
  ·cases hv
 ·cases hv
end
end
end Go.Ev
