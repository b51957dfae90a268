/- Lemmas for the text Card; no condition. -/
import Derived.Test.YtbdpdeonapmlgaaGreatDoorBd
import Derived.Defers
set_option linter.all false
namespace Go.Ev
noncomputable section
variable {n g sz j:Nat} {a:Act} {ops:Array Oper} {e e':Env} {t:TypeId} {c:List V} {w0 w':World} {h h0:H} {call:bP} {m0 m':Mp}
section
variable {P:Program} {m:Mp} {w:World}
theorem EE {n:Nat} {e:Env} {h':H} {o:Oper} {v:V} {r:Result Next} (hv:cJ P r m h w v h') {next:Act→World→Prop} {Q:Exit→Act→World→Prop}
  (hn:∀u m' w',Fr m h w m' h' w'→R m' v u→next (a.put o.dst u) w'):o.upon P a next Q r:=by
 rcases hv with⟨u,w',m',h1|⟨h1,h2⟩,hF,hR⟩|⟨f,us,h1,hC⟩
 ·rw [h1,wP];exact hn u m' w' hF hR
 ·rw [h1,Oper.upon_skip,←h2];exact hn u m' w' hF hR
 ·rw [h1,Oper.upon_enter];refine Calls.mono hC ?_;rintro x w' ⟨u,m',rfl,hF,hR⟩;exact hn u m' w' hF hR
def qM (n:Nat):Option Tmp→Bool
 |none=>true
 |some d=>Nat.ble (Nat.succ d) n
theorem QK (a1:eN P call) (k:bD m n e a) (hg:Gl P m) {h h':H} (hr:HR m h w) {o:Oper} (a0:o.op.operands.toList.all (cO P n)=true) (hd:qM n o.dst=true)
  (hv:(AM P o).run call e h= .ok e' h') {next:Act→World→Prop} {Q:Exit→Act→World→Prop}
  (hn:∀m' a' w',Fr m h w m' h' w'→bD m' n e' a'→next a' w'):o.wp P a w next Q:=by
 unfold Oper.wp;unfold AM at hv;split at hv
 ·rename_i f ts a2;rw [a2] at a0;simp [Op.operands,Call.operands] at a0;have hF:=cS k hg a0;obtain⟨L,hL,hDf⟩:=k.dfr;cases hD:o.dst with
  |some d=>rw [hD] at hv;cases hv
  |none=>
  rw [hD] at hv;simp only [hL] at hv;split at hv
  ·rename_i g A B l e1 e2;cases hv;cases e2;rw [e1] at hF;simp only [R] at hF;obtain⟨a',c',hu,hA,hB⟩:=hF;have a3:(execOp a.eval o).run P w= .ok (.defer { target:=.fn g ⟨c'⟩,args:=⟨a'⟩ }) w:=by
    simp [execOp,a2,resolve,hu,Deferred.ofValue]
   rw [a3,Oper.upon_defer,hD];refine hn m _ w (Fr.refl hr) ⟨k.size,k.le,fun t ht=>?_,_,by rw [sR],?_⟩
   ·have a4:=k.le;rw [pG (by omega) (by unfold fG;omega) (by unfold fG;omega)];exact k.val t ht
   ·exact⟨a',c',_,rfl,hA,hB,hDf⟩
  ·cases hv
 ·cases hH:isHeavy o.op<;>cases hD:o.dst<;>rw [hH,hD] at hv<;>simp only at hv
  ·cases hl:(nO P o.op).run e h with
   |none=>rw [hl] at hv;cases hv
   |some v=>
    rw [hl] at hv;cases hv;obtain⟨u,h1,h2⟩:=yY k hg hr a0 hl;rw [h1,wP,hD];exact hn m a w (Fr.refl hr) k
  ·rename_i d;cases hl:(nO P o.op).run e h with
   |none=>rw [hl] at hv;cases hv
   |some v=>
    rw [hl] at hv;cases hv;obtain⟨u,h1,h2⟩:=yY k hg hr a0 hl;rw [h1,wP,hD];rw [hD] at hd;exact hn m _ w (Fr.refl hr) (k.set (cK hd) h2)
  ·cases hl:(pB P o.op).run call e h with
   |bad=>rw [hl] at hv;cases hv
   |ok v hx=>
    rw [hl] at hv;cases hv;refine EE (n:=n) (e:=e) (EF a1 k hg hr a0 hl) ?_;intro u m' w' hF hR;rw [hD];exact hn m' a w' hF (k.mono hF.le)
  ·rename_i d;cases hl:(pB P o.op).run call e h with
   |bad=>rw [hl] at hv;cases hv
   |ok v hx=>
    rw [hl] at hv;cases hv;refine EE (n:=n) (e:=e) (EF a1 k hg hr a0 hl) ?_;intro u m' w' hF hR;rw [hD];rw [hD] at hd;exact hn m' _ w' hF ((k.mono hF.le).set (cK hd) hR)
end
section
variable (P:Program)
structure NV where
  ob:Id→O
  v:Id→V
structure NOp where
  run:Env→Option NV
def qU:NOp:=⟨fun _=>none⟩
def nJ (ty:Nat) (sz:Nat) (els:List (List V)) (vf:Id→V):NV:=⟨fun i=>.cells sz els i (.rw ty),vf⟩
def oT:Op→NOp
  | .alloc t=>(match fJ P t with
    | some z=>(match dE z with
      |some c=>⟨fun _=>some (nJ t (dP c) [c] (fun i=>.p i 0))⟩
      |none=>qU)
    |none=>qU)
  | .box t x=>⟨fun e=>match dE ((aF x).run e) with|some c=>some (nJ t (dP c) [c] (fun i=>.p i 0))|none=>none⟩
  | .buildSlice t len ps=>(match P.underlying t with
    | some (.slice el)=>(match bH P el,fJ P el with
      | some (sz+1),some z=>(match dE z with
        |some zc=>bif Nat.ble (len*(sz+1)) 16777216&&Nat.beq (dP zc) (sz+1) then
            ⟨fun e=>match gY (fun i=>some (i*(sz+1),sz+1)) ((iY zc len).flatten) ((kM ps.toList).run e) with
              |some cs=>some (nJ el (sz+1) (mO (sz+1) len cs) (fun i=>.sl i 0 len (sz+1)))
              |none=>none⟩ else qU
        |none=>qU)
      |_,_=>qU)
    |_=>qU)
  | .makeMap _ none=>⟨fun _=>some ⟨fun _=>.map [] 0,fun i=>.mp i⟩⟩
  |_=>qU
def BS:Env:=N8.all (N8.all (N8.all .top))
def bW (e:Env):List Nat→Env
  | []=>gU fG (bN fG e) BS
  |t::l=>gU t (bN t e) (bW e l)
def II (l:List Operand):List Nat:=l.filterMap (fun| .tmp t=>some t|_=>none)
def gDst (ops:List Oper) (o:Oper):Option Nat:=match o.guard with|some (g,_)=>(jS ops g).bind (·.dst)|none=>none
def cE (ops:List Oper) (o:Oper):List Nat:=II o.op.operands.toList++(gDst ops o).toList
def gdC (ops:List Oper) (o:Oper) (e:Env):Option Bool:=
  match o.guard with
  |none=>some true
  | some (j,want)=>match (jS ops j).bind (·.dst) with
    |none=>none
    | some g=>match bN g e with
      | .b b=>some (b==want)
      | .tup []=>some false
      |_=>none
def oX (ops:List Oper) (o:Oper) (e:Env) (h:H):Option V:=
  match gdC ops o e with
  |some true=>(nO P o.op).run e h
  |some false=>some cI
  |none=>none
def hvC (op:Op) (call:bP) (e:Env) (h:H):VH:=
  bif isHeavy op then(pB P op).run call e h else vhO h ((nO P op).run e h)
inductive Kn where
  |light|new|heavy
def Kn.isHeavy:Kn→Bool| .heavy=>true|_=>false
def dstIs (d:Nat) (o:Oper):Bool:=match o.dst with|some d'=>Nat.beq d' d|none=>false
def xC (ops:List Oper) (d:Nat) (o:Oper):Bool:=nK d (cE ops o)||dstIs d o
def sK (ops:List Oper) (bef:List Nat) (i:Nat) (o:Oper):Bool:=
  match o.dst with
  |none=>false
  |some d=>nK d (cE ops o)||(iU 0 ops).any (fun x=>!Nat.beq x.1 i&&(xC ops d x.2&& !Nat.testBit (natAt bef x.1) i))
def fL (ops:List Oper) (bef:List Nat) (i:Nat) (o:Oper):Kn:=
  bif sK ops bef i o then .heavy else bif isNew o.op then .new else bif isHeavy o.op then .heavy else .light
structure PN where
  idx:Nat
  id:Id
  ob:O
structure PC where
  idx:Nat
  chk:H→Bool
def ED:Id:=⟨.d7,.d7,.d7,.d7,.d7⟩
def hq (h:H):H:=⟨h.mem,h.fams,ED⟩
def dH (p:Nat→Bool):List PN→Mem→Mem
  | [],m=>m
  |x::l,m=>bif p x.idx then dC x.id (some x.ob) (dH p l m) else dH p l m
def eJ (p:Nat→Bool) (pn:List PN) (h:H):H:=⟨dH p pn h.mem,h.fams,h.next⟩
def fV (d:Option Nat) (v:V) (e:Env):Env:=match d with|some d=>gU d v e|none=>e
def eqO (v:V) (x:Option V):Bool:=match x with|some v'=>V.beq v v'|none=>false
def rX (h:H):List PC→Bool
  | []=>true
  |c::l=>c.chk h&&rX h l
structure DOp2 where
  run:bP→Env→H→List PN→List PC→Rs
def jU:DOp2:=⟨fun _ e h pn _=>.ok e (eJ (fun _=>true) pn h)⟩
def eT (base:DOp2) (ops:List Oper) (bef:List Nat):List Nat→DOp2
  | []=>base
  | s ::l=>match jS ops s with
    |none=>⟨fun _ _ _ _ _=>.bad⟩
    | some o=>match fL ops bef s o with
      | .light=>⟨fun call e h pn pc=>match oX P ops o (bW e (cE ops o)) (hq h) with
          |none=>.bad
          |some v=>(eT base ops bef l).run call (fV o.dst v e) h pn (⟨s,fun h'=>eqO v (oX P ops o (bW e (cE ops o)) h')⟩::pc)⟩
      | .new=>⟨fun call e h pn pc=>match gdC ops o (bW e (cE ops o)) with
          |some true=>(match (oT P o.op).run (bW e (cE ops o)),Id.succ h.next with
             |some nv,some nx=>(eT base ops bef l).run call (fV o.dst (nv.v h.next) e) ⟨h.mem,h.fams,nx⟩ (⟨s,h.next,nv.ob h.next⟩::pn) pc
             |_,_=>.bad)
          |some false=>(eT base ops bef l).run call (fV o.dst cI e) h pn pc
          |none=>.bad⟩
      | .heavy=>⟨fun call e h pn pc=>match gdC ops o (bW e (cE ops o)) with
          | some true=>(match hvC P o.op call (bW e (cE ops o)) (eJ (Nat.testBit (natAt bef s)) pn h) with
             | .ok v h'=>bif rX (hq h') (fS (fun c=>!Nat.testBit (natAt bef s) c.idx) pc) then
                 (eT base ops bef l).run call (fV o.dst v e) h' (fS (fun x=>!Nat.testBit (natAt bef s) x.idx) pn) (fS (fun c=>!Nat.testBit (natAt bef s) c.idx) pc) else .bad
             | .bad=>.bad)
          |some false=>(eT base ops bef l).run call (fV o.dst cI e) h pn pc
          |none=>.bad⟩
def JB (bef:List Nat):List Nat→List Nat→List Nat
  | [],rest=>rest
  |h::hs,rest=>fS (fun x=>!Nat.testBit (natAt bef x) h&&(!Nat.beq x h&& !nK x hs)) rest++h::JB bef hs (fS (fun x=>Nat.testBit (natAt bef x) h||nK x hs) rest)
def mC (ops:List Oper) (bef:List Nat) (tl:List Nat) (T:Nat):List Nat→Bool
  | []=>(iU 0 ops).all (fun x=>Nat.testBit T x.1||nK x.1 tl)
  |s::l=>!Nat.testBit T s&&(Nat.beq (natAt bef s&&&T) (natAt bef s)&&((jS ops s).isSome&&mC ops bef tl (T|||2^s) l))
def lR (ops:List Oper) (bef:List Nat) (tl:List Nat):List Nat→Bool
  | []=>true
  |s::l=>(match jS ops s with|some o=>!(fL ops bef s o).isHeavy||(l.all (fun x=>Nat.testBit (natAt bef x) s)&&tl.all (fun x=>Nat.testBit (natAt bef x) s))|none=>false)&&lR ops bef tl l
def jT (ops:List Oper) (s:Nat):Bool:=
  match jS ops s with
  |some o=>(match o.op,o.dst,o.guard with| .store ..,none,none=>true|_,_,_=>false)
  |none=>false
def storeAt (ops:List Oper) (s:Nat) (e:Env):Option Id:=
  match jS ops s with
  |some o=>(match o.op with| .store _ x _=>(match (aF x).run (bW e (cE ops o)) with| .p b _=>some b|_=>none)|_=>none)
  |none=>none
def oV (b:Id):List Id→Bool
  | []=>false
  |a::l=>bif Id.beq a b then true else oV b l
def CV (ops:List Oper) (s1 s2:Nat) (e:Env) (h:H) (pn:List PN):Bool:=
  match pn,storeAt ops s1 e,storeAt ops s2 e with
  | [],some b1,some b2=>(match aB b1 h.mem,aB b2 h.mem with
    |some (.cells _ _ f1 _),some (.cells _ _ f2 _)=>!Id.beq f1 f2&&(!Id.beq b1 b2&&(!oV b2 (aQ f1 h.fams)&& !oV b1 (aQ f2 h.fams)))
    |_,_=>false)
  |_,_,_=>false
def qR:List (List V)→List (List V)→Bool
  | [],[]=>true
  |a::l,b::r=>iE a b&&qR l r
  |_,_=>false
def CW (ops:List Oper) (bef:List Nat) (s1 s2:Nat):DOp2:=
  ⟨fun call e h pn pc=>match (eT P jU ops bef [s1,s2]).run call e h pn pc,(eT P jU ops bef [s2,s1]).run call e h pn pc with
    | .ok e1 h1,.ok _ _=>bif CV ops s1 s2 e h pn then .ok e1 h1 else .bad
    |_,_=>.bad⟩
def rA (ops:List Oper):Bool:=(iU 0 ops).all (fun x=>x.2.after.toList.all (fun e=>!gO e||Nat.ble (Nat.succ e.on) x.1))
def mE (ops:List Oper) (bef:List Nat):Bool:=
  (iU 0 ops).all (fun x=>match x.2.dst with
    |none=>true
    |some d=>(iU 0 ops).all (fun y=>Nat.beq y.1 x.1||(!xC ops d y.2||(Nat.testBit (natAt bef y.1) x.1||Nat.testBit (natAt bef x.1) y.1))))
def Ak (ops:List Oper) (bef:List Nat):Bool:=
  (iU 0 ops).all (fun x=>match x.2.guard with|none=>true|some (g,_)=>Nat.testBit (natAt bef x.1) g)
def BU (ops:List Oper) (bef:List Nat):List Nat→List Nat × List Nat
  | []=>([],[])
  | [a,b]=>bif jT ops a&&(jT ops b&& !Nat.testBit (natAt bef b) a) then([],[a,b]) else([a,b],[])
  |a::l=>match BU ops bef l with|(p,t)=>(a::p,t)
def wE (ops:List Oper) (bef:List Nat):List Nat→DOp2
  | [a,b]=>CW P ops bef a b
  |_=>jU
def pV (ops:List Oper) (bef:List Nat):List Nat→Bool
  | []=>true
  | [a,b]=>jT ops a&&(jT ops b&& !Nat.beq a b)
  |_=>false
def iM:List Nat→Nat
  | []=>0
  |a::l=>2^a|||iM l
def tZ (ops:List Oper) (bef:List Nat) (T:Nat):List Nat→Bool
  | [a,b]=>mC ops bef [] T [a,b]&&mC ops bef [] T [b,a]
  |_=>true
def regE (ops:List Oper):SOp:=
  match aH [] ops with
  | bef=>match JB bef ((fS (fun x=>(fL ops bef x.1 x.2).isHeavy) (iU 0 ops)).map (·.1)) ((iU 0 ops).map (·.1)) with
    | pl0=>match BU ops bef pl0 with
      | (pl,tl)=>bif rA ops&&(mE ops bef&&(Ak ops bef&&(mC ops bef tl 0 pl&&(lR ops bef tl pl&&(pV ops bef tl&&tZ ops bef (iM pl) tl))))) then
        ⟨fun call e h=>(eT P (wE P ops bef tl) ops bef pl).run call e h [] []⟩
      else⟨fun _ _ _=>.bad⟩
end
section
variable {P:Program} {m:Mp} {w:World}
def NewOk (P:Program) (s:Sem Value) (m:Mp) (w:World) (nv:NV):Prop:=
 ∃u o l w',s.run P w= .ok u w'∧w'.heap=w.heap.push o∧w'.os=w.os∧w'.tape=w.tape∧w'.output=w.output∧l.blk=w.heap.size∧
  (∀i,iI (nv.ob i))∧(∀i sz els f ro,nv.ob i= .cells sz els f ro→f=i)∧
  (∀i (m':Mp),m.le m'→∀w2:World,w2.heap[w.heap.size]?=some o→ObjAt m' w2 l (nv.ob i))∧(∀i (m':Mp),m' i=some l→R m' (nv.v i) u)
theorem DJ {els:List (List V)} (he:∀el∈els,el.length=sz)
  {us:List Value} (hR:Rl m els.flatten us) (hs:∀x∈us,cZ x) {C:Array Value} {extra:List Value} (hC:C.toList=us++extra) (t:TypeId) (fz:Nat × Nat)
  (a7:fz.1=fz.2∨(sz=1∧C.size≤fz.1)) (vf:Id→V) {s:Sem Value} {u:Value} {w':World} (a3:s.run P w= .ok u w') (hw:w'.heap=w.heap.push (.cells C t fz)) (h1:w'.os=w.os) (h2:w'.tape=w.tape) (h3:w'.output=w.output)
  (hv:∀i (m':Mp),m' i=some ⟨w.heap.size,0,C.size⟩→R m' (vf i) u):NewOk P s m w (nJ t sz els vf):=by
 have a1:C.size=us.length+extra.length:=by rw [←cV,hC];simp
 refine⟨u,.cells C t fz,⟨w.heap.size,0,C.size⟩,w',a3,hw,h1,h2,h3,rfl,fun _=>by simp [iI,nJ],fun i _ _ _ _ e=>by cases e;rfl,?_,hv⟩;intro i m' hm w' a4;refine⟨C,t,fz,⟨a4,by simp,?_,he,?_,?_,?_,fun ty e=>by cases e;rfl,AX _⟩⟩
 ·show els.flatten.length≤C.size;rw [←hR.length];omega
 ·intro i x hx;obtain⟨u,hu,hRu⟩:=hR.get hx;have hi:=(List.getElem?_eq_some_iff.1 hu).1;refine⟨u,?_,hRu.mono hm,hs u (aX hu)⟩;show C[0+i]?=some u;rw [cG,←gQ,hC,eG hi,hu]
 ·intro _ i hi;show¬(fz.1≤0+i∧0+i<fz.2);have b3:i<C.size:=hi;rcases a7 with h1|⟨_,h2⟩<;>omega
 ·intro _ hz;rcases a7 with h1|⟨h1,_⟩
  ·exact h1
  ·exact absurd h1 hz
theorem Fs {z:V} (hz:fJ P t=some z) (hc:dE z=some c):NewOk P (Instr.alloc t true (.tuple #[])) m w (nJ t (dP c) [c] (fun i=>.p i 0)):=by
 obtain⟨uz,hzr,rfl,_⟩:=lI (w:=w) hz;obtain⟨c',h1,h2,h3⟩:=pH (m:=m) hc;exact DJ (by simp [jD]) (us:=c') (by simpa using h2) h3 (C:=uz.cells) (extra:=[]) (by rw [h1];simp) t (0,0) (.inl rfl) _
  (u:=.pointer (some ⟨w.heap.size,0,none⟩)) (w':={ w with heap:=w.heap.push (.cells uz.cells t (0,0)) }) (by simp [Instr.alloc,hzr,newVar,newRow]) rfl rfl rfl rfl (fun i m' hm=>by simp only [R];exact⟨_,hm,rfl⟩)
theorem Eh {x:V} {u:Value} (hx:R m x u) (hc:dE x=some c):NewOk P (Instr.box t u) m w (nJ t (dP c) [c] (fun i=>.p i 0)):=by
 obtain⟨c',h1,h2,h3⟩:=vX hx hc;exact DJ (by simp [jD]) (us:=c') (by simpa using h2) h3 (C:=u.cells) (extra:=[]) (by rw [h1];simp) t (0,0) (.inl rfl) _
  (u:=.pointer (some ⟨w.heap.size,0,none⟩)) (w':={ w with heap:=w.heap.push (.cells u.cells t (0,0)) }) (by simp [Instr.box,newVar,newRow]) rfl rfl rfl rfl (fun i m' hm=>by simp only [R];exact⟨_,hm,rfl⟩)
theorem YX {x:Option Value} (hx:x=none∨(∃kt et kk n,P.underlying t=some (.map kt et)∧x=some (.int kk n))):NewOk P (Instr.makeMap t x) m w ⟨fun _=>.map [] 0,fun i=>.mp i⟩:=by
 refine⟨.map (some w.heap.size),.map #[] 0,⟨w.heap.size,0,0⟩,{ w with heap:=w.heap.push (.map #[] 0) },?_,rfl,rfl,rfl,rfl,rfl,fun _=>trivial,?_,?_,?_⟩
 rotate_left
 ·intro i sz els f ro e;simp at e
 ·intro i m' hm w' a4;exact⟨[],a4,by simp [bL]⟩
 ·intro i m' hm;simp only [R];exact⟨_,hm,rfl⟩
 rcases hx with rfl|⟨kt,et,kk,n,hu,rfl⟩
 ·simp [Instr.makeMap]
 ·simp [Instr.makeMap,dV hu,asInt,asIntOf]
theorem Ef (ke:bD m n e a) (hg:Gl P m) {t el:TypeId} {len sz:Nat} {z:V} {zc:List V} {ps:Array (Nat × Operand)} (hu:P.underlying t=some (.slice el))
  (hx:(ps.toList.map (·.2)).all (cO P n)=true) (hs:bH P el=some (sz+1)) (hz:fJ P el=some z) (hc:dE z=some zc) (b4:len*(sz+1)≤16777216) (a9:zc.length=sz+1) {cs:List V}
  (hb:gY (fun i=>some (i*(sz+1),sz+1)) ((iY zc len).flatten) ((kM ps.toList).run e)=some cs):
  NewOk P (Instr.buildSlice t len (ps.map fun(i,x)=>(i,a.eval x))) m w (nJ el (sz+1) (mO (sz+1) len cs) (fun i=>.sl i 0 len (sz+1))):=by
 obtain⟨p1,p2⟩:=yC ke hg hx;have b1:(ps.map fun(i,x)=>(i,a.eval x)).toList=ps.toList.map fun x=>(x.1,a.eval x.2):=by simp
 obtain⟨uz,hzr,rfl,_⟩:=lI (w:=w) hz;obtain⟨a6,h1,h2,h3⟩:=pH (m:=m) hc;have a5:uz.cells.size=sz+1:=by rw [h1];show a6.length=_;rw [h2.length,a9]
 obtain⟨r',hr1,hr2,hr3⟩:=zV _ _ p1 p2 (h2.rep len) (xR h3 len) hb;have a2:((Array.range (len*(sz+1))).map (uz.cells[· %uz.cells.size]!))=⟨(List.replicate len a6).flatten⟩:=by
  apply Array.toList_inj.1;rw [←a5,wX uz.cells len (by omega),h1]
 have a1:cs.length=len*(sz+1):=by
  have hl:∀(ps:List (Nat × V)) (c r:List V),gY (fun i=>some (i*(sz+1),sz+1)) c ps=some r→r.length=c.length:=by
   intro ps
   induction ps with
   |nil=>intro c r h;have:c=r:=aJ (by simpa [gY] using h);rw [this]
   | cons p ps ih=>
    intro c r h;obtain⟨i,x⟩:=p;unfold gY at h;simp only at h;cases hq:dE x with
    |none=>rw [hq] at h;cases h
    | some c0=>
     rw [hq] at h;simp only at h;cases hb:Nat.beq (dP c0) (sz+1) with
     |false=>rw [hb] at h;cases h
     | true=>
      rw [hb] at h;simp only [cN] at h;cases ho:gE (i*(sz+1)) c c0 with
      |none=>rw [ho] at h;cases h
      |some c2=>
       rw [ho] at h;obtain⟨h5,h6⟩:=rY _ _ _ ho;rw [ih _ _ h,h6];simp only [aK,aU,cX];omega
  have:=hl _ _ _ hb;rw [this,uG];have:∀k,((List.replicate k zc).flatten).length=k*(sz+1):=by
   intro k;induction k with
   |zero=>simp
   |succ k ih=>rw [lW,iS,aK,ih,a9,gI];omega
  exact this len
 obtain⟨c1,c2,c3⟩:=FC len cs a1;refine DJ c2 (us:=r') (by rw [c1];exact hr2) hr3 (C:=⟨r'⟩) (extra:=[]) (by simp) el (0,0) (.inl rfl) _ (u:=.slice (some ⟨w.heap.size,0,none⟩) len len) (w':={ w with heap:=w.heap.push (.cells ⟨r'⟩ el (0,0)) }) ?_ rfl rfl rfl rfl ?_
 ·have a8:¬(len*(sz+1)>2^24):=by omega
  rw [←b1] at hr1
  by_cases h0:len*(sz+1)=0
  ·have b0:len=0:=by
    rcases Nat.mul_eq_zero.1 h0 with h|h
    ·exact h
    ·omega
   subst b0;simp only [Instr.buildSlice,aY,bQ hu,cF,gM hs,wN,if_neg a8,if_pos h0,bZ];have e0:((Array.range (0*(sz+1))).map fun x=>(#[]:Array Value)[x%(#[]:Array Value).size]!)=(⟨(List.replicate 0 a6).flatten⟩:Array Value):=by simp
   simp only [e0,hr1,aY,newRow,GJ,cF,bZ]
  ·simp only [Instr.buildSlice,aY,bQ hu,cF,gM hs,wN,if_neg a8,if_neg h0,bZ,hzr,a2,hr1,newRow,GJ]
 ·intro i m' hm;simp only [R];refine⟨_,len,hm,by simp,aA _,?_⟩;show 0+len*(sz+1)≤r'.length;rw [hr2.length];omega
theorem YD (k:bD m n e a) (hg:Gl P m) {o:Oper} (a0:o.op.operands.toList.all (cO P n)=true) {nv:NV}
  (hv:(oT P o.op).run e=some nv):∃s:Sem Value,execOp a.eval o=(do pure (Next.value (←s)):Sem Next)∧NewOk P s m w nv:=by
 obtain⟨dst,op,type,pos,after,guard⟩:=o;simp only at a0 hv;have b2:∀{x:Operand},cO P n x=true→R m ((aF x).run e) (a.eval x):=fun hx=>cS k hg hx
 cases op<;>simp only [oT] at hv<;>(try (cases hv;done))
 case alloc t=>
  split at hv
  ·rename_i z hz;split at hv
   ·rename_i c hc;cases hv;exact⟨_,rfl,Fs hz hc⟩
   ·cases hv
  ·cases hv
 case box t x=>
  have hX:=b2 (show cO P n x=true by simpa [Op.operands] using a0);cases hc:dE ((aF x).run e) with
  |none=>simp only [hc] at hv;cases hv
  |some c=>
   simp only [hc] at hv;cases hv;exact⟨_,rfl,Eh hX hc⟩
 case makeMap t r=>
  cases r with
  |none=>cases hv;exact⟨_,rfl,YX (.inl rfl)⟩
  |some x=>cases hv
 case buildSlice t len ps=>
  split at hv
  ·rename_i el hu;split at hv
   ·rename_i sz z hs hz;split at hv
    ·rename_i zc hc;cases hcd:(Nat.ble (len*(sz+1)) 16777216&&Nat.beq (dP zc) (sz+1)) with
     |false=>rw [hcd] at hv;cases hv
     | true=>
      rw [hcd] at hv;simp only [cN] at hv;simp only [aM] at hcd;split at hv
      ·rename_i cs hb;cases hv;exact⟨_,rfl,Ef k hg hu (by simpa [Op.operands] using a0) hs hz hc (cK hcd.1) (by rw [←jD];exact aV hcd.2) hb⟩
      ·cases hv
    ·cases hv
   ·cases hv
  ·cases hv
end
section
variable {P:Program} {m:Mp} {w:World}
theorem jR:∀(l:List Oper) (i:Nat),jS l i=l[i]?
 | [],_=>by simp [jS]
 |a::_,0=>by simp [jS]
 |_::l,i+1=>by simp [jS,jR l i]
def KQ (P:Program) (n:Nat) (o:Oper):Bool:=o.op.operands.toList.all (cO P n)&&qM n o.dst
def eX (P:Program) (n:Nat) (ops:Array Oper):Bool:=ops.toList.all (KQ P n)
theorem iK (h:eX P n ops=true) {i:Nat} {o:Oper} (ho:ops[i]?=some o):o.op.operands.toList.all (cO P n)=true∧qM n o.dst=true:=by
 have hm:o∈ops.toList:=by
  rw [←gQ] at ho;exact aX ho
 have:=(jM.1 h) o hm;simpa [KQ] using this
theorem fM {d:Option Nat} (h:qM n d=true) {x:Nat} (hx:d=some x):x<n:=by
 subst hx;exact cK h
theorem TB (hg:(ops[j]?).bind (·.dst)=some g) (a6:g<a.tmps.size):
  yielded ops a.tmps j=match a.tmps.getD g undef with| .bool b=>some b|_=>none:=by
 simp only [yielded,hg,nB,a6,getElem?_pos,RK,wO];cases a.tmps[g]<;>rfl
theorem BY (k:bD m n e a) {d:Option Nat} (hd:qM n d=true):bD m n (xF d e) (a.put d undef):=by
 cases d with
 |none=>exact k
 |some d=>exact k.set (fM hd rfl) (show R m cI undef by simp [R,Rl,cI,undef])
theorem MV (a3:eX P n ops=true) {j:Nat} (hj:(ops[j]?).bind (·.dst)=some g) (hs:a.tmps.size=n) (hR:R m (bN g e) (a.tmps.getD g undef)) (a4:Bool):
  (∀b,bN g e= .b b→(yielded ops a.tmps j==some a4)=(b==a4))∧(bN g e= .tup []→(yielded ops a.tmps j==some a4)=false):=by
 have a6:g<n:=by
  cases ho:ops[j]? with
  |none=>rw [ho] at hj;cases hj
  |some oj=>rw [ho] at hj;exact fM (iK a3 ho).2 (by simpa using hj)
 rw [TB hj (by omega)];constructor
 ·intro b hb;rw [hb] at hR;simp only [R] at hR;rw [hR];cases b<;>cases a4<;>rfl
 ·intro hb;rw [hb] at hR;simp only [R,Rl] at hR;obtain⟨l,h1,rfl⟩:=hR;rw [h1];rfl
theorem CY (a0:eN P call) (k:bD m n e a) (hg:Gl P m) {h h':H} (hr:HR m h w) {ops:Array Oper} (a3:eX P n ops=true) {i:Nat} {o:Oper} (hi:ops[i]?=some o)
  (hv:(qC P ops.toList o).run call e h= .ok e' h') {K:Act→World→Prop} {Q:Exit→Act→World→Prop}
  (hn:∀m' a' w',Fr m h w m' h' w'→bD m' n e' a'→K a' w'):wpOp P ops Q i K a w:=by
 obtain⟨a5,hd⟩:=iK a3 hi;unfold wpOp;simp only [hi];unfold qC at hv;cases hgd:o.guard with
 |none=>
  rw [hgd] at hv;simp only at hv;rw [if_pos (by simp [Region.wanted,hgd])];exact .inl (QK a0 k hg hr a5 hd hv hn)
 | some jw=>
  obtain⟨j,a4⟩:=jw;rw [hgd] at hv;simp only [jR,gQ] at hv;cases hj:(ops[j]?).bind (·.dst) with
  |none=>
   rw [hj] at hv;simp only at hv;cases hv;have:Region.wanted o (yielded ops a.tmps)=false:=by simp [Region.wanted,hgd,yielded,hj]
   rw [if_neg (by simp [this])];exact hn m _ w (Fr.refl hr) (BY k hd)
  | some g=>
   rw [hj] at hv;simp only at hv;have a6:g<n:=by
    cases ho:ops[j]? with
    |none=>rw [ho] at hj;cases hj
    |some oj=>rw [ho] at hj;exact fM (iK a3 ho).2 (by simpa using hj)
   obtain⟨g1,g2⟩:=MV a3 hj k.size (k.val g a6) a4;have a9:Region.wanted o (yielded ops a.tmps)=(yielded ops a.tmps j==some a4):=by simp [Region.wanted,hgd]
   rcases GB hv with⟨b,hb,hv⟩|⟨hb,hv⟩
   ·have:=g1 b hb;rcases nQ hv with⟨a8,hv⟩|⟨a8,hv⟩
    ·rw [if_pos (by rw [a9,this,a8])];exact .inl (QK a0 k hg hr a5 hd hv hn)
    ·rw [if_neg (by rw [a9,this,a8];simp)];cases hv;exact hn m _ w (Fr.refl hr) (BY k hd)
   ·unfold ML at hv;split at hv
    ·rename_i hu;cases hv;rw [if_neg (by rw [a9,g2 hu];simp)];exact hn m _ w (Fr.refl hr) (BY k hd)
    ·cases hv
theorem IY {n:Nat} {call:bP} (a0:eN P call) {ops:Array Oper} (a3:eX P n ops=true) {Q:Exit→Act→World→Prop}:
  ∀(l:List Oper) (i:Nat) (m:Mp) (e e':Env) (a:Act) (h h':H) (w:World),ops.toList.drop i=l→bD m n e a→Gl P m→HR m h w→(kK P ops.toList l).run call e h= .ok e' h'→
   (∀m' a' w',Fr m h w m' h' w'→bD m' n e' a'→Q .normal a' w')→wpOps P ops Q (List.range' i l.length) a w
 | [],i,m,e,e',a,h,h',w,hl,k,hg,hr,hv,hn=>by
  simp only [kK] at hv;cases hv;exact hn m a w (Fr.refl hr) k
 | o::l,i,m,e,e',a,h,h',w,hl,k,hg,hr,hv,hn=>by
  have hi:ops[i]?=some o:=by
   have:(ops.toList.drop i)[0]?=some o:=by rw [hl];rfl
   rw [iR] at this;simpa using this
  have b3:ops.toList.drop (i+1)=l:=by
   have:(ops.toList.drop i).drop 1=l:=by rw [hl];rfl
   rw [wW] at this;exact this
  simp only [fU,tQ];rw [wpOps_cons];simp only [kK] at hv;cases h1:(qC P ops.toList o).run call e h with
  |bad=>rw [h1] at hv;cases hv
  |ok e1 h1'=>
   rw [h1] at hv;refine CY a0 k hg hr a3 hi h1 ?_;intro m1 a1 w1 a7 b0;exact IY a0 a3 l (i+1) m1 e1 e' a1 h1' h' w1 b3 b0 (hg.mono a7.le) a7.hr hv (fun m2 a2 w2 b2 b1=>hn m2 a2 w2 (a7.trans b2) b1)
theorem WH (a0:eN P call) {ops:Array Oper} (a3:eX P n ops=true) {Q:Exit→Act→World→Prop} {e e':Env} {a:Act} {h h':H} {id:Nat}
  (k:bD m n e a) (hg:Gl P m) (hr:HR m h w) (hv:(kK P ops.toList ops.toList).run call e h= .ok e' h')
  (hn:∀m' a' w',Fr m h w m' h' w'→bD m' n e' a'→Q .normal a' w'):(Code.region id ops false).wp P Q a w:=by
 refine wp_region ?_;have:=IY a0 a3 ops.toList 0 m e e' a h h' w (by simp) k hg hr hv hn;rw [SF];simpa using this
end
section
variable {P:Program} {m:Mp} {w:World}
mutual
theorem beq_eq:∀{x y:V},V.beq x y=true→x=y
 | .top,y,h=>by cases y<;>simp only [V.beq,dJ] at h;rfl
 | .b x,y,h=>by
  cases y<;>simp only [V.beq,dJ] at h;simp at h;rw [h]
 | .i k n,y,h=>by
  cases y<;>simp only [V.beq,dJ] at h;rename_i k' n';simp only [aM] at h;obtain⟨h1,h2⟩:=h;have hk:k=k':=by cases k<;>cases k'<;>first|rfl|(simp at h1)
  subst hk;cases n<;>cases n'<;>simp only [dJ] at h2
  ·rw [aV h2]
  ·rw [aV h2]
 | .s l c,y,h=>by
  cases y<;>simp only [V.beq,dJ] at h;simp only [sEq,aM] at h;rw [aV h.1,aV h.2]
 | .pn,y,h=>by cases y<;>simp only [V.beq,dJ] at h;rfl
 | .p b o,y,h=>by
  cases y<;>simp only [V.beq,dJ] at h;simp only [aM] at h;rw [Id.beq_iff.1 h.1,aV h.2]
 | .sn,y,h=>by cases y<;>simp only [V.beq,dJ] at h;rfl
 | .sl b o l z,y,h=>by
  cases y<;>simp only [V.beq,dJ] at h;simp only [aM] at h;rw [Id.beq_iff.1 h.1,aV h.2.1,aV h.2.2.1,aV h.2.2.2]
 | .se,y,h=>by cases y<;>simp only [V.beq,dJ] at h;rfl
 | .mn,y,h=>by cases y<;>simp only [V.beq,dJ] at h;rfl
 | .mp b,y,h=>by
  cases y<;>simp only [V.beq,dJ] at h;rw [Id.beq_iff.1 h]
 | .fn f a b,y,h=>by
  cases y with
  | fn f' a' b'=>
   cases f with
   | func n=>
    cases f' with
    |func n'=>
     simp only [V.beq,aM] at h;rw [aV h.1,qQ h.2.1,qQ h.2.2]
    |_=>simp [V.beq] at h
   |_=>simp [V.beq] at h
  |_=>cases f<;>(have:false=true:=h;cases this)
 | .nf,y,h=>by cases y<;>simp only [V.beq,dJ] at h;rfl
 | .ni,y,h=>by cases y<;>simp only [V.beq,dJ] at h;rfl
 | .agg l,y,h=>by
  cases y<;>simp only [V.beq,dJ] at h;rw [qQ h]
 | .tup l,y,h=>by
  cases y<;>simp only [V.beq,dJ] at h;rw [qQ h]
theorem qQ:∀{l r:List V},iE l r=true→l=r
 | [],r,h=>by cases r<;>simp only [iE,dJ] at h;rfl
 | a::l,r,h=>by
  cases r with
  |nil=>simp [iE] at h
  |cons b r=>
   simp only [iE,aM] at h;rw [beq_eq h.1,qQ h.2]
end
theorem HR.sub (k:HR m h w) {mem':Mem} {nx:Id} (hs:∀x ox,aB x mem'=some ox→aB x h.mem=some ox) (hn:h.next.toNat≤nx.toNat):HR m ⟨mem',h.fams,nx⟩ w where
 obj:=fun b ob hb=>k.obj b ob (hs _ _ hb)
 dom:=fun b l hb=>aZ (k.dom b l hb) hn
 sep:=fun b b' ob a9 l l' h1 h2=>k.sep b b' ob a9 l l' (hs _ _ h1) (hs _ _ h2)
 fam:=fun b b' sz els f ro b1 els' ro' h1 h2=>k.fam b b' sz els f ro b1 els' ro' (hs _ _ h1) (hs _ _ h2)
 ord:=fun f=>(k.ord f).imp (fun c0=>fun sz els f ro b1 els' f' ro' l l' h1 h2=>c0 sz els f ro b1 els' f' ro' l l' (hs _ _ h1) (hs _ _ h2))
 lt:=k.lt
 famlt:=fun b sz els f ro hb=>aZ (k.famlt b sz els f ro (hs _ _ hb)) hn
 flt:=fun f x hx=>aZ (k.flt f x hx) hn
theorem Fr.bump (k:Fr m0 h0 w0 m h w) {nx:Id} (hn:h.next.toNat≤nx.toNat):Fr m0 h0 w0 m ⟨h.mem,h.fams,nx⟩ w:=
 ⟨k.le,k.hr.sub (fun _ _ h=>h) hn,k.size,k.keep,k.os,k.tape,k.output,k.back,k.old,aE k.nxt hn,k.famold⟩
def Priv (h:H) (x:Id):Prop:=∀y ox oy,y≠x→aB x h.mem=some ox→aB y h.mem=some oy→¬uD oy ox
theorem Priv.sep {x y:Id} {ox oy:O} {lx ly:Loc} (k:HR m h w) (hp:Priv h x) (hx:aB x h.mem=some ox) (hy:aB y h.mem=some oy) (a0:m x=some lx) (a5:m y=some ly) (a3:y≠x):lx.blk≠ly.blk:=
 fun e=>hp y ox oy a3 hx hy (k.sep y x oy ox ly lx hy hx a5 a0 a3 e.symm)
theorem Fr.addNew (k:Fr m0 h0 w0 m h w) {i:Id} (hi:m i=none) (d3:h0.next.toNat≤i.toNat) (c9:i.toNat<h.next.toNat) {o:Obj} {ob:O} {l:Loc} (hl:l.blk=w.heap.size)
  (hf:∀sz els f ro,ob= .cells sz els f ro→f=i) (c8:∀b sz els f ro,aB b h.mem=some (.cells sz els f ro)→f≠i) {w':World} (hw:w'.heap=w.heap.push o) (h1:w'.os=w.os) (h2:w'.tape=w.tape) (h3:w'.output=w.output)
  (b8:∀m':Mp,m.le m'→∀w2:World,w2.heap[w.heap.size]?=some o→ObjAt m' w2 l ob) {mem':Mem} (d4:aB i mem'=some ob) (d5:∀b,b≠i→aB b mem'=aB b h.mem):
  Fr m0 h0 w0 (fun b=>if b=i then some l else m b) ⟨mem',h.fams,h.next⟩ w'∧m.le (fun b=>if b=i then some l else m b):=by
 have kr:=k.hr;have c2:m.le (fun b=>if b=i then some l else m b):=by
  intro b l' hb;have:b≠i:=fun e=>by rw [e,hi] at hb;cases hb
  simp [this,hb]
 have a4:∀b a9,aB b mem'=some a9→(b=i∧a9=ob)∨(b≠i∧aB b h.mem=some a9):=by
  intro b a9 hb
  by_cases e:b=i
  ·subst e;rw [d4] at hb;exact .inl ⟨rfl,(aJ hb).symm⟩
  ·rw [d5 b e] at hb;exact .inr ⟨e,hb⟩
 have d9:w'.heap.size=w.heap.size+1:=by rw [hw];simp
 have b9:∀B,B<w.heap.size→w'.heap[B]?=w.heap[B]?:=fun B hB=>by rw [hw];simp [iB,RP hB]
 refine⟨⟨Mp.le_trans k.le c2,⟨?_,?_,?_,?_,?_,?_,?_,kr.flt⟩,by have:=k.size;omega,?_,h1.trans k.os,h2.trans k.tape,h3.trans k.output,?_,?_,k.nxt,?_⟩,c2⟩
 ·intro b a9 hb;rcases a4 b a9 hb with⟨rfl,rfl⟩|⟨a3,hb⟩
  ·exact⟨l,by simp,b8 _ c2 _ (by rw [hw];simp)⟩
  ·obtain⟨l',b2,ho⟩:=kr.obj b a9 hb;exact⟨l',by simp [a3,b2],ho.keep c2 (b9 _ (kr.lt _ _ b2))⟩
 ·intro b l' hb
  by_cases e:b=i
  ·subst e;exact c9
  ·simp [e] at hb;exact kr.dom _ _ hb
 ·intro b b' d0 d1 l1 l2 hb c5 a7 a6 a3 a8;rcases a4 b d0 hb with⟨rfl,rfl⟩|⟨hn1,hb1⟩<;>rcases a4 b' d1 c5 with⟨rfl,rfl⟩|⟨hn2,hb2⟩
  ·exact absurd rfl a3
  ·simp at a7;simp [hn2] at a6;have:=kr.lt _ _ a6;subst a7;omega
  ·simp at a6;simp [hn1] at a7;have:=kr.lt _ _ a7;subst a6;omega
  ·simp [hn1] at a7;simp [hn2] at a6;exact kr.sep b b' d0 d1 l1 l2 hb1 hb2 a7 a6 a3 a8
 ·intro b b' sz els f ro b1 els' ro' hb c5 a3;rcases a4 b _ hb with⟨rfl,e1⟩|⟨hn1,hb1⟩<;>rcases a4 b' _ c5 with⟨rfl,e2⟩|⟨hn2,hb2⟩
  ·exact absurd rfl a3
  ·exact absurd (hf _ _ _ _ e1.symm) (c8 _ _ _ _ _ hb2)
  ·exact absurd (hf _ _ _ _ e2.symm) (c8 _ _ _ _ _ hb1)
  ·exact kr.fam b b' _ _ _ _ _ _ _ hb1 hb2 a3
 ·intro f;refine(kr.ord f).imp ?_;intro x y c0 sz els f1 ro b1 els' f2 ro' l1 l2 hx hy a7 a6 a8;rcases a4 x _ hx with⟨rfl,e1⟩|⟨hn1,hb1⟩<;>rcases a4 y _ hy with⟨rfl,e2⟩|⟨hn2,hb2⟩
  ·rw [a7] at a6;cases a6;rw [←e1] at e2;cases e2;exact aA _
  ·simp at a7;simp [hn2] at a6;have:=kr.lt _ _ a6;subst a7;omega
  ·simp at a6;simp [hn1] at a7;have:=kr.lt _ _ a7;subst a6;omega
  ·simp [hn1] at a7;simp [hn2] at a6;exact c0 _ _ _ _ _ _ _ _ _ _ hb1 hb2 a7 a6 a8
 ·intro b l' hb
  by_cases e:b=i
  ·subst e;simp at hb;subst hb;omega
  ·simp [e] at hb;have:=kr.lt _ _ hb;omega
 ·intro b sz els f ro hb;rcases a4 b _ hb with⟨rfl,e1⟩|⟨hn1,hb1⟩
  ·have:=hf _ _ _ _ e1.symm;subst this;exact c9
  ·exact kr.famlt _ _ _ _ _ hb1
 ·intro B hB hn;rw [b9 B (aZ hB k.size)];exact k.keep B hB hn
 ·intro b a9 l' hb b2;rcases a4 b a9 hb with⟨rfl,rfl⟩|⟨a3,hb⟩
  ·simp at b2;subst b2;have:=k.size;exact .inl (by omega)
  ·simp [a3] at b2;exact k.back b a9 l' hb b2
 ·intro b l' hb c6;have:b≠i:=fun e=>by subst e;omega
  simp [this] at hb;exact k.old b l' hb c6
 ·intro b sz els f ro hb;rcases a4 b _ hb with⟨rfl,e1⟩|⟨hn1,hb1⟩
  ·have:=hf _ _ _ _ e1.symm;subst this;exact .inl d3
  ·exact k.famold _ _ _ _ _ hb1
theorem Fr.merge {H1:H} (k:HR m H1 w) {memb:Mem} (hs:∀x ox,aB x memb=some ox→aB x H1.mem=some ox)
  {X:Id→Prop} (d8:∀x ox,aB x H1.mem=some ox→X x∨aB x memb=some ox) (c4:∀x,X x→aB x memb=none∧∃ox,aB x H1.mem=some ox) (c1:∀x,X x→Priv H1 x)
  {h':H} (kf:Fr m ⟨memb,H1.fams,H1.next⟩ w m' h' w') {mem2:Mem} (h2:∀x ox,aB x mem2=some ox↔(¬X x∧aB x h'.mem=some ox)∨(X x∧aB x H1.mem=some ox)):
  Fr m H1 w m' ⟨mem2,h'.fams,h'.next⟩ w':=by
 have kr:=kf.hr;have hm:∀x ox,X x→aB x H1.mem=some ox→∃l,m x=some l∧m' x=some l∧ObjAt m w l ox:=by
  intro x ox hx ho;obtain⟨l,hl,b8⟩:=k.obj x ox ho;exact⟨l,hl,kf.le _ _ hl,b8⟩
 have b5:∀x ox lx y oy ly,X x→aB x H1.mem=some ox→m x=some lx→aB y memb=some oy→m y=some ly→lx.blk≠ly.blk:=by
  intro x ox lx y oy ly hx ho a0 hy a5;have a3:y≠x:=fun e=>by subst e;rw [(c4 y hx).1] at hy;cases hy
  exact(c1 x hx).sep k ho (hs _ _ hy) a0 a5 a3
 have b4:∀x ox lx y oy ly,X x→aB x H1.mem=some ox→m x=some lx→aB y h'.mem=some oy→m' y=some ly→lx.blk≠ly.blk:=by
  intro x ox lx y oy ly hx ho a0 hy a5 e;rcases kf.back y oy ly hy a5 with h1|⟨b0,ob0,l0,h0,hl0,he,_⟩
  ·have:=k.lt _ _ a0;omega
  ·exact b5 x ox lx b0 ob0 l0 hx ho a0 h0 hl0 (by rw [he,e])
 have d2:∀x,X x→∃ox,aB x H1.mem=some ox:=fun x hx=>(c4 x hx).2
 have b7:∀x ox lx,X x→aB x H1.mem=some ox→m x=some lx→w'.heap[lx.blk]?=w.heap[lx.blk]?:=by
  intro x ox lx hx ho a0;refine kf.keep _ (k.lt _ _ a0) ?_;rintro⟨b0,ob0,l0,h0,hl0,he,_⟩;exact b5 x ox lx b0 ob0 l0 hx ho a0 h0 hl0 he.symm
 have c7:∀x ox lx y oy ly,X x→aB x H1.mem=some ox→m x=some lx→X y→aB y H1.mem=some oy→m y=some ly→y≠x→lx.blk≠ly.blk:=
  fun x ox lx y oy ly hx ho a0 hy d6 a5 a3=>(c1 x hx).sep k ho d6 a0 a5 a3
 have b3:∀x l,m' x=some l→X x→m x=some l:=fun x l hl hx=>by
  obtain⟨ox,ho⟩:=d2 x hx;obtain⟨l1,a1,a2,_⟩:=hm x ox hx ho;rw [a2] at hl;cases hl;exact a1
 refine⟨kf.le,⟨?_,kr.dom,?_,?_,?_,kr.lt,?_,kr.flt⟩,kf.size,?_,kf.os,kf.tape,kf.output,?_,kf.old,kf.nxt,?_⟩
 ·intro x ox hx;rcases(h2 x ox).1 hx with⟨_,hx⟩|⟨hX,hx⟩
  ·exact kr.obj x ox hx
  ·obtain⟨l,hl,b2,b8⟩:=hm x ox hX hx;exact⟨l,b2,b8.keep kf.le (b7 x ox l hX hx hl)⟩
 ·intro x y ox oy lx ly hx hy a0 a5 a3 a8;rcases(h2 x ox).1 hx with⟨_,hx⟩|⟨hX,hx⟩<;>rcases(h2 y oy).1 hy with⟨_,hy⟩|⟨hY,hy⟩
  ·exact kr.sep x y ox oy lx ly hx hy a0 a5 a3 a8
  ·exact absurd a8.symm (b4 y oy ly x ox lx hY hy (b3 _ _ a5 hY) hx a0)
  ·exact absurd a8 (b4 x ox lx y oy ly hX hx (b3 _ _ a0 hX) hy a5)
  ·exact absurd a8 (c7 x ox lx y oy ly hX hx (b3 _ _ a0 hX) hY hy (b3 _ _ a5 hY) (eH a3))
 ·intro x y sz els f ro b1 els' ro' hx hy a3;have b6:∀x sz els f ro y b1 els' ro',X x→aB x H1.mem=some (.cells sz els f ro)→¬X y→aB y h'.mem=some (.cells b1 els' f ro')→False:=by
   intro x sz els f ro y b1 els' ro' hX hx hY hy;rcases kf.famold _ _ _ _ _ hy with h1|⟨b0,sz0,els0,ro0,h0⟩
   ·have:=k.famlt _ _ _ _ _ hx;have d7:H1.next.toNat≤f.toNat:=h1;omega
   ·have c3:aB b0 memb=some (.cells sz0 els0 f ro0):=h0;have a3:b0≠x:=fun e=>by subst e;rw [(c4 b0 hX).1] at c3;cases c3
    exact c1 x hX b0 _ _ a3 hx (hs _ _ c3) rfl
  rcases(h2 x _).1 hx with⟨hX,hx⟩|⟨hX,hx⟩<;>rcases(h2 y _).1 hy with⟨hY,hy⟩|⟨hY,hy⟩
  ·exact kr.fam x y _ _ _ _ _ _ _ hx hy a3
  ·exact(b6 y _ _ _ _ x _ _ _ hY hy hX hx).elim
  ·exact(b6 x _ _ _ _ y _ _ _ hX hx hY hy).elim
  ·exact(c1 x hX y _ _ (eH a3) hx hy rfl).elim
 ·intro f;refine(kr.ord f).imp ?_;intro x y c0 sz els f1 ro b1 els' f2 ro' lx ly hx hy a0 a5 a8;rcases(h2 x _).1 hx with⟨hX,hx⟩|⟨hX,hx⟩<;>rcases(h2 y _).1 hy with⟨hY,hy⟩|⟨hY,hy⟩
  ·exact c0 _ _ _ _ _ _ _ _ _ _ hx hy a0 a5 a8
  ·exact absurd a8.symm (b4 y _ ly x _ lx hY hy (b3 _ _ a5 hY) hx a0)
  ·exact absurd a8 (b4 x _ lx y _ ly hX hx (b3 _ _ a0 hX) hy a5)
  ·by_cases e:y=x
   ·subst e;rw [hx] at hy;cases hy;rw [a0] at a5;cases a5;exact aA _
   ·exact absurd a8 (c7 x _ lx y _ ly hX hx (b3 _ _ a0 hX) hY hy (b3 _ _ a5 hY) e)
 ·intro x sz els f ro hx;rcases(h2 x _).1 hx with⟨_,hx⟩|⟨hX,hx⟩
  ·exact kr.famlt _ _ _ _ _ hx
  ·exact aZ (k.famlt _ _ _ _ _ hx) kf.nxt
 ·intro B hB hn;refine kf.keep B hB ?_;rintro⟨b0,ob0,l0,h0,hl0,he,hw0⟩;exact hn ⟨b0,ob0,l0,hs _ _ h0,hl0,he,hw0⟩
 ·intro x ox lx hx a0;rcases(h2 x ox).1 hx with⟨_,hx⟩|⟨hX,hx⟩
  ·rcases kf.back x ox lx hx a0 with h1|⟨b0,ob0,l0,h0,hl0,he,hw0⟩
   ·exact .inl h1
   ·exact .inr ⟨b0,ob0,l0,hs _ _ h0,hl0,he,hw0⟩
  ·exact .inr ⟨x,ox,lx,hx,b3 _ _ a0 hX,rfl,id⟩
 ·intro x sz els f ro hx;rcases(h2 x _).1 hx with⟨_,hx⟩|⟨hX,hx⟩
  ·rcases kf.famold _ _ _ _ _ hx with h1|⟨b0,sz0,els0,ro0,h0⟩
   ·exact .inl h1
   ·exact .inr ⟨b0,sz0,els0,ro0,hs _ _ h0⟩
  ·exact .inr ⟨x,sz,els,ro,hx⟩
end
end
end Go.Ev
