/- Lemmas for the text Card; no condition. -/
import Derived.Test.YtbdpdeonapmlgaaGreatDoorBc
import Derived.Lib.ConvBytes
import Derived.Laws.BytesString
set_option linter.all false
namespace Go.Ev
variable {h h':H} {ts:Array TypeId} {base:Option Addr} {n cap len:Nat} {a2:TypeInfo} {u2:TypeDesc} {a1 C olds:Array Value} {t el t2 ty:TypeId} {x z:Value} {a:Act} {e:Env} {v:V}
section
variable {P:Program} {m:Mp} {w:World}
theorem MX {a0:Nat}:∀(r c:Nat),c≤2*a0+768→Builtin.growBy a0 r c≤2*a0+768
 |0,c,h=>h
 |r+1,c,h=>by
  simp only [Builtin.growBy];split
  ·exact h
  ·exact MX r _ (by omega)
theorem XY {a0:Nat} (h:cap<a0):Builtin.nextslicecap a0 cap≤2*a0+768:=by
 unfold Builtin.nextslicecap;split
 ·omega
 ·split
  ·omega
  ·exact MX _ _ (by omega)
theorem run_append_room (h0:ts[0]?=some t) (h1:ts[1]?=some t2)
  (hu:P.underlying t=some (.slice el)) (a8:P.underlying t2=some u2) (a7:∀k,u2≠ .int k) (hi:P.info? el=some a2) (a3:(Builtin.lenOf x).run P w= .ok n w)
  (a5:len+n≤cap) (hf:(Builtin.firstCells a2.size n x).run P w= .ok a1 w):
  (Builtin.append_ ts ty #[.slice base len cap,x]).run P w=match (match base with|some a=>(storeCells (a.add (len*a2.size)) a1.toList).run P w|none=>.ok () w:Result Unit) with
   | .ok _ w'=>.ok (.slice base (len+n) cap) w'
   | .halt h w'=>.halt h w':=by
 unfold Builtin.append_;have hz:(match u2 with| .int _=>true|_=>false)=false:=by cases u2<;>first|rfl|exact absurd rfl (a7 _)
 cases base<;>simp [h0,h1,dV hu,dV a8,sizeOf,typeInfo,hi,hz,a3,a5,hf];cases (storeCells _ a1.toList).run P w<;>rfl
theorem run_append_grow (h0:ts[0]?=some t) (h1:ts[1]?=some t2)
  (hu:P.underlying t=some (.slice el)) (a8:P.underlying t2=some u2) (a7:∀k,u2≠ .int k) (hi:P.info? el=some a2) (hz:a2.zero=some z) (a3:(Builtin.lenOf x).run P w= .ok n w)
  (a5:cap<len+n) (b3:len+n≤2000000) (b0:a2.bytes≤1000000)
  (b1:(Builtin.firstCells a2.size len (.slice base len cap)).run P w.drew= .ok olds w.drew)
  (hf:(Builtin.firstCells a2.size n x).run P w.drew= .ok a1 w.drew):
  ∃nc,len+n≤nc∧(Builtin.append_ ts ty #[.slice base len cap,x]).run P w= .ok (.slice (some ⟨w.heap.size,0,none⟩) (len+n) nc)
   { w.drew with heap:=w.drew.heap.push (.cells (olds++a1++Builtin.zeroCells z.cells (nc-(len+n))) el (0,0)) }:=by
 refine⟨(Question.appendCap (len+n) cap el).cut (w.tape w.drawn (.appendCap (len+n) cap el)),by simp [Question.cut],?_⟩;unfold Builtin.append_;have b2:(match u2 with| .int _=>true|_=>false)=false:=by cases u2<;>first|rfl|exact absurd rfl (a7 _)
 have a9:¬(281474976710656<Builtin.nextslicecap (len+n) cap*a2.bytes):=by
  have h2:=mX (XY a5) b0;omega
 have a4:¬(9223372036854775807<((len:Int)+(n:Int))):=by omega
 have a6:¬(len+n≤cap):=by omega
 simp [h0,h1,dV hu,dV a8,sizeOf,typeInfo,hi,b2,a3,a6,hf,b1,a9,a4,zeroValue,hz,newRow,askRoom,Question.forced];rfl
end
section
variable {P:Program} {m:Mp} {w:World}
structure ElsAt (P:Program) (m:Mp) (w:World) (S:Nat) (new:List (List V)) (uy:Value) (us:List Value):Prop where
 each:∀el∈new,el.length=S
 len:us.length=new.length*S
 rel:Rl m new.flatten us
 sc:∀y∈us,cZ y
 lenOf:(Builtin.lenOf uy).run P w= .ok new.length w
 first:(Builtin.firstCells S new.length uy).run P w= .ok ⟨us⟩ w
theorem elsAt (k:HR m h w) {sz:Nat} {x:V} {u:Value} {els:List (List V)} (hx:R m x u) (he:vP h (sz+1) x=some els):∃us,ElsAt P m w (sz+1) els u us:=by
 obtain⟨us,h1,h2,h3,h4,h5,h6⟩:=By (P:=P) k hx he;refine⟨us,h1,h2,h3,h4,h5,?_⟩;rw [h6 _ (aA _),←h2,gA]
structure AppTy (P:Program) (ts:Array TypeId) (S:Nat) (el:TypeId) (a5:TypeInfo) (z:Value):Prop where
 ty:∃t t2 u2,ts[0]?=some t∧ts[1]?=some t2∧P.underlying t=some (.slice el)∧P.underlying t2=some u2∧(∀k,u2≠ .int k)
 info:P.info? el=some a5
 zero:a5.zero=some z
 size:a5.size=S
 zs:z.cells.size=S
 bytes:a5.bytes≤1000000
theorem QT (k:HR m h w) {b f:Id} {S len q cap:Nat} {els old new:List (List V)} {l:Loc} {v:V} {ts:Array TypeId} {ty el:TypeId} {a5:TypeInfo} {z uy:Value} {us b1:List Value}
  (T:AppTy P ts S el a5 z) (hS:0<S) (hb:aB b h.mem=some (.cells S els f (.rw el))) (hl:m b=some l) (hq:q+len=els.length) (a0:old=els.drop q) (hg:grown el S b f len old new h= .ok v h')
  (e0:len≤cap) (b3:q*S+cap*S≤l.lim) (A:ElsAt P m w S new uy us) (B:ElsAt P m w.drew S new uy b1) (f3:len+new.length≤2000000):
  ∃u w' m',(Builtin.append_ ts ty #[.slice (some ⟨l.blk,l.base+q*S,none⟩) len cap,uy]).run P w= .ok u w'∧Fr m h w m' h' w'∧R m' v u:=by
 obtain⟨⟨t,t2,u2,h0,h1,hu,hu2,hni⟩,hi,hz,hsize,hzs,hby⟩:=T;obtain⟨l2,hl2,C,tC,fz,hc⟩:=k.obj _ _ hb;rw [hl] at hl2;cases hl2;have e9:=flat_len hc.each;have d6:(els.drop q).length=len:=by rw [cX];omega
 have a3:∀el∈els.drop q,el.length=S:=fun el e7=>hc.each el (wU e7)
 have a9:old.flatten.length=len*S:=by rw [a0,flat_len a3,d6]
 have b6:=flat_len A.each;have d0:old.flatten=els.flatten.drop (q*S):=by rw [a0,vL _ _ hc.each]
 have f8:els.flatten.length=q*S+len*S:=by rw [e9,←hq,cL]
 have c2:(old++new).flatten=old.flatten++new.flatten:=by simp
 have a7:∀el∈old++new,el.length=S:=by
  intro e he;rcases bX.1 he with h|h
  ·exact a3 e (a0▸h)
  ·exact A.each e h
 by_cases a1:len+new.length≤cap
 ·
  have hr:=run_append_room (P:=P) (w:=w) (ty:=ty) (base:=some ⟨l.blk,l.base+q*S,none⟩) h0 h1 hu hu2 hni hi A.lenOf a1 (by rw [hsize];exact A.first);have c8:(len+new.length)*S≤cap*S:=eI _ a1;rw [cL] at c8;have d2:=hc.room;have d7:=xK (P:=P) (b:=l.blk) (off:=l.base+q*S+len*S) us 0 C w hc.at_ (by have:=A.len;omega) A.sc (by
   intro j hj hf;have g5:j<new.length*S:=by rw [←A.len];exact hj
   have:=hc.free rfl (q*S+len*S+j) (by omega);exact this (by omega))
  simp only [hsize,mT] at hr;rw [d7] at hr;simp only [fP] at hr d7;generalize b2:(⟨C.toList.take (l.base+q*S+len*S)++us++C.toList.drop (l.base+q*S+len*S+us.length)⟩:Array Value)=C' at hr;have c4:C.toList.length=C.size:=by simp
  have d3:C'.size=C.size:=by
   rw [←b2];show(C.toList.take _++us++C.toList.drop _).length=_;have:=A.len;rw [aK,aK,aU,cX,c4];omega
  have b4:∀j,j<l.base+q*S+len*S→C'[j]?=C[j]?:=by
   intro j hj;rw [←b2,←gQ,←gQ];show(C.toList.take _++us++C.toList.drop _)[j]?=_;rw [eZ,eG (by rw [aU];omega),gC hj]
  have c9:∀j,j<us.length→C'[l.base+q*S+len*S+j]?=us[j]?:=by
   intro j hj;have b5:(C.toList.take (l.base+q*S+len*S)).length=l.base+q*S+len*S:=by rw [aU];omega
   rw [←b2,←gQ];show(C.toList.take _++us++C.toList.drop _)[_]?=_;rw [eZ,dO (by omega),b5,eG (by omega)];congr 1;omega
  obtain⟨m',hF,hm,rfl⟩:=MW k hb hl hq a0 hg A.each (C':=C') (t:=tC) (fz':=fz) (w':={ w with heap:=w.heap.setIfInBounds l.blk (.cells C' tC fz) }) (l':=⟨l.blk,l.base+q*S,l.lim-q*S⟩)
   (.inl ⟨rfl,rfl,C,fz,hc.at_,hc,rfl,d3,fun j hj=>b4 j (by omega)⟩) (by
    intro m2 c1 c5;refine⟨c5,?_,?_,a7,?_,?_,hc.plain,hc.typ,by have:=hc.al;show(l.base+q*S)%S=0;rw [Gh];exact this⟩
    ·show l.base+q*S+(l.lim-q*S)≤C'.size;omega
    ·show(old++new).flatten.length≤l.lim-q*S;rw [c2,aK,a9,b6];omega
    ·intro i x hx;show∃u,C'[l.base+q*S+i]?=some u∧_;rw [c2] at hx
     by_cases hi:i<len*S
     ·rw [eG (by omega),d0,iR] at hx;obtain⟨u,g1,g2,g3⟩:=hc.val _ _ hx;exact⟨u,by rw [b4 _ (by omega),kE];exact g1,g2.mono c1,g3⟩
     ·rw [dO (by omega),a9] at hx;obtain⟨u,g1,g2⟩:=A.rel.get hx;have b5:=(List.getElem?_eq_some_iff.1 g1).1;refine⟨u,?_,g2.mono c1,A.sc u (aX g1)⟩;rw [←g1,←c9 _ b5];congr 1;omega
    ·intro _ i hi hf;have g0:i<l.lim-q*S:=hi;exact hc.free rfl (q*S+i) (by omega) (by
      have f9:fz.1≤l.base+q*S+i∧l.base+q*S+i<fz.2:=hf;omega))
  refine⟨_,_,m',hr,hF,?_⟩;simp only [R];refine⟨_,cap,hm,by simp,a1,?_⟩;show 0+cap*S≤l.lim-q*S;omega
 ·
  have a2:CellsAt m w.drew l S els (.rw el) C tC fz:=⟨hc.at_,hc.room,hc.len,hc.each,hc.val,hc.free,hc.plain,hc.typ,hc.al⟩;have f1:q*S%S=0:=Nat.mul_mod_left _ _;have d5:q*S/S=q:=Nat.mul_div_cancel _ hS;obtain⟨b9,e1,e2,e3,e4,e5,e6⟩:=ET (len:=len) a2 f1 (by rw [d5,d6];exact aA _);rw [d5,eP (by omega),←a0] at e4;have e8:(Builtin.firstCells a5.size len (.slice (some ⟨l.blk,l.base+q*S,none⟩) len cap)).run P w.drew= .ok ⟨b9⟩ w.drew:=by
   have b7:=RD (P:=P) (w:=w.drew) ⟨l.blk,l.base+q*S,none⟩ b9 (fun j v hv=>by
    rw [mT,sW a2.at_];exact e6 j v hv)
   rw [e3] at b7;simp only [Builtin.firstCells,hsize];simpa using b7
  obtain⟨nc,hnc,hr⟩:=run_append_grow (P:=P) (w:=w) (ty:=ty) h0 h1 hu hu2 hni hi hz A.lenOf (BC a1) f3 hby e8 (by rw [hsize];exact B.first);generalize b2:((⟨b9⟩:Array Value)++(⟨b1⟩:Array Value)++Builtin.zeroCells z.cells (nc-(len+new.length)))=C' at hr;have c4:C'.toList=b9++b1++(Builtin.zeroCells z.cells (nc-(len+new.length))).toList:=by rw [←b2];simp
  have d4:(Builtin.zeroCells z.cells (nc-(len+new.length))).size=(nc-(len+new.length))*S:=by simp [Builtin.zeroCells,hzs]
  have d3:C'.size=nc*S:=by
   rw [←b2,HI,HI,d4];show b9.length+b1.length+_=_;rw [e3,B.len,←cL,←cL];congr 1;omega
  have kd:HR m h w.drew:=k.drawn _;obtain⟨m',hF,hm,rfl⟩:=MW kd hb hl hq a0 hg A.each (C':=C') (t:=el) (fz':=(0,0)) (w':={ w.drew with heap:=w.drew.heap.push (.cells C' el (0,0)) }) (l':=⟨w.drew.heap.size,0,C'.size⟩)
   (.inr ⟨rfl,rfl⟩) (by
    intro m2 c1 c5;refine⟨c5,by simp,?_,a7,?_,fun _ i _ hf=>by simp at hf,fun _ _=>rfl,fun ty e=>by cases e;rfl,AX _⟩
    ·show(old++new).flatten.length≤C'.size;rw [c2,aK,a9,b6,d3,←cL];exact eI _ hnc
    ·intro i x hx;rw [c2] at hx;obtain⟨u,g1,g2⟩:=(e4.append B.rel).get hx;have b5:=(List.getElem?_eq_some_iff.1 g1).1;refine⟨u,?_,g2.mono c1,?_⟩
     ·show C'[0+i]?=some u;rw [cG,←gQ,c4,eG b5,g1]
     ·rcases bX.1 (aX g1) with g|g
      ·exact e5 u g
      ·exact B.sc u g)
  refine⟨_,_,m',hr,(Fr.drawn k _).trans hF,?_⟩;simp only [R];refine⟨_,nc,hm,by simp,hnc,?_⟩;show 0+nc*S≤C'.size;omega
theorem Fo (k:HR m h w) {sz:Nat} {x y v:V} {ux uy:Value} {new:List (List V)} {ts:Array TypeId} {ty el:TypeId} {a5:TypeInfo} {z:Value}
  (T:AppTy P ts (sz+1) el a5 z) (hx:R m x ux) (hy:R m y uy) (he:vP h (sz+1) y=some new) (ha:GE el h (sz+1) x new= .ok v h'):
  ∃u w' m',(Builtin.append_ ts ty #[ux,uy]).run P w= .ok u w'∧Fr m h w m' h' w'∧R m' v u:=by
 obtain⟨us,A⟩:=elsAt (P:=P) k hy he;obtain⟨b1,B⟩:=elsAt (P:=P) (k.drawn (w.drawn+1)) hy he;have T':=T;obtain⟨⟨t,t2,u2,h0,h1,hu,hu2,hni⟩,hi,hz,hsize,hzs,hby⟩:=T';unfold GE at ha;split at ha
 ·
  have f5:us= []:=lB (by rw [A.len];simp);subst f5;have b0:∀base len cap,len≤cap→(Builtin.append_ ts ty #[.slice base len cap,uy]).run P w= .ok (.slice base len cap) w:=by
   intro base len cap f0;have hr:=run_append_room (P:=P) (w:=w) (ty:=ty) (base:=base) (len:=len) (cap:=cap) h0 h1 hu hu2 hni hi A.lenOf (by simpa using f0) (by rw [hsize];exact A.first);rw [hr];cases base<;>simp [storeCells]
  split at ha
  ·cases ha;have a8:=hx;simp only [R] at a8;subst a8;exact⟨_,_,m,b0 none 0 0 (aA _),Fr.refl k,by simp [R]⟩
  ·cases ha;have a8:=hx;simp only [R] at a8;obtain⟨a,cap,rfl⟩:=a8;exact⟨_,_,m,b0 _ 0 cap (aT _),Fr.refl k,hx⟩
  ·cases ha;have a8:=hx;simp only [R] at a8;obtain⟨l,cap,hl,rfl,hlc,b3⟩:=a8;exact⟨_,_,m,b0 _ _ cap hlc,Fr.refl k,hx⟩
  ·cases ha
 ·rename_i n0 nr;cases hln:Nat.ble (nP (n0::nr)) 1000000 with
  |false=>rw [hln] at ha;cases ha
  |true=>
  rw [hln] at ha;simp only [cN] at ha;have f4:(n0::nr).length≤1000000:=by have:=cK hln;rwa [vE] at this
  split at ha
  ·
   simp only [R] at hx;subst hx;obtain⟨nc,hnc,hr⟩:=run_append_grow (P:=P) (w:=w) (ty:=ty) (base:=none) (len:=0) (cap:=0) h0 h1 hu hu2 hni hi hz A.lenOf (by simp) (by omega) hby (olds:=#[]) (by simp [Builtin.firstCells]) (by rw [hsize];exact B.first);have kd:HR m h w.drew:=k.drawn _;obtain⟨m',hF,hm,rfl⟩:=uV kd ha A.each B.rel B.sc (C:=(#[]:Array Value)++(⟨b1⟩:Array Value)++Builtin.zeroCells z.cells (nc-(0+(n0::nr).length))) (extra:=(Builtin.zeroCells z.cells (nc-(0+(n0::nr).length))).toList) (by simp) el (0,0) (.inl rfl);refine⟨_,_,m',hr,(Fr.drawn k _).trans hF,?_⟩;simp only [R,vE];refine⟨_,nc,hm,by simp,by omega,?_⟩;have d4:(Builtin.zeroCells z.cells (nc-(0+(n0::nr).length))).size=(nc-(0+(n0::nr).length))*(sz+1):=by simp [Builtin.zeroCells,hzs]
   show 0+nc*(sz+1)≤(_++_++_:Array Value).size;rw [HI,HI,d4];show 0+nc*(sz+1)≤0+b1.length+_;rw [B.len,cG,cG,←cL];exact eI _ (by omega)
  ·rename_i b o len z0;split at ha
   ·rename_i f6 els f c3 hb;cases a2:(Nat.beq f6 (sz+1)&&(Nat.beq z0 (sz+1)&&(Nat.beq (Nat.mod o (sz+1)) 0&&(Nat.ble len 1000000&&Nat.beq c3 el)))) with
    |false=>rw [a2] at ha;cases ha
    |true=>
    rw [a2] at ha;simp only [cN] at ha;simp only [aM] at a2;have e1:=aV a2.1;subst e1;have e2:=aV a2.2.1;subst e2;have e3:o%(sz+1)=0:=aV a2.2.2.1;have e4:=cK a2.2.2.2.1;have e5:=aV a2.2.2.2.2;subst e5;have hq:o/(sz+1)*(sz+1)=o:=by have:=kD o (sz+1);rw [bG,e3] at this;simpa using this
    simp only [R] at hx;obtain⟨l,cap,hl,rfl,hlc,b3⟩:=hx;generalize f2:o/(sz+1)=q at*;have d1:Nat.div o (sz+1)=q:=f2;rw [d1] at ha;subst hq;split at ha
    ·cases ha
    ·rename_i old a0;rw [AD] at a0;obtain⟨g1,g2⟩:=uA _ _ _ a0;cases hfull:Nat.beq (Nat.add q len) (nP els) with
     |true=>
      rw [hfull] at ha;simp only [cN] at ha;have h9:q+len=els.length:=by have:=aV hfull;rwa [vE] at this
      have a4:old=els.drop q:=by rw [g2,eP (by rw [cX];omega)]
      exact QT k T (RN _) hb hl h9 a4 ha hlc (by omega) A B (by omega)
     | false=>
      rw [hfull] at ha;simp only [jZ] at ha;split at ha
      ·rename_i cut c7;obtain⟨g3,g4⟩:=uA _ _ _ c7;have f7:q+len≤els.length:=g3;have c0:cut=els.take (q+len):=g4;obtain⟨l2,hl2,C,tC,fz,hc⟩:=k.obj _ _ hb;rw [hl] at hl2;cases hl2;have c6:=k.lt _ _ hl;have b8:w={ w with heap:=w.heap.setIfInBounds l.blk (.cells C tC fz) }:=by
        have d9:=(Array.getElem?_eq_some_iff.1 hc.at_).2;have:w.heap.setIfInBounds l.blk (.cells C tC fz)=w.heap:=by
         apply rO;intro j;simp only [lG]
         by_cases e:l.blk=j
         ·subst e;simp [c6,d9]
         ·simp [e]
        rw [this]
       have a6:cut.flatten=els.flatten.take ((q+len)*(sz+1)):=by rw [c0,flat_take _ _ hc.each]
       have F1:=Fr.updCells (els':=cut) (ro':=.rw c3) k hb hl b8 (fun _=>⟨C,tC,fz,⟨hc.at_,hc.room,by rw [a6,aU];have:=hc.len;omega,
        fun e he=>hc.each e (iQ (c0▸he)),(fun i x hx=>by
         rw [a6,HC] at hx;split at hx
         ·exact hc.val i x hx
         ·exact absurd hx (by simp)),hc.free,hc.plain,hc.typ,hc.al⟩⟩)
       have d8:aB b (eD (fX h f b) b (.cells (sz+1) cut f (.rw c3))).mem=some (.cells (sz+1) cut f (.rw c3)):=by rw [pY];exact fR _ _ _
       have a4:old=cut.drop q:=by rw [g2,c0,List.drop_take];congr 1;omega
       obtain⟨u,w',m',r1,r2,r3⟩:=QT F1.hr T (ty:=ty) (RN _) d8 hl (by rw [c0,aU];omega) a4 ha hlc (by omega) A B (by omega);exact⟨u,w',m',r1,F1.trans r2,r3⟩
      ·cases ha
   ·cases ha
  ·cases ha
end
section
variable {P:Program} {m:Mp} {w:World}
theorem XC (k:HR m h w) {b f:Id} {sz o ty:Nat} {els els':List (List V)} {xs:List V} {xs':List Value} {l:Loc} {C:Array Value} {t:TypeId} {fz:Nat × Nat}
  (hb:aB b h.mem=some (.cells sz els f (.rw ty))) (hl:m b=some l) (hc:CellsAt m w l sz els (.rw ty) C t fz) (hx:Rl m xs xs') (hs:∀x∈xs',cZ x)
  (a8:o+xs.length≤els.flatten.length) (a3:els'.flatten=els.flatten.take o++xs++els.flatten.drop (o+xs.length)) (a1:∀e∈els',e.length=sz):
  ∃w',(storeCells ⟨l.blk,l.base+o,none⟩ xs').run P w= .ok () w'∧Fr m h w m (eD (fX h f b) b (.cells sz els' f (.rw ty))) w':=by
 have a2:=hc.room;have b0:=hc.len;have a5:=hx.length;have a4:=xK (P:=P) (b:=l.blk) (off:=l.base+o) (t:=t) (fz:=fz) xs' 0 C w hc.at_ (by omega) hs (fun j hj=>by
  have:=hc.free rfl (o+j) (by omega);rw [show l.base+(o+j)=l.base+o+0+j by omega] at this;exact this)
 refine⟨_,a4,Fr.updCells k hb hl rfl ?_⟩;intro a7;refine⟨_,t,fz,⟨a7,?_,?_,?_,?_,hc.free,hc.plain,hc.typ,hc.al⟩⟩
 ·have:(⟨C.toList.take (l.base+o+0)++xs'++C.toList.drop (l.base+o+0+xs'.length)⟩:Array Value).size=C.size:=by
   show(C.toList.take (l.base+o+0)++xs'++C.toList.drop (l.base+o+0+xs'.length)).length=C.size;simp only [aK,aU,cX,cV];omega
  rw [this];exact a2
 ·rw [a3];simp only [aK,aU,cX,cV];omega
 ·exact a1
 ·intro i x a0;rw [a3] at a0;have a6:∀j:Nat,(⟨C.toList.take (l.base+o+0)++xs'++C.toList.drop (l.base+o+0+xs'.length)⟩:Array Value)[j]?=
    (C.toList.take (l.base+o)++xs'++C.toList.drop (l.base+o+xs'.length))[j]?:=by intro j;simp
  rw [a6]
  by_cases c1:i<o
  ·rw [eZ,eG (by simp only [aK,aU,cX,cV];omega),gC c1] at a0;obtain⟨u,h1,h2,h3⟩:=hc.val i x a0;refine⟨u,?_,h2,h3⟩;rw [eZ,eG (by simp only [aK,aU,cX,cV];omega),gC (by omega)];simpa using h1
  ·by_cases c2:i<o+xs.length
   ·rw [eZ,dO (by simp only [aK,aU,cX,cV];omega),eG (by simp only [aK,aU,cX,cV];omega)] at a0;have e1:i-(els.flatten.take o).length=i-o:=by simp only [aK,aU,cX,cV];omega
    rw [e1] at a0;obtain⟨u,h1,h2⟩:=hx.get a0;refine⟨u,?_,h2,hs u (aX h1)⟩;rw [eZ,dO (by simp only [aK,aU,cX,cV];omega),eG (by simp only [aK,aU,cX,cV];omega),←h1];congr 1;simp only [aK,aU,cX,cV];omega
   ·rw [dO (by simp only [aK,aU,cX,cV];omega),iR] at a0;have e1:o+xs.length+(i-(els.flatten.take o++xs).length)=i:=by simp only [aK,aU,cX,cV];omega
    rw [e1] at a0;obtain⟨u,h1,h2,h3⟩:=hc.val i x a0;refine⟨u,?_,h2,h3⟩;rw [dO (by simp only [aK,aU,cX,cV];omega),iR];have e2:l.base+o+xs'.length+(l.base+i-(C.toList.take (l.base+o)++xs').length)=l.base+i:=by simp only [aK,aU,cX,cV];omega
    rw [e2];simpa using h1
theorem XD (k:HR m h w) {b f:Id} {sz q ty:Nat} {els els' xs:List (List V)} {us:List Value} {l:Loc} (hb:aB b h.mem=some (.cells sz els f (.rw ty))) (hl:m b=some l)
  (hx:Rl m xs.flatten us) (hs:∀x∈us,cZ x) (he:∀e∈xs,e.length=sz) (ho:gE q els xs=some els'):
  ∃w',(storeCells ⟨l.blk,l.base+q*sz,none⟩ us).run P w= .ok () w'∧Fr m h w m (eD (fX h f b) b (.cells sz els' f (.rw ty))) w':=by
 obtain⟨l2,hl2,C,t,fz,hc⟩:=k.obj _ _ hb;rw [hl] at hl2;cases hl2;obtain⟨h1,rfl⟩:=rY _ _ _ ho;have b2:=flat_len hc.each;have a5:=flat_len he;have a9:(q+xs.length)*sz≤els.length*sz:=eI _ h1;rw [cL] at a9;refine XC k hb hl hc hx hs (by omega) ?_ ?_
 ·rw [Gv,Gv,flat_take _ _ hc.each,vL _ _ hc.each,a5,cL]
 ·intro e h;rcases bX.1 h with h|h
  ·rcases bX.1 h with h|h
   ·exact hc.each e (iQ h)
   ·exact he e h
  ·exact hc.each e (wU h)
theorem YW (k:HR m h w) {t:TypeId} {x:Option Value} {v:V} (hx:x=none∨(∃kt et kk n,P.underlying t=some (.map kt et)∧x=some (.int kk n))) (hn:qH h (fun _=>.map [] 0) (fun i=>.mp i)= .ok v h'):
  ∃u w' m',(Instr.makeMap t x).run P w= .ok u w'∧Fr m h w m' h' w'∧R m' v u:=by
 obtain⟨nx,hnx,rfl,rfl⟩:=yL hn;refine⟨.map (some w.heap.size),_,_,?_,Fr.new k hnx (.map #[] 0) (.map [] 0) ⟨w.heap.size,0,0⟩ rfl (fun _ _ _ _ e=>by cases e) trivial ?_,?_⟩
 ·rcases hx with rfl|⟨kt,et,kk,n,hu,rfl⟩
  ·simp [Instr.makeMap]
  ·simp [Instr.makeMap,dV hu,asInt,asIntOf]
 ·intro m' hm w' b1;exact⟨[],b1,by simp [bL]⟩
 ·simp [R]
end
section
variable {P:Program} {m:Mp} {w:World}
theorem WR (k:HR m h w) {t kt et:TypeId} {b:Id} {l:Loc} {es:List Ent} {a0:Nat} {v:V} (hu:P.underlying t=some (.map kt et)) (hl:m b=some l) (he:gN h b=some (es,a0))
  (hn:qH h (fun _=>.miter b a0 [] a0) (fun i=>.p i 0)= .ok v h'):
  ∃u' w' m',(Instr.range t (.map (some l.blk))).run P w= .ok u' w'∧Fr m h w m' h' w'∧R m' v u':=by
 obtain⟨nx,hnx,rfl,rfl⟩:=yL hn;obtain⟨l2,es',hb,hl2,hat,hes⟩:=nV k he;rw [hl] at hl2;cases hl2;have hg:(getObj l.blk).run P w= .ok (.map ⟨es'⟩ a0) w:=xM hat (fun _ _ _ e=>by cases e);refine⟨.pointer (some ⟨w.heap.size,0,none⟩),_,_,?_,Fr.new k hnx (.mapIter (some l.blk) a0 #[] a0) (.miter b a0 [] a0) ⟨w.heap.size,0,0⟩ rfl (fun _ _ _ _ e=>by cases e) trivial ?_,?_⟩
 ·simp [Instr.range,dV hu,hg]
 ·intro m' hm w' b8;exact⟨rfl,l,hm _ _ hl,b8⟩
 ·simp [R]
theorem bL.filter {p:Nat→Bool}:∀{es:List Ent} {xs:List MapEntry},bL m es xs→bL m (es.filter fun e=>p e.born) (xs.filter fun e=>p e.born)
 | [],xs,h=>by simp only [bL] at h;subst h;simp [bL]
 |e::es,xs,h=>by
  obtain⟨x,xs,rfl,hx,hxs⟩:=h;have hb:x.born=e.born:=hx.2.2;simp only [List.filter_cons,hb];split
  ·exact⟨x,_,rfl,hx,bL.filter hxs⟩
  ·exact bL.filter hxs
theorem bL.all {p:Nat→Bool}:∀{es:List Ent} {xs:List MapEntry},bL m es xs→(xs.all fun e=>p e.born)=(es.all fun e=>p e.born)
 | [],xs,h=>by simp only [bL] at h;subst h;rfl
 |e::es,xs,h=>by
  obtain⟨x,xs,rfl,hx,hxs⟩:=h;have hb:x.born=e.born:=hx.2.2;simp only [oK,hb,bL.all hxs]
theorem bL.empty:∀{es:List Ent} {xs:List MapEntry},bL m es xs→xs.isEmpty=es.isEmpty
 | [],xs,h=>by simp only [bL] at h;subst h;rfl
 |e::es,xs,h=>by obtain⟨x,xs,rfl,_,_⟩:=h;rfl
theorem YC (k:HR m h w) {ty:TypeId} {b:Id} {l:Loc} {v:V} (hl:m b=some l) (hn:DI h b= .ok v h'):
  ∃u' w' m',(Instr.next (.pointer (some ⟨l.blk,l.base+0,none⟩)) false ty).run P w= .ok u' w'∧Fr m h w m' h' w'∧R m' v u':=by
 unfold DI at hn;split at hn
 ·rename_i mi a2 seen a3 hb;obtain⟨l1,hl1,h0,lm,hlm,hit⟩:=k.obj _ _ hb;rw [hl] at hl1;cases hl1;have hg:(getObj l.blk).run P w= .ok (.mapIter (some lm.blk) a2 ⟨seen⟩ a3) w:=xM hit (fun _ _ _ e=>by cases e);rw [h0];split at hn
  ·rename_i es a0 he;obtain⟨l2,es',hb2,hl2,hat,hes⟩:=nV k he;have a9:lm=l2:=by rw [hlm] at hl2;cases hl2;rfl
   subst a9;have b2:(getObj lm.blk).run P w= .ok (.map ⟨es'⟩ a0) w:=xM hat (fun _ _ _ e=>by cases e);cases hgone:(!seen.isEmpty&& !es.isEmpty&&es.all (fun e=>Nat.ble a3 e.born)) with
   |true=>rw [hgone] at hn;cases hn
   |false=>
   rw [hgone] at hn;simp only [jZ] at hn;have a4:(!seen.isEmpty&& !es'.isEmpty&&es'.all (fun e=>decide (e.born≥a3)))=false:=by
    rw [hes.empty,←hgone];congr 1;have:=hes.all (p:=fun n=>Nat.ble a3 n);rw [←this];congr 1;funext e;rw [iT];simp
   have a1:=hes.filter (p:=fun n=>!seen.any (Nat.beq n));have b1:(es'.filter fun e=>!seen.contains e.born)=(es'.filter fun e=>!seen.any (Nat.beq e.born)):=by
    congr 1;funext e;congr 1;rw [iT];simp
   have b3:lY seen es=es.filter fun e=>!seen.any (Nat.beq e.born):=rfl
   have b0:∀o',(setObj l.blk o').run P w= .ok () { w with heap:=w.heap.setIfInBounds l.blk o' }:=fun o'=>rW hit (fun _ _ _ e=>by cases e)
   split at hn
   ·rename_i a5;cases hn;rw [b3] at a5;rw [a5] at a1;simp only [bL] at a1;rw [←b1] at a1;refine⟨.tuple #[.bool false],w,m,?_,Fr.refl k,by simp [R,Rl]⟩;have hA:((⟨es'⟩:Array MapEntry).filter fun e=>!(⟨seen⟩:Array Nat).contains e.born)=#[]:=by
     apply Array.toList_inj.1;simpa using a1
    unfold Instr.next;have a8:(!(⟨seen⟩:Array Nat).isEmpty&& !(⟨es'⟩:Array MapEntry).isEmpty&&(⟨es'⟩:Array MapEntry).all fun e=>decide (e.born≥a3))=false:=by
     rw [←a4];simp
    simp only [hg,b2,aY,Result.andThen,a8,hA,dJ,eY];simp [Question.forced]
   ·rename_i e a6;rw [b3] at a6;rw [a6] at a1;obtain⟨x,xs0,hx0,hxe,hxn⟩:=a1;simp only [bL] at hxn;subst hxn;rw [←b1] at hx0;cases hbo:Nat.ble (Nat.succ e.born) a2 with
    |false=>rw [hbo] at hn;cases hn
    | true=>
     rw [hbo] at hn;simp only [cN] at hn;cases hn;have b5:x.born<a2:=by rw [hxe.2.2];exact cK hbo
     refine⟨.tuple #[.bool true,x.key,x.val],_,m,?_,Fr.updObj k hb hl (fun _ _ _ _ e=>by cases e) (fun _ _ _ _ e=>by cases e) (o':=.mapIter (some lm.blk) a2 ⟨seen++ [e.born]⟩ a0) rfl (fun a7=>⟨h0,lm,hlm,a7⟩),?_⟩
     ·have hA:((⟨es'⟩:Array MapEntry).filter fun e=>!(⟨seen⟩:Array Nat).contains e.born)=#[x]:=by
       apply Array.toList_inj.1;simpa using hx0
      unfold Instr.next;have a8:(!(⟨seen⟩:Array Nat).isEmpty&& !(⟨es'⟩:Array MapEntry).isEmpty&&(⟨es'⟩:Array MapEntry).all fun e=>decide (e.born≥a3))=false:=by
       rw [←a4];simp
      simp only [hg,b2,aY,Result.andThen,a8,hA,dJ,eY];have b6:(#[x].filter fun x=>decide (x.born<a2))=#[x]:=by simp [b5]
      have b7:(#[x].filter fun x=>decide (x.born≥a2))=#[]:=by simp;omega
      have b4:x.born=e.born:=hxe.2.2;simp only [b6,b7];simp [Question.forced,b0,b4]
     ·simp only [R,Rl];exact⟨_,rfl,_,_,rfl,rfl,_,_,rfl,hxe.1,_,_,rfl,hxe.2.1,rfl⟩
   ·cases hn
  ·cases hn
 ·cases hn
end
section
variable {P:Program} {m:Mp} {w:World}
theorem PK:∀(els:List (List V)) {bs:List Nat} {us:List Value},sZ els=some bs→Rl m els.flatten us→us=bs.map (fun n:Nat=>Value.int .u8 (n:Int))∧(∀n∈bs,n<256)∧bs.length=els.length
 | [],bs,us,hb,hr=>by
  simp only [sZ,cB] at hb;subst hb;simp only [List.flatten_nil,Rl] at hr;subst hr;simp
 | el::els,bs,us,hb,hr=>by
  unfold sZ at hb;split at hb
  ·rename_i e;cases e
  ·rename_i n r e;cases e;cases hn:Nat.ble n 255 with
   |false=>rw [hn] at hb;cases hb
   | true=>
    rw [hn] at hb;simp only [cN] at hb;cases hr2:sZ els with
    |none=>rw [hr2] at hb;cases hb
    |some l=>
     rw [hr2] at hb;cases hb;simp only [iS,oJ,oF,Rl] at hr;obtain⟨u,us',rfl,hu,hrest⟩:=hr;simp only [R] at hu;subst hu;obtain⟨g1,g2,g3⟩:=PK els hr2 hrest;have:=cK hn;refine⟨by simp [g1],?_,by simp [g3]⟩;intro x hx;rcases cD.1 hx with rfl|hx
     ·omega
     ·exact g2 x hx
  ·cases hb
end
section
variable {P:Program} {m:Mp} {w:World}
theorem Dn (k:HR m h w) {sz:Nat} {x v z:V} {zc:List V} {ux:Value} {ts:Array TypeId} {t ty el:TypeId} (h0:ts[0]?=some t) (hu:P.underlying t=some (.slice el))
  (hz:fJ P el=some z) (hc:dE z=some zc) (a1:zc.length=sz+1) (hx:R m x ux) (ha:EZ h (sz+1) zc x= .ok v h'):
  ∃u w' m',(Builtin.clear_ ts ty #[ux]).run P w= .ok u w'∧Fr m h w m' h' w'∧R m' v u:=by
 obtain⟨uz,hzr,rfl,_⟩:=lI (w:=w) hz;obtain⟨a2,h1,h2,h3⟩:=pH (m:=m) hc;have a4:uz.cells.size=sz+1:=by rw [h1];show a2.length=_;rw [h2.length,a1]
 unfold EZ at ha;split at ha
 ·rename_i b o len zz;split at ha
  ·rename_i a5 els f a6 hb;cases hcd:(Nat.beq a5 (sz+1)&&(Nat.beq zz (sz+1)&&Nat.beq (Nat.mod o (sz+1)) 0)) with
   |false=>rw [hcd] at ha;cases ha
   |true=>
   rw [hcd] at ha;simp only [cN] at ha;simp only [aM] at hcd;have e1:=aV hcd.1;subst e1;have e2:=aV hcd.2.1;subst e2;have e3:o%(sz+1)=0:=aV hcd.2.2;have hq:o/(sz+1)*(sz+1)=o:=by have:=kD o (sz+1);rw [bG,e3] at this;simpa using this
   simp only [R] at hx;obtain⟨l,cap,hl,rfl,hlc,hlim⟩:=hx;split at ha
   ·rename_i els' a3;cases ha;obtain⟨w',r1,r2⟩:=XD (P:=P) (q:=o/(sz+1)) k hb hl (h2.rep len) (xR h3 len) (by
     intro e0 he;rw [uG] at he;rw [(wT.1 he).2,a1]) a3
    rw [hq] at r1;have a0:(Builtin.zeroCells uz.cells len).toList=(List.replicate len a2).flatten:=by
     rw [Builtin.zeroCells,wX uz.cells len (by omega),h1]
    refine⟨.tuple #[],w',m,?_,r2,by simp [R,Rl,cI]⟩;cases len with
    |zero=>
     simp only [GY,List.flatten_nil,storeCells,bZ] at r1;cases r1;simp [Builtin.clear_,h0,dV hu]
    |succ n=>
     simp [Builtin.clear_,h0,dV hu,hzr,a0,r1]
   ·cases ha
  ·cases ha
 ·cases ha;simp only [R] at hx;subst hx;exact⟨.tuple #[],w,m,by simp [Builtin.clear_,h0,dV hu],Fr.refl k,by simp [R,Rl,cI]⟩
 ·cases ha;simp only [R] at hx;obtain⟨a,cap,rfl⟩:=hx;exact⟨.tuple #[],w,m,by simp [Builtin.clear_,h0,dV hu],Fr.refl k,by simp [R,Rl,cI]⟩
 ·cases ha
end
section
variable {P:Program} {m:Mp} {w:World}
theorem Av {a:Addr} {fz:Nat × Nat} (h:w.heap[a.block]?=some (.cells C t fz)) (hn:n≠0):
  ∃fz',w.freeze a n={ w with heap:=w.heap.setIfInBounds a.block (.cells C t fz') }:=by
 obtain⟨lo,hi⟩:=fz;refine⟨if lo==hi then(a.off,a.off+n) else(min lo a.off,max hi (a.off+n)),?_⟩;unfold World.freeze;rw [if_neg hn];congr 1;apply rO;intro j;rw [lH,lG];have b0:=(Array.getElem?_eq_some_iff.1 h).1
 by_cases e:a.block=j
 ·subst e;rw [h];simp [b0]
 ·simp [e]
theorem Fr.updCellsR {m:Mp} {w w':World} (k:HR m h w) {b f:Id} {sz:Nat} {els els':List (List V)} {ro ro':Rw} {l:Loc} {o':Obj}
  (hb:aB b h.mem=some (.cells sz els f ro)) (c8:ro≠ .fz) (hl:m b=some l)
  (d2:w'={ w with heap:=w.heap.setIfInBounds l.blk o' })
  (c7:w'.heap[l.blk]?=some o'→ObjAt m w' l (.cells sz els' f ro')):
  Fr m h w m (eD (fX h f b) b (.cells sz els' f ro')) w':=by
 rw [pY,vD];have hk:∀x ox,aB x (gG (jA b (aQ f h.fams)) h.mem)=some ox→aB x h.mem=some ox∧(x∈aQ f h.fams→x=b):=by
  intro x ox hx;rw [kR] at hx;split at hx
  ·cases hx
  ·rename_i hn;refine⟨hx,fun hm=>?_⟩
   by_cases e:x=b
   ·exact e
   ·exact absurd ((oQ b _ x).2 ⟨hm,e⟩) hn
 refine Fr.upd k hb hl (by simpa [iI] using c8) (fun x ox hx=>(hk x ox hx).1) ?_ ?_ ?_ ?_ (fun sz1 els1 f1 a8 e=>by cases e;exact⟨b,_,_,_,hb⟩) ?_ d2 c7
 ·intro x ox lx a4 hx c5 c3;obtain⟨a2,hm⟩:=hk x ox hx;have hs:=k.sep x b ox _ lx l a2 hb c5 hl a4 c3;cases ox with
  |cells sz1 els1 f1 a8=>
   have hf:f1=f:=hs;subst hf;exact a4 (hm (k.fam x b _ _ _ _ _ _ _ a2 hb a4))
  |_=>exact hs
 ·intro x y sz1 els1 f1 a8 sz2 els2 b8 hx hy a4;have a0:x=b∧f1=f∨x≠b∧aB x h.mem=some (.cells sz1 els1 f1 a8)∧(x∈aQ f h.fams→x=b):=by
   by_cases e:x=b
   ·subst e;rw [fR] at hx;cases hx;exact .inl ⟨rfl,rfl⟩
   ·rw [eM e] at hx;exact .inr ⟨e,hk x _ hx⟩
  have b7:y=b∧f1=f∨y≠b∧aB y h.mem=some (.cells sz2 els2 f1 b8)∧(y∈aQ f h.fams→y=b):=by
   by_cases e:y=b
   ·subst e;rw [fR] at hy;cases hy;exact .inl ⟨rfl,rfl⟩
   ·rw [eM e] at hy;exact .inr ⟨e,hk y _ hy⟩
  by_cases hf:f1=f
  ·subst hf;rcases a0 with⟨rfl,_⟩|⟨hn1,a2,hm1⟩
   ·rcases b7 with⟨rfl,_⟩|⟨hn2,a7,hm2⟩
    ·exact absurd rfl a4
    ·exact absurd (hm2 (k.fam y x _ _ _ _ _ _ _ a7 hb hn2)) hn2
   ·exact absurd (hm1 (k.fam x b _ _ _ _ _ _ _ a2 hb hn1)) hn1
  ·have a2:aB x h.mem=some (.cells sz1 els1 f1 a8):=by
    rcases a0 with⟨_,e⟩|⟨_,a2,_⟩
    ·exact absurd e hf
    ·exact a2
   have a7:aB y h.mem=some (.cells sz2 els2 f1 b8):=by
    rcases b7 with⟨_,e⟩|⟨_,a7,_⟩
    ·exact absurd e hf
    ·exact a7
   have:=k.fam x y _ _ _ _ _ _ _ a2 a7 a4;show x∈aQ f1 _;split
   ·exact this
   ·rw [iO hf];exact this
 ·intro f1;show(aQ f1 _).Pairwise _;split
  ·exact k.ord f1
  ·by_cases e:f1=f
   ·subst e;rw [nU];exact .nil
   ·rw [iO e];exact k.ord f1
 ·intro sz1 els1 f1 a8 e;cases e;exact k.famlt _ _ _ _ _ hb
 ·intro f1 x hx;have a0:x∈aQ f1 (if aQ f h.fams= [] then h.fams else fY f [] h.fams):=hx;split at a0
  ·exact k.flt f1 x a0
  ·by_cases e:f1=f
   ·subst e;rw [nU] at a0;cases a0
   ·rw [iO e] at a0;exact k.flt f1 x a0
theorem TP (k:HR m h w) {t t2 el ty:TypeId} {ts:List TypeId} {x v:V} {ux:Value} {n:Nat} (hu:P.underlying t=some (.pointer el)) (hs:bH P el=some 1) (hx:R m x ux)
  (hv:BN el h x n= .ok v h'):∃u w' m',(Builtin.unsafeString_ ⟨t::t2::ts⟩ ty #[ux,.int .i64 (n:Int)]).run P w= .ok u w'∧Fr m h w m' h' w'∧R m' v u:=by
 have b1:IntKind.i64.max=9223372036854775807:=rfl;have d5:(⟨t::t2::ts⟩:Array TypeId)[0]?=some t:=by simp
 unfold BN at hv;cases n with
 | zero=>
  simp only at hv;have hp:∃p,ux= .pointer p:=by
   split at hv
   ·simp only [R] at hx;exact⟨_,hx⟩
   ·simp only [R] at hx;obtain⟨l,_,hx⟩:=hx;exact⟨_,hx⟩
   ·cases hv
  have d1:v= .s 0 0∧h'=h:=by
   split at hv
   ·cases hv;exact⟨rfl,rfl⟩
   ·cases hv;exact⟨rfl,rfl⟩
   ·cases hv
  obtain⟨p,rfl⟩:=hp;obtain⟨rfl,rfl⟩:=d1;refine⟨.string .empty,w,m,?_,Fr.refl k,?_⟩
  ·cases p with
   |none=>
    rfl
   |some a=>
    rfl
  ·have:=R_strOf m ByteArray.empty;simpa [dQ,uC,lQ] using this
 | succ n=>
  simp only at hv;obtain⟨b,o,e0,hv1⟩:=AR hv;clear hv;have hv:=hv1;clear hv1;subst e0;simp only [R] at hx;obtain⟨l,hl,rfl⟩:=hx;split at hv
  ·rename_i sz els f ro hb;split at hv
   case h_2=>cases hv
   rename_i d4 b5;cases hcd:(Nat.beq sz 1&&(Nat.beq d4 el&&Nat.ble n 1000000)) with
   |false=>rw [hcd] at hv;cases hv
   | true=>
    rw [hcd] at hv;simp only [cN] at hv;simp only [aM] at hcd;have e1:=aV hcd.1;subst e1;have e2:=aV hcd.2.1;subst e2;have e3:=cK hcd.2.2;split at hv
    ·rename_i L hL;split at hv
     ·rename_i bs c2;cases hv;obtain⟨l2,hl2,C,tC,fz,hc⟩:=k.obj _ _ hb;rw [hl] at hl2;cases hl2;have ht:=hc.typ _ b5;subst ht;rw [AD] at hL;obtain⟨g1,g2⟩:=uA _ _ _ hL;have b3:o+(n+1)≤els.length:=by rw [cX] at g1;omega
      obtain⟨us,s1,s2,s3,s4,s5,s6⟩:=ET (o:=o) (len:=n+1) hc (wR _) (by rw [GS];exact g1);rw [GS,←g2] at s4;obtain⟨q1,q2,q3⟩:=PK L c2 s4;have b6:us.length=n+1:=by rw [s3];omega
      have c1:bs.length=n+1:=by rw [q1] at b6;simpa using b6
      have a5:∀j y,(bs.map UInt8.ofNat)[j]?=some y→w.cell? ((⟨l.blk,l.base+o,none⟩:Addr).add j)=some (.int .u8 y.toNat):=by
       intro j y hy;rw [mT,sW hc.at_];have d3:us[j]?=some (.int .u8 (y.toNat:Int)):=by
        rw [q1];rw [jK] at hy ⊢;cases hbj:bs[j]? with
        |none=>rw [hbj] at hy;cases hy
        |some x=>
         rw [hbj] at hy;simp only [rC,cB] at hy ⊢;subst hy;have b0:=q2 x (aX hbj);simp [pO b0]
       exact s6 j _ d3
      have a1:=Lib.run_loadBytes (P:=P) w (bs.map UInt8.ofNat) ⟨l.blk,l.base+o,none⟩ .empty a5;rw [oG,c1] at a1;have b4:=hc.room;have c4:=hc.len;have d6:=flat_len hc.each;have a6:=LY (P:=P) (cells:=C.size) (off:=l.base+o) (n:=n+1) (PE hs) Nat.one_pos (wR _) (by omega);have c9:=BZ hc.at_;obtain⟨fz',hfz⟩:=Av (w:=w) (a:=⟨l.blk,l.base+o,none⟩) (n:=n+1) hc.at_ (by omega);have b2:¬((n:Int)+1<0):=by omega
      have a9:¬((9223372036854775807:Int)<(n:Int)+1):=by omega
      have c6:¬((n:Int)+1=0):=by omega
      have d0:((n:Int)+1).toNat=n+1:=by omega
      refine⟨.string ⟨ByteArray.empty.data++(bs.map UInt8.ofNat).toArray⟩,w.freeze ⟨l.blk,l.base+o,none⟩ (n+1),m,?_,?_,?_⟩
      ·have a3:∃s1 s2 s3,Builtin.unsafeString_ ⟨t::t2::ts⟩ ty #[.pointer (some ⟨l.blk,l.base+o,none⟩),.int .i64 ((n+1:Nat):Int)]=
        (do
         let n←asInt (.int .i64 ((n+1:Nat):Int))
         if n<0 then runtimePanic (.error s1)
         if n>IntKind.i64.max then unsupported (.unsafePointer s2)
         if n=0 then pure (.string .empty)
         else if←variablesAt ⟨l.blk,l.base+o,none⟩ (←elemOf t) n.toNat then do
          let s←loadBytes ⟨l.blk,l.base+o,none⟩ .empty n.toNat
          freeze ⟨l.blk,l.base+o,none⟩ n.toNat
          pure (.string s)
         else unsupported (.unsafePointer s3)):=⟨_,_,_,rfl⟩
       obtain⟨s1,s2,s3,a3⟩:=a3;rw [a3];simp [asInt,asIntOf,b1,b2,a9,c6,d0,variablesAt,elemOf,dV hu,c9,a6,a1]
      ·rw [hfz];refine Fr.updCellsR k hb (fun e=>by subst e;cases b5) hl rfl ?_;intro b9;exact⟨C,_,fz',⟨b9,hc.room,hc.len,hc.each,hc.val,(fun hx=>Bool.noConfusion hx),(fun hx=>Bool.noConfusion hx),(fun ty e=>aJ e),hc.al⟩⟩
      ·have hR:=R_strOf m (⟨ByteArray.empty.data++(bs.map UInt8.ofNat).toArray⟩:ByteArray);have c0:dQ (⟨ByteArray.empty.data++(bs.map UInt8.ofNat).toArray⟩:ByteArray)=bs:=by
        simp only [dQ];have:(ByteArray.empty.data++(bs.map UInt8.ofNat).toArray).toList=bs.map UInt8.ofNat:=by simp
        rw [this,List.map_map];have hid:∀x∈bs,(UInt8.toNat∘UInt8.ofNat) x=x:=fun x hx=>by
         have:=q2 x hx;simp [pO this]
        rw [List.map_congr_left hid];simp
       rw [c0] at hR;exact hR
     ·cases hv
    ·cases hv
  ·cases hv
end
section
variable {P:Program} {m:Mp} {w:World}
def eN (P:Program) (call:bP):Prop:=
 ∀(f:FuncId) (vs:List V) (us:List Value) (m:Mp) (h:H) (w:World) (v:V) (h':H),HR m h w→Gl P m→Rl m vs us→call f vs h= .ok v h'→cJ P ((callFunc f ⟨us⟩).run P w) m h w v h'
theorem cJ.val {s:Sem Value} (hs:∃u w' m',s.run P w= .ok u w'∧Fr m h w m' h' w'∧R m' v u):cJ P ((do pure (Next.value (←s)):Sem Next).run P w) m h w v h':=by
 obtain⟨u,w',m',h1,h2,h3⟩:=hs;exact .inl ⟨u,w',m',.inl (by simp [h1]),h2,h3⟩
theorem cJ.unit {s:Sem Unit} (hs:∃w' m',s.run P w= .ok () w'∧Fr m h w m' h' w'∧R m' v undef):cJ P ((do s;pure Next.skip:Sem Next).run P w) m h w v h':=by
 obtain⟨w',m',h1,h2,h3⟩:=hs;exact .inl ⟨undef,w',m',.inr ⟨by simp [h1],rfl⟩,h2,h3⟩
theorem Dw {call:bP} (a2:eN P call) (k:bD m n e a) (hg:Gl P m) {h h':H} (hr:HR m h w) {c:Call} {ty:TypeId}
  (a0:(Op.call c).operands.toList.all (cO P n)=true) {v:V} (hv:(FI P c).run call e h= .ok v h'):
  cJ P ((do let d←resolve a.eval c ty;invoke d.target d.args:Sem Next).run P w) m h w v h':=by
 obtain⟨callee,args,argTypes⟩:=c;obtain⟨args⟩:=args;obtain⟨argTypes⟩:=argTypes;unfold FI at hv;simp only [Op.operands] at a0;cases callee with
 | value f=>
  simp [Call.operands] at a0;have hF:=cS k hg a0.1;obtain⟨g,A,B,e1,hv⟩:=Fi hv;rw [e1] at hF;simp only [R] at hF;obtain⟨a',c',hu,hA,hB⟩:=hF;split at hv
  ·rename_i a8;have a4:=rZ k hg (xs:=args) (by simpa using a0.2);rw [QU,QU] at hv;have:=a2 a8 _ _ m h w v h' hr hg (hA.append (a4.append hB)) hv;simpa [resolve,hu,Deferred.ofValue,invoke] using this
  ·cases hv
 |invoke r nm=>cases hv
 | builtin b=>
  simp [Call.operands] at a0;simp only at hv;split at hv
  ·rename_i e0;cases e0
  ·rename_i x y t t2 ts e0;cases e0;simp at a0;have hX:=cS k hg a0.1;have hY:=cS k hg a0.2;unfold appC at hv;split at hv
   ·cases hv
   ·rename_i el u2 b0 hu a3;split at hv
    ·rename_i sz z hs hz;split at hv
     ·rename_i zc a6 hc hi;cases hcd:(Nat.ble a6.bytes 1000000&&Nat.beq (dP zc) (sz+1)) with
      |false=>rw [hcd] at hv;cases hv
      | true=>
       rw [hcd] at hv;simp only [cN] at hv;simp only [aM] at hcd;split at hv
       ·rename_i new he;obtain⟨uz,hzr,rfl,i2,hi2,hzi⟩:=lI (w:=w) hz;rw [hi] at hi2;cases hi2;obtain⟨b2,h1,h2,h3⟩:=pH (m:=m) hc;obtain⟨i3,hi3,hsz⟩:=pX hs;rw [hi] at hi3;cases hi3;have b1:uz.cells.size=sz+1:=by
         rw [h1];show b2.length=_;rw [h2.length,←jD];exact aV hcd.2
        have T:AppTy P ⟨t::t2::ts⟩ (sz+1) el a6 uz:=⟨⟨t,t2,u2,by simp,by simp,hu,a3,b0⟩,hi,hzi,hsz,b1,cK hcd.1⟩;have:=cJ.val (Fo (ty:=ty) hr T hX hY he hv);simpa [resolve,invoke,builtin] using this
       ·cases hv
     ·cases hv
    ·cases hv
   ·cases hv
  ·rename_i x t ts e0;cases e0;simp at a0;have hX:=cS k hg a0;unfold OZ at hv;split at hv
   ·rename_i el hu;split at hv
    ·rename_i sz z hs hz;split at hv
     ·rename_i zc hc;cases hcd:(Nat.beq (dP zc) (sz+1)) with
      |false=>rw [hcd] at hv;cases hv
      |true=>
       rw [hcd] at hv;simp only [cN] at hv;have:=cJ.val (Dn (P:=P) (ts:=⟨t::ts⟩) (ty:=ty) hr (by simp) hu hz hc (by rw [←jD];exact aV hcd) hX hv);simpa [resolve,invoke,builtin] using this
     ·cases hv
    ·cases hv
   ·cases hv
  ·rename_i x nn t t2 ts e0;cases e0;simp at a0;have hX:=cS k hg a0.1;have hN:=cS k hg a0.2;unfold ustrC at hv;split at hv
   ·rename_i el hu;split at hv
    ·rename_i hs;simp only at hv;split at hv
     ·rename_i N e1;rw [e1] at hN;simp only [R] at hN;have:=cJ.val (P:=P) (TP (P:=P) (ty:=ty) (t2:=t2) (ts:=ts) hr hu hs hX hv);have hm:(⟨[x,nn]⟩:Array Operand).map a.eval=#[a.eval x,.int .i64 (Int.ofNat N)]:=by simp [hN]
      simpa [resolve,invoke,builtin,hN] using this
     ·cases hv
    ·cases hv
   ·cases hv
  ·cases hv
theorem EF {call:bP} (a2:eN P call) (k:bD m n e a) (hg:Gl P m) {h h':H} (hr:HR m h w) {o:Oper} (a0:o.op.operands.toList.all (cO P n)=true) {v:V}
  (hv:(pB P o.op).run call e h= .ok v h'):cJ P ((execOp a.eval o).run P w) m h w v h':=by
 obtain⟨dst,op,type,pos,after,guard⟩:=o;simp only at a0 hv;have a1:∀{x:Operand},cO P n x=true→R m ((aF x).run e) (a.eval x):=fun hx=>cS k hg hx
 cases op<;>simp only [pB] at hv<;>(try (cases hv;done))
 case call c=>exact Dw a2 k hg hr a0 hv
 case alloc t=>
  split at hv
  ·rename_i z hz;split at hv
   ·rename_i c hc;exact cJ.val (Fq hr hz hc hv)
   ·cases hv
  ·cases hv
 case box t x=>
  have hX:=a1 (show cO P n x=true by simpa [Op.operands] using a0);cases hc:dE ((aF x).run e) with
  |none=>simp only [hc] at hv;cases hv
  |some c=>
   simp only [hc] at hv;exact cJ.val (Eg hr hX hc hv)
 case makeMap t r=>
  cases r with
  |none=>exact cJ.val (YW hr (.inl rfl) hv)
  |some x=>cases hv
 case range t x=>
  have hX:=a1 (show cO P n x=true by simpa [Op.operands] using a0);split at hv
  ·rename_i kt et hu;obtain⟨b,e1,hv⟩:=wI hv;rw [e1] at hX;simp only [R] at hX;obtain⟨l,hl,a3⟩:=hX;split at hv
   ·rename_i es a7 he;have:=cJ.val (P:=P) (WR hr hu hl he hv);simpa [execOp,a3] using this
   ·cases hv
  ·cases hv
 case next x isS=>
  have hX:=a1 (show cO P n x=true by simpa [Op.operands] using a0);cases isS with
  |true=>cases hv
  | false=>
   obtain⟨b,o,e1,hv⟩:=AR hv;rw [e1] at hX;obtain⟨l,hl,hu⟩:=R_p hX;cases ho:Nat.beq o 0 with
   |false=>rw [ho] at hv;cases hv
   |true=>
    rw [ho] at hv;have:=aV ho;subst this;have:=cJ.val (P:=P) (YC (ty:=type) hr hl hv);simpa [execOp,hu] using this
 case mapUpdate t mm kx vx=>
  simp [Op.operands] at a0;have hM:=a1 a0.1;have hK:=a1 a0.2.1;have hV:=a1 a0.2.2;split at hv
  ·rename_i kt et hu;obtain⟨b,e1,hv⟩:=wI hv;rw [e1] at hM;simp only [R] at hM;obtain⟨l,hl,a3⟩:=hM;obtain⟨rfl,w',r1,r2⟩:=LJ hr hu hl hK hV hv;have:=cJ.unit (P:=P) ⟨w',m,r1,r2,show R m cI undef by simp [R,Rl,cI,undef]⟩;simpa [execOp,a3] using this
  ·cases hv
 case insert t mm kx vx=>
  simp [Op.operands] at a0;have hM:=a1 a0.1;have hK:=a1 a0.2.1;have hV:=a1 a0.2.2;split at hv
  ·rename_i kt et hu;obtain⟨b,e1,hv⟩:=wI hv;rw [e1] at hM;simp only [R] at hM;obtain⟨l,hl,a3⟩:=hM;obtain⟨rfl,w',r1,r2⟩:=LJ hr hu hl hK hV hv;have:=cJ.unit (P:=P) ⟨w',m,r1,r2,show R m cI undef by simp [R,Rl,cI,undef]⟩;simpa [execOp,a3] using this
  ·cases hv
 case mapEntry t mm kx=>
  simp [Op.operands] at a0;have hM:=a1 a0.1;have hK:=a1 a0.2;split at hv
  ·rename_i kt et hu;split at hv
   ·rename_i z hz;obtain⟨b,e1,hv⟩:=wI hv;rw [e1] at hM;simp only [R] at hM;obtain⟨l,hl,a3⟩:=hM;obtain⟨u,w',r1,r2,r3⟩:=YU hr hu hz hl hK hv;have:=cJ.val (P:=P) ⟨u,w',m,r1,r2,r3⟩;simpa [execOp,a3] using this
   ·cases hv
  ·cases hv
 case entryStore t mm sx vx=>
  simp [Op.operands] at a0;have hM:=a1 a0.1;have hK:=a1 a0.2.1;have hV:=a1 a0.2.2;obtain⟨b,e1,hv⟩:=wI hv;rw [e1] at hM;simp only [R] at hM;obtain⟨l,hl,a3⟩:=hM;obtain⟨kk,nn,e2,hv⟩:=FZ hv;rw [e2] at hK;simp only [R] at hK;split at hv
  ·rename_i nn;obtain⟨rfl,w',r1,r2⟩:=Bx (P:=P) (t:=t) (kk:=kk) hr hl hV hv;have:=cJ.unit (P:=P) ⟨w',m,r1,r2,show R m cI undef by simp [R,Rl,cI,undef]⟩;simpa [execOp,a3,hK] using this
  ·cases hv
 case buildSlice t len ps=>
  split at hv
  ·rename_i el hu;split at hv
   ·rename_i sz z hs hz;split at hv
    ·rename_i zc hc;cases hcd:(Nat.ble (len*(sz+1)) 16777216&&Nat.beq (dP zc) (sz+1)) with
     |false=>rw [hcd] at hv;cases hv
     | true=>
      rw [hcd] at hv;simp only [cN] at hv;simp only [aM] at hcd;split at hv
      ·rename_i cs hb;exact cJ.val (Ee k hg hr hu (by simpa [Op.operands] using a0) hs hz hc (cK hcd.1) (by rw [←jD];exact aV hcd.2) hb hv)
      ·cases hv
    ·cases hv
   ·cases hv
  ·cases hv
 case makeSlice t lx cx=>
  simp [Op.operands] at a0;have hL:=a1 a0.1;have hC:=a1 a0.2;split at hv
  ·rename_i el hu;split at hv
   ·rename_i sz z hs hz;split at hv
    ·rename_i zc a6 hc hi;cases hcd:(Nat.ble a6.bytes 1000000&&Nat.beq (dP zc) (sz+1)) with
     |false=>rw [hcd] at hv;cases hv
     | true=>
      rw [hcd] at hv;simp only [cN] at hv;simp only [aM] at hcd;obtain⟨k1,n1,e1,hv1⟩:=FZ hv;clear hv;obtain⟨k2,n2,e2,hv⟩:=FZ hv1;clear hv1;rw [e1] at hL;rw [e2] at hC;simp only [R] at hL hC;split at hv
      ·rename_i N M;cases hcd2:(Nat.ble N M&&Nat.ble M 100000) with
       |false=>rw [hcd2] at hv;cases hv
       |true=>
        rw [hcd2] at hv;simp only [cN] at hv;simp only [aM] at hcd2;have:=cJ.val (P:=P) (YV (k1:=k1) (k2:=k2) hr hu hs hz hc hi (cK hcd.1) (by rw [←jD];exact aV hcd.2) (cK hcd2.1) (cK hcd2.2) hv);simpa [execOp,hL,hC] using this
      ·cases hv
    ·cases hv
   ·cases hv
  ·cases hv
 case store t ax vx=>
  simp [Op.operands] at a0;have hA:=a1 a0.1;have hV:=a1 a0.2;split at hv
  ·rename_i nn hs;obtain⟨b,o,e1,hv⟩:=AR hv;rw [e1] at hA;obtain⟨l,hl,hu⟩:=R_p hA;cases hc:dE ((aF vx).run e) with
   |none=>simp only [hc] at hv;cases hv
   | some c=>
    simp only [hc] at hv;cases hn:Nat.beq (dP c) nn with
    |false=>rw [hn] at hv;cases hv
    | true=>
     rw [hn] at hv;have a5:c.length=nn:=by rw [←jD];exact aV hn
     obtain⟨c',h1,h2,h3⟩:=vX hV hc;obtain⟨a6,hi,hsz⟩:=pX hs;obtain⟨rfl,w',r1,r2⟩:=TC (P:=P) hr hl a5 h2 h3 hv;have a9:c'.length=nn:=by rw [h2.length,a5]
     have:=cJ.unit (P:=P) (s:=Instr.storeAt t (a.eval ax) (a.eval vx)) ⟨w',m,by
      simp [Instr.storeAt,hu,Instr.sureAddr,storeVar,sizeOf,typeInfo,hi,hsz,h1,a9,r1],r2,show R m cI undef by simp [R,Rl,cI,undef]⟩
     simpa [execOp] using this
  ·cases hv
end
end Go.Ev
