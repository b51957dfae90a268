/- Lemmas; no condition. -/
import Derived.Test.YtealgacfnbbgdaaGreatDoorAe
set_option linter.all false
set_option maxHeartbeats 4000000
set_option maxRecDepth 100000
namespace Go.Proofs.YtealgacfnbbgdaaGreatDoor
open Go.RowKit Go.Big
variable {ds A qs cur rest L xs:List Nat} {k c B m n d p b j v s x e i y q:Nat} {w w':Wo} {r:Value}
inductive ShlD (B p:Nat):List Nat→List Nat→Nat→Prop
 |nil:ShlD B p [] [] 0
 |snoc {xs ds:List Nat} {c x:Nat} (h:ShlD B p xs ds c) (hx:x<B):ShlD B p (xs++ [x]) (ds++ [x*p%B+c]) (x*p/B)
def ShlD.spec (hB:B=p*m) (hp:0<p) (h:ShlD B p xs ds c):ds.length=xs.length∧c<p∧(∀d∈ds,d<B)∧val B ds+B^xs.length*c=val B xs*p:=by
 induction h with
 |nil=>exact⟨rfl,hp,by simp,by simp [val]⟩
 | @snoc xs ds c x h hx ih=>
  obtain⟨h1,h2,h3,h4⟩:=ih;have hm:0<m:=by
   rcases yQ m with h|h
   ·subst h;rw [wL] at hB;omega
   ·exact h
  have e1:x*p%B=p*(x%m):=by rw [hB,dM x p,Qs]
  have e2:p*(x%m)+p≤B:=by
   rw [hB,←Nat.mul_succ];exact nO _ (nP _ hm)
  refine⟨by simp [h1],Ah (NM hx hp),fun d hd=>?_,?_⟩
  ·rcases eY.1 hd with hd|hd
   ·exact h3 d hd
   ·simp at hd;rw [hd,e1];omega
  ·rw [kO,kO,h1,aV,oJ,gK];have e3:x*p%B+B*(x*p/B)=x*p:=GJ _ _;generalize x*p%B=r,x*p/B=q,B^xs.length=W at*;have e4:W*B*q=W*(B*q):=fH _ _ _;have e5:(val B xs+W*x)*p=val B xs*p+W*(x*p):=by rw [eO,fH]
   rw [e4,e5,←e3,eM,eM,←h4];omega
def YC (hc:c<2^s) (hy:∃k,y=k*2^s) (b8:y<4294967296) (d5:c<4294967296) (hs:y+c<4294967296):bits .or .u32 (c:Int) (y:Int)=((y+c:Nat):Int):=by
 obtain⟨k,rfl⟩:=hy;have e:k<<<s+c=k<<<s|||c:=GH hc k;rw [BZ] at e;have h1:(BitVec.ofInt 32 (c:Int)).toNat=c:=by rw [oM,oL];omega
 have h2:(BitVec.ofInt 32 ((k*2^s:Nat):Int)).toNat=k*2^s:=by rw [oM,oL];omega
 show IntKind.u32.wrap (((BitVec.ofInt 32 (c:Int))|||BitVec.ofInt 32 ((k*2^s:Nat):Int)).toNat:Int)=_;rw [HF,h1,h2,ZU,←e,nS];omega
def qI (len:Nat):Obj:=.cells ((List.replicate len 0).map fun x:Nat=>Value.int .u32 x).toArray 83
def zV (len:Nat) (hb:len≤1048576) (w:Wo):(Instr.makeSlice 22 (.int .i64 len) (.int .i64 len)).run Tryz.prog w= .ok (.slice (some ⟨w.heap.size,0,none⟩) len len) (w.alloc (qI len)):=by
 unfold qI;obtain⟨i0,hi,hz0,hz1,hz2⟩:=pI KH;have:=GC (P:=Tryz.prog) w 22 83 i0 (.int .u32 0) Tryz.underlying22 hi hz0 .i64 .i64 len len (by omega) (Bb _) (by rw [hz2];omega) (by omega);rw [hz1] at this;have e:madeCells (Value.int .u32 0).cells (len*1)=((List.replicate len 0).map fun x:Nat=>Value.int .u32 x).toArray:=by
  apply Array.ext';simp [madeCells,Value.cells];apply Au
  ·simp
  ·intro i h1 h2;simp [CE]
 rw [←e];simpa using this
def yX (w:Wo) (m:Nat):dP (w.alloc (qI m)) w.heap.size (List.replicate m 0):=by
 unfold dP qI;generalize (List.replicate m 0)=L;show(w.heap.push _)[w.heap.size]?=_;rw [Sg]
def yZ (w:Wo) (m:Nat):Bz w (w.alloc (qI m)):=(aK _ _).alloc (aA _) _
def dP.lim {off:Nat} {lo mid hi:List Nat} (h:dP w b cur) (e:cur=lo++mid++hi) (e7:lo.length=off) (hd:∀x∈mid,x<4294967296) (hb:b<n):dL n w (some ⟨b,off,none⟩) mid:=by
 refine⟨hd,fun _=>⟨b,off,rfl,hb,fun j x hx=>?_⟩⟩;have h1:=(aZ.1 hx).1;refine(h.cell ?_).1;rw [e,iP,iE (by omega),show off+j-lo.length=j by omega,gM h1];exact hx
def dP.lim0 (h:dP w b cur) (hd:∀x∈cur,x<4294967296) (hb:b<n) (k:Nat):dL n w (some ⟨b,0,none⟩) (cur.take k):=
 h.lim (lo:=[]) (hi:=cur.drop k) (by simp) rfl (fun x hx=>hd x (lH hx)) hb
def dP.lt (h:dP w b cur):b<w.heap.size:=(cV.1 h).1
def DM (hs:s<32):(4294967296:Nat)=2^s*2^(32-s):=by
 rw [←GI,show s+(32-s)=32 by omega]
def II (hk:ds.length=k):(ds++c::rest).set k d=ds++d::rest:=by
 rw [CG _ _ (by omega),hk,rQ];rfl
def Fa (hk:ds.length=k):(ds++c::e::rest).set (k+1) d=ds++c::d::rest:=by
 rw [CG _ _ (by omega),hk,show k+1-k=1 by omega];rfl
def IJ (hk:ds.length=k):(ds++c::rest)[k]?=some c:=by
 rw [iE (by omega),hk,rQ];rfl
def Fc (hk:ds.length=k):(ds++c::e::rest)[k+1]?=some e:=by
 rw [iE (by omega),hk,show k+1-k=1 by omega];rfl
def PP (a:Option Addr) (len cap n s:Nat) (A:List Nat) (hl:A.length=len) (hb:len≤1000000) (hs:s<32) (e8:0<len) (b9:∀x∈A,x<4294967296) (w:Wo) (hn:n≤w.heap.size) (h1:dL n w a A):
  Cz 364 #[.slice a len cap,.int .i64 s] w fun e w'=>∃L k,e= .returned (.slice (some ⟨w.heap.size,0,none⟩) k (len+1))∧L.length=len+1∧(∀x∈L,x<4294967296)∧val 4294967296 L=val 4294967296 A*2^s∧nM L k∧dP w' w.heap.size L∧Bz w w':=by
 have e6:((len:Int)==0)=false:=by simp;omega
 have hq:(s:Int)/32=0:=by omega
 have hr:(s:Int)%32=s:=by omega
 have f0:=ewr (i:=len) (by omega);have mk:∀w:Wo,(Instr.makeSlice 22 (.int .i64 ((len:Int)+1)) (.int .i64 ((len:Int)+1))).run Tryz.prog w=_:=fun w=>zV (len+1) (by omega) w
 obtain⟨wb,hwb⟩:=enm (w.alloc (qI (len+1)));go_enter Tryz.func364,Tryz.ntmps364
 go_wp2_with fail
 have b2:dP wb w.heap.size (List.replicate (len+1) 0):=by
  rw [←hwb];exact yX w _
 have a5:Bz w wb:=hwb▸yZ w _;have d4:dL n wb a A:=h1.below a5 hn;have b0:=aside2 b2 a5;clear hwb b2 a5 mk
 go_loopw [21] (fun d3 wr=>∃(i c:Nat) (ds:List Nat),d3= .int .i64 i∧i≤len∧Aside (ds.length=i∧ShlD 4294967296 (2^s) (A.take i) ds c)∧dP wr w.heap.size (ds++c::List.replicate (len-i) 0)∧Bz w wr) (fun s _=>len-(intOf s).toNat)
 case atStart=>exact⟨0,0,[],rfl,cJ _,⟨rfl,by simpa using ShlD.nil⟩,by simpa [pL] using b0.o.1,b0.o.2⟩
 case round=>
  obtain⟨i,c,ds,rfl,hi,hD,hR,hB⟩:=hrel
  by_cases c8:i<len
  ·obtain⟨x,hx⟩:∃x,A[i]?=some x:=⟨_,cE (by omega)⟩;obtain⟨b,off,rfl,hbk,hxl,hc⟩:=(h1.below hB hn).get hx;have d1:=b9 x (bV hx);obtain⟨z,hz⟩:∃z,len-i=z+1:=⟨len-i-1,by omega⟩;rw [hz,pL] at hR;obtain⟨p,hp⟩:∃p,p=2^s:=⟨_,rfl⟩;obtain⟨m,hm⟩:∃m,m=2^(32-s):=⟨_,rfl⟩;have a3:4294967296=p*m:=by rw [hp,hm];exact DM hs
   have b7:0<p:=by rw [hp];exact nN (by decide)
   have c9:0<m:=by rw [hm];exact nN (by decide)
   obtain⟨y,hy⟩:∃y,y=x*p:=⟨_,rfl⟩;have a1:p≤2147483648:=by rw [hp];exact qE (by decide) (show s≤31 by omega)
   have b8:y≤4294967295*2147483648:=by rw [hy];exact tG (by omega) a1
   have sp:=hD.o.2.spec (m:=m) (by rw [←hp];exact a3) (by rw [←hp];exact b7);have b3:c<p:=by rw [hp];exact sp.2.1
   obtain⟨k,hk⟩:∃k,y%4294967296=k*p:=⟨x%m,by rw [hy,a3,dM x p,Qs,dM]⟩;have c7:k*p+p≤4294967296:=by
    have c6:k<m:=by
     have:k*p<m*p:=by rw [←hk,dM m p,←a3];omega
     exact Ab this
    rw [a3,←kC,dM p m];exact fP _ c6
   obtain⟨lw,hlw⟩:∃lw,lw=y%4294967296:=⟨_,rfl⟩;obtain⟨hg,hhg⟩:∃hg,hg=y/4294967296:=⟨_,rfl⟩;have m1:IntKind.u64.wrap (x:Int)=(x:Int):=by rw [wrap_u64];omega
   have m5:IntKind.u32.wrap (y:Int)=(lw:Int):=by rw [nS];omega
   have m7:(y:Int)/4294967296=(hg:Int):=by omega
   have m8:IntKind.u32.wrap (hg:Int)=(hg:Int):=by rw [nS];omega
   have d6:(i:Int)<(len:Int):=by omega
   have d7:(0:Int)≤(i:Int):=by omega
   have d8:(i:Int)<(len:Int)+1:=by omega
   have d9:(i:Int)+1<(len:Int)+1:=by omega
   have e0:(0:Int)≤(i:Int)+1:=by omega
   have e9:=ewr (i:=i) (by omega);have m2:IntKind.u64.wrap ((x:Int)*2^s)=(y:Int):=by
    have e:(x:Int)*2^s=(y:Int):=by rw [hy,hp];simp
    rw [e,wrap_u64];omega
   obtain⟨d,hd⟩:∃d,d=lw+c:=⟨_,rfl⟩;have b6:lw=k*2^s:=by rw [hlw,hk,hp]
   have mo:bits .or .u32 (c:Int) (lw:Int)=(d:Int):=by
    rw [hd];exact YC (s:=s) (by rw [←hp];exact b3) ⟨k,b6⟩ (by omega) (by omega) (by omega)
   have mz:bits .or .u32 (0:Int) (hg:Int)=(hg:Int):=by
    have:=YC (s:=0) (c:=0) (y:=hg) (by decide) ⟨hg,by simp⟩ (by omega) (by decide) (by omega);simpa using this
   have a0:=hD.o.1;obtain⟨c0,c1⟩:=hR.cell (IJ (c:=c) (rest:=0::List.replicate z 0) a0);have a4:=hR.set (k:=i) (d:=d);rw [II a0] at a4;obtain⟨c2,c3⟩:=a4.cell (Fc (c:=d) (e:=0) (rest:=List.replicate z 0) a0);have a9:=a4.set (k:=i+1) (d:=hg);rw [Fa a0] at a9;have c4:=(hB.setCell (p:=⟨w.heap.size,i,none⟩) (aA _) (.int .u32 d)).setCell (p:=⟨w.heap.size,i+1,none⟩) (aA _) (.int .u32 hg);have c5:Aside ((ds++ [d]).length=i+1∧ShlD 4294967296 (2^s) (A.take (i+1)) (ds++ [d]) hg):=by
    refine⟨by rw [aV,a0];rfl,?_⟩;have:=ShlD.snoc hD.o.2 d1;rw [qJ hx];have e1:d=x*2^s%4294967296+c:=by rw [hd,hlw,hy,hp]
    have e2:hg=x*2^s/4294967296:=by rw [hhg,hy,hp]
    rw [e1,e2];exact this
   have d2:Aside (len-(i+1)=z):=by show _=_;omega
   have b4:=aside c8;clear sp hR a4 hB hd b6 hlw hhg hy hp hm a3 b7 c9 hk c7 b3 a0 hz hD b8 a1 hx
   go_wp2_with fail
   exact⟨⟨i+1,hg,ds++ [d],by simp,by have:=b4.o;omega,c5,by rw [d2.o];simpa using a9,c4⟩,by have:=b4.o;simp [intOf];omega⟩
  ·obtain rfl:i=len:=by omega
   obtain⟨a0,hSD⟩:=hD.o;rw [iW (by omega)] at hSD;rw [rQ,NU] at hR;obtain⟨q1,q2,q3,q4⟩:=hSD.spec (DM hs) (nN (by decide));have a1:2^s≤2147483648:=qE (by decide) (show s≤31 by omega);have a6:∀x∈ds++ [c],x<4294967296:=fun x hx=>by
    rcases eY.1 hx with hx|hx
    ·exact q3 x hx
    ·simp at hx;omega
   have a7:(ds++ [c]).length=i+1:=by rw [aV,a0];rfl
   have a8:val 4294967296 (ds++ [c])=val 4294967296 A*2^s:=by rw [kO,q1];exact q4
   have b5:dL wr.heap.size wr (some ⟨w.heap.size,0,none⟩) (ds++ [c]):=by
    have:=hR.lim0 a6 hR.lt (i+1)
    rwa [iW (by omega)] at this
   have d0:=vP (some ⟨w.heap.size,0,none⟩) (i+1) (i+1) wr.heap.size (ds++ [c]) a7 (by omega) (aA _) wr (aA _) b5;have a2:=aside3 a7 a6 a8;have b1:=aside hR;clear a7 a6 a8 b5 q1 q2 q3 q4 hSD a0 hR a1 hD
   go_wp2_with (go_at_call 367;with_reducible refine d0.mono ?_;rintro e w' ⟨k,rfl,hT,hb2⟩)
   go_ret
   exact⟨_,k,rfl,a2.o.1,a2.o.2.1,a2.o.2.2,hT,(hb2.block w.heap.size b1.o.lt).trans b1.o,hB.trans (hb2.mono hB.size)⟩
section
attribute [local go_sem] Heavy.uponW
def NatL (n:Nat) (w:Wo) (r:Value) (v:Nat):Prop:=∃a L c,r= .slice a L.length c∧dL n w a L∧NoZ L∧val 4294967296 L=v
def dL.up {a:Option Addr} (h:dL n w a L) (hm:n≤m):dL m w a L:=by
 refine⟨h.1,fun c2=>?_⟩;obtain⟨b,off,e,hbn,hc⟩:=h.2 c2;exact⟨b,off,e,by omega,hc⟩
def NatL.below (h:NatL n w r v) (hb:Below m w w') (hm:n≤m):NatL n w' r v:=by
 obtain⟨a,L,c,h1,h3,h4⟩:=h;exact⟨a,L,c,h1,h3.below hb hm,h4⟩
def NatL.up (h:NatL n w r v) (hm:n≤m):NatL m w r v:=by
 obtain⟨a,L,c,h1,h3,h4⟩:=h;exact⟨a,L,c,h1,h3.up hm,h4⟩
def nM.noZ (h:nM L k):NoZ (L.take k):=by
 intro x hx;rw [wN,bT,CF h.1] at hx;rcases h.2.2 with h0|⟨y,hy,b2⟩
 ·subst h0;simp at hx
 ·have hk:k-1<k:=by
   rcases yQ k with h0|h0
   ·subst h0;simp at hx
   ·omega
  rw [jN hk,hy] at hx;cases hx;exact b2
def Pq (x y:Nat) (hx:x<4294967296) (hy:y<4294967296):bits .or .u64 (x:Int) ((y:Int)*4294967296)=((x+y*4294967296:Nat):Int):=by
 have e:y<<<32+x=y<<<32|||x:=GH (by omega) y;rw [BZ] at e;have h1:(BitVec.ofInt 64 (x:Int)).toNat=x:=by rw [oM,oL];omega
 have e1:((y:Int)*4294967296)=((y*4294967296:Nat):Int):=by simp
 have h2:(BitVec.ofInt 64 ((y*4294967296:Nat):Int)).toNat=y*4294967296:=by rw [oM,oL];omega
 show IntKind.u64.wrap (((BitVec.ofInt 64 (x:Int))|||BitVec.ofInt 64 ((y:Int)*4294967296)).toNat:Int)=_;rw [e1,HF,h1,h2,ZU];have e3:y*4294967296|||x=y*4294967296+x:=by rw [show(4294967296:Nat)=2^32 by decide,e]
 rw [e3,wrap_u64];omega
def NatL.of_trim {bo:Nat} (hl:ds.length=i) (hT:nM ds k) (h:dL w.heap.size w (some ⟨bo,0,none⟩) ds) (hb:Bz w w'):NatL w'.heap.size w' (.slice (some ⟨bo,0,none⟩) k i) (val 4294967296 ds):=by
 have hk:=hT.1;refine⟨some ⟨bo,0,none⟩,ds.take k,i,?_,?_,hT.noZ,hT.val⟩
 ·rw [bT,CF hT.1]
 ·have:=((h.below hb (aA _)).up hb.size);refine⟨fun x hx=>this.1 x (lH hx),fun c2=>?_⟩;obtain⟨b3,off3,e3,hb3,hc3⟩:=this.2 (fun h=>c2 (by rw [h];simp));exact⟨b3,off3,e3,hb3,fun j x hx=>hc3 j x (by
   have hj:j<k:=by
    have:=(aZ.1 hx).1;rw [bT] at this;omega
   rwa [jN hj] at hx)⟩
structure ShrD (B p:Nat) (A:List Nat) (i:Nat) (ds:List Nat):Prop where
 len:ds.length=i
 dig:∀d∈ds,d<B
 sum:val B ds*p+dg A 0%p=val B (A.take i)+B^i*(dg A i%p)
def ShrD.start:ShrD B p A 0 []:=⟨rfl,by simp,by simp [val]⟩
def Dz (hp:0<p) (hm:0<m) (hx:x<p*m):(x+y*(p*m))/p%(p*m)<p*m∧(x+y*(p*m))/p%(p*m)*p+x%p=x+p*m*(y%p):=by
 have d4:0<p*m:=Nat.mul_pos hp hm;refine⟨nP _ d4,?_⟩;have e1:(x+y*(p*m))/p=x/p+m*y:=by
  rw [show y*(p*m)=p*(m*y) by rw [dM y,fH],Nat.add_mul_div_left _ _ hp]
 have f0:x/p<m:=Ah hx;have hy:m*(y%p)+m≤p*m:=by
  rw [←Nat.mul_succ,dM p m];exact nO _ (nP _ hp)
 have e2:(x/p+m*y)%(p*m)=x/p+m*(y%p):=by
  have e3:m*y=m*(y%p)+p*m*(y/p):=by
   have:=GJ y p
   conv=>lhs;rw [←this]
   rw [eM,←fH,dM m p]
  rw [e3,←pJ,Ra,tH (by omega)]
 rw [e1,e2,eO];have h1:=lZ x p;have h2:m*(y%p)*p=p*m*(y%p):=by rw [dM,fH]
 rw [h2,dM (x/p) p];omega
def ShrD.step (hB:B=p*m) (hp:0<p) (hm:0<m) (h:ShrD B p A i ds) (hx:A[i]?=some x) (a4:x<B):ShrD B p A (i+1) (ds++ [(x+dg A (i+1)*B)/p%B]):=by
 obtain⟨q1,q2⟩:=Dz (y:=dg A (i+1)) hp hm (by rw [←hB];exact a4);rw [←hB] at q1 q2;obtain⟨d,hd⟩:∃d,d=(x+dg A (i+1)*B)/p%B:=⟨_,rfl⟩;rw [←hd] at q1 q2 ⊢;refine⟨by rw [aV,h.len];rfl,fun e he=>?_,?_⟩
 ·rcases eY.1 he with he|he
  ·exact h.dig e he
  ·simp at he;omega
 ·have h1:=h.sum;rw [Nj hx] at h1;have hl:(A.take i).length=i:=by
   have:=(aZ.1 hx).1;rw [bT];omega
  rw [kO,h.len,qJ hx,kO,hl,gK];have e1:(val B ds+B^i*d)*p=val B ds*p+B^i*(d*p):=by rw [eO,fH]
  have e2:B^i*(d*p)+B^i*(x%p)=B^i*x+B^i*B*(dg A (i+1)%p):=by
   rw [←eM,q2,eM,fH]
  rw [e1];omega
def ShrD.done (hp:0<p) (h:ShrD B p A A.length ds):val B ds=val B A/p:=by
 have h1:=h.sum;rw [BC (aA _),BY,wL,gQ,kD] at h1;have h2:dg A 0%p<p:=nP _ hp;rw [←h1,dM,ZY hp,Nat.div_eq_of_lt h2,gQ]
def Ea (a:Option Addr) (len cap n s:Nat) (A:List Nat) (hl:A.length=len) (hb:len≤1000000) (hs:s<32) (d1:len≤cap) (w:Wo) (hn:n≤w.heap.size) (h1:dL n w a A):
  Cz 366 #[.slice a len cap,.int .i64 s] w fun e w'=>∃r x,e= .returned (.tuple #[r,x])∧NatL w'.heap.size w' r (val 4294967296 A/2^s)∧Bz w w':=by
 have hq:(s:Int)/32=0:=by omega
 have hr:(s:Int)%32=s:=by omega
 by_cases h0:len=0
 ·subst h0;obtain rfl:A= []:=GV.1 hl;go_enter Tryz.func366,Tryz.ntmps366
  go_wp2_with fail
  go_ret2
  exact⟨_,_,rfl,⟨none,[],0,rfl,⟨by simp,fun h=>absurd rfl h⟩,by simp [NoZ],by simp [val]⟩,aK _ _⟩
 ·have e7:¬((len:Int)≤0):=by omega
  obtain⟨x0,hx0⟩:∃x,A[0]?=some x:=⟨_,cE (by omega)⟩;obtain⟨b,off,rfl,hbk,hx0B,hc0⟩:=h1.get hx0;have d2:∀w2,Bz w w2→w2.cell? ⟨b,off,none⟩=some (.int .u32 x0):=fun w2 a6=>(a6.cell (p:=⟨b,off,none⟩) (by show b<_;omega)).trans (by simpa using hc0)
  have d7:∀w2,Bz w w2→Cz 46 #[.slice (some ⟨b,off,none⟩) 0 cap] w2 fun e w'=>∃sv,e= .returned sv∧(∃a c,sv= .slice a 0 c∧LimS (jM w2.heap.size w'.heap.size) w' a [])∧Bz w2 w':=fun w2 a6=>vJ _ 0 [] (by simp) w2 (cJ _) ⟨_,cap,rfl,by simp,fun h=>absurd rfl h⟩
  have e6:0<len:=by omega
  have e8:(s:Int).tmod 32=s:=by rw [Int.tmod_eq_emod_of_nonneg (by omega)];omega
  have e0:(0:Int)≤(cap:Int):=by omega
  go_enter Tryz.func366,Tryz.ntmps366
  go_upto_region 4 with fail
  have a8:Bz w { w with drawn:=w.drawn+1 }:=BL w;refine Heavy.region_plan (Bz w) 19 (Heavy.lights [0,1,2] (.one 3 (.one 4 (Heavy.lights [5,6,7,8,9,10,11,12,13,14,15,16,17,18] .done)))) (by kernel_rfl) (by kernel_rfl) a8 ?_;simp only [Heavy.lights,gL,iJ,gS,gB]
  iterate 3 (apply Heavy.light_n;(exact rfl);(exact rfl);(intro b4 hw;go_simp;exact rfl))
  apply Heavy.one_n
  ·exact rfl
  ·exact rfl
  go_simp
  refine(d7 _ a8).mono ?_;rintro e w3 ⟨f1,rfl,⟨b1,e1,rfl,hL1⟩,hb3⟩;have a7:Bz w w3:=a8.trans hb3;refine⟨_,rfl,a7,?_⟩;apply Heavy.one_n
  ·exact rfl
  ·exact rfl
  go_simp
  refine(vP b1 0 e1 0 [] rfl (by decide) (cJ _) w3 (cJ _) ⟨by simp,fun h=>absurd rfl h⟩).mono ?_;rintro e w4 ⟨k4,rfl,hT4,hb4⟩;have a5:Bz w w4:=a7.trans (hb4.mono a7.size);obtain rfl:k4=0:=by have:=hT4.1;simp only [pN] at this;omega
  clear hT4;refine⟨_,rfl,a5,?_⟩
  iterate 3 (apply Heavy.light_n;(exact rfl);(exact rfl);(intro b4 hw;go_simp;exact rfl))
  iterate 10 (apply Heavy.light_step;(exact rfl);(go_simp);(intro b4 hw;have ka:=d2 b4 hw;go_simp;exact rfl))
  iterate 1 (apply Heavy.light_n;(exact rfl);(exact rfl);(intro b4 hw;go_simp;exact rfl))
  refine Heavy.plan_end ?_;have mk:(Instr.makeSlice 22 (.int .i64 (len:Int)) (.int .i64 (len:Int))).run Tryz.prog w4=_:=zV len (by omega) w4;obtain⟨wb,hwb⟩:=enm (w4.alloc (qI len));have b7:dP wb w4.heap.size (List.replicate len 0):=hwb▸yX w4 len;have c5:Bz w wb:=a5.trans ((hwb▸yZ w4 len).mono a5.size);have e9:IntKind.i64.wrap (len:Int)=(len:Int):=by rw [eF];omega
  obtain⟨bo,hbo⟩:=enm w4.heap.size;rw [hbo] at b7 mk;have c6:w.heap.size≤bo:=hbo▸a5.size;have b5:=aside3 b7 c5 c6;clear hb3 a7 hb4 a5 b7 c5 c6 hL1 a8 hbo
  go_wp2_with fail
  clear mk hwb;have c9:=aside hl
  go_loopw [44] (fun d8 wr=>∃(i:Nat) (ds:List Nat),d8= .int .i64 i∧i≤len∧Aside (ShrD 4294967296 (2^s) A i ds)∧dP wr bo (ds++List.replicate (len-i) 0)∧Bz w wr) (fun s _=>len-(intOf s).toNat)
  case atStart=>exact⟨0,[],rfl,cJ _,ShrD.start,by simpa using b5.o.1,b5.o.2.1⟩
  case round=>
   obtain⟨i,ds,rfl,hi,hD,hR,hB⟩:=hrel
   by_cases b9:i<len
   ·obtain⟨x,hx⟩:∃x,A[i]?=some x:=⟨_,cE (by omega)⟩;have a4:=h1.1 x (bV hx);have hc:wr.cell? ⟨b,off+i,none⟩=some (.int .u32 x):=by
     obtain⟨b',off',e,_,_,h⟩:=(h1.below hB hn).get hx;cases e;exact h
    obtain⟨z,hz⟩:∃z,len-i=z+1:=⟨len-i-1,by omega⟩;rw [hz,pL] at hR;obtain⟨y,hy⟩:∃y,y=dg A (i+1):=⟨_,rfl⟩;have c3:y<4294967296:=by rw [hy];exact BB (by decide) h1.1 _
    obtain⟨T,hT⟩:∃T,T=x+y*4294967296:=⟨_,rfl⟩;obtain⟨q,hq'⟩:∃q,q=T/2^s:=⟨_,rfl⟩;obtain⟨d,hd⟩:∃d,d=q%4294967296:=⟨_,rfl⟩;have a0:=ShrD.step (DM hs) (nN (by decide)) (nN (by decide)) hD.o hx a4;rw [←hy,←hT,←hq',←hd] at a0;have c7:=aside a0;have m1:IntKind.u64.wrap (x:Int)=(x:Int):=by rw [wrap_u64];omega
    have m2:(T:Int)/2^s=(q:Int):=by rw [hq'];simp
    have m3:IntKind.u32.wrap (q:Int)=(d:Int):=by rw [nS];omega
    have a9:=hD.o.len;obtain⟨c0,c1⟩:=hR.cell (IJ (c:=0) (rest:=List.replicate z 0) a9);have b6:=hR.set (k:=i) (d:=d);rw [II a9] at b6;have c4:=hB.setCell (p:=⟨bo,i,none⟩) b5.o.2.2 (.int .u32 d);obtain⟨e4,hi2,hwk⟩:=elt (i:=i) (n:=len) (by omega) (by omega);have c8:Aside (len-(i+1)=z):=by show _=_;omega
    have b0:=aside b9
    by_cases a1:i+1<len
    ·have d9:wr.cell? ⟨b,off+(i+1),none⟩=some (.int .u32 y):=by
      have d6:A[i+1]?=some y:=by rw [hy];exact uM (by omega)
      obtain⟨b',off',e,_,_,h⟩:=(h1.below hB hn).get d6;cases e;exact h
     have m4:IntKind.u64.wrap (y:Int)=(y:Int):=by rw [wrap_u64];omega
     have m5:IntKind.u64.wrap ((y:Int)*4294967296)=(y:Int)*4294967296:=by rw [wrap_u64];omega
     have m6:bits .or .u64 (x:Int) ((y:Int)*4294967296)=(T:Int):=by rw [Pq x y a4 c3,hT]
     have d3:(i:Int)+1<(len:Int):=by omega
     have e5:(0:Int)≤(i:Int)+1:=by omega
     clear a0 a9 hd hq' hT hy hz hR hB hD hx b9 a4 c3 a1
     go_wp2_with fail
     exact⟨⟨i+1,ds++ [d],by simp,by have:=b0.o;omega,c7,by rw [c8.o];simpa using b6,c4⟩,by have:=b0.o;simp [intOf];omega⟩
    ·have b2:y=0:=by rw [hy];exact BC (by omega)
     have d0:T=x:=by rw [hT,b2];omega
     subst d0;have d3:¬(i:Int)+1<(len:Int):=by omega
     clear a0 a9 hd hq' hT hy hz hR hB hD hx b9 a4 c3 a1 b2
     go_wp2_with fail
     exact⟨⟨i+1,ds++ [d],by simp,by have:=b0.o;omega,c7,by rw [c8.o];simpa using b6,c4⟩,by have:=b0.o;simp [intOf];omega⟩
   ·obtain rfl:i=len:=by omega
    have a3:=hD.o;rw [rQ,NU,yU] at hR;have hv:=(show ShrD 4294967296 (2^s) A A.length ds by rw [c9.o];exact a3).done (nN (by decide));have b8:dL wr.heap.size wr (some ⟨bo,0,none⟩) ds:=by
     have:=hR.lim0 a3.dig hR.lt i
     rwa [iW (by rw [a3.len];exact aA _)] at this
    have d5:=vP (some ⟨bo,0,none⟩) i i wr.heap.size ds a3.len (by omega) (aA _) wr (aA _) b8;have a2:Aside (val 4294967296 ds=val 4294967296 A/2^s∧ds.length=i∧dL wr.heap.size wr (some ⟨bo,0,none⟩) ds):=⟨hv,a3.len,b8⟩;clear hv b8 a3 hR hD
    go_wp2_with (go_at_call 367;with_reducible refine d5.mono ?_;rintro e w' ⟨k,rfl,hT,a6⟩)
    go_ret2
    have:=NatL.of_trim a2.o.2.1 hT a2.o.2.2 a6;rw [a2.o.1] at this;exact⟨_,_,rfl,this,hB.trans (a6.mono hB.size)⟩
end
structure DivS (B d:Nat) (A:List Nat) (j:Nat) (qs:List Nat) (rest:Nat):Prop where
 len:j+qs.length=A.length
 dig:∀q∈qs,q<B
 lt:rest<d
 sum:val B (A.drop j)=val B qs*d+rest
def DivS.start (hd:0<d):DivS B d A A.length [] 0:=⟨by simp,by simp,hd,by simp [val]⟩
def DivS.step {rest:Nat} (h:DivS B d A (j+1) qs rest) (hx:A[j]?=some x) (a1:x<B):(rest*B+x)/d<B∧DivS B d A j ((rest*B+x)/d::qs) ((rest*B+x)%d):=by
 have hd:0<d:=iV (cJ _) h.lt;have hq:(rest*B+x)/d<B:=by
  refine Ah ?_;have:(rest+1)*B≤d*B:=fP _ h.lt;rw [eO,oH] at this;omega
 refine⟨hq,⟨by have:=h.len;simp only [jD];omega,fun q hm=>?_,nP _ hd,?_⟩⟩
 ·rcases cN.1 hm with rfl|hm
  ·exact hq
  ·exact h.dig q hm
 ·obtain⟨h1,rfl⟩:=aZ.1 hx;rw [qF h1,val,h.sum,val];have e:=lZ (rest*B+A[j]) d;obtain⟨Q,hQ⟩:∃Q,Q=(rest*B+A[j])/d:=⟨_,rfl⟩;obtain⟨R,hR⟩:∃R,R=(rest*B+A[j])%d:=⟨_,rfl⟩;rw [←hQ,←hR] at e ⊢;rw [eO,eM,fH,dM Q d,dM B rest];omega
def DivS.done {rest:Nat} (h:DivS B d A 0 qs rest):val B A/d=val B qs∧val B A%d=rest:=by
 have h1:=h.sum;rw [gB] at h1;have hd:0<d:=iV (cJ _) h.lt;rw [h1,dM];exact⟨by rw [ZY hd,Nat.div_eq_of_lt h.lt,gQ],by rw [ZX,tH h.lt]⟩
def Ez:(List.replicate (j+1) 0++qs).set j q=List.replicate j 0++q::qs:=by
 rw [Ri,iP];exact II (by simp)
def Fb:(List.replicate (j+1) 0++qs)[j]?=some 0:=by
 rw [Ri,iP];exact IJ (by simp)
def Nb (a:Option Addr) (len cap n d:Nat) (A:List Nat) (hl:A.length=len) (hb:len≤1000000) (b4:0<d) (b5:d<4294967296) (w:Wo) (hn:n≤w.heap.size) (h1:dL n w a A):
  Cz 361 #[.slice a len cap,.int .u32 d] w fun e w'=>∃(q:Value) (r:Nat),e= .returned (.tuple #[q,.int .u32 r])∧r=val 4294967296 A%d∧NatL w'.heap.size w' q (val 4294967296 A/d)∧Bz w w':=by
 have mk:(Instr.makeSlice 22 (.int .i64 (len:Int)) (.int .i64 (len:Int))).run Tryz.prog w=_:=zV len (by omega) w;obtain⟨wb,hwb⟩:=enm (w.alloc (qI len));have a8:dP wb w.heap.size (List.replicate len 0):=hwb▸yX w len;have a6:Bz w wb:=hwb▸yZ w len;have a5:=aside2 a8 a6;have c6:IntKind.i64.wrap ((len:Int)-1)=(len:Int)-1:=by rw [eF];omega
 have c2:¬d=0:=by omega
 clear a8 a6;go_enter Tryz.func361,Tryz.ntmps361
 go_wp2_with fail
 clear mk hwb;have b2:=aside hl
 go_loopw [7,8] (fun s7 s8 wr=>∃(j rest:Nat) (qs:List Nat),s8= .int .i64 ((j:Int)-1)∧s7= .int .u64 rest∧Aside (DivS 4294967296 d A j qs rest)∧dP wr w.heap.size (List.replicate j 0++qs)∧Bz w wr) (fun _ s _=>(intOf s+1).toNat)
 case atStart=>exact⟨len,0,[],rfl,rfl,by rw [←b2.o];exact DivS.start b4,by simpa using a5.o.1,a5.o.2⟩
 case round=>
  obtain⟨j,rest,qs,rfl,rfl,hD,hR,hB⟩:=hrel
  by_cases a9:j=0
  ·subst a9;obtain⟨v1,v2⟩:=hD.o.done;have b7:=hD.o.lt;have a2:qs.length=len:=by have:=hD.o.len;omega
   rw [NU,lG] at hR;have a3:dL wr.heap.size wr (some ⟨w.heap.size,0,none⟩) qs:=by
    have:=hR.lim0 hD.o.dig hR.lt len
    rwa [iW (by omega)] at this
   have b9:=vP (some ⟨w.heap.size,0,none⟩) len len wr.heap.size qs a2 (by omega) (aA _) wr (aA _) a3;have a0:=aside4 v1 v2 a2 a3;have m1:IntKind.u32.wrap (rest:Int)=(rest:Int):=by rw [nS];omega
   clear v1 v2 b7 a2 a3 hR hD
   go_wp2_with (go_at_call 367;with_reducible refine b9.mono ?_;rintro e w' ⟨k,rfl,hT,hb2⟩)
   go_ret2
   refine⟨_,rest,rfl,a0.o.2.1.symm,?_,hB.trans (hb2.mono hB.size)⟩;rw [a0.o.1];exact NatL.of_trim a0.o.2.2.1 hT a0.o.2.2.2 hb2
  ·obtain⟨j,rfl⟩:∃j',j=j'+1:=⟨j-1,by omega⟩;have b6:j<len:=by have:=hD.o.len;omega
   obtain⟨x,hx⟩:∃x,A[j]?=some x:=⟨_,cE (by omega)⟩;obtain⟨b,off,rfl,hbk,a1,hc⟩:=(h1.below hB hn).get hx;obtain⟨b0,hstep⟩:=hD.o.step hx a1;have b1:rest<4294967296:=NP hD.o.lt b5;obtain⟨T,hT⟩:∃T,T=rest*4294967296+x:=⟨_,rfl⟩;obtain⟨q,hq⟩:∃q,q=T/d:=⟨_,rfl⟩;obtain⟨r2,hr2⟩:∃r2,r2=T%d:=⟨_,rfl⟩;rw [←hT,←hq,←hr2] at hstep;rw [←hT,←hq] at b0;have a4:r2<d:=hstep.lt;have b8:=aside hstep;have m1:IntKind.u64.wrap (x:Int)=(x:Int):=by rw [wrap_u64];omega
   have m2:IntKind.u64.wrap ((rest:Int)*4294967296)=(rest:Int)*4294967296:=by rw [wrap_u64];omega
   have m3:bits .or .u64 ((rest:Int)*4294967296) (x:Int)=(T:Int):=by rw [MQ rest x b1 a1,hT];simp
   have m4:IntKind.u64.wrap (d:Int)=(d:Int):=by rw [wrap_u64];omega
   have m5:(T:Int)/(d:Int)=(q:Int):=by rw [hq];simp
   have m6:IntKind.u64.wrap (q:Int)=(q:Int):=by rw [wrap_u64];omega
   have m7:IntKind.u32.wrap (q:Int)=(q:Int):=by rw [nS];omega
   have m8:(T:Int).tmod (d:Int)=(r2:Int):=by rw [hr2,Ba]
   have m9:IntKind.u64.wrap (r2:Int)=(r2:Int):=by rw [wrap_u64];omega
   obtain⟨c0,c1⟩:=hR.cell (Fb (j:=j) (qs:=qs));have a7:=hR.set (k:=j) (d:=q);rw [Ez] at a7;have b3:=hB.setCell (p:=⟨w.heap.size,j,none⟩) (aA _) (.int .u32 q);have c3:(j:Int)<(len:Int):=by omega
   have c4:(0:Int)≤(j:Int):=by omega
   have c5:IntKind.i64.wrap ((j:Int)-1)=(j:Int)-1:=by rw [eF];omega
   clear hstep hR hB hD hx b0 hq hr2 hT b6 a4 b1 a1 a9
   go_wp2_with fail
   exact⟨⟨j,r2,q::qs,rfl,rfl,b8,a7,b3⟩,by simp [intOf]⟩
def Ik (x:Nat) (hx:x<4294967296) (w:Wo):Cz 362 #[.int .u64 x] w fun e w'=>∃r,e= .returned r∧NatL w'.heap.size w' r x∧Bz w w':=by
 have m1:IntKind.u32.wrap (x:Int)=(x:Int):=by rw [nS];omega
 have m2:(x:Int)/4294967296=0:=by omega
 obtain⟨wb,hwb⟩:=enm (w.alloc (Obj.cells #[.int .u32 (x:Int),.int .u32 0] 83));have hR:dP wb w.heap.size [x,0]:=by
  rw [←hwb];unfold dP;show(w.heap.push _)[w.heap.size]?=_;rw [Sg];rfl
 have a2:Bz w wb:=hwb▸(aK _ _).alloc (aA _) _;have hd:∀y∈ [x,0],y<4294967296:=by
  intro y hy;simp at hy;rcases hy with rfl|rfl
  ·exact hx
  ·decide
 have a1:dL wb.heap.size wb (some ⟨w.heap.size,0,none⟩) [x,0]:=hR.lim0 hd hR.lt 2;have a3:=vP (some ⟨w.heap.size,0,none⟩) 2 2 wb.heap.size [x,0] rfl (by decide) (aA _) wb (aA _) a1;have a0:=aside a1;clear a1 hR hd;go_enter Tryz.func362,Tryz.ntmps362
 go_wp2_with (go_at_call 367;with_reducible refine a3.mono ?_;rintro e w' ⟨k,rfl,hT,hb2⟩)
 go_ret
 have:=NatL.of_trim rfl hT a0.o hb2;refine⟨_,rfl,?_,a2.trans (hb2.mono a2.size)⟩;have e:val 4294967296 [x,0]=x:=by simp [val]
 rw [e] at this;exact this
